import Derived.Test.YtknmgphnkfeifaaS1
import Derived.Test.YtknmgphnkfeifaaPA
namespace Go.Ab.S1
open Go Go.Ab Go.Pl
open Go.Proofs.Try
set_option linter.unusedVariables false
set_option maxRecDepth 100000
theorem ok_law06_great {n : Nat} {a0 : api_Table} {r : Bool} (hm : law06_great n a0 = some r) :
    call G n 11 [.agg [aS a0.fName, .pv (encSl R_api_Column a0.fCols)]] [] = some (.ret (aB r), []) := by
  unfold law06_great at hm
  obtain ⟨n, rfl, h0⟩ := at1_some hm
  replace hm := h0; clear h0
  refine callL 27 [(0, .agg [aS a0.fName, .pv (encSl R_api_Column a0.fCols)])] func11 rfl (by kernel_rfl) (sq (det [(1, .ptr 0 0)] [.box [aS a0.fName, .pv (encSl R_api_Column a0.fCols)] false] (by kernel_rfl) ?_))
  refine sq (sq (rg (sh 2 [(6, .pv (encSl R_api_Column a0.fCols)), (5, .ptr 0 1)] (by kernel_rfl) (dv 7 (v := aI ((sll a0.fCols).length : Int)) (len_slO R_api_Column a0.fCols t22 (by kernel_rfl)) (by kernel_rfl) (sh 2 [(9, aB (decide (((sll a0.fCols).length : Int) > 100))), (8, aB (decide (((sll a0.fCols).length : Int) > 100)))] (by kernel_rfl) ?_)))))
  refine seg (decide (((sll a0.fCols).length : Int) > 100)) [9, 8] (fun b => [(14, aB (b || (decide ((a0.fName.size : Int) > 500)))), (13, ifA b (.undef) (aB (decide ((a0.fName.size : Int) > 500)))), (12, ifA b (.undef) (aI (a0.fName.size : Int))), (11, ifA b (.undef) (aS a0.fName)), (10, ifA b (.undef) (.ptr 0 0))]) 10 (by kernel_rfl) ?_ ?_ ?_
  ·
   intro Q h
   refine sh 5 [(14, aB true), (13, .undef), (12, .undef), (11, .undef), (10, .undef)] (by kernel_rfl) ?_
   exact sameN (by kernel_rfl) (by kernel_rfl) h
  ·
   intro Q h
   refine sh 5 [(14, aB (decide ((a0.fName.size : Int) > 500))), (13, aB (decide ((a0.fName.size : Int) > 500))), (12, aI (a0.fName.size : Int)), (11, aS a0.fName), (10, .ptr 0 0)] (by kernel_rfl) ?_
   exact sameN (by kernel_rfl) (by kernel_rfl) h
  refine fin [(1, .ptr 0 0), (14, aB ((decide (((sll a0.fCols).length : Int) > 100)) || (decide ((a0.fName.size : Int) > 500))))] rfl (by kernel_rfl) ?_
  rcases bif_some hm with ⟨h1, hm⟩ | ⟨h1, hm⟩
  ·
   refine ct h1 (by kernel_rfl) (sq (detn [(2, aB true)] (by kernel_rfl) (wp_ret ?_)))
   obtain rfl := Option.some.inj hm
   exact ⟨trivial, by kernel_rfl⟩
  ·
   refine cf h1 (by kernel_rfl) (wp_skip ?_)
   obtain ⟨k4, hk4, hm⟩ := withK_some hm
   refine mid (fun t H => (∃ (y2 : Int) (y3 : Bool), k4 () = some r ∧ t = mk 27 [(16, .pv (encSl R_api_Column a0.fCols)), (17, aI ((sll a0.fCols).length : Int)), (18, aI y2), (19, aB y3)] ∧ H = [.box [aS a0.fName, .pv (encSl R_api_Column a0.fCols)] false])) ?_ ?_
   ·
    rintro _ _ ⟨y2, y3, hm, rfl, rfl⟩
    subst hk4
    refine sq (detn [(2, aB false)] (by kernel_rfl) (wp_ret ?_))
    obtain rfl := Option.some.inj hm
    exact ⟨trivial, by kernel_rfl⟩
   refine sq (rg (sh 2 [(16, .pv (encSl R_api_Column a0.fCols)), (15, .ptr 0 1)] (by kernel_rfl) (dv 17 (v := aI ((sll a0.fCols).length : Int)) (len_slO R_api_Column a0.fCols t22 (by kernel_rfl)) (by kernel_rfl) (sh 1 [(18, aI 0)] (by kernel_rfl) (fin [(16, .pv (encSl R_api_Column a0.fCols)), (17, aI ((sll a0.fCols).length : Int)), (18, aI 0)] rfl (by kernel_rfl) (bq ?_))))))
   refine loopF (fun mm t H => (∃ (y6 : Int), law06_great_l4 n a0 k4 mm y6 = some r ∧ t = mk 27 [(16, .pv (encSl R_api_Column a0.fCols)), (17, aI ((sll a0.fCols).length : Int)), (18, aI y6)] ∧ H = [.box [aS a0.fName, .pv (encSl R_api_Column a0.fCols)] false])) (⟨0, hm, rfl, rfl⟩) ?_ ?_
   · rintro _ _ ⟨y6, hm, _⟩; exact nomatch hm
   rintro m7 _ _ ⟨y6, hm, rfl, rfl⟩
   simp only [law06_great_l4] at hm
   refine sq (detn [(16, .pv (encSl R_api_Column a0.fCols)), (17, aI ((sll a0.fCols).length : Int)), (18, aI y6), (19, aB (decide (y6 < ((sll a0.fCols).length : Int))))] (by kernel_rfl) ?_)
   refine sq ?_
   rcases bif_some hm with ⟨h8, hm⟩ | ⟨h8, hm⟩
   ·
    refine ct h8 (by kernel_rfl) (wp_skip (sq (bq (sq (rg ?_)))))
    obtain ⟨x9, h10, hm⟩ := bs hm
    refine dv 20 (v := .pv (.ptr (R_api_Column x9) 0)) (ia_slO R_api_Column a0.fCols .i64 t22 t72 h10 rfl (by kernel_rfl)) (by kernel_rfl) (st 3 [(4, .ptr 1 0), (21, .agg [aS x9.fName, aI x9.fKind])] [.box [aS a0.fName, .pv (encSl R_api_Column a0.fCols)] false, .box [aS x9.fName, aI x9.fKind] false] (by kernel_rfl) (fin [(4, .ptr 1 0), (16, .pv (encSl R_api_Column a0.fCols)), (17, aI ((sll a0.fCols).length : Int)), (18, aI y6)] rfl (by kernel_rfl) (sq (detn [(16, .pv (encSl R_api_Column a0.fCols)), (17, aI ((sll a0.fCols).length : Int)), (18, aI y6), (25, aB (decide ((x9.fName.size : Int) > 500)))] (by kernel_rfl) ?_))))
    rcases bif_some hm with ⟨h11, hm⟩ | ⟨h11, hm⟩
    ·
     refine ct h11 (by kernel_rfl) (sq (detn [(2, aB true)] (by kernel_rfl) (wp_ret ?_)))
     obtain rfl := Option.some.inj hm
     exact ⟨trivial, by kernel_rfl⟩
    ·
     refine cf h11 (by kernel_rfl) (wp_skip (detn [(16, .pv (encSl R_api_Column a0.fCols)), (17, aI ((sll a0.fCols).length : Int)), (18, aI (IntKind.wrap .i64 (y6 + 1)))] (by kernel_rfl) ?_))
     exact ⟨_, _, tidyL [(16, .pv (encSl R_api_Column a0.fCols)), (17, aI ((sll a0.fCols).length : Int)), (18, aI (IntKind.wrap .i64 (y6 + 1)))] [.box [aS a0.fName, .pv (encSl R_api_Column a0.fCols)] false] (by kernel_rfl), ⟨(IntKind.wrap .i64 (y6 + 1)), hm, rfl, rfl⟩⟩
   ·
    refine cf h8 (by kernel_rfl) (wp_exit ?_)
    exact ⟨y6, (decide (y6 < ((sll a0.fCols).length : Int))), hm, rfl, rfl⟩
theorem ok_schema_Name {n : Nat} {a0 : ByteArray} {r : Bool} (hm : schema_Name n a0 = some r) :
    call G n 12 [aS a0] [] = some (.ret (aB r), []) := by
  unfold schema_Name at hm
  obtain ⟨n, rfl, h0⟩ := at1_some hm
  replace hm := h0; clear h0
  refine callL 47 [(0, aS a0)] func12 rfl (by kernel_rfl) (sq (detn [(0, aS a0)] (by kernel_rfl) ?_))
  obtain ⟨k3, hk3, hm⟩ := withK_some hm
  refine mid (fun t H => (∃ (y1 : Int) (y2 : Bool), k3 () = some r ∧ t = mk 47 [(0, aS a0), (7, aI (a0.size : Int)), (8, aI y1), (9, aB y2)] ∧ H = [])) ?_ ?_
  ·
   rintro _ _ ⟨y1, y2, hm, rfl, rfl⟩
   subst hk3
   refine sq (rg (sh 4 [(42, aB (decide ((a0.size : Int) > 0))), (41, aB (decide ((a0.size : Int) > 0))), (40, aI (a0.size : Int)), (39, aS a0)] (by kernel_rfl) ?_))
   refine seg (decide ((a0.size : Int) > 0)) [42, 41] (fun b => [(46, aB (b && (decide ((a0.size : Int) ≤ 20)))), (45, ifA b (aB (decide ((a0.size : Int) ≤ 20))) (.undef)), (44, ifA b (aI (a0.size : Int)) (.undef)), (43, ifA b (aS a0) (.undef))]) 8 (by kernel_rfl) ?_ ?_ ?_
   ·
    intro Q h
    refine sh 4 [(46, aB (decide ((a0.size : Int) ≤ 20))), (45, aB (decide ((a0.size : Int) ≤ 20))), (44, aI (a0.size : Int)), (43, aS a0)] (by kernel_rfl) ?_
    exact sameN (by kernel_rfl) (by kernel_rfl) h
   ·
    intro Q h
    refine sh 4 [(46, aB false), (45, .undef), (44, .undef), (43, .undef)] (by kernel_rfl) ?_
    exact sameN (by kernel_rfl) (by kernel_rfl) h
   refine sh 1 [(2, aB ((decide ((a0.size : Int) > 0)) && (decide ((a0.size : Int) ≤ 20))))] (by kernel_rfl) (fin [(2, aB ((decide ((a0.size : Int) > 0)) && (decide ((a0.size : Int) ≤ 20))))] rfl (by kernel_rfl) (wp_ret ?_))
   obtain rfl := Option.some.inj hm
   exact ⟨trivial, by kernel_rfl⟩
  refine sq (detn [(0, aS a0), (7, aI (a0.size : Int)), (8, aI 0)] (by kernel_rfl) (bq ?_))
  refine loopF (fun mm t H => (∃ (y5 : Int), schema_Name_l2 n a0 k3 mm y5 = some r ∧ t = mk 47 [(0, aS a0), (7, aI (a0.size : Int)), (8, aI y5)] ∧ H = [])) (⟨0, hm, rfl, rfl⟩) ?_ ?_
  · rintro _ _ ⟨y5, hm, _⟩; exact nomatch hm
  rintro m6 _ _ ⟨y5, hm, rfl, rfl⟩
  simp only [schema_Name_l2] at hm
  refine sq (detn [(0, aS a0), (7, aI (a0.size : Int)), (8, aI y5), (9, aB (decide (y5 < (a0.size : Int))))] (by kernel_rfl) ?_)
  refine sq ?_
  rcases bif_some hm with ⟨h7, hm⟩ | ⟨h7, hm⟩
  ·
   refine ct h7 (by kernel_rfl) (wp_skip (sq (bq (sq (detn [(0, aS a0), (3, aI y5), (7, aI (a0.size : Int)), (8, aI y5)] (by kernel_rfl) (sq (rg (sh 2 [(12, aI y5), (11, aS a0)] (by kernel_rfl) ?_))))))))
   obtain ⟨x8, h9, hm⟩ := bs hm
   refine dv 13 (v := aY x8) (ix_strO .i64 h9 (by kernel_rfl)) (by kernel_rfl) (sh 1 [(4, aY x8)] (by kernel_rfl) (fin [(0, aS a0), (3, aI y5), (4, aY x8), (7, aI (a0.size : Int)), (8, aI y5)] rfl (by kernel_rfl) ?_))
   refine sq (rg (sh 3 [(16, aB (decide (x8 ≥ 97))), (15, aB (decide (x8 ≥ 97))), (14, aY x8)] (by kernel_rfl) ?_))
   refine seg (decide (x8 ≥ 97)) [16, 15] (fun b => [(19, aB (b && (decide (x8 ≤ 122)))), (18, ifA b (aB (decide (x8 ≤ 122))) (.undef)), (17, ifA b (aY x8) (.undef))]) 6 (by kernel_rfl) ?_ ?_ ?_
   ·
    intro Q h
    refine sh 3 [(19, aB (decide (x8 ≤ 122))), (18, aB (decide (x8 ≤ 122))), (17, aY x8)] (by kernel_rfl) ?_
    exact sameN (by kernel_rfl) (by kernel_rfl) h
   ·
    intro Q h
    refine sh 3 [(19, aB false), (18, .undef), (17, .undef)] (by kernel_rfl) ?_
    exact sameN (by kernel_rfl) (by kernel_rfl) h
   refine sh 1 [(20, aB ((decide (x8 ≥ 97)) && (decide (x8 ≤ 122))))] (by kernel_rfl) ?_
   refine seg ((decide (x8 ≥ 97)) && (decide (x8 ≤ 122))) [20, 19] (fun b => [(23, aB (b || (x8 == 95))), (22, ifA b (.undef) (aB (x8 == 95))), (21, ifA b (.undef) (aY x8))]) 10 (by kernel_rfl) ?_ ?_ ?_
   ·
    intro Q h
    refine sh 3 [(23, aB true), (22, .undef), (21, .undef)] (by kernel_rfl) ?_
    exact sameN (by kernel_rfl) (by kernel_rfl) h
   ·
    intro Q h
    refine sh 3 [(23, aB (x8 == 95)), (22, aB (x8 == 95)), (21, aY x8)] (by kernel_rfl) ?_
    exact sameN (by kernel_rfl) (by kernel_rfl) h
   refine sh 1 [(5, aB (((decide (x8 ≥ 97)) && (decide (x8 ≤ 122))) || (x8 == 95)))] (by kernel_rfl) (fin [(0, aS a0), (3, aI y5), (4, aY x8), (5, aB (((decide (x8 ≥ 97)) && (decide (x8 ≤ 122))) || (x8 == 95))), (7, aI (a0.size : Int)), (8, aI y5)] rfl (by kernel_rfl) (sq (rg (sh 3 [(26, aB (!(((decide (x8 ≥ 97)) && (decide (x8 ≤ 122))) || (x8 == 95)))), (25, aB (!(((decide (x8 ≥ 97)) && (decide (x8 ≤ 122))) || (x8 == 95)))), (24, aB (((decide (x8 ≥ 97)) && (decide (x8 ≤ 122))) || (x8 == 95)))] (by kernel_rfl) ?_))))
   refine seg (!(((decide (x8 ≥ 97)) && (decide (x8 ≤ 122))) || (x8 == 95))) [26, 25] (fun b => [(37, aB (b && (((y5 == 0) || (decide (x8 < 48))) || (decide (x8 > 57))))), (36, ifA b (aB (((y5 == 0) || (decide (x8 < 48))) || (decide (x8 > 57)))) (.undef)), (35, ifA b (ifA ((y5 == 0) || (decide (x8 < 48))) (.undef) (aB (decide (x8 > 57)))) (.undef)), (34, ifA b (ifA ((y5 == 0) || (decide (x8 < 48))) (.undef) (aY x8)) (.undef)), (33, ifA b (aB ((y5 == 0) || (decide (x8 < 48)))) (.undef)), (32, ifA b (aB ((y5 == 0) || (decide (x8 < 48)))) (.undef)), (31, ifA b (ifA (y5 == 0) (.undef) (aB (decide (x8 < 48)))) (.undef)), (30, ifA b (ifA (y5 == 0) (.undef) (aY x8)) (.undef)), (29, ifA b (aB (y5 == 0)) (.undef)), (28, ifA b (aB (y5 == 0)) (.undef)), (27, ifA b (aI y5) (.undef))]) 14 (by kernel_rfl) ?_ ?_ ?_
   ·
    intro Q h
    refine sh 3 [(29, aB (y5 == 0)), (28, aB (y5 == 0)), (27, aI y5)] (by kernel_rfl) ?_
    refine seg (y5 == 0) [29, 28] (fun b => [(32, aB (b || (decide (x8 < 48)))), (31, ifA b (.undef) (aB (decide (x8 < 48)))), (30, ifA b (.undef) (aY x8))]) 9 (by kernel_rfl) ?_ ?_ ?_
    ·
     intro Q h
     refine sh 3 [(32, aB true), (31, .undef), (30, .undef)] (by kernel_rfl) ?_
     exact sameN (by kernel_rfl) (by kernel_rfl) h
    ·
     intro Q h
     refine sh 3 [(32, aB (decide (x8 < 48))), (31, aB (decide (x8 < 48))), (30, aY x8)] (by kernel_rfl) ?_
     exact sameN (by kernel_rfl) (by kernel_rfl) h
    refine sh 1 [(33, aB ((y5 == 0) || (decide (x8 < 48))))] (by kernel_rfl) ?_
    refine seg ((y5 == 0) || (decide (x8 < 48))) [33, 32] (fun b => [(36, aB (b || (decide (x8 > 57)))), (35, ifA b (.undef) (aB (decide (x8 > 57)))), (34, ifA b (.undef) (aY x8))]) 13 (by kernel_rfl) ?_ ?_ ?_
    ·
     intro Q h
     refine sh 3 [(36, aB true), (35, .undef), (34, .undef)] (by kernel_rfl) ?_
     exact sameN (by kernel_rfl) (by kernel_rfl) h
    ·
     intro Q h
     refine sh 3 [(36, aB (decide (x8 > 57))), (35, aB (decide (x8 > 57))), (34, aY x8)] (by kernel_rfl) ?_
     exact sameN (by kernel_rfl) (by kernel_rfl) h
    refine sh 1 [(37, aB (((y5 == 0) || (decide (x8 < 48))) || (decide (x8 > 57))))] (by kernel_rfl) ?_
    exact sameN (by kernel_rfl) (by kernel_rfl) h
   ·
    intro Q h
    refine sh 11 [(37, aB false), (36, .undef), (35, .undef), (34, .undef), (33, .undef), (32, .undef), (31, .undef), (30, .undef), (29, .undef), (28, .undef), (27, .undef)] (by kernel_rfl) ?_
    exact sameN (by kernel_rfl) (by kernel_rfl) h
   refine fin [(0, aS a0), (7, aI (a0.size : Int)), (8, aI y5), (37, aB ((!(((decide (x8 ≥ 97)) && (decide (x8 ≤ 122))) || (x8 == 95))) && (((y5 == 0) || (decide (x8 < 48))) || (decide (x8 > 57)))))] rfl (by kernel_rfl) ?_
   rcases bif_some hm with ⟨h10, hm⟩ | ⟨h10, hm⟩
   ·
    refine ct h10 (by kernel_rfl) (sq (detn [(2, aB false)] (by kernel_rfl) (wp_ret ?_)))
    obtain rfl := Option.some.inj hm
    exact ⟨trivial, by kernel_rfl⟩
   ·
    refine cf h10 (by kernel_rfl) (wp_skip (detn [(0, aS a0), (7, aI (a0.size : Int)), (8, aI (IntKind.wrap .i64 (y5 + 1)))] (by kernel_rfl) ?_))
    exact ⟨_, _, tidyL [(0, aS a0), (7, aI (a0.size : Int)), (8, aI (IntKind.wrap .i64 (y5 + 1)))] [] (by kernel_rfl), ⟨(IntKind.wrap .i64 (y5 + 1)), hm, rfl, rfl⟩⟩
  ·
   refine cf h7 (by kernel_rfl) (wp_exit ?_)
   exact ⟨y5, (decide (y5 < (a0.size : Int))), hm, rfl, rfl⟩
theorem ok_schema_Right {n : Nat} {a0 : api_Table} {r : Int} (hm : schema_Right n a0 = some r) :
    call G n 14 [.agg [aS a0.fName, .pv (encSl R_api_Column a0.fCols)]] [] = some (.ret (aI r), []) := by
  unfold schema_Right at hm
  obtain ⟨n, rfl, h0⟩ := at1_some hm
  replace hm := h0; clear h0
  refine callL 57 [(0, .agg [aS a0.fName, .pv (encSl R_api_Column a0.fCols)])] func14 rfl (by kernel_rfl) (sq (det [(1, .ptr 0 0)] [.box [aS a0.fName, .pv (encSl R_api_Column a0.fCols)] false] (by kernel_rfl) ?_))
  refine sq (sq (rg (sh 2 [(8, aS a0.fName), (7, .ptr 0 0)] (by kernel_rfl) ?_)))
  obtain ⟨x1, h2, hm⟩ := bs hm
  refine dv 9 (cpure (by kernel_rfl) (ok_schema_Name h2) (by kernel_rfl) (by kernel_rfl) (by kernel_rfl)) (by kernel_rfl) (sh 2 [(11, aB (!x1)), (10, aB (!x1))] (by kernel_rfl) ?_)
  refine seg (!x1) [11, 10] (fun b => [(16, aB (b || (decide (((sll a0.fCols).length : Int) < 1)))), (15, ifA b (.undef) (aB (decide (((sll a0.fCols).length : Int) < 1)))), (14, ifA b (.undef) (aI ((sll a0.fCols).length : Int))), (13, ifA b (.undef) (.pv (encSl R_api_Column a0.fCols))), (12, ifA b (.undef) (.ptr 0 1))]) 10 (by kernel_rfl) ?_ ?_ ?_
  ·
   intro Q h
   refine sh 5 [(16, aB true), (15, .undef), (14, .undef), (13, .undef), (12, .undef)] (by kernel_rfl) ?_
   exact sameN (by kernel_rfl) (by kernel_rfl) h
  ·
   intro Q h
   refine sh 2 [(13, .pv (encSl R_api_Column a0.fCols)), (12, .ptr 0 1)] (by kernel_rfl) (dv 14 (v := aI ((sll a0.fCols).length : Int)) (len_slO R_api_Column a0.fCols t22 (by kernel_rfl)) (by kernel_rfl) (sh 2 [(16, aB (decide (((sll a0.fCols).length : Int) < 1))), (15, aB (decide (((sll a0.fCols).length : Int) < 1)))] (by kernel_rfl) ?_))
   exact sameN (by kernel_rfl) (by kernel_rfl) h
  refine sh 1 [(17, aB ((!x1) || (decide (((sll a0.fCols).length : Int) < 1))))] (by kernel_rfl) ?_
  refine seg ((!x1) || (decide (((sll a0.fCols).length : Int) < 1))) [17, 16] (fun b => [(22, aB (b || (decide (((sll a0.fCols).length : Int) > 8)))), (21, ifA b (.undef) (aB (decide (((sll a0.fCols).length : Int) > 8)))), (20, ifA b (.undef) (aI ((sll a0.fCols).length : Int))), (19, ifA b (.undef) (.pv (encSl R_api_Column a0.fCols))), (18, ifA b (.undef) (.ptr 0 1))]) 16 (by kernel_rfl) ?_ ?_ ?_
  ·
   intro Q h
   refine sh 5 [(22, aB true), (21, .undef), (20, .undef), (19, .undef), (18, .undef)] (by kernel_rfl) ?_
   exact sameN (by kernel_rfl) (by kernel_rfl) h
  ·
   intro Q h
   refine sh 2 [(19, .pv (encSl R_api_Column a0.fCols)), (18, .ptr 0 1)] (by kernel_rfl) (dv 20 (v := aI ((sll a0.fCols).length : Int)) (len_slO R_api_Column a0.fCols t22 (by kernel_rfl)) (by kernel_rfl) (sh 2 [(22, aB (decide (((sll a0.fCols).length : Int) > 8))), (21, aB (decide (((sll a0.fCols).length : Int) > 8)))] (by kernel_rfl) ?_))
   exact sameN (by kernel_rfl) (by kernel_rfl) h
  refine fin [(1, .ptr 0 0), (22, aB (((!x1) || (decide (((sll a0.fCols).length : Int) < 1))) || (decide (((sll a0.fCols).length : Int) > 8))))] rfl (by kernel_rfl) ?_
  rcases bif_some hm with ⟨h3, hm⟩ | ⟨h3, hm⟩
  ·
   refine ct h3 (by kernel_rfl) (sq (detn [(2, aI 2)] (by kernel_rfl) (wp_ret ?_)))
   obtain rfl := Option.some.inj hm
   exact ⟨trivial, by kernel_rfl⟩
  ·
   refine cf h3 (by kernel_rfl) (wp_skip (sq (det [(1, .ptr 0 0), (3, .map 1)] [.box [aS a0.fName, .pv (encSl R_api_Column a0.fCols)] false, .map 9 4 (([] : List (ByteArray × Bool)).map (rMap PV.str PV.bool))] (by kernel_rfl) (sq (detn [(1, .ptr 0 0), (3, .map 1), (4, aB false)] (by kernel_rfl) ?_)))))
   obtain ⟨k8, hk8, hm⟩ := withK_some hm
   refine mid (fun t H => (∃ (y4 : (List (ByteArray × Bool))) (y5 : Int) (y6 : Bool) (y7 : Bool), k8 y7 = some r ∧ t = mk 57 [(3, .map 1), (4, aB y7), (25, .pv (encSl R_api_Column a0.fCols)), (26, aI ((sll a0.fCols).length : Int)), (27, aI y5), (28, aB y6)] ∧ H = [.box [aS a0.fName, .pv (encSl R_api_Column a0.fCols)] false, .map 9 4 (y4.map (rMap PV.str PV.bool))])) ?_ ?_
   ·
    rintro _ _ ⟨y4, y5, y6, y7, hm, rfl, rfl⟩
    subst hk8
    refine sq (sq (detn [(56, aB y7)] (by kernel_rfl) ?_))
    rcases bif_some hm with ⟨h9, hm⟩ | ⟨h9, hm⟩
    ·
     refine ct h9 (by kernel_rfl) (sq (detn [(2, aI 41)] (by kernel_rfl) (wp_ret ?_)))
     obtain rfl := Option.some.inj hm
     exact ⟨trivial, by kernel_rfl⟩
    ·
     refine cf h9 (by kernel_rfl) (wp_skip (sq (detn [(2, aI 0)] (by kernel_rfl) (wp_ret ?_))))
     obtain rfl := Option.some.inj hm
     exact ⟨trivial, by kernel_rfl⟩
   refine sq (rg (sh 2 [(25, .pv (encSl R_api_Column a0.fCols)), (24, .ptr 0 1)] (by kernel_rfl) (dv 26 (v := aI ((sll a0.fCols).length : Int)) (len_slO R_api_Column a0.fCols t22 (by kernel_rfl)) (by kernel_rfl) (sh 1 [(27, aI 0)] (by kernel_rfl) (fin [(3, .map 1), (4, aB false), (25, .pv (encSl R_api_Column a0.fCols)), (26, aI ((sll a0.fCols).length : Int)), (27, aI 0)] rfl (by kernel_rfl) (bq ?_))))))
   refine loopF (fun mm t H => (∃ (y13 : (List (ByteArray × Bool))) (y14 : Int) (y15 : Bool), schema_Right_l6 n a0 k8 mm y13 y14 y15 = some r ∧ t = mk 57 [(3, .map 1), (4, aB y15), (25, .pv (encSl R_api_Column a0.fCols)), (26, aI ((sll a0.fCols).length : Int)), (27, aI y14)] ∧ H = [.box [aS a0.fName, .pv (encSl R_api_Column a0.fCols)] false, .map 9 4 (y13.map (rMap PV.str PV.bool))])) (⟨([] : List (ByteArray × Bool)), 0, false, hm, rfl, rfl⟩) ?_ ?_
   · rintro _ _ ⟨y13, y14, y15, hm, _⟩; exact nomatch hm
   rintro m16 _ _ ⟨y13, y14, y15, hm, rfl, rfl⟩
   simp only [schema_Right_l6] at hm
   refine sq (detn [(3, .map 1), (4, aB y15), (25, .pv (encSl R_api_Column a0.fCols)), (26, aI ((sll a0.fCols).length : Int)), (27, aI y14), (28, aB (decide (y14 < ((sll a0.fCols).length : Int))))] (by kernel_rfl) ?_)
   refine sq ?_
   rcases bif_some hm with ⟨h17, hm⟩ | ⟨h17, hm⟩
   ·
    refine ct h17 (by kernel_rfl) (wp_skip (sq (bq (sq (rg ?_)))))
    obtain ⟨x18, h19, hm⟩ := bs hm
    refine dv 29 (v := .pv (.ptr (R_api_Column x18) 0)) (ia_slO R_api_Column a0.fCols .i64 t22 t72 h19 rfl (by kernel_rfl)) (by kernel_rfl) (st 3 [(6, .ptr 2 0), (30, .agg [aS x18.fName, aI x18.fKind])] [.box [aS a0.fName, .pv (encSl R_api_Column a0.fCols)] false, .map 9 4 (y13.map (rMap PV.str PV.bool)), .box [aS x18.fName, aI x18.fKind] false] (by kernel_rfl) (fin [(3, .map 1), (4, aB y15), (6, .ptr 2 0), (25, .pv (encSl R_api_Column a0.fCols)), (26, aI ((sll a0.fCols).length : Int)), (27, aI y14)] rfl (by kernel_rfl) ?_))
    refine sq (sq (rg (sh 2 [(32, aS x18.fName), (31, .ptr 2 0)] (by kernel_rfl) ?_)))
    obtain ⟨x20, h21, hm⟩ := bs hm
    refine dv 33 (cpure (by kernel_rfl) (ok_schema_Name h21) (by kernel_rfl) (by kernel_rfl) (by kernel_rfl)) (by kernel_rfl) (sh 2 [(35, aB (!x20)), (34, aB (!x20))] (by kernel_rfl) ?_)
    refine seg (!x20) [35, 34] (fun b => [(39, aB (b || (decide (x18.fKind < 1)))), (38, ifA b (.undef) (aB (decide (x18.fKind < 1)))), (37, ifA b (.undef) (aI x18.fKind)), (36, ifA b (.undef) (.ptr 2 1))]) 9 (by kernel_rfl) ?_ ?_ ?_
    ·
     intro Q h
     refine sh 4 [(39, aB true), (38, .undef), (37, .undef), (36, .undef)] (by kernel_rfl) ?_
     exact sameN (by kernel_rfl) (by kernel_rfl) h
    ·
     intro Q h
     refine sh 4 [(39, aB (decide (x18.fKind < 1))), (38, aB (decide (x18.fKind < 1))), (37, aI x18.fKind), (36, .ptr 2 1)] (by kernel_rfl) ?_
     exact sameN (by kernel_rfl) (by kernel_rfl) h
    refine sh 1 [(40, aB ((!x20) || (decide (x18.fKind < 1))))] (by kernel_rfl) ?_
    refine seg ((!x20) || (decide (x18.fKind < 1))) [40, 39] (fun b => [(44, aB (b || (decide (x18.fKind > 4)))), (43, ifA b (.undef) (aB (decide (x18.fKind > 4)))), (42, ifA b (.undef) (aI x18.fKind)), (41, ifA b (.undef) (.ptr 2 1))]) 14 (by kernel_rfl) ?_ ?_ ?_
    ·
     intro Q h
     refine sh 4 [(44, aB true), (43, .undef), (42, .undef), (41, .undef)] (by kernel_rfl) ?_
     exact sameN (by kernel_rfl) (by kernel_rfl) h
    ·
     intro Q h
     refine sh 4 [(44, aB (decide (x18.fKind > 4))), (43, aB (decide (x18.fKind > 4))), (42, aI x18.fKind), (41, .ptr 2 1)] (by kernel_rfl) ?_
     exact sameN (by kernel_rfl) (by kernel_rfl) h
    refine fin [(3, .map 1), (4, aB y15), (6, .ptr 2 0), (25, .pv (encSl R_api_Column a0.fCols)), (26, aI ((sll a0.fCols).length : Int)), (27, aI y14), (44, aB (((!x20) || (decide (x18.fKind < 1))) || (decide (x18.fKind > 4))))] rfl (by kernel_rfl) ?_
    rcases bif_some hm with ⟨h22, hm⟩ | ⟨h22, hm⟩
    ·
     refine ct h22 (by kernel_rfl) (sq (detn [(2, aI 2)] (by kernel_rfl) (wp_ret ?_)))
     obtain rfl := Option.some.inj hm
     exact ⟨trivial, by kernel_rfl⟩
    ·
     refine cf h22 (by kernel_rfl) (wp_skip (sq (rg (sh 2 [(46, aB y15), (45, aB y15)] (by kernel_rfl) ?_))))
     refine seg y15 [46, 45, 4] (fun b => [(51, aB (b || ((mget y13 x18.fName).getD false))), (50, ifA b (.undef) (aB ((mget y13 x18.fName).getD false))), (49, ifA b (.undef) (aS x18.fName)), (48, ifA b (.undef) (.ptr 2 0)), (47, ifA b (.undef) (.map 1))]) 7 (by kernel_rfl) ?_ ?_ ?_
     ·
      intro Q h
      refine sh 5 [(51, aB true), (50, .undef), (49, .undef), (48, .undef), (47, .undef)] (by kernel_rfl) ?_
      exact sameN (by kernel_rfl) (by kernel_rfl) h
     ·
      intro Q h
      refine sh 3 [(49, aS x18.fName), (48, .ptr 2 0), (47, .map 1)] (by kernel_rfl) (dv 50 (v := aB ((mget y13 x18.fName).getD false)) (lookup_str (id := 1) PV.bool false y13 x18.fName t74 t9 t4 rfl rfl rfl rfl (by kernel_rfl)) (by kernel_rfl) (sh 1 [(51, aB ((mget y13 x18.fName).getD false))] (by kernel_rfl) ?_))
      exact sameN (by kernel_rfl) (by kernel_rfl) h
     refine sh 1 [(4, aB (y15 || ((mget y13 x18.fName).getD false)))] (by kernel_rfl) (fin [(3, .map 1), (4, aB (y15 || ((mget y13 x18.fName).getD false))), (6, .ptr 2 0), (25, .pv (encSl R_api_Column a0.fCols)), (26, aI ((sll a0.fCols).length : Int)), (27, aI y14)] rfl (by kernel_rfl) (rg (sh 3 [(54, aS x18.fName), (53, .ptr 2 0), (52, .map 1)] (by kernel_rfl) (dO [] [.box [aS a0.fName, .pv (encSl R_api_Column a0.fCols)] false, .map 9 4 ((mput y13 x18.fName true).map (rMap PV.str PV.bool)), .box [aS x18.fName, aI x18.fKind] false] (mapUpd_str (id := 1) PV.bool y13 x18.fName true t74 t9 rfl rfl (by kernel_rfl)) (by kernel_rfl) (fin [(3, .map 1), (4, aB (y15 || ((mget y13 x18.fName).getD false))), (25, .pv (encSl R_api_Column a0.fCols)), (26, aI ((sll a0.fCols).length : Int)), (27, aI y14)] rfl (by kernel_rfl) (detn [(3, .map 1), (4, aB (y15 || ((mget y13 x18.fName).getD false))), (25, .pv (encSl R_api_Column a0.fCols)), (26, aI ((sll a0.fCols).length : Int)), (27, aI (IntKind.wrap .i64 (y14 + 1)))] (by kernel_rfl) ?_))))))
     exact ⟨_, _, tidyL [(3, .map 1), (4, aB (y15 || ((mget y13 x18.fName).getD false))), (25, .pv (encSl R_api_Column a0.fCols)), (26, aI ((sll a0.fCols).length : Int)), (27, aI (IntKind.wrap .i64 (y14 + 1)))] [.box [aS a0.fName, .pv (encSl R_api_Column a0.fCols)] false, .map 9 4 ((mput y13 x18.fName true).map (rMap PV.str PV.bool))] (by kernel_rfl), ⟨(mput y13 x18.fName true), (IntKind.wrap .i64 (y14 + 1)), (y15 || ((mget y13 x18.fName).getD false)), hm, rfl, rfl⟩⟩
   ·
    refine cf h17 (by kernel_rfl) (wp_exit ?_)
    exact ⟨y13, y14, (decide (y14 < ((sll a0.fCols).length : Int))), y15, hm, rfl, rfl⟩
theorem ok_schema_Column_1 {n : Nat} {a0 : api_Column} {a1 : ByteArray} {r : Bool} (hm : schema_Column_1 n a0 a1 = some r) :
    call G n 47 [.agg [aS a0.fName, aI a0.fKind], .pv (.ptr [.str a1] 0)] [] = some (.ret (aB r), []) := by
  unfold schema_Column_1 at hm
  obtain ⟨n, rfl, h0⟩ := at1_some hm
  replace hm := h0; clear h0
  refine callL 8 [(0, .agg [aS a0.fName, aI a0.fKind]), (1, .pv (.ptr [.str a1] 0))] func47 rfl (by kernel_rfl) (sq (det [(1, .pv (.ptr [.str a1] 0)), (2, .ptr 0 0)] [.box [aS a0.fName, aI a0.fKind] false] (by kernel_rfl) (sq (detn [(3, aB (sEq a0.fName a1))] (by kernel_rfl) (wp_ret ?_)))))
  obtain rfl := Option.some.inj hm
  exact ⟨trivial, by kernel_rfl⟩
theorem ok_slices_IndexFunc_Column_schema_Column_1 {n : Nat} {a0 : (Option (List api_Column))} {a1 : ByteArray} {r : Int} (hm : slices_IndexFunc_Column_schema_Column_1 n a0 a1 = some r) :
    call G n 46 [.pv (encSl R_api_Column a0), .pv (.fn 47 [] [.ptr [.str a1] 0])] [] = some (.ret (aI r), []) := by
  unfold slices_IndexFunc_Column_schema_Column_1 at hm
  obtain ⟨n, rfl, h0⟩ := at1_some hm
  replace hm := h0; clear h0
  refine callL 19 [(0, .pv (encSl R_api_Column a0)), (1, .pv (.fn 47 [] [.ptr [.str a1] 0]))] func46 rfl (by kernel_rfl) (sq (detn [(0, .pv (encSl R_api_Column a0)), (1, .pv (.fn 47 [] [.ptr [.str a1] 0]))] (by kernel_rfl) ?_))
  obtain ⟨k3, hk3, hm⟩ := withK_some hm
  refine mid (fun t H => (∃ (y1 : Int) (y2 : Bool), k3 () = some r ∧ t = mk 19 [(0, .pv (encSl R_api_Column a0)), (1, .pv (.fn 47 [] [.ptr [.str a1] 0])), (7, aI ((sll a0).length : Int)), (8, aI y1), (9, aB y2)] ∧ H = [])) ?_ ?_
  ·
   rintro _ _ ⟨y1, y2, hm, rfl, rfl⟩
   subst hk3
   refine sq (detn [(4, aI (-1))] (by kernel_rfl) (wp_ret ?_))
   obtain rfl := Option.some.inj hm
   exact ⟨trivial, by kernel_rfl⟩
  refine sq (rg (sh 1 [(6, .pv (encSl R_api_Column a0))] (by kernel_rfl) (dv 7 (v := aI ((sll a0).length : Int)) (len_slO R_api_Column a0 t22 (by kernel_rfl)) (by kernel_rfl) (sh 1 [(8, aI 0)] (by kernel_rfl) (fin [(0, .pv (encSl R_api_Column a0)), (1, .pv (.fn 47 [] [.ptr [.str a1] 0])), (7, aI ((sll a0).length : Int)), (8, aI 0)] rfl (by kernel_rfl) (bq ?_))))))
  refine loopF (fun mm t H => (∃ (y5 : Int), slices_IndexFunc_Column_schema_Column_1_l2 n a0 a1 k3 mm y5 = some r ∧ t = mk 19 [(0, .pv (encSl R_api_Column a0)), (1, .pv (.fn 47 [] [.ptr [.str a1] 0])), (7, aI ((sll a0).length : Int)), (8, aI y5)] ∧ H = [])) (⟨0, hm, rfl, rfl⟩) ?_ ?_
  · rintro _ _ ⟨y5, hm, _⟩; exact nomatch hm
  rintro m6 _ _ ⟨y5, hm, rfl, rfl⟩
  simp only [slices_IndexFunc_Column_schema_Column_1_l2] at hm
  refine sq (detn [(0, .pv (encSl R_api_Column a0)), (1, .pv (.fn 47 [] [.ptr [.str a1] 0])), (7, aI ((sll a0).length : Int)), (8, aI y5), (9, aB (decide (y5 < ((sll a0).length : Int))))] (by kernel_rfl) ?_)
  refine sq ?_
  rcases bif_some hm with ⟨h7, hm⟩ | ⟨h7, hm⟩
  ·
   refine ct h7 (by kernel_rfl) (wp_skip (sq (bq (sq (detn [(0, .pv (encSl R_api_Column a0)), (1, .pv (.fn 47 [] [.ptr [.str a1] 0])), (5, aI y5), (7, aI ((sll a0).length : Int)), (8, aI y5)] (by kernel_rfl) (sq (rg (sh 3 [(13, aI y5), (12, .pv (encSl R_api_Column a0)), (11, .pv (.fn 47 [] [.ptr [.str a1] 0]))] (by kernel_rfl) ?_))))))))
   obtain ⟨x8, h9, hm⟩ := bs hm
   refine dv 14 (v := .pv (.ptr (R_api_Column x8) 0)) (ia_slO R_api_Column a0 .i64 t22 t72 h9 rfl (by kernel_rfl)) (by kernel_rfl) (sh 1 [(15, .agg [aS x8.fName, aI x8.fKind])] (by kernel_rfl) ?_)
   obtain ⟨x10, h11, hm⟩ := bs hm
   refine dv 16 (cpure (by kernel_rfl) (ok_schema_Column_1 h11) (by kernel_rfl) (by kernel_rfl) (by kernel_rfl)) (by kernel_rfl) (fin [(0, .pv (encSl R_api_Column a0)), (1, .pv (.fn 47 [] [.ptr [.str a1] 0])), (5, aI y5), (7, aI ((sll a0).length : Int)), (8, aI y5), (16, aB x10)] rfl (by kernel_rfl) ?_)
   rcases bif_some hm with ⟨h12, hm⟩ | ⟨h12, hm⟩
   ·
    refine ct h12 (by kernel_rfl) (sq (detn [(4, aI y5)] (by kernel_rfl) (wp_ret ?_)))
    obtain rfl := Option.some.inj hm
    exact ⟨trivial, by kernel_rfl⟩
   ·
    refine cf h12 (by kernel_rfl) (wp_skip (detn [(0, .pv (encSl R_api_Column a0)), (1, .pv (.fn 47 [] [.ptr [.str a1] 0])), (7, aI ((sll a0).length : Int)), (8, aI (IntKind.wrap .i64 (y5 + 1)))] (by kernel_rfl) ?_))
    exact ⟨_, _, tidyL [(0, .pv (encSl R_api_Column a0)), (1, .pv (.fn 47 [] [.ptr [.str a1] 0])), (7, aI ((sll a0).length : Int)), (8, aI (IntKind.wrap .i64 (y5 + 1)))] [] (by kernel_rfl), ⟨(IntKind.wrap .i64 (y5 + 1)), hm, rfl, rfl⟩⟩
  ·
   refine cf h7 (by kernel_rfl) (wp_exit ?_)
   exact ⟨y5, (decide (y5 < ((sll a0).length : Int))), hm, rfl, rfl⟩
theorem ok_schema_Column {n : Nat} {a0 : api_Table} {a1 : ByteArray} {r : Int} (hm : schema_Column n a0 a1 = some r) :
    call G n 16 [.agg [aS a0.fName, .pv (encSl R_api_Column a0.fCols)], aS a1] [] = some (.ret (aI r), []) := by
  unfold schema_Column at hm
  obtain ⟨n, rfl, h0⟩ := at1_some hm
  replace hm := h0; clear h0
  refine callL 9 [(0, .agg [aS a0.fName, .pv (encSl R_api_Column a0.fCols)]), (1, aS a1)] func16 rfl (by kernel_rfl) (sq (det [(2, .ptr 0 0), (3, .ptr 1 0)] [.box [aS a0.fName, .pv (encSl R_api_Column a0.fCols)] false, .box [aS a1] false] (by kernel_rfl) (sq (rg (sh 3 [(7, .fn 47 [] [.ptr 1 0]), (6, .pv (encSl R_api_Column a0.fCols)), (5, .ptr 0 1)] (by kernel_rfl) ?_)))))
  obtain ⟨x1, h2, hm⟩ := bs hm
  refine dO [(8, aI x1)] [.box [aS a0.fName, .pv (encSl R_api_Column a0.fCols)] false, .box [aS a1] false] (cpureR [1] [.pv (encSl R_api_Column a0.fCols), .fn 47 [] [.ptr 1 0]] (fl := true) (by kernel_rfl) (by kernel_rfl) (by kernel_rfl) (ok_slices_IndexFunc_Column_schema_Column_1 h2) (by kernel_rfl) (by kernel_rfl)) (by kernel_rfl) (sh 1 [(4, aI x1)] (by kernel_rfl) (fin [(4, aI x1)] rfl (by kernel_rfl) (wp_ret ?_)))
  obtain rfl := Option.some.inj hm
  exact ⟨trivial, by kernel_rfl⟩
theorem ok_math_Signbit {n : Nat} {a0 : Nat} {r : Bool} (hm : math_Signbit n a0 = some r) :
    call G n 42 [aF a0] [] = some (.ret (aB r), []) := by
  unfold math_Signbit at hm
  obtain ⟨n, rfl, h0⟩ := at1_some hm
  replace hm := h0; clear h0
  refine callL 7 [(0, aF a0)] func42 rfl (by kernel_rfl) (sq (detn [(0, aF a0)] (by kernel_rfl) (sq (rg (sh 1 [(3, aF a0)] (by kernel_rfl) (sh 1 [(4, aU (a0 : Int))] (by kernel_rfl) (sh 3 [(2, aB (decide ((IntKind.wrap .i64 (a0 : Int)) < 0))), (6, aB (decide ((IntKind.wrap .i64 (a0 : Int)) < 0))), (5, aI (IntKind.wrap .i64 (a0 : Int)))] (by kernel_rfl) (fin [(2, aB (decide ((IntKind.wrap .i64 (a0 : Int)) < 0)))] rfl (by kernel_rfl) (wp_ret ?_)))))))))
  obtain rfl := Option.some.inj hm
  exact ⟨trivial, by kernel_rfl⟩
theorem ok_value_Right {n : Nat} {a0 : api_Value} {r : Bool} (hm : value_Right n a0 = some r) :
    call G n 61 [.agg [aI a0.fKind, aI a0.fInt, aF a0.fFloat, aS a0.fText]] [] = some (.ret (aB r), []) := by
  unfold value_Right at hm
  obtain ⟨n, rfl, h0⟩ := at1_some hm
  replace hm := h0; clear h0
  refine callL 70 [(0, .agg [aI a0.fKind, aI a0.fInt, aF a0.fFloat, aS a0.fText])] func61 rfl (by kernel_rfl) (sq (det [(1, .ptr 0 0)] [.box [aI a0.fKind, aI a0.fInt, aF a0.fFloat, aS a0.fText] false] (by kernel_rfl) ?_))
  obtain ⟨k2, hk2, hm⟩ := withK_some hm
  refine mid (fun t H => (∃ (y1 : Bool), k2 y1 = some r ∧ t = mk 70 [(1, .ptr 0 0), (3, aB y1)] ∧ H = [.box [aI a0.fKind, aI a0.fInt, aF a0.fFloat, aS a0.fText] false])) ?_ ?_
  ·
   rintro _ _ ⟨y1, hm, rfl, rfl⟩
   subst hk2
   refine sq (sq (detn [(1, .ptr 0 0), (3, aB y1), (14, aI a0.fKind)] (by kernel_rfl) (bq ?_)))
   refine sq (bq ?_)
   refine sq (bq ?_)
   obtain ⟨k6, hk6, hm⟩ := withK_some hm
   refine mid (fun t H => (∃ (w3 : AV) (w4 : AV) (w5 : AV), k6 () = some r ∧ t = mk 70 [(1, .ptr 0 0), (3, aB y1), (14, w3), (19, w4), (43, w5)] ∧ H = [.box [aI a0.fKind, aI a0.fInt, aF a0.fFloat, aS a0.fText] false])) ?_ ?_
   ·
    rintro _ _ ⟨w3, w4, w5, hm, rfl, rfl⟩
    subst hk6
    refine sq (sq (rg (sh 2 [(45, aB y1), (44, aB y1)] (by kernel_rfl) ?_)))
    refine seg y1 [45, 44, 3] (fun b => [(49, aB (b && (sEq a0.fText ByteArray.empty))), (48, ifA b (aB (sEq a0.fText ByteArray.empty)) (.undef)), (47, ifA b (aS a0.fText) (.undef)), (46, ifA b (.ptr 0 3) (.undef))]) 6 (by kernel_rfl) ?_ ?_ ?_
    ·
     intro Q h
     refine sh 4 [(49, aB (sEq a0.fText ByteArray.empty)), (48, aB (sEq a0.fText ByteArray.empty)), (47, aS a0.fText), (46, .ptr 0 3)] (by kernel_rfl) ?_
     exact sameN (by kernel_rfl) (by kernel_rfl) h
    ·
     intro Q h
     refine sh 4 [(49, aB false), (48, .undef), (47, .undef), (46, .undef)] (by kernel_rfl) ?_
     exact sameN (by kernel_rfl) (by kernel_rfl) h
    refine sh 1 [(2, aB (y1 && (sEq a0.fText ByteArray.empty)))] (by kernel_rfl) (fin [(2, aB (y1 && (sEq a0.fText ByteArray.empty)))] rfl (by kernel_rfl) (wp_ret ?_))
    obtain rfl := Option.some.inj hm
    exact ⟨trivial, by kernel_rfl⟩
   refine bq ?_
   refine sq (bq ?_)
   refine sq (bq (sq ?_))
   refine sq (sq (detn [(1, .ptr 0 0), (3, aB y1), (14, aI a0.fKind), (15, aB (a0.fKind == 0))] (by kernel_rfl) ?_))
   rcases bif_some hm with ⟨h7, hm⟩ | ⟨h7, hm⟩
   ·
    refine ct h7 (by kernel_rfl) (wp_exit (sq (sq (rg (sh 4 [(28, aB (a0.fInt == 0)), (27, aB (a0.fInt == 0)), (26, aI a0.fInt), (25, .ptr 0 1)] (by kernel_rfl) ?_)))))
    refine seg (a0.fInt == 0) [28, 27] (fun b => [(30, aB (b && y1)), (29, ifA b (aB y1) (.undef))]) 6 (by kernel_rfl) ?_ ?_ ?_
    ·
     intro Q h
     refine sh 2 [(30, aB y1), (29, aB y1)] (by kernel_rfl) ?_
     exact sameN (by kernel_rfl) (by kernel_rfl) h
    ·
     intro Q h
     refine sh 2 [(30, aB false), (29, .undef)] (by kernel_rfl) ?_
     exact sameN (by kernel_rfl) (by kernel_rfl) h
    refine sh 1 [(31, aB ((a0.fInt == 0) && y1))] (by kernel_rfl) ?_
    refine seg ((a0.fInt == 0) && y1) [31, 30] (fun b => [(35, aB (b && (sEq a0.fText ByteArray.empty))), (34, ifA b (aB (sEq a0.fText ByteArray.empty)) (.undef)), (33, ifA b (aS a0.fText) (.undef)), (32, ifA b (.ptr 0 3) (.undef))]) 11 (by kernel_rfl) ?_ ?_ ?_
    ·
     intro Q h
     refine sh 4 [(35, aB (sEq a0.fText ByteArray.empty)), (34, aB (sEq a0.fText ByteArray.empty)), (33, aS a0.fText), (32, .ptr 0 3)] (by kernel_rfl) ?_
     exact sameN (by kernel_rfl) (by kernel_rfl) h
    ·
     intro Q h
     refine sh 4 [(35, aB false), (34, .undef), (33, .undef), (32, .undef)] (by kernel_rfl) ?_
     exact sameN (by kernel_rfl) (by kernel_rfl) h
    refine sh 1 [(2, aB (((a0.fInt == 0) && y1) && (sEq a0.fText ByteArray.empty)))] (by kernel_rfl) (fin [(2, aB (((a0.fInt == 0) && y1) && (sEq a0.fText ByteArray.empty)))] rfl (by kernel_rfl) (wp_ret ?_))
    obtain rfl := Option.some.inj hm
    exact ⟨trivial, by kernel_rfl⟩
   ·
    refine cf h7 (by kernel_rfl) (wp_skip (sq (sq (detn [(1, .ptr 0 0), (3, aB y1), (14, aI a0.fKind), (17, aB (a0.fKind == 1))] (by kernel_rfl) ?_))))
    rcases bif_some hm with ⟨h8, hm⟩ | ⟨h8, hm⟩
    ·
     refine ct h8 (by kernel_rfl) (wp_exit (sq (rg (sh 4 [(39, aB (a0.fInt != 0)), (38, aB (a0.fInt != 0)), (37, aI a0.fInt), (36, .ptr 0 1)] (by kernel_rfl) ?_))))
     refine seg (a0.fInt != 0) [39, 38] (fun b => [(43, aB (b && (a0.fInt != 1))), (42, ifA b (aB (a0.fInt != 1)) (.undef)), (41, ifA b (aI a0.fInt) (.undef)), (40, ifA b (.ptr 0 1) (.undef))]) 8 (by kernel_rfl) ?_ ?_ ?_
     ·
      intro Q h
      refine sh 4 [(43, aB (a0.fInt != 1)), (42, aB (a0.fInt != 1)), (41, aI a0.fInt), (40, .ptr 0 1)] (by kernel_rfl) ?_
      exact sameN (by kernel_rfl) (by kernel_rfl) h
     ·
      intro Q h
      refine sh 4 [(43, aB false), (42, .undef), (41, .undef), (40, .undef)] (by kernel_rfl) ?_
      exact sameN (by kernel_rfl) (by kernel_rfl) h
     refine fin [(1, .ptr 0 0), (3, aB y1), (43, aB ((a0.fInt != 0) && (a0.fInt != 1)))] rfl (by kernel_rfl) ?_
     rcases bif_some hm with ⟨h9, hm⟩ | ⟨h9, hm⟩
     ·
      refine ct h9 (by kernel_rfl) (sq (detn [(2, aB false)] (by kernel_rfl) (wp_ret ?_)))
      obtain rfl := Option.some.inj hm
      exact ⟨trivial, by kernel_rfl⟩
     ·
      refine cf h9 (by kernel_rfl) (wp_skip ?_)
      exact ⟨.any, .any, aB ((a0.fInt != 0) && (a0.fInt != 1)), hm, (mk_same (by kernel_rfl)), rfl⟩
    ·
     refine cf h8 (by kernel_rfl) (wp_skip (sq (sq (detn [(1, .ptr 0 0), (3, aB y1), (14, aI a0.fKind), (19, aB (a0.fKind == 2))] (by kernel_rfl) ?_))))
     rcases bif_some hm with ⟨h10, hm⟩ | ⟨h10, hm⟩
     ·
      refine ct h10 (by kernel_rfl) (wp_exit ?_)
      exact ⟨aI a0.fKind, aB (a0.fKind == 2), .any, hm, (mk_same (by kernel_rfl)), rfl⟩
     ·
      refine cf h10 (by kernel_rfl) (wp_skip (sq (sq (detn [(1, .ptr 0 0), (3, aB y1), (14, aI a0.fKind), (21, aB (a0.fKind == 3))] (by kernel_rfl) ?_))))
      rcases bif_some hm with ⟨h11, hm⟩ | ⟨h11, hm⟩
      ·
       refine ct h11 (by kernel_rfl) (wp_exit (sq (sq (rg (sh 4 [(53, aB (a0.fInt == 0)), (52, aB (a0.fInt == 0)), (51, aI a0.fInt), (50, .ptr 0 1)] (by kernel_rfl) ?_)))))
       refine seg (a0.fInt == 0) [53, 52] (fun b => [(57, aB (b && (sEq a0.fText ByteArray.empty))), (56, ifA b (aB (sEq a0.fText ByteArray.empty)) (.undef)), (55, ifA b (aS a0.fText) (.undef)), (54, ifA b (.ptr 0 3) (.undef))]) 8 (by kernel_rfl) ?_ ?_ ?_
       ·
        intro Q h
        refine sh 4 [(57, aB (sEq a0.fText ByteArray.empty)), (56, aB (sEq a0.fText ByteArray.empty)), (55, aS a0.fText), (54, .ptr 0 3)] (by kernel_rfl) ?_
        exact sameN (by kernel_rfl) (by kernel_rfl) h
       ·
        intro Q h
        refine sh 4 [(57, aB false), (56, .undef), (55, .undef), (54, .undef)] (by kernel_rfl) ?_
        exact sameN (by kernel_rfl) (by kernel_rfl) h
       refine sh 1 [(2, aB ((a0.fInt == 0) && (sEq a0.fText ByteArray.empty)))] (by kernel_rfl) (fin [(2, aB ((a0.fInt == 0) && (sEq a0.fText ByteArray.empty)))] rfl (by kernel_rfl) (wp_ret ?_))
       obtain rfl := Option.some.inj hm
       exact ⟨trivial, by kernel_rfl⟩
      ·
       refine cf h11 (by kernel_rfl) (wp_skip (sq (detn [(1, .ptr 0 0), (3, aB y1), (23, aB (a0.fKind == 4))] (by kernel_rfl) ?_)))
       rcases bif_some hm with ⟨h12, hm⟩ | ⟨h12, hm⟩
       ·
        refine ct h12 (by kernel_rfl) (wp_exit (sq (sq (rg (sh 4 [(61, aB (a0.fInt == 0)), (60, aB (a0.fInt == 0)), (59, aI a0.fInt), (58, .ptr 0 1)] (by kernel_rfl) ?_)))))
        refine seg (a0.fInt == 0) [61, 60] (fun b => [(63, aB (b && y1)), (62, ifA b (aB y1) (.undef))]) 6 (by kernel_rfl) ?_ ?_ ?_
        ·
         intro Q h
         refine sh 2 [(63, aB y1), (62, aB y1)] (by kernel_rfl) ?_
         exact sameN (by kernel_rfl) (by kernel_rfl) h
        ·
         intro Q h
         refine sh 2 [(63, aB false), (62, .undef)] (by kernel_rfl) ?_
         exact sameN (by kernel_rfl) (by kernel_rfl) h
        refine sh 1 [(64, aB ((a0.fInt == 0) && y1))] (by kernel_rfl) ?_
        refine seg ((a0.fInt == 0) && y1) [64, 63] (fun b => [(69, aB (b && (decide ((a0.fText.size : Int) ≤ 64)))), (68, ifA b (aB (decide ((a0.fText.size : Int) ≤ 64))) (.undef)), (67, ifA b (aI (a0.fText.size : Int)) (.undef)), (66, ifA b (aS a0.fText) (.undef)), (65, ifA b (.ptr 0 3) (.undef))]) 12 (by kernel_rfl) ?_ ?_ ?_
        ·
         intro Q h
         refine sh 5 [(69, aB (decide ((a0.fText.size : Int) ≤ 64))), (68, aB (decide ((a0.fText.size : Int) ≤ 64))), (67, aI (a0.fText.size : Int)), (66, aS a0.fText), (65, .ptr 0 3)] (by kernel_rfl) ?_
         exact sameN (by kernel_rfl) (by kernel_rfl) h
        ·
         intro Q h
         refine sh 5 [(69, aB false), (68, .undef), (67, .undef), (66, .undef), (65, .undef)] (by kernel_rfl) ?_
         exact sameN (by kernel_rfl) (by kernel_rfl) h
        refine sh 1 [(2, aB (((a0.fInt == 0) && y1) && (decide ((a0.fText.size : Int) ≤ 64))))] (by kernel_rfl) (fin [(2, aB (((a0.fInt == 0) && y1) && (decide ((a0.fText.size : Int) ≤ 64))))] rfl (by kernel_rfl) (wp_ret ?_))
        obtain rfl := Option.some.inj hm
        exact ⟨trivial, by kernel_rfl⟩
       ·
        refine cf h12 (by kernel_rfl) (wp_skip (wp_exit (sq (detn [(2, aB false)] (by kernel_rfl) (wp_ret ?_)))))
        obtain rfl := Option.some.inj hm
        exact ⟨trivial, by kernel_rfl⟩
  refine rg (sh 4 [(7, aB ((FloatKind.format .f64).order a0.fFloat 0 == some .eq)), (6, aB ((FloatKind.format .f64).order a0.fFloat 0 == some .eq)), (5, aF a0.fFloat), (4, .ptr 0 2)] (by kernel_rfl) ?_)
  rcases bif_some hm with ⟨h13, hm⟩ | ⟨h13, hm⟩
  ·
   refine known [7, 6] h13 (by kernel_rfl) (sh 2 [(9, aF a0.fFloat), (8, .ptr 0 2)] (by kernel_rfl) ?_)
   obtain ⟨x14, h15, hm⟩ := bs hm
   refine dv 10 (cpure (by kernel_rfl) (ok_math_Signbit h15) (by kernel_rfl) (by kernel_rfl) (by kernel_rfl)) (by kernel_rfl) (sh 3 [(3, aB (!x14)), (12, aB (!x14)), (11, aB (!x14))] (by kernel_rfl) (fin [(1, .ptr 0 0), (3, aB (!x14))] rfl (by kernel_rfl) ?_))
   exact ⟨(!x14), hm, rfl, rfl⟩
  ·
   refine known [7, 6] h13 (by kernel_rfl) (sh 6 [(3, aB false), (12, aB false), (11, .undef), (10, .undef), (9, .undef), (8, .undef)] (by kernel_rfl) (fin [(1, .ptr 0 0), (3, aB false)] rfl (by kernel_rfl) ?_))
   exact ⟨false, hm, rfl, rfl⟩
theorem ok_row_Right_1 {n : Nat} {a0 : api_Value} {r : Bool} (hm : row_Right_1 n a0 = some r) :
    call G n 60 [.agg [aI a0.fKind, aI a0.fInt, aF a0.fFloat, aS a0.fText]] [] = some (.ret (aB r), []) := by
  unfold row_Right_1 at hm
  obtain ⟨n, rfl, h0⟩ := at1_some hm
  replace hm := h0; clear h0
  refine callL 6 [(0, .agg [aI a0.fKind, aI a0.fInt, aF a0.fFloat, aS a0.fText])] func60 rfl (by kernel_rfl) (sq (det [(1, .ptr 0 0)] [.box [aI a0.fKind, aI a0.fInt, aF a0.fFloat, aS a0.fText] false] (by kernel_rfl) (sq (rg (sh 1 [(3, .agg [aI a0.fKind, aI a0.fInt, aF a0.fFloat, aS a0.fText])] (by kernel_rfl) ?_)))))
  obtain ⟨x1, h2, hm⟩ := bs hm
  refine dv 4 (cpure (by kernel_rfl) (ok_value_Right h2) (by kernel_rfl) (by kernel_rfl) (by kernel_rfl)) (by kernel_rfl) (sh 2 [(2, aB (!x1)), (5, aB (!x1))] (by kernel_rfl) (fin [(2, aB (!x1))] rfl (by kernel_rfl) (wp_ret ?_)))
  obtain rfl := Option.some.inj hm
  exact ⟨trivial, by kernel_rfl⟩
theorem ok_slices_IndexFunc_Value_row_Right_1 {n : Nat} {a0 : (Option (List api_Value))} {r : Int} (hm : slices_IndexFunc_Value_row_Right_1 n a0 = some r) :
    call G n 63 [.pv (encSl R_api_Value a0), .pv (.fn 60 [] [])] [] = some (.ret (aI r), []) := by
  unfold slices_IndexFunc_Value_row_Right_1 at hm
  obtain ⟨n, rfl, h0⟩ := at1_some hm
  replace hm := h0; clear h0
  refine callL 19 [(0, .pv (encSl R_api_Value a0)), (1, .pv (.fn 60 [] []))] func63 rfl (by kernel_rfl) (sq (detn [(0, .pv (encSl R_api_Value a0)), (1, .pv (.fn 60 [] []))] (by kernel_rfl) ?_))
  obtain ⟨k3, hk3, hm⟩ := withK_some hm
  refine mid (fun t H => (∃ (y1 : Int) (y2 : Bool), k3 () = some r ∧ t = mk 19 [(0, .pv (encSl R_api_Value a0)), (1, .pv (.fn 60 [] [])), (7, aI ((sll a0).length : Int)), (8, aI y1), (9, aB y2)] ∧ H = [])) ?_ ?_
  ·
   rintro _ _ ⟨y1, y2, hm, rfl, rfl⟩
   subst hk3
   refine sq (detn [(4, aI (-1))] (by kernel_rfl) (wp_ret ?_))
   obtain rfl := Option.some.inj hm
   exact ⟨trivial, by kernel_rfl⟩
  refine sq (rg (sh 1 [(6, .pv (encSl R_api_Value a0))] (by kernel_rfl) (dv 7 (v := aI ((sll a0).length : Int)) (len_slO R_api_Value a0 t25 (by kernel_rfl)) (by kernel_rfl) (sh 1 [(8, aI 0)] (by kernel_rfl) (fin [(0, .pv (encSl R_api_Value a0)), (1, .pv (.fn 60 [] [])), (7, aI ((sll a0).length : Int)), (8, aI 0)] rfl (by kernel_rfl) (bq ?_))))))
  refine loopF (fun mm t H => (∃ (y5 : Int), slices_IndexFunc_Value_row_Right_1_l2 n a0 k3 mm y5 = some r ∧ t = mk 19 [(0, .pv (encSl R_api_Value a0)), (1, .pv (.fn 60 [] [])), (7, aI ((sll a0).length : Int)), (8, aI y5)] ∧ H = [])) (⟨0, hm, rfl, rfl⟩) ?_ ?_
  · rintro _ _ ⟨y5, hm, _⟩; exact nomatch hm
  rintro m6 _ _ ⟨y5, hm, rfl, rfl⟩
  simp only [slices_IndexFunc_Value_row_Right_1_l2] at hm
  refine sq (detn [(0, .pv (encSl R_api_Value a0)), (1, .pv (.fn 60 [] [])), (7, aI ((sll a0).length : Int)), (8, aI y5), (9, aB (decide (y5 < ((sll a0).length : Int))))] (by kernel_rfl) ?_)
  refine sq ?_
  rcases bif_some hm with ⟨h7, hm⟩ | ⟨h7, hm⟩
  ·
   refine ct h7 (by kernel_rfl) (wp_skip (sq (bq (sq (detn [(0, .pv (encSl R_api_Value a0)), (1, .pv (.fn 60 [] [])), (5, aI y5), (7, aI ((sll a0).length : Int)), (8, aI y5)] (by kernel_rfl) (sq (rg (sh 3 [(13, aI y5), (12, .pv (encSl R_api_Value a0)), (11, .pv (.fn 60 [] []))] (by kernel_rfl) ?_))))))))
   obtain ⟨x8, h9, hm⟩ := bs hm
   refine dv 14 (v := .pv (.ptr (R_api_Value x8) 0)) (ia_slO R_api_Value a0 .i64 t25 t79 h9 rfl (by kernel_rfl)) (by kernel_rfl) (sh 1 [(15, .agg [aI x8.fKind, aI x8.fInt, aF x8.fFloat, aS x8.fText])] (by kernel_rfl) ?_)
   obtain ⟨x10, h11, hm⟩ := bs hm
   refine dv 16 (cpure (by kernel_rfl) (ok_row_Right_1 h11) (by kernel_rfl) (by kernel_rfl) (by kernel_rfl)) (by kernel_rfl) (fin [(0, .pv (encSl R_api_Value a0)), (1, .pv (.fn 60 [] [])), (5, aI y5), (7, aI ((sll a0).length : Int)), (8, aI y5), (16, aB x10)] rfl (by kernel_rfl) ?_)
   rcases bif_some hm with ⟨h12, hm⟩ | ⟨h12, hm⟩
   ·
    refine ct h12 (by kernel_rfl) (sq (detn [(4, aI y5)] (by kernel_rfl) (wp_ret ?_)))
    obtain rfl := Option.some.inj hm
    exact ⟨trivial, by kernel_rfl⟩
   ·
    refine cf h12 (by kernel_rfl) (wp_skip (detn [(0, .pv (encSl R_api_Value a0)), (1, .pv (.fn 60 [] [])), (7, aI ((sll a0).length : Int)), (8, aI (IntKind.wrap .i64 (y5 + 1)))] (by kernel_rfl) ?_))
    exact ⟨_, _, tidyL [(0, .pv (encSl R_api_Value a0)), (1, .pv (.fn 60 [] [])), (7, aI ((sll a0).length : Int)), (8, aI (IntKind.wrap .i64 (y5 + 1)))] [] (by kernel_rfl), ⟨(IntKind.wrap .i64 (y5 + 1)), hm, rfl, rfl⟩⟩
  ·
   refine cf h7 (by kernel_rfl) (wp_exit ?_)
   exact ⟨y5, (decide (y5 < ((sll a0).length : Int))), hm, rfl, rfl⟩
theorem ok_slices_ContainsFunc_Value_row_Right_1 {n : Nat} {a0 : (Option (List api_Value))} {r : Bool} (hm : slices_ContainsFunc_Value_row_Right_1 n a0 = some r) :
    call G n 59 [.pv (encSl R_api_Value a0), .pv (.fn 60 [] [])] [] = some (.ret (aB r), []) := by
  unfold slices_ContainsFunc_Value_row_Right_1 at hm
  obtain ⟨n, rfl, h0⟩ := at1_some hm
  replace hm := h0; clear h0
  refine callL 9 [(0, .pv (encSl R_api_Value a0)), (1, .pv (.fn 60 [] []))] func59 rfl (by kernel_rfl) (sq (detn [(0, .pv (encSl R_api_Value a0)), (1, .pv (.fn 60 [] []))] (by kernel_rfl) (sq (rg (sh 2 [(6, .pv (.fn 60 [] [])), (5, .pv (encSl R_api_Value a0))] (by kernel_rfl) ?_)))))
  obtain ⟨x1, h2, hm⟩ := bs hm
  refine dv 7 (cpure (by kernel_rfl) (ok_slices_IndexFunc_Value_row_Right_1 h2) (by kernel_rfl) (by kernel_rfl) (by kernel_rfl)) (by kernel_rfl) (sh 2 [(4, aB (decide (x1 ≥ 0))), (8, aB (decide (x1 ≥ 0)))] (by kernel_rfl) (fin [(4, aB (decide (x1 ≥ 0)))] rfl (by kernel_rfl) (wp_ret ?_)))
  obtain rfl := Option.some.inj hm
  exact ⟨trivial, by kernel_rfl⟩
theorem ok_row_Right {n : Nat} {a0 : (Option (List api_Value))} {r : Bool} (hm : row_Right n a0 = some r) :
    call G n 48 [.pv (encSl R_api_Value a0)] [] = some (.ret (aB r), []) := by
  unfold row_Right at hm
  obtain ⟨n, rfl, h0⟩ := at1_some hm
  replace hm := h0; clear h0
  refine callL 11 [(0, .pv (encSl R_api_Value a0))] func48 rfl (by kernel_rfl) (sq (detn [(0, .pv (encSl R_api_Value a0))] (by kernel_rfl) (sq (rg (sh 1 [(3, .pv (encSl R_api_Value a0))] (by kernel_rfl) (dv 4 (v := aI ((sll a0).length : Int)) (len_slO R_api_Value a0 t25 (by kernel_rfl)) (by kernel_rfl) (sh 2 [(6, aB (decide (((sll a0).length : Int) ≤ 200))), (5, aB (decide (((sll a0).length : Int) ≤ 200)))] (by kernel_rfl) ?_)))))))
  rcases bif_some hm with ⟨h1, hm⟩ | ⟨h1, hm⟩
  ·
   refine known [6, 5] h1 (by kernel_rfl) (sh 1 [(7, .pv (encSl R_api_Value a0))] (by kernel_rfl) ?_)
   obtain ⟨x2, h3, hm⟩ := bs hm
   refine dv 8 (cpure (by kernel_rfl) (ok_slices_ContainsFunc_Value_row_Right_1 h3) (by kernel_rfl) (by kernel_rfl) (by kernel_rfl)) (by kernel_rfl) (sh 3 [(2, aB (!x2)), (10, aB (!x2)), (9, aB (!x2))] (by kernel_rfl) (fin [(2, aB (!x2))] rfl (by kernel_rfl) (wp_ret ?_)))
   obtain rfl := Option.some.inj hm
   exact ⟨trivial, by kernel_rfl⟩
  ·
   refine known [6, 5] h1 (by kernel_rfl) (sh 5 [(2, aB false), (10, aB false), (9, .undef), (8, .undef), (7, .undef)] (by kernel_rfl) (fin [(2, aB false)] rfl (by kernel_rfl) (wp_ret ?_)))
   obtain rfl := Option.some.inj hm
   exact ⟨trivial, by kernel_rfl⟩
theorem ok_schema_Fits {n : Nat} {a0 : api_Table} {a1 : (Option (List api_Value))} {r : Bool} (hm : schema_Fits n a0 a1 = some r) :
    call G n 18 [.agg [aS a0.fName, .pv (encSl R_api_Column a0.fCols)], .pv (encSl R_api_Value a1)] [] = some (.ret (aB r), []) := by
  unfold schema_Fits at hm
  obtain ⟨n, rfl, h0⟩ := at1_some hm
  replace hm := h0; clear h0
  refine callL 40 [(0, .agg [aS a0.fName, .pv (encSl R_api_Column a0.fCols)]), (1, .pv (encSl R_api_Value a1))] func18 rfl (by kernel_rfl) (sq (det [(1, .pv (encSl R_api_Value a1)), (2, .ptr 0 0)] [.box [aS a0.fName, .pv (encSl R_api_Column a0.fCols)] false] (by kernel_rfl) ?_))
  refine sq (sq (rg (sh 1 [(7, .pv (encSl R_api_Value a1))] (by kernel_rfl) (dv 8 (v := aI ((sll a1).length : Int)) (len_slO R_api_Value a1 t25 (by kernel_rfl)) (by kernel_rfl) (sh 2 [(10, .pv (encSl R_api_Column a0.fCols)), (9, .ptr 0 1)] (by kernel_rfl) (dv 11 (v := aI ((sll a0.fCols).length : Int)) (len_slO R_api_Column a0.fCols t22 (by kernel_rfl)) (by kernel_rfl) (sh 2 [(13, aB (((sll a1).length : Int) != ((sll a0.fCols).length : Int))), (12, aB (((sll a1).length : Int) != ((sll a0.fCols).length : Int)))] (by kernel_rfl) ?_)))))))
  rcases bif_some hm with ⟨h1, hm⟩ | ⟨h1, hm⟩
  ·
   refine known [13, 12] h1 (by kernel_rfl) (sh 4 [(17, aB true), (16, .undef), (15, .undef), (14, .undef)] (by kernel_rfl) (fin [(1, .pv (encSl R_api_Value a1)), (2, .ptr 0 0), (17, aB true)] rfl (by kernel_rfl) (cT (by kernel_rfl) (sq (detn [(4, aB false)] (by kernel_rfl) (wp_ret ?_))))))
   obtain rfl := Option.some.inj hm
   exact ⟨trivial, by kernel_rfl⟩
  ·
   refine known [13, 12] h1 (by kernel_rfl) (sh 1 [(14, .pv (encSl R_api_Value a1))] (by kernel_rfl) ?_)
   obtain ⟨x2, h3, hm⟩ := bs hm
   refine dv 15 (cpure (by kernel_rfl) (ok_row_Right h3) (by kernel_rfl) (by kernel_rfl) (by kernel_rfl)) (by kernel_rfl) (sh 2 [(17, aB (!x2)), (16, aB (!x2))] (by kernel_rfl) (fin [(1, .pv (encSl R_api_Value a1)), (2, .ptr 0 0), (17, aB (!x2))] rfl (by kernel_rfl) ?_))
   rcases bif_some hm with ⟨h4, hm⟩ | ⟨h4, hm⟩
   ·
    refine ct h4 (by kernel_rfl) (sq (detn [(4, aB false)] (by kernel_rfl) (wp_ret ?_)))
    obtain rfl := Option.some.inj hm
    exact ⟨trivial, by kernel_rfl⟩
   ·
    refine cf h4 (by kernel_rfl) (wp_skip ?_)
    obtain ⟨k7, hk7, hm⟩ := withK_some hm
    refine mid (fun t H => (∃ (y5 : Int) (y6 : Bool), k7 () = some r ∧ t = mk 40 [(2, .ptr 0 0), (18, .pv (encSl R_api_Value a1)), (19, aI ((sll a1).length : Int)), (20, aI y5), (21, aB y6)] ∧ H = [.box [aS a0.fName, .pv (encSl R_api_Column a0.fCols)] false])) ?_ ?_
    ·
     rintro _ _ ⟨y5, y6, hm, rfl, rfl⟩
     subst hk7
     refine sq (detn [(4, aB true)] (by kernel_rfl) (wp_ret ?_))
     obtain rfl := Option.some.inj hm
     exact ⟨trivial, by kernel_rfl⟩
    refine sq (rg (sh 1 [(18, .pv (encSl R_api_Value a1))] (by kernel_rfl) (dv 19 (v := aI ((sll a1).length : Int)) (len_slO R_api_Value a1 t25 (by kernel_rfl)) (by kernel_rfl) (sh 1 [(20, aI 0)] (by kernel_rfl) (fin [(2, .ptr 0 0), (18, .pv (encSl R_api_Value a1)), (19, aI ((sll a1).length : Int)), (20, aI 0)] rfl (by kernel_rfl) (bq ?_))))))
    refine loopF (fun mm t H => (∃ (y9 : Int), schema_Fits_l4 n a0 a1 k7 mm y9 = some r ∧ t = mk 40 [(2, .ptr 0 0), (18, .pv (encSl R_api_Value a1)), (19, aI ((sll a1).length : Int)), (20, aI y9)] ∧ H = [.box [aS a0.fName, .pv (encSl R_api_Column a0.fCols)] false])) (⟨0, hm, rfl, rfl⟩) ?_ ?_
    · rintro _ _ ⟨y9, hm, _⟩; exact nomatch hm
    rintro m10 _ _ ⟨y9, hm, rfl, rfl⟩
    simp only [schema_Fits_l4] at hm
    refine sq (detn [(2, .ptr 0 0), (18, .pv (encSl R_api_Value a1)), (19, aI ((sll a1).length : Int)), (20, aI y9), (21, aB (decide (y9 < ((sll a1).length : Int))))] (by kernel_rfl) ?_)
    refine sq ?_
    rcases bif_some hm with ⟨h11, hm⟩ | ⟨h11, hm⟩
    ·
     refine ct h11 (by kernel_rfl) (wp_skip (sq (bq (sq (rg (sh 1 [(22, aI y9)] (by kernel_rfl) ?_))))))
     obtain ⟨x12, h13, hm⟩ := bs hm
     refine dv 23 (v := .pv (.ptr (R_api_Value x12) 0)) (ia_slO R_api_Value a1 .i64 t25 t79 h13 rfl (by kernel_rfl)) (by kernel_rfl) (st 4 [(5, aI y9), (6, .ptr 1 0), (24, .agg [aI x12.fKind, aI x12.fInt, aF x12.fFloat, aS x12.fText])] [.box [aS a0.fName, .pv (encSl R_api_Column a0.fCols)] false, .box [aI x12.fKind, aI x12.fInt, aF x12.fFloat, aS x12.fText] false] (by kernel_rfl) (fin [(2, .ptr 0 0), (5, aI y9), (6, .ptr 1 0), (18, .pv (encSl R_api_Value a1)), (19, aI ((sll a1).length : Int)), (20, aI y9)] rfl (by kernel_rfl) (sq (rgd (shd 4 [(28, aB (x12.fKind != 0)), (27, aB (x12.fKind != 0)), (26, aI x12.fKind), (25, .ptr 1 0)] (by kernel_rfl) ?_)))))
     rcases bif_some hm with ⟨h14, hm⟩ | ⟨h14, hm⟩
     ·
      refine knownd [28, 27] h14 (by kernel_rfl) (shd 5 [(33, aI y9), (32, .pv (encSl R_api_Column a0.fCols)), (31, .ptr 0 1), (30, aI x12.fKind), (29, .ptr 1 0)] (by kernel_rfl) ?_)
      obtain ⟨x15, h16, hm⟩ := bs hm
      refine dvd 34 (v := .pv (.ptr (R_api_Column x15) 0)) (ia_slO R_api_Column a0.fCols .i64 t22 t72 h16 rfl (by kernel_rfl)) (by kernel_rfl) (shd 4 [(38, aB (x12.fKind != x15.fKind)), (37, aB (x12.fKind != x15.fKind)), (36, aI x15.fKind), (35, .pv (.ptr (R_api_Column x15) 1))] (by kernel_rfl) (find [(2, .ptr 0 0), (18, .pv (encSl R_api_Value a1)), (19, aI ((sll a1).length : Int)), (20, aI y9), (38, aB (x12.fKind != x15.fKind))] rfl (by kernel_rfl) (by kernel_rfl) ?_))
      rcases bif_some hm with ⟨h17, hm⟩ | ⟨h17, hm⟩
      ·
       refine ct h17 (by kernel_rfl) (sq (detn [(4, aB false)] (by kernel_rfl) (wp_ret ?_)))
       obtain rfl := Option.some.inj hm
       exact ⟨trivial, by kernel_rfl⟩
      ·
       refine cf h17 (by kernel_rfl) (wp_skip (detn [(2, .ptr 0 0), (18, .pv (encSl R_api_Value a1)), (19, aI ((sll a1).length : Int)), (20, aI (IntKind.wrap .i64 (y9 + 1)))] (by kernel_rfl) ?_))
       exact ⟨_, _, tidyL [(2, .ptr 0 0), (18, .pv (encSl R_api_Value a1)), (19, aI ((sll a1).length : Int)), (20, aI (IntKind.wrap .i64 (y9 + 1)))] [.box [aS a0.fName, .pv (encSl R_api_Column a0.fCols)] false] (by kernel_rfl), ⟨(IntKind.wrap .i64 (y9 + 1)), hm, rfl, rfl⟩⟩
     ·
      refine knownd [28, 27] h14 (by kernel_rfl) (shd 10 [(38, aB false), (37, .undef), (36, .undef), (35, .undef), (34, .undef), (33, .undef), (32, .undef), (31, .undef), (30, .undef), (29, .undef)] (by kernel_rfl) (find [(2, .ptr 0 0), (18, .pv (encSl R_api_Value a1)), (19, aI ((sll a1).length : Int)), (20, aI y9), (38, aB false)] rfl (by kernel_rfl) (by kernel_rfl) (cF (by kernel_rfl) (wp_skip (detn [(2, .ptr 0 0), (18, .pv (encSl R_api_Value a1)), (19, aI ((sll a1).length : Int)), (20, aI (IntKind.wrap .i64 (y9 + 1)))] (by kernel_rfl) ?_)))))
      exact ⟨_, _, tidyL [(2, .ptr 0 0), (18, .pv (encSl R_api_Value a1)), (19, aI ((sll a1).length : Int)), (20, aI (IntKind.wrap .i64 (y9 + 1)))] [.box [aS a0.fName, .pv (encSl R_api_Column a0.fCols)] false] (by kernel_rfl), ⟨(IntKind.wrap .i64 (y9 + 1)), hm, rfl, rfl⟩⟩
    ·
     refine cf h11 (by kernel_rfl) (wp_exit ?_)
     exact ⟨y9, (decide (y9 < ((sll a1).length : Int))), hm, rfl, rfl⟩
theorem ok_law06_works {n : Nat}  {r : Bool} (hm : law06_works n = some r) :
    call G n 20 [] [] = some (.ret (aB r), []) := by
  unfold law06_works at hm
  obtain ⟨n, rfl, h0⟩ := at1_some hm
  replace hm := h0; clear h0
  refine callL 24 [] func20 rfl (by kernel_rfl) (sq (detn [] (by kernel_rfl) (sq (det [(1, .ptr 0 0), (2, .ptr 1 0)] [.box [aS (ByteArray.mk #[97]), aI 2] false, .box [aS (ByteArray.mk #[98]), aI 4] false] (by kernel_rfl) (sq (rg (st 4 [(8, .agg [aS (ByteArray.mk #[116]), aR 2 2 2]), (7, aR 2 2 2), (6, .agg [aS (ByteArray.mk #[98]), aI 4]), (5, .agg [aS (ByteArray.mk #[97]), aI 2])] [.box [aS (ByteArray.mk #[97]), aI 2] false, .box [aS (ByteArray.mk #[98]), aI 4] false, bR 72 2 R_api_Column ([(api_Column.mk (ByteArray.mk #[97]) 2), (api_Column.mk (ByteArray.mk #[98]) 4)] : List api_Column) 0 0] (by kernel_rfl) ?_)))))))
  obtain ⟨x1, h2, hm⟩ := bs hm
  refine dO [(9, aI x1)] [.box [aS (ByteArray.mk #[97]), aI 2] false, .box [aS (ByteArray.mk #[98]), aI 4] false, bR 72 2 R_api_Column ([(api_Column.mk (ByteArray.mk #[97]) 2), (api_Column.mk (ByteArray.mk #[98]) 4)] : List api_Column) 0 0] (cpureR [2] [.agg [aS (ByteArray.mk #[116]), aR 2 2 2]] (fl := true) (by kernel_rfl) (by kernel_rfl) (by kernel_rfl) (ok_schema_Right h2) (by kernel_rfl) (by kernel_rfl)) (by kernel_rfl) (sh 2 [(11, aB (x1 == 0)), (10, aB (x1 == 0))] (by kernel_rfl) ?_)
  rcases bif_some hm with ⟨h3, hm⟩ | ⟨h3, hm⟩
  ·
   refine known [11, 10] h3 (by kernel_rfl) (st 4 [(15, .agg [aS (ByteArray.mk #[116]), aR 3 2 2]), (14, aR 3 2 2), (13, .agg [aS (ByteArray.mk #[97]), aI 2]), (12, .agg [aS (ByteArray.mk #[97]), aI 2])] [.box [aS (ByteArray.mk #[97]), aI 2] false, .box [aS (ByteArray.mk #[98]), aI 4] false, bR 72 2 R_api_Column ([(api_Column.mk (ByteArray.mk #[97]) 2), (api_Column.mk (ByteArray.mk #[98]) 4)] : List api_Column) 0 0, bR 72 2 R_api_Column ([(api_Column.mk (ByteArray.mk #[97]) 2), (api_Column.mk (ByteArray.mk #[97]) 2)] : List api_Column) 0 0] (by kernel_rfl) ?_)
   obtain ⟨x4, h5, hm⟩ := bs hm
   refine dO [(16, aI x4)] [.box [aS (ByteArray.mk #[97]), aI 2] false, .box [aS (ByteArray.mk #[98]), aI 4] false, bR 72 2 R_api_Column ([(api_Column.mk (ByteArray.mk #[97]) 2), (api_Column.mk (ByteArray.mk #[98]) 4)] : List api_Column) 0 0, bR 72 2 R_api_Column ([(api_Column.mk (ByteArray.mk #[97]) 2), (api_Column.mk (ByteArray.mk #[97]) 2)] : List api_Column) 0 0] (cpureR [3] [.agg [aS (ByteArray.mk #[116]), aR 3 2 2]] (fl := true) (by kernel_rfl) (by kernel_rfl) (by kernel_rfl) (ok_schema_Right h5) (by kernel_rfl) (by kernel_rfl)) (by kernel_rfl) (sh 3 [(19, aB (x4 == 41)), (18, aB (x4 == 41)), (17, aB (x4 == 41))] (by kernel_rfl) ?_)
   rcases bif_some hm with ⟨h6, hm⟩ | ⟨h6, hm⟩
   ·
    refine known [19, 18, 17] h6 (by kernel_rfl) (sh 1 [(20, .agg [aS (ByteArray.mk #[116]), .pv .nils])] (by kernel_rfl) ?_)
    obtain ⟨x7, h8, hm⟩ := bs hm
    refine dv 21 (cpure (by kernel_rfl) (ok_schema_Right h8) (by kernel_rfl) (by kernel_rfl) (by kernel_rfl)) (by kernel_rfl) (sh 3 [(0, aB (x7 == 2)), (23, aB (x7 == 2)), (22, aB (x7 == 2))] (by kernel_rfl) (fin [(0, aB (x7 == 2))] rfl (by kernel_rfl) (wp_ret ?_)))
    obtain rfl := Option.some.inj hm
    exact ⟨trivial, by kernel_rfl⟩
   ·
    refine known [19, 18, 17] h6 (by kernel_rfl) (sh 5 [(0, aB false), (23, aB false), (22, .undef), (21, .undef), (20, .undef)] (by kernel_rfl) (fin [(0, aB false)] rfl (by kernel_rfl) (wp_ret ?_)))
    obtain rfl := Option.some.inj hm
    exact ⟨trivial, by kernel_rfl⟩
  ·
   refine known [11, 10] h3 (by kernel_rfl) (sh 13 [(0, aB false), (23, aB false), (22, .undef), (21, .undef), (20, .undef), (19, aB false), (18, aB false), (17, .undef), (16, .undef), (15, .undef), (14, .undef), (13, .undef), (12, .undef)] (by kernel_rfl) (fin [(0, aB false)] rfl (by kernel_rfl) (wp_ret ?_)))
   obtain rfl := Option.some.inj hm
   exact ⟨trivial, by kernel_rfl⟩
theorem ok_codec_Read {n : Nat} {a0 : (Option (List Int))} {r : Unit} (hm : codec_Read n a0 = some r) :
    ∃ vv H1, call G n 32 [.pv (encSl (rI .u8) a0)] [] = some (.ret vv, H1) ∧ (vv = .ptr 0 0 ∧ H1 = [.box [aB true, .pv (encSl (rI .u8) a0), aI 0] false]) := by
  unfold codec_Read at hm
  obtain ⟨n, rfl, h0⟩ := at1_some hm
  replace hm := h0; clear h0
  refine callE 6 [(0, .pv (encSl (rI .u8) a0))] func32 rfl (by kernel_rfl) (sq (detn [(0, .pv (encSl (rI .u8) a0))] (by kernel_rfl) (sq (det [(2, .ptr 0 0)] [.box [aB true, .pv (encSl (rI .u8) a0), aI 0] false] (by kernel_rfl) (wp_ret ?_)))))
  obtain rfl := Option.some.inj hm
  exact ⟨trivial, .ptr 0 0, [.box [aB true, .pv (encSl (rI .u8) a0), aI 0] false], by kernel_rfl, rfl, rfl⟩
theorem ok_codec_Reader_ready {n : Nat} {a0 : codec_Reader} {r : Unit} (hm : codec_Reader_ready n a0 = some r) :
    ∃ vv H1, call G n 52 [.ptr 0 0] [.box [aB a0.fmade, .pv (encSl (rI .u8) a0.fb), aI a0.fe] false] = some (.ret vv, H1) ∧ (vv = aB (a0.fmade && (a0.fe == 0)) ∧ H1 = [.box [aB a0.fmade, .pv (encSl (rI .u8) a0.fb), aI a0.fe] false]) := by
  unfold codec_Reader_ready at hm
  obtain ⟨n, rfl, h0⟩ := at1_some hm
  replace hm := h0; clear h0
  refine callE 18 [(0, .ptr 0 0)] func52 rfl (by kernel_rfl) (sq (detn [(0, .ptr 0 0)] (by kernel_rfl) (sq (rg (sh 9 [(11, aB a0.fmade), (10, aB a0.fmade), (9, aB a0.fmade), (8, .ptr 0 0), (7, .ptr 0 0), (6, .ptr 0 0), (5, aB true), (4, aB true), (3, .ptr 0 0)] (by kernel_rfl) ?_)))))
  refine seg a0.fmade [11, 10, 9] (fun b => [(17, aB (b && (a0.fe == 0))), (16, ifA b (aB (a0.fe == 0)) (.undef)), (15, ifA b (aI a0.fe) (.undef)), (14, ifA b (.ptr 0 2) (.undef)), (13, ifA b (.ptr 0 0) (.undef)), (12, ifA b (.ptr 0 0) (.undef))]) 15 (by kernel_rfl) ?_ ?_ ?_
  ·
   intro Q h
   refine sh 6 [(17, aB (a0.fe == 0)), (16, aB (a0.fe == 0)), (15, aI a0.fe), (14, .ptr 0 2), (13, .ptr 0 0), (12, .ptr 0 0)] (by kernel_rfl) ?_
   exact sameN (by kernel_rfl) (by kernel_rfl) h
  ·
   intro Q h
   refine sh 6 [(17, aB false), (16, .undef), (15, .undef), (14, .undef), (13, .undef), (12, .undef)] (by kernel_rfl) ?_
   exact sameN (by kernel_rfl) (by kernel_rfl) h
  refine sh 1 [(2, aB (a0.fmade && (a0.fe == 0)))] (by kernel_rfl) (fin [(2, aB (a0.fmade && (a0.fe == 0)))] rfl (by kernel_rfl) (wp_ret ?_))
  obtain rfl := Option.some.inj hm
  exact ⟨trivial, aB (a0.fmade && (a0.fe == 0)), [.box [aB a0.fmade, .pv (encSl (rI .u8) a0.fb), aI a0.fe] false], by kernel_rfl, rfl, rfl⟩
theorem ok_codec_Reader_fail {n : Nat} {a0 : codec_Reader} {a1 : Int} {r : Unit} (hm : codec_Reader_fail n a0 a1 = some r) :
    ∃ vv H1, call G n 54 [.ptr 0 0, aI a1] [.box [aB a0.fmade, .pv (encSl (rI .u8) a0.fb), aI a0.fe] false] = some (.ret vv, H1) ∧ (vv = .tup [] ∧ H1 = [.box [aB a0.fmade, .pv .nils, aI a1] false]) := by
  unfold codec_Reader_fail at hm
  obtain ⟨n, rfl, h0⟩ := at1_some hm
  replace hm := h0; clear h0
  refine callE 11 [(0, .ptr 0 0), (1, aI a1)] func54 rfl (by kernel_rfl) (det [] [.box [aB a0.fmade, .pv .nils, aI a1] false] (by kernel_rfl) ?_)
  obtain rfl := Option.some.inj hm
  exact ⟨trivial, .tup [], [.box [aB a0.fmade, .pv .nils, aI a1] false], by kernel_rfl, rfl, rfl⟩
theorem ok_codec_Reader_take {n : Nat} {a0 : codec_Reader} {a1 : Int} {r : (Option (List Int)) × Int × (Option (List Int)) × Bool} (hm : codec_Reader_take n a0 a1 = some r) :
    ∃ vv H1, call G n 55 [.ptr 0 0, aI a1] [.box [aB a0.fmade, .pv (encSl (rI .u8) a0.fb), aI a0.fe] false] = some (.ret vv, H1) ∧ (match r with | (r0, r1, r2, r3) => (vv = .tup [.pv (encSl (rI .u8) r2), aB r3] ∧ H1 = [.box [aB a0.fmade, .pv (encSl (rI .u8) r0), aI r1] false])) := by
  unfold codec_Reader_take at hm
  obtain ⟨n, rfl, h0⟩ := at1_some hm
  replace hm := h0; clear h0
  refine callE 32 [(0, .ptr 0 0), (1, aI a1)] func55 rfl (by kernel_rfl) (sq (detn [(0, .ptr 0 0), (1, aI a1)] (by kernel_rfl) ?_))
  refine sq (sq (rg (sh 5 [(11, .pv (encSl (rI .u8) a0.fb)), (10, .ptr 0 1), (9, .ptr 0 0), (8, .ptr 0 0), (7, aI a1)] (by kernel_rfl) (dv 12 (v := aI ((sll a0.fb).length : Int)) (len_slO (rI .u8) a0.fb t35 (by kernel_rfl)) (by kernel_rfl) (sh 1 [(13, aB (decide (a1 > ((sll a0.fb).length : Int))))] (by kernel_rfl) (fin [(0, .ptr 0 0), (1, aI a1), (13, aB (decide (a1 > ((sll a0.fb).length : Int))))] rfl (by kernel_rfl) ?_))))))
  rcases bif_some hm with ⟨h1, hm⟩ | ⟨h1, hm⟩
  ·
   refine ct h1 (by kernel_rfl) (sq (rg (sh 1 [(14, .ptr 0 0)] (by kernel_rfl) ?_)))
   obtain ⟨_, h2, hm⟩ := bs hm
   obtain ⟨vv, H1, hC, rfl, rfl⟩ := ok_codec_Reader_fail h2
   refine dR [(15, .tup [])] [.box [aB a0.fmade, .pv .nils, aI 21] false] [0] [.ptr 0 0, aI 21] (by kernel_rfl) (by kernel_rfl) (by kernel_rfl) hC (by kernel_rfl) (fin [] rfl (by kernel_rfl) (sq (detn [(4, .pv .nils), (5, aB false)] (by kernel_rfl) (wp_ret ?_))))
   obtain rfl := Option.some.inj hm
   exact ⟨trivial, .tup [.pv .nils, aB false], [.box [aB a0.fmade, .pv .nils, aI 21] false], by kernel_rfl, rfl, rfl⟩
  ·
   refine cf h1 (by kernel_rfl) (wp_skip (sq (rg (sh 5 [(20, aI a1), (19, .pv (encSl (rI .u8) a0.fb)), (18, .ptr 0 1), (17, .ptr 0 0), (16, .ptr 0 0)] (by kernel_rfl) ?_))))
   obtain ⟨_, h3, hm⟩ := bs hm
   refine dv 21 (v := .pv (encSl (rI .u8) (subSl a0.fb 0 a1))) (slice_slO (rI .u8) a0.fb (k := .i64) (k' := .i64) (xl := none) (xh := some (aI a1)) (esz := 1) h3 (fun _ => rfl) (.inl ⟨rfl, rfl⟩) (.inr rfl) (by kernel_rfl)) (by kernel_rfl) (sh 1 [(6, .pv (encSl (rI .u8) (subSl a0.fb 0 a1)))] (by kernel_rfl) (fin [(0, .ptr 0 0), (1, aI a1), (6, .pv (encSl (rI .u8) (subSl a0.fb 0 a1)))] rfl (by kernel_rfl) (sq (rg (sh 6 [(27, aI a1), (26, .pv (encSl (rI .u8) a0.fb)), (25, .ptr 0 1), (24, .ptr 0 0), (23, .ptr 0 0), (22, .ptr 0 0)] (by kernel_rfl) ?_)))))
   obtain ⟨_, h4, hm⟩ := bs hm
   refine dv 28 (v := .pv (encSl (rI .u8) (subSl a0.fb a1 ((sll a0.fb).length : Int)))) (slice_slO (rI .u8) a0.fb (k := .i64) (k' := .i64) (xl := some (aI a1)) (xh := none) (esz := 1) h4 (fun _ => rfl) (.inr rfl) (.inl ⟨rfl, rfl⟩) (by kernel_rfl)) (by kernel_rfl) (st 3 [(30, .ptr 0 1), (29, .ptr 0 0)] [.box [aB a0.fmade, .pv (encSl (rI .u8) (subSl a0.fb a1 ((sll a0.fb).length : Int))), aI a0.fe] false] (by kernel_rfl) (fin [(6, .pv (encSl (rI .u8) (subSl a0.fb 0 a1)))] rfl (by kernel_rfl) (sq (detn [(4, .pv (encSl (rI .u8) (subSl a0.fb 0 a1))), (5, aB true)] (by kernel_rfl) (wp_ret ?_)))))
   obtain rfl := Option.some.inj hm
   exact ⟨trivial, .tup [.pv (encSl (rI .u8) (subSl a0.fb 0 a1)), aB true], [.box [aB a0.fmade, .pv (encSl (rI .u8) (subSl a0.fb a1 ((sll a0.fb).length : Int))), aI a0.fe] false], by kernel_rfl, rfl, rfl⟩
theorem ok_codec_Reader_number {n : Nat} {a0 : codec_Reader} {r : Bool × (Option (List Int)) × Int × Int × Bool} (hm : codec_Reader_number n a0 = some r) :
    ∃ vv H1, call G n 53 [.ptr 0 0] [.box [aB a0.fmade, .pv (encSl (rI .u8) a0.fb), aI a0.fe] false] = some (.ret vv, H1) ∧ (match r with | (r0, r1, r2, r3, r4) => (vv = .tup [aU r3, aB r4] ∧ H1 = [.box [aB r0, .pv (encSl (rI .u8) r1), aI r2] false])) := by
  unfold codec_Reader_number at hm
  obtain ⟨n, rfl, h0⟩ := at1_some hm
  replace hm := h0; clear h0
  refine callE 52 [(0, .ptr 0 0)] func53 rfl (by kernel_rfl) (sq (detn [(0, .ptr 0 0), (2, aU 0)] (by kernel_rfl) (scq (sq (detn [(0, .ptr 0 0), (2, aU 0), (4, aI 22)] (by kernel_rfl) ?_)))))
  refine sq (sq (detn [(0, .ptr 0 0), (2, aU 0), (4, aI 22), (5, aI 0)] (by kernel_rfl) (bq ?_)))
  refine loopF (fun mm t H => (∃ (y10 : Bool) (y11 : (Option (List Int))) (y12 : Int) (y13 : Int) (y14 : Int), codec_Reader_number_l4 n mm y10 y11 y12 y13 y14 = some r ∧ t = mk 52 [(0, .ptr 0 0), (2, aU y13), (4, aI 22), (5, aI y14)] ∧ H = [.box [aB y10, .pv (encSl (rI .u8) y11), aI y12] false])) (⟨a0.fmade, a0.fb, a0.fe, 0, 0, hm, rfl, rfl⟩) ?_ ?_
  · rintro _ _ ⟨y10, y11, y12, y13, y14, hm, _⟩; exact nomatch hm
  rintro m15 _ _ ⟨y10, y11, y12, y13, y14, hm, rfl, rfl⟩
  simp only [codec_Reader_number_l4] at hm
  refine sq (bq ?_)
  refine sq (sq (detn [(0, .ptr 0 0), (2, aU y13), (4, aI 22), (5, aI y14), (12, aB (y14 == 10))] (by kernel_rfl) ?_))
  rcases bif_some hm with ⟨h16, hm⟩ | ⟨h16, hm⟩
  ·
   refine ct h16 (by kernel_rfl) (wp_goto ?_)
   refine ⟨by kernel_rfl, ?_⟩
   refine wp_seq_r (by kernel_rfl) (wp_seq_r (by kernel_rfl) (sql (by kernel_rfl) (wp_label_l (sq (rg (sh 2 [(50, aI 22), (49, .ptr 0 0)] (by kernel_rfl) ?_))))))
   obtain ⟨_, h17, hm⟩ := bs hm
   obtain ⟨vv, H1, hC, rfl, rfl⟩ := ok_codec_Reader_fail h17
   refine dR [(51, .tup [])] [.box [aB ((codec_Reader.mk y10 y11 y12).fmade), .pv .nils, aI 22] false] [0] [.ptr 0 0, aI 22] (by kernel_rfl) (by kernel_rfl) (by kernel_rfl) hC (by kernel_rfl) (fin [] rfl (by kernel_rfl) (sq (detn [(2, aU 0), (3, aB false)] (by kernel_rfl) (wp_ret ?_))))
   obtain rfl := Option.some.inj hm
   exact ⟨trivial, .tup [aU 0, aB false], [.box [aB ((codec_Reader.mk y10 y11 y12).fmade), .pv .nils, aI 22] false], by kernel_rfl, rfl, rfl⟩
  ·
   refine cf h16 (by kernel_rfl) (wp_skip (sq (rg (sh 1 [(14, .ptr 0 0)] (by kernel_rfl) ?_))))
   obtain ⟨⟨x19, x20, x21, x22⟩, h18, hm⟩ := bs hm
   obtain ⟨vv, H1, hC, rfl, rfl⟩ := ok_codec_Reader_take h18
   refine dR [(15, .tup [.pv (encSl (rI .u8) x21), aB x22])] [.box [aB ((codec_Reader.mk y10 y11 y12).fmade), .pv (encSl (rI .u8) x19), aI x20] false] [0] [.ptr 0 0, aI 1] (by kernel_rfl) (by kernel_rfl) (by kernel_rfl) hC (by kernel_rfl) (sh 5 [(7, aB x22), (6, .pv (encSl (rI .u8) x21)), (17, aB x22), (16, .pv (encSl (rI .u8) x21)), (13, .tup [.pv (encSl (rI .u8) x21), aB x22])] (by kernel_rfl) (fin [(0, .ptr 0 0), (2, aU y13), (4, aI 22), (5, aI y14), (6, .pv (encSl (rI .u8) x21)), (7, aB x22)] rfl (by kernel_rfl) ?_))
   refine sq (sq (detn [(0, .ptr 0 0), (2, aU y13), (4, aI 22), (5, aI y14), (6, .pv (encSl (rI .u8) x21)), (19, aB (!x22))] (by kernel_rfl) ?_))
   rcases bif_some hm with ⟨h23, hm⟩ | ⟨h23, hm⟩
   ·
    refine ct h23 (by kernel_rfl) (sq (detn [(2, aU 0), (3, aB false)] (by kernel_rfl) (wp_ret ?_)))
    obtain rfl := Option.some.inj hm
    exact ⟨trivial, .tup [aU 0, aB false], [.box [aB ((codec_Reader.mk y10 y11 y12).fmade), .pv (encSl (rI .u8) x19), aI x20] false], by kernel_rfl, rfl, rfl⟩
   ·
    refine cf h23 (by kernel_rfl) (wp_skip (sq (rg (sh 1 [(20, .pv (encSl (rI .u8) x21))] (by kernel_rfl) ?_))))
    obtain ⟨x24, h25, hm⟩ := bs hm
    refine dv 21 (v := .pv (.ptr ((rI .u8) x24) 0)) (ia_slO (rI .u8) x21 .i64 t35 t5 h25 rfl (by kernel_rfl)) (by kernel_rfl) (sh 2 [(8, aY x24), (22, aY x24)] (by kernel_rfl) (fin [(0, .ptr 0 0), (2, aU y13), (4, aI 22), (5, aI y14), (8, aY x24)] rfl (by kernel_rfl) ?_))
    refine sq (sq (rg (sh 3 [(25, aB (y14 == 9)), (24, aB (y14 == 9)), (23, aI y14)] (by kernel_rfl) ?_)))
    refine seg (y14 == 9) [25, 24] (fun b => [(28, aB (b && (decide (x24 > 1)))), (27, ifA b (aB (decide (x24 > 1))) (.undef)), (26, ifA b (aY x24) (.undef))]) 6 (by kernel_rfl) ?_ ?_ ?_
    ·
     intro Q h
     refine sh 3 [(28, aB (decide (x24 > 1))), (27, aB (decide (x24 > 1))), (26, aY x24)] (by kernel_rfl) ?_
     exact sameN (by kernel_rfl) (by kernel_rfl) h
    ·
     intro Q h
     refine sh 3 [(28, aB false), (27, .undef), (26, .undef)] (by kernel_rfl) ?_
     exact sameN (by kernel_rfl) (by kernel_rfl) h
    refine sh 1 [(29, aB ((y14 == 9) && (decide (x24 > 1))))] (by kernel_rfl) ?_
    refine seg ((y14 == 9) && (decide (x24 > 1))) [29, 28] (fun b => [(36, aB (b || ((decide (y14 > 0)) && (x24 == 0)))), (35, ifA b (.undef) (aB ((decide (y14 > 0)) && (x24 == 0)))), (34, ifA b (.undef) (ifA (decide (y14 > 0)) (aB (x24 == 0)) (.undef))), (33, ifA b (.undef) (ifA (decide (y14 > 0)) (aY x24) (.undef))), (32, ifA b (.undef) (aB (decide (y14 > 0)))), (31, ifA b (.undef) (aB (decide (y14 > 0)))), (30, ifA b (.undef) (aI y14))]) 14 (by kernel_rfl) ?_ ?_ ?_
    ·
     intro Q h
     refine sh 7 [(36, aB true), (35, .undef), (34, .undef), (33, .undef), (32, .undef), (31, .undef), (30, .undef)] (by kernel_rfl) ?_
     exact sameN (by kernel_rfl) (by kernel_rfl) h
    ·
     intro Q h
     refine sh 3 [(32, aB (decide (y14 > 0))), (31, aB (decide (y14 > 0))), (30, aI y14)] (by kernel_rfl) ?_
     refine seg (decide (y14 > 0)) [32, 31] (fun b => [(35, aB (b && (x24 == 0))), (34, ifA b (aB (x24 == 0)) (.undef)), (33, ifA b (aY x24) (.undef))]) 13 (by kernel_rfl) ?_ ?_ ?_
     ·
      intro Q h
      refine sh 3 [(35, aB (x24 == 0)), (34, aB (x24 == 0)), (33, aY x24)] (by kernel_rfl) ?_
      exact sameN (by kernel_rfl) (by kernel_rfl) h
     ·
      intro Q h
      refine sh 3 [(35, aB false), (34, .undef), (33, .undef)] (by kernel_rfl) ?_
      exact sameN (by kernel_rfl) (by kernel_rfl) h
     refine sh 1 [(36, aB ((decide (y14 > 0)) && (x24 == 0)))] (by kernel_rfl) ?_
     exact sameN (by kernel_rfl) (by kernel_rfl) h
    refine fin [(0, .ptr 0 0), (2, aU y13), (4, aI 22), (5, aI y14), (8, aY x24), (36, aB (((y14 == 9) && (decide (x24 > 1))) || ((decide (y14 > 0)) && (x24 == 0))))] rfl (by kernel_rfl) ?_
    rcases bif_some hm with ⟨h26, hm⟩ | ⟨h26, hm⟩
    ·
     refine ct h26 (by kernel_rfl) (wp_goto ?_)
     refine ⟨by kernel_rfl, ?_⟩
     refine wp_seq_r (by kernel_rfl) (wp_seq_r (by kernel_rfl) (sql (by kernel_rfl) (wp_label_l (sq (rg (sh 2 [(50, aI 22), (49, .ptr 0 0)] (by kernel_rfl) ?_))))))
     obtain ⟨_, h27, hm⟩ := bs hm
     obtain ⟨vv, H1, hC, rfl, rfl⟩ := ok_codec_Reader_fail h27
     refine dR [(51, .tup [])] [.box [aB ((codec_Reader.mk ((codec_Reader.mk y10 y11 y12).fmade) x19 x20).fmade), .pv .nils, aI 22] false] [0] [.ptr 0 0, aI 22] (by kernel_rfl) (by kernel_rfl) (by kernel_rfl) hC (by kernel_rfl) (fin [] rfl (by kernel_rfl) (sq (detn [(2, aU 0), (3, aB false)] (by kernel_rfl) (wp_ret ?_))))
     obtain rfl := Option.some.inj hm
     exact ⟨trivial, .tup [aU 0, aB false], [.box [aB ((codec_Reader.mk ((codec_Reader.mk y10 y11 y12).fmade) x19 x20).fmade), .pv .nils, aI 22] false], by kernel_rfl, rfl, rfl⟩
    ·
     refine cf h26 (by kernel_rfl) (wp_skip (sq (rg (sh 7 [(43, aU (IntKind.wrap .u64 (IntKind.wrap .i64 (7 * y14)))), (42, aI (IntKind.wrap .i64 (7 * y14))), (41, aI y14), (40, aU (IntKind.wrap .u64 (iAnd .u8 x24 127))), (39, aY (iAnd .u8 x24 127)), (38, aY x24), (37, aU y13)] (by kernel_rfl) ?_))))
     obtain ⟨_, h28, hm⟩ := bs hm
     refine dv 44 (v := aU (iShl .u64 (IntKind.wrap .u64 (iAnd .u8 x24 127)) (IntKind.wrap .u64 (IntKind.wrap .i64 (7 * y14))))) (shlO h28 (by kernel_rfl)) (by kernel_rfl) (sh 2 [(2, aU (iOr .u64 y13 (iShl .u64 (IntKind.wrap .u64 (iAnd .u8 x24 127)) (IntKind.wrap .u64 (IntKind.wrap .i64 (7 * y14)))))), (45, aU (iOr .u64 y13 (iShl .u64 (IntKind.wrap .u64 (iAnd .u8 x24 127)) (IntKind.wrap .u64 (IntKind.wrap .i64 (7 * y14))))))] (by kernel_rfl) (fin [(0, .ptr 0 0), (2, aU (iOr .u64 y13 (iShl .u64 (IntKind.wrap .u64 (iAnd .u8 x24 127)) (IntKind.wrap .u64 (IntKind.wrap .i64 (7 * y14)))))), (4, aI 22), (5, aI y14), (8, aY x24)] rfl (by kernel_rfl) (sq (detn [(0, .ptr 0 0), (2, aU (iOr .u64 y13 (iShl .u64 (IntKind.wrap .u64 (iAnd .u8 x24 127)) (IntKind.wrap .u64 (IntKind.wrap .i64 (7 * y14)))))), (4, aI 22), (5, aI y14), (47, aB (decide (x24 < 128)))] (by kernel_rfl) ?_))))
     rcases bif_some hm with ⟨h29, hm⟩ | ⟨h29, hm⟩
     ·
      refine ct h29 (by kernel_rfl) (sq (detn [(2, aU (iOr .u64 y13 (iShl .u64 (IntKind.wrap .u64 (iAnd .u8 x24 127)) (IntKind.wrap .u64 (IntKind.wrap .i64 (7 * y14)))))), (3, aB true)] (by kernel_rfl) (wp_ret ?_)))
      obtain rfl := Option.some.inj hm
      exact ⟨trivial, .tup [aU (iOr .u64 y13 (iShl .u64 (IntKind.wrap .u64 (iAnd .u8 x24 127)) (IntKind.wrap .u64 (IntKind.wrap .i64 (7 * y14))))), aB true], [.box [aB ((codec_Reader.mk y10 y11 y12).fmade), .pv (encSl (rI .u8) x19), aI x20] false], by kernel_rfl, rfl, rfl⟩
     ·
      refine cf h29 (by kernel_rfl) (wp_skip (detn [(0, .ptr 0 0), (2, aU (iOr .u64 y13 (iShl .u64 (IntKind.wrap .u64 (iAnd .u8 x24 127)) (IntKind.wrap .u64 (IntKind.wrap .i64 (7 * y14)))))), (4, aI 22), (5, aI (IntKind.wrap .i64 (y14 + 1)))] (by kernel_rfl) ?_))
      exact ⟨_, _, tidyL [(0, .ptr 0 0), (2, aU (iOr .u64 y13 (iShl .u64 (IntKind.wrap .u64 (iAnd .u8 x24 127)) (IntKind.wrap .u64 (IntKind.wrap .i64 (7 * y14)))))), (4, aI 22), (5, aI (IntKind.wrap .i64 (y14 + 1)))] [.box [aB ((codec_Reader.mk y10 y11 y12).fmade), .pv (encSl (rI .u8) x19), aI x20] false] (by kernel_rfl), ⟨((codec_Reader.mk y10 y11 y12).fmade), x19, x20, (iOr .u64 y13 (iShl .u64 (IntKind.wrap .u64 (iAnd .u8 x24 127)) (IntKind.wrap .u64 (IntKind.wrap .i64 (7 * y14))))), (IntKind.wrap .i64 (y14 + 1)), hm, rfl, rfl⟩⟩
theorem ok_codec_Reader_Uint {n : Nat} {a0 : codec_Reader} {a1 : Int} {r : Bool × (Option (List Int)) × Int × Int} (hm : codec_Reader_Uint n a0 a1 = some r) :
    ∃ vv H1, call G n 33 [.ptr 0 0, aU a1] [.box [aB a0.fmade, .pv (encSl (rI .u8) a0.fb), aI a0.fe] false] = some (.ret vv, H1) ∧ (match r with | (r0, r1, r2, r3) => (vv = aU r3 ∧ H1 = [.box [aB r0, .pv (encSl (rI .u8) r1), aI r2] false])) := by
  unfold codec_Reader_Uint at hm
  obtain ⟨n, rfl, h0⟩ := at1_some hm
  replace hm := h0; clear h0
  refine callE 24 [(0, .ptr 0 0), (1, aU a1)] func33 rfl (by kernel_rfl) (sq (detn [(0, .ptr 0 0), (1, aU a1)] (by kernel_rfl) ?_))
  refine sq (sq (rg (sh 1 [(7, .ptr 0 0)] (by kernel_rfl) ?_)))
  obtain ⟨_, h1, hm⟩ := bs hm
  obtain ⟨vv, H1, hC, rfl, rfl⟩ := ok_codec_Reader_ready h1
  refine dR [(8, aB (a0.fmade && (a0.fe == 0)))] [.box [aB a0.fmade, .pv (encSl (rI .u8) a0.fb), aI a0.fe] false] [0] [.ptr 0 0] (by kernel_rfl) (by kernel_rfl) (by kernel_rfl) hC (by kernel_rfl) (sh 1 [(9, aB (!(a0.fmade && (a0.fe == 0))))] (by kernel_rfl) (fin [(0, .ptr 0 0), (1, aU a1), (9, aB (!(a0.fmade && (a0.fe == 0))))] rfl (by kernel_rfl) ?_))
  rcases bif_some hm with ⟨h2, hm⟩ | ⟨h2, hm⟩
  ·
   refine ct h2 (by kernel_rfl) (sq (detn [(4, aU 0)] (by kernel_rfl) (wp_ret ?_)))
   obtain rfl := Option.some.inj hm
   exact ⟨trivial, aU 0, [.box [aB a0.fmade, .pv (encSl (rI .u8) a0.fb), aI a0.fe] false], by kernel_rfl, rfl, rfl⟩
  ·
   refine cf h2 (by kernel_rfl) (wp_skip (sq (rg (sh 1 [(11, .ptr 0 0)] (by kernel_rfl) ?_))))
   obtain ⟨⟨x4, x5, x6, x7, x8⟩, h3, hm⟩ := bs hm
   obtain ⟨vv, H1, hC, rfl, rfl⟩ := ok_codec_Reader_number h3
   refine dR [(12, .tup [aU x7, aB x8])] [.box [aB x4, .pv (encSl (rI .u8) x5), aI x6] false] [0] [.ptr 0 0] (by kernel_rfl) (by kernel_rfl) (by kernel_rfl) hC (by kernel_rfl) (sh 5 [(6, aB x8), (5, aU x7), (14, aB x8), (13, aU x7), (10, .tup [aU x7, aB x8])] (by kernel_rfl) (fin [(0, .ptr 0 0), (1, aU a1), (5, aU x7), (6, aB x8)] rfl (by kernel_rfl) (sq (sq (rg (sh 2 [(16, aB x8), (15, aB x8)] (by kernel_rfl) ?_))))))
   refine seg x8 [16, 15, 6] (fun b => [(20, aB (b && (decide (x7 > a1)))), (19, ifA b (aB (decide (x7 > a1))) (.undef)), (18, ifA b (aU a1) (.undef)), (17, ifA b (aU x7) (.undef))]) 6 (by kernel_rfl) ?_ ?_ ?_
   ·
    intro Q h
    refine sh 4 [(20, aB (decide (x7 > a1))), (19, aB (decide (x7 > a1))), (18, aU a1), (17, aU x7)] (by kernel_rfl) ?_
    exact sameN (by kernel_rfl) (by kernel_rfl) h
   ·
    intro Q h
    refine sh 4 [(20, aB false), (19, .undef), (18, .undef), (17, .undef)] (by kernel_rfl) ?_
    exact sameN (by kernel_rfl) (by kernel_rfl) h
   refine fin [(0, .ptr 0 0), (5, aU x7), (20, aB (x8 && (decide (x7 > a1))))] rfl (by kernel_rfl) ?_
   rcases bif_some hm with ⟨h9, hm⟩ | ⟨h9, hm⟩
   ·
    refine ct h9 (by kernel_rfl) (sq (rg (sh 1 [(21, .ptr 0 0)] (by kernel_rfl) ?_)))
    obtain ⟨_, h10, hm⟩ := bs hm
    obtain ⟨vv, H1, hC, rfl, rfl⟩ := ok_codec_Reader_fail h10
    refine dR [(22, .tup [])] [.box [aB ((codec_Reader.mk x4 x5 x6).fmade), .pv .nils, aI 3] false] [0] [.ptr 0 0, aI 3] (by kernel_rfl) (by kernel_rfl) (by kernel_rfl) hC (by kernel_rfl) (fin [] rfl (by kernel_rfl) (sq (detn [(4, aU 0)] (by kernel_rfl) (wp_ret ?_))))
    obtain rfl := Option.some.inj hm
    exact ⟨trivial, aU 0, [.box [aB ((codec_Reader.mk x4 x5 x6).fmade), .pv .nils, aI 3] false], by kernel_rfl, rfl, rfl⟩
   ·
    refine cf h9 (by kernel_rfl) (wp_skip (sq (detn [(4, aU x7)] (by kernel_rfl) (wp_ret ?_))))
    obtain rfl := Option.some.inj hm
    exact ⟨trivial, aU x7, [.box [aB x4, .pv (encSl (rI .u8) x5), aI x6] false], by kernel_rfl, rfl, rfl⟩
theorem ok_codec_Reader_Text {n : Nat} {a0 : codec_Reader} {a1 : Int} {r : Bool × (Option (List Int)) × Int × ByteArray} (hm : codec_Reader_Text n a0 a1 = some r) :
    ∃ vv H1, call G n 37 [.ptr 0 0, aI a1] [.box [aB a0.fmade, .pv (encSl (rI .u8) a0.fb), aI a0.fe] false] = some (.ret vv, H1) ∧ (match r with | (r0, r1, r2, r3) => (vv = aS r3 ∧ H1 = [.box [aB r0, .pv (encSl (rI .u8) r1), aI r2] false])) := by
  unfold codec_Reader_Text at hm
  obtain ⟨n, rfl, h0⟩ := at1_some hm
  replace hm := h0; clear h0
  refine callE 25 [(0, .ptr 0 0), (1, aI a1)] func37 rfl (by kernel_rfl) (sq (detn [(0, .ptr 0 0), (1, aI a1)] (by kernel_rfl) (sq (rg (sh 4 [(11, aU (IntKind.wrap .u64 (if 0 > a1 then 0 else a1))), (10, aI (if 0 > a1 then 0 else a1)), (9, aI a1), (8, .ptr 0 0)] (by kernel_rfl) ?_)))))
  obtain ⟨⟨x2, x3, x4, x5⟩, h1, hm⟩ := bs hm
  obtain ⟨vv, H1, hC, rfl, rfl⟩ := ok_codec_Reader_Uint h1
  refine dR [(12, aU x5)] [.box [aB x2, .pv (encSl (rI .u8) x3), aI x4] false] [0] [.ptr 0 0, aU (IntKind.wrap .u64 (if 0 > a1 then 0 else a1))] (by kernel_rfl) (by kernel_rfl) (by kernel_rfl) hC (by kernel_rfl) (sh 1 [(5, aU x5)] (by kernel_rfl) (fin [(0, .ptr 0 0), (5, aU x5)] rfl (by kernel_rfl) ?_))
  refine sq (sq (rg (sh 1 [(13, .ptr 0 0)] (by kernel_rfl) ?_)))
  obtain ⟨_, h6, hm⟩ := bs hm
  obtain ⟨vv, H1, hC, rfl, rfl⟩ := ok_codec_Reader_ready h6
  refine dR [(14, aB ((codec_Reader.mk x2 x3 x4).fmade && ((codec_Reader.mk x2 x3 x4).fe == 0)))] [.box [aB x2, .pv (encSl (rI .u8) x3), aI x4] false] [0] [.ptr 0 0] (by kernel_rfl) (by kernel_rfl) (by kernel_rfl) hC (by kernel_rfl) (sh 1 [(15, aB (!((codec_Reader.mk x2 x3 x4).fmade && ((codec_Reader.mk x2 x3 x4).fe == 0))))] (by kernel_rfl) (fin [(0, .ptr 0 0), (5, aU x5), (15, aB (!((codec_Reader.mk x2 x3 x4).fmade && ((codec_Reader.mk x2 x3 x4).fe == 0))))] rfl (by kernel_rfl) ?_))
  rcases bif_some hm with ⟨h7, hm⟩ | ⟨h7, hm⟩
  ·
   refine ct h7 (by kernel_rfl) (sq (detn [(4, aS ByteArray.empty)] (by kernel_rfl) (wp_ret ?_)))
   obtain rfl := Option.some.inj hm
   exact ⟨trivial, aS ByteArray.empty, [.box [aB x2, .pv (encSl (rI .u8) x3), aI x4] false], by kernel_rfl, rfl, rfl⟩
  ·
   refine cf h7 (by kernel_rfl) (wp_skip (sq (rg (sh 3 [(19, aI (IntKind.wrap .i64 x5)), (18, aU x5), (17, .ptr 0 0)] (by kernel_rfl) ?_))))
   obtain ⟨⟨x9, x10, x11, x12⟩, h8, hm⟩ := bs hm
   obtain ⟨vv, H1, hC, rfl, rfl⟩ := ok_codec_Reader_take h8
   refine dR [(20, .tup [.pv (encSl (rI .u8) x11), aB x12])] [.box [aB ((codec_Reader.mk x2 x3 x4).fmade), .pv (encSl (rI .u8) x9), aI x10] false] [0] [.ptr 0 0, aI (IntKind.wrap .i64 x5)] (by kernel_rfl) (by kernel_rfl) (by kernel_rfl) hC (by kernel_rfl) (sh 5 [(7, aB x12), (6, .pv (encSl (rI .u8) x11)), (22, aB x12), (21, .pv (encSl (rI .u8) x11)), (16, .tup [.pv (encSl (rI .u8) x11), aB x12])] (by kernel_rfl) (fin [(6, .pv (encSl (rI .u8) x11))] rfl (by kernel_rfl) (sq (rg (sh 1 [(23, .pv (encSl (rI .u8) x11))] (by kernel_rfl) (dv 24 (v := aS (strOf (sll x11))) (str_ofO (l := (sll x11)) t35 t9 t5 (src_sl (R := (rI .u8)) (s := x11)) (noStr_sl x11) (by kernel_rfl)) (by kernel_rfl) (sh 1 [(4, aS (strOf (sll x11)))] (by kernel_rfl) (fin [(4, aS (strOf (sll x11)))] rfl (by kernel_rfl) (wp_ret ?_)))))))))
   obtain rfl := Option.some.inj hm
   exact ⟨trivial, aS (strOf (sll x11)), [.box [aB ((codec_Reader.mk x2 x3 x4).fmade), .pv (encSl (rI .u8) x9), aI x10] false], by kernel_rfl, rfl, rfl⟩
theorem ok_codec_Reader_Fixed {n : Nat} {a0 : codec_Reader} {a1 : Int} {r : (Option (List Int)) × Int × Int} (hm : codec_Reader_Fixed n a0 a1 = some r) :
    ∃ vv H1, call G n 41 [.ptr 0 0, aI a1] [.box [aB a0.fmade, .pv (encSl (rI .u8) a0.fb), aI a0.fe] false] = some (.ret vv, H1) ∧ (match r with | (r0, r1, r2) => (vv = aU r2 ∧ H1 = [.box [aB a0.fmade, .pv (encSl (rI .u8) r0), aI r1] false])) := by
  unfold codec_Reader_Fixed at hm
  obtain ⟨n, rfl, h0⟩ := at1_some hm
  replace hm := h0; clear h0
  refine callE 34 [(0, .ptr 0 0), (1, aI a1)] func41 rfl (by kernel_rfl) (sq (detn [(0, .ptr 0 0), (1, aI a1)] (by kernel_rfl) ?_))
  refine sq (sq (rg (sh 1 [(10, .ptr 0 0)] (by kernel_rfl) ?_)))
  obtain ⟨_, h1, hm⟩ := bs hm
  obtain ⟨vv, H1, hC, rfl, rfl⟩ := ok_codec_Reader_ready h1
  refine dR [(11, aB (a0.fmade && (a0.fe == 0)))] [.box [aB a0.fmade, .pv (encSl (rI .u8) a0.fb), aI a0.fe] false] [0] [.ptr 0 0] (by kernel_rfl) (by kernel_rfl) (by kernel_rfl) hC (by kernel_rfl) (sh 1 [(12, aB (!(a0.fmade && (a0.fe == 0))))] (by kernel_rfl) (fin [(0, .ptr 0 0), (1, aI a1), (12, aB (!(a0.fmade && (a0.fe == 0))))] rfl (by kernel_rfl) ?_))
  rcases bif_some hm with ⟨h2, hm⟩ | ⟨h2, hm⟩
  ·
   refine ct h2 (by kernel_rfl) (sq (detn [(4, aU 0)] (by kernel_rfl) (wp_ret ?_)))
   obtain rfl := Option.some.inj hm
   exact ⟨trivial, aU 0, [.box [aB a0.fmade, .pv (encSl (rI .u8) a0.fb), aI a0.fe] false], by kernel_rfl, rfl, rfl⟩
  ·
   refine cf h2 (by kernel_rfl) (wp_skip (sq (rg (sh 4 [(17, aI (if 8 < (if 0 > a1 then 0 else a1) then 8 else (if 0 > a1 then 0 else a1))), (16, aI (if 0 > a1 then 0 else a1)), (15, aI a1), (14, .ptr 0 0)] (by kernel_rfl) ?_))))
   obtain ⟨⟨x4, x5, x6, x7⟩, h3, hm⟩ := bs hm
   obtain ⟨vv, H1, hC, rfl, rfl⟩ := ok_codec_Reader_take h3
   refine dR [(18, .tup [.pv (encSl (rI .u8) x6), aB x7])] [.box [aB a0.fmade, .pv (encSl (rI .u8) x4), aI x5] false] [0] [.ptr 0 0, aI (if 8 < (if 0 > a1 then 0 else a1) then 8 else (if 0 > a1 then 0 else a1))] (by kernel_rfl) (by kernel_rfl) (by kernel_rfl) hC (by kernel_rfl) (sh 5 [(6, aB x7), (5, .pv (encSl (rI .u8) x6)), (20, aB x7), (19, .pv (encSl (rI .u8) x6)), (13, .tup [.pv (encSl (rI .u8) x6), aB x7])] (by kernel_rfl) (fin [(5, .pv (encSl (rI .u8) x6))] rfl (by kernel_rfl) (sq (detn [(5, .pv (encSl (rI .u8) x6)), (7, aU 0)] (by kernel_rfl) ?_))))
   obtain ⟨k11, hk11, hm⟩ := withK_some hm
   refine mid (fun t H => (∃ (y8 : Int) (y9 : Bool) (y10 : Int), k11 y10 = some r ∧ t = mk 34 [(7, aU y10), (21, .pv (encSl (rI .u8) x6)), (22, aI ((sll x6).length : Int)), (23, aI y8), (24, aB y9)] ∧ H = [.box [aB a0.fmade, .pv (encSl (rI .u8) x4), aI x5] false])) ?_ ?_
   ·
    rintro _ _ ⟨y8, y9, y10, hm, rfl, rfl⟩
    subst hk11
    refine sq (detn [(4, aU y10)] (by kernel_rfl) (wp_ret ?_))
    obtain rfl := Option.some.inj hm
    exact ⟨trivial, aU y10, [.box [aB a0.fmade, .pv (encSl (rI .u8) x4), aI x5] false], by kernel_rfl, rfl, rfl⟩
   refine sq (rg (sh 1 [(21, .pv (encSl (rI .u8) x6))] (by kernel_rfl) (dv 22 (v := aI ((sll x6).length : Int)) (len_slO (rI .u8) x6 t35 (by kernel_rfl)) (by kernel_rfl) (sh 1 [(23, aI 0)] (by kernel_rfl) (fin [(7, aU 0), (21, .pv (encSl (rI .u8) x6)), (22, aI ((sll x6).length : Int)), (23, aI 0)] rfl (by kernel_rfl) (bq ?_))))))
   refine loopF (fun mm t H => (∃ (y14 : Int) (y15 : Int), codec_Reader_Fixed_l6 n x6 k11 mm y14 y15 = some r ∧ t = mk 34 [(7, aU y15), (21, .pv (encSl (rI .u8) x6)), (22, aI ((sll x6).length : Int)), (23, aI y14)] ∧ H = [.box [aB a0.fmade, .pv (encSl (rI .u8) x4), aI x5] false])) (⟨0, 0, hm, rfl, rfl⟩) ?_ ?_
   · rintro _ _ ⟨y14, y15, hm, _⟩; exact nomatch hm
   rintro m16 _ _ ⟨y14, y15, hm, rfl, rfl⟩
   simp only [codec_Reader_Fixed_l6] at hm
   refine sq (detn [(7, aU y15), (21, .pv (encSl (rI .u8) x6)), (22, aI ((sll x6).length : Int)), (23, aI y14), (24, aB (decide (y14 < ((sll x6).length : Int))))] (by kernel_rfl) ?_)
   refine sq ?_
   rcases bif_some hm with ⟨h17, hm⟩ | ⟨h17, hm⟩
   ·
    refine ct h17 (by kernel_rfl) (wp_skip (sq (bq (sq (rg ?_)))))
    obtain ⟨x18, h19, hm⟩ := bs hm
    refine dv 25 (v := .pv (.ptr ((rI .u8) x18) 0)) (ia_slO (rI .u8) x6 .i64 t35 t5 h19 rfl (by kernel_rfl)) (by kernel_rfl) (sh 2 [(9, aY x18), (26, aY x18)] (by kernel_rfl) (fin [(7, aU y15), (9, aY x18), (21, .pv (encSl (rI .u8) x6)), (22, aI ((sll x6).length : Int)), (23, aI y14)] rfl (by kernel_rfl) (detn [(7, aU (iOr .u64 (iShl .u64 y15 8) (IntKind.wrap .u64 x18))), (21, .pv (encSl (rI .u8) x6)), (22, aI ((sll x6).length : Int)), (23, aI y14)] (by kernel_rfl) (detn [(7, aU (iOr .u64 (iShl .u64 y15 8) (IntKind.wrap .u64 x18))), (21, .pv (encSl (rI .u8) x6)), (22, aI ((sll x6).length : Int)), (23, aI (IntKind.wrap .i64 (y14 + 1)))] (by kernel_rfl) ?_))))
    exact ⟨_, _, tidyL [(7, aU (iOr .u64 (iShl .u64 y15 8) (IntKind.wrap .u64 x18))), (21, .pv (encSl (rI .u8) x6)), (22, aI ((sll x6).length : Int)), (23, aI (IntKind.wrap .i64 (y14 + 1)))] [.box [aB a0.fmade, .pv (encSl (rI .u8) x4), aI x5] false] (by kernel_rfl), ⟨(IntKind.wrap .i64 (y14 + 1)), (iOr .u64 (iShl .u64 y15 8) (IntKind.wrap .u64 x18)), hm, rfl, rfl⟩⟩
   ·
    refine cf h17 (by kernel_rfl) (wp_exit ?_)
    exact ⟨y14, (decide (y14 < ((sll x6).length : Int))), y15, hm, rfl, rfl⟩
theorem ok_codec_Reader_Byte {n : Nat} {a0 : codec_Reader} {r : (Option (List Int)) × Int × Int} (hm : codec_Reader_Byte n a0 = some r) :
    ∃ vv H1, call G n 35 [.ptr 0 0] [.box [aB a0.fmade, .pv (encSl (rI .u8) a0.fb), aI a0.fe] false] = some (.ret vv, H1) ∧ (match r with | (r0, r1, r2) => (vv = aY r2 ∧ H1 = [.box [aB a0.fmade, .pv (encSl (rI .u8) r0), aI r1] false])) := by
  unfold codec_Reader_Byte at hm
  obtain ⟨n, rfl, h0⟩ := at1_some hm
  replace hm := h0; clear h0
  refine callE 6 [(0, .ptr 0 0)] func35 rfl (by kernel_rfl) (sq (detn [(0, .ptr 0 0)] (by kernel_rfl) (sq (rg (sh 1 [(3, .ptr 0 0)] (by kernel_rfl) ?_)))))
  obtain ⟨⟨x2, x3, x4⟩, h1, hm⟩ := bs hm
  obtain ⟨vv, H1, hC, rfl, rfl⟩ := ok_codec_Reader_Fixed h1
  refine dR [(4, aU x4)] [.box [aB a0.fmade, .pv (encSl (rI .u8) x2), aI x3] false] [0] [.ptr 0 0, aI 1] (by kernel_rfl) (by kernel_rfl) (by kernel_rfl) hC (by kernel_rfl) (sh 2 [(2, aY (IntKind.wrap .u8 x4)), (5, aY (IntKind.wrap .u8 x4))] (by kernel_rfl) (fin [(2, aY (IntKind.wrap .u8 x4))] rfl (by kernel_rfl) (wp_ret ?_)))
  obtain rfl := Option.some.inj hm
  exact ⟨trivial, aY (IntKind.wrap .u8 x4), [.box [aB a0.fmade, .pv (encSl (rI .u8) x2), aI x3] false], by kernel_rfl, rfl, rfl⟩
theorem ok_codec_Reader_Err {n : Nat} {a0 : codec_Reader} {r : Int} (hm : codec_Reader_Err n a0 = some r) :
    ∃ vv H1, call G n 34 [.ptr 0 0] [.box [aB a0.fmade, .pv (encSl (rI .u8) a0.fb), aI a0.fe] false] = some (.ret vv, H1) ∧ (match r with | r0 => (vv = aI r0 ∧ H1 = [.box [aB a0.fmade, .pv (encSl (rI .u8) a0.fb), aI a0.fe] false])) := by
  unfold codec_Reader_Err at hm
  obtain ⟨n, rfl, h0⟩ := at1_some hm
  replace hm := h0; clear h0
  refine callE 16 [(0, .ptr 0 0)] func34 rfl (by kernel_rfl) (sq (detn [(0, .ptr 0 0)] (by kernel_rfl) (sq (sq (detn [(0, .ptr 0 0), (11, aB (!a0.fmade))] (by kernel_rfl) ?_)))))
  rcases bif_some hm with ⟨h1, hm⟩ | ⟨h1, hm⟩
  ·
   refine ct h1 (by kernel_rfl) (sq (detn [(2, aI 1)] (by kernel_rfl) (wp_ret ?_)))
   obtain rfl := Option.some.inj hm
   exact ⟨trivial, aI 1, [.box [aB a0.fmade, .pv (encSl (rI .u8) a0.fb), aI a0.fe] false], by kernel_rfl, rfl, rfl⟩
  ·
   refine cf h1 (by kernel_rfl) (wp_skip (sq (detn [(2, aI a0.fe)] (by kernel_rfl) (wp_ret ?_))))
   obtain rfl := Option.some.inj hm
   exact ⟨trivial, aI a0.fe, [.box [aB a0.fmade, .pv (encSl (rI .u8) a0.fb), aI a0.fe] false], by kernel_rfl, rfl, rfl⟩
theorem ok_schema_Take {n : Nat} {a0 : codec_Reader} {r : Bool × (Option (List Int)) × Int × ByteArray × (Option (List api_Column)) × Int} (hm : schema_Take n a0 = some r) :
    ∃ vv H1, call G n 43 [.ptr 0 0] [.box [aB a0.fmade, .pv (encSl (rI .u8) a0.fb), aI a0.fe] false] = some (.ret vv, H1) ∧ (match r with | (r0, r1, r2, r3, none, r4) => (vv = .tup [.agg [aS r3, .pv .nils], aI r4] ∧ H1 = [.box [aB r0, .pv (encSl (rI .u8) r1), aI r2] false]) | (r0, r1, r2, r3, some r5, r4) => (vv = .tup [.agg [aS r3, aR 1 2 r5.length], aI r4] ∧ H1 = [.box [aB r0, .pv (encSl (rI .u8) r1), aI r2] false, bR 72 2 R_api_Column r5 0 0])) := by
  unfold schema_Take at hm
  obtain ⟨n, rfl, h0⟩ := at1_some hm
  replace hm := h0; clear h0
  refine callE 39 [(0, .ptr 0 0)] func43 rfl (by kernel_rfl) (sq (det [(0, .ptr 0 0), (2, .ptr 1 0)] [.box [aB a0.fmade, .pv (encSl (rI .u8) a0.fb), aI a0.fe] false, .box [aS ByteArray.empty, .pv .nils] false] (by kernel_rfl) (sq (rg (sh 1 [(7, .ptr 0 0)] (by kernel_rfl) ?_)))))
  obtain ⟨⟨x2, x3, x4, x5⟩, h1, hm⟩ := bs hm
  obtain ⟨vv, H1, hC, rfl, rfl⟩ := ok_codec_Reader_Text h1
  refine dR [(8, aS x5)] [.box [aB x2, .pv (encSl (rI .u8) x3), aI x4] false, .box [aS ByteArray.empty, .pv .nils] false] [0] [.ptr 0 0, aI 20] (by kernel_rfl) (by kernel_rfl) (by kernel_rfl) hC (by kernel_rfl) (st 3 [(4, .ptr 2 0), (9, .agg [aS x5, .pv .nils])] [.box [aB x2, .pv (encSl (rI .u8) x3), aI x4] false, .box [aS ByteArray.empty, .pv .nils] false, .box [aS x5, .pv .nils] false] (by kernel_rfl) (fin [(0, .ptr 0 0), (2, .ptr 1 0), (4, .ptr 2 0)] rfl (by kernel_rfl) ?_))
  obtain ⟨k13, hk13, hm⟩ := withK_some hm
  refine mid (fun t H => (∃ (y6 : Bool) (y7 : (Option (List Int))) (y8 : Int) (y10 : Int) (y11 : Int) (y12 : Bool), k13 y6 y7 y8 none = some r ∧ t = mk 39 [(0, .ptr 0 0), (2, .ptr 1 0), (4, .ptr 2 0), (11, aU y10), (12, aU y11), (13, aB y12)] ∧ H = [.box [aB y6, .pv (encSl (rI .u8) y7), aI y8] false, .box [aS ByteArray.empty, .pv .nils] false, .box [aS x5, .pv .nils] false]) ∨ (∃ (y6 : Bool) (y7 : (Option (List Int))) (y8 : Int) (y9 : (List api_Column)) (y10 : Int) (y11 : Int) (y12 : Bool), k13 y6 y7 y8 (some y9) = some r ∧ t = mk 39 [(0, .ptr 0 0), (2, .ptr 1 0), (4, .ptr 2 0), (11, aU y10), (12, aU y11), (13, aB y12)] ∧ H = [.box [aB y6, .pv (encSl (rI .u8) y7), aI y8] false, .box [aS ByteArray.empty, .pv .nils] false, .box [aS x5, aR 3 2 y9.length] false, bR 72 2 R_api_Column y9 0 0])) ?_ ?_
  ·
   rintro _ _ (⟨y6, y7, y8, y10, y11, y12, hm, rfl, rfl⟩ | ⟨y6, y7, y8, y9, y10, y11, y12, hm, rfl, rfl⟩)
   ·
    subst hk13
    refine sq (rg (sh 1 [(28, .ptr 0 0)] (by kernel_rfl) ?_))
    obtain ⟨x15, h14, hm⟩ := bs hm
    obtain ⟨vv, H1, hC, rfl, rfl⟩ := ok_codec_Reader_Err h14
    refine dR [(29, aI x15)] [.box [aB y6, .pv (encSl (rI .u8) y7), aI y8] false, .box [aS ByteArray.empty, .pv .nils] false, .box [aS x5, .pv .nils] false] [0] [.ptr 0 0] (by kernel_rfl) (by kernel_rfl) (by kernel_rfl) hC (by kernel_rfl) (sh 1 [(6, aI x15)] (by kernel_rfl) (fin [(2, .ptr 1 0), (4, .ptr 2 0), (6, aI x15)] rfl (by kernel_rfl) ?_))
    obtain ⟨k18, hk18, hm⟩ := withK_some hm
    refine mid (fun t H => (∃ (y17 : Int) (w16 : AV), k18 y17 = some r ∧ t = mk 39 [(2, .ptr 1 0), (4, .ptr 2 0), (6, aI y17), (31, w16)] ∧ H = [.box [aB y6, .pv (encSl (rI .u8) y7), aI y8] false, .box [aS ByteArray.empty, .pv .nils] false, .box [aS x5, .pv .nils] false])) ?_ ?_
    ·
     rintro _ _ ⟨y17, w16, hm, rfl, rfl⟩
     subst hk18
     refine sq (sq (detn [(2, .ptr 1 0), (4, .ptr 2 0), (6, aI y17), (35, aB (y17 != 0))] (by kernel_rfl) ?_))
     rcases bif_some hm with ⟨h19, hm⟩ | ⟨h19, hm⟩
     ·
      refine ct h19 (by kernel_rfl) (sq (detn [(2, .ptr 1 0), (3, aI y17)] (by kernel_rfl) (wp_ret ?_)))
      obtain rfl := Option.some.inj hm
      exact ⟨trivial, .tup [.agg [aS ByteArray.empty, .pv .nils], aI y17], [.box [aB y6, .pv (encSl (rI .u8) y7), aI y8] false], by kernel_rfl, rfl, rfl⟩
     ·
      refine cf h19 (by kernel_rfl) (wp_skip (sq (det [(2, .ptr 1 0), (3, aI 0)] [.box [aB y6, .pv (encSl (rI .u8) y7), aI y8] false, .box [aS x5, .pv .nils] false, .box [aS x5, .pv .nils] false] (by kernel_rfl) (wp_ret ?_))))
      obtain rfl := Option.some.inj hm
      exact ⟨trivial, .tup [.agg [aS x5, .pv .nils], aI 0], [.box [aB y6, .pv (encSl (rI .u8) y7), aI y8] false], by kernel_rfl, rfl, rfl⟩
    refine sq (detn [(2, .ptr 1 0), (4, .ptr 2 0), (6, aI x15), (31, aB (x15 == 0))] (by kernel_rfl) ?_)
    rcases bif_some hm with ⟨h20, hm⟩ | ⟨h20, hm⟩
    ·
     refine ct h20 (by kernel_rfl) (rg (sh 1 [(32, .agg [aS x5, .pv .nils])] (by kernel_rfl) ?_))
     obtain ⟨x21, h22, hm⟩ := bs hm
     refine dv 33 (cpure (by kernel_rfl) (ok_schema_Right h22) (by kernel_rfl) (by kernel_rfl) (by kernel_rfl)) (by kernel_rfl) (sh 1 [(6, aI x21)] (by kernel_rfl) (fin [(2, .ptr 1 0), (4, .ptr 2 0), (6, aI x21)] rfl (by kernel_rfl) ?_))
     exact ⟨x21, .any, hm, (mk_same (by kernel_rfl)), rfl⟩
    ·
     refine cf h20 (by kernel_rfl) (wp_skip ?_)
     exact ⟨x15, aB (x15 == 0), hm, (mk_same (by kernel_rfl)), rfl⟩
   ·
    subst hk13
    refine sq (rg (sh 1 [(28, .ptr 0 0)] (by kernel_rfl) ?_))
    obtain ⟨x24, h23, hm⟩ := bs hm
    obtain ⟨vv, H1, hC, rfl, rfl⟩ := ok_codec_Reader_Err h23
    refine dR [(29, aI x24)] [.box [aB y6, .pv (encSl (rI .u8) y7), aI y8] false, .box [aS ByteArray.empty, .pv .nils] false, .box [aS x5, aR 3 2 y9.length] false, bR 72 2 R_api_Column y9 0 0] [0] [.ptr 0 0] (by kernel_rfl) (by kernel_rfl) (by kernel_rfl) hC (by kernel_rfl) (sh 1 [(6, aI x24)] (by kernel_rfl) (fin [(2, .ptr 1 0), (4, .ptr 2 0), (6, aI x24)] rfl (by kernel_rfl) ?_))
    obtain ⟨k27, hk27, hm⟩ := withK_some hm
    refine mid (fun t H => (∃ (y26 : Int) (w25 : AV), k27 y26 = some r ∧ t = mk 39 [(2, .ptr 1 0), (4, .ptr 2 0), (6, aI y26), (31, w25)] ∧ H = [.box [aB y6, .pv (encSl (rI .u8) y7), aI y8] false, .box [aS ByteArray.empty, .pv .nils] false, .box [aS x5, aR 3 2 y9.length] false, bR 72 2 R_api_Column y9 0 0])) ?_ ?_
    ·
     rintro _ _ ⟨y26, w25, hm, rfl, rfl⟩
     subst hk27
     refine sq (sq (detn [(2, .ptr 1 0), (4, .ptr 2 0), (6, aI y26), (35, aB (y26 != 0))] (by kernel_rfl) ?_))
     rcases bif_some hm with ⟨h28, hm⟩ | ⟨h28, hm⟩
     ·
      refine ct h28 (by kernel_rfl) (sq (detn [(2, .ptr 1 0), (3, aI y26)] (by kernel_rfl) (wp_ret ?_)))
      obtain rfl := Option.some.inj hm
      exact ⟨trivial, .tup [.agg [aS ByteArray.empty, .pv .nils], aI y26], [.box [aB y6, .pv (encSl (rI .u8) y7), aI y8] false], by kernel_rfl, rfl, rfl⟩
     ·
      refine cf h28 (by kernel_rfl) (wp_skip (sq (det [(2, .ptr 1 0), (3, aI 0)] [.box [aB y6, .pv (encSl (rI .u8) y7), aI y8] false, .box [aS x5, aR 3 2 y9.length] false, .box [aS x5, aR 3 2 y9.length] false, bR 72 2 R_api_Column y9 0 0] (by kernel_rfl) (wp_ret ?_))))
      obtain rfl := Option.some.inj hm
      exact ⟨trivial, .tup [.agg [aS x5, aR 1 2 y9.length], aI 0], [.box [aB y6, .pv (encSl (rI .u8) y7), aI y8] false, bR 72 2 R_api_Column y9 0 0], by kernel_rfl, rfl, rfl⟩
    refine sq (detn [(2, .ptr 1 0), (4, .ptr 2 0), (6, aI x24), (31, aB (x24 == 0))] (by kernel_rfl) ?_)
    rcases bif_some hm with ⟨h29, hm⟩ | ⟨h29, hm⟩
    ·
     refine ct h29 (by kernel_rfl) (rg (sh 1 [(32, .agg [aS x5, aR 3 2 y9.length])] (by kernel_rfl) ?_))
     obtain ⟨x30, h31, hm⟩ := bs hm
     refine dO [(33, aI x30)] [.box [aB y6, .pv (encSl (rI .u8) y7), aI y8] false, .box [aS ByteArray.empty, .pv .nils] false, .box [aS x5, aR 3 2 y9.length] false, bR 72 2 R_api_Column y9 0 0] (cpureR [3] [.agg [aS x5, aR 3 2 y9.length]] (fl := true) (by kernel_rfl) (by kernel_rfl) (pAs_cons (pA_agg (purL_cons (pur_pv) (purL_cons (pur_ref' (id := 3) (l := y9) (R := R_api_Column) rfl (by first | rfl | simp) (by first | exact Nat.zero_le _ | exact Nat.le_refl _ | assumption | (simp; done) | (simp; omega))) (rfl)))) (rfl)) (ok_schema_Right h31) (by kernel_rfl) (by kernel_rfl)) (by kernel_rfl) (sh 1 [(6, aI x30)] (by kernel_rfl) (fin [(2, .ptr 1 0), (4, .ptr 2 0), (6, aI x30)] rfl (by kernel_rfl) ?_))
     exact ⟨x30, .any, hm, (mk_same (by kernel_rfl)), (by first | rfl | simp)⟩
    ·
     refine cf h29 (by kernel_rfl) (wp_skip ?_)
     exact ⟨x24, aB (x24 == 0), hm, (mk_same (by kernel_rfl)), (by first | rfl | simp)⟩
  refine sq (rg (sh 1 [(10, .ptr 0 0)] (by kernel_rfl) ?_))
  obtain ⟨⟨x33, x34, x35, x36⟩, h32, hm⟩ := bs hm
  obtain ⟨vv, H1, hC, rfl, rfl⟩ := ok_codec_Reader_Uint h32
  refine dR [(11, aU x36)] [.box [aB x33, .pv (encSl (rI .u8) x34), aI x35] false, .box [aS ByteArray.empty, .pv .nils] false, .box [aS x5, .pv .nils] false] [0] [.ptr 0 0, aU 8] (by kernel_rfl) (by kernel_rfl) (by kernel_rfl) hC (by kernel_rfl) (sh 1 [(12, aU 0)] (by kernel_rfl) (fin [(0, .ptr 0 0), (2, .ptr 1 0), (4, .ptr 2 0), (11, aU x36), (12, aU 0)] rfl (by kernel_rfl) (bq ?_)))
  refine loopF (fun mm t H => (∃ (y43 : Bool) (y44 : (Option (List Int))) (y45 : Int) (y47 : Int), schema_Take_l3 n k13 x36 mm y43 y44 y45 none y47 = some r ∧ t = mk 39 [(0, .ptr 0 0), (2, .ptr 1 0), (4, .ptr 2 0), (11, aU x36), (12, aU y47)] ∧ H = [.box [aB y43, .pv (encSl (rI .u8) y44), aI y45] false, .box [aS ByteArray.empty, .pv .nils] false, .box [aS x5, .pv .nils] false]) ∨ (∃ (y43 : Bool) (y44 : (Option (List Int))) (y45 : Int) (y46 : (List api_Column)) (y47 : Int), schema_Take_l3 n k13 x36 mm y43 y44 y45 (some y46) y47 = some r ∧ t = mk 39 [(0, .ptr 0 0), (2, .ptr 1 0), (4, .ptr 2 0), (11, aU x36), (12, aU y47)] ∧ H = [.box [aB y43, .pv (encSl (rI .u8) y44), aI y45] false, .box [aS ByteArray.empty, .pv .nils] false, .box [aS x5, aR 3 2 y46.length] false, bR 72 2 R_api_Column y46 0 0])) (.inl ⟨x33, x34, x35, 0, hm, rfl, rfl⟩) ?_ ?_
  · rintro _ _ (⟨y43, y44, y45, y47, hm, _⟩ | ⟨y43, y44, y45, y46, y47, hm, _⟩) <;> exact nomatch hm
  rintro m48 _ _ (⟨y43, y44, y45, y47, hm, rfl, rfl⟩ | ⟨y43, y44, y45, y46, y47, hm, rfl, rfl⟩)
  ·
   simp only [schema_Take_l3] at hm
   refine sq (detn [(0, .ptr 0 0), (2, .ptr 1 0), (4, .ptr 2 0), (11, aU x36), (12, aU y47), (13, aB (decide (y47 < x36)))] (by kernel_rfl) ?_)
   refine sq ?_
   rcases bif_some hm with ⟨h49, hm⟩ | ⟨h49, hm⟩
   ·
    refine ct h49 (by kernel_rfl) (wp_skip (sq (bq (sq (rg (sh 1 [(14, .ptr 0 0)] (by kernel_rfl) ?_))))))
    obtain ⟨⟨x51, x52, x53, x54⟩, h50, hm⟩ := bs hm
    obtain ⟨vv, H1, hC, rfl, rfl⟩ := ok_codec_Reader_Text h50
    refine dR [(15, aS x54)] [.box [aB x51, .pv (encSl (rI .u8) x52), aI x53] false, .box [aS ByteArray.empty, .pv .nils] false, .box [aS x5, .pv .nils] false] [0] [.ptr 0 0, aI 20] (by kernel_rfl) (by kernel_rfl) (by kernel_rfl) hC (by kernel_rfl) (st 3 [(5, .ptr 3 0), (16, .agg [aS x54, aI 0])] [.box [aB x51, .pv (encSl (rI .u8) x52), aI x53] false, .box [aS ByteArray.empty, .pv .nils] false, .box [aS x5, .pv .nils] false, .box [aS x54, aI 0] false] (by kernel_rfl) (fin [(0, .ptr 0 0), (2, .ptr 1 0), (4, .ptr 2 0), (5, .ptr 3 0), (11, aU x36), (12, aU y47)] rfl (by kernel_rfl) (sq (rg (sh 1 [(17, .ptr 0 0)] (by kernel_rfl) ?_)))))
    obtain ⟨⟨x56, x57, x58⟩, h55, hm⟩ := bs hm
    obtain ⟨vv, H1, hC, rfl, rfl⟩ := ok_codec_Reader_Byte h55
    refine dR [(18, aY x58)] [.box [aB ((codec_Reader.mk x51 x52 x53).fmade), .pv (encSl (rI .u8) x56), aI x57] false, .box [aS ByteArray.empty, .pv .nils] false, .box [aS x5, .pv .nils] false, .box [aS x54, aI 0] false] [0] [.ptr 0 0] (by kernel_rfl) (by kernel_rfl) (by kernel_rfl) hC (by kernel_rfl) (st 3 [(20, .ptr 3 1), (19, aI (IntKind.wrap .i64 x58))] [.box [aB ((codec_Reader.mk x51 x52 x53).fmade), .pv (encSl (rI .u8) x56), aI x57] false, .box [aS ByteArray.empty, .pv .nils] false, .box [aS x5, .pv .nils] false, .box [aS x54, aI (IntKind.wrap .i64 x58)] false] (by kernel_rfl) (fin [(0, .ptr 0 0), (2, .ptr 1 0), (4, .ptr 2 0), (5, .ptr 3 0), (11, aU x36), (12, aU y47)] rfl (by kernel_rfl) (rg (st 4 [(24, aR 4 2 1), (23, .agg [aS x54, aI (IntKind.wrap .i64 x58)]), (22, .pv .nils), (21, .ptr 2 1)] [.box [aB ((codec_Reader.mk x51 x52 x53).fmade), .pv (encSl (rI .u8) x56), aI x57] false, .box [aS ByteArray.empty, .pv .nils] false, .box [aS x5, .pv .nils] false, .box [aS x54, aI (IntKind.wrap .i64 x58)] false, bR 72 2 R_api_Column ([(api_Column.mk x54 (IntKind.wrap .i64 x58))] : List api_Column) 0 0] (by kernel_rfl) ?_))))
    obtain ⟨_, h59, hm⟩ := bs hm
    refine dO [(25, aR 5 2 (([(api_Column.mk x54 (IntKind.wrap .i64 x58))] : List api_Column).length))] [.box [aB ((codec_Reader.mk x51 x52 x53).fmade), .pv (encSl (rI .u8) x56), aI x57] false, .box [aS ByteArray.empty, .pv .nils] false, .box [aS x5, .pv .nils] false, .box [aS x54, aI (IntKind.wrap .i64 x58)] false, bR 72 2 R_api_Column ([(api_Column.mk x54 (IntKind.wrap .i64 x58))] : List api_Column) 0 0, bR 72 2 R_api_Column ([(api_Column.mk x54 (IntKind.wrap .i64 x58))] : List api_Column) 0 0] (app_nilO (u := 0) R_api_Column ([(api_Column.mk x54 (IntKind.wrap .i64 x58))] : List api_Column) (b := 24) t22 t72 rfl rfl rfl (fun _ => rfl) rfl h59 (show srcRows (aR 4 2 1) _ = some (([(api_Column.mk x54 (IntKind.wrap .i64 x58))] : List api_Column).map R_api_Column) from by kernel_rfl) (by kernel_rfl)) (by kernel_rfl) (st 2 [(26, .ptr 2 1)] [.box [aB ((codec_Reader.mk x51 x52 x53).fmade), .pv (encSl (rI .u8) x56), aI x57] false, .box [aS ByteArray.empty, .pv .nils] false, .box [aS x5, aR 5 2 (([(api_Column.mk x54 (IntKind.wrap .i64 x58))] : List api_Column).length)] false, .box [aS x54, aI (IntKind.wrap .i64 x58)] false, bR 72 2 R_api_Column ([(api_Column.mk x54 (IntKind.wrap .i64 x58))] : List api_Column) 0 0, bR 72 2 R_api_Column ([(api_Column.mk x54 (IntKind.wrap .i64 x58))] : List api_Column) 0 0] (by kernel_rfl) (fin [(0, .ptr 0 0), (2, .ptr 1 0), (4, .ptr 2 0), (11, aU x36), (12, aU y47)] rfl (by kernel_rfl) (detn [(0, .ptr 0 0), (2, .ptr 1 0), (4, .ptr 2 0), (11, aU x36), (12, aU (IntKind.wrap .u64 (y47 + 1)))] (by kernel_rfl) ?_)))
    exact ⟨_, _, tidyL [(0, .ptr 0 0), (2, .ptr 1 0), (4, .ptr 2 0), (11, aU x36), (12, aU (IntKind.wrap .u64 (y47 + 1)))] [.box [aB ((codec_Reader.mk x51 x52 x53).fmade), .pv (encSl (rI .u8) x56), aI x57] false, .box [aS ByteArray.empty, .pv .nils] false, .box [aS x5, aR 3 2 (([(api_Column.mk x54 (IntKind.wrap .i64 x58))] : List api_Column).length)] false, bR 72 2 R_api_Column ([(api_Column.mk x54 (IntKind.wrap .i64 x58))] : List api_Column) 0 0] (by kernel_rfl), .inr (⟨((codec_Reader.mk x51 x52 x53).fmade), x56, x57, ([(api_Column.mk x54 (IntKind.wrap .i64 x58))] : List api_Column), (IntKind.wrap .u64 (y47 + 1)), hm, (by first | rfl | simp), (by first | rfl | simp)⟩)⟩
   ·
    refine cf h49 (by kernel_rfl) (wp_exit ?_)
    exact .inl ⟨y43, y44, y45, x36, y47, (decide (y47 < x36)), hm, rfl, rfl⟩
  ·
   simp only [schema_Take_l3] at hm
   refine sq (detn [(0, .ptr 0 0), (2, .ptr 1 0), (4, .ptr 2 0), (11, aU x36), (12, aU y47), (13, aB (decide (y47 < x36)))] (by kernel_rfl) ?_)
   refine sq ?_
   rcases bif_some hm with ⟨h60, hm⟩ | ⟨h60, hm⟩
   ·
    refine ct h60 (by kernel_rfl) (wp_skip (sq (bq (sq (rg (sh 1 [(14, .ptr 0 0)] (by kernel_rfl) ?_))))))
    obtain ⟨⟨x62, x63, x64, x65⟩, h61, hm⟩ := bs hm
    obtain ⟨vv, H1, hC, rfl, rfl⟩ := ok_codec_Reader_Text h61
    refine dR [(15, aS x65)] [.box [aB x62, .pv (encSl (rI .u8) x63), aI x64] false, .box [aS ByteArray.empty, .pv .nils] false, .box [aS x5, aR 3 2 y46.length] false, bR 72 2 R_api_Column y46 0 0] [0] [.ptr 0 0, aI 20] (by kernel_rfl) (by kernel_rfl) (by kernel_rfl) hC (by kernel_rfl) (st 3 [(5, .ptr 4 0), (16, .agg [aS x65, aI 0])] [.box [aB x62, .pv (encSl (rI .u8) x63), aI x64] false, .box [aS ByteArray.empty, .pv .nils] false, .box [aS x5, aR 3 2 y46.length] false, bR 72 2 R_api_Column y46 0 0, .box [aS x65, aI 0] false] (by kernel_rfl) (fin [(0, .ptr 0 0), (2, .ptr 1 0), (4, .ptr 2 0), (5, .ptr 4 0), (11, aU x36), (12, aU y47)] rfl (by kernel_rfl) (sq (rg (sh 1 [(17, .ptr 0 0)] (by kernel_rfl) ?_)))))
    obtain ⟨⟨x67, x68, x69⟩, h66, hm⟩ := bs hm
    obtain ⟨vv, H1, hC, rfl, rfl⟩ := ok_codec_Reader_Byte h66
    refine dR [(18, aY x69)] [.box [aB ((codec_Reader.mk x62 x63 x64).fmade), .pv (encSl (rI .u8) x67), aI x68] false, .box [aS ByteArray.empty, .pv .nils] false, .box [aS x5, aR 3 2 y46.length] false, bR 72 2 R_api_Column y46 0 0, .box [aS x65, aI 0] false] [0] [.ptr 0 0] (by kernel_rfl) (by kernel_rfl) (by kernel_rfl) hC (by kernel_rfl) (st 3 [(20, .ptr 4 1), (19, aI (IntKind.wrap .i64 x69))] [.box [aB ((codec_Reader.mk x62 x63 x64).fmade), .pv (encSl (rI .u8) x67), aI x68] false, .box [aS ByteArray.empty, .pv .nils] false, .box [aS x5, aR 3 2 y46.length] false, bR 72 2 R_api_Column y46 0 0, .box [aS x65, aI (IntKind.wrap .i64 x69)] false] (by kernel_rfl) (fin [(0, .ptr 0 0), (2, .ptr 1 0), (4, .ptr 2 0), (5, .ptr 4 0), (11, aU x36), (12, aU y47)] rfl (by kernel_rfl) (rg (st 4 [(24, aR 5 2 1), (23, .agg [aS x65, aI (IntKind.wrap .i64 x69)]), (22, aR 3 2 y46.length), (21, .ptr 2 1)] [.box [aB ((codec_Reader.mk x62 x63 x64).fmade), .pv (encSl (rI .u8) x67), aI x68] false, .box [aS ByteArray.empty, .pv .nils] false, .box [aS x5, aR 3 2 y46.length] false, bR 72 2 R_api_Column y46 0 0, .box [aS x65, aI (IntKind.wrap .i64 x69)] false, bR 72 2 R_api_Column ([(api_Column.mk x65 (IntKind.wrap .i64 x69))] : List api_Column) 0 0] (by kernel_rfl) ?_))))
    obtain ⟨_, h70, hm⟩ := bs hm
    refine dO [(25, aR 3 2 ((y46 ++ ([(api_Column.mk x65 (IntKind.wrap .i64 x69))] : List api_Column)).length))] [.box [aB ((codec_Reader.mk x62 x63 x64).fmade), .pv (encSl (rI .u8) x67), aI x68] false, .box [aS ByteArray.empty, .pv .nils] false, .box [aS x5, aR 3 2 y46.length] false, bR 72 2 R_api_Column (y46 ++ ([(api_Column.mk x65 (IntKind.wrap .i64 x69))] : List api_Column)) 0 0, .box [aS x65, aI (IntKind.wrap .i64 x69)] false, bR 72 2 R_api_Column ([(api_Column.mk x65 (IntKind.wrap .i64 x69))] : List api_Column) 0 0] (app_refO (u := 0) (id := 3) R_api_Column y46 ([(api_Column.mk x65 (IntKind.wrap .i64 x69))] : List api_Column) (b := 24) t22 t72 rfl rfl rfl (fun _ => rfl) rfl h70 rfl (by first | rfl | simp) (by first | exact Nat.zero_le _ | exact Nat.le_refl _ | assumption | (simp; done) | (simp; omega)) (show srcRows (aR 5 2 1) _ = some (([(api_Column.mk x65 (IntKind.wrap .i64 x69))] : List api_Column).map R_api_Column) from by kernel_rfl) (by kernel_rfl)) (by kernel_rfl) (st 2 [(26, .ptr 2 1)] [.box [aB ((codec_Reader.mk x62 x63 x64).fmade), .pv (encSl (rI .u8) x67), aI x68] false, .box [aS ByteArray.empty, .pv .nils] false, .box [aS x5, aR 3 2 ((y46 ++ ([(api_Column.mk x65 (IntKind.wrap .i64 x69))] : List api_Column)).length)] false, bR 72 2 R_api_Column (y46 ++ ([(api_Column.mk x65 (IntKind.wrap .i64 x69))] : List api_Column)) 0 0, .box [aS x65, aI (IntKind.wrap .i64 x69)] false, bR 72 2 R_api_Column ([(api_Column.mk x65 (IntKind.wrap .i64 x69))] : List api_Column) 0 0] (by kernel_rfl) (fin [(0, .ptr 0 0), (2, .ptr 1 0), (4, .ptr 2 0), (11, aU x36), (12, aU y47)] rfl (by kernel_rfl) (detn [(0, .ptr 0 0), (2, .ptr 1 0), (4, .ptr 2 0), (11, aU x36), (12, aU (IntKind.wrap .u64 (y47 + 1)))] (by kernel_rfl) ?_)))
    exact ⟨_, _, tidyL [(0, .ptr 0 0), (2, .ptr 1 0), (4, .ptr 2 0), (11, aU x36), (12, aU (IntKind.wrap .u64 (y47 + 1)))] [.box [aB ((codec_Reader.mk x62 x63 x64).fmade), .pv (encSl (rI .u8) x67), aI x68] false, .box [aS ByteArray.empty, .pv .nils] false, .box [aS x5, aR 3 2 ((y46 ++ ([(api_Column.mk x65 (IntKind.wrap .i64 x69))] : List api_Column)).length)] false, bR 72 2 R_api_Column (y46 ++ ([(api_Column.mk x65 (IntKind.wrap .i64 x69))] : List api_Column)) 0 0] (by kernel_rfl), .inr (⟨((codec_Reader.mk x62 x63 x64).fmade), x67, x68, (y46 ++ ([(api_Column.mk x65 (IntKind.wrap .i64 x69))] : List api_Column)), (IntKind.wrap .u64 (y47 + 1)), hm, (by first | rfl | simp), (by first | rfl | simp)⟩)⟩
   ·
    refine cf h60 (by kernel_rfl) (wp_exit ?_)
    exact .inr (⟨y43, y44, y45, y46, x36, y47, (decide (y47 < x36)), hm, (by first | rfl | simp), (by first | rfl | simp)⟩)
theorem ok_slices_Equal_Column {n : Nat} {a0 : (Option (List api_Column))} {a1 : (Option (List api_Column))} {r : Bool} (hm : slices_Equal_Column n a0 a1 = some r) :
    call G n 58 [.pv (encSl R_api_Column a0), .pv (encSl R_api_Column a1)] [] = some (.ret (aB r), []) := by
  unfold slices_Equal_Column at hm
  obtain ⟨n, rfl, h0⟩ := at1_some hm
  replace hm := h0; clear h0
  refine callL 26 [(0, .pv (encSl R_api_Column a0)), (1, .pv (encSl R_api_Column a1))] func58 rfl (by kernel_rfl) (sq (detn [(0, .pv (encSl R_api_Column a0)), (1, .pv (encSl R_api_Column a1))] (by kernel_rfl) ?_))
  refine sq (sq (rg (sh 1 [(6, .pv (encSl R_api_Column a0))] (by kernel_rfl) (dv 7 (v := aI ((sll a0).length : Int)) (len_slO R_api_Column a0 t22 (by kernel_rfl)) (by kernel_rfl) (sh 1 [(8, .pv (encSl R_api_Column a1))] (by kernel_rfl) (dv 9 (v := aI ((sll a1).length : Int)) (len_slO R_api_Column a1 t22 (by kernel_rfl)) (by kernel_rfl) (sh 1 [(10, aB (((sll a0).length : Int) != ((sll a1).length : Int)))] (by kernel_rfl) (fin [(0, .pv (encSl R_api_Column a0)), (1, .pv (encSl R_api_Column a1)), (10, aB (((sll a0).length : Int) != ((sll a1).length : Int)))] rfl (by kernel_rfl) ?_))))))))
  rcases bif_some hm with ⟨h1, hm⟩ | ⟨h1, hm⟩
  ·
   refine ct h1 (by kernel_rfl) (sq (detn [(4, aB false)] (by kernel_rfl) (wp_ret ?_)))
   obtain rfl := Option.some.inj hm
   exact ⟨trivial, by kernel_rfl⟩
  ·
   refine cf h1 (by kernel_rfl) (wp_skip ?_)
   obtain ⟨k4, hk4, hm⟩ := withK_some hm
   refine mid (fun t H => (∃ (y2 : Int) (y3 : Bool), k4 () = some r ∧ t = mk 26 [(0, .pv (encSl R_api_Column a0)), (1, .pv (encSl R_api_Column a1)), (12, aI ((sll a0).length : Int)), (13, aI y2), (14, aB y3)] ∧ H = [])) ?_ ?_
   ·
    rintro _ _ ⟨y2, y3, hm, rfl, rfl⟩
    subst hk4
    refine sq (detn [(4, aB true)] (by kernel_rfl) (wp_ret ?_))
    obtain rfl := Option.some.inj hm
    exact ⟨trivial, by kernel_rfl⟩
   refine sq (rg (sh 1 [(11, .pv (encSl R_api_Column a0))] (by kernel_rfl) (dv 12 (v := aI ((sll a0).length : Int)) (len_slO R_api_Column a0 t22 (by kernel_rfl)) (by kernel_rfl) (sh 1 [(13, aI 0)] (by kernel_rfl) (fin [(0, .pv (encSl R_api_Column a0)), (1, .pv (encSl R_api_Column a1)), (12, aI ((sll a0).length : Int)), (13, aI 0)] rfl (by kernel_rfl) (bq ?_))))))
   refine loopF (fun mm t H => (∃ (y6 : Int), slices_Equal_Column_l4 n a0 a1 k4 mm y6 = some r ∧ t = mk 26 [(0, .pv (encSl R_api_Column a0)), (1, .pv (encSl R_api_Column a1)), (12, aI ((sll a0).length : Int)), (13, aI y6)] ∧ H = [])) (⟨0, hm, rfl, rfl⟩) ?_ ?_
   · rintro _ _ ⟨y6, hm, _⟩; exact nomatch hm
   rintro m7 _ _ ⟨y6, hm, rfl, rfl⟩
   simp only [slices_Equal_Column_l4] at hm
   refine sq (detn [(0, .pv (encSl R_api_Column a0)), (1, .pv (encSl R_api_Column a1)), (12, aI ((sll a0).length : Int)), (13, aI y6), (14, aB (decide (y6 < ((sll a0).length : Int))))] (by kernel_rfl) ?_)
   refine sq ?_
   rcases bif_some hm with ⟨h8, hm⟩ | ⟨h8, hm⟩
   ·
    refine ct h8 (by kernel_rfl) (wp_skip (sq (bq (sq (detn [(0, .pv (encSl R_api_Column a0)), (1, .pv (encSl R_api_Column a1)), (5, aI y6), (12, aI ((sll a0).length : Int)), (13, aI y6)] (by kernel_rfl) (sq (rgd (shd 2 [(17, aI y6), (16, .pv (encSl R_api_Column a0))] (by kernel_rfl) ?_))))))))
    obtain ⟨x9, h10, hm⟩ := bs hm
    refine dvd 18 (v := .pv (.ptr (R_api_Column x9) 0)) (ia_slO R_api_Column a0 .i64 t22 t72 h10 rfl (by kernel_rfl)) (by kernel_rfl) (shd 3 [(21, aI y6), (20, .pv (encSl R_api_Column a1)), (19, .agg [aS x9.fName, aI x9.fKind])] (by kernel_rfl) ?_)
    obtain ⟨x11, h12, hm⟩ := bs hm
    refine dvd 22 (v := .pv (.ptr (R_api_Column x11) 0)) (ia_slO R_api_Column a1 .i64 t22 t72 h12 rfl (by kernel_rfl)) (by kernel_rfl) (shd 2 [(24, aB (!((x9.fName == x11.fName) && ((x9.fKind == x11.fKind) && true)))), (23, .agg [aS x11.fName, aI x11.fKind])] (by kernel_rfl) (find [(0, .pv (encSl R_api_Column a0)), (1, .pv (encSl R_api_Column a1)), (12, aI ((sll a0).length : Int)), (13, aI y6), (24, aB (!((x9.fName == x11.fName) && ((x9.fKind == x11.fKind) && true))))] rfl (by kernel_rfl) (by kernel_rfl) ?_))
    rcases bif_some hm with ⟨h13, hm⟩ | ⟨h13, hm⟩
    ·
     refine ct h13 (by kernel_rfl) (sq (detn [(4, aB false)] (by kernel_rfl) (wp_ret ?_)))
     obtain rfl := Option.some.inj hm
     exact ⟨trivial, by kernel_rfl⟩
    ·
     refine cf h13 (by kernel_rfl) (wp_skip (detn [(0, .pv (encSl R_api_Column a0)), (1, .pv (encSl R_api_Column a1)), (12, aI ((sll a0).length : Int)), (13, aI (IntKind.wrap .i64 (y6 + 1)))] (by kernel_rfl) ?_))
     exact ⟨_, _, tidyL [(0, .pv (encSl R_api_Column a0)), (1, .pv (encSl R_api_Column a1)), (12, aI ((sll a0).length : Int)), (13, aI (IntKind.wrap .i64 (y6 + 1)))] [] (by kernel_rfl), ⟨(IntKind.wrap .i64 (y6 + 1)), hm, rfl, rfl⟩⟩
   ·
    refine cf h8 (by kernel_rfl) (wp_exit ?_)
    exact ⟨y6, (decide (y6 < ((sll a0).length : Int))), hm, rfl, rfl⟩
theorem ok_schema_Same {n : Nat} {a0 : api_Table} {a1 : api_Table} {r : Bool} (hm : schema_Same n a0 a1 = some r) :
    call G n 44 [.agg [aS a0.fName, .pv (encSl R_api_Column a0.fCols)], .agg [aS a1.fName, .pv (encSl R_api_Column a1.fCols)]] [] = some (.ret (aB r), []) := by
  unfold schema_Same at hm
  obtain ⟨n, rfl, h0⟩ := at1_some hm
  replace hm := h0; clear h0
  refine callL 17 [(0, .agg [aS a0.fName, .pv (encSl R_api_Column a0.fCols)]), (1, .agg [aS a1.fName, .pv (encSl R_api_Column a1.fCols)])] func44 rfl (by kernel_rfl) (sq (det [(2, .ptr 0 0), (3, .ptr 1 0)] [.box [aS a0.fName, .pv (encSl R_api_Column a0.fCols)] false, .box [aS a1.fName, .pv (encSl R_api_Column a1.fCols)] false] (by kernel_rfl) (sq (rg (sh 6 [(10, aB (sEq a0.fName a1.fName)), (9, aB (sEq a0.fName a1.fName)), (8, aS a1.fName), (7, .ptr 1 0), (6, aS a0.fName), (5, .ptr 0 0)] (by kernel_rfl) ?_)))))
  rcases bif_some hm with ⟨h1, hm⟩ | ⟨h1, hm⟩
  ·
   refine known [10, 9] h1 (by kernel_rfl) (sh 4 [(14, .pv (encSl R_api_Column a1.fCols)), (13, .ptr 1 1), (12, .pv (encSl R_api_Column a0.fCols)), (11, .ptr 0 1)] (by kernel_rfl) ?_)
   obtain ⟨x2, h3, hm⟩ := bs hm
   refine dv 15 (cpure (by kernel_rfl) (ok_slices_Equal_Column h3) (by kernel_rfl) (by kernel_rfl) (by kernel_rfl)) (by kernel_rfl) (sh 2 [(4, aB x2), (16, aB x2)] (by kernel_rfl) (fin [(4, aB x2)] rfl (by kernel_rfl) (wp_ret ?_)))
   obtain rfl := Option.some.inj hm
   exact ⟨trivial, by kernel_rfl⟩
  ·
   refine known [10, 9] h1 (by kernel_rfl) (sh 7 [(4, aB false), (16, aB false), (15, .undef), (14, .undef), (13, .undef), (12, .undef), (11, .undef)] (by kernel_rfl) (fin [(4, aB false)] rfl (by kernel_rfl) (wp_ret ?_)))
   obtain rfl := Option.some.inj hm
   exact ⟨trivial, by kernel_rfl⟩
theorem ok_codec_Reader_Left {n : Nat} {a0 : codec_Reader} {r : Int} (hm : codec_Reader_Left n a0 = some r) :
    ∃ vv H1, call G n 36 [.ptr 0 0] [.box [aB a0.fmade, .pv (encSl (rI .u8) a0.fb), aI a0.fe] false] = some (.ret vv, H1) ∧ (match r with | r0 => (vv = aI r0 ∧ H1 = [.box [aB a0.fmade, .pv (encSl (rI .u8) a0.fb), aI a0.fe] false])) := by
  unfold codec_Reader_Left at hm
  obtain ⟨n, rfl, h0⟩ := at1_some hm
  replace hm := h0; clear h0
  refine callE 11 [(0, .ptr 0 0)] func36 rfl (by kernel_rfl) (sq (detn [(0, .ptr 0 0)] (by kernel_rfl) (sq (sq (rg (sh 1 [(3, .ptr 0 0)] (by kernel_rfl) ?_))))))
  obtain ⟨_, h1, hm⟩ := bs hm
  obtain ⟨vv, H1, hC, rfl, rfl⟩ := ok_codec_Reader_ready h1
  refine dR [(4, aB (a0.fmade && (a0.fe == 0)))] [.box [aB a0.fmade, .pv (encSl (rI .u8) a0.fb), aI a0.fe] false] [0] [.ptr 0 0] (by kernel_rfl) (by kernel_rfl) (by kernel_rfl) hC (by kernel_rfl) (sh 1 [(5, aB (!(a0.fmade && (a0.fe == 0))))] (by kernel_rfl) (fin [(0, .ptr 0 0), (5, aB (!(a0.fmade && (a0.fe == 0))))] rfl (by kernel_rfl) ?_))
  rcases bif_some hm with ⟨h2, hm⟩ | ⟨h2, hm⟩
  ·
   refine ct h2 (by kernel_rfl) (sq (detn [(2, aI 0)] (by kernel_rfl) (wp_ret ?_)))
   obtain rfl := Option.some.inj hm
   exact ⟨trivial, aI 0, [.box [aB a0.fmade, .pv (encSl (rI .u8) a0.fb), aI a0.fe] false], by kernel_rfl, rfl, rfl⟩
  ·
   refine cf h2 (by kernel_rfl) (wp_skip (sq (rg (sh 4 [(9, .pv (encSl (rI .u8) a0.fb)), (8, .ptr 0 1), (7, .ptr 0 0), (6, .ptr 0 0)] (by kernel_rfl) (dv 10 (v := aI ((sll a0.fb).length : Int)) (len_slO (rI .u8) a0.fb t35 (by kernel_rfl)) (by kernel_rfl) (sh 1 [(2, aI ((sll a0.fb).length : Int))] (by kernel_rfl) (fin [(2, aI ((sll a0.fb).length : Int))] rfl (by kernel_rfl) (wp_ret ?_))))))))
   obtain rfl := Option.some.inj hm
   exact ⟨trivial, aI ((sll a0.fb).length : Int), [.box [aB a0.fmade, .pv (encSl (rI .u8) a0.fb), aI a0.fe] false], by kernel_rfl, rfl, rfl⟩
theorem ok_codec_PutUint_nil {n : Nat} {a0 : Int} {r : (List Int)} (hm : codec_PutUint_nil n a0 = some r) :
    ∃ vv H1, call G n 21 [.pv .nils, aU a0] [] = some (.ret vv, H1) ∧ (match r with | r0 => (vv = aR 0 1 r0.length ∧ H1 = [bR 5 1 (rI .u8) r0 0 0])) := by
  unfold codec_PutUint_nil at hm
  obtain ⟨n, rfl, h0⟩ := at1_some hm
  replace hm := h0; clear h0
  refine callE 20 [(0, .pv .nils), (1, aU a0)] func21 rfl (by kernel_rfl) (sq (detn [(0, .pv .nils), (1, aU a0)] (by kernel_rfl) ?_))
  obtain ⟨k4, hk4, hm⟩ := withK_some hm
  refine mid (fun t H => (∃ (y2 : Int) (y3 : Bool), k4 none y2 = some r ∧ t = mk 20 [(0, .pv .nils), (1, aU y2), (6, aB y3)] ∧ H = []) ∨ (∃ (y1 : (List Int)) (y2 : Int) (y3 : Bool), k4 (some y1) y2 = some r ∧ t = mk 20 [(0, aR 0 1 y1.length), (1, aU y2), (6, aB y3)] ∧ H = [bR 5 1 (rI .u8) y1 0 0])) ?_ ?_
  ·
   rintro _ _ (⟨y2, y3, hm, rfl, rfl⟩ | ⟨y1, y2, y3, hm, rfl, rfl⟩)
   ·
    subst hk4
    refine sq (rg (st 4 [(18, aR 0 1 1), (17, aY (IntKind.wrap .u8 y2)), (16, aU y2), (15, .pv .nils)] [bR 5 1 (rI .u8) ([(IntKind.wrap .u8 y2)] : List Int) 0 0] (by kernel_rfl) ?_))
    obtain ⟨_, h5, hm⟩ := bs hm
    refine dO [(19, aR 1 1 (([(IntKind.wrap .u8 y2)] : List Int).length))] [bR 5 1 (rI .u8) ([(IntKind.wrap .u8 y2)] : List Int) 0 0, bR 5 1 (rI .u8) ([(IntKind.wrap .u8 y2)] : List Int) 0 0] (app_nilO (u := 0) (rI .u8) ([(IntKind.wrap .u8 y2)] : List Int) (b := 1) t35 t5 rfl rfl rfl (fun _ => rfl) rfl h5 (show srcRows (aR 0 1 1) _ = some (([(IntKind.wrap .u8 y2)] : List Int).map (rI .u8)) from by kernel_rfl) (by kernel_rfl)) (by kernel_rfl) (sh 1 [(4, aR 1 1 (([(IntKind.wrap .u8 y2)] : List Int).length))] (by kernel_rfl) (fin [(4, aR 1 1 (([(IntKind.wrap .u8 y2)] : List Int).length))] rfl (by kernel_rfl) (wp_ret ?_)))
    obtain rfl := Option.some.inj hm
    exact ⟨trivial, aR 0 1 (([(IntKind.wrap .u8 y2)] : List Int).length), [bR 5 1 (rI .u8) ([(IntKind.wrap .u8 y2)] : List Int) 0 0], by kernel_rfl, rfl, rfl⟩
   ·
    subst hk4
    refine sq (rg (st 4 [(18, aR 1 1 1), (17, aY (IntKind.wrap .u8 y2)), (16, aU y2), (15, aR 0 1 y1.length)] [bR 5 1 (rI .u8) y1 0 0, bR 5 1 (rI .u8) ([(IntKind.wrap .u8 y2)] : List Int) 0 0] (by kernel_rfl) ?_))
    obtain ⟨_, h6, hm⟩ := bs hm
    refine dO [(19, aR 0 1 ((y1 ++ ([(IntKind.wrap .u8 y2)] : List Int)).length))] [bR 5 1 (rI .u8) (y1 ++ ([(IntKind.wrap .u8 y2)] : List Int)) 0 0, bR 5 1 (rI .u8) ([(IntKind.wrap .u8 y2)] : List Int) 0 0] (app_refO (u := 0) (id := 0) (rI .u8) y1 ([(IntKind.wrap .u8 y2)] : List Int) (b := 1) t35 t5 rfl rfl rfl (fun _ => rfl) rfl h6 rfl (by first | rfl | simp) (by first | exact Nat.zero_le _ | exact Nat.le_refl _ | assumption | (simp; done) | (simp; omega)) (show srcRows (aR 1 1 1) _ = some (([(IntKind.wrap .u8 y2)] : List Int).map (rI .u8)) from by kernel_rfl) (by kernel_rfl)) (by kernel_rfl) (sh 1 [(4, aR 0 1 ((y1 ++ ([(IntKind.wrap .u8 y2)] : List Int)).length))] (by kernel_rfl) (fin [(4, aR 0 1 ((y1 ++ ([(IntKind.wrap .u8 y2)] : List Int)).length))] rfl (by kernel_rfl) (wp_ret ?_)))
    obtain rfl := Option.some.inj hm
    exact ⟨trivial, aR 0 1 ((y1 ++ ([(IntKind.wrap .u8 y2)] : List Int)).length), [bR 5 1 (rI .u8) (y1 ++ ([(IntKind.wrap .u8 y2)] : List Int)) 0 0], by kernel_rfl, rfl, rfl⟩
  refine bq ?_
  refine loopF (fun mm t H => (∃ (y11 : Int), codec_PutUint_nil_l1 n k4 mm none y11 = some r ∧ t = mk 20 [(0, .pv .nils), (1, aU y11)] ∧ H = []) ∨ (∃ (y10 : (List Int)) (y11 : Int), codec_PutUint_nil_l1 n k4 mm (some y10) y11 = some r ∧ t = mk 20 [(0, aR 0 1 y10.length), (1, aU y11)] ∧ H = [bR 5 1 (rI .u8) y10 0 0])) (.inl ⟨a0, hm, rfl, rfl⟩) ?_ ?_
  · rintro _ _ (⟨y11, hm, _⟩ | ⟨y10, y11, hm, _⟩) <;> exact nomatch hm
  rintro m12 _ _ (⟨y11, hm, rfl, rfl⟩ | ⟨y10, y11, hm, rfl, rfl⟩)
  ·
   simp only [codec_PutUint_nil_l1] at hm
   refine sq (sq (detn [(0, .pv .nils), (1, aU y11), (6, aB (decide (y11 ≥ 128)))] (by kernel_rfl) ?_))
   rcases bif_some hm with ⟨h13, hm⟩ | ⟨h13, hm⟩
   ·
    refine ct h13 (by kernel_rfl) (wp_skip (bq (sq (rg (st 5 [(11, aR 0 1 1), (10, aY (iOr .u8 (IntKind.wrap .u8 y11) 128)), (9, aY (IntKind.wrap .u8 y11)), (8, aU y11), (7, .pv .nils)] [bR 5 1 (rI .u8) ([(iOr .u8 (IntKind.wrap .u8 y11) 128)] : List Int) 0 0] (by kernel_rfl) ?_)))))
    obtain ⟨_, h14, hm⟩ := bs hm
    refine dO [(12, aR 1 1 (([(iOr .u8 (IntKind.wrap .u8 y11) 128)] : List Int).length))] [bR 5 1 (rI .u8) ([(iOr .u8 (IntKind.wrap .u8 y11) 128)] : List Int) 0 0, bR 5 1 (rI .u8) ([(iOr .u8 (IntKind.wrap .u8 y11) 128)] : List Int) 0 0] (app_nilO (u := 0) (rI .u8) ([(iOr .u8 (IntKind.wrap .u8 y11) 128)] : List Int) (b := 1) t35 t5 rfl rfl rfl (fun _ => rfl) rfl h14 (show srcRows (aR 0 1 1) _ = some (([(iOr .u8 (IntKind.wrap .u8 y11) 128)] : List Int).map (rI .u8)) from by kernel_rfl) (by kernel_rfl)) (by kernel_rfl) (sh 1 [(0, aR 1 1 (([(iOr .u8 (IntKind.wrap .u8 y11) 128)] : List Int).length))] (by kernel_rfl) (fin [(0, aR 1 1 (([(iOr .u8 (IntKind.wrap .u8 y11) 128)] : List Int).length)), (1, aU y11)] rfl (by kernel_rfl) (detn [(0, aR 1 1 (([(iOr .u8 (IntKind.wrap .u8 y11) 128)] : List Int).length)), (1, aU (iShr .u64 y11 7))] (by kernel_rfl) ?_)))
    exact ⟨_, _, tidyL [(0, aR 0 1 (([(iOr .u8 (IntKind.wrap .u8 y11) 128)] : List Int).length)), (1, aU (iShr .u64 y11 7))] [bR 5 1 (rI .u8) ([(iOr .u8 (IntKind.wrap .u8 y11) 128)] : List Int) 0 0] (by kernel_rfl), .inr (⟨([(iOr .u8 (IntKind.wrap .u8 y11) 128)] : List Int), (iShr .u64 y11 7), hm, (by first | rfl | simp), (by first | rfl | simp)⟩)⟩
   ·
    refine cf h13 (by kernel_rfl) (wp_exit ?_)
    exact .inl ⟨y11, (decide (y11 ≥ 128)), hm, rfl, rfl⟩
  ·
   simp only [codec_PutUint_nil_l1] at hm
   refine sq (sq (detn [(0, aR 0 1 y10.length), (1, aU y11), (6, aB (decide (y11 ≥ 128)))] (by kernel_rfl) ?_))
   rcases bif_some hm with ⟨h15, hm⟩ | ⟨h15, hm⟩
   ·
    refine ct h15 (by kernel_rfl) (wp_skip (bq (sq (rg (st 5 [(11, aR 1 1 1), (10, aY (iOr .u8 (IntKind.wrap .u8 y11) 128)), (9, aY (IntKind.wrap .u8 y11)), (8, aU y11), (7, aR 0 1 y10.length)] [bR 5 1 (rI .u8) y10 0 0, bR 5 1 (rI .u8) ([(iOr .u8 (IntKind.wrap .u8 y11) 128)] : List Int) 0 0] (by kernel_rfl) ?_)))))
    obtain ⟨_, h16, hm⟩ := bs hm
    refine dO [(12, aR 0 1 ((y10 ++ ([(iOr .u8 (IntKind.wrap .u8 y11) 128)] : List Int)).length))] [bR 5 1 (rI .u8) (y10 ++ ([(iOr .u8 (IntKind.wrap .u8 y11) 128)] : List Int)) 0 0, bR 5 1 (rI .u8) ([(iOr .u8 (IntKind.wrap .u8 y11) 128)] : List Int) 0 0] (app_refO (u := 0) (id := 0) (rI .u8) y10 ([(iOr .u8 (IntKind.wrap .u8 y11) 128)] : List Int) (b := 1) t35 t5 rfl rfl rfl (fun _ => rfl) rfl h16 rfl (by first | rfl | simp) (by first | exact Nat.zero_le _ | exact Nat.le_refl _ | assumption | (simp; done) | (simp; omega)) (show srcRows (aR 1 1 1) _ = some (([(iOr .u8 (IntKind.wrap .u8 y11) 128)] : List Int).map (rI .u8)) from by kernel_rfl) (by kernel_rfl)) (by kernel_rfl) (sh 1 [(0, aR 0 1 ((y10 ++ ([(iOr .u8 (IntKind.wrap .u8 y11) 128)] : List Int)).length))] (by kernel_rfl) (fin [(0, aR 0 1 ((y10 ++ ([(iOr .u8 (IntKind.wrap .u8 y11) 128)] : List Int)).length)), (1, aU y11)] rfl (by kernel_rfl) (detn [(0, aR 0 1 ((y10 ++ ([(iOr .u8 (IntKind.wrap .u8 y11) 128)] : List Int)).length)), (1, aU (iShr .u64 y11 7))] (by kernel_rfl) ?_)))
    exact ⟨_, _, tidyL [(0, aR 0 1 ((y10 ++ ([(iOr .u8 (IntKind.wrap .u8 y11) 128)] : List Int)).length)), (1, aU (iShr .u64 y11 7))] [bR 5 1 (rI .u8) (y10 ++ ([(iOr .u8 (IntKind.wrap .u8 y11) 128)] : List Int)) 0 0] (by kernel_rfl), .inr (⟨(y10 ++ ([(iOr .u8 (IntKind.wrap .u8 y11) 128)] : List Int)), (iShr .u64 y11 7), hm, (by first | rfl | simp), (by first | rfl | simp)⟩)⟩
   ·
    refine cf h15 (by kernel_rfl) (wp_exit ?_)
    exact .inr (⟨y10, y11, (decide (y11 ≥ 128)), hm, (by first | rfl | simp), (by first | rfl | simp)⟩)
theorem ok_codec_PutText_nil {n : Nat} {a0 : ByteArray} {r : (List Int)} (hm : codec_PutText_nil n a0 = some r) :
    ∃ vv H1, call G n 25 [.pv .nils, aS a0] [] = some (.ret vv, H1) ∧ (match r with | r0 => (vv = aR 0 1 r0.length ∧ H1 = [bR 5 1 (rI .u8) r0 0 0])) := by
  unfold codec_PutText_nil at hm
  obtain ⟨n, rfl, h0⟩ := at1_some hm
  replace hm := h0; clear h0
  refine callE 12 [(0, .pv .nils), (1, aS a0)] func25 rfl (by kernel_rfl) (sq (detn [(0, .pv .nils), (1, aS a0)] (by kernel_rfl) (sq (rg (sh 4 [(8, aU (IntKind.wrap .u64 (a0.size : Int))), (7, aI (a0.size : Int)), (6, aS a0), (5, .pv .nils)] (by kernel_rfl) ?_)))))
  obtain ⟨x2, h1, hm⟩ := bs hm
  obtain ⟨vv, H1, hC, rfl, rfl⟩ := ok_codec_PutUint_nil h1
  refine dR [(9, aR 0 1 x2.length)] [bR 5 1 (rI .u8) x2 0 0] [] [.pv .nils, aU (IntKind.wrap .u64 (a0.size : Int))] (by kernel_rfl) (by kernel_rfl) (by kernel_rfl) hC (by kernel_rfl) (sh 1 [(10, aS a0)] (by kernel_rfl) ?_)
  rcases bif_some hm with ⟨h3, hm⟩ | ⟨h3, hm⟩
  ·
   obtain ⟨_, h4, hm⟩ := bs hm
   refine dv 11 (v := aR 0 1 x2.length) (app_ref0O (u := 0) (id := 0) (rI .u8) x2 (bytesL a0) (b := 1) t35 t5 rfl rfl rfl h3 h4 rfl (by first | rfl | simp) (by first | exact Nat.zero_le _ | exact Nat.le_refl _ | assumption | (simp; done) | (simp; omega)) (src_str (s := a0)) (by kernel_rfl)) (by kernel_rfl) (sh 1 [(4, aR 0 1 x2.length)] (by kernel_rfl) (fin [(4, aR 0 1 x2.length)] rfl (by kernel_rfl) (wp_ret ?_)))
   obtain rfl := Option.some.inj hm
   exact ⟨trivial, aR 0 1 x2.length, [bR 5 1 (rI .u8) x2 0 0], by kernel_rfl, rfl, rfl⟩
  ·
   obtain ⟨_, h5, hm⟩ := bs hm
   refine dO [(11, aR 0 1 ((x2 ++ (bytesL a0)).length))] [bR 5 1 (rI .u8) (x2 ++ (bytesL a0)) 0 0] (app_refO (u := 0) (id := 0) (rI .u8) x2 (bytesL a0) (b := 1) t35 t5 rfl rfl rfl (fun _ => rfl) h3 h5 rfl (by first | rfl | simp) (by first | exact Nat.zero_le _ | exact Nat.le_refl _ | assumption | (simp; done) | (simp; omega)) (src_str (s := a0)) (by kernel_rfl)) (by kernel_rfl) (sh 1 [(4, aR 0 1 ((x2 ++ (bytesL a0)).length))] (by kernel_rfl) (fin [(4, aR 0 1 ((x2 ++ (bytesL a0)).length))] rfl (by kernel_rfl) (wp_ret ?_)))
   obtain rfl := Option.some.inj hm
   exact ⟨trivial, aR 0 1 ((x2 ++ (bytesL a0)).length), [bR 5 1 (rI .u8) (x2 ++ (bytesL a0)) 0 0], by kernel_rfl, rfl, rfl⟩
theorem ok_codec_PutUint_r {n : Nat} {a0 : (List Int)} {a1 : Int} {r : (List Int)} (hm : codec_PutUint_r n a0 a1 = some r) :
    ∃ vv H1, call G n 21 [aR 0 1 a0.length, aU a1] [bR 5 1 (rI .u8) a0 0 0] = some (.ret vv, H1) ∧ (match r with | r0 => (vv = aR 0 1 r0.length ∧ H1 = [bR 5 1 (rI .u8) r0 0 0])) := by
  unfold codec_PutUint_r at hm
  obtain ⟨n, rfl, h0⟩ := at1_some hm
  replace hm := h0; clear h0
  refine callE 20 [(0, aR 0 1 a0.length), (1, aU a1)] func21 rfl (by kernel_rfl) (sq (detn [(0, aR 0 1 a0.length), (1, aU a1)] (by kernel_rfl) ?_))
  obtain ⟨k4, hk4, hm⟩ := withK_some hm
  refine mid (fun t H => (∃ (y1 : (List Int)) (y2 : Int) (y3 : Bool), k4 y1 y2 = some r ∧ t = mk 20 [(0, aR 0 1 y1.length), (1, aU y2), (6, aB y3)] ∧ H = [bR 5 1 (rI .u8) y1 0 0])) ?_ ?_
  ·
   rintro _ _ ⟨y1, y2, y3, hm, rfl, rfl⟩
   subst hk4
   refine sq (rg (st 4 [(18, aR 1 1 1), (17, aY (IntKind.wrap .u8 y2)), (16, aU y2), (15, aR 0 1 y1.length)] [bR 5 1 (rI .u8) y1 0 0, bR 5 1 (rI .u8) ([(IntKind.wrap .u8 y2)] : List Int) 0 0] (by kernel_rfl) ?_))
   obtain ⟨_, h5, hm⟩ := bs hm
   refine dO [(19, aR 0 1 ((y1 ++ ([(IntKind.wrap .u8 y2)] : List Int)).length))] [bR 5 1 (rI .u8) (y1 ++ ([(IntKind.wrap .u8 y2)] : List Int)) 0 0, bR 5 1 (rI .u8) ([(IntKind.wrap .u8 y2)] : List Int) 0 0] (app_refO (u := 0) (id := 0) (rI .u8) y1 ([(IntKind.wrap .u8 y2)] : List Int) (b := 1) t35 t5 rfl rfl rfl (fun _ => rfl) rfl h5 rfl (by first | rfl | simp) (by first | exact Nat.zero_le _ | exact Nat.le_refl _ | assumption | (simp; done) | (simp; omega)) (show srcRows (aR 1 1 1) _ = some (([(IntKind.wrap .u8 y2)] : List Int).map (rI .u8)) from by kernel_rfl) (by kernel_rfl)) (by kernel_rfl) (sh 1 [(4, aR 0 1 ((y1 ++ ([(IntKind.wrap .u8 y2)] : List Int)).length))] (by kernel_rfl) (fin [(4, aR 0 1 ((y1 ++ ([(IntKind.wrap .u8 y2)] : List Int)).length))] rfl (by kernel_rfl) (wp_ret ?_)))
   obtain rfl := Option.some.inj hm
   exact ⟨trivial, aR 0 1 ((y1 ++ ([(IntKind.wrap .u8 y2)] : List Int)).length), [bR 5 1 (rI .u8) (y1 ++ ([(IntKind.wrap .u8 y2)] : List Int)) 0 0], by kernel_rfl, rfl, rfl⟩
  refine bq ?_
  refine loopF (fun mm t H => (∃ (y8 : (List Int)) (y9 : Int), codec_PutUint_r_l1 n k4 mm y8 y9 = some r ∧ t = mk 20 [(0, aR 0 1 y8.length), (1, aU y9)] ∧ H = [bR 5 1 (rI .u8) y8 0 0])) (⟨a0, a1, hm, (by first | rfl | simp), (by first | rfl | simp)⟩) ?_ ?_
  · rintro _ _ ⟨y8, y9, hm, _⟩; exact nomatch hm
  rintro m10 _ _ ⟨y8, y9, hm, rfl, rfl⟩
  simp only [codec_PutUint_r_l1] at hm
  refine sq (sq (detn [(0, aR 0 1 y8.length), (1, aU y9), (6, aB (decide (y9 ≥ 128)))] (by kernel_rfl) ?_))
  rcases bif_some hm with ⟨h11, hm⟩ | ⟨h11, hm⟩
  ·
   refine ct h11 (by kernel_rfl) (wp_skip (bq (sq (rg (st 5 [(11, aR 1 1 1), (10, aY (iOr .u8 (IntKind.wrap .u8 y9) 128)), (9, aY (IntKind.wrap .u8 y9)), (8, aU y9), (7, aR 0 1 y8.length)] [bR 5 1 (rI .u8) y8 0 0, bR 5 1 (rI .u8) ([(iOr .u8 (IntKind.wrap .u8 y9) 128)] : List Int) 0 0] (by kernel_rfl) ?_)))))
   obtain ⟨_, h12, hm⟩ := bs hm
   refine dO [(12, aR 0 1 ((y8 ++ ([(iOr .u8 (IntKind.wrap .u8 y9) 128)] : List Int)).length))] [bR 5 1 (rI .u8) (y8 ++ ([(iOr .u8 (IntKind.wrap .u8 y9) 128)] : List Int)) 0 0, bR 5 1 (rI .u8) ([(iOr .u8 (IntKind.wrap .u8 y9) 128)] : List Int) 0 0] (app_refO (u := 0) (id := 0) (rI .u8) y8 ([(iOr .u8 (IntKind.wrap .u8 y9) 128)] : List Int) (b := 1) t35 t5 rfl rfl rfl (fun _ => rfl) rfl h12 rfl (by first | rfl | simp) (by first | exact Nat.zero_le _ | exact Nat.le_refl _ | assumption | (simp; done) | (simp; omega)) (show srcRows (aR 1 1 1) _ = some (([(iOr .u8 (IntKind.wrap .u8 y9) 128)] : List Int).map (rI .u8)) from by kernel_rfl) (by kernel_rfl)) (by kernel_rfl) (sh 1 [(0, aR 0 1 ((y8 ++ ([(iOr .u8 (IntKind.wrap .u8 y9) 128)] : List Int)).length))] (by kernel_rfl) (fin [(0, aR 0 1 ((y8 ++ ([(iOr .u8 (IntKind.wrap .u8 y9) 128)] : List Int)).length)), (1, aU y9)] rfl (by kernel_rfl) (detn [(0, aR 0 1 ((y8 ++ ([(iOr .u8 (IntKind.wrap .u8 y9) 128)] : List Int)).length)), (1, aU (iShr .u64 y9 7))] (by kernel_rfl) ?_)))
   exact ⟨_, _, tidyL [(0, aR 0 1 ((y8 ++ ([(iOr .u8 (IntKind.wrap .u8 y9) 128)] : List Int)).length)), (1, aU (iShr .u64 y9 7))] [bR 5 1 (rI .u8) (y8 ++ ([(iOr .u8 (IntKind.wrap .u8 y9) 128)] : List Int)) 0 0] (by kernel_rfl), ⟨(y8 ++ ([(iOr .u8 (IntKind.wrap .u8 y9) 128)] : List Int)), (iShr .u64 y9 7), hm, (by first | rfl | simp), (by first | rfl | simp)⟩⟩
  ·
   refine cf h11 (by kernel_rfl) (wp_exit ?_)
   exact ⟨y8, y9, (decide (y9 ≥ 128)), hm, (by first | rfl | simp), (by first | rfl | simp)⟩
theorem ok_codec_PutText_r {n : Nat} {a0 : (List Int)} {a1 : ByteArray} {r : (List Int)} (hm : codec_PutText_r n a0 a1 = some r) :
    ∃ vv H1, call G n 25 [aR 0 1 a0.length, aS a1] [bR 5 1 (rI .u8) a0 0 0] = some (.ret vv, H1) ∧ (match r with | r0 => (vv = aR 0 1 r0.length ∧ H1 = [bR 5 1 (rI .u8) r0 0 0])) := by
  unfold codec_PutText_r at hm
  obtain ⟨n, rfl, h0⟩ := at1_some hm
  replace hm := h0; clear h0
  refine callE 12 [(0, aR 0 1 a0.length), (1, aS a1)] func25 rfl (by kernel_rfl) (sq (detn [(0, aR 0 1 a0.length), (1, aS a1)] (by kernel_rfl) (sq (rg (sh 4 [(8, aU (IntKind.wrap .u64 (a1.size : Int))), (7, aI (a1.size : Int)), (6, aS a1), (5, aR 0 1 a0.length)] (by kernel_rfl) ?_)))))
  obtain ⟨x2, h1, hm⟩ := bs hm
  obtain ⟨vv, H1, hC, rfl, rfl⟩ := ok_codec_PutUint_r h1
  refine dR [(9, aR 0 1 x2.length)] [bR 5 1 (rI .u8) x2 0 0] [0] [aR 0 1 a0.length, aU (IntKind.wrap .u64 (a1.size : Int))] (by kernel_rfl) (by kernel_rfl) (by kernel_rfl) hC (by kernel_rfl) (sh 1 [(10, aS a1)] (by kernel_rfl) ?_)
  rcases bif_some hm with ⟨h3, hm⟩ | ⟨h3, hm⟩
  ·
   obtain ⟨_, h4, hm⟩ := bs hm
   refine dv 11 (v := aR 0 1 x2.length) (app_ref0O (u := 0) (id := 0) (rI .u8) x2 (bytesL a1) (b := 1) t35 t5 rfl rfl rfl h3 h4 rfl (by first | rfl | simp) (by first | exact Nat.zero_le _ | exact Nat.le_refl _ | assumption | (simp; done) | (simp; omega)) (src_str (s := a1)) (by kernel_rfl)) (by kernel_rfl) (sh 1 [(4, aR 0 1 x2.length)] (by kernel_rfl) (fin [(4, aR 0 1 x2.length)] rfl (by kernel_rfl) (wp_ret ?_)))
   obtain rfl := Option.some.inj hm
   exact ⟨trivial, aR 0 1 x2.length, [bR 5 1 (rI .u8) x2 0 0], by kernel_rfl, rfl, rfl⟩
  ·
   obtain ⟨_, h5, hm⟩ := bs hm
   refine dO [(11, aR 0 1 ((x2 ++ (bytesL a1)).length))] [bR 5 1 (rI .u8) (x2 ++ (bytesL a1)) 0 0] (app_refO (u := 0) (id := 0) (rI .u8) x2 (bytesL a1) (b := 1) t35 t5 rfl rfl rfl (fun _ => rfl) h3 h5 rfl (by first | rfl | simp) (by first | exact Nat.zero_le _ | exact Nat.le_refl _ | assumption | (simp; done) | (simp; omega)) (src_str (s := a1)) (by kernel_rfl)) (by kernel_rfl) (sh 1 [(4, aR 0 1 ((x2 ++ (bytesL a1)).length))] (by kernel_rfl) (fin [(4, aR 0 1 ((x2 ++ (bytesL a1)).length))] rfl (by kernel_rfl) (wp_ret ?_)))
   obtain rfl := Option.some.inj hm
   exact ⟨trivial, aR 0 1 ((x2 ++ (bytesL a1)).length), [bR 5 1 (rI .u8) (x2 ++ (bytesL a1)) 0 0], by kernel_rfl, rfl, rfl⟩
theorem ok_schema_Put_nil {n : Nat} {a0 : api_Table} {r : (List Int)} (hm : schema_Put_nil n a0 = some r) :
    ∃ vv H1, call G n 45 [.pv .nils, .agg [aS a0.fName, .pv (encSl R_api_Column a0.fCols)]] [] = some (.ret vv, H1) ∧ (match r with | r0 => (vv = aR 0 1 r0.length ∧ H1 = [bR 5 1 (rI .u8) r0 0 0])) := by
  unfold schema_Put_nil at hm
  obtain ⟨n, rfl, h0⟩ := at1_some hm
  replace hm := h0; clear h0
  refine callE 35 [(0, .pv .nils), (1, .agg [aS a0.fName, .pv (encSl R_api_Column a0.fCols)])] func45 rfl (by kernel_rfl) (sq (det [(0, .pv .nils), (3, .ptr 0 0)] [.box [aS a0.fName, .pv (encSl R_api_Column a0.fCols)] false] (by kernel_rfl) (sq (rg (sh 3 [(9, aS a0.fName), (8, .ptr 0 0), (7, .pv .nils)] (by kernel_rfl) ?_)))))
  obtain ⟨x2, h1, hm⟩ := bs hm
  obtain ⟨vv, H1, hC, rfl, rfl⟩ := ok_codec_PutText_nil h1
  refine dR [(10, aR 1 1 x2.length)] [.box [aS a0.fName, .pv (encSl R_api_Column a0.fCols)] false, bR 5 1 (rI .u8) x2 0 0] [] [.pv .nils, aS a0.fName] (by kernel_rfl) (by kernel_rfl) (by kernel_rfl) hC (by kernel_rfl) (sh 1 [(0, aR 1 1 x2.length)] (by kernel_rfl) (fin [(0, aR 1 1 x2.length), (3, .ptr 0 0)] rfl (by kernel_rfl) (sq (rg (sh 3 [(13, .pv (encSl R_api_Column a0.fCols)), (12, .ptr 0 1), (11, aR 1 1 x2.length)] (by kernel_rfl) (dv 14 (v := aI ((sll a0.fCols).length : Int)) (len_slO R_api_Column a0.fCols t22 (by kernel_rfl)) (by kernel_rfl) (sh 1 [(15, aU (IntKind.wrap .u64 ((sll a0.fCols).length : Int)))] (by kernel_rfl) ?_)))))))
  obtain ⟨x4, h3, hm⟩ := bs hm
  obtain ⟨vv, H1, hC, rfl, rfl⟩ := ok_codec_PutUint_r h3
  refine dR [(16, aR 1 1 x4.length)] [.box [aS a0.fName, .pv (encSl R_api_Column a0.fCols)] false, bR 5 1 (rI .u8) x4 0 0] [1] [aR 1 1 x2.length, aU (IntKind.wrap .u64 ((sll a0.fCols).length : Int))] (by kernel_rfl) (by kernel_rfl) (by kernel_rfl) hC (by kernel_rfl) (sh 1 [(0, aR 1 1 x4.length)] (by kernel_rfl) (fin [(0, aR 1 1 x4.length), (3, .ptr 0 0)] rfl (by kernel_rfl) ?_))
  obtain ⟨k8, hk8, hm⟩ := withK_some hm
  refine mid (fun t H => (∃ (y5 : (List Int)) (y6 : Int) (y7 : Bool), k8 y5 = some r ∧ t = mk 35 [(0, aR 1 1 y5.length), (18, .pv (encSl R_api_Column a0.fCols)), (19, aI ((sll a0.fCols).length : Int)), (20, aI y6), (21, aB y7)] ∧ H = [.box [aS a0.fName, .pv (encSl R_api_Column a0.fCols)] false, bR 5 1 (rI .u8) y5 0 0])) ?_ ?_
  ·
   rintro _ _ ⟨y5, y6, y7, hm, rfl, rfl⟩
   subst hk8
   refine sq (detn [(4, aR 1 1 y5.length)] (by kernel_rfl) (wp_ret ?_))
   obtain rfl := Option.some.inj hm
   exact ⟨trivial, aR 0 1 y5.length, [bR 5 1 (rI .u8) y5 0 0], by kernel_rfl, rfl, rfl⟩
  refine sq (rg (sh 2 [(18, .pv (encSl R_api_Column a0.fCols)), (17, .ptr 0 1)] (by kernel_rfl) (dv 19 (v := aI ((sll a0.fCols).length : Int)) (len_slO R_api_Column a0.fCols t22 (by kernel_rfl)) (by kernel_rfl) (sh 1 [(20, aI 0)] (by kernel_rfl) (fin [(0, aR 1 1 x4.length), (18, .pv (encSl R_api_Column a0.fCols)), (19, aI ((sll a0.fCols).length : Int)), (20, aI 0)] rfl (by kernel_rfl) (bq ?_))))))
  refine loopF (fun mm t H => (∃ (y11 : (List Int)) (y12 : Int), schema_Put_nil_l4 n a0 k8 mm y11 y12 = some r ∧ t = mk 35 [(0, aR 1 1 y11.length), (18, .pv (encSl R_api_Column a0.fCols)), (19, aI ((sll a0.fCols).length : Int)), (20, aI y12)] ∧ H = [.box [aS a0.fName, .pv (encSl R_api_Column a0.fCols)] false, bR 5 1 (rI .u8) y11 0 0])) (⟨x4, 0, hm, (by first | rfl | simp), (by first | rfl | simp)⟩) ?_ ?_
  · rintro _ _ ⟨y11, y12, hm, _⟩; exact nomatch hm
  rintro m13 _ _ ⟨y11, y12, hm, rfl, rfl⟩
  simp only [schema_Put_nil_l4] at hm
  refine sq (detn [(0, aR 1 1 y11.length), (18, .pv (encSl R_api_Column a0.fCols)), (19, aI ((sll a0.fCols).length : Int)), (20, aI y12), (21, aB (decide (y12 < ((sll a0.fCols).length : Int))))] (by kernel_rfl) ?_)
  refine sq ?_
  rcases bif_some hm with ⟨h14, hm⟩ | ⟨h14, hm⟩
  ·
   refine ct h14 (by kernel_rfl) (wp_skip (sq (bq (sq (rg ?_)))))
   obtain ⟨x15, h16, hm⟩ := bs hm
   refine dv 22 (v := .pv (.ptr (R_api_Column x15) 0)) (ia_slO R_api_Column a0.fCols .i64 t22 t72 h16 rfl (by kernel_rfl)) (by kernel_rfl) (st 3 [(6, .ptr 2 0), (23, .agg [aS x15.fName, aI x15.fKind])] [.box [aS a0.fName, .pv (encSl R_api_Column a0.fCols)] false, bR 5 1 (rI .u8) y11 0 0, .box [aS x15.fName, aI x15.fKind] false] (by kernel_rfl) (fin [(0, aR 1 1 y11.length), (6, .ptr 2 0), (18, .pv (encSl R_api_Column a0.fCols)), (19, aI ((sll a0.fCols).length : Int)), (20, aI y12)] rfl (by kernel_rfl) (rgd (shd 3 [(26, aS x15.fName), (25, .ptr 2 0), (24, aR 1 1 y11.length)] (by kernel_rfl) ?_))))
   obtain ⟨x18, h17, hm⟩ := bs hm
   obtain ⟨vv, H1, hC, rfl, rfl⟩ := ok_codec_PutText_r h17
   refine dRd [(27, aR 1 1 x18.length)] [.box [aS a0.fName, .pv (encSl R_api_Column a0.fCols)] false, bR 5 1 (rI .u8) x18 0 0, .box [aS x15.fName, aI x15.fKind] false] [1] [aR 1 1 y11.length, aS x15.fName] (by kernel_rfl) (by kernel_rfl) (by kernel_rfl) hC (by kernel_rfl) (std 4 [(31, aR 3 1 1), (30, aY (IntKind.wrap .u8 x15.fKind)), (29, aI x15.fKind), (28, .ptr 2 1)] [.box [aS a0.fName, .pv (encSl R_api_Column a0.fCols)] false, bR 5 1 (rI .u8) x18 0 0, .box [aS x15.fName, aI x15.fKind] false, bR 5 1 (rI .u8) ([(IntKind.wrap .u8 x15.fKind)] : List Int) 0 0] (by kernel_rfl) ?_)
   obtain ⟨_, h19, hm⟩ := bs hm
   refine dOd [(32, aR 1 1 ((x18 ++ ([(IntKind.wrap .u8 x15.fKind)] : List Int)).length))] [.box [aS a0.fName, .pv (encSl R_api_Column a0.fCols)] false, bR 5 1 (rI .u8) (x18 ++ ([(IntKind.wrap .u8 x15.fKind)] : List Int)) 0 0, .box [aS x15.fName, aI x15.fKind] false, bR 5 1 (rI .u8) ([(IntKind.wrap .u8 x15.fKind)] : List Int) 0 0] (app_refO (u := 0) (id := 1) (rI .u8) x18 ([(IntKind.wrap .u8 x15.fKind)] : List Int) (b := 1) t35 t5 rfl rfl rfl (fun _ => rfl) rfl h19 rfl (by first | rfl | simp) (by first | exact Nat.zero_le _ | exact Nat.le_refl _ | assumption | (simp; done) | (simp; omega)) (show srcRows (aR 3 1 1) _ = some (([(IntKind.wrap .u8 x15.fKind)] : List Int).map (rI .u8)) from by kernel_rfl) (by kernel_rfl)) (by kernel_rfl) (shd 1 [(0, aR 1 1 ((x18 ++ ([(IntKind.wrap .u8 x15.fKind)] : List Int)).length))] (by kernel_rfl) (find [(0, aR 1 1 ((x18 ++ ([(IntKind.wrap .u8 x15.fKind)] : List Int)).length)), (18, .pv (encSl R_api_Column a0.fCols)), (19, aI ((sll a0.fCols).length : Int)), (20, aI y12)] rfl (by kernel_rfl) (by kernel_rfl) (detn [(0, aR 1 1 ((x18 ++ ([(IntKind.wrap .u8 x15.fKind)] : List Int)).length)), (18, .pv (encSl R_api_Column a0.fCols)), (19, aI ((sll a0.fCols).length : Int)), (20, aI (IntKind.wrap .i64 (y12 + 1)))] (by kernel_rfl) ?_)))
   exact ⟨_, _, tidyL [(0, aR 1 1 ((x18 ++ ([(IntKind.wrap .u8 x15.fKind)] : List Int)).length)), (18, .pv (encSl R_api_Column a0.fCols)), (19, aI ((sll a0.fCols).length : Int)), (20, aI (IntKind.wrap .i64 (y12 + 1)))] [.box [aS a0.fName, .pv (encSl R_api_Column a0.fCols)] false, bR 5 1 (rI .u8) (x18 ++ ([(IntKind.wrap .u8 x15.fKind)] : List Int)) 0 0] (by kernel_rfl), ⟨(x18 ++ ([(IntKind.wrap .u8 x15.fKind)] : List Int)), (IntKind.wrap .i64 (y12 + 1)), hm, (by first | rfl | simp), (by first | rfl | simp)⟩⟩
  ·
   refine cf h14 (by kernel_rfl) (wp_exit ?_)
   exact ⟨y11, y12, (decide (y12 < ((sll a0.fCols).length : Int))), hm, (by first | rfl | simp), (by first | rfl | simp)⟩
theorem ok_law06_SchemaBack {n : Nat} {a0 : api_Table} {a1 : (Option (List Int))} {r : Bool} (hm : law06_SchemaBack n a0 a1 = some r) :
    call G n 10 [.agg [aS a0.fName, .pv (encSl R_api_Column a0.fCols)], .pv (encSl (rI .u8) a1)] [] = some (.ret (aB r), []) := by
  unfold law06_SchemaBack at hm
  obtain ⟨n, rfl, h0⟩ := at1_some hm
  replace hm := h0; clear h0
  refine callL 86 [(0, .agg [aS a0.fName, .pv (encSl R_api_Column a0.fCols)]), (1, .pv (encSl (rI .u8) a1))] func10 rfl (by kernel_rfl) (sq (det [(1, .pv (encSl (rI .u8) a1)), (2, .ptr 0 0)] [.box [aS a0.fName, .pv (encSl R_api_Column a0.fCols)] false] (by kernel_rfl) ?_))
  refine sq (sq (rg ?_))
  obtain ⟨x1, h2, hm⟩ := bs hm
  refine dv 10 (cpure (by kernel_rfl) (ok_law06_works h2) (by kernel_rfl) (by kernel_rfl) (by kernel_rfl)) (by kernel_rfl) (sh 1 [(11, aB (!x1))] (by kernel_rfl) (fin [(1, .pv (encSl (rI .u8) a1)), (2, .ptr 0 0), (11, aB (!x1))] rfl (by kernel_rfl) ?_))
  rcases bif_some hm with ⟨h3, hm⟩ | ⟨h3, hm⟩
  ·
   refine ct h3 (by kernel_rfl) (sq (detn [(4, aB false)] (by kernel_rfl) (wp_ret ?_)))
   obtain rfl := Option.some.inj hm
   exact ⟨trivial, by kernel_rfl⟩
  ·
   refine cf h3 (by kernel_rfl) (wp_skip ?_)
   refine sq (sq (rg (sh 1 [(12, .agg [aS a0.fName, .pv (encSl R_api_Column a0.fCols)])] (by kernel_rfl) ?_)))
   obtain ⟨x4, h5, hm⟩ := bs hm
   refine dv 13 (cpure (by kernel_rfl) (ok_law06_great h5) (by kernel_rfl) (by kernel_rfl) (by kernel_rfl)) (by kernel_rfl) (sh 1 [(14, aB x4)] (by kernel_rfl) ?_)
   refine seg x4 [14, 13] (fun b => [(18, aB (b || (decide (((sll a1).length : Int) > 2000)))), (17, ifA b (.undef) (aB (decide (((sll a1).length : Int) > 2000)))), (16, ifA b (.undef) (aI ((sll a1).length : Int))), (15, ifA b (.undef) (.pv (encSl (rI .u8) a1)))]) 7 (by kernel_rfl) ?_ ?_ ?_
   ·
    intro Q h
    refine sh 4 [(18, aB true), (17, .undef), (16, .undef), (15, .undef)] (by kernel_rfl) ?_
    exact sameN (by kernel_rfl) (by kernel_rfl) h
   ·
    intro Q h
    refine sh 1 [(15, .pv (encSl (rI .u8) a1))] (by kernel_rfl) (dv 16 (v := aI ((sll a1).length : Int)) (len_slO (rI .u8) a1 t35 (by kernel_rfl)) (by kernel_rfl) (sh 2 [(18, aB (decide (((sll a1).length : Int) > 2000))), (17, aB (decide (((sll a1).length : Int) > 2000)))] (by kernel_rfl) ?_))
    exact sameN (by kernel_rfl) (by kernel_rfl) h
   refine sh 1 [(19, aB (x4 || (decide (((sll a1).length : Int) > 2000))))] (by kernel_rfl) ?_
   rcases bif_some hm with ⟨h6, hm⟩ | ⟨h6, hm⟩
   ·
    refine known [19, 18] h6 (by kernel_rfl) (sh 4 [(23, aB true), (22, .undef), (21, .undef), (20, .undef)] (by kernel_rfl) (fin [(1, .pv (encSl (rI .u8) a1)), (2, .ptr 0 0), (23, aB true)] rfl (by kernel_rfl) (cT (by kernel_rfl) (sq (detn [(4, aB true)] (by kernel_rfl) (wp_ret ?_))))))
    obtain rfl := Option.some.inj hm
    exact ⟨trivial, by kernel_rfl⟩
   ·
    refine known [19, 18] h6 (by kernel_rfl) (sh 1 [(20, .agg [aS a0.fName, .pv (encSl R_api_Column a0.fCols)])] (by kernel_rfl) ?_)
    obtain ⟨x7, h8, hm⟩ := bs hm
    refine dv 21 (cpure (by kernel_rfl) (ok_schema_Right h8) (by kernel_rfl) (by kernel_rfl) (by kernel_rfl)) (by kernel_rfl) (sh 2 [(23, aB (x7 != 0)), (22, aB (x7 != 0))] (by kernel_rfl) (fin [(1, .pv (encSl (rI .u8) a1)), (2, .ptr 0 0), (23, aB (x7 != 0))] rfl (by kernel_rfl) ?_))
    rcases bif_some hm with ⟨h9, hm⟩ | ⟨h9, hm⟩
    ·
     refine ct h9 (by kernel_rfl) (sq (detn [(4, aB true)] (by kernel_rfl) (wp_ret ?_)))
     obtain rfl := Option.some.inj hm
     exact ⟨trivial, by kernel_rfl⟩
    ·
     refine cf h9 (by kernel_rfl) (wp_skip ?_)
     obtain ⟨k13, hk13, hm⟩ := withK_some hm
     refine mid (fun t H => (∃ (y10 : (List Int)) (y11 : (Option (List Int))) (g12 : Nat), k13 y11 = some r ∧ t = mk 86 [(1, .pv (encSl (rI .u8) a1)), (2, .ptr 0 0), (5, .ptr 2 0)] ∧ H = [.box [aS a0.fName, .pv (encSl R_api_Column a0.fCols)] false, bR 5 1 (rI .u8) y10 0 g12, .box [aB true, .pv (encSl (rI .u8) y11), aI 0] false])) ?_ ?_
     ·
      rintro _ _ ⟨y10, y11, g12, hm, rfl, rfl⟩
      subst hk13
      obtain ⟨k20, hk20, hm⟩ := withK_some hm
      refine mid (fun t H => (∃ (y14 : Bool) (y15 : (Option (List Int))) (y16 : Int) (y17 : ByteArray) (y19 : Int), k20 y14 y15 y16 y17 none y19 = some r ∧ t = mk 86 [(1, .pv (encSl (rI .u8) a1)), (2, .ptr 0 0), (5, .ptr 2 0), (6, .ptr 3 0), (7, aI y19)] ∧ H = [.box [aS a0.fName, .pv (encSl R_api_Column a0.fCols)] false, bR 5 1 (rI .u8) y10 0 g12, .box [aB y14, .pv (encSl (rI .u8) y15), aI y16] false, .box [aS y17, .pv .nils] false]) ∨ (∃ (y14 : Bool) (y15 : (Option (List Int))) (y16 : Int) (y17 : ByteArray) (y18 : (List api_Column)) (y19 : Int), k20 y14 y15 y16 y17 (some y18) y19 = some r ∧ t = mk 86 [(1, .pv (encSl (rI .u8) a1)), (2, .ptr 0 0), (5, .ptr 2 0), (6, .ptr 4 0), (7, aI y19)] ∧ H = [.box [aS a0.fName, .pv (encSl R_api_Column a0.fCols)] false, bR 5 1 (rI .u8) y10 0 g12, .box [aB y14, .pv (encSl (rI .u8) y15), aI y16] false, bR 72 2 R_api_Column y18 0 0, .box [aS y17, aR 3 2 y18.length] false])) ?_ ?_
      ·
       rintro _ _ (⟨y14, y15, y16, y17, y19, hm, rfl, rfl⟩ | ⟨y14, y15, y16, y17, y18, y19, hm, rfl, rfl⟩)
       ·
        subst hk20
        refine sq (sq (rg (sh 3 [(36, aB (y19 != 0)), (35, aB (y19 != 0)), (34, aI y19)] (by kernel_rfl) ?_)))
        rcases bif_some hm with ⟨h21, hm⟩ | ⟨h21, hm⟩
        ·
         refine known [36, 35] h21 (by kernel_rfl) (sh 12 [(48, aB true), (47, .undef), (46, .undef), (45, .undef), (44, .undef), (43, .undef), (42, aB true), (41, aB true), (40, .undef), (39, .undef), (38, .undef), (37, .undef)] (by kernel_rfl) (fin [(2, .ptr 0 0), (48, aB true)] rfl (by kernel_rfl) (cT (by kernel_rfl) (sq (detn [(4, aB false)] (by kernel_rfl) (wp_ret ?_))))))
         obtain rfl := Option.some.inj hm
         exact ⟨trivial, by kernel_rfl⟩
        ·
         refine known [36, 35] h21 (by kernel_rfl) (sh 2 [(38, .agg [aS a0.fName, .pv (encSl R_api_Column a0.fCols)]), (37, .agg [aS y17, .pv .nils])] (by kernel_rfl) ?_)
         obtain ⟨x22, h23, hm⟩ := bs hm
         refine dv 39 (cpure (by kernel_rfl) (ok_schema_Same h23) (by kernel_rfl) (by kernel_rfl) (by kernel_rfl)) (by kernel_rfl) (sh 3 [(42, aB (!x22)), (41, aB (!x22)), (40, aB (!x22))] (by kernel_rfl) ?_)
         rcases bif_some hm with ⟨h24, hm⟩ | ⟨h24, hm⟩
         ·
          refine known [42, 41, 40] h24 (by kernel_rfl) (sh 6 [(48, aB true), (47, .undef), (46, .undef), (45, .undef), (44, .undef), (43, .undef)] (by kernel_rfl) (fin [(2, .ptr 0 0), (48, aB true)] rfl (by kernel_rfl) (cT (by kernel_rfl) (sq (detn [(4, aB false)] (by kernel_rfl) (wp_ret ?_))))))
          obtain rfl := Option.some.inj hm
          exact ⟨trivial, by kernel_rfl⟩
         ·
          refine known [42, 41, 40] h24 (by kernel_rfl) (sh 1 [(43, .ptr 2 0)] (by kernel_rfl) ?_)
          obtain ⟨x26, h25, hm⟩ := bs hm
          obtain ⟨vv, H1, hC, rfl, rfl⟩ := ok_codec_Reader_Left h25
          refine dR [(44, aI x26)] [.box [aS a0.fName, .pv (encSl R_api_Column a0.fCols)] false, bR 5 1 (rI .u8) y10 0 g12, .box [aB y14, .pv (encSl (rI .u8) y15), aI y16] false, .box [aS y17, .pv .nils] false] [2] [.ptr 2 0] (by kernel_rfl) (by kernel_rfl) (by kernel_rfl) hC (by kernel_rfl) (sh 1 [(45, .pv (encSl (rI .u8) a1))] (by kernel_rfl) (dv 46 (v := aI ((sll a1).length : Int)) (len_slO (rI .u8) a1 t35 (by kernel_rfl)) (by kernel_rfl) (sh 2 [(48, aB (x26 != ((sll a1).length : Int))), (47, aB (x26 != ((sll a1).length : Int)))] (by kernel_rfl) (fin [(2, .ptr 0 0), (48, aB (x26 != ((sll a1).length : Int)))] rfl (by kernel_rfl) ?_))))
          rcases bif_some hm with ⟨h27, hm⟩ | ⟨h27, hm⟩
          ·
           refine ct h27 (by kernel_rfl) (sq (detn [(4, aB false)] (by kernel_rfl) (wp_ret ?_)))
           obtain rfl := Option.some.inj hm
           exact ⟨trivial, by kernel_rfl⟩
          ·
           refine cf h27 (by kernel_rfl) (wp_skip ?_)
           obtain ⟨k30, hk30, hm⟩ := withK_some hm
           refine mid (fun t H => (∃ (y28 : Int) (y29 : Bool), k30 () = some r ∧ t = mk 86 [(2, .ptr 0 0), (50, .pv (encSl R_api_Column a0.fCols)), (51, aI ((sll a0.fCols).length : Int)), (52, aI y28), (53, aB y29)] ∧ H = [.box [aS a0.fName, .pv (encSl R_api_Column a0.fCols)] false, bR 5 1 (rI .u8) y10 0 g12, .box [aB y14, .pv (encSl (rI .u8) y15), aI y16] false, .box [aS y17, .pv .nils] false])) ?_ ?_
           ·
            rintro _ _ ⟨y28, y29, hm, rfl, rfl⟩
            subst hk30
            refine sq (rgd (shd 3 [(72, .pv (encSl R_api_Column a0.fCols)), (71, .ptr 0 1), (70, .agg [aS a0.fName, .pv (encSl R_api_Column a0.fCols)])] (by kernel_rfl) (dvd 73 (v := aI ((sll a0.fCols).length : Int)) (len_slO R_api_Column a0.fCols t22 (by kernel_rfl)) (by kernel_rfl) ?_)))
            obtain ⟨_, h31, hm⟩ := bs hm
            refine dOd [(74, aR 4 4 ((List.replicate (Int.toNat ((sll a0.fCols).length : Int)) (api_Value.mk 0 0 0 ByteArray.empty)).length))] [.box [aS a0.fName, .pv (encSl R_api_Column a0.fCols)] false, bR 5 1 (rI .u8) y10 0 g12, .box [aB y14, .pv (encSl (rI .u8) y15), aI y16] false, .box [aS y17, .pv .nils] false, bR 79 4 R_api_Value (List.replicate (Int.toNat ((sll a0.fCols).length : Int)) (api_Value.mk 0 0 0 ByteArray.empty)) 0 0] (makeO R_api_Value (api_Value.mk 0 0 0 ByteArray.empty) (n := ((sll a0.fCols).length : Int)) (c := ((sll a0.fCols).length : Int)) (k := .i64) (k' := .i64) (b := 40) t25 t79 rfl rfl rfl rfl h31 (by kernel_rfl)) (by kernel_rfl) ?_
            obtain ⟨x32, h33, hm⟩ := bs hm
            refine dOd [(75, aB x32)] [.box [aS a0.fName, .pv (encSl R_api_Column a0.fCols)] false, bR 5 1 (rI .u8) y10 0 g12, .box [aB y14, .pv (encSl (rI .u8) y15), aI y16] false, .box [aS y17, .pv .nils] false, bR 79 4 R_api_Value (List.replicate (Int.toNat ((sll a0.fCols).length : Int)) (api_Value.mk 0 0 0 ByteArray.empty)) 0 0] (cpureR [4] [.agg [aS a0.fName, .pv (encSl R_api_Column a0.fCols)], aR 4 4 ((List.replicate (Int.toNat ((sll a0.fCols).length : Int)) (api_Value.mk 0 0 0 ByteArray.empty)).length)] (fl := true) (by kernel_rfl) (by kernel_rfl) (pAs_cons (pA_agg (purL_cons (pur_pv) (purL_cons (pur_pv) (rfl)))) (pAs_cons (pA_ref (pur_ref' (id := 4) (l := (List.replicate (Int.toNat ((sll a0.fCols).length : Int)) (api_Value.mk 0 0 0 ByteArray.empty))) (R := R_api_Value) rfl (by first | rfl | simp) (by first | exact Nat.zero_le _ | exact Nat.le_refl _ | assumption | (simp; done) | (simp; omega)))) (rfl))) (ok_schema_Fits h33) (by kernel_rfl) (by kernel_rfl)) (by kernel_rfl) (shd 1 [(76, aB x32)] (by kernel_rfl) ?_)
            rcases bif_some hm with ⟨h34, hm⟩ | ⟨h34, hm⟩
            ·
             refine knownd [76, 75] h34 (by kernel_rfl) (shd 3 [(79, .pv (encSl R_api_Column a0.fCols)), (78, .ptr 0 1), (77, .agg [aS a0.fName, .pv (encSl R_api_Column a0.fCols)])] (by kernel_rfl) (dvd 80 (v := aI ((sll a0.fCols).length : Int)) (len_slO R_api_Column a0.fCols t22 (by kernel_rfl)) (by kernel_rfl) (shd 1 [(81, aI (IntKind.wrap .i64 (((sll a0.fCols).length : Int) + 1)))] (by kernel_rfl) ?_)))
             obtain ⟨_, h35, hm⟩ := bs hm
             refine dOd [(82, aR 5 4 ((List.replicate (Int.toNat (IntKind.wrap .i64 (((sll a0.fCols).length : Int) + 1))) (api_Value.mk 0 0 0 ByteArray.empty)).length))] [.box [aS a0.fName, .pv (encSl R_api_Column a0.fCols)] false, bR 5 1 (rI .u8) y10 0 g12, .box [aB y14, .pv (encSl (rI .u8) y15), aI y16] false, .box [aS y17, .pv .nils] false, bR 79 4 R_api_Value (List.replicate (Int.toNat ((sll a0.fCols).length : Int)) (api_Value.mk 0 0 0 ByteArray.empty)) 0 0, bR 79 4 R_api_Value (List.replicate (Int.toNat (IntKind.wrap .i64 (((sll a0.fCols).length : Int) + 1))) (api_Value.mk 0 0 0 ByteArray.empty)) 0 0] (makeO R_api_Value (api_Value.mk 0 0 0 ByteArray.empty) (n := (IntKind.wrap .i64 (((sll a0.fCols).length : Int) + 1))) (c := (IntKind.wrap .i64 (((sll a0.fCols).length : Int) + 1))) (k := .i64) (k' := .i64) (b := 40) t25 t79 rfl rfl rfl rfl h35 (by kernel_rfl)) (by kernel_rfl) ?_
             obtain ⟨x36, h37, hm⟩ := bs hm
             refine dOd [(83, aB x36)] [.box [aS a0.fName, .pv (encSl R_api_Column a0.fCols)] false, bR 5 1 (rI .u8) y10 0 g12, .box [aB y14, .pv (encSl (rI .u8) y15), aI y16] false, .box [aS y17, .pv .nils] false, bR 79 4 R_api_Value (List.replicate (Int.toNat ((sll a0.fCols).length : Int)) (api_Value.mk 0 0 0 ByteArray.empty)) 0 0, bR 79 4 R_api_Value (List.replicate (Int.toNat (IntKind.wrap .i64 (((sll a0.fCols).length : Int) + 1))) (api_Value.mk 0 0 0 ByteArray.empty)) 0 0] (cpureR [5] [.agg [aS a0.fName, .pv (encSl R_api_Column a0.fCols)], aR 5 4 ((List.replicate (Int.toNat (IntKind.wrap .i64 (((sll a0.fCols).length : Int) + 1))) (api_Value.mk 0 0 0 ByteArray.empty)).length)] (fl := true) (by kernel_rfl) (by kernel_rfl) (pAs_cons (pA_agg (purL_cons (pur_pv) (purL_cons (pur_pv) (rfl)))) (pAs_cons (pA_ref (pur_ref' (id := 5) (l := (List.replicate (Int.toNat (IntKind.wrap .i64 (((sll a0.fCols).length : Int) + 1))) (api_Value.mk 0 0 0 ByteArray.empty))) (R := R_api_Value) rfl (by first | rfl | simp) (by first | exact Nat.zero_le _ | exact Nat.le_refl _ | assumption | (simp; done) | (simp; omega)))) (rfl))) (ok_schema_Fits h37) (by kernel_rfl) (by kernel_rfl)) (by kernel_rfl) (shd 3 [(4, aB (!x36)), (85, aB (!x36)), (84, aB (!x36))] (by kernel_rfl) (find [(4, aB (!x36))] rfl (by kernel_rfl) (by kernel_rfl) (wp_ret ?_)))
             obtain rfl := Option.some.inj hm
             exact ⟨trivial, by kernel_rfl⟩
            ·
             refine knownd [76, 75] h34 (by kernel_rfl) (shd 10 [(4, aB false), (85, aB false), (84, .undef), (83, .undef), (82, .undef), (81, .undef), (80, .undef), (79, .undef), (78, .undef), (77, .undef)] (by kernel_rfl) (find [(4, aB false)] rfl (by kernel_rfl) (by kernel_rfl) (wp_ret ?_)))
             obtain rfl := Option.some.inj hm
             exact ⟨trivial, by kernel_rfl⟩
           refine sq (rg (sh 2 [(50, .pv (encSl R_api_Column a0.fCols)), (49, .ptr 0 1)] (by kernel_rfl) (dv 51 (v := aI ((sll a0.fCols).length : Int)) (len_slO R_api_Column a0.fCols t22 (by kernel_rfl)) (by kernel_rfl) (sh 1 [(52, aI 0)] (by kernel_rfl) (fin [(2, .ptr 0 0), (50, .pv (encSl R_api_Column a0.fCols)), (51, aI ((sll a0.fCols).length : Int)), (52, aI 0)] rfl (by kernel_rfl) (bq ?_))))))
           refine loopF (fun mm t H => (∃ (y39 : Int), law06_SchemaBack_l10 n a0 k30 mm y39 = some r ∧ t = mk 86 [(2, .ptr 0 0), (50, .pv (encSl R_api_Column a0.fCols)), (51, aI ((sll a0.fCols).length : Int)), (52, aI y39)] ∧ H = [.box [aS a0.fName, .pv (encSl R_api_Column a0.fCols)] false, bR 5 1 (rI .u8) y10 0 g12, .box [aB y14, .pv (encSl (rI .u8) y15), aI y16] false, .box [aS y17, .pv .nils] false])) (⟨0, hm, (by first | rfl | simp), (by first | rfl | simp)⟩) ?_ ?_
           · rintro _ _ ⟨y39, hm, _⟩; exact nomatch hm
           rintro m40 _ _ ⟨y39, hm, rfl, rfl⟩
           simp only [law06_SchemaBack_l10] at hm
           refine sq (detn [(2, .ptr 0 0), (50, .pv (encSl R_api_Column a0.fCols)), (51, aI ((sll a0.fCols).length : Int)), (52, aI y39), (53, aB (decide (y39 < ((sll a0.fCols).length : Int))))] (by kernel_rfl) ?_)
           refine sq ?_
           rcases bif_some hm with ⟨h41, hm⟩ | ⟨h41, hm⟩
           ·
            refine ct h41 (by kernel_rfl) (wp_skip (sq (bq (sq (rg (sh 1 [(54, aI y39)] (by kernel_rfl) ?_))))))
            obtain ⟨x42, h43, hm⟩ := bs hm
            refine dv 55 (v := .pv (.ptr (R_api_Column x42) 0)) (ia_slO R_api_Column a0.fCols .i64 t22 t72 h43 rfl (by kernel_rfl)) (by kernel_rfl) (st 4 [(8, aI y39), (9, .ptr 4 0), (56, .agg [aS x42.fName, aI x42.fKind])] [.box [aS a0.fName, .pv (encSl R_api_Column a0.fCols)] false, bR 5 1 (rI .u8) y10 0 g12, .box [aB y14, .pv (encSl (rI .u8) y15), aI y16] false, .box [aS y17, .pv .nils] false, .box [aS x42.fName, aI x42.fKind] false] (by kernel_rfl) (fin [(2, .ptr 0 0), (8, aI y39), (9, .ptr 4 0), (50, .pv (encSl R_api_Column a0.fCols)), (51, aI ((sll a0.fCols).length : Int)), (52, aI y39)] rfl (by kernel_rfl) (sq (rg (sh 3 [(59, aS x42.fName), (58, .ptr 4 0), (57, .agg [aS a0.fName, .pv (encSl R_api_Column a0.fCols)])] (by kernel_rfl) ?_)))))
            obtain ⟨x44, h45, hm⟩ := bs hm
            refine dv 60 (cpure (by kernel_rfl) (ok_schema_Column h45) (by kernel_rfl) (by kernel_rfl) (by kernel_rfl)) (by kernel_rfl) (sh 3 [(63, aB (x44 != y39)), (62, aB (x44 != y39)), (61, aI y39)] (by kernel_rfl) ?_)
            rcases bif_some hm with ⟨h46, hm⟩ | ⟨h46, hm⟩
            ·
             refine known [63, 62] h46 (by kernel_rfl) (sh 5 [(68, aB true), (67, .undef), (66, .undef), (65, .undef), (64, .undef)] (by kernel_rfl) (fin [(2, .ptr 0 0), (50, .pv (encSl R_api_Column a0.fCols)), (51, aI ((sll a0.fCols).length : Int)), (52, aI y39), (68, aB true)] rfl (by kernel_rfl) (cT (by kernel_rfl) (sq (detn [(4, aB false)] (by kernel_rfl) (wp_ret ?_))))))
             obtain rfl := Option.some.inj hm
             exact ⟨trivial, by kernel_rfl⟩
            ·
             refine known [63, 62] h46 (by kernel_rfl) (sh 2 [(65, aS x42.fName), (64, .ptr 4 0)] (by kernel_rfl) ?_)
             obtain ⟨x47, h48, hm⟩ := bs hm
             refine dv 66 (cpure (by kernel_rfl) (ok_schema_Name h48) (by kernel_rfl) (by kernel_rfl) (by kernel_rfl)) (by kernel_rfl) (sh 2 [(68, aB (!x47)), (67, aB (!x47))] (by kernel_rfl) (fin [(2, .ptr 0 0), (50, .pv (encSl R_api_Column a0.fCols)), (51, aI ((sll a0.fCols).length : Int)), (52, aI y39), (68, aB (!x47))] rfl (by kernel_rfl) ?_))
             rcases bif_some hm with ⟨h49, hm⟩ | ⟨h49, hm⟩
             ·
              refine ct h49 (by kernel_rfl) (sq (detn [(4, aB false)] (by kernel_rfl) (wp_ret ?_)))
              obtain rfl := Option.some.inj hm
              exact ⟨trivial, by kernel_rfl⟩
             ·
              refine cf h49 (by kernel_rfl) (wp_skip (detn [(2, .ptr 0 0), (50, .pv (encSl R_api_Column a0.fCols)), (51, aI ((sll a0.fCols).length : Int)), (52, aI (IntKind.wrap .i64 (y39 + 1)))] (by kernel_rfl) ?_))
              exact ⟨_, _, tidyL [(2, .ptr 0 0), (50, .pv (encSl R_api_Column a0.fCols)), (51, aI ((sll a0.fCols).length : Int)), (52, aI (IntKind.wrap .i64 (y39 + 1)))] [.box [aS a0.fName, .pv (encSl R_api_Column a0.fCols)] false, bR 5 1 (rI .u8) y10 0 g12, .box [aB y14, .pv (encSl (rI .u8) y15), aI y16] false, .box [aS y17, .pv .nils] false] (by kernel_rfl), ⟨(IntKind.wrap .i64 (y39 + 1)), hm, (by first | rfl | simp), (by first | rfl | simp)⟩⟩
           ·
            refine cf h41 (by kernel_rfl) (wp_exit ?_)
            exact ⟨y39, (decide (y39 < ((sll a0.fCols).length : Int))), hm, (by first | rfl | simp), (by first | rfl | simp)⟩
       ·
        subst hk20
        refine sq (sq (rg (sh 3 [(36, aB (y19 != 0)), (35, aB (y19 != 0)), (34, aI y19)] (by kernel_rfl) ?_)))
        rcases bif_some hm with ⟨h50, hm⟩ | ⟨h50, hm⟩
        ·
         refine known [36, 35] h50 (by kernel_rfl) (sh 12 [(48, aB true), (47, .undef), (46, .undef), (45, .undef), (44, .undef), (43, .undef), (42, aB true), (41, aB true), (40, .undef), (39, .undef), (38, .undef), (37, .undef)] (by kernel_rfl) (fin [(2, .ptr 0 0), (48, aB true)] rfl (by kernel_rfl) (cT (by kernel_rfl) (sq (detn [(4, aB false)] (by kernel_rfl) (wp_ret ?_))))))
         obtain rfl := Option.some.inj hm
         exact ⟨trivial, by kernel_rfl⟩
        ·
         refine known [36, 35] h50 (by kernel_rfl) (sh 2 [(38, .agg [aS a0.fName, .pv (encSl R_api_Column a0.fCols)]), (37, .agg [aS y17, aR 3 2 y18.length])] (by kernel_rfl) ?_)
         obtain ⟨x51, h52, hm⟩ := bs hm
         refine dO [(39, aB x51)] [.box [aS a0.fName, .pv (encSl R_api_Column a0.fCols)] false, bR 5 1 (rI .u8) y10 0 g12, .box [aB y14, .pv (encSl (rI .u8) y15), aI y16] false, bR 72 2 R_api_Column y18 0 0, .box [aS y17, aR 3 2 y18.length] false] (cpureR [3] [.agg [aS y17, aR 3 2 y18.length], .agg [aS a0.fName, .pv (encSl R_api_Column a0.fCols)]] (fl := true) (by kernel_rfl) (by kernel_rfl) (pAs_cons (pA_agg (purL_cons (pur_pv) (purL_cons (pur_ref' (id := 3) (l := y18) (R := R_api_Column) rfl (by first | rfl | simp) (by first | exact Nat.zero_le _ | exact Nat.le_refl _ | assumption | (simp; done) | (simp; omega))) (rfl)))) (pAs_cons (pA_agg (purL_cons (pur_pv) (purL_cons (pur_pv) (rfl)))) (rfl))) (ok_schema_Same h52) (by kernel_rfl) (by kernel_rfl)) (by kernel_rfl) (sh 3 [(42, aB (!x51)), (41, aB (!x51)), (40, aB (!x51))] (by kernel_rfl) ?_)
         rcases bif_some hm with ⟨h53, hm⟩ | ⟨h53, hm⟩
         ·
          refine known [42, 41, 40] h53 (by kernel_rfl) (sh 6 [(48, aB true), (47, .undef), (46, .undef), (45, .undef), (44, .undef), (43, .undef)] (by kernel_rfl) (fin [(2, .ptr 0 0), (48, aB true)] rfl (by kernel_rfl) (cT (by kernel_rfl) (sq (detn [(4, aB false)] (by kernel_rfl) (wp_ret ?_))))))
          obtain rfl := Option.some.inj hm
          exact ⟨trivial, by kernel_rfl⟩
         ·
          refine known [42, 41, 40] h53 (by kernel_rfl) (sh 1 [(43, .ptr 2 0)] (by kernel_rfl) ?_)
          obtain ⟨x55, h54, hm⟩ := bs hm
          obtain ⟨vv, H1, hC, rfl, rfl⟩ := ok_codec_Reader_Left h54
          refine dR [(44, aI x55)] [.box [aS a0.fName, .pv (encSl R_api_Column a0.fCols)] false, bR 5 1 (rI .u8) y10 0 g12, .box [aB y14, .pv (encSl (rI .u8) y15), aI y16] false, bR 72 2 R_api_Column y18 0 0, .box [aS y17, aR 3 2 y18.length] false] [2] [.ptr 2 0] (by kernel_rfl) (by kernel_rfl) (by kernel_rfl) hC (by kernel_rfl) (sh 1 [(45, .pv (encSl (rI .u8) a1))] (by kernel_rfl) (dv 46 (v := aI ((sll a1).length : Int)) (len_slO (rI .u8) a1 t35 (by kernel_rfl)) (by kernel_rfl) (sh 2 [(48, aB (x55 != ((sll a1).length : Int))), (47, aB (x55 != ((sll a1).length : Int)))] (by kernel_rfl) (fin [(2, .ptr 0 0), (48, aB (x55 != ((sll a1).length : Int)))] rfl (by kernel_rfl) ?_))))
          rcases bif_some hm with ⟨h56, hm⟩ | ⟨h56, hm⟩
          ·
           refine ct h56 (by kernel_rfl) (sq (detn [(4, aB false)] (by kernel_rfl) (wp_ret ?_)))
           obtain rfl := Option.some.inj hm
           exact ⟨trivial, by kernel_rfl⟩
          ·
           refine cf h56 (by kernel_rfl) (wp_skip ?_)
           obtain ⟨k59, hk59, hm⟩ := withK_some hm
           refine mid (fun t H => (∃ (y57 : Int) (y58 : Bool), k59 () = some r ∧ t = mk 86 [(2, .ptr 0 0), (50, .pv (encSl R_api_Column a0.fCols)), (51, aI ((sll a0.fCols).length : Int)), (52, aI y57), (53, aB y58)] ∧ H = [.box [aS a0.fName, .pv (encSl R_api_Column a0.fCols)] false, bR 5 1 (rI .u8) y10 0 g12, .box [aB y14, .pv (encSl (rI .u8) y15), aI y16] false, bR 72 2 R_api_Column y18 0 0, .box [aS y17, aR 3 2 y18.length] false])) ?_ ?_
           ·
            rintro _ _ ⟨y57, y58, hm, rfl, rfl⟩
            subst hk59
            refine sq (rgd (shd 3 [(72, .pv (encSl R_api_Column a0.fCols)), (71, .ptr 0 1), (70, .agg [aS a0.fName, .pv (encSl R_api_Column a0.fCols)])] (by kernel_rfl) (dvd 73 (v := aI ((sll a0.fCols).length : Int)) (len_slO R_api_Column a0.fCols t22 (by kernel_rfl)) (by kernel_rfl) ?_)))
            obtain ⟨_, h60, hm⟩ := bs hm
            refine dOd [(74, aR 5 4 ((List.replicate (Int.toNat ((sll a0.fCols).length : Int)) (api_Value.mk 0 0 0 ByteArray.empty)).length))] [.box [aS a0.fName, .pv (encSl R_api_Column a0.fCols)] false, bR 5 1 (rI .u8) y10 0 g12, .box [aB y14, .pv (encSl (rI .u8) y15), aI y16] false, bR 72 2 R_api_Column y18 0 0, .box [aS y17, aR 3 2 y18.length] false, bR 79 4 R_api_Value (List.replicate (Int.toNat ((sll a0.fCols).length : Int)) (api_Value.mk 0 0 0 ByteArray.empty)) 0 0] (makeO R_api_Value (api_Value.mk 0 0 0 ByteArray.empty) (n := ((sll a0.fCols).length : Int)) (c := ((sll a0.fCols).length : Int)) (k := .i64) (k' := .i64) (b := 40) t25 t79 rfl rfl rfl rfl h60 (by kernel_rfl)) (by kernel_rfl) ?_
            obtain ⟨x61, h62, hm⟩ := bs hm
            refine dOd [(75, aB x61)] [.box [aS a0.fName, .pv (encSl R_api_Column a0.fCols)] false, bR 5 1 (rI .u8) y10 0 g12, .box [aB y14, .pv (encSl (rI .u8) y15), aI y16] false, bR 72 2 R_api_Column y18 0 0, .box [aS y17, aR 3 2 y18.length] false, bR 79 4 R_api_Value (List.replicate (Int.toNat ((sll a0.fCols).length : Int)) (api_Value.mk 0 0 0 ByteArray.empty)) 0 0] (cpureR [5] [.agg [aS a0.fName, .pv (encSl R_api_Column a0.fCols)], aR 5 4 ((List.replicate (Int.toNat ((sll a0.fCols).length : Int)) (api_Value.mk 0 0 0 ByteArray.empty)).length)] (fl := true) (by kernel_rfl) (by kernel_rfl) (pAs_cons (pA_agg (purL_cons (pur_pv) (purL_cons (pur_pv) (rfl)))) (pAs_cons (pA_ref (pur_ref' (id := 5) (l := (List.replicate (Int.toNat ((sll a0.fCols).length : Int)) (api_Value.mk 0 0 0 ByteArray.empty))) (R := R_api_Value) rfl (by first | rfl | simp) (by first | exact Nat.zero_le _ | exact Nat.le_refl _ | assumption | (simp; done) | (simp; omega)))) (rfl))) (ok_schema_Fits h62) (by kernel_rfl) (by kernel_rfl)) (by kernel_rfl) (shd 1 [(76, aB x61)] (by kernel_rfl) ?_)
            rcases bif_some hm with ⟨h63, hm⟩ | ⟨h63, hm⟩
            ·
             refine knownd [76, 75] h63 (by kernel_rfl) (shd 3 [(79, .pv (encSl R_api_Column a0.fCols)), (78, .ptr 0 1), (77, .agg [aS a0.fName, .pv (encSl R_api_Column a0.fCols)])] (by kernel_rfl) (dvd 80 (v := aI ((sll a0.fCols).length : Int)) (len_slO R_api_Column a0.fCols t22 (by kernel_rfl)) (by kernel_rfl) (shd 1 [(81, aI (IntKind.wrap .i64 (((sll a0.fCols).length : Int) + 1)))] (by kernel_rfl) ?_)))
             obtain ⟨_, h64, hm⟩ := bs hm
             refine dOd [(82, aR 6 4 ((List.replicate (Int.toNat (IntKind.wrap .i64 (((sll a0.fCols).length : Int) + 1))) (api_Value.mk 0 0 0 ByteArray.empty)).length))] [.box [aS a0.fName, .pv (encSl R_api_Column a0.fCols)] false, bR 5 1 (rI .u8) y10 0 g12, .box [aB y14, .pv (encSl (rI .u8) y15), aI y16] false, bR 72 2 R_api_Column y18 0 0, .box [aS y17, aR 3 2 y18.length] false, bR 79 4 R_api_Value (List.replicate (Int.toNat ((sll a0.fCols).length : Int)) (api_Value.mk 0 0 0 ByteArray.empty)) 0 0, bR 79 4 R_api_Value (List.replicate (Int.toNat (IntKind.wrap .i64 (((sll a0.fCols).length : Int) + 1))) (api_Value.mk 0 0 0 ByteArray.empty)) 0 0] (makeO R_api_Value (api_Value.mk 0 0 0 ByteArray.empty) (n := (IntKind.wrap .i64 (((sll a0.fCols).length : Int) + 1))) (c := (IntKind.wrap .i64 (((sll a0.fCols).length : Int) + 1))) (k := .i64) (k' := .i64) (b := 40) t25 t79 rfl rfl rfl rfl h64 (by kernel_rfl)) (by kernel_rfl) ?_
             obtain ⟨x65, h66, hm⟩ := bs hm
             refine dOd [(83, aB x65)] [.box [aS a0.fName, .pv (encSl R_api_Column a0.fCols)] false, bR 5 1 (rI .u8) y10 0 g12, .box [aB y14, .pv (encSl (rI .u8) y15), aI y16] false, bR 72 2 R_api_Column y18 0 0, .box [aS y17, aR 3 2 y18.length] false, bR 79 4 R_api_Value (List.replicate (Int.toNat ((sll a0.fCols).length : Int)) (api_Value.mk 0 0 0 ByteArray.empty)) 0 0, bR 79 4 R_api_Value (List.replicate (Int.toNat (IntKind.wrap .i64 (((sll a0.fCols).length : Int) + 1))) (api_Value.mk 0 0 0 ByteArray.empty)) 0 0] (cpureR [6] [.agg [aS a0.fName, .pv (encSl R_api_Column a0.fCols)], aR 6 4 ((List.replicate (Int.toNat (IntKind.wrap .i64 (((sll a0.fCols).length : Int) + 1))) (api_Value.mk 0 0 0 ByteArray.empty)).length)] (fl := true) (by kernel_rfl) (by kernel_rfl) (pAs_cons (pA_agg (purL_cons (pur_pv) (purL_cons (pur_pv) (rfl)))) (pAs_cons (pA_ref (pur_ref' (id := 6) (l := (List.replicate (Int.toNat (IntKind.wrap .i64 (((sll a0.fCols).length : Int) + 1))) (api_Value.mk 0 0 0 ByteArray.empty))) (R := R_api_Value) rfl (by first | rfl | simp) (by first | exact Nat.zero_le _ | exact Nat.le_refl _ | assumption | (simp; done) | (simp; omega)))) (rfl))) (ok_schema_Fits h66) (by kernel_rfl) (by kernel_rfl)) (by kernel_rfl) (shd 3 [(4, aB (!x65)), (85, aB (!x65)), (84, aB (!x65))] (by kernel_rfl) (find [(4, aB (!x65))] rfl (by kernel_rfl) (by kernel_rfl) (wp_ret ?_)))
             obtain rfl := Option.some.inj hm
             exact ⟨trivial, by kernel_rfl⟩
            ·
             refine knownd [76, 75] h63 (by kernel_rfl) (shd 10 [(4, aB false), (85, aB false), (84, .undef), (83, .undef), (82, .undef), (81, .undef), (80, .undef), (79, .undef), (78, .undef), (77, .undef)] (by kernel_rfl) (find [(4, aB false)] rfl (by kernel_rfl) (by kernel_rfl) (wp_ret ?_)))
             obtain rfl := Option.some.inj hm
             exact ⟨trivial, by kernel_rfl⟩
           refine sq (rg (sh 2 [(50, .pv (encSl R_api_Column a0.fCols)), (49, .ptr 0 1)] (by kernel_rfl) (dv 51 (v := aI ((sll a0.fCols).length : Int)) (len_slO R_api_Column a0.fCols t22 (by kernel_rfl)) (by kernel_rfl) (sh 1 [(52, aI 0)] (by kernel_rfl) (fin [(2, .ptr 0 0), (50, .pv (encSl R_api_Column a0.fCols)), (51, aI ((sll a0.fCols).length : Int)), (52, aI 0)] rfl (by kernel_rfl) (bq ?_))))))
           refine loopF (fun mm t H => (∃ (y68 : Int), law06_SchemaBack_l10x n a0 k59 mm y68 = some r ∧ t = mk 86 [(2, .ptr 0 0), (50, .pv (encSl R_api_Column a0.fCols)), (51, aI ((sll a0.fCols).length : Int)), (52, aI y68)] ∧ H = [.box [aS a0.fName, .pv (encSl R_api_Column a0.fCols)] false, bR 5 1 (rI .u8) y10 0 g12, .box [aB y14, .pv (encSl (rI .u8) y15), aI y16] false, bR 72 2 R_api_Column y18 0 0, .box [aS y17, aR 3 2 y18.length] false])) (⟨0, hm, (by first | rfl | simp), (by first | rfl | simp)⟩) ?_ ?_
           · rintro _ _ ⟨y68, hm, _⟩; exact nomatch hm
           rintro m69 _ _ ⟨y68, hm, rfl, rfl⟩
           simp only [law06_SchemaBack_l10x] at hm
           refine sq (detn [(2, .ptr 0 0), (50, .pv (encSl R_api_Column a0.fCols)), (51, aI ((sll a0.fCols).length : Int)), (52, aI y68), (53, aB (decide (y68 < ((sll a0.fCols).length : Int))))] (by kernel_rfl) ?_)
           refine sq ?_
           rcases bif_some hm with ⟨h70, hm⟩ | ⟨h70, hm⟩
           ·
            refine ct h70 (by kernel_rfl) (wp_skip (sq (bq (sq (rg (sh 1 [(54, aI y68)] (by kernel_rfl) ?_))))))
            obtain ⟨x71, h72, hm⟩ := bs hm
            refine dv 55 (v := .pv (.ptr (R_api_Column x71) 0)) (ia_slO R_api_Column a0.fCols .i64 t22 t72 h72 rfl (by kernel_rfl)) (by kernel_rfl) (st 4 [(8, aI y68), (9, .ptr 5 0), (56, .agg [aS x71.fName, aI x71.fKind])] [.box [aS a0.fName, .pv (encSl R_api_Column a0.fCols)] false, bR 5 1 (rI .u8) y10 0 g12, .box [aB y14, .pv (encSl (rI .u8) y15), aI y16] false, bR 72 2 R_api_Column y18 0 0, .box [aS y17, aR 3 2 y18.length] false, .box [aS x71.fName, aI x71.fKind] false] (by kernel_rfl) (fin [(2, .ptr 0 0), (8, aI y68), (9, .ptr 5 0), (50, .pv (encSl R_api_Column a0.fCols)), (51, aI ((sll a0.fCols).length : Int)), (52, aI y68)] rfl (by kernel_rfl) (sq (rg (sh 3 [(59, aS x71.fName), (58, .ptr 5 0), (57, .agg [aS a0.fName, .pv (encSl R_api_Column a0.fCols)])] (by kernel_rfl) ?_)))))
            obtain ⟨x73, h74, hm⟩ := bs hm
            refine dv 60 (cpure (by kernel_rfl) (ok_schema_Column h74) (by kernel_rfl) (by kernel_rfl) (by kernel_rfl)) (by kernel_rfl) (sh 3 [(63, aB (x73 != y68)), (62, aB (x73 != y68)), (61, aI y68)] (by kernel_rfl) ?_)
            rcases bif_some hm with ⟨h75, hm⟩ | ⟨h75, hm⟩
            ·
             refine known [63, 62] h75 (by kernel_rfl) (sh 5 [(68, aB true), (67, .undef), (66, .undef), (65, .undef), (64, .undef)] (by kernel_rfl) (fin [(2, .ptr 0 0), (50, .pv (encSl R_api_Column a0.fCols)), (51, aI ((sll a0.fCols).length : Int)), (52, aI y68), (68, aB true)] rfl (by kernel_rfl) (cT (by kernel_rfl) (sq (detn [(4, aB false)] (by kernel_rfl) (wp_ret ?_))))))
             obtain rfl := Option.some.inj hm
             exact ⟨trivial, by kernel_rfl⟩
            ·
             refine known [63, 62] h75 (by kernel_rfl) (sh 2 [(65, aS x71.fName), (64, .ptr 5 0)] (by kernel_rfl) ?_)
             obtain ⟨x76, h77, hm⟩ := bs hm
             refine dv 66 (cpure (by kernel_rfl) (ok_schema_Name h77) (by kernel_rfl) (by kernel_rfl) (by kernel_rfl)) (by kernel_rfl) (sh 2 [(68, aB (!x76)), (67, aB (!x76))] (by kernel_rfl) (fin [(2, .ptr 0 0), (50, .pv (encSl R_api_Column a0.fCols)), (51, aI ((sll a0.fCols).length : Int)), (52, aI y68), (68, aB (!x76))] rfl (by kernel_rfl) ?_))
             rcases bif_some hm with ⟨h78, hm⟩ | ⟨h78, hm⟩
             ·
              refine ct h78 (by kernel_rfl) (sq (detn [(4, aB false)] (by kernel_rfl) (wp_ret ?_)))
              obtain rfl := Option.some.inj hm
              exact ⟨trivial, by kernel_rfl⟩
             ·
              refine cf h78 (by kernel_rfl) (wp_skip (detn [(2, .ptr 0 0), (50, .pv (encSl R_api_Column a0.fCols)), (51, aI ((sll a0.fCols).length : Int)), (52, aI (IntKind.wrap .i64 (y68 + 1)))] (by kernel_rfl) ?_))
              exact ⟨_, _, tidyL [(2, .ptr 0 0), (50, .pv (encSl R_api_Column a0.fCols)), (51, aI ((sll a0.fCols).length : Int)), (52, aI (IntKind.wrap .i64 (y68 + 1)))] [.box [aS a0.fName, .pv (encSl R_api_Column a0.fCols)] false, bR 5 1 (rI .u8) y10 0 g12, .box [aB y14, .pv (encSl (rI .u8) y15), aI y16] false, bR 72 2 R_api_Column y18 0 0, .box [aS y17, aR 3 2 y18.length] false] (by kernel_rfl), ⟨(IntKind.wrap .i64 (y68 + 1)), hm, (by first | rfl | simp), (by first | rfl | simp)⟩⟩
           ·
            refine cf h70 (by kernel_rfl) (wp_exit ?_)
            exact ⟨y68, (decide (y68 < ((sll a0.fCols).length : Int))), hm, (by first | rfl | simp), (by first | rfl | simp)⟩
      refine rg (sh 1 [(30, .ptr 2 0)] (by kernel_rfl) ?_)
      obtain ⟨x86, h79, hm⟩ := bs hm
      rcases x86 with ⟨x80, x81, x82, x83, _ | x84, x85⟩
      ·
       obtain ⟨vv, H1, hC, rfl, rfl⟩ := ok_schema_Take h79
       refine dR [(31, .tup [.agg [aS x83, .pv .nils], aI x85])] [.box [aS a0.fName, .pv (encSl R_api_Column a0.fCols)] false, bR 5 1 (rI .u8) y10 0 g12, .box [aB x80, .pv (encSl (rI .u8) x81), aI x82] false] [2] [.ptr 2 0] (by kernel_rfl) (by kernel_rfl) (by kernel_rfl) hC (by kernel_rfl) (st 6 [(7, aI x85), (6, .ptr 3 0), (33, aI x85), (32, .agg [aS x83, .pv .nils]), (29, .tup [.agg [aS x83, .pv .nils], aI x85])] [.box [aS a0.fName, .pv (encSl R_api_Column a0.fCols)] false, bR 5 1 (rI .u8) y10 0 g12, .box [aB x80, .pv (encSl (rI .u8) x81), aI x82] false, .box [aS x83, .pv .nils] false] (by kernel_rfl) (fin [(1, .pv (encSl (rI .u8) a1)), (2, .ptr 0 0), (5, .ptr 2 0), (6, .ptr 3 0), (7, aI x85)] rfl (by kernel_rfl) ?_))
       exact .inl ⟨x80, x81, x82, x83, x85, hm, (by first | rfl | simp), (by first | rfl | simp)⟩
      ·
       obtain ⟨vv, H1, hC, rfl, rfl⟩ := ok_schema_Take h79
       refine dR [(31, .tup [.agg [aS x83, aR 3 2 x84.length], aI x85])] [.box [aS a0.fName, .pv (encSl R_api_Column a0.fCols)] false, bR 5 1 (rI .u8) y10 0 g12, .box [aB x80, .pv (encSl (rI .u8) x81), aI x82] false, bR 72 2 R_api_Column x84 0 0] [2] [.ptr 2 0] (by kernel_rfl) (by kernel_rfl) (by kernel_rfl) hC (by kernel_rfl) (st 6 [(7, aI x85), (6, .ptr 4 0), (33, aI x85), (32, .agg [aS x83, aR 3 2 x84.length]), (29, .tup [.agg [aS x83, aR 3 2 x84.length], aI x85])] [.box [aS a0.fName, .pv (encSl R_api_Column a0.fCols)] false, bR 5 1 (rI .u8) y10 0 g12, .box [aB x80, .pv (encSl (rI .u8) x81), aI x82] false, bR 72 2 R_api_Column x84 0 0, .box [aS x83, aR 3 2 x84.length] false] (by kernel_rfl) (fin [(1, .pv (encSl (rI .u8) a1)), (2, .ptr 0 0), (5, .ptr 2 0), (6, .ptr 4 0), (7, aI x85)] rfl (by kernel_rfl) ?_))
       exact .inr (⟨x80, x81, x82, x83, x84, x85, hm, (by first | rfl | simp), (by first | rfl | simp)⟩)
     refine rg (sh 1 [(24, .agg [aS a0.fName, .pv (encSl R_api_Column a0.fCols)])] (by kernel_rfl) ?_)
     obtain ⟨x88, h87, hm⟩ := bs hm
     obtain ⟨vv, H1, hC, rfl, rfl⟩ := ok_schema_Put_nil h87
     refine dR [(25, aR 1 1 x88.length)] [.box [aS a0.fName, .pv (encSl R_api_Column a0.fCols)] false, bR 5 1 (rI .u8) x88 0 0] [] [.pv .nils, .agg [aS a0.fName, .pv (encSl R_api_Column a0.fCols)]] (by kernel_rfl) (by kernel_rfl) (by kernel_rfl) hC (by kernel_rfl) (sh 1 [(26, .pv (encSl (rI .u8) a1))] (by kernel_rfl) ?_)
     rcases bif_some hm with ⟨h89, hm⟩ | ⟨h89, hm⟩
     ·
      obtain ⟨_, h90, hm⟩ := bs hm
      refine dv 27 (v := aR 1 1 x88.length) (app_ref0O (u := 0) (id := 1) (rI .u8) x88 (sll a1) (b := 1) t35 t5 rfl rfl rfl h89 h90 rfl (by first | rfl | simp) (by first | exact Nat.zero_le _ | exact Nat.le_refl _ | assumption | (simp; done) | (simp; omega)) (src_sl (R := (rI .u8)) (s := a1)) (by kernel_rfl)) (by kernel_rfl) ?_
      obtain ⟨_, h91, hm⟩ := bs hm
      obtain ⟨vv, H1, hC, rfl, rfl⟩ := ok_codec_Read h91
      refine dO [(28, .ptr 2 0)] [.box [aS a0.fName, .pv (encSl R_api_Column a0.fCols)] false, bR 5 1 (rI .u8) x88 0 (max 0 (x88.map (rI .u8)).length), .box [aB true, .pv (encSl (rI .u8) (some x88)), aI 0] false] (cownO [1] [aR 1 1 x88.length] (v' := .ptr 2 0) (bs' := [.box [aB true, .pv (encSl (rI .u8) (some x88)), aI 0] false]) (by kernel_rfl) (by kernel_rfl) (pAs_cons (pA_ref (pur_ref' (id := 1) (l := x88) (R := (rI .u8)) rfl (by first | rfl | simp) (by first | exact Nat.zero_le _ | exact Nat.le_refl _ | assumption | (simp; done) | (simp; omega)))) (rfl)) hC (by kernel_rfl) (by kernel_rfl) (by kernel_rfl)) (by kernel_rfl) (sh 1 [(5, .ptr 2 0)] (by kernel_rfl) (fin [(1, .pv (encSl (rI .u8) a1)), (2, .ptr 0 0), (5, .ptr 2 0)] rfl (by kernel_rfl) ?_))
      exact ⟨x88, (some x88), (max 0 (x88.map (rI .u8)).length), hm, (by first | rfl | simp), (by first | rfl | simp)⟩
     ·
      obtain ⟨_, h92, hm⟩ := bs hm
      refine dO [(27, aR 1 1 ((x88 ++ (sll a1)).length))] [.box [aS a0.fName, .pv (encSl R_api_Column a0.fCols)] false, bR 5 1 (rI .u8) (x88 ++ (sll a1)) 0 0] (app_refO (u := 0) (id := 1) (rI .u8) x88 (sll a1) (b := 1) t35 t5 rfl rfl rfl (fun _ => rfl) h89 h92 rfl (by first | rfl | simp) (by first | exact Nat.zero_le _ | exact Nat.le_refl _ | assumption | (simp; done) | (simp; omega)) (src_sl (R := (rI .u8)) (s := a1)) (by kernel_rfl)) (by kernel_rfl) ?_
      obtain ⟨_, h93, hm⟩ := bs hm
      obtain ⟨vv, H1, hC, rfl, rfl⟩ := ok_codec_Read h93
      refine dO [(28, .ptr 2 0)] [.box [aS a0.fName, .pv (encSl R_api_Column a0.fCols)] false, bR 5 1 (rI .u8) (x88 ++ (sll a1)) 0 (max 0 ((x88 ++ (sll a1)).map (rI .u8)).length), .box [aB true, .pv (encSl (rI .u8) (some (x88 ++ (sll a1)))), aI 0] false] (cownO [1] [aR 1 1 ((x88 ++ (sll a1)).length)] (v' := .ptr 2 0) (bs' := [.box [aB true, .pv (encSl (rI .u8) (some (x88 ++ (sll a1)))), aI 0] false]) (by kernel_rfl) (by kernel_rfl) (pAs_cons (pA_ref (pur_ref' (id := 1) (l := (x88 ++ (sll a1))) (R := (rI .u8)) rfl (by first | rfl | simp) (by first | exact Nat.zero_le _ | exact Nat.le_refl _ | assumption | (simp; done) | (simp; omega)))) (rfl)) hC (by kernel_rfl) (by kernel_rfl) (by kernel_rfl)) (by kernel_rfl) (sh 1 [(5, .ptr 2 0)] (by kernel_rfl) (fin [(1, .pv (encSl (rI .u8) a1)), (2, .ptr 0 0), (5, .ptr 2 0)] rfl (by kernel_rfl) ?_))
      exact ⟨(x88 ++ (sll a1)), (some (x88 ++ (sll a1))), (max 0 ((x88 ++ (sll a1)).map (rI .u8)).length), hm, (by first | rfl | simp), (by first | rfl | simp)⟩
end Go.Ab.S1
