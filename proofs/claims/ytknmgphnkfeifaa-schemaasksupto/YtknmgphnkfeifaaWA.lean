import Derived.Test.YtknmgphnkfeifaaS1
import Derived.Test.YtknmgphnkfeifaaPA
namespace Go.Ab.S1
open Go Go.Ab Go.Pl
open Go.Proofs.Try
set_option linter.unusedVariables false
set_option maxRecDepth 100000
theorem ok_law06_great {n : Nat} {a0 : api_Table} {r : Bool} (hm : law06_great n a0 = some r) :
    call G n 11 [.agg [aS a0.fName, .pv (encSl R_api_Column a0.fCols)]] [] = some (.ret (aB r), []) := by
  unfold law06_great at hm
  obtain ⟨n, rfl, h0⟩ := at1_some hm
  replace hm := h0; clear h0
  refine callL 27 [(0, .agg [aS a0.fName, .pv (encSl R_api_Column a0.fCols)])] func11 rfl (by kernel_rfl) (sq (det [(1, .ptr 0 0)] [.box [aS a0.fName, .pv (encSl R_api_Column a0.fCols)] false] (by kernel_rfl) ?_))
  refine sq (sq (rg (sh 2 [(6, .pv (encSl R_api_Column a0.fCols)), (5, .ptr 0 1)] (by kernel_rfl) (dv 7 (v := aI ((sll a0.fCols).length : Int)) (len_slO R_api_Column a0.fCols t22 (by kernel_rfl)) (by kernel_rfl) (sh 2 [(9, aB (decide (((sll a0.fCols).length : Int) > 100))), (8, aB (decide (((sll a0.fCols).length : Int) > 100)))] (by kernel_rfl) ?_)))))
  refine seg (decide (((sll a0.fCols).length : Int) > 100)) [9, 8] (fun b => [(14, aB (b || (decide ((a0.fName.size : Int) > 500)))), (13, ifA b (.undef) (aB (decide ((a0.fName.size : Int) > 500)))), (12, ifA b (.undef) (aI (a0.fName.size : Int))), (11, ifA b (.undef) (aS a0.fName)), (10, ifA b (.undef) (.ptr 0 0))]) 10 (by kernel_rfl) ?_ ?_ ?_
  ·
   intro Q h
   refine sh 5 [(14, aB true), (13, .undef), (12, .undef), (11, .undef), (10, .undef)] (by kernel_rfl) ?_
   exact sameN (by kernel_rfl) (by kernel_rfl) h
  ·
   intro Q h
   refine sh 5 [(14, aB (decide ((a0.fName.size : Int) > 500))), (13, aB (decide ((a0.fName.size : Int) > 500))), (12, aI (a0.fName.size : Int)), (11, aS a0.fName), (10, .ptr 0 0)] (by kernel_rfl) ?_
   exact sameN (by kernel_rfl) (by kernel_rfl) h
  refine fin [(1, .ptr 0 0), (14, aB ((decide (((sll a0.fCols).length : Int) > 100)) || (decide ((a0.fName.size : Int) > 500))))] rfl (by kernel_rfl) ?_
  rcases bif_some hm with ⟨h1, hm⟩ | ⟨h1, hm⟩
  ·
   refine ct h1 (by kernel_rfl) (sq (detn [(2, aB true)] (by kernel_rfl) (wp_ret ?_)))
   obtain rfl := Option.some.inj hm
   exact ⟨trivial, by kernel_rfl⟩
  ·
   refine cf h1 (by kernel_rfl) (wp_skip ?_)
   obtain ⟨k4, hk4, hm⟩ := withK_some hm
   refine mid (fun t H => ∃ (y2 : Int) (y3 : Bool), k4 () = some r ∧ t = mk 27 [(16, .pv (encSl R_api_Column a0.fCols)), (17, aI ((sll a0.fCols).length : Int)), (18, aI y2), (19, aB y3)] ∧ H = [.box [aS a0.fName, .pv (encSl R_api_Column a0.fCols)] false]) ?_ ?_
   ·
    rintro _ _ ⟨y2, y3, hm, rfl, rfl⟩
    subst hk4
    refine sq (detn [(2, aB false)] (by kernel_rfl) (wp_ret ?_))
    obtain rfl := Option.some.inj hm
    exact ⟨trivial, by kernel_rfl⟩
   refine sq (rg (sh 2 [(16, .pv (encSl R_api_Column a0.fCols)), (15, .ptr 0 1)] (by kernel_rfl) (dv 17 (v := aI ((sll a0.fCols).length : Int)) (len_slO R_api_Column a0.fCols t22 (by kernel_rfl)) (by kernel_rfl) (sh 1 [(18, aI 0)] (by kernel_rfl) (fin [(16, .pv (encSl R_api_Column a0.fCols)), (17, aI ((sll a0.fCols).length : Int)), (18, aI 0)] rfl (by kernel_rfl) (bq ?_))))))
   refine loopF (fun mm t H => ∃ (y6 : Int), law06_great_l4 n a0 k4 mm y6 = some r ∧ t = mk 27 [(16, .pv (encSl R_api_Column a0.fCols)), (17, aI ((sll a0.fCols).length : Int)), (18, aI y6)] ∧ H = [.box [aS a0.fName, .pv (encSl R_api_Column a0.fCols)] false]) ⟨0, hm, rfl, rfl⟩ ?_ ?_
   · rintro _ _ ⟨y6, hm, _⟩; exact nomatch hm
   rintro m7 _ _ ⟨y6, hm, rfl, rfl⟩
   simp only [law06_great_l4] at hm
   refine sq (detn [(16, .pv (encSl R_api_Column a0.fCols)), (17, aI ((sll a0.fCols).length : Int)), (18, aI y6), (19, aB (decide (y6 < ((sll a0.fCols).length : Int))))] (by kernel_rfl) ?_)
   refine sq ?_
   rcases bif_some hm with ⟨h8, hm⟩ | ⟨h8, hm⟩
   ·
    refine ct h8 (by kernel_rfl) (wp_skip (sq (bq (sq (rg ?_)))))
    obtain ⟨x9, h10, hm⟩ := bs hm
    refine dv 20 (v := .pv (.ptr (R_api_Column x9) 0)) (ia_slO R_api_Column a0.fCols .i64 t22 t72 h10 rfl (by kernel_rfl)) (by kernel_rfl) (st 3 [(4, .ptr 1 0), (21, .agg [aS x9.fName, aI x9.fKind])] [.box [aS a0.fName, .pv (encSl R_api_Column a0.fCols)] false, .box [aS x9.fName, aI x9.fKind] false] (by kernel_rfl) (fin [(4, .ptr 1 0), (16, .pv (encSl R_api_Column a0.fCols)), (17, aI ((sll a0.fCols).length : Int)), (18, aI y6)] rfl (by kernel_rfl) (sq (detn [(16, .pv (encSl R_api_Column a0.fCols)), (17, aI ((sll a0.fCols).length : Int)), (18, aI y6), (25, aB (decide ((x9.fName.size : Int) > 500)))] (by kernel_rfl) ?_))))
    rcases bif_some hm with ⟨h11, hm⟩ | ⟨h11, hm⟩
    ·
     refine ct h11 (by kernel_rfl) (sq (detn [(2, aB true)] (by kernel_rfl) (wp_ret ?_)))
     obtain rfl := Option.some.inj hm
     exact ⟨trivial, by kernel_rfl⟩
    ·
     refine cf h11 (by kernel_rfl) (wp_skip (detn [(16, .pv (encSl R_api_Column a0.fCols)), (17, aI ((sll a0.fCols).length : Int)), (18, aI (IntKind.wrap .i64 (y6 + 1)))] (by kernel_rfl) ?_))
     exact ⟨_, _, tidyL [(16, .pv (encSl R_api_Column a0.fCols)), (17, aI ((sll a0.fCols).length : Int)), (18, aI (IntKind.wrap .i64 (y6 + 1)))] [.box [aS a0.fName, .pv (encSl R_api_Column a0.fCols)] false] (by kernel_rfl), (IntKind.wrap .i64 (y6 + 1)), hm, rfl, rfl⟩
   ·
    refine cf h8 (by kernel_rfl) (wp_exit ?_)
    exact ⟨y6, (decide (y6 < ((sll a0.fCols).length : Int))), hm, rfl, rfl⟩
theorem ok_schema_Name {n : Nat} {a0 : ByteArray} {r : Bool} (hm : schema_Name n a0 = some r) :
    call G n 12 [aS a0] [] = some (.ret (aB r), []) := by
  unfold schema_Name at hm
  obtain ⟨n, rfl, h0⟩ := at1_some hm
  replace hm := h0; clear h0
  refine callL 47 [(0, aS a0)] func12 rfl (by kernel_rfl) (sq (detn [(0, aS a0)] (by kernel_rfl) ?_))
  obtain ⟨k3, hk3, hm⟩ := withK_some hm
  refine mid (fun t H => ∃ (y1 : Int) (y2 : Bool), k3 () = some r ∧ t = mk 47 [(0, aS a0), (7, aI (a0.size : Int)), (8, aI y1), (9, aB y2)] ∧ H = []) ?_ ?_
  ·
   rintro _ _ ⟨y1, y2, hm, rfl, rfl⟩
   subst hk3
   refine sq (rg (sh 4 [(42, aB (decide ((a0.size : Int) > 0))), (41, aB (decide ((a0.size : Int) > 0))), (40, aI (a0.size : Int)), (39, aS a0)] (by kernel_rfl) ?_))
   refine seg (decide ((a0.size : Int) > 0)) [42, 41] (fun b => [(46, aB (b && (decide ((a0.size : Int) ≤ 20)))), (45, ifA b (aB (decide ((a0.size : Int) ≤ 20))) (.undef)), (44, ifA b (aI (a0.size : Int)) (.undef)), (43, ifA b (aS a0) (.undef))]) 8 (by kernel_rfl) ?_ ?_ ?_
   ·
    intro Q h
    refine sh 4 [(46, aB (decide ((a0.size : Int) ≤ 20))), (45, aB (decide ((a0.size : Int) ≤ 20))), (44, aI (a0.size : Int)), (43, aS a0)] (by kernel_rfl) ?_
    exact sameN (by kernel_rfl) (by kernel_rfl) h
   ·
    intro Q h
    refine sh 4 [(46, aB false), (45, .undef), (44, .undef), (43, .undef)] (by kernel_rfl) ?_
    exact sameN (by kernel_rfl) (by kernel_rfl) h
   refine sh 1 [(2, aB ((decide ((a0.size : Int) > 0)) && (decide ((a0.size : Int) ≤ 20))))] (by kernel_rfl) (fin [(2, aB ((decide ((a0.size : Int) > 0)) && (decide ((a0.size : Int) ≤ 20))))] rfl (by kernel_rfl) (wp_ret ?_))
   obtain rfl := Option.some.inj hm
   exact ⟨trivial, by kernel_rfl⟩
  refine sq (detn [(0, aS a0), (7, aI (a0.size : Int)), (8, aI 0)] (by kernel_rfl) (bq ?_))
  refine loopF (fun mm t H => ∃ (y5 : Int), schema_Name_l2 n a0 k3 mm y5 = some r ∧ t = mk 47 [(0, aS a0), (7, aI (a0.size : Int)), (8, aI y5)] ∧ H = []) ⟨0, hm, rfl, rfl⟩ ?_ ?_
  · rintro _ _ ⟨y5, hm, _⟩; exact nomatch hm
  rintro m6 _ _ ⟨y5, hm, rfl, rfl⟩
  simp only [schema_Name_l2] at hm
  refine sq (detn [(0, aS a0), (7, aI (a0.size : Int)), (8, aI y5), (9, aB (decide (y5 < (a0.size : Int))))] (by kernel_rfl) ?_)
  refine sq ?_
  rcases bif_some hm with ⟨h7, hm⟩ | ⟨h7, hm⟩
  ·
   refine ct h7 (by kernel_rfl) (wp_skip (sq (bq (sq (detn [(0, aS a0), (3, aI y5), (7, aI (a0.size : Int)), (8, aI y5)] (by kernel_rfl) (sq (rg (sh 2 [(12, aI y5), (11, aS a0)] (by kernel_rfl) ?_))))))))
   obtain ⟨x8, h9, hm⟩ := bs hm
   refine dv 13 (v := aY x8) (ix_strO .i64 h9 (by kernel_rfl)) (by kernel_rfl) (sh 1 [(4, aY x8)] (by kernel_rfl) (fin [(0, aS a0), (3, aI y5), (4, aY x8), (7, aI (a0.size : Int)), (8, aI y5)] rfl (by kernel_rfl) ?_))
   refine sq (rg (sh 3 [(16, aB (decide (x8 ≥ 97))), (15, aB (decide (x8 ≥ 97))), (14, aY x8)] (by kernel_rfl) ?_))
   refine seg (decide (x8 ≥ 97)) [16, 15] (fun b => [(19, aB (b && (decide (x8 ≤ 122)))), (18, ifA b (aB (decide (x8 ≤ 122))) (.undef)), (17, ifA b (aY x8) (.undef))]) 6 (by kernel_rfl) ?_ ?_ ?_
   ·
    intro Q h
    refine sh 3 [(19, aB (decide (x8 ≤ 122))), (18, aB (decide (x8 ≤ 122))), (17, aY x8)] (by kernel_rfl) ?_
    exact sameN (by kernel_rfl) (by kernel_rfl) h
   ·
    intro Q h
    refine sh 3 [(19, aB false), (18, .undef), (17, .undef)] (by kernel_rfl) ?_
    exact sameN (by kernel_rfl) (by kernel_rfl) h
   refine sh 1 [(20, aB ((decide (x8 ≥ 97)) && (decide (x8 ≤ 122))))] (by kernel_rfl) ?_
   refine seg ((decide (x8 ≥ 97)) && (decide (x8 ≤ 122))) [20, 19] (fun b => [(23, aB (b || (x8 == 95))), (22, ifA b (.undef) (aB (x8 == 95))), (21, ifA b (.undef) (aY x8))]) 10 (by kernel_rfl) ?_ ?_ ?_
   ·
    intro Q h
    refine sh 3 [(23, aB true), (22, .undef), (21, .undef)] (by kernel_rfl) ?_
    exact sameN (by kernel_rfl) (by kernel_rfl) h
   ·
    intro Q h
    refine sh 3 [(23, aB (x8 == 95)), (22, aB (x8 == 95)), (21, aY x8)] (by kernel_rfl) ?_
    exact sameN (by kernel_rfl) (by kernel_rfl) h
   refine sh 1 [(5, aB (((decide (x8 ≥ 97)) && (decide (x8 ≤ 122))) || (x8 == 95)))] (by kernel_rfl) (fin [(0, aS a0), (3, aI y5), (4, aY x8), (5, aB (((decide (x8 ≥ 97)) && (decide (x8 ≤ 122))) || (x8 == 95))), (7, aI (a0.size : Int)), (8, aI y5)] rfl (by kernel_rfl) (sq (rg (sh 3 [(26, aB (!(((decide (x8 ≥ 97)) && (decide (x8 ≤ 122))) || (x8 == 95)))), (25, aB (!(((decide (x8 ≥ 97)) && (decide (x8 ≤ 122))) || (x8 == 95)))), (24, aB (((decide (x8 ≥ 97)) && (decide (x8 ≤ 122))) || (x8 == 95)))] (by kernel_rfl) ?_))))
   refine seg (!(((decide (x8 ≥ 97)) && (decide (x8 ≤ 122))) || (x8 == 95))) [26, 25] (fun b => [(37, aB (b && (((y5 == 0) || (decide (x8 < 48))) || (decide (x8 > 57))))), (36, ifA b (aB (((y5 == 0) || (decide (x8 < 48))) || (decide (x8 > 57)))) (.undef)), (35, ifA b (ifA ((y5 == 0) || (decide (x8 < 48))) (.undef) (aB (decide (x8 > 57)))) (.undef)), (34, ifA b (ifA ((y5 == 0) || (decide (x8 < 48))) (.undef) (aY x8)) (.undef)), (33, ifA b (aB ((y5 == 0) || (decide (x8 < 48)))) (.undef)), (32, ifA b (aB ((y5 == 0) || (decide (x8 < 48)))) (.undef)), (31, ifA b (ifA (y5 == 0) (.undef) (aB (decide (x8 < 48)))) (.undef)), (30, ifA b (ifA (y5 == 0) (.undef) (aY x8)) (.undef)), (29, ifA b (aB (y5 == 0)) (.undef)), (28, ifA b (aB (y5 == 0)) (.undef)), (27, ifA b (aI y5) (.undef))]) 14 (by kernel_rfl) ?_ ?_ ?_
   ·
    intro Q h
    refine sh 3 [(29, aB (y5 == 0)), (28, aB (y5 == 0)), (27, aI y5)] (by kernel_rfl) ?_
    refine seg (y5 == 0) [29, 28] (fun b => [(32, aB (b || (decide (x8 < 48)))), (31, ifA b (.undef) (aB (decide (x8 < 48)))), (30, ifA b (.undef) (aY x8))]) 9 (by kernel_rfl) ?_ ?_ ?_
    ·
     intro Q h
     refine sh 3 [(32, aB true), (31, .undef), (30, .undef)] (by kernel_rfl) ?_
     exact sameN (by kernel_rfl) (by kernel_rfl) h
    ·
     intro Q h
     refine sh 3 [(32, aB (decide (x8 < 48))), (31, aB (decide (x8 < 48))), (30, aY x8)] (by kernel_rfl) ?_
     exact sameN (by kernel_rfl) (by kernel_rfl) h
    refine sh 1 [(33, aB ((y5 == 0) || (decide (x8 < 48))))] (by kernel_rfl) ?_
    refine seg ((y5 == 0) || (decide (x8 < 48))) [33, 32] (fun b => [(36, aB (b || (decide (x8 > 57)))), (35, ifA b (.undef) (aB (decide (x8 > 57)))), (34, ifA b (.undef) (aY x8))]) 13 (by kernel_rfl) ?_ ?_ ?_
    ·
     intro Q h
     refine sh 3 [(36, aB true), (35, .undef), (34, .undef)] (by kernel_rfl) ?_
     exact sameN (by kernel_rfl) (by kernel_rfl) h
    ·
     intro Q h
     refine sh 3 [(36, aB (decide (x8 > 57))), (35, aB (decide (x8 > 57))), (34, aY x8)] (by kernel_rfl) ?_
     exact sameN (by kernel_rfl) (by kernel_rfl) h
    refine sh 1 [(37, aB (((y5 == 0) || (decide (x8 < 48))) || (decide (x8 > 57))))] (by kernel_rfl) ?_
    exact sameN (by kernel_rfl) (by kernel_rfl) h
   ·
    intro Q h
    refine sh 11 [(37, aB false), (36, .undef), (35, .undef), (34, .undef), (33, .undef), (32, .undef), (31, .undef), (30, .undef), (29, .undef), (28, .undef), (27, .undef)] (by kernel_rfl) ?_
    exact sameN (by kernel_rfl) (by kernel_rfl) h
   refine fin [(0, aS a0), (7, aI (a0.size : Int)), (8, aI y5), (37, aB ((!(((decide (x8 ≥ 97)) && (decide (x8 ≤ 122))) || (x8 == 95))) && (((y5 == 0) || (decide (x8 < 48))) || (decide (x8 > 57)))))] rfl (by kernel_rfl) ?_
   rcases bif_some hm with ⟨h10, hm⟩ | ⟨h10, hm⟩
   ·
    refine ct h10 (by kernel_rfl) (sq (detn [(2, aB false)] (by kernel_rfl) (wp_ret ?_)))
    obtain rfl := Option.some.inj hm
    exact ⟨trivial, by kernel_rfl⟩
   ·
    refine cf h10 (by kernel_rfl) (wp_skip (detn [(0, aS a0), (7, aI (a0.size : Int)), (8, aI (IntKind.wrap .i64 (y5 + 1)))] (by kernel_rfl) ?_))
    exact ⟨_, _, tidyL [(0, aS a0), (7, aI (a0.size : Int)), (8, aI (IntKind.wrap .i64 (y5 + 1)))] [] (by kernel_rfl), (IntKind.wrap .i64 (y5 + 1)), hm, rfl, rfl⟩
  ·
   refine cf h7 (by kernel_rfl) (wp_exit ?_)
   exact ⟨y5, (decide (y5 < (a0.size : Int))), hm, rfl, rfl⟩
theorem ok_ref06_Name {n : Nat} {a0 : ByteArray} {r : Bool} (hm : ref06_Name n a0 = some r) :
    call G n 13 [aS a0] [] = some (.ret (aB r), []) := by
  unfold ref06_Name at hm
  obtain ⟨n, rfl, h0⟩ := at1_some hm
  replace hm := h0; clear h0
  refine callL 58 [(0, aS a0)] func13 rfl (by kernel_rfl) (sq (detn [(0, aS a0)] (by kernel_rfl) ?_))
  refine sq (sq (rg (sh 3 [(8, aB (sEq a0 ByteArray.empty)), (7, aB (sEq a0 ByteArray.empty)), (6, aS a0)] (by kernel_rfl) ?_)))
  refine seg (sEq a0 ByteArray.empty) [8, 7] (fun b => [(12, aB (b || (decide ((a0.size : Int) > 20)))), (11, ifA b (.undef) (aB (decide ((a0.size : Int) > 20)))), (10, ifA b (.undef) (aI (a0.size : Int))), (9, ifA b (.undef) (aS a0))]) 7 (by kernel_rfl) ?_ ?_ ?_
  ·
   intro Q h
   refine sh 4 [(12, aB true), (11, .undef), (10, .undef), (9, .undef)] (by kernel_rfl) ?_
   exact sameN (by kernel_rfl) (by kernel_rfl) h
  ·
   intro Q h
   refine sh 4 [(12, aB (decide ((a0.size : Int) > 20))), (11, aB (decide ((a0.size : Int) > 20))), (10, aI (a0.size : Int)), (9, aS a0)] (by kernel_rfl) ?_
   exact sameN (by kernel_rfl) (by kernel_rfl) h
  refine fin [(0, aS a0), (12, aB ((sEq a0 ByteArray.empty) || (decide ((a0.size : Int) > 20))))] rfl (by kernel_rfl) ?_
  rcases bif_some hm with ⟨h1, hm⟩ | ⟨h1, hm⟩
  ·
   refine ct h1 (by kernel_rfl) (sq (detn [(2, aB false)] (by kernel_rfl) (wp_ret ?_)))
   obtain rfl := Option.some.inj hm
   exact ⟨trivial, by kernel_rfl⟩
  ·
   refine cf h1 (by kernel_rfl) (wp_skip ?_)
   obtain ⟨k4, hk4, hm⟩ := withK_some hm
   refine mid (fun t H => ∃ (y2 : Bool) (y3 : Int), k4 () = some r ∧ t = mk 58 [(0, aS a0), (3, aI y3), (16, aB y2)] ∧ H = []) ?_ ?_
   ·
    rintro _ _ ⟨y2, y3, hm, rfl, rfl⟩
    subst hk4
    refine sq (detn [(2, aB true)] (by kernel_rfl) (wp_ret ?_))
    obtain rfl := Option.some.inj hm
    exact ⟨trivial, by kernel_rfl⟩
   refine sq (detn [(0, aS a0), (3, aI 0)] (by kernel_rfl) (bq ?_))
   refine loopF (fun mm t H => ∃ (y6 : Int), ref06_Name_l4 n a0 k4 mm y6 = some r ∧ t = mk 58 [(0, aS a0), (3, aI y6)] ∧ H = []) ⟨0, hm, rfl, rfl⟩ ?_ ?_
   · rintro _ _ ⟨y6, hm, _⟩; exact nomatch hm
   rintro m7 _ _ ⟨y6, hm, rfl, rfl⟩
   simp only [ref06_Name_l4] at hm
   refine sq (sq (detn [(0, aS a0), (3, aI y6), (16, aB (decide (y6 < (a0.size : Int))))] (by kernel_rfl) ?_))
   rcases bif_some hm with ⟨h8, hm⟩ | ⟨h8, hm⟩
   ·
    refine ct h8 (by kernel_rfl) (wp_skip (sq (bq ?_)))
    refine sq (rg (sh 2 [(20, aI y6), (19, aS a0)] (by kernel_rfl) ?_))
    obtain ⟨x9, h10, hm⟩ := bs hm
    refine dv 21 (v := aY x9) (ix_strO .i64 h10 (by kernel_rfl)) (by kernel_rfl) (sh 2 [(23, aB (decide (x9 ≥ 48))), (22, aB (decide (x9 ≥ 48)))] (by kernel_rfl) ?_)
    refine seg (decide (x9 ≥ 48)) [23, 22] (fun b => [(28, aB (b && (decide (x9 ≤ 57)))), (27, ifA b (aB (decide (x9 ≤ 57))) (.undef)), (26, ifA b (aY x9) (.undef)), (25, ifA b (aI y6) (.undef)), (24, ifA b (aS a0) (.undef))]) 10 (by kernel_rfl) ?_ ?_ ?_
    ·
     intro Q h
     refine sh 2 [(25, aI y6), (24, aS a0)] (by kernel_rfl) (dv 26 (v := aY x9) (ix_strO .i64 h10 (by kernel_rfl)) (by kernel_rfl) (sh 2 [(28, aB (decide (x9 ≤ 57))), (27, aB (decide (x9 ≤ 57)))] (by kernel_rfl) ?_))
     exact sameN (by kernel_rfl) (by kernel_rfl) h
    ·
     intro Q h
     refine sh 5 [(28, aB false), (27, .undef), (26, .undef), (25, .undef), (24, .undef)] (by kernel_rfl) ?_
     exact sameN (by kernel_rfl) (by kernel_rfl) h
    refine sh 1 [(4, aB ((decide (x9 ≥ 48)) && (decide (x9 ≤ 57))))] (by kernel_rfl) (fin [(0, aS a0), (3, aI y6), (4, aB ((decide (x9 ≥ 48)) && (decide (x9 ≤ 57))))] rfl (by kernel_rfl) ?_)
    refine sq (rg (sh 2 [(30, aI y6), (29, aS a0)] (by kernel_rfl) (dv 31 (v := aY x9) (ix_strO .i64 h10 (by kernel_rfl)) (by kernel_rfl) (sh 2 [(33, aB (decide (x9 ≥ 97))), (32, aB (decide (x9 ≥ 97)))] (by kernel_rfl) ?_))))
    refine seg (decide (x9 ≥ 97)) [33, 32] (fun b => [(38, aB (b && (decide (x9 ≤ 122)))), (37, ifA b (aB (decide (x9 ≤ 122))) (.undef)), (36, ifA b (aY x9) (.undef)), (35, ifA b (aI y6) (.undef)), (34, ifA b (aS a0) (.undef))]) 10 (by kernel_rfl) ?_ ?_ ?_
    ·
     intro Q h
     refine sh 2 [(35, aI y6), (34, aS a0)] (by kernel_rfl) (dv 36 (v := aY x9) (ix_strO .i64 h10 (by kernel_rfl)) (by kernel_rfl) (sh 2 [(38, aB (decide (x9 ≤ 122))), (37, aB (decide (x9 ≤ 122)))] (by kernel_rfl) ?_))
     exact sameN (by kernel_rfl) (by kernel_rfl) h
    ·
     intro Q h
     refine sh 5 [(38, aB false), (37, .undef), (36, .undef), (35, .undef), (34, .undef)] (by kernel_rfl) ?_
     exact sameN (by kernel_rfl) (by kernel_rfl) h
    refine sh 1 [(5, aB ((decide (x9 ≥ 97)) && (decide (x9 ≤ 122))))] (by kernel_rfl) (fin [(0, aS a0), (3, aI y6), (4, aB ((decide (x9 ≥ 48)) && (decide (x9 ≤ 57)))), (5, aB ((decide (x9 ≥ 97)) && (decide (x9 ≤ 122))))] rfl (by kernel_rfl) (sq (rg (sh 3 [(41, aB (!((decide (x9 ≥ 48)) && (decide (x9 ≤ 57))))), (40, aB (!((decide (x9 ≥ 48)) && (decide (x9 ≤ 57))))), (39, aB ((decide (x9 ≥ 48)) && (decide (x9 ≤ 57))))] (by kernel_rfl) ?_))))
    refine seg (!((decide (x9 ≥ 48)) && (decide (x9 ≤ 57)))) [41, 40] (fun b => [(44, aB (b && (!((decide (x9 ≥ 97)) && (decide (x9 ≤ 122)))))), (43, ifA b (aB (!((decide (x9 ≥ 97)) && (decide (x9 ≤ 122))))) (.undef)), (42, ifA b (aB ((decide (x9 ≥ 97)) && (decide (x9 ≤ 122)))) (.undef))]) 6 (by kernel_rfl) ?_ ?_ ?_
    ·
     intro Q h
     refine sh 3 [(44, aB (!((decide (x9 ≥ 97)) && (decide (x9 ≤ 122))))), (43, aB (!((decide (x9 ≥ 97)) && (decide (x9 ≤ 122))))), (42, aB ((decide (x9 ≥ 97)) && (decide (x9 ≤ 122))))] (by kernel_rfl) ?_
     exact sameN (by kernel_rfl) (by kernel_rfl) h
    ·
     intro Q h
     refine sh 3 [(44, aB false), (43, .undef), (42, .undef)] (by kernel_rfl) ?_
     exact sameN (by kernel_rfl) (by kernel_rfl) h
    refine sh 1 [(45, aB ((!((decide (x9 ≥ 48)) && (decide (x9 ≤ 57)))) && (!((decide (x9 ≥ 97)) && (decide (x9 ≤ 122))))))] (by kernel_rfl) ?_
    refine seg ((!((decide (x9 ≥ 48)) && (decide (x9 ≤ 57)))) && (!((decide (x9 ≥ 97)) && (decide (x9 ≤ 122))))) [45, 44] (fun b => [(50, aB (b && (x9 != 95))), (49, ifA b (aB (x9 != 95)) (.undef)), (48, ifA b (aY x9) (.undef)), (47, ifA b (aI y6) (.undef)), (46, ifA b (aS a0) (.undef))]) 12 (by kernel_rfl) ?_ ?_ ?_
    ·
     intro Q h
     refine sh 2 [(47, aI y6), (46, aS a0)] (by kernel_rfl) (dv 48 (v := aY x9) (ix_strO .i64 h10 (by kernel_rfl)) (by kernel_rfl) (sh 2 [(50, aB (x9 != 95)), (49, aB (x9 != 95))] (by kernel_rfl) ?_))
     exact sameN (by kernel_rfl) (by kernel_rfl) h
    ·
     intro Q h
     refine sh 5 [(50, aB false), (49, .undef), (48, .undef), (47, .undef), (46, .undef)] (by kernel_rfl) ?_
     exact sameN (by kernel_rfl) (by kernel_rfl) h
    refine sh 1 [(51, aB (((!((decide (x9 ≥ 48)) && (decide (x9 ≤ 57)))) && (!((decide (x9 ≥ 97)) && (decide (x9 ≤ 122))))) && (x9 != 95)))] (by kernel_rfl) ?_
    refine seg (((!((decide (x9 ≥ 48)) && (decide (x9 ≤ 57)))) && (!((decide (x9 ≥ 97)) && (decide (x9 ≤ 122))))) && (x9 != 95)) [51, 50] (fun b => [(57, aB (b || (((decide (x9 ≥ 48)) && (decide (x9 ≤ 57))) && (y6 == 0)))), (56, ifA b (.undef) (aB (((decide (x9 ≥ 48)) && (decide (x9 ≤ 57))) && (y6 == 0)))), (55, ifA b (.undef) (ifA ((decide (x9 ≥ 48)) && (decide (x9 ≤ 57))) (aB (y6 == 0)) (.undef))), (54, ifA b (.undef) (ifA ((decide (x9 ≥ 48)) && (decide (x9 ≤ 57))) (aI y6) (.undef))), (53, ifA b (.undef) (aB ((decide (x9 ≥ 48)) && (decide (x9 ≤ 57))))), (52, ifA b (.undef) (aB ((decide (x9 ≥ 48)) && (decide (x9 ≤ 57))))), (39, aB ((decide (x9 ≥ 48)) && (decide (x9 ≤ 57)))), (4, aB ((decide (x9 ≥ 48)) && (decide (x9 ≤ 57))))]) 19 (by kernel_rfl) ?_ ?_ ?_
    ·
     intro Q h
     refine sh 6 [(57, aB true), (56, .undef), (55, .undef), (54, .undef), (53, .undef), (52, .undef)] (by kernel_rfl) ?_
     exact sameN (by kernel_rfl) (by kernel_rfl) h
    ·
     intro Q h
     refine sh 2 [(53, aB ((decide (x9 ≥ 48)) && (decide (x9 ≤ 57)))), (52, aB ((decide (x9 ≥ 48)) && (decide (x9 ≤ 57))))] (by kernel_rfl) ?_
     refine seg ((decide (x9 ≥ 48)) && (decide (x9 ≤ 57))) [53, 52, 39, 4] (fun b => [(56, aB (b && (y6 == 0))), (55, ifA b (aB (y6 == 0)) (.undef)), (54, ifA b (aI y6) (.undef))]) 18 (by kernel_rfl) ?_ ?_ ?_
     ·
      intro Q h
      refine sh 3 [(56, aB (y6 == 0)), (55, aB (y6 == 0)), (54, aI y6)] (by kernel_rfl) ?_
      exact sameN (by kernel_rfl) (by kernel_rfl) h
     ·
      intro Q h
      refine sh 3 [(56, aB false), (55, .undef), (54, .undef)] (by kernel_rfl) ?_
      exact sameN (by kernel_rfl) (by kernel_rfl) h
     refine sh 1 [(57, aB (((decide (x9 ≥ 48)) && (decide (x9 ≤ 57))) && (y6 == 0)))] (by kernel_rfl) ?_
     exact sameN (by kernel_rfl) (by kernel_rfl) h
    refine fin [(0, aS a0), (3, aI y6), (57, aB ((((!((decide (x9 ≥ 48)) && (decide (x9 ≤ 57)))) && (!((decide (x9 ≥ 97)) && (decide (x9 ≤ 122))))) && (x9 != 95)) || (((decide (x9 ≥ 48)) && (decide (x9 ≤ 57))) && (y6 == 0))))] rfl (by kernel_rfl) ?_
    rcases bif_some hm with ⟨h11, hm⟩ | ⟨h11, hm⟩
    ·
     refine ct h11 (by kernel_rfl) (sq (detn [(2, aB false)] (by kernel_rfl) (wp_ret ?_)))
     obtain rfl := Option.some.inj hm
     exact ⟨trivial, by kernel_rfl⟩
    ·
     refine cf h11 (by kernel_rfl) (wp_skip (detn [(0, aS a0), (3, aI (IntKind.wrap .i64 (y6 + 1)))] (by kernel_rfl) ?_))
     exact ⟨_, _, tidyL [(0, aS a0), (3, aI (IntKind.wrap .i64 (y6 + 1)))] [] (by kernel_rfl), (IntKind.wrap .i64 (y6 + 1)), hm, rfl, rfl⟩
   ·
    refine cf h8 (by kernel_rfl) (wp_exit ?_)
    exact ⟨(decide (y6 < (a0.size : Int))), y6, hm, rfl, rfl⟩
theorem ok_schema_Right {n : Nat} {a0 : api_Table} {r : Int} (hm : schema_Right n a0 = some r) :
    call G n 14 [.agg [aS a0.fName, .pv (encSl R_api_Column a0.fCols)]] [] = some (.ret (aI r), []) := by
  unfold schema_Right at hm
  obtain ⟨n, rfl, h0⟩ := at1_some hm
  replace hm := h0; clear h0
  refine callL 57 [(0, .agg [aS a0.fName, .pv (encSl R_api_Column a0.fCols)])] func14 rfl (by kernel_rfl) (sq (det [(1, .ptr 0 0)] [.box [aS a0.fName, .pv (encSl R_api_Column a0.fCols)] false] (by kernel_rfl) ?_))
  refine sq (sq (rg (sh 2 [(8, aS a0.fName), (7, .ptr 0 0)] (by kernel_rfl) ?_)))
  obtain ⟨x1, h2, hm⟩ := bs hm
  refine dv 9 (cpure (by kernel_rfl) (ok_schema_Name h2) (by kernel_rfl) (by kernel_rfl) (by kernel_rfl)) (by kernel_rfl) (sh 2 [(11, aB (!x1)), (10, aB (!x1))] (by kernel_rfl) ?_)
  refine seg (!x1) [11, 10] (fun b => [(16, aB (b || (decide (((sll a0.fCols).length : Int) < 1)))), (15, ifA b (.undef) (aB (decide (((sll a0.fCols).length : Int) < 1)))), (14, ifA b (.undef) (aI ((sll a0.fCols).length : Int))), (13, ifA b (.undef) (.pv (encSl R_api_Column a0.fCols))), (12, ifA b (.undef) (.ptr 0 1))]) 10 (by kernel_rfl) ?_ ?_ ?_
  ·
   intro Q h
   refine sh 5 [(16, aB true), (15, .undef), (14, .undef), (13, .undef), (12, .undef)] (by kernel_rfl) ?_
   exact sameN (by kernel_rfl) (by kernel_rfl) h
  ·
   intro Q h
   refine sh 2 [(13, .pv (encSl R_api_Column a0.fCols)), (12, .ptr 0 1)] (by kernel_rfl) (dv 14 (v := aI ((sll a0.fCols).length : Int)) (len_slO R_api_Column a0.fCols t22 (by kernel_rfl)) (by kernel_rfl) (sh 2 [(16, aB (decide (((sll a0.fCols).length : Int) < 1))), (15, aB (decide (((sll a0.fCols).length : Int) < 1)))] (by kernel_rfl) ?_))
   exact sameN (by kernel_rfl) (by kernel_rfl) h
  refine sh 1 [(17, aB ((!x1) || (decide (((sll a0.fCols).length : Int) < 1))))] (by kernel_rfl) ?_
  refine seg ((!x1) || (decide (((sll a0.fCols).length : Int) < 1))) [17, 16] (fun b => [(22, aB (b || (decide (((sll a0.fCols).length : Int) > 8)))), (21, ifA b (.undef) (aB (decide (((sll a0.fCols).length : Int) > 8)))), (20, ifA b (.undef) (aI ((sll a0.fCols).length : Int))), (19, ifA b (.undef) (.pv (encSl R_api_Column a0.fCols))), (18, ifA b (.undef) (.ptr 0 1))]) 16 (by kernel_rfl) ?_ ?_ ?_
  ·
   intro Q h
   refine sh 5 [(22, aB true), (21, .undef), (20, .undef), (19, .undef), (18, .undef)] (by kernel_rfl) ?_
   exact sameN (by kernel_rfl) (by kernel_rfl) h
  ·
   intro Q h
   refine sh 2 [(19, .pv (encSl R_api_Column a0.fCols)), (18, .ptr 0 1)] (by kernel_rfl) (dv 20 (v := aI ((sll a0.fCols).length : Int)) (len_slO R_api_Column a0.fCols t22 (by kernel_rfl)) (by kernel_rfl) (sh 2 [(22, aB (decide (((sll a0.fCols).length : Int) > 8))), (21, aB (decide (((sll a0.fCols).length : Int) > 8)))] (by kernel_rfl) ?_))
   exact sameN (by kernel_rfl) (by kernel_rfl) h
  refine fin [(1, .ptr 0 0), (22, aB (((!x1) || (decide (((sll a0.fCols).length : Int) < 1))) || (decide (((sll a0.fCols).length : Int) > 8))))] rfl (by kernel_rfl) ?_
  rcases bif_some hm with ⟨h3, hm⟩ | ⟨h3, hm⟩
  ·
   refine ct h3 (by kernel_rfl) (sq (detn [(2, aI 2)] (by kernel_rfl) (wp_ret ?_)))
   obtain rfl := Option.some.inj hm
   exact ⟨trivial, by kernel_rfl⟩
  ·
   refine cf h3 (by kernel_rfl) (wp_skip (sq (det [(1, .ptr 0 0), (3, .map 1)] [.box [aS a0.fName, .pv (encSl R_api_Column a0.fCols)] false, .map 9 4 (([] : List (ByteArray × Bool)).map (rMap PV.str PV.bool))] (by kernel_rfl) (sq (detn [(1, .ptr 0 0), (3, .map 1), (4, aB false)] (by kernel_rfl) ?_)))))
   obtain ⟨k8, hk8, hm⟩ := withK_some hm
   refine mid (fun t H => ∃ (y4 : (List (ByteArray × Bool))) (y5 : Int) (y6 : Bool) (y7 : Bool), k8 y7 = some r ∧ t = mk 57 [(3, .map 1), (4, aB y7), (25, .pv (encSl R_api_Column a0.fCols)), (26, aI ((sll a0.fCols).length : Int)), (27, aI y5), (28, aB y6)] ∧ H = [.box [aS a0.fName, .pv (encSl R_api_Column a0.fCols)] false, .map 9 4 (y4.map (rMap PV.str PV.bool))]) ?_ ?_
   ·
    rintro _ _ ⟨y4, y5, y6, y7, hm, rfl, rfl⟩
    subst hk8
    refine sq (sq (detn [(56, aB y7)] (by kernel_rfl) ?_))
    rcases bif_some hm with ⟨h9, hm⟩ | ⟨h9, hm⟩
    ·
     refine ct h9 (by kernel_rfl) (sq (detn [(2, aI 41)] (by kernel_rfl) (wp_ret ?_)))
     obtain rfl := Option.some.inj hm
     exact ⟨trivial, by kernel_rfl⟩
    ·
     refine cf h9 (by kernel_rfl) (wp_skip (sq (detn [(2, aI 0)] (by kernel_rfl) (wp_ret ?_))))
     obtain rfl := Option.some.inj hm
     exact ⟨trivial, by kernel_rfl⟩
   refine sq (rg (sh 2 [(25, .pv (encSl R_api_Column a0.fCols)), (24, .ptr 0 1)] (by kernel_rfl) (dv 26 (v := aI ((sll a0.fCols).length : Int)) (len_slO R_api_Column a0.fCols t22 (by kernel_rfl)) (by kernel_rfl) (sh 1 [(27, aI 0)] (by kernel_rfl) (fin [(3, .map 1), (4, aB false), (25, .pv (encSl R_api_Column a0.fCols)), (26, aI ((sll a0.fCols).length : Int)), (27, aI 0)] rfl (by kernel_rfl) (bq ?_))))))
   refine loopF (fun mm t H => ∃ (y13 : (List (ByteArray × Bool))) (y14 : Int) (y15 : Bool), schema_Right_l6 n a0 k8 mm y13 y14 y15 = some r ∧ t = mk 57 [(3, .map 1), (4, aB y15), (25, .pv (encSl R_api_Column a0.fCols)), (26, aI ((sll a0.fCols).length : Int)), (27, aI y14)] ∧ H = [.box [aS a0.fName, .pv (encSl R_api_Column a0.fCols)] false, .map 9 4 (y13.map (rMap PV.str PV.bool))]) ⟨([] : List (ByteArray × Bool)), 0, false, hm, rfl, rfl⟩ ?_ ?_
   · rintro _ _ ⟨y13, y14, y15, hm, _⟩; exact nomatch hm
   rintro m16 _ _ ⟨y13, y14, y15, hm, rfl, rfl⟩
   simp only [schema_Right_l6] at hm
   refine sq (detn [(3, .map 1), (4, aB y15), (25, .pv (encSl R_api_Column a0.fCols)), (26, aI ((sll a0.fCols).length : Int)), (27, aI y14), (28, aB (decide (y14 < ((sll a0.fCols).length : Int))))] (by kernel_rfl) ?_)
   refine sq ?_
   rcases bif_some hm with ⟨h17, hm⟩ | ⟨h17, hm⟩
   ·
    refine ct h17 (by kernel_rfl) (wp_skip (sq (bq (sq (rg ?_)))))
    obtain ⟨x18, h19, hm⟩ := bs hm
    refine dv 29 (v := .pv (.ptr (R_api_Column x18) 0)) (ia_slO R_api_Column a0.fCols .i64 t22 t72 h19 rfl (by kernel_rfl)) (by kernel_rfl) (st 3 [(6, .ptr 2 0), (30, .agg [aS x18.fName, aI x18.fKind])] [.box [aS a0.fName, .pv (encSl R_api_Column a0.fCols)] false, .map 9 4 (y13.map (rMap PV.str PV.bool)), .box [aS x18.fName, aI x18.fKind] false] (by kernel_rfl) (fin [(3, .map 1), (4, aB y15), (6, .ptr 2 0), (25, .pv (encSl R_api_Column a0.fCols)), (26, aI ((sll a0.fCols).length : Int)), (27, aI y14)] rfl (by kernel_rfl) ?_))
    refine sq (sq (rg (sh 2 [(32, aS x18.fName), (31, .ptr 2 0)] (by kernel_rfl) ?_)))
    obtain ⟨x20, h21, hm⟩ := bs hm
    refine dv 33 (cpure (by kernel_rfl) (ok_schema_Name h21) (by kernel_rfl) (by kernel_rfl) (by kernel_rfl)) (by kernel_rfl) (sh 2 [(35, aB (!x20)), (34, aB (!x20))] (by kernel_rfl) ?_)
    refine seg (!x20) [35, 34] (fun b => [(39, aB (b || (decide (x18.fKind < 1)))), (38, ifA b (.undef) (aB (decide (x18.fKind < 1)))), (37, ifA b (.undef) (aI x18.fKind)), (36, ifA b (.undef) (.ptr 2 1))]) 9 (by kernel_rfl) ?_ ?_ ?_
    ·
     intro Q h
     refine sh 4 [(39, aB true), (38, .undef), (37, .undef), (36, .undef)] (by kernel_rfl) ?_
     exact sameN (by kernel_rfl) (by kernel_rfl) h
    ·
     intro Q h
     refine sh 4 [(39, aB (decide (x18.fKind < 1))), (38, aB (decide (x18.fKind < 1))), (37, aI x18.fKind), (36, .ptr 2 1)] (by kernel_rfl) ?_
     exact sameN (by kernel_rfl) (by kernel_rfl) h
    refine sh 1 [(40, aB ((!x20) || (decide (x18.fKind < 1))))] (by kernel_rfl) ?_
    refine seg ((!x20) || (decide (x18.fKind < 1))) [40, 39] (fun b => [(44, aB (b || (decide (x18.fKind > 4)))), (43, ifA b (.undef) (aB (decide (x18.fKind > 4)))), (42, ifA b (.undef) (aI x18.fKind)), (41, ifA b (.undef) (.ptr 2 1))]) 14 (by kernel_rfl) ?_ ?_ ?_
    ·
     intro Q h
     refine sh 4 [(44, aB true), (43, .undef), (42, .undef), (41, .undef)] (by kernel_rfl) ?_
     exact sameN (by kernel_rfl) (by kernel_rfl) h
    ·
     intro Q h
     refine sh 4 [(44, aB (decide (x18.fKind > 4))), (43, aB (decide (x18.fKind > 4))), (42, aI x18.fKind), (41, .ptr 2 1)] (by kernel_rfl) ?_
     exact sameN (by kernel_rfl) (by kernel_rfl) h
    refine fin [(3, .map 1), (4, aB y15), (6, .ptr 2 0), (25, .pv (encSl R_api_Column a0.fCols)), (26, aI ((sll a0.fCols).length : Int)), (27, aI y14), (44, aB (((!x20) || (decide (x18.fKind < 1))) || (decide (x18.fKind > 4))))] rfl (by kernel_rfl) ?_
    rcases bif_some hm with ⟨h22, hm⟩ | ⟨h22, hm⟩
    ·
     refine ct h22 (by kernel_rfl) (sq (detn [(2, aI 2)] (by kernel_rfl) (wp_ret ?_)))
     obtain rfl := Option.some.inj hm
     exact ⟨trivial, by kernel_rfl⟩
    ·
     refine cf h22 (by kernel_rfl) (wp_skip (sq (rg (sh 2 [(46, aB y15), (45, aB y15)] (by kernel_rfl) ?_))))
     refine seg y15 [46, 45, 4] (fun b => [(51, aB (b || ((mget y13 x18.fName).getD false))), (50, ifA b (.undef) (aB ((mget y13 x18.fName).getD false))), (49, ifA b (.undef) (aS x18.fName)), (48, ifA b (.undef) (.ptr 2 0)), (47, ifA b (.undef) (.map 1))]) 7 (by kernel_rfl) ?_ ?_ ?_
     ·
      intro Q h
      refine sh 5 [(51, aB true), (50, .undef), (49, .undef), (48, .undef), (47, .undef)] (by kernel_rfl) ?_
      exact sameN (by kernel_rfl) (by kernel_rfl) h
     ·
      intro Q h
      refine sh 3 [(49, aS x18.fName), (48, .ptr 2 0), (47, .map 1)] (by kernel_rfl) (dv 50 (v := aB ((mget y13 x18.fName).getD false)) (lookup_str (id := 1) PV.bool false y13 x18.fName t74 t9 t4 rfl rfl rfl rfl (by kernel_rfl)) (by kernel_rfl) (sh 1 [(51, aB ((mget y13 x18.fName).getD false))] (by kernel_rfl) ?_))
      exact sameN (by kernel_rfl) (by kernel_rfl) h
     refine sh 1 [(4, aB (y15 || ((mget y13 x18.fName).getD false)))] (by kernel_rfl) (fin [(3, .map 1), (4, aB (y15 || ((mget y13 x18.fName).getD false))), (6, .ptr 2 0), (25, .pv (encSl R_api_Column a0.fCols)), (26, aI ((sll a0.fCols).length : Int)), (27, aI y14)] rfl (by kernel_rfl) (rg (sh 3 [(54, aS x18.fName), (53, .ptr 2 0), (52, .map 1)] (by kernel_rfl) (dO [] [.box [aS a0.fName, .pv (encSl R_api_Column a0.fCols)] false, .map 9 4 ((mput y13 x18.fName true).map (rMap PV.str PV.bool)), .box [aS x18.fName, aI x18.fKind] false] (mapUpd_str (id := 1) PV.bool y13 x18.fName true t74 t9 rfl rfl (by kernel_rfl)) (by kernel_rfl) (fin [(3, .map 1), (4, aB (y15 || ((mget y13 x18.fName).getD false))), (25, .pv (encSl R_api_Column a0.fCols)), (26, aI ((sll a0.fCols).length : Int)), (27, aI y14)] rfl (by kernel_rfl) (detn [(3, .map 1), (4, aB (y15 || ((mget y13 x18.fName).getD false))), (25, .pv (encSl R_api_Column a0.fCols)), (26, aI ((sll a0.fCols).length : Int)), (27, aI (IntKind.wrap .i64 (y14 + 1)))] (by kernel_rfl) ?_))))))
     exact ⟨_, _, tidyL [(3, .map 1), (4, aB (y15 || ((mget y13 x18.fName).getD false))), (25, .pv (encSl R_api_Column a0.fCols)), (26, aI ((sll a0.fCols).length : Int)), (27, aI (IntKind.wrap .i64 (y14 + 1)))] [.box [aS a0.fName, .pv (encSl R_api_Column a0.fCols)] false, .map 9 4 ((mput y13 x18.fName true).map (rMap PV.str PV.bool))] (by kernel_rfl), (mput y13 x18.fName true), (IntKind.wrap .i64 (y14 + 1)), (y15 || ((mget y13 x18.fName).getD false)), hm, rfl, rfl⟩
   ·
    refine cf h17 (by kernel_rfl) (wp_exit ?_)
    exact ⟨y13, y14, (decide (y14 < ((sll a0.fCols).length : Int))), y15, hm, rfl, rfl⟩
theorem ok_ref06_Column {n : Nat} {a0 : api_Table} {a1 : ByteArray} {r : Int} (hm : ref06_Column n a0 a1 = some r) :
    call G n 17 [.agg [aS a0.fName, .pv (encSl R_api_Column a0.fCols)], aS a1] [] = some (.ret (aI r), []) := by
  unfold ref06_Column at hm
  obtain ⟨n, rfl, h0⟩ := at1_some hm
  replace hm := h0; clear h0
  refine callL 22 [(0, .agg [aS a0.fName, .pv (encSl R_api_Column a0.fCols)]), (1, aS a1)] func17 rfl (by kernel_rfl) (sq (det [(1, aS a1), (2, .ptr 0 0)] [.box [aS a0.fName, .pv (encSl R_api_Column a0.fCols)] false] (by kernel_rfl) ?_))
  obtain ⟨k3, hk3, hm⟩ := withK_some hm
  refine mid (fun t H => ∃ (y1 : Bool) (y2 : Int), k3 () = some r ∧ t = mk 22 [(1, aS a1), (2, .ptr 0 0), (5, aI y2), (10, aB y1)] ∧ H = [.box [aS a0.fName, .pv (encSl R_api_Column a0.fCols)] false]) ?_ ?_
  ·
   rintro _ _ ⟨y1, y2, hm, rfl, rfl⟩
   subst hk3
   refine sq (detn [(4, aI (-1))] (by kernel_rfl) (wp_ret ?_))
   obtain rfl := Option.some.inj hm
   exact ⟨trivial, by kernel_rfl⟩
  refine sq (detn [(1, aS a1), (2, .ptr 0 0), (5, aI 0)] (by kernel_rfl) (bq ?_))
  refine loopF (fun mm t H => ∃ (y5 : Int), ref06_Column_l2 n a0 a1 k3 mm y5 = some r ∧ t = mk 22 [(1, aS a1), (2, .ptr 0 0), (5, aI y5)] ∧ H = [.box [aS a0.fName, .pv (encSl R_api_Column a0.fCols)] false]) ⟨0, hm, rfl, rfl⟩ ?_ ?_
  · rintro _ _ ⟨y5, hm, _⟩; exact nomatch hm
  rintro m6 _ _ ⟨y5, hm, rfl, rfl⟩
  simp only [ref06_Column_l2] at hm
  refine sq (sq (rg (sh 3 [(8, .pv (encSl R_api_Column a0.fCols)), (7, .ptr 0 1), (6, aI y5)] (by kernel_rfl) (dv 9 (v := aI ((sll a0.fCols).length : Int)) (len_slO R_api_Column a0.fCols t22 (by kernel_rfl)) (by kernel_rfl) (sh 1 [(10, aB (decide (y5 < ((sll a0.fCols).length : Int))))] (by kernel_rfl) (fin [(1, aS a1), (2, .ptr 0 0), (5, aI y5), (10, aB (decide (y5 < ((sll a0.fCols).length : Int))))] rfl (by kernel_rfl) ?_))))))
  rcases bif_some hm with ⟨h7, hm⟩ | ⟨h7, hm⟩
  ·
   refine ct h7 (by kernel_rfl) (wp_skip (sq (bq (sq (rg (sh 3 [(15, aI y5), (14, .pv (encSl R_api_Column a0.fCols)), (13, .ptr 0 1)] (by kernel_rfl) ?_))))))
   obtain ⟨x8, h9, hm⟩ := bs hm
   refine dv 16 (v := .pv (.ptr (R_api_Column x8) 0)) (ia_slO R_api_Column a0.fCols .i64 t22 t72 h9 rfl (by kernel_rfl)) (by kernel_rfl) (sh 4 [(20, aB (sEq x8.fName a1)), (19, aS a1), (18, aS x8.fName), (17, .pv (.ptr (R_api_Column x8) 0))] (by kernel_rfl) (fin [(1, aS a1), (2, .ptr 0 0), (5, aI y5), (20, aB (sEq x8.fName a1))] rfl (by kernel_rfl) ?_))
   rcases bif_some hm with ⟨h10, hm⟩ | ⟨h10, hm⟩
   ·
    refine ct h10 (by kernel_rfl) (sq (detn [(4, aI y5)] (by kernel_rfl) (wp_ret ?_)))
    obtain rfl := Option.some.inj hm
    exact ⟨trivial, by kernel_rfl⟩
   ·
    refine cf h10 (by kernel_rfl) (wp_skip (detn [(1, aS a1), (2, .ptr 0 0), (5, aI (IntKind.wrap .i64 (y5 + 1)))] (by kernel_rfl) ?_))
    exact ⟨_, _, tidyL [(1, aS a1), (2, .ptr 0 0), (5, aI (IntKind.wrap .i64 (y5 + 1)))] [.box [aS a0.fName, .pv (encSl R_api_Column a0.fCols)] false] (by kernel_rfl), (IntKind.wrap .i64 (y5 + 1)), hm, rfl, rfl⟩
  ·
   refine cf h7 (by kernel_rfl) (wp_exit ?_)
   exact ⟨(decide (y5 < ((sll a0.fCols).length : Int))), y5, hm, rfl, rfl⟩
theorem ok_ref06_Right {n : Nat} {a0 : api_Table} {r : Int} (hm : ref06_Right n a0 = some r) :
    call G n 15 [.agg [aS a0.fName, .pv (encSl R_api_Column a0.fCols)]] [] = some (.ret (aI r), []) := by
  unfold ref06_Right at hm
  obtain ⟨n, rfl, h0⟩ := at1_some hm
  replace hm := h0; clear h0
  refine callL 71 [(0, .agg [aS a0.fName, .pv (encSl R_api_Column a0.fCols)])] func15 rfl (by kernel_rfl) (sq (det [(1, .ptr 0 0)] [.box [aS a0.fName, .pv (encSl R_api_Column a0.fCols)] false] (by kernel_rfl) ?_))
  refine sq (sq (rg (sh 2 [(6, aS a0.fName), (5, .ptr 0 0)] (by kernel_rfl) ?_)))
  obtain ⟨x1, h2, hm⟩ := bs hm
  refine dv 7 (cpure (by kernel_rfl) (ok_ref06_Name h2) (by kernel_rfl) (by kernel_rfl) (by kernel_rfl)) (by kernel_rfl) (sh 2 [(9, aB (!x1)), (8, aB (!x1))] (by kernel_rfl) ?_)
  refine seg (!x1) [9, 8] (fun b => [(14, aB (b || (((sll a0.fCols).length : Int) == 0))), (13, ifA b (.undef) (aB (((sll a0.fCols).length : Int) == 0))), (12, ifA b (.undef) (aI ((sll a0.fCols).length : Int))), (11, ifA b (.undef) (.pv (encSl R_api_Column a0.fCols))), (10, ifA b (.undef) (.ptr 0 1))]) 10 (by kernel_rfl) ?_ ?_ ?_
  ·
   intro Q h
   refine sh 5 [(14, aB true), (13, .undef), (12, .undef), (11, .undef), (10, .undef)] (by kernel_rfl) ?_
   exact sameN (by kernel_rfl) (by kernel_rfl) h
  ·
   intro Q h
   refine sh 2 [(11, .pv (encSl R_api_Column a0.fCols)), (10, .ptr 0 1)] (by kernel_rfl) (dv 12 (v := aI ((sll a0.fCols).length : Int)) (len_slO R_api_Column a0.fCols t22 (by kernel_rfl)) (by kernel_rfl) (sh 2 [(14, aB (((sll a0.fCols).length : Int) == 0)), (13, aB (((sll a0.fCols).length : Int) == 0))] (by kernel_rfl) ?_))
   exact sameN (by kernel_rfl) (by kernel_rfl) h
  refine sh 1 [(15, aB ((!x1) || (((sll a0.fCols).length : Int) == 0)))] (by kernel_rfl) ?_
  refine seg ((!x1) || (((sll a0.fCols).length : Int) == 0)) [15, 14] (fun b => [(20, aB (b || (decide (((sll a0.fCols).length : Int) > 8)))), (19, ifA b (.undef) (aB (decide (((sll a0.fCols).length : Int) > 8)))), (18, ifA b (.undef) (aI ((sll a0.fCols).length : Int))), (17, ifA b (.undef) (.pv (encSl R_api_Column a0.fCols))), (16, ifA b (.undef) (.ptr 0 1))]) 16 (by kernel_rfl) ?_ ?_ ?_
  ·
   intro Q h
   refine sh 5 [(20, aB true), (19, .undef), (18, .undef), (17, .undef), (16, .undef)] (by kernel_rfl) ?_
   exact sameN (by kernel_rfl) (by kernel_rfl) h
  ·
   intro Q h
   refine sh 2 [(17, .pv (encSl R_api_Column a0.fCols)), (16, .ptr 0 1)] (by kernel_rfl) (dv 18 (v := aI ((sll a0.fCols).length : Int)) (len_slO R_api_Column a0.fCols t22 (by kernel_rfl)) (by kernel_rfl) (sh 2 [(20, aB (decide (((sll a0.fCols).length : Int) > 8))), (19, aB (decide (((sll a0.fCols).length : Int) > 8)))] (by kernel_rfl) ?_))
   exact sameN (by kernel_rfl) (by kernel_rfl) h
  refine fin [(1, .ptr 0 0), (20, aB (((!x1) || (((sll a0.fCols).length : Int) == 0)) || (decide (((sll a0.fCols).length : Int) > 8))))] rfl (by kernel_rfl) ?_
  rcases bif_some hm with ⟨h3, hm⟩ | ⟨h3, hm⟩
  ·
   refine ct h3 (by kernel_rfl) (sq (detn [(2, aI 2)] (by kernel_rfl) (wp_ret ?_)))
   obtain rfl := Option.some.inj hm
   exact ⟨trivial, by kernel_rfl⟩
  ·
   refine cf h3 (by kernel_rfl) (wp_skip ?_)
   obtain ⟨k6, hk6, hm⟩ := withK_some hm
   refine mid (fun t H => ∃ (y4 : Bool) (y5 : Int), k6 () = some r ∧ t = mk 71 [(1, .ptr 0 0), (3, aI y5), (25, aB y4)] ∧ H = [.box [aS a0.fName, .pv (encSl R_api_Column a0.fCols)] false]) ?_ ?_
   ·
    rintro _ _ ⟨y4, y5, hm, rfl, rfl⟩
    subst hk6
    obtain ⟨k9, hk9, hm⟩ := withK_some hm
    refine mid (fun t H => ∃ (y7 : Int) (y8 : Bool), k9 () = some r ∧ t = mk 71 [(1, .ptr 0 0), (4, aI y7), (58, aB y8)] ∧ H = [.box [aS a0.fName, .pv (encSl R_api_Column a0.fCols)] false]) ?_ ?_
    ·
     rintro _ _ ⟨y7, y8, hm, rfl, rfl⟩
     subst hk9
     refine sq (detn [(2, aI 0)] (by kernel_rfl) (wp_ret ?_))
     obtain rfl := Option.some.inj hm
     exact ⟨trivial, by kernel_rfl⟩
    refine sq (detn [(1, .ptr 0 0), (4, aI 0)] (by kernel_rfl) (bq ?_))
    refine loopF (fun mm t H => ∃ (y11 : Int), ref06_Right_l9 n a0 k9 mm y11 = some r ∧ t = mk 71 [(1, .ptr 0 0), (4, aI y11)] ∧ H = [.box [aS a0.fName, .pv (encSl R_api_Column a0.fCols)] false]) ⟨0, hm, rfl, rfl⟩ ?_ ?_
    · rintro _ _ ⟨y11, hm, _⟩; exact nomatch hm
    rintro m12 _ _ ⟨y11, hm, rfl, rfl⟩
    simp only [ref06_Right_l9] at hm
    refine sq (sq (rg (sh 3 [(56, .pv (encSl R_api_Column a0.fCols)), (55, .ptr 0 1), (54, aI y11)] (by kernel_rfl) (dv 57 (v := aI ((sll a0.fCols).length : Int)) (len_slO R_api_Column a0.fCols t22 (by kernel_rfl)) (by kernel_rfl) (sh 1 [(58, aB (decide (y11 < ((sll a0.fCols).length : Int))))] (by kernel_rfl) (fin [(1, .ptr 0 0), (4, aI y11), (58, aB (decide (y11 < ((sll a0.fCols).length : Int))))] rfl (by kernel_rfl) ?_))))))
    rcases bif_some hm with ⟨h13, hm⟩ | ⟨h13, hm⟩
    ·
     refine ct h13 (by kernel_rfl) (wp_skip (sq (bq (sq (rgd (shd 4 [(64, aI y11), (63, .pv (encSl R_api_Column a0.fCols)), (62, .ptr 0 1), (61, .agg [aS a0.fName, .pv (encSl R_api_Column a0.fCols)])] (by kernel_rfl) ?_))))))
     obtain ⟨x14, h15, hm⟩ := bs hm
     refine dvd 65 (v := .pv (.ptr (R_api_Column x14) 0)) (ia_slO R_api_Column a0.fCols .i64 t22 t72 h15 rfl (by kernel_rfl)) (by kernel_rfl) (shd 2 [(67, aS x14.fName), (66, .pv (.ptr (R_api_Column x14) 0))] (by kernel_rfl) ?_)
     obtain ⟨x16, h17, hm⟩ := bs hm
     refine dvd 68 (cpure (by kernel_rfl) (ok_ref06_Column h17) (by kernel_rfl) (by kernel_rfl) (by kernel_rfl)) (by kernel_rfl) (shd 2 [(70, aB (x16 != y11)), (69, aI y11)] (by kernel_rfl) (find [(1, .ptr 0 0), (4, aI y11), (70, aB (x16 != y11))] rfl (by kernel_rfl) (by kernel_rfl) ?_))
     rcases bif_some hm with ⟨h18, hm⟩ | ⟨h18, hm⟩
     ·
      refine ct h18 (by kernel_rfl) (sq (detn [(2, aI 41)] (by kernel_rfl) (wp_ret ?_)))
      obtain rfl := Option.some.inj hm
      exact ⟨trivial, by kernel_rfl⟩
     ·
      refine cf h18 (by kernel_rfl) (wp_skip (detn [(1, .ptr 0 0), (4, aI (IntKind.wrap .i64 (y11 + 1)))] (by kernel_rfl) ?_))
      exact ⟨_, _, tidyL [(1, .ptr 0 0), (4, aI (IntKind.wrap .i64 (y11 + 1)))] [.box [aS a0.fName, .pv (encSl R_api_Column a0.fCols)] false] (by kernel_rfl), (IntKind.wrap .i64 (y11 + 1)), hm, rfl, rfl⟩
    ·
     refine cf h13 (by kernel_rfl) (wp_exit ?_)
     exact ⟨y11, (decide (y11 < ((sll a0.fCols).length : Int))), hm, rfl, rfl⟩
   refine sq (detn [(1, .ptr 0 0), (3, aI 0)] (by kernel_rfl) (bq ?_))
   refine loopF (fun mm t H => ∃ (y20 : Int), ref06_Right_l4 n a0 k6 mm y20 = some r ∧ t = mk 71 [(1, .ptr 0 0), (3, aI y20)] ∧ H = [.box [aS a0.fName, .pv (encSl R_api_Column a0.fCols)] false]) ⟨0, hm, rfl, rfl⟩ ?_ ?_
   · rintro _ _ ⟨y20, hm, _⟩; exact nomatch hm
   rintro m21 _ _ ⟨y20, hm, rfl, rfl⟩
   simp only [ref06_Right_l4] at hm
   refine sq (sq (rg (sh 3 [(23, .pv (encSl R_api_Column a0.fCols)), (22, .ptr 0 1), (21, aI y20)] (by kernel_rfl) (dv 24 (v := aI ((sll a0.fCols).length : Int)) (len_slO R_api_Column a0.fCols t22 (by kernel_rfl)) (by kernel_rfl) (sh 1 [(25, aB (decide (y20 < ((sll a0.fCols).length : Int))))] (by kernel_rfl) (fin [(1, .ptr 0 0), (3, aI y20), (25, aB (decide (y20 < ((sll a0.fCols).length : Int))))] rfl (by kernel_rfl) ?_))))))
   rcases bif_some hm with ⟨h22, hm⟩ | ⟨h22, hm⟩
   ·
    refine ct h22 (by kernel_rfl) (wp_skip (sq (bq (sq (rg (sh 3 [(30, aI y20), (29, .pv (encSl R_api_Column a0.fCols)), (28, .ptr 0 1)] (by kernel_rfl) ?_))))))
    obtain ⟨x23, h24, hm⟩ := bs hm
    refine dv 31 (v := .pv (.ptr (R_api_Column x23) 0)) (ia_slO R_api_Column a0.fCols .i64 t22 t72 h24 rfl (by kernel_rfl)) (by kernel_rfl) (sh 2 [(33, aS x23.fName), (32, .pv (.ptr (R_api_Column x23) 0))] (by kernel_rfl) ?_)
    obtain ⟨x25, h26, hm⟩ := bs hm
    refine dv 34 (cpure (by kernel_rfl) (ok_ref06_Name h26) (by kernel_rfl) (by kernel_rfl) (by kernel_rfl)) (by kernel_rfl) (sh 2 [(36, aB (!x25)), (35, aB (!x25))] (by kernel_rfl) ?_)
    refine seg (!x25) [36, 35] (fun b => [(44, aB (b || (decide (x23.fKind < 1)))), (43, ifA b (.undef) (aB (decide (x23.fKind < 1)))), (42, ifA b (.undef) (aI x23.fKind)), (41, ifA b (.undef) (.pv (.ptr (R_api_Column x23) 1))), (40, ifA b (.undef) (.pv (.ptr (R_api_Column x23) 0))), (39, ifA b (.undef) (aI y20)), (38, ifA b (.undef) (.pv (encSl R_api_Column a0.fCols))), (37, ifA b (.undef) (.ptr 0 1))]) 17 (by kernel_rfl) ?_ ?_ ?_
    ·
     intro Q h
     refine sh 8 [(44, aB true), (43, .undef), (42, .undef), (41, .undef), (40, .undef), (39, .undef), (38, .undef), (37, .undef)] (by kernel_rfl) ?_
     exact sameN (by kernel_rfl) (by kernel_rfl) h
    ·
     intro Q h
     refine sh 3 [(39, aI y20), (38, .pv (encSl R_api_Column a0.fCols)), (37, .ptr 0 1)] (by kernel_rfl) (dv 40 (v := .pv (.ptr (R_api_Column x23) 0)) (ia_slO R_api_Column a0.fCols .i64 t22 t72 h24 rfl (by kernel_rfl)) (by kernel_rfl) (sh 4 [(44, aB (decide (x23.fKind < 1))), (43, aB (decide (x23.fKind < 1))), (42, aI x23.fKind), (41, .pv (.ptr (R_api_Column x23) 1))] (by kernel_rfl) ?_))
     exact sameN (by kernel_rfl) (by kernel_rfl) h
    refine sh 1 [(45, aB ((!x25) || (decide (x23.fKind < 1))))] (by kernel_rfl) ?_
    refine seg ((!x25) || (decide (x23.fKind < 1))) [45, 44] (fun b => [(53, aB (b || (decide (x23.fKind > 4)))), (52, ifA b (.undef) (aB (decide (x23.fKind > 4)))), (51, ifA b (.undef) (aI x23.fKind)), (50, ifA b (.undef) (.pv (.ptr (R_api_Column x23) 1))), (49, ifA b (.undef) (.pv (.ptr (R_api_Column x23) 0))), (48, ifA b (.undef) (aI y20)), (47, ifA b (.undef) (.pv (encSl R_api_Column a0.fCols))), (46, ifA b (.undef) (.ptr 0 1))]) 26 (by kernel_rfl) ?_ ?_ ?_
    ·
     intro Q h
     refine sh 8 [(53, aB true), (52, .undef), (51, .undef), (50, .undef), (49, .undef), (48, .undef), (47, .undef), (46, .undef)] (by kernel_rfl) ?_
     exact sameN (by kernel_rfl) (by kernel_rfl) h
    ·
     intro Q h
     refine sh 3 [(48, aI y20), (47, .pv (encSl R_api_Column a0.fCols)), (46, .ptr 0 1)] (by kernel_rfl) (dv 49 (v := .pv (.ptr (R_api_Column x23) 0)) (ia_slO R_api_Column a0.fCols .i64 t22 t72 h24 rfl (by kernel_rfl)) (by kernel_rfl) (sh 4 [(53, aB (decide (x23.fKind > 4))), (52, aB (decide (x23.fKind > 4))), (51, aI x23.fKind), (50, .pv (.ptr (R_api_Column x23) 1))] (by kernel_rfl) ?_))
     exact sameN (by kernel_rfl) (by kernel_rfl) h
    refine fin [(1, .ptr 0 0), (3, aI y20), (53, aB (((!x25) || (decide (x23.fKind < 1))) || (decide (x23.fKind > 4))))] rfl (by kernel_rfl) ?_
    rcases bif_some hm with ⟨h27, hm⟩ | ⟨h27, hm⟩
    ·
     refine ct h27 (by kernel_rfl) (sq (detn [(2, aI 2)] (by kernel_rfl) (wp_ret ?_)))
     obtain rfl := Option.some.inj hm
     exact ⟨trivial, by kernel_rfl⟩
    ·
     refine cf h27 (by kernel_rfl) (wp_skip (detn [(1, .ptr 0 0), (3, aI (IntKind.wrap .i64 (y20 + 1)))] (by kernel_rfl) ?_))
     exact ⟨_, _, tidyL [(1, .ptr 0 0), (3, aI (IntKind.wrap .i64 (y20 + 1)))] [.box [aS a0.fName, .pv (encSl R_api_Column a0.fCols)] false] (by kernel_rfl), (IntKind.wrap .i64 (y20 + 1)), hm, rfl, rfl⟩
   ·
    refine cf h22 (by kernel_rfl) (wp_exit ?_)
    exact ⟨(decide (y20 < ((sll a0.fCols).length : Int))), y20, hm, rfl, rfl⟩
theorem ok_schema_Column_1 {n : Nat} {a0 : api_Column} {a1 : ByteArray} {r : Bool} (hm : schema_Column_1 n a0 a1 = some r) :
    call G n 47 [.agg [aS a0.fName, aI a0.fKind], .pv (.ptr [.str a1] 0)] [] = some (.ret (aB r), []) := by
  unfold schema_Column_1 at hm
  obtain ⟨n, rfl, h0⟩ := at1_some hm
  replace hm := h0; clear h0
  refine callL 8 [(0, .agg [aS a0.fName, aI a0.fKind]), (1, .pv (.ptr [.str a1] 0))] func47 rfl (by kernel_rfl) (sq (det [(1, .pv (.ptr [.str a1] 0)), (2, .ptr 0 0)] [.box [aS a0.fName, aI a0.fKind] false] (by kernel_rfl) (sq (detn [(3, aB (sEq a0.fName a1))] (by kernel_rfl) (wp_ret ?_)))))
  obtain rfl := Option.some.inj hm
  exact ⟨trivial, by kernel_rfl⟩
theorem ok_slices_IndexFunc_Column_schema_Column_1 {n : Nat} {a0 : (Option (List api_Column))} {a1 : ByteArray} {r : Int} (hm : slices_IndexFunc_Column_schema_Column_1 n a0 a1 = some r) :
    call G n 46 [.pv (encSl R_api_Column a0), .pv (.fn 47 [] [.ptr [.str a1] 0])] [] = some (.ret (aI r), []) := by
  unfold slices_IndexFunc_Column_schema_Column_1 at hm
  obtain ⟨n, rfl, h0⟩ := at1_some hm
  replace hm := h0; clear h0
  refine callL 19 [(0, .pv (encSl R_api_Column a0)), (1, .pv (.fn 47 [] [.ptr [.str a1] 0]))] func46 rfl (by kernel_rfl) (sq (detn [(0, .pv (encSl R_api_Column a0)), (1, .pv (.fn 47 [] [.ptr [.str a1] 0]))] (by kernel_rfl) ?_))
  obtain ⟨k3, hk3, hm⟩ := withK_some hm
  refine mid (fun t H => ∃ (y1 : Int) (y2 : Bool), k3 () = some r ∧ t = mk 19 [(0, .pv (encSl R_api_Column a0)), (1, .pv (.fn 47 [] [.ptr [.str a1] 0])), (7, aI ((sll a0).length : Int)), (8, aI y1), (9, aB y2)] ∧ H = []) ?_ ?_
  ·
   rintro _ _ ⟨y1, y2, hm, rfl, rfl⟩
   subst hk3
   refine sq (detn [(4, aI (-1))] (by kernel_rfl) (wp_ret ?_))
   obtain rfl := Option.some.inj hm
   exact ⟨trivial, by kernel_rfl⟩
  refine sq (rg (sh 1 [(6, .pv (encSl R_api_Column a0))] (by kernel_rfl) (dv 7 (v := aI ((sll a0).length : Int)) (len_slO R_api_Column a0 t22 (by kernel_rfl)) (by kernel_rfl) (sh 1 [(8, aI 0)] (by kernel_rfl) (fin [(0, .pv (encSl R_api_Column a0)), (1, .pv (.fn 47 [] [.ptr [.str a1] 0])), (7, aI ((sll a0).length : Int)), (8, aI 0)] rfl (by kernel_rfl) (bq ?_))))))
  refine loopF (fun mm t H => ∃ (y5 : Int), slices_IndexFunc_Column_schema_Column_1_l2 n a0 a1 k3 mm y5 = some r ∧ t = mk 19 [(0, .pv (encSl R_api_Column a0)), (1, .pv (.fn 47 [] [.ptr [.str a1] 0])), (7, aI ((sll a0).length : Int)), (8, aI y5)] ∧ H = []) ⟨0, hm, rfl, rfl⟩ ?_ ?_
  · rintro _ _ ⟨y5, hm, _⟩; exact nomatch hm
  rintro m6 _ _ ⟨y5, hm, rfl, rfl⟩
  simp only [slices_IndexFunc_Column_schema_Column_1_l2] at hm
  refine sq (detn [(0, .pv (encSl R_api_Column a0)), (1, .pv (.fn 47 [] [.ptr [.str a1] 0])), (7, aI ((sll a0).length : Int)), (8, aI y5), (9, aB (decide (y5 < ((sll a0).length : Int))))] (by kernel_rfl) ?_)
  refine sq ?_
  rcases bif_some hm with ⟨h7, hm⟩ | ⟨h7, hm⟩
  ·
   refine ct h7 (by kernel_rfl) (wp_skip (sq (bq (sq (detn [(0, .pv (encSl R_api_Column a0)), (1, .pv (.fn 47 [] [.ptr [.str a1] 0])), (5, aI y5), (7, aI ((sll a0).length : Int)), (8, aI y5)] (by kernel_rfl) (sq (rg (sh 3 [(13, aI y5), (12, .pv (encSl R_api_Column a0)), (11, .pv (.fn 47 [] [.ptr [.str a1] 0]))] (by kernel_rfl) ?_))))))))
   obtain ⟨x8, h9, hm⟩ := bs hm
   refine dv 14 (v := .pv (.ptr (R_api_Column x8) 0)) (ia_slO R_api_Column a0 .i64 t22 t72 h9 rfl (by kernel_rfl)) (by kernel_rfl) (sh 1 [(15, .agg [aS x8.fName, aI x8.fKind])] (by kernel_rfl) ?_)
   obtain ⟨x10, h11, hm⟩ := bs hm
   refine dv 16 (cpure (by kernel_rfl) (ok_schema_Column_1 h11) (by kernel_rfl) (by kernel_rfl) (by kernel_rfl)) (by kernel_rfl) (fin [(0, .pv (encSl R_api_Column a0)), (1, .pv (.fn 47 [] [.ptr [.str a1] 0])), (5, aI y5), (7, aI ((sll a0).length : Int)), (8, aI y5), (16, aB x10)] rfl (by kernel_rfl) ?_)
   rcases bif_some hm with ⟨h12, hm⟩ | ⟨h12, hm⟩
   ·
    refine ct h12 (by kernel_rfl) (sq (detn [(4, aI y5)] (by kernel_rfl) (wp_ret ?_)))
    obtain rfl := Option.some.inj hm
    exact ⟨trivial, by kernel_rfl⟩
   ·
    refine cf h12 (by kernel_rfl) (wp_skip (detn [(0, .pv (encSl R_api_Column a0)), (1, .pv (.fn 47 [] [.ptr [.str a1] 0])), (7, aI ((sll a0).length : Int)), (8, aI (IntKind.wrap .i64 (y5 + 1)))] (by kernel_rfl) ?_))
    exact ⟨_, _, tidyL [(0, .pv (encSl R_api_Column a0)), (1, .pv (.fn 47 [] [.ptr [.str a1] 0])), (7, aI ((sll a0).length : Int)), (8, aI (IntKind.wrap .i64 (y5 + 1)))] [] (by kernel_rfl), (IntKind.wrap .i64 (y5 + 1)), hm, rfl, rfl⟩
  ·
   refine cf h7 (by kernel_rfl) (wp_exit ?_)
   exact ⟨y5, (decide (y5 < ((sll a0).length : Int))), hm, rfl, rfl⟩
theorem ok_schema_Column {n : Nat} {a0 : api_Table} {a1 : ByteArray} {r : Int} (hm : schema_Column n a0 a1 = some r) :
    call G n 16 [.agg [aS a0.fName, .pv (encSl R_api_Column a0.fCols)], aS a1] [] = some (.ret (aI r), []) := by
  unfold schema_Column at hm
  obtain ⟨n, rfl, h0⟩ := at1_some hm
  replace hm := h0; clear h0
  refine callL 9 [(0, .agg [aS a0.fName, .pv (encSl R_api_Column a0.fCols)]), (1, aS a1)] func16 rfl (by kernel_rfl) (sq (det [(2, .ptr 0 0), (3, .ptr 1 0)] [.box [aS a0.fName, .pv (encSl R_api_Column a0.fCols)] false, .box [aS a1] false] (by kernel_rfl) (sq (rg (sh 3 [(7, .fn 47 [] [.ptr 1 0]), (6, .pv (encSl R_api_Column a0.fCols)), (5, .ptr 0 1)] (by kernel_rfl) ?_)))))
  obtain ⟨x1, h2, hm⟩ := bs hm
  refine dO [(8, aI x1)] [.box [aS a0.fName, .pv (encSl R_api_Column a0.fCols)] false, .box [aS a1] false] (cpureR [1] [.pv (encSl R_api_Column a0.fCols), .fn 47 [] [.ptr 1 0]] (fl := true) (by kernel_rfl) (by kernel_rfl) (by kernel_rfl) (ok_slices_IndexFunc_Column_schema_Column_1 h2) (by kernel_rfl) (by kernel_rfl)) (by kernel_rfl) (sh 1 [(4, aI x1)] (by kernel_rfl) (fin [(4, aI x1)] rfl (by kernel_rfl) (wp_ret ?_)))
  obtain rfl := Option.some.inj hm
  exact ⟨trivial, by kernel_rfl⟩
theorem ok_math_Signbit {n : Nat} {a0 : Nat} {r : Bool} (hm : math_Signbit n a0 = some r) :
    call G n 42 [aF a0] [] = some (.ret (aB r), []) := by
  unfold math_Signbit at hm
  obtain ⟨n, rfl, h0⟩ := at1_some hm
  replace hm := h0; clear h0
  refine callL 7 [(0, aF a0)] func42 rfl (by kernel_rfl) (sq (detn [(0, aF a0)] (by kernel_rfl) (sq (rg (sh 1 [(3, aF a0)] (by kernel_rfl) (sh 1 [(4, aU (a0 : Int))] (by kernel_rfl) (sh 3 [(2, aB (decide ((IntKind.wrap .i64 (a0 : Int)) < 0))), (6, aB (decide ((IntKind.wrap .i64 (a0 : Int)) < 0))), (5, aI (IntKind.wrap .i64 (a0 : Int)))] (by kernel_rfl) (fin [(2, aB (decide ((IntKind.wrap .i64 (a0 : Int)) < 0)))] rfl (by kernel_rfl) (wp_ret ?_)))))))))
  obtain rfl := Option.some.inj hm
  exact ⟨trivial, by kernel_rfl⟩
theorem ok_value_Right {n : Nat} {a0 : api_Value} {r : Bool} (hm : value_Right n a0 = some r) :
    call G n 61 [.agg [aI a0.fKind, aI a0.fInt, aF a0.fFloat, aS a0.fText]] [] = some (.ret (aB r), []) := by
  unfold value_Right at hm
  obtain ⟨n, rfl, h0⟩ := at1_some hm
  replace hm := h0; clear h0
  refine callL 70 [(0, .agg [aI a0.fKind, aI a0.fInt, aF a0.fFloat, aS a0.fText])] func61 rfl (by kernel_rfl) (sq (det [(1, .ptr 0 0)] [.box [aI a0.fKind, aI a0.fInt, aF a0.fFloat, aS a0.fText] false] (by kernel_rfl) ?_))
  obtain ⟨k2, hk2, hm⟩ := withK_some hm
  refine mid (fun t H => ∃ (y1 : Bool), k2 y1 = some r ∧ t = mk 70 [(1, .ptr 0 0), (3, aB y1)] ∧ H = [.box [aI a0.fKind, aI a0.fInt, aF a0.fFloat, aS a0.fText] false]) ?_ ?_
  ·
   rintro _ _ ⟨y1, hm, rfl, rfl⟩
   subst hk2
   refine sq (sq (detn [(1, .ptr 0 0), (3, aB y1), (14, aI a0.fKind)] (by kernel_rfl) (bq ?_)))
   refine sq (bq ?_)
   refine sq (bq ?_)
   obtain ⟨k6, hk6, hm⟩ := withK_some hm
   refine mid (fun t H => ∃ (w3 : AV) (w4 : AV) (w5 : AV), k6 () = some r ∧ t = mk 70 [(1, .ptr 0 0), (3, aB y1), (14, w3), (19, w4), (43, w5)] ∧ H = [.box [aI a0.fKind, aI a0.fInt, aF a0.fFloat, aS a0.fText] false]) ?_ ?_
   ·
    rintro _ _ ⟨w3, w4, w5, hm, rfl, rfl⟩
    subst hk6
    refine sq (sq (rg (sh 2 [(45, aB y1), (44, aB y1)] (by kernel_rfl) ?_)))
    refine seg y1 [45, 44, 3] (fun b => [(49, aB (b && (sEq a0.fText ByteArray.empty))), (48, ifA b (aB (sEq a0.fText ByteArray.empty)) (.undef)), (47, ifA b (aS a0.fText) (.undef)), (46, ifA b (.ptr 0 3) (.undef))]) 6 (by kernel_rfl) ?_ ?_ ?_
    ·
     intro Q h
     refine sh 4 [(49, aB (sEq a0.fText ByteArray.empty)), (48, aB (sEq a0.fText ByteArray.empty)), (47, aS a0.fText), (46, .ptr 0 3)] (by kernel_rfl) ?_
     exact sameN (by kernel_rfl) (by kernel_rfl) h
    ·
     intro Q h
     refine sh 4 [(49, aB false), (48, .undef), (47, .undef), (46, .undef)] (by kernel_rfl) ?_
     exact sameN (by kernel_rfl) (by kernel_rfl) h
    refine sh 1 [(2, aB (y1 && (sEq a0.fText ByteArray.empty)))] (by kernel_rfl) (fin [(2, aB (y1 && (sEq a0.fText ByteArray.empty)))] rfl (by kernel_rfl) (wp_ret ?_))
    obtain rfl := Option.some.inj hm
    exact ⟨trivial, by kernel_rfl⟩
   refine bq ?_
   refine sq (bq ?_)
   refine sq (bq (sq ?_))
   refine sq (sq (detn [(1, .ptr 0 0), (3, aB y1), (14, aI a0.fKind), (15, aB (a0.fKind == 0))] (by kernel_rfl) ?_))
   rcases bif_some hm with ⟨h7, hm⟩ | ⟨h7, hm⟩
   ·
    refine ct h7 (by kernel_rfl) (wp_exit (sq (sq (rg (sh 4 [(28, aB (a0.fInt == 0)), (27, aB (a0.fInt == 0)), (26, aI a0.fInt), (25, .ptr 0 1)] (by kernel_rfl) ?_)))))
    refine seg (a0.fInt == 0) [28, 27] (fun b => [(30, aB (b && y1)), (29, ifA b (aB y1) (.undef))]) 6 (by kernel_rfl) ?_ ?_ ?_
    ·
     intro Q h
     refine sh 2 [(30, aB y1), (29, aB y1)] (by kernel_rfl) ?_
     exact sameN (by kernel_rfl) (by kernel_rfl) h
    ·
     intro Q h
     refine sh 2 [(30, aB false), (29, .undef)] (by kernel_rfl) ?_
     exact sameN (by kernel_rfl) (by kernel_rfl) h
    refine sh 1 [(31, aB ((a0.fInt == 0) && y1))] (by kernel_rfl) ?_
    refine seg ((a0.fInt == 0) && y1) [31, 30] (fun b => [(35, aB (b && (sEq a0.fText ByteArray.empty))), (34, ifA b (aB (sEq a0.fText ByteArray.empty)) (.undef)), (33, ifA b (aS a0.fText) (.undef)), (32, ifA b (.ptr 0 3) (.undef))]) 11 (by kernel_rfl) ?_ ?_ ?_
    ·
     intro Q h
     refine sh 4 [(35, aB (sEq a0.fText ByteArray.empty)), (34, aB (sEq a0.fText ByteArray.empty)), (33, aS a0.fText), (32, .ptr 0 3)] (by kernel_rfl) ?_
     exact sameN (by kernel_rfl) (by kernel_rfl) h
    ·
     intro Q h
     refine sh 4 [(35, aB false), (34, .undef), (33, .undef), (32, .undef)] (by kernel_rfl) ?_
     exact sameN (by kernel_rfl) (by kernel_rfl) h
    refine sh 1 [(2, aB (((a0.fInt == 0) && y1) && (sEq a0.fText ByteArray.empty)))] (by kernel_rfl) (fin [(2, aB (((a0.fInt == 0) && y1) && (sEq a0.fText ByteArray.empty)))] rfl (by kernel_rfl) (wp_ret ?_))
    obtain rfl := Option.some.inj hm
    exact ⟨trivial, by kernel_rfl⟩
   ·
    refine cf h7 (by kernel_rfl) (wp_skip (sq (sq (detn [(1, .ptr 0 0), (3, aB y1), (14, aI a0.fKind), (17, aB (a0.fKind == 1))] (by kernel_rfl) ?_))))
    rcases bif_some hm with ⟨h8, hm⟩ | ⟨h8, hm⟩
    ·
     refine ct h8 (by kernel_rfl) (wp_exit (sq (rg (sh 4 [(39, aB (a0.fInt != 0)), (38, aB (a0.fInt != 0)), (37, aI a0.fInt), (36, .ptr 0 1)] (by kernel_rfl) ?_))))
     refine seg (a0.fInt != 0) [39, 38] (fun b => [(43, aB (b && (a0.fInt != 1))), (42, ifA b (aB (a0.fInt != 1)) (.undef)), (41, ifA b (aI a0.fInt) (.undef)), (40, ifA b (.ptr 0 1) (.undef))]) 8 (by kernel_rfl) ?_ ?_ ?_
     ·
      intro Q h
      refine sh 4 [(43, aB (a0.fInt != 1)), (42, aB (a0.fInt != 1)), (41, aI a0.fInt), (40, .ptr 0 1)] (by kernel_rfl) ?_
      exact sameN (by kernel_rfl) (by kernel_rfl) h
     ·
      intro Q h
      refine sh 4 [(43, aB false), (42, .undef), (41, .undef), (40, .undef)] (by kernel_rfl) ?_
      exact sameN (by kernel_rfl) (by kernel_rfl) h
     refine fin [(1, .ptr 0 0), (3, aB y1), (43, aB ((a0.fInt != 0) && (a0.fInt != 1)))] rfl (by kernel_rfl) ?_
     rcases bif_some hm with ⟨h9, hm⟩ | ⟨h9, hm⟩
     ·
      refine ct h9 (by kernel_rfl) (sq (detn [(2, aB false)] (by kernel_rfl) (wp_ret ?_)))
      obtain rfl := Option.some.inj hm
      exact ⟨trivial, by kernel_rfl⟩
     ·
      refine cf h9 (by kernel_rfl) (wp_skip ?_)
      exact ⟨.any, .any, aB ((a0.fInt != 0) && (a0.fInt != 1)), hm, by rw [mk_same (by kernel_rfl)], rfl⟩
    ·
     refine cf h8 (by kernel_rfl) (wp_skip (sq (sq (detn [(1, .ptr 0 0), (3, aB y1), (14, aI a0.fKind), (19, aB (a0.fKind == 2))] (by kernel_rfl) ?_))))
     rcases bif_some hm with ⟨h10, hm⟩ | ⟨h10, hm⟩
     ·
      refine ct h10 (by kernel_rfl) (wp_exit ?_)
      exact ⟨aI a0.fKind, aB (a0.fKind == 2), .any, hm, by rw [mk_same (by kernel_rfl)], rfl⟩
     ·
      refine cf h10 (by kernel_rfl) (wp_skip (sq (sq (detn [(1, .ptr 0 0), (3, aB y1), (14, aI a0.fKind), (21, aB (a0.fKind == 3))] (by kernel_rfl) ?_))))
      rcases bif_some hm with ⟨h11, hm⟩ | ⟨h11, hm⟩
      ·
       refine ct h11 (by kernel_rfl) (wp_exit (sq (sq (rg (sh 4 [(53, aB (a0.fInt == 0)), (52, aB (a0.fInt == 0)), (51, aI a0.fInt), (50, .ptr 0 1)] (by kernel_rfl) ?_)))))
       refine seg (a0.fInt == 0) [53, 52] (fun b => [(57, aB (b && (sEq a0.fText ByteArray.empty))), (56, ifA b (aB (sEq a0.fText ByteArray.empty)) (.undef)), (55, ifA b (aS a0.fText) (.undef)), (54, ifA b (.ptr 0 3) (.undef))]) 8 (by kernel_rfl) ?_ ?_ ?_
       ·
        intro Q h
        refine sh 4 [(57, aB (sEq a0.fText ByteArray.empty)), (56, aB (sEq a0.fText ByteArray.empty)), (55, aS a0.fText), (54, .ptr 0 3)] (by kernel_rfl) ?_
        exact sameN (by kernel_rfl) (by kernel_rfl) h
       ·
        intro Q h
        refine sh 4 [(57, aB false), (56, .undef), (55, .undef), (54, .undef)] (by kernel_rfl) ?_
        exact sameN (by kernel_rfl) (by kernel_rfl) h
       refine sh 1 [(2, aB ((a0.fInt == 0) && (sEq a0.fText ByteArray.empty)))] (by kernel_rfl) (fin [(2, aB ((a0.fInt == 0) && (sEq a0.fText ByteArray.empty)))] rfl (by kernel_rfl) (wp_ret ?_))
       obtain rfl := Option.some.inj hm
       exact ⟨trivial, by kernel_rfl⟩
      ·
       refine cf h11 (by kernel_rfl) (wp_skip (sq (detn [(1, .ptr 0 0), (3, aB y1), (23, aB (a0.fKind == 4))] (by kernel_rfl) ?_)))
       rcases bif_some hm with ⟨h12, hm⟩ | ⟨h12, hm⟩
       ·
        refine ct h12 (by kernel_rfl) (wp_exit (sq (sq (rg (sh 4 [(61, aB (a0.fInt == 0)), (60, aB (a0.fInt == 0)), (59, aI a0.fInt), (58, .ptr 0 1)] (by kernel_rfl) ?_)))))
        refine seg (a0.fInt == 0) [61, 60] (fun b => [(63, aB (b && y1)), (62, ifA b (aB y1) (.undef))]) 6 (by kernel_rfl) ?_ ?_ ?_
        ·
         intro Q h
         refine sh 2 [(63, aB y1), (62, aB y1)] (by kernel_rfl) ?_
         exact sameN (by kernel_rfl) (by kernel_rfl) h
        ·
         intro Q h
         refine sh 2 [(63, aB false), (62, .undef)] (by kernel_rfl) ?_
         exact sameN (by kernel_rfl) (by kernel_rfl) h
        refine sh 1 [(64, aB ((a0.fInt == 0) && y1))] (by kernel_rfl) ?_
        refine seg ((a0.fInt == 0) && y1) [64, 63] (fun b => [(69, aB (b && (decide ((a0.fText.size : Int) ≤ 64)))), (68, ifA b (aB (decide ((a0.fText.size : Int) ≤ 64))) (.undef)), (67, ifA b (aI (a0.fText.size : Int)) (.undef)), (66, ifA b (aS a0.fText) (.undef)), (65, ifA b (.ptr 0 3) (.undef))]) 12 (by kernel_rfl) ?_ ?_ ?_
        ·
         intro Q h
         refine sh 5 [(69, aB (decide ((a0.fText.size : Int) ≤ 64))), (68, aB (decide ((a0.fText.size : Int) ≤ 64))), (67, aI (a0.fText.size : Int)), (66, aS a0.fText), (65, .ptr 0 3)] (by kernel_rfl) ?_
         exact sameN (by kernel_rfl) (by kernel_rfl) h
        ·
         intro Q h
         refine sh 5 [(69, aB false), (68, .undef), (67, .undef), (66, .undef), (65, .undef)] (by kernel_rfl) ?_
         exact sameN (by kernel_rfl) (by kernel_rfl) h
        refine sh 1 [(2, aB (((a0.fInt == 0) && y1) && (decide ((a0.fText.size : Int) ≤ 64))))] (by kernel_rfl) (fin [(2, aB (((a0.fInt == 0) && y1) && (decide ((a0.fText.size : Int) ≤ 64))))] rfl (by kernel_rfl) (wp_ret ?_))
        obtain rfl := Option.some.inj hm
        exact ⟨trivial, by kernel_rfl⟩
       ·
        refine cf h12 (by kernel_rfl) (wp_skip (wp_exit (sq (detn [(2, aB false)] (by kernel_rfl) (wp_ret ?_)))))
        obtain rfl := Option.some.inj hm
        exact ⟨trivial, by kernel_rfl⟩
  refine rg (sh 4 [(7, aB ((FloatKind.format .f64).order a0.fFloat 0 == some .eq)), (6, aB ((FloatKind.format .f64).order a0.fFloat 0 == some .eq)), (5, aF a0.fFloat), (4, .ptr 0 2)] (by kernel_rfl) ?_)
  rcases bif_some hm with ⟨h13, hm⟩ | ⟨h13, hm⟩
  ·
   refine known [7, 6] h13 (by kernel_rfl) (sh 2 [(9, aF a0.fFloat), (8, .ptr 0 2)] (by kernel_rfl) ?_)
   obtain ⟨x14, h15, hm⟩ := bs hm
   refine dv 10 (cpure (by kernel_rfl) (ok_math_Signbit h15) (by kernel_rfl) (by kernel_rfl) (by kernel_rfl)) (by kernel_rfl) (sh 3 [(3, aB (!x14)), (12, aB (!x14)), (11, aB (!x14))] (by kernel_rfl) (fin [(1, .ptr 0 0), (3, aB (!x14))] rfl (by kernel_rfl) ?_))
   exact ⟨(!x14), hm, rfl, rfl⟩
  ·
   refine known [7, 6] h13 (by kernel_rfl) (sh 6 [(3, aB false), (12, aB false), (11, .undef), (10, .undef), (9, .undef), (8, .undef)] (by kernel_rfl) (fin [(1, .ptr 0 0), (3, aB false)] rfl (by kernel_rfl) ?_))
   exact ⟨false, hm, rfl, rfl⟩
theorem ok_row_Right_1 {n : Nat} {a0 : api_Value} {r : Bool} (hm : row_Right_1 n a0 = some r) :
    call G n 60 [.agg [aI a0.fKind, aI a0.fInt, aF a0.fFloat, aS a0.fText]] [] = some (.ret (aB r), []) := by
  unfold row_Right_1 at hm
  obtain ⟨n, rfl, h0⟩ := at1_some hm
  replace hm := h0; clear h0
  refine callL 6 [(0, .agg [aI a0.fKind, aI a0.fInt, aF a0.fFloat, aS a0.fText])] func60 rfl (by kernel_rfl) (sq (det [(1, .ptr 0 0)] [.box [aI a0.fKind, aI a0.fInt, aF a0.fFloat, aS a0.fText] false] (by kernel_rfl) (sq (rg (sh 1 [(3, .agg [aI a0.fKind, aI a0.fInt, aF a0.fFloat, aS a0.fText])] (by kernel_rfl) ?_)))))
  obtain ⟨x1, h2, hm⟩ := bs hm
  refine dv 4 (cpure (by kernel_rfl) (ok_value_Right h2) (by kernel_rfl) (by kernel_rfl) (by kernel_rfl)) (by kernel_rfl) (sh 2 [(2, aB (!x1)), (5, aB (!x1))] (by kernel_rfl) (fin [(2, aB (!x1))] rfl (by kernel_rfl) (wp_ret ?_)))
  obtain rfl := Option.some.inj hm
  exact ⟨trivial, by kernel_rfl⟩
theorem ok_slices_IndexFunc_Value_row_Right_1 {n : Nat} {a0 : (Option (List api_Value))} {r : Int} (hm : slices_IndexFunc_Value_row_Right_1 n a0 = some r) :
    call G n 63 [.pv (encSl R_api_Value a0), .pv (.fn 60 [] [])] [] = some (.ret (aI r), []) := by
  unfold slices_IndexFunc_Value_row_Right_1 at hm
  obtain ⟨n, rfl, h0⟩ := at1_some hm
  replace hm := h0; clear h0
  refine callL 19 [(0, .pv (encSl R_api_Value a0)), (1, .pv (.fn 60 [] []))] func63 rfl (by kernel_rfl) (sq (detn [(0, .pv (encSl R_api_Value a0)), (1, .pv (.fn 60 [] []))] (by kernel_rfl) ?_))
  obtain ⟨k3, hk3, hm⟩ := withK_some hm
  refine mid (fun t H => ∃ (y1 : Int) (y2 : Bool), k3 () = some r ∧ t = mk 19 [(0, .pv (encSl R_api_Value a0)), (1, .pv (.fn 60 [] [])), (7, aI ((sll a0).length : Int)), (8, aI y1), (9, aB y2)] ∧ H = []) ?_ ?_
  ·
   rintro _ _ ⟨y1, y2, hm, rfl, rfl⟩
   subst hk3
   refine sq (detn [(4, aI (-1))] (by kernel_rfl) (wp_ret ?_))
   obtain rfl := Option.some.inj hm
   exact ⟨trivial, by kernel_rfl⟩
  refine sq (rg (sh 1 [(6, .pv (encSl R_api_Value a0))] (by kernel_rfl) (dv 7 (v := aI ((sll a0).length : Int)) (len_slO R_api_Value a0 t25 (by kernel_rfl)) (by kernel_rfl) (sh 1 [(8, aI 0)] (by kernel_rfl) (fin [(0, .pv (encSl R_api_Value a0)), (1, .pv (.fn 60 [] [])), (7, aI ((sll a0).length : Int)), (8, aI 0)] rfl (by kernel_rfl) (bq ?_))))))
  refine loopF (fun mm t H => ∃ (y5 : Int), slices_IndexFunc_Value_row_Right_1_l2 n a0 k3 mm y5 = some r ∧ t = mk 19 [(0, .pv (encSl R_api_Value a0)), (1, .pv (.fn 60 [] [])), (7, aI ((sll a0).length : Int)), (8, aI y5)] ∧ H = []) ⟨0, hm, rfl, rfl⟩ ?_ ?_
  · rintro _ _ ⟨y5, hm, _⟩; exact nomatch hm
  rintro m6 _ _ ⟨y5, hm, rfl, rfl⟩
  simp only [slices_IndexFunc_Value_row_Right_1_l2] at hm
  refine sq (detn [(0, .pv (encSl R_api_Value a0)), (1, .pv (.fn 60 [] [])), (7, aI ((sll a0).length : Int)), (8, aI y5), (9, aB (decide (y5 < ((sll a0).length : Int))))] (by kernel_rfl) ?_)
  refine sq ?_
  rcases bif_some hm with ⟨h7, hm⟩ | ⟨h7, hm⟩
  ·
   refine ct h7 (by kernel_rfl) (wp_skip (sq (bq (sq (detn [(0, .pv (encSl R_api_Value a0)), (1, .pv (.fn 60 [] [])), (5, aI y5), (7, aI ((sll a0).length : Int)), (8, aI y5)] (by kernel_rfl) (sq (rg (sh 3 [(13, aI y5), (12, .pv (encSl R_api_Value a0)), (11, .pv (.fn 60 [] []))] (by kernel_rfl) ?_))))))))
   obtain ⟨x8, h9, hm⟩ := bs hm
   refine dv 14 (v := .pv (.ptr (R_api_Value x8) 0)) (ia_slO R_api_Value a0 .i64 t25 t79 h9 rfl (by kernel_rfl)) (by kernel_rfl) (sh 1 [(15, .agg [aI x8.fKind, aI x8.fInt, aF x8.fFloat, aS x8.fText])] (by kernel_rfl) ?_)
   obtain ⟨x10, h11, hm⟩ := bs hm
   refine dv 16 (cpure (by kernel_rfl) (ok_row_Right_1 h11) (by kernel_rfl) (by kernel_rfl) (by kernel_rfl)) (by kernel_rfl) (fin [(0, .pv (encSl R_api_Value a0)), (1, .pv (.fn 60 [] [])), (5, aI y5), (7, aI ((sll a0).length : Int)), (8, aI y5), (16, aB x10)] rfl (by kernel_rfl) ?_)
   rcases bif_some hm with ⟨h12, hm⟩ | ⟨h12, hm⟩
   ·
    refine ct h12 (by kernel_rfl) (sq (detn [(4, aI y5)] (by kernel_rfl) (wp_ret ?_)))
    obtain rfl := Option.some.inj hm
    exact ⟨trivial, by kernel_rfl⟩
   ·
    refine cf h12 (by kernel_rfl) (wp_skip (detn [(0, .pv (encSl R_api_Value a0)), (1, .pv (.fn 60 [] [])), (7, aI ((sll a0).length : Int)), (8, aI (IntKind.wrap .i64 (y5 + 1)))] (by kernel_rfl) ?_))
    exact ⟨_, _, tidyL [(0, .pv (encSl R_api_Value a0)), (1, .pv (.fn 60 [] [])), (7, aI ((sll a0).length : Int)), (8, aI (IntKind.wrap .i64 (y5 + 1)))] [] (by kernel_rfl), (IntKind.wrap .i64 (y5 + 1)), hm, rfl, rfl⟩
  ·
   refine cf h7 (by kernel_rfl) (wp_exit ?_)
   exact ⟨y5, (decide (y5 < ((sll a0).length : Int))), hm, rfl, rfl⟩
theorem ok_slices_ContainsFunc_Value_row_Right_1 {n : Nat} {a0 : (Option (List api_Value))} {r : Bool} (hm : slices_ContainsFunc_Value_row_Right_1 n a0 = some r) :
    call G n 59 [.pv (encSl R_api_Value a0), .pv (.fn 60 [] [])] [] = some (.ret (aB r), []) := by
  unfold slices_ContainsFunc_Value_row_Right_1 at hm
  obtain ⟨n, rfl, h0⟩ := at1_some hm
  replace hm := h0; clear h0
  refine callL 9 [(0, .pv (encSl R_api_Value a0)), (1, .pv (.fn 60 [] []))] func59 rfl (by kernel_rfl) (sq (detn [(0, .pv (encSl R_api_Value a0)), (1, .pv (.fn 60 [] []))] (by kernel_rfl) (sq (rg (sh 2 [(6, .pv (.fn 60 [] [])), (5, .pv (encSl R_api_Value a0))] (by kernel_rfl) ?_)))))
  obtain ⟨x1, h2, hm⟩ := bs hm
  refine dv 7 (cpure (by kernel_rfl) (ok_slices_IndexFunc_Value_row_Right_1 h2) (by kernel_rfl) (by kernel_rfl) (by kernel_rfl)) (by kernel_rfl) (sh 2 [(4, aB (decide (x1 ≥ 0))), (8, aB (decide (x1 ≥ 0)))] (by kernel_rfl) (fin [(4, aB (decide (x1 ≥ 0)))] rfl (by kernel_rfl) (wp_ret ?_)))
  obtain rfl := Option.some.inj hm
  exact ⟨trivial, by kernel_rfl⟩
theorem ok_row_Right {n : Nat} {a0 : (Option (List api_Value))} {r : Bool} (hm : row_Right n a0 = some r) :
    call G n 48 [.pv (encSl R_api_Value a0)] [] = some (.ret (aB r), []) := by
  unfold row_Right at hm
  obtain ⟨n, rfl, h0⟩ := at1_some hm
  replace hm := h0; clear h0
  refine callL 11 [(0, .pv (encSl R_api_Value a0))] func48 rfl (by kernel_rfl) (sq (detn [(0, .pv (encSl R_api_Value a0))] (by kernel_rfl) (sq (rg (sh 1 [(3, .pv (encSl R_api_Value a0))] (by kernel_rfl) (dv 4 (v := aI ((sll a0).length : Int)) (len_slO R_api_Value a0 t25 (by kernel_rfl)) (by kernel_rfl) (sh 2 [(6, aB (decide (((sll a0).length : Int) ≤ 200))), (5, aB (decide (((sll a0).length : Int) ≤ 200)))] (by kernel_rfl) ?_)))))))
  rcases bif_some hm with ⟨h1, hm⟩ | ⟨h1, hm⟩
  ·
   refine known [6, 5] h1 (by kernel_rfl) (sh 1 [(7, .pv (encSl R_api_Value a0))] (by kernel_rfl) ?_)
   obtain ⟨x2, h3, hm⟩ := bs hm
   refine dv 8 (cpure (by kernel_rfl) (ok_slices_ContainsFunc_Value_row_Right_1 h3) (by kernel_rfl) (by kernel_rfl) (by kernel_rfl)) (by kernel_rfl) (sh 3 [(2, aB (!x2)), (10, aB (!x2)), (9, aB (!x2))] (by kernel_rfl) (fin [(2, aB (!x2))] rfl (by kernel_rfl) (wp_ret ?_)))
   obtain rfl := Option.some.inj hm
   exact ⟨trivial, by kernel_rfl⟩
  ·
   refine known [6, 5] h1 (by kernel_rfl) (sh 5 [(2, aB false), (10, aB false), (9, .undef), (8, .undef), (7, .undef)] (by kernel_rfl) (fin [(2, aB false)] rfl (by kernel_rfl) (wp_ret ?_)))
   obtain rfl := Option.some.inj hm
   exact ⟨trivial, by kernel_rfl⟩
theorem ok_schema_Fits {n : Nat} {a0 : api_Table} {a1 : (Option (List api_Value))} {r : Bool} (hm : schema_Fits n a0 a1 = some r) :
    call G n 18 [.agg [aS a0.fName, .pv (encSl R_api_Column a0.fCols)], .pv (encSl R_api_Value a1)] [] = some (.ret (aB r), []) := by
  unfold schema_Fits at hm
  obtain ⟨n, rfl, h0⟩ := at1_some hm
  replace hm := h0; clear h0
  refine callL 40 [(0, .agg [aS a0.fName, .pv (encSl R_api_Column a0.fCols)]), (1, .pv (encSl R_api_Value a1))] func18 rfl (by kernel_rfl) (sq (det [(1, .pv (encSl R_api_Value a1)), (2, .ptr 0 0)] [.box [aS a0.fName, .pv (encSl R_api_Column a0.fCols)] false] (by kernel_rfl) ?_))
  refine sq (sq (rg (sh 1 [(7, .pv (encSl R_api_Value a1))] (by kernel_rfl) (dv 8 (v := aI ((sll a1).length : Int)) (len_slO R_api_Value a1 t25 (by kernel_rfl)) (by kernel_rfl) (sh 2 [(10, .pv (encSl R_api_Column a0.fCols)), (9, .ptr 0 1)] (by kernel_rfl) (dv 11 (v := aI ((sll a0.fCols).length : Int)) (len_slO R_api_Column a0.fCols t22 (by kernel_rfl)) (by kernel_rfl) (sh 2 [(13, aB (((sll a1).length : Int) != ((sll a0.fCols).length : Int))), (12, aB (((sll a1).length : Int) != ((sll a0.fCols).length : Int)))] (by kernel_rfl) ?_)))))))
  rcases bif_some hm with ⟨h1, hm⟩ | ⟨h1, hm⟩
  ·
   refine known [13, 12] h1 (by kernel_rfl) (sh 4 [(17, aB true), (16, .undef), (15, .undef), (14, .undef)] (by kernel_rfl) (fin [(1, .pv (encSl R_api_Value a1)), (2, .ptr 0 0), (17, aB true)] rfl (by kernel_rfl) (cT (by kernel_rfl) (sq (detn [(4, aB false)] (by kernel_rfl) (wp_ret ?_))))))
   obtain rfl := Option.some.inj hm
   exact ⟨trivial, by kernel_rfl⟩
  ·
   refine known [13, 12] h1 (by kernel_rfl) (sh 1 [(14, .pv (encSl R_api_Value a1))] (by kernel_rfl) ?_)
   obtain ⟨x2, h3, hm⟩ := bs hm
   refine dv 15 (cpure (by kernel_rfl) (ok_row_Right h3) (by kernel_rfl) (by kernel_rfl) (by kernel_rfl)) (by kernel_rfl) (sh 2 [(17, aB (!x2)), (16, aB (!x2))] (by kernel_rfl) (fin [(1, .pv (encSl R_api_Value a1)), (2, .ptr 0 0), (17, aB (!x2))] rfl (by kernel_rfl) ?_))
   rcases bif_some hm with ⟨h4, hm⟩ | ⟨h4, hm⟩
   ·
    refine ct h4 (by kernel_rfl) (sq (detn [(4, aB false)] (by kernel_rfl) (wp_ret ?_)))
    obtain rfl := Option.some.inj hm
    exact ⟨trivial, by kernel_rfl⟩
   ·
    refine cf h4 (by kernel_rfl) (wp_skip ?_)
    obtain ⟨k7, hk7, hm⟩ := withK_some hm
    refine mid (fun t H => ∃ (y5 : Int) (y6 : Bool), k7 () = some r ∧ t = mk 40 [(2, .ptr 0 0), (18, .pv (encSl R_api_Value a1)), (19, aI ((sll a1).length : Int)), (20, aI y5), (21, aB y6)] ∧ H = [.box [aS a0.fName, .pv (encSl R_api_Column a0.fCols)] false]) ?_ ?_
    ·
     rintro _ _ ⟨y5, y6, hm, rfl, rfl⟩
     subst hk7
     refine sq (detn [(4, aB true)] (by kernel_rfl) (wp_ret ?_))
     obtain rfl := Option.some.inj hm
     exact ⟨trivial, by kernel_rfl⟩
    refine sq (rg (sh 1 [(18, .pv (encSl R_api_Value a1))] (by kernel_rfl) (dv 19 (v := aI ((sll a1).length : Int)) (len_slO R_api_Value a1 t25 (by kernel_rfl)) (by kernel_rfl) (sh 1 [(20, aI 0)] (by kernel_rfl) (fin [(2, .ptr 0 0), (18, .pv (encSl R_api_Value a1)), (19, aI ((sll a1).length : Int)), (20, aI 0)] rfl (by kernel_rfl) (bq ?_))))))
    refine loopF (fun mm t H => ∃ (y9 : Int), schema_Fits_l4 n a0 a1 k7 mm y9 = some r ∧ t = mk 40 [(2, .ptr 0 0), (18, .pv (encSl R_api_Value a1)), (19, aI ((sll a1).length : Int)), (20, aI y9)] ∧ H = [.box [aS a0.fName, .pv (encSl R_api_Column a0.fCols)] false]) ⟨0, hm, rfl, rfl⟩ ?_ ?_
    · rintro _ _ ⟨y9, hm, _⟩; exact nomatch hm
    rintro m10 _ _ ⟨y9, hm, rfl, rfl⟩
    simp only [schema_Fits_l4] at hm
    refine sq (detn [(2, .ptr 0 0), (18, .pv (encSl R_api_Value a1)), (19, aI ((sll a1).length : Int)), (20, aI y9), (21, aB (decide (y9 < ((sll a1).length : Int))))] (by kernel_rfl) ?_)
    refine sq ?_
    rcases bif_some hm with ⟨h11, hm⟩ | ⟨h11, hm⟩
    ·
     refine ct h11 (by kernel_rfl) (wp_skip (sq (bq (sq (rg (sh 1 [(22, aI y9)] (by kernel_rfl) ?_))))))
     obtain ⟨x12, h13, hm⟩ := bs hm
     refine dv 23 (v := .pv (.ptr (R_api_Value x12) 0)) (ia_slO R_api_Value a1 .i64 t25 t79 h13 rfl (by kernel_rfl)) (by kernel_rfl) (st 4 [(5, aI y9), (6, .ptr 1 0), (24, .agg [aI x12.fKind, aI x12.fInt, aF x12.fFloat, aS x12.fText])] [.box [aS a0.fName, .pv (encSl R_api_Column a0.fCols)] false, .box [aI x12.fKind, aI x12.fInt, aF x12.fFloat, aS x12.fText] false] (by kernel_rfl) (fin [(2, .ptr 0 0), (5, aI y9), (6, .ptr 1 0), (18, .pv (encSl R_api_Value a1)), (19, aI ((sll a1).length : Int)), (20, aI y9)] rfl (by kernel_rfl) (sq (rgd (shd 4 [(28, aB (x12.fKind != 0)), (27, aB (x12.fKind != 0)), (26, aI x12.fKind), (25, .ptr 1 0)] (by kernel_rfl) ?_)))))
     rcases bif_some hm with ⟨h14, hm⟩ | ⟨h14, hm⟩
     ·
      refine knownd [28, 27] h14 (by kernel_rfl) (shd 5 [(33, aI y9), (32, .pv (encSl R_api_Column a0.fCols)), (31, .ptr 0 1), (30, aI x12.fKind), (29, .ptr 1 0)] (by kernel_rfl) ?_)
      obtain ⟨x15, h16, hm⟩ := bs hm
      refine dvd 34 (v := .pv (.ptr (R_api_Column x15) 0)) (ia_slO R_api_Column a0.fCols .i64 t22 t72 h16 rfl (by kernel_rfl)) (by kernel_rfl) (shd 4 [(38, aB (x12.fKind != x15.fKind)), (37, aB (x12.fKind != x15.fKind)), (36, aI x15.fKind), (35, .pv (.ptr (R_api_Column x15) 1))] (by kernel_rfl) (find [(2, .ptr 0 0), (18, .pv (encSl R_api_Value a1)), (19, aI ((sll a1).length : Int)), (20, aI y9), (38, aB (x12.fKind != x15.fKind))] rfl (by kernel_rfl) (by kernel_rfl) ?_))
      rcases bif_some hm with ⟨h17, hm⟩ | ⟨h17, hm⟩
      ·
       refine ct h17 (by kernel_rfl) (sq (detn [(4, aB false)] (by kernel_rfl) (wp_ret ?_)))
       obtain rfl := Option.some.inj hm
       exact ⟨trivial, by kernel_rfl⟩
      ·
       refine cf h17 (by kernel_rfl) (wp_skip (detn [(2, .ptr 0 0), (18, .pv (encSl R_api_Value a1)), (19, aI ((sll a1).length : Int)), (20, aI (IntKind.wrap .i64 (y9 + 1)))] (by kernel_rfl) ?_))
       exact ⟨_, _, tidyL [(2, .ptr 0 0), (18, .pv (encSl R_api_Value a1)), (19, aI ((sll a1).length : Int)), (20, aI (IntKind.wrap .i64 (y9 + 1)))] [.box [aS a0.fName, .pv (encSl R_api_Column a0.fCols)] false] (by kernel_rfl), (IntKind.wrap .i64 (y9 + 1)), hm, rfl, rfl⟩
     ·
      refine knownd [28, 27] h14 (by kernel_rfl) (shd 10 [(38, aB false), (37, .undef), (36, .undef), (35, .undef), (34, .undef), (33, .undef), (32, .undef), (31, .undef), (30, .undef), (29, .undef)] (by kernel_rfl) (find [(2, .ptr 0 0), (18, .pv (encSl R_api_Value a1)), (19, aI ((sll a1).length : Int)), (20, aI y9), (38, aB false)] rfl (by kernel_rfl) (by kernel_rfl) (cF (by kernel_rfl) (wp_skip (detn [(2, .ptr 0 0), (18, .pv (encSl R_api_Value a1)), (19, aI ((sll a1).length : Int)), (20, aI (IntKind.wrap .i64 (y9 + 1)))] (by kernel_rfl) ?_)))))
      exact ⟨_, _, tidyL [(2, .ptr 0 0), (18, .pv (encSl R_api_Value a1)), (19, aI ((sll a1).length : Int)), (20, aI (IntKind.wrap .i64 (y9 + 1)))] [.box [aS a0.fName, .pv (encSl R_api_Column a0.fCols)] false] (by kernel_rfl), (IntKind.wrap .i64 (y9 + 1)), hm, rfl, rfl⟩
    ·
     refine cf h11 (by kernel_rfl) (wp_exit ?_)
     exact ⟨y9, (decide (y9 < ((sll a1).length : Int))), hm, rfl, rfl⟩
theorem ok_ref04_zero {n : Nat} {a0 : Nat} {r : Bool} (hm : ref04_zero n a0 = some r) :
    call G n 62 [aF a0] [] = some (.ret (aB r), []) := by
  unfold ref04_zero at hm
  obtain ⟨n, rfl, h0⟩ := at1_some hm
  replace hm := h0; clear h0
  refine callL 10 [(0, aF a0)] func62 rfl (by kernel_rfl) (sq (detn [(0, aF a0)] (by kernel_rfl) (sq (rg (sh 3 [(5, aB ((FloatKind.format .f64).order a0 0 == some .eq)), (4, aB ((FloatKind.format .f64).order a0 0 == some .eq)), (3, aF a0)] (by kernel_rfl) ?_)))))
  rcases bif_some hm with ⟨h1, hm⟩ | ⟨h1, hm⟩
  ·
   refine known [5, 4] h1 (by kernel_rfl) (sh 1 [(6, aF a0)] (by kernel_rfl) ?_)
   obtain ⟨x2, h3, hm⟩ := bs hm
   refine dv 7 (v := aF x2) (flt_arith h3 (by kernel_rfl)) (by kernel_rfl) (sh 3 [(2, aB ((FloatKind.format .f64).order x2 0 == some .gt)), (9, aB ((FloatKind.format .f64).order x2 0 == some .gt)), (8, aB ((FloatKind.format .f64).order x2 0 == some .gt))] (by kernel_rfl) (fin [(2, aB ((FloatKind.format .f64).order x2 0 == some .gt))] rfl (by kernel_rfl) (wp_ret ?_)))
   obtain rfl := Option.some.inj hm
   exact ⟨trivial, by kernel_rfl⟩
  ·
   refine known [5, 4] h1 (by kernel_rfl) (sh 5 [(2, aB false), (9, aB false), (8, .undef), (7, .undef), (6, .undef)] (by kernel_rfl) (fin [(2, aB false)] rfl (by kernel_rfl) (wp_ret ?_)))
   obtain rfl := Option.some.inj hm
   exact ⟨trivial, by kernel_rfl⟩
theorem ok_ref04_Right {n : Nat} {a0 : api_Value} {r : Bool} (hm : ref04_Right n a0 = some r) :
    call G n 49 [.agg [aI a0.fKind, aI a0.fInt, aF a0.fFloat, aS a0.fText]] [] = some (.ret (aB r), []) := by
  unfold ref04_Right at hm
  obtain ⟨n, rfl, h0⟩ := at1_some hm
  replace hm := h0; clear h0
  refine callL 76 [(0, .agg [aI a0.fKind, aI a0.fInt, aF a0.fFloat, aS a0.fText])] func49 rfl (by kernel_rfl) (sq (det [(1, .ptr 0 0)] [.box [aI a0.fKind, aI a0.fInt, aF a0.fFloat, aS a0.fText] false] (by kernel_rfl) (sq (sq (detn [(1, .ptr 0 0), (4, aI a0.fKind)] (by kernel_rfl) (bq (sq (detn [(1, .ptr 0 0), (4, aI a0.fKind), (5, aB (a0.fKind == 0))] (by kernel_rfl) ?_))))))))
  rcases bif_some hm with ⟨h1, hm⟩ | ⟨h1, hm⟩
  ·
   refine ct h1 (by kernel_rfl) (sq (rg (sh 4 [(10, aB (a0.fInt == 0)), (9, aB (a0.fInt == 0)), (8, aI a0.fInt), (7, .ptr 0 1)] (by kernel_rfl) ?_)))
   rcases bif_some hm with ⟨h2, hm⟩ | ⟨h2, hm⟩
   ·
    refine known [10, 9] h2 (by kernel_rfl) (sh 2 [(12, aF a0.fFloat), (11, .ptr 0 2)] (by kernel_rfl) ?_)
    obtain ⟨x3, h4, hm⟩ := bs hm
    refine dv 13 (cpure (by kernel_rfl) (ok_ref04_zero h4) (by kernel_rfl) (by kernel_rfl) (by kernel_rfl)) (by kernel_rfl) (sh 2 [(15, aB x3), (14, aB x3)] (by kernel_rfl) ?_)
    refine seg x3 [15, 14, 13] (fun b => [(19, aB (b && (sEq a0.fText ByteArray.empty))), (18, ifA b (aB (sEq a0.fText ByteArray.empty)) (.undef)), (17, ifA b (aS a0.fText) (.undef)), (16, ifA b (.ptr 0 3) (.undef))]) 13 (by kernel_rfl) ?_ ?_ ?_
    ·
     intro Q h
     refine sh 4 [(19, aB (sEq a0.fText ByteArray.empty)), (18, aB (sEq a0.fText ByteArray.empty)), (17, aS a0.fText), (16, .ptr 0 3)] (by kernel_rfl) ?_
     exact sameN (by kernel_rfl) (by kernel_rfl) h
    ·
     intro Q h
     refine sh 4 [(19, aB false), (18, .undef), (17, .undef), (16, .undef)] (by kernel_rfl) ?_
     exact sameN (by kernel_rfl) (by kernel_rfl) h
    refine sh 1 [(2, aB (x3 && (sEq a0.fText ByteArray.empty)))] (by kernel_rfl) (fin [(2, aB (x3 && (sEq a0.fText ByteArray.empty)))] rfl (by kernel_rfl) (wp_ret ?_))
    obtain rfl := Option.some.inj hm
    exact ⟨trivial, by kernel_rfl⟩
   ·
    refine known [10, 9] h2 (by kernel_rfl) (sh 10 [(2, aB false), (19, aB false), (18, .undef), (17, .undef), (16, .undef), (15, aB false), (14, aB false), (13, .undef), (12, .undef), (11, .undef)] (by kernel_rfl) (fin [(2, aB false)] rfl (by kernel_rfl) (wp_ret ?_)))
    obtain rfl := Option.some.inj hm
    exact ⟨trivial, by kernel_rfl⟩
  ·
   refine cf h1 (by kernel_rfl) (sq (detn [(1, .ptr 0 0), (4, aI a0.fKind), (20, aB (a0.fKind == 1))] (by kernel_rfl) ?_))
   rcases bif_some hm with ⟨h5, hm⟩ | ⟨h5, hm⟩
   ·
    refine ct h5 (by kernel_rfl) (sq (rg (sh 4 [(25, aB (a0.fInt == 0)), (24, aB (a0.fInt == 0)), (23, aI a0.fInt), (22, .ptr 0 1)] (by kernel_rfl) ?_)))
    refine seg (a0.fInt == 0) [25, 24] (fun b => [(29, aB (b || (a0.fInt == 1))), (28, ifA b (.undef) (aB (a0.fInt == 1))), (27, ifA b (.undef) (aI a0.fInt)), (26, ifA b (.undef) (.ptr 0 1))]) 8 (by kernel_rfl) ?_ ?_ ?_
    ·
     intro Q h
     refine sh 4 [(29, aB true), (28, .undef), (27, .undef), (26, .undef)] (by kernel_rfl) ?_
     exact sameN (by kernel_rfl) (by kernel_rfl) h
    ·
     intro Q h
     refine sh 4 [(29, aB (a0.fInt == 1)), (28, aB (a0.fInt == 1)), (27, aI a0.fInt), (26, .ptr 0 1)] (by kernel_rfl) ?_
     exact sameN (by kernel_rfl) (by kernel_rfl) h
    refine sh 1 [(30, aB ((a0.fInt == 0) || (a0.fInt == 1)))] (by kernel_rfl) ?_
    rcases bif_some hm with ⟨h6, hm⟩ | ⟨h6, hm⟩
    ·
     refine known [30, 29] h6 (by kernel_rfl) (sh 2 [(32, aF a0.fFloat), (31, .ptr 0 2)] (by kernel_rfl) ?_)
     obtain ⟨x7, h8, hm⟩ := bs hm
     refine dv 33 (cpure (by kernel_rfl) (ok_ref04_zero h8) (by kernel_rfl) (by kernel_rfl) (by kernel_rfl)) (by kernel_rfl) (sh 2 [(35, aB x7), (34, aB x7)] (by kernel_rfl) ?_)
     refine seg x7 [35, 34, 33] (fun b => [(39, aB (b && (sEq a0.fText ByteArray.empty))), (38, ifA b (aB (sEq a0.fText ByteArray.empty)) (.undef)), (37, ifA b (aS a0.fText) (.undef)), (36, ifA b (.ptr 0 3) (.undef))]) 18 (by kernel_rfl) ?_ ?_ ?_
     ·
      intro Q h
      refine sh 4 [(39, aB (sEq a0.fText ByteArray.empty)), (38, aB (sEq a0.fText ByteArray.empty)), (37, aS a0.fText), (36, .ptr 0 3)] (by kernel_rfl) ?_
      exact sameN (by kernel_rfl) (by kernel_rfl) h
     ·
      intro Q h
      refine sh 4 [(39, aB false), (38, .undef), (37, .undef), (36, .undef)] (by kernel_rfl) ?_
      exact sameN (by kernel_rfl) (by kernel_rfl) h
     refine sh 1 [(2, aB (x7 && (sEq a0.fText ByteArray.empty)))] (by kernel_rfl) (fin [(2, aB (x7 && (sEq a0.fText ByteArray.empty)))] rfl (by kernel_rfl) (wp_ret ?_))
     obtain rfl := Option.some.inj hm
     exact ⟨trivial, by kernel_rfl⟩
    ·
     refine known [30, 29] h6 (by kernel_rfl) (sh 10 [(2, aB false), (39, aB false), (38, .undef), (37, .undef), (36, .undef), (35, aB false), (34, aB false), (33, .undef), (32, .undef), (31, .undef)] (by kernel_rfl) (fin [(2, aB false)] rfl (by kernel_rfl) (wp_ret ?_)))
     obtain rfl := Option.some.inj hm
     exact ⟨trivial, by kernel_rfl⟩
   ·
    refine cf h5 (by kernel_rfl) (sq (detn [(1, .ptr 0 0), (4, aI a0.fKind), (40, aB (a0.fKind == 2))] (by kernel_rfl) ?_))
    rcases bif_some hm with ⟨h9, hm⟩ | ⟨h9, hm⟩
    ·
     refine ct h9 (by kernel_rfl) (sq (rg (sh 2 [(43, aF a0.fFloat), (42, .ptr 0 2)] (by kernel_rfl) ?_)))
     obtain ⟨x10, h11, hm⟩ := bs hm
     refine dv 44 (cpure (by kernel_rfl) (ok_ref04_zero h11) (by kernel_rfl) (by kernel_rfl) (by kernel_rfl)) (by kernel_rfl) (sh 1 [(45, aB x10)] (by kernel_rfl) ?_)
     refine seg x10 [45, 44] (fun b => [(49, aB (b && (sEq a0.fText ByteArray.empty))), (48, ifA b (aB (sEq a0.fText ByteArray.empty)) (.undef)), (47, ifA b (aS a0.fText) (.undef)), (46, ifA b (.ptr 0 3) (.undef))]) 8 (by kernel_rfl) ?_ ?_ ?_
     ·
      intro Q h
      refine sh 4 [(49, aB (sEq a0.fText ByteArray.empty)), (48, aB (sEq a0.fText ByteArray.empty)), (47, aS a0.fText), (46, .ptr 0 3)] (by kernel_rfl) ?_
      exact sameN (by kernel_rfl) (by kernel_rfl) h
     ·
      intro Q h
      refine sh 4 [(49, aB false), (48, .undef), (47, .undef), (46, .undef)] (by kernel_rfl) ?_
      exact sameN (by kernel_rfl) (by kernel_rfl) h
     refine sh 1 [(2, aB (x10 && (sEq a0.fText ByteArray.empty)))] (by kernel_rfl) (fin [(2, aB (x10 && (sEq a0.fText ByteArray.empty)))] rfl (by kernel_rfl) (wp_ret ?_))
     obtain rfl := Option.some.inj hm
     exact ⟨trivial, by kernel_rfl⟩
    ·
     refine cf h9 (by kernel_rfl) (sq (detn [(1, .ptr 0 0), (4, aI a0.fKind), (50, aB (a0.fKind == 3))] (by kernel_rfl) ?_))
     rcases bif_some hm with ⟨h12, hm⟩ | ⟨h12, hm⟩
     ·
      refine ct h12 (by kernel_rfl) (sq (rg (sh 4 [(55, aB (a0.fInt == 0)), (54, aB (a0.fInt == 0)), (53, aI a0.fInt), (52, .ptr 0 1)] (by kernel_rfl) ?_)))
      refine seg (a0.fInt == 0) [55, 54] (fun b => [(59, aB (b && (sEq a0.fText ByteArray.empty))), (58, ifA b (aB (sEq a0.fText ByteArray.empty)) (.undef)), (57, ifA b (aS a0.fText) (.undef)), (56, ifA b (.ptr 0 3) (.undef))]) 8 (by kernel_rfl) ?_ ?_ ?_
      ·
       intro Q h
       refine sh 4 [(59, aB (sEq a0.fText ByteArray.empty)), (58, aB (sEq a0.fText ByteArray.empty)), (57, aS a0.fText), (56, .ptr 0 3)] (by kernel_rfl) ?_
       exact sameN (by kernel_rfl) (by kernel_rfl) h
      ·
       intro Q h
       refine sh 4 [(59, aB false), (58, .undef), (57, .undef), (56, .undef)] (by kernel_rfl) ?_
       exact sameN (by kernel_rfl) (by kernel_rfl) h
      refine sh 1 [(2, aB ((a0.fInt == 0) && (sEq a0.fText ByteArray.empty)))] (by kernel_rfl) (fin [(2, aB ((a0.fInt == 0) && (sEq a0.fText ByteArray.empty)))] rfl (by kernel_rfl) (wp_ret ?_))
      obtain rfl := Option.some.inj hm
      exact ⟨trivial, by kernel_rfl⟩
     ·
      refine cf h12 (by kernel_rfl) (sq (detn [(1, .ptr 0 0), (60, aB (a0.fKind == 4))] (by kernel_rfl) ?_))
      rcases bif_some hm with ⟨h13, hm⟩ | ⟨h13, hm⟩
      ·
       refine ct h13 (by kernel_rfl) (sq (rg (sh 4 [(65, aB (a0.fInt == 0)), (64, aB (a0.fInt == 0)), (63, aI a0.fInt), (62, .ptr 0 1)] (by kernel_rfl) ?_)))
       rcases bif_some hm with ⟨h14, hm⟩ | ⟨h14, hm⟩
       ·
        refine known [65, 64] h14 (by kernel_rfl) (sh 2 [(67, aF a0.fFloat), (66, .ptr 0 2)] (by kernel_rfl) ?_)
        obtain ⟨x15, h16, hm⟩ := bs hm
        refine dv 68 (cpure (by kernel_rfl) (ok_ref04_zero h16) (by kernel_rfl) (by kernel_rfl) (by kernel_rfl)) (by kernel_rfl) (sh 2 [(70, aB x15), (69, aB x15)] (by kernel_rfl) ?_)
        refine seg x15 [70, 69, 68] (fun b => [(75, aB (b && (decide ((a0.fText.size : Int) ≤ 64)))), (74, ifA b (aB (decide ((a0.fText.size : Int) ≤ 64))) (.undef)), (73, ifA b (aI (a0.fText.size : Int)) (.undef)), (72, ifA b (aS a0.fText) (.undef)), (71, ifA b (.ptr 0 3) (.undef))]) 14 (by kernel_rfl) ?_ ?_ ?_
        ·
         intro Q h
         refine sh 5 [(75, aB (decide ((a0.fText.size : Int) ≤ 64))), (74, aB (decide ((a0.fText.size : Int) ≤ 64))), (73, aI (a0.fText.size : Int)), (72, aS a0.fText), (71, .ptr 0 3)] (by kernel_rfl) ?_
         exact sameN (by kernel_rfl) (by kernel_rfl) h
        ·
         intro Q h
         refine sh 5 [(75, aB false), (74, .undef), (73, .undef), (72, .undef), (71, .undef)] (by kernel_rfl) ?_
         exact sameN (by kernel_rfl) (by kernel_rfl) h
        refine sh 1 [(2, aB (x15 && (decide ((a0.fText.size : Int) ≤ 64))))] (by kernel_rfl) (fin [(2, aB (x15 && (decide ((a0.fText.size : Int) ≤ 64))))] rfl (by kernel_rfl) (wp_ret ?_))
        obtain rfl := Option.some.inj hm
        exact ⟨trivial, by kernel_rfl⟩
       ·
        refine known [65, 64] h14 (by kernel_rfl) (sh 11 [(2, aB false), (75, aB false), (74, .undef), (73, .undef), (72, .undef), (71, .undef), (70, aB false), (69, aB false), (68, .undef), (67, .undef), (66, .undef)] (by kernel_rfl) (fin [(2, aB false)] rfl (by kernel_rfl) (wp_ret ?_)))
        obtain rfl := Option.some.inj hm
        exact ⟨trivial, by kernel_rfl⟩
      ·
       refine cf h13 (by kernel_rfl) (wp_skip (sq (detn [(2, aB false)] (by kernel_rfl) (wp_ret ?_))))
       obtain rfl := Option.some.inj hm
       exact ⟨trivial, by kernel_rfl⟩
theorem ok_ref06_Fits {n : Nat} {a0 : api_Table} {a1 : (Option (List api_Value))} {r : Bool} (hm : ref06_Fits n a0 a1 = some r) :
    call G n 19 [.agg [aS a0.fName, .pv (encSl R_api_Column a0.fCols)], .pv (encSl R_api_Value a1)] [] = some (.ret (aB r), []) := by
  unfold ref06_Fits at hm
  obtain ⟨n, rfl, h0⟩ := at1_some hm
  replace hm := h0; clear h0
  refine callL 51 [(0, .agg [aS a0.fName, .pv (encSl R_api_Column a0.fCols)]), (1, .pv (encSl R_api_Value a1))] func19 rfl (by kernel_rfl) (sq (det [(1, .pv (encSl R_api_Value a1)), (2, .ptr 0 0)] [.box [aS a0.fName, .pv (encSl R_api_Column a0.fCols)] false] (by kernel_rfl) ?_))
  refine sq (sq (rg (sh 1 [(6, .pv (encSl R_api_Value a1))] (by kernel_rfl) (dv 7 (v := aI ((sll a1).length : Int)) (len_slO R_api_Value a1 t25 (by kernel_rfl)) (by kernel_rfl) (sh 2 [(9, .pv (encSl R_api_Column a0.fCols)), (8, .ptr 0 1)] (by kernel_rfl) (dv 10 (v := aI ((sll a0.fCols).length : Int)) (len_slO R_api_Column a0.fCols t22 (by kernel_rfl)) (by kernel_rfl) (sh 2 [(12, aB (((sll a1).length : Int) != ((sll a0.fCols).length : Int))), (11, aB (((sll a1).length : Int) != ((sll a0.fCols).length : Int)))] (by kernel_rfl) ?_)))))))
  refine seg (((sll a1).length : Int) != ((sll a0.fCols).length : Int)) [12, 11] (fun b => [(16, aB (b || (decide (((sll a1).length : Int) > 200)))), (15, ifA b (.undef) (aB (decide (((sll a1).length : Int) > 200)))), (14, ifA b (.undef) (aI ((sll a1).length : Int))), (13, ifA b (.undef) (.pv (encSl R_api_Value a1)))]) 11 (by kernel_rfl) ?_ ?_ ?_
  ·
   intro Q h
   refine sh 4 [(16, aB true), (15, .undef), (14, .undef), (13, .undef)] (by kernel_rfl) ?_
   exact sameN (by kernel_rfl) (by kernel_rfl) h
  ·
   intro Q h
   refine sh 1 [(13, .pv (encSl R_api_Value a1))] (by kernel_rfl) (dv 14 (v := aI ((sll a1).length : Int)) (len_slO R_api_Value a1 t25 (by kernel_rfl)) (by kernel_rfl) (sh 2 [(16, aB (decide (((sll a1).length : Int) > 200))), (15, aB (decide (((sll a1).length : Int) > 200)))] (by kernel_rfl) ?_))
   exact sameN (by kernel_rfl) (by kernel_rfl) h
  refine fin [(1, .pv (encSl R_api_Value a1)), (2, .ptr 0 0), (16, aB ((((sll a1).length : Int) != ((sll a0.fCols).length : Int)) || (decide (((sll a1).length : Int) > 200))))] rfl (by kernel_rfl) ?_
  rcases bif_some hm with ⟨h1, hm⟩ | ⟨h1, hm⟩
  ·
   refine ct h1 (by kernel_rfl) (sq (detn [(4, aB false)] (by kernel_rfl) (wp_ret ?_)))
   obtain rfl := Option.some.inj hm
   exact ⟨trivial, by kernel_rfl⟩
  ·
   refine cf h1 (by kernel_rfl) (wp_skip ?_)
   obtain ⟨k4, hk4, hm⟩ := withK_some hm
   refine mid (fun t H => ∃ (y2 : Bool) (y3 : Int), k4 () = some r ∧ t = mk 51 [(1, .pv (encSl R_api_Value a1)), (2, .ptr 0 0), (5, aI y3), (20, aB y2)] ∧ H = [.box [aS a0.fName, .pv (encSl R_api_Column a0.fCols)] false]) ?_ ?_
   ·
    rintro _ _ ⟨y2, y3, hm, rfl, rfl⟩
    subst hk4
    refine sq (detn [(4, aB true)] (by kernel_rfl) (wp_ret ?_))
    obtain rfl := Option.some.inj hm
    exact ⟨trivial, by kernel_rfl⟩
   refine sq (detn [(1, .pv (encSl R_api_Value a1)), (2, .ptr 0 0), (5, aI 0)] (by kernel_rfl) (bq ?_))
   refine loopF (fun mm t H => ∃ (y6 : Int), ref06_Fits_l4 n a0 a1 k4 mm y6 = some r ∧ t = mk 51 [(1, .pv (encSl R_api_Value a1)), (2, .ptr 0 0), (5, aI y6)] ∧ H = [.box [aS a0.fName, .pv (encSl R_api_Column a0.fCols)] false]) ⟨0, hm, rfl, rfl⟩ ?_ ?_
   · rintro _ _ ⟨y6, hm, _⟩; exact nomatch hm
   rintro m7 _ _ ⟨y6, hm, rfl, rfl⟩
   simp only [ref06_Fits_l4] at hm
   refine sq (sq (rg (sh 2 [(18, .pv (encSl R_api_Value a1)), (17, aI y6)] (by kernel_rfl) (dv 19 (v := aI ((sll a1).length : Int)) (len_slO R_api_Value a1 t25 (by kernel_rfl)) (by kernel_rfl) (sh 1 [(20, aB (decide (y6 < ((sll a1).length : Int))))] (by kernel_rfl) (fin [(1, .pv (encSl R_api_Value a1)), (2, .ptr 0 0), (5, aI y6), (20, aB (decide (y6 < ((sll a1).length : Int))))] rfl (by kernel_rfl) ?_))))))
   rcases bif_some hm with ⟨h8, hm⟩ | ⟨h8, hm⟩
   ·
    refine ct h8 (by kernel_rfl) (wp_skip (sq (bq (sq (rgd (shd 2 [(24, aI y6), (23, .pv (encSl R_api_Value a1))] (by kernel_rfl) ?_))))))
    obtain ⟨x9, h10, hm⟩ := bs hm
    refine dvd 25 (v := .pv (.ptr (R_api_Value x9) 0)) (ia_slO R_api_Value a1 .i64 t25 t79 h10 rfl (by kernel_rfl)) (by kernel_rfl) (shd 1 [(26, .agg [aI x9.fKind, aI x9.fInt, aF x9.fFloat, aS x9.fText])] (by kernel_rfl) ?_)
    obtain ⟨x11, h12, hm⟩ := bs hm
    refine dvd 27 (cpure (by kernel_rfl) (ok_ref04_Right h12) (by kernel_rfl) (by kernel_rfl) (by kernel_rfl)) (by kernel_rfl) (shd 2 [(29, aB (!x11)), (28, aB (!x11))] (by kernel_rfl) ?_)
    rcases bif_some hm with ⟨h13, hm⟩ | ⟨h13, hm⟩
    ·
     refine knownd [29, 28] h13 (by kernel_rfl) (shd 21 [(50, aB true), (49, .undef), (48, .undef), (47, .undef), (46, .undef), (45, .undef), (44, .undef), (43, .undef), (42, .undef), (41, .undef), (40, .undef), (39, .undef), (38, .undef), (37, .undef), (36, .undef), (35, .undef), (34, .undef), (33, .undef), (32, .undef), (31, .undef), (30, .undef)] (by kernel_rfl) (find [(1, .pv (encSl R_api_Value a1)), (2, .ptr 0 0), (5, aI y6), (50, aB true)] rfl (by kernel_rfl) (by kernel_rfl) (cT (by kernel_rfl) (sq (detn [(4, aB false)] (by kernel_rfl) (wp_ret ?_))))))
     obtain rfl := Option.some.inj hm
     exact ⟨trivial, by kernel_rfl⟩
    ·
     refine knownd [29, 28] h13 (by kernel_rfl) (shd 2 [(31, aI y6), (30, .pv (encSl R_api_Value a1))] (by kernel_rfl) (dvd 32 (v := .pv (.ptr (R_api_Value x9) 0)) (ia_slO R_api_Value a1 .i64 t25 t79 h10 rfl (by kernel_rfl)) (by kernel_rfl) (shd 4 [(36, aB (x9.fKind != 0)), (35, aB (x9.fKind != 0)), (34, aI x9.fKind), (33, .pv (.ptr (R_api_Value x9) 0))] (by kernel_rfl) ?_)))
     rcases bif_some hm with ⟨h14, hm⟩ | ⟨h14, hm⟩
     ·
      refine knownd [36, 35] h14 (by kernel_rfl) (shd 2 [(38, aI y6), (37, .pv (encSl R_api_Value a1))] (by kernel_rfl) (dvd 39 (v := .pv (.ptr (R_api_Value x9) 0)) (ia_slO R_api_Value a1 .i64 t25 t79 h10 rfl (by kernel_rfl)) (by kernel_rfl) (shd 5 [(44, aI y6), (43, .pv (encSl R_api_Column a0.fCols)), (42, .ptr 0 1), (41, aI x9.fKind), (40, .pv (.ptr (R_api_Value x9) 0))] (by kernel_rfl) ?_)))
      obtain ⟨x15, h16, hm⟩ := bs hm
      refine dvd 45 (v := .pv (.ptr (R_api_Column x15) 0)) (ia_slO R_api_Column a0.fCols .i64 t22 t72 h16 rfl (by kernel_rfl)) (by kernel_rfl) (shd 5 [(50, aB (x9.fKind != x15.fKind)), (49, aB (x9.fKind != x15.fKind)), (48, aB (x9.fKind != x15.fKind)), (47, aI x15.fKind), (46, .pv (.ptr (R_api_Column x15) 1))] (by kernel_rfl) (find [(1, .pv (encSl R_api_Value a1)), (2, .ptr 0 0), (5, aI y6), (50, aB (x9.fKind != x15.fKind))] rfl (by kernel_rfl) (by kernel_rfl) ?_))
      rcases bif_some hm with ⟨h17, hm⟩ | ⟨h17, hm⟩
      ·
       refine ct h17 (by kernel_rfl) (sq (detn [(4, aB false)] (by kernel_rfl) (wp_ret ?_)))
       obtain rfl := Option.some.inj hm
       exact ⟨trivial, by kernel_rfl⟩
      ·
       refine cf h17 (by kernel_rfl) (wp_skip (detn [(1, .pv (encSl R_api_Value a1)), (2, .ptr 0 0), (5, aI (IntKind.wrap .i64 (y6 + 1)))] (by kernel_rfl) ?_))
       exact ⟨_, _, tidyL [(1, .pv (encSl R_api_Value a1)), (2, .ptr 0 0), (5, aI (IntKind.wrap .i64 (y6 + 1)))] [.box [aS a0.fName, .pv (encSl R_api_Column a0.fCols)] false] (by kernel_rfl), (IntKind.wrap .i64 (y6 + 1)), hm, rfl, rfl⟩
     ·
      refine knownd [36, 35] h14 (by kernel_rfl) (shd 14 [(50, aB false), (49, aB false), (48, .undef), (47, .undef), (46, .undef), (45, .undef), (44, .undef), (43, .undef), (42, .undef), (41, .undef), (40, .undef), (39, .undef), (38, .undef), (37, .undef)] (by kernel_rfl) (find [(1, .pv (encSl R_api_Value a1)), (2, .ptr 0 0), (5, aI y6), (50, aB false)] rfl (by kernel_rfl) (by kernel_rfl) (cF (by kernel_rfl) (wp_skip (detn [(1, .pv (encSl R_api_Value a1)), (2, .ptr 0 0), (5, aI (IntKind.wrap .i64 (y6 + 1)))] (by kernel_rfl) ?_)))))
      exact ⟨_, _, tidyL [(1, .pv (encSl R_api_Value a1)), (2, .ptr 0 0), (5, aI (IntKind.wrap .i64 (y6 + 1)))] [.box [aS a0.fName, .pv (encSl R_api_Column a0.fCols)] false] (by kernel_rfl), (IntKind.wrap .i64 (y6 + 1)), hm, rfl, rfl⟩
   ·
    refine cf h8 (by kernel_rfl) (wp_exit ?_)
    exact ⟨(decide (y6 < ((sll a1).length : Int))), y6, hm, rfl, rfl⟩
theorem ok_law06_works {n : Nat}  {r : Bool} (hm : law06_works n  = some r) :
    call G n 20 [] [] = some (.ret (aB r), []) := by
  unfold law06_works at hm
  obtain ⟨n, rfl, h0⟩ := at1_some hm
  replace hm := h0; clear h0
  refine callL 24 [] func20 rfl (by kernel_rfl) (sq (detn [] (by kernel_rfl) (sq (det [(1, .ptr 0 0), (2, .ptr 1 0)] [.box [aS (ByteArray.mk #[97]), aI 2] false, .box [aS (ByteArray.mk #[98]), aI 4] false] (by kernel_rfl) (sq (rg (st 4 [(8, .agg [aS (ByteArray.mk #[116]), .ref 2 0 2 2 0 2]), (7, .ref 2 0 2 2 0 2), (6, .agg [aS (ByteArray.mk #[98]), aI 4]), (5, .agg [aS (ByteArray.mk #[97]), aI 2])] [.box [aS (ByteArray.mk #[97]), aI 2] false, .box [aS (ByteArray.mk #[98]), aI 4] false, .row 72 2 ⟨([(api_Column.mk (ByteArray.mk #[97]) 2), (api_Column.mk (ByteArray.mk #[98]) 4)] : List api_Column).map R_api_Column, 0, 0, 0, 0⟩] (by kernel_rfl) ?_)))))))
  obtain ⟨x1, h2, hm⟩ := bs hm
  refine dO [(9, aI x1)] [.box [aS (ByteArray.mk #[97]), aI 2] false, .box [aS (ByteArray.mk #[98]), aI 4] false, .row 72 2 ⟨([(api_Column.mk (ByteArray.mk #[97]) 2), (api_Column.mk (ByteArray.mk #[98]) 4)] : List api_Column).map R_api_Column, 0, 0, 0, 0⟩] (cpureR [2] [.agg [aS (ByteArray.mk #[116]), .ref 2 0 2 2 0 2]] (fl := true) (by kernel_rfl) (by kernel_rfl) (by kernel_rfl) (ok_schema_Right h2) (by kernel_rfl) (by kernel_rfl)) (by kernel_rfl) (sh 2 [(11, aB (x1 == 0)), (10, aB (x1 == 0))] (by kernel_rfl) ?_)
  rcases bif_some hm with ⟨h3, hm⟩ | ⟨h3, hm⟩
  ·
   refine known [11, 10] h3 (by kernel_rfl) (st 4 [(15, .agg [aS (ByteArray.mk #[116]), .ref 3 0 2 2 0 2]), (14, .ref 3 0 2 2 0 2), (13, .agg [aS (ByteArray.mk #[97]), aI 2]), (12, .agg [aS (ByteArray.mk #[97]), aI 2])] [.box [aS (ByteArray.mk #[97]), aI 2] false, .box [aS (ByteArray.mk #[98]), aI 4] false, .row 72 2 ⟨([(api_Column.mk (ByteArray.mk #[97]) 2), (api_Column.mk (ByteArray.mk #[98]) 4)] : List api_Column).map R_api_Column, 0, 0, 0, 0⟩, .row 72 2 ⟨([(api_Column.mk (ByteArray.mk #[97]) 2), (api_Column.mk (ByteArray.mk #[97]) 2)] : List api_Column).map R_api_Column, 0, 0, 0, 0⟩] (by kernel_rfl) ?_)
   obtain ⟨x4, h5, hm⟩ := bs hm
   refine dO [(16, aI x4)] [.box [aS (ByteArray.mk #[97]), aI 2] false, .box [aS (ByteArray.mk #[98]), aI 4] false, .row 72 2 ⟨([(api_Column.mk (ByteArray.mk #[97]) 2), (api_Column.mk (ByteArray.mk #[98]) 4)] : List api_Column).map R_api_Column, 0, 0, 0, 0⟩, .row 72 2 ⟨([(api_Column.mk (ByteArray.mk #[97]) 2), (api_Column.mk (ByteArray.mk #[97]) 2)] : List api_Column).map R_api_Column, 0, 0, 0, 0⟩] (cpureR [3] [.agg [aS (ByteArray.mk #[116]), .ref 3 0 2 2 0 2]] (fl := true) (by kernel_rfl) (by kernel_rfl) (by kernel_rfl) (ok_schema_Right h5) (by kernel_rfl) (by kernel_rfl)) (by kernel_rfl) (sh 3 [(19, aB (x4 == 41)), (18, aB (x4 == 41)), (17, aB (x4 == 41))] (by kernel_rfl) ?_)
   rcases bif_some hm with ⟨h6, hm⟩ | ⟨h6, hm⟩
   ·
    refine known [19, 18, 17] h6 (by kernel_rfl) (sh 1 [(20, .agg [aS (ByteArray.mk #[116]), .pv .nils])] (by kernel_rfl) ?_)
    obtain ⟨x7, h8, hm⟩ := bs hm
    refine dv 21 (cpure (by kernel_rfl) (ok_schema_Right h8) (by kernel_rfl) (by kernel_rfl) (by kernel_rfl)) (by kernel_rfl) (sh 3 [(0, aB (x7 == 2)), (23, aB (x7 == 2)), (22, aB (x7 == 2))] (by kernel_rfl) (fin [(0, aB (x7 == 2))] rfl (by kernel_rfl) (wp_ret ?_)))
    obtain rfl := Option.some.inj hm
    exact ⟨trivial, by kernel_rfl⟩
   ·
    refine known [19, 18, 17] h6 (by kernel_rfl) (sh 5 [(0, aB false), (23, aB false), (22, .undef), (21, .undef), (20, .undef)] (by kernel_rfl) (fin [(0, aB false)] rfl (by kernel_rfl) (wp_ret ?_)))
    obtain rfl := Option.some.inj hm
    exact ⟨trivial, by kernel_rfl⟩
  ·
   refine known [11, 10] h3 (by kernel_rfl) (sh 13 [(0, aB false), (23, aB false), (22, .undef), (21, .undef), (20, .undef), (19, aB false), (18, aB false), (17, .undef), (16, .undef), (15, .undef), (14, .undef), (13, .undef), (12, .undef)] (by kernel_rfl) (fin [(0, aB false)] rfl (by kernel_rfl) (wp_ret ?_)))
   obtain rfl := Option.some.inj hm
   exact ⟨trivial, by kernel_rfl⟩
theorem ok_law06_SchemaAsks {n : Nat} {a0 : api_Table} {a1 : ByteArray} {a2 : (Option (List api_Value))} {r : Bool} (hm : law06_SchemaAsks n a0 a1 a2 = some r) :
    call G n 3 [.agg [aS a0.fName, .pv (encSl R_api_Column a0.fCols)], aS a1, .pv (encSl R_api_Value a2)] [] = some (.ret (aB r), []) := by
  unfold law06_SchemaAsks at hm
  obtain ⟨n, rfl, h0⟩ := at1_some hm
  replace hm := h0; clear h0
  refine callL 52 [(0, .agg [aS a0.fName, .pv (encSl R_api_Column a0.fCols)]), (1, aS a1), (2, .pv (encSl R_api_Value a2))] func3 rfl (by kernel_rfl) (sq (det [(1, aS a1), (2, .pv (encSl R_api_Value a2)), (3, .ptr 0 0)] [.box [aS a0.fName, .pv (encSl R_api_Column a0.fCols)] false] (by kernel_rfl) ?_))
  refine sq (sq (rg (sh 1 [(7, .agg [aS a0.fName, .pv (encSl R_api_Column a0.fCols)])] (by kernel_rfl) ?_)))
  obtain ⟨x1, h2, hm⟩ := bs hm
  refine dv 8 (cpure (by kernel_rfl) (ok_law06_great h2) (by kernel_rfl) (by kernel_rfl) (by kernel_rfl)) (by kernel_rfl) (sh 1 [(9, aB x1)] (by kernel_rfl) ?_)
  refine seg x1 [9, 8] (fun b => [(13, aB (b || (decide ((a1.size : Int) > 500)))), (12, ifA b (.undef) (aB (decide ((a1.size : Int) > 500)))), (11, ifA b (.undef) (aI (a1.size : Int))), (10, ifA b (.undef) (aS a1))]) 7 (by kernel_rfl) ?_ ?_ ?_
  ·
   intro Q h
   refine sh 4 [(13, aB true), (12, .undef), (11, .undef), (10, .undef)] (by kernel_rfl) ?_
   exact sameN (by kernel_rfl) (by kernel_rfl) h
  ·
   intro Q h
   refine sh 4 [(13, aB (decide ((a1.size : Int) > 500))), (12, aB (decide ((a1.size : Int) > 500))), (11, aI (a1.size : Int)), (10, aS a1)] (by kernel_rfl) ?_
   exact sameN (by kernel_rfl) (by kernel_rfl) h
  refine sh 1 [(14, aB (x1 || (decide ((a1.size : Int) > 500))))] (by kernel_rfl) ?_
  refine seg (x1 || (decide ((a1.size : Int) > 500))) [14, 13] (fun b => [(18, aB (b || (decide (((sll a2).length : Int) > 300)))), (17, ifA b (.undef) (aB (decide (((sll a2).length : Int) > 300)))), (16, ifA b (.undef) (aI ((sll a2).length : Int))), (15, ifA b (.undef) (.pv (encSl R_api_Value a2)))]) 12 (by kernel_rfl) ?_ ?_ ?_
  ·
   intro Q h
   refine sh 4 [(18, aB true), (17, .undef), (16, .undef), (15, .undef)] (by kernel_rfl) ?_
   exact sameN (by kernel_rfl) (by kernel_rfl) h
  ·
   intro Q h
   refine sh 1 [(15, .pv (encSl R_api_Value a2))] (by kernel_rfl) (dv 16 (v := aI ((sll a2).length : Int)) (len_slO R_api_Value a2 t25 (by kernel_rfl)) (by kernel_rfl) (sh 2 [(18, aB (decide (((sll a2).length : Int) > 300))), (17, aB (decide (((sll a2).length : Int) > 300)))] (by kernel_rfl) ?_))
   exact sameN (by kernel_rfl) (by kernel_rfl) h
  refine fin [(1, aS a1), (2, .pv (encSl R_api_Value a2)), (3, .ptr 0 0), (18, aB ((x1 || (decide ((a1.size : Int) > 500))) || (decide (((sll a2).length : Int) > 300))))] rfl (by kernel_rfl) ?_
  rcases bif_some hm with ⟨h3, hm⟩ | ⟨h3, hm⟩
  ·
   refine ct h3 (by kernel_rfl) (sq (detn [(6, aB true)] (by kernel_rfl) (wp_ret ?_)))
   obtain rfl := Option.some.inj hm
   exact ⟨trivial, by kernel_rfl⟩
  ·
   refine cf h3 (by kernel_rfl) (wp_skip (sq (rgd (shd 1 [(19, aS a1)] (by kernel_rfl) ?_))))
   obtain ⟨x4, h5, hm⟩ := bs hm
   refine dvd 20 (cpure (by kernel_rfl) (ok_schema_Name h5) (by kernel_rfl) (by kernel_rfl) (by kernel_rfl)) (by kernel_rfl) (shd 1 [(21, aS a1)] (by kernel_rfl) ?_)
   obtain ⟨x6, h7, hm⟩ := bs hm
   refine dvd 22 (cpure (by kernel_rfl) (ok_ref06_Name h7) (by kernel_rfl) (by kernel_rfl) (by kernel_rfl)) (by kernel_rfl) (shd 2 [(24, aB (x4 == x6)), (23, aB (x4 == x6))] (by kernel_rfl) ?_)
   rcases bif_some hm with ⟨h8, hm⟩ | ⟨h8, hm⟩
   ·
    refine knownd [24, 23] h8 (by kernel_rfl) (shd 1 [(25, .agg [aS a0.fName, .pv (encSl R_api_Column a0.fCols)])] (by kernel_rfl) ?_)
    obtain ⟨x9, h10, hm⟩ := bs hm
    refine dvd 26 (cpure (by kernel_rfl) (ok_schema_Right h10) (by kernel_rfl) (by kernel_rfl) (by kernel_rfl)) (by kernel_rfl) (shd 1 [(27, .agg [aS a0.fName, .pv (encSl R_api_Column a0.fCols)])] (by kernel_rfl) ?_)
    obtain ⟨x11, h12, hm⟩ := bs hm
    refine dvd 28 (cpure (by kernel_rfl) (ok_ref06_Right h12) (by kernel_rfl) (by kernel_rfl) (by kernel_rfl)) (by kernel_rfl) (shd 3 [(31, aB (x9 == x11)), (30, aB (x9 == x11)), (29, aB (x9 == x11))] (by kernel_rfl) ?_)
    rcases bif_some hm with ⟨h13, hm⟩ | ⟨h13, hm⟩
    ·
     refine knownd [31, 30, 29] h13 (by kernel_rfl) (shd 2 [(33, aS a1), (32, .agg [aS a0.fName, .pv (encSl R_api_Column a0.fCols)])] (by kernel_rfl) ?_)
     obtain ⟨x14, h15, hm⟩ := bs hm
     refine dvd 34 (cpure (by kernel_rfl) (ok_schema_Column h15) (by kernel_rfl) (by kernel_rfl) (by kernel_rfl)) (by kernel_rfl) (shd 2 [(36, aS a1), (35, .agg [aS a0.fName, .pv (encSl R_api_Column a0.fCols)])] (by kernel_rfl) ?_)
     obtain ⟨x16, h17, hm⟩ := bs hm
     refine dvd 37 (cpure (by kernel_rfl) (ok_ref06_Column h17) (by kernel_rfl) (by kernel_rfl) (by kernel_rfl)) (by kernel_rfl) (shd 3 [(40, aB (x14 == x16)), (39, aB (x14 == x16)), (38, aB (x14 == x16))] (by kernel_rfl) ?_)
     rcases bif_some hm with ⟨h18, hm⟩ | ⟨h18, hm⟩
     ·
      refine knownd [40, 39, 38] h18 (by kernel_rfl) (shd 2 [(42, .pv (encSl R_api_Value a2)), (41, .agg [aS a0.fName, .pv (encSl R_api_Column a0.fCols)])] (by kernel_rfl) ?_)
      obtain ⟨x19, h20, hm⟩ := bs hm
      refine dvd 43 (cpure (by kernel_rfl) (ok_schema_Fits h20) (by kernel_rfl) (by kernel_rfl) (by kernel_rfl)) (by kernel_rfl) (shd 2 [(45, .pv (encSl R_api_Value a2)), (44, .agg [aS a0.fName, .pv (encSl R_api_Column a0.fCols)])] (by kernel_rfl) ?_)
      obtain ⟨x21, h22, hm⟩ := bs hm
      refine dvd 46 (cpure (by kernel_rfl) (ok_ref06_Fits h22) (by kernel_rfl) (by kernel_rfl) (by kernel_rfl)) (by kernel_rfl) (shd 3 [(49, aB (x19 == x21)), (48, aB (x19 == x21)), (47, aB (x19 == x21))] (by kernel_rfl) ?_)
      rcases bif_some hm with ⟨h23, hm⟩ | ⟨h23, hm⟩
      ·
       refine knownd [49, 48, 47] h23 (by kernel_rfl) ?_
       obtain ⟨x24, h25, hm⟩ := bs hm
       refine dvd 50 (cpure (by kernel_rfl) (ok_law06_works h25) (by kernel_rfl) (by kernel_rfl) (by kernel_rfl)) (by kernel_rfl) (shd 2 [(6, aB x24), (51, aB x24)] (by kernel_rfl) (find [(6, aB x24)] rfl (by kernel_rfl) (by kernel_rfl) (wp_ret ?_)))
       obtain rfl := Option.some.inj hm
       exact ⟨trivial, by kernel_rfl⟩
      ·
       refine knownd [49, 48, 47] h23 (by kernel_rfl) (shd 3 [(6, aB false), (51, aB false), (50, .undef)] (by kernel_rfl) (find [(6, aB false)] rfl (by kernel_rfl) (by kernel_rfl) (wp_ret ?_)))
       obtain rfl := Option.some.inj hm
       exact ⟨trivial, by kernel_rfl⟩
     ·
      refine knownd [40, 39, 38] h18 (by kernel_rfl) (shd 12 [(6, aB false), (51, aB false), (50, .undef), (49, aB false), (48, aB false), (47, .undef), (46, .undef), (45, .undef), (44, .undef), (43, .undef), (42, .undef), (41, .undef)] (by kernel_rfl) (find [(6, aB false)] rfl (by kernel_rfl) (by kernel_rfl) (wp_ret ?_)))
      obtain rfl := Option.some.inj hm
      exact ⟨trivial, by kernel_rfl⟩
    ·
     refine knownd [31, 30, 29] h13 (by kernel_rfl) (shd 21 [(6, aB false), (51, aB false), (50, .undef), (49, aB false), (48, aB false), (47, .undef), (46, .undef), (45, .undef), (44, .undef), (43, .undef), (42, .undef), (41, .undef), (40, aB false), (39, aB false), (38, .undef), (37, .undef), (36, .undef), (35, .undef), (34, .undef), (33, .undef), (32, .undef)] (by kernel_rfl) (find [(6, aB false)] rfl (by kernel_rfl) (by kernel_rfl) (wp_ret ?_)))
     obtain rfl := Option.some.inj hm
     exact ⟨trivial, by kernel_rfl⟩
   ·
    refine knownd [24, 23] h8 (by kernel_rfl) (shd 28 [(6, aB false), (51, aB false), (50, .undef), (49, aB false), (48, aB false), (47, .undef), (46, .undef), (45, .undef), (44, .undef), (43, .undef), (42, .undef), (41, .undef), (40, aB false), (39, aB false), (38, .undef), (37, .undef), (36, .undef), (35, .undef), (34, .undef), (33, .undef), (32, .undef), (31, aB false), (30, aB false), (29, .undef), (28, .undef), (27, .undef), (26, .undef), (25, .undef)] (by kernel_rfl) (find [(6, aB false)] rfl (by kernel_rfl) (by kernel_rfl) (wp_ret ?_)))
    obtain rfl := Option.some.inj hm
    exact ⟨trivial, by kernel_rfl⟩
end Go.Ab.S1
