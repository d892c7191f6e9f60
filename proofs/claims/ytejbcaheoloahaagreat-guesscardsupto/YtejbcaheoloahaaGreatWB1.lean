import Derived.Test.YtejbcaheoloahaaGreatS1
import Derived.Test.YtejbcaheoloahaaGreatPA
namespace Go.Ab.S1
open Go Go.Ab Go.Pl
open Go.Proofs.Tryz
set_option maxRecDepth 100000
theorem okf_ref22_Bulk {rc_ref22_Bulk : (Nat → (Option (List E_api_Expr)) → Int → Option (Int))} (ih_ref22_Bulk : ∀ {n : Nat} {a0 : (Option (List E_api_Expr))} {a1 : Int} {r : Int} (hm : rc_ref22_Bulk n a0 a1 = some r), call G n 98 [.pv (encSl R_E_api_Expr a0), aI a1] [] = some (.ret (aI r), [])) {n : Nat} {a0 : (Option (List E_api_Expr))} {a1 : Int} {r : Int} (hm : ref22_Bulk_f rc_ref22_Bulk n a0 a1 = some r) :
    call G n 98 [.pv (encSl R_E_api_Expr a0), aI a1] [] = some (.ret (aI r), []) := by
  unfold ref22_Bulk_f at hm
  obtain ⟨n, rfl, h0⟩ := at1_some hm
  replace hm := h0; clear h0
  refine callL 61 [(0, .pv (encSl R_E_api_Expr a0)), (1, aI a1)] func98 rfl (by kernel_rfl) (sq (dn [(0, .pv (encSl R_E_api_Expr a0)), (1, aI a1)] ?_))
  refine sq (sq (rg (s1 1 [(7, .pv (encSl R_E_api_Expr a0))] (dv 8 (v := aI ((sll a0).length : Int)) (len_slO R_E_api_Expr a0 t23 (by kernel_rfl)) (by kernel_rfl) (f1 2 [(0, .pv (encSl R_E_api_Expr a0)), (1, aI a1), (10, aB (decide (((sll a0).length : Int) > a1)))] ?_)))))
  rcases bif_some hm with ⟨h1, hm⟩ | ⟨h1, hm⟩
  ·
   refine c1 h1 (sq (dn [(4, aI (IntKind.wrap .i64 (a1 + 1)))] (wp_ret ?_)))
   obtain rfl := Option.some.inj hm
   exact ⟨trivial, by kernel_rfl⟩
  ·
   refine c0 h1 (wp_skip (sq (rg (s1 1 [(13, .pv (encSl R_E_api_Expr a0))] (dv 14 (v := aI ((sll a0).length : Int)) (len_slO R_E_api_Expr a0 t23 (by kernel_rfl)) (by kernel_rfl) (f1 1 [(0, .pv (encSl R_E_api_Expr a0)), (1, aI a1), (5, aI ((sll a0).length : Int))] ?_))))))
   obtain ⟨k5, hk5, hm⟩ := withK_some hm
   refine mid (fun t H => (∃ (y2 : Bool) (y3 : Int) (y4 : Int), k5 y3 = some r ∧ t = mk 61 [(0, .pv (encSl R_E_api_Expr a0)), (1, aI a1), (5, aI y3), (6, aI y4), (23, aB y2)] ∧ H = [])) ?_ ?_
   ·
    rintro _ _ ⟨y2, y3, y4, hm, rfl, rfl⟩
    subst hk5
    refine sq (dn [(4, aI y3)] (wp_ret ?_))
    obtain rfl := Option.some.inj hm
    exact ⟨trivial, by kernel_rfl⟩
   refine sq (dn [(0, .pv (encSl R_E_api_Expr a0)), (1, aI a1), (5, aI ((sll a0).length : Int)), (6, aI 0)] (bq ?_))
   refine loopF (fun mm t H => (∃ (y8 : Int) (y9 : Int), ref22_Bulk_l5 n rc_ref22_Bulk a0 a1 k5 mm y8 y9 = some r ∧ t = mk 61 [(0, .pv (encSl R_E_api_Expr a0)), (1, aI a1), (5, aI y8), (6, aI y9)] ∧ H = [])) (⟨((sll a0).length : Int), 0, hm, rfl, rfl⟩) ?_ ?_
   · rintro _ _ ⟨y8, y9, hm, _⟩; exact nomatch hm
   rintro m10 _ _ ⟨y8, y9, hm, rfl, rfl⟩
   simp only [ref22_Bulk_l5] at hm
   refine sq (sq (rg (s1 2 [(16, .pv (encSl R_E_api_Expr a0)), (15, aI y9)] (dv 17 (v := aI ((sll a0).length : Int)) (len_slO R_E_api_Expr a0 t23 (by kernel_rfl)) (by kernel_rfl) (s1 2 [(19, aB (decide (y9 < ((sll a0).length : Int)))), (18, aB (decide (y9 < ((sll a0).length : Int))))] ?_)))))
   refine segP (decide (y9 < ((sll a0).length : Int))) [19, 18] (fun b => [(23, aB (b && (decide (y8 ≤ a1)))), (22, ifA b (aB (decide (y8 ≤ a1))) (.undef)), (21, ifA b (aI a1) (.undef)), (20, ifA b (aI y8) (.undef))]) 4 (by kernel_rfl) (by kernel_rfl) (by kernel_rfl) (fin [(0, .pv (encSl R_E_api_Expr a0)), (1, aI a1), (5, aI y8), (6, aI y9), (23, aB ((decide (y9 < ((sll a0).length : Int))) && (decide (y8 ≤ a1))))] rfl (by kernel_rfl) ?_)
   rcases bif_some hm with ⟨h11, hm⟩ | ⟨h11, hm⟩
   ·
    refine c1 h11 (wp_skip (sq (bq ?_)))
    refine sq (sq (rg (s1 2 [(27, aI y9), (26, .pv (encSl R_E_api_Expr a0))] ?_)))
    obtain ⟨x12, h13, hm⟩ := bs hm
    refine dv 28 (v := .pv (.ptr (R_api_Expr (un_api_Expr x12)) 0)) (ia_slE R_E_api_Expr a0 .i64 t23 t49 h13 (R_un_api_Expr x12) rfl (by kernel_rfl)) (by kernel_rfl) (f1 6 [(0, .pv (encSl R_E_api_Expr a0)), (1, aI a1), (5, aI y8), (6, aI y9), (34, aB (decide (((((un_api_Expr x12).fConst).fText).size : Int) > a1)))] ?_)
    rcases bif_some hm with ⟨h14, hm⟩ | ⟨h14, hm⟩
    ·
     refine c1 h14 (sq (dn [(4, aI (IntKind.wrap .i64 (a1 + 1)))] (wp_ret ?_)))
     obtain rfl := Option.some.inj hm
     exact ⟨trivial, by kernel_rfl⟩
    ·
     refine c0 h14 (wp_skip (sq (rg (s1 3 [(39, aI y9), (38, .pv (encSl R_E_api_Expr a0)), (37, aI y8)] (dv 40 (v := .pv (.ptr (R_api_Expr (un_api_Expr x12)) 0)) (ia_slE R_E_api_Expr a0 .i64 t23 t49 h13 (R_un_api_Expr x12) rfl (by kernel_rfl)) (by kernel_rfl) (f1 6 [(0, .pv (encSl R_E_api_Expr a0)), (1, aI a1), (5, aI (IntKind.wrap .i64 (y8 + ((((un_api_Expr x12).fConst).fText).size : Int)))), (6, aI y9)] (sq (dn [(0, .pv (encSl R_E_api_Expr a0)), (1, aI a1), (5, aI (IntKind.wrap .i64 (y8 + ((((un_api_Expr x12).fConst).fText).size : Int)))), (6, aI y9), (48, aB (decide ((IntKind.wrap .i64 (y8 + ((((un_api_Expr x12).fConst).fText).size : Int))) ≤ a1)))] ?_))))))))
     rcases bif_some hm with ⟨h15, hm⟩ | ⟨h15, hm⟩
     ·
      refine c1 h15 (rg (s1 3 [(51, aI y9), (50, .pv (encSl R_E_api_Expr a0)), (49, aI (IntKind.wrap .i64 (y8 + ((((un_api_Expr x12).fConst).fText).size : Int))))] (dv 52 (v := .pv (.ptr (R_api_Expr (un_api_Expr x12)) 0)) (ia_slE R_E_api_Expr a0 .i64 t23 t49 h13 (R_un_api_Expr x12) rfl (by kernel_rfl)) (by kernel_rfl) (s1 5 [(57, aI (IntKind.wrap .i64 (a1 - (IntKind.wrap .i64 (y8 + ((((un_api_Expr x12).fConst).fText).size : Int)))))), (56, aI (IntKind.wrap .i64 (y8 + ((((un_api_Expr x12).fConst).fText).size : Int)))), (55, aI a1), (54, .pv (encSl R_E_api_Expr ((un_api_Expr x12).fKids))), (53, .pv (.ptr (R_api_Expr (un_api_Expr x12)) 7))] ?_))))
      obtain ⟨x16, h17, hm⟩ := bs hm
      refine dv 58 (cpure (by kernel_rfl) (ih_ref22_Bulk h17) (by kernel_rfl) (by kernel_rfl) (by kernel_rfl)) (by kernel_rfl) (f1 2 [(0, .pv (encSl R_E_api_Expr a0)), (1, aI a1), (5, aI (IntKind.wrap .i64 ((IntKind.wrap .i64 (y8 + ((((un_api_Expr x12).fConst).fText).size : Int))) + x16))), (6, aI y9)] (dn [(0, .pv (encSl R_E_api_Expr a0)), (1, aI a1), (5, aI (IntKind.wrap .i64 ((IntKind.wrap .i64 (y8 + ((((un_api_Expr x12).fConst).fText).size : Int))) + x16))), (6, aI (IntKind.wrap .i64 (y9 + 1)))] ?_))
      exact ⟨_, _, tidyL [(0, .pv (encSl R_E_api_Expr a0)), (1, aI a1), (5, aI (IntKind.wrap .i64 ((IntKind.wrap .i64 (y8 + ((((un_api_Expr x12).fConst).fText).size : Int))) + x16))), (6, aI (IntKind.wrap .i64 (y9 + 1)))] [] (by kernel_rfl), ⟨(IntKind.wrap .i64 ((IntKind.wrap .i64 (y8 + ((((un_api_Expr x12).fConst).fText).size : Int))) + x16)), (IntKind.wrap .i64 (y9 + 1)), hm, rfl, rfl⟩⟩
     ·
      refine c0 h15 (wp_skip (dn [(0, .pv (encSl R_E_api_Expr a0)), (1, aI a1), (5, aI (IntKind.wrap .i64 (y8 + ((((un_api_Expr x12).fConst).fText).size : Int)))), (6, aI (IntKind.wrap .i64 (y9 + 1)))] ?_))
      exact ⟨_, _, tidyL [(0, .pv (encSl R_E_api_Expr a0)), (1, aI a1), (5, aI (IntKind.wrap .i64 (y8 + ((((un_api_Expr x12).fConst).fText).size : Int)))), (6, aI (IntKind.wrap .i64 (y9 + 1)))] [] (by kernel_rfl), ⟨(IntKind.wrap .i64 (y8 + ((((un_api_Expr x12).fConst).fText).size : Int))), (IntKind.wrap .i64 (y9 + 1)), hm, rfl, rfl⟩⟩
   ·
    refine c0 h11 (wp_exit ?_)
    exact ⟨((decide (y9 < ((sll a0).length : Int))) && (decide (y8 ≤ a1))), y8, y9, hm, rfl, rfl⟩
theorem okt_ref22_Bulk : ∀ (m : Nat), ∀ {n : Nat} {a0 : (Option (List E_api_Expr))} {a1 : Int} {r : Int} (hm : ref22_Bulk_t m n a0 a1 = some r), call G n 98 [.pv (encSl R_E_api_Expr a0), aI a1] [] = some (.ret (aI r), [])
  | 0 => by intros; rename_i hm; exact nomatch hm
  | m + 1 => fun hm =>
    okf_ref22_Bulk (okt_ref22_Bulk m) hm
theorem ok_ref22_Bulk {n : Nat} {a0 : (Option (List E_api_Expr))} {a1 : Int} {r : Int} (hm : ref22_Bulk n a0 a1 = some r) :
    call G n 98 [.pv (encSl R_E_api_Expr a0), aI a1] [] = some (.ret (aI r), []) := okt_ref22_Bulk n hm
theorem ok_law20_Great {n : Nat} {a0 : tabularyref20_Stat} {r : Bool} (hm : law20_Great n a0 = some r) :
    call G n 99 [.agg [aI a0.fRows, .pv (encSl R_tabularyref20_Col a0.fCols)]] [] = some (.ret (aB r), []) := by
  unfold law20_Great at hm
  obtain ⟨n, rfl, h0⟩ := at1_some hm
  replace hm := h0; clear h0
  refine callL 27 [(0, .agg [aI a0.fRows, .pv (encSl R_tabularyref20_Col a0.fCols)])] func99 rfl (by kernel_rfl) (sq (det [(1, .ptr 0 0)] [.box [aI a0.fRows, .pv (encSl R_tabularyref20_Col a0.fCols)] false] (by kernel_rfl) ?_))
  refine sq (sq (rg (s1 2 [(6, .pv (encSl R_tabularyref20_Col a0.fCols)), (5, .ptr 0 1)] (dv 7 (v := aI ((sll a0.fCols).length : Int)) (len_slO R_tabularyref20_Col a0.fCols t146 (by kernel_rfl)) (by kernel_rfl) (f1 1 [(1, .ptr 0 0), (8, aB (decide (((sll a0.fCols).length : Int) > 12)))] ?_)))))
  rcases bif_some hm with ⟨h1, hm⟩ | ⟨h1, hm⟩
  ·
   refine c1 h1 (sq (dn [(2, aB true)] (wp_ret ?_)))
   obtain rfl := Option.some.inj hm
   exact ⟨trivial, by kernel_rfl⟩
  ·
   refine c0 h1 (wp_skip ?_)
   obtain ⟨k4, hk4, hm⟩ := withK_some hm
   refine mid (fun t H => (∃ (y2 : Int) (y3 : Bool), k4 () = some r ∧ t = mk 27 [(10, .pv (encSl R_tabularyref20_Col a0.fCols)), (11, aI ((sll a0.fCols).length : Int)), (12, aI y2), (13, aB y3)] ∧ H = [.box [aI a0.fRows, .pv (encSl R_tabularyref20_Col a0.fCols)] false])) ?_ ?_
   ·
    rintro _ _ ⟨y2, y3, hm, rfl, rfl⟩
    subst hk4
    refine sq (dn [(2, aB false)] (wp_ret ?_))
    obtain rfl := Option.some.inj hm
    exact ⟨trivial, by kernel_rfl⟩
   refine sq (rg (s1 2 [(10, .pv (encSl R_tabularyref20_Col a0.fCols)), (9, .ptr 0 1)] (dv 11 (v := aI ((sll a0.fCols).length : Int)) (len_slO R_tabularyref20_Col a0.fCols t146 (by kernel_rfl)) (by kernel_rfl) (f1 1 [(10, .pv (encSl R_tabularyref20_Col a0.fCols)), (11, aI ((sll a0.fCols).length : Int)), (12, aI 0)] (bq ?_)))))
   refine loopF (fun mm t H => (∃ (y6 : Int), law20_Great_l4 n a0 k4 mm y6 = some r ∧ t = mk 27 [(10, .pv (encSl R_tabularyref20_Col a0.fCols)), (11, aI ((sll a0.fCols).length : Int)), (12, aI y6)] ∧ H = [.box [aI a0.fRows, .pv (encSl R_tabularyref20_Col a0.fCols)] false])) (⟨0, hm, rfl, rfl⟩) ?_ ?_
   · rintro _ _ ⟨y6, hm, _⟩; exact nomatch hm
   rintro m7 _ _ ⟨y6, hm, rfl, rfl⟩
   simp only [law20_Great_l4] at hm
   refine sq (dn [(10, .pv (encSl R_tabularyref20_Col a0.fCols)), (11, aI ((sll a0.fCols).length : Int)), (12, aI y6), (13, aB (decide (y6 < ((sll a0.fCols).length : Int))))] ?_)
   refine sq ?_
   rcases bif_some hm with ⟨h8, hm⟩ | ⟨h8, hm⟩
   ·
    refine c1 h8 (wp_skip (sq (bq (sq (rg ?_)))))
    obtain ⟨x9, h10, hm⟩ := bs hm
    refine dv 14 (v := .pv (.ptr (R_tabularyref20_Col x9) 0)) (ia_slO R_tabularyref20_Col a0.fCols .i64 t146 t212 h10 rfl (by kernel_rfl)) (by kernel_rfl) (stf 3 [(4, .ptr 1 0), (10, .pv (encSl R_tabularyref20_Col a0.fCols)), (11, aI ((sll a0.fCols).length : Int)), (12, aI y6)] [.box [aI a0.fRows, .pv (encSl R_tabularyref20_Col a0.fCols)] false, .box ([aI x9.fKind, aI x9.fNulls, aI x9.fDistinct, .pv (encSl R_tabularyref19_Bucket x9.fHist), .pv (encSl R_api_Value x9.fSample)] ++ (aA .u8 64 x9.fSketch)) false] (by kernel_rfl) (sq (rg (s1 2 [(17, .pv (encSl R_tabularyref19_Bucket x9.fHist)), (16, .ptr 1 3)] (dv 18 (v := aI ((sll x9.fHist).length : Int)) (len_slO R_tabularyref19_Bucket x9.fHist t210 (by kernel_rfl)) (by kernel_rfl) (s1 2 [(20, aB (decide (((sll x9.fHist).length : Int) > 60))), (19, aB (decide (((sll x9.fHist).length : Int) > 60)))] ?_))))))
    refine seg (decide (((sll x9.fHist).length : Int) > 60)) [20, 19] (fun b => [(25, aB (b || (decide (((sll x9.fSample).length : Int) > 70)))), (24, ifA b (.undef) (aB (decide (((sll x9.fSample).length : Int) > 70)))), (23, ifA b (.undef) (aI ((sll x9.fSample).length : Int))), (22, ifA b (.undef) (.pv (encSl R_api_Value x9.fSample))), (21, ifA b (.undef) (.ptr 1 4))]) 10 (by kernel_rfl) ?_ ?_ ?_
    ·
     intro Q h
     refine s1 5 [(25, aB true), (24, .undef), (23, .undef), (22, .undef), (21, .undef)] ?_
     exact sameN (by kernel_rfl) (by kernel_rfl) h
    ·
     intro Q h
     refine s1 2 [(22, .pv (encSl R_api_Value x9.fSample)), (21, .ptr 1 4)] (dv 23 (v := aI ((sll x9.fSample).length : Int)) (len_slO R_api_Value x9.fSample t151 (by kernel_rfl)) (by kernel_rfl) (s1 2 [(25, aB (decide (((sll x9.fSample).length : Int) > 70))), (24, aB (decide (((sll x9.fSample).length : Int) > 70)))] ?_))
     exact sameN (by kernel_rfl) (by kernel_rfl) h
    refine fin [(10, .pv (encSl R_tabularyref20_Col a0.fCols)), (11, aI ((sll a0.fCols).length : Int)), (12, aI y6), (25, aB ((decide (((sll x9.fHist).length : Int) > 60)) || (decide (((sll x9.fSample).length : Int) > 70))))] rfl (by kernel_rfl) ?_
    rcases bif_some hm with ⟨h11, hm⟩ | ⟨h11, hm⟩
    ·
     refine c1 h11 (sq (dn [(2, aB true)] (wp_ret ?_)))
     obtain rfl := Option.some.inj hm
     exact ⟨trivial, by kernel_rfl⟩
    ·
     refine c0 h11 (wp_skip (dn [(10, .pv (encSl R_tabularyref20_Col a0.fCols)), (11, aI ((sll a0.fCols).length : Int)), (12, aI (IntKind.wrap .i64 (y6 + 1)))] ?_))
     exact ⟨_, _, tidyL [(10, .pv (encSl R_tabularyref20_Col a0.fCols)), (11, aI ((sll a0.fCols).length : Int)), (12, aI (IntKind.wrap .i64 (y6 + 1)))] [.box [aI a0.fRows, .pv (encSl R_tabularyref20_Col a0.fCols)] false] (by kernel_rfl), ⟨(IntKind.wrap .i64 (y6 + 1)), hm, rfl, rfl⟩⟩
   ·
    refine c0 h8 (wp_exit ?_)
    exact ⟨y6, (decide (y6 < ((sll a0.fCols).length : Int))), hm, rfl, rfl⟩
theorem ok_law31_Great {n : Nat} {a0 : (Option (List E_api_Expr))} {a1 : (Option (List tabularyref20_Stat))} {r : Bool} (hm : law31_Great n a0 a1 = some r) :
    call G n 19 [.pv (encSl R_E_api_Expr a0), .pv (encSl R_tabularyref20_Stat a1)] [] = some (.ret (aB r), []) := by
  unfold law31_Great at hm
  obtain ⟨n, rfl, h0⟩ := at1_some hm
  replace hm := h0; clear h0
  refine callL 24 [(0, .pv (encSl R_E_api_Expr a0)), (1, .pv (encSl R_tabularyref20_Stat a1))] func19 rfl (by kernel_rfl) (sq (dn [(0, .pv (encSl R_E_api_Expr a0)), (1, .pv (encSl R_tabularyref20_Stat a1))] ?_))
  refine sq (sq (rg (s1 1 [(7, .pv (encSl R_E_api_Expr a0))] ?_)))
  obtain ⟨x1, h2, hm⟩ := bs hm
  refine dv 8 (cpure (by kernel_rfl) (ok_ref22_Bulk h2) (by kernel_rfl) (by kernel_rfl) (by kernel_rfl)) (by kernel_rfl) (s1 2 [(10, aB (decide (x1 > 400))), (9, aB (decide (x1 > 400)))] ?_)
  refine seg (decide (x1 > 400)) [10, 9] (fun b => [(14, aB (b || (decide (((sll a1).length : Int) > 13)))), (13, ifA b (.undef) (aB (decide (((sll a1).length : Int) > 13)))), (12, ifA b (.undef) (aI ((sll a1).length : Int))), (11, ifA b (.undef) (.pv (encSl R_tabularyref20_Stat a1)))]) 8 (by kernel_rfl) ?_ ?_ ?_
  ·
   intro Q h
   refine s1 4 [(14, aB true), (13, .undef), (12, .undef), (11, .undef)] ?_
   exact sameN (by kernel_rfl) (by kernel_rfl) h
  ·
   intro Q h
   refine s1 1 [(11, .pv (encSl R_tabularyref20_Stat a1))] (dv 12 (v := aI ((sll a1).length : Int)) (len_slO R_tabularyref20_Stat a1 t51 (by kernel_rfl)) (by kernel_rfl) (s1 2 [(14, aB (decide (((sll a1).length : Int) > 13))), (13, aB (decide (((sll a1).length : Int) > 13)))] ?_))
   exact sameN (by kernel_rfl) (by kernel_rfl) h
  refine fin [(1, .pv (encSl R_tabularyref20_Stat a1)), (14, aB ((decide (x1 > 400)) || (decide (((sll a1).length : Int) > 13))))] rfl (by kernel_rfl) ?_
  rcases bif_some hm with ⟨h3, hm⟩ | ⟨h3, hm⟩
  ·
   refine c1 h3 (sq (dn [(4, aB true)] (wp_ret ?_)))
   obtain rfl := Option.some.inj hm
   exact ⟨trivial, by kernel_rfl⟩
  ·
   refine c0 h3 (wp_skip ?_)
   obtain ⟨k6, hk6, hm⟩ := withK_some hm
   refine mid (fun t H => (∃ (y4 : Int) (y5 : Bool), k6 () = some r ∧ t = mk 24 [(15, .pv (encSl R_tabularyref20_Stat a1)), (16, aI ((sll a1).length : Int)), (17, aI y4), (18, aB y5)] ∧ H = [])) ?_ ?_
   ·
    rintro _ _ ⟨y4, y5, hm, rfl, rfl⟩
    subst hk6
    refine sq (dn [(4, aB false)] (wp_ret ?_))
    obtain rfl := Option.some.inj hm
    exact ⟨trivial, by kernel_rfl⟩
   refine sq (rg (s1 1 [(15, .pv (encSl R_tabularyref20_Stat a1))] (dv 16 (v := aI ((sll a1).length : Int)) (len_slO R_tabularyref20_Stat a1 t51 (by kernel_rfl)) (by kernel_rfl) (f1 1 [(15, .pv (encSl R_tabularyref20_Stat a1)), (16, aI ((sll a1).length : Int)), (17, aI 0)] (bq ?_)))))
   refine loopF (fun mm t H => (∃ (y8 : Int), law31_Great_l4 n a1 k6 mm y8 = some r ∧ t = mk 24 [(15, .pv (encSl R_tabularyref20_Stat a1)), (16, aI ((sll a1).length : Int)), (17, aI y8)] ∧ H = [])) (⟨0, hm, rfl, rfl⟩) ?_ ?_
   · rintro _ _ ⟨y8, hm, _⟩; exact nomatch hm
   rintro m9 _ _ ⟨y8, hm, rfl, rfl⟩
   simp only [law31_Great_l4] at hm
   refine sq (dn [(15, .pv (encSl R_tabularyref20_Stat a1)), (16, aI ((sll a1).length : Int)), (17, aI y8), (18, aB (decide (y8 < ((sll a1).length : Int))))] ?_)
   refine sq ?_
   rcases bif_some hm with ⟨h10, hm⟩ | ⟨h10, hm⟩
   ·
    refine c1 h10 (wp_skip (sq (bq (sq (rg ?_)))))
    obtain ⟨x11, h12, hm⟩ := bs hm
    refine dv 19 (v := .pv (.ptr (R_tabularyref20_Stat x11) 0)) (ia_slO R_tabularyref20_Stat a1 .i64 t51 t148 h12 rfl (by kernel_rfl)) (by kernel_rfl) (stf 3 [(6, .ptr 0 0), (15, .pv (encSl R_tabularyref20_Stat a1)), (16, aI ((sll a1).length : Int)), (17, aI y8)] [.box [aI x11.fRows, .pv (encSl R_tabularyref20_Col x11.fCols)] false] (by kernel_rfl) (sq (rg (s1 1 [(21, .agg [aI x11.fRows, .pv (encSl R_tabularyref20_Col x11.fCols)])] ?_))))
    obtain ⟨x13, h14, hm⟩ := bs hm
    refine dv 22 (cpure (by kernel_rfl) (ok_law20_Great h14) (by kernel_rfl) (by kernel_rfl) (by kernel_rfl)) (by kernel_rfl) (fin [(15, .pv (encSl R_tabularyref20_Stat a1)), (16, aI ((sll a1).length : Int)), (17, aI y8), (22, aB x13)] rfl (by kernel_rfl) ?_)
    rcases bif_some hm with ⟨h15, hm⟩ | ⟨h15, hm⟩
    ·
     refine c1 h15 (sq (dn [(4, aB true)] (wp_ret ?_)))
     obtain rfl := Option.some.inj hm
     exact ⟨trivial, by kernel_rfl⟩
    ·
     refine c0 h15 (wp_skip (dn [(15, .pv (encSl R_tabularyref20_Stat a1)), (16, aI ((sll a1).length : Int)), (17, aI (IntKind.wrap .i64 (y8 + 1)))] ?_))
     exact ⟨_, _, tidyL [(15, .pv (encSl R_tabularyref20_Stat a1)), (16, aI ((sll a1).length : Int)), (17, aI (IntKind.wrap .i64 (y8 + 1)))] [] (by kernel_rfl), ⟨(IntKind.wrap .i64 (y8 + 1)), hm, rfl, rfl⟩⟩
   ·
    refine c0 h10 (wp_exit ?_)
    exact ⟨y8, (decide (y8 < ((sll a1).length : Int))), hm, rfl, rfl⟩
theorem run_law31_works : call G 3999999 20 [] [] = some (.ret (aB true), []) := by kernel_rfl
theorem ok_law31_works {n : Nat} {r : Bool} (hm : law31_works n = some r) :
    call G n 20 [] [] = some (.ret (aB r), []) := by
  unfold law31_works at hm
  have hn : n = 3999999 := by
    cases h : n == 3999999 with
    | true => exact eq_of_beq h
    | false => rw [h] at hm; cases hm
  subst hn
  have h2 : some true = some r := hm
  obtain rfl := Option.some.inj h2
  exact run_law31_works
theorem ok_law19_Given {n : Nat} {a0 : (Option (List tabularyref19_Bucket))} {r : (Option (List hist_Bucket))} (hm : law19_Given n a0 = some r) :
    call G n 157 [.pv (encSl R_tabularyref19_Bucket a0)] [] = some (.ret (.pv (encSl R_hist_Bucket r)), []) := by
  unfold law19_Given at hm
  obtain ⟨n, rfl, h0⟩ := at1_some hm
  replace hm := h0; clear h0
  refine callL 18 [(0, .pv (encSl R_tabularyref19_Bucket a0))] func157 rfl (by kernel_rfl) (sq (dn [(0, .pv (encSl R_tabularyref19_Bucket a0))] (sq (dn [(0, .pv (encSl R_tabularyref19_Bucket a0)), (3, .pv .nils)] ?_))))
  obtain ⟨k4, hk4, hm⟩ := withK_some hm
  refine mid (fun t H => (∃ (w1 : AV) (w2 : AV), k4 none = some r ∧ t = mk 18 [(3, .pv .nils), (6, .pv (encSl R_tabularyref19_Bucket a0)), (7, aI ((sll a0).length : Int)), (8, w1), (9, w2)] ∧ H = []) ∨ (∃ (y3 : (List hist_Bucket)) (w1 : AV) (w2 : AV), k4 (some y3) = some r ∧ t = mk 18 [(3, aR 0 10 y3.length), (6, .pv (encSl R_tabularyref19_Bucket a0)), (7, aI ((sll a0).length : Int)), (8, w1), (9, w2)] ∧ H = [bR 247 10 R_hist_Bucket y3 0 0])) ?_ ?_
  ·
   rintro _ _ (⟨w1, w2, hm, rfl, rfl⟩ | ⟨y3, w1, w2, hm, rfl, rfl⟩)
   ·
    subst hk4
    refine sq (dn [(2, .pv .nils)] (wp_ret ?_))
    obtain rfl := Option.some.inj hm
    exact ⟨trivial, by kernel_rfl⟩
   ·
    subst hk4
    refine sq (dn [(2, aR 0 10 y3.length)] (wp_ret ?_))
    obtain rfl := Option.some.inj hm
    exact ret_pure (v := aR 0 10 y3.length) trivial rfl (by kernel_rfl) (pA_ref (pur_ref' (n := y3.length) (id := 0) (l := y3) (R := R_hist_Bucket) rfl rfl (Nat.zero_le _)))
  refine sq (rg (s1 1 [(6, .pv (encSl R_tabularyref19_Bucket a0))] (dv 7 (v := aI ((sll a0).length : Int)) (len_slO R_tabularyref19_Bucket a0 t210 (by kernel_rfl)) (by kernel_rfl) (f1 1 [(3, .pv .nils), (6, .pv (encSl R_tabularyref19_Bucket a0)), (7, aI ((sll a0).length : Int)), (8, aI 0)] (bq ?_)))))
  refine loopF (fun mm t H => (∃ (y9 : Int), law19_Given_l3 n a0 k4 mm none y9 = some r ∧ t = mk 18 [(3, .pv .nils), (6, .pv (encSl R_tabularyref19_Bucket a0)), (7, aI ((sll a0).length : Int)), (8, aI y9)] ∧ H = []) ∨ (∃ (y8 : (List hist_Bucket)) (y9 : Int), law19_Given_l3 n a0 k4 mm (some y8) y9 = some r ∧ t = mk 18 [(3, aR 0 10 y8.length), (6, .pv (encSl R_tabularyref19_Bucket a0)), (7, aI ((sll a0).length : Int)), (8, aI y9)] ∧ H = [bR 247 10 R_hist_Bucket y8 0 0])) (.inl ⟨0, hm, rfl, rfl⟩) ?_ ?_
  · rintro _ _ (⟨y9, hm, _⟩ | ⟨y8, y9, hm, _⟩) <;> exact nomatch hm
  rintro m10 _ _ (⟨y9, hm, rfl, rfl⟩ | ⟨y8, y9, hm, rfl, rfl⟩)
  ·
   simp only [law19_Given_l3] at hm
   refine sq (dn [(3, .pv .nils), (6, .pv (encSl R_tabularyref19_Bucket a0)), (7, aI ((sll a0).length : Int)), (8, aI y9), (9, aB (decide (y9 < ((sll a0).length : Int))))] ?_)
   refine sq ?_
   rcases bif_some hm with ⟨h11, hm⟩ | ⟨h11, hm⟩
   ·
    refine c1 h11 (wp_skip (sq (bq (sq (rg ?_)))))
    obtain ⟨x12, h13, hm⟩ := bs hm
    refine dv 10 (v := .pv (.ptr (R_tabularyref19_Bucket x12) 0)) (ia_slO R_tabularyref19_Bucket a0 .i64 t210 t246 h13 rfl (by kernel_rfl)) (by kernel_rfl) (stf 3 [(3, .pv .nils), (5, .ptr 0 0), (6, .pv (encSl R_tabularyref19_Bucket a0)), (7, aI ((sll a0).length : Int)), (8, aI y9)] [.box [aI x12.fLow.fKind, aI x12.fLow.fInt, aF x12.fLow.fFloat, aS x12.fLow.fText, aI x12.fHigh.fKind, aI x12.fHigh.fInt, aF x12.fHigh.fFloat, aS x12.fHigh.fText, aI x12.fCount, aI x12.fDistinct] false] (by kernel_rfl) (rg (st 3 [(14, aR 1 10 1), (13, .agg [aI x12.fLow.fKind, aI x12.fLow.fInt, aF x12.fLow.fFloat, aS x12.fLow.fText, aI x12.fHigh.fKind, aI x12.fHigh.fInt, aF x12.fHigh.fFloat, aS x12.fHigh.fText, aI x12.fCount, aI x12.fDistinct]), (12, .pv .nils)] [.box [aI x12.fLow.fKind, aI x12.fLow.fInt, aF x12.fLow.fFloat, aS x12.fLow.fText, aI x12.fHigh.fKind, aI x12.fHigh.fInt, aF x12.fHigh.fFloat, aS x12.fHigh.fText, aI x12.fCount, aI x12.fDistinct] false, bR 247 10 R_hist_Bucket ([(hist_Bucket.mk x12.fLow x12.fHigh x12.fCount x12.fDistinct)] : List hist_Bucket) 0 0] (by kernel_rfl) ?_)))
    obtain ⟨_, h14, hm⟩ := bs hm
    refine dO [(15, aR 2 10 (([(hist_Bucket.mk x12.fLow x12.fHigh x12.fCount x12.fDistinct)] : List hist_Bucket).length))] [.box [aI x12.fLow.fKind, aI x12.fLow.fInt, aF x12.fLow.fFloat, aS x12.fLow.fText, aI x12.fHigh.fKind, aI x12.fHigh.fInt, aF x12.fHigh.fFloat, aS x12.fHigh.fText, aI x12.fCount, aI x12.fDistinct] false, bR 247 10 R_hist_Bucket ([(hist_Bucket.mk x12.fLow x12.fHigh x12.fCount x12.fDistinct)] : List hist_Bucket) 0 0, bR 247 10 R_hist_Bucket ([(hist_Bucket.mk x12.fLow x12.fHigh x12.fCount x12.fDistinct)] : List hist_Bucket) 0 0] (app_nilO (u := 0) R_hist_Bucket ([(hist_Bucket.mk x12.fLow x12.fHigh x12.fCount x12.fDistinct)] : List hist_Bucket) (b := 96) t150 t247 rfl rfl rfl (fun _ => rfl) rfl h14 (show srcRows (aR 1 10 1) _ = some (([(hist_Bucket.mk x12.fLow x12.fHigh x12.fCount x12.fDistinct)] : List hist_Bucket).map R_hist_Bucket) from by kernel_rfl) (by kernel_rfl)) (by kernel_rfl) (f1 1 [(3, aR 2 10 (([(hist_Bucket.mk x12.fLow x12.fHigh x12.fCount x12.fDistinct)] : List hist_Bucket).length)), (6, .pv (encSl R_tabularyref19_Bucket a0)), (7, aI ((sll a0).length : Int)), (8, aI y9)] (dn [(3, aR 2 10 (([(hist_Bucket.mk x12.fLow x12.fHigh x12.fCount x12.fDistinct)] : List hist_Bucket).length)), (6, .pv (encSl R_tabularyref19_Bucket a0)), (7, aI ((sll a0).length : Int)), (8, aI (IntKind.wrap .i64 (y9 + 1)))] ?_))
    exact ⟨_, _, tidyL [(3, aR 0 10 (([(hist_Bucket.mk x12.fLow x12.fHigh x12.fCount x12.fDistinct)] : List hist_Bucket).length)), (6, .pv (encSl R_tabularyref19_Bucket a0)), (7, aI ((sll a0).length : Int)), (8, aI (IntKind.wrap .i64 (y9 + 1)))] [bR 247 10 R_hist_Bucket ([(hist_Bucket.mk x12.fLow x12.fHigh x12.fCount x12.fDistinct)] : List hist_Bucket) 0 0] (by kernel_rfl), .inr (⟨([(hist_Bucket.mk x12.fLow x12.fHigh x12.fCount x12.fDistinct)] : List hist_Bucket), (IntKind.wrap .i64 (y9 + 1)), hm, rfl, rfl⟩)⟩
   ·
    refine c0 h11 (wp_exit ?_)
    exact .inl ⟨aI y9, aB (decide (y9 < ((sll a0).length : Int))), hm, (mk_same (by kernel_rfl)), rfl⟩
  ·
   simp only [law19_Given_l3] at hm
   refine sq (dn [(3, aR 0 10 y8.length), (6, .pv (encSl R_tabularyref19_Bucket a0)), (7, aI ((sll a0).length : Int)), (8, aI y9), (9, aB (decide (y9 < ((sll a0).length : Int))))] ?_)
   refine sq ?_
   rcases bif_some hm with ⟨h15, hm⟩ | ⟨h15, hm⟩
   ·
    refine c1 h15 (wp_skip (sq (bq (sq (rg ?_)))))
    obtain ⟨x16, h17, hm⟩ := bs hm
    refine dv 10 (v := .pv (.ptr (R_tabularyref19_Bucket x16) 0)) (ia_slO R_tabularyref19_Bucket a0 .i64 t210 t246 h17 rfl (by kernel_rfl)) (by kernel_rfl) (stf 3 [(3, aR 0 10 y8.length), (5, .ptr 1 0), (6, .pv (encSl R_tabularyref19_Bucket a0)), (7, aI ((sll a0).length : Int)), (8, aI y9)] [bR 247 10 R_hist_Bucket y8 0 0, .box [aI x16.fLow.fKind, aI x16.fLow.fInt, aF x16.fLow.fFloat, aS x16.fLow.fText, aI x16.fHigh.fKind, aI x16.fHigh.fInt, aF x16.fHigh.fFloat, aS x16.fHigh.fText, aI x16.fCount, aI x16.fDistinct] false] (by kernel_rfl) (rg (st 3 [(14, aR 2 10 1), (13, .agg [aI x16.fLow.fKind, aI x16.fLow.fInt, aF x16.fLow.fFloat, aS x16.fLow.fText, aI x16.fHigh.fKind, aI x16.fHigh.fInt, aF x16.fHigh.fFloat, aS x16.fHigh.fText, aI x16.fCount, aI x16.fDistinct]), (12, aR 0 10 y8.length)] [bR 247 10 R_hist_Bucket y8 0 0, .box [aI x16.fLow.fKind, aI x16.fLow.fInt, aF x16.fLow.fFloat, aS x16.fLow.fText, aI x16.fHigh.fKind, aI x16.fHigh.fInt, aF x16.fHigh.fFloat, aS x16.fHigh.fText, aI x16.fCount, aI x16.fDistinct] false, bR 247 10 R_hist_Bucket ([(hist_Bucket.mk x16.fLow x16.fHigh x16.fCount x16.fDistinct)] : List hist_Bucket) 0 0] (by kernel_rfl) ?_)))
    obtain ⟨_, h18, hm⟩ := bs hm
    refine dO [(15, aR 0 10 ((y8 ++ ([(hist_Bucket.mk x16.fLow x16.fHigh x16.fCount x16.fDistinct)] : List hist_Bucket)).length))] [bR 247 10 R_hist_Bucket (y8 ++ ([(hist_Bucket.mk x16.fLow x16.fHigh x16.fCount x16.fDistinct)] : List hist_Bucket)) 0 0, .box [aI x16.fLow.fKind, aI x16.fLow.fInt, aF x16.fLow.fFloat, aS x16.fLow.fText, aI x16.fHigh.fKind, aI x16.fHigh.fInt, aF x16.fHigh.fFloat, aS x16.fHigh.fText, aI x16.fCount, aI x16.fDistinct] false, bR 247 10 R_hist_Bucket ([(hist_Bucket.mk x16.fLow x16.fHigh x16.fCount x16.fDistinct)] : List hist_Bucket) 0 0] (app_refO (u := 0) (n := y8.length) (id := 0) R_hist_Bucket y8 ([(hist_Bucket.mk x16.fLow x16.fHigh x16.fCount x16.fDistinct)] : List hist_Bucket) (b := 96) t150 t247 rfl rfl rfl (fun _ => rfl) rfl h18 rfl rfl (Nat.zero_le _) (show srcRows (aR 2 10 1) _ = some (([(hist_Bucket.mk x16.fLow x16.fHigh x16.fCount x16.fDistinct)] : List hist_Bucket).map R_hist_Bucket) from by kernel_rfl) (by kernel_rfl)) (by kernel_rfl) (f1 1 [(3, aR 0 10 ((y8 ++ ([(hist_Bucket.mk x16.fLow x16.fHigh x16.fCount x16.fDistinct)] : List hist_Bucket)).length)), (6, .pv (encSl R_tabularyref19_Bucket a0)), (7, aI ((sll a0).length : Int)), (8, aI y9)] (dn [(3, aR 0 10 ((y8 ++ ([(hist_Bucket.mk x16.fLow x16.fHigh x16.fCount x16.fDistinct)] : List hist_Bucket)).length)), (6, .pv (encSl R_tabularyref19_Bucket a0)), (7, aI ((sll a0).length : Int)), (8, aI (IntKind.wrap .i64 (y9 + 1)))] ?_))
    exact ⟨_, _, tidyL [(3, aR 0 10 ((y8 ++ ([(hist_Bucket.mk x16.fLow x16.fHigh x16.fCount x16.fDistinct)] : List hist_Bucket)).length)), (6, .pv (encSl R_tabularyref19_Bucket a0)), (7, aI ((sll a0).length : Int)), (8, aI (IntKind.wrap .i64 (y9 + 1)))] [bR 247 10 R_hist_Bucket (y8 ++ ([(hist_Bucket.mk x16.fLow x16.fHigh x16.fCount x16.fDistinct)] : List hist_Bucket)) 0 0] (by kernel_rfl), .inr (⟨(y8 ++ ([(hist_Bucket.mk x16.fLow x16.fHigh x16.fCount x16.fDistinct)] : List hist_Bucket)), (IntKind.wrap .i64 (y9 + 1)), hm, rfl, rfl⟩)⟩
   ·
    refine c0 h15 (wp_exit ?_)
    exact .inr (⟨y8, aI y9, aB (decide (y9 < ((sll a0).length : Int))), hm, (mk_same (by kernel_rfl)), rfl⟩)
theorem ok_law20_Given {n : Nat} {a0 : tabularyref20_Stat} {r : stat_Stat} (hm : law20_Given n a0 = some r) :
    call G n 103 [.agg [aI a0.fRows, .pv (encSl R_tabularyref20_Col a0.fCols)]] [] = some (.ret (.agg [aI r.fRows, .pv (encSl R_stat_Col r.fCols)]), []) := by
  unfold law20_Given at hm
  obtain ⟨n, rfl, h0⟩ := at1_some hm
  replace hm := h0; clear h0
  refine callL 40 [(0, .agg [aI a0.fRows, .pv (encSl R_tabularyref20_Col a0.fCols)])] func103 rfl (by kernel_rfl) (sq (det [(1, .ptr 0 0), (2, .ptr 1 0)] [.box [aI a0.fRows, .pv (encSl R_tabularyref20_Col a0.fCols)] false, .box [aI 0, .pv .nils] false] (by kernel_rfl) (sq (det [(1, .ptr 0 0), (2, .ptr 1 0), (3, .ptr 2 0)] [.box [aI a0.fRows, .pv (encSl R_tabularyref20_Col a0.fCols)] false, .box [aI 0, .pv .nils] false, .box [aI a0.fRows, .pv .nils] false] (by kernel_rfl) ?_))))
  obtain ⟨k4, hk4, hm⟩ := withK_some hm
  refine mid (fun t H => (∃ (w1 : AV) (w2 : AV), k4 none = some r ∧ t = mk 40 [(2, .ptr 1 0), (3, .ptr 2 0), (10, .pv (encSl R_tabularyref20_Col a0.fCols)), (11, aI ((sll a0.fCols).length : Int)), (12, w1), (13, w2)] ∧ H = [.box [aI a0.fRows, .pv (encSl R_tabularyref20_Col a0.fCols)] false, .box [aI 0, .pv .nils] false, .box [aI a0.fRows, .pv .nils] false]) ∨ (∃ (y3 : (List stat_Col)) (w1 : AV) (w2 : AV), k4 (some y3) = some r ∧ t = mk 40 [(2, .ptr 1 0), (3, .ptr 2 0), (10, .pv (encSl R_tabularyref20_Col a0.fCols)), (11, aI ((sll a0.fCols).length : Int)), (12, w1), (13, w2)] ∧ H = [.box [aI a0.fRows, .pv (encSl R_tabularyref20_Col a0.fCols)] false, .box [aI 0, .pv .nils] false, .box [aI a0.fRows, aR 3 69 y3.length] false, bR 156 69 R_stat_Col y3 0 0])) ?_ ?_
  ·
   rintro _ _ (⟨w1, w2, hm, rfl, rfl⟩ | ⟨y3, w1, w2, hm, rfl, rfl⟩)
   ·
    subst hk4
    refine sq (det [(2, .ptr 1 0)] [.box [aI a0.fRows, .pv (encSl R_tabularyref20_Col a0.fCols)] false, .box [aI a0.fRows, .pv .nils] false, .box [aI a0.fRows, .pv .nils] false] (by kernel_rfl) (wp_ret ?_))
    obtain rfl := Option.some.inj hm
    exact ⟨trivial, by kernel_rfl⟩
   ·
    subst hk4
    refine sq (det [(2, .ptr 1 0)] [.box [aI a0.fRows, .pv (encSl R_tabularyref20_Col a0.fCols)] false, .box [aI a0.fRows, aR 3 69 y3.length] false, .box [aI a0.fRows, aR 3 69 y3.length] false, bR 156 69 R_stat_Col y3 0 0] (by kernel_rfl) (wp_ret ?_))
    obtain rfl := Option.some.inj hm
    exact ret_pure (v := .agg [aI a0.fRows, aR 3 69 y3.length]) trivial rfl (by kernel_rfl) (pR_agg (purL_cons (pur_pv) (purL_cons (pur_ref' (n := y3.length) (id := 3) (l := y3) (R := R_stat_Col) rfl rfl (Nat.zero_le _)) (rfl))) (by kernel_rfl))
  refine sq (rg (s1 2 [(10, .pv (encSl R_tabularyref20_Col a0.fCols)), (9, .ptr 0 1)] (dv 11 (v := aI ((sll a0.fCols).length : Int)) (len_slO R_tabularyref20_Col a0.fCols t146 (by kernel_rfl)) (by kernel_rfl) (f1 1 [(2, .ptr 1 0), (3, .ptr 2 0), (10, .pv (encSl R_tabularyref20_Col a0.fCols)), (11, aI ((sll a0.fCols).length : Int)), (12, aI 0)] (bq ?_)))))
  refine loopF (fun mm t H => (∃ (y9 : Int), law20_Given_l3 n a0 k4 mm none y9 = some r ∧ t = mk 40 [(2, .ptr 1 0), (3, .ptr 2 0), (10, .pv (encSl R_tabularyref20_Col a0.fCols)), (11, aI ((sll a0.fCols).length : Int)), (12, aI y9)] ∧ H = [.box [aI a0.fRows, .pv (encSl R_tabularyref20_Col a0.fCols)] false, .box [aI 0, .pv .nils] false, .box [aI a0.fRows, .pv .nils] false]) ∨ (∃ (y8 : (List stat_Col)) (y9 : Int), law20_Given_l3 n a0 k4 mm (some y8) y9 = some r ∧ t = mk 40 [(2, .ptr 1 0), (3, .ptr 2 0), (10, .pv (encSl R_tabularyref20_Col a0.fCols)), (11, aI ((sll a0.fCols).length : Int)), (12, aI y9)] ∧ H = [.box [aI a0.fRows, .pv (encSl R_tabularyref20_Col a0.fCols)] false, .box [aI 0, .pv .nils] false, .box [aI a0.fRows, aR 3 69 y8.length] false, bR 156 69 R_stat_Col y8 0 0])) (.inl ⟨0, hm, rfl, rfl⟩) ?_ ?_
  · rintro _ _ (⟨y9, hm, _⟩ | ⟨y8, y9, hm, _⟩) <;> exact nomatch hm
  rintro m10 _ _ (⟨y9, hm, rfl, rfl⟩ | ⟨y8, y9, hm, rfl, rfl⟩)
  ·
   simp only [law20_Given_l3] at hm
   refine sq (dn [(2, .ptr 1 0), (3, .ptr 2 0), (10, .pv (encSl R_tabularyref20_Col a0.fCols)), (11, aI ((sll a0.fCols).length : Int)), (12, aI y9), (13, aB (decide (y9 < ((sll a0.fCols).length : Int))))] ?_)
   refine sq ?_
   rcases bif_some hm with ⟨h11, hm⟩ | ⟨h11, hm⟩
   ·
    refine c1 h11 (wp_skip (sq (bq (sq (rg ?_)))))
    obtain ⟨x12, h13, hm⟩ := bs hm
    refine dv 14 (v := .pv (.ptr (R_tabularyref20_Col x12) 0)) (ia_slO R_tabularyref20_Col a0.fCols .i64 t146 t212 h13 rfl (by kernel_rfl)) (by kernel_rfl) (stf 3 [(2, .ptr 1 0), (3, .ptr 2 0), (5, .ptr 3 0), (10, .pv (encSl R_tabularyref20_Col a0.fCols)), (11, aI ((sll a0.fCols).length : Int)), (12, aI y9)] [.box [aI a0.fRows, .pv (encSl R_tabularyref20_Col a0.fCols)] false, .box [aI 0, .pv .nils] false, .box [aI a0.fRows, .pv .nils] false, .box ([aI x12.fKind, aI x12.fNulls, aI x12.fDistinct, .pv (encSl R_tabularyref19_Bucket x12.fHist), .pv (encSl R_api_Value x12.fSample)] ++ (aA .u8 64 x12.fSketch)) false] (by kernel_rfl) (rgd (shd 10 [(25, .pv (encSl R_tabularyref19_Bucket x12.fHist)), (24, .ptr 3 3), (23, aI x12.fDistinct), (22, .ptr 3 2), (21, aI x12.fNulls), (20, .ptr 3 1), (19, aI x12.fKind), (18, .ptr 3 0), (17, .pv .nils), (16, .ptr 2 1)] (by kernel_rfl) ?_)))
    obtain ⟨x14, h15, hm⟩ := bs hm
    refine dvd 26 (cpure (by kernel_rfl) (ok_law19_Given h15) (by kernel_rfl) (by kernel_rfl) (by kernel_rfl)) (by kernel_rfl) (std 3 [(29, .pv (encSl R_api_Value x12.fSample)), (28, .ptr 3 4), (27, aR 4 4 0)] [.box [aI a0.fRows, .pv (encSl R_tabularyref20_Col a0.fCols)] false, .box [aI 0, .pv .nils] false, .box [aI a0.fRows, .pv .nils] false, .box ([aI x12.fKind, aI x12.fNulls, aI x12.fDistinct, .pv (encSl R_tabularyref19_Bucket x12.fHist), .pv (encSl R_api_Value x12.fSample)] ++ (aA .u8 64 x12.fSketch)) false, bR 47 4 R_api_Value ([] : List api_Value) 0 0] (by kernel_rfl) ?_)
    rcases bif_some hm with ⟨h16, hm⟩ | ⟨h16, hm⟩
    ·
     obtain ⟨_, h17, hm⟩ := bs hm
     refine dvd 30 (v := aR 4 4 0) (app_ref0O (u := 0) (y := .pv (encSl R_api_Value x12.fSample)) (n := 0) (id := 4) R_api_Value ([] : List api_Value) (sll x12.fSample) (b := 40) t151 t47 rfl rfl rfl h16 h17 rfl (by first | rfl | assumption | omega | (simp only [List.length_set, List.length_append, List.length_cons, List.length_nil, List.length_replicate, List.length_drop] at * <;> omega)) (Nat.zero_le _) (src_sl (R := R_api_Value) (s := x12.fSample)) (by kernel_rfl)) (by kernel_rfl) (shd 4 [(34, .agg ([aI x12.fKind, aI x12.fNulls, aI x12.fDistinct, .pv (encSl R_hist_Bucket x14), aR 4 4 0] ++ (aA .u8 64 x12.fSketch))), (33, .agg (aA .u8 64 x12.fSketch)), (32, .agg (aA .u8 64 x12.fSketch)), (31, .ptr 3 5)] (by kernel_rfl) (dOd [(35, aR 5 69 1)] [.box [aI a0.fRows, .pv (encSl R_tabularyref20_Col a0.fCols)] false, .box [aI 0, .pv .nils] false, .box [aI a0.fRows, .pv .nils] false, .box ([aI x12.fKind, aI x12.fNulls, aI x12.fDistinct, .pv (encSl R_tabularyref19_Bucket x12.fHist), .pv (encSl R_api_Value x12.fSample)] ++ (aA .u8 64 x12.fSketch)) false, bR 47 4 R_api_Value ([] : List api_Value) 0 (max 0 (([] : List api_Value).map R_api_Value).length), bR 156 69 R_stat_Col ([(stat_Col.mk x12.fKind x12.fNulls x12.fDistinct x14 (some ([] : List api_Value)) (hll_Sketch.mk x12.fSketch))] : List stat_Col) 0 0] (led_purO (nid := 0) (t := 157) (len := 1) (is := [0]) (vs := [.agg ([aI x12.fKind, aI x12.fNulls, aI x12.fDistinct, .pv (encSl R_hist_Bucket x14), aR 4 4 0] ++ (aA .u8 64 x12.fSketch))]) (ps := [.agg ([aI x12.fKind, aI x12.fNulls, aI x12.fDistinct, .pv (encSl R_hist_Bucket x14), .pv (.sl (([] : List api_Value).map R_api_Value))] ++ (aA .u8 64 x12.fSketch))]) (R := [4]) (e := ⟨aR 5 69 1, [], [bR 156 69 R_stat_Col ([(stat_Col.mk x12.fKind x12.fNulls x12.fDistinct x14 (some ([] : List api_Value)) (hll_Sketch.mk x12.fSketch))] : List stat_Col) 0 0]⟩) (by kernel_rfl) (by kernel_rfl) (by kernel_rfl) (by kernel_rfl)) (by kernel_rfl) ?_))
     obtain ⟨_, h18, hm⟩ := bs hm
     refine dOd [(36, aR 6 69 (([(stat_Col.mk x12.fKind x12.fNulls x12.fDistinct x14 (some ([] : List api_Value)) (hll_Sketch.mk x12.fSketch))] : List stat_Col).length))] [.box [aI a0.fRows, .pv (encSl R_tabularyref20_Col a0.fCols)] false, .box [aI 0, .pv .nils] false, .box [aI a0.fRows, .pv .nils] false, .box ([aI x12.fKind, aI x12.fNulls, aI x12.fDistinct, .pv (encSl R_tabularyref19_Bucket x12.fHist), .pv (encSl R_api_Value x12.fSample)] ++ (aA .u8 64 x12.fSketch)) false, bR 47 4 R_api_Value ([] : List api_Value) 0 (max 0 (([] : List api_Value).map R_api_Value).length), bR 156 69 R_stat_Col ([(stat_Col.mk x12.fKind x12.fNulls x12.fDistinct x14 (some ([] : List api_Value)) (hll_Sketch.mk x12.fSketch))] : List stat_Col) 0 0, bR 156 69 R_stat_Col ([(stat_Col.mk x12.fKind x12.fNulls x12.fDistinct x14 (some ([] : List api_Value)) (hll_Sketch.mk x12.fSketch))] : List stat_Col) 0 0] (app_nilO (u := 0) R_stat_Col ([(stat_Col.mk x12.fKind x12.fNulls x12.fDistinct x14 (some ([] : List api_Value)) (hll_Sketch.mk x12.fSketch))] : List stat_Col) (b := 136) t157 t156 rfl rfl rfl (fun _ => rfl) rfl h18 (show srcRows (aR 5 69 1) _ = some (([(stat_Col.mk x12.fKind x12.fNulls x12.fDistinct x14 (some ([] : List api_Value)) (hll_Sketch.mk x12.fSketch))] : List stat_Col).map R_stat_Col) from by kernel_rfl) (by kernel_rfl)) (by kernel_rfl) (std 2 [(37, .ptr 2 1)] [.box [aI a0.fRows, .pv (encSl R_tabularyref20_Col a0.fCols)] false, .box [aI 0, .pv .nils] false, .box [aI a0.fRows, aR 6 69 (([(stat_Col.mk x12.fKind x12.fNulls x12.fDistinct x14 (some ([] : List api_Value)) (hll_Sketch.mk x12.fSketch))] : List stat_Col).length)] false, .box ([aI x12.fKind, aI x12.fNulls, aI x12.fDistinct, .pv (encSl R_tabularyref19_Bucket x12.fHist), .pv (encSl R_api_Value x12.fSample)] ++ (aA .u8 64 x12.fSketch)) false, bR 47 4 R_api_Value ([] : List api_Value) 0 (max 0 (([] : List api_Value).map R_api_Value).length), bR 156 69 R_stat_Col ([(stat_Col.mk x12.fKind x12.fNulls x12.fDistinct x14 (some ([] : List api_Value)) (hll_Sketch.mk x12.fSketch))] : List stat_Col) 0 0, bR 156 69 R_stat_Col ([(stat_Col.mk x12.fKind x12.fNulls x12.fDistinct x14 (some ([] : List api_Value)) (hll_Sketch.mk x12.fSketch))] : List stat_Col) 0 0] (by kernel_rfl) (find [(2, .ptr 1 0), (3, .ptr 2 0), (10, .pv (encSl R_tabularyref20_Col a0.fCols)), (11, aI ((sll a0.fCols).length : Int)), (12, aI y9)] rfl (by kernel_rfl) (by kernel_rfl) (dn [(2, .ptr 1 0), (3, .ptr 2 0), (10, .pv (encSl R_tabularyref20_Col a0.fCols)), (11, aI ((sll a0.fCols).length : Int)), (12, aI (IntKind.wrap .i64 (y9 + 1)))] ?_)))
     exact ⟨_, _, tidyL [(2, .ptr 1 0), (3, .ptr 2 0), (10, .pv (encSl R_tabularyref20_Col a0.fCols)), (11, aI ((sll a0.fCols).length : Int)), (12, aI (IntKind.wrap .i64 (y9 + 1)))] [.box [aI a0.fRows, .pv (encSl R_tabularyref20_Col a0.fCols)] false, .box [aI 0, .pv .nils] false, .box [aI a0.fRows, aR 3 69 (([(stat_Col.mk x12.fKind x12.fNulls x12.fDistinct x14 (some ([] : List api_Value)) (hll_Sketch.mk x12.fSketch))] : List stat_Col).length)] false, bR 156 69 R_stat_Col ([(stat_Col.mk x12.fKind x12.fNulls x12.fDistinct x14 (some ([] : List api_Value)) (hll_Sketch.mk x12.fSketch))] : List stat_Col) 0 0] (by kernel_rfl), .inr (⟨([(stat_Col.mk x12.fKind x12.fNulls x12.fDistinct x14 (some ([] : List api_Value)) (hll_Sketch.mk x12.fSketch))] : List stat_Col), (IntKind.wrap .i64 (y9 + 1)), hm, rfl, rfl⟩)⟩
    ·
     obtain ⟨_, h19, hm⟩ := bs hm
     refine dOd [(30, aR 4 4 ((([] : List api_Value) ++ (sll x12.fSample)).length))] [.box [aI a0.fRows, .pv (encSl R_tabularyref20_Col a0.fCols)] false, .box [aI 0, .pv .nils] false, .box [aI a0.fRows, .pv .nils] false, .box ([aI x12.fKind, aI x12.fNulls, aI x12.fDistinct, .pv (encSl R_tabularyref19_Bucket x12.fHist), .pv (encSl R_api_Value x12.fSample)] ++ (aA .u8 64 x12.fSketch)) false, bR 47 4 R_api_Value (([] : List api_Value) ++ (sll x12.fSample)) 0 0] (app_refO (u := 0) (n := 0) (id := 4) R_api_Value ([] : List api_Value) (sll x12.fSample) (b := 40) t151 t47 rfl rfl rfl (fun _ => rfl) h16 h19 rfl (by first | rfl | assumption | omega | (simp only [List.length_set, List.length_append, List.length_cons, List.length_nil, List.length_replicate, List.length_drop] at * <;> omega)) (Nat.zero_le _) (src_sl (R := R_api_Value) (s := x12.fSample)) (by kernel_rfl)) (by kernel_rfl) (shd 4 [(34, .agg ([aI x12.fKind, aI x12.fNulls, aI x12.fDistinct, .pv (encSl R_hist_Bucket x14), aR 4 4 ((([] : List api_Value) ++ (sll x12.fSample)).length)] ++ (aA .u8 64 x12.fSketch))), (33, .agg (aA .u8 64 x12.fSketch)), (32, .agg (aA .u8 64 x12.fSketch)), (31, .ptr 3 5)] (by kernel_rfl) (dOd [(35, aR 5 69 1)] [.box [aI a0.fRows, .pv (encSl R_tabularyref20_Col a0.fCols)] false, .box [aI 0, .pv .nils] false, .box [aI a0.fRows, .pv .nils] false, .box ([aI x12.fKind, aI x12.fNulls, aI x12.fDistinct, .pv (encSl R_tabularyref19_Bucket x12.fHist), .pv (encSl R_api_Value x12.fSample)] ++ (aA .u8 64 x12.fSketch)) false, bR 47 4 R_api_Value (([] : List api_Value) ++ (sll x12.fSample)) 0 (max 0 ((([] : List api_Value) ++ (sll x12.fSample)).map R_api_Value).length), bR 156 69 R_stat_Col ([(stat_Col.mk x12.fKind x12.fNulls x12.fDistinct x14 (some (([] : List api_Value) ++ (sll x12.fSample))) (hll_Sketch.mk x12.fSketch))] : List stat_Col) 0 0] (led_purO (nid := 0) (t := 157) (len := 1) (is := [0]) (vs := [.agg ([aI x12.fKind, aI x12.fNulls, aI x12.fDistinct, .pv (encSl R_hist_Bucket x14), aR 4 4 ((([] : List api_Value) ++ (sll x12.fSample)).length)] ++ (aA .u8 64 x12.fSketch))]) (ps := [.agg ([aI x12.fKind, aI x12.fNulls, aI x12.fDistinct, .pv (encSl R_hist_Bucket x14), .pv (.sl ((([] : List api_Value) ++ (sll x12.fSample)).map R_api_Value))] ++ (aA .u8 64 x12.fSketch))]) (R := [4]) (e := ⟨aR 5 69 1, [], [bR 156 69 R_stat_Col ([(stat_Col.mk x12.fKind x12.fNulls x12.fDistinct x14 (some (([] : List api_Value) ++ (sll x12.fSample))) (hll_Sketch.mk x12.fSketch))] : List stat_Col) 0 0]⟩) (by kernel_rfl) (pAs_cons (pA_agg (purL_cons (pur_pv) (purL_cons (pur_pv) (purL_cons (pur_pv) (purL_cons (pur_pv) (purL_cons (pur_ref' (n := (([] : List api_Value) ++ (sll x12.fSample)).length) (id := 4) (l := (([] : List api_Value) ++ (sll x12.fSample))) (R := R_api_Value) rfl rfl (Nat.zero_le _)) (purL_arr0))))))) (rfl)) (by kernel_rfl) (by kernel_rfl)) (by kernel_rfl) ?_))
     obtain ⟨_, h20, hm⟩ := bs hm
     refine dOd [(36, aR 6 69 (([(stat_Col.mk x12.fKind x12.fNulls x12.fDistinct x14 (some (([] : List api_Value) ++ (sll x12.fSample))) (hll_Sketch.mk x12.fSketch))] : List stat_Col).length))] [.box [aI a0.fRows, .pv (encSl R_tabularyref20_Col a0.fCols)] false, .box [aI 0, .pv .nils] false, .box [aI a0.fRows, .pv .nils] false, .box ([aI x12.fKind, aI x12.fNulls, aI x12.fDistinct, .pv (encSl R_tabularyref19_Bucket x12.fHist), .pv (encSl R_api_Value x12.fSample)] ++ (aA .u8 64 x12.fSketch)) false, bR 47 4 R_api_Value (([] : List api_Value) ++ (sll x12.fSample)) 0 (max 0 ((([] : List api_Value) ++ (sll x12.fSample)).map R_api_Value).length), bR 156 69 R_stat_Col ([(stat_Col.mk x12.fKind x12.fNulls x12.fDistinct x14 (some (([] : List api_Value) ++ (sll x12.fSample))) (hll_Sketch.mk x12.fSketch))] : List stat_Col) 0 0, bR 156 69 R_stat_Col ([(stat_Col.mk x12.fKind x12.fNulls x12.fDistinct x14 (some (([] : List api_Value) ++ (sll x12.fSample))) (hll_Sketch.mk x12.fSketch))] : List stat_Col) 0 0] (app_nilO (u := 0) R_stat_Col ([(stat_Col.mk x12.fKind x12.fNulls x12.fDistinct x14 (some (([] : List api_Value) ++ (sll x12.fSample))) (hll_Sketch.mk x12.fSketch))] : List stat_Col) (b := 136) t157 t156 rfl rfl rfl (fun _ => rfl) rfl h20 (show srcRows (aR 5 69 1) _ = some (([(stat_Col.mk x12.fKind x12.fNulls x12.fDistinct x14 (some (([] : List api_Value) ++ (sll x12.fSample))) (hll_Sketch.mk x12.fSketch))] : List stat_Col).map R_stat_Col) from by kernel_rfl) (by kernel_rfl)) (by kernel_rfl) (std 2 [(37, .ptr 2 1)] [.box [aI a0.fRows, .pv (encSl R_tabularyref20_Col a0.fCols)] false, .box [aI 0, .pv .nils] false, .box [aI a0.fRows, aR 6 69 (([(stat_Col.mk x12.fKind x12.fNulls x12.fDistinct x14 (some (([] : List api_Value) ++ (sll x12.fSample))) (hll_Sketch.mk x12.fSketch))] : List stat_Col).length)] false, .box ([aI x12.fKind, aI x12.fNulls, aI x12.fDistinct, .pv (encSl R_tabularyref19_Bucket x12.fHist), .pv (encSl R_api_Value x12.fSample)] ++ (aA .u8 64 x12.fSketch)) false, bR 47 4 R_api_Value (([] : List api_Value) ++ (sll x12.fSample)) 0 (max 0 ((([] : List api_Value) ++ (sll x12.fSample)).map R_api_Value).length), bR 156 69 R_stat_Col ([(stat_Col.mk x12.fKind x12.fNulls x12.fDistinct x14 (some (([] : List api_Value) ++ (sll x12.fSample))) (hll_Sketch.mk x12.fSketch))] : List stat_Col) 0 0, bR 156 69 R_stat_Col ([(stat_Col.mk x12.fKind x12.fNulls x12.fDistinct x14 (some (([] : List api_Value) ++ (sll x12.fSample))) (hll_Sketch.mk x12.fSketch))] : List stat_Col) 0 0] (by kernel_rfl) (find [(2, .ptr 1 0), (3, .ptr 2 0), (10, .pv (encSl R_tabularyref20_Col a0.fCols)), (11, aI ((sll a0.fCols).length : Int)), (12, aI y9)] rfl (by kernel_rfl) (by kernel_rfl) (dn [(2, .ptr 1 0), (3, .ptr 2 0), (10, .pv (encSl R_tabularyref20_Col a0.fCols)), (11, aI ((sll a0.fCols).length : Int)), (12, aI (IntKind.wrap .i64 (y9 + 1)))] ?_)))
     exact ⟨_, _, tidyL [(2, .ptr 1 0), (3, .ptr 2 0), (10, .pv (encSl R_tabularyref20_Col a0.fCols)), (11, aI ((sll a0.fCols).length : Int)), (12, aI (IntKind.wrap .i64 (y9 + 1)))] [.box [aI a0.fRows, .pv (encSl R_tabularyref20_Col a0.fCols)] false, .box [aI 0, .pv .nils] false, .box [aI a0.fRows, aR 3 69 (([(stat_Col.mk x12.fKind x12.fNulls x12.fDistinct x14 (some (([] : List api_Value) ++ (sll x12.fSample))) (hll_Sketch.mk x12.fSketch))] : List stat_Col).length)] false, bR 156 69 R_stat_Col ([(stat_Col.mk x12.fKind x12.fNulls x12.fDistinct x14 (some (([] : List api_Value) ++ (sll x12.fSample))) (hll_Sketch.mk x12.fSketch))] : List stat_Col) 0 0] (by kernel_rfl), .inr (⟨([(stat_Col.mk x12.fKind x12.fNulls x12.fDistinct x14 (some (([] : List api_Value) ++ (sll x12.fSample))) (hll_Sketch.mk x12.fSketch))] : List stat_Col), (IntKind.wrap .i64 (y9 + 1)), hm, rfl, rfl⟩)⟩
   ·
    refine c0 h11 (wp_exit ?_)
    exact .inl ⟨aI y9, aB (decide (y9 < ((sll a0.fCols).length : Int))), hm, (mk_same (by kernel_rfl)), rfl⟩
  ·
   simp only [law20_Given_l3] at hm
   refine sq (dn [(2, .ptr 1 0), (3, .ptr 2 0), (10, .pv (encSl R_tabularyref20_Col a0.fCols)), (11, aI ((sll a0.fCols).length : Int)), (12, aI y9), (13, aB (decide (y9 < ((sll a0.fCols).length : Int))))] ?_)
   refine sq ?_
   rcases bif_some hm with ⟨h21, hm⟩ | ⟨h21, hm⟩
   ·
    refine c1 h21 (wp_skip (sq (bq (sq (rg ?_)))))
    obtain ⟨x22, h23, hm⟩ := bs hm
    refine dv 14 (v := .pv (.ptr (R_tabularyref20_Col x22) 0)) (ia_slO R_tabularyref20_Col a0.fCols .i64 t146 t212 h23 rfl (by kernel_rfl)) (by kernel_rfl) (stf 3 [(2, .ptr 1 0), (3, .ptr 2 0), (5, .ptr 4 0), (10, .pv (encSl R_tabularyref20_Col a0.fCols)), (11, aI ((sll a0.fCols).length : Int)), (12, aI y9)] [.box [aI a0.fRows, .pv (encSl R_tabularyref20_Col a0.fCols)] false, .box [aI 0, .pv .nils] false, .box [aI a0.fRows, aR 3 69 y8.length] false, bR 156 69 R_stat_Col y8 0 0, .box ([aI x22.fKind, aI x22.fNulls, aI x22.fDistinct, .pv (encSl R_tabularyref19_Bucket x22.fHist), .pv (encSl R_api_Value x22.fSample)] ++ (aA .u8 64 x22.fSketch)) false] (by kernel_rfl) (rgd (shd 10 [(25, .pv (encSl R_tabularyref19_Bucket x22.fHist)), (24, .ptr 4 3), (23, aI x22.fDistinct), (22, .ptr 4 2), (21, aI x22.fNulls), (20, .ptr 4 1), (19, aI x22.fKind), (18, .ptr 4 0), (17, aR 3 69 y8.length), (16, .ptr 2 1)] (by kernel_rfl) ?_)))
    obtain ⟨x24, h25, hm⟩ := bs hm
    refine dvd 26 (cpure (by kernel_rfl) (ok_law19_Given h25) (by kernel_rfl) (by kernel_rfl) (by kernel_rfl)) (by kernel_rfl) (std 3 [(29, .pv (encSl R_api_Value x22.fSample)), (28, .ptr 4 4), (27, aR 5 4 0)] [.box [aI a0.fRows, .pv (encSl R_tabularyref20_Col a0.fCols)] false, .box [aI 0, .pv .nils] false, .box [aI a0.fRows, aR 3 69 y8.length] false, bR 156 69 R_stat_Col y8 0 0, .box ([aI x22.fKind, aI x22.fNulls, aI x22.fDistinct, .pv (encSl R_tabularyref19_Bucket x22.fHist), .pv (encSl R_api_Value x22.fSample)] ++ (aA .u8 64 x22.fSketch)) false, bR 47 4 R_api_Value ([] : List api_Value) 0 0] (by kernel_rfl) ?_)
    rcases bif_some hm with ⟨h26, hm⟩ | ⟨h26, hm⟩
    ·
     obtain ⟨_, h27, hm⟩ := bs hm
     refine dvd 30 (v := aR 5 4 0) (app_ref0O (u := 0) (y := .pv (encSl R_api_Value x22.fSample)) (n := 0) (id := 5) R_api_Value ([] : List api_Value) (sll x22.fSample) (b := 40) t151 t47 rfl rfl rfl h26 h27 rfl (by first | rfl | assumption | omega | (simp only [List.length_set, List.length_append, List.length_cons, List.length_nil, List.length_replicate, List.length_drop] at * <;> omega)) (Nat.zero_le _) (src_sl (R := R_api_Value) (s := x22.fSample)) (by kernel_rfl)) (by kernel_rfl) (shd 4 [(34, .agg ([aI x22.fKind, aI x22.fNulls, aI x22.fDistinct, .pv (encSl R_hist_Bucket x24), aR 5 4 0] ++ (aA .u8 64 x22.fSketch))), (33, .agg (aA .u8 64 x22.fSketch)), (32, .agg (aA .u8 64 x22.fSketch)), (31, .ptr 4 5)] (by kernel_rfl) (dOd [(35, aR 6 69 1)] [.box [aI a0.fRows, .pv (encSl R_tabularyref20_Col a0.fCols)] false, .box [aI 0, .pv .nils] false, .box [aI a0.fRows, aR 3 69 y8.length] false, bR 156 69 R_stat_Col y8 0 0, .box ([aI x22.fKind, aI x22.fNulls, aI x22.fDistinct, .pv (encSl R_tabularyref19_Bucket x22.fHist), .pv (encSl R_api_Value x22.fSample)] ++ (aA .u8 64 x22.fSketch)) false, bR 47 4 R_api_Value ([] : List api_Value) 0 (max 0 (([] : List api_Value).map R_api_Value).length), bR 156 69 R_stat_Col ([(stat_Col.mk x22.fKind x22.fNulls x22.fDistinct x24 (some ([] : List api_Value)) (hll_Sketch.mk x22.fSketch))] : List stat_Col) 0 0] (led_purO (nid := 0) (t := 157) (len := 1) (is := [0]) (vs := [.agg ([aI x22.fKind, aI x22.fNulls, aI x22.fDistinct, .pv (encSl R_hist_Bucket x24), aR 5 4 0] ++ (aA .u8 64 x22.fSketch))]) (ps := [.agg ([aI x22.fKind, aI x22.fNulls, aI x22.fDistinct, .pv (encSl R_hist_Bucket x24), .pv (.sl (([] : List api_Value).map R_api_Value))] ++ (aA .u8 64 x22.fSketch))]) (R := [5]) (e := ⟨aR 6 69 1, [], [bR 156 69 R_stat_Col ([(stat_Col.mk x22.fKind x22.fNulls x22.fDistinct x24 (some ([] : List api_Value)) (hll_Sketch.mk x22.fSketch))] : List stat_Col) 0 0]⟩) (by kernel_rfl) (by kernel_rfl) (by kernel_rfl) (by kernel_rfl)) (by kernel_rfl) ?_))
     obtain ⟨_, h28, hm⟩ := bs hm
     refine dOd [(36, aR 3 69 ((y8 ++ ([(stat_Col.mk x22.fKind x22.fNulls x22.fDistinct x24 (some ([] : List api_Value)) (hll_Sketch.mk x22.fSketch))] : List stat_Col)).length))] [.box [aI a0.fRows, .pv (encSl R_tabularyref20_Col a0.fCols)] false, .box [aI 0, .pv .nils] false, .box [aI a0.fRows, aR 3 69 y8.length] false, bR 156 69 R_stat_Col (y8 ++ ([(stat_Col.mk x22.fKind x22.fNulls x22.fDistinct x24 (some ([] : List api_Value)) (hll_Sketch.mk x22.fSketch))] : List stat_Col)) 0 0, .box ([aI x22.fKind, aI x22.fNulls, aI x22.fDistinct, .pv (encSl R_tabularyref19_Bucket x22.fHist), .pv (encSl R_api_Value x22.fSample)] ++ (aA .u8 64 x22.fSketch)) false, bR 47 4 R_api_Value ([] : List api_Value) 0 (max 0 (([] : List api_Value).map R_api_Value).length), bR 156 69 R_stat_Col ([(stat_Col.mk x22.fKind x22.fNulls x22.fDistinct x24 (some ([] : List api_Value)) (hll_Sketch.mk x22.fSketch))] : List stat_Col) 0 0] (app_refO (u := 0) (n := y8.length) (id := 3) R_stat_Col y8 ([(stat_Col.mk x22.fKind x22.fNulls x22.fDistinct x24 (some ([] : List api_Value)) (hll_Sketch.mk x22.fSketch))] : List stat_Col) (b := 136) t157 t156 rfl rfl rfl (fun _ => rfl) rfl h28 rfl rfl (Nat.zero_le _) (show srcRows (aR 6 69 1) _ = some (([(stat_Col.mk x22.fKind x22.fNulls x22.fDistinct x24 (some ([] : List api_Value)) (hll_Sketch.mk x22.fSketch))] : List stat_Col).map R_stat_Col) from by kernel_rfl) (by kernel_rfl)) (by kernel_rfl) (std 2 [(37, .ptr 2 1)] [.box [aI a0.fRows, .pv (encSl R_tabularyref20_Col a0.fCols)] false, .box [aI 0, .pv .nils] false, .box [aI a0.fRows, aR 3 69 ((y8 ++ ([(stat_Col.mk x22.fKind x22.fNulls x22.fDistinct x24 (some ([] : List api_Value)) (hll_Sketch.mk x22.fSketch))] : List stat_Col)).length)] false, bR 156 69 R_stat_Col (y8 ++ ([(stat_Col.mk x22.fKind x22.fNulls x22.fDistinct x24 (some ([] : List api_Value)) (hll_Sketch.mk x22.fSketch))] : List stat_Col)) 0 0, .box ([aI x22.fKind, aI x22.fNulls, aI x22.fDistinct, .pv (encSl R_tabularyref19_Bucket x22.fHist), .pv (encSl R_api_Value x22.fSample)] ++ (aA .u8 64 x22.fSketch)) false, bR 47 4 R_api_Value ([] : List api_Value) 0 (max 0 (([] : List api_Value).map R_api_Value).length), bR 156 69 R_stat_Col ([(stat_Col.mk x22.fKind x22.fNulls x22.fDistinct x24 (some ([] : List api_Value)) (hll_Sketch.mk x22.fSketch))] : List stat_Col) 0 0] (by kernel_rfl) (find [(2, .ptr 1 0), (3, .ptr 2 0), (10, .pv (encSl R_tabularyref20_Col a0.fCols)), (11, aI ((sll a0.fCols).length : Int)), (12, aI y9)] rfl (by kernel_rfl) (by kernel_rfl) (dn [(2, .ptr 1 0), (3, .ptr 2 0), (10, .pv (encSl R_tabularyref20_Col a0.fCols)), (11, aI ((sll a0.fCols).length : Int)), (12, aI (IntKind.wrap .i64 (y9 + 1)))] ?_)))
     exact ⟨_, _, tidyL [(2, .ptr 1 0), (3, .ptr 2 0), (10, .pv (encSl R_tabularyref20_Col a0.fCols)), (11, aI ((sll a0.fCols).length : Int)), (12, aI (IntKind.wrap .i64 (y9 + 1)))] [.box [aI a0.fRows, .pv (encSl R_tabularyref20_Col a0.fCols)] false, .box [aI 0, .pv .nils] false, .box [aI a0.fRows, aR 3 69 ((y8 ++ ([(stat_Col.mk x22.fKind x22.fNulls x22.fDistinct x24 (some ([] : List api_Value)) (hll_Sketch.mk x22.fSketch))] : List stat_Col)).length)] false, bR 156 69 R_stat_Col (y8 ++ ([(stat_Col.mk x22.fKind x22.fNulls x22.fDistinct x24 (some ([] : List api_Value)) (hll_Sketch.mk x22.fSketch))] : List stat_Col)) 0 0] (by kernel_rfl), .inr (⟨(y8 ++ ([(stat_Col.mk x22.fKind x22.fNulls x22.fDistinct x24 (some ([] : List api_Value)) (hll_Sketch.mk x22.fSketch))] : List stat_Col)), (IntKind.wrap .i64 (y9 + 1)), hm, rfl, rfl⟩)⟩
    ·
     obtain ⟨_, h29, hm⟩ := bs hm
     refine dOd [(30, aR 5 4 ((([] : List api_Value) ++ (sll x22.fSample)).length))] [.box [aI a0.fRows, .pv (encSl R_tabularyref20_Col a0.fCols)] false, .box [aI 0, .pv .nils] false, .box [aI a0.fRows, aR 3 69 y8.length] false, bR 156 69 R_stat_Col y8 0 0, .box ([aI x22.fKind, aI x22.fNulls, aI x22.fDistinct, .pv (encSl R_tabularyref19_Bucket x22.fHist), .pv (encSl R_api_Value x22.fSample)] ++ (aA .u8 64 x22.fSketch)) false, bR 47 4 R_api_Value (([] : List api_Value) ++ (sll x22.fSample)) 0 0] (app_refO (u := 0) (n := 0) (id := 5) R_api_Value ([] : List api_Value) (sll x22.fSample) (b := 40) t151 t47 rfl rfl rfl (fun _ => rfl) h26 h29 rfl (by first | rfl | assumption | omega | (simp only [List.length_set, List.length_append, List.length_cons, List.length_nil, List.length_replicate, List.length_drop] at * <;> omega)) (Nat.zero_le _) (src_sl (R := R_api_Value) (s := x22.fSample)) (by kernel_rfl)) (by kernel_rfl) (shd 4 [(34, .agg ([aI x22.fKind, aI x22.fNulls, aI x22.fDistinct, .pv (encSl R_hist_Bucket x24), aR 5 4 ((([] : List api_Value) ++ (sll x22.fSample)).length)] ++ (aA .u8 64 x22.fSketch))), (33, .agg (aA .u8 64 x22.fSketch)), (32, .agg (aA .u8 64 x22.fSketch)), (31, .ptr 4 5)] (by kernel_rfl) (dOd [(35, aR 6 69 1)] [.box [aI a0.fRows, .pv (encSl R_tabularyref20_Col a0.fCols)] false, .box [aI 0, .pv .nils] false, .box [aI a0.fRows, aR 3 69 y8.length] false, bR 156 69 R_stat_Col y8 0 0, .box ([aI x22.fKind, aI x22.fNulls, aI x22.fDistinct, .pv (encSl R_tabularyref19_Bucket x22.fHist), .pv (encSl R_api_Value x22.fSample)] ++ (aA .u8 64 x22.fSketch)) false, bR 47 4 R_api_Value (([] : List api_Value) ++ (sll x22.fSample)) 0 (max 0 ((([] : List api_Value) ++ (sll x22.fSample)).map R_api_Value).length), bR 156 69 R_stat_Col ([(stat_Col.mk x22.fKind x22.fNulls x22.fDistinct x24 (some (([] : List api_Value) ++ (sll x22.fSample))) (hll_Sketch.mk x22.fSketch))] : List stat_Col) 0 0] (led_purO (nid := 0) (t := 157) (len := 1) (is := [0]) (vs := [.agg ([aI x22.fKind, aI x22.fNulls, aI x22.fDistinct, .pv (encSl R_hist_Bucket x24), aR 5 4 ((([] : List api_Value) ++ (sll x22.fSample)).length)] ++ (aA .u8 64 x22.fSketch))]) (ps := [.agg ([aI x22.fKind, aI x22.fNulls, aI x22.fDistinct, .pv (encSl R_hist_Bucket x24), .pv (.sl ((([] : List api_Value) ++ (sll x22.fSample)).map R_api_Value))] ++ (aA .u8 64 x22.fSketch))]) (R := [5]) (e := ⟨aR 6 69 1, [], [bR 156 69 R_stat_Col ([(stat_Col.mk x22.fKind x22.fNulls x22.fDistinct x24 (some (([] : List api_Value) ++ (sll x22.fSample))) (hll_Sketch.mk x22.fSketch))] : List stat_Col) 0 0]⟩) (by kernel_rfl) (pAs_cons (pA_agg (purL_cons (pur_pv) (purL_cons (pur_pv) (purL_cons (pur_pv) (purL_cons (pur_pv) (purL_cons (pur_ref' (n := (([] : List api_Value) ++ (sll x22.fSample)).length) (id := 5) (l := (([] : List api_Value) ++ (sll x22.fSample))) (R := R_api_Value) rfl rfl (Nat.zero_le _)) (purL_arr0))))))) (rfl)) (by kernel_rfl) (by kernel_rfl)) (by kernel_rfl) ?_))
     obtain ⟨_, h30, hm⟩ := bs hm
     refine dOd [(36, aR 3 69 ((y8 ++ ([(stat_Col.mk x22.fKind x22.fNulls x22.fDistinct x24 (some (([] : List api_Value) ++ (sll x22.fSample))) (hll_Sketch.mk x22.fSketch))] : List stat_Col)).length))] [.box [aI a0.fRows, .pv (encSl R_tabularyref20_Col a0.fCols)] false, .box [aI 0, .pv .nils] false, .box [aI a0.fRows, aR 3 69 y8.length] false, bR 156 69 R_stat_Col (y8 ++ ([(stat_Col.mk x22.fKind x22.fNulls x22.fDistinct x24 (some (([] : List api_Value) ++ (sll x22.fSample))) (hll_Sketch.mk x22.fSketch))] : List stat_Col)) 0 0, .box ([aI x22.fKind, aI x22.fNulls, aI x22.fDistinct, .pv (encSl R_tabularyref19_Bucket x22.fHist), .pv (encSl R_api_Value x22.fSample)] ++ (aA .u8 64 x22.fSketch)) false, bR 47 4 R_api_Value (([] : List api_Value) ++ (sll x22.fSample)) 0 (max 0 ((([] : List api_Value) ++ (sll x22.fSample)).map R_api_Value).length), bR 156 69 R_stat_Col ([(stat_Col.mk x22.fKind x22.fNulls x22.fDistinct x24 (some (([] : List api_Value) ++ (sll x22.fSample))) (hll_Sketch.mk x22.fSketch))] : List stat_Col) 0 0] (app_refO (u := 0) (n := y8.length) (id := 3) R_stat_Col y8 ([(stat_Col.mk x22.fKind x22.fNulls x22.fDistinct x24 (some (([] : List api_Value) ++ (sll x22.fSample))) (hll_Sketch.mk x22.fSketch))] : List stat_Col) (b := 136) t157 t156 rfl rfl rfl (fun _ => rfl) rfl h30 rfl rfl (Nat.zero_le _) (show srcRows (aR 6 69 1) _ = some (([(stat_Col.mk x22.fKind x22.fNulls x22.fDistinct x24 (some (([] : List api_Value) ++ (sll x22.fSample))) (hll_Sketch.mk x22.fSketch))] : List stat_Col).map R_stat_Col) from by kernel_rfl) (by kernel_rfl)) (by kernel_rfl) (std 2 [(37, .ptr 2 1)] [.box [aI a0.fRows, .pv (encSl R_tabularyref20_Col a0.fCols)] false, .box [aI 0, .pv .nils] false, .box [aI a0.fRows, aR 3 69 ((y8 ++ ([(stat_Col.mk x22.fKind x22.fNulls x22.fDistinct x24 (some (([] : List api_Value) ++ (sll x22.fSample))) (hll_Sketch.mk x22.fSketch))] : List stat_Col)).length)] false, bR 156 69 R_stat_Col (y8 ++ ([(stat_Col.mk x22.fKind x22.fNulls x22.fDistinct x24 (some (([] : List api_Value) ++ (sll x22.fSample))) (hll_Sketch.mk x22.fSketch))] : List stat_Col)) 0 0, .box ([aI x22.fKind, aI x22.fNulls, aI x22.fDistinct, .pv (encSl R_tabularyref19_Bucket x22.fHist), .pv (encSl R_api_Value x22.fSample)] ++ (aA .u8 64 x22.fSketch)) false, bR 47 4 R_api_Value (([] : List api_Value) ++ (sll x22.fSample)) 0 (max 0 ((([] : List api_Value) ++ (sll x22.fSample)).map R_api_Value).length), bR 156 69 R_stat_Col ([(stat_Col.mk x22.fKind x22.fNulls x22.fDistinct x24 (some (([] : List api_Value) ++ (sll x22.fSample))) (hll_Sketch.mk x22.fSketch))] : List stat_Col) 0 0] (by kernel_rfl) (find [(2, .ptr 1 0), (3, .ptr 2 0), (10, .pv (encSl R_tabularyref20_Col a0.fCols)), (11, aI ((sll a0.fCols).length : Int)), (12, aI y9)] rfl (by kernel_rfl) (by kernel_rfl) (dn [(2, .ptr 1 0), (3, .ptr 2 0), (10, .pv (encSl R_tabularyref20_Col a0.fCols)), (11, aI ((sll a0.fCols).length : Int)), (12, aI (IntKind.wrap .i64 (y9 + 1)))] ?_)))
     exact ⟨_, _, tidyL [(2, .ptr 1 0), (3, .ptr 2 0), (10, .pv (encSl R_tabularyref20_Col a0.fCols)), (11, aI ((sll a0.fCols).length : Int)), (12, aI (IntKind.wrap .i64 (y9 + 1)))] [.box [aI a0.fRows, .pv (encSl R_tabularyref20_Col a0.fCols)] false, .box [aI 0, .pv .nils] false, .box [aI a0.fRows, aR 3 69 ((y8 ++ ([(stat_Col.mk x22.fKind x22.fNulls x22.fDistinct x24 (some (([] : List api_Value) ++ (sll x22.fSample))) (hll_Sketch.mk x22.fSketch))] : List stat_Col)).length)] false, bR 156 69 R_stat_Col (y8 ++ ([(stat_Col.mk x22.fKind x22.fNulls x22.fDistinct x24 (some (([] : List api_Value) ++ (sll x22.fSample))) (hll_Sketch.mk x22.fSketch))] : List stat_Col)) 0 0] (by kernel_rfl), .inr (⟨(y8 ++ ([(stat_Col.mk x22.fKind x22.fNulls x22.fDistinct x24 (some (([] : List api_Value) ++ (sll x22.fSample))) (hll_Sketch.mk x22.fSketch))] : List stat_Col)), (IntKind.wrap .i64 (y9 + 1)), hm, rfl, rfl⟩)⟩
   ·
    refine c0 h21 (wp_exit ?_)
    exact .inr (⟨y8, aI y9, aB (decide (y9 < ((sll a0.fCols).length : Int))), hm, (mk_same (by kernel_rfl)), rfl⟩)
theorem ok_law31_Stats {n : Nat} {a0 : (Option (List tabularyref20_Stat))} {r : (Option (List stat_Stat))} (hm : law31_Stats n a0 = some r) :
    call G n 21 [.pv (encSl R_tabularyref20_Stat a0)] [] = some (.ret (.pv (encSl R_stat_Stat r)), []) := by
  unfold law31_Stats at hm
  obtain ⟨n, rfl, h0⟩ := at1_some hm
  replace hm := h0; clear h0
  refine callL 19 [(0, .pv (encSl R_tabularyref20_Stat a0))] func21 rfl (by kernel_rfl) (sq (dn [(0, .pv (encSl R_tabularyref20_Stat a0))] (sq (dn [(0, .pv (encSl R_tabularyref20_Stat a0)), (3, .pv .nils)] ?_))))
  obtain ⟨k4, hk4, hm⟩ := withK_some hm
  refine mid (fun t H => (∃ (w1 : AV) (w2 : AV), k4 none = some r ∧ t = mk 19 [(3, .pv .nils), (6, .pv (encSl R_tabularyref20_Stat a0)), (7, aI ((sll a0).length : Int)), (8, w1), (9, w2)] ∧ H = []) ∨ (∃ (y3 : (List stat_Stat)) (w1 : AV) (w2 : AV), k4 (some y3) = some r ∧ t = mk 19 [(3, aR 0 2 y3.length), (6, .pv (encSl R_tabularyref20_Stat a0)), (7, aI ((sll a0).length : Int)), (8, w1), (9, w2)] ∧ H = [bR 159 2 R_stat_Stat y3 0 0])) ?_ ?_
  ·
   rintro _ _ (⟨w1, w2, hm, rfl, rfl⟩ | ⟨y3, w1, w2, hm, rfl, rfl⟩)
   ·
    subst hk4
    refine sq (dn [(2, .pv .nils)] (wp_ret ?_))
    obtain rfl := Option.some.inj hm
    exact ⟨trivial, by kernel_rfl⟩
   ·
    subst hk4
    refine sq (dn [(2, aR 0 2 y3.length)] (wp_ret ?_))
    obtain rfl := Option.some.inj hm
    exact ret_pure (v := aR 0 2 y3.length) trivial rfl (by kernel_rfl) (pA_ref (pur_ref' (n := y3.length) (id := 0) (l := y3) (R := R_stat_Stat) rfl rfl (Nat.zero_le _)))
  refine sq (rg (s1 1 [(6, .pv (encSl R_tabularyref20_Stat a0))] (dv 7 (v := aI ((sll a0).length : Int)) (len_slO R_tabularyref20_Stat a0 t51 (by kernel_rfl)) (by kernel_rfl) (f1 1 [(3, .pv .nils), (6, .pv (encSl R_tabularyref20_Stat a0)), (7, aI ((sll a0).length : Int)), (8, aI 0)] (bq ?_)))))
  refine loopF (fun mm t H => (∃ (y9 : Int), law31_Stats_l3 n a0 k4 mm none y9 = some r ∧ t = mk 19 [(3, .pv .nils), (6, .pv (encSl R_tabularyref20_Stat a0)), (7, aI ((sll a0).length : Int)), (8, aI y9)] ∧ H = []) ∨ (∃ (y8 : (List stat_Stat)) (y9 : Int), law31_Stats_l3 n a0 k4 mm (some y8) y9 = some r ∧ t = mk 19 [(3, aR 0 2 y8.length), (6, .pv (encSl R_tabularyref20_Stat a0)), (7, aI ((sll a0).length : Int)), (8, aI y9)] ∧ H = [bR 159 2 R_stat_Stat y8 0 0])) (.inl ⟨0, hm, rfl, rfl⟩) ?_ ?_
  · rintro _ _ (⟨y9, hm, _⟩ | ⟨y8, y9, hm, _⟩) <;> exact nomatch hm
  rintro m10 _ _ (⟨y9, hm, rfl, rfl⟩ | ⟨y8, y9, hm, rfl, rfl⟩)
  ·
   simp only [law31_Stats_l3] at hm
   refine sq (dn [(3, .pv .nils), (6, .pv (encSl R_tabularyref20_Stat a0)), (7, aI ((sll a0).length : Int)), (8, aI y9), (9, aB (decide (y9 < ((sll a0).length : Int))))] ?_)
   refine sq ?_
   rcases bif_some hm with ⟨h11, hm⟩ | ⟨h11, hm⟩
   ·
    refine c1 h11 (wp_skip (sq (bq (sq (rg ?_)))))
    obtain ⟨x12, h13, hm⟩ := bs hm
    refine dv 10 (v := .pv (.ptr (R_tabularyref20_Stat x12) 0)) (ia_slO R_tabularyref20_Stat a0 .i64 t51 t148 h13 rfl (by kernel_rfl)) (by kernel_rfl) (stf 3 [(3, .pv .nils), (5, .ptr 0 0), (6, .pv (encSl R_tabularyref20_Stat a0)), (7, aI ((sll a0).length : Int)), (8, aI y9)] [.box [aI x12.fRows, .pv (encSl R_tabularyref20_Col x12.fCols)] false] (by kernel_rfl) (rg (s1 2 [(13, .agg [aI x12.fRows, .pv (encSl R_tabularyref20_Col x12.fCols)]), (12, .pv .nils)] ?_)))
    obtain ⟨x14, h15, hm⟩ := bs hm
    refine dv 14 (cpure (by kernel_rfl) (ok_law20_Given h15) (by kernel_rfl) (by kernel_rfl) (by kernel_rfl)) (by kernel_rfl) (st 1 [(15, aR 1 2 1)] [.box [aI x12.fRows, .pv (encSl R_tabularyref20_Col x12.fCols)] false, bR 159 2 R_stat_Stat ([x14] : List stat_Stat) 0 0] (by kernel_rfl) ?_)
    obtain ⟨_, h16, hm⟩ := bs hm
    refine dO [(16, aR 2 2 (([x14] : List stat_Stat).length))] [.box [aI x12.fRows, .pv (encSl R_tabularyref20_Col x12.fCols)] false, bR 159 2 R_stat_Stat ([x14] : List stat_Stat) 0 0, bR 159 2 R_stat_Stat ([x14] : List stat_Stat) 0 0] (app_nilO (u := 0) R_stat_Stat ([x14] : List stat_Stat) (b := 32) t54 t159 rfl rfl rfl (fun _ => rfl) rfl h16 (show srcRows (aR 1 2 1) _ = some (([x14] : List stat_Stat).map R_stat_Stat) from by kernel_rfl) (by kernel_rfl)) (by kernel_rfl) (f1 1 [(3, aR 2 2 (([x14] : List stat_Stat).length)), (6, .pv (encSl R_tabularyref20_Stat a0)), (7, aI ((sll a0).length : Int)), (8, aI y9)] (dn [(3, aR 2 2 (([x14] : List stat_Stat).length)), (6, .pv (encSl R_tabularyref20_Stat a0)), (7, aI ((sll a0).length : Int)), (8, aI (IntKind.wrap .i64 (y9 + 1)))] ?_))
    exact ⟨_, _, tidyL [(3, aR 0 2 (([x14] : List stat_Stat).length)), (6, .pv (encSl R_tabularyref20_Stat a0)), (7, aI ((sll a0).length : Int)), (8, aI (IntKind.wrap .i64 (y9 + 1)))] [bR 159 2 R_stat_Stat ([x14] : List stat_Stat) 0 0] (by kernel_rfl), .inr (⟨([x14] : List stat_Stat), (IntKind.wrap .i64 (y9 + 1)), hm, rfl, rfl⟩)⟩
   ·
    refine c0 h11 (wp_exit ?_)
    exact .inl ⟨aI y9, aB (decide (y9 < ((sll a0).length : Int))), hm, (mk_same (by kernel_rfl)), rfl⟩
  ·
   simp only [law31_Stats_l3] at hm
   refine sq (dn [(3, aR 0 2 y8.length), (6, .pv (encSl R_tabularyref20_Stat a0)), (7, aI ((sll a0).length : Int)), (8, aI y9), (9, aB (decide (y9 < ((sll a0).length : Int))))] ?_)
   refine sq ?_
   rcases bif_some hm with ⟨h17, hm⟩ | ⟨h17, hm⟩
   ·
    refine c1 h17 (wp_skip (sq (bq (sq (rg ?_)))))
    obtain ⟨x18, h19, hm⟩ := bs hm
    refine dv 10 (v := .pv (.ptr (R_tabularyref20_Stat x18) 0)) (ia_slO R_tabularyref20_Stat a0 .i64 t51 t148 h19 rfl (by kernel_rfl)) (by kernel_rfl) (stf 3 [(3, aR 0 2 y8.length), (5, .ptr 1 0), (6, .pv (encSl R_tabularyref20_Stat a0)), (7, aI ((sll a0).length : Int)), (8, aI y9)] [bR 159 2 R_stat_Stat y8 0 0, .box [aI x18.fRows, .pv (encSl R_tabularyref20_Col x18.fCols)] false] (by kernel_rfl) (rg (s1 2 [(13, .agg [aI x18.fRows, .pv (encSl R_tabularyref20_Col x18.fCols)]), (12, aR 0 2 y8.length)] ?_)))
    obtain ⟨x20, h21, hm⟩ := bs hm
    refine dv 14 (cpure (by kernel_rfl) (ok_law20_Given h21) (by kernel_rfl) (by kernel_rfl) (by kernel_rfl)) (by kernel_rfl) (st 1 [(15, aR 2 2 1)] [bR 159 2 R_stat_Stat y8 0 0, .box [aI x18.fRows, .pv (encSl R_tabularyref20_Col x18.fCols)] false, bR 159 2 R_stat_Stat ([x20] : List stat_Stat) 0 0] (by kernel_rfl) ?_)
    obtain ⟨_, h22, hm⟩ := bs hm
    refine dO [(16, aR 0 2 ((y8 ++ ([x20] : List stat_Stat)).length))] [bR 159 2 R_stat_Stat (y8 ++ ([x20] : List stat_Stat)) 0 0, .box [aI x18.fRows, .pv (encSl R_tabularyref20_Col x18.fCols)] false, bR 159 2 R_stat_Stat ([x20] : List stat_Stat) 0 0] (app_refO (u := 0) (n := y8.length) (id := 0) R_stat_Stat y8 ([x20] : List stat_Stat) (b := 32) t54 t159 rfl rfl rfl (fun _ => rfl) rfl h22 rfl rfl (Nat.zero_le _) (show srcRows (aR 2 2 1) _ = some (([x20] : List stat_Stat).map R_stat_Stat) from by kernel_rfl) (by kernel_rfl)) (by kernel_rfl) (f1 1 [(3, aR 0 2 ((y8 ++ ([x20] : List stat_Stat)).length)), (6, .pv (encSl R_tabularyref20_Stat a0)), (7, aI ((sll a0).length : Int)), (8, aI y9)] (dn [(3, aR 0 2 ((y8 ++ ([x20] : List stat_Stat)).length)), (6, .pv (encSl R_tabularyref20_Stat a0)), (7, aI ((sll a0).length : Int)), (8, aI (IntKind.wrap .i64 (y9 + 1)))] ?_))
    exact ⟨_, _, tidyL [(3, aR 0 2 ((y8 ++ ([x20] : List stat_Stat)).length)), (6, .pv (encSl R_tabularyref20_Stat a0)), (7, aI ((sll a0).length : Int)), (8, aI (IntKind.wrap .i64 (y9 + 1)))] [bR 159 2 R_stat_Stat (y8 ++ ([x20] : List stat_Stat)) 0 0] (by kernel_rfl), .inr (⟨(y8 ++ ([x20] : List stat_Stat)), (IntKind.wrap .i64 (y9 + 1)), hm, rfl, rfl⟩)⟩
   ·
    refine c0 h17 (wp_exit ?_)
    exact .inr (⟨y8, aI y9, aB (decide (y9 < ((sll a0).length : Int))), hm, (mk_same (by kernel_rfl)), rfl⟩)
theorem ok_guess_natural {n : Nat} {a0 : Int} {r : Int} (hm : guess_natural n a0 = some r) :
    call G n 110 [aI a0] [] = some (.ret (aU r), []) := by
  unfold guess_natural at hm
  obtain ⟨n, rfl, h0⟩ := at1_some hm
  replace hm := h0; clear h0
  refine callL 6 [(0, aI a0)] func110 rfl (by kernel_rfl) (sq (dn [(0, aI a0)] (sq (dn [(2, aU (IntKind.wrap .u64 (if 0 > a0 then 0 else a0)))] (wp_ret ?_)))))
  obtain rfl := Option.some.inj hm
  exact ⟨trivial, by kernel_rfl⟩
theorem ok_guess_Rows {n : Nat} {a0 : (Option (List stat_Stat))} {a1 : Int} {r : Int} (hm : guess_Rows n a0 a1 = some r) :
    call G n 24 [.pv (encSl R_stat_Stat a0), aI a1] [] = some (.ret (aU r), []) := by
  unfold guess_Rows at hm
  obtain ⟨n, rfl, h0⟩ := at1_some hm
  replace hm := h0; clear h0
  refine callL 19 [(0, .pv (encSl R_stat_Stat a0)), (1, aI a1)] func24 rfl (by kernel_rfl) (sq (dn [(0, .pv (encSl R_stat_Stat a0)), (1, aI a1)] ?_))
  refine sq (sq (rg (s1 3 [(7, aB (decide (a1 < 0))), (6, aB (decide (a1 < 0))), (5, aI a1)] ?_)))
  refine seg (decide (a1 < 0)) [7, 6] (fun b => [(12, aB (b || (decide (a1 ≥ ((sll a0).length : Int))))), (11, ifA b (.undef) (aB (decide (a1 ≥ ((sll a0).length : Int))))), (10, ifA b (.undef) (aI ((sll a0).length : Int))), (9, ifA b (.undef) (.pv (encSl R_stat_Stat a0))), (8, ifA b (.undef) (aI a1))]) 8 (by kernel_rfl) ?_ ?_ ?_
  ·
   intro Q h
   refine s1 5 [(12, aB true), (11, .undef), (10, .undef), (9, .undef), (8, .undef)] ?_
   exact sameN (by kernel_rfl) (by kernel_rfl) h
  ·
   intro Q h
   refine s1 2 [(9, .pv (encSl R_stat_Stat a0)), (8, aI a1)] (dv 10 (v := aI ((sll a0).length : Int)) (len_slO R_stat_Stat a0 t54 (by kernel_rfl)) (by kernel_rfl) (s1 2 [(12, aB (decide (a1 ≥ ((sll a0).length : Int)))), (11, aB (decide (a1 ≥ ((sll a0).length : Int))))] ?_))
   exact sameN (by kernel_rfl) (by kernel_rfl) h
  refine fin [(0, .pv (encSl R_stat_Stat a0)), (1, aI a1), (12, aB ((decide (a1 < 0)) || (decide (a1 ≥ ((sll a0).length : Int)))))] rfl (by kernel_rfl) ?_
  rcases bif_some hm with ⟨h1, hm⟩ | ⟨h1, hm⟩
  ·
   refine c1 h1 (sq (dn [(4, aU 0)] (wp_ret ?_)))
   obtain rfl := Option.some.inj hm
   exact ⟨trivial, by kernel_rfl⟩
  ·
   refine c0 h1 (wp_skip (sq (rg (s1 2 [(14, aI a1), (13, .pv (encSl R_stat_Stat a0))] ?_))))
   obtain ⟨x2, h3, hm⟩ := bs hm
   refine dv 15 (v := .pv (.ptr (R_stat_Stat x2) 0)) (ia_slO R_stat_Stat a0 .i64 t54 t159 h3 rfl (by kernel_rfl)) (by kernel_rfl) (s1 2 [(17, aI x2.fRows), (16, .pv (.ptr (R_stat_Stat x2) 0))] ?_)
   obtain ⟨x4, h5, hm⟩ := bs hm
   refine dv 18 (cpure (by kernel_rfl) (ok_guess_natural h5) (by kernel_rfl) (by kernel_rfl) (by kernel_rfl)) (by kernel_rfl) (f1 1 [(4, aU x4)] (wp_ret ?_))
   obtain rfl := Option.some.inj hm
   exact ⟨trivial, by kernel_rfl⟩
theorem ok_math_bits_Mul64 {n : Nat} {a0 : Int} {a1 : Int} {r : Int × Int} (hm : math_bits_Mul64 n a0 a1 = some r) :
    call G n 158 [aU a0, aU a1] [] = some (.ret (.tup [aU r.1, aU r.2]), []) := by
  unfold math_bits_Mul64 at hm
  obtain ⟨n, rfl, h0⟩ := at1_some hm
  replace hm := h0; clear h0
  refine callL 51 [(0, aU a0), (1, aU a1)] func158 rfl (by kernel_rfl) (sq (dn [(0, aU a0), (1, aU a1)] (sq (dn [(0, aU a0), (1, aU a1), (6, aU (iAnd .u64 a0 4294967295))] (sq (dn [(0, aU a0), (1, aU a1), (6, aU (iAnd .u64 a0 4294967295)), (7, aU (iShr .u64 a0 32))] (sq (dn [(0, aU a0), (1, aU a1), (6, aU (iAnd .u64 a0 4294967295)), (7, aU (iShr .u64 a0 32)), (8, aU (iAnd .u64 a1 4294967295))] (sq (dn [(0, aU a0), (1, aU a1), (6, aU (iAnd .u64 a0 4294967295)), (7, aU (iShr .u64 a0 32)), (8, aU (iAnd .u64 a1 4294967295)), (9, aU (iShr .u64 a1 32))] (sq (dn [(0, aU a0), (1, aU a1), (6, aU (iAnd .u64 a0 4294967295)), (7, aU (iShr .u64 a0 32)), (8, aU (iAnd .u64 a1 4294967295)), (9, aU (iShr .u64 a1 32)), (10, aU (IntKind.wrap .u64 ((iAnd .u64 a0 4294967295) * (iAnd .u64 a1 4294967295))))] ?_))))))))))))
  refine sq (dn [(0, aU a0), (1, aU a1), (6, aU (iAnd .u64 a0 4294967295)), (7, aU (iShr .u64 a0 32)), (9, aU (iShr .u64 a1 32)), (11, aU (IntKind.wrap .u64 ((IntKind.wrap .u64 ((iShr .u64 a0 32) * (iAnd .u64 a1 4294967295))) + (iShr .u64 (IntKind.wrap .u64 ((iAnd .u64 a0 4294967295) * (iAnd .u64 a1 4294967295))) 32))))] (sq (dn [(0, aU a0), (1, aU a1), (6, aU (iAnd .u64 a0 4294967295)), (7, aU (iShr .u64 a0 32)), (9, aU (iShr .u64 a1 32)), (11, aU (IntKind.wrap .u64 ((IntKind.wrap .u64 ((iShr .u64 a0 32) * (iAnd .u64 a1 4294967295))) + (iShr .u64 (IntKind.wrap .u64 ((iAnd .u64 a0 4294967295) * (iAnd .u64 a1 4294967295))) 32)))), (12, aU (iAnd .u64 (IntKind.wrap .u64 ((IntKind.wrap .u64 ((iShr .u64 a0 32) * (iAnd .u64 a1 4294967295))) + (iShr .u64 (IntKind.wrap .u64 ((iAnd .u64 a0 4294967295) * (iAnd .u64 a1 4294967295))) 32))) 4294967295))] (sq (dn [(0, aU a0), (1, aU a1), (6, aU (iAnd .u64 a0 4294967295)), (7, aU (iShr .u64 a0 32)), (9, aU (iShr .u64 a1 32)), (12, aU (iAnd .u64 (IntKind.wrap .u64 ((IntKind.wrap .u64 ((iShr .u64 a0 32) * (iAnd .u64 a1 4294967295))) + (iShr .u64 (IntKind.wrap .u64 ((iAnd .u64 a0 4294967295) * (iAnd .u64 a1 4294967295))) 32))) 4294967295)), (13, aU (iShr .u64 (IntKind.wrap .u64 ((IntKind.wrap .u64 ((iShr .u64 a0 32) * (iAnd .u64 a1 4294967295))) + (iShr .u64 (IntKind.wrap .u64 ((iAnd .u64 a0 4294967295) * (iAnd .u64 a1 4294967295))) 32))) 32))] (sq (dn [(0, aU a0), (1, aU a1), (7, aU (iShr .u64 a0 32)), (9, aU (iShr .u64 a1 32)), (12, aU (IntKind.wrap .u64 ((iAnd .u64 (IntKind.wrap .u64 ((IntKind.wrap .u64 ((iShr .u64 a0 32) * (iAnd .u64 a1 4294967295))) + (iShr .u64 (IntKind.wrap .u64 ((iAnd .u64 a0 4294967295) * (iAnd .u64 a1 4294967295))) 32))) 4294967295) + (IntKind.wrap .u64 ((iAnd .u64 a0 4294967295) * (iShr .u64 a1 32)))))), (13, aU (iShr .u64 (IntKind.wrap .u64 ((IntKind.wrap .u64 ((iShr .u64 a0 32) * (iAnd .u64 a1 4294967295))) + (iShr .u64 (IntKind.wrap .u64 ((iAnd .u64 a0 4294967295) * (iAnd .u64 a1 4294967295))) 32))) 32))] (sq (dn [(0, aU a0), (1, aU a1), (4, aU (IntKind.wrap .u64 ((IntKind.wrap .u64 ((IntKind.wrap .u64 ((iShr .u64 a0 32) * (iShr .u64 a1 32))) + (iShr .u64 (IntKind.wrap .u64 ((IntKind.wrap .u64 ((iShr .u64 a0 32) * (iAnd .u64 a1 4294967295))) + (iShr .u64 (IntKind.wrap .u64 ((iAnd .u64 a0 4294967295) * (iAnd .u64 a1 4294967295))) 32))) 32))) + (iShr .u64 (IntKind.wrap .u64 ((iAnd .u64 (IntKind.wrap .u64 ((IntKind.wrap .u64 ((iShr .u64 a0 32) * (iAnd .u64 a1 4294967295))) + (iShr .u64 (IntKind.wrap .u64 ((iAnd .u64 a0 4294967295) * (iAnd .u64 a1 4294967295))) 32))) 4294967295) + (IntKind.wrap .u64 ((iAnd .u64 a0 4294967295) * (iShr .u64 a1 32))))) 32))))] (sq (dn [(4, aU (IntKind.wrap .u64 ((IntKind.wrap .u64 ((IntKind.wrap .u64 ((iShr .u64 a0 32) * (iShr .u64 a1 32))) + (iShr .u64 (IntKind.wrap .u64 ((IntKind.wrap .u64 ((iShr .u64 a0 32) * (iAnd .u64 a1 4294967295))) + (iShr .u64 (IntKind.wrap .u64 ((iAnd .u64 a0 4294967295) * (iAnd .u64 a1 4294967295))) 32))) 32))) + (iShr .u64 (IntKind.wrap .u64 ((iAnd .u64 (IntKind.wrap .u64 ((IntKind.wrap .u64 ((iShr .u64 a0 32) * (iAnd .u64 a1 4294967295))) + (iShr .u64 (IntKind.wrap .u64 ((iAnd .u64 a0 4294967295) * (iAnd .u64 a1 4294967295))) 32))) 4294967295) + (IntKind.wrap .u64 ((iAnd .u64 a0 4294967295) * (iShr .u64 a1 32))))) 32)))), (5, aU (IntKind.wrap .u64 (a0 * a1)))] (wp_ret ?_))))))))))))
  obtain rfl := Option.some.inj hm
  exact ⟨trivial, by kernel_rfl⟩
theorem ok_fixed_capped_uint64 {n : Nat} {a0 : Int} {a1 : Int} {r : Int} (hm : fixed_capped_uint64 n a0 a1 = some r) :
    call G n 159 [aU a0, aU a1] [] = some (.ret (aU r), []) := by
  unfold fixed_capped_uint64 at hm
  obtain ⟨n, rfl, h0⟩ := at1_some hm
  replace hm := h0; clear h0
  refine callL 10 [(0, aU a0), (1, aU a1)] func159 rfl (by kernel_rfl) (sq (dn [(0, aU a0), (1, aU a1)] (sq (dn [(0, aU a0), (1, aU a1), (5, aU 0)] (sq (sq (dn [(0, aU a0), (8, aB (a1 != 0))] ?_)))))))
  rcases bif_some hm with ⟨h1, hm⟩ | ⟨h1, hm⟩
  ·
   refine c1 h1 (sq (dn [(4, aU 18446744073709551615)] (wp_ret ?_)))
   obtain rfl := Option.some.inj hm
   exact ⟨trivial, by kernel_rfl⟩
  ·
   refine c0 h1 (wp_skip (sq (dn [(4, aU a0)] (wp_ret ?_))))
   obtain rfl := Option.some.inj hm
   exact ⟨trivial, by kernel_rfl⟩
theorem ok_fixed_Mul {n : Nat} {a0 : Int} {a1 : Int} {r : Int} (hm : fixed_Mul n a0 a1 = some r) :
    call G n 104 [aU a0, aU a1] [] = some (.ret (aU r), []) := by
  unfold fixed_Mul at hm
  obtain ⟨n, rfl, h0⟩ := at1_some hm
  replace hm := h0; clear h0
  refine callL 16 [(0, aU a0), (1, aU a1)] func104 rfl (by kernel_rfl) (sq (dn [(0, aU a0), (1, aU a1)] (sq (rg (s1 2 [(9, aU a1), (8, aU a0)] ?_)))))
  obtain ⟨x1, h2, hm⟩ := bs hm
  refine dv 10 (cpure (by kernel_rfl) (ok_math_bits_Mul64 h2) (by kernel_rfl) (by kernel_rfl) (by kernel_rfl)) (by kernel_rfl) (f1 5 [(5, aU x1.1), (6, aU x1.2)] (sq (rg (s1 2 [(14, aU x1.1), (13, aU x1.2)] ?_))))
  obtain ⟨x3, h4, hm⟩ := bs hm
  refine dv 15 (cpure (by kernel_rfl) (ok_fixed_capped_uint64 h4) (by kernel_rfl) (by kernel_rfl) (by kernel_rfl)) (by kernel_rfl) (f1 1 [(4, aU x3)] (wp_ret ?_))
  obtain rfl := Option.some.inj hm
  exact ⟨trivial, by kernel_rfl⟩
theorem okf_expr_Rels {rc_expr_Rels : (Nat → api_Expr → Option (Int))} (ih_expr_Rels : ∀ {n : Nat} {a0 : api_Expr} {r : Int} (hm : rc_expr_Rels n a0 = some r), call G n 112 [.agg [aI a0.fKind, aI a0.fRel, aI a0.fCol, aI a0.fConst.fKind, aI a0.fConst.fInt, aF a0.fConst.fFloat, aS a0.fConst.fText, .pv (encSl R_E_api_Expr a0.fKids)]] [] = some (.ret (.pv (.int .u32 r)), [])) {n : Nat} {a0 : api_Expr} {r : Int} (hm : expr_Rels_f rc_expr_Rels n a0 = some r) :
    call G n 112 [.agg [aI a0.fKind, aI a0.fRel, aI a0.fCol, aI a0.fConst.fKind, aI a0.fConst.fInt, aF a0.fConst.fFloat, aS a0.fConst.fText, .pv (encSl R_E_api_Expr a0.fKids)]] [] = some (.ret (.pv (.int .u32 r)), []) := by
  unfold expr_Rels_f at hm
  obtain ⟨n, rfl, h0⟩ := at1_some hm
  replace hm := h0; clear h0
  refine callL 36 [(0, .agg [aI a0.fKind, aI a0.fRel, aI a0.fCol, aI a0.fConst.fKind, aI a0.fConst.fInt, aF a0.fConst.fFloat, aS a0.fConst.fText, .pv (encSl R_E_api_Expr a0.fKids)])] func112 rfl (by kernel_rfl) (sq (det [(1, .ptr 0 0)] [.box [aI a0.fKind, aI a0.fRel, aI a0.fCol, aI a0.fConst.fKind, aI a0.fConst.fInt, aF a0.fConst.fFloat, aS a0.fConst.fText, .pv (encSl R_E_api_Expr a0.fKids)] false] (by kernel_rfl) (sq (dn [(1, .ptr 0 0), (3, .pv (.int .u32 0))] ?_))))
  obtain ⟨k3, hk3, hm⟩ := withK_some hm
  refine mid (fun t H => (∃ (y2 : Int) (w1 : AV), k3 y2 = some r ∧ t = mk 36 [(1, .ptr 0 0), (3, .pv (.int .u32 y2)), (18, w1)] ∧ H = [.box [aI a0.fKind, aI a0.fRel, aI a0.fCol, aI a0.fConst.fKind, aI a0.fConst.fInt, aF a0.fConst.fFloat, aS a0.fConst.fText, .pv (encSl R_E_api_Expr a0.fKids)] false])) ?_ ?_
  ·
   rintro _ _ ⟨y2, w1, hm, rfl, rfl⟩
   subst hk3
   obtain ⟨k7, hk7, hm⟩ := withK_some hm
   refine mid (fun t H => (∃ (y4 : Int) (y5 : Bool) (y6 : Int), k7 y6 = some r ∧ t = mk 36 [(3, .pv (.int .u32 y6)), (24, .pv (encSl R_E_api_Expr a0.fKids)), (25, aI ((sll a0.fKids).length : Int)), (26, aI y4), (27, aB y5)] ∧ H = [.box [aI a0.fKind, aI a0.fRel, aI a0.fCol, aI a0.fConst.fKind, aI a0.fConst.fInt, aF a0.fConst.fFloat, aS a0.fConst.fText, .pv (encSl R_E_api_Expr a0.fKids)] false])) ?_ ?_
   ·
    rintro _ _ ⟨y4, y5, y6, hm, rfl, rfl⟩
    subst hk7
    refine sq (dn [(2, .pv (.int .u32 y6))] (wp_ret ?_))
    obtain rfl := Option.some.inj hm
    exact ⟨trivial, by kernel_rfl⟩
   refine sq (rg (s1 2 [(24, .pv (encSl R_E_api_Expr a0.fKids)), (23, .ptr 0 7)] (dv 25 (v := aI ((sll a0.fKids).length : Int)) (len_slO R_E_api_Expr a0.fKids t23 (by kernel_rfl)) (by kernel_rfl) (f1 1 [(3, .pv (.int .u32 y2)), (24, .pv (encSl R_E_api_Expr a0.fKids)), (25, aI ((sll a0.fKids).length : Int)), (26, aI 0)] (bq ?_)))))
   refine loopF (fun mm t H => (∃ (y10 : Int) (y11 : Int), expr_Rels_l5 n rc_expr_Rels a0 k7 mm y10 y11 = some r ∧ t = mk 36 [(3, .pv (.int .u32 y11)), (24, .pv (encSl R_E_api_Expr a0.fKids)), (25, aI ((sll a0.fKids).length : Int)), (26, aI y10)] ∧ H = [.box [aI a0.fKind, aI a0.fRel, aI a0.fCol, aI a0.fConst.fKind, aI a0.fConst.fInt, aF a0.fConst.fFloat, aS a0.fConst.fText, .pv (encSl R_E_api_Expr a0.fKids)] false])) (⟨0, y2, hm, rfl, rfl⟩) ?_ ?_
   · rintro _ _ ⟨y10, y11, hm, _⟩; exact nomatch hm
   rintro m12 _ _ ⟨y10, y11, hm, rfl, rfl⟩
   simp only [expr_Rels_l5] at hm
   refine sq (dn [(3, .pv (.int .u32 y11)), (24, .pv (encSl R_E_api_Expr a0.fKids)), (25, aI ((sll a0.fKids).length : Int)), (26, aI y10), (27, aB (decide (y10 < ((sll a0.fKids).length : Int))))] ?_)
   refine sq ?_
   rcases bif_some hm with ⟨h13, hm⟩ | ⟨h13, hm⟩
   ·
    refine c1 h13 (wp_skip (sq (bq (sq (rg ?_)))))
    obtain ⟨x14, h15, hm⟩ := bs hm
    refine dv 28 (v := .pv (.ptr (R_api_Expr (un_api_Expr x14)) 0)) (ia_slE R_E_api_Expr a0.fKids .i64 t23 t49 h15 (R_un_api_Expr x14) rfl (by kernel_rfl)) (by kernel_rfl) (stf 3 [(3, .pv (.int .u32 y11)), (5, .ptr 1 0), (24, .pv (encSl R_E_api_Expr a0.fKids)), (25, aI ((sll a0.fKids).length : Int)), (26, aI y10)] [.box [aI a0.fKind, aI a0.fRel, aI a0.fCol, aI a0.fConst.fKind, aI a0.fConst.fInt, aF a0.fConst.fFloat, aS a0.fConst.fText, .pv (encSl R_E_api_Expr a0.fKids)] false, .box [aI ((un_api_Expr x14).fKind), aI ((un_api_Expr x14).fRel), aI ((un_api_Expr x14).fCol), aI (((un_api_Expr x14).fConst).fKind), aI (((un_api_Expr x14).fConst).fInt), aF (((un_api_Expr x14).fConst).fFloat), aS (((un_api_Expr x14).fConst).fText), .pv (encSl R_E_api_Expr ((un_api_Expr x14).fKids))] false] (by kernel_rfl) (rg (s1 2 [(31, .agg [aI ((un_api_Expr x14).fKind), aI ((un_api_Expr x14).fRel), aI ((un_api_Expr x14).fCol), aI (((un_api_Expr x14).fConst).fKind), aI (((un_api_Expr x14).fConst).fInt), aF (((un_api_Expr x14).fConst).fFloat), aS (((un_api_Expr x14).fConst).fText), .pv (encSl R_E_api_Expr ((un_api_Expr x14).fKids))]), (30, .pv (.int .u32 y11))] ?_)))
    obtain ⟨x16, h17, hm⟩ := bs hm
    refine dv 32 (cpure (by kernel_rfl) (ih_expr_Rels h17) (by kernel_rfl) (by kernel_rfl) (by kernel_rfl)) (by kernel_rfl) (f1 2 [(3, .pv (.int .u32 (iOr .u32 y11 x16))), (24, .pv (encSl R_E_api_Expr a0.fKids)), (25, aI ((sll a0.fKids).length : Int)), (26, aI y10)] (dn [(3, .pv (.int .u32 (iOr .u32 y11 x16))), (24, .pv (encSl R_E_api_Expr a0.fKids)), (25, aI ((sll a0.fKids).length : Int)), (26, aI (IntKind.wrap .i64 (y10 + 1)))] ?_))
    exact ⟨_, _, tidyL [(3, .pv (.int .u32 (iOr .u32 y11 x16))), (24, .pv (encSl R_E_api_Expr a0.fKids)), (25, aI ((sll a0.fKids).length : Int)), (26, aI (IntKind.wrap .i64 (y10 + 1)))] [.box [aI a0.fKind, aI a0.fRel, aI a0.fCol, aI a0.fConst.fKind, aI a0.fConst.fInt, aF a0.fConst.fFloat, aS a0.fConst.fText, .pv (encSl R_E_api_Expr a0.fKids)] false] (by kernel_rfl), ⟨(IntKind.wrap .i64 (y10 + 1)), (iOr .u32 y11 x16), hm, rfl, rfl⟩⟩
   ·
    refine c0 h13 (wp_exit ?_)
    exact ⟨y10, (decide (y10 < ((sll a0.fKids).length : Int))), y11, hm, rfl, rfl⟩
  refine sq (rg (s1 4 [(9, aB (a0.fKind == 1)), (8, aB (a0.fKind == 1)), (7, aI a0.fKind), (6, .ptr 0 0)] ?_))
  refine segP (a0.fKind == 1) [9, 8] (fun b => [(13, aB (b && (decide (a0.fRel ≥ 0)))), (12, ifA b (aB (decide (a0.fRel ≥ 0))) (.undef)), (11, ifA b (aI a0.fRel) (.undef)), (10, ifA b (.ptr 0 1) (.undef))]) 4 (by kernel_rfl) (by kernel_rfl) (by kernel_rfl) (s1 1 [(14, aB ((a0.fKind == 1) && (decide (a0.fRel ≥ 0))))] ?_)
  refine segP ((a0.fKind == 1) && (decide (a0.fRel ≥ 0))) [14, 13] (fun b => [(18, aB (b && (decide (a0.fRel ≤ 31)))), (17, ifA b (aB (decide (a0.fRel ≤ 31))) (.undef)), (16, ifA b (aI a0.fRel) (.undef)), (15, ifA b (.ptr 0 1) (.undef))]) 4 (by kernel_rfl) (by kernel_rfl) (by kernel_rfl) (fin [(1, .ptr 0 0), (3, .pv (.int .u32 0)), (18, aB (((a0.fKind == 1) && (decide (a0.fRel ≥ 0))) && (decide (a0.fRel ≤ 31))))] rfl (by kernel_rfl) ?_)
  rcases bif_some hm with ⟨h18, hm⟩ | ⟨h18, hm⟩
  ·
   refine c1 h18 (rg (s1 3 [(21, aU (IntKind.wrap .u64 a0.fRel)), (20, aI a0.fRel), (19, .ptr 0 1)] ?_))
   obtain ⟨_, h19, hm⟩ := bs hm
   refine dv 22 (v := .pv (.int .u32 (iShl .u32 1 (IntKind.wrap .u64 a0.fRel)))) (shlO h19 (by kernel_rfl)) (by kernel_rfl) (f1 1 [(1, .ptr 0 0), (3, .pv (.int .u32 (iShl .u32 1 (IntKind.wrap .u64 a0.fRel))))] ?_)
   exact ⟨(iShl .u32 1 (IntKind.wrap .u64 a0.fRel)), .any, hm, (mk_same (by kernel_rfl)), rfl⟩
  ·
   refine c0 h18 (wp_skip ?_)
   exact ⟨0, aB (((a0.fKind == 1) && (decide (a0.fRel ≥ 0))) && (decide (a0.fRel ≤ 31))), hm, (mk_same (by kernel_rfl)), rfl⟩
theorem okt_expr_Rels : ∀ (m : Nat), ∀ {n : Nat} {a0 : api_Expr} {r : Int} (hm : expr_Rels_t m n a0 = some r), call G n 112 [.agg [aI a0.fKind, aI a0.fRel, aI a0.fCol, aI a0.fConst.fKind, aI a0.fConst.fInt, aF a0.fConst.fFloat, aS a0.fConst.fText, .pv (encSl R_E_api_Expr a0.fKids)]] [] = some (.ret (.pv (.int .u32 r)), [])
  | 0 => by intros; rename_i hm; exact nomatch hm
  | m + 1 => fun hm =>
    okf_expr_Rels (okt_expr_Rels m) hm
theorem ok_expr_Rels {n : Nat} {a0 : api_Expr} {r : Int} (hm : expr_Rels n a0 = some r) :
    call G n 112 [.agg [aI a0.fKind, aI a0.fRel, aI a0.fCol, aI a0.fConst.fKind, aI a0.fConst.fInt, aF a0.fConst.fFloat, aS a0.fConst.fText, .pv (encSl R_E_api_Expr a0.fKids)]] [] = some (.ret (.pv (.int .u32 r)), []) := okt_expr_Rels n hm
theorem ok_guess_Within {n : Nat} {a0 : (Option (List E_api_Expr))} {a1 : Int} {r : (Option (List Int))} (hm : guess_Within n a0 a1 = some r) :
    call G n 27 [.pv (encSl R_E_api_Expr a0), .pv (.int .u32 a1)] [] = some (.ret (.pv (encSl (rI .i64) r)), []) := by
  unfold guess_Within at hm
  obtain ⟨n, rfl, h0⟩ := at1_some hm
  replace hm := h0; clear h0
  refine callL 37 [(0, .pv (encSl R_E_api_Expr a0)), (1, .pv (.int .u32 a1))] func27 rfl (by kernel_rfl) (sq (dn [(0, .pv (encSl R_E_api_Expr a0)), (1, .pv (.int .u32 a1))] (sq (dn [(0, .pv (encSl R_E_api_Expr a0)), (1, .pv (.int .u32 a1)), (5, .pv .nils)] ?_))))
  obtain ⟨k6, hk6, hm⟩ := withK_some hm
  refine mid (fun t H => (∃ (w1 : AV) (w2 : AV), k6 none = some r ∧ t = mk 37 [(1, .pv (.int .u32 a1)), (5, .pv .nils), (9, .pv (encSl R_E_api_Expr a0)), (10, aI ((sll a0).length : Int)), (11, w1), (12, w2)] ∧ H = []) ∨ (∃ (y3 : (List Int)) (w1 : AV) (w2 : AV) (g4 : Nat), k6 (some y3) = some r ∧ t = mk 37 [(1, .pv (.int .u32 a1)), (5, aR 0 1 g4), (9, .pv (encSl R_E_api_Expr a0)), (10, aI ((sll a0).length : Int)), (11, w1), (12, w2)] ∧ H = [bR 3 1 (rI .i64) y3 0 0] ∧ y3.length = g4)) ?_ ?_
  ·
   rintro _ _ (⟨w1, w2, hm, rfl, rfl⟩ | ⟨y3, w1, w2, g4, hm, rfl, rfl, q5⟩)
   ·
    subst hk6
    refine sq (dn [(4, .pv .nils)] (wp_ret ?_))
    obtain rfl := Option.some.inj hm
    exact ⟨trivial, by kernel_rfl⟩
   ·
    subst hk6
    refine sq (dn [(4, aR 0 1 g4)] (wp_ret ?_))
    obtain rfl := Option.some.inj hm
    exact ret_pure (v := aR 0 1 g4) trivial rfl (by kernel_rfl) (pA_ref (pur_ref' (n := g4) (id := 0) (l := y3) (R := (rI .i64)) rfl (by omega) (Nat.zero_le _)))
  refine sq (rg (s1 1 [(9, .pv (encSl R_E_api_Expr a0))] (dv 10 (v := aI ((sll a0).length : Int)) (len_slO R_E_api_Expr a0 t23 (by kernel_rfl)) (by kernel_rfl) (f1 1 [(1, .pv (.int .u32 a1)), (5, .pv .nils), (9, .pv (encSl R_E_api_Expr a0)), (10, aI ((sll a0).length : Int)), (11, aI 0)] (bq ?_)))))
  refine loopF (fun mm t H => (∃ (y14 : Int), guess_Within_l3 n a0 a1 k6 mm y14 none = some r ∧ t = mk 37 [(1, .pv (.int .u32 a1)), (5, .pv .nils), (9, .pv (encSl R_E_api_Expr a0)), (10, aI ((sll a0).length : Int)), (11, aI y14)] ∧ H = []) ∨ (∃ (y14 : Int) (y15 : (List Int)) (g16 : Nat), guess_Within_l3 n a0 a1 k6 mm y14 (some y15) = some r ∧ t = mk 37 [(1, .pv (.int .u32 a1)), (5, aR 0 1 g16), (9, .pv (encSl R_E_api_Expr a0)), (10, aI ((sll a0).length : Int)), (11, aI y14)] ∧ H = [bR 3 1 (rI .i64) y15 0 0] ∧ y15.length = g16)) (.inl ⟨0, hm, rfl, rfl⟩) ?_ ?_
  · rintro _ _ (⟨y14, hm, _⟩ | ⟨y14, y15, g16, hm, _⟩) <;> exact nomatch hm
  rintro m18 _ _ (⟨y14, hm, rfl, rfl⟩ | ⟨y14, y15, g16, hm, rfl, rfl, q17⟩)
  ·
   simp only [guess_Within_l3] at hm
   refine sq (dn [(1, .pv (.int .u32 a1)), (5, .pv .nils), (9, .pv (encSl R_E_api_Expr a0)), (10, aI ((sll a0).length : Int)), (11, aI y14), (12, aB (decide (y14 < ((sll a0).length : Int))))] ?_)
   refine sq ?_
   rcases bif_some hm with ⟨h19, hm⟩ | ⟨h19, hm⟩
   ·
    refine c1 h19 (wp_skip (sq (bq (sq (rg (s1 1 [(13, aI y14)] ?_))))))
    obtain ⟨x20, h21, hm⟩ := bs hm
    refine dv 14 (v := .pv (.ptr (R_api_Expr (un_api_Expr x20)) 0)) (ia_slE R_E_api_Expr a0 .i64 t23 t49 h21 (R_un_api_Expr x20) rfl (by kernel_rfl)) (by kernel_rfl) (stf 4 [(1, .pv (.int .u32 a1)), (5, .pv .nils), (6, aI y14), (7, .ptr 0 0), (9, .pv (encSl R_E_api_Expr a0)), (10, aI ((sll a0).length : Int)), (11, aI y14)] [.box [aI ((un_api_Expr x20).fKind), aI ((un_api_Expr x20).fRel), aI ((un_api_Expr x20).fCol), aI (((un_api_Expr x20).fConst).fKind), aI (((un_api_Expr x20).fConst).fInt), aF (((un_api_Expr x20).fConst).fFloat), aS (((un_api_Expr x20).fConst).fText), .pv (encSl R_E_api_Expr ((un_api_Expr x20).fKids))] false] (by kernel_rfl) (sq (rg (s1 1 [(16, .agg [aI ((un_api_Expr x20).fKind), aI ((un_api_Expr x20).fRel), aI ((un_api_Expr x20).fCol), aI (((un_api_Expr x20).fConst).fKind), aI (((un_api_Expr x20).fConst).fInt), aF (((un_api_Expr x20).fConst).fFloat), aS (((un_api_Expr x20).fConst).fText), .pv (encSl R_E_api_Expr ((un_api_Expr x20).fKids))])] ?_))))
    obtain ⟨x22, h23, hm⟩ := bs hm
    refine dv 17 (cpure (by kernel_rfl) (ok_expr_Rels h23) (by kernel_rfl) (by kernel_rfl) (by kernel_rfl)) (by kernel_rfl) (f1 1 [(1, .pv (.int .u32 a1)), (5, .pv .nils), (6, aI y14), (8, .pv (.int .u32 x22)), (9, .pv (encSl R_E_api_Expr a0)), (10, aI ((sll a0).length : Int)), (11, aI y14)] (sq (rg (s1 5 [(22, aB ((iAndNot .u32 x22 a1) == 0)), (21, aB ((iAndNot .u32 x22 a1) == 0)), (20, .pv (.int .u32 (iAndNot .u32 x22 a1))), (19, .pv (.int .u32 a1)), (18, .pv (.int .u32 x22))] ?_))))
    refine seg ((iAndNot .u32 x22 a1) == 0) [22, 21] (fun b => [(30, aB (b && ((x22 != 0) || ((iAnd .u32 a1 1) == 1)))), (29, ifA b (aB ((x22 != 0) || ((iAnd .u32 a1 1) == 1))) (.undef)), (28, ifA b (ifA (x22 != 0) (.undef) (aB ((iAnd .u32 a1 1) == 1))) (.undef)), (27, ifA b (ifA (x22 != 0) (.undef) (.pv (.int .u32 (iAnd .u32 a1 1)))) (.undef)), (26, ifA b (ifA (x22 != 0) (.undef) (.pv (.int .u32 a1))) (.undef)), (25, ifA b (aB (x22 != 0)) (.undef)), (24, ifA b (aB (x22 != 0)) (.undef)), (23, ifA b (.pv (.int .u32 x22)) (.undef))]) 13 (by kernel_rfl) ?_ ?_ ?_
    ·
     intro Q h
     refine s1 3 [(25, aB (x22 != 0)), (24, aB (x22 != 0)), (23, .pv (.int .u32 x22))] ?_
     refine segP (x22 != 0) [25, 24] (fun b => [(29, aB (b || ((iAnd .u32 a1 1) == 1))), (28, ifA b (.undef) (aB ((iAnd .u32 a1 1) == 1))), (27, ifA b (.undef) (.pv (.int .u32 (iAnd .u32 a1 1)))), (26, ifA b (.undef) (.pv (.int .u32 a1)))]) 4 (by kernel_rfl) (by kernel_rfl) (by kernel_rfl) (s1 1 [(30, aB ((x22 != 0) || ((iAnd .u32 a1 1) == 1)))] ?_)
     exact sameN (by kernel_rfl) (by kernel_rfl) h
    ·
     intro Q h
     refine s1 8 [(30, aB false), (29, .undef), (28, .undef), (27, .undef), (26, .undef), (25, .undef), (24, .undef), (23, .undef)] ?_
     exact sameN (by kernel_rfl) (by kernel_rfl) h
    refine fin [(1, .pv (.int .u32 a1)), (5, .pv .nils), (6, aI y14), (9, .pv (encSl R_E_api_Expr a0)), (10, aI ((sll a0).length : Int)), (11, aI y14), (30, aB (((iAndNot .u32 x22 a1) == 0) && ((x22 != 0) || ((iAnd .u32 a1 1) == 1))))] rfl (by kernel_rfl) ?_
    rcases bif_some hm with ⟨h24, hm⟩ | ⟨h24, hm⟩
    ·
     refine c1 h24 (rg (st 3 [(33, aR 1 1 1), (32, aI y14), (31, .pv .nils)] [.box [aI ((un_api_Expr x20).fKind), aI ((un_api_Expr x20).fRel), aI ((un_api_Expr x20).fCol), aI (((un_api_Expr x20).fConst).fKind), aI (((un_api_Expr x20).fConst).fInt), aF (((un_api_Expr x20).fConst).fFloat), aS (((un_api_Expr x20).fConst).fText), .pv (encSl R_E_api_Expr ((un_api_Expr x20).fKids))] false, bR 3 1 (rI .i64) ([y14] : List Int) 0 0] (by kernel_rfl) ?_))
     obtain ⟨_, h25, hm⟩ := bs hm
     refine dO [(34, aR 2 1 (([y14] : List Int).length))] [.box [aI ((un_api_Expr x20).fKind), aI ((un_api_Expr x20).fRel), aI ((un_api_Expr x20).fCol), aI (((un_api_Expr x20).fConst).fKind), aI (((un_api_Expr x20).fConst).fInt), aF (((un_api_Expr x20).fConst).fFloat), aS (((un_api_Expr x20).fConst).fText), .pv (encSl R_E_api_Expr ((un_api_Expr x20).fKids))] false, bR 3 1 (rI .i64) ([y14] : List Int) 0 0, bR 3 1 (rI .i64) ([y14] : List Int) 0 0] (app_nilO (u := 0) (rI .i64) ([y14] : List Int) (b := 8) t33 t3 rfl rfl rfl (fun _ => rfl) rfl h25 (show srcRows (aR 1 1 1) _ = some (([y14] : List Int).map (rI .i64)) from by kernel_rfl) (by kernel_rfl)) (by kernel_rfl) (f1 1 [(1, .pv (.int .u32 a1)), (5, aR 2 1 (([y14] : List Int).length)), (9, .pv (encSl R_E_api_Expr a0)), (10, aI ((sll a0).length : Int)), (11, aI y14)] (dn [(1, .pv (.int .u32 a1)), (5, aR 2 1 (([y14] : List Int).length)), (9, .pv (encSl R_E_api_Expr a0)), (10, aI ((sll a0).length : Int)), (11, aI (IntKind.wrap .i64 (y14 + 1)))] ?_))
     exact ⟨_, _, tidyL [(1, .pv (.int .u32 a1)), (5, aR 0 1 (([y14] : List Int).length)), (9, .pv (encSl R_E_api_Expr a0)), (10, aI ((sll a0).length : Int)), (11, aI (IntKind.wrap .i64 (y14 + 1)))] [bR 3 1 (rI .i64) ([y14] : List Int) 0 0] (by kernel_rfl), .inr (⟨(IntKind.wrap .i64 (y14 + 1)), ([y14] : List Int), ([y14] : List Int).length, hm, rfl, rfl, (by first | rfl | assumption | omega | (simp only [List.length_set, List.length_append, List.length_cons, List.length_nil, List.length_replicate, List.length_drop] at * <;> omega))⟩)⟩
    ·
     refine c0 h24 (wp_skip (dn [(1, .pv (.int .u32 a1)), (5, .pv .nils), (9, .pv (encSl R_E_api_Expr a0)), (10, aI ((sll a0).length : Int)), (11, aI (IntKind.wrap .i64 (y14 + 1)))] ?_))
     exact ⟨_, _, tidyL [(1, .pv (.int .u32 a1)), (5, .pv .nils), (9, .pv (encSl R_E_api_Expr a0)), (10, aI ((sll a0).length : Int)), (11, aI (IntKind.wrap .i64 (y14 + 1)))] [] (by kernel_rfl), .inl ⟨(IntKind.wrap .i64 (y14 + 1)), hm, rfl, rfl⟩⟩
   ·
    refine c0 h19 (wp_exit ?_)
    exact .inl ⟨aI y14, aB (decide (y14 < ((sll a0).length : Int))), hm, (mk_same (by kernel_rfl)), rfl⟩
  ·
   simp only [guess_Within_l3] at hm
   refine sq (dn [(1, .pv (.int .u32 a1)), (5, aR 0 1 g16), (9, .pv (encSl R_E_api_Expr a0)), (10, aI ((sll a0).length : Int)), (11, aI y14), (12, aB (decide (y14 < ((sll a0).length : Int))))] ?_)
   refine sq ?_
   rcases bif_some hm with ⟨h26, hm⟩ | ⟨h26, hm⟩
   ·
    refine c1 h26 (wp_skip (sq (bq (sq (rg (s1 1 [(13, aI y14)] ?_))))))
    obtain ⟨x27, h28, hm⟩ := bs hm
    refine dv 14 (v := .pv (.ptr (R_api_Expr (un_api_Expr x27)) 0)) (ia_slE R_E_api_Expr a0 .i64 t23 t49 h28 (R_un_api_Expr x27) rfl (by kernel_rfl)) (by kernel_rfl) (stf 4 [(1, .pv (.int .u32 a1)), (5, aR 0 1 g16), (6, aI y14), (7, .ptr 1 0), (9, .pv (encSl R_E_api_Expr a0)), (10, aI ((sll a0).length : Int)), (11, aI y14)] [bR 3 1 (rI .i64) y15 0 0, .box [aI ((un_api_Expr x27).fKind), aI ((un_api_Expr x27).fRel), aI ((un_api_Expr x27).fCol), aI (((un_api_Expr x27).fConst).fKind), aI (((un_api_Expr x27).fConst).fInt), aF (((un_api_Expr x27).fConst).fFloat), aS (((un_api_Expr x27).fConst).fText), .pv (encSl R_E_api_Expr ((un_api_Expr x27).fKids))] false] (by kernel_rfl) (sq (rg (s1 1 [(16, .agg [aI ((un_api_Expr x27).fKind), aI ((un_api_Expr x27).fRel), aI ((un_api_Expr x27).fCol), aI (((un_api_Expr x27).fConst).fKind), aI (((un_api_Expr x27).fConst).fInt), aF (((un_api_Expr x27).fConst).fFloat), aS (((un_api_Expr x27).fConst).fText), .pv (encSl R_E_api_Expr ((un_api_Expr x27).fKids))])] ?_))))
    obtain ⟨x29, h30, hm⟩ := bs hm
    refine dv 17 (cpure (by kernel_rfl) (ok_expr_Rels h30) (by kernel_rfl) (by kernel_rfl) (by kernel_rfl)) (by kernel_rfl) (f1 1 [(1, .pv (.int .u32 a1)), (5, aR 0 1 g16), (6, aI y14), (8, .pv (.int .u32 x29)), (9, .pv (encSl R_E_api_Expr a0)), (10, aI ((sll a0).length : Int)), (11, aI y14)] (sq (rg (s1 5 [(22, aB ((iAndNot .u32 x29 a1) == 0)), (21, aB ((iAndNot .u32 x29 a1) == 0)), (20, .pv (.int .u32 (iAndNot .u32 x29 a1))), (19, .pv (.int .u32 a1)), (18, .pv (.int .u32 x29))] ?_))))
    refine seg ((iAndNot .u32 x29 a1) == 0) [22, 21] (fun b => [(30, aB (b && ((x29 != 0) || ((iAnd .u32 a1 1) == 1)))), (29, ifA b (aB ((x29 != 0) || ((iAnd .u32 a1 1) == 1))) (.undef)), (28, ifA b (ifA (x29 != 0) (.undef) (aB ((iAnd .u32 a1 1) == 1))) (.undef)), (27, ifA b (ifA (x29 != 0) (.undef) (.pv (.int .u32 (iAnd .u32 a1 1)))) (.undef)), (26, ifA b (ifA (x29 != 0) (.undef) (.pv (.int .u32 a1))) (.undef)), (25, ifA b (aB (x29 != 0)) (.undef)), (24, ifA b (aB (x29 != 0)) (.undef)), (23, ifA b (.pv (.int .u32 x29)) (.undef))]) 13 (by kernel_rfl) ?_ ?_ ?_
    ·
     intro Q h
     refine s1 3 [(25, aB (x29 != 0)), (24, aB (x29 != 0)), (23, .pv (.int .u32 x29))] ?_
     refine segP (x29 != 0) [25, 24] (fun b => [(29, aB (b || ((iAnd .u32 a1 1) == 1))), (28, ifA b (.undef) (aB ((iAnd .u32 a1 1) == 1))), (27, ifA b (.undef) (.pv (.int .u32 (iAnd .u32 a1 1)))), (26, ifA b (.undef) (.pv (.int .u32 a1)))]) 4 (by kernel_rfl) (by kernel_rfl) (by kernel_rfl) (s1 1 [(30, aB ((x29 != 0) || ((iAnd .u32 a1 1) == 1)))] ?_)
     exact sameN (by kernel_rfl) (by kernel_rfl) h
    ·
     intro Q h
     refine s1 8 [(30, aB false), (29, .undef), (28, .undef), (27, .undef), (26, .undef), (25, .undef), (24, .undef), (23, .undef)] ?_
     exact sameN (by kernel_rfl) (by kernel_rfl) h
    refine fin [(1, .pv (.int .u32 a1)), (5, aR 0 1 g16), (6, aI y14), (9, .pv (encSl R_E_api_Expr a0)), (10, aI ((sll a0).length : Int)), (11, aI y14), (30, aB (((iAndNot .u32 x29 a1) == 0) && ((x29 != 0) || ((iAnd .u32 a1 1) == 1))))] rfl (by kernel_rfl) ?_
    rcases bif_some hm with ⟨h31, hm⟩ | ⟨h31, hm⟩
    ·
     refine c1 h31 (rg (st 3 [(33, aR 2 1 1), (32, aI y14), (31, aR 0 1 g16)] [bR 3 1 (rI .i64) y15 0 0, .box [aI ((un_api_Expr x27).fKind), aI ((un_api_Expr x27).fRel), aI ((un_api_Expr x27).fCol), aI (((un_api_Expr x27).fConst).fKind), aI (((un_api_Expr x27).fConst).fInt), aF (((un_api_Expr x27).fConst).fFloat), aS (((un_api_Expr x27).fConst).fText), .pv (encSl R_E_api_Expr ((un_api_Expr x27).fKids))] false, bR 3 1 (rI .i64) ([y14] : List Int) 0 0] (by kernel_rfl) ?_))
     obtain ⟨_, h32, hm⟩ := bs hm
     refine dO [(34, aR 0 1 ((y15 ++ ([y14] : List Int)).length))] [bR 3 1 (rI .i64) (y15 ++ ([y14] : List Int)) 0 0, .box [aI ((un_api_Expr x27).fKind), aI ((un_api_Expr x27).fRel), aI ((un_api_Expr x27).fCol), aI (((un_api_Expr x27).fConst).fKind), aI (((un_api_Expr x27).fConst).fInt), aF (((un_api_Expr x27).fConst).fFloat), aS (((un_api_Expr x27).fConst).fText), .pv (encSl R_E_api_Expr ((un_api_Expr x27).fKids))] false, bR 3 1 (rI .i64) ([y14] : List Int) 0 0] (app_refO (u := 0) (n := g16) (id := 0) (rI .i64) y15 ([y14] : List Int) (b := 8) t33 t3 rfl rfl rfl (fun _ => rfl) rfl h32 rfl (by omega) (Nat.zero_le _) (show srcRows (aR 2 1 1) _ = some (([y14] : List Int).map (rI .i64)) from by kernel_rfl) (by kernel_rfl)) (by kernel_rfl) (f1 1 [(1, .pv (.int .u32 a1)), (5, aR 0 1 ((y15 ++ ([y14] : List Int)).length)), (9, .pv (encSl R_E_api_Expr a0)), (10, aI ((sll a0).length : Int)), (11, aI y14)] (dn [(1, .pv (.int .u32 a1)), (5, aR 0 1 ((y15 ++ ([y14] : List Int)).length)), (9, .pv (encSl R_E_api_Expr a0)), (10, aI ((sll a0).length : Int)), (11, aI (IntKind.wrap .i64 (y14 + 1)))] ?_))
     exact ⟨_, _, tidyL [(1, .pv (.int .u32 a1)), (5, aR 0 1 ((y15 ++ ([y14] : List Int)).length)), (9, .pv (encSl R_E_api_Expr a0)), (10, aI ((sll a0).length : Int)), (11, aI (IntKind.wrap .i64 (y14 + 1)))] [bR 3 1 (rI .i64) (y15 ++ ([y14] : List Int)) 0 0] (by kernel_rfl), .inr (⟨(IntKind.wrap .i64 (y14 + 1)), (y15 ++ ([y14] : List Int)), (y15 ++ ([y14] : List Int)).length, hm, rfl, rfl, (by first | rfl | assumption | omega | (simp only [List.length_set, List.length_append, List.length_cons, List.length_nil, List.length_replicate, List.length_drop] at * <;> omega))⟩)⟩
    ·
     refine c0 h31 (wp_skip (dn [(1, .pv (.int .u32 a1)), (5, aR 0 1 g16), (9, .pv (encSl R_E_api_Expr a0)), (10, aI ((sll a0).length : Int)), (11, aI (IntKind.wrap .i64 (y14 + 1)))] ?_))
     exact ⟨_, _, tidyL [(1, .pv (.int .u32 a1)), (5, aR 0 1 g16), (9, .pv (encSl R_E_api_Expr a0)), (10, aI ((sll a0).length : Int)), (11, aI (IntKind.wrap .i64 (y14 + 1)))] [bR 3 1 (rI .i64) y15 0 0] (by kernel_rfl), .inr (⟨(IntKind.wrap .i64 (y14 + 1)), y15, g16, hm, rfl, rfl, (by first | rfl | assumption | omega | (simp only [List.length_set, List.length_append, List.length_cons, List.length_nil, List.length_replicate, List.length_drop] at * <;> omega))⟩)⟩
   ·
    refine c0 h26 (wp_exit ?_)
    exact .inr (⟨y15, aI y14, aB (decide (y14 < ((sll a0).length : Int))), g16, hm, (mk_same (by kernel_rfl)), rfl, (by first | rfl | assumption | omega | (simp only [List.length_set, List.length_append, List.length_cons, List.length_nil, List.length_replicate, List.length_drop] at * <;> omega))⟩)
theorem ok_expr_kids {n : Nat} {a0 : Int} {r : Int} (hm : expr_kids n a0 = some r) :
    call G n 192 [aI a0] [] = some (.ret (aI r), []) := by
  unfold expr_kids at hm
  obtain ⟨n, rfl, h0⟩ := at1_some hm
  replace hm := h0; clear h0
  refine callL 20 [(0, aI a0)] func192 rfl (by kernel_rfl) (sq (dn [(0, aI a0)] (sq (sq (dn [(3, aI a0)] (bq ?_))))))
  obtain ⟨k2, hk2, hm⟩ := withK_some hm
  refine mid (fun t H => (∃ (y1 : Bool), k2 y1 = some r ∧ t = mk 20 [(3, aI a0), (4, aB y1)] ∧ H = [])) ?_ ?_
  ·
   rintro _ _ ⟨y1, hm, rfl, rfl⟩
   subst hk2
   rcases bif_some hm with ⟨h3, hm⟩ | ⟨h3, hm⟩
   ·
    refine c1 h3 (sq (dn [(2, aI 0)] (wp_ret ?_)))
    obtain rfl := Option.some.inj hm
    exact ⟨trivial, by kernel_rfl⟩
   ·
    refine c0 h3 ?_
    obtain ⟨k5, hk5, hm⟩ := withK_some hm
    refine mid (fun t H => (∃ (y4 : Bool), k5 y4 = some r ∧ t = mk 20 [(3, aI a0), (7, aB y4)] ∧ H = [])) ?_ ?_
    ·
     rintro _ _ ⟨y4, hm, rfl, rfl⟩
     subst hk5
     rcases bif_some hm with ⟨h6, hm⟩ | ⟨h6, hm⟩
     ·
      refine c1 h6 (sq (dn [(2, aI 1)] (wp_ret ?_)))
      obtain rfl := Option.some.inj hm
      exact ⟨trivial, by kernel_rfl⟩
     ·
      refine c0 h6 (sq (sq (dn [(3, aI a0), (11, aB (a0 == 3))] ?_)))
      rcases bif_some hm with ⟨h7, hm⟩ | ⟨h7, hm⟩
      ·
       refine c1 h7 (wp_skip ?_)
       rcases bif_some hm with ⟨h8, hm⟩ | ⟨h8, hm⟩
       ·
        refine c1 h8 (sq (dn [(2, aI 2)] (wp_ret ?_)))
        obtain rfl := Option.some.inj hm
        exact ⟨trivial, by kernel_rfl⟩
       ·
        refine c0 h8 (wp_skip (sq (dn [(2, aI (-1))] (wp_ret ?_))))
        obtain rfl := Option.some.inj hm
        exact ⟨trivial, by kernel_rfl⟩
      ·
       refine c0 h7 (sq (dn [(3, aI a0), (11, aB (a0 == 4))] ?_))
       rcases bif_some hm with ⟨h9, hm⟩ | ⟨h9, hm⟩
       ·
        refine c1 h9 (wp_skip ?_)
        rcases bif_some hm with ⟨h10, hm⟩ | ⟨h10, hm⟩
        ·
         refine c1 h10 (sq (dn [(2, aI 2)] (wp_ret ?_)))
         obtain rfl := Option.some.inj hm
         exact ⟨trivial, by kernel_rfl⟩
        ·
         refine c0 h10 (wp_skip (sq (dn [(2, aI (-1))] (wp_ret ?_))))
         obtain rfl := Option.some.inj hm
         exact ⟨trivial, by kernel_rfl⟩
       ·
        refine c0 h9 (sq (dn [(3, aI a0), (11, aB (a0 == 5))] ?_))
        rcases bif_some hm with ⟨h11, hm⟩ | ⟨h11, hm⟩
        ·
         refine c1 h11 (wp_skip ?_)
         rcases bif_some hm with ⟨h12, hm⟩ | ⟨h12, hm⟩
         ·
          refine c1 h12 (sq (dn [(2, aI 2)] (wp_ret ?_)))
          obtain rfl := Option.some.inj hm
          exact ⟨trivial, by kernel_rfl⟩
         ·
          refine c0 h12 (wp_skip (sq (dn [(2, aI (-1))] (wp_ret ?_))))
          obtain rfl := Option.some.inj hm
          exact ⟨trivial, by kernel_rfl⟩
        ·
         refine c0 h11 (sq (dn [(3, aI a0), (11, aB (a0 == 7))] ?_))
         rcases bif_some hm with ⟨h13, hm⟩ | ⟨h13, hm⟩
         ·
          refine c1 h13 (wp_skip ?_)
          rcases bif_some hm with ⟨h14, hm⟩ | ⟨h14, hm⟩
          ·
           refine c1 h14 (sq (dn [(2, aI 2)] (wp_ret ?_)))
           obtain rfl := Option.some.inj hm
           exact ⟨trivial, by kernel_rfl⟩
          ·
           refine c0 h14 (wp_skip (sq (dn [(2, aI (-1))] (wp_ret ?_))))
           obtain rfl := Option.some.inj hm
           exact ⟨trivial, by kernel_rfl⟩
         ·
          refine c0 h13 (sq (dn [(3, aI a0), (11, aB (a0 == 8))] ?_))
          rcases bif_some hm with ⟨h15, hm⟩ | ⟨h15, hm⟩
          ·
           refine c1 h15 (wp_skip ?_)
           rcases bif_some hm with ⟨h16, hm⟩ | ⟨h16, hm⟩
           ·
            refine c1 h16 (sq (dn [(2, aI 2)] (wp_ret ?_)))
            obtain rfl := Option.some.inj hm
            exact ⟨trivial, by kernel_rfl⟩
           ·
            refine c0 h16 (wp_skip (sq (dn [(2, aI (-1))] (wp_ret ?_))))
            obtain rfl := Option.some.inj hm
            exact ⟨trivial, by kernel_rfl⟩
          ·
           refine c0 h15 (sq (dn [(3, aI a0), (11, aB (a0 == 9))] ?_))
           rcases bif_some hm with ⟨h17, hm⟩ | ⟨h17, hm⟩
           ·
            refine c1 h17 (wp_skip ?_)
            rcases bif_some hm with ⟨h18, hm⟩ | ⟨h18, hm⟩
            ·
             refine c1 h18 (sq (dn [(2, aI 2)] (wp_ret ?_)))
             obtain rfl := Option.some.inj hm
             exact ⟨trivial, by kernel_rfl⟩
            ·
             refine c0 h18 (wp_skip (sq (dn [(2, aI (-1))] (wp_ret ?_))))
             obtain rfl := Option.some.inj hm
             exact ⟨trivial, by kernel_rfl⟩
           ·
            refine c0 h17 (sq (dn [(3, aI a0), (11, aB (a0 == 10))] ?_))
            rcases bif_some hm with ⟨h19, hm⟩ | ⟨h19, hm⟩
            ·
             refine c1 h19 (wp_skip ?_)
             rcases bif_some hm with ⟨h20, hm⟩ | ⟨h20, hm⟩
             ·
              refine c1 h20 (sq (dn [(2, aI 2)] (wp_ret ?_)))
              obtain rfl := Option.some.inj hm
              exact ⟨trivial, by kernel_rfl⟩
             ·
              refine c0 h20 (wp_skip (sq (dn [(2, aI (-1))] (wp_ret ?_))))
              obtain rfl := Option.some.inj hm
              exact ⟨trivial, by kernel_rfl⟩
            ·
             refine c0 h19 (dn [(11, aB (a0 == 11))] ?_)
             rcases bif_some hm with ⟨h21, hm⟩ | ⟨h21, hm⟩
             ·
              refine c1 h21 (sq (dn [(2, aI 2)] (wp_ret ?_)))
              obtain rfl := Option.some.inj hm
              exact ⟨trivial, by kernel_rfl⟩
             ·
              refine c0 h21 (wp_skip (sq (dn [(2, aI (-1))] (wp_ret ?_))))
              obtain rfl := Option.some.inj hm
              exact ⟨trivial, by kernel_rfl⟩
    refine sq (dn [(3, aI a0), (7, aB (a0 == 6))] ?_)
    rcases bif_some hm with ⟨h22, hm⟩ | ⟨h22, hm⟩
    ·
     refine c1 h22 (wp_skip ?_)
     exact ⟨(a0 == 6), hm, rfl, rfl⟩
    ·
     refine c0 h22 (sq (dn [(3, aI a0), (7, aB (a0 == 12))] ?_))
     rcases bif_some hm with ⟨h23, hm⟩ | ⟨h23, hm⟩
     ·
      refine c1 h23 (wp_skip ?_)
      exact ⟨(a0 == 12), hm, rfl, rfl⟩
     ·
      refine c0 h23 (dn [(3, aI a0), (7, aB (a0 == 13))] ?_)
      exact ⟨(a0 == 13), hm, rfl, rfl⟩
  refine sq (dn [(3, aI a0), (4, aB (a0 == 1))] ?_)
  rcases bif_some hm with ⟨h24, hm⟩ | ⟨h24, hm⟩
  ·
   refine c1 h24 (wp_skip ?_)
   exact ⟨(a0 == 1), hm, rfl, rfl⟩
  ·
   refine c0 h24 (dn [(3, aI a0), (4, aB (a0 == 2))] ?_)
   exact ⟨(a0 == 2), hm, rfl, rfl⟩
theorem ok_expr_fields_1 {n : Nat} {a0 : Int} {r : Bool} (hm : expr_fields_1 n a0 = some r) :
    call G n 249 [aI a0] [] = some (.ret (aB r), []) := by
  unfold expr_fields_1 at hm
  obtain ⟨n, rfl, h0⟩ := at1_some hm
  replace hm := h0; clear h0
  refine callL 9 [(0, aI a0)] func249 rfl (by kernel_rfl) (sq (dn [(0, aI a0)] (sq (rg (s1 3 [(5, aB (decide (a0 ≥ 0))), (4, aB (decide (a0 ≥ 0))), (3, aI a0)] ?_)))))
  refine segP (decide (a0 ≥ 0)) [5, 4] (fun b => [(8, aB (b && (decide (a0 ≤ 31)))), (7, ifA b (aB (decide (a0 ≤ 31))) (.undef)), (6, ifA b (aI a0) (.undef))]) 3 (by kernel_rfl) (by kernel_rfl) (by kernel_rfl) (f1 1 [(2, aB ((decide (a0 ≥ 0)) && (decide (a0 ≤ 31))))] (wp_ret ?_))
  obtain rfl := Option.some.inj hm
  exact ⟨trivial, by kernel_rfl⟩
theorem ok_math_Signbit {n : Nat} {a0 : Nat} {r : Bool} (hm : math_Signbit n a0 = some r) :
    call G n 250 [aF a0] [] = some (.ret (aB r), []) := by
  unfold math_Signbit at hm
  obtain ⟨n, rfl, h0⟩ := at1_some hm
  replace hm := h0; clear h0
  refine callL 7 [(0, aF a0)] func250 rfl (by kernel_rfl) (sq (dn [(0, aF a0)] (sq (rg (s1 1 [(3, aF a0)] (s1 1 [(4, aU (a0 : Int))] (f1 3 [(2, aB (decide ((IntKind.wrap .i64 (a0 : Int)) < 0)))] (wp_ret ?_))))))))
  obtain rfl := Option.some.inj hm
  exact ⟨trivial, by kernel_rfl⟩
theorem ok_value_Right {n : Nat} {a0 : api_Value} {r : Bool} (hm : value_Right n a0 = some r) :
    call G n 227 [.agg [aI a0.fKind, aI a0.fInt, aF a0.fFloat, aS a0.fText]] [] = some (.ret (aB r), []) := by
  unfold value_Right at hm
  obtain ⟨n, rfl, h0⟩ := at1_some hm
  replace hm := h0; clear h0
  refine callL 70 [(0, .agg [aI a0.fKind, aI a0.fInt, aF a0.fFloat, aS a0.fText])] func227 rfl (by kernel_rfl) (sq (det [(1, .ptr 0 0)] [.box [aI a0.fKind, aI a0.fInt, aF a0.fFloat, aS a0.fText] false] (by kernel_rfl) ?_))
  obtain ⟨k2, hk2, hm⟩ := withK_some hm
  refine mid (fun t H => (∃ (y1 : Bool), k2 y1 = some r ∧ t = mk 70 [(1, .ptr 0 0), (3, aB y1)] ∧ H = [.box [aI a0.fKind, aI a0.fInt, aF a0.fFloat, aS a0.fText] false])) ?_ ?_
  ·
   rintro _ _ ⟨y1, hm, rfl, rfl⟩
   subst hk2
   refine sq (sq (dn [(1, .ptr 0 0), (3, aB y1), (14, aI a0.fKind)] (bq ?_)))
   refine sq (bq ?_)
   refine sq (bq ?_)
   obtain ⟨k6, hk6, hm⟩ := withK_some hm
   refine mid (fun t H => (∃ (w3 : AV) (w4 : AV) (w5 : AV), k6 () = some r ∧ t = mk 70 [(1, .ptr 0 0), (3, aB y1), (14, w3), (19, w4), (43, w5)] ∧ H = [.box [aI a0.fKind, aI a0.fInt, aF a0.fFloat, aS a0.fText] false])) ?_ ?_
   ·
    rintro _ _ ⟨w3, w4, w5, hm, rfl, rfl⟩
    subst hk6
    refine sq (sq (rg (s1 2 [(45, aB y1), (44, aB y1)] ?_)))
    refine segP y1 [45, 44, 3] (fun b => [(49, aB (b && (sEq a0.fText ByteArray.empty))), (48, ifA b (aB (sEq a0.fText ByteArray.empty)) (.undef)), (47, ifA b (aS a0.fText) (.undef)), (46, ifA b (.ptr 0 3) (.undef))]) 4 (by kernel_rfl) (by kernel_rfl) (by kernel_rfl) (f1 1 [(2, aB (y1 && (sEq a0.fText ByteArray.empty)))] (wp_ret ?_))
    obtain rfl := Option.some.inj hm
    exact ⟨trivial, by kernel_rfl⟩
   refine bq ?_
   refine sq (bq ?_)
   refine sq (bq (sq ?_))
   refine sq (sq (dn [(1, .ptr 0 0), (3, aB y1), (14, aI a0.fKind), (15, aB (a0.fKind == 0))] ?_))
   rcases bif_some hm with ⟨h7, hm⟩ | ⟨h7, hm⟩
   ·
    refine c1 h7 (wp_exit (sq (sq (rg (s1 4 [(28, aB (a0.fInt == 0)), (27, aB (a0.fInt == 0)), (26, aI a0.fInt), (25, .ptr 0 1)] ?_)))))
    refine segP (a0.fInt == 0) [28, 27] (fun b => [(30, aB (b && y1)), (29, ifA b (aB y1) (.undef))]) 2 (by kernel_rfl) (by kernel_rfl) (by kernel_rfl) (s1 1 [(31, aB ((a0.fInt == 0) && y1))] ?_)
    refine segP ((a0.fInt == 0) && y1) [31, 30] (fun b => [(35, aB (b && (sEq a0.fText ByteArray.empty))), (34, ifA b (aB (sEq a0.fText ByteArray.empty)) (.undef)), (33, ifA b (aS a0.fText) (.undef)), (32, ifA b (.ptr 0 3) (.undef))]) 4 (by kernel_rfl) (by kernel_rfl) (by kernel_rfl) (f1 1 [(2, aB (((a0.fInt == 0) && y1) && (sEq a0.fText ByteArray.empty)))] (wp_ret ?_))
    obtain rfl := Option.some.inj hm
    exact ⟨trivial, by kernel_rfl⟩
   ·
    refine c0 h7 (wp_skip (sq (sq (dn [(1, .ptr 0 0), (3, aB y1), (14, aI a0.fKind), (17, aB (a0.fKind == 1))] ?_))))
    rcases bif_some hm with ⟨h8, hm⟩ | ⟨h8, hm⟩
    ·
     refine c1 h8 (wp_exit (sq (rg (s1 4 [(39, aB (a0.fInt != 0)), (38, aB (a0.fInt != 0)), (37, aI a0.fInt), (36, .ptr 0 1)] ?_))))
     refine segP (a0.fInt != 0) [39, 38] (fun b => [(43, aB (b && (a0.fInt != 1))), (42, ifA b (aB (a0.fInt != 1)) (.undef)), (41, ifA b (aI a0.fInt) (.undef)), (40, ifA b (.ptr 0 1) (.undef))]) 4 (by kernel_rfl) (by kernel_rfl) (by kernel_rfl) (fin [(1, .ptr 0 0), (3, aB y1), (43, aB ((a0.fInt != 0) && (a0.fInt != 1)))] rfl (by kernel_rfl) ?_)
     rcases bif_some hm with ⟨h9, hm⟩ | ⟨h9, hm⟩
     ·
      refine c1 h9 (sq (dn [(2, aB false)] (wp_ret ?_)))
      obtain rfl := Option.some.inj hm
      exact ⟨trivial, by kernel_rfl⟩
     ·
      refine c0 h9 (wp_skip ?_)
      exact ⟨.any, .any, aB ((a0.fInt != 0) && (a0.fInt != 1)), hm, (mk_same (by kernel_rfl)), rfl⟩
    ·
     refine c0 h8 (wp_skip (sq (sq (dn [(1, .ptr 0 0), (3, aB y1), (14, aI a0.fKind), (19, aB (a0.fKind == 2))] ?_))))
     rcases bif_some hm with ⟨h10, hm⟩ | ⟨h10, hm⟩
     ·
      refine c1 h10 (wp_exit ?_)
      exact ⟨aI a0.fKind, aB (a0.fKind == 2), .any, hm, (mk_same (by kernel_rfl)), rfl⟩
     ·
      refine c0 h10 (wp_skip (sq (sq (dn [(1, .ptr 0 0), (3, aB y1), (14, aI a0.fKind), (21, aB (a0.fKind == 3))] ?_))))
      rcases bif_some hm with ⟨h11, hm⟩ | ⟨h11, hm⟩
      ·
       refine c1 h11 (wp_exit (sq (sq (rg (s1 4 [(53, aB (a0.fInt == 0)), (52, aB (a0.fInt == 0)), (51, aI a0.fInt), (50, .ptr 0 1)] ?_)))))
       refine segP (a0.fInt == 0) [53, 52] (fun b => [(57, aB (b && (sEq a0.fText ByteArray.empty))), (56, ifA b (aB (sEq a0.fText ByteArray.empty)) (.undef)), (55, ifA b (aS a0.fText) (.undef)), (54, ifA b (.ptr 0 3) (.undef))]) 4 (by kernel_rfl) (by kernel_rfl) (by kernel_rfl) (f1 1 [(2, aB ((a0.fInt == 0) && (sEq a0.fText ByteArray.empty)))] (wp_ret ?_))
       obtain rfl := Option.some.inj hm
       exact ⟨trivial, by kernel_rfl⟩
      ·
       refine c0 h11 (wp_skip (sq (dn [(1, .ptr 0 0), (3, aB y1), (23, aB (a0.fKind == 4))] ?_)))
       rcases bif_some hm with ⟨h12, hm⟩ | ⟨h12, hm⟩
       ·
        refine c1 h12 (wp_exit (sq (sq (rg (s1 4 [(61, aB (a0.fInt == 0)), (60, aB (a0.fInt == 0)), (59, aI a0.fInt), (58, .ptr 0 1)] ?_)))))
        refine segP (a0.fInt == 0) [61, 60] (fun b => [(63, aB (b && y1)), (62, ifA b (aB y1) (.undef))]) 2 (by kernel_rfl) (by kernel_rfl) (by kernel_rfl) (s1 1 [(64, aB ((a0.fInt == 0) && y1))] ?_)
        refine segP ((a0.fInt == 0) && y1) [64, 63] (fun b => [(69, aB (b && (decide ((a0.fText.size : Int) ≤ 64)))), (68, ifA b (aB (decide ((a0.fText.size : Int) ≤ 64))) (.undef)), (67, ifA b (aI (a0.fText.size : Int)) (.undef)), (66, ifA b (aS a0.fText) (.undef)), (65, ifA b (.ptr 0 3) (.undef))]) 5 (by kernel_rfl) (by kernel_rfl) (by kernel_rfl) (f1 1 [(2, aB (((a0.fInt == 0) && y1) && (decide ((a0.fText.size : Int) ≤ 64))))] (wp_ret ?_))
        obtain rfl := Option.some.inj hm
        exact ⟨trivial, by kernel_rfl⟩
       ·
        refine c0 h12 (wp_skip (wp_exit (sq (dn [(2, aB false)] (wp_ret ?_)))))
        obtain rfl := Option.some.inj hm
        exact ⟨trivial, by kernel_rfl⟩
  refine rg (s1 4 [(7, aB ((FloatKind.format .f64).order a0.fFloat 0 == some .eq)), (6, aB ((FloatKind.format .f64).order a0.fFloat 0 == some .eq)), (5, aF a0.fFloat), (4, .ptr 0 2)] ?_)
  rcases bif_some hm with ⟨h13, hm⟩ | ⟨h13, hm⟩
  ·
   refine known [7, 6] h13 (by kernel_rfl) (s1 2 [(9, aF a0.fFloat), (8, .ptr 0 2)] ?_)
   obtain ⟨x14, h15, hm⟩ := bs hm
   refine dv 10 (cpure (by kernel_rfl) (ok_math_Signbit h15) (by kernel_rfl) (by kernel_rfl) (by kernel_rfl)) (by kernel_rfl) (f1 3 [(1, .ptr 0 0), (3, aB (!x14))] ?_)
   exact ⟨(!x14), hm, rfl, rfl⟩
  ·
   refine known [7, 6] h13 (by kernel_rfl) (f1 6 [(1, .ptr 0 0), (3, aB false)] ?_)
   exact ⟨false, hm, rfl, rfl⟩
theorem ok_expr_fields {n : Nat} {a0 : api_Expr} {r : Bool} (hm : expr_fields n a0 = some r) :
    call G n 226 [.agg [aI a0.fKind, aI a0.fRel, aI a0.fCol, aI a0.fConst.fKind, aI a0.fConst.fInt, aF a0.fConst.fFloat, aS a0.fConst.fText, .pv (encSl R_E_api_Expr a0.fKids)]] [] = some (.ret (aB r), []) := by
  unfold expr_fields at hm
  obtain ⟨n, rfl, h0⟩ := at1_some hm
  replace hm := h0; clear h0
  refine callL 45 [(0, .agg [aI a0.fKind, aI a0.fRel, aI a0.fCol, aI a0.fConst.fKind, aI a0.fConst.fInt, aF a0.fConst.fFloat, aS a0.fConst.fText, .pv (encSl R_E_api_Expr a0.fKids)])] func226 rfl (by kernel_rfl) (sq (det [(1, .ptr 0 0)] [.box [aI a0.fKind, aI a0.fRel, aI a0.fCol, aI a0.fConst.fKind, aI a0.fConst.fInt, aF a0.fConst.fFloat, aS a0.fConst.fText, .pv (encSl R_E_api_Expr a0.fKids)] false] (by kernel_rfl) (sq (dn [(1, .ptr 0 0), (3, .pv (.fn 249 [] []))] ?_))))
  refine sq (sq (rg (s1 4 [(7, aB (a0.fKind != 1)), (6, aB (a0.fKind != 1)), (5, aI a0.fKind), (4, .ptr 0 0)] ?_)))
  refine seg (a0.fKind != 1) [7, 6] (fun b => [(16, aB (b && ((a0.fRel != 0) || (a0.fCol != 0)))), (15, ifA b (aB ((a0.fRel != 0) || (a0.fCol != 0))) (.undef)), (14, ifA b (ifA (a0.fRel != 0) (.undef) (aB (a0.fCol != 0))) (.undef)), (13, ifA b (ifA (a0.fRel != 0) (.undef) (aI a0.fCol)) (.undef)), (12, ifA b (ifA (a0.fRel != 0) (.undef) (.ptr 0 2)) (.undef)), (11, ifA b (aB (a0.fRel != 0)) (.undef)), (10, ifA b (aB (a0.fRel != 0)) (.undef)), (9, ifA b (aI a0.fRel) (.undef)), (8, ifA b (.ptr 0 1) (.undef))]) 13 (by kernel_rfl) ?_ ?_ ?_
  ·
   intro Q h
   refine s1 4 [(11, aB (a0.fRel != 0)), (10, aB (a0.fRel != 0)), (9, aI a0.fRel), (8, .ptr 0 1)] ?_
   refine segP (a0.fRel != 0) [11, 10] (fun b => [(15, aB (b || (a0.fCol != 0))), (14, ifA b (.undef) (aB (a0.fCol != 0))), (13, ifA b (.undef) (aI a0.fCol)), (12, ifA b (.undef) (.ptr 0 2))]) 4 (by kernel_rfl) (by kernel_rfl) (by kernel_rfl) (s1 1 [(16, aB ((a0.fRel != 0) || (a0.fCol != 0)))] ?_)
   exact sameN (by kernel_rfl) (by kernel_rfl) h
  ·
   intro Q h
   refine s1 9 [(16, aB false), (15, .undef), (14, .undef), (13, .undef), (12, .undef), (11, .undef), (10, .undef), (9, .undef), (8, .undef)] ?_
   exact sameN (by kernel_rfl) (by kernel_rfl) h
  refine s1 1 [(17, aB ((a0.fKind != 1) && ((a0.fRel != 0) || (a0.fCol != 0))))] ?_
  rcases bif_some hm with ⟨h1, hm⟩ | ⟨h1, hm⟩
  ·
   refine known [17, 16] h1 (by kernel_rfl) (f1 13 [(1, .ptr 0 0), (30, aB true)] (cT (by kernel_rfl) (sq (dn [(2, aB false)] (wp_ret ?_)))))
   obtain rfl := Option.some.inj hm
   exact ⟨trivial, by kernel_rfl⟩
  ·
   refine known [17, 16] h1 (by kernel_rfl) (s1 3 [(20, aI a0.fRel), (19, .ptr 0 1), (18, .pv (.fn 249 [] []))] ?_)
   obtain ⟨x2, h3, hm⟩ := bs hm
   refine dv 21 (cpure (by kernel_rfl) (ok_expr_fields_1 h3) (by kernel_rfl) (by kernel_rfl) (by kernel_rfl)) (by kernel_rfl) (s1 3 [(24, aB (!x2)), (23, aB (!x2)), (22, aB (!x2))] ?_)
   rcases bif_some hm with ⟨h4, hm⟩ | ⟨h4, hm⟩
   ·
    refine known [24, 23, 22] h4 (by kernel_rfl) (f1 6 [(1, .ptr 0 0), (30, aB true)] (cT (by kernel_rfl) (sq (dn [(2, aB false)] (wp_ret ?_)))))
    obtain rfl := Option.some.inj hm
    exact ⟨trivial, by kernel_rfl⟩
   ·
    refine known [24, 23, 22] h4 (by kernel_rfl) (s1 3 [(27, aI a0.fCol), (26, .ptr 0 2), (25, .pv (.fn 249 [] []))] ?_)
    obtain ⟨x5, h6, hm⟩ := bs hm
    refine dv 28 (cpure (by kernel_rfl) (ok_expr_fields_1 h6) (by kernel_rfl) (by kernel_rfl) (by kernel_rfl)) (by kernel_rfl) (f1 2 [(1, .ptr 0 0), (30, aB (!x5))] ?_)
    rcases bif_some hm with ⟨h7, hm⟩ | ⟨h7, hm⟩
    ·
     refine c1 h7 (sq (dn [(2, aB false)] (wp_ret ?_)))
     obtain rfl := Option.some.inj hm
     exact ⟨trivial, by kernel_rfl⟩
    ·
     refine c0 h7 (wp_skip (sq (rg (s1 2 [(32, .agg [aI a0.fConst.fKind, aI a0.fConst.fInt, aF a0.fConst.fFloat, aS a0.fConst.fText]), (31, .ptr 0 3)] ?_))))
     obtain ⟨x8, h9, hm⟩ := bs hm
     refine dv 33 (cpure (by kernel_rfl) (ok_value_Right h9) (by kernel_rfl) (by kernel_rfl) (by kernel_rfl)) (by kernel_rfl) (s1 1 [(34, aB x8)] ?_)
     refine seg x8 [34, 33] (fun b => [(44, aB (b && ((a0.fKind == 2) || (a0.fConst.fKind == 0)))), (43, ifA b (aB ((a0.fKind == 2) || (a0.fConst.fKind == 0))) (.undef)), (42, ifA b (ifA (a0.fKind == 2) (.undef) (aB (a0.fConst.fKind == 0))) (.undef)), (41, ifA b (ifA (a0.fKind == 2) (.undef) (aI a0.fConst.fKind)) (.undef)), (40, ifA b (ifA (a0.fKind == 2) (.undef) (.ptr 0 3)) (.undef)), (39, ifA b (ifA (a0.fKind == 2) (.undef) (.ptr 0 3)) (.undef)), (38, ifA b (aB (a0.fKind == 2)) (.undef)), (37, ifA b (aB (a0.fKind == 2)) (.undef)), (36, ifA b (aI a0.fKind) (.undef)), (35, ifA b (.ptr 0 0) (.undef))]) 14 (by kernel_rfl) ?_ ?_ ?_
     ·
      intro Q h
      refine s1 4 [(38, aB (a0.fKind == 2)), (37, aB (a0.fKind == 2)), (36, aI a0.fKind), (35, .ptr 0 0)] ?_
      refine segP (a0.fKind == 2) [38, 37] (fun b => [(43, aB (b || (a0.fConst.fKind == 0))), (42, ifA b (.undef) (aB (a0.fConst.fKind == 0))), (41, ifA b (.undef) (aI a0.fConst.fKind)), (40, ifA b (.undef) (.ptr 0 3)), (39, ifA b (.undef) (.ptr 0 3))]) 5 (by kernel_rfl) (by kernel_rfl) (by kernel_rfl) (s1 1 [(44, aB ((a0.fKind == 2) || (a0.fConst.fKind == 0)))] ?_)
      exact sameN (by kernel_rfl) (by kernel_rfl) h
     ·
      intro Q h
      refine s1 10 [(44, aB false), (43, .undef), (42, .undef), (41, .undef), (40, .undef), (39, .undef), (38, .undef), (37, .undef), (36, .undef), (35, .undef)] ?_
      exact sameN (by kernel_rfl) (by kernel_rfl) h
     refine f1 1 [(2, aB (x8 && ((a0.fKind == 2) || (a0.fConst.fKind == 0))))] (wp_ret ?_)
     obtain rfl := Option.some.inj hm
     exact ⟨trivial, by kernel_rfl⟩
theorem okf_expr_count {rc_expr_count : (Nat → api_Expr → Int → Int → Option (Int))} (ih_expr_count : ∀ {n : Nat} {a0 : api_Expr} {a1 : Int} {a2 : Int} {r : Int} (hm : rc_expr_count n a0 a1 a2 = some r), call G n 182 [.agg [aI a0.fKind, aI a0.fRel, aI a0.fCol, aI a0.fConst.fKind, aI a0.fConst.fInt, aF a0.fConst.fFloat, aS a0.fConst.fText, .pv (encSl R_E_api_Expr a0.fKids)], aI a1, aI a2] [] = some (.ret (aI r), [])) {n : Nat} {a0 : api_Expr} {a1 : Int} {a2 : Int} {r : Int} (hm : expr_count_f rc_expr_count n a0 a1 a2 = some r) :
    call G n 182 [.agg [aI a0.fKind, aI a0.fRel, aI a0.fCol, aI a0.fConst.fKind, aI a0.fConst.fInt, aF a0.fConst.fFloat, aS a0.fConst.fText, .pv (encSl R_E_api_Expr a0.fKids)], aI a1, aI a2] [] = some (.ret (aI r), []) := by
  unfold expr_count_f at hm
  obtain ⟨n, rfl, h0⟩ := at1_some hm
  replace hm := h0; clear h0
  refine callL 47 [(0, .agg [aI a0.fKind, aI a0.fRel, aI a0.fCol, aI a0.fConst.fKind, aI a0.fConst.fInt, aF a0.fConst.fFloat, aS a0.fConst.fText, .pv (encSl R_E_api_Expr a0.fKids)]), (1, aI a1), (2, aI a2)] func182 rfl (by kernel_rfl) (sq (det [(1, aI a1), (2, aI a2), (3, .ptr 0 0)] [.box [aI a0.fKind, aI a0.fRel, aI a0.fCol, aI a0.fConst.fKind, aI a0.fConst.fInt, aF a0.fConst.fFloat, aS a0.fConst.fText, .pv (encSl R_E_api_Expr a0.fKids)] false] (by kernel_rfl) ?_))
  refine sq (sq (rgd (shd 3 [(11, aB (decide (a1 > 24))), (10, aB (decide (a1 > 24))), (9, aI a1)] (by kernel_rfl) ?_)))
  rcases bif_some hm with ⟨h1, hm⟩ | ⟨h1, hm⟩
  ·
   refine knownd [11, 10] h1 (by kernel_rfl) (shd 17 [(28, aB true), (27, .undef), (26, .undef), (25, .undef), (24, aB true), (23, aB true), (22, .undef), (21, .undef), (20, .undef), (19, .undef), (18, .undef), (17, .undef), (16, .undef), (15, aB true), (14, aB true), (13, .undef), (12, .undef)] (by kernel_rfl) (find [(1, aI a1), (2, aI a2), (3, .ptr 0 0), (28, aB true)] rfl (by kernel_rfl) (by kernel_rfl) (cT (by kernel_rfl) (sq (dn [(6, aI (-1))] (wp_ret ?_))))))
   obtain rfl := Option.some.inj hm
   exact ⟨trivial, by kernel_rfl⟩
  ·
   refine knownd [11, 10] h1 (by kernel_rfl) (shd 4 [(15, aB (decide (a2 < 1))), (14, aB (decide (a2 < 1))), (13, aB (decide (a2 < 1))), (12, aI a2)] (by kernel_rfl) ?_)
   rcases bif_some hm with ⟨h2, hm⟩ | ⟨h2, hm⟩
   ·
    refine knownd [15, 14, 13] h2 (by kernel_rfl) (shd 13 [(28, aB true), (27, .undef), (26, .undef), (25, .undef), (24, aB true), (23, aB true), (22, .undef), (21, .undef), (20, .undef), (19, .undef), (18, .undef), (17, .undef), (16, .undef)] (by kernel_rfl) (find [(1, aI a1), (2, aI a2), (3, .ptr 0 0), (28, aB true)] rfl (by kernel_rfl) (by kernel_rfl) (cT (by kernel_rfl) (sq (dn [(6, aI (-1))] (wp_ret ?_))))))
    obtain rfl := Option.some.inj hm
    exact ⟨trivial, by kernel_rfl⟩
   ·
    refine knownd [15, 14, 13] h2 (by kernel_rfl) (shd 2 [(17, aI a0.fKind), (16, .ptr 0 0)] (by kernel_rfl) ?_)
    obtain ⟨x3, h4, hm⟩ := bs hm
    refine dvd 18 (cpure (by kernel_rfl) (ok_expr_kids h4) (by kernel_rfl) (by kernel_rfl) (by kernel_rfl)) (by kernel_rfl) (shd 2 [(20, .pv (encSl R_E_api_Expr a0.fKids)), (19, .ptr 0 7)] (by kernel_rfl) (dvd 21 (v := aI ((sll a0.fKids).length : Int)) (len_slO R_E_api_Expr a0.fKids t23 (by kernel_rfl)) (by kernel_rfl) (shd 3 [(24, aB (x3 != ((sll a0.fKids).length : Int))), (23, aB (x3 != ((sll a0.fKids).length : Int))), (22, aB (x3 != ((sll a0.fKids).length : Int)))] (by kernel_rfl) ?_)))
    rcases bif_some hm with ⟨h5, hm⟩ | ⟨h5, hm⟩
    ·
     refine knownd [24, 23, 22] h5 (by kernel_rfl) (shd 4 [(28, aB true), (27, .undef), (26, .undef), (25, .undef)] (by kernel_rfl) (find [(1, aI a1), (2, aI a2), (3, .ptr 0 0), (28, aB true)] rfl (by kernel_rfl) (by kernel_rfl) (cT (by kernel_rfl) (sq (dn [(6, aI (-1))] (wp_ret ?_))))))
     obtain rfl := Option.some.inj hm
     exact ⟨trivial, by kernel_rfl⟩
    ·
     refine knownd [24, 23, 22] h5 (by kernel_rfl) (shd 1 [(25, .agg [aI a0.fKind, aI a0.fRel, aI a0.fCol, aI a0.fConst.fKind, aI a0.fConst.fInt, aF a0.fConst.fFloat, aS a0.fConst.fText, .pv (encSl R_E_api_Expr a0.fKids)])] (by kernel_rfl) ?_)
     obtain ⟨x6, h7, hm⟩ := bs hm
     refine dvd 26 (cpure (by kernel_rfl) (ok_expr_fields h7) (by kernel_rfl) (by kernel_rfl) (by kernel_rfl)) (by kernel_rfl) (shd 2 [(28, aB (!x6)), (27, aB (!x6))] (by kernel_rfl) (find [(1, aI a1), (2, aI a2), (3, .ptr 0 0), (28, aB (!x6))] rfl (by kernel_rfl) (by kernel_rfl) ?_))
     rcases bif_some hm with ⟨h8, hm⟩ | ⟨h8, hm⟩
     ·
      refine c1 h8 (sq (dn [(6, aI (-1))] (wp_ret ?_)))
      obtain rfl := Option.some.inj hm
      exact ⟨trivial, by kernel_rfl⟩
     ·
      refine c0 h8 (wp_skip (sq (dn [(1, aI a1), (2, aI (IntKind.wrap .i64 (a2 - 1))), (3, .ptr 0 0)] ?_)))
      obtain ⟨k12, hk12, hm⟩ := withK_some hm
      refine mid (fun t H => (∃ (y9 : Int) (y10 : Int) (y11 : Bool), k12 y9 = some r ∧ t = mk 47 [(1, aI a1), (2, aI y9), (32, .pv (encSl R_E_api_Expr a0.fKids)), (33, aI ((sll a0.fKids).length : Int)), (34, aI y10), (35, aB y11)] ∧ H = [.box [aI a0.fKind, aI a0.fRel, aI a0.fCol, aI a0.fConst.fKind, aI a0.fConst.fInt, aF a0.fConst.fFloat, aS a0.fConst.fText, .pv (encSl R_E_api_Expr a0.fKids)] false])) ?_ ?_
      ·
       rintro _ _ ⟨y9, y10, y11, hm, rfl, rfl⟩
       subst hk12
       refine sq (dn [(6, aI y9)] (wp_ret ?_))
       obtain rfl := Option.some.inj hm
       exact ⟨trivial, by kernel_rfl⟩
      refine sq (rg (s1 2 [(32, .pv (encSl R_E_api_Expr a0.fKids)), (31, .ptr 0 7)] (dv 33 (v := aI ((sll a0.fKids).length : Int)) (len_slO R_E_api_Expr a0.fKids t23 (by kernel_rfl)) (by kernel_rfl) (f1 1 [(1, aI a1), (2, aI (IntKind.wrap .i64 (a2 - 1))), (32, .pv (encSl R_E_api_Expr a0.fKids)), (33, aI ((sll a0.fKids).length : Int)), (34, aI 0)] (bq ?_)))))
      refine loopF (fun mm t H => (∃ (y15 : Int) (y16 : Int), expr_count_l5 n rc_expr_count a0 a1 k12 mm y15 y16 = some r ∧ t = mk 47 [(1, aI a1), (2, aI y15), (32, .pv (encSl R_E_api_Expr a0.fKids)), (33, aI ((sll a0.fKids).length : Int)), (34, aI y16)] ∧ H = [.box [aI a0.fKind, aI a0.fRel, aI a0.fCol, aI a0.fConst.fKind, aI a0.fConst.fInt, aF a0.fConst.fFloat, aS a0.fConst.fText, .pv (encSl R_E_api_Expr a0.fKids)] false])) (⟨(IntKind.wrap .i64 (a2 - 1)), 0, hm, rfl, rfl⟩) ?_ ?_
      · rintro _ _ ⟨y15, y16, hm, _⟩; exact nomatch hm
      rintro m17 _ _ ⟨y15, y16, hm, rfl, rfl⟩
      simp only [expr_count_l5] at hm
      refine sq (dn [(1, aI a1), (2, aI y15), (32, .pv (encSl R_E_api_Expr a0.fKids)), (33, aI ((sll a0.fKids).length : Int)), (34, aI y16), (35, aB (decide (y16 < ((sll a0.fKids).length : Int))))] ?_)
      refine sq ?_
      rcases bif_some hm with ⟨h18, hm⟩ | ⟨h18, hm⟩
      ·
       refine c1 h18 (wp_skip (sq (bq (sq (rg ?_)))))
       obtain ⟨x19, h20, hm⟩ := bs hm
       refine dv 36 (v := .pv (.ptr (R_api_Expr (un_api_Expr x19)) 0)) (ia_slE R_E_api_Expr a0.fKids .i64 t23 t49 h20 (R_un_api_Expr x19) rfl (by kernel_rfl)) (by kernel_rfl) (stf 3 [(1, aI a1), (2, aI y15), (8, .ptr 1 0), (32, .pv (encSl R_E_api_Expr a0.fKids)), (33, aI ((sll a0.fKids).length : Int)), (34, aI y16)] [.box [aI a0.fKind, aI a0.fRel, aI a0.fCol, aI a0.fConst.fKind, aI a0.fConst.fInt, aF a0.fConst.fFloat, aS a0.fConst.fText, .pv (encSl R_E_api_Expr a0.fKids)] false, .box [aI ((un_api_Expr x19).fKind), aI ((un_api_Expr x19).fRel), aI ((un_api_Expr x19).fCol), aI (((un_api_Expr x19).fConst).fKind), aI (((un_api_Expr x19).fConst).fInt), aF (((un_api_Expr x19).fConst).fFloat), aS (((un_api_Expr x19).fConst).fText), .pv (encSl R_E_api_Expr ((un_api_Expr x19).fKids))] false] (by kernel_rfl) (sq (rg (s1 4 [(41, aI y15), (40, aI (IntKind.wrap .i64 (a1 + 1))), (39, aI a1), (38, .agg [aI ((un_api_Expr x19).fKind), aI ((un_api_Expr x19).fRel), aI ((un_api_Expr x19).fCol), aI (((un_api_Expr x19).fConst).fKind), aI (((un_api_Expr x19).fConst).fInt), aF (((un_api_Expr x19).fConst).fFloat), aS (((un_api_Expr x19).fConst).fText), .pv (encSl R_E_api_Expr ((un_api_Expr x19).fKids))])] ?_))))
       obtain ⟨x21, h22, hm⟩ := bs hm
       refine dv 42 (cpure (by kernel_rfl) (ih_expr_count h22) (by kernel_rfl) (by kernel_rfl) (by kernel_rfl)) (by kernel_rfl) (f1 1 [(1, aI a1), (2, aI x21), (32, .pv (encSl R_E_api_Expr a0.fKids)), (33, aI ((sll a0.fKids).length : Int)), (34, aI y16)] (sq (dn [(1, aI a1), (2, aI x21), (32, .pv (encSl R_E_api_Expr a0.fKids)), (33, aI ((sll a0.fKids).length : Int)), (34, aI y16), (44, aB (decide (x21 < 0)))] ?_)))
       rcases bif_some hm with ⟨h23, hm⟩ | ⟨h23, hm⟩
       ·
        refine c1 h23 (sq (dn [(6, aI (-1))] (wp_ret ?_)))
        obtain rfl := Option.some.inj hm
        exact ⟨trivial, by kernel_rfl⟩
       ·
        refine c0 h23 (wp_skip (dn [(1, aI a1), (2, aI x21), (32, .pv (encSl R_E_api_Expr a0.fKids)), (33, aI ((sll a0.fKids).length : Int)), (34, aI (IntKind.wrap .i64 (y16 + 1)))] ?_))
        exact ⟨_, _, tidyL [(1, aI a1), (2, aI x21), (32, .pv (encSl R_E_api_Expr a0.fKids)), (33, aI ((sll a0.fKids).length : Int)), (34, aI (IntKind.wrap .i64 (y16 + 1)))] [.box [aI a0.fKind, aI a0.fRel, aI a0.fCol, aI a0.fConst.fKind, aI a0.fConst.fInt, aF a0.fConst.fFloat, aS a0.fConst.fText, .pv (encSl R_E_api_Expr a0.fKids)] false] (by kernel_rfl), ⟨x21, (IntKind.wrap .i64 (y16 + 1)), hm, rfl, rfl⟩⟩
      ·
       refine c0 h18 (wp_exit ?_)
       exact ⟨y15, y16, (decide (y16 < ((sll a0.fKids).length : Int))), hm, rfl, rfl⟩
theorem okt_expr_count : ∀ (m : Nat), ∀ {n : Nat} {a0 : api_Expr} {a1 : Int} {a2 : Int} {r : Int} (hm : expr_count_t m n a0 a1 a2 = some r), call G n 182 [.agg [aI a0.fKind, aI a0.fRel, aI a0.fCol, aI a0.fConst.fKind, aI a0.fConst.fInt, aF a0.fConst.fFloat, aS a0.fConst.fText, .pv (encSl R_E_api_Expr a0.fKids)], aI a1, aI a2] [] = some (.ret (aI r), [])
  | 0 => by intros; rename_i hm; exact nomatch hm
  | m + 1 => fun hm =>
    okf_expr_count (okt_expr_count m) hm
theorem ok_expr_count {n : Nat} {a0 : api_Expr} {a1 : Int} {a2 : Int} {r : Int} (hm : expr_count n a0 a1 a2 = some r) :
    call G n 182 [.agg [aI a0.fKind, aI a0.fRel, aI a0.fCol, aI a0.fConst.fKind, aI a0.fConst.fInt, aF a0.fConst.fFloat, aS a0.fConst.fText, .pv (encSl R_E_api_Expr a0.fKids)], aI a1, aI a2] [] = some (.ret (aI r), []) := okt_expr_count n hm
theorem ok_expr_Formed {n : Nat} {a0 : api_Expr} {r : Bool} (hm : expr_Formed n a0 = some r) :
    call G n 143 [.agg [aI a0.fKind, aI a0.fRel, aI a0.fCol, aI a0.fConst.fKind, aI a0.fConst.fInt, aF a0.fConst.fFloat, aS a0.fConst.fText, .pv (encSl R_E_api_Expr a0.fKids)]] [] = some (.ret (aB r), []) := by
  unfold expr_Formed at hm
  obtain ⟨n, rfl, h0⟩ := at1_some hm
  replace hm := h0; clear h0
  refine callL 6 [(0, .agg [aI a0.fKind, aI a0.fRel, aI a0.fCol, aI a0.fConst.fKind, aI a0.fConst.fInt, aF a0.fConst.fFloat, aS a0.fConst.fText, .pv (encSl R_E_api_Expr a0.fKids)])] func143 rfl (by kernel_rfl) (sq (det [(1, .ptr 0 0)] [.box [aI a0.fKind, aI a0.fRel, aI a0.fCol, aI a0.fConst.fKind, aI a0.fConst.fInt, aF a0.fConst.fFloat, aS a0.fConst.fText, .pv (encSl R_E_api_Expr a0.fKids)] false] (by kernel_rfl) (sq (rg (s1 1 [(3, .agg [aI a0.fKind, aI a0.fRel, aI a0.fCol, aI a0.fConst.fKind, aI a0.fConst.fInt, aF a0.fConst.fFloat, aS a0.fConst.fText, .pv (encSl R_E_api_Expr a0.fKids)])] ?_)))))
  obtain ⟨x1, h2, hm⟩ := bs hm
  refine dv 4 (cpure (by kernel_rfl) (ok_expr_count h2) (by kernel_rfl) (by kernel_rfl) (by kernel_rfl)) (by kernel_rfl) (f1 2 [(2, aB (decide (x1 ≥ 0)))] (wp_ret ?_))
  obtain rfl := Option.some.inj hm
  exact ⟨trivial, by kernel_rfl⟩
theorem ok_fixed_capped_bool {n : Nat} {a0 : Int} {a1 : Bool} {r : Int} (hm : fixed_capped_bool n a0 a1 = some r) :
    call G n 202 [aU a0, aB a1] [] = some (.ret (aU r), []) := by
  unfold fixed_capped_bool at hm
  obtain ⟨n, rfl, h0⟩ := at1_some hm
  replace hm := h0; clear h0
  refine callL 10 [(0, aU a0), (1, aB a1)] func202 rfl (by kernel_rfl) (sq (dn [(0, aU a0), (1, aB a1)] (sq (dn [(0, aU a0), (1, aB a1), (5, aB false)] (sq (sq (dn [(0, aU a0), (8, aB (!(a1 == false)))] ?_)))))))
  rcases bif_some hm with ⟨h1, hm⟩ | ⟨h1, hm⟩
  ·
   refine c1 h1 (sq (dn [(4, aU 18446744073709551615)] (wp_ret ?_)))
   obtain rfl := Option.some.inj hm
   exact ⟨trivial, by kernel_rfl⟩
  ·
   refine c0 h1 (wp_skip (sq (dn [(4, aU a0)] (wp_ret ?_))))
   obtain rfl := Option.some.inj hm
   exact ⟨trivial, by kernel_rfl⟩
theorem ok_math_bits_Len64 {n : Nat} {a0 : Int} {r : Int} (hm : math_bits_Len64 n a0 = some r) :
    call G n 259 [aU a0] [] = some (.ret (aI r), []) := by
  unfold math_bits_Len64 at hm
  obtain ⟨n, rfl, h0⟩ := at1_some hm
  replace hm := h0; clear h0
  refine callL 25 [(0, aU a0)] func259 rfl (by kernel_rfl) (sq (dn [(0, aU a0), (2, aI 0)] ?_))
  obtain ⟨k4, hk4, hm⟩ := withK_some hm
  refine mid (fun t H => (∃ (y2 : Int) (y3 : Int) (w1 : AV), k4 y2 y3 = some r ∧ t = mk 25 [(0, aU y2), (2, aI y3), (4, w1)] ∧ H = [])) ?_ ?_
  ·
   rintro _ _ ⟨y2, y3, w1, hm, rfl, rfl⟩
   subst hk4
   obtain ⟨k8, hk8, hm⟩ := withK_some hm
   refine mid (fun t H => (∃ (y6 : Int) (y7 : Int) (w5 : AV), k8 y6 y7 = some r ∧ t = mk 25 [(0, aU y6), (2, aI y7), (8, w5)] ∧ H = [])) ?_ ?_
   ·
    rintro _ _ ⟨y6, y7, w5, hm, rfl, rfl⟩
    subst hk8
    obtain ⟨k12, hk12, hm⟩ := withK_some hm
    refine mid (fun t H => (∃ (y10 : Int) (y11 : Int) (w9 : AV), k12 y10 y11 = some r ∧ t = mk 25 [(0, aU y10), (2, aI y11), (14, w9)] ∧ H = [])) ?_ ?_
    ·
     rintro _ _ ⟨y10, y11, w9, hm, rfl, rfl⟩
     subst hk12
     refine sq (rg (s1 3 [(21, aY (IntKind.wrap .u8 y10)), (20, aU y10), (19, aI y11)] ?_))
     obtain ⟨x13, h14, hm⟩ := bs hm
     refine dv 22 (v := aY x13) (ix_strO .u8 h14 (by kernel_rfl)) (by kernel_rfl) (f1 3 [(2, aI (IntKind.wrap .i64 (y11 + (IntKind.wrap .i64 x13))))] (wp_ret ?_))
     obtain rfl := Option.some.inj hm
     exact ⟨trivial, by kernel_rfl⟩
    refine sq (dn [(0, aU y6), (2, aI y7), (14, aB (decide (y6 ≥ 256)))] ?_)
    rcases bif_some hm with ⟨h15, hm⟩ | ⟨h15, hm⟩
    ·
     refine c1 h15 (sq (dn [(0, aU (iShr .u64 y6 8)), (2, aI y7)] (dn [(0, aU (iShr .u64 y6 8)), (2, aI (IntKind.wrap .i64 (y7 + 8)))] ?_)))
     exact ⟨(iShr .u64 y6 8), (IntKind.wrap .i64 (y7 + 8)), .any, hm, (mk_same (by kernel_rfl)), rfl⟩
    ·
     refine c0 h15 (wp_skip ?_)
     exact ⟨y6, y7, aB (decide (y6 ≥ 256)), hm, (mk_same (by kernel_rfl)), rfl⟩
   refine sq (dn [(0, aU y2), (2, aI y3), (8, aB (decide (y2 ≥ 65536)))] ?_)
   rcases bif_some hm with ⟨h16, hm⟩ | ⟨h16, hm⟩
   ·
    refine c1 h16 (sq (dn [(0, aU (iShr .u64 y2 16)), (2, aI y3)] (dn [(0, aU (iShr .u64 y2 16)), (2, aI (IntKind.wrap .i64 (y3 + 16)))] ?_)))
    exact ⟨(iShr .u64 y2 16), (IntKind.wrap .i64 (y3 + 16)), .any, hm, (mk_same (by kernel_rfl)), rfl⟩
   ·
    refine c0 h16 (wp_skip ?_)
    exact ⟨y2, y3, aB (decide (y2 ≥ 65536)), hm, (mk_same (by kernel_rfl)), rfl⟩
  refine sq (dn [(0, aU a0), (2, aI 0), (4, aB (decide (a0 ≥ 4294967296)))] ?_)
  rcases bif_some hm with ⟨h17, hm⟩ | ⟨h17, hm⟩
  ·
   refine c1 h17 (sq (dn [(0, aU (iShr .u64 a0 32))] (dn [(0, aU (iShr .u64 a0 32)), (2, aI 32)] ?_)))
   exact ⟨(iShr .u64 a0 32), 32, .any, hm, (mk_same (by kernel_rfl)), rfl⟩
  ·
   refine c0 h17 (wp_skip ?_)
   exact ⟨a0, 0, aB (decide (a0 ≥ 4294967296)), hm, (mk_same (by kernel_rfl)), rfl⟩
theorem ok_math_bits_LeadingZeros64 {n : Nat} {a0 : Int} {r : Int} (hm : math_bits_LeadingZeros64 n a0 = some r) :
    call G n 242 [aU a0] [] = some (.ret (aI r), []) := by
  unfold math_bits_LeadingZeros64 at hm
  obtain ⟨n, rfl, h0⟩ := at1_some hm
  replace hm := h0; clear h0
  refine callL 6 [(0, aU a0)] func242 rfl (by kernel_rfl) (sq (dn [(0, aU a0)] (sq (rg (s1 1 [(3, aU a0)] ?_)))))
  obtain ⟨x1, h2, hm⟩ := bs hm
  refine dv 4 (cpure (by kernel_rfl) (ok_math_bits_Len64 h2) (by kernel_rfl) (by kernel_rfl) (by kernel_rfl)) (by kernel_rfl) (f1 2 [(2, aI (IntKind.wrap .i64 (64 - x1)))] (wp_ret ?_))
  obtain rfl := Option.some.inj hm
  exact ⟨trivial, by kernel_rfl⟩
theorem ok_math_bits_Div64 {n : Nat} {a0 : Int} {a1 : Int} {a2 : Int} {r : Int × Int} (hm : math_bits_Div64 n a0 a1 a2 = some r) :
    call G n 203 [aU a0, aU a1, aU a2] [] = some (.ret (.tup [aU r.1, aU r.2]), []) := by
  unfold math_bits_Div64 at hm
  obtain ⟨n, rfl, h0⟩ := at1_some hm
  replace hm := h0; clear h0
  refine callL 135 [(0, aU a0), (1, aU a1), (2, aU a2)] func203 rfl (by kernel_rfl) (sq (dn [(0, aU a0), (1, aU a1), (2, aU a2)] ?_))
  refine sq (sq (dn [(0, aU a0), (1, aU a1), (2, aU a2), (20, aB (a2 == 0))] ?_))
  rcases bif_some hm with ⟨h1, hm⟩ | ⟨h1, hm⟩
  ·
   refine c1 h1 (rg ?_)
   cases hm
  ·
   refine c0 h1 (wp_skip ?_)
   refine sq (sq (dn [(0, aU a0), (1, aU a1), (2, aU a2), (24, aB (decide (a2 ≤ a0)))] ?_))
   rcases bif_some hm with ⟨h2, hm⟩ | ⟨h2, hm⟩
   ·
    refine c1 h2 (rg ?_)
    cases hm
   ·
    refine c0 h2 (wp_skip ?_)
    refine sq (sq (dn [(0, aU a0), (1, aU a1), (2, aU a2), (27, aB (a0 == 0))] ?_))
    rcases bif_some hm with ⟨h3, hm⟩ | ⟨h3, hm⟩
    ·
     refine c1 h3 (sq (rgd (shd 2 [(29, aU a2), (28, aU a1)] (by kernel_rfl) ?_)))
     obtain ⟨_, h4, hm⟩ := bs hm
     refine dvd 30 (v := aU (IntKind.wrap .u64 (Int.tdiv a1 a2))) (quoO h4 (by kernel_rfl)) (by kernel_rfl) (shd 2 [(32, aU a2), (31, aU a1)] (by kernel_rfl) ?_)
     obtain ⟨_, h5, hm⟩ := bs hm
     refine dvd 33 (v := aU (Int.tmod a1 a2)) (remO h5 (by kernel_rfl)) (by kernel_rfl) (shd 2 [(7, aU (Int.tmod a1 a2)), (6, aU (IntKind.wrap .u64 (Int.tdiv a1 a2)))] (by kernel_rfl) (find [(6, aU (IntKind.wrap .u64 (Int.tdiv a1 a2))), (7, aU (Int.tmod a1 a2))] rfl (by kernel_rfl) (by kernel_rfl) (wp_ret ?_)))
     obtain rfl := Option.some.inj hm
     exact ⟨trivial, by kernel_rfl⟩
    ·
     refine c0 h3 (wp_skip (sq (rg (s1 1 [(34, aU a2)] ?_))))
     obtain ⟨x6, h7, hm⟩ := bs hm
     refine dv 35 (cpure (by kernel_rfl) (ok_math_bits_LeadingZeros64 h7) (by kernel_rfl) (by kernel_rfl) (by kernel_rfl)) (by kernel_rfl) (f1 2 [(0, aU a0), (1, aU a1), (2, aU a2), (8, aU (IntKind.wrap .u64 x6))] (sq (rg (s1 2 [(38, aU (IntKind.wrap .u64 x6)), (37, aU a2)] ?_))))
     obtain ⟨_, h8, hm⟩ := bs hm
     refine dv 39 (v := aU (iShl .u64 a2 (IntKind.wrap .u64 x6))) (shlO h8 (by kernel_rfl)) (by kernel_rfl) (f1 1 [(0, aU a0), (1, aU a1), (2, aU (iShl .u64 a2 (IntKind.wrap .u64 x6))), (8, aU (IntKind.wrap .u64 x6))] (sq (dn [(0, aU a0), (1, aU a1), (2, aU (iShl .u64 a2 (IntKind.wrap .u64 x6))), (8, aU (IntKind.wrap .u64 x6)), (9, aU (iShr .u64 (iShl .u64 a2 (IntKind.wrap .u64 x6)) 32))] (sq (dn [(0, aU a0), (1, aU a1), (2, aU (iShl .u64 a2 (IntKind.wrap .u64 x6))), (8, aU (IntKind.wrap .u64 x6)), (9, aU (iShr .u64 (iShl .u64 a2 (IntKind.wrap .u64 x6)) 32)), (10, aU (iAnd .u64 (iShl .u64 a2 (IntKind.wrap .u64 x6)) 4294967295))] (sq (rg (s1 2 [(45, aU (IntKind.wrap .u64 x6)), (44, aU a0)] ?_))))))))
     obtain ⟨_, h9, hm⟩ := bs hm
     refine dv 46 (v := aU (iShl .u64 a0 (IntKind.wrap .u64 x6))) (shlO h9 (by kernel_rfl)) (by kernel_rfl) (s1 3 [(49, aU (IntKind.wrap .u64 (64 - (IntKind.wrap .u64 x6)))), (48, aU (IntKind.wrap .u64 x6)), (47, aU a1)] ?_)
     obtain ⟨_, h10, hm⟩ := bs hm
     refine dv 50 (v := aU (iShr .u64 a1 (IntKind.wrap .u64 (64 - (IntKind.wrap .u64 x6))))) (shrO h10 (by kernel_rfl)) (by kernel_rfl) (f1 2 [(1, aU a1), (2, aU (iShl .u64 a2 (IntKind.wrap .u64 x6))), (8, aU (IntKind.wrap .u64 x6)), (9, aU (iShr .u64 (iShl .u64 a2 (IntKind.wrap .u64 x6)) 32)), (10, aU (iAnd .u64 (iShl .u64 a2 (IntKind.wrap .u64 x6)) 4294967295)), (11, aU (iOr .u64 (iShl .u64 a0 (IntKind.wrap .u64 x6)) (iShr .u64 a1 (IntKind.wrap .u64 (64 - (IntKind.wrap .u64 x6))))))] (sq (rg (s1 2 [(53, aU (IntKind.wrap .u64 x6)), (52, aU a1)] ?_))))
     obtain ⟨_, h11, hm⟩ := bs hm
     refine dv 54 (v := aU (iShl .u64 a1 (IntKind.wrap .u64 x6))) (shlO h11 (by kernel_rfl)) (by kernel_rfl) (f1 1 [(2, aU (iShl .u64 a2 (IntKind.wrap .u64 x6))), (8, aU (IntKind.wrap .u64 x6)), (9, aU (iShr .u64 (iShl .u64 a2 (IntKind.wrap .u64 x6)) 32)), (10, aU (iAnd .u64 (iShl .u64 a2 (IntKind.wrap .u64 x6)) 4294967295)), (11, aU (iOr .u64 (iShl .u64 a0 (IntKind.wrap .u64 x6)) (iShr .u64 a1 (IntKind.wrap .u64 (64 - (IntKind.wrap .u64 x6)))))), (12, aU (iShl .u64 a1 (IntKind.wrap .u64 x6)))] (sq (dn [(2, aU (iShl .u64 a2 (IntKind.wrap .u64 x6))), (8, aU (IntKind.wrap .u64 x6)), (9, aU (iShr .u64 (iShl .u64 a2 (IntKind.wrap .u64 x6)) 32)), (10, aU (iAnd .u64 (iShl .u64 a2 (IntKind.wrap .u64 x6)) 4294967295)), (11, aU (iOr .u64 (iShl .u64 a0 (IntKind.wrap .u64 x6)) (iShr .u64 a1 (IntKind.wrap .u64 (64 - (IntKind.wrap .u64 x6)))))), (12, aU (iShl .u64 a1 (IntKind.wrap .u64 x6))), (13, aU (iShr .u64 (iShl .u64 a1 (IntKind.wrap .u64 x6)) 32))] (sq (dn [(2, aU (iShl .u64 a2 (IntKind.wrap .u64 x6))), (8, aU (IntKind.wrap .u64 x6)), (9, aU (iShr .u64 (iShl .u64 a2 (IntKind.wrap .u64 x6)) 32)), (10, aU (iAnd .u64 (iShl .u64 a2 (IntKind.wrap .u64 x6)) 4294967295)), (11, aU (iOr .u64 (iShl .u64 a0 (IntKind.wrap .u64 x6)) (iShr .u64 a1 (IntKind.wrap .u64 (64 - (IntKind.wrap .u64 x6)))))), (13, aU (iShr .u64 (iShl .u64 a1 (IntKind.wrap .u64 x6)) 32)), (14, aU (iAnd .u64 (iShl .u64 a1 (IntKind.wrap .u64 x6)) 4294967295))] (sq (rg (s1 2 [(60, aU (iShr .u64 (iShl .u64 a2 (IntKind.wrap .u64 x6)) 32)), (59, aU (iOr .u64 (iShl .u64 a0 (IntKind.wrap .u64 x6)) (iShr .u64 a1 (IntKind.wrap .u64 (64 - (IntKind.wrap .u64 x6))))))] ?_))))))))
     obtain ⟨_, h12, hm⟩ := bs hm
     refine dv 61 (v := aU (IntKind.wrap .u64 (Int.tdiv (iOr .u64 (iShl .u64 a0 (IntKind.wrap .u64 x6)) (iShr .u64 a1 (IntKind.wrap .u64 (64 - (IntKind.wrap .u64 x6))))) (iShr .u64 (iShl .u64 a2 (IntKind.wrap .u64 x6)) 32)))) (quoO h12 (by kernel_rfl)) (by kernel_rfl) (f1 1 [(2, aU (iShl .u64 a2 (IntKind.wrap .u64 x6))), (8, aU (IntKind.wrap .u64 x6)), (9, aU (iShr .u64 (iShl .u64 a2 (IntKind.wrap .u64 x6)) 32)), (10, aU (iAnd .u64 (iShl .u64 a2 (IntKind.wrap .u64 x6)) 4294967295)), (11, aU (iOr .u64 (iShl .u64 a0 (IntKind.wrap .u64 x6)) (iShr .u64 a1 (IntKind.wrap .u64 (64 - (IntKind.wrap .u64 x6)))))), (13, aU (iShr .u64 (iShl .u64 a1 (IntKind.wrap .u64 x6)) 32)), (14, aU (iAnd .u64 (iShl .u64 a1 (IntKind.wrap .u64 x6)) 4294967295)), (15, aU (IntKind.wrap .u64 (Int.tdiv (iOr .u64 (iShl .u64 a0 (IntKind.wrap .u64 x6)) (iShr .u64 a1 (IntKind.wrap .u64 (64 - (IntKind.wrap .u64 x6))))) (iShr .u64 (iShl .u64 a2 (IntKind.wrap .u64 x6)) 32))))] (sq (dn [(2, aU (iShl .u64 a2 (IntKind.wrap .u64 x6))), (8, aU (IntKind.wrap .u64 x6)), (9, aU (iShr .u64 (iShl .u64 a2 (IntKind.wrap .u64 x6)) 32)), (10, aU (iAnd .u64 (iShl .u64 a2 (IntKind.wrap .u64 x6)) 4294967295)), (11, aU (iOr .u64 (iShl .u64 a0 (IntKind.wrap .u64 x6)) (iShr .u64 a1 (IntKind.wrap .u64 (64 - (IntKind.wrap .u64 x6)))))), (13, aU (iShr .u64 (iShl .u64 a1 (IntKind.wrap .u64 x6)) 32)), (14, aU (iAnd .u64 (iShl .u64 a1 (IntKind.wrap .u64 x6)) 4294967295)), (15, aU (IntKind.wrap .u64 (Int.tdiv (iOr .u64 (iShl .u64 a0 (IntKind.wrap .u64 x6)) (iShr .u64 a1 (IntKind.wrap .u64 (64 - (IntKind.wrap .u64 x6))))) (iShr .u64 (iShl .u64 a2 (IntKind.wrap .u64 x6)) 32)))), (16, aU (IntKind.wrap .u64 ((iOr .u64 (iShl .u64 a0 (IntKind.wrap .u64 x6)) (iShr .u64 a1 (IntKind.wrap .u64 (64 - (IntKind.wrap .u64 x6))))) - (IntKind.wrap .u64 ((IntKind.wrap .u64 (Int.tdiv (iOr .u64 (iShl .u64 a0 (IntKind.wrap .u64 x6)) (iShr .u64 a1 (IntKind.wrap .u64 (64 - (IntKind.wrap .u64 x6))))) (iShr .u64 (iShl .u64 a2 (IntKind.wrap .u64 x6)) 32))) * (iShr .u64 (iShl .u64 a2 (IntKind.wrap .u64 x6)) 32))))))] ?_)))
     obtain ⟨k17, hk17, hm⟩ := withK_some hm
     refine mid (fun t H => (∃ (y16 : Int) (w13 : AV) (w14 : AV) (w15 : AV), k17 y16 = some r ∧ t = mk 135 [(2, aU (iShl .u64 a2 (IntKind.wrap .u64 x6))), (8, aU (IntKind.wrap .u64 x6)), (9, aU (iShr .u64 (iShl .u64 a2 (IntKind.wrap .u64 x6)) 32)), (10, aU (iAnd .u64 (iShl .u64 a2 (IntKind.wrap .u64 x6)) 4294967295)), (11, aU (iOr .u64 (iShl .u64 a0 (IntKind.wrap .u64 x6)) (iShr .u64 a1 (IntKind.wrap .u64 (64 - (IntKind.wrap .u64 x6)))))), (13, aU (iShr .u64 (iShl .u64 a1 (IntKind.wrap .u64 x6)) 32)), (14, aU (iAnd .u64 (iShl .u64 a1 (IntKind.wrap .u64 x6)) 4294967295)), (15, aU y16), (16, w13), (78, w14), (85, w15)] ∧ H = [])) ?_ ?_
     ·
      rintro _ _ ⟨y16, w13, w14, w15, hm, rfl, rfl⟩
      subst hk17
      refine sq (dn [(2, aU (iShl .u64 a2 (IntKind.wrap .u64 x6))), (8, aU (IntKind.wrap .u64 x6)), (9, aU (iShr .u64 (iShl .u64 a2 (IntKind.wrap .u64 x6)) 32)), (10, aU (iAnd .u64 (iShl .u64 a2 (IntKind.wrap .u64 x6)) 4294967295)), (14, aU (iAnd .u64 (iShl .u64 a1 (IntKind.wrap .u64 x6)) 4294967295)), (15, aU y16), (17, aU (IntKind.wrap .u64 ((IntKind.wrap .u64 ((IntKind.wrap .u64 ((iOr .u64 (iShl .u64 a0 (IntKind.wrap .u64 x6)) (iShr .u64 a1 (IntKind.wrap .u64 (64 - (IntKind.wrap .u64 x6))))) * 4294967296)) + (iShr .u64 (iShl .u64 a1 (IntKind.wrap .u64 x6)) 32))) - (IntKind.wrap .u64 (y16 * (iShl .u64 a2 (IntKind.wrap .u64 x6)))))))] (sq (rg (s1 2 [(95, aU (iShr .u64 (iShl .u64 a2 (IntKind.wrap .u64 x6)) 32)), (94, aU (IntKind.wrap .u64 ((IntKind.wrap .u64 ((IntKind.wrap .u64 ((iOr .u64 (iShl .u64 a0 (IntKind.wrap .u64 x6)) (iShr .u64 a1 (IntKind.wrap .u64 (64 - (IntKind.wrap .u64 x6))))) * 4294967296)) + (iShr .u64 (iShl .u64 a1 (IntKind.wrap .u64 x6)) 32))) - (IntKind.wrap .u64 (y16 * (iShl .u64 a2 (IntKind.wrap .u64 x6)))))))] ?_))))
      obtain ⟨_, h18, hm⟩ := bs hm
      refine dv 96 (v := aU (IntKind.wrap .u64 (Int.tdiv (IntKind.wrap .u64 ((IntKind.wrap .u64 ((IntKind.wrap .u64 ((iOr .u64 (iShl .u64 a0 (IntKind.wrap .u64 x6)) (iShr .u64 a1 (IntKind.wrap .u64 (64 - (IntKind.wrap .u64 x6))))) * 4294967296)) + (iShr .u64 (iShl .u64 a1 (IntKind.wrap .u64 x6)) 32))) - (IntKind.wrap .u64 (y16 * (iShl .u64 a2 (IntKind.wrap .u64 x6)))))) (iShr .u64 (iShl .u64 a2 (IntKind.wrap .u64 x6)) 32)))) (quoO h18 (by kernel_rfl)) (by kernel_rfl) (f1 1 [(2, aU (iShl .u64 a2 (IntKind.wrap .u64 x6))), (8, aU (IntKind.wrap .u64 x6)), (9, aU (iShr .u64 (iShl .u64 a2 (IntKind.wrap .u64 x6)) 32)), (10, aU (iAnd .u64 (iShl .u64 a2 (IntKind.wrap .u64 x6)) 4294967295)), (14, aU (iAnd .u64 (iShl .u64 a1 (IntKind.wrap .u64 x6)) 4294967295)), (15, aU y16), (17, aU (IntKind.wrap .u64 ((IntKind.wrap .u64 ((IntKind.wrap .u64 ((iOr .u64 (iShl .u64 a0 (IntKind.wrap .u64 x6)) (iShr .u64 a1 (IntKind.wrap .u64 (64 - (IntKind.wrap .u64 x6))))) * 4294967296)) + (iShr .u64 (iShl .u64 a1 (IntKind.wrap .u64 x6)) 32))) - (IntKind.wrap .u64 (y16 * (iShl .u64 a2 (IntKind.wrap .u64 x6))))))), (18, aU (IntKind.wrap .u64 (Int.tdiv (IntKind.wrap .u64 ((IntKind.wrap .u64 ((IntKind.wrap .u64 ((iOr .u64 (iShl .u64 a0 (IntKind.wrap .u64 x6)) (iShr .u64 a1 (IntKind.wrap .u64 (64 - (IntKind.wrap .u64 x6))))) * 4294967296)) + (iShr .u64 (iShl .u64 a1 (IntKind.wrap .u64 x6)) 32))) - (IntKind.wrap .u64 (y16 * (iShl .u64 a2 (IntKind.wrap .u64 x6)))))) (iShr .u64 (iShl .u64 a2 (IntKind.wrap .u64 x6)) 32))))] (sq (dn [(2, aU (iShl .u64 a2 (IntKind.wrap .u64 x6))), (8, aU (IntKind.wrap .u64 x6)), (9, aU (iShr .u64 (iShl .u64 a2 (IntKind.wrap .u64 x6)) 32)), (10, aU (iAnd .u64 (iShl .u64 a2 (IntKind.wrap .u64 x6)) 4294967295)), (14, aU (iAnd .u64 (iShl .u64 a1 (IntKind.wrap .u64 x6)) 4294967295)), (15, aU y16), (16, aU (IntKind.wrap .u64 ((IntKind.wrap .u64 ((IntKind.wrap .u64 ((IntKind.wrap .u64 ((iOr .u64 (iShl .u64 a0 (IntKind.wrap .u64 x6)) (iShr .u64 a1 (IntKind.wrap .u64 (64 - (IntKind.wrap .u64 x6))))) * 4294967296)) + (iShr .u64 (iShl .u64 a1 (IntKind.wrap .u64 x6)) 32))) - (IntKind.wrap .u64 (y16 * (iShl .u64 a2 (IntKind.wrap .u64 x6)))))) - (IntKind.wrap .u64 ((IntKind.wrap .u64 (Int.tdiv (IntKind.wrap .u64 ((IntKind.wrap .u64 ((IntKind.wrap .u64 ((iOr .u64 (iShl .u64 a0 (IntKind.wrap .u64 x6)) (iShr .u64 a1 (IntKind.wrap .u64 (64 - (IntKind.wrap .u64 x6))))) * 4294967296)) + (iShr .u64 (iShl .u64 a1 (IntKind.wrap .u64 x6)) 32))) - (IntKind.wrap .u64 (y16 * (iShl .u64 a2 (IntKind.wrap .u64 x6)))))) (iShr .u64 (iShl .u64 a2 (IntKind.wrap .u64 x6)) 32))) * (iShr .u64 (iShl .u64 a2 (IntKind.wrap .u64 x6)) 32)))))), (17, aU (IntKind.wrap .u64 ((IntKind.wrap .u64 ((IntKind.wrap .u64 ((iOr .u64 (iShl .u64 a0 (IntKind.wrap .u64 x6)) (iShr .u64 a1 (IntKind.wrap .u64 (64 - (IntKind.wrap .u64 x6))))) * 4294967296)) + (iShr .u64 (iShl .u64 a1 (IntKind.wrap .u64 x6)) 32))) - (IntKind.wrap .u64 (y16 * (iShl .u64 a2 (IntKind.wrap .u64 x6))))))), (18, aU (IntKind.wrap .u64 (Int.tdiv (IntKind.wrap .u64 ((IntKind.wrap .u64 ((IntKind.wrap .u64 ((iOr .u64 (iShl .u64 a0 (IntKind.wrap .u64 x6)) (iShr .u64 a1 (IntKind.wrap .u64 (64 - (IntKind.wrap .u64 x6))))) * 4294967296)) + (iShr .u64 (iShl .u64 a1 (IntKind.wrap .u64 x6)) 32))) - (IntKind.wrap .u64 (y16 * (iShl .u64 a2 (IntKind.wrap .u64 x6)))))) (iShr .u64 (iShl .u64 a2 (IntKind.wrap .u64 x6)) 32))))] ?_)))
      obtain ⟨k23, hk23, hm⟩ := withK_some hm
      refine mid (fun t H => (∃ (y22 : Int) (w19 : AV) (w20 : AV) (w21 : AV), k23 y22 = some r ∧ t = mk 135 [(2, aU (iShl .u64 a2 (IntKind.wrap .u64 x6))), (8, aU (IntKind.wrap .u64 x6)), (9, aU (iShr .u64 (iShl .u64 a2 (IntKind.wrap .u64 x6)) 32)), (10, aU (iAnd .u64 (iShl .u64 a2 (IntKind.wrap .u64 x6)) 4294967295)), (14, aU (iAnd .u64 (iShl .u64 a1 (IntKind.wrap .u64 x6)) 4294967295)), (15, aU y16), (16, w19), (17, aU (IntKind.wrap .u64 ((IntKind.wrap .u64 ((IntKind.wrap .u64 ((iOr .u64 (iShl .u64 a0 (IntKind.wrap .u64 x6)) (iShr .u64 a1 (IntKind.wrap .u64 (64 - (IntKind.wrap .u64 x6))))) * 4294967296)) + (iShr .u64 (iShl .u64 a1 (IntKind.wrap .u64 x6)) 32))) - (IntKind.wrap .u64 (y16 * (iShl .u64 a2 (IntKind.wrap .u64 x6))))))), (18, aU y22), (113, w20), (120, w21)] ∧ H = [])) ?_ ?_
      ·
       rintro _ _ ⟨y22, w19, w20, w21, hm, rfl, rfl⟩
       subst hk23
       refine sq (rg (s1 13 [(133, aU (IntKind.wrap .u64 x6)), (132, aU (IntKind.wrap .u64 ((IntKind.wrap .u64 ((IntKind.wrap .u64 ((IntKind.wrap .u64 ((IntKind.wrap .u64 ((IntKind.wrap .u64 ((iOr .u64 (iShl .u64 a0 (IntKind.wrap .u64 x6)) (iShr .u64 a1 (IntKind.wrap .u64 (64 - (IntKind.wrap .u64 x6))))) * 4294967296)) + (iShr .u64 (iShl .u64 a1 (IntKind.wrap .u64 x6)) 32))) - (IntKind.wrap .u64 (y16 * (iShl .u64 a2 (IntKind.wrap .u64 x6)))))) * 4294967296)) + (iAnd .u64 (iShl .u64 a1 (IntKind.wrap .u64 x6)) 4294967295))) - (IntKind.wrap .u64 (y22 * (iShl .u64 a2 (IntKind.wrap .u64 x6))))))), (131, aU (IntKind.wrap .u64 (y22 * (iShl .u64 a2 (IntKind.wrap .u64 x6))))), (130, aU (iShl .u64 a2 (IntKind.wrap .u64 x6))), (129, aU y22), (128, aU (IntKind.wrap .u64 ((IntKind.wrap .u64 ((IntKind.wrap .u64 ((IntKind.wrap .u64 ((IntKind.wrap .u64 ((iOr .u64 (iShl .u64 a0 (IntKind.wrap .u64 x6)) (iShr .u64 a1 (IntKind.wrap .u64 (64 - (IntKind.wrap .u64 x6))))) * 4294967296)) + (iShr .u64 (iShl .u64 a1 (IntKind.wrap .u64 x6)) 32))) - (IntKind.wrap .u64 (y16 * (iShl .u64 a2 (IntKind.wrap .u64 x6)))))) * 4294967296)) + (iAnd .u64 (iShl .u64 a1 (IntKind.wrap .u64 x6)) 4294967295)))), (127, aU (iAnd .u64 (iShl .u64 a1 (IntKind.wrap .u64 x6)) 4294967295)), (126, aU (IntKind.wrap .u64 ((IntKind.wrap .u64 ((IntKind.wrap .u64 ((IntKind.wrap .u64 ((iOr .u64 (iShl .u64 a0 (IntKind.wrap .u64 x6)) (iShr .u64 a1 (IntKind.wrap .u64 (64 - (IntKind.wrap .u64 x6))))) * 4294967296)) + (iShr .u64 (iShl .u64 a1 (IntKind.wrap .u64 x6)) 32))) - (IntKind.wrap .u64 (y16 * (iShl .u64 a2 (IntKind.wrap .u64 x6)))))) * 4294967296))), (125, aU (IntKind.wrap .u64 ((IntKind.wrap .u64 ((IntKind.wrap .u64 ((iOr .u64 (iShl .u64 a0 (IntKind.wrap .u64 x6)) (iShr .u64 a1 (IntKind.wrap .u64 (64 - (IntKind.wrap .u64 x6))))) * 4294967296)) + (iShr .u64 (iShl .u64 a1 (IntKind.wrap .u64 x6)) 32))) - (IntKind.wrap .u64 (y16 * (iShl .u64 a2 (IntKind.wrap .u64 x6))))))), (124, aU (IntKind.wrap .u64 ((IntKind.wrap .u64 (y16 * 4294967296)) + y22))), (123, aU y22), (122, aU (IntKind.wrap .u64 (y16 * 4294967296))), (121, aU y16)] ?_))
       obtain ⟨_, h24, hm⟩ := bs hm
       refine dv 134 (v := aU (iShr .u64 (IntKind.wrap .u64 ((IntKind.wrap .u64 ((IntKind.wrap .u64 ((IntKind.wrap .u64 ((IntKind.wrap .u64 ((IntKind.wrap .u64 ((iOr .u64 (iShl .u64 a0 (IntKind.wrap .u64 x6)) (iShr .u64 a1 (IntKind.wrap .u64 (64 - (IntKind.wrap .u64 x6))))) * 4294967296)) + (iShr .u64 (iShl .u64 a1 (IntKind.wrap .u64 x6)) 32))) - (IntKind.wrap .u64 (y16 * (iShl .u64 a2 (IntKind.wrap .u64 x6)))))) * 4294967296)) + (iAnd .u64 (iShl .u64 a1 (IntKind.wrap .u64 x6)) 4294967295))) - (IntKind.wrap .u64 (y22 * (iShl .u64 a2 (IntKind.wrap .u64 x6)))))) (IntKind.wrap .u64 x6))) (shrO h24 (by kernel_rfl)) (by kernel_rfl) (f1 2 [(6, aU (IntKind.wrap .u64 ((IntKind.wrap .u64 (y16 * 4294967296)) + y22))), (7, aU (iShr .u64 (IntKind.wrap .u64 ((IntKind.wrap .u64 ((IntKind.wrap .u64 ((IntKind.wrap .u64 ((IntKind.wrap .u64 ((IntKind.wrap .u64 ((iOr .u64 (iShl .u64 a0 (IntKind.wrap .u64 x6)) (iShr .u64 a1 (IntKind.wrap .u64 (64 - (IntKind.wrap .u64 x6))))) * 4294967296)) + (iShr .u64 (iShl .u64 a1 (IntKind.wrap .u64 x6)) 32))) - (IntKind.wrap .u64 (y16 * (iShl .u64 a2 (IntKind.wrap .u64 x6)))))) * 4294967296)) + (iAnd .u64 (iShl .u64 a1 (IntKind.wrap .u64 x6)) 4294967295))) - (IntKind.wrap .u64 (y22 * (iShl .u64 a2 (IntKind.wrap .u64 x6)))))) (IntKind.wrap .u64 x6)))] (wp_ret ?_))
       obtain rfl := Option.some.inj hm
       exact ⟨trivial, by kernel_rfl⟩
      refine bq ?_
      refine loopF (fun mm t H => (∃ (y27 : Int) (y28 : Int), math_bits_Div64_l24 n a1 a2 x6 k23 mm y27 y28 = some r ∧ t = mk 135 [(2, aU (iShl .u64 a2 (IntKind.wrap .u64 x6))), (8, aU (IntKind.wrap .u64 x6)), (9, aU (iShr .u64 (iShl .u64 a2 (IntKind.wrap .u64 x6)) 32)), (10, aU (iAnd .u64 (iShl .u64 a2 (IntKind.wrap .u64 x6)) 4294967295)), (14, aU (iAnd .u64 (iShl .u64 a1 (IntKind.wrap .u64 x6)) 4294967295)), (15, aU y16), (16, aU y27), (17, aU (IntKind.wrap .u64 ((IntKind.wrap .u64 ((IntKind.wrap .u64 ((iOr .u64 (iShl .u64 a0 (IntKind.wrap .u64 x6)) (iShr .u64 a1 (IntKind.wrap .u64 (64 - (IntKind.wrap .u64 x6))))) * 4294967296)) + (iShr .u64 (iShl .u64 a1 (IntKind.wrap .u64 x6)) 32))) - (IntKind.wrap .u64 (y16 * (iShl .u64 a2 (IntKind.wrap .u64 x6))))))), (18, aU y28)] ∧ H = [])) (⟨(IntKind.wrap .u64 ((IntKind.wrap .u64 ((IntKind.wrap .u64 ((IntKind.wrap .u64 ((iOr .u64 (iShl .u64 a0 (IntKind.wrap .u64 x6)) (iShr .u64 a1 (IntKind.wrap .u64 (64 - (IntKind.wrap .u64 x6))))) * 4294967296)) + (iShr .u64 (iShl .u64 a1 (IntKind.wrap .u64 x6)) 32))) - (IntKind.wrap .u64 (y16 * (iShl .u64 a2 (IntKind.wrap .u64 x6)))))) - (IntKind.wrap .u64 ((IntKind.wrap .u64 (Int.tdiv (IntKind.wrap .u64 ((IntKind.wrap .u64 ((IntKind.wrap .u64 ((iOr .u64 (iShl .u64 a0 (IntKind.wrap .u64 x6)) (iShr .u64 a1 (IntKind.wrap .u64 (64 - (IntKind.wrap .u64 x6))))) * 4294967296)) + (iShr .u64 (iShl .u64 a1 (IntKind.wrap .u64 x6)) 32))) - (IntKind.wrap .u64 (y16 * (iShl .u64 a2 (IntKind.wrap .u64 x6)))))) (iShr .u64 (iShl .u64 a2 (IntKind.wrap .u64 x6)) 32))) * (iShr .u64 (iShl .u64 a2 (IntKind.wrap .u64 x6)) 32))))), (IntKind.wrap .u64 (Int.tdiv (IntKind.wrap .u64 ((IntKind.wrap .u64 ((IntKind.wrap .u64 ((iOr .u64 (iShl .u64 a0 (IntKind.wrap .u64 x6)) (iShr .u64 a1 (IntKind.wrap .u64 (64 - (IntKind.wrap .u64 x6))))) * 4294967296)) + (iShr .u64 (iShl .u64 a1 (IntKind.wrap .u64 x6)) 32))) - (IntKind.wrap .u64 (y16 * (iShl .u64 a2 (IntKind.wrap .u64 x6)))))) (iShr .u64 (iShl .u64 a2 (IntKind.wrap .u64 x6)) 32))), hm, rfl, rfl⟩) ?_ ?_
      · rintro _ _ ⟨y27, y28, hm, _⟩; exact nomatch hm
      rintro m29 _ _ ⟨y27, y28, hm, rfl, rfl⟩
      simp only [math_bits_Div64_l24] at hm
      refine sq (sq (rg (s1 3 [(104, aB (decide (y28 ≥ 4294967296))), (103, aB (decide (y28 ≥ 4294967296))), (102, aU y28)] ?_)))
      refine segP (decide (y28 ≥ 4294967296)) [104, 103] (fun b => [(113, aB (b || (decide ((IntKind.wrap .u64 (y28 * (iAnd .u64 (iShl .u64 a2 (IntKind.wrap .u64 x6)) 4294967295))) > (IntKind.wrap .u64 ((IntKind.wrap .u64 (4294967296 * y27)) + (iAnd .u64 (iShl .u64 a1 (IntKind.wrap .u64 x6)) 4294967295))))))), (112, ifA b (.undef) (aB (decide ((IntKind.wrap .u64 (y28 * (iAnd .u64 (iShl .u64 a2 (IntKind.wrap .u64 x6)) 4294967295))) > (IntKind.wrap .u64 ((IntKind.wrap .u64 (4294967296 * y27)) + (iAnd .u64 (iShl .u64 a1 (IntKind.wrap .u64 x6)) 4294967295))))))), (111, ifA b (.undef) (aU (IntKind.wrap .u64 ((IntKind.wrap .u64 (4294967296 * y27)) + (iAnd .u64 (iShl .u64 a1 (IntKind.wrap .u64 x6)) 4294967295))))), (110, ifA b (.undef) (aU (iAnd .u64 (iShl .u64 a1 (IntKind.wrap .u64 x6)) 4294967295))), (109, ifA b (.undef) (aU (IntKind.wrap .u64 (4294967296 * y27)))), (108, ifA b (.undef) (aU y27)), (107, ifA b (.undef) (aU (IntKind.wrap .u64 (y28 * (iAnd .u64 (iShl .u64 a2 (IntKind.wrap .u64 x6)) 4294967295))))), (106, ifA b (.undef) (aU (iAnd .u64 (iShl .u64 a2 (IntKind.wrap .u64 x6)) 4294967295))), (105, ifA b (.undef) (aU y28))]) 9 (by kernel_rfl) (by kernel_rfl) (by kernel_rfl) (fin [(2, aU (iShl .u64 a2 (IntKind.wrap .u64 x6))), (8, aU (IntKind.wrap .u64 x6)), (9, aU (iShr .u64 (iShl .u64 a2 (IntKind.wrap .u64 x6)) 32)), (10, aU (iAnd .u64 (iShl .u64 a2 (IntKind.wrap .u64 x6)) 4294967295)), (14, aU (iAnd .u64 (iShl .u64 a1 (IntKind.wrap .u64 x6)) 4294967295)), (15, aU y16), (16, aU y27), (17, aU (IntKind.wrap .u64 ((IntKind.wrap .u64 ((IntKind.wrap .u64 ((iOr .u64 (iShl .u64 a0 (IntKind.wrap .u64 x6)) (iShr .u64 a1 (IntKind.wrap .u64 (64 - (IntKind.wrap .u64 x6))))) * 4294967296)) + (iShr .u64 (iShl .u64 a1 (IntKind.wrap .u64 x6)) 32))) - (IntKind.wrap .u64 (y16 * (iShl .u64 a2 (IntKind.wrap .u64 x6))))))), (18, aU y28), (113, aB ((decide (y28 ≥ 4294967296)) || (decide ((IntKind.wrap .u64 (y28 * (iAnd .u64 (iShl .u64 a2 (IntKind.wrap .u64 x6)) 4294967295))) > (IntKind.wrap .u64 ((IntKind.wrap .u64 (4294967296 * y27)) + (iAnd .u64 (iShl .u64 a1 (IntKind.wrap .u64 x6)) 4294967295)))))))] rfl (by kernel_rfl) ?_)
      rcases bif_some hm with ⟨h30, hm⟩ | ⟨h30, hm⟩
      ·
       refine c1 h30 (wp_skip (bq (sq (dn [(2, aU (iShl .u64 a2 (IntKind.wrap .u64 x6))), (8, aU (IntKind.wrap .u64 x6)), (9, aU (iShr .u64 (iShl .u64 a2 (IntKind.wrap .u64 x6)) 32)), (10, aU (iAnd .u64 (iShl .u64 a2 (IntKind.wrap .u64 x6)) 4294967295)), (14, aU (iAnd .u64 (iShl .u64 a1 (IntKind.wrap .u64 x6)) 4294967295)), (15, aU y16), (16, aU y27), (17, aU (IntKind.wrap .u64 ((IntKind.wrap .u64 ((IntKind.wrap .u64 ((iOr .u64 (iShl .u64 a0 (IntKind.wrap .u64 x6)) (iShr .u64 a1 (IntKind.wrap .u64 (64 - (IntKind.wrap .u64 x6))))) * 4294967296)) + (iShr .u64 (iShl .u64 a1 (IntKind.wrap .u64 x6)) 32))) - (IntKind.wrap .u64 (y16 * (iShl .u64 a2 (IntKind.wrap .u64 x6))))))), (18, aU (IntKind.wrap .u64 (y28 - 1)))] (sq (dn [(2, aU (iShl .u64 a2 (IntKind.wrap .u64 x6))), (8, aU (IntKind.wrap .u64 x6)), (9, aU (iShr .u64 (iShl .u64 a2 (IntKind.wrap .u64 x6)) 32)), (10, aU (iAnd .u64 (iShl .u64 a2 (IntKind.wrap .u64 x6)) 4294967295)), (14, aU (iAnd .u64 (iShl .u64 a1 (IntKind.wrap .u64 x6)) 4294967295)), (15, aU y16), (16, aU (IntKind.wrap .u64 (y27 + (iShr .u64 (iShl .u64 a2 (IntKind.wrap .u64 x6)) 32)))), (17, aU (IntKind.wrap .u64 ((IntKind.wrap .u64 ((IntKind.wrap .u64 ((iOr .u64 (iShl .u64 a0 (IntKind.wrap .u64 x6)) (iShr .u64 a1 (IntKind.wrap .u64 (64 - (IntKind.wrap .u64 x6))))) * 4294967296)) + (iShr .u64 (iShl .u64 a1 (IntKind.wrap .u64 x6)) 32))) - (IntKind.wrap .u64 (y16 * (iShl .u64 a2 (IntKind.wrap .u64 x6))))))), (18, aU (IntKind.wrap .u64 (y28 - 1)))] (sq (dn [(2, aU (iShl .u64 a2 (IntKind.wrap .u64 x6))), (8, aU (IntKind.wrap .u64 x6)), (9, aU (iShr .u64 (iShl .u64 a2 (IntKind.wrap .u64 x6)) 32)), (10, aU (iAnd .u64 (iShl .u64 a2 (IntKind.wrap .u64 x6)) 4294967295)), (14, aU (iAnd .u64 (iShl .u64 a1 (IntKind.wrap .u64 x6)) 4294967295)), (15, aU y16), (16, aU (IntKind.wrap .u64 (y27 + (iShr .u64 (iShl .u64 a2 (IntKind.wrap .u64 x6)) 32)))), (17, aU (IntKind.wrap .u64 ((IntKind.wrap .u64 ((IntKind.wrap .u64 ((iOr .u64 (iShl .u64 a0 (IntKind.wrap .u64 x6)) (iShr .u64 a1 (IntKind.wrap .u64 (64 - (IntKind.wrap .u64 x6))))) * 4294967296)) + (iShr .u64 (iShl .u64 a1 (IntKind.wrap .u64 x6)) 32))) - (IntKind.wrap .u64 (y16 * (iShl .u64 a2 (IntKind.wrap .u64 x6))))))), (18, aU (IntKind.wrap .u64 (y28 - 1))), (120, aB (decide ((IntKind.wrap .u64 (y27 + (iShr .u64 (iShl .u64 a2 (IntKind.wrap .u64 x6)) 32))) ≥ 4294967296)))] ?_))))))))
       rcases bif_some hm with ⟨h31, hm⟩ | ⟨h31, hm⟩
       ·
        refine c1 h31 (wp_exit ?_)
        exact ⟨(IntKind.wrap .u64 (y28 - 1)), aU (IntKind.wrap .u64 (y27 + (iShr .u64 (iShl .u64 a2 (IntKind.wrap .u64 x6)) 32))), .any, aB (decide ((IntKind.wrap .u64 (y27 + (iShr .u64 (iShl .u64 a2 (IntKind.wrap .u64 x6)) 32))) ≥ 4294967296)), hm, (mk_same (by kernel_rfl)), rfl⟩
       ·
        refine c0 h31 (wp_skip ?_)
        exact ⟨_, _, tidyL [(2, aU (iShl .u64 a2 (IntKind.wrap .u64 x6))), (8, aU (IntKind.wrap .u64 x6)), (9, aU (iShr .u64 (iShl .u64 a2 (IntKind.wrap .u64 x6)) 32)), (10, aU (iAnd .u64 (iShl .u64 a2 (IntKind.wrap .u64 x6)) 4294967295)), (14, aU (iAnd .u64 (iShl .u64 a1 (IntKind.wrap .u64 x6)) 4294967295)), (15, aU y16), (16, aU (IntKind.wrap .u64 (y27 + (iShr .u64 (iShl .u64 a2 (IntKind.wrap .u64 x6)) 32)))), (17, aU (IntKind.wrap .u64 ((IntKind.wrap .u64 ((IntKind.wrap .u64 ((iOr .u64 (iShl .u64 a0 (IntKind.wrap .u64 x6)) (iShr .u64 a1 (IntKind.wrap .u64 (64 - (IntKind.wrap .u64 x6))))) * 4294967296)) + (iShr .u64 (iShl .u64 a1 (IntKind.wrap .u64 x6)) 32))) - (IntKind.wrap .u64 (y16 * (iShl .u64 a2 (IntKind.wrap .u64 x6))))))), (18, aU (IntKind.wrap .u64 (y28 - 1)))] [] (by kernel_rfl), ⟨(IntKind.wrap .u64 (y27 + (iShr .u64 (iShl .u64 a2 (IntKind.wrap .u64 x6)) 32))), (IntKind.wrap .u64 (y28 - 1)), hm, rfl, rfl⟩⟩
      ·
       refine c0 h30 (wp_exit ?_)
       exact ⟨y28, aU y27, aB ((decide (y28 ≥ 4294967296)) || (decide ((IntKind.wrap .u64 (y28 * (iAnd .u64 (iShl .u64 a2 (IntKind.wrap .u64 x6)) 4294967295))) > (IntKind.wrap .u64 ((IntKind.wrap .u64 (4294967296 * y27)) + (iAnd .u64 (iShl .u64 a1 (IntKind.wrap .u64 x6)) 4294967295)))))), .any, hm, (mk_same (by kernel_rfl)), rfl⟩
     refine bq ?_
     refine loopF (fun mm t H => (∃ (y34 : Int) (y35 : Int), math_bits_Div64_l17 n a1 a2 x6 k17 mm y34 y35 = some r ∧ t = mk 135 [(2, aU (iShl .u64 a2 (IntKind.wrap .u64 x6))), (8, aU (IntKind.wrap .u64 x6)), (9, aU (iShr .u64 (iShl .u64 a2 (IntKind.wrap .u64 x6)) 32)), (10, aU (iAnd .u64 (iShl .u64 a2 (IntKind.wrap .u64 x6)) 4294967295)), (11, aU (iOr .u64 (iShl .u64 a0 (IntKind.wrap .u64 x6)) (iShr .u64 a1 (IntKind.wrap .u64 (64 - (IntKind.wrap .u64 x6)))))), (13, aU (iShr .u64 (iShl .u64 a1 (IntKind.wrap .u64 x6)) 32)), (14, aU (iAnd .u64 (iShl .u64 a1 (IntKind.wrap .u64 x6)) 4294967295)), (15, aU y34), (16, aU y35)] ∧ H = [])) (⟨(IntKind.wrap .u64 (Int.tdiv (iOr .u64 (iShl .u64 a0 (IntKind.wrap .u64 x6)) (iShr .u64 a1 (IntKind.wrap .u64 (64 - (IntKind.wrap .u64 x6))))) (iShr .u64 (iShl .u64 a2 (IntKind.wrap .u64 x6)) 32))), (IntKind.wrap .u64 ((iOr .u64 (iShl .u64 a0 (IntKind.wrap .u64 x6)) (iShr .u64 a1 (IntKind.wrap .u64 (64 - (IntKind.wrap .u64 x6))))) - (IntKind.wrap .u64 ((IntKind.wrap .u64 (Int.tdiv (iOr .u64 (iShl .u64 a0 (IntKind.wrap .u64 x6)) (iShr .u64 a1 (IntKind.wrap .u64 (64 - (IntKind.wrap .u64 x6))))) (iShr .u64 (iShl .u64 a2 (IntKind.wrap .u64 x6)) 32))) * (iShr .u64 (iShl .u64 a2 (IntKind.wrap .u64 x6)) 32))))), hm, rfl, rfl⟩) ?_ ?_
     · rintro _ _ ⟨y34, y35, hm, _⟩; exact nomatch hm
     rintro m36 _ _ ⟨y34, y35, hm, rfl, rfl⟩
     simp only [math_bits_Div64_l17] at hm
     refine sq (sq (rg (s1 3 [(69, aB (decide (y34 ≥ 4294967296))), (68, aB (decide (y34 ≥ 4294967296))), (67, aU y34)] ?_)))
     refine segP (decide (y34 ≥ 4294967296)) [69, 68] (fun b => [(78, aB (b || (decide ((IntKind.wrap .u64 (y34 * (iAnd .u64 (iShl .u64 a2 (IntKind.wrap .u64 x6)) 4294967295))) > (IntKind.wrap .u64 ((IntKind.wrap .u64 (4294967296 * y35)) + (iShr .u64 (iShl .u64 a1 (IntKind.wrap .u64 x6)) 32))))))), (77, ifA b (.undef) (aB (decide ((IntKind.wrap .u64 (y34 * (iAnd .u64 (iShl .u64 a2 (IntKind.wrap .u64 x6)) 4294967295))) > (IntKind.wrap .u64 ((IntKind.wrap .u64 (4294967296 * y35)) + (iShr .u64 (iShl .u64 a1 (IntKind.wrap .u64 x6)) 32))))))), (76, ifA b (.undef) (aU (IntKind.wrap .u64 ((IntKind.wrap .u64 (4294967296 * y35)) + (iShr .u64 (iShl .u64 a1 (IntKind.wrap .u64 x6)) 32))))), (75, ifA b (.undef) (aU (iShr .u64 (iShl .u64 a1 (IntKind.wrap .u64 x6)) 32))), (74, ifA b (.undef) (aU (IntKind.wrap .u64 (4294967296 * y35)))), (73, ifA b (.undef) (aU y35)), (72, ifA b (.undef) (aU (IntKind.wrap .u64 (y34 * (iAnd .u64 (iShl .u64 a2 (IntKind.wrap .u64 x6)) 4294967295))))), (71, ifA b (.undef) (aU (iAnd .u64 (iShl .u64 a2 (IntKind.wrap .u64 x6)) 4294967295))), (70, ifA b (.undef) (aU y34))]) 9 (by kernel_rfl) (by kernel_rfl) (by kernel_rfl) (fin [(2, aU (iShl .u64 a2 (IntKind.wrap .u64 x6))), (8, aU (IntKind.wrap .u64 x6)), (9, aU (iShr .u64 (iShl .u64 a2 (IntKind.wrap .u64 x6)) 32)), (10, aU (iAnd .u64 (iShl .u64 a2 (IntKind.wrap .u64 x6)) 4294967295)), (11, aU (iOr .u64 (iShl .u64 a0 (IntKind.wrap .u64 x6)) (iShr .u64 a1 (IntKind.wrap .u64 (64 - (IntKind.wrap .u64 x6)))))), (13, aU (iShr .u64 (iShl .u64 a1 (IntKind.wrap .u64 x6)) 32)), (14, aU (iAnd .u64 (iShl .u64 a1 (IntKind.wrap .u64 x6)) 4294967295)), (15, aU y34), (16, aU y35), (78, aB ((decide (y34 ≥ 4294967296)) || (decide ((IntKind.wrap .u64 (y34 * (iAnd .u64 (iShl .u64 a2 (IntKind.wrap .u64 x6)) 4294967295))) > (IntKind.wrap .u64 ((IntKind.wrap .u64 (4294967296 * y35)) + (iShr .u64 (iShl .u64 a1 (IntKind.wrap .u64 x6)) 32)))))))] rfl (by kernel_rfl) ?_)
     rcases bif_some hm with ⟨h37, hm⟩ | ⟨h37, hm⟩
     ·
      refine c1 h37 (wp_skip (bq (sq (dn [(2, aU (iShl .u64 a2 (IntKind.wrap .u64 x6))), (8, aU (IntKind.wrap .u64 x6)), (9, aU (iShr .u64 (iShl .u64 a2 (IntKind.wrap .u64 x6)) 32)), (10, aU (iAnd .u64 (iShl .u64 a2 (IntKind.wrap .u64 x6)) 4294967295)), (11, aU (iOr .u64 (iShl .u64 a0 (IntKind.wrap .u64 x6)) (iShr .u64 a1 (IntKind.wrap .u64 (64 - (IntKind.wrap .u64 x6)))))), (13, aU (iShr .u64 (iShl .u64 a1 (IntKind.wrap .u64 x6)) 32)), (14, aU (iAnd .u64 (iShl .u64 a1 (IntKind.wrap .u64 x6)) 4294967295)), (15, aU (IntKind.wrap .u64 (y34 - 1))), (16, aU y35)] (sq (dn [(2, aU (iShl .u64 a2 (IntKind.wrap .u64 x6))), (8, aU (IntKind.wrap .u64 x6)), (9, aU (iShr .u64 (iShl .u64 a2 (IntKind.wrap .u64 x6)) 32)), (10, aU (iAnd .u64 (iShl .u64 a2 (IntKind.wrap .u64 x6)) 4294967295)), (11, aU (iOr .u64 (iShl .u64 a0 (IntKind.wrap .u64 x6)) (iShr .u64 a1 (IntKind.wrap .u64 (64 - (IntKind.wrap .u64 x6)))))), (13, aU (iShr .u64 (iShl .u64 a1 (IntKind.wrap .u64 x6)) 32)), (14, aU (iAnd .u64 (iShl .u64 a1 (IntKind.wrap .u64 x6)) 4294967295)), (15, aU (IntKind.wrap .u64 (y34 - 1))), (16, aU (IntKind.wrap .u64 (y35 + (iShr .u64 (iShl .u64 a2 (IntKind.wrap .u64 x6)) 32))))] (sq (dn [(2, aU (iShl .u64 a2 (IntKind.wrap .u64 x6))), (8, aU (IntKind.wrap .u64 x6)), (9, aU (iShr .u64 (iShl .u64 a2 (IntKind.wrap .u64 x6)) 32)), (10, aU (iAnd .u64 (iShl .u64 a2 (IntKind.wrap .u64 x6)) 4294967295)), (11, aU (iOr .u64 (iShl .u64 a0 (IntKind.wrap .u64 x6)) (iShr .u64 a1 (IntKind.wrap .u64 (64 - (IntKind.wrap .u64 x6)))))), (13, aU (iShr .u64 (iShl .u64 a1 (IntKind.wrap .u64 x6)) 32)), (14, aU (iAnd .u64 (iShl .u64 a1 (IntKind.wrap .u64 x6)) 4294967295)), (15, aU (IntKind.wrap .u64 (y34 - 1))), (16, aU (IntKind.wrap .u64 (y35 + (iShr .u64 (iShl .u64 a2 (IntKind.wrap .u64 x6)) 32)))), (85, aB (decide ((IntKind.wrap .u64 (y35 + (iShr .u64 (iShl .u64 a2 (IntKind.wrap .u64 x6)) 32))) ≥ 4294967296)))] ?_))))))))
      rcases bif_some hm with ⟨h38, hm⟩ | ⟨h38, hm⟩
      ·
       refine c1 h38 (wp_exit ?_)
       exact ⟨(IntKind.wrap .u64 (y34 - 1)), aU (IntKind.wrap .u64 (y35 + (iShr .u64 (iShl .u64 a2 (IntKind.wrap .u64 x6)) 32))), .any, aB (decide ((IntKind.wrap .u64 (y35 + (iShr .u64 (iShl .u64 a2 (IntKind.wrap .u64 x6)) 32))) ≥ 4294967296)), hm, (mk_same (by kernel_rfl)), rfl⟩
      ·
       refine c0 h38 (wp_skip ?_)
       exact ⟨_, _, tidyL [(2, aU (iShl .u64 a2 (IntKind.wrap .u64 x6))), (8, aU (IntKind.wrap .u64 x6)), (9, aU (iShr .u64 (iShl .u64 a2 (IntKind.wrap .u64 x6)) 32)), (10, aU (iAnd .u64 (iShl .u64 a2 (IntKind.wrap .u64 x6)) 4294967295)), (11, aU (iOr .u64 (iShl .u64 a0 (IntKind.wrap .u64 x6)) (iShr .u64 a1 (IntKind.wrap .u64 (64 - (IntKind.wrap .u64 x6)))))), (13, aU (iShr .u64 (iShl .u64 a1 (IntKind.wrap .u64 x6)) 32)), (14, aU (iAnd .u64 (iShl .u64 a1 (IntKind.wrap .u64 x6)) 4294967295)), (15, aU (IntKind.wrap .u64 (y34 - 1))), (16, aU (IntKind.wrap .u64 (y35 + (iShr .u64 (iShl .u64 a2 (IntKind.wrap .u64 x6)) 32))))] [] (by kernel_rfl), ⟨(IntKind.wrap .u64 (y34 - 1)), (IntKind.wrap .u64 (y35 + (iShr .u64 (iShl .u64 a2 (IntKind.wrap .u64 x6)) 32))), hm, rfl, rfl⟩⟩
     ·
      refine c0 h37 (wp_exit ?_)
      exact ⟨y34, aU y35, aB ((decide (y34 ≥ 4294967296)) || (decide ((IntKind.wrap .u64 (y34 * (iAnd .u64 (iShl .u64 a2 (IntKind.wrap .u64 x6)) 4294967295))) > (IntKind.wrap .u64 ((IntKind.wrap .u64 (4294967296 * y35)) + (iShr .u64 (iShl .u64 a1 (IntKind.wrap .u64 x6)) 32)))))), .any, hm, (mk_same (by kernel_rfl)), rfl⟩
theorem ok_fixed_Share {n : Nat} {a0 : Int} {a1 : Int} {a2 : Int} {r : Int} (hm : fixed_Share n a0 a1 a2 = some r) :
    call G n 160 [aU a0, aU a1, aU a2] [] = some (.ret (aU r), []) := by
  unfold fixed_Share at hm
  obtain ⟨n, rfl, h0⟩ := at1_some hm
  replace hm := h0; clear h0
  refine callL 35 [(0, aU a0), (1, aU a1), (2, aU a2)] func160 rfl (by kernel_rfl) (sq (dn [(0, aU a0), (1, aU a1), (2, aU a2)] (sq (rg (s1 2 [(13, aU a1), (12, aU a0)] ?_)))))
  obtain ⟨x1, h2, hm⟩ := bs hm
  refine dv 14 (cpure (by kernel_rfl) (ok_math_bits_Mul64 h2) (by kernel_rfl) (by kernel_rfl) (by kernel_rfl)) (by kernel_rfl) (f1 5 [(2, aU a2), (7, aU x1.1), (8, aU x1.2)] ?_)
  refine sq (sq (rg (s1 3 [(19, aB (x1.1 == 0)), (18, aB (x1.1 == 0)), (17, aU x1.1)] ?_)))
  refine segP (x1.1 == 0) [19, 18] (fun b => [(22, aB (b && (x1.2 == 0))), (21, ifA b (aB (x1.2 == 0)) (.undef)), (20, ifA b (aU x1.2) (.undef))]) 3 (by kernel_rfl) (by kernel_rfl) (by kernel_rfl) (fin [(2, aU a2), (7, aU x1.1), (8, aU x1.2), (22, aB ((x1.1 == 0) && (x1.2 == 0)))] rfl (by kernel_rfl) ?_)
  rcases bif_some hm with ⟨h3, hm⟩ | ⟨h3, hm⟩
  ·
   refine c1 h3 (sq (dn [(6, aU 0)] (wp_ret ?_)))
   obtain rfl := Option.some.inj hm
   exact ⟨trivial, by kernel_rfl⟩
  ·
   refine c0 h3 (wp_skip ?_)
   refine sq (sq (dn [(2, aU a2), (7, aU x1.1), (8, aU x1.2), (25, aB (decide (x1.1 ≥ a2)))] ?_))
   rcases bif_some hm with ⟨h4, hm⟩ | ⟨h4, hm⟩
   ·
    refine c1 h4 (sq (rg ?_))
    obtain ⟨x5, h6, hm⟩ := bs hm
    refine dv 26 (cpure (by kernel_rfl) (ok_fixed_capped_bool h6) (by kernel_rfl) (by kernel_rfl) (by kernel_rfl)) (by kernel_rfl) (f1 1 [(6, aU x5)] (wp_ret ?_))
    obtain rfl := Option.some.inj hm
    exact ⟨trivial, by kernel_rfl⟩
   ·
    refine c0 h4 (wp_skip (sq (rg (s1 3 [(30, aU a2), (29, aU x1.2), (28, aU x1.1)] ?_))))
    obtain ⟨x7, h8, hm⟩ := bs hm
    refine dv 31 (cpure (by kernel_rfl) (ok_math_bits_Div64 h8) (by kernel_rfl) (by kernel_rfl) (by kernel_rfl)) (by kernel_rfl) (f1 5 [(9, aU x7.1)] (sq (dn [(6, aU x7.1)] (wp_ret ?_))))
    obtain rfl := Option.some.inj hm
    exact ⟨trivial, by kernel_rfl⟩
theorem ok_fixed_Scale {n : Nat} {a0 : Int} {a1 : Int} {r : Int} (hm : fixed_Scale n a0 a1 = some r) :
    call G n 105 [aU a0, aU a1] [] = some (.ret (aU r), []) := by
  unfold fixed_Scale at hm
  obtain ⟨n, rfl, h0⟩ := at1_some hm
  replace hm := h0; clear h0
  refine callL 8 [(0, aU a0), (1, aU a1)] func105 rfl (by kernel_rfl) (sq (dn [(0, aU a0), (1, aU a1)] (sq (rg (s1 2 [(6, aU a1), (5, aU a0)] ?_)))))
  obtain ⟨x1, h2, hm⟩ := bs hm
  refine dv 7 (cpure (by kernel_rfl) (ok_fixed_Share h2) (by kernel_rfl) (by kernel_rfl) (by kernel_rfl)) (by kernel_rfl) (f1 1 [(4, aU x1)] (wp_ret ?_))
  obtain rfl := Option.some.inj hm
  exact ⟨trivial, by kernel_rfl⟩
theorem ok_fixed_Add {n : Nat} {a0 : Int} {a1 : Int} {r : Int} (hm : fixed_Add n a0 a1 = some r) :
    call G n 197 [aU a0, aU a1] [] = some (.ret (aU r), []) := by
  unfold fixed_Add at hm
  obtain ⟨n, rfl, h0⟩ := at1_some hm
  replace hm := h0; clear h0
  refine callL 16 [(0, aU a0), (1, aU a1)] func197 rfl (by kernel_rfl) (sq (dn [(0, aU a0), (1, aU a1)] (sq (rg (s1 2 [(9, aU a1), (8, aU a0)] (s1 1 [(10, .tup [aU (((a0.toNat + a1.toNat) % Extern.MathBitsCarry.m64 : Nat) : Int), aU (((a0.toNat + a1.toNat) / Extern.MathBitsCarry.m64 : Nat) : Int)])] (f1 5 [(5, aU (((a0.toNat + a1.toNat) % Extern.MathBitsCarry.m64 : Nat) : Int)), (6, aU (((a0.toNat + a1.toNat) / Extern.MathBitsCarry.m64 : Nat) : Int))] (sq (rg (s1 2 [(14, aU (((a0.toNat + a1.toNat) / Extern.MathBitsCarry.m64 : Nat) : Int)), (13, aU (((a0.toNat + a1.toNat) % Extern.MathBitsCarry.m64 : Nat) : Int))] ?_))))))))))
  obtain ⟨x1, h2, hm⟩ := bs hm
  refine dv 15 (cpure (by kernel_rfl) (ok_fixed_capped_uint64 h2) (by kernel_rfl) (by kernel_rfl) (by kernel_rfl)) (by kernel_rfl) (f1 1 [(4, aU x1)] (wp_ret ?_))
  obtain rfl := Option.some.inj hm
  exact ⟨trivial, by kernel_rfl⟩
theorem ok_fixed_Sub {n : Nat} {a0 : Int} {a1 : Int} {r : Int} (hm : fixed_Sub n a0 a1 = some r) :
    call G n 196 [aU a0, aU a1] [] = some (.ret (aU r), []) := by
  unfold fixed_Sub at hm
  obtain ⟨n, rfl, h0⟩ := at1_some hm
  replace hm := h0; clear h0
  refine callL 11 [(0, aU a0), (1, aU a1)] func196 rfl (by kernel_rfl) (sq (dn [(0, aU a0), (1, aU a1)] (sq (sq (dn [(0, aU a0), (1, aU a1), (7, aB (decide (a1 > a0)))] ?_)))))
  rcases bif_some hm with ⟨h1, hm⟩ | ⟨h1, hm⟩
  ·
   refine c1 h1 (sq (dn [(4, aU 0)] (wp_ret ?_)))
   obtain rfl := Option.some.inj hm
   exact ⟨trivial, by kernel_rfl⟩
  ·
   refine c0 h1 (wp_skip (sq (dn [(4, aU (IntKind.wrap .u64 (a0 - a1)))] (wp_ret ?_))))
   obtain rfl := Option.some.inj hm
   exact ⟨trivial, by kernel_rfl⟩
theorem ok_fixed_Inverse {n : Nat} {a0 : Int} {r : Int} (hm : fixed_Inverse n a0 = some r) :
    call G n 198 [aU a0] [] = some (.ret (aU r), []) := by
  unfold fixed_Inverse at hm
  obtain ⟨n, rfl, h0⟩ := at1_some hm
  replace hm := h0; clear h0
  refine callL 5 [(0, aU a0)] func198 rfl (by kernel_rfl) (sq (dn [(0, aU a0)] (sq (rg (s1 1 [(3, aU a0)] ?_)))))
  obtain ⟨x1, h2, hm⟩ := bs hm
  refine dv 4 (cpure (by kernel_rfl) (ok_fixed_Sub h2) (by kernel_rfl) (by kernel_rfl) (by kernel_rfl)) (by kernel_rfl) (f1 1 [(2, aU x1)] (wp_ret ?_))
  obtain rfl := Option.some.inj hm
  exact ⟨trivial, by kernel_rfl⟩
theorem ok_guess_column {n : Nat} {a0 : api_Expr} {a1 : (Option (List stat_Stat))} {r : stat_Col × Int × Bool} (hm : guess_column n a0 a1 = some r) :
    call G n 200 [.agg [aI a0.fKind, aI a0.fRel, aI a0.fCol, aI a0.fConst.fKind, aI a0.fConst.fInt, aF a0.fConst.fFloat, aS a0.fConst.fText, .pv (encSl R_E_api_Expr a0.fKids)], .pv (encSl R_stat_Stat a1)] [] = some (.ret (.tup [.agg ([aI r.1.fKind, aI r.1.fNulls, aI r.1.fDistinct, .pv (encSl R_hist_Bucket r.1.fHist), .pv (encSl R_api_Value r.1.fSample)] ++ (aA .u8 64 r.1.fSketch.fRegs)), aI r.2.1, aB r.2.2]), []) := by
  unfold guess_column at hm
  obtain ⟨n, rfl, h0⟩ := at1_some hm
  replace hm := h0; clear h0
  refine callL 46 [(0, .agg [aI a0.fKind, aI a0.fRel, aI a0.fCol, aI a0.fConst.fKind, aI a0.fConst.fInt, aF a0.fConst.fFloat, aS a0.fConst.fText, .pv (encSl R_E_api_Expr a0.fKids)]), (1, .pv (encSl R_stat_Stat a1))] func200 rfl (by kernel_rfl) (sq (det [(1, .pv (encSl R_stat_Stat a1)), (2, .ptr 0 0), (4, .ptr 1 0)] [.box [aI a0.fKind, aI a0.fRel, aI a0.fCol, aI a0.fConst.fKind, aI a0.fConst.fInt, aF a0.fConst.fFloat, aS a0.fConst.fText, .pv (encSl R_E_api_Expr a0.fKids)] false, .box ([aI 0, aI 0, aI 0, .pv .nils, .pv .nils] ++ (aA .u8 64 (fun _ => 0))) false] (by kernel_rfl) ?_))
  refine sq (sq (rgd (shd 4 [(10, aB (a0.fKind != 1)), (9, aB (a0.fKind != 1)), (8, aI a0.fKind), (7, .ptr 0 0)] (by kernel_rfl) ?_)))
  rcases bif_some hm with ⟨h1, hm⟩ | ⟨h1, hm⟩
  ·
   refine knownd [10, 9] h1 (by kernel_rfl) (shd 18 [(28, aB true), (27, .undef), (26, .undef), (25, .undef), (24, .undef), (23, .undef), (22, .undef), (21, .undef), (20, .undef), (19, .undef), (18, .undef), (17, aB true), (16, aB true), (15, .undef), (14, .undef), (13, .undef), (12, .undef), (11, .undef)] (by kernel_rfl) (find [(1, .pv (encSl R_stat_Stat a1)), (2, .ptr 0 0), (4, .ptr 1 0), (28, aB true)] rfl (by kernel_rfl) (by kernel_rfl) (cT (by kernel_rfl) (sq (dn [(4, .ptr 1 0), (5, aI 0), (6, aB false)] (wp_ret ?_))))))
   obtain rfl := Option.some.inj hm
   exact ⟨trivial, by kernel_rfl⟩
  ·
   refine knownd [10, 9] h1 (by kernel_rfl) (shd 3 [(13, .pv (encSl R_stat_Stat a1)), (12, aI a0.fRel), (11, .ptr 0 1)] (by kernel_rfl) (dvd 14 (v := aI ((sll a1).length : Int)) (len_slO R_stat_Stat a1 t54 (by kernel_rfl)) (by kernel_rfl) (shd 3 [(17, aB (decide (a0.fRel ≥ ((sll a1).length : Int)))), (16, aB (decide (a0.fRel ≥ ((sll a1).length : Int)))), (15, aB (decide (a0.fRel ≥ ((sll a1).length : Int))))] (by kernel_rfl) ?_)))
   rcases bif_some hm with ⟨h2, hm⟩ | ⟨h2, hm⟩
   ·
    refine knownd [17, 16, 15] h2 (by kernel_rfl) (shd 11 [(28, aB true), (27, .undef), (26, .undef), (25, .undef), (24, .undef), (23, .undef), (22, .undef), (21, .undef), (20, .undef), (19, .undef), (18, .undef)] (by kernel_rfl) (find [(1, .pv (encSl R_stat_Stat a1)), (2, .ptr 0 0), (4, .ptr 1 0), (28, aB true)] rfl (by kernel_rfl) (by kernel_rfl) (cT (by kernel_rfl) (sq (dn [(4, .ptr 1 0), (5, aI 0), (6, aB false)] (wp_ret ?_))))))
    obtain rfl := Option.some.inj hm
    exact ⟨trivial, by kernel_rfl⟩
   ·
    refine knownd [17, 16, 15] h2 (by kernel_rfl) (shd 5 [(22, aI a0.fRel), (21, .ptr 0 1), (20, .pv (encSl R_stat_Stat a1)), (19, aI a0.fCol), (18, .ptr 0 2)] (by kernel_rfl) ?_)
    obtain ⟨x3, h4, hm⟩ := bs hm
    refine dvd 23 (v := .pv (.ptr (R_stat_Stat x3) 0)) (ia_slO R_stat_Stat a1 .i64 t54 t159 h4 rfl (by kernel_rfl)) (by kernel_rfl) (shd 2 [(25, .pv (encSl R_stat_Col x3.fCols)), (24, .pv (.ptr (R_stat_Stat x3) 1))] (by kernel_rfl) (dvd 26 (v := aI ((sll x3.fCols).length : Int)) (len_slO R_stat_Col x3.fCols t157 (by kernel_rfl)) (by kernel_rfl) (shd 2 [(28, aB (decide (a0.fCol ≥ ((sll x3.fCols).length : Int)))), (27, aB (decide (a0.fCol ≥ ((sll x3.fCols).length : Int))))] (by kernel_rfl) (find [(1, .pv (encSl R_stat_Stat a1)), (2, .ptr 0 0), (4, .ptr 1 0), (28, aB (decide (a0.fCol ≥ ((sll x3.fCols).length : Int))))] rfl (by kernel_rfl) (by kernel_rfl) ?_))))
    rcases bif_some hm with ⟨h5, hm⟩ | ⟨h5, hm⟩
    ·
     refine c1 h5 (sq (dn [(4, .ptr 1 0), (5, aI 0), (6, aB false)] (wp_ret ?_)))
     obtain rfl := Option.some.inj hm
     exact ⟨trivial, by kernel_rfl⟩
    ·
     refine c0 h5 (wp_skip (sq (rgd (shd 3 [(32, aI a0.fRel), (31, .ptr 0 1), (30, .pv (encSl R_stat_Stat a1))] (by kernel_rfl) (dvd 33 (v := .pv (.ptr (R_stat_Stat x3) 0)) (ia_slO R_stat_Stat a1 .i64 t54 t159 h4 rfl (by kernel_rfl)) (by kernel_rfl) (shd 4 [(37, aI a0.fCol), (36, .ptr 0 2), (35, .pv (encSl R_stat_Col x3.fCols)), (34, .pv (.ptr (R_stat_Stat x3) 1))] (by kernel_rfl) ?_))))))
     obtain ⟨x6, h7, hm⟩ := bs hm
     refine dvd 38 (v := .pv (.ptr (R_stat_Col x6) 0)) (ia_slO R_stat_Col x3.fCols .i64 t157 t156 h7 rfl (by kernel_rfl)) (by kernel_rfl) (shd 4 [(42, aI a0.fRel), (41, .ptr 0 1), (40, .pv (encSl R_stat_Stat a1)), (39, .agg ([aI x6.fKind, aI x6.fNulls, aI x6.fDistinct, .pv (encSl R_hist_Bucket x6.fHist), .pv (encSl R_api_Value x6.fSample)] ++ (aA .u8 64 x6.fSketch.fRegs)))] (by kernel_rfl) (dvd 43 (v := .pv (.ptr (R_stat_Stat x3) 0)) (ia_slO R_stat_Stat a1 .i64 t54 t159 h4 rfl (by kernel_rfl)) (by kernel_rfl) (std 5 [(6, aB true), (5, aI x3.fRows), (45, aI x3.fRows), (44, .pv (.ptr (R_stat_Stat x3) 0))] [.box [aI a0.fKind, aI a0.fRel, aI a0.fCol, aI a0.fConst.fKind, aI a0.fConst.fInt, aF a0.fConst.fFloat, aS a0.fConst.fText, .pv (encSl R_E_api_Expr a0.fKids)] false, .box ([aI x6.fKind, aI x6.fNulls, aI x6.fDistinct, .pv (encSl R_hist_Bucket x6.fHist), .pv (encSl R_api_Value x6.fSample)] ++ (aA .u8 64 x6.fSketch.fRegs)) false] (by kernel_rfl) (find [(4, .ptr 1 0), (5, aI x3.fRows), (6, aB true)] rfl (by kernel_rfl) (by kernel_rfl) (wp_ret ?_)))))
     obtain rfl := Option.some.inj hm
     exact ⟨trivial, by kernel_rfl⟩
theorem ok_guess_one {n : Nat} {a0 : Int} {r : Int} (hm : guess_one n a0 = some r) :
    call G n 240 [aI a0] [] = some (.ret (aU r), []) := by
  unfold guess_one at hm
  obtain ⟨n, rfl, h0⟩ := at1_some hm
  replace hm := h0; clear h0
  refine callL 7 [(0, aI a0)] func240 rfl (by kernel_rfl) (sq (dn [(0, aI a0)] (sq (rg (s1 2 [(4, aI (if 1 > a0 then 1 else a0)), (3, aI a0)] ?_)))))
  obtain ⟨x1, h2, hm⟩ := bs hm
  refine dv 5 (cpure (by kernel_rfl) (ok_guess_natural h2) (by kernel_rfl) (by kernel_rfl) (by kernel_rfl)) (by kernel_rfl) ?_
  obtain ⟨_, h3, hm⟩ := bs hm
  refine dv 6 (v := aU (IntKind.wrap .u64 (Int.tdiv 1048576 x1))) (quoO h3 (by kernel_rfl)) (by kernel_rfl) (f1 1 [(2, aU (IntKind.wrap .u64 (Int.tdiv 1048576 x1)))] (wp_ret ?_))
  obtain rfl := Option.some.inj hm
  exact ⟨trivial, by kernel_rfl⟩
theorem ok_guess_blind {n : Nat} {a0 : Int} {a1 : Int} {r : Int} (hm : guess_blind n a0 a1 = some r) :
    call G n 239 [aI a0, aU a1] [] = some (.ret (aU r), []) := by
  unfold guess_blind at hm
  obtain ⟨n, rfl, h0⟩ := at1_some hm
  replace hm := h0; clear h0
  refine callL 8 [(0, aI a0), (1, aU a1)] func239 rfl (by kernel_rfl) (sq (dn [(0, aI a0), (1, aU a1)] (sq (sq (dn [(1, aU a1), (6, aB (a0 == 7))] ?_)))))
  rcases bif_some hm with ⟨h1, hm⟩ | ⟨h1, hm⟩
  ·
   refine c1 h1 (sq (dn [(4, aU a1)] (wp_ret ?_)))
   obtain rfl := Option.some.inj hm
   exact ⟨trivial, by kernel_rfl⟩
  ·
   refine c0 h1 (wp_skip (sq (dn [(4, aU 349525)] (wp_ret ?_))))
   obtain rfl := Option.some.inj hm
   exact ⟨trivial, by kernel_rfl⟩
theorem ok_hist_plain {n : Nat} {a0 : api_Value} {r : Bool} (hm : hist_plain n a0 = some r) :
    call G n 272 [.agg [aI a0.fKind, aI a0.fInt, aF a0.fFloat, aS a0.fText]] [] = some (.ret (aB r), []) := by
  unfold hist_plain at hm
  obtain ⟨n, rfl, h0⟩ := at1_some hm
  replace hm := h0; clear h0
  refine callL 21 [(0, .agg [aI a0.fKind, aI a0.fInt, aF a0.fFloat, aS a0.fText])] func272 rfl (by kernel_rfl) (sq (det [(1, .ptr 0 0)] [.box [aI a0.fKind, aI a0.fInt, aF a0.fFloat, aS a0.fText] false] (by kernel_rfl) (sq (rg (s1 1 [(3, .agg [aI a0.fKind, aI a0.fInt, aF a0.fFloat, aS a0.fText])] ?_)))))
  obtain ⟨x1, h2, hm⟩ := bs hm
  refine dv 4 (cpure (by kernel_rfl) (ok_value_Right h2) (by kernel_rfl) (by kernel_rfl) (by kernel_rfl)) (by kernel_rfl) (s1 1 [(5, aB x1)] ?_)
  refine segP x1 [5, 4] (fun b => [(9, aB (b && (a0.fKind != 0))), (8, ifA b (aB (a0.fKind != 0)) (.undef)), (7, ifA b (aI a0.fKind) (.undef)), (6, ifA b (.ptr 0 0) (.undef))]) 4 (by kernel_rfl) (by kernel_rfl) (by kernel_rfl) (s1 1 [(10, aB (x1 && (a0.fKind != 0)))] ?_)
  rcases bif_some hm with ⟨h3, hm⟩ | ⟨h3, hm⟩
  ·
   refine known [10, 9] h3 (by kernel_rfl) (s1 4 [(14, aB ((FloatKind.format .f64).order a0.fFloat 0 != some .eq)), (13, aB ((FloatKind.format .f64).order a0.fFloat 0 != some .eq)), (12, aF a0.fFloat), (11, .ptr 0 2)] ?_)
   rcases bif_some hm with ⟨h4, hm⟩ | ⟨h4, hm⟩
   ·
    refine known [14, 13] h4 (by kernel_rfl) (f1 7 [(2, aB true)] (wp_ret ?_))
    obtain rfl := Option.some.inj hm
    exact ⟨trivial, by kernel_rfl⟩
   ·
    refine known [14, 13] h4 (by kernel_rfl) (s1 2 [(16, aF a0.fFloat), (15, .ptr 0 2)] ?_)
    obtain ⟨x5, h6, hm⟩ := bs hm
    refine dv 17 (cpure (by kernel_rfl) (ok_math_Signbit h6) (by kernel_rfl) (by kernel_rfl) (by kernel_rfl)) (by kernel_rfl) (f1 4 [(2, aB (!x5))] (wp_ret ?_))
    obtain rfl := Option.some.inj hm
    exact ⟨trivial, by kernel_rfl⟩
  ·
   refine known [10, 9] h3 (by kernel_rfl) (f1 11 [(2, aB false)] (wp_ret ?_))
   obtain rfl := Option.some.inj hm
   exact ⟨trivial, by kernel_rfl⟩
theorem ok_math_IsNaN {n : Nat} {a0 : Nat} {r : Bool} (hm : math_IsNaN n a0 = some r) :
    call G n 228 [aF a0] [] = some (.ret (aB r), []) := by
  unfold math_IsNaN at hm
  obtain ⟨n, rfl, h0⟩ := at1_some hm
  replace hm := h0; clear h0
  refine callL 6 [(0, aF a0)] func228 rfl (by kernel_rfl) (sq (dn [(0, aF a0)] (sq (dn [(2, aB ((FloatKind.format .f64).order a0 a0 != some .eq))] (wp_ret ?_)))))
  obtain rfl := Option.some.inj hm
  exact ⟨trivial, by kernel_rfl⟩
theorem ok_value_Plain {n : Nat} {a0 : api_Value} {r : api_Value} (hm : value_Plain n a0 = some r) :
    call G n 189 [.agg [aI a0.fKind, aI a0.fInt, aF a0.fFloat, aS a0.fText]] [] = some (.ret (.agg [aI r.fKind, aI r.fInt, aF r.fFloat, aS r.fText]), []) := by
  unfold value_Plain at hm
  obtain ⟨n, rfl, h0⟩ := at1_some hm
  replace hm := h0; clear h0
  refine callL 30 [(0, .agg [aI a0.fKind, aI a0.fInt, aF a0.fFloat, aS a0.fText])] func189 rfl (by kernel_rfl) (sq (det [(1, .ptr 0 0), (2, .ptr 1 0)] [.box [aI a0.fKind, aI a0.fInt, aF a0.fFloat, aS a0.fText] false, .box [aI 0, aI 0, aF 0, aS ByteArray.empty] false] (by kernel_rfl) (sq (bq (sq (rg (s1 1 [(4, .agg [aI a0.fKind, aI a0.fInt, aF a0.fFloat, aS a0.fText])] ?_)))))))
  obtain ⟨x1, h2, hm⟩ := bs hm
  refine dv 5 (cpure (by kernel_rfl) (ok_value_Right h2) (by kernel_rfl) (by kernel_rfl) (by kernel_rfl)) (by kernel_rfl) (f1 2 [(1, .ptr 0 0), (2, .ptr 1 0), (3, aB (!x1))] ?_)
  rcases bif_some hm with ⟨h3, hm⟩ | ⟨h3, hm⟩
  ·
   refine c1 h3 (sq (dn [(2, .ptr 1 0)] (wp_ret ?_)))
   obtain rfl := Option.some.inj hm
   exact ⟨trivial, by kernel_rfl⟩
  ·
   refine c0 h3 ?_
   obtain ⟨k5, hk5, hm⟩ := withK_some hm
   refine mid (fun t H => (∃ (y4 : Bool), k5 y4 = some r ∧ t = mk 30 [(1, .ptr 0 0), (2, .ptr 1 0), (8, aB y4)] ∧ H = [.box [aI a0.fKind, aI a0.fInt, aF a0.fFloat, aS a0.fText] false, .box [aI 0, aI 0, aF 0, aS ByteArray.empty] false])) ?_ ?_
   ·
    rintro _ _ ⟨y4, hm, rfl, rfl⟩
    subst hk5
    rcases bif_some hm with ⟨h6, hm⟩ | ⟨h6, hm⟩
    ·
     refine c1 h6 (rg (s1 1 [(17, aF (Int.toNat 9221120237041090561))] (stf 2 [(1, .ptr 0 0), (2, .ptr 1 0)] [.box [aI a0.fKind, aI a0.fInt, aF (Int.toNat 9221120237041090561), aS a0.fText] false, .box [aI 0, aI 0, aF 0, aS ByteArray.empty] false] (by kernel_rfl) (sq (det [(2, .ptr 1 0)] [.box [aI a0.fKind, aI a0.fInt, aF (Int.toNat 9221120237041090561), aS a0.fText] false, .box [aI a0.fKind, aI a0.fInt, aF (Int.toNat 9221120237041090561), aS a0.fText] false] (by kernel_rfl) (wp_ret ?_))))))
     obtain rfl := Option.some.inj hm
     exact ⟨trivial, by kernel_rfl⟩
    ·
     refine c0 h6 (sq (rg (s1 4 [(23, aB (a0.fKind == 3)), (22, aB (a0.fKind == 3)), (21, aI a0.fKind), (20, .ptr 0 0)] ?_)))
     refine segP (a0.fKind == 3) [23, 22] (fun b => [(27, aB (b && ((FloatKind.format .f64).order a0.fFloat 0 == some .eq))), (26, ifA b (aB ((FloatKind.format .f64).order a0.fFloat 0 == some .eq)) (.undef)), (25, ifA b (aF a0.fFloat) (.undef)), (24, ifA b (.ptr 0 2) (.undef))]) 4 (by kernel_rfl) (by kernel_rfl) (by kernel_rfl) (f1 1 [(1, .ptr 0 0), (2, .ptr 1 0), (19, aB ((a0.fKind == 3) && ((FloatKind.format .f64).order a0.fFloat 0 == some .eq)))] ?_)
     rcases bif_some hm with ⟨h7, hm⟩ | ⟨h7, hm⟩
     ·
      refine c1 h7 (det [(1, .ptr 0 0), (2, .ptr 1 0)] [.box [aI a0.fKind, aI a0.fInt, aF 0, aS a0.fText] false, .box [aI 0, aI 0, aF 0, aS ByteArray.empty] false] (by kernel_rfl) (sq (det [(2, .ptr 1 0)] [.box [aI a0.fKind, aI a0.fInt, aF 0, aS a0.fText] false, .box [aI a0.fKind, aI a0.fInt, aF 0, aS a0.fText] false] (by kernel_rfl) (wp_ret ?_))))
      obtain rfl := Option.some.inj hm
      exact ⟨trivial, by kernel_rfl⟩
     ·
      refine c0 h7 (wp_skip (sq (det [(2, .ptr 1 0)] [.box [aI a0.fKind, aI a0.fInt, aF a0.fFloat, aS a0.fText] false, .box [aI a0.fKind, aI a0.fInt, aF a0.fFloat, aS a0.fText] false] (by kernel_rfl) (wp_ret ?_))))
      obtain rfl := Option.some.inj hm
      exact ⟨trivial, by kernel_rfl⟩
   refine rg (s1 4 [(12, aB (a0.fKind == 3)), (11, aB (a0.fKind == 3)), (10, aI a0.fKind), (9, .ptr 0 0)] ?_)
   rcases bif_some hm with ⟨h8, hm⟩ | ⟨h8, hm⟩
   ·
    refine known [12, 11] h8 (by kernel_rfl) (s1 2 [(14, aF a0.fFloat), (13, .ptr 0 2)] ?_)
    obtain ⟨x9, h10, hm⟩ := bs hm
    refine dv 15 (cpure (by kernel_rfl) (ok_math_IsNaN h10) (by kernel_rfl) (by kernel_rfl) (by kernel_rfl)) (by kernel_rfl) (f1 2 [(1, .ptr 0 0), (2, .ptr 1 0), (8, aB x9)] ?_)
    exact ⟨x9, hm, rfl, rfl⟩
   ·
    refine known [12, 11] h8 (by kernel_rfl) (f1 5 [(1, .ptr 0 0), (2, .ptr 1 0), (8, aB false)] ?_)
    exact ⟨false, hm, rfl, rfl⟩
theorem ok_cmp_isNaN_int {n : Nat} {a0 : Int} {r : Bool} (hm : cmp_isNaN_int n a0 = some r) :
    call G n 252 [aI a0] [] = some (.ret (aB r), []) := by
  unfold cmp_isNaN_int at hm
  obtain ⟨n, rfl, h0⟩ := at1_some hm
  replace hm := h0; clear h0
  refine callL 6 [(0, aI a0)] func252 rfl (by kernel_rfl) (sq (dn [(0, aI a0)] (sq (dn [(2, aB (a0 != a0))] (wp_ret ?_)))))
  obtain rfl := Option.some.inj hm
  exact ⟨trivial, by kernel_rfl⟩
theorem ok_cmp_Compare_int {n : Nat} {a0 : Int} {a1 : Int} {r : Int} (hm : cmp_Compare_int n a0 a1 = some r) :
    call G n 234 [aI a0, aI a1] [] = some (.ret (aI r), []) := by
  unfold cmp_Compare_int at hm
  obtain ⟨n, rfl, h0⟩ := at1_some hm
  replace hm := h0; clear h0
  refine callL 20 [(0, aI a0), (1, aI a1)] func234 rfl (by kernel_rfl) (sq (dn [(0, aI a0), (1, aI a1)] (sq (rg (s1 1 [(7, aI a0)] ?_)))))
  obtain ⟨x1, h2, hm⟩ := bs hm
  refine dv 8 (cpure (by kernel_rfl) (ok_cmp_isNaN_int h2) (by kernel_rfl) (by kernel_rfl) (by kernel_rfl)) (by kernel_rfl) (f1 1 [(0, aI a0), (1, aI a1), (5, aB x1)] (sq (rg (s1 1 [(9, aI a1)] ?_))))
  obtain ⟨x3, h4, hm⟩ := bs hm
  refine dv 10 (cpure (by kernel_rfl) (ok_cmp_isNaN_int h4) (by kernel_rfl) (by kernel_rfl) (by kernel_rfl)) (by kernel_rfl) (f1 1 [(0, aI a0), (1, aI a1), (5, aB x1), (6, aB x3)] ?_)
  refine sq (sq (dn [(0, aI a0), (1, aI a1), (6, aB x3), (11, aB x1)] ?_))
  rcases bif_some hm with ⟨h5, hm⟩ | ⟨h5, hm⟩
  ·
   refine c1 h5 (sq (sq (dn [(12, aB x3)] ?_)))
   rcases bif_some hm with ⟨h6, hm⟩ | ⟨h6, hm⟩
   ·
    refine c1 h6 (sq (dn [(4, aI 0)] (wp_ret ?_)))
    obtain rfl := Option.some.inj hm
    exact ⟨trivial, by kernel_rfl⟩
   ·
    refine c0 h6 (wp_skip (sq (dn [(4, aI (-1))] (wp_ret ?_))))
    obtain rfl := Option.some.inj hm
    exact ⟨trivial, by kernel_rfl⟩
  ·
   refine c0 h5 (wp_skip ?_)
   refine sq (sq (dn [(0, aI a0), (1, aI a1), (13, aB x3)] ?_))
   rcases bif_some hm with ⟨h7, hm⟩ | ⟨h7, hm⟩
   ·
    refine c1 h7 (sq (dn [(4, aI 1)] (wp_ret ?_)))
    obtain rfl := Option.some.inj hm
    exact ⟨trivial, by kernel_rfl⟩
   ·
    refine c0 h7 (wp_skip (sq (sq (dn [(0, aI a0), (1, aI a1), (16, aB (decide (a0 < a1)))] ?_))))
    rcases bif_some hm with ⟨h8, hm⟩ | ⟨h8, hm⟩
    ·
     refine c1 h8 (sq (dn [(4, aI (-1))] (wp_ret ?_)))
     obtain rfl := Option.some.inj hm
     exact ⟨trivial, by kernel_rfl⟩
    ·
     refine c0 h8 (wp_skip (sq (sq (dn [(19, aB (decide (a0 > a1)))] ?_))))
     rcases bif_some hm with ⟨h9, hm⟩ | ⟨h9, hm⟩
     ·
      refine c1 h9 (sq (dn [(4, aI 1)] (wp_ret ?_)))
      obtain rfl := Option.some.inj hm
      exact ⟨trivial, by kernel_rfl⟩
     ·
      refine c0 h9 (wp_skip (sq (dn [(4, aI 0)] (wp_ret ?_))))
      obtain rfl := Option.some.inj hm
      exact ⟨trivial, by kernel_rfl⟩
theorem ok_value_floats {n : Nat} {a0 : Nat} {a1 : Nat} {r : Int} (hm : value_floats n a0 a1 = some r) :
    call G n 235 [aF a0, aF a1] [] = some (.ret (aI r), []) := by
  unfold value_floats at hm
  obtain ⟨n, rfl, h0⟩ := at1_some hm
  replace hm := h0; clear h0
  refine callL 28 [(0, aF a0), (1, aF a1)] func235 rfl (by kernel_rfl) (sq (dn [(0, aF a0), (1, aF a1)] (sq (sq (rg (s1 1 [(7, aF a0)] ?_))))))
  obtain ⟨x1, h2, hm⟩ := bs hm
  refine dv 8 (cpure (by kernel_rfl) (ok_math_IsNaN h2) (by kernel_rfl) (by kernel_rfl) (by kernel_rfl)) (by kernel_rfl) (s1 1 [(9, aF a1)] ?_)
  obtain ⟨x3, h4, hm⟩ := bs hm
  refine dv 10 (cpure (by kernel_rfl) (ok_math_IsNaN h4) (by kernel_rfl) (by kernel_rfl) (by kernel_rfl)) (by kernel_rfl) (f1 2 [(0, aF a0), (1, aF a1), (5, aB x1), (6, aB x3)] (bq ?_))
  refine sq (rg (s1 2 [(13, aB x1), (12, aB x1)] ?_))
  refine segP x1 [13, 12, 5] (fun b => [(15, aB (b && x3)), (14, ifA b (aB x3) (.undef))]) 2 (by kernel_rfl) (by kernel_rfl) (by kernel_rfl) (f1 1 [(0, aF a0), (1, aF a1), (5, aB x1), (6, aB x3), (11, aB (x1 && x3))] ?_)
  rcases bif_some hm with ⟨h5, hm⟩ | ⟨h5, hm⟩
  ·
   refine c1 h5 (sq (dn [(4, aI 0)] (wp_ret ?_)))
   obtain rfl := Option.some.inj hm
   exact ⟨trivial, by kernel_rfl⟩
  ·
   refine c0 h5 (sq (dn [(0, aF a0), (1, aF a1), (6, aB x3), (16, aB x1)] ?_))
   rcases bif_some hm with ⟨h6, hm⟩ | ⟨h6, hm⟩
   ·
    refine c1 h6 (sq (dn [(4, aI 1)] (wp_ret ?_)))
    obtain rfl := Option.some.inj hm
    exact ⟨trivial, by kernel_rfl⟩
   ·
    refine c0 h6 (sq (dn [(0, aF a0), (1, aF a1), (18, aB x3)] ?_))
    rcases bif_some hm with ⟨h7, hm⟩ | ⟨h7, hm⟩
    ·
     refine c1 h7 (sq (dn [(4, aI (-1))] (wp_ret ?_)))
     obtain rfl := Option.some.inj hm
     exact ⟨trivial, by kernel_rfl⟩
    ·
     refine c0 h7 (sq (dn [(0, aF a0), (1, aF a1), (20, aB ((FloatKind.format .f64).order a0 a1 == some .lt))] ?_))
     rcases bif_some hm with ⟨h8, hm⟩ | ⟨h8, hm⟩
     ·
      refine c1 h8 (sq (dn [(4, aI (-1))] (wp_ret ?_)))
      obtain rfl := Option.some.inj hm
      exact ⟨trivial, by kernel_rfl⟩
     ·
      refine c0 h8 (sq (dn [(24, aB ((FloatKind.format .f64).order a0 a1 == some .gt))] ?_))
      rcases bif_some hm with ⟨h9, hm⟩ | ⟨h9, hm⟩
      ·
       refine c1 h9 (sq (dn [(4, aI 1)] (wp_ret ?_)))
       obtain rfl := Option.some.inj hm
       exact ⟨trivial, by kernel_rfl⟩
      ·
       refine c0 h9 (wp_skip (sq (dn [(4, aI 0)] (wp_ret ?_))))
       obtain rfl := Option.some.inj hm
       exact ⟨trivial, by kernel_rfl⟩
theorem ok_cmp_isNaN_string {n : Nat} {a0 : ByteArray} {r : Bool} (hm : cmp_isNaN_string n a0 = some r) :
    call G n 253 [aS a0] [] = some (.ret (aB r), []) := by
  unfold cmp_isNaN_string at hm
  obtain ⟨n, rfl, h0⟩ := at1_some hm
  replace hm := h0; clear h0
  refine callL 6 [(0, aS a0)] func253 rfl (by kernel_rfl) (sq (dn [(0, aS a0)] (sq (dn [(2, aB (!(sEq a0 a0)))] (wp_ret ?_)))))
  obtain rfl := Option.some.inj hm
  exact ⟨trivial, by kernel_rfl⟩
theorem ok_cmp_Compare_string {n : Nat} {a0 : ByteArray} {a1 : ByteArray} {r : Int} (hm : cmp_Compare_string n a0 a1 = some r) :
    call G n 236 [aS a0, aS a1] [] = some (.ret (aI r), []) := by
  unfold cmp_Compare_string at hm
  obtain ⟨n, rfl, h0⟩ := at1_some hm
  replace hm := h0; clear h0
  refine callL 20 [(0, aS a0), (1, aS a1)] func236 rfl (by kernel_rfl) (sq (dn [(0, aS a0), (1, aS a1)] (sq (rg (s1 1 [(7, aS a0)] ?_)))))
  obtain ⟨x1, h2, hm⟩ := bs hm
  refine dv 8 (cpure (by kernel_rfl) (ok_cmp_isNaN_string h2) (by kernel_rfl) (by kernel_rfl) (by kernel_rfl)) (by kernel_rfl) (f1 1 [(0, aS a0), (1, aS a1), (5, aB x1)] (sq (rg (s1 1 [(9, aS a1)] ?_))))
  obtain ⟨x3, h4, hm⟩ := bs hm
  refine dv 10 (cpure (by kernel_rfl) (ok_cmp_isNaN_string h4) (by kernel_rfl) (by kernel_rfl) (by kernel_rfl)) (by kernel_rfl) (f1 1 [(0, aS a0), (1, aS a1), (5, aB x1), (6, aB x3)] ?_)
  refine sq (sq (dn [(0, aS a0), (1, aS a1), (6, aB x3), (11, aB x1)] ?_))
  rcases bif_some hm with ⟨h5, hm⟩ | ⟨h5, hm⟩
  ·
   refine c1 h5 (sq (sq (dn [(12, aB x3)] ?_)))
   rcases bif_some hm with ⟨h6, hm⟩ | ⟨h6, hm⟩
   ·
    refine c1 h6 (sq (dn [(4, aI 0)] (wp_ret ?_)))
    obtain rfl := Option.some.inj hm
    exact ⟨trivial, by kernel_rfl⟩
   ·
    refine c0 h6 (wp_skip (sq (dn [(4, aI (-1))] (wp_ret ?_))))
    obtain rfl := Option.some.inj hm
    exact ⟨trivial, by kernel_rfl⟩
  ·
   refine c0 h5 (wp_skip ?_)
   refine sq (sq (dn [(0, aS a0), (1, aS a1), (13, aB x3)] ?_))
   rcases bif_some hm with ⟨h7, hm⟩ | ⟨h7, hm⟩
   ·
    refine c1 h7 (sq (dn [(4, aI 1)] (wp_ret ?_)))
    obtain rfl := Option.some.inj hm
    exact ⟨trivial, by kernel_rfl⟩
   ·
    refine c0 h7 (wp_skip (sq (sq (dn [(0, aS a0), (1, aS a1), (16, aB (sLt a0 a1))] ?_))))
    rcases bif_some hm with ⟨h8, hm⟩ | ⟨h8, hm⟩
    ·
     refine c1 h8 (sq (dn [(4, aI (-1))] (wp_ret ?_)))
     obtain rfl := Option.some.inj hm
     exact ⟨trivial, by kernel_rfl⟩
    ·
     refine c0 h8 (wp_skip (sq (sq (dn [(19, aB (!(sLt a0 a1 || sEq a0 a1)))] ?_))))
     rcases bif_some hm with ⟨h9, hm⟩ | ⟨h9, hm⟩
     ·
      refine c1 h9 (sq (dn [(4, aI 1)] (wp_ret ?_)))
      obtain rfl := Option.some.inj hm
      exact ⟨trivial, by kernel_rfl⟩
     ·
      refine c0 h9 (wp_skip (sq (dn [(4, aI 0)] (wp_ret ?_))))
      obtain rfl := Option.some.inj hm
      exact ⟨trivial, by kernel_rfl⟩
theorem ok_cmp_isNaN_int64 {n : Nat} {a0 : Int} {r : Bool} (hm : cmp_isNaN_int64 n a0 = some r) :
    call G n 254 [aI a0] [] = some (.ret (aB r), []) := by
  unfold cmp_isNaN_int64 at hm
  obtain ⟨n, rfl, h0⟩ := at1_some hm
  replace hm := h0; clear h0
  refine callL 6 [(0, aI a0)] func254 rfl (by kernel_rfl) (sq (dn [(0, aI a0)] (sq (dn [(2, aB (a0 != a0))] (wp_ret ?_)))))
  obtain rfl := Option.some.inj hm
  exact ⟨trivial, by kernel_rfl⟩
theorem ok_cmp_Compare_int64 {n : Nat} {a0 : Int} {a1 : Int} {r : Int} (hm : cmp_Compare_int64 n a0 a1 = some r) :
    call G n 237 [aI a0, aI a1] [] = some (.ret (aI r), []) := by
  unfold cmp_Compare_int64 at hm
  obtain ⟨n, rfl, h0⟩ := at1_some hm
  replace hm := h0; clear h0
  refine callL 20 [(0, aI a0), (1, aI a1)] func237 rfl (by kernel_rfl) (sq (dn [(0, aI a0), (1, aI a1)] (sq (rg (s1 1 [(7, aI a0)] ?_)))))
  obtain ⟨x1, h2, hm⟩ := bs hm
  refine dv 8 (cpure (by kernel_rfl) (ok_cmp_isNaN_int64 h2) (by kernel_rfl) (by kernel_rfl) (by kernel_rfl)) (by kernel_rfl) (f1 1 [(0, aI a0), (1, aI a1), (5, aB x1)] (sq (rg (s1 1 [(9, aI a1)] ?_))))
  obtain ⟨x3, h4, hm⟩ := bs hm
  refine dv 10 (cpure (by kernel_rfl) (ok_cmp_isNaN_int64 h4) (by kernel_rfl) (by kernel_rfl) (by kernel_rfl)) (by kernel_rfl) (f1 1 [(0, aI a0), (1, aI a1), (5, aB x1), (6, aB x3)] ?_)
  refine sq (sq (dn [(0, aI a0), (1, aI a1), (6, aB x3), (11, aB x1)] ?_))
  rcases bif_some hm with ⟨h5, hm⟩ | ⟨h5, hm⟩
  ·
   refine c1 h5 (sq (sq (dn [(12, aB x3)] ?_)))
   rcases bif_some hm with ⟨h6, hm⟩ | ⟨h6, hm⟩
   ·
    refine c1 h6 (sq (dn [(4, aI 0)] (wp_ret ?_)))
    obtain rfl := Option.some.inj hm
    exact ⟨trivial, by kernel_rfl⟩
   ·
    refine c0 h6 (wp_skip (sq (dn [(4, aI (-1))] (wp_ret ?_))))
    obtain rfl := Option.some.inj hm
    exact ⟨trivial, by kernel_rfl⟩
  ·
   refine c0 h5 (wp_skip ?_)
   refine sq (sq (dn [(0, aI a0), (1, aI a1), (13, aB x3)] ?_))
   rcases bif_some hm with ⟨h7, hm⟩ | ⟨h7, hm⟩
   ·
    refine c1 h7 (sq (dn [(4, aI 1)] (wp_ret ?_)))
    obtain rfl := Option.some.inj hm
    exact ⟨trivial, by kernel_rfl⟩
   ·
    refine c0 h7 (wp_skip (sq (sq (dn [(0, aI a0), (1, aI a1), (16, aB (decide (a0 < a1)))] ?_))))
    rcases bif_some hm with ⟨h8, hm⟩ | ⟨h8, hm⟩
    ·
     refine c1 h8 (sq (dn [(4, aI (-1))] (wp_ret ?_)))
     obtain rfl := Option.some.inj hm
     exact ⟨trivial, by kernel_rfl⟩
    ·
     refine c0 h8 (wp_skip (sq (sq (dn [(19, aB (decide (a0 > a1)))] ?_))))
     rcases bif_some hm with ⟨h9, hm⟩ | ⟨h9, hm⟩
     ·
      refine c1 h9 (sq (dn [(4, aI 1)] (wp_ret ?_)))
      obtain rfl := Option.some.inj hm
      exact ⟨trivial, by kernel_rfl⟩
     ·
      refine c0 h9 (wp_skip (sq (dn [(4, aI 0)] (wp_ret ?_))))
      obtain rfl := Option.some.inj hm
      exact ⟨trivial, by kernel_rfl⟩
theorem ok_value_Cmp {n : Nat} {a0 : api_Value} {a1 : api_Value} {r : Int} (hm : value_Cmp n a0 a1 = some r) :
    call G n 195 [.agg [aI a0.fKind, aI a0.fInt, aF a0.fFloat, aS a0.fText], .agg [aI a1.fKind, aI a1.fInt, aF a1.fFloat, aS a1.fText]] [] = some (.ret (aI r), []) := by
  unfold value_Cmp at hm
  obtain ⟨n, rfl, h0⟩ := at1_some hm
  replace hm := h0; clear h0
  refine callL 40 [(0, .agg [aI a0.fKind, aI a0.fInt, aF a0.fFloat, aS a0.fText]), (1, .agg [aI a1.fKind, aI a1.fInt, aF a1.fFloat, aS a1.fText])] func195 rfl (by kernel_rfl) (sq (det [(2, .ptr 0 0), (3, .ptr 1 0)] [.box [aI a0.fKind, aI a0.fInt, aF a0.fFloat, aS a0.fText] false, .box [aI a1.fKind, aI a1.fInt, aF a1.fFloat, aS a1.fText] false] (by kernel_rfl) (sq (rgd (shd 1 [(5, .agg [aI a0.fKind, aI a0.fInt, aF a0.fFloat, aS a0.fText])] (by kernel_rfl) ?_)))))
  obtain ⟨x1, h2, hm⟩ := bs hm
  refine dvd 6 (cpure (by kernel_rfl) (ok_value_Plain h2) (by kernel_rfl) (by kernel_rfl) (by kernel_rfl)) (by kernel_rfl) (shd 1 [(7, .agg [aI a1.fKind, aI a1.fInt, aF a1.fFloat, aS a1.fText])] (by kernel_rfl) ?_)
  obtain ⟨x3, h4, hm⟩ := bs hm
  refine dvd 8 (cpure (by kernel_rfl) (ok_value_Plain h4) (by kernel_rfl) (by kernel_rfl) (by kernel_rfl)) (by kernel_rfl) (std 2 [] [.box [aI x1.fKind, aI x1.fInt, aF x1.fFloat, aS x1.fText] false, .box [aI x3.fKind, aI x3.fInt, aF x3.fFloat, aS x3.fText] false] (by kernel_rfl) (find [(2, .ptr 0 0), (3, .ptr 1 0)] rfl (by kernel_rfl) (by kernel_rfl) ?_))
  refine sq (sq (dn [(2, .ptr 0 0), (3, .ptr 1 0), (13, aB (x1.fKind != x3.fKind))] ?_))
  rcases bif_some hm with ⟨h5, hm⟩ | ⟨h5, hm⟩
  ·
   refine c1 h5 (sq (rg (s1 4 [(17, aI x3.fKind), (16, .ptr 1 0), (15, aI x1.fKind), (14, .ptr 0 0)] ?_)))
   obtain ⟨x6, h7, hm⟩ := bs hm
   refine dv 18 (cpure (by kernel_rfl) (ok_cmp_Compare_int h7) (by kernel_rfl) (by kernel_rfl) (by kernel_rfl)) (by kernel_rfl) (f1 1 [(4, aI x6)] (wp_ret ?_))
   obtain rfl := Option.some.inj hm
   exact ⟨trivial, by kernel_rfl⟩
  ·
   refine c0 h5 (wp_skip (sq (sq (dn [(2, .ptr 0 0), (3, .ptr 1 0), (20, aI x1.fKind)] (bq (sq (dn [(2, .ptr 0 0), (3, .ptr 1 0), (20, aI x1.fKind), (21, aB (x1.fKind == 3))] ?_)))))))
   rcases bif_some hm with ⟨h8, hm⟩ | ⟨h8, hm⟩
   ·
    refine c1 h8 (sq (rg (s1 4 [(26, aF x3.fFloat), (25, .ptr 1 2), (24, aF x1.fFloat), (23, .ptr 0 2)] ?_)))
    obtain ⟨x9, h10, hm⟩ := bs hm
    refine dv 27 (cpure (by kernel_rfl) (ok_value_floats h10) (by kernel_rfl) (by kernel_rfl) (by kernel_rfl)) (by kernel_rfl) (f1 1 [(4, aI x9)] (wp_ret ?_))
    obtain rfl := Option.some.inj hm
    exact ⟨trivial, by kernel_rfl⟩
   ·
    refine c0 h8 (sq (dn [(2, .ptr 0 0), (3, .ptr 1 0), (28, aB (x1.fKind == 4))] ?_))
    rcases bif_some hm with ⟨h11, hm⟩ | ⟨h11, hm⟩
    ·
     refine c1 h11 (sq (rg (s1 4 [(33, aS x3.fText), (32, .ptr 1 3), (31, aS x1.fText), (30, .ptr 0 3)] ?_)))
     obtain ⟨x12, h13, hm⟩ := bs hm
     refine dv 34 (cpure (by kernel_rfl) (ok_cmp_Compare_string h13) (by kernel_rfl) (by kernel_rfl) (by kernel_rfl)) (by kernel_rfl) (f1 1 [(4, aI x12)] (wp_ret ?_))
     obtain rfl := Option.some.inj hm
     exact ⟨trivial, by kernel_rfl⟩
    ·
     refine c0 h11 (wp_skip (sq (rg (s1 4 [(38, aI x3.fInt), (37, .ptr 1 1), (36, aI x1.fInt), (35, .ptr 0 1)] ?_))))
     obtain ⟨x14, h15, hm⟩ := bs hm
     refine dv 39 (cpure (by kernel_rfl) (ok_cmp_Compare_int64 h15) (by kernel_rfl) (by kernel_rfl) (by kernel_rfl)) (by kernel_rfl) (f1 1 [(4, aI x14)] (wp_ret ?_))
     obtain rfl := Option.some.inj hm
     exact ⟨trivial, by kernel_rfl⟩
theorem ok_hist_sound {n : Nat} {a0 : hist_Bucket} {r : Bool} (hm : hist_sound n a0 = some r) :
    call G n 265 [.agg [aI a0.fLow.fKind, aI a0.fLow.fInt, aF a0.fLow.fFloat, aS a0.fLow.fText, aI a0.fHigh.fKind, aI a0.fHigh.fInt, aF a0.fHigh.fFloat, aS a0.fHigh.fText, aI a0.fCount, aI a0.fDistinct]] [] = some (.ret (aB r), []) := by
  unfold hist_sound at hm
  obtain ⟨n, rfl, h0⟩ := at1_some hm
  replace hm := h0; clear h0
  refine callL 60 [(0, .agg [aI a0.fLow.fKind, aI a0.fLow.fInt, aF a0.fLow.fFloat, aS a0.fLow.fText, aI a0.fHigh.fKind, aI a0.fHigh.fInt, aF a0.fHigh.fFloat, aS a0.fHigh.fText, aI a0.fCount, aI a0.fDistinct])] func265 rfl (by kernel_rfl) (sq (det [(1, .ptr 0 0)] [.box [aI a0.fLow.fKind, aI a0.fLow.fInt, aF a0.fLow.fFloat, aS a0.fLow.fText, aI a0.fHigh.fKind, aI a0.fHigh.fInt, aF a0.fHigh.fFloat, aS a0.fHigh.fText, aI a0.fCount, aI a0.fDistinct] false] (by kernel_rfl) ?_))
  refine sq (sq (rg (s1 2 [(5, .agg [aI a0.fLow.fKind, aI a0.fLow.fInt, aF a0.fLow.fFloat, aS a0.fLow.fText]), (4, .ptr 0 0)] ?_)))
  obtain ⟨x1, h2, hm⟩ := bs hm
  refine dv 6 (cpure (by kernel_rfl) (ok_hist_plain h2) (by kernel_rfl) (by kernel_rfl) (by kernel_rfl)) (by kernel_rfl) (s1 2 [(8, aB (!x1)), (7, aB (!x1))] ?_)
  rcases bif_some hm with ⟨h3, hm⟩ | ⟨h3, hm⟩
  ·
   refine known [8, 7] h3 (by kernel_rfl) (f1 14 [(1, .ptr 0 0), (22, aB true)] (cT (by kernel_rfl) (sq (dn [(2, aB false)] (wp_ret ?_)))))
   obtain rfl := Option.some.inj hm
   exact ⟨trivial, by kernel_rfl⟩
  ·
   refine known [8, 7] h3 (by kernel_rfl) (s1 2 [(10, .agg [aI a0.fHigh.fKind, aI a0.fHigh.fInt, aF a0.fHigh.fFloat, aS a0.fHigh.fText]), (9, .ptr 0 4)] ?_)
   obtain ⟨x4, h5, hm⟩ := bs hm
   refine dv 11 (cpure (by kernel_rfl) (ok_hist_plain h5) (by kernel_rfl) (by kernel_rfl) (by kernel_rfl)) (by kernel_rfl) (s1 3 [(14, aB (!x4)), (13, aB (!x4)), (12, aB (!x4))] ?_)
   refine segP (!x4) [14, 13, 12] (fun b => [(22, aB (b || (a0.fLow.fKind != a0.fHigh.fKind))), (21, ifA b (.undef) (aB (a0.fLow.fKind != a0.fHigh.fKind))), (20, ifA b (.undef) (aI a0.fHigh.fKind)), (19, ifA b (.undef) (.ptr 0 4)), (18, ifA b (.undef) (.ptr 0 4)), (17, ifA b (.undef) (aI a0.fLow.fKind)), (16, ifA b (.undef) (.ptr 0 0)), (15, ifA b (.undef) (.ptr 0 0))]) 8 (by kernel_rfl) (by kernel_rfl) (by kernel_rfl) (fin [(1, .ptr 0 0), (22, aB ((!x4) || (a0.fLow.fKind != a0.fHigh.fKind)))] rfl (by kernel_rfl) ?_)
   rcases bif_some hm with ⟨h6, hm⟩ | ⟨h6, hm⟩
   ·
    refine c1 h6 (sq (dn [(2, aB false)] (wp_ret ?_)))
    obtain rfl := Option.some.inj hm
    exact ⟨trivial, by kernel_rfl⟩
   ·
    refine c0 h6 (wp_skip (sq (rg (s1 4 [(26, .agg [aI a0.fHigh.fKind, aI a0.fHigh.fInt, aF a0.fHigh.fFloat, aS a0.fHigh.fText]), (25, .ptr 0 4), (24, .agg [aI a0.fLow.fKind, aI a0.fLow.fInt, aF a0.fLow.fFloat, aS a0.fLow.fText]), (23, .ptr 0 0)] ?_))))
    obtain ⟨x7, h8, hm⟩ := bs hm
    refine dv 27 (cpure (by kernel_rfl) (ok_value_Cmp h8) (by kernel_rfl) (by kernel_rfl) (by kernel_rfl)) (by kernel_rfl) (f1 1 [(1, .ptr 0 0), (3, aI x7)] (sq (rg (s1 3 [(30, aB (decide (x7 ≤ 0))), (29, aB (decide (x7 ≤ 0))), (28, aI x7)] ?_))))
    refine segP (decide (x7 ≤ 0)) [30, 29] (fun b => [(34, aB (b && (decide (a0.fCount ≥ 1)))), (33, ifA b (aB (decide (a0.fCount ≥ 1))) (.undef)), (32, ifA b (aI a0.fCount) (.undef)), (31, ifA b (.ptr 0 8) (.undef))]) 4 (by kernel_rfl) (by kernel_rfl) (by kernel_rfl) (s1 1 [(35, aB ((decide (x7 ≤ 0)) && (decide (a0.fCount ≥ 1))))] ?_)
    refine segP ((decide (x7 ≤ 0)) && (decide (a0.fCount ≥ 1))) [35, 34] (fun b => [(39, aB (b && (decide (a0.fCount ≤ 1000000)))), (38, ifA b (aB (decide (a0.fCount ≤ 1000000))) (.undef)), (37, ifA b (aI a0.fCount) (.undef)), (36, ifA b (.ptr 0 8) (.undef))]) 4 (by kernel_rfl) (by kernel_rfl) (by kernel_rfl) (s1 1 [(40, aB (((decide (x7 ≤ 0)) && (decide (a0.fCount ≥ 1))) && (decide (a0.fCount ≤ 1000000))))] ?_)
    refine segP (((decide (x7 ≤ 0)) && (decide (a0.fCount ≥ 1))) && (decide (a0.fCount ≤ 1000000))) [40, 39] (fun b => [(44, aB (b && (decide (a0.fDistinct ≥ 1)))), (43, ifA b (aB (decide (a0.fDistinct ≥ 1))) (.undef)), (42, ifA b (aI a0.fDistinct) (.undef)), (41, ifA b (.ptr 0 9) (.undef))]) 4 (by kernel_rfl) (by kernel_rfl) (by kernel_rfl) (s1 1 [(45, aB ((((decide (x7 ≤ 0)) && (decide (a0.fCount ≥ 1))) && (decide (a0.fCount ≤ 1000000))) && (decide (a0.fDistinct ≥ 1))))] ?_)
    refine segP ((((decide (x7 ≤ 0)) && (decide (a0.fCount ≥ 1))) && (decide (a0.fCount ≤ 1000000))) && (decide (a0.fDistinct ≥ 1))) [45, 44] (fun b => [(51, aB (b && (decide (a0.fDistinct ≤ a0.fCount)))), (50, ifA b (aB (decide (a0.fDistinct ≤ a0.fCount))) (.undef)), (49, ifA b (aI a0.fCount) (.undef)), (48, ifA b (.ptr 0 8) (.undef)), (47, ifA b (aI a0.fDistinct) (.undef)), (46, ifA b (.ptr 0 9) (.undef))]) 6 (by kernel_rfl) (by kernel_rfl) (by kernel_rfl) (s1 1 [(52, aB (((((decide (x7 ≤ 0)) && (decide (a0.fCount ≥ 1))) && (decide (a0.fCount ≤ 1000000))) && (decide (a0.fDistinct ≥ 1))) && (decide (a0.fDistinct ≤ a0.fCount))))] ?_)
    refine segP (((((decide (x7 ≤ 0)) && (decide (a0.fCount ≥ 1))) && (decide (a0.fCount ≤ 1000000))) && (decide (a0.fDistinct ≥ 1))) && (decide (a0.fDistinct ≤ a0.fCount))) [52, 51] (fun b => [(59, aB (b && ((x7 == 0) == (a0.fDistinct == 1)))), (58, ifA b (aB ((x7 == 0) == (a0.fDistinct == 1))) (.undef)), (57, ifA b (aB (a0.fDistinct == 1)) (.undef)), (56, ifA b (aI a0.fDistinct) (.undef)), (55, ifA b (.ptr 0 9) (.undef)), (54, ifA b (aB (x7 == 0)) (.undef)), (53, ifA b (aI x7) (.undef))]) 7 (by kernel_rfl) (by kernel_rfl) (by kernel_rfl) (f1 1 [(2, aB ((((((decide (x7 ≤ 0)) && (decide (a0.fCount ≥ 1))) && (decide (a0.fCount ≤ 1000000))) && (decide (a0.fDistinct ≥ 1))) && (decide (a0.fDistinct ≤ a0.fCount))) && ((x7 == 0) == (a0.fDistinct == 1))))] (wp_ret ?_))
    obtain rfl := Option.some.inj hm
    exact ⟨trivial, by kernel_rfl⟩
theorem ok_hist_Right {n : Nat} {a0 : (Option (List hist_Bucket))} {r : Bool} (hm : hist_Right n a0 = some r) :
    call G n 255 [.pv (encSl R_hist_Bucket a0)] [] = some (.ret (aB r), []) := by
  unfold hist_Right at hm
  obtain ⟨n, rfl, h0⟩ := at1_some hm
  replace hm := h0; clear h0
  refine callL 46 [(0, .pv (encSl R_hist_Bucket a0))] func255 rfl (by kernel_rfl) (sq (dn [(0, .pv (encSl R_hist_Bucket a0))] ?_))
  refine sq (sq (rg (s1 1 [(5, .pv (encSl R_hist_Bucket a0))] (dv 6 (v := aI ((sll a0).length : Int)) (len_slO R_hist_Bucket a0 t150 (by kernel_rfl)) (by kernel_rfl) (f1 1 [(0, .pv (encSl R_hist_Bucket a0)), (7, aB (decide (((sll a0).length : Int) > 50)))] ?_)))))
  rcases bif_some hm with ⟨h1, hm⟩ | ⟨h1, hm⟩
  ·
   refine c1 h1 (sq (dn [(2, aB false)] (wp_ret ?_)))
   obtain rfl := Option.some.inj hm
   exact ⟨trivial, by kernel_rfl⟩
  ·
   refine c0 h1 (wp_skip ?_)
   obtain ⟨k4, hk4, hm⟩ := withK_some hm
   refine mid (fun t H => (∃ (y2 : Int) (y3 : Bool), k4 () = some r ∧ t = mk 46 [(0, .pv (encSl R_hist_Bucket a0)), (8, .pv (encSl R_hist_Bucket a0)), (9, aI ((sll a0).length : Int)), (10, aI y2), (11, aB y3)] ∧ H = [])) ?_ ?_
   ·
    rintro _ _ ⟨y2, y3, hm, rfl, rfl⟩
    subst hk4
    refine sq (dn [(2, aB true)] (wp_ret ?_))
    obtain rfl := Option.some.inj hm
    exact ⟨trivial, by kernel_rfl⟩
   refine sq (rg (s1 1 [(8, .pv (encSl R_hist_Bucket a0))] (dv 9 (v := aI ((sll a0).length : Int)) (len_slO R_hist_Bucket a0 t150 (by kernel_rfl)) (by kernel_rfl) (f1 1 [(0, .pv (encSl R_hist_Bucket a0)), (8, .pv (encSl R_hist_Bucket a0)), (9, aI ((sll a0).length : Int)), (10, aI 0)] (bq ?_)))))
   refine loopF (fun mm t H => (∃ (y6 : Int), hist_Right_l4 n a0 k4 mm y6 = some r ∧ t = mk 46 [(0, .pv (encSl R_hist_Bucket a0)), (8, .pv (encSl R_hist_Bucket a0)), (9, aI ((sll a0).length : Int)), (10, aI y6)] ∧ H = [])) (⟨0, hm, rfl, rfl⟩) ?_ ?_
   · rintro _ _ ⟨y6, hm, _⟩; exact nomatch hm
   rintro m7 _ _ ⟨y6, hm, rfl, rfl⟩
   simp only [hist_Right_l4] at hm
   refine sq (dn [(0, .pv (encSl R_hist_Bucket a0)), (8, .pv (encSl R_hist_Bucket a0)), (9, aI ((sll a0).length : Int)), (10, aI y6), (11, aB (decide (y6 < ((sll a0).length : Int))))] ?_)
   refine sq ?_
   rcases bif_some hm with ⟨h8, hm⟩ | ⟨h8, hm⟩
   ·
    refine c1 h8 (wp_skip (sq (bq (sq (rg (s1 1 [(12, aI y6)] ?_))))))
    obtain ⟨x9, h10, hm⟩ := bs hm
    refine dv 13 (v := .pv (.ptr (R_hist_Bucket x9) 0)) (ia_slO R_hist_Bucket a0 .i64 t150 t247 h10 rfl (by kernel_rfl)) (by kernel_rfl) (stf 4 [(0, .pv (encSl R_hist_Bucket a0)), (3, aI y6), (4, .ptr 0 0), (8, .pv (encSl R_hist_Bucket a0)), (9, aI ((sll a0).length : Int)), (10, aI y6)] [.box [aI x9.fLow.fKind, aI x9.fLow.fInt, aF x9.fLow.fFloat, aS x9.fLow.fText, aI x9.fHigh.fKind, aI x9.fHigh.fInt, aF x9.fHigh.fFloat, aS x9.fHigh.fText, aI x9.fCount, aI x9.fDistinct] false] (by kernel_rfl) (sq (rgd (shd 1 [(15, .agg [aI x9.fLow.fKind, aI x9.fLow.fInt, aF x9.fLow.fFloat, aS x9.fLow.fText, aI x9.fHigh.fKind, aI x9.fHigh.fInt, aF x9.fHigh.fFloat, aS x9.fHigh.fText, aI x9.fCount, aI x9.fDistinct])] (by kernel_rfl) ?_))))
    obtain ⟨x11, h12, hm⟩ := bs hm
    refine dvd 16 (cpure (by kernel_rfl) (ok_hist_sound h12) (by kernel_rfl) (by kernel_rfl) (by kernel_rfl)) (by kernel_rfl) (shd 2 [(18, aB (!x11)), (17, aB (!x11))] (by kernel_rfl) ?_)
    rcases bif_some hm with ⟨h13, hm⟩ | ⟨h13, hm⟩
    ·
     refine knownd [18, 17] h13 (by kernel_rfl) (shd 26 [(44, aB true), (43, .undef), (42, .undef), (41, .undef), (40, .undef), (39, .undef), (38, .undef), (37, .undef), (36, .undef), (35, .undef), (34, .undef), (33, .undef), (32, .undef), (31, .undef), (30, .undef), (29, .undef), (28, .undef), (27, .undef), (26, .undef), (25, .undef), (24, .undef), (23, .undef), (22, .undef), (21, .undef), (20, .undef), (19, .undef)] (by kernel_rfl) (find [(0, .pv (encSl R_hist_Bucket a0)), (8, .pv (encSl R_hist_Bucket a0)), (9, aI ((sll a0).length : Int)), (10, aI y6), (44, aB true)] rfl (by kernel_rfl) (by kernel_rfl) (cT (by kernel_rfl) (sq (dn [(2, aB false)] (wp_ret ?_))))))
     obtain rfl := Option.some.inj hm
     exact ⟨trivial, by kernel_rfl⟩
    ·
     refine knownd [18, 17] h13 (by kernel_rfl) (shd 3 [(21, aB (decide (y6 > 0))), (20, aB (decide (y6 > 0))), (19, aI y6)] (by kernel_rfl) ?_)
     rcases bif_some hm with ⟨h14, hm⟩ | ⟨h14, hm⟩
     ·
      refine knownd [21, 20] h14 (by kernel_rfl) (shd 4 [(25, .pv (encSl R_hist_Bucket a0)), (24, aI x9.fLow.fKind), (23, .ptr 0 0), (22, .ptr 0 0)] (by kernel_rfl) ?_)
      obtain ⟨x15, h16, hm⟩ := bs hm
      refine dvd 26 (v := .pv (.ptr (R_hist_Bucket x15) 0)) (ia_slO R_hist_Bucket a0 .i64 t150 t247 h16 rfl (by kernel_rfl)) (by kernel_rfl) (shd 5 [(31, aB (x9.fLow.fKind != x15.fLow.fKind)), (30, aB (x9.fLow.fKind != x15.fLow.fKind)), (29, aI x15.fLow.fKind), (28, .pv (.ptr (R_hist_Bucket x15) 0)), (27, .pv (.ptr (R_hist_Bucket x15) 0))] (by kernel_rfl) ?_)
      rcases bif_some hm with ⟨h17, hm⟩ | ⟨h17, hm⟩
      ·
       refine knownd [31, 30] h17 (by kernel_rfl) (shd 13 [(44, aB true), (43, aB true), (42, aB true), (41, .undef), (40, .undef), (39, .undef), (38, .undef), (37, .undef), (36, .undef), (35, .undef), (34, .undef), (33, .undef), (32, .undef)] (by kernel_rfl) (find [(0, .pv (encSl R_hist_Bucket a0)), (8, .pv (encSl R_hist_Bucket a0)), (9, aI ((sll a0).length : Int)), (10, aI y6), (44, aB true)] rfl (by kernel_rfl) (by kernel_rfl) (cT (by kernel_rfl) (sq (dn [(2, aB false)] (wp_ret ?_))))))
       obtain rfl := Option.some.inj hm
       exact ⟨trivial, by kernel_rfl⟩
      ·
       refine knownd [31, 30] h17 (by kernel_rfl) (shd 3 [(34, aI (IntKind.wrap .i64 (y6 - 1))), (33, aI y6), (32, .pv (encSl R_hist_Bucket a0))] (by kernel_rfl) ?_)
       obtain ⟨x18, h19, hm⟩ := bs hm
       refine dvd 35 (v := .pv (.ptr (R_hist_Bucket x18) 0)) (ia_slO R_hist_Bucket a0 .i64 t150 t247 h19 rfl (by kernel_rfl)) (by kernel_rfl) (shd 4 [(39, .agg [aI x9.fLow.fKind, aI x9.fLow.fInt, aF x9.fLow.fFloat, aS x9.fLow.fText]), (38, .ptr 0 0), (37, .agg [aI x18.fHigh.fKind, aI x18.fHigh.fInt, aF x18.fHigh.fFloat, aS x18.fHigh.fText]), (36, .pv (.ptr (R_hist_Bucket x18) 4))] (by kernel_rfl) ?_)
       obtain ⟨x20, h21, hm⟩ := bs hm
       refine dvd 40 (cpure (by kernel_rfl) (ok_value_Cmp h21) (by kernel_rfl) (by kernel_rfl) (by kernel_rfl)) (by kernel_rfl) (shd 4 [(44, aB (decide (x20 ≥ 0))), (43, aB (decide (x20 ≥ 0))), (42, aB (decide (x20 ≥ 0))), (41, aB (decide (x20 ≥ 0)))] (by kernel_rfl) (find [(0, .pv (encSl R_hist_Bucket a0)), (8, .pv (encSl R_hist_Bucket a0)), (9, aI ((sll a0).length : Int)), (10, aI y6), (44, aB (decide (x20 ≥ 0)))] rfl (by kernel_rfl) (by kernel_rfl) ?_))
       rcases bif_some hm with ⟨h22, hm⟩ | ⟨h22, hm⟩
       ·
        refine c1 h22 (sq (dn [(2, aB false)] (wp_ret ?_)))
        obtain rfl := Option.some.inj hm
        exact ⟨trivial, by kernel_rfl⟩
       ·
        refine c0 h22 (wp_skip (dn [(0, .pv (encSl R_hist_Bucket a0)), (8, .pv (encSl R_hist_Bucket a0)), (9, aI ((sll a0).length : Int)), (10, aI (IntKind.wrap .i64 (y6 + 1)))] ?_))
        exact ⟨_, _, tidyL [(0, .pv (encSl R_hist_Bucket a0)), (8, .pv (encSl R_hist_Bucket a0)), (9, aI ((sll a0).length : Int)), (10, aI (IntKind.wrap .i64 (y6 + 1)))] [] (by kernel_rfl), ⟨(IntKind.wrap .i64 (y6 + 1)), hm, rfl, rfl⟩⟩
     ·
      refine knownd [21, 20] h14 (by kernel_rfl) (shd 23 [(44, aB false), (43, aB false), (42, .undef), (41, .undef), (40, .undef), (39, .undef), (38, .undef), (37, .undef), (36, .undef), (35, .undef), (34, .undef), (33, .undef), (32, .undef), (31, .undef), (30, .undef), (29, .undef), (28, .undef), (27, .undef), (26, .undef), (25, .undef), (24, .undef), (23, .undef), (22, .undef)] (by kernel_rfl) (find [(0, .pv (encSl R_hist_Bucket a0)), (8, .pv (encSl R_hist_Bucket a0)), (9, aI ((sll a0).length : Int)), (10, aI y6), (44, aB false)] rfl (by kernel_rfl) (by kernel_rfl) (cF (by kernel_rfl) (wp_skip (dn [(0, .pv (encSl R_hist_Bucket a0)), (8, .pv (encSl R_hist_Bucket a0)), (9, aI ((sll a0).length : Int)), (10, aI (IntKind.wrap .i64 (y6 + 1)))] ?_)))))
      exact ⟨_, _, tidyL [(0, .pv (encSl R_hist_Bucket a0)), (8, .pv (encSl R_hist_Bucket a0)), (9, aI ((sll a0).length : Int)), (10, aI (IntKind.wrap .i64 (y6 + 1)))] [] (by kernel_rfl), ⟨(IntKind.wrap .i64 (y6 + 1)), hm, rfl, rfl⟩⟩
   ·
    refine c0 h8 (wp_exit ?_)
    exact ⟨y6, (decide (y6 < ((sll a0).length : Int))), hm, rfl, rfl⟩
theorem ok_hist_Total {n : Nat} {a0 : (Option (List hist_Bucket))} {r : Int} (hm : hist_Total n a0 = some r) :
    call G n 256 [.pv (encSl R_hist_Bucket a0)] [] = some (.ret (aI r), []) := by
  unfold hist_Total at hm
  obtain ⟨n, rfl, h0⟩ := at1_some hm
  replace hm := h0; clear h0
  refine callL 20 [(0, .pv (encSl R_hist_Bucket a0))] func256 rfl (by kernel_rfl) (sq (dn [(0, .pv (encSl R_hist_Bucket a0))] (sq (dn [(0, .pv (encSl R_hist_Bucket a0)), (3, aI 0)] ?_))))
  obtain ⟨k8, hk8, hm⟩ := withK_some hm
  refine mid (fun t H => (∃ (y7 : Int) (w1 : AV) (w2 : AV) (w3 : AV) (w4 : AV) (w5 : AV) (w6 : AV), k8 y7 = some r ∧ t = mk 20 [(0, w1), (3, aI y7), (7, w2), (8, w3), (9, w4), (10, w5), (11, w6)] ∧ H = [])) ?_ ?_
  ·
   rintro _ _ ⟨y7, w1, w2, w3, w4, w5, w6, hm, rfl, rfl⟩
   subst hk8
   refine sq (dn [(2, aI y7)] (wp_ret ?_))
   obtain rfl := Option.some.inj hm
   exact ⟨trivial, by kernel_rfl⟩
  refine sq (rg (s1 1 [(6, .pv (encSl R_hist_Bucket a0))] ?_))
  obtain ⟨x9, h10, hm⟩ := bs hm
  refine dv 7 (cpure (by kernel_rfl) (ok_hist_Right h10) (by kernel_rfl) (by kernel_rfl) (by kernel_rfl)) (by kernel_rfl) (fin [(0, .pv (encSl R_hist_Bucket a0)), (3, aI 0), (7, aB x9)] rfl (by kernel_rfl) ?_)
  rcases bif_some hm with ⟨h11, hm⟩ | ⟨h11, hm⟩
  ·
   refine c1 h11 (sq (rg (s1 1 [(8, .pv (encSl R_hist_Bucket a0))] (dv 9 (v := aI ((sll a0).length : Int)) (len_slO R_hist_Bucket a0 t150 (by kernel_rfl)) (by kernel_rfl) (f1 1 [(3, aI 0), (8, .pv (encSl R_hist_Bucket a0)), (9, aI ((sll a0).length : Int)), (10, aI 0)] (bq ?_))))))
   refine loopF (fun mm t H => (∃ (y14 : Int) (y15 : Int), hist_Total_l4 n a0 k8 mm y14 y15 = some r ∧ t = mk 20 [(3, aI y15), (8, .pv (encSl R_hist_Bucket a0)), (9, aI ((sll a0).length : Int)), (10, aI y14)] ∧ H = [])) (⟨0, 0, hm, rfl, rfl⟩) ?_ ?_
   · rintro _ _ ⟨y14, y15, hm, _⟩; exact nomatch hm
   rintro m16 _ _ ⟨y14, y15, hm, rfl, rfl⟩
   simp only [hist_Total_l4] at hm
   refine sq (dn [(3, aI y15), (8, .pv (encSl R_hist_Bucket a0)), (9, aI ((sll a0).length : Int)), (10, aI y14), (11, aB (decide (y14 < ((sll a0).length : Int))))] ?_)
   refine sq ?_
   rcases bif_some hm with ⟨h17, hm⟩ | ⟨h17, hm⟩
   ·
    refine c1 h17 (wp_skip (sq (bq (sq (rg ?_)))))
    obtain ⟨x18, h19, hm⟩ := bs hm
    refine dv 12 (v := .pv (.ptr (R_hist_Bucket x18) 0)) (ia_slO R_hist_Bucket a0 .i64 t150 t247 h19 rfl (by kernel_rfl)) (by kernel_rfl) (stf 3 [(3, aI y15), (5, .ptr 0 0), (8, .pv (encSl R_hist_Bucket a0)), (9, aI ((sll a0).length : Int)), (10, aI y14)] [.box [aI x18.fLow.fKind, aI x18.fLow.fInt, aF x18.fLow.fFloat, aS x18.fLow.fText, aI x18.fHigh.fKind, aI x18.fHigh.fInt, aF x18.fHigh.fFloat, aS x18.fHigh.fText, aI x18.fCount, aI x18.fDistinct] false] (by kernel_rfl) (dn [(3, aI (IntKind.wrap .i64 (y15 + x18.fCount))), (8, .pv (encSl R_hist_Bucket a0)), (9, aI ((sll a0).length : Int)), (10, aI y14)] (dn [(3, aI (IntKind.wrap .i64 (y15 + x18.fCount))), (8, .pv (encSl R_hist_Bucket a0)), (9, aI ((sll a0).length : Int)), (10, aI (IntKind.wrap .i64 (y14 + 1)))] ?_)))
    exact ⟨_, _, tidyL [(3, aI (IntKind.wrap .i64 (y15 + x18.fCount))), (8, .pv (encSl R_hist_Bucket a0)), (9, aI ((sll a0).length : Int)), (10, aI (IntKind.wrap .i64 (y14 + 1)))] [] (by kernel_rfl), ⟨(IntKind.wrap .i64 (y14 + 1)), (IntKind.wrap .i64 (y15 + x18.fCount)), hm, rfl, rfl⟩⟩
   ·
    refine c0 h17 (wp_exit ?_)
    exact ⟨y15, .any, .any, .pv (encSl R_hist_Bucket a0), aI ((sll a0).length : Int), aI y14, aB (decide (y14 < ((sll a0).length : Int))), hm, (mk_same (by kernel_rfl)), rfl⟩
  ·
   refine c0 h11 (wp_skip ?_)
   exact ⟨0, .pv (encSl R_hist_Bucket a0), aB x9, .any, .any, .any, .any, hm, (mk_same (by kernel_rfl)), rfl⟩
theorem ok_hist_find {n : Nat} {a0 : (Option (List hist_Bucket))} {a1 : api_Value} {r : Int × Int × Bool} (hm : hist_find n a0 a1 = some r) :
    call G n 266 [.pv (encSl R_hist_Bucket a0), .agg [aI a1.fKind, aI a1.fInt, aF a1.fFloat, aS a1.fText]] [] = some (.ret (.tup [aI r.1, aI r.2.1, aB r.2.2]), []) := by
  unfold hist_find at hm
  obtain ⟨n, rfl, h0⟩ := at1_some hm
  replace hm := h0; clear h0
  refine callL 49 [(0, .pv (encSl R_hist_Bucket a0)), (1, .agg [aI a1.fKind, aI a1.fInt, aF a1.fFloat, aS a1.fText])] func266 rfl (by kernel_rfl) (sq (det [(0, .pv (encSl R_hist_Bucket a0)), (3, .ptr 0 0), (5, aI 0)] [.box [aI a1.fKind, aI a1.fInt, aF a1.fFloat, aS a1.fText] false] (by kernel_rfl) (scq ?_)))
  refine sq (sq (rg (s1 1 [(9, .pv (encSl R_hist_Bucket a0))] ?_)))
  obtain ⟨x1, h2, hm⟩ := bs hm
  refine dv 10 (cpure (by kernel_rfl) (ok_hist_Right h2) (by kernel_rfl) (by kernel_rfl) (by kernel_rfl)) (by kernel_rfl) (s1 2 [(12, aB (!x1)), (11, aB (!x1))] ?_)
  rcases bif_some hm with ⟨h3, hm⟩ | ⟨h3, hm⟩
  ·
   refine known [12, 11] h3 (by kernel_rfl) (f1 9 [(0, .pv (encSl R_hist_Bucket a0)), (3, .ptr 0 0), (5, aI 0), (21, aB true)] (cT (by kernel_rfl) (sq (dn [(4, aI 0), (5, aI 0), (6, aB false)] (wp_ret ?_)))))
   obtain rfl := Option.some.inj hm
   exact ⟨trivial, by kernel_rfl⟩
  ·
   refine known [12, 11] h3 (by kernel_rfl) (s1 1 [(13, .agg [aI a1.fKind, aI a1.fInt, aF a1.fFloat, aS a1.fText])] ?_)
   obtain ⟨x4, h5, hm⟩ := bs hm
   refine dv 14 (cpure (by kernel_rfl) (ok_value_Right h5) (by kernel_rfl) (by kernel_rfl) (by kernel_rfl)) (by kernel_rfl) (s1 3 [(17, aB (!x4)), (16, aB (!x4)), (15, aB (!x4))] ?_)
   refine segP (!x4) [17, 16, 15] (fun b => [(21, aB (b || (a1.fKind == 0))), (20, ifA b (.undef) (aB (a1.fKind == 0))), (19, ifA b (.undef) (aI a1.fKind)), (18, ifA b (.undef) (.ptr 0 0))]) 4 (by kernel_rfl) (by kernel_rfl) (by kernel_rfl) (fin [(0, .pv (encSl R_hist_Bucket a0)), (3, .ptr 0 0), (5, aI 0), (21, aB ((!x4) || (a1.fKind == 0)))] rfl (by kernel_rfl) ?_)
   rcases bif_some hm with ⟨h6, hm⟩ | ⟨h6, hm⟩
   ·
    refine c1 h6 (sq (dn [(4, aI 0), (5, aI 0), (6, aB false)] (wp_ret ?_)))
    obtain rfl := Option.some.inj hm
    exact ⟨trivial, by kernel_rfl⟩
   ·
    refine c0 h6 (wp_skip (sq (wp_label ?_)))
    obtain ⟨k14, hk14, hm⟩ := withK_some hm
    refine mid (fun t H => (∃ (y13 : Int) (w7 : AV) (w8 : AV) (w9 : AV) (w10 : AV) (w11 : AV) (w12 : Blk), k14 y13 = some r ∧ t = mk 49 [(3, .ptr 0 0), (5, aI y13), (7, w7), (8, w8), (22, .pv (encSl R_hist_Bucket a0)), (23, aI ((sll a0).length : Int)), (24, w9), (25, w10), (29, w11)] ∧ H = [.box [aI a1.fKind, aI a1.fInt, aF a1.fFloat, aS a1.fText] false, w12]) ∨ (∃ (y13 : Int) (w7 : AV) (w8 : AV) (w9 : AV) (w10 : AV) (w11 : AV) (w12 : Blk), k14 y13 = some r ∧ t = mk 49 [(3, .ptr 0 0), (5, aI y13), (7, w7), (8, w8), (22, .pv (encSl R_hist_Bucket a0)), (23, aI ((sll a0).length : Int)), (24, w9), (25, w10), (29, w11)] ∧ H = [.box [aI a1.fKind, aI a1.fInt, aF a1.fFloat, aS a1.fText] false])) ?_ ?_
    ·
     rintro _ _ (⟨y13, w7, w8, w9, w10, w11, w12, hm, rfl, rfl⟩ | ⟨y13, w7, w8, w9, w10, w11, w12, hm, rfl, rfl⟩)
     ·
      subst hk14
      refine sq (dn [(4, aI 0), (5, aI y13), (6, aB false)] (wp_ret ?_))
      obtain rfl := Option.some.inj hm
      exact ⟨trivial, by kernel_rfl⟩
     ·
      subst hk14
      refine sq (dn [(4, aI 0), (5, aI y13), (6, aB false)] (wp_ret ?_))
      obtain rfl := Option.some.inj hm
      exact ⟨trivial, by kernel_rfl⟩
    refine sq (rg (s1 1 [(22, .pv (encSl R_hist_Bucket a0))] (dv 23 (v := aI ((sll a0).length : Int)) (len_slO R_hist_Bucket a0 t150 (by kernel_rfl)) (by kernel_rfl) (f1 1 [(3, .ptr 0 0), (5, aI 0), (22, .pv (encSl R_hist_Bucket a0)), (23, aI ((sll a0).length : Int)), (24, aI 0)] (bq ?_)))))
    refine loopF (fun mm t H => (∃ (y17 : Int) (y18 : Int), hist_find_l4 n a0 a1 k14 mm y17 y18 = some r ∧ t = mk 49 [(3, .ptr 0 0), (5, aI y18), (22, .pv (encSl R_hist_Bucket a0)), (23, aI ((sll a0).length : Int)), (24, aI y17)] ∧ H = [.box [aI a1.fKind, aI a1.fInt, aF a1.fFloat, aS a1.fText] false])) (⟨0, 0, hm, rfl, rfl⟩) ?_ ?_
    · rintro _ _ ⟨y17, y18, hm, _⟩; exact nomatch hm
    rintro m19 _ _ ⟨y17, y18, hm, rfl, rfl⟩
    simp only [hist_find_l4] at hm
    refine sq (dn [(3, .ptr 0 0), (5, aI y18), (22, .pv (encSl R_hist_Bucket a0)), (23, aI ((sll a0).length : Int)), (24, aI y17), (25, aB (decide (y17 < ((sll a0).length : Int))))] ?_)
    refine sq ?_
    rcases bif_some hm with ⟨h20, hm⟩ | ⟨h20, hm⟩
    ·
     refine c1 h20 (wp_skip (sq (bq (sq (rg (s1 1 [(26, aI y17)] ?_))))))
     obtain ⟨x21, h22, hm⟩ := bs hm
     refine dv 27 (v := .pv (.ptr (R_hist_Bucket x21) 0)) (ia_slO R_hist_Bucket a0 .i64 t150 t247 h22 rfl (by kernel_rfl)) (by kernel_rfl) (stf 4 [(3, .ptr 0 0), (5, aI y18), (7, aI y17), (8, .ptr 1 0), (22, .pv (encSl R_hist_Bucket a0)), (23, aI ((sll a0).length : Int)), (24, aI y17)] [.box [aI a1.fKind, aI a1.fInt, aF a1.fFloat, aS a1.fText] false, .box [aI x21.fLow.fKind, aI x21.fLow.fInt, aF x21.fLow.fFloat, aS x21.fLow.fText, aI x21.fHigh.fKind, aI x21.fHigh.fInt, aF x21.fHigh.fFloat, aS x21.fHigh.fText, aI x21.fCount, aI x21.fDistinct] false] (by kernel_rfl) (sq (bq (sq (rg (s1 3 [(32, .agg [aI x21.fLow.fKind, aI x21.fLow.fInt, aF x21.fLow.fFloat, aS x21.fLow.fText]), (31, .ptr 1 0), (30, .agg [aI a1.fKind, aI a1.fInt, aF a1.fFloat, aS a1.fText])] ?_))))))
     obtain ⟨x23, h24, hm⟩ := bs hm
     refine dv 33 (cpure (by kernel_rfl) (ok_value_Cmp h24) (by kernel_rfl) (by kernel_rfl) (by kernel_rfl)) (by kernel_rfl) (f1 2 [(3, .ptr 0 0), (5, aI y18), (7, aI y17), (8, .ptr 1 0), (22, .pv (encSl R_hist_Bucket a0)), (23, aI ((sll a0).length : Int)), (24, aI y17), (29, aB (decide (x23 < 0)))] ?_)
     rcases bif_some hm with ⟨h25, hm⟩ | ⟨h25, hm⟩
     ·
      refine c1 h25 (wp_exit ?_)
      exact .inl ⟨y18, aI y17, .ptr 1 0, aI y17, .any, aB (decide (x23 < 0)), .box [aI x21.fLow.fKind, aI x21.fLow.fInt, aF x21.fLow.fFloat, aS x21.fLow.fText, aI x21.fHigh.fKind, aI x21.fHigh.fInt, aF x21.fHigh.fFloat, aS x21.fHigh.fText, aI x21.fCount, aI x21.fDistinct] false, hm, (mk_same (by kernel_rfl)), rfl⟩
     ·
      refine c0 h25 (sq (rg (s1 3 [(38, .agg [aI x21.fHigh.fKind, aI x21.fHigh.fInt, aF x21.fHigh.fFloat, aS x21.fHigh.fText]), (37, .ptr 1 4), (36, .agg [aI a1.fKind, aI a1.fInt, aF a1.fFloat, aS a1.fText])] ?_)))
      obtain ⟨x26, h27, hm⟩ := bs hm
      refine dv 39 (cpure (by kernel_rfl) (ok_value_Cmp h27) (by kernel_rfl) (by kernel_rfl) (by kernel_rfl)) (by kernel_rfl) (f1 2 [(3, .ptr 0 0), (5, aI y18), (7, aI y17), (8, .ptr 1 0), (22, .pv (encSl R_hist_Bucket a0)), (23, aI ((sll a0).length : Int)), (24, aI y17), (35, aB (decide (x26 ≤ 0)))] ?_)
      rcases bif_some hm with ⟨h28, hm⟩ | ⟨h28, hm⟩
      ·
       refine c1 h28 (sq (dn [(4, aI y17), (5, aI y18), (6, aB true)] (wp_ret ?_)))
       obtain rfl := Option.some.inj hm
       exact ⟨trivial, by kernel_rfl⟩
      ·
       refine c0 h28 (wp_skip (dn [(3, .ptr 0 0), (5, aI (IntKind.wrap .i64 (y18 + x21.fCount))), (22, .pv (encSl R_hist_Bucket a0)), (23, aI ((sll a0).length : Int)), (24, aI y17)] (dn [(3, .ptr 0 0), (5, aI (IntKind.wrap .i64 (y18 + x21.fCount))), (22, .pv (encSl R_hist_Bucket a0)), (23, aI ((sll a0).length : Int)), (24, aI (IntKind.wrap .i64 (y17 + 1)))] ?_)))
       exact ⟨_, _, tidyL [(3, .ptr 0 0), (5, aI (IntKind.wrap .i64 (y18 + x21.fCount))), (22, .pv (encSl R_hist_Bucket a0)), (23, aI ((sll a0).length : Int)), (24, aI (IntKind.wrap .i64 (y17 + 1)))] [.box [aI a1.fKind, aI a1.fInt, aF a1.fFloat, aS a1.fText] false] (by kernel_rfl), ⟨(IntKind.wrap .i64 (y17 + 1)), (IntKind.wrap .i64 (y18 + x21.fCount)), hm, rfl, rfl⟩⟩
    ·
     refine c0 h20 (wp_exit ?_)
     exact .inr (⟨y18, .any, .any, aI y17, aB (decide (y17 < ((sll a0).length : Int))), .any, (.box [] false), hm, (mk_same (by kernel_rfl)), rfl⟩)
theorem ok_hist_each {n : Nat} {a0 : hist_Bucket} {r : Int} (hm : hist_each n a0 = some r) :
    call G n 267 [.agg [aI a0.fLow.fKind, aI a0.fLow.fInt, aF a0.fLow.fFloat, aS a0.fLow.fText, aI a0.fHigh.fKind, aI a0.fHigh.fInt, aF a0.fHigh.fFloat, aS a0.fHigh.fText, aI a0.fCount, aI a0.fDistinct]] [] = some (.ret (aI r), []) := by
  unfold hist_each at hm
  obtain ⟨n, rfl, h0⟩ := at1_some hm
  replace hm := h0; clear h0
  refine callL 8 [(0, .agg [aI a0.fLow.fKind, aI a0.fLow.fInt, aF a0.fLow.fFloat, aS a0.fLow.fText, aI a0.fHigh.fKind, aI a0.fHigh.fInt, aF a0.fHigh.fFloat, aS a0.fHigh.fText, aI a0.fCount, aI a0.fDistinct])] func267 rfl (by kernel_rfl) (sq (det [(1, .ptr 0 0)] [.box [aI a0.fLow.fKind, aI a0.fLow.fInt, aF a0.fLow.fFloat, aS a0.fLow.fText, aI a0.fHigh.fKind, aI a0.fHigh.fInt, aF a0.fHigh.fFloat, aS a0.fHigh.fText, aI a0.fCount, aI a0.fDistinct] false] (by kernel_rfl) (sq (rg (s1 4 [(6, aI a0.fDistinct), (5, .ptr 0 9), (4, aI a0.fCount), (3, .ptr 0 8)] ?_)))))
  obtain ⟨_, h1, hm⟩ := bs hm
  refine dv 7 (v := aI (IntKind.wrap .i64 (Int.tdiv a0.fCount a0.fDistinct))) (quoO h1 (by kernel_rfl)) (by kernel_rfl) (f1 1 [(2, aI (IntKind.wrap .i64 (Int.tdiv a0.fCount a0.fDistinct)))] (wp_ret ?_))
  obtain rfl := Option.some.inj hm
  exact ⟨trivial, by kernel_rfl⟩
theorem ok_hist_Equal {n : Nat} {a0 : (Option (List hist_Bucket))} {a1 : api_Value} {r : Int} (hm : hist_Equal n a0 a1 = some r) :
    call G n 257 [.pv (encSl R_hist_Bucket a0), .agg [aI a1.fKind, aI a1.fInt, aF a1.fFloat, aS a1.fText]] [] = some (.ret (aI r), []) := by
  unfold hist_Equal at hm
  obtain ⟨n, rfl, h0⟩ := at1_some hm
  replace hm := h0; clear h0
  refine callL 22 [(0, .pv (encSl R_hist_Bucket a0)), (1, .agg [aI a1.fKind, aI a1.fInt, aF a1.fFloat, aS a1.fText])] func257 rfl (by kernel_rfl) (sq (det [(0, .pv (encSl R_hist_Bucket a0)), (3, .ptr 0 0)] [.box [aI a1.fKind, aI a1.fInt, aF a1.fFloat, aS a1.fText] false] (by kernel_rfl) (sq (rg (s1 2 [(10, .agg [aI a1.fKind, aI a1.fInt, aF a1.fFloat, aS a1.fText]), (9, .pv (encSl R_hist_Bucket a0))] ?_)))))
  obtain ⟨x1, h2, hm⟩ := bs hm
  refine dv 11 (cpure (by kernel_rfl) (ok_hist_find h2) (by kernel_rfl) (by kernel_rfl) (by kernel_rfl)) (by kernel_rfl) (f1 7 [(0, .pv (encSl R_hist_Bucket a0)), (5, aI x1.1), (7, aB x1.2.2)] (sq (sq (dn [(0, .pv (encSl R_hist_Bucket a0)), (5, aI x1.1), (16, aB (!x1.2.2))] ?_))))
  rcases bif_some hm with ⟨h3, hm⟩ | ⟨h3, hm⟩
  ·
   refine c1 h3 (sq (dn [(4, aI 0)] (wp_ret ?_)))
   obtain rfl := Option.some.inj hm
   exact ⟨trivial, by kernel_rfl⟩
  ·
   refine c0 h3 (wp_skip (sq (rg (s1 2 [(18, aI x1.1), (17, .pv (encSl R_hist_Bucket a0))] ?_))))
   obtain ⟨x4, h5, hm⟩ := bs hm
   refine dv 19 (v := .pv (.ptr (R_hist_Bucket x4) 0)) (ia_slO R_hist_Bucket a0 .i64 t150 t247 h5 rfl (by kernel_rfl)) (by kernel_rfl) (s1 1 [(20, .agg [aI x4.fLow.fKind, aI x4.fLow.fInt, aF x4.fLow.fFloat, aS x4.fLow.fText, aI x4.fHigh.fKind, aI x4.fHigh.fInt, aF x4.fHigh.fFloat, aS x4.fHigh.fText, aI x4.fCount, aI x4.fDistinct])] ?_)
   obtain ⟨x6, h7, hm⟩ := bs hm
   refine dv 21 (cpure (by kernel_rfl) (ok_hist_each h7) (by kernel_rfl) (by kernel_rfl) (by kernel_rfl)) (by kernel_rfl) (f1 1 [(4, aI x6)] (wp_ret ?_))
   obtain rfl := Option.some.inj hm
   exact ⟨trivial, by kernel_rfl⟩
theorem ok_value_Same {n : Nat} {a0 : api_Value} {a1 : api_Value} {r : Bool} (hm : value_Same n a0 a1 = some r) :
    call G n 155 [.agg [aI a0.fKind, aI a0.fInt, aF a0.fFloat, aS a0.fText], .agg [aI a1.fKind, aI a1.fInt, aF a1.fFloat, aS a1.fText]] [] = some (.ret (aB r), []) := by
  unfold value_Same at hm
  obtain ⟨n, rfl, h0⟩ := at1_some hm
  replace hm := h0; clear h0
  refine callL 9 [(0, .agg [aI a0.fKind, aI a0.fInt, aF a0.fFloat, aS a0.fText]), (1, .agg [aI a1.fKind, aI a1.fInt, aF a1.fFloat, aS a1.fText])] func155 rfl (by kernel_rfl) (sq (det [(2, .ptr 0 0), (3, .ptr 1 0)] [.box [aI a0.fKind, aI a0.fInt, aF a0.fFloat, aS a0.fText] false, .box [aI a1.fKind, aI a1.fInt, aF a1.fFloat, aS a1.fText] false] (by kernel_rfl) (sq (rg (s1 2 [(6, .agg [aI a1.fKind, aI a1.fInt, aF a1.fFloat, aS a1.fText]), (5, .agg [aI a0.fKind, aI a0.fInt, aF a0.fFloat, aS a0.fText])] ?_)))))
  obtain ⟨x1, h2, hm⟩ := bs hm
  refine dv 7 (cpure (by kernel_rfl) (ok_value_Cmp h2) (by kernel_rfl) (by kernel_rfl) (by kernel_rfl)) (by kernel_rfl) (f1 2 [(4, aB (x1 == 0))] (wp_ret ?_))
  obtain rfl := Option.some.inj hm
  exact ⟨trivial, by kernel_rfl⟩
theorem ok_hist_share {n : Nat} {a0 : hist_Bucket} {a1 : api_Value} {r : Int} (hm : hist_share n a0 a1 = some r) :
    call G n 273 [.agg [aI a0.fLow.fKind, aI a0.fLow.fInt, aF a0.fLow.fFloat, aS a0.fLow.fText, aI a0.fHigh.fKind, aI a0.fHigh.fInt, aF a0.fHigh.fFloat, aS a0.fHigh.fText, aI a0.fCount, aI a0.fDistinct], .agg [aI a1.fKind, aI a1.fInt, aF a1.fFloat, aS a1.fText]] [] = some (.ret (aI r), []) := by
  unfold hist_share at hm
  obtain ⟨n, rfl, h0⟩ := at1_some hm
  replace hm := h0; clear h0
  refine callL 47 [(0, .agg [aI a0.fLow.fKind, aI a0.fLow.fInt, aF a0.fLow.fFloat, aS a0.fLow.fText, aI a0.fHigh.fKind, aI a0.fHigh.fInt, aF a0.fHigh.fFloat, aS a0.fHigh.fText, aI a0.fCount, aI a0.fDistinct]), (1, .agg [aI a1.fKind, aI a1.fInt, aF a1.fFloat, aS a1.fText])] func273 rfl (by kernel_rfl) (sq (det [(2, .ptr 0 0), (3, .ptr 1 0)] [.box [aI a0.fLow.fKind, aI a0.fLow.fInt, aF a0.fLow.fFloat, aS a0.fLow.fText, aI a0.fHigh.fKind, aI a0.fHigh.fInt, aF a0.fHigh.fFloat, aS a0.fHigh.fText, aI a0.fCount, aI a0.fDistinct] false, .box [aI a1.fKind, aI a1.fInt, aF a1.fFloat, aS a1.fText] false] (by kernel_rfl) ?_))
  refine sq (sq (dn [(2, .ptr 0 0), (3, .ptr 1 0), (11, aB (a1.fKind != 2))] ?_))
  rcases bif_some hm with ⟨h1, hm⟩ | ⟨h1, hm⟩
  ·
   refine c1 h1 (sq (dn [(4, aI (IntKind.wrap .i64 (Int.tdiv a0.fCount 2)))] (wp_ret ?_)))
   obtain rfl := Option.some.inj hm
   exact ⟨trivial, by kernel_rfl⟩
  ·
   refine c0 h1 (wp_skip (sq (rg (s1 11 [(26, aU (IntKind.wrap .u64 ((IntKind.wrap .u64 a1.fInt) - (IntKind.wrap .u64 a0.fLow.fInt)))), (25, aU (IntKind.wrap .u64 a0.fLow.fInt)), (24, aI a0.fLow.fInt), (23, .ptr 0 1), (22, .ptr 0 0), (21, aU (IntKind.wrap .u64 a1.fInt)), (20, aI a1.fInt), (19, .ptr 1 1), (18, aU (IntKind.wrap .u64 a0.fCount)), (17, aI a0.fCount), (16, .ptr 0 8)] ?_))))
   obtain ⟨x2, h3, hm⟩ := bs hm
   refine dv 27 (cpure (by kernel_rfl) (ok_math_bits_Mul64 h3) (by kernel_rfl) (by kernel_rfl) (by kernel_rfl)) (by kernel_rfl) (f1 5 [(2, .ptr 0 0), (5, aU x2.1), (6, aU x2.2)] (sq (rg (s1 11 [(41, aU (IntKind.wrap .u64 ((IntKind.wrap .u64 a0.fHigh.fInt) - (IntKind.wrap .u64 a0.fLow.fInt)))), (40, aU (IntKind.wrap .u64 a0.fLow.fInt)), (39, aI a0.fLow.fInt), (38, .ptr 0 1), (37, .ptr 0 0), (36, aU (IntKind.wrap .u64 a0.fHigh.fInt)), (35, aI a0.fHigh.fInt), (34, .ptr 0 5), (33, .ptr 0 4), (32, aU x2.2), (31, aU x2.1)] ?_))))
   obtain ⟨x4, h5, hm⟩ := bs hm
   refine dv 42 (cpure (by kernel_rfl) (ok_math_bits_Div64 h5) (by kernel_rfl) (by kernel_rfl) (by kernel_rfl)) (by kernel_rfl) (f1 5 [(7, aU x4.1)] (sq (dn [(4, aI (IntKind.wrap .i64 x4.1))] (wp_ret ?_))))
   obtain rfl := Option.some.inj hm
   exact ⟨trivial, by kernel_rfl⟩
end Go.Ab.S1
