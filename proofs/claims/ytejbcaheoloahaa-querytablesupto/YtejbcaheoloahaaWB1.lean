import Derived.Test.YtejbcaheoloahaaS1
import Derived.Test.YtejbcaheoloahaaPA
namespace Go.Ab.S1
open Go Go.Ab Go.Pl
open Go.Proofs.Try
set_option maxRecDepth 100000
theorem run_law23_works : call G 3999999 7 [] [] = some (.ret (aB true), []) := by kernel_rfl
theorem ok_law23_works {n : Nat} {r : Bool} (hm : law23_works n = some r) :
    call G n 7 [] [] = some (.ret (aB r), []) := by
  unfold law23_works at hm
  have hn : n = 3999999 := by
    cases h : n == 3999999 with
    | true => exact eq_of_beq h
    | false => rw [h] at hm; cases hm
  subst hn
  have h2 : some true = some r := hm
  obtain rfl := Option.some.inj h2
  exact run_law23_works
theorem okf_ref22_Bulk {rc_ref22_Bulk : (Nat → (Option (List E_api_Expr)) → Int → Option (Int))} (ih_ref22_Bulk : ∀ {n : Nat} {a0 : (Option (List E_api_Expr))} {a1 : Int} {r : Int} (hm : rc_ref22_Bulk n a0 a1 = some r), call G n 44 [.pv (encSl R_E_api_Expr a0), aI a1] [] = some (.ret (aI r), [])) {n : Nat} {a0 : (Option (List E_api_Expr))} {a1 : Int} {r : Int} (hm : ref22_Bulk_f rc_ref22_Bulk n a0 a1 = some r) :
    call G n 44 [.pv (encSl R_E_api_Expr a0), aI a1] [] = some (.ret (aI r), []) := by
  unfold ref22_Bulk_f at hm
  obtain ⟨n, rfl, h0⟩ := at1_some hm
  replace hm := h0; clear h0
  refine callL 61 [(0, .pv (encSl R_E_api_Expr a0)), (1, aI a1)] func44 rfl (by kernel_rfl) (sq (dn [(0, .pv (encSl R_E_api_Expr a0)), (1, aI a1)] ?_))
  refine sq (sq (rg (s1 1 [(7, .pv (encSl R_E_api_Expr a0))] (dv 8 (v := aI ((sll a0).length : Int)) (len_slO R_E_api_Expr a0 t23 (by kernel_rfl)) (by kernel_rfl) (fq 2 [(0, .pv (encSl R_E_api_Expr a0)), (1, aI a1), (10, aB (decide (((sll a0).length : Int) > a1)))] ?_)))))
  rcases bif_some hm with ⟨h1, hm⟩ | ⟨h1, hm⟩
  ·
   refine c1 h1 (sq (dn [(4, aI (IntKind.wrap .i64 (a1 + 1)))] (wp_ret ?_)))
   obtain rfl := Option.some.inj hm
   exact ⟨trivial, by kernel_rfl⟩
  ·
   refine c0 h1 (wp_skip (sq (rg (s1 1 [(13, .pv (encSl R_E_api_Expr a0))] (dv 14 (v := aI ((sll a0).length : Int)) (len_slO R_E_api_Expr a0 t23 (by kernel_rfl)) (by kernel_rfl) (fq 1 [(0, .pv (encSl R_E_api_Expr a0)), (1, aI a1), (5, aI ((sll a0).length : Int))] ?_))))))
   obtain ⟨k5, hk5, hm⟩ := withK_some hm
   refine mid (fun t H => (∃ (y2 : Bool) (y3 : Int) (y4 : Int), k5 y3 = some r ∧ t = mk 61 [(0, .pv (encSl R_E_api_Expr a0)), (1, aI a1), (5, aI y3), (6, aI y4), (23, aB y2)] ∧ H = [])) ?_ ?_
   ·
    rintro _ _ ⟨y2, y3, y4, hm, rfl, rfl⟩
    subst hk5
    refine sq (dn [(4, aI y3)] (wp_ret ?_))
    obtain rfl := Option.some.inj hm
    exact ⟨trivial, by kernel_rfl⟩
   refine sq (dn [(0, .pv (encSl R_E_api_Expr a0)), (1, aI a1), (5, aI ((sll a0).length : Int)), (6, aI 0)] (bq ?_))
   refine loopF (fun mm t H => (∃ (y8 : Int) (y9 : Int), ref22_Bulk_l5 n rc_ref22_Bulk a0 a1 k5 mm y8 y9 = some r ∧ t = mk 61 [(0, .pv (encSl R_E_api_Expr a0)), (1, aI a1), (5, aI y8), (6, aI y9)] ∧ H = [])) (⟨((sll a0).length : Int), 0, hm, rfl, rfl⟩) ?_ ?_
   · rintro _ _ ⟨y8, y9, hm, _⟩; exact nomatch hm
   rintro m10 _ _ ⟨y8, y9, hm, rfl, rfl⟩
   simp only [ref22_Bulk_l5] at hm
   refine sq (sq (rg (s1 2 [(16, .pv (encSl R_E_api_Expr a0)), (15, aI y9)] (dv 17 (v := aI ((sll a0).length : Int)) (len_slO R_E_api_Expr a0 t23 (by kernel_rfl)) (by kernel_rfl) (s1 2 [(19, aB (decide (y9 < ((sll a0).length : Int)))), (18, aB (decide (y9 < ((sll a0).length : Int))))] ?_)))))
   refine segP (decide (y9 < ((sll a0).length : Int))) [19, 18] (fun b => [(23, aB (b && (decide (y8 ≤ a1)))), (22, ifA b (aB (decide (y8 ≤ a1))) (.undef)), (21, ifA b (aI a1) (.undef)), (20, ifA b (aI y8) (.undef))]) 4 (by kernel_rfl) (by kernel_rfl) (by kernel_rfl) (fin [(0, .pv (encSl R_E_api_Expr a0)), (1, aI a1), (5, aI y8), (6, aI y9), (23, aB ((decide (y9 < ((sll a0).length : Int))) && (decide (y8 ≤ a1))))] rfl (by kernel_rfl) ?_)
   rcases bif_some hm with ⟨h11, hm⟩ | ⟨h11, hm⟩
   ·
    refine c1 h11 (wp_skip (sq (bq ?_)))
    refine sq (sq (rg (s1 2 [(27, aI y9), (26, .pv (encSl R_E_api_Expr a0))] ?_)))
    obtain ⟨x12, h13, hm⟩ := bs hm
    refine dv 28 (v := .pv (.ptr (R_api_Expr (un_api_Expr x12)) 0)) (ia_slE R_E_api_Expr a0 .i64 t23 t44 h13 (R_un_api_Expr x12) rfl (by kernel_rfl)) (by kernel_rfl) (fq 6 [(0, .pv (encSl R_E_api_Expr a0)), (1, aI a1), (5, aI y8), (6, aI y9), (34, aB (decide (((((un_api_Expr x12).fConst).fText).size : Int) > a1)))] ?_)
    rcases bif_some hm with ⟨h14, hm⟩ | ⟨h14, hm⟩
    ·
     refine c1 h14 (sq (dn [(4, aI (IntKind.wrap .i64 (a1 + 1)))] (wp_ret ?_)))
     obtain rfl := Option.some.inj hm
     exact ⟨trivial, by kernel_rfl⟩
    ·
     refine c0 h14 (wp_skip (sq (rg (s1 3 [(39, aI y9), (38, .pv (encSl R_E_api_Expr a0)), (37, aI y8)] (dv 40 (v := .pv (.ptr (R_api_Expr (un_api_Expr x12)) 0)) (ia_slE R_E_api_Expr a0 .i64 t23 t44 h13 (R_un_api_Expr x12) rfl (by kernel_rfl)) (by kernel_rfl) (fq 6 [(0, .pv (encSl R_E_api_Expr a0)), (1, aI a1), (5, aI (IntKind.wrap .i64 (y8 + ((((un_api_Expr x12).fConst).fText).size : Int)))), (6, aI y9)] (sq (dn [(0, .pv (encSl R_E_api_Expr a0)), (1, aI a1), (5, aI (IntKind.wrap .i64 (y8 + ((((un_api_Expr x12).fConst).fText).size : Int)))), (6, aI y9), (48, aB (decide ((IntKind.wrap .i64 (y8 + ((((un_api_Expr x12).fConst).fText).size : Int))) ≤ a1)))] ?_))))))))
     rcases bif_some hm with ⟨h15, hm⟩ | ⟨h15, hm⟩
     ·
      refine c1 h15 (rg (s1 3 [(51, aI y9), (50, .pv (encSl R_E_api_Expr a0)), (49, aI (IntKind.wrap .i64 (y8 + ((((un_api_Expr x12).fConst).fText).size : Int))))] (dv 52 (v := .pv (.ptr (R_api_Expr (un_api_Expr x12)) 0)) (ia_slE R_E_api_Expr a0 .i64 t23 t44 h13 (R_un_api_Expr x12) rfl (by kernel_rfl)) (by kernel_rfl) (s1 5 [(57, aI (IntKind.wrap .i64 (a1 - (IntKind.wrap .i64 (y8 + ((((un_api_Expr x12).fConst).fText).size : Int)))))), (56, aI (IntKind.wrap .i64 (y8 + ((((un_api_Expr x12).fConst).fText).size : Int)))), (55, aI a1), (54, .pv (encSl R_E_api_Expr ((un_api_Expr x12).fKids))), (53, .pv (.ptr (R_api_Expr (un_api_Expr x12)) 7))] ?_))))
      obtain ⟨x16, h17, hm⟩ := bs hm
      refine dv 58 (cpure (by kernel_rfl) (ih_ref22_Bulk h17) (by kernel_rfl) (by kernel_rfl) (by kernel_rfl)) (by kernel_rfl) (fq 2 [(0, .pv (encSl R_E_api_Expr a0)), (1, aI a1), (5, aI (IntKind.wrap .i64 ((IntKind.wrap .i64 (y8 + ((((un_api_Expr x12).fConst).fText).size : Int))) + x16))), (6, aI y9)] (dn [(0, .pv (encSl R_E_api_Expr a0)), (1, aI a1), (5, aI (IntKind.wrap .i64 ((IntKind.wrap .i64 (y8 + ((((un_api_Expr x12).fConst).fText).size : Int))) + x16))), (6, aI (IntKind.wrap .i64 (y9 + 1)))] ?_))
      exact ⟨_, _, tidyL [(0, .pv (encSl R_E_api_Expr a0)), (1, aI a1), (5, aI (IntKind.wrap .i64 ((IntKind.wrap .i64 (y8 + ((((un_api_Expr x12).fConst).fText).size : Int))) + x16))), (6, aI (IntKind.wrap .i64 (y9 + 1)))] [] (by kernel_rfl), ⟨(IntKind.wrap .i64 ((IntKind.wrap .i64 (y8 + ((((un_api_Expr x12).fConst).fText).size : Int))) + x16)), (IntKind.wrap .i64 (y9 + 1)), hm, rfl, rfl⟩⟩
     ·
      refine c0 h15 (wp_skip (dn [(0, .pv (encSl R_E_api_Expr a0)), (1, aI a1), (5, aI (IntKind.wrap .i64 (y8 + ((((un_api_Expr x12).fConst).fText).size : Int)))), (6, aI (IntKind.wrap .i64 (y9 + 1)))] ?_))
      exact ⟨_, _, tidyL [(0, .pv (encSl R_E_api_Expr a0)), (1, aI a1), (5, aI (IntKind.wrap .i64 (y8 + ((((un_api_Expr x12).fConst).fText).size : Int)))), (6, aI (IntKind.wrap .i64 (y9 + 1)))] [] (by kernel_rfl), ⟨(IntKind.wrap .i64 (y8 + ((((un_api_Expr x12).fConst).fText).size : Int))), (IntKind.wrap .i64 (y9 + 1)), hm, rfl, rfl⟩⟩
   ·
    refine c0 h11 (wp_exit ?_)
    exact ⟨((decide (y9 < ((sll a0).length : Int))) && (decide (y8 ≤ a1))), y8, y9, hm, rfl, rfl⟩
theorem okt_ref22_Bulk : ∀ (m : Nat), ∀ {n : Nat} {a0 : (Option (List E_api_Expr))} {a1 : Int} {r : Int} (hm : ref22_Bulk_t m n a0 a1 = some r), call G n 44 [.pv (encSl R_E_api_Expr a0), aI a1] [] = some (.ret (aI r), [])
  | 0 => by intros; rename_i hm; exact nomatch hm
  | m + 1 => fun hm =>
    okf_ref22_Bulk (okt_ref22_Bulk m) hm
theorem ok_ref22_Bulk {n : Nat} {a0 : (Option (List E_api_Expr))} {a1 : Int} {r : Int} (hm : ref22_Bulk n a0 a1 = some r) :
    call G n 44 [.pv (encSl R_E_api_Expr a0), aI a1] [] = some (.ret (aI r), []) := okt_ref22_Bulk n hm
theorem ok_ref23_Bulk {n : Nat} {a0 : api_Query} {a1 : Int} {r : Int} (hm : ref23_Bulk n a0 a1 = some r) :
    call G n 24 [.agg [.pv (encSl rS a0.fRels), .pv (encSl R_E_api_Expr a0.fWhere), aB a0.fGrouped, .pv (encSl R_E_api_Expr a0.fOut), .pv (encSl R_api_Agg a0.fAggs), .pv (encSl R_api_Key a0.fOrder)], aI a1] [] = some (.ret (aI r), []) := by
  unfold ref23_Bulk at hm
  obtain ⟨n, rfl, h0⟩ := at1_some hm
  replace hm := h0; clear h0
  refine callL 118 [(0, .agg [.pv (encSl rS a0.fRels), .pv (encSl R_E_api_Expr a0.fWhere), aB a0.fGrouped, .pv (encSl R_E_api_Expr a0.fOut), .pv (encSl R_api_Agg a0.fAggs), .pv (encSl R_api_Key a0.fOrder)]), (1, aI a1)] func24 rfl (by kernel_rfl) (sq (det [(1, aI a1), (2, .ptr 0 0)] [.box [.pv (encSl rS a0.fRels), .pv (encSl R_E_api_Expr a0.fWhere), aB a0.fGrouped, .pv (encSl R_E_api_Expr a0.fOut), .pv (encSl R_api_Agg a0.fAggs), .pv (encSl R_api_Key a0.fOrder)] false] (by kernel_rfl) ?_))
  refine sq (sq (rg (s1 2 [(9, .pv (encSl rS a0.fRels)), (8, .ptr 0 0)] (dv 10 (v := aI ((sll a0.fRels).length : Int)) (len_slO rS a0.fRels t22 (by kernel_rfl)) (by kernel_rfl) (s1 3 [(13, aB (decide (((sll a0.fRels).length : Int) > a1))), (12, aB (decide (((sll a0.fRels).length : Int) > a1))), (11, aI a1)] ?_)))))
  refine seg (decide (((sll a0.fRels).length : Int) > a1)) [13, 12] (fun b => [(19, aB (b || (decide (((sll a0.fAggs).length : Int) > a1)))), (18, ifA b (.undef) (aB (decide (((sll a0.fAggs).length : Int) > a1)))), (17, ifA b (.undef) (aI a1)), (16, ifA b (.undef) (aI ((sll a0.fAggs).length : Int))), (15, ifA b (.undef) (.pv (encSl R_api_Agg a0.fAggs))), (14, ifA b (.undef) (.ptr 0 4))]) 12 (by kernel_rfl) ?_ ?_ ?_
  ·
   intro Q h
   refine s1 6 [(19, aB true), (18, .undef), (17, .undef), (16, .undef), (15, .undef), (14, .undef)] ?_
   exact sameN (by kernel_rfl) (by kernel_rfl) h
  ·
   intro Q h
   refine s1 2 [(15, .pv (encSl R_api_Agg a0.fAggs)), (14, .ptr 0 4)] (dv 16 (v := aI ((sll a0.fAggs).length : Int)) (len_slO R_api_Agg a0.fAggs t24 (by kernel_rfl)) (by kernel_rfl) (s1 3 [(19, aB (decide (((sll a0.fAggs).length : Int) > a1))), (18, aB (decide (((sll a0.fAggs).length : Int) > a1))), (17, aI a1)] ?_))
   exact sameN (by kernel_rfl) (by kernel_rfl) h
  refine s1 1 [(20, aB ((decide (((sll a0.fRels).length : Int) > a1)) || (decide (((sll a0.fAggs).length : Int) > a1))))] ?_
  refine seg ((decide (((sll a0.fRels).length : Int) > a1)) || (decide (((sll a0.fAggs).length : Int) > a1))) [20, 19] (fun b => [(26, aB (b || (decide (((sll a0.fOrder).length : Int) > a1)))), (25, ifA b (.undef) (aB (decide (((sll a0.fOrder).length : Int) > a1)))), (24, ifA b (.undef) (aI a1)), (23, ifA b (.undef) (aI ((sll a0.fOrder).length : Int))), (22, ifA b (.undef) (.pv (encSl R_api_Key a0.fOrder))), (21, ifA b (.undef) (.ptr 0 5))]) 19 (by kernel_rfl) ?_ ?_ ?_
  ·
   intro Q h
   refine s1 6 [(26, aB true), (25, .undef), (24, .undef), (23, .undef), (22, .undef), (21, .undef)] ?_
   exact sameN (by kernel_rfl) (by kernel_rfl) h
  ·
   intro Q h
   refine s1 2 [(22, .pv (encSl R_api_Key a0.fOrder)), (21, .ptr 0 5)] (dv 23 (v := aI ((sll a0.fOrder).length : Int)) (len_slO R_api_Key a0.fOrder t25 (by kernel_rfl)) (by kernel_rfl) (s1 3 [(26, aB (decide (((sll a0.fOrder).length : Int) > a1))), (25, aB (decide (((sll a0.fOrder).length : Int) > a1))), (24, aI a1)] ?_))
   exact sameN (by kernel_rfl) (by kernel_rfl) h
  refine fin [(1, aI a1), (2, .ptr 0 0), (26, aB (((decide (((sll a0.fRels).length : Int) > a1)) || (decide (((sll a0.fAggs).length : Int) > a1))) || (decide (((sll a0.fOrder).length : Int) > a1))))] rfl (by kernel_rfl) ?_
  rcases bif_some hm with ⟨h1, hm⟩ | ⟨h1, hm⟩
  ·
   refine c1 h1 (sq (dn [(4, aI (IntKind.wrap .i64 (a1 + 1)))] (wp_ret ?_)))
   obtain rfl := Option.some.inj hm
   exact ⟨trivial, by kernel_rfl⟩
  ·
   refine c0 h1 (wp_skip (sq (rg (s1 2 [(30, .pv (encSl rS a0.fRels)), (29, .ptr 0 0)] (dv 31 (v := aI ((sll a0.fRels).length : Int)) (len_slO rS a0.fRels t22 (by kernel_rfl)) (by kernel_rfl) (s1 2 [(33, .pv (encSl R_api_Agg a0.fAggs)), (32, .ptr 0 4)] (dv 34 (v := aI ((sll a0.fAggs).length : Int)) (len_slO R_api_Agg a0.fAggs t24 (by kernel_rfl)) (by kernel_rfl) (s1 3 [(37, .pv (encSl R_api_Key a0.fOrder)), (36, .ptr 0 5), (35, aI (IntKind.wrap .i64 (((sll a0.fRels).length : Int) + ((sll a0.fAggs).length : Int))))] (dv 38 (v := aI ((sll a0.fOrder).length : Int)) (len_slO R_api_Key a0.fOrder t25 (by kernel_rfl)) (by kernel_rfl) (fq 2 [(1, aI a1), (2, .ptr 0 0), (5, aI (IntKind.wrap .i64 ((IntKind.wrap .i64 (((sll a0.fRels).length : Int) + ((sll a0.fAggs).length : Int))) + ((sll a0.fOrder).length : Int))))] ?_))))))))))
   obtain ⟨k5, hk5, hm⟩ := withK_some hm
   refine mid (fun t H => (∃ (y2 : Bool) (y3 : Int) (y4 : Int), k5 y3 = some r ∧ t = mk 118 [(1, aI a1), (2, .ptr 0 0), (5, aI y3), (6, aI y4), (44, aB y2)] ∧ H = [.box [.pv (encSl rS a0.fRels), .pv (encSl R_E_api_Expr a0.fWhere), aB a0.fGrouped, .pv (encSl R_E_api_Expr a0.fOut), .pv (encSl R_api_Agg a0.fAggs), .pv (encSl R_api_Key a0.fOrder)] false])) ?_ ?_
   ·
    rintro _ _ ⟨y2, y3, y4, hm, rfl, rfl⟩
    subst hk5
    obtain ⟨k8, hk8, hm⟩ := withK_some hm
    refine mid (fun t H => (∃ (y7 : Int) (w6 : AV), k8 y7 = some r ∧ t = mk 118 [(1, aI a1), (2, .ptr 0 0), (5, aI y7), (72, w6)] ∧ H = [.box [.pv (encSl rS a0.fRels), .pv (encSl R_E_api_Expr a0.fWhere), aB a0.fGrouped, .pv (encSl R_E_api_Expr a0.fOut), .pv (encSl R_api_Agg a0.fAggs), .pv (encSl R_api_Key a0.fOrder)] false])) ?_ ?_
    ·
     rintro _ _ ⟨y7, w6, hm, rfl, rfl⟩
     subst hk8
     obtain ⟨k11, hk11, hm⟩ := withK_some hm
     refine mid (fun t H => (∃ (y10 : Int) (w9 : AV), k11 y10 = some r ∧ t = mk 118 [(1, aI a1), (2, .ptr 0 0), (5, aI y10), (83, w9)] ∧ H = [.box [.pv (encSl rS a0.fRels), .pv (encSl R_E_api_Expr a0.fWhere), aB a0.fGrouped, .pv (encSl R_E_api_Expr a0.fOut), .pv (encSl R_api_Agg a0.fAggs), .pv (encSl R_api_Key a0.fOrder)] false])) ?_ ?_
     ·
      rintro _ _ ⟨y10, w9, hm, rfl, rfl⟩
      subst hk11
      obtain ⟨k15, hk15, hm⟩ := withK_some hm
      refine mid (fun t H => (∃ (y12 : Bool) (y13 : Int) (y14 : Int), k15 y13 = some r ∧ t = mk 118 [(1, aI a1), (2, .ptr 0 0), (5, aI y13), (7, aI y14), (101, aB y12)] ∧ H = [.box [.pv (encSl rS a0.fRels), .pv (encSl R_E_api_Expr a0.fWhere), aB a0.fGrouped, .pv (encSl R_E_api_Expr a0.fOut), .pv (encSl R_api_Agg a0.fAggs), .pv (encSl R_api_Key a0.fOrder)] false])) ?_ ?_
      ·
       rintro _ _ ⟨y12, y13, y14, hm, rfl, rfl⟩
       subst hk15
       refine sq (dn [(4, aI y13)] (wp_ret ?_))
       obtain rfl := Option.some.inj hm
       exact ⟨trivial, by kernel_rfl⟩
      refine sq (dn [(1, aI a1), (2, .ptr 0 0), (5, aI y10), (7, aI 0)] (bq ?_))
      refine loopF (fun mm t H => (∃ (y18 : Int) (y19 : Int), ref23_Bulk_l15 n a0 a1 k15 mm y18 y19 = some r ∧ t = mk 118 [(1, aI a1), (2, .ptr 0 0), (5, aI y18), (7, aI y19)] ∧ H = [.box [.pv (encSl rS a0.fRels), .pv (encSl R_E_api_Expr a0.fWhere), aB a0.fGrouped, .pv (encSl R_E_api_Expr a0.fOut), .pv (encSl R_api_Agg a0.fAggs), .pv (encSl R_api_Key a0.fOrder)] false])) (⟨y10, 0, hm, rfl, rfl⟩) ?_ ?_
      · rintro _ _ ⟨y18, y19, hm, _⟩; exact nomatch hm
      rintro m20 _ _ ⟨y18, y19, hm, rfl, rfl⟩
      simp only [ref23_Bulk_l15] at hm
      refine sq (sq (rg (s1 3 [(94, .pv (encSl R_api_Agg a0.fAggs)), (93, .ptr 0 4), (92, aI y19)] (dv 95 (v := aI ((sll a0.fAggs).length : Int)) (len_slO R_api_Agg a0.fAggs t24 (by kernel_rfl)) (by kernel_rfl) (s1 2 [(97, aB (decide (y19 < ((sll a0.fAggs).length : Int)))), (96, aB (decide (y19 < ((sll a0.fAggs).length : Int))))] ?_)))))
      refine segP (decide (y19 < ((sll a0.fAggs).length : Int))) [97, 96] (fun b => [(101, aB (b && (decide (y18 ≤ a1)))), (100, ifA b (aB (decide (y18 ≤ a1))) (.undef)), (99, ifA b (aI a1) (.undef)), (98, ifA b (aI y18) (.undef))]) 4 (by kernel_rfl) (by kernel_rfl) (by kernel_rfl) (fin [(1, aI a1), (2, .ptr 0 0), (5, aI y18), (7, aI y19), (101, aB ((decide (y19 < ((sll a0.fAggs).length : Int))) && (decide (y18 ≤ a1))))] rfl (by kernel_rfl) ?_)
      rcases bif_some hm with ⟨h21, hm⟩ | ⟨h21, hm⟩
      ·
       refine c1 h21 (wp_skip (sq (bq (rg (s1 4 [(107, aI y19), (106, .pv (encSl R_api_Agg a0.fAggs)), (105, .ptr 0 4), (104, aI y18)] ?_)))))
       obtain ⟨x22, h23, hm⟩ := bs hm
       refine dv 108 (v := .pv (.ptr (R_api_Agg x22) 0)) (ia_slO R_api_Agg a0.fAggs .i64 t24 t82 h23 rfl (by kernel_rfl)) (by kernel_rfl) (st 6 [(114, aI (IntKind.wrap .i64 (a1 - y18))), (113, aI y18), (112, aI a1), (111, aR 1 8 1), (110, .agg [aI x22.fOf.fKind, aI x22.fOf.fRel, aI x22.fOf.fCol, aI x22.fOf.fConst.fKind, aI x22.fOf.fConst.fInt, aF x22.fOf.fConst.fFloat, aS x22.fOf.fConst.fText, .pv (encSl R_E_api_Expr x22.fOf.fKids)]), (109, .pv (.ptr (R_api_Agg x22) 1))] [.box [.pv (encSl rS a0.fRels), .pv (encSl R_E_api_Expr a0.fWhere), aB a0.fGrouped, .pv (encSl R_E_api_Expr a0.fOut), .pv (encSl R_api_Agg a0.fAggs), .pv (encSl R_api_Key a0.fOrder)] false, bR 44 8 R_E_api_Expr ([(roll_api_Expr x22.fOf)] : List E_api_Expr) 0 0] (by kernel_rfl) ?_)
       obtain ⟨x24, h25, hm⟩ := bs hm
       refine dO [(115, aI x24)] [.box [.pv (encSl rS a0.fRels), .pv (encSl R_E_api_Expr a0.fWhere), aB a0.fGrouped, .pv (encSl R_E_api_Expr a0.fOut), .pv (encSl R_api_Agg a0.fAggs), .pv (encSl R_api_Key a0.fOrder)] false, bR 44 8 R_E_api_Expr ([(roll_api_Expr x22.fOf)] : List E_api_Expr) 0 0] (cpureR [1] [aR 1 8 1, aI (IntKind.wrap .i64 (a1 - y18))] (fl := true) (by kernel_rfl) (by kernel_rfl) (by kernel_rfl) (ok_ref22_Bulk h25) (by kernel_rfl) (by kernel_rfl)) (by kernel_rfl) (fq 2 [(1, aI a1), (2, .ptr 0 0), (5, aI (IntKind.wrap .i64 (y18 + x24))), (7, aI y19)] (dn [(1, aI a1), (2, .ptr 0 0), (5, aI (IntKind.wrap .i64 (y18 + x24))), (7, aI (IntKind.wrap .i64 (y19 + 1)))] ?_))
       exact ⟨_, _, tidyL [(1, aI a1), (2, .ptr 0 0), (5, aI (IntKind.wrap .i64 (y18 + x24))), (7, aI (IntKind.wrap .i64 (y19 + 1)))] [.box [.pv (encSl rS a0.fRels), .pv (encSl R_E_api_Expr a0.fWhere), aB a0.fGrouped, .pv (encSl R_E_api_Expr a0.fOut), .pv (encSl R_api_Agg a0.fAggs), .pv (encSl R_api_Key a0.fOrder)] false] (by kernel_rfl), ⟨(IntKind.wrap .i64 (y18 + x24)), (IntKind.wrap .i64 (y19 + 1)), hm, rfl, rfl⟩⟩
      ·
       refine c0 h21 (wp_exit ?_)
       exact ⟨((decide (y19 < ((sll a0.fAggs).length : Int))) && (decide (y18 ≤ a1))), y18, y19, hm, rfl, rfl⟩
     refine sq (dn [(1, aI a1), (2, .ptr 0 0), (5, aI y7), (83, aB (decide (y7 ≤ a1)))] ?_)
     rcases bif_some hm with ⟨h26, hm⟩ | ⟨h26, hm⟩
     ·
      refine c1 h26 (rg (s1 6 [(89, aI (IntKind.wrap .i64 (a1 - y7))), (88, aI y7), (87, aI a1), (86, .pv (encSl R_E_api_Expr a0.fOut)), (85, .ptr 0 3), (84, aI y7)] ?_))
      obtain ⟨x27, h28, hm⟩ := bs hm
      refine dv 90 (cpure (by kernel_rfl) (ok_ref22_Bulk h28) (by kernel_rfl) (by kernel_rfl) (by kernel_rfl)) (by kernel_rfl) (fq 2 [(1, aI a1), (2, .ptr 0 0), (5, aI (IntKind.wrap .i64 (y7 + x27)))] ?_)
      exact ⟨(IntKind.wrap .i64 (y7 + x27)), .any, hm, (mk_same (by kernel_rfl)), rfl⟩
     ·
      refine c0 h26 (wp_skip ?_)
      exact ⟨y7, aB (decide (y7 ≤ a1)), hm, (mk_same (by kernel_rfl)), rfl⟩
    refine sq (dn [(1, aI a1), (2, .ptr 0 0), (5, aI y3), (72, aB (decide (y3 ≤ a1)))] ?_)
    rcases bif_some hm with ⟨h29, hm⟩ | ⟨h29, hm⟩
    ·
     refine c1 h29 (rg (s1 6 [(78, aI (IntKind.wrap .i64 (a1 - y3))), (77, aI y3), (76, aI a1), (75, .pv (encSl R_E_api_Expr a0.fWhere)), (74, .ptr 0 1), (73, aI y3)] ?_))
     obtain ⟨x30, h31, hm⟩ := bs hm
     refine dv 79 (cpure (by kernel_rfl) (ok_ref22_Bulk h31) (by kernel_rfl) (by kernel_rfl) (by kernel_rfl)) (by kernel_rfl) (fq 2 [(1, aI a1), (2, .ptr 0 0), (5, aI (IntKind.wrap .i64 (y3 + x30)))] ?_)
     exact ⟨(IntKind.wrap .i64 (y3 + x30)), .any, hm, (mk_same (by kernel_rfl)), rfl⟩
    ·
     refine c0 h29 (wp_skip ?_)
     exact ⟨y3, aB (decide (y3 ≤ a1)), hm, (mk_same (by kernel_rfl)), rfl⟩
   refine sq (dn [(1, aI a1), (2, .ptr 0 0), (5, aI (IntKind.wrap .i64 ((IntKind.wrap .i64 (((sll a0.fRels).length : Int) + ((sll a0.fAggs).length : Int))) + ((sll a0.fOrder).length : Int)))), (6, aI 0)] (bq ?_))
   refine loopF (fun mm t H => (∃ (y34 : Int) (y35 : Int), ref23_Bulk_l5 n a0 a1 k5 mm y34 y35 = some r ∧ t = mk 118 [(1, aI a1), (2, .ptr 0 0), (5, aI y34), (6, aI y35)] ∧ H = [.box [.pv (encSl rS a0.fRels), .pv (encSl R_E_api_Expr a0.fWhere), aB a0.fGrouped, .pv (encSl R_E_api_Expr a0.fOut), .pv (encSl R_api_Agg a0.fAggs), .pv (encSl R_api_Key a0.fOrder)] false])) (⟨(IntKind.wrap .i64 ((IntKind.wrap .i64 (((sll a0.fRels).length : Int) + ((sll a0.fAggs).length : Int))) + ((sll a0.fOrder).length : Int))), 0, hm, rfl, rfl⟩) ?_ ?_
   · rintro _ _ ⟨y34, y35, hm, _⟩; exact nomatch hm
   rintro m36 _ _ ⟨y34, y35, hm, rfl, rfl⟩
   simp only [ref23_Bulk_l5] at hm
   refine sq (sq (rg (s1 3 [(42, .pv (encSl rS a0.fRels)), (41, .ptr 0 0), (40, aI y35)] (dv 43 (v := aI ((sll a0.fRels).length : Int)) (len_slO rS a0.fRels t22 (by kernel_rfl)) (by kernel_rfl) (fq 1 [(1, aI a1), (2, .ptr 0 0), (5, aI y34), (6, aI y35), (44, aB (decide (y35 < ((sll a0.fRels).length : Int))))] ?_)))))
   rcases bif_some hm with ⟨h37, hm⟩ | ⟨h37, hm⟩
   ·
    refine c1 h37 (wp_skip (sq (bq ?_)))
    refine sq (sq (rg (s1 4 [(50, aB (decide (y34 > a1))), (49, aB (decide (y34 > a1))), (48, aI a1), (47, aI y34)] ?_)))
    rcases bif_some hm with ⟨h38, hm⟩ | ⟨h38, hm⟩
    ·
     refine known [50, 49] h38 (by kernel_rfl) (fq 9 [(1, aI a1), (2, .ptr 0 0), (5, aI y34), (6, aI y35), (59, aB true)] (cT (by kernel_rfl) (sq (dn [(4, aI (IntKind.wrap .i64 (a1 + 1)))] (wp_ret ?_)))))
     obtain rfl := Option.some.inj hm
     exact ⟨trivial, by kernel_rfl⟩
    ·
     refine known [50, 49] h38 (by kernel_rfl) (s1 3 [(53, aI y35), (52, .pv (encSl rS a0.fRels)), (51, .ptr 0 0)] ?_)
     obtain ⟨x39, h40, hm⟩ := bs hm
     refine dv 54 (v := .pv (.ptr (rS x39) 0)) (ia_slO rS a0.fRels .i64 t22 t9 h40 rfl (by kernel_rfl)) (by kernel_rfl) (fq 5 [(1, aI a1), (2, .ptr 0 0), (5, aI y34), (6, aI y35), (59, aB (decide ((x39.size : Int) > a1)))] ?_)
     rcases bif_some hm with ⟨h41, hm⟩ | ⟨h41, hm⟩
     ·
      refine c1 h41 (sq (dn [(4, aI (IntKind.wrap .i64 (a1 + 1)))] (wp_ret ?_)))
      obtain rfl := Option.some.inj hm
      exact ⟨trivial, by kernel_rfl⟩
     ·
      refine c0 h41 (wp_skip (rg (s1 4 [(65, aI y35), (64, .pv (encSl rS a0.fRels)), (63, .ptr 0 0), (62, aI y34)] (dv 66 (v := .pv (.ptr (rS x39) 0)) (ia_slO rS a0.fRels .i64 t22 t9 h40 rfl (by kernel_rfl)) (by kernel_rfl) (fq 4 [(1, aI a1), (2, .ptr 0 0), (5, aI (IntKind.wrap .i64 (y34 + (x39.size : Int)))), (6, aI y35)] (dn [(1, aI a1), (2, .ptr 0 0), (5, aI (IntKind.wrap .i64 (y34 + (x39.size : Int)))), (6, aI (IntKind.wrap .i64 (y35 + 1)))] ?_))))))
      exact ⟨_, _, tidyL [(1, aI a1), (2, .ptr 0 0), (5, aI (IntKind.wrap .i64 (y34 + (x39.size : Int)))), (6, aI (IntKind.wrap .i64 (y35 + 1)))] [.box [.pv (encSl rS a0.fRels), .pv (encSl R_E_api_Expr a0.fWhere), aB a0.fGrouped, .pv (encSl R_E_api_Expr a0.fOut), .pv (encSl R_api_Agg a0.fAggs), .pv (encSl R_api_Key a0.fOrder)] false] (by kernel_rfl), ⟨(IntKind.wrap .i64 (y34 + (x39.size : Int))), (IntKind.wrap .i64 (y35 + 1)), hm, rfl, rfl⟩⟩
   ·
    refine c0 h37 (wp_exit ?_)
    exact ⟨(decide (y35 < ((sll a0.fRels).length : Int))), y34, y35, hm, rfl, rfl⟩
theorem ok_law23_Great {n : Nat} {a0 : api_Query} {a1 : (Option (List api_Table))} {r : Bool} (hm : law23_Great n a0 a1 = some r) :
    call G n 8 [.agg [.pv (encSl rS a0.fRels), .pv (encSl R_E_api_Expr a0.fWhere), aB a0.fGrouped, .pv (encSl R_E_api_Expr a0.fOut), .pv (encSl R_api_Agg a0.fAggs), .pv (encSl R_api_Key a0.fOrder)], .pv (encSl R_api_Table a1)] [] = some (.ret (aB r), []) := by
  unfold law23_Great at hm
  obtain ⟨n, rfl, h0⟩ := at1_some hm
  replace hm := h0; clear h0
  refine callL 32 [(0, .agg [.pv (encSl rS a0.fRels), .pv (encSl R_E_api_Expr a0.fWhere), aB a0.fGrouped, .pv (encSl R_E_api_Expr a0.fOut), .pv (encSl R_api_Agg a0.fAggs), .pv (encSl R_api_Key a0.fOrder)]), (1, .pv (encSl R_api_Table a1))] func8 rfl (by kernel_rfl) (sq (det [(1, .pv (encSl R_api_Table a1)), (2, .ptr 0 0)] [.box [.pv (encSl rS a0.fRels), .pv (encSl R_E_api_Expr a0.fWhere), aB a0.fGrouped, .pv (encSl R_E_api_Expr a0.fOut), .pv (encSl R_api_Agg a0.fAggs), .pv (encSl R_api_Key a0.fOrder)] false] (by kernel_rfl) ?_))
  refine sq (sq (rg (s1 1 [(7, .agg [.pv (encSl rS a0.fRels), .pv (encSl R_E_api_Expr a0.fWhere), aB a0.fGrouped, .pv (encSl R_E_api_Expr a0.fOut), .pv (encSl R_api_Agg a0.fAggs), .pv (encSl R_api_Key a0.fOrder)])] ?_)))
  obtain ⟨x1, h2, hm⟩ := bs hm
  refine dv 8 (cpure (by kernel_rfl) (ok_ref23_Bulk h2) (by kernel_rfl) (by kernel_rfl) (by kernel_rfl)) (by kernel_rfl) (s1 2 [(10, aB (decide (x1 > 500))), (9, aB (decide (x1 > 500)))] ?_)
  refine seg (decide (x1 > 500)) [10, 9] (fun b => [(14, aB (b || (decide (((sll a1).length : Int) > 40)))), (13, ifA b (.undef) (aB (decide (((sll a1).length : Int) > 40)))), (12, ifA b (.undef) (aI ((sll a1).length : Int))), (11, ifA b (.undef) (.pv (encSl R_api_Table a1)))]) 8 (by kernel_rfl) ?_ ?_ ?_
  ·
   intro Q h
   refine s1 4 [(14, aB true), (13, .undef), (12, .undef), (11, .undef)] ?_
   exact sameN (by kernel_rfl) (by kernel_rfl) h
  ·
   intro Q h
   refine s1 1 [(11, .pv (encSl R_api_Table a1))] (dv 12 (v := aI ((sll a1).length : Int)) (len_slO R_api_Table a1 t28 (by kernel_rfl)) (by kernel_rfl) (s1 2 [(14, aB (decide (((sll a1).length : Int) > 40))), (13, aB (decide (((sll a1).length : Int) > 40)))] ?_))
   exact sameN (by kernel_rfl) (by kernel_rfl) h
  refine fin [(1, .pv (encSl R_api_Table a1)), (14, aB ((decide (x1 > 500)) || (decide (((sll a1).length : Int) > 40))))] rfl (by kernel_rfl) ?_
  rcases bif_some hm with ⟨h3, hm⟩ | ⟨h3, hm⟩
  ·
   refine c1 h3 (sq (dn [(4, aB true)] (wp_ret ?_)))
   obtain rfl := Option.some.inj hm
   exact ⟨trivial, by kernel_rfl⟩
  ·
   refine c0 h3 (wp_skip ?_)
   obtain ⟨k6, hk6, hm⟩ := withK_some hm
   refine mid (fun t H => (∃ (y4 : Int) (y5 : Bool), k6 () = some r ∧ t = mk 32 [(15, .pv (encSl R_api_Table a1)), (16, aI ((sll a1).length : Int)), (17, aI y4), (18, aB y5)] ∧ H = [.box [.pv (encSl rS a0.fRels), .pv (encSl R_E_api_Expr a0.fWhere), aB a0.fGrouped, .pv (encSl R_E_api_Expr a0.fOut), .pv (encSl R_api_Agg a0.fAggs), .pv (encSl R_api_Key a0.fOrder)] false])) ?_ ?_
   ·
    rintro _ _ ⟨y4, y5, hm, rfl, rfl⟩
    subst hk6
    refine sq (dn [(4, aB false)] (wp_ret ?_))
    obtain rfl := Option.some.inj hm
    exact ⟨trivial, by kernel_rfl⟩
   refine sq (rg (s1 1 [(15, .pv (encSl R_api_Table a1))] (dv 16 (v := aI ((sll a1).length : Int)) (len_slO R_api_Table a1 t28 (by kernel_rfl)) (by kernel_rfl) (fq 1 [(15, .pv (encSl R_api_Table a1)), (16, aI ((sll a1).length : Int)), (17, aI 0)] (bq ?_)))))
   refine loopF (fun mm t H => (∃ (y8 : Int), law23_Great_l4 n a1 k6 mm y8 = some r ∧ t = mk 32 [(15, .pv (encSl R_api_Table a1)), (16, aI ((sll a1).length : Int)), (17, aI y8)] ∧ H = [.box [.pv (encSl rS a0.fRels), .pv (encSl R_E_api_Expr a0.fWhere), aB a0.fGrouped, .pv (encSl R_E_api_Expr a0.fOut), .pv (encSl R_api_Agg a0.fAggs), .pv (encSl R_api_Key a0.fOrder)] false])) (⟨0, hm, rfl, rfl⟩) ?_ ?_
   · rintro _ _ ⟨y8, hm, _⟩; exact nomatch hm
   rintro m9 _ _ ⟨y8, hm, rfl, rfl⟩
   simp only [law23_Great_l4] at hm
   refine sq (dn [(15, .pv (encSl R_api_Table a1)), (16, aI ((sll a1).length : Int)), (17, aI y8), (18, aB (decide (y8 < ((sll a1).length : Int))))] ?_)
   refine sq ?_
   rcases bif_some hm with ⟨h10, hm⟩ | ⟨h10, hm⟩
   ·
    refine c1 h10 (wp_skip (sq (bq (sq (rg ?_)))))
    obtain ⟨x11, h12, hm⟩ := bs hm
    refine dv 19 (v := .pv (.ptr (R_api_Table x11) 0)) (ia_slO R_api_Table a1 .i64 t28 t38 h12 rfl (by kernel_rfl)) (by kernel_rfl) (stf 3 [(6, .ptr 1 0), (15, .pv (encSl R_api_Table a1)), (16, aI ((sll a1).length : Int)), (17, aI y8)] [.box [.pv (encSl rS a0.fRels), .pv (encSl R_E_api_Expr a0.fWhere), aB a0.fGrouped, .pv (encSl R_E_api_Expr a0.fOut), .pv (encSl R_api_Agg a0.fAggs), .pv (encSl R_api_Key a0.fOrder)] false, .box [aS x11.fName, .pv (encSl R_api_Column x11.fCols)] false] (by kernel_rfl) (sq (rg (s1 2 [(22, .pv (encSl R_api_Column x11.fCols)), (21, .ptr 1 1)] (dv 23 (v := aI ((sll x11.fCols).length : Int)) (len_slO R_api_Column x11.fCols t36 (by kernel_rfl)) (by kernel_rfl) (s1 2 [(25, aB (decide (((sll x11.fCols).length : Int) > 40))), (24, aB (decide (((sll x11.fCols).length : Int) > 40)))] ?_))))))
    refine segP (decide (((sll x11.fCols).length : Int) > 40)) [25, 24] (fun b => [(30, aB (b || (decide ((x11.fName.size : Int) > 100)))), (29, ifA b (.undef) (aB (decide ((x11.fName.size : Int) > 100)))), (28, ifA b (.undef) (aI (x11.fName.size : Int))), (27, ifA b (.undef) (aS x11.fName)), (26, ifA b (.undef) (.ptr 1 0))]) 5 (by kernel_rfl) (by kernel_rfl) (by kernel_rfl) (fin [(15, .pv (encSl R_api_Table a1)), (16, aI ((sll a1).length : Int)), (17, aI y8), (30, aB ((decide (((sll x11.fCols).length : Int) > 40)) || (decide ((x11.fName.size : Int) > 100))))] rfl (by kernel_rfl) ?_)
    rcases bif_some hm with ⟨h13, hm⟩ | ⟨h13, hm⟩
    ·
     refine c1 h13 (sq (dn [(4, aB true)] (wp_ret ?_)))
     obtain rfl := Option.some.inj hm
     exact ⟨trivial, by kernel_rfl⟩
    ·
     refine c0 h13 (wp_skip (dn [(15, .pv (encSl R_api_Table a1)), (16, aI ((sll a1).length : Int)), (17, aI (IntKind.wrap .i64 (y8 + 1)))] ?_))
     exact ⟨_, _, tidyL [(15, .pv (encSl R_api_Table a1)), (16, aI ((sll a1).length : Int)), (17, aI (IntKind.wrap .i64 (y8 + 1)))] [.box [.pv (encSl rS a0.fRels), .pv (encSl R_E_api_Expr a0.fWhere), aB a0.fGrouped, .pv (encSl R_E_api_Expr a0.fOut), .pv (encSl R_api_Agg a0.fAggs), .pv (encSl R_api_Key a0.fOrder)] false] (by kernel_rfl), ⟨(IntKind.wrap .i64 (y8 + 1)), hm, rfl, rfl⟩⟩
   ·
    refine c0 h10 (wp_exit ?_)
    exact ⟨y8, (decide (y8 < ((sll a1).length : Int))), hm, rfl, rfl⟩
theorem ok_query_Tables_1_1 {n : Nat} {a0 : api_Table} {a1 : ByteArray} {r : Bool} (hm : query_Tables_1_1 n a0 a1 = some r) :
    call G n 61 [.agg [aS a0.fName, .pv (encSl R_api_Column a0.fCols)], .pv (.ptr [.str a1] 0)] [] = some (.ret (aB r), []) := by
  unfold query_Tables_1_1 at hm
  obtain ⟨n, rfl, h0⟩ := at1_some hm
  replace hm := h0; clear h0
  refine callL 8 [(0, .agg [aS a0.fName, .pv (encSl R_api_Column a0.fCols)]), (1, .pv (.ptr [.str a1] 0))] func61 rfl (by kernel_rfl) (sq (det [(1, .pv (.ptr [.str a1] 0)), (2, .ptr 0 0)] [.box [aS a0.fName, .pv (encSl R_api_Column a0.fCols)] false] (by kernel_rfl) (sq (dn [(3, aB (sEq a0.fName a1))] (wp_ret ?_)))))
  obtain rfl := Option.some.inj hm
  exact ⟨trivial, by kernel_rfl⟩
theorem ok_slices_IndexFunc_Table_query_Tables_1_1 {n : Nat} {a0 : (Option (List api_Table))} {a1 : ByteArray} {r : Int} (hm : slices_IndexFunc_Table_query_Tables_1_1 n a0 a1 = some r) :
    call G n 60 [.pv (encSl R_api_Table a0), .pv (.fn 61 [] [.ptr [.str a1] 0])] [] = some (.ret (aI r), []) := by
  unfold slices_IndexFunc_Table_query_Tables_1_1 at hm
  obtain ⟨n, rfl, h0⟩ := at1_some hm
  replace hm := h0; clear h0
  refine callL 19 [(0, .pv (encSl R_api_Table a0)), (1, .pv (.fn 61 [] [.ptr [.str a1] 0]))] func60 rfl (by kernel_rfl) (sq (dn [(0, .pv (encSl R_api_Table a0)), (1, .pv (.fn 61 [] [.ptr [.str a1] 0]))] ?_))
  obtain ⟨k3, hk3, hm⟩ := withK_some hm
  refine mid (fun t H => (∃ (y1 : Int) (y2 : Bool), k3 () = some r ∧ t = mk 19 [(0, .pv (encSl R_api_Table a0)), (1, .pv (.fn 61 [] [.ptr [.str a1] 0])), (7, aI ((sll a0).length : Int)), (8, aI y1), (9, aB y2)] ∧ H = [])) ?_ ?_
  ·
   rintro _ _ ⟨y1, y2, hm, rfl, rfl⟩
   subst hk3
   refine sq (dn [(4, aI (-1))] (wp_ret ?_))
   obtain rfl := Option.some.inj hm
   exact ⟨trivial, by kernel_rfl⟩
  refine sq (rg (s1 1 [(6, .pv (encSl R_api_Table a0))] (dv 7 (v := aI ((sll a0).length : Int)) (len_slO R_api_Table a0 t28 (by kernel_rfl)) (by kernel_rfl) (fq 1 [(0, .pv (encSl R_api_Table a0)), (1, .pv (.fn 61 [] [.ptr [.str a1] 0])), (7, aI ((sll a0).length : Int)), (8, aI 0)] (bq ?_)))))
  refine loopF (fun mm t H => (∃ (y5 : Int), slices_IndexFunc_Table_query_Tables_1_1_l2 n a0 a1 k3 mm y5 = some r ∧ t = mk 19 [(0, .pv (encSl R_api_Table a0)), (1, .pv (.fn 61 [] [.ptr [.str a1] 0])), (7, aI ((sll a0).length : Int)), (8, aI y5)] ∧ H = [])) (⟨0, hm, rfl, rfl⟩) ?_ ?_
  · rintro _ _ ⟨y5, hm, _⟩; exact nomatch hm
  rintro m6 _ _ ⟨y5, hm, rfl, rfl⟩
  simp only [slices_IndexFunc_Table_query_Tables_1_1_l2] at hm
  refine sq (dn [(0, .pv (encSl R_api_Table a0)), (1, .pv (.fn 61 [] [.ptr [.str a1] 0])), (7, aI ((sll a0).length : Int)), (8, aI y5), (9, aB (decide (y5 < ((sll a0).length : Int))))] ?_)
  refine sq ?_
  rcases bif_some hm with ⟨h7, hm⟩ | ⟨h7, hm⟩
  ·
   refine c1 h7 (wp_skip (sq (bq (sq (dn [(0, .pv (encSl R_api_Table a0)), (1, .pv (.fn 61 [] [.ptr [.str a1] 0])), (5, aI y5), (7, aI ((sll a0).length : Int)), (8, aI y5)] (sq (rg (s1 3 [(13, aI y5), (12, .pv (encSl R_api_Table a0)), (11, .pv (.fn 61 [] [.ptr [.str a1] 0]))] ?_))))))))
   obtain ⟨x8, h9, hm⟩ := bs hm
   refine dv 14 (v := .pv (.ptr (R_api_Table x8) 0)) (ia_slO R_api_Table a0 .i64 t28 t38 h9 rfl (by kernel_rfl)) (by kernel_rfl) (s1 1 [(15, .agg [aS x8.fName, .pv (encSl R_api_Column x8.fCols)])] ?_)
   obtain ⟨x10, h11, hm⟩ := bs hm
   refine dv 16 (cpure (by kernel_rfl) (ok_query_Tables_1_1 h11) (by kernel_rfl) (by kernel_rfl) (by kernel_rfl)) (by kernel_rfl) (fin [(0, .pv (encSl R_api_Table a0)), (1, .pv (.fn 61 [] [.ptr [.str a1] 0])), (5, aI y5), (7, aI ((sll a0).length : Int)), (8, aI y5), (16, aB x10)] rfl (by kernel_rfl) ?_)
   rcases bif_some hm with ⟨h12, hm⟩ | ⟨h12, hm⟩
   ·
    refine c1 h12 (sq (dn [(4, aI y5)] (wp_ret ?_)))
    obtain rfl := Option.some.inj hm
    exact ⟨trivial, by kernel_rfl⟩
   ·
    refine c0 h12 (wp_skip (dn [(0, .pv (encSl R_api_Table a0)), (1, .pv (.fn 61 [] [.ptr [.str a1] 0])), (7, aI ((sll a0).length : Int)), (8, aI (IntKind.wrap .i64 (y5 + 1)))] ?_))
    exact ⟨_, _, tidyL [(0, .pv (encSl R_api_Table a0)), (1, .pv (.fn 61 [] [.ptr [.str a1] 0])), (7, aI ((sll a0).length : Int)), (8, aI (IntKind.wrap .i64 (y5 + 1)))] [] (by kernel_rfl), ⟨(IntKind.wrap .i64 (y5 + 1)), hm, rfl, rfl⟩⟩
  ·
   refine c0 h7 (wp_exit ?_)
   exact ⟨y5, (decide (y5 < ((sll a0).length : Int))), hm, rfl, rfl⟩
theorem ok_slices_Clone_Column {n : Nat} {a0 : (Option (List api_Column))} {r : (Option (List api_Column))} (hm : slices_Clone_Column n a0 = some r) :
    call G n 62 [.pv (encSl R_api_Column a0)] [] = some (.ret (.pv (encSl R_api_Column r)), []) := by
  unfold slices_Clone_Column at hm
  obtain ⟨n, rfl, h0⟩ := at1_some hm
  replace hm := h0; clear h0
  refine callL 8 [(0, .pv (encSl R_api_Column a0))] func62 rfl (by kernel_rfl) (sq (dn [(0, .pv (encSl R_api_Column a0))] (sq (sq (rg (s1 1 [(3, .pv (encSl R_api_Column a0))] (dv 4 (v := aB (a0.isNone)) (nil_eqlO R_api_Column a0 t36 (by kernel_rfl)) (by kernel_rfl) (fin [(0, .pv (encSl R_api_Column a0)), (4, aB (a0.isNone))] rfl (by kernel_rfl) ?_))))))))
  rcases bif_some hm with ⟨h1, hm⟩ | ⟨h1, hm⟩
  ·
   refine c1 h1 (sq (dn [(2, .pv .nils)] (wp_ret ?_)))
   obtain rfl := Option.some.inj hm
   exact ⟨trivial, by kernel_rfl⟩
  ·
   refine c0 h1 (wp_skip (sq (rg (st 2 [(6, .pv (encSl R_api_Column a0)), (5, aR 0 2 0)] [bR 65 2 R_api_Column ([] : List api_Column) 0 0] (by kernel_rfl) ?_))))
   rcases bif_some hm with ⟨h2, hm⟩ | ⟨h2, hm⟩
   ·
    obtain ⟨_, h3, hm⟩ := bs hm
    refine dv 7 (v := aR 0 2 0) (app_ref0O (u := 0) (y := .pv (encSl R_api_Column a0)) (n := 0) (id := 0) R_api_Column ([] : List api_Column) (sll a0) (b := 24) t36 t65 rfl rfl rfl h2 h3 rfl (by first | rfl | assumption | omega | (simp only [List.length_set, List.length_append, List.length_cons, List.length_nil, List.length_replicate, List.length_drop] at * <;> omega)) (Nat.zero_le _) (src_sl (R := R_api_Column) (s := a0)) (by kernel_rfl)) (by kernel_rfl) (fq 1 [(2, aR 0 2 0)] (wp_ret ?_))
    obtain rfl := Option.some.inj hm
    exact ret_pure (v := aR 0 2 0) trivial rfl (by kernel_rfl) (by kernel_rfl)
   ·
    obtain ⟨_, h4, hm⟩ := bs hm
    refine dO [(7, aR 0 2 ((([] : List api_Column) ++ (sll a0)).length))] [bR 65 2 R_api_Column (([] : List api_Column) ++ (sll a0)) 0 0] (app_refO (u := 0) (n := 0) (id := 0) R_api_Column ([] : List api_Column) (sll a0) (b := 24) t36 t65 rfl rfl rfl (fun _ => rfl) h2 h4 rfl (by first | rfl | assumption | omega | (simp only [List.length_set, List.length_append, List.length_cons, List.length_nil, List.length_replicate, List.length_drop] at * <;> omega)) (Nat.zero_le _) (src_sl (R := R_api_Column) (s := a0)) (by kernel_rfl)) (by kernel_rfl) (fq 1 [(2, aR 0 2 ((([] : List api_Column) ++ (sll a0)).length))] (wp_ret ?_))
    obtain rfl := Option.some.inj hm
    exact ret_pure (v := aR 0 2 ((([] : List api_Column) ++ (sll a0)).length)) trivial rfl (by kernel_rfl) (pA_ref (pur_ref' (n := (([] : List api_Column) ++ (sll a0)).length) (id := 0) (l := (([] : List api_Column) ++ (sll a0))) (R := R_api_Column) rfl rfl (Nat.zero_le _)))
theorem ok_query_Tables_1 {n : Nat} {a0 : (Option (List api_Table))} {a1 : ByteArray} {r : (Option (List api_Table))} (hm : query_Tables_1 n a0 a1 = some r) :
    ∃ vv H1, call G n 59 [aS a1, .ptr 0 0, .ptr 1 0] [.box [.pv (encSl R_api_Table a0)] false, .box [.pv .nils] false] = some (.ret vv, H1) ∧ (match r with | none => (vv = aI 40 ∧ H1 = [.box [.pv (encSl R_api_Table a0)] false, .box [.pv .nils] false]) | some r0 => (vv = aI 0 ∧ H1 = [.box [.pv (encSl R_api_Table a0)] false, .box [aR 2 2 r0.length] false, bR 38 2 R_api_Table r0 0 0])) := by
  unfold query_Tables_1 at hm
  obtain ⟨n, rfl, h0⟩ := at1_some hm
  replace hm := h0; clear h0
  refine callE 22 [(0, aS a1), (1, .ptr 0 0), (2, .ptr 1 0)] func59 rfl (by kernel_rfl) (sq (det [(1, .ptr 0 0), (2, .ptr 1 0), (3, .ptr 2 0)] [.box [.pv (encSl R_api_Table a0)] false, .box [.pv .nils] false, .box [aS a1] false] (by kernel_rfl) (sq (rg (s1 2 [(7, .fn 61 [] [.ptr 2 0]), (6, .pv (encSl R_api_Table a0))] ?_)))))
  obtain ⟨x1, h2, hm⟩ := bs hm
  refine dO [(8, aI x1)] [.box [.pv (encSl R_api_Table a0)] false, .box [.pv .nils] false, .box [aS a1] false] (cpureR [2] [.pv (encSl R_api_Table a0), .fn 61 [] [.ptr 2 0]] (fl := true) (by kernel_rfl) (by kernel_rfl) (by kernel_rfl) (ok_slices_IndexFunc_Table_query_Tables_1_1 h2) (by kernel_rfl) (by kernel_rfl)) (by kernel_rfl) (fq 1 [(1, .ptr 0 0), (2, .ptr 1 0), (3, .ptr 2 0), (5, aI x1)] ?_)
  refine sq (sq (dn [(1, .ptr 0 0), (2, .ptr 1 0), (3, .ptr 2 0), (5, aI x1), (10, aB (decide (x1 < 0)))] ?_))
  rcases bif_some hm with ⟨h3, hm⟩ | ⟨h3, hm⟩
  ·
   refine c1 h3 (sq (dn [(4, aI 40)] (wp_ret ?_)))
   obtain rfl := Option.some.inj hm
   exact ⟨trivial, aI 40, [.box [.pv (encSl R_api_Table a0)] false, .box [.pv .nils] false], by kernel_rfl, rfl, rfl⟩
  ·
   refine c0 h3 (wp_skip (sq (rgd (shd 4 [(14, aI x1), (13, .pv (encSl R_api_Table a0)), (12, aS a1), (11, .pv .nils)] (by kernel_rfl) ?_))))
   obtain ⟨x4, h5, hm⟩ := bs hm
   refine dvd 15 (v := .pv (.ptr (R_api_Table x4) 0)) (ia_slO R_api_Table a0 .i64 t28 t38 h5 rfl (by kernel_rfl)) (by kernel_rfl) (shd 2 [(17, .pv (encSl R_api_Column x4.fCols)), (16, .pv (.ptr (R_api_Table x4) 1))] (by kernel_rfl) ?_)
   obtain ⟨x6, h7, hm⟩ := bs hm
   refine dvd 18 (cpure (by kernel_rfl) (ok_slices_Clone_Column h7) (by kernel_rfl) (by kernel_rfl) (by kernel_rfl)) (by kernel_rfl) (std 2 [(20, aR 3 2 1), (19, .agg [aS a1, .pv (encSl R_api_Column x6)])] [.box [.pv (encSl R_api_Table a0)] false, .box [.pv .nils] false, .box [aS a1] false, bR 38 2 R_api_Table ([(api_Table.mk a1 x6)] : List api_Table) 0 0] (by kernel_rfl) ?_)
   obtain ⟨_, h8, hm⟩ := bs hm
   refine dOd [(21, aR 4 2 (([(api_Table.mk a1 x6)] : List api_Table).length))] [.box [.pv (encSl R_api_Table a0)] false, .box [.pv .nils] false, .box [aS a1] false, bR 38 2 R_api_Table ([(api_Table.mk a1 x6)] : List api_Table) 0 0, bR 38 2 R_api_Table ([(api_Table.mk a1 x6)] : List api_Table) 0 0] (app_nilO (u := 0) R_api_Table ([(api_Table.mk a1 x6)] : List api_Table) (b := 40) t28 t38 rfl rfl rfl (fun _ => rfl) rfl h8 (show srcRows (aR 3 2 1) _ = some (([(api_Table.mk a1 x6)] : List api_Table).map R_api_Table) from by kernel_rfl) (by kernel_rfl)) (by kernel_rfl) (std 1 [] [.box [.pv (encSl R_api_Table a0)] false, .box [aR 4 2 (([(api_Table.mk a1 x6)] : List api_Table).length)] false, .box [aS a1] false, bR 38 2 R_api_Table ([(api_Table.mk a1 x6)] : List api_Table) 0 0, bR 38 2 R_api_Table ([(api_Table.mk a1 x6)] : List api_Table) 0 0] (by kernel_rfl) (find [] rfl (by kernel_rfl) (by kernel_rfl) (sq (dn [(4, aI 0)] (wp_ret ?_)))))
   obtain rfl := Option.some.inj hm
   exact ⟨trivial, aI 0, [.box [.pv (encSl R_api_Table a0)] false, .box [aR 2 2 (([(api_Table.mk a1 x6)] : List api_Table).length)] false, bR 38 2 R_api_Table ([(api_Table.mk a1 x6)] : List api_Table) 0 0], by kernel_rfl, rfl, rfl⟩
theorem ok_query_Tables_1_2 (m2 : Nat) (f2 : Nat) {n : Nat} {a0 : (List api_Table)} {a1 : (Option (List api_Table))} {a2 : ByteArray} {r : (List api_Table) × Int} (hm2 : a0.length = m2) (hf2 : f2 ≤ a0.length) (hm : query_Tables_1_2 n a0 a1 a2 = some r) :
    ∃ vv H1, call G n 59 [aS a2, .ptr 0 0, .ptr 1 0] [.box [.pv (encSl R_api_Table a1)] false, .box [aR 2 2 m2] false, bR 38 2 R_api_Table a0 f2 0] = some (.ret vv, H1) ∧ (match r with | (r0, r1) => (∃ (e2 : Nat) (e3 : Nat), r0.length = e2 ∧ e3 ≤ r0.length ∧ vv = aI r1 ∧ H1 = [.box [.pv (encSl R_api_Table a1)] false, .box [aR 2 2 e2] false, bR 38 2 R_api_Table r0 e3 0])) := by
  unfold query_Tables_1_2 at hm
  obtain ⟨n, rfl, h0⟩ := at1_some hm
  replace hm := h0; clear h0
  refine callE 22 [(0, aS a2), (1, .ptr 0 0), (2, .ptr 1 0)] func59 rfl (by kernel_rfl) (sq (det [(1, .ptr 0 0), (2, .ptr 1 0), (3, .ptr 3 0)] [.box [.pv (encSl R_api_Table a1)] false, .box [aR 2 2 m2] false, bR 38 2 R_api_Table a0 f2 0, .box [aS a2] false] (by kernel_rfl) (sq (rg (s1 2 [(7, .fn 61 [] [.ptr 3 0]), (6, .pv (encSl R_api_Table a1))] ?_)))))
  obtain ⟨x1, h2, hm⟩ := bs hm
  refine dO [(8, aI x1)] [.box [.pv (encSl R_api_Table a1)] false, .box [aR 2 2 m2] false, bR 38 2 R_api_Table a0 f2 0, .box [aS a2] false] (cpureR [3] [.pv (encSl R_api_Table a1), .fn 61 [] [.ptr 3 0]] (fl := true) (by kernel_rfl) (by kernel_rfl) (by kernel_rfl) (ok_slices_IndexFunc_Table_query_Tables_1_1 h2) (by kernel_rfl) (by kernel_rfl)) (by kernel_rfl) (fq 1 [(1, .ptr 0 0), (2, .ptr 1 0), (3, .ptr 3 0), (5, aI x1)] ?_)
  refine sq (sq (dn [(1, .ptr 0 0), (2, .ptr 1 0), (3, .ptr 3 0), (5, aI x1), (10, aB (decide (x1 < 0)))] ?_))
  rcases bif_some hm with ⟨h3, hm⟩ | ⟨h3, hm⟩
  ·
   refine c1 h3 (sq (dn [(4, aI 40)] (wp_ret ?_)))
   obtain rfl := Option.some.inj hm
   exact ⟨trivial, aI 40, [.box [.pv (encSl R_api_Table a1)] false, .box [aR 2 2 m2] false, bR 38 2 R_api_Table a0 f2 0], by kernel_rfl, m2, f2, (by first | rfl | assumption | omega | (simp only [List.length_set, List.length_append, List.length_cons, List.length_nil, List.length_replicate, List.length_drop] at * <;> omega)), (by first | exact Nat.zero_le _ | exact Nat.le_refl _ | assumption | omega | (simp only [List.length_set, List.length_append, List.length_cons, List.length_nil, List.length_replicate, List.length_drop] at * <;> omega)), rfl, rfl⟩
  ·
   refine c0 h3 (wp_skip (sq (rgd (shd 4 [(14, aI x1), (13, .pv (encSl R_api_Table a1)), (12, aS a2), (11, aR 2 2 m2)] (by kernel_rfl) ?_))))
   obtain ⟨x4, h5, hm⟩ := bs hm
   refine dvd 15 (v := .pv (.ptr (R_api_Table x4) 0)) (ia_slO R_api_Table a1 .i64 t28 t38 h5 rfl (by kernel_rfl)) (by kernel_rfl) (shd 2 [(17, .pv (encSl R_api_Column x4.fCols)), (16, .pv (.ptr (R_api_Table x4) 1))] (by kernel_rfl) ?_)
   obtain ⟨x6, h7, hm⟩ := bs hm
   refine dvd 18 (cpure (by kernel_rfl) (ok_slices_Clone_Column h7) (by kernel_rfl) (by kernel_rfl) (by kernel_rfl)) (by kernel_rfl) (std 2 [(20, aR 4 2 1), (19, .agg [aS a2, .pv (encSl R_api_Column x6)])] [.box [.pv (encSl R_api_Table a1)] false, .box [aR 2 2 m2] false, bR 38 2 R_api_Table a0 f2 0, .box [aS a2] false, bR 38 2 R_api_Table ([(api_Table.mk a2 x6)] : List api_Table) 0 0] (by kernel_rfl) ?_)
   obtain ⟨_, h8, hm⟩ := bs hm
   refine dOd [(21, aR 2 2 ((a0 ++ ([(api_Table.mk a2 x6)] : List api_Table)).length))] [.box [.pv (encSl R_api_Table a1)] false, .box [aR 2 2 m2] false, bR 38 2 R_api_Table (a0 ++ ([(api_Table.mk a2 x6)] : List api_Table)) f2 0, .box [aS a2] false, bR 38 2 R_api_Table ([(api_Table.mk a2 x6)] : List api_Table) 0 0] (app_refO (u := 0) (n := m2) (id := 2) R_api_Table a0 ([(api_Table.mk a2 x6)] : List api_Table) (b := 40) t28 t38 rfl rfl rfl (fun _ => rfl) rfl h8 rfl (by omega) (by omega) (show srcRows (aR 4 2 1) _ = some (([(api_Table.mk a2 x6)] : List api_Table).map R_api_Table) from by kernel_rfl) (by kernel_rfl)) (by kernel_rfl) (std 1 [] [.box [.pv (encSl R_api_Table a1)] false, .box [aR 2 2 ((a0 ++ ([(api_Table.mk a2 x6)] : List api_Table)).length)] false, bR 38 2 R_api_Table (a0 ++ ([(api_Table.mk a2 x6)] : List api_Table)) f2 0, .box [aS a2] false, bR 38 2 R_api_Table ([(api_Table.mk a2 x6)] : List api_Table) 0 0] (by kernel_rfl) (find [] rfl (by kernel_rfl) (by kernel_rfl) (sq (dn [(4, aI 0)] (wp_ret ?_)))))
   obtain rfl := Option.some.inj hm
   exact ⟨trivial, aI 0, [.box [.pv (encSl R_api_Table a1)] false, .box [aR 2 2 ((a0 ++ ([(api_Table.mk a2 x6)] : List api_Table)).length)] false, bR 38 2 R_api_Table (a0 ++ ([(api_Table.mk a2 x6)] : List api_Table)) f2 0], by kernel_rfl, (a0 ++ ([(api_Table.mk a2 x6)] : List api_Table)).length, f2, (by first | rfl | assumption | omega | (simp only [List.length_set, List.length_append, List.length_cons, List.length_nil, List.length_replicate, List.length_drop] at * <;> omega)), (by first | exact Nat.zero_le _ | exact Nat.le_refl _ | assumption | omega | (simp only [List.length_set, List.length_append, List.length_cons, List.length_nil, List.length_replicate, List.length_drop] at * <;> omega)), rfl, rfl⟩
theorem ok_query_each_string_query_Tables_1 {n : Nat} {a0 : (Option (List api_Table))} {a1 : (Option (List ByteArray))} {r : (Option (List api_Table)) × Int} (hm : query_each_string_query_Tables_1 n a0 a1 = some r) :
    ∃ vv H1, call G n 58 [.pv (encSl rS a1), .fn 59 [] [.ptr 0 0, .ptr 1 0]] [.box [.pv (encSl R_api_Table a0)] false, .box [.pv .nils] false] = some (.ret vv, H1) ∧ (match r with | (none, r0) => (vv = aI r0 ∧ H1 = [.box [.pv (encSl R_api_Table a0)] false, .box [.pv .nils] false]) | (some r1, r0) => (∃ (e2 : Nat) (e3 : Nat), r1.length = e2 ∧ e3 ≤ r1.length ∧ vv = aI r0 ∧ H1 = [.box [.pv (encSl R_api_Table a0)] false, .box [aR 2 2 e2] false, bR 38 2 R_api_Table r1 e3 0])) := by
  unfold query_each_string_query_Tables_1 at hm
  obtain ⟨n, rfl, h0⟩ := at1_some hm
  replace hm := h0; clear h0
  refine callE 21 [(0, .pv (encSl rS a1)), (1, .fn 59 [] [.ptr 0 0, .ptr 1 0])] func58 rfl (by kernel_rfl) (sq (dn [(0, .pv (encSl rS a1)), (1, .fn 59 [] [.ptr 0 0, .ptr 1 0])] ?_))
  obtain ⟨k8, hk8, hm⟩ := withK_some hm
  refine mid (fun t H => (∃ (w1 : AV) (w2 : AV), k8 none = some r ∧ t = mk 21 [(1, .fn 59 [] [.ptr 0 0, .ptr 1 0]), (8, .pv (encSl rS a1)), (9, aI ((sll a1).length : Int)), (10, w1), (11, w2)] ∧ H = [.box [.pv (encSl R_api_Table a0)] false, .box [.pv .nils] false]) ∨ (∃ (y3 : (List api_Table)) (w1 : AV) (w2 : AV) (g4 : Nat) (g6 : Nat), k8 (some y3) = some r ∧ t = mk 21 [(1, .fn 59 [] [.ptr 0 0, .ptr 1 0]), (8, .pv (encSl rS a1)), (9, aI ((sll a1).length : Int)), (10, w1), (11, w2)] ∧ H = [.box [.pv (encSl R_api_Table a0)] false, .box [aR 2 2 g4] false, bR 38 2 R_api_Table y3 g6 0] ∧ y3.length = g4 ∧ g6 ≤ y3.length)) ?_ ?_
  ·
   rintro _ _ (⟨w1, w2, hm, rfl, rfl⟩ | ⟨y3, w1, w2, g4, g6, hm, rfl, rfl, q5, q7⟩)
   ·
    subst hk8
    refine sq (dn [(4, aI 0)] (wp_ret ?_))
    obtain rfl := Option.some.inj hm
    exact ⟨trivial, aI 0, [.box [.pv (encSl R_api_Table a0)] false, .box [.pv .nils] false], by kernel_rfl, rfl, rfl⟩
   ·
    subst hk8
    refine sq (dn [(4, aI 0)] (wp_ret ?_))
    obtain rfl := Option.some.inj hm
    exact ⟨trivial, aI 0, [.box [.pv (encSl R_api_Table a0)] false, .box [aR 2 2 g4] false, bR 38 2 R_api_Table y3 g6 0], by kernel_rfl, g4, g6, (by first | rfl | assumption | omega | (simp only [List.length_set, List.length_append, List.length_cons, List.length_nil, List.length_replicate, List.length_drop] at * <;> omega)), (by first | exact Nat.zero_le _ | exact Nat.le_refl _ | assumption | omega | (simp only [List.length_set, List.length_append, List.length_cons, List.length_nil, List.length_replicate, List.length_drop] at * <;> omega)), rfl, rfl⟩
  refine sq (rg (s1 1 [(8, .pv (encSl rS a1))] (dv 9 (v := aI ((sll a1).length : Int)) (len_slO rS a1 t22 (by kernel_rfl)) (by kernel_rfl) (fq 1 [(1, .fn 59 [] [.ptr 0 0, .ptr 1 0]), (8, .pv (encSl rS a1)), (9, aI ((sll a1).length : Int)), (10, aI 0)] (bq ?_)))))
  refine loopF (fun mm t H => (∃ (y17 : Int), query_each_string_query_Tables_1_l2 n a0 a1 k8 mm none y17 = some r ∧ t = mk 21 [(1, .fn 59 [] [.ptr 0 0, .ptr 1 0]), (8, .pv (encSl rS a1)), (9, aI ((sll a1).length : Int)), (10, aI y17)] ∧ H = [.box [.pv (encSl R_api_Table a0)] false, .box [.pv .nils] false]) ∨ (∃ (y16 : (List api_Table)) (y17 : Int) (g18 : Nat) (g20 : Nat), query_each_string_query_Tables_1_l2 n a0 a1 k8 mm (some y16) y17 = some r ∧ t = mk 21 [(1, .fn 59 [] [.ptr 0 0, .ptr 1 0]), (8, .pv (encSl rS a1)), (9, aI ((sll a1).length : Int)), (10, aI y17)] ∧ H = [.box [.pv (encSl R_api_Table a0)] false, .box [aR 2 2 g18] false, bR 38 2 R_api_Table y16 g20 0] ∧ y16.length = g18 ∧ g20 ≤ y16.length)) (.inl ⟨0, hm, rfl, rfl⟩) ?_ ?_
  · rintro _ _ (⟨y17, hm, _⟩ | ⟨y16, y17, g18, g20, hm, _⟩) <;> exact nomatch hm
  rintro m22 _ _ (⟨y17, hm, rfl, rfl⟩ | ⟨y16, y17, g18, g20, hm, rfl, rfl, q19, q21⟩)
  ·
   simp only [query_each_string_query_Tables_1_l2] at hm
   refine sq (dn [(1, .fn 59 [] [.ptr 0 0, .ptr 1 0]), (8, .pv (encSl rS a1)), (9, aI ((sll a1).length : Int)), (10, aI y17), (11, aB (decide (y17 < ((sll a1).length : Int))))] ?_)
   refine sq ?_
   rcases bif_some hm with ⟨h23, hm⟩ | ⟨h23, hm⟩
   ·
    refine c1 h23 (wp_skip (sq (bq (sq (rg ?_)))))
    obtain ⟨x24, h25, hm⟩ := bs hm
    refine dv 12 (v := .pv (.ptr (rS x24) 0)) (ia_slO rS a1 .i64 t22 t9 h25 rfl (by kernel_rfl)) (by kernel_rfl) (fq 2 [(1, .fn 59 [] [.ptr 0 0, .ptr 1 0]), (6, aS x24), (8, .pv (encSl rS a1)), (9, aI ((sll a1).length : Int)), (10, aI y17)] (sq (rg (s1 2 [(15, aS x24), (14, .fn 59 [] [.ptr 0 0, .ptr 1 0])] ?_))))
    obtain ⟨x28, h26, hm⟩ := bs hm
    rcases x28 with _ | x27
    ·
     obtain ⟨vv, H1, hC, rfl, rfl⟩ := ok_query_Tables_1 h26
     refine dR [(16, aI 40)] [.box [.pv (encSl R_api_Table a0)] false, .box [.pv .nils] false] [0, 1] [aS x24, .ptr 0 0, .ptr 1 0] (by kernel_rfl) (by kernel_rfl) (by kernel_rfl) hC (by kernel_rfl) (fq 1 [(1, .fn 59 [] [.ptr 0 0, .ptr 1 0]), (7, aI 40), (8, .pv (encSl rS a1)), (9, aI ((sll a1).length : Int)), (10, aI y17)] (sq (dn [(1, .fn 59 [] [.ptr 0 0, .ptr 1 0]), (7, aI 40), (8, .pv (encSl rS a1)), (9, aI ((sll a1).length : Int)), (10, aI y17), (18, aB true)] (cT (by kernel_rfl) (sq (dn [(4, aI 40)] (wp_ret ?_)))))))
     obtain rfl := Option.some.inj hm
     exact ⟨trivial, aI 40, [.box [.pv (encSl R_api_Table a0)] false, .box [.pv .nils] false], by kernel_rfl, rfl, rfl⟩
    ·
     obtain ⟨vv, H1, hC, rfl, rfl⟩ := ok_query_Tables_1 h26
     refine dR [(16, aI 0)] [.box [.pv (encSl R_api_Table a0)] false, .box [aR 2 2 x27.length] false, bR 38 2 R_api_Table x27 0 0] [0, 1] [aS x24, .ptr 0 0, .ptr 1 0] (by kernel_rfl) (by kernel_rfl) (by kernel_rfl) hC (by kernel_rfl) (fq 1 [(1, .fn 59 [] [.ptr 0 0, .ptr 1 0]), (7, aI 0), (8, .pv (encSl rS a1)), (9, aI ((sll a1).length : Int)), (10, aI y17)] (sq (dn [(1, .fn 59 [] [.ptr 0 0, .ptr 1 0]), (7, aI 0), (8, .pv (encSl rS a1)), (9, aI ((sll a1).length : Int)), (10, aI y17), (18, aB false)] (cF (by kernel_rfl) (wp_skip (dn [(1, .fn 59 [] [.ptr 0 0, .ptr 1 0]), (8, .pv (encSl rS a1)), (9, aI ((sll a1).length : Int)), (10, aI (IntKind.wrap .i64 (y17 + 1)))] ?_))))))
     exact ⟨_, _, tidyL [(1, .fn 59 [] [.ptr 0 0, .ptr 1 0]), (8, .pv (encSl rS a1)), (9, aI ((sll a1).length : Int)), (10, aI (IntKind.wrap .i64 (y17 + 1)))] [.box [.pv (encSl R_api_Table a0)] false, .box [aR 2 2 x27.length] false, bR 38 2 R_api_Table x27 0 0] (by kernel_rfl), .inr (⟨x27, (IntKind.wrap .i64 (y17 + 1)), x27.length, 0, hm, rfl, rfl, (by first | rfl | assumption | omega | (simp only [List.length_set, List.length_append, List.length_cons, List.length_nil, List.length_replicate, List.length_drop] at * <;> omega)), (by first | exact Nat.zero_le _ | exact Nat.le_refl _ | assumption | omega | (simp only [List.length_set, List.length_append, List.length_cons, List.length_nil, List.length_replicate, List.length_drop] at * <;> omega))⟩)⟩
   ·
    refine c0 h23 (wp_exit ?_)
    exact .inl ⟨aI y17, aB (decide (y17 < ((sll a1).length : Int))), hm, (mk_same (by kernel_rfl)), rfl⟩
  ·
   simp only [query_each_string_query_Tables_1_l2] at hm
   refine sq (dn [(1, .fn 59 [] [.ptr 0 0, .ptr 1 0]), (8, .pv (encSl rS a1)), (9, aI ((sll a1).length : Int)), (10, aI y17), (11, aB (decide (y17 < ((sll a1).length : Int))))] ?_)
   refine sq ?_
   rcases bif_some hm with ⟨h29, hm⟩ | ⟨h29, hm⟩
   ·
    refine c1 h29 (wp_skip (sq (bq (sq (rg ?_)))))
    obtain ⟨x30, h31, hm⟩ := bs hm
    refine dv 12 (v := .pv (.ptr (rS x30) 0)) (ia_slO rS a1 .i64 t22 t9 h31 rfl (by kernel_rfl)) (by kernel_rfl) (fq 2 [(1, .fn 59 [] [.ptr 0 0, .ptr 1 0]), (6, aS x30), (8, .pv (encSl rS a1)), (9, aI ((sll a1).length : Int)), (10, aI y17)] (sq (rg (s1 2 [(15, aS x30), (14, .fn 59 [] [.ptr 0 0, .ptr 1 0])] ?_))))
    obtain ⟨⟨x33, x34⟩, h32, hm⟩ := bs hm
    obtain ⟨vv, H1, hC, g35, g36, q37, q38, rfl, rfl⟩ := ok_query_Tables_1_2 g18 g20 (by first | rfl | assumption | omega | (simp only [List.length_set, List.length_append, List.length_cons, List.length_nil, List.length_replicate, List.length_drop] at * <;> omega)) (by first | exact Nat.zero_le _ | exact Nat.le_refl _ | assumption | omega | (simp only [List.length_set, List.length_append, List.length_cons, List.length_nil, List.length_replicate, List.length_drop] at * <;> omega)) h32
    refine dR [(16, aI x34)] [.box [.pv (encSl R_api_Table a0)] false, .box [aR 2 2 g35] false, bR 38 2 R_api_Table x33 g36 0] [0, 1, 2] [aS x30, .ptr 0 0, .ptr 1 0] (by kernel_rfl) (by kernel_rfl) (by kernel_rfl) hC (by kernel_rfl) (fq 1 [(1, .fn 59 [] [.ptr 0 0, .ptr 1 0]), (7, aI x34), (8, .pv (encSl rS a1)), (9, aI ((sll a1).length : Int)), (10, aI y17)] (sq (dn [(1, .fn 59 [] [.ptr 0 0, .ptr 1 0]), (7, aI x34), (8, .pv (encSl rS a1)), (9, aI ((sll a1).length : Int)), (10, aI y17), (18, aB (x34 != 0))] ?_)))
    rcases bif_some hm with ⟨h39, hm⟩ | ⟨h39, hm⟩
    ·
     refine c1 h39 (sq (dn [(4, aI x34)] (wp_ret ?_)))
     obtain rfl := Option.some.inj hm
     exact ⟨trivial, aI x34, [.box [.pv (encSl R_api_Table a0)] false, .box [aR 2 2 g35] false, bR 38 2 R_api_Table x33 g36 0], by kernel_rfl, g35, g36, (by first | rfl | assumption | omega | (simp only [List.length_set, List.length_append, List.length_cons, List.length_nil, List.length_replicate, List.length_drop] at * <;> omega)), (by first | exact Nat.zero_le _ | exact Nat.le_refl _ | assumption | omega | (simp only [List.length_set, List.length_append, List.length_cons, List.length_nil, List.length_replicate, List.length_drop] at * <;> omega)), rfl, rfl⟩
    ·
     refine c0 h39 (wp_skip (dn [(1, .fn 59 [] [.ptr 0 0, .ptr 1 0]), (8, .pv (encSl rS a1)), (9, aI ((sll a1).length : Int)), (10, aI (IntKind.wrap .i64 (y17 + 1)))] ?_))
     exact ⟨_, _, tidyL [(1, .fn 59 [] [.ptr 0 0, .ptr 1 0]), (8, .pv (encSl rS a1)), (9, aI ((sll a1).length : Int)), (10, aI (IntKind.wrap .i64 (y17 + 1)))] [.box [.pv (encSl R_api_Table a0)] false, .box [aR 2 2 g35] false, bR 38 2 R_api_Table x33 g36 0] (by kernel_rfl), .inr (⟨x33, (IntKind.wrap .i64 (y17 + 1)), g35, g36, hm, rfl, rfl, (by first | rfl | assumption | omega | (simp only [List.length_set, List.length_append, List.length_cons, List.length_nil, List.length_replicate, List.length_drop] at * <;> omega)), (by first | exact Nat.zero_le _ | exact Nat.le_refl _ | assumption | omega | (simp only [List.length_set, List.length_append, List.length_cons, List.length_nil, List.length_replicate, List.length_drop] at * <;> omega))⟩)⟩
   ·
    refine c0 h29 (wp_exit ?_)
    exact .inr (⟨y16, aI y17, aB (decide (y17 < ((sll a1).length : Int))), g18, g20, hm, (mk_same (by kernel_rfl)), rfl, (by first | rfl | assumption | omega | (simp only [List.length_set, List.length_append, List.length_cons, List.length_nil, List.length_replicate, List.length_drop] at * <;> omega)), (by first | exact Nat.zero_le _ | exact Nat.le_refl _ | assumption | omega | (simp only [List.length_set, List.length_append, List.length_cons, List.length_nil, List.length_replicate, List.length_drop] at * <;> omega))⟩)
theorem ok_query_Tables {n : Nat} {a0 : api_Query} {a1 : (Option (List api_Table))} {r : (Option (List api_Table)) × Int} (hm : query_Tables n a0 a1 = some r) :
    call G n 25 [.agg [.pv (encSl rS a0.fRels), .pv (encSl R_E_api_Expr a0.fWhere), aB a0.fGrouped, .pv (encSl R_E_api_Expr a0.fOut), .pv (encSl R_api_Agg a0.fAggs), .pv (encSl R_api_Key a0.fOrder)], .pv (encSl R_api_Table a1)] [] = some (.ret (.tup [.pv (encSl R_api_Table r.1), aI r.2]), []) := by
  unfold query_Tables at hm
  obtain ⟨n, rfl, h0⟩ := at1_some hm
  replace hm := h0; clear h0
  refine callL 26 [(0, .agg [.pv (encSl rS a0.fRels), .pv (encSl R_E_api_Expr a0.fWhere), aB a0.fGrouped, .pv (encSl R_E_api_Expr a0.fOut), .pv (encSl R_api_Agg a0.fAggs), .pv (encSl R_api_Key a0.fOrder)]), (1, .pv (encSl R_api_Table a1))] func25 rfl (by kernel_rfl) (sq (det [(2, .ptr 0 0), (3, .ptr 1 0)] [.box [.pv (encSl rS a0.fRels), .pv (encSl R_E_api_Expr a0.fWhere), aB a0.fGrouped, .pv (encSl R_E_api_Expr a0.fOut), .pv (encSl R_api_Agg a0.fAggs), .pv (encSl R_api_Key a0.fOrder)] false, .box [.pv (encSl R_api_Table a1)] false] (by kernel_rfl) ?_))
  refine sq (bq (sq (rg (s1 2 [(10, .pv (encSl rS a0.fRels)), (9, .ptr 0 0)] (dv 11 (v := aI ((sll a0.fRels).length : Int)) (len_slO rS a0.fRels t22 (by kernel_rfl)) (by kernel_rfl) (fq 2 [(2, .ptr 0 0), (3, .ptr 1 0), (8, aB (decide (((sll a0.fRels).length : Int) > 12)))] ?_))))))
  rcases bif_some hm with ⟨h1, hm⟩ | ⟨h1, hm⟩
  ·
   refine c1 h1 (sq (dn [(4, .pv .nils), (5, aI 51)] (wp_ret ?_)))
   obtain rfl := Option.some.inj hm
   exact ⟨trivial, by kernel_rfl⟩
  ·
   refine c0 h1 (sq (rg (s1 2 [(15, .pv (encSl rS a0.fRels)), (14, .ptr 0 0)] (dv 16 (v := aI ((sll a0.fRels).length : Int)) (len_slO rS a0.fRels t22 (by kernel_rfl)) (by kernel_rfl) (fq 2 [(2, .ptr 0 0), (3, .ptr 1 0), (13, aB (((sll a0.fRels).length : Int) == 0))] ?_)))))
   rcases bif_some hm with ⟨h2, hm⟩ | ⟨h2, hm⟩
   ·
    refine c1 h2 (sq (dn [(4, .pv .nils), (5, aI 2)] (wp_ret ?_)))
    obtain rfl := Option.some.inj hm
    exact ⟨trivial, by kernel_rfl⟩
   ·
    refine c0 h2 (wp_skip (sq (det [(2, .ptr 0 0), (3, .ptr 1 0), (6, .ptr 2 0)] [.box [.pv (encSl rS a0.fRels), .pv (encSl R_E_api_Expr a0.fWhere), aB a0.fGrouped, .pv (encSl R_E_api_Expr a0.fOut), .pv (encSl R_api_Agg a0.fAggs), .pv (encSl R_api_Key a0.fOrder)] false, .box [.pv (encSl R_api_Table a1)] false, .box [.pv .nils] false] (by kernel_rfl) ?_)))
    obtain ⟨k9, hk9, hm⟩ := withK_some hm
    refine mid (fun t H => (∃ (y4 : Int), k9 none y4 = some r ∧ t = mk 26 [(6, .ptr 2 0), (7, aI y4)] ∧ H = [.box [.pv (encSl rS a0.fRels), .pv (encSl R_E_api_Expr a0.fWhere), aB a0.fGrouped, .pv (encSl R_E_api_Expr a0.fOut), .pv (encSl R_api_Agg a0.fAggs), .pv (encSl R_api_Key a0.fOrder)] false, .box [.pv (encSl R_api_Table a1)] false, .box [.pv .nils] false]) ∨ (∃ (y3 : (List api_Table)) (y4 : Int) (g5 : Nat) (g7 : Nat), k9 (some y3) y4 = some r ∧ t = mk 26 [(6, .ptr 2 0), (7, aI y4)] ∧ H = [.box [.pv (encSl rS a0.fRels), .pv (encSl R_E_api_Expr a0.fWhere), aB a0.fGrouped, .pv (encSl R_E_api_Expr a0.fOut), .pv (encSl R_api_Agg a0.fAggs), .pv (encSl R_api_Key a0.fOrder)] false, .box [.pv (encSl R_api_Table a1)] false, .box [aR 3 2 g5] false, bR 38 2 R_api_Table y3 g7 0] ∧ y3.length = g5 ∧ g7 ≤ y3.length)) ?_ ?_
    ·
     rintro _ _ (⟨y4, hm, rfl, rfl⟩ | ⟨y3, y4, g5, g7, hm, rfl, rfl, q6, q8⟩)
     ·
      subst hk9
      refine sq (sq (dn [(6, .ptr 2 0), (7, aI y4), (23, aB (y4 != 0))] ?_))
      rcases bif_some hm with ⟨h10, hm⟩ | ⟨h10, hm⟩
      ·
       refine c1 h10 (sq (dn [(4, .pv .nils), (5, aI y4)] (wp_ret ?_)))
       obtain rfl := Option.some.inj hm
       exact ⟨trivial, by kernel_rfl⟩
      ·
       refine c0 h10 (wp_skip (sq (dn [(4, .pv .nils), (5, aI 0)] (wp_ret ?_))))
       obtain rfl := Option.some.inj hm
       exact ⟨trivial, by kernel_rfl⟩
     ·
      subst hk9
      refine sq (sq (dn [(6, .ptr 2 0), (7, aI y4), (23, aB (y4 != 0))] ?_))
      rcases bif_some hm with ⟨h11, hm⟩ | ⟨h11, hm⟩
      ·
       refine c1 h11 (sq (dn [(4, .pv .nils), (5, aI y4)] (wp_ret ?_)))
       obtain rfl := Option.some.inj hm
       exact ⟨trivial, by kernel_rfl⟩
      ·
       refine c0 h11 (wp_skip (sq (dn [(4, aR 3 2 g5), (5, aI 0)] (wp_ret ?_))))
       obtain rfl := Option.some.inj hm
       exact ret_pure (v := .tup [aR 3 2 g5, aI 0]) trivial rfl (by kernel_rfl) (pR_tup (pAs_cons (pA_ref (pur_ref' (n := g5) (id := 3) (l := y3) (R := R_api_Table) rfl (by omega) (by omega))) (pAs_cons (pA_pv) (rfl))))
    refine rg (s1 3 [(20, .fn 59 [] [.ptr 1 0, .ptr 2 0]), (19, .pv (encSl rS a0.fRels)), (18, .ptr 0 0)] ?_)
    obtain ⟨x15, h12, hm⟩ := bs hm
    rcases x15 with ⟨_ | x13, x14⟩
    ·
     obtain ⟨vv, H1, hC, rfl, rfl⟩ := ok_query_each_string_query_Tables_1 h12
     refine dR [(21, aI x14)] [.box [.pv (encSl rS a0.fRels), .pv (encSl R_E_api_Expr a0.fWhere), aB a0.fGrouped, .pv (encSl R_E_api_Expr a0.fOut), .pv (encSl R_api_Agg a0.fAggs), .pv (encSl R_api_Key a0.fOrder)] false, .box [.pv (encSl R_api_Table a1)] false, .box [.pv .nils] false] [1, 2] [.pv (encSl rS a0.fRels), .fn 59 [] [.ptr 1 0, .ptr 2 0]] (by kernel_rfl) (by kernel_rfl) (by kernel_rfl) hC (by kernel_rfl) (fq 1 [(6, .ptr 2 0), (7, aI x14)] ?_)
     exact .inl ⟨x14, hm, rfl, rfl⟩
    ·
     obtain ⟨vv, H1, hC, g16, g17, q18, q19, rfl, rfl⟩ := ok_query_each_string_query_Tables_1 h12
     refine dR [(21, aI x14)] [.box [.pv (encSl rS a0.fRels), .pv (encSl R_E_api_Expr a0.fWhere), aB a0.fGrouped, .pv (encSl R_E_api_Expr a0.fOut), .pv (encSl R_api_Agg a0.fAggs), .pv (encSl R_api_Key a0.fOrder)] false, .box [.pv (encSl R_api_Table a1)] false, .box [aR 3 2 g16] false, bR 38 2 R_api_Table x13 g17 0] [1, 2] [.pv (encSl rS a0.fRels), .fn 59 [] [.ptr 1 0, .ptr 2 0]] (by kernel_rfl) (by kernel_rfl) (by kernel_rfl) hC (by kernel_rfl) (fq 1 [(6, .ptr 2 0), (7, aI x14)] ?_)
     exact .inr (⟨x13, x14, g16, g17, hm, rfl, rfl, (by first | rfl | assumption | omega | (simp only [List.length_set, List.length_append, List.length_cons, List.length_nil, List.length_replicate, List.length_drop] at * <;> omega)), (by first | exact Nat.zero_le _ | exact Nat.le_refl _ | assumption | omega | (simp only [List.length_set, List.length_append, List.length_cons, List.length_nil, List.length_replicate, List.length_drop] at * <;> omega))⟩)
theorem ok_query_Width {n : Nat} {a0 : api_Query} {r : Int} (hm : query_Width n a0 = some r) :
    call G n 23 [.agg [.pv (encSl rS a0.fRels), .pv (encSl R_E_api_Expr a0.fWhere), aB a0.fGrouped, .pv (encSl R_E_api_Expr a0.fOut), .pv (encSl R_api_Agg a0.fAggs), .pv (encSl R_api_Key a0.fOrder)]] [] = some (.ret (aI r), []) := by
  unfold query_Width at hm
  obtain ⟨n, rfl, h0⟩ := at1_some hm
  replace hm := h0; clear h0
  refine callL 10 [(0, .agg [.pv (encSl rS a0.fRels), .pv (encSl R_E_api_Expr a0.fWhere), aB a0.fGrouped, .pv (encSl R_E_api_Expr a0.fOut), .pv (encSl R_api_Agg a0.fAggs), .pv (encSl R_api_Key a0.fOrder)])] func23 rfl (by kernel_rfl) (sq (det [(1, .ptr 0 0)] [.box [.pv (encSl rS a0.fRels), .pv (encSl R_E_api_Expr a0.fWhere), aB a0.fGrouped, .pv (encSl R_E_api_Expr a0.fOut), .pv (encSl R_api_Agg a0.fAggs), .pv (encSl R_api_Key a0.fOrder)] false] (by kernel_rfl) (sq (rg (s1 2 [(4, .pv (encSl R_E_api_Expr a0.fOut)), (3, .ptr 0 3)] (dv 5 (v := aI ((sll a0.fOut).length : Int)) (len_slO R_E_api_Expr a0.fOut t23 (by kernel_rfl)) (by kernel_rfl) (s1 2 [(7, .pv (encSl R_api_Agg a0.fAggs)), (6, .ptr 0 4)] (dv 8 (v := aI ((sll a0.fAggs).length : Int)) (len_slO R_api_Agg a0.fAggs t24 (by kernel_rfl)) (by kernel_rfl) (fq 2 [(2, aI (IntKind.wrap .i64 (((sll a0.fOut).length : Int) + ((sll a0.fAggs).length : Int))))] (wp_ret ?_))))))))))
  obtain rfl := Option.some.inj hm
  exact ⟨trivial, by kernel_rfl⟩
theorem ok_query_shaped_1 {n : Nat} {a0 : api_Agg} {r : Bool} (hm : query_shaped_1 n a0 = some r) :
    call G n 64 [.agg [aI a0.fKind, aI a0.fOf.fKind, aI a0.fOf.fRel, aI a0.fOf.fCol, aI a0.fOf.fConst.fKind, aI a0.fOf.fConst.fInt, aF a0.fOf.fConst.fFloat, aS a0.fOf.fConst.fText, .pv (encSl R_E_api_Expr a0.fOf.fKids)]] [] = some (.ret (aB r), []) := by
  unfold query_shaped_1 at hm
  obtain ⟨n, rfl, h0⟩ := at1_some hm
  replace hm := h0; clear h0
  refine callL 11 [(0, .agg [aI a0.fKind, aI a0.fOf.fKind, aI a0.fOf.fRel, aI a0.fOf.fCol, aI a0.fOf.fConst.fKind, aI a0.fOf.fConst.fInt, aF a0.fOf.fConst.fFloat, aS a0.fOf.fConst.fText, .pv (encSl R_E_api_Expr a0.fOf.fKids)])] func64 rfl (by kernel_rfl) (sq (det [(1, .ptr 0 0)] [.box [aI a0.fKind, aI a0.fOf.fKind, aI a0.fOf.fRel, aI a0.fOf.fCol, aI a0.fOf.fConst.fKind, aI a0.fOf.fConst.fInt, aF a0.fOf.fConst.fFloat, aS a0.fOf.fConst.fText, .pv (encSl R_E_api_Expr a0.fOf.fKids)] false] (by kernel_rfl) (sq (rg (s1 4 [(6, aB (decide (a0.fKind < 1))), (5, aB (decide (a0.fKind < 1))), (4, aI a0.fKind), (3, .ptr 0 0)] ?_)))))
  refine segP (decide (a0.fKind < 1)) [6, 5] (fun b => [(10, aB (b || (decide (a0.fKind > 4)))), (9, ifA b (.undef) (aB (decide (a0.fKind > 4)))), (8, ifA b (.undef) (aI a0.fKind)), (7, ifA b (.undef) (.ptr 0 0))]) 4 (by kernel_rfl) (by kernel_rfl) (by kernel_rfl) (fq 1 [(2, aB ((decide (a0.fKind < 1)) || (decide (a0.fKind > 4))))] (wp_ret ?_))
  obtain rfl := Option.some.inj hm
  exact ⟨trivial, by kernel_rfl⟩
theorem ok_slices_IndexFunc_Agg_query_shaped_1 {n : Nat} {a0 : (Option (List api_Agg))} {r : Int} (hm : slices_IndexFunc_Agg_query_shaped_1 n a0 = some r) :
    call G n 89 [.pv (encSl R_api_Agg a0), .pv (.fn 64 [] [])] [] = some (.ret (aI r), []) := by
  unfold slices_IndexFunc_Agg_query_shaped_1 at hm
  obtain ⟨n, rfl, h0⟩ := at1_some hm
  replace hm := h0; clear h0
  refine callL 19 [(0, .pv (encSl R_api_Agg a0)), (1, .pv (.fn 64 [] []))] func89 rfl (by kernel_rfl) (sq (dn [(0, .pv (encSl R_api_Agg a0)), (1, .pv (.fn 64 [] []))] ?_))
  obtain ⟨k3, hk3, hm⟩ := withK_some hm
  refine mid (fun t H => (∃ (y1 : Int) (y2 : Bool), k3 () = some r ∧ t = mk 19 [(0, .pv (encSl R_api_Agg a0)), (1, .pv (.fn 64 [] [])), (7, aI ((sll a0).length : Int)), (8, aI y1), (9, aB y2)] ∧ H = [])) ?_ ?_
  ·
   rintro _ _ ⟨y1, y2, hm, rfl, rfl⟩
   subst hk3
   refine sq (dn [(4, aI (-1))] (wp_ret ?_))
   obtain rfl := Option.some.inj hm
   exact ⟨trivial, by kernel_rfl⟩
  refine sq (rg (s1 1 [(6, .pv (encSl R_api_Agg a0))] (dv 7 (v := aI ((sll a0).length : Int)) (len_slO R_api_Agg a0 t24 (by kernel_rfl)) (by kernel_rfl) (fq 1 [(0, .pv (encSl R_api_Agg a0)), (1, .pv (.fn 64 [] [])), (7, aI ((sll a0).length : Int)), (8, aI 0)] (bq ?_)))))
  refine loopF (fun mm t H => (∃ (y5 : Int), slices_IndexFunc_Agg_query_shaped_1_l2 n a0 k3 mm y5 = some r ∧ t = mk 19 [(0, .pv (encSl R_api_Agg a0)), (1, .pv (.fn 64 [] [])), (7, aI ((sll a0).length : Int)), (8, aI y5)] ∧ H = [])) (⟨0, hm, rfl, rfl⟩) ?_ ?_
  · rintro _ _ ⟨y5, hm, _⟩; exact nomatch hm
  rintro m6 _ _ ⟨y5, hm, rfl, rfl⟩
  simp only [slices_IndexFunc_Agg_query_shaped_1_l2] at hm
  refine sq (dn [(0, .pv (encSl R_api_Agg a0)), (1, .pv (.fn 64 [] [])), (7, aI ((sll a0).length : Int)), (8, aI y5), (9, aB (decide (y5 < ((sll a0).length : Int))))] ?_)
  refine sq ?_
  rcases bif_some hm with ⟨h7, hm⟩ | ⟨h7, hm⟩
  ·
   refine c1 h7 (wp_skip (sq (bq (sq (dn [(0, .pv (encSl R_api_Agg a0)), (1, .pv (.fn 64 [] [])), (5, aI y5), (7, aI ((sll a0).length : Int)), (8, aI y5)] (sq (rg (s1 3 [(13, aI y5), (12, .pv (encSl R_api_Agg a0)), (11, .pv (.fn 64 [] []))] ?_))))))))
   obtain ⟨x8, h9, hm⟩ := bs hm
   refine dv 14 (v := .pv (.ptr (R_api_Agg x8) 0)) (ia_slO R_api_Agg a0 .i64 t24 t82 h9 rfl (by kernel_rfl)) (by kernel_rfl) (s1 1 [(15, .agg [aI x8.fKind, aI x8.fOf.fKind, aI x8.fOf.fRel, aI x8.fOf.fCol, aI x8.fOf.fConst.fKind, aI x8.fOf.fConst.fInt, aF x8.fOf.fConst.fFloat, aS x8.fOf.fConst.fText, .pv (encSl R_E_api_Expr x8.fOf.fKids)])] ?_)
   obtain ⟨x10, h11, hm⟩ := bs hm
   refine dv 16 (cpure (by kernel_rfl) (ok_query_shaped_1 h11) (by kernel_rfl) (by kernel_rfl) (by kernel_rfl)) (by kernel_rfl) (fin [(0, .pv (encSl R_api_Agg a0)), (1, .pv (.fn 64 [] [])), (5, aI y5), (7, aI ((sll a0).length : Int)), (8, aI y5), (16, aB x10)] rfl (by kernel_rfl) ?_)
   rcases bif_some hm with ⟨h12, hm⟩ | ⟨h12, hm⟩
   ·
    refine c1 h12 (sq (dn [(4, aI y5)] (wp_ret ?_)))
    obtain rfl := Option.some.inj hm
    exact ⟨trivial, by kernel_rfl⟩
   ·
    refine c0 h12 (wp_skip (dn [(0, .pv (encSl R_api_Agg a0)), (1, .pv (.fn 64 [] [])), (7, aI ((sll a0).length : Int)), (8, aI (IntKind.wrap .i64 (y5 + 1)))] ?_))
    exact ⟨_, _, tidyL [(0, .pv (encSl R_api_Agg a0)), (1, .pv (.fn 64 [] [])), (7, aI ((sll a0).length : Int)), (8, aI (IntKind.wrap .i64 (y5 + 1)))] [] (by kernel_rfl), ⟨(IntKind.wrap .i64 (y5 + 1)), hm, rfl, rfl⟩⟩
  ·
   refine c0 h7 (wp_exit ?_)
   exact ⟨y5, (decide (y5 < ((sll a0).length : Int))), hm, rfl, rfl⟩
theorem ok_slices_ContainsFunc_Agg_query_shaped_1 {n : Nat} {a0 : (Option (List api_Agg))} {r : Bool} (hm : slices_ContainsFunc_Agg_query_shaped_1 n a0 = some r) :
    call G n 63 [.pv (encSl R_api_Agg a0), .pv (.fn 64 [] [])] [] = some (.ret (aB r), []) := by
  unfold slices_ContainsFunc_Agg_query_shaped_1 at hm
  obtain ⟨n, rfl, h0⟩ := at1_some hm
  replace hm := h0; clear h0
  refine callL 9 [(0, .pv (encSl R_api_Agg a0)), (1, .pv (.fn 64 [] []))] func63 rfl (by kernel_rfl) (sq (dn [(0, .pv (encSl R_api_Agg a0)), (1, .pv (.fn 64 [] []))] (sq (rg (s1 2 [(6, .pv (.fn 64 [] [])), (5, .pv (encSl R_api_Agg a0))] ?_)))))
  obtain ⟨x1, h2, hm⟩ := bs hm
  refine dv 7 (cpure (by kernel_rfl) (ok_slices_IndexFunc_Agg_query_shaped_1 h2) (by kernel_rfl) (by kernel_rfl) (by kernel_rfl)) (by kernel_rfl) (fq 2 [(4, aB (decide (x1 ≥ 0)))] (wp_ret ?_))
  obtain rfl := Option.some.inj hm
  exact ⟨trivial, by kernel_rfl⟩
theorem ok_query_shaped_2 {n : Nat} {a0 : api_Key} {a1 : (Option (List ByteArray))} {a2 : (Option (List E_api_Expr))} {a3 : Bool} {a4 : (Option (List E_api_Expr))} {a5 : (Option (List api_Agg))} {a6 : (Option (List api_Key))} {r : Bool} (hm : query_shaped_2 n a0 a1 a2 a3 a4 a5 a6 = some r) :
    call G n 66 [.agg [aI a0.fOut, aB a0.fDesc], .pv (.ptr [encSl rS a1, encSl R_E_api_Expr a2, .bool a3, encSl R_E_api_Expr a4, encSl R_api_Agg a5, encSl R_api_Key a6] 0)] [] = some (.ret (aB r), []) := by
  unfold query_shaped_2 at hm
  obtain ⟨n, rfl, h0⟩ := at1_some hm
  replace hm := h0; clear h0
  refine callL 14 [(0, .agg [aI a0.fOut, aB a0.fDesc]), (1, .pv (.ptr [encSl rS a1, encSl R_E_api_Expr a2, .bool a3, encSl R_E_api_Expr a4, encSl R_api_Agg a5, encSl R_api_Key a6] 0))] func66 rfl (by kernel_rfl) (sq (det [(1, .pv (.ptr [encSl rS a1, encSl R_E_api_Expr a2, .bool a3, encSl R_E_api_Expr a4, encSl R_api_Agg a5, encSl R_api_Key a6] 0)), (2, .ptr 0 0)] [.box [aI a0.fOut, aB a0.fDesc] false] (by kernel_rfl) (sq (rgd (shd 4 [(7, aB (decide (a0.fOut < 0))), (6, aB (decide (a0.fOut < 0))), (5, aI a0.fOut), (4, .ptr 0 0)] (by kernel_rfl) ?_)))))
  rcases bif_some hm with ⟨h1, hm⟩ | ⟨h1, hm⟩
  ·
   refine knownd [7, 6] h1 (by kernel_rfl) (shd 7 [(3, aB true), (13, aB true), (12, .undef), (11, .undef), (10, .undef), (9, .undef), (8, .undef)] (by kernel_rfl) (find [(3, aB true)] rfl (by kernel_rfl) (by kernel_rfl) (wp_ret ?_)))
   obtain rfl := Option.some.inj hm
   exact ⟨trivial, by kernel_rfl⟩
  ·
   refine knownd [7, 6] h1 (by kernel_rfl) (shd 3 [(10, .agg [.pv (encSl rS a1), .pv (encSl R_E_api_Expr a2), aB a3, .pv (encSl R_E_api_Expr a4), .pv (encSl R_api_Agg a5), .pv (encSl R_api_Key a6)]), (9, aI a0.fOut), (8, .ptr 0 0)] (by kernel_rfl) ?_)
   obtain ⟨x2, h3, hm⟩ := bs hm
   refine dvd 11 (cpure (by kernel_rfl) (ok_query_Width h3) (by kernel_rfl) (by kernel_rfl) (by kernel_rfl)) (by kernel_rfl) (shd 3 [(3, aB (decide (a0.fOut ≥ x2))), (13, aB (decide (a0.fOut ≥ x2))), (12, aB (decide (a0.fOut ≥ x2)))] (by kernel_rfl) (find [(3, aB (decide (a0.fOut ≥ x2)))] rfl (by kernel_rfl) (by kernel_rfl) (wp_ret ?_)))
   obtain rfl := Option.some.inj hm
   exact ⟨trivial, by kernel_rfl⟩
theorem ok_slices_IndexFunc_Key_query_shaped_2 {n : Nat} {a0 : (Option (List api_Key))} {a1 : (Option (List ByteArray))} {a2 : (Option (List E_api_Expr))} {a3 : Bool} {a4 : (Option (List E_api_Expr))} {a5 : (Option (List api_Agg))} {a6 : (Option (List api_Key))} {r : Int} (hm : slices_IndexFunc_Key_query_shaped_2 n a0 a1 a2 a3 a4 a5 a6 = some r) :
    call G n 90 [.pv (encSl R_api_Key a0), .pv (.fn 66 [] [.ptr [encSl rS a1, encSl R_E_api_Expr a2, .bool a3, encSl R_E_api_Expr a4, encSl R_api_Agg a5, encSl R_api_Key a6] 0])] [] = some (.ret (aI r), []) := by
  unfold slices_IndexFunc_Key_query_shaped_2 at hm
  obtain ⟨n, rfl, h0⟩ := at1_some hm
  replace hm := h0; clear h0
  refine callL 19 [(0, .pv (encSl R_api_Key a0)), (1, .pv (.fn 66 [] [.ptr [encSl rS a1, encSl R_E_api_Expr a2, .bool a3, encSl R_E_api_Expr a4, encSl R_api_Agg a5, encSl R_api_Key a6] 0]))] func90 rfl (by kernel_rfl) (sq (dn [(0, .pv (encSl R_api_Key a0)), (1, .pv (.fn 66 [] [.ptr [encSl rS a1, encSl R_E_api_Expr a2, .bool a3, encSl R_E_api_Expr a4, encSl R_api_Agg a5, encSl R_api_Key a6] 0]))] ?_))
  obtain ⟨k3, hk3, hm⟩ := withK_some hm
  refine mid (fun t H => (∃ (y1 : Int) (y2 : Bool), k3 () = some r ∧ t = mk 19 [(0, .pv (encSl R_api_Key a0)), (1, .pv (.fn 66 [] [.ptr [encSl rS a1, encSl R_E_api_Expr a2, .bool a3, encSl R_E_api_Expr a4, encSl R_api_Agg a5, encSl R_api_Key a6] 0])), (7, aI ((sll a0).length : Int)), (8, aI y1), (9, aB y2)] ∧ H = [])) ?_ ?_
  ·
   rintro _ _ ⟨y1, y2, hm, rfl, rfl⟩
   subst hk3
   refine sq (dn [(4, aI (-1))] (wp_ret ?_))
   obtain rfl := Option.some.inj hm
   exact ⟨trivial, by kernel_rfl⟩
  refine sq (rg (s1 1 [(6, .pv (encSl R_api_Key a0))] (dv 7 (v := aI ((sll a0).length : Int)) (len_slO R_api_Key a0 t25 (by kernel_rfl)) (by kernel_rfl) (fq 1 [(0, .pv (encSl R_api_Key a0)), (1, .pv (.fn 66 [] [.ptr [encSl rS a1, encSl R_E_api_Expr a2, .bool a3, encSl R_E_api_Expr a4, encSl R_api_Agg a5, encSl R_api_Key a6] 0])), (7, aI ((sll a0).length : Int)), (8, aI 0)] (bq ?_)))))
  refine loopF (fun mm t H => (∃ (y5 : Int), slices_IndexFunc_Key_query_shaped_2_l2 n a0 a1 a2 a3 a4 a5 a6 k3 mm y5 = some r ∧ t = mk 19 [(0, .pv (encSl R_api_Key a0)), (1, .pv (.fn 66 [] [.ptr [encSl rS a1, encSl R_E_api_Expr a2, .bool a3, encSl R_E_api_Expr a4, encSl R_api_Agg a5, encSl R_api_Key a6] 0])), (7, aI ((sll a0).length : Int)), (8, aI y5)] ∧ H = [])) (⟨0, hm, rfl, rfl⟩) ?_ ?_
  · rintro _ _ ⟨y5, hm, _⟩; exact nomatch hm
  rintro m6 _ _ ⟨y5, hm, rfl, rfl⟩
  simp only [slices_IndexFunc_Key_query_shaped_2_l2] at hm
  refine sq (dn [(0, .pv (encSl R_api_Key a0)), (1, .pv (.fn 66 [] [.ptr [encSl rS a1, encSl R_E_api_Expr a2, .bool a3, encSl R_E_api_Expr a4, encSl R_api_Agg a5, encSl R_api_Key a6] 0])), (7, aI ((sll a0).length : Int)), (8, aI y5), (9, aB (decide (y5 < ((sll a0).length : Int))))] ?_)
  refine sq ?_
  rcases bif_some hm with ⟨h7, hm⟩ | ⟨h7, hm⟩
  ·
   refine c1 h7 (wp_skip (sq (bq (sq (dn [(0, .pv (encSl R_api_Key a0)), (1, .pv (.fn 66 [] [.ptr [encSl rS a1, encSl R_E_api_Expr a2, .bool a3, encSl R_E_api_Expr a4, encSl R_api_Agg a5, encSl R_api_Key a6] 0])), (5, aI y5), (7, aI ((sll a0).length : Int)), (8, aI y5)] (sq (rg (s1 3 [(13, aI y5), (12, .pv (encSl R_api_Key a0)), (11, .pv (.fn 66 [] [.ptr [encSl rS a1, encSl R_E_api_Expr a2, .bool a3, encSl R_E_api_Expr a4, encSl R_api_Agg a5, encSl R_api_Key a6] 0]))] ?_))))))))
   obtain ⟨x8, h9, hm⟩ := bs hm
   refine dv 14 (v := .pv (.ptr (R_api_Key x8) 0)) (ia_slO R_api_Key a0 .i64 t25 t67 h9 rfl (by kernel_rfl)) (by kernel_rfl) (s1 1 [(15, .agg [aI x8.fOut, aB x8.fDesc])] ?_)
   obtain ⟨x10, h11, hm⟩ := bs hm
   refine dv 16 (cpure (by kernel_rfl) (ok_query_shaped_2 h11) (by kernel_rfl) (by kernel_rfl) (by kernel_rfl)) (by kernel_rfl) (fin [(0, .pv (encSl R_api_Key a0)), (1, .pv (.fn 66 [] [.ptr [encSl rS a1, encSl R_E_api_Expr a2, .bool a3, encSl R_E_api_Expr a4, encSl R_api_Agg a5, encSl R_api_Key a6] 0])), (5, aI y5), (7, aI ((sll a0).length : Int)), (8, aI y5), (16, aB x10)] rfl (by kernel_rfl) ?_)
   rcases bif_some hm with ⟨h12, hm⟩ | ⟨h12, hm⟩
   ·
    refine c1 h12 (sq (dn [(4, aI y5)] (wp_ret ?_)))
    obtain rfl := Option.some.inj hm
    exact ⟨trivial, by kernel_rfl⟩
   ·
    refine c0 h12 (wp_skip (dn [(0, .pv (encSl R_api_Key a0)), (1, .pv (.fn 66 [] [.ptr [encSl rS a1, encSl R_E_api_Expr a2, .bool a3, encSl R_E_api_Expr a4, encSl R_api_Agg a5, encSl R_api_Key a6] 0])), (7, aI ((sll a0).length : Int)), (8, aI (IntKind.wrap .i64 (y5 + 1)))] ?_))
    exact ⟨_, _, tidyL [(0, .pv (encSl R_api_Key a0)), (1, .pv (.fn 66 [] [.ptr [encSl rS a1, encSl R_E_api_Expr a2, .bool a3, encSl R_E_api_Expr a4, encSl R_api_Agg a5, encSl R_api_Key a6] 0])), (7, aI ((sll a0).length : Int)), (8, aI (IntKind.wrap .i64 (y5 + 1)))] [] (by kernel_rfl), ⟨(IntKind.wrap .i64 (y5 + 1)), hm, rfl, rfl⟩⟩
  ·
   refine c0 h7 (wp_exit ?_)
   exact ⟨y5, (decide (y5 < ((sll a0).length : Int))), hm, rfl, rfl⟩
theorem ok_slices_ContainsFunc_Key_query_shaped_2 {n : Nat} {a0 : (Option (List api_Key))} {a1 : (Option (List ByteArray))} {a2 : (Option (List E_api_Expr))} {a3 : Bool} {a4 : (Option (List E_api_Expr))} {a5 : (Option (List api_Agg))} {a6 : (Option (List api_Key))} {r : Bool} (hm : slices_ContainsFunc_Key_query_shaped_2 n a0 a1 a2 a3 a4 a5 a6 = some r) :
    call G n 65 [.pv (encSl R_api_Key a0), .pv (.fn 66 [] [.ptr [encSl rS a1, encSl R_E_api_Expr a2, .bool a3, encSl R_E_api_Expr a4, encSl R_api_Agg a5, encSl R_api_Key a6] 0])] [] = some (.ret (aB r), []) := by
  unfold slices_ContainsFunc_Key_query_shaped_2 at hm
  obtain ⟨n, rfl, h0⟩ := at1_some hm
  replace hm := h0; clear h0
  refine callL 9 [(0, .pv (encSl R_api_Key a0)), (1, .pv (.fn 66 [] [.ptr [encSl rS a1, encSl R_E_api_Expr a2, .bool a3, encSl R_E_api_Expr a4, encSl R_api_Agg a5, encSl R_api_Key a6] 0]))] func65 rfl (by kernel_rfl) (sq (dn [(0, .pv (encSl R_api_Key a0)), (1, .pv (.fn 66 [] [.ptr [encSl rS a1, encSl R_E_api_Expr a2, .bool a3, encSl R_E_api_Expr a4, encSl R_api_Agg a5, encSl R_api_Key a6] 0]))] (sq (rg (s1 2 [(6, .pv (.fn 66 [] [.ptr [encSl rS a1, encSl R_E_api_Expr a2, .bool a3, encSl R_E_api_Expr a4, encSl R_api_Agg a5, encSl R_api_Key a6] 0])), (5, .pv (encSl R_api_Key a0))] ?_)))))
  obtain ⟨x1, h2, hm⟩ := bs hm
  refine dv 7 (cpure (by kernel_rfl) (ok_slices_IndexFunc_Key_query_shaped_2 h2) (by kernel_rfl) (by kernel_rfl) (by kernel_rfl)) (by kernel_rfl) (fq 2 [(4, aB (decide (x1 ≥ 0)))] (wp_ret ?_))
  obtain rfl := Option.some.inj hm
  exact ⟨trivial, by kernel_rfl⟩
theorem ok_query_shaped {n : Nat} {a0 : api_Query} {r : Bool} (hm : query_shaped n a0 = some r) :
    call G n 26 [.agg [.pv (encSl rS a0.fRels), .pv (encSl R_E_api_Expr a0.fWhere), aB a0.fGrouped, .pv (encSl R_E_api_Expr a0.fOut), .pv (encSl R_api_Agg a0.fAggs), .pv (encSl R_api_Key a0.fOrder)]] [] = some (.ret (aB r), []) := by
  unfold query_shaped at hm
  obtain ⟨n, rfl, h0⟩ := at1_some hm
  replace hm := h0; clear h0
  refine callL 53 [(0, .agg [.pv (encSl rS a0.fRels), .pv (encSl R_E_api_Expr a0.fWhere), aB a0.fGrouped, .pv (encSl R_E_api_Expr a0.fOut), .pv (encSl R_api_Agg a0.fAggs), .pv (encSl R_api_Key a0.fOrder)])] func26 rfl (by kernel_rfl) (sq (det [(1, .ptr 0 0)] [.box [.pv (encSl rS a0.fRels), .pv (encSl R_E_api_Expr a0.fWhere), aB a0.fGrouped, .pv (encSl R_E_api_Expr a0.fOut), .pv (encSl R_api_Agg a0.fAggs), .pv (encSl R_api_Key a0.fOrder)] false] (by kernel_rfl) ?_))
  refine sq (sq (rg (s1 2 [(4, .pv (encSl R_E_api_Expr a0.fWhere)), (3, .ptr 0 1)] (dv 5 (v := aI ((sll a0.fWhere).length : Int)) (len_slO R_E_api_Expr a0.fWhere t23 (by kernel_rfl)) (by kernel_rfl) (s1 2 [(7, aB (decide (((sll a0.fWhere).length : Int) > 40))), (6, aB (decide (((sll a0.fWhere).length : Int) > 40)))] ?_)))))
  refine seg (decide (((sll a0.fWhere).length : Int) > 40)) [7, 6] (fun b => [(12, aB (b || (decide (((sll a0.fOut).length : Int) > 20)))), (11, ifA b (.undef) (aB (decide (((sll a0.fOut).length : Int) > 20)))), (10, ifA b (.undef) (aI ((sll a0.fOut).length : Int))), (9, ifA b (.undef) (.pv (encSl R_E_api_Expr a0.fOut))), (8, ifA b (.undef) (.ptr 0 3))]) 10 (by kernel_rfl) ?_ ?_ ?_
  ·
   intro Q h
   refine s1 5 [(12, aB true), (11, .undef), (10, .undef), (9, .undef), (8, .undef)] ?_
   exact sameN (by kernel_rfl) (by kernel_rfl) h
  ·
   intro Q h
   refine s1 2 [(9, .pv (encSl R_E_api_Expr a0.fOut)), (8, .ptr 0 3)] (dv 10 (v := aI ((sll a0.fOut).length : Int)) (len_slO R_E_api_Expr a0.fOut t23 (by kernel_rfl)) (by kernel_rfl) (s1 2 [(12, aB (decide (((sll a0.fOut).length : Int) > 20))), (11, aB (decide (((sll a0.fOut).length : Int) > 20)))] ?_))
   exact sameN (by kernel_rfl) (by kernel_rfl) h
  refine s1 1 [(13, aB ((decide (((sll a0.fWhere).length : Int) > 40)) || (decide (((sll a0.fOut).length : Int) > 20))))] ?_
  refine seg ((decide (((sll a0.fWhere).length : Int) > 40)) || (decide (((sll a0.fOut).length : Int) > 20))) [13, 12] (fun b => [(18, aB (b || (decide (((sll a0.fAggs).length : Int) > 10)))), (17, ifA b (.undef) (aB (decide (((sll a0.fAggs).length : Int) > 10)))), (16, ifA b (.undef) (aI ((sll a0.fAggs).length : Int))), (15, ifA b (.undef) (.pv (encSl R_api_Agg a0.fAggs))), (14, ifA b (.undef) (.ptr 0 4))]) 16 (by kernel_rfl) ?_ ?_ ?_
  ·
   intro Q h
   refine s1 5 [(18, aB true), (17, .undef), (16, .undef), (15, .undef), (14, .undef)] ?_
   exact sameN (by kernel_rfl) (by kernel_rfl) h
  ·
   intro Q h
   refine s1 2 [(15, .pv (encSl R_api_Agg a0.fAggs)), (14, .ptr 0 4)] (dv 16 (v := aI ((sll a0.fAggs).length : Int)) (len_slO R_api_Agg a0.fAggs t24 (by kernel_rfl)) (by kernel_rfl) (s1 2 [(18, aB (decide (((sll a0.fAggs).length : Int) > 10))), (17, aB (decide (((sll a0.fAggs).length : Int) > 10)))] ?_))
   exact sameN (by kernel_rfl) (by kernel_rfl) h
  refine s1 1 [(19, aB (((decide (((sll a0.fWhere).length : Int) > 40)) || (decide (((sll a0.fOut).length : Int) > 20))) || (decide (((sll a0.fAggs).length : Int) > 10))))] ?_
  refine seg (((decide (((sll a0.fWhere).length : Int) > 40)) || (decide (((sll a0.fOut).length : Int) > 20))) || (decide (((sll a0.fAggs).length : Int) > 10))) [19, 18] (fun b => [(24, aB (b || (decide (((sll a0.fOrder).length : Int) > 10)))), (23, ifA b (.undef) (aB (decide (((sll a0.fOrder).length : Int) > 10)))), (22, ifA b (.undef) (aI ((sll a0.fOrder).length : Int))), (21, ifA b (.undef) (.pv (encSl R_api_Key a0.fOrder))), (20, ifA b (.undef) (.ptr 0 5))]) 22 (by kernel_rfl) ?_ ?_ ?_
  ·
   intro Q h
   refine s1 5 [(24, aB true), (23, .undef), (22, .undef), (21, .undef), (20, .undef)] ?_
   exact sameN (by kernel_rfl) (by kernel_rfl) h
  ·
   intro Q h
   refine s1 2 [(21, .pv (encSl R_api_Key a0.fOrder)), (20, .ptr 0 5)] (dv 22 (v := aI ((sll a0.fOrder).length : Int)) (len_slO R_api_Key a0.fOrder t25 (by kernel_rfl)) (by kernel_rfl) (s1 2 [(24, aB (decide (((sll a0.fOrder).length : Int) > 10))), (23, aB (decide (((sll a0.fOrder).length : Int) > 10)))] ?_))
   exact sameN (by kernel_rfl) (by kernel_rfl) h
  refine fin [(1, .ptr 0 0), (24, aB ((((decide (((sll a0.fWhere).length : Int) > 40)) || (decide (((sll a0.fOut).length : Int) > 20))) || (decide (((sll a0.fAggs).length : Int) > 10))) || (decide (((sll a0.fOrder).length : Int) > 10))))] rfl (by kernel_rfl) ?_
  rcases bif_some hm with ⟨h1, hm⟩ | ⟨h1, hm⟩
  ·
   refine c1 h1 (sq (dn [(2, aB false)] (wp_ret ?_)))
   obtain rfl := Option.some.inj hm
   exact ⟨trivial, by kernel_rfl⟩
  ·
   refine c0 h1 (wp_skip ?_)
   refine sq (sq (rg (s1 4 [(28, aB (!a0.fGrouped)), (27, aB (!a0.fGrouped)), (26, aB a0.fGrouped), (25, .ptr 0 2)] ?_)))
   refine seg (!a0.fGrouped) [28, 27] (fun b => [(39, aB (b && ((((sll a0.fOut).length : Int) == 0) || (decide (((sll a0.fAggs).length : Int) > 0))))), (38, ifA b (aB ((((sll a0.fOut).length : Int) == 0) || (decide (((sll a0.fAggs).length : Int) > 0)))) (.undef)), (37, ifA b (ifA (((sll a0.fOut).length : Int) == 0) (.undef) (aB (decide (((sll a0.fAggs).length : Int) > 0)))) (.undef)), (36, ifA b (ifA (((sll a0.fOut).length : Int) == 0) (.undef) (aI ((sll a0.fAggs).length : Int))) (.undef)), (35, ifA b (ifA (((sll a0.fOut).length : Int) == 0) (.undef) (.pv (encSl R_api_Agg a0.fAggs))) (.undef)), (34, ifA b (ifA (((sll a0.fOut).length : Int) == 0) (.undef) (.ptr 0 4)) (.undef)), (33, ifA b (aB (((sll a0.fOut).length : Int) == 0)) (.undef)), (32, ifA b (aB (((sll a0.fOut).length : Int) == 0)) (.undef)), (31, ifA b (aI ((sll a0.fOut).length : Int)) (.undef)), (30, ifA b (.pv (encSl R_E_api_Expr a0.fOut)) (.undef)), (29, ifA b (.ptr 0 3) (.undef))]) 15 (by kernel_rfl) ?_ ?_ ?_
   ·
    intro Q h
    refine s1 2 [(30, .pv (encSl R_E_api_Expr a0.fOut)), (29, .ptr 0 3)] (dv 31 (v := aI ((sll a0.fOut).length : Int)) (len_slO R_E_api_Expr a0.fOut t23 (by kernel_rfl)) (by kernel_rfl) (s1 2 [(33, aB (((sll a0.fOut).length : Int) == 0)), (32, aB (((sll a0.fOut).length : Int) == 0))] ?_))
    refine seg (((sll a0.fOut).length : Int) == 0) [33, 32] (fun b => [(38, aB (b || (decide (((sll a0.fAggs).length : Int) > 0)))), (37, ifA b (.undef) (aB (decide (((sll a0.fAggs).length : Int) > 0)))), (36, ifA b (.undef) (aI ((sll a0.fAggs).length : Int))), (35, ifA b (.undef) (.pv (encSl R_api_Agg a0.fAggs))), (34, ifA b (.undef) (.ptr 0 4))]) 14 (by kernel_rfl) ?_ ?_ ?_
    ·
     intro Q h
     refine s1 5 [(38, aB true), (37, .undef), (36, .undef), (35, .undef), (34, .undef)] ?_
     exact sameN (by kernel_rfl) (by kernel_rfl) h
    ·
     intro Q h
     refine s1 2 [(35, .pv (encSl R_api_Agg a0.fAggs)), (34, .ptr 0 4)] (dv 36 (v := aI ((sll a0.fAggs).length : Int)) (len_slO R_api_Agg a0.fAggs t24 (by kernel_rfl)) (by kernel_rfl) (s1 2 [(38, aB (decide (((sll a0.fAggs).length : Int) > 0))), (37, aB (decide (((sll a0.fAggs).length : Int) > 0)))] ?_))
     exact sameN (by kernel_rfl) (by kernel_rfl) h
    refine s1 1 [(39, aB ((((sll a0.fOut).length : Int) == 0) || (decide (((sll a0.fAggs).length : Int) > 0))))] ?_
    exact sameN (by kernel_rfl) (by kernel_rfl) h
   ·
    intro Q h
    refine s1 11 [(39, aB false), (38, .undef), (37, .undef), (36, .undef), (35, .undef), (34, .undef), (33, .undef), (32, .undef), (31, .undef), (30, .undef), (29, .undef)] ?_
    exact sameN (by kernel_rfl) (by kernel_rfl) h
   refine s1 1 [(40, aB ((!a0.fGrouped) && ((((sll a0.fOut).length : Int) == 0) || (decide (((sll a0.fAggs).length : Int) > 0)))))] ?_
   rcases bif_some hm with ⟨h2, hm⟩ | ⟨h2, hm⟩
   ·
    refine known [40, 39] h2 (by kernel_rfl) (fq 4 [(1, .ptr 0 0), (44, aB true)] (cT (by kernel_rfl) (sq (dn [(2, aB false)] (wp_ret ?_)))))
    obtain rfl := Option.some.inj hm
    exact ⟨trivial, by kernel_rfl⟩
   ·
    refine known [40, 39] h2 (by kernel_rfl) (s1 1 [(41, .agg [.pv (encSl rS a0.fRels), .pv (encSl R_E_api_Expr a0.fWhere), aB a0.fGrouped, .pv (encSl R_E_api_Expr a0.fOut), .pv (encSl R_api_Agg a0.fAggs), .pv (encSl R_api_Key a0.fOrder)])] ?_)
    obtain ⟨x3, h4, hm⟩ := bs hm
    refine dv 42 (cpure (by kernel_rfl) (ok_query_Width h4) (by kernel_rfl) (by kernel_rfl) (by kernel_rfl)) (by kernel_rfl) (fq 2 [(1, .ptr 0 0), (44, aB (x3 == 0))] ?_)
    rcases bif_some hm with ⟨h5, hm⟩ | ⟨h5, hm⟩
    ·
     refine c1 h5 (sq (dn [(2, aB false)] (wp_ret ?_)))
     obtain rfl := Option.some.inj hm
     exact ⟨trivial, by kernel_rfl⟩
    ·
     refine c0 h5 (wp_skip (sq (sq (rg (s1 2 [(46, .pv (encSl R_api_Agg a0.fAggs)), (45, .ptr 0 4)] ?_)))))
     obtain ⟨x6, h7, hm⟩ := bs hm
     refine dv 47 (cpure (by kernel_rfl) (ok_slices_ContainsFunc_Agg_query_shaped_1 h7) (by kernel_rfl) (by kernel_rfl) (by kernel_rfl)) (by kernel_rfl) (fin [(1, .ptr 0 0), (47, aB x6)] rfl (by kernel_rfl) ?_)
     rcases bif_some hm with ⟨h8, hm⟩ | ⟨h8, hm⟩
     ·
      refine c1 h8 (sq (dn [(2, aB false)] (wp_ret ?_)))
      obtain rfl := Option.some.inj hm
      exact ⟨trivial, by kernel_rfl⟩
     ·
      refine c0 h8 (wp_skip (sq (rg (s1 3 [(50, .fn 66 [] [.ptr 0 0]), (49, .pv (encSl R_api_Key a0.fOrder)), (48, .ptr 0 5)] ?_))))
      obtain ⟨x9, h10, hm⟩ := bs hm
      refine dO [(51, aB x9)] [.box [.pv (encSl rS a0.fRels), .pv (encSl R_E_api_Expr a0.fWhere), aB a0.fGrouped, .pv (encSl R_E_api_Expr a0.fOut), .pv (encSl R_api_Agg a0.fAggs), .pv (encSl R_api_Key a0.fOrder)] false] (cpureR [0] [.pv (encSl R_api_Key a0.fOrder), .fn 66 [] [.ptr 0 0]] (fl := true) (by kernel_rfl) (by kernel_rfl) (by kernel_rfl) (ok_slices_ContainsFunc_Key_query_shaped_2 h10) (by kernel_rfl) (by kernel_rfl)) (by kernel_rfl) (fq 2 [(2, aB (!x9))] (wp_ret ?_))
      obtain rfl := Option.some.inj hm
      exact ⟨trivial, by kernel_rfl⟩
theorem ok_expr_kids {n : Nat} {a0 : Int} {r : Int} (hm : expr_kids n a0 = some r) :
    call G n 97 [aI a0] [] = some (.ret (aI r), []) := by
  unfold expr_kids at hm
  obtain ⟨n, rfl, h0⟩ := at1_some hm
  replace hm := h0; clear h0
  refine callL 20 [(0, aI a0)] func97 rfl (by kernel_rfl) (sq (dn [(0, aI a0)] (sq (sq (dn [(3, aI a0)] (bq ?_))))))
  obtain ⟨k2, hk2, hm⟩ := withK_some hm
  refine mid (fun t H => (∃ (y1 : Bool), k2 y1 = some r ∧ t = mk 20 [(3, aI a0), (4, aB y1)] ∧ H = [])) ?_ ?_
  ·
   rintro _ _ ⟨y1, hm, rfl, rfl⟩
   subst hk2
   rcases bif_some hm with ⟨h3, hm⟩ | ⟨h3, hm⟩
   ·
    refine c1 h3 (sq (dn [(2, aI 0)] (wp_ret ?_)))
    obtain rfl := Option.some.inj hm
    exact ⟨trivial, by kernel_rfl⟩
   ·
    refine c0 h3 ?_
    obtain ⟨k5, hk5, hm⟩ := withK_some hm
    refine mid (fun t H => (∃ (y4 : Bool), k5 y4 = some r ∧ t = mk 20 [(3, aI a0), (7, aB y4)] ∧ H = [])) ?_ ?_
    ·
     rintro _ _ ⟨y4, hm, rfl, rfl⟩
     subst hk5
     rcases bif_some hm with ⟨h6, hm⟩ | ⟨h6, hm⟩
     ·
      refine c1 h6 (sq (dn [(2, aI 1)] (wp_ret ?_)))
      obtain rfl := Option.some.inj hm
      exact ⟨trivial, by kernel_rfl⟩
     ·
      refine c0 h6 (sq (sq (dn [(3, aI a0), (11, aB (a0 == 3))] ?_)))
      rcases bif_some hm with ⟨h7, hm⟩ | ⟨h7, hm⟩
      ·
       refine c1 h7 (wp_skip ?_)
       rcases bif_some hm with ⟨h8, hm⟩ | ⟨h8, hm⟩
       ·
        refine c1 h8 (sq (dn [(2, aI 2)] (wp_ret ?_)))
        obtain rfl := Option.some.inj hm
        exact ⟨trivial, by kernel_rfl⟩
       ·
        refine c0 h8 (wp_skip (sq (dn [(2, aI (-1))] (wp_ret ?_))))
        obtain rfl := Option.some.inj hm
        exact ⟨trivial, by kernel_rfl⟩
      ·
       refine c0 h7 (sq (dn [(3, aI a0), (11, aB (a0 == 4))] ?_))
       rcases bif_some hm with ⟨h9, hm⟩ | ⟨h9, hm⟩
       ·
        refine c1 h9 (wp_skip ?_)
        rcases bif_some hm with ⟨h10, hm⟩ | ⟨h10, hm⟩
        ·
         refine c1 h10 (sq (dn [(2, aI 2)] (wp_ret ?_)))
         obtain rfl := Option.some.inj hm
         exact ⟨trivial, by kernel_rfl⟩
        ·
         refine c0 h10 (wp_skip (sq (dn [(2, aI (-1))] (wp_ret ?_))))
         obtain rfl := Option.some.inj hm
         exact ⟨trivial, by kernel_rfl⟩
       ·
        refine c0 h9 (sq (dn [(3, aI a0), (11, aB (a0 == 5))] ?_))
        rcases bif_some hm with ⟨h11, hm⟩ | ⟨h11, hm⟩
        ·
         refine c1 h11 (wp_skip ?_)
         rcases bif_some hm with ⟨h12, hm⟩ | ⟨h12, hm⟩
         ·
          refine c1 h12 (sq (dn [(2, aI 2)] (wp_ret ?_)))
          obtain rfl := Option.some.inj hm
          exact ⟨trivial, by kernel_rfl⟩
         ·
          refine c0 h12 (wp_skip (sq (dn [(2, aI (-1))] (wp_ret ?_))))
          obtain rfl := Option.some.inj hm
          exact ⟨trivial, by kernel_rfl⟩
        ·
         refine c0 h11 (sq (dn [(3, aI a0), (11, aB (a0 == 7))] ?_))
         rcases bif_some hm with ⟨h13, hm⟩ | ⟨h13, hm⟩
         ·
          refine c1 h13 (wp_skip ?_)
          rcases bif_some hm with ⟨h14, hm⟩ | ⟨h14, hm⟩
          ·
           refine c1 h14 (sq (dn [(2, aI 2)] (wp_ret ?_)))
           obtain rfl := Option.some.inj hm
           exact ⟨trivial, by kernel_rfl⟩
          ·
           refine c0 h14 (wp_skip (sq (dn [(2, aI (-1))] (wp_ret ?_))))
           obtain rfl := Option.some.inj hm
           exact ⟨trivial, by kernel_rfl⟩
         ·
          refine c0 h13 (sq (dn [(3, aI a0), (11, aB (a0 == 8))] ?_))
          rcases bif_some hm with ⟨h15, hm⟩ | ⟨h15, hm⟩
          ·
           refine c1 h15 (wp_skip ?_)
           rcases bif_some hm with ⟨h16, hm⟩ | ⟨h16, hm⟩
           ·
            refine c1 h16 (sq (dn [(2, aI 2)] (wp_ret ?_)))
            obtain rfl := Option.some.inj hm
            exact ⟨trivial, by kernel_rfl⟩
           ·
            refine c0 h16 (wp_skip (sq (dn [(2, aI (-1))] (wp_ret ?_))))
            obtain rfl := Option.some.inj hm
            exact ⟨trivial, by kernel_rfl⟩
          ·
           refine c0 h15 (sq (dn [(3, aI a0), (11, aB (a0 == 9))] ?_))
           rcases bif_some hm with ⟨h17, hm⟩ | ⟨h17, hm⟩
           ·
            refine c1 h17 (wp_skip ?_)
            rcases bif_some hm with ⟨h18, hm⟩ | ⟨h18, hm⟩
            ·
             refine c1 h18 (sq (dn [(2, aI 2)] (wp_ret ?_)))
             obtain rfl := Option.some.inj hm
             exact ⟨trivial, by kernel_rfl⟩
            ·
             refine c0 h18 (wp_skip (sq (dn [(2, aI (-1))] (wp_ret ?_))))
             obtain rfl := Option.some.inj hm
             exact ⟨trivial, by kernel_rfl⟩
           ·
            refine c0 h17 (sq (dn [(3, aI a0), (11, aB (a0 == 10))] ?_))
            rcases bif_some hm with ⟨h19, hm⟩ | ⟨h19, hm⟩
            ·
             refine c1 h19 (wp_skip ?_)
             rcases bif_some hm with ⟨h20, hm⟩ | ⟨h20, hm⟩
             ·
              refine c1 h20 (sq (dn [(2, aI 2)] (wp_ret ?_)))
              obtain rfl := Option.some.inj hm
              exact ⟨trivial, by kernel_rfl⟩
             ·
              refine c0 h20 (wp_skip (sq (dn [(2, aI (-1))] (wp_ret ?_))))
              obtain rfl := Option.some.inj hm
              exact ⟨trivial, by kernel_rfl⟩
            ·
             refine c0 h19 (dn [(11, aB (a0 == 11))] ?_)
             rcases bif_some hm with ⟨h21, hm⟩ | ⟨h21, hm⟩
             ·
              refine c1 h21 (sq (dn [(2, aI 2)] (wp_ret ?_)))
              obtain rfl := Option.some.inj hm
              exact ⟨trivial, by kernel_rfl⟩
             ·
              refine c0 h21 (wp_skip (sq (dn [(2, aI (-1))] (wp_ret ?_))))
              obtain rfl := Option.some.inj hm
              exact ⟨trivial, by kernel_rfl⟩
    refine sq (dn [(3, aI a0), (7, aB (a0 == 6))] ?_)
    rcases bif_some hm with ⟨h22, hm⟩ | ⟨h22, hm⟩
    ·
     refine c1 h22 (wp_skip ?_)
     exact ⟨(a0 == 6), hm, rfl, rfl⟩
    ·
     refine c0 h22 (sq (dn [(3, aI a0), (7, aB (a0 == 12))] ?_))
     rcases bif_some hm with ⟨h23, hm⟩ | ⟨h23, hm⟩
     ·
      refine c1 h23 (wp_skip ?_)
      exact ⟨(a0 == 12), hm, rfl, rfl⟩
     ·
      refine c0 h23 (dn [(3, aI a0), (7, aB (a0 == 13))] ?_)
      exact ⟨(a0 == 13), hm, rfl, rfl⟩
  refine sq (dn [(3, aI a0), (4, aB (a0 == 1))] ?_)
  rcases bif_some hm with ⟨h24, hm⟩ | ⟨h24, hm⟩
  ·
   refine c1 h24 (wp_skip ?_)
   exact ⟨(a0 == 1), hm, rfl, rfl⟩
  ·
   refine c0 h24 (dn [(3, aI a0), (4, aB (a0 == 2))] ?_)
   exact ⟨(a0 == 2), hm, rfl, rfl⟩
theorem ok_expr_fields_1 {n : Nat} {a0 : Int} {r : Bool} (hm : expr_fields_1 n a0 = some r) :
    call G n 111 [aI a0] [] = some (.ret (aB r), []) := by
  unfold expr_fields_1 at hm
  obtain ⟨n, rfl, h0⟩ := at1_some hm
  replace hm := h0; clear h0
  refine callL 9 [(0, aI a0)] func111 rfl (by kernel_rfl) (sq (dn [(0, aI a0)] (sq (rg (s1 3 [(5, aB (decide (a0 ≥ 0))), (4, aB (decide (a0 ≥ 0))), (3, aI a0)] ?_)))))
  refine segP (decide (a0 ≥ 0)) [5, 4] (fun b => [(8, aB (b && (decide (a0 ≤ 31)))), (7, ifA b (aB (decide (a0 ≤ 31))) (.undef)), (6, ifA b (aI a0) (.undef))]) 3 (by kernel_rfl) (by kernel_rfl) (by kernel_rfl) (fq 1 [(2, aB ((decide (a0 ≥ 0)) && (decide (a0 ≤ 31))))] (wp_ret ?_))
  obtain rfl := Option.some.inj hm
  exact ⟨trivial, by kernel_rfl⟩
theorem ok_math_Signbit {n : Nat} {a0 : Nat} {r : Bool} (hm : math_Signbit n a0 = some r) :
    call G n 121 [aF a0] [] = some (.ret (aB r), []) := by
  unfold math_Signbit at hm
  obtain ⟨n, rfl, h0⟩ := at1_some hm
  replace hm := h0; clear h0
  refine callL 7 [(0, aF a0)] func121 rfl (by kernel_rfl) (sq (dn [(0, aF a0)] (sq (rg (s1 1 [(3, aF a0)] (s1 1 [(4, aU (a0 : Int))] (fq 3 [(2, aB (decide ((IntKind.wrap .i64 (a0 : Int)) < 0)))] (wp_ret ?_))))))))
  obtain rfl := Option.some.inj hm
  exact ⟨trivial, by kernel_rfl⟩
theorem ok_value_Right {n : Nat} {a0 : api_Value} {r : Bool} (hm : value_Right n a0 = some r) :
    call G n 112 [.agg [aI a0.fKind, aI a0.fInt, aF a0.fFloat, aS a0.fText]] [] = some (.ret (aB r), []) := by
  unfold value_Right at hm
  obtain ⟨n, rfl, h0⟩ := at1_some hm
  replace hm := h0; clear h0
  refine callL 70 [(0, .agg [aI a0.fKind, aI a0.fInt, aF a0.fFloat, aS a0.fText])] func112 rfl (by kernel_rfl) (sq (det [(1, .ptr 0 0)] [.box [aI a0.fKind, aI a0.fInt, aF a0.fFloat, aS a0.fText] false] (by kernel_rfl) ?_))
  obtain ⟨k2, hk2, hm⟩ := withK_some hm
  refine mid (fun t H => (∃ (y1 : Bool), k2 y1 = some r ∧ t = mk 70 [(1, .ptr 0 0), (3, aB y1)] ∧ H = [.box [aI a0.fKind, aI a0.fInt, aF a0.fFloat, aS a0.fText] false])) ?_ ?_
  ·
   rintro _ _ ⟨y1, hm, rfl, rfl⟩
   subst hk2
   refine sq (sq (dn [(1, .ptr 0 0), (3, aB y1), (14, aI a0.fKind)] (bq ?_)))
   refine sq (bq ?_)
   refine sq (bq ?_)
   obtain ⟨k6, hk6, hm⟩ := withK_some hm
   refine mid (fun t H => (∃ (w3 : AV) (w4 : AV) (w5 : AV), k6 () = some r ∧ t = mk 70 [(1, .ptr 0 0), (3, aB y1), (14, w3), (19, w4), (43, w5)] ∧ H = [.box [aI a0.fKind, aI a0.fInt, aF a0.fFloat, aS a0.fText] false])) ?_ ?_
   ·
    rintro _ _ ⟨w3, w4, w5, hm, rfl, rfl⟩
    subst hk6
    refine sq (sq (rg (s1 2 [(45, aB y1), (44, aB y1)] ?_)))
    refine segP y1 [45, 44, 3] (fun b => [(49, aB (b && (sEq a0.fText ByteArray.empty))), (48, ifA b (aB (sEq a0.fText ByteArray.empty)) (.undef)), (47, ifA b (aS a0.fText) (.undef)), (46, ifA b (.ptr 0 3) (.undef))]) 4 (by kernel_rfl) (by kernel_rfl) (by kernel_rfl) (fq 1 [(2, aB (y1 && (sEq a0.fText ByteArray.empty)))] (wp_ret ?_))
    obtain rfl := Option.some.inj hm
    exact ⟨trivial, by kernel_rfl⟩
   refine bq ?_
   refine sq (bq ?_)
   refine sq (bq (sq ?_))
   refine sq (sq (dn [(1, .ptr 0 0), (3, aB y1), (14, aI a0.fKind), (15, aB (a0.fKind == 0))] ?_))
   rcases bif_some hm with ⟨h7, hm⟩ | ⟨h7, hm⟩
   ·
    refine c1 h7 (wp_exit (sq (sq (rg (s1 4 [(28, aB (a0.fInt == 0)), (27, aB (a0.fInt == 0)), (26, aI a0.fInt), (25, .ptr 0 1)] ?_)))))
    refine segP (a0.fInt == 0) [28, 27] (fun b => [(30, aB (b && y1)), (29, ifA b (aB y1) (.undef))]) 2 (by kernel_rfl) (by kernel_rfl) (by kernel_rfl) (s1 1 [(31, aB ((a0.fInt == 0) && y1))] ?_)
    refine segP ((a0.fInt == 0) && y1) [31, 30] (fun b => [(35, aB (b && (sEq a0.fText ByteArray.empty))), (34, ifA b (aB (sEq a0.fText ByteArray.empty)) (.undef)), (33, ifA b (aS a0.fText) (.undef)), (32, ifA b (.ptr 0 3) (.undef))]) 4 (by kernel_rfl) (by kernel_rfl) (by kernel_rfl) (fq 1 [(2, aB (((a0.fInt == 0) && y1) && (sEq a0.fText ByteArray.empty)))] (wp_ret ?_))
    obtain rfl := Option.some.inj hm
    exact ⟨trivial, by kernel_rfl⟩
   ·
    refine c0 h7 (wp_skip (sq (sq (dn [(1, .ptr 0 0), (3, aB y1), (14, aI a0.fKind), (17, aB (a0.fKind == 1))] ?_))))
    rcases bif_some hm with ⟨h8, hm⟩ | ⟨h8, hm⟩
    ·
     refine c1 h8 (wp_exit (sq (rg (s1 4 [(39, aB (a0.fInt != 0)), (38, aB (a0.fInt != 0)), (37, aI a0.fInt), (36, .ptr 0 1)] ?_))))
     refine segP (a0.fInt != 0) [39, 38] (fun b => [(43, aB (b && (a0.fInt != 1))), (42, ifA b (aB (a0.fInt != 1)) (.undef)), (41, ifA b (aI a0.fInt) (.undef)), (40, ifA b (.ptr 0 1) (.undef))]) 4 (by kernel_rfl) (by kernel_rfl) (by kernel_rfl) (fin [(1, .ptr 0 0), (3, aB y1), (43, aB ((a0.fInt != 0) && (a0.fInt != 1)))] rfl (by kernel_rfl) ?_)
     rcases bif_some hm with ⟨h9, hm⟩ | ⟨h9, hm⟩
     ·
      refine c1 h9 (sq (dn [(2, aB false)] (wp_ret ?_)))
      obtain rfl := Option.some.inj hm
      exact ⟨trivial, by kernel_rfl⟩
     ·
      refine c0 h9 (wp_skip ?_)
      exact ⟨.any, .any, aB ((a0.fInt != 0) && (a0.fInt != 1)), hm, (mk_same (by kernel_rfl)), rfl⟩
    ·
     refine c0 h8 (wp_skip (sq (sq (dn [(1, .ptr 0 0), (3, aB y1), (14, aI a0.fKind), (19, aB (a0.fKind == 2))] ?_))))
     rcases bif_some hm with ⟨h10, hm⟩ | ⟨h10, hm⟩
     ·
      refine c1 h10 (wp_exit ?_)
      exact ⟨aI a0.fKind, aB (a0.fKind == 2), .any, hm, (mk_same (by kernel_rfl)), rfl⟩
     ·
      refine c0 h10 (wp_skip (sq (sq (dn [(1, .ptr 0 0), (3, aB y1), (14, aI a0.fKind), (21, aB (a0.fKind == 3))] ?_))))
      rcases bif_some hm with ⟨h11, hm⟩ | ⟨h11, hm⟩
      ·
       refine c1 h11 (wp_exit (sq (sq (rg (s1 4 [(53, aB (a0.fInt == 0)), (52, aB (a0.fInt == 0)), (51, aI a0.fInt), (50, .ptr 0 1)] ?_)))))
       refine segP (a0.fInt == 0) [53, 52] (fun b => [(57, aB (b && (sEq a0.fText ByteArray.empty))), (56, ifA b (aB (sEq a0.fText ByteArray.empty)) (.undef)), (55, ifA b (aS a0.fText) (.undef)), (54, ifA b (.ptr 0 3) (.undef))]) 4 (by kernel_rfl) (by kernel_rfl) (by kernel_rfl) (fq 1 [(2, aB ((a0.fInt == 0) && (sEq a0.fText ByteArray.empty)))] (wp_ret ?_))
       obtain rfl := Option.some.inj hm
       exact ⟨trivial, by kernel_rfl⟩
      ·
       refine c0 h11 (wp_skip (sq (dn [(1, .ptr 0 0), (3, aB y1), (23, aB (a0.fKind == 4))] ?_)))
       rcases bif_some hm with ⟨h12, hm⟩ | ⟨h12, hm⟩
       ·
        refine c1 h12 (wp_exit (sq (sq (rg (s1 4 [(61, aB (a0.fInt == 0)), (60, aB (a0.fInt == 0)), (59, aI a0.fInt), (58, .ptr 0 1)] ?_)))))
        refine segP (a0.fInt == 0) [61, 60] (fun b => [(63, aB (b && y1)), (62, ifA b (aB y1) (.undef))]) 2 (by kernel_rfl) (by kernel_rfl) (by kernel_rfl) (s1 1 [(64, aB ((a0.fInt == 0) && y1))] ?_)
        refine segP ((a0.fInt == 0) && y1) [64, 63] (fun b => [(69, aB (b && (decide ((a0.fText.size : Int) ≤ 64)))), (68, ifA b (aB (decide ((a0.fText.size : Int) ≤ 64))) (.undef)), (67, ifA b (aI (a0.fText.size : Int)) (.undef)), (66, ifA b (aS a0.fText) (.undef)), (65, ifA b (.ptr 0 3) (.undef))]) 5 (by kernel_rfl) (by kernel_rfl) (by kernel_rfl) (fq 1 [(2, aB (((a0.fInt == 0) && y1) && (decide ((a0.fText.size : Int) ≤ 64))))] (wp_ret ?_))
        obtain rfl := Option.some.inj hm
        exact ⟨trivial, by kernel_rfl⟩
       ·
        refine c0 h12 (wp_skip (wp_exit (sq (dn [(2, aB false)] (wp_ret ?_)))))
        obtain rfl := Option.some.inj hm
        exact ⟨trivial, by kernel_rfl⟩
  refine rg (s1 4 [(7, aB ((FloatKind.format .f64).order a0.fFloat 0 == some .eq)), (6, aB ((FloatKind.format .f64).order a0.fFloat 0 == some .eq)), (5, aF a0.fFloat), (4, .ptr 0 2)] ?_)
  rcases bif_some hm with ⟨h13, hm⟩ | ⟨h13, hm⟩
  ·
   refine known [7, 6] h13 (by kernel_rfl) (s1 2 [(9, aF a0.fFloat), (8, .ptr 0 2)] ?_)
   obtain ⟨x14, h15, hm⟩ := bs hm
   refine dv 10 (cpure (by kernel_rfl) (ok_math_Signbit h15) (by kernel_rfl) (by kernel_rfl) (by kernel_rfl)) (by kernel_rfl) (fq 3 [(1, .ptr 0 0), (3, aB (!x14))] ?_)
   exact ⟨(!x14), hm, rfl, rfl⟩
  ·
   refine known [7, 6] h13 (by kernel_rfl) (fq 6 [(1, .ptr 0 0), (3, aB false)] ?_)
   exact ⟨false, hm, rfl, rfl⟩
theorem ok_expr_fields {n : Nat} {a0 : api_Expr} {r : Bool} (hm : expr_fields n a0 = some r) :
    call G n 98 [.agg [aI a0.fKind, aI a0.fRel, aI a0.fCol, aI a0.fConst.fKind, aI a0.fConst.fInt, aF a0.fConst.fFloat, aS a0.fConst.fText, .pv (encSl R_E_api_Expr a0.fKids)]] [] = some (.ret (aB r), []) := by
  unfold expr_fields at hm
  obtain ⟨n, rfl, h0⟩ := at1_some hm
  replace hm := h0; clear h0
  refine callL 45 [(0, .agg [aI a0.fKind, aI a0.fRel, aI a0.fCol, aI a0.fConst.fKind, aI a0.fConst.fInt, aF a0.fConst.fFloat, aS a0.fConst.fText, .pv (encSl R_E_api_Expr a0.fKids)])] func98 rfl (by kernel_rfl) (sq (det [(1, .ptr 0 0)] [.box [aI a0.fKind, aI a0.fRel, aI a0.fCol, aI a0.fConst.fKind, aI a0.fConst.fInt, aF a0.fConst.fFloat, aS a0.fConst.fText, .pv (encSl R_E_api_Expr a0.fKids)] false] (by kernel_rfl) (sq (dn [(1, .ptr 0 0), (3, .pv (.fn 111 [] []))] ?_))))
  refine sq (sq (rg (s1 4 [(7, aB (a0.fKind != 1)), (6, aB (a0.fKind != 1)), (5, aI a0.fKind), (4, .ptr 0 0)] ?_)))
  refine seg (a0.fKind != 1) [7, 6] (fun b => [(16, aB (b && ((a0.fRel != 0) || (a0.fCol != 0)))), (15, ifA b (aB ((a0.fRel != 0) || (a0.fCol != 0))) (.undef)), (14, ifA b (ifA (a0.fRel != 0) (.undef) (aB (a0.fCol != 0))) (.undef)), (13, ifA b (ifA (a0.fRel != 0) (.undef) (aI a0.fCol)) (.undef)), (12, ifA b (ifA (a0.fRel != 0) (.undef) (.ptr 0 2)) (.undef)), (11, ifA b (aB (a0.fRel != 0)) (.undef)), (10, ifA b (aB (a0.fRel != 0)) (.undef)), (9, ifA b (aI a0.fRel) (.undef)), (8, ifA b (.ptr 0 1) (.undef))]) 13 (by kernel_rfl) ?_ ?_ ?_
  ·
   intro Q h
   refine s1 4 [(11, aB (a0.fRel != 0)), (10, aB (a0.fRel != 0)), (9, aI a0.fRel), (8, .ptr 0 1)] ?_
   refine segP (a0.fRel != 0) [11, 10] (fun b => [(15, aB (b || (a0.fCol != 0))), (14, ifA b (.undef) (aB (a0.fCol != 0))), (13, ifA b (.undef) (aI a0.fCol)), (12, ifA b (.undef) (.ptr 0 2))]) 4 (by kernel_rfl) (by kernel_rfl) (by kernel_rfl) (s1 1 [(16, aB ((a0.fRel != 0) || (a0.fCol != 0)))] ?_)
   exact sameN (by kernel_rfl) (by kernel_rfl) h
  ·
   intro Q h
   refine s1 9 [(16, aB false), (15, .undef), (14, .undef), (13, .undef), (12, .undef), (11, .undef), (10, .undef), (9, .undef), (8, .undef)] ?_
   exact sameN (by kernel_rfl) (by kernel_rfl) h
  refine s1 1 [(17, aB ((a0.fKind != 1) && ((a0.fRel != 0) || (a0.fCol != 0))))] ?_
  rcases bif_some hm with ⟨h1, hm⟩ | ⟨h1, hm⟩
  ·
   refine known [17, 16] h1 (by kernel_rfl) (fq 13 [(1, .ptr 0 0), (30, aB true)] (cT (by kernel_rfl) (sq (dn [(2, aB false)] (wp_ret ?_)))))
   obtain rfl := Option.some.inj hm
   exact ⟨trivial, by kernel_rfl⟩
  ·
   refine known [17, 16] h1 (by kernel_rfl) (s1 3 [(20, aI a0.fRel), (19, .ptr 0 1), (18, .pv (.fn 111 [] []))] ?_)
   obtain ⟨x2, h3, hm⟩ := bs hm
   refine dv 21 (cpure (by kernel_rfl) (ok_expr_fields_1 h3) (by kernel_rfl) (by kernel_rfl) (by kernel_rfl)) (by kernel_rfl) (s1 3 [(24, aB (!x2)), (23, aB (!x2)), (22, aB (!x2))] ?_)
   rcases bif_some hm with ⟨h4, hm⟩ | ⟨h4, hm⟩
   ·
    refine known [24, 23, 22] h4 (by kernel_rfl) (fq 6 [(1, .ptr 0 0), (30, aB true)] (cT (by kernel_rfl) (sq (dn [(2, aB false)] (wp_ret ?_)))))
    obtain rfl := Option.some.inj hm
    exact ⟨trivial, by kernel_rfl⟩
   ·
    refine known [24, 23, 22] h4 (by kernel_rfl) (s1 3 [(27, aI a0.fCol), (26, .ptr 0 2), (25, .pv (.fn 111 [] []))] ?_)
    obtain ⟨x5, h6, hm⟩ := bs hm
    refine dv 28 (cpure (by kernel_rfl) (ok_expr_fields_1 h6) (by kernel_rfl) (by kernel_rfl) (by kernel_rfl)) (by kernel_rfl) (fq 2 [(1, .ptr 0 0), (30, aB (!x5))] ?_)
    rcases bif_some hm with ⟨h7, hm⟩ | ⟨h7, hm⟩
    ·
     refine c1 h7 (sq (dn [(2, aB false)] (wp_ret ?_)))
     obtain rfl := Option.some.inj hm
     exact ⟨trivial, by kernel_rfl⟩
    ·
     refine c0 h7 (wp_skip (sq (rg (s1 2 [(32, .agg [aI a0.fConst.fKind, aI a0.fConst.fInt, aF a0.fConst.fFloat, aS a0.fConst.fText]), (31, .ptr 0 3)] ?_))))
     obtain ⟨x8, h9, hm⟩ := bs hm
     refine dv 33 (cpure (by kernel_rfl) (ok_value_Right h9) (by kernel_rfl) (by kernel_rfl) (by kernel_rfl)) (by kernel_rfl) (s1 1 [(34, aB x8)] ?_)
     refine seg x8 [34, 33] (fun b => [(44, aB (b && ((a0.fKind == 2) || (a0.fConst.fKind == 0)))), (43, ifA b (aB ((a0.fKind == 2) || (a0.fConst.fKind == 0))) (.undef)), (42, ifA b (ifA (a0.fKind == 2) (.undef) (aB (a0.fConst.fKind == 0))) (.undef)), (41, ifA b (ifA (a0.fKind == 2) (.undef) (aI a0.fConst.fKind)) (.undef)), (40, ifA b (ifA (a0.fKind == 2) (.undef) (.ptr 0 3)) (.undef)), (39, ifA b (ifA (a0.fKind == 2) (.undef) (.ptr 0 3)) (.undef)), (38, ifA b (aB (a0.fKind == 2)) (.undef)), (37, ifA b (aB (a0.fKind == 2)) (.undef)), (36, ifA b (aI a0.fKind) (.undef)), (35, ifA b (.ptr 0 0) (.undef))]) 14 (by kernel_rfl) ?_ ?_ ?_
     ·
      intro Q h
      refine s1 4 [(38, aB (a0.fKind == 2)), (37, aB (a0.fKind == 2)), (36, aI a0.fKind), (35, .ptr 0 0)] ?_
      refine segP (a0.fKind == 2) [38, 37] (fun b => [(43, aB (b || (a0.fConst.fKind == 0))), (42, ifA b (.undef) (aB (a0.fConst.fKind == 0))), (41, ifA b (.undef) (aI a0.fConst.fKind)), (40, ifA b (.undef) (.ptr 0 3)), (39, ifA b (.undef) (.ptr 0 3))]) 5 (by kernel_rfl) (by kernel_rfl) (by kernel_rfl) (s1 1 [(44, aB ((a0.fKind == 2) || (a0.fConst.fKind == 0)))] ?_)
      exact sameN (by kernel_rfl) (by kernel_rfl) h
     ·
      intro Q h
      refine s1 10 [(44, aB false), (43, .undef), (42, .undef), (41, .undef), (40, .undef), (39, .undef), (38, .undef), (37, .undef), (36, .undef), (35, .undef)] ?_
      exact sameN (by kernel_rfl) (by kernel_rfl) h
     refine fq 1 [(2, aB (x8 && ((a0.fKind == 2) || (a0.fConst.fKind == 0))))] (wp_ret ?_)
     obtain rfl := Option.some.inj hm
     exact ⟨trivial, by kernel_rfl⟩
theorem okf_expr_count {rc_expr_count : (Nat → api_Expr → Int → Int → Option (Int))} (ih_expr_count : ∀ {n : Nat} {a0 : api_Expr} {a1 : Int} {a2 : Int} {r : Int} (hm : rc_expr_count n a0 a1 a2 = some r), call G n 73 [.agg [aI a0.fKind, aI a0.fRel, aI a0.fCol, aI a0.fConst.fKind, aI a0.fConst.fInt, aF a0.fConst.fFloat, aS a0.fConst.fText, .pv (encSl R_E_api_Expr a0.fKids)], aI a1, aI a2] [] = some (.ret (aI r), [])) {n : Nat} {a0 : api_Expr} {a1 : Int} {a2 : Int} {r : Int} (hm : expr_count_f rc_expr_count n a0 a1 a2 = some r) :
    call G n 73 [.agg [aI a0.fKind, aI a0.fRel, aI a0.fCol, aI a0.fConst.fKind, aI a0.fConst.fInt, aF a0.fConst.fFloat, aS a0.fConst.fText, .pv (encSl R_E_api_Expr a0.fKids)], aI a1, aI a2] [] = some (.ret (aI r), []) := by
  unfold expr_count_f at hm
  obtain ⟨n, rfl, h0⟩ := at1_some hm
  replace hm := h0; clear h0
  refine callL 47 [(0, .agg [aI a0.fKind, aI a0.fRel, aI a0.fCol, aI a0.fConst.fKind, aI a0.fConst.fInt, aF a0.fConst.fFloat, aS a0.fConst.fText, .pv (encSl R_E_api_Expr a0.fKids)]), (1, aI a1), (2, aI a2)] func73 rfl (by kernel_rfl) (sq (det [(1, aI a1), (2, aI a2), (3, .ptr 0 0)] [.box [aI a0.fKind, aI a0.fRel, aI a0.fCol, aI a0.fConst.fKind, aI a0.fConst.fInt, aF a0.fConst.fFloat, aS a0.fConst.fText, .pv (encSl R_E_api_Expr a0.fKids)] false] (by kernel_rfl) ?_))
  refine sq (sq (rgd (shd 3 [(11, aB (decide (a1 > 24))), (10, aB (decide (a1 > 24))), (9, aI a1)] (by kernel_rfl) ?_)))
  rcases bif_some hm with ⟨h1, hm⟩ | ⟨h1, hm⟩
  ·
   refine knownd [11, 10] h1 (by kernel_rfl) (shd 17 [(28, aB true), (27, .undef), (26, .undef), (25, .undef), (24, aB true), (23, aB true), (22, .undef), (21, .undef), (20, .undef), (19, .undef), (18, .undef), (17, .undef), (16, .undef), (15, aB true), (14, aB true), (13, .undef), (12, .undef)] (by kernel_rfl) (find [(1, aI a1), (2, aI a2), (3, .ptr 0 0), (28, aB true)] rfl (by kernel_rfl) (by kernel_rfl) (cT (by kernel_rfl) (sq (dn [(6, aI (-1))] (wp_ret ?_))))))
   obtain rfl := Option.some.inj hm
   exact ⟨trivial, by kernel_rfl⟩
  ·
   refine knownd [11, 10] h1 (by kernel_rfl) (shd 4 [(15, aB (decide (a2 < 1))), (14, aB (decide (a2 < 1))), (13, aB (decide (a2 < 1))), (12, aI a2)] (by kernel_rfl) ?_)
   rcases bif_some hm with ⟨h2, hm⟩ | ⟨h2, hm⟩
   ·
    refine knownd [15, 14, 13] h2 (by kernel_rfl) (shd 13 [(28, aB true), (27, .undef), (26, .undef), (25, .undef), (24, aB true), (23, aB true), (22, .undef), (21, .undef), (20, .undef), (19, .undef), (18, .undef), (17, .undef), (16, .undef)] (by kernel_rfl) (find [(1, aI a1), (2, aI a2), (3, .ptr 0 0), (28, aB true)] rfl (by kernel_rfl) (by kernel_rfl) (cT (by kernel_rfl) (sq (dn [(6, aI (-1))] (wp_ret ?_))))))
    obtain rfl := Option.some.inj hm
    exact ⟨trivial, by kernel_rfl⟩
   ·
    refine knownd [15, 14, 13] h2 (by kernel_rfl) (shd 2 [(17, aI a0.fKind), (16, .ptr 0 0)] (by kernel_rfl) ?_)
    obtain ⟨x3, h4, hm⟩ := bs hm
    refine dvd 18 (cpure (by kernel_rfl) (ok_expr_kids h4) (by kernel_rfl) (by kernel_rfl) (by kernel_rfl)) (by kernel_rfl) (shd 2 [(20, .pv (encSl R_E_api_Expr a0.fKids)), (19, .ptr 0 7)] (by kernel_rfl) (dvd 21 (v := aI ((sll a0.fKids).length : Int)) (len_slO R_E_api_Expr a0.fKids t23 (by kernel_rfl)) (by kernel_rfl) (shd 3 [(24, aB (x3 != ((sll a0.fKids).length : Int))), (23, aB (x3 != ((sll a0.fKids).length : Int))), (22, aB (x3 != ((sll a0.fKids).length : Int)))] (by kernel_rfl) ?_)))
    rcases bif_some hm with ⟨h5, hm⟩ | ⟨h5, hm⟩
    ·
     refine knownd [24, 23, 22] h5 (by kernel_rfl) (shd 4 [(28, aB true), (27, .undef), (26, .undef), (25, .undef)] (by kernel_rfl) (find [(1, aI a1), (2, aI a2), (3, .ptr 0 0), (28, aB true)] rfl (by kernel_rfl) (by kernel_rfl) (cT (by kernel_rfl) (sq (dn [(6, aI (-1))] (wp_ret ?_))))))
     obtain rfl := Option.some.inj hm
     exact ⟨trivial, by kernel_rfl⟩
    ·
     refine knownd [24, 23, 22] h5 (by kernel_rfl) (shd 1 [(25, .agg [aI a0.fKind, aI a0.fRel, aI a0.fCol, aI a0.fConst.fKind, aI a0.fConst.fInt, aF a0.fConst.fFloat, aS a0.fConst.fText, .pv (encSl R_E_api_Expr a0.fKids)])] (by kernel_rfl) ?_)
     obtain ⟨x6, h7, hm⟩ := bs hm
     refine dvd 26 (cpure (by kernel_rfl) (ok_expr_fields h7) (by kernel_rfl) (by kernel_rfl) (by kernel_rfl)) (by kernel_rfl) (shd 2 [(28, aB (!x6)), (27, aB (!x6))] (by kernel_rfl) (find [(1, aI a1), (2, aI a2), (3, .ptr 0 0), (28, aB (!x6))] rfl (by kernel_rfl) (by kernel_rfl) ?_))
     rcases bif_some hm with ⟨h8, hm⟩ | ⟨h8, hm⟩
     ·
      refine c1 h8 (sq (dn [(6, aI (-1))] (wp_ret ?_)))
      obtain rfl := Option.some.inj hm
      exact ⟨trivial, by kernel_rfl⟩
     ·
      refine c0 h8 (wp_skip (sq (dn [(1, aI a1), (2, aI (IntKind.wrap .i64 (a2 - 1))), (3, .ptr 0 0)] ?_)))
      obtain ⟨k12, hk12, hm⟩ := withK_some hm
      refine mid (fun t H => (∃ (y9 : Int) (y10 : Int) (y11 : Bool), k12 y9 = some r ∧ t = mk 47 [(1, aI a1), (2, aI y9), (32, .pv (encSl R_E_api_Expr a0.fKids)), (33, aI ((sll a0.fKids).length : Int)), (34, aI y10), (35, aB y11)] ∧ H = [.box [aI a0.fKind, aI a0.fRel, aI a0.fCol, aI a0.fConst.fKind, aI a0.fConst.fInt, aF a0.fConst.fFloat, aS a0.fConst.fText, .pv (encSl R_E_api_Expr a0.fKids)] false])) ?_ ?_
      ·
       rintro _ _ ⟨y9, y10, y11, hm, rfl, rfl⟩
       subst hk12
       refine sq (dn [(6, aI y9)] (wp_ret ?_))
       obtain rfl := Option.some.inj hm
       exact ⟨trivial, by kernel_rfl⟩
      refine sq (rg (s1 2 [(32, .pv (encSl R_E_api_Expr a0.fKids)), (31, .ptr 0 7)] (dv 33 (v := aI ((sll a0.fKids).length : Int)) (len_slO R_E_api_Expr a0.fKids t23 (by kernel_rfl)) (by kernel_rfl) (fq 1 [(1, aI a1), (2, aI (IntKind.wrap .i64 (a2 - 1))), (32, .pv (encSl R_E_api_Expr a0.fKids)), (33, aI ((sll a0.fKids).length : Int)), (34, aI 0)] (bq ?_)))))
      refine loopF (fun mm t H => (∃ (y15 : Int) (y16 : Int), expr_count_l5 n rc_expr_count a0 a1 k12 mm y15 y16 = some r ∧ t = mk 47 [(1, aI a1), (2, aI y15), (32, .pv (encSl R_E_api_Expr a0.fKids)), (33, aI ((sll a0.fKids).length : Int)), (34, aI y16)] ∧ H = [.box [aI a0.fKind, aI a0.fRel, aI a0.fCol, aI a0.fConst.fKind, aI a0.fConst.fInt, aF a0.fConst.fFloat, aS a0.fConst.fText, .pv (encSl R_E_api_Expr a0.fKids)] false])) (⟨(IntKind.wrap .i64 (a2 - 1)), 0, hm, rfl, rfl⟩) ?_ ?_
      · rintro _ _ ⟨y15, y16, hm, _⟩; exact nomatch hm
      rintro m17 _ _ ⟨y15, y16, hm, rfl, rfl⟩
      simp only [expr_count_l5] at hm
      refine sq (dn [(1, aI a1), (2, aI y15), (32, .pv (encSl R_E_api_Expr a0.fKids)), (33, aI ((sll a0.fKids).length : Int)), (34, aI y16), (35, aB (decide (y16 < ((sll a0.fKids).length : Int))))] ?_)
      refine sq ?_
      rcases bif_some hm with ⟨h18, hm⟩ | ⟨h18, hm⟩
      ·
       refine c1 h18 (wp_skip (sq (bq (sq (rg ?_)))))
       obtain ⟨x19, h20, hm⟩ := bs hm
       refine dv 36 (v := .pv (.ptr (R_api_Expr (un_api_Expr x19)) 0)) (ia_slE R_E_api_Expr a0.fKids .i64 t23 t44 h20 (R_un_api_Expr x19) rfl (by kernel_rfl)) (by kernel_rfl) (stf 3 [(1, aI a1), (2, aI y15), (8, .ptr 1 0), (32, .pv (encSl R_E_api_Expr a0.fKids)), (33, aI ((sll a0.fKids).length : Int)), (34, aI y16)] [.box [aI a0.fKind, aI a0.fRel, aI a0.fCol, aI a0.fConst.fKind, aI a0.fConst.fInt, aF a0.fConst.fFloat, aS a0.fConst.fText, .pv (encSl R_E_api_Expr a0.fKids)] false, .box [aI ((un_api_Expr x19).fKind), aI ((un_api_Expr x19).fRel), aI ((un_api_Expr x19).fCol), aI (((un_api_Expr x19).fConst).fKind), aI (((un_api_Expr x19).fConst).fInt), aF (((un_api_Expr x19).fConst).fFloat), aS (((un_api_Expr x19).fConst).fText), .pv (encSl R_E_api_Expr ((un_api_Expr x19).fKids))] false] (by kernel_rfl) (sq (rg (s1 4 [(41, aI y15), (40, aI (IntKind.wrap .i64 (a1 + 1))), (39, aI a1), (38, .agg [aI ((un_api_Expr x19).fKind), aI ((un_api_Expr x19).fRel), aI ((un_api_Expr x19).fCol), aI (((un_api_Expr x19).fConst).fKind), aI (((un_api_Expr x19).fConst).fInt), aF (((un_api_Expr x19).fConst).fFloat), aS (((un_api_Expr x19).fConst).fText), .pv (encSl R_E_api_Expr ((un_api_Expr x19).fKids))])] ?_))))
       obtain ⟨x21, h22, hm⟩ := bs hm
       refine dv 42 (cpure (by kernel_rfl) (ih_expr_count h22) (by kernel_rfl) (by kernel_rfl) (by kernel_rfl)) (by kernel_rfl) (fq 1 [(1, aI a1), (2, aI x21), (32, .pv (encSl R_E_api_Expr a0.fKids)), (33, aI ((sll a0.fKids).length : Int)), (34, aI y16)] (sq (dn [(1, aI a1), (2, aI x21), (32, .pv (encSl R_E_api_Expr a0.fKids)), (33, aI ((sll a0.fKids).length : Int)), (34, aI y16), (44, aB (decide (x21 < 0)))] ?_)))
       rcases bif_some hm with ⟨h23, hm⟩ | ⟨h23, hm⟩
       ·
        refine c1 h23 (sq (dn [(6, aI (-1))] (wp_ret ?_)))
        obtain rfl := Option.some.inj hm
        exact ⟨trivial, by kernel_rfl⟩
       ·
        refine c0 h23 (wp_skip (dn [(1, aI a1), (2, aI x21), (32, .pv (encSl R_E_api_Expr a0.fKids)), (33, aI ((sll a0.fKids).length : Int)), (34, aI (IntKind.wrap .i64 (y16 + 1)))] ?_))
        exact ⟨_, _, tidyL [(1, aI a1), (2, aI x21), (32, .pv (encSl R_E_api_Expr a0.fKids)), (33, aI ((sll a0.fKids).length : Int)), (34, aI (IntKind.wrap .i64 (y16 + 1)))] [.box [aI a0.fKind, aI a0.fRel, aI a0.fCol, aI a0.fConst.fKind, aI a0.fConst.fInt, aF a0.fConst.fFloat, aS a0.fConst.fText, .pv (encSl R_E_api_Expr a0.fKids)] false] (by kernel_rfl), ⟨x21, (IntKind.wrap .i64 (y16 + 1)), hm, rfl, rfl⟩⟩
      ·
       refine c0 h18 (wp_exit ?_)
       exact ⟨y15, y16, (decide (y16 < ((sll a0.fKids).length : Int))), hm, rfl, rfl⟩
theorem okt_expr_count : ∀ (m : Nat), ∀ {n : Nat} {a0 : api_Expr} {a1 : Int} {a2 : Int} {r : Int} (hm : expr_count_t m n a0 a1 a2 = some r), call G n 73 [.agg [aI a0.fKind, aI a0.fRel, aI a0.fCol, aI a0.fConst.fKind, aI a0.fConst.fInt, aF a0.fConst.fFloat, aS a0.fConst.fText, .pv (encSl R_E_api_Expr a0.fKids)], aI a1, aI a2] [] = some (.ret (aI r), [])
  | 0 => by intros; rename_i hm; exact nomatch hm
  | m + 1 => fun hm =>
    okf_expr_count (okt_expr_count m) hm
theorem ok_expr_count {n : Nat} {a0 : api_Expr} {a1 : Int} {a2 : Int} {r : Int} (hm : expr_count n a0 a1 a2 = some r) :
    call G n 73 [.agg [aI a0.fKind, aI a0.fRel, aI a0.fCol, aI a0.fConst.fKind, aI a0.fConst.fInt, aF a0.fConst.fFloat, aS a0.fConst.fText, .pv (encSl R_E_api_Expr a0.fKids)], aI a1, aI a2] [] = some (.ret (aI r), []) := okt_expr_count n hm
theorem ok_expr_Formed {n : Nat} {a0 : api_Expr} {r : Bool} (hm : expr_Formed n a0 = some r) :
    call G n 47 [.agg [aI a0.fKind, aI a0.fRel, aI a0.fCol, aI a0.fConst.fKind, aI a0.fConst.fInt, aF a0.fConst.fFloat, aS a0.fConst.fText, .pv (encSl R_E_api_Expr a0.fKids)]] [] = some (.ret (aB r), []) := by
  unfold expr_Formed at hm
  obtain ⟨n, rfl, h0⟩ := at1_some hm
  replace hm := h0; clear h0
  refine callL 6 [(0, .agg [aI a0.fKind, aI a0.fRel, aI a0.fCol, aI a0.fConst.fKind, aI a0.fConst.fInt, aF a0.fConst.fFloat, aS a0.fConst.fText, .pv (encSl R_E_api_Expr a0.fKids)])] func47 rfl (by kernel_rfl) (sq (det [(1, .ptr 0 0)] [.box [aI a0.fKind, aI a0.fRel, aI a0.fCol, aI a0.fConst.fKind, aI a0.fConst.fInt, aF a0.fConst.fFloat, aS a0.fConst.fText, .pv (encSl R_E_api_Expr a0.fKids)] false] (by kernel_rfl) (sq (rg (s1 1 [(3, .agg [aI a0.fKind, aI a0.fRel, aI a0.fCol, aI a0.fConst.fKind, aI a0.fConst.fInt, aF a0.fConst.fFloat, aS a0.fConst.fText, .pv (encSl R_E_api_Expr a0.fKids)])] ?_)))))
  obtain ⟨x1, h2, hm⟩ := bs hm
  refine dv 4 (cpure (by kernel_rfl) (ok_expr_count h2) (by kernel_rfl) (by kernel_rfl) (by kernel_rfl)) (by kernel_rfl) (fq 2 [(2, aB (decide (x1 ≥ 0)))] (wp_ret ?_))
  obtain rfl := Option.some.inj hm
  exact ⟨trivial, by kernel_rfl⟩
theorem ok_expr_column {n : Nat} {a0 : api_Expr} {a1 : (Option (List api_Table))} {r : Int ⊕ (Int)} (hm : expr_column n a0 a1 = some r) :
    call G n 92 [.agg [aI a0.fKind, aI a0.fRel, aI a0.fCol, aI a0.fConst.fKind, aI a0.fConst.fInt, aF a0.fConst.fFloat, aS a0.fConst.fText, .pv (encSl R_E_api_Expr a0.fKids)], .pv (encSl R_api_Table a1)] [] = some (PO 32 (fun (r : Int) => aI r) r, []) := by
  unfold expr_column at hm
  obtain ⟨n, rfl, h0⟩ := at1_some hm
  replace hm := h0; clear h0
  refine callP 34 [(0, .agg [aI a0.fKind, aI a0.fRel, aI a0.fCol, aI a0.fConst.fKind, aI a0.fConst.fInt, aF a0.fConst.fFloat, aS a0.fConst.fText, .pv (encSl R_E_api_Expr a0.fKids)]), (1, .pv (encSl R_api_Table a1))] func92 rfl (by kernel_rfl) (sq (det [(1, .pv (encSl R_api_Table a1)), (2, .ptr 0 0)] [.box [aI a0.fKind, aI a0.fRel, aI a0.fCol, aI a0.fConst.fKind, aI a0.fConst.fInt, aF a0.fConst.fFloat, aS a0.fConst.fText, .pv (encSl R_E_api_Expr a0.fKids)] false] (by kernel_rfl) ?_))
  refine sq (sq (rgd (shd 3 [(7, .pv (encSl R_api_Table a1)), (6, aI a0.fRel), (5, .ptr 0 1)] (by kernel_rfl) (dvd 8 (v := aI ((sll a1).length : Int)) (len_slO R_api_Table a1 t28 (by kernel_rfl)) (by kernel_rfl) (shd 2 [(10, aB (decide (a0.fRel ≥ ((sll a1).length : Int)))), (9, aB (decide (a0.fRel ≥ ((sll a1).length : Int))))] (by kernel_rfl) ?_)))))
  rcases bif_some hm with ⟨h1, hm⟩ | ⟨h1, hm⟩
  ·
   refine knownd [10, 9] h1 (by kernel_rfl) (shd 11 [(21, aB true), (20, .undef), (19, .undef), (18, .undef), (17, .undef), (16, .undef), (15, .undef), (14, .undef), (13, .undef), (12, .undef), (11, .undef)] (by kernel_rfl) (find [(1, .pv (encSl R_api_Table a1)), (2, .ptr 0 0), (21, aB true)] rfl (by kernel_rfl) (by kernel_rfl) (cT (by kernel_rfl) (rg (s1 1 [(22, .pv (.ifc 32 (.int .i64 40)))] ?_)))))
   obtain rfl := Option.some.inj hm
   exact rp0 (v := .pv (.ifc 32 (.int .i64 40))) (by kernel_rfl) (by kernel_rfl) (fun _ => ⟨trivial, by kernel_rfl⟩)
  ·
   refine knownd [10, 9] h1 (by kernel_rfl) (shd 5 [(15, aI a0.fRel), (14, .ptr 0 1), (13, .pv (encSl R_api_Table a1)), (12, aI a0.fCol), (11, .ptr 0 2)] (by kernel_rfl) ?_)
   obtain ⟨x2, h3, hm⟩ := bs hm
   refine dvd 16 (v := .pv (.ptr (R_api_Table x2) 0)) (ia_slO R_api_Table a1 .i64 t28 t38 h3 rfl (by kernel_rfl)) (by kernel_rfl) (shd 2 [(18, .pv (encSl R_api_Column x2.fCols)), (17, .pv (.ptr (R_api_Table x2) 1))] (by kernel_rfl) (dvd 19 (v := aI ((sll x2.fCols).length : Int)) (len_slO R_api_Column x2.fCols t36 (by kernel_rfl)) (by kernel_rfl) (shd 2 [(21, aB (decide (a0.fCol ≥ ((sll x2.fCols).length : Int)))), (20, aB (decide (a0.fCol ≥ ((sll x2.fCols).length : Int))))] (by kernel_rfl) (find [(1, .pv (encSl R_api_Table a1)), (2, .ptr 0 0), (21, aB (decide (a0.fCol ≥ ((sll x2.fCols).length : Int))))] rfl (by kernel_rfl) (by kernel_rfl) ?_))))
   rcases bif_some hm with ⟨h4, hm⟩ | ⟨h4, hm⟩
   ·
    refine c1 h4 (rg (s1 1 [(22, .pv (.ifc 32 (.int .i64 40)))] ?_))
    obtain rfl := Option.some.inj hm
    exact rp0 (v := .pv (.ifc 32 (.int .i64 40))) (by kernel_rfl) (by kernel_rfl) (fun _ => ⟨trivial, by kernel_rfl⟩)
   ·
    refine c0 h4 (wp_skip (sq (rgd (shd 3 [(25, aI a0.fRel), (24, .ptr 0 1), (23, .pv (encSl R_api_Table a1))] (by kernel_rfl) (dvd 26 (v := .pv (.ptr (R_api_Table x2) 0)) (ia_slO R_api_Table a1 .i64 t28 t38 h3 rfl (by kernel_rfl)) (by kernel_rfl) (shd 4 [(30, aI a0.fCol), (29, .ptr 0 2), (28, .pv (encSl R_api_Column x2.fCols)), (27, .pv (.ptr (R_api_Table x2) 1))] (by kernel_rfl) ?_))))))
    obtain ⟨x5, h6, hm⟩ := bs hm
    refine dvd 31 (v := .pv (.ptr (R_api_Column x5) 0)) (ia_slO R_api_Column x2.fCols .i64 t36 t65 h6 rfl (by kernel_rfl)) (by kernel_rfl) (shd 3 [(4, aI x5.fKind), (33, aI x5.fKind), (32, .pv (.ptr (R_api_Column x5) 1))] (by kernel_rfl) (find [(4, aI x5.fKind)] rfl (by kernel_rfl) (by kernel_rfl) (wp_ret ?_)))
    obtain rfl := Option.some.inj hm
    exact ⟨trivial, by kernel_rfl⟩
theorem okf_expr_refs {rc_expr_refs : (Nat → api_Expr → (Option (List api_Table)) → Option (Int ⊕ (Unit)))} (ih_expr_refs : ∀ {n : Nat} {a0 : api_Expr} {a1 : (Option (List api_Table))} {r : Int ⊕ (Unit)} (hm : rc_expr_refs n a0 a1 = some r), call G n 69 [.agg [aI a0.fKind, aI a0.fRel, aI a0.fCol, aI a0.fConst.fKind, aI a0.fConst.fInt, aF a0.fConst.fFloat, aS a0.fConst.fText, .pv (encSl R_E_api_Expr a0.fKids)], .pv (encSl R_api_Table a1)] [] = some (PO 32 (fun (r : Unit) => .tup []) r, [])) {n : Nat} {a0 : api_Expr} {a1 : (Option (List api_Table))} {r : Int ⊕ (Unit)} (hm : expr_refs_f rc_expr_refs n a0 a1 = some r) :
    call G n 69 [.agg [aI a0.fKind, aI a0.fRel, aI a0.fCol, aI a0.fConst.fKind, aI a0.fConst.fInt, aF a0.fConst.fFloat, aS a0.fConst.fText, .pv (encSl R_E_api_Expr a0.fKids)], .pv (encSl R_api_Table a1)] [] = some (PO 32 (fun (r : Unit) => .tup []) r, []) := by
  unfold expr_refs_f at hm
  obtain ⟨n, rfl, h0⟩ := at1_some hm
  replace hm := h0; clear h0
  refine callP 23 [(0, .agg [aI a0.fKind, aI a0.fRel, aI a0.fCol, aI a0.fConst.fKind, aI a0.fConst.fInt, aF a0.fConst.fFloat, aS a0.fConst.fText, .pv (encSl R_E_api_Expr a0.fKids)]), (1, .pv (encSl R_api_Table a1))] func69 rfl (by kernel_rfl) (sq (det [(1, .pv (encSl R_api_Table a1)), (2, .ptr 0 0)] [.box [aI a0.fKind, aI a0.fRel, aI a0.fCol, aI a0.fConst.fKind, aI a0.fConst.fInt, aF a0.fConst.fFloat, aS a0.fConst.fText, .pv (encSl R_E_api_Expr a0.fKids)] false] (by kernel_rfl) ?_))
  obtain ⟨k2, hk2, hm⟩ := withK_some hm
  refine mid (fun t H => (∃ (w1 : AV), k2 () = some r ∧ t = mk 23 [(1, .pv (encSl R_api_Table a1)), (2, .ptr 0 0), (8, w1)] ∧ H = [.box [aI a0.fKind, aI a0.fRel, aI a0.fCol, aI a0.fConst.fKind, aI a0.fConst.fInt, aF a0.fConst.fFloat, aS a0.fConst.fText, .pv (encSl R_E_api_Expr a0.fKids)] false])) ?_ ?_
  ·
   rintro _ _ ⟨w1, hm, rfl, rfl⟩
   subst hk2
   refine sq (rg (s1 2 [(13, .pv (encSl R_E_api_Expr a0.fKids)), (12, .ptr 0 7)] (dv 14 (v := aI ((sll a0.fKids).length : Int)) (len_slO R_E_api_Expr a0.fKids t23 (by kernel_rfl)) (by kernel_rfl) (fq 1 [(1, .pv (encSl R_api_Table a1)), (13, .pv (encSl R_E_api_Expr a0.fKids)), (14, aI ((sll a0.fKids).length : Int)), (15, aI 0)] (bq ?_)))))
   refine loopF (fun mm t H => (∃ (y4 : Int), expr_refs_l4 n rc_expr_refs a0 a1 mm y4 = some r ∧ t = mk 23 [(1, .pv (encSl R_api_Table a1)), (13, .pv (encSl R_E_api_Expr a0.fKids)), (14, aI ((sll a0.fKids).length : Int)), (15, aI y4)] ∧ H = [.box [aI a0.fKind, aI a0.fRel, aI a0.fCol, aI a0.fConst.fKind, aI a0.fConst.fInt, aF a0.fConst.fFloat, aS a0.fConst.fText, .pv (encSl R_E_api_Expr a0.fKids)] false])) (⟨0, hm, rfl, rfl⟩) ?_ ?_
   · rintro _ _ ⟨y4, hm, _⟩; exact nomatch hm
   rintro m5 _ _ ⟨y4, hm, rfl, rfl⟩
   simp only [expr_refs_l4] at hm
   refine sq (dn [(1, .pv (encSl R_api_Table a1)), (13, .pv (encSl R_E_api_Expr a0.fKids)), (14, aI ((sll a0.fKids).length : Int)), (15, aI y4), (16, aB (decide (y4 < ((sll a0.fKids).length : Int))))] ?_)
   refine sq ?_
   rcases bif_some hm with ⟨h6, hm⟩ | ⟨h6, hm⟩
   ·
    refine c1 h6 (wp_skip (sq (bq (sq (rg ?_)))))
    obtain ⟨x7, h8, hm⟩ := bs hm
    refine dv 17 (v := .pv (.ptr (R_api_Expr (un_api_Expr x7)) 0)) (ia_slE R_E_api_Expr a0.fKids .i64 t23 t44 h8 (R_un_api_Expr x7) rfl (by kernel_rfl)) (by kernel_rfl) (stf 3 [(1, .pv (encSl R_api_Table a1)), (5, .ptr 1 0), (13, .pv (encSl R_E_api_Expr a0.fKids)), (14, aI ((sll a0.fKids).length : Int)), (15, aI y4)] [.box [aI a0.fKind, aI a0.fRel, aI a0.fCol, aI a0.fConst.fKind, aI a0.fConst.fInt, aF a0.fConst.fFloat, aS a0.fConst.fText, .pv (encSl R_E_api_Expr a0.fKids)] false, .box [aI ((un_api_Expr x7).fKind), aI ((un_api_Expr x7).fRel), aI ((un_api_Expr x7).fCol), aI (((un_api_Expr x7).fConst).fKind), aI (((un_api_Expr x7).fConst).fInt), aF (((un_api_Expr x7).fConst).fFloat), aS (((un_api_Expr x7).fConst).fText), .pv (encSl R_E_api_Expr ((un_api_Expr x7).fKids))] false] (by kernel_rfl) (rg (s1 2 [(20, .pv (encSl R_api_Table a1)), (19, .agg [aI ((un_api_Expr x7).fKind), aI ((un_api_Expr x7).fRel), aI ((un_api_Expr x7).fCol), aI (((un_api_Expr x7).fConst).fKind), aI (((un_api_Expr x7).fConst).fInt), aF (((un_api_Expr x7).fConst).fFloat), aS (((un_api_Expr x7).fConst).fText), .pv (encSl R_E_api_Expr ((un_api_Expr x7).fKids))])] ?_)))
    obtain ⟨x9, h10, hm⟩ := bs hm
    rcases x9 with x11 | x9
    ·
     obtain rfl := Option.some.inj hm
     exact rp0 (v := .pv (.ifc 32 (.int .i64 x11))) (cpan (by kernel_rfl) (ih_expr_refs h10) (by kernel_rfl) (by kernel_rfl) (by kernel_rfl)) (by kernel_rfl) (fun _ => ⟨trivial, by kernel_rfl⟩)
    ·
     refine dv 21 (cpure (by kernel_rfl) (ih_expr_refs h10) (by kernel_rfl) (by kernel_rfl) (by kernel_rfl)) (by kernel_rfl) (fin [(1, .pv (encSl R_api_Table a1)), (13, .pv (encSl R_E_api_Expr a0.fKids)), (14, aI ((sll a0.fKids).length : Int)), (15, aI y4)] rfl (by kernel_rfl) (dn [(1, .pv (encSl R_api_Table a1)), (13, .pv (encSl R_E_api_Expr a0.fKids)), (14, aI ((sll a0.fKids).length : Int)), (15, aI (IntKind.wrap .i64 (y4 + 1)))] ?_))
     exact ⟨_, _, tidyL [(1, .pv (encSl R_api_Table a1)), (13, .pv (encSl R_E_api_Expr a0.fKids)), (14, aI ((sll a0.fKids).length : Int)), (15, aI (IntKind.wrap .i64 (y4 + 1)))] [.box [aI a0.fKind, aI a0.fRel, aI a0.fCol, aI a0.fConst.fKind, aI a0.fConst.fInt, aF a0.fConst.fFloat, aS a0.fConst.fText, .pv (encSl R_E_api_Expr a0.fKids)] false] (by kernel_rfl), ⟨(IntKind.wrap .i64 (y4 + 1)), hm, rfl, rfl⟩⟩
   ·
    refine c0 h6 (wp_exit ?_)
    obtain rfl := Option.some.inj hm
    exact ⟨trivial, by kernel_rfl⟩
  refine sq (dn [(1, .pv (encSl R_api_Table a1)), (2, .ptr 0 0), (8, aB (a0.fKind == 1))] ?_)
  rcases bif_some hm with ⟨h12, hm⟩ | ⟨h12, hm⟩
  ·
   refine c1 h12 (rg (s1 2 [(10, .pv (encSl R_api_Table a1)), (9, .agg [aI a0.fKind, aI a0.fRel, aI a0.fCol, aI a0.fConst.fKind, aI a0.fConst.fInt, aF a0.fConst.fFloat, aS a0.fConst.fText, .pv (encSl R_E_api_Expr a0.fKids)])] ?_))
   obtain ⟨x13, h14, hm⟩ := bs hm
   rcases x13 with x15 | x13
   ·
    obtain rfl := Option.some.inj hm
    exact rp0 (v := .pv (.ifc 32 (.int .i64 x15))) (cpan (by kernel_rfl) (ok_expr_column h14) (by kernel_rfl) (by kernel_rfl) (by kernel_rfl)) (by kernel_rfl) (fun _ => ⟨trivial, by kernel_rfl⟩)
   ·
    refine dv 11 (cpure (by kernel_rfl) (ok_expr_column h14) (by kernel_rfl) (by kernel_rfl) (by kernel_rfl)) (by kernel_rfl) (fin [(1, .pv (encSl R_api_Table a1)), (2, .ptr 0 0)] rfl (by kernel_rfl) ?_)
    exact ⟨.any, hm, (mk_same (by kernel_rfl)), rfl⟩
  ·
   refine c0 h12 (wp_skip ?_)
   exact ⟨aB (a0.fKind == 1), hm, (mk_same (by kernel_rfl)), rfl⟩
theorem okt_expr_refs : ∀ (m : Nat), ∀ {n : Nat} {a0 : api_Expr} {a1 : (Option (List api_Table))} {r : Int ⊕ (Unit)} (hm : expr_refs_t m n a0 a1 = some r), call G n 69 [.agg [aI a0.fKind, aI a0.fRel, aI a0.fCol, aI a0.fConst.fKind, aI a0.fConst.fInt, aF a0.fConst.fFloat, aS a0.fConst.fText, .pv (encSl R_E_api_Expr a0.fKids)], .pv (encSl R_api_Table a1)] [] = some (PO 32 (fun (r : Unit) => .tup []) r, [])
  | 0 => by intros; rename_i hm; exact nomatch hm
  | m + 1 => fun hm =>
    okf_expr_refs (okt_expr_refs m) hm
theorem ok_expr_refs {n : Nat} {a0 : api_Expr} {a1 : (Option (List api_Table))} {r : Int ⊕ (Unit)} (hm : expr_refs n a0 a1 = some r) :
    call G n 69 [.agg [aI a0.fKind, aI a0.fRel, aI a0.fCol, aI a0.fConst.fKind, aI a0.fConst.fInt, aF a0.fConst.fFloat, aS a0.fConst.fText, .pv (encSl R_E_api_Expr a0.fKids)], .pv (encSl R_api_Table a1)] [] = some (PO 32 (fun (r : Unit) => .tup []) r, []) := okt_expr_refs n hm
theorem ok_expr_numeric {n : Nat} {a0 : Int} {r : Bool} (hm : expr_numeric n a0 = some r) :
    call G n 94 [aI a0] [] = some (.ret (aB r), []) := by
  unfold expr_numeric at hm
  obtain ⟨n, rfl, h0⟩ := at1_some hm
  replace hm := h0; clear h0
  refine callL 13 [(0, aI a0)] func94 rfl (by kernel_rfl) (sq (dn [(0, aI a0)] (sq (rg (s1 3 [(5, aB (a0 == 0)), (4, aB (a0 == 0)), (3, aI a0)] ?_)))))
  refine segP (a0 == 0) [5, 4] (fun b => [(8, aB (b || (a0 == 2))), (7, ifA b (.undef) (aB (a0 == 2))), (6, ifA b (.undef) (aI a0))]) 3 (by kernel_rfl) (by kernel_rfl) (by kernel_rfl) (s1 1 [(9, aB ((a0 == 0) || (a0 == 2)))] ?_)
  refine segP ((a0 == 0) || (a0 == 2)) [9, 8] (fun b => [(12, aB (b || (a0 == 3))), (11, ifA b (.undef) (aB (a0 == 3))), (10, ifA b (.undef) (aI a0))]) 3 (by kernel_rfl) (by kernel_rfl) (by kernel_rfl) (fq 1 [(2, aB (((a0 == 0) || (a0 == 2)) || (a0 == 3)))] (wp_ret ?_))
  obtain rfl := Option.some.inj hm
  exact ⟨trivial, by kernel_rfl⟩
theorem ok_expr_one_expr_numeric {n : Nat} {a0 : Int} {a1 : Int} {r : Int ⊕ (Int)} (hm : expr_one_expr_numeric n a0 a1 = some r) :
    call G n 93 [aI a0, aI a1, .pv (.fn 94 [] [])] [] = some (PO 32 (fun (r : Int) => aI r) r, []) := by
  unfold expr_one_expr_numeric at hm
  obtain ⟨n, rfl, h0⟩ := at1_some hm
  replace hm := h0; clear h0
  refine callP 34 [(0, aI a0), (1, aI a1), (2, .pv (.fn 94 [] []))] func93 rfl (by kernel_rfl) (sq (dn [(0, aI a0), (1, aI a1), (2, .pv (.fn 94 [] []))] (sq (sq (rg (s1 2 [(8, aI a0), (7, .pv (.fn 94 [] []))] ?_))))))
  obtain ⟨x1, h2, hm⟩ := bs hm
  refine dv 9 (cpure (by kernel_rfl) (ok_expr_numeric h2) (by kernel_rfl) (by kernel_rfl) (by kernel_rfl)) (by kernel_rfl) (s1 2 [(11, aB (!x1)), (10, aB (!x1))] ?_)
  rcases bif_some hm with ⟨h3, hm⟩ | ⟨h3, hm⟩
  ·
   refine known [11, 10] h3 (by kernel_rfl) (fq 18 [(0, aI a0), (1, aI a1), (29, aB true)] (cT (by kernel_rfl) (rg (s1 1 [(30, .pv (.ifc 32 (.int .i64 50)))] ?_))))
   obtain rfl := Option.some.inj hm
   exact rp0 (v := .pv (.ifc 32 (.int .i64 50))) (by kernel_rfl) (by kernel_rfl) (fun _ => ⟨trivial, by kernel_rfl⟩)
  ·
   refine known [11, 10] h3 (by kernel_rfl) (s1 2 [(13, aI a1), (12, .pv (.fn 94 [] []))] ?_)
   obtain ⟨x4, h5, hm⟩ := bs hm
   refine dv 14 (cpure (by kernel_rfl) (ok_expr_numeric h5) (by kernel_rfl) (by kernel_rfl) (by kernel_rfl)) (by kernel_rfl) (s1 3 [(17, aB (!x4)), (16, aB (!x4)), (15, aB (!x4))] ?_)
   refine seg (!x4) [17, 16, 15] (fun b => [(29, aB (b || (((a0 != 0) && (a1 != 0)) && (a0 != a1)))), (28, ifA b (.undef) (aB (((a0 != 0) && (a1 != 0)) && (a0 != a1)))), (27, ifA b (.undef) (ifA ((a0 != 0) && (a1 != 0)) (aB (a0 != a1)) (.undef))), (26, ifA b (.undef) (ifA ((a0 != 0) && (a1 != 0)) (aI a1) (.undef))), (25, ifA b (.undef) (ifA ((a0 != 0) && (a1 != 0)) (aI a0) (.undef))), (24, ifA b (.undef) (aB ((a0 != 0) && (a1 != 0)))), (23, ifA b (.undef) (aB ((a0 != 0) && (a1 != 0)))), (22, ifA b (.undef) (ifA (a0 != 0) (aB (a1 != 0)) (.undef))), (21, ifA b (.undef) (ifA (a0 != 0) (aI a1) (.undef))), (20, ifA b (.undef) (aB (a0 != 0))), (19, ifA b (.undef) (aB (a0 != 0))), (18, ifA b (.undef) (aI a0))]) 23 (by kernel_rfl) ?_ ?_ ?_
   ·
    intro Q h
    refine s1 12 [(29, aB true), (28, .undef), (27, .undef), (26, .undef), (25, .undef), (24, .undef), (23, .undef), (22, .undef), (21, .undef), (20, .undef), (19, .undef), (18, .undef)] ?_
    exact sameN (by kernel_rfl) (by kernel_rfl) h
   ·
    intro Q h
    refine s1 3 [(20, aB (a0 != 0)), (19, aB (a0 != 0)), (18, aI a0)] ?_
    refine segP (a0 != 0) [20, 19] (fun b => [(23, aB (b && (a1 != 0))), (22, ifA b (aB (a1 != 0)) (.undef)), (21, ifA b (aI a1) (.undef))]) 3 (by kernel_rfl) (by kernel_rfl) (by kernel_rfl) (s1 1 [(24, aB ((a0 != 0) && (a1 != 0)))] ?_)
    refine segP ((a0 != 0) && (a1 != 0)) [24, 23] (fun b => [(28, aB (b && (a0 != a1))), (27, ifA b (aB (a0 != a1)) (.undef)), (26, ifA b (aI a1) (.undef)), (25, ifA b (aI a0) (.undef))]) 4 (by kernel_rfl) (by kernel_rfl) (by kernel_rfl) (s1 1 [(29, aB (((a0 != 0) && (a1 != 0)) && (a0 != a1)))] ?_)
    exact sameN (by kernel_rfl) (by kernel_rfl) h
   refine fin [(0, aI a0), (1, aI a1), (29, aB ((!x4) || (((a0 != 0) && (a1 != 0)) && (a0 != a1))))] rfl (by kernel_rfl) ?_
   rcases bif_some hm with ⟨h6, hm⟩ | ⟨h6, hm⟩
   ·
    refine c1 h6 (rg (s1 1 [(30, .pv (.ifc 32 (.int .i64 50)))] ?_))
    obtain rfl := Option.some.inj hm
    exact rp0 (v := .pv (.ifc 32 (.int .i64 50))) (by kernel_rfl) (by kernel_rfl) (fun _ => ⟨trivial, by kernel_rfl⟩)
   ·
    refine c0 h6 (wp_skip (sq (dn [(6, aI (if a1 > a0 then a1 else a0))] (wp_ret ?_))))
    obtain rfl := Option.some.inj hm
    exact ⟨trivial, by kernel_rfl⟩
theorem ok_expr_typed_1 {n : Nat} {a0 : Int} {r : Bool} (hm : expr_typed_1 n a0 = some r) :
    call G n 95 [aI a0] [] = some (.ret (aB r), []) := by
  unfold expr_typed_1 at hm
  obtain ⟨n, rfl, h0⟩ := at1_some hm
  replace hm := h0; clear h0
  refine callL 3 [(0, aI a0)] func95 rfl (by kernel_rfl) (sq (dn [] (sq (dn [(2, aB true)] (wp_ret ?_)))))
  obtain rfl := Option.some.inj hm
  exact ⟨trivial, by kernel_rfl⟩
theorem ok_expr_one_expr_typed_1 {n : Nat} {a0 : Int} {a1 : Int} {r : Int ⊕ (Int)} (hm : expr_one_expr_typed_1 n a0 a1 = some r) :
    call G n 93 [aI a0, aI a1, .pv (.fn 95 [] [])] [] = some (PO 32 (fun (r : Int) => aI r) r, []) := by
  unfold expr_one_expr_typed_1 at hm
  obtain ⟨n, rfl, h0⟩ := at1_some hm
  replace hm := h0; clear h0
  refine callP 34 [(0, aI a0), (1, aI a1), (2, .pv (.fn 95 [] []))] func93 rfl (by kernel_rfl) (sq (dn [(0, aI a0), (1, aI a1), (2, .pv (.fn 95 [] []))] (sq (sq (rg (s1 2 [(8, aI a0), (7, .pv (.fn 95 [] []))] ?_))))))
  obtain ⟨x1, h2, hm⟩ := bs hm
  refine dv 9 (cpure (by kernel_rfl) (ok_expr_typed_1 h2) (by kernel_rfl) (by kernel_rfl) (by kernel_rfl)) (by kernel_rfl) (s1 2 [(11, aB (!x1)), (10, aB (!x1))] ?_)
  rcases bif_some hm with ⟨h3, hm⟩ | ⟨h3, hm⟩
  ·
   refine known [11, 10] h3 (by kernel_rfl) (fq 18 [(0, aI a0), (1, aI a1), (29, aB true)] (cT (by kernel_rfl) (rg (s1 1 [(30, .pv (.ifc 32 (.int .i64 50)))] ?_))))
   obtain rfl := Option.some.inj hm
   exact rp0 (v := .pv (.ifc 32 (.int .i64 50))) (by kernel_rfl) (by kernel_rfl) (fun _ => ⟨trivial, by kernel_rfl⟩)
  ·
   refine known [11, 10] h3 (by kernel_rfl) (s1 2 [(13, aI a1), (12, .pv (.fn 95 [] []))] ?_)
   obtain ⟨x4, h5, hm⟩ := bs hm
   refine dv 14 (cpure (by kernel_rfl) (ok_expr_typed_1 h5) (by kernel_rfl) (by kernel_rfl) (by kernel_rfl)) (by kernel_rfl) (s1 3 [(17, aB (!x4)), (16, aB (!x4)), (15, aB (!x4))] ?_)
   refine seg (!x4) [17, 16, 15] (fun b => [(29, aB (b || (((a0 != 0) && (a1 != 0)) && (a0 != a1)))), (28, ifA b (.undef) (aB (((a0 != 0) && (a1 != 0)) && (a0 != a1)))), (27, ifA b (.undef) (ifA ((a0 != 0) && (a1 != 0)) (aB (a0 != a1)) (.undef))), (26, ifA b (.undef) (ifA ((a0 != 0) && (a1 != 0)) (aI a1) (.undef))), (25, ifA b (.undef) (ifA ((a0 != 0) && (a1 != 0)) (aI a0) (.undef))), (24, ifA b (.undef) (aB ((a0 != 0) && (a1 != 0)))), (23, ifA b (.undef) (aB ((a0 != 0) && (a1 != 0)))), (22, ifA b (.undef) (ifA (a0 != 0) (aB (a1 != 0)) (.undef))), (21, ifA b (.undef) (ifA (a0 != 0) (aI a1) (.undef))), (20, ifA b (.undef) (aB (a0 != 0))), (19, ifA b (.undef) (aB (a0 != 0))), (18, ifA b (.undef) (aI a0))]) 23 (by kernel_rfl) ?_ ?_ ?_
   ·
    intro Q h
    refine s1 12 [(29, aB true), (28, .undef), (27, .undef), (26, .undef), (25, .undef), (24, .undef), (23, .undef), (22, .undef), (21, .undef), (20, .undef), (19, .undef), (18, .undef)] ?_
    exact sameN (by kernel_rfl) (by kernel_rfl) h
   ·
    intro Q h
    refine s1 3 [(20, aB (a0 != 0)), (19, aB (a0 != 0)), (18, aI a0)] ?_
    refine segP (a0 != 0) [20, 19] (fun b => [(23, aB (b && (a1 != 0))), (22, ifA b (aB (a1 != 0)) (.undef)), (21, ifA b (aI a1) (.undef))]) 3 (by kernel_rfl) (by kernel_rfl) (by kernel_rfl) (s1 1 [(24, aB ((a0 != 0) && (a1 != 0)))] ?_)
    refine segP ((a0 != 0) && (a1 != 0)) [24, 23] (fun b => [(28, aB (b && (a0 != a1))), (27, ifA b (aB (a0 != a1)) (.undef)), (26, ifA b (aI a1) (.undef)), (25, ifA b (aI a0) (.undef))]) 4 (by kernel_rfl) (by kernel_rfl) (by kernel_rfl) (s1 1 [(29, aB (((a0 != 0) && (a1 != 0)) && (a0 != a1)))] ?_)
    exact sameN (by kernel_rfl) (by kernel_rfl) h
   refine fin [(0, aI a0), (1, aI a1), (29, aB ((!x4) || (((a0 != 0) && (a1 != 0)) && (a0 != a1))))] rfl (by kernel_rfl) ?_
   rcases bif_some hm with ⟨h6, hm⟩ | ⟨h6, hm⟩
   ·
    refine c1 h6 (rg (s1 1 [(30, .pv (.ifc 32 (.int .i64 50)))] ?_))
    obtain rfl := Option.some.inj hm
    exact rp0 (v := .pv (.ifc 32 (.int .i64 50))) (by kernel_rfl) (by kernel_rfl) (fun _ => ⟨trivial, by kernel_rfl⟩)
   ·
    refine c0 h6 (wp_skip (sq (dn [(6, aI (if a1 > a0 then a1 else a0))] (wp_ret ?_))))
    obtain rfl := Option.some.inj hm
    exact ⟨trivial, by kernel_rfl⟩
theorem ok_expr_truth {n : Nat} {a0 : Int} {r : Bool} (hm : expr_truth n a0 = some r) :
    call G n 96 [aI a0] [] = some (.ret (aB r), []) := by
  unfold expr_truth at hm
  obtain ⟨n, rfl, h0⟩ := at1_some hm
  replace hm := h0; clear h0
  refine callL 9 [(0, aI a0)] func96 rfl (by kernel_rfl) (sq (dn [(0, aI a0)] (sq (rg (s1 3 [(5, aB (a0 == 0)), (4, aB (a0 == 0)), (3, aI a0)] ?_)))))
  refine segP (a0 == 0) [5, 4] (fun b => [(8, aB (b || (a0 == 1))), (7, ifA b (.undef) (aB (a0 == 1))), (6, ifA b (.undef) (aI a0))]) 3 (by kernel_rfl) (by kernel_rfl) (by kernel_rfl) (fq 1 [(2, aB ((a0 == 0) || (a0 == 1)))] (wp_ret ?_))
  obtain rfl := Option.some.inj hm
  exact ⟨trivial, by kernel_rfl⟩
theorem ok_expr_one_expr_truth {n : Nat} {a0 : Int} {a1 : Int} {r : Int ⊕ (Int)} (hm : expr_one_expr_truth n a0 a1 = some r) :
    call G n 93 [aI a0, aI a1, .pv (.fn 96 [] [])] [] = some (PO 32 (fun (r : Int) => aI r) r, []) := by
  unfold expr_one_expr_truth at hm
  obtain ⟨n, rfl, h0⟩ := at1_some hm
  replace hm := h0; clear h0
  refine callP 34 [(0, aI a0), (1, aI a1), (2, .pv (.fn 96 [] []))] func93 rfl (by kernel_rfl) (sq (dn [(0, aI a0), (1, aI a1), (2, .pv (.fn 96 [] []))] (sq (sq (rg (s1 2 [(8, aI a0), (7, .pv (.fn 96 [] []))] ?_))))))
  obtain ⟨x1, h2, hm⟩ := bs hm
  refine dv 9 (cpure (by kernel_rfl) (ok_expr_truth h2) (by kernel_rfl) (by kernel_rfl) (by kernel_rfl)) (by kernel_rfl) (s1 2 [(11, aB (!x1)), (10, aB (!x1))] ?_)
  rcases bif_some hm with ⟨h3, hm⟩ | ⟨h3, hm⟩
  ·
   refine known [11, 10] h3 (by kernel_rfl) (fq 18 [(0, aI a0), (1, aI a1), (29, aB true)] (cT (by kernel_rfl) (rg (s1 1 [(30, .pv (.ifc 32 (.int .i64 50)))] ?_))))
   obtain rfl := Option.some.inj hm
   exact rp0 (v := .pv (.ifc 32 (.int .i64 50))) (by kernel_rfl) (by kernel_rfl) (fun _ => ⟨trivial, by kernel_rfl⟩)
  ·
   refine known [11, 10] h3 (by kernel_rfl) (s1 2 [(13, aI a1), (12, .pv (.fn 96 [] []))] ?_)
   obtain ⟨x4, h5, hm⟩ := bs hm
   refine dv 14 (cpure (by kernel_rfl) (ok_expr_truth h5) (by kernel_rfl) (by kernel_rfl) (by kernel_rfl)) (by kernel_rfl) (s1 3 [(17, aB (!x4)), (16, aB (!x4)), (15, aB (!x4))] ?_)
   refine seg (!x4) [17, 16, 15] (fun b => [(29, aB (b || (((a0 != 0) && (a1 != 0)) && (a0 != a1)))), (28, ifA b (.undef) (aB (((a0 != 0) && (a1 != 0)) && (a0 != a1)))), (27, ifA b (.undef) (ifA ((a0 != 0) && (a1 != 0)) (aB (a0 != a1)) (.undef))), (26, ifA b (.undef) (ifA ((a0 != 0) && (a1 != 0)) (aI a1) (.undef))), (25, ifA b (.undef) (ifA ((a0 != 0) && (a1 != 0)) (aI a0) (.undef))), (24, ifA b (.undef) (aB ((a0 != 0) && (a1 != 0)))), (23, ifA b (.undef) (aB ((a0 != 0) && (a1 != 0)))), (22, ifA b (.undef) (ifA (a0 != 0) (aB (a1 != 0)) (.undef))), (21, ifA b (.undef) (ifA (a0 != 0) (aI a1) (.undef))), (20, ifA b (.undef) (aB (a0 != 0))), (19, ifA b (.undef) (aB (a0 != 0))), (18, ifA b (.undef) (aI a0))]) 23 (by kernel_rfl) ?_ ?_ ?_
   ·
    intro Q h
    refine s1 12 [(29, aB true), (28, .undef), (27, .undef), (26, .undef), (25, .undef), (24, .undef), (23, .undef), (22, .undef), (21, .undef), (20, .undef), (19, .undef), (18, .undef)] ?_
    exact sameN (by kernel_rfl) (by kernel_rfl) h
   ·
    intro Q h
    refine s1 3 [(20, aB (a0 != 0)), (19, aB (a0 != 0)), (18, aI a0)] ?_
    refine segP (a0 != 0) [20, 19] (fun b => [(23, aB (b && (a1 != 0))), (22, ifA b (aB (a1 != 0)) (.undef)), (21, ifA b (aI a1) (.undef))]) 3 (by kernel_rfl) (by kernel_rfl) (by kernel_rfl) (s1 1 [(24, aB ((a0 != 0) && (a1 != 0)))] ?_)
    refine segP ((a0 != 0) && (a1 != 0)) [24, 23] (fun b => [(28, aB (b && (a0 != a1))), (27, ifA b (aB (a0 != a1)) (.undef)), (26, ifA b (aI a1) (.undef)), (25, ifA b (aI a0) (.undef))]) 4 (by kernel_rfl) (by kernel_rfl) (by kernel_rfl) (s1 1 [(29, aB (((a0 != 0) && (a1 != 0)) && (a0 != a1)))] ?_)
    exact sameN (by kernel_rfl) (by kernel_rfl) h
   refine fin [(0, aI a0), (1, aI a1), (29, aB ((!x4) || (((a0 != 0) && (a1 != 0)) && (a0 != a1))))] rfl (by kernel_rfl) ?_
   rcases bif_some hm with ⟨h6, hm⟩ | ⟨h6, hm⟩
   ·
    refine c1 h6 (rg (s1 1 [(30, .pv (.ifc 32 (.int .i64 50)))] ?_))
    obtain rfl := Option.some.inj hm
    exact rp0 (v := .pv (.ifc 32 (.int .i64 50))) (by kernel_rfl) (by kernel_rfl) (fun _ => ⟨trivial, by kernel_rfl⟩)
   ·
    refine c0 h6 (wp_skip (sq (dn [(6, aI (if a1 > a0 then a1 else a0))] (wp_ret ?_))))
    obtain rfl := Option.some.inj hm
    exact ⟨trivial, by kernel_rfl⟩
theorem okf_expr_typed {rc_expr_typed : (Nat → api_Expr → (Option (List api_Table)) → Option (Int ⊕ (Int)))} (ih_expr_typed : ∀ {n : Nat} {a0 : api_Expr} {a1 : (Option (List api_Table))} {r : Int ⊕ (Int)} (hm : rc_expr_typed n a0 a1 = some r), call G n 70 [.agg [aI a0.fKind, aI a0.fRel, aI a0.fCol, aI a0.fConst.fKind, aI a0.fConst.fInt, aF a0.fConst.fFloat, aS a0.fConst.fText, .pv (encSl R_E_api_Expr a0.fKids)], .pv (encSl R_api_Table a1)] [] = some (PO 32 (fun (r : Int) => aI r) r, [])) {n : Nat} {a0 : api_Expr} {a1 : (Option (List api_Table))} {r : Int ⊕ (Int)} (hm : expr_typed_f rc_expr_typed n a0 a1 = some r) :
    call G n 70 [.agg [aI a0.fKind, aI a0.fRel, aI a0.fCol, aI a0.fConst.fKind, aI a0.fConst.fInt, aF a0.fConst.fFloat, aS a0.fConst.fText, .pv (encSl R_E_api_Expr a0.fKids)], .pv (encSl R_api_Table a1)] [] = some (PO 32 (fun (r : Int) => aI r) r, []) := by
  unfold expr_typed_f at hm
  obtain ⟨n, rfl, h0⟩ := at1_some hm
  replace hm := h0; clear h0
  refine callP 84 [(0, .agg [aI a0.fKind, aI a0.fRel, aI a0.fCol, aI a0.fConst.fKind, aI a0.fConst.fInt, aF a0.fConst.fFloat, aS a0.fConst.fText, .pv (encSl R_E_api_Expr a0.fKids)]), (1, .pv (encSl R_api_Table a1))] func70 rfl (by kernel_rfl) (sq (det [(1, .pv (encSl R_api_Table a1)), (2, .ptr 0 0)] [.box [aI a0.fKind, aI a0.fRel, aI a0.fCol, aI a0.fConst.fKind, aI a0.fConst.fInt, aF a0.fConst.fFloat, aS a0.fConst.fText, .pv (encSl R_E_api_Expr a0.fKids)] false] (by kernel_rfl) (sq (dn [(1, .pv (encSl R_api_Table a1)), (2, .ptr 0 0), (5, .pv .nils)] ?_))))
  obtain ⟨k4, hk4, hm⟩ := withK_some hm
  refine mid (fun t H => (∃ (w1 : AV) (w2 : AV), k4 none = some r ∧ t = mk 84 [(1, .pv (encSl R_api_Table a1)), (2, .ptr 0 0), (5, .pv .nils), (9, .pv (encSl R_E_api_Expr a0.fKids)), (10, aI ((sll a0.fKids).length : Int)), (11, w1), (12, w2)] ∧ H = [.box [aI a0.fKind, aI a0.fRel, aI a0.fCol, aI a0.fConst.fKind, aI a0.fConst.fInt, aF a0.fConst.fFloat, aS a0.fConst.fText, .pv (encSl R_E_api_Expr a0.fKids)] false]) ∨ (∃ (y3 : (List Int)) (w1 : AV) (w2 : AV), k4 (some y3) = some r ∧ t = mk 84 [(1, .pv (encSl R_api_Table a1)), (2, .ptr 0 0), (5, aR 1 1 y3.length), (9, .pv (encSl R_E_api_Expr a0.fKids)), (10, aI ((sll a0.fKids).length : Int)), (11, w1), (12, w2)] ∧ H = [.box [aI a0.fKind, aI a0.fRel, aI a0.fCol, aI a0.fConst.fKind, aI a0.fConst.fInt, aF a0.fConst.fFloat, aS a0.fConst.fText, .pv (encSl R_E_api_Expr a0.fKids)] false, bR 3 1 (rI .i64) y3 0 0])) ?_ ?_
  ·
   rintro _ _ (⟨w1, w2, hm, rfl, rfl⟩ | ⟨y3, w1, w2, hm, rfl, rfl⟩)
   ·
    subst hk4
    refine sq (sq (dn [(1, .pv (encSl R_api_Table a1)), (2, .ptr 0 0), (5, .pv .nils), (23, aI a0.fKind)] (bq (sq (dn [(1, .pv (encSl R_api_Table a1)), (2, .ptr 0 0), (5, .pv .nils), (23, aI a0.fKind), (24, aB (a0.fKind == 1))] ?_)))))
    rcases bif_some hm with ⟨h5, hm⟩ | ⟨h5, hm⟩
    ·
     refine c1 h5 (sq (rg (s1 2 [(27, .pv (encSl R_api_Table a1)), (26, .agg [aI a0.fKind, aI a0.fRel, aI a0.fCol, aI a0.fConst.fKind, aI a0.fConst.fInt, aF a0.fConst.fFloat, aS a0.fConst.fText, .pv (encSl R_E_api_Expr a0.fKids)])] ?_)))
     obtain ⟨x6, h7, hm⟩ := bs hm
     rcases x6 with x8 | x6
     ·
      obtain rfl := Option.some.inj hm
      exact rp0 (v := .pv (.ifc 32 (.int .i64 x8))) (cpan (by kernel_rfl) (ok_expr_column h7) (by kernel_rfl) (by kernel_rfl) (by kernel_rfl)) (by kernel_rfl) (fun _ => ⟨trivial, by kernel_rfl⟩)
     ·
      refine dv 28 (cpure (by kernel_rfl) (ok_expr_column h7) (by kernel_rfl) (by kernel_rfl) (by kernel_rfl)) (by kernel_rfl) (fq 1 [(4, aI x6)] (wp_ret ?_))
      obtain rfl := Option.some.inj hm
      exact ⟨trivial, by kernel_rfl⟩
    ·
     refine c0 h5 (sq (dn [(2, .ptr 0 0), (5, .pv .nils), (23, aI a0.fKind), (29, aB (a0.fKind == 2))] ?_))
     rcases bif_some hm with ⟨h9, hm⟩ | ⟨h9, hm⟩
     ·
      refine c1 h9 (sq (dn [(4, aI a0.fConst.fKind)] (wp_ret ?_)))
      obtain rfl := Option.some.inj hm
      exact ⟨trivial, by kernel_rfl⟩
     ·
      refine c0 h9 ?_
      obtain ⟨k11, hk11, hm⟩ := withK_some hm
      refine mid (fun t H => (∃ (y10 : Bool), k11 y10 = some r ∧ t = mk 84 [(5, .pv .nils), (23, aI a0.fKind), (34, aB y10)] ∧ H = [.box [aI a0.fKind, aI a0.fRel, aI a0.fCol, aI a0.fConst.fKind, aI a0.fConst.fInt, aF a0.fConst.fFloat, aS a0.fConst.fText, .pv (encSl R_E_api_Expr a0.fKids)] false])) ?_ ?_
      ·
       rintro _ _ ⟨y10, hm, rfl, rfl⟩
       subst hk11
       rcases bif_some hm with ⟨h12, hm⟩ | ⟨h12, hm⟩
       ·
        refine c1 h12 (sq (rgd (shd 1 [(38, .pv .nils)] (by kernel_rfl) ?_)))
        cases hm
       ·
        refine c0 h12 (sq (dn [(5, .pv .nils), (23, aI a0.fKind), (45, aB (a0.fKind == 6))] ?_))
        rcases bif_some hm with ⟨h13, hm⟩ | ⟨h13, hm⟩
        ·
         refine c1 h13 (sq (rgd (shd 1 [(47, .pv .nils)] (by kernel_rfl) ?_)))
         cases hm
        ·
         refine c0 h13 ?_
         obtain ⟨k15, hk15, hm⟩ := withK_some hm
         refine mid (fun t H => (∃ (y14 : Bool), k15 y14 = some r ∧ t = mk 84 [(5, .pv .nils), (23, aI a0.fKind), (54, aB y14)] ∧ H = [.box [aI a0.fKind, aI a0.fRel, aI a0.fCol, aI a0.fConst.fKind, aI a0.fConst.fInt, aF a0.fConst.fFloat, aS a0.fConst.fText, .pv (encSl R_E_api_Expr a0.fKids)] false])) ?_ ?_
         ·
          rintro _ _ ⟨y14, hm, rfl, rfl⟩
          subst hk15
          rcases bif_some hm with ⟨h16, hm⟩ | ⟨h16, hm⟩
          ·
           refine c1 h16 (rgd (shd 1 [(58, .pv .nils)] (by kernel_rfl) ?_))
           cases hm
          ·
           refine c0 h16 ?_
           obtain ⟨k18, hk18, hm⟩ := withK_some hm
           refine mid (fun t H => (∃ (y17 : Bool), k18 y17 = some r ∧ t = mk 84 [(5, .pv .nils), (23, aI a0.fKind), (65, aB y17)] ∧ H = [.box [aI a0.fKind, aI a0.fRel, aI a0.fCol, aI a0.fConst.fKind, aI a0.fConst.fInt, aF a0.fConst.fFloat, aS a0.fConst.fText, .pv (encSl R_E_api_Expr a0.fKids)] false])) ?_ ?_
           ·
            rintro _ _ ⟨y17, hm, rfl, rfl⟩
            subst hk18
            rcases bif_some hm with ⟨h19, hm⟩ | ⟨h19, hm⟩
            ·
             refine c1 h19 (rgd (shd 1 [(68, .pv .nils)] (by kernel_rfl) ?_))
             cases hm
            ·
             refine c0 h19 (sq (dn [(5, .pv .nils), (75, aB (a0.fKind == 12))] ?_))
             rcases bif_some hm with ⟨h20, hm⟩ | ⟨h20, hm⟩
             ·
              refine c1 h20 (rgd (shd 1 [(77, .pv .nils)] (by kernel_rfl) ?_))
              cases hm
             ·
              refine c0 h20 (wp_skip (sq (dn [(4, aI 1)] (wp_ret ?_))))
              obtain rfl := Option.some.inj hm
              exact ⟨trivial, by kernel_rfl⟩
           refine sq (dn [(5, .pv .nils), (23, aI a0.fKind), (65, aB (a0.fKind == 10))] ?_)
           rcases bif_some hm with ⟨h21, hm⟩ | ⟨h21, hm⟩
           ·
            refine c1 h21 (wp_skip ?_)
            exact ⟨(a0.fKind == 10), hm, rfl, rfl⟩
           ·
            refine c0 h21 (dn [(5, .pv .nils), (23, aI a0.fKind), (65, aB (a0.fKind == 11))] ?_)
            exact ⟨(a0.fKind == 11), hm, rfl, rfl⟩
         refine sq (dn [(5, .pv .nils), (23, aI a0.fKind), (54, aB (a0.fKind == 7))] ?_)
         rcases bif_some hm with ⟨h22, hm⟩ | ⟨h22, hm⟩
         ·
          refine c1 h22 (wp_skip ?_)
          exact ⟨(a0.fKind == 7), hm, rfl, rfl⟩
         ·
          refine c0 h22 (sq (dn [(5, .pv .nils), (23, aI a0.fKind), (54, aB (a0.fKind == 8))] ?_))
          rcases bif_some hm with ⟨h23, hm⟩ | ⟨h23, hm⟩
          ·
           refine c1 h23 (wp_skip ?_)
           exact ⟨(a0.fKind == 8), hm, rfl, rfl⟩
          ·
           refine c0 h23 (dn [(5, .pv .nils), (23, aI a0.fKind), (54, aB (a0.fKind == 9))] ?_)
           exact ⟨(a0.fKind == 9), hm, rfl, rfl⟩
      refine sq (dn [(5, .pv .nils), (23, aI a0.fKind), (34, aB (a0.fKind == 3))] ?_)
      rcases bif_some hm with ⟨h24, hm⟩ | ⟨h24, hm⟩
      ·
       refine c1 h24 (wp_skip ?_)
       exact ⟨(a0.fKind == 3), hm, rfl, rfl⟩
      ·
       refine c0 h24 (sq (dn [(5, .pv .nils), (23, aI a0.fKind), (34, aB (a0.fKind == 4))] ?_))
       rcases bif_some hm with ⟨h25, hm⟩ | ⟨h25, hm⟩
       ·
        refine c1 h25 (wp_skip ?_)
        exact ⟨(a0.fKind == 4), hm, rfl, rfl⟩
       ·
        refine c0 h25 (dn [(5, .pv .nils), (23, aI a0.fKind), (34, aB (a0.fKind == 5))] ?_)
        exact ⟨(a0.fKind == 5), hm, rfl, rfl⟩
   ·
    subst hk4
    refine sq (sq (dn [(1, .pv (encSl R_api_Table a1)), (2, .ptr 0 0), (5, aR 1 1 y3.length), (23, aI a0.fKind)] (bq (sq (dn [(1, .pv (encSl R_api_Table a1)), (2, .ptr 0 0), (5, aR 1 1 y3.length), (23, aI a0.fKind), (24, aB (a0.fKind == 1))] ?_)))))
    rcases bif_some hm with ⟨h26, hm⟩ | ⟨h26, hm⟩
    ·
     refine c1 h26 (sq (rg (s1 2 [(27, .pv (encSl R_api_Table a1)), (26, .agg [aI a0.fKind, aI a0.fRel, aI a0.fCol, aI a0.fConst.fKind, aI a0.fConst.fInt, aF a0.fConst.fFloat, aS a0.fConst.fText, .pv (encSl R_E_api_Expr a0.fKids)])] ?_)))
     obtain ⟨x27, h28, hm⟩ := bs hm
     rcases x27 with x29 | x27
     ·
      obtain rfl := Option.some.inj hm
      exact rp0 (v := .pv (.ifc 32 (.int .i64 x29))) (cpan (by kernel_rfl) (ok_expr_column h28) (by kernel_rfl) (by kernel_rfl) (by kernel_rfl)) (by kernel_rfl) (fun _ => ⟨trivial, by kernel_rfl⟩)
     ·
      refine dv 28 (cpure (by kernel_rfl) (ok_expr_column h28) (by kernel_rfl) (by kernel_rfl) (by kernel_rfl)) (by kernel_rfl) (fq 1 [(4, aI x27)] (wp_ret ?_))
      obtain rfl := Option.some.inj hm
      exact ⟨trivial, by kernel_rfl⟩
    ·
     refine c0 h26 (sq (dn [(2, .ptr 0 0), (5, aR 1 1 y3.length), (23, aI a0.fKind), (29, aB (a0.fKind == 2))] ?_))
     rcases bif_some hm with ⟨h30, hm⟩ | ⟨h30, hm⟩
     ·
      refine c1 h30 (sq (dn [(4, aI a0.fConst.fKind)] (wp_ret ?_)))
      obtain rfl := Option.some.inj hm
      exact ⟨trivial, by kernel_rfl⟩
     ·
      refine c0 h30 ?_
      obtain ⟨k32, hk32, hm⟩ := withK_some hm
      refine mid (fun t H => (∃ (y31 : Bool), k32 y31 = some r ∧ t = mk 84 [(5, aR 1 1 y3.length), (23, aI a0.fKind), (34, aB y31)] ∧ H = [.box [aI a0.fKind, aI a0.fRel, aI a0.fCol, aI a0.fConst.fKind, aI a0.fConst.fInt, aF a0.fConst.fFloat, aS a0.fConst.fText, .pv (encSl R_E_api_Expr a0.fKids)] false, bR 3 1 (rI .i64) y3 0 0])) ?_ ?_
      ·
       rintro _ _ ⟨y31, hm, rfl, rfl⟩
       subst hk32
       rcases bif_some hm with ⟨h33, hm⟩ | ⟨h33, hm⟩
       ·
        refine c1 h33 (sq (rgd (shd 1 [(38, aR 1 1 y3.length)] (by kernel_rfl) ?_)))
        obtain ⟨x34, h35, hm⟩ := bs hm
        refine dvd 39 (v := .eptr 1 0 y3.length 1 (0 + Int.toNat 0) 0) (ia_refO y3 .i64 (n := y3.length) (id := 1) (esz := 1) t31 t3 h35 rfl rfl (by kernel_rfl)) (by kernel_rfl) (dvd 40 (v := aI x34) (ld_eptrO (rI .i64) y3 (n := y3.length) (esz := 1) (j := 0) (off := 0) (id := 1) t3 rfl h35 rfl (Nat.zero_le _) (by kernel_rfl) (by kernel_rfl)) (by kernel_rfl) (shd 1 [(41, aR 1 1 y3.length)] (by kernel_rfl) ?_))
        obtain ⟨x36, h37, hm⟩ := bs hm
        refine dvd 42 (v := .eptr 1 0 y3.length 1 (0 + Int.toNat 1) 0) (ia_refO y3 .i64 (n := y3.length) (id := 1) (esz := 1) t31 t3 h37 rfl rfl (by kernel_rfl)) (by kernel_rfl) (dvd 43 (v := aI x36) (ld_eptrO (rI .i64) y3 (n := y3.length) (esz := 1) (j := 1) (off := 0) (id := 1) t3 rfl h37 rfl (Nat.zero_le _) (by kernel_rfl) (by kernel_rfl)) (by kernel_rfl) ?_)
        obtain ⟨x38, h39, hm⟩ := bs hm
        rcases x38 with x40 | x38
        ·
         obtain rfl := Option.some.inj hm
         exact rp0d (v := .pv (.ifc 32 (.int .i64 x40))) (cpan (by kernel_rfl) (ok_expr_one_expr_numeric h39) (by kernel_rfl) (by kernel_rfl) (by kernel_rfl)) (by kernel_rfl) (by kernel_rfl) (fun _ => ⟨trivial, by kernel_rfl⟩)
        ·
         refine dvd 44 (cpure (by kernel_rfl) (ok_expr_one_expr_numeric h39) (by kernel_rfl) (by kernel_rfl) (by kernel_rfl)) (by kernel_rfl) (shd 1 [(4, aI x38)] (by kernel_rfl) (find [(4, aI x38)] rfl (by kernel_rfl) (by kernel_rfl) (wp_ret ?_)))
         obtain rfl := Option.some.inj hm
         exact ⟨trivial, by kernel_rfl⟩
       ·
        refine c0 h33 (sq (dn [(5, aR 1 1 y3.length), (23, aI a0.fKind), (45, aB (a0.fKind == 6))] ?_))
        rcases bif_some hm with ⟨h41, hm⟩ | ⟨h41, hm⟩
        ·
         refine c1 h41 (sq (rgd (shd 1 [(47, aR 1 1 y3.length)] (by kernel_rfl) ?_)))
         obtain ⟨x42, h43, hm⟩ := bs hm
         refine dvd 48 (v := .eptr 1 0 y3.length 1 (0 + Int.toNat 0) 0) (ia_refO y3 .i64 (n := y3.length) (id := 1) (esz := 1) t31 t3 h43 rfl rfl (by kernel_rfl)) (by kernel_rfl) (dvd 49 (v := aI x42) (ld_eptrO (rI .i64) y3 (n := y3.length) (esz := 1) (j := 0) (off := 0) (id := 1) t3 rfl h43 rfl (Nat.zero_le _) (by kernel_rfl) (by kernel_rfl)) (by kernel_rfl) (shd 1 [(50, aR 1 1 y3.length)] (by kernel_rfl) (dvd 51 (v := .eptr 1 0 y3.length 1 (0 + Int.toNat 0) 0) (ia_refO y3 .i64 (n := y3.length) (id := 1) (esz := 1) t31 t3 h43 rfl rfl (by kernel_rfl)) (by kernel_rfl) (dvd 52 (v := aI x42) (ld_eptrO (rI .i64) y3 (n := y3.length) (esz := 1) (j := 0) (off := 0) (id := 1) t3 rfl h43 rfl (Nat.zero_le _) (by kernel_rfl) (by kernel_rfl)) (by kernel_rfl) ?_))))
         obtain ⟨x44, h45, hm⟩ := bs hm
         rcases x44 with x46 | x44
         ·
          obtain rfl := Option.some.inj hm
          exact rp0d (v := .pv (.ifc 32 (.int .i64 x46))) (cpan (by kernel_rfl) (ok_expr_one_expr_numeric h45) (by kernel_rfl) (by kernel_rfl) (by kernel_rfl)) (by kernel_rfl) (by kernel_rfl) (fun _ => ⟨trivial, by kernel_rfl⟩)
         ·
          refine dvd 53 (cpure (by kernel_rfl) (ok_expr_one_expr_numeric h45) (by kernel_rfl) (by kernel_rfl) (by kernel_rfl)) (by kernel_rfl) (shd 1 [(4, aI x44)] (by kernel_rfl) (find [(4, aI x44)] rfl (by kernel_rfl) (by kernel_rfl) (wp_ret ?_)))
          obtain rfl := Option.some.inj hm
          exact ⟨trivial, by kernel_rfl⟩
        ·
         refine c0 h41 ?_
         obtain ⟨k48, hk48, hm⟩ := withK_some hm
         refine mid (fun t H => (∃ (y47 : Bool), k48 y47 = some r ∧ t = mk 84 [(5, aR 1 1 y3.length), (23, aI a0.fKind), (54, aB y47)] ∧ H = [.box [aI a0.fKind, aI a0.fRel, aI a0.fCol, aI a0.fConst.fKind, aI a0.fConst.fInt, aF a0.fConst.fFloat, aS a0.fConst.fText, .pv (encSl R_E_api_Expr a0.fKids)] false, bR 3 1 (rI .i64) y3 0 0])) ?_ ?_
         ·
          rintro _ _ ⟨y47, hm, rfl, rfl⟩
          subst hk48
          rcases bif_some hm with ⟨h49, hm⟩ | ⟨h49, hm⟩
          ·
           refine c1 h49 (rgd (shd 1 [(58, aR 1 1 y3.length)] (by kernel_rfl) ?_))
           obtain ⟨x50, h51, hm⟩ := bs hm
           refine dvd 59 (v := .eptr 1 0 y3.length 1 (0 + Int.toNat 0) 0) (ia_refO y3 .i64 (n := y3.length) (id := 1) (esz := 1) t31 t3 h51 rfl rfl (by kernel_rfl)) (by kernel_rfl) (dvd 60 (v := aI x50) (ld_eptrO (rI .i64) y3 (n := y3.length) (esz := 1) (j := 0) (off := 0) (id := 1) t3 rfl h51 rfl (Nat.zero_le _) (by kernel_rfl) (by kernel_rfl)) (by kernel_rfl) (shd 1 [(61, aR 1 1 y3.length)] (by kernel_rfl) ?_))
           obtain ⟨x52, h53, hm⟩ := bs hm
           refine dvd 62 (v := .eptr 1 0 y3.length 1 (0 + Int.toNat 1) 0) (ia_refO y3 .i64 (n := y3.length) (id := 1) (esz := 1) t31 t3 h53 rfl rfl (by kernel_rfl)) (by kernel_rfl) (dvd 63 (v := aI x52) (ld_eptrO (rI .i64) y3 (n := y3.length) (esz := 1) (j := 1) (off := 0) (id := 1) t3 rfl h53 rfl (Nat.zero_le _) (by kernel_rfl) (by kernel_rfl)) (by kernel_rfl) ?_)
           obtain ⟨x54, h55, hm⟩ := bs hm
           rcases x54 with x56 | x54
           ·
            obtain rfl := Option.some.inj hm
            exact rp0d (v := .pv (.ifc 32 (.int .i64 x56))) (cpan (by kernel_rfl) (ok_expr_one_expr_typed_1 h55) (by kernel_rfl) (by kernel_rfl) (by kernel_rfl)) (by kernel_rfl) (by kernel_rfl) (fun _ => ⟨trivial, by kernel_rfl⟩)
           ·
            refine dvd 64 (cpure (by kernel_rfl) (ok_expr_one_expr_typed_1 h55) (by kernel_rfl) (by kernel_rfl) (by kernel_rfl)) (by kernel_rfl) (find [] rfl (by kernel_rfl) (by kernel_rfl) (sq (dn [(4, aI 1)] (wp_ret ?_))))
            obtain rfl := Option.some.inj hm
            exact ⟨trivial, by kernel_rfl⟩
          ·
           refine c0 h49 ?_
           obtain ⟨k58, hk58, hm⟩ := withK_some hm
           refine mid (fun t H => (∃ (y57 : Bool), k58 y57 = some r ∧ t = mk 84 [(5, aR 1 1 y3.length), (23, aI a0.fKind), (65, aB y57)] ∧ H = [.box [aI a0.fKind, aI a0.fRel, aI a0.fCol, aI a0.fConst.fKind, aI a0.fConst.fInt, aF a0.fConst.fFloat, aS a0.fConst.fText, .pv (encSl R_E_api_Expr a0.fKids)] false, bR 3 1 (rI .i64) y3 0 0])) ?_ ?_
           ·
            rintro _ _ ⟨y57, hm, rfl, rfl⟩
            subst hk58
            rcases bif_some hm with ⟨h59, hm⟩ | ⟨h59, hm⟩
            ·
             refine c1 h59 (rgd (shd 1 [(68, aR 1 1 y3.length)] (by kernel_rfl) ?_))
             obtain ⟨x60, h61, hm⟩ := bs hm
             refine dvd 69 (v := .eptr 1 0 y3.length 1 (0 + Int.toNat 0) 0) (ia_refO y3 .i64 (n := y3.length) (id := 1) (esz := 1) t31 t3 h61 rfl rfl (by kernel_rfl)) (by kernel_rfl) (dvd 70 (v := aI x60) (ld_eptrO (rI .i64) y3 (n := y3.length) (esz := 1) (j := 0) (off := 0) (id := 1) t3 rfl h61 rfl (Nat.zero_le _) (by kernel_rfl) (by kernel_rfl)) (by kernel_rfl) (shd 1 [(71, aR 1 1 y3.length)] (by kernel_rfl) ?_))
             obtain ⟨x62, h63, hm⟩ := bs hm
             refine dvd 72 (v := .eptr 1 0 y3.length 1 (0 + Int.toNat 1) 0) (ia_refO y3 .i64 (n := y3.length) (id := 1) (esz := 1) t31 t3 h63 rfl rfl (by kernel_rfl)) (by kernel_rfl) (dvd 73 (v := aI x62) (ld_eptrO (rI .i64) y3 (n := y3.length) (esz := 1) (j := 1) (off := 0) (id := 1) t3 rfl h63 rfl (Nat.zero_le _) (by kernel_rfl) (by kernel_rfl)) (by kernel_rfl) ?_)
             obtain ⟨x64, h65, hm⟩ := bs hm
             rcases x64 with x66 | x64
             ·
              obtain rfl := Option.some.inj hm
              exact rp0d (v := .pv (.ifc 32 (.int .i64 x66))) (cpan (by kernel_rfl) (ok_expr_one_expr_truth h65) (by kernel_rfl) (by kernel_rfl) (by kernel_rfl)) (by kernel_rfl) (by kernel_rfl) (fun _ => ⟨trivial, by kernel_rfl⟩)
             ·
              refine dvd 74 (cpure (by kernel_rfl) (ok_expr_one_expr_truth h65) (by kernel_rfl) (by kernel_rfl) (by kernel_rfl)) (by kernel_rfl) (find [] rfl (by kernel_rfl) (by kernel_rfl) (sq (dn [(4, aI 1)] (wp_ret ?_))))
              obtain rfl := Option.some.inj hm
              exact ⟨trivial, by kernel_rfl⟩
            ·
             refine c0 h59 (sq (dn [(5, aR 1 1 y3.length), (75, aB (a0.fKind == 12))] ?_))
             rcases bif_some hm with ⟨h67, hm⟩ | ⟨h67, hm⟩
             ·
              refine c1 h67 (rgd (shd 1 [(77, aR 1 1 y3.length)] (by kernel_rfl) ?_))
              obtain ⟨x68, h69, hm⟩ := bs hm
              refine dvd 78 (v := .eptr 1 0 y3.length 1 (0 + Int.toNat 0) 0) (ia_refO y3 .i64 (n := y3.length) (id := 1) (esz := 1) t31 t3 h69 rfl rfl (by kernel_rfl)) (by kernel_rfl) (dvd 79 (v := aI x68) (ld_eptrO (rI .i64) y3 (n := y3.length) (esz := 1) (j := 0) (off := 0) (id := 1) t3 rfl h69 rfl (Nat.zero_le _) (by kernel_rfl) (by kernel_rfl)) (by kernel_rfl) (shd 1 [(80, aR 1 1 y3.length)] (by kernel_rfl) (dvd 81 (v := .eptr 1 0 y3.length 1 (0 + Int.toNat 0) 0) (ia_refO y3 .i64 (n := y3.length) (id := 1) (esz := 1) t31 t3 h69 rfl rfl (by kernel_rfl)) (by kernel_rfl) (dvd 82 (v := aI x68) (ld_eptrO (rI .i64) y3 (n := y3.length) (esz := 1) (j := 0) (off := 0) (id := 1) t3 rfl h69 rfl (Nat.zero_le _) (by kernel_rfl) (by kernel_rfl)) (by kernel_rfl) ?_))))
              obtain ⟨x70, h71, hm⟩ := bs hm
              rcases x70 with x72 | x70
              ·
               obtain rfl := Option.some.inj hm
               exact rp0d (v := .pv (.ifc 32 (.int .i64 x72))) (cpan (by kernel_rfl) (ok_expr_one_expr_truth h71) (by kernel_rfl) (by kernel_rfl) (by kernel_rfl)) (by kernel_rfl) (by kernel_rfl) (fun _ => ⟨trivial, by kernel_rfl⟩)
              ·
               refine dvd 83 (cpure (by kernel_rfl) (ok_expr_one_expr_truth h71) (by kernel_rfl) (by kernel_rfl) (by kernel_rfl)) (by kernel_rfl) (find [] rfl (by kernel_rfl) (by kernel_rfl) (sq (dn [(4, aI 1)] (wp_ret ?_))))
               obtain rfl := Option.some.inj hm
               exact ⟨trivial, by kernel_rfl⟩
             ·
              refine c0 h67 (wp_skip (sq (dn [(4, aI 1)] (wp_ret ?_))))
              obtain rfl := Option.some.inj hm
              exact ⟨trivial, by kernel_rfl⟩
           refine sq (dn [(5, aR 1 1 y3.length), (23, aI a0.fKind), (65, aB (a0.fKind == 10))] ?_)
           rcases bif_some hm with ⟨h73, hm⟩ | ⟨h73, hm⟩
           ·
            refine c1 h73 (wp_skip ?_)
            exact ⟨(a0.fKind == 10), hm, rfl, rfl⟩
           ·
            refine c0 h73 (dn [(5, aR 1 1 y3.length), (23, aI a0.fKind), (65, aB (a0.fKind == 11))] ?_)
            exact ⟨(a0.fKind == 11), hm, rfl, rfl⟩
         refine sq (dn [(5, aR 1 1 y3.length), (23, aI a0.fKind), (54, aB (a0.fKind == 7))] ?_)
         rcases bif_some hm with ⟨h74, hm⟩ | ⟨h74, hm⟩
         ·
          refine c1 h74 (wp_skip ?_)
          exact ⟨(a0.fKind == 7), hm, rfl, rfl⟩
         ·
          refine c0 h74 (sq (dn [(5, aR 1 1 y3.length), (23, aI a0.fKind), (54, aB (a0.fKind == 8))] ?_))
          rcases bif_some hm with ⟨h75, hm⟩ | ⟨h75, hm⟩
          ·
           refine c1 h75 (wp_skip ?_)
           exact ⟨(a0.fKind == 8), hm, rfl, rfl⟩
          ·
           refine c0 h75 (dn [(5, aR 1 1 y3.length), (23, aI a0.fKind), (54, aB (a0.fKind == 9))] ?_)
           exact ⟨(a0.fKind == 9), hm, rfl, rfl⟩
      refine sq (dn [(5, aR 1 1 y3.length), (23, aI a0.fKind), (34, aB (a0.fKind == 3))] ?_)
      rcases bif_some hm with ⟨h76, hm⟩ | ⟨h76, hm⟩
      ·
       refine c1 h76 (wp_skip ?_)
       exact ⟨(a0.fKind == 3), hm, rfl, rfl⟩
      ·
       refine c0 h76 (sq (dn [(5, aR 1 1 y3.length), (23, aI a0.fKind), (34, aB (a0.fKind == 4))] ?_))
       rcases bif_some hm with ⟨h77, hm⟩ | ⟨h77, hm⟩
       ·
        refine c1 h77 (wp_skip ?_)
        exact ⟨(a0.fKind == 4), hm, rfl, rfl⟩
       ·
        refine c0 h77 (dn [(5, aR 1 1 y3.length), (23, aI a0.fKind), (34, aB (a0.fKind == 5))] ?_)
        exact ⟨(a0.fKind == 5), hm, rfl, rfl⟩
  refine sq (rg (s1 2 [(9, .pv (encSl R_E_api_Expr a0.fKids)), (8, .ptr 0 7)] (dv 10 (v := aI ((sll a0.fKids).length : Int)) (len_slO R_E_api_Expr a0.fKids t23 (by kernel_rfl)) (by kernel_rfl) (fq 1 [(1, .pv (encSl R_api_Table a1)), (2, .ptr 0 0), (5, .pv .nils), (9, .pv (encSl R_E_api_Expr a0.fKids)), (10, aI ((sll a0.fKids).length : Int)), (11, aI 0)] (bq ?_)))))
  refine loopF (fun mm t H => (∃ (y81 : Int), expr_typed_l3 n rc_expr_typed a0 a1 k4 mm y81 none = some r ∧ t = mk 84 [(1, .pv (encSl R_api_Table a1)), (2, .ptr 0 0), (5, .pv .nils), (9, .pv (encSl R_E_api_Expr a0.fKids)), (10, aI ((sll a0.fKids).length : Int)), (11, aI y81)] ∧ H = [.box [aI a0.fKind, aI a0.fRel, aI a0.fCol, aI a0.fConst.fKind, aI a0.fConst.fInt, aF a0.fConst.fFloat, aS a0.fConst.fText, .pv (encSl R_E_api_Expr a0.fKids)] false]) ∨ (∃ (y81 : Int) (y82 : (List Int)), expr_typed_l3 n rc_expr_typed a0 a1 k4 mm y81 (some y82) = some r ∧ t = mk 84 [(1, .pv (encSl R_api_Table a1)), (2, .ptr 0 0), (5, aR 1 1 y82.length), (9, .pv (encSl R_E_api_Expr a0.fKids)), (10, aI ((sll a0.fKids).length : Int)), (11, aI y81)] ∧ H = [.box [aI a0.fKind, aI a0.fRel, aI a0.fCol, aI a0.fConst.fKind, aI a0.fConst.fInt, aF a0.fConst.fFloat, aS a0.fConst.fText, .pv (encSl R_E_api_Expr a0.fKids)] false, bR 3 1 (rI .i64) y82 0 0])) (.inl ⟨0, hm, rfl, rfl⟩) ?_ ?_
  · rintro _ _ (⟨y81, hm, _⟩ | ⟨y81, y82, hm, _⟩) <;> exact nomatch hm
  rintro m83 _ _ (⟨y81, hm, rfl, rfl⟩ | ⟨y81, y82, hm, rfl, rfl⟩)
  ·
   simp only [expr_typed_l3] at hm
   refine sq (dn [(1, .pv (encSl R_api_Table a1)), (2, .ptr 0 0), (5, .pv .nils), (9, .pv (encSl R_E_api_Expr a0.fKids)), (10, aI ((sll a0.fKids).length : Int)), (11, aI y81), (12, aB (decide (y81 < ((sll a0.fKids).length : Int))))] ?_)
   refine sq ?_
   rcases bif_some hm with ⟨h84, hm⟩ | ⟨h84, hm⟩
   ·
    refine c1 h84 (wp_skip (sq (bq (sq (rg ?_)))))
    obtain ⟨x85, h86, hm⟩ := bs hm
    refine dv 13 (v := .pv (.ptr (R_api_Expr (un_api_Expr x85)) 0)) (ia_slE R_E_api_Expr a0.fKids .i64 t23 t44 h86 (R_un_api_Expr x85) rfl (by kernel_rfl)) (by kernel_rfl) (stf 3 [(1, .pv (encSl R_api_Table a1)), (2, .ptr 0 0), (5, .pv .nils), (7, .ptr 1 0), (9, .pv (encSl R_E_api_Expr a0.fKids)), (10, aI ((sll a0.fKids).length : Int)), (11, aI y81)] [.box [aI a0.fKind, aI a0.fRel, aI a0.fCol, aI a0.fConst.fKind, aI a0.fConst.fInt, aF a0.fConst.fFloat, aS a0.fConst.fText, .pv (encSl R_E_api_Expr a0.fKids)] false, .box [aI ((un_api_Expr x85).fKind), aI ((un_api_Expr x85).fRel), aI ((un_api_Expr x85).fCol), aI (((un_api_Expr x85).fConst).fKind), aI (((un_api_Expr x85).fConst).fInt), aF (((un_api_Expr x85).fConst).fFloat), aS (((un_api_Expr x85).fConst).fText), .pv (encSl R_E_api_Expr ((un_api_Expr x85).fKids))] false] (by kernel_rfl) (rg (s1 3 [(17, .pv (encSl R_api_Table a1)), (16, .agg [aI ((un_api_Expr x85).fKind), aI ((un_api_Expr x85).fRel), aI ((un_api_Expr x85).fCol), aI (((un_api_Expr x85).fConst).fKind), aI (((un_api_Expr x85).fConst).fInt), aF (((un_api_Expr x85).fConst).fFloat), aS (((un_api_Expr x85).fConst).fText), .pv (encSl R_E_api_Expr ((un_api_Expr x85).fKids))]), (15, .pv .nils)] ?_)))
    obtain ⟨x87, h88, hm⟩ := bs hm
    rcases x87 with x89 | x87
    ·
     obtain rfl := Option.some.inj hm
     exact rp0 (v := .pv (.ifc 32 (.int .i64 x89))) (cpan (by kernel_rfl) (ih_expr_typed h88) (by kernel_rfl) (by kernel_rfl) (by kernel_rfl)) (by kernel_rfl) (fun _ => ⟨trivial, by kernel_rfl⟩)
    ·
     refine dv 18 (cpure (by kernel_rfl) (ih_expr_typed h88) (by kernel_rfl) (by kernel_rfl) (by kernel_rfl)) (by kernel_rfl) (st 1 [(19, aR 2 1 1)] [.box [aI a0.fKind, aI a0.fRel, aI a0.fCol, aI a0.fConst.fKind, aI a0.fConst.fInt, aF a0.fConst.fFloat, aS a0.fConst.fText, .pv (encSl R_E_api_Expr a0.fKids)] false, .box [aI ((un_api_Expr x85).fKind), aI ((un_api_Expr x85).fRel), aI ((un_api_Expr x85).fCol), aI (((un_api_Expr x85).fConst).fKind), aI (((un_api_Expr x85).fConst).fInt), aF (((un_api_Expr x85).fConst).fFloat), aS (((un_api_Expr x85).fConst).fText), .pv (encSl R_E_api_Expr ((un_api_Expr x85).fKids))] false, bR 3 1 (rI .i64) ([x87] : List Int) 0 0] (by kernel_rfl) ?_)
     obtain ⟨_, h90, hm⟩ := bs hm
     refine dO [(20, aR 3 1 (([x87] : List Int).length))] [.box [aI a0.fKind, aI a0.fRel, aI a0.fCol, aI a0.fConst.fKind, aI a0.fConst.fInt, aF a0.fConst.fFloat, aS a0.fConst.fText, .pv (encSl R_E_api_Expr a0.fKids)] false, .box [aI ((un_api_Expr x85).fKind), aI ((un_api_Expr x85).fRel), aI ((un_api_Expr x85).fCol), aI (((un_api_Expr x85).fConst).fKind), aI (((un_api_Expr x85).fConst).fInt), aF (((un_api_Expr x85).fConst).fFloat), aS (((un_api_Expr x85).fConst).fText), .pv (encSl R_E_api_Expr ((un_api_Expr x85).fKids))] false, bR 3 1 (rI .i64) ([x87] : List Int) 0 0, bR 3 1 (rI .i64) ([x87] : List Int) 0 0] (app_nilO (u := 0) (rI .i64) ([x87] : List Int) (b := 8) t31 t3 rfl rfl rfl (fun _ => rfl) rfl h90 (show srcRows (aR 2 1 1) _ = some (([x87] : List Int).map (rI .i64)) from by kernel_rfl) (by kernel_rfl)) (by kernel_rfl) (fq 1 [(1, .pv (encSl R_api_Table a1)), (2, .ptr 0 0), (5, aR 3 1 (([x87] : List Int).length)), (9, .pv (encSl R_E_api_Expr a0.fKids)), (10, aI ((sll a0.fKids).length : Int)), (11, aI y81)] (dn [(1, .pv (encSl R_api_Table a1)), (2, .ptr 0 0), (5, aR 3 1 (([x87] : List Int).length)), (9, .pv (encSl R_E_api_Expr a0.fKids)), (10, aI ((sll a0.fKids).length : Int)), (11, aI (IntKind.wrap .i64 (y81 + 1)))] ?_))
     exact ⟨_, _, tidyL [(1, .pv (encSl R_api_Table a1)), (2, .ptr 0 0), (5, aR 1 1 (([x87] : List Int).length)), (9, .pv (encSl R_E_api_Expr a0.fKids)), (10, aI ((sll a0.fKids).length : Int)), (11, aI (IntKind.wrap .i64 (y81 + 1)))] [.box [aI a0.fKind, aI a0.fRel, aI a0.fCol, aI a0.fConst.fKind, aI a0.fConst.fInt, aF a0.fConst.fFloat, aS a0.fConst.fText, .pv (encSl R_E_api_Expr a0.fKids)] false, bR 3 1 (rI .i64) ([x87] : List Int) 0 0] (by kernel_rfl), .inr (⟨(IntKind.wrap .i64 (y81 + 1)), ([x87] : List Int), hm, rfl, rfl⟩)⟩
   ·
    refine c0 h84 (wp_exit ?_)
    exact .inl ⟨aI y81, aB (decide (y81 < ((sll a0.fKids).length : Int))), hm, (mk_same (by kernel_rfl)), rfl⟩
  ·
   simp only [expr_typed_l3] at hm
   refine sq (dn [(1, .pv (encSl R_api_Table a1)), (2, .ptr 0 0), (5, aR 1 1 y82.length), (9, .pv (encSl R_E_api_Expr a0.fKids)), (10, aI ((sll a0.fKids).length : Int)), (11, aI y81), (12, aB (decide (y81 < ((sll a0.fKids).length : Int))))] ?_)
   refine sq ?_
   rcases bif_some hm with ⟨h91, hm⟩ | ⟨h91, hm⟩
   ·
    refine c1 h91 (wp_skip (sq (bq (sq (rg ?_)))))
    obtain ⟨x92, h93, hm⟩ := bs hm
    refine dv 13 (v := .pv (.ptr (R_api_Expr (un_api_Expr x92)) 0)) (ia_slE R_E_api_Expr a0.fKids .i64 t23 t44 h93 (R_un_api_Expr x92) rfl (by kernel_rfl)) (by kernel_rfl) (stf 3 [(1, .pv (encSl R_api_Table a1)), (2, .ptr 0 0), (5, aR 1 1 y82.length), (7, .ptr 2 0), (9, .pv (encSl R_E_api_Expr a0.fKids)), (10, aI ((sll a0.fKids).length : Int)), (11, aI y81)] [.box [aI a0.fKind, aI a0.fRel, aI a0.fCol, aI a0.fConst.fKind, aI a0.fConst.fInt, aF a0.fConst.fFloat, aS a0.fConst.fText, .pv (encSl R_E_api_Expr a0.fKids)] false, bR 3 1 (rI .i64) y82 0 0, .box [aI ((un_api_Expr x92).fKind), aI ((un_api_Expr x92).fRel), aI ((un_api_Expr x92).fCol), aI (((un_api_Expr x92).fConst).fKind), aI (((un_api_Expr x92).fConst).fInt), aF (((un_api_Expr x92).fConst).fFloat), aS (((un_api_Expr x92).fConst).fText), .pv (encSl R_E_api_Expr ((un_api_Expr x92).fKids))] false] (by kernel_rfl) (rg (s1 3 [(17, .pv (encSl R_api_Table a1)), (16, .agg [aI ((un_api_Expr x92).fKind), aI ((un_api_Expr x92).fRel), aI ((un_api_Expr x92).fCol), aI (((un_api_Expr x92).fConst).fKind), aI (((un_api_Expr x92).fConst).fInt), aF (((un_api_Expr x92).fConst).fFloat), aS (((un_api_Expr x92).fConst).fText), .pv (encSl R_E_api_Expr ((un_api_Expr x92).fKids))]), (15, aR 1 1 y82.length)] ?_)))
    obtain ⟨x94, h95, hm⟩ := bs hm
    rcases x94 with x96 | x94
    ·
     obtain rfl := Option.some.inj hm
     exact rp0 (v := .pv (.ifc 32 (.int .i64 x96))) (cpan (by kernel_rfl) (ih_expr_typed h95) (by kernel_rfl) (by kernel_rfl) (by kernel_rfl)) (by kernel_rfl) (fun _ => ⟨trivial, by kernel_rfl⟩)
    ·
     refine dv 18 (cpure (by kernel_rfl) (ih_expr_typed h95) (by kernel_rfl) (by kernel_rfl) (by kernel_rfl)) (by kernel_rfl) (st 1 [(19, aR 3 1 1)] [.box [aI a0.fKind, aI a0.fRel, aI a0.fCol, aI a0.fConst.fKind, aI a0.fConst.fInt, aF a0.fConst.fFloat, aS a0.fConst.fText, .pv (encSl R_E_api_Expr a0.fKids)] false, bR 3 1 (rI .i64) y82 0 0, .box [aI ((un_api_Expr x92).fKind), aI ((un_api_Expr x92).fRel), aI ((un_api_Expr x92).fCol), aI (((un_api_Expr x92).fConst).fKind), aI (((un_api_Expr x92).fConst).fInt), aF (((un_api_Expr x92).fConst).fFloat), aS (((un_api_Expr x92).fConst).fText), .pv (encSl R_E_api_Expr ((un_api_Expr x92).fKids))] false, bR 3 1 (rI .i64) ([x94] : List Int) 0 0] (by kernel_rfl) ?_)
     obtain ⟨_, h97, hm⟩ := bs hm
     refine dO [(20, aR 1 1 ((y82 ++ ([x94] : List Int)).length))] [.box [aI a0.fKind, aI a0.fRel, aI a0.fCol, aI a0.fConst.fKind, aI a0.fConst.fInt, aF a0.fConst.fFloat, aS a0.fConst.fText, .pv (encSl R_E_api_Expr a0.fKids)] false, bR 3 1 (rI .i64) (y82 ++ ([x94] : List Int)) 0 0, .box [aI ((un_api_Expr x92).fKind), aI ((un_api_Expr x92).fRel), aI ((un_api_Expr x92).fCol), aI (((un_api_Expr x92).fConst).fKind), aI (((un_api_Expr x92).fConst).fInt), aF (((un_api_Expr x92).fConst).fFloat), aS (((un_api_Expr x92).fConst).fText), .pv (encSl R_E_api_Expr ((un_api_Expr x92).fKids))] false, bR 3 1 (rI .i64) ([x94] : List Int) 0 0] (app_refO (u := 0) (n := y82.length) (id := 1) (rI .i64) y82 ([x94] : List Int) (b := 8) t31 t3 rfl rfl rfl (fun _ => rfl) rfl h97 rfl rfl (Nat.zero_le _) (show srcRows (aR 3 1 1) _ = some (([x94] : List Int).map (rI .i64)) from by kernel_rfl) (by kernel_rfl)) (by kernel_rfl) (fq 1 [(1, .pv (encSl R_api_Table a1)), (2, .ptr 0 0), (5, aR 1 1 ((y82 ++ ([x94] : List Int)).length)), (9, .pv (encSl R_E_api_Expr a0.fKids)), (10, aI ((sll a0.fKids).length : Int)), (11, aI y81)] (dn [(1, .pv (encSl R_api_Table a1)), (2, .ptr 0 0), (5, aR 1 1 ((y82 ++ ([x94] : List Int)).length)), (9, .pv (encSl R_E_api_Expr a0.fKids)), (10, aI ((sll a0.fKids).length : Int)), (11, aI (IntKind.wrap .i64 (y81 + 1)))] ?_))
     exact ⟨_, _, tidyL [(1, .pv (encSl R_api_Table a1)), (2, .ptr 0 0), (5, aR 1 1 ((y82 ++ ([x94] : List Int)).length)), (9, .pv (encSl R_E_api_Expr a0.fKids)), (10, aI ((sll a0.fKids).length : Int)), (11, aI (IntKind.wrap .i64 (y81 + 1)))] [.box [aI a0.fKind, aI a0.fRel, aI a0.fCol, aI a0.fConst.fKind, aI a0.fConst.fInt, aF a0.fConst.fFloat, aS a0.fConst.fText, .pv (encSl R_E_api_Expr a0.fKids)] false, bR 3 1 (rI .i64) (y82 ++ ([x94] : List Int)) 0 0] (by kernel_rfl), .inr (⟨(IntKind.wrap .i64 (y81 + 1)), (y82 ++ ([x94] : List Int)), hm, rfl, rfl⟩)⟩
   ·
    refine c0 h91 (wp_exit ?_)
    exact .inr (⟨y82, aI y81, aB (decide (y81 < ((sll a0.fKids).length : Int))), hm, (mk_same (by kernel_rfl)), rfl⟩)
theorem okt_expr_typed : ∀ (m : Nat), ∀ {n : Nat} {a0 : api_Expr} {a1 : (Option (List api_Table))} {r : Int ⊕ (Int)} (hm : expr_typed_t m n a0 a1 = some r), call G n 70 [.agg [aI a0.fKind, aI a0.fRel, aI a0.fCol, aI a0.fConst.fKind, aI a0.fConst.fInt, aF a0.fConst.fFloat, aS a0.fConst.fText, .pv (encSl R_E_api_Expr a0.fKids)], .pv (encSl R_api_Table a1)] [] = some (PO 32 (fun (r : Int) => aI r) r, [])
  | 0 => by intros; rename_i hm; exact nomatch hm
  | m + 1 => fun hm =>
    okf_expr_typed (okt_expr_typed m) hm
theorem ok_expr_typed {n : Nat} {a0 : api_Expr} {a1 : (Option (List api_Table))} {r : Int ⊕ (Int)} (hm : expr_typed n a0 a1 = some r) :
    call G n 70 [.agg [aI a0.fKind, aI a0.fRel, aI a0.fCol, aI a0.fConst.fKind, aI a0.fConst.fInt, aF a0.fConst.fFloat, aS a0.fConst.fText, .pv (encSl R_E_api_Expr a0.fKids)], .pv (encSl R_api_Table a1)] [] = some (PO 32 (fun (r : Int) => aI r) r, []) := okt_expr_typed n hm
theorem ok_expr_Type_1 {n : Nat} {a0 : Int} {a1 : Int} {a2 : Int} {a3 : Int} {a4 : Int} {a5 : Nat} {a6 : ByteArray} {a7 : (Option (List E_api_Expr))} {a8 : (Option (List api_Table))} {a9 : Int} {r : (Int) ⊕ (Int)} (hm : expr_Type_1 n a0 a1 a2 a3 a4 a5 a6 a7 a8 a9 = some r) :
    ∃ vv H1, call G n 68 [.ptr 0 0, .ptr 1 0, .ptr 2 0] [.box [aI a0, aI a1, aI a2, aI a3, aI a4, aF a5, aS a6, .pv (encSl R_E_api_Expr a7)] false, .box [.pv (encSl R_api_Table a8)] false, .box [aI a9] false] = some (vv, H1) ∧ (match r with | (.inl r0) => (vv = .pan (.pv (.ifc 32 (.int .i64 r0))) ∧ H1 = [.box [aI a0, aI a1, aI a2, aI a3, aI a4, aF a5, aS a6, .pv (encSl R_E_api_Expr a7)] false, .box [.pv (encSl R_api_Table a8)] false, .box [aI a9] false]) | (.inr (r1)) => (vv = .ret (.tup []) ∧ H1 = [.box [aI a0, aI a1, aI a2, aI a3, aI a4, aF a5, aS a6, .pv (encSl R_E_api_Expr a7)] false, .box [.pv (encSl R_api_Table a8)] false, .box [aI r1] false])) := by
  unfold expr_Type_1 at hm
  obtain ⟨n, rfl, h0⟩ := at1_some hm
  replace hm := h0; clear h0
  refine callEP 9 [(0, .ptr 0 0), (1, .ptr 1 0), (2, .ptr 2 0)] func68 rfl (by kernel_rfl) (sq (rg (s1 2 [(4, .pv (encSl R_api_Table a8)), (3, .agg [aI a0, aI a1, aI a2, aI a3, aI a4, aF a5, aS a6, .pv (encSl R_E_api_Expr a7)])] ?_)))
  obtain ⟨x1, h2, hm⟩ := bs hm
  rcases x1 with x3 | x1
  ·
   obtain rfl := Option.some.inj hm
   exact rp0 (v := .pv (.ifc 32 (.int .i64 x3))) (cpan (by kernel_rfl) (ok_expr_refs h2) (by kernel_rfl) (by kernel_rfl) (by kernel_rfl)) (by kernel_rfl) (fun _ => ⟨trivial, .pan (.pv (.ifc 32 (.int .i64 x3))), [.box [aI a0, aI a1, aI a2, aI a3, aI a4, aF a5, aS a6, .pv (encSl R_E_api_Expr a7)] false, .box [.pv (encSl R_api_Table a8)] false, .box [aI a9] false], by kernel_rfl, rfl, rfl⟩)
  ·
   refine dv 5 (cpure (by kernel_rfl) (ok_expr_refs h2) (by kernel_rfl) (by kernel_rfl) (by kernel_rfl)) (by kernel_rfl) (fin [(0, .ptr 0 0), (1, .ptr 1 0), (2, .ptr 2 0)] rfl (by kernel_rfl) (rg (s1 2 [(7, .pv (encSl R_api_Table a8)), (6, .agg [aI a0, aI a1, aI a2, aI a3, aI a4, aF a5, aS a6, .pv (encSl R_E_api_Expr a7)])] ?_)))
   obtain ⟨x4, h5, hm⟩ := bs hm
   rcases x4 with x6 | x4
   ·
    obtain rfl := Option.some.inj hm
    exact rp0 (v := .pv (.ifc 32 (.int .i64 x6))) (cpan (by kernel_rfl) (ok_expr_typed h5) (by kernel_rfl) (by kernel_rfl) (by kernel_rfl)) (by kernel_rfl) (fun _ => ⟨trivial, .pan (.pv (.ifc 32 (.int .i64 x6))), [.box [aI a0, aI a1, aI a2, aI a3, aI a4, aF a5, aS a6, .pv (encSl R_E_api_Expr a7)] false, .box [.pv (encSl R_api_Table a8)] false, .box [aI a9] false], by kernel_rfl, rfl, rfl⟩)
   ·
    refine dv 8 (cpure (by kernel_rfl) (ok_expr_typed h5) (by kernel_rfl) (by kernel_rfl) (by kernel_rfl)) (by kernel_rfl) (stf 1 [] [.box [aI a0, aI a1, aI a2, aI a3, aI a4, aF a5, aS a6, .pv (encSl R_E_api_Expr a7)] false, .box [.pv (encSl R_api_Table a8)] false, .box [aI x4] false] (by kernel_rfl) ?_)
    obtain rfl := Option.some.inj hm
    exact ⟨trivial, .ret (.tup []), [.box [aI a0, aI a1, aI a2, aI a3, aI a4, aF a5, aS a6, .pv (encSl R_E_api_Expr a7)] false, .box [.pv (encSl R_api_Table a8)] false, .box [aI x4] false], by kernel_rfl, rfl, rfl⟩
theorem ok_expr_guarded_expr_Type_1 {n : Nat} {a0 : Int} {a1 : Int} {a2 : Int} {a3 : Int} {a4 : Int} {a5 : Nat} {a6 : ByteArray} {a7 : (Option (List E_api_Expr))} {a8 : (Option (List api_Table))} {a9 : Int} {r : Int × Int} (hm : expr_guarded_expr_Type_1 n a0 a1 a2 a3 a4 a5 a6 a7 a8 a9 = some r) :
    ∃ vv H1, call G n 67 [.fn 68 [] [.ptr 0 0, .ptr 1 0, .ptr 2 0]] [.box [aI a0, aI a1, aI a2, aI a3, aI a4, aF a5, aS a6, .pv (encSl R_E_api_Expr a7)] false, .box [.pv (encSl R_api_Table a8)] false, .box [aI a9] false] = some (.ret vv, H1) ∧ (match r with | (r0, r1) => (vv = aI r1 ∧ H1 = [.box [aI a0, aI a1, aI a2, aI a3, aI a4, aF a5, aS a6, .pv (encSl R_E_api_Expr a7)] false, .box [.pv (encSl R_api_Table a8)] false, .box [aI r0] false])) := by
  unfold expr_guarded_expr_Type_1 at hm
  obtain ⟨n, rfl, h0⟩ := at1_some hm
  replace hm := h0; clear h0
  obtain ⟨x2, h1, hm⟩ := bs hm
  rcases x2 with x3 | x4
  ·
   obtain ⟨vv, H1, hC, rfl, rfl⟩ := ok_expr_Type_1 h1
   obtain rfl := Option.some.inj hm
   exact ⟨_, _, callGd func67 rfl (by kernel_rfl) rfl (by kernel_rfl) func68 (by kernel_rfl) rfl hC (by kernel_rfl), rfl, rfl⟩
  ·
   obtain ⟨vv, H1, hC, rfl, rfl⟩ := ok_expr_Type_1 h1
   obtain rfl := Option.some.inj hm
   exact ⟨_, _, callGd func67 rfl (by kernel_rfl) rfl (by kernel_rfl) func68 (by kernel_rfl) rfl hC (by kernel_rfl), rfl, rfl⟩
theorem ok_expr_Type {n : Nat} {a0 : api_Expr} {a1 : (Option (List api_Table))} {r : Int × Int} (hm : expr_Type n a0 a1 = some r) :
    call G n 28 [.agg [aI a0.fKind, aI a0.fRel, aI a0.fCol, aI a0.fConst.fKind, aI a0.fConst.fInt, aF a0.fConst.fFloat, aS a0.fConst.fText, .pv (encSl R_E_api_Expr a0.fKids)], .pv (encSl R_api_Table a1)] [] = some (.ret (.tup [aI r.1, aI r.2]), []) := by
  unfold expr_Type at hm
  obtain ⟨n, rfl, h0⟩ := at1_some hm
  replace hm := h0; clear h0
  refine callL 17 [(0, .agg [aI a0.fKind, aI a0.fRel, aI a0.fCol, aI a0.fConst.fKind, aI a0.fConst.fInt, aF a0.fConst.fFloat, aS a0.fConst.fText, .pv (encSl R_E_api_Expr a0.fKids)]), (1, .pv (encSl R_api_Table a1))] func28 rfl (by kernel_rfl) (sq (det [(2, .ptr 0 0), (3, .ptr 1 0)] [.box [aI a0.fKind, aI a0.fRel, aI a0.fCol, aI a0.fConst.fKind, aI a0.fConst.fInt, aF a0.fConst.fFloat, aS a0.fConst.fText, .pv (encSl R_E_api_Expr a0.fKids)] false, .box [.pv (encSl R_api_Table a1)] false] (by kernel_rfl) ?_))
  refine sq (sq (rg (s1 1 [(8, .agg [aI a0.fKind, aI a0.fRel, aI a0.fCol, aI a0.fConst.fKind, aI a0.fConst.fInt, aF a0.fConst.fFloat, aS a0.fConst.fText, .pv (encSl R_E_api_Expr a0.fKids)])] ?_)))
  obtain ⟨x1, h2, hm⟩ := bs hm
  refine dv 9 (cpure (by kernel_rfl) (ok_expr_Formed h2) (by kernel_rfl) (by kernel_rfl) (by kernel_rfl)) (by kernel_rfl) (fq 1 [(2, .ptr 0 0), (3, .ptr 1 0), (10, aB (!x1))] ?_)
  rcases bif_some hm with ⟨h3, hm⟩ | ⟨h3, hm⟩
  ·
   refine c1 h3 (sq (dn [(4, aI 0), (5, aI 2)] (wp_ret ?_)))
   obtain rfl := Option.some.inj hm
   exact ⟨trivial, by kernel_rfl⟩
  ·
   refine c0 h3 (wp_skip (sq (det [(2, .ptr 0 0), (3, .ptr 1 0), (6, .ptr 2 0)] [.box [aI a0.fKind, aI a0.fRel, aI a0.fCol, aI a0.fConst.fKind, aI a0.fConst.fInt, aF a0.fConst.fFloat, aS a0.fConst.fText, .pv (encSl R_E_api_Expr a0.fKids)] false, .box [.pv (encSl R_api_Table a1)] false, .box [aI 0] false] (by kernel_rfl) (sq (rg (s1 1 [(11, .fn 68 [] [.ptr 0 0, .ptr 1 0, .ptr 2 0])] ?_))))))
   obtain ⟨⟨x5, x6⟩, h4, hm⟩ := bs hm
   obtain ⟨vv, H1, hC, rfl, rfl⟩ := ok_expr_guarded_expr_Type_1 h4
   refine dR [(12, aI x6)] [.box [aI a0.fKind, aI a0.fRel, aI a0.fCol, aI a0.fConst.fKind, aI a0.fConst.fInt, aF a0.fConst.fFloat, aS a0.fConst.fText, .pv (encSl R_E_api_Expr a0.fKids)] false, .box [.pv (encSl R_api_Table a1)] false, .box [aI x5] false] [0, 1, 2] [.fn 68 [] [.ptr 0 0, .ptr 1 0, .ptr 2 0]] (by kernel_rfl) (by kernel_rfl) (by kernel_rfl) hC (by kernel_rfl) (fq 1 [(6, .ptr 2 0), (7, aI x6)] (sq (sq (dn [(6, .ptr 2 0), (7, aI x6), (14, aB (x6 != 0))] ?_))))
   rcases bif_some hm with ⟨h7, hm⟩ | ⟨h7, hm⟩
   ·
    refine c1 h7 (sq (dn [(4, aI 0), (5, aI x6)] (wp_ret ?_)))
    obtain rfl := Option.some.inj hm
    exact ⟨trivial, by kernel_rfl⟩
   ·
    refine c0 h7 (wp_skip (sq (dn [(4, aI x5), (5, aI 0)] (wp_ret ?_))))
    obtain rfl := Option.some.inj hm
    exact ⟨trivial, by kernel_rfl⟩
theorem ok_query_Right_4_1 {n : Nat} {a0 : Int} {r : Bool} (hm : query_Right_4_1 n a0 = some r) :
    call G n 33 [aI a0] [] = some (.ret (aB r), []) := by
  unfold query_Right_4_1 at hm
  obtain ⟨n, rfl, h0⟩ := at1_some hm
  replace hm := h0; clear h0
  refine callL 9 [(0, aI a0)] func33 rfl (by kernel_rfl) (sq (dn [(0, aI a0)] (sq (rg (s1 3 [(5, aB (a0 == 0)), (4, aB (a0 == 0)), (3, aI a0)] ?_)))))
  refine segP (a0 == 0) [5, 4] (fun b => [(8, aB (b || (a0 == 1))), (7, ifA b (.undef) (aB (a0 == 1))), (6, ifA b (.undef) (aI a0))]) 3 (by kernel_rfl) (by kernel_rfl) (by kernel_rfl) (fq 1 [(2, aB ((a0 == 0) || (a0 == 1)))] (wp_ret ?_))
  obtain rfl := Option.some.inj hm
  exact ⟨trivial, by kernel_rfl⟩
theorem ok_query_Right_4_2 {n : Nat} {a0 : Int} {r : Unit} (hm : query_Right_4_2 n a0 = some r) :
    call G n 34 [aI a0] [] = some (.ret (.tup []), []) := by
  unfold query_Right_4_2 at hm
  obtain ⟨n, rfl, h0⟩ := at1_some hm
  replace hm := h0; clear h0
  refine callL 2 [(0, aI a0)] func34 rfl (by kernel_rfl) (wp_skip ?_)
  obtain rfl := Option.some.inj hm
  exact ⟨trivial, by kernel_rfl⟩
theorem ok_query_Right_1_query_Right_4_1_query_Right_4_2 {n : Nat} {a0 : (Option (List api_Table))} {a1 : api_Expr} {r : Int} (hm : query_Right_1_query_Right_4_1_query_Right_4_2 n a0 a1 = some r) :
    ∃ vv H1, call G n 27 [.agg [aI a1.fKind, aI a1.fRel, aI a1.fCol, aI a1.fConst.fKind, aI a1.fConst.fInt, aF a1.fConst.fFloat, aS a1.fConst.fText, .pv (encSl R_E_api_Expr a1.fKids)], .pv (.fn 33 [] []), .pv (.fn 34 [] []), .ptr 0 0] [.box [.pv (encSl R_api_Table a0)] false] = some (.ret vv, H1) ∧ (match r with | r0 => (vv = aI r0 ∧ H1 = [.box [.pv (encSl R_api_Table a0)] false])) := by
  unfold query_Right_1_query_Right_4_1_query_Right_4_2 at hm
  obtain ⟨n, rfl, h0⟩ := at1_some hm
  replace hm := h0; clear h0
  refine callE 30 [(0, .agg [aI a1.fKind, aI a1.fRel, aI a1.fCol, aI a1.fConst.fKind, aI a1.fConst.fInt, aF a1.fConst.fFloat, aS a1.fConst.fText, .pv (encSl R_E_api_Expr a1.fKids)]), (1, .pv (.fn 33 [] [])), (2, .pv (.fn 34 [] [])), (3, .ptr 0 0)] func27 rfl (by kernel_rfl) (sq (det [(1, .pv (.fn 33 [] [])), (2, .pv (.fn 34 [] [])), (3, .ptr 0 0), (4, .ptr 1 0)] [.box [.pv (encSl R_api_Table a0)] false, .box [aI a1.fKind, aI a1.fRel, aI a1.fCol, aI a1.fConst.fKind, aI a1.fConst.fInt, aF a1.fConst.fFloat, aS a1.fConst.fText, .pv (encSl R_E_api_Expr a1.fKids)] false] (by kernel_rfl) (sq (rg (s1 2 [(12, .pv (encSl R_api_Table a0)), (11, .agg [aI a1.fKind, aI a1.fRel, aI a1.fCol, aI a1.fConst.fKind, aI a1.fConst.fInt, aF a1.fConst.fFloat, aS a1.fConst.fText, .pv (encSl R_E_api_Expr a1.fKids)])] ?_)))))
  obtain ⟨x1, h2, hm⟩ := bs hm
  refine dv 13 (cpure (by kernel_rfl) (ok_expr_Type h2) (by kernel_rfl) (by kernel_rfl) (by kernel_rfl)) (by kernel_rfl) (fq 5 [(1, .pv (.fn 33 [] [])), (2, .pv (.fn 34 [] [])), (8, aI x1.1), (9, aI x1.2)] ?_)
  obtain ⟨k5, hk5, hm⟩ := withK_some hm
  refine mid (fun t H => (∃ (y4 : Int) (w3 : AV), k5 y4 = some r ∧ t = mk 30 [(2, .pv (.fn 34 [] [])), (8, aI x1.1), (9, aI y4), (23, w3)] ∧ H = [.box [.pv (encSl R_api_Table a0)] false, .box [aI a1.fKind, aI a1.fRel, aI a1.fCol, aI a1.fConst.fKind, aI a1.fConst.fInt, aF a1.fConst.fFloat, aS a1.fConst.fText, .pv (encSl R_E_api_Expr a1.fKids)] false])) ?_ ?_
  ·
   rintro _ _ ⟨y4, w3, hm, rfl, rfl⟩
   subst hk5
   refine sq (sq (dn [(2, .pv (.fn 34 [] [])), (8, aI x1.1), (9, aI y4), (25, aB (y4 == 0))] ?_))
   rcases bif_some hm with ⟨h6, hm⟩ | ⟨h6, hm⟩
   ·
    refine c1 h6 (rg (s1 2 [(27, aI x1.1), (26, .pv (.fn 34 [] []))] ?_))
    obtain ⟨x7, h8, hm⟩ := bs hm
    refine dv 28 (cpure (by kernel_rfl) (ok_query_Right_4_2 h8) (by kernel_rfl) (by kernel_rfl) (by kernel_rfl)) (by kernel_rfl) (fin [(9, aI y4)] rfl (by kernel_rfl) (sq (dn [(7, aI y4)] (wp_ret ?_))))
    obtain rfl := Option.some.inj hm
    exact ⟨trivial, aI y4, [.box [.pv (encSl R_api_Table a0)] false], by kernel_rfl, rfl, rfl⟩
   ·
    refine c0 h6 (wp_skip (sq (dn [(7, aI y4)] (wp_ret ?_))))
    obtain rfl := Option.some.inj hm
    exact ⟨trivial, aI y4, [.box [.pv (encSl R_api_Table a0)] false], by kernel_rfl, rfl, rfl⟩
  refine sq (rg (s1 3 [(18, aB (x1.2 == 0)), (17, aB (x1.2 == 0)), (16, aI x1.2)] ?_))
  rcases bif_some hm with ⟨h9, hm⟩ | ⟨h9, hm⟩
  ·
   refine known [18, 17] h9 (by kernel_rfl) (s1 2 [(20, aI x1.1), (19, .pv (.fn 33 [] []))] ?_)
   obtain ⟨x10, h11, hm⟩ := bs hm
   refine dv 21 (cpure (by kernel_rfl) (ok_query_Right_4_1 h11) (by kernel_rfl) (by kernel_rfl) (by kernel_rfl)) (by kernel_rfl) (fq 2 [(2, .pv (.fn 34 [] [])), (8, aI x1.1), (9, aI x1.2), (23, aB (!x10))] ?_)
   rcases bif_some hm with ⟨h12, hm⟩ | ⟨h12, hm⟩
   ·
    refine c1 h12 (dn [(2, .pv (.fn 34 [] [])), (8, aI x1.1), (9, aI 50)] ?_)
    exact ⟨50, .any, hm, (mk_same (by kernel_rfl)), rfl⟩
   ·
    refine c0 h12 (wp_skip ?_)
    exact ⟨x1.2, aB (!x10), hm, (mk_same (by kernel_rfl)), rfl⟩
  ·
   refine known [18, 17] h9 (by kernel_rfl) (fq 5 [(2, .pv (.fn 34 [] [])), (8, aI x1.1), (9, aI x1.2), (23, aB false)] (cF (by kernel_rfl) (wp_skip ?_)))
   exact ⟨x1.2, aB false, hm, (mk_same (by kernel_rfl)), rfl⟩
theorem ok_query_Right_4 {n : Nat} {a0 : (Option (List api_Table))} {a1 : api_Expr} {r : Int} (hm : query_Right_4 n a0 a1 = some r) :
    ∃ vv H1, call G n 32 [.agg [aI a1.fKind, aI a1.fRel, aI a1.fCol, aI a1.fConst.fKind, aI a1.fConst.fInt, aF a1.fConst.fFloat, aS a1.fConst.fText, .pv (encSl R_E_api_Expr a1.fKids)], .ptr 0 0] [.box [.fn 27 [] [.ptr 1 0]] false, .box [.pv (encSl R_api_Table a0)] false] = some (.ret vv, H1) ∧ (match r with | r0 => (vv = aI r0 ∧ H1 = [.box [.fn 27 [] [.ptr 1 0]] false, .box [.pv (encSl R_api_Table a0)] false])) := by
  unfold query_Right_4 at hm
  obtain ⟨n, rfl, h0⟩ := at1_some hm
  replace hm := h0; clear h0
  refine callE 7 [(0, .agg [aI a1.fKind, aI a1.fRel, aI a1.fCol, aI a1.fConst.fKind, aI a1.fConst.fInt, aF a1.fConst.fFloat, aS a1.fConst.fText, .pv (encSl R_E_api_Expr a1.fKids)]), (1, .ptr 0 0)] func32 rfl (by kernel_rfl) (sq (det [(1, .ptr 0 0), (2, .ptr 2 0)] [.box [.fn 27 [] [.ptr 1 0]] false, .box [.pv (encSl R_api_Table a0)] false, .box [aI a1.fKind, aI a1.fRel, aI a1.fCol, aI a1.fConst.fKind, aI a1.fConst.fInt, aF a1.fConst.fFloat, aS a1.fConst.fText, .pv (encSl R_E_api_Expr a1.fKids)] false] (by kernel_rfl) (sq (rg (s1 2 [(5, .agg [aI a1.fKind, aI a1.fRel, aI a1.fCol, aI a1.fConst.fKind, aI a1.fConst.fInt, aF a1.fConst.fFloat, aS a1.fConst.fText, .pv (encSl R_E_api_Expr a1.fKids)]), (4, .fn 27 [] [.ptr 1 0])] ?_)))))
  obtain ⟨x2, h1, hm⟩ := bs hm
  obtain ⟨vv, H1, hC, rfl, rfl⟩ := ok_query_Right_1_query_Right_4_1_query_Right_4_2 h1
  refine dR [(6, aI x2)] [.box [.fn 27 [] [.ptr 1 0]] false, .box [.pv (encSl R_api_Table a0)] false, .box [aI a1.fKind, aI a1.fRel, aI a1.fCol, aI a1.fConst.fKind, aI a1.fConst.fInt, aF a1.fConst.fFloat, aS a1.fConst.fText, .pv (encSl R_E_api_Expr a1.fKids)] false] [1] [.agg [aI a1.fKind, aI a1.fRel, aI a1.fCol, aI a1.fConst.fKind, aI a1.fConst.fInt, aF a1.fConst.fFloat, aS a1.fConst.fText, .pv (encSl R_E_api_Expr a1.fKids)], .pv (.fn 33 [] []), .pv (.fn 34 [] []), .ptr 1 0] (by kernel_rfl) (by kernel_rfl) (by kernel_rfl) hC (by kernel_rfl) (fq 1 [(3, aI x2)] (wp_ret ?_))
  obtain rfl := Option.some.inj hm
  exact ⟨trivial, aI x2, [.box [.fn 27 [] [.ptr 1 0]] false, .box [.pv (encSl R_api_Table a0)] false], by kernel_rfl, rfl, rfl⟩
theorem ok_query_each_Expr_query_Right_4 {n : Nat} {a0 : (Option (List api_Table))} {a1 : (Option (List E_api_Expr))} {r : Int} (hm : query_each_Expr_query_Right_4 n a0 a1 = some r) :
    ∃ vv H1, call G n 31 [.pv (encSl R_E_api_Expr a1), .fn 32 [] [.ptr 0 0]] [.box [.fn 27 [] [.ptr 1 0]] false, .box [.pv (encSl R_api_Table a0)] false] = some (.ret vv, H1) ∧ (match r with | r0 => (vv = aI r0 ∧ H1 = [.box [.fn 27 [] [.ptr 1 0]] false, .box [.pv (encSl R_api_Table a0)] false])) := by
  unfold query_each_Expr_query_Right_4 at hm
  obtain ⟨n, rfl, h0⟩ := at1_some hm
  replace hm := h0; clear h0
  refine callE 21 [(0, .pv (encSl R_E_api_Expr a1)), (1, .fn 32 [] [.ptr 0 0])] func31 rfl (by kernel_rfl) (sq (dn [(0, .pv (encSl R_E_api_Expr a1)), (1, .fn 32 [] [.ptr 0 0])] ?_))
  obtain ⟨k3, hk3, hm⟩ := withK_some hm
  refine mid (fun t H => (∃ (y1 : Int) (y2 : Bool), k3 () = some r ∧ t = mk 21 [(1, .fn 32 [] [.ptr 0 0]), (8, .pv (encSl R_E_api_Expr a1)), (9, aI ((sll a1).length : Int)), (10, aI y1), (11, aB y2)] ∧ H = [.box [.fn 27 [] [.ptr 1 0]] false, .box [.pv (encSl R_api_Table a0)] false])) ?_ ?_
  ·
   rintro _ _ ⟨y1, y2, hm, rfl, rfl⟩
   subst hk3
   refine sq (dn [(4, aI 0)] (wp_ret ?_))
   obtain rfl := Option.some.inj hm
   exact ⟨trivial, aI 0, [.box [.fn 27 [] [.ptr 1 0]] false, .box [.pv (encSl R_api_Table a0)] false], by kernel_rfl, rfl, rfl⟩
  refine sq (rg (s1 1 [(8, .pv (encSl R_E_api_Expr a1))] (dv 9 (v := aI ((sll a1).length : Int)) (len_slO R_E_api_Expr a1 t23 (by kernel_rfl)) (by kernel_rfl) (fq 1 [(1, .fn 32 [] [.ptr 0 0]), (8, .pv (encSl R_E_api_Expr a1)), (9, aI ((sll a1).length : Int)), (10, aI 0)] (bq ?_)))))
  refine loopF (fun mm t H => (∃ (y5 : Int), query_each_Expr_query_Right_4_l2 n a0 a1 k3 mm y5 = some r ∧ t = mk 21 [(1, .fn 32 [] [.ptr 0 0]), (8, .pv (encSl R_E_api_Expr a1)), (9, aI ((sll a1).length : Int)), (10, aI y5)] ∧ H = [.box [.fn 27 [] [.ptr 1 0]] false, .box [.pv (encSl R_api_Table a0)] false])) (⟨0, hm, rfl, rfl⟩) ?_ ?_
  · rintro _ _ ⟨y5, hm, _⟩; exact nomatch hm
  rintro m6 _ _ ⟨y5, hm, rfl, rfl⟩
  simp only [query_each_Expr_query_Right_4_l2] at hm
  refine sq (dn [(1, .fn 32 [] [.ptr 0 0]), (8, .pv (encSl R_E_api_Expr a1)), (9, aI ((sll a1).length : Int)), (10, aI y5), (11, aB (decide (y5 < ((sll a1).length : Int))))] ?_)
  refine sq ?_
  rcases bif_some hm with ⟨h7, hm⟩ | ⟨h7, hm⟩
  ·
   refine c1 h7 (wp_skip (sq (bq (sq (rg ?_)))))
   obtain ⟨x8, h9, hm⟩ := bs hm
   refine dv 12 (v := .pv (.ptr (R_api_Expr (un_api_Expr x8)) 0)) (ia_slE R_E_api_Expr a1 .i64 t23 t44 h9 (R_un_api_Expr x8) rfl (by kernel_rfl)) (by kernel_rfl) (stf 3 [(1, .fn 32 [] [.ptr 0 0]), (6, .ptr 2 0), (8, .pv (encSl R_E_api_Expr a1)), (9, aI ((sll a1).length : Int)), (10, aI y5)] [.box [.fn 27 [] [.ptr 1 0]] false, .box [.pv (encSl R_api_Table a0)] false, .box [aI ((un_api_Expr x8).fKind), aI ((un_api_Expr x8).fRel), aI ((un_api_Expr x8).fCol), aI (((un_api_Expr x8).fConst).fKind), aI (((un_api_Expr x8).fConst).fInt), aF (((un_api_Expr x8).fConst).fFloat), aS (((un_api_Expr x8).fConst).fText), .pv (encSl R_E_api_Expr ((un_api_Expr x8).fKids))] false] (by kernel_rfl) (sq (rg (s1 2 [(15, .agg [aI ((un_api_Expr x8).fKind), aI ((un_api_Expr x8).fRel), aI ((un_api_Expr x8).fCol), aI (((un_api_Expr x8).fConst).fKind), aI (((un_api_Expr x8).fConst).fInt), aF (((un_api_Expr x8).fConst).fFloat), aS (((un_api_Expr x8).fConst).fText), .pv (encSl R_E_api_Expr ((un_api_Expr x8).fKids))]), (14, .fn 32 [] [.ptr 0 0])] ?_))))
   obtain ⟨x11, h10, hm⟩ := bs hm
   obtain ⟨vv, H1, hC, rfl, rfl⟩ := ok_query_Right_4 h10
   refine dR [(16, aI x11)] [.box [.fn 27 [] [.ptr 1 0]] false, .box [.pv (encSl R_api_Table a0)] false, .box [aI ((un_api_Expr x8).fKind), aI ((un_api_Expr x8).fRel), aI ((un_api_Expr x8).fCol), aI (((un_api_Expr x8).fConst).fKind), aI (((un_api_Expr x8).fConst).fInt), aF (((un_api_Expr x8).fConst).fFloat), aS (((un_api_Expr x8).fConst).fText), .pv (encSl R_E_api_Expr ((un_api_Expr x8).fKids))] false] [0, 1] [.agg [aI ((un_api_Expr x8).fKind), aI ((un_api_Expr x8).fRel), aI ((un_api_Expr x8).fCol), aI (((un_api_Expr x8).fConst).fKind), aI (((un_api_Expr x8).fConst).fInt), aF (((un_api_Expr x8).fConst).fFloat), aS (((un_api_Expr x8).fConst).fText), .pv (encSl R_E_api_Expr ((un_api_Expr x8).fKids))], .ptr 0 0] (by kernel_rfl) (by kernel_rfl) (by kernel_rfl) hC (by kernel_rfl) (fq 1 [(1, .fn 32 [] [.ptr 0 0]), (7, aI x11), (8, .pv (encSl R_E_api_Expr a1)), (9, aI ((sll a1).length : Int)), (10, aI y5)] (sq (dn [(1, .fn 32 [] [.ptr 0 0]), (7, aI x11), (8, .pv (encSl R_E_api_Expr a1)), (9, aI ((sll a1).length : Int)), (10, aI y5), (18, aB (x11 != 0))] ?_)))
   rcases bif_some hm with ⟨h12, hm⟩ | ⟨h12, hm⟩
   ·
    refine c1 h12 (sq (dn [(4, aI x11)] (wp_ret ?_)))
    obtain rfl := Option.some.inj hm
    exact ⟨trivial, aI x11, [.box [.fn 27 [] [.ptr 1 0]] false, .box [.pv (encSl R_api_Table a0)] false], by kernel_rfl, rfl, rfl⟩
   ·
    refine c0 h12 (wp_skip (dn [(1, .fn 32 [] [.ptr 0 0]), (8, .pv (encSl R_E_api_Expr a1)), (9, aI ((sll a1).length : Int)), (10, aI (IntKind.wrap .i64 (y5 + 1)))] ?_))
    exact ⟨_, _, tidyL [(1, .fn 32 [] [.ptr 0 0]), (8, .pv (encSl R_E_api_Expr a1)), (9, aI ((sll a1).length : Int)), (10, aI (IntKind.wrap .i64 (y5 + 1)))] [.box [.fn 27 [] [.ptr 1 0]] false, .box [.pv (encSl R_api_Table a0)] false] (by kernel_rfl), ⟨(IntKind.wrap .i64 (y5 + 1)), hm, rfl, rfl⟩⟩
  ·
   refine c0 h7 (wp_exit ?_)
   exact ⟨y5, (decide (y5 < ((sll a1).length : Int))), hm, rfl, rfl⟩
theorem ok_query_Right_2 {n : Nat} {a0 : Int} {r : Bool} (hm : query_Right_2 n a0 = some r) :
    call G n 29 [aI a0] [] = some (.ret (aB r), []) := by
  unfold query_Right_2 at hm
  obtain ⟨n, rfl, h0⟩ := at1_some hm
  replace hm := h0; clear h0
  refine callL 3 [(0, aI a0)] func29 rfl (by kernel_rfl) (sq (dn [] (sq (dn [(2, aB true)] (wp_ret ?_)))))
  obtain rfl := Option.some.inj hm
  exact ⟨trivial, by kernel_rfl⟩
theorem ok_query_Right_3 {n : Nat} {a0 : Int} {r : Unit} (hm : query_Right_3 n a0 = some r) :
    ∃ vv H1, call G n 30 [aI a0, .ptr 0 0] [.box [.pv .nils] false] = some (.ret vv, H1) ∧ (vv = .tup [] ∧ H1 = [.box [aR 1 1 (([a0] : List Int).length)] false, bR 3 1 (rI .i64) ([a0] : List Int) 0 0]) := by
  unfold query_Right_3 at hm
  obtain ⟨n, rfl, h0⟩ := at1_some hm
  replace hm := h0; clear h0
  refine callE 7 [(0, aI a0), (1, .ptr 0 0)] func30 rfl (by kernel_rfl) (rg (st 3 [(5, aR 1 1 1), (4, aI a0), (3, .pv .nils)] [.box [.pv .nils] false, bR 3 1 (rI .i64) ([a0] : List Int) 0 0] (by kernel_rfl) ?_))
  obtain ⟨_, h1, hm⟩ := bs hm
  refine dO [(6, aR 2 1 (([a0] : List Int).length))] [.box [.pv .nils] false, bR 3 1 (rI .i64) ([a0] : List Int) 0 0, bR 3 1 (rI .i64) ([a0] : List Int) 0 0] (app_nilO (u := 0) (rI .i64) ([a0] : List Int) (b := 8) t31 t3 rfl rfl rfl (fun _ => rfl) rfl h1 (show srcRows (aR 1 1 1) _ = some (([a0] : List Int).map (rI .i64)) from by kernel_rfl) (by kernel_rfl)) (by kernel_rfl) (stf 1 [] [.box [aR 2 1 (([a0] : List Int).length)] false, bR 3 1 (rI .i64) ([a0] : List Int) 0 0, bR 3 1 (rI .i64) ([a0] : List Int) 0 0] (by kernel_rfl) ?_)
  obtain rfl := Option.some.inj hm
  exact ⟨trivial, .tup [], [.box [aR 1 1 (([a0] : List Int).length)] false, bR 3 1 (rI .i64) ([a0] : List Int) 0 0], by kernel_rfl, rfl, rfl⟩
theorem ok_query_Right_1_query_Right_2_query_Right_3 {n : Nat} {a0 : (Option (List api_Table))} {a1 : api_Expr} {r : (Option (List Int)) × Int} (hm : query_Right_1_query_Right_2_query_Right_3 n a0 a1 = some r) :
    ∃ vv H1, call G n 27 [.agg [aI a1.fKind, aI a1.fRel, aI a1.fCol, aI a1.fConst.fKind, aI a1.fConst.fInt, aF a1.fConst.fFloat, aS a1.fConst.fText, .pv (encSl R_E_api_Expr a1.fKids)], .pv (.fn 29 [] []), .fn 30 [] [.ptr 0 0], .ptr 1 0] [.box [.pv .nils] false, .box [.pv (encSl R_api_Table a0)] false] = some (.ret vv, H1) ∧ (match r with | (some r0, r1) => (vv = aI r1 ∧ H1 = [.box [aR 2 1 r0.length] false, .box [.pv (encSl R_api_Table a0)] false, bR 3 1 (rI .i64) r0 0 0]) | (none, r1) => (vv = aI r1 ∧ H1 = [.box [.pv .nils] false, .box [.pv (encSl R_api_Table a0)] false])) := by
  unfold query_Right_1_query_Right_2_query_Right_3 at hm
  obtain ⟨n, rfl, h0⟩ := at1_some hm
  replace hm := h0; clear h0
  refine callE 30 [(0, .agg [aI a1.fKind, aI a1.fRel, aI a1.fCol, aI a1.fConst.fKind, aI a1.fConst.fInt, aF a1.fConst.fFloat, aS a1.fConst.fText, .pv (encSl R_E_api_Expr a1.fKids)]), (1, .pv (.fn 29 [] [])), (2, .fn 30 [] [.ptr 0 0]), (3, .ptr 1 0)] func27 rfl (by kernel_rfl) (sq (det [(1, .pv (.fn 29 [] [])), (2, .fn 30 [] [.ptr 0 0]), (3, .ptr 1 0), (4, .ptr 2 0)] [.box [.pv .nils] false, .box [.pv (encSl R_api_Table a0)] false, .box [aI a1.fKind, aI a1.fRel, aI a1.fCol, aI a1.fConst.fKind, aI a1.fConst.fInt, aF a1.fConst.fFloat, aS a1.fConst.fText, .pv (encSl R_E_api_Expr a1.fKids)] false] (by kernel_rfl) (sq (rg (s1 2 [(12, .pv (encSl R_api_Table a0)), (11, .agg [aI a1.fKind, aI a1.fRel, aI a1.fCol, aI a1.fConst.fKind, aI a1.fConst.fInt, aF a1.fConst.fFloat, aS a1.fConst.fText, .pv (encSl R_E_api_Expr a1.fKids)])] ?_)))))
  obtain ⟨x1, h2, hm⟩ := bs hm
  refine dv 13 (cpure (by kernel_rfl) (ok_expr_Type h2) (by kernel_rfl) (by kernel_rfl) (by kernel_rfl)) (by kernel_rfl) (fq 5 [(1, .pv (.fn 29 [] [])), (2, .fn 30 [] [.ptr 0 0]), (8, aI x1.1), (9, aI x1.2)] ?_)
  obtain ⟨k5, hk5, hm⟩ := withK_some hm
  refine mid (fun t H => (∃ (y4 : Int) (w3 : AV), k5 y4 = some r ∧ t = mk 30 [(2, .fn 30 [] [.ptr 0 0]), (8, aI x1.1), (9, aI y4), (23, w3)] ∧ H = [.box [.pv .nils] false, .box [.pv (encSl R_api_Table a0)] false, .box [aI a1.fKind, aI a1.fRel, aI a1.fCol, aI a1.fConst.fKind, aI a1.fConst.fInt, aF a1.fConst.fFloat, aS a1.fConst.fText, .pv (encSl R_E_api_Expr a1.fKids)] false])) ?_ ?_
  ·
   rintro _ _ ⟨y4, w3, hm, rfl, rfl⟩
   subst hk5
   refine sq (sq (dn [(2, .fn 30 [] [.ptr 0 0]), (8, aI x1.1), (9, aI y4), (25, aB (y4 == 0))] ?_))
   rcases bif_some hm with ⟨h6, hm⟩ | ⟨h6, hm⟩
   ·
    refine c1 h6 (rg (s1 2 [(27, aI x1.1), (26, .fn 30 [] [.ptr 0 0])] ?_))
    obtain ⟨_, h7, hm⟩ := bs hm
    obtain ⟨vv, H1, hC, rfl, rfl⟩ := ok_query_Right_3 h7
    refine dR [(28, .tup [])] [.box [aR 3 1 (([x1.1] : List Int).length)] false, .box [.pv (encSl R_api_Table a0)] false, .box [aI a1.fKind, aI a1.fRel, aI a1.fCol, aI a1.fConst.fKind, aI a1.fConst.fInt, aF a1.fConst.fFloat, aS a1.fConst.fText, .pv (encSl R_E_api_Expr a1.fKids)] false, bR 3 1 (rI .i64) ([x1.1] : List Int) 0 0] [0] [aI x1.1, .ptr 0 0] (by kernel_rfl) (by kernel_rfl) (by kernel_rfl) hC (by kernel_rfl) (fin [(9, aI y4)] rfl (by kernel_rfl) (sq (dn [(7, aI y4)] (wp_ret ?_))))
    obtain rfl := Option.some.inj hm
    exact ⟨trivial, aI y4, [.box [aR 2 1 (([x1.1] : List Int).length)] false, .box [.pv (encSl R_api_Table a0)] false, bR 3 1 (rI .i64) ([x1.1] : List Int) 0 0], by kernel_rfl, rfl, rfl⟩
   ·
    refine c0 h6 (wp_skip (sq (dn [(7, aI y4)] (wp_ret ?_))))
    obtain rfl := Option.some.inj hm
    exact ⟨trivial, aI y4, [.box [.pv .nils] false, .box [.pv (encSl R_api_Table a0)] false], by kernel_rfl, rfl, rfl⟩
  refine sq (rg (s1 3 [(18, aB (x1.2 == 0)), (17, aB (x1.2 == 0)), (16, aI x1.2)] ?_))
  rcases bif_some hm with ⟨h8, hm⟩ | ⟨h8, hm⟩
  ·
   refine known [18, 17] h8 (by kernel_rfl) (s1 2 [(20, aI x1.1), (19, .pv (.fn 29 [] []))] ?_)
   obtain ⟨x9, h10, hm⟩ := bs hm
   refine dv 21 (cpure (by kernel_rfl) (ok_query_Right_2 h10) (by kernel_rfl) (by kernel_rfl) (by kernel_rfl)) (by kernel_rfl) (fq 2 [(2, .fn 30 [] [.ptr 0 0]), (8, aI x1.1), (9, aI x1.2), (23, aB (!x9))] ?_)
   rcases bif_some hm with ⟨h11, hm⟩ | ⟨h11, hm⟩
   ·
    refine c1 h11 (dn [(2, .fn 30 [] [.ptr 0 0]), (8, aI x1.1), (9, aI 50)] ?_)
    exact ⟨50, .any, hm, (mk_same (by kernel_rfl)), rfl⟩
   ·
    refine c0 h11 (wp_skip ?_)
    exact ⟨x1.2, aB (!x9), hm, (mk_same (by kernel_rfl)), rfl⟩
  ·
   refine known [18, 17] h8 (by kernel_rfl) (fq 5 [(2, .fn 30 [] [.ptr 0 0]), (8, aI x1.1), (9, aI x1.2), (23, aB false)] (cF (by kernel_rfl) (wp_skip ?_)))
   exact ⟨x1.2, aB false, hm, (mk_same (by kernel_rfl)), rfl⟩
theorem ok_query_Right_5 {n : Nat} {a0 : (Option (List api_Table))} {a1 : api_Expr} {r : (Option (List Int)) × Int} (hm : query_Right_5 n a0 a1 = some r) :
    ∃ vv H1, call G n 35 [.agg [aI a1.fKind, aI a1.fRel, aI a1.fCol, aI a1.fConst.fKind, aI a1.fConst.fInt, aF a1.fConst.fFloat, aS a1.fConst.fText, .pv (encSl R_E_api_Expr a1.fKids)], .ptr 0 0, .ptr 2 0, .ptr 3 0] [.box [.fn 27 [] [.ptr 1 0]] false, .box [.pv (encSl R_api_Table a0)] false, .box [.pv (.fn 29 [] [])] false, .box [.fn 30 [] [.ptr 4 0]] false, .box [.pv .nils] false] = some (.ret vv, H1) ∧ (match r with | (none, r0) => (vv = aI r0 ∧ H1 = [.box [.fn 27 [] [.ptr 1 0]] false, .box [.pv (encSl R_api_Table a0)] false, .box [.pv (.fn 29 [] [])] false, .box [.fn 30 [] [.ptr 4 0]] false, .box [.pv .nils] false]) | (some r1, r0) => (vv = aI r0 ∧ H1 = [.box [.fn 27 [] [.ptr 1 0]] false, .box [.pv (encSl R_api_Table a0)] false, .box [.pv (.fn 29 [] [])] false, .box [.fn 30 [] [.ptr 4 0]] false, .box [aR 5 1 r1.length] false, bR 3 1 (rI .i64) r1 0 0])) := by
  unfold query_Right_5 at hm
  obtain ⟨n, rfl, h0⟩ := at1_some hm
  replace hm := h0; clear h0
  refine callE 11 [(0, .agg [aI a1.fKind, aI a1.fRel, aI a1.fCol, aI a1.fConst.fKind, aI a1.fConst.fInt, aF a1.fConst.fFloat, aS a1.fConst.fText, .pv (encSl R_E_api_Expr a1.fKids)]), (1, .ptr 0 0), (2, .ptr 2 0), (3, .ptr 3 0)] func35 rfl (by kernel_rfl) (sq (det [(1, .ptr 0 0), (2, .ptr 2 0), (3, .ptr 3 0), (4, .ptr 5 0)] [.box [.fn 27 [] [.ptr 1 0]] false, .box [.pv (encSl R_api_Table a0)] false, .box [.pv (.fn 29 [] [])] false, .box [.fn 30 [] [.ptr 4 0]] false, .box [.pv .nils] false, .box [aI a1.fKind, aI a1.fRel, aI a1.fCol, aI a1.fConst.fKind, aI a1.fConst.fInt, aF a1.fConst.fFloat, aS a1.fConst.fText, .pv (encSl R_E_api_Expr a1.fKids)] false] (by kernel_rfl) (sq (rg (s1 4 [(9, .fn 30 [] [.ptr 4 0]), (8, .pv (.fn 29 [] [])), (7, .agg [aI a1.fKind, aI a1.fRel, aI a1.fCol, aI a1.fConst.fKind, aI a1.fConst.fInt, aF a1.fConst.fFloat, aS a1.fConst.fText, .pv (encSl R_E_api_Expr a1.fKids)]), (6, .fn 27 [] [.ptr 1 0])] ?_)))))
  obtain ⟨x4, h1, hm⟩ := bs hm
  rcases x4 with ⟨_ | x2, x3⟩
  ·
   obtain ⟨vv, H1, hC, rfl, rfl⟩ := ok_query_Right_1_query_Right_2_query_Right_3 h1
   refine dR [(10, aI x3)] [.box [.fn 27 [] [.ptr 1 0]] false, .box [.pv (encSl R_api_Table a0)] false, .box [.pv (.fn 29 [] [])] false, .box [.fn 30 [] [.ptr 4 0]] false, .box [.pv .nils] false, .box [aI a1.fKind, aI a1.fRel, aI a1.fCol, aI a1.fConst.fKind, aI a1.fConst.fInt, aF a1.fConst.fFloat, aS a1.fConst.fText, .pv (encSl R_E_api_Expr a1.fKids)] false] [4, 1] [.agg [aI a1.fKind, aI a1.fRel, aI a1.fCol, aI a1.fConst.fKind, aI a1.fConst.fInt, aF a1.fConst.fFloat, aS a1.fConst.fText, .pv (encSl R_E_api_Expr a1.fKids)], .pv (.fn 29 [] []), .fn 30 [] [.ptr 4 0], .ptr 1 0] (by kernel_rfl) (by kernel_rfl) (by kernel_rfl) hC (by kernel_rfl) (fq 1 [(5, aI x3)] (wp_ret ?_))
   obtain rfl := Option.some.inj hm
   exact ⟨trivial, aI x3, [.box [.fn 27 [] [.ptr 1 0]] false, .box [.pv (encSl R_api_Table a0)] false, .box [.pv (.fn 29 [] [])] false, .box [.fn 30 [] [.ptr 4 0]] false, .box [.pv .nils] false], by kernel_rfl, rfl, rfl⟩
  ·
   obtain ⟨vv, H1, hC, rfl, rfl⟩ := ok_query_Right_1_query_Right_2_query_Right_3 h1
   refine dR [(10, aI x3)] [.box [.fn 27 [] [.ptr 1 0]] false, .box [.pv (encSl R_api_Table a0)] false, .box [.pv (.fn 29 [] [])] false, .box [.fn 30 [] [.ptr 4 0]] false, .box [aR 6 1 x2.length] false, .box [aI a1.fKind, aI a1.fRel, aI a1.fCol, aI a1.fConst.fKind, aI a1.fConst.fInt, aF a1.fConst.fFloat, aS a1.fConst.fText, .pv (encSl R_E_api_Expr a1.fKids)] false, bR 3 1 (rI .i64) x2 0 0] [4, 1] [.agg [aI a1.fKind, aI a1.fRel, aI a1.fCol, aI a1.fConst.fKind, aI a1.fConst.fInt, aF a1.fConst.fFloat, aS a1.fConst.fText, .pv (encSl R_E_api_Expr a1.fKids)], .pv (.fn 29 [] []), .fn 30 [] [.ptr 4 0], .ptr 1 0] (by kernel_rfl) (by kernel_rfl) (by kernel_rfl) hC (by kernel_rfl) (fq 1 [(5, aI x3)] (wp_ret ?_))
   obtain rfl := Option.some.inj hm
   exact ⟨trivial, aI x3, [.box [.fn 27 [] [.ptr 1 0]] false, .box [.pv (encSl R_api_Table a0)] false, .box [.pv (.fn 29 [] [])] false, .box [.fn 30 [] [.ptr 4 0]] false, .box [aR 5 1 x2.length] false, bR 3 1 (rI .i64) x2 0 0], by kernel_rfl, rfl, rfl⟩
theorem ok_query_Right_3_2 (m1 : Nat) (f1 : Nat) {n : Nat} {a0 : (List Int)} {a1 : Int} {r : Unit} (hm1 : a0.length = m1) (hf1 : f1 ≤ a0.length) (hm : query_Right_3_2 n a0 a1 = some r) :
    ∃ vv H1, call G n 30 [aI a1, .ptr 0 0] [.box [aR 1 1 m1] false, bR 3 1 (rI .i64) a0 f1 0] = some (.ret vv, H1) ∧ (vv = .tup [] ∧ H1 = [.box [aR 1 1 ((a0 ++ ([a1] : List Int)).length)] false, bR 3 1 (rI .i64) (a0 ++ ([a1] : List Int)) f1 0]) := by
  unfold query_Right_3_2 at hm
  obtain ⟨n, rfl, h0⟩ := at1_some hm
  replace hm := h0; clear h0
  refine callE 7 [(0, aI a1), (1, .ptr 0 0)] func30 rfl (by kernel_rfl) (rg (st 3 [(5, aR 2 1 1), (4, aI a1), (3, aR 1 1 m1)] [.box [aR 1 1 m1] false, bR 3 1 (rI .i64) a0 f1 0, bR 3 1 (rI .i64) ([a1] : List Int) 0 0] (by kernel_rfl) ?_))
  obtain ⟨_, h1, hm⟩ := bs hm
  refine dO [(6, aR 1 1 ((a0 ++ ([a1] : List Int)).length))] [.box [aR 1 1 m1] false, bR 3 1 (rI .i64) (a0 ++ ([a1] : List Int)) f1 0, bR 3 1 (rI .i64) ([a1] : List Int) 0 0] (app_refO (u := 0) (n := m1) (id := 1) (rI .i64) a0 ([a1] : List Int) (b := 8) t31 t3 rfl rfl rfl (fun _ => rfl) rfl h1 rfl (by omega) (by omega) (show srcRows (aR 2 1 1) _ = some (([a1] : List Int).map (rI .i64)) from by kernel_rfl) (by kernel_rfl)) (by kernel_rfl) (stf 1 [] [.box [aR 1 1 ((a0 ++ ([a1] : List Int)).length)] false, bR 3 1 (rI .i64) (a0 ++ ([a1] : List Int)) f1 0, bR 3 1 (rI .i64) ([a1] : List Int) 0 0] (by kernel_rfl) ?_)
  obtain rfl := Option.some.inj hm
  exact ⟨trivial, .tup [], [.box [aR 1 1 ((a0 ++ ([a1] : List Int)).length)] false, bR 3 1 (rI .i64) (a0 ++ ([a1] : List Int)) f1 0], by kernel_rfl, rfl, rfl⟩
theorem ok_query_Right_1_query_Right_2_query_Right_3_2 (m1 : Nat) (f1 : Nat) {n : Nat} {a0 : (List Int)} {a1 : (Option (List api_Table))} {a2 : api_Expr} {r : (List Int) × Int} (hm1 : a0.length = m1) (hf1 : f1 ≤ a0.length) (hm : query_Right_1_query_Right_2_query_Right_3_2 n a0 a1 a2 = some r) :
    ∃ vv H1, call G n 27 [.agg [aI a2.fKind, aI a2.fRel, aI a2.fCol, aI a2.fConst.fKind, aI a2.fConst.fInt, aF a2.fConst.fFloat, aS a2.fConst.fText, .pv (encSl R_E_api_Expr a2.fKids)], .pv (.fn 29 [] []), .fn 30 [] [.ptr 0 0], .ptr 2 0] [.box [aR 1 1 m1] false, bR 3 1 (rI .i64) a0 f1 0, .box [.pv (encSl R_api_Table a1)] false] = some (.ret vv, H1) ∧ (match r with | (r0, r1) => (∃ (e2 : Nat) (e3 : Nat), r0.length = e2 ∧ e3 ≤ r0.length ∧ vv = aI r1 ∧ H1 = [.box [aR 1 1 e2] false, bR 3 1 (rI .i64) r0 e3 0, .box [.pv (encSl R_api_Table a1)] false])) := by
  unfold query_Right_1_query_Right_2_query_Right_3_2 at hm
  obtain ⟨n, rfl, h0⟩ := at1_some hm
  replace hm := h0; clear h0
  refine callE 30 [(0, .agg [aI a2.fKind, aI a2.fRel, aI a2.fCol, aI a2.fConst.fKind, aI a2.fConst.fInt, aF a2.fConst.fFloat, aS a2.fConst.fText, .pv (encSl R_E_api_Expr a2.fKids)]), (1, .pv (.fn 29 [] [])), (2, .fn 30 [] [.ptr 0 0]), (3, .ptr 2 0)] func27 rfl (by kernel_rfl) (sq (det [(1, .pv (.fn 29 [] [])), (2, .fn 30 [] [.ptr 0 0]), (3, .ptr 2 0), (4, .ptr 3 0)] [.box [aR 1 1 m1] false, bR 3 1 (rI .i64) a0 f1 0, .box [.pv (encSl R_api_Table a1)] false, .box [aI a2.fKind, aI a2.fRel, aI a2.fCol, aI a2.fConst.fKind, aI a2.fConst.fInt, aF a2.fConst.fFloat, aS a2.fConst.fText, .pv (encSl R_E_api_Expr a2.fKids)] false] (by kernel_rfl) (sq (rg (s1 2 [(12, .pv (encSl R_api_Table a1)), (11, .agg [aI a2.fKind, aI a2.fRel, aI a2.fCol, aI a2.fConst.fKind, aI a2.fConst.fInt, aF a2.fConst.fFloat, aS a2.fConst.fText, .pv (encSl R_E_api_Expr a2.fKids)])] ?_)))))
  obtain ⟨x1, h2, hm⟩ := bs hm
  refine dv 13 (cpure (by kernel_rfl) (ok_expr_Type h2) (by kernel_rfl) (by kernel_rfl) (by kernel_rfl)) (by kernel_rfl) (fq 5 [(1, .pv (.fn 29 [] [])), (2, .fn 30 [] [.ptr 0 0]), (8, aI x1.1), (9, aI x1.2)] ?_)
  obtain ⟨k5, hk5, hm⟩ := withK_some hm
  refine mid (fun t H => (∃ (y4 : Int) (w3 : AV), k5 y4 = some r ∧ t = mk 30 [(2, .fn 30 [] [.ptr 0 0]), (8, aI x1.1), (9, aI y4), (23, w3)] ∧ H = [.box [aR 1 1 m1] false, bR 3 1 (rI .i64) a0 f1 0, .box [.pv (encSl R_api_Table a1)] false, .box [aI a2.fKind, aI a2.fRel, aI a2.fCol, aI a2.fConst.fKind, aI a2.fConst.fInt, aF a2.fConst.fFloat, aS a2.fConst.fText, .pv (encSl R_E_api_Expr a2.fKids)] false])) ?_ ?_
  ·
   rintro _ _ ⟨y4, w3, hm, rfl, rfl⟩
   subst hk5
   refine sq (sq (dn [(2, .fn 30 [] [.ptr 0 0]), (8, aI x1.1), (9, aI y4), (25, aB (y4 == 0))] ?_))
   rcases bif_some hm with ⟨h6, hm⟩ | ⟨h6, hm⟩
   ·
    refine c1 h6 (rg (s1 2 [(27, aI x1.1), (26, .fn 30 [] [.ptr 0 0])] ?_))
    obtain ⟨_, h7, hm⟩ := bs hm
    obtain ⟨vv, H1, hC, rfl, rfl⟩ := ok_query_Right_3_2 m1 f1 (by first | rfl | assumption | omega | (simp only [List.length_set, List.length_append, List.length_cons, List.length_nil, List.length_replicate, List.length_drop] at * <;> omega)) (by first | exact Nat.zero_le _ | exact Nat.le_refl _ | assumption | omega | (simp only [List.length_set, List.length_append, List.length_cons, List.length_nil, List.length_replicate, List.length_drop] at * <;> omega)) h7
    refine dR [(28, .tup [])] [.box [aR 1 1 ((a0 ++ ([x1.1] : List Int)).length)] false, bR 3 1 (rI .i64) (a0 ++ ([x1.1] : List Int)) f1 0, .box [.pv (encSl R_api_Table a1)] false, .box [aI a2.fKind, aI a2.fRel, aI a2.fCol, aI a2.fConst.fKind, aI a2.fConst.fInt, aF a2.fConst.fFloat, aS a2.fConst.fText, .pv (encSl R_E_api_Expr a2.fKids)] false] [0, 1] [aI x1.1, .ptr 0 0] (by kernel_rfl) (by kernel_rfl) (by kernel_rfl) hC (by kernel_rfl) (fin [(9, aI y4)] rfl (by kernel_rfl) (sq (dn [(7, aI y4)] (wp_ret ?_))))
    obtain rfl := Option.some.inj hm
    exact ⟨trivial, aI y4, [.box [aR 1 1 ((a0 ++ ([x1.1] : List Int)).length)] false, bR 3 1 (rI .i64) (a0 ++ ([x1.1] : List Int)) f1 0, .box [.pv (encSl R_api_Table a1)] false], by kernel_rfl, (a0 ++ ([x1.1] : List Int)).length, f1, (by first | rfl | assumption | omega | (simp only [List.length_set, List.length_append, List.length_cons, List.length_nil, List.length_replicate, List.length_drop] at * <;> omega)), (by first | exact Nat.zero_le _ | exact Nat.le_refl _ | assumption | omega | (simp only [List.length_set, List.length_append, List.length_cons, List.length_nil, List.length_replicate, List.length_drop] at * <;> omega)), rfl, rfl⟩
   ·
    refine c0 h6 (wp_skip (sq (dn [(7, aI y4)] (wp_ret ?_))))
    obtain rfl := Option.some.inj hm
    exact ⟨trivial, aI y4, [.box [aR 1 1 m1] false, bR 3 1 (rI .i64) a0 f1 0, .box [.pv (encSl R_api_Table a1)] false], by kernel_rfl, m1, f1, (by first | rfl | assumption | omega | (simp only [List.length_set, List.length_append, List.length_cons, List.length_nil, List.length_replicate, List.length_drop] at * <;> omega)), (by first | exact Nat.zero_le _ | exact Nat.le_refl _ | assumption | omega | (simp only [List.length_set, List.length_append, List.length_cons, List.length_nil, List.length_replicate, List.length_drop] at * <;> omega)), rfl, rfl⟩
  refine sq (rg (s1 3 [(18, aB (x1.2 == 0)), (17, aB (x1.2 == 0)), (16, aI x1.2)] ?_))
  rcases bif_some hm with ⟨h8, hm⟩ | ⟨h8, hm⟩
  ·
   refine known [18, 17] h8 (by kernel_rfl) (s1 2 [(20, aI x1.1), (19, .pv (.fn 29 [] []))] ?_)
   obtain ⟨x9, h10, hm⟩ := bs hm
   refine dv 21 (cpure (by kernel_rfl) (ok_query_Right_2 h10) (by kernel_rfl) (by kernel_rfl) (by kernel_rfl)) (by kernel_rfl) (fq 2 [(2, .fn 30 [] [.ptr 0 0]), (8, aI x1.1), (9, aI x1.2), (23, aB (!x9))] ?_)
   rcases bif_some hm with ⟨h11, hm⟩ | ⟨h11, hm⟩
   ·
    refine c1 h11 (dn [(2, .fn 30 [] [.ptr 0 0]), (8, aI x1.1), (9, aI 50)] ?_)
    exact ⟨50, .any, hm, (mk_same (by kernel_rfl)), rfl⟩
   ·
    refine c0 h11 (wp_skip ?_)
    exact ⟨x1.2, aB (!x9), hm, (mk_same (by kernel_rfl)), rfl⟩
  ·
   refine known [18, 17] h8 (by kernel_rfl) (fq 5 [(2, .fn 30 [] [.ptr 0 0]), (8, aI x1.1), (9, aI x1.2), (23, aB false)] (cF (by kernel_rfl) (wp_skip ?_)))
   exact ⟨x1.2, aB false, hm, (mk_same (by kernel_rfl)), rfl⟩
theorem ok_query_Right_5_2 (m5 : Nat) (f5 : Nat) {n : Nat} {a0 : (List Int)} {a1 : (Option (List api_Table))} {a2 : api_Expr} {r : (List Int) × Int} (hm5 : a0.length = m5) (hf5 : f5 ≤ a0.length) (hm : query_Right_5_2 n a0 a1 a2 = some r) :
    ∃ vv H1, call G n 35 [.agg [aI a2.fKind, aI a2.fRel, aI a2.fCol, aI a2.fConst.fKind, aI a2.fConst.fInt, aF a2.fConst.fFloat, aS a2.fConst.fText, .pv (encSl R_E_api_Expr a2.fKids)], .ptr 0 0, .ptr 2 0, .ptr 3 0] [.box [.fn 27 [] [.ptr 1 0]] false, .box [.pv (encSl R_api_Table a1)] false, .box [.pv (.fn 29 [] [])] false, .box [.fn 30 [] [.ptr 4 0]] false, .box [aR 5 1 m5] false, bR 3 1 (rI .i64) a0 f5 0] = some (.ret vv, H1) ∧ (match r with | (r0, r1) => (∃ (e2 : Nat) (e3 : Nat), r0.length = e2 ∧ e3 ≤ r0.length ∧ vv = aI r1 ∧ H1 = [.box [.fn 27 [] [.ptr 1 0]] false, .box [.pv (encSl R_api_Table a1)] false, .box [.pv (.fn 29 [] [])] false, .box [.fn 30 [] [.ptr 4 0]] false, .box [aR 5 1 e2] false, bR 3 1 (rI .i64) r0 e3 0])) := by
  unfold query_Right_5_2 at hm
  obtain ⟨n, rfl, h0⟩ := at1_some hm
  replace hm := h0; clear h0
  refine callE 11 [(0, .agg [aI a2.fKind, aI a2.fRel, aI a2.fCol, aI a2.fConst.fKind, aI a2.fConst.fInt, aF a2.fConst.fFloat, aS a2.fConst.fText, .pv (encSl R_E_api_Expr a2.fKids)]), (1, .ptr 0 0), (2, .ptr 2 0), (3, .ptr 3 0)] func35 rfl (by kernel_rfl) (sq (det [(1, .ptr 0 0), (2, .ptr 2 0), (3, .ptr 3 0), (4, .ptr 6 0)] [.box [.fn 27 [] [.ptr 1 0]] false, .box [.pv (encSl R_api_Table a1)] false, .box [.pv (.fn 29 [] [])] false, .box [.fn 30 [] [.ptr 4 0]] false, .box [aR 5 1 m5] false, bR 3 1 (rI .i64) a0 f5 0, .box [aI a2.fKind, aI a2.fRel, aI a2.fCol, aI a2.fConst.fKind, aI a2.fConst.fInt, aF a2.fConst.fFloat, aS a2.fConst.fText, .pv (encSl R_E_api_Expr a2.fKids)] false] (by kernel_rfl) (sq (rg (s1 4 [(9, .fn 30 [] [.ptr 4 0]), (8, .pv (.fn 29 [] [])), (7, .agg [aI a2.fKind, aI a2.fRel, aI a2.fCol, aI a2.fConst.fKind, aI a2.fConst.fInt, aF a2.fConst.fFloat, aS a2.fConst.fText, .pv (encSl R_E_api_Expr a2.fKids)]), (6, .fn 27 [] [.ptr 1 0])] ?_)))))
  obtain ⟨⟨x2, x3⟩, h1, hm⟩ := bs hm
  obtain ⟨vv, H1, hC, g4, g5, q6, q7, rfl, rfl⟩ := ok_query_Right_1_query_Right_2_query_Right_3_2 m5 f5 (by first | rfl | assumption | omega | (simp only [List.length_set, List.length_append, List.length_cons, List.length_nil, List.length_replicate, List.length_drop] at * <;> omega)) (by first | exact Nat.zero_le _ | exact Nat.le_refl _ | assumption | omega | (simp only [List.length_set, List.length_append, List.length_cons, List.length_nil, List.length_replicate, List.length_drop] at * <;> omega)) h1
  refine dR [(10, aI x3)] [.box [.fn 27 [] [.ptr 1 0]] false, .box [.pv (encSl R_api_Table a1)] false, .box [.pv (.fn 29 [] [])] false, .box [.fn 30 [] [.ptr 4 0]] false, .box [aR 5 1 g4] false, bR 3 1 (rI .i64) x2 g5 0, .box [aI a2.fKind, aI a2.fRel, aI a2.fCol, aI a2.fConst.fKind, aI a2.fConst.fInt, aF a2.fConst.fFloat, aS a2.fConst.fText, .pv (encSl R_E_api_Expr a2.fKids)] false] [4, 5, 1] [.agg [aI a2.fKind, aI a2.fRel, aI a2.fCol, aI a2.fConst.fKind, aI a2.fConst.fInt, aF a2.fConst.fFloat, aS a2.fConst.fText, .pv (encSl R_E_api_Expr a2.fKids)], .pv (.fn 29 [] []), .fn 30 [] [.ptr 4 0], .ptr 1 0] (by kernel_rfl) (by kernel_rfl) (by kernel_rfl) hC (by kernel_rfl) (fq 1 [(5, aI x3)] (wp_ret ?_))
  obtain rfl := Option.some.inj hm
  exact ⟨trivial, aI x3, [.box [.fn 27 [] [.ptr 1 0]] false, .box [.pv (encSl R_api_Table a1)] false, .box [.pv (.fn 29 [] [])] false, .box [.fn 30 [] [.ptr 4 0]] false, .box [aR 5 1 g4] false, bR 3 1 (rI .i64) x2 g5 0], by kernel_rfl, g4, g5, (by first | rfl | assumption | omega | (simp only [List.length_set, List.length_append, List.length_cons, List.length_nil, List.length_replicate, List.length_drop] at * <;> omega)), (by first | exact Nat.zero_le _ | exact Nat.le_refl _ | assumption | omega | (simp only [List.length_set, List.length_append, List.length_cons, List.length_nil, List.length_replicate, List.length_drop] at * <;> omega)), rfl, rfl⟩
end Go.Ab.S1
