import Derived.Test.YtejbcaheoloahaaWB2
namespace Go.Ab.S1
open Go Go.Ab Go.Pl
open Go.Proofs.Try
set_option maxRecDepth 100000
theorem okf_plan_count {rc_plan_count : (Nat → api_Plan → Int → Int → Option (Int))} (ih_plan_count : ∀ {n : Nat} {a0 : api_Plan} {a1 : Int} {a2 : Int} {r : Int} (hm : rc_plan_count n a0 a1 a2 = some r), call G n 56 [.agg [aI a0.fKind, aI a0.fRel, .pv (encSl R_E_api_Expr a0.fWhere), .pv (encSl R_E_api_Expr a0.fLeft), .pv (encSl R_E_api_Expr a0.fRight), .pv (encSl R_E_api_Expr a0.fOut), .pv (encSl R_api_Agg a0.fAggs), .pv (encSl R_api_Key a0.fOrder), .pv (encSl R_E_api_Plan a0.fKids)], aI a1, aI a2] [] = some (.ret (aI r), [])) {n : Nat} {a0 : api_Plan} {a1 : Int} {a2 : Int} {r : Int} (hm : plan_count_f rc_plan_count n a0 a1 a2 = some r) :
    call G n 56 [.agg [aI a0.fKind, aI a0.fRel, .pv (encSl R_E_api_Expr a0.fWhere), .pv (encSl R_E_api_Expr a0.fLeft), .pv (encSl R_E_api_Expr a0.fRight), .pv (encSl R_E_api_Expr a0.fOut), .pv (encSl R_api_Agg a0.fAggs), .pv (encSl R_api_Key a0.fOrder), .pv (encSl R_E_api_Plan a0.fKids)], aI a1, aI a2] [] = some (.ret (aI r), []) := by
  unfold plan_count_f at hm
  obtain ⟨n, rfl, h0⟩ := at1_some hm
  replace hm := h0; clear h0
  refine callL 52 [(0, .agg [aI a0.fKind, aI a0.fRel, .pv (encSl R_E_api_Expr a0.fWhere), .pv (encSl R_E_api_Expr a0.fLeft), .pv (encSl R_E_api_Expr a0.fRight), .pv (encSl R_E_api_Expr a0.fOut), .pv (encSl R_api_Agg a0.fAggs), .pv (encSl R_api_Key a0.fOrder), .pv (encSl R_E_api_Plan a0.fKids)]), (1, aI a1), (2, aI a2)] func56 rfl (by kernel_rfl) (sq (det [(1, aI a1), (2, aI a2), (3, .ptr 0 0)] [.box [aI a0.fKind, aI a0.fRel, .pv (encSl R_E_api_Expr a0.fWhere), .pv (encSl R_E_api_Expr a0.fLeft), .pv (encSl R_E_api_Expr a0.fRight), .pv (encSl R_E_api_Expr a0.fOut), .pv (encSl R_api_Agg a0.fAggs), .pv (encSl R_api_Key a0.fOrder), .pv (encSl R_E_api_Plan a0.fKids)] false] (by kernel_rfl) ?_))
  refine sq (sq (rgd (shd 3 [(11, aB (decide (a1 > 24))), (10, aB (decide (a1 > 24))), (9, aI a1)] (by kernel_rfl) ?_)))
  rcases bif_some hm with ⟨h1, hm⟩ | ⟨h1, hm⟩
  ·
   refine knownd [11, 10] h1 (by kernel_rfl) (shd 22 [(33, aB true), (32, .undef), (31, .undef), (30, .undef), (29, aB true), (28, aB true), (27, .undef), (26, .undef), (25, .undef), (24, aB true), (23, aB true), (22, .undef), (21, .undef), (20, .undef), (19, .undef), (18, .undef), (17, .undef), (16, .undef), (15, aB true), (14, aB true), (13, .undef), (12, .undef)] (by kernel_rfl) (find [(1, aI a1), (2, aI a2), (3, .ptr 0 0), (33, aB true)] rfl (by kernel_rfl) (by kernel_rfl) (cT (by kernel_rfl) (sq (detn [(6, aI (-1))] (by kernel_rfl) (wp_ret ?_))))))
   obtain rfl := Option.some.inj hm
   exact ⟨trivial, by kernel_rfl⟩
  ·
   refine knownd [11, 10] h1 (by kernel_rfl) (shd 4 [(15, aB (decide (a2 < 1))), (14, aB (decide (a2 < 1))), (13, aB (decide (a2 < 1))), (12, aI a2)] (by kernel_rfl) ?_)
   rcases bif_some hm with ⟨h2, hm⟩ | ⟨h2, hm⟩
   ·
    refine knownd [15, 14, 13] h2 (by kernel_rfl) (shd 18 [(33, aB true), (32, .undef), (31, .undef), (30, .undef), (29, aB true), (28, aB true), (27, .undef), (26, .undef), (25, .undef), (24, aB true), (23, aB true), (22, .undef), (21, .undef), (20, .undef), (19, .undef), (18, .undef), (17, .undef), (16, .undef)] (by kernel_rfl) (find [(1, aI a1), (2, aI a2), (3, .ptr 0 0), (33, aB true)] rfl (by kernel_rfl) (by kernel_rfl) (cT (by kernel_rfl) (sq (detn [(6, aI (-1))] (by kernel_rfl) (wp_ret ?_))))))
    obtain rfl := Option.some.inj hm
    exact ⟨trivial, by kernel_rfl⟩
   ·
    refine knownd [15, 14, 13] h2 (by kernel_rfl) (shd 2 [(17, aI a0.fKind), (16, .ptr 0 0)] (by kernel_rfl) ?_)
    obtain ⟨x3, h4, hm⟩ := bs hm
    refine dvd 18 (cpure (by kernel_rfl) (ok_plan_kids h4) (by kernel_rfl) (by kernel_rfl) (by kernel_rfl)) (by kernel_rfl) (shd 2 [(20, .pv (encSl R_E_api_Plan a0.fKids)), (19, .ptr 0 8)] (by kernel_rfl) (dvd 21 (v := aI ((sll a0.fKids).length : Int)) (len_slO R_E_api_Plan a0.fKids t57 (by kernel_rfl)) (by kernel_rfl) (shd 3 [(24, aB (x3 != ((sll a0.fKids).length : Int))), (23, aB (x3 != ((sll a0.fKids).length : Int))), (22, aB (x3 != ((sll a0.fKids).length : Int)))] (by kernel_rfl) ?_)))
    rcases bif_some hm with ⟨h5, hm⟩ | ⟨h5, hm⟩
    ·
     refine knownd [24, 23, 22] h5 (by kernel_rfl) (shd 9 [(33, aB true), (32, .undef), (31, .undef), (30, .undef), (29, aB true), (28, aB true), (27, .undef), (26, .undef), (25, .undef)] (by kernel_rfl) (find [(1, aI a1), (2, aI a2), (3, .ptr 0 0), (33, aB true)] rfl (by kernel_rfl) (by kernel_rfl) (cT (by kernel_rfl) (sq (detn [(6, aI (-1))] (by kernel_rfl) (wp_ret ?_))))))
     obtain rfl := Option.some.inj hm
     exact ⟨trivial, by kernel_rfl⟩
    ·
     refine knownd [24, 23, 22] h5 (by kernel_rfl) (shd 1 [(25, .agg [aI a0.fKind, aI a0.fRel, .pv (encSl R_E_api_Expr a0.fWhere), .pv (encSl R_E_api_Expr a0.fLeft), .pv (encSl R_E_api_Expr a0.fRight), .pv (encSl R_E_api_Expr a0.fOut), .pv (encSl R_api_Agg a0.fAggs), .pv (encSl R_api_Key a0.fOrder), .pv (encSl R_E_api_Plan a0.fKids)])] (by kernel_rfl) ?_)
     obtain ⟨x6, h7, hm⟩ := bs hm
     refine dvd 26 (cpure (by kernel_rfl) (ok_plan_lists h7) (by kernel_rfl) (by kernel_rfl) (by kernel_rfl)) (by kernel_rfl) (shd 3 [(29, aB (!x6)), (28, aB (!x6)), (27, aB (!x6))] (by kernel_rfl) ?_)
     rcases bif_some hm with ⟨h8, hm⟩ | ⟨h8, hm⟩
     ·
      refine knownd [29, 28, 27] h8 (by kernel_rfl) (shd 4 [(33, aB true), (32, .undef), (31, .undef), (30, .undef)] (by kernel_rfl) (find [(1, aI a1), (2, aI a2), (3, .ptr 0 0), (33, aB true)] rfl (by kernel_rfl) (by kernel_rfl) (cT (by kernel_rfl) (sq (detn [(6, aI (-1))] (by kernel_rfl) (wp_ret ?_))))))
      obtain rfl := Option.some.inj hm
      exact ⟨trivial, by kernel_rfl⟩
     ·
      refine knownd [29, 28, 27] h8 (by kernel_rfl) (shd 1 [(30, .agg [aI a0.fKind, aI a0.fRel, .pv (encSl R_E_api_Expr a0.fWhere), .pv (encSl R_E_api_Expr a0.fLeft), .pv (encSl R_E_api_Expr a0.fRight), .pv (encSl R_E_api_Expr a0.fOut), .pv (encSl R_api_Agg a0.fAggs), .pv (encSl R_api_Key a0.fOrder), .pv (encSl R_E_api_Plan a0.fKids)])] (by kernel_rfl) ?_)
      obtain ⟨x9, h10, hm⟩ := bs hm
      refine dvd 31 (cpure (by kernel_rfl) (ok_plan_parts h10) (by kernel_rfl) (by kernel_rfl) (by kernel_rfl)) (by kernel_rfl) (shd 2 [(33, aB (!x9)), (32, aB (!x9))] (by kernel_rfl) (find [(1, aI a1), (2, aI a2), (3, .ptr 0 0), (33, aB (!x9))] rfl (by kernel_rfl) (by kernel_rfl) ?_))
      rcases bif_some hm with ⟨h11, hm⟩ | ⟨h11, hm⟩
      ·
       refine ct h11 (by kernel_rfl) (sq (detn [(6, aI (-1))] (by kernel_rfl) (wp_ret ?_)))
       obtain rfl := Option.some.inj hm
       exact ⟨trivial, by kernel_rfl⟩
      ·
       refine cf h11 (by kernel_rfl) (wp_skip (sq (detn [(1, aI a1), (2, aI (IntKind.wrap .i64 (a2 - 1))), (3, .ptr 0 0)] (by kernel_rfl) ?_)))
       obtain ⟨k15, hk15, hm⟩ := withK_some hm
       refine mid (fun t H => (∃ (y12 : Int) (y13 : Int) (y14 : Bool), k15 y12 = some r ∧ t = mk 52 [(1, aI a1), (2, aI y12), (37, .pv (encSl R_E_api_Plan a0.fKids)), (38, aI ((sll a0.fKids).length : Int)), (39, aI y13), (40, aB y14)] ∧ H = [.box [aI a0.fKind, aI a0.fRel, .pv (encSl R_E_api_Expr a0.fWhere), .pv (encSl R_E_api_Expr a0.fLeft), .pv (encSl R_E_api_Expr a0.fRight), .pv (encSl R_E_api_Expr a0.fOut), .pv (encSl R_api_Agg a0.fAggs), .pv (encSl R_api_Key a0.fOrder), .pv (encSl R_E_api_Plan a0.fKids)] false])) ?_ ?_
       ·
        rintro _ _ ⟨y12, y13, y14, hm, rfl, rfl⟩
        subst hk15
        refine sq (detn [(6, aI y12)] (by kernel_rfl) (wp_ret ?_))
        obtain rfl := Option.some.inj hm
        exact ⟨trivial, by kernel_rfl⟩
       refine sq (rg (sh 2 [(37, .pv (encSl R_E_api_Plan a0.fKids)), (36, .ptr 0 8)] (by kernel_rfl) (dv 38 (v := aI ((sll a0.fKids).length : Int)) (len_slO R_E_api_Plan a0.fKids t57 (by kernel_rfl)) (by kernel_rfl) (sh 1 [(39, aI 0)] (by kernel_rfl) (fin [(1, aI a1), (2, aI (IntKind.wrap .i64 (a2 - 1))), (37, .pv (encSl R_E_api_Plan a0.fKids)), (38, aI ((sll a0.fKids).length : Int)), (39, aI 0)] rfl (by kernel_rfl) (bq ?_))))))
       refine loopF (fun mm t H => (∃ (y18 : Int) (y19 : Int), plan_count_l5 n rc_plan_count a0 a1 k15 mm y18 y19 = some r ∧ t = mk 52 [(1, aI a1), (2, aI y18), (37, .pv (encSl R_E_api_Plan a0.fKids)), (38, aI ((sll a0.fKids).length : Int)), (39, aI y19)] ∧ H = [.box [aI a0.fKind, aI a0.fRel, .pv (encSl R_E_api_Expr a0.fWhere), .pv (encSl R_E_api_Expr a0.fLeft), .pv (encSl R_E_api_Expr a0.fRight), .pv (encSl R_E_api_Expr a0.fOut), .pv (encSl R_api_Agg a0.fAggs), .pv (encSl R_api_Key a0.fOrder), .pv (encSl R_E_api_Plan a0.fKids)] false])) (⟨(IntKind.wrap .i64 (a2 - 1)), 0, hm, rfl, rfl⟩) ?_ ?_
       · rintro _ _ ⟨y18, y19, hm, _⟩; exact nomatch hm
       rintro m20 _ _ ⟨y18, y19, hm, rfl, rfl⟩
       simp only [plan_count_l5] at hm
       refine sq (detn [(1, aI a1), (2, aI y18), (37, .pv (encSl R_E_api_Plan a0.fKids)), (38, aI ((sll a0.fKids).length : Int)), (39, aI y19), (40, aB (decide (y19 < ((sll a0.fKids).length : Int))))] (by kernel_rfl) ?_)
       refine sq ?_
       rcases bif_some hm with ⟨h21, hm⟩ | ⟨h21, hm⟩
       ·
        refine ct h21 (by kernel_rfl) (wp_skip (sq (bq (sq (rg ?_)))))
        obtain ⟨x22, h23, hm⟩ := bs hm
        refine dv 41 (v := .pv (.ptr (R_api_Plan (un_api_Plan x22)) 0)) (ia_slE R_E_api_Plan a0.fKids .i64 t57 t59 h23 (R_un_api_Plan x22) rfl (by kernel_rfl)) (by kernel_rfl) (st 3 [(8, .ptr 1 0), (42, .agg [aI ((un_api_Plan x22).fKind), aI ((un_api_Plan x22).fRel), .pv (encSl R_E_api_Expr ((un_api_Plan x22).fWhere)), .pv (encSl R_E_api_Expr ((un_api_Plan x22).fLeft)), .pv (encSl R_E_api_Expr ((un_api_Plan x22).fRight)), .pv (encSl R_E_api_Expr ((un_api_Plan x22).fOut)), .pv (encSl R_api_Agg ((un_api_Plan x22).fAggs)), .pv (encSl R_api_Key ((un_api_Plan x22).fOrder)), .pv (encSl R_E_api_Plan ((un_api_Plan x22).fKids))])] [.box [aI a0.fKind, aI a0.fRel, .pv (encSl R_E_api_Expr a0.fWhere), .pv (encSl R_E_api_Expr a0.fLeft), .pv (encSl R_E_api_Expr a0.fRight), .pv (encSl R_E_api_Expr a0.fOut), .pv (encSl R_api_Agg a0.fAggs), .pv (encSl R_api_Key a0.fOrder), .pv (encSl R_E_api_Plan a0.fKids)] false, .box [aI ((un_api_Plan x22).fKind), aI ((un_api_Plan x22).fRel), .pv (encSl R_E_api_Expr ((un_api_Plan x22).fWhere)), .pv (encSl R_E_api_Expr ((un_api_Plan x22).fLeft)), .pv (encSl R_E_api_Expr ((un_api_Plan x22).fRight)), .pv (encSl R_E_api_Expr ((un_api_Plan x22).fOut)), .pv (encSl R_api_Agg ((un_api_Plan x22).fAggs)), .pv (encSl R_api_Key ((un_api_Plan x22).fOrder)), .pv (encSl R_E_api_Plan ((un_api_Plan x22).fKids))] false] (by kernel_rfl) (fin [(1, aI a1), (2, aI y18), (8, .ptr 1 0), (37, .pv (encSl R_E_api_Plan a0.fKids)), (38, aI ((sll a0.fKids).length : Int)), (39, aI y19)] rfl (by kernel_rfl) (sq (rg (sh 4 [(46, aI y18), (45, aI (IntKind.wrap .i64 (a1 + 1))), (44, aI a1), (43, .agg [aI ((un_api_Plan x22).fKind), aI ((un_api_Plan x22).fRel), .pv (encSl R_E_api_Expr ((un_api_Plan x22).fWhere)), .pv (encSl R_E_api_Expr ((un_api_Plan x22).fLeft)), .pv (encSl R_E_api_Expr ((un_api_Plan x22).fRight)), .pv (encSl R_E_api_Expr ((un_api_Plan x22).fOut)), .pv (encSl R_api_Agg ((un_api_Plan x22).fAggs)), .pv (encSl R_api_Key ((un_api_Plan x22).fOrder)), .pv (encSl R_E_api_Plan ((un_api_Plan x22).fKids))])] (by kernel_rfl) ?_)))))
        obtain ⟨x24, h25, hm⟩ := bs hm
        refine dv 47 (cpure (by kernel_rfl) (ih_plan_count h25) (by kernel_rfl) (by kernel_rfl) (by kernel_rfl)) (by kernel_rfl) (sh 1 [(2, aI x24)] (by kernel_rfl) (fin [(1, aI a1), (2, aI x24), (37, .pv (encSl R_E_api_Plan a0.fKids)), (38, aI ((sll a0.fKids).length : Int)), (39, aI y19)] rfl (by kernel_rfl) (sq (detn [(1, aI a1), (2, aI x24), (37, .pv (encSl R_E_api_Plan a0.fKids)), (38, aI ((sll a0.fKids).length : Int)), (39, aI y19), (49, aB (decide (x24 < 0)))] (by kernel_rfl) ?_))))
        rcases bif_some hm with ⟨h26, hm⟩ | ⟨h26, hm⟩
        ·
         refine ct h26 (by kernel_rfl) (sq (detn [(6, aI (-1))] (by kernel_rfl) (wp_ret ?_)))
         obtain rfl := Option.some.inj hm
         exact ⟨trivial, by kernel_rfl⟩
        ·
         refine cf h26 (by kernel_rfl) (wp_skip (detn [(1, aI a1), (2, aI x24), (37, .pv (encSl R_E_api_Plan a0.fKids)), (38, aI ((sll a0.fKids).length : Int)), (39, aI (IntKind.wrap .i64 (y19 + 1)))] (by kernel_rfl) ?_))
         exact ⟨_, _, tidyL [(1, aI a1), (2, aI x24), (37, .pv (encSl R_E_api_Plan a0.fKids)), (38, aI ((sll a0.fKids).length : Int)), (39, aI (IntKind.wrap .i64 (y19 + 1)))] [.box [aI a0.fKind, aI a0.fRel, .pv (encSl R_E_api_Expr a0.fWhere), .pv (encSl R_E_api_Expr a0.fLeft), .pv (encSl R_E_api_Expr a0.fRight), .pv (encSl R_E_api_Expr a0.fOut), .pv (encSl R_api_Agg a0.fAggs), .pv (encSl R_api_Key a0.fOrder), .pv (encSl R_E_api_Plan a0.fKids)] false] (by kernel_rfl), ⟨x24, (IntKind.wrap .i64 (y19 + 1)), hm, rfl, rfl⟩⟩
       ·
        refine cf h21 (by kernel_rfl) (wp_exit ?_)
        exact ⟨y18, y19, (decide (y19 < ((sll a0.fKids).length : Int))), hm, rfl, rfl⟩
theorem okt_plan_count : ∀ (m : Nat), ∀ {n : Nat} {a0 : api_Plan} {a1 : Int} {a2 : Int} {r : Int} (hm : plan_count_t m n a0 a1 a2 = some r), call G n 56 [.agg [aI a0.fKind, aI a0.fRel, .pv (encSl R_E_api_Expr a0.fWhere), .pv (encSl R_E_api_Expr a0.fLeft), .pv (encSl R_E_api_Expr a0.fRight), .pv (encSl R_E_api_Expr a0.fOut), .pv (encSl R_api_Agg a0.fAggs), .pv (encSl R_api_Key a0.fOrder), .pv (encSl R_E_api_Plan a0.fKids)], aI a1, aI a2] [] = some (.ret (aI r), [])
  | 0 => by intros; rename_i hm; exact nomatch hm
  | m + 1 => fun hm =>
    okf_plan_count (okt_plan_count m) hm
theorem ok_plan_count {n : Nat} {a0 : api_Plan} {a1 : Int} {a2 : Int} {r : Int} (hm : plan_count n a0 a1 a2 = some r) :
    call G n 56 [.agg [aI a0.fKind, aI a0.fRel, .pv (encSl R_E_api_Expr a0.fWhere), .pv (encSl R_E_api_Expr a0.fLeft), .pv (encSl R_E_api_Expr a0.fRight), .pv (encSl R_E_api_Expr a0.fOut), .pv (encSl R_api_Agg a0.fAggs), .pv (encSl R_api_Key a0.fOrder), .pv (encSl R_E_api_Plan a0.fKids)], aI a1, aI a2] [] = some (.ret (aI r), []) := okt_plan_count n hm
theorem ok_plan_Formed {n : Nat} {a0 : api_Plan} {r : Bool} (hm : plan_Formed n a0 = some r) :
    call G n 21 [.agg [aI a0.fKind, aI a0.fRel, .pv (encSl R_E_api_Expr a0.fWhere), .pv (encSl R_E_api_Expr a0.fLeft), .pv (encSl R_E_api_Expr a0.fRight), .pv (encSl R_E_api_Expr a0.fOut), .pv (encSl R_api_Agg a0.fAggs), .pv (encSl R_api_Key a0.fOrder), .pv (encSl R_E_api_Plan a0.fKids)]] [] = some (.ret (aB r), []) := by
  unfold plan_Formed at hm
  obtain ⟨n, rfl, h0⟩ := at1_some hm
  replace hm := h0; clear h0
  refine callL 6 [(0, .agg [aI a0.fKind, aI a0.fRel, .pv (encSl R_E_api_Expr a0.fWhere), .pv (encSl R_E_api_Expr a0.fLeft), .pv (encSl R_E_api_Expr a0.fRight), .pv (encSl R_E_api_Expr a0.fOut), .pv (encSl R_api_Agg a0.fAggs), .pv (encSl R_api_Key a0.fOrder), .pv (encSl R_E_api_Plan a0.fKids)])] func21 rfl (by kernel_rfl) (sq (det [(1, .ptr 0 0)] [.box [aI a0.fKind, aI a0.fRel, .pv (encSl R_E_api_Expr a0.fWhere), .pv (encSl R_E_api_Expr a0.fLeft), .pv (encSl R_E_api_Expr a0.fRight), .pv (encSl R_E_api_Expr a0.fOut), .pv (encSl R_api_Agg a0.fAggs), .pv (encSl R_api_Key a0.fOrder), .pv (encSl R_E_api_Plan a0.fKids)] false] (by kernel_rfl) (sq (rg (sh 1 [(3, .agg [aI a0.fKind, aI a0.fRel, .pv (encSl R_E_api_Expr a0.fWhere), .pv (encSl R_E_api_Expr a0.fLeft), .pv (encSl R_E_api_Expr a0.fRight), .pv (encSl R_E_api_Expr a0.fOut), .pv (encSl R_api_Agg a0.fAggs), .pv (encSl R_api_Key a0.fOrder), .pv (encSl R_E_api_Plan a0.fKids)])] (by kernel_rfl) ?_)))))
  obtain ⟨x1, h2, hm⟩ := bs hm
  refine dv 4 (cpure (by kernel_rfl) (ok_plan_count h2) (by kernel_rfl) (by kernel_rfl) (by kernel_rfl)) (by kernel_rfl) (sh 2 [(2, aB (decide (x1 ≥ 0))), (5, aB (decide (x1 ≥ 0)))] (by kernel_rfl) (fin [(2, aB (decide (x1 ≥ 0)))] rfl (by kernel_rfl) (wp_ret ?_)))
  obtain rfl := Option.some.inj hm
  exact ⟨trivial, by kernel_rfl⟩
theorem ok_plan_Rels_1 {n : Nat} {a0 : Int} {a1 : api_Plan} {r : Int} (hm : plan_Rels_1 n a0 a1 = some r) :
    ∃ vv H1, call G n 120 [.agg [aI a1.fKind, aI a1.fRel, .pv (encSl R_E_api_Expr a1.fWhere), .pv (encSl R_E_api_Expr a1.fLeft), .pv (encSl R_E_api_Expr a1.fRight), .pv (encSl R_E_api_Expr a1.fOut), .pv (encSl R_api_Agg a1.fAggs), .pv (encSl R_api_Key a1.fOrder), .pv (encSl R_E_api_Plan a1.fKids)], .ptr 0 0] [.box [.pv (.int .u32 a0)] false] = some (.ret vv, H1) ∧ (match r with | r0 => (vv = .tup [] ∧ H1 = [.box [.pv (.int .u32 r0)] false])) := by
  unfold plan_Rels_1 at hm
  obtain ⟨n, rfl, h0⟩ := at1_some hm
  replace hm := h0; clear h0
  refine callE 22 [(0, .agg [aI a1.fKind, aI a1.fRel, .pv (encSl R_E_api_Expr a1.fWhere), .pv (encSl R_E_api_Expr a1.fLeft), .pv (encSl R_E_api_Expr a1.fRight), .pv (encSl R_E_api_Expr a1.fOut), .pv (encSl R_api_Agg a1.fAggs), .pv (encSl R_api_Key a1.fOrder), .pv (encSl R_E_api_Plan a1.fKids)]), (1, .ptr 0 0)] func120 rfl (by kernel_rfl) (sq (det [(1, .ptr 0 0), (2, .ptr 1 0)] [.box [.pv (.int .u32 a0)] false, .box [aI a1.fKind, aI a1.fRel, .pv (encSl R_E_api_Expr a1.fWhere), .pv (encSl R_E_api_Expr a1.fLeft), .pv (encSl R_E_api_Expr a1.fRight), .pv (encSl R_E_api_Expr a1.fOut), .pv (encSl R_api_Agg a1.fAggs), .pv (encSl R_api_Key a1.fOrder), .pv (encSl R_E_api_Plan a1.fKids)] false] (by kernel_rfl) ?_))
  refine sq (rg (sh 4 [(6, aB (a1.fKind == 1)), (5, aB (a1.fKind == 1)), (4, aI a1.fKind), (3, .ptr 1 0)] (by kernel_rfl) ?_))
  refine seg (a1.fKind == 1) [6, 5] (fun b => [(10, aB (b && (decide (a1.fRel ≥ 0)))), (9, ifA b (aB (decide (a1.fRel ≥ 0))) (.undef)), (8, ifA b (aI a1.fRel) (.undef)), (7, ifA b (.ptr 1 1) (.undef))]) 8 (by kernel_rfl) ?_ ?_ ?_
  ·
   intro Q h
   refine sh 4 [(10, aB (decide (a1.fRel ≥ 0))), (9, aB (decide (a1.fRel ≥ 0))), (8, aI a1.fRel), (7, .ptr 1 1)] (by kernel_rfl) ?_
   exact sameN (by kernel_rfl) (by kernel_rfl) h
  ·
   intro Q h
   refine sh 4 [(10, aB false), (9, .undef), (8, .undef), (7, .undef)] (by kernel_rfl) ?_
   exact sameN (by kernel_rfl) (by kernel_rfl) h
  refine sh 1 [(11, aB ((a1.fKind == 1) && (decide (a1.fRel ≥ 0))))] (by kernel_rfl) ?_
  refine seg ((a1.fKind == 1) && (decide (a1.fRel ≥ 0))) [11, 10] (fun b => [(15, aB (b && (decide (a1.fRel < 32)))), (14, ifA b (aB (decide (a1.fRel < 32))) (.undef)), (13, ifA b (aI a1.fRel) (.undef)), (12, ifA b (.ptr 1 1) (.undef))]) 13 (by kernel_rfl) ?_ ?_ ?_
  ·
   intro Q h
   refine sh 4 [(15, aB (decide (a1.fRel < 32))), (14, aB (decide (a1.fRel < 32))), (13, aI a1.fRel), (12, .ptr 1 1)] (by kernel_rfl) ?_
   exact sameN (by kernel_rfl) (by kernel_rfl) h
  ·
   intro Q h
   refine sh 4 [(15, aB false), (14, .undef), (13, .undef), (12, .undef)] (by kernel_rfl) ?_
   exact sameN (by kernel_rfl) (by kernel_rfl) h
  refine fin [(1, .ptr 0 0), (2, .ptr 1 0), (15, aB (((a1.fKind == 1) && (decide (a1.fRel ≥ 0))) && (decide (a1.fRel < 32))))] rfl (by kernel_rfl) ?_
  rcases bif_some hm with ⟨h1, hm⟩ | ⟨h1, hm⟩
  ·
   refine ct h1 (by kernel_rfl) (rg (sh 4 [(19, aU (IntKind.wrap .u64 a1.fRel)), (18, aI a1.fRel), (17, .ptr 1 1), (16, .pv (.int .u32 a0))] (by kernel_rfl) ?_))
   obtain ⟨_, h2, hm⟩ := bs hm
   refine dv 20 (v := .pv (.int .u32 (iShl .u32 1 (IntKind.wrap .u64 a1.fRel)))) (shlO h2 (by kernel_rfl)) (by kernel_rfl) (st 2 [(21, .pv (.int .u32 (iOr .u32 a0 (iShl .u32 1 (IntKind.wrap .u64 a1.fRel)))))] [.box [.pv (.int .u32 (iOr .u32 a0 (iShl .u32 1 (IntKind.wrap .u64 a1.fRel))))] false, .box [aI a1.fKind, aI a1.fRel, .pv (encSl R_E_api_Expr a1.fWhere), .pv (encSl R_E_api_Expr a1.fLeft), .pv (encSl R_E_api_Expr a1.fRight), .pv (encSl R_E_api_Expr a1.fOut), .pv (encSl R_api_Agg a1.fAggs), .pv (encSl R_api_Key a1.fOrder), .pv (encSl R_E_api_Plan a1.fKids)] false] (by kernel_rfl) (fin [] rfl (by kernel_rfl) ?_))
   obtain rfl := Option.some.inj hm
   exact ⟨trivial, .tup [], [.box [.pv (.int .u32 (iOr .u32 a0 (iShl .u32 1 (IntKind.wrap .u64 a1.fRel))))] false], by kernel_rfl, rfl, rfl⟩
  ·
   refine cf h1 (by kernel_rfl) (wp_skip ?_)
   obtain rfl := Option.some.inj hm
   exact ⟨trivial, .tup [], [.box [.pv (.int .u32 a0)] false], by kernel_rfl, rfl, rfl⟩
theorem okf_plan_walk_plan_Rels_1 {rc_plan_walk_plan_Rels_1 : (Nat → Int → api_Plan → Option (Int))} (ih_plan_walk_plan_Rels_1 : ∀ {n : Nat} {a0 : Int} {a1 : api_Plan} {r : Int} (hm : rc_plan_walk_plan_Rels_1 n a0 a1 = some r), ∃ vv H1, call G n 119 [.agg [aI a1.fKind, aI a1.fRel, .pv (encSl R_E_api_Expr a1.fWhere), .pv (encSl R_E_api_Expr a1.fLeft), .pv (encSl R_E_api_Expr a1.fRight), .pv (encSl R_E_api_Expr a1.fOut), .pv (encSl R_api_Agg a1.fAggs), .pv (encSl R_api_Key a1.fOrder), .pv (encSl R_E_api_Plan a1.fKids)], .fn 120 [] [.ptr 0 0]] [.box [.pv (.int .u32 a0)] false] = some (.ret vv, H1) ∧ (match r with | r0 => (vv = .tup [] ∧ H1 = [.box [.pv (.int .u32 r0)] false]))) {n : Nat} {a0 : Int} {a1 : api_Plan} {r : Int} (hm : plan_walk_plan_Rels_1_f rc_plan_walk_plan_Rels_1 n a0 a1 = some r) :
    ∃ vv H1, call G n 119 [.agg [aI a1.fKind, aI a1.fRel, .pv (encSl R_E_api_Expr a1.fWhere), .pv (encSl R_E_api_Expr a1.fLeft), .pv (encSl R_E_api_Expr a1.fRight), .pv (encSl R_E_api_Expr a1.fOut), .pv (encSl R_api_Agg a1.fAggs), .pv (encSl R_api_Key a1.fOrder), .pv (encSl R_E_api_Plan a1.fKids)], .fn 120 [] [.ptr 0 0]] [.box [.pv (.int .u32 a0)] false] = some (.ret vv, H1) ∧ (match r with | r0 => (vv = .tup [] ∧ H1 = [.box [.pv (.int .u32 r0)] false])) := by
  unfold plan_walk_plan_Rels_1_f at hm
  obtain ⟨n, rfl, h0⟩ := at1_some hm
  replace hm := h0; clear h0
  refine callE 20 [(0, .agg [aI a1.fKind, aI a1.fRel, .pv (encSl R_E_api_Expr a1.fWhere), .pv (encSl R_E_api_Expr a1.fLeft), .pv (encSl R_E_api_Expr a1.fRight), .pv (encSl R_E_api_Expr a1.fOut), .pv (encSl R_api_Agg a1.fAggs), .pv (encSl R_api_Key a1.fOrder), .pv (encSl R_E_api_Plan a1.fKids)]), (1, .fn 120 [] [.ptr 0 0])] func119 rfl (by kernel_rfl) (sq (det [(1, .fn 120 [] [.ptr 0 0]), (2, .ptr 1 0)] [.box [.pv (.int .u32 a0)] false, .box [aI a1.fKind, aI a1.fRel, .pv (encSl R_E_api_Expr a1.fWhere), .pv (encSl R_E_api_Expr a1.fLeft), .pv (encSl R_E_api_Expr a1.fRight), .pv (encSl R_E_api_Expr a1.fOut), .pv (encSl R_api_Agg a1.fAggs), .pv (encSl R_api_Key a1.fOrder), .pv (encSl R_E_api_Plan a1.fKids)] false] (by kernel_rfl) ?_))
  obtain ⟨k4, hk4, hm⟩ := withK_some hm
  refine mid (fun t H => (∃ (y1 : Int) (y2 : Bool) (y3 : Int), k4 y1 = some r ∧ t = mk 20 [(1, .fn 120 [] [.ptr 0 0]), (2, .ptr 1 0), (7, .pv (encSl R_E_api_Plan a1.fKids)), (8, aI ((sll a1.fKids).length : Int)), (9, aI y3), (10, aB y2)] ∧ H = [.box [.pv (.int .u32 y1)] false, .box [aI a1.fKind, aI a1.fRel, .pv (encSl R_E_api_Expr a1.fWhere), .pv (encSl R_E_api_Expr a1.fLeft), .pv (encSl R_E_api_Expr a1.fRight), .pv (encSl R_E_api_Expr a1.fOut), .pv (encSl R_api_Agg a1.fAggs), .pv (encSl R_api_Key a1.fOrder), .pv (encSl R_E_api_Plan a1.fKids)] false])) ?_ ?_
  ·
   rintro _ _ ⟨y1, y2, y3, hm, rfl, rfl⟩
   subst hk4
   refine rg (sh 2 [(18, .agg [aI a1.fKind, aI a1.fRel, .pv (encSl R_E_api_Expr a1.fWhere), .pv (encSl R_E_api_Expr a1.fLeft), .pv (encSl R_E_api_Expr a1.fRight), .pv (encSl R_E_api_Expr a1.fOut), .pv (encSl R_api_Agg a1.fAggs), .pv (encSl R_api_Key a1.fOrder), .pv (encSl R_E_api_Plan a1.fKids)]), (17, .fn 120 [] [.ptr 0 0])] (by kernel_rfl) ?_)
   obtain ⟨x6, h5, hm⟩ := bs hm
   obtain ⟨vv, H1, hC, rfl, rfl⟩ := ok_plan_Rels_1 h5
   refine dR [(19, .tup [])] [.box [.pv (.int .u32 x6)] false, .box [aI a1.fKind, aI a1.fRel, .pv (encSl R_E_api_Expr a1.fWhere), .pv (encSl R_E_api_Expr a1.fLeft), .pv (encSl R_E_api_Expr a1.fRight), .pv (encSl R_E_api_Expr a1.fOut), .pv (encSl R_api_Agg a1.fAggs), .pv (encSl R_api_Key a1.fOrder), .pv (encSl R_E_api_Plan a1.fKids)] false] [0] [.agg [aI a1.fKind, aI a1.fRel, .pv (encSl R_E_api_Expr a1.fWhere), .pv (encSl R_E_api_Expr a1.fLeft), .pv (encSl R_E_api_Expr a1.fRight), .pv (encSl R_E_api_Expr a1.fOut), .pv (encSl R_api_Agg a1.fAggs), .pv (encSl R_api_Key a1.fOrder), .pv (encSl R_E_api_Plan a1.fKids)], .ptr 0 0] (by kernel_rfl) (by kernel_rfl) (by kernel_rfl) hC (by kernel_rfl) (fin [] rfl (by kernel_rfl) ?_)
   obtain rfl := Option.some.inj hm
   exact ⟨trivial, .tup [], [.box [.pv (.int .u32 x6)] false], by kernel_rfl, rfl, rfl⟩
  refine sq (rg (sh 2 [(7, .pv (encSl R_E_api_Plan a1.fKids)), (6, .ptr 1 8)] (by kernel_rfl) (dv 8 (v := aI ((sll a1.fKids).length : Int)) (len_slO R_E_api_Plan a1.fKids t57 (by kernel_rfl)) (by kernel_rfl) (sh 1 [(9, aI 0)] (by kernel_rfl) (fin [(1, .fn 120 [] [.ptr 0 0]), (2, .ptr 1 0), (7, .pv (encSl R_E_api_Plan a1.fKids)), (8, aI ((sll a1.fKids).length : Int)), (9, aI 0)] rfl (by kernel_rfl) (bq ?_))))))
  refine loopF (fun mm t H => (∃ (y9 : Int) (y10 : Int), plan_walk_plan_Rels_1_l2 n rc_plan_walk_plan_Rels_1 a1 k4 mm y9 y10 = some r ∧ t = mk 20 [(1, .fn 120 [] [.ptr 0 0]), (2, .ptr 1 0), (7, .pv (encSl R_E_api_Plan a1.fKids)), (8, aI ((sll a1.fKids).length : Int)), (9, aI y10)] ∧ H = [.box [.pv (.int .u32 y9)] false, .box [aI a1.fKind, aI a1.fRel, .pv (encSl R_E_api_Expr a1.fWhere), .pv (encSl R_E_api_Expr a1.fLeft), .pv (encSl R_E_api_Expr a1.fRight), .pv (encSl R_E_api_Expr a1.fOut), .pv (encSl R_api_Agg a1.fAggs), .pv (encSl R_api_Key a1.fOrder), .pv (encSl R_E_api_Plan a1.fKids)] false])) (⟨a0, 0, hm, rfl, rfl⟩) ?_ ?_
  · rintro _ _ ⟨y9, y10, hm, _⟩; exact nomatch hm
  rintro m11 _ _ ⟨y9, y10, hm, rfl, rfl⟩
  simp only [plan_walk_plan_Rels_1_l2] at hm
  refine sq (detn [(1, .fn 120 [] [.ptr 0 0]), (2, .ptr 1 0), (7, .pv (encSl R_E_api_Plan a1.fKids)), (8, aI ((sll a1.fKids).length : Int)), (9, aI y10), (10, aB (decide (y10 < ((sll a1.fKids).length : Int))))] (by kernel_rfl) ?_)
  refine sq ?_
  rcases bif_some hm with ⟨h12, hm⟩ | ⟨h12, hm⟩
  ·
   refine ct h12 (by kernel_rfl) (wp_skip (sq (bq (sq (rg ?_)))))
   obtain ⟨x13, h14, hm⟩ := bs hm
   refine dv 11 (v := .pv (.ptr (R_api_Plan (un_api_Plan x13)) 0)) (ia_slE R_E_api_Plan a1.fKids .i64 t57 t59 h14 (R_un_api_Plan x13) rfl (by kernel_rfl)) (by kernel_rfl) (st 3 [(5, .ptr 2 0), (12, .agg [aI ((un_api_Plan x13).fKind), aI ((un_api_Plan x13).fRel), .pv (encSl R_E_api_Expr ((un_api_Plan x13).fWhere)), .pv (encSl R_E_api_Expr ((un_api_Plan x13).fLeft)), .pv (encSl R_E_api_Expr ((un_api_Plan x13).fRight)), .pv (encSl R_E_api_Expr ((un_api_Plan x13).fOut)), .pv (encSl R_api_Agg ((un_api_Plan x13).fAggs)), .pv (encSl R_api_Key ((un_api_Plan x13).fOrder)), .pv (encSl R_E_api_Plan ((un_api_Plan x13).fKids))])] [.box [.pv (.int .u32 y9)] false, .box [aI a1.fKind, aI a1.fRel, .pv (encSl R_E_api_Expr a1.fWhere), .pv (encSl R_E_api_Expr a1.fLeft), .pv (encSl R_E_api_Expr a1.fRight), .pv (encSl R_E_api_Expr a1.fOut), .pv (encSl R_api_Agg a1.fAggs), .pv (encSl R_api_Key a1.fOrder), .pv (encSl R_E_api_Plan a1.fKids)] false, .box [aI ((un_api_Plan x13).fKind), aI ((un_api_Plan x13).fRel), .pv (encSl R_E_api_Expr ((un_api_Plan x13).fWhere)), .pv (encSl R_E_api_Expr ((un_api_Plan x13).fLeft)), .pv (encSl R_E_api_Expr ((un_api_Plan x13).fRight)), .pv (encSl R_E_api_Expr ((un_api_Plan x13).fOut)), .pv (encSl R_api_Agg ((un_api_Plan x13).fAggs)), .pv (encSl R_api_Key ((un_api_Plan x13).fOrder)), .pv (encSl R_E_api_Plan ((un_api_Plan x13).fKids))] false] (by kernel_rfl) (fin [(1, .fn 120 [] [.ptr 0 0]), (2, .ptr 1 0), (5, .ptr 2 0), (7, .pv (encSl R_E_api_Plan a1.fKids)), (8, aI ((sll a1.fKids).length : Int)), (9, aI y10)] rfl (by kernel_rfl) (rg (sh 2 [(14, .fn 120 [] [.ptr 0 0]), (13, .agg [aI ((un_api_Plan x13).fKind), aI ((un_api_Plan x13).fRel), .pv (encSl R_E_api_Expr ((un_api_Plan x13).fWhere)), .pv (encSl R_E_api_Expr ((un_api_Plan x13).fLeft)), .pv (encSl R_E_api_Expr ((un_api_Plan x13).fRight)), .pv (encSl R_E_api_Expr ((un_api_Plan x13).fOut)), .pv (encSl R_api_Agg ((un_api_Plan x13).fAggs)), .pv (encSl R_api_Key ((un_api_Plan x13).fOrder)), .pv (encSl R_E_api_Plan ((un_api_Plan x13).fKids))])] (by kernel_rfl) ?_))))
   obtain ⟨x16, h15, hm⟩ := bs hm
   obtain ⟨vv, H1, hC, rfl, rfl⟩ := ih_plan_walk_plan_Rels_1 h15
   refine dR [(15, .tup [])] [.box [.pv (.int .u32 x16)] false, .box [aI a1.fKind, aI a1.fRel, .pv (encSl R_E_api_Expr a1.fWhere), .pv (encSl R_E_api_Expr a1.fLeft), .pv (encSl R_E_api_Expr a1.fRight), .pv (encSl R_E_api_Expr a1.fOut), .pv (encSl R_api_Agg a1.fAggs), .pv (encSl R_api_Key a1.fOrder), .pv (encSl R_E_api_Plan a1.fKids)] false, .box [aI ((un_api_Plan x13).fKind), aI ((un_api_Plan x13).fRel), .pv (encSl R_E_api_Expr ((un_api_Plan x13).fWhere)), .pv (encSl R_E_api_Expr ((un_api_Plan x13).fLeft)), .pv (encSl R_E_api_Expr ((un_api_Plan x13).fRight)), .pv (encSl R_E_api_Expr ((un_api_Plan x13).fOut)), .pv (encSl R_api_Agg ((un_api_Plan x13).fAggs)), .pv (encSl R_api_Key ((un_api_Plan x13).fOrder)), .pv (encSl R_E_api_Plan ((un_api_Plan x13).fKids))] false] [0] [.agg [aI ((un_api_Plan x13).fKind), aI ((un_api_Plan x13).fRel), .pv (encSl R_E_api_Expr ((un_api_Plan x13).fWhere)), .pv (encSl R_E_api_Expr ((un_api_Plan x13).fLeft)), .pv (encSl R_E_api_Expr ((un_api_Plan x13).fRight)), .pv (encSl R_E_api_Expr ((un_api_Plan x13).fOut)), .pv (encSl R_api_Agg ((un_api_Plan x13).fAggs)), .pv (encSl R_api_Key ((un_api_Plan x13).fOrder)), .pv (encSl R_E_api_Plan ((un_api_Plan x13).fKids))], .fn 120 [] [.ptr 0 0]] (by kernel_rfl) (by kernel_rfl) (by kernel_rfl) hC (by kernel_rfl) (fin [(1, .fn 120 [] [.ptr 0 0]), (2, .ptr 1 0), (7, .pv (encSl R_E_api_Plan a1.fKids)), (8, aI ((sll a1.fKids).length : Int)), (9, aI y10)] rfl (by kernel_rfl) (detn [(1, .fn 120 [] [.ptr 0 0]), (2, .ptr 1 0), (7, .pv (encSl R_E_api_Plan a1.fKids)), (8, aI ((sll a1.fKids).length : Int)), (9, aI (IntKind.wrap .i64 (y10 + 1)))] (by kernel_rfl) ?_))
   exact ⟨_, _, tidyL [(1, .fn 120 [] [.ptr 0 0]), (2, .ptr 1 0), (7, .pv (encSl R_E_api_Plan a1.fKids)), (8, aI ((sll a1.fKids).length : Int)), (9, aI (IntKind.wrap .i64 (y10 + 1)))] [.box [.pv (.int .u32 x16)] false, .box [aI a1.fKind, aI a1.fRel, .pv (encSl R_E_api_Expr a1.fWhere), .pv (encSl R_E_api_Expr a1.fLeft), .pv (encSl R_E_api_Expr a1.fRight), .pv (encSl R_E_api_Expr a1.fOut), .pv (encSl R_api_Agg a1.fAggs), .pv (encSl R_api_Key a1.fOrder), .pv (encSl R_E_api_Plan a1.fKids)] false] (by kernel_rfl), ⟨x16, (IntKind.wrap .i64 (y10 + 1)), hm, rfl, rfl⟩⟩
  ·
   refine cf h12 (by kernel_rfl) (wp_exit ?_)
   exact ⟨y9, (decide (y10 < ((sll a1.fKids).length : Int))), y10, hm, rfl, rfl⟩
theorem okt_plan_walk_plan_Rels_1 : ∀ (m : Nat), ∀ {n : Nat} {a0 : Int} {a1 : api_Plan} {r : Int} (hm : plan_walk_plan_Rels_1_t m n a0 a1 = some r), ∃ vv H1, call G n 119 [.agg [aI a1.fKind, aI a1.fRel, .pv (encSl R_E_api_Expr a1.fWhere), .pv (encSl R_E_api_Expr a1.fLeft), .pv (encSl R_E_api_Expr a1.fRight), .pv (encSl R_E_api_Expr a1.fOut), .pv (encSl R_api_Agg a1.fAggs), .pv (encSl R_api_Key a1.fOrder), .pv (encSl R_E_api_Plan a1.fKids)], .fn 120 [] [.ptr 0 0]] [.box [.pv (.int .u32 a0)] false] = some (.ret vv, H1) ∧ (match r with | r0 => (vv = .tup [] ∧ H1 = [.box [.pv (.int .u32 r0)] false]))
  | 0 => by intros; rename_i hm; exact nomatch hm
  | m + 1 => fun hm =>
    okf_plan_walk_plan_Rels_1 (okt_plan_walk_plan_Rels_1 m) hm
theorem ok_plan_walk_plan_Rels_1 {n : Nat} {a0 : Int} {a1 : api_Plan} {r : Int} (hm : plan_walk_plan_Rels_1 n a0 a1 = some r) :
    ∃ vv H1, call G n 119 [.agg [aI a1.fKind, aI a1.fRel, .pv (encSl R_E_api_Expr a1.fWhere), .pv (encSl R_E_api_Expr a1.fLeft), .pv (encSl R_E_api_Expr a1.fRight), .pv (encSl R_E_api_Expr a1.fOut), .pv (encSl R_api_Agg a1.fAggs), .pv (encSl R_api_Key a1.fOrder), .pv (encSl R_E_api_Plan a1.fKids)], .fn 120 [] [.ptr 0 0]] [.box [.pv (.int .u32 a0)] false] = some (.ret vv, H1) ∧ (match r with | r0 => (vv = .tup [] ∧ H1 = [.box [.pv (.int .u32 r0)] false])) := okt_plan_walk_plan_Rels_1 n hm
theorem ok_plan_Rels {n : Nat} {a0 : api_Plan} {r : Int} (hm : plan_Rels n a0 = some r) :
    call G n 110 [.agg [aI a0.fKind, aI a0.fRel, .pv (encSl R_E_api_Expr a0.fWhere), .pv (encSl R_E_api_Expr a0.fLeft), .pv (encSl R_E_api_Expr a0.fRight), .pv (encSl R_E_api_Expr a0.fOut), .pv (encSl R_api_Agg a0.fAggs), .pv (encSl R_api_Key a0.fOrder), .pv (encSl R_E_api_Plan a0.fKids)]] [] = some (.ret (.pv (.int .u32 r)), []) := by
  unfold plan_Rels at hm
  obtain ⟨n, rfl, h0⟩ := at1_some hm
  replace hm := h0; clear h0
  refine callL 8 [(0, .agg [aI a0.fKind, aI a0.fRel, .pv (encSl R_E_api_Expr a0.fWhere), .pv (encSl R_E_api_Expr a0.fLeft), .pv (encSl R_E_api_Expr a0.fRight), .pv (encSl R_E_api_Expr a0.fOut), .pv (encSl R_api_Agg a0.fAggs), .pv (encSl R_api_Key a0.fOrder), .pv (encSl R_E_api_Plan a0.fKids)])] func110 rfl (by kernel_rfl) (sq (det [(1, .ptr 0 0)] [.box [aI a0.fKind, aI a0.fRel, .pv (encSl R_E_api_Expr a0.fWhere), .pv (encSl R_E_api_Expr a0.fLeft), .pv (encSl R_E_api_Expr a0.fRight), .pv (encSl R_E_api_Expr a0.fOut), .pv (encSl R_api_Agg a0.fAggs), .pv (encSl R_api_Key a0.fOrder), .pv (encSl R_E_api_Plan a0.fKids)] false] (by kernel_rfl) (sq (det [(1, .ptr 0 0), (3, .ptr 1 0)] [.box [aI a0.fKind, aI a0.fRel, .pv (encSl R_E_api_Expr a0.fWhere), .pv (encSl R_E_api_Expr a0.fLeft), .pv (encSl R_E_api_Expr a0.fRight), .pv (encSl R_E_api_Expr a0.fOut), .pv (encSl R_api_Agg a0.fAggs), .pv (encSl R_api_Key a0.fOrder), .pv (encSl R_E_api_Plan a0.fKids)] false, .box [.pv (.int .u32 0)] false] (by kernel_rfl) (sq (rg (sh 2 [(5, .fn 120 [] [.ptr 1 0]), (4, .agg [aI a0.fKind, aI a0.fRel, .pv (encSl R_E_api_Expr a0.fWhere), .pv (encSl R_E_api_Expr a0.fLeft), .pv (encSl R_E_api_Expr a0.fRight), .pv (encSl R_E_api_Expr a0.fOut), .pv (encSl R_api_Agg a0.fAggs), .pv (encSl R_api_Key a0.fOrder), .pv (encSl R_E_api_Plan a0.fKids)])] (by kernel_rfl) ?_)))))))
  obtain ⟨x2, h1, hm⟩ := bs hm
  obtain ⟨vv, H1, hC, rfl, rfl⟩ := ok_plan_walk_plan_Rels_1 h1
  refine dR [(6, .tup [])] [.box [aI a0.fKind, aI a0.fRel, .pv (encSl R_E_api_Expr a0.fWhere), .pv (encSl R_E_api_Expr a0.fLeft), .pv (encSl R_E_api_Expr a0.fRight), .pv (encSl R_E_api_Expr a0.fOut), .pv (encSl R_api_Agg a0.fAggs), .pv (encSl R_api_Key a0.fOrder), .pv (encSl R_E_api_Plan a0.fKids)] false, .box [.pv (.int .u32 x2)] false] [1] [.agg [aI a0.fKind, aI a0.fRel, .pv (encSl R_E_api_Expr a0.fWhere), .pv (encSl R_E_api_Expr a0.fLeft), .pv (encSl R_E_api_Expr a0.fRight), .pv (encSl R_E_api_Expr a0.fOut), .pv (encSl R_api_Agg a0.fAggs), .pv (encSl R_api_Key a0.fOrder), .pv (encSl R_E_api_Plan a0.fKids)], .fn 120 [] [.ptr 1 0]] (by kernel_rfl) (by kernel_rfl) (by kernel_rfl) hC (by kernel_rfl) (fin [(3, .ptr 1 0)] rfl (by kernel_rfl) (sq (detn [(2, .pv (.int .u32 x2))] (by kernel_rfl) (wp_ret ?_))))
  obtain rfl := Option.some.inj hm
  exact ⟨trivial, by kernel_rfl⟩
theorem ok__cost_coster_card {n : Nat} {a0 : cost_coster} {a1 : api_Plan} {r : Int} (hm : _cost_coster_card n a0 a1 = some r) :
    call G n 88 [.agg [.pv (encSl R_E_api_Expr a0.fwhere), .pv (encSl R_stat_Stat a0.fstats)], .agg [aI a1.fKind, aI a1.fRel, .pv (encSl R_E_api_Expr a1.fWhere), .pv (encSl R_E_api_Expr a1.fLeft), .pv (encSl R_E_api_Expr a1.fRight), .pv (encSl R_E_api_Expr a1.fOut), .pv (encSl R_api_Agg a1.fAggs), .pv (encSl R_api_Key a1.fOrder), .pv (encSl R_E_api_Plan a1.fKids)]] [] = some (.ret (aU r), []) := by
  unfold _cost_coster_card at hm
  obtain ⟨n, rfl, h0⟩ := at1_some hm
  replace hm := h0; clear h0
  refine callL 12 [(0, .agg [.pv (encSl R_E_api_Expr a0.fwhere), .pv (encSl R_stat_Stat a0.fstats)]), (1, .agg [aI a1.fKind, aI a1.fRel, .pv (encSl R_E_api_Expr a1.fWhere), .pv (encSl R_E_api_Expr a1.fLeft), .pv (encSl R_E_api_Expr a1.fRight), .pv (encSl R_E_api_Expr a1.fOut), .pv (encSl R_api_Agg a1.fAggs), .pv (encSl R_api_Key a1.fOrder), .pv (encSl R_E_api_Plan a1.fKids)])] func88 rfl (by kernel_rfl) (sq (det [(2, .ptr 0 0), (3, .ptr 1 0)] [.box [.pv (encSl R_E_api_Expr a0.fwhere), .pv (encSl R_stat_Stat a0.fstats)] false, .box [aI a1.fKind, aI a1.fRel, .pv (encSl R_E_api_Expr a1.fWhere), .pv (encSl R_E_api_Expr a1.fLeft), .pv (encSl R_E_api_Expr a1.fRight), .pv (encSl R_E_api_Expr a1.fOut), .pv (encSl R_api_Agg a1.fAggs), .pv (encSl R_api_Key a1.fOrder), .pv (encSl R_E_api_Plan a1.fKids)] false] (by kernel_rfl) (sq (rgd (shd 5 [(9, .agg [aI a1.fKind, aI a1.fRel, .pv (encSl R_E_api_Expr a1.fWhere), .pv (encSl R_E_api_Expr a1.fLeft), .pv (encSl R_E_api_Expr a1.fRight), .pv (encSl R_E_api_Expr a1.fOut), .pv (encSl R_api_Agg a1.fAggs), .pv (encSl R_api_Key a1.fOrder), .pv (encSl R_E_api_Plan a1.fKids)]), (8, .pv (encSl R_stat_Stat a0.fstats)), (7, .ptr 0 1), (6, .pv (encSl R_E_api_Expr a0.fwhere)), (5, .ptr 0 0)] (by kernel_rfl) ?_)))))
  obtain ⟨x1, h2, hm⟩ := bs hm
  refine dvd 10 (cpure (by kernel_rfl) (ok_plan_Rels h2) (by kernel_rfl) (by kernel_rfl) (by kernel_rfl)) (by kernel_rfl) ?_
  obtain ⟨x3, h4, hm⟩ := bs hm
  refine dvd 11 (cpure (by kernel_rfl) (ok_guess_Card h4) (by kernel_rfl) (by kernel_rfl) (by kernel_rfl)) (by kernel_rfl) (shd 1 [(4, aU x3)] (by kernel_rfl) (find [(4, aU x3)] rfl (by kernel_rfl) (by kernel_rfl) (wp_ret ?_)))
  obtain rfl := Option.some.inj hm
  exact ⟨trivial, by kernel_rfl⟩
theorem ok_cost_Scan {n : Nat} {a0 : Int} {a1 : Int} {r : Int} (hm : cost_Scan n a0 a1 = some r) :
    call G n 52 [aU a0, aU a1] [] = some (.ret (aU r), []) := by
  unfold cost_Scan at hm
  obtain ⟨n, rfl, h0⟩ := at1_some hm
  replace hm := h0; clear h0
  refine callL 9 [(0, aU a0), (1, aU a1)] func52 rfl (by kernel_rfl) (sq (detn [(0, aU a0), (1, aU a1)] (by kernel_rfl) (sq (rg (sh 1 [(5, aU a0)] (by kernel_rfl) ?_)))))
  obtain ⟨x1, h2, hm⟩ := bs hm
  refine dv 6 (cpure (by kernel_rfl) (ok_fixed_Mul h2) (by kernel_rfl) (by kernel_rfl) (by kernel_rfl)) (by kernel_rfl) (sh 1 [(7, aU a1)] (by kernel_rfl) ?_)
  obtain ⟨x3, h4, hm⟩ := bs hm
  refine dv 8 (cpure (by kernel_rfl) (ok_fixed_Add h4) (by kernel_rfl) (by kernel_rfl) (by kernel_rfl)) (by kernel_rfl) (sh 1 [(4, aU x3)] (by kernel_rfl) (fin [(4, aU x3)] rfl (by kernel_rfl) (wp_ret ?_)))
  obtain rfl := Option.some.inj hm
  exact ⟨trivial, by kernel_rfl⟩
theorem ok_fixed_Sum {n : Nat} {a0 : (Option (List Int))} {r : Int} (hm : fixed_Sum n a0 = some r) :
    call G n 83 [.pv (encSl (rI .u64) a0)] [] = some (.ret (aU r), []) := by
  unfold fixed_Sum at hm
  obtain ⟨n, rfl, h0⟩ := at1_some hm
  replace hm := h0; clear h0
  refine callL 17 [(0, .pv (encSl (rI .u64) a0))] func83 rfl (by kernel_rfl) (sq (detn [(0, .pv (encSl (rI .u64) a0))] (by kernel_rfl) (sq (detn [(0, .pv (encSl (rI .u64) a0)), (3, aU 0)] (by kernel_rfl) ?_))))
  obtain ⟨k4, hk4, hm⟩ := withK_some hm
  refine mid (fun t H => (∃ (y1 : Int) (y2 : Int) (y3 : Bool), k4 y1 = some r ∧ t = mk 17 [(3, aU y1), (6, .pv (encSl (rI .u64) a0)), (7, aI ((sll a0).length : Int)), (8, aI y2), (9, aB y3)] ∧ H = [])) ?_ ?_
  ·
   rintro _ _ ⟨y1, y2, y3, hm, rfl, rfl⟩
   subst hk4
   refine sq (detn [(2, aU y1)] (by kernel_rfl) (wp_ret ?_))
   obtain rfl := Option.some.inj hm
   exact ⟨trivial, by kernel_rfl⟩
  refine sq (rg (sh 1 [(6, .pv (encSl (rI .u64) a0))] (by kernel_rfl) (dv 7 (v := aI ((sll a0).length : Int)) (len_slO (rI .u64) a0 t139 (by kernel_rfl)) (by kernel_rfl) (sh 1 [(8, aI 0)] (by kernel_rfl) (fin [(3, aU 0), (6, .pv (encSl (rI .u64) a0)), (7, aI ((sll a0).length : Int)), (8, aI 0)] rfl (by kernel_rfl) (bq ?_))))))
  refine loopF (fun mm t H => (∃ (y7 : Int) (y8 : Int), fixed_Sum_l3 n a0 k4 mm y7 y8 = some r ∧ t = mk 17 [(3, aU y7), (6, .pv (encSl (rI .u64) a0)), (7, aI ((sll a0).length : Int)), (8, aI y8)] ∧ H = [])) (⟨0, 0, hm, rfl, rfl⟩) ?_ ?_
  · rintro _ _ ⟨y7, y8, hm, _⟩; exact nomatch hm
  rintro m9 _ _ ⟨y7, y8, hm, rfl, rfl⟩
  simp only [fixed_Sum_l3] at hm
  refine sq (detn [(3, aU y7), (6, .pv (encSl (rI .u64) a0)), (7, aI ((sll a0).length : Int)), (8, aI y8), (9, aB (decide (y8 < ((sll a0).length : Int))))] (by kernel_rfl) ?_)
  refine sq ?_
  rcases bif_some hm with ⟨h10, hm⟩ | ⟨h10, hm⟩
  ·
   refine ct h10 (by kernel_rfl) (wp_skip (sq (bq (sq (rg ?_)))))
   obtain ⟨x11, h12, hm⟩ := bs hm
   refine dv 10 (v := .pv (.ptr ((rI .u64) x11) 0)) (ia_slO (rI .u64) a0 .i64 t139 t50 h12 rfl (by kernel_rfl)) (by kernel_rfl) (sh 2 [(5, aU x11), (11, aU x11)] (by kernel_rfl) (fin [(3, aU y7), (5, aU x11), (6, .pv (encSl (rI .u64) a0)), (7, aI ((sll a0).length : Int)), (8, aI y8)] rfl (by kernel_rfl) (rg (sh 2 [(13, aU x11), (12, aU y7)] (by kernel_rfl) ?_))))
   obtain ⟨x13, h14, hm⟩ := bs hm
   refine dv 14 (cpure (by kernel_rfl) (ok_fixed_Add h14) (by kernel_rfl) (by kernel_rfl) (by kernel_rfl)) (by kernel_rfl) (sh 1 [(3, aU x13)] (by kernel_rfl) (fin [(3, aU x13), (6, .pv (encSl (rI .u64) a0)), (7, aI ((sll a0).length : Int)), (8, aI y8)] rfl (by kernel_rfl) (detn [(3, aU x13), (6, .pv (encSl (rI .u64) a0)), (7, aI ((sll a0).length : Int)), (8, aI (IntKind.wrap .i64 (y8 + 1)))] (by kernel_rfl) ?_)))
   exact ⟨_, _, tidyL [(3, aU x13), (6, .pv (encSl (rI .u64) a0)), (7, aI ((sll a0).length : Int)), (8, aI (IntKind.wrap .i64 (y8 + 1)))] [] (by kernel_rfl), ⟨x13, (IntKind.wrap .i64 (y8 + 1)), hm, rfl, rfl⟩⟩
  ·
   refine cf h10 (by kernel_rfl) (wp_exit ?_)
   exact ⟨y7, y8, (decide (y8 < ((sll a0).length : Int))), hm, rfl, rfl⟩
theorem ok_fixed_Log {n : Nat} {a0 : Int} {r : Int} (hm : fixed_Log n a0 = some r) :
    call G n 84 [aU a0] [] = some (.ret (aU r), []) := by
  unfold fixed_Log at hm
  obtain ⟨n, rfl, h0⟩ := at1_some hm
  replace hm := h0; clear h0
  refine callL 6 [(0, aU a0)] func84 rfl (by kernel_rfl) (sq (detn [(0, aU a0)] (by kernel_rfl) (sq (rg (sh 1 [(3, aU a0)] (by kernel_rfl) ?_)))))
  obtain ⟨x1, h2, hm⟩ := bs hm
  refine dv 4 (cpure (by kernel_rfl) (ok_math_bits_Len64 h2) (by kernel_rfl) (by kernel_rfl) (by kernel_rfl)) (by kernel_rfl) (sh 2 [(2, aU (IntKind.wrap .u64 x1)), (5, aU (IntKind.wrap .u64 x1))] (by kernel_rfl) (fin [(2, aU (IntKind.wrap .u64 x1))] rfl (by kernel_rfl) (wp_ret ?_)))
  obtain rfl := Option.some.inj hm
  exact ⟨trivial, by kernel_rfl⟩
theorem ok_cost_Sort {n : Nat} {a0 : Int} {r : Int} (hm : cost_Sort n a0 = some r) :
    call G n 54 [aU a0] [] = some (.ret (aU r), []) := by
  unfold cost_Sort at hm
  obtain ⟨n, rfl, h0⟩ := at1_some hm
  replace hm := h0; clear h0
  refine callL 9 [(0, aU a0)] func54 rfl (by kernel_rfl) (sq (detn [(0, aU a0)] (by kernel_rfl) (sq (rg (sh 3 [(5, aU (IntKind.wrap .u64 (Int.tdiv a0 256))), (4, aU a0), (3, aU a0)] (by kernel_rfl) ?_)))))
  obtain ⟨x1, h2, hm⟩ := bs hm
  refine dv 6 (cpure (by kernel_rfl) (ok_fixed_Log h2) (by kernel_rfl) (by kernel_rfl) (by kernel_rfl)) (by kernel_rfl) (sh 1 [(7, aU (if 1 > x1 then 1 else x1))] (by kernel_rfl) ?_)
  obtain ⟨x3, h4, hm⟩ := bs hm
  refine dv 8 (cpure (by kernel_rfl) (ok_fixed_Mul h4) (by kernel_rfl) (by kernel_rfl) (by kernel_rfl)) (by kernel_rfl) (sh 1 [(2, aU x3)] (by kernel_rfl) (fin [(2, aU x3)] rfl (by kernel_rfl) (wp_ret ?_)))
  obtain rfl := Option.some.inj hm
  exact ⟨trivial, by kernel_rfl⟩
theorem ok_cost_Join {n : Nat} {a0 : Int} {a1 : Int} {a2 : Int} {a3 : Int} {a4 : Int} {a5 : Int} {r : Int} (hm : cost_Join n a0 a1 a2 a3 a4 a5 = some r) :
    call G n 53 [aI a0, aU a1, aU a2, aU a3, aU a4, aU a5] [] = some (.ret (aU r), []) := by
  unfold cost_Join at hm
  obtain ⟨n, rfl, h0⟩ := at1_some hm
  replace hm := h0; clear h0
  refine callL 40 [(0, aI a0), (1, aU a1), (2, aU a2), (3, aU a3), (4, aU a4), (5, aU a5)] func53 rfl (by kernel_rfl) (sq (detn [(0, aI a0), (1, aU a1), (2, aU a2), (3, aU a3), (4, aU a4), (5, aU a5)] (by kernel_rfl) (sq (detn [(0, aI a0), (1, aU a1), (2, aU a2), (3, aU a3), (4, aU a4), (5, aU a5)] (by kernel_rfl) ?_))))
  obtain ⟨k2, hk2, hm⟩ := withK_some hm
  refine mid (fun t H => (∃ (y1 : Int), k2 y1 = some r ∧ t = mk 40 [(1, aU a1), (2, aU a2), (5, aU a5), (13, aU y1)] ∧ H = []) ∨ (∃ (y1 : Int), k2 y1 = some r ∧ t = mk 40 [(1, aU a1), (2, aU a2), (5, aU a5), (13, aU y1)] ∧ H = [bR 50 1 (rI .u64) ([a3, a4, a4, 4096] : List Int) 0 0])) ?_ ?_
  ·
   rintro _ _ (⟨y1, hm, rfl, rfl⟩ | ⟨y1, hm, rfl, rfl⟩)
   ·
    subst hk2
    refine sq (rg (st 5 [(38, aR 0 1 4), (37, aU y1), (36, aU a5), (35, aU a2), (34, aU a1)] [bR 50 1 (rI .u64) ([a1, a2, a5, y1] : List Int) 0 0] (by kernel_rfl) ?_))
    obtain ⟨x3, h4, hm⟩ := bs hm
    refine dO [(39, aU x3)] [bR 50 1 (rI .u64) ([a1, a2, a5, y1] : List Int) 0 0] (cpureR [0] [aR 0 1 4] (fl := true) (by kernel_rfl) (by kernel_rfl) (by kernel_rfl) (ok_fixed_Sum h4) (by kernel_rfl) (by kernel_rfl)) (by kernel_rfl) (sh 1 [(12, aU x3)] (by kernel_rfl) (fin [(12, aU x3)] rfl (by kernel_rfl) (wp_ret ?_)))
    obtain rfl := Option.some.inj hm
    exact ⟨trivial, by kernel_rfl⟩
   ·
    subst hk2
    refine sq (rg (st 5 [(38, aR 1 1 4), (37, aU y1), (36, aU a5), (35, aU a2), (34, aU a1)] [bR 50 1 (rI .u64) ([a3, a4, a4, 4096] : List Int) 0 0, bR 50 1 (rI .u64) ([a1, a2, a5, y1] : List Int) 0 0] (by kernel_rfl) ?_))
    obtain ⟨x3, h4, hm⟩ := bs hm
    refine dO [(39, aU x3)] [bR 50 1 (rI .u64) ([a3, a4, a4, 4096] : List Int) 0 0, bR 50 1 (rI .u64) ([a1, a2, a5, y1] : List Int) 0 0] (cpureR [1] [aR 1 1 4] (fl := true) (by kernel_rfl) (by kernel_rfl) (by kernel_rfl) (ok_fixed_Sum h4) (by kernel_rfl) (by kernel_rfl)) (by kernel_rfl) (sh 1 [(12, aU x3)] (by kernel_rfl) (fin [(12, aU x3)] rfl (by kernel_rfl) (wp_ret ?_)))
    obtain rfl := Option.some.inj hm
    exact ⟨trivial, by kernel_rfl⟩
  refine sq (detn [(1, aU a1), (2, aU a2), (3, aU a3), (4, aU a4), (5, aU a5), (14, aI a0)] (by kernel_rfl) (bq (sq (detn [(1, aU a1), (2, aU a2), (3, aU a3), (4, aU a4), (5, aU a5), (14, aI a0), (15, aB (a0 == 2))] (by kernel_rfl) ?_))))
  rcases bif_some hm with ⟨h5, hm⟩ | ⟨h5, hm⟩
  ·
   refine ct h5 (by kernel_rfl) (rg (sh 2 [(18, aU a4), (17, aU a3)] (by kernel_rfl) ?_))
   obtain ⟨x6, h7, hm⟩ := bs hm
   refine dv 19 (cpure (by kernel_rfl) (ok_fixed_Share h7) (by kernel_rfl) (by kernel_rfl) (by kernel_rfl)) (by kernel_rfl) (sh 1 [(13, aU x6)] (by kernel_rfl) (fin [(1, aU a1), (2, aU a2), (5, aU a5), (13, aU x6)] rfl (by kernel_rfl) ?_))
   exact .inl ⟨x6, hm, rfl, rfl⟩
  ·
   refine cf h5 (by kernel_rfl) (sq (detn [(1, aU a1), (2, aU a2), (3, aU a3), (4, aU a4), (5, aU a5), (14, aI a0), (20, aB (a0 == 3))] (by kernel_rfl) ?_))
   rcases bif_some hm with ⟨h8, hm⟩ | ⟨h8, hm⟩
   ·
    refine ct h8 (by kernel_rfl) (rg (st 4 [(25, aR 0 1 4), (24, aU a4), (23, aU a4), (22, aU a3)] [bR 50 1 (rI .u64) ([a3, a4, a4, 4096] : List Int) 0 0] (by kernel_rfl) ?_))
    obtain ⟨x9, h10, hm⟩ := bs hm
    refine dO [(26, aU x9)] [bR 50 1 (rI .u64) ([a3, a4, a4, 4096] : List Int) 0 0] (cpureR [0] [aR 0 1 4] (fl := true) (by kernel_rfl) (by kernel_rfl) (by kernel_rfl) (ok_fixed_Sum h10) (by kernel_rfl) (by kernel_rfl)) (by kernel_rfl) (sh 1 [(13, aU x9)] (by kernel_rfl) (fin [(1, aU a1), (2, aU a2), (5, aU a5), (13, aU x9)] rfl (by kernel_rfl) ?_))
    exact .inr (⟨x9, hm, rfl, rfl⟩)
   ·
    refine cf h8 (by kernel_rfl) (sq (detn [(1, aU a1), (2, aU a2), (3, aU a3), (4, aU a4), (5, aU a5), (27, aB (a0 == 4))] (by kernel_rfl) ?_))
    rcases bif_some hm with ⟨h11, hm⟩ | ⟨h11, hm⟩
    ·
     refine ct h11 (by kernel_rfl) (rg (sh 1 [(29, aU a3)] (by kernel_rfl) ?_))
     obtain ⟨x12, h13, hm⟩ := bs hm
     refine dv 30 (cpure (by kernel_rfl) (ok_cost_Sort h13) (by kernel_rfl) (by kernel_rfl) (by kernel_rfl)) (by kernel_rfl) (sh 1 [(31, aU a4)] (by kernel_rfl) ?_)
     obtain ⟨x14, h15, hm⟩ := bs hm
     refine dv 32 (cpure (by kernel_rfl) (ok_cost_Sort h15) (by kernel_rfl) (by kernel_rfl) (by kernel_rfl)) (by kernel_rfl) ?_
     obtain ⟨x16, h17, hm⟩ := bs hm
     refine dv 33 (cpure (by kernel_rfl) (ok_fixed_Add h17) (by kernel_rfl) (by kernel_rfl) (by kernel_rfl)) (by kernel_rfl) (sh 1 [(13, aU x16)] (by kernel_rfl) (fin [(1, aU a1), (2, aU a2), (5, aU a5), (13, aU x16)] rfl (by kernel_rfl) ?_))
     exact .inl ⟨x16, hm, rfl, rfl⟩
    ·
     refine cf h11 (by kernel_rfl) (sq (detn [(12, aU 18446744073709551615)] (by kernel_rfl) (wp_ret ?_)))
     obtain rfl := Option.some.inj hm
     exact ⟨trivial, by kernel_rfl⟩
theorem okf__cost_coster_of {rc__cost_coster_of : (Nat → cost_coster → api_Plan → Option (Int))} (ih__cost_coster_of : ∀ {n : Nat} {a0 : cost_coster} {a1 : api_Plan} {r : Int} (hm : rc__cost_coster_of n a0 a1 = some r), call G n 57 [.agg [.pv (encSl R_E_api_Expr a0.fwhere), .pv (encSl R_stat_Stat a0.fstats)], .agg [aI a1.fKind, aI a1.fRel, .pv (encSl R_E_api_Expr a1.fWhere), .pv (encSl R_E_api_Expr a1.fLeft), .pv (encSl R_E_api_Expr a1.fRight), .pv (encSl R_E_api_Expr a1.fOut), .pv (encSl R_api_Agg a1.fAggs), .pv (encSl R_api_Key a1.fOrder), .pv (encSl R_E_api_Plan a1.fKids)]] [] = some (.ret (aU r), [])) {n : Nat} {a0 : cost_coster} {a1 : api_Plan} {r : Int} (hm : _cost_coster_of_f rc__cost_coster_of n a0 a1 = some r) :
    call G n 57 [.agg [.pv (encSl R_E_api_Expr a0.fwhere), .pv (encSl R_stat_Stat a0.fstats)], .agg [aI a1.fKind, aI a1.fRel, .pv (encSl R_E_api_Expr a1.fWhere), .pv (encSl R_E_api_Expr a1.fLeft), .pv (encSl R_E_api_Expr a1.fRight), .pv (encSl R_E_api_Expr a1.fOut), .pv (encSl R_api_Agg a1.fAggs), .pv (encSl R_api_Key a1.fOrder), .pv (encSl R_E_api_Plan a1.fKids)]] [] = some (.ret (aU r), []) := by
  unfold _cost_coster_of_f at hm
  obtain ⟨n, rfl, h0⟩ := at1_some hm
  replace hm := h0; clear h0
  refine callL 77 [(0, .agg [.pv (encSl R_E_api_Expr a0.fwhere), .pv (encSl R_stat_Stat a0.fstats)]), (1, .agg [aI a1.fKind, aI a1.fRel, .pv (encSl R_E_api_Expr a1.fWhere), .pv (encSl R_E_api_Expr a1.fLeft), .pv (encSl R_E_api_Expr a1.fRight), .pv (encSl R_E_api_Expr a1.fOut), .pv (encSl R_api_Agg a1.fAggs), .pv (encSl R_api_Key a1.fOrder), .pv (encSl R_E_api_Plan a1.fKids)])] func57 rfl (by kernel_rfl) (sq (det [(2, .ptr 0 0), (3, .ptr 1 0)] [.box [.pv (encSl R_E_api_Expr a0.fwhere), .pv (encSl R_stat_Stat a0.fstats)] false, .box [aI a1.fKind, aI a1.fRel, .pv (encSl R_E_api_Expr a1.fWhere), .pv (encSl R_E_api_Expr a1.fLeft), .pv (encSl R_E_api_Expr a1.fRight), .pv (encSl R_E_api_Expr a1.fOut), .pv (encSl R_api_Agg a1.fAggs), .pv (encSl R_api_Key a1.fOrder), .pv (encSl R_E_api_Plan a1.fKids)] false] (by kernel_rfl) (sq (rg (sh 2 [(10, .agg [aI a1.fKind, aI a1.fRel, .pv (encSl R_E_api_Expr a1.fWhere), .pv (encSl R_E_api_Expr a1.fLeft), .pv (encSl R_E_api_Expr a1.fRight), .pv (encSl R_E_api_Expr a1.fOut), .pv (encSl R_api_Agg a1.fAggs), .pv (encSl R_api_Key a1.fOrder), .pv (encSl R_E_api_Plan a1.fKids)]), (9, .agg [.pv (encSl R_E_api_Expr a0.fwhere), .pv (encSl R_stat_Stat a0.fstats)])] (by kernel_rfl) ?_)))))
  obtain ⟨x1, h2, hm⟩ := bs hm
  refine dv 11 (cpure (by kernel_rfl) (ok__cost_coster_card h2) (by kernel_rfl) (by kernel_rfl) (by kernel_rfl)) (by kernel_rfl) (sh 1 [(5, aU x1)] (by kernel_rfl) (fin [(2, .ptr 0 0), (3, .ptr 1 0), (5, aU x1)] rfl (by kernel_rfl) ?_))
  refine sq (sq (detn [(2, .ptr 0 0), (3, .ptr 1 0), (5, aU x1), (13, aI a1.fKind)] (by kernel_rfl) (bq (sq (detn [(2, .ptr 0 0), (3, .ptr 1 0), (5, aU x1), (13, aI a1.fKind), (14, aB (a1.fKind == 1))] (by kernel_rfl) ?_)))))
  rcases bif_some hm with ⟨h3, hm⟩ | ⟨h3, hm⟩
  ·
   refine ct h3 (by kernel_rfl) (sq (rg (sh 4 [(19, aI a1.fRel), (18, .ptr 1 1), (17, .pv (encSl R_stat_Stat a0.fstats)), (16, .ptr 0 1)] (by kernel_rfl) ?_)))
   obtain ⟨x4, h5, hm⟩ := bs hm
   refine dv 20 (cpure (by kernel_rfl) (ok_guess_Rows h5) (by kernel_rfl) (by kernel_rfl) (by kernel_rfl)) (by kernel_rfl) (sh 1 [(21, aU x1)] (by kernel_rfl) ?_)
   obtain ⟨x6, h7, hm⟩ := bs hm
   refine dv 22 (cpure (by kernel_rfl) (ok_cost_Scan h7) (by kernel_rfl) (by kernel_rfl) (by kernel_rfl)) (by kernel_rfl) (sh 1 [(4, aU x6)] (by kernel_rfl) (fin [(4, aU x6)] rfl (by kernel_rfl) (wp_ret ?_)))
   obtain rfl := Option.some.inj hm
   exact ⟨trivial, by kernel_rfl⟩
  ·
   refine cf h3 (by kernel_rfl) ?_
   obtain ⟨k10, hk10, hm⟩ := withK_some hm
   refine mid (fun t H => (∃ (y9 : Bool) (w8 : AV), k10 y9 = some r ∧ t = mk 77 [(2, .ptr 0 0), (3, .ptr 1 0), (5, aU x1), (13, w8), (23, aB y9)] ∧ H = [.box [.pv (encSl R_E_api_Expr a0.fwhere), .pv (encSl R_stat_Stat a0.fstats)] false, .box [aI a1.fKind, aI a1.fRel, .pv (encSl R_E_api_Expr a1.fWhere), .pv (encSl R_E_api_Expr a1.fLeft), .pv (encSl R_E_api_Expr a1.fRight), .pv (encSl R_E_api_Expr a1.fOut), .pv (encSl R_api_Agg a1.fAggs), .pv (encSl R_api_Key a1.fOrder), .pv (encSl R_E_api_Plan a1.fKids)] false])) ?_ ?_
   ·
    rintro _ _ ⟨y9, w8, hm, rfl, rfl⟩
    subst hk10
    rcases bif_some hm with ⟨h11, hm⟩ | ⟨h11, hm⟩
    ·
     refine ct h11 (by kernel_rfl) (sq (rgd (shd 2 [(28, .pv (encSl R_E_api_Plan a1.fKids)), (27, .ptr 1 8)] (by kernel_rfl) ?_)))
     obtain ⟨x12, h13, hm⟩ := bs hm
     refine dvd 29 (v := .pv (.ptr (R_api_Plan (un_api_Plan x12)) 0)) (ia_slE R_E_api_Plan a1.fKids .i64 t57 t59 h13 (R_un_api_Plan x12) rfl (by kernel_rfl)) (by kernel_rfl) (shd 3 [(32, .pv (encSl R_E_api_Plan a1.fKids)), (31, .ptr 1 8), (30, .agg [aI ((un_api_Plan x12).fKind), aI ((un_api_Plan x12).fRel), .pv (encSl R_E_api_Expr ((un_api_Plan x12).fWhere)), .pv (encSl R_E_api_Expr ((un_api_Plan x12).fLeft)), .pv (encSl R_E_api_Expr ((un_api_Plan x12).fRight)), .pv (encSl R_E_api_Expr ((un_api_Plan x12).fOut)), .pv (encSl R_api_Agg ((un_api_Plan x12).fAggs)), .pv (encSl R_api_Key ((un_api_Plan x12).fOrder)), .pv (encSl R_E_api_Plan ((un_api_Plan x12).fKids))])] (by kernel_rfl) ?_)
     obtain ⟨x14, h15, hm⟩ := bs hm
     refine dvd 33 (v := .pv (.ptr (R_api_Plan (un_api_Plan x14)) 0)) (ia_slE R_E_api_Plan a1.fKids .i64 t57 t59 h15 (R_un_api_Plan x14) rfl (by kernel_rfl)) (by kernel_rfl) (std 5 [(7, .ptr 3 0), (6, .ptr 2 0), (34, .agg [aI ((un_api_Plan x14).fKind), aI ((un_api_Plan x14).fRel), .pv (encSl R_E_api_Expr ((un_api_Plan x14).fWhere)), .pv (encSl R_E_api_Expr ((un_api_Plan x14).fLeft)), .pv (encSl R_E_api_Expr ((un_api_Plan x14).fRight)), .pv (encSl R_E_api_Expr ((un_api_Plan x14).fOut)), .pv (encSl R_api_Agg ((un_api_Plan x14).fAggs)), .pv (encSl R_api_Key ((un_api_Plan x14).fOrder)), .pv (encSl R_E_api_Plan ((un_api_Plan x14).fKids))])] [.box [.pv (encSl R_E_api_Expr a0.fwhere), .pv (encSl R_stat_Stat a0.fstats)] false, .box [aI a1.fKind, aI a1.fRel, .pv (encSl R_E_api_Expr a1.fWhere), .pv (encSl R_E_api_Expr a1.fLeft), .pv (encSl R_E_api_Expr a1.fRight), .pv (encSl R_E_api_Expr a1.fOut), .pv (encSl R_api_Agg a1.fAggs), .pv (encSl R_api_Key a1.fOrder), .pv (encSl R_E_api_Plan a1.fKids)] false, .box [aI ((un_api_Plan x12).fKind), aI ((un_api_Plan x12).fRel), .pv (encSl R_E_api_Expr ((un_api_Plan x12).fWhere)), .pv (encSl R_E_api_Expr ((un_api_Plan x12).fLeft)), .pv (encSl R_E_api_Expr ((un_api_Plan x12).fRight)), .pv (encSl R_E_api_Expr ((un_api_Plan x12).fOut)), .pv (encSl R_api_Agg ((un_api_Plan x12).fAggs)), .pv (encSl R_api_Key ((un_api_Plan x12).fOrder)), .pv (encSl R_E_api_Plan ((un_api_Plan x12).fKids))] false, .box [aI ((un_api_Plan x14).fKind), aI ((un_api_Plan x14).fRel), .pv (encSl R_E_api_Expr ((un_api_Plan x14).fWhere)), .pv (encSl R_E_api_Expr ((un_api_Plan x14).fLeft)), .pv (encSl R_E_api_Expr ((un_api_Plan x14).fRight)), .pv (encSl R_E_api_Expr ((un_api_Plan x14).fOut)), .pv (encSl R_api_Agg ((un_api_Plan x14).fAggs)), .pv (encSl R_api_Key ((un_api_Plan x14).fOrder)), .pv (encSl R_E_api_Plan ((un_api_Plan x14).fKids))] false] (by kernel_rfl) (find [(2, .ptr 0 0), (3, .ptr 1 0), (5, aU x1), (6, .ptr 2 0), (7, .ptr 3 0)] rfl (by kernel_rfl) (by kernel_rfl) (sq (rgd (shd 4 [(38, .agg [aI ((un_api_Plan x12).fKind), aI ((un_api_Plan x12).fRel), .pv (encSl R_E_api_Expr ((un_api_Plan x12).fWhere)), .pv (encSl R_E_api_Expr ((un_api_Plan x12).fLeft)), .pv (encSl R_E_api_Expr ((un_api_Plan x12).fRight)), .pv (encSl R_E_api_Expr ((un_api_Plan x12).fOut)), .pv (encSl R_api_Agg ((un_api_Plan x12).fAggs)), .pv (encSl R_api_Key ((un_api_Plan x12).fOrder)), .pv (encSl R_E_api_Plan ((un_api_Plan x12).fKids))]), (37, .agg [.pv (encSl R_E_api_Expr a0.fwhere), .pv (encSl R_stat_Stat a0.fstats)]), (36, aI a1.fKind), (35, .ptr 1 0)] (by kernel_rfl) ?_)))))
     obtain ⟨x16, h17, hm⟩ := bs hm
     refine dvd 39 (cpure (by kernel_rfl) (ih__cost_coster_of h17) (by kernel_rfl) (by kernel_rfl) (by kernel_rfl)) (by kernel_rfl) (shd 2 [(41, .agg [aI ((un_api_Plan x14).fKind), aI ((un_api_Plan x14).fRel), .pv (encSl R_E_api_Expr ((un_api_Plan x14).fWhere)), .pv (encSl R_E_api_Expr ((un_api_Plan x14).fLeft)), .pv (encSl R_E_api_Expr ((un_api_Plan x14).fRight)), .pv (encSl R_E_api_Expr ((un_api_Plan x14).fOut)), .pv (encSl R_api_Agg ((un_api_Plan x14).fAggs)), .pv (encSl R_api_Key ((un_api_Plan x14).fOrder)), .pv (encSl R_E_api_Plan ((un_api_Plan x14).fKids))]), (40, .agg [.pv (encSl R_E_api_Expr a0.fwhere), .pv (encSl R_stat_Stat a0.fstats)])] (by kernel_rfl) ?_)
     obtain ⟨x18, h19, hm⟩ := bs hm
     refine dvd 42 (cpure (by kernel_rfl) (ih__cost_coster_of h19) (by kernel_rfl) (by kernel_rfl) (by kernel_rfl)) (by kernel_rfl) (shd 2 [(44, .agg [aI ((un_api_Plan x12).fKind), aI ((un_api_Plan x12).fRel), .pv (encSl R_E_api_Expr ((un_api_Plan x12).fWhere)), .pv (encSl R_E_api_Expr ((un_api_Plan x12).fLeft)), .pv (encSl R_E_api_Expr ((un_api_Plan x12).fRight)), .pv (encSl R_E_api_Expr ((un_api_Plan x12).fOut)), .pv (encSl R_api_Agg ((un_api_Plan x12).fAggs)), .pv (encSl R_api_Key ((un_api_Plan x12).fOrder)), .pv (encSl R_E_api_Plan ((un_api_Plan x12).fKids))]), (43, .agg [.pv (encSl R_E_api_Expr a0.fwhere), .pv (encSl R_stat_Stat a0.fstats)])] (by kernel_rfl) ?_)
     obtain ⟨x20, h21, hm⟩ := bs hm
     refine dvd 45 (cpure (by kernel_rfl) (ok__cost_coster_card h21) (by kernel_rfl) (by kernel_rfl) (by kernel_rfl)) (by kernel_rfl) (shd 2 [(47, .agg [aI ((un_api_Plan x14).fKind), aI ((un_api_Plan x14).fRel), .pv (encSl R_E_api_Expr ((un_api_Plan x14).fWhere)), .pv (encSl R_E_api_Expr ((un_api_Plan x14).fLeft)), .pv (encSl R_E_api_Expr ((un_api_Plan x14).fRight)), .pv (encSl R_E_api_Expr ((un_api_Plan x14).fOut)), .pv (encSl R_api_Agg ((un_api_Plan x14).fAggs)), .pv (encSl R_api_Key ((un_api_Plan x14).fOrder)), .pv (encSl R_E_api_Plan ((un_api_Plan x14).fKids))]), (46, .agg [.pv (encSl R_E_api_Expr a0.fwhere), .pv (encSl R_stat_Stat a0.fstats)])] (by kernel_rfl) ?_)
     obtain ⟨x22, h23, hm⟩ := bs hm
     refine dvd 48 (cpure (by kernel_rfl) (ok__cost_coster_card h23) (by kernel_rfl) (by kernel_rfl) (by kernel_rfl)) (by kernel_rfl) (shd 1 [(49, aU x1)] (by kernel_rfl) ?_)
     obtain ⟨x24, h25, hm⟩ := bs hm
     refine dvd 50 (cpure (by kernel_rfl) (ok_cost_Join h25) (by kernel_rfl) (by kernel_rfl) (by kernel_rfl)) (by kernel_rfl) (shd 1 [(4, aU x24)] (by kernel_rfl) (find [(4, aU x24)] rfl (by kernel_rfl) (by kernel_rfl) (wp_ret ?_)))
     obtain rfl := Option.some.inj hm
     exact ⟨trivial, by kernel_rfl⟩
    ·
     refine cf h11 (by kernel_rfl) (wp_skip (sq (rgd (shd 3 [(53, .pv (encSl R_E_api_Plan a1.fKids)), (52, .ptr 1 8), (51, .agg [.pv (encSl R_E_api_Expr a0.fwhere), .pv (encSl R_stat_Stat a0.fstats)])] (by kernel_rfl) ?_))))
     obtain ⟨x26, h27, hm⟩ := bs hm
     refine dvd 54 (v := .pv (.ptr (R_api_Plan (un_api_Plan x26)) 0)) (ia_slE R_E_api_Plan a1.fKids .i64 t57 t59 h27 (R_un_api_Plan x26) rfl (by kernel_rfl)) (by kernel_rfl) (shd 1 [(55, .agg [aI ((un_api_Plan x26).fKind), aI ((un_api_Plan x26).fRel), .pv (encSl R_E_api_Expr ((un_api_Plan x26).fWhere)), .pv (encSl R_E_api_Expr ((un_api_Plan x26).fLeft)), .pv (encSl R_E_api_Expr ((un_api_Plan x26).fRight)), .pv (encSl R_E_api_Expr ((un_api_Plan x26).fOut)), .pv (encSl R_api_Agg ((un_api_Plan x26).fAggs)), .pv (encSl R_api_Key ((un_api_Plan x26).fOrder)), .pv (encSl R_E_api_Plan ((un_api_Plan x26).fKids))])] (by kernel_rfl) ?_)
     obtain ⟨x28, h29, hm⟩ := bs hm
     refine dvd 56 (cpure (by kernel_rfl) (ih__cost_coster_of h29) (by kernel_rfl) (by kernel_rfl) (by kernel_rfl)) (by kernel_rfl) (shd 1 [(8, aU x28)] (by kernel_rfl) (find [(3, .ptr 1 0), (5, aU x1), (8, aU x28)] rfl (by kernel_rfl) (by kernel_rfl) (sq (sq (detn [(5, aU x1), (8, aU x28), (58, aI a1.fKind)] (by kernel_rfl) (bq (sq (bq (sq (bq (sq (bq ?_))))))))))))
     refine sq (sq (sq (detn [(5, aU x1), (8, aU x28), (58, aI a1.fKind), (59, aB (a1.fKind == 5))] (by kernel_rfl) ?_)))
     rcases bif_some hm with ⟨h30, hm⟩ | ⟨h30, hm⟩
     ·
      refine ct h30 (by kernel_rfl) (wp_exit (rg (sh 2 [(66, aU x1), (65, aU x28)] (by kernel_rfl) ?_)))
      obtain ⟨x31, h32, hm⟩ := bs hm
      refine dv 67 (cpure (by kernel_rfl) (ok_cost_Sort h32) (by kernel_rfl) (by kernel_rfl) (by kernel_rfl)) (by kernel_rfl) ?_
      obtain ⟨x33, h34, hm⟩ := bs hm
      refine dv 68 (cpure (by kernel_rfl) (ok_fixed_Add h34) (by kernel_rfl) (by kernel_rfl) (by kernel_rfl)) (by kernel_rfl) (sh 1 [(8, aU x33)] (by kernel_rfl) (fin [(5, aU x1), (8, aU x33)] rfl (by kernel_rfl) (sq (rg (sh 2 [(70, aU x1), (69, aU x33)] (by kernel_rfl) ?_)))))
      obtain ⟨x35, h36, hm⟩ := bs hm
      refine dv 71 (cpure (by kernel_rfl) (ok_fixed_Add h36) (by kernel_rfl) (by kernel_rfl) (by kernel_rfl)) (by kernel_rfl) (sh 1 [(8, aU x35)] (by kernel_rfl) (fin [(8, aU x35)] rfl (by kernel_rfl) (wp_exit (sq (detn [(4, aU x35)] (by kernel_rfl) (wp_ret ?_))))))
      obtain rfl := Option.some.inj hm
      exact ⟨trivial, by kernel_rfl⟩
     ·
      refine cf h30 (by kernel_rfl) (wp_skip (sq (sq (detn [(5, aU x1), (8, aU x28), (58, aI a1.fKind), (61, aB (a1.fKind == 6))] (by kernel_rfl) ?_))))
      rcases bif_some hm with ⟨h37, hm⟩ | ⟨h37, hm⟩
      ·
       refine ct h37 (by kernel_rfl) (wp_exit (sq (rg (sh 2 [(70, aU x1), (69, aU x28)] (by kernel_rfl) ?_))))
       obtain ⟨x38, h39, hm⟩ := bs hm
       refine dv 71 (cpure (by kernel_rfl) (ok_fixed_Add h39) (by kernel_rfl) (by kernel_rfl) (by kernel_rfl)) (by kernel_rfl) (sh 1 [(8, aU x38)] (by kernel_rfl) (fin [(8, aU x38)] rfl (by kernel_rfl) (wp_exit (sq (detn [(4, aU x38)] (by kernel_rfl) (wp_ret ?_))))))
       obtain rfl := Option.some.inj hm
       exact ⟨trivial, by kernel_rfl⟩
      ·
       refine cf h37 (by kernel_rfl) (wp_skip (sq (detn [(5, aU x1), (8, aU x28), (63, aB (a1.fKind == 7))] (by kernel_rfl) ?_)))
       rcases bif_some hm with ⟨h40, hm⟩ | ⟨h40, hm⟩
       ·
        refine ct h40 (by kernel_rfl) (wp_exit (sq (rg (sh 2 [(73, aU x1), (72, aU x28)] (by kernel_rfl) ?_))))
        obtain ⟨x41, h42, hm⟩ := bs hm
        refine dv 74 (cpure (by kernel_rfl) (ok_cost_Sort h42) (by kernel_rfl) (by kernel_rfl) (by kernel_rfl)) (by kernel_rfl) ?_
        obtain ⟨x43, h44, hm⟩ := bs hm
        refine dv 75 (cpure (by kernel_rfl) (ok_fixed_Add h44) (by kernel_rfl) (by kernel_rfl) (by kernel_rfl)) (by kernel_rfl) (sh 1 [(8, aU x43)] (by kernel_rfl) (fin [(8, aU x43)] rfl (by kernel_rfl) (wp_exit (sq (detn [(4, aU x43)] (by kernel_rfl) (wp_ret ?_))))))
        obtain rfl := Option.some.inj hm
        exact ⟨trivial, by kernel_rfl⟩
       ·
        refine cf h40 (by kernel_rfl) (wp_skip (wp_exit (sq (detn [(4, aU x28)] (by kernel_rfl) (wp_ret ?_)))))
        obtain rfl := Option.some.inj hm
        exact ⟨trivial, by kernel_rfl⟩
   refine sq (detn [(2, .ptr 0 0), (3, .ptr 1 0), (5, aU x1), (13, aI a1.fKind), (23, aB (a1.fKind == 2))] (by kernel_rfl) ?_)
   rcases bif_some hm with ⟨h45, hm⟩ | ⟨h45, hm⟩
   ·
    refine ct h45 (by kernel_rfl) (wp_skip ?_)
    exact ⟨(a1.fKind == 2), aI a1.fKind, hm, (mk_same (by kernel_rfl)), rfl⟩
   ·
    refine cf h45 (by kernel_rfl) (sq (detn [(2, .ptr 0 0), (3, .ptr 1 0), (5, aU x1), (13, aI a1.fKind), (23, aB (a1.fKind == 3))] (by kernel_rfl) ?_))
    rcases bif_some hm with ⟨h46, hm⟩ | ⟨h46, hm⟩
    ·
     refine ct h46 (by kernel_rfl) (wp_skip ?_)
     exact ⟨(a1.fKind == 3), aI a1.fKind, hm, (mk_same (by kernel_rfl)), rfl⟩
    ·
     refine cf h46 (by kernel_rfl) (detn [(2, .ptr 0 0), (3, .ptr 1 0), (5, aU x1), (23, aB (a1.fKind == 4))] (by kernel_rfl) ?_)
     exact ⟨(a1.fKind == 4), .any, hm, (mk_same (by kernel_rfl)), rfl⟩
theorem okt__cost_coster_of : ∀ (m : Nat), ∀ {n : Nat} {a0 : cost_coster} {a1 : api_Plan} {r : Int} (hm : _cost_coster_of_t m n a0 a1 = some r), call G n 57 [.agg [.pv (encSl R_E_api_Expr a0.fwhere), .pv (encSl R_stat_Stat a0.fstats)], .agg [aI a1.fKind, aI a1.fRel, .pv (encSl R_E_api_Expr a1.fWhere), .pv (encSl R_E_api_Expr a1.fLeft), .pv (encSl R_E_api_Expr a1.fRight), .pv (encSl R_E_api_Expr a1.fOut), .pv (encSl R_api_Agg a1.fAggs), .pv (encSl R_api_Key a1.fOrder), .pv (encSl R_E_api_Plan a1.fKids)]] [] = some (.ret (aU r), [])
  | 0 => by intros; rename_i hm; exact nomatch hm
  | m + 1 => fun hm =>
    okf__cost_coster_of (okt__cost_coster_of m) hm
theorem ok__cost_coster_of {n : Nat} {a0 : cost_coster} {a1 : api_Plan} {r : Int} (hm : _cost_coster_of n a0 a1 = some r) :
    call G n 57 [.agg [.pv (encSl R_E_api_Expr a0.fwhere), .pv (encSl R_stat_Stat a0.fstats)], .agg [aI a1.fKind, aI a1.fRel, .pv (encSl R_E_api_Expr a1.fWhere), .pv (encSl R_E_api_Expr a1.fLeft), .pv (encSl R_E_api_Expr a1.fRight), .pv (encSl R_E_api_Expr a1.fOut), .pv (encSl R_api_Agg a1.fAggs), .pv (encSl R_api_Key a1.fOrder), .pv (encSl R_E_api_Plan a1.fKids)]] [] = some (.ret (aU r), []) := okt__cost_coster_of n hm
theorem ok_cost_Of {n : Nat} {a0 : api_Plan} {a1 : (Option (List E_api_Expr))} {a2 : (Option (List stat_Stat))} {r : Int} (hm : cost_Of n a0 a1 a2 = some r) :
    call G n 22 [.agg [aI a0.fKind, aI a0.fRel, .pv (encSl R_E_api_Expr a0.fWhere), .pv (encSl R_E_api_Expr a0.fLeft), .pv (encSl R_E_api_Expr a0.fRight), .pv (encSl R_E_api_Expr a0.fOut), .pv (encSl R_api_Agg a0.fAggs), .pv (encSl R_api_Key a0.fOrder), .pv (encSl R_E_api_Plan a0.fKids)], .pv (encSl R_E_api_Expr a1), .pv (encSl R_stat_Stat a2)] [] = some (.ret (aU r), []) := by
  unfold cost_Of at hm
  obtain ⟨n, rfl, h0⟩ := at1_some hm
  replace hm := h0; clear h0
  refine callL 15 [(0, .agg [aI a0.fKind, aI a0.fRel, .pv (encSl R_E_api_Expr a0.fWhere), .pv (encSl R_E_api_Expr a0.fLeft), .pv (encSl R_E_api_Expr a0.fRight), .pv (encSl R_E_api_Expr a0.fOut), .pv (encSl R_api_Agg a0.fAggs), .pv (encSl R_api_Key a0.fOrder), .pv (encSl R_E_api_Plan a0.fKids)]), (1, .pv (encSl R_E_api_Expr a1)), (2, .pv (encSl R_stat_Stat a2))] func22 rfl (by kernel_rfl) (sq (det [(1, .pv (encSl R_E_api_Expr a1)), (2, .pv (encSl R_stat_Stat a2)), (3, .ptr 0 0)] [.box [aI a0.fKind, aI a0.fRel, .pv (encSl R_E_api_Expr a0.fWhere), .pv (encSl R_E_api_Expr a0.fLeft), .pv (encSl R_E_api_Expr a0.fRight), .pv (encSl R_E_api_Expr a0.fOut), .pv (encSl R_api_Agg a0.fAggs), .pv (encSl R_api_Key a0.fOrder), .pv (encSl R_E_api_Plan a0.fKids)] false] (by kernel_rfl) (sq (sq (rg (sh 1 [(7, .agg [aI a0.fKind, aI a0.fRel, .pv (encSl R_E_api_Expr a0.fWhere), .pv (encSl R_E_api_Expr a0.fLeft), .pv (encSl R_E_api_Expr a0.fRight), .pv (encSl R_E_api_Expr a0.fOut), .pv (encSl R_api_Agg a0.fAggs), .pv (encSl R_api_Key a0.fOrder), .pv (encSl R_E_api_Plan a0.fKids)])] (by kernel_rfl) ?_))))))
  obtain ⟨x1, h2, hm⟩ := bs hm
  refine dv 8 (cpure (by kernel_rfl) (ok_plan_Formed h2) (by kernel_rfl) (by kernel_rfl) (by kernel_rfl)) (by kernel_rfl) (sh 1 [(9, aB (!x1))] (by kernel_rfl) (fin [(1, .pv (encSl R_E_api_Expr a1)), (2, .pv (encSl R_stat_Stat a2)), (3, .ptr 0 0), (9, aB (!x1))] rfl (by kernel_rfl) ?_))
  rcases bif_some hm with ⟨h3, hm⟩ | ⟨h3, hm⟩
  ·
   refine ct h3 (by kernel_rfl) (sq (detn [(6, aU 18446744073709551615)] (by kernel_rfl) (wp_ret ?_)))
   obtain rfl := Option.some.inj hm
   exact ⟨trivial, by kernel_rfl⟩
  ·
   refine cf h3 (by kernel_rfl) (wp_skip (sq (rg (sh 4 [(13, .agg [aI a0.fKind, aI a0.fRel, .pv (encSl R_E_api_Expr a0.fWhere), .pv (encSl R_E_api_Expr a0.fLeft), .pv (encSl R_E_api_Expr a0.fRight), .pv (encSl R_E_api_Expr a0.fOut), .pv (encSl R_api_Agg a0.fAggs), .pv (encSl R_api_Key a0.fOrder), .pv (encSl R_E_api_Plan a0.fKids)]), (12, .agg [.pv (encSl R_E_api_Expr a1), .pv (encSl R_stat_Stat a2)]), (11, .pv (encSl R_stat_Stat a2)), (10, .pv (encSl R_E_api_Expr a1))] (by kernel_rfl) ?_))))
   obtain ⟨x4, h5, hm⟩ := bs hm
   refine dv 14 (cpure (by kernel_rfl) (ok__cost_coster_of h5) (by kernel_rfl) (by kernel_rfl) (by kernel_rfl)) (by kernel_rfl) (sh 1 [(6, aU x4)] (by kernel_rfl) (fin [(6, aU x4)] rfl (by kernel_rfl) (wp_ret ?_)))
   obtain rfl := Option.some.inj hm
   exact ⟨trivial, by kernel_rfl⟩
theorem ok_law32_CostShapes {n : Nat} {a0 : api_Plan} {a1 : (Option (List E_api_Expr))} {a2 : (Option (List tabularyref20_Stat))} {a3 : (Option (List E_api_Expr))} {r : Bool} (hm : law32_CostShapes n a0 a1 a2 a3 = some r) :
    call G n 6 [.agg [aI a0.fKind, aI a0.fRel, .pv (encSl R_E_api_Expr a0.fWhere), .pv (encSl R_E_api_Expr a0.fLeft), .pv (encSl R_E_api_Expr a0.fRight), .pv (encSl R_E_api_Expr a0.fOut), .pv (encSl R_api_Agg a0.fAggs), .pv (encSl R_api_Key a0.fOrder), .pv (encSl R_E_api_Plan a0.fKids)], .pv (encSl R_E_api_Expr a1), .pv (encSl R_tabularyref20_Stat a2), .pv (encSl R_E_api_Expr a3)] [] = some (.ret (aB r), []) := by
  unfold law32_CostShapes at hm
  obtain ⟨n, rfl, h0⟩ := at1_some hm
  replace hm := h0; clear h0
  refine callL 71 [(0, .agg [aI a0.fKind, aI a0.fRel, .pv (encSl R_E_api_Expr a0.fWhere), .pv (encSl R_E_api_Expr a0.fLeft), .pv (encSl R_E_api_Expr a0.fRight), .pv (encSl R_E_api_Expr a0.fOut), .pv (encSl R_api_Agg a0.fAggs), .pv (encSl R_api_Key a0.fOrder), .pv (encSl R_E_api_Plan a0.fKids)]), (1, .pv (encSl R_E_api_Expr a1)), (2, .pv (encSl R_tabularyref20_Stat a2)), (3, .pv (encSl R_E_api_Expr a3))] func6 rfl (by kernel_rfl) (sq (det [(1, .pv (encSl R_E_api_Expr a1)), (2, .pv (encSl R_tabularyref20_Stat a2)), (3, .pv (encSl R_E_api_Expr a3)), (4, .ptr 0 0)] [.box [aI a0.fKind, aI a0.fRel, .pv (encSl R_E_api_Expr a0.fWhere), .pv (encSl R_E_api_Expr a0.fLeft), .pv (encSl R_E_api_Expr a0.fRight), .pv (encSl R_E_api_Expr a0.fOut), .pv (encSl R_api_Agg a0.fAggs), .pv (encSl R_api_Key a0.fOrder), .pv (encSl R_E_api_Plan a0.fKids)] false] (by kernel_rfl) ?_))
  refine sq (sq (rg ?_))
  obtain ⟨x1, h2, hm⟩ := bs hm
  refine dv 14 (cpure (by kernel_rfl) (ok_law32_works h2) (by kernel_rfl) (by kernel_rfl) (by kernel_rfl)) (by kernel_rfl) (sh 1 [(15, aB (!x1))] (by kernel_rfl) (fin [(1, .pv (encSl R_E_api_Expr a1)), (2, .pv (encSl R_tabularyref20_Stat a2)), (3, .pv (encSl R_E_api_Expr a3)), (4, .ptr 0 0), (15, aB (!x1))] rfl (by kernel_rfl) ?_))
  rcases bif_some hm with ⟨h3, hm⟩ | ⟨h3, hm⟩
  ·
   refine ct h3 (by kernel_rfl) (sq (detn [(8, aB false)] (by kernel_rfl) (wp_ret ?_)))
   obtain rfl := Option.some.inj hm
   exact ⟨trivial, by kernel_rfl⟩
  ·
   refine cf h3 (by kernel_rfl) (wp_skip (sq (rg (sh 2 [(17, .pv (encSl R_E_api_Expr a3)), (16, .agg [aI a0.fKind, aI a0.fRel, .pv (encSl R_E_api_Expr a0.fWhere), .pv (encSl R_E_api_Expr a0.fLeft), .pv (encSl R_E_api_Expr a0.fRight), .pv (encSl R_E_api_Expr a0.fOut), .pv (encSl R_api_Agg a0.fAggs), .pv (encSl R_api_Key a0.fOrder), .pv (encSl R_E_api_Plan a0.fKids)])] (by kernel_rfl) ?_))))
   obtain ⟨x4, h5, hm⟩ := bs hm
   refine dv 18 (cpure (by kernel_rfl) (ok_law32_bare h5) (by kernel_rfl) (by kernel_rfl) (by kernel_rfl)) (by kernel_rfl) (st 2 [(9, .ptr 1 0)] [.box [aI a0.fKind, aI a0.fRel, .pv (encSl R_E_api_Expr a0.fWhere), .pv (encSl R_E_api_Expr a0.fLeft), .pv (encSl R_E_api_Expr a0.fRight), .pv (encSl R_E_api_Expr a0.fOut), .pv (encSl R_api_Agg a0.fAggs), .pv (encSl R_api_Key a0.fOrder), .pv (encSl R_E_api_Plan a0.fKids)] false, .box [aI x4.fKind, aI x4.fRel, .pv (encSl R_E_api_Expr x4.fWhere), .pv (encSl R_E_api_Expr x4.fLeft), .pv (encSl R_E_api_Expr x4.fRight), .pv (encSl R_E_api_Expr x4.fOut), .pv (encSl R_api_Agg x4.fAggs), .pv (encSl R_api_Key x4.fOrder), .pv (encSl R_E_api_Plan x4.fKids)] false] (by kernel_rfl) (fin [(1, .pv (encSl R_E_api_Expr a1)), (2, .pv (encSl R_tabularyref20_Stat a2)), (3, .pv (encSl R_E_api_Expr a3)), (4, .ptr 0 0), (9, .ptr 1 0)] rfl (by kernel_rfl) ?_))
   refine sq (sq (rg (sh 1 [(19, .agg [aI a0.fKind, aI a0.fRel, .pv (encSl R_E_api_Expr a0.fWhere), .pv (encSl R_E_api_Expr a0.fLeft), .pv (encSl R_E_api_Expr a0.fRight), .pv (encSl R_E_api_Expr a0.fOut), .pv (encSl R_api_Agg a0.fAggs), .pv (encSl R_api_Key a0.fOrder), .pv (encSl R_E_api_Plan a0.fKids)])] (by kernel_rfl) ?_)))
   obtain ⟨x6, h7, hm⟩ := bs hm
   refine dv 20 (cpure (by kernel_rfl) (ok_law25_Great h7) (by kernel_rfl) (by kernel_rfl) (by kernel_rfl)) (by kernel_rfl) (sh 1 [(21, aB x6)] (by kernel_rfl) ?_)
   rcases bif_some hm with ⟨h8, hm⟩ | ⟨h8, hm⟩
   ·
    refine known [21, 20] h8 (by kernel_rfl) (sh 23 [(44, aB true), (43, .undef), (42, .undef), (41, .undef), (40, aB true), (39, aB true), (38, .undef), (37, .undef), (36, .undef), (35, aB true), (34, aB true), (33, .undef), (32, .undef), (31, aB true), (30, aB true), (29, .undef), (28, .undef), (27, .undef), (26, aB true), (25, aB true), (24, .undef), (23, .undef), (22, .undef)] (by kernel_rfl) (fin [(1, .pv (encSl R_E_api_Expr a1)), (2, .pv (encSl R_tabularyref20_Stat a2)), (4, .ptr 0 0), (9, .ptr 1 0), (44, aB true)] rfl (by kernel_rfl) (cT (by kernel_rfl) (sq (detn [(8, aB true)] (by kernel_rfl) (wp_ret ?_))))))
    obtain rfl := Option.some.inj hm
    exact ⟨trivial, by kernel_rfl⟩
   ·
    refine known [21, 20] h8 (by kernel_rfl) (sh 2 [(23, .pv (encSl R_tabularyref20_Stat a2)), (22, .pv (encSl R_E_api_Expr a1))] (by kernel_rfl) ?_)
    obtain ⟨x9, h10, hm⟩ := bs hm
    refine dv 24 (cpure (by kernel_rfl) (ok_law31_Great h10) (by kernel_rfl) (by kernel_rfl) (by kernel_rfl)) (by kernel_rfl) (sh 2 [(26, aB x9), (25, aB x9)] (by kernel_rfl) ?_)
    refine seg x9 [26, 25, 24] (fun b => [(30, aB (b || (decide (((sll a3).length : Int) > 3)))), (29, ifA b (.undef) (aB (decide (((sll a3).length : Int) > 3)))), (28, ifA b (.undef) (aI ((sll a3).length : Int))), (27, ifA b (.undef) (.pv (encSl R_E_api_Expr a3)))]) 12 (by kernel_rfl) ?_ ?_ ?_
    ·
     intro Q h
     refine sh 4 [(30, aB true), (29, .undef), (28, .undef), (27, .undef)] (by kernel_rfl) ?_
     exact sameN (by kernel_rfl) (by kernel_rfl) h
    ·
     intro Q h
     refine sh 1 [(27, .pv (encSl R_E_api_Expr a3))] (by kernel_rfl) (dv 28 (v := aI ((sll a3).length : Int)) (len_slO R_E_api_Expr a3 t23 (by kernel_rfl)) (by kernel_rfl) (sh 2 [(30, aB (decide (((sll a3).length : Int) > 3))), (29, aB (decide (((sll a3).length : Int) > 3)))] (by kernel_rfl) ?_))
     exact sameN (by kernel_rfl) (by kernel_rfl) h
    refine sh 1 [(31, aB (x9 || (decide (((sll a3).length : Int) > 3))))] (by kernel_rfl) ?_
    rcases bif_some hm with ⟨h11, hm⟩ | ⟨h11, hm⟩
    ·
     refine known [31, 30] h11 (by kernel_rfl) (sh 13 [(44, aB true), (43, .undef), (42, .undef), (41, .undef), (40, aB true), (39, aB true), (38, .undef), (37, .undef), (36, .undef), (35, aB true), (34, aB true), (33, .undef), (32, .undef)] (by kernel_rfl) (fin [(1, .pv (encSl R_E_api_Expr a1)), (2, .pv (encSl R_tabularyref20_Stat a2)), (4, .ptr 0 0), (9, .ptr 1 0), (44, aB true)] rfl (by kernel_rfl) (cT (by kernel_rfl) (sq (detn [(8, aB true)] (by kernel_rfl) (wp_ret ?_))))))
     obtain rfl := Option.some.inj hm
     exact ⟨trivial, by kernel_rfl⟩
    ·
     refine known [31, 30] h11 (by kernel_rfl) (sh 1 [(32, .agg [aI x4.fKind, aI x4.fRel, .pv (encSl R_E_api_Expr x4.fWhere), .pv (encSl R_E_api_Expr x4.fLeft), .pv (encSl R_E_api_Expr x4.fRight), .pv (encSl R_E_api_Expr x4.fOut), .pv (encSl R_api_Agg x4.fAggs), .pv (encSl R_api_Key x4.fOrder), .pv (encSl R_E_api_Plan x4.fKids)])] (by kernel_rfl) ?_)
     obtain ⟨x12, h13, hm⟩ := bs hm
     refine dv 33 (cpure (by kernel_rfl) (ok_law25_Great h13) (by kernel_rfl) (by kernel_rfl) (by kernel_rfl)) (by kernel_rfl) (sh 2 [(35, aB x12), (34, aB x12)] (by kernel_rfl) ?_)
     rcases bif_some hm with ⟨h14, hm⟩ | ⟨h14, hm⟩
     ·
      refine known [35, 34, 33] h14 (by kernel_rfl) (sh 9 [(44, aB true), (43, .undef), (42, .undef), (41, .undef), (40, aB true), (39, aB true), (38, .undef), (37, .undef), (36, .undef)] (by kernel_rfl) (fin [(1, .pv (encSl R_E_api_Expr a1)), (2, .pv (encSl R_tabularyref20_Stat a2)), (4, .ptr 0 0), (9, .ptr 1 0), (44, aB true)] rfl (by kernel_rfl) (cT (by kernel_rfl) (sq (detn [(8, aB true)] (by kernel_rfl) (wp_ret ?_))))))
      obtain rfl := Option.some.inj hm
      exact ⟨trivial, by kernel_rfl⟩
     ·
      refine known [35, 34, 33] h14 (by kernel_rfl) (sh 1 [(36, .agg [aI a0.fKind, aI a0.fRel, .pv (encSl R_E_api_Expr a0.fWhere), .pv (encSl R_E_api_Expr a0.fLeft), .pv (encSl R_E_api_Expr a0.fRight), .pv (encSl R_E_api_Expr a0.fOut), .pv (encSl R_api_Agg a0.fAggs), .pv (encSl R_api_Key a0.fOrder), .pv (encSl R_E_api_Plan a0.fKids)])] (by kernel_rfl) ?_)
      obtain ⟨x15, h16, hm⟩ := bs hm
      refine dv 37 (cpure (by kernel_rfl) (ok_plan_Formed h16) (by kernel_rfl) (by kernel_rfl) (by kernel_rfl)) (by kernel_rfl) (sh 3 [(40, aB (!x15)), (39, aB (!x15)), (38, aB (!x15))] (by kernel_rfl) ?_)
      rcases bif_some hm with ⟨h17, hm⟩ | ⟨h17, hm⟩
      ·
       refine known [40, 39, 38] h17 (by kernel_rfl) (sh 4 [(44, aB true), (43, .undef), (42, .undef), (41, .undef)] (by kernel_rfl) (fin [(1, .pv (encSl R_E_api_Expr a1)), (2, .pv (encSl R_tabularyref20_Stat a2)), (4, .ptr 0 0), (9, .ptr 1 0), (44, aB true)] rfl (by kernel_rfl) (cT (by kernel_rfl) (sq (detn [(8, aB true)] (by kernel_rfl) (wp_ret ?_))))))
       obtain rfl := Option.some.inj hm
       exact ⟨trivial, by kernel_rfl⟩
      ·
       refine known [40, 39, 38] h17 (by kernel_rfl) (sh 1 [(41, .agg [aI x4.fKind, aI x4.fRel, .pv (encSl R_E_api_Expr x4.fWhere), .pv (encSl R_E_api_Expr x4.fLeft), .pv (encSl R_E_api_Expr x4.fRight), .pv (encSl R_E_api_Expr x4.fOut), .pv (encSl R_api_Agg x4.fAggs), .pv (encSl R_api_Key x4.fOrder), .pv (encSl R_E_api_Plan x4.fKids)])] (by kernel_rfl) ?_)
       obtain ⟨x18, h19, hm⟩ := bs hm
       refine dv 42 (cpure (by kernel_rfl) (ok_plan_Formed h19) (by kernel_rfl) (by kernel_rfl) (by kernel_rfl)) (by kernel_rfl) (sh 2 [(44, aB (!x18)), (43, aB (!x18))] (by kernel_rfl) (fin [(1, .pv (encSl R_E_api_Expr a1)), (2, .pv (encSl R_tabularyref20_Stat a2)), (4, .ptr 0 0), (9, .ptr 1 0), (44, aB (!x18))] rfl (by kernel_rfl) ?_))
       rcases bif_some hm with ⟨h20, hm⟩ | ⟨h20, hm⟩
       ·
        refine ct h20 (by kernel_rfl) (sq (detn [(8, aB true)] (by kernel_rfl) (wp_ret ?_)))
        obtain rfl := Option.some.inj hm
        exact ⟨trivial, by kernel_rfl⟩
       ·
        refine cf h20 (by kernel_rfl) (wp_skip (sq (rg (sh 1 [(45, .pv (encSl R_tabularyref20_Stat a2))] (by kernel_rfl) ?_))))
        obtain ⟨x21, h22, hm⟩ := bs hm
        refine dv 46 (cpure (by kernel_rfl) (ok_law31_Stats h22) (by kernel_rfl) (by kernel_rfl) (by kernel_rfl)) (by kernel_rfl) (sh 1 [(10, .pv (encSl R_stat_Stat x21))] (by kernel_rfl) (fin [(1, .pv (encSl R_E_api_Expr a1)), (4, .ptr 0 0), (9, .ptr 1 0), (10, .pv (encSl R_stat_Stat x21))] rfl (by kernel_rfl) (sq (rg (sh 3 [(49, .pv (encSl R_stat_Stat x21)), (48, .pv (encSl R_E_api_Expr a1)), (47, .agg [aI a0.fKind, aI a0.fRel, .pv (encSl R_E_api_Expr a0.fWhere), .pv (encSl R_E_api_Expr a0.fLeft), .pv (encSl R_E_api_Expr a0.fRight), .pv (encSl R_E_api_Expr a0.fOut), .pv (encSl R_api_Agg a0.fAggs), .pv (encSl R_api_Key a0.fOrder), .pv (encSl R_E_api_Plan a0.fKids)])] (by kernel_rfl) ?_)))))
        obtain ⟨x23, h24, hm⟩ := bs hm
        refine dv 50 (cpure (by kernel_rfl) (ok_cost_Of h24) (by kernel_rfl) (by kernel_rfl) (by kernel_rfl)) (by kernel_rfl) (sh 1 [(11, aU x23)] (by kernel_rfl) (fin [(1, .pv (encSl R_E_api_Expr a1)), (4, .ptr 0 0), (9, .ptr 1 0), (10, .pv (encSl R_stat_Stat x21)), (11, aU x23)] rfl (by kernel_rfl) ?_))
        obtain ⟨k27, hk27, hm⟩ := withK_some hm
        refine mid (fun t H => (∃ (y25 : Int) (y26 : Bool), k27 () = some r ∧ t = mk 71 [(1, .pv (encSl R_E_api_Expr a1)), (9, .ptr 1 0), (10, .pv (encSl R_stat_Stat x21)), (11, aU x23), (52, .pv (encSl R_E_api_Plan a0.fKids)), (53, aI ((sll a0.fKids).length : Int)), (54, aI y25), (55, aB y26)] ∧ H = [.box [aI a0.fKind, aI a0.fRel, .pv (encSl R_E_api_Expr a0.fWhere), .pv (encSl R_E_api_Expr a0.fLeft), .pv (encSl R_E_api_Expr a0.fRight), .pv (encSl R_E_api_Expr a0.fOut), .pv (encSl R_api_Agg a0.fAggs), .pv (encSl R_api_Key a0.fOrder), .pv (encSl R_E_api_Plan a0.fKids)] false, .box [aI x4.fKind, aI x4.fRel, .pv (encSl R_E_api_Expr x4.fWhere), .pv (encSl R_E_api_Expr x4.fLeft), .pv (encSl R_E_api_Expr x4.fRight), .pv (encSl R_E_api_Expr x4.fOut), .pv (encSl R_api_Agg x4.fAggs), .pv (encSl R_api_Key x4.fOrder), .pv (encSl R_E_api_Plan x4.fKids)] false])) ?_ ?_
        ·
         rintro _ _ ⟨y25, y26, hm, rfl, rfl⟩
         subst hk27
         refine sq (rg (sh 3 [(67, .pv (encSl R_stat_Stat x21)), (66, .pv (encSl R_E_api_Expr a1)), (65, .agg [aI x4.fKind, aI x4.fRel, .pv (encSl R_E_api_Expr x4.fWhere), .pv (encSl R_E_api_Expr x4.fLeft), .pv (encSl R_E_api_Expr x4.fRight), .pv (encSl R_E_api_Expr x4.fOut), .pv (encSl R_api_Agg x4.fAggs), .pv (encSl R_api_Key x4.fOrder), .pv (encSl R_E_api_Plan x4.fKids)])] (by kernel_rfl) ?_))
         obtain ⟨x28, h29, hm⟩ := bs hm
         refine dv 68 (cpure (by kernel_rfl) (ok_cost_Of h29) (by kernel_rfl) (by kernel_rfl) (by kernel_rfl)) (by kernel_rfl) (sh 3 [(8, aB (x28 == x23)), (70, aB (x28 == x23)), (69, aU x23)] (by kernel_rfl) (fin [(8, aB (x28 == x23))] rfl (by kernel_rfl) (wp_ret ?_)))
         obtain rfl := Option.some.inj hm
         exact ⟨trivial, by kernel_rfl⟩
        refine sq (rg (sh 2 [(52, .pv (encSl R_E_api_Plan a0.fKids)), (51, .ptr 0 8)] (by kernel_rfl) (dv 53 (v := aI ((sll a0.fKids).length : Int)) (len_slO R_E_api_Plan a0.fKids t57 (by kernel_rfl)) (by kernel_rfl) (sh 1 [(54, aI 0)] (by kernel_rfl) (fin [(1, .pv (encSl R_E_api_Expr a1)), (9, .ptr 1 0), (10, .pv (encSl R_stat_Stat x21)), (11, aU x23), (52, .pv (encSl R_E_api_Plan a0.fKids)), (53, aI ((sll a0.fKids).length : Int)), (54, aI 0)] rfl (by kernel_rfl) (bq ?_))))))
        refine loopF (fun mm t H => (∃ (y31 : Int), law32_CostShapes_l9 n a0 a1 x21 x23 k27 mm y31 = some r ∧ t = mk 71 [(1, .pv (encSl R_E_api_Expr a1)), (9, .ptr 1 0), (10, .pv (encSl R_stat_Stat x21)), (11, aU x23), (52, .pv (encSl R_E_api_Plan a0.fKids)), (53, aI ((sll a0.fKids).length : Int)), (54, aI y31)] ∧ H = [.box [aI a0.fKind, aI a0.fRel, .pv (encSl R_E_api_Expr a0.fWhere), .pv (encSl R_E_api_Expr a0.fLeft), .pv (encSl R_E_api_Expr a0.fRight), .pv (encSl R_E_api_Expr a0.fOut), .pv (encSl R_api_Agg a0.fAggs), .pv (encSl R_api_Key a0.fOrder), .pv (encSl R_E_api_Plan a0.fKids)] false, .box [aI x4.fKind, aI x4.fRel, .pv (encSl R_E_api_Expr x4.fWhere), .pv (encSl R_E_api_Expr x4.fLeft), .pv (encSl R_E_api_Expr x4.fRight), .pv (encSl R_E_api_Expr x4.fOut), .pv (encSl R_api_Agg x4.fAggs), .pv (encSl R_api_Key x4.fOrder), .pv (encSl R_E_api_Plan x4.fKids)] false])) (⟨0, hm, rfl, rfl⟩) ?_ ?_
        · rintro _ _ ⟨y31, hm, _⟩; exact nomatch hm
        rintro m32 _ _ ⟨y31, hm, rfl, rfl⟩
        simp only [law32_CostShapes_l9] at hm
        refine sq (detn [(1, .pv (encSl R_E_api_Expr a1)), (9, .ptr 1 0), (10, .pv (encSl R_stat_Stat x21)), (11, aU x23), (52, .pv (encSl R_E_api_Plan a0.fKids)), (53, aI ((sll a0.fKids).length : Int)), (54, aI y31), (55, aB (decide (y31 < ((sll a0.fKids).length : Int))))] (by kernel_rfl) ?_)
        refine sq ?_
        rcases bif_some hm with ⟨h33, hm⟩ | ⟨h33, hm⟩
        ·
         refine ct h33 (by kernel_rfl) (wp_skip (sq (bq (sq (rg ?_)))))
         obtain ⟨x34, h35, hm⟩ := bs hm
         refine dv 56 (v := .pv (.ptr (R_api_Plan (un_api_Plan x34)) 0)) (ia_slE R_E_api_Plan a0.fKids .i64 t57 t59 h35 (R_un_api_Plan x34) rfl (by kernel_rfl)) (by kernel_rfl) (st 3 [(13, .ptr 2 0), (57, .agg [aI ((un_api_Plan x34).fKind), aI ((un_api_Plan x34).fRel), .pv (encSl R_E_api_Expr ((un_api_Plan x34).fWhere)), .pv (encSl R_E_api_Expr ((un_api_Plan x34).fLeft)), .pv (encSl R_E_api_Expr ((un_api_Plan x34).fRight)), .pv (encSl R_E_api_Expr ((un_api_Plan x34).fOut)), .pv (encSl R_api_Agg ((un_api_Plan x34).fAggs)), .pv (encSl R_api_Key ((un_api_Plan x34).fOrder)), .pv (encSl R_E_api_Plan ((un_api_Plan x34).fKids))])] [.box [aI a0.fKind, aI a0.fRel, .pv (encSl R_E_api_Expr a0.fWhere), .pv (encSl R_E_api_Expr a0.fLeft), .pv (encSl R_E_api_Expr a0.fRight), .pv (encSl R_E_api_Expr a0.fOut), .pv (encSl R_api_Agg a0.fAggs), .pv (encSl R_api_Key a0.fOrder), .pv (encSl R_E_api_Plan a0.fKids)] false, .box [aI x4.fKind, aI x4.fRel, .pv (encSl R_E_api_Expr x4.fWhere), .pv (encSl R_E_api_Expr x4.fLeft), .pv (encSl R_E_api_Expr x4.fRight), .pv (encSl R_E_api_Expr x4.fOut), .pv (encSl R_api_Agg x4.fAggs), .pv (encSl R_api_Key x4.fOrder), .pv (encSl R_E_api_Plan x4.fKids)] false, .box [aI ((un_api_Plan x34).fKind), aI ((un_api_Plan x34).fRel), .pv (encSl R_E_api_Expr ((un_api_Plan x34).fWhere)), .pv (encSl R_E_api_Expr ((un_api_Plan x34).fLeft)), .pv (encSl R_E_api_Expr ((un_api_Plan x34).fRight)), .pv (encSl R_E_api_Expr ((un_api_Plan x34).fOut)), .pv (encSl R_api_Agg ((un_api_Plan x34).fAggs)), .pv (encSl R_api_Key ((un_api_Plan x34).fOrder)), .pv (encSl R_E_api_Plan ((un_api_Plan x34).fKids))] false] (by kernel_rfl) (fin [(1, .pv (encSl R_E_api_Expr a1)), (9, .ptr 1 0), (10, .pv (encSl R_stat_Stat x21)), (11, aU x23), (13, .ptr 2 0), (52, .pv (encSl R_E_api_Plan a0.fKids)), (53, aI ((sll a0.fKids).length : Int)), (54, aI y31)] rfl (by kernel_rfl) (sq (rg (sh 3 [(60, .pv (encSl R_stat_Stat x21)), (59, .pv (encSl R_E_api_Expr a1)), (58, .agg [aI ((un_api_Plan x34).fKind), aI ((un_api_Plan x34).fRel), .pv (encSl R_E_api_Expr ((un_api_Plan x34).fWhere)), .pv (encSl R_E_api_Expr ((un_api_Plan x34).fLeft)), .pv (encSl R_E_api_Expr ((un_api_Plan x34).fRight)), .pv (encSl R_E_api_Expr ((un_api_Plan x34).fOut)), .pv (encSl R_api_Agg ((un_api_Plan x34).fAggs)), .pv (encSl R_api_Key ((un_api_Plan x34).fOrder)), .pv (encSl R_E_api_Plan ((un_api_Plan x34).fKids))])] (by kernel_rfl) ?_)))))
         obtain ⟨x36, h37, hm⟩ := bs hm
         refine dv 61 (cpure (by kernel_rfl) (ok_cost_Of h37) (by kernel_rfl) (by kernel_rfl) (by kernel_rfl)) (by kernel_rfl) (sh 2 [(63, aB (decide (x36 > x23))), (62, aU x23)] (by kernel_rfl) (fin [(1, .pv (encSl R_E_api_Expr a1)), (9, .ptr 1 0), (10, .pv (encSl R_stat_Stat x21)), (11, aU x23), (52, .pv (encSl R_E_api_Plan a0.fKids)), (53, aI ((sll a0.fKids).length : Int)), (54, aI y31), (63, aB (decide (x36 > x23)))] rfl (by kernel_rfl) ?_))
         rcases bif_some hm with ⟨h38, hm⟩ | ⟨h38, hm⟩
         ·
          refine ct h38 (by kernel_rfl) (sq (detn [(8, aB false)] (by kernel_rfl) (wp_ret ?_)))
          obtain rfl := Option.some.inj hm
          exact ⟨trivial, by kernel_rfl⟩
         ·
          refine cf h38 (by kernel_rfl) (wp_skip (detn [(1, .pv (encSl R_E_api_Expr a1)), (9, .ptr 1 0), (10, .pv (encSl R_stat_Stat x21)), (11, aU x23), (52, .pv (encSl R_E_api_Plan a0.fKids)), (53, aI ((sll a0.fKids).length : Int)), (54, aI (IntKind.wrap .i64 (y31 + 1)))] (by kernel_rfl) ?_))
          exact ⟨_, _, tidyL [(1, .pv (encSl R_E_api_Expr a1)), (9, .ptr 1 0), (10, .pv (encSl R_stat_Stat x21)), (11, aU x23), (52, .pv (encSl R_E_api_Plan a0.fKids)), (53, aI ((sll a0.fKids).length : Int)), (54, aI (IntKind.wrap .i64 (y31 + 1)))] [.box [aI a0.fKind, aI a0.fRel, .pv (encSl R_E_api_Expr a0.fWhere), .pv (encSl R_E_api_Expr a0.fLeft), .pv (encSl R_E_api_Expr a0.fRight), .pv (encSl R_E_api_Expr a0.fOut), .pv (encSl R_api_Agg a0.fAggs), .pv (encSl R_api_Key a0.fOrder), .pv (encSl R_E_api_Plan a0.fKids)] false, .box [aI x4.fKind, aI x4.fRel, .pv (encSl R_E_api_Expr x4.fWhere), .pv (encSl R_E_api_Expr x4.fLeft), .pv (encSl R_E_api_Expr x4.fRight), .pv (encSl R_E_api_Expr x4.fOut), .pv (encSl R_api_Agg x4.fAggs), .pv (encSl R_api_Key x4.fOrder), .pv (encSl R_E_api_Plan x4.fKids)] false] (by kernel_rfl), ⟨(IntKind.wrap .i64 (y31 + 1)), hm, rfl, rfl⟩⟩
        ·
         refine cf h33 (by kernel_rfl) (wp_exit ?_)
         exact ⟨y31, (decide (y31 < ((sll a0.fKids).length : Int))), hm, rfl, rfl⟩
end Go.Ab.S1
