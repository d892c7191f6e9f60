import Derived.Test.YtejbcaheoloahaaWB1
namespace Go.Ab.S1
open Go Go.Ab Go.Pl
open Go.Proofs.Try
set_option maxRecDepth 100000
theorem ok_query_each_Expr_query_Right_5 {n : Nat} {a0 : (Option (List api_Table))} {a1 : (Option (List E_api_Expr))} {r : (Option (List Int)) × Int} (hm : query_each_Expr_query_Right_5 n a0 a1 = some r) :
    ∃ vv H1, call G n 31 [.pv (encSl R_E_api_Expr a1), .fn 35 [] [.ptr 0 0, .ptr 2 0, .ptr 3 0]] [.box [.fn 27 [] [.ptr 1 0]] false, .box [.pv (encSl R_api_Table a0)] false, .box [.pv (.fn 29 [] [])] false, .box [.fn 30 [] [.ptr 4 0]] false, .box [.pv .nils] false] = some (.ret vv, H1) ∧ (match r with | (none, r0) => (vv = aI r0 ∧ H1 = [.box [.fn 27 [] [.ptr 1 0]] false, .box [.pv (encSl R_api_Table a0)] false, .box [.pv (.fn 29 [] [])] false, .box [.fn 30 [] [.ptr 4 0]] false, .box [.pv .nils] false]) | (some r1, r0) => (∃ (e2 : Nat) (e3 : Nat), r1.length = e2 ∧ e3 ≤ r1.length ∧ vv = aI r0 ∧ H1 = [.box [.fn 27 [] [.ptr 1 0]] false, .box [.pv (encSl R_api_Table a0)] false, .box [.pv (.fn 29 [] [])] false, .box [.fn 30 [] [.ptr 4 0]] false, .box [aR 5 1 e2] false, bR 3 1 (rI .i64) r1 e3 0])) := by
  unfold query_each_Expr_query_Right_5 at hm
  obtain ⟨n, rfl, h0⟩ := at1_some hm
  replace hm := h0; clear h0
  refine callE 21 [(0, .pv (encSl R_E_api_Expr a1)), (1, .fn 35 [] [.ptr 0 0, .ptr 2 0, .ptr 3 0])] func31 rfl (by kernel_rfl) (sq (dn [(0, .pv (encSl R_E_api_Expr a1)), (1, .fn 35 [] [.ptr 0 0, .ptr 2 0, .ptr 3 0])] ?_))
  obtain ⟨k8, hk8, hm⟩ := withK_some hm
  refine mid (fun t H => (∃ (w1 : AV) (w2 : AV), k8 none = some r ∧ t = mk 21 [(1, .fn 35 [] [.ptr 0 0, .ptr 2 0, .ptr 3 0]), (8, .pv (encSl R_E_api_Expr a1)), (9, aI ((sll a1).length : Int)), (10, w1), (11, w2)] ∧ H = [.box [.fn 27 [] [.ptr 1 0]] false, .box [.pv (encSl R_api_Table a0)] false, .box [.pv (.fn 29 [] [])] false, .box [.fn 30 [] [.ptr 4 0]] false, .box [.pv .nils] false]) ∨ (∃ (y3 : (List Int)) (w1 : AV) (w2 : AV) (g4 : Nat) (g6 : Nat), k8 (some y3) = some r ∧ t = mk 21 [(1, .fn 35 [] [.ptr 0 0, .ptr 2 0, .ptr 3 0]), (8, .pv (encSl R_E_api_Expr a1)), (9, aI ((sll a1).length : Int)), (10, w1), (11, w2)] ∧ H = [.box [.fn 27 [] [.ptr 1 0]] false, .box [.pv (encSl R_api_Table a0)] false, .box [.pv (.fn 29 [] [])] false, .box [.fn 30 [] [.ptr 4 0]] false, .box [aR 5 1 g4] false, bR 3 1 (rI .i64) y3 g6 0] ∧ y3.length = g4 ∧ g6 ≤ y3.length)) ?_ ?_
  ·
   rintro _ _ (⟨w1, w2, hm, rfl, rfl⟩ | ⟨y3, w1, w2, g4, g6, hm, rfl, rfl, q5, q7⟩)
   ·
    subst hk8
    refine sq (dn [(4, aI 0)] (wp_ret ?_))
    obtain rfl := Option.some.inj hm
    exact ⟨trivial, aI 0, [.box [.fn 27 [] [.ptr 1 0]] false, .box [.pv (encSl R_api_Table a0)] false, .box [.pv (.fn 29 [] [])] false, .box [.fn 30 [] [.ptr 4 0]] false, .box [.pv .nils] false], by kernel_rfl, rfl, rfl⟩
   ·
    subst hk8
    refine sq (dn [(4, aI 0)] (wp_ret ?_))
    obtain rfl := Option.some.inj hm
    exact ⟨trivial, aI 0, [.box [.fn 27 [] [.ptr 1 0]] false, .box [.pv (encSl R_api_Table a0)] false, .box [.pv (.fn 29 [] [])] false, .box [.fn 30 [] [.ptr 4 0]] false, .box [aR 5 1 g4] false, bR 3 1 (rI .i64) y3 g6 0], by kernel_rfl, g4, g6, (by first | rfl | assumption | omega | (simp only [List.length_set, List.length_append, List.length_cons, List.length_nil, List.length_replicate, List.length_drop] at * <;> omega)), (by first | exact Nat.zero_le _ | exact Nat.le_refl _ | assumption | omega | (simp only [List.length_set, List.length_append, List.length_cons, List.length_nil, List.length_replicate, List.length_drop] at * <;> omega)), rfl, rfl⟩
  refine sq (rg (s1 1 [(8, .pv (encSl R_E_api_Expr a1))] (dv 9 (v := aI ((sll a1).length : Int)) (len_slO R_E_api_Expr a1 t23 (by kernel_rfl)) (by kernel_rfl) (fq 1 [(1, .fn 35 [] [.ptr 0 0, .ptr 2 0, .ptr 3 0]), (8, .pv (encSl R_E_api_Expr a1)), (9, aI ((sll a1).length : Int)), (10, aI 0)] (bq ?_)))))
  refine loopF (fun mm t H => (∃ (y18 : Int), query_each_Expr_query_Right_5_l2 n a0 a1 k8 mm none y18 = some r ∧ t = mk 21 [(1, .fn 35 [] [.ptr 0 0, .ptr 2 0, .ptr 3 0]), (8, .pv (encSl R_E_api_Expr a1)), (9, aI ((sll a1).length : Int)), (10, aI y18)] ∧ H = [.box [.fn 27 [] [.ptr 1 0]] false, .box [.pv (encSl R_api_Table a0)] false, .box [.pv (.fn 29 [] [])] false, .box [.fn 30 [] [.ptr 4 0]] false, .box [.pv .nils] false]) ∨ (∃ (y17 : (List Int)) (y18 : Int) (g19 : Nat) (g21 : Nat), query_each_Expr_query_Right_5_l2 n a0 a1 k8 mm (some y17) y18 = some r ∧ t = mk 21 [(1, .fn 35 [] [.ptr 0 0, .ptr 2 0, .ptr 3 0]), (8, .pv (encSl R_E_api_Expr a1)), (9, aI ((sll a1).length : Int)), (10, aI y18)] ∧ H = [.box [.fn 27 [] [.ptr 1 0]] false, .box [.pv (encSl R_api_Table a0)] false, .box [.pv (.fn 29 [] [])] false, .box [.fn 30 [] [.ptr 4 0]] false, .box [aR 5 1 g19] false, bR 3 1 (rI .i64) y17 g21 0] ∧ y17.length = g19 ∧ g21 ≤ y17.length)) (.inl ⟨0, hm, rfl, rfl⟩) ?_ ?_
  · rintro _ _ (⟨y18, hm, _⟩ | ⟨y17, y18, g19, g21, hm, _⟩) <;> exact nomatch hm
  rintro m23 _ _ (⟨y18, hm, rfl, rfl⟩ | ⟨y17, y18, g19, g21, hm, rfl, rfl, q20, q22⟩)
  ·
   simp only [query_each_Expr_query_Right_5_l2] at hm
   refine sq (dn [(1, .fn 35 [] [.ptr 0 0, .ptr 2 0, .ptr 3 0]), (8, .pv (encSl R_E_api_Expr a1)), (9, aI ((sll a1).length : Int)), (10, aI y18), (11, aB (decide (y18 < ((sll a1).length : Int))))] ?_)
   refine sq ?_
   rcases bif_some hm with ⟨h24, hm⟩ | ⟨h24, hm⟩
   ·
    refine c1 h24 (wp_skip (sq (bq (sq (rg ?_)))))
    obtain ⟨x25, h26, hm⟩ := bs hm
    refine dv 12 (v := .pv (.ptr (R_api_Expr (un_api_Expr x25)) 0)) (ia_slE R_E_api_Expr a1 .i64 t23 t44 h26 (R_un_api_Expr x25) rfl (by kernel_rfl)) (by kernel_rfl) (stf 3 [(1, .fn 35 [] [.ptr 0 0, .ptr 2 0, .ptr 3 0]), (6, .ptr 5 0), (8, .pv (encSl R_E_api_Expr a1)), (9, aI ((sll a1).length : Int)), (10, aI y18)] [.box [.fn 27 [] [.ptr 1 0]] false, .box [.pv (encSl R_api_Table a0)] false, .box [.pv (.fn 29 [] [])] false, .box [.fn 30 [] [.ptr 4 0]] false, .box [.pv .nils] false, .box [aI ((un_api_Expr x25).fKind), aI ((un_api_Expr x25).fRel), aI ((un_api_Expr x25).fCol), aI (((un_api_Expr x25).fConst).fKind), aI (((un_api_Expr x25).fConst).fInt), aF (((un_api_Expr x25).fConst).fFloat), aS (((un_api_Expr x25).fConst).fText), .pv (encSl R_E_api_Expr ((un_api_Expr x25).fKids))] false] (by kernel_rfl) (sq (rg (s1 2 [(15, .agg [aI ((un_api_Expr x25).fKind), aI ((un_api_Expr x25).fRel), aI ((un_api_Expr x25).fCol), aI (((un_api_Expr x25).fConst).fKind), aI (((un_api_Expr x25).fConst).fInt), aF (((un_api_Expr x25).fConst).fFloat), aS (((un_api_Expr x25).fConst).fText), .pv (encSl R_E_api_Expr ((un_api_Expr x25).fKids))]), (14, .fn 35 [] [.ptr 0 0, .ptr 2 0, .ptr 3 0])] ?_))))
    obtain ⟨x30, h27, hm⟩ := bs hm
    rcases x30 with ⟨_ | x28, x29⟩
    ·
     obtain ⟨vv, H1, hC, rfl, rfl⟩ := ok_query_Right_5 h27
     refine dR [(16, aI x29)] [.box [.fn 27 [] [.ptr 1 0]] false, .box [.pv (encSl R_api_Table a0)] false, .box [.pv (.fn 29 [] [])] false, .box [.fn 30 [] [.ptr 4 0]] false, .box [.pv .nils] false, .box [aI ((un_api_Expr x25).fKind), aI ((un_api_Expr x25).fRel), aI ((un_api_Expr x25).fCol), aI (((un_api_Expr x25).fConst).fKind), aI (((un_api_Expr x25).fConst).fInt), aF (((un_api_Expr x25).fConst).fFloat), aS (((un_api_Expr x25).fConst).fText), .pv (encSl R_E_api_Expr ((un_api_Expr x25).fKids))] false] [0, 1, 2, 3, 4] [.agg [aI ((un_api_Expr x25).fKind), aI ((un_api_Expr x25).fRel), aI ((un_api_Expr x25).fCol), aI (((un_api_Expr x25).fConst).fKind), aI (((un_api_Expr x25).fConst).fInt), aF (((un_api_Expr x25).fConst).fFloat), aS (((un_api_Expr x25).fConst).fText), .pv (encSl R_E_api_Expr ((un_api_Expr x25).fKids))], .ptr 0 0, .ptr 2 0, .ptr 3 0] (by kernel_rfl) (by kernel_rfl) (by kernel_rfl) hC (by kernel_rfl) (fq 1 [(1, .fn 35 [] [.ptr 0 0, .ptr 2 0, .ptr 3 0]), (7, aI x29), (8, .pv (encSl R_E_api_Expr a1)), (9, aI ((sll a1).length : Int)), (10, aI y18)] (sq (dn [(1, .fn 35 [] [.ptr 0 0, .ptr 2 0, .ptr 3 0]), (7, aI x29), (8, .pv (encSl R_E_api_Expr a1)), (9, aI ((sll a1).length : Int)), (10, aI y18), (18, aB (x29 != 0))] ?_)))
     rcases bif_some hm with ⟨h31, hm⟩ | ⟨h31, hm⟩
     ·
      refine c1 h31 (sq (dn [(4, aI x29)] (wp_ret ?_)))
      obtain rfl := Option.some.inj hm
      exact ⟨trivial, aI x29, [.box [.fn 27 [] [.ptr 1 0]] false, .box [.pv (encSl R_api_Table a0)] false, .box [.pv (.fn 29 [] [])] false, .box [.fn 30 [] [.ptr 4 0]] false, .box [.pv .nils] false], by kernel_rfl, rfl, rfl⟩
     ·
      refine c0 h31 (wp_skip (dn [(1, .fn 35 [] [.ptr 0 0, .ptr 2 0, .ptr 3 0]), (8, .pv (encSl R_E_api_Expr a1)), (9, aI ((sll a1).length : Int)), (10, aI (IntKind.wrap .i64 (y18 + 1)))] ?_))
      exact ⟨_, _, tidyL [(1, .fn 35 [] [.ptr 0 0, .ptr 2 0, .ptr 3 0]), (8, .pv (encSl R_E_api_Expr a1)), (9, aI ((sll a1).length : Int)), (10, aI (IntKind.wrap .i64 (y18 + 1)))] [.box [.fn 27 [] [.ptr 1 0]] false, .box [.pv (encSl R_api_Table a0)] false, .box [.pv (.fn 29 [] [])] false, .box [.fn 30 [] [.ptr 4 0]] false, .box [.pv .nils] false] (by kernel_rfl), .inl ⟨(IntKind.wrap .i64 (y18 + 1)), hm, rfl, rfl⟩⟩
    ·
     obtain ⟨vv, H1, hC, rfl, rfl⟩ := ok_query_Right_5 h27
     refine dR [(16, aI x29)] [.box [.fn 27 [] [.ptr 1 0]] false, .box [.pv (encSl R_api_Table a0)] false, .box [.pv (.fn 29 [] [])] false, .box [.fn 30 [] [.ptr 4 0]] false, .box [aR 6 1 x28.length] false, .box [aI ((un_api_Expr x25).fKind), aI ((un_api_Expr x25).fRel), aI ((un_api_Expr x25).fCol), aI (((un_api_Expr x25).fConst).fKind), aI (((un_api_Expr x25).fConst).fInt), aF (((un_api_Expr x25).fConst).fFloat), aS (((un_api_Expr x25).fConst).fText), .pv (encSl R_E_api_Expr ((un_api_Expr x25).fKids))] false, bR 3 1 (rI .i64) x28 0 0] [0, 1, 2, 3, 4] [.agg [aI ((un_api_Expr x25).fKind), aI ((un_api_Expr x25).fRel), aI ((un_api_Expr x25).fCol), aI (((un_api_Expr x25).fConst).fKind), aI (((un_api_Expr x25).fConst).fInt), aF (((un_api_Expr x25).fConst).fFloat), aS (((un_api_Expr x25).fConst).fText), .pv (encSl R_E_api_Expr ((un_api_Expr x25).fKids))], .ptr 0 0, .ptr 2 0, .ptr 3 0] (by kernel_rfl) (by kernel_rfl) (by kernel_rfl) hC (by kernel_rfl) (fq 1 [(1, .fn 35 [] [.ptr 0 0, .ptr 2 0, .ptr 3 0]), (7, aI x29), (8, .pv (encSl R_E_api_Expr a1)), (9, aI ((sll a1).length : Int)), (10, aI y18)] (sq (dn [(1, .fn 35 [] [.ptr 0 0, .ptr 2 0, .ptr 3 0]), (7, aI x29), (8, .pv (encSl R_E_api_Expr a1)), (9, aI ((sll a1).length : Int)), (10, aI y18), (18, aB (x29 != 0))] ?_)))
     rcases bif_some hm with ⟨h32, hm⟩ | ⟨h32, hm⟩
     ·
      refine c1 h32 (sq (dn [(4, aI x29)] (wp_ret ?_)))
      obtain rfl := Option.some.inj hm
      exact ⟨trivial, aI x29, [.box [.fn 27 [] [.ptr 1 0]] false, .box [.pv (encSl R_api_Table a0)] false, .box [.pv (.fn 29 [] [])] false, .box [.fn 30 [] [.ptr 4 0]] false, .box [aR 5 1 x28.length] false, bR 3 1 (rI .i64) x28 0 0], by kernel_rfl, x28.length, 0, (by first | rfl | assumption | omega | (simp only [List.length_set, List.length_append, List.length_cons, List.length_nil, List.length_replicate, List.length_drop] at * <;> omega)), (by first | exact Nat.zero_le _ | exact Nat.le_refl _ | assumption | omega | (simp only [List.length_set, List.length_append, List.length_cons, List.length_nil, List.length_replicate, List.length_drop] at * <;> omega)), rfl, rfl⟩
     ·
      refine c0 h32 (wp_skip (dn [(1, .fn 35 [] [.ptr 0 0, .ptr 2 0, .ptr 3 0]), (8, .pv (encSl R_E_api_Expr a1)), (9, aI ((sll a1).length : Int)), (10, aI (IntKind.wrap .i64 (y18 + 1)))] ?_))
      exact ⟨_, _, tidyL [(1, .fn 35 [] [.ptr 0 0, .ptr 2 0, .ptr 3 0]), (8, .pv (encSl R_E_api_Expr a1)), (9, aI ((sll a1).length : Int)), (10, aI (IntKind.wrap .i64 (y18 + 1)))] [.box [.fn 27 [] [.ptr 1 0]] false, .box [.pv (encSl R_api_Table a0)] false, .box [.pv (.fn 29 [] [])] false, .box [.fn 30 [] [.ptr 4 0]] false, .box [aR 5 1 x28.length] false, bR 3 1 (rI .i64) x28 0 0] (by kernel_rfl), .inr (⟨x28, (IntKind.wrap .i64 (y18 + 1)), x28.length, 0, hm, rfl, rfl, (by first | rfl | assumption | omega | (simp only [List.length_set, List.length_append, List.length_cons, List.length_nil, List.length_replicate, List.length_drop] at * <;> omega)), (by first | exact Nat.zero_le _ | exact Nat.le_refl _ | assumption | omega | (simp only [List.length_set, List.length_append, List.length_cons, List.length_nil, List.length_replicate, List.length_drop] at * <;> omega))⟩)⟩
   ·
    refine c0 h24 (wp_exit ?_)
    exact .inl ⟨aI y18, aB (decide (y18 < ((sll a1).length : Int))), hm, (mk_same (by kernel_rfl)), rfl⟩
  ·
   simp only [query_each_Expr_query_Right_5_l2] at hm
   refine sq (dn [(1, .fn 35 [] [.ptr 0 0, .ptr 2 0, .ptr 3 0]), (8, .pv (encSl R_E_api_Expr a1)), (9, aI ((sll a1).length : Int)), (10, aI y18), (11, aB (decide (y18 < ((sll a1).length : Int))))] ?_)
   refine sq ?_
   rcases bif_some hm with ⟨h33, hm⟩ | ⟨h33, hm⟩
   ·
    refine c1 h33 (wp_skip (sq (bq (sq (rg ?_)))))
    obtain ⟨x34, h35, hm⟩ := bs hm
    refine dv 12 (v := .pv (.ptr (R_api_Expr (un_api_Expr x34)) 0)) (ia_slE R_E_api_Expr a1 .i64 t23 t44 h35 (R_un_api_Expr x34) rfl (by kernel_rfl)) (by kernel_rfl) (stf 3 [(1, .fn 35 [] [.ptr 0 0, .ptr 2 0, .ptr 3 0]), (6, .ptr 6 0), (8, .pv (encSl R_E_api_Expr a1)), (9, aI ((sll a1).length : Int)), (10, aI y18)] [.box [.fn 27 [] [.ptr 1 0]] false, .box [.pv (encSl R_api_Table a0)] false, .box [.pv (.fn 29 [] [])] false, .box [.fn 30 [] [.ptr 4 0]] false, .box [aR 5 1 g19] false, bR 3 1 (rI .i64) y17 g21 0, .box [aI ((un_api_Expr x34).fKind), aI ((un_api_Expr x34).fRel), aI ((un_api_Expr x34).fCol), aI (((un_api_Expr x34).fConst).fKind), aI (((un_api_Expr x34).fConst).fInt), aF (((un_api_Expr x34).fConst).fFloat), aS (((un_api_Expr x34).fConst).fText), .pv (encSl R_E_api_Expr ((un_api_Expr x34).fKids))] false] (by kernel_rfl) (sq (rg (s1 2 [(15, .agg [aI ((un_api_Expr x34).fKind), aI ((un_api_Expr x34).fRel), aI ((un_api_Expr x34).fCol), aI (((un_api_Expr x34).fConst).fKind), aI (((un_api_Expr x34).fConst).fInt), aF (((un_api_Expr x34).fConst).fFloat), aS (((un_api_Expr x34).fConst).fText), .pv (encSl R_E_api_Expr ((un_api_Expr x34).fKids))]), (14, .fn 35 [] [.ptr 0 0, .ptr 2 0, .ptr 3 0])] ?_))))
    obtain ⟨⟨x37, x38⟩, h36, hm⟩ := bs hm
    obtain ⟨vv, H1, hC, g39, g40, q41, q42, rfl, rfl⟩ := ok_query_Right_5_2 g19 g21 (by first | rfl | assumption | omega | (simp only [List.length_set, List.length_append, List.length_cons, List.length_nil, List.length_replicate, List.length_drop] at * <;> omega)) (by first | exact Nat.zero_le _ | exact Nat.le_refl _ | assumption | omega | (simp only [List.length_set, List.length_append, List.length_cons, List.length_nil, List.length_replicate, List.length_drop] at * <;> omega)) h36
    refine dR [(16, aI x38)] [.box [.fn 27 [] [.ptr 1 0]] false, .box [.pv (encSl R_api_Table a0)] false, .box [.pv (.fn 29 [] [])] false, .box [.fn 30 [] [.ptr 4 0]] false, .box [aR 5 1 g39] false, bR 3 1 (rI .i64) x37 g40 0, .box [aI ((un_api_Expr x34).fKind), aI ((un_api_Expr x34).fRel), aI ((un_api_Expr x34).fCol), aI (((un_api_Expr x34).fConst).fKind), aI (((un_api_Expr x34).fConst).fInt), aF (((un_api_Expr x34).fConst).fFloat), aS (((un_api_Expr x34).fConst).fText), .pv (encSl R_E_api_Expr ((un_api_Expr x34).fKids))] false] [0, 1, 2, 3, 4, 5] [.agg [aI ((un_api_Expr x34).fKind), aI ((un_api_Expr x34).fRel), aI ((un_api_Expr x34).fCol), aI (((un_api_Expr x34).fConst).fKind), aI (((un_api_Expr x34).fConst).fInt), aF (((un_api_Expr x34).fConst).fFloat), aS (((un_api_Expr x34).fConst).fText), .pv (encSl R_E_api_Expr ((un_api_Expr x34).fKids))], .ptr 0 0, .ptr 2 0, .ptr 3 0] (by kernel_rfl) (by kernel_rfl) (by kernel_rfl) hC (by kernel_rfl) (fq 1 [(1, .fn 35 [] [.ptr 0 0, .ptr 2 0, .ptr 3 0]), (7, aI x38), (8, .pv (encSl R_E_api_Expr a1)), (9, aI ((sll a1).length : Int)), (10, aI y18)] (sq (dn [(1, .fn 35 [] [.ptr 0 0, .ptr 2 0, .ptr 3 0]), (7, aI x38), (8, .pv (encSl R_E_api_Expr a1)), (9, aI ((sll a1).length : Int)), (10, aI y18), (18, aB (x38 != 0))] ?_)))
    rcases bif_some hm with ⟨h43, hm⟩ | ⟨h43, hm⟩
    ·
     refine c1 h43 (sq (dn [(4, aI x38)] (wp_ret ?_)))
     obtain rfl := Option.some.inj hm
     exact ⟨trivial, aI x38, [.box [.fn 27 [] [.ptr 1 0]] false, .box [.pv (encSl R_api_Table a0)] false, .box [.pv (.fn 29 [] [])] false, .box [.fn 30 [] [.ptr 4 0]] false, .box [aR 5 1 g39] false, bR 3 1 (rI .i64) x37 g40 0], by kernel_rfl, g39, g40, (by first | rfl | assumption | omega | (simp only [List.length_set, List.length_append, List.length_cons, List.length_nil, List.length_replicate, List.length_drop] at * <;> omega)), (by first | exact Nat.zero_le _ | exact Nat.le_refl _ | assumption | omega | (simp only [List.length_set, List.length_append, List.length_cons, List.length_nil, List.length_replicate, List.length_drop] at * <;> omega)), rfl, rfl⟩
    ·
     refine c0 h43 (wp_skip (dn [(1, .fn 35 [] [.ptr 0 0, .ptr 2 0, .ptr 3 0]), (8, .pv (encSl R_E_api_Expr a1)), (9, aI ((sll a1).length : Int)), (10, aI (IntKind.wrap .i64 (y18 + 1)))] ?_))
     exact ⟨_, _, tidyL [(1, .fn 35 [] [.ptr 0 0, .ptr 2 0, .ptr 3 0]), (8, .pv (encSl R_E_api_Expr a1)), (9, aI ((sll a1).length : Int)), (10, aI (IntKind.wrap .i64 (y18 + 1)))] [.box [.fn 27 [] [.ptr 1 0]] false, .box [.pv (encSl R_api_Table a0)] false, .box [.pv (.fn 29 [] [])] false, .box [.fn 30 [] [.ptr 4 0]] false, .box [aR 5 1 g39] false, bR 3 1 (rI .i64) x37 g40 0] (by kernel_rfl), .inr (⟨x37, (IntKind.wrap .i64 (y18 + 1)), g39, g40, hm, rfl, rfl, (by first | rfl | assumption | omega | (simp only [List.length_set, List.length_append, List.length_cons, List.length_nil, List.length_replicate, List.length_drop] at * <;> omega)), (by first | exact Nat.zero_le _ | exact Nat.le_refl _ | assumption | omega | (simp only [List.length_set, List.length_append, List.length_cons, List.length_nil, List.length_replicate, List.length_drop] at * <;> omega))⟩)⟩
   ·
    refine c0 h33 (wp_exit ?_)
    exact .inr (⟨y17, aI y18, aB (decide (y18 < ((sll a1).length : Int))), g19, g21, hm, (mk_same (by kernel_rfl)), rfl, (by first | rfl | assumption | omega | (simp only [List.length_set, List.length_append, List.length_cons, List.length_nil, List.length_replicate, List.length_drop] at * <;> omega)), (by first | exact Nat.zero_le _ | exact Nat.le_refl _ | assumption | omega | (simp only [List.length_set, List.length_append, List.length_cons, List.length_nil, List.length_replicate, List.length_drop] at * <;> omega))⟩)
theorem ok_query_Right_6_1 {n : Nat} {a0 : Int} {r : Unit} (hm : query_Right_6_1 n a0 = some r) :
    ∃ vv H1, call G n 38 [aI a0, .ptr 0 0] [.box [.fn 30 [] [.ptr 1 0]] false, .box [.pv .nils] false] = some (.ret vv, H1) ∧ (vv = .tup [] ∧ H1 = [.box [.fn 30 [] [.ptr 1 0]] false, .box [aR 2 1 (([2] : List Int).length)] false, bR 3 1 (rI .i64) ([2] : List Int) 0 0]) := by
  unfold query_Right_6_1 at hm
  obtain ⟨n, rfl, h0⟩ := at1_some hm
  replace hm := h0; clear h0
  refine callE 5 [(0, aI a0), (1, .ptr 0 0)] func38 rfl (by kernel_rfl) (rg (s1 1 [(3, .fn 30 [] [.ptr 1 0])] ?_))
  obtain ⟨_, h1, hm⟩ := bs hm
  obtain ⟨vv, H1, hC, rfl, rfl⟩ := ok_query_Right_3 h1
  refine dR [(4, .tup [])] [.box [.fn 30 [] [.ptr 1 0]] false, .box [aR 2 1 (([2] : List Int).length)] false, bR 3 1 (rI .i64) ([2] : List Int) 0 0] [1] [aI 2, .ptr 1 0] (by kernel_rfl) (by kernel_rfl) (by kernel_rfl) hC (by kernel_rfl) (fin [] rfl (by kernel_rfl) ?_)
  obtain rfl := Option.some.inj hm
  exact ⟨trivial, .tup [], [.box [.fn 30 [] [.ptr 1 0]] false, .box [aR 2 1 (([2] : List Int).length)] false, bR 3 1 (rI .i64) ([2] : List Int) 0 0], by kernel_rfl, rfl, rfl⟩
theorem ok_query_Right_1_query_Right_2_query_Right_6_1 {n : Nat} {a0 : (Option (List api_Table))} {a1 : api_Expr} {r : (Option (List Int)) × Int} (hm : query_Right_1_query_Right_2_query_Right_6_1 n a0 a1 = some r) :
    ∃ vv H1, call G n 27 [.agg [aI a1.fKind, aI a1.fRel, aI a1.fCol, aI a1.fConst.fKind, aI a1.fConst.fInt, aF a1.fConst.fFloat, aS a1.fConst.fText, .pv (encSl R_E_api_Expr a1.fKids)], .pv (.fn 29 [] []), .fn 38 [] [.ptr 0 0], .ptr 2 0] [.box [.fn 30 [] [.ptr 1 0]] false, .box [.pv .nils] false, .box [.pv (encSl R_api_Table a0)] false] = some (.ret vv, H1) ∧ (match r with | (some r0, r1) => (r0.length = ([2] : List Int).length ∧ vv = aI r1 ∧ H1 = [.box [.fn 30 [] [.ptr 1 0]] false, .box [aR 3 1 (([2] : List Int).length)] false, .box [.pv (encSl R_api_Table a0)] false, bR 3 1 (rI .i64) r0 0 0]) | (none, r1) => (vv = aI r1 ∧ H1 = [.box [.fn 30 [] [.ptr 1 0]] false, .box [.pv .nils] false, .box [.pv (encSl R_api_Table a0)] false])) := by
  unfold query_Right_1_query_Right_2_query_Right_6_1 at hm
  obtain ⟨n, rfl, h0⟩ := at1_some hm
  replace hm := h0; clear h0
  refine callE 30 [(0, .agg [aI a1.fKind, aI a1.fRel, aI a1.fCol, aI a1.fConst.fKind, aI a1.fConst.fInt, aF a1.fConst.fFloat, aS a1.fConst.fText, .pv (encSl R_E_api_Expr a1.fKids)]), (1, .pv (.fn 29 [] [])), (2, .fn 38 [] [.ptr 0 0]), (3, .ptr 2 0)] func27 rfl (by kernel_rfl) (sq (det [(1, .pv (.fn 29 [] [])), (2, .fn 38 [] [.ptr 0 0]), (3, .ptr 2 0), (4, .ptr 3 0)] [.box [.fn 30 [] [.ptr 1 0]] false, .box [.pv .nils] false, .box [.pv (encSl R_api_Table a0)] false, .box [aI a1.fKind, aI a1.fRel, aI a1.fCol, aI a1.fConst.fKind, aI a1.fConst.fInt, aF a1.fConst.fFloat, aS a1.fConst.fText, .pv (encSl R_E_api_Expr a1.fKids)] false] (by kernel_rfl) (sq (rg (s1 2 [(12, .pv (encSl R_api_Table a0)), (11, .agg [aI a1.fKind, aI a1.fRel, aI a1.fCol, aI a1.fConst.fKind, aI a1.fConst.fInt, aF a1.fConst.fFloat, aS a1.fConst.fText, .pv (encSl R_E_api_Expr a1.fKids)])] ?_)))))
  obtain ⟨x1, h2, hm⟩ := bs hm
  refine dv 13 (cpure (by kernel_rfl) (ok_expr_Type h2) (by kernel_rfl) (by kernel_rfl) (by kernel_rfl)) (by kernel_rfl) (fq 5 [(1, .pv (.fn 29 [] [])), (2, .fn 38 [] [.ptr 0 0]), (8, aI x1.1), (9, aI x1.2)] ?_)
  obtain ⟨k5, hk5, hm⟩ := withK_some hm
  refine mid (fun t H => (∃ (y4 : Int) (w3 : AV), k5 y4 = some r ∧ t = mk 30 [(2, .fn 38 [] [.ptr 0 0]), (8, aI x1.1), (9, aI y4), (23, w3)] ∧ H = [.box [.fn 30 [] [.ptr 1 0]] false, .box [.pv .nils] false, .box [.pv (encSl R_api_Table a0)] false, .box [aI a1.fKind, aI a1.fRel, aI a1.fCol, aI a1.fConst.fKind, aI a1.fConst.fInt, aF a1.fConst.fFloat, aS a1.fConst.fText, .pv (encSl R_E_api_Expr a1.fKids)] false])) ?_ ?_
  ·
   rintro _ _ ⟨y4, w3, hm, rfl, rfl⟩
   subst hk5
   refine sq (sq (dn [(2, .fn 38 [] [.ptr 0 0]), (8, aI x1.1), (9, aI y4), (25, aB (y4 == 0))] ?_))
   rcases bif_some hm with ⟨h6, hm⟩ | ⟨h6, hm⟩
   ·
    refine c1 h6 (rg (s1 2 [(27, aI x1.1), (26, .fn 38 [] [.ptr 0 0])] ?_))
    obtain ⟨_, h7, hm⟩ := bs hm
    obtain ⟨vv, H1, hC, rfl, rfl⟩ := ok_query_Right_6_1 h7
    refine dR [(28, .tup [])] [.box [.fn 30 [] [.ptr 1 0]] false, .box [aR 4 1 (([2] : List Int).length)] false, .box [.pv (encSl R_api_Table a0)] false, .box [aI a1.fKind, aI a1.fRel, aI a1.fCol, aI a1.fConst.fKind, aI a1.fConst.fInt, aF a1.fConst.fFloat, aS a1.fConst.fText, .pv (encSl R_E_api_Expr a1.fKids)] false, bR 3 1 (rI .i64) ([2] : List Int) 0 0] [0, 1] [aI x1.1, .ptr 0 0] (by kernel_rfl) (by kernel_rfl) (by kernel_rfl) hC (by kernel_rfl) (fin [(9, aI y4)] rfl (by kernel_rfl) (sq (dn [(7, aI y4)] (wp_ret ?_))))
    obtain rfl := Option.some.inj hm
    exact ⟨trivial, aI y4, [.box [.fn 30 [] [.ptr 1 0]] false, .box [aR 3 1 (([2] : List Int).length)] false, .box [.pv (encSl R_api_Table a0)] false, bR 3 1 (rI .i64) ([2] : List Int) 0 0], by kernel_rfl, (by first | rfl | assumption | omega | (simp only [List.length_set, List.length_append, List.length_cons, List.length_nil, List.length_replicate, List.length_drop] at * <;> omega)), rfl, rfl⟩
   ·
    refine c0 h6 (wp_skip (sq (dn [(7, aI y4)] (wp_ret ?_))))
    obtain rfl := Option.some.inj hm
    exact ⟨trivial, aI y4, [.box [.fn 30 [] [.ptr 1 0]] false, .box [.pv .nils] false, .box [.pv (encSl R_api_Table a0)] false], by kernel_rfl, rfl, rfl⟩
  refine sq (rg (s1 3 [(18, aB (x1.2 == 0)), (17, aB (x1.2 == 0)), (16, aI x1.2)] ?_))
  rcases bif_some hm with ⟨h8, hm⟩ | ⟨h8, hm⟩
  ·
   refine known [18, 17] h8 (by kernel_rfl) (s1 2 [(20, aI x1.1), (19, .pv (.fn 29 [] []))] ?_)
   obtain ⟨x9, h10, hm⟩ := bs hm
   refine dv 21 (cpure (by kernel_rfl) (ok_query_Right_2 h10) (by kernel_rfl) (by kernel_rfl) (by kernel_rfl)) (by kernel_rfl) (fq 2 [(2, .fn 38 [] [.ptr 0 0]), (8, aI x1.1), (9, aI x1.2), (23, aB (!x9))] ?_)
   rcases bif_some hm with ⟨h11, hm⟩ | ⟨h11, hm⟩
   ·
    refine c1 h11 (dn [(2, .fn 38 [] [.ptr 0 0]), (8, aI x1.1), (9, aI 50)] ?_)
    exact ⟨50, .any, hm, (mk_same (by kernel_rfl)), rfl⟩
   ·
    refine c0 h11 (wp_skip ?_)
    exact ⟨x1.2, aB (!x9), hm, (mk_same (by kernel_rfl)), rfl⟩
  ·
   refine known [18, 17] h8 (by kernel_rfl) (fq 5 [(2, .fn 38 [] [.ptr 0 0]), (8, aI x1.1), (9, aI x1.2), (23, aB false)] (cF (by kernel_rfl) (wp_skip ?_)))
   exact ⟨x1.2, aB false, hm, (mk_same (by kernel_rfl)), rfl⟩
theorem ok_query_Right_6_2 {n : Nat} {a0 : Int} {r : Bool} (hm : query_Right_6_2 n a0 = some r) :
    call G n 39 [aI a0] [] = some (.ret (aB r), []) := by
  unfold query_Right_6_2 at hm
  obtain ⟨n, rfl, h0⟩ := at1_some hm
  replace hm := h0; clear h0
  refine callL 9 [(0, aI a0)] func39 rfl (by kernel_rfl) (sq (dn [(0, aI a0)] (sq (rg (s1 3 [(5, aB (a0 == 0)), (4, aB (a0 == 0)), (3, aI a0)] ?_)))))
  refine segP (a0 == 0) [5, 4] (fun b => [(8, aB (b || (a0 == 2))), (7, ifA b (.undef) (aB (a0 == 2))), (6, ifA b (.undef) (aI a0))]) 3 (by kernel_rfl) (by kernel_rfl) (by kernel_rfl) (fq 1 [(2, aB ((a0 == 0) || (a0 == 2)))] (wp_ret ?_))
  obtain rfl := Option.some.inj hm
  exact ⟨trivial, by kernel_rfl⟩
theorem ok_query_Right_6_3 {n : Nat} {a0 : Int} {r : Unit} (hm : query_Right_6_3 n a0 = some r) :
    ∃ vv H1, call G n 40 [aI a0, .ptr 0 0] [.box [.fn 30 [] [.ptr 1 0]] false, .box [.pv .nils] false] = some (.ret vv, H1) ∧ (vv = .tup [] ∧ H1 = [.box [.fn 30 [] [.ptr 1 0]] false, .box [aR 2 1 (([2] : List Int).length)] false, bR 3 1 (rI .i64) ([2] : List Int) 0 0]) := by
  unfold query_Right_6_3 at hm
  obtain ⟨n, rfl, h0⟩ := at1_some hm
  replace hm := h0; clear h0
  refine callE 5 [(0, aI a0), (1, .ptr 0 0)] func40 rfl (by kernel_rfl) (rg (s1 1 [(3, .fn 30 [] [.ptr 1 0])] ?_))
  obtain ⟨_, h1, hm⟩ := bs hm
  obtain ⟨vv, H1, hC, rfl, rfl⟩ := ok_query_Right_3 h1
  refine dR [(4, .tup [])] [.box [.fn 30 [] [.ptr 1 0]] false, .box [aR 2 1 (([2] : List Int).length)] false, bR 3 1 (rI .i64) ([2] : List Int) 0 0] [1] [aI 2, .ptr 1 0] (by kernel_rfl) (by kernel_rfl) (by kernel_rfl) hC (by kernel_rfl) (fin [] rfl (by kernel_rfl) ?_)
  obtain rfl := Option.some.inj hm
  exact ⟨trivial, .tup [], [.box [.fn 30 [] [.ptr 1 0]] false, .box [aR 2 1 (([2] : List Int).length)] false, bR 3 1 (rI .i64) ([2] : List Int) 0 0], by kernel_rfl, rfl, rfl⟩
theorem ok_query_Right_1_query_Right_6_2_query_Right_6_3 {n : Nat} {a0 : (Option (List api_Table))} {a1 : api_Expr} {r : (Option (List Int)) × Int} (hm : query_Right_1_query_Right_6_2_query_Right_6_3 n a0 a1 = some r) :
    ∃ vv H1, call G n 27 [.agg [aI a1.fKind, aI a1.fRel, aI a1.fCol, aI a1.fConst.fKind, aI a1.fConst.fInt, aF a1.fConst.fFloat, aS a1.fConst.fText, .pv (encSl R_E_api_Expr a1.fKids)], .pv (.fn 39 [] []), .fn 40 [] [.ptr 0 0], .ptr 2 0] [.box [.fn 30 [] [.ptr 1 0]] false, .box [.pv .nils] false, .box [.pv (encSl R_api_Table a0)] false] = some (.ret vv, H1) ∧ (match r with | (some r0, r1) => (r0.length = ([2] : List Int).length ∧ vv = aI r1 ∧ H1 = [.box [.fn 30 [] [.ptr 1 0]] false, .box [aR 3 1 (([2] : List Int).length)] false, .box [.pv (encSl R_api_Table a0)] false, bR 3 1 (rI .i64) r0 0 0]) | (none, r1) => (vv = aI r1 ∧ H1 = [.box [.fn 30 [] [.ptr 1 0]] false, .box [.pv .nils] false, .box [.pv (encSl R_api_Table a0)] false])) := by
  unfold query_Right_1_query_Right_6_2_query_Right_6_3 at hm
  obtain ⟨n, rfl, h0⟩ := at1_some hm
  replace hm := h0; clear h0
  refine callE 30 [(0, .agg [aI a1.fKind, aI a1.fRel, aI a1.fCol, aI a1.fConst.fKind, aI a1.fConst.fInt, aF a1.fConst.fFloat, aS a1.fConst.fText, .pv (encSl R_E_api_Expr a1.fKids)]), (1, .pv (.fn 39 [] [])), (2, .fn 40 [] [.ptr 0 0]), (3, .ptr 2 0)] func27 rfl (by kernel_rfl) (sq (det [(1, .pv (.fn 39 [] [])), (2, .fn 40 [] [.ptr 0 0]), (3, .ptr 2 0), (4, .ptr 3 0)] [.box [.fn 30 [] [.ptr 1 0]] false, .box [.pv .nils] false, .box [.pv (encSl R_api_Table a0)] false, .box [aI a1.fKind, aI a1.fRel, aI a1.fCol, aI a1.fConst.fKind, aI a1.fConst.fInt, aF a1.fConst.fFloat, aS a1.fConst.fText, .pv (encSl R_E_api_Expr a1.fKids)] false] (by kernel_rfl) (sq (rg (s1 2 [(12, .pv (encSl R_api_Table a0)), (11, .agg [aI a1.fKind, aI a1.fRel, aI a1.fCol, aI a1.fConst.fKind, aI a1.fConst.fInt, aF a1.fConst.fFloat, aS a1.fConst.fText, .pv (encSl R_E_api_Expr a1.fKids)])] ?_)))))
  obtain ⟨x1, h2, hm⟩ := bs hm
  refine dv 13 (cpure (by kernel_rfl) (ok_expr_Type h2) (by kernel_rfl) (by kernel_rfl) (by kernel_rfl)) (by kernel_rfl) (fq 5 [(1, .pv (.fn 39 [] [])), (2, .fn 40 [] [.ptr 0 0]), (8, aI x1.1), (9, aI x1.2)] ?_)
  obtain ⟨k5, hk5, hm⟩ := withK_some hm
  refine mid (fun t H => (∃ (y4 : Int) (w3 : AV), k5 y4 = some r ∧ t = mk 30 [(2, .fn 40 [] [.ptr 0 0]), (8, aI x1.1), (9, aI y4), (23, w3)] ∧ H = [.box [.fn 30 [] [.ptr 1 0]] false, .box [.pv .nils] false, .box [.pv (encSl R_api_Table a0)] false, .box [aI a1.fKind, aI a1.fRel, aI a1.fCol, aI a1.fConst.fKind, aI a1.fConst.fInt, aF a1.fConst.fFloat, aS a1.fConst.fText, .pv (encSl R_E_api_Expr a1.fKids)] false])) ?_ ?_
  ·
   rintro _ _ ⟨y4, w3, hm, rfl, rfl⟩
   subst hk5
   refine sq (sq (dn [(2, .fn 40 [] [.ptr 0 0]), (8, aI x1.1), (9, aI y4), (25, aB (y4 == 0))] ?_))
   rcases bif_some hm with ⟨h6, hm⟩ | ⟨h6, hm⟩
   ·
    refine c1 h6 (rg (s1 2 [(27, aI x1.1), (26, .fn 40 [] [.ptr 0 0])] ?_))
    obtain ⟨_, h7, hm⟩ := bs hm
    obtain ⟨vv, H1, hC, rfl, rfl⟩ := ok_query_Right_6_3 h7
    refine dR [(28, .tup [])] [.box [.fn 30 [] [.ptr 1 0]] false, .box [aR 4 1 (([2] : List Int).length)] false, .box [.pv (encSl R_api_Table a0)] false, .box [aI a1.fKind, aI a1.fRel, aI a1.fCol, aI a1.fConst.fKind, aI a1.fConst.fInt, aF a1.fConst.fFloat, aS a1.fConst.fText, .pv (encSl R_E_api_Expr a1.fKids)] false, bR 3 1 (rI .i64) ([2] : List Int) 0 0] [0, 1] [aI x1.1, .ptr 0 0] (by kernel_rfl) (by kernel_rfl) (by kernel_rfl) hC (by kernel_rfl) (fin [(9, aI y4)] rfl (by kernel_rfl) (sq (dn [(7, aI y4)] (wp_ret ?_))))
    obtain rfl := Option.some.inj hm
    exact ⟨trivial, aI y4, [.box [.fn 30 [] [.ptr 1 0]] false, .box [aR 3 1 (([2] : List Int).length)] false, .box [.pv (encSl R_api_Table a0)] false, bR 3 1 (rI .i64) ([2] : List Int) 0 0], by kernel_rfl, (by first | rfl | assumption | omega | (simp only [List.length_set, List.length_append, List.length_cons, List.length_nil, List.length_replicate, List.length_drop] at * <;> omega)), rfl, rfl⟩
   ·
    refine c0 h6 (wp_skip (sq (dn [(7, aI y4)] (wp_ret ?_))))
    obtain rfl := Option.some.inj hm
    exact ⟨trivial, aI y4, [.box [.fn 30 [] [.ptr 1 0]] false, .box [.pv .nils] false, .box [.pv (encSl R_api_Table a0)] false], by kernel_rfl, rfl, rfl⟩
  refine sq (rg (s1 3 [(18, aB (x1.2 == 0)), (17, aB (x1.2 == 0)), (16, aI x1.2)] ?_))
  rcases bif_some hm with ⟨h8, hm⟩ | ⟨h8, hm⟩
  ·
   refine known [18, 17] h8 (by kernel_rfl) (s1 2 [(20, aI x1.1), (19, .pv (.fn 39 [] []))] ?_)
   obtain ⟨x9, h10, hm⟩ := bs hm
   refine dv 21 (cpure (by kernel_rfl) (ok_query_Right_6_2 h10) (by kernel_rfl) (by kernel_rfl) (by kernel_rfl)) (by kernel_rfl) (fq 2 [(2, .fn 40 [] [.ptr 0 0]), (8, aI x1.1), (9, aI x1.2), (23, aB (!x9))] ?_)
   rcases bif_some hm with ⟨h11, hm⟩ | ⟨h11, hm⟩
   ·
    refine c1 h11 (dn [(2, .fn 40 [] [.ptr 0 0]), (8, aI x1.1), (9, aI 50)] ?_)
    exact ⟨50, .any, hm, (mk_same (by kernel_rfl)), rfl⟩
   ·
    refine c0 h11 (wp_skip ?_)
    exact ⟨x1.2, aB (!x9), hm, (mk_same (by kernel_rfl)), rfl⟩
  ·
   refine known [18, 17] h8 (by kernel_rfl) (fq 5 [(2, .fn 40 [] [.ptr 0 0]), (8, aI x1.1), (9, aI x1.2), (23, aB false)] (cF (by kernel_rfl) (wp_skip ?_)))
   exact ⟨x1.2, aB false, hm, (mk_same (by kernel_rfl)), rfl⟩
theorem ok_query_Right_6 {n : Nat} {a0 : (Option (List api_Table))} {a1 : api_Agg} {r : (Option (List Int)) × Int} (hm : query_Right_6 n a0 a1 = some r) :
    ∃ vv H1, call G n 37 [.agg [aI a1.fKind, aI a1.fOf.fKind, aI a1.fOf.fRel, aI a1.fOf.fCol, aI a1.fOf.fConst.fKind, aI a1.fOf.fConst.fInt, aF a1.fOf.fConst.fFloat, aS a1.fOf.fConst.fText, .pv (encSl R_E_api_Expr a1.fOf.fKids)], .ptr 0 0, .ptr 2 0, .ptr 3 0] [.box [.fn 27 [] [.ptr 1 0]] false, .box [.pv (encSl R_api_Table a0)] false, .box [.pv (.fn 29 [] [])] false, .box [.fn 30 [] [.ptr 4 0]] false, .box [.pv .nils] false] = some (.ret vv, H1) ∧ (match r with | (none, r0) => (vv = aI r0 ∧ H1 = [.box [.fn 27 [] [.ptr 1 0]] false, .box [.pv (encSl R_api_Table a0)] false, .box [.pv (.fn 29 [] [])] false, .box [.fn 30 [] [.ptr 4 0]] false, .box [.pv .nils] false]) | (some r1, r0) => (∃ (e2 : Nat), r1.length = e2 ∧ vv = aI r0 ∧ H1 = [.box [.fn 27 [] [.ptr 1 0]] false, .box [.pv (encSl R_api_Table a0)] false, .box [.pv (.fn 29 [] [])] false, .box [.fn 30 [] [.ptr 4 0]] false, .box [aR 5 1 e2] false, bR 3 1 (rI .i64) r1 0 0])) := by
  unfold query_Right_6 at hm
  obtain ⟨n, rfl, h0⟩ := at1_some hm
  replace hm := h0; clear h0
  refine callE 29 [(0, .agg [aI a1.fKind, aI a1.fOf.fKind, aI a1.fOf.fRel, aI a1.fOf.fCol, aI a1.fOf.fConst.fKind, aI a1.fOf.fConst.fInt, aF a1.fOf.fConst.fFloat, aS a1.fOf.fConst.fText, .pv (encSl R_E_api_Expr a1.fOf.fKids)]), (1, .ptr 0 0), (2, .ptr 2 0), (3, .ptr 3 0)] func37 rfl (by kernel_rfl) (sq (det [(1, .ptr 0 0), (2, .ptr 2 0), (3, .ptr 3 0), (4, .ptr 5 0)] [.box [.fn 27 [] [.ptr 1 0]] false, .box [.pv (encSl R_api_Table a0)] false, .box [.pv (.fn 29 [] [])] false, .box [.fn 30 [] [.ptr 4 0]] false, .box [.pv .nils] false, .box [aI a1.fKind, aI a1.fOf.fKind, aI a1.fOf.fRel, aI a1.fOf.fCol, aI a1.fOf.fConst.fKind, aI a1.fOf.fConst.fInt, aF a1.fOf.fConst.fFloat, aS a1.fOf.fConst.fText, .pv (encSl R_E_api_Expr a1.fOf.fKids)] false] (by kernel_rfl) ?_))
  refine sq (sq (dn [(1, .ptr 0 0), (2, .ptr 2 0), (3, .ptr 3 0), (4, .ptr 5 0), (7, aI a1.fKind)] (bq (sq (dn [(1, .ptr 0 0), (2, .ptr 2 0), (3, .ptr 3 0), (4, .ptr 5 0), (7, aI a1.fKind), (8, aB (a1.fKind == 1))] ?_)))))
  rcases bif_some hm with ⟨h1, hm⟩ | ⟨h1, hm⟩
  ·
   refine c1 h1 (sq (rg (s1 5 [(14, .fn 38 [] [.ptr 3 0]), (13, .pv (.fn 29 [] [])), (12, .agg [aI a1.fOf.fKind, aI a1.fOf.fRel, aI a1.fOf.fCol, aI a1.fOf.fConst.fKind, aI a1.fOf.fConst.fInt, aF a1.fOf.fConst.fFloat, aS a1.fOf.fConst.fText, .pv (encSl R_E_api_Expr a1.fOf.fKids)]), (11, .ptr 5 1), (10, .fn 27 [] [.ptr 1 0])] ?_)))
   obtain ⟨x5, h2, hm⟩ := bs hm
   rcases x5 with ⟨_ | x3, x4⟩
   ·
    obtain ⟨vv, H1, hC, rfl, rfl⟩ := ok_query_Right_1_query_Right_2_query_Right_6_1 h2
    refine dR [(15, aI x4)] [.box [.fn 27 [] [.ptr 1 0]] false, .box [.pv (encSl R_api_Table a0)] false, .box [.pv (.fn 29 [] [])] false, .box [.fn 30 [] [.ptr 4 0]] false, .box [.pv .nils] false, .box [aI a1.fKind, aI a1.fOf.fKind, aI a1.fOf.fRel, aI a1.fOf.fCol, aI a1.fOf.fConst.fKind, aI a1.fOf.fConst.fInt, aF a1.fOf.fConst.fFloat, aS a1.fOf.fConst.fText, .pv (encSl R_E_api_Expr a1.fOf.fKids)] false] [3, 4, 1] [.agg [aI a1.fOf.fKind, aI a1.fOf.fRel, aI a1.fOf.fCol, aI a1.fOf.fConst.fKind, aI a1.fOf.fConst.fInt, aF a1.fOf.fConst.fFloat, aS a1.fOf.fConst.fText, .pv (encSl R_E_api_Expr a1.fOf.fKids)], .pv (.fn 29 [] []), .fn 38 [] [.ptr 3 0], .ptr 1 0] (by kernel_rfl) (by kernel_rfl) (by kernel_rfl) hC (by kernel_rfl) (fq 1 [(5, aI x4)] (wp_ret ?_))
    obtain rfl := Option.some.inj hm
    exact ⟨trivial, aI x4, [.box [.fn 27 [] [.ptr 1 0]] false, .box [.pv (encSl R_api_Table a0)] false, .box [.pv (.fn 29 [] [])] false, .box [.fn 30 [] [.ptr 4 0]] false, .box [.pv .nils] false], by kernel_rfl, rfl, rfl⟩
   ·
    obtain ⟨vv, H1, hC, q6, rfl, rfl⟩ := ok_query_Right_1_query_Right_2_query_Right_6_1 h2
    refine dR [(15, aI x4)] [.box [.fn 27 [] [.ptr 1 0]] false, .box [.pv (encSl R_api_Table a0)] false, .box [.pv (.fn 29 [] [])] false, .box [.fn 30 [] [.ptr 4 0]] false, .box [aR 6 1 (([2] : List Int).length)] false, .box [aI a1.fKind, aI a1.fOf.fKind, aI a1.fOf.fRel, aI a1.fOf.fCol, aI a1.fOf.fConst.fKind, aI a1.fOf.fConst.fInt, aF a1.fOf.fConst.fFloat, aS a1.fOf.fConst.fText, .pv (encSl R_E_api_Expr a1.fOf.fKids)] false, bR 3 1 (rI .i64) x3 0 0] [3, 4, 1] [.agg [aI a1.fOf.fKind, aI a1.fOf.fRel, aI a1.fOf.fCol, aI a1.fOf.fConst.fKind, aI a1.fOf.fConst.fInt, aF a1.fOf.fConst.fFloat, aS a1.fOf.fConst.fText, .pv (encSl R_E_api_Expr a1.fOf.fKids)], .pv (.fn 29 [] []), .fn 38 [] [.ptr 3 0], .ptr 1 0] (by kernel_rfl) (by kernel_rfl) (by kernel_rfl) hC (by kernel_rfl) (fq 1 [(5, aI x4)] (wp_ret ?_))
    obtain rfl := Option.some.inj hm
    exact ⟨trivial, aI x4, [.box [.fn 27 [] [.ptr 1 0]] false, .box [.pv (encSl R_api_Table a0)] false, .box [.pv (.fn 29 [] [])] false, .box [.fn 30 [] [.ptr 4 0]] false, .box [aR 5 1 (([2] : List Int).length)] false, bR 3 1 (rI .i64) x3 0 0], by kernel_rfl, ([2] : List Int).length, (by first | rfl | assumption | omega | (simp only [List.length_set, List.length_append, List.length_cons, List.length_nil, List.length_replicate, List.length_drop] at * <;> omega)), rfl, rfl⟩
  ·
   refine c0 h1 (sq (dn [(1, .ptr 0 0), (2, .ptr 2 0), (3, .ptr 3 0), (4, .ptr 5 0), (16, aB (a1.fKind == 2))] ?_))
   rcases bif_some hm with ⟨h7, hm⟩ | ⟨h7, hm⟩
   ·
    refine c1 h7 (sq (rg (s1 4 [(21, .fn 40 [] [.ptr 3 0]), (20, .agg [aI a1.fOf.fKind, aI a1.fOf.fRel, aI a1.fOf.fCol, aI a1.fOf.fConst.fKind, aI a1.fOf.fConst.fInt, aF a1.fOf.fConst.fFloat, aS a1.fOf.fConst.fText, .pv (encSl R_E_api_Expr a1.fOf.fKids)]), (19, .ptr 5 1), (18, .fn 27 [] [.ptr 1 0])] ?_)))
    obtain ⟨x11, h8, hm⟩ := bs hm
    rcases x11 with ⟨_ | x9, x10⟩
    ·
     obtain ⟨vv, H1, hC, rfl, rfl⟩ := ok_query_Right_1_query_Right_6_2_query_Right_6_3 h8
     refine dR [(22, aI x10)] [.box [.fn 27 [] [.ptr 1 0]] false, .box [.pv (encSl R_api_Table a0)] false, .box [.pv (.fn 29 [] [])] false, .box [.fn 30 [] [.ptr 4 0]] false, .box [.pv .nils] false, .box [aI a1.fKind, aI a1.fOf.fKind, aI a1.fOf.fRel, aI a1.fOf.fCol, aI a1.fOf.fConst.fKind, aI a1.fOf.fConst.fInt, aF a1.fOf.fConst.fFloat, aS a1.fOf.fConst.fText, .pv (encSl R_E_api_Expr a1.fOf.fKids)] false] [3, 4, 1] [.agg [aI a1.fOf.fKind, aI a1.fOf.fRel, aI a1.fOf.fCol, aI a1.fOf.fConst.fKind, aI a1.fOf.fConst.fInt, aF a1.fOf.fConst.fFloat, aS a1.fOf.fConst.fText, .pv (encSl R_E_api_Expr a1.fOf.fKids)], .pv (.fn 39 [] []), .fn 40 [] [.ptr 3 0], .ptr 1 0] (by kernel_rfl) (by kernel_rfl) (by kernel_rfl) hC (by kernel_rfl) (fq 1 [(5, aI x10)] (wp_ret ?_))
     obtain rfl := Option.some.inj hm
     exact ⟨trivial, aI x10, [.box [.fn 27 [] [.ptr 1 0]] false, .box [.pv (encSl R_api_Table a0)] false, .box [.pv (.fn 29 [] [])] false, .box [.fn 30 [] [.ptr 4 0]] false, .box [.pv .nils] false], by kernel_rfl, rfl, rfl⟩
    ·
     obtain ⟨vv, H1, hC, q12, rfl, rfl⟩ := ok_query_Right_1_query_Right_6_2_query_Right_6_3 h8
     refine dR [(22, aI x10)] [.box [.fn 27 [] [.ptr 1 0]] false, .box [.pv (encSl R_api_Table a0)] false, .box [.pv (.fn 29 [] [])] false, .box [.fn 30 [] [.ptr 4 0]] false, .box [aR 6 1 (([2] : List Int).length)] false, .box [aI a1.fKind, aI a1.fOf.fKind, aI a1.fOf.fRel, aI a1.fOf.fCol, aI a1.fOf.fConst.fKind, aI a1.fOf.fConst.fInt, aF a1.fOf.fConst.fFloat, aS a1.fOf.fConst.fText, .pv (encSl R_E_api_Expr a1.fOf.fKids)] false, bR 3 1 (rI .i64) x9 0 0] [3, 4, 1] [.agg [aI a1.fOf.fKind, aI a1.fOf.fRel, aI a1.fOf.fCol, aI a1.fOf.fConst.fKind, aI a1.fOf.fConst.fInt, aF a1.fOf.fConst.fFloat, aS a1.fOf.fConst.fText, .pv (encSl R_E_api_Expr a1.fOf.fKids)], .pv (.fn 39 [] []), .fn 40 [] [.ptr 3 0], .ptr 1 0] (by kernel_rfl) (by kernel_rfl) (by kernel_rfl) hC (by kernel_rfl) (fq 1 [(5, aI x10)] (wp_ret ?_))
     obtain rfl := Option.some.inj hm
     exact ⟨trivial, aI x10, [.box [.fn 27 [] [.ptr 1 0]] false, .box [.pv (encSl R_api_Table a0)] false, .box [.pv (.fn 29 [] [])] false, .box [.fn 30 [] [.ptr 4 0]] false, .box [aR 5 1 (([2] : List Int).length)] false, bR 3 1 (rI .i64) x9 0 0], by kernel_rfl, ([2] : List Int).length, (by first | rfl | assumption | omega | (simp only [List.length_set, List.length_append, List.length_cons, List.length_nil, List.length_replicate, List.length_drop] at * <;> omega)), rfl, rfl⟩
   ·
    refine c0 h7 (wp_skip (sq (rg (s1 5 [(27, .fn 30 [] [.ptr 4 0]), (26, .pv (.fn 29 [] [])), (25, .agg [aI a1.fOf.fKind, aI a1.fOf.fRel, aI a1.fOf.fCol, aI a1.fOf.fConst.fKind, aI a1.fOf.fConst.fInt, aF a1.fOf.fConst.fFloat, aS a1.fOf.fConst.fText, .pv (encSl R_E_api_Expr a1.fOf.fKids)]), (24, .ptr 5 1), (23, .fn 27 [] [.ptr 1 0])] ?_))))
    obtain ⟨x16, h13, hm⟩ := bs hm
    rcases x16 with ⟨_ | x14, x15⟩
    ·
     obtain ⟨vv, H1, hC, rfl, rfl⟩ := ok_query_Right_1_query_Right_2_query_Right_3 h13
     refine dR [(28, aI x15)] [.box [.fn 27 [] [.ptr 1 0]] false, .box [.pv (encSl R_api_Table a0)] false, .box [.pv (.fn 29 [] [])] false, .box [.fn 30 [] [.ptr 4 0]] false, .box [.pv .nils] false, .box [aI a1.fKind, aI a1.fOf.fKind, aI a1.fOf.fRel, aI a1.fOf.fCol, aI a1.fOf.fConst.fKind, aI a1.fOf.fConst.fInt, aF a1.fOf.fConst.fFloat, aS a1.fOf.fConst.fText, .pv (encSl R_E_api_Expr a1.fOf.fKids)] false] [4, 1] [.agg [aI a1.fOf.fKind, aI a1.fOf.fRel, aI a1.fOf.fCol, aI a1.fOf.fConst.fKind, aI a1.fOf.fConst.fInt, aF a1.fOf.fConst.fFloat, aS a1.fOf.fConst.fText, .pv (encSl R_E_api_Expr a1.fOf.fKids)], .pv (.fn 29 [] []), .fn 30 [] [.ptr 4 0], .ptr 1 0] (by kernel_rfl) (by kernel_rfl) (by kernel_rfl) hC (by kernel_rfl) (fq 1 [(5, aI x15)] (wp_ret ?_))
     obtain rfl := Option.some.inj hm
     exact ⟨trivial, aI x15, [.box [.fn 27 [] [.ptr 1 0]] false, .box [.pv (encSl R_api_Table a0)] false, .box [.pv (.fn 29 [] [])] false, .box [.fn 30 [] [.ptr 4 0]] false, .box [.pv .nils] false], by kernel_rfl, rfl, rfl⟩
    ·
     obtain ⟨vv, H1, hC, rfl, rfl⟩ := ok_query_Right_1_query_Right_2_query_Right_3 h13
     refine dR [(28, aI x15)] [.box [.fn 27 [] [.ptr 1 0]] false, .box [.pv (encSl R_api_Table a0)] false, .box [.pv (.fn 29 [] [])] false, .box [.fn 30 [] [.ptr 4 0]] false, .box [aR 6 1 x14.length] false, .box [aI a1.fKind, aI a1.fOf.fKind, aI a1.fOf.fRel, aI a1.fOf.fCol, aI a1.fOf.fConst.fKind, aI a1.fOf.fConst.fInt, aF a1.fOf.fConst.fFloat, aS a1.fOf.fConst.fText, .pv (encSl R_E_api_Expr a1.fOf.fKids)] false, bR 3 1 (rI .i64) x14 0 0] [4, 1] [.agg [aI a1.fOf.fKind, aI a1.fOf.fRel, aI a1.fOf.fCol, aI a1.fOf.fConst.fKind, aI a1.fOf.fConst.fInt, aF a1.fOf.fConst.fFloat, aS a1.fOf.fConst.fText, .pv (encSl R_E_api_Expr a1.fOf.fKids)], .pv (.fn 29 [] []), .fn 30 [] [.ptr 4 0], .ptr 1 0] (by kernel_rfl) (by kernel_rfl) (by kernel_rfl) hC (by kernel_rfl) (fq 1 [(5, aI x15)] (wp_ret ?_))
     obtain rfl := Option.some.inj hm
     exact ⟨trivial, aI x15, [.box [.fn 27 [] [.ptr 1 0]] false, .box [.pv (encSl R_api_Table a0)] false, .box [.pv (.fn 29 [] [])] false, .box [.fn 30 [] [.ptr 4 0]] false, .box [aR 5 1 x14.length] false, bR 3 1 (rI .i64) x14 0 0], by kernel_rfl, x14.length, (by first | rfl | assumption | omega | (simp only [List.length_set, List.length_append, List.length_cons, List.length_nil, List.length_replicate, List.length_drop] at * <;> omega)), rfl, rfl⟩
theorem ok_query_Right_6_1_2 (m2 : Nat) (f2 : Nat) {n : Nat} {a0 : (List Int)} {a1 : Int} {r : Unit} (hm2 : a0.length = m2) (hf2 : f2 ≤ a0.length) (hm : query_Right_6_1_2 n a0 a1 = some r) :
    ∃ vv H1, call G n 38 [aI a1, .ptr 0 0] [.box [.fn 30 [] [.ptr 1 0]] false, .box [aR 2 1 m2] false, bR 3 1 (rI .i64) a0 f2 0] = some (.ret vv, H1) ∧ (vv = .tup [] ∧ H1 = [.box [.fn 30 [] [.ptr 1 0]] false, .box [aR 2 1 ((a0 ++ ([2] : List Int)).length)] false, bR 3 1 (rI .i64) (a0 ++ ([2] : List Int)) f2 0]) := by
  unfold query_Right_6_1_2 at hm
  obtain ⟨n, rfl, h0⟩ := at1_some hm
  replace hm := h0; clear h0
  refine callE 5 [(0, aI a1), (1, .ptr 0 0)] func38 rfl (by kernel_rfl) (rg (s1 1 [(3, .fn 30 [] [.ptr 1 0])] ?_))
  obtain ⟨_, h1, hm⟩ := bs hm
  obtain ⟨vv, H1, hC, rfl, rfl⟩ := ok_query_Right_3_2 m2 f2 (by first | rfl | assumption | omega | (simp only [List.length_set, List.length_append, List.length_cons, List.length_nil, List.length_replicate, List.length_drop] at * <;> omega)) (by first | exact Nat.zero_le _ | exact Nat.le_refl _ | assumption | omega | (simp only [List.length_set, List.length_append, List.length_cons, List.length_nil, List.length_replicate, List.length_drop] at * <;> omega)) h1
  refine dR [(4, .tup [])] [.box [.fn 30 [] [.ptr 1 0]] false, .box [aR 2 1 ((a0 ++ ([2] : List Int)).length)] false, bR 3 1 (rI .i64) (a0 ++ ([2] : List Int)) f2 0] [1, 2] [aI 2, .ptr 1 0] (by kernel_rfl) (by kernel_rfl) (by kernel_rfl) hC (by kernel_rfl) (fin [] rfl (by kernel_rfl) ?_)
  obtain rfl := Option.some.inj hm
  exact ⟨trivial, .tup [], [.box [.fn 30 [] [.ptr 1 0]] false, .box [aR 2 1 ((a0 ++ ([2] : List Int)).length)] false, bR 3 1 (rI .i64) (a0 ++ ([2] : List Int)) f2 0], by kernel_rfl, rfl, rfl⟩
theorem ok_query_Right_1_query_Right_2_query_Right_6_1_2 (m2 : Nat) (f2 : Nat) {n : Nat} {a0 : (List Int)} {a1 : (Option (List api_Table))} {a2 : api_Expr} {r : (List Int) × Int} (hm2 : a0.length = m2) (hf2 : f2 ≤ a0.length) (hm : query_Right_1_query_Right_2_query_Right_6_1_2 n a0 a1 a2 = some r) :
    ∃ vv H1, call G n 27 [.agg [aI a2.fKind, aI a2.fRel, aI a2.fCol, aI a2.fConst.fKind, aI a2.fConst.fInt, aF a2.fConst.fFloat, aS a2.fConst.fText, .pv (encSl R_E_api_Expr a2.fKids)], .pv (.fn 29 [] []), .fn 38 [] [.ptr 0 0], .ptr 3 0] [.box [.fn 30 [] [.ptr 1 0]] false, .box [aR 2 1 m2] false, bR 3 1 (rI .i64) a0 f2 0, .box [.pv (encSl R_api_Table a1)] false] = some (.ret vv, H1) ∧ (match r with | (r0, r1) => (∃ (e2 : Nat) (e3 : Nat), r0.length = e2 ∧ e3 ≤ r0.length ∧ vv = aI r1 ∧ H1 = [.box [.fn 30 [] [.ptr 1 0]] false, .box [aR 2 1 e2] false, bR 3 1 (rI .i64) r0 e3 0, .box [.pv (encSl R_api_Table a1)] false])) := by
  unfold query_Right_1_query_Right_2_query_Right_6_1_2 at hm
  obtain ⟨n, rfl, h0⟩ := at1_some hm
  replace hm := h0; clear h0
  refine callE 30 [(0, .agg [aI a2.fKind, aI a2.fRel, aI a2.fCol, aI a2.fConst.fKind, aI a2.fConst.fInt, aF a2.fConst.fFloat, aS a2.fConst.fText, .pv (encSl R_E_api_Expr a2.fKids)]), (1, .pv (.fn 29 [] [])), (2, .fn 38 [] [.ptr 0 0]), (3, .ptr 3 0)] func27 rfl (by kernel_rfl) (sq (det [(1, .pv (.fn 29 [] [])), (2, .fn 38 [] [.ptr 0 0]), (3, .ptr 3 0), (4, .ptr 4 0)] [.box [.fn 30 [] [.ptr 1 0]] false, .box [aR 2 1 m2] false, bR 3 1 (rI .i64) a0 f2 0, .box [.pv (encSl R_api_Table a1)] false, .box [aI a2.fKind, aI a2.fRel, aI a2.fCol, aI a2.fConst.fKind, aI a2.fConst.fInt, aF a2.fConst.fFloat, aS a2.fConst.fText, .pv (encSl R_E_api_Expr a2.fKids)] false] (by kernel_rfl) (sq (rg (s1 2 [(12, .pv (encSl R_api_Table a1)), (11, .agg [aI a2.fKind, aI a2.fRel, aI a2.fCol, aI a2.fConst.fKind, aI a2.fConst.fInt, aF a2.fConst.fFloat, aS a2.fConst.fText, .pv (encSl R_E_api_Expr a2.fKids)])] ?_)))))
  obtain ⟨x1, h2, hm⟩ := bs hm
  refine dv 13 (cpure (by kernel_rfl) (ok_expr_Type h2) (by kernel_rfl) (by kernel_rfl) (by kernel_rfl)) (by kernel_rfl) (fq 5 [(1, .pv (.fn 29 [] [])), (2, .fn 38 [] [.ptr 0 0]), (8, aI x1.1), (9, aI x1.2)] ?_)
  obtain ⟨k5, hk5, hm⟩ := withK_some hm
  refine mid (fun t H => (∃ (y4 : Int) (w3 : AV), k5 y4 = some r ∧ t = mk 30 [(2, .fn 38 [] [.ptr 0 0]), (8, aI x1.1), (9, aI y4), (23, w3)] ∧ H = [.box [.fn 30 [] [.ptr 1 0]] false, .box [aR 2 1 m2] false, bR 3 1 (rI .i64) a0 f2 0, .box [.pv (encSl R_api_Table a1)] false, .box [aI a2.fKind, aI a2.fRel, aI a2.fCol, aI a2.fConst.fKind, aI a2.fConst.fInt, aF a2.fConst.fFloat, aS a2.fConst.fText, .pv (encSl R_E_api_Expr a2.fKids)] false])) ?_ ?_
  ·
   rintro _ _ ⟨y4, w3, hm, rfl, rfl⟩
   subst hk5
   refine sq (sq (dn [(2, .fn 38 [] [.ptr 0 0]), (8, aI x1.1), (9, aI y4), (25, aB (y4 == 0))] ?_))
   rcases bif_some hm with ⟨h6, hm⟩ | ⟨h6, hm⟩
   ·
    refine c1 h6 (rg (s1 2 [(27, aI x1.1), (26, .fn 38 [] [.ptr 0 0])] ?_))
    obtain ⟨_, h7, hm⟩ := bs hm
    obtain ⟨vv, H1, hC, rfl, rfl⟩ := ok_query_Right_6_1_2 m2 f2 (by first | rfl | assumption | omega | (simp only [List.length_set, List.length_append, List.length_cons, List.length_nil, List.length_replicate, List.length_drop] at * <;> omega)) (by first | exact Nat.zero_le _ | exact Nat.le_refl _ | assumption | omega | (simp only [List.length_set, List.length_append, List.length_cons, List.length_nil, List.length_replicate, List.length_drop] at * <;> omega)) h7
    refine dR [(28, .tup [])] [.box [.fn 30 [] [.ptr 1 0]] false, .box [aR 2 1 ((a0 ++ ([2] : List Int)).length)] false, bR 3 1 (rI .i64) (a0 ++ ([2] : List Int)) f2 0, .box [.pv (encSl R_api_Table a1)] false, .box [aI a2.fKind, aI a2.fRel, aI a2.fCol, aI a2.fConst.fKind, aI a2.fConst.fInt, aF a2.fConst.fFloat, aS a2.fConst.fText, .pv (encSl R_E_api_Expr a2.fKids)] false] [0, 1, 2] [aI x1.1, .ptr 0 0] (by kernel_rfl) (by kernel_rfl) (by kernel_rfl) hC (by kernel_rfl) (fin [(9, aI y4)] rfl (by kernel_rfl) (sq (dn [(7, aI y4)] (wp_ret ?_))))
    obtain rfl := Option.some.inj hm
    exact ⟨trivial, aI y4, [.box [.fn 30 [] [.ptr 1 0]] false, .box [aR 2 1 ((a0 ++ ([2] : List Int)).length)] false, bR 3 1 (rI .i64) (a0 ++ ([2] : List Int)) f2 0, .box [.pv (encSl R_api_Table a1)] false], by kernel_rfl, (a0 ++ ([2] : List Int)).length, f2, (by first | rfl | assumption | omega | (simp only [List.length_set, List.length_append, List.length_cons, List.length_nil, List.length_replicate, List.length_drop] at * <;> omega)), (by first | exact Nat.zero_le _ | exact Nat.le_refl _ | assumption | omega | (simp only [List.length_set, List.length_append, List.length_cons, List.length_nil, List.length_replicate, List.length_drop] at * <;> omega)), rfl, rfl⟩
   ·
    refine c0 h6 (wp_skip (sq (dn [(7, aI y4)] (wp_ret ?_))))
    obtain rfl := Option.some.inj hm
    exact ⟨trivial, aI y4, [.box [.fn 30 [] [.ptr 1 0]] false, .box [aR 2 1 m2] false, bR 3 1 (rI .i64) a0 f2 0, .box [.pv (encSl R_api_Table a1)] false], by kernel_rfl, m2, f2, (by first | rfl | assumption | omega | (simp only [List.length_set, List.length_append, List.length_cons, List.length_nil, List.length_replicate, List.length_drop] at * <;> omega)), (by first | exact Nat.zero_le _ | exact Nat.le_refl _ | assumption | omega | (simp only [List.length_set, List.length_append, List.length_cons, List.length_nil, List.length_replicate, List.length_drop] at * <;> omega)), rfl, rfl⟩
  refine sq (rg (s1 3 [(18, aB (x1.2 == 0)), (17, aB (x1.2 == 0)), (16, aI x1.2)] ?_))
  rcases bif_some hm with ⟨h8, hm⟩ | ⟨h8, hm⟩
  ·
   refine known [18, 17] h8 (by kernel_rfl) (s1 2 [(20, aI x1.1), (19, .pv (.fn 29 [] []))] ?_)
   obtain ⟨x9, h10, hm⟩ := bs hm
   refine dv 21 (cpure (by kernel_rfl) (ok_query_Right_2 h10) (by kernel_rfl) (by kernel_rfl) (by kernel_rfl)) (by kernel_rfl) (fq 2 [(2, .fn 38 [] [.ptr 0 0]), (8, aI x1.1), (9, aI x1.2), (23, aB (!x9))] ?_)
   rcases bif_some hm with ⟨h11, hm⟩ | ⟨h11, hm⟩
   ·
    refine c1 h11 (dn [(2, .fn 38 [] [.ptr 0 0]), (8, aI x1.1), (9, aI 50)] ?_)
    exact ⟨50, .any, hm, (mk_same (by kernel_rfl)), rfl⟩
   ·
    refine c0 h11 (wp_skip ?_)
    exact ⟨x1.2, aB (!x9), hm, (mk_same (by kernel_rfl)), rfl⟩
  ·
   refine known [18, 17] h8 (by kernel_rfl) (fq 5 [(2, .fn 38 [] [.ptr 0 0]), (8, aI x1.1), (9, aI x1.2), (23, aB false)] (cF (by kernel_rfl) (wp_skip ?_)))
   exact ⟨x1.2, aB false, hm, (mk_same (by kernel_rfl)), rfl⟩
theorem ok_query_Right_6_3_2 (m2 : Nat) (f2 : Nat) {n : Nat} {a0 : (List Int)} {a1 : Int} {r : Unit} (hm2 : a0.length = m2) (hf2 : f2 ≤ a0.length) (hm : query_Right_6_3_2 n a0 a1 = some r) :
    ∃ vv H1, call G n 40 [aI a1, .ptr 0 0] [.box [.fn 30 [] [.ptr 1 0]] false, .box [aR 2 1 m2] false, bR 3 1 (rI .i64) a0 f2 0] = some (.ret vv, H1) ∧ (vv = .tup [] ∧ H1 = [.box [.fn 30 [] [.ptr 1 0]] false, .box [aR 2 1 ((a0 ++ ([2] : List Int)).length)] false, bR 3 1 (rI .i64) (a0 ++ ([2] : List Int)) f2 0]) := by
  unfold query_Right_6_3_2 at hm
  obtain ⟨n, rfl, h0⟩ := at1_some hm
  replace hm := h0; clear h0
  refine callE 5 [(0, aI a1), (1, .ptr 0 0)] func40 rfl (by kernel_rfl) (rg (s1 1 [(3, .fn 30 [] [.ptr 1 0])] ?_))
  obtain ⟨_, h1, hm⟩ := bs hm
  obtain ⟨vv, H1, hC, rfl, rfl⟩ := ok_query_Right_3_2 m2 f2 (by first | rfl | assumption | omega | (simp only [List.length_set, List.length_append, List.length_cons, List.length_nil, List.length_replicate, List.length_drop] at * <;> omega)) (by first | exact Nat.zero_le _ | exact Nat.le_refl _ | assumption | omega | (simp only [List.length_set, List.length_append, List.length_cons, List.length_nil, List.length_replicate, List.length_drop] at * <;> omega)) h1
  refine dR [(4, .tup [])] [.box [.fn 30 [] [.ptr 1 0]] false, .box [aR 2 1 ((a0 ++ ([2] : List Int)).length)] false, bR 3 1 (rI .i64) (a0 ++ ([2] : List Int)) f2 0] [1, 2] [aI 2, .ptr 1 0] (by kernel_rfl) (by kernel_rfl) (by kernel_rfl) hC (by kernel_rfl) (fin [] rfl (by kernel_rfl) ?_)
  obtain rfl := Option.some.inj hm
  exact ⟨trivial, .tup [], [.box [.fn 30 [] [.ptr 1 0]] false, .box [aR 2 1 ((a0 ++ ([2] : List Int)).length)] false, bR 3 1 (rI .i64) (a0 ++ ([2] : List Int)) f2 0], by kernel_rfl, rfl, rfl⟩
theorem ok_query_Right_1_query_Right_6_2_query_Right_6_3_2 (m2 : Nat) (f2 : Nat) {n : Nat} {a0 : (List Int)} {a1 : (Option (List api_Table))} {a2 : api_Expr} {r : (List Int) × Int} (hm2 : a0.length = m2) (hf2 : f2 ≤ a0.length) (hm : query_Right_1_query_Right_6_2_query_Right_6_3_2 n a0 a1 a2 = some r) :
    ∃ vv H1, call G n 27 [.agg [aI a2.fKind, aI a2.fRel, aI a2.fCol, aI a2.fConst.fKind, aI a2.fConst.fInt, aF a2.fConst.fFloat, aS a2.fConst.fText, .pv (encSl R_E_api_Expr a2.fKids)], .pv (.fn 39 [] []), .fn 40 [] [.ptr 0 0], .ptr 3 0] [.box [.fn 30 [] [.ptr 1 0]] false, .box [aR 2 1 m2] false, bR 3 1 (rI .i64) a0 f2 0, .box [.pv (encSl R_api_Table a1)] false] = some (.ret vv, H1) ∧ (match r with | (r0, r1) => (∃ (e2 : Nat) (e3 : Nat), r0.length = e2 ∧ e3 ≤ r0.length ∧ vv = aI r1 ∧ H1 = [.box [.fn 30 [] [.ptr 1 0]] false, .box [aR 2 1 e2] false, bR 3 1 (rI .i64) r0 e3 0, .box [.pv (encSl R_api_Table a1)] false])) := by
  unfold query_Right_1_query_Right_6_2_query_Right_6_3_2 at hm
  obtain ⟨n, rfl, h0⟩ := at1_some hm
  replace hm := h0; clear h0
  refine callE 30 [(0, .agg [aI a2.fKind, aI a2.fRel, aI a2.fCol, aI a2.fConst.fKind, aI a2.fConst.fInt, aF a2.fConst.fFloat, aS a2.fConst.fText, .pv (encSl R_E_api_Expr a2.fKids)]), (1, .pv (.fn 39 [] [])), (2, .fn 40 [] [.ptr 0 0]), (3, .ptr 3 0)] func27 rfl (by kernel_rfl) (sq (det [(1, .pv (.fn 39 [] [])), (2, .fn 40 [] [.ptr 0 0]), (3, .ptr 3 0), (4, .ptr 4 0)] [.box [.fn 30 [] [.ptr 1 0]] false, .box [aR 2 1 m2] false, bR 3 1 (rI .i64) a0 f2 0, .box [.pv (encSl R_api_Table a1)] false, .box [aI a2.fKind, aI a2.fRel, aI a2.fCol, aI a2.fConst.fKind, aI a2.fConst.fInt, aF a2.fConst.fFloat, aS a2.fConst.fText, .pv (encSl R_E_api_Expr a2.fKids)] false] (by kernel_rfl) (sq (rg (s1 2 [(12, .pv (encSl R_api_Table a1)), (11, .agg [aI a2.fKind, aI a2.fRel, aI a2.fCol, aI a2.fConst.fKind, aI a2.fConst.fInt, aF a2.fConst.fFloat, aS a2.fConst.fText, .pv (encSl R_E_api_Expr a2.fKids)])] ?_)))))
  obtain ⟨x1, h2, hm⟩ := bs hm
  refine dv 13 (cpure (by kernel_rfl) (ok_expr_Type h2) (by kernel_rfl) (by kernel_rfl) (by kernel_rfl)) (by kernel_rfl) (fq 5 [(1, .pv (.fn 39 [] [])), (2, .fn 40 [] [.ptr 0 0]), (8, aI x1.1), (9, aI x1.2)] ?_)
  obtain ⟨k5, hk5, hm⟩ := withK_some hm
  refine mid (fun t H => (∃ (y4 : Int) (w3 : AV), k5 y4 = some r ∧ t = mk 30 [(2, .fn 40 [] [.ptr 0 0]), (8, aI x1.1), (9, aI y4), (23, w3)] ∧ H = [.box [.fn 30 [] [.ptr 1 0]] false, .box [aR 2 1 m2] false, bR 3 1 (rI .i64) a0 f2 0, .box [.pv (encSl R_api_Table a1)] false, .box [aI a2.fKind, aI a2.fRel, aI a2.fCol, aI a2.fConst.fKind, aI a2.fConst.fInt, aF a2.fConst.fFloat, aS a2.fConst.fText, .pv (encSl R_E_api_Expr a2.fKids)] false])) ?_ ?_
  ·
   rintro _ _ ⟨y4, w3, hm, rfl, rfl⟩
   subst hk5
   refine sq (sq (dn [(2, .fn 40 [] [.ptr 0 0]), (8, aI x1.1), (9, aI y4), (25, aB (y4 == 0))] ?_))
   rcases bif_some hm with ⟨h6, hm⟩ | ⟨h6, hm⟩
   ·
    refine c1 h6 (rg (s1 2 [(27, aI x1.1), (26, .fn 40 [] [.ptr 0 0])] ?_))
    obtain ⟨_, h7, hm⟩ := bs hm
    obtain ⟨vv, H1, hC, rfl, rfl⟩ := ok_query_Right_6_3_2 m2 f2 (by first | rfl | assumption | omega | (simp only [List.length_set, List.length_append, List.length_cons, List.length_nil, List.length_replicate, List.length_drop] at * <;> omega)) (by first | exact Nat.zero_le _ | exact Nat.le_refl _ | assumption | omega | (simp only [List.length_set, List.length_append, List.length_cons, List.length_nil, List.length_replicate, List.length_drop] at * <;> omega)) h7
    refine dR [(28, .tup [])] [.box [.fn 30 [] [.ptr 1 0]] false, .box [aR 2 1 ((a0 ++ ([2] : List Int)).length)] false, bR 3 1 (rI .i64) (a0 ++ ([2] : List Int)) f2 0, .box [.pv (encSl R_api_Table a1)] false, .box [aI a2.fKind, aI a2.fRel, aI a2.fCol, aI a2.fConst.fKind, aI a2.fConst.fInt, aF a2.fConst.fFloat, aS a2.fConst.fText, .pv (encSl R_E_api_Expr a2.fKids)] false] [0, 1, 2] [aI x1.1, .ptr 0 0] (by kernel_rfl) (by kernel_rfl) (by kernel_rfl) hC (by kernel_rfl) (fin [(9, aI y4)] rfl (by kernel_rfl) (sq (dn [(7, aI y4)] (wp_ret ?_))))
    obtain rfl := Option.some.inj hm
    exact ⟨trivial, aI y4, [.box [.fn 30 [] [.ptr 1 0]] false, .box [aR 2 1 ((a0 ++ ([2] : List Int)).length)] false, bR 3 1 (rI .i64) (a0 ++ ([2] : List Int)) f2 0, .box [.pv (encSl R_api_Table a1)] false], by kernel_rfl, (a0 ++ ([2] : List Int)).length, f2, (by first | rfl | assumption | omega | (simp only [List.length_set, List.length_append, List.length_cons, List.length_nil, List.length_replicate, List.length_drop] at * <;> omega)), (by first | exact Nat.zero_le _ | exact Nat.le_refl _ | assumption | omega | (simp only [List.length_set, List.length_append, List.length_cons, List.length_nil, List.length_replicate, List.length_drop] at * <;> omega)), rfl, rfl⟩
   ·
    refine c0 h6 (wp_skip (sq (dn [(7, aI y4)] (wp_ret ?_))))
    obtain rfl := Option.some.inj hm
    exact ⟨trivial, aI y4, [.box [.fn 30 [] [.ptr 1 0]] false, .box [aR 2 1 m2] false, bR 3 1 (rI .i64) a0 f2 0, .box [.pv (encSl R_api_Table a1)] false], by kernel_rfl, m2, f2, (by first | rfl | assumption | omega | (simp only [List.length_set, List.length_append, List.length_cons, List.length_nil, List.length_replicate, List.length_drop] at * <;> omega)), (by first | exact Nat.zero_le _ | exact Nat.le_refl _ | assumption | omega | (simp only [List.length_set, List.length_append, List.length_cons, List.length_nil, List.length_replicate, List.length_drop] at * <;> omega)), rfl, rfl⟩
  refine sq (rg (s1 3 [(18, aB (x1.2 == 0)), (17, aB (x1.2 == 0)), (16, aI x1.2)] ?_))
  rcases bif_some hm with ⟨h8, hm⟩ | ⟨h8, hm⟩
  ·
   refine known [18, 17] h8 (by kernel_rfl) (s1 2 [(20, aI x1.1), (19, .pv (.fn 39 [] []))] ?_)
   obtain ⟨x9, h10, hm⟩ := bs hm
   refine dv 21 (cpure (by kernel_rfl) (ok_query_Right_6_2 h10) (by kernel_rfl) (by kernel_rfl) (by kernel_rfl)) (by kernel_rfl) (fq 2 [(2, .fn 40 [] [.ptr 0 0]), (8, aI x1.1), (9, aI x1.2), (23, aB (!x9))] ?_)
   rcases bif_some hm with ⟨h11, hm⟩ | ⟨h11, hm⟩
   ·
    refine c1 h11 (dn [(2, .fn 40 [] [.ptr 0 0]), (8, aI x1.1), (9, aI 50)] ?_)
    exact ⟨50, .any, hm, (mk_same (by kernel_rfl)), rfl⟩
   ·
    refine c0 h11 (wp_skip ?_)
    exact ⟨x1.2, aB (!x9), hm, (mk_same (by kernel_rfl)), rfl⟩
  ·
   refine known [18, 17] h8 (by kernel_rfl) (fq 5 [(2, .fn 40 [] [.ptr 0 0]), (8, aI x1.1), (9, aI x1.2), (23, aB false)] (cF (by kernel_rfl) (wp_skip ?_)))
   exact ⟨x1.2, aB false, hm, (mk_same (by kernel_rfl)), rfl⟩
theorem ok_query_Right_6_4 (m5 : Nat) (f5 : Nat) {n : Nat} {a0 : (List Int)} {a1 : (Option (List api_Table))} {a2 : api_Agg} {r : (List Int) × Int} (hm5 : a0.length = m5) (hf5 : f5 ≤ a0.length) (hm : query_Right_6_4 n a0 a1 a2 = some r) :
    ∃ vv H1, call G n 37 [.agg [aI a2.fKind, aI a2.fOf.fKind, aI a2.fOf.fRel, aI a2.fOf.fCol, aI a2.fOf.fConst.fKind, aI a2.fOf.fConst.fInt, aF a2.fOf.fConst.fFloat, aS a2.fOf.fConst.fText, .pv (encSl R_E_api_Expr a2.fOf.fKids)], .ptr 0 0, .ptr 2 0, .ptr 3 0] [.box [.fn 27 [] [.ptr 1 0]] false, .box [.pv (encSl R_api_Table a1)] false, .box [.pv (.fn 29 [] [])] false, .box [.fn 30 [] [.ptr 4 0]] false, .box [aR 5 1 m5] false, bR 3 1 (rI .i64) a0 f5 0] = some (.ret vv, H1) ∧ (match r with | (r0, r1) => (∃ (e2 : Nat) (e3 : Nat), r0.length = e2 ∧ e3 ≤ r0.length ∧ vv = aI r1 ∧ H1 = [.box [.fn 27 [] [.ptr 1 0]] false, .box [.pv (encSl R_api_Table a1)] false, .box [.pv (.fn 29 [] [])] false, .box [.fn 30 [] [.ptr 4 0]] false, .box [aR 5 1 e2] false, bR 3 1 (rI .i64) r0 e3 0])) := by
  unfold query_Right_6_4 at hm
  obtain ⟨n, rfl, h0⟩ := at1_some hm
  replace hm := h0; clear h0
  refine callE 29 [(0, .agg [aI a2.fKind, aI a2.fOf.fKind, aI a2.fOf.fRel, aI a2.fOf.fCol, aI a2.fOf.fConst.fKind, aI a2.fOf.fConst.fInt, aF a2.fOf.fConst.fFloat, aS a2.fOf.fConst.fText, .pv (encSl R_E_api_Expr a2.fOf.fKids)]), (1, .ptr 0 0), (2, .ptr 2 0), (3, .ptr 3 0)] func37 rfl (by kernel_rfl) (sq (det [(1, .ptr 0 0), (2, .ptr 2 0), (3, .ptr 3 0), (4, .ptr 6 0)] [.box [.fn 27 [] [.ptr 1 0]] false, .box [.pv (encSl R_api_Table a1)] false, .box [.pv (.fn 29 [] [])] false, .box [.fn 30 [] [.ptr 4 0]] false, .box [aR 5 1 m5] false, bR 3 1 (rI .i64) a0 f5 0, .box [aI a2.fKind, aI a2.fOf.fKind, aI a2.fOf.fRel, aI a2.fOf.fCol, aI a2.fOf.fConst.fKind, aI a2.fOf.fConst.fInt, aF a2.fOf.fConst.fFloat, aS a2.fOf.fConst.fText, .pv (encSl R_E_api_Expr a2.fOf.fKids)] false] (by kernel_rfl) ?_))
  refine sq (sq (dn [(1, .ptr 0 0), (2, .ptr 2 0), (3, .ptr 3 0), (4, .ptr 6 0), (7, aI a2.fKind)] (bq (sq (dn [(1, .ptr 0 0), (2, .ptr 2 0), (3, .ptr 3 0), (4, .ptr 6 0), (7, aI a2.fKind), (8, aB (a2.fKind == 1))] ?_)))))
  rcases bif_some hm with ⟨h1, hm⟩ | ⟨h1, hm⟩
  ·
   refine c1 h1 (sq (rg (s1 5 [(14, .fn 38 [] [.ptr 3 0]), (13, .pv (.fn 29 [] [])), (12, .agg [aI a2.fOf.fKind, aI a2.fOf.fRel, aI a2.fOf.fCol, aI a2.fOf.fConst.fKind, aI a2.fOf.fConst.fInt, aF a2.fOf.fConst.fFloat, aS a2.fOf.fConst.fText, .pv (encSl R_E_api_Expr a2.fOf.fKids)]), (11, .ptr 6 1), (10, .fn 27 [] [.ptr 1 0])] ?_)))
   obtain ⟨⟨x3, x4⟩, h2, hm⟩ := bs hm
   obtain ⟨vv, H1, hC, g5, g6, q7, q8, rfl, rfl⟩ := ok_query_Right_1_query_Right_2_query_Right_6_1_2 m5 f5 (by first | rfl | assumption | omega | (simp only [List.length_set, List.length_append, List.length_cons, List.length_nil, List.length_replicate, List.length_drop] at * <;> omega)) (by first | exact Nat.zero_le _ | exact Nat.le_refl _ | assumption | omega | (simp only [List.length_set, List.length_append, List.length_cons, List.length_nil, List.length_replicate, List.length_drop] at * <;> omega)) h2
   refine dR [(15, aI x4)] [.box [.fn 27 [] [.ptr 1 0]] false, .box [.pv (encSl R_api_Table a1)] false, .box [.pv (.fn 29 [] [])] false, .box [.fn 30 [] [.ptr 4 0]] false, .box [aR 5 1 g5] false, bR 3 1 (rI .i64) x3 g6 0, .box [aI a2.fKind, aI a2.fOf.fKind, aI a2.fOf.fRel, aI a2.fOf.fCol, aI a2.fOf.fConst.fKind, aI a2.fOf.fConst.fInt, aF a2.fOf.fConst.fFloat, aS a2.fOf.fConst.fText, .pv (encSl R_E_api_Expr a2.fOf.fKids)] false] [3, 4, 5, 1] [.agg [aI a2.fOf.fKind, aI a2.fOf.fRel, aI a2.fOf.fCol, aI a2.fOf.fConst.fKind, aI a2.fOf.fConst.fInt, aF a2.fOf.fConst.fFloat, aS a2.fOf.fConst.fText, .pv (encSl R_E_api_Expr a2.fOf.fKids)], .pv (.fn 29 [] []), .fn 38 [] [.ptr 3 0], .ptr 1 0] (by kernel_rfl) (by kernel_rfl) (by kernel_rfl) hC (by kernel_rfl) (fq 1 [(5, aI x4)] (wp_ret ?_))
   obtain rfl := Option.some.inj hm
   exact ⟨trivial, aI x4, [.box [.fn 27 [] [.ptr 1 0]] false, .box [.pv (encSl R_api_Table a1)] false, .box [.pv (.fn 29 [] [])] false, .box [.fn 30 [] [.ptr 4 0]] false, .box [aR 5 1 g5] false, bR 3 1 (rI .i64) x3 g6 0], by kernel_rfl, g5, g6, (by first | rfl | assumption | omega | (simp only [List.length_set, List.length_append, List.length_cons, List.length_nil, List.length_replicate, List.length_drop] at * <;> omega)), (by first | exact Nat.zero_le _ | exact Nat.le_refl _ | assumption | omega | (simp only [List.length_set, List.length_append, List.length_cons, List.length_nil, List.length_replicate, List.length_drop] at * <;> omega)), rfl, rfl⟩
  ·
   refine c0 h1 (sq (dn [(1, .ptr 0 0), (2, .ptr 2 0), (3, .ptr 3 0), (4, .ptr 6 0), (16, aB (a2.fKind == 2))] ?_))
   rcases bif_some hm with ⟨h9, hm⟩ | ⟨h9, hm⟩
   ·
    refine c1 h9 (sq (rg (s1 4 [(21, .fn 40 [] [.ptr 3 0]), (20, .agg [aI a2.fOf.fKind, aI a2.fOf.fRel, aI a2.fOf.fCol, aI a2.fOf.fConst.fKind, aI a2.fOf.fConst.fInt, aF a2.fOf.fConst.fFloat, aS a2.fOf.fConst.fText, .pv (encSl R_E_api_Expr a2.fOf.fKids)]), (19, .ptr 6 1), (18, .fn 27 [] [.ptr 1 0])] ?_)))
    obtain ⟨⟨x11, x12⟩, h10, hm⟩ := bs hm
    obtain ⟨vv, H1, hC, g13, g14, q15, q16, rfl, rfl⟩ := ok_query_Right_1_query_Right_6_2_query_Right_6_3_2 m5 f5 (by first | rfl | assumption | omega | (simp only [List.length_set, List.length_append, List.length_cons, List.length_nil, List.length_replicate, List.length_drop] at * <;> omega)) (by first | exact Nat.zero_le _ | exact Nat.le_refl _ | assumption | omega | (simp only [List.length_set, List.length_append, List.length_cons, List.length_nil, List.length_replicate, List.length_drop] at * <;> omega)) h10
    refine dR [(22, aI x12)] [.box [.fn 27 [] [.ptr 1 0]] false, .box [.pv (encSl R_api_Table a1)] false, .box [.pv (.fn 29 [] [])] false, .box [.fn 30 [] [.ptr 4 0]] false, .box [aR 5 1 g13] false, bR 3 1 (rI .i64) x11 g14 0, .box [aI a2.fKind, aI a2.fOf.fKind, aI a2.fOf.fRel, aI a2.fOf.fCol, aI a2.fOf.fConst.fKind, aI a2.fOf.fConst.fInt, aF a2.fOf.fConst.fFloat, aS a2.fOf.fConst.fText, .pv (encSl R_E_api_Expr a2.fOf.fKids)] false] [3, 4, 5, 1] [.agg [aI a2.fOf.fKind, aI a2.fOf.fRel, aI a2.fOf.fCol, aI a2.fOf.fConst.fKind, aI a2.fOf.fConst.fInt, aF a2.fOf.fConst.fFloat, aS a2.fOf.fConst.fText, .pv (encSl R_E_api_Expr a2.fOf.fKids)], .pv (.fn 39 [] []), .fn 40 [] [.ptr 3 0], .ptr 1 0] (by kernel_rfl) (by kernel_rfl) (by kernel_rfl) hC (by kernel_rfl) (fq 1 [(5, aI x12)] (wp_ret ?_))
    obtain rfl := Option.some.inj hm
    exact ⟨trivial, aI x12, [.box [.fn 27 [] [.ptr 1 0]] false, .box [.pv (encSl R_api_Table a1)] false, .box [.pv (.fn 29 [] [])] false, .box [.fn 30 [] [.ptr 4 0]] false, .box [aR 5 1 g13] false, bR 3 1 (rI .i64) x11 g14 0], by kernel_rfl, g13, g14, (by first | rfl | assumption | omega | (simp only [List.length_set, List.length_append, List.length_cons, List.length_nil, List.length_replicate, List.length_drop] at * <;> omega)), (by first | exact Nat.zero_le _ | exact Nat.le_refl _ | assumption | omega | (simp only [List.length_set, List.length_append, List.length_cons, List.length_nil, List.length_replicate, List.length_drop] at * <;> omega)), rfl, rfl⟩
   ·
    refine c0 h9 (wp_skip (sq (rg (s1 5 [(27, .fn 30 [] [.ptr 4 0]), (26, .pv (.fn 29 [] [])), (25, .agg [aI a2.fOf.fKind, aI a2.fOf.fRel, aI a2.fOf.fCol, aI a2.fOf.fConst.fKind, aI a2.fOf.fConst.fInt, aF a2.fOf.fConst.fFloat, aS a2.fOf.fConst.fText, .pv (encSl R_E_api_Expr a2.fOf.fKids)]), (24, .ptr 6 1), (23, .fn 27 [] [.ptr 1 0])] ?_))))
    obtain ⟨⟨x18, x19⟩, h17, hm⟩ := bs hm
    obtain ⟨vv, H1, hC, g20, g21, q22, q23, rfl, rfl⟩ := ok_query_Right_1_query_Right_2_query_Right_3_2 m5 f5 (by first | rfl | assumption | omega | (simp only [List.length_set, List.length_append, List.length_cons, List.length_nil, List.length_replicate, List.length_drop] at * <;> omega)) (by first | exact Nat.zero_le _ | exact Nat.le_refl _ | assumption | omega | (simp only [List.length_set, List.length_append, List.length_cons, List.length_nil, List.length_replicate, List.length_drop] at * <;> omega)) h17
    refine dR [(28, aI x19)] [.box [.fn 27 [] [.ptr 1 0]] false, .box [.pv (encSl R_api_Table a1)] false, .box [.pv (.fn 29 [] [])] false, .box [.fn 30 [] [.ptr 4 0]] false, .box [aR 5 1 g20] false, bR 3 1 (rI .i64) x18 g21 0, .box [aI a2.fKind, aI a2.fOf.fKind, aI a2.fOf.fRel, aI a2.fOf.fCol, aI a2.fOf.fConst.fKind, aI a2.fOf.fConst.fInt, aF a2.fOf.fConst.fFloat, aS a2.fOf.fConst.fText, .pv (encSl R_E_api_Expr a2.fOf.fKids)] false] [4, 5, 1] [.agg [aI a2.fOf.fKind, aI a2.fOf.fRel, aI a2.fOf.fCol, aI a2.fOf.fConst.fKind, aI a2.fOf.fConst.fInt, aF a2.fOf.fConst.fFloat, aS a2.fOf.fConst.fText, .pv (encSl R_E_api_Expr a2.fOf.fKids)], .pv (.fn 29 [] []), .fn 30 [] [.ptr 4 0], .ptr 1 0] (by kernel_rfl) (by kernel_rfl) (by kernel_rfl) hC (by kernel_rfl) (fq 1 [(5, aI x19)] (wp_ret ?_))
    obtain rfl := Option.some.inj hm
    exact ⟨trivial, aI x19, [.box [.fn 27 [] [.ptr 1 0]] false, .box [.pv (encSl R_api_Table a1)] false, .box [.pv (.fn 29 [] [])] false, .box [.fn 30 [] [.ptr 4 0]] false, .box [aR 5 1 g20] false, bR 3 1 (rI .i64) x18 g21 0], by kernel_rfl, g20, g21, (by first | rfl | assumption | omega | (simp only [List.length_set, List.length_append, List.length_cons, List.length_nil, List.length_replicate, List.length_drop] at * <;> omega)), (by first | exact Nat.zero_le _ | exact Nat.le_refl _ | assumption | omega | (simp only [List.length_set, List.length_append, List.length_cons, List.length_nil, List.length_replicate, List.length_drop] at * <;> omega)), rfl, rfl⟩
theorem ok_query_each_Agg_query_Right_6 {n : Nat} {a0 : (Option (List api_Table))} {a1 : (Option (List api_Agg))} {r : (Option (List Int)) × Int} (hm : query_each_Agg_query_Right_6 n a0 a1 = some r) :
    ∃ vv H1, call G n 36 [.pv (encSl R_api_Agg a1), .fn 37 [] [.ptr 0 0, .ptr 2 0, .ptr 3 0]] [.box [.fn 27 [] [.ptr 1 0]] false, .box [.pv (encSl R_api_Table a0)] false, .box [.pv (.fn 29 [] [])] false, .box [.fn 30 [] [.ptr 4 0]] false, .box [.pv .nils] false] = some (.ret vv, H1) ∧ (match r with | (none, r0) => (vv = aI r0 ∧ H1 = [.box [.fn 27 [] [.ptr 1 0]] false, .box [.pv (encSl R_api_Table a0)] false, .box [.pv (.fn 29 [] [])] false, .box [.fn 30 [] [.ptr 4 0]] false, .box [.pv .nils] false]) | (some r1, r0) => (∃ (e2 : Nat) (e3 : Nat), r1.length = e2 ∧ e3 ≤ r1.length ∧ vv = aI r0 ∧ H1 = [.box [.fn 27 [] [.ptr 1 0]] false, .box [.pv (encSl R_api_Table a0)] false, .box [.pv (.fn 29 [] [])] false, .box [.fn 30 [] [.ptr 4 0]] false, .box [aR 5 1 e2] false, bR 3 1 (rI .i64) r1 e3 0])) := by
  unfold query_each_Agg_query_Right_6 at hm
  obtain ⟨n, rfl, h0⟩ := at1_some hm
  replace hm := h0; clear h0
  refine callE 21 [(0, .pv (encSl R_api_Agg a1)), (1, .fn 37 [] [.ptr 0 0, .ptr 2 0, .ptr 3 0])] func36 rfl (by kernel_rfl) (sq (dn [(0, .pv (encSl R_api_Agg a1)), (1, .fn 37 [] [.ptr 0 0, .ptr 2 0, .ptr 3 0])] ?_))
  obtain ⟨k8, hk8, hm⟩ := withK_some hm
  refine mid (fun t H => (∃ (w1 : AV) (w2 : AV), k8 none = some r ∧ t = mk 21 [(1, .fn 37 [] [.ptr 0 0, .ptr 2 0, .ptr 3 0]), (8, .pv (encSl R_api_Agg a1)), (9, aI ((sll a1).length : Int)), (10, w1), (11, w2)] ∧ H = [.box [.fn 27 [] [.ptr 1 0]] false, .box [.pv (encSl R_api_Table a0)] false, .box [.pv (.fn 29 [] [])] false, .box [.fn 30 [] [.ptr 4 0]] false, .box [.pv .nils] false]) ∨ (∃ (y3 : (List Int)) (w1 : AV) (w2 : AV) (g4 : Nat) (g6 : Nat), k8 (some y3) = some r ∧ t = mk 21 [(1, .fn 37 [] [.ptr 0 0, .ptr 2 0, .ptr 3 0]), (8, .pv (encSl R_api_Agg a1)), (9, aI ((sll a1).length : Int)), (10, w1), (11, w2)] ∧ H = [.box [.fn 27 [] [.ptr 1 0]] false, .box [.pv (encSl R_api_Table a0)] false, .box [.pv (.fn 29 [] [])] false, .box [.fn 30 [] [.ptr 4 0]] false, .box [aR 5 1 g4] false, bR 3 1 (rI .i64) y3 g6 0] ∧ y3.length = g4 ∧ g6 ≤ y3.length)) ?_ ?_
  ·
   rintro _ _ (⟨w1, w2, hm, rfl, rfl⟩ | ⟨y3, w1, w2, g4, g6, hm, rfl, rfl, q5, q7⟩)
   ·
    subst hk8
    refine sq (dn [(4, aI 0)] (wp_ret ?_))
    obtain rfl := Option.some.inj hm
    exact ⟨trivial, aI 0, [.box [.fn 27 [] [.ptr 1 0]] false, .box [.pv (encSl R_api_Table a0)] false, .box [.pv (.fn 29 [] [])] false, .box [.fn 30 [] [.ptr 4 0]] false, .box [.pv .nils] false], by kernel_rfl, rfl, rfl⟩
   ·
    subst hk8
    refine sq (dn [(4, aI 0)] (wp_ret ?_))
    obtain rfl := Option.some.inj hm
    exact ⟨trivial, aI 0, [.box [.fn 27 [] [.ptr 1 0]] false, .box [.pv (encSl R_api_Table a0)] false, .box [.pv (.fn 29 [] [])] false, .box [.fn 30 [] [.ptr 4 0]] false, .box [aR 5 1 g4] false, bR 3 1 (rI .i64) y3 g6 0], by kernel_rfl, g4, g6, (by first | rfl | assumption | omega | (simp only [List.length_set, List.length_append, List.length_cons, List.length_nil, List.length_replicate, List.length_drop] at * <;> omega)), (by first | exact Nat.zero_le _ | exact Nat.le_refl _ | assumption | omega | (simp only [List.length_set, List.length_append, List.length_cons, List.length_nil, List.length_replicate, List.length_drop] at * <;> omega)), rfl, rfl⟩
  refine sq (rg (s1 1 [(8, .pv (encSl R_api_Agg a1))] (dv 9 (v := aI ((sll a1).length : Int)) (len_slO R_api_Agg a1 t24 (by kernel_rfl)) (by kernel_rfl) (fq 1 [(1, .fn 37 [] [.ptr 0 0, .ptr 2 0, .ptr 3 0]), (8, .pv (encSl R_api_Agg a1)), (9, aI ((sll a1).length : Int)), (10, aI 0)] (bq ?_)))))
  refine loopF (fun mm t H => (∃ (y20 : Int), query_each_Agg_query_Right_6_l2 n a0 a1 k8 mm none y20 = some r ∧ t = mk 21 [(1, .fn 37 [] [.ptr 0 0, .ptr 2 0, .ptr 3 0]), (8, .pv (encSl R_api_Agg a1)), (9, aI ((sll a1).length : Int)), (10, aI y20)] ∧ H = [.box [.fn 27 [] [.ptr 1 0]] false, .box [.pv (encSl R_api_Table a0)] false, .box [.pv (.fn 29 [] [])] false, .box [.fn 30 [] [.ptr 4 0]] false, .box [.pv .nils] false]) ∨ (∃ (y19 : (List Int)) (y20 : Int) (g21 : Nat) (g23 : Nat), query_each_Agg_query_Right_6_l2 n a0 a1 k8 mm (some y19) y20 = some r ∧ t = mk 21 [(1, .fn 37 [] [.ptr 0 0, .ptr 2 0, .ptr 3 0]), (8, .pv (encSl R_api_Agg a1)), (9, aI ((sll a1).length : Int)), (10, aI y20)] ∧ H = [.box [.fn 27 [] [.ptr 1 0]] false, .box [.pv (encSl R_api_Table a0)] false, .box [.pv (.fn 29 [] [])] false, .box [.fn 30 [] [.ptr 4 0]] false, .box [aR 5 1 g21] false, bR 3 1 (rI .i64) y19 g23 0] ∧ y19.length = g21 ∧ g23 ≤ y19.length)) (.inl ⟨0, hm, rfl, rfl⟩) ?_ ?_
  · rintro _ _ (⟨y20, hm, _⟩ | ⟨y19, y20, g21, g23, hm, _⟩) <;> exact nomatch hm
  rintro m25 _ _ (⟨y20, hm, rfl, rfl⟩ | ⟨y19, y20, g21, g23, hm, rfl, rfl, q22, q24⟩)
  ·
   simp only [query_each_Agg_query_Right_6_l2] at hm
   refine sq (dn [(1, .fn 37 [] [.ptr 0 0, .ptr 2 0, .ptr 3 0]), (8, .pv (encSl R_api_Agg a1)), (9, aI ((sll a1).length : Int)), (10, aI y20), (11, aB (decide (y20 < ((sll a1).length : Int))))] ?_)
   refine sq ?_
   rcases bif_some hm with ⟨h26, hm⟩ | ⟨h26, hm⟩
   ·
    refine c1 h26 (wp_skip (sq (bq (sq (rg ?_)))))
    obtain ⟨x27, h28, hm⟩ := bs hm
    refine dv 12 (v := .pv (.ptr (R_api_Agg x27) 0)) (ia_slO R_api_Agg a1 .i64 t24 t82 h28 rfl (by kernel_rfl)) (by kernel_rfl) (stf 3 [(1, .fn 37 [] [.ptr 0 0, .ptr 2 0, .ptr 3 0]), (6, .ptr 5 0), (8, .pv (encSl R_api_Agg a1)), (9, aI ((sll a1).length : Int)), (10, aI y20)] [.box [.fn 27 [] [.ptr 1 0]] false, .box [.pv (encSl R_api_Table a0)] false, .box [.pv (.fn 29 [] [])] false, .box [.fn 30 [] [.ptr 4 0]] false, .box [.pv .nils] false, .box [aI x27.fKind, aI x27.fOf.fKind, aI x27.fOf.fRel, aI x27.fOf.fCol, aI x27.fOf.fConst.fKind, aI x27.fOf.fConst.fInt, aF x27.fOf.fConst.fFloat, aS x27.fOf.fConst.fText, .pv (encSl R_E_api_Expr x27.fOf.fKids)] false] (by kernel_rfl) (sq (rg (s1 2 [(15, .agg [aI x27.fKind, aI x27.fOf.fKind, aI x27.fOf.fRel, aI x27.fOf.fCol, aI x27.fOf.fConst.fKind, aI x27.fOf.fConst.fInt, aF x27.fOf.fConst.fFloat, aS x27.fOf.fConst.fText, .pv (encSl R_E_api_Expr x27.fOf.fKids)]), (14, .fn 37 [] [.ptr 0 0, .ptr 2 0, .ptr 3 0])] ?_))))
    obtain ⟨x32, h29, hm⟩ := bs hm
    rcases x32 with ⟨_ | x30, x31⟩
    ·
     obtain ⟨vv, H1, hC, rfl, rfl⟩ := ok_query_Right_6 h29
     refine dR [(16, aI x31)] [.box [.fn 27 [] [.ptr 1 0]] false, .box [.pv (encSl R_api_Table a0)] false, .box [.pv (.fn 29 [] [])] false, .box [.fn 30 [] [.ptr 4 0]] false, .box [.pv .nils] false, .box [aI x27.fKind, aI x27.fOf.fKind, aI x27.fOf.fRel, aI x27.fOf.fCol, aI x27.fOf.fConst.fKind, aI x27.fOf.fConst.fInt, aF x27.fOf.fConst.fFloat, aS x27.fOf.fConst.fText, .pv (encSl R_E_api_Expr x27.fOf.fKids)] false] [0, 1, 2, 3, 4] [.agg [aI x27.fKind, aI x27.fOf.fKind, aI x27.fOf.fRel, aI x27.fOf.fCol, aI x27.fOf.fConst.fKind, aI x27.fOf.fConst.fInt, aF x27.fOf.fConst.fFloat, aS x27.fOf.fConst.fText, .pv (encSl R_E_api_Expr x27.fOf.fKids)], .ptr 0 0, .ptr 2 0, .ptr 3 0] (by kernel_rfl) (by kernel_rfl) (by kernel_rfl) hC (by kernel_rfl) (fq 1 [(1, .fn 37 [] [.ptr 0 0, .ptr 2 0, .ptr 3 0]), (7, aI x31), (8, .pv (encSl R_api_Agg a1)), (9, aI ((sll a1).length : Int)), (10, aI y20)] (sq (dn [(1, .fn 37 [] [.ptr 0 0, .ptr 2 0, .ptr 3 0]), (7, aI x31), (8, .pv (encSl R_api_Agg a1)), (9, aI ((sll a1).length : Int)), (10, aI y20), (18, aB (x31 != 0))] ?_)))
     rcases bif_some hm with ⟨h33, hm⟩ | ⟨h33, hm⟩
     ·
      refine c1 h33 (sq (dn [(4, aI x31)] (wp_ret ?_)))
      obtain rfl := Option.some.inj hm
      exact ⟨trivial, aI x31, [.box [.fn 27 [] [.ptr 1 0]] false, .box [.pv (encSl R_api_Table a0)] false, .box [.pv (.fn 29 [] [])] false, .box [.fn 30 [] [.ptr 4 0]] false, .box [.pv .nils] false], by kernel_rfl, rfl, rfl⟩
     ·
      refine c0 h33 (wp_skip (dn [(1, .fn 37 [] [.ptr 0 0, .ptr 2 0, .ptr 3 0]), (8, .pv (encSl R_api_Agg a1)), (9, aI ((sll a1).length : Int)), (10, aI (IntKind.wrap .i64 (y20 + 1)))] ?_))
      exact ⟨_, _, tidyL [(1, .fn 37 [] [.ptr 0 0, .ptr 2 0, .ptr 3 0]), (8, .pv (encSl R_api_Agg a1)), (9, aI ((sll a1).length : Int)), (10, aI (IntKind.wrap .i64 (y20 + 1)))] [.box [.fn 27 [] [.ptr 1 0]] false, .box [.pv (encSl R_api_Table a0)] false, .box [.pv (.fn 29 [] [])] false, .box [.fn 30 [] [.ptr 4 0]] false, .box [.pv .nils] false] (by kernel_rfl), .inl ⟨(IntKind.wrap .i64 (y20 + 1)), hm, rfl, rfl⟩⟩
    ·
     obtain ⟨vv, H1, hC, g34, q35, rfl, rfl⟩ := ok_query_Right_6 h29
     refine dR [(16, aI x31)] [.box [.fn 27 [] [.ptr 1 0]] false, .box [.pv (encSl R_api_Table a0)] false, .box [.pv (.fn 29 [] [])] false, .box [.fn 30 [] [.ptr 4 0]] false, .box [aR 6 1 g34] false, .box [aI x27.fKind, aI x27.fOf.fKind, aI x27.fOf.fRel, aI x27.fOf.fCol, aI x27.fOf.fConst.fKind, aI x27.fOf.fConst.fInt, aF x27.fOf.fConst.fFloat, aS x27.fOf.fConst.fText, .pv (encSl R_E_api_Expr x27.fOf.fKids)] false, bR 3 1 (rI .i64) x30 0 0] [0, 1, 2, 3, 4] [.agg [aI x27.fKind, aI x27.fOf.fKind, aI x27.fOf.fRel, aI x27.fOf.fCol, aI x27.fOf.fConst.fKind, aI x27.fOf.fConst.fInt, aF x27.fOf.fConst.fFloat, aS x27.fOf.fConst.fText, .pv (encSl R_E_api_Expr x27.fOf.fKids)], .ptr 0 0, .ptr 2 0, .ptr 3 0] (by kernel_rfl) (by kernel_rfl) (by kernel_rfl) hC (by kernel_rfl) (fq 1 [(1, .fn 37 [] [.ptr 0 0, .ptr 2 0, .ptr 3 0]), (7, aI x31), (8, .pv (encSl R_api_Agg a1)), (9, aI ((sll a1).length : Int)), (10, aI y20)] (sq (dn [(1, .fn 37 [] [.ptr 0 0, .ptr 2 0, .ptr 3 0]), (7, aI x31), (8, .pv (encSl R_api_Agg a1)), (9, aI ((sll a1).length : Int)), (10, aI y20), (18, aB (x31 != 0))] ?_)))
     rcases bif_some hm with ⟨h36, hm⟩ | ⟨h36, hm⟩
     ·
      refine c1 h36 (sq (dn [(4, aI x31)] (wp_ret ?_)))
      obtain rfl := Option.some.inj hm
      exact ⟨trivial, aI x31, [.box [.fn 27 [] [.ptr 1 0]] false, .box [.pv (encSl R_api_Table a0)] false, .box [.pv (.fn 29 [] [])] false, .box [.fn 30 [] [.ptr 4 0]] false, .box [aR 5 1 g34] false, bR 3 1 (rI .i64) x30 0 0], by kernel_rfl, g34, 0, (by first | rfl | assumption | omega | (simp only [List.length_set, List.length_append, List.length_cons, List.length_nil, List.length_replicate, List.length_drop] at * <;> omega)), (by first | exact Nat.zero_le _ | exact Nat.le_refl _ | assumption | omega | (simp only [List.length_set, List.length_append, List.length_cons, List.length_nil, List.length_replicate, List.length_drop] at * <;> omega)), rfl, rfl⟩
     ·
      refine c0 h36 (wp_skip (dn [(1, .fn 37 [] [.ptr 0 0, .ptr 2 0, .ptr 3 0]), (8, .pv (encSl R_api_Agg a1)), (9, aI ((sll a1).length : Int)), (10, aI (IntKind.wrap .i64 (y20 + 1)))] ?_))
      exact ⟨_, _, tidyL [(1, .fn 37 [] [.ptr 0 0, .ptr 2 0, .ptr 3 0]), (8, .pv (encSl R_api_Agg a1)), (9, aI ((sll a1).length : Int)), (10, aI (IntKind.wrap .i64 (y20 + 1)))] [.box [.fn 27 [] [.ptr 1 0]] false, .box [.pv (encSl R_api_Table a0)] false, .box [.pv (.fn 29 [] [])] false, .box [.fn 30 [] [.ptr 4 0]] false, .box [aR 5 1 g34] false, bR 3 1 (rI .i64) x30 0 0] (by kernel_rfl), .inr (⟨x30, (IntKind.wrap .i64 (y20 + 1)), g34, 0, hm, rfl, rfl, (by first | rfl | assumption | omega | (simp only [List.length_set, List.length_append, List.length_cons, List.length_nil, List.length_replicate, List.length_drop] at * <;> omega)), (by first | exact Nat.zero_le _ | exact Nat.le_refl _ | assumption | omega | (simp only [List.length_set, List.length_append, List.length_cons, List.length_nil, List.length_replicate, List.length_drop] at * <;> omega))⟩)⟩
   ·
    refine c0 h26 (wp_exit ?_)
    exact .inl ⟨aI y20, aB (decide (y20 < ((sll a1).length : Int))), hm, (mk_same (by kernel_rfl)), rfl⟩
  ·
   simp only [query_each_Agg_query_Right_6_l2] at hm
   refine sq (dn [(1, .fn 37 [] [.ptr 0 0, .ptr 2 0, .ptr 3 0]), (8, .pv (encSl R_api_Agg a1)), (9, aI ((sll a1).length : Int)), (10, aI y20), (11, aB (decide (y20 < ((sll a1).length : Int))))] ?_)
   refine sq ?_
   rcases bif_some hm with ⟨h37, hm⟩ | ⟨h37, hm⟩
   ·
    refine c1 h37 (wp_skip (sq (bq (sq (rg ?_)))))
    obtain ⟨x38, h39, hm⟩ := bs hm
    refine dv 12 (v := .pv (.ptr (R_api_Agg x38) 0)) (ia_slO R_api_Agg a1 .i64 t24 t82 h39 rfl (by kernel_rfl)) (by kernel_rfl) (stf 3 [(1, .fn 37 [] [.ptr 0 0, .ptr 2 0, .ptr 3 0]), (6, .ptr 6 0), (8, .pv (encSl R_api_Agg a1)), (9, aI ((sll a1).length : Int)), (10, aI y20)] [.box [.fn 27 [] [.ptr 1 0]] false, .box [.pv (encSl R_api_Table a0)] false, .box [.pv (.fn 29 [] [])] false, .box [.fn 30 [] [.ptr 4 0]] false, .box [aR 5 1 g21] false, bR 3 1 (rI .i64) y19 g23 0, .box [aI x38.fKind, aI x38.fOf.fKind, aI x38.fOf.fRel, aI x38.fOf.fCol, aI x38.fOf.fConst.fKind, aI x38.fOf.fConst.fInt, aF x38.fOf.fConst.fFloat, aS x38.fOf.fConst.fText, .pv (encSl R_E_api_Expr x38.fOf.fKids)] false] (by kernel_rfl) (sq (rg (s1 2 [(15, .agg [aI x38.fKind, aI x38.fOf.fKind, aI x38.fOf.fRel, aI x38.fOf.fCol, aI x38.fOf.fConst.fKind, aI x38.fOf.fConst.fInt, aF x38.fOf.fConst.fFloat, aS x38.fOf.fConst.fText, .pv (encSl R_E_api_Expr x38.fOf.fKids)]), (14, .fn 37 [] [.ptr 0 0, .ptr 2 0, .ptr 3 0])] ?_))))
    obtain ⟨⟨x41, x42⟩, h40, hm⟩ := bs hm
    obtain ⟨vv, H1, hC, g43, g44, q45, q46, rfl, rfl⟩ := ok_query_Right_6_4 g21 g23 (by first | rfl | assumption | omega | (simp only [List.length_set, List.length_append, List.length_cons, List.length_nil, List.length_replicate, List.length_drop] at * <;> omega)) (by first | exact Nat.zero_le _ | exact Nat.le_refl _ | assumption | omega | (simp only [List.length_set, List.length_append, List.length_cons, List.length_nil, List.length_replicate, List.length_drop] at * <;> omega)) h40
    refine dR [(16, aI x42)] [.box [.fn 27 [] [.ptr 1 0]] false, .box [.pv (encSl R_api_Table a0)] false, .box [.pv (.fn 29 [] [])] false, .box [.fn 30 [] [.ptr 4 0]] false, .box [aR 5 1 g43] false, bR 3 1 (rI .i64) x41 g44 0, .box [aI x38.fKind, aI x38.fOf.fKind, aI x38.fOf.fRel, aI x38.fOf.fCol, aI x38.fOf.fConst.fKind, aI x38.fOf.fConst.fInt, aF x38.fOf.fConst.fFloat, aS x38.fOf.fConst.fText, .pv (encSl R_E_api_Expr x38.fOf.fKids)] false] [0, 1, 2, 3, 4, 5] [.agg [aI x38.fKind, aI x38.fOf.fKind, aI x38.fOf.fRel, aI x38.fOf.fCol, aI x38.fOf.fConst.fKind, aI x38.fOf.fConst.fInt, aF x38.fOf.fConst.fFloat, aS x38.fOf.fConst.fText, .pv (encSl R_E_api_Expr x38.fOf.fKids)], .ptr 0 0, .ptr 2 0, .ptr 3 0] (by kernel_rfl) (by kernel_rfl) (by kernel_rfl) hC (by kernel_rfl) (fq 1 [(1, .fn 37 [] [.ptr 0 0, .ptr 2 0, .ptr 3 0]), (7, aI x42), (8, .pv (encSl R_api_Agg a1)), (9, aI ((sll a1).length : Int)), (10, aI y20)] (sq (dn [(1, .fn 37 [] [.ptr 0 0, .ptr 2 0, .ptr 3 0]), (7, aI x42), (8, .pv (encSl R_api_Agg a1)), (9, aI ((sll a1).length : Int)), (10, aI y20), (18, aB (x42 != 0))] ?_)))
    rcases bif_some hm with ⟨h47, hm⟩ | ⟨h47, hm⟩
    ·
     refine c1 h47 (sq (dn [(4, aI x42)] (wp_ret ?_)))
     obtain rfl := Option.some.inj hm
     exact ⟨trivial, aI x42, [.box [.fn 27 [] [.ptr 1 0]] false, .box [.pv (encSl R_api_Table a0)] false, .box [.pv (.fn 29 [] [])] false, .box [.fn 30 [] [.ptr 4 0]] false, .box [aR 5 1 g43] false, bR 3 1 (rI .i64) x41 g44 0], by kernel_rfl, g43, g44, (by first | rfl | assumption | omega | (simp only [List.length_set, List.length_append, List.length_cons, List.length_nil, List.length_replicate, List.length_drop] at * <;> omega)), (by first | exact Nat.zero_le _ | exact Nat.le_refl _ | assumption | omega | (simp only [List.length_set, List.length_append, List.length_cons, List.length_nil, List.length_replicate, List.length_drop] at * <;> omega)), rfl, rfl⟩
    ·
     refine c0 h47 (wp_skip (dn [(1, .fn 37 [] [.ptr 0 0, .ptr 2 0, .ptr 3 0]), (8, .pv (encSl R_api_Agg a1)), (9, aI ((sll a1).length : Int)), (10, aI (IntKind.wrap .i64 (y20 + 1)))] ?_))
     exact ⟨_, _, tidyL [(1, .fn 37 [] [.ptr 0 0, .ptr 2 0, .ptr 3 0]), (8, .pv (encSl R_api_Agg a1)), (9, aI ((sll a1).length : Int)), (10, aI (IntKind.wrap .i64 (y20 + 1)))] [.box [.fn 27 [] [.ptr 1 0]] false, .box [.pv (encSl R_api_Table a0)] false, .box [.pv (.fn 29 [] [])] false, .box [.fn 30 [] [.ptr 4 0]] false, .box [aR 5 1 g43] false, bR 3 1 (rI .i64) x41 g44 0] (by kernel_rfl), .inr (⟨x41, (IntKind.wrap .i64 (y20 + 1)), g43, g44, hm, rfl, rfl, (by first | rfl | assumption | omega | (simp only [List.length_set, List.length_append, List.length_cons, List.length_nil, List.length_replicate, List.length_drop] at * <;> omega)), (by first | exact Nat.zero_le _ | exact Nat.le_refl _ | assumption | omega | (simp only [List.length_set, List.length_append, List.length_cons, List.length_nil, List.length_replicate, List.length_drop] at * <;> omega))⟩)⟩
   ·
    refine c0 h37 (wp_exit ?_)
    exact .inr (⟨y19, aI y20, aB (decide (y20 < ((sll a1).length : Int))), g21, g23, hm, (mk_same (by kernel_rfl)), rfl, (by first | rfl | assumption | omega | (simp only [List.length_set, List.length_append, List.length_cons, List.length_nil, List.length_replicate, List.length_drop] at * <;> omega)), (by first | exact Nat.zero_le _ | exact Nat.le_refl _ | assumption | omega | (simp only [List.length_set, List.length_append, List.length_cons, List.length_nil, List.length_replicate, List.length_drop] at * <;> omega))⟩)
theorem ok_query_each_Agg_query_Right_6_2 (m5 : Nat) (f5 : Nat) {n : Nat} {a0 : (List Int)} {a1 : (Option (List api_Table))} {a2 : (Option (List api_Agg))} {r : (List Int) × Int} (hm5 : a0.length = m5) (hf5 : f5 ≤ a0.length) (hm : query_each_Agg_query_Right_6_2 n a0 a1 a2 = some r) :
    ∃ vv H1, call G n 36 [.pv (encSl R_api_Agg a2), .fn 37 [] [.ptr 0 0, .ptr 2 0, .ptr 3 0]] [.box [.fn 27 [] [.ptr 1 0]] false, .box [.pv (encSl R_api_Table a1)] false, .box [.pv (.fn 29 [] [])] false, .box [.fn 30 [] [.ptr 4 0]] false, .box [aR 5 1 m5] false, bR 3 1 (rI .i64) a0 f5 0] = some (.ret vv, H1) ∧ (match r with | (r0, r1) => (∃ (e2 : Nat) (e3 : Nat), r0.length = e2 ∧ e3 ≤ r0.length ∧ vv = aI r1 ∧ H1 = [.box [.fn 27 [] [.ptr 1 0]] false, .box [.pv (encSl R_api_Table a1)] false, .box [.pv (.fn 29 [] [])] false, .box [.fn 30 [] [.ptr 4 0]] false, .box [aR 5 1 e2] false, bR 3 1 (rI .i64) r0 e3 0])) := by
  unfold query_each_Agg_query_Right_6_2 at hm
  obtain ⟨n, rfl, h0⟩ := at1_some hm
  replace hm := h0; clear h0
  refine callE 21 [(0, .pv (encSl R_api_Agg a2)), (1, .fn 37 [] [.ptr 0 0, .ptr 2 0, .ptr 3 0])] func36 rfl (by kernel_rfl) (sq (dn [(0, .pv (encSl R_api_Agg a2)), (1, .fn 37 [] [.ptr 0 0, .ptr 2 0, .ptr 3 0])] ?_))
  obtain ⟨k8, hk8, hm⟩ := withK_some hm
  refine mid (fun t H => (∃ (y1 : (List Int)) (y2 : Int) (y3 : Bool) (g4 : Nat) (g6 : Nat), k8 y1 = some r ∧ t = mk 21 [(1, .fn 37 [] [.ptr 0 0, .ptr 2 0, .ptr 3 0]), (8, .pv (encSl R_api_Agg a2)), (9, aI ((sll a2).length : Int)), (10, aI y2), (11, aB y3)] ∧ H = [.box [.fn 27 [] [.ptr 1 0]] false, .box [.pv (encSl R_api_Table a1)] false, .box [.pv (.fn 29 [] [])] false, .box [.fn 30 [] [.ptr 4 0]] false, .box [aR 5 1 g4] false, bR 3 1 (rI .i64) y1 g6 0] ∧ y1.length = g4 ∧ g6 ≤ y1.length)) ?_ ?_
  ·
   rintro _ _ ⟨y1, y2, y3, g4, g6, hm, rfl, rfl, q5, q7⟩
   subst hk8
   refine sq (dn [(4, aI 0)] (wp_ret ?_))
   obtain rfl := Option.some.inj hm
   exact ⟨trivial, aI 0, [.box [.fn 27 [] [.ptr 1 0]] false, .box [.pv (encSl R_api_Table a1)] false, .box [.pv (.fn 29 [] [])] false, .box [.fn 30 [] [.ptr 4 0]] false, .box [aR 5 1 g4] false, bR 3 1 (rI .i64) y1 g6 0], by kernel_rfl, g4, g6, (by first | rfl | assumption | omega | (simp only [List.length_set, List.length_append, List.length_cons, List.length_nil, List.length_replicate, List.length_drop] at * <;> omega)), (by first | exact Nat.zero_le _ | exact Nat.le_refl _ | assumption | omega | (simp only [List.length_set, List.length_append, List.length_cons, List.length_nil, List.length_replicate, List.length_drop] at * <;> omega)), rfl, rfl⟩
  refine sq (rg (s1 1 [(8, .pv (encSl R_api_Agg a2))] (dv 9 (v := aI ((sll a2).length : Int)) (len_slO R_api_Agg a2 t24 (by kernel_rfl)) (by kernel_rfl) (fq 1 [(1, .fn 37 [] [.ptr 0 0, .ptr 2 0, .ptr 3 0]), (8, .pv (encSl R_api_Agg a2)), (9, aI ((sll a2).length : Int)), (10, aI 0)] (bq ?_)))))
  refine loopF (fun mm t H => (∃ (y15 : (List Int)) (y16 : Int) (g17 : Nat) (g19 : Nat), query_each_Agg_query_Right_6_2_l2 n a1 a2 k8 mm y15 y16 = some r ∧ t = mk 21 [(1, .fn 37 [] [.ptr 0 0, .ptr 2 0, .ptr 3 0]), (8, .pv (encSl R_api_Agg a2)), (9, aI ((sll a2).length : Int)), (10, aI y16)] ∧ H = [.box [.fn 27 [] [.ptr 1 0]] false, .box [.pv (encSl R_api_Table a1)] false, .box [.pv (.fn 29 [] [])] false, .box [.fn 30 [] [.ptr 4 0]] false, .box [aR 5 1 g17] false, bR 3 1 (rI .i64) y15 g19 0] ∧ y15.length = g17 ∧ g19 ≤ y15.length)) (⟨a0, 0, m5, f5, hm, rfl, rfl, (by first | rfl | assumption | omega | (simp only [List.length_set, List.length_append, List.length_cons, List.length_nil, List.length_replicate, List.length_drop] at * <;> omega)), (by first | exact Nat.zero_le _ | exact Nat.le_refl _ | assumption | omega | (simp only [List.length_set, List.length_append, List.length_cons, List.length_nil, List.length_replicate, List.length_drop] at * <;> omega))⟩) ?_ ?_
  · rintro _ _ ⟨y15, y16, g17, g19, hm, _⟩; exact nomatch hm
  rintro m21 _ _ ⟨y15, y16, g17, g19, hm, rfl, rfl, q18, q20⟩
  simp only [query_each_Agg_query_Right_6_2_l2] at hm
  refine sq (dn [(1, .fn 37 [] [.ptr 0 0, .ptr 2 0, .ptr 3 0]), (8, .pv (encSl R_api_Agg a2)), (9, aI ((sll a2).length : Int)), (10, aI y16), (11, aB (decide (y16 < ((sll a2).length : Int))))] ?_)
  refine sq ?_
  rcases bif_some hm with ⟨h22, hm⟩ | ⟨h22, hm⟩
  ·
   refine c1 h22 (wp_skip (sq (bq (sq (rg ?_)))))
   obtain ⟨x23, h24, hm⟩ := bs hm
   refine dv 12 (v := .pv (.ptr (R_api_Agg x23) 0)) (ia_slO R_api_Agg a2 .i64 t24 t82 h24 rfl (by kernel_rfl)) (by kernel_rfl) (stf 3 [(1, .fn 37 [] [.ptr 0 0, .ptr 2 0, .ptr 3 0]), (6, .ptr 6 0), (8, .pv (encSl R_api_Agg a2)), (9, aI ((sll a2).length : Int)), (10, aI y16)] [.box [.fn 27 [] [.ptr 1 0]] false, .box [.pv (encSl R_api_Table a1)] false, .box [.pv (.fn 29 [] [])] false, .box [.fn 30 [] [.ptr 4 0]] false, .box [aR 5 1 g17] false, bR 3 1 (rI .i64) y15 g19 0, .box [aI x23.fKind, aI x23.fOf.fKind, aI x23.fOf.fRel, aI x23.fOf.fCol, aI x23.fOf.fConst.fKind, aI x23.fOf.fConst.fInt, aF x23.fOf.fConst.fFloat, aS x23.fOf.fConst.fText, .pv (encSl R_E_api_Expr x23.fOf.fKids)] false] (by kernel_rfl) (sq (rg (s1 2 [(15, .agg [aI x23.fKind, aI x23.fOf.fKind, aI x23.fOf.fRel, aI x23.fOf.fCol, aI x23.fOf.fConst.fKind, aI x23.fOf.fConst.fInt, aF x23.fOf.fConst.fFloat, aS x23.fOf.fConst.fText, .pv (encSl R_E_api_Expr x23.fOf.fKids)]), (14, .fn 37 [] [.ptr 0 0, .ptr 2 0, .ptr 3 0])] ?_))))
   obtain ⟨⟨x26, x27⟩, h25, hm⟩ := bs hm
   obtain ⟨vv, H1, hC, g28, g29, q30, q31, rfl, rfl⟩ := ok_query_Right_6_4 g17 g19 (by first | rfl | assumption | omega | (simp only [List.length_set, List.length_append, List.length_cons, List.length_nil, List.length_replicate, List.length_drop] at * <;> omega)) (by first | exact Nat.zero_le _ | exact Nat.le_refl _ | assumption | omega | (simp only [List.length_set, List.length_append, List.length_cons, List.length_nil, List.length_replicate, List.length_drop] at * <;> omega)) h25
   refine dR [(16, aI x27)] [.box [.fn 27 [] [.ptr 1 0]] false, .box [.pv (encSl R_api_Table a1)] false, .box [.pv (.fn 29 [] [])] false, .box [.fn 30 [] [.ptr 4 0]] false, .box [aR 5 1 g28] false, bR 3 1 (rI .i64) x26 g29 0, .box [aI x23.fKind, aI x23.fOf.fKind, aI x23.fOf.fRel, aI x23.fOf.fCol, aI x23.fOf.fConst.fKind, aI x23.fOf.fConst.fInt, aF x23.fOf.fConst.fFloat, aS x23.fOf.fConst.fText, .pv (encSl R_E_api_Expr x23.fOf.fKids)] false] [0, 1, 2, 3, 4, 5] [.agg [aI x23.fKind, aI x23.fOf.fKind, aI x23.fOf.fRel, aI x23.fOf.fCol, aI x23.fOf.fConst.fKind, aI x23.fOf.fConst.fInt, aF x23.fOf.fConst.fFloat, aS x23.fOf.fConst.fText, .pv (encSl R_E_api_Expr x23.fOf.fKids)], .ptr 0 0, .ptr 2 0, .ptr 3 0] (by kernel_rfl) (by kernel_rfl) (by kernel_rfl) hC (by kernel_rfl) (fq 1 [(1, .fn 37 [] [.ptr 0 0, .ptr 2 0, .ptr 3 0]), (7, aI x27), (8, .pv (encSl R_api_Agg a2)), (9, aI ((sll a2).length : Int)), (10, aI y16)] (sq (dn [(1, .fn 37 [] [.ptr 0 0, .ptr 2 0, .ptr 3 0]), (7, aI x27), (8, .pv (encSl R_api_Agg a2)), (9, aI ((sll a2).length : Int)), (10, aI y16), (18, aB (x27 != 0))] ?_)))
   rcases bif_some hm with ⟨h32, hm⟩ | ⟨h32, hm⟩
   ·
    refine c1 h32 (sq (dn [(4, aI x27)] (wp_ret ?_)))
    obtain rfl := Option.some.inj hm
    exact ⟨trivial, aI x27, [.box [.fn 27 [] [.ptr 1 0]] false, .box [.pv (encSl R_api_Table a1)] false, .box [.pv (.fn 29 [] [])] false, .box [.fn 30 [] [.ptr 4 0]] false, .box [aR 5 1 g28] false, bR 3 1 (rI .i64) x26 g29 0], by kernel_rfl, g28, g29, (by first | rfl | assumption | omega | (simp only [List.length_set, List.length_append, List.length_cons, List.length_nil, List.length_replicate, List.length_drop] at * <;> omega)), (by first | exact Nat.zero_le _ | exact Nat.le_refl _ | assumption | omega | (simp only [List.length_set, List.length_append, List.length_cons, List.length_nil, List.length_replicate, List.length_drop] at * <;> omega)), rfl, rfl⟩
   ·
    refine c0 h32 (wp_skip (dn [(1, .fn 37 [] [.ptr 0 0, .ptr 2 0, .ptr 3 0]), (8, .pv (encSl R_api_Agg a2)), (9, aI ((sll a2).length : Int)), (10, aI (IntKind.wrap .i64 (y16 + 1)))] ?_))
    exact ⟨_, _, tidyL [(1, .fn 37 [] [.ptr 0 0, .ptr 2 0, .ptr 3 0]), (8, .pv (encSl R_api_Agg a2)), (9, aI ((sll a2).length : Int)), (10, aI (IntKind.wrap .i64 (y16 + 1)))] [.box [.fn 27 [] [.ptr 1 0]] false, .box [.pv (encSl R_api_Table a1)] false, .box [.pv (.fn 29 [] [])] false, .box [.fn 30 [] [.ptr 4 0]] false, .box [aR 5 1 g28] false, bR 3 1 (rI .i64) x26 g29 0] (by kernel_rfl), ⟨x26, (IntKind.wrap .i64 (y16 + 1)), g28, g29, hm, rfl, rfl, (by first | rfl | assumption | omega | (simp only [List.length_set, List.length_append, List.length_cons, List.length_nil, List.length_replicate, List.length_drop] at * <;> omega)), (by first | exact Nat.zero_le _ | exact Nat.le_refl _ | assumption | omega | (simp only [List.length_set, List.length_append, List.length_cons, List.length_nil, List.length_replicate, List.length_drop] at * <;> omega))⟩⟩
  ·
   refine c0 h22 (wp_exit ?_)
   exact ⟨y15, y16, (decide (y16 < ((sll a2).length : Int))), g17, g19, hm, rfl, rfl, (by first | rfl | assumption | omega | (simp only [List.length_set, List.length_append, List.length_cons, List.length_nil, List.length_replicate, List.length_drop] at * <;> omega)), (by first | exact Nat.zero_le _ | exact Nat.le_refl _ | assumption | omega | (simp only [List.length_set, List.length_append, List.length_cons, List.length_nil, List.length_replicate, List.length_drop] at * <;> omega))⟩
theorem ok_query_Right {n : Nat} {a0 : api_Query} {a1 : (Option (List api_Table))} {r : (Option (List Int)) × Int} (hm : query_Right n a0 a1 = some r) :
    call G n 9 [.agg [.pv (encSl rS a0.fRels), .pv (encSl R_E_api_Expr a0.fWhere), aB a0.fGrouped, .pv (encSl R_E_api_Expr a0.fOut), .pv (encSl R_api_Agg a0.fAggs), .pv (encSl R_api_Key a0.fOrder)], .pv (encSl R_api_Table a1)] [] = some (.ret (.tup [.pv (encSl (rI .i64) r.1), aI r.2]), []) := by
  unfold query_Right at hm
  obtain ⟨n, rfl, h0⟩ := at1_some hm
  replace hm := h0; clear h0
  refine callL 46 [(0, .agg [.pv (encSl rS a0.fRels), .pv (encSl R_E_api_Expr a0.fWhere), aB a0.fGrouped, .pv (encSl R_E_api_Expr a0.fOut), .pv (encSl R_api_Agg a0.fAggs), .pv (encSl R_api_Key a0.fOrder)]), (1, .pv (encSl R_api_Table a1))] func9 rfl (by kernel_rfl) (sq (det [(1, .pv (encSl R_api_Table a1)), (2, .ptr 0 0)] [.box [.pv (encSl rS a0.fRels), .pv (encSl R_E_api_Expr a0.fWhere), aB a0.fGrouped, .pv (encSl R_E_api_Expr a0.fOut), .pv (encSl R_api_Agg a0.fAggs), .pv (encSl R_api_Key a0.fOrder)] false] (by kernel_rfl) (sq (rg (s1 2 [(14, .pv (encSl R_api_Table a1)), (13, .agg [.pv (encSl rS a0.fRels), .pv (encSl R_E_api_Expr a0.fWhere), aB a0.fGrouped, .pv (encSl R_E_api_Expr a0.fOut), .pv (encSl R_api_Agg a0.fAggs), .pv (encSl R_api_Key a0.fOrder)])] ?_)))))
  obtain ⟨x1, h2, hm⟩ := bs hm
  refine dv 15 (cpure (by kernel_rfl) (ok_query_Tables h2) (by kernel_rfl) (by kernel_rfl) (by kernel_rfl)) (by kernel_rfl) (stf 6 [(2, .ptr 0 0), (6, .ptr 1 0), (7, aI x1.2)] [.box [.pv (encSl rS a0.fRels), .pv (encSl R_E_api_Expr a0.fWhere), aB a0.fGrouped, .pv (encSl R_E_api_Expr a0.fOut), .pv (encSl R_api_Agg a0.fAggs), .pv (encSl R_api_Key a0.fOrder)] false, .box [.pv (encSl R_api_Table x1.1)] false] (by kernel_rfl) ?_)
  refine sq (sq (dn [(2, .ptr 0 0), (6, .ptr 1 0), (7, aI x1.2), (19, aB (x1.2 != 0))] ?_))
  rcases bif_some hm with ⟨h3, hm⟩ | ⟨h3, hm⟩
  ·
   refine c1 h3 (sq (dn [(4, .pv .nils), (5, aI x1.2)] (wp_ret ?_)))
   obtain rfl := Option.some.inj hm
   exact ⟨trivial, by kernel_rfl⟩
  ·
   refine c0 h3 (wp_skip ?_)
   refine sq (sq (rg (s1 1 [(21, .agg [.pv (encSl rS a0.fRels), .pv (encSl R_E_api_Expr a0.fWhere), aB a0.fGrouped, .pv (encSl R_E_api_Expr a0.fOut), .pv (encSl R_api_Agg a0.fAggs), .pv (encSl R_api_Key a0.fOrder)])] ?_)))
   obtain ⟨x4, h5, hm⟩ := bs hm
   refine dv 22 (cpure (by kernel_rfl) (ok_query_shaped h5) (by kernel_rfl) (by kernel_rfl) (by kernel_rfl)) (by kernel_rfl) (fq 1 [(2, .ptr 0 0), (6, .ptr 1 0), (23, aB (!x4))] ?_)
   rcases bif_some hm with ⟨h6, hm⟩ | ⟨h6, hm⟩
   ·
    refine c1 h6 (sq (dn [(4, .pv .nils), (5, aI 2)] (wp_ret ?_)))
    obtain rfl := Option.some.inj hm
    exact ⟨trivial, by kernel_rfl⟩
   ·
    refine c0 h6 (wp_skip (sq (det [(2, .ptr 0 0), (8, .ptr 2 0)] [.box [.pv (encSl rS a0.fRels), .pv (encSl R_E_api_Expr a0.fWhere), aB a0.fGrouped, .pv (encSl R_E_api_Expr a0.fOut), .pv (encSl R_api_Agg a0.fAggs), .pv (encSl R_api_Key a0.fOrder)] false, .box [.pv (encSl R_api_Table x1.1)] false, .box [.fn 27 [] [.ptr 1 0]] false] (by kernel_rfl) (sq (det [(2, .ptr 0 0), (8, .ptr 2 0), (9, .ptr 3 0)] [.box [.pv (encSl rS a0.fRels), .pv (encSl R_E_api_Expr a0.fWhere), aB a0.fGrouped, .pv (encSl R_E_api_Expr a0.fOut), .pv (encSl R_api_Agg a0.fAggs), .pv (encSl R_api_Key a0.fOrder)] false, .box [.pv (encSl R_api_Table x1.1)] false, .box [.fn 27 [] [.ptr 1 0]] false, .box [.pv .nils] false] (by kernel_rfl) (sq (det [(2, .ptr 0 0), (8, .ptr 2 0), (9, .ptr 3 0), (10, .ptr 4 0)] [.box [.pv (encSl rS a0.fRels), .pv (encSl R_E_api_Expr a0.fWhere), aB a0.fGrouped, .pv (encSl R_E_api_Expr a0.fOut), .pv (encSl R_api_Agg a0.fAggs), .pv (encSl R_api_Key a0.fOrder)] false, .box [.pv (encSl R_api_Table x1.1)] false, .box [.fn 27 [] [.ptr 1 0]] false, .box [.pv .nils] false, .box [.pv (.fn 29 [] [])] false] (by kernel_rfl) (sq (det [(2, .ptr 0 0), (8, .ptr 2 0), (9, .ptr 3 0), (10, .ptr 4 0), (11, .ptr 5 0)] [.box [.pv (encSl rS a0.fRels), .pv (encSl R_E_api_Expr a0.fWhere), aB a0.fGrouped, .pv (encSl R_E_api_Expr a0.fOut), .pv (encSl R_api_Agg a0.fAggs), .pv (encSl R_api_Key a0.fOrder)] false, .box [.pv (encSl R_api_Table x1.1)] false, .box [.fn 27 [] [.ptr 1 0]] false, .box [.pv .nils] false, .box [.pv (.fn 29 [] [])] false, .box [.fn 30 [] [.ptr 3 0]] false] (by kernel_rfl) (sq (rg (s1 3 [(28, .fn 32 [] [.ptr 2 0]), (27, .pv (encSl R_E_api_Expr a0.fWhere)), (26, .ptr 0 1)] ?_))))))))))))
    obtain ⟨x8, h7, hm⟩ := bs hm
    obtain ⟨vv, H1, hC, rfl, rfl⟩ := ok_query_each_Expr_query_Right_4 h7
    refine dR [(29, aI x8)] [.box [.pv (encSl rS a0.fRels), .pv (encSl R_E_api_Expr a0.fWhere), aB a0.fGrouped, .pv (encSl R_E_api_Expr a0.fOut), .pv (encSl R_api_Agg a0.fAggs), .pv (encSl R_api_Key a0.fOrder)] false, .box [.pv (encSl R_api_Table x1.1)] false, .box [.fn 27 [] [.ptr 1 0]] false, .box [.pv .nils] false, .box [.pv (.fn 29 [] [])] false, .box [.fn 30 [] [.ptr 3 0]] false] [2, 1] [.pv (encSl R_E_api_Expr a0.fWhere), .fn 32 [] [.ptr 2 0]] (by kernel_rfl) (by kernel_rfl) (by kernel_rfl) hC (by kernel_rfl) (fq 1 [(2, .ptr 0 0), (7, aI x8), (8, .ptr 2 0), (9, .ptr 3 0), (10, .ptr 4 0), (11, .ptr 5 0)] ?_)
    obtain ⟨k16, hk16, hm⟩ := withK_some hm
    refine mid (fun t H => (∃ (y11 : Int) (w9 : AV), k16 none y11 = some r ∧ t = mk 46 [(2, .ptr 0 0), (7, aI y11), (8, .ptr 2 0), (9, .ptr 3 0), (10, .ptr 4 0), (11, .ptr 5 0), (31, w9)] ∧ H = [.box [.pv (encSl rS a0.fRels), .pv (encSl R_E_api_Expr a0.fWhere), aB a0.fGrouped, .pv (encSl R_E_api_Expr a0.fOut), .pv (encSl R_api_Agg a0.fAggs), .pv (encSl R_api_Key a0.fOrder)] false, .box [.pv (encSl R_api_Table x1.1)] false, .box [.fn 27 [] [.ptr 1 0]] false, .box [.pv .nils] false, .box [.pv (.fn 29 [] [])] false, .box [.fn 30 [] [.ptr 3 0]] false]) ∨ (∃ (y10 : (List Int)) (y11 : Int) (w9 : AV) (g12 : Nat) (g14 : Nat), k16 (some y10) y11 = some r ∧ t = mk 46 [(2, .ptr 0 0), (7, aI y11), (8, .ptr 2 0), (9, .ptr 3 0), (10, .ptr 4 0), (11, .ptr 5 0), (31, w9)] ∧ H = [.box [.pv (encSl rS a0.fRels), .pv (encSl R_E_api_Expr a0.fWhere), aB a0.fGrouped, .pv (encSl R_E_api_Expr a0.fOut), .pv (encSl R_api_Agg a0.fAggs), .pv (encSl R_api_Key a0.fOrder)] false, .box [.pv (encSl R_api_Table x1.1)] false, .box [.fn 27 [] [.ptr 1 0]] false, .box [aR 6 1 g12] false, .box [.pv (.fn 29 [] [])] false, .box [.fn 30 [] [.ptr 3 0]] false, bR 3 1 (rI .i64) y10 g14 0] ∧ y10.length = g12 ∧ g14 ≤ y10.length)) ?_ ?_
    ·
     rintro _ _ (⟨y11, w9, hm, rfl, rfl⟩ | ⟨y10, y11, w9, g12, g14, hm, rfl, rfl, q13, q15⟩)
     ·
      subst hk16
      obtain ⟨k28, hk28, hm⟩ := withK_some hm
      refine mid (fun t H => (∃ (y23 : Int) (w17 : AV) (w18 : AV) (w19 : AV) (w20 : AV) (w21 : AV), k28 none y23 = some r ∧ t = mk 46 [(2, w17), (7, aI y23), (8, w18), (9, .ptr 3 0), (10, w19), (11, w20), (37, w21)] ∧ H = [.box [.pv (encSl rS a0.fRels), .pv (encSl R_E_api_Expr a0.fWhere), aB a0.fGrouped, .pv (encSl R_E_api_Expr a0.fOut), .pv (encSl R_api_Agg a0.fAggs), .pv (encSl R_api_Key a0.fOrder)] false, .box [.pv (encSl R_api_Table x1.1)] false, .box [.fn 27 [] [.ptr 1 0]] false, .box [.pv .nils] false, .box [.pv (.fn 29 [] [])] false, .box [.fn 30 [] [.ptr 3 0]] false]) ∨ (∃ (y22 : (List Int)) (y23 : Int) (w17 : AV) (w18 : AV) (w19 : AV) (w20 : AV) (w21 : AV) (g24 : Nat) (g26 : Nat), k28 (some y22) y23 = some r ∧ t = mk 46 [(2, w17), (7, aI y23), (8, w18), (9, .ptr 3 0), (10, w19), (11, w20), (37, w21)] ∧ H = [.box [.pv (encSl rS a0.fRels), .pv (encSl R_E_api_Expr a0.fWhere), aB a0.fGrouped, .pv (encSl R_E_api_Expr a0.fOut), .pv (encSl R_api_Agg a0.fAggs), .pv (encSl R_api_Key a0.fOrder)] false, .box [.pv (encSl R_api_Table x1.1)] false, .box [.fn 27 [] [.ptr 1 0]] false, .box [aR 6 1 g24] false, .box [.pv (.fn 29 [] [])] false, .box [.fn 30 [] [.ptr 3 0]] false, bR 3 1 (rI .i64) y22 g26 0] ∧ y22.length = g24 ∧ g26 ≤ y22.length)) ?_ ?_
      ·
       rintro _ _ (⟨y23, w17, w18, w19, w20, w21, hm, rfl, rfl⟩ | ⟨y22, y23, w17, w18, w19, w20, w21, g24, g26, hm, rfl, rfl, q25, q27⟩)
       ·
        subst hk28
        refine sq (sq (dn [(7, aI y23), (9, .ptr 3 0), (43, aB (y23 != 0))] ?_))
        rcases bif_some hm with ⟨h29, hm⟩ | ⟨h29, hm⟩
        ·
         refine c1 h29 (sq (dn [(4, .pv .nils), (5, aI y23)] (wp_ret ?_)))
         obtain rfl := Option.some.inj hm
         exact ⟨trivial, by kernel_rfl⟩
        ·
         refine c0 h29 (wp_skip (sq (dn [(4, .pv .nils), (5, aI 0)] (wp_ret ?_))))
         obtain rfl := Option.some.inj hm
         exact ⟨trivial, by kernel_rfl⟩
       ·
        subst hk28
        refine sq (sq (dn [(7, aI y23), (9, .ptr 3 0), (43, aB (y23 != 0))] ?_))
        rcases bif_some hm with ⟨h30, hm⟩ | ⟨h30, hm⟩
        ·
         refine c1 h30 (sq (dn [(4, .pv .nils), (5, aI y23)] (wp_ret ?_)))
         obtain rfl := Option.some.inj hm
         exact ⟨trivial, by kernel_rfl⟩
        ·
         refine c0 h30 (wp_skip (sq (dn [(4, aR 6 1 g24), (5, aI 0)] (wp_ret ?_))))
         obtain rfl := Option.some.inj hm
         exact ret_pure (v := .tup [aR 6 1 g24, aI 0]) trivial rfl (by kernel_rfl) (pR_tup (pAs_cons (pA_ref (pur_ref' (n := g24) (id := 6) (l := y22) (R := (rI .i64)) rfl (by omega) (by omega))) (pAs_cons (pA_pv) (rfl))))
      refine sq (dn [(2, .ptr 0 0), (7, aI y11), (8, .ptr 2 0), (9, .ptr 3 0), (10, .ptr 4 0), (11, .ptr 5 0), (37, aB (y11 == 0))] ?_)
      rcases bif_some hm with ⟨h31, hm⟩ | ⟨h31, hm⟩
      ·
       refine c1 h31 (rg (s1 3 [(40, .fn 37 [] [.ptr 2 0, .ptr 4 0, .ptr 5 0]), (39, .pv (encSl R_api_Agg a0.fAggs)), (38, .ptr 0 4)] ?_))
       obtain ⟨x35, h32, hm⟩ := bs hm
       rcases x35 with ⟨_ | x33, x34⟩
       ·
        obtain ⟨vv, H1, hC, rfl, rfl⟩ := ok_query_each_Agg_query_Right_6 h32
        refine dR [(41, aI x34)] [.box [.pv (encSl rS a0.fRels), .pv (encSl R_E_api_Expr a0.fWhere), aB a0.fGrouped, .pv (encSl R_E_api_Expr a0.fOut), .pv (encSl R_api_Agg a0.fAggs), .pv (encSl R_api_Key a0.fOrder)] false, .box [.pv (encSl R_api_Table x1.1)] false, .box [.fn 27 [] [.ptr 1 0]] false, .box [.pv .nils] false, .box [.pv (.fn 29 [] [])] false, .box [.fn 30 [] [.ptr 3 0]] false] [2, 1, 4, 5, 3] [.pv (encSl R_api_Agg a0.fAggs), .fn 37 [] [.ptr 2 0, .ptr 4 0, .ptr 5 0]] (by kernel_rfl) (by kernel_rfl) (by kernel_rfl) hC (by kernel_rfl) (fq 1 [(7, aI x34), (9, .ptr 3 0)] ?_)
        exact .inl ⟨x34, .any, .any, .any, .any, .any, hm, (mk_same (by kernel_rfl)), rfl⟩
       ·
        obtain ⟨vv, H1, hC, g36, g37, q38, q39, rfl, rfl⟩ := ok_query_each_Agg_query_Right_6 h32
        refine dR [(41, aI x34)] [.box [.pv (encSl rS a0.fRels), .pv (encSl R_E_api_Expr a0.fWhere), aB a0.fGrouped, .pv (encSl R_E_api_Expr a0.fOut), .pv (encSl R_api_Agg a0.fAggs), .pv (encSl R_api_Key a0.fOrder)] false, .box [.pv (encSl R_api_Table x1.1)] false, .box [.fn 27 [] [.ptr 1 0]] false, .box [aR 6 1 g36] false, .box [.pv (.fn 29 [] [])] false, .box [.fn 30 [] [.ptr 3 0]] false, bR 3 1 (rI .i64) x33 g37 0] [2, 1, 4, 5, 3] [.pv (encSl R_api_Agg a0.fAggs), .fn 37 [] [.ptr 2 0, .ptr 4 0, .ptr 5 0]] (by kernel_rfl) (by kernel_rfl) (by kernel_rfl) hC (by kernel_rfl) (fq 1 [(7, aI x34), (9, .ptr 3 0)] ?_)
        exact .inr (⟨x33, x34, .any, .any, .any, .any, .any, g36, g37, hm, (mk_same (by kernel_rfl)), rfl, (by first | rfl | assumption | omega | (simp only [List.length_set, List.length_append, List.length_cons, List.length_nil, List.length_replicate, List.length_drop] at * <;> omega)), (by first | exact Nat.zero_le _ | exact Nat.le_refl _ | assumption | omega | (simp only [List.length_set, List.length_append, List.length_cons, List.length_nil, List.length_replicate, List.length_drop] at * <;> omega))⟩)
      ·
       refine c0 h31 (wp_skip ?_)
       exact .inl ⟨y11, .ptr 0 0, .ptr 2 0, .ptr 4 0, .ptr 5 0, aB (y11 == 0), hm, (mk_same (by kernel_rfl)), rfl⟩
     ·
      subst hk16
      obtain ⟨k51, hk51, hm⟩ := withK_some hm
      refine mid (fun t H => (∃ (y45 : (List Int)) (y46 : Int) (w40 : AV) (w41 : AV) (w42 : AV) (w43 : AV) (w44 : AV) (g47 : Nat) (g49 : Nat), k51 y45 y46 = some r ∧ t = mk 46 [(2, w40), (7, aI y46), (8, w41), (9, .ptr 3 0), (10, w42), (11, w43), (37, w44)] ∧ H = [.box [.pv (encSl rS a0.fRels), .pv (encSl R_E_api_Expr a0.fWhere), aB a0.fGrouped, .pv (encSl R_E_api_Expr a0.fOut), .pv (encSl R_api_Agg a0.fAggs), .pv (encSl R_api_Key a0.fOrder)] false, .box [.pv (encSl R_api_Table x1.1)] false, .box [.fn 27 [] [.ptr 1 0]] false, .box [aR 6 1 g47] false, .box [.pv (.fn 29 [] [])] false, .box [.fn 30 [] [.ptr 3 0]] false, bR 3 1 (rI .i64) y45 g49 0] ∧ y45.length = g47 ∧ g49 ≤ y45.length)) ?_ ?_
      ·
       rintro _ _ ⟨y45, y46, w40, w41, w42, w43, w44, g47, g49, hm, rfl, rfl, q48, q50⟩
       subst hk51
       refine sq (sq (dn [(7, aI y46), (9, .ptr 3 0), (43, aB (y46 != 0))] ?_))
       rcases bif_some hm with ⟨h52, hm⟩ | ⟨h52, hm⟩
       ·
        refine c1 h52 (sq (dn [(4, .pv .nils), (5, aI y46)] (wp_ret ?_)))
        obtain rfl := Option.some.inj hm
        exact ⟨trivial, by kernel_rfl⟩
       ·
        refine c0 h52 (wp_skip (sq (dn [(4, aR 6 1 g47), (5, aI 0)] (wp_ret ?_))))
        obtain rfl := Option.some.inj hm
        exact ret_pure (v := .tup [aR 6 1 g47, aI 0]) trivial rfl (by kernel_rfl) (pR_tup (pAs_cons (pA_ref (pur_ref' (n := g47) (id := 6) (l := y45) (R := (rI .i64)) rfl (by omega) (by omega))) (pAs_cons (pA_pv) (rfl))))
      refine sq (dn [(2, .ptr 0 0), (7, aI y11), (8, .ptr 2 0), (9, .ptr 3 0), (10, .ptr 4 0), (11, .ptr 5 0), (37, aB (y11 == 0))] ?_)
      rcases bif_some hm with ⟨h53, hm⟩ | ⟨h53, hm⟩
      ·
       refine c1 h53 (rg (s1 3 [(40, .fn 37 [] [.ptr 2 0, .ptr 4 0, .ptr 5 0]), (39, .pv (encSl R_api_Agg a0.fAggs)), (38, .ptr 0 4)] ?_))
       obtain ⟨⟨x55, x56⟩, h54, hm⟩ := bs hm
       obtain ⟨vv, H1, hC, g57, g58, q59, q60, rfl, rfl⟩ := ok_query_each_Agg_query_Right_6_2 g12 g14 (by first | rfl | assumption | omega | (simp only [List.length_set, List.length_append, List.length_cons, List.length_nil, List.length_replicate, List.length_drop] at * <;> omega)) (by first | exact Nat.zero_le _ | exact Nat.le_refl _ | assumption | omega | (simp only [List.length_set, List.length_append, List.length_cons, List.length_nil, List.length_replicate, List.length_drop] at * <;> omega)) h54
       refine dR [(41, aI x56)] [.box [.pv (encSl rS a0.fRels), .pv (encSl R_E_api_Expr a0.fWhere), aB a0.fGrouped, .pv (encSl R_E_api_Expr a0.fOut), .pv (encSl R_api_Agg a0.fAggs), .pv (encSl R_api_Key a0.fOrder)] false, .box [.pv (encSl R_api_Table x1.1)] false, .box [.fn 27 [] [.ptr 1 0]] false, .box [aR 6 1 g57] false, .box [.pv (.fn 29 [] [])] false, .box [.fn 30 [] [.ptr 3 0]] false, bR 3 1 (rI .i64) x55 g58 0] [2, 1, 4, 5, 3, 6] [.pv (encSl R_api_Agg a0.fAggs), .fn 37 [] [.ptr 2 0, .ptr 4 0, .ptr 5 0]] (by kernel_rfl) (by kernel_rfl) (by kernel_rfl) hC (by kernel_rfl) (fq 1 [(7, aI x56), (9, .ptr 3 0)] ?_)
       exact ⟨x55, x56, .any, .any, .any, .any, .any, g57, g58, hm, (mk_same (by kernel_rfl)), rfl, (by first | rfl | assumption | omega | (simp only [List.length_set, List.length_append, List.length_cons, List.length_nil, List.length_replicate, List.length_drop] at * <;> omega)), (by first | exact Nat.zero_le _ | exact Nat.le_refl _ | assumption | omega | (simp only [List.length_set, List.length_append, List.length_cons, List.length_nil, List.length_replicate, List.length_drop] at * <;> omega))⟩
      ·
       refine c0 h53 (wp_skip ?_)
       exact ⟨y10, y11, .ptr 0 0, .ptr 2 0, .ptr 4 0, .ptr 5 0, aB (y11 == 0), g12, g14, hm, (mk_same (by kernel_rfl)), rfl, (by first | rfl | assumption | omega | (simp only [List.length_set, List.length_append, List.length_cons, List.length_nil, List.length_replicate, List.length_drop] at * <;> omega)), (by first | exact Nat.zero_le _ | exact Nat.le_refl _ | assumption | omega | (simp only [List.length_set, List.length_append, List.length_cons, List.length_nil, List.length_replicate, List.length_drop] at * <;> omega))⟩
    refine sq (dn [(2, .ptr 0 0), (7, aI x8), (8, .ptr 2 0), (9, .ptr 3 0), (10, .ptr 4 0), (11, .ptr 5 0), (31, aB (x8 == 0))] ?_)
    rcases bif_some hm with ⟨h61, hm⟩ | ⟨h61, hm⟩
    ·
     refine c1 h61 (rg (s1 3 [(34, .fn 35 [] [.ptr 2 0, .ptr 4 0, .ptr 5 0]), (33, .pv (encSl R_E_api_Expr a0.fOut)), (32, .ptr 0 3)] ?_))
     obtain ⟨x65, h62, hm⟩ := bs hm
     rcases x65 with ⟨_ | x63, x64⟩
     ·
      obtain ⟨vv, H1, hC, rfl, rfl⟩ := ok_query_each_Expr_query_Right_5 h62
      refine dR [(35, aI x64)] [.box [.pv (encSl rS a0.fRels), .pv (encSl R_E_api_Expr a0.fWhere), aB a0.fGrouped, .pv (encSl R_E_api_Expr a0.fOut), .pv (encSl R_api_Agg a0.fAggs), .pv (encSl R_api_Key a0.fOrder)] false, .box [.pv (encSl R_api_Table x1.1)] false, .box [.fn 27 [] [.ptr 1 0]] false, .box [.pv .nils] false, .box [.pv (.fn 29 [] [])] false, .box [.fn 30 [] [.ptr 3 0]] false] [2, 1, 4, 5, 3] [.pv (encSl R_E_api_Expr a0.fOut), .fn 35 [] [.ptr 2 0, .ptr 4 0, .ptr 5 0]] (by kernel_rfl) (by kernel_rfl) (by kernel_rfl) hC (by kernel_rfl) (fq 1 [(2, .ptr 0 0), (7, aI x64), (8, .ptr 2 0), (9, .ptr 3 0), (10, .ptr 4 0), (11, .ptr 5 0)] ?_)
      exact .inl ⟨x64, .any, hm, (mk_same (by kernel_rfl)), rfl⟩
     ·
      obtain ⟨vv, H1, hC, g66, g67, q68, q69, rfl, rfl⟩ := ok_query_each_Expr_query_Right_5 h62
      refine dR [(35, aI x64)] [.box [.pv (encSl rS a0.fRels), .pv (encSl R_E_api_Expr a0.fWhere), aB a0.fGrouped, .pv (encSl R_E_api_Expr a0.fOut), .pv (encSl R_api_Agg a0.fAggs), .pv (encSl R_api_Key a0.fOrder)] false, .box [.pv (encSl R_api_Table x1.1)] false, .box [.fn 27 [] [.ptr 1 0]] false, .box [aR 6 1 g66] false, .box [.pv (.fn 29 [] [])] false, .box [.fn 30 [] [.ptr 3 0]] false, bR 3 1 (rI .i64) x63 g67 0] [2, 1, 4, 5, 3] [.pv (encSl R_E_api_Expr a0.fOut), .fn 35 [] [.ptr 2 0, .ptr 4 0, .ptr 5 0]] (by kernel_rfl) (by kernel_rfl) (by kernel_rfl) hC (by kernel_rfl) (fq 1 [(2, .ptr 0 0), (7, aI x64), (8, .ptr 2 0), (9, .ptr 3 0), (10, .ptr 4 0), (11, .ptr 5 0)] ?_)
      exact .inr (⟨x63, x64, .any, g66, g67, hm, (mk_same (by kernel_rfl)), rfl, (by first | rfl | assumption | omega | (simp only [List.length_set, List.length_append, List.length_cons, List.length_nil, List.length_replicate, List.length_drop] at * <;> omega)), (by first | exact Nat.zero_le _ | exact Nat.le_refl _ | assumption | omega | (simp only [List.length_set, List.length_append, List.length_cons, List.length_nil, List.length_replicate, List.length_drop] at * <;> omega))⟩)
    ·
     refine c0 h61 (wp_skip ?_)
     exact .inl ⟨x8, aB (x8 == 0), hm, (mk_same (by kernel_rfl)), rfl⟩
theorem ok_ref01_Ints {n : Nat} {a0 : (Option (List Int))} {a1 : (Option (List Int))} {r : Bool} (hm : ref01_Ints n a0 a1 = some r) :
    call G n 10 [.pv (encSl (rI .i64) a0), .pv (encSl (rI .i64) a1)] [] = some (.ret (aB r), []) := by
  unfold ref01_Ints at hm
  obtain ⟨n, rfl, h0⟩ := at1_some hm
  replace hm := h0; clear h0
  refine callL 26 [(0, .pv (encSl (rI .i64) a0)), (1, .pv (encSl (rI .i64) a1))] func10 rfl (by kernel_rfl) (sq (dn [(0, .pv (encSl (rI .i64) a0)), (1, .pv (encSl (rI .i64) a1))] ?_))
  refine sq (sq (rg (s1 1 [(6, .pv (encSl (rI .i64) a0))] (dv 7 (v := aI ((sll a0).length : Int)) (len_slO (rI .i64) a0 t31 (by kernel_rfl)) (by kernel_rfl) (s1 1 [(8, .pv (encSl (rI .i64) a1))] (dv 9 (v := aI ((sll a1).length : Int)) (len_slO (rI .i64) a1 t31 (by kernel_rfl)) (by kernel_rfl) (fq 1 [(0, .pv (encSl (rI .i64) a0)), (1, .pv (encSl (rI .i64) a1)), (10, aB (((sll a0).length : Int) != ((sll a1).length : Int)))] ?_)))))))
  rcases bif_some hm with ⟨h1, hm⟩ | ⟨h1, hm⟩
  ·
   refine c1 h1 (sq (dn [(4, aB false)] (wp_ret ?_)))
   obtain rfl := Option.some.inj hm
   exact ⟨trivial, by kernel_rfl⟩
  ·
   refine c0 h1 (wp_skip ?_)
   obtain ⟨k4, hk4, hm⟩ := withK_some hm
   refine mid (fun t H => (∃ (y2 : Bool) (y3 : Int), k4 () = some r ∧ t = mk 26 [(0, .pv (encSl (rI .i64) a0)), (1, .pv (encSl (rI .i64) a1)), (5, aI y3), (14, aB y2)] ∧ H = [])) ?_ ?_
   ·
    rintro _ _ ⟨y2, y3, hm, rfl, rfl⟩
    subst hk4
    refine sq (dn [(4, aB true)] (wp_ret ?_))
    obtain rfl := Option.some.inj hm
    exact ⟨trivial, by kernel_rfl⟩
   refine sq (dn [(0, .pv (encSl (rI .i64) a0)), (1, .pv (encSl (rI .i64) a1)), (5, aI 0)] (bq ?_))
   refine loopF (fun mm t H => (∃ (y6 : Int), ref01_Ints_l4 n a0 a1 k4 mm y6 = some r ∧ t = mk 26 [(0, .pv (encSl (rI .i64) a0)), (1, .pv (encSl (rI .i64) a1)), (5, aI y6)] ∧ H = [])) (⟨0, hm, rfl, rfl⟩) ?_ ?_
   · rintro _ _ ⟨y6, hm, _⟩; exact nomatch hm
   rintro m7 _ _ ⟨y6, hm, rfl, rfl⟩
   simp only [ref01_Ints_l4] at hm
   refine sq (sq (rg (s1 2 [(12, .pv (encSl (rI .i64) a0)), (11, aI y6)] (dv 13 (v := aI ((sll a0).length : Int)) (len_slO (rI .i64) a0 t31 (by kernel_rfl)) (by kernel_rfl) (fq 1 [(0, .pv (encSl (rI .i64) a0)), (1, .pv (encSl (rI .i64) a1)), (5, aI y6), (14, aB (decide (y6 < ((sll a0).length : Int))))] ?_)))))
   rcases bif_some hm with ⟨h8, hm⟩ | ⟨h8, hm⟩
   ·
    refine c1 h8 (wp_skip (sq (bq (sq (rgd (shd 2 [(18, aI y6), (17, .pv (encSl (rI .i64) a0))] (by kernel_rfl) ?_))))))
    obtain ⟨x9, h10, hm⟩ := bs hm
    refine dvd 19 (v := .pv (.ptr ((rI .i64) x9) 0)) (ia_slO (rI .i64) a0 .i64 t31 t3 h10 rfl (by kernel_rfl)) (by kernel_rfl) (shd 3 [(22, aI y6), (21, .pv (encSl (rI .i64) a1)), (20, aI x9)] (by kernel_rfl) ?_)
    obtain ⟨x11, h12, hm⟩ := bs hm
    refine dvd 23 (v := .pv (.ptr ((rI .i64) x11) 0)) (ia_slO (rI .i64) a1 .i64 t31 t3 h12 rfl (by kernel_rfl)) (by kernel_rfl) (shd 2 [(25, aB (x9 != x11)), (24, aI x11)] (by kernel_rfl) (find [(0, .pv (encSl (rI .i64) a0)), (1, .pv (encSl (rI .i64) a1)), (5, aI y6), (25, aB (x9 != x11))] rfl (by kernel_rfl) (by kernel_rfl) ?_))
    rcases bif_some hm with ⟨h13, hm⟩ | ⟨h13, hm⟩
    ·
     refine c1 h13 (sq (dn [(4, aB false)] (wp_ret ?_)))
     obtain rfl := Option.some.inj hm
     exact ⟨trivial, by kernel_rfl⟩
    ·
     refine c0 h13 (wp_skip (dn [(0, .pv (encSl (rI .i64) a0)), (1, .pv (encSl (rI .i64) a1)), (5, aI (IntKind.wrap .i64 (y6 + 1)))] ?_))
     exact ⟨_, _, tidyL [(0, .pv (encSl (rI .i64) a0)), (1, .pv (encSl (rI .i64) a1)), (5, aI (IntKind.wrap .i64 (y6 + 1)))] [] (by kernel_rfl), ⟨(IntKind.wrap .i64 (y6 + 1)), hm, rfl, rfl⟩⟩
   ·
    refine c0 h8 (wp_exit ?_)
    exact ⟨(decide (y6 < ((sll a0).length : Int))), y6, hm, rfl, rfl⟩
theorem ok_law23_QueryTables {n : Nat} {a0 : api_Query} {a1 : (Option (List api_Table))} {a2 : (Option (List api_Table))} {r : Bool} (hm : law23_QueryTables n a0 a1 a2 = some r) :
    call G n 3 [.agg [.pv (encSl rS a0.fRels), .pv (encSl R_E_api_Expr a0.fWhere), aB a0.fGrouped, .pv (encSl R_E_api_Expr a0.fOut), .pv (encSl R_api_Agg a0.fAggs), .pv (encSl R_api_Key a0.fOrder)], .pv (encSl R_api_Table a1), .pv (encSl R_api_Table a2)] [] = some (.ret (aB r), []) := by
  unfold law23_QueryTables at hm
  obtain ⟨n, rfl, h0⟩ := at1_some hm
  replace hm := h0; clear h0
  refine callL 104 [(0, .agg [.pv (encSl rS a0.fRels), .pv (encSl R_E_api_Expr a0.fWhere), aB a0.fGrouped, .pv (encSl R_E_api_Expr a0.fOut), .pv (encSl R_api_Agg a0.fAggs), .pv (encSl R_api_Key a0.fOrder)]), (1, .pv (encSl R_api_Table a1)), (2, .pv (encSl R_api_Table a2))] func3 rfl (by kernel_rfl) (sq (det [(1, .pv (encSl R_api_Table a1)), (2, .pv (encSl R_api_Table a2)), (3, .ptr 0 0)] [.box [.pv (encSl rS a0.fRels), .pv (encSl R_E_api_Expr a0.fWhere), aB a0.fGrouped, .pv (encSl R_E_api_Expr a0.fOut), .pv (encSl R_api_Agg a0.fAggs), .pv (encSl R_api_Key a0.fOrder)] false] (by kernel_rfl) ?_))
  refine sq (sq (rg ?_))
  obtain ⟨x1, h2, hm⟩ := bs hm
  refine dv 16 (cpure (by kernel_rfl) (ok_law23_works h2) (by kernel_rfl) (by kernel_rfl) (by kernel_rfl)) (by kernel_rfl) (fq 1 [(1, .pv (encSl R_api_Table a1)), (2, .pv (encSl R_api_Table a2)), (3, .ptr 0 0), (17, aB (!x1))] ?_)
  rcases bif_some hm with ⟨h3, hm⟩ | ⟨h3, hm⟩
  ·
   refine c1 h3 (sq (dn [(6, aB false)] (wp_ret ?_)))
   obtain rfl := Option.some.inj hm
   exact ⟨trivial, by kernel_rfl⟩
  ·
   refine c0 h3 (wp_skip ?_)
   refine sq (sq (rg (s1 2 [(19, .pv (encSl R_api_Table a1)), (18, .agg [.pv (encSl rS a0.fRels), .pv (encSl R_E_api_Expr a0.fWhere), aB a0.fGrouped, .pv (encSl R_E_api_Expr a0.fOut), .pv (encSl R_api_Agg a0.fAggs), .pv (encSl R_api_Key a0.fOrder)])] ?_)))
   obtain ⟨x4, h5, hm⟩ := bs hm
   refine dv 20 (cpure (by kernel_rfl) (ok_law23_Great h5) (by kernel_rfl) (by kernel_rfl) (by kernel_rfl)) (by kernel_rfl) (s1 1 [(21, aB x4)] ?_)
   rcases bif_some hm with ⟨h6, hm⟩ | ⟨h6, hm⟩
   ·
    refine known [21, 20] h6 (by kernel_rfl) (fq 4 [(1, .pv (encSl R_api_Table a1)), (2, .pv (encSl R_api_Table a2)), (3, .ptr 0 0), (25, aB true)] (cT (by kernel_rfl) (sq (dn [(6, aB true)] (wp_ret ?_)))))
    obtain rfl := Option.some.inj hm
    exact ⟨trivial, by kernel_rfl⟩
   ·
    refine known [21, 20] h6 (by kernel_rfl) (s1 2 [(23, .pv (encSl R_api_Table a2)), (22, .agg [.pv .nils, .pv .nils, aB false, .pv .nils, .pv .nils, .pv .nils])] ?_)
    obtain ⟨x7, h8, hm⟩ := bs hm
    refine dv 24 (cpure (by kernel_rfl) (ok_law23_Great h8) (by kernel_rfl) (by kernel_rfl) (by kernel_rfl)) (by kernel_rfl) (fq 1 [(1, .pv (encSl R_api_Table a1)), (2, .pv (encSl R_api_Table a2)), (3, .ptr 0 0), (25, aB x7)] ?_)
    rcases bif_some hm with ⟨h9, hm⟩ | ⟨h9, hm⟩
    ·
     refine c1 h9 (sq (dn [(6, aB true)] (wp_ret ?_)))
     obtain rfl := Option.some.inj hm
     exact ⟨trivial, by kernel_rfl⟩
    ·
     refine c0 h9 (wp_skip (sq (rg (s1 2 [(28, .pv (encSl R_api_Table a1)), (27, .agg [.pv (encSl rS a0.fRels), .pv (encSl R_E_api_Expr a0.fWhere), aB a0.fGrouped, .pv (encSl R_E_api_Expr a0.fOut), .pv (encSl R_api_Agg a0.fAggs), .pv (encSl R_api_Key a0.fOrder)])] ?_))))
     obtain ⟨x10, h11, hm⟩ := bs hm
     refine dv 29 (cpure (by kernel_rfl) (ok_query_Right h11) (by kernel_rfl) (by kernel_rfl) (by kernel_rfl)) (by kernel_rfl) (fq 5 [(1, .pv (encSl R_api_Table a1)), (2, .pv (encSl R_api_Table a2)), (3, .ptr 0 0), (7, .pv (encSl (rI .i64) x10.1)), (8, aI x10.2)] ?_)
     obtain ⟨k18, hk18, hm⟩ := withK_some hm
     refine mid (fun t H => (∃ (y12 : (List api_Table)) (y13 : Int) (y14 : (Option (List Int))) (g15 : Nat) (g17 : Nat), k18 y13 y14 = some r ∧ t = mk 104 [(1, .pv (encSl R_api_Table a1)), (3, .ptr 0 0), (7, .pv (encSl (rI .i64) x10.1)), (8, aI x10.2), (9, .pv (encSl (rI .i64) y14)), (10, aI y13)] ∧ H = [.box [.pv (encSl rS a0.fRels), .pv (encSl R_E_api_Expr a0.fWhere), aB a0.fGrouped, .pv (encSl R_E_api_Expr a0.fOut), .pv (encSl R_api_Agg a0.fAggs), .pv (encSl R_api_Key a0.fOrder)] false, bR 38 2 R_api_Table y12 0 g17] ∧ y12.length = g15)) ?_ ?_
     ·
      rintro _ _ ⟨y12, y13, y14, g15, g17, hm, rfl, rfl, q16⟩
      subst hk18
      obtain ⟨k20, hk20, hm⟩ := withK_some hm
      refine mid (fun t H => (∃ (y19 : Bool), k20 () = some r ∧ t = mk 104 [(1, .pv (encSl R_api_Table a1)), (3, .ptr 0 0), (7, .pv (encSl (rI .i64) x10.1)), (8, aI x10.2), (53, aB y19)] ∧ H = [.box [.pv (encSl rS a0.fRels), .pv (encSl R_E_api_Expr a0.fWhere), aB a0.fGrouped, .pv (encSl R_E_api_Expr a0.fOut), .pv (encSl R_api_Agg a0.fAggs), .pv (encSl R_api_Key a0.fOrder)] false, bR 38 2 R_api_Table y12 0 g17])) ?_ ?_
      ·
       rintro _ _ ⟨y19, hm, rfl, rfl⟩
       subst hk20
       refine sq (dn [(1, .pv (encSl R_api_Table a1)), (3, .ptr 0 0), (7, .pv (encSl (rI .i64) x10.1)), (8, aI x10.2), (11, .pv .nils)] ?_)
       obtain ⟨k24, hk24, hm⟩ := withK_some hm
       refine mid (fun t H => (∃ (w21 : AV) (w22 : AV), k24 none = some r ∧ t = mk 104 [(1, .pv (encSl R_api_Table a1)), (3, .ptr 0 0), (7, .pv (encSl (rI .i64) x10.1)), (8, aI x10.2), (11, .pv .nils), (12, w21), (58, w22)] ∧ H = [.box [.pv (encSl rS a0.fRels), .pv (encSl R_E_api_Expr a0.fWhere), aB a0.fGrouped, .pv (encSl R_E_api_Expr a0.fOut), .pv (encSl R_api_Agg a0.fAggs), .pv (encSl R_api_Key a0.fOrder)] false, bR 38 2 R_api_Table y12 0 g17]) ∨ (∃ (y23 : (List api_Table)) (w21 : AV) (w22 : AV), k24 (some y23) = some r ∧ t = mk 104 [(1, .pv (encSl R_api_Table a1)), (3, .ptr 0 0), (7, .pv (encSl (rI .i64) x10.1)), (8, aI x10.2), (11, aR 2 2 y23.length), (12, w21), (58, w22)] ∧ H = [.box [.pv (encSl rS a0.fRels), .pv (encSl R_E_api_Expr a0.fWhere), aB a0.fGrouped, .pv (encSl R_E_api_Expr a0.fOut), .pv (encSl R_api_Agg a0.fAggs), .pv (encSl R_api_Key a0.fOrder)] false, bR 38 2 R_api_Table y12 0 g17, bR 38 2 R_api_Table y23 0 0])) ?_ ?_
       ·
        rintro _ _ (⟨w21, w22, hm, rfl, rfl⟩ | ⟨y23, w21, w22, hm, rfl, rfl⟩)
        ·
         subst hk24
         refine sq (rg (s1 2 [(86, .pv .nils), (85, .agg [.pv (encSl rS a0.fRels), .pv (encSl R_E_api_Expr a0.fWhere), aB a0.fGrouped, .pv (encSl R_E_api_Expr a0.fOut), .pv (encSl R_api_Agg a0.fAggs), .pv (encSl R_api_Key a0.fOrder)])] ?_))
         obtain ⟨x25, h26, hm⟩ := bs hm
         refine dv 87 (cpure (by kernel_rfl) (ok_query_Right h26) (by kernel_rfl) (by kernel_rfl) (by kernel_rfl)) (by kernel_rfl) (fq 5 [(7, .pv (encSl (rI .i64) x10.1)), (8, aI x10.2), (14, .pv (encSl (rI .i64) x25.1)), (15, aI x25.2)] (sq (rg (s1 4 [(93, aB (x25.2 == x10.2)), (92, aB (x25.2 == x10.2)), (91, aI x10.2), (90, aI x25.2)] ?_))))
         rcases bif_some hm with ⟨h27, hm⟩ | ⟨h27, hm⟩
         ·
          refine known [93, 92] h27 (by kernel_rfl) (s1 2 [(95, .pv (encSl (rI .i64) x25.1)), (94, .pv (encSl (rI .i64) x10.1))] ?_)
          obtain ⟨x28, h29, hm⟩ := bs hm
          refine dv 96 (cpure (by kernel_rfl) (ok_ref01_Ints h29) (by kernel_rfl) (by kernel_rfl) (by kernel_rfl)) (by kernel_rfl) (s1 2 [(98, aB x28), (97, aB x28)] ?_)
          rcases bif_some hm with ⟨h30, hm⟩ | ⟨h30, hm⟩
          ·
           refine known [98, 97, 96] h30 (by kernel_rfl) (s1 3 [(101, aB (x10.2 != 0)), (100, aB (x10.2 != 0)), (99, aI x10.2)] ?_)
           rcases bif_some hm with ⟨h31, hm⟩ | ⟨h31, hm⟩
           ·
            refine known [101, 100] h31 (by kernel_rfl) (fq 3 [(6, aB true)] (wp_ret ?_))
            obtain rfl := Option.some.inj hm
            exact ⟨trivial, by kernel_rfl⟩
           ·
            refine known [101, 100] h31 (by kernel_rfl) (fq 3 [(6, aB true)] (wp_ret ?_))
            obtain rfl := Option.some.inj hm
            exact ⟨trivial, by kernel_rfl⟩
          ·
           refine known [98, 97, 96] h30 (by kernel_rfl) (fq 6 [(6, aB false)] (wp_ret ?_))
           obtain rfl := Option.some.inj hm
           exact ⟨trivial, by kernel_rfl⟩
         ·
          refine known [93, 92] h27 (by kernel_rfl) (fq 11 [(6, aB false)] (wp_ret ?_))
          obtain rfl := Option.some.inj hm
          exact ⟨trivial, by kernel_rfl⟩
        ·
         subst hk24
         refine sq (rg (s1 2 [(86, aR 2 2 y23.length), (85, .agg [.pv (encSl rS a0.fRels), .pv (encSl R_E_api_Expr a0.fWhere), aB a0.fGrouped, .pv (encSl R_E_api_Expr a0.fOut), .pv (encSl R_api_Agg a0.fAggs), .pv (encSl R_api_Key a0.fOrder)])] ?_))
         obtain ⟨x32, h33, hm⟩ := bs hm
         refine dO [(87, .tup [.pv (encSl (rI .i64) x32.1), aI x32.2])] [.box [.pv (encSl rS a0.fRels), .pv (encSl R_E_api_Expr a0.fWhere), aB a0.fGrouped, .pv (encSl R_E_api_Expr a0.fOut), .pv (encSl R_api_Agg a0.fAggs), .pv (encSl R_api_Key a0.fOrder)] false, bR 38 2 R_api_Table y12 0 g17, bR 38 2 R_api_Table y23 0 (max 0 (y23.map R_api_Table).length)] (cpureR [2] [.agg [.pv (encSl rS a0.fRels), .pv (encSl R_E_api_Expr a0.fWhere), aB a0.fGrouped, .pv (encSl R_E_api_Expr a0.fOut), .pv (encSl R_api_Agg a0.fAggs), .pv (encSl R_api_Key a0.fOrder)], aR 2 2 y23.length] (fl := false) (by kernel_rfl) (by kernel_rfl) (pAs_cons (pA_agg (purL_cons (pur_pv) (purL_cons (pur_pv) (purL_cons (pur_pv) (purL_cons (pur_pv) (purL_cons (pur_pv) (purL_cons (pur_pv) (rfl)))))))) (pAs_cons (pA_ref (pur_ref' (n := y23.length) (id := 2) (l := y23) (R := R_api_Table) rfl rfl (Nat.zero_le _))) (rfl))) (ok_query_Right h33) (by kernel_rfl) (by simp [AV.flat, AV.flat2, AV.flat1, flat_sl])) (by kernel_rfl) (fq 5 [(7, .pv (encSl (rI .i64) x10.1)), (8, aI x10.2), (14, .pv (encSl (rI .i64) x32.1)), (15, aI x32.2)] (sq (rg (s1 4 [(93, aB (x32.2 == x10.2)), (92, aB (x32.2 == x10.2)), (91, aI x10.2), (90, aI x32.2)] ?_))))
         rcases bif_some hm with ⟨h34, hm⟩ | ⟨h34, hm⟩
         ·
          refine known [93, 92] h34 (by kernel_rfl) (s1 2 [(95, .pv (encSl (rI .i64) x32.1)), (94, .pv (encSl (rI .i64) x10.1))] ?_)
          obtain ⟨x35, h36, hm⟩ := bs hm
          refine dv 96 (cpure (by kernel_rfl) (ok_ref01_Ints h36) (by kernel_rfl) (by kernel_rfl) (by kernel_rfl)) (by kernel_rfl) (s1 2 [(98, aB x35), (97, aB x35)] ?_)
          rcases bif_some hm with ⟨h37, hm⟩ | ⟨h37, hm⟩
          ·
           refine known [98, 97, 96] h37 (by kernel_rfl) (s1 3 [(101, aB (x10.2 != 0)), (100, aB (x10.2 != 0)), (99, aI x10.2)] ?_)
           rcases bif_some hm with ⟨h38, hm⟩ | ⟨h38, hm⟩
           ·
            refine known [101, 100] h38 (by kernel_rfl) (fq 3 [(6, aB true)] (wp_ret ?_))
            obtain rfl := Option.some.inj hm
            exact ⟨trivial, by kernel_rfl⟩
           ·
            refine known [101, 100] h38 (by kernel_rfl) (fq 3 [(6, aB true)] (wp_ret ?_))
            obtain rfl := Option.some.inj hm
            exact ⟨trivial, by kernel_rfl⟩
          ·
           refine known [98, 97, 96] h37 (by kernel_rfl) (fq 6 [(6, aB false)] (wp_ret ?_))
           obtain rfl := Option.some.inj hm
           exact ⟨trivial, by kernel_rfl⟩
         ·
          refine known [93, 92] h34 (by kernel_rfl) (fq 11 [(6, aB false)] (wp_ret ?_))
          obtain rfl := Option.some.inj hm
          exact ⟨trivial, by kernel_rfl⟩
       refine sq (rg (s1 1 [(54, .pv (encSl R_api_Table a1))] (dv 55 (v := aI ((sll a1).length : Int)) (len_slO R_api_Table a1 t28 (by kernel_rfl)) (by kernel_rfl) (fq 2 [(1, .pv (encSl R_api_Table a1)), (3, .ptr 0 0), (7, .pv (encSl (rI .i64) x10.1)), (8, aI x10.2), (11, .pv .nils), (12, aI (IntKind.wrap .i64 (((sll a1).length : Int) - 1)))] (bq ?_)))))
       refine loopF (fun mm t H => (∃ (y43 : Int), law23_QueryTables_l11 n a1 k24 mm none y43 = some r ∧ t = mk 104 [(1, .pv (encSl R_api_Table a1)), (3, .ptr 0 0), (7, .pv (encSl (rI .i64) x10.1)), (8, aI x10.2), (11, .pv .nils), (12, aI y43)] ∧ H = [.box [.pv (encSl rS a0.fRels), .pv (encSl R_E_api_Expr a0.fWhere), aB a0.fGrouped, .pv (encSl R_E_api_Expr a0.fOut), .pv (encSl R_api_Agg a0.fAggs), .pv (encSl R_api_Key a0.fOrder)] false, bR 38 2 R_api_Table y12 0 g17]) ∨ (∃ (y42 : (List api_Table)) (y43 : Int), law23_QueryTables_l11 n a1 k24 mm (some y42) y43 = some r ∧ t = mk 104 [(1, .pv (encSl R_api_Table a1)), (3, .ptr 0 0), (7, .pv (encSl (rI .i64) x10.1)), (8, aI x10.2), (11, aR 2 2 y42.length), (12, aI y43)] ∧ H = [.box [.pv (encSl rS a0.fRels), .pv (encSl R_E_api_Expr a0.fWhere), aB a0.fGrouped, .pv (encSl R_E_api_Expr a0.fOut), .pv (encSl R_api_Agg a0.fAggs), .pv (encSl R_api_Key a0.fOrder)] false, bR 38 2 R_api_Table y12 0 g17, bR 38 2 R_api_Table y42 0 0])) (.inl ⟨(IntKind.wrap .i64 (((sll a1).length : Int) - 1)), hm, rfl, rfl⟩) ?_ ?_
       · rintro _ _ (⟨y43, hm, _⟩ | ⟨y42, y43, hm, _⟩) <;> exact nomatch hm
       rintro m44 _ _ (⟨y43, hm, rfl, rfl⟩ | ⟨y42, y43, hm, rfl, rfl⟩)
       ·
        simp only [law23_QueryTables_l11] at hm
        refine sq (sq (dn [(1, .pv (encSl R_api_Table a1)), (3, .ptr 0 0), (7, .pv (encSl (rI .i64) x10.1)), (8, aI x10.2), (11, .pv .nils), (12, aI y43), (58, aB (decide (y43 ≥ 0)))] ?_))
        rcases bif_some hm with ⟨h45, hm⟩ | ⟨h45, hm⟩
        ·
         refine c1 h45 (wp_skip ?_)
         obtain ⟨k51, hk51, hm⟩ := withK_some hm
         refine mid (fun t H => (∃ (y46 : (List api_Table)) (y47 : (List api_Table)) (y48 : Int) (y49 : Bool), k51 y47 = some r ∧ t = mk 104 [(1, .pv (encSl R_api_Table a1)), (3, .ptr 0 0), (7, .pv (encSl (rI .i64) x10.1)), (8, aI x10.2), (11, aR 3 2 y47.length), (12, aI y43), (68, aI y43), (69, aI y48), (70, aB y49)] ∧ H = [.box [.pv (encSl rS a0.fRels), .pv (encSl R_E_api_Expr a0.fWhere), aB a0.fGrouped, .pv (encSl R_E_api_Expr a0.fOut), .pv (encSl R_api_Agg a0.fAggs), .pv (encSl R_api_Key a0.fOrder)] false, bR 38 2 R_api_Table y12 0 g17, bR 38 2 R_api_Table y46 0 0, bR 38 2 R_api_Table y47 0 0] ∧ y46.length = 1)) ?_ ?_
         ·
          rintro _ _ ⟨y46, y47, y48, y49, hm, rfl, rfl, q50⟩
          subst hk51
          refine dn [(1, .pv (encSl R_api_Table a1)), (3, .ptr 0 0), (7, .pv (encSl (rI .i64) x10.1)), (8, aI x10.2), (11, aR 3 2 y47.length), (12, aI (IntKind.wrap .i64 (y43 - 1)))] ?_
          exact ⟨_, _, tidyL [(1, .pv (encSl R_api_Table a1)), (3, .ptr 0 0), (7, .pv (encSl (rI .i64) x10.1)), (8, aI x10.2), (11, aR 2 2 y47.length), (12, aI (IntKind.wrap .i64 (y43 - 1)))] [.box [.pv (encSl rS a0.fRels), .pv (encSl R_E_api_Expr a0.fWhere), aB a0.fGrouped, .pv (encSl R_E_api_Expr a0.fOut), .pv (encSl R_api_Agg a0.fAggs), .pv (encSl R_api_Key a0.fOrder)] false, bR 38 2 R_api_Table y12 0 g17, bR 38 2 R_api_Table y47 0 0] (by kernel_rfl), .inr (⟨y47, (IntKind.wrap .i64 (y43 - 1)), hm, rfl, rfl⟩)⟩
         refine bq (sq (rg (s1 3 [(63, aI y43), (62, .pv (encSl R_api_Table a1)), (61, .pv .nils)] ?_)))
         obtain ⟨x52, h53, hm⟩ := bs hm
         refine dv 64 (v := .pv (.ptr (R_api_Table x52) 0)) (ia_slO R_api_Table a1 .i64 t28 t38 h53 rfl (by kernel_rfl)) (by kernel_rfl) (st 2 [(66, aR 2 2 1), (65, .agg [aS x52.fName, .pv (encSl R_api_Column x52.fCols)])] [.box [.pv (encSl rS a0.fRels), .pv (encSl R_E_api_Expr a0.fWhere), aB a0.fGrouped, .pv (encSl R_E_api_Expr a0.fOut), .pv (encSl R_api_Agg a0.fAggs), .pv (encSl R_api_Key a0.fOrder)] false, bR 38 2 R_api_Table y12 0 g17, bR 38 2 R_api_Table ([x52] : List api_Table) 0 0] (by kernel_rfl) ?_)
         obtain ⟨_, h54, hm⟩ := bs hm
         refine dO [(67, aR 3 2 (([x52] : List api_Table).length))] [.box [.pv (encSl rS a0.fRels), .pv (encSl R_E_api_Expr a0.fWhere), aB a0.fGrouped, .pv (encSl R_E_api_Expr a0.fOut), .pv (encSl R_api_Agg a0.fAggs), .pv (encSl R_api_Key a0.fOrder)] false, bR 38 2 R_api_Table y12 0 g17, bR 38 2 R_api_Table ([x52] : List api_Table) 0 0, bR 38 2 R_api_Table ([x52] : List api_Table) 0 0] (app_nilO (u := 0) R_api_Table ([x52] : List api_Table) (b := 40) t28 t38 rfl rfl rfl (fun _ => rfl) rfl h54 (show srcRows (aR 2 2 1) _ = some (([x52] : List api_Table).map R_api_Table) from by kernel_rfl) (by kernel_rfl)) (by kernel_rfl) (fq 1 [(1, .pv (encSl R_api_Table a1)), (3, .ptr 0 0), (7, .pv (encSl (rI .i64) x10.1)), (8, aI x10.2), (11, aR 3 2 (([x52] : List api_Table).length)), (12, aI y43)] (sq (dn [(1, .pv (encSl R_api_Table a1)), (3, .ptr 0 0), (7, .pv (encSl (rI .i64) x10.1)), (8, aI x10.2), (11, aR 3 2 (([x52] : List api_Table).length)), (12, aI y43), (68, aI y43), (69, aI 0)] (bq ?_))))
         refine loopF (fun mm t H => (∃ (y56 : Int), law23_QueryTables_l15 n a1 y43 k51 x52 mm y56 = some r ∧ t = mk 104 [(1, .pv (encSl R_api_Table a1)), (3, .ptr 0 0), (7, .pv (encSl (rI .i64) x10.1)), (8, aI x10.2), (11, aR 3 2 (([x52] : List api_Table).length)), (12, aI y43), (68, aI y43), (69, aI y56)] ∧ H = [.box [.pv (encSl rS a0.fRels), .pv (encSl R_E_api_Expr a0.fWhere), aB a0.fGrouped, .pv (encSl R_E_api_Expr a0.fOut), .pv (encSl R_api_Agg a0.fAggs), .pv (encSl R_api_Key a0.fOrder)] false, bR 38 2 R_api_Table y12 0 g17, bR 38 2 R_api_Table ([x52] : List api_Table) 0 0, bR 38 2 R_api_Table ([x52] : List api_Table) 0 0])) (⟨0, hm, rfl, rfl⟩) ?_ ?_
         · rintro _ _ ⟨y56, hm, _⟩; exact nomatch hm
         rintro m57 _ _ ⟨y56, hm, rfl, rfl⟩
         simp only [law23_QueryTables_l15] at hm
         refine sq (dn [(1, .pv (encSl R_api_Table a1)), (3, .ptr 0 0), (7, .pv (encSl (rI .i64) x10.1)), (8, aI x10.2), (11, aR 3 2 (([x52] : List api_Table).length)), (12, aI y43), (68, aI y43), (69, aI y56), (70, aB (decide (y56 < y43)))] ?_)
         refine sq ?_
         rcases bif_some hm with ⟨h58, hm⟩ | ⟨h58, hm⟩
         ·
          refine c1 h58 (wp_skip (sq (bq (sq (dn [(1, .pv (encSl R_api_Table a1)), (3, .ptr 0 0), (7, .pv (encSl (rI .i64) x10.1)), (8, aI x10.2), (11, aR 3 2 (([x52] : List api_Table).length)), (12, aI y43), (13, aI y56), (68, aI y43), (69, aI y56)] (sq (rgd (shd 2 [(73, aI y56), (72, .pv (encSl R_api_Table a1))] (by kernel_rfl) ?_))))))))
          obtain ⟨x59, h60, hm⟩ := bs hm
          refine dvd 74 (v := .pv (.ptr (R_api_Table x59) 0)) (ia_slO R_api_Table a1 .i64 t28 t38 h60 rfl (by kernel_rfl)) (by kernel_rfl) (shd 4 [(78, aI y43), (77, .pv (encSl R_api_Table a1)), (76, aS x59.fName), (75, .pv (.ptr (R_api_Table x59) 0))] (by kernel_rfl) (dvd 79 (v := .pv (.ptr (R_api_Table x52) 0)) (ia_slO R_api_Table a1 .i64 t28 t38 h53 rfl (by kernel_rfl)) (by kernel_rfl) (shd 3 [(82, aB (sEq x59.fName x52.fName)), (81, aS x52.fName), (80, .pv (.ptr (R_api_Table x52) 0))] (by kernel_rfl) (find [(1, .pv (encSl R_api_Table a1)), (3, .ptr 0 0), (7, .pv (encSl (rI .i64) x10.1)), (8, aI x10.2), (11, aR 3 2 (([x52] : List api_Table).length)), (12, aI y43), (68, aI y43), (69, aI y56), (82, aB (sEq x59.fName x52.fName))] rfl (by kernel_rfl) (by kernel_rfl) ?_))))
          rcases bif_some hm with ⟨h61, hm⟩ | ⟨h61, hm⟩
          ·
           refine c1 h61 (sq (dn [(6, aB true)] (wp_ret ?_)))
           obtain rfl := Option.some.inj hm
           exact ⟨trivial, by kernel_rfl⟩
          ·
           refine c0 h61 (wp_skip (dn [(1, .pv (encSl R_api_Table a1)), (3, .ptr 0 0), (7, .pv (encSl (rI .i64) x10.1)), (8, aI x10.2), (11, aR 3 2 (([x52] : List api_Table).length)), (12, aI y43), (68, aI y43), (69, aI (IntKind.wrap .i64 (y56 + 1)))] ?_))
           exact ⟨_, _, tidyL [(1, .pv (encSl R_api_Table a1)), (3, .ptr 0 0), (7, .pv (encSl (rI .i64) x10.1)), (8, aI x10.2), (11, aR 3 2 (([x52] : List api_Table).length)), (12, aI y43), (68, aI y43), (69, aI (IntKind.wrap .i64 (y56 + 1)))] [.box [.pv (encSl rS a0.fRels), .pv (encSl R_E_api_Expr a0.fWhere), aB a0.fGrouped, .pv (encSl R_E_api_Expr a0.fOut), .pv (encSl R_api_Agg a0.fAggs), .pv (encSl R_api_Key a0.fOrder)] false, bR 38 2 R_api_Table y12 0 g17, bR 38 2 R_api_Table ([x52] : List api_Table) 0 0, bR 38 2 R_api_Table ([x52] : List api_Table) 0 0] (by kernel_rfl), ⟨(IntKind.wrap .i64 (y56 + 1)), hm, rfl, rfl⟩⟩
         ·
          refine c0 h58 (wp_exit ?_)
          exact ⟨([x52] : List api_Table), ([x52] : List api_Table), y56, (decide (y56 < y43)), hm, rfl, rfl, (by first | rfl | assumption | omega | (simp only [List.length_set, List.length_append, List.length_cons, List.length_nil, List.length_replicate, List.length_drop] at * <;> omega))⟩
        ·
         refine c0 h45 (wp_exit ?_)
         exact .inl ⟨aI y43, aB (decide (y43 ≥ 0)), hm, (mk_same (by kernel_rfl)), rfl⟩
       ·
        simp only [law23_QueryTables_l11] at hm
        refine sq (sq (dn [(1, .pv (encSl R_api_Table a1)), (3, .ptr 0 0), (7, .pv (encSl (rI .i64) x10.1)), (8, aI x10.2), (11, aR 2 2 y42.length), (12, aI y43), (58, aB (decide (y43 ≥ 0)))] ?_))
        rcases bif_some hm with ⟨h62, hm⟩ | ⟨h62, hm⟩
        ·
         refine c1 h62 (wp_skip ?_)
         obtain ⟨k68, hk68, hm⟩ := withK_some hm
         refine mid (fun t H => (∃ (y63 : (List api_Table)) (y64 : (List api_Table)) (y65 : Int) (y66 : Bool), k68 y63 = some r ∧ t = mk 104 [(1, .pv (encSl R_api_Table a1)), (3, .ptr 0 0), (7, .pv (encSl (rI .i64) x10.1)), (8, aI x10.2), (11, aR 2 2 y63.length), (12, aI y43), (68, aI y43), (69, aI y65), (70, aB y66)] ∧ H = [.box [.pv (encSl rS a0.fRels), .pv (encSl R_E_api_Expr a0.fWhere), aB a0.fGrouped, .pv (encSl R_E_api_Expr a0.fOut), .pv (encSl R_api_Agg a0.fAggs), .pv (encSl R_api_Key a0.fOrder)] false, bR 38 2 R_api_Table y12 0 g17, bR 38 2 R_api_Table y63 0 0, bR 38 2 R_api_Table y64 0 0] ∧ y64.length = 1)) ?_ ?_
         ·
          rintro _ _ ⟨y63, y64, y65, y66, hm, rfl, rfl, q67⟩
          subst hk68
          refine dn [(1, .pv (encSl R_api_Table a1)), (3, .ptr 0 0), (7, .pv (encSl (rI .i64) x10.1)), (8, aI x10.2), (11, aR 2 2 y63.length), (12, aI (IntKind.wrap .i64 (y43 - 1)))] ?_
          exact ⟨_, _, tidyL [(1, .pv (encSl R_api_Table a1)), (3, .ptr 0 0), (7, .pv (encSl (rI .i64) x10.1)), (8, aI x10.2), (11, aR 2 2 y63.length), (12, aI (IntKind.wrap .i64 (y43 - 1)))] [.box [.pv (encSl rS a0.fRels), .pv (encSl R_E_api_Expr a0.fWhere), aB a0.fGrouped, .pv (encSl R_E_api_Expr a0.fOut), .pv (encSl R_api_Agg a0.fAggs), .pv (encSl R_api_Key a0.fOrder)] false, bR 38 2 R_api_Table y12 0 g17, bR 38 2 R_api_Table y63 0 0] (by kernel_rfl), .inr (⟨y63, (IntKind.wrap .i64 (y43 - 1)), hm, rfl, rfl⟩)⟩
         refine bq (sq (rg (s1 3 [(63, aI y43), (62, .pv (encSl R_api_Table a1)), (61, aR 2 2 y42.length)] ?_)))
         obtain ⟨x69, h70, hm⟩ := bs hm
         refine dv 64 (v := .pv (.ptr (R_api_Table x69) 0)) (ia_slO R_api_Table a1 .i64 t28 t38 h70 rfl (by kernel_rfl)) (by kernel_rfl) (st 2 [(66, aR 3 2 1), (65, .agg [aS x69.fName, .pv (encSl R_api_Column x69.fCols)])] [.box [.pv (encSl rS a0.fRels), .pv (encSl R_E_api_Expr a0.fWhere), aB a0.fGrouped, .pv (encSl R_E_api_Expr a0.fOut), .pv (encSl R_api_Agg a0.fAggs), .pv (encSl R_api_Key a0.fOrder)] false, bR 38 2 R_api_Table y12 0 g17, bR 38 2 R_api_Table y42 0 0, bR 38 2 R_api_Table ([x69] : List api_Table) 0 0] (by kernel_rfl) ?_)
         obtain ⟨_, h71, hm⟩ := bs hm
         refine dO [(67, aR 2 2 ((y42 ++ ([x69] : List api_Table)).length))] [.box [.pv (encSl rS a0.fRels), .pv (encSl R_E_api_Expr a0.fWhere), aB a0.fGrouped, .pv (encSl R_E_api_Expr a0.fOut), .pv (encSl R_api_Agg a0.fAggs), .pv (encSl R_api_Key a0.fOrder)] false, bR 38 2 R_api_Table y12 0 g17, bR 38 2 R_api_Table (y42 ++ ([x69] : List api_Table)) 0 0, bR 38 2 R_api_Table ([x69] : List api_Table) 0 0] (app_refO (u := 0) (n := y42.length) (id := 2) R_api_Table y42 ([x69] : List api_Table) (b := 40) t28 t38 rfl rfl rfl (fun _ => rfl) rfl h71 rfl rfl (Nat.zero_le _) (show srcRows (aR 3 2 1) _ = some (([x69] : List api_Table).map R_api_Table) from by kernel_rfl) (by kernel_rfl)) (by kernel_rfl) (fq 1 [(1, .pv (encSl R_api_Table a1)), (3, .ptr 0 0), (7, .pv (encSl (rI .i64) x10.1)), (8, aI x10.2), (11, aR 2 2 ((y42 ++ ([x69] : List api_Table)).length)), (12, aI y43)] (sq (dn [(1, .pv (encSl R_api_Table a1)), (3, .ptr 0 0), (7, .pv (encSl (rI .i64) x10.1)), (8, aI x10.2), (11, aR 2 2 ((y42 ++ ([x69] : List api_Table)).length)), (12, aI y43), (68, aI y43), (69, aI 0)] (bq ?_))))
         refine loopF (fun mm t H => (∃ (y73 : Int), law23_QueryTables_l15x n a1 y42 y43 k68 x69 mm y73 = some r ∧ t = mk 104 [(1, .pv (encSl R_api_Table a1)), (3, .ptr 0 0), (7, .pv (encSl (rI .i64) x10.1)), (8, aI x10.2), (11, aR 2 2 ((y42 ++ ([x69] : List api_Table)).length)), (12, aI y43), (68, aI y43), (69, aI y73)] ∧ H = [.box [.pv (encSl rS a0.fRels), .pv (encSl R_E_api_Expr a0.fWhere), aB a0.fGrouped, .pv (encSl R_E_api_Expr a0.fOut), .pv (encSl R_api_Agg a0.fAggs), .pv (encSl R_api_Key a0.fOrder)] false, bR 38 2 R_api_Table y12 0 g17, bR 38 2 R_api_Table (y42 ++ ([x69] : List api_Table)) 0 0, bR 38 2 R_api_Table ([x69] : List api_Table) 0 0])) (⟨0, hm, rfl, rfl⟩) ?_ ?_
         · rintro _ _ ⟨y73, hm, _⟩; exact nomatch hm
         rintro m74 _ _ ⟨y73, hm, rfl, rfl⟩
         simp only [law23_QueryTables_l15x] at hm
         refine sq (dn [(1, .pv (encSl R_api_Table a1)), (3, .ptr 0 0), (7, .pv (encSl (rI .i64) x10.1)), (8, aI x10.2), (11, aR 2 2 ((y42 ++ ([x69] : List api_Table)).length)), (12, aI y43), (68, aI y43), (69, aI y73), (70, aB (decide (y73 < y43)))] ?_)
         refine sq ?_
         rcases bif_some hm with ⟨h75, hm⟩ | ⟨h75, hm⟩
         ·
          refine c1 h75 (wp_skip (sq (bq (sq (dn [(1, .pv (encSl R_api_Table a1)), (3, .ptr 0 0), (7, .pv (encSl (rI .i64) x10.1)), (8, aI x10.2), (11, aR 2 2 ((y42 ++ ([x69] : List api_Table)).length)), (12, aI y43), (13, aI y73), (68, aI y43), (69, aI y73)] (sq (rgd (shd 2 [(73, aI y73), (72, .pv (encSl R_api_Table a1))] (by kernel_rfl) ?_))))))))
          obtain ⟨x76, h77, hm⟩ := bs hm
          refine dvd 74 (v := .pv (.ptr (R_api_Table x76) 0)) (ia_slO R_api_Table a1 .i64 t28 t38 h77 rfl (by kernel_rfl)) (by kernel_rfl) (shd 4 [(78, aI y43), (77, .pv (encSl R_api_Table a1)), (76, aS x76.fName), (75, .pv (.ptr (R_api_Table x76) 0))] (by kernel_rfl) (dvd 79 (v := .pv (.ptr (R_api_Table x69) 0)) (ia_slO R_api_Table a1 .i64 t28 t38 h70 rfl (by kernel_rfl)) (by kernel_rfl) (shd 3 [(82, aB (sEq x76.fName x69.fName)), (81, aS x69.fName), (80, .pv (.ptr (R_api_Table x69) 0))] (by kernel_rfl) (find [(1, .pv (encSl R_api_Table a1)), (3, .ptr 0 0), (7, .pv (encSl (rI .i64) x10.1)), (8, aI x10.2), (11, aR 2 2 ((y42 ++ ([x69] : List api_Table)).length)), (12, aI y43), (68, aI y43), (69, aI y73), (82, aB (sEq x76.fName x69.fName))] rfl (by kernel_rfl) (by kernel_rfl) ?_))))
          rcases bif_some hm with ⟨h78, hm⟩ | ⟨h78, hm⟩
          ·
           refine c1 h78 (sq (dn [(6, aB true)] (wp_ret ?_)))
           obtain rfl := Option.some.inj hm
           exact ⟨trivial, by kernel_rfl⟩
          ·
           refine c0 h78 (wp_skip (dn [(1, .pv (encSl R_api_Table a1)), (3, .ptr 0 0), (7, .pv (encSl (rI .i64) x10.1)), (8, aI x10.2), (11, aR 2 2 ((y42 ++ ([x69] : List api_Table)).length)), (12, aI y43), (68, aI y43), (69, aI (IntKind.wrap .i64 (y73 + 1)))] ?_))
           exact ⟨_, _, tidyL [(1, .pv (encSl R_api_Table a1)), (3, .ptr 0 0), (7, .pv (encSl (rI .i64) x10.1)), (8, aI x10.2), (11, aR 2 2 ((y42 ++ ([x69] : List api_Table)).length)), (12, aI y43), (68, aI y43), (69, aI (IntKind.wrap .i64 (y73 + 1)))] [.box [.pv (encSl rS a0.fRels), .pv (encSl R_E_api_Expr a0.fWhere), aB a0.fGrouped, .pv (encSl R_E_api_Expr a0.fOut), .pv (encSl R_api_Agg a0.fAggs), .pv (encSl R_api_Key a0.fOrder)] false, bR 38 2 R_api_Table y12 0 g17, bR 38 2 R_api_Table (y42 ++ ([x69] : List api_Table)) 0 0, bR 38 2 R_api_Table ([x69] : List api_Table) 0 0] (by kernel_rfl), ⟨(IntKind.wrap .i64 (y73 + 1)), hm, rfl, rfl⟩⟩
         ·
          refine c0 h75 (wp_exit ?_)
          exact ⟨(y42 ++ ([x69] : List api_Table)), ([x69] : List api_Table), y73, (decide (y73 < y43)), hm, rfl, rfl, (by first | rfl | assumption | omega | (simp only [List.length_set, List.length_append, List.length_cons, List.length_nil, List.length_replicate, List.length_drop] at * <;> omega))⟩
        ·
         refine c0 h62 (wp_exit ?_)
         exact .inr (⟨y42, aI y43, aB (decide (y43 ≥ 0)), hm, (mk_same (by kernel_rfl)), rfl⟩)
      refine sq (rg (s1 3 [(44, aB (x10.2 == 0)), (43, aB (x10.2 == 0)), (42, aI x10.2)] ?_))
      rcases bif_some hm with ⟨h79, hm⟩ | ⟨h79, hm⟩
      ·
       refine known [44, 43] h79 (by kernel_rfl) (s1 3 [(47, aB (y13 != 0)), (46, aB (y13 != 0)), (45, aI y13)] ?_)
       rcases bif_some hm with ⟨h80, hm⟩ | ⟨h80, hm⟩
       ·
        refine known [47, 46] h80 (by kernel_rfl) (fq 6 [(1, .pv (encSl R_api_Table a1)), (3, .ptr 0 0), (7, .pv (encSl (rI .i64) x10.1)), (8, aI x10.2), (53, aB true)] (cT (by kernel_rfl) (sq (dn [(6, aB false)] (wp_ret ?_)))))
        obtain rfl := Option.some.inj hm
        exact ⟨trivial, by kernel_rfl⟩
       ·
        refine known [47, 46] h80 (by kernel_rfl) (s1 2 [(49, .pv (encSl (rI .i64) y14)), (48, .pv (encSl (rI .i64) x10.1))] ?_)
        obtain ⟨x81, h82, hm⟩ := bs hm
        refine dv 50 (cpure (by kernel_rfl) (ok_ref01_Ints h82) (by kernel_rfl) (by kernel_rfl) (by kernel_rfl)) (by kernel_rfl) (fq 3 [(1, .pv (encSl R_api_Table a1)), (3, .ptr 0 0), (7, .pv (encSl (rI .i64) x10.1)), (8, aI x10.2), (53, aB (!x81))] ?_)
        rcases bif_some hm with ⟨h83, hm⟩ | ⟨h83, hm⟩
        ·
         refine c1 h83 (sq (dn [(6, aB false)] (wp_ret ?_)))
         obtain rfl := Option.some.inj hm
         exact ⟨trivial, by kernel_rfl⟩
        ·
         refine c0 h83 (wp_skip ?_)
         exact ⟨(!x81), hm, rfl, rfl⟩
      ·
       refine known [44, 43] h79 (by kernel_rfl) (fq 9 [(1, .pv (encSl R_api_Table a1)), (3, .ptr 0 0), (7, .pv (encSl (rI .i64) x10.1)), (8, aI x10.2), (53, aB false)] (cF (by kernel_rfl) (wp_skip ?_)))
       exact ⟨false, hm, rfl, rfl⟩
     refine rgd (std 3 [(35, .pv (encSl R_api_Table a1)), (34, aR 1 2 0), (33, .agg [.pv (encSl rS a0.fRels), .pv (encSl R_E_api_Expr a0.fWhere), aB a0.fGrouped, .pv (encSl R_E_api_Expr a0.fOut), .pv (encSl R_api_Agg a0.fAggs), .pv (encSl R_api_Key a0.fOrder)])] [.box [.pv (encSl rS a0.fRels), .pv (encSl R_E_api_Expr a0.fWhere), aB a0.fGrouped, .pv (encSl R_E_api_Expr a0.fOut), .pv (encSl R_api_Agg a0.fAggs), .pv (encSl R_api_Key a0.fOrder)] false, bR 38 2 R_api_Table ([] : List api_Table) 0 0] (by kernel_rfl) ?_)
     rcases bif_some hm with ⟨h84, hm⟩ | ⟨h84, hm⟩
     ·
      obtain ⟨_, h85, hm⟩ := bs hm
      refine dvd 36 (v := aR 1 2 0) (app_ref0O (u := 0) (y := .pv (encSl R_api_Table a1)) (n := 0) (id := 1) R_api_Table ([] : List api_Table) (sll a1) (b := 40) t28 t38 rfl rfl rfl h84 h85 rfl (by first | rfl | assumption | omega | (simp only [List.length_set, List.length_append, List.length_cons, List.length_nil, List.length_replicate, List.length_drop] at * <;> omega)) (Nat.zero_le _) (src_sl (R := R_api_Table) (s := a1)) (by kernel_rfl)) (by kernel_rfl) (shd 1 [(37, .pv (encSl R_api_Table a2))] (by kernel_rfl) ?_)
      rcases bif_some hm with ⟨h86, hm⟩ | ⟨h86, hm⟩
      ·
       obtain ⟨_, h87, hm⟩ := bs hm
       refine dvd 38 (v := aR 1 2 0) (app_ref0O (u := 0) (y := .pv (encSl R_api_Table a2)) (n := 0) (id := 1) R_api_Table ([] : List api_Table) (sll a2) (b := 40) t28 t38 rfl rfl rfl h86 h87 rfl (by first | rfl | assumption | omega | (simp only [List.length_set, List.length_append, List.length_cons, List.length_nil, List.length_replicate, List.length_drop] at * <;> omega)) (Nat.zero_le _) (src_sl (R := R_api_Table) (s := a2)) (by kernel_rfl)) (by kernel_rfl) ?_
       obtain ⟨x88, h89, hm⟩ := bs hm
       refine dOd [(39, .tup [.pv (encSl (rI .i64) x88.1), aI x88.2])] [.box [.pv (encSl rS a0.fRels), .pv (encSl R_E_api_Expr a0.fWhere), aB a0.fGrouped, .pv (encSl R_E_api_Expr a0.fOut), .pv (encSl R_api_Agg a0.fAggs), .pv (encSl R_api_Key a0.fOrder)] false, bR 38 2 R_api_Table ([] : List api_Table) 0 (max 0 (([] : List api_Table).map R_api_Table).length)] (cpureR [1] [.agg [.pv (encSl rS a0.fRels), .pv (encSl R_E_api_Expr a0.fWhere), aB a0.fGrouped, .pv (encSl R_E_api_Expr a0.fOut), .pv (encSl R_api_Agg a0.fAggs), .pv (encSl R_api_Key a0.fOrder)], aR 1 2 0] (fl := false) (by kernel_rfl) (by kernel_rfl) (by kernel_rfl) (ok_query_Right h89) (by kernel_rfl) (by simp [AV.flat, AV.flat2, AV.flat1, flat_sl])) (by kernel_rfl) (shd 5 [(10, aI x88.2), (9, .pv (encSl (rI .i64) x88.1)), (41, aI x88.2), (40, .pv (encSl (rI .i64) x88.1)), (32, .tup [.pv (encSl (rI .i64) x88.1), aI x88.2])] (by kernel_rfl) (find [(1, .pv (encSl R_api_Table a1)), (3, .ptr 0 0), (7, .pv (encSl (rI .i64) x10.1)), (8, aI x10.2), (9, .pv (encSl (rI .i64) x88.1)), (10, aI x88.2)] rfl (by kernel_rfl) (by kernel_rfl) ?_))
       exact ⟨([] : List api_Table), x88.2, x88.1, 0, (max 0 (([] : List api_Table).map R_api_Table).length), hm, rfl, rfl, (by first | rfl | assumption | omega | (simp only [List.length_set, List.length_append, List.length_cons, List.length_nil, List.length_replicate, List.length_drop] at * <;> omega))⟩
      ·
       obtain ⟨_, h90, hm⟩ := bs hm
       refine dOd [(38, aR 1 2 ((([] : List api_Table) ++ (sll a2)).length))] [.box [.pv (encSl rS a0.fRels), .pv (encSl R_E_api_Expr a0.fWhere), aB a0.fGrouped, .pv (encSl R_E_api_Expr a0.fOut), .pv (encSl R_api_Agg a0.fAggs), .pv (encSl R_api_Key a0.fOrder)] false, bR 38 2 R_api_Table (([] : List api_Table) ++ (sll a2)) 0 0] (app_refO (u := 0) (n := 0) (id := 1) R_api_Table ([] : List api_Table) (sll a2) (b := 40) t28 t38 rfl rfl rfl (fun _ => rfl) h86 h90 rfl (by first | rfl | assumption | omega | (simp only [List.length_set, List.length_append, List.length_cons, List.length_nil, List.length_replicate, List.length_drop] at * <;> omega)) (Nat.zero_le _) (src_sl (R := R_api_Table) (s := a2)) (by kernel_rfl)) (by kernel_rfl) ?_
       obtain ⟨x91, h92, hm⟩ := bs hm
       refine dOd [(39, .tup [.pv (encSl (rI .i64) x91.1), aI x91.2])] [.box [.pv (encSl rS a0.fRels), .pv (encSl R_E_api_Expr a0.fWhere), aB a0.fGrouped, .pv (encSl R_E_api_Expr a0.fOut), .pv (encSl R_api_Agg a0.fAggs), .pv (encSl R_api_Key a0.fOrder)] false, bR 38 2 R_api_Table (([] : List api_Table) ++ (sll a2)) 0 (max 0 ((([] : List api_Table) ++ (sll a2)).map R_api_Table).length)] (cpureR [1] [.agg [.pv (encSl rS a0.fRels), .pv (encSl R_E_api_Expr a0.fWhere), aB a0.fGrouped, .pv (encSl R_E_api_Expr a0.fOut), .pv (encSl R_api_Agg a0.fAggs), .pv (encSl R_api_Key a0.fOrder)], aR 1 2 ((([] : List api_Table) ++ (sll a2)).length)] (fl := false) (by kernel_rfl) (by kernel_rfl) (pAs_cons (pA_agg (purL_cons (pur_pv) (purL_cons (pur_pv) (purL_cons (pur_pv) (purL_cons (pur_pv) (purL_cons (pur_pv) (purL_cons (pur_pv) (rfl)))))))) (pAs_cons (pA_ref (pur_ref' (n := (([] : List api_Table) ++ (sll a2)).length) (id := 1) (l := (([] : List api_Table) ++ (sll a2))) (R := R_api_Table) rfl rfl (Nat.zero_le _))) (rfl))) (ok_query_Right h92) (by kernel_rfl) (by simp [AV.flat, AV.flat2, AV.flat1, flat_sl])) (by kernel_rfl) (shd 5 [(10, aI x91.2), (9, .pv (encSl (rI .i64) x91.1)), (41, aI x91.2), (40, .pv (encSl (rI .i64) x91.1)), (32, .tup [.pv (encSl (rI .i64) x91.1), aI x91.2])] (by kernel_rfl) (find [(1, .pv (encSl R_api_Table a1)), (3, .ptr 0 0), (7, .pv (encSl (rI .i64) x10.1)), (8, aI x10.2), (9, .pv (encSl (rI .i64) x91.1)), (10, aI x91.2)] rfl (by kernel_rfl) (by kernel_rfl) ?_))
       exact ⟨(([] : List api_Table) ++ (sll a2)), x91.2, x91.1, (([] : List api_Table) ++ (sll a2)).length, (max 0 ((([] : List api_Table) ++ (sll a2)).map R_api_Table).length), hm, rfl, rfl, (by first | rfl | assumption | omega | (simp only [List.length_set, List.length_append, List.length_cons, List.length_nil, List.length_replicate, List.length_drop] at * <;> omega))⟩
     ·
      obtain ⟨_, h93, hm⟩ := bs hm
      refine dOd [(36, aR 1 2 ((([] : List api_Table) ++ (sll a1)).length))] [.box [.pv (encSl rS a0.fRels), .pv (encSl R_E_api_Expr a0.fWhere), aB a0.fGrouped, .pv (encSl R_E_api_Expr a0.fOut), .pv (encSl R_api_Agg a0.fAggs), .pv (encSl R_api_Key a0.fOrder)] false, bR 38 2 R_api_Table (([] : List api_Table) ++ (sll a1)) 0 0] (app_refO (u := 0) (n := 0) (id := 1) R_api_Table ([] : List api_Table) (sll a1) (b := 40) t28 t38 rfl rfl rfl (fun _ => rfl) h84 h93 rfl (by first | rfl | assumption | omega | (simp only [List.length_set, List.length_append, List.length_cons, List.length_nil, List.length_replicate, List.length_drop] at * <;> omega)) (Nat.zero_le _) (src_sl (R := R_api_Table) (s := a1)) (by kernel_rfl)) (by kernel_rfl) (shd 1 [(37, .pv (encSl R_api_Table a2))] (by kernel_rfl) ?_)
      rcases bif_some hm with ⟨h94, hm⟩ | ⟨h94, hm⟩
      ·
       obtain ⟨_, h95, hm⟩ := bs hm
       refine dvd 38 (v := aR 1 2 ((([] : List api_Table) ++ (sll a1)).length)) (app_ref0O (u := 0) (y := .pv (encSl R_api_Table a2)) (n := (([] : List api_Table) ++ (sll a1)).length) (id := 1) R_api_Table (([] : List api_Table) ++ (sll a1)) (sll a2) (b := 40) t28 t38 rfl rfl rfl h94 h95 rfl rfl (Nat.zero_le _) (src_sl (R := R_api_Table) (s := a2)) (by kernel_rfl)) (by kernel_rfl) ?_
       obtain ⟨x96, h97, hm⟩ := bs hm
       refine dOd [(39, .tup [.pv (encSl (rI .i64) x96.1), aI x96.2])] [.box [.pv (encSl rS a0.fRels), .pv (encSl R_E_api_Expr a0.fWhere), aB a0.fGrouped, .pv (encSl R_E_api_Expr a0.fOut), .pv (encSl R_api_Agg a0.fAggs), .pv (encSl R_api_Key a0.fOrder)] false, bR 38 2 R_api_Table (([] : List api_Table) ++ (sll a1)) 0 (max 0 ((([] : List api_Table) ++ (sll a1)).map R_api_Table).length)] (cpureR [1] [.agg [.pv (encSl rS a0.fRels), .pv (encSl R_E_api_Expr a0.fWhere), aB a0.fGrouped, .pv (encSl R_E_api_Expr a0.fOut), .pv (encSl R_api_Agg a0.fAggs), .pv (encSl R_api_Key a0.fOrder)], aR 1 2 ((([] : List api_Table) ++ (sll a1)).length)] (fl := false) (by kernel_rfl) (by kernel_rfl) (pAs_cons (pA_agg (purL_cons (pur_pv) (purL_cons (pur_pv) (purL_cons (pur_pv) (purL_cons (pur_pv) (purL_cons (pur_pv) (purL_cons (pur_pv) (rfl)))))))) (pAs_cons (pA_ref (pur_ref' (n := (([] : List api_Table) ++ (sll a1)).length) (id := 1) (l := (([] : List api_Table) ++ (sll a1))) (R := R_api_Table) rfl rfl (Nat.zero_le _))) (rfl))) (ok_query_Right h97) (by kernel_rfl) (by simp [AV.flat, AV.flat2, AV.flat1, flat_sl])) (by kernel_rfl) (shd 5 [(10, aI x96.2), (9, .pv (encSl (rI .i64) x96.1)), (41, aI x96.2), (40, .pv (encSl (rI .i64) x96.1)), (32, .tup [.pv (encSl (rI .i64) x96.1), aI x96.2])] (by kernel_rfl) (find [(1, .pv (encSl R_api_Table a1)), (3, .ptr 0 0), (7, .pv (encSl (rI .i64) x10.1)), (8, aI x10.2), (9, .pv (encSl (rI .i64) x96.1)), (10, aI x96.2)] rfl (by kernel_rfl) (by kernel_rfl) ?_))
       exact ⟨(([] : List api_Table) ++ (sll a1)), x96.2, x96.1, (([] : List api_Table) ++ (sll a1)).length, (max 0 ((([] : List api_Table) ++ (sll a1)).map R_api_Table).length), hm, rfl, rfl, (by first | rfl | assumption | omega | (simp only [List.length_set, List.length_append, List.length_cons, List.length_nil, List.length_replicate, List.length_drop] at * <;> omega))⟩
      ·
       obtain ⟨_, h98, hm⟩ := bs hm
       refine dOd [(38, aR 1 2 (((([] : List api_Table) ++ (sll a1)) ++ (sll a2)).length))] [.box [.pv (encSl rS a0.fRels), .pv (encSl R_E_api_Expr a0.fWhere), aB a0.fGrouped, .pv (encSl R_E_api_Expr a0.fOut), .pv (encSl R_api_Agg a0.fAggs), .pv (encSl R_api_Key a0.fOrder)] false, bR 38 2 R_api_Table ((([] : List api_Table) ++ (sll a1)) ++ (sll a2)) 0 0] (app_refO (u := 0) (n := (([] : List api_Table) ++ (sll a1)).length) (id := 1) R_api_Table (([] : List api_Table) ++ (sll a1)) (sll a2) (b := 40) t28 t38 rfl rfl rfl (fun _ => rfl) h94 h98 rfl rfl (Nat.zero_le _) (src_sl (R := R_api_Table) (s := a2)) (by kernel_rfl)) (by kernel_rfl) ?_
       obtain ⟨x99, h100, hm⟩ := bs hm
       refine dOd [(39, .tup [.pv (encSl (rI .i64) x99.1), aI x99.2])] [.box [.pv (encSl rS a0.fRels), .pv (encSl R_E_api_Expr a0.fWhere), aB a0.fGrouped, .pv (encSl R_E_api_Expr a0.fOut), .pv (encSl R_api_Agg a0.fAggs), .pv (encSl R_api_Key a0.fOrder)] false, bR 38 2 R_api_Table ((([] : List api_Table) ++ (sll a1)) ++ (sll a2)) 0 (max 0 (((([] : List api_Table) ++ (sll a1)) ++ (sll a2)).map R_api_Table).length)] (cpureR [1] [.agg [.pv (encSl rS a0.fRels), .pv (encSl R_E_api_Expr a0.fWhere), aB a0.fGrouped, .pv (encSl R_E_api_Expr a0.fOut), .pv (encSl R_api_Agg a0.fAggs), .pv (encSl R_api_Key a0.fOrder)], aR 1 2 (((([] : List api_Table) ++ (sll a1)) ++ (sll a2)).length)] (fl := false) (by kernel_rfl) (by kernel_rfl) (pAs_cons (pA_agg (purL_cons (pur_pv) (purL_cons (pur_pv) (purL_cons (pur_pv) (purL_cons (pur_pv) (purL_cons (pur_pv) (purL_cons (pur_pv) (rfl)))))))) (pAs_cons (pA_ref (pur_ref' (n := ((([] : List api_Table) ++ (sll a1)) ++ (sll a2)).length) (id := 1) (l := ((([] : List api_Table) ++ (sll a1)) ++ (sll a2))) (R := R_api_Table) rfl rfl (Nat.zero_le _))) (rfl))) (ok_query_Right h100) (by kernel_rfl) (by simp [AV.flat, AV.flat2, AV.flat1, flat_sl])) (by kernel_rfl) (shd 5 [(10, aI x99.2), (9, .pv (encSl (rI .i64) x99.1)), (41, aI x99.2), (40, .pv (encSl (rI .i64) x99.1)), (32, .tup [.pv (encSl (rI .i64) x99.1), aI x99.2])] (by kernel_rfl) (find [(1, .pv (encSl R_api_Table a1)), (3, .ptr 0 0), (7, .pv (encSl (rI .i64) x10.1)), (8, aI x10.2), (9, .pv (encSl (rI .i64) x99.1)), (10, aI x99.2)] rfl (by kernel_rfl) (by kernel_rfl) ?_))
       exact ⟨((([] : List api_Table) ++ (sll a1)) ++ (sll a2)), x99.2, x99.1, ((([] : List api_Table) ++ (sll a1)) ++ (sll a2)).length, (max 0 (((([] : List api_Table) ++ (sll a1)) ++ (sll a2)).map R_api_Table).length), hm, rfl, rfl, (by first | rfl | assumption | omega | (simp only [List.length_set, List.length_append, List.length_cons, List.length_nil, List.length_replicate, List.length_drop] at * <;> omega))⟩
end Go.Ab.S1
