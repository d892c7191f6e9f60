import Derived.Test.YtejbcaheoloahaaGreatWB2
namespace Go.Ab.S1
open Go Go.Ab Go.Pl
open Go.Proofs.Tryz
set_option maxRecDepth 100000
theorem ok_ref31_Part {n : Nat} {a0 : api_Expr} {a1 : (Option (List tabularyref20_Stat))} {r : Int} (hm : ref31_Part n a0 a1 = some r) :
    call G n 109 [.agg [aI a0.fKind, aI a0.fRel, aI a0.fCol, aI a0.fConst.fKind, aI a0.fConst.fInt, aF a0.fConst.fFloat, aS a0.fConst.fText, .pv (encSl R_E_api_Expr a0.fKids)], .pv (encSl R_tabularyref20_Stat a1)] [] = some (.ret (aU r), []) := by
  unfold ref31_Part at hm
  obtain ⟨n, rfl, h0⟩ := at1_some hm
  replace hm := h0; clear h0
  refine callL 11 [(0, .agg [aI a0.fKind, aI a0.fRel, aI a0.fCol, aI a0.fConst.fKind, aI a0.fConst.fInt, aF a0.fConst.fFloat, aS a0.fConst.fText, .pv (encSl R_E_api_Expr a0.fKids)]), (1, .pv (encSl R_tabularyref20_Stat a1))] func109 rfl (by kernel_rfl) (sq (det [(1, .pv (encSl R_tabularyref20_Stat a1)), (2, .ptr 0 0)] [.box [aI a0.fKind, aI a0.fRel, aI a0.fCol, aI a0.fConst.fKind, aI a0.fConst.fInt, aF a0.fConst.fFloat, aS a0.fConst.fText, .pv (encSl R_E_api_Expr a0.fKids)] false] (by kernel_rfl) (sq (sq (rg (s1 1 [(5, .agg [aI a0.fKind, aI a0.fRel, aI a0.fCol, aI a0.fConst.fKind, aI a0.fConst.fInt, aF a0.fConst.fFloat, aS a0.fConst.fText, .pv (encSl R_E_api_Expr a0.fKids)])] ?_))))))
  obtain ⟨x1, h2, hm⟩ := bs hm
  refine dv 6 (cpure (by kernel_rfl) (ok_ref22_Formed h2) (by kernel_rfl) (by kernel_rfl) (by kernel_rfl)) (by kernel_rfl) (f1 1 [(1, .pv (encSl R_tabularyref20_Stat a1)), (2, .ptr 0 0), (7, aB (!x1))] ?_)
  rcases bif_some hm with ⟨h3, hm⟩ | ⟨h3, hm⟩
  ·
   refine c1 h3 (sq (dn [(4, aU 1048576)] (wp_ret ?_)))
   obtain rfl := Option.some.inj hm
   exact ⟨trivial, by kernel_rfl⟩
  ·
   refine c0 h3 (wp_skip (sq (rg (s1 2 [(9, .pv (encSl R_tabularyref20_Stat a1)), (8, .agg [aI a0.fKind, aI a0.fRel, aI a0.fCol, aI a0.fConst.fKind, aI a0.fConst.fInt, aF a0.fConst.fFloat, aS a0.fConst.fText, .pv (encSl R_E_api_Expr a0.fKids)])] ?_))))
   obtain ⟨x4, h5, hm⟩ := bs hm
   refine dv 10 (cpure (by kernel_rfl) (ok_ref31_part h5) (by kernel_rfl) (by kernel_rfl) (by kernel_rfl)) (by kernel_rfl) (f1 1 [(4, aU x4)] (wp_ret ?_))
   obtain rfl := Option.some.inj hm
   exact ⟨trivial, by kernel_rfl⟩
theorem ok_ref31_Card {n : Nat} {a0 : (Option (List E_api_Expr))} {a1 : (Option (List tabularyref20_Stat))} {a2 : Int} {r : Int} (hm : ref31_Card n a0 a1 a2 = some r) :
    call G n 23 [.pv (encSl R_E_api_Expr a0), .pv (encSl R_tabularyref20_Stat a1), .pv (.int .u32 a2)] [] = some (.ret (aU r), []) := by
  unfold ref31_Card at hm
  obtain ⟨n, rfl, h0⟩ := at1_some hm
  replace hm := h0; clear h0
  refine callL 48 [(0, .pv (encSl R_E_api_Expr a0)), (1, .pv (encSl R_tabularyref20_Stat a1)), (2, .pv (.int .u32 a2))] func23 rfl (by kernel_rfl) (sq (dn [(0, .pv (encSl R_E_api_Expr a0)), (1, .pv (encSl R_tabularyref20_Stat a1)), (2, .pv (.int .u32 a2))] (sq (dn [(0, .pv (encSl R_E_api_Expr a0)), (1, .pv (encSl R_tabularyref20_Stat a1)), (2, .pv (.int .u32 a2)), (7, aU 256)] ?_))))
  obtain ⟨k4, hk4, hm⟩ := withK_some hm
  refine mid (fun t H => (∃ (y1 : Bool) (y2 : Int) (y3 : Int), k4 y2 = some r ∧ t = mk 48 [(0, .pv (encSl R_E_api_Expr a0)), (1, .pv (encSl R_tabularyref20_Stat a1)), (2, .pv (.int .u32 a2)), (7, aU y2), (8, aI y3), (11, aB y1)] ∧ H = [])) ?_ ?_
  ·
   rintro _ _ ⟨y1, y2, y3, hm, rfl, rfl⟩
   subst hk4
   obtain ⟨k8, hk8, hm⟩ := withK_some hm
   refine mid (fun t H => (∃ (y5 : Bool) (y6 : Int) (y7 : Int), k8 y6 = some r ∧ t = mk 48 [(0, .pv (encSl R_E_api_Expr a0)), (1, .pv (encSl R_tabularyref20_Stat a1)), (2, .pv (.int .u32 a2)), (7, aU y6), (9, aI y7), (28, aB y5)] ∧ H = [])) ?_ ?_
   ·
    rintro _ _ ⟨y5, y6, y7, hm, rfl, rfl⟩
    subst hk8
    refine sq (sq (dn [(7, aU y6), (46, aB (y6 == 0))] ?_))
    rcases bif_some hm with ⟨h9, hm⟩ | ⟨h9, hm⟩
    ·
     refine c1 h9 (sq (dn [(6, aU 1)] (wp_ret ?_)))
     obtain rfl := Option.some.inj hm
     exact ⟨trivial, by kernel_rfl⟩
    ·
     refine c0 h9 (wp_skip (sq (dn [(6, aU y6)] (wp_ret ?_))))
     obtain rfl := Option.some.inj hm
     exact ⟨trivial, by kernel_rfl⟩
   refine sq (dn [(0, .pv (encSl R_E_api_Expr a0)), (1, .pv (encSl R_tabularyref20_Stat a1)), (2, .pv (.int .u32 a2)), (7, aU y2), (9, aI 0)] (bq ?_))
   refine loopF (fun mm t H => (∃ (y12 : Int) (y13 : Int), ref31_Card_l8 n a0 a1 a2 k8 mm y12 y13 = some r ∧ t = mk 48 [(0, .pv (encSl R_E_api_Expr a0)), (1, .pv (encSl R_tabularyref20_Stat a1)), (2, .pv (.int .u32 a2)), (7, aU y12), (9, aI y13)] ∧ H = [])) (⟨y2, 0, hm, rfl, rfl⟩) ?_ ?_
   · rintro _ _ ⟨y12, y13, hm, _⟩; exact nomatch hm
   rintro m14 _ _ ⟨y12, y13, hm, rfl, rfl⟩
   simp only [ref31_Card_l8] at hm
   refine sq (sq (rg (s1 2 [(26, .pv (encSl R_E_api_Expr a0)), (25, aI y13)] (dv 27 (v := aI ((sll a0).length : Int)) (len_slO R_E_api_Expr a0 t23 (by kernel_rfl)) (by kernel_rfl) (f1 1 [(0, .pv (encSl R_E_api_Expr a0)), (1, .pv (encSl R_tabularyref20_Stat a1)), (2, .pv (.int .u32 a2)), (7, aU y12), (9, aI y13), (28, aB (decide (y13 < ((sll a0).length : Int))))] ?_)))))
   rcases bif_some hm with ⟨h15, hm⟩ | ⟨h15, hm⟩
   ·
    refine c1 h15 (wp_skip (sq (bq (sq (rg (s1 2 [(32, aI y13), (31, .pv (encSl R_E_api_Expr a0))] ?_))))))
    obtain ⟨x16, h17, hm⟩ := bs hm
    refine dv 33 (v := .pv (.ptr (R_api_Expr (un_api_Expr x16)) 0)) (ia_slE R_E_api_Expr a0 .i64 t23 t49 h17 (R_un_api_Expr x16) rfl (by kernel_rfl)) (by kernel_rfl) (s1 2 [(35, .pv (.int .u32 a2)), (34, .agg [aI ((un_api_Expr x16).fKind), aI ((un_api_Expr x16).fRel), aI ((un_api_Expr x16).fCol), aI (((un_api_Expr x16).fConst).fKind), aI (((un_api_Expr x16).fConst).fInt), aF (((un_api_Expr x16).fConst).fFloat), aS (((un_api_Expr x16).fConst).fText), .pv (encSl R_E_api_Expr ((un_api_Expr x16).fKids))])] ?_)
    obtain ⟨x18, h19, hm⟩ := bs hm
    refine dv 36 (cpure (by kernel_rfl) (ok_ref31_In h19) (by kernel_rfl) (by kernel_rfl) (by kernel_rfl)) (by kernel_rfl) (fin [(0, .pv (encSl R_E_api_Expr a0)), (1, .pv (encSl R_tabularyref20_Stat a1)), (2, .pv (.int .u32 a2)), (7, aU y12), (9, aI y13), (36, aB x18)] rfl (by kernel_rfl) ?_)
    rcases bif_some hm with ⟨h20, hm⟩ | ⟨h20, hm⟩
    ·
     refine c1 h20 (rg (s1 3 [(39, aI y13), (38, .pv (encSl R_E_api_Expr a0)), (37, aU y12)] (dv 40 (v := .pv (.ptr (R_api_Expr (un_api_Expr x16)) 0)) (ia_slE R_E_api_Expr a0 .i64 t23 t49 h17 (R_un_api_Expr x16) rfl (by kernel_rfl)) (by kernel_rfl) (s1 2 [(42, .pv (encSl R_tabularyref20_Stat a1)), (41, .agg [aI ((un_api_Expr x16).fKind), aI ((un_api_Expr x16).fRel), aI ((un_api_Expr x16).fCol), aI (((un_api_Expr x16).fConst).fKind), aI (((un_api_Expr x16).fConst).fInt), aF (((un_api_Expr x16).fConst).fFloat), aS (((un_api_Expr x16).fConst).fText), .pv (encSl R_E_api_Expr ((un_api_Expr x16).fKids))])] ?_))))
     obtain ⟨x21, h22, hm⟩ := bs hm
     refine dv 43 (cpure (by kernel_rfl) (ok_ref31_Part h22) (by kernel_rfl) (by kernel_rfl) (by kernel_rfl)) (by kernel_rfl) ?_
     obtain ⟨x23, h24, hm⟩ := bs hm
     refine dv 44 (cpure (by kernel_rfl) (ok_ref30_Scale h24) (by kernel_rfl) (by kernel_rfl) (by kernel_rfl)) (by kernel_rfl) (f1 1 [(0, .pv (encSl R_E_api_Expr a0)), (1, .pv (encSl R_tabularyref20_Stat a1)), (2, .pv (.int .u32 a2)), (7, aU x23), (9, aI y13)] (dn [(0, .pv (encSl R_E_api_Expr a0)), (1, .pv (encSl R_tabularyref20_Stat a1)), (2, .pv (.int .u32 a2)), (7, aU x23), (9, aI (IntKind.wrap .i64 (y13 + 1)))] ?_))
     exact ⟨_, _, tidyL [(0, .pv (encSl R_E_api_Expr a0)), (1, .pv (encSl R_tabularyref20_Stat a1)), (2, .pv (.int .u32 a2)), (7, aU x23), (9, aI (IntKind.wrap .i64 (y13 + 1)))] [] (by kernel_rfl), ⟨x23, (IntKind.wrap .i64 (y13 + 1)), hm, rfl, rfl⟩⟩
    ·
     refine c0 h20 (wp_skip (dn [(0, .pv (encSl R_E_api_Expr a0)), (1, .pv (encSl R_tabularyref20_Stat a1)), (2, .pv (.int .u32 a2)), (7, aU y12), (9, aI (IntKind.wrap .i64 (y13 + 1)))] ?_))
     exact ⟨_, _, tidyL [(0, .pv (encSl R_E_api_Expr a0)), (1, .pv (encSl R_tabularyref20_Stat a1)), (2, .pv (.int .u32 a2)), (7, aU y12), (9, aI (IntKind.wrap .i64 (y13 + 1)))] [] (by kernel_rfl), ⟨y12, (IntKind.wrap .i64 (y13 + 1)), hm, rfl, rfl⟩⟩
   ·
    refine c0 h15 (wp_exit ?_)
    exact ⟨(decide (y13 < ((sll a0).length : Int))), y12, y13, hm, rfl, rfl⟩
  refine sq (dn [(0, .pv (encSl R_E_api_Expr a0)), (1, .pv (encSl R_tabularyref20_Stat a1)), (2, .pv (.int .u32 a2)), (7, aU 256), (8, aI 0)] (bq ?_))
  refine loopF (fun mm t H => (∃ (y27 : Int) (y28 : Int), ref31_Card_l3 n a1 a2 k4 mm y27 y28 = some r ∧ t = mk 48 [(0, .pv (encSl R_E_api_Expr a0)), (1, .pv (encSl R_tabularyref20_Stat a1)), (2, .pv (.int .u32 a2)), (7, aU y27), (8, aI y28)] ∧ H = [])) (⟨256, 0, hm, rfl, rfl⟩) ?_ ?_
  · rintro _ _ ⟨y27, y28, hm, _⟩; exact nomatch hm
  rintro m29 _ _ ⟨y27, y28, hm, rfl, rfl⟩
  simp only [ref31_Card_l3] at hm
  refine sq (sq (dn [(0, .pv (encSl R_E_api_Expr a0)), (1, .pv (encSl R_tabularyref20_Stat a1)), (2, .pv (.int .u32 a2)), (7, aU y27), (8, aI y28), (11, aB (decide (y28 < 32)))] ?_))
  rcases bif_some hm with ⟨h30, hm⟩ | ⟨h30, hm⟩
  ·
   refine c1 h30 (wp_skip (sq (bq (sq (rg (s1 3 [(16, aU (IntKind.wrap .u64 y28)), (15, aI y28), (14, .pv (.int .u32 a2))] ?_))))))
   obtain ⟨_, h31, hm⟩ := bs hm
   refine dv 17 (v := .pv (.int .u32 (iShr .u32 a2 (IntKind.wrap .u64 y28)))) (shrO h31 (by kernel_rfl)) (by kernel_rfl) (f1 2 [(0, .pv (encSl R_E_api_Expr a0)), (1, .pv (encSl R_tabularyref20_Stat a1)), (2, .pv (.int .u32 a2)), (7, aU y27), (8, aI y28), (19, aB ((Int.tmod (iShr .u32 a2 (IntKind.wrap .u64 y28)) 2) == 1))] ?_)
   rcases bif_some hm with ⟨h32, hm⟩ | ⟨h32, hm⟩
   ·
    refine c1 h32 (rg (s1 3 [(22, aI y28), (21, .pv (encSl R_tabularyref20_Stat a1)), (20, aU y27)] ?_))
    obtain ⟨x33, h34, hm⟩ := bs hm
    refine dv 23 (cpure (by kernel_rfl) (ok_ref31_Rows h34) (by kernel_rfl) (by kernel_rfl) (by kernel_rfl)) (by kernel_rfl) ?_
    obtain ⟨x35, h36, hm⟩ := bs hm
    refine dv 24 (cpure (by kernel_rfl) (ok_ref30_Mul h36) (by kernel_rfl) (by kernel_rfl) (by kernel_rfl)) (by kernel_rfl) (f1 1 [(0, .pv (encSl R_E_api_Expr a0)), (1, .pv (encSl R_tabularyref20_Stat a1)), (2, .pv (.int .u32 a2)), (7, aU x35), (8, aI y28)] (dn [(0, .pv (encSl R_E_api_Expr a0)), (1, .pv (encSl R_tabularyref20_Stat a1)), (2, .pv (.int .u32 a2)), (7, aU x35), (8, aI (IntKind.wrap .i64 (y28 + 1)))] ?_))
    exact ⟨_, _, tidyL [(0, .pv (encSl R_E_api_Expr a0)), (1, .pv (encSl R_tabularyref20_Stat a1)), (2, .pv (.int .u32 a2)), (7, aU x35), (8, aI (IntKind.wrap .i64 (y28 + 1)))] [] (by kernel_rfl), ⟨x35, (IntKind.wrap .i64 (y28 + 1)), hm, rfl, rfl⟩⟩
   ·
    refine c0 h32 (wp_skip (dn [(0, .pv (encSl R_E_api_Expr a0)), (1, .pv (encSl R_tabularyref20_Stat a1)), (2, .pv (.int .u32 a2)), (7, aU y27), (8, aI (IntKind.wrap .i64 (y28 + 1)))] ?_))
    exact ⟨_, _, tidyL [(0, .pv (encSl R_E_api_Expr a0)), (1, .pv (encSl R_tabularyref20_Stat a1)), (2, .pv (.int .u32 a2)), (7, aU y27), (8, aI (IntKind.wrap .i64 (y28 + 1)))] [] (by kernel_rfl), ⟨y27, (IntKind.wrap .i64 (y28 + 1)), hm, rfl, rfl⟩⟩
  ·
   refine c0 h30 (wp_exit ?_)
   exact ⟨(decide (y28 < 32)), y27, y28, hm, rfl, rfl⟩
theorem ok_ref31_Within {n : Nat} {a0 : (Option (List E_api_Expr))} {a1 : Int} {r : (Option (List Int))} (hm : ref31_Within n a0 a1 = some r) :
    call G n 28 [.pv (encSl R_E_api_Expr a0), .pv (.int .u32 a1)] [] = some (.ret (.pv (encSl (rI .i64) r)), []) := by
  unfold ref31_Within at hm
  obtain ⟨n, rfl, h0⟩ := at1_some hm
  replace hm := h0; clear h0
  refine callL 24 [(0, .pv (encSl R_E_api_Expr a0)), (1, .pv (.int .u32 a1))] func28 rfl (by kernel_rfl) (sq (dn [(0, .pv (encSl R_E_api_Expr a0)), (1, .pv (.int .u32 a1))] (sq (dn [(0, .pv (encSl R_E_api_Expr a0)), (1, .pv (.int .u32 a1)), (5, .pv .nils)] ?_))))
  obtain ⟨k6, hk6, hm⟩ := withK_some hm
  refine mid (fun t H => (∃ (w1 : AV) (w2 : AV), k6 none = some r ∧ t = mk 24 [(0, .pv (encSl R_E_api_Expr a0)), (1, .pv (.int .u32 a1)), (5, .pv .nils), (6, w1), (10, w2)] ∧ H = []) ∨ (∃ (y3 : (List Int)) (w1 : AV) (w2 : AV) (g4 : Nat), k6 (some y3) = some r ∧ t = mk 24 [(0, .pv (encSl R_E_api_Expr a0)), (1, .pv (.int .u32 a1)), (5, aR 0 1 g4), (6, w1), (10, w2)] ∧ H = [bR 3 1 (rI .i64) y3 0 0] ∧ y3.length = g4)) ?_ ?_
  ·
   rintro _ _ (⟨w1, w2, hm, rfl, rfl⟩ | ⟨y3, w1, w2, g4, hm, rfl, rfl, q5⟩)
   ·
    subst hk6
    refine sq (dn [(4, .pv .nils)] (wp_ret ?_))
    obtain rfl := Option.some.inj hm
    exact ⟨trivial, by kernel_rfl⟩
   ·
    subst hk6
    refine sq (dn [(4, aR 0 1 g4)] (wp_ret ?_))
    obtain rfl := Option.some.inj hm
    exact ret_pure (v := aR 0 1 g4) trivial rfl (by kernel_rfl) (pA_ref (pur_ref' (n := g4) (id := 0) (l := y3) (R := (rI .i64)) rfl (by omega) (Nat.zero_le _)))
  refine sq (dn [(0, .pv (encSl R_E_api_Expr a0)), (1, .pv (.int .u32 a1)), (5, .pv .nils), (6, aI 0)] (bq ?_))
  refine loopF (fun mm t H => (∃ (y15 : Int), ref31_Within_l3 n a0 a1 k6 mm none y15 = some r ∧ t = mk 24 [(0, .pv (encSl R_E_api_Expr a0)), (1, .pv (.int .u32 a1)), (5, .pv .nils), (6, aI y15)] ∧ H = []) ∨ (∃ (y14 : (List Int)) (y15 : Int) (g16 : Nat), ref31_Within_l3 n a0 a1 k6 mm (some y14) y15 = some r ∧ t = mk 24 [(0, .pv (encSl R_E_api_Expr a0)), (1, .pv (.int .u32 a1)), (5, aR 0 1 g16), (6, aI y15)] ∧ H = [bR 3 1 (rI .i64) y14 0 0] ∧ y14.length = g16)) (.inl ⟨0, hm, rfl, rfl⟩) ?_ ?_
  · rintro _ _ (⟨y15, hm, _⟩ | ⟨y14, y15, g16, hm, _⟩) <;> exact nomatch hm
  rintro m18 _ _ (⟨y15, hm, rfl, rfl⟩ | ⟨y14, y15, g16, hm, rfl, rfl, q17⟩)
  ·
   simp only [ref31_Within_l3] at hm
   refine sq (sq (rg (s1 2 [(8, .pv (encSl R_E_api_Expr a0)), (7, aI y15)] (dv 9 (v := aI ((sll a0).length : Int)) (len_slO R_E_api_Expr a0 t23 (by kernel_rfl)) (by kernel_rfl) (f1 1 [(0, .pv (encSl R_E_api_Expr a0)), (1, .pv (.int .u32 a1)), (5, .pv .nils), (6, aI y15), (10, aB (decide (y15 < ((sll a0).length : Int))))] ?_)))))
   rcases bif_some hm with ⟨h19, hm⟩ | ⟨h19, hm⟩
   ·
    refine c1 h19 (wp_skip (sq (bq (sq (rg (s1 2 [(14, aI y15), (13, .pv (encSl R_E_api_Expr a0))] ?_))))))
    obtain ⟨x20, h21, hm⟩ := bs hm
    refine dv 15 (v := .pv (.ptr (R_api_Expr (un_api_Expr x20)) 0)) (ia_slE R_E_api_Expr a0 .i64 t23 t49 h21 (R_un_api_Expr x20) rfl (by kernel_rfl)) (by kernel_rfl) (s1 2 [(17, .pv (.int .u32 a1)), (16, .agg [aI ((un_api_Expr x20).fKind), aI ((un_api_Expr x20).fRel), aI ((un_api_Expr x20).fCol), aI (((un_api_Expr x20).fConst).fKind), aI (((un_api_Expr x20).fConst).fInt), aF (((un_api_Expr x20).fConst).fFloat), aS (((un_api_Expr x20).fConst).fText), .pv (encSl R_E_api_Expr ((un_api_Expr x20).fKids))])] ?_)
    obtain ⟨x22, h23, hm⟩ := bs hm
    refine dv 18 (cpure (by kernel_rfl) (ok_ref31_In h23) (by kernel_rfl) (by kernel_rfl) (by kernel_rfl)) (by kernel_rfl) (fin [(0, .pv (encSl R_E_api_Expr a0)), (1, .pv (.int .u32 a1)), (5, .pv .nils), (6, aI y15), (18, aB x22)] rfl (by kernel_rfl) ?_)
    rcases bif_some hm with ⟨h24, hm⟩ | ⟨h24, hm⟩
    ·
     refine c1 h24 (rg (st 3 [(21, aR 0 1 1), (20, aI y15), (19, .pv .nils)] [bR 3 1 (rI .i64) ([y15] : List Int) 0 0] (by kernel_rfl) ?_))
     obtain ⟨_, h25, hm⟩ := bs hm
     refine dO [(22, aR 1 1 (([y15] : List Int).length))] [bR 3 1 (rI .i64) ([y15] : List Int) 0 0, bR 3 1 (rI .i64) ([y15] : List Int) 0 0] (app_nilO (u := 0) (rI .i64) ([y15] : List Int) (b := 8) t33 t3 rfl rfl rfl (fun _ => rfl) rfl h25 (show srcRows (aR 0 1 1) _ = some (([y15] : List Int).map (rI .i64)) from by kernel_rfl) (by kernel_rfl)) (by kernel_rfl) (f1 1 [(0, .pv (encSl R_E_api_Expr a0)), (1, .pv (.int .u32 a1)), (5, aR 1 1 (([y15] : List Int).length)), (6, aI y15)] (dn [(0, .pv (encSl R_E_api_Expr a0)), (1, .pv (.int .u32 a1)), (5, aR 1 1 (([y15] : List Int).length)), (6, aI (IntKind.wrap .i64 (y15 + 1)))] ?_))
     exact ⟨_, _, tidyL [(0, .pv (encSl R_E_api_Expr a0)), (1, .pv (.int .u32 a1)), (5, aR 0 1 (([y15] : List Int).length)), (6, aI (IntKind.wrap .i64 (y15 + 1)))] [bR 3 1 (rI .i64) ([y15] : List Int) 0 0] (by kernel_rfl), .inr (⟨([y15] : List Int), (IntKind.wrap .i64 (y15 + 1)), ([y15] : List Int).length, hm, rfl, rfl, (by first | rfl | assumption | omega | (simp only [List.length_set, List.length_append, List.length_cons, List.length_nil, List.length_replicate, List.length_drop] at * <;> omega))⟩)⟩
    ·
     refine c0 h24 (wp_skip (dn [(0, .pv (encSl R_E_api_Expr a0)), (1, .pv (.int .u32 a1)), (5, .pv .nils), (6, aI (IntKind.wrap .i64 (y15 + 1)))] ?_))
     exact ⟨_, _, tidyL [(0, .pv (encSl R_E_api_Expr a0)), (1, .pv (.int .u32 a1)), (5, .pv .nils), (6, aI (IntKind.wrap .i64 (y15 + 1)))] [] (by kernel_rfl), .inl ⟨(IntKind.wrap .i64 (y15 + 1)), hm, rfl, rfl⟩⟩
   ·
    refine c0 h19 (wp_exit ?_)
    exact .inl ⟨aI y15, aB (decide (y15 < ((sll a0).length : Int))), hm, (mk_same (by kernel_rfl)), rfl⟩
  ·
   simp only [ref31_Within_l3] at hm
   refine sq (sq (rg (s1 2 [(8, .pv (encSl R_E_api_Expr a0)), (7, aI y15)] (dv 9 (v := aI ((sll a0).length : Int)) (len_slO R_E_api_Expr a0 t23 (by kernel_rfl)) (by kernel_rfl) (f1 1 [(0, .pv (encSl R_E_api_Expr a0)), (1, .pv (.int .u32 a1)), (5, aR 0 1 g16), (6, aI y15), (10, aB (decide (y15 < ((sll a0).length : Int))))] ?_)))))
   rcases bif_some hm with ⟨h26, hm⟩ | ⟨h26, hm⟩
   ·
    refine c1 h26 (wp_skip (sq (bq (sq (rg (s1 2 [(14, aI y15), (13, .pv (encSl R_E_api_Expr a0))] ?_))))))
    obtain ⟨x27, h28, hm⟩ := bs hm
    refine dv 15 (v := .pv (.ptr (R_api_Expr (un_api_Expr x27)) 0)) (ia_slE R_E_api_Expr a0 .i64 t23 t49 h28 (R_un_api_Expr x27) rfl (by kernel_rfl)) (by kernel_rfl) (s1 2 [(17, .pv (.int .u32 a1)), (16, .agg [aI ((un_api_Expr x27).fKind), aI ((un_api_Expr x27).fRel), aI ((un_api_Expr x27).fCol), aI (((un_api_Expr x27).fConst).fKind), aI (((un_api_Expr x27).fConst).fInt), aF (((un_api_Expr x27).fConst).fFloat), aS (((un_api_Expr x27).fConst).fText), .pv (encSl R_E_api_Expr ((un_api_Expr x27).fKids))])] ?_)
    obtain ⟨x29, h30, hm⟩ := bs hm
    refine dv 18 (cpure (by kernel_rfl) (ok_ref31_In h30) (by kernel_rfl) (by kernel_rfl) (by kernel_rfl)) (by kernel_rfl) (fin [(0, .pv (encSl R_E_api_Expr a0)), (1, .pv (.int .u32 a1)), (5, aR 0 1 g16), (6, aI y15), (18, aB x29)] rfl (by kernel_rfl) ?_)
    rcases bif_some hm with ⟨h31, hm⟩ | ⟨h31, hm⟩
    ·
     refine c1 h31 (rg (st 3 [(21, aR 1 1 1), (20, aI y15), (19, aR 0 1 g16)] [bR 3 1 (rI .i64) y14 0 0, bR 3 1 (rI .i64) ([y15] : List Int) 0 0] (by kernel_rfl) ?_))
     obtain ⟨_, h32, hm⟩ := bs hm
     refine dO [(22, aR 0 1 ((y14 ++ ([y15] : List Int)).length))] [bR 3 1 (rI .i64) (y14 ++ ([y15] : List Int)) 0 0, bR 3 1 (rI .i64) ([y15] : List Int) 0 0] (app_refO (u := 0) (n := g16) (id := 0) (rI .i64) y14 ([y15] : List Int) (b := 8) t33 t3 rfl rfl rfl (fun _ => rfl) rfl h32 rfl (by omega) (Nat.zero_le _) (show srcRows (aR 1 1 1) _ = some (([y15] : List Int).map (rI .i64)) from by kernel_rfl) (by kernel_rfl)) (by kernel_rfl) (f1 1 [(0, .pv (encSl R_E_api_Expr a0)), (1, .pv (.int .u32 a1)), (5, aR 0 1 ((y14 ++ ([y15] : List Int)).length)), (6, aI y15)] (dn [(0, .pv (encSl R_E_api_Expr a0)), (1, .pv (.int .u32 a1)), (5, aR 0 1 ((y14 ++ ([y15] : List Int)).length)), (6, aI (IntKind.wrap .i64 (y15 + 1)))] ?_))
     exact ⟨_, _, tidyL [(0, .pv (encSl R_E_api_Expr a0)), (1, .pv (.int .u32 a1)), (5, aR 0 1 ((y14 ++ ([y15] : List Int)).length)), (6, aI (IntKind.wrap .i64 (y15 + 1)))] [bR 3 1 (rI .i64) (y14 ++ ([y15] : List Int)) 0 0] (by kernel_rfl), .inr (⟨(y14 ++ ([y15] : List Int)), (IntKind.wrap .i64 (y15 + 1)), (y14 ++ ([y15] : List Int)).length, hm, rfl, rfl, (by first | rfl | assumption | omega | (simp only [List.length_set, List.length_append, List.length_cons, List.length_nil, List.length_replicate, List.length_drop] at * <;> omega))⟩)⟩
    ·
     refine c0 h31 (wp_skip (dn [(0, .pv (encSl R_E_api_Expr a0)), (1, .pv (.int .u32 a1)), (5, aR 0 1 g16), (6, aI (IntKind.wrap .i64 (y15 + 1)))] ?_))
     exact ⟨_, _, tidyL [(0, .pv (encSl R_E_api_Expr a0)), (1, .pv (.int .u32 a1)), (5, aR 0 1 g16), (6, aI (IntKind.wrap .i64 (y15 + 1)))] [bR 3 1 (rI .i64) y14 0 0] (by kernel_rfl), .inr (⟨y14, (IntKind.wrap .i64 (y15 + 1)), g16, hm, rfl, rfl, (by first | rfl | assumption | omega | (simp only [List.length_set, List.length_append, List.length_cons, List.length_nil, List.length_replicate, List.length_drop] at * <;> omega))⟩)⟩
   ·
    refine c0 h26 (wp_exit ?_)
    exact .inr (⟨y14, aI y15, aB (decide (y15 < ((sll a0).length : Int))), g16, hm, (mk_same (by kernel_rfl)), rfl, (by first | rfl | assumption | omega | (simp only [List.length_set, List.length_append, List.length_cons, List.length_nil, List.length_replicate, List.length_drop] at * <;> omega))⟩)
theorem ok_ref01_Ints {n : Nat} {a0 : (Option (List Int))} {a1 : (Option (List Int))} {r : Bool} (hm : ref01_Ints n a0 a1 = some r) :
    call G n 26 [.pv (encSl (rI .i64) a0), .pv (encSl (rI .i64) a1)] [] = some (.ret (aB r), []) := by
  unfold ref01_Ints at hm
  obtain ⟨n, rfl, h0⟩ := at1_some hm
  replace hm := h0; clear h0
  refine callL 26 [(0, .pv (encSl (rI .i64) a0)), (1, .pv (encSl (rI .i64) a1))] func26 rfl (by kernel_rfl) (sq (dn [(0, .pv (encSl (rI .i64) a0)), (1, .pv (encSl (rI .i64) a1))] ?_))
  refine sq (sq (rg (s1 1 [(6, .pv (encSl (rI .i64) a0))] (dv 7 (v := aI ((sll a0).length : Int)) (len_slO (rI .i64) a0 t33 (by kernel_rfl)) (by kernel_rfl) (s1 1 [(8, .pv (encSl (rI .i64) a1))] (dv 9 (v := aI ((sll a1).length : Int)) (len_slO (rI .i64) a1 t33 (by kernel_rfl)) (by kernel_rfl) (f1 1 [(0, .pv (encSl (rI .i64) a0)), (1, .pv (encSl (rI .i64) a1)), (10, aB (((sll a0).length : Int) != ((sll a1).length : Int)))] ?_)))))))
  rcases bif_some hm with ⟨h1, hm⟩ | ⟨h1, hm⟩
  ·
   refine c1 h1 (sq (dn [(4, aB false)] (wp_ret ?_)))
   obtain rfl := Option.some.inj hm
   exact ⟨trivial, by kernel_rfl⟩
  ·
   refine c0 h1 (wp_skip ?_)
   obtain ⟨k4, hk4, hm⟩ := withK_some hm
   refine mid (fun t H => (∃ (y2 : Bool) (y3 : Int), k4 () = some r ∧ t = mk 26 [(0, .pv (encSl (rI .i64) a0)), (1, .pv (encSl (rI .i64) a1)), (5, aI y3), (14, aB y2)] ∧ H = [])) ?_ ?_
   ·
    rintro _ _ ⟨y2, y3, hm, rfl, rfl⟩
    subst hk4
    refine sq (dn [(4, aB true)] (wp_ret ?_))
    obtain rfl := Option.some.inj hm
    exact ⟨trivial, by kernel_rfl⟩
   refine sq (dn [(0, .pv (encSl (rI .i64) a0)), (1, .pv (encSl (rI .i64) a1)), (5, aI 0)] (bq ?_))
   refine loopF (fun mm t H => (∃ (y6 : Int), ref01_Ints_l4 n a0 a1 k4 mm y6 = some r ∧ t = mk 26 [(0, .pv (encSl (rI .i64) a0)), (1, .pv (encSl (rI .i64) a1)), (5, aI y6)] ∧ H = [])) (⟨0, hm, rfl, rfl⟩) ?_ ?_
   · rintro _ _ ⟨y6, hm, _⟩; exact nomatch hm
   rintro m7 _ _ ⟨y6, hm, rfl, rfl⟩
   simp only [ref01_Ints_l4] at hm
   refine sq (sq (rg (s1 2 [(12, .pv (encSl (rI .i64) a0)), (11, aI y6)] (dv 13 (v := aI ((sll a0).length : Int)) (len_slO (rI .i64) a0 t33 (by kernel_rfl)) (by kernel_rfl) (f1 1 [(0, .pv (encSl (rI .i64) a0)), (1, .pv (encSl (rI .i64) a1)), (5, aI y6), (14, aB (decide (y6 < ((sll a0).length : Int))))] ?_)))))
   rcases bif_some hm with ⟨h8, hm⟩ | ⟨h8, hm⟩
   ·
    refine c1 h8 (wp_skip (sq (bq (sq (rgd (shd 2 [(18, aI y6), (17, .pv (encSl (rI .i64) a0))] (by kernel_rfl) ?_))))))
    obtain ⟨x9, h10, hm⟩ := bs hm
    refine dvd 19 (v := .pv (.ptr ((rI .i64) x9) 0)) (ia_slO (rI .i64) a0 .i64 t33 t3 h10 rfl (by kernel_rfl)) (by kernel_rfl) (shd 3 [(22, aI y6), (21, .pv (encSl (rI .i64) a1)), (20, aI x9)] (by kernel_rfl) ?_)
    obtain ⟨x11, h12, hm⟩ := bs hm
    refine dvd 23 (v := .pv (.ptr ((rI .i64) x11) 0)) (ia_slO (rI .i64) a1 .i64 t33 t3 h12 rfl (by kernel_rfl)) (by kernel_rfl) (shd 2 [(25, aB (x9 != x11)), (24, aI x11)] (by kernel_rfl) (find [(0, .pv (encSl (rI .i64) a0)), (1, .pv (encSl (rI .i64) a1)), (5, aI y6), (25, aB (x9 != x11))] rfl (by kernel_rfl) (by kernel_rfl) ?_))
    rcases bif_some hm with ⟨h13, hm⟩ | ⟨h13, hm⟩
    ·
     refine c1 h13 (sq (dn [(4, aB false)] (wp_ret ?_)))
     obtain rfl := Option.some.inj hm
     exact ⟨trivial, by kernel_rfl⟩
    ·
     refine c0 h13 (wp_skip (dn [(0, .pv (encSl (rI .i64) a0)), (1, .pv (encSl (rI .i64) a1)), (5, aI (IntKind.wrap .i64 (y6 + 1)))] ?_))
     exact ⟨_, _, tidyL [(0, .pv (encSl (rI .i64) a0)), (1, .pv (encSl (rI .i64) a1)), (5, aI (IntKind.wrap .i64 (y6 + 1)))] [] (by kernel_rfl), ⟨(IntKind.wrap .i64 (y6 + 1)), hm, rfl, rfl⟩⟩
   ·
    refine c0 h8 (wp_exit ?_)
    exact ⟨(decide (y6 < ((sll a0).length : Int))), y6, hm, rfl, rfl⟩
theorem ok_law31_GuessCards {n : Nat} {a0 : (Option (List E_api_Expr))} {a1 : (Option (List tabularyref20_Stat))} {a2 : Int} {a3 : Int} {r : Bool} (hm : law31_GuessCards n a0 a1 a2 a3 = some r) :
    call G n 4 [.pv (encSl R_E_api_Expr a0), .pv (encSl R_tabularyref20_Stat a1), .pv (.int .u32 a2), aI a3] [] = some (.ret (aB r), []) := by
  unfold law31_GuessCards at hm
  obtain ⟨n, rfl, h0⟩ := at1_some hm
  replace hm := h0; clear h0
  refine callL 48 [(0, .pv (encSl R_E_api_Expr a0)), (1, .pv (encSl R_tabularyref20_Stat a1)), (2, .pv (.int .u32 a2)), (3, aI a3)] func4 rfl (by kernel_rfl) (sq (dn [(0, .pv (encSl R_E_api_Expr a0)), (1, .pv (encSl R_tabularyref20_Stat a1)), (2, .pv (.int .u32 a2)), (3, aI a3)] ?_))
  refine sq (sq (rg (s1 2 [(11, .pv (encSl R_tabularyref20_Stat a1)), (10, .pv (encSl R_E_api_Expr a0))] ?_)))
  obtain ⟨x1, h2, hm⟩ := bs hm
  refine dv 12 (cpure (by kernel_rfl) (ok_law31_Great h2) (by kernel_rfl) (by kernel_rfl) (by kernel_rfl)) (by kernel_rfl) (fin [(0, .pv (encSl R_E_api_Expr a0)), (1, .pv (encSl R_tabularyref20_Stat a1)), (2, .pv (.int .u32 a2)), (3, aI a3), (12, aB x1)] rfl (by kernel_rfl) ?_)
  rcases bif_some hm with ⟨h3, hm⟩ | ⟨h3, hm⟩
  ·
   refine c1 h3 (sq (rg ?_))
   obtain ⟨x4, h5, hm⟩ := bs hm
   refine dv 13 (cpure (by kernel_rfl) (ok_law31_works h5) (by kernel_rfl) (by kernel_rfl) (by kernel_rfl)) (by kernel_rfl) (f1 1 [(8, aB x4)] (wp_ret ?_))
   obtain rfl := Option.some.inj hm
   exact ⟨trivial, by kernel_rfl⟩
  ·
   refine c0 h3 (wp_skip (sq (rg (s1 1 [(14, .pv (encSl R_tabularyref20_Stat a1))] ?_))))
   obtain ⟨x6, h7, hm⟩ := bs hm
   refine dv 15 (cpure (by kernel_rfl) (ok_law31_Stats h7) (by kernel_rfl) (by kernel_rfl) (by kernel_rfl)) (by kernel_rfl) (f1 1 [(0, .pv (encSl R_E_api_Expr a0)), (1, .pv (encSl R_tabularyref20_Stat a1)), (2, .pv (.int .u32 a2)), (3, aI a3), (9, .pv (encSl R_stat_Stat x6))] (sq (rg (s1 3 [(18, .pv (.int .u32 a2)), (17, .pv (encSl R_stat_Stat x6)), (16, .pv (encSl R_E_api_Expr a0))] ?_))))
   obtain ⟨x8, h9, hm⟩ := bs hm
   refine dv 19 (cpure (by kernel_rfl) (ok_guess_Card h9) (by kernel_rfl) (by kernel_rfl) (by kernel_rfl)) (by kernel_rfl) (s1 3 [(22, .pv (.int .u32 a2)), (21, .pv (encSl R_tabularyref20_Stat a1)), (20, .pv (encSl R_E_api_Expr a0))] ?_)
   obtain ⟨x10, h11, hm⟩ := bs hm
   refine dv 23 (cpure (by kernel_rfl) (ok_ref31_Card h11) (by kernel_rfl) (by kernel_rfl) (by kernel_rfl)) (by kernel_rfl) (s1 2 [(25, aB (x8 == x10)), (24, aB (x8 == x10))] ?_)
   rcases bif_some hm with ⟨h12, hm⟩ | ⟨h12, hm⟩
   ·
    refine known [25, 24] h12 (by kernel_rfl) (s1 2 [(27, aI a3), (26, .pv (encSl R_stat_Stat x6))] ?_)
    obtain ⟨x13, h14, hm⟩ := bs hm
    refine dv 28 (cpure (by kernel_rfl) (ok_guess_Rows h14) (by kernel_rfl) (by kernel_rfl) (by kernel_rfl)) (by kernel_rfl) (s1 2 [(30, aI a3), (29, .pv (encSl R_tabularyref20_Stat a1))] ?_)
    obtain ⟨x15, h16, hm⟩ := bs hm
    refine dv 31 (cpure (by kernel_rfl) (ok_ref31_Rows h16) (by kernel_rfl) (by kernel_rfl) (by kernel_rfl)) (by kernel_rfl) (s1 3 [(34, aB (x13 == x15)), (33, aB (x13 == x15)), (32, aB (x13 == x15))] ?_)
    rcases bif_some hm with ⟨h17, hm⟩ | ⟨h17, hm⟩
    ·
     refine known [34, 33, 32] h17 (by kernel_rfl) (s1 2 [(36, .pv (.int .u32 a2)), (35, .pv (encSl R_E_api_Expr a0))] ?_)
     obtain ⟨x18, h19, hm⟩ := bs hm
     refine dv 37 (cpure (by kernel_rfl) (ok_guess_Within h19) (by kernel_rfl) (by kernel_rfl) (by kernel_rfl)) (by kernel_rfl) (s1 2 [(39, .pv (.int .u32 a2)), (38, .pv (encSl R_E_api_Expr a0))] ?_)
     obtain ⟨x20, h21, hm⟩ := bs hm
     refine dv 40 (cpure (by kernel_rfl) (ok_ref31_Within h21) (by kernel_rfl) (by kernel_rfl) (by kernel_rfl)) (by kernel_rfl) ?_
     obtain ⟨x22, h23, hm⟩ := bs hm
     refine dv 41 (cpure (by kernel_rfl) (ok_ref01_Ints h23) (by kernel_rfl) (by kernel_rfl) (by kernel_rfl)) (by kernel_rfl) (s1 2 [(43, aB x22), (42, aB x22)] ?_)
     rcases bif_some hm with ⟨h24, hm⟩ | ⟨h24, hm⟩
     ·
      refine known [43, 42, 41] h24 (by kernel_rfl) (s1 2 [(45, aB true), (44, aB true)] ?_)
      obtain ⟨x25, h26, hm⟩ := bs hm
      refine dv 46 (cpure (by kernel_rfl) (ok_law31_works h26) (by kernel_rfl) (by kernel_rfl) (by kernel_rfl)) (by kernel_rfl) (f1 2 [(8, aB x25)] (wp_ret ?_))
      obtain rfl := Option.some.inj hm
      exact ⟨trivial, by kernel_rfl⟩
     ·
      refine known [43, 42, 41] h24 (by kernel_rfl) (f1 5 [(8, aB false)] (wp_ret ?_))
      obtain rfl := Option.some.inj hm
      exact ⟨trivial, by kernel_rfl⟩
    ·
     refine known [34, 33, 32] h17 (by kernel_rfl) (f1 14 [(8, aB false)] (wp_ret ?_))
     obtain rfl := Option.some.inj hm
     exact ⟨trivial, by kernel_rfl⟩
   ·
    refine known [25, 24] h12 (by kernel_rfl) (f1 23 [(8, aB false)] (wp_ret ?_))
    obtain rfl := Option.some.inj hm
    exact ⟨trivial, by kernel_rfl⟩
end Go.Ab.S1
