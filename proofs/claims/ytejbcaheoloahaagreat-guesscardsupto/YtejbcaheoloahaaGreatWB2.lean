import Derived.Test.YtejbcaheoloahaaGreatWB1
namespace Go.Ab.S1
open Go Go.Ab Go.Pl
open Go.Proofs.Tryz
set_option maxRecDepth 100000
theorem ok_hist_within {n : Nat} {a0 : hist_Bucket} {a1 : api_Value} {r : Int} (hm : hist_within n a0 a1 = some r) :
    call G n 268 [.agg [aI a0.fLow.fKind, aI a0.fLow.fInt, aF a0.fLow.fFloat, aS a0.fLow.fText, aI a0.fHigh.fKind, aI a0.fHigh.fInt, aF a0.fHigh.fFloat, aS a0.fHigh.fText, aI a0.fCount, aI a0.fDistinct], .agg [aI a1.fKind, aI a1.fInt, aF a1.fFloat, aS a1.fText]] [] = some (.ret (aI r), []) := by
  unfold hist_within at hm
  obtain ⟨n, rfl, h0⟩ := at1_some hm
  replace hm := h0; clear h0
  refine callL 17 [(0, .agg [aI a0.fLow.fKind, aI a0.fLow.fInt, aF a0.fLow.fFloat, aS a0.fLow.fText, aI a0.fHigh.fKind, aI a0.fHigh.fInt, aF a0.fHigh.fFloat, aS a0.fHigh.fText, aI a0.fCount, aI a0.fDistinct]), (1, .agg [aI a1.fKind, aI a1.fInt, aF a1.fFloat, aS a1.fText])] func268 rfl (by kernel_rfl) (sq (det [(2, .ptr 0 0), (3, .ptr 1 0)] [.box [aI a0.fLow.fKind, aI a0.fLow.fInt, aF a0.fLow.fFloat, aS a0.fLow.fText, aI a0.fHigh.fKind, aI a0.fHigh.fInt, aF a0.fHigh.fFloat, aS a0.fHigh.fText, aI a0.fCount, aI a0.fDistinct] false, .box [aI a1.fKind, aI a1.fInt, aF a1.fFloat, aS a1.fText] false] (by kernel_rfl) (sq (rgd (shd 2 [(6, .agg [aI a1.fKind, aI a1.fInt, aF a1.fFloat, aS a1.fText]), (5, .agg [aI a0.fLow.fKind, aI a0.fLow.fInt, aF a0.fLow.fFloat, aS a0.fLow.fText, aI a0.fHigh.fKind, aI a0.fHigh.fInt, aF a0.fHigh.fFloat, aS a0.fHigh.fText, aI a0.fCount, aI a0.fDistinct])] (by kernel_rfl) ?_)))))
  obtain ⟨x1, h2, hm⟩ := bs hm
  refine dvd 7 (cpure (by kernel_rfl) (ok_hist_share h2) (by kernel_rfl) (by kernel_rfl) (by kernel_rfl)) (by kernel_rfl) (shd 1 [(8, .agg [aI a0.fLow.fKind, aI a0.fLow.fInt, aF a0.fLow.fFloat, aS a0.fLow.fText, aI a0.fHigh.fKind, aI a0.fHigh.fInt, aF a0.fHigh.fFloat, aS a0.fHigh.fText, aI a0.fCount, aI a0.fDistinct])] (by kernel_rfl) ?_)
  obtain ⟨x3, h4, hm⟩ := bs hm
  refine dvd 9 (cpure (by kernel_rfl) (ok_hist_each h4) (by kernel_rfl) (by kernel_rfl) (by kernel_rfl)) (by kernel_rfl) (shd 4 [(13, .agg [aI a0.fLow.fKind, aI a0.fLow.fInt, aF a0.fLow.fFloat, aS a0.fLow.fText, aI a0.fHigh.fKind, aI a0.fHigh.fInt, aF a0.fHigh.fFloat, aS a0.fHigh.fText, aI a0.fCount, aI a0.fDistinct]), (12, aI a0.fCount), (11, .ptr 0 8), (10, aI (if x3 > x1 then x3 else x1))] (by kernel_rfl) ?_)
  obtain ⟨x5, h6, hm⟩ := bs hm
  refine dvd 14 (cpure (by kernel_rfl) (ok_hist_each h6) (by kernel_rfl) (by kernel_rfl) (by kernel_rfl)) (by kernel_rfl) (shd 3 [(4, aI (if (IntKind.wrap .i64 (a0.fCount - x5)) < (if x3 > x1 then x3 else x1) then (IntKind.wrap .i64 (a0.fCount - x5)) else (if x3 > x1 then x3 else x1))), (16, aI (if (IntKind.wrap .i64 (a0.fCount - x5)) < (if x3 > x1 then x3 else x1) then (IntKind.wrap .i64 (a0.fCount - x5)) else (if x3 > x1 then x3 else x1))), (15, aI (IntKind.wrap .i64 (a0.fCount - x5)))] (by kernel_rfl) (find [(4, aI (if (IntKind.wrap .i64 (a0.fCount - x5)) < (if x3 > x1 then x3 else x1) then (IntKind.wrap .i64 (a0.fCount - x5)) else (if x3 > x1 then x3 else x1)))] rfl (by kernel_rfl) (by kernel_rfl) (wp_ret ?_)))
  obtain rfl := Option.some.inj hm
  exact ⟨trivial, by kernel_rfl⟩
theorem ok_hist_Below {n : Nat} {a0 : (Option (List hist_Bucket))} {a1 : api_Value} {a2 : Bool} {r : Int} (hm : hist_Below n a0 a1 a2 = some r) :
    call G n 258 [.pv (encSl R_hist_Bucket a0), .agg [aI a1.fKind, aI a1.fInt, aF a1.fFloat, aS a1.fText], aB a2] [] = some (.ret (aI r), []) := by
  unfold hist_Below at hm
  obtain ⟨n, rfl, h0⟩ := at1_some hm
  replace hm := h0; clear h0
  refine callL 72 [(0, .pv (encSl R_hist_Bucket a0)), (1, .agg [aI a1.fKind, aI a1.fInt, aF a1.fFloat, aS a1.fText]), (2, aB a2)] func258 rfl (by kernel_rfl) (sq (det [(0, .pv (encSl R_hist_Bucket a0)), (2, aB a2), (4, .ptr 0 0)] [.box [aI a1.fKind, aI a1.fInt, aF a1.fFloat, aS a1.fText] false] (by kernel_rfl) (sq (rg (s1 2 [(13, .agg [aI a1.fKind, aI a1.fInt, aF a1.fFloat, aS a1.fText]), (12, .pv (encSl R_hist_Bucket a0))] ?_)))))
  obtain ⟨x1, h2, hm⟩ := bs hm
  refine dv 14 (cpure (by kernel_rfl) (ok_hist_find h2) (by kernel_rfl) (by kernel_rfl) (by kernel_rfl)) (by kernel_rfl) (f1 7 [(0, .pv (encSl R_hist_Bucket a0)), (2, aB a2), (4, .ptr 0 0), (7, aI x1.1), (8, aI x1.2.1), (9, aB x1.2.2)] ?_)
  refine sq (sq (dn [(0, .pv (encSl R_hist_Bucket a0)), (2, aB a2), (4, .ptr 0 0), (7, aI x1.1), (8, aI x1.2.1), (19, aB (!x1.2.2))] ?_))
  rcases bif_some hm with ⟨h3, hm⟩ | ⟨h3, hm⟩
  ·
   refine c1 h3 (sq (dn [(6, aI x1.2.1)] (wp_ret ?_)))
   obtain rfl := Option.some.inj hm
   exact ⟨trivial, by kernel_rfl⟩
  ·
   refine c0 h3 (wp_skip (sq (rg (s1 2 [(22, aI x1.1), (21, .pv (encSl R_hist_Bucket a0))] ?_))))
   obtain ⟨x4, h5, hm⟩ := bs hm
   refine dv 23 (v := .pv (.ptr (R_hist_Bucket x4) 0)) (ia_slO R_hist_Bucket a0 .i64 t150 t247 h5 rfl (by kernel_rfl)) (by kernel_rfl) (stf 3 [(2, aB a2), (4, .ptr 0 0), (8, aI x1.2.1), (10, .ptr 1 0)] [.box [aI a1.fKind, aI a1.fInt, aF a1.fFloat, aS a1.fText] false, .box [aI x4.fLow.fKind, aI x4.fLow.fInt, aF x4.fLow.fFloat, aS x4.fLow.fText, aI x4.fHigh.fKind, aI x4.fHigh.fInt, aF x4.fHigh.fFloat, aS x4.fHigh.fText, aI x4.fCount, aI x4.fDistinct] false] (by kernel_rfl) (sq (bq ?_)))
   refine sq (rg (s1 3 [(28, .agg [aI x4.fHigh.fKind, aI x4.fHigh.fInt, aF x4.fHigh.fFloat, aS x4.fHigh.fText]), (27, .ptr 1 4), (26, .agg [aI a1.fKind, aI a1.fInt, aF a1.fFloat, aS a1.fText])] ?_))
   obtain ⟨x6, h7, hm⟩ := bs hm
   refine dv 29 (cpure (by kernel_rfl) (ok_value_Same h7) (by kernel_rfl) (by kernel_rfl) (by kernel_rfl)) (by kernel_rfl) (s1 1 [(30, aB x6)] ?_)
   refine segP x6 [30, 29] (fun b => [(32, aB (b && a2)), (31, ifA b (aB a2) (.undef))]) 2 (by kernel_rfl) (by kernel_rfl) (by kernel_rfl) (f1 1 [(2, aB a2), (4, .ptr 0 0), (8, aI x1.2.1), (10, .ptr 1 0), (25, aB (x6 && a2))] ?_)
   rcases bif_some hm with ⟨h8, hm⟩ | ⟨h8, hm⟩
   ·
    refine c1 h8 (sq (dn [(6, aI (IntKind.wrap .i64 (x1.2.1 + x4.fCount)))] (wp_ret ?_)))
    obtain rfl := Option.some.inj hm
    exact ⟨trivial, by kernel_rfl⟩
   ·
    refine c0 h8 (sq (rg (s1 3 [(40, .agg [aI x4.fHigh.fKind, aI x4.fHigh.fInt, aF x4.fHigh.fFloat, aS x4.fHigh.fText]), (39, .ptr 1 4), (38, .agg [aI a1.fKind, aI a1.fInt, aF a1.fFloat, aS a1.fText])] ?_)))
    obtain ⟨x9, h10, hm⟩ := bs hm
    refine dv 41 (cpure (by kernel_rfl) (ok_value_Same h10) (by kernel_rfl) (by kernel_rfl) (by kernel_rfl)) (by kernel_rfl) (f1 1 [(2, aB a2), (4, .ptr 0 0), (8, aI x1.2.1), (10, .ptr 1 0), (37, aB x9)] ?_)
    rcases bif_some hm with ⟨h11, hm⟩ | ⟨h11, hm⟩
    ·
     refine c1 h11 (sq (rgd (shd 5 [(46, .agg [aI x4.fLow.fKind, aI x4.fLow.fInt, aF x4.fLow.fFloat, aS x4.fLow.fText, aI x4.fHigh.fKind, aI x4.fHigh.fInt, aF x4.fHigh.fFloat, aS x4.fHigh.fText, aI x4.fCount, aI x4.fDistinct]), (45, aI (IntKind.wrap .i64 (x1.2.1 + x4.fCount))), (44, aI x4.fCount), (43, .ptr 1 8), (42, aI x1.2.1)] (by kernel_rfl) ?_)))
     obtain ⟨x12, h13, hm⟩ := bs hm
     refine dvd 47 (cpure (by kernel_rfl) (ok_hist_each h13) (by kernel_rfl) (by kernel_rfl) (by kernel_rfl)) (by kernel_rfl) (shd 2 [(6, aI (IntKind.wrap .i64 ((IntKind.wrap .i64 (x1.2.1 + x4.fCount)) - x12))), (48, aI (IntKind.wrap .i64 ((IntKind.wrap .i64 (x1.2.1 + x4.fCount)) - x12)))] (by kernel_rfl) (find [(6, aI (IntKind.wrap .i64 ((IntKind.wrap .i64 (x1.2.1 + x4.fCount)) - x12)))] rfl (by kernel_rfl) (by kernel_rfl) (wp_ret ?_)))
     obtain rfl := Option.some.inj hm
     exact ⟨trivial, by kernel_rfl⟩
    ·
     refine c0 h11 ?_
     refine sq (rg (s1 3 [(52, .agg [aI x4.fLow.fKind, aI x4.fLow.fInt, aF x4.fLow.fFloat, aS x4.fLow.fText]), (51, .ptr 1 0), (50, .agg [aI a1.fKind, aI a1.fInt, aF a1.fFloat, aS a1.fText])] ?_))
     obtain ⟨x14, h15, hm⟩ := bs hm
     refine dv 53 (cpure (by kernel_rfl) (ok_value_Same h15) (by kernel_rfl) (by kernel_rfl) (by kernel_rfl)) (by kernel_rfl) (s1 1 [(54, aB x14)] ?_)
     refine segP x14 [54, 53] (fun b => [(56, aB (b && a2)), (55, ifA b (aB a2) (.undef))]) 2 (by kernel_rfl) (by kernel_rfl) (by kernel_rfl) (f1 1 [(4, .ptr 0 0), (8, aI x1.2.1), (10, .ptr 1 0), (49, aB (x14 && a2))] ?_)
     rcases bif_some hm with ⟨h16, hm⟩ | ⟨h16, hm⟩
     ·
      refine c1 h16 (sq (rg (s1 2 [(58, .agg [aI x4.fLow.fKind, aI x4.fLow.fInt, aF x4.fLow.fFloat, aS x4.fLow.fText, aI x4.fHigh.fKind, aI x4.fHigh.fInt, aF x4.fHigh.fFloat, aS x4.fHigh.fText, aI x4.fCount, aI x4.fDistinct]), (57, aI x1.2.1)] ?_)))
      obtain ⟨x17, h18, hm⟩ := bs hm
      refine dv 59 (cpure (by kernel_rfl) (ok_hist_each h18) (by kernel_rfl) (by kernel_rfl) (by kernel_rfl)) (by kernel_rfl) (f1 2 [(6, aI (IntKind.wrap .i64 (x1.2.1 + x17)))] (wp_ret ?_))
      obtain rfl := Option.some.inj hm
      exact ⟨trivial, by kernel_rfl⟩
     ·
      refine c0 h16 (sq (rg (s1 3 [(64, .agg [aI x4.fLow.fKind, aI x4.fLow.fInt, aF x4.fLow.fFloat, aS x4.fLow.fText]), (63, .ptr 1 0), (62, .agg [aI a1.fKind, aI a1.fInt, aF a1.fFloat, aS a1.fText])] ?_)))
      obtain ⟨x19, h20, hm⟩ := bs hm
      refine dv 65 (cpure (by kernel_rfl) (ok_value_Same h20) (by kernel_rfl) (by kernel_rfl) (by kernel_rfl)) (by kernel_rfl) (f1 1 [(4, .ptr 0 0), (8, aI x1.2.1), (10, .ptr 1 0), (61, aB x19)] ?_)
      rcases bif_some hm with ⟨h21, hm⟩ | ⟨h21, hm⟩
      ·
       refine c1 h21 (sq (dn [(6, aI x1.2.1)] (wp_ret ?_)))
       obtain rfl := Option.some.inj hm
       exact ⟨trivial, by kernel_rfl⟩
      ·
       refine c0 h21 (wp_skip (sq (rg (s1 3 [(69, .agg [aI a1.fKind, aI a1.fInt, aF a1.fFloat, aS a1.fText]), (68, .agg [aI x4.fLow.fKind, aI x4.fLow.fInt, aF x4.fLow.fFloat, aS x4.fLow.fText, aI x4.fHigh.fKind, aI x4.fHigh.fInt, aF x4.fHigh.fFloat, aS x4.fHigh.fText, aI x4.fCount, aI x4.fDistinct]), (67, aI x1.2.1)] ?_))))
       obtain ⟨x22, h23, hm⟩ := bs hm
       refine dv 70 (cpure (by kernel_rfl) (ok_hist_within h23) (by kernel_rfl) (by kernel_rfl) (by kernel_rfl)) (by kernel_rfl) (f1 2 [(6, aI (IntKind.wrap .i64 (x1.2.1 + x22)))] (wp_ret ?_))
       obtain rfl := Option.some.inj hm
       exact ⟨trivial, by kernel_rfl⟩
theorem ok_guess_against {n : Nat} {a0 : Int} {a1 : stat_Col} {a2 : api_Value} {a3 : Bool} {r : Int} (hm : guess_against n a0 a1 a2 a3 = some r) :
    call G n 241 [aI a0, .agg ([aI a1.fKind, aI a1.fNulls, aI a1.fDistinct, .pv (encSl R_hist_Bucket a1.fHist), .pv (encSl R_api_Value a1.fSample)] ++ (aA .u8 64 a1.fSketch.fRegs)), .agg [aI a2.fKind, aI a2.fInt, aF a2.fFloat, aS a2.fText], aB a3] [] = some (.ret (aU r), []) := by
  unfold guess_against at hm
  obtain ⟨n, rfl, h0⟩ := at1_some hm
  replace hm := h0; clear h0
  refine callL 68 [(0, aI a0), (1, .agg ([aI a1.fKind, aI a1.fNulls, aI a1.fDistinct, .pv (encSl R_hist_Bucket a1.fHist), .pv (encSl R_api_Value a1.fSample)] ++ (aA .u8 64 a1.fSketch.fRegs))), (2, .agg [aI a2.fKind, aI a2.fInt, aF a2.fFloat, aS a2.fText]), (3, aB a3)] func241 rfl (by kernel_rfl) (sq (det [(0, aI a0), (3, aB a3), (5, .ptr 0 0), (6, .ptr 1 0)] [.box ([aI a1.fKind, aI a1.fNulls, aI a1.fDistinct, .pv (encSl R_hist_Bucket a1.fHist), .pv (encSl R_api_Value a1.fSample)] ++ (aA .u8 64 a1.fSketch.fRegs)) false, .box [aI a2.fKind, aI a2.fInt, aF a2.fFloat, aS a2.fText] false] (by kernel_rfl) ?_))
  refine sq (sq (rgd (shd 2 [(12, .pv (encSl R_hist_Bucket a1.fHist)), (11, .ptr 0 3)] (by kernel_rfl) (dvd 13 (v := aI ((sll a1.fHist).length : Int)) (len_slO R_hist_Bucket a1.fHist t150 (by kernel_rfl)) (by kernel_rfl) (shd 2 [(15, aB (((sll a1.fHist).length : Int) == 0)), (14, aB (((sll a1.fHist).length : Int) == 0))] (by kernel_rfl) ?_)))))
  rcases bif_some hm with ⟨h1, hm⟩ | ⟨h1, hm⟩
  ·
   refine knownd [15, 14] h1 (by kernel_rfl) (shd 16 [(31, aB true), (30, .undef), (29, .undef), (28, .undef), (27, .undef), (26, .undef), (25, .undef), (24, .undef), (23, .undef), (22, .undef), (21, aB true), (20, aB true), (19, .undef), (18, .undef), (17, .undef), (16, .undef)] (by kernel_rfl) (find [(0, aI a0), (3, aB a3), (5, .ptr 0 0), (6, .ptr 1 0), (31, aB true)] rfl (by kernel_rfl) (by kernel_rfl) (cT (by kernel_rfl) (sq (rg (s1 3 [(34, aI a1.fDistinct), (33, .ptr 0 2), (32, aI a0)] ?_))))))
   obtain ⟨x2, h3, hm⟩ := bs hm
   refine dv 35 (cpure (by kernel_rfl) (ok_guess_one h3) (by kernel_rfl) (by kernel_rfl) (by kernel_rfl)) (by kernel_rfl) ?_
   obtain ⟨x4, h5, hm⟩ := bs hm
   refine dv 36 (cpure (by kernel_rfl) (ok_guess_blind h5) (by kernel_rfl) (by kernel_rfl) (by kernel_rfl)) (by kernel_rfl) (f1 1 [(8, aU x4)] (wp_ret ?_))
   obtain rfl := Option.some.inj hm
   exact ⟨trivial, by kernel_rfl⟩
  ·
   refine knownd [15, 14] h1 (by kernel_rfl) (shd 2 [(17, .pv (encSl R_hist_Bucket a1.fHist)), (16, .ptr 0 3)] (by kernel_rfl) ?_)
   obtain ⟨x6, h7, hm⟩ := bs hm
   refine dvd 18 (cpure (by kernel_rfl) (ok_hist_Right h7) (by kernel_rfl) (by kernel_rfl) (by kernel_rfl)) (by kernel_rfl) (shd 3 [(21, aB (!x6)), (20, aB (!x6)), (19, aB (!x6))] (by kernel_rfl) ?_)
   rcases bif_some hm with ⟨h8, hm⟩ | ⟨h8, hm⟩
   ·
    refine knownd [21, 20, 19] h8 (by kernel_rfl) (shd 10 [(31, aB true), (30, .undef), (29, .undef), (28, .undef), (27, .undef), (26, .undef), (25, .undef), (24, .undef), (23, .undef), (22, .undef)] (by kernel_rfl) (find [(0, aI a0), (3, aB a3), (5, .ptr 0 0), (6, .ptr 1 0), (31, aB true)] rfl (by kernel_rfl) (by kernel_rfl) (cT (by kernel_rfl) (sq (rg (s1 3 [(34, aI a1.fDistinct), (33, .ptr 0 2), (32, aI a0)] ?_))))))
    obtain ⟨x9, h10, hm⟩ := bs hm
    refine dv 35 (cpure (by kernel_rfl) (ok_guess_one h10) (by kernel_rfl) (by kernel_rfl) (by kernel_rfl)) (by kernel_rfl) ?_
    obtain ⟨x11, h12, hm⟩ := bs hm
    refine dv 36 (cpure (by kernel_rfl) (ok_guess_blind h12) (by kernel_rfl) (by kernel_rfl) (by kernel_rfl)) (by kernel_rfl) (f1 1 [(8, aU x11)] (wp_ret ?_))
    obtain rfl := Option.some.inj hm
    exact ⟨trivial, by kernel_rfl⟩
   ·
    refine knownd [21, 20, 19] h8 (by kernel_rfl) (shd 2 [(23, .pv (encSl R_hist_Bucket a1.fHist)), (22, .ptr 0 3)] (by kernel_rfl) ?_)
    obtain ⟨x13, h14, hm⟩ := bs hm
    refine dvd 24 (v := .pv (.ptr (R_hist_Bucket x13) 0)) (ia_slO R_hist_Bucket a1.fHist .i64 t150 t247 h14 rfl (by kernel_rfl)) (by kernel_rfl) (shd 7 [(31, aB (x13.fLow.fKind != a2.fKind)), (30, aB (x13.fLow.fKind != a2.fKind)), (29, aI a2.fKind), (28, .ptr 1 0), (27, aI x13.fLow.fKind), (26, .pv (.ptr (R_hist_Bucket x13) 0)), (25, .pv (.ptr (R_hist_Bucket x13) 0))] (by kernel_rfl) (find [(0, aI a0), (3, aB a3), (5, .ptr 0 0), (6, .ptr 1 0), (31, aB (x13.fLow.fKind != a2.fKind))] rfl (by kernel_rfl) (by kernel_rfl) ?_))
    rcases bif_some hm with ⟨h15, hm⟩ | ⟨h15, hm⟩
    ·
     refine c1 h15 (sq (rg (s1 3 [(34, aI a1.fDistinct), (33, .ptr 0 2), (32, aI a0)] ?_)))
     obtain ⟨x16, h17, hm⟩ := bs hm
     refine dv 35 (cpure (by kernel_rfl) (ok_guess_one h17) (by kernel_rfl) (by kernel_rfl) (by kernel_rfl)) (by kernel_rfl) ?_
     obtain ⟨x18, h19, hm⟩ := bs hm
     refine dv 36 (cpure (by kernel_rfl) (ok_guess_blind h19) (by kernel_rfl) (by kernel_rfl) (by kernel_rfl)) (by kernel_rfl) (f1 1 [(8, aU x18)] (wp_ret ?_))
     obtain rfl := Option.some.inj hm
     exact ⟨trivial, by kernel_rfl⟩
    ·
     refine c0 h15 (wp_skip (sq (rg (s1 2 [(38, .pv (encSl R_hist_Bucket a1.fHist)), (37, .ptr 0 3)] ?_))))
     obtain ⟨x20, h21, hm⟩ := bs hm
     refine dv 39 (cpure (by kernel_rfl) (ok_hist_Total h21) (by kernel_rfl) (by kernel_rfl) (by kernel_rfl)) (by kernel_rfl) (f1 1 [(0, aI a0), (3, aB a3), (5, .ptr 0 0), (6, .ptr 1 0), (9, aI x20)] (sq (dn [(0, aI a0), (3, aB a3), (5, .ptr 0 0), (6, .ptr 1 0), (9, aI x20)] (sq (bq (sq (dn [(0, aI a0), (3, aB a3), (5, .ptr 0 0), (6, .ptr 1 0), (9, aI x20), (46, aB (a0 == 7))] ?_)))))))
     rcases bif_some hm with ⟨h22, hm⟩ | ⟨h22, hm⟩
     ·
      refine c1 h22 (rg (s1 3 [(51, .agg [aI a2.fKind, aI a2.fInt, aF a2.fFloat, aS a2.fText]), (50, .pv (encSl R_hist_Bucket a1.fHist)), (49, .ptr 0 3)] ?_))
      obtain ⟨x23, h24, hm⟩ := bs hm
      refine dv 52 (cpure (by kernel_rfl) (ok_hist_Equal h24) (by kernel_rfl) (by kernel_rfl) (by kernel_rfl)) (by kernel_rfl) (f1 1 [(9, aI x20), (10, aI x23)] (sq (rg (s1 1 [(63, aI x23)] ?_))))
      obtain ⟨x25, h26, hm⟩ := bs hm
      refine dv 64 (cpure (by kernel_rfl) (ok_guess_natural h26) (by kernel_rfl) (by kernel_rfl) (by kernel_rfl)) (by kernel_rfl) (s1 1 [(65, aI x20)] ?_)
      obtain ⟨x27, h28, hm⟩ := bs hm
      refine dv 66 (cpure (by kernel_rfl) (ok_guess_natural h28) (by kernel_rfl) (by kernel_rfl) (by kernel_rfl)) (by kernel_rfl) ?_
      obtain ⟨x29, h30, hm⟩ := bs hm
      refine dv 67 (cpure (by kernel_rfl) (ok_fixed_Share h30) (by kernel_rfl) (by kernel_rfl) (by kernel_rfl)) (by kernel_rfl) (f1 1 [(8, aU x29)] (wp_ret ?_))
      obtain rfl := Option.some.inj hm
      exact ⟨trivial, by kernel_rfl⟩
     ·
      refine c0 h22 (sq (dn [(0, aI a0), (5, .ptr 0 0), (6, .ptr 1 0), (9, aI x20), (53, aB a3)] ?_))
      rcases bif_some hm with ⟨h31, hm⟩ | ⟨h31, hm⟩
      ·
       refine c1 h31 (rg (s1 6 [(60, aB (a0 == 8)), (59, aI a0), (58, .agg [aI a2.fKind, aI a2.fInt, aF a2.fFloat, aS a2.fText]), (57, .pv (encSl R_hist_Bucket a1.fHist)), (56, .ptr 0 3), (55, aI x20)] ?_))
       obtain ⟨x32, h33, hm⟩ := bs hm
       refine dv 61 (cpure (by kernel_rfl) (ok_hist_Below h33) (by kernel_rfl) (by kernel_rfl) (by kernel_rfl)) (by kernel_rfl) (f1 2 [(9, aI x20), (10, aI (IntKind.wrap .i64 (x20 - x32)))] (sq (rg (s1 1 [(63, aI (IntKind.wrap .i64 (x20 - x32)))] ?_))))
       obtain ⟨x34, h35, hm⟩ := bs hm
       refine dv 64 (cpure (by kernel_rfl) (ok_guess_natural h35) (by kernel_rfl) (by kernel_rfl) (by kernel_rfl)) (by kernel_rfl) (s1 1 [(65, aI x20)] ?_)
       obtain ⟨x36, h37, hm⟩ := bs hm
       refine dv 66 (cpure (by kernel_rfl) (ok_guess_natural h37) (by kernel_rfl) (by kernel_rfl) (by kernel_rfl)) (by kernel_rfl) ?_
       obtain ⟨x38, h39, hm⟩ := bs hm
       refine dv 67 (cpure (by kernel_rfl) (ok_fixed_Share h39) (by kernel_rfl) (by kernel_rfl) (by kernel_rfl)) (by kernel_rfl) (f1 1 [(8, aU x38)] (wp_ret ?_))
       obtain rfl := Option.some.inj hm
       exact ⟨trivial, by kernel_rfl⟩
      ·
       refine c0 h31 (rg (s1 5 [(44, aB (a0 == 9)), (43, aI a0), (42, .agg [aI a2.fKind, aI a2.fInt, aF a2.fFloat, aS a2.fText]), (41, .pv (encSl R_hist_Bucket a1.fHist)), (40, .ptr 0 3)] ?_))
       obtain ⟨x40, h41, hm⟩ := bs hm
       refine dv 45 (cpure (by kernel_rfl) (ok_hist_Below h41) (by kernel_rfl) (by kernel_rfl) (by kernel_rfl)) (by kernel_rfl) (f1 1 [(9, aI x20), (10, aI x40)] (sq (rg (s1 1 [(63, aI x40)] ?_))))
       obtain ⟨x42, h43, hm⟩ := bs hm
       refine dv 64 (cpure (by kernel_rfl) (ok_guess_natural h43) (by kernel_rfl) (by kernel_rfl) (by kernel_rfl)) (by kernel_rfl) (s1 1 [(65, aI x20)] ?_)
       obtain ⟨x44, h45, hm⟩ := bs hm
       refine dv 66 (cpure (by kernel_rfl) (ok_guess_natural h45) (by kernel_rfl) (by kernel_rfl) (by kernel_rfl)) (by kernel_rfl) ?_
       obtain ⟨x46, h47, hm⟩ := bs hm
       refine dv 67 (cpure (by kernel_rfl) (ok_fixed_Share h47) (by kernel_rfl) (by kernel_rfl) (by kernel_rfl)) (by kernel_rfl) (f1 1 [(8, aU x46)] (wp_ret ?_))
       obtain rfl := Option.some.inj hm
       exact ⟨trivial, by kernel_rfl⟩
theorem ok_guess_nulls {n : Nat} {a0 : stat_Col} {a1 : Int} {r : Int} (hm : guess_nulls n a0 a1 = some r) :
    call G n 201 [.agg ([aI a0.fKind, aI a0.fNulls, aI a0.fDistinct, .pv (encSl R_hist_Bucket a0.fHist), .pv (encSl R_api_Value a0.fSample)] ++ (aA .u8 64 a0.fSketch.fRegs)), aI a1] [] = some (.ret (aU r), []) := by
  unfold guess_nulls at hm
  obtain ⟨n, rfl, h0⟩ := at1_some hm
  replace hm := h0; clear h0
  refine callL 12 [(0, .agg ([aI a0.fKind, aI a0.fNulls, aI a0.fDistinct, .pv (encSl R_hist_Bucket a0.fHist), .pv (encSl R_api_Value a0.fSample)] ++ (aA .u8 64 a0.fSketch.fRegs))), (1, aI a1)] func201 rfl (by kernel_rfl) (sq (det [(1, aI a1), (2, .ptr 0 0)] [.box ([aI a0.fKind, aI a0.fNulls, aI a0.fDistinct, .pv (encSl R_hist_Bucket a0.fHist), .pv (encSl R_api_Value a0.fSample)] ++ (aA .u8 64 a0.fSketch.fRegs)) false] (by kernel_rfl) (sq (rg (s1 2 [(6, aI a0.fNulls), (5, .ptr 0 1)] ?_)))))
  obtain ⟨x1, h2, hm⟩ := bs hm
  refine dv 7 (cpure (by kernel_rfl) (ok_guess_natural h2) (by kernel_rfl) (by kernel_rfl) (by kernel_rfl)) (by kernel_rfl) (s1 1 [(8, aI a1)] ?_)
  obtain ⟨x3, h4, hm⟩ := bs hm
  refine dv 9 (cpure (by kernel_rfl) (ok_guess_natural h4) (by kernel_rfl) (by kernel_rfl) (by kernel_rfl)) (by kernel_rfl) ?_
  obtain ⟨x5, h6, hm⟩ := bs hm
  refine dv 10 (cpure (by kernel_rfl) (ok_fixed_Share h6) (by kernel_rfl) (by kernel_rfl) (by kernel_rfl)) (by kernel_rfl) (f1 2 [(4, aU (if 1048576 < x5 then 1048576 else x5))] (wp_ret ?_))
  obtain rfl := Option.some.inj hm
  exact ⟨trivial, by kernel_rfl⟩
theorem ok_guess_compared {n : Nat} {a0 : api_Expr} {a1 : (Option (List stat_Stat))} {r : Int} (hm : guess_compared n a0 a1 = some r) :
    call G n 199 [.agg [aI a0.fKind, aI a0.fRel, aI a0.fCol, aI a0.fConst.fKind, aI a0.fConst.fInt, aF a0.fConst.fFloat, aS a0.fConst.fText, .pv (encSl R_E_api_Expr a0.fKids)], .pv (encSl R_stat_Stat a1)] [] = some (.ret (aU r), []) := by
  unfold guess_compared at hm
  obtain ⟨n, rfl, h0⟩ := at1_some hm
  replace hm := h0; clear h0
  refine callL 113 [(0, .agg [aI a0.fKind, aI a0.fRel, aI a0.fCol, aI a0.fConst.fKind, aI a0.fConst.fInt, aF a0.fConst.fFloat, aS a0.fConst.fText, .pv (encSl R_E_api_Expr a0.fKids)]), (1, .pv (encSl R_stat_Stat a1))] func199 rfl (by kernel_rfl) (sq (det [(1, .pv (encSl R_stat_Stat a1)), (2, .ptr 0 0)] [.box [aI a0.fKind, aI a0.fRel, aI a0.fCol, aI a0.fConst.fKind, aI a0.fConst.fInt, aF a0.fConst.fFloat, aS a0.fConst.fText, .pv (encSl R_E_api_Expr a0.fKids)] false] (by kernel_rfl) (sq (rgd (shd 2 [(14, .pv (encSl R_E_api_Expr a0.fKids)), (13, .ptr 0 7)] (by kernel_rfl) ?_)))))
  obtain ⟨x1, h2, hm⟩ := bs hm
  refine dvd 15 (v := .pv (.ptr (R_api_Expr (un_api_Expr x1)) 0)) (ia_slE R_E_api_Expr a0.fKids .i64 t23 t49 h2 (R_un_api_Expr x1) rfl (by kernel_rfl)) (by kernel_rfl) (shd 3 [(18, .pv (encSl R_E_api_Expr a0.fKids)), (17, .ptr 0 7), (16, .agg [aI ((un_api_Expr x1).fKind), aI ((un_api_Expr x1).fRel), aI ((un_api_Expr x1).fCol), aI (((un_api_Expr x1).fConst).fKind), aI (((un_api_Expr x1).fConst).fInt), aF (((un_api_Expr x1).fConst).fFloat), aS (((un_api_Expr x1).fConst).fText), .pv (encSl R_E_api_Expr ((un_api_Expr x1).fKids))])] (by kernel_rfl) ?_)
  obtain ⟨x3, h4, hm⟩ := bs hm
  refine dvd 19 (v := .pv (.ptr (R_api_Expr (un_api_Expr x3)) 0)) (ia_slE R_E_api_Expr a0.fKids .i64 t23 t49 h4 (R_un_api_Expr x3) rfl (by kernel_rfl)) (by kernel_rfl) (std 5 [(6, .ptr 2 0), (5, .ptr 1 0), (20, .agg [aI ((un_api_Expr x3).fKind), aI ((un_api_Expr x3).fRel), aI ((un_api_Expr x3).fCol), aI (((un_api_Expr x3).fConst).fKind), aI (((un_api_Expr x3).fConst).fInt), aF (((un_api_Expr x3).fConst).fFloat), aS (((un_api_Expr x3).fConst).fText), .pv (encSl R_E_api_Expr ((un_api_Expr x3).fKids))])] [.box [aI a0.fKind, aI a0.fRel, aI a0.fCol, aI a0.fConst.fKind, aI a0.fConst.fInt, aF a0.fConst.fFloat, aS a0.fConst.fText, .pv (encSl R_E_api_Expr a0.fKids)] false, .box [aI ((un_api_Expr x1).fKind), aI ((un_api_Expr x1).fRel), aI ((un_api_Expr x1).fCol), aI (((un_api_Expr x1).fConst).fKind), aI (((un_api_Expr x1).fConst).fInt), aF (((un_api_Expr x1).fConst).fFloat), aS (((un_api_Expr x1).fConst).fText), .pv (encSl R_E_api_Expr ((un_api_Expr x1).fKids))] false, .box [aI ((un_api_Expr x3).fKind), aI ((un_api_Expr x3).fRel), aI ((un_api_Expr x3).fCol), aI (((un_api_Expr x3).fConst).fKind), aI (((un_api_Expr x3).fConst).fInt), aF (((un_api_Expr x3).fConst).fFloat), aS (((un_api_Expr x3).fConst).fText), .pv (encSl R_E_api_Expr ((un_api_Expr x3).fKids))] false] (by kernel_rfl) (find [(1, .pv (encSl R_stat_Stat a1)), (2, .ptr 0 0), (5, .ptr 1 0), (6, .ptr 2 0)] rfl (by kernel_rfl) (by kernel_rfl) (sq (rg (s1 2 [(23, .pv (encSl R_stat_Stat a1)), (22, .agg [aI ((un_api_Expr x1).fKind), aI ((un_api_Expr x1).fRel), aI ((un_api_Expr x1).fCol), aI (((un_api_Expr x1).fConst).fKind), aI (((un_api_Expr x1).fConst).fInt), aF (((un_api_Expr x1).fConst).fFloat), aS (((un_api_Expr x1).fConst).fText), .pv (encSl R_E_api_Expr ((un_api_Expr x1).fKids))])] ?_)))))
  obtain ⟨x5, h6, hm⟩ := bs hm
  refine dv 24 (cpure (by kernel_rfl) (ok_guess_column h6) (by kernel_rfl) (by kernel_rfl) (by kernel_rfl)) (by kernel_rfl) (stf 8 [(1, .pv (encSl R_stat_Stat a1)), (2, .ptr 0 0), (5, .ptr 1 0), (6, .ptr 2 0), (7, .ptr 3 0), (8, aI x5.2.1), (9, aB x5.2.2)] [.box [aI a0.fKind, aI a0.fRel, aI a0.fCol, aI a0.fConst.fKind, aI a0.fConst.fInt, aF a0.fConst.fFloat, aS a0.fConst.fText, .pv (encSl R_E_api_Expr a0.fKids)] false, .box [aI ((un_api_Expr x1).fKind), aI ((un_api_Expr x1).fRel), aI ((un_api_Expr x1).fCol), aI (((un_api_Expr x1).fConst).fKind), aI (((un_api_Expr x1).fConst).fInt), aF (((un_api_Expr x1).fConst).fFloat), aS (((un_api_Expr x1).fConst).fText), .pv (encSl R_E_api_Expr ((un_api_Expr x1).fKids))] false, .box [aI ((un_api_Expr x3).fKind), aI ((un_api_Expr x3).fRel), aI ((un_api_Expr x3).fCol), aI (((un_api_Expr x3).fConst).fKind), aI (((un_api_Expr x3).fConst).fInt), aF (((un_api_Expr x3).fConst).fFloat), aS (((un_api_Expr x3).fConst).fText), .pv (encSl R_E_api_Expr ((un_api_Expr x3).fKids))] false, .box ([aI x5.1.fKind, aI x5.1.fNulls, aI x5.1.fDistinct, .pv (encSl R_hist_Bucket x5.1.fHist), .pv (encSl R_api_Value x5.1.fSample)] ++ (aA .u8 64 x5.1.fSketch.fRegs)) false] (by kernel_rfl) (sq (rg (s1 2 [(30, .pv (encSl R_stat_Stat a1)), (29, .agg [aI ((un_api_Expr x3).fKind), aI ((un_api_Expr x3).fRel), aI ((un_api_Expr x3).fCol), aI (((un_api_Expr x3).fConst).fKind), aI (((un_api_Expr x3).fConst).fInt), aF (((un_api_Expr x3).fConst).fFloat), aS (((un_api_Expr x3).fConst).fText), .pv (encSl R_E_api_Expr ((un_api_Expr x3).fKids))])] ?_))))
  obtain ⟨x7, h8, hm⟩ := bs hm
  refine dv 31 (cpure (by kernel_rfl) (ok_guess_column h8) (by kernel_rfl) (by kernel_rfl) (by kernel_rfl)) (by kernel_rfl) (stf 8 [(2, .ptr 0 0), (5, .ptr 1 0), (6, .ptr 2 0), (7, .ptr 3 0), (8, aI x5.2.1), (9, aB x5.2.2), (10, .ptr 4 0), (11, aI x7.2.1), (12, aB x7.2.2)] [.box [aI a0.fKind, aI a0.fRel, aI a0.fCol, aI a0.fConst.fKind, aI a0.fConst.fInt, aF a0.fConst.fFloat, aS a0.fConst.fText, .pv (encSl R_E_api_Expr a0.fKids)] false, .box [aI ((un_api_Expr x1).fKind), aI ((un_api_Expr x1).fRel), aI ((un_api_Expr x1).fCol), aI (((un_api_Expr x1).fConst).fKind), aI (((un_api_Expr x1).fConst).fInt), aF (((un_api_Expr x1).fConst).fFloat), aS (((un_api_Expr x1).fConst).fText), .pv (encSl R_E_api_Expr ((un_api_Expr x1).fKids))] false, .box [aI ((un_api_Expr x3).fKind), aI ((un_api_Expr x3).fRel), aI ((un_api_Expr x3).fCol), aI (((un_api_Expr x3).fConst).fKind), aI (((un_api_Expr x3).fConst).fInt), aF (((un_api_Expr x3).fConst).fFloat), aS (((un_api_Expr x3).fConst).fText), .pv (encSl R_E_api_Expr ((un_api_Expr x3).fKids))] false, .box ([aI x5.1.fKind, aI x5.1.fNulls, aI x5.1.fDistinct, .pv (encSl R_hist_Bucket x5.1.fHist), .pv (encSl R_api_Value x5.1.fSample)] ++ (aA .u8 64 x5.1.fSketch.fRegs)) false, .box ([aI x7.1.fKind, aI x7.1.fNulls, aI x7.1.fDistinct, .pv (encSl R_hist_Bucket x7.1.fHist), .pv (encSl R_api_Value x7.1.fSample)] ++ (aA .u8 64 x7.1.fSketch.fRegs)) false] (by kernel_rfl) (sq (bq ?_)))
  refine sq (rg (s1 2 [(37, aB x5.2.2), (36, aB x5.2.2)] ?_))
  refine segP x5.2.2 [37, 36, 9] (fun b => [(39, aB (b && x7.2.2)), (38, ifA b (aB x7.2.2) (.undef))]) 2 (by kernel_rfl) (by kernel_rfl) (by kernel_rfl) (f1 1 [(2, .ptr 0 0), (5, .ptr 1 0), (6, .ptr 2 0), (7, .ptr 3 0), (8, aI x5.2.1), (9, aB x5.2.2), (10, .ptr 4 0), (11, aI x7.2.1), (12, aB x7.2.2), (35, aB (x5.2.2 && x7.2.2))] ?_)
  rcases bif_some hm with ⟨h9, hm⟩ | ⟨h9, hm⟩
  ·
   refine c1 h9 (sq (rgd (shd 7 [(46, aI (if x7.1.fDistinct > x5.1.fDistinct then x7.1.fDistinct else x5.1.fDistinct)), (45, aI x7.1.fDistinct), (44, .ptr 4 2), (43, aI x5.1.fDistinct), (42, .ptr 3 2), (41, aI a0.fKind), (40, .ptr 0 0)] (by kernel_rfl) ?_)))
   obtain ⟨x10, h11, hm⟩ := bs hm
   refine dvd 47 (cpure (by kernel_rfl) (ok_guess_one h11) (by kernel_rfl) (by kernel_rfl) (by kernel_rfl)) (by kernel_rfl) ?_
   obtain ⟨x12, h13, hm⟩ := bs hm
   refine dvd 48 (cpure (by kernel_rfl) (ok_guess_blind h13) (by kernel_rfl) (by kernel_rfl) (by kernel_rfl)) (by kernel_rfl) (shd 1 [(4, aU x12)] (by kernel_rfl) (find [(4, aU x12)] rfl (by kernel_rfl) (by kernel_rfl) (wp_ret ?_)))
   obtain rfl := Option.some.inj hm
   exact ⟨trivial, by kernel_rfl⟩
  ·
   refine c0 h9 ?_
   obtain ⟨k15, hk15, hm⟩ := withK_some hm
   refine mid (fun t H => (∃ (y14 : Bool), k15 y14 = some r ∧ t = mk 113 [(2, .ptr 0 0), (5, .ptr 1 0), (6, .ptr 2 0), (7, .ptr 3 0), (8, aI x5.2.1), (9, aB x5.2.2), (10, .ptr 4 0), (11, aI x7.2.1), (12, aB x7.2.2), (49, aB y14)] ∧ H = [.box [aI a0.fKind, aI a0.fRel, aI a0.fCol, aI a0.fConst.fKind, aI a0.fConst.fInt, aF a0.fConst.fFloat, aS a0.fConst.fText, .pv (encSl R_E_api_Expr a0.fKids)] false, .box [aI ((un_api_Expr x1).fKind), aI ((un_api_Expr x1).fRel), aI ((un_api_Expr x1).fCol), aI (((un_api_Expr x1).fConst).fKind), aI (((un_api_Expr x1).fConst).fInt), aF (((un_api_Expr x1).fConst).fFloat), aS (((un_api_Expr x1).fConst).fText), .pv (encSl R_E_api_Expr ((un_api_Expr x1).fKids))] false, .box [aI ((un_api_Expr x3).fKind), aI ((un_api_Expr x3).fRel), aI ((un_api_Expr x3).fCol), aI (((un_api_Expr x3).fConst).fKind), aI (((un_api_Expr x3).fConst).fInt), aF (((un_api_Expr x3).fConst).fFloat), aS (((un_api_Expr x3).fConst).fText), .pv (encSl R_E_api_Expr ((un_api_Expr x3).fKids))] false, .box ([aI x5.1.fKind, aI x5.1.fNulls, aI x5.1.fDistinct, .pv (encSl R_hist_Bucket x5.1.fHist), .pv (encSl R_api_Value x5.1.fSample)] ++ (aA .u8 64 x5.1.fSketch.fRegs)) false, .box ([aI x7.1.fKind, aI x7.1.fNulls, aI x7.1.fDistinct, .pv (encSl R_hist_Bucket x7.1.fHist), .pv (encSl R_api_Value x7.1.fSample)] ++ (aA .u8 64 x7.1.fSketch.fRegs)) false])) ?_ ?_
   ·
    rintro _ _ ⟨y14, hm, rfl, rfl⟩
    subst hk15
    rcases bif_some hm with ⟨h16, hm⟩ | ⟨h16, hm⟩
    ·
     refine c1 h16 (sq (dn [(4, aU 0)] (wp_ret ?_)))
     obtain rfl := Option.some.inj hm
     exact ⟨trivial, by kernel_rfl⟩
    ·
     refine c0 h16 ?_
     refine sq (rg (s1 2 [(76, aB x5.2.2), (75, aB x5.2.2)] ?_))
     refine segP x5.2.2 [76, 75, 9] (fun b => [(80, aB (b && (((un_api_Expr x3).fKind) == 2))), (79, ifA b (aB (((un_api_Expr x3).fKind) == 2)) (.undef)), (78, ifA b (aI ((un_api_Expr x3).fKind)) (.undef)), (77, ifA b (.ptr 2 0) (.undef))]) 4 (by kernel_rfl) (by kernel_rfl) (by kernel_rfl) (f1 1 [(2, .ptr 0 0), (5, .ptr 1 0), (6, .ptr 2 0), (7, .ptr 3 0), (8, aI x5.2.1), (10, .ptr 4 0), (11, aI x7.2.1), (12, aB x7.2.2), (74, aB (x5.2.2 && (((un_api_Expr x3).fKind) == 2)))] ?_)
     rcases bif_some hm with ⟨h17, hm⟩ | ⟨h17, hm⟩
     ·
      refine c1 h17 (sq (rgd (shd 5 [(85, .agg [aI (((un_api_Expr x3).fConst).fKind), aI (((un_api_Expr x3).fConst).fInt), aF (((un_api_Expr x3).fConst).fFloat), aS (((un_api_Expr x3).fConst).fText)]), (84, .ptr 2 3), (83, .agg ([aI x5.1.fKind, aI x5.1.fNulls, aI x5.1.fDistinct, .pv (encSl R_hist_Bucket x5.1.fHist), .pv (encSl R_api_Value x5.1.fSample)] ++ (aA .u8 64 x5.1.fSketch.fRegs))), (82, aI a0.fKind), (81, .ptr 0 0)] (by kernel_rfl) ?_)))
      obtain ⟨x18, h19, hm⟩ := bs hm
      refine dvd 86 (cpure (by kernel_rfl) (ok_guess_against h19) (by kernel_rfl) (by kernel_rfl) (by kernel_rfl)) (by kernel_rfl) (shd 2 [(88, aI x5.2.1), (87, .agg ([aI x5.1.fKind, aI x5.1.fNulls, aI x5.1.fDistinct, .pv (encSl R_hist_Bucket x5.1.fHist), .pv (encSl R_api_Value x5.1.fSample)] ++ (aA .u8 64 x5.1.fSketch.fRegs)))] (by kernel_rfl) ?_)
      obtain ⟨x20, h21, hm⟩ := bs hm
      refine dvd 89 (cpure (by kernel_rfl) (ok_guess_nulls h21) (by kernel_rfl) (by kernel_rfl) (by kernel_rfl)) (by kernel_rfl) ?_
      obtain ⟨x22, h23, hm⟩ := bs hm
      refine dvd 90 (cpure (by kernel_rfl) (ok_fixed_Inverse h23) (by kernel_rfl) (by kernel_rfl) (by kernel_rfl)) (by kernel_rfl) ?_
      obtain ⟨x24, h25, hm⟩ := bs hm
      refine dvd 91 (cpure (by kernel_rfl) (ok_fixed_Scale h25) (by kernel_rfl) (by kernel_rfl) (by kernel_rfl)) (by kernel_rfl) (shd 1 [(4, aU x24)] (by kernel_rfl) (find [(4, aU x24)] rfl (by kernel_rfl) (by kernel_rfl) (wp_ret ?_)))
      obtain rfl := Option.some.inj hm
      exact ⟨trivial, by kernel_rfl⟩
     ·
      refine c0 h17 ?_
      refine sq (rg (s1 2 [(94, aB x7.2.2), (93, aB x7.2.2)] ?_))
      refine segP x7.2.2 [94, 93, 12] (fun b => [(98, aB (b && (((un_api_Expr x1).fKind) == 2))), (97, ifA b (aB (((un_api_Expr x1).fKind) == 2)) (.undef)), (96, ifA b (aI ((un_api_Expr x1).fKind)) (.undef)), (95, ifA b (.ptr 1 0) (.undef))]) 4 (by kernel_rfl) (by kernel_rfl) (by kernel_rfl) (f1 1 [(2, .ptr 0 0), (5, .ptr 1 0), (10, .ptr 4 0), (11, aI x7.2.1), (92, aB (x7.2.2 && (((un_api_Expr x1).fKind) == 2)))] ?_)
      rcases bif_some hm with ⟨h26, hm⟩ | ⟨h26, hm⟩
      ·
       refine c1 h26 (sq (rgd (shd 5 [(103, .agg [aI (((un_api_Expr x1).fConst).fKind), aI (((un_api_Expr x1).fConst).fInt), aF (((un_api_Expr x1).fConst).fFloat), aS (((un_api_Expr x1).fConst).fText)]), (102, .ptr 1 3), (101, .agg ([aI x7.1.fKind, aI x7.1.fNulls, aI x7.1.fDistinct, .pv (encSl R_hist_Bucket x7.1.fHist), .pv (encSl R_api_Value x7.1.fSample)] ++ (aA .u8 64 x7.1.fSketch.fRegs))), (100, aI a0.fKind), (99, .ptr 0 0)] (by kernel_rfl) ?_)))
       obtain ⟨x27, h28, hm⟩ := bs hm
       refine dvd 104 (cpure (by kernel_rfl) (ok_guess_against h28) (by kernel_rfl) (by kernel_rfl) (by kernel_rfl)) (by kernel_rfl) (shd 2 [(106, aI x7.2.1), (105, .agg ([aI x7.1.fKind, aI x7.1.fNulls, aI x7.1.fDistinct, .pv (encSl R_hist_Bucket x7.1.fHist), .pv (encSl R_api_Value x7.1.fSample)] ++ (aA .u8 64 x7.1.fSketch.fRegs)))] (by kernel_rfl) ?_)
       obtain ⟨x29, h30, hm⟩ := bs hm
       refine dvd 107 (cpure (by kernel_rfl) (ok_guess_nulls h30) (by kernel_rfl) (by kernel_rfl) (by kernel_rfl)) (by kernel_rfl) ?_
       obtain ⟨x31, h32, hm⟩ := bs hm
       refine dvd 108 (cpure (by kernel_rfl) (ok_fixed_Inverse h32) (by kernel_rfl) (by kernel_rfl) (by kernel_rfl)) (by kernel_rfl) ?_
       obtain ⟨x33, h34, hm⟩ := bs hm
       refine dvd 109 (cpure (by kernel_rfl) (ok_fixed_Scale h34) (by kernel_rfl) (by kernel_rfl) (by kernel_rfl)) (by kernel_rfl) (shd 1 [(4, aU x33)] (by kernel_rfl) (find [(4, aU x33)] rfl (by kernel_rfl) (by kernel_rfl) (wp_ret ?_)))
       obtain rfl := Option.some.inj hm
       exact ⟨trivial, by kernel_rfl⟩
      ·
       refine c0 h26 (wp_skip (sq (rg (s1 2 [(111, aI a0.fKind), (110, .ptr 0 0)] ?_))))
       obtain ⟨x35, h36, hm⟩ := bs hm
       refine dv 112 (cpure (by kernel_rfl) (ok_guess_blind h36) (by kernel_rfl) (by kernel_rfl) (by kernel_rfl)) (by kernel_rfl) (f1 1 [(4, aU x35)] (wp_ret ?_))
       obtain rfl := Option.some.inj hm
       exact ⟨trivial, by kernel_rfl⟩
   refine sq (rg (s1 2 [(51, aB x5.2.2), (50, aB x5.2.2)] ?_))
   refine segP x5.2.2 [51, 50, 9] (fun b => [(55, aB (b && (((un_api_Expr x3).fKind) == 2))), (54, ifA b (aB (((un_api_Expr x3).fKind) == 2)) (.undef)), (53, ifA b (aI ((un_api_Expr x3).fKind)) (.undef)), (52, ifA b (.ptr 2 0) (.undef))]) 4 (by kernel_rfl) (by kernel_rfl) (by kernel_rfl) (s1 1 [(56, aB (x5.2.2 && (((un_api_Expr x3).fKind) == 2)))] ?_)
   refine segP (x5.2.2 && (((un_api_Expr x3).fKind) == 2)) [56, 55] (fun b => [(61, aB (b && ((((un_api_Expr x3).fConst).fKind) == 0))), (60, ifA b (aB ((((un_api_Expr x3).fConst).fKind) == 0)) (.undef)), (59, ifA b (aI (((un_api_Expr x3).fConst).fKind)) (.undef)), (58, ifA b (.ptr 2 3) (.undef)), (57, ifA b (.ptr 2 3) (.undef))]) 5 (by kernel_rfl) (by kernel_rfl) (by kernel_rfl) (f1 1 [(2, .ptr 0 0), (5, .ptr 1 0), (6, .ptr 2 0), (7, .ptr 3 0), (8, aI x5.2.1), (9, aB x5.2.2), (10, .ptr 4 0), (11, aI x7.2.1), (12, aB x7.2.2), (49, aB ((x5.2.2 && (((un_api_Expr x3).fKind) == 2)) && ((((un_api_Expr x3).fConst).fKind) == 0)))] ?_)
   rcases bif_some hm with ⟨h37, hm⟩ | ⟨h37, hm⟩
   ·
    refine c1 h37 (wp_skip ?_)
    exact ⟨((x5.2.2 && (((un_api_Expr x3).fKind) == 2)) && ((((un_api_Expr x3).fConst).fKind) == 0)), hm, rfl, rfl⟩
   ·
    refine c0 h37 (rg (s1 2 [(63, aB x7.2.2), (62, aB x7.2.2)] ?_))
    refine segP x7.2.2 [63, 62, 12] (fun b => [(67, aB (b && (((un_api_Expr x1).fKind) == 2))), (66, ifA b (aB (((un_api_Expr x1).fKind) == 2)) (.undef)), (65, ifA b (aI ((un_api_Expr x1).fKind)) (.undef)), (64, ifA b (.ptr 1 0) (.undef))]) 4 (by kernel_rfl) (by kernel_rfl) (by kernel_rfl) (s1 1 [(68, aB (x7.2.2 && (((un_api_Expr x1).fKind) == 2)))] ?_)
    refine segP (x7.2.2 && (((un_api_Expr x1).fKind) == 2)) [68, 67] (fun b => [(73, aB (b && ((((un_api_Expr x1).fConst).fKind) == 0))), (72, ifA b (aB ((((un_api_Expr x1).fConst).fKind) == 0)) (.undef)), (71, ifA b (aI (((un_api_Expr x1).fConst).fKind)) (.undef)), (70, ifA b (.ptr 1 3) (.undef)), (69, ifA b (.ptr 1 3) (.undef))]) 5 (by kernel_rfl) (by kernel_rfl) (by kernel_rfl) (f1 1 [(2, .ptr 0 0), (5, .ptr 1 0), (6, .ptr 2 0), (7, .ptr 3 0), (8, aI x5.2.1), (9, aB x5.2.2), (10, .ptr 4 0), (11, aI x7.2.1), (12, aB x7.2.2), (49, aB ((x7.2.2 && (((un_api_Expr x1).fKind) == 2)) && ((((un_api_Expr x1).fConst).fKind) == 0)))] ?_)
    exact ⟨((x7.2.2 && (((un_api_Expr x1).fKind) == 2)) && ((((un_api_Expr x1).fConst).fKind) == 0)), hm, rfl, rfl⟩
theorem okf_guess_part {rc_guess_part : (Nat → api_Expr → (Option (List stat_Stat)) → Option (Int))} (ih_guess_part : ∀ {n : Nat} {a0 : api_Expr} {a1 : (Option (List stat_Stat))} {r : Int} (hm : rc_guess_part n a0 a1 = some r), call G n 156 [.agg [aI a0.fKind, aI a0.fRel, aI a0.fCol, aI a0.fConst.fKind, aI a0.fConst.fInt, aF a0.fConst.fFloat, aS a0.fConst.fText, .pv (encSl R_E_api_Expr a0.fKids)], .pv (encSl R_stat_Stat a1)] [] = some (.ret (aU r), [])) {n : Nat} {a0 : api_Expr} {a1 : (Option (List stat_Stat))} {r : Int} (hm : guess_part_f rc_guess_part n a0 a1 = some r) :
    call G n 156 [.agg [aI a0.fKind, aI a0.fRel, aI a0.fCol, aI a0.fConst.fKind, aI a0.fConst.fInt, aF a0.fConst.fFloat, aS a0.fConst.fText, .pv (encSl R_E_api_Expr a0.fKids)], .pv (encSl R_stat_Stat a1)] [] = some (.ret (aU r), []) := by
  unfold guess_part_f at hm
  obtain ⟨n, rfl, h0⟩ := at1_some hm
  replace hm := h0; clear h0
  refine callL 85 [(0, .agg [aI a0.fKind, aI a0.fRel, aI a0.fCol, aI a0.fConst.fKind, aI a0.fConst.fInt, aF a0.fConst.fFloat, aS a0.fConst.fText, .pv (encSl R_E_api_Expr a0.fKids)]), (1, .pv (encSl R_stat_Stat a1))] func156 rfl (by kernel_rfl) (sq (det [(1, .pv (encSl R_stat_Stat a1)), (2, .ptr 0 0)] [.box [aI a0.fKind, aI a0.fRel, aI a0.fCol, aI a0.fConst.fKind, aI a0.fConst.fInt, aF a0.fConst.fFloat, aS a0.fConst.fText, .pv (encSl R_E_api_Expr a0.fKids)] false] (by kernel_rfl) (sq (sq (dn [(1, .pv (encSl R_stat_Stat a1)), (2, .ptr 0 0), (11, aI a0.fKind)] (bq ?_))))))
  obtain ⟨k1, hk1, hm⟩ := withK_some hm
  refine mid (fun t H => (k1 () = some r ∧ t = mk 85 [(1, .pv (encSl R_stat_Stat a1)), (2, .ptr 0 0), (24, aB (a0.fKind == 13))] ∧ H = [.box [aI a0.fKind, aI a0.fRel, aI a0.fCol, aI a0.fConst.fKind, aI a0.fConst.fInt, aF a0.fConst.fFloat, aS a0.fConst.fText, .pv (encSl R_E_api_Expr a0.fKids)] false])) ?_ ?_
  ·
   rintro _ _ ⟨hm, rfl, rfl⟩
   subst hk1
   refine sq (sq (sq (rg (s1 2 [(73, .pv (encSl R_E_api_Expr a0.fKids)), (72, .ptr 0 7)] ?_))))
   obtain ⟨x2, h3, hm⟩ := bs hm
   refine dv 74 (v := .pv (.ptr (R_api_Expr (un_api_Expr x2)) 0)) (ia_slE R_E_api_Expr a0.fKids .i64 t23 t49 h3 (R_un_api_Expr x2) rfl (by kernel_rfl)) (by kernel_rfl) (s1 2 [(76, .pv (encSl R_stat_Stat a1)), (75, .agg [aI ((un_api_Expr x2).fKind), aI ((un_api_Expr x2).fRel), aI ((un_api_Expr x2).fCol), aI (((un_api_Expr x2).fConst).fKind), aI (((un_api_Expr x2).fConst).fInt), aF (((un_api_Expr x2).fConst).fFloat), aS (((un_api_Expr x2).fConst).fText), .pv (encSl R_E_api_Expr ((un_api_Expr x2).fKids))])] ?_)
   obtain ⟨x4, h5, hm⟩ := bs hm
   refine dv 77 (cpure (by kernel_rfl) (ok_guess_column h5) (by kernel_rfl) (by kernel_rfl) (by kernel_rfl)) (by kernel_rfl) (stf 8 [(7, .ptr 1 0), (8, aI x4.2.1), (9, aB x4.2.2)] [.box [aI a0.fKind, aI a0.fRel, aI a0.fCol, aI a0.fConst.fKind, aI a0.fConst.fInt, aF a0.fConst.fFloat, aS a0.fConst.fText, .pv (encSl R_E_api_Expr a0.fKids)] false, .box ([aI x4.1.fKind, aI x4.1.fNulls, aI x4.1.fDistinct, .pv (encSl R_hist_Bucket x4.1.fHist), .pv (encSl R_api_Value x4.1.fSample)] ++ (aA .u8 64 x4.1.fSketch.fRegs)) false] (by kernel_rfl) (sq (dn [(7, .ptr 1 0), (8, aI x4.2.1), (81, aB x4.2.2)] ?_)))
   rcases bif_some hm with ⟨h6, hm⟩ | ⟨h6, hm⟩
   ·
    refine c1 h6 (sq (rg (s1 2 [(83, aI x4.2.1), (82, .agg ([aI x4.1.fKind, aI x4.1.fNulls, aI x4.1.fDistinct, .pv (encSl R_hist_Bucket x4.1.fHist), .pv (encSl R_api_Value x4.1.fSample)] ++ (aA .u8 64 x4.1.fSketch.fRegs)))] ?_)))
    obtain ⟨x7, h8, hm⟩ := bs hm
    refine dv 84 (cpure (by kernel_rfl) (ok_guess_nulls h8) (by kernel_rfl) (by kernel_rfl) (by kernel_rfl)) (by kernel_rfl) (f1 1 [(4, aU x7)] (wp_ret ?_))
    obtain rfl := Option.some.inj hm
    exact ⟨trivial, by kernel_rfl⟩
   ·
    refine c0 h6 (wp_skip (sq (dn [(4, aU 104857)] (wp_ret ?_))))
    obtain rfl := Option.some.inj hm
    exact ⟨trivial, by kernel_rfl⟩
  refine bq (sq (bq (bq ?_)))
  refine sq (bq ?_)
  obtain ⟨k10, hk10, hm⟩ := withK_some hm
  refine mid (fun t H => (∃ (y9 : Bool), k10 () = some r ∧ t = mk 85 [(1, .pv (encSl R_stat_Stat a1)), (2, .ptr 0 0), (11, aI a0.fKind), (14, aB y9)] ∧ H = [.box [aI a0.fKind, aI a0.fRel, aI a0.fCol, aI a0.fConst.fKind, aI a0.fConst.fInt, aF a0.fConst.fFloat, aS a0.fConst.fText, .pv (encSl R_E_api_Expr a0.fKids)] false])) ?_ ?_
  ·
   rintro _ _ ⟨y9, hm, rfl, rfl⟩
   subst hk10
   refine sq (sq (rgd (shd 2 [(37, .pv (encSl R_E_api_Expr a0.fKids)), (36, .ptr 0 7)] (by kernel_rfl) ?_)))
   obtain ⟨x11, h12, hm⟩ := bs hm
   refine dvd 38 (v := .pv (.ptr (R_api_Expr (un_api_Expr x11)) 0)) (ia_slE R_E_api_Expr a0.fKids .i64 t23 t49 h12 (R_un_api_Expr x11) rfl (by kernel_rfl)) (by kernel_rfl) (shd 2 [(40, .pv (encSl R_stat_Stat a1)), (39, .agg [aI ((un_api_Expr x11).fKind), aI ((un_api_Expr x11).fRel), aI ((un_api_Expr x11).fCol), aI (((un_api_Expr x11).fConst).fKind), aI (((un_api_Expr x11).fConst).fInt), aF (((un_api_Expr x11).fConst).fFloat), aS (((un_api_Expr x11).fConst).fText), .pv (encSl R_E_api_Expr ((un_api_Expr x11).fKids))])] (by kernel_rfl) ?_)
   obtain ⟨x13, h14, hm⟩ := bs hm
   refine dvd 41 (cpure (by kernel_rfl) (ih_guess_part h14) (by kernel_rfl) (by kernel_rfl) (by kernel_rfl)) (by kernel_rfl) (shd 2 [(43, .pv (encSl R_E_api_Expr a0.fKids)), (42, .ptr 0 7)] (by kernel_rfl) ?_)
   obtain ⟨x15, h16, hm⟩ := bs hm
   refine dvd 44 (v := .pv (.ptr (R_api_Expr (un_api_Expr x15)) 0)) (ia_slE R_E_api_Expr a0.fKids .i64 t23 t49 h16 (R_un_api_Expr x15) rfl (by kernel_rfl)) (by kernel_rfl) (shd 2 [(46, .pv (encSl R_stat_Stat a1)), (45, .agg [aI ((un_api_Expr x15).fKind), aI ((un_api_Expr x15).fRel), aI ((un_api_Expr x15).fCol), aI (((un_api_Expr x15).fConst).fKind), aI (((un_api_Expr x15).fConst).fInt), aF (((un_api_Expr x15).fConst).fFloat), aS (((un_api_Expr x15).fConst).fText), .pv (encSl R_E_api_Expr ((un_api_Expr x15).fKids))])] (by kernel_rfl) ?_)
   obtain ⟨x17, h18, hm⟩ := bs hm
   refine dvd 47 (cpure (by kernel_rfl) (ih_guess_part h18) (by kernel_rfl) (by kernel_rfl) (by kernel_rfl)) (by kernel_rfl) (shd 2 [(6, aU x17), (5, aU x13)] (by kernel_rfl) (find [(2, .ptr 0 0), (5, aU x13), (6, aU x17)] rfl (by kernel_rfl) (by kernel_rfl) ?_))
   refine sq (sq (dn [(5, aU x13), (6, aU x17), (50, aB (a0.fKind == 10))] ?_))
   rcases bif_some hm with ⟨h19, hm⟩ | ⟨h19, hm⟩
   ·
    refine c1 h19 (sq (rg (s1 2 [(52, aU x17), (51, aU x13)] ?_)))
    obtain ⟨x20, h21, hm⟩ := bs hm
    refine dv 53 (cpure (by kernel_rfl) (ok_fixed_Scale h21) (by kernel_rfl) (by kernel_rfl) (by kernel_rfl)) (by kernel_rfl) (f1 1 [(4, aU x20)] (wp_ret ?_))
    obtain rfl := Option.some.inj hm
    exact ⟨trivial, by kernel_rfl⟩
   ·
    refine c0 h19 (wp_skip (sq (rg (s1 2 [(55, aU x17), (54, aU x13)] ?_))))
    obtain ⟨x22, h23, hm⟩ := bs hm
    refine dv 56 (cpure (by kernel_rfl) (ok_fixed_Add h23) (by kernel_rfl) (by kernel_rfl) (by kernel_rfl)) (by kernel_rfl) (s1 2 [(58, aU x17), (57, aU x13)] ?_)
    obtain ⟨x24, h25, hm⟩ := bs hm
    refine dv 59 (cpure (by kernel_rfl) (ok_fixed_Scale h25) (by kernel_rfl) (by kernel_rfl) (by kernel_rfl)) (by kernel_rfl) ?_
    obtain ⟨x26, h27, hm⟩ := bs hm
    refine dv 60 (cpure (by kernel_rfl) (ok_fixed_Sub h27) (by kernel_rfl) (by kernel_rfl) (by kernel_rfl)) (by kernel_rfl) (f1 1 [(4, aU x26)] (wp_ret ?_))
    obtain rfl := Option.some.inj hm
    exact ⟨trivial, by kernel_rfl⟩
  refine bq ?_
  refine sq (bq (sq ?_))
  refine sq (sq (dn [(1, .pv (encSl R_stat_Stat a1)), (2, .ptr 0 0), (11, aI a0.fKind), (12, aB (a0.fKind == 2))] ?_))
  rcases bif_some hm with ⟨h28, hm⟩ | ⟨h28, hm⟩
  ·
   refine c1 h28 (wp_exit (sq (sq (sq (rg (s1 5 [(30, aB (a0.fConst.fKind == 1)), (29, aB (a0.fConst.fKind == 1)), (28, aI a0.fConst.fKind), (27, .ptr 0 3), (26, .ptr 0 3)] ?_))))))
   refine segP (a0.fConst.fKind == 1) [30, 29] (fun b => [(35, aB (b && (a0.fConst.fInt == 1))), (34, ifA b (aB (a0.fConst.fInt == 1)) (.undef)), (33, ifA b (aI a0.fConst.fInt) (.undef)), (32, ifA b (.ptr 0 4) (.undef)), (31, ifA b (.ptr 0 3) (.undef))]) 5 (by kernel_rfl) (by kernel_rfl) (by kernel_rfl) (fin [(35, aB ((a0.fConst.fKind == 1) && (a0.fConst.fInt == 1)))] rfl (by kernel_rfl) ?_)
   rcases bif_some hm with ⟨h29, hm⟩ | ⟨h29, hm⟩
   ·
    refine c1 h29 (sq (dn [(4, aU 1048576)] (wp_ret ?_)))
    obtain rfl := Option.some.inj hm
    exact ⟨trivial, by kernel_rfl⟩
   ·
    refine c0 h29 (wp_skip (sq (dn [(4, aU 0)] (wp_ret ?_))))
    obtain rfl := Option.some.inj hm
    exact ⟨trivial, by kernel_rfl⟩
  ·
   refine c0 h28 (wp_skip ?_)
   obtain ⟨k31, hk31, hm⟩ := withK_some hm
   refine mid (fun t H => (∃ (y30 : Bool), k31 () = some r ∧ t = mk 85 [(1, .pv (encSl R_stat_Stat a1)), (2, .ptr 0 0), (11, aI a0.fKind), (14, aB y30)] ∧ H = [.box [aI a0.fKind, aI a0.fRel, aI a0.fCol, aI a0.fConst.fKind, aI a0.fConst.fInt, aF a0.fConst.fFloat, aS a0.fConst.fText, .pv (encSl R_E_api_Expr a0.fKids)] false])) ?_ ?_
   ·
    rintro _ _ ⟨y30, hm, rfl, rfl⟩
    subst hk31
    refine sq (sq (dn [(1, .pv (encSl R_stat_Stat a1)), (2, .ptr 0 0), (11, aI a0.fKind), (17, aB (a0.fKind == 12))] ?_))
    rcases bif_some hm with ⟨h32, hm⟩ | ⟨h32, hm⟩
    ·
     refine c1 h32 (wp_exit (sq (sq (rg (s1 2 [(62, .pv (encSl R_E_api_Expr a0.fKids)), (61, .ptr 0 7)] ?_)))))
     obtain ⟨x33, h34, hm⟩ := bs hm
     refine dv 63 (v := .pv (.ptr (R_api_Expr (un_api_Expr x33)) 0)) (ia_slE R_E_api_Expr a0.fKids .i64 t23 t49 h34 (R_un_api_Expr x33) rfl (by kernel_rfl)) (by kernel_rfl) (s1 2 [(65, .pv (encSl R_stat_Stat a1)), (64, .agg [aI ((un_api_Expr x33).fKind), aI ((un_api_Expr x33).fRel), aI ((un_api_Expr x33).fCol), aI (((un_api_Expr x33).fConst).fKind), aI (((un_api_Expr x33).fConst).fInt), aF (((un_api_Expr x33).fConst).fFloat), aS (((un_api_Expr x33).fConst).fText), .pv (encSl R_E_api_Expr ((un_api_Expr x33).fKids))])] ?_)
     obtain ⟨x35, h36, hm⟩ := bs hm
     refine dv 66 (cpure (by kernel_rfl) (ih_guess_part h36) (by kernel_rfl) (by kernel_rfl) (by kernel_rfl)) (by kernel_rfl) ?_
     obtain ⟨x37, h38, hm⟩ := bs hm
     refine dv 67 (cpure (by kernel_rfl) (ok_fixed_Inverse h38) (by kernel_rfl) (by kernel_rfl) (by kernel_rfl)) (by kernel_rfl) (f1 1 [(4, aU x37)] (wp_ret ?_))
     obtain rfl := Option.some.inj hm
     exact ⟨trivial, by kernel_rfl⟩
    ·
     refine c0 h32 (wp_skip (sq (sq (dn [(1, .pv (encSl R_stat_Stat a1)), (2, .ptr 0 0), (11, aI a0.fKind), (19, aB (a0.fKind == 7))] ?_))))
     rcases bif_some hm with ⟨h39, hm⟩ | ⟨h39, hm⟩
     ·
      refine c1 h39 (wp_exit (sq (sq (rg (s1 2 [(69, .pv (encSl R_stat_Stat a1)), (68, .agg [aI a0.fKind, aI a0.fRel, aI a0.fCol, aI a0.fConst.fKind, aI a0.fConst.fInt, aF a0.fConst.fFloat, aS a0.fConst.fText, .pv (encSl R_E_api_Expr a0.fKids)])] ?_)))))
      obtain ⟨x40, h41, hm⟩ := bs hm
      refine dv 70 (cpure (by kernel_rfl) (ok_guess_compared h41) (by kernel_rfl) (by kernel_rfl) (by kernel_rfl)) (by kernel_rfl) (f1 1 [(4, aU x40)] (wp_ret ?_))
      obtain rfl := Option.some.inj hm
      exact ⟨trivial, by kernel_rfl⟩
     ·
      refine c0 h39 (wp_skip (sq (sq (sq (dn [(1, .pv (encSl R_stat_Stat a1)), (2, .ptr 0 0), (11, aI a0.fKind), (21, aB (a0.fKind == 8))] ?_)))))
      rcases bif_some hm with ⟨h42, hm⟩ | ⟨h42, hm⟩
      ·
       refine c1 h42 (wp_skip ?_)
       rcases bif_some hm with ⟨h43, hm⟩ | ⟨h43, hm⟩
       ·
        refine c1 h43 (wp_exit (sq (sq (rg (s1 2 [(69, .pv (encSl R_stat_Stat a1)), (68, .agg [aI a0.fKind, aI a0.fRel, aI a0.fCol, aI a0.fConst.fKind, aI a0.fConst.fInt, aF a0.fConst.fFloat, aS a0.fConst.fText, .pv (encSl R_E_api_Expr a0.fKids)])] ?_)))))
        obtain ⟨x44, h45, hm⟩ := bs hm
        refine dv 70 (cpure (by kernel_rfl) (ok_guess_compared h45) (by kernel_rfl) (by kernel_rfl) (by kernel_rfl)) (by kernel_rfl) (f1 1 [(4, aU x44)] (wp_ret ?_))
        obtain rfl := Option.some.inj hm
        exact ⟨trivial, by kernel_rfl⟩
       ·
        refine c0 h43 (wp_skip (sq (dn [(1, .pv (encSl R_stat_Stat a1)), (2, .ptr 0 0), (24, aB (a0.fKind == 13))] ?_)))
        rcases bif_some hm with ⟨h46, hm⟩ | ⟨h46, hm⟩
        ·
         refine c1 h46 (wp_exit ?_)
         exact ⟨hm, rfl, rfl⟩
        ·
         refine c0 h46 (wp_skip (wp_exit (sq (dn [(4, aU 524288)] (wp_ret ?_)))))
         obtain rfl := Option.some.inj hm
         exact ⟨trivial, by kernel_rfl⟩
      ·
       refine c0 h42 (dn [(1, .pv (encSl R_stat_Stat a1)), (2, .ptr 0 0), (11, aI a0.fKind), (21, aB (a0.fKind == 9))] ?_)
       rcases bif_some hm with ⟨h47, hm⟩ | ⟨h47, hm⟩
       ·
        refine c1 h47 (wp_exit (sq (sq (rg (s1 2 [(69, .pv (encSl R_stat_Stat a1)), (68, .agg [aI a0.fKind, aI a0.fRel, aI a0.fCol, aI a0.fConst.fKind, aI a0.fConst.fInt, aF a0.fConst.fFloat, aS a0.fConst.fText, .pv (encSl R_E_api_Expr a0.fKids)])] ?_)))))
        obtain ⟨x48, h49, hm⟩ := bs hm
        refine dv 70 (cpure (by kernel_rfl) (ok_guess_compared h49) (by kernel_rfl) (by kernel_rfl) (by kernel_rfl)) (by kernel_rfl) (f1 1 [(4, aU x48)] (wp_ret ?_))
        obtain rfl := Option.some.inj hm
        exact ⟨trivial, by kernel_rfl⟩
       ·
        refine c0 h47 (wp_skip (sq (dn [(1, .pv (encSl R_stat_Stat a1)), (2, .ptr 0 0), (24, aB (a0.fKind == 13))] ?_)))
        rcases bif_some hm with ⟨h50, hm⟩ | ⟨h50, hm⟩
        ·
         refine c1 h50 (wp_exit ?_)
         exact ⟨hm, rfl, rfl⟩
        ·
         refine c0 h50 (wp_skip (wp_exit (sq (dn [(4, aU 524288)] (wp_ret ?_)))))
         obtain rfl := Option.some.inj hm
         exact ⟨trivial, by kernel_rfl⟩
   refine sq (sq (dn [(1, .pv (encSl R_stat_Stat a1)), (2, .ptr 0 0), (11, aI a0.fKind), (14, aB (a0.fKind == 10))] ?_))
   rcases bif_some hm with ⟨h51, hm⟩ | ⟨h51, hm⟩
   ·
    refine c1 h51 (wp_skip ?_)
    rcases bif_some hm with ⟨h52, hm⟩ | ⟨h52, hm⟩
    ·
     refine c1 h52 (wp_exit ?_)
     exact ⟨(a0.fKind == 10), hm, rfl, rfl⟩
    ·
     refine c0 h52 (wp_skip ?_)
     exact ⟨(a0.fKind == 10), hm, rfl, rfl⟩
   ·
    refine c0 h51 (dn [(1, .pv (encSl R_stat_Stat a1)), (2, .ptr 0 0), (11, aI a0.fKind), (14, aB (a0.fKind == 11))] ?_)
    rcases bif_some hm with ⟨h53, hm⟩ | ⟨h53, hm⟩
    ·
     refine c1 h53 (wp_exit ?_)
     exact ⟨(a0.fKind == 11), hm, rfl, rfl⟩
    ·
     refine c0 h53 (wp_skip ?_)
     exact ⟨(a0.fKind == 11), hm, rfl, rfl⟩
theorem okt_guess_part : ∀ (m : Nat), ∀ {n : Nat} {a0 : api_Expr} {a1 : (Option (List stat_Stat))} {r : Int} (hm : guess_part_t m n a0 a1 = some r), call G n 156 [.agg [aI a0.fKind, aI a0.fRel, aI a0.fCol, aI a0.fConst.fKind, aI a0.fConst.fInt, aF a0.fConst.fFloat, aS a0.fConst.fText, .pv (encSl R_E_api_Expr a0.fKids)], .pv (encSl R_stat_Stat a1)] [] = some (.ret (aU r), [])
  | 0 => by intros; rename_i hm; exact nomatch hm
  | m + 1 => fun hm =>
    okf_guess_part (okt_guess_part m) hm
theorem ok_guess_part {n : Nat} {a0 : api_Expr} {a1 : (Option (List stat_Stat))} {r : Int} (hm : guess_part n a0 a1 = some r) :
    call G n 156 [.agg [aI a0.fKind, aI a0.fRel, aI a0.fCol, aI a0.fConst.fKind, aI a0.fConst.fInt, aF a0.fConst.fFloat, aS a0.fConst.fText, .pv (encSl R_E_api_Expr a0.fKids)], .pv (encSl R_stat_Stat a1)] [] = some (.ret (aU r), []) := okt_guess_part n hm
theorem ok_guess_Part {n : Nat} {a0 : api_Expr} {a1 : (Option (List stat_Stat))} {r : Int} (hm : guess_Part n a0 a1 = some r) :
    call G n 102 [.agg [aI a0.fKind, aI a0.fRel, aI a0.fCol, aI a0.fConst.fKind, aI a0.fConst.fInt, aF a0.fConst.fFloat, aS a0.fConst.fText, .pv (encSl R_E_api_Expr a0.fKids)], .pv (encSl R_stat_Stat a1)] [] = some (.ret (aU r), []) := by
  unfold guess_Part at hm
  obtain ⟨n, rfl, h0⟩ := at1_some hm
  replace hm := h0; clear h0
  refine callL 11 [(0, .agg [aI a0.fKind, aI a0.fRel, aI a0.fCol, aI a0.fConst.fKind, aI a0.fConst.fInt, aF a0.fConst.fFloat, aS a0.fConst.fText, .pv (encSl R_E_api_Expr a0.fKids)]), (1, .pv (encSl R_stat_Stat a1))] func102 rfl (by kernel_rfl) (sq (det [(1, .pv (encSl R_stat_Stat a1)), (2, .ptr 0 0)] [.box [aI a0.fKind, aI a0.fRel, aI a0.fCol, aI a0.fConst.fKind, aI a0.fConst.fInt, aF a0.fConst.fFloat, aS a0.fConst.fText, .pv (encSl R_E_api_Expr a0.fKids)] false] (by kernel_rfl) (sq (sq (rg (s1 1 [(5, .agg [aI a0.fKind, aI a0.fRel, aI a0.fCol, aI a0.fConst.fKind, aI a0.fConst.fInt, aF a0.fConst.fFloat, aS a0.fConst.fText, .pv (encSl R_E_api_Expr a0.fKids)])] ?_))))))
  obtain ⟨x1, h2, hm⟩ := bs hm
  refine dv 6 (cpure (by kernel_rfl) (ok_expr_Formed h2) (by kernel_rfl) (by kernel_rfl) (by kernel_rfl)) (by kernel_rfl) (f1 1 [(1, .pv (encSl R_stat_Stat a1)), (2, .ptr 0 0), (7, aB (!x1))] ?_)
  rcases bif_some hm with ⟨h3, hm⟩ | ⟨h3, hm⟩
  ·
   refine c1 h3 (sq (dn [(4, aU 1048576)] (wp_ret ?_)))
   obtain rfl := Option.some.inj hm
   exact ⟨trivial, by kernel_rfl⟩
  ·
   refine c0 h3 (wp_skip (sq (rg (s1 2 [(9, .pv (encSl R_stat_Stat a1)), (8, .agg [aI a0.fKind, aI a0.fRel, aI a0.fCol, aI a0.fConst.fKind, aI a0.fConst.fInt, aF a0.fConst.fFloat, aS a0.fConst.fText, .pv (encSl R_E_api_Expr a0.fKids)])] ?_))))
   obtain ⟨x4, h5, hm⟩ := bs hm
   refine dv 10 (cpure (by kernel_rfl) (ok_guess_part h5) (by kernel_rfl) (by kernel_rfl) (by kernel_rfl)) (by kernel_rfl) (f1 1 [(4, aU x4)] (wp_ret ?_))
   obtain rfl := Option.some.inj hm
   exact ⟨trivial, by kernel_rfl⟩
theorem ok_guess_Card {n : Nat} {a0 : (Option (List E_api_Expr))} {a1 : (Option (List stat_Stat))} {a2 : Int} {r : Int} (hm : guess_Card n a0 a1 a2 = some r) :
    call G n 22 [.pv (encSl R_E_api_Expr a0), .pv (encSl R_stat_Stat a1), .pv (.int .u32 a2)] [] = some (.ret (aU r), []) := by
  unfold guess_Card at hm
  obtain ⟨n, rfl, h0⟩ := at1_some hm
  replace hm := h0; clear h0
  refine callL 45 [(0, .pv (encSl R_E_api_Expr a0)), (1, .pv (encSl R_stat_Stat a1)), (2, .pv (.int .u32 a2))] func22 rfl (by kernel_rfl) (sq (dn [(0, .pv (encSl R_E_api_Expr a0)), (1, .pv (encSl R_stat_Stat a1)), (2, .pv (.int .u32 a2))] (sq (dn [(0, .pv (encSl R_E_api_Expr a0)), (1, .pv (encSl R_stat_Stat a1)), (2, .pv (.int .u32 a2)), (7, aU 256)] ?_))))
  obtain ⟨k4, hk4, hm⟩ := withK_some hm
  refine mid (fun t H => (∃ (y1 : Int) (y2 : Bool) (y3 : Int), k4 y3 = some r ∧ t = mk 45 [(0, .pv (encSl R_E_api_Expr a0)), (1, .pv (encSl R_stat_Stat a1)), (2, .pv (.int .u32 a2)), (7, aU y3), (11, aI y1), (12, aB y2)] ∧ H = [])) ?_ ?_
  ·
   rintro _ _ ⟨y1, y2, y3, hm, rfl, rfl⟩
   subst hk4
   obtain ⟨k10, hk10, hm⟩ := withK_some hm
   refine mid (fun t H => (∃ (y5 : (Option (List Int))) (y6 : Int) (y7 : Int) (y8 : Bool) (y9 : Int), k10 y9 = some r ∧ t = mk 45 [(0, .pv (encSl R_E_api_Expr a0)), (1, .pv (encSl R_stat_Stat a1)), (7, aU y9), (28, .pv (encSl (rI .i64) y5)), (29, aI y6), (30, aI y7), (31, aB y8)] ∧ H = [])) ?_ ?_
   ·
    rintro _ _ ⟨y5, y6, y7, y8, y9, hm, rfl, rfl⟩
    subst hk10
    refine sq (dn [(6, aU (if 1 > y9 then 1 else y9))] (wp_ret ?_))
    obtain rfl := Option.some.inj hm
    exact ⟨trivial, by kernel_rfl⟩
   refine sq (rg (s1 2 [(27, .pv (.int .u32 a2)), (26, .pv (encSl R_E_api_Expr a0))] ?_))
   obtain ⟨x11, h12, hm⟩ := bs hm
   refine dv 28 (cpure (by kernel_rfl) (ok_guess_Within h12) (by kernel_rfl) (by kernel_rfl) (by kernel_rfl)) (by kernel_rfl) (dv 29 (v := aI ((sll x11).length : Int)) (len_slO (rI .i64) x11 t33 (by kernel_rfl)) (by kernel_rfl) (f1 1 [(0, .pv (encSl R_E_api_Expr a0)), (1, .pv (encSl R_stat_Stat a1)), (7, aU y3), (28, .pv (encSl (rI .i64) x11)), (29, aI ((sll x11).length : Int)), (30, aI 0)] (bq ?_)))
   refine loopF (fun mm t H => (∃ (y15 : Int) (y16 : Int), guess_Card_l9 n a0 a1 k10 x11 mm y15 y16 = some r ∧ t = mk 45 [(0, .pv (encSl R_E_api_Expr a0)), (1, .pv (encSl R_stat_Stat a1)), (7, aU y16), (28, .pv (encSl (rI .i64) x11)), (29, aI ((sll x11).length : Int)), (30, aI y15)] ∧ H = [])) (⟨0, y3, hm, rfl, rfl⟩) ?_ ?_
   · rintro _ _ ⟨y15, y16, hm, _⟩; exact nomatch hm
   rintro m17 _ _ ⟨y15, y16, hm, rfl, rfl⟩
   simp only [guess_Card_l9] at hm
   refine sq (dn [(0, .pv (encSl R_E_api_Expr a0)), (1, .pv (encSl R_stat_Stat a1)), (7, aU y16), (28, .pv (encSl (rI .i64) x11)), (29, aI ((sll x11).length : Int)), (30, aI y15), (31, aB (decide (y15 < ((sll x11).length : Int))))] ?_)
   refine sq ?_
   rcases bif_some hm with ⟨h18, hm⟩ | ⟨h18, hm⟩
   ·
    refine c1 h18 (wp_skip (sq (bq (sq (rg ?_)))))
    obtain ⟨x19, h20, hm⟩ := bs hm
    refine dv 32 (v := .pv (.ptr ((rI .i64) x19) 0)) (ia_slO (rI .i64) x11 .i64 t33 t3 h20 rfl (by kernel_rfl)) (by kernel_rfl) (f1 2 [(0, .pv (encSl R_E_api_Expr a0)), (1, .pv (encSl R_stat_Stat a1)), (7, aU y16), (10, aI x19), (28, .pv (encSl (rI .i64) x11)), (29, aI ((sll x11).length : Int)), (30, aI y15)] (rg (s1 3 [(36, aI x19), (35, .pv (encSl R_E_api_Expr a0)), (34, aU y16)] ?_)))
    obtain ⟨x21, h22, hm⟩ := bs hm
    refine dv 37 (v := .pv (.ptr (R_api_Expr (un_api_Expr x21)) 0)) (ia_slE R_E_api_Expr a0 .i64 t23 t49 h22 (R_un_api_Expr x21) rfl (by kernel_rfl)) (by kernel_rfl) (s1 2 [(39, .pv (encSl R_stat_Stat a1)), (38, .agg [aI ((un_api_Expr x21).fKind), aI ((un_api_Expr x21).fRel), aI ((un_api_Expr x21).fCol), aI (((un_api_Expr x21).fConst).fKind), aI (((un_api_Expr x21).fConst).fInt), aF (((un_api_Expr x21).fConst).fFloat), aS (((un_api_Expr x21).fConst).fText), .pv (encSl R_E_api_Expr ((un_api_Expr x21).fKids))])] ?_)
    obtain ⟨x23, h24, hm⟩ := bs hm
    refine dv 40 (cpure (by kernel_rfl) (ok_guess_Part h24) (by kernel_rfl) (by kernel_rfl) (by kernel_rfl)) (by kernel_rfl) ?_
    obtain ⟨x25, h26, hm⟩ := bs hm
    refine dv 41 (cpure (by kernel_rfl) (ok_fixed_Scale h26) (by kernel_rfl) (by kernel_rfl) (by kernel_rfl)) (by kernel_rfl) (f1 1 [(0, .pv (encSl R_E_api_Expr a0)), (1, .pv (encSl R_stat_Stat a1)), (7, aU x25), (28, .pv (encSl (rI .i64) x11)), (29, aI ((sll x11).length : Int)), (30, aI y15)] (dn [(0, .pv (encSl R_E_api_Expr a0)), (1, .pv (encSl R_stat_Stat a1)), (7, aU x25), (28, .pv (encSl (rI .i64) x11)), (29, aI ((sll x11).length : Int)), (30, aI (IntKind.wrap .i64 (y15 + 1)))] ?_))
    exact ⟨_, _, tidyL [(0, .pv (encSl R_E_api_Expr a0)), (1, .pv (encSl R_stat_Stat a1)), (7, aU x25), (28, .pv (encSl (rI .i64) x11)), (29, aI ((sll x11).length : Int)), (30, aI (IntKind.wrap .i64 (y15 + 1)))] [] (by kernel_rfl), ⟨(IntKind.wrap .i64 (y15 + 1)), x25, hm, rfl, rfl⟩⟩
   ·
    refine c0 h18 (wp_exit ?_)
    exact ⟨x11, ((sll x11).length : Int), y15, (decide (y15 < ((sll x11).length : Int))), y16, hm, rfl, rfl⟩
  refine sq (dn [(0, .pv (encSl R_E_api_Expr a0)), (1, .pv (encSl R_stat_Stat a1)), (2, .pv (.int .u32 a2)), (7, aU 256), (11, aI 0)] (bq ?_))
  refine loopF (fun mm t H => (∃ (y29 : Int) (y30 : Int), guess_Card_l3 n a1 a2 k4 mm y29 y30 = some r ∧ t = mk 45 [(0, .pv (encSl R_E_api_Expr a0)), (1, .pv (encSl R_stat_Stat a1)), (2, .pv (.int .u32 a2)), (7, aU y30), (11, aI y29)] ∧ H = [])) (⟨0, 256, hm, rfl, rfl⟩) ?_ ?_
  · rintro _ _ ⟨y29, y30, hm, _⟩; exact nomatch hm
  rintro m31 _ _ ⟨y29, y30, hm, rfl, rfl⟩
  simp only [guess_Card_l3] at hm
  refine sq (dn [(0, .pv (encSl R_E_api_Expr a0)), (1, .pv (encSl R_stat_Stat a1)), (2, .pv (.int .u32 a2)), (7, aU y30), (11, aI y29), (12, aB (decide (y29 < 32)))] ?_)
  refine sq ?_
  rcases bif_some hm with ⟨h32, hm⟩ | ⟨h32, hm⟩
  ·
   refine c1 h32 (wp_skip (sq (bq (sq (dn [(0, .pv (encSl R_E_api_Expr a0)), (1, .pv (encSl R_stat_Stat a1)), (2, .pv (.int .u32 a2)), (7, aU y30), (8, aI y29), (11, aI y29)] (sq (rg (s1 3 [(16, aU (IntKind.wrap .u64 y29)), (15, aI y29), (14, .pv (.int .u32 a2))] ?_))))))))
   obtain ⟨_, h33, hm⟩ := bs hm
   refine dv 17 (v := .pv (.int .u32 (iShr .u32 a2 (IntKind.wrap .u64 y29)))) (shrO h33 (by kernel_rfl)) (by kernel_rfl) (f1 2 [(0, .pv (encSl R_E_api_Expr a0)), (1, .pv (encSl R_stat_Stat a1)), (2, .pv (.int .u32 a2)), (7, aU y30), (8, aI y29), (11, aI y29), (19, aB ((iAnd .u32 (iShr .u32 a2 (IntKind.wrap .u64 y29)) 1) == 1))] ?_)
   rcases bif_some hm with ⟨h34, hm⟩ | ⟨h34, hm⟩
   ·
    refine c1 h34 (rg (s1 3 [(22, aI y29), (21, .pv (encSl R_stat_Stat a1)), (20, aU y30)] ?_))
    obtain ⟨x35, h36, hm⟩ := bs hm
    refine dv 23 (cpure (by kernel_rfl) (ok_guess_Rows h36) (by kernel_rfl) (by kernel_rfl) (by kernel_rfl)) (by kernel_rfl) ?_
    obtain ⟨x37, h38, hm⟩ := bs hm
    refine dv 24 (cpure (by kernel_rfl) (ok_fixed_Mul h38) (by kernel_rfl) (by kernel_rfl) (by kernel_rfl)) (by kernel_rfl) (f1 1 [(0, .pv (encSl R_E_api_Expr a0)), (1, .pv (encSl R_stat_Stat a1)), (2, .pv (.int .u32 a2)), (7, aU x37), (11, aI y29)] (dn [(0, .pv (encSl R_E_api_Expr a0)), (1, .pv (encSl R_stat_Stat a1)), (2, .pv (.int .u32 a2)), (7, aU x37), (11, aI (IntKind.wrap .i64 (y29 + 1)))] ?_))
    exact ⟨_, _, tidyL [(0, .pv (encSl R_E_api_Expr a0)), (1, .pv (encSl R_stat_Stat a1)), (2, .pv (.int .u32 a2)), (7, aU x37), (11, aI (IntKind.wrap .i64 (y29 + 1)))] [] (by kernel_rfl), ⟨(IntKind.wrap .i64 (y29 + 1)), x37, hm, rfl, rfl⟩⟩
   ·
    refine c0 h34 (wp_skip (dn [(0, .pv (encSl R_E_api_Expr a0)), (1, .pv (encSl R_stat_Stat a1)), (2, .pv (.int .u32 a2)), (7, aU y30), (11, aI (IntKind.wrap .i64 (y29 + 1)))] ?_))
    exact ⟨_, _, tidyL [(0, .pv (encSl R_E_api_Expr a0)), (1, .pv (encSl R_stat_Stat a1)), (2, .pv (.int .u32 a2)), (7, aU y30), (11, aI (IntKind.wrap .i64 (y29 + 1)))] [] (by kernel_rfl), ⟨(IntKind.wrap .i64 (y29 + 1)), y30, hm, rfl, rfl⟩⟩
  ·
   refine c0 h32 (wp_exit ?_)
   exact ⟨y29, (decide (y29 < 32)), y30, hm, rfl, rfl⟩
theorem ok_ref31_up {n : Nat} {a0 : Int} {r : Int} (hm : ref31_up n a0 = some r) :
    call G n 111 [aI a0] [] = some (.ret (aU r), []) := by
  unfold ref31_up at hm
  obtain ⟨n, rfl, h0⟩ := at1_some hm
  replace hm := h0; clear h0
  refine callL 7 [(0, aI a0)] func111 rfl (by kernel_rfl) (sq (dn [(0, aI a0)] (sq (sq (dn [(0, aI a0), (4, aB (decide (a0 < 0)))] ?_)))))
  rcases bif_some hm with ⟨h1, hm⟩ | ⟨h1, hm⟩
  ·
   refine c1 h1 (sq (dn [(2, aU 0)] (wp_ret ?_)))
   obtain rfl := Option.some.inj hm
   exact ⟨trivial, by kernel_rfl⟩
  ·
   refine c0 h1 (wp_skip (sq (dn [(2, aU (IntKind.wrap .u64 a0))] (wp_ret ?_))))
   obtain rfl := Option.some.inj hm
   exact ⟨trivial, by kernel_rfl⟩
theorem ok_ref31_Rows {n : Nat} {a0 : (Option (List tabularyref20_Stat))} {a1 : Int} {r : Int} (hm : ref31_Rows n a0 a1 = some r) :
    call G n 25 [.pv (encSl R_tabularyref20_Stat a0), aI a1] [] = some (.ret (aU r), []) := by
  unfold ref31_Rows at hm
  obtain ⟨n, rfl, h0⟩ := at1_some hm
  replace hm := h0; clear h0
  refine callL 19 [(0, .pv (encSl R_tabularyref20_Stat a0)), (1, aI a1)] func25 rfl (by kernel_rfl) (sq (dn [(0, .pv (encSl R_tabularyref20_Stat a0)), (1, aI a1)] ?_))
  refine sq (sq (rg (s1 3 [(7, aB (decide (a1 < 0))), (6, aB (decide (a1 < 0))), (5, aI a1)] ?_)))
  refine seg (decide (a1 < 0)) [7, 6] (fun b => [(12, aB (b || (decide (a1 ≥ ((sll a0).length : Int))))), (11, ifA b (.undef) (aB (decide (a1 ≥ ((sll a0).length : Int))))), (10, ifA b (.undef) (aI ((sll a0).length : Int))), (9, ifA b (.undef) (.pv (encSl R_tabularyref20_Stat a0))), (8, ifA b (.undef) (aI a1))]) 8 (by kernel_rfl) ?_ ?_ ?_
  ·
   intro Q h
   refine s1 5 [(12, aB true), (11, .undef), (10, .undef), (9, .undef), (8, .undef)] ?_
   exact sameN (by kernel_rfl) (by kernel_rfl) h
  ·
   intro Q h
   refine s1 2 [(9, .pv (encSl R_tabularyref20_Stat a0)), (8, aI a1)] (dv 10 (v := aI ((sll a0).length : Int)) (len_slO R_tabularyref20_Stat a0 t51 (by kernel_rfl)) (by kernel_rfl) (s1 2 [(12, aB (decide (a1 ≥ ((sll a0).length : Int)))), (11, aB (decide (a1 ≥ ((sll a0).length : Int))))] ?_))
   exact sameN (by kernel_rfl) (by kernel_rfl) h
  refine fin [(0, .pv (encSl R_tabularyref20_Stat a0)), (1, aI a1), (12, aB ((decide (a1 < 0)) || (decide (a1 ≥ ((sll a0).length : Int)))))] rfl (by kernel_rfl) ?_
  rcases bif_some hm with ⟨h1, hm⟩ | ⟨h1, hm⟩
  ·
   refine c1 h1 (sq (dn [(4, aU 0)] (wp_ret ?_)))
   obtain rfl := Option.some.inj hm
   exact ⟨trivial, by kernel_rfl⟩
  ·
   refine c0 h1 (wp_skip (sq (rg (s1 2 [(14, aI a1), (13, .pv (encSl R_tabularyref20_Stat a0))] ?_))))
   obtain ⟨x2, h3, hm⟩ := bs hm
   refine dv 15 (v := .pv (.ptr (R_tabularyref20_Stat x2) 0)) (ia_slO R_tabularyref20_Stat a0 .i64 t51 t148 h3 rfl (by kernel_rfl)) (by kernel_rfl) (s1 2 [(17, aI x2.fRows), (16, .pv (.ptr (R_tabularyref20_Stat x2) 0))] ?_)
   obtain ⟨x4, h5, hm⟩ := bs hm
   refine dv 18 (cpure (by kernel_rfl) (ok_ref31_up h5) (by kernel_rfl) (by kernel_rfl) (by kernel_rfl)) (by kernel_rfl) (f1 1 [(4, aU x4)] (wp_ret ?_))
   obtain rfl := Option.some.inj hm
   exact ⟨trivial, by kernel_rfl⟩
theorem ok_ref30_Wide {n : Nat} {a0 : Int} {a1 : Int} {r : Int × Int} (hm : ref30_Wide n a0 a1 = some r) :
    call G n 161 [aU a0, aU a1] [] = some (.ret (.tup [aU r.1, aU r.2]), []) := by
  unfold ref30_Wide at hm
  obtain ⟨n, rfl, h0⟩ := at1_some hm
  replace hm := h0; clear h0
  refine callL 65 [(0, aU a0), (1, aU a1)] func161 rfl (by kernel_rfl) (sq (dn [(0, aU a0), (1, aU a1)] (sq (dn [(0, aU a0), (1, aU a1), (6, aU 4294967296)] (sq (dn [(0, aU a0), (1, aU a1), (6, aU 4294967296), (7, aU (IntKind.wrap .u64 (Int.tdiv a0 4294967296)))] (sq (dn [(1, aU a1), (6, aU 4294967296), (7, aU (IntKind.wrap .u64 (Int.tdiv a0 4294967296))), (8, aU (Int.tmod a0 4294967296))] (sq (dn [(1, aU a1), (6, aU 4294967296), (7, aU (IntKind.wrap .u64 (Int.tdiv a0 4294967296))), (8, aU (Int.tmod a0 4294967296)), (9, aU (IntKind.wrap .u64 (Int.tdiv a1 4294967296)))] (sq (dn [(6, aU 4294967296), (7, aU (IntKind.wrap .u64 (Int.tdiv a0 4294967296))), (8, aU (Int.tmod a0 4294967296)), (9, aU (IntKind.wrap .u64 (Int.tdiv a1 4294967296))), (10, aU (Int.tmod a1 4294967296))] ?_))))))))))))
  refine sq (dn [(6, aU 4294967296), (7, aU (IntKind.wrap .u64 (Int.tdiv a0 4294967296))), (8, aU (Int.tmod a0 4294967296)), (9, aU (IntKind.wrap .u64 (Int.tdiv a1 4294967296))), (10, aU (Int.tmod a1 4294967296)), (11, aU (IntKind.wrap .u64 ((Int.tmod a0 4294967296) * (Int.tmod a1 4294967296))))] (sq (dn [(6, aU 4294967296), (7, aU (IntKind.wrap .u64 (Int.tdiv a0 4294967296))), (8, aU (Int.tmod a0 4294967296)), (9, aU (IntKind.wrap .u64 (Int.tdiv a1 4294967296))), (11, aU (IntKind.wrap .u64 ((Int.tmod a0 4294967296) * (Int.tmod a1 4294967296)))), (12, aU (IntKind.wrap .u64 ((IntKind.wrap .u64 ((IntKind.wrap .u64 (Int.tdiv a0 4294967296)) * (Int.tmod a1 4294967296))) + (IntKind.wrap .u64 (Int.tdiv (IntKind.wrap .u64 ((Int.tmod a0 4294967296) * (Int.tmod a1 4294967296))) 4294967296)))))] (sq (dn [(6, aU 4294967296), (7, aU (IntKind.wrap .u64 (Int.tdiv a0 4294967296))), (9, aU (IntKind.wrap .u64 (Int.tdiv a1 4294967296))), (11, aU (IntKind.wrap .u64 ((Int.tmod a0 4294967296) * (Int.tmod a1 4294967296)))), (12, aU (IntKind.wrap .u64 ((IntKind.wrap .u64 ((IntKind.wrap .u64 (Int.tdiv a0 4294967296)) * (Int.tmod a1 4294967296))) + (IntKind.wrap .u64 (Int.tdiv (IntKind.wrap .u64 ((Int.tmod a0 4294967296) * (Int.tmod a1 4294967296))) 4294967296))))), (13, aU (IntKind.wrap .u64 ((IntKind.wrap .u64 ((Int.tmod a0 4294967296) * (IntKind.wrap .u64 (Int.tdiv a1 4294967296)))) + (Int.tmod (IntKind.wrap .u64 ((IntKind.wrap .u64 ((IntKind.wrap .u64 (Int.tdiv a0 4294967296)) * (Int.tmod a1 4294967296))) + (IntKind.wrap .u64 (Int.tdiv (IntKind.wrap .u64 ((Int.tmod a0 4294967296) * (Int.tmod a1 4294967296))) 4294967296)))) 4294967296))))] (sq (rgd (shd 12 [(14, aU (IntKind.wrap .u64 ((IntKind.wrap .u64 ((IntKind.wrap .u64 ((IntKind.wrap .u64 (Int.tdiv a0 4294967296)) * (IntKind.wrap .u64 (Int.tdiv a1 4294967296)))) + (IntKind.wrap .u64 (Int.tdiv (IntKind.wrap .u64 ((IntKind.wrap .u64 ((IntKind.wrap .u64 (Int.tdiv a0 4294967296)) * (Int.tmod a1 4294967296))) + (IntKind.wrap .u64 (Int.tdiv (IntKind.wrap .u64 ((Int.tmod a0 4294967296) * (Int.tmod a1 4294967296))) 4294967296)))) 4294967296)))) + (IntKind.wrap .u64 (Int.tdiv (IntKind.wrap .u64 ((IntKind.wrap .u64 ((Int.tmod a0 4294967296) * (IntKind.wrap .u64 (Int.tdiv a1 4294967296)))) + (Int.tmod (IntKind.wrap .u64 ((IntKind.wrap .u64 ((IntKind.wrap .u64 (Int.tdiv a0 4294967296)) * (Int.tmod a1 4294967296))) + (IntKind.wrap .u64 (Int.tdiv (IntKind.wrap .u64 ((Int.tmod a0 4294967296) * (Int.tmod a1 4294967296))) 4294967296)))) 4294967296))) 4294967296))))), (54, aU (IntKind.wrap .u64 ((IntKind.wrap .u64 ((IntKind.wrap .u64 ((IntKind.wrap .u64 (Int.tdiv a0 4294967296)) * (IntKind.wrap .u64 (Int.tdiv a1 4294967296)))) + (IntKind.wrap .u64 (Int.tdiv (IntKind.wrap .u64 ((IntKind.wrap .u64 ((IntKind.wrap .u64 (Int.tdiv a0 4294967296)) * (Int.tmod a1 4294967296))) + (IntKind.wrap .u64 (Int.tdiv (IntKind.wrap .u64 ((Int.tmod a0 4294967296) * (Int.tmod a1 4294967296))) 4294967296)))) 4294967296)))) + (IntKind.wrap .u64 (Int.tdiv (IntKind.wrap .u64 ((IntKind.wrap .u64 ((Int.tmod a0 4294967296) * (IntKind.wrap .u64 (Int.tdiv a1 4294967296)))) + (Int.tmod (IntKind.wrap .u64 ((IntKind.wrap .u64 ((IntKind.wrap .u64 (Int.tdiv a0 4294967296)) * (Int.tmod a1 4294967296))) + (IntKind.wrap .u64 (Int.tdiv (IntKind.wrap .u64 ((Int.tmod a0 4294967296) * (Int.tmod a1 4294967296))) 4294967296)))) 4294967296))) 4294967296))))), (53, aU (IntKind.wrap .u64 (Int.tdiv (IntKind.wrap .u64 ((IntKind.wrap .u64 ((Int.tmod a0 4294967296) * (IntKind.wrap .u64 (Int.tdiv a1 4294967296)))) + (Int.tmod (IntKind.wrap .u64 ((IntKind.wrap .u64 ((IntKind.wrap .u64 (Int.tdiv a0 4294967296)) * (Int.tmod a1 4294967296))) + (IntKind.wrap .u64 (Int.tdiv (IntKind.wrap .u64 ((Int.tmod a0 4294967296) * (Int.tmod a1 4294967296))) 4294967296)))) 4294967296))) 4294967296))), (52, aU 4294967296), (51, aU (IntKind.wrap .u64 ((IntKind.wrap .u64 ((Int.tmod a0 4294967296) * (IntKind.wrap .u64 (Int.tdiv a1 4294967296)))) + (Int.tmod (IntKind.wrap .u64 ((IntKind.wrap .u64 ((IntKind.wrap .u64 (Int.tdiv a0 4294967296)) * (Int.tmod a1 4294967296))) + (IntKind.wrap .u64 (Int.tdiv (IntKind.wrap .u64 ((Int.tmod a0 4294967296) * (Int.tmod a1 4294967296))) 4294967296)))) 4294967296)))), (50, aU (IntKind.wrap .u64 ((IntKind.wrap .u64 ((IntKind.wrap .u64 (Int.tdiv a0 4294967296)) * (IntKind.wrap .u64 (Int.tdiv a1 4294967296)))) + (IntKind.wrap .u64 (Int.tdiv (IntKind.wrap .u64 ((IntKind.wrap .u64 ((IntKind.wrap .u64 (Int.tdiv a0 4294967296)) * (Int.tmod a1 4294967296))) + (IntKind.wrap .u64 (Int.tdiv (IntKind.wrap .u64 ((Int.tmod a0 4294967296) * (Int.tmod a1 4294967296))) 4294967296)))) 4294967296))))), (49, aU (IntKind.wrap .u64 (Int.tdiv (IntKind.wrap .u64 ((IntKind.wrap .u64 ((IntKind.wrap .u64 (Int.tdiv a0 4294967296)) * (Int.tmod a1 4294967296))) + (IntKind.wrap .u64 (Int.tdiv (IntKind.wrap .u64 ((Int.tmod a0 4294967296) * (Int.tmod a1 4294967296))) 4294967296)))) 4294967296))), (48, aU 4294967296), (47, aU (IntKind.wrap .u64 ((IntKind.wrap .u64 ((IntKind.wrap .u64 (Int.tdiv a0 4294967296)) * (Int.tmod a1 4294967296))) + (IntKind.wrap .u64 (Int.tdiv (IntKind.wrap .u64 ((Int.tmod a0 4294967296) * (Int.tmod a1 4294967296))) 4294967296))))), (46, aU (IntKind.wrap .u64 ((IntKind.wrap .u64 (Int.tdiv a0 4294967296)) * (IntKind.wrap .u64 (Int.tdiv a1 4294967296))))), (45, aU (IntKind.wrap .u64 (Int.tdiv a1 4294967296))), (44, aU (IntKind.wrap .u64 (Int.tdiv a0 4294967296)))] (by kernel_rfl) (find [(6, aU 4294967296), (11, aU (IntKind.wrap .u64 ((Int.tmod a0 4294967296) * (Int.tmod a1 4294967296)))), (13, aU (IntKind.wrap .u64 ((IntKind.wrap .u64 ((Int.tmod a0 4294967296) * (IntKind.wrap .u64 (Int.tdiv a1 4294967296)))) + (Int.tmod (IntKind.wrap .u64 ((IntKind.wrap .u64 ((IntKind.wrap .u64 (Int.tdiv a0 4294967296)) * (Int.tmod a1 4294967296))) + (IntKind.wrap .u64 (Int.tdiv (IntKind.wrap .u64 ((Int.tmod a0 4294967296) * (Int.tmod a1 4294967296))) 4294967296)))) 4294967296)))), (14, aU (IntKind.wrap .u64 ((IntKind.wrap .u64 ((IntKind.wrap .u64 ((IntKind.wrap .u64 (Int.tdiv a0 4294967296)) * (IntKind.wrap .u64 (Int.tdiv a1 4294967296)))) + (IntKind.wrap .u64 (Int.tdiv (IntKind.wrap .u64 ((IntKind.wrap .u64 ((IntKind.wrap .u64 (Int.tdiv a0 4294967296)) * (Int.tmod a1 4294967296))) + (IntKind.wrap .u64 (Int.tdiv (IntKind.wrap .u64 ((Int.tmod a0 4294967296) * (Int.tmod a1 4294967296))) 4294967296)))) 4294967296)))) + (IntKind.wrap .u64 (Int.tdiv (IntKind.wrap .u64 ((IntKind.wrap .u64 ((Int.tmod a0 4294967296) * (IntKind.wrap .u64 (Int.tdiv a1 4294967296)))) + (Int.tmod (IntKind.wrap .u64 ((IntKind.wrap .u64 ((IntKind.wrap .u64 (Int.tdiv a0 4294967296)) * (Int.tmod a1 4294967296))) + (IntKind.wrap .u64 (Int.tdiv (IntKind.wrap .u64 ((Int.tmod a0 4294967296) * (Int.tmod a1 4294967296))) 4294967296)))) 4294967296))) 4294967296)))))] rfl (by kernel_rfl) (by kernel_rfl) (sq (rgd (shd 12 [(5, aU (IntKind.wrap .u64 ((IntKind.wrap .u64 ((Int.tmod (IntKind.wrap .u64 ((IntKind.wrap .u64 ((Int.tmod a0 4294967296) * (IntKind.wrap .u64 (Int.tdiv a1 4294967296)))) + (Int.tmod (IntKind.wrap .u64 ((IntKind.wrap .u64 ((IntKind.wrap .u64 (Int.tdiv a0 4294967296)) * (Int.tmod a1 4294967296))) + (IntKind.wrap .u64 (Int.tdiv (IntKind.wrap .u64 ((Int.tmod a0 4294967296) * (Int.tmod a1 4294967296))) 4294967296)))) 4294967296))) 4294967296) * 4294967296)) + (Int.tmod (IntKind.wrap .u64 ((Int.tmod a0 4294967296) * (Int.tmod a1 4294967296))) 4294967296)))), (4, aU (IntKind.wrap .u64 ((IntKind.wrap .u64 ((IntKind.wrap .u64 ((IntKind.wrap .u64 (Int.tdiv a0 4294967296)) * (IntKind.wrap .u64 (Int.tdiv a1 4294967296)))) + (IntKind.wrap .u64 (Int.tdiv (IntKind.wrap .u64 ((IntKind.wrap .u64 ((IntKind.wrap .u64 (Int.tdiv a0 4294967296)) * (Int.tmod a1 4294967296))) + (IntKind.wrap .u64 (Int.tdiv (IntKind.wrap .u64 ((Int.tmod a0 4294967296) * (Int.tmod a1 4294967296))) 4294967296)))) 4294967296)))) + (IntKind.wrap .u64 (Int.tdiv (IntKind.wrap .u64 ((IntKind.wrap .u64 ((Int.tmod a0 4294967296) * (IntKind.wrap .u64 (Int.tdiv a1 4294967296)))) + (Int.tmod (IntKind.wrap .u64 ((IntKind.wrap .u64 ((IntKind.wrap .u64 (Int.tdiv a0 4294967296)) * (Int.tmod a1 4294967296))) + (IntKind.wrap .u64 (Int.tdiv (IntKind.wrap .u64 ((Int.tmod a0 4294967296) * (Int.tmod a1 4294967296))) 4294967296)))) 4294967296))) 4294967296))))), (64, aU (IntKind.wrap .u64 ((IntKind.wrap .u64 ((Int.tmod (IntKind.wrap .u64 ((IntKind.wrap .u64 ((Int.tmod a0 4294967296) * (IntKind.wrap .u64 (Int.tdiv a1 4294967296)))) + (Int.tmod (IntKind.wrap .u64 ((IntKind.wrap .u64 ((IntKind.wrap .u64 (Int.tdiv a0 4294967296)) * (Int.tmod a1 4294967296))) + (IntKind.wrap .u64 (Int.tdiv (IntKind.wrap .u64 ((Int.tmod a0 4294967296) * (Int.tmod a1 4294967296))) 4294967296)))) 4294967296))) 4294967296) * 4294967296)) + (Int.tmod (IntKind.wrap .u64 ((Int.tmod a0 4294967296) * (Int.tmod a1 4294967296))) 4294967296)))), (63, aU (Int.tmod (IntKind.wrap .u64 ((Int.tmod a0 4294967296) * (Int.tmod a1 4294967296))) 4294967296)), (62, aU 4294967296), (61, aU (IntKind.wrap .u64 ((Int.tmod a0 4294967296) * (Int.tmod a1 4294967296)))), (60, aU (IntKind.wrap .u64 ((Int.tmod (IntKind.wrap .u64 ((IntKind.wrap .u64 ((Int.tmod a0 4294967296) * (IntKind.wrap .u64 (Int.tdiv a1 4294967296)))) + (Int.tmod (IntKind.wrap .u64 ((IntKind.wrap .u64 ((IntKind.wrap .u64 (Int.tdiv a0 4294967296)) * (Int.tmod a1 4294967296))) + (IntKind.wrap .u64 (Int.tdiv (IntKind.wrap .u64 ((Int.tmod a0 4294967296) * (Int.tmod a1 4294967296))) 4294967296)))) 4294967296))) 4294967296) * 4294967296))), (59, aU 4294967296), (58, aU (Int.tmod (IntKind.wrap .u64 ((IntKind.wrap .u64 ((Int.tmod a0 4294967296) * (IntKind.wrap .u64 (Int.tdiv a1 4294967296)))) + (Int.tmod (IntKind.wrap .u64 ((IntKind.wrap .u64 ((IntKind.wrap .u64 (Int.tdiv a0 4294967296)) * (Int.tmod a1 4294967296))) + (IntKind.wrap .u64 (Int.tdiv (IntKind.wrap .u64 ((Int.tmod a0 4294967296) * (Int.tmod a1 4294967296))) 4294967296)))) 4294967296))) 4294967296)), (57, aU 4294967296), (56, aU (IntKind.wrap .u64 ((IntKind.wrap .u64 ((Int.tmod a0 4294967296) * (IntKind.wrap .u64 (Int.tdiv a1 4294967296)))) + (Int.tmod (IntKind.wrap .u64 ((IntKind.wrap .u64 ((IntKind.wrap .u64 (Int.tdiv a0 4294967296)) * (Int.tmod a1 4294967296))) + (IntKind.wrap .u64 (Int.tdiv (IntKind.wrap .u64 ((Int.tmod a0 4294967296) * (Int.tmod a1 4294967296))) 4294967296)))) 4294967296)))), (55, aU (IntKind.wrap .u64 ((IntKind.wrap .u64 ((IntKind.wrap .u64 ((IntKind.wrap .u64 (Int.tdiv a0 4294967296)) * (IntKind.wrap .u64 (Int.tdiv a1 4294967296)))) + (IntKind.wrap .u64 (Int.tdiv (IntKind.wrap .u64 ((IntKind.wrap .u64 ((IntKind.wrap .u64 (Int.tdiv a0 4294967296)) * (Int.tmod a1 4294967296))) + (IntKind.wrap .u64 (Int.tdiv (IntKind.wrap .u64 ((Int.tmod a0 4294967296) * (Int.tmod a1 4294967296))) 4294967296)))) 4294967296)))) + (IntKind.wrap .u64 (Int.tdiv (IntKind.wrap .u64 ((IntKind.wrap .u64 ((Int.tmod a0 4294967296) * (IntKind.wrap .u64 (Int.tdiv a1 4294967296)))) + (Int.tmod (IntKind.wrap .u64 ((IntKind.wrap .u64 ((IntKind.wrap .u64 (Int.tdiv a0 4294967296)) * (Int.tmod a1 4294967296))) + (IntKind.wrap .u64 (Int.tdiv (IntKind.wrap .u64 ((Int.tmod a0 4294967296) * (Int.tmod a1 4294967296))) 4294967296)))) 4294967296))) 4294967296)))))] (by kernel_rfl) ?_))))))))))))
  refine find [(4, aU (IntKind.wrap .u64 ((IntKind.wrap .u64 ((IntKind.wrap .u64 ((IntKind.wrap .u64 (Int.tdiv a0 4294967296)) * (IntKind.wrap .u64 (Int.tdiv a1 4294967296)))) + (IntKind.wrap .u64 (Int.tdiv (IntKind.wrap .u64 ((IntKind.wrap .u64 ((IntKind.wrap .u64 (Int.tdiv a0 4294967296)) * (Int.tmod a1 4294967296))) + (IntKind.wrap .u64 (Int.tdiv (IntKind.wrap .u64 ((Int.tmod a0 4294967296) * (Int.tmod a1 4294967296))) 4294967296)))) 4294967296)))) + (IntKind.wrap .u64 (Int.tdiv (IntKind.wrap .u64 ((IntKind.wrap .u64 ((Int.tmod a0 4294967296) * (IntKind.wrap .u64 (Int.tdiv a1 4294967296)))) + (Int.tmod (IntKind.wrap .u64 ((IntKind.wrap .u64 ((IntKind.wrap .u64 (Int.tdiv a0 4294967296)) * (Int.tmod a1 4294967296))) + (IntKind.wrap .u64 (Int.tdiv (IntKind.wrap .u64 ((Int.tmod a0 4294967296) * (Int.tmod a1 4294967296))) 4294967296)))) 4294967296))) 4294967296))))), (5, aU (IntKind.wrap .u64 ((IntKind.wrap .u64 ((Int.tmod (IntKind.wrap .u64 ((IntKind.wrap .u64 ((Int.tmod a0 4294967296) * (IntKind.wrap .u64 (Int.tdiv a1 4294967296)))) + (Int.tmod (IntKind.wrap .u64 ((IntKind.wrap .u64 ((IntKind.wrap .u64 (Int.tdiv a0 4294967296)) * (Int.tmod a1 4294967296))) + (IntKind.wrap .u64 (Int.tdiv (IntKind.wrap .u64 ((Int.tmod a0 4294967296) * (Int.tmod a1 4294967296))) 4294967296)))) 4294967296))) 4294967296) * 4294967296)) + (Int.tmod (IntKind.wrap .u64 ((Int.tmod a0 4294967296) * (Int.tmod a1 4294967296))) 4294967296))))] rfl (by kernel_rfl) (by kernel_rfl) (wp_ret ?_)
  obtain rfl := Option.some.inj hm
  exact ⟨trivial, by kernel_rfl⟩
theorem ok_ref30_Mul {n : Nat} {a0 : Int} {a1 : Int} {r : Int} (hm : ref30_Mul n a0 a1 = some r) :
    call G n 106 [aU a0, aU a1] [] = some (.ret (aU r), []) := by
  unfold ref30_Mul at hm
  obtain ⟨n, rfl, h0⟩ := at1_some hm
  replace hm := h0; clear h0
  refine callL 16 [(0, aU a0), (1, aU a1)] func106 rfl (by kernel_rfl) (sq (dn [(0, aU a0), (1, aU a1)] (sq (rg (s1 2 [(9, aU a1), (8, aU a0)] ?_)))))
  obtain ⟨x1, h2, hm⟩ := bs hm
  refine dv 10 (cpure (by kernel_rfl) (ok_ref30_Wide h2) (by kernel_rfl) (by kernel_rfl) (by kernel_rfl)) (by kernel_rfl) (f1 5 [(5, aU x1.1), (6, aU x1.2)] (sq (sq (dn [(6, aU x1.2), (14, aB (decide (x1.1 > 0)))] ?_))))
  rcases bif_some hm with ⟨h3, hm⟩ | ⟨h3, hm⟩
  ·
   refine c1 h3 (sq (dn [(4, aU 18446744073709551615)] (wp_ret ?_)))
   obtain rfl := Option.some.inj hm
   exact ⟨trivial, by kernel_rfl⟩
  ·
   refine c0 h3 (wp_skip (sq (dn [(4, aU x1.2)] (wp_ret ?_))))
   obtain rfl := Option.some.inj hm
   exact ⟨trivial, by kernel_rfl⟩
theorem okf_ref22_Rels {rc_ref22_Rels : (Nat → api_Expr → Option (Int))} (ih_ref22_Rels : ∀ {n : Nat} {a0 : api_Expr} {r : Int} (hm : rc_ref22_Rels n a0 = some r), call G n 162 [.agg [aI a0.fKind, aI a0.fRel, aI a0.fCol, aI a0.fConst.fKind, aI a0.fConst.fInt, aF a0.fConst.fFloat, aS a0.fConst.fText, .pv (encSl R_E_api_Expr a0.fKids)]] [] = some (.ret (.pv (.int .u32 r)), [])) {n : Nat} {a0 : api_Expr} {r : Int} (hm : ref22_Rels_f rc_ref22_Rels n a0 = some r) :
    call G n 162 [.agg [aI a0.fKind, aI a0.fRel, aI a0.fCol, aI a0.fConst.fKind, aI a0.fConst.fInt, aF a0.fConst.fFloat, aS a0.fConst.fText, .pv (encSl R_E_api_Expr a0.fKids)]] [] = some (.ret (.pv (.int .u32 r)), []) := by
  unfold ref22_Rels_f at hm
  obtain ⟨n, rfl, h0⟩ := at1_some hm
  replace hm := h0; clear h0
  refine callL 38 [(0, .agg [aI a0.fKind, aI a0.fRel, aI a0.fCol, aI a0.fConst.fKind, aI a0.fConst.fInt, aF a0.fConst.fFloat, aS a0.fConst.fText, .pv (encSl R_E_api_Expr a0.fKids)])] func162 rfl (by kernel_rfl) (sq (det [(1, .ptr 0 0)] [.box [aI a0.fKind, aI a0.fRel, aI a0.fCol, aI a0.fConst.fKind, aI a0.fConst.fInt, aF a0.fConst.fFloat, aS a0.fConst.fText, .pv (encSl R_E_api_Expr a0.fKids)] false] (by kernel_rfl) (sq (dn [(1, .ptr 0 0), (3, .pv (.int .u32 0))] ?_))))
  obtain ⟨k3, hk3, hm⟩ := withK_some hm
  refine mid (fun t H => (∃ (y2 : Int) (w1 : AV), k3 y2 = some r ∧ t = mk 38 [(1, .ptr 0 0), (3, .pv (.int .u32 y2)), (17, w1)] ∧ H = [.box [aI a0.fKind, aI a0.fRel, aI a0.fCol, aI a0.fConst.fKind, aI a0.fConst.fInt, aF a0.fConst.fFloat, aS a0.fConst.fText, .pv (encSl R_E_api_Expr a0.fKids)] false])) ?_ ?_
  ·
   rintro _ _ ⟨y2, w1, hm, rfl, rfl⟩
   subst hk3
   obtain ⟨k7, hk7, hm⟩ := withK_some hm
   refine mid (fun t H => (∃ (y4 : Bool) (y5 : Int) (y6 : Int), k7 y5 = some r ∧ t = mk 38 [(1, .ptr 0 0), (3, .pv (.int .u32 y5)), (4, aI y6), (26, aB y4)] ∧ H = [.box [aI a0.fKind, aI a0.fRel, aI a0.fCol, aI a0.fConst.fKind, aI a0.fConst.fInt, aF a0.fConst.fFloat, aS a0.fConst.fText, .pv (encSl R_E_api_Expr a0.fKids)] false])) ?_ ?_
   ·
    rintro _ _ ⟨y4, y5, y6, hm, rfl, rfl⟩
    subst hk7
    refine sq (dn [(2, .pv (.int .u32 y5))] (wp_ret ?_))
    obtain rfl := Option.some.inj hm
    exact ⟨trivial, by kernel_rfl⟩
   refine sq (dn [(1, .ptr 0 0), (3, .pv (.int .u32 y2)), (4, aI 0)] (bq ?_))
   refine loopF (fun mm t H => (∃ (y10 : Int) (y11 : Int), ref22_Rels_l5 n rc_ref22_Rels a0 k7 mm y10 y11 = some r ∧ t = mk 38 [(1, .ptr 0 0), (3, .pv (.int .u32 y10)), (4, aI y11)] ∧ H = [.box [aI a0.fKind, aI a0.fRel, aI a0.fCol, aI a0.fConst.fKind, aI a0.fConst.fInt, aF a0.fConst.fFloat, aS a0.fConst.fText, .pv (encSl R_E_api_Expr a0.fKids)] false])) (⟨y2, 0, hm, rfl, rfl⟩) ?_ ?_
   · rintro _ _ ⟨y10, y11, hm, _⟩; exact nomatch hm
   rintro m12 _ _ ⟨y10, y11, hm, rfl, rfl⟩
   simp only [ref22_Rels_l5] at hm
   refine sq (sq (rg (s1 3 [(24, .pv (encSl R_E_api_Expr a0.fKids)), (23, .ptr 0 7), (22, aI y11)] (dv 25 (v := aI ((sll a0.fKids).length : Int)) (len_slO R_E_api_Expr a0.fKids t23 (by kernel_rfl)) (by kernel_rfl) (f1 1 [(1, .ptr 0 0), (3, .pv (.int .u32 y10)), (4, aI y11), (26, aB (decide (y11 < ((sll a0.fKids).length : Int))))] ?_)))))
   rcases bif_some hm with ⟨h13, hm⟩ | ⟨h13, hm⟩
   ·
    refine c1 h13 (wp_skip (sq (bq (rg (s1 4 [(32, aI y11), (31, .pv (encSl R_E_api_Expr a0.fKids)), (30, .ptr 0 7), (29, .pv (.int .u32 y10))] ?_)))))
    obtain ⟨x14, h15, hm⟩ := bs hm
    refine dv 33 (v := .pv (.ptr (R_api_Expr (un_api_Expr x14)) 0)) (ia_slE R_E_api_Expr a0.fKids .i64 t23 t49 h15 (R_un_api_Expr x14) rfl (by kernel_rfl)) (by kernel_rfl) (s1 1 [(34, .agg [aI ((un_api_Expr x14).fKind), aI ((un_api_Expr x14).fRel), aI ((un_api_Expr x14).fCol), aI (((un_api_Expr x14).fConst).fKind), aI (((un_api_Expr x14).fConst).fInt), aF (((un_api_Expr x14).fConst).fFloat), aS (((un_api_Expr x14).fConst).fText), .pv (encSl R_E_api_Expr ((un_api_Expr x14).fKids))])] ?_)
    obtain ⟨x16, h17, hm⟩ := bs hm
    refine dv 35 (cpure (by kernel_rfl) (ih_ref22_Rels h17) (by kernel_rfl) (by kernel_rfl) (by kernel_rfl)) (by kernel_rfl) (f1 2 [(1, .ptr 0 0), (3, .pv (.int .u32 (iOr .u32 y10 x16))), (4, aI y11)] (dn [(1, .ptr 0 0), (3, .pv (.int .u32 (iOr .u32 y10 x16))), (4, aI (IntKind.wrap .i64 (y11 + 1)))] ?_))
    exact ⟨_, _, tidyL [(1, .ptr 0 0), (3, .pv (.int .u32 (iOr .u32 y10 x16))), (4, aI (IntKind.wrap .i64 (y11 + 1)))] [.box [aI a0.fKind, aI a0.fRel, aI a0.fCol, aI a0.fConst.fKind, aI a0.fConst.fInt, aF a0.fConst.fFloat, aS a0.fConst.fText, .pv (encSl R_E_api_Expr a0.fKids)] false] (by kernel_rfl), ⟨(iOr .u32 y10 x16), (IntKind.wrap .i64 (y11 + 1)), hm, rfl, rfl⟩⟩
   ·
    refine c0 h13 (wp_exit ?_)
    exact ⟨(decide (y11 < ((sll a0.fKids).length : Int))), y10, y11, hm, rfl, rfl⟩
  refine sq (rg (s1 4 [(8, aB (a0.fKind == 1)), (7, aB (a0.fKind == 1)), (6, aI a0.fKind), (5, .ptr 0 0)] ?_))
  refine segP (a0.fKind == 1) [8, 7] (fun b => [(12, aB (b && (decide (a0.fRel ≥ 0)))), (11, ifA b (aB (decide (a0.fRel ≥ 0))) (.undef)), (10, ifA b (aI a0.fRel) (.undef)), (9, ifA b (.ptr 0 1) (.undef))]) 4 (by kernel_rfl) (by kernel_rfl) (by kernel_rfl) (s1 1 [(13, aB ((a0.fKind == 1) && (decide (a0.fRel ≥ 0))))] ?_)
  refine segP ((a0.fKind == 1) && (decide (a0.fRel ≥ 0))) [13, 12] (fun b => [(17, aB (b && (decide (a0.fRel ≤ 31)))), (16, ifA b (aB (decide (a0.fRel ≤ 31))) (.undef)), (15, ifA b (aI a0.fRel) (.undef)), (14, ifA b (.ptr 0 1) (.undef))]) 4 (by kernel_rfl) (by kernel_rfl) (by kernel_rfl) (fin [(1, .ptr 0 0), (3, .pv (.int .u32 0)), (17, aB (((a0.fKind == 1) && (decide (a0.fRel ≥ 0))) && (decide (a0.fRel ≤ 31))))] rfl (by kernel_rfl) ?_)
  rcases bif_some hm with ⟨h18, hm⟩ | ⟨h18, hm⟩
  ·
   refine c1 h18 (rg (s1 3 [(20, aU (IntKind.wrap .u64 a0.fRel)), (19, aI a0.fRel), (18, .ptr 0 1)] ?_))
   obtain ⟨_, h19, hm⟩ := bs hm
   refine dv 21 (v := .pv (.int .u32 (iShl .u32 1 (IntKind.wrap .u64 a0.fRel)))) (shlO h19 (by kernel_rfl)) (by kernel_rfl) (f1 1 [(1, .ptr 0 0), (3, .pv (.int .u32 (iShl .u32 1 (IntKind.wrap .u64 a0.fRel))))] ?_)
   exact ⟨(iShl .u32 1 (IntKind.wrap .u64 a0.fRel)), .any, hm, (mk_same (by kernel_rfl)), rfl⟩
  ·
   refine c0 h18 (wp_skip ?_)
   exact ⟨0, aB (((a0.fKind == 1) && (decide (a0.fRel ≥ 0))) && (decide (a0.fRel ≤ 31))), hm, (mk_same (by kernel_rfl)), rfl⟩
theorem okt_ref22_Rels : ∀ (m : Nat), ∀ {n : Nat} {a0 : api_Expr} {r : Int} (hm : ref22_Rels_t m n a0 = some r), call G n 162 [.agg [aI a0.fKind, aI a0.fRel, aI a0.fCol, aI a0.fConst.fKind, aI a0.fConst.fInt, aF a0.fConst.fFloat, aS a0.fConst.fText, .pv (encSl R_E_api_Expr a0.fKids)]] [] = some (.ret (.pv (.int .u32 r)), [])
  | 0 => by intros; rename_i hm; exact nomatch hm
  | m + 1 => fun hm =>
    okf_ref22_Rels (okt_ref22_Rels m) hm
theorem ok_ref22_Rels {n : Nat} {a0 : api_Expr} {r : Int} (hm : ref22_Rels n a0 = some r) :
    call G n 162 [.agg [aI a0.fKind, aI a0.fRel, aI a0.fCol, aI a0.fConst.fKind, aI a0.fConst.fInt, aF a0.fConst.fFloat, aS a0.fConst.fText, .pv (encSl R_E_api_Expr a0.fKids)]] [] = some (.ret (.pv (.int .u32 r)), []) := okt_ref22_Rels n hm
theorem ok_ref31_In {n : Nat} {a0 : api_Expr} {a1 : Int} {r : Bool} (hm : ref31_In n a0 a1 = some r) :
    call G n 107 [.agg [aI a0.fKind, aI a0.fRel, aI a0.fCol, aI a0.fConst.fKind, aI a0.fConst.fInt, aF a0.fConst.fFloat, aS a0.fConst.fText, .pv (encSl R_E_api_Expr a0.fKids)], .pv (.int .u32 a1)] [] = some (.ret (aB r), []) := by
  unfold ref31_In at hm
  obtain ⟨n, rfl, h0⟩ := at1_some hm
  replace hm := h0; clear h0
  refine callL 18 [(0, .agg [aI a0.fKind, aI a0.fRel, aI a0.fCol, aI a0.fConst.fKind, aI a0.fConst.fInt, aF a0.fConst.fFloat, aS a0.fConst.fText, .pv (encSl R_E_api_Expr a0.fKids)]), (1, .pv (.int .u32 a1))] func107 rfl (by kernel_rfl) (sq (det [(1, .pv (.int .u32 a1)), (2, .ptr 0 0)] [.box [aI a0.fKind, aI a0.fRel, aI a0.fCol, aI a0.fConst.fKind, aI a0.fConst.fInt, aF a0.fConst.fFloat, aS a0.fConst.fText, .pv (encSl R_E_api_Expr a0.fKids)] false] (by kernel_rfl) (sq (rg (s1 1 [(6, .agg [aI a0.fKind, aI a0.fRel, aI a0.fCol, aI a0.fConst.fKind, aI a0.fConst.fInt, aF a0.fConst.fFloat, aS a0.fConst.fText, .pv (encSl R_E_api_Expr a0.fKids)])] ?_)))))
  obtain ⟨x1, h2, hm⟩ := bs hm
  refine dv 7 (cpure (by kernel_rfl) (ok_ref22_Rels h2) (by kernel_rfl) (by kernel_rfl) (by kernel_rfl)) (by kernel_rfl) (f1 1 [(1, .pv (.int .u32 a1)), (5, .pv (.int .u32 x1))] (sq (sq (dn [(1, .pv (.int .u32 a1)), (5, .pv (.int .u32 x1)), (9, aB (x1 == 0))] ?_))))
  rcases bif_some hm with ⟨h3, hm⟩ | ⟨h3, hm⟩
  ·
   refine c1 h3 (sq (dn [(4, aB ((Int.tmod a1 2) == 1))] (wp_ret ?_)))
   obtain rfl := Option.some.inj hm
   exact ⟨trivial, by kernel_rfl⟩
  ·
   refine c0 h3 (wp_skip (sq (dn [(4, aB ((iOr .u32 x1 a1) == a1))] (wp_ret ?_))))
   obtain rfl := Option.some.inj hm
   exact ⟨trivial, by kernel_rfl⟩
theorem ok_ref22_Kids {n : Nat} {a0 : Int} {r : Int} (hm : ref22_Kids n a0 = some r) :
    call G n 243 [aI a0] [] = some (.ret (aI r), []) := by
  unfold ref22_Kids at hm
  obtain ⟨n, rfl, h0⟩ := at1_some hm
  replace hm := h0; clear h0
  refine callL 14 [(0, aI a0)] func243 rfl (by kernel_rfl) (sq (dn [(0, aI a0)] ?_))
  refine sq (sq (rg (s1 3 [(6, aB (decide (a0 < 1))), (5, aB (decide (a0 < 1))), (4, aI a0)] ?_)))
  refine segP (decide (a0 < 1)) [6, 5] (fun b => [(9, aB (b || (decide (a0 > 13)))), (8, ifA b (.undef) (aB (decide (a0 > 13)))), (7, ifA b (.undef) (aI a0))]) 3 (by kernel_rfl) (by kernel_rfl) (by kernel_rfl) (fin [(0, aI a0), (9, aB ((decide (a0 < 1)) || (decide (a0 > 13))))] rfl (by kernel_rfl) ?_)
  rcases bif_some hm with ⟨h1, hm⟩ | ⟨h1, hm⟩
  ·
   refine c1 h1 (sq (dn [(2, aI (-1))] (wp_ret ?_)))
   obtain rfl := Option.some.inj hm
   exact ⟨trivial, by kernel_rfl⟩
  ·
   refine c0 h1 (wp_skip (sq (det [(0, aI a0), (3, .ptr 0 0)] [.box (aA .i64 14 (fun i => ([0, 0, 0, 2, 2, 2, 1, 2, 2, 2, 2, 2, 1, 1] : List Int).getD i 0)) false] (by kernel_rfl) (sq (rg (s1 1 [(11, aI a0)] ?_))))))
   obtain ⟨_, h2, hm⟩ := bs hm
   refine dv 12 (v := .ptr 0 (0 + Int.toNat a0 * 1)) (ia_arrO (n := 14) (id := 0) (off := 0) 1 .i64 t282 t3 rfl h2 (by kernel_rfl)) (by kernel_rfl) (dv 13 (v := aI ((fun i => ([0, 0, 0, 2, 2, 2, 1, 2, 2, 2, 2, 2, 1, 1] : List Int).getD i 0) (Int.toNat a0))) (ld_arrO (k := .i64) (n := 14) (id := 0) (off := 0) (z := false) (fun i => ([0, 0, 0, 2, 2, 2, 1, 2, 2, 2, 2, 2, 1, 1] : List Int).getD i 0) [] [] (aA .i64 14 (fun i => ([0, 0, 0, 2, 2, 2, 1, 2, 2, 2, 2, 2, 1, 1] : List Int).getD i 0)) t3 rfl rfl (by kernel_rfl) (by kernel_rfl) (by kernel_rfl) h2 (by kernel_rfl)) (by kernel_rfl) (f1 1 [(2, aI ((fun i => ([0, 0, 0, 2, 2, 2, 1, 2, 2, 2, 2, 2, 1, 1] : List Int).getD i 0) (Int.toNat a0)))] (wp_ret ?_)))
   obtain rfl := Option.some.inj hm
   exact ⟨trivial, by kernel_rfl⟩
theorem ok_ref04_zero {n : Nat} {a0 : Nat} {r : Bool} (hm : ref04_zero n a0 = some r) :
    call G n 260 [aF a0] [] = some (.ret (aB r), []) := by
  unfold ref04_zero at hm
  obtain ⟨n, rfl, h0⟩ := at1_some hm
  replace hm := h0; clear h0
  refine callL 10 [(0, aF a0)] func260 rfl (by kernel_rfl) (sq (dn [(0, aF a0)] (sq (rg (s1 3 [(5, aB ((FloatKind.format .f64).order a0 0 == some .eq)), (4, aB ((FloatKind.format .f64).order a0 0 == some .eq)), (3, aF a0)] ?_)))))
  rcases bif_some hm with ⟨h1, hm⟩ | ⟨h1, hm⟩
  ·
   refine known [5, 4] h1 (by kernel_rfl) (s1 1 [(6, aF a0)] ?_)
   obtain ⟨x2, h3, hm⟩ := bs hm
   refine dv 7 (v := aF x2) (flt_arith h3 (by kernel_rfl)) (by kernel_rfl) (f1 3 [(2, aB ((FloatKind.format .f64).order x2 0 == some .gt))] (wp_ret ?_))
   obtain rfl := Option.some.inj hm
   exact ⟨trivial, by kernel_rfl⟩
  ·
   refine known [5, 4] h1 (by kernel_rfl) (f1 5 [(2, aB false)] (wp_ret ?_))
   obtain rfl := Option.some.inj hm
   exact ⟨trivial, by kernel_rfl⟩
theorem ok_ref04_Right {n : Nat} {a0 : api_Value} {r : Bool} (hm : ref04_Right n a0 = some r) :
    call G n 244 [.agg [aI a0.fKind, aI a0.fInt, aF a0.fFloat, aS a0.fText]] [] = some (.ret (aB r), []) := by
  unfold ref04_Right at hm
  obtain ⟨n, rfl, h0⟩ := at1_some hm
  replace hm := h0; clear h0
  refine callL 76 [(0, .agg [aI a0.fKind, aI a0.fInt, aF a0.fFloat, aS a0.fText])] func244 rfl (by kernel_rfl) (sq (det [(1, .ptr 0 0)] [.box [aI a0.fKind, aI a0.fInt, aF a0.fFloat, aS a0.fText] false] (by kernel_rfl) (sq (sq (dn [(1, .ptr 0 0), (4, aI a0.fKind)] (bq (sq (dn [(1, .ptr 0 0), (4, aI a0.fKind), (5, aB (a0.fKind == 0))] ?_))))))))
  rcases bif_some hm with ⟨h1, hm⟩ | ⟨h1, hm⟩
  ·
   refine c1 h1 (sq (rg (s1 4 [(10, aB (a0.fInt == 0)), (9, aB (a0.fInt == 0)), (8, aI a0.fInt), (7, .ptr 0 1)] ?_)))
   rcases bif_some hm with ⟨h2, hm⟩ | ⟨h2, hm⟩
   ·
    refine known [10, 9] h2 (by kernel_rfl) (s1 2 [(12, aF a0.fFloat), (11, .ptr 0 2)] ?_)
    obtain ⟨x3, h4, hm⟩ := bs hm
    refine dv 13 (cpure (by kernel_rfl) (ok_ref04_zero h4) (by kernel_rfl) (by kernel_rfl) (by kernel_rfl)) (by kernel_rfl) (s1 2 [(15, aB x3), (14, aB x3)] ?_)
    refine segP x3 [15, 14, 13] (fun b => [(19, aB (b && (sEq a0.fText ByteArray.empty))), (18, ifA b (aB (sEq a0.fText ByteArray.empty)) (.undef)), (17, ifA b (aS a0.fText) (.undef)), (16, ifA b (.ptr 0 3) (.undef))]) 4 (by kernel_rfl) (by kernel_rfl) (by kernel_rfl) (f1 1 [(2, aB (x3 && (sEq a0.fText ByteArray.empty)))] (wp_ret ?_))
    obtain rfl := Option.some.inj hm
    exact ⟨trivial, by kernel_rfl⟩
   ·
    refine known [10, 9] h2 (by kernel_rfl) (f1 10 [(2, aB false)] (wp_ret ?_))
    obtain rfl := Option.some.inj hm
    exact ⟨trivial, by kernel_rfl⟩
  ·
   refine c0 h1 (sq (dn [(1, .ptr 0 0), (4, aI a0.fKind), (20, aB (a0.fKind == 1))] ?_))
   rcases bif_some hm with ⟨h5, hm⟩ | ⟨h5, hm⟩
   ·
    refine c1 h5 (sq (rg (s1 4 [(25, aB (a0.fInt == 0)), (24, aB (a0.fInt == 0)), (23, aI a0.fInt), (22, .ptr 0 1)] ?_)))
    refine segP (a0.fInt == 0) [25, 24] (fun b => [(29, aB (b || (a0.fInt == 1))), (28, ifA b (.undef) (aB (a0.fInt == 1))), (27, ifA b (.undef) (aI a0.fInt)), (26, ifA b (.undef) (.ptr 0 1))]) 4 (by kernel_rfl) (by kernel_rfl) (by kernel_rfl) (s1 1 [(30, aB ((a0.fInt == 0) || (a0.fInt == 1)))] ?_)
    rcases bif_some hm with ⟨h6, hm⟩ | ⟨h6, hm⟩
    ·
     refine known [30, 29] h6 (by kernel_rfl) (s1 2 [(32, aF a0.fFloat), (31, .ptr 0 2)] ?_)
     obtain ⟨x7, h8, hm⟩ := bs hm
     refine dv 33 (cpure (by kernel_rfl) (ok_ref04_zero h8) (by kernel_rfl) (by kernel_rfl) (by kernel_rfl)) (by kernel_rfl) (s1 2 [(35, aB x7), (34, aB x7)] ?_)
     refine segP x7 [35, 34, 33] (fun b => [(39, aB (b && (sEq a0.fText ByteArray.empty))), (38, ifA b (aB (sEq a0.fText ByteArray.empty)) (.undef)), (37, ifA b (aS a0.fText) (.undef)), (36, ifA b (.ptr 0 3) (.undef))]) 4 (by kernel_rfl) (by kernel_rfl) (by kernel_rfl) (f1 1 [(2, aB (x7 && (sEq a0.fText ByteArray.empty)))] (wp_ret ?_))
     obtain rfl := Option.some.inj hm
     exact ⟨trivial, by kernel_rfl⟩
    ·
     refine known [30, 29] h6 (by kernel_rfl) (f1 10 [(2, aB false)] (wp_ret ?_))
     obtain rfl := Option.some.inj hm
     exact ⟨trivial, by kernel_rfl⟩
   ·
    refine c0 h5 (sq (dn [(1, .ptr 0 0), (4, aI a0.fKind), (40, aB (a0.fKind == 2))] ?_))
    rcases bif_some hm with ⟨h9, hm⟩ | ⟨h9, hm⟩
    ·
     refine c1 h9 (sq (rg (s1 2 [(43, aF a0.fFloat), (42, .ptr 0 2)] ?_)))
     obtain ⟨x10, h11, hm⟩ := bs hm
     refine dv 44 (cpure (by kernel_rfl) (ok_ref04_zero h11) (by kernel_rfl) (by kernel_rfl) (by kernel_rfl)) (by kernel_rfl) (s1 1 [(45, aB x10)] ?_)
     refine segP x10 [45, 44] (fun b => [(49, aB (b && (sEq a0.fText ByteArray.empty))), (48, ifA b (aB (sEq a0.fText ByteArray.empty)) (.undef)), (47, ifA b (aS a0.fText) (.undef)), (46, ifA b (.ptr 0 3) (.undef))]) 4 (by kernel_rfl) (by kernel_rfl) (by kernel_rfl) (f1 1 [(2, aB (x10 && (sEq a0.fText ByteArray.empty)))] (wp_ret ?_))
     obtain rfl := Option.some.inj hm
     exact ⟨trivial, by kernel_rfl⟩
    ·
     refine c0 h9 (sq (dn [(1, .ptr 0 0), (4, aI a0.fKind), (50, aB (a0.fKind == 3))] ?_))
     rcases bif_some hm with ⟨h12, hm⟩ | ⟨h12, hm⟩
     ·
      refine c1 h12 (sq (rg (s1 4 [(55, aB (a0.fInt == 0)), (54, aB (a0.fInt == 0)), (53, aI a0.fInt), (52, .ptr 0 1)] ?_)))
      refine segP (a0.fInt == 0) [55, 54] (fun b => [(59, aB (b && (sEq a0.fText ByteArray.empty))), (58, ifA b (aB (sEq a0.fText ByteArray.empty)) (.undef)), (57, ifA b (aS a0.fText) (.undef)), (56, ifA b (.ptr 0 3) (.undef))]) 4 (by kernel_rfl) (by kernel_rfl) (by kernel_rfl) (f1 1 [(2, aB ((a0.fInt == 0) && (sEq a0.fText ByteArray.empty)))] (wp_ret ?_))
      obtain rfl := Option.some.inj hm
      exact ⟨trivial, by kernel_rfl⟩
     ·
      refine c0 h12 (sq (dn [(1, .ptr 0 0), (60, aB (a0.fKind == 4))] ?_))
      rcases bif_some hm with ⟨h13, hm⟩ | ⟨h13, hm⟩
      ·
       refine c1 h13 (sq (rg (s1 4 [(65, aB (a0.fInt == 0)), (64, aB (a0.fInt == 0)), (63, aI a0.fInt), (62, .ptr 0 1)] ?_)))
       rcases bif_some hm with ⟨h14, hm⟩ | ⟨h14, hm⟩
       ·
        refine known [65, 64] h14 (by kernel_rfl) (s1 2 [(67, aF a0.fFloat), (66, .ptr 0 2)] ?_)
        obtain ⟨x15, h16, hm⟩ := bs hm
        refine dv 68 (cpure (by kernel_rfl) (ok_ref04_zero h16) (by kernel_rfl) (by kernel_rfl) (by kernel_rfl)) (by kernel_rfl) (s1 2 [(70, aB x15), (69, aB x15)] ?_)
        refine segP x15 [70, 69, 68] (fun b => [(75, aB (b && (decide ((a0.fText.size : Int) ≤ 64)))), (74, ifA b (aB (decide ((a0.fText.size : Int) ≤ 64))) (.undef)), (73, ifA b (aI (a0.fText.size : Int)) (.undef)), (72, ifA b (aS a0.fText) (.undef)), (71, ifA b (.ptr 0 3) (.undef))]) 5 (by kernel_rfl) (by kernel_rfl) (by kernel_rfl) (f1 1 [(2, aB (x15 && (decide ((a0.fText.size : Int) ≤ 64))))] (wp_ret ?_))
        obtain rfl := Option.some.inj hm
        exact ⟨trivial, by kernel_rfl⟩
       ·
        refine known [65, 64] h14 (by kernel_rfl) (f1 11 [(2, aB false)] (wp_ret ?_))
        obtain rfl := Option.some.inj hm
        exact ⟨trivial, by kernel_rfl⟩
      ·
       refine c0 h13 (wp_skip (sq (dn [(2, aB false)] (wp_ret ?_))))
       obtain rfl := Option.some.inj hm
       exact ⟨trivial, by kernel_rfl⟩
theorem okf_ref22_parts {rc_ref22_parts : (Nat → api_Expr → Int → Option (Int))} (ih_ref22_parts : ∀ {n : Nat} {a0 : api_Expr} {a1 : Int} {r : Int} (hm : rc_ref22_parts n a0 a1 = some r), call G n 204 [.agg [aI a0.fKind, aI a0.fRel, aI a0.fCol, aI a0.fConst.fKind, aI a0.fConst.fInt, aF a0.fConst.fFloat, aS a0.fConst.fText, .pv (encSl R_E_api_Expr a0.fKids)], aI a1] [] = some (.ret (aI r), [])) {n : Nat} {a0 : api_Expr} {a1 : Int} {r : Int} (hm : ref22_parts_f rc_ref22_parts n a0 a1 = some r) :
    call G n 204 [.agg [aI a0.fKind, aI a0.fRel, aI a0.fCol, aI a0.fConst.fKind, aI a0.fConst.fInt, aF a0.fConst.fFloat, aS a0.fConst.fText, .pv (encSl R_E_api_Expr a0.fKids)], aI a1] [] = some (.ret (aI r), []) := by
  unfold ref22_parts_f at hm
  obtain ⟨n, rfl, h0⟩ := at1_some hm
  replace hm := h0; clear h0
  refine callL 92 [(0, .agg [aI a0.fKind, aI a0.fRel, aI a0.fCol, aI a0.fConst.fKind, aI a0.fConst.fInt, aF a0.fConst.fFloat, aS a0.fConst.fText, .pv (encSl R_E_api_Expr a0.fKids)]), (1, aI a1)] func204 rfl (by kernel_rfl) (sq (det [(1, aI a1), (2, .ptr 0 0)] [.box [aI a0.fKind, aI a0.fRel, aI a0.fCol, aI a0.fConst.fKind, aI a0.fConst.fInt, aF a0.fConst.fFloat, aS a0.fConst.fText, .pv (encSl R_E_api_Expr a0.fKids)] false] (by kernel_rfl) (sq (dn [(1, aI a1), (2, .ptr 0 0), (5, aI 401)] ?_))))
  obtain ⟨k2, hk2, hm⟩ := withK_some hm
  refine mid (fun t H => (∃ (y1 : Bool), k2 () = some r ∧ t = mk 92 [(1, aI a1), (2, .ptr 0 0), (5, aI 401), (53, aB y1)] ∧ H = [.box [aI a0.fKind, aI a0.fRel, aI a0.fCol, aI a0.fConst.fKind, aI a0.fConst.fInt, aF a0.fConst.fFloat, aS a0.fConst.fText, .pv (encSl R_E_api_Expr a0.fKids)] false])) ?_ ?_
  ·
   rintro _ _ ⟨y1, hm, rfl, rfl⟩
   subst hk2
   refine sq (sq (rg (s1 2 [(56, .agg [aI a0.fConst.fKind, aI a0.fConst.fInt, aF a0.fConst.fFloat, aS a0.fConst.fText]), (55, .ptr 0 3)] ?_)))
   obtain ⟨x3, h4, hm⟩ := bs hm
   refine dv 57 (cpure (by kernel_rfl) (ok_ref04_Right h4) (by kernel_rfl) (by kernel_rfl) (by kernel_rfl)) (by kernel_rfl) (s1 2 [(59, aB (!x3)), (58, aB (!x3))] ?_)
   refine seg (!x3) [59, 58] (fun b => [(69, aB (b || ((a0.fKind != 2) && (a0.fConst.fKind != 0)))), (68, ifA b (.undef) (aB ((a0.fKind != 2) && (a0.fConst.fKind != 0)))), (67, ifA b (.undef) (ifA (a0.fKind != 2) (aB (a0.fConst.fKind != 0)) (.undef))), (66, ifA b (.undef) (ifA (a0.fKind != 2) (aI a0.fConst.fKind) (.undef))), (65, ifA b (.undef) (ifA (a0.fKind != 2) (.ptr 0 3) (.undef))), (64, ifA b (.undef) (ifA (a0.fKind != 2) (.ptr 0 3) (.undef))), (63, ifA b (.undef) (aB (a0.fKind != 2))), (62, ifA b (.undef) (aB (a0.fKind != 2))), (61, ifA b (.undef) (aI a0.fKind)), (60, ifA b (.undef) (.ptr 0 0))]) 15 (by kernel_rfl) ?_ ?_ ?_
   ·
    intro Q h
    refine s1 10 [(69, aB true), (68, .undef), (67, .undef), (66, .undef), (65, .undef), (64, .undef), (63, .undef), (62, .undef), (61, .undef), (60, .undef)] ?_
    exact sameN (by kernel_rfl) (by kernel_rfl) h
   ·
    intro Q h
    refine s1 4 [(63, aB (a0.fKind != 2)), (62, aB (a0.fKind != 2)), (61, aI a0.fKind), (60, .ptr 0 0)] ?_
    refine segP (a0.fKind != 2) [63, 62] (fun b => [(68, aB (b && (a0.fConst.fKind != 0))), (67, ifA b (aB (a0.fConst.fKind != 0)) (.undef)), (66, ifA b (aI a0.fConst.fKind) (.undef)), (65, ifA b (.ptr 0 3) (.undef)), (64, ifA b (.ptr 0 3) (.undef))]) 5 (by kernel_rfl) (by kernel_rfl) (by kernel_rfl) (s1 1 [(69, aB ((a0.fKind != 2) && (a0.fConst.fKind != 0)))] ?_)
    exact sameN (by kernel_rfl) (by kernel_rfl) h
   refine fin [(1, aI a1), (2, .ptr 0 0), (5, aI 401), (69, aB ((!x3) || ((a0.fKind != 2) && (a0.fConst.fKind != 0))))] rfl (by kernel_rfl) ?_
   rcases bif_some hm with ⟨h5, hm⟩ | ⟨h5, hm⟩
   ·
    refine c1 h5 (sq (dn [(4, aI 401)] (wp_ret ?_)))
    obtain rfl := Option.some.inj hm
    exact ⟨trivial, by kernel_rfl⟩
   ·
    refine c0 h5 (wp_skip (sq (dn [(1, aI a1), (2, .ptr 0 0), (5, aI 401), (6, aI 1)] ?_)))
    obtain ⟨k9, hk9, hm⟩ := withK_some hm
    refine mid (fun t H => (∃ (y6 : Int) (y7 : Int) (y8 : Bool), k9 y6 = some r ∧ t = mk 92 [(1, aI a1), (2, .ptr 0 0), (5, aI 401), (6, aI y6), (7, aI y7), (75, aB y8)] ∧ H = [.box [aI a0.fKind, aI a0.fRel, aI a0.fCol, aI a0.fConst.fKind, aI a0.fConst.fInt, aF a0.fConst.fFloat, aS a0.fConst.fText, .pv (encSl R_E_api_Expr a0.fKids)] false])) ?_ ?_
    ·
     rintro _ _ ⟨y6, y7, y8, hm, rfl, rfl⟩
     subst hk9
     refine sq (dn [(4, aI y6)] (wp_ret ?_))
     obtain rfl := Option.some.inj hm
     exact ⟨trivial, by kernel_rfl⟩
    refine sq (dn [(1, aI a1), (2, .ptr 0 0), (5, aI 401), (6, aI 1), (7, aI 0)] (bq ?_))
    refine loopF (fun mm t H => (∃ (y12 : Int) (y13 : Int), ref22_parts_l8 n rc_ref22_parts a0 a1 k9 mm y12 y13 = some r ∧ t = mk 92 [(1, aI a1), (2, .ptr 0 0), (5, aI 401), (6, aI y12), (7, aI y13)] ∧ H = [.box [aI a0.fKind, aI a0.fRel, aI a0.fCol, aI a0.fConst.fKind, aI a0.fConst.fInt, aF a0.fConst.fFloat, aS a0.fConst.fText, .pv (encSl R_E_api_Expr a0.fKids)] false])) (⟨1, 0, hm, rfl, rfl⟩) ?_ ?_
    · rintro _ _ ⟨y12, y13, hm, _⟩; exact nomatch hm
    rintro m14 _ _ ⟨y12, y13, hm, rfl, rfl⟩
    simp only [ref22_parts_l8] at hm
    refine sq (sq (rg (s1 3 [(73, .pv (encSl R_E_api_Expr a0.fKids)), (72, .ptr 0 7), (71, aI y13)] (dv 74 (v := aI ((sll a0.fKids).length : Int)) (len_slO R_E_api_Expr a0.fKids t23 (by kernel_rfl)) (by kernel_rfl) (f1 1 [(1, aI a1), (2, .ptr 0 0), (5, aI 401), (6, aI y12), (7, aI y13), (75, aB (decide (y13 < ((sll a0.fKids).length : Int))))] ?_)))))
    rcases bif_some hm with ⟨h15, hm⟩ | ⟨h15, hm⟩
    ·
     refine c1 h15 (wp_skip (sq (bq (sq (rg (s1 4 [(81, aI y13), (80, .pv (encSl R_E_api_Expr a0.fKids)), (79, .ptr 0 7), (78, aI y12)] ?_))))))
     obtain ⟨x16, h17, hm⟩ := bs hm
     refine dv 82 (v := .pv (.ptr (R_api_Expr (un_api_Expr x16)) 0)) (ia_slE R_E_api_Expr a0.fKids .i64 t23 t49 h17 (R_un_api_Expr x16) rfl (by kernel_rfl)) (by kernel_rfl) (s1 3 [(85, aI (IntKind.wrap .i64 (a1 + 1))), (84, aI a1), (83, .agg [aI ((un_api_Expr x16).fKind), aI ((un_api_Expr x16).fRel), aI ((un_api_Expr x16).fCol), aI (((un_api_Expr x16).fConst).fKind), aI (((un_api_Expr x16).fConst).fInt), aF (((un_api_Expr x16).fConst).fFloat), aS (((un_api_Expr x16).fConst).fText), .pv (encSl R_E_api_Expr ((un_api_Expr x16).fKids))])] ?_)
     obtain ⟨x18, h19, hm⟩ := bs hm
     refine dv 86 (cpure (by kernel_rfl) (ih_ref22_parts h19) (by kernel_rfl) (by kernel_rfl) (by kernel_rfl)) (by kernel_rfl) (f1 2 [(1, aI a1), (2, .ptr 0 0), (5, aI 401), (6, aI (IntKind.wrap .i64 (y12 + x18))), (7, aI y13)] (sq (dn [(1, aI a1), (2, .ptr 0 0), (5, aI 401), (6, aI (IntKind.wrap .i64 (y12 + x18))), (7, aI y13), (89, aB (decide ((IntKind.wrap .i64 (y12 + x18)) > 400)))] ?_)))
     rcases bif_some hm with ⟨h20, hm⟩ | ⟨h20, hm⟩
     ·
      refine c1 h20 (sq (dn [(4, aI 401)] (wp_ret ?_)))
      obtain rfl := Option.some.inj hm
      exact ⟨trivial, by kernel_rfl⟩
     ·
      refine c0 h20 (wp_skip (dn [(1, aI a1), (2, .ptr 0 0), (5, aI 401), (6, aI (IntKind.wrap .i64 (y12 + x18))), (7, aI (IntKind.wrap .i64 (y13 + 1)))] ?_))
      exact ⟨_, _, tidyL [(1, aI a1), (2, .ptr 0 0), (5, aI 401), (6, aI (IntKind.wrap .i64 (y12 + x18))), (7, aI (IntKind.wrap .i64 (y13 + 1)))] [.box [aI a0.fKind, aI a0.fRel, aI a0.fCol, aI a0.fConst.fKind, aI a0.fConst.fInt, aF a0.fConst.fFloat, aS a0.fConst.fText, .pv (encSl R_E_api_Expr a0.fKids)] false] (by kernel_rfl), ⟨(IntKind.wrap .i64 (y12 + x18)), (IntKind.wrap .i64 (y13 + 1)), hm, rfl, rfl⟩⟩
    ·
     refine c0 h15 (wp_exit ?_)
     exact ⟨y12, y13, (decide (y13 < ((sll a0.fKids).length : Int))), hm, rfl, rfl⟩
  refine sq (rgd (shd 3 [(10, aB (decide (a1 > 24))), (9, aB (decide (a1 > 24))), (8, aI a1)] (by kernel_rfl) ?_))
  rcases bif_some hm with ⟨h21, hm⟩ | ⟨h21, hm⟩
  ·
   refine knownd [10, 9] h21 (by kernel_rfl) (shd 43 [(53, aB true), (52, .undef), (51, .undef), (50, .undef), (49, .undef), (48, .undef), (47, .undef), (46, .undef), (45, .undef), (44, .undef), (43, .undef), (42, .undef), (41, .undef), (40, .undef), (39, aB true), (38, aB true), (37, .undef), (36, .undef), (35, .undef), (34, aB true), (33, aB true), (32, .undef), (31, .undef), (30, .undef), (29, aB true), (28, aB true), (27, .undef), (26, .undef), (25, .undef), (24, aB true), (23, aB true), (22, .undef), (21, .undef), (20, .undef), (19, aB true), (18, aB true), (17, .undef), (16, .undef), (15, .undef), (14, .undef), (13, .undef), (12, .undef), (11, .undef)] (by kernel_rfl) (find [(1, aI a1), (2, .ptr 0 0), (5, aI 401), (53, aB true)] rfl (by kernel_rfl) (by kernel_rfl) (cT (by kernel_rfl) (sq (dn [(4, aI 401)] (wp_ret ?_))))))
   obtain rfl := Option.some.inj hm
   exact ⟨trivial, by kernel_rfl⟩
  ·
   refine knownd [10, 9] h21 (by kernel_rfl) (shd 2 [(12, aI a0.fKind), (11, .ptr 0 0)] (by kernel_rfl) ?_)
   obtain ⟨x22, h23, hm⟩ := bs hm
   refine dvd 13 (cpure (by kernel_rfl) (ok_ref22_Kids h23) (by kernel_rfl) (by kernel_rfl) (by kernel_rfl)) (by kernel_rfl) (shd 2 [(15, .pv (encSl R_E_api_Expr a0.fKids)), (14, .ptr 0 7)] (by kernel_rfl) (dvd 16 (v := aI ((sll a0.fKids).length : Int)) (len_slO R_E_api_Expr a0.fKids t23 (by kernel_rfl)) (by kernel_rfl) (shd 3 [(19, aB (x22 != ((sll a0.fKids).length : Int))), (18, aB (x22 != ((sll a0.fKids).length : Int))), (17, aB (x22 != ((sll a0.fKids).length : Int)))] (by kernel_rfl) ?_)))
   rcases bif_some hm with ⟨h24, hm⟩ | ⟨h24, hm⟩
   ·
    refine knownd [19, 18, 17] h24 (by kernel_rfl) (shd 34 [(53, aB true), (52, .undef), (51, .undef), (50, .undef), (49, .undef), (48, .undef), (47, .undef), (46, .undef), (45, .undef), (44, .undef), (43, .undef), (42, .undef), (41, .undef), (40, .undef), (39, aB true), (38, aB true), (37, .undef), (36, .undef), (35, .undef), (34, aB true), (33, aB true), (32, .undef), (31, .undef), (30, .undef), (29, aB true), (28, aB true), (27, .undef), (26, .undef), (25, .undef), (24, aB true), (23, aB true), (22, .undef), (21, .undef), (20, .undef)] (by kernel_rfl) (find [(1, aI a1), (2, .ptr 0 0), (5, aI 401), (53, aB true)] rfl (by kernel_rfl) (by kernel_rfl) (cT (by kernel_rfl) (sq (dn [(4, aI 401)] (wp_ret ?_))))))
    obtain rfl := Option.some.inj hm
    exact ⟨trivial, by kernel_rfl⟩
   ·
    refine knownd [19, 18, 17] h24 (by kernel_rfl) (shd 5 [(24, aB (decide (a0.fRel < 0))), (23, aB (decide (a0.fRel < 0))), (22, aB (decide (a0.fRel < 0))), (21, aI a0.fRel), (20, .ptr 0 1)] (by kernel_rfl) ?_)
    rcases bif_some hm with ⟨h25, hm⟩ | ⟨h25, hm⟩
    ·
     refine knownd [24, 23, 22] h25 (by kernel_rfl) (shd 29 [(53, aB true), (52, .undef), (51, .undef), (50, .undef), (49, .undef), (48, .undef), (47, .undef), (46, .undef), (45, .undef), (44, .undef), (43, .undef), (42, .undef), (41, .undef), (40, .undef), (39, aB true), (38, aB true), (37, .undef), (36, .undef), (35, .undef), (34, aB true), (33, aB true), (32, .undef), (31, .undef), (30, .undef), (29, aB true), (28, aB true), (27, .undef), (26, .undef), (25, .undef)] (by kernel_rfl) (find [(1, aI a1), (2, .ptr 0 0), (5, aI 401), (53, aB true)] rfl (by kernel_rfl) (by kernel_rfl) (cT (by kernel_rfl) (sq (dn [(4, aI 401)] (wp_ret ?_))))))
     obtain rfl := Option.some.inj hm
     exact ⟨trivial, by kernel_rfl⟩
    ·
     refine knownd [24, 23, 22] h25 (by kernel_rfl) (shd 5 [(29, aB (decide (a0.fRel > 31))), (28, aB (decide (a0.fRel > 31))), (27, aB (decide (a0.fRel > 31))), (26, aI a0.fRel), (25, .ptr 0 1)] (by kernel_rfl) ?_)
     rcases bif_some hm with ⟨h26, hm⟩ | ⟨h26, hm⟩
     ·
      refine knownd [29, 28, 27] h26 (by kernel_rfl) (shd 24 [(53, aB true), (52, .undef), (51, .undef), (50, .undef), (49, .undef), (48, .undef), (47, .undef), (46, .undef), (45, .undef), (44, .undef), (43, .undef), (42, .undef), (41, .undef), (40, .undef), (39, aB true), (38, aB true), (37, .undef), (36, .undef), (35, .undef), (34, aB true), (33, aB true), (32, .undef), (31, .undef), (30, .undef)] (by kernel_rfl) (find [(1, aI a1), (2, .ptr 0 0), (5, aI 401), (53, aB true)] rfl (by kernel_rfl) (by kernel_rfl) (cT (by kernel_rfl) (sq (dn [(4, aI 401)] (wp_ret ?_))))))
      obtain rfl := Option.some.inj hm
      exact ⟨trivial, by kernel_rfl⟩
     ·
      refine knownd [29, 28, 27] h26 (by kernel_rfl) (shd 5 [(34, aB (decide (a0.fCol < 0))), (33, aB (decide (a0.fCol < 0))), (32, aB (decide (a0.fCol < 0))), (31, aI a0.fCol), (30, .ptr 0 2)] (by kernel_rfl) ?_)
      rcases bif_some hm with ⟨h27, hm⟩ | ⟨h27, hm⟩
      ·
       refine knownd [34, 33, 32] h27 (by kernel_rfl) (shd 19 [(53, aB true), (52, .undef), (51, .undef), (50, .undef), (49, .undef), (48, .undef), (47, .undef), (46, .undef), (45, .undef), (44, .undef), (43, .undef), (42, .undef), (41, .undef), (40, .undef), (39, aB true), (38, aB true), (37, .undef), (36, .undef), (35, .undef)] (by kernel_rfl) (find [(1, aI a1), (2, .ptr 0 0), (5, aI 401), (53, aB true)] rfl (by kernel_rfl) (by kernel_rfl) (cT (by kernel_rfl) (sq (dn [(4, aI 401)] (wp_ret ?_))))))
       obtain rfl := Option.some.inj hm
       exact ⟨trivial, by kernel_rfl⟩
      ·
       refine knownd [34, 33, 32] h27 (by kernel_rfl) (shd 5 [(39, aB (decide (a0.fCol > 31))), (38, aB (decide (a0.fCol > 31))), (37, aB (decide (a0.fCol > 31))), (36, aI a0.fCol), (35, .ptr 0 2)] (by kernel_rfl) ?_)
       rcases bif_some hm with ⟨h28, hm⟩ | ⟨h28, hm⟩
       ·
        refine knownd [39, 38, 37] h28 (by kernel_rfl) (shd 14 [(53, aB true), (52, .undef), (51, .undef), (50, .undef), (49, .undef), (48, .undef), (47, .undef), (46, .undef), (45, .undef), (44, .undef), (43, .undef), (42, .undef), (41, .undef), (40, .undef)] (by kernel_rfl) (find [(1, aI a1), (2, .ptr 0 0), (5, aI 401), (53, aB true)] rfl (by kernel_rfl) (by kernel_rfl) (cT (by kernel_rfl) (sq (dn [(4, aI 401)] (wp_ret ?_))))))
        obtain rfl := Option.some.inj hm
        exact ⟨trivial, by kernel_rfl⟩
       ·
        refine knownd [39, 38, 37] h28 (by kernel_rfl) (shd 4 [(43, aB (a0.fKind != 1)), (42, aB (a0.fKind != 1)), (41, aI a0.fKind), (40, .ptr 0 0)] (by kernel_rfl) ?_)
        rcases bif_some hm with ⟨h29, hm⟩ | ⟨h29, hm⟩
        ·
         refine knownd [43, 42] h29 (by kernel_rfl) (shd 4 [(47, aB (a0.fRel != 0)), (46, aB (a0.fRel != 0)), (45, aI a0.fRel), (44, .ptr 0 1)] (by kernel_rfl) ?_)
         rcases bif_some hm with ⟨h30, hm⟩ | ⟨h30, hm⟩
         ·
          refine knownd [47, 46] h30 (by kernel_rfl) (shd 6 [(53, aB true), (52, aB true), (51, aB true), (50, .undef), (49, .undef), (48, .undef)] (by kernel_rfl) (find [(1, aI a1), (2, .ptr 0 0), (5, aI 401), (53, aB true)] rfl (by kernel_rfl) (by kernel_rfl) (cT (by kernel_rfl) (sq (dn [(4, aI 401)] (wp_ret ?_))))))
          obtain rfl := Option.some.inj hm
          exact ⟨trivial, by kernel_rfl⟩
         ·
          refine knownd [47, 46] h30 (by kernel_rfl) (shd 6 [(53, aB (a0.fCol != 0)), (52, aB (a0.fCol != 0)), (51, aB (a0.fCol != 0)), (50, aB (a0.fCol != 0)), (49, aI a0.fCol), (48, .ptr 0 2)] (by kernel_rfl) (find [(1, aI a1), (2, .ptr 0 0), (5, aI 401), (53, aB (a0.fCol != 0))] rfl (by kernel_rfl) (by kernel_rfl) ?_))
          rcases bif_some hm with ⟨h31, hm⟩ | ⟨h31, hm⟩
          ·
           refine c1 h31 (sq (dn [(4, aI 401)] (wp_ret ?_)))
           obtain rfl := Option.some.inj hm
           exact ⟨trivial, by kernel_rfl⟩
          ·
           refine c0 h31 (wp_skip ?_)
           exact ⟨(a0.fCol != 0), hm, rfl, rfl⟩
        ·
         refine knownd [43, 42] h29 (by kernel_rfl) (shd 10 [(53, aB false), (52, aB false), (51, .undef), (50, .undef), (49, .undef), (48, .undef), (47, .undef), (46, .undef), (45, .undef), (44, .undef)] (by kernel_rfl) (find [(1, aI a1), (2, .ptr 0 0), (5, aI 401), (53, aB false)] rfl (by kernel_rfl) (by kernel_rfl) (cF (by kernel_rfl) (wp_skip ?_))))
         exact ⟨false, hm, rfl, rfl⟩
theorem okt_ref22_parts : ∀ (m : Nat), ∀ {n : Nat} {a0 : api_Expr} {a1 : Int} {r : Int} (hm : ref22_parts_t m n a0 a1 = some r), call G n 204 [.agg [aI a0.fKind, aI a0.fRel, aI a0.fCol, aI a0.fConst.fKind, aI a0.fConst.fInt, aF a0.fConst.fFloat, aS a0.fConst.fText, .pv (encSl R_E_api_Expr a0.fKids)], aI a1] [] = some (.ret (aI r), [])
  | 0 => by intros; rename_i hm; exact nomatch hm
  | m + 1 => fun hm =>
    okf_ref22_parts (okt_ref22_parts m) hm
theorem ok_ref22_parts {n : Nat} {a0 : api_Expr} {a1 : Int} {r : Int} (hm : ref22_parts n a0 a1 = some r) :
    call G n 204 [.agg [aI a0.fKind, aI a0.fRel, aI a0.fCol, aI a0.fConst.fKind, aI a0.fConst.fInt, aF a0.fConst.fFloat, aS a0.fConst.fText, .pv (encSl R_E_api_Expr a0.fKids)], aI a1] [] = some (.ret (aI r), []) := okt_ref22_parts n hm
theorem ok_ref22_Formed {n : Nat} {a0 : api_Expr} {r : Bool} (hm : ref22_Formed n a0 = some r) :
    call G n 164 [.agg [aI a0.fKind, aI a0.fRel, aI a0.fCol, aI a0.fConst.fKind, aI a0.fConst.fInt, aF a0.fConst.fFloat, aS a0.fConst.fText, .pv (encSl R_E_api_Expr a0.fKids)]] [] = some (.ret (aB r), []) := by
  unfold ref22_Formed at hm
  obtain ⟨n, rfl, h0⟩ := at1_some hm
  replace hm := h0; clear h0
  refine callL 6 [(0, .agg [aI a0.fKind, aI a0.fRel, aI a0.fCol, aI a0.fConst.fKind, aI a0.fConst.fInt, aF a0.fConst.fFloat, aS a0.fConst.fText, .pv (encSl R_E_api_Expr a0.fKids)])] func164 rfl (by kernel_rfl) (sq (det [(1, .ptr 0 0)] [.box [aI a0.fKind, aI a0.fRel, aI a0.fCol, aI a0.fConst.fKind, aI a0.fConst.fInt, aF a0.fConst.fFloat, aS a0.fConst.fText, .pv (encSl R_E_api_Expr a0.fKids)] false] (by kernel_rfl) (sq (rg (s1 1 [(3, .agg [aI a0.fKind, aI a0.fRel, aI a0.fCol, aI a0.fConst.fKind, aI a0.fConst.fInt, aF a0.fConst.fFloat, aS a0.fConst.fText, .pv (encSl R_E_api_Expr a0.fKids)])] ?_)))))
  obtain ⟨x1, h2, hm⟩ := bs hm
  refine dv 4 (cpure (by kernel_rfl) (ok_ref22_parts h2) (by kernel_rfl) (by kernel_rfl) (by kernel_rfl)) (by kernel_rfl) (f1 2 [(2, aB (decide (x1 ≤ 400)))] (wp_ret ?_))
  obtain rfl := Option.some.inj hm
  exact ⟨trivial, by kernel_rfl⟩
theorem ok_ref22_True {n : Nat} {a0 : api_Value} {r : Bool} (hm : ref22_True n a0 = some r) :
    call G n 205 [.agg [aI a0.fKind, aI a0.fInt, aF a0.fFloat, aS a0.fText]] [] = some (.ret (aB r), []) := by
  unfold ref22_True at hm
  obtain ⟨n, rfl, h0⟩ := at1_some hm
  replace hm := h0; clear h0
  refine callL 11 [(0, .agg [aI a0.fKind, aI a0.fInt, aF a0.fFloat, aS a0.fText])] func205 rfl (by kernel_rfl) (sq (det [(1, .ptr 0 0)] [.box [aI a0.fKind, aI a0.fInt, aF a0.fFloat, aS a0.fText] false] (by kernel_rfl) (sq (rg (s1 4 [(6, aB (a0.fKind == 1)), (5, aB (a0.fKind == 1)), (4, aI a0.fKind), (3, .ptr 0 0)] ?_)))))
  refine segP (a0.fKind == 1) [6, 5] (fun b => [(10, aB (b && (a0.fInt == 1))), (9, ifA b (aB (a0.fInt == 1)) (.undef)), (8, ifA b (aI a0.fInt) (.undef)), (7, ifA b (.ptr 0 1) (.undef))]) 4 (by kernel_rfl) (by kernel_rfl) (by kernel_rfl) (f1 1 [(2, aB ((a0.fKind == 1) && (a0.fInt == 1)))] (wp_ret ?_))
  obtain rfl := Option.some.inj hm
  exact ⟨trivial, by kernel_rfl⟩
theorem ok_ref31_known {n : Nat} {a0 : api_Expr} {a1 : (Option (List tabularyref20_Stat))} {r : Bool} (hm : ref31_known n a0 a1 = some r) :
    call G n 208 [.agg [aI a0.fKind, aI a0.fRel, aI a0.fCol, aI a0.fConst.fKind, aI a0.fConst.fInt, aF a0.fConst.fFloat, aS a0.fConst.fText, .pv (encSl R_E_api_Expr a0.fKids)], .pv (encSl R_tabularyref20_Stat a1)] [] = some (.ret (aB r), []) := by
  unfold ref31_known at hm
  obtain ⟨n, rfl, h0⟩ := at1_some hm
  replace hm := h0; clear h0
  refine callL 27 [(0, .agg [aI a0.fKind, aI a0.fRel, aI a0.fCol, aI a0.fConst.fKind, aI a0.fConst.fInt, aF a0.fConst.fFloat, aS a0.fConst.fText, .pv (encSl R_E_api_Expr a0.fKids)]), (1, .pv (encSl R_tabularyref20_Stat a1))] func208 rfl (by kernel_rfl) (sq (det [(1, .pv (encSl R_tabularyref20_Stat a1)), (2, .ptr 0 0)] [.box [aI a0.fKind, aI a0.fRel, aI a0.fCol, aI a0.fConst.fKind, aI a0.fConst.fInt, aF a0.fConst.fFloat, aS a0.fConst.fText, .pv (encSl R_E_api_Expr a0.fKids)] false] (by kernel_rfl) (sq (rgd (shd 4 [(8, aB (a0.fKind == 1)), (7, aB (a0.fKind == 1)), (6, aI a0.fKind), (5, .ptr 0 0)] (by kernel_rfl) ?_)))))
  rcases bif_some hm with ⟨h1, hm⟩ | ⟨h1, hm⟩
  ·
   refine knownd [8, 7] h1 (by kernel_rfl) (shd 3 [(11, .pv (encSl R_tabularyref20_Stat a1)), (10, aI a0.fRel), (9, .ptr 0 1)] (by kernel_rfl) (dvd 12 (v := aI ((sll a1).length : Int)) (len_slO R_tabularyref20_Stat a1 t51 (by kernel_rfl)) (by kernel_rfl) (shd 3 [(15, aB (decide (a0.fRel < ((sll a1).length : Int)))), (14, aB (decide (a0.fRel < ((sll a1).length : Int)))), (13, aB (decide (a0.fRel < ((sll a1).length : Int))))] (by kernel_rfl) ?_)))
   rcases bif_some hm with ⟨h2, hm⟩ | ⟨h2, hm⟩
   ·
    refine knownd [15, 14, 13] h2 (by kernel_rfl) (shd 5 [(20, aI a0.fRel), (19, .ptr 0 1), (18, .pv (encSl R_tabularyref20_Stat a1)), (17, aI a0.fCol), (16, .ptr 0 2)] (by kernel_rfl) ?_)
    obtain ⟨x3, h4, hm⟩ := bs hm
    refine dvd 21 (v := .pv (.ptr (R_tabularyref20_Stat x3) 0)) (ia_slO R_tabularyref20_Stat a1 .i64 t51 t148 h4 rfl (by kernel_rfl)) (by kernel_rfl) (shd 2 [(23, .pv (encSl R_tabularyref20_Col x3.fCols)), (22, .pv (.ptr (R_tabularyref20_Stat x3) 1))] (by kernel_rfl) (dvd 24 (v := aI ((sll x3.fCols).length : Int)) (len_slO R_tabularyref20_Col x3.fCols t146 (by kernel_rfl)) (by kernel_rfl) (shd 3 [(4, aB (decide (a0.fCol < ((sll x3.fCols).length : Int)))), (26, aB (decide (a0.fCol < ((sll x3.fCols).length : Int)))), (25, aB (decide (a0.fCol < ((sll x3.fCols).length : Int))))] (by kernel_rfl) (find [(4, aB (decide (a0.fCol < ((sll x3.fCols).length : Int))))] rfl (by kernel_rfl) (by kernel_rfl) (wp_ret ?_)))))
    obtain rfl := Option.some.inj hm
    exact ⟨trivial, by kernel_rfl⟩
   ·
    refine knownd [15, 14, 13] h2 (by kernel_rfl) (shd 12 [(4, aB false), (26, aB false), (25, .undef), (24, .undef), (23, .undef), (22, .undef), (21, .undef), (20, .undef), (19, .undef), (18, .undef), (17, .undef), (16, .undef)] (by kernel_rfl) (find [(4, aB false)] rfl (by kernel_rfl) (by kernel_rfl) (wp_ret ?_)))
    obtain rfl := Option.some.inj hm
    exact ⟨trivial, by kernel_rfl⟩
  ·
   refine knownd [8, 7] h1 (by kernel_rfl) (shd 19 [(4, aB false), (26, aB false), (25, .undef), (24, .undef), (23, .undef), (22, .undef), (21, .undef), (20, .undef), (19, .undef), (18, .undef), (17, .undef), (16, .undef), (15, aB false), (14, aB false), (13, .undef), (12, .undef), (11, .undef), (10, .undef), (9, .undef)] (by kernel_rfl) (find [(4, aB false)] rfl (by kernel_rfl) (by kernel_rfl) (wp_ret ?_)))
   obtain rfl := Option.some.inj hm
   exact ⟨trivial, by kernel_rfl⟩
theorem ok_ref31_one {n : Nat} {a0 : Int} {r : Int} (hm : ref31_one n a0 = some r) :
    call G n 245 [aI a0] [] = some (.ret (aU r), []) := by
  unfold ref31_one at hm
  obtain ⟨n, rfl, h0⟩ := at1_some hm
  replace hm := h0; clear h0
  refine callL 8 [(0, aI a0)] func245 rfl (by kernel_rfl) (sq (dn [(0, aI a0)] (sq (sq (dn [(0, aI a0), (4, aB (decide (a0 < 1)))] ?_)))))
  rcases bif_some hm with ⟨h1, hm⟩ | ⟨h1, hm⟩
  ·
   refine c1 h1 (dn [(0, aI 1)] (sq (dn [(2, aU (IntKind.wrap .u64 (Int.tdiv 1048576 1)))] (wp_ret ?_))))
   obtain rfl := Option.some.inj hm
   exact ⟨trivial, by kernel_rfl⟩
  ·
   refine c0 h1 (wp_skip (sq (rg (s1 2 [(6, aU (IntKind.wrap .u64 a0)), (5, aI a0)] ?_))))
   obtain ⟨_, h2, hm⟩ := bs hm
   refine dv 7 (v := aU (IntKind.wrap .u64 (Int.tdiv 1048576 (IntKind.wrap .u64 a0)))) (quoO h2 (by kernel_rfl)) (by kernel_rfl) (f1 1 [(2, aU (IntKind.wrap .u64 (Int.tdiv 1048576 (IntKind.wrap .u64 a0))))] (wp_ret ?_))
   obtain rfl := Option.some.inj hm
   exact ⟨trivial, by kernel_rfl⟩
theorem ok_ref19_plain {n : Nat} {a0 : api_Value} {r : Bool} (hm : ref19_plain n a0 = some r) :
    call G n 269 [.agg [aI a0.fKind, aI a0.fInt, aF a0.fFloat, aS a0.fText]] [] = some (.ret (aB r), []) := by
  unfold ref19_plain at hm
  obtain ⟨n, rfl, h0⟩ := at1_some hm
  replace hm := h0; clear h0
  refine callL 21 [(0, .agg [aI a0.fKind, aI a0.fInt, aF a0.fFloat, aS a0.fText])] func269 rfl (by kernel_rfl) (sq (det [(1, .ptr 0 0)] [.box [aI a0.fKind, aI a0.fInt, aF a0.fFloat, aS a0.fText] false] (by kernel_rfl) (sq (rg (s1 1 [(3, .agg [aI a0.fKind, aI a0.fInt, aF a0.fFloat, aS a0.fText])] ?_)))))
  obtain ⟨x1, h2, hm⟩ := bs hm
  refine dv 4 (cpure (by kernel_rfl) (ok_ref04_Right h2) (by kernel_rfl) (by kernel_rfl) (by kernel_rfl)) (by kernel_rfl) (s1 1 [(5, aB x1)] ?_)
  refine segP x1 [5, 4] (fun b => [(9, aB (b && (a0.fKind != 0))), (8, ifA b (aB (a0.fKind != 0)) (.undef)), (7, ifA b (aI a0.fKind) (.undef)), (6, ifA b (.ptr 0 0) (.undef))]) 4 (by kernel_rfl) (by kernel_rfl) (by kernel_rfl) (s1 1 [(10, aB (x1 && (a0.fKind != 0)))] ?_)
  rcases bif_some hm with ⟨h3, hm⟩ | ⟨h3, hm⟩
  ·
   refine known [10, 9] h3 (by kernel_rfl) (s1 4 [(14, aB ((FloatKind.format .f64).order a0.fFloat 0 != some .eq)), (13, aB ((FloatKind.format .f64).order a0.fFloat 0 != some .eq)), (12, aF a0.fFloat), (11, .ptr 0 2)] ?_)
   rcases bif_some hm with ⟨h4, hm⟩ | ⟨h4, hm⟩
   ·
    refine known [14, 13] h4 (by kernel_rfl) (f1 7 [(2, aB true)] (wp_ret ?_))
    obtain rfl := Option.some.inj hm
    exact ⟨trivial, by kernel_rfl⟩
   ·
    refine known [14, 13] h4 (by kernel_rfl) (s1 2 [(16, aF a0.fFloat), (15, .ptr 0 2)] ?_)
    obtain ⟨x5, h6, hm⟩ := bs hm
    refine dv 17 (v := aF x5) (flt_arith h6 (by kernel_rfl)) (by kernel_rfl) (f1 4 [(2, aB ((FloatKind.format .f64).order x5 0 == some .gt))] (wp_ret ?_))
    obtain rfl := Option.some.inj hm
    exact ⟨trivial, by kernel_rfl⟩
  ·
   refine known [10, 9] h3 (by kernel_rfl) (f1 11 [(2, aB false)] (wp_ret ?_))
   obtain rfl := Option.some.inj hm
   exact ⟨trivial, by kernel_rfl⟩
theorem ok_ref04_Plain {n : Nat} {a0 : api_Value} {r : api_Value} (hm : ref04_Plain n a0 = some r) :
    call G n 219 [.agg [aI a0.fKind, aI a0.fInt, aF a0.fFloat, aS a0.fText]] [] = some (.ret (.agg [aI r.fKind, aI r.fInt, aF r.fFloat, aS r.fText]), []) := by
  unfold ref04_Plain at hm
  obtain ⟨n, rfl, h0⟩ := at1_some hm
  replace hm := h0; clear h0
  refine callL 17 [(0, .agg [aI a0.fKind, aI a0.fInt, aF a0.fFloat, aS a0.fText])] func219 rfl (by kernel_rfl) (sq (det [(1, .ptr 0 0), (2, .ptr 1 0)] [.box [aI a0.fKind, aI a0.fInt, aF a0.fFloat, aS a0.fText] false, .box [aI 0, aI 0, aF 0, aS ByteArray.empty] false] (by kernel_rfl) ?_))
  refine sq (sq (rg (s1 1 [(3, .agg [aI a0.fKind, aI a0.fInt, aF a0.fFloat, aS a0.fText])] ?_)))
  obtain ⟨x1, h2, hm⟩ := bs hm
  refine dv 4 (cpure (by kernel_rfl) (ok_ref04_Right h2) (by kernel_rfl) (by kernel_rfl) (by kernel_rfl)) (by kernel_rfl) (f1 1 [(1, .ptr 0 0), (2, .ptr 1 0), (5, aB (!x1))] ?_)
  rcases bif_some hm with ⟨h3, hm⟩ | ⟨h3, hm⟩
  ·
   refine c1 h3 (sq (dn [(2, .ptr 1 0)] (wp_ret ?_)))
   obtain rfl := Option.some.inj hm
   exact ⟨trivial, by kernel_rfl⟩
  ·
   refine c0 h3 (wp_skip (sq (sq (rg (s1 4 [(10, aB (a0.fKind == 3)), (9, aB (a0.fKind == 3)), (8, aI a0.fKind), (7, .ptr 0 0)] ?_)))))
   refine segP (a0.fKind == 3) [10, 9] (fun b => [(14, aB (b && ((FloatKind.format .f64).order a0.fFloat 0 == some .eq))), (13, ifA b (aB ((FloatKind.format .f64).order a0.fFloat 0 == some .eq)) (.undef)), (12, ifA b (aF a0.fFloat) (.undef)), (11, ifA b (.ptr 0 2) (.undef))]) 4 (by kernel_rfl) (by kernel_rfl) (by kernel_rfl) (fin [(1, .ptr 0 0), (2, .ptr 1 0), (14, aB ((a0.fKind == 3) && ((FloatKind.format .f64).order a0.fFloat 0 == some .eq)))] rfl (by kernel_rfl) ?_)
   rcases bif_some hm with ⟨h4, hm⟩ | ⟨h4, hm⟩
   ·
    refine c1 h4 (sq (det [(2, .ptr 1 0)] [.box [aI a0.fKind, aI a0.fInt, aF a0.fFloat, aS a0.fText] false, .box [aI 3, aI 0, aF 0, aS ByteArray.empty] false] (by kernel_rfl) (wp_ret ?_)))
    obtain rfl := Option.some.inj hm
    exact ⟨trivial, by kernel_rfl⟩
   ·
    refine c0 h4 (wp_skip (sq (det [(2, .ptr 1 0)] [.box [aI a0.fKind, aI a0.fInt, aF a0.fFloat, aS a0.fText] false, .box [aI a0.fKind, aI a0.fInt, aF a0.fFloat, aS a0.fText] false] (by kernel_rfl) (wp_ret ?_))))
    obtain rfl := Option.some.inj hm
    exact ⟨trivial, by kernel_rfl⟩
theorem ok_ref04_Cmp {n : Nat} {a0 : api_Value} {a1 : api_Value} {r : Int} (hm : ref04_Cmp n a0 a1 = some r) :
    call G n 173 [.agg [aI a0.fKind, aI a0.fInt, aF a0.fFloat, aS a0.fText], .agg [aI a1.fKind, aI a1.fInt, aF a1.fFloat, aS a1.fText]] [] = some (.ret (aI r), []) := by
  unfold ref04_Cmp at hm
  obtain ⟨n, rfl, h0⟩ := at1_some hm
  replace hm := h0; clear h0
  refine callL 85 [(0, .agg [aI a0.fKind, aI a0.fInt, aF a0.fFloat, aS a0.fText]), (1, .agg [aI a1.fKind, aI a1.fInt, aF a1.fFloat, aS a1.fText])] func173 rfl (by kernel_rfl) (sq (det [(2, .ptr 0 0), (3, .ptr 1 0)] [.box [aI a0.fKind, aI a0.fInt, aF a0.fFloat, aS a0.fText] false, .box [aI a1.fKind, aI a1.fInt, aF a1.fFloat, aS a1.fText] false] (by kernel_rfl) (sq (rg (s1 1 [(9, .agg [aI a0.fKind, aI a0.fInt, aF a0.fFloat, aS a0.fText])] ?_)))))
  obtain ⟨x1, h2, hm⟩ := bs hm
  refine dv 10 (cpure (by kernel_rfl) (ok_ref04_Plain h2) (by kernel_rfl) (by kernel_rfl) (by kernel_rfl)) (by kernel_rfl) (stf 1 [(2, .ptr 0 0), (3, .ptr 1 0)] [.box [aI x1.fKind, aI x1.fInt, aF x1.fFloat, aS x1.fText] false, .box [aI a1.fKind, aI a1.fInt, aF a1.fFloat, aS a1.fText] false] (by kernel_rfl) (sq (rg (s1 1 [(11, .agg [aI a1.fKind, aI a1.fInt, aF a1.fFloat, aS a1.fText])] ?_))))
  obtain ⟨x3, h4, hm⟩ := bs hm
  refine dv 12 (cpure (by kernel_rfl) (ok_ref04_Plain h4) (by kernel_rfl) (by kernel_rfl) (by kernel_rfl)) (by kernel_rfl) (stf 1 [(2, .ptr 0 0), (3, .ptr 1 0)] [.box [aI x1.fKind, aI x1.fInt, aF x1.fFloat, aS x1.fText] false, .box [aI x3.fKind, aI x3.fInt, aF x3.fFloat, aS x3.fText] false] (by kernel_rfl) ?_)
  refine sq (sq (dn [(2, .ptr 0 0), (3, .ptr 1 0), (17, aB (x1.fKind != x3.fKind))] ?_))
  rcases bif_some hm with ⟨h5, hm⟩ | ⟨h5, hm⟩
  ·
   refine c1 h5 (sq (sq (dn [(22, aB (decide (x1.fKind < x3.fKind)))] ?_)))
   rcases bif_some hm with ⟨h6, hm⟩ | ⟨h6, hm⟩
   ·
    refine c1 h6 (sq (dn [(4, aI (-1))] (wp_ret ?_)))
    obtain rfl := Option.some.inj hm
    exact ⟨trivial, by kernel_rfl⟩
   ·
    refine c0 h6 (wp_skip (sq (dn [(4, aI 1)] (wp_ret ?_))))
    obtain rfl := Option.some.inj hm
    exact ⟨trivial, by kernel_rfl⟩
  ·
   refine c0 h5 (wp_skip (sq (dn [(2, .ptr 0 0), (3, .ptr 1 0), (5, aB (decide (x1.fInt < x3.fInt)))] (sq (dn [(2, .ptr 0 0), (3, .ptr 1 0), (5, aB (decide (x1.fInt < x3.fInt))), (6, aB (decide (x1.fInt > x3.fInt)))] ?_)))))
   obtain ⟨k10, hk10, hm⟩ := withK_some hm
   refine mid (fun t H => (∃ (y8 : Bool) (y9 : Bool) (w7 : AV), k10 y8 y9 = some r ∧ t = mk 85 [(2, .ptr 0 0), (3, .ptr 1 0), (5, aB y8), (6, aB y9), (35, w7)] ∧ H = [.box [aI x1.fKind, aI x1.fInt, aF x1.fFloat, aS x1.fText] false, .box [aI x3.fKind, aI x3.fInt, aF x3.fFloat, aS x3.fText] false])) ?_ ?_
   ·
    rintro _ _ ⟨y8, y9, w7, hm, rfl, rfl⟩
    subst hk10
    refine sq (sq (dn [(2, .ptr 0 0), (3, .ptr 1 0), (5, aB y8), (6, aB y9), (72, aB (x1.fKind == 4))] ?_))
    rcases bif_some hm with ⟨h11, hm⟩ | ⟨h11, hm⟩
    ·
     refine c1 h11 (sq (dn [(2, .ptr 0 0), (3, .ptr 1 0), (5, aB (sLt x1.fText x3.fText))] (dn [(5, aB (sLt x1.fText x3.fText)), (6, aB (!(sLt x1.fText x3.fText || sEq x1.fText x3.fText)))] (sq (sq (dn [(6, aB (!(sLt x1.fText x3.fText || sEq x1.fText x3.fText))), (83, aB (sLt x1.fText x3.fText))] ?_))))))
     rcases bif_some hm with ⟨h12, hm⟩ | ⟨h12, hm⟩
     ·
      refine c1 h12 (sq (dn [(4, aI (-1))] (wp_ret ?_)))
      obtain rfl := Option.some.inj hm
      exact ⟨trivial, by kernel_rfl⟩
     ·
      refine c0 h12 (wp_skip (sq (sq (dn [(84, aB (!(sLt x1.fText x3.fText || sEq x1.fText x3.fText)))] ?_))))
      rcases bif_some hm with ⟨h13, hm⟩ | ⟨h13, hm⟩
      ·
       refine c1 h13 (sq (dn [(4, aI 1)] (wp_ret ?_)))
       obtain rfl := Option.some.inj hm
       exact ⟨trivial, by kernel_rfl⟩
      ·
       refine c0 h13 (wp_skip (sq (dn [(4, aI 0)] (wp_ret ?_))))
       obtain rfl := Option.some.inj hm
       exact ⟨trivial, by kernel_rfl⟩
    ·
     refine c0 h11 (wp_skip (sq (sq (dn [(6, aB y9), (83, aB y8)] ?_))))
     rcases bif_some hm with ⟨h14, hm⟩ | ⟨h14, hm⟩
     ·
      refine c1 h14 (sq (dn [(4, aI (-1))] (wp_ret ?_)))
      obtain rfl := Option.some.inj hm
      exact ⟨trivial, by kernel_rfl⟩
     ·
      refine c0 h14 (wp_skip (sq (sq (dn [(84, aB y9)] ?_))))
      rcases bif_some hm with ⟨h15, hm⟩ | ⟨h15, hm⟩
      ·
       refine c1 h15 (sq (dn [(4, aI 1)] (wp_ret ?_)))
       obtain rfl := Option.some.inj hm
       exact ⟨trivial, by kernel_rfl⟩
      ·
       refine c0 h15 (wp_skip (sq (dn [(4, aI 0)] (wp_ret ?_))))
       obtain rfl := Option.some.inj hm
       exact ⟨trivial, by kernel_rfl⟩
   refine sq (dn [(2, .ptr 0 0), (3, .ptr 1 0), (5, aB (decide (x1.fInt < x3.fInt))), (6, aB (decide (x1.fInt > x3.fInt))), (35, aB (x1.fKind == 3))] ?_)
   rcases bif_some hm with ⟨h16, hm⟩ | ⟨h16, hm⟩
   ·
    refine c1 h16 (sq (dn [(2, .ptr 0 0), (3, .ptr 1 0), (7, aB ((FloatKind.format .f64).order x1.fFloat x1.fFloat != some .eq))] (sq (dn [(2, .ptr 0 0), (3, .ptr 1 0), (7, aB ((FloatKind.format .f64).order x1.fFloat x1.fFloat != some .eq)), (8, aB ((FloatKind.format .f64).order x3.fFloat x3.fFloat != some .eq))] ?_))))
    refine sq (rg (s1 6 [(51, aB ((FloatKind.format .f64).order x1.fFloat x3.fFloat == some .lt)), (50, aB ((FloatKind.format .f64).order x1.fFloat x3.fFloat == some .lt)), (49, aF x3.fFloat), (48, .ptr 1 2), (47, aF x1.fFloat), (46, .ptr 0 2)] ?_))
    refine seg ((FloatKind.format .f64).order x1.fFloat x3.fFloat == some .lt) [51, 50] (fun b => [(57, aB (b || ((!((FloatKind.format .f64).order x1.fFloat x1.fFloat != some .eq)) && ((FloatKind.format .f64).order x3.fFloat x3.fFloat != some .eq)))), (56, ifA b (.undef) (aB ((!((FloatKind.format .f64).order x1.fFloat x1.fFloat != some .eq)) && ((FloatKind.format .f64).order x3.fFloat x3.fFloat != some .eq)))), (55, ifA b (.undef) (ifA (!((FloatKind.format .f64).order x1.fFloat x1.fFloat != some .eq)) (aB ((FloatKind.format .f64).order x3.fFloat x3.fFloat != some .eq)) (.undef))), (54, ifA b (.undef) (aB (!((FloatKind.format .f64).order x1.fFloat x1.fFloat != some .eq)))), (53, ifA b (.undef) (aB (!((FloatKind.format .f64).order x1.fFloat x1.fFloat != some .eq)))), (52, ifA b (.undef) (aB ((FloatKind.format .f64).order x1.fFloat x1.fFloat != some .eq)))]) 12 (by kernel_rfl) ?_ ?_ ?_
    ·
     intro Q h
     refine s1 6 [(57, aB true), (56, .undef), (55, .undef), (54, .undef), (53, .undef), (52, .undef)] ?_
     exact sameN (by kernel_rfl) (by kernel_rfl) h
    ·
     intro Q h
     refine s1 3 [(54, aB (!((FloatKind.format .f64).order x1.fFloat x1.fFloat != some .eq))), (53, aB (!((FloatKind.format .f64).order x1.fFloat x1.fFloat != some .eq))), (52, aB ((FloatKind.format .f64).order x1.fFloat x1.fFloat != some .eq))] ?_
     refine segP (!((FloatKind.format .f64).order x1.fFloat x1.fFloat != some .eq)) [54, 53] (fun b => [(56, aB (b && ((FloatKind.format .f64).order x3.fFloat x3.fFloat != some .eq))), (55, ifA b (aB ((FloatKind.format .f64).order x3.fFloat x3.fFloat != some .eq)) (.undef))]) 2 (by kernel_rfl) (by kernel_rfl) (by kernel_rfl) (s1 1 [(57, aB ((!((FloatKind.format .f64).order x1.fFloat x1.fFloat != some .eq)) && ((FloatKind.format .f64).order x3.fFloat x3.fFloat != some .eq)))] ?_)
     exact sameN (by kernel_rfl) (by kernel_rfl) h
    refine f1 1 [(2, .ptr 0 0), (3, .ptr 1 0), (5, aB (((FloatKind.format .f64).order x1.fFloat x3.fFloat == some .lt) || ((!((FloatKind.format .f64).order x1.fFloat x1.fFloat != some .eq)) && ((FloatKind.format .f64).order x3.fFloat x3.fFloat != some .eq)))), (7, aB ((FloatKind.format .f64).order x1.fFloat x1.fFloat != some .eq)), (8, aB ((FloatKind.format .f64).order x3.fFloat x3.fFloat != some .eq))] (rg (s1 6 [(63, aB ((FloatKind.format .f64).order x1.fFloat x3.fFloat == some .gt)), (62, aB ((FloatKind.format .f64).order x1.fFloat x3.fFloat == some .gt)), (61, aF x3.fFloat), (60, .ptr 1 2), (59, aF x1.fFloat), (58, .ptr 0 2)] ?_))
    refine seg ((FloatKind.format .f64).order x1.fFloat x3.fFloat == some .gt) [63, 62] (fun b => [(69, aB (b || (((FloatKind.format .f64).order x1.fFloat x1.fFloat != some .eq) && (!((FloatKind.format .f64).order x3.fFloat x3.fFloat != some .eq))))), (68, ifA b (.undef) (aB (((FloatKind.format .f64).order x1.fFloat x1.fFloat != some .eq) && (!((FloatKind.format .f64).order x3.fFloat x3.fFloat != some .eq))))), (67, ifA b (.undef) (ifA ((FloatKind.format .f64).order x1.fFloat x1.fFloat != some .eq) (aB (!((FloatKind.format .f64).order x3.fFloat x3.fFloat != some .eq))) (.undef))), (66, ifA b (.undef) (ifA ((FloatKind.format .f64).order x1.fFloat x1.fFloat != some .eq) (aB ((FloatKind.format .f64).order x3.fFloat x3.fFloat != some .eq)) (.undef))), (65, ifA b (.undef) (aB ((FloatKind.format .f64).order x1.fFloat x1.fFloat != some .eq))), (64, ifA b (.undef) (aB ((FloatKind.format .f64).order x1.fFloat x1.fFloat != some .eq))), (7, aB ((FloatKind.format .f64).order x1.fFloat x1.fFloat != some .eq))]) 12 (by kernel_rfl) ?_ ?_ ?_
    ·
     intro Q h
     refine s1 6 [(69, aB true), (68, .undef), (67, .undef), (66, .undef), (65, .undef), (64, .undef)] ?_
     exact sameN (by kernel_rfl) (by kernel_rfl) h
    ·
     intro Q h
     refine s1 2 [(65, aB ((FloatKind.format .f64).order x1.fFloat x1.fFloat != some .eq)), (64, aB ((FloatKind.format .f64).order x1.fFloat x1.fFloat != some .eq))] ?_
     refine segP ((FloatKind.format .f64).order x1.fFloat x1.fFloat != some .eq) [65, 64, 7] (fun b => [(68, aB (b && (!((FloatKind.format .f64).order x3.fFloat x3.fFloat != some .eq)))), (67, ifA b (aB (!((FloatKind.format .f64).order x3.fFloat x3.fFloat != some .eq))) (.undef)), (66, ifA b (aB ((FloatKind.format .f64).order x3.fFloat x3.fFloat != some .eq)) (.undef))]) 3 (by kernel_rfl) (by kernel_rfl) (by kernel_rfl) (s1 1 [(69, aB (((FloatKind.format .f64).order x1.fFloat x1.fFloat != some .eq) && (!((FloatKind.format .f64).order x3.fFloat x3.fFloat != some .eq))))] ?_)
     exact sameN (by kernel_rfl) (by kernel_rfl) h
    refine f1 1 [(2, .ptr 0 0), (3, .ptr 1 0), (5, aB (((FloatKind.format .f64).order x1.fFloat x3.fFloat == some .lt) || ((!((FloatKind.format .f64).order x1.fFloat x1.fFloat != some .eq)) && ((FloatKind.format .f64).order x3.fFloat x3.fFloat != some .eq)))), (6, aB (((FloatKind.format .f64).order x1.fFloat x3.fFloat == some .gt) || (((FloatKind.format .f64).order x1.fFloat x1.fFloat != some .eq) && (!((FloatKind.format .f64).order x3.fFloat x3.fFloat != some .eq)))))] ?_
    exact ⟨(((FloatKind.format .f64).order x1.fFloat x3.fFloat == some .lt) || ((!((FloatKind.format .f64).order x1.fFloat x1.fFloat != some .eq)) && ((FloatKind.format .f64).order x3.fFloat x3.fFloat != some .eq))), (((FloatKind.format .f64).order x1.fFloat x3.fFloat == some .gt) || (((FloatKind.format .f64).order x1.fFloat x1.fFloat != some .eq) && (!((FloatKind.format .f64).order x3.fFloat x3.fFloat != some .eq)))), .any, hm, (mk_same (by kernel_rfl)), rfl⟩
   ·
    refine c0 h16 (wp_skip ?_)
    exact ⟨(decide (x1.fInt < x3.fInt)), (decide (x1.fInt > x3.fInt)), aB (x1.fKind == 3), hm, (mk_same (by kernel_rfl)), rfl⟩
theorem ok_ref19_Right {n : Nat} {a0 : (Option (List tabularyref19_Bucket))} {r : Bool} (hm : ref19_Right n a0 = some r) :
    call G n 261 [.pv (encSl R_tabularyref19_Bucket a0)] [] = some (.ret (aB r), []) := by
  unfold ref19_Right at hm
  obtain ⟨n, rfl, h0⟩ := at1_some hm
  replace hm := h0; clear h0
  refine callL 102 [(0, .pv (encSl R_tabularyref19_Bucket a0))] func261 rfl (by kernel_rfl) (sq (dn [(0, .pv (encSl R_tabularyref19_Bucket a0))] ?_))
  refine sq (sq (rg (s1 1 [(6, .pv (encSl R_tabularyref19_Bucket a0))] (dv 7 (v := aI ((sll a0).length : Int)) (len_slO R_tabularyref19_Bucket a0 t210 (by kernel_rfl)) (by kernel_rfl) (f1 1 [(0, .pv (encSl R_tabularyref19_Bucket a0)), (8, aB (decide (((sll a0).length : Int) > 50)))] ?_)))))
  rcases bif_some hm with ⟨h1, hm⟩ | ⟨h1, hm⟩
  ·
   refine c1 h1 (sq (dn [(2, aB false)] (wp_ret ?_)))
   obtain rfl := Option.some.inj hm
   exact ⟨trivial, by kernel_rfl⟩
  ·
   refine c0 h1 (wp_skip ?_)
   obtain ⟨k4, hk4, hm⟩ := withK_some hm
   refine mid (fun t H => (∃ (y2 : Bool) (y3 : Int), k4 () = some r ∧ t = mk 102 [(0, .pv (encSl R_tabularyref19_Bucket a0)), (3, aI y3), (12, aB y2)] ∧ H = [])) ?_ ?_
   ·
    rintro _ _ ⟨y2, y3, hm, rfl, rfl⟩
    subst hk4
    refine sq (dn [(2, aB true)] (wp_ret ?_))
    obtain rfl := Option.some.inj hm
    exact ⟨trivial, by kernel_rfl⟩
   refine sq (dn [(0, .pv (encSl R_tabularyref19_Bucket a0)), (3, aI 0)] (bq ?_))
   refine loopF (fun mm t H => (∃ (y6 : Int), ref19_Right_l4 n a0 k4 mm y6 = some r ∧ t = mk 102 [(0, .pv (encSl R_tabularyref19_Bucket a0)), (3, aI y6)] ∧ H = [])) (⟨0, hm, rfl, rfl⟩) ?_ ?_
   · rintro _ _ ⟨y6, hm, _⟩; exact nomatch hm
   rintro m7 _ _ ⟨y6, hm, rfl, rfl⟩
   simp only [ref19_Right_l4] at hm
   refine sq (sq (rg (s1 2 [(10, .pv (encSl R_tabularyref19_Bucket a0)), (9, aI y6)] (dv 11 (v := aI ((sll a0).length : Int)) (len_slO R_tabularyref19_Bucket a0 t210 (by kernel_rfl)) (by kernel_rfl) (f1 1 [(0, .pv (encSl R_tabularyref19_Bucket a0)), (3, aI y6), (12, aB (decide (y6 < ((sll a0).length : Int))))] ?_)))))
   rcases bif_some hm with ⟨h8, hm⟩ | ⟨h8, hm⟩
   ·
    refine c1 h8 (wp_skip (sq (bq (sq (rg (s1 2 [(16, aI y6), (15, .pv (encSl R_tabularyref19_Bucket a0))] ?_))))))
    obtain ⟨x9, h10, hm⟩ := bs hm
    refine dv 17 (v := .pv (.ptr (R_tabularyref19_Bucket x9) 0)) (ia_slO R_tabularyref19_Bucket a0 .i64 t210 t246 h10 rfl (by kernel_rfl)) (by kernel_rfl) (stf 3 [(0, .pv (encSl R_tabularyref19_Bucket a0)), (3, aI y6), (4, .ptr 0 0)] [.box [aI x9.fLow.fKind, aI x9.fLow.fInt, aF x9.fLow.fFloat, aS x9.fLow.fText, aI x9.fHigh.fKind, aI x9.fHigh.fInt, aF x9.fHigh.fFloat, aS x9.fHigh.fText, aI x9.fCount, aI x9.fDistinct] false] (by kernel_rfl) ?_)
    refine sq (sq (rg (s1 2 [(20, .agg [aI x9.fLow.fKind, aI x9.fLow.fInt, aF x9.fLow.fFloat, aS x9.fLow.fText]), (19, .ptr 0 0)] ?_)))
    obtain ⟨x11, h12, hm⟩ := bs hm
    refine dv 21 (cpure (by kernel_rfl) (ok_ref19_plain h12) (by kernel_rfl) (by kernel_rfl) (by kernel_rfl)) (by kernel_rfl) (s1 2 [(23, aB (!x11)), (22, aB (!x11))] ?_)
    rcases bif_some hm with ⟨h13, hm⟩ | ⟨h13, hm⟩
    ·
     refine known [23, 22] h13 (by kernel_rfl) (f1 36 [(0, .pv (encSl R_tabularyref19_Bucket a0)), (3, aI y6), (4, .ptr 0 0), (59, aB true)] (cT (by kernel_rfl) (sq (dn [(2, aB false)] (wp_ret ?_)))))
     obtain rfl := Option.some.inj hm
     exact ⟨trivial, by kernel_rfl⟩
    ·
     refine known [23, 22] h13 (by kernel_rfl) (s1 2 [(25, .agg [aI x9.fHigh.fKind, aI x9.fHigh.fInt, aF x9.fHigh.fFloat, aS x9.fHigh.fText]), (24, .ptr 0 4)] ?_)
     obtain ⟨x14, h15, hm⟩ := bs hm
     refine dv 26 (cpure (by kernel_rfl) (ok_ref19_plain h15) (by kernel_rfl) (by kernel_rfl) (by kernel_rfl)) (by kernel_rfl) (s1 3 [(29, aB (!x14)), (28, aB (!x14)), (27, aB (!x14))] ?_)
     refine segP (!x14) [29, 28, 27] (fun b => [(37, aB (b || (x9.fLow.fKind != x9.fHigh.fKind))), (36, ifA b (.undef) (aB (x9.fLow.fKind != x9.fHigh.fKind))), (35, ifA b (.undef) (aI x9.fHigh.fKind)), (34, ifA b (.undef) (.ptr 0 4)), (33, ifA b (.undef) (.ptr 0 4)), (32, ifA b (.undef) (aI x9.fLow.fKind)), (31, ifA b (.undef) (.ptr 0 0)), (30, ifA b (.undef) (.ptr 0 0))]) 8 (by kernel_rfl) (by kernel_rfl) (by kernel_rfl) (s1 1 [(38, aB ((!x14) || (x9.fLow.fKind != x9.fHigh.fKind)))] ?_)
     refine segP ((!x14) || (x9.fLow.fKind != x9.fHigh.fKind)) [38, 37] (fun b => [(42, aB (b || (decide (x9.fCount < 1)))), (41, ifA b (.undef) (aB (decide (x9.fCount < 1)))), (40, ifA b (.undef) (aI x9.fCount)), (39, ifA b (.undef) (.ptr 0 8))]) 4 (by kernel_rfl) (by kernel_rfl) (by kernel_rfl) (s1 1 [(43, aB (((!x14) || (x9.fLow.fKind != x9.fHigh.fKind)) || (decide (x9.fCount < 1))))] ?_)
     refine segP (((!x14) || (x9.fLow.fKind != x9.fHigh.fKind)) || (decide (x9.fCount < 1))) [43, 42] (fun b => [(47, aB (b || (decide (x9.fCount > 1000000)))), (46, ifA b (.undef) (aB (decide (x9.fCount > 1000000)))), (45, ifA b (.undef) (aI x9.fCount)), (44, ifA b (.undef) (.ptr 0 8))]) 4 (by kernel_rfl) (by kernel_rfl) (by kernel_rfl) (s1 1 [(48, aB ((((!x14) || (x9.fLow.fKind != x9.fHigh.fKind)) || (decide (x9.fCount < 1))) || (decide (x9.fCount > 1000000))))] ?_)
     refine segP ((((!x14) || (x9.fLow.fKind != x9.fHigh.fKind)) || (decide (x9.fCount < 1))) || (decide (x9.fCount > 1000000))) [48, 47] (fun b => [(52, aB (b || (decide (x9.fDistinct < 1)))), (51, ifA b (.undef) (aB (decide (x9.fDistinct < 1)))), (50, ifA b (.undef) (aI x9.fDistinct)), (49, ifA b (.undef) (.ptr 0 9))]) 4 (by kernel_rfl) (by kernel_rfl) (by kernel_rfl) (s1 1 [(53, aB (((((!x14) || (x9.fLow.fKind != x9.fHigh.fKind)) || (decide (x9.fCount < 1))) || (decide (x9.fCount > 1000000))) || (decide (x9.fDistinct < 1))))] ?_)
     refine segP (((((!x14) || (x9.fLow.fKind != x9.fHigh.fKind)) || (decide (x9.fCount < 1))) || (decide (x9.fCount > 1000000))) || (decide (x9.fDistinct < 1))) [53, 52] (fun b => [(59, aB (b || (decide (x9.fDistinct > x9.fCount)))), (58, ifA b (.undef) (aB (decide (x9.fDistinct > x9.fCount)))), (57, ifA b (.undef) (aI x9.fCount)), (56, ifA b (.undef) (.ptr 0 8)), (55, ifA b (.undef) (aI x9.fDistinct)), (54, ifA b (.undef) (.ptr 0 9))]) 6 (by kernel_rfl) (by kernel_rfl) (by kernel_rfl) (fin [(0, .pv (encSl R_tabularyref19_Bucket a0)), (3, aI y6), (4, .ptr 0 0), (59, aB ((((((!x14) || (x9.fLow.fKind != x9.fHigh.fKind)) || (decide (x9.fCount < 1))) || (decide (x9.fCount > 1000000))) || (decide (x9.fDistinct < 1))) || (decide (x9.fDistinct > x9.fCount))))] rfl (by kernel_rfl) ?_)
     rcases bif_some hm with ⟨h16, hm⟩ | ⟨h16, hm⟩
     ·
      refine c1 h16 (sq (dn [(2, aB false)] (wp_ret ?_)))
      obtain rfl := Option.some.inj hm
      exact ⟨trivial, by kernel_rfl⟩
     ·
      refine c0 h16 (wp_skip (sq (rg (s1 4 [(63, .agg [aI x9.fHigh.fKind, aI x9.fHigh.fInt, aF x9.fHigh.fFloat, aS x9.fHigh.fText]), (62, .ptr 0 4), (61, .agg [aI x9.fLow.fKind, aI x9.fLow.fInt, aF x9.fLow.fFloat, aS x9.fLow.fText]), (60, .ptr 0 0)] ?_))))
      obtain ⟨x17, h18, hm⟩ := bs hm
      refine dv 64 (cpure (by kernel_rfl) (ok_ref04_Cmp h18) (by kernel_rfl) (by kernel_rfl) (by kernel_rfl)) (by kernel_rfl) (f1 1 [(0, .pv (encSl R_tabularyref19_Bucket a0)), (3, aI y6), (4, .ptr 0 0), (5, aI x17)] ?_)
      refine sq (sq (rg (s1 3 [(67, aB (decide (x17 > 0))), (66, aB (decide (x17 > 0))), (65, aI x17)] ?_)))
      refine segP (decide (x17 > 0)) [67, 66] (fun b => [(74, aB (b || (!((x17 == 0) == (x9.fDistinct == 1))))), (73, ifA b (.undef) (aB (!((x17 == 0) == (x9.fDistinct == 1))))), (72, ifA b (.undef) (aB (x9.fDistinct == 1))), (71, ifA b (.undef) (aI x9.fDistinct)), (70, ifA b (.undef) (.ptr 0 9)), (69, ifA b (.undef) (aB (x17 == 0))), (68, ifA b (.undef) (aI x17))]) 7 (by kernel_rfl) (by kernel_rfl) (by kernel_rfl) (fin [(0, .pv (encSl R_tabularyref19_Bucket a0)), (3, aI y6), (4, .ptr 0 0), (74, aB ((decide (x17 > 0)) || (!((x17 == 0) == (x9.fDistinct == 1)))))] rfl (by kernel_rfl) ?_)
      rcases bif_some hm with ⟨h19, hm⟩ | ⟨h19, hm⟩
      ·
       refine c1 h19 (sq (dn [(2, aB false)] (wp_ret ?_)))
       obtain rfl := Option.some.inj hm
       exact ⟨trivial, by kernel_rfl⟩
      ·
       refine c0 h19 (wp_skip (sq (rgd (shd 3 [(77, aB (decide (y6 > 0))), (76, aB (decide (y6 > 0))), (75, aI y6)] (by kernel_rfl) ?_))))
       rcases bif_some hm with ⟨h20, hm⟩ | ⟨h20, hm⟩
       ·
        refine knownd [77, 76] h20 (by kernel_rfl) (shd 3 [(80, aI (IntKind.wrap .i64 (y6 - 1))), (79, aI y6), (78, .pv (encSl R_tabularyref19_Bucket a0))] (by kernel_rfl) ?_)
        obtain ⟨x21, h22, hm⟩ := bs hm
        refine dvd 81 (v := .pv (.ptr (R_tabularyref19_Bucket x21) 0)) (ia_slO R_tabularyref19_Bucket a0 .i64 t210 t246 h22 rfl (by kernel_rfl)) (by kernel_rfl) (shd 8 [(89, aB (x21.fHigh.fKind != x9.fLow.fKind)), (88, aB (x21.fHigh.fKind != x9.fLow.fKind)), (87, aI x9.fLow.fKind), (86, .ptr 0 0), (85, .ptr 0 0), (84, aI x21.fHigh.fKind), (83, .pv (.ptr (R_tabularyref19_Bucket x21) 4)), (82, .pv (.ptr (R_tabularyref19_Bucket x21) 4))] (by kernel_rfl) ?_)
        rcases bif_some hm with ⟨h23, hm⟩ | ⟨h23, hm⟩
        ·
         refine knownd [89, 88] h23 (by kernel_rfl) (shd 12 [(101, aB true), (100, aB true), (99, .undef), (98, .undef), (97, .undef), (96, .undef), (95, .undef), (94, .undef), (93, .undef), (92, .undef), (91, .undef), (90, .undef)] (by kernel_rfl) (find [(0, .pv (encSl R_tabularyref19_Bucket a0)), (3, aI y6), (101, aB true)] rfl (by kernel_rfl) (by kernel_rfl) (cT (by kernel_rfl) (sq (dn [(2, aB false)] (wp_ret ?_))))))
         obtain rfl := Option.some.inj hm
         exact ⟨trivial, by kernel_rfl⟩
        ·
         refine knownd [89, 88] h23 (by kernel_rfl) (shd 3 [(92, aI (IntKind.wrap .i64 (y6 - 1))), (91, aI y6), (90, .pv (encSl R_tabularyref19_Bucket a0))] (by kernel_rfl) (dvd 93 (v := .pv (.ptr (R_tabularyref19_Bucket x21) 0)) (ia_slO R_tabularyref19_Bucket a0 .i64 t210 t246 h22 rfl (by kernel_rfl)) (by kernel_rfl) (shd 4 [(97, .agg [aI x9.fLow.fKind, aI x9.fLow.fInt, aF x9.fLow.fFloat, aS x9.fLow.fText]), (96, .ptr 0 0), (95, .agg [aI x21.fHigh.fKind, aI x21.fHigh.fInt, aF x21.fHigh.fFloat, aS x21.fHigh.fText]), (94, .pv (.ptr (R_tabularyref19_Bucket x21) 4))] (by kernel_rfl) ?_)))
         obtain ⟨x24, h25, hm⟩ := bs hm
         refine dvd 98 (cpure (by kernel_rfl) (ok_ref04_Cmp h25) (by kernel_rfl) (by kernel_rfl) (by kernel_rfl)) (by kernel_rfl) (shd 3 [(101, aB (decide (x24 ≥ 0))), (100, aB (decide (x24 ≥ 0))), (99, aB (decide (x24 ≥ 0)))] (by kernel_rfl) (find [(0, .pv (encSl R_tabularyref19_Bucket a0)), (3, aI y6), (101, aB (decide (x24 ≥ 0)))] rfl (by kernel_rfl) (by kernel_rfl) ?_))
         rcases bif_some hm with ⟨h26, hm⟩ | ⟨h26, hm⟩
         ·
          refine c1 h26 (sq (dn [(2, aB false)] (wp_ret ?_)))
          obtain rfl := Option.some.inj hm
          exact ⟨trivial, by kernel_rfl⟩
         ·
          refine c0 h26 (wp_skip (dn [(0, .pv (encSl R_tabularyref19_Bucket a0)), (3, aI (IntKind.wrap .i64 (y6 + 1)))] ?_))
          exact ⟨_, _, tidyL [(0, .pv (encSl R_tabularyref19_Bucket a0)), (3, aI (IntKind.wrap .i64 (y6 + 1)))] [] (by kernel_rfl), ⟨(IntKind.wrap .i64 (y6 + 1)), hm, rfl, rfl⟩⟩
       ·
        refine knownd [77, 76] h20 (by kernel_rfl) (shd 24 [(101, aB false), (100, .undef), (99, .undef), (98, .undef), (97, .undef), (96, .undef), (95, .undef), (94, .undef), (93, .undef), (92, .undef), (91, .undef), (90, .undef), (89, .undef), (88, .undef), (87, .undef), (86, .undef), (85, .undef), (84, .undef), (83, .undef), (82, .undef), (81, .undef), (80, .undef), (79, .undef), (78, .undef)] (by kernel_rfl) (find [(0, .pv (encSl R_tabularyref19_Bucket a0)), (3, aI y6), (101, aB false)] rfl (by kernel_rfl) (by kernel_rfl) (cF (by kernel_rfl) (wp_skip (dn [(0, .pv (encSl R_tabularyref19_Bucket a0)), (3, aI (IntKind.wrap .i64 (y6 + 1)))] ?_)))))
        exact ⟨_, _, tidyL [(0, .pv (encSl R_tabularyref19_Bucket a0)), (3, aI (IntKind.wrap .i64 (y6 + 1)))] [] (by kernel_rfl), ⟨(IntKind.wrap .i64 (y6 + 1)), hm, rfl, rfl⟩⟩
   ·
    refine c0 h8 (wp_exit ?_)
    exact ⟨(decide (y6 < ((sll a0).length : Int))), y6, hm, rfl, rfl⟩
theorem ok_ref19_Total {n : Nat} {a0 : (Option (List tabularyref19_Bucket))} {r : Int} (hm : ref19_Total n a0 = some r) :
    call G n 262 [.pv (encSl R_tabularyref19_Bucket a0)] [] = some (.ret (aI r), []) := by
  unfold ref19_Total at hm
  obtain ⟨n, rfl, h0⟩ := at1_some hm
  replace hm := h0; clear h0
  refine callL 23 [(0, .pv (encSl R_tabularyref19_Bucket a0))] func262 rfl (by kernel_rfl) (sq (dn [(0, .pv (encSl R_tabularyref19_Bucket a0))] (sq (dn [(0, .pv (encSl R_tabularyref19_Bucket a0)), (3, aI 0)] ?_))))
  obtain ⟨k4, hk4, hm⟩ := withK_some hm
  refine mid (fun t H => (∃ (y1 : Bool) (y2 : Int) (y3 : Int), k4 y2 = some r ∧ t = mk 23 [(0, .pv (encSl R_tabularyref19_Bucket a0)), (3, aI y2), (4, aI y3), (12, aB y1)] ∧ H = [])) ?_ ?_
  ·
   rintro _ _ ⟨y1, y2, y3, hm, rfl, rfl⟩
   subst hk4
   refine sq (dn [(2, aI y2)] (wp_ret ?_))
   obtain rfl := Option.some.inj hm
   exact ⟨trivial, by kernel_rfl⟩
  refine sq (dn [(0, .pv (encSl R_tabularyref19_Bucket a0)), (3, aI 0), (4, aI 0)] (bq ?_))
  refine loopF (fun mm t H => (∃ (y7 : Int) (y8 : Int), ref19_Total_l3 n a0 k4 mm y7 y8 = some r ∧ t = mk 23 [(0, .pv (encSl R_tabularyref19_Bucket a0)), (3, aI y7), (4, aI y8)] ∧ H = [])) (⟨0, 0, hm, rfl, rfl⟩) ?_ ?_
  · rintro _ _ ⟨y7, y8, hm, _⟩; exact nomatch hm
  rintro m9 _ _ ⟨y7, y8, hm, rfl, rfl⟩
  simp only [ref19_Total_l3] at hm
  refine sq (sq (rg (s1 2 [(6, .pv (encSl R_tabularyref19_Bucket a0)), (5, aI y8)] (dv 7 (v := aI ((sll a0).length : Int)) (len_slO R_tabularyref19_Bucket a0 t210 (by kernel_rfl)) (by kernel_rfl) (s1 2 [(9, aB (decide (y8 < ((sll a0).length : Int)))), (8, aB (decide (y8 < ((sll a0).length : Int))))] ?_)))))
  rcases bif_some hm with ⟨h10, hm⟩ | ⟨h10, hm⟩
  ·
   refine known [9, 8] h10 (by kernel_rfl) (s1 1 [(10, .pv (encSl R_tabularyref19_Bucket a0))] ?_)
   obtain ⟨x11, h12, hm⟩ := bs hm
   refine dv 11 (cpure (by kernel_rfl) (ok_ref19_Right h12) (by kernel_rfl) (by kernel_rfl) (by kernel_rfl)) (by kernel_rfl) (f1 1 [(0, .pv (encSl R_tabularyref19_Bucket a0)), (3, aI y7), (4, aI y8), (12, aB x11)] ?_)
   rcases bif_some hm with ⟨h13, hm⟩ | ⟨h13, hm⟩
   ·
    refine c1 h13 (wp_skip (sq (bq (rg (s1 3 [(17, aI y8), (16, .pv (encSl R_tabularyref19_Bucket a0)), (15, aI y7)] ?_)))))
    obtain ⟨x14, h15, hm⟩ := bs hm
    refine dv 18 (v := .pv (.ptr (R_tabularyref19_Bucket x14) 0)) (ia_slO R_tabularyref19_Bucket a0 .i64 t210 t246 h15 rfl (by kernel_rfl)) (by kernel_rfl) (f1 4 [(0, .pv (encSl R_tabularyref19_Bucket a0)), (3, aI (IntKind.wrap .i64 (y7 + x14.fCount))), (4, aI y8)] (dn [(0, .pv (encSl R_tabularyref19_Bucket a0)), (3, aI (IntKind.wrap .i64 (y7 + x14.fCount))), (4, aI (IntKind.wrap .i64 (y8 + 1)))] ?_))
    exact ⟨_, _, tidyL [(0, .pv (encSl R_tabularyref19_Bucket a0)), (3, aI (IntKind.wrap .i64 (y7 + x14.fCount))), (4, aI (IntKind.wrap .i64 (y8 + 1)))] [] (by kernel_rfl), ⟨(IntKind.wrap .i64 (y7 + x14.fCount)), (IntKind.wrap .i64 (y8 + 1)), hm, rfl, rfl⟩⟩
   ·
    refine c0 h13 (wp_exit ?_)
    exact ⟨x11, y7, y8, hm, rfl, rfl⟩
  ·
   refine known [9, 8] h10 (by kernel_rfl) (f1 3 [(0, .pv (encSl R_tabularyref19_Bucket a0)), (3, aI y7), (4, aI y8), (12, aB false)] (cF (by kernel_rfl) (wp_exit ?_)))
   exact ⟨false, y7, y8, hm, rfl, rfl⟩
theorem ok_ref19_asked {n : Nat} {a0 : (Option (List tabularyref19_Bucket))} {a1 : api_Value} {r : Bool} (hm : ref19_asked n a0 a1 = some r) :
    call G n 270 [.pv (encSl R_tabularyref19_Bucket a0), .agg [aI a1.fKind, aI a1.fInt, aF a1.fFloat, aS a1.fText]] [] = some (.ret (aB r), []) := by
  unfold ref19_asked at hm
  obtain ⟨n, rfl, h0⟩ := at1_some hm
  replace hm := h0; clear h0
  refine callL 16 [(0, .pv (encSl R_tabularyref19_Bucket a0)), (1, .agg [aI a1.fKind, aI a1.fInt, aF a1.fFloat, aS a1.fText])] func270 rfl (by kernel_rfl) (sq (det [(0, .pv (encSl R_tabularyref19_Bucket a0)), (3, .ptr 0 0)] [.box [aI a1.fKind, aI a1.fInt, aF a1.fFloat, aS a1.fText] false] (by kernel_rfl) (sq (rg (s1 1 [(5, .pv (encSl R_tabularyref19_Bucket a0))] ?_)))))
  obtain ⟨x1, h2, hm⟩ := bs hm
  refine dv 6 (cpure (by kernel_rfl) (ok_ref19_Right h2) (by kernel_rfl) (by kernel_rfl) (by kernel_rfl)) (by kernel_rfl) (s1 1 [(7, aB x1)] ?_)
  rcases bif_some hm with ⟨h3, hm⟩ | ⟨h3, hm⟩
  ·
   refine known [7, 6] h3 (by kernel_rfl) (s1 1 [(8, .agg [aI a1.fKind, aI a1.fInt, aF a1.fFloat, aS a1.fText])] ?_)
   obtain ⟨x4, h5, hm⟩ := bs hm
   refine dv 9 (cpure (by kernel_rfl) (ok_ref04_Right h5) (by kernel_rfl) (by kernel_rfl) (by kernel_rfl)) (by kernel_rfl) (s1 2 [(11, aB x4), (10, aB x4)] ?_)
   refine segP x4 [11, 10, 9] (fun b => [(15, aB (b && (a1.fKind != 0))), (14, ifA b (aB (a1.fKind != 0)) (.undef)), (13, ifA b (aI a1.fKind) (.undef)), (12, ifA b (.ptr 0 0) (.undef))]) 4 (by kernel_rfl) (by kernel_rfl) (by kernel_rfl) (f1 1 [(4, aB (x4 && (a1.fKind != 0)))] (wp_ret ?_))
   obtain rfl := Option.some.inj hm
   exact ⟨trivial, by kernel_rfl⟩
  ·
   refine known [7, 6] h3 (by kernel_rfl) (f1 9 [(4, aB false)] (wp_ret ?_))
   obtain rfl := Option.some.inj hm
   exact ⟨trivial, by kernel_rfl⟩
theorem ok_ref19_Equal {n : Nat} {a0 : (Option (List tabularyref19_Bucket))} {a1 : api_Value} {r : Int} (hm : ref19_Equal n a0 a1 = some r) :
    call G n 263 [.pv (encSl R_tabularyref19_Bucket a0), .agg [aI a1.fKind, aI a1.fInt, aF a1.fFloat, aS a1.fText]] [] = some (.ret (aI r), []) := by
  unfold ref19_Equal at hm
  obtain ⟨n, rfl, h0⟩ := at1_some hm
  replace hm := h0; clear h0
  refine callL 46 [(0, .pv (encSl R_tabularyref19_Bucket a0)), (1, .agg [aI a1.fKind, aI a1.fInt, aF a1.fFloat, aS a1.fText])] func263 rfl (by kernel_rfl) (sq (det [(0, .pv (encSl R_tabularyref19_Bucket a0)), (3, .ptr 0 0)] [.box [aI a1.fKind, aI a1.fInt, aF a1.fFloat, aS a1.fText] false] (by kernel_rfl) ?_))
  obtain ⟨k3, hk3, hm⟩ := withK_some hm
  refine mid (fun t H => (∃ (y1 : Bool) (y2 : Int), k3 () = some r ∧ t = mk 46 [(0, .pv (encSl R_tabularyref19_Bucket a0)), (3, .ptr 0 0), (5, aI y2), (14, aB y1)] ∧ H = [.box [aI a1.fKind, aI a1.fInt, aF a1.fFloat, aS a1.fText] false])) ?_ ?_
  ·
   rintro _ _ ⟨y1, y2, hm, rfl, rfl⟩
   subst hk3
   refine sq (dn [(4, aI 0)] (wp_ret ?_))
   obtain rfl := Option.some.inj hm
   exact ⟨trivial, by kernel_rfl⟩
  refine sq (dn [(0, .pv (encSl R_tabularyref19_Bucket a0)), (3, .ptr 0 0), (5, aI 0)] (bq ?_))
  refine loopF (fun mm t H => (∃ (y5 : Int), ref19_Equal_l2 n a0 a1 k3 mm y5 = some r ∧ t = mk 46 [(0, .pv (encSl R_tabularyref19_Bucket a0)), (3, .ptr 0 0), (5, aI y5)] ∧ H = [.box [aI a1.fKind, aI a1.fInt, aF a1.fFloat, aS a1.fText] false])) (⟨0, hm, rfl, rfl⟩) ?_ ?_
  · rintro _ _ ⟨y5, hm, _⟩; exact nomatch hm
  rintro m6 _ _ ⟨y5, hm, rfl, rfl⟩
  simp only [ref19_Equal_l2] at hm
  refine sq (sq (rg (s1 2 [(7, .pv (encSl R_tabularyref19_Bucket a0)), (6, aI y5)] (dv 8 (v := aI ((sll a0).length : Int)) (len_slO R_tabularyref19_Bucket a0 t210 (by kernel_rfl)) (by kernel_rfl) (s1 2 [(10, aB (decide (y5 < ((sll a0).length : Int)))), (9, aB (decide (y5 < ((sll a0).length : Int))))] ?_)))))
  rcases bif_some hm with ⟨h7, hm⟩ | ⟨h7, hm⟩
  ·
   refine known [10, 9] h7 (by kernel_rfl) (s1 2 [(12, .agg [aI a1.fKind, aI a1.fInt, aF a1.fFloat, aS a1.fText]), (11, .pv (encSl R_tabularyref19_Bucket a0))] ?_)
   obtain ⟨x8, h9, hm⟩ := bs hm
   refine dv 13 (cpure (by kernel_rfl) (ok_ref19_asked h9) (by kernel_rfl) (by kernel_rfl) (by kernel_rfl)) (by kernel_rfl) (f1 1 [(0, .pv (encSl R_tabularyref19_Bucket a0)), (3, .ptr 0 0), (5, aI y5), (14, aB x8)] ?_)
   rcases bif_some hm with ⟨h10, hm⟩ | ⟨h10, hm⟩
   ·
    refine c1 h10 (wp_skip (sq (bq ?_)))
    obtain ⟨k12, hk12, hm⟩ := withK_some hm
    refine mid (fun t H => (∃ (y11 : Bool), k12 y11 = some r ∧ t = mk 46 [(0, .pv (encSl R_tabularyref19_Bucket a0)), (3, .ptr 0 0), (5, aI y5), (34, aB y11)] ∧ H = [.box [aI a1.fKind, aI a1.fInt, aF a1.fFloat, aS a1.fText] false])) ?_ ?_
    ·
     rintro _ _ ⟨y11, hm, rfl, rfl⟩
     subst hk12
     rcases bif_some hm with ⟨h13, hm⟩ | ⟨h13, hm⟩
     ·
      refine c1 h13 (sq (rgd (shd 2 [(36, aI y5), (35, .pv (encSl R_tabularyref19_Bucket a0))] (by kernel_rfl) ?_)))
      obtain ⟨x14, h15, hm⟩ := bs hm
      refine dvd 37 (v := .pv (.ptr (R_tabularyref19_Bucket x14) 0)) (ia_slO R_tabularyref19_Bucket a0 .i64 t210 t246 h15 rfl (by kernel_rfl)) (by kernel_rfl) (shd 4 [(41, aI y5), (40, .pv (encSl R_tabularyref19_Bucket a0)), (39, aI x14.fCount), (38, .pv (.ptr (R_tabularyref19_Bucket x14) 8))] (by kernel_rfl) (dvd 42 (v := .pv (.ptr (R_tabularyref19_Bucket x14) 0)) (ia_slO R_tabularyref19_Bucket a0 .i64 t210 t246 h15 rfl (by kernel_rfl)) (by kernel_rfl) (shd 2 [(44, aI x14.fDistinct), (43, .pv (.ptr (R_tabularyref19_Bucket x14) 9))] (by kernel_rfl) ?_)))
      obtain ⟨_, h16, hm⟩ := bs hm
      refine dvd 45 (v := aI (IntKind.wrap .i64 (Int.tdiv x14.fCount x14.fDistinct))) (quoO h16 (by kernel_rfl)) (by kernel_rfl) (shd 1 [(4, aI (IntKind.wrap .i64 (Int.tdiv x14.fCount x14.fDistinct)))] (by kernel_rfl) (find [(4, aI (IntKind.wrap .i64 (Int.tdiv x14.fCount x14.fDistinct)))] rfl (by kernel_rfl) (by kernel_rfl) (wp_ret ?_)))
      obtain rfl := Option.some.inj hm
      exact ⟨trivial, by kernel_rfl⟩
     ·
      refine c0 h13 (wp_skip (dn [(0, .pv (encSl R_tabularyref19_Bucket a0)), (3, .ptr 0 0), (5, aI (IntKind.wrap .i64 (y5 + 1)))] ?_))
      exact ⟨_, _, tidyL [(0, .pv (encSl R_tabularyref19_Bucket a0)), (3, .ptr 0 0), (5, aI (IntKind.wrap .i64 (y5 + 1)))] [.box [aI a1.fKind, aI a1.fInt, aF a1.fFloat, aS a1.fText] false] (by kernel_rfl), ⟨(IntKind.wrap .i64 (y5 + 1)), hm, rfl, rfl⟩⟩
    refine rgd (shd 2 [(18, aI y5), (17, .pv (encSl R_tabularyref19_Bucket a0))] (by kernel_rfl) ?_)
    obtain ⟨x17, h18, hm⟩ := bs hm
    refine dvd 19 (v := .pv (.ptr (R_tabularyref19_Bucket x17) 0)) (ia_slO R_tabularyref19_Bucket a0 .i64 t210 t246 h18 rfl (by kernel_rfl)) (by kernel_rfl) (shd 3 [(22, .agg [aI a1.fKind, aI a1.fInt, aF a1.fFloat, aS a1.fText]), (21, .agg [aI x17.fLow.fKind, aI x17.fLow.fInt, aF x17.fLow.fFloat, aS x17.fLow.fText]), (20, .pv (.ptr (R_tabularyref19_Bucket x17) 0))] (by kernel_rfl) ?_)
    obtain ⟨x19, h20, hm⟩ := bs hm
    refine dvd 23 (cpure (by kernel_rfl) (ok_ref04_Cmp h20) (by kernel_rfl) (by kernel_rfl) (by kernel_rfl)) (by kernel_rfl) (shd 2 [(25, aB (decide (x19 ≤ 0))), (24, aB (decide (x19 ≤ 0)))] (by kernel_rfl) ?_)
    rcases bif_some hm with ⟨h21, hm⟩ | ⟨h21, hm⟩
    ·
     refine knownd [25, 24] h21 (by kernel_rfl) (shd 3 [(28, aI y5), (27, .pv (encSl R_tabularyref19_Bucket a0)), (26, .agg [aI a1.fKind, aI a1.fInt, aF a1.fFloat, aS a1.fText])] (by kernel_rfl) (dvd 29 (v := .pv (.ptr (R_tabularyref19_Bucket x17) 0)) (ia_slO R_tabularyref19_Bucket a0 .i64 t210 t246 h18 rfl (by kernel_rfl)) (by kernel_rfl) (shd 2 [(31, .agg [aI x17.fHigh.fKind, aI x17.fHigh.fInt, aF x17.fHigh.fFloat, aS x17.fHigh.fText]), (30, .pv (.ptr (R_tabularyref19_Bucket x17) 4))] (by kernel_rfl) ?_)))
     obtain ⟨x22, h23, hm⟩ := bs hm
     refine dvd 32 (cpure (by kernel_rfl) (ok_ref04_Cmp h23) (by kernel_rfl) (by kernel_rfl) (by kernel_rfl)) (by kernel_rfl) (shd 2 [(34, aB (decide (x22 ≤ 0))), (33, aB (decide (x22 ≤ 0)))] (by kernel_rfl) (find [(0, .pv (encSl R_tabularyref19_Bucket a0)), (3, .ptr 0 0), (5, aI y5), (34, aB (decide (x22 ≤ 0)))] rfl (by kernel_rfl) (by kernel_rfl) ?_))
     exact ⟨(decide (x22 ≤ 0)), hm, rfl, rfl⟩
    ·
     refine knownd [25, 24] h21 (by kernel_rfl) (shd 9 [(34, aB false), (33, .undef), (32, .undef), (31, .undef), (30, .undef), (29, .undef), (28, .undef), (27, .undef), (26, .undef)] (by kernel_rfl) (find [(0, .pv (encSl R_tabularyref19_Bucket a0)), (3, .ptr 0 0), (5, aI y5), (34, aB false)] rfl (by kernel_rfl) (by kernel_rfl) ?_))
     exact ⟨false, hm, rfl, rfl⟩
   ·
    refine c0 h10 (wp_exit ?_)
    exact ⟨x8, y5, hm, rfl, rfl⟩
  ·
   refine known [10, 9] h7 (by kernel_rfl) (f1 4 [(0, .pv (encSl R_tabularyref19_Bucket a0)), (3, .ptr 0 0), (5, aI y5), (14, aB false)] (cF (by kernel_rfl) (wp_exit ?_)))
   exact ⟨false, y5, hm, rfl, rfl⟩
theorem ok_ref19_Share {n : Nat} {a0 : Int} {a1 : Int} {a2 : Int} {r : Int} (hm : ref19_Share n a0 a1 a2 = some r) :
    call G n 271 [aI a0, aU a1, aU a2] [] = some (.ret (aI r), []) := by
  unfold ref19_Share at hm
  obtain ⟨n, rfl, h0⟩ := at1_some hm
  replace hm := h0; clear h0
  refine callL 31 [(0, aI a0), (1, aU a1), (2, aU a2)] func271 rfl (by kernel_rfl) (sq (dn [(0, aI a0), (1, aU a1), (2, aU a2)] (sq (dn [(0, aI a0), (1, aU a1), (2, aU a2), (7, aI 0)] (sq (dn [(0, aI a0), (1, aU a1), (2, aU a2), (7, aI 0), (8, aU 0)] ?_))))))
  obtain ⟨k5, hk5, hm⟩ := withK_some hm
  refine mid (fun t H => (∃ (y1 : Bool) (y2 : Int) (y3 : Int) (y4 : Int), k5 y2 = some r ∧ t = mk 31 [(0, aI a0), (1, aU a1), (2, aU a2), (7, aI y2), (8, aU y3), (9, aI y4), (12, aB y1)] ∧ H = [])) ?_ ?_
  ·
   rintro _ _ ⟨y1, y2, y3, y4, hm, rfl, rfl⟩
   subst hk5
   refine sq (dn [(6, aI y2)] (wp_ret ?_))
   obtain rfl := Option.some.inj hm
   exact ⟨trivial, by kernel_rfl⟩
  refine sq (dn [(0, aI a0), (1, aU a1), (2, aU a2), (7, aI 0), (8, aU 0), (9, aI 0)] (bq ?_))
  refine loopF (fun mm t H => (∃ (y9 : Int) (y10 : Int) (y11 : Int), ref19_Share_l4 n a0 a1 a2 k5 mm y9 y10 y11 = some r ∧ t = mk 31 [(0, aI a0), (1, aU a1), (2, aU a2), (7, aI y9), (8, aU y10), (9, aI y11)] ∧ H = [])) (⟨0, 0, 0, hm, rfl, rfl⟩) ?_ ?_
  · rintro _ _ ⟨y9, y10, y11, hm, _⟩; exact nomatch hm
  rintro m12 _ _ ⟨y9, y10, y11, hm, rfl, rfl⟩
  simp only [ref19_Share_l4] at hm
  refine sq (sq (dn [(0, aI a0), (1, aU a1), (2, aU a2), (7, aI y9), (8, aU y10), (9, aI y11), (12, aB (decide (y11 < a0)))] ?_))
  rcases bif_some hm with ⟨h13, hm⟩ | ⟨h13, hm⟩
  ·
   refine c1 h13 (wp_skip (sq (bq (sq (dn [(0, aI a0), (1, aU a1), (2, aU a2), (7, aI y9), (8, aU y10), (9, aI y11), (19, aB (decide (a1 ≥ (IntKind.wrap .u64 (a2 - y10)))))] ?_)))))
   rcases bif_some hm with ⟨h14, hm⟩ | ⟨h14, hm⟩
   ·
    refine c1 h14 (sq (dn [(0, aI a0), (1, aU a1), (2, aU a2), (7, aI y9), (8, aU (IntKind.wrap .u64 (a1 - (IntKind.wrap .u64 (a2 - y10))))), (9, aI y11)] (dn [(0, aI a0), (1, aU a1), (2, aU a2), (7, aI (IntKind.wrap .i64 (y9 + 1))), (8, aU (IntKind.wrap .u64 (a1 - (IntKind.wrap .u64 (a2 - y10))))), (9, aI y11)] (dn [(0, aI a0), (1, aU a1), (2, aU a2), (7, aI (IntKind.wrap .i64 (y9 + 1))), (8, aU (IntKind.wrap .u64 (a1 - (IntKind.wrap .u64 (a2 - y10))))), (9, aI (IntKind.wrap .i64 (y11 + 1)))] ?_))))
    exact ⟨_, _, tidyL [(0, aI a0), (1, aU a1), (2, aU a2), (7, aI (IntKind.wrap .i64 (y9 + 1))), (8, aU (IntKind.wrap .u64 (a1 - (IntKind.wrap .u64 (a2 - y10))))), (9, aI (IntKind.wrap .i64 (y11 + 1)))] [] (by kernel_rfl), ⟨(IntKind.wrap .i64 (y9 + 1)), (IntKind.wrap .u64 (a1 - (IntKind.wrap .u64 (a2 - y10)))), (IntKind.wrap .i64 (y11 + 1)), hm, rfl, rfl⟩⟩
   ·
    refine c0 h14 (dn [(0, aI a0), (1, aU a1), (2, aU a2), (7, aI y9), (8, aU (IntKind.wrap .u64 (y10 + a1))), (9, aI y11)] (dn [(0, aI a0), (1, aU a1), (2, aU a2), (7, aI y9), (8, aU (IntKind.wrap .u64 (y10 + a1))), (9, aI (IntKind.wrap .i64 (y11 + 1)))] ?_))
    exact ⟨_, _, tidyL [(0, aI a0), (1, aU a1), (2, aU a2), (7, aI y9), (8, aU (IntKind.wrap .u64 (y10 + a1))), (9, aI (IntKind.wrap .i64 (y11 + 1)))] [] (by kernel_rfl), ⟨y9, (IntKind.wrap .u64 (y10 + a1)), (IntKind.wrap .i64 (y11 + 1)), hm, rfl, rfl⟩⟩
  ·
   refine c0 h13 (wp_exit ?_)
   exact ⟨(decide (y11 < a0)), y9, y10, y11, hm, rfl, rfl⟩
theorem ok_ref19_Below {n : Nat} {a0 : (Option (List tabularyref19_Bucket))} {a1 : api_Value} {a2 : Bool} {r : Int} (hm : ref19_Below n a0 a1 a2 = some r) :
    call G n 264 [.pv (encSl R_tabularyref19_Bucket a0), .agg [aI a1.fKind, aI a1.fInt, aF a1.fFloat, aS a1.fText], aB a2] [] = some (.ret (aI r), []) := by
  unfold ref19_Below at hm
  obtain ⟨n, rfl, h0⟩ := at1_some hm
  replace hm := h0; clear h0
  refine callL 115 [(0, .pv (encSl R_tabularyref19_Bucket a0)), (1, .agg [aI a1.fKind, aI a1.fInt, aF a1.fFloat, aS a1.fText]), (2, aB a2)] func264 rfl (by kernel_rfl) (sq (det [(0, .pv (encSl R_tabularyref19_Bucket a0)), (2, aB a2), (4, .ptr 0 0)] [.box [aI a1.fKind, aI a1.fInt, aF a1.fFloat, aS a1.fText] false] (by kernel_rfl) (sq (dn [(0, .pv (encSl R_tabularyref19_Bucket a0)), (2, aB a2), (4, .ptr 0 0), (7, aI 0)] ?_))))
  obtain ⟨k4, hk4, hm⟩ := withK_some hm
  refine mid (fun t H => (∃ (y1 : Bool) (y2 : Int) (y3 : Int), k4 y2 = some r ∧ t = mk 115 [(0, .pv (encSl R_tabularyref19_Bucket a0)), (2, aB a2), (4, .ptr 0 0), (7, aI y2), (8, aI y3), (20, aB y1)] ∧ H = [.box [aI a1.fKind, aI a1.fInt, aF a1.fFloat, aS a1.fText] false])) ?_ ?_
  ·
   rintro _ _ ⟨y1, y2, y3, hm, rfl, rfl⟩
   subst hk4
   refine sq (dn [(6, aI y2)] (wp_ret ?_))
   obtain rfl := Option.some.inj hm
   exact ⟨trivial, by kernel_rfl⟩
  refine sq (dn [(0, .pv (encSl R_tabularyref19_Bucket a0)), (2, aB a2), (4, .ptr 0 0), (7, aI 0), (8, aI 0)] (bq ?_))
  refine loopF (fun mm t H => (∃ (y7 : Int) (y8 : Int), ref19_Below_l3 n a0 a1 a2 k4 mm y7 y8 = some r ∧ t = mk 115 [(0, .pv (encSl R_tabularyref19_Bucket a0)), (2, aB a2), (4, .ptr 0 0), (7, aI y7), (8, aI y8)] ∧ H = [.box [aI a1.fKind, aI a1.fInt, aF a1.fFloat, aS a1.fText] false])) (⟨0, 0, hm, rfl, rfl⟩) ?_ ?_
  · rintro _ _ ⟨y7, y8, hm, _⟩; exact nomatch hm
  rintro m9 _ _ ⟨y7, y8, hm, rfl, rfl⟩
  simp only [ref19_Below_l3] at hm
  refine sq (sq (rg (s1 2 [(13, .pv (encSl R_tabularyref19_Bucket a0)), (12, aI y8)] (dv 14 (v := aI ((sll a0).length : Int)) (len_slO R_tabularyref19_Bucket a0 t210 (by kernel_rfl)) (by kernel_rfl) (s1 2 [(16, aB (decide (y8 < ((sll a0).length : Int)))), (15, aB (decide (y8 < ((sll a0).length : Int))))] ?_)))))
  rcases bif_some hm with ⟨h10, hm⟩ | ⟨h10, hm⟩
  ·
   refine known [16, 15] h10 (by kernel_rfl) (s1 2 [(18, .agg [aI a1.fKind, aI a1.fInt, aF a1.fFloat, aS a1.fText]), (17, .pv (encSl R_tabularyref19_Bucket a0))] ?_)
   obtain ⟨x11, h12, hm⟩ := bs hm
   refine dv 19 (cpure (by kernel_rfl) (ok_ref19_asked h12) (by kernel_rfl) (by kernel_rfl) (by kernel_rfl)) (by kernel_rfl) (f1 1 [(0, .pv (encSl R_tabularyref19_Bucket a0)), (2, aB a2), (4, .ptr 0 0), (7, aI y7), (8, aI y8), (20, aB x11)] ?_)
   rcases bif_some hm with ⟨h13, hm⟩ | ⟨h13, hm⟩
   ·
    refine c1 h13 (wp_skip (sq (bq (sq (rg (s1 2 [(24, aI y8), (23, .pv (encSl R_tabularyref19_Bucket a0))] ?_))))))
    obtain ⟨x14, h15, hm⟩ := bs hm
    refine dv 25 (v := .pv (.ptr (R_tabularyref19_Bucket x14) 0)) (ia_slO R_tabularyref19_Bucket a0 .i64 t210 t246 h15 rfl (by kernel_rfl)) (by kernel_rfl) (stf 3 [(0, .pv (encSl R_tabularyref19_Bucket a0)), (2, aB a2), (4, .ptr 0 0), (7, aI y7), (8, aI y8), (9, .ptr 1 0)] [.box [aI a1.fKind, aI a1.fInt, aF a1.fFloat, aS a1.fText] false, .box [aI x14.fLow.fKind, aI x14.fLow.fInt, aF x14.fLow.fFloat, aS x14.fLow.fText, aI x14.fHigh.fKind, aI x14.fHigh.fInt, aF x14.fHigh.fFloat, aS x14.fHigh.fText, aI x14.fCount, aI x14.fDistinct] false] (by kernel_rfl) ?_)
    refine sq (sq (rg (s1 3 [(29, .agg [aI a1.fKind, aI a1.fInt, aF a1.fFloat, aS a1.fText]), (28, .agg [aI x14.fHigh.fKind, aI x14.fHigh.fInt, aF x14.fHigh.fFloat, aS x14.fHigh.fText]), (27, .ptr 1 4)] ?_)))
    obtain ⟨x16, h17, hm⟩ := bs hm
    refine dv 30 (cpure (by kernel_rfl) (ok_ref04_Cmp h17) (by kernel_rfl) (by kernel_rfl) (by kernel_rfl)) (by kernel_rfl) (f1 1 [(0, .pv (encSl R_tabularyref19_Bucket a0)), (2, aB a2), (4, .ptr 0 0), (7, aI y7), (8, aI y8), (9, .ptr 1 0), (31, aB (decide (x16 < 0)))] ?_)
    rcases bif_some hm with ⟨h18, hm⟩ | ⟨h18, hm⟩
    ·
     refine c1 h18 (sq (dn [(0, .pv (encSl R_tabularyref19_Bucket a0)), (2, aB a2), (4, .ptr 0 0), (7, aI (IntKind.wrap .i64 (y7 + x14.fCount))), (8, aI y8)] (wp_exit (dn [(0, .pv (encSl R_tabularyref19_Bucket a0)), (2, aB a2), (4, .ptr 0 0), (7, aI (IntKind.wrap .i64 (y7 + x14.fCount))), (8, aI (IntKind.wrap .i64 (y8 + 1)))] ?_))))
     exact ⟨_, _, tidyL [(0, .pv (encSl R_tabularyref19_Bucket a0)), (2, aB a2), (4, .ptr 0 0), (7, aI (IntKind.wrap .i64 (y7 + x14.fCount))), (8, aI (IntKind.wrap .i64 (y8 + 1)))] [.box [aI a1.fKind, aI a1.fInt, aF a1.fFloat, aS a1.fText] false] (by kernel_rfl), ⟨(IntKind.wrap .i64 (y7 + x14.fCount)), (IntKind.wrap .i64 (y8 + 1)), hm, rfl, rfl⟩⟩
    ·
     refine c0 h18 (wp_skip ?_)
     refine sq (sq (rg (s1 3 [(38, .agg [aI x14.fLow.fKind, aI x14.fLow.fInt, aF x14.fLow.fFloat, aS x14.fLow.fText]), (37, .ptr 1 0), (36, .agg [aI a1.fKind, aI a1.fInt, aF a1.fFloat, aS a1.fText])] ?_)))
     obtain ⟨x19, h20, hm⟩ := bs hm
     refine dv 39 (cpure (by kernel_rfl) (ok_ref04_Cmp h20) (by kernel_rfl) (by kernel_rfl) (by kernel_rfl)) (by kernel_rfl) (f1 1 [(0, .pv (encSl R_tabularyref19_Bucket a0)), (2, aB a2), (4, .ptr 0 0), (7, aI y7), (9, .ptr 1 0), (40, aB (decide (x19 < 0)))] ?_)
     rcases bif_some hm with ⟨h21, hm⟩ | ⟨h21, hm⟩
     ·
      refine c1 h21 (sq (dn [(6, aI y7)] (wp_ret ?_)))
      obtain rfl := Option.some.inj hm
      exact ⟨trivial, by kernel_rfl⟩
     ·
      refine c0 h21 (wp_skip (sq (rg (s1 2 [(43, .agg [aI a1.fKind, aI a1.fInt, aF a1.fFloat, aS a1.fText]), (42, .pv (encSl R_tabularyref19_Bucket a0))] ?_))))
      obtain ⟨x22, h23, hm⟩ := bs hm
      refine dv 44 (cpure (by kernel_rfl) (ok_ref19_Equal h23) (by kernel_rfl) (by kernel_rfl) (by kernel_rfl)) (by kernel_rfl) (f1 1 [(2, aB a2), (4, .ptr 0 0), (7, aI y7), (9, .ptr 1 0), (10, aI x22)] ?_)
      refine sq (sq (rg (s1 3 [(47, .agg [aI x14.fHigh.fKind, aI x14.fHigh.fInt, aF x14.fHigh.fFloat, aS x14.fHigh.fText]), (46, .ptr 1 4), (45, .agg [aI a1.fKind, aI a1.fInt, aF a1.fFloat, aS a1.fText])] ?_)))
      obtain ⟨x24, h25, hm⟩ := bs hm
      refine dv 48 (cpure (by kernel_rfl) (ok_ref04_Cmp h25) (by kernel_rfl) (by kernel_rfl) (by kernel_rfl)) (by kernel_rfl) (f1 1 [(2, aB a2), (4, .ptr 0 0), (7, aI y7), (9, .ptr 1 0), (10, aI x22), (49, aB (x24 == 0))] ?_)
      rcases bif_some hm with ⟨h26, hm⟩ | ⟨h26, hm⟩
      ·
       refine c1 h26 ?_
       refine sq (sq (dn [(7, aI y7), (9, .ptr 1 0), (10, aI x22), (50, aB a2)] ?_))
       rcases bif_some hm with ⟨h27, hm⟩ | ⟨h27, hm⟩
       ·
        refine c1 h27 (sq (dn [(6, aI (IntKind.wrap .i64 (y7 + x14.fCount)))] (wp_ret ?_)))
        obtain rfl := Option.some.inj hm
        exact ⟨trivial, by kernel_rfl⟩
       ·
        refine c0 h27 (wp_skip (sq (dn [(6, aI (IntKind.wrap .i64 ((IntKind.wrap .i64 (y7 + x14.fCount)) - x22)))] (wp_ret ?_))))
        obtain rfl := Option.some.inj hm
        exact ⟨trivial, by kernel_rfl⟩
      ·
       refine c0 h26 (wp_skip ?_)
       refine sq (sq (rg (s1 3 [(63, .agg [aI x14.fLow.fKind, aI x14.fLow.fInt, aF x14.fLow.fFloat, aS x14.fLow.fText]), (62, .ptr 1 0), (61, .agg [aI a1.fKind, aI a1.fInt, aF a1.fFloat, aS a1.fText])] ?_)))
       obtain ⟨x28, h29, hm⟩ := bs hm
       refine dv 64 (cpure (by kernel_rfl) (ok_ref04_Cmp h29) (by kernel_rfl) (by kernel_rfl) (by kernel_rfl)) (by kernel_rfl) (f1 1 [(2, aB a2), (4, .ptr 0 0), (7, aI y7), (9, .ptr 1 0), (10, aI x22), (65, aB (x28 == 0))] ?_)
       rcases bif_some hm with ⟨h30, hm⟩ | ⟨h30, hm⟩
       ·
        refine c1 h30 (sq (sq (dn [(7, aI y7), (10, aI x22), (66, aB a2)] ?_)))
        rcases bif_some hm with ⟨h31, hm⟩ | ⟨h31, hm⟩
        ·
         refine c1 h31 (sq (dn [(6, aI (IntKind.wrap .i64 (y7 + x22)))] (wp_ret ?_)))
         obtain rfl := Option.some.inj hm
         exact ⟨trivial, by kernel_rfl⟩
        ·
         refine c0 h31 (wp_skip (sq (dn [(6, aI y7)] (wp_ret ?_))))
         obtain rfl := Option.some.inj hm
         exact ⟨trivial, by kernel_rfl⟩
       ·
        refine c0 h30 (wp_skip (sq (dn [(4, .ptr 0 0), (7, aI y7), (9, .ptr 1 0), (10, aI x22), (11, aI (IntKind.wrap .i64 (Int.tdiv x14.fCount 2)))] ?_)))
        obtain ⟨k35, hk35, hm⟩ := withK_some hm
        refine mid (fun t H => (∃ (y34 : Int) (w32 : AV) (w33 : AV), k35 y34 = some r ∧ t = mk 115 [(4, w32), (7, aI y7), (9, .ptr 1 0), (10, aI x22), (11, aI y34), (76, w33)] ∧ H = [.box [aI a1.fKind, aI a1.fInt, aF a1.fFloat, aS a1.fText] false, .box [aI x14.fLow.fKind, aI x14.fLow.fInt, aF x14.fLow.fFloat, aS x14.fLow.fText, aI x14.fHigh.fKind, aI x14.fHigh.fInt, aF x14.fHigh.fFloat, aS x14.fHigh.fText, aI x14.fCount, aI x14.fDistinct] false])) ?_ ?_
        ·
         rintro _ _ ⟨y34, w32, w33, hm, rfl, rfl⟩
         subst hk35
         obtain ⟨k38, hk38, hm⟩ := withK_some hm
         refine mid (fun t H => (∃ (y37 : Int) (w36 : AV), k38 y37 = some r ∧ t = mk 115 [(7, aI y7), (9, .ptr 1 0), (10, aI x22), (11, aI y37), (99, w36)] ∧ H = [.box [aI a1.fKind, aI a1.fInt, aF a1.fFloat, aS a1.fText] false, .box [aI x14.fLow.fKind, aI x14.fLow.fInt, aF x14.fLow.fFloat, aS x14.fLow.fText, aI x14.fHigh.fKind, aI x14.fHigh.fInt, aF x14.fHigh.fFloat, aS x14.fHigh.fText, aI x14.fCount, aI x14.fDistinct] false])) ?_ ?_
         ·
          rintro _ _ ⟨y37, w36, hm, rfl, rfl⟩
          subst hk38
          refine sq (sq (dn [(7, aI y7), (9, .ptr 1 0), (10, aI x22), (11, aI y37), (106, aB (decide (y37 > (IntKind.wrap .i64 (x14.fCount - x22)))))] ?_))
          rcases bif_some hm with ⟨h39, hm⟩ | ⟨h39, hm⟩
          ·
           refine c1 h39 (dn [(7, aI y7), (11, aI (IntKind.wrap .i64 (x14.fCount - x22)))] (sq (dn [(6, aI (IntKind.wrap .i64 (y7 + (IntKind.wrap .i64 (x14.fCount - x22)))))] (wp_ret ?_))))
           obtain rfl := Option.some.inj hm
           exact ⟨trivial, by kernel_rfl⟩
          ·
           refine c0 h39 (wp_skip (sq (dn [(6, aI (IntKind.wrap .i64 (y7 + y37)))] (wp_ret ?_))))
           obtain rfl := Option.some.inj hm
           exact ⟨trivial, by kernel_rfl⟩
         refine sq (dn [(7, aI y7), (9, .ptr 1 0), (10, aI x22), (11, aI y34), (99, aB (decide (y34 < x22)))] ?_)
         rcases bif_some hm with ⟨h40, hm⟩ | ⟨h40, hm⟩
         ·
          refine c1 h40 (dn [(7, aI y7), (9, .ptr 1 0), (10, aI x22), (11, aI x22)] ?_)
          exact ⟨x22, .any, hm, (mk_same (by kernel_rfl)), rfl⟩
         ·
          refine c0 h40 (wp_skip ?_)
          exact ⟨y34, aB (decide (y34 < x22)), hm, (mk_same (by kernel_rfl)), rfl⟩
        refine sq (dn [(4, .ptr 0 0), (7, aI y7), (9, .ptr 1 0), (10, aI x22), (11, aI (IntKind.wrap .i64 (Int.tdiv x14.fCount 2))), (76, aB (a1.fKind == 2))] ?_)
        rcases bif_some hm with ⟨h41, hm⟩ | ⟨h41, hm⟩
        ·
         refine c1 h41 (rg (s1 19 [(95, aU (IntKind.wrap .u64 ((IntKind.wrap .u64 x14.fHigh.fInt) - (IntKind.wrap .u64 x14.fLow.fInt)))), (94, aU (IntKind.wrap .u64 x14.fLow.fInt)), (93, aI x14.fLow.fInt), (92, .ptr 1 1), (91, .ptr 1 0), (90, aU (IntKind.wrap .u64 x14.fHigh.fInt)), (89, aI x14.fHigh.fInt), (88, .ptr 1 5), (87, .ptr 1 4), (86, aU (IntKind.wrap .u64 ((IntKind.wrap .u64 a1.fInt) - (IntKind.wrap .u64 x14.fLow.fInt)))), (85, aU (IntKind.wrap .u64 x14.fLow.fInt)), (84, aI x14.fLow.fInt), (83, .ptr 1 1), (82, .ptr 1 0), (81, aU (IntKind.wrap .u64 a1.fInt)), (80, aI a1.fInt), (79, .ptr 0 1), (78, aI x14.fCount), (77, .ptr 1 8)] ?_))
         obtain ⟨x42, h43, hm⟩ := bs hm
         refine dv 96 (cpure (by kernel_rfl) (ok_ref19_Share h43) (by kernel_rfl) (by kernel_rfl) (by kernel_rfl)) (by kernel_rfl) (f1 1 [(7, aI y7), (9, .ptr 1 0), (10, aI x22), (11, aI x42)] ?_)
         exact ⟨x42, .any, .any, hm, (mk_same (by kernel_rfl)), rfl⟩
        ·
         refine c0 h41 (wp_skip ?_)
         exact ⟨(IntKind.wrap .i64 (Int.tdiv x14.fCount 2)), .ptr 0 0, aB (a1.fKind == 2), hm, (mk_same (by kernel_rfl)), rfl⟩
   ·
    refine c0 h13 (wp_exit ?_)
    exact ⟨x11, y7, y8, hm, rfl, rfl⟩
  ·
   refine known [16, 15] h10 (by kernel_rfl) (f1 4 [(0, .pv (encSl R_tabularyref19_Bucket a0)), (2, aB a2), (4, .ptr 0 0), (7, aI y7), (8, aI y8), (20, aB false)] (cF (by kernel_rfl) (wp_exit ?_)))
   exact ⟨false, y7, y8, hm, rfl, rfl⟩
theorem ok_ref30_Share {n : Nat} {a0 : Int} {a1 : Int} {a2 : Int} {r : Int} (hm : ref30_Share n a0 a1 a2 = some r) :
    call G n 163 [aU a0, aU a1, aU a2] [] = some (.ret (aU r), []) := by
  unfold ref30_Share at hm
  obtain ⟨n, rfl, h0⟩ := at1_some hm
  replace hm := h0; clear h0
  refine callL 63 [(0, aU a0), (1, aU a1), (2, aU a2)] func163 rfl (by kernel_rfl) (sq (dn [(0, aU a0), (1, aU a1), (2, aU a2)] (sq (rg (s1 2 [(16, aU a1), (15, aU a0)] ?_)))))
  obtain ⟨x1, h2, hm⟩ := bs hm
  refine dv 17 (cpure (by kernel_rfl) (ok_ref30_Wide h2) (by kernel_rfl) (by kernel_rfl) (by kernel_rfl)) (by kernel_rfl) (f1 5 [(2, aU a2), (7, aU x1.1), (8, aU x1.2)] ?_)
  refine sq (sq (rg (s1 3 [(22, aB (x1.1 == 0)), (21, aB (x1.1 == 0)), (20, aU x1.1)] ?_)))
  refine segP (x1.1 == 0) [22, 21] (fun b => [(25, aB (b && (x1.2 == 0))), (24, ifA b (aB (x1.2 == 0)) (.undef)), (23, ifA b (aU x1.2) (.undef))]) 3 (by kernel_rfl) (by kernel_rfl) (by kernel_rfl) (fin [(2, aU a2), (7, aU x1.1), (8, aU x1.2), (25, aB ((x1.1 == 0) && (x1.2 == 0)))] rfl (by kernel_rfl) ?_)
  rcases bif_some hm with ⟨h3, hm⟩ | ⟨h3, hm⟩
  ·
   refine c1 h3 (sq (dn [(6, aU 0)] (wp_ret ?_)))
   obtain rfl := Option.some.inj hm
   exact ⟨trivial, by kernel_rfl⟩
  ·
   refine c0 h3 (wp_skip ?_)
   refine sq (sq (rg (s1 3 [(28, aB (a2 == 0)), (27, aB (a2 == 0)), (26, aU a2)] ?_)))
   refine segP (a2 == 0) [28, 27] (fun b => [(32, aB (b || (decide (x1.1 ≥ a2)))), (31, ifA b (.undef) (aB (decide (x1.1 ≥ a2)))), (30, ifA b (.undef) (aU a2)), (29, ifA b (.undef) (aU x1.1))]) 4 (by kernel_rfl) (by kernel_rfl) (by kernel_rfl) (fin [(2, aU a2), (7, aU x1.1), (8, aU x1.2), (32, aB ((a2 == 0) || (decide (x1.1 ≥ a2))))] rfl (by kernel_rfl) ?_)
   rcases bif_some hm with ⟨h4, hm⟩ | ⟨h4, hm⟩
   ·
    refine c1 h4 (sq (dn [(6, aU 18446744073709551615)] (wp_ret ?_)))
    obtain rfl := Option.some.inj hm
    exact ⟨trivial, by kernel_rfl⟩
   ·
    refine c0 h4 (wp_skip (sq (dn [(2, aU a2), (8, aU x1.2), (9, aU x1.1)] (sq (dn [(2, aU a2), (8, aU x1.2), (9, aU x1.1), (10, aU 0)] ?_)))))
    obtain ⟨k9, hk9, hm⟩ := withK_some hm
    refine mid (fun t H => (∃ (y5 : Int) (y6 : Int) (y7 : Bool) (y8 : Int), k9 y5 = some r ∧ t = mk 63 [(2, aU a2), (8, aU x1.2), (9, aU y8), (10, aU y5), (11, aI y6), (35, aB y7)] ∧ H = [])) ?_ ?_
    ·
     rintro _ _ ⟨y5, y6, y7, y8, hm, rfl, rfl⟩
     subst hk9
     refine sq (dn [(6, aU y5)] (wp_ret ?_))
     obtain rfl := Option.some.inj hm
     exact ⟨trivial, by kernel_rfl⟩
    refine sq (dn [(2, aU a2), (8, aU x1.2), (9, aU x1.1), (10, aU 0), (11, aI 63)] (bq ?_))
    refine loopF (fun mm t H => (∃ (y13 : Int) (y14 : Int) (y15 : Int), ref30_Share_l9 n a2 x1 k9 mm y13 y14 y15 = some r ∧ t = mk 63 [(2, aU a2), (8, aU x1.2), (9, aU y15), (10, aU y13), (11, aI y14)] ∧ H = [])) (⟨0, 63, x1.1, hm, rfl, rfl⟩) ?_ ?_
    · rintro _ _ ⟨y13, y14, y15, hm, _⟩; exact nomatch hm
    rintro m16 _ _ ⟨y13, y14, y15, hm, rfl, rfl⟩
    simp only [ref30_Share_l9] at hm
    refine sq (sq (dn [(2, aU a2), (8, aU x1.2), (9, aU y15), (10, aU y13), (11, aI y14), (35, aB (decide (y14 ≥ 0)))] ?_))
    rcases bif_some hm with ⟨h17, hm⟩ | ⟨h17, hm⟩
    ·
     refine c1 h17 (wp_skip (sq (bq (sq (rg (s1 3 [(40, aU (IntKind.wrap .u64 y14)), (39, aI y14), (38, aU x1.2)] ?_))))))
     obtain ⟨_, h18, hm⟩ := bs hm
     refine dv 41 (v := aU (iShr .u64 x1.2 (IntKind.wrap .u64 y14))) (shrO h18 (by kernel_rfl)) (by kernel_rfl) (f1 2 [(2, aU a2), (8, aU x1.2), (9, aU y15), (10, aU y13), (11, aI y14), (12, aU (Int.tmod (iShr .u64 x1.2 (IntKind.wrap .u64 y14)) 2))] (sq (dn [(2, aU a2), (8, aU x1.2), (9, aU y15), (10, aU y13), (11, aI y14), (12, aU (Int.tmod (iShr .u64 x1.2 (IntKind.wrap .u64 y14)) 2)), (13, aB (decide (y15 ≥ 9223372036854775808)))] (sq (dn [(2, aU a2), (8, aU x1.2), (9, aU (IntKind.wrap .u64 ((IntKind.wrap .u64 (y15 * 2)) + (Int.tmod (iShr .u64 x1.2 (IntKind.wrap .u64 y14)) 2)))), (10, aU y13), (11, aI y14), (13, aB (decide (y15 ≥ 9223372036854775808)))] (sq (dn [(2, aU a2), (8, aU x1.2), (9, aU (IntKind.wrap .u64 ((IntKind.wrap .u64 (y15 * 2)) + (Int.tmod (iShr .u64 x1.2 (IntKind.wrap .u64 y14)) 2)))), (10, aU (IntKind.wrap .u64 (y13 * 2))), (11, aI y14), (13, aB (decide (y15 ≥ 9223372036854775808)))] ?_)))))))
     refine sq (rg (s1 2 [(52, aB (decide (y15 ≥ 9223372036854775808))), (51, aB (decide (y15 ≥ 9223372036854775808)))] ?_))
     refine segP (decide (y15 ≥ 9223372036854775808)) [52, 51, 13] (fun b => [(56, aB (b || (decide ((IntKind.wrap .u64 ((IntKind.wrap .u64 (y15 * 2)) + (Int.tmod (iShr .u64 x1.2 (IntKind.wrap .u64 y14)) 2))) ≥ a2)))), (55, ifA b (.undef) (aB (decide ((IntKind.wrap .u64 ((IntKind.wrap .u64 (y15 * 2)) + (Int.tmod (iShr .u64 x1.2 (IntKind.wrap .u64 y14)) 2))) ≥ a2)))), (54, ifA b (.undef) (aU a2)), (53, ifA b (.undef) (aU (IntKind.wrap .u64 ((IntKind.wrap .u64 (y15 * 2)) + (Int.tmod (iShr .u64 x1.2 (IntKind.wrap .u64 y14)) 2)))))]) 4 (by kernel_rfl) (by kernel_rfl) (by kernel_rfl) (fin [(2, aU a2), (8, aU x1.2), (9, aU (IntKind.wrap .u64 ((IntKind.wrap .u64 (y15 * 2)) + (Int.tmod (iShr .u64 x1.2 (IntKind.wrap .u64 y14)) 2)))), (10, aU (IntKind.wrap .u64 (y13 * 2))), (11, aI y14), (56, aB ((decide (y15 ≥ 9223372036854775808)) || (decide ((IntKind.wrap .u64 ((IntKind.wrap .u64 (y15 * 2)) + (Int.tmod (iShr .u64 x1.2 (IntKind.wrap .u64 y14)) 2))) ≥ a2))))] rfl (by kernel_rfl) ?_)
     rcases bif_some hm with ⟨h19, hm⟩ | ⟨h19, hm⟩
     ·
      refine c1 h19 (sq (dn [(2, aU a2), (8, aU x1.2), (9, aU (IntKind.wrap .u64 ((IntKind.wrap .u64 ((IntKind.wrap .u64 (y15 * 2)) + (Int.tmod (iShr .u64 x1.2 (IntKind.wrap .u64 y14)) 2))) - a2))), (10, aU (IntKind.wrap .u64 (y13 * 2))), (11, aI y14)] (dn [(2, aU a2), (8, aU x1.2), (9, aU (IntKind.wrap .u64 ((IntKind.wrap .u64 ((IntKind.wrap .u64 (y15 * 2)) + (Int.tmod (iShr .u64 x1.2 (IntKind.wrap .u64 y14)) 2))) - a2))), (10, aU (IntKind.wrap .u64 ((IntKind.wrap .u64 (y13 * 2)) + 1))), (11, aI y14)] (dn [(2, aU a2), (8, aU x1.2), (9, aU (IntKind.wrap .u64 ((IntKind.wrap .u64 ((IntKind.wrap .u64 (y15 * 2)) + (Int.tmod (iShr .u64 x1.2 (IntKind.wrap .u64 y14)) 2))) - a2))), (10, aU (IntKind.wrap .u64 ((IntKind.wrap .u64 (y13 * 2)) + 1))), (11, aI (IntKind.wrap .i64 (y14 - 1)))] ?_))))
      exact ⟨_, _, tidyL [(2, aU a2), (8, aU x1.2), (9, aU (IntKind.wrap .u64 ((IntKind.wrap .u64 ((IntKind.wrap .u64 (y15 * 2)) + (Int.tmod (iShr .u64 x1.2 (IntKind.wrap .u64 y14)) 2))) - a2))), (10, aU (IntKind.wrap .u64 ((IntKind.wrap .u64 (y13 * 2)) + 1))), (11, aI (IntKind.wrap .i64 (y14 - 1)))] [] (by kernel_rfl), ⟨(IntKind.wrap .u64 ((IntKind.wrap .u64 (y13 * 2)) + 1)), (IntKind.wrap .i64 (y14 - 1)), (IntKind.wrap .u64 ((IntKind.wrap .u64 ((IntKind.wrap .u64 (y15 * 2)) + (Int.tmod (iShr .u64 x1.2 (IntKind.wrap .u64 y14)) 2))) - a2)), hm, rfl, rfl⟩⟩
     ·
      refine c0 h19 (wp_skip (dn [(2, aU a2), (8, aU x1.2), (9, aU (IntKind.wrap .u64 ((IntKind.wrap .u64 (y15 * 2)) + (Int.tmod (iShr .u64 x1.2 (IntKind.wrap .u64 y14)) 2)))), (10, aU (IntKind.wrap .u64 (y13 * 2))), (11, aI (IntKind.wrap .i64 (y14 - 1)))] ?_))
      exact ⟨_, _, tidyL [(2, aU a2), (8, aU x1.2), (9, aU (IntKind.wrap .u64 ((IntKind.wrap .u64 (y15 * 2)) + (Int.tmod (iShr .u64 x1.2 (IntKind.wrap .u64 y14)) 2)))), (10, aU (IntKind.wrap .u64 (y13 * 2))), (11, aI (IntKind.wrap .i64 (y14 - 1)))] [] (by kernel_rfl), ⟨(IntKind.wrap .u64 (y13 * 2)), (IntKind.wrap .i64 (y14 - 1)), (IntKind.wrap .u64 ((IntKind.wrap .u64 (y15 * 2)) + (Int.tmod (iShr .u64 x1.2 (IntKind.wrap .u64 y14)) 2))), hm, rfl, rfl⟩⟩
    ·
     refine c0 h17 (wp_exit ?_)
     exact ⟨y13, y14, (decide (y14 ≥ 0)), y15, hm, rfl, rfl⟩
theorem ok_ref31_against {n : Nat} {a0 : Int} {a1 : api_Expr} {a2 : api_Value} {a3 : Bool} {a4 : (Option (List tabularyref20_Stat))} {r : Int} (hm : ref31_against n a0 a1 a2 a3 a4 = some r) :
    call G n 246 [aI a0, .agg [aI a1.fKind, aI a1.fRel, aI a1.fCol, aI a1.fConst.fKind, aI a1.fConst.fInt, aF a1.fConst.fFloat, aS a1.fConst.fText, .pv (encSl R_E_api_Expr a1.fKids)], .agg [aI a2.fKind, aI a2.fInt, aF a2.fFloat, aS a2.fText], aB a3, .pv (encSl R_tabularyref20_Stat a4)] [] = some (.ret (aU r), []) := by
  unfold ref31_against at hm
  obtain ⟨n, rfl, h0⟩ := at1_some hm
  replace hm := h0; clear h0
  refine callL 104 [(0, aI a0), (1, .agg [aI a1.fKind, aI a1.fRel, aI a1.fCol, aI a1.fConst.fKind, aI a1.fConst.fInt, aF a1.fConst.fFloat, aS a1.fConst.fText, .pv (encSl R_E_api_Expr a1.fKids)]), (2, .agg [aI a2.fKind, aI a2.fInt, aF a2.fFloat, aS a2.fText]), (3, aB a3), (4, .pv (encSl R_tabularyref20_Stat a4))] func246 rfl (by kernel_rfl) (sq (det [(0, aI a0), (3, aB a3), (4, .pv (encSl R_tabularyref20_Stat a4)), (6, .ptr 0 0), (7, .ptr 1 0)] [.box [aI a1.fKind, aI a1.fRel, aI a1.fCol, aI a1.fConst.fKind, aI a1.fConst.fInt, aF a1.fConst.fFloat, aS a1.fConst.fText, .pv (encSl R_E_api_Expr a1.fKids)] false, .box [aI a2.fKind, aI a2.fInt, aF a2.fFloat, aS a2.fText] false] (by kernel_rfl) (sq (rgd (shd 3 [(16, aI a1.fRel), (15, .ptr 0 1), (14, .pv (encSl R_tabularyref20_Stat a4))] (by kernel_rfl) ?_)))))
  obtain ⟨x1, h2, hm⟩ := bs hm
  refine dvd 17 (v := .pv (.ptr (R_tabularyref20_Stat x1) 0)) (ia_slO R_tabularyref20_Stat a4 .i64 t51 t148 h2 rfl (by kernel_rfl)) (by kernel_rfl) (shd 4 [(21, aI a1.fCol), (20, .ptr 0 2), (19, .pv (encSl R_tabularyref20_Col x1.fCols)), (18, .pv (.ptr (R_tabularyref20_Stat x1) 1))] (by kernel_rfl) ?_)
  obtain ⟨x3, h4, hm⟩ := bs hm
  refine dvd 22 (v := .pv (.ptr (R_tabularyref20_Col x3) 0)) (ia_slO R_tabularyref20_Col x1.fCols .i64 t146 t212 h4 rfl (by kernel_rfl)) (by kernel_rfl) (std 3 [(11, .ptr 2 0), (23, .agg ([aI x3.fKind, aI x3.fNulls, aI x3.fDistinct, .pv (encSl R_tabularyref19_Bucket x3.fHist), .pv (encSl R_api_Value x3.fSample)] ++ (aA .u8 64 x3.fSketch)))] [.box [aI a1.fKind, aI a1.fRel, aI a1.fCol, aI a1.fConst.fKind, aI a1.fConst.fInt, aF a1.fConst.fFloat, aS a1.fConst.fText, .pv (encSl R_E_api_Expr a1.fKids)] false, .box [aI a2.fKind, aI a2.fInt, aF a2.fFloat, aS a2.fText] false, .box ([aI x3.fKind, aI x3.fNulls, aI x3.fDistinct, .pv (encSl R_tabularyref19_Bucket x3.fHist), .pv (encSl R_api_Value x3.fSample)] ++ (aA .u8 64 x3.fSketch)) false] (by kernel_rfl) (find [(0, aI a0), (3, aB a3), (7, .ptr 1 0), (11, .ptr 2 0)] rfl (by kernel_rfl) (by kernel_rfl) ?_))
  refine sq ?_
  obtain ⟨k6, hk6, hm⟩ := withK_some hm
  refine mid (fun t H => (∃ (y5 : Bool), k6 y5 = some r ∧ t = mk 104 [(0, aI a0), (3, aB a3), (7, .ptr 1 0), (11, .ptr 2 0), (44, aB y5)] ∧ H = [.box [aI a1.fKind, aI a1.fRel, aI a1.fCol, aI a1.fConst.fKind, aI a1.fConst.fInt, aF a1.fConst.fFloat, aS a1.fConst.fText, .pv (encSl R_E_api_Expr a1.fKids)] false, .box [aI a2.fKind, aI a2.fInt, aF a2.fFloat, aS a2.fText] false, .box ([aI x3.fKind, aI x3.fNulls, aI x3.fDistinct, .pv (encSl R_tabularyref19_Bucket x3.fHist), .pv (encSl R_api_Value x3.fSample)] ++ (aA .u8 64 x3.fSketch)) false])) ?_ ?_
  ·
   rintro _ _ ⟨y5, hm, rfl, rfl⟩
   subst hk6
   rcases bif_some hm with ⟨h7, hm⟩ | ⟨h7, hm⟩
   ·
    refine c1 h7 (sq (sq (dn [(11, .ptr 2 0), (46, aB (a0 == 7))] ?_)))
    rcases bif_some hm with ⟨h8, hm⟩ | ⟨h8, hm⟩
    ·
     refine c1 h8 (sq (rg (s1 2 [(48, aI x3.fDistinct), (47, .ptr 2 2)] ?_)))
     obtain ⟨x9, h10, hm⟩ := bs hm
     refine dv 49 (cpure (by kernel_rfl) (ok_ref31_one h10) (by kernel_rfl) (by kernel_rfl) (by kernel_rfl)) (by kernel_rfl) (f1 1 [(10, aU x9)] (wp_ret ?_))
     obtain rfl := Option.some.inj hm
     exact ⟨trivial, by kernel_rfl⟩
    ·
     refine c0 h8 (wp_skip (sq (dn [(10, aU 349525)] (wp_ret ?_))))
     obtain rfl := Option.some.inj hm
     exact ⟨trivial, by kernel_rfl⟩
   ·
    refine c0 h7 (wp_skip (sq (rg (s1 2 [(51, .pv (encSl R_tabularyref19_Bucket x3.fHist)), (50, .ptr 2 3)] ?_))))
    obtain ⟨x11, h12, hm⟩ := bs hm
    refine dv 52 (cpure (by kernel_rfl) (ok_ref19_Total h12) (by kernel_rfl) (by kernel_rfl) (by kernel_rfl)) (by kernel_rfl) (f1 1 [(0, aI a0), (3, aB a3), (7, .ptr 1 0), (11, .ptr 2 0), (12, aI x11)] (sq (rg (s1 3 [(55, .agg [aI a2.fKind, aI a2.fInt, aF a2.fFloat, aS a2.fText]), (54, .pv (encSl R_tabularyref19_Bucket x3.fHist)), (53, .ptr 2 3)] ?_))))
    obtain ⟨x13, h14, hm⟩ := bs hm
    refine dv 56 (cpure (by kernel_rfl) (ok_ref19_Equal h14) (by kernel_rfl) (by kernel_rfl) (by kernel_rfl)) (by kernel_rfl) (f1 1 [(0, aI a0), (3, aB a3), (7, .ptr 1 0), (11, .ptr 2 0), (12, aI x11), (13, aI x13)] ?_)
    obtain ⟨k17, hk17, hm⟩ := withK_some hm
    refine mid (fun t H => (∃ (y16 : Int) (w15 : AV), k17 y16 = some r ∧ t = mk 104 [(0, aI a0), (3, aB a3), (7, .ptr 1 0), (11, .ptr 2 0), (12, aI x11), (13, aI y16), (62, w15)] ∧ H = [.box [aI a1.fKind, aI a1.fRel, aI a1.fCol, aI a1.fConst.fKind, aI a1.fConst.fInt, aF a1.fConst.fFloat, aS a1.fConst.fText, .pv (encSl R_E_api_Expr a1.fKids)] false, .box [aI a2.fKind, aI a2.fInt, aF a2.fFloat, aS a2.fText] false, .box ([aI x3.fKind, aI x3.fNulls, aI x3.fDistinct, .pv (encSl R_tabularyref19_Bucket x3.fHist), .pv (encSl R_api_Value x3.fSample)] ++ (aA .u8 64 x3.fSketch)) false])) ?_ ?_
    ·
     rintro _ _ ⟨y16, w15, hm, rfl, rfl⟩
     subst hk17
     obtain ⟨k20, hk20, hm⟩ := withK_some hm
     refine mid (fun t H => (∃ (y19 : Int) (w18 : AV), k20 y19 = some r ∧ t = mk 104 [(0, aI a0), (3, aB a3), (7, .ptr 1 0), (11, .ptr 2 0), (12, aI x11), (13, aI y19), (72, w18)] ∧ H = [.box [aI a1.fKind, aI a1.fRel, aI a1.fCol, aI a1.fConst.fKind, aI a1.fConst.fInt, aF a1.fConst.fFloat, aS a1.fConst.fText, .pv (encSl R_E_api_Expr a1.fKids)] false, .box [aI a2.fKind, aI a2.fInt, aF a2.fFloat, aS a2.fText] false, .box ([aI x3.fKind, aI x3.fNulls, aI x3.fDistinct, .pv (encSl R_tabularyref19_Bucket x3.fHist), .pv (encSl R_api_Value x3.fSample)] ++ (aA .u8 64 x3.fSketch)) false])) ?_ ?_
     ·
      rintro _ _ ⟨y19, w18, hm, rfl, rfl⟩
      subst hk20
      obtain ⟨k23, hk23, hm⟩ := withK_some hm
      refine mid (fun t H => (∃ (y22 : Int) (w21 : AV), k23 y22 = some r ∧ t = mk 104 [(0, aI a0), (3, aB a3), (7, .ptr 1 0), (11, .ptr 2 0), (12, aI x11), (13, aI y22), (81, w21)] ∧ H = [.box [aI a1.fKind, aI a1.fRel, aI a1.fCol, aI a1.fConst.fKind, aI a1.fConst.fInt, aF a1.fConst.fFloat, aS a1.fConst.fText, .pv (encSl R_E_api_Expr a1.fKids)] false, .box [aI a2.fKind, aI a2.fInt, aF a2.fFloat, aS a2.fText] false, .box ([aI x3.fKind, aI x3.fNulls, aI x3.fDistinct, .pv (encSl R_tabularyref19_Bucket x3.fHist), .pv (encSl R_api_Value x3.fSample)] ++ (aA .u8 64 x3.fSketch)) false])) ?_ ?_
      ·
       rintro _ _ ⟨y22, w21, hm, rfl, rfl⟩
       subst hk23
       refine sq ?_
       refine sq (rg (s1 3 [(90, aB (a0 == 9)), (89, aB (a0 == 9)), (88, aI a0)] ?_))
       refine segP (a0 == 9) [90, 89] (fun b => [(92, aB (b && a3)), (91, ifA b (aB a3) (.undef))]) 2 (by kernel_rfl) (by kernel_rfl) (by kernel_rfl) (fin [(7, .ptr 1 0), (11, .ptr 2 0), (12, aI x11), (13, aI y22), (92, aB ((a0 == 9) && a3))] rfl (by kernel_rfl) ?_)
       rcases bif_some hm with ⟨h24, hm⟩ | ⟨h24, hm⟩
       ·
        refine c1 h24 (rg (s1 4 [(96, .agg [aI a2.fKind, aI a2.fInt, aF a2.fFloat, aS a2.fText]), (95, .pv (encSl R_tabularyref19_Bucket x3.fHist)), (94, .ptr 2 3), (93, aI x11)] ?_))
        obtain ⟨x25, h26, hm⟩ := bs hm
        refine dv 97 (cpure (by kernel_rfl) (ok_ref19_Below h26) (by kernel_rfl) (by kernel_rfl) (by kernel_rfl)) (by kernel_rfl) (f1 2 [(12, aI x11), (13, aI (IntKind.wrap .i64 (x11 - x25)))] (sq (rg (s1 1 [(99, aI (IntKind.wrap .i64 (x11 - x25)))] ?_))))
        obtain ⟨x27, h28, hm⟩ := bs hm
        refine dv 100 (cpure (by kernel_rfl) (ok_ref31_up h28) (by kernel_rfl) (by kernel_rfl) (by kernel_rfl)) (by kernel_rfl) (s1 1 [(101, aI x11)] ?_)
        obtain ⟨x29, h30, hm⟩ := bs hm
        refine dv 102 (cpure (by kernel_rfl) (ok_ref31_up h30) (by kernel_rfl) (by kernel_rfl) (by kernel_rfl)) (by kernel_rfl) ?_
        obtain ⟨x31, h32, hm⟩ := bs hm
        refine dv 103 (cpure (by kernel_rfl) (ok_ref30_Share h32) (by kernel_rfl) (by kernel_rfl) (by kernel_rfl)) (by kernel_rfl) (f1 1 [(10, aU x31)] (wp_ret ?_))
        obtain rfl := Option.some.inj hm
        exact ⟨trivial, by kernel_rfl⟩
       ·
        refine c0 h24 (wp_skip (sq (rg (s1 1 [(99, aI y22)] ?_))))
        obtain ⟨x33, h34, hm⟩ := bs hm
        refine dv 100 (cpure (by kernel_rfl) (ok_ref31_up h34) (by kernel_rfl) (by kernel_rfl) (by kernel_rfl)) (by kernel_rfl) (s1 1 [(101, aI x11)] ?_)
        obtain ⟨x35, h36, hm⟩ := bs hm
        refine dv 102 (cpure (by kernel_rfl) (ok_ref31_up h36) (by kernel_rfl) (by kernel_rfl) (by kernel_rfl)) (by kernel_rfl) ?_
        obtain ⟨x37, h38, hm⟩ := bs hm
        refine dv 103 (cpure (by kernel_rfl) (ok_ref30_Share h38) (by kernel_rfl) (by kernel_rfl) (by kernel_rfl)) (by kernel_rfl) (f1 1 [(10, aU x37)] (wp_ret ?_))
        obtain rfl := Option.some.inj hm
        exact ⟨trivial, by kernel_rfl⟩
      refine sq (rg (s1 3 [(79, aB (a0 == 8)), (78, aB (a0 == 8)), (77, aI a0)] ?_))
      refine segP (a0 == 8) [79, 78] (fun b => [(81, aB (b && a3)), (80, ifA b (aB a3) (.undef))]) 2 (by kernel_rfl) (by kernel_rfl) (by kernel_rfl) (fin [(0, aI a0), (3, aB a3), (7, .ptr 1 0), (11, .ptr 2 0), (12, aI x11), (13, aI y19), (81, aB ((a0 == 8) && a3))] rfl (by kernel_rfl) ?_)
      rcases bif_some hm with ⟨h39, hm⟩ | ⟨h39, hm⟩
      ·
       refine c1 h39 (rg (s1 4 [(85, .agg [aI a2.fKind, aI a2.fInt, aF a2.fFloat, aS a2.fText]), (84, .pv (encSl R_tabularyref19_Bucket x3.fHist)), (83, .ptr 2 3), (82, aI x11)] ?_))
       obtain ⟨x40, h41, hm⟩ := bs hm
       refine dv 86 (cpure (by kernel_rfl) (ok_ref19_Below h41) (by kernel_rfl) (by kernel_rfl) (by kernel_rfl)) (by kernel_rfl) (f1 2 [(0, aI a0), (3, aB a3), (7, .ptr 1 0), (11, .ptr 2 0), (12, aI x11), (13, aI (IntKind.wrap .i64 (x11 - x40)))] ?_)
       exact ⟨(IntKind.wrap .i64 (x11 - x40)), .any, hm, (mk_same (by kernel_rfl)), rfl⟩
      ·
       refine c0 h39 (wp_skip ?_)
       exact ⟨y19, aB ((a0 == 8) && a3), hm, (mk_same (by kernel_rfl)), rfl⟩
     refine sq (rg (s1 3 [(69, aB (a0 == 9)), (68, aB (a0 == 9)), (67, aI a0)] ?_))
     refine segP (a0 == 9) [69, 68] (fun b => [(72, aB (b && (!a3))), (71, ifA b (aB (!a3)) (.undef)), (70, ifA b (aB a3) (.undef))]) 3 (by kernel_rfl) (by kernel_rfl) (by kernel_rfl) (fin [(0, aI a0), (3, aB a3), (7, .ptr 1 0), (11, .ptr 2 0), (12, aI x11), (13, aI y16), (72, aB ((a0 == 9) && (!a3)))] rfl (by kernel_rfl) ?_)
     rcases bif_some hm with ⟨h42, hm⟩ | ⟨h42, hm⟩
     ·
      refine c1 h42 (rg (s1 3 [(75, .agg [aI a2.fKind, aI a2.fInt, aF a2.fFloat, aS a2.fText]), (74, .pv (encSl R_tabularyref19_Bucket x3.fHist)), (73, .ptr 2 3)] ?_))
      obtain ⟨x43, h44, hm⟩ := bs hm
      refine dv 76 (cpure (by kernel_rfl) (ok_ref19_Below h44) (by kernel_rfl) (by kernel_rfl) (by kernel_rfl)) (by kernel_rfl) (f1 1 [(0, aI a0), (3, aB a3), (7, .ptr 1 0), (11, .ptr 2 0), (12, aI x11), (13, aI x43)] ?_)
      exact ⟨x43, .any, hm, (mk_same (by kernel_rfl)), rfl⟩
     ·
      refine c0 h42 (wp_skip ?_)
      exact ⟨y16, aB ((a0 == 9) && (!a3)), hm, (mk_same (by kernel_rfl)), rfl⟩
    refine sq (rg (s1 3 [(59, aB (a0 == 8)), (58, aB (a0 == 8)), (57, aI a0)] ?_))
    refine segP (a0 == 8) [59, 58] (fun b => [(62, aB (b && (!a3))), (61, ifA b (aB (!a3)) (.undef)), (60, ifA b (aB a3) (.undef))]) 3 (by kernel_rfl) (by kernel_rfl) (by kernel_rfl) (fin [(0, aI a0), (3, aB a3), (7, .ptr 1 0), (11, .ptr 2 0), (12, aI x11), (13, aI x13), (62, aB ((a0 == 8) && (!a3)))] rfl (by kernel_rfl) ?_)
    rcases bif_some hm with ⟨h45, hm⟩ | ⟨h45, hm⟩
    ·
     refine c1 h45 (rg (s1 3 [(65, .agg [aI a2.fKind, aI a2.fInt, aF a2.fFloat, aS a2.fText]), (64, .pv (encSl R_tabularyref19_Bucket x3.fHist)), (63, .ptr 2 3)] ?_))
     obtain ⟨x46, h47, hm⟩ := bs hm
     refine dv 66 (cpure (by kernel_rfl) (ok_ref19_Below h47) (by kernel_rfl) (by kernel_rfl) (by kernel_rfl)) (by kernel_rfl) (f1 1 [(0, aI a0), (3, aB a3), (7, .ptr 1 0), (11, .ptr 2 0), (12, aI x11), (13, aI x46)] ?_)
     exact ⟨x46, .any, hm, (mk_same (by kernel_rfl)), rfl⟩
    ·
     refine c0 h45 (wp_skip ?_)
     exact ⟨x13, aB ((a0 == 8) && (!a3)), hm, (mk_same (by kernel_rfl)), rfl⟩
  refine rgd (shd 2 [(25, .pv (encSl R_tabularyref19_Bucket x3.fHist)), (24, .ptr 2 3)] (by kernel_rfl) (dvd 26 (v := aI ((sll x3.fHist).length : Int)) (len_slO R_tabularyref19_Bucket x3.fHist t210 (by kernel_rfl)) (by kernel_rfl) (shd 2 [(28, aB (((sll x3.fHist).length : Int) == 0)), (27, aB (((sll x3.fHist).length : Int) == 0))] (by kernel_rfl) ?_)))
  rcases bif_some hm with ⟨h48, hm⟩ | ⟨h48, hm⟩
  ·
   refine knownd [28, 27] h48 (by kernel_rfl) (shd 16 [(44, aB true), (43, .undef), (42, .undef), (41, .undef), (40, .undef), (39, .undef), (38, .undef), (37, .undef), (36, .undef), (35, .undef), (34, aB true), (33, aB true), (32, .undef), (31, .undef), (30, .undef), (29, .undef)] (by kernel_rfl) (find [(0, aI a0), (3, aB a3), (7, .ptr 1 0), (11, .ptr 2 0), (44, aB true)] rfl (by kernel_rfl) (by kernel_rfl) ?_))
   exact ⟨true, hm, rfl, rfl⟩
  ·
   refine knownd [28, 27] h48 (by kernel_rfl) (shd 2 [(30, .pv (encSl R_tabularyref19_Bucket x3.fHist)), (29, .ptr 2 3)] (by kernel_rfl) ?_)
   obtain ⟨x49, h50, hm⟩ := bs hm
   refine dvd 31 (cpure (by kernel_rfl) (ok_ref19_Right h50) (by kernel_rfl) (by kernel_rfl) (by kernel_rfl)) (by kernel_rfl) (shd 3 [(34, aB (!x49)), (33, aB (!x49)), (32, aB (!x49))] (by kernel_rfl) ?_)
   rcases bif_some hm with ⟨h51, hm⟩ | ⟨h51, hm⟩
   ·
    refine knownd [34, 33, 32] h51 (by kernel_rfl) (shd 10 [(44, aB true), (43, .undef), (42, .undef), (41, .undef), (40, .undef), (39, .undef), (38, .undef), (37, .undef), (36, .undef), (35, .undef)] (by kernel_rfl) (find [(0, aI a0), (3, aB a3), (7, .ptr 1 0), (11, .ptr 2 0), (44, aB true)] rfl (by kernel_rfl) (by kernel_rfl) ?_))
    exact ⟨true, hm, rfl, rfl⟩
   ·
    refine knownd [34, 33, 32] h51 (by kernel_rfl) (shd 2 [(36, .pv (encSl R_tabularyref19_Bucket x3.fHist)), (35, .ptr 2 3)] (by kernel_rfl) ?_)
    obtain ⟨x52, h53, hm⟩ := bs hm
    refine dvd 37 (v := .pv (.ptr (R_tabularyref19_Bucket x52) 0)) (ia_slO R_tabularyref19_Bucket x3.fHist .i64 t210 t246 h53 rfl (by kernel_rfl)) (by kernel_rfl) (shd 7 [(44, aB (x52.fLow.fKind != a2.fKind)), (43, aB (x52.fLow.fKind != a2.fKind)), (42, aI a2.fKind), (41, .ptr 1 0), (40, aI x52.fLow.fKind), (39, .pv (.ptr (R_tabularyref19_Bucket x52) 0)), (38, .pv (.ptr (R_tabularyref19_Bucket x52) 0))] (by kernel_rfl) (find [(0, aI a0), (3, aB a3), (7, .ptr 1 0), (11, .ptr 2 0), (44, aB (x52.fLow.fKind != a2.fKind))] rfl (by kernel_rfl) (by kernel_rfl) ?_))
    exact ⟨(x52.fLow.fKind != a2.fKind), hm, rfl, rfl⟩
theorem ok_ref31_nulls {n : Nat} {a0 : api_Expr} {a1 : (Option (List tabularyref20_Stat))} {r : Int} (hm : ref31_nulls n a0 a1 = some r) :
    call G n 209 [.agg [aI a0.fKind, aI a0.fRel, aI a0.fCol, aI a0.fConst.fKind, aI a0.fConst.fInt, aF a0.fConst.fFloat, aS a0.fConst.fText, .pv (encSl R_E_api_Expr a0.fKids)], .pv (encSl R_tabularyref20_Stat a1)] [] = some (.ret (aU r), []) := by
  unfold ref31_nulls at hm
  obtain ⟨n, rfl, h0⟩ := at1_some hm
  replace hm := h0; clear h0
  refine callL 29 [(0, .agg [aI a0.fKind, aI a0.fRel, aI a0.fCol, aI a0.fConst.fKind, aI a0.fConst.fInt, aF a0.fConst.fFloat, aS a0.fConst.fText, .pv (encSl R_E_api_Expr a0.fKids)]), (1, .pv (encSl R_tabularyref20_Stat a1))] func209 rfl (by kernel_rfl) (sq (det [(1, .pv (encSl R_tabularyref20_Stat a1)), (2, .ptr 0 0)] [.box [aI a0.fKind, aI a0.fRel, aI a0.fCol, aI a0.fConst.fKind, aI a0.fConst.fInt, aF a0.fConst.fFloat, aS a0.fConst.fText, .pv (encSl R_E_api_Expr a0.fKids)] false] (by kernel_rfl) (sq (rgd (shd 3 [(8, aI a0.fRel), (7, .ptr 0 1), (6, .pv (encSl R_tabularyref20_Stat a1))] (by kernel_rfl) ?_)))))
  obtain ⟨x1, h2, hm⟩ := bs hm
  refine dvd 9 (v := .pv (.ptr (R_tabularyref20_Stat x1) 0)) (ia_slO R_tabularyref20_Stat a1 .i64 t51 t148 h2 rfl (by kernel_rfl)) (by kernel_rfl) (shd 4 [(13, aI a0.fCol), (12, .ptr 0 2), (11, .pv (encSl R_tabularyref20_Col x1.fCols)), (10, .pv (.ptr (R_tabularyref20_Stat x1) 1))] (by kernel_rfl) ?_)
  obtain ⟨x3, h4, hm⟩ := bs hm
  refine dvd 14 (v := .pv (.ptr (R_tabularyref20_Col x3) 0)) (ia_slO R_tabularyref20_Col x1.fCols .i64 t146 t212 h4 rfl (by kernel_rfl)) (by kernel_rfl) (shd 2 [(16, aI x3.fNulls), (15, .pv (.ptr (R_tabularyref20_Col x3) 1))] (by kernel_rfl) ?_)
  obtain ⟨x5, h6, hm⟩ := bs hm
  refine dvd 17 (cpure (by kernel_rfl) (ok_ref31_up h6) (by kernel_rfl) (by kernel_rfl) (by kernel_rfl)) (by kernel_rfl) (shd 3 [(20, aI a0.fRel), (19, .ptr 0 1), (18, .pv (encSl R_tabularyref20_Stat a1))] (by kernel_rfl) (dvd 21 (v := .pv (.ptr (R_tabularyref20_Stat x1) 0)) (ia_slO R_tabularyref20_Stat a1 .i64 t51 t148 h2 rfl (by kernel_rfl)) (by kernel_rfl) (shd 2 [(23, aI x1.fRows), (22, .pv (.ptr (R_tabularyref20_Stat x1) 0))] (by kernel_rfl) ?_)))
  obtain ⟨x7, h8, hm⟩ := bs hm
  refine dvd 24 (cpure (by kernel_rfl) (ok_ref31_up h8) (by kernel_rfl) (by kernel_rfl) (by kernel_rfl)) (by kernel_rfl) ?_
  obtain ⟨x9, h10, hm⟩ := bs hm
  refine dvd 25 (cpure (by kernel_rfl) (ok_ref30_Share h10) (by kernel_rfl) (by kernel_rfl) (by kernel_rfl)) (by kernel_rfl) (shd 1 [(5, aU x9)] (by kernel_rfl) (find [(5, aU x9)] rfl (by kernel_rfl) (by kernel_rfl) (sq (sq (dn [(5, aU x9), (27, aB (decide (x9 > 1048576)))] ?_)))))
  rcases bif_some hm with ⟨h11, hm⟩ | ⟨h11, hm⟩
  ·
   refine c1 h11 (sq (dn [(4, aU 1048576)] (wp_ret ?_)))
   obtain rfl := Option.some.inj hm
   exact ⟨trivial, by kernel_rfl⟩
  ·
   refine c0 h11 (wp_skip (sq (dn [(4, aU x9)] (wp_ret ?_))))
   obtain rfl := Option.some.inj hm
   exact ⟨trivial, by kernel_rfl⟩
theorem ok_ref30_Sub {n : Nat} {a0 : Int} {a1 : Int} {r : Int} (hm : ref30_Sub n a0 a1 = some r) :
    call G n 247 [aU a0, aU a1] [] = some (.ret (aU r), []) := by
  unfold ref30_Sub at hm
  obtain ⟨n, rfl, h0⟩ := at1_some hm
  replace hm := h0; clear h0
  refine callL 11 [(0, aU a0), (1, aU a1)] func247 rfl (by kernel_rfl) (sq (dn [(0, aU a0), (1, aU a1)] (sq (sq (dn [(0, aU a0), (1, aU a1), (7, aB (decide (a0 < a1)))] ?_)))))
  rcases bif_some hm with ⟨h1, hm⟩ | ⟨h1, hm⟩
  ·
   refine c1 h1 (sq (dn [(4, aU 0)] (wp_ret ?_)))
   obtain rfl := Option.some.inj hm
   exact ⟨trivial, by kernel_rfl⟩
  ·
   refine c0 h1 (wp_skip (sq (dn [(4, aU (IntKind.wrap .u64 (a0 - a1)))] (wp_ret ?_))))
   obtain rfl := Option.some.inj hm
   exact ⟨trivial, by kernel_rfl⟩
theorem ok_ref30_Inverse {n : Nat} {a0 : Int} {r : Int} (hm : ref30_Inverse n a0 = some r) :
    call G n 207 [aU a0] [] = some (.ret (aU r), []) := by
  unfold ref30_Inverse at hm
  obtain ⟨n, rfl, h0⟩ := at1_some hm
  replace hm := h0; clear h0
  refine callL 5 [(0, aU a0)] func207 rfl (by kernel_rfl) (sq (dn [(0, aU a0)] (sq (rg (s1 1 [(3, aU a0)] ?_)))))
  obtain ⟨x1, h2, hm⟩ := bs hm
  refine dv 4 (cpure (by kernel_rfl) (ok_ref30_Sub h2) (by kernel_rfl) (by kernel_rfl) (by kernel_rfl)) (by kernel_rfl) (f1 1 [(2, aU x1)] (wp_ret ?_))
  obtain rfl := Option.some.inj hm
  exact ⟨trivial, by kernel_rfl⟩
theorem ok_ref30_Scale {n : Nat} {a0 : Int} {a1 : Int} {r : Int} (hm : ref30_Scale n a0 a1 = some r) :
    call G n 108 [aU a0, aU a1] [] = some (.ret (aU r), []) := by
  unfold ref30_Scale at hm
  obtain ⟨n, rfl, h0⟩ := at1_some hm
  replace hm := h0; clear h0
  refine callL 8 [(0, aU a0), (1, aU a1)] func108 rfl (by kernel_rfl) (sq (dn [(0, aU a0), (1, aU a1)] (sq (rg (s1 2 [(6, aU a1), (5, aU a0)] ?_)))))
  obtain ⟨x1, h2, hm⟩ := bs hm
  refine dv 7 (cpure (by kernel_rfl) (ok_ref30_Share h2) (by kernel_rfl) (by kernel_rfl) (by kernel_rfl)) (by kernel_rfl) (f1 1 [(4, aU x1)] (wp_ret ?_))
  obtain rfl := Option.some.inj hm
  exact ⟨trivial, by kernel_rfl⟩
theorem ok_ref31_compared {n : Nat} {a0 : api_Expr} {a1 : (Option (List tabularyref20_Stat))} {r : Int} (hm : ref31_compared n a0 a1 = some r) :
    call G n 206 [.agg [aI a0.fKind, aI a0.fRel, aI a0.fCol, aI a0.fConst.fKind, aI a0.fConst.fInt, aF a0.fConst.fFloat, aS a0.fConst.fText, .pv (encSl R_E_api_Expr a0.fKids)], .pv (encSl R_tabularyref20_Stat a1)] [] = some (.ret (aU r), []) := by
  unfold ref31_compared at hm
  obtain ⟨n, rfl, h0⟩ := at1_some hm
  replace hm := h0; clear h0
  refine callL 115 [(0, .agg [aI a0.fKind, aI a0.fRel, aI a0.fCol, aI a0.fConst.fKind, aI a0.fConst.fInt, aF a0.fConst.fFloat, aS a0.fConst.fText, .pv (encSl R_E_api_Expr a0.fKids)]), (1, .pv (encSl R_tabularyref20_Stat a1))] func206 rfl (by kernel_rfl) (sq (det [(1, .pv (encSl R_tabularyref20_Stat a1)), (2, .ptr 0 0)] [.box [aI a0.fKind, aI a0.fRel, aI a0.fCol, aI a0.fConst.fKind, aI a0.fConst.fInt, aF a0.fConst.fFloat, aS a0.fConst.fText, .pv (encSl R_E_api_Expr a0.fKids)] false] (by kernel_rfl) (sq (rg (s1 2 [(9, .pv (encSl R_E_api_Expr a0.fKids)), (8, .ptr 0 7)] ?_)))))
  obtain ⟨x1, h2, hm⟩ := bs hm
  refine dv 10 (v := .pv (.ptr (R_api_Expr (un_api_Expr x1)) 0)) (ia_slE R_E_api_Expr a0.fKids .i64 t23 t49 h2 (R_un_api_Expr x1) rfl (by kernel_rfl)) (by kernel_rfl) (stf 3 [(1, .pv (encSl R_tabularyref20_Stat a1)), (2, .ptr 0 0), (5, .ptr 1 0)] [.box [aI a0.fKind, aI a0.fRel, aI a0.fCol, aI a0.fConst.fKind, aI a0.fConst.fInt, aF a0.fConst.fFloat, aS a0.fConst.fText, .pv (encSl R_E_api_Expr a0.fKids)] false, .box [aI ((un_api_Expr x1).fKind), aI ((un_api_Expr x1).fRel), aI ((un_api_Expr x1).fCol), aI (((un_api_Expr x1).fConst).fKind), aI (((un_api_Expr x1).fConst).fInt), aF (((un_api_Expr x1).fConst).fFloat), aS (((un_api_Expr x1).fConst).fText), .pv (encSl R_E_api_Expr ((un_api_Expr x1).fKids))] false] (by kernel_rfl) (sq (rg (s1 2 [(13, .pv (encSl R_E_api_Expr a0.fKids)), (12, .ptr 0 7)] ?_))))
  obtain ⟨x3, h4, hm⟩ := bs hm
  refine dv 14 (v := .pv (.ptr (R_api_Expr (un_api_Expr x3)) 0)) (ia_slE R_E_api_Expr a0.fKids .i64 t23 t49 h4 (R_un_api_Expr x3) rfl (by kernel_rfl)) (by kernel_rfl) (stf 3 [(1, .pv (encSl R_tabularyref20_Stat a1)), (2, .ptr 0 0), (5, .ptr 1 0), (6, .ptr 2 0)] [.box [aI a0.fKind, aI a0.fRel, aI a0.fCol, aI a0.fConst.fKind, aI a0.fConst.fInt, aF a0.fConst.fFloat, aS a0.fConst.fText, .pv (encSl R_E_api_Expr a0.fKids)] false, .box [aI ((un_api_Expr x1).fKind), aI ((un_api_Expr x1).fRel), aI ((un_api_Expr x1).fCol), aI (((un_api_Expr x1).fConst).fKind), aI (((un_api_Expr x1).fConst).fInt), aF (((un_api_Expr x1).fConst).fFloat), aS (((un_api_Expr x1).fConst).fText), .pv (encSl R_E_api_Expr ((un_api_Expr x1).fKids))] false, .box [aI ((un_api_Expr x3).fKind), aI ((un_api_Expr x3).fRel), aI ((un_api_Expr x3).fCol), aI (((un_api_Expr x3).fConst).fKind), aI (((un_api_Expr x3).fConst).fInt), aF (((un_api_Expr x3).fConst).fFloat), aS (((un_api_Expr x3).fConst).fText), .pv (encSl R_E_api_Expr ((un_api_Expr x3).fKids))] false] (by kernel_rfl) ?_)
  refine sq ?_
  obtain ⟨k6, hk6, hm⟩ := withK_some hm
  refine mid (fun t H => (∃ (y5 : Bool), k6 y5 = some r ∧ t = mk 115 [(1, .pv (encSl R_tabularyref20_Stat a1)), (2, .ptr 0 0), (5, .ptr 1 0), (6, .ptr 2 0), (23, aB y5)] ∧ H = [.box [aI a0.fKind, aI a0.fRel, aI a0.fCol, aI a0.fConst.fKind, aI a0.fConst.fInt, aF a0.fConst.fFloat, aS a0.fConst.fText, .pv (encSl R_E_api_Expr a0.fKids)] false, .box [aI ((un_api_Expr x1).fKind), aI ((un_api_Expr x1).fRel), aI ((un_api_Expr x1).fCol), aI (((un_api_Expr x1).fConst).fKind), aI (((un_api_Expr x1).fConst).fInt), aF (((un_api_Expr x1).fConst).fFloat), aS (((un_api_Expr x1).fConst).fText), .pv (encSl R_E_api_Expr ((un_api_Expr x1).fKids))] false, .box [aI ((un_api_Expr x3).fKind), aI ((un_api_Expr x3).fRel), aI ((un_api_Expr x3).fCol), aI (((un_api_Expr x3).fConst).fKind), aI (((un_api_Expr x3).fConst).fInt), aF (((un_api_Expr x3).fConst).fFloat), aS (((un_api_Expr x3).fConst).fText), .pv (encSl R_E_api_Expr ((un_api_Expr x3).fKids))] false])) ?_ ?_
  ·
   rintro _ _ ⟨y5, hm, rfl, rfl⟩
   subst hk6
   rcases bif_some hm with ⟨h7, hm⟩ | ⟨h7, hm⟩
   ·
    refine c1 h7 (sq (rgd (shd 3 [(26, aI ((un_api_Expr x1).fRel)), (25, .ptr 1 1), (24, .pv (encSl R_tabularyref20_Stat a1))] (by kernel_rfl) ?_)))
    obtain ⟨x8, h9, hm⟩ := bs hm
    refine dvd 27 (v := .pv (.ptr (R_tabularyref20_Stat x8) 0)) (ia_slO R_tabularyref20_Stat a1 .i64 t51 t148 h9 rfl (by kernel_rfl)) (by kernel_rfl) (shd 4 [(31, aI ((un_api_Expr x1).fCol)), (30, .ptr 1 2), (29, .pv (encSl R_tabularyref20_Col x8.fCols)), (28, .pv (.ptr (R_tabularyref20_Stat x8) 1))] (by kernel_rfl) ?_)
    obtain ⟨x10, h11, hm⟩ := bs hm
    refine dvd 32 (v := .pv (.ptr (R_tabularyref20_Col x10) 0)) (ia_slO R_tabularyref20_Col x8.fCols .i64 t146 t212 h11 rfl (by kernel_rfl)) (by kernel_rfl) (shd 3 [(7, aI x10.fDistinct), (34, aI x10.fDistinct), (33, .pv (.ptr (R_tabularyref20_Col x10) 2))] (by kernel_rfl) (find [(1, .pv (encSl R_tabularyref20_Stat a1)), (2, .ptr 0 0), (6, .ptr 2 0), (7, aI x10.fDistinct)] rfl (by kernel_rfl) (by kernel_rfl) ?_))
    obtain ⟨k16, hk16, hm⟩ := withK_some hm
    refine mid (fun t H => (∃ (y15 : Int) (w12 : AV) (w13 : AV) (w14 : AV), k16 y15 = some r ∧ t = mk 115 [(1, w12), (2, .ptr 0 0), (6, w13), (7, aI y15), (47, w14)] ∧ H = [.box [aI a0.fKind, aI a0.fRel, aI a0.fCol, aI a0.fConst.fKind, aI a0.fConst.fInt, aF a0.fConst.fFloat, aS a0.fConst.fText, .pv (encSl R_E_api_Expr a0.fKids)] false, .box [aI ((un_api_Expr x1).fKind), aI ((un_api_Expr x1).fRel), aI ((un_api_Expr x1).fCol), aI (((un_api_Expr x1).fConst).fKind), aI (((un_api_Expr x1).fConst).fInt), aF (((un_api_Expr x1).fConst).fFloat), aS (((un_api_Expr x1).fConst).fText), .pv (encSl R_E_api_Expr ((un_api_Expr x1).fKids))] false, .box [aI ((un_api_Expr x3).fKind), aI ((un_api_Expr x3).fRel), aI ((un_api_Expr x3).fCol), aI (((un_api_Expr x3).fConst).fKind), aI (((un_api_Expr x3).fConst).fInt), aF (((un_api_Expr x3).fConst).fFloat), aS (((un_api_Expr x3).fConst).fText), .pv (encSl R_E_api_Expr ((un_api_Expr x3).fKids))] false])) ?_ ?_
    ·
     rintro _ _ ⟨y15, w12, w13, w14, hm, rfl, rfl⟩
     subst hk16
     refine sq (sq (dn [(7, aI y15), (61, aB (a0.fKind == 7))] ?_))
     rcases bif_some hm with ⟨h17, hm⟩ | ⟨h17, hm⟩
     ·
      refine c1 h17 (sq (rg (s1 1 [(62, aI y15)] ?_)))
      obtain ⟨x18, h19, hm⟩ := bs hm
      refine dv 63 (cpure (by kernel_rfl) (ok_ref31_one h19) (by kernel_rfl) (by kernel_rfl) (by kernel_rfl)) (by kernel_rfl) (f1 1 [(4, aU x18)] (wp_ret ?_))
      obtain rfl := Option.some.inj hm
      exact ⟨trivial, by kernel_rfl⟩
     ·
      refine c0 h17 (wp_skip (sq (dn [(4, aU 349525)] (wp_ret ?_))))
      obtain rfl := Option.some.inj hm
      exact ⟨trivial, by kernel_rfl⟩
    refine sq (rgd (shd 3 [(37, aI ((un_api_Expr x3).fRel)), (36, .ptr 2 1), (35, .pv (encSl R_tabularyref20_Stat a1))] (by kernel_rfl) ?_))
    obtain ⟨x20, h21, hm⟩ := bs hm
    refine dvd 38 (v := .pv (.ptr (R_tabularyref20_Stat x20) 0)) (ia_slO R_tabularyref20_Stat a1 .i64 t51 t148 h21 rfl (by kernel_rfl)) (by kernel_rfl) (shd 4 [(42, aI ((un_api_Expr x3).fCol)), (41, .ptr 2 2), (40, .pv (encSl R_tabularyref20_Col x20.fCols)), (39, .pv (.ptr (R_tabularyref20_Stat x20) 1))] (by kernel_rfl) ?_)
    obtain ⟨x22, h23, hm⟩ := bs hm
    refine dvd 43 (v := .pv (.ptr (R_tabularyref20_Col x22) 0)) (ia_slO R_tabularyref20_Col x20.fCols .i64 t146 t212 h23 rfl (by kernel_rfl)) (by kernel_rfl) (shd 4 [(47, aB (decide (x22.fDistinct > x10.fDistinct))), (46, aI x10.fDistinct), (45, aI x22.fDistinct), (44, .pv (.ptr (R_tabularyref20_Col x22) 2))] (by kernel_rfl) (find [(1, .pv (encSl R_tabularyref20_Stat a1)), (2, .ptr 0 0), (6, .ptr 2 0), (7, aI x10.fDistinct), (47, aB (decide (x22.fDistinct > x10.fDistinct)))] rfl (by kernel_rfl) (by kernel_rfl) ?_))
    rcases bif_some hm with ⟨h24, hm⟩ | ⟨h24, hm⟩
    ·
     refine c1 h24 (rgd (shd 3 [(50, aI ((un_api_Expr x3).fRel)), (49, .ptr 2 1), (48, .pv (encSl R_tabularyref20_Stat a1))] (by kernel_rfl) (dvd 51 (v := .pv (.ptr (R_tabularyref20_Stat x20) 0)) (ia_slO R_tabularyref20_Stat a1 .i64 t51 t148 h21 rfl (by kernel_rfl)) (by kernel_rfl) (shd 4 [(55, aI ((un_api_Expr x3).fCol)), (54, .ptr 2 2), (53, .pv (encSl R_tabularyref20_Col x20.fCols)), (52, .pv (.ptr (R_tabularyref20_Stat x20) 1))] (by kernel_rfl) (dvd 56 (v := .pv (.ptr (R_tabularyref20_Col x22) 0)) (ia_slO R_tabularyref20_Col x20.fCols .i64 t146 t212 h23 rfl (by kernel_rfl)) (by kernel_rfl) (shd 3 [(7, aI x22.fDistinct), (58, aI x22.fDistinct), (57, .pv (.ptr (R_tabularyref20_Col x22) 2))] (by kernel_rfl) (find [(2, .ptr 0 0), (7, aI x22.fDistinct)] rfl (by kernel_rfl) (by kernel_rfl) ?_)))))))
     exact ⟨x22.fDistinct, .any, .any, .any, hm, (mk_same (by kernel_rfl)), rfl⟩
    ·
     refine c0 h24 (wp_skip ?_)
     exact ⟨x10.fDistinct, .pv (encSl R_tabularyref20_Stat a1), .ptr 2 0, aB (decide (x22.fDistinct > x10.fDistinct)), hm, (mk_same (by kernel_rfl)), rfl⟩
   ·
    refine c0 h7 (wp_skip ?_)
    refine sq ?_
    refine sq (rg (s1 2 [(65, .pv (encSl R_tabularyref20_Stat a1)), (64, .agg [aI ((un_api_Expr x1).fKind), aI ((un_api_Expr x1).fRel), aI ((un_api_Expr x1).fCol), aI (((un_api_Expr x1).fConst).fKind), aI (((un_api_Expr x1).fConst).fInt), aF (((un_api_Expr x1).fConst).fFloat), aS (((un_api_Expr x1).fConst).fText), .pv (encSl R_E_api_Expr ((un_api_Expr x1).fKids))])] ?_))
    obtain ⟨x25, h26, hm⟩ := bs hm
    refine dv 66 (cpure (by kernel_rfl) (ok_ref31_known h26) (by kernel_rfl) (by kernel_rfl) (by kernel_rfl)) (by kernel_rfl) (s1 1 [(67, aB x25)] ?_)
    refine segP x25 [67, 66] (fun b => [(71, aB (b && (((un_api_Expr x3).fKind) == 2))), (70, ifA b (aB (((un_api_Expr x3).fKind) == 2)) (.undef)), (69, ifA b (aI ((un_api_Expr x3).fKind)) (.undef)), (68, ifA b (.ptr 2 0) (.undef))]) 4 (by kernel_rfl) (by kernel_rfl) (by kernel_rfl) (fin [(1, .pv (encSl R_tabularyref20_Stat a1)), (2, .ptr 0 0), (5, .ptr 1 0), (6, .ptr 2 0), (71, aB (x25 && (((un_api_Expr x3).fKind) == 2)))] rfl (by kernel_rfl) ?_)
    rcases bif_some hm with ⟨h27, hm⟩ | ⟨h27, hm⟩
    ·
     refine c1 h27 ?_
     refine sq (sq (dn [(1, .pv (encSl R_tabularyref20_Stat a1)), (2, .ptr 0 0), (5, .ptr 1 0), (6, .ptr 2 0), (75, aB ((((un_api_Expr x3).fConst).fKind) == 0))] ?_))
     rcases bif_some hm with ⟨h28, hm⟩ | ⟨h28, hm⟩
     ·
      refine c1 h28 (sq (dn [(4, aU 0)] (wp_ret ?_)))
      obtain rfl := Option.some.inj hm
      exact ⟨trivial, by kernel_rfl⟩
     ·
      refine c0 h28 (wp_skip (sq (rgd (shd 6 [(81, .pv (encSl R_tabularyref20_Stat a1)), (80, .agg [aI (((un_api_Expr x3).fConst).fKind), aI (((un_api_Expr x3).fConst).fInt), aF (((un_api_Expr x3).fConst).fFloat), aS (((un_api_Expr x3).fConst).fText)]), (79, .ptr 2 3), (78, .agg [aI ((un_api_Expr x1).fKind), aI ((un_api_Expr x1).fRel), aI ((un_api_Expr x1).fCol), aI (((un_api_Expr x1).fConst).fKind), aI (((un_api_Expr x1).fConst).fInt), aF (((un_api_Expr x1).fConst).fFloat), aS (((un_api_Expr x1).fConst).fText), .pv (encSl R_E_api_Expr ((un_api_Expr x1).fKids))]), (77, aI a0.fKind), (76, .ptr 0 0)] (by kernel_rfl) ?_))))
      obtain ⟨x29, h30, hm⟩ := bs hm
      refine dvd 82 (cpure (by kernel_rfl) (ok_ref31_against h30) (by kernel_rfl) (by kernel_rfl) (by kernel_rfl)) (by kernel_rfl) (shd 2 [(84, .pv (encSl R_tabularyref20_Stat a1)), (83, .agg [aI ((un_api_Expr x1).fKind), aI ((un_api_Expr x1).fRel), aI ((un_api_Expr x1).fCol), aI (((un_api_Expr x1).fConst).fKind), aI (((un_api_Expr x1).fConst).fInt), aF (((un_api_Expr x1).fConst).fFloat), aS (((un_api_Expr x1).fConst).fText), .pv (encSl R_E_api_Expr ((un_api_Expr x1).fKids))])] (by kernel_rfl) ?_)
      obtain ⟨x31, h32, hm⟩ := bs hm
      refine dvd 85 (cpure (by kernel_rfl) (ok_ref31_nulls h32) (by kernel_rfl) (by kernel_rfl) (by kernel_rfl)) (by kernel_rfl) ?_
      obtain ⟨x33, h34, hm⟩ := bs hm
      refine dvd 86 (cpure (by kernel_rfl) (ok_ref30_Inverse h34) (by kernel_rfl) (by kernel_rfl) (by kernel_rfl)) (by kernel_rfl) ?_
      obtain ⟨x35, h36, hm⟩ := bs hm
      refine dvd 87 (cpure (by kernel_rfl) (ok_ref30_Scale h36) (by kernel_rfl) (by kernel_rfl) (by kernel_rfl)) (by kernel_rfl) (shd 1 [(4, aU x35)] (by kernel_rfl) (find [(4, aU x35)] rfl (by kernel_rfl) (by kernel_rfl) (wp_ret ?_)))
      obtain rfl := Option.some.inj hm
      exact ⟨trivial, by kernel_rfl⟩
    ·
     refine c0 h27 (wp_skip (sq ?_))
     refine sq (rg (s1 2 [(89, .pv (encSl R_tabularyref20_Stat a1)), (88, .agg [aI ((un_api_Expr x3).fKind), aI ((un_api_Expr x3).fRel), aI ((un_api_Expr x3).fCol), aI (((un_api_Expr x3).fConst).fKind), aI (((un_api_Expr x3).fConst).fInt), aF (((un_api_Expr x3).fConst).fFloat), aS (((un_api_Expr x3).fConst).fText), .pv (encSl R_E_api_Expr ((un_api_Expr x3).fKids))])] ?_))
     obtain ⟨x37, h38, hm⟩ := bs hm
     refine dv 90 (cpure (by kernel_rfl) (ok_ref31_known h38) (by kernel_rfl) (by kernel_rfl) (by kernel_rfl)) (by kernel_rfl) (s1 1 [(91, aB x37)] ?_)
     refine segP x37 [91, 90] (fun b => [(95, aB (b && (((un_api_Expr x1).fKind) == 2))), (94, ifA b (aB (((un_api_Expr x1).fKind) == 2)) (.undef)), (93, ifA b (aI ((un_api_Expr x1).fKind)) (.undef)), (92, ifA b (.ptr 1 0) (.undef))]) 4 (by kernel_rfl) (by kernel_rfl) (by kernel_rfl) (fin [(1, .pv (encSl R_tabularyref20_Stat a1)), (2, .ptr 0 0), (5, .ptr 1 0), (6, .ptr 2 0), (95, aB (x37 && (((un_api_Expr x1).fKind) == 2)))] rfl (by kernel_rfl) ?_)
     rcases bif_some hm with ⟨h39, hm⟩ | ⟨h39, hm⟩
     ·
      refine c1 h39 ?_
      refine sq (sq (dn [(1, .pv (encSl R_tabularyref20_Stat a1)), (2, .ptr 0 0), (5, .ptr 1 0), (6, .ptr 2 0), (99, aB ((((un_api_Expr x1).fConst).fKind) == 0))] ?_))
      rcases bif_some hm with ⟨h40, hm⟩ | ⟨h40, hm⟩
      ·
       refine c1 h40 (sq (dn [(4, aU 0)] (wp_ret ?_)))
       obtain rfl := Option.some.inj hm
       exact ⟨trivial, by kernel_rfl⟩
      ·
       refine c0 h40 (wp_skip (sq (rgd (shd 6 [(105, .pv (encSl R_tabularyref20_Stat a1)), (104, .agg [aI (((un_api_Expr x1).fConst).fKind), aI (((un_api_Expr x1).fConst).fInt), aF (((un_api_Expr x1).fConst).fFloat), aS (((un_api_Expr x1).fConst).fText)]), (103, .ptr 1 3), (102, .agg [aI ((un_api_Expr x3).fKind), aI ((un_api_Expr x3).fRel), aI ((un_api_Expr x3).fCol), aI (((un_api_Expr x3).fConst).fKind), aI (((un_api_Expr x3).fConst).fInt), aF (((un_api_Expr x3).fConst).fFloat), aS (((un_api_Expr x3).fConst).fText), .pv (encSl R_E_api_Expr ((un_api_Expr x3).fKids))]), (101, aI a0.fKind), (100, .ptr 0 0)] (by kernel_rfl) ?_))))
       obtain ⟨x41, h42, hm⟩ := bs hm
       refine dvd 106 (cpure (by kernel_rfl) (ok_ref31_against h42) (by kernel_rfl) (by kernel_rfl) (by kernel_rfl)) (by kernel_rfl) (shd 2 [(108, .pv (encSl R_tabularyref20_Stat a1)), (107, .agg [aI ((un_api_Expr x3).fKind), aI ((un_api_Expr x3).fRel), aI ((un_api_Expr x3).fCol), aI (((un_api_Expr x3).fConst).fKind), aI (((un_api_Expr x3).fConst).fInt), aF (((un_api_Expr x3).fConst).fFloat), aS (((un_api_Expr x3).fConst).fText), .pv (encSl R_E_api_Expr ((un_api_Expr x3).fKids))])] (by kernel_rfl) ?_)
       obtain ⟨x43, h44, hm⟩ := bs hm
       refine dvd 109 (cpure (by kernel_rfl) (ok_ref31_nulls h44) (by kernel_rfl) (by kernel_rfl) (by kernel_rfl)) (by kernel_rfl) ?_
       obtain ⟨x45, h46, hm⟩ := bs hm
       refine dvd 110 (cpure (by kernel_rfl) (ok_ref30_Inverse h46) (by kernel_rfl) (by kernel_rfl) (by kernel_rfl)) (by kernel_rfl) ?_
       obtain ⟨x47, h48, hm⟩ := bs hm
       refine dvd 111 (cpure (by kernel_rfl) (ok_ref30_Scale h48) (by kernel_rfl) (by kernel_rfl) (by kernel_rfl)) (by kernel_rfl) (shd 1 [(4, aU x47)] (by kernel_rfl) (find [(4, aU x47)] rfl (by kernel_rfl) (by kernel_rfl) (wp_ret ?_)))
       obtain rfl := Option.some.inj hm
       exact ⟨trivial, by kernel_rfl⟩
     ·
      refine c0 h39 (wp_skip (sq (sq (dn [(114, aB (a0.fKind == 7))] ?_))))
      rcases bif_some hm with ⟨h49, hm⟩ | ⟨h49, hm⟩
      ·
       refine c1 h49 (sq (dn [(4, aU 104857)] (wp_ret ?_)))
       obtain rfl := Option.some.inj hm
       exact ⟨trivial, by kernel_rfl⟩
      ·
       refine c0 h49 (wp_skip (sq (dn [(4, aU 349525)] (wp_ret ?_))))
       obtain rfl := Option.some.inj hm
       exact ⟨trivial, by kernel_rfl⟩
  refine rg (s1 2 [(17, .pv (encSl R_tabularyref20_Stat a1)), (16, .agg [aI ((un_api_Expr x1).fKind), aI ((un_api_Expr x1).fRel), aI ((un_api_Expr x1).fCol), aI (((un_api_Expr x1).fConst).fKind), aI (((un_api_Expr x1).fConst).fInt), aF (((un_api_Expr x1).fConst).fFloat), aS (((un_api_Expr x1).fConst).fText), .pv (encSl R_E_api_Expr ((un_api_Expr x1).fKids))])] ?_)
  obtain ⟨x50, h51, hm⟩ := bs hm
  refine dv 18 (cpure (by kernel_rfl) (ok_ref31_known h51) (by kernel_rfl) (by kernel_rfl) (by kernel_rfl)) (by kernel_rfl) (s1 1 [(19, aB x50)] ?_)
  rcases bif_some hm with ⟨h52, hm⟩ | ⟨h52, hm⟩
  ·
   refine known [19, 18] h52 (by kernel_rfl) (s1 2 [(21, .pv (encSl R_tabularyref20_Stat a1)), (20, .agg [aI ((un_api_Expr x3).fKind), aI ((un_api_Expr x3).fRel), aI ((un_api_Expr x3).fCol), aI (((un_api_Expr x3).fConst).fKind), aI (((un_api_Expr x3).fConst).fInt), aF (((un_api_Expr x3).fConst).fFloat), aS (((un_api_Expr x3).fConst).fText), .pv (encSl R_E_api_Expr ((un_api_Expr x3).fKids))])] ?_)
   obtain ⟨x53, h54, hm⟩ := bs hm
   refine dv 22 (cpure (by kernel_rfl) (ok_ref31_known h54) (by kernel_rfl) (by kernel_rfl) (by kernel_rfl)) (by kernel_rfl) (f1 1 [(1, .pv (encSl R_tabularyref20_Stat a1)), (2, .ptr 0 0), (5, .ptr 1 0), (6, .ptr 2 0), (23, aB x53)] ?_)
   exact ⟨x53, hm, rfl, rfl⟩
  ·
   refine known [19, 18] h52 (by kernel_rfl) (f1 4 [(1, .pv (encSl R_tabularyref20_Stat a1)), (2, .ptr 0 0), (5, .ptr 1 0), (6, .ptr 2 0), (23, aB false)] ?_)
   exact ⟨false, hm, rfl, rfl⟩
theorem okf_ref31_part {rc_ref31_part : (Nat → api_Expr → (Option (List tabularyref20_Stat)) → Option (Int))} (ih_ref31_part : ∀ {n : Nat} {a0 : api_Expr} {a1 : (Option (List tabularyref20_Stat))} {r : Int} (hm : rc_ref31_part n a0 a1 = some r), call G n 165 [.agg [aI a0.fKind, aI a0.fRel, aI a0.fCol, aI a0.fConst.fKind, aI a0.fConst.fInt, aF a0.fConst.fFloat, aS a0.fConst.fText, .pv (encSl R_E_api_Expr a0.fKids)], .pv (encSl R_tabularyref20_Stat a1)] [] = some (.ret (aU r), [])) {n : Nat} {a0 : api_Expr} {a1 : (Option (List tabularyref20_Stat))} {r : Int} (hm : ref31_part_f rc_ref31_part n a0 a1 = some r) :
    call G n 165 [.agg [aI a0.fKind, aI a0.fRel, aI a0.fCol, aI a0.fConst.fKind, aI a0.fConst.fInt, aF a0.fConst.fFloat, aS a0.fConst.fText, .pv (encSl R_E_api_Expr a0.fKids)], .pv (encSl R_tabularyref20_Stat a1)] [] = some (.ret (aU r), []) := by
  unfold ref31_part_f at hm
  obtain ⟨n, rfl, h0⟩ := at1_some hm
  replace hm := h0; clear h0
  refine callL 80 [(0, .agg [aI a0.fKind, aI a0.fRel, aI a0.fCol, aI a0.fConst.fKind, aI a0.fConst.fInt, aF a0.fConst.fFloat, aS a0.fConst.fText, .pv (encSl R_E_api_Expr a0.fKids)]), (1, .pv (encSl R_tabularyref20_Stat a1))] func165 rfl (by kernel_rfl) (sq (det [(1, .pv (encSl R_tabularyref20_Stat a1)), (2, .ptr 0 0)] [.box [aI a0.fKind, aI a0.fRel, aI a0.fCol, aI a0.fConst.fKind, aI a0.fConst.fInt, aF a0.fConst.fFloat, aS a0.fConst.fText, .pv (encSl R_E_api_Expr a0.fKids)] false] (by kernel_rfl) (sq (sq (dn [(1, .pv (encSl R_tabularyref20_Stat a1)), (2, .ptr 0 0), (8, aI a0.fKind)] (bq (sq (dn [(1, .pv (encSl R_tabularyref20_Stat a1)), (2, .ptr 0 0), (8, aI a0.fKind), (9, aB (a0.fKind == 2))] ?_))))))))
  rcases bif_some hm with ⟨h1, hm⟩ | ⟨h1, hm⟩
  ·
   refine c1 h1 (sq (sq (rg (s1 2 [(12, .agg [aI a0.fConst.fKind, aI a0.fConst.fInt, aF a0.fConst.fFloat, aS a0.fConst.fText]), (11, .ptr 0 3)] ?_))))
   obtain ⟨x2, h3, hm⟩ := bs hm
   refine dv 13 (cpure (by kernel_rfl) (ok_ref22_True h3) (by kernel_rfl) (by kernel_rfl) (by kernel_rfl)) (by kernel_rfl) (fin [(13, aB x2)] rfl (by kernel_rfl) ?_)
   rcases bif_some hm with ⟨h4, hm⟩ | ⟨h4, hm⟩
   ·
    refine c1 h4 (sq (dn [(4, aU 1048576)] (wp_ret ?_)))
    obtain rfl := Option.some.inj hm
    exact ⟨trivial, by kernel_rfl⟩
   ·
    refine c0 h4 (wp_skip (sq (dn [(4, aU 0)] (wp_ret ?_))))
    obtain rfl := Option.some.inj hm
    exact ⟨trivial, by kernel_rfl⟩
  ·
   refine c0 h1 ?_
   obtain ⟨k6, hk6, hm⟩ := withK_some hm
   refine mid (fun t H => (∃ (y5 : Bool), k6 y5 = some r ∧ t = mk 80 [(1, .pv (encSl R_tabularyref20_Stat a1)), (2, .ptr 0 0), (8, aI a0.fKind), (14, aB y5)] ∧ H = [.box [aI a0.fKind, aI a0.fRel, aI a0.fCol, aI a0.fConst.fKind, aI a0.fConst.fInt, aF a0.fConst.fFloat, aS a0.fConst.fText, .pv (encSl R_E_api_Expr a0.fKids)] false])) ?_ ?_
   ·
    rintro _ _ ⟨y5, hm, rfl, rfl⟩
    subst hk6
    rcases bif_some hm with ⟨h7, hm⟩ | ⟨h7, hm⟩
    ·
     refine c1 h7 (sq (rg (s1 2 [(19, .pv (encSl R_tabularyref20_Stat a1)), (18, .agg [aI a0.fKind, aI a0.fRel, aI a0.fCol, aI a0.fConst.fKind, aI a0.fConst.fInt, aF a0.fConst.fFloat, aS a0.fConst.fText, .pv (encSl R_E_api_Expr a0.fKids)])] ?_)))
     obtain ⟨x8, h9, hm⟩ := bs hm
     refine dv 20 (cpure (by kernel_rfl) (ok_ref31_compared h9) (by kernel_rfl) (by kernel_rfl) (by kernel_rfl)) (by kernel_rfl) (f1 1 [(4, aU x8)] (wp_ret ?_))
     obtain rfl := Option.some.inj hm
     exact ⟨trivial, by kernel_rfl⟩
    ·
     refine c0 h7 (sq (dn [(1, .pv (encSl R_tabularyref20_Stat a1)), (2, .ptr 0 0), (8, aI a0.fKind), (21, aB (a0.fKind == 10))] ?_))
     rcases bif_some hm with ⟨h10, hm⟩ | ⟨h10, hm⟩
     ·
      refine c1 h10 (sq (rgd (shd 2 [(24, .pv (encSl R_E_api_Expr a0.fKids)), (23, .ptr 0 7)] (by kernel_rfl) ?_)))
      obtain ⟨x11, h12, hm⟩ := bs hm
      refine dvd 25 (v := .pv (.ptr (R_api_Expr (un_api_Expr x11)) 0)) (ia_slE R_E_api_Expr a0.fKids .i64 t23 t49 h12 (R_un_api_Expr x11) rfl (by kernel_rfl)) (by kernel_rfl) (shd 2 [(27, .pv (encSl R_tabularyref20_Stat a1)), (26, .agg [aI ((un_api_Expr x11).fKind), aI ((un_api_Expr x11).fRel), aI ((un_api_Expr x11).fCol), aI (((un_api_Expr x11).fConst).fKind), aI (((un_api_Expr x11).fConst).fInt), aF (((un_api_Expr x11).fConst).fFloat), aS (((un_api_Expr x11).fConst).fText), .pv (encSl R_E_api_Expr ((un_api_Expr x11).fKids))])] (by kernel_rfl) ?_)
      obtain ⟨x13, h14, hm⟩ := bs hm
      refine dvd 28 (cpure (by kernel_rfl) (ih_ref31_part h14) (by kernel_rfl) (by kernel_rfl) (by kernel_rfl)) (by kernel_rfl) (shd 2 [(30, .pv (encSl R_E_api_Expr a0.fKids)), (29, .ptr 0 7)] (by kernel_rfl) ?_)
      obtain ⟨x15, h16, hm⟩ := bs hm
      refine dvd 31 (v := .pv (.ptr (R_api_Expr (un_api_Expr x15)) 0)) (ia_slE R_E_api_Expr a0.fKids .i64 t23 t49 h16 (R_un_api_Expr x15) rfl (by kernel_rfl)) (by kernel_rfl) (shd 2 [(33, .pv (encSl R_tabularyref20_Stat a1)), (32, .agg [aI ((un_api_Expr x15).fKind), aI ((un_api_Expr x15).fRel), aI ((un_api_Expr x15).fCol), aI (((un_api_Expr x15).fConst).fKind), aI (((un_api_Expr x15).fConst).fInt), aF (((un_api_Expr x15).fConst).fFloat), aS (((un_api_Expr x15).fConst).fText), .pv (encSl R_E_api_Expr ((un_api_Expr x15).fKids))])] (by kernel_rfl) ?_)
      obtain ⟨x17, h18, hm⟩ := bs hm
      refine dvd 34 (cpure (by kernel_rfl) (ih_ref31_part h18) (by kernel_rfl) (by kernel_rfl) (by kernel_rfl)) (by kernel_rfl) ?_
      obtain ⟨x19, h20, hm⟩ := bs hm
      refine dvd 35 (cpure (by kernel_rfl) (ok_ref30_Scale h20) (by kernel_rfl) (by kernel_rfl) (by kernel_rfl)) (by kernel_rfl) (shd 1 [(4, aU x19)] (by kernel_rfl) (find [(4, aU x19)] rfl (by kernel_rfl) (by kernel_rfl) (wp_ret ?_)))
      obtain rfl := Option.some.inj hm
      exact ⟨trivial, by kernel_rfl⟩
     ·
      refine c0 h10 (sq (dn [(1, .pv (encSl R_tabularyref20_Stat a1)), (2, .ptr 0 0), (8, aI a0.fKind), (36, aB (a0.fKind == 11))] ?_))
      rcases bif_some hm with ⟨h21, hm⟩ | ⟨h21, hm⟩
      ·
       refine c1 h21 (sq (rg (s1 2 [(39, .pv (encSl R_E_api_Expr a0.fKids)), (38, .ptr 0 7)] ?_)))
       obtain ⟨x22, h23, hm⟩ := bs hm
       refine dv 40 (v := .pv (.ptr (R_api_Expr (un_api_Expr x22)) 0)) (ia_slE R_E_api_Expr a0.fKids .i64 t23 t49 h23 (R_un_api_Expr x22) rfl (by kernel_rfl)) (by kernel_rfl) (s1 2 [(42, .pv (encSl R_tabularyref20_Stat a1)), (41, .agg [aI ((un_api_Expr x22).fKind), aI ((un_api_Expr x22).fRel), aI ((un_api_Expr x22).fCol), aI (((un_api_Expr x22).fConst).fKind), aI (((un_api_Expr x22).fConst).fInt), aF (((un_api_Expr x22).fConst).fFloat), aS (((un_api_Expr x22).fConst).fText), .pv (encSl R_E_api_Expr ((un_api_Expr x22).fKids))])] ?_)
       obtain ⟨x24, h25, hm⟩ := bs hm
       refine dv 43 (cpure (by kernel_rfl) (ih_ref31_part h25) (by kernel_rfl) (by kernel_rfl) (by kernel_rfl)) (by kernel_rfl) (f1 1 [(1, .pv (encSl R_tabularyref20_Stat a1)), (2, .ptr 0 0), (5, aU x24)] (sq (rg (s1 2 [(45, .pv (encSl R_E_api_Expr a0.fKids)), (44, .ptr 0 7)] ?_))))
       obtain ⟨x26, h27, hm⟩ := bs hm
       refine dv 46 (v := .pv (.ptr (R_api_Expr (un_api_Expr x26)) 0)) (ia_slE R_E_api_Expr a0.fKids .i64 t23 t49 h27 (R_un_api_Expr x26) rfl (by kernel_rfl)) (by kernel_rfl) (s1 2 [(48, .pv (encSl R_tabularyref20_Stat a1)), (47, .agg [aI ((un_api_Expr x26).fKind), aI ((un_api_Expr x26).fRel), aI ((un_api_Expr x26).fCol), aI (((un_api_Expr x26).fConst).fKind), aI (((un_api_Expr x26).fConst).fInt), aF (((un_api_Expr x26).fConst).fFloat), aS (((un_api_Expr x26).fConst).fText), .pv (encSl R_E_api_Expr ((un_api_Expr x26).fKids))])] ?_)
       obtain ⟨x28, h29, hm⟩ := bs hm
       refine dv 49 (cpure (by kernel_rfl) (ih_ref31_part h29) (by kernel_rfl) (by kernel_rfl) (by kernel_rfl)) (by kernel_rfl) (f1 1 [(5, aU x24), (6, aU x28)] (sq (rg (s1 5 [(54, aU x28), (53, aU x24), (52, aU (IntKind.wrap .u64 (x24 + x28))), (51, aU x28), (50, aU x24)] ?_))))
       obtain ⟨x30, h31, hm⟩ := bs hm
       refine dv 55 (cpure (by kernel_rfl) (ok_ref30_Scale h31) (by kernel_rfl) (by kernel_rfl) (by kernel_rfl)) (by kernel_rfl) (f1 2 [(4, aU (IntKind.wrap .u64 ((IntKind.wrap .u64 (x24 + x28)) - x30)))] (wp_ret ?_))
       obtain rfl := Option.some.inj hm
       exact ⟨trivial, by kernel_rfl⟩
      ·
       refine c0 h21 (sq (dn [(1, .pv (encSl R_tabularyref20_Stat a1)), (2, .ptr 0 0), (8, aI a0.fKind), (57, aB (a0.fKind == 12))] ?_))
       rcases bif_some hm with ⟨h32, hm⟩ | ⟨h32, hm⟩
       ·
        refine c1 h32 (sq (rg (s1 2 [(60, .pv (encSl R_E_api_Expr a0.fKids)), (59, .ptr 0 7)] ?_)))
        obtain ⟨x33, h34, hm⟩ := bs hm
        refine dv 61 (v := .pv (.ptr (R_api_Expr (un_api_Expr x33)) 0)) (ia_slE R_E_api_Expr a0.fKids .i64 t23 t49 h34 (R_un_api_Expr x33) rfl (by kernel_rfl)) (by kernel_rfl) (s1 2 [(63, .pv (encSl R_tabularyref20_Stat a1)), (62, .agg [aI ((un_api_Expr x33).fKind), aI ((un_api_Expr x33).fRel), aI ((un_api_Expr x33).fCol), aI (((un_api_Expr x33).fConst).fKind), aI (((un_api_Expr x33).fConst).fInt), aF (((un_api_Expr x33).fConst).fFloat), aS (((un_api_Expr x33).fConst).fText), .pv (encSl R_E_api_Expr ((un_api_Expr x33).fKids))])] ?_)
        obtain ⟨x35, h36, hm⟩ := bs hm
        refine dv 64 (cpure (by kernel_rfl) (ih_ref31_part h36) (by kernel_rfl) (by kernel_rfl) (by kernel_rfl)) (by kernel_rfl) ?_
        obtain ⟨x37, h38, hm⟩ := bs hm
        refine dv 65 (cpure (by kernel_rfl) (ok_ref30_Inverse h38) (by kernel_rfl) (by kernel_rfl) (by kernel_rfl)) (by kernel_rfl) (f1 1 [(4, aU x37)] (wp_ret ?_))
        obtain rfl := Option.some.inj hm
        exact ⟨trivial, by kernel_rfl⟩
       ·
        refine c0 h32 (sq (dn [(1, .pv (encSl R_tabularyref20_Stat a1)), (2, .ptr 0 0), (66, aB (a0.fKind == 13))] ?_))
        rcases bif_some hm with ⟨h39, hm⟩ | ⟨h39, hm⟩
        ·
         refine c1 h39 (sq (sq (rg (s1 2 [(69, .pv (encSl R_E_api_Expr a0.fKids)), (68, .ptr 0 7)] ?_))))
         obtain ⟨x40, h41, hm⟩ := bs hm
         refine dv 70 (v := .pv (.ptr (R_api_Expr (un_api_Expr x40)) 0)) (ia_slE R_E_api_Expr a0.fKids .i64 t23 t49 h41 (R_un_api_Expr x40) rfl (by kernel_rfl)) (by kernel_rfl) (s1 2 [(72, .pv (encSl R_tabularyref20_Stat a1)), (71, .agg [aI ((un_api_Expr x40).fKind), aI ((un_api_Expr x40).fRel), aI ((un_api_Expr x40).fCol), aI (((un_api_Expr x40).fConst).fKind), aI (((un_api_Expr x40).fConst).fInt), aF (((un_api_Expr x40).fConst).fFloat), aS (((un_api_Expr x40).fConst).fText), .pv (encSl R_E_api_Expr ((un_api_Expr x40).fKids))])] ?_)
         obtain ⟨x42, h43, hm⟩ := bs hm
         refine dv 73 (cpure (by kernel_rfl) (ok_ref31_known h43) (by kernel_rfl) (by kernel_rfl) (by kernel_rfl)) (by kernel_rfl) (fin [(1, .pv (encSl R_tabularyref20_Stat a1)), (2, .ptr 0 0), (73, aB x42)] rfl (by kernel_rfl) ?_)
         rcases bif_some hm with ⟨h44, hm⟩ | ⟨h44, hm⟩
         ·
          refine c1 h44 (sq (rg (s1 2 [(75, .pv (encSl R_E_api_Expr a0.fKids)), (74, .ptr 0 7)] (dv 76 (v := .pv (.ptr (R_api_Expr (un_api_Expr x40)) 0)) (ia_slE R_E_api_Expr a0.fKids .i64 t23 t49 h41 (R_un_api_Expr x40) rfl (by kernel_rfl)) (by kernel_rfl) (s1 2 [(78, .pv (encSl R_tabularyref20_Stat a1)), (77, .agg [aI ((un_api_Expr x40).fKind), aI ((un_api_Expr x40).fRel), aI ((un_api_Expr x40).fCol), aI (((un_api_Expr x40).fConst).fKind), aI (((un_api_Expr x40).fConst).fInt), aF (((un_api_Expr x40).fConst).fFloat), aS (((un_api_Expr x40).fConst).fText), .pv (encSl R_E_api_Expr ((un_api_Expr x40).fKids))])] ?_)))))
          obtain ⟨x45, h46, hm⟩ := bs hm
          refine dv 79 (cpure (by kernel_rfl) (ok_ref31_nulls h46) (by kernel_rfl) (by kernel_rfl) (by kernel_rfl)) (by kernel_rfl) (f1 1 [(4, aU x45)] (wp_ret ?_))
          obtain rfl := Option.some.inj hm
          exact ⟨trivial, by kernel_rfl⟩
         ·
          refine c0 h44 (wp_skip (sq (dn [(4, aU 104857)] (wp_ret ?_))))
          obtain rfl := Option.some.inj hm
          exact ⟨trivial, by kernel_rfl⟩
        ·
         refine c0 h39 (wp_skip (sq (dn [(4, aU 524288)] (wp_ret ?_))))
         obtain rfl := Option.some.inj hm
         exact ⟨trivial, by kernel_rfl⟩
   refine sq (dn [(1, .pv (encSl R_tabularyref20_Stat a1)), (2, .ptr 0 0), (8, aI a0.fKind), (14, aB (a0.fKind == 7))] ?_)
   rcases bif_some hm with ⟨h47, hm⟩ | ⟨h47, hm⟩
   ·
    refine c1 h47 (wp_skip ?_)
    exact ⟨(a0.fKind == 7), hm, rfl, rfl⟩
   ·
    refine c0 h47 (sq (dn [(1, .pv (encSl R_tabularyref20_Stat a1)), (2, .ptr 0 0), (8, aI a0.fKind), (14, aB (a0.fKind == 8))] ?_))
    rcases bif_some hm with ⟨h48, hm⟩ | ⟨h48, hm⟩
    ·
     refine c1 h48 (wp_skip ?_)
     exact ⟨(a0.fKind == 8), hm, rfl, rfl⟩
    ·
     refine c0 h48 (dn [(1, .pv (encSl R_tabularyref20_Stat a1)), (2, .ptr 0 0), (8, aI a0.fKind), (14, aB (a0.fKind == 9))] ?_)
     exact ⟨(a0.fKind == 9), hm, rfl, rfl⟩
theorem okt_ref31_part : ∀ (m : Nat), ∀ {n : Nat} {a0 : api_Expr} {a1 : (Option (List tabularyref20_Stat))} {r : Int} (hm : ref31_part_t m n a0 a1 = some r), call G n 165 [.agg [aI a0.fKind, aI a0.fRel, aI a0.fCol, aI a0.fConst.fKind, aI a0.fConst.fInt, aF a0.fConst.fFloat, aS a0.fConst.fText, .pv (encSl R_E_api_Expr a0.fKids)], .pv (encSl R_tabularyref20_Stat a1)] [] = some (.ret (aU r), [])
  | 0 => by intros; rename_i hm; exact nomatch hm
  | m + 1 => fun hm =>
    okf_ref31_part (okt_ref31_part m) hm
theorem ok_ref31_part {n : Nat} {a0 : api_Expr} {a1 : (Option (List tabularyref20_Stat))} {r : Int} (hm : ref31_part n a0 a1 = some r) :
    call G n 165 [.agg [aI a0.fKind, aI a0.fRel, aI a0.fCol, aI a0.fConst.fKind, aI a0.fConst.fInt, aF a0.fConst.fFloat, aS a0.fConst.fText, .pv (encSl R_E_api_Expr a0.fKids)], .pv (encSl R_tabularyref20_Stat a1)] [] = some (.ret (aU r), []) := okt_ref31_part n hm
end Go.Ab.S1
