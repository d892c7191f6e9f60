import Derived.Test.YtejbcaheoloahaaWB1
namespace Go.Ab.S1
open Go Go.Ab Go.Pl
open Go.Proofs.Try
set_option maxRecDepth 100000
theorem ok_hist_Equal {n : Nat} {a0 : (Option (List hist_Bucket))} {a1 : api_Value} {r : Int} (hm : hist_Equal n a0 a1 = some r) :
    call G n 115 [.pv (encSl R_hist_Bucket a0), .agg [aI a1.fKind, aI a1.fInt, aF a1.fFloat, aS a1.fText]] [] = some (.ret (aI r), []) := by
  unfold hist_Equal at hm
  obtain ⟨n, rfl, h0⟩ := at1_some hm
  replace hm := h0; clear h0
  refine callL 22 [(0, .pv (encSl R_hist_Bucket a0)), (1, .agg [aI a1.fKind, aI a1.fInt, aF a1.fFloat, aS a1.fText])] func115 rfl (by kernel_rfl) (sq (det [(0, .pv (encSl R_hist_Bucket a0)), (3, .ptr 0 0)] [.box [aI a1.fKind, aI a1.fInt, aF a1.fFloat, aS a1.fText] false] (by kernel_rfl) (sq (rg (sh 2 [(10, .agg [aI a1.fKind, aI a1.fInt, aF a1.fFloat, aS a1.fText]), (9, .pv (encSl R_hist_Bucket a0))] (by kernel_rfl) ?_)))))
  obtain ⟨x1, h2, hm⟩ := bs hm
  refine dv 11 (cpure (by kernel_rfl) (ok_hist_find h2) (by kernel_rfl) (by kernel_rfl) (by kernel_rfl)) (by kernel_rfl) (sh 7 [(7, aB x1.2.2), (6, aI x1.2.1), (5, aI x1.1), (14, aB x1.2.2), (13, aI x1.2.1), (12, aI x1.1), (8, .tup [aI x1.1, aI x1.2.1, aB x1.2.2])] (by kernel_rfl) (fin [(0, .pv (encSl R_hist_Bucket a0)), (5, aI x1.1), (7, aB x1.2.2)] rfl (by kernel_rfl) (sq (sq (detn [(0, .pv (encSl R_hist_Bucket a0)), (5, aI x1.1), (16, aB (!x1.2.2))] (by kernel_rfl) ?_)))))
  rcases bif_some hm with ⟨h3, hm⟩ | ⟨h3, hm⟩
  ·
   refine ct h3 (by kernel_rfl) (sq (detn [(4, aI 0)] (by kernel_rfl) (wp_ret ?_)))
   obtain rfl := Option.some.inj hm
   exact ⟨trivial, by kernel_rfl⟩
  ·
   refine cf h3 (by kernel_rfl) (wp_skip (sq (rg (sh 2 [(18, aI x1.1), (17, .pv (encSl R_hist_Bucket a0))] (by kernel_rfl) ?_))))
   obtain ⟨x4, h5, hm⟩ := bs hm
   refine dv 19 (v := .pv (.ptr (R_hist_Bucket x4) 0)) (ia_slO R_hist_Bucket a0 .i64 t84 t147 h5 rfl (by kernel_rfl)) (by kernel_rfl) (sh 1 [(20, .agg [aI x4.fLow.fKind, aI x4.fLow.fInt, aF x4.fLow.fFloat, aS x4.fLow.fText, aI x4.fHigh.fKind, aI x4.fHigh.fInt, aF x4.fHigh.fFloat, aS x4.fHigh.fText, aI x4.fCount, aI x4.fDistinct])] (by kernel_rfl) ?_)
   obtain ⟨x6, h7, hm⟩ := bs hm
   refine dv 21 (cpure (by kernel_rfl) (ok_hist_each h7) (by kernel_rfl) (by kernel_rfl) (by kernel_rfl)) (by kernel_rfl) (sh 1 [(4, aI x6)] (by kernel_rfl) (fin [(4, aI x6)] rfl (by kernel_rfl) (wp_ret ?_)))
   obtain rfl := Option.some.inj hm
   exact ⟨trivial, by kernel_rfl⟩
theorem ok_value_Same {n : Nat} {a0 : api_Value} {a1 : api_Value} {r : Bool} (hm : value_Same n a0 a1 = some r) :
    call G n 126 [.agg [aI a0.fKind, aI a0.fInt, aF a0.fFloat, aS a0.fText], .agg [aI a1.fKind, aI a1.fInt, aF a1.fFloat, aS a1.fText]] [] = some (.ret (aB r), []) := by
  unfold value_Same at hm
  obtain ⟨n, rfl, h0⟩ := at1_some hm
  replace hm := h0; clear h0
  refine callL 9 [(0, .agg [aI a0.fKind, aI a0.fInt, aF a0.fFloat, aS a0.fText]), (1, .agg [aI a1.fKind, aI a1.fInt, aF a1.fFloat, aS a1.fText])] func126 rfl (by kernel_rfl) (sq (det [(2, .ptr 0 0), (3, .ptr 1 0)] [.box [aI a0.fKind, aI a0.fInt, aF a0.fFloat, aS a0.fText] false, .box [aI a1.fKind, aI a1.fInt, aF a1.fFloat, aS a1.fText] false] (by kernel_rfl) (sq (rg (sh 2 [(6, .agg [aI a1.fKind, aI a1.fInt, aF a1.fFloat, aS a1.fText]), (5, .agg [aI a0.fKind, aI a0.fInt, aF a0.fFloat, aS a0.fText])] (by kernel_rfl) ?_)))))
  obtain ⟨x1, h2, hm⟩ := bs hm
  refine dv 7 (cpure (by kernel_rfl) (ok_value_Cmp h2) (by kernel_rfl) (by kernel_rfl) (by kernel_rfl)) (by kernel_rfl) (sh 2 [(4, aB (x1 == 0)), (8, aB (x1 == 0))] (by kernel_rfl) (fin [(4, aB (x1 == 0))] rfl (by kernel_rfl) (wp_ret ?_)))
  obtain rfl := Option.some.inj hm
  exact ⟨trivial, by kernel_rfl⟩
theorem ok_hist_share {n : Nat} {a0 : hist_Bucket} {a1 : api_Value} {r : Int} (hm : hist_share n a0 a1 = some r) :
    call G n 135 [.agg [aI a0.fLow.fKind, aI a0.fLow.fInt, aF a0.fLow.fFloat, aS a0.fLow.fText, aI a0.fHigh.fKind, aI a0.fHigh.fInt, aF a0.fHigh.fFloat, aS a0.fHigh.fText, aI a0.fCount, aI a0.fDistinct], .agg [aI a1.fKind, aI a1.fInt, aF a1.fFloat, aS a1.fText]] [] = some (.ret (aI r), []) := by
  unfold hist_share at hm
  obtain ⟨n, rfl, h0⟩ := at1_some hm
  replace hm := h0; clear h0
  refine callL 47 [(0, .agg [aI a0.fLow.fKind, aI a0.fLow.fInt, aF a0.fLow.fFloat, aS a0.fLow.fText, aI a0.fHigh.fKind, aI a0.fHigh.fInt, aF a0.fHigh.fFloat, aS a0.fHigh.fText, aI a0.fCount, aI a0.fDistinct]), (1, .agg [aI a1.fKind, aI a1.fInt, aF a1.fFloat, aS a1.fText])] func135 rfl (by kernel_rfl) (sq (det [(2, .ptr 0 0), (3, .ptr 1 0)] [.box [aI a0.fLow.fKind, aI a0.fLow.fInt, aF a0.fLow.fFloat, aS a0.fLow.fText, aI a0.fHigh.fKind, aI a0.fHigh.fInt, aF a0.fHigh.fFloat, aS a0.fHigh.fText, aI a0.fCount, aI a0.fDistinct] false, .box [aI a1.fKind, aI a1.fInt, aF a1.fFloat, aS a1.fText] false] (by kernel_rfl) ?_))
  refine sq (sq (detn [(2, .ptr 0 0), (3, .ptr 1 0), (11, aB (a1.fKind != 2))] (by kernel_rfl) ?_))
  rcases bif_some hm with ⟨h1, hm⟩ | ⟨h1, hm⟩
  ·
   refine ct h1 (by kernel_rfl) (sq (detn [(4, aI (IntKind.wrap .i64 (Int.tdiv a0.fCount 2)))] (by kernel_rfl) (wp_ret ?_)))
   obtain rfl := Option.some.inj hm
   exact ⟨trivial, by kernel_rfl⟩
  ·
   refine cf h1 (by kernel_rfl) (wp_skip (sq (rg (sh 11 [(26, aU (IntKind.wrap .u64 ((IntKind.wrap .u64 a1.fInt) - (IntKind.wrap .u64 a0.fLow.fInt)))), (25, aU (IntKind.wrap .u64 a0.fLow.fInt)), (24, aI a0.fLow.fInt), (23, .ptr 0 1), (22, .ptr 0 0), (21, aU (IntKind.wrap .u64 a1.fInt)), (20, aI a1.fInt), (19, .ptr 1 1), (18, aU (IntKind.wrap .u64 a0.fCount)), (17, aI a0.fCount), (16, .ptr 0 8)] (by kernel_rfl) ?_))))
   obtain ⟨x2, h3, hm⟩ := bs hm
   refine dv 27 (cpure (by kernel_rfl) (ok_math_bits_Mul64 h3) (by kernel_rfl) (by kernel_rfl) (by kernel_rfl)) (by kernel_rfl) (sh 5 [(6, aU x2.2), (5, aU x2.1), (29, aU x2.2), (28, aU x2.1), (15, .tup [aU x2.1, aU x2.2])] (by kernel_rfl) (fin [(2, .ptr 0 0), (5, aU x2.1), (6, aU x2.2)] rfl (by kernel_rfl) (sq (rg (sh 11 [(41, aU (IntKind.wrap .u64 ((IntKind.wrap .u64 a0.fHigh.fInt) - (IntKind.wrap .u64 a0.fLow.fInt)))), (40, aU (IntKind.wrap .u64 a0.fLow.fInt)), (39, aI a0.fLow.fInt), (38, .ptr 0 1), (37, .ptr 0 0), (36, aU (IntKind.wrap .u64 a0.fHigh.fInt)), (35, aI a0.fHigh.fInt), (34, .ptr 0 5), (33, .ptr 0 4), (32, aU x2.2), (31, aU x2.1)] (by kernel_rfl) ?_)))))
   obtain ⟨x4, h5, hm⟩ := bs hm
   refine dv 42 (cpure (by kernel_rfl) (ok_math_bits_Div64 h5) (by kernel_rfl) (by kernel_rfl) (by kernel_rfl)) (by kernel_rfl) (sh 5 [(8, aU x4.2), (7, aU x4.1), (44, aU x4.2), (43, aU x4.1), (30, .tup [aU x4.1, aU x4.2])] (by kernel_rfl) (fin [(7, aU x4.1)] rfl (by kernel_rfl) (sq (detn [(4, aI (IntKind.wrap .i64 x4.1))] (by kernel_rfl) (wp_ret ?_)))))
   obtain rfl := Option.some.inj hm
   exact ⟨trivial, by kernel_rfl⟩
theorem ok_hist_within {n : Nat} {a0 : hist_Bucket} {a1 : api_Value} {r : Int} (hm : hist_within n a0 a1 = some r) :
    call G n 127 [.agg [aI a0.fLow.fKind, aI a0.fLow.fInt, aF a0.fLow.fFloat, aS a0.fLow.fText, aI a0.fHigh.fKind, aI a0.fHigh.fInt, aF a0.fHigh.fFloat, aS a0.fHigh.fText, aI a0.fCount, aI a0.fDistinct], .agg [aI a1.fKind, aI a1.fInt, aF a1.fFloat, aS a1.fText]] [] = some (.ret (aI r), []) := by
  unfold hist_within at hm
  obtain ⟨n, rfl, h0⟩ := at1_some hm
  replace hm := h0; clear h0
  refine callL 17 [(0, .agg [aI a0.fLow.fKind, aI a0.fLow.fInt, aF a0.fLow.fFloat, aS a0.fLow.fText, aI a0.fHigh.fKind, aI a0.fHigh.fInt, aF a0.fHigh.fFloat, aS a0.fHigh.fText, aI a0.fCount, aI a0.fDistinct]), (1, .agg [aI a1.fKind, aI a1.fInt, aF a1.fFloat, aS a1.fText])] func127 rfl (by kernel_rfl) (sq (det [(2, .ptr 0 0), (3, .ptr 1 0)] [.box [aI a0.fLow.fKind, aI a0.fLow.fInt, aF a0.fLow.fFloat, aS a0.fLow.fText, aI a0.fHigh.fKind, aI a0.fHigh.fInt, aF a0.fHigh.fFloat, aS a0.fHigh.fText, aI a0.fCount, aI a0.fDistinct] false, .box [aI a1.fKind, aI a1.fInt, aF a1.fFloat, aS a1.fText] false] (by kernel_rfl) (sq (rgd (shd 2 [(6, .agg [aI a1.fKind, aI a1.fInt, aF a1.fFloat, aS a1.fText]), (5, .agg [aI a0.fLow.fKind, aI a0.fLow.fInt, aF a0.fLow.fFloat, aS a0.fLow.fText, aI a0.fHigh.fKind, aI a0.fHigh.fInt, aF a0.fHigh.fFloat, aS a0.fHigh.fText, aI a0.fCount, aI a0.fDistinct])] (by kernel_rfl) ?_)))))
  obtain ⟨x1, h2, hm⟩ := bs hm
  refine dvd 7 (cpure (by kernel_rfl) (ok_hist_share h2) (by kernel_rfl) (by kernel_rfl) (by kernel_rfl)) (by kernel_rfl) (shd 1 [(8, .agg [aI a0.fLow.fKind, aI a0.fLow.fInt, aF a0.fLow.fFloat, aS a0.fLow.fText, aI a0.fHigh.fKind, aI a0.fHigh.fInt, aF a0.fHigh.fFloat, aS a0.fHigh.fText, aI a0.fCount, aI a0.fDistinct])] (by kernel_rfl) ?_)
  obtain ⟨x3, h4, hm⟩ := bs hm
  refine dvd 9 (cpure (by kernel_rfl) (ok_hist_each h4) (by kernel_rfl) (by kernel_rfl) (by kernel_rfl)) (by kernel_rfl) (shd 4 [(13, .agg [aI a0.fLow.fKind, aI a0.fLow.fInt, aF a0.fLow.fFloat, aS a0.fLow.fText, aI a0.fHigh.fKind, aI a0.fHigh.fInt, aF a0.fHigh.fFloat, aS a0.fHigh.fText, aI a0.fCount, aI a0.fDistinct]), (12, aI a0.fCount), (11, .ptr 0 8), (10, aI (if x3 > x1 then x3 else x1))] (by kernel_rfl) ?_)
  obtain ⟨x5, h6, hm⟩ := bs hm
  refine dvd 14 (cpure (by kernel_rfl) (ok_hist_each h6) (by kernel_rfl) (by kernel_rfl) (by kernel_rfl)) (by kernel_rfl) (shd 3 [(4, aI (if (IntKind.wrap .i64 (a0.fCount - x5)) < (if x3 > x1 then x3 else x1) then (IntKind.wrap .i64 (a0.fCount - x5)) else (if x3 > x1 then x3 else x1))), (16, aI (if (IntKind.wrap .i64 (a0.fCount - x5)) < (if x3 > x1 then x3 else x1) then (IntKind.wrap .i64 (a0.fCount - x5)) else (if x3 > x1 then x3 else x1))), (15, aI (IntKind.wrap .i64 (a0.fCount - x5)))] (by kernel_rfl) (find [(4, aI (if (IntKind.wrap .i64 (a0.fCount - x5)) < (if x3 > x1 then x3 else x1) then (IntKind.wrap .i64 (a0.fCount - x5)) else (if x3 > x1 then x3 else x1)))] rfl (by kernel_rfl) (by kernel_rfl) (wp_ret ?_)))
  obtain rfl := Option.some.inj hm
  exact ⟨trivial, by kernel_rfl⟩
theorem ok_hist_Below {n : Nat} {a0 : (Option (List hist_Bucket))} {a1 : api_Value} {a2 : Bool} {r : Int} (hm : hist_Below n a0 a1 a2 = some r) :
    call G n 116 [.pv (encSl R_hist_Bucket a0), .agg [aI a1.fKind, aI a1.fInt, aF a1.fFloat, aS a1.fText], aB a2] [] = some (.ret (aI r), []) := by
  unfold hist_Below at hm
  obtain ⟨n, rfl, h0⟩ := at1_some hm
  replace hm := h0; clear h0
  refine callL 72 [(0, .pv (encSl R_hist_Bucket a0)), (1, .agg [aI a1.fKind, aI a1.fInt, aF a1.fFloat, aS a1.fText]), (2, aB a2)] func116 rfl (by kernel_rfl) (sq (det [(0, .pv (encSl R_hist_Bucket a0)), (2, aB a2), (4, .ptr 0 0)] [.box [aI a1.fKind, aI a1.fInt, aF a1.fFloat, aS a1.fText] false] (by kernel_rfl) (sq (rg (sh 2 [(13, .agg [aI a1.fKind, aI a1.fInt, aF a1.fFloat, aS a1.fText]), (12, .pv (encSl R_hist_Bucket a0))] (by kernel_rfl) ?_)))))
  obtain ⟨x1, h2, hm⟩ := bs hm
  refine dv 14 (cpure (by kernel_rfl) (ok_hist_find h2) (by kernel_rfl) (by kernel_rfl) (by kernel_rfl)) (by kernel_rfl) (sh 7 [(9, aB x1.2.2), (8, aI x1.2.1), (7, aI x1.1), (17, aB x1.2.2), (16, aI x1.2.1), (15, aI x1.1), (11, .tup [aI x1.1, aI x1.2.1, aB x1.2.2])] (by kernel_rfl) (fin [(0, .pv (encSl R_hist_Bucket a0)), (2, aB a2), (4, .ptr 0 0), (7, aI x1.1), (8, aI x1.2.1), (9, aB x1.2.2)] rfl (by kernel_rfl) ?_))
  refine sq (sq (detn [(0, .pv (encSl R_hist_Bucket a0)), (2, aB a2), (4, .ptr 0 0), (7, aI x1.1), (8, aI x1.2.1), (19, aB (!x1.2.2))] (by kernel_rfl) ?_))
  rcases bif_some hm with ⟨h3, hm⟩ | ⟨h3, hm⟩
  ·
   refine ct h3 (by kernel_rfl) (sq (detn [(6, aI x1.2.1)] (by kernel_rfl) (wp_ret ?_)))
   obtain rfl := Option.some.inj hm
   exact ⟨trivial, by kernel_rfl⟩
  ·
   refine cf h3 (by kernel_rfl) (wp_skip (sq (rg (sh 2 [(22, aI x1.1), (21, .pv (encSl R_hist_Bucket a0))] (by kernel_rfl) ?_))))
   obtain ⟨x4, h5, hm⟩ := bs hm
   refine dv 23 (v := .pv (.ptr (R_hist_Bucket x4) 0)) (ia_slO R_hist_Bucket a0 .i64 t84 t147 h5 rfl (by kernel_rfl)) (by kernel_rfl) (st 3 [(10, .ptr 1 0), (24, .agg [aI x4.fLow.fKind, aI x4.fLow.fInt, aF x4.fLow.fFloat, aS x4.fLow.fText, aI x4.fHigh.fKind, aI x4.fHigh.fInt, aF x4.fHigh.fFloat, aS x4.fHigh.fText, aI x4.fCount, aI x4.fDistinct])] [.box [aI a1.fKind, aI a1.fInt, aF a1.fFloat, aS a1.fText] false, .box [aI x4.fLow.fKind, aI x4.fLow.fInt, aF x4.fLow.fFloat, aS x4.fLow.fText, aI x4.fHigh.fKind, aI x4.fHigh.fInt, aF x4.fHigh.fFloat, aS x4.fHigh.fText, aI x4.fCount, aI x4.fDistinct] false] (by kernel_rfl) (fin [(2, aB a2), (4, .ptr 0 0), (8, aI x1.2.1), (10, .ptr 1 0)] rfl (by kernel_rfl) (sq (bq ?_))))
   refine sq (rg (sh 3 [(28, .agg [aI x4.fHigh.fKind, aI x4.fHigh.fInt, aF x4.fHigh.fFloat, aS x4.fHigh.fText]), (27, .ptr 1 4), (26, .agg [aI a1.fKind, aI a1.fInt, aF a1.fFloat, aS a1.fText])] (by kernel_rfl) ?_))
   obtain ⟨x6, h7, hm⟩ := bs hm
   refine dv 29 (cpure (by kernel_rfl) (ok_value_Same h7) (by kernel_rfl) (by kernel_rfl) (by kernel_rfl)) (by kernel_rfl) (sh 1 [(30, aB x6)] (by kernel_rfl) ?_)
   refine seg x6 [30, 29] (fun b => [(32, aB (b && a2)), (31, ifA b (aB a2) (.undef))]) 7 (by kernel_rfl) ?_ ?_ ?_
   ·
    intro Q h
    refine sh 2 [(32, aB a2), (31, aB a2)] (by kernel_rfl) ?_
    exact sameN (by kernel_rfl) (by kernel_rfl) h
   ·
    intro Q h
    refine sh 2 [(32, aB false), (31, .undef)] (by kernel_rfl) ?_
    exact sameN (by kernel_rfl) (by kernel_rfl) h
   refine sh 1 [(25, aB (x6 && a2))] (by kernel_rfl) (fin [(2, aB a2), (4, .ptr 0 0), (8, aI x1.2.1), (10, .ptr 1 0), (25, aB (x6 && a2))] rfl (by kernel_rfl) ?_)
   rcases bif_some hm with ⟨h8, hm⟩ | ⟨h8, hm⟩
   ·
    refine ct h8 (by kernel_rfl) (sq (detn [(6, aI (IntKind.wrap .i64 (x1.2.1 + x4.fCount)))] (by kernel_rfl) (wp_ret ?_)))
    obtain rfl := Option.some.inj hm
    exact ⟨trivial, by kernel_rfl⟩
   ·
    refine cf h8 (by kernel_rfl) (sq (rg (sh 3 [(40, .agg [aI x4.fHigh.fKind, aI x4.fHigh.fInt, aF x4.fHigh.fFloat, aS x4.fHigh.fText]), (39, .ptr 1 4), (38, .agg [aI a1.fKind, aI a1.fInt, aF a1.fFloat, aS a1.fText])] (by kernel_rfl) ?_)))
    obtain ⟨x9, h10, hm⟩ := bs hm
    refine dv 41 (cpure (by kernel_rfl) (ok_value_Same h10) (by kernel_rfl) (by kernel_rfl) (by kernel_rfl)) (by kernel_rfl) (sh 1 [(37, aB x9)] (by kernel_rfl) (fin [(2, aB a2), (4, .ptr 0 0), (8, aI x1.2.1), (10, .ptr 1 0), (37, aB x9)] rfl (by kernel_rfl) ?_))
    rcases bif_some hm with ⟨h11, hm⟩ | ⟨h11, hm⟩
    ·
     refine ct h11 (by kernel_rfl) (sq (rgd (shd 5 [(46, .agg [aI x4.fLow.fKind, aI x4.fLow.fInt, aF x4.fLow.fFloat, aS x4.fLow.fText, aI x4.fHigh.fKind, aI x4.fHigh.fInt, aF x4.fHigh.fFloat, aS x4.fHigh.fText, aI x4.fCount, aI x4.fDistinct]), (45, aI (IntKind.wrap .i64 (x1.2.1 + x4.fCount))), (44, aI x4.fCount), (43, .ptr 1 8), (42, aI x1.2.1)] (by kernel_rfl) ?_)))
     obtain ⟨x12, h13, hm⟩ := bs hm
     refine dvd 47 (cpure (by kernel_rfl) (ok_hist_each h13) (by kernel_rfl) (by kernel_rfl) (by kernel_rfl)) (by kernel_rfl) (shd 2 [(6, aI (IntKind.wrap .i64 ((IntKind.wrap .i64 (x1.2.1 + x4.fCount)) - x12))), (48, aI (IntKind.wrap .i64 ((IntKind.wrap .i64 (x1.2.1 + x4.fCount)) - x12)))] (by kernel_rfl) (find [(6, aI (IntKind.wrap .i64 ((IntKind.wrap .i64 (x1.2.1 + x4.fCount)) - x12)))] rfl (by kernel_rfl) (by kernel_rfl) (wp_ret ?_)))
     obtain rfl := Option.some.inj hm
     exact ⟨trivial, by kernel_rfl⟩
    ·
     refine cf h11 (by kernel_rfl) ?_
     refine sq (rg (sh 3 [(52, .agg [aI x4.fLow.fKind, aI x4.fLow.fInt, aF x4.fLow.fFloat, aS x4.fLow.fText]), (51, .ptr 1 0), (50, .agg [aI a1.fKind, aI a1.fInt, aF a1.fFloat, aS a1.fText])] (by kernel_rfl) ?_))
     obtain ⟨x14, h15, hm⟩ := bs hm
     refine dv 53 (cpure (by kernel_rfl) (ok_value_Same h15) (by kernel_rfl) (by kernel_rfl) (by kernel_rfl)) (by kernel_rfl) (sh 1 [(54, aB x14)] (by kernel_rfl) ?_)
     refine seg x14 [54, 53] (fun b => [(56, aB (b && a2)), (55, ifA b (aB a2) (.undef))]) 7 (by kernel_rfl) ?_ ?_ ?_
     ·
      intro Q h
      refine sh 2 [(56, aB a2), (55, aB a2)] (by kernel_rfl) ?_
      exact sameN (by kernel_rfl) (by kernel_rfl) h
     ·
      intro Q h
      refine sh 2 [(56, aB false), (55, .undef)] (by kernel_rfl) ?_
      exact sameN (by kernel_rfl) (by kernel_rfl) h
     refine sh 1 [(49, aB (x14 && a2))] (by kernel_rfl) (fin [(4, .ptr 0 0), (8, aI x1.2.1), (10, .ptr 1 0), (49, aB (x14 && a2))] rfl (by kernel_rfl) ?_)
     rcases bif_some hm with ⟨h16, hm⟩ | ⟨h16, hm⟩
     ·
      refine ct h16 (by kernel_rfl) (sq (rg (sh 2 [(58, .agg [aI x4.fLow.fKind, aI x4.fLow.fInt, aF x4.fLow.fFloat, aS x4.fLow.fText, aI x4.fHigh.fKind, aI x4.fHigh.fInt, aF x4.fHigh.fFloat, aS x4.fHigh.fText, aI x4.fCount, aI x4.fDistinct]), (57, aI x1.2.1)] (by kernel_rfl) ?_)))
      obtain ⟨x17, h18, hm⟩ := bs hm
      refine dv 59 (cpure (by kernel_rfl) (ok_hist_each h18) (by kernel_rfl) (by kernel_rfl) (by kernel_rfl)) (by kernel_rfl) (sh 2 [(6, aI (IntKind.wrap .i64 (x1.2.1 + x17))), (60, aI (IntKind.wrap .i64 (x1.2.1 + x17)))] (by kernel_rfl) (fin [(6, aI (IntKind.wrap .i64 (x1.2.1 + x17)))] rfl (by kernel_rfl) (wp_ret ?_)))
      obtain rfl := Option.some.inj hm
      exact ⟨trivial, by kernel_rfl⟩
     ·
      refine cf h16 (by kernel_rfl) (sq (rg (sh 3 [(64, .agg [aI x4.fLow.fKind, aI x4.fLow.fInt, aF x4.fLow.fFloat, aS x4.fLow.fText]), (63, .ptr 1 0), (62, .agg [aI a1.fKind, aI a1.fInt, aF a1.fFloat, aS a1.fText])] (by kernel_rfl) ?_)))
      obtain ⟨x19, h20, hm⟩ := bs hm
      refine dv 65 (cpure (by kernel_rfl) (ok_value_Same h20) (by kernel_rfl) (by kernel_rfl) (by kernel_rfl)) (by kernel_rfl) (sh 1 [(61, aB x19)] (by kernel_rfl) (fin [(4, .ptr 0 0), (8, aI x1.2.1), (10, .ptr 1 0), (61, aB x19)] rfl (by kernel_rfl) ?_))
      rcases bif_some hm with ⟨h21, hm⟩ | ⟨h21, hm⟩
      ·
       refine ct h21 (by kernel_rfl) (sq (detn [(6, aI x1.2.1)] (by kernel_rfl) (wp_ret ?_)))
       obtain rfl := Option.some.inj hm
       exact ⟨trivial, by kernel_rfl⟩
      ·
       refine cf h21 (by kernel_rfl) (wp_skip (sq (rg (sh 3 [(69, .agg [aI a1.fKind, aI a1.fInt, aF a1.fFloat, aS a1.fText]), (68, .agg [aI x4.fLow.fKind, aI x4.fLow.fInt, aF x4.fLow.fFloat, aS x4.fLow.fText, aI x4.fHigh.fKind, aI x4.fHigh.fInt, aF x4.fHigh.fFloat, aS x4.fHigh.fText, aI x4.fCount, aI x4.fDistinct]), (67, aI x1.2.1)] (by kernel_rfl) ?_))))
       obtain ⟨x22, h23, hm⟩ := bs hm
       refine dv 70 (cpure (by kernel_rfl) (ok_hist_within h23) (by kernel_rfl) (by kernel_rfl) (by kernel_rfl)) (by kernel_rfl) (sh 2 [(6, aI (IntKind.wrap .i64 (x1.2.1 + x22))), (71, aI (IntKind.wrap .i64 (x1.2.1 + x22)))] (by kernel_rfl) (fin [(6, aI (IntKind.wrap .i64 (x1.2.1 + x22)))] rfl (by kernel_rfl) (wp_ret ?_)))
       obtain rfl := Option.some.inj hm
       exact ⟨trivial, by kernel_rfl⟩
theorem ok_guess_against {n : Nat} {a0 : Int} {a1 : stat_Col} {a2 : api_Value} {a3 : Bool} {r : Int} (hm : guess_against n a0 a1 a2 a3 = some r) :
    call G n 102 [aI a0, .agg ([aI a1.fKind, aI a1.fNulls, aI a1.fDistinct, .pv (encSl R_hist_Bucket a1.fHist), .pv (encSl R_api_Value a1.fSample)] ++ (aA .u8 64 a1.fSketch.fRegs)), .agg [aI a2.fKind, aI a2.fInt, aF a2.fFloat, aS a2.fText], aB a3] [] = some (.ret (aU r), []) := by
  unfold guess_against at hm
  obtain ⟨n, rfl, h0⟩ := at1_some hm
  replace hm := h0; clear h0
  refine callL 68 [(0, aI a0), (1, .agg ([aI a1.fKind, aI a1.fNulls, aI a1.fDistinct, .pv (encSl R_hist_Bucket a1.fHist), .pv (encSl R_api_Value a1.fSample)] ++ (aA .u8 64 a1.fSketch.fRegs))), (2, .agg [aI a2.fKind, aI a2.fInt, aF a2.fFloat, aS a2.fText]), (3, aB a3)] func102 rfl (by kernel_rfl) (sq (det [(0, aI a0), (3, aB a3), (5, .ptr 0 0), (6, .ptr 1 0)] [.box ([aI a1.fKind, aI a1.fNulls, aI a1.fDistinct, .pv (encSl R_hist_Bucket a1.fHist), .pv (encSl R_api_Value a1.fSample)] ++ (aA .u8 64 a1.fSketch.fRegs)) false, .box [aI a2.fKind, aI a2.fInt, aF a2.fFloat, aS a2.fText] false] (by kernel_rfl) ?_))
  refine sq (sq (rgd (shd 2 [(12, .pv (encSl R_hist_Bucket a1.fHist)), (11, .ptr 0 3)] (by kernel_rfl) (dvd 13 (v := aI ((sll a1.fHist).length : Int)) (len_slO R_hist_Bucket a1.fHist t84 (by kernel_rfl)) (by kernel_rfl) (shd 2 [(15, aB (((sll a1.fHist).length : Int) == 0)), (14, aB (((sll a1.fHist).length : Int) == 0))] (by kernel_rfl) ?_)))))
  rcases bif_some hm with ⟨h1, hm⟩ | ⟨h1, hm⟩
  ·
   refine knownd [15, 14] h1 (by kernel_rfl) (shd 16 [(31, aB true), (30, .undef), (29, .undef), (28, .undef), (27, .undef), (26, .undef), (25, .undef), (24, .undef), (23, .undef), (22, .undef), (21, aB true), (20, aB true), (19, .undef), (18, .undef), (17, .undef), (16, .undef)] (by kernel_rfl) (find [(0, aI a0), (3, aB a3), (5, .ptr 0 0), (6, .ptr 1 0), (31, aB true)] rfl (by kernel_rfl) (by kernel_rfl) (cT (by kernel_rfl) (sq (rg (sh 3 [(34, aI a1.fDistinct), (33, .ptr 0 2), (32, aI a0)] (by kernel_rfl) ?_))))))
   obtain ⟨x2, h3, hm⟩ := bs hm
   refine dv 35 (cpure (by kernel_rfl) (ok_guess_one h3) (by kernel_rfl) (by kernel_rfl) (by kernel_rfl)) (by kernel_rfl) ?_
   obtain ⟨x4, h5, hm⟩ := bs hm
   refine dv 36 (cpure (by kernel_rfl) (ok_guess_blind h5) (by kernel_rfl) (by kernel_rfl) (by kernel_rfl)) (by kernel_rfl) (sh 1 [(8, aU x4)] (by kernel_rfl) (fin [(8, aU x4)] rfl (by kernel_rfl) (wp_ret ?_)))
   obtain rfl := Option.some.inj hm
   exact ⟨trivial, by kernel_rfl⟩
  ·
   refine knownd [15, 14] h1 (by kernel_rfl) (shd 2 [(17, .pv (encSl R_hist_Bucket a1.fHist)), (16, .ptr 0 3)] (by kernel_rfl) ?_)
   obtain ⟨x6, h7, hm⟩ := bs hm
   refine dvd 18 (cpure (by kernel_rfl) (ok_hist_Right h7) (by kernel_rfl) (by kernel_rfl) (by kernel_rfl)) (by kernel_rfl) (shd 3 [(21, aB (!x6)), (20, aB (!x6)), (19, aB (!x6))] (by kernel_rfl) ?_)
   rcases bif_some hm with ⟨h8, hm⟩ | ⟨h8, hm⟩
   ·
    refine knownd [21, 20, 19] h8 (by kernel_rfl) (shd 10 [(31, aB true), (30, .undef), (29, .undef), (28, .undef), (27, .undef), (26, .undef), (25, .undef), (24, .undef), (23, .undef), (22, .undef)] (by kernel_rfl) (find [(0, aI a0), (3, aB a3), (5, .ptr 0 0), (6, .ptr 1 0), (31, aB true)] rfl (by kernel_rfl) (by kernel_rfl) (cT (by kernel_rfl) (sq (rg (sh 3 [(34, aI a1.fDistinct), (33, .ptr 0 2), (32, aI a0)] (by kernel_rfl) ?_))))))
    obtain ⟨x9, h10, hm⟩ := bs hm
    refine dv 35 (cpure (by kernel_rfl) (ok_guess_one h10) (by kernel_rfl) (by kernel_rfl) (by kernel_rfl)) (by kernel_rfl) ?_
    obtain ⟨x11, h12, hm⟩ := bs hm
    refine dv 36 (cpure (by kernel_rfl) (ok_guess_blind h12) (by kernel_rfl) (by kernel_rfl) (by kernel_rfl)) (by kernel_rfl) (sh 1 [(8, aU x11)] (by kernel_rfl) (fin [(8, aU x11)] rfl (by kernel_rfl) (wp_ret ?_)))
    obtain rfl := Option.some.inj hm
    exact ⟨trivial, by kernel_rfl⟩
   ·
    refine knownd [21, 20, 19] h8 (by kernel_rfl) (shd 2 [(23, .pv (encSl R_hist_Bucket a1.fHist)), (22, .ptr 0 3)] (by kernel_rfl) ?_)
    obtain ⟨x13, h14, hm⟩ := bs hm
    refine dvd 24 (v := .pv (.ptr (R_hist_Bucket x13) 0)) (ia_slO R_hist_Bucket a1.fHist .i64 t84 t147 h14 rfl (by kernel_rfl)) (by kernel_rfl) (shd 7 [(31, aB (x13.fLow.fKind != a2.fKind)), (30, aB (x13.fLow.fKind != a2.fKind)), (29, aI a2.fKind), (28, .ptr 1 0), (27, aI x13.fLow.fKind), (26, .pv (.ptr (R_hist_Bucket x13) 0)), (25, .pv (.ptr (R_hist_Bucket x13) 0))] (by kernel_rfl) (find [(0, aI a0), (3, aB a3), (5, .ptr 0 0), (6, .ptr 1 0), (31, aB (x13.fLow.fKind != a2.fKind))] rfl (by kernel_rfl) (by kernel_rfl) ?_))
    rcases bif_some hm with ⟨h15, hm⟩ | ⟨h15, hm⟩
    ·
     refine ct h15 (by kernel_rfl) (sq (rg (sh 3 [(34, aI a1.fDistinct), (33, .ptr 0 2), (32, aI a0)] (by kernel_rfl) ?_)))
     obtain ⟨x16, h17, hm⟩ := bs hm
     refine dv 35 (cpure (by kernel_rfl) (ok_guess_one h17) (by kernel_rfl) (by kernel_rfl) (by kernel_rfl)) (by kernel_rfl) ?_
     obtain ⟨x18, h19, hm⟩ := bs hm
     refine dv 36 (cpure (by kernel_rfl) (ok_guess_blind h19) (by kernel_rfl) (by kernel_rfl) (by kernel_rfl)) (by kernel_rfl) (sh 1 [(8, aU x18)] (by kernel_rfl) (fin [(8, aU x18)] rfl (by kernel_rfl) (wp_ret ?_)))
     obtain rfl := Option.some.inj hm
     exact ⟨trivial, by kernel_rfl⟩
    ·
     refine cf h15 (by kernel_rfl) (wp_skip (sq (rg (sh 2 [(38, .pv (encSl R_hist_Bucket a1.fHist)), (37, .ptr 0 3)] (by kernel_rfl) ?_))))
     obtain ⟨x20, h21, hm⟩ := bs hm
     refine dv 39 (cpure (by kernel_rfl) (ok_hist_Total h21) (by kernel_rfl) (by kernel_rfl) (by kernel_rfl)) (by kernel_rfl) (sh 1 [(9, aI x20)] (by kernel_rfl) (fin [(0, aI a0), (3, aB a3), (5, .ptr 0 0), (6, .ptr 1 0), (9, aI x20)] rfl (by kernel_rfl) (sq (detn [(0, aI a0), (3, aB a3), (5, .ptr 0 0), (6, .ptr 1 0), (9, aI x20)] (by kernel_rfl) (sq (bq (sq (detn [(0, aI a0), (3, aB a3), (5, .ptr 0 0), (6, .ptr 1 0), (9, aI x20), (46, aB (a0 == 7))] (by kernel_rfl) ?_))))))))
     rcases bif_some hm with ⟨h22, hm⟩ | ⟨h22, hm⟩
     ·
      refine ct h22 (by kernel_rfl) (rg (sh 3 [(51, .agg [aI a2.fKind, aI a2.fInt, aF a2.fFloat, aS a2.fText]), (50, .pv (encSl R_hist_Bucket a1.fHist)), (49, .ptr 0 3)] (by kernel_rfl) ?_))
      obtain ⟨x23, h24, hm⟩ := bs hm
      refine dv 52 (cpure (by kernel_rfl) (ok_hist_Equal h24) (by kernel_rfl) (by kernel_rfl) (by kernel_rfl)) (by kernel_rfl) (sh 1 [(10, aI x23)] (by kernel_rfl) (fin [(9, aI x20), (10, aI x23)] rfl (by kernel_rfl) (sq (rg (sh 1 [(63, aI x23)] (by kernel_rfl) ?_)))))
      obtain ⟨x25, h26, hm⟩ := bs hm
      refine dv 64 (cpure (by kernel_rfl) (ok_guess_natural h26) (by kernel_rfl) (by kernel_rfl) (by kernel_rfl)) (by kernel_rfl) (sh 1 [(65, aI x20)] (by kernel_rfl) ?_)
      obtain ⟨x27, h28, hm⟩ := bs hm
      refine dv 66 (cpure (by kernel_rfl) (ok_guess_natural h28) (by kernel_rfl) (by kernel_rfl) (by kernel_rfl)) (by kernel_rfl) ?_
      obtain ⟨x29, h30, hm⟩ := bs hm
      refine dv 67 (cpure (by kernel_rfl) (ok_fixed_Share h30) (by kernel_rfl) (by kernel_rfl) (by kernel_rfl)) (by kernel_rfl) (sh 1 [(8, aU x29)] (by kernel_rfl) (fin [(8, aU x29)] rfl (by kernel_rfl) (wp_ret ?_)))
      obtain rfl := Option.some.inj hm
      exact ⟨trivial, by kernel_rfl⟩
     ·
      refine cf h22 (by kernel_rfl) (sq (detn [(0, aI a0), (5, .ptr 0 0), (6, .ptr 1 0), (9, aI x20), (53, aB a3)] (by kernel_rfl) ?_))
      rcases bif_some hm with ⟨h31, hm⟩ | ⟨h31, hm⟩
      ·
       refine ct h31 (by kernel_rfl) (rg (sh 6 [(60, aB (a0 == 8)), (59, aI a0), (58, .agg [aI a2.fKind, aI a2.fInt, aF a2.fFloat, aS a2.fText]), (57, .pv (encSl R_hist_Bucket a1.fHist)), (56, .ptr 0 3), (55, aI x20)] (by kernel_rfl) ?_))
       obtain ⟨x32, h33, hm⟩ := bs hm
       refine dv 61 (cpure (by kernel_rfl) (ok_hist_Below h33) (by kernel_rfl) (by kernel_rfl) (by kernel_rfl)) (by kernel_rfl) (sh 2 [(10, aI (IntKind.wrap .i64 (x20 - x32))), (62, aI (IntKind.wrap .i64 (x20 - x32)))] (by kernel_rfl) (fin [(9, aI x20), (10, aI (IntKind.wrap .i64 (x20 - x32)))] rfl (by kernel_rfl) (sq (rg (sh 1 [(63, aI (IntKind.wrap .i64 (x20 - x32)))] (by kernel_rfl) ?_)))))
       obtain ⟨x34, h35, hm⟩ := bs hm
       refine dv 64 (cpure (by kernel_rfl) (ok_guess_natural h35) (by kernel_rfl) (by kernel_rfl) (by kernel_rfl)) (by kernel_rfl) (sh 1 [(65, aI x20)] (by kernel_rfl) ?_)
       obtain ⟨x36, h37, hm⟩ := bs hm
       refine dv 66 (cpure (by kernel_rfl) (ok_guess_natural h37) (by kernel_rfl) (by kernel_rfl) (by kernel_rfl)) (by kernel_rfl) ?_
       obtain ⟨x38, h39, hm⟩ := bs hm
       refine dv 67 (cpure (by kernel_rfl) (ok_fixed_Share h39) (by kernel_rfl) (by kernel_rfl) (by kernel_rfl)) (by kernel_rfl) (sh 1 [(8, aU x38)] (by kernel_rfl) (fin [(8, aU x38)] rfl (by kernel_rfl) (wp_ret ?_)))
       obtain rfl := Option.some.inj hm
       exact ⟨trivial, by kernel_rfl⟩
      ·
       refine cf h31 (by kernel_rfl) (rg (sh 5 [(44, aB (a0 == 9)), (43, aI a0), (42, .agg [aI a2.fKind, aI a2.fInt, aF a2.fFloat, aS a2.fText]), (41, .pv (encSl R_hist_Bucket a1.fHist)), (40, .ptr 0 3)] (by kernel_rfl) ?_))
       obtain ⟨x40, h41, hm⟩ := bs hm
       refine dv 45 (cpure (by kernel_rfl) (ok_hist_Below h41) (by kernel_rfl) (by kernel_rfl) (by kernel_rfl)) (by kernel_rfl) (sh 1 [(10, aI x40)] (by kernel_rfl) (fin [(9, aI x20), (10, aI x40)] rfl (by kernel_rfl) (sq (rg (sh 1 [(63, aI x40)] (by kernel_rfl) ?_)))))
       obtain ⟨x42, h43, hm⟩ := bs hm
       refine dv 64 (cpure (by kernel_rfl) (ok_guess_natural h43) (by kernel_rfl) (by kernel_rfl) (by kernel_rfl)) (by kernel_rfl) (sh 1 [(65, aI x20)] (by kernel_rfl) ?_)
       obtain ⟨x44, h45, hm⟩ := bs hm
       refine dv 66 (cpure (by kernel_rfl) (ok_guess_natural h45) (by kernel_rfl) (by kernel_rfl) (by kernel_rfl)) (by kernel_rfl) ?_
       obtain ⟨x46, h47, hm⟩ := bs hm
       refine dv 67 (cpure (by kernel_rfl) (ok_fixed_Share h47) (by kernel_rfl) (by kernel_rfl) (by kernel_rfl)) (by kernel_rfl) (sh 1 [(8, aU x46)] (by kernel_rfl) (fin [(8, aU x46)] rfl (by kernel_rfl) (wp_ret ?_)))
       obtain rfl := Option.some.inj hm
       exact ⟨trivial, by kernel_rfl⟩
theorem ok_guess_nulls {n : Nat} {a0 : stat_Col} {a1 : Int} {r : Int} (hm : guess_nulls n a0 a1 = some r) :
    call G n 79 [.agg ([aI a0.fKind, aI a0.fNulls, aI a0.fDistinct, .pv (encSl R_hist_Bucket a0.fHist), .pv (encSl R_api_Value a0.fSample)] ++ (aA .u8 64 a0.fSketch.fRegs)), aI a1] [] = some (.ret (aU r), []) := by
  unfold guess_nulls at hm
  obtain ⟨n, rfl, h0⟩ := at1_some hm
  replace hm := h0; clear h0
  refine callL 12 [(0, .agg ([aI a0.fKind, aI a0.fNulls, aI a0.fDistinct, .pv (encSl R_hist_Bucket a0.fHist), .pv (encSl R_api_Value a0.fSample)] ++ (aA .u8 64 a0.fSketch.fRegs))), (1, aI a1)] func79 rfl (by kernel_rfl) (sq (det [(1, aI a1), (2, .ptr 0 0)] [.box ([aI a0.fKind, aI a0.fNulls, aI a0.fDistinct, .pv (encSl R_hist_Bucket a0.fHist), .pv (encSl R_api_Value a0.fSample)] ++ (aA .u8 64 a0.fSketch.fRegs)) false] (by kernel_rfl) (sq (rg (sh 2 [(6, aI a0.fNulls), (5, .ptr 0 1)] (by kernel_rfl) ?_)))))
  obtain ⟨x1, h2, hm⟩ := bs hm
  refine dv 7 (cpure (by kernel_rfl) (ok_guess_natural h2) (by kernel_rfl) (by kernel_rfl) (by kernel_rfl)) (by kernel_rfl) (sh 1 [(8, aI a1)] (by kernel_rfl) ?_)
  obtain ⟨x3, h4, hm⟩ := bs hm
  refine dv 9 (cpure (by kernel_rfl) (ok_guess_natural h4) (by kernel_rfl) (by kernel_rfl) (by kernel_rfl)) (by kernel_rfl) ?_
  obtain ⟨x5, h6, hm⟩ := bs hm
  refine dv 10 (cpure (by kernel_rfl) (ok_fixed_Share h6) (by kernel_rfl) (by kernel_rfl) (by kernel_rfl)) (by kernel_rfl) (sh 2 [(4, aU (if 1048576 < x5 then 1048576 else x5)), (11, aU (if 1048576 < x5 then 1048576 else x5))] (by kernel_rfl) (fin [(4, aU (if 1048576 < x5 then 1048576 else x5))] rfl (by kernel_rfl) (wp_ret ?_)))
  obtain rfl := Option.some.inj hm
  exact ⟨trivial, by kernel_rfl⟩
theorem ok_guess_compared {n : Nat} {a0 : api_Expr} {a1 : (Option (List stat_Stat))} {r : Int} (hm : guess_compared n a0 a1 = some r) :
    call G n 77 [.agg [aI a0.fKind, aI a0.fRel, aI a0.fCol, aI a0.fConst.fKind, aI a0.fConst.fInt, aF a0.fConst.fFloat, aS a0.fConst.fText, .pv (encSl R_E_api_Expr a0.fKids)], .pv (encSl R_stat_Stat a1)] [] = some (.ret (aU r), []) := by
  unfold guess_compared at hm
  obtain ⟨n, rfl, h0⟩ := at1_some hm
  replace hm := h0; clear h0
  refine callL 113 [(0, .agg [aI a0.fKind, aI a0.fRel, aI a0.fCol, aI a0.fConst.fKind, aI a0.fConst.fInt, aF a0.fConst.fFloat, aS a0.fConst.fText, .pv (encSl R_E_api_Expr a0.fKids)]), (1, .pv (encSl R_stat_Stat a1))] func77 rfl (by kernel_rfl) (sq (det [(1, .pv (encSl R_stat_Stat a1)), (2, .ptr 0 0)] [.box [aI a0.fKind, aI a0.fRel, aI a0.fCol, aI a0.fConst.fKind, aI a0.fConst.fInt, aF a0.fConst.fFloat, aS a0.fConst.fText, .pv (encSl R_E_api_Expr a0.fKids)] false] (by kernel_rfl) (sq (rgd (shd 2 [(14, .pv (encSl R_E_api_Expr a0.fKids)), (13, .ptr 0 7)] (by kernel_rfl) ?_)))))
  obtain ⟨x1, h2, hm⟩ := bs hm
  refine dvd 15 (v := .pv (.ptr (R_api_Expr (un_api_Expr x1)) 0)) (ia_slE R_E_api_Expr a0.fKids .i64 t23 t44 h2 (R_un_api_Expr x1) rfl (by kernel_rfl)) (by kernel_rfl) (shd 3 [(18, .pv (encSl R_E_api_Expr a0.fKids)), (17, .ptr 0 7), (16, .agg [aI ((un_api_Expr x1).fKind), aI ((un_api_Expr x1).fRel), aI ((un_api_Expr x1).fCol), aI (((un_api_Expr x1).fConst).fKind), aI (((un_api_Expr x1).fConst).fInt), aF (((un_api_Expr x1).fConst).fFloat), aS (((un_api_Expr x1).fConst).fText), .pv (encSl R_E_api_Expr ((un_api_Expr x1).fKids))])] (by kernel_rfl) ?_)
  obtain ⟨x3, h4, hm⟩ := bs hm
  refine dvd 19 (v := .pv (.ptr (R_api_Expr (un_api_Expr x3)) 0)) (ia_slE R_E_api_Expr a0.fKids .i64 t23 t44 h4 (R_un_api_Expr x3) rfl (by kernel_rfl)) (by kernel_rfl) (std 5 [(6, .ptr 2 0), (5, .ptr 1 0), (20, .agg [aI ((un_api_Expr x3).fKind), aI ((un_api_Expr x3).fRel), aI ((un_api_Expr x3).fCol), aI (((un_api_Expr x3).fConst).fKind), aI (((un_api_Expr x3).fConst).fInt), aF (((un_api_Expr x3).fConst).fFloat), aS (((un_api_Expr x3).fConst).fText), .pv (encSl R_E_api_Expr ((un_api_Expr x3).fKids))])] [.box [aI a0.fKind, aI a0.fRel, aI a0.fCol, aI a0.fConst.fKind, aI a0.fConst.fInt, aF a0.fConst.fFloat, aS a0.fConst.fText, .pv (encSl R_E_api_Expr a0.fKids)] false, .box [aI ((un_api_Expr x1).fKind), aI ((un_api_Expr x1).fRel), aI ((un_api_Expr x1).fCol), aI (((un_api_Expr x1).fConst).fKind), aI (((un_api_Expr x1).fConst).fInt), aF (((un_api_Expr x1).fConst).fFloat), aS (((un_api_Expr x1).fConst).fText), .pv (encSl R_E_api_Expr ((un_api_Expr x1).fKids))] false, .box [aI ((un_api_Expr x3).fKind), aI ((un_api_Expr x3).fRel), aI ((un_api_Expr x3).fCol), aI (((un_api_Expr x3).fConst).fKind), aI (((un_api_Expr x3).fConst).fInt), aF (((un_api_Expr x3).fConst).fFloat), aS (((un_api_Expr x3).fConst).fText), .pv (encSl R_E_api_Expr ((un_api_Expr x3).fKids))] false] (by kernel_rfl) (find [(1, .pv (encSl R_stat_Stat a1)), (2, .ptr 0 0), (5, .ptr 1 0), (6, .ptr 2 0)] rfl (by kernel_rfl) (by kernel_rfl) (sq (rg (sh 2 [(23, .pv (encSl R_stat_Stat a1)), (22, .agg [aI ((un_api_Expr x1).fKind), aI ((un_api_Expr x1).fRel), aI ((un_api_Expr x1).fCol), aI (((un_api_Expr x1).fConst).fKind), aI (((un_api_Expr x1).fConst).fInt), aF (((un_api_Expr x1).fConst).fFloat), aS (((un_api_Expr x1).fConst).fText), .pv (encSl R_E_api_Expr ((un_api_Expr x1).fKids))])] (by kernel_rfl) ?_)))))
  obtain ⟨x5, h6, hm⟩ := bs hm
  refine dv 24 (cpure (by kernel_rfl) (ok_guess_column h6) (by kernel_rfl) (by kernel_rfl) (by kernel_rfl)) (by kernel_rfl) (st 8 [(9, aB x5.2.2), (8, aI x5.2.1), (7, .ptr 3 0), (27, aB x5.2.2), (26, aI x5.2.1), (25, .agg ([aI x5.1.fKind, aI x5.1.fNulls, aI x5.1.fDistinct, .pv (encSl R_hist_Bucket x5.1.fHist), .pv (encSl R_api_Value x5.1.fSample)] ++ (aA .u8 64 x5.1.fSketch.fRegs))), (21, .tup [.agg ([aI x5.1.fKind, aI x5.1.fNulls, aI x5.1.fDistinct, .pv (encSl R_hist_Bucket x5.1.fHist), .pv (encSl R_api_Value x5.1.fSample)] ++ (aA .u8 64 x5.1.fSketch.fRegs)), aI x5.2.1, aB x5.2.2])] [.box [aI a0.fKind, aI a0.fRel, aI a0.fCol, aI a0.fConst.fKind, aI a0.fConst.fInt, aF a0.fConst.fFloat, aS a0.fConst.fText, .pv (encSl R_E_api_Expr a0.fKids)] false, .box [aI ((un_api_Expr x1).fKind), aI ((un_api_Expr x1).fRel), aI ((un_api_Expr x1).fCol), aI (((un_api_Expr x1).fConst).fKind), aI (((un_api_Expr x1).fConst).fInt), aF (((un_api_Expr x1).fConst).fFloat), aS (((un_api_Expr x1).fConst).fText), .pv (encSl R_E_api_Expr ((un_api_Expr x1).fKids))] false, .box [aI ((un_api_Expr x3).fKind), aI ((un_api_Expr x3).fRel), aI ((un_api_Expr x3).fCol), aI (((un_api_Expr x3).fConst).fKind), aI (((un_api_Expr x3).fConst).fInt), aF (((un_api_Expr x3).fConst).fFloat), aS (((un_api_Expr x3).fConst).fText), .pv (encSl R_E_api_Expr ((un_api_Expr x3).fKids))] false, .box ([aI x5.1.fKind, aI x5.1.fNulls, aI x5.1.fDistinct, .pv (encSl R_hist_Bucket x5.1.fHist), .pv (encSl R_api_Value x5.1.fSample)] ++ (aA .u8 64 x5.1.fSketch.fRegs)) false] (by kernel_rfl) (fin [(1, .pv (encSl R_stat_Stat a1)), (2, .ptr 0 0), (5, .ptr 1 0), (6, .ptr 2 0), (7, .ptr 3 0), (8, aI x5.2.1), (9, aB x5.2.2)] rfl (by kernel_rfl) (sq (rg (sh 2 [(30, .pv (encSl R_stat_Stat a1)), (29, .agg [aI ((un_api_Expr x3).fKind), aI ((un_api_Expr x3).fRel), aI ((un_api_Expr x3).fCol), aI (((un_api_Expr x3).fConst).fKind), aI (((un_api_Expr x3).fConst).fInt), aF (((un_api_Expr x3).fConst).fFloat), aS (((un_api_Expr x3).fConst).fText), .pv (encSl R_E_api_Expr ((un_api_Expr x3).fKids))])] (by kernel_rfl) ?_)))))
  obtain ⟨x7, h8, hm⟩ := bs hm
  refine dv 31 (cpure (by kernel_rfl) (ok_guess_column h8) (by kernel_rfl) (by kernel_rfl) (by kernel_rfl)) (by kernel_rfl) (st 8 [(12, aB x7.2.2), (11, aI x7.2.1), (10, .ptr 4 0), (34, aB x7.2.2), (33, aI x7.2.1), (32, .agg ([aI x7.1.fKind, aI x7.1.fNulls, aI x7.1.fDistinct, .pv (encSl R_hist_Bucket x7.1.fHist), .pv (encSl R_api_Value x7.1.fSample)] ++ (aA .u8 64 x7.1.fSketch.fRegs))), (28, .tup [.agg ([aI x7.1.fKind, aI x7.1.fNulls, aI x7.1.fDistinct, .pv (encSl R_hist_Bucket x7.1.fHist), .pv (encSl R_api_Value x7.1.fSample)] ++ (aA .u8 64 x7.1.fSketch.fRegs)), aI x7.2.1, aB x7.2.2])] [.box [aI a0.fKind, aI a0.fRel, aI a0.fCol, aI a0.fConst.fKind, aI a0.fConst.fInt, aF a0.fConst.fFloat, aS a0.fConst.fText, .pv (encSl R_E_api_Expr a0.fKids)] false, .box [aI ((un_api_Expr x1).fKind), aI ((un_api_Expr x1).fRel), aI ((un_api_Expr x1).fCol), aI (((un_api_Expr x1).fConst).fKind), aI (((un_api_Expr x1).fConst).fInt), aF (((un_api_Expr x1).fConst).fFloat), aS (((un_api_Expr x1).fConst).fText), .pv (encSl R_E_api_Expr ((un_api_Expr x1).fKids))] false, .box [aI ((un_api_Expr x3).fKind), aI ((un_api_Expr x3).fRel), aI ((un_api_Expr x3).fCol), aI (((un_api_Expr x3).fConst).fKind), aI (((un_api_Expr x3).fConst).fInt), aF (((un_api_Expr x3).fConst).fFloat), aS (((un_api_Expr x3).fConst).fText), .pv (encSl R_E_api_Expr ((un_api_Expr x3).fKids))] false, .box ([aI x5.1.fKind, aI x5.1.fNulls, aI x5.1.fDistinct, .pv (encSl R_hist_Bucket x5.1.fHist), .pv (encSl R_api_Value x5.1.fSample)] ++ (aA .u8 64 x5.1.fSketch.fRegs)) false, .box ([aI x7.1.fKind, aI x7.1.fNulls, aI x7.1.fDistinct, .pv (encSl R_hist_Bucket x7.1.fHist), .pv (encSl R_api_Value x7.1.fSample)] ++ (aA .u8 64 x7.1.fSketch.fRegs)) false] (by kernel_rfl) (fin [(2, .ptr 0 0), (5, .ptr 1 0), (6, .ptr 2 0), (7, .ptr 3 0), (8, aI x5.2.1), (9, aB x5.2.2), (10, .ptr 4 0), (11, aI x7.2.1), (12, aB x7.2.2)] rfl (by kernel_rfl) (sq (bq ?_))))
  refine sq (rg (sh 2 [(37, aB x5.2.2), (36, aB x5.2.2)] (by kernel_rfl) ?_))
  refine seg x5.2.2 [37, 36, 9] (fun b => [(39, aB (b && x7.2.2)), (38, ifA b (aB x7.2.2) (.undef))]) 4 (by kernel_rfl) ?_ ?_ ?_
  ·
   intro Q h
   refine sh 2 [(39, aB x7.2.2), (38, aB x7.2.2)] (by kernel_rfl) ?_
   exact sameN (by kernel_rfl) (by kernel_rfl) h
  ·
   intro Q h
   refine sh 2 [(39, aB false), (38, .undef)] (by kernel_rfl) ?_
   exact sameN (by kernel_rfl) (by kernel_rfl) h
  refine sh 1 [(35, aB (x5.2.2 && x7.2.2))] (by kernel_rfl) (fin [(2, .ptr 0 0), (5, .ptr 1 0), (6, .ptr 2 0), (7, .ptr 3 0), (8, aI x5.2.1), (9, aB x5.2.2), (10, .ptr 4 0), (11, aI x7.2.1), (12, aB x7.2.2), (35, aB (x5.2.2 && x7.2.2))] rfl (by kernel_rfl) ?_)
  rcases bif_some hm with ⟨h9, hm⟩ | ⟨h9, hm⟩
  ·
   refine ct h9 (by kernel_rfl) (sq (rgd (shd 7 [(46, aI (if x7.1.fDistinct > x5.1.fDistinct then x7.1.fDistinct else x5.1.fDistinct)), (45, aI x7.1.fDistinct), (44, .ptr 4 2), (43, aI x5.1.fDistinct), (42, .ptr 3 2), (41, aI a0.fKind), (40, .ptr 0 0)] (by kernel_rfl) ?_)))
   obtain ⟨x10, h11, hm⟩ := bs hm
   refine dvd 47 (cpure (by kernel_rfl) (ok_guess_one h11) (by kernel_rfl) (by kernel_rfl) (by kernel_rfl)) (by kernel_rfl) ?_
   obtain ⟨x12, h13, hm⟩ := bs hm
   refine dvd 48 (cpure (by kernel_rfl) (ok_guess_blind h13) (by kernel_rfl) (by kernel_rfl) (by kernel_rfl)) (by kernel_rfl) (shd 1 [(4, aU x12)] (by kernel_rfl) (find [(4, aU x12)] rfl (by kernel_rfl) (by kernel_rfl) (wp_ret ?_)))
   obtain rfl := Option.some.inj hm
   exact ⟨trivial, by kernel_rfl⟩
  ·
   refine cf h9 (by kernel_rfl) ?_
   obtain ⟨k15, hk15, hm⟩ := withK_some hm
   refine mid (fun t H => (∃ (y14 : Bool), k15 y14 = some r ∧ t = mk 113 [(2, .ptr 0 0), (5, .ptr 1 0), (6, .ptr 2 0), (7, .ptr 3 0), (8, aI x5.2.1), (9, aB x5.2.2), (10, .ptr 4 0), (11, aI x7.2.1), (12, aB x7.2.2), (49, aB y14)] ∧ H = [.box [aI a0.fKind, aI a0.fRel, aI a0.fCol, aI a0.fConst.fKind, aI a0.fConst.fInt, aF a0.fConst.fFloat, aS a0.fConst.fText, .pv (encSl R_E_api_Expr a0.fKids)] false, .box [aI ((un_api_Expr x1).fKind), aI ((un_api_Expr x1).fRel), aI ((un_api_Expr x1).fCol), aI (((un_api_Expr x1).fConst).fKind), aI (((un_api_Expr x1).fConst).fInt), aF (((un_api_Expr x1).fConst).fFloat), aS (((un_api_Expr x1).fConst).fText), .pv (encSl R_E_api_Expr ((un_api_Expr x1).fKids))] false, .box [aI ((un_api_Expr x3).fKind), aI ((un_api_Expr x3).fRel), aI ((un_api_Expr x3).fCol), aI (((un_api_Expr x3).fConst).fKind), aI (((un_api_Expr x3).fConst).fInt), aF (((un_api_Expr x3).fConst).fFloat), aS (((un_api_Expr x3).fConst).fText), .pv (encSl R_E_api_Expr ((un_api_Expr x3).fKids))] false, .box ([aI x5.1.fKind, aI x5.1.fNulls, aI x5.1.fDistinct, .pv (encSl R_hist_Bucket x5.1.fHist), .pv (encSl R_api_Value x5.1.fSample)] ++ (aA .u8 64 x5.1.fSketch.fRegs)) false, .box ([aI x7.1.fKind, aI x7.1.fNulls, aI x7.1.fDistinct, .pv (encSl R_hist_Bucket x7.1.fHist), .pv (encSl R_api_Value x7.1.fSample)] ++ (aA .u8 64 x7.1.fSketch.fRegs)) false])) ?_ ?_
   ·
    rintro _ _ ⟨y14, hm, rfl, rfl⟩
    subst hk15
    rcases bif_some hm with ⟨h16, hm⟩ | ⟨h16, hm⟩
    ·
     refine ct h16 (by kernel_rfl) (sq (detn [(4, aU 0)] (by kernel_rfl) (wp_ret ?_)))
     obtain rfl := Option.some.inj hm
     exact ⟨trivial, by kernel_rfl⟩
    ·
     refine cf h16 (by kernel_rfl) ?_
     refine sq (rg (sh 2 [(76, aB x5.2.2), (75, aB x5.2.2)] (by kernel_rfl) ?_))
     refine seg x5.2.2 [76, 75, 9] (fun b => [(80, aB (b && (((un_api_Expr x3).fKind) == 2))), (79, ifA b (aB (((un_api_Expr x3).fKind) == 2)) (.undef)), (78, ifA b (aI ((un_api_Expr x3).fKind)) (.undef)), (77, ifA b (.ptr 2 0) (.undef))]) 6 (by kernel_rfl) ?_ ?_ ?_
     ·
      intro Q h
      refine sh 4 [(80, aB (((un_api_Expr x3).fKind) == 2)), (79, aB (((un_api_Expr x3).fKind) == 2)), (78, aI ((un_api_Expr x3).fKind)), (77, .ptr 2 0)] (by kernel_rfl) ?_
      exact sameN (by kernel_rfl) (by kernel_rfl) h
     ·
      intro Q h
      refine sh 4 [(80, aB false), (79, .undef), (78, .undef), (77, .undef)] (by kernel_rfl) ?_
      exact sameN (by kernel_rfl) (by kernel_rfl) h
     refine sh 1 [(74, aB (x5.2.2 && (((un_api_Expr x3).fKind) == 2)))] (by kernel_rfl) (fin [(2, .ptr 0 0), (5, .ptr 1 0), (6, .ptr 2 0), (7, .ptr 3 0), (8, aI x5.2.1), (10, .ptr 4 0), (11, aI x7.2.1), (12, aB x7.2.2), (74, aB (x5.2.2 && (((un_api_Expr x3).fKind) == 2)))] rfl (by kernel_rfl) ?_)
     rcases bif_some hm with ⟨h17, hm⟩ | ⟨h17, hm⟩
     ·
      refine ct h17 (by kernel_rfl) (sq (rgd (shd 5 [(85, .agg [aI (((un_api_Expr x3).fConst).fKind), aI (((un_api_Expr x3).fConst).fInt), aF (((un_api_Expr x3).fConst).fFloat), aS (((un_api_Expr x3).fConst).fText)]), (84, .ptr 2 3), (83, .agg ([aI x5.1.fKind, aI x5.1.fNulls, aI x5.1.fDistinct, .pv (encSl R_hist_Bucket x5.1.fHist), .pv (encSl R_api_Value x5.1.fSample)] ++ (aA .u8 64 x5.1.fSketch.fRegs))), (82, aI a0.fKind), (81, .ptr 0 0)] (by kernel_rfl) ?_)))
      obtain ⟨x18, h19, hm⟩ := bs hm
      refine dvd 86 (cpure (by kernel_rfl) (ok_guess_against h19) (by kernel_rfl) (by kernel_rfl) (by kernel_rfl)) (by kernel_rfl) (shd 2 [(88, aI x5.2.1), (87, .agg ([aI x5.1.fKind, aI x5.1.fNulls, aI x5.1.fDistinct, .pv (encSl R_hist_Bucket x5.1.fHist), .pv (encSl R_api_Value x5.1.fSample)] ++ (aA .u8 64 x5.1.fSketch.fRegs)))] (by kernel_rfl) ?_)
      obtain ⟨x20, h21, hm⟩ := bs hm
      refine dvd 89 (cpure (by kernel_rfl) (ok_guess_nulls h21) (by kernel_rfl) (by kernel_rfl) (by kernel_rfl)) (by kernel_rfl) ?_
      obtain ⟨x22, h23, hm⟩ := bs hm
      refine dvd 90 (cpure (by kernel_rfl) (ok_fixed_Inverse h23) (by kernel_rfl) (by kernel_rfl) (by kernel_rfl)) (by kernel_rfl) ?_
      obtain ⟨x24, h25, hm⟩ := bs hm
      refine dvd 91 (cpure (by kernel_rfl) (ok_fixed_Scale h25) (by kernel_rfl) (by kernel_rfl) (by kernel_rfl)) (by kernel_rfl) (shd 1 [(4, aU x24)] (by kernel_rfl) (find [(4, aU x24)] rfl (by kernel_rfl) (by kernel_rfl) (wp_ret ?_)))
      obtain rfl := Option.some.inj hm
      exact ⟨trivial, by kernel_rfl⟩
     ·
      refine cf h17 (by kernel_rfl) ?_
      refine sq (rg (sh 2 [(94, aB x7.2.2), (93, aB x7.2.2)] (by kernel_rfl) ?_))
      refine seg x7.2.2 [94, 93, 12] (fun b => [(98, aB (b && (((un_api_Expr x1).fKind) == 2))), (97, ifA b (aB (((un_api_Expr x1).fKind) == 2)) (.undef)), (96, ifA b (aI ((un_api_Expr x1).fKind)) (.undef)), (95, ifA b (.ptr 1 0) (.undef))]) 6 (by kernel_rfl) ?_ ?_ ?_
      ·
       intro Q h
       refine sh 4 [(98, aB (((un_api_Expr x1).fKind) == 2)), (97, aB (((un_api_Expr x1).fKind) == 2)), (96, aI ((un_api_Expr x1).fKind)), (95, .ptr 1 0)] (by kernel_rfl) ?_
       exact sameN (by kernel_rfl) (by kernel_rfl) h
      ·
       intro Q h
       refine sh 4 [(98, aB false), (97, .undef), (96, .undef), (95, .undef)] (by kernel_rfl) ?_
       exact sameN (by kernel_rfl) (by kernel_rfl) h
      refine sh 1 [(92, aB (x7.2.2 && (((un_api_Expr x1).fKind) == 2)))] (by kernel_rfl) (fin [(2, .ptr 0 0), (5, .ptr 1 0), (10, .ptr 4 0), (11, aI x7.2.1), (92, aB (x7.2.2 && (((un_api_Expr x1).fKind) == 2)))] rfl (by kernel_rfl) ?_)
      rcases bif_some hm with ⟨h26, hm⟩ | ⟨h26, hm⟩
      ·
       refine ct h26 (by kernel_rfl) (sq (rgd (shd 5 [(103, .agg [aI (((un_api_Expr x1).fConst).fKind), aI (((un_api_Expr x1).fConst).fInt), aF (((un_api_Expr x1).fConst).fFloat), aS (((un_api_Expr x1).fConst).fText)]), (102, .ptr 1 3), (101, .agg ([aI x7.1.fKind, aI x7.1.fNulls, aI x7.1.fDistinct, .pv (encSl R_hist_Bucket x7.1.fHist), .pv (encSl R_api_Value x7.1.fSample)] ++ (aA .u8 64 x7.1.fSketch.fRegs))), (100, aI a0.fKind), (99, .ptr 0 0)] (by kernel_rfl) ?_)))
       obtain ⟨x27, h28, hm⟩ := bs hm
       refine dvd 104 (cpure (by kernel_rfl) (ok_guess_against h28) (by kernel_rfl) (by kernel_rfl) (by kernel_rfl)) (by kernel_rfl) (shd 2 [(106, aI x7.2.1), (105, .agg ([aI x7.1.fKind, aI x7.1.fNulls, aI x7.1.fDistinct, .pv (encSl R_hist_Bucket x7.1.fHist), .pv (encSl R_api_Value x7.1.fSample)] ++ (aA .u8 64 x7.1.fSketch.fRegs)))] (by kernel_rfl) ?_)
       obtain ⟨x29, h30, hm⟩ := bs hm
       refine dvd 107 (cpure (by kernel_rfl) (ok_guess_nulls h30) (by kernel_rfl) (by kernel_rfl) (by kernel_rfl)) (by kernel_rfl) ?_
       obtain ⟨x31, h32, hm⟩ := bs hm
       refine dvd 108 (cpure (by kernel_rfl) (ok_fixed_Inverse h32) (by kernel_rfl) (by kernel_rfl) (by kernel_rfl)) (by kernel_rfl) ?_
       obtain ⟨x33, h34, hm⟩ := bs hm
       refine dvd 109 (cpure (by kernel_rfl) (ok_fixed_Scale h34) (by kernel_rfl) (by kernel_rfl) (by kernel_rfl)) (by kernel_rfl) (shd 1 [(4, aU x33)] (by kernel_rfl) (find [(4, aU x33)] rfl (by kernel_rfl) (by kernel_rfl) (wp_ret ?_)))
       obtain rfl := Option.some.inj hm
       exact ⟨trivial, by kernel_rfl⟩
      ·
       refine cf h26 (by kernel_rfl) (wp_skip (sq (rg (sh 2 [(111, aI a0.fKind), (110, .ptr 0 0)] (by kernel_rfl) ?_))))
       obtain ⟨x35, h36, hm⟩ := bs hm
       refine dv 112 (cpure (by kernel_rfl) (ok_guess_blind h36) (by kernel_rfl) (by kernel_rfl) (by kernel_rfl)) (by kernel_rfl) (sh 1 [(4, aU x35)] (by kernel_rfl) (fin [(4, aU x35)] rfl (by kernel_rfl) (wp_ret ?_)))
       obtain rfl := Option.some.inj hm
       exact ⟨trivial, by kernel_rfl⟩
   refine sq (rg (sh 2 [(51, aB x5.2.2), (50, aB x5.2.2)] (by kernel_rfl) ?_))
   refine seg x5.2.2 [51, 50, 9] (fun b => [(55, aB (b && (((un_api_Expr x3).fKind) == 2))), (54, ifA b (aB (((un_api_Expr x3).fKind) == 2)) (.undef)), (53, ifA b (aI ((un_api_Expr x3).fKind)) (.undef)), (52, ifA b (.ptr 2 0) (.undef))]) 6 (by kernel_rfl) ?_ ?_ ?_
   ·
    intro Q h
    refine sh 4 [(55, aB (((un_api_Expr x3).fKind) == 2)), (54, aB (((un_api_Expr x3).fKind) == 2)), (53, aI ((un_api_Expr x3).fKind)), (52, .ptr 2 0)] (by kernel_rfl) ?_
    exact sameN (by kernel_rfl) (by kernel_rfl) h
   ·
    intro Q h
    refine sh 4 [(55, aB false), (54, .undef), (53, .undef), (52, .undef)] (by kernel_rfl) ?_
    exact sameN (by kernel_rfl) (by kernel_rfl) h
   refine sh 1 [(56, aB (x5.2.2 && (((un_api_Expr x3).fKind) == 2)))] (by kernel_rfl) ?_
   refine seg (x5.2.2 && (((un_api_Expr x3).fKind) == 2)) [56, 55] (fun b => [(61, aB (b && ((((un_api_Expr x3).fConst).fKind) == 0))), (60, ifA b (aB ((((un_api_Expr x3).fConst).fKind) == 0)) (.undef)), (59, ifA b (aI (((un_api_Expr x3).fConst).fKind)) (.undef)), (58, ifA b (.ptr 2 3) (.undef)), (57, ifA b (.ptr 2 3) (.undef))]) 12 (by kernel_rfl) ?_ ?_ ?_
   ·
    intro Q h
    refine sh 5 [(61, aB ((((un_api_Expr x3).fConst).fKind) == 0)), (60, aB ((((un_api_Expr x3).fConst).fKind) == 0)), (59, aI (((un_api_Expr x3).fConst).fKind)), (58, .ptr 2 3), (57, .ptr 2 3)] (by kernel_rfl) ?_
    exact sameN (by kernel_rfl) (by kernel_rfl) h
   ·
    intro Q h
    refine sh 5 [(61, aB false), (60, .undef), (59, .undef), (58, .undef), (57, .undef)] (by kernel_rfl) ?_
    exact sameN (by kernel_rfl) (by kernel_rfl) h
   refine sh 1 [(49, aB ((x5.2.2 && (((un_api_Expr x3).fKind) == 2)) && ((((un_api_Expr x3).fConst).fKind) == 0)))] (by kernel_rfl) (fin [(2, .ptr 0 0), (5, .ptr 1 0), (6, .ptr 2 0), (7, .ptr 3 0), (8, aI x5.2.1), (9, aB x5.2.2), (10, .ptr 4 0), (11, aI x7.2.1), (12, aB x7.2.2), (49, aB ((x5.2.2 && (((un_api_Expr x3).fKind) == 2)) && ((((un_api_Expr x3).fConst).fKind) == 0)))] rfl (by kernel_rfl) ?_)
   rcases bif_some hm with ⟨h37, hm⟩ | ⟨h37, hm⟩
   ·
    refine ct h37 (by kernel_rfl) (wp_skip ?_)
    exact ⟨((x5.2.2 && (((un_api_Expr x3).fKind) == 2)) && ((((un_api_Expr x3).fConst).fKind) == 0)), hm, rfl, rfl⟩
   ·
    refine cf h37 (by kernel_rfl) (rg (sh 2 [(63, aB x7.2.2), (62, aB x7.2.2)] (by kernel_rfl) ?_))
    refine seg x7.2.2 [63, 62, 12] (fun b => [(67, aB (b && (((un_api_Expr x1).fKind) == 2))), (66, ifA b (aB (((un_api_Expr x1).fKind) == 2)) (.undef)), (65, ifA b (aI ((un_api_Expr x1).fKind)) (.undef)), (64, ifA b (.ptr 1 0) (.undef))]) 6 (by kernel_rfl) ?_ ?_ ?_
    ·
     intro Q h
     refine sh 4 [(67, aB (((un_api_Expr x1).fKind) == 2)), (66, aB (((un_api_Expr x1).fKind) == 2)), (65, aI ((un_api_Expr x1).fKind)), (64, .ptr 1 0)] (by kernel_rfl) ?_
     exact sameN (by kernel_rfl) (by kernel_rfl) h
    ·
     intro Q h
     refine sh 4 [(67, aB false), (66, .undef), (65, .undef), (64, .undef)] (by kernel_rfl) ?_
     exact sameN (by kernel_rfl) (by kernel_rfl) h
    refine sh 1 [(68, aB (x7.2.2 && (((un_api_Expr x1).fKind) == 2)))] (by kernel_rfl) ?_
    refine seg (x7.2.2 && (((un_api_Expr x1).fKind) == 2)) [68, 67] (fun b => [(73, aB (b && ((((un_api_Expr x1).fConst).fKind) == 0))), (72, ifA b (aB ((((un_api_Expr x1).fConst).fKind) == 0)) (.undef)), (71, ifA b (aI (((un_api_Expr x1).fConst).fKind)) (.undef)), (70, ifA b (.ptr 1 3) (.undef)), (69, ifA b (.ptr 1 3) (.undef))]) 12 (by kernel_rfl) ?_ ?_ ?_
    ·
     intro Q h
     refine sh 5 [(73, aB ((((un_api_Expr x1).fConst).fKind) == 0)), (72, aB ((((un_api_Expr x1).fConst).fKind) == 0)), (71, aI (((un_api_Expr x1).fConst).fKind)), (70, .ptr 1 3), (69, .ptr 1 3)] (by kernel_rfl) ?_
     exact sameN (by kernel_rfl) (by kernel_rfl) h
    ·
     intro Q h
     refine sh 5 [(73, aB false), (72, .undef), (71, .undef), (70, .undef), (69, .undef)] (by kernel_rfl) ?_
     exact sameN (by kernel_rfl) (by kernel_rfl) h
    refine sh 1 [(49, aB ((x7.2.2 && (((un_api_Expr x1).fKind) == 2)) && ((((un_api_Expr x1).fConst).fKind) == 0)))] (by kernel_rfl) (fin [(2, .ptr 0 0), (5, .ptr 1 0), (6, .ptr 2 0), (7, .ptr 3 0), (8, aI x5.2.1), (9, aB x5.2.2), (10, .ptr 4 0), (11, aI x7.2.1), (12, aB x7.2.2), (49, aB ((x7.2.2 && (((un_api_Expr x1).fKind) == 2)) && ((((un_api_Expr x1).fConst).fKind) == 0)))] rfl (by kernel_rfl) ?_)
    exact ⟨((x7.2.2 && (((un_api_Expr x1).fKind) == 2)) && ((((un_api_Expr x1).fConst).fKind) == 0)), hm, rfl, rfl⟩
theorem okf_guess_part {rc_guess_part : (Nat → api_Expr → (Option (List stat_Stat)) → Option (Int))} (ih_guess_part : ∀ {n : Nat} {a0 : api_Expr} {a1 : (Option (List stat_Stat))} {r : Int} (hm : rc_guess_part n a0 a1 = some r), call G n 48 [.agg [aI a0.fKind, aI a0.fRel, aI a0.fCol, aI a0.fConst.fKind, aI a0.fConst.fInt, aF a0.fConst.fFloat, aS a0.fConst.fText, .pv (encSl R_E_api_Expr a0.fKids)], .pv (encSl R_stat_Stat a1)] [] = some (.ret (aU r), [])) {n : Nat} {a0 : api_Expr} {a1 : (Option (List stat_Stat))} {r : Int} (hm : guess_part_f rc_guess_part n a0 a1 = some r) :
    call G n 48 [.agg [aI a0.fKind, aI a0.fRel, aI a0.fCol, aI a0.fConst.fKind, aI a0.fConst.fInt, aF a0.fConst.fFloat, aS a0.fConst.fText, .pv (encSl R_E_api_Expr a0.fKids)], .pv (encSl R_stat_Stat a1)] [] = some (.ret (aU r), []) := by
  unfold guess_part_f at hm
  obtain ⟨n, rfl, h0⟩ := at1_some hm
  replace hm := h0; clear h0
  refine callL 85 [(0, .agg [aI a0.fKind, aI a0.fRel, aI a0.fCol, aI a0.fConst.fKind, aI a0.fConst.fInt, aF a0.fConst.fFloat, aS a0.fConst.fText, .pv (encSl R_E_api_Expr a0.fKids)]), (1, .pv (encSl R_stat_Stat a1))] func48 rfl (by kernel_rfl) (sq (det [(1, .pv (encSl R_stat_Stat a1)), (2, .ptr 0 0)] [.box [aI a0.fKind, aI a0.fRel, aI a0.fCol, aI a0.fConst.fKind, aI a0.fConst.fInt, aF a0.fConst.fFloat, aS a0.fConst.fText, .pv (encSl R_E_api_Expr a0.fKids)] false] (by kernel_rfl) (sq (sq (detn [(1, .pv (encSl R_stat_Stat a1)), (2, .ptr 0 0), (11, aI a0.fKind)] (by kernel_rfl) (bq ?_))))))
  obtain ⟨k1, hk1, hm⟩ := withK_some hm
  refine mid (fun t H => (k1 () = some r ∧ t = mk 85 [(1, .pv (encSl R_stat_Stat a1)), (2, .ptr 0 0), (24, aB (a0.fKind == 13))] ∧ H = [.box [aI a0.fKind, aI a0.fRel, aI a0.fCol, aI a0.fConst.fKind, aI a0.fConst.fInt, aF a0.fConst.fFloat, aS a0.fConst.fText, .pv (encSl R_E_api_Expr a0.fKids)] false])) ?_ ?_
  ·
   rintro _ _ ⟨hm, rfl, rfl⟩
   subst hk1
   refine sq (sq (sq (rg (sh 2 [(73, .pv (encSl R_E_api_Expr a0.fKids)), (72, .ptr 0 7)] (by kernel_rfl) ?_))))
   obtain ⟨x2, h3, hm⟩ := bs hm
   refine dv 74 (v := .pv (.ptr (R_api_Expr (un_api_Expr x2)) 0)) (ia_slE R_E_api_Expr a0.fKids .i64 t23 t44 h3 (R_un_api_Expr x2) rfl (by kernel_rfl)) (by kernel_rfl) (sh 2 [(76, .pv (encSl R_stat_Stat a1)), (75, .agg [aI ((un_api_Expr x2).fKind), aI ((un_api_Expr x2).fRel), aI ((un_api_Expr x2).fCol), aI (((un_api_Expr x2).fConst).fKind), aI (((un_api_Expr x2).fConst).fInt), aF (((un_api_Expr x2).fConst).fFloat), aS (((un_api_Expr x2).fConst).fText), .pv (encSl R_E_api_Expr ((un_api_Expr x2).fKids))])] (by kernel_rfl) ?_)
   obtain ⟨x4, h5, hm⟩ := bs hm
   refine dv 77 (cpure (by kernel_rfl) (ok_guess_column h5) (by kernel_rfl) (by kernel_rfl) (by kernel_rfl)) (by kernel_rfl) (st 8 [(9, aB x4.2.2), (8, aI x4.2.1), (7, .ptr 1 0), (80, aB x4.2.2), (79, aI x4.2.1), (78, .agg ([aI x4.1.fKind, aI x4.1.fNulls, aI x4.1.fDistinct, .pv (encSl R_hist_Bucket x4.1.fHist), .pv (encSl R_api_Value x4.1.fSample)] ++ (aA .u8 64 x4.1.fSketch.fRegs))), (71, .tup [.agg ([aI x4.1.fKind, aI x4.1.fNulls, aI x4.1.fDistinct, .pv (encSl R_hist_Bucket x4.1.fHist), .pv (encSl R_api_Value x4.1.fSample)] ++ (aA .u8 64 x4.1.fSketch.fRegs)), aI x4.2.1, aB x4.2.2])] [.box [aI a0.fKind, aI a0.fRel, aI a0.fCol, aI a0.fConst.fKind, aI a0.fConst.fInt, aF a0.fConst.fFloat, aS a0.fConst.fText, .pv (encSl R_E_api_Expr a0.fKids)] false, .box ([aI x4.1.fKind, aI x4.1.fNulls, aI x4.1.fDistinct, .pv (encSl R_hist_Bucket x4.1.fHist), .pv (encSl R_api_Value x4.1.fSample)] ++ (aA .u8 64 x4.1.fSketch.fRegs)) false] (by kernel_rfl) (fin [(7, .ptr 1 0), (8, aI x4.2.1), (9, aB x4.2.2)] rfl (by kernel_rfl) (sq (detn [(7, .ptr 1 0), (8, aI x4.2.1), (81, aB x4.2.2)] (by kernel_rfl) ?_))))
   rcases bif_some hm with ⟨h6, hm⟩ | ⟨h6, hm⟩
   ·
    refine ct h6 (by kernel_rfl) (sq (rg (sh 2 [(83, aI x4.2.1), (82, .agg ([aI x4.1.fKind, aI x4.1.fNulls, aI x4.1.fDistinct, .pv (encSl R_hist_Bucket x4.1.fHist), .pv (encSl R_api_Value x4.1.fSample)] ++ (aA .u8 64 x4.1.fSketch.fRegs)))] (by kernel_rfl) ?_)))
    obtain ⟨x7, h8, hm⟩ := bs hm
    refine dv 84 (cpure (by kernel_rfl) (ok_guess_nulls h8) (by kernel_rfl) (by kernel_rfl) (by kernel_rfl)) (by kernel_rfl) (sh 1 [(4, aU x7)] (by kernel_rfl) (fin [(4, aU x7)] rfl (by kernel_rfl) (wp_ret ?_)))
    obtain rfl := Option.some.inj hm
    exact ⟨trivial, by kernel_rfl⟩
   ·
    refine cf h6 (by kernel_rfl) (wp_skip (sq (detn [(4, aU 104857)] (by kernel_rfl) (wp_ret ?_))))
    obtain rfl := Option.some.inj hm
    exact ⟨trivial, by kernel_rfl⟩
  refine bq (sq (bq (bq ?_)))
  refine sq (bq ?_)
  obtain ⟨k10, hk10, hm⟩ := withK_some hm
  refine mid (fun t H => (∃ (y9 : Bool), k10 () = some r ∧ t = mk 85 [(1, .pv (encSl R_stat_Stat a1)), (2, .ptr 0 0), (11, aI a0.fKind), (14, aB y9)] ∧ H = [.box [aI a0.fKind, aI a0.fRel, aI a0.fCol, aI a0.fConst.fKind, aI a0.fConst.fInt, aF a0.fConst.fFloat, aS a0.fConst.fText, .pv (encSl R_E_api_Expr a0.fKids)] false])) ?_ ?_
  ·
   rintro _ _ ⟨y9, hm, rfl, rfl⟩
   subst hk10
   refine sq (sq (rgd (shd 2 [(37, .pv (encSl R_E_api_Expr a0.fKids)), (36, .ptr 0 7)] (by kernel_rfl) ?_)))
   obtain ⟨x11, h12, hm⟩ := bs hm
   refine dvd 38 (v := .pv (.ptr (R_api_Expr (un_api_Expr x11)) 0)) (ia_slE R_E_api_Expr a0.fKids .i64 t23 t44 h12 (R_un_api_Expr x11) rfl (by kernel_rfl)) (by kernel_rfl) (shd 2 [(40, .pv (encSl R_stat_Stat a1)), (39, .agg [aI ((un_api_Expr x11).fKind), aI ((un_api_Expr x11).fRel), aI ((un_api_Expr x11).fCol), aI (((un_api_Expr x11).fConst).fKind), aI (((un_api_Expr x11).fConst).fInt), aF (((un_api_Expr x11).fConst).fFloat), aS (((un_api_Expr x11).fConst).fText), .pv (encSl R_E_api_Expr ((un_api_Expr x11).fKids))])] (by kernel_rfl) ?_)
   obtain ⟨x13, h14, hm⟩ := bs hm
   refine dvd 41 (cpure (by kernel_rfl) (ih_guess_part h14) (by kernel_rfl) (by kernel_rfl) (by kernel_rfl)) (by kernel_rfl) (shd 2 [(43, .pv (encSl R_E_api_Expr a0.fKids)), (42, .ptr 0 7)] (by kernel_rfl) ?_)
   obtain ⟨x15, h16, hm⟩ := bs hm
   refine dvd 44 (v := .pv (.ptr (R_api_Expr (un_api_Expr x15)) 0)) (ia_slE R_E_api_Expr a0.fKids .i64 t23 t44 h16 (R_un_api_Expr x15) rfl (by kernel_rfl)) (by kernel_rfl) (shd 2 [(46, .pv (encSl R_stat_Stat a1)), (45, .agg [aI ((un_api_Expr x15).fKind), aI ((un_api_Expr x15).fRel), aI ((un_api_Expr x15).fCol), aI (((un_api_Expr x15).fConst).fKind), aI (((un_api_Expr x15).fConst).fInt), aF (((un_api_Expr x15).fConst).fFloat), aS (((un_api_Expr x15).fConst).fText), .pv (encSl R_E_api_Expr ((un_api_Expr x15).fKids))])] (by kernel_rfl) ?_)
   obtain ⟨x17, h18, hm⟩ := bs hm
   refine dvd 47 (cpure (by kernel_rfl) (ih_guess_part h18) (by kernel_rfl) (by kernel_rfl) (by kernel_rfl)) (by kernel_rfl) (shd 2 [(6, aU x17), (5, aU x13)] (by kernel_rfl) (find [(2, .ptr 0 0), (5, aU x13), (6, aU x17)] rfl (by kernel_rfl) (by kernel_rfl) ?_))
   refine sq (sq (detn [(5, aU x13), (6, aU x17), (50, aB (a0.fKind == 10))] (by kernel_rfl) ?_))
   rcases bif_some hm with ⟨h19, hm⟩ | ⟨h19, hm⟩
   ·
    refine ct h19 (by kernel_rfl) (sq (rg (sh 2 [(52, aU x17), (51, aU x13)] (by kernel_rfl) ?_)))
    obtain ⟨x20, h21, hm⟩ := bs hm
    refine dv 53 (cpure (by kernel_rfl) (ok_fixed_Scale h21) (by kernel_rfl) (by kernel_rfl) (by kernel_rfl)) (by kernel_rfl) (sh 1 [(4, aU x20)] (by kernel_rfl) (fin [(4, aU x20)] rfl (by kernel_rfl) (wp_ret ?_)))
    obtain rfl := Option.some.inj hm
    exact ⟨trivial, by kernel_rfl⟩
   ·
    refine cf h19 (by kernel_rfl) (wp_skip (sq (rg (sh 2 [(55, aU x17), (54, aU x13)] (by kernel_rfl) ?_))))
    obtain ⟨x22, h23, hm⟩ := bs hm
    refine dv 56 (cpure (by kernel_rfl) (ok_fixed_Add h23) (by kernel_rfl) (by kernel_rfl) (by kernel_rfl)) (by kernel_rfl) (sh 2 [(58, aU x17), (57, aU x13)] (by kernel_rfl) ?_)
    obtain ⟨x24, h25, hm⟩ := bs hm
    refine dv 59 (cpure (by kernel_rfl) (ok_fixed_Scale h25) (by kernel_rfl) (by kernel_rfl) (by kernel_rfl)) (by kernel_rfl) ?_
    obtain ⟨x26, h27, hm⟩ := bs hm
    refine dv 60 (cpure (by kernel_rfl) (ok_fixed_Sub h27) (by kernel_rfl) (by kernel_rfl) (by kernel_rfl)) (by kernel_rfl) (sh 1 [(4, aU x26)] (by kernel_rfl) (fin [(4, aU x26)] rfl (by kernel_rfl) (wp_ret ?_)))
    obtain rfl := Option.some.inj hm
    exact ⟨trivial, by kernel_rfl⟩
  refine bq ?_
  refine sq (bq (sq ?_))
  refine sq (sq (detn [(1, .pv (encSl R_stat_Stat a1)), (2, .ptr 0 0), (11, aI a0.fKind), (12, aB (a0.fKind == 2))] (by kernel_rfl) ?_))
  rcases bif_some hm with ⟨h28, hm⟩ | ⟨h28, hm⟩
  ·
   refine ct h28 (by kernel_rfl) (wp_exit (sq (sq (sq (rg (sh 5 [(30, aB (a0.fConst.fKind == 1)), (29, aB (a0.fConst.fKind == 1)), (28, aI a0.fConst.fKind), (27, .ptr 0 3), (26, .ptr 0 3)] (by kernel_rfl) ?_))))))
   refine seg (a0.fConst.fKind == 1) [30, 29] (fun b => [(35, aB (b && (a0.fConst.fInt == 1))), (34, ifA b (aB (a0.fConst.fInt == 1)) (.undef)), (33, ifA b (aI a0.fConst.fInt) (.undef)), (32, ifA b (.ptr 0 4) (.undef)), (31, ifA b (.ptr 0 3) (.undef))]) 10 (by kernel_rfl) ?_ ?_ ?_
   ·
    intro Q h
    refine sh 5 [(35, aB (a0.fConst.fInt == 1)), (34, aB (a0.fConst.fInt == 1)), (33, aI a0.fConst.fInt), (32, .ptr 0 4), (31, .ptr 0 3)] (by kernel_rfl) ?_
    exact sameN (by kernel_rfl) (by kernel_rfl) h
   ·
    intro Q h
    refine sh 5 [(35, aB false), (34, .undef), (33, .undef), (32, .undef), (31, .undef)] (by kernel_rfl) ?_
    exact sameN (by kernel_rfl) (by kernel_rfl) h
   refine fin [(35, aB ((a0.fConst.fKind == 1) && (a0.fConst.fInt == 1)))] rfl (by kernel_rfl) ?_
   rcases bif_some hm with ⟨h29, hm⟩ | ⟨h29, hm⟩
   ·
    refine ct h29 (by kernel_rfl) (sq (detn [(4, aU 1048576)] (by kernel_rfl) (wp_ret ?_)))
    obtain rfl := Option.some.inj hm
    exact ⟨trivial, by kernel_rfl⟩
   ·
    refine cf h29 (by kernel_rfl) (wp_skip (sq (detn [(4, aU 0)] (by kernel_rfl) (wp_ret ?_))))
    obtain rfl := Option.some.inj hm
    exact ⟨trivial, by kernel_rfl⟩
  ·
   refine cf h28 (by kernel_rfl) (wp_skip ?_)
   obtain ⟨k31, hk31, hm⟩ := withK_some hm
   refine mid (fun t H => (∃ (y30 : Bool), k31 () = some r ∧ t = mk 85 [(1, .pv (encSl R_stat_Stat a1)), (2, .ptr 0 0), (11, aI a0.fKind), (14, aB y30)] ∧ H = [.box [aI a0.fKind, aI a0.fRel, aI a0.fCol, aI a0.fConst.fKind, aI a0.fConst.fInt, aF a0.fConst.fFloat, aS a0.fConst.fText, .pv (encSl R_E_api_Expr a0.fKids)] false])) ?_ ?_
   ·
    rintro _ _ ⟨y30, hm, rfl, rfl⟩
    subst hk31
    refine sq (sq (detn [(1, .pv (encSl R_stat_Stat a1)), (2, .ptr 0 0), (11, aI a0.fKind), (17, aB (a0.fKind == 12))] (by kernel_rfl) ?_))
    rcases bif_some hm with ⟨h32, hm⟩ | ⟨h32, hm⟩
    ·
     refine ct h32 (by kernel_rfl) (wp_exit (sq (sq (rg (sh 2 [(62, .pv (encSl R_E_api_Expr a0.fKids)), (61, .ptr 0 7)] (by kernel_rfl) ?_)))))
     obtain ⟨x33, h34, hm⟩ := bs hm
     refine dv 63 (v := .pv (.ptr (R_api_Expr (un_api_Expr x33)) 0)) (ia_slE R_E_api_Expr a0.fKids .i64 t23 t44 h34 (R_un_api_Expr x33) rfl (by kernel_rfl)) (by kernel_rfl) (sh 2 [(65, .pv (encSl R_stat_Stat a1)), (64, .agg [aI ((un_api_Expr x33).fKind), aI ((un_api_Expr x33).fRel), aI ((un_api_Expr x33).fCol), aI (((un_api_Expr x33).fConst).fKind), aI (((un_api_Expr x33).fConst).fInt), aF (((un_api_Expr x33).fConst).fFloat), aS (((un_api_Expr x33).fConst).fText), .pv (encSl R_E_api_Expr ((un_api_Expr x33).fKids))])] (by kernel_rfl) ?_)
     obtain ⟨x35, h36, hm⟩ := bs hm
     refine dv 66 (cpure (by kernel_rfl) (ih_guess_part h36) (by kernel_rfl) (by kernel_rfl) (by kernel_rfl)) (by kernel_rfl) ?_
     obtain ⟨x37, h38, hm⟩ := bs hm
     refine dv 67 (cpure (by kernel_rfl) (ok_fixed_Inverse h38) (by kernel_rfl) (by kernel_rfl) (by kernel_rfl)) (by kernel_rfl) (sh 1 [(4, aU x37)] (by kernel_rfl) (fin [(4, aU x37)] rfl (by kernel_rfl) (wp_ret ?_)))
     obtain rfl := Option.some.inj hm
     exact ⟨trivial, by kernel_rfl⟩
    ·
     refine cf h32 (by kernel_rfl) (wp_skip (sq (sq (detn [(1, .pv (encSl R_stat_Stat a1)), (2, .ptr 0 0), (11, aI a0.fKind), (19, aB (a0.fKind == 7))] (by kernel_rfl) ?_))))
     rcases bif_some hm with ⟨h39, hm⟩ | ⟨h39, hm⟩
     ·
      refine ct h39 (by kernel_rfl) (wp_exit (sq (sq (rg (sh 2 [(69, .pv (encSl R_stat_Stat a1)), (68, .agg [aI a0.fKind, aI a0.fRel, aI a0.fCol, aI a0.fConst.fKind, aI a0.fConst.fInt, aF a0.fConst.fFloat, aS a0.fConst.fText, .pv (encSl R_E_api_Expr a0.fKids)])] (by kernel_rfl) ?_)))))
      obtain ⟨x40, h41, hm⟩ := bs hm
      refine dv 70 (cpure (by kernel_rfl) (ok_guess_compared h41) (by kernel_rfl) (by kernel_rfl) (by kernel_rfl)) (by kernel_rfl) (sh 1 [(4, aU x40)] (by kernel_rfl) (fin [(4, aU x40)] rfl (by kernel_rfl) (wp_ret ?_)))
      obtain rfl := Option.some.inj hm
      exact ⟨trivial, by kernel_rfl⟩
     ·
      refine cf h39 (by kernel_rfl) (wp_skip (sq (sq (sq (detn [(1, .pv (encSl R_stat_Stat a1)), (2, .ptr 0 0), (11, aI a0.fKind), (21, aB (a0.fKind == 8))] (by kernel_rfl) ?_)))))
      rcases bif_some hm with ⟨h42, hm⟩ | ⟨h42, hm⟩
      ·
       refine ct h42 (by kernel_rfl) (wp_skip ?_)
       rcases bif_some hm with ⟨h43, hm⟩ | ⟨h43, hm⟩
       ·
        refine ct h43 (by kernel_rfl) (wp_exit (sq (sq (rg (sh 2 [(69, .pv (encSl R_stat_Stat a1)), (68, .agg [aI a0.fKind, aI a0.fRel, aI a0.fCol, aI a0.fConst.fKind, aI a0.fConst.fInt, aF a0.fConst.fFloat, aS a0.fConst.fText, .pv (encSl R_E_api_Expr a0.fKids)])] (by kernel_rfl) ?_)))))
        obtain ⟨x44, h45, hm⟩ := bs hm
        refine dv 70 (cpure (by kernel_rfl) (ok_guess_compared h45) (by kernel_rfl) (by kernel_rfl) (by kernel_rfl)) (by kernel_rfl) (sh 1 [(4, aU x44)] (by kernel_rfl) (fin [(4, aU x44)] rfl (by kernel_rfl) (wp_ret ?_)))
        obtain rfl := Option.some.inj hm
        exact ⟨trivial, by kernel_rfl⟩
       ·
        refine cf h43 (by kernel_rfl) (wp_skip (sq (detn [(1, .pv (encSl R_stat_Stat a1)), (2, .ptr 0 0), (24, aB (a0.fKind == 13))] (by kernel_rfl) ?_)))
        rcases bif_some hm with ⟨h46, hm⟩ | ⟨h46, hm⟩
        ·
         refine ct h46 (by kernel_rfl) (wp_exit ?_)
         exact ⟨hm, rfl, rfl⟩
        ·
         refine cf h46 (by kernel_rfl) (wp_skip (wp_exit (sq (detn [(4, aU 524288)] (by kernel_rfl) (wp_ret ?_)))))
         obtain rfl := Option.some.inj hm
         exact ⟨trivial, by kernel_rfl⟩
      ·
       refine cf h42 (by kernel_rfl) (detn [(1, .pv (encSl R_stat_Stat a1)), (2, .ptr 0 0), (11, aI a0.fKind), (21, aB (a0.fKind == 9))] (by kernel_rfl) ?_)
       rcases bif_some hm with ⟨h47, hm⟩ | ⟨h47, hm⟩
       ·
        refine ct h47 (by kernel_rfl) (wp_exit (sq (sq (rg (sh 2 [(69, .pv (encSl R_stat_Stat a1)), (68, .agg [aI a0.fKind, aI a0.fRel, aI a0.fCol, aI a0.fConst.fKind, aI a0.fConst.fInt, aF a0.fConst.fFloat, aS a0.fConst.fText, .pv (encSl R_E_api_Expr a0.fKids)])] (by kernel_rfl) ?_)))))
        obtain ⟨x48, h49, hm⟩ := bs hm
        refine dv 70 (cpure (by kernel_rfl) (ok_guess_compared h49) (by kernel_rfl) (by kernel_rfl) (by kernel_rfl)) (by kernel_rfl) (sh 1 [(4, aU x48)] (by kernel_rfl) (fin [(4, aU x48)] rfl (by kernel_rfl) (wp_ret ?_)))
        obtain rfl := Option.some.inj hm
        exact ⟨trivial, by kernel_rfl⟩
       ·
        refine cf h47 (by kernel_rfl) (wp_skip (sq (detn [(1, .pv (encSl R_stat_Stat a1)), (2, .ptr 0 0), (24, aB (a0.fKind == 13))] (by kernel_rfl) ?_)))
        rcases bif_some hm with ⟨h50, hm⟩ | ⟨h50, hm⟩
        ·
         refine ct h50 (by kernel_rfl) (wp_exit ?_)
         exact ⟨hm, rfl, rfl⟩
        ·
         refine cf h50 (by kernel_rfl) (wp_skip (wp_exit (sq (detn [(4, aU 524288)] (by kernel_rfl) (wp_ret ?_)))))
         obtain rfl := Option.some.inj hm
         exact ⟨trivial, by kernel_rfl⟩
   refine sq (sq (detn [(1, .pv (encSl R_stat_Stat a1)), (2, .ptr 0 0), (11, aI a0.fKind), (14, aB (a0.fKind == 10))] (by kernel_rfl) ?_))
   rcases bif_some hm with ⟨h51, hm⟩ | ⟨h51, hm⟩
   ·
    refine ct h51 (by kernel_rfl) (wp_skip ?_)
    rcases bif_some hm with ⟨h52, hm⟩ | ⟨h52, hm⟩
    ·
     refine ct h52 (by kernel_rfl) (wp_exit ?_)
     exact ⟨(a0.fKind == 10), hm, rfl, rfl⟩
    ·
     refine cf h52 (by kernel_rfl) (wp_skip ?_)
     exact ⟨(a0.fKind == 10), hm, rfl, rfl⟩
   ·
    refine cf h51 (by kernel_rfl) (detn [(1, .pv (encSl R_stat_Stat a1)), (2, .ptr 0 0), (11, aI a0.fKind), (14, aB (a0.fKind == 11))] (by kernel_rfl) ?_)
    rcases bif_some hm with ⟨h53, hm⟩ | ⟨h53, hm⟩
    ·
     refine ct h53 (by kernel_rfl) (wp_exit ?_)
     exact ⟨(a0.fKind == 11), hm, rfl, rfl⟩
    ·
     refine cf h53 (by kernel_rfl) (wp_skip ?_)
     exact ⟨(a0.fKind == 11), hm, rfl, rfl⟩
theorem okt_guess_part : ∀ (m : Nat), ∀ {n : Nat} {a0 : api_Expr} {a1 : (Option (List stat_Stat))} {r : Int} (hm : guess_part_t m n a0 a1 = some r), call G n 48 [.agg [aI a0.fKind, aI a0.fRel, aI a0.fCol, aI a0.fConst.fKind, aI a0.fConst.fInt, aF a0.fConst.fFloat, aS a0.fConst.fText, .pv (encSl R_E_api_Expr a0.fKids)], .pv (encSl R_stat_Stat a1)] [] = some (.ret (aU r), [])
  | 0 => by intros; rename_i hm; exact nomatch hm
  | m + 1 => fun hm =>
    okf_guess_part (okt_guess_part m) hm
theorem ok_guess_part {n : Nat} {a0 : api_Expr} {a1 : (Option (List stat_Stat))} {r : Int} (hm : guess_part n a0 a1 = some r) :
    call G n 48 [.agg [aI a0.fKind, aI a0.fRel, aI a0.fCol, aI a0.fConst.fKind, aI a0.fConst.fInt, aF a0.fConst.fFloat, aS a0.fConst.fText, .pv (encSl R_E_api_Expr a0.fKids)], .pv (encSl R_stat_Stat a1)] [] = some (.ret (aU r), []) := okt_guess_part n hm
theorem ok_guess_Part {n : Nat} {a0 : api_Expr} {a1 : (Option (List stat_Stat))} {r : Int} (hm : guess_Part n a0 a1 = some r) :
    call G n 14 [.agg [aI a0.fKind, aI a0.fRel, aI a0.fCol, aI a0.fConst.fKind, aI a0.fConst.fInt, aF a0.fConst.fFloat, aS a0.fConst.fText, .pv (encSl R_E_api_Expr a0.fKids)], .pv (encSl R_stat_Stat a1)] [] = some (.ret (aU r), []) := by
  unfold guess_Part at hm
  obtain ⟨n, rfl, h0⟩ := at1_some hm
  replace hm := h0; clear h0
  refine callL 11 [(0, .agg [aI a0.fKind, aI a0.fRel, aI a0.fCol, aI a0.fConst.fKind, aI a0.fConst.fInt, aF a0.fConst.fFloat, aS a0.fConst.fText, .pv (encSl R_E_api_Expr a0.fKids)]), (1, .pv (encSl R_stat_Stat a1))] func14 rfl (by kernel_rfl) (sq (det [(1, .pv (encSl R_stat_Stat a1)), (2, .ptr 0 0)] [.box [aI a0.fKind, aI a0.fRel, aI a0.fCol, aI a0.fConst.fKind, aI a0.fConst.fInt, aF a0.fConst.fFloat, aS a0.fConst.fText, .pv (encSl R_E_api_Expr a0.fKids)] false] (by kernel_rfl) (sq (sq (rg (sh 1 [(5, .agg [aI a0.fKind, aI a0.fRel, aI a0.fCol, aI a0.fConst.fKind, aI a0.fConst.fInt, aF a0.fConst.fFloat, aS a0.fConst.fText, .pv (encSl R_E_api_Expr a0.fKids)])] (by kernel_rfl) ?_))))))
  obtain ⟨x1, h2, hm⟩ := bs hm
  refine dv 6 (cpure (by kernel_rfl) (ok_expr_Formed h2) (by kernel_rfl) (by kernel_rfl) (by kernel_rfl)) (by kernel_rfl) (sh 1 [(7, aB (!x1))] (by kernel_rfl) (fin [(1, .pv (encSl R_stat_Stat a1)), (2, .ptr 0 0), (7, aB (!x1))] rfl (by kernel_rfl) ?_))
  rcases bif_some hm with ⟨h3, hm⟩ | ⟨h3, hm⟩
  ·
   refine ct h3 (by kernel_rfl) (sq (detn [(4, aU 1048576)] (by kernel_rfl) (wp_ret ?_)))
   obtain rfl := Option.some.inj hm
   exact ⟨trivial, by kernel_rfl⟩
  ·
   refine cf h3 (by kernel_rfl) (wp_skip (sq (rg (sh 2 [(9, .pv (encSl R_stat_Stat a1)), (8, .agg [aI a0.fKind, aI a0.fRel, aI a0.fCol, aI a0.fConst.fKind, aI a0.fConst.fInt, aF a0.fConst.fFloat, aS a0.fConst.fText, .pv (encSl R_E_api_Expr a0.fKids)])] (by kernel_rfl) ?_))))
   obtain ⟨x4, h5, hm⟩ := bs hm
   refine dv 10 (cpure (by kernel_rfl) (ok_guess_part h5) (by kernel_rfl) (by kernel_rfl) (by kernel_rfl)) (by kernel_rfl) (sh 1 [(4, aU x4)] (by kernel_rfl) (fin [(4, aU x4)] rfl (by kernel_rfl) (wp_ret ?_)))
   obtain rfl := Option.some.inj hm
   exact ⟨trivial, by kernel_rfl⟩
theorem ok_guess_Rows {n : Nat} {a0 : (Option (List stat_Stat))} {a1 : Int} {r : Int} (hm : guess_Rows n a0 a1 = some r) :
    call G n 43 [.pv (encSl R_stat_Stat a0), aI a1] [] = some (.ret (aU r), []) := by
  unfold guess_Rows at hm
  obtain ⟨n, rfl, h0⟩ := at1_some hm
  replace hm := h0; clear h0
  refine callL 19 [(0, .pv (encSl R_stat_Stat a0)), (1, aI a1)] func43 rfl (by kernel_rfl) (sq (detn [(0, .pv (encSl R_stat_Stat a0)), (1, aI a1)] (by kernel_rfl) ?_))
  refine sq (sq (rg (sh 3 [(7, aB (decide (a1 < 0))), (6, aB (decide (a1 < 0))), (5, aI a1)] (by kernel_rfl) ?_)))
  refine seg (decide (a1 < 0)) [7, 6] (fun b => [(12, aB (b || (decide (a1 ≥ ((sll a0).length : Int))))), (11, ifA b (.undef) (aB (decide (a1 ≥ ((sll a0).length : Int))))), (10, ifA b (.undef) (aI ((sll a0).length : Int))), (9, ifA b (.undef) (.pv (encSl R_stat_Stat a0))), (8, ifA b (.undef) (aI a1))]) 8 (by kernel_rfl) ?_ ?_ ?_
  ·
   intro Q h
   refine sh 5 [(12, aB true), (11, .undef), (10, .undef), (9, .undef), (8, .undef)] (by kernel_rfl) ?_
   exact sameN (by kernel_rfl) (by kernel_rfl) h
  ·
   intro Q h
   refine sh 2 [(9, .pv (encSl R_stat_Stat a0)), (8, aI a1)] (by kernel_rfl) (dv 10 (v := aI ((sll a0).length : Int)) (len_slO R_stat_Stat a0 t48 (by kernel_rfl)) (by kernel_rfl) (sh 2 [(12, aB (decide (a1 ≥ ((sll a0).length : Int)))), (11, aB (decide (a1 ≥ ((sll a0).length : Int))))] (by kernel_rfl) ?_))
   exact sameN (by kernel_rfl) (by kernel_rfl) h
  refine fin [(0, .pv (encSl R_stat_Stat a0)), (1, aI a1), (12, aB ((decide (a1 < 0)) || (decide (a1 ≥ ((sll a0).length : Int)))))] rfl (by kernel_rfl) ?_
  rcases bif_some hm with ⟨h1, hm⟩ | ⟨h1, hm⟩
  ·
   refine ct h1 (by kernel_rfl) (sq (detn [(4, aU 0)] (by kernel_rfl) (wp_ret ?_)))
   obtain rfl := Option.some.inj hm
   exact ⟨trivial, by kernel_rfl⟩
  ·
   refine cf h1 (by kernel_rfl) (wp_skip (sq (rg (sh 2 [(14, aI a1), (13, .pv (encSl R_stat_Stat a0))] (by kernel_rfl) ?_))))
   obtain ⟨x2, h3, hm⟩ := bs hm
   refine dv 15 (v := .pv (.ptr (R_stat_Stat x2) 0)) (ia_slO R_stat_Stat a0 .i64 t48 t93 h3 rfl (by kernel_rfl)) (by kernel_rfl) (sh 2 [(17, aI x2.fRows), (16, .pv (.ptr (R_stat_Stat x2) 0))] (by kernel_rfl) ?_)
   obtain ⟨x4, h5, hm⟩ := bs hm
   refine dv 18 (cpure (by kernel_rfl) (ok_guess_natural h5) (by kernel_rfl) (by kernel_rfl) (by kernel_rfl)) (by kernel_rfl) (sh 1 [(4, aU x4)] (by kernel_rfl) (fin [(4, aU x4)] rfl (by kernel_rfl) (wp_ret ?_)))
   obtain rfl := Option.some.inj hm
   exact ⟨trivial, by kernel_rfl⟩
theorem ok_fixed_Mul {n : Nat} {a0 : Int} {a1 : Int} {r : Int} (hm : fixed_Mul n a0 a1 = some r) :
    call G n 49 [aU a0, aU a1] [] = some (.ret (aU r), []) := by
  unfold fixed_Mul at hm
  obtain ⟨n, rfl, h0⟩ := at1_some hm
  replace hm := h0; clear h0
  refine callL 16 [(0, aU a0), (1, aU a1)] func49 rfl (by kernel_rfl) (sq (detn [(0, aU a0), (1, aU a1)] (by kernel_rfl) (sq (rg (sh 2 [(9, aU a1), (8, aU a0)] (by kernel_rfl) ?_)))))
  obtain ⟨x1, h2, hm⟩ := bs hm
  refine dv 10 (cpure (by kernel_rfl) (ok_math_bits_Mul64 h2) (by kernel_rfl) (by kernel_rfl) (by kernel_rfl)) (by kernel_rfl) (sh 5 [(6, aU x1.2), (5, aU x1.1), (12, aU x1.2), (11, aU x1.1), (7, .tup [aU x1.1, aU x1.2])] (by kernel_rfl) (fin [(5, aU x1.1), (6, aU x1.2)] rfl (by kernel_rfl) (sq (rg (sh 2 [(14, aU x1.1), (13, aU x1.2)] (by kernel_rfl) ?_)))))
  obtain ⟨x3, h4, hm⟩ := bs hm
  refine dv 15 (cpure (by kernel_rfl) (ok_fixed_capped_uint64 h4) (by kernel_rfl) (by kernel_rfl) (by kernel_rfl)) (by kernel_rfl) (sh 1 [(4, aU x3)] (by kernel_rfl) (fin [(4, aU x3)] rfl (by kernel_rfl) (wp_ret ?_)))
  obtain rfl := Option.some.inj hm
  exact ⟨trivial, by kernel_rfl⟩
theorem okf_expr_Rels {rc_expr_Rels : (Nat → api_Expr → Option (Int))} (ih_expr_Rels : ∀ {n : Nat} {a0 : api_Expr} {r : Int} (hm : rc_expr_Rels n a0 = some r), call G n 51 [.agg [aI a0.fKind, aI a0.fRel, aI a0.fCol, aI a0.fConst.fKind, aI a0.fConst.fInt, aF a0.fConst.fFloat, aS a0.fConst.fText, .pv (encSl R_E_api_Expr a0.fKids)]] [] = some (.ret (.pv (.int .u32 r)), [])) {n : Nat} {a0 : api_Expr} {r : Int} (hm : expr_Rels_f rc_expr_Rels n a0 = some r) :
    call G n 51 [.agg [aI a0.fKind, aI a0.fRel, aI a0.fCol, aI a0.fConst.fKind, aI a0.fConst.fInt, aF a0.fConst.fFloat, aS a0.fConst.fText, .pv (encSl R_E_api_Expr a0.fKids)]] [] = some (.ret (.pv (.int .u32 r)), []) := by
  unfold expr_Rels_f at hm
  obtain ⟨n, rfl, h0⟩ := at1_some hm
  replace hm := h0; clear h0
  refine callL 36 [(0, .agg [aI a0.fKind, aI a0.fRel, aI a0.fCol, aI a0.fConst.fKind, aI a0.fConst.fInt, aF a0.fConst.fFloat, aS a0.fConst.fText, .pv (encSl R_E_api_Expr a0.fKids)])] func51 rfl (by kernel_rfl) (sq (det [(1, .ptr 0 0)] [.box [aI a0.fKind, aI a0.fRel, aI a0.fCol, aI a0.fConst.fKind, aI a0.fConst.fInt, aF a0.fConst.fFloat, aS a0.fConst.fText, .pv (encSl R_E_api_Expr a0.fKids)] false] (by kernel_rfl) (sq (detn [(1, .ptr 0 0), (3, .pv (.int .u32 0))] (by kernel_rfl) ?_))))
  obtain ⟨k3, hk3, hm⟩ := withK_some hm
  refine mid (fun t H => (∃ (y2 : Int) (w1 : AV), k3 y2 = some r ∧ t = mk 36 [(1, .ptr 0 0), (3, .pv (.int .u32 y2)), (18, w1)] ∧ H = [.box [aI a0.fKind, aI a0.fRel, aI a0.fCol, aI a0.fConst.fKind, aI a0.fConst.fInt, aF a0.fConst.fFloat, aS a0.fConst.fText, .pv (encSl R_E_api_Expr a0.fKids)] false])) ?_ ?_
  ·
   rintro _ _ ⟨y2, w1, hm, rfl, rfl⟩
   subst hk3
   obtain ⟨k7, hk7, hm⟩ := withK_some hm
   refine mid (fun t H => (∃ (y4 : Int) (y5 : Bool) (y6 : Int), k7 y6 = some r ∧ t = mk 36 [(3, .pv (.int .u32 y6)), (24, .pv (encSl R_E_api_Expr a0.fKids)), (25, aI ((sll a0.fKids).length : Int)), (26, aI y4), (27, aB y5)] ∧ H = [.box [aI a0.fKind, aI a0.fRel, aI a0.fCol, aI a0.fConst.fKind, aI a0.fConst.fInt, aF a0.fConst.fFloat, aS a0.fConst.fText, .pv (encSl R_E_api_Expr a0.fKids)] false])) ?_ ?_
   ·
    rintro _ _ ⟨y4, y5, y6, hm, rfl, rfl⟩
    subst hk7
    refine sq (detn [(2, .pv (.int .u32 y6))] (by kernel_rfl) (wp_ret ?_))
    obtain rfl := Option.some.inj hm
    exact ⟨trivial, by kernel_rfl⟩
   refine sq (rg (sh 2 [(24, .pv (encSl R_E_api_Expr a0.fKids)), (23, .ptr 0 7)] (by kernel_rfl) (dv 25 (v := aI ((sll a0.fKids).length : Int)) (len_slO R_E_api_Expr a0.fKids t23 (by kernel_rfl)) (by kernel_rfl) (sh 1 [(26, aI 0)] (by kernel_rfl) (fin [(3, .pv (.int .u32 y2)), (24, .pv (encSl R_E_api_Expr a0.fKids)), (25, aI ((sll a0.fKids).length : Int)), (26, aI 0)] rfl (by kernel_rfl) (bq ?_))))))
   refine loopF (fun mm t H => (∃ (y10 : Int) (y11 : Int), expr_Rels_l5 n rc_expr_Rels a0 k7 mm y10 y11 = some r ∧ t = mk 36 [(3, .pv (.int .u32 y11)), (24, .pv (encSl R_E_api_Expr a0.fKids)), (25, aI ((sll a0.fKids).length : Int)), (26, aI y10)] ∧ H = [.box [aI a0.fKind, aI a0.fRel, aI a0.fCol, aI a0.fConst.fKind, aI a0.fConst.fInt, aF a0.fConst.fFloat, aS a0.fConst.fText, .pv (encSl R_E_api_Expr a0.fKids)] false])) (⟨0, y2, hm, rfl, rfl⟩) ?_ ?_
   · rintro _ _ ⟨y10, y11, hm, _⟩; exact nomatch hm
   rintro m12 _ _ ⟨y10, y11, hm, rfl, rfl⟩
   simp only [expr_Rels_l5] at hm
   refine sq (detn [(3, .pv (.int .u32 y11)), (24, .pv (encSl R_E_api_Expr a0.fKids)), (25, aI ((sll a0.fKids).length : Int)), (26, aI y10), (27, aB (decide (y10 < ((sll a0.fKids).length : Int))))] (by kernel_rfl) ?_)
   refine sq ?_
   rcases bif_some hm with ⟨h13, hm⟩ | ⟨h13, hm⟩
   ·
    refine ct h13 (by kernel_rfl) (wp_skip (sq (bq (sq (rg ?_)))))
    obtain ⟨x14, h15, hm⟩ := bs hm
    refine dv 28 (v := .pv (.ptr (R_api_Expr (un_api_Expr x14)) 0)) (ia_slE R_E_api_Expr a0.fKids .i64 t23 t44 h15 (R_un_api_Expr x14) rfl (by kernel_rfl)) (by kernel_rfl) (st 3 [(5, .ptr 1 0), (29, .agg [aI ((un_api_Expr x14).fKind), aI ((un_api_Expr x14).fRel), aI ((un_api_Expr x14).fCol), aI (((un_api_Expr x14).fConst).fKind), aI (((un_api_Expr x14).fConst).fInt), aF (((un_api_Expr x14).fConst).fFloat), aS (((un_api_Expr x14).fConst).fText), .pv (encSl R_E_api_Expr ((un_api_Expr x14).fKids))])] [.box [aI a0.fKind, aI a0.fRel, aI a0.fCol, aI a0.fConst.fKind, aI a0.fConst.fInt, aF a0.fConst.fFloat, aS a0.fConst.fText, .pv (encSl R_E_api_Expr a0.fKids)] false, .box [aI ((un_api_Expr x14).fKind), aI ((un_api_Expr x14).fRel), aI ((un_api_Expr x14).fCol), aI (((un_api_Expr x14).fConst).fKind), aI (((un_api_Expr x14).fConst).fInt), aF (((un_api_Expr x14).fConst).fFloat), aS (((un_api_Expr x14).fConst).fText), .pv (encSl R_E_api_Expr ((un_api_Expr x14).fKids))] false] (by kernel_rfl) (fin [(3, .pv (.int .u32 y11)), (5, .ptr 1 0), (24, .pv (encSl R_E_api_Expr a0.fKids)), (25, aI ((sll a0.fKids).length : Int)), (26, aI y10)] rfl (by kernel_rfl) (rg (sh 2 [(31, .agg [aI ((un_api_Expr x14).fKind), aI ((un_api_Expr x14).fRel), aI ((un_api_Expr x14).fCol), aI (((un_api_Expr x14).fConst).fKind), aI (((un_api_Expr x14).fConst).fInt), aF (((un_api_Expr x14).fConst).fFloat), aS (((un_api_Expr x14).fConst).fText), .pv (encSl R_E_api_Expr ((un_api_Expr x14).fKids))]), (30, .pv (.int .u32 y11))] (by kernel_rfl) ?_))))
    obtain ⟨x16, h17, hm⟩ := bs hm
    refine dv 32 (cpure (by kernel_rfl) (ih_expr_Rels h17) (by kernel_rfl) (by kernel_rfl) (by kernel_rfl)) (by kernel_rfl) (sh 2 [(3, .pv (.int .u32 (iOr .u32 y11 x16))), (33, .pv (.int .u32 (iOr .u32 y11 x16)))] (by kernel_rfl) (fin [(3, .pv (.int .u32 (iOr .u32 y11 x16))), (24, .pv (encSl R_E_api_Expr a0.fKids)), (25, aI ((sll a0.fKids).length : Int)), (26, aI y10)] rfl (by kernel_rfl) (detn [(3, .pv (.int .u32 (iOr .u32 y11 x16))), (24, .pv (encSl R_E_api_Expr a0.fKids)), (25, aI ((sll a0.fKids).length : Int)), (26, aI (IntKind.wrap .i64 (y10 + 1)))] (by kernel_rfl) ?_)))
    exact ⟨_, _, tidyL [(3, .pv (.int .u32 (iOr .u32 y11 x16))), (24, .pv (encSl R_E_api_Expr a0.fKids)), (25, aI ((sll a0.fKids).length : Int)), (26, aI (IntKind.wrap .i64 (y10 + 1)))] [.box [aI a0.fKind, aI a0.fRel, aI a0.fCol, aI a0.fConst.fKind, aI a0.fConst.fInt, aF a0.fConst.fFloat, aS a0.fConst.fText, .pv (encSl R_E_api_Expr a0.fKids)] false] (by kernel_rfl), ⟨(IntKind.wrap .i64 (y10 + 1)), (iOr .u32 y11 x16), hm, rfl, rfl⟩⟩
   ·
    refine cf h13 (by kernel_rfl) (wp_exit ?_)
    exact ⟨y10, (decide (y10 < ((sll a0.fKids).length : Int))), y11, hm, rfl, rfl⟩
  refine sq (rg (sh 4 [(9, aB (a0.fKind == 1)), (8, aB (a0.fKind == 1)), (7, aI a0.fKind), (6, .ptr 0 0)] (by kernel_rfl) ?_))
  refine seg (a0.fKind == 1) [9, 8] (fun b => [(13, aB (b && (decide (a0.fRel ≥ 0)))), (12, ifA b (aB (decide (a0.fRel ≥ 0))) (.undef)), (11, ifA b (aI a0.fRel) (.undef)), (10, ifA b (.ptr 0 1) (.undef))]) 8 (by kernel_rfl) ?_ ?_ ?_
  ·
   intro Q h
   refine sh 4 [(13, aB (decide (a0.fRel ≥ 0))), (12, aB (decide (a0.fRel ≥ 0))), (11, aI a0.fRel), (10, .ptr 0 1)] (by kernel_rfl) ?_
   exact sameN (by kernel_rfl) (by kernel_rfl) h
  ·
   intro Q h
   refine sh 4 [(13, aB false), (12, .undef), (11, .undef), (10, .undef)] (by kernel_rfl) ?_
   exact sameN (by kernel_rfl) (by kernel_rfl) h
  refine sh 1 [(14, aB ((a0.fKind == 1) && (decide (a0.fRel ≥ 0))))] (by kernel_rfl) ?_
  refine seg ((a0.fKind == 1) && (decide (a0.fRel ≥ 0))) [14, 13] (fun b => [(18, aB (b && (decide (a0.fRel ≤ 31)))), (17, ifA b (aB (decide (a0.fRel ≤ 31))) (.undef)), (16, ifA b (aI a0.fRel) (.undef)), (15, ifA b (.ptr 0 1) (.undef))]) 13 (by kernel_rfl) ?_ ?_ ?_
  ·
   intro Q h
   refine sh 4 [(18, aB (decide (a0.fRel ≤ 31))), (17, aB (decide (a0.fRel ≤ 31))), (16, aI a0.fRel), (15, .ptr 0 1)] (by kernel_rfl) ?_
   exact sameN (by kernel_rfl) (by kernel_rfl) h
  ·
   intro Q h
   refine sh 4 [(18, aB false), (17, .undef), (16, .undef), (15, .undef)] (by kernel_rfl) ?_
   exact sameN (by kernel_rfl) (by kernel_rfl) h
  refine fin [(1, .ptr 0 0), (3, .pv (.int .u32 0)), (18, aB (((a0.fKind == 1) && (decide (a0.fRel ≥ 0))) && (decide (a0.fRel ≤ 31))))] rfl (by kernel_rfl) ?_
  rcases bif_some hm with ⟨h18, hm⟩ | ⟨h18, hm⟩
  ·
   refine ct h18 (by kernel_rfl) (rg (sh 3 [(21, aU (IntKind.wrap .u64 a0.fRel)), (20, aI a0.fRel), (19, .ptr 0 1)] (by kernel_rfl) ?_))
   obtain ⟨_, h19, hm⟩ := bs hm
   refine dv 22 (v := .pv (.int .u32 (iShl .u32 1 (IntKind.wrap .u64 a0.fRel)))) (shlO h19 (by kernel_rfl)) (by kernel_rfl) (sh 1 [(3, .pv (.int .u32 (iShl .u32 1 (IntKind.wrap .u64 a0.fRel))))] (by kernel_rfl) (fin [(1, .ptr 0 0), (3, .pv (.int .u32 (iShl .u32 1 (IntKind.wrap .u64 a0.fRel))))] rfl (by kernel_rfl) ?_))
   exact ⟨(iShl .u32 1 (IntKind.wrap .u64 a0.fRel)), .any, hm, (mk_same (by kernel_rfl)), rfl⟩
  ·
   refine cf h18 (by kernel_rfl) (wp_skip ?_)
   exact ⟨0, aB (((a0.fKind == 1) && (decide (a0.fRel ≥ 0))) && (decide (a0.fRel ≤ 31))), hm, (mk_same (by kernel_rfl)), rfl⟩
theorem okt_expr_Rels : ∀ (m : Nat), ∀ {n : Nat} {a0 : api_Expr} {r : Int} (hm : expr_Rels_t m n a0 = some r), call G n 51 [.agg [aI a0.fKind, aI a0.fRel, aI a0.fCol, aI a0.fConst.fKind, aI a0.fConst.fInt, aF a0.fConst.fFloat, aS a0.fConst.fText, .pv (encSl R_E_api_Expr a0.fKids)]] [] = some (.ret (.pv (.int .u32 r)), [])
  | 0 => by intros; rename_i hm; exact nomatch hm
  | m + 1 => fun hm =>
    okf_expr_Rels (okt_expr_Rels m) hm
theorem ok_expr_Rels {n : Nat} {a0 : api_Expr} {r : Int} (hm : expr_Rels n a0 = some r) :
    call G n 51 [.agg [aI a0.fKind, aI a0.fRel, aI a0.fCol, aI a0.fConst.fKind, aI a0.fConst.fInt, aF a0.fConst.fFloat, aS a0.fConst.fText, .pv (encSl R_E_api_Expr a0.fKids)]] [] = some (.ret (.pv (.int .u32 r)), []) := okt_expr_Rels n hm
theorem ok_guess_Within {n : Nat} {a0 : (Option (List E_api_Expr))} {a1 : Int} {r : (Option (List Int))} (hm : guess_Within n a0 a1 = some r) :
    call G n 16 [.pv (encSl R_E_api_Expr a0), .pv (.int .u32 a1)] [] = some (.ret (.pv (encSl (rI .i64) r)), []) := by
  unfold guess_Within at hm
  obtain ⟨n, rfl, h0⟩ := at1_some hm
  replace hm := h0; clear h0
  refine callL 37 [(0, .pv (encSl R_E_api_Expr a0)), (1, .pv (.int .u32 a1))] func16 rfl (by kernel_rfl) (sq (detn [(0, .pv (encSl R_E_api_Expr a0)), (1, .pv (.int .u32 a1))] (by kernel_rfl) (sq (detn [(0, .pv (encSl R_E_api_Expr a0)), (1, .pv (.int .u32 a1)), (5, .pv .nils)] (by kernel_rfl) ?_))))
  obtain ⟨k6, hk6, hm⟩ := withK_some hm
  refine mid (fun t H => (∃ (w1 : AV) (w2 : AV), k6 none = some r ∧ t = mk 37 [(1, .pv (.int .u32 a1)), (5, .pv .nils), (9, .pv (encSl R_E_api_Expr a0)), (10, aI ((sll a0).length : Int)), (11, w1), (12, w2)] ∧ H = []) ∨ (∃ (y3 : (List Int)) (w1 : AV) (w2 : AV) (g4 : Nat), k6 (some y3) = some r ∧ t = mk 37 [(1, .pv (.int .u32 a1)), (5, aR 0 1 g4), (9, .pv (encSl R_E_api_Expr a0)), (10, aI ((sll a0).length : Int)), (11, w1), (12, w2)] ∧ H = [bR 3 1 (rI .i64) y3 0 0] ∧ y3.length = g4)) ?_ ?_
  ·
   rintro _ _ (⟨w1, w2, hm, rfl, rfl⟩ | ⟨y3, w1, w2, g4, hm, rfl, rfl, q5⟩)
   ·
    subst hk6
    refine sq (detn [(4, .pv .nils)] (by kernel_rfl) (wp_ret ?_))
    obtain rfl := Option.some.inj hm
    exact ⟨trivial, by kernel_rfl⟩
   ·
    subst hk6
    refine sq (detn [(4, aR 0 1 g4)] (by kernel_rfl) (wp_ret ?_))
    obtain rfl := Option.some.inj hm
    exact ret_pure (v := aR 0 1 g4) trivial rfl (by kernel_rfl) (pA_ref (pur_ref' (n := g4) (id := 0) (l := y3) (R := (rI .i64)) rfl (by omega) (Nat.zero_le _)))
  refine sq (rg (sh 1 [(9, .pv (encSl R_E_api_Expr a0))] (by kernel_rfl) (dv 10 (v := aI ((sll a0).length : Int)) (len_slO R_E_api_Expr a0 t23 (by kernel_rfl)) (by kernel_rfl) (sh 1 [(11, aI 0)] (by kernel_rfl) (fin [(1, .pv (.int .u32 a1)), (5, .pv .nils), (9, .pv (encSl R_E_api_Expr a0)), (10, aI ((sll a0).length : Int)), (11, aI 0)] rfl (by kernel_rfl) (bq ?_))))))
  refine loopF (fun mm t H => (∃ (y14 : Int), guess_Within_l3 n a0 a1 k6 mm y14 none = some r ∧ t = mk 37 [(1, .pv (.int .u32 a1)), (5, .pv .nils), (9, .pv (encSl R_E_api_Expr a0)), (10, aI ((sll a0).length : Int)), (11, aI y14)] ∧ H = []) ∨ (∃ (y14 : Int) (y15 : (List Int)) (g16 : Nat), guess_Within_l3 n a0 a1 k6 mm y14 (some y15) = some r ∧ t = mk 37 [(1, .pv (.int .u32 a1)), (5, aR 0 1 g16), (9, .pv (encSl R_E_api_Expr a0)), (10, aI ((sll a0).length : Int)), (11, aI y14)] ∧ H = [bR 3 1 (rI .i64) y15 0 0] ∧ y15.length = g16)) (.inl ⟨0, hm, rfl, rfl⟩) ?_ ?_
  · rintro _ _ (⟨y14, hm, _⟩ | ⟨y14, y15, g16, hm, _⟩) <;> exact nomatch hm
  rintro m18 _ _ (⟨y14, hm, rfl, rfl⟩ | ⟨y14, y15, g16, hm, rfl, rfl, q17⟩)
  ·
   simp only [guess_Within_l3] at hm
   refine sq (detn [(1, .pv (.int .u32 a1)), (5, .pv .nils), (9, .pv (encSl R_E_api_Expr a0)), (10, aI ((sll a0).length : Int)), (11, aI y14), (12, aB (decide (y14 < ((sll a0).length : Int))))] (by kernel_rfl) ?_)
   refine sq ?_
   rcases bif_some hm with ⟨h19, hm⟩ | ⟨h19, hm⟩
   ·
    refine ct h19 (by kernel_rfl) (wp_skip (sq (bq (sq (rg (sh 1 [(13, aI y14)] (by kernel_rfl) ?_))))))
    obtain ⟨x20, h21, hm⟩ := bs hm
    refine dv 14 (v := .pv (.ptr (R_api_Expr (un_api_Expr x20)) 0)) (ia_slE R_E_api_Expr a0 .i64 t23 t44 h21 (R_un_api_Expr x20) rfl (by kernel_rfl)) (by kernel_rfl) (st 4 [(6, aI y14), (7, .ptr 0 0), (15, .agg [aI ((un_api_Expr x20).fKind), aI ((un_api_Expr x20).fRel), aI ((un_api_Expr x20).fCol), aI (((un_api_Expr x20).fConst).fKind), aI (((un_api_Expr x20).fConst).fInt), aF (((un_api_Expr x20).fConst).fFloat), aS (((un_api_Expr x20).fConst).fText), .pv (encSl R_E_api_Expr ((un_api_Expr x20).fKids))])] [.box [aI ((un_api_Expr x20).fKind), aI ((un_api_Expr x20).fRel), aI ((un_api_Expr x20).fCol), aI (((un_api_Expr x20).fConst).fKind), aI (((un_api_Expr x20).fConst).fInt), aF (((un_api_Expr x20).fConst).fFloat), aS (((un_api_Expr x20).fConst).fText), .pv (encSl R_E_api_Expr ((un_api_Expr x20).fKids))] false] (by kernel_rfl) (fin [(1, .pv (.int .u32 a1)), (5, .pv .nils), (6, aI y14), (7, .ptr 0 0), (9, .pv (encSl R_E_api_Expr a0)), (10, aI ((sll a0).length : Int)), (11, aI y14)] rfl (by kernel_rfl) (sq (rg (sh 1 [(16, .agg [aI ((un_api_Expr x20).fKind), aI ((un_api_Expr x20).fRel), aI ((un_api_Expr x20).fCol), aI (((un_api_Expr x20).fConst).fKind), aI (((un_api_Expr x20).fConst).fInt), aF (((un_api_Expr x20).fConst).fFloat), aS (((un_api_Expr x20).fConst).fText), .pv (encSl R_E_api_Expr ((un_api_Expr x20).fKids))])] (by kernel_rfl) ?_)))))
    obtain ⟨x22, h23, hm⟩ := bs hm
    refine dv 17 (cpure (by kernel_rfl) (ok_expr_Rels h23) (by kernel_rfl) (by kernel_rfl) (by kernel_rfl)) (by kernel_rfl) (sh 1 [(8, .pv (.int .u32 x22))] (by kernel_rfl) (fin [(1, .pv (.int .u32 a1)), (5, .pv .nils), (6, aI y14), (8, .pv (.int .u32 x22)), (9, .pv (encSl R_E_api_Expr a0)), (10, aI ((sll a0).length : Int)), (11, aI y14)] rfl (by kernel_rfl) (sq (rg (sh 5 [(22, aB ((iAndNot .u32 x22 a1) == 0)), (21, aB ((iAndNot .u32 x22 a1) == 0)), (20, .pv (.int .u32 (iAndNot .u32 x22 a1))), (19, .pv (.int .u32 a1)), (18, .pv (.int .u32 x22))] (by kernel_rfl) ?_)))))
    refine seg ((iAndNot .u32 x22 a1) == 0) [22, 21] (fun b => [(30, aB (b && ((x22 != 0) || ((iAnd .u32 a1 1) == 1)))), (29, ifA b (aB ((x22 != 0) || ((iAnd .u32 a1 1) == 1))) (.undef)), (28, ifA b (ifA (x22 != 0) (.undef) (aB ((iAnd .u32 a1 1) == 1))) (.undef)), (27, ifA b (ifA (x22 != 0) (.undef) (.pv (.int .u32 (iAnd .u32 a1 1)))) (.undef)), (26, ifA b (ifA (x22 != 0) (.undef) (.pv (.int .u32 a1))) (.undef)), (25, ifA b (aB (x22 != 0)) (.undef)), (24, ifA b (aB (x22 != 0)) (.undef)), (23, ifA b (.pv (.int .u32 x22)) (.undef))]) 13 (by kernel_rfl) ?_ ?_ ?_
    ·
     intro Q h
     refine sh 3 [(25, aB (x22 != 0)), (24, aB (x22 != 0)), (23, .pv (.int .u32 x22))] (by kernel_rfl) ?_
     refine seg (x22 != 0) [25, 24] (fun b => [(29, aB (b || ((iAnd .u32 a1 1) == 1))), (28, ifA b (.undef) (aB ((iAnd .u32 a1 1) == 1))), (27, ifA b (.undef) (.pv (.int .u32 (iAnd .u32 a1 1)))), (26, ifA b (.undef) (.pv (.int .u32 a1)))]) 12 (by kernel_rfl) ?_ ?_ ?_
     ·
      intro Q h
      refine sh 4 [(29, aB true), (28, .undef), (27, .undef), (26, .undef)] (by kernel_rfl) ?_
      exact sameN (by kernel_rfl) (by kernel_rfl) h
     ·
      intro Q h
      refine sh 4 [(29, aB ((iAnd .u32 a1 1) == 1)), (28, aB ((iAnd .u32 a1 1) == 1)), (27, .pv (.int .u32 (iAnd .u32 a1 1))), (26, .pv (.int .u32 a1))] (by kernel_rfl) ?_
      exact sameN (by kernel_rfl) (by kernel_rfl) h
     refine sh 1 [(30, aB ((x22 != 0) || ((iAnd .u32 a1 1) == 1)))] (by kernel_rfl) ?_
     exact sameN (by kernel_rfl) (by kernel_rfl) h
    ·
     intro Q h
     refine sh 8 [(30, aB false), (29, .undef), (28, .undef), (27, .undef), (26, .undef), (25, .undef), (24, .undef), (23, .undef)] (by kernel_rfl) ?_
     exact sameN (by kernel_rfl) (by kernel_rfl) h
    refine fin [(1, .pv (.int .u32 a1)), (5, .pv .nils), (6, aI y14), (9, .pv (encSl R_E_api_Expr a0)), (10, aI ((sll a0).length : Int)), (11, aI y14), (30, aB (((iAndNot .u32 x22 a1) == 0) && ((x22 != 0) || ((iAnd .u32 a1 1) == 1))))] rfl (by kernel_rfl) ?_
    rcases bif_some hm with ⟨h24, hm⟩ | ⟨h24, hm⟩
    ·
     refine ct h24 (by kernel_rfl) (rg (st 3 [(33, aR 1 1 1), (32, aI y14), (31, .pv .nils)] [.box [aI ((un_api_Expr x20).fKind), aI ((un_api_Expr x20).fRel), aI ((un_api_Expr x20).fCol), aI (((un_api_Expr x20).fConst).fKind), aI (((un_api_Expr x20).fConst).fInt), aF (((un_api_Expr x20).fConst).fFloat), aS (((un_api_Expr x20).fConst).fText), .pv (encSl R_E_api_Expr ((un_api_Expr x20).fKids))] false, bR 3 1 (rI .i64) ([y14] : List Int) 0 0] (by kernel_rfl) ?_))
     obtain ⟨_, h25, hm⟩ := bs hm
     refine dO [(34, aR 2 1 (([y14] : List Int).length))] [.box [aI ((un_api_Expr x20).fKind), aI ((un_api_Expr x20).fRel), aI ((un_api_Expr x20).fCol), aI (((un_api_Expr x20).fConst).fKind), aI (((un_api_Expr x20).fConst).fInt), aF (((un_api_Expr x20).fConst).fFloat), aS (((un_api_Expr x20).fConst).fText), .pv (encSl R_E_api_Expr ((un_api_Expr x20).fKids))] false, bR 3 1 (rI .i64) ([y14] : List Int) 0 0, bR 3 1 (rI .i64) ([y14] : List Int) 0 0] (app_nilO (u := 0) (rI .i64) ([y14] : List Int) (b := 8) t31 t3 rfl rfl rfl (fun _ => rfl) rfl h25 (show srcRows (aR 1 1 1) _ = some (([y14] : List Int).map (rI .i64)) from by kernel_rfl) (by kernel_rfl)) (by kernel_rfl) (sh 1 [(5, aR 2 1 (([y14] : List Int).length))] (by kernel_rfl) (fin [(1, .pv (.int .u32 a1)), (5, aR 2 1 (([y14] : List Int).length)), (9, .pv (encSl R_E_api_Expr a0)), (10, aI ((sll a0).length : Int)), (11, aI y14)] rfl (by kernel_rfl) (detn [(1, .pv (.int .u32 a1)), (5, aR 2 1 (([y14] : List Int).length)), (9, .pv (encSl R_E_api_Expr a0)), (10, aI ((sll a0).length : Int)), (11, aI (IntKind.wrap .i64 (y14 + 1)))] (by kernel_rfl) ?_)))
     exact ⟨_, _, tidyL [(1, .pv (.int .u32 a1)), (5, aR 0 1 (([y14] : List Int).length)), (9, .pv (encSl R_E_api_Expr a0)), (10, aI ((sll a0).length : Int)), (11, aI (IntKind.wrap .i64 (y14 + 1)))] [bR 3 1 (rI .i64) ([y14] : List Int) 0 0] (by kernel_rfl), .inr (⟨(IntKind.wrap .i64 (y14 + 1)), ([y14] : List Int), ([y14] : List Int).length, hm, rfl, rfl, (by first | rfl | assumption | omega | (simp only [List.length_set, List.length_append, List.length_cons, List.length_nil, List.length_replicate, List.length_drop] at * <;> omega))⟩)⟩
    ·
     refine cf h24 (by kernel_rfl) (wp_skip (detn [(1, .pv (.int .u32 a1)), (5, .pv .nils), (9, .pv (encSl R_E_api_Expr a0)), (10, aI ((sll a0).length : Int)), (11, aI (IntKind.wrap .i64 (y14 + 1)))] (by kernel_rfl) ?_))
     exact ⟨_, _, tidyL [(1, .pv (.int .u32 a1)), (5, .pv .nils), (9, .pv (encSl R_E_api_Expr a0)), (10, aI ((sll a0).length : Int)), (11, aI (IntKind.wrap .i64 (y14 + 1)))] [] (by kernel_rfl), .inl ⟨(IntKind.wrap .i64 (y14 + 1)), hm, rfl, rfl⟩⟩
   ·
    refine cf h19 (by kernel_rfl) (wp_exit ?_)
    exact .inl ⟨aI y14, aB (decide (y14 < ((sll a0).length : Int))), hm, (mk_same (by kernel_rfl)), rfl⟩
  ·
   simp only [guess_Within_l3] at hm
   refine sq (detn [(1, .pv (.int .u32 a1)), (5, aR 0 1 g16), (9, .pv (encSl R_E_api_Expr a0)), (10, aI ((sll a0).length : Int)), (11, aI y14), (12, aB (decide (y14 < ((sll a0).length : Int))))] (by kernel_rfl) ?_)
   refine sq ?_
   rcases bif_some hm with ⟨h26, hm⟩ | ⟨h26, hm⟩
   ·
    refine ct h26 (by kernel_rfl) (wp_skip (sq (bq (sq (rg (sh 1 [(13, aI y14)] (by kernel_rfl) ?_))))))
    obtain ⟨x27, h28, hm⟩ := bs hm
    refine dv 14 (v := .pv (.ptr (R_api_Expr (un_api_Expr x27)) 0)) (ia_slE R_E_api_Expr a0 .i64 t23 t44 h28 (R_un_api_Expr x27) rfl (by kernel_rfl)) (by kernel_rfl) (st 4 [(6, aI y14), (7, .ptr 1 0), (15, .agg [aI ((un_api_Expr x27).fKind), aI ((un_api_Expr x27).fRel), aI ((un_api_Expr x27).fCol), aI (((un_api_Expr x27).fConst).fKind), aI (((un_api_Expr x27).fConst).fInt), aF (((un_api_Expr x27).fConst).fFloat), aS (((un_api_Expr x27).fConst).fText), .pv (encSl R_E_api_Expr ((un_api_Expr x27).fKids))])] [bR 3 1 (rI .i64) y15 0 0, .box [aI ((un_api_Expr x27).fKind), aI ((un_api_Expr x27).fRel), aI ((un_api_Expr x27).fCol), aI (((un_api_Expr x27).fConst).fKind), aI (((un_api_Expr x27).fConst).fInt), aF (((un_api_Expr x27).fConst).fFloat), aS (((un_api_Expr x27).fConst).fText), .pv (encSl R_E_api_Expr ((un_api_Expr x27).fKids))] false] (by kernel_rfl) (fin [(1, .pv (.int .u32 a1)), (5, aR 0 1 g16), (6, aI y14), (7, .ptr 1 0), (9, .pv (encSl R_E_api_Expr a0)), (10, aI ((sll a0).length : Int)), (11, aI y14)] rfl (by kernel_rfl) (sq (rg (sh 1 [(16, .agg [aI ((un_api_Expr x27).fKind), aI ((un_api_Expr x27).fRel), aI ((un_api_Expr x27).fCol), aI (((un_api_Expr x27).fConst).fKind), aI (((un_api_Expr x27).fConst).fInt), aF (((un_api_Expr x27).fConst).fFloat), aS (((un_api_Expr x27).fConst).fText), .pv (encSl R_E_api_Expr ((un_api_Expr x27).fKids))])] (by kernel_rfl) ?_)))))
    obtain ⟨x29, h30, hm⟩ := bs hm
    refine dv 17 (cpure (by kernel_rfl) (ok_expr_Rels h30) (by kernel_rfl) (by kernel_rfl) (by kernel_rfl)) (by kernel_rfl) (sh 1 [(8, .pv (.int .u32 x29))] (by kernel_rfl) (fin [(1, .pv (.int .u32 a1)), (5, aR 0 1 g16), (6, aI y14), (8, .pv (.int .u32 x29)), (9, .pv (encSl R_E_api_Expr a0)), (10, aI ((sll a0).length : Int)), (11, aI y14)] rfl (by kernel_rfl) (sq (rg (sh 5 [(22, aB ((iAndNot .u32 x29 a1) == 0)), (21, aB ((iAndNot .u32 x29 a1) == 0)), (20, .pv (.int .u32 (iAndNot .u32 x29 a1))), (19, .pv (.int .u32 a1)), (18, .pv (.int .u32 x29))] (by kernel_rfl) ?_)))))
    refine seg ((iAndNot .u32 x29 a1) == 0) [22, 21] (fun b => [(30, aB (b && ((x29 != 0) || ((iAnd .u32 a1 1) == 1)))), (29, ifA b (aB ((x29 != 0) || ((iAnd .u32 a1 1) == 1))) (.undef)), (28, ifA b (ifA (x29 != 0) (.undef) (aB ((iAnd .u32 a1 1) == 1))) (.undef)), (27, ifA b (ifA (x29 != 0) (.undef) (.pv (.int .u32 (iAnd .u32 a1 1)))) (.undef)), (26, ifA b (ifA (x29 != 0) (.undef) (.pv (.int .u32 a1))) (.undef)), (25, ifA b (aB (x29 != 0)) (.undef)), (24, ifA b (aB (x29 != 0)) (.undef)), (23, ifA b (.pv (.int .u32 x29)) (.undef))]) 13 (by kernel_rfl) ?_ ?_ ?_
    ·
     intro Q h
     refine sh 3 [(25, aB (x29 != 0)), (24, aB (x29 != 0)), (23, .pv (.int .u32 x29))] (by kernel_rfl) ?_
     refine seg (x29 != 0) [25, 24] (fun b => [(29, aB (b || ((iAnd .u32 a1 1) == 1))), (28, ifA b (.undef) (aB ((iAnd .u32 a1 1) == 1))), (27, ifA b (.undef) (.pv (.int .u32 (iAnd .u32 a1 1)))), (26, ifA b (.undef) (.pv (.int .u32 a1)))]) 12 (by kernel_rfl) ?_ ?_ ?_
     ·
      intro Q h
      refine sh 4 [(29, aB true), (28, .undef), (27, .undef), (26, .undef)] (by kernel_rfl) ?_
      exact sameN (by kernel_rfl) (by kernel_rfl) h
     ·
      intro Q h
      refine sh 4 [(29, aB ((iAnd .u32 a1 1) == 1)), (28, aB ((iAnd .u32 a1 1) == 1)), (27, .pv (.int .u32 (iAnd .u32 a1 1))), (26, .pv (.int .u32 a1))] (by kernel_rfl) ?_
      exact sameN (by kernel_rfl) (by kernel_rfl) h
     refine sh 1 [(30, aB ((x29 != 0) || ((iAnd .u32 a1 1) == 1)))] (by kernel_rfl) ?_
     exact sameN (by kernel_rfl) (by kernel_rfl) h
    ·
     intro Q h
     refine sh 8 [(30, aB false), (29, .undef), (28, .undef), (27, .undef), (26, .undef), (25, .undef), (24, .undef), (23, .undef)] (by kernel_rfl) ?_
     exact sameN (by kernel_rfl) (by kernel_rfl) h
    refine fin [(1, .pv (.int .u32 a1)), (5, aR 0 1 g16), (6, aI y14), (9, .pv (encSl R_E_api_Expr a0)), (10, aI ((sll a0).length : Int)), (11, aI y14), (30, aB (((iAndNot .u32 x29 a1) == 0) && ((x29 != 0) || ((iAnd .u32 a1 1) == 1))))] rfl (by kernel_rfl) ?_
    rcases bif_some hm with ⟨h31, hm⟩ | ⟨h31, hm⟩
    ·
     refine ct h31 (by kernel_rfl) (rg (st 3 [(33, aR 2 1 1), (32, aI y14), (31, aR 0 1 g16)] [bR 3 1 (rI .i64) y15 0 0, .box [aI ((un_api_Expr x27).fKind), aI ((un_api_Expr x27).fRel), aI ((un_api_Expr x27).fCol), aI (((un_api_Expr x27).fConst).fKind), aI (((un_api_Expr x27).fConst).fInt), aF (((un_api_Expr x27).fConst).fFloat), aS (((un_api_Expr x27).fConst).fText), .pv (encSl R_E_api_Expr ((un_api_Expr x27).fKids))] false, bR 3 1 (rI .i64) ([y14] : List Int) 0 0] (by kernel_rfl) ?_))
     obtain ⟨_, h32, hm⟩ := bs hm
     refine dO [(34, aR 0 1 ((y15 ++ ([y14] : List Int)).length))] [bR 3 1 (rI .i64) (y15 ++ ([y14] : List Int)) 0 0, .box [aI ((un_api_Expr x27).fKind), aI ((un_api_Expr x27).fRel), aI ((un_api_Expr x27).fCol), aI (((un_api_Expr x27).fConst).fKind), aI (((un_api_Expr x27).fConst).fInt), aF (((un_api_Expr x27).fConst).fFloat), aS (((un_api_Expr x27).fConst).fText), .pv (encSl R_E_api_Expr ((un_api_Expr x27).fKids))] false, bR 3 1 (rI .i64) ([y14] : List Int) 0 0] (app_refO (u := 0) (n := g16) (id := 0) (rI .i64) y15 ([y14] : List Int) (b := 8) t31 t3 rfl rfl rfl (fun _ => rfl) rfl h32 rfl (by omega) (Nat.zero_le _) (show srcRows (aR 2 1 1) _ = some (([y14] : List Int).map (rI .i64)) from by kernel_rfl) (by kernel_rfl)) (by kernel_rfl) (sh 1 [(5, aR 0 1 ((y15 ++ ([y14] : List Int)).length))] (by kernel_rfl) (fin [(1, .pv (.int .u32 a1)), (5, aR 0 1 ((y15 ++ ([y14] : List Int)).length)), (9, .pv (encSl R_E_api_Expr a0)), (10, aI ((sll a0).length : Int)), (11, aI y14)] rfl (by kernel_rfl) (detn [(1, .pv (.int .u32 a1)), (5, aR 0 1 ((y15 ++ ([y14] : List Int)).length)), (9, .pv (encSl R_E_api_Expr a0)), (10, aI ((sll a0).length : Int)), (11, aI (IntKind.wrap .i64 (y14 + 1)))] (by kernel_rfl) ?_)))
     exact ⟨_, _, tidyL [(1, .pv (.int .u32 a1)), (5, aR 0 1 ((y15 ++ ([y14] : List Int)).length)), (9, .pv (encSl R_E_api_Expr a0)), (10, aI ((sll a0).length : Int)), (11, aI (IntKind.wrap .i64 (y14 + 1)))] [bR 3 1 (rI .i64) (y15 ++ ([y14] : List Int)) 0 0] (by kernel_rfl), .inr (⟨(IntKind.wrap .i64 (y14 + 1)), (y15 ++ ([y14] : List Int)), (y15 ++ ([y14] : List Int)).length, hm, rfl, rfl, (by first | rfl | assumption | omega | (simp only [List.length_set, List.length_append, List.length_cons, List.length_nil, List.length_replicate, List.length_drop] at * <;> omega))⟩)⟩
    ·
     refine cf h31 (by kernel_rfl) (wp_skip (detn [(1, .pv (.int .u32 a1)), (5, aR 0 1 g16), (9, .pv (encSl R_E_api_Expr a0)), (10, aI ((sll a0).length : Int)), (11, aI (IntKind.wrap .i64 (y14 + 1)))] (by kernel_rfl) ?_))
     exact ⟨_, _, tidyL [(1, .pv (.int .u32 a1)), (5, aR 0 1 g16), (9, .pv (encSl R_E_api_Expr a0)), (10, aI ((sll a0).length : Int)), (11, aI (IntKind.wrap .i64 (y14 + 1)))] [bR 3 1 (rI .i64) y15 0 0] (by kernel_rfl), .inr (⟨(IntKind.wrap .i64 (y14 + 1)), y15, g16, hm, rfl, rfl, (by first | rfl | assumption | omega | (simp only [List.length_set, List.length_append, List.length_cons, List.length_nil, List.length_replicate, List.length_drop] at * <;> omega))⟩)⟩
   ·
    refine cf h26 (by kernel_rfl) (wp_exit ?_)
    exact .inr (⟨y15, aI y14, aB (decide (y14 < ((sll a0).length : Int))), g16, hm, (mk_same (by kernel_rfl)), rfl, (by first | rfl | assumption | omega | (simp only [List.length_set, List.length_append, List.length_cons, List.length_nil, List.length_replicate, List.length_drop] at * <;> omega))⟩)
theorem ok_guess_Card {n : Nat} {a0 : (Option (List E_api_Expr))} {a1 : (Option (List stat_Stat))} {a2 : Int} {r : Int} (hm : guess_Card n a0 a1 a2 = some r) :
    call G n 15 [.pv (encSl R_E_api_Expr a0), .pv (encSl R_stat_Stat a1), .pv (.int .u32 a2)] [] = some (.ret (aU r), []) := by
  unfold guess_Card at hm
  obtain ⟨n, rfl, h0⟩ := at1_some hm
  replace hm := h0; clear h0
  refine callL 45 [(0, .pv (encSl R_E_api_Expr a0)), (1, .pv (encSl R_stat_Stat a1)), (2, .pv (.int .u32 a2))] func15 rfl (by kernel_rfl) (sq (detn [(0, .pv (encSl R_E_api_Expr a0)), (1, .pv (encSl R_stat_Stat a1)), (2, .pv (.int .u32 a2))] (by kernel_rfl) (sq (detn [(0, .pv (encSl R_E_api_Expr a0)), (1, .pv (encSl R_stat_Stat a1)), (2, .pv (.int .u32 a2)), (7, aU 256)] (by kernel_rfl) ?_))))
  obtain ⟨k4, hk4, hm⟩ := withK_some hm
  refine mid (fun t H => (∃ (y1 : Int) (y2 : Bool) (y3 : Int), k4 y3 = some r ∧ t = mk 45 [(0, .pv (encSl R_E_api_Expr a0)), (1, .pv (encSl R_stat_Stat a1)), (2, .pv (.int .u32 a2)), (7, aU y3), (11, aI y1), (12, aB y2)] ∧ H = [])) ?_ ?_
  ·
   rintro _ _ ⟨y1, y2, y3, hm, rfl, rfl⟩
   subst hk4
   obtain ⟨k10, hk10, hm⟩ := withK_some hm
   refine mid (fun t H => (∃ (y5 : (Option (List Int))) (y6 : Int) (y7 : Int) (y8 : Bool) (y9 : Int), k10 y9 = some r ∧ t = mk 45 [(0, .pv (encSl R_E_api_Expr a0)), (1, .pv (encSl R_stat_Stat a1)), (7, aU y9), (28, .pv (encSl (rI .i64) y5)), (29, aI y6), (30, aI y7), (31, aB y8)] ∧ H = [])) ?_ ?_
   ·
    rintro _ _ ⟨y5, y6, y7, y8, y9, hm, rfl, rfl⟩
    subst hk10
    refine sq (detn [(6, aU (if 1 > y9 then 1 else y9))] (by kernel_rfl) (wp_ret ?_))
    obtain rfl := Option.some.inj hm
    exact ⟨trivial, by kernel_rfl⟩
   refine sq (rg (sh 2 [(27, .pv (.int .u32 a2)), (26, .pv (encSl R_E_api_Expr a0))] (by kernel_rfl) ?_))
   obtain ⟨x11, h12, hm⟩ := bs hm
   refine dv 28 (cpure (by kernel_rfl) (ok_guess_Within h12) (by kernel_rfl) (by kernel_rfl) (by kernel_rfl)) (by kernel_rfl) (dv 29 (v := aI ((sll x11).length : Int)) (len_slO (rI .i64) x11 t31 (by kernel_rfl)) (by kernel_rfl) (sh 1 [(30, aI 0)] (by kernel_rfl) (fin [(0, .pv (encSl R_E_api_Expr a0)), (1, .pv (encSl R_stat_Stat a1)), (7, aU y3), (28, .pv (encSl (rI .i64) x11)), (29, aI ((sll x11).length : Int)), (30, aI 0)] rfl (by kernel_rfl) (bq ?_))))
   refine loopF (fun mm t H => (∃ (y15 : Int) (y16 : Int), guess_Card_l9 n a0 a1 k10 x11 mm y15 y16 = some r ∧ t = mk 45 [(0, .pv (encSl R_E_api_Expr a0)), (1, .pv (encSl R_stat_Stat a1)), (7, aU y16), (28, .pv (encSl (rI .i64) x11)), (29, aI ((sll x11).length : Int)), (30, aI y15)] ∧ H = [])) (⟨0, y3, hm, rfl, rfl⟩) ?_ ?_
   · rintro _ _ ⟨y15, y16, hm, _⟩; exact nomatch hm
   rintro m17 _ _ ⟨y15, y16, hm, rfl, rfl⟩
   simp only [guess_Card_l9] at hm
   refine sq (detn [(0, .pv (encSl R_E_api_Expr a0)), (1, .pv (encSl R_stat_Stat a1)), (7, aU y16), (28, .pv (encSl (rI .i64) x11)), (29, aI ((sll x11).length : Int)), (30, aI y15), (31, aB (decide (y15 < ((sll x11).length : Int))))] (by kernel_rfl) ?_)
   refine sq ?_
   rcases bif_some hm with ⟨h18, hm⟩ | ⟨h18, hm⟩
   ·
    refine ct h18 (by kernel_rfl) (wp_skip (sq (bq (sq (rg ?_)))))
    obtain ⟨x19, h20, hm⟩ := bs hm
    refine dv 32 (v := .pv (.ptr ((rI .i64) x19) 0)) (ia_slO (rI .i64) x11 .i64 t31 t3 h20 rfl (by kernel_rfl)) (by kernel_rfl) (sh 2 [(10, aI x19), (33, aI x19)] (by kernel_rfl) (fin [(0, .pv (encSl R_E_api_Expr a0)), (1, .pv (encSl R_stat_Stat a1)), (7, aU y16), (10, aI x19), (28, .pv (encSl (rI .i64) x11)), (29, aI ((sll x11).length : Int)), (30, aI y15)] rfl (by kernel_rfl) (rg (sh 3 [(36, aI x19), (35, .pv (encSl R_E_api_Expr a0)), (34, aU y16)] (by kernel_rfl) ?_))))
    obtain ⟨x21, h22, hm⟩ := bs hm
    refine dv 37 (v := .pv (.ptr (R_api_Expr (un_api_Expr x21)) 0)) (ia_slE R_E_api_Expr a0 .i64 t23 t44 h22 (R_un_api_Expr x21) rfl (by kernel_rfl)) (by kernel_rfl) (sh 2 [(39, .pv (encSl R_stat_Stat a1)), (38, .agg [aI ((un_api_Expr x21).fKind), aI ((un_api_Expr x21).fRel), aI ((un_api_Expr x21).fCol), aI (((un_api_Expr x21).fConst).fKind), aI (((un_api_Expr x21).fConst).fInt), aF (((un_api_Expr x21).fConst).fFloat), aS (((un_api_Expr x21).fConst).fText), .pv (encSl R_E_api_Expr ((un_api_Expr x21).fKids))])] (by kernel_rfl) ?_)
    obtain ⟨x23, h24, hm⟩ := bs hm
    refine dv 40 (cpure (by kernel_rfl) (ok_guess_Part h24) (by kernel_rfl) (by kernel_rfl) (by kernel_rfl)) (by kernel_rfl) ?_
    obtain ⟨x25, h26, hm⟩ := bs hm
    refine dv 41 (cpure (by kernel_rfl) (ok_fixed_Scale h26) (by kernel_rfl) (by kernel_rfl) (by kernel_rfl)) (by kernel_rfl) (sh 1 [(7, aU x25)] (by kernel_rfl) (fin [(0, .pv (encSl R_E_api_Expr a0)), (1, .pv (encSl R_stat_Stat a1)), (7, aU x25), (28, .pv (encSl (rI .i64) x11)), (29, aI ((sll x11).length : Int)), (30, aI y15)] rfl (by kernel_rfl) (detn [(0, .pv (encSl R_E_api_Expr a0)), (1, .pv (encSl R_stat_Stat a1)), (7, aU x25), (28, .pv (encSl (rI .i64) x11)), (29, aI ((sll x11).length : Int)), (30, aI (IntKind.wrap .i64 (y15 + 1)))] (by kernel_rfl) ?_)))
    exact ⟨_, _, tidyL [(0, .pv (encSl R_E_api_Expr a0)), (1, .pv (encSl R_stat_Stat a1)), (7, aU x25), (28, .pv (encSl (rI .i64) x11)), (29, aI ((sll x11).length : Int)), (30, aI (IntKind.wrap .i64 (y15 + 1)))] [] (by kernel_rfl), ⟨(IntKind.wrap .i64 (y15 + 1)), x25, hm, rfl, rfl⟩⟩
   ·
    refine cf h18 (by kernel_rfl) (wp_exit ?_)
    exact ⟨x11, ((sll x11).length : Int), y15, (decide (y15 < ((sll x11).length : Int))), y16, hm, rfl, rfl⟩
  refine sq (detn [(0, .pv (encSl R_E_api_Expr a0)), (1, .pv (encSl R_stat_Stat a1)), (2, .pv (.int .u32 a2)), (7, aU 256), (11, aI 0)] (by kernel_rfl) (bq ?_))
  refine loopF (fun mm t H => (∃ (y29 : Int) (y30 : Int), guess_Card_l3 n a1 a2 k4 mm y29 y30 = some r ∧ t = mk 45 [(0, .pv (encSl R_E_api_Expr a0)), (1, .pv (encSl R_stat_Stat a1)), (2, .pv (.int .u32 a2)), (7, aU y30), (11, aI y29)] ∧ H = [])) (⟨0, 256, hm, rfl, rfl⟩) ?_ ?_
  · rintro _ _ ⟨y29, y30, hm, _⟩; exact nomatch hm
  rintro m31 _ _ ⟨y29, y30, hm, rfl, rfl⟩
  simp only [guess_Card_l3] at hm
  refine sq (detn [(0, .pv (encSl R_E_api_Expr a0)), (1, .pv (encSl R_stat_Stat a1)), (2, .pv (.int .u32 a2)), (7, aU y30), (11, aI y29), (12, aB (decide (y29 < 32)))] (by kernel_rfl) ?_)
  refine sq ?_
  rcases bif_some hm with ⟨h32, hm⟩ | ⟨h32, hm⟩
  ·
   refine ct h32 (by kernel_rfl) (wp_skip (sq (bq (sq (detn [(0, .pv (encSl R_E_api_Expr a0)), (1, .pv (encSl R_stat_Stat a1)), (2, .pv (.int .u32 a2)), (7, aU y30), (8, aI y29), (11, aI y29)] (by kernel_rfl) (sq (rg (sh 3 [(16, aU (IntKind.wrap .u64 y29)), (15, aI y29), (14, .pv (.int .u32 a2))] (by kernel_rfl) ?_))))))))
   obtain ⟨_, h33, hm⟩ := bs hm
   refine dv 17 (v := .pv (.int .u32 (iShr .u32 a2 (IntKind.wrap .u64 y29)))) (shrO h33 (by kernel_rfl)) (by kernel_rfl) (sh 2 [(19, aB ((iAnd .u32 (iShr .u32 a2 (IntKind.wrap .u64 y29)) 1) == 1)), (18, .pv (.int .u32 (iAnd .u32 (iShr .u32 a2 (IntKind.wrap .u64 y29)) 1)))] (by kernel_rfl) (fin [(0, .pv (encSl R_E_api_Expr a0)), (1, .pv (encSl R_stat_Stat a1)), (2, .pv (.int .u32 a2)), (7, aU y30), (8, aI y29), (11, aI y29), (19, aB ((iAnd .u32 (iShr .u32 a2 (IntKind.wrap .u64 y29)) 1) == 1))] rfl (by kernel_rfl) ?_))
   rcases bif_some hm with ⟨h34, hm⟩ | ⟨h34, hm⟩
   ·
    refine ct h34 (by kernel_rfl) (rg (sh 3 [(22, aI y29), (21, .pv (encSl R_stat_Stat a1)), (20, aU y30)] (by kernel_rfl) ?_))
    obtain ⟨x35, h36, hm⟩ := bs hm
    refine dv 23 (cpure (by kernel_rfl) (ok_guess_Rows h36) (by kernel_rfl) (by kernel_rfl) (by kernel_rfl)) (by kernel_rfl) ?_
    obtain ⟨x37, h38, hm⟩ := bs hm
    refine dv 24 (cpure (by kernel_rfl) (ok_fixed_Mul h38) (by kernel_rfl) (by kernel_rfl) (by kernel_rfl)) (by kernel_rfl) (sh 1 [(7, aU x37)] (by kernel_rfl) (fin [(0, .pv (encSl R_E_api_Expr a0)), (1, .pv (encSl R_stat_Stat a1)), (2, .pv (.int .u32 a2)), (7, aU x37), (11, aI y29)] rfl (by kernel_rfl) (detn [(0, .pv (encSl R_E_api_Expr a0)), (1, .pv (encSl R_stat_Stat a1)), (2, .pv (.int .u32 a2)), (7, aU x37), (11, aI (IntKind.wrap .i64 (y29 + 1)))] (by kernel_rfl) ?_)))
    exact ⟨_, _, tidyL [(0, .pv (encSl R_E_api_Expr a0)), (1, .pv (encSl R_stat_Stat a1)), (2, .pv (.int .u32 a2)), (7, aU x37), (11, aI (IntKind.wrap .i64 (y29 + 1)))] [] (by kernel_rfl), ⟨(IntKind.wrap .i64 (y29 + 1)), x37, hm, rfl, rfl⟩⟩
   ·
    refine cf h34 (by kernel_rfl) (wp_skip (detn [(0, .pv (encSl R_E_api_Expr a0)), (1, .pv (encSl R_stat_Stat a1)), (2, .pv (.int .u32 a2)), (7, aU y30), (11, aI (IntKind.wrap .i64 (y29 + 1)))] (by kernel_rfl) ?_))
    exact ⟨_, _, tidyL [(0, .pv (encSl R_E_api_Expr a0)), (1, .pv (encSl R_stat_Stat a1)), (2, .pv (.int .u32 a2)), (7, aU y30), (11, aI (IntKind.wrap .i64 (y29 + 1)))] [] (by kernel_rfl), ⟨(IntKind.wrap .i64 (y29 + 1)), y30, hm, rfl, rfl⟩⟩
  ·
   refine cf h32 (by kernel_rfl) (wp_exit ?_)
   exact ⟨y29, (decide (y29 < 32)), y30, hm, rfl, rfl⟩
theorem run_law32_works : call G 3999999 18 [] [] = some (.ret (aB true), []) := by kernel_rfl
theorem ok_law32_works {n : Nat} {r : Bool} (hm : law32_works n = some r) :
    call G n 18 [] [] = some (.ret (aB r), []) := by
  unfold law32_works at hm
  have hn : n = 3999999 := by
    cases h : n == 3999999 with
    | true => exact eq_of_beq h
    | false => rw [h] at hm; cases hm
  subst hn
  have h2 : some true = some r := hm
  obtain rfl := Option.some.inj h2
  exact run_law32_works
theorem okf_law32_bare {rc_law32_bare : (Nat → api_Plan → (Option (List E_api_Expr)) → Option (api_Plan))} (ih_law32_bare : ∀ {n : Nat} {a0 : api_Plan} {a1 : (Option (List E_api_Expr))} {r : api_Plan} (hm : rc_law32_bare n a0 a1 = some r), call G n 19 [.agg [aI a0.fKind, aI a0.fRel, .pv (encSl R_E_api_Expr a0.fWhere), .pv (encSl R_E_api_Expr a0.fLeft), .pv (encSl R_E_api_Expr a0.fRight), .pv (encSl R_E_api_Expr a0.fOut), .pv (encSl R_api_Agg a0.fAggs), .pv (encSl R_api_Key a0.fOrder), .pv (encSl R_E_api_Plan a0.fKids)], .pv (encSl R_E_api_Expr a1)] [] = some (.ret (.agg [aI r.fKind, aI r.fRel, .pv (encSl R_E_api_Expr r.fWhere), .pv (encSl R_E_api_Expr r.fLeft), .pv (encSl R_E_api_Expr r.fRight), .pv (encSl R_E_api_Expr r.fOut), .pv (encSl R_api_Agg r.fAggs), .pv (encSl R_api_Key r.fOrder), .pv (encSl R_E_api_Plan r.fKids)]), [])) {n : Nat} {a0 : api_Plan} {a1 : (Option (List E_api_Expr))} {r : api_Plan} (hm : law32_bare_f rc_law32_bare n a0 a1 = some r) :
    call G n 19 [.agg [aI a0.fKind, aI a0.fRel, .pv (encSl R_E_api_Expr a0.fWhere), .pv (encSl R_E_api_Expr a0.fLeft), .pv (encSl R_E_api_Expr a0.fRight), .pv (encSl R_E_api_Expr a0.fOut), .pv (encSl R_api_Agg a0.fAggs), .pv (encSl R_api_Key a0.fOrder), .pv (encSl R_E_api_Plan a0.fKids)], .pv (encSl R_E_api_Expr a1)] [] = some (.ret (.agg [aI r.fKind, aI r.fRel, .pv (encSl R_E_api_Expr r.fWhere), .pv (encSl R_E_api_Expr r.fLeft), .pv (encSl R_E_api_Expr r.fRight), .pv (encSl R_E_api_Expr r.fOut), .pv (encSl R_api_Agg r.fAggs), .pv (encSl R_api_Key r.fOrder), .pv (encSl R_E_api_Plan r.fKids)]), []) := by
  unfold law32_bare_f at hm
  obtain ⟨n, rfl, h0⟩ := at1_some hm
  replace hm := h0; clear h0
  refine callL 35 [(0, .agg [aI a0.fKind, aI a0.fRel, .pv (encSl R_E_api_Expr a0.fWhere), .pv (encSl R_E_api_Expr a0.fLeft), .pv (encSl R_E_api_Expr a0.fRight), .pv (encSl R_E_api_Expr a0.fOut), .pv (encSl R_api_Agg a0.fAggs), .pv (encSl R_api_Key a0.fOrder), .pv (encSl R_E_api_Plan a0.fKids)]), (1, .pv (encSl R_E_api_Expr a1))] func19 rfl (by kernel_rfl) (sq (det [(1, .pv (encSl R_E_api_Expr a1)), (2, .ptr 0 0), (4, .ptr 1 0)] [.box [aI a0.fKind, aI a0.fRel, .pv (encSl R_E_api_Expr a0.fWhere), .pv (encSl R_E_api_Expr a0.fLeft), .pv (encSl R_E_api_Expr a0.fRight), .pv (encSl R_E_api_Expr a0.fOut), .pv (encSl R_api_Agg a0.fAggs), .pv (encSl R_api_Key a0.fOrder), .pv (encSl R_E_api_Plan a0.fKids)] false, .box [aI 0, aI 0, .pv .nils, .pv .nils, .pv .nils, .pv .nils, .pv .nils, .pv .nils, .pv .nils] false] (by kernel_rfl) ?_))
  obtain ⟨k3, hk3, hm⟩ := withK_some hm
  refine mid (fun t H => (∃ (y2 : (Option (List E_api_Expr))) (w1 : AV), k3 y2 = some r ∧ t = mk 35 [(1, .pv (encSl R_E_api_Expr a1)), (2, .ptr 0 0), (4, .ptr 1 0), (15, w1)] ∧ H = [.box [aI a0.fKind, aI a0.fRel, .pv (encSl R_E_api_Expr y2), .pv (encSl R_E_api_Expr a0.fLeft), .pv (encSl R_E_api_Expr a0.fRight), .pv (encSl R_E_api_Expr a0.fOut), .pv (encSl R_api_Agg a0.fAggs), .pv (encSl R_api_Key a0.fOrder), .pv (encSl R_E_api_Plan a0.fKids)] false, .box [aI 0, aI 0, .pv .nils, .pv .nils, .pv .nils, .pv .nils, .pv .nils, .pv .nils, .pv .nils] false])) ?_ ?_
  ·
   rintro _ _ ⟨y2, w1, hm, rfl, rfl⟩
   subst hk3
   refine sq (detn [(1, .pv (encSl R_E_api_Expr a1)), (2, .ptr 0 0), (4, .ptr 1 0), (5, .pv .nils)] (by kernel_rfl) ?_)
   obtain ⟨k7, hk7, hm⟩ := withK_some hm
   refine mid (fun t H => (∃ (w4 : AV) (w5 : AV), k7 none = some r ∧ t = mk 35 [(1, .pv (encSl R_E_api_Expr a1)), (2, .ptr 0 0), (4, .ptr 1 0), (5, .pv .nils), (19, .pv (encSl R_E_api_Plan a0.fKids)), (20, aI ((sll a0.fKids).length : Int)), (21, w4), (22, w5)] ∧ H = [.box [aI a0.fKind, aI a0.fRel, .pv (encSl R_E_api_Expr y2), .pv (encSl R_E_api_Expr a0.fLeft), .pv (encSl R_E_api_Expr a0.fRight), .pv (encSl R_E_api_Expr a0.fOut), .pv (encSl R_api_Agg a0.fAggs), .pv (encSl R_api_Key a0.fOrder), .pv (encSl R_E_api_Plan a0.fKids)] false, .box [aI 0, aI 0, .pv .nils, .pv .nils, .pv .nils, .pv .nils, .pv .nils, .pv .nils, .pv .nils] false]) ∨ (∃ (y6 : (List E_api_Plan)) (w4 : AV) (w5 : AV), k7 (some y6) = some r ∧ t = mk 35 [(1, .pv (encSl R_E_api_Expr a1)), (2, .ptr 0 0), (4, .ptr 1 0), (5, aR 2 9 y6.length), (19, .pv (encSl R_E_api_Plan a0.fKids)), (20, aI ((sll a0.fKids).length : Int)), (21, w4), (22, w5)] ∧ H = [.box [aI a0.fKind, aI a0.fRel, .pv (encSl R_E_api_Expr y2), .pv (encSl R_E_api_Expr a0.fLeft), .pv (encSl R_E_api_Expr a0.fRight), .pv (encSl R_E_api_Expr a0.fOut), .pv (encSl R_api_Agg a0.fAggs), .pv (encSl R_api_Key a0.fOrder), .pv (encSl R_E_api_Plan a0.fKids)] false, .box [aI 0, aI 0, .pv .nils, .pv .nils, .pv .nils, .pv .nils, .pv .nils, .pv .nils, .pv .nils] false, bR 59 9 R_E_api_Plan y6 0 0])) ?_ ?_
   ·
    rintro _ _ (⟨w4, w5, hm, rfl, rfl⟩ | ⟨y6, w4, w5, hm, rfl, rfl⟩)
    ·
     subst hk7
     refine sq (det [(2, .ptr 0 0), (4, .ptr 1 0)] [.box [aI a0.fKind, aI a0.fRel, .pv (encSl R_E_api_Expr y2), .pv (encSl R_E_api_Expr a0.fLeft), .pv (encSl R_E_api_Expr a0.fRight), .pv (encSl R_E_api_Expr a0.fOut), .pv (encSl R_api_Agg a0.fAggs), .pv (encSl R_api_Key a0.fOrder), .pv .nils] false, .box [aI 0, aI 0, .pv .nils, .pv .nils, .pv .nils, .pv .nils, .pv .nils, .pv .nils, .pv .nils] false] (by kernel_rfl) (sq (det [(4, .ptr 1 0)] [.box [aI a0.fKind, aI a0.fRel, .pv (encSl R_E_api_Expr y2), .pv (encSl R_E_api_Expr a0.fLeft), .pv (encSl R_E_api_Expr a0.fRight), .pv (encSl R_E_api_Expr a0.fOut), .pv (encSl R_api_Agg a0.fAggs), .pv (encSl R_api_Key a0.fOrder), .pv .nils] false, .box [aI a0.fKind, aI a0.fRel, .pv (encSl R_E_api_Expr y2), .pv (encSl R_E_api_Expr a0.fLeft), .pv (encSl R_E_api_Expr a0.fRight), .pv (encSl R_E_api_Expr a0.fOut), .pv (encSl R_api_Agg a0.fAggs), .pv (encSl R_api_Key a0.fOrder), .pv .nils] false] (by kernel_rfl) (wp_ret ?_))))
     obtain rfl := Option.some.inj hm
     exact ⟨trivial, by kernel_rfl⟩
    ·
     subst hk7
     refine sq (det [(2, .ptr 0 0), (4, .ptr 1 0)] [.box [aI a0.fKind, aI a0.fRel, .pv (encSl R_E_api_Expr y2), .pv (encSl R_E_api_Expr a0.fLeft), .pv (encSl R_E_api_Expr a0.fRight), .pv (encSl R_E_api_Expr a0.fOut), .pv (encSl R_api_Agg a0.fAggs), .pv (encSl R_api_Key a0.fOrder), aR 2 9 y6.length] false, .box [aI 0, aI 0, .pv .nils, .pv .nils, .pv .nils, .pv .nils, .pv .nils, .pv .nils, .pv .nils] false, bR 59 9 R_E_api_Plan y6 0 0] (by kernel_rfl) (sq (det [(4, .ptr 1 0)] [.box [aI a0.fKind, aI a0.fRel, .pv (encSl R_E_api_Expr y2), .pv (encSl R_E_api_Expr a0.fLeft), .pv (encSl R_E_api_Expr a0.fRight), .pv (encSl R_E_api_Expr a0.fOut), .pv (encSl R_api_Agg a0.fAggs), .pv (encSl R_api_Key a0.fOrder), aR 2 9 y6.length] false, .box [aI a0.fKind, aI a0.fRel, .pv (encSl R_E_api_Expr y2), .pv (encSl R_E_api_Expr a0.fLeft), .pv (encSl R_E_api_Expr a0.fRight), .pv (encSl R_E_api_Expr a0.fOut), .pv (encSl R_api_Agg a0.fAggs), .pv (encSl R_api_Key a0.fOrder), aR 2 9 y6.length] false, bR 59 9 R_E_api_Plan y6 0 0] (by kernel_rfl) (wp_ret ?_))))
     obtain rfl := Option.some.inj hm
     exact ret_pure (v := .agg [aI a0.fKind, aI a0.fRel, .pv (encSl R_E_api_Expr y2), .pv (encSl R_E_api_Expr a0.fLeft), .pv (encSl R_E_api_Expr a0.fRight), .pv (encSl R_E_api_Expr a0.fOut), .pv (encSl R_api_Agg a0.fAggs), .pv (encSl R_api_Key a0.fOrder), aR 2 9 y6.length]) trivial rfl (by kernel_rfl) (pR_agg (purL_cons (pur_pv) (purL_cons (pur_pv) (purL_cons (pur_pv) (purL_cons (pur_pv) (purL_cons (pur_pv) (purL_cons (pur_pv) (purL_cons (pur_pv) (purL_cons (pur_pv) (purL_cons (pur_ref' (n := y6.length) (id := 2) (l := y6) (R := R_E_api_Plan) rfl rfl (Nat.zero_le _)) (rfl)))))))))) (by kernel_rfl))
   refine sq (rg (sh 2 [(19, .pv (encSl R_E_api_Plan a0.fKids)), (18, .ptr 0 8)] (by kernel_rfl) (dv 20 (v := aI ((sll a0.fKids).length : Int)) (len_slO R_E_api_Plan a0.fKids t57 (by kernel_rfl)) (by kernel_rfl) (sh 1 [(21, aI 0)] (by kernel_rfl) (fin [(1, .pv (encSl R_E_api_Expr a1)), (2, .ptr 0 0), (4, .ptr 1 0), (5, .pv .nils), (19, .pv (encSl R_E_api_Plan a0.fKids)), (20, aI ((sll a0.fKids).length : Int)), (21, aI 0)] rfl (by kernel_rfl) (bq ?_))))))
   refine loopF (fun mm t H => (∃ (y11 : Int), law32_bare_l5 n rc_law32_bare a0 a1 k7 mm y11 none = some r ∧ t = mk 35 [(1, .pv (encSl R_E_api_Expr a1)), (2, .ptr 0 0), (4, .ptr 1 0), (5, .pv .nils), (19, .pv (encSl R_E_api_Plan a0.fKids)), (20, aI ((sll a0.fKids).length : Int)), (21, aI y11)] ∧ H = [.box [aI a0.fKind, aI a0.fRel, .pv (encSl R_E_api_Expr y2), .pv (encSl R_E_api_Expr a0.fLeft), .pv (encSl R_E_api_Expr a0.fRight), .pv (encSl R_E_api_Expr a0.fOut), .pv (encSl R_api_Agg a0.fAggs), .pv (encSl R_api_Key a0.fOrder), .pv (encSl R_E_api_Plan a0.fKids)] false, .box [aI 0, aI 0, .pv .nils, .pv .nils, .pv .nils, .pv .nils, .pv .nils, .pv .nils, .pv .nils] false]) ∨ (∃ (y11 : Int) (y12 : (List E_api_Plan)), law32_bare_l5 n rc_law32_bare a0 a1 k7 mm y11 (some y12) = some r ∧ t = mk 35 [(1, .pv (encSl R_E_api_Expr a1)), (2, .ptr 0 0), (4, .ptr 1 0), (5, aR 2 9 y12.length), (19, .pv (encSl R_E_api_Plan a0.fKids)), (20, aI ((sll a0.fKids).length : Int)), (21, aI y11)] ∧ H = [.box [aI a0.fKind, aI a0.fRel, .pv (encSl R_E_api_Expr y2), .pv (encSl R_E_api_Expr a0.fLeft), .pv (encSl R_E_api_Expr a0.fRight), .pv (encSl R_E_api_Expr a0.fOut), .pv (encSl R_api_Agg a0.fAggs), .pv (encSl R_api_Key a0.fOrder), .pv (encSl R_E_api_Plan a0.fKids)] false, .box [aI 0, aI 0, .pv .nils, .pv .nils, .pv .nils, .pv .nils, .pv .nils, .pv .nils, .pv .nils] false, bR 59 9 R_E_api_Plan y12 0 0])) (.inl ⟨0, hm, rfl, rfl⟩) ?_ ?_
   · rintro _ _ (⟨y11, hm, _⟩ | ⟨y11, y12, hm, _⟩) <;> exact nomatch hm
   rintro m13 _ _ (⟨y11, hm, rfl, rfl⟩ | ⟨y11, y12, hm, rfl, rfl⟩)
   ·
    simp only [law32_bare_l5] at hm
    refine sq (detn [(1, .pv (encSl R_E_api_Expr a1)), (2, .ptr 0 0), (4, .ptr 1 0), (5, .pv .nils), (19, .pv (encSl R_E_api_Plan a0.fKids)), (20, aI ((sll a0.fKids).length : Int)), (21, aI y11), (22, aB (decide (y11 < ((sll a0.fKids).length : Int))))] (by kernel_rfl) ?_)
    refine sq ?_
    rcases bif_some hm with ⟨h14, hm⟩ | ⟨h14, hm⟩
    ·
     refine ct h14 (by kernel_rfl) (wp_skip (sq (bq (sq (rg ?_)))))
     obtain ⟨x15, h16, hm⟩ := bs hm
     refine dv 23 (v := .pv (.ptr (R_api_Plan (un_api_Plan x15)) 0)) (ia_slE R_E_api_Plan a0.fKids .i64 t57 t59 h16 (R_un_api_Plan x15) rfl (by kernel_rfl)) (by kernel_rfl) (st 3 [(7, .ptr 2 0), (24, .agg [aI ((un_api_Plan x15).fKind), aI ((un_api_Plan x15).fRel), .pv (encSl R_E_api_Expr ((un_api_Plan x15).fWhere)), .pv (encSl R_E_api_Expr ((un_api_Plan x15).fLeft)), .pv (encSl R_E_api_Expr ((un_api_Plan x15).fRight)), .pv (encSl R_E_api_Expr ((un_api_Plan x15).fOut)), .pv (encSl R_api_Agg ((un_api_Plan x15).fAggs)), .pv (encSl R_api_Key ((un_api_Plan x15).fOrder)), .pv (encSl R_E_api_Plan ((un_api_Plan x15).fKids))])] [.box [aI a0.fKind, aI a0.fRel, .pv (encSl R_E_api_Expr y2), .pv (encSl R_E_api_Expr a0.fLeft), .pv (encSl R_E_api_Expr a0.fRight), .pv (encSl R_E_api_Expr a0.fOut), .pv (encSl R_api_Agg a0.fAggs), .pv (encSl R_api_Key a0.fOrder), .pv (encSl R_E_api_Plan a0.fKids)] false, .box [aI 0, aI 0, .pv .nils, .pv .nils, .pv .nils, .pv .nils, .pv .nils, .pv .nils, .pv .nils] false, .box [aI ((un_api_Plan x15).fKind), aI ((un_api_Plan x15).fRel), .pv (encSl R_E_api_Expr ((un_api_Plan x15).fWhere)), .pv (encSl R_E_api_Expr ((un_api_Plan x15).fLeft)), .pv (encSl R_E_api_Expr ((un_api_Plan x15).fRight)), .pv (encSl R_E_api_Expr ((un_api_Plan x15).fOut)), .pv (encSl R_api_Agg ((un_api_Plan x15).fAggs)), .pv (encSl R_api_Key ((un_api_Plan x15).fOrder)), .pv (encSl R_E_api_Plan ((un_api_Plan x15).fKids))] false] (by kernel_rfl) (fin [(1, .pv (encSl R_E_api_Expr a1)), (2, .ptr 0 0), (4, .ptr 1 0), (5, .pv .nils), (7, .ptr 2 0), (19, .pv (encSl R_E_api_Plan a0.fKids)), (20, aI ((sll a0.fKids).length : Int)), (21, aI y11)] rfl (by kernel_rfl) (rg (sh 3 [(27, .pv (encSl R_E_api_Expr a1)), (26, .agg [aI ((un_api_Plan x15).fKind), aI ((un_api_Plan x15).fRel), .pv (encSl R_E_api_Expr ((un_api_Plan x15).fWhere)), .pv (encSl R_E_api_Expr ((un_api_Plan x15).fLeft)), .pv (encSl R_E_api_Expr ((un_api_Plan x15).fRight)), .pv (encSl R_E_api_Expr ((un_api_Plan x15).fOut)), .pv (encSl R_api_Agg ((un_api_Plan x15).fAggs)), .pv (encSl R_api_Key ((un_api_Plan x15).fOrder)), .pv (encSl R_E_api_Plan ((un_api_Plan x15).fKids))]), (25, .pv .nils)] (by kernel_rfl) ?_))))
     obtain ⟨x17, h18, hm⟩ := bs hm
     refine dv 28 (cpure (by kernel_rfl) (ih_law32_bare h18) (by kernel_rfl) (by kernel_rfl) (by kernel_rfl)) (by kernel_rfl) (st 1 [(29, aR 3 9 1)] [.box [aI a0.fKind, aI a0.fRel, .pv (encSl R_E_api_Expr y2), .pv (encSl R_E_api_Expr a0.fLeft), .pv (encSl R_E_api_Expr a0.fRight), .pv (encSl R_E_api_Expr a0.fOut), .pv (encSl R_api_Agg a0.fAggs), .pv (encSl R_api_Key a0.fOrder), .pv (encSl R_E_api_Plan a0.fKids)] false, .box [aI 0, aI 0, .pv .nils, .pv .nils, .pv .nils, .pv .nils, .pv .nils, .pv .nils, .pv .nils] false, .box [aI ((un_api_Plan x15).fKind), aI ((un_api_Plan x15).fRel), .pv (encSl R_E_api_Expr ((un_api_Plan x15).fWhere)), .pv (encSl R_E_api_Expr ((un_api_Plan x15).fLeft)), .pv (encSl R_E_api_Expr ((un_api_Plan x15).fRight)), .pv (encSl R_E_api_Expr ((un_api_Plan x15).fOut)), .pv (encSl R_api_Agg ((un_api_Plan x15).fAggs)), .pv (encSl R_api_Key ((un_api_Plan x15).fOrder)), .pv (encSl R_E_api_Plan ((un_api_Plan x15).fKids))] false, bR 59 9 R_E_api_Plan ([(roll_api_Plan x17)] : List E_api_Plan) 0 0] (by kernel_rfl) ?_)
     obtain ⟨_, h19, hm⟩ := bs hm
     refine dO [(30, aR 4 9 (([(roll_api_Plan x17)] : List E_api_Plan).length))] [.box [aI a0.fKind, aI a0.fRel, .pv (encSl R_E_api_Expr y2), .pv (encSl R_E_api_Expr a0.fLeft), .pv (encSl R_E_api_Expr a0.fRight), .pv (encSl R_E_api_Expr a0.fOut), .pv (encSl R_api_Agg a0.fAggs), .pv (encSl R_api_Key a0.fOrder), .pv (encSl R_E_api_Plan a0.fKids)] false, .box [aI 0, aI 0, .pv .nils, .pv .nils, .pv .nils, .pv .nils, .pv .nils, .pv .nils, .pv .nils] false, .box [aI ((un_api_Plan x15).fKind), aI ((un_api_Plan x15).fRel), .pv (encSl R_E_api_Expr ((un_api_Plan x15).fWhere)), .pv (encSl R_E_api_Expr ((un_api_Plan x15).fLeft)), .pv (encSl R_E_api_Expr ((un_api_Plan x15).fRight)), .pv (encSl R_E_api_Expr ((un_api_Plan x15).fOut)), .pv (encSl R_api_Agg ((un_api_Plan x15).fAggs)), .pv (encSl R_api_Key ((un_api_Plan x15).fOrder)), .pv (encSl R_E_api_Plan ((un_api_Plan x15).fKids))] false, bR 59 9 R_E_api_Plan ([(roll_api_Plan x17)] : List E_api_Plan) 0 0, bR 59 9 R_E_api_Plan ([(roll_api_Plan x17)] : List E_api_Plan) 0 0] (app_nilO (u := 0) R_E_api_Plan ([(roll_api_Plan x17)] : List E_api_Plan) (b := 184) t57 t59 rfl rfl rfl len_E_api_Plan rfl h19 (show srcRows (aR 3 9 1) _ = some (([(roll_api_Plan x17)] : List E_api_Plan).map R_E_api_Plan) from by kernel_rfl) (by kernel_rfl)) (by kernel_rfl) (sh 1 [(5, aR 4 9 (([(roll_api_Plan x17)] : List E_api_Plan).length))] (by kernel_rfl) (fin [(1, .pv (encSl R_E_api_Expr a1)), (2, .ptr 0 0), (4, .ptr 1 0), (5, aR 4 9 (([(roll_api_Plan x17)] : List E_api_Plan).length)), (19, .pv (encSl R_E_api_Plan a0.fKids)), (20, aI ((sll a0.fKids).length : Int)), (21, aI y11)] rfl (by kernel_rfl) (detn [(1, .pv (encSl R_E_api_Expr a1)), (2, .ptr 0 0), (4, .ptr 1 0), (5, aR 4 9 (([(roll_api_Plan x17)] : List E_api_Plan).length)), (19, .pv (encSl R_E_api_Plan a0.fKids)), (20, aI ((sll a0.fKids).length : Int)), (21, aI (IntKind.wrap .i64 (y11 + 1)))] (by kernel_rfl) ?_)))
     exact ⟨_, _, tidyL [(1, .pv (encSl R_E_api_Expr a1)), (2, .ptr 0 0), (4, .ptr 1 0), (5, aR 2 9 (([(roll_api_Plan x17)] : List E_api_Plan).length)), (19, .pv (encSl R_E_api_Plan a0.fKids)), (20, aI ((sll a0.fKids).length : Int)), (21, aI (IntKind.wrap .i64 (y11 + 1)))] [.box [aI a0.fKind, aI a0.fRel, .pv (encSl R_E_api_Expr y2), .pv (encSl R_E_api_Expr a0.fLeft), .pv (encSl R_E_api_Expr a0.fRight), .pv (encSl R_E_api_Expr a0.fOut), .pv (encSl R_api_Agg a0.fAggs), .pv (encSl R_api_Key a0.fOrder), .pv (encSl R_E_api_Plan a0.fKids)] false, .box [aI 0, aI 0, .pv .nils, .pv .nils, .pv .nils, .pv .nils, .pv .nils, .pv .nils, .pv .nils] false, bR 59 9 R_E_api_Plan ([(roll_api_Plan x17)] : List E_api_Plan) 0 0] (by kernel_rfl), .inr (⟨(IntKind.wrap .i64 (y11 + 1)), ([(roll_api_Plan x17)] : List E_api_Plan), hm, rfl, rfl⟩)⟩
    ·
     refine cf h14 (by kernel_rfl) (wp_exit ?_)
     exact .inl ⟨aI y11, aB (decide (y11 < ((sll a0.fKids).length : Int))), hm, (mk_same (by kernel_rfl)), rfl⟩
   ·
    simp only [law32_bare_l5] at hm
    refine sq (detn [(1, .pv (encSl R_E_api_Expr a1)), (2, .ptr 0 0), (4, .ptr 1 0), (5, aR 2 9 y12.length), (19, .pv (encSl R_E_api_Plan a0.fKids)), (20, aI ((sll a0.fKids).length : Int)), (21, aI y11), (22, aB (decide (y11 < ((sll a0.fKids).length : Int))))] (by kernel_rfl) ?_)
    refine sq ?_
    rcases bif_some hm with ⟨h20, hm⟩ | ⟨h20, hm⟩
    ·
     refine ct h20 (by kernel_rfl) (wp_skip (sq (bq (sq (rg ?_)))))
     obtain ⟨x21, h22, hm⟩ := bs hm
     refine dv 23 (v := .pv (.ptr (R_api_Plan (un_api_Plan x21)) 0)) (ia_slE R_E_api_Plan a0.fKids .i64 t57 t59 h22 (R_un_api_Plan x21) rfl (by kernel_rfl)) (by kernel_rfl) (st 3 [(7, .ptr 3 0), (24, .agg [aI ((un_api_Plan x21).fKind), aI ((un_api_Plan x21).fRel), .pv (encSl R_E_api_Expr ((un_api_Plan x21).fWhere)), .pv (encSl R_E_api_Expr ((un_api_Plan x21).fLeft)), .pv (encSl R_E_api_Expr ((un_api_Plan x21).fRight)), .pv (encSl R_E_api_Expr ((un_api_Plan x21).fOut)), .pv (encSl R_api_Agg ((un_api_Plan x21).fAggs)), .pv (encSl R_api_Key ((un_api_Plan x21).fOrder)), .pv (encSl R_E_api_Plan ((un_api_Plan x21).fKids))])] [.box [aI a0.fKind, aI a0.fRel, .pv (encSl R_E_api_Expr y2), .pv (encSl R_E_api_Expr a0.fLeft), .pv (encSl R_E_api_Expr a0.fRight), .pv (encSl R_E_api_Expr a0.fOut), .pv (encSl R_api_Agg a0.fAggs), .pv (encSl R_api_Key a0.fOrder), .pv (encSl R_E_api_Plan a0.fKids)] false, .box [aI 0, aI 0, .pv .nils, .pv .nils, .pv .nils, .pv .nils, .pv .nils, .pv .nils, .pv .nils] false, bR 59 9 R_E_api_Plan y12 0 0, .box [aI ((un_api_Plan x21).fKind), aI ((un_api_Plan x21).fRel), .pv (encSl R_E_api_Expr ((un_api_Plan x21).fWhere)), .pv (encSl R_E_api_Expr ((un_api_Plan x21).fLeft)), .pv (encSl R_E_api_Expr ((un_api_Plan x21).fRight)), .pv (encSl R_E_api_Expr ((un_api_Plan x21).fOut)), .pv (encSl R_api_Agg ((un_api_Plan x21).fAggs)), .pv (encSl R_api_Key ((un_api_Plan x21).fOrder)), .pv (encSl R_E_api_Plan ((un_api_Plan x21).fKids))] false] (by kernel_rfl) (fin [(1, .pv (encSl R_E_api_Expr a1)), (2, .ptr 0 0), (4, .ptr 1 0), (5, aR 2 9 y12.length), (7, .ptr 3 0), (19, .pv (encSl R_E_api_Plan a0.fKids)), (20, aI ((sll a0.fKids).length : Int)), (21, aI y11)] rfl (by kernel_rfl) (rg (sh 3 [(27, .pv (encSl R_E_api_Expr a1)), (26, .agg [aI ((un_api_Plan x21).fKind), aI ((un_api_Plan x21).fRel), .pv (encSl R_E_api_Expr ((un_api_Plan x21).fWhere)), .pv (encSl R_E_api_Expr ((un_api_Plan x21).fLeft)), .pv (encSl R_E_api_Expr ((un_api_Plan x21).fRight)), .pv (encSl R_E_api_Expr ((un_api_Plan x21).fOut)), .pv (encSl R_api_Agg ((un_api_Plan x21).fAggs)), .pv (encSl R_api_Key ((un_api_Plan x21).fOrder)), .pv (encSl R_E_api_Plan ((un_api_Plan x21).fKids))]), (25, aR 2 9 y12.length)] (by kernel_rfl) ?_))))
     obtain ⟨x23, h24, hm⟩ := bs hm
     refine dv 28 (cpure (by kernel_rfl) (ih_law32_bare h24) (by kernel_rfl) (by kernel_rfl) (by kernel_rfl)) (by kernel_rfl) (st 1 [(29, aR 4 9 1)] [.box [aI a0.fKind, aI a0.fRel, .pv (encSl R_E_api_Expr y2), .pv (encSl R_E_api_Expr a0.fLeft), .pv (encSl R_E_api_Expr a0.fRight), .pv (encSl R_E_api_Expr a0.fOut), .pv (encSl R_api_Agg a0.fAggs), .pv (encSl R_api_Key a0.fOrder), .pv (encSl R_E_api_Plan a0.fKids)] false, .box [aI 0, aI 0, .pv .nils, .pv .nils, .pv .nils, .pv .nils, .pv .nils, .pv .nils, .pv .nils] false, bR 59 9 R_E_api_Plan y12 0 0, .box [aI ((un_api_Plan x21).fKind), aI ((un_api_Plan x21).fRel), .pv (encSl R_E_api_Expr ((un_api_Plan x21).fWhere)), .pv (encSl R_E_api_Expr ((un_api_Plan x21).fLeft)), .pv (encSl R_E_api_Expr ((un_api_Plan x21).fRight)), .pv (encSl R_E_api_Expr ((un_api_Plan x21).fOut)), .pv (encSl R_api_Agg ((un_api_Plan x21).fAggs)), .pv (encSl R_api_Key ((un_api_Plan x21).fOrder)), .pv (encSl R_E_api_Plan ((un_api_Plan x21).fKids))] false, bR 59 9 R_E_api_Plan ([(roll_api_Plan x23)] : List E_api_Plan) 0 0] (by kernel_rfl) ?_)
     obtain ⟨_, h25, hm⟩ := bs hm
     refine dO [(30, aR 2 9 ((y12 ++ ([(roll_api_Plan x23)] : List E_api_Plan)).length))] [.box [aI a0.fKind, aI a0.fRel, .pv (encSl R_E_api_Expr y2), .pv (encSl R_E_api_Expr a0.fLeft), .pv (encSl R_E_api_Expr a0.fRight), .pv (encSl R_E_api_Expr a0.fOut), .pv (encSl R_api_Agg a0.fAggs), .pv (encSl R_api_Key a0.fOrder), .pv (encSl R_E_api_Plan a0.fKids)] false, .box [aI 0, aI 0, .pv .nils, .pv .nils, .pv .nils, .pv .nils, .pv .nils, .pv .nils, .pv .nils] false, bR 59 9 R_E_api_Plan (y12 ++ ([(roll_api_Plan x23)] : List E_api_Plan)) 0 0, .box [aI ((un_api_Plan x21).fKind), aI ((un_api_Plan x21).fRel), .pv (encSl R_E_api_Expr ((un_api_Plan x21).fWhere)), .pv (encSl R_E_api_Expr ((un_api_Plan x21).fLeft)), .pv (encSl R_E_api_Expr ((un_api_Plan x21).fRight)), .pv (encSl R_E_api_Expr ((un_api_Plan x21).fOut)), .pv (encSl R_api_Agg ((un_api_Plan x21).fAggs)), .pv (encSl R_api_Key ((un_api_Plan x21).fOrder)), .pv (encSl R_E_api_Plan ((un_api_Plan x21).fKids))] false, bR 59 9 R_E_api_Plan ([(roll_api_Plan x23)] : List E_api_Plan) 0 0] (app_refO (u := 0) (n := y12.length) (id := 2) R_E_api_Plan y12 ([(roll_api_Plan x23)] : List E_api_Plan) (b := 184) t57 t59 rfl rfl rfl len_E_api_Plan rfl h25 rfl rfl (Nat.zero_le _) (show srcRows (aR 4 9 1) _ = some (([(roll_api_Plan x23)] : List E_api_Plan).map R_E_api_Plan) from by kernel_rfl) (by kernel_rfl)) (by kernel_rfl) (sh 1 [(5, aR 2 9 ((y12 ++ ([(roll_api_Plan x23)] : List E_api_Plan)).length))] (by kernel_rfl) (fin [(1, .pv (encSl R_E_api_Expr a1)), (2, .ptr 0 0), (4, .ptr 1 0), (5, aR 2 9 ((y12 ++ ([(roll_api_Plan x23)] : List E_api_Plan)).length)), (19, .pv (encSl R_E_api_Plan a0.fKids)), (20, aI ((sll a0.fKids).length : Int)), (21, aI y11)] rfl (by kernel_rfl) (detn [(1, .pv (encSl R_E_api_Expr a1)), (2, .ptr 0 0), (4, .ptr 1 0), (5, aR 2 9 ((y12 ++ ([(roll_api_Plan x23)] : List E_api_Plan)).length)), (19, .pv (encSl R_E_api_Plan a0.fKids)), (20, aI ((sll a0.fKids).length : Int)), (21, aI (IntKind.wrap .i64 (y11 + 1)))] (by kernel_rfl) ?_)))
     exact ⟨_, _, tidyL [(1, .pv (encSl R_E_api_Expr a1)), (2, .ptr 0 0), (4, .ptr 1 0), (5, aR 2 9 ((y12 ++ ([(roll_api_Plan x23)] : List E_api_Plan)).length)), (19, .pv (encSl R_E_api_Plan a0.fKids)), (20, aI ((sll a0.fKids).length : Int)), (21, aI (IntKind.wrap .i64 (y11 + 1)))] [.box [aI a0.fKind, aI a0.fRel, .pv (encSl R_E_api_Expr y2), .pv (encSl R_E_api_Expr a0.fLeft), .pv (encSl R_E_api_Expr a0.fRight), .pv (encSl R_E_api_Expr a0.fOut), .pv (encSl R_api_Agg a0.fAggs), .pv (encSl R_api_Key a0.fOrder), .pv (encSl R_E_api_Plan a0.fKids)] false, .box [aI 0, aI 0, .pv .nils, .pv .nils, .pv .nils, .pv .nils, .pv .nils, .pv .nils, .pv .nils] false, bR 59 9 R_E_api_Plan (y12 ++ ([(roll_api_Plan x23)] : List E_api_Plan)) 0 0] (by kernel_rfl), .inr (⟨(IntKind.wrap .i64 (y11 + 1)), (y12 ++ ([(roll_api_Plan x23)] : List E_api_Plan)), hm, rfl, rfl⟩)⟩
    ·
     refine cf h20 (by kernel_rfl) (wp_exit ?_)
     exact .inr (⟨y12, aI y11, aB (decide (y11 < ((sll a0.fKids).length : Int))), hm, (mk_same (by kernel_rfl)), rfl⟩)
  refine sq (rg (sh 4 [(11, aB (decide (a0.fKind ≥ 1))), (10, aB (decide (a0.fKind ≥ 1))), (9, aI a0.fKind), (8, .ptr 0 0)] (by kernel_rfl) ?_))
  refine seg (decide (a0.fKind ≥ 1)) [11, 10] (fun b => [(15, aB (b && (decide (a0.fKind ≤ 4)))), (14, ifA b (aB (decide (a0.fKind ≤ 4))) (.undef)), (13, ifA b (aI a0.fKind) (.undef)), (12, ifA b (.ptr 0 0) (.undef))]) 8 (by kernel_rfl) ?_ ?_ ?_
  ·
   intro Q h
   refine sh 4 [(15, aB (decide (a0.fKind ≤ 4))), (14, aB (decide (a0.fKind ≤ 4))), (13, aI a0.fKind), (12, .ptr 0 0)] (by kernel_rfl) ?_
   exact sameN (by kernel_rfl) (by kernel_rfl) h
  ·
   intro Q h
   refine sh 4 [(15, aB false), (14, .undef), (13, .undef), (12, .undef)] (by kernel_rfl) ?_
   exact sameN (by kernel_rfl) (by kernel_rfl) h
  refine fin [(1, .pv (encSl R_E_api_Expr a1)), (2, .ptr 0 0), (4, .ptr 1 0), (15, aB ((decide (a0.fKind ≥ 1)) && (decide (a0.fKind ≤ 4))))] rfl (by kernel_rfl) ?_
  rcases bif_some hm with ⟨h26, hm⟩ | ⟨h26, hm⟩
  ·
   refine ct h26 (by kernel_rfl) (det [(1, .pv (encSl R_E_api_Expr a1)), (2, .ptr 0 0), (4, .ptr 1 0)] [.box [aI a0.fKind, aI a0.fRel, .pv (encSl R_E_api_Expr a1), .pv (encSl R_E_api_Expr a0.fLeft), .pv (encSl R_E_api_Expr a0.fRight), .pv (encSl R_E_api_Expr a0.fOut), .pv (encSl R_api_Agg a0.fAggs), .pv (encSl R_api_Key a0.fOrder), .pv (encSl R_E_api_Plan a0.fKids)] false, .box [aI 0, aI 0, .pv .nils, .pv .nils, .pv .nils, .pv .nils, .pv .nils, .pv .nils, .pv .nils] false] (by kernel_rfl) ?_)
   exact ⟨a1, .any, hm, (mk_same (by kernel_rfl)), rfl⟩
  ·
   refine cf h26 (by kernel_rfl) (wp_skip ?_)
   exact ⟨a0.fWhere, aB ((decide (a0.fKind ≥ 1)) && (decide (a0.fKind ≤ 4))), hm, (mk_same (by kernel_rfl)), rfl⟩
theorem okt_law32_bare : ∀ (m : Nat), ∀ {n : Nat} {a0 : api_Plan} {a1 : (Option (List E_api_Expr))} {r : api_Plan} (hm : law32_bare_t m n a0 a1 = some r), call G n 19 [.agg [aI a0.fKind, aI a0.fRel, .pv (encSl R_E_api_Expr a0.fWhere), .pv (encSl R_E_api_Expr a0.fLeft), .pv (encSl R_E_api_Expr a0.fRight), .pv (encSl R_E_api_Expr a0.fOut), .pv (encSl R_api_Agg a0.fAggs), .pv (encSl R_api_Key a0.fOrder), .pv (encSl R_E_api_Plan a0.fKids)], .pv (encSl R_E_api_Expr a1)] [] = some (.ret (.agg [aI r.fKind, aI r.fRel, .pv (encSl R_E_api_Expr r.fWhere), .pv (encSl R_E_api_Expr r.fLeft), .pv (encSl R_E_api_Expr r.fRight), .pv (encSl R_E_api_Expr r.fOut), .pv (encSl R_api_Agg r.fAggs), .pv (encSl R_api_Key r.fOrder), .pv (encSl R_E_api_Plan r.fKids)]), [])
  | 0 => by intros; rename_i hm; exact nomatch hm
  | m + 1 => fun hm =>
    okf_law32_bare (okt_law32_bare m) hm
theorem ok_law32_bare {n : Nat} {a0 : api_Plan} {a1 : (Option (List E_api_Expr))} {r : api_Plan} (hm : law32_bare n a0 a1 = some r) :
    call G n 19 [.agg [aI a0.fKind, aI a0.fRel, .pv (encSl R_E_api_Expr a0.fWhere), .pv (encSl R_E_api_Expr a0.fLeft), .pv (encSl R_E_api_Expr a0.fRight), .pv (encSl R_E_api_Expr a0.fOut), .pv (encSl R_api_Agg a0.fAggs), .pv (encSl R_api_Key a0.fOrder), .pv (encSl R_E_api_Plan a0.fKids)], .pv (encSl R_E_api_Expr a1)] [] = some (.ret (.agg [aI r.fKind, aI r.fRel, .pv (encSl R_E_api_Expr r.fWhere), .pv (encSl R_E_api_Expr r.fLeft), .pv (encSl R_E_api_Expr r.fRight), .pv (encSl R_E_api_Expr r.fOut), .pv (encSl R_api_Agg r.fAggs), .pv (encSl R_api_Key r.fOrder), .pv (encSl R_E_api_Plan r.fKids)]), []) := okt_law32_bare n hm
theorem ok_ref23_Bulk {n : Nat} {a0 : api_Query} {a1 : Int} {r : Int} (hm : ref23_Bulk n a0 a1 = some r) :
    call G n 24 [.agg [.pv (encSl rS a0.fRels), .pv (encSl R_E_api_Expr a0.fWhere), aB a0.fGrouped, .pv (encSl R_E_api_Expr a0.fOut), .pv (encSl R_api_Agg a0.fAggs), .pv (encSl R_api_Key a0.fOrder)], aI a1] [] = some (.ret (aI r), []) := by
  unfold ref23_Bulk at hm
  obtain ⟨n, rfl, h0⟩ := at1_some hm
  replace hm := h0; clear h0
  refine callL 118 [(0, .agg [.pv (encSl rS a0.fRels), .pv (encSl R_E_api_Expr a0.fWhere), aB a0.fGrouped, .pv (encSl R_E_api_Expr a0.fOut), .pv (encSl R_api_Agg a0.fAggs), .pv (encSl R_api_Key a0.fOrder)]), (1, aI a1)] func24 rfl (by kernel_rfl) (sq (det [(1, aI a1), (2, .ptr 0 0)] [.box [.pv (encSl rS a0.fRels), .pv (encSl R_E_api_Expr a0.fWhere), aB a0.fGrouped, .pv (encSl R_E_api_Expr a0.fOut), .pv (encSl R_api_Agg a0.fAggs), .pv (encSl R_api_Key a0.fOrder)] false] (by kernel_rfl) ?_))
  refine sq (sq (rg (sh 2 [(9, .pv (encSl rS a0.fRels)), (8, .ptr 0 0)] (by kernel_rfl) (dv 10 (v := aI ((sll a0.fRels).length : Int)) (len_slO rS a0.fRels t22 (by kernel_rfl)) (by kernel_rfl) (sh 3 [(13, aB (decide (((sll a0.fRels).length : Int) > a1))), (12, aB (decide (((sll a0.fRels).length : Int) > a1))), (11, aI a1)] (by kernel_rfl) ?_)))))
  refine seg (decide (((sll a0.fRels).length : Int) > a1)) [13, 12] (fun b => [(19, aB (b || (decide (((sll a0.fAggs).length : Int) > a1)))), (18, ifA b (.undef) (aB (decide (((sll a0.fAggs).length : Int) > a1)))), (17, ifA b (.undef) (aI a1)), (16, ifA b (.undef) (aI ((sll a0.fAggs).length : Int))), (15, ifA b (.undef) (.pv (encSl R_api_Agg a0.fAggs))), (14, ifA b (.undef) (.ptr 0 4))]) 12 (by kernel_rfl) ?_ ?_ ?_
  ·
   intro Q h
   refine sh 6 [(19, aB true), (18, .undef), (17, .undef), (16, .undef), (15, .undef), (14, .undef)] (by kernel_rfl) ?_
   exact sameN (by kernel_rfl) (by kernel_rfl) h
  ·
   intro Q h
   refine sh 2 [(15, .pv (encSl R_api_Agg a0.fAggs)), (14, .ptr 0 4)] (by kernel_rfl) (dv 16 (v := aI ((sll a0.fAggs).length : Int)) (len_slO R_api_Agg a0.fAggs t24 (by kernel_rfl)) (by kernel_rfl) (sh 3 [(19, aB (decide (((sll a0.fAggs).length : Int) > a1))), (18, aB (decide (((sll a0.fAggs).length : Int) > a1))), (17, aI a1)] (by kernel_rfl) ?_))
   exact sameN (by kernel_rfl) (by kernel_rfl) h
  refine sh 1 [(20, aB ((decide (((sll a0.fRels).length : Int) > a1)) || (decide (((sll a0.fAggs).length : Int) > a1))))] (by kernel_rfl) ?_
  refine seg ((decide (((sll a0.fRels).length : Int) > a1)) || (decide (((sll a0.fAggs).length : Int) > a1))) [20, 19] (fun b => [(26, aB (b || (decide (((sll a0.fOrder).length : Int) > a1)))), (25, ifA b (.undef) (aB (decide (((sll a0.fOrder).length : Int) > a1)))), (24, ifA b (.undef) (aI a1)), (23, ifA b (.undef) (aI ((sll a0.fOrder).length : Int))), (22, ifA b (.undef) (.pv (encSl R_api_Key a0.fOrder))), (21, ifA b (.undef) (.ptr 0 5))]) 19 (by kernel_rfl) ?_ ?_ ?_
  ·
   intro Q h
   refine sh 6 [(26, aB true), (25, .undef), (24, .undef), (23, .undef), (22, .undef), (21, .undef)] (by kernel_rfl) ?_
   exact sameN (by kernel_rfl) (by kernel_rfl) h
  ·
   intro Q h
   refine sh 2 [(22, .pv (encSl R_api_Key a0.fOrder)), (21, .ptr 0 5)] (by kernel_rfl) (dv 23 (v := aI ((sll a0.fOrder).length : Int)) (len_slO R_api_Key a0.fOrder t25 (by kernel_rfl)) (by kernel_rfl) (sh 3 [(26, aB (decide (((sll a0.fOrder).length : Int) > a1))), (25, aB (decide (((sll a0.fOrder).length : Int) > a1))), (24, aI a1)] (by kernel_rfl) ?_))
   exact sameN (by kernel_rfl) (by kernel_rfl) h
  refine fin [(1, aI a1), (2, .ptr 0 0), (26, aB (((decide (((sll a0.fRels).length : Int) > a1)) || (decide (((sll a0.fAggs).length : Int) > a1))) || (decide (((sll a0.fOrder).length : Int) > a1))))] rfl (by kernel_rfl) ?_
  rcases bif_some hm with ⟨h1, hm⟩ | ⟨h1, hm⟩
  ·
   refine ct h1 (by kernel_rfl) (sq (detn [(4, aI (IntKind.wrap .i64 (a1 + 1)))] (by kernel_rfl) (wp_ret ?_)))
   obtain rfl := Option.some.inj hm
   exact ⟨trivial, by kernel_rfl⟩
  ·
   refine cf h1 (by kernel_rfl) (wp_skip (sq (rg (sh 2 [(30, .pv (encSl rS a0.fRels)), (29, .ptr 0 0)] (by kernel_rfl) (dv 31 (v := aI ((sll a0.fRels).length : Int)) (len_slO rS a0.fRels t22 (by kernel_rfl)) (by kernel_rfl) (sh 2 [(33, .pv (encSl R_api_Agg a0.fAggs)), (32, .ptr 0 4)] (by kernel_rfl) (dv 34 (v := aI ((sll a0.fAggs).length : Int)) (len_slO R_api_Agg a0.fAggs t24 (by kernel_rfl)) (by kernel_rfl) (sh 3 [(37, .pv (encSl R_api_Key a0.fOrder)), (36, .ptr 0 5), (35, aI (IntKind.wrap .i64 (((sll a0.fRels).length : Int) + ((sll a0.fAggs).length : Int))))] (by kernel_rfl) (dv 38 (v := aI ((sll a0.fOrder).length : Int)) (len_slO R_api_Key a0.fOrder t25 (by kernel_rfl)) (by kernel_rfl) (sh 2 [(5, aI (IntKind.wrap .i64 ((IntKind.wrap .i64 (((sll a0.fRels).length : Int) + ((sll a0.fAggs).length : Int))) + ((sll a0.fOrder).length : Int)))), (39, aI (IntKind.wrap .i64 ((IntKind.wrap .i64 (((sll a0.fRels).length : Int) + ((sll a0.fAggs).length : Int))) + ((sll a0.fOrder).length : Int))))] (by kernel_rfl) (fin [(1, aI a1), (2, .ptr 0 0), (5, aI (IntKind.wrap .i64 ((IntKind.wrap .i64 (((sll a0.fRels).length : Int) + ((sll a0.fAggs).length : Int))) + ((sll a0.fOrder).length : Int))))] rfl (by kernel_rfl) ?_)))))))))))
   obtain ⟨k5, hk5, hm⟩ := withK_some hm
   refine mid (fun t H => (∃ (y2 : Bool) (y3 : Int) (y4 : Int), k5 y3 = some r ∧ t = mk 118 [(1, aI a1), (2, .ptr 0 0), (5, aI y3), (6, aI y4), (44, aB y2)] ∧ H = [.box [.pv (encSl rS a0.fRels), .pv (encSl R_E_api_Expr a0.fWhere), aB a0.fGrouped, .pv (encSl R_E_api_Expr a0.fOut), .pv (encSl R_api_Agg a0.fAggs), .pv (encSl R_api_Key a0.fOrder)] false])) ?_ ?_
   ·
    rintro _ _ ⟨y2, y3, y4, hm, rfl, rfl⟩
    subst hk5
    obtain ⟨k8, hk8, hm⟩ := withK_some hm
    refine mid (fun t H => (∃ (y7 : Int) (w6 : AV), k8 y7 = some r ∧ t = mk 118 [(1, aI a1), (2, .ptr 0 0), (5, aI y7), (72, w6)] ∧ H = [.box [.pv (encSl rS a0.fRels), .pv (encSl R_E_api_Expr a0.fWhere), aB a0.fGrouped, .pv (encSl R_E_api_Expr a0.fOut), .pv (encSl R_api_Agg a0.fAggs), .pv (encSl R_api_Key a0.fOrder)] false])) ?_ ?_
    ·
     rintro _ _ ⟨y7, w6, hm, rfl, rfl⟩
     subst hk8
     obtain ⟨k11, hk11, hm⟩ := withK_some hm
     refine mid (fun t H => (∃ (y10 : Int) (w9 : AV), k11 y10 = some r ∧ t = mk 118 [(1, aI a1), (2, .ptr 0 0), (5, aI y10), (83, w9)] ∧ H = [.box [.pv (encSl rS a0.fRels), .pv (encSl R_E_api_Expr a0.fWhere), aB a0.fGrouped, .pv (encSl R_E_api_Expr a0.fOut), .pv (encSl R_api_Agg a0.fAggs), .pv (encSl R_api_Key a0.fOrder)] false])) ?_ ?_
     ·
      rintro _ _ ⟨y10, w9, hm, rfl, rfl⟩
      subst hk11
      obtain ⟨k15, hk15, hm⟩ := withK_some hm
      refine mid (fun t H => (∃ (y12 : Bool) (y13 : Int) (y14 : Int), k15 y13 = some r ∧ t = mk 118 [(1, aI a1), (2, .ptr 0 0), (5, aI y13), (7, aI y14), (101, aB y12)] ∧ H = [.box [.pv (encSl rS a0.fRels), .pv (encSl R_E_api_Expr a0.fWhere), aB a0.fGrouped, .pv (encSl R_E_api_Expr a0.fOut), .pv (encSl R_api_Agg a0.fAggs), .pv (encSl R_api_Key a0.fOrder)] false])) ?_ ?_
      ·
       rintro _ _ ⟨y12, y13, y14, hm, rfl, rfl⟩
       subst hk15
       refine sq (detn [(4, aI y13)] (by kernel_rfl) (wp_ret ?_))
       obtain rfl := Option.some.inj hm
       exact ⟨trivial, by kernel_rfl⟩
      refine sq (detn [(1, aI a1), (2, .ptr 0 0), (5, aI y10), (7, aI 0)] (by kernel_rfl) (bq ?_))
      refine loopF (fun mm t H => (∃ (y18 : Int) (y19 : Int), ref23_Bulk_l15 n a0 a1 k15 mm y18 y19 = some r ∧ t = mk 118 [(1, aI a1), (2, .ptr 0 0), (5, aI y18), (7, aI y19)] ∧ H = [.box [.pv (encSl rS a0.fRels), .pv (encSl R_E_api_Expr a0.fWhere), aB a0.fGrouped, .pv (encSl R_E_api_Expr a0.fOut), .pv (encSl R_api_Agg a0.fAggs), .pv (encSl R_api_Key a0.fOrder)] false])) (⟨y10, 0, hm, rfl, rfl⟩) ?_ ?_
      · rintro _ _ ⟨y18, y19, hm, _⟩; exact nomatch hm
      rintro m20 _ _ ⟨y18, y19, hm, rfl, rfl⟩
      simp only [ref23_Bulk_l15] at hm
      refine sq (sq (rg (sh 3 [(94, .pv (encSl R_api_Agg a0.fAggs)), (93, .ptr 0 4), (92, aI y19)] (by kernel_rfl) (dv 95 (v := aI ((sll a0.fAggs).length : Int)) (len_slO R_api_Agg a0.fAggs t24 (by kernel_rfl)) (by kernel_rfl) (sh 2 [(97, aB (decide (y19 < ((sll a0.fAggs).length : Int)))), (96, aB (decide (y19 < ((sll a0.fAggs).length : Int))))] (by kernel_rfl) ?_)))))
      refine seg (decide (y19 < ((sll a0.fAggs).length : Int))) [97, 96] (fun b => [(101, aB (b && (decide (y18 ≤ a1)))), (100, ifA b (aB (decide (y18 ≤ a1))) (.undef)), (99, ifA b (aI a1) (.undef)), (98, ifA b (aI y18) (.undef))]) 10 (by kernel_rfl) ?_ ?_ ?_
      ·
       intro Q h
       refine sh 4 [(101, aB (decide (y18 ≤ a1))), (100, aB (decide (y18 ≤ a1))), (99, aI a1), (98, aI y18)] (by kernel_rfl) ?_
       exact sameN (by kernel_rfl) (by kernel_rfl) h
      ·
       intro Q h
       refine sh 4 [(101, aB false), (100, .undef), (99, .undef), (98, .undef)] (by kernel_rfl) ?_
       exact sameN (by kernel_rfl) (by kernel_rfl) h
      refine fin [(1, aI a1), (2, .ptr 0 0), (5, aI y18), (7, aI y19), (101, aB ((decide (y19 < ((sll a0.fAggs).length : Int))) && (decide (y18 ≤ a1))))] rfl (by kernel_rfl) ?_
      rcases bif_some hm with ⟨h21, hm⟩ | ⟨h21, hm⟩
      ·
       refine ct h21 (by kernel_rfl) (wp_skip (sq (bq (rg (sh 4 [(107, aI y19), (106, .pv (encSl R_api_Agg a0.fAggs)), (105, .ptr 0 4), (104, aI y18)] (by kernel_rfl) ?_)))))
       obtain ⟨x22, h23, hm⟩ := bs hm
       refine dv 108 (v := .pv (.ptr (R_api_Agg x22) 0)) (ia_slO R_api_Agg a0.fAggs .i64 t24 t82 h23 rfl (by kernel_rfl)) (by kernel_rfl) (st 6 [(114, aI (IntKind.wrap .i64 (a1 - y18))), (113, aI y18), (112, aI a1), (111, aR 1 8 1), (110, .agg [aI x22.fOf.fKind, aI x22.fOf.fRel, aI x22.fOf.fCol, aI x22.fOf.fConst.fKind, aI x22.fOf.fConst.fInt, aF x22.fOf.fConst.fFloat, aS x22.fOf.fConst.fText, .pv (encSl R_E_api_Expr x22.fOf.fKids)]), (109, .pv (.ptr (R_api_Agg x22) 1))] [.box [.pv (encSl rS a0.fRels), .pv (encSl R_E_api_Expr a0.fWhere), aB a0.fGrouped, .pv (encSl R_E_api_Expr a0.fOut), .pv (encSl R_api_Agg a0.fAggs), .pv (encSl R_api_Key a0.fOrder)] false, bR 44 8 R_E_api_Expr ([(roll_api_Expr x22.fOf)] : List E_api_Expr) 0 0] (by kernel_rfl) ?_)
       obtain ⟨x24, h25, hm⟩ := bs hm
       refine dO [(115, aI x24)] [.box [.pv (encSl rS a0.fRels), .pv (encSl R_E_api_Expr a0.fWhere), aB a0.fGrouped, .pv (encSl R_E_api_Expr a0.fOut), .pv (encSl R_api_Agg a0.fAggs), .pv (encSl R_api_Key a0.fOrder)] false, bR 44 8 R_E_api_Expr ([(roll_api_Expr x22.fOf)] : List E_api_Expr) 0 0] (cpureR [1] [aR 1 8 1, aI (IntKind.wrap .i64 (a1 - y18))] (fl := true) (by kernel_rfl) (by kernel_rfl) (by kernel_rfl) (ok_ref22_Bulk h25) (by kernel_rfl) (by kernel_rfl)) (by kernel_rfl) (sh 2 [(5, aI (IntKind.wrap .i64 (y18 + x24))), (116, aI (IntKind.wrap .i64 (y18 + x24)))] (by kernel_rfl) (fin [(1, aI a1), (2, .ptr 0 0), (5, aI (IntKind.wrap .i64 (y18 + x24))), (7, aI y19)] rfl (by kernel_rfl) (detn [(1, aI a1), (2, .ptr 0 0), (5, aI (IntKind.wrap .i64 (y18 + x24))), (7, aI (IntKind.wrap .i64 (y19 + 1)))] (by kernel_rfl) ?_)))
       exact ⟨_, _, tidyL [(1, aI a1), (2, .ptr 0 0), (5, aI (IntKind.wrap .i64 (y18 + x24))), (7, aI (IntKind.wrap .i64 (y19 + 1)))] [.box [.pv (encSl rS a0.fRels), .pv (encSl R_E_api_Expr a0.fWhere), aB a0.fGrouped, .pv (encSl R_E_api_Expr a0.fOut), .pv (encSl R_api_Agg a0.fAggs), .pv (encSl R_api_Key a0.fOrder)] false] (by kernel_rfl), ⟨(IntKind.wrap .i64 (y18 + x24)), (IntKind.wrap .i64 (y19 + 1)), hm, rfl, rfl⟩⟩
      ·
       refine cf h21 (by kernel_rfl) (wp_exit ?_)
       exact ⟨((decide (y19 < ((sll a0.fAggs).length : Int))) && (decide (y18 ≤ a1))), y18, y19, hm, rfl, rfl⟩
     refine sq (detn [(1, aI a1), (2, .ptr 0 0), (5, aI y7), (83, aB (decide (y7 ≤ a1)))] (by kernel_rfl) ?_)
     rcases bif_some hm with ⟨h26, hm⟩ | ⟨h26, hm⟩
     ·
      refine ct h26 (by kernel_rfl) (rg (sh 6 [(89, aI (IntKind.wrap .i64 (a1 - y7))), (88, aI y7), (87, aI a1), (86, .pv (encSl R_E_api_Expr a0.fOut)), (85, .ptr 0 3), (84, aI y7)] (by kernel_rfl) ?_))
      obtain ⟨x27, h28, hm⟩ := bs hm
      refine dv 90 (cpure (by kernel_rfl) (ok_ref22_Bulk h28) (by kernel_rfl) (by kernel_rfl) (by kernel_rfl)) (by kernel_rfl) (sh 2 [(5, aI (IntKind.wrap .i64 (y7 + x27))), (91, aI (IntKind.wrap .i64 (y7 + x27)))] (by kernel_rfl) (fin [(1, aI a1), (2, .ptr 0 0), (5, aI (IntKind.wrap .i64 (y7 + x27)))] rfl (by kernel_rfl) ?_))
      exact ⟨(IntKind.wrap .i64 (y7 + x27)), .any, hm, (mk_same (by kernel_rfl)), rfl⟩
     ·
      refine cf h26 (by kernel_rfl) (wp_skip ?_)
      exact ⟨y7, aB (decide (y7 ≤ a1)), hm, (mk_same (by kernel_rfl)), rfl⟩
    refine sq (detn [(1, aI a1), (2, .ptr 0 0), (5, aI y3), (72, aB (decide (y3 ≤ a1)))] (by kernel_rfl) ?_)
    rcases bif_some hm with ⟨h29, hm⟩ | ⟨h29, hm⟩
    ·
     refine ct h29 (by kernel_rfl) (rg (sh 6 [(78, aI (IntKind.wrap .i64 (a1 - y3))), (77, aI y3), (76, aI a1), (75, .pv (encSl R_E_api_Expr a0.fWhere)), (74, .ptr 0 1), (73, aI y3)] (by kernel_rfl) ?_))
     obtain ⟨x30, h31, hm⟩ := bs hm
     refine dv 79 (cpure (by kernel_rfl) (ok_ref22_Bulk h31) (by kernel_rfl) (by kernel_rfl) (by kernel_rfl)) (by kernel_rfl) (sh 2 [(5, aI (IntKind.wrap .i64 (y3 + x30))), (80, aI (IntKind.wrap .i64 (y3 + x30)))] (by kernel_rfl) (fin [(1, aI a1), (2, .ptr 0 0), (5, aI (IntKind.wrap .i64 (y3 + x30)))] rfl (by kernel_rfl) ?_))
     exact ⟨(IntKind.wrap .i64 (y3 + x30)), .any, hm, (mk_same (by kernel_rfl)), rfl⟩
    ·
     refine cf h29 (by kernel_rfl) (wp_skip ?_)
     exact ⟨y3, aB (decide (y3 ≤ a1)), hm, (mk_same (by kernel_rfl)), rfl⟩
   refine sq (detn [(1, aI a1), (2, .ptr 0 0), (5, aI (IntKind.wrap .i64 ((IntKind.wrap .i64 (((sll a0.fRels).length : Int) + ((sll a0.fAggs).length : Int))) + ((sll a0.fOrder).length : Int)))), (6, aI 0)] (by kernel_rfl) (bq ?_))
   refine loopF (fun mm t H => (∃ (y34 : Int) (y35 : Int), ref23_Bulk_l5 n a0 a1 k5 mm y34 y35 = some r ∧ t = mk 118 [(1, aI a1), (2, .ptr 0 0), (5, aI y34), (6, aI y35)] ∧ H = [.box [.pv (encSl rS a0.fRels), .pv (encSl R_E_api_Expr a0.fWhere), aB a0.fGrouped, .pv (encSl R_E_api_Expr a0.fOut), .pv (encSl R_api_Agg a0.fAggs), .pv (encSl R_api_Key a0.fOrder)] false])) (⟨(IntKind.wrap .i64 ((IntKind.wrap .i64 (((sll a0.fRels).length : Int) + ((sll a0.fAggs).length : Int))) + ((sll a0.fOrder).length : Int))), 0, hm, rfl, rfl⟩) ?_ ?_
   · rintro _ _ ⟨y34, y35, hm, _⟩; exact nomatch hm
   rintro m36 _ _ ⟨y34, y35, hm, rfl, rfl⟩
   simp only [ref23_Bulk_l5] at hm
   refine sq (sq (rg (sh 3 [(42, .pv (encSl rS a0.fRels)), (41, .ptr 0 0), (40, aI y35)] (by kernel_rfl) (dv 43 (v := aI ((sll a0.fRels).length : Int)) (len_slO rS a0.fRels t22 (by kernel_rfl)) (by kernel_rfl) (sh 1 [(44, aB (decide (y35 < ((sll a0.fRels).length : Int))))] (by kernel_rfl) (fin [(1, aI a1), (2, .ptr 0 0), (5, aI y34), (6, aI y35), (44, aB (decide (y35 < ((sll a0.fRels).length : Int))))] rfl (by kernel_rfl) ?_))))))
   rcases bif_some hm with ⟨h37, hm⟩ | ⟨h37, hm⟩
   ·
    refine ct h37 (by kernel_rfl) (wp_skip (sq (bq ?_)))
    refine sq (sq (rg (sh 4 [(50, aB (decide (y34 > a1))), (49, aB (decide (y34 > a1))), (48, aI a1), (47, aI y34)] (by kernel_rfl) ?_)))
    rcases bif_some hm with ⟨h38, hm⟩ | ⟨h38, hm⟩
    ·
     refine known [50, 49] h38 (by kernel_rfl) (sh 9 [(59, aB true), (58, .undef), (57, .undef), (56, .undef), (55, .undef), (54, .undef), (53, .undef), (52, .undef), (51, .undef)] (by kernel_rfl) (fin [(1, aI a1), (2, .ptr 0 0), (5, aI y34), (6, aI y35), (59, aB true)] rfl (by kernel_rfl) (cT (by kernel_rfl) (sq (detn [(4, aI (IntKind.wrap .i64 (a1 + 1)))] (by kernel_rfl) (wp_ret ?_))))))
     obtain rfl := Option.some.inj hm
     exact ⟨trivial, by kernel_rfl⟩
    ·
     refine known [50, 49] h38 (by kernel_rfl) (sh 3 [(53, aI y35), (52, .pv (encSl rS a0.fRels)), (51, .ptr 0 0)] (by kernel_rfl) ?_)
     obtain ⟨x39, h40, hm⟩ := bs hm
     refine dv 54 (v := .pv (.ptr (rS x39) 0)) (ia_slO rS a0.fRels .i64 t22 t9 h40 rfl (by kernel_rfl)) (by kernel_rfl) (sh 5 [(59, aB (decide ((x39.size : Int) > a1))), (58, aB (decide ((x39.size : Int) > a1))), (57, aI a1), (56, aI (x39.size : Int)), (55, aS x39)] (by kernel_rfl) (fin [(1, aI a1), (2, .ptr 0 0), (5, aI y34), (6, aI y35), (59, aB (decide ((x39.size : Int) > a1)))] rfl (by kernel_rfl) ?_))
     rcases bif_some hm with ⟨h41, hm⟩ | ⟨h41, hm⟩
     ·
      refine ct h41 (by kernel_rfl) (sq (detn [(4, aI (IntKind.wrap .i64 (a1 + 1)))] (by kernel_rfl) (wp_ret ?_)))
      obtain rfl := Option.some.inj hm
      exact ⟨trivial, by kernel_rfl⟩
     ·
      refine cf h41 (by kernel_rfl) (wp_skip (rg (sh 4 [(65, aI y35), (64, .pv (encSl rS a0.fRels)), (63, .ptr 0 0), (62, aI y34)] (by kernel_rfl) (dv 66 (v := .pv (.ptr (rS x39) 0)) (ia_slO rS a0.fRels .i64 t22 t9 h40 rfl (by kernel_rfl)) (by kernel_rfl) (sh 4 [(5, aI (IntKind.wrap .i64 (y34 + (x39.size : Int)))), (69, aI (IntKind.wrap .i64 (y34 + (x39.size : Int)))), (68, aI (x39.size : Int)), (67, aS x39)] (by kernel_rfl) (fin [(1, aI a1), (2, .ptr 0 0), (5, aI (IntKind.wrap .i64 (y34 + (x39.size : Int)))), (6, aI y35)] rfl (by kernel_rfl) (detn [(1, aI a1), (2, .ptr 0 0), (5, aI (IntKind.wrap .i64 (y34 + (x39.size : Int)))), (6, aI (IntKind.wrap .i64 (y35 + 1)))] (by kernel_rfl) ?_)))))))
      exact ⟨_, _, tidyL [(1, aI a1), (2, .ptr 0 0), (5, aI (IntKind.wrap .i64 (y34 + (x39.size : Int)))), (6, aI (IntKind.wrap .i64 (y35 + 1)))] [.box [.pv (encSl rS a0.fRels), .pv (encSl R_E_api_Expr a0.fWhere), aB a0.fGrouped, .pv (encSl R_E_api_Expr a0.fOut), .pv (encSl R_api_Agg a0.fAggs), .pv (encSl R_api_Key a0.fOrder)] false] (by kernel_rfl), ⟨(IntKind.wrap .i64 (y34 + (x39.size : Int))), (IntKind.wrap .i64 (y35 + 1)), hm, rfl, rfl⟩⟩
   ·
    refine cf h37 (by kernel_rfl) (wp_exit ?_)
    exact ⟨(decide (y35 < ((sll a0.fRels).length : Int))), y34, y35, hm, rfl, rfl⟩
theorem okf_ref25_Bulk {rc_ref25_Bulk : (Nat → api_Plan → Int → Option (Int))} (ih_ref25_Bulk : ∀ {n : Nat} {a0 : api_Plan} {a1 : Int} {r : Int} (hm : rc_ref25_Bulk n a0 a1 = some r), call G n 55 [.agg [aI a0.fKind, aI a0.fRel, .pv (encSl R_E_api_Expr a0.fWhere), .pv (encSl R_E_api_Expr a0.fLeft), .pv (encSl R_E_api_Expr a0.fRight), .pv (encSl R_E_api_Expr a0.fOut), .pv (encSl R_api_Agg a0.fAggs), .pv (encSl R_api_Key a0.fOrder), .pv (encSl R_E_api_Plan a0.fKids)], aI a1] [] = some (.ret (aI r), [])) {n : Nat} {a0 : api_Plan} {a1 : Int} {r : Int} (hm : ref25_Bulk_f rc_ref25_Bulk n a0 a1 = some r) :
    call G n 55 [.agg [aI a0.fKind, aI a0.fRel, .pv (encSl R_E_api_Expr a0.fWhere), .pv (encSl R_E_api_Expr a0.fLeft), .pv (encSl R_E_api_Expr a0.fRight), .pv (encSl R_E_api_Expr a0.fOut), .pv (encSl R_api_Agg a0.fAggs), .pv (encSl R_api_Key a0.fOrder), .pv (encSl R_E_api_Plan a0.fKids)], aI a1] [] = some (.ret (aI r), []) := by
  unfold ref25_Bulk_f at hm
  obtain ⟨n, rfl, h0⟩ := at1_some hm
  replace hm := h0; clear h0
  refine callL 55 [(0, .agg [aI a0.fKind, aI a0.fRel, .pv (encSl R_E_api_Expr a0.fWhere), .pv (encSl R_E_api_Expr a0.fLeft), .pv (encSl R_E_api_Expr a0.fRight), .pv (encSl R_E_api_Expr a0.fOut), .pv (encSl R_api_Agg a0.fAggs), .pv (encSl R_api_Key a0.fOrder), .pv (encSl R_E_api_Plan a0.fKids)]), (1, aI a1)] func55 rfl (by kernel_rfl) (sq (det [(1, aI a1), (2, .ptr 0 0)] [.box [aI a0.fKind, aI a0.fRel, .pv (encSl R_E_api_Expr a0.fWhere), .pv (encSl R_E_api_Expr a0.fLeft), .pv (encSl R_E_api_Expr a0.fRight), .pv (encSl R_E_api_Expr a0.fOut), .pv (encSl R_api_Agg a0.fAggs), .pv (encSl R_api_Key a0.fOrder), .pv (encSl R_E_api_Plan a0.fKids)] false] (by kernel_rfl) (sq (rg (sh 10 [(16, aI a1), (15, .agg [.pv .nils, .pv (encSl R_E_api_Expr a0.fWhere), aB false, .pv (encSl R_E_api_Expr a0.fOut), .pv (encSl R_api_Agg a0.fAggs), .pv (encSl R_api_Key a0.fOrder)]), (14, .pv (encSl R_api_Key a0.fOrder)), (13, .ptr 0 7), (12, .pv (encSl R_api_Agg a0.fAggs)), (11, .ptr 0 6), (10, .pv (encSl R_E_api_Expr a0.fOut)), (9, .ptr 0 5), (8, .pv (encSl R_E_api_Expr a0.fWhere)), (7, .ptr 0 2)] (by kernel_rfl) ?_)))))
  obtain ⟨x1, h2, hm⟩ := bs hm
  refine dv 17 (cpure (by kernel_rfl) (ok_ref23_Bulk h2) (by kernel_rfl) (by kernel_rfl) (by kernel_rfl)) (by kernel_rfl) (sh 2 [(5, aI (IntKind.wrap .i64 (1 + x1))), (18, aI (IntKind.wrap .i64 (1 + x1)))] (by kernel_rfl) (fin [(1, aI a1), (2, .ptr 0 0), (5, aI (IntKind.wrap .i64 (1 + x1)))] rfl (by kernel_rfl) ?_))
  obtain ⟨k5, hk5, hm⟩ := withK_some hm
  refine mid (fun t H => (∃ (y4 : Int) (w3 : AV), k5 y4 = some r ∧ t = mk 55 [(1, aI a1), (2, .ptr 0 0), (5, aI y4), (21, w3)] ∧ H = [.box [aI a0.fKind, aI a0.fRel, .pv (encSl R_E_api_Expr a0.fWhere), .pv (encSl R_E_api_Expr a0.fLeft), .pv (encSl R_E_api_Expr a0.fRight), .pv (encSl R_E_api_Expr a0.fOut), .pv (encSl R_api_Agg a0.fAggs), .pv (encSl R_api_Key a0.fOrder), .pv (encSl R_E_api_Plan a0.fKids)] false])) ?_ ?_
  ·
   rintro _ _ ⟨y4, w3, hm, rfl, rfl⟩
   subst hk5
   obtain ⟨k9, hk9, hm⟩ := withK_some hm
   refine mid (fun t H => (∃ (y6 : Bool) (y7 : Int) (y8 : Int), k9 y7 = some r ∧ t = mk 55 [(1, aI a1), (2, .ptr 0 0), (5, aI y7), (6, aI y8), (40, aB y6)] ∧ H = [.box [aI a0.fKind, aI a0.fRel, .pv (encSl R_E_api_Expr a0.fWhere), .pv (encSl R_E_api_Expr a0.fLeft), .pv (encSl R_E_api_Expr a0.fRight), .pv (encSl R_E_api_Expr a0.fOut), .pv (encSl R_api_Agg a0.fAggs), .pv (encSl R_api_Key a0.fOrder), .pv (encSl R_E_api_Plan a0.fKids)] false])) ?_ ?_
   ·
    rintro _ _ ⟨y6, y7, y8, hm, rfl, rfl⟩
    subst hk9
    refine sq (detn [(4, aI y7)] (by kernel_rfl) (wp_ret ?_))
    obtain rfl := Option.some.inj hm
    exact ⟨trivial, by kernel_rfl⟩
   refine sq (detn [(1, aI a1), (2, .ptr 0 0), (5, aI y4), (6, aI 0)] (by kernel_rfl) (bq ?_))
   refine loopF (fun mm t H => (∃ (y12 : Int) (y13 : Int), ref25_Bulk_l5 n rc_ref25_Bulk a0 a1 k9 mm y12 y13 = some r ∧ t = mk 55 [(1, aI a1), (2, .ptr 0 0), (5, aI y12), (6, aI y13)] ∧ H = [.box [aI a0.fKind, aI a0.fRel, .pv (encSl R_E_api_Expr a0.fWhere), .pv (encSl R_E_api_Expr a0.fLeft), .pv (encSl R_E_api_Expr a0.fRight), .pv (encSl R_E_api_Expr a0.fOut), .pv (encSl R_api_Agg a0.fAggs), .pv (encSl R_api_Key a0.fOrder), .pv (encSl R_E_api_Plan a0.fKids)] false])) (⟨y4, 0, hm, rfl, rfl⟩) ?_ ?_
   · rintro _ _ ⟨y12, y13, hm, _⟩; exact nomatch hm
   rintro m14 _ _ ⟨y12, y13, hm, rfl, rfl⟩
   simp only [ref25_Bulk_l5] at hm
   refine sq (sq (rg (sh 3 [(33, .pv (encSl R_E_api_Plan a0.fKids)), (32, .ptr 0 8), (31, aI y13)] (by kernel_rfl) (dv 34 (v := aI ((sll a0.fKids).length : Int)) (len_slO R_E_api_Plan a0.fKids t57 (by kernel_rfl)) (by kernel_rfl) (sh 2 [(36, aB (decide (y13 < ((sll a0.fKids).length : Int)))), (35, aB (decide (y13 < ((sll a0.fKids).length : Int))))] (by kernel_rfl) ?_)))))
   refine seg (decide (y13 < ((sll a0.fKids).length : Int))) [36, 35] (fun b => [(40, aB (b && (decide (y12 ≤ a1)))), (39, ifA b (aB (decide (y12 ≤ a1))) (.undef)), (38, ifA b (aI a1) (.undef)), (37, ifA b (aI y12) (.undef))]) 10 (by kernel_rfl) ?_ ?_ ?_
   ·
    intro Q h
    refine sh 4 [(40, aB (decide (y12 ≤ a1))), (39, aB (decide (y12 ≤ a1))), (38, aI a1), (37, aI y12)] (by kernel_rfl) ?_
    exact sameN (by kernel_rfl) (by kernel_rfl) h
   ·
    intro Q h
    refine sh 4 [(40, aB false), (39, .undef), (38, .undef), (37, .undef)] (by kernel_rfl) ?_
    exact sameN (by kernel_rfl) (by kernel_rfl) h
   refine fin [(1, aI a1), (2, .ptr 0 0), (5, aI y12), (6, aI y13), (40, aB ((decide (y13 < ((sll a0.fKids).length : Int))) && (decide (y12 ≤ a1))))] rfl (by kernel_rfl) ?_
   rcases bif_some hm with ⟨h15, hm⟩ | ⟨h15, hm⟩
   ·
    refine ct h15 (by kernel_rfl) (wp_skip (sq (bq (rg (sh 4 [(46, aI y13), (45, .pv (encSl R_E_api_Plan a0.fKids)), (44, .ptr 0 8), (43, aI y12)] (by kernel_rfl) ?_)))))
    obtain ⟨x16, h17, hm⟩ := bs hm
    refine dv 47 (v := .pv (.ptr (R_api_Plan (un_api_Plan x16)) 0)) (ia_slE R_E_api_Plan a0.fKids .i64 t57 t59 h17 (R_un_api_Plan x16) rfl (by kernel_rfl)) (by kernel_rfl) (sh 4 [(51, aI (IntKind.wrap .i64 (a1 - y12))), (50, aI y12), (49, aI a1), (48, .agg [aI ((un_api_Plan x16).fKind), aI ((un_api_Plan x16).fRel), .pv (encSl R_E_api_Expr ((un_api_Plan x16).fWhere)), .pv (encSl R_E_api_Expr ((un_api_Plan x16).fLeft)), .pv (encSl R_E_api_Expr ((un_api_Plan x16).fRight)), .pv (encSl R_E_api_Expr ((un_api_Plan x16).fOut)), .pv (encSl R_api_Agg ((un_api_Plan x16).fAggs)), .pv (encSl R_api_Key ((un_api_Plan x16).fOrder)), .pv (encSl R_E_api_Plan ((un_api_Plan x16).fKids))])] (by kernel_rfl) ?_)
    obtain ⟨x18, h19, hm⟩ := bs hm
    refine dv 52 (cpure (by kernel_rfl) (ih_ref25_Bulk h19) (by kernel_rfl) (by kernel_rfl) (by kernel_rfl)) (by kernel_rfl) (sh 2 [(5, aI (IntKind.wrap .i64 (y12 + x18))), (53, aI (IntKind.wrap .i64 (y12 + x18)))] (by kernel_rfl) (fin [(1, aI a1), (2, .ptr 0 0), (5, aI (IntKind.wrap .i64 (y12 + x18))), (6, aI y13)] rfl (by kernel_rfl) (detn [(1, aI a1), (2, .ptr 0 0), (5, aI (IntKind.wrap .i64 (y12 + x18))), (6, aI (IntKind.wrap .i64 (y13 + 1)))] (by kernel_rfl) ?_)))
    exact ⟨_, _, tidyL [(1, aI a1), (2, .ptr 0 0), (5, aI (IntKind.wrap .i64 (y12 + x18))), (6, aI (IntKind.wrap .i64 (y13 + 1)))] [.box [aI a0.fKind, aI a0.fRel, .pv (encSl R_E_api_Expr a0.fWhere), .pv (encSl R_E_api_Expr a0.fLeft), .pv (encSl R_E_api_Expr a0.fRight), .pv (encSl R_E_api_Expr a0.fOut), .pv (encSl R_api_Agg a0.fAggs), .pv (encSl R_api_Key a0.fOrder), .pv (encSl R_E_api_Plan a0.fKids)] false] (by kernel_rfl), ⟨(IntKind.wrap .i64 (y12 + x18)), (IntKind.wrap .i64 (y13 + 1)), hm, rfl, rfl⟩⟩
   ·
    refine cf h15 (by kernel_rfl) (wp_exit ?_)
    exact ⟨((decide (y13 < ((sll a0.fKids).length : Int))) && (decide (y12 ≤ a1))), y12, y13, hm, rfl, rfl⟩
  refine sq (detn [(1, aI a1), (2, .ptr 0 0), (5, aI (IntKind.wrap .i64 (1 + x1))), (21, aB (decide ((IntKind.wrap .i64 (1 + x1)) ≤ a1)))] (by kernel_rfl) ?_)
  rcases bif_some hm with ⟨h20, hm⟩ | ⟨h20, hm⟩
  ·
   refine ct h20 (by kernel_rfl) (rg (sh 7 [(28, aI a1), (27, .agg [.pv .nils, .pv (encSl R_E_api_Expr a0.fLeft), aB false, .pv (encSl R_E_api_Expr a0.fRight), .pv .nils, .pv .nils]), (26, .pv (encSl R_E_api_Expr a0.fRight)), (25, .ptr 0 4), (24, .pv (encSl R_E_api_Expr a0.fLeft)), (23, .ptr 0 3), (22, aI (IntKind.wrap .i64 (1 + x1)))] (by kernel_rfl) ?_))
   obtain ⟨x21, h22, hm⟩ := bs hm
   refine dv 29 (cpure (by kernel_rfl) (ok_ref23_Bulk h22) (by kernel_rfl) (by kernel_rfl) (by kernel_rfl)) (by kernel_rfl) (sh 2 [(5, aI (IntKind.wrap .i64 ((IntKind.wrap .i64 (1 + x1)) + x21))), (30, aI (IntKind.wrap .i64 ((IntKind.wrap .i64 (1 + x1)) + x21)))] (by kernel_rfl) (fin [(1, aI a1), (2, .ptr 0 0), (5, aI (IntKind.wrap .i64 ((IntKind.wrap .i64 (1 + x1)) + x21)))] rfl (by kernel_rfl) ?_))
   exact ⟨(IntKind.wrap .i64 ((IntKind.wrap .i64 (1 + x1)) + x21)), .any, hm, (mk_same (by kernel_rfl)), rfl⟩
  ·
   refine cf h20 (by kernel_rfl) (wp_skip ?_)
   exact ⟨(IntKind.wrap .i64 (1 + x1)), aB (decide ((IntKind.wrap .i64 (1 + x1)) ≤ a1)), hm, (mk_same (by kernel_rfl)), rfl⟩
theorem okt_ref25_Bulk : ∀ (m : Nat), ∀ {n : Nat} {a0 : api_Plan} {a1 : Int} {r : Int} (hm : ref25_Bulk_t m n a0 a1 = some r), call G n 55 [.agg [aI a0.fKind, aI a0.fRel, .pv (encSl R_E_api_Expr a0.fWhere), .pv (encSl R_E_api_Expr a0.fLeft), .pv (encSl R_E_api_Expr a0.fRight), .pv (encSl R_E_api_Expr a0.fOut), .pv (encSl R_api_Agg a0.fAggs), .pv (encSl R_api_Key a0.fOrder), .pv (encSl R_E_api_Plan a0.fKids)], aI a1] [] = some (.ret (aI r), [])
  | 0 => by intros; rename_i hm; exact nomatch hm
  | m + 1 => fun hm =>
    okf_ref25_Bulk (okt_ref25_Bulk m) hm
theorem ok_ref25_Bulk {n : Nat} {a0 : api_Plan} {a1 : Int} {r : Int} (hm : ref25_Bulk n a0 a1 = some r) :
    call G n 55 [.agg [aI a0.fKind, aI a0.fRel, .pv (encSl R_E_api_Expr a0.fWhere), .pv (encSl R_E_api_Expr a0.fLeft), .pv (encSl R_E_api_Expr a0.fRight), .pv (encSl R_E_api_Expr a0.fOut), .pv (encSl R_api_Agg a0.fAggs), .pv (encSl R_api_Key a0.fOrder), .pv (encSl R_E_api_Plan a0.fKids)], aI a1] [] = some (.ret (aI r), []) := okt_ref25_Bulk n hm
theorem ok_law25_Great {n : Nat} {a0 : api_Plan} {r : Bool} (hm : law25_Great n a0 = some r) :
    call G n 20 [.agg [aI a0.fKind, aI a0.fRel, .pv (encSl R_E_api_Expr a0.fWhere), .pv (encSl R_E_api_Expr a0.fLeft), .pv (encSl R_E_api_Expr a0.fRight), .pv (encSl R_E_api_Expr a0.fOut), .pv (encSl R_api_Agg a0.fAggs), .pv (encSl R_api_Key a0.fOrder), .pv (encSl R_E_api_Plan a0.fKids)]] [] = some (.ret (aB r), []) := by
  unfold law25_Great at hm
  obtain ⟨n, rfl, h0⟩ := at1_some hm
  replace hm := h0; clear h0
  refine callL 6 [(0, .agg [aI a0.fKind, aI a0.fRel, .pv (encSl R_E_api_Expr a0.fWhere), .pv (encSl R_E_api_Expr a0.fLeft), .pv (encSl R_E_api_Expr a0.fRight), .pv (encSl R_E_api_Expr a0.fOut), .pv (encSl R_api_Agg a0.fAggs), .pv (encSl R_api_Key a0.fOrder), .pv (encSl R_E_api_Plan a0.fKids)])] func20 rfl (by kernel_rfl) (sq (det [(1, .ptr 0 0)] [.box [aI a0.fKind, aI a0.fRel, .pv (encSl R_E_api_Expr a0.fWhere), .pv (encSl R_E_api_Expr a0.fLeft), .pv (encSl R_E_api_Expr a0.fRight), .pv (encSl R_E_api_Expr a0.fOut), .pv (encSl R_api_Agg a0.fAggs), .pv (encSl R_api_Key a0.fOrder), .pv (encSl R_E_api_Plan a0.fKids)] false] (by kernel_rfl) (sq (rg (sh 1 [(3, .agg [aI a0.fKind, aI a0.fRel, .pv (encSl R_E_api_Expr a0.fWhere), .pv (encSl R_E_api_Expr a0.fLeft), .pv (encSl R_E_api_Expr a0.fRight), .pv (encSl R_E_api_Expr a0.fOut), .pv (encSl R_api_Agg a0.fAggs), .pv (encSl R_api_Key a0.fOrder), .pv (encSl R_E_api_Plan a0.fKids)])] (by kernel_rfl) ?_)))))
  obtain ⟨x1, h2, hm⟩ := bs hm
  refine dv 4 (cpure (by kernel_rfl) (ok_ref25_Bulk h2) (by kernel_rfl) (by kernel_rfl) (by kernel_rfl)) (by kernel_rfl) (sh 2 [(2, aB (decide (x1 > 800))), (5, aB (decide (x1 > 800)))] (by kernel_rfl) (fin [(2, aB (decide (x1 > 800)))] rfl (by kernel_rfl) (wp_ret ?_)))
  obtain rfl := Option.some.inj hm
  exact ⟨trivial, by kernel_rfl⟩
theorem ok_plan_kids {n : Nat} {a0 : Int} {r : Int} (hm : plan_kids n a0 = some r) :
    call G n 85 [aI a0] [] = some (.ret (aI r), []) := by
  unfold plan_kids at hm
  obtain ⟨n, rfl, h0⟩ := at1_some hm
  replace hm := h0; clear h0
  refine callL 14 [(0, aI a0)] func85 rfl (by kernel_rfl) (sq (detn [(0, aI a0)] (by kernel_rfl) (sq (sq (detn [(3, aI a0)] (by kernel_rfl) (bq (sq (detn [(3, aI a0), (4, aB (a0 == 1))] (by kernel_rfl) ?_))))))))
  rcases bif_some hm with ⟨h1, hm⟩ | ⟨h1, hm⟩
  ·
   refine ct h1 (by kernel_rfl) (sq (detn [(2, aI 0)] (by kernel_rfl) (wp_ret ?_)))
   obtain rfl := Option.some.inj hm
   exact ⟨trivial, by kernel_rfl⟩
  ·
   refine cf h1 (by kernel_rfl) ?_
   obtain ⟨k3, hk3, hm⟩ := withK_some hm
   refine mid (fun t H => (∃ (y2 : Bool), k3 y2 = some r ∧ t = mk 14 [(3, aI a0), (6, aB y2)] ∧ H = [])) ?_ ?_
   ·
    rintro _ _ ⟨y2, hm, rfl, rfl⟩
    subst hk3
    rcases bif_some hm with ⟨h4, hm⟩ | ⟨h4, hm⟩
    ·
     refine ct h4 (by kernel_rfl) (sq (detn [(2, aI 1)] (by kernel_rfl) (wp_ret ?_)))
     obtain rfl := Option.some.inj hm
     exact ⟨trivial, by kernel_rfl⟩
    ·
     refine cf h4 (by kernel_rfl) (sq (sq (detn [(3, aI a0), (10, aB (a0 == 2))] (by kernel_rfl) ?_)))
     rcases bif_some hm with ⟨h5, hm⟩ | ⟨h5, hm⟩
     ·
      refine ct h5 (by kernel_rfl) (wp_skip ?_)
      rcases bif_some hm with ⟨h6, hm⟩ | ⟨h6, hm⟩
      ·
       refine ct h6 (by kernel_rfl) (sq (detn [(2, aI 2)] (by kernel_rfl) (wp_ret ?_)))
       obtain rfl := Option.some.inj hm
       exact ⟨trivial, by kernel_rfl⟩
      ·
       refine cf h6 (by kernel_rfl) (wp_skip (sq (detn [(2, aI (-1))] (by kernel_rfl) (wp_ret ?_))))
       obtain rfl := Option.some.inj hm
       exact ⟨trivial, by kernel_rfl⟩
     ·
      refine cf h5 (by kernel_rfl) (sq (detn [(3, aI a0), (10, aB (a0 == 3))] (by kernel_rfl) ?_))
      rcases bif_some hm with ⟨h7, hm⟩ | ⟨h7, hm⟩
      ·
       refine ct h7 (by kernel_rfl) (wp_skip ?_)
       rcases bif_some hm with ⟨h8, hm⟩ | ⟨h8, hm⟩
       ·
        refine ct h8 (by kernel_rfl) (sq (detn [(2, aI 2)] (by kernel_rfl) (wp_ret ?_)))
        obtain rfl := Option.some.inj hm
        exact ⟨trivial, by kernel_rfl⟩
       ·
        refine cf h8 (by kernel_rfl) (wp_skip (sq (detn [(2, aI (-1))] (by kernel_rfl) (wp_ret ?_))))
        obtain rfl := Option.some.inj hm
        exact ⟨trivial, by kernel_rfl⟩
      ·
       refine cf h7 (by kernel_rfl) (detn [(10, aB (a0 == 4))] (by kernel_rfl) ?_)
       rcases bif_some hm with ⟨h9, hm⟩ | ⟨h9, hm⟩
       ·
        refine ct h9 (by kernel_rfl) (sq (detn [(2, aI 2)] (by kernel_rfl) (wp_ret ?_)))
        obtain rfl := Option.some.inj hm
        exact ⟨trivial, by kernel_rfl⟩
       ·
        refine cf h9 (by kernel_rfl) (wp_skip (sq (detn [(2, aI (-1))] (by kernel_rfl) (wp_ret ?_))))
        obtain rfl := Option.some.inj hm
        exact ⟨trivial, by kernel_rfl⟩
   refine sq (detn [(3, aI a0), (6, aB (a0 == 5))] (by kernel_rfl) ?_)
   rcases bif_some hm with ⟨h10, hm⟩ | ⟨h10, hm⟩
   ·
    refine ct h10 (by kernel_rfl) (wp_skip ?_)
    exact ⟨(a0 == 5), hm, rfl, rfl⟩
   ·
    refine cf h10 (by kernel_rfl) (sq (detn [(3, aI a0), (6, aB (a0 == 6))] (by kernel_rfl) ?_))
    rcases bif_some hm with ⟨h11, hm⟩ | ⟨h11, hm⟩
    ·
     refine ct h11 (by kernel_rfl) (wp_skip ?_)
     exact ⟨(a0 == 6), hm, rfl, rfl⟩
    ·
     refine cf h11 (by kernel_rfl) (detn [(3, aI a0), (6, aB (a0 == 7))] (by kernel_rfl) ?_)
     exact ⟨(a0 == 7), hm, rfl, rfl⟩
theorem ok_plan_lists {n : Nat} {a0 : api_Plan} {r : Bool} (hm : plan_lists n a0 = some r) :
    call G n 86 [.agg [aI a0.fKind, aI a0.fRel, .pv (encSl R_E_api_Expr a0.fWhere), .pv (encSl R_E_api_Expr a0.fLeft), .pv (encSl R_E_api_Expr a0.fRight), .pv (encSl R_E_api_Expr a0.fOut), .pv (encSl R_api_Agg a0.fAggs), .pv (encSl R_api_Key a0.fOrder), .pv (encSl R_E_api_Plan a0.fKids)]] [] = some (.ret (aB r), []) := by
  unfold plan_lists at hm
  obtain ⟨n, rfl, h0⟩ := at1_some hm
  replace hm := h0; clear h0
  refine callL 68 [(0, .agg [aI a0.fKind, aI a0.fRel, .pv (encSl R_E_api_Expr a0.fWhere), .pv (encSl R_E_api_Expr a0.fLeft), .pv (encSl R_E_api_Expr a0.fRight), .pv (encSl R_E_api_Expr a0.fOut), .pv (encSl R_api_Agg a0.fAggs), .pv (encSl R_api_Key a0.fOrder), .pv (encSl R_E_api_Plan a0.fKids)])] func86 rfl (by kernel_rfl) (sq (det [(1, .ptr 0 0)] [.box [aI a0.fKind, aI a0.fRel, .pv (encSl R_E_api_Expr a0.fWhere), .pv (encSl R_E_api_Expr a0.fLeft), .pv (encSl R_E_api_Expr a0.fRight), .pv (encSl R_E_api_Expr a0.fOut), .pv (encSl R_api_Agg a0.fAggs), .pv (encSl R_api_Key a0.fOrder), .pv (encSl R_E_api_Plan a0.fKids)] false] (by kernel_rfl) (sq (rgd (shd 2 [(9, .pv (encSl R_E_api_Expr a0.fWhere)), (8, .ptr 0 2)] (by kernel_rfl) (dvd 10 (v := aI ((sll a0.fWhere).length : Int)) (len_slO R_E_api_Expr a0.fWhere t23 (by kernel_rfl)) (by kernel_rfl) (shd 2 [(12, .pv (encSl R_E_api_Expr a0.fLeft)), (11, .ptr 0 3)] (by kernel_rfl) (dvd 13 (v := aI ((sll a0.fLeft).length : Int)) (len_slO R_E_api_Expr a0.fLeft t23 (by kernel_rfl)) (by kernel_rfl) (shd 2 [(15, .pv (encSl R_E_api_Expr a0.fRight)), (14, .ptr 0 4)] (by kernel_rfl) (dvd 16 (v := aI ((sll a0.fRight).length : Int)) (len_slO R_E_api_Expr a0.fRight t23 (by kernel_rfl)) (by kernel_rfl) (shd 3 [(19, .pv (encSl R_E_api_Expr a0.fOut)), (18, .ptr 0 5), (17, aI (IntKind.wrap .i64 (((sll a0.fLeft).length : Int) + ((sll a0.fRight).length : Int))))] (by kernel_rfl) (dvd 20 (v := aI ((sll a0.fOut).length : Int)) (len_slO R_E_api_Expr a0.fOut t23 (by kernel_rfl)) (by kernel_rfl) ?_))))))))))))
  refine shd 2 [(22, .pv (encSl R_api_Agg a0.fAggs)), (21, .ptr 0 6)] (by kernel_rfl) (dvd 23 (v := aI ((sll a0.fAggs).length : Int)) (len_slO R_api_Agg a0.fAggs t24 (by kernel_rfl)) (by kernel_rfl) (shd 2 [(25, .pv (encSl R_api_Key a0.fOrder)), (24, .ptr 0 7)] (by kernel_rfl) (dvd 26 (v := aI ((sll a0.fOrder).length : Int)) (len_slO R_api_Key a0.fOrder t25 (by kernel_rfl)) (by kernel_rfl) (shd 5 [(7, aI ((sll a0.fOrder).length : Int)), (6, aI ((sll a0.fAggs).length : Int)), (5, aI ((sll a0.fOut).length : Int)), (4, aI (IntKind.wrap .i64 (((sll a0.fLeft).length : Int) + ((sll a0.fRight).length : Int)))), (3, aI ((sll a0.fWhere).length : Int))] (by kernel_rfl) (find [(1, .ptr 0 0), (3, aI ((sll a0.fWhere).length : Int)), (4, aI (IntKind.wrap .i64 (((sll a0.fLeft).length : Int) + ((sll a0.fRight).length : Int)))), (5, aI ((sll a0.fOut).length : Int)), (6, aI ((sll a0.fAggs).length : Int)), (7, aI ((sll a0.fOrder).length : Int))] rfl (by kernel_rfl) (by kernel_rfl) ?_)))))
  obtain ⟨k7, hk7, hm⟩ := withK_some hm
  refine mid (fun t H => (∃ (y2 : Int) (y3 : Int) (y4 : Int) (y5 : Int) (y6 : Int) (w1 : AV), k7 y2 y3 y4 y5 y6 = some r ∧ t = mk 68 [(3, aI y2), (4, aI y3), (5, aI y4), (6, aI y5), (7, aI y6), (39, w1)] ∧ H = [.box [aI a0.fKind, aI a0.fRel, .pv (encSl R_E_api_Expr a0.fWhere), .pv (encSl R_E_api_Expr a0.fLeft), .pv (encSl R_E_api_Expr a0.fRight), .pv (encSl R_E_api_Expr a0.fOut), .pv (encSl R_api_Agg a0.fAggs), .pv (encSl R_api_Key a0.fOrder), .pv (encSl R_E_api_Plan a0.fKids)] false])) ?_ ?_
  ·
   rintro _ _ ⟨y2, y3, y4, y5, y6, w1, hm, rfl, rfl⟩
   subst hk7
   refine sq (detn [(2, aB ((IntKind.wrap .i64 ((IntKind.wrap .i64 ((IntKind.wrap .i64 ((IntKind.wrap .i64 (y2 + y3)) + y4)) + y5)) + y6)) == 0))] (by kernel_rfl) (wp_ret ?_))
   obtain rfl := Option.some.inj hm
   exact ⟨trivial, by kernel_rfl⟩
  refine sq (detn [(1, .ptr 0 0), (3, aI ((sll a0.fWhere).length : Int)), (4, aI (IntKind.wrap .i64 (((sll a0.fLeft).length : Int) + ((sll a0.fRight).length : Int)))), (5, aI ((sll a0.fOut).length : Int)), (6, aI ((sll a0.fAggs).length : Int)), (7, aI ((sll a0.fOrder).length : Int)), (28, aI a0.fKind)] (by kernel_rfl) (bq (sq (bq (sq (bq (sq (bq (sq (bq ?_))))))))))
  obtain ⟨k9, hk9, hm⟩ := withK_some hm
  refine mid (fun t H => (∃ (y8 : Bool), k9 () = some r ∧ t = mk 68 [(1, .ptr 0 0), (3, aI ((sll a0.fWhere).length : Int)), (4, aI (IntKind.wrap .i64 (((sll a0.fLeft).length : Int) + ((sll a0.fRight).length : Int)))), (5, aI ((sll a0.fOut).length : Int)), (6, aI ((sll a0.fAggs).length : Int)), (7, aI ((sll a0.fOrder).length : Int)), (28, aI a0.fKind), (29, aB y8)] ∧ H = [.box [aI a0.fKind, aI a0.fRel, .pv (encSl R_E_api_Expr a0.fWhere), .pv (encSl R_E_api_Expr a0.fLeft), .pv (encSl R_E_api_Expr a0.fRight), .pv (encSl R_E_api_Expr a0.fOut), .pv (encSl R_api_Agg a0.fAggs), .pv (encSl R_api_Key a0.fOrder), .pv (encSl R_E_api_Plan a0.fKids)] false])) ?_ ?_
  ·
   rintro _ _ ⟨y8, hm, rfl, rfl⟩
   subst hk9
   refine sq (sq (rg (sh 2 [(42, .pv (encSl R_E_api_Expr a0.fLeft)), (41, .ptr 0 3)] (by kernel_rfl) (dv 43 (v := aI ((sll a0.fLeft).length : Int)) (len_slO R_E_api_Expr a0.fLeft t23 (by kernel_rfl)) (by kernel_rfl) (sh 2 [(45, .pv (encSl R_E_api_Expr a0.fRight)), (44, .ptr 0 4)] (by kernel_rfl) (dv 46 (v := aI ((sll a0.fRight).length : Int)) (len_slO R_E_api_Expr a0.fRight t23 (by kernel_rfl)) (by kernel_rfl) (sh 2 [(48, aB (((sll a0.fLeft).length : Int) != ((sll a0.fRight).length : Int))), (47, aB (((sll a0.fLeft).length : Int) != ((sll a0.fRight).length : Int)))] (by kernel_rfl) ?_)))))))
   refine seg (((sll a0.fLeft).length : Int) != ((sll a0.fRight).length : Int)) [48, 47] (fun b => [(53, aB (b || (((sll a0.fLeft).length : Int) == 0))), (52, ifA b (.undef) (aB (((sll a0.fLeft).length : Int) == 0))), (51, ifA b (.undef) (aI ((sll a0.fLeft).length : Int))), (50, ifA b (.undef) (.pv (encSl R_E_api_Expr a0.fLeft))), (49, ifA b (.undef) (.ptr 0 3))]) 13 (by kernel_rfl) ?_ ?_ ?_
   ·
    intro Q h
    refine sh 5 [(53, aB true), (52, .undef), (51, .undef), (50, .undef), (49, .undef)] (by kernel_rfl) ?_
    exact sameN (by kernel_rfl) (by kernel_rfl) h
   ·
    intro Q h
    refine sh 2 [(50, .pv (encSl R_E_api_Expr a0.fLeft)), (49, .ptr 0 3)] (by kernel_rfl) (dv 51 (v := aI ((sll a0.fLeft).length : Int)) (len_slO R_E_api_Expr a0.fLeft t23 (by kernel_rfl)) (by kernel_rfl) (sh 2 [(53, aB (((sll a0.fLeft).length : Int) == 0)), (52, aB (((sll a0.fLeft).length : Int) == 0))] (by kernel_rfl) ?_))
    exact sameN (by kernel_rfl) (by kernel_rfl) h
   refine fin [(5, aI ((sll a0.fOut).length : Int)), (6, aI ((sll a0.fAggs).length : Int)), (7, aI ((sll a0.fOrder).length : Int)), (53, aB ((((sll a0.fLeft).length : Int) != ((sll a0.fRight).length : Int)) || (((sll a0.fLeft).length : Int) == 0)))] rfl (by kernel_rfl) ?_
   rcases bif_some hm with ⟨h10, hm⟩ | ⟨h10, hm⟩
   ·
    refine ct h10 (by kernel_rfl) (sq (detn [(2, aB false)] (by kernel_rfl) (wp_ret ?_)))
    obtain rfl := Option.some.inj hm
    exact ⟨trivial, by kernel_rfl⟩
   ·
    refine cf h10 (by kernel_rfl) (wp_skip (detn [(4, aI 0), (5, aI ((sll a0.fOut).length : Int)), (6, aI ((sll a0.fAggs).length : Int)), (7, aI ((sll a0.fOrder).length : Int))] (by kernel_rfl) (sq (detn [(3, aI 0), (4, aI 0), (5, aI ((sll a0.fOut).length : Int)), (6, aI ((sll a0.fAggs).length : Int)), (7, aI ((sll a0.fOrder).length : Int))] (by kernel_rfl) (wp_exit ?_)))))
    exact ⟨0, 0, ((sll a0.fOut).length : Int), ((sll a0.fAggs).length : Int), ((sll a0.fOrder).length : Int), .any, hm, (mk_same (by kernel_rfl)), rfl⟩
  refine bq (sq ?_)
  obtain ⟨k12, hk12, hm⟩ := withK_some hm
  refine mid (fun t H => (∃ (y11 : Bool), k12 () = some r ∧ t = mk 68 [(1, .ptr 0 0), (3, aI ((sll a0.fWhere).length : Int)), (4, aI (IntKind.wrap .i64 (((sll a0.fLeft).length : Int) + ((sll a0.fRight).length : Int)))), (5, aI ((sll a0.fOut).length : Int)), (6, aI ((sll a0.fAggs).length : Int)), (7, aI ((sll a0.fOrder).length : Int)), (28, aI a0.fKind), (29, aB y11)] ∧ H = [.box [aI a0.fKind, aI a0.fRel, .pv (encSl R_E_api_Expr a0.fWhere), .pv (encSl R_E_api_Expr a0.fLeft), .pv (encSl R_E_api_Expr a0.fRight), .pv (encSl R_E_api_Expr a0.fOut), .pv (encSl R_api_Agg a0.fAggs), .pv (encSl R_api_Key a0.fOrder), .pv (encSl R_E_api_Plan a0.fKids)] false])) ?_ ?_
  ·
   rintro _ _ ⟨y11, hm, rfl, rfl⟩
   subst hk12
   refine sq (sq (sq (detn [(3, aI ((sll a0.fWhere).length : Int)), (4, aI (IntKind.wrap .i64 (((sll a0.fLeft).length : Int) + ((sll a0.fRight).length : Int)))), (5, aI ((sll a0.fOut).length : Int)), (6, aI ((sll a0.fAggs).length : Int)), (7, aI ((sll a0.fOrder).length : Int)), (28, aI a0.fKind), (32, aB (a0.fKind == 1))] (by kernel_rfl) ?_)))
   rcases bif_some hm with ⟨h13, hm⟩ | ⟨h13, hm⟩
   ·
    refine ct h13 (by kernel_rfl) (wp_skip ?_)
    rcases bif_some hm with ⟨h14, hm⟩ | ⟨h14, hm⟩
    ·
     refine ct h14 (by kernel_rfl) (wp_exit (sq (detn [(3, aI 0), (4, aI (IntKind.wrap .i64 (((sll a0.fLeft).length : Int) + ((sll a0.fRight).length : Int)))), (5, aI ((sll a0.fOut).length : Int)), (6, aI ((sll a0.fAggs).length : Int)), (7, aI ((sll a0.fOrder).length : Int))] (by kernel_rfl) (wp_exit ?_))))
     exact ⟨0, (IntKind.wrap .i64 (((sll a0.fLeft).length : Int) + ((sll a0.fRight).length : Int))), ((sll a0.fOut).length : Int), ((sll a0.fAggs).length : Int), ((sll a0.fOrder).length : Int), .any, hm, (mk_same (by kernel_rfl)), rfl⟩
    ·
     refine cf h14 (by kernel_rfl) (wp_skip (sq (sq (detn [(3, aI ((sll a0.fWhere).length : Int)), (4, aI (IntKind.wrap .i64 (((sll a0.fLeft).length : Int) + ((sll a0.fRight).length : Int)))), (5, aI ((sll a0.fOut).length : Int)), (6, aI ((sll a0.fAggs).length : Int)), (7, aI ((sll a0.fOrder).length : Int)), (28, aI a0.fKind), (35, aB (a0.fKind == 6))] (by kernel_rfl) ?_))))
     rcases bif_some hm with ⟨h15, hm⟩ | ⟨h15, hm⟩
     ·
      refine ct h15 (by kernel_rfl) (wp_exit (sq (sq (sq (detn [(3, aI ((sll a0.fWhere).length : Int)), (4, aI (IntKind.wrap .i64 (((sll a0.fLeft).length : Int) + ((sll a0.fRight).length : Int)))), (6, aI ((sll a0.fAggs).length : Int)), (7, aI ((sll a0.fOrder).length : Int)), (55, aB (((sll a0.fOut).length : Int) == 0))] (by kernel_rfl) ?_)))))
      rcases bif_some hm with ⟨h16, hm⟩ | ⟨h16, hm⟩
      ·
       refine ct h16 (by kernel_rfl) (sq (detn [(2, aB false)] (by kernel_rfl) (wp_ret ?_)))
       obtain rfl := Option.some.inj hm
       exact ⟨trivial, by kernel_rfl⟩
      ·
       refine cf h16 (by kernel_rfl) (wp_skip (detn [(3, aI ((sll a0.fWhere).length : Int)), (4, aI (IntKind.wrap .i64 (((sll a0.fLeft).length : Int) + ((sll a0.fRight).length : Int)))), (5, aI 0), (6, aI ((sll a0.fAggs).length : Int)), (7, aI ((sll a0.fOrder).length : Int))] (by kernel_rfl) (wp_exit ?_)))
       exact ⟨((sll a0.fWhere).length : Int), (IntKind.wrap .i64 (((sll a0.fLeft).length : Int) + ((sll a0.fRight).length : Int))), 0, ((sll a0.fAggs).length : Int), ((sll a0.fOrder).length : Int), .any, hm, (mk_same (by kernel_rfl)), rfl⟩
     ·
      refine cf h15 (by kernel_rfl) (wp_skip (sq (sq (detn [(3, aI ((sll a0.fWhere).length : Int)), (4, aI (IntKind.wrap .i64 (((sll a0.fLeft).length : Int) + ((sll a0.fRight).length : Int)))), (5, aI ((sll a0.fOut).length : Int)), (6, aI ((sll a0.fAggs).length : Int)), (7, aI ((sll a0.fOrder).length : Int)), (28, aI a0.fKind), (37, aB (a0.fKind == 5))] (by kernel_rfl) ?_))))
      rcases bif_some hm with ⟨h17, hm⟩ | ⟨h17, hm⟩
      ·
       refine ct h17 (by kernel_rfl) (wp_exit (sq (detn [(3, aI ((sll a0.fWhere).length : Int)), (4, aI (IntKind.wrap .i64 (((sll a0.fLeft).length : Int) + ((sll a0.fRight).length : Int)))), (5, aI 0), (6, aI 0), (7, aI ((sll a0.fOrder).length : Int))] (by kernel_rfl) (wp_exit ?_))))
       exact ⟨((sll a0.fWhere).length : Int), (IntKind.wrap .i64 (((sll a0.fLeft).length : Int) + ((sll a0.fRight).length : Int))), 0, 0, ((sll a0.fOrder).length : Int), .any, hm, (mk_same (by kernel_rfl)), rfl⟩
      ·
       refine cf h17 (by kernel_rfl) (wp_skip (sq (detn [(3, aI ((sll a0.fWhere).length : Int)), (4, aI (IntKind.wrap .i64 (((sll a0.fLeft).length : Int) + ((sll a0.fRight).length : Int)))), (5, aI ((sll a0.fOut).length : Int)), (6, aI ((sll a0.fAggs).length : Int)), (7, aI ((sll a0.fOrder).length : Int)), (39, aB (a0.fKind == 7))] (by kernel_rfl) ?_)))
       rcases bif_some hm with ⟨h18, hm⟩ | ⟨h18, hm⟩
       ·
        refine ct h18 (by kernel_rfl) (wp_exit (sq (sq (sq (detn [(3, aI ((sll a0.fWhere).length : Int)), (4, aI (IntKind.wrap .i64 (((sll a0.fLeft).length : Int) + ((sll a0.fRight).length : Int)))), (5, aI ((sll a0.fOut).length : Int)), (6, aI ((sll a0.fAggs).length : Int)), (57, aB (((sll a0.fOrder).length : Int) == 0))] (by kernel_rfl) ?_)))))
        rcases bif_some hm with ⟨h19, hm⟩ | ⟨h19, hm⟩
        ·
         refine ct h19 (by kernel_rfl) (sq (detn [(2, aB false)] (by kernel_rfl) (wp_ret ?_)))
         obtain rfl := Option.some.inj hm
         exact ⟨trivial, by kernel_rfl⟩
        ·
         refine cf h19 (by kernel_rfl) (wp_skip (detn [(3, aI ((sll a0.fWhere).length : Int)), (4, aI (IntKind.wrap .i64 (((sll a0.fLeft).length : Int) + ((sll a0.fRight).length : Int)))), (5, aI ((sll a0.fOut).length : Int)), (6, aI ((sll a0.fAggs).length : Int)), (7, aI 0)] (by kernel_rfl) (wp_exit ?_)))
         exact ⟨((sll a0.fWhere).length : Int), (IntKind.wrap .i64 (((sll a0.fLeft).length : Int) + ((sll a0.fRight).length : Int))), ((sll a0.fOut).length : Int), ((sll a0.fAggs).length : Int), 0, .any, hm, (mk_same (by kernel_rfl)), rfl⟩
       ·
        refine cf h18 (by kernel_rfl) (wp_skip (wp_exit ?_))
        exact ⟨((sll a0.fWhere).length : Int), (IntKind.wrap .i64 (((sll a0.fLeft).length : Int) + ((sll a0.fRight).length : Int))), ((sll a0.fOut).length : Int), ((sll a0.fAggs).length : Int), ((sll a0.fOrder).length : Int), aB (a0.fKind == 7), hm, (mk_same (by kernel_rfl)), rfl⟩
   ·
    refine cf h13 (by kernel_rfl) (detn [(3, aI ((sll a0.fWhere).length : Int)), (4, aI (IntKind.wrap .i64 (((sll a0.fLeft).length : Int) + ((sll a0.fRight).length : Int)))), (5, aI ((sll a0.fOut).length : Int)), (6, aI ((sll a0.fAggs).length : Int)), (7, aI ((sll a0.fOrder).length : Int)), (28, aI a0.fKind), (32, aB (a0.fKind == 2))] (by kernel_rfl) ?_)
    rcases bif_some hm with ⟨h20, hm⟩ | ⟨h20, hm⟩
    ·
     refine ct h20 (by kernel_rfl) (wp_exit (sq (detn [(3, aI 0), (4, aI (IntKind.wrap .i64 (((sll a0.fLeft).length : Int) + ((sll a0.fRight).length : Int)))), (5, aI ((sll a0.fOut).length : Int)), (6, aI ((sll a0.fAggs).length : Int)), (7, aI ((sll a0.fOrder).length : Int))] (by kernel_rfl) (wp_exit ?_))))
     exact ⟨0, (IntKind.wrap .i64 (((sll a0.fLeft).length : Int) + ((sll a0.fRight).length : Int))), ((sll a0.fOut).length : Int), ((sll a0.fAggs).length : Int), ((sll a0.fOrder).length : Int), .any, hm, (mk_same (by kernel_rfl)), rfl⟩
    ·
     refine cf h20 (by kernel_rfl) (wp_skip (sq (sq (detn [(3, aI ((sll a0.fWhere).length : Int)), (4, aI (IntKind.wrap .i64 (((sll a0.fLeft).length : Int) + ((sll a0.fRight).length : Int)))), (5, aI ((sll a0.fOut).length : Int)), (6, aI ((sll a0.fAggs).length : Int)), (7, aI ((sll a0.fOrder).length : Int)), (28, aI a0.fKind), (35, aB (a0.fKind == 6))] (by kernel_rfl) ?_))))
     rcases bif_some hm with ⟨h21, hm⟩ | ⟨h21, hm⟩
     ·
      refine ct h21 (by kernel_rfl) (wp_exit (sq (sq (sq (detn [(3, aI ((sll a0.fWhere).length : Int)), (4, aI (IntKind.wrap .i64 (((sll a0.fLeft).length : Int) + ((sll a0.fRight).length : Int)))), (6, aI ((sll a0.fAggs).length : Int)), (7, aI ((sll a0.fOrder).length : Int)), (55, aB (((sll a0.fOut).length : Int) == 0))] (by kernel_rfl) ?_)))))
      rcases bif_some hm with ⟨h22, hm⟩ | ⟨h22, hm⟩
      ·
       refine ct h22 (by kernel_rfl) (sq (detn [(2, aB false)] (by kernel_rfl) (wp_ret ?_)))
       obtain rfl := Option.some.inj hm
       exact ⟨trivial, by kernel_rfl⟩
      ·
       refine cf h22 (by kernel_rfl) (wp_skip (detn [(3, aI ((sll a0.fWhere).length : Int)), (4, aI (IntKind.wrap .i64 (((sll a0.fLeft).length : Int) + ((sll a0.fRight).length : Int)))), (5, aI 0), (6, aI ((sll a0.fAggs).length : Int)), (7, aI ((sll a0.fOrder).length : Int))] (by kernel_rfl) (wp_exit ?_)))
       exact ⟨((sll a0.fWhere).length : Int), (IntKind.wrap .i64 (((sll a0.fLeft).length : Int) + ((sll a0.fRight).length : Int))), 0, ((sll a0.fAggs).length : Int), ((sll a0.fOrder).length : Int), .any, hm, (mk_same (by kernel_rfl)), rfl⟩
     ·
      refine cf h21 (by kernel_rfl) (wp_skip (sq (sq (detn [(3, aI ((sll a0.fWhere).length : Int)), (4, aI (IntKind.wrap .i64 (((sll a0.fLeft).length : Int) + ((sll a0.fRight).length : Int)))), (5, aI ((sll a0.fOut).length : Int)), (6, aI ((sll a0.fAggs).length : Int)), (7, aI ((sll a0.fOrder).length : Int)), (28, aI a0.fKind), (37, aB (a0.fKind == 5))] (by kernel_rfl) ?_))))
      rcases bif_some hm with ⟨h23, hm⟩ | ⟨h23, hm⟩
      ·
       refine ct h23 (by kernel_rfl) (wp_exit (sq (detn [(3, aI ((sll a0.fWhere).length : Int)), (4, aI (IntKind.wrap .i64 (((sll a0.fLeft).length : Int) + ((sll a0.fRight).length : Int)))), (5, aI 0), (6, aI 0), (7, aI ((sll a0.fOrder).length : Int))] (by kernel_rfl) (wp_exit ?_))))
       exact ⟨((sll a0.fWhere).length : Int), (IntKind.wrap .i64 (((sll a0.fLeft).length : Int) + ((sll a0.fRight).length : Int))), 0, 0, ((sll a0.fOrder).length : Int), .any, hm, (mk_same (by kernel_rfl)), rfl⟩
      ·
       refine cf h23 (by kernel_rfl) (wp_skip (sq (detn [(3, aI ((sll a0.fWhere).length : Int)), (4, aI (IntKind.wrap .i64 (((sll a0.fLeft).length : Int) + ((sll a0.fRight).length : Int)))), (5, aI ((sll a0.fOut).length : Int)), (6, aI ((sll a0.fAggs).length : Int)), (7, aI ((sll a0.fOrder).length : Int)), (39, aB (a0.fKind == 7))] (by kernel_rfl) ?_)))
       rcases bif_some hm with ⟨h24, hm⟩ | ⟨h24, hm⟩
       ·
        refine ct h24 (by kernel_rfl) (wp_exit (sq (sq (sq (detn [(3, aI ((sll a0.fWhere).length : Int)), (4, aI (IntKind.wrap .i64 (((sll a0.fLeft).length : Int) + ((sll a0.fRight).length : Int)))), (5, aI ((sll a0.fOut).length : Int)), (6, aI ((sll a0.fAggs).length : Int)), (57, aB (((sll a0.fOrder).length : Int) == 0))] (by kernel_rfl) ?_)))))
        rcases bif_some hm with ⟨h25, hm⟩ | ⟨h25, hm⟩
        ·
         refine ct h25 (by kernel_rfl) (sq (detn [(2, aB false)] (by kernel_rfl) (wp_ret ?_)))
         obtain rfl := Option.some.inj hm
         exact ⟨trivial, by kernel_rfl⟩
        ·
         refine cf h25 (by kernel_rfl) (wp_skip (detn [(3, aI ((sll a0.fWhere).length : Int)), (4, aI (IntKind.wrap .i64 (((sll a0.fLeft).length : Int) + ((sll a0.fRight).length : Int)))), (5, aI ((sll a0.fOut).length : Int)), (6, aI ((sll a0.fAggs).length : Int)), (7, aI 0)] (by kernel_rfl) (wp_exit ?_)))
         exact ⟨((sll a0.fWhere).length : Int), (IntKind.wrap .i64 (((sll a0.fLeft).length : Int) + ((sll a0.fRight).length : Int))), ((sll a0.fOut).length : Int), ((sll a0.fAggs).length : Int), 0, .any, hm, (mk_same (by kernel_rfl)), rfl⟩
       ·
        refine cf h24 (by kernel_rfl) (wp_skip (wp_exit ?_))
        exact ⟨((sll a0.fWhere).length : Int), (IntKind.wrap .i64 (((sll a0.fLeft).length : Int) + ((sll a0.fRight).length : Int))), ((sll a0.fOut).length : Int), ((sll a0.fAggs).length : Int), ((sll a0.fOrder).length : Int), aB (a0.fKind == 7), hm, (mk_same (by kernel_rfl)), rfl⟩
  refine sq (sq (detn [(1, .ptr 0 0), (3, aI ((sll a0.fWhere).length : Int)), (4, aI (IntKind.wrap .i64 (((sll a0.fLeft).length : Int) + ((sll a0.fRight).length : Int)))), (5, aI ((sll a0.fOut).length : Int)), (6, aI ((sll a0.fAggs).length : Int)), (7, aI ((sll a0.fOrder).length : Int)), (28, aI a0.fKind), (29, aB (a0.fKind == 3))] (by kernel_rfl) ?_))
  rcases bif_some hm with ⟨h26, hm⟩ | ⟨h26, hm⟩
  ·
   refine ct h26 (by kernel_rfl) (wp_skip ?_)
   rcases bif_some hm with ⟨h27, hm⟩ | ⟨h27, hm⟩
   ·
    refine ct h27 (by kernel_rfl) (wp_exit ?_)
    exact ⟨(a0.fKind == 3), hm, rfl, rfl⟩
   ·
    refine cf h27 (by kernel_rfl) (wp_skip ?_)
    exact ⟨(a0.fKind == 3), hm, rfl, rfl⟩
  ·
   refine cf h26 (by kernel_rfl) (detn [(1, .ptr 0 0), (3, aI ((sll a0.fWhere).length : Int)), (4, aI (IntKind.wrap .i64 (((sll a0.fLeft).length : Int) + ((sll a0.fRight).length : Int)))), (5, aI ((sll a0.fOut).length : Int)), (6, aI ((sll a0.fAggs).length : Int)), (7, aI ((sll a0.fOrder).length : Int)), (28, aI a0.fKind), (29, aB (a0.fKind == 4))] (by kernel_rfl) ?_)
   rcases bif_some hm with ⟨h28, hm⟩ | ⟨h28, hm⟩
   ·
    refine ct h28 (by kernel_rfl) (wp_exit ?_)
    exact ⟨(a0.fKind == 4), hm, rfl, rfl⟩
   ·
    refine cf h28 (by kernel_rfl) (wp_skip ?_)
    exact ⟨(a0.fKind == 4), hm, rfl, rfl⟩
theorem ok_plan_parts_1 {n : Nat} {a0 : api_Expr} {r : Bool} (hm : plan_parts_1 n a0 = some r) :
    call G n 107 [.agg [aI a0.fKind, aI a0.fRel, aI a0.fCol, aI a0.fConst.fKind, aI a0.fConst.fInt, aF a0.fConst.fFloat, aS a0.fConst.fText, .pv (encSl R_E_api_Expr a0.fKids)]] [] = some (.ret (aB r), []) := by
  unfold plan_parts_1 at hm
  obtain ⟨n, rfl, h0⟩ := at1_some hm
  replace hm := h0; clear h0
  refine callL 6 [(0, .agg [aI a0.fKind, aI a0.fRel, aI a0.fCol, aI a0.fConst.fKind, aI a0.fConst.fInt, aF a0.fConst.fFloat, aS a0.fConst.fText, .pv (encSl R_E_api_Expr a0.fKids)])] func107 rfl (by kernel_rfl) (sq (det [(1, .ptr 0 0)] [.box [aI a0.fKind, aI a0.fRel, aI a0.fCol, aI a0.fConst.fKind, aI a0.fConst.fInt, aF a0.fConst.fFloat, aS a0.fConst.fText, .pv (encSl R_E_api_Expr a0.fKids)] false] (by kernel_rfl) (sq (rg (sh 1 [(3, .agg [aI a0.fKind, aI a0.fRel, aI a0.fCol, aI a0.fConst.fKind, aI a0.fConst.fInt, aF a0.fConst.fFloat, aS a0.fConst.fText, .pv (encSl R_E_api_Expr a0.fKids)])] (by kernel_rfl) ?_)))))
  obtain ⟨x1, h2, hm⟩ := bs hm
  refine dv 4 (cpure (by kernel_rfl) (ok_expr_Formed h2) (by kernel_rfl) (by kernel_rfl) (by kernel_rfl)) (by kernel_rfl) (sh 2 [(2, aB (!x1)), (5, aB (!x1))] (by kernel_rfl) (fin [(2, aB (!x1))] rfl (by kernel_rfl) (wp_ret ?_)))
  obtain rfl := Option.some.inj hm
  exact ⟨trivial, by kernel_rfl⟩
theorem ok_slices_IndexFunc_Expr_plan_parts_1 {n : Nat} {a0 : (Option (List E_api_Expr))} {r : Int} (hm : slices_IndexFunc_Expr_plan_parts_1 n a0 = some r) :
    call G n 118 [.pv (encSl R_E_api_Expr a0), .pv (.fn 107 [] [])] [] = some (.ret (aI r), []) := by
  unfold slices_IndexFunc_Expr_plan_parts_1 at hm
  obtain ⟨n, rfl, h0⟩ := at1_some hm
  replace hm := h0; clear h0
  refine callL 19 [(0, .pv (encSl R_E_api_Expr a0)), (1, .pv (.fn 107 [] []))] func118 rfl (by kernel_rfl) (sq (detn [(0, .pv (encSl R_E_api_Expr a0)), (1, .pv (.fn 107 [] []))] (by kernel_rfl) ?_))
  obtain ⟨k3, hk3, hm⟩ := withK_some hm
  refine mid (fun t H => (∃ (y1 : Int) (y2 : Bool), k3 () = some r ∧ t = mk 19 [(0, .pv (encSl R_E_api_Expr a0)), (1, .pv (.fn 107 [] [])), (7, aI ((sll a0).length : Int)), (8, aI y1), (9, aB y2)] ∧ H = [])) ?_ ?_
  ·
   rintro _ _ ⟨y1, y2, hm, rfl, rfl⟩
   subst hk3
   refine sq (detn [(4, aI (-1))] (by kernel_rfl) (wp_ret ?_))
   obtain rfl := Option.some.inj hm
   exact ⟨trivial, by kernel_rfl⟩
  refine sq (rg (sh 1 [(6, .pv (encSl R_E_api_Expr a0))] (by kernel_rfl) (dv 7 (v := aI ((sll a0).length : Int)) (len_slO R_E_api_Expr a0 t23 (by kernel_rfl)) (by kernel_rfl) (sh 1 [(8, aI 0)] (by kernel_rfl) (fin [(0, .pv (encSl R_E_api_Expr a0)), (1, .pv (.fn 107 [] [])), (7, aI ((sll a0).length : Int)), (8, aI 0)] rfl (by kernel_rfl) (bq ?_))))))
  refine loopF (fun mm t H => (∃ (y5 : Int), slices_IndexFunc_Expr_plan_parts_1_l2 n a0 k3 mm y5 = some r ∧ t = mk 19 [(0, .pv (encSl R_E_api_Expr a0)), (1, .pv (.fn 107 [] [])), (7, aI ((sll a0).length : Int)), (8, aI y5)] ∧ H = [])) (⟨0, hm, rfl, rfl⟩) ?_ ?_
  · rintro _ _ ⟨y5, hm, _⟩; exact nomatch hm
  rintro m6 _ _ ⟨y5, hm, rfl, rfl⟩
  simp only [slices_IndexFunc_Expr_plan_parts_1_l2] at hm
  refine sq (detn [(0, .pv (encSl R_E_api_Expr a0)), (1, .pv (.fn 107 [] [])), (7, aI ((sll a0).length : Int)), (8, aI y5), (9, aB (decide (y5 < ((sll a0).length : Int))))] (by kernel_rfl) ?_)
  refine sq ?_
  rcases bif_some hm with ⟨h7, hm⟩ | ⟨h7, hm⟩
  ·
   refine ct h7 (by kernel_rfl) (wp_skip (sq (bq (sq (detn [(0, .pv (encSl R_E_api_Expr a0)), (1, .pv (.fn 107 [] [])), (5, aI y5), (7, aI ((sll a0).length : Int)), (8, aI y5)] (by kernel_rfl) (sq (rg (sh 3 [(13, aI y5), (12, .pv (encSl R_E_api_Expr a0)), (11, .pv (.fn 107 [] []))] (by kernel_rfl) ?_))))))))
   obtain ⟨x8, h9, hm⟩ := bs hm
   refine dv 14 (v := .pv (.ptr (R_api_Expr (un_api_Expr x8)) 0)) (ia_slE R_E_api_Expr a0 .i64 t23 t44 h9 (R_un_api_Expr x8) rfl (by kernel_rfl)) (by kernel_rfl) (sh 1 [(15, .agg [aI ((un_api_Expr x8).fKind), aI ((un_api_Expr x8).fRel), aI ((un_api_Expr x8).fCol), aI (((un_api_Expr x8).fConst).fKind), aI (((un_api_Expr x8).fConst).fInt), aF (((un_api_Expr x8).fConst).fFloat), aS (((un_api_Expr x8).fConst).fText), .pv (encSl R_E_api_Expr ((un_api_Expr x8).fKids))])] (by kernel_rfl) ?_)
   obtain ⟨x10, h11, hm⟩ := bs hm
   refine dv 16 (cpure (by kernel_rfl) (ok_plan_parts_1 h11) (by kernel_rfl) (by kernel_rfl) (by kernel_rfl)) (by kernel_rfl) (fin [(0, .pv (encSl R_E_api_Expr a0)), (1, .pv (.fn 107 [] [])), (5, aI y5), (7, aI ((sll a0).length : Int)), (8, aI y5), (16, aB x10)] rfl (by kernel_rfl) ?_)
   rcases bif_some hm with ⟨h12, hm⟩ | ⟨h12, hm⟩
   ·
    refine ct h12 (by kernel_rfl) (sq (detn [(4, aI y5)] (by kernel_rfl) (wp_ret ?_)))
    obtain rfl := Option.some.inj hm
    exact ⟨trivial, by kernel_rfl⟩
   ·
    refine cf h12 (by kernel_rfl) (wp_skip (detn [(0, .pv (encSl R_E_api_Expr a0)), (1, .pv (.fn 107 [] [])), (7, aI ((sll a0).length : Int)), (8, aI (IntKind.wrap .i64 (y5 + 1)))] (by kernel_rfl) ?_))
    exact ⟨_, _, tidyL [(0, .pv (encSl R_E_api_Expr a0)), (1, .pv (.fn 107 [] [])), (7, aI ((sll a0).length : Int)), (8, aI (IntKind.wrap .i64 (y5 + 1)))] [] (by kernel_rfl), ⟨(IntKind.wrap .i64 (y5 + 1)), hm, rfl, rfl⟩⟩
  ·
   refine cf h7 (by kernel_rfl) (wp_exit ?_)
   exact ⟨y5, (decide (y5 < ((sll a0).length : Int))), hm, rfl, rfl⟩
theorem ok_slices_ContainsFunc_Expr_plan_parts_1 {n : Nat} {a0 : (Option (List E_api_Expr))} {r : Bool} (hm : slices_ContainsFunc_Expr_plan_parts_1 n a0 = some r) :
    call G n 106 [.pv (encSl R_E_api_Expr a0), .pv (.fn 107 [] [])] [] = some (.ret (aB r), []) := by
  unfold slices_ContainsFunc_Expr_plan_parts_1 at hm
  obtain ⟨n, rfl, h0⟩ := at1_some hm
  replace hm := h0; clear h0
  refine callL 9 [(0, .pv (encSl R_E_api_Expr a0)), (1, .pv (.fn 107 [] []))] func106 rfl (by kernel_rfl) (sq (detn [(0, .pv (encSl R_E_api_Expr a0)), (1, .pv (.fn 107 [] []))] (by kernel_rfl) (sq (rg (sh 2 [(6, .pv (.fn 107 [] [])), (5, .pv (encSl R_E_api_Expr a0))] (by kernel_rfl) ?_)))))
  obtain ⟨x1, h2, hm⟩ := bs hm
  refine dv 7 (cpure (by kernel_rfl) (ok_slices_IndexFunc_Expr_plan_parts_1 h2) (by kernel_rfl) (by kernel_rfl) (by kernel_rfl)) (by kernel_rfl) (sh 2 [(4, aB (decide (x1 ≥ 0))), (8, aB (decide (x1 ≥ 0)))] (by kernel_rfl) (fin [(4, aB (decide (x1 ≥ 0)))] rfl (by kernel_rfl) (wp_ret ?_)))
  obtain rfl := Option.some.inj hm
  exact ⟨trivial, by kernel_rfl⟩
theorem ok_plan_parts_2 {n : Nat} {a0 : api_Agg} {r : Bool} (hm : plan_parts_2 n a0 = some r) :
    call G n 108 [.agg [aI a0.fKind, aI a0.fOf.fKind, aI a0.fOf.fRel, aI a0.fOf.fCol, aI a0.fOf.fConst.fKind, aI a0.fOf.fConst.fInt, aF a0.fOf.fConst.fFloat, aS a0.fOf.fConst.fText, .pv (encSl R_E_api_Expr a0.fOf.fKids)]] [] = some (.ret (aB r), []) := by
  unfold plan_parts_2 at hm
  obtain ⟨n, rfl, h0⟩ := at1_some hm
  replace hm := h0; clear h0
  refine callL 17 [(0, .agg [aI a0.fKind, aI a0.fOf.fKind, aI a0.fOf.fRel, aI a0.fOf.fCol, aI a0.fOf.fConst.fKind, aI a0.fOf.fConst.fInt, aF a0.fOf.fConst.fFloat, aS a0.fOf.fConst.fText, .pv (encSl R_E_api_Expr a0.fOf.fKids)])] func108 rfl (by kernel_rfl) (sq (det [(1, .ptr 0 0)] [.box [aI a0.fKind, aI a0.fOf.fKind, aI a0.fOf.fRel, aI a0.fOf.fCol, aI a0.fOf.fConst.fKind, aI a0.fOf.fConst.fInt, aF a0.fOf.fConst.fFloat, aS a0.fOf.fConst.fText, .pv (encSl R_E_api_Expr a0.fOf.fKids)] false] (by kernel_rfl) (sq (rg (sh 4 [(6, aB (decide (a0.fKind < 1))), (5, aB (decide (a0.fKind < 1))), (4, aI a0.fKind), (3, .ptr 0 0)] (by kernel_rfl) ?_)))))
  refine seg (decide (a0.fKind < 1)) [6, 5] (fun b => [(10, aB (b || (decide (a0.fKind > 4)))), (9, ifA b (.undef) (aB (decide (a0.fKind > 4)))), (8, ifA b (.undef) (aI a0.fKind)), (7, ifA b (.undef) (.ptr 0 0))]) 8 (by kernel_rfl) ?_ ?_ ?_
  ·
   intro Q h
   refine sh 4 [(10, aB true), (9, .undef), (8, .undef), (7, .undef)] (by kernel_rfl) ?_
   exact sameN (by kernel_rfl) (by kernel_rfl) h
  ·
   intro Q h
   refine sh 4 [(10, aB (decide (a0.fKind > 4))), (9, aB (decide (a0.fKind > 4))), (8, aI a0.fKind), (7, .ptr 0 0)] (by kernel_rfl) ?_
   exact sameN (by kernel_rfl) (by kernel_rfl) h
  refine sh 1 [(11, aB ((decide (a0.fKind < 1)) || (decide (a0.fKind > 4))))] (by kernel_rfl) ?_
  rcases bif_some hm with ⟨h1, hm⟩ | ⟨h1, hm⟩
  ·
   refine known [11, 10] h1 (by kernel_rfl) (sh 6 [(2, aB true), (16, aB true), (15, .undef), (14, .undef), (13, .undef), (12, .undef)] (by kernel_rfl) (fin [(2, aB true)] rfl (by kernel_rfl) (wp_ret ?_)))
   obtain rfl := Option.some.inj hm
   exact ⟨trivial, by kernel_rfl⟩
  ·
   refine known [11, 10] h1 (by kernel_rfl) (sh 2 [(13, .agg [aI a0.fOf.fKind, aI a0.fOf.fRel, aI a0.fOf.fCol, aI a0.fOf.fConst.fKind, aI a0.fOf.fConst.fInt, aF a0.fOf.fConst.fFloat, aS a0.fOf.fConst.fText, .pv (encSl R_E_api_Expr a0.fOf.fKids)]), (12, .ptr 0 1)] (by kernel_rfl) ?_)
   obtain ⟨x2, h3, hm⟩ := bs hm
   refine dv 14 (cpure (by kernel_rfl) (ok_expr_Formed h3) (by kernel_rfl) (by kernel_rfl) (by kernel_rfl)) (by kernel_rfl) (sh 3 [(2, aB (!x2)), (16, aB (!x2)), (15, aB (!x2))] (by kernel_rfl) (fin [(2, aB (!x2))] rfl (by kernel_rfl) (wp_ret ?_)))
   obtain rfl := Option.some.inj hm
   exact ⟨trivial, by kernel_rfl⟩
theorem ok_slices_IndexFunc_Agg_plan_parts_2 {n : Nat} {a0 : (Option (List api_Agg))} {r : Int} (hm : slices_IndexFunc_Agg_plan_parts_2 n a0 = some r) :
    call G n 89 [.pv (encSl R_api_Agg a0), .pv (.fn 108 [] [])] [] = some (.ret (aI r), []) := by
  unfold slices_IndexFunc_Agg_plan_parts_2 at hm
  obtain ⟨n, rfl, h0⟩ := at1_some hm
  replace hm := h0; clear h0
  refine callL 19 [(0, .pv (encSl R_api_Agg a0)), (1, .pv (.fn 108 [] []))] func89 rfl (by kernel_rfl) (sq (detn [(0, .pv (encSl R_api_Agg a0)), (1, .pv (.fn 108 [] []))] (by kernel_rfl) ?_))
  obtain ⟨k3, hk3, hm⟩ := withK_some hm
  refine mid (fun t H => (∃ (y1 : Int) (y2 : Bool), k3 () = some r ∧ t = mk 19 [(0, .pv (encSl R_api_Agg a0)), (1, .pv (.fn 108 [] [])), (7, aI ((sll a0).length : Int)), (8, aI y1), (9, aB y2)] ∧ H = [])) ?_ ?_
  ·
   rintro _ _ ⟨y1, y2, hm, rfl, rfl⟩
   subst hk3
   refine sq (detn [(4, aI (-1))] (by kernel_rfl) (wp_ret ?_))
   obtain rfl := Option.some.inj hm
   exact ⟨trivial, by kernel_rfl⟩
  refine sq (rg (sh 1 [(6, .pv (encSl R_api_Agg a0))] (by kernel_rfl) (dv 7 (v := aI ((sll a0).length : Int)) (len_slO R_api_Agg a0 t24 (by kernel_rfl)) (by kernel_rfl) (sh 1 [(8, aI 0)] (by kernel_rfl) (fin [(0, .pv (encSl R_api_Agg a0)), (1, .pv (.fn 108 [] [])), (7, aI ((sll a0).length : Int)), (8, aI 0)] rfl (by kernel_rfl) (bq ?_))))))
  refine loopF (fun mm t H => (∃ (y5 : Int), slices_IndexFunc_Agg_plan_parts_2_l2 n a0 k3 mm y5 = some r ∧ t = mk 19 [(0, .pv (encSl R_api_Agg a0)), (1, .pv (.fn 108 [] [])), (7, aI ((sll a0).length : Int)), (8, aI y5)] ∧ H = [])) (⟨0, hm, rfl, rfl⟩) ?_ ?_
  · rintro _ _ ⟨y5, hm, _⟩; exact nomatch hm
  rintro m6 _ _ ⟨y5, hm, rfl, rfl⟩
  simp only [slices_IndexFunc_Agg_plan_parts_2_l2] at hm
  refine sq (detn [(0, .pv (encSl R_api_Agg a0)), (1, .pv (.fn 108 [] [])), (7, aI ((sll a0).length : Int)), (8, aI y5), (9, aB (decide (y5 < ((sll a0).length : Int))))] (by kernel_rfl) ?_)
  refine sq ?_
  rcases bif_some hm with ⟨h7, hm⟩ | ⟨h7, hm⟩
  ·
   refine ct h7 (by kernel_rfl) (wp_skip (sq (bq (sq (detn [(0, .pv (encSl R_api_Agg a0)), (1, .pv (.fn 108 [] [])), (5, aI y5), (7, aI ((sll a0).length : Int)), (8, aI y5)] (by kernel_rfl) (sq (rg (sh 3 [(13, aI y5), (12, .pv (encSl R_api_Agg a0)), (11, .pv (.fn 108 [] []))] (by kernel_rfl) ?_))))))))
   obtain ⟨x8, h9, hm⟩ := bs hm
   refine dv 14 (v := .pv (.ptr (R_api_Agg x8) 0)) (ia_slO R_api_Agg a0 .i64 t24 t82 h9 rfl (by kernel_rfl)) (by kernel_rfl) (sh 1 [(15, .agg [aI x8.fKind, aI x8.fOf.fKind, aI x8.fOf.fRel, aI x8.fOf.fCol, aI x8.fOf.fConst.fKind, aI x8.fOf.fConst.fInt, aF x8.fOf.fConst.fFloat, aS x8.fOf.fConst.fText, .pv (encSl R_E_api_Expr x8.fOf.fKids)])] (by kernel_rfl) ?_)
   obtain ⟨x10, h11, hm⟩ := bs hm
   refine dv 16 (cpure (by kernel_rfl) (ok_plan_parts_2 h11) (by kernel_rfl) (by kernel_rfl) (by kernel_rfl)) (by kernel_rfl) (fin [(0, .pv (encSl R_api_Agg a0)), (1, .pv (.fn 108 [] [])), (5, aI y5), (7, aI ((sll a0).length : Int)), (8, aI y5), (16, aB x10)] rfl (by kernel_rfl) ?_)
   rcases bif_some hm with ⟨h12, hm⟩ | ⟨h12, hm⟩
   ·
    refine ct h12 (by kernel_rfl) (sq (detn [(4, aI y5)] (by kernel_rfl) (wp_ret ?_)))
    obtain rfl := Option.some.inj hm
    exact ⟨trivial, by kernel_rfl⟩
   ·
    refine cf h12 (by kernel_rfl) (wp_skip (detn [(0, .pv (encSl R_api_Agg a0)), (1, .pv (.fn 108 [] [])), (7, aI ((sll a0).length : Int)), (8, aI (IntKind.wrap .i64 (y5 + 1)))] (by kernel_rfl) ?_))
    exact ⟨_, _, tidyL [(0, .pv (encSl R_api_Agg a0)), (1, .pv (.fn 108 [] [])), (7, aI ((sll a0).length : Int)), (8, aI (IntKind.wrap .i64 (y5 + 1)))] [] (by kernel_rfl), ⟨(IntKind.wrap .i64 (y5 + 1)), hm, rfl, rfl⟩⟩
  ·
   refine cf h7 (by kernel_rfl) (wp_exit ?_)
   exact ⟨y5, (decide (y5 < ((sll a0).length : Int))), hm, rfl, rfl⟩
theorem ok_slices_ContainsFunc_Agg_plan_parts_2 {n : Nat} {a0 : (Option (List api_Agg))} {r : Bool} (hm : slices_ContainsFunc_Agg_plan_parts_2 n a0 = some r) :
    call G n 63 [.pv (encSl R_api_Agg a0), .pv (.fn 108 [] [])] [] = some (.ret (aB r), []) := by
  unfold slices_ContainsFunc_Agg_plan_parts_2 at hm
  obtain ⟨n, rfl, h0⟩ := at1_some hm
  replace hm := h0; clear h0
  refine callL 9 [(0, .pv (encSl R_api_Agg a0)), (1, .pv (.fn 108 [] []))] func63 rfl (by kernel_rfl) (sq (detn [(0, .pv (encSl R_api_Agg a0)), (1, .pv (.fn 108 [] []))] (by kernel_rfl) (sq (rg (sh 2 [(6, .pv (.fn 108 [] [])), (5, .pv (encSl R_api_Agg a0))] (by kernel_rfl) ?_)))))
  obtain ⟨x1, h2, hm⟩ := bs hm
  refine dv 7 (cpure (by kernel_rfl) (ok_slices_IndexFunc_Agg_plan_parts_2 h2) (by kernel_rfl) (by kernel_rfl) (by kernel_rfl)) (by kernel_rfl) (sh 2 [(4, aB (decide (x1 ≥ 0))), (8, aB (decide (x1 ≥ 0)))] (by kernel_rfl) (fin [(4, aB (decide (x1 ≥ 0)))] rfl (by kernel_rfl) (wp_ret ?_)))
  obtain rfl := Option.some.inj hm
  exact ⟨trivial, by kernel_rfl⟩
theorem ok_plan_parts_3 {n : Nat} {a0 : api_Key} {r : Bool} (hm : plan_parts_3 n a0 = some r) :
    call G n 109 [.agg [aI a0.fOut, aB a0.fDesc]] [] = some (.ret (aB r), []) := by
  unfold plan_parts_3 at hm
  obtain ⟨n, rfl, h0⟩ := at1_some hm
  replace hm := h0; clear h0
  refine callL 11 [(0, .agg [aI a0.fOut, aB a0.fDesc])] func109 rfl (by kernel_rfl) (sq (det [(1, .ptr 0 0)] [.box [aI a0.fOut, aB a0.fDesc] false] (by kernel_rfl) (sq (rg (sh 4 [(6, aB (decide (a0.fOut < 0))), (5, aB (decide (a0.fOut < 0))), (4, aI a0.fOut), (3, .ptr 0 0)] (by kernel_rfl) ?_)))))
  refine seg (decide (a0.fOut < 0)) [6, 5] (fun b => [(10, aB (b || (decide (a0.fOut > 29)))), (9, ifA b (.undef) (aB (decide (a0.fOut > 29)))), (8, ifA b (.undef) (aI a0.fOut)), (7, ifA b (.undef) (.ptr 0 0))]) 8 (by kernel_rfl) ?_ ?_ ?_
  ·
   intro Q h
   refine sh 4 [(10, aB true), (9, .undef), (8, .undef), (7, .undef)] (by kernel_rfl) ?_
   exact sameN (by kernel_rfl) (by kernel_rfl) h
  ·
   intro Q h
   refine sh 4 [(10, aB (decide (a0.fOut > 29))), (9, aB (decide (a0.fOut > 29))), (8, aI a0.fOut), (7, .ptr 0 0)] (by kernel_rfl) ?_
   exact sameN (by kernel_rfl) (by kernel_rfl) h
  refine sh 1 [(2, aB ((decide (a0.fOut < 0)) || (decide (a0.fOut > 29))))] (by kernel_rfl) (fin [(2, aB ((decide (a0.fOut < 0)) || (decide (a0.fOut > 29))))] rfl (by kernel_rfl) (wp_ret ?_))
  obtain rfl := Option.some.inj hm
  exact ⟨trivial, by kernel_rfl⟩
theorem ok_slices_IndexFunc_Key_plan_parts_3 {n : Nat} {a0 : (Option (List api_Key))} {r : Int} (hm : slices_IndexFunc_Key_plan_parts_3 n a0 = some r) :
    call G n 90 [.pv (encSl R_api_Key a0), .pv (.fn 109 [] [])] [] = some (.ret (aI r), []) := by
  unfold slices_IndexFunc_Key_plan_parts_3 at hm
  obtain ⟨n, rfl, h0⟩ := at1_some hm
  replace hm := h0; clear h0
  refine callL 19 [(0, .pv (encSl R_api_Key a0)), (1, .pv (.fn 109 [] []))] func90 rfl (by kernel_rfl) (sq (detn [(0, .pv (encSl R_api_Key a0)), (1, .pv (.fn 109 [] []))] (by kernel_rfl) ?_))
  obtain ⟨k3, hk3, hm⟩ := withK_some hm
  refine mid (fun t H => (∃ (y1 : Int) (y2 : Bool), k3 () = some r ∧ t = mk 19 [(0, .pv (encSl R_api_Key a0)), (1, .pv (.fn 109 [] [])), (7, aI ((sll a0).length : Int)), (8, aI y1), (9, aB y2)] ∧ H = [])) ?_ ?_
  ·
   rintro _ _ ⟨y1, y2, hm, rfl, rfl⟩
   subst hk3
   refine sq (detn [(4, aI (-1))] (by kernel_rfl) (wp_ret ?_))
   obtain rfl := Option.some.inj hm
   exact ⟨trivial, by kernel_rfl⟩
  refine sq (rg (sh 1 [(6, .pv (encSl R_api_Key a0))] (by kernel_rfl) (dv 7 (v := aI ((sll a0).length : Int)) (len_slO R_api_Key a0 t25 (by kernel_rfl)) (by kernel_rfl) (sh 1 [(8, aI 0)] (by kernel_rfl) (fin [(0, .pv (encSl R_api_Key a0)), (1, .pv (.fn 109 [] [])), (7, aI ((sll a0).length : Int)), (8, aI 0)] rfl (by kernel_rfl) (bq ?_))))))
  refine loopF (fun mm t H => (∃ (y5 : Int), slices_IndexFunc_Key_plan_parts_3_l2 n a0 k3 mm y5 = some r ∧ t = mk 19 [(0, .pv (encSl R_api_Key a0)), (1, .pv (.fn 109 [] [])), (7, aI ((sll a0).length : Int)), (8, aI y5)] ∧ H = [])) (⟨0, hm, rfl, rfl⟩) ?_ ?_
  · rintro _ _ ⟨y5, hm, _⟩; exact nomatch hm
  rintro m6 _ _ ⟨y5, hm, rfl, rfl⟩
  simp only [slices_IndexFunc_Key_plan_parts_3_l2] at hm
  refine sq (detn [(0, .pv (encSl R_api_Key a0)), (1, .pv (.fn 109 [] [])), (7, aI ((sll a0).length : Int)), (8, aI y5), (9, aB (decide (y5 < ((sll a0).length : Int))))] (by kernel_rfl) ?_)
  refine sq ?_
  rcases bif_some hm with ⟨h7, hm⟩ | ⟨h7, hm⟩
  ·
   refine ct h7 (by kernel_rfl) (wp_skip (sq (bq (sq (detn [(0, .pv (encSl R_api_Key a0)), (1, .pv (.fn 109 [] [])), (5, aI y5), (7, aI ((sll a0).length : Int)), (8, aI y5)] (by kernel_rfl) (sq (rg (sh 3 [(13, aI y5), (12, .pv (encSl R_api_Key a0)), (11, .pv (.fn 109 [] []))] (by kernel_rfl) ?_))))))))
   obtain ⟨x8, h9, hm⟩ := bs hm
   refine dv 14 (v := .pv (.ptr (R_api_Key x8) 0)) (ia_slO R_api_Key a0 .i64 t25 t67 h9 rfl (by kernel_rfl)) (by kernel_rfl) (sh 1 [(15, .agg [aI x8.fOut, aB x8.fDesc])] (by kernel_rfl) ?_)
   obtain ⟨x10, h11, hm⟩ := bs hm
   refine dv 16 (cpure (by kernel_rfl) (ok_plan_parts_3 h11) (by kernel_rfl) (by kernel_rfl) (by kernel_rfl)) (by kernel_rfl) (fin [(0, .pv (encSl R_api_Key a0)), (1, .pv (.fn 109 [] [])), (5, aI y5), (7, aI ((sll a0).length : Int)), (8, aI y5), (16, aB x10)] rfl (by kernel_rfl) ?_)
   rcases bif_some hm with ⟨h12, hm⟩ | ⟨h12, hm⟩
   ·
    refine ct h12 (by kernel_rfl) (sq (detn [(4, aI y5)] (by kernel_rfl) (wp_ret ?_)))
    obtain rfl := Option.some.inj hm
    exact ⟨trivial, by kernel_rfl⟩
   ·
    refine cf h12 (by kernel_rfl) (wp_skip (detn [(0, .pv (encSl R_api_Key a0)), (1, .pv (.fn 109 [] [])), (7, aI ((sll a0).length : Int)), (8, aI (IntKind.wrap .i64 (y5 + 1)))] (by kernel_rfl) ?_))
    exact ⟨_, _, tidyL [(0, .pv (encSl R_api_Key a0)), (1, .pv (.fn 109 [] [])), (7, aI ((sll a0).length : Int)), (8, aI (IntKind.wrap .i64 (y5 + 1)))] [] (by kernel_rfl), ⟨(IntKind.wrap .i64 (y5 + 1)), hm, rfl, rfl⟩⟩
  ·
   refine cf h7 (by kernel_rfl) (wp_exit ?_)
   exact ⟨y5, (decide (y5 < ((sll a0).length : Int))), hm, rfl, rfl⟩
theorem ok_slices_ContainsFunc_Key_plan_parts_3 {n : Nat} {a0 : (Option (List api_Key))} {r : Bool} (hm : slices_ContainsFunc_Key_plan_parts_3 n a0 = some r) :
    call G n 65 [.pv (encSl R_api_Key a0), .pv (.fn 109 [] [])] [] = some (.ret (aB r), []) := by
  unfold slices_ContainsFunc_Key_plan_parts_3 at hm
  obtain ⟨n, rfl, h0⟩ := at1_some hm
  replace hm := h0; clear h0
  refine callL 9 [(0, .pv (encSl R_api_Key a0)), (1, .pv (.fn 109 [] []))] func65 rfl (by kernel_rfl) (sq (detn [(0, .pv (encSl R_api_Key a0)), (1, .pv (.fn 109 [] []))] (by kernel_rfl) (sq (rg (sh 2 [(6, .pv (.fn 109 [] [])), (5, .pv (encSl R_api_Key a0))] (by kernel_rfl) ?_)))))
  obtain ⟨x1, h2, hm⟩ := bs hm
  refine dv 7 (cpure (by kernel_rfl) (ok_slices_IndexFunc_Key_plan_parts_3 h2) (by kernel_rfl) (by kernel_rfl) (by kernel_rfl)) (by kernel_rfl) (sh 2 [(4, aB (decide (x1 ≥ 0))), (8, aB (decide (x1 ≥ 0)))] (by kernel_rfl) (fin [(4, aB (decide (x1 ≥ 0)))] rfl (by kernel_rfl) (wp_ret ?_)))
  obtain rfl := Option.some.inj hm
  exact ⟨trivial, by kernel_rfl⟩
theorem ok_plan_parts {n : Nat} {a0 : api_Plan} {r : Bool} (hm : plan_parts n a0 = some r) :
    call G n 87 [.agg [aI a0.fKind, aI a0.fRel, .pv (encSl R_E_api_Expr a0.fWhere), .pv (encSl R_E_api_Expr a0.fLeft), .pv (encSl R_E_api_Expr a0.fRight), .pv (encSl R_E_api_Expr a0.fOut), .pv (encSl R_api_Agg a0.fAggs), .pv (encSl R_api_Key a0.fOrder), .pv (encSl R_E_api_Plan a0.fKids)]] [] = some (.ret (aB r), []) := by
  unfold plan_parts at hm
  obtain ⟨n, rfl, h0⟩ := at1_some hm
  replace hm := h0; clear h0
  refine callL 63 [(0, .agg [aI a0.fKind, aI a0.fRel, .pv (encSl R_E_api_Expr a0.fWhere), .pv (encSl R_E_api_Expr a0.fLeft), .pv (encSl R_E_api_Expr a0.fRight), .pv (encSl R_E_api_Expr a0.fOut), .pv (encSl R_api_Agg a0.fAggs), .pv (encSl R_api_Key a0.fOrder), .pv (encSl R_E_api_Plan a0.fKids)])] func87 rfl (by kernel_rfl) (sq (det [(1, .ptr 0 0)] [.box [aI a0.fKind, aI a0.fRel, .pv (encSl R_E_api_Expr a0.fWhere), .pv (encSl R_E_api_Expr a0.fLeft), .pv (encSl R_E_api_Expr a0.fRight), .pv (encSl R_E_api_Expr a0.fOut), .pv (encSl R_api_Agg a0.fAggs), .pv (encSl R_api_Key a0.fOrder), .pv (encSl R_E_api_Plan a0.fKids)] false] (by kernel_rfl) ?_))
  obtain ⟨k3, hk3, hm⟩ := withK_some hm
  refine mid (fun t H => (∃ (y1 : Int) (y2 : Bool), k3 () = some r ∧ t = mk 63 [(1, .ptr 0 0), (13, aR 1 1 4), (14, aI 4), (15, aI y1), (16, aB y2)] ∧ H = [.box [aI a0.fKind, aI a0.fRel, .pv (encSl R_E_api_Expr a0.fWhere), .pv (encSl R_E_api_Expr a0.fLeft), .pv (encSl R_E_api_Expr a0.fRight), .pv (encSl R_E_api_Expr a0.fOut), .pv (encSl R_api_Agg a0.fAggs), .pv (encSl R_api_Key a0.fOrder), .pv (encSl R_E_api_Plan a0.fKids)] false, bR 23 1 (rSl R_E_api_Expr) ([a0.fWhere, a0.fLeft, a0.fRight, a0.fOut] : List (Option (List E_api_Expr))) 0 0])) ?_ ?_
  ·
   rintro _ _ ⟨y1, y2, hm, rfl, rfl⟩
   subst hk3
   refine sq (sq (rg (sh 2 [(28, .pv (encSl R_api_Agg a0.fAggs)), (27, .ptr 0 6)] (by kernel_rfl) (dv 29 (v := aI ((sll a0.fAggs).length : Int)) (len_slO R_api_Agg a0.fAggs t24 (by kernel_rfl)) (by kernel_rfl) (sh 2 [(31, aB (decide (((sll a0.fAggs).length : Int) > 60))), (30, aB (decide (((sll a0.fAggs).length : Int) > 60)))] (by kernel_rfl) ?_)))))
   rcases bif_some hm with ⟨h4, hm⟩ | ⟨h4, hm⟩
   ·
    refine known [31, 30] h4 (by kernel_rfl) (sh 4 [(35, aB true), (34, .undef), (33, .undef), (32, .undef)] (by kernel_rfl) (fin [(1, .ptr 0 0), (35, aB true)] rfl (by kernel_rfl) (cT (by kernel_rfl) (sq (detn [(2, aB false)] (by kernel_rfl) (wp_ret ?_))))))
    obtain rfl := Option.some.inj hm
    exact ⟨trivial, by kernel_rfl⟩
   ·
    refine known [31, 30] h4 (by kernel_rfl) (sh 2 [(33, .pv (encSl R_api_Agg a0.fAggs)), (32, .ptr 0 6)] (by kernel_rfl) ?_)
    obtain ⟨x5, h6, hm⟩ := bs hm
    refine dv 34 (cpure (by kernel_rfl) (ok_slices_ContainsFunc_Agg_plan_parts_2 h6) (by kernel_rfl) (by kernel_rfl) (by kernel_rfl)) (by kernel_rfl) (sh 1 [(35, aB x5)] (by kernel_rfl) (fin [(1, .ptr 0 0), (35, aB x5)] rfl (by kernel_rfl) ?_))
    rcases bif_some hm with ⟨h7, hm⟩ | ⟨h7, hm⟩
    ·
     refine ct h7 (by kernel_rfl) (sq (detn [(2, aB false)] (by kernel_rfl) (wp_ret ?_)))
     obtain rfl := Option.some.inj hm
     exact ⟨trivial, by kernel_rfl⟩
    ·
     refine cf h7 (by kernel_rfl) (wp_skip ?_)
     refine sq (sq (rg (sh 2 [(37, .pv (encSl R_api_Key a0.fOrder)), (36, .ptr 0 7)] (by kernel_rfl) (dv 38 (v := aI ((sll a0.fOrder).length : Int)) (len_slO R_api_Key a0.fOrder t25 (by kernel_rfl)) (by kernel_rfl) (sh 2 [(40, aB (decide (((sll a0.fOrder).length : Int) > 60))), (39, aB (decide (((sll a0.fOrder).length : Int) > 60)))] (by kernel_rfl) ?_)))))
     rcases bif_some hm with ⟨h8, hm⟩ | ⟨h8, hm⟩
     ·
      refine known [40, 39] h8 (by kernel_rfl) (sh 4 [(44, aB true), (43, .undef), (42, .undef), (41, .undef)] (by kernel_rfl) (fin [(1, .ptr 0 0), (44, aB true)] rfl (by kernel_rfl) (cT (by kernel_rfl) (sq (detn [(2, aB false)] (by kernel_rfl) (wp_ret ?_))))))
      obtain rfl := Option.some.inj hm
      exact ⟨trivial, by kernel_rfl⟩
     ·
      refine known [40, 39] h8 (by kernel_rfl) (sh 2 [(42, .pv (encSl R_api_Key a0.fOrder)), (41, .ptr 0 7)] (by kernel_rfl) ?_)
      obtain ⟨x9, h10, hm⟩ := bs hm
      refine dv 43 (cpure (by kernel_rfl) (ok_slices_ContainsFunc_Key_plan_parts_3 h10) (by kernel_rfl) (by kernel_rfl) (by kernel_rfl)) (by kernel_rfl) (sh 1 [(44, aB x9)] (by kernel_rfl) (fin [(1, .ptr 0 0), (44, aB x9)] rfl (by kernel_rfl) ?_))
      rcases bif_some hm with ⟨h11, hm⟩ | ⟨h11, hm⟩
      ·
       refine ct h11 (by kernel_rfl) (sq (detn [(2, aB false)] (by kernel_rfl) (wp_ret ?_)))
       obtain rfl := Option.some.inj hm
       exact ⟨trivial, by kernel_rfl⟩
      ·
       refine cf h11 (by kernel_rfl) (wp_skip (sq (rg (sh 4 [(48, aB (decide (a0.fRel ≥ 0))), (47, aB (decide (a0.fRel ≥ 0))), (46, aI a0.fRel), (45, .ptr 0 1)] (by kernel_rfl) ?_))))
       refine seg (decide (a0.fRel ≥ 0)) [48, 47] (fun b => [(52, aB (b && (decide (a0.fRel < 12)))), (51, ifA b (aB (decide (a0.fRel < 12))) (.undef)), (50, ifA b (aI a0.fRel) (.undef)), (49, ifA b (.ptr 0 1) (.undef))]) 8 (by kernel_rfl) ?_ ?_ ?_
       ·
        intro Q h
        refine sh 4 [(52, aB (decide (a0.fRel < 12))), (51, aB (decide (a0.fRel < 12))), (50, aI a0.fRel), (49, .ptr 0 1)] (by kernel_rfl) ?_
        exact sameN (by kernel_rfl) (by kernel_rfl) h
       ·
        intro Q h
        refine sh 4 [(52, aB false), (51, .undef), (50, .undef), (49, .undef)] (by kernel_rfl) ?_
        exact sameN (by kernel_rfl) (by kernel_rfl) h
       refine sh 1 [(53, aB ((decide (a0.fRel ≥ 0)) && (decide (a0.fRel < 12))))] (by kernel_rfl) ?_
       refine seg ((decide (a0.fRel ≥ 0)) && (decide (a0.fRel < 12))) [53, 52] (fun b => [(62, aB (b && ((a0.fKind == 1) || (a0.fRel == 0)))), (61, ifA b (aB ((a0.fKind == 1) || (a0.fRel == 0))) (.undef)), (60, ifA b (ifA (a0.fKind == 1) (.undef) (aB (a0.fRel == 0))) (.undef)), (59, ifA b (ifA (a0.fKind == 1) (.undef) (aI a0.fRel)) (.undef)), (58, ifA b (ifA (a0.fKind == 1) (.undef) (.ptr 0 1)) (.undef)), (57, ifA b (aB (a0.fKind == 1)) (.undef)), (56, ifA b (aB (a0.fKind == 1)) (.undef)), (55, ifA b (aI a0.fKind) (.undef)), (54, ifA b (.ptr 0 0) (.undef))]) 18 (by kernel_rfl) ?_ ?_ ?_
       ·
        intro Q h
        refine sh 4 [(57, aB (a0.fKind == 1)), (56, aB (a0.fKind == 1)), (55, aI a0.fKind), (54, .ptr 0 0)] (by kernel_rfl) ?_
        refine seg (a0.fKind == 1) [57, 56] (fun b => [(61, aB (b || (a0.fRel == 0))), (60, ifA b (.undef) (aB (a0.fRel == 0))), (59, ifA b (.undef) (aI a0.fRel)), (58, ifA b (.undef) (.ptr 0 1))]) 17 (by kernel_rfl) ?_ ?_ ?_
        ·
         intro Q h
         refine sh 4 [(61, aB true), (60, .undef), (59, .undef), (58, .undef)] (by kernel_rfl) ?_
         exact sameN (by kernel_rfl) (by kernel_rfl) h
        ·
         intro Q h
         refine sh 4 [(61, aB (a0.fRel == 0)), (60, aB (a0.fRel == 0)), (59, aI a0.fRel), (58, .ptr 0 1)] (by kernel_rfl) ?_
         exact sameN (by kernel_rfl) (by kernel_rfl) h
        refine sh 1 [(62, aB ((a0.fKind == 1) || (a0.fRel == 0)))] (by kernel_rfl) ?_
        exact sameN (by kernel_rfl) (by kernel_rfl) h
       ·
        intro Q h
        refine sh 9 [(62, aB false), (61, .undef), (60, .undef), (59, .undef), (58, .undef), (57, .undef), (56, .undef), (55, .undef), (54, .undef)] (by kernel_rfl) ?_
        exact sameN (by kernel_rfl) (by kernel_rfl) h
       refine sh 1 [(2, aB (((decide (a0.fRel ≥ 0)) && (decide (a0.fRel < 12))) && ((a0.fKind == 1) || (a0.fRel == 0))))] (by kernel_rfl) (fin [(2, aB (((decide (a0.fRel ≥ 0)) && (decide (a0.fRel < 12))) && ((a0.fKind == 1) || (a0.fRel == 0))))] rfl (by kernel_rfl) (wp_ret ?_))
       obtain rfl := Option.some.inj hm
       exact ⟨trivial, by kernel_rfl⟩
  refine sq (det [(1, .ptr 0 0), (13, aR 1 1 4), (14, aI 4), (15, aI 0)] [.box [aI a0.fKind, aI a0.fRel, .pv (encSl R_E_api_Expr a0.fWhere), .pv (encSl R_E_api_Expr a0.fLeft), .pv (encSl R_E_api_Expr a0.fRight), .pv (encSl R_E_api_Expr a0.fOut), .pv (encSl R_api_Agg a0.fAggs), .pv (encSl R_api_Key a0.fOrder), .pv (encSl R_E_api_Plan a0.fKids)] false, bR 23 1 (rSl R_E_api_Expr) ([a0.fWhere, a0.fLeft, a0.fRight, a0.fOut] : List (Option (List E_api_Expr))) 0 0] (by kernel_rfl) (bq ?_))
  refine loopF (fun mm t H => (∃ (y13 : Int), plan_parts_l2 n a0 k3 mm y13 = some r ∧ t = mk 63 [(1, .ptr 0 0), (13, aR 1 1 4), (14, aI 4), (15, aI y13)] ∧ H = [.box [aI a0.fKind, aI a0.fRel, .pv (encSl R_E_api_Expr a0.fWhere), .pv (encSl R_E_api_Expr a0.fLeft), .pv (encSl R_E_api_Expr a0.fRight), .pv (encSl R_E_api_Expr a0.fOut), .pv (encSl R_api_Agg a0.fAggs), .pv (encSl R_api_Key a0.fOrder), .pv (encSl R_E_api_Plan a0.fKids)] false, bR 23 1 (rSl R_E_api_Expr) ([a0.fWhere, a0.fLeft, a0.fRight, a0.fOut] : List (Option (List E_api_Expr))) 0 0])) (⟨0, hm, rfl, rfl⟩) ?_ ?_
  · rintro _ _ ⟨y13, hm, _⟩; exact nomatch hm
  rintro m14 _ _ ⟨y13, hm, rfl, rfl⟩
  simp only [plan_parts_l2] at hm
  refine sq (detn [(1, .ptr 0 0), (13, aR 1 1 4), (14, aI 4), (15, aI y13), (16, aB (decide (y13 < 4)))] (by kernel_rfl) ?_)
  refine sq ?_
  rcases bif_some hm with ⟨h15, hm⟩ | ⟨h15, hm⟩
  ·
   refine ct h15 (by kernel_rfl) (wp_skip (sq (bq (sq (rg ?_)))))
   obtain ⟨x16, h17, hm⟩ := bs hm
   refine dv 17 (v := .eptr 1 0 4 1 (0 + Int.toNat y13) 0) (ia_refO ([a0.fWhere, a0.fLeft, a0.fRight, a0.fOut] : List (Option (List E_api_Expr))) .i64 (n := 4) (id := 1) (esz := 1) t153 t23 h17 (by first | rfl | assumption | omega | (simp only [List.length_set, List.length_append, List.length_cons, List.length_nil, List.length_replicate, List.length_drop] at * <;> omega)) rfl (by kernel_rfl)) (by kernel_rfl) (dv 18 (v := .pv (encSl R_E_api_Expr x16)) (ld_eptrO (rSl R_E_api_Expr) ([a0.fWhere, a0.fLeft, a0.fRight, a0.fOut] : List (Option (List E_api_Expr))) (n := 4) (esz := 1) (j := y13) (off := 0) (id := 1) t23 rfl h17 (by first | rfl | assumption | omega | (simp only [List.length_set, List.length_append, List.length_cons, List.length_nil, List.length_replicate, List.length_drop] at * <;> omega)) (Nat.zero_le _) (by kernel_rfl) (by kernel_rfl)) (by kernel_rfl) (sh 1 [(4, .pv (encSl R_E_api_Expr x16))] (by kernel_rfl) (fin [(1, .ptr 0 0), (4, .pv (encSl R_E_api_Expr x16)), (13, aR 1 1 4), (14, aI 4), (15, aI y13)] rfl (by kernel_rfl) (sq (rg (sh 1 [(19, .pv (encSl R_E_api_Expr x16))] (by kernel_rfl) (dv 20 (v := aI ((sll x16).length : Int)) (len_slO R_E_api_Expr x16 t23 (by kernel_rfl)) (by kernel_rfl) (sh 2 [(22, aB (decide (((sll x16).length : Int) > 60))), (21, aB (decide (((sll x16).length : Int) > 60)))] (by kernel_rfl) ?_))))))))
   rcases bif_some hm with ⟨h18, hm⟩ | ⟨h18, hm⟩
   ·
    refine known [22, 21] h18 (by kernel_rfl) (sh 3 [(25, aB true), (24, .undef), (23, .undef)] (by kernel_rfl) (fin [(1, .ptr 0 0), (13, aR 1 1 4), (14, aI 4), (15, aI y13), (25, aB true)] rfl (by kernel_rfl) (cT (by kernel_rfl) (sq (detn [(2, aB false)] (by kernel_rfl) (wp_ret ?_))))))
    obtain rfl := Option.some.inj hm
    exact ⟨trivial, by kernel_rfl⟩
   ·
    refine known [22, 21] h18 (by kernel_rfl) (sh 1 [(23, .pv (encSl R_E_api_Expr x16))] (by kernel_rfl) ?_)
    obtain ⟨x19, h20, hm⟩ := bs hm
    refine dv 24 (cpure (by kernel_rfl) (ok_slices_ContainsFunc_Expr_plan_parts_1 h20) (by kernel_rfl) (by kernel_rfl) (by kernel_rfl)) (by kernel_rfl) (sh 1 [(25, aB x19)] (by kernel_rfl) (fin [(1, .ptr 0 0), (13, aR 1 1 4), (14, aI 4), (15, aI y13), (25, aB x19)] rfl (by kernel_rfl) ?_))
    rcases bif_some hm with ⟨h21, hm⟩ | ⟨h21, hm⟩
    ·
     refine ct h21 (by kernel_rfl) (sq (detn [(2, aB false)] (by kernel_rfl) (wp_ret ?_)))
     obtain rfl := Option.some.inj hm
     exact ⟨trivial, by kernel_rfl⟩
    ·
     refine cf h21 (by kernel_rfl) (wp_skip (detn [(1, .ptr 0 0), (13, aR 1 1 4), (14, aI 4), (15, aI (IntKind.wrap .i64 (y13 + 1)))] (by kernel_rfl) ?_))
     exact ⟨_, _, tidyL [(1, .ptr 0 0), (13, aR 1 1 4), (14, aI 4), (15, aI (IntKind.wrap .i64 (y13 + 1)))] [.box [aI a0.fKind, aI a0.fRel, .pv (encSl R_E_api_Expr a0.fWhere), .pv (encSl R_E_api_Expr a0.fLeft), .pv (encSl R_E_api_Expr a0.fRight), .pv (encSl R_E_api_Expr a0.fOut), .pv (encSl R_api_Agg a0.fAggs), .pv (encSl R_api_Key a0.fOrder), .pv (encSl R_E_api_Plan a0.fKids)] false, bR 23 1 (rSl R_E_api_Expr) ([a0.fWhere, a0.fLeft, a0.fRight, a0.fOut] : List (Option (List E_api_Expr))) 0 0] (by kernel_rfl), ⟨(IntKind.wrap .i64 (y13 + 1)), hm, rfl, rfl⟩⟩
  ·
   refine cf h15 (by kernel_rfl) (wp_exit ?_)
   exact ⟨y13, (decide (y13 < 4)), hm, rfl, rfl⟩
end Go.Ab.S1
