import Derived.Test.YtjbhpopccbhhlaaWB1
namespace Go.Ab.S1
open Go Go.Ab Go.Pl
open Go.Proofs.Try
set_option linter.unusedVariables false
set_option linter.unusedSimpArgs false
set_option maxRecDepth 100000
theorem ok_codec_Reader_number {n : Nat} {a0 : codec_Reader} {r : Bool × (Option (List Int)) × Int × Int × Bool} (hm : codec_Reader_number n a0 = some r) :
    ∃ vv H1, call G n 97 [.ptr 0 0] [.box [aB a0.fmade, .pv (encSl (rI .u8) a0.fb), aI a0.fe] false] = some (.ret vv, H1) ∧ (match r with | (r0, r1, r2, r3, r4) => (vv = .tup [aU r3, aB r4] ∧ H1 = [.box [aB r0, .pv (encSl (rI .u8) r1), aI r2] false])) := by
  unfold codec_Reader_number at hm
  obtain ⟨n, rfl, h0⟩ := at1_some hm
  replace hm := h0; clear h0
  refine callE 52 [(0, .ptr 0 0)] func97 rfl (by kernel_rfl) (sq (detn [(0, .ptr 0 0), (2, aU 0)] (by kernel_rfl) (scq (sq (detn [(0, .ptr 0 0), (2, aU 0), (4, aI 22)] (by kernel_rfl) ?_)))))
  refine sq (sq (detn [(0, .ptr 0 0), (2, aU 0), (4, aI 22), (5, aI 0)] (by kernel_rfl) (bq ?_)))
  refine loopF (fun mm t H => (∃ (y10 : Bool) (y11 : (Option (List Int))) (y12 : Int) (y13 : Int) (y14 : Int), codec_Reader_number_l4 n mm y10 y11 y12 y13 y14 = some r ∧ t = mk 52 [(0, .ptr 0 0), (2, aU y13), (4, aI 22), (5, aI y14)] ∧ H = [.box [aB y10, .pv (encSl (rI .u8) y11), aI y12] false])) (⟨a0.fmade, a0.fb, a0.fe, 0, 0, hm, rfl, rfl⟩) ?_ ?_
  · rintro _ _ ⟨y10, y11, y12, y13, y14, hm, _⟩; exact nomatch hm
  rintro m15 _ _ ⟨y10, y11, y12, y13, y14, hm, rfl, rfl⟩
  simp only [codec_Reader_number_l4] at hm
  refine sq (bq ?_)
  refine sq (sq (detn [(0, .ptr 0 0), (2, aU y13), (4, aI 22), (5, aI y14), (12, aB (y14 == 10))] (by kernel_rfl) ?_))
  rcases bif_some hm with ⟨h16, hm⟩ | ⟨h16, hm⟩
  ·
   refine ct h16 (by kernel_rfl) (wp_goto ?_)
   refine ⟨by kernel_rfl, ?_⟩
   refine wp_seq_r (by kernel_rfl) (wp_seq_r (by kernel_rfl) (sql (by kernel_rfl) (wp_label_l (sq (rg (sh 2 [(50, aI 22), (49, .ptr 0 0)] (by kernel_rfl) ?_))))))
   obtain ⟨_, h17, hm⟩ := bs hm
   obtain ⟨vv, H1, hC, rfl, rfl⟩ := ok_codec_Reader_fail h17
   refine dR [(51, .tup [])] [.box [aB ((codec_Reader.mk y10 y11 y12).fmade), .pv .nils, aI 22] false] [0] [.ptr 0 0, aI 22] (by kernel_rfl) (by kernel_rfl) (by kernel_rfl) hC (by kernel_rfl) (fin [] rfl (by kernel_rfl) (sq (detn [(2, aU 0), (3, aB false)] (by kernel_rfl) (wp_ret ?_))))
   obtain rfl := Option.some.inj hm
   exact ⟨trivial, .tup [aU 0, aB false], [.box [aB ((codec_Reader.mk y10 y11 y12).fmade), .pv .nils, aI 22] false], by kernel_rfl, rfl, rfl⟩
  ·
   refine cf h16 (by kernel_rfl) (wp_skip (sq (rg (sh 1 [(14, .ptr 0 0)] (by kernel_rfl) ?_))))
   obtain ⟨⟨x19, x20, x21, x22⟩, h18, hm⟩ := bs hm
   obtain ⟨vv, H1, hC, rfl, rfl⟩ := ok_codec_Reader_take h18
   refine dR [(15, .tup [.pv (encSl (rI .u8) x21), aB x22])] [.box [aB ((codec_Reader.mk y10 y11 y12).fmade), .pv (encSl (rI .u8) x19), aI x20] false] [0] [.ptr 0 0, aI 1] (by kernel_rfl) (by kernel_rfl) (by kernel_rfl) hC (by kernel_rfl) (sh 5 [(7, aB x22), (6, .pv (encSl (rI .u8) x21)), (17, aB x22), (16, .pv (encSl (rI .u8) x21)), (13, .tup [.pv (encSl (rI .u8) x21), aB x22])] (by kernel_rfl) (fin [(0, .ptr 0 0), (2, aU y13), (4, aI 22), (5, aI y14), (6, .pv (encSl (rI .u8) x21)), (7, aB x22)] rfl (by kernel_rfl) ?_))
   refine sq (sq (detn [(0, .ptr 0 0), (2, aU y13), (4, aI 22), (5, aI y14), (6, .pv (encSl (rI .u8) x21)), (19, aB (!x22))] (by kernel_rfl) ?_))
   rcases bif_some hm with ⟨h23, hm⟩ | ⟨h23, hm⟩
   ·
    refine ct h23 (by kernel_rfl) (sq (detn [(2, aU 0), (3, aB false)] (by kernel_rfl) (wp_ret ?_)))
    obtain rfl := Option.some.inj hm
    exact ⟨trivial, .tup [aU 0, aB false], [.box [aB ((codec_Reader.mk y10 y11 y12).fmade), .pv (encSl (rI .u8) x19), aI x20] false], by kernel_rfl, rfl, rfl⟩
   ·
    refine cf h23 (by kernel_rfl) (wp_skip (sq (rg (sh 1 [(20, .pv (encSl (rI .u8) x21))] (by kernel_rfl) ?_))))
    obtain ⟨x24, h25, hm⟩ := bs hm
    refine dv 21 (v := .pv (.ptr ((rI .u8) x24) 0)) (ia_slO (rI .u8) x21 .i64 t43 t5 h25 rfl (by kernel_rfl)) (by kernel_rfl) (sh 2 [(8, aY x24), (22, aY x24)] (by kernel_rfl) (fin [(0, .ptr 0 0), (2, aU y13), (4, aI 22), (5, aI y14), (8, aY x24)] rfl (by kernel_rfl) ?_))
    refine sq (sq (rg (sh 3 [(25, aB (y14 == 9)), (24, aB (y14 == 9)), (23, aI y14)] (by kernel_rfl) ?_)))
    refine seg (y14 == 9) [25, 24] (fun b => [(28, aB (b && (decide (x24 > 1)))), (27, ifA b (aB (decide (x24 > 1))) (.undef)), (26, ifA b (aY x24) (.undef))]) 6 (by kernel_rfl) ?_ ?_ ?_
    ·
     intro Q h
     refine sh 3 [(28, aB (decide (x24 > 1))), (27, aB (decide (x24 > 1))), (26, aY x24)] (by kernel_rfl) ?_
     exact sameN (by kernel_rfl) (by kernel_rfl) h
    ·
     intro Q h
     refine sh 3 [(28, aB false), (27, .undef), (26, .undef)] (by kernel_rfl) ?_
     exact sameN (by kernel_rfl) (by kernel_rfl) h
    refine sh 1 [(29, aB ((y14 == 9) && (decide (x24 > 1))))] (by kernel_rfl) ?_
    refine seg ((y14 == 9) && (decide (x24 > 1))) [29, 28] (fun b => [(36, aB (b || ((decide (y14 > 0)) && (x24 == 0)))), (35, ifA b (.undef) (aB ((decide (y14 > 0)) && (x24 == 0)))), (34, ifA b (.undef) (ifA (decide (y14 > 0)) (aB (x24 == 0)) (.undef))), (33, ifA b (.undef) (ifA (decide (y14 > 0)) (aY x24) (.undef))), (32, ifA b (.undef) (aB (decide (y14 > 0)))), (31, ifA b (.undef) (aB (decide (y14 > 0)))), (30, ifA b (.undef) (aI y14))]) 14 (by kernel_rfl) ?_ ?_ ?_
    ·
     intro Q h
     refine sh 7 [(36, aB true), (35, .undef), (34, .undef), (33, .undef), (32, .undef), (31, .undef), (30, .undef)] (by kernel_rfl) ?_
     exact sameN (by kernel_rfl) (by kernel_rfl) h
    ·
     intro Q h
     refine sh 3 [(32, aB (decide (y14 > 0))), (31, aB (decide (y14 > 0))), (30, aI y14)] (by kernel_rfl) ?_
     refine seg (decide (y14 > 0)) [32, 31] (fun b => [(35, aB (b && (x24 == 0))), (34, ifA b (aB (x24 == 0)) (.undef)), (33, ifA b (aY x24) (.undef))]) 13 (by kernel_rfl) ?_ ?_ ?_
     ·
      intro Q h
      refine sh 3 [(35, aB (x24 == 0)), (34, aB (x24 == 0)), (33, aY x24)] (by kernel_rfl) ?_
      exact sameN (by kernel_rfl) (by kernel_rfl) h
     ·
      intro Q h
      refine sh 3 [(35, aB false), (34, .undef), (33, .undef)] (by kernel_rfl) ?_
      exact sameN (by kernel_rfl) (by kernel_rfl) h
     refine sh 1 [(36, aB ((decide (y14 > 0)) && (x24 == 0)))] (by kernel_rfl) ?_
     exact sameN (by kernel_rfl) (by kernel_rfl) h
    refine fin [(0, .ptr 0 0), (2, aU y13), (4, aI 22), (5, aI y14), (8, aY x24), (36, aB (((y14 == 9) && (decide (x24 > 1))) || ((decide (y14 > 0)) && (x24 == 0))))] rfl (by kernel_rfl) ?_
    rcases bif_some hm with ⟨h26, hm⟩ | ⟨h26, hm⟩
    ·
     refine ct h26 (by kernel_rfl) (wp_goto ?_)
     refine ⟨by kernel_rfl, ?_⟩
     refine wp_seq_r (by kernel_rfl) (wp_seq_r (by kernel_rfl) (sql (by kernel_rfl) (wp_label_l (sq (rg (sh 2 [(50, aI 22), (49, .ptr 0 0)] (by kernel_rfl) ?_))))))
     obtain ⟨_, h27, hm⟩ := bs hm
     obtain ⟨vv, H1, hC, rfl, rfl⟩ := ok_codec_Reader_fail h27
     refine dR [(51, .tup [])] [.box [aB ((codec_Reader.mk ((codec_Reader.mk y10 y11 y12).fmade) x19 x20).fmade), .pv .nils, aI 22] false] [0] [.ptr 0 0, aI 22] (by kernel_rfl) (by kernel_rfl) (by kernel_rfl) hC (by kernel_rfl) (fin [] rfl (by kernel_rfl) (sq (detn [(2, aU 0), (3, aB false)] (by kernel_rfl) (wp_ret ?_))))
     obtain rfl := Option.some.inj hm
     exact ⟨trivial, .tup [aU 0, aB false], [.box [aB ((codec_Reader.mk ((codec_Reader.mk y10 y11 y12).fmade) x19 x20).fmade), .pv .nils, aI 22] false], by kernel_rfl, rfl, rfl⟩
    ·
     refine cf h26 (by kernel_rfl) (wp_skip (sq (rg (sh 7 [(43, aU (IntKind.wrap .u64 (IntKind.wrap .i64 (7 * y14)))), (42, aI (IntKind.wrap .i64 (7 * y14))), (41, aI y14), (40, aU (IntKind.wrap .u64 (iAnd .u8 x24 127))), (39, aY (iAnd .u8 x24 127)), (38, aY x24), (37, aU y13)] (by kernel_rfl) ?_))))
     obtain ⟨_, h28, hm⟩ := bs hm
     refine dv 44 (v := aU (iShl .u64 (IntKind.wrap .u64 (iAnd .u8 x24 127)) (IntKind.wrap .u64 (IntKind.wrap .i64 (7 * y14))))) (shlO h28 (by kernel_rfl)) (by kernel_rfl) (sh 2 [(2, aU (iOr .u64 y13 (iShl .u64 (IntKind.wrap .u64 (iAnd .u8 x24 127)) (IntKind.wrap .u64 (IntKind.wrap .i64 (7 * y14)))))), (45, aU (iOr .u64 y13 (iShl .u64 (IntKind.wrap .u64 (iAnd .u8 x24 127)) (IntKind.wrap .u64 (IntKind.wrap .i64 (7 * y14))))))] (by kernel_rfl) (fin [(0, .ptr 0 0), (2, aU (iOr .u64 y13 (iShl .u64 (IntKind.wrap .u64 (iAnd .u8 x24 127)) (IntKind.wrap .u64 (IntKind.wrap .i64 (7 * y14)))))), (4, aI 22), (5, aI y14), (8, aY x24)] rfl (by kernel_rfl) (sq (detn [(0, .ptr 0 0), (2, aU (iOr .u64 y13 (iShl .u64 (IntKind.wrap .u64 (iAnd .u8 x24 127)) (IntKind.wrap .u64 (IntKind.wrap .i64 (7 * y14)))))), (4, aI 22), (5, aI y14), (47, aB (decide (x24 < 128)))] (by kernel_rfl) ?_))))
     rcases bif_some hm with ⟨h29, hm⟩ | ⟨h29, hm⟩
     ·
      refine ct h29 (by kernel_rfl) (sq (detn [(2, aU (iOr .u64 y13 (iShl .u64 (IntKind.wrap .u64 (iAnd .u8 x24 127)) (IntKind.wrap .u64 (IntKind.wrap .i64 (7 * y14)))))), (3, aB true)] (by kernel_rfl) (wp_ret ?_)))
      obtain rfl := Option.some.inj hm
      exact ⟨trivial, .tup [aU (iOr .u64 y13 (iShl .u64 (IntKind.wrap .u64 (iAnd .u8 x24 127)) (IntKind.wrap .u64 (IntKind.wrap .i64 (7 * y14))))), aB true], [.box [aB ((codec_Reader.mk y10 y11 y12).fmade), .pv (encSl (rI .u8) x19), aI x20] false], by kernel_rfl, rfl, rfl⟩
     ·
      refine cf h29 (by kernel_rfl) (wp_skip (detn [(0, .ptr 0 0), (2, aU (iOr .u64 y13 (iShl .u64 (IntKind.wrap .u64 (iAnd .u8 x24 127)) (IntKind.wrap .u64 (IntKind.wrap .i64 (7 * y14)))))), (4, aI 22), (5, aI (IntKind.wrap .i64 (y14 + 1)))] (by kernel_rfl) ?_))
      exact ⟨_, _, tidyL [(0, .ptr 0 0), (2, aU (iOr .u64 y13 (iShl .u64 (IntKind.wrap .u64 (iAnd .u8 x24 127)) (IntKind.wrap .u64 (IntKind.wrap .i64 (7 * y14)))))), (4, aI 22), (5, aI (IntKind.wrap .i64 (y14 + 1)))] [.box [aB ((codec_Reader.mk y10 y11 y12).fmade), .pv (encSl (rI .u8) x19), aI x20] false] (by kernel_rfl), ⟨((codec_Reader.mk y10 y11 y12).fmade), x19, x20, (iOr .u64 y13 (iShl .u64 (IntKind.wrap .u64 (iAnd .u8 x24 127)) (IntKind.wrap .u64 (IntKind.wrap .i64 (7 * y14))))), (IntKind.wrap .i64 (y14 + 1)), hm, rfl, rfl⟩⟩
theorem ok_codec_Reader_Uint {n : Nat} {a0 : codec_Reader} {a1 : Int} {r : Bool × (Option (List Int)) × Int × Int} (hm : codec_Reader_Uint n a0 a1 = some r) :
    ∃ vv H1, call G n 58 [.ptr 0 0, aU a1] [.box [aB a0.fmade, .pv (encSl (rI .u8) a0.fb), aI a0.fe] false] = some (.ret vv, H1) ∧ (match r with | (r0, r1, r2, r3) => (vv = aU r3 ∧ H1 = [.box [aB r0, .pv (encSl (rI .u8) r1), aI r2] false])) := by
  unfold codec_Reader_Uint at hm
  obtain ⟨n, rfl, h0⟩ := at1_some hm
  replace hm := h0; clear h0
  refine callE 24 [(0, .ptr 0 0), (1, aU a1)] func58 rfl (by kernel_rfl) (sq (detn [(0, .ptr 0 0), (1, aU a1)] (by kernel_rfl) ?_))
  refine sq (sq (rg (sh 1 [(7, .ptr 0 0)] (by kernel_rfl) ?_)))
  obtain ⟨_, h1, hm⟩ := bs hm
  obtain ⟨vv, H1, hC, rfl, rfl⟩ := ok_codec_Reader_ready h1
  refine dR [(8, aB (a0.fmade && (a0.fe == 0)))] [.box [aB a0.fmade, .pv (encSl (rI .u8) a0.fb), aI a0.fe] false] [0] [.ptr 0 0] (by kernel_rfl) (by kernel_rfl) (by kernel_rfl) hC (by kernel_rfl) (sh 1 [(9, aB (!(a0.fmade && (a0.fe == 0))))] (by kernel_rfl) (fin [(0, .ptr 0 0), (1, aU a1), (9, aB (!(a0.fmade && (a0.fe == 0))))] rfl (by kernel_rfl) ?_))
  rcases bif_some hm with ⟨h2, hm⟩ | ⟨h2, hm⟩
  ·
   refine ct h2 (by kernel_rfl) (sq (detn [(4, aU 0)] (by kernel_rfl) (wp_ret ?_)))
   obtain rfl := Option.some.inj hm
   exact ⟨trivial, aU 0, [.box [aB a0.fmade, .pv (encSl (rI .u8) a0.fb), aI a0.fe] false], by kernel_rfl, rfl, rfl⟩
  ·
   refine cf h2 (by kernel_rfl) (wp_skip (sq (rg (sh 1 [(11, .ptr 0 0)] (by kernel_rfl) ?_))))
   obtain ⟨⟨x4, x5, x6, x7, x8⟩, h3, hm⟩ := bs hm
   obtain ⟨vv, H1, hC, rfl, rfl⟩ := ok_codec_Reader_number h3
   refine dR [(12, .tup [aU x7, aB x8])] [.box [aB x4, .pv (encSl (rI .u8) x5), aI x6] false] [0] [.ptr 0 0] (by kernel_rfl) (by kernel_rfl) (by kernel_rfl) hC (by kernel_rfl) (sh 5 [(6, aB x8), (5, aU x7), (14, aB x8), (13, aU x7), (10, .tup [aU x7, aB x8])] (by kernel_rfl) (fin [(0, .ptr 0 0), (1, aU a1), (5, aU x7), (6, aB x8)] rfl (by kernel_rfl) (sq (sq (rg (sh 2 [(16, aB x8), (15, aB x8)] (by kernel_rfl) ?_))))))
   refine seg x8 [16, 15, 6] (fun b => [(20, aB (b && (decide (x7 > a1)))), (19, ifA b (aB (decide (x7 > a1))) (.undef)), (18, ifA b (aU a1) (.undef)), (17, ifA b (aU x7) (.undef))]) 6 (by kernel_rfl) ?_ ?_ ?_
   ·
    intro Q h
    refine sh 4 [(20, aB (decide (x7 > a1))), (19, aB (decide (x7 > a1))), (18, aU a1), (17, aU x7)] (by kernel_rfl) ?_
    exact sameN (by kernel_rfl) (by kernel_rfl) h
   ·
    intro Q h
    refine sh 4 [(20, aB false), (19, .undef), (18, .undef), (17, .undef)] (by kernel_rfl) ?_
    exact sameN (by kernel_rfl) (by kernel_rfl) h
   refine fin [(0, .ptr 0 0), (5, aU x7), (20, aB (x8 && (decide (x7 > a1))))] rfl (by kernel_rfl) ?_
   rcases bif_some hm with ⟨h9, hm⟩ | ⟨h9, hm⟩
   ·
    refine ct h9 (by kernel_rfl) (sq (rg (sh 1 [(21, .ptr 0 0)] (by kernel_rfl) ?_)))
    obtain ⟨_, h10, hm⟩ := bs hm
    obtain ⟨vv, H1, hC, rfl, rfl⟩ := ok_codec_Reader_fail h10
    refine dR [(22, .tup [])] [.box [aB ((codec_Reader.mk x4 x5 x6).fmade), .pv .nils, aI 3] false] [0] [.ptr 0 0, aI 3] (by kernel_rfl) (by kernel_rfl) (by kernel_rfl) hC (by kernel_rfl) (fin [] rfl (by kernel_rfl) (sq (detn [(4, aU 0)] (by kernel_rfl) (wp_ret ?_))))
    obtain rfl := Option.some.inj hm
    exact ⟨trivial, aU 0, [.box [aB ((codec_Reader.mk x4 x5 x6).fmade), .pv .nils, aI 3] false], by kernel_rfl, rfl, rfl⟩
   ·
    refine cf h9 (by kernel_rfl) (wp_skip (sq (detn [(4, aU x7)] (by kernel_rfl) (wp_ret ?_))))
    obtain rfl := Option.some.inj hm
    exact ⟨trivial, aU x7, [.box [aB x4, .pv (encSl (rI .u8) x5), aI x6] false], by kernel_rfl, rfl, rfl⟩
theorem ok_codec_Reader_Fixed {n : Nat} {a0 : codec_Reader} {a1 : Int} {r : (Option (List Int)) × Int × Int} (hm : codec_Reader_Fixed n a0 a1 = some r) :
    ∃ vv H1, call G n 119 [.ptr 0 0, aI a1] [.box [aB a0.fmade, .pv (encSl (rI .u8) a0.fb), aI a0.fe] false] = some (.ret vv, H1) ∧ (match r with | (r0, r1, r2) => (vv = aU r2 ∧ H1 = [.box [aB a0.fmade, .pv (encSl (rI .u8) r0), aI r1] false])) := by
  unfold codec_Reader_Fixed at hm
  obtain ⟨n, rfl, h0⟩ := at1_some hm
  replace hm := h0; clear h0
  refine callE 34 [(0, .ptr 0 0), (1, aI a1)] func119 rfl (by kernel_rfl) (sq (detn [(0, .ptr 0 0), (1, aI a1)] (by kernel_rfl) ?_))
  refine sq (sq (rg (sh 1 [(10, .ptr 0 0)] (by kernel_rfl) ?_)))
  obtain ⟨_, h1, hm⟩ := bs hm
  obtain ⟨vv, H1, hC, rfl, rfl⟩ := ok_codec_Reader_ready h1
  refine dR [(11, aB (a0.fmade && (a0.fe == 0)))] [.box [aB a0.fmade, .pv (encSl (rI .u8) a0.fb), aI a0.fe] false] [0] [.ptr 0 0] (by kernel_rfl) (by kernel_rfl) (by kernel_rfl) hC (by kernel_rfl) (sh 1 [(12, aB (!(a0.fmade && (a0.fe == 0))))] (by kernel_rfl) (fin [(0, .ptr 0 0), (1, aI a1), (12, aB (!(a0.fmade && (a0.fe == 0))))] rfl (by kernel_rfl) ?_))
  rcases bif_some hm with ⟨h2, hm⟩ | ⟨h2, hm⟩
  ·
   refine ct h2 (by kernel_rfl) (sq (detn [(4, aU 0)] (by kernel_rfl) (wp_ret ?_)))
   obtain rfl := Option.some.inj hm
   exact ⟨trivial, aU 0, [.box [aB a0.fmade, .pv (encSl (rI .u8) a0.fb), aI a0.fe] false], by kernel_rfl, rfl, rfl⟩
  ·
   refine cf h2 (by kernel_rfl) (wp_skip (sq (rg (sh 4 [(17, aI (if 8 < (if 0 > a1 then 0 else a1) then 8 else (if 0 > a1 then 0 else a1))), (16, aI (if 0 > a1 then 0 else a1)), (15, aI a1), (14, .ptr 0 0)] (by kernel_rfl) ?_))))
   obtain ⟨⟨x4, x5, x6, x7⟩, h3, hm⟩ := bs hm
   obtain ⟨vv, H1, hC, rfl, rfl⟩ := ok_codec_Reader_take h3
   refine dR [(18, .tup [.pv (encSl (rI .u8) x6), aB x7])] [.box [aB a0.fmade, .pv (encSl (rI .u8) x4), aI x5] false] [0] [.ptr 0 0, aI (if 8 < (if 0 > a1 then 0 else a1) then 8 else (if 0 > a1 then 0 else a1))] (by kernel_rfl) (by kernel_rfl) (by kernel_rfl) hC (by kernel_rfl) (sh 5 [(6, aB x7), (5, .pv (encSl (rI .u8) x6)), (20, aB x7), (19, .pv (encSl (rI .u8) x6)), (13, .tup [.pv (encSl (rI .u8) x6), aB x7])] (by kernel_rfl) (fin [(5, .pv (encSl (rI .u8) x6))] rfl (by kernel_rfl) (sq (detn [(5, .pv (encSl (rI .u8) x6)), (7, aU 0)] (by kernel_rfl) ?_))))
   obtain ⟨k11, hk11, hm⟩ := withK_some hm
   refine mid (fun t H => (∃ (y8 : Int) (y9 : Bool) (y10 : Int), k11 y10 = some r ∧ t = mk 34 [(7, aU y10), (21, .pv (encSl (rI .u8) x6)), (22, aI ((sll x6).length : Int)), (23, aI y8), (24, aB y9)] ∧ H = [.box [aB a0.fmade, .pv (encSl (rI .u8) x4), aI x5] false])) ?_ ?_
   ·
    rintro _ _ ⟨y8, y9, y10, hm, rfl, rfl⟩
    subst hk11
    refine sq (detn [(4, aU y10)] (by kernel_rfl) (wp_ret ?_))
    obtain rfl := Option.some.inj hm
    exact ⟨trivial, aU y10, [.box [aB a0.fmade, .pv (encSl (rI .u8) x4), aI x5] false], by kernel_rfl, rfl, rfl⟩
   refine sq (rg (sh 1 [(21, .pv (encSl (rI .u8) x6))] (by kernel_rfl) (dv 22 (v := aI ((sll x6).length : Int)) (len_slO (rI .u8) x6 t43 (by kernel_rfl)) (by kernel_rfl) (sh 1 [(23, aI 0)] (by kernel_rfl) (fin [(7, aU 0), (21, .pv (encSl (rI .u8) x6)), (22, aI ((sll x6).length : Int)), (23, aI 0)] rfl (by kernel_rfl) (bq ?_))))))
   refine loopF (fun mm t H => (∃ (y14 : Int) (y15 : Int), codec_Reader_Fixed_l6 n x6 k11 mm y14 y15 = some r ∧ t = mk 34 [(7, aU y15), (21, .pv (encSl (rI .u8) x6)), (22, aI ((sll x6).length : Int)), (23, aI y14)] ∧ H = [.box [aB a0.fmade, .pv (encSl (rI .u8) x4), aI x5] false])) (⟨0, 0, hm, rfl, rfl⟩) ?_ ?_
   · rintro _ _ ⟨y14, y15, hm, _⟩; exact nomatch hm
   rintro m16 _ _ ⟨y14, y15, hm, rfl, rfl⟩
   simp only [codec_Reader_Fixed_l6] at hm
   refine sq (detn [(7, aU y15), (21, .pv (encSl (rI .u8) x6)), (22, aI ((sll x6).length : Int)), (23, aI y14), (24, aB (decide (y14 < ((sll x6).length : Int))))] (by kernel_rfl) ?_)
   refine sq ?_
   rcases bif_some hm with ⟨h17, hm⟩ | ⟨h17, hm⟩
   ·
    refine ct h17 (by kernel_rfl) (wp_skip (sq (bq (sq (rg ?_)))))
    obtain ⟨x18, h19, hm⟩ := bs hm
    refine dv 25 (v := .pv (.ptr ((rI .u8) x18) 0)) (ia_slO (rI .u8) x6 .i64 t43 t5 h19 rfl (by kernel_rfl)) (by kernel_rfl) (sh 2 [(9, aY x18), (26, aY x18)] (by kernel_rfl) (fin [(7, aU y15), (9, aY x18), (21, .pv (encSl (rI .u8) x6)), (22, aI ((sll x6).length : Int)), (23, aI y14)] rfl (by kernel_rfl) (detn [(7, aU (iOr .u64 (iShl .u64 y15 8) (IntKind.wrap .u64 x18))), (21, .pv (encSl (rI .u8) x6)), (22, aI ((sll x6).length : Int)), (23, aI y14)] (by kernel_rfl) (detn [(7, aU (iOr .u64 (iShl .u64 y15 8) (IntKind.wrap .u64 x18))), (21, .pv (encSl (rI .u8) x6)), (22, aI ((sll x6).length : Int)), (23, aI (IntKind.wrap .i64 (y14 + 1)))] (by kernel_rfl) ?_))))
    exact ⟨_, _, tidyL [(7, aU (iOr .u64 (iShl .u64 y15 8) (IntKind.wrap .u64 x18))), (21, .pv (encSl (rI .u8) x6)), (22, aI ((sll x6).length : Int)), (23, aI (IntKind.wrap .i64 (y14 + 1)))] [.box [aB a0.fmade, .pv (encSl (rI .u8) x4), aI x5] false] (by kernel_rfl), ⟨(IntKind.wrap .i64 (y14 + 1)), (iOr .u64 (iShl .u64 y15 8) (IntKind.wrap .u64 x18)), hm, rfl, rfl⟩⟩
   ·
    refine cf h17 (by kernel_rfl) (wp_exit ?_)
    exact ⟨y14, (decide (y14 < ((sll x6).length : Int))), y15, hm, rfl, rfl⟩
theorem ok_codec_Reader_Byte {n : Nat} {a0 : codec_Reader} {r : (Option (List Int)) × Int × Int} (hm : codec_Reader_Byte n a0 = some r) :
    ∃ vv H1, call G n 99 [.ptr 0 0] [.box [aB a0.fmade, .pv (encSl (rI .u8) a0.fb), aI a0.fe] false] = some (.ret vv, H1) ∧ (match r with | (r0, r1, r2) => (vv = aY r2 ∧ H1 = [.box [aB a0.fmade, .pv (encSl (rI .u8) r0), aI r1] false])) := by
  unfold codec_Reader_Byte at hm
  obtain ⟨n, rfl, h0⟩ := at1_some hm
  replace hm := h0; clear h0
  refine callE 6 [(0, .ptr 0 0)] func99 rfl (by kernel_rfl) (sq (detn [(0, .ptr 0 0)] (by kernel_rfl) (sq (rg (sh 1 [(3, .ptr 0 0)] (by kernel_rfl) ?_)))))
  obtain ⟨⟨x2, x3, x4⟩, h1, hm⟩ := bs hm
  obtain ⟨vv, H1, hC, rfl, rfl⟩ := ok_codec_Reader_Fixed h1
  refine dR [(4, aU x4)] [.box [aB a0.fmade, .pv (encSl (rI .u8) x2), aI x3] false] [0] [.ptr 0 0, aI 1] (by kernel_rfl) (by kernel_rfl) (by kernel_rfl) hC (by kernel_rfl) (sh 2 [(2, aY (IntKind.wrap .u8 x4)), (5, aY (IntKind.wrap .u8 x4))] (by kernel_rfl) (fin [(2, aY (IntKind.wrap .u8 x4))] rfl (by kernel_rfl) (wp_ret ?_)))
  obtain rfl := Option.some.inj hm
  exact ⟨trivial, aY (IntKind.wrap .u8 x4), [.box [aB a0.fmade, .pv (encSl (rI .u8) x2), aI x3] false], by kernel_rfl, rfl, rfl⟩
theorem ok_codec_Reader_Int {n : Nat} {a0 : codec_Reader} {r : Bool × (Option (List Int)) × Int × Int} (hm : codec_Reader_Int n a0 = some r) :
    ∃ vv H1, call G n 112 [.ptr 0 0] [.box [aB a0.fmade, .pv (encSl (rI .u8) a0.fb), aI a0.fe] false] = some (.ret vv, H1) ∧ (match r with | (r0, r1, r2, r3) => (vv = aI r3 ∧ H1 = [.box [aB r0, .pv (encSl (rI .u8) r1), aI r2] false])) := by
  unfold codec_Reader_Int at hm
  obtain ⟨n, rfl, h0⟩ := at1_some hm
  replace hm := h0; clear h0
  refine callE 16 [(0, .ptr 0 0)] func112 rfl (by kernel_rfl) (sq (detn [(0, .ptr 0 0)] (by kernel_rfl) (sq (rg (sh 1 [(4, .ptr 0 0)] (by kernel_rfl) ?_)))))
  obtain ⟨⟨x2, x3, x4, x5⟩, h1, hm⟩ := bs hm
  obtain ⟨vv, H1, hC, rfl, rfl⟩ := ok_codec_Reader_Uint h1
  refine dR [(5, aU x5)] [.box [aB x2, .pv (encSl (rI .u8) x3), aI x4] false] [0] [.ptr 0 0, aU 18446744073709551615] (by kernel_rfl) (by kernel_rfl) (by kernel_rfl) hC (by kernel_rfl) (sh 1 [(3, aU x5)] (by kernel_rfl) (fin [(3, aU x5)] rfl (by kernel_rfl) (sq (sq (detn [(3, aU x5), (8, aB ((iAnd .u64 x5 1) == 1))] (by kernel_rfl) ?_)))))
  rcases bif_some hm with ⟨h6, hm⟩ | ⟨h6, hm⟩
  ·
   refine ct h6 (by kernel_rfl) (sq (detn [(2, aI (IntKind.wrap .i64 (notI .u64 (iShr .u64 x5 1))))] (by kernel_rfl) (wp_ret ?_)))
   obtain rfl := Option.some.inj hm
   exact ⟨trivial, aI (IntKind.wrap .i64 (notI .u64 (iShr .u64 x5 1))), [.box [aB x2, .pv (encSl (rI .u8) x3), aI x4] false], by kernel_rfl, rfl, rfl⟩
  ·
   refine cf h6 (by kernel_rfl) (wp_skip (sq (detn [(2, aI (IntKind.wrap .i64 (iShr .u64 x5 1)))] (by kernel_rfl) (wp_ret ?_))))
   obtain rfl := Option.some.inj hm
   exact ⟨trivial, aI (IntKind.wrap .i64 (iShr .u64 x5 1)), [.box [aB x2, .pv (encSl (rI .u8) x3), aI x4] false], by kernel_rfl, rfl, rfl⟩
theorem ok_codec_Reader_Float {n : Nat} {a0 : codec_Reader} {r : Bool × (Option (List Int)) × Int × Nat} (hm : codec_Reader_Float n a0 = some r) :
    ∃ vv H1, call G n 113 [.ptr 0 0] [.box [aB a0.fmade, .pv (encSl (rI .u8) a0.fb), aI a0.fe] false] = some (.ret vv, H1) ∧ (match r with | (r0, r1, r2, r3) => (vv = aF r3 ∧ H1 = [.box [aB r0, .pv (encSl (rI .u8) r1), aI r2] false])) := by
  unfold codec_Reader_Float at hm
  obtain ⟨n, rfl, h0⟩ := at1_some hm
  replace hm := h0; clear h0
  refine callE 19 [(0, .ptr 0 0)] func113 rfl (by kernel_rfl) (sq (detn [(0, .ptr 0 0)] (by kernel_rfl) (sq (rg (sh 1 [(5, .ptr 0 0)] (by kernel_rfl) ?_)))))
  obtain ⟨⟨x2, x3, x4⟩, h1, hm⟩ := bs hm
  obtain ⟨vv, H1, hC, rfl, rfl⟩ := ok_codec_Reader_Fixed h1
  refine dR [(6, aU x4)] [.box [aB a0.fmade, .pv (encSl (rI .u8) x2), aI x3] false] [0] [.ptr 0 0, aI 8] (by kernel_rfl) (by kernel_rfl) (by kernel_rfl) hC (by kernel_rfl) (sh 1 [(3, aU x4)] (by kernel_rfl) (fin [(0, .ptr 0 0), (3, aU x4)] rfl (by kernel_rfl) ?_))
  refine sq (sq (rg (sh 1 [(7, .ptr 0 0)] (by kernel_rfl) ?_)))
  obtain ⟨_, h5, hm⟩ := bs hm
  obtain ⟨vv, H1, hC, rfl, rfl⟩ := ok_codec_Reader_ready h5
  refine dR [(8, aB ((codec_Reader.mk a0.fmade x2 x3).fmade && ((codec_Reader.mk a0.fmade x2 x3).fe == 0)))] [.box [aB a0.fmade, .pv (encSl (rI .u8) x2), aI x3] false] [0] [.ptr 0 0] (by kernel_rfl) (by kernel_rfl) (by kernel_rfl) hC (by kernel_rfl) (sh 1 [(9, aB (!((codec_Reader.mk a0.fmade x2 x3).fmade && ((codec_Reader.mk a0.fmade x2 x3).fe == 0))))] (by kernel_rfl) (fin [(0, .ptr 0 0), (3, aU x4), (9, aB (!((codec_Reader.mk a0.fmade x2 x3).fmade && ((codec_Reader.mk a0.fmade x2 x3).fe == 0))))] rfl (by kernel_rfl) ?_))
  rcases bif_some hm with ⟨h6, hm⟩ | ⟨h6, hm⟩
  ·
   refine ct h6 (by kernel_rfl) (sq (detn [(2, aF 0)] (by kernel_rfl) (wp_ret ?_)))
   obtain rfl := Option.some.inj hm
   exact ⟨trivial, aF 0, [.box [aB a0.fmade, .pv (encSl (rI .u8) x2), aI x3] false], by kernel_rfl, rfl, rfl⟩
  ·
   refine cf h6 (by kernel_rfl) (wp_skip (sq (rg (sh 1 [(10, aU x4)] (by kernel_rfl) (sh 1 [(11, aF (Int.toNat x4))] (by kernel_rfl) (sh 1 [(4, aF (Int.toNat x4))] (by kernel_rfl) (fin [(0, .ptr 0 0), (3, aU x4), (4, aF (Int.toNat x4))] rfl (by kernel_rfl) (sq (sq (rg (sh 1 [(12, aF (Int.toNat x4))] (by kernel_rfl) ?_)))))))))))
   obtain ⟨x7, h8, hm⟩ := bs hm
   refine dv 13 (cpure (by kernel_rfl) (ok_codec_bits h8) (by kernel_rfl) (by kernel_rfl) (by kernel_rfl)) (by kernel_rfl) (sh 2 [(15, aB (x7 != x4)), (14, aU x4)] (by kernel_rfl) (fin [(0, .ptr 0 0), (4, aF (Int.toNat x4)), (15, aB (x7 != x4))] rfl (by kernel_rfl) ?_))
   rcases bif_some hm with ⟨h9, hm⟩ | ⟨h9, hm⟩
   ·
    refine ct h9 (by kernel_rfl) (sq (rg (sh 1 [(16, .ptr 0 0)] (by kernel_rfl) ?_)))
    obtain ⟨_, h10, hm⟩ := bs hm
    obtain ⟨vv, H1, hC, rfl, rfl⟩ := ok_codec_Reader_fail h10
    refine dR [(17, .tup [])] [.box [aB ((codec_Reader.mk a0.fmade x2 x3).fmade), .pv .nils, aI 22] false] [0] [.ptr 0 0, aI 22] (by kernel_rfl) (by kernel_rfl) (by kernel_rfl) hC (by kernel_rfl) (fin [] rfl (by kernel_rfl) (sq (detn [(2, aF 0)] (by kernel_rfl) (wp_ret ?_))))
    obtain rfl := Option.some.inj hm
    exact ⟨trivial, aF 0, [.box [aB ((codec_Reader.mk a0.fmade x2 x3).fmade), .pv .nils, aI 22] false], by kernel_rfl, rfl, rfl⟩
   ·
    refine cf h9 (by kernel_rfl) (wp_skip (sq (detn [(2, aF (Int.toNat x4))] (by kernel_rfl) (wp_ret ?_))))
    obtain rfl := Option.some.inj hm
    exact ⟨trivial, aF (Int.toNat x4), [.box [aB a0.fmade, .pv (encSl (rI .u8) x2), aI x3] false], by kernel_rfl, rfl, rfl⟩
theorem ok_codec_Reader_Text {n : Nat} {a0 : codec_Reader} {a1 : Int} {r : Bool × (Option (List Int)) × Int × ByteArray} (hm : codec_Reader_Text n a0 a1 = some r) :
    ∃ vv H1, call G n 114 [.ptr 0 0, aI a1] [.box [aB a0.fmade, .pv (encSl (rI .u8) a0.fb), aI a0.fe] false] = some (.ret vv, H1) ∧ (match r with | (r0, r1, r2, r3) => (vv = aS r3 ∧ H1 = [.box [aB r0, .pv (encSl (rI .u8) r1), aI r2] false])) := by
  unfold codec_Reader_Text at hm
  obtain ⟨n, rfl, h0⟩ := at1_some hm
  replace hm := h0; clear h0
  refine callE 25 [(0, .ptr 0 0), (1, aI a1)] func114 rfl (by kernel_rfl) (sq (detn [(0, .ptr 0 0), (1, aI a1)] (by kernel_rfl) (sq (rg (sh 4 [(11, aU (IntKind.wrap .u64 (if 0 > a1 then 0 else a1))), (10, aI (if 0 > a1 then 0 else a1)), (9, aI a1), (8, .ptr 0 0)] (by kernel_rfl) ?_)))))
  obtain ⟨⟨x2, x3, x4, x5⟩, h1, hm⟩ := bs hm
  obtain ⟨vv, H1, hC, rfl, rfl⟩ := ok_codec_Reader_Uint h1
  refine dR [(12, aU x5)] [.box [aB x2, .pv (encSl (rI .u8) x3), aI x4] false] [0] [.ptr 0 0, aU (IntKind.wrap .u64 (if 0 > a1 then 0 else a1))] (by kernel_rfl) (by kernel_rfl) (by kernel_rfl) hC (by kernel_rfl) (sh 1 [(5, aU x5)] (by kernel_rfl) (fin [(0, .ptr 0 0), (5, aU x5)] rfl (by kernel_rfl) ?_))
  refine sq (sq (rg (sh 1 [(13, .ptr 0 0)] (by kernel_rfl) ?_)))
  obtain ⟨_, h6, hm⟩ := bs hm
  obtain ⟨vv, H1, hC, rfl, rfl⟩ := ok_codec_Reader_ready h6
  refine dR [(14, aB ((codec_Reader.mk x2 x3 x4).fmade && ((codec_Reader.mk x2 x3 x4).fe == 0)))] [.box [aB x2, .pv (encSl (rI .u8) x3), aI x4] false] [0] [.ptr 0 0] (by kernel_rfl) (by kernel_rfl) (by kernel_rfl) hC (by kernel_rfl) (sh 1 [(15, aB (!((codec_Reader.mk x2 x3 x4).fmade && ((codec_Reader.mk x2 x3 x4).fe == 0))))] (by kernel_rfl) (fin [(0, .ptr 0 0), (5, aU x5), (15, aB (!((codec_Reader.mk x2 x3 x4).fmade && ((codec_Reader.mk x2 x3 x4).fe == 0))))] rfl (by kernel_rfl) ?_))
  rcases bif_some hm with ⟨h7, hm⟩ | ⟨h7, hm⟩
  ·
   refine ct h7 (by kernel_rfl) (sq (detn [(4, aS ByteArray.empty)] (by kernel_rfl) (wp_ret ?_)))
   obtain rfl := Option.some.inj hm
   exact ⟨trivial, aS ByteArray.empty, [.box [aB x2, .pv (encSl (rI .u8) x3), aI x4] false], by kernel_rfl, rfl, rfl⟩
  ·
   refine cf h7 (by kernel_rfl) (wp_skip (sq (rg (sh 3 [(19, aI (IntKind.wrap .i64 x5)), (18, aU x5), (17, .ptr 0 0)] (by kernel_rfl) ?_))))
   obtain ⟨⟨x9, x10, x11, x12⟩, h8, hm⟩ := bs hm
   obtain ⟨vv, H1, hC, rfl, rfl⟩ := ok_codec_Reader_take h8
   refine dR [(20, .tup [.pv (encSl (rI .u8) x11), aB x12])] [.box [aB ((codec_Reader.mk x2 x3 x4).fmade), .pv (encSl (rI .u8) x9), aI x10] false] [0] [.ptr 0 0, aI (IntKind.wrap .i64 x5)] (by kernel_rfl) (by kernel_rfl) (by kernel_rfl) hC (by kernel_rfl) (sh 5 [(7, aB x12), (6, .pv (encSl (rI .u8) x11)), (22, aB x12), (21, .pv (encSl (rI .u8) x11)), (16, .tup [.pv (encSl (rI .u8) x11), aB x12])] (by kernel_rfl) (fin [(6, .pv (encSl (rI .u8) x11))] rfl (by kernel_rfl) (sq (rg (sh 1 [(23, .pv (encSl (rI .u8) x11))] (by kernel_rfl) (dv 24 (v := aS (strOf (sll x11))) (str_ofO (l := (sll x11)) t43 t9 t5 (src_sl (R := (rI .u8)) (s := x11)) (noStr_sl x11) (by kernel_rfl)) (by kernel_rfl) (sh 1 [(4, aS (strOf (sll x11)))] (by kernel_rfl) (fin [(4, aS (strOf (sll x11)))] rfl (by kernel_rfl) (wp_ret ?_)))))))))
   obtain rfl := Option.some.inj hm
   exact ⟨trivial, aS (strOf (sll x11)), [.box [aB ((codec_Reader.mk x2 x3 x4).fmade), .pv (encSl (rI .u8) x9), aI x10] false], by kernel_rfl, rfl, rfl⟩
theorem ok_codec_Reader_Err {n : Nat} {a0 : codec_Reader} {r : Int} (hm : codec_Reader_Err n a0 = some r) :
    ∃ vv H1, call G n 60 [.ptr 0 0] [.box [aB a0.fmade, .pv (encSl (rI .u8) a0.fb), aI a0.fe] false] = some (.ret vv, H1) ∧ (match r with | r0 => (vv = aI r0 ∧ H1 = [.box [aB a0.fmade, .pv (encSl (rI .u8) a0.fb), aI a0.fe] false])) := by
  unfold codec_Reader_Err at hm
  obtain ⟨n, rfl, h0⟩ := at1_some hm
  replace hm := h0; clear h0
  refine callE 16 [(0, .ptr 0 0)] func60 rfl (by kernel_rfl) (sq (detn [(0, .ptr 0 0)] (by kernel_rfl) (sq (sq (detn [(0, .ptr 0 0), (11, aB (!a0.fmade))] (by kernel_rfl) ?_)))))
  rcases bif_some hm with ⟨h1, hm⟩ | ⟨h1, hm⟩
  ·
   refine ct h1 (by kernel_rfl) (sq (detn [(2, aI 1)] (by kernel_rfl) (wp_ret ?_)))
   obtain rfl := Option.some.inj hm
   exact ⟨trivial, aI 1, [.box [aB a0.fmade, .pv (encSl (rI .u8) a0.fb), aI a0.fe] false], by kernel_rfl, rfl, rfl⟩
  ·
   refine cf h1 (by kernel_rfl) (wp_skip (sq (detn [(2, aI a0.fe)] (by kernel_rfl) (wp_ret ?_))))
   obtain rfl := Option.some.inj hm
   exact ⟨trivial, aI a0.fe, [.box [aB a0.fmade, .pv (encSl (rI .u8) a0.fb), aI a0.fe] false], by kernel_rfl, rfl, rfl⟩
theorem ok_value_Take {n : Nat} {a0 : codec_Reader} {r : Bool × (Option (List Int)) × Int × Int × Int × Nat × ByteArray × Int} (hm : value_Take n a0 = some r) :
    ∃ vv H1, call G n 83 [.ptr 0 0] [.box [aB a0.fmade, .pv (encSl (rI .u8) a0.fb), aI a0.fe] false] = some (.ret vv, H1) ∧ (match r with | (r0, r1, r2, r3, r4, r5, r6, r7) => (vv = .tup [.agg [aI r3, aI r4, aF r5, aS r6], aI r7] ∧ H1 = [.box [aB r0, .pv (encSl (rI .u8) r1), aI r2] false])) := by
  unfold value_Take at hm
  obtain ⟨n, rfl, h0⟩ := at1_some hm
  replace hm := h0; clear h0
  refine callE 46 [(0, .ptr 0 0)] func83 rfl (by kernel_rfl) (sq (det [(0, .ptr 0 0), (2, .ptr 1 0)] [.box [aB a0.fmade, .pv (encSl (rI .u8) a0.fb), aI a0.fe] false, .box [aI 0, aI 0, aF 0, aS ByteArray.empty] false] (by kernel_rfl) (sq (rg (sh 1 [(6, .ptr 0 0)] (by kernel_rfl) ?_)))))
  obtain ⟨⟨x2, x3, x4⟩, h1, hm⟩ := bs hm
  obtain ⟨vv, H1, hC, rfl, rfl⟩ := ok_codec_Reader_Byte h1
  refine dR [(7, aY x4)] [.box [aB a0.fmade, .pv (encSl (rI .u8) x2), aI x3] false, .box [aI 0, aI 0, aF 0, aS ByteArray.empty] false] [0] [.ptr 0 0] (by kernel_rfl) (by kernel_rfl) (by kernel_rfl) hC (by kernel_rfl) (st 4 [(4, .ptr 2 0), (9, .agg [aI (IntKind.wrap .i64 x4), aI 0, aF 0, aS ByteArray.empty]), (8, aI (IntKind.wrap .i64 x4))] [.box [aB a0.fmade, .pv (encSl (rI .u8) x2), aI x3] false, .box [aI 0, aI 0, aF 0, aS ByteArray.empty] false, .box [aI (IntKind.wrap .i64 x4), aI 0, aF 0, aS ByteArray.empty] false] (by kernel_rfl) (fin [(0, .ptr 0 0), (2, .ptr 1 0), (4, .ptr 2 0)] rfl (by kernel_rfl) ?_))
  obtain ⟨k12, hk12, hm⟩ := withK_some hm
  refine mid (fun t H => (∃ (y6 : Bool) (y7 : (Option (List Int))) (y8 : Int) (y9 : Int) (y10 : Nat) (y11 : ByteArray) (w5 : AV), k12 y6 y7 y8 y9 y10 y11 = some r ∧ t = mk 46 [(0, .ptr 0 0), (2, .ptr 1 0), (4, .ptr 2 0), (28, w5)] ∧ H = [.box [aB y6, .pv (encSl (rI .u8) y7), aI y8] false, .box [aI 0, aI 0, aF 0, aS ByteArray.empty] false, .box [aI (IntKind.wrap .i64 x4), aI y9, aF y10, aS y11] false])) ?_ ?_
  ·
   rintro _ _ ⟨y6, y7, y8, y9, y10, y11, w5, hm, rfl, rfl⟩
   subst hk12
   refine sq (sq (rg (sh 1 [(33, .ptr 0 0)] (by kernel_rfl) ?_)))
   obtain ⟨x14, h13, hm⟩ := bs hm
   obtain ⟨vv, H1, hC, rfl, rfl⟩ := ok_codec_Reader_Err h13
   refine dR [(34, aI x14)] [.box [aB y6, .pv (encSl (rI .u8) y7), aI y8] false, .box [aI 0, aI 0, aF 0, aS ByteArray.empty] false, .box [aI (IntKind.wrap .i64 x4), aI y9, aF y10, aS y11] false] [0] [.ptr 0 0] (by kernel_rfl) (by kernel_rfl) (by kernel_rfl) hC (by kernel_rfl) (sh 1 [(5, aI x14)] (by kernel_rfl) (fin [(2, .ptr 1 0), (4, .ptr 2 0), (5, aI x14)] rfl (by kernel_rfl) (bq (sq (detn [(2, .ptr 1 0), (4, .ptr 2 0), (5, aI x14), (35, aB (x14 != 0))] (by kernel_rfl) ?_)))))
   rcases bif_some hm with ⟨h15, hm⟩ | ⟨h15, hm⟩
   ·
    refine ct h15 (by kernel_rfl) (sq (detn [(2, .ptr 1 0), (3, aI x14)] (by kernel_rfl) (wp_ret ?_)))
    obtain rfl := Option.some.inj hm
    exact ⟨trivial, .tup [.agg [aI 0, aI 0, aF 0, aS ByteArray.empty], aI x14], [.box [aB y6, .pv (encSl (rI .u8) y7), aI y8] false], by kernel_rfl, rfl, rfl⟩
   ·
    refine cf h15 (by kernel_rfl) (sq (rg (sh 1 [(41, .agg [aI (IntKind.wrap .i64 x4), aI y9, aF y10, aS y11])] (by kernel_rfl) ?_)))
    obtain ⟨x16, h17, hm⟩ := bs hm
    refine dv 42 (cpure (by kernel_rfl) (ok_value_Right h17) (by kernel_rfl) (by kernel_rfl) (by kernel_rfl)) (by kernel_rfl) (sh 2 [(40, aB (!x16)), (43, aB (!x16))] (by kernel_rfl) (fin [(2, .ptr 1 0), (4, .ptr 2 0), (40, aB (!x16))] rfl (by kernel_rfl) ?_))
    rcases bif_some hm with ⟨h18, hm⟩ | ⟨h18, hm⟩
    ·
     refine ct h18 (by kernel_rfl) (sq (detn [(2, .ptr 1 0), (3, aI 22)] (by kernel_rfl) (wp_ret ?_)))
     obtain rfl := Option.some.inj hm
     exact ⟨trivial, .tup [.agg [aI 0, aI 0, aF 0, aS ByteArray.empty], aI 22], [.box [aB y6, .pv (encSl (rI .u8) y7), aI y8] false], by kernel_rfl, rfl, rfl⟩
    ·
     refine cf h18 (by kernel_rfl) (wp_skip (sq (det [(2, .ptr 1 0), (3, aI 0)] [.box [aB y6, .pv (encSl (rI .u8) y7), aI y8] false, .box [aI (IntKind.wrap .i64 x4), aI y9, aF y10, aS y11] false, .box [aI (IntKind.wrap .i64 x4), aI y9, aF y10, aS y11] false] (by kernel_rfl) (wp_ret ?_))))
     obtain rfl := Option.some.inj hm
     exact ⟨trivial, .tup [.agg [aI (IntKind.wrap .i64 x4), aI y9, aF y10, aS y11], aI 0], [.box [aB y6, .pv (encSl (rI .u8) y7), aI y8] false], by kernel_rfl, rfl, rfl⟩
  refine sq (detn [(0, .ptr 0 0), (2, .ptr 1 0), (4, .ptr 2 0), (11, aI (IntKind.wrap .i64 x4))] (by kernel_rfl) (bq (sq (detn [(0, .ptr 0 0), (2, .ptr 1 0), (4, .ptr 2 0), (11, aI (IntKind.wrap .i64 x4)), (12, aB ((IntKind.wrap .i64 x4) == 1))] (by kernel_rfl) ?_))))
  rcases bif_some hm with ⟨h19, hm⟩ | ⟨h19, hm⟩
  ·
   refine ct h19 (by kernel_rfl) (rg (sh 1 [(14, .ptr 0 0)] (by kernel_rfl) ?_))
   obtain ⟨⟨x21, x22, x23⟩, h20, hm⟩ := bs hm
   obtain ⟨vv, H1, hC, rfl, rfl⟩ := ok_codec_Reader_Byte h20
   refine dR [(15, aY x23)] [.box [aB ((codec_Reader.mk a0.fmade x2 x3).fmade), .pv (encSl (rI .u8) x21), aI x22] false, .box [aI 0, aI 0, aF 0, aS ByteArray.empty] false, .box [aI (IntKind.wrap .i64 x4), aI 0, aF 0, aS ByteArray.empty] false] [0] [.ptr 0 0] (by kernel_rfl) (by kernel_rfl) (by kernel_rfl) hC (by kernel_rfl) (st 3 [(17, .ptr 2 1), (16, aI (IntKind.wrap .i64 x23))] [.box [aB ((codec_Reader.mk a0.fmade x2 x3).fmade), .pv (encSl (rI .u8) x21), aI x22] false, .box [aI 0, aI 0, aF 0, aS ByteArray.empty] false, .box [aI (IntKind.wrap .i64 x4), aI (IntKind.wrap .i64 x23), aF 0, aS ByteArray.empty] false] (by kernel_rfl) (fin [(0, .ptr 0 0), (2, .ptr 1 0), (4, .ptr 2 0)] rfl (by kernel_rfl) ?_))
   exact ⟨((codec_Reader.mk a0.fmade x2 x3).fmade), x21, x22, (IntKind.wrap .i64 x23), 0, ByteArray.empty, .any, hm, (mk_same (by kernel_rfl)), rfl⟩
  ·
   refine cf h19 (by kernel_rfl) (sq (detn [(0, .ptr 0 0), (2, .ptr 1 0), (4, .ptr 2 0), (11, aI (IntKind.wrap .i64 x4)), (18, aB ((IntKind.wrap .i64 x4) == 2))] (by kernel_rfl) ?_))
   rcases bif_some hm with ⟨h24, hm⟩ | ⟨h24, hm⟩
   ·
    refine ct h24 (by kernel_rfl) (rg (sh 1 [(20, .ptr 0 0)] (by kernel_rfl) ?_))
    obtain ⟨⟨x26, x27, x28, x29⟩, h25, hm⟩ := bs hm
    obtain ⟨vv, H1, hC, rfl, rfl⟩ := ok_codec_Reader_Int h25
    refine dR [(21, aI x29)] [.box [aB x26, .pv (encSl (rI .u8) x27), aI x28] false, .box [aI 0, aI 0, aF 0, aS ByteArray.empty] false, .box [aI (IntKind.wrap .i64 x4), aI 0, aF 0, aS ByteArray.empty] false] [0] [.ptr 0 0] (by kernel_rfl) (by kernel_rfl) (by kernel_rfl) hC (by kernel_rfl) (st 2 [(22, .ptr 2 1)] [.box [aB x26, .pv (encSl (rI .u8) x27), aI x28] false, .box [aI 0, aI 0, aF 0, aS ByteArray.empty] false, .box [aI (IntKind.wrap .i64 x4), aI x29, aF 0, aS ByteArray.empty] false] (by kernel_rfl) (fin [(0, .ptr 0 0), (2, .ptr 1 0), (4, .ptr 2 0)] rfl (by kernel_rfl) ?_))
    exact ⟨x26, x27, x28, x29, 0, ByteArray.empty, .any, hm, (mk_same (by kernel_rfl)), rfl⟩
   ·
    refine cf h24 (by kernel_rfl) (sq (detn [(0, .ptr 0 0), (2, .ptr 1 0), (4, .ptr 2 0), (11, aI (IntKind.wrap .i64 x4)), (23, aB ((IntKind.wrap .i64 x4) == 3))] (by kernel_rfl) ?_))
    rcases bif_some hm with ⟨h30, hm⟩ | ⟨h30, hm⟩
    ·
     refine ct h30 (by kernel_rfl) (rg (sh 1 [(25, .ptr 0 0)] (by kernel_rfl) ?_))
     obtain ⟨⟨x32, x33, x34, x35⟩, h31, hm⟩ := bs hm
     obtain ⟨vv, H1, hC, rfl, rfl⟩ := ok_codec_Reader_Float h31
     refine dR [(26, aF x35)] [.box [aB x32, .pv (encSl (rI .u8) x33), aI x34] false, .box [aI 0, aI 0, aF 0, aS ByteArray.empty] false, .box [aI (IntKind.wrap .i64 x4), aI 0, aF 0, aS ByteArray.empty] false] [0] [.ptr 0 0] (by kernel_rfl) (by kernel_rfl) (by kernel_rfl) hC (by kernel_rfl) (st 2 [(27, .ptr 2 2)] [.box [aB x32, .pv (encSl (rI .u8) x33), aI x34] false, .box [aI 0, aI 0, aF 0, aS ByteArray.empty] false, .box [aI (IntKind.wrap .i64 x4), aI 0, aF x35, aS ByteArray.empty] false] (by kernel_rfl) (fin [(0, .ptr 0 0), (2, .ptr 1 0), (4, .ptr 2 0)] rfl (by kernel_rfl) ?_))
     exact ⟨x32, x33, x34, 0, x35, ByteArray.empty, .any, hm, (mk_same (by kernel_rfl)), rfl⟩
    ·
     refine cf h30 (by kernel_rfl) (sq (detn [(0, .ptr 0 0), (2, .ptr 1 0), (4, .ptr 2 0), (28, aB ((IntKind.wrap .i64 x4) == 4))] (by kernel_rfl) ?_))
     rcases bif_some hm with ⟨h36, hm⟩ | ⟨h36, hm⟩
     ·
      refine ct h36 (by kernel_rfl) (rg (sh 1 [(30, .ptr 0 0)] (by kernel_rfl) ?_))
      obtain ⟨⟨x38, x39, x40, x41⟩, h37, hm⟩ := bs hm
      obtain ⟨vv, H1, hC, rfl, rfl⟩ := ok_codec_Reader_Text h37
      refine dR [(31, aS x41)] [.box [aB x38, .pv (encSl (rI .u8) x39), aI x40] false, .box [aI 0, aI 0, aF 0, aS ByteArray.empty] false, .box [aI (IntKind.wrap .i64 x4), aI 0, aF 0, aS ByteArray.empty] false] [0] [.ptr 0 0, aI 64] (by kernel_rfl) (by kernel_rfl) (by kernel_rfl) hC (by kernel_rfl) (st 2 [(32, .ptr 2 3)] [.box [aB x38, .pv (encSl (rI .u8) x39), aI x40] false, .box [aI 0, aI 0, aF 0, aS ByteArray.empty] false, .box [aI (IntKind.wrap .i64 x4), aI 0, aF 0, aS x41] false] (by kernel_rfl) (fin [(0, .ptr 0 0), (2, .ptr 1 0), (4, .ptr 2 0)] rfl (by kernel_rfl) ?_))
      exact ⟨x38, x39, x40, 0, 0, x41, .any, hm, (mk_same (by kernel_rfl)), rfl⟩
     ·
      refine cf h36 (by kernel_rfl) (wp_skip ?_)
      exact ⟨a0.fmade, x2, x3, 0, 0, ByteArray.empty, aB ((IntKind.wrap .i64 x4) == 4), hm, (mk_same (by kernel_rfl)), rfl⟩
theorem ok_hist_Take {n : Nat} {a0 : codec_Reader} {r : Bool × (Option (List Int)) × Int × (Option (List hist_Bucket)) × Int} (hm : hist_Take n a0 = some r) :
    ∃ vv H1, call G n 44 [.ptr 0 0] [.box [aB a0.fmade, .pv (encSl (rI .u8) a0.fb), aI a0.fe] false] = some (.ret vv, H1) ∧ (match r with | (r0, r1, r2, none, r3) => (vv = .tup [.pv .nils, aI r3] ∧ H1 = [.box [aB r0, .pv (encSl (rI .u8) r1), aI r2] false]) | (r0, r1, r2, some r4, r3) => (vv = .tup [aR 1 10 r4.length, aI r3] ∧ H1 = [.box [aB r0, .pv (encSl (rI .u8) r1), aI r2] false, bR 77 10 R_hist_Bucket r4 0 0])) := by
  unfold hist_Take at hm
  obtain ⟨n, rfl, h0⟩ := at1_some hm
  replace hm := h0; clear h0
  refine callE 51 [(0, .ptr 0 0)] func44 rfl (by kernel_rfl) (sq (detn [(0, .ptr 0 0)] (by kernel_rfl) (sq (detn [(0, .ptr 0 0), (4, .pv .nils)] (by kernel_rfl) ?_))))
  obtain ⟨k8, hk8, hm⟩ := withK_some hm
  refine mid (fun t H => (∃ (y4 : Bool) (y5 : (Option (List Int))) (y6 : Int) (w1 : AV) (w2 : AV) (w3 : AV), k8 y4 y5 y6 none = some r ∧ t = mk 51 [(0, .ptr 0 0), (4, .pv .nils), (9, w1), (10, w2), (11, w3)] ∧ H = [.box [aB y4, .pv (encSl (rI .u8) y5), aI y6] false]) ∨ (∃ (y4 : Bool) (y5 : (Option (List Int))) (y6 : Int) (y7 : (List hist_Bucket)) (w1 : AV) (w2 : AV) (w3 : AV), k8 y4 y5 y6 (some y7) = some r ∧ t = mk 51 [(0, .ptr 0 0), (4, aR 1 10 y7.length), (9, w1), (10, w2), (11, w3)] ∧ H = [.box [aB y4, .pv (encSl (rI .u8) y5), aI y6] false, bR 77 10 R_hist_Bucket y7 0 0])) ?_ ?_
  ·
   rintro _ _ (⟨y4, y5, y6, w1, w2, w3, hm, rfl, rfl⟩ | ⟨y4, y5, y6, y7, w1, w2, w3, hm, rfl, rfl⟩)
   ·
    subst hk8
    refine sq (sq (rg (sh 1 [(42, .ptr 0 0)] (by kernel_rfl) ?_)))
    obtain ⟨x10, h9, hm⟩ := bs hm
    obtain ⟨vv, H1, hC, rfl, rfl⟩ := ok_codec_Reader_Err h9
    refine dR [(43, aI x10)] [.box [aB y4, .pv (encSl (rI .u8) y5), aI y6] false] [0] [.ptr 0 0] (by kernel_rfl) (by kernel_rfl) (by kernel_rfl) hC (by kernel_rfl) (sh 1 [(7, aI x10)] (by kernel_rfl) (fin [(4, .pv .nils), (7, aI x10)] rfl (by kernel_rfl) (sq (detn [(4, .pv .nils), (7, aI x10), (45, aB (x10 != 0))] (by kernel_rfl) ?_))))
    rcases bif_some hm with ⟨h11, hm⟩ | ⟨h11, hm⟩
    ·
     refine ct h11 (by kernel_rfl) (sq (detn [(2, .pv .nils), (3, aI x10)] (by kernel_rfl) (wp_ret ?_)))
     obtain rfl := Option.some.inj hm
     exact ⟨trivial, .tup [.pv .nils, aI x10], [.box [aB y4, .pv (encSl (rI .u8) y5), aI y6] false], by kernel_rfl, rfl, rfl⟩
    ·
     refine cf h11 (by kernel_rfl) (wp_skip (sq (sq (rg (sh 1 [(47, .pv .nils)] (by kernel_rfl) ?_)))))
     obtain ⟨x12, h13, hm⟩ := bs hm
     refine dv 48 (cpure (by kernel_rfl) (ok_hist_Right h13) (by kernel_rfl) (by kernel_rfl) (by kernel_rfl)) (by kernel_rfl) (sh 1 [(49, aB (!x12))] (by kernel_rfl) (fin [(4, .pv .nils), (49, aB (!x12))] rfl (by kernel_rfl) ?_))
     rcases bif_some hm with ⟨h14, hm⟩ | ⟨h14, hm⟩
     ·
      refine ct h14 (by kernel_rfl) (sq (detn [(2, .pv .nils), (3, aI 22)] (by kernel_rfl) (wp_ret ?_)))
      obtain rfl := Option.some.inj hm
      exact ⟨trivial, .tup [.pv .nils, aI 22], [.box [aB y4, .pv (encSl (rI .u8) y5), aI y6] false], by kernel_rfl, rfl, rfl⟩
     ·
      refine cf h14 (by kernel_rfl) (wp_skip (sq (detn [(2, .pv .nils), (3, aI 0)] (by kernel_rfl) (wp_ret ?_))))
      obtain rfl := Option.some.inj hm
      exact ⟨trivial, .tup [.pv .nils, aI 0], [.box [aB y4, .pv (encSl (rI .u8) y5), aI y6] false], by kernel_rfl, rfl, rfl⟩
   ·
    subst hk8
    refine sq (sq (rg (sh 1 [(42, .ptr 0 0)] (by kernel_rfl) ?_)))
    obtain ⟨x16, h15, hm⟩ := bs hm
    obtain ⟨vv, H1, hC, rfl, rfl⟩ := ok_codec_Reader_Err h15
    refine dR [(43, aI x16)] [.box [aB y4, .pv (encSl (rI .u8) y5), aI y6] false, bR 77 10 R_hist_Bucket y7 0 0] [0] [.ptr 0 0] (by kernel_rfl) (by kernel_rfl) (by kernel_rfl) hC (by kernel_rfl) (sh 1 [(7, aI x16)] (by kernel_rfl) (fin [(4, aR 1 10 y7.length), (7, aI x16)] rfl (by kernel_rfl) (sq (detn [(4, aR 1 10 y7.length), (7, aI x16), (45, aB (x16 != 0))] (by kernel_rfl) ?_))))
    rcases bif_some hm with ⟨h17, hm⟩ | ⟨h17, hm⟩
    ·
     refine ct h17 (by kernel_rfl) (sq (detn [(2, .pv .nils), (3, aI x16)] (by kernel_rfl) (wp_ret ?_)))
     obtain rfl := Option.some.inj hm
     exact ⟨trivial, .tup [.pv .nils, aI x16], [.box [aB y4, .pv (encSl (rI .u8) y5), aI y6] false], by kernel_rfl, rfl, rfl⟩
    ·
     refine cf h17 (by kernel_rfl) (wp_skip (sq (sq (rg (sh 1 [(47, aR 1 10 y7.length)] (by kernel_rfl) ?_)))))
     obtain ⟨x18, h19, hm⟩ := bs hm
     refine dO [(48, aB x18)] [.box [aB y4, .pv (encSl (rI .u8) y5), aI y6] false, bR 77 10 R_hist_Bucket y7 0 0] (cpureR [1] [aR 1 10 y7.length] (fl := true) (by kernel_rfl) (by kernel_rfl) (pAs_cons (pA_ref (pur_ref' (n := y7.length) (id := 1) (l := y7) (R := R_hist_Bucket) rfl rfl (Nat.zero_le _))) (rfl)) (ok_hist_Right h19) (by kernel_rfl) (by kernel_rfl)) (by kernel_rfl) (sh 1 [(49, aB (!x18))] (by kernel_rfl) (fin [(4, aR 1 10 y7.length), (49, aB (!x18))] rfl (by kernel_rfl) ?_))
     rcases bif_some hm with ⟨h20, hm⟩ | ⟨h20, hm⟩
     ·
      refine ct h20 (by kernel_rfl) (sq (detn [(2, .pv .nils), (3, aI 22)] (by kernel_rfl) (wp_ret ?_)))
      obtain rfl := Option.some.inj hm
      exact ⟨trivial, .tup [.pv .nils, aI 22], [.box [aB y4, .pv (encSl (rI .u8) y5), aI y6] false], by kernel_rfl, rfl, rfl⟩
     ·
      refine cf h20 (by kernel_rfl) (wp_skip (sq (detn [(2, aR 1 10 y7.length), (3, aI 0)] (by kernel_rfl) (wp_ret ?_))))
      obtain rfl := Option.some.inj hm
      exact ⟨trivial, .tup [aR 1 10 y7.length, aI 0], [.box [aB y4, .pv (encSl (rI .u8) y5), aI y6] false, bR 77 10 R_hist_Bucket y7 0 0], by kernel_rfl, rfl, rfl⟩
  refine sq (rg (sh 1 [(8, .ptr 0 0)] (by kernel_rfl) ?_))
  obtain ⟨⟨x22, x23, x24, x25⟩, h21, hm⟩ := bs hm
  obtain ⟨vv, H1, hC, rfl, rfl⟩ := ok_codec_Reader_Uint h21
  refine dR [(9, aU x25)] [.box [aB x22, .pv (encSl (rI .u8) x23), aI x24] false] [0] [.ptr 0 0, aU 50] (by kernel_rfl) (by kernel_rfl) (by kernel_rfl) hC (by kernel_rfl) (sh 1 [(10, aU 0)] (by kernel_rfl) (fin [(0, .ptr 0 0), (4, .pv .nils), (9, aU x25), (10, aU 0)] rfl (by kernel_rfl) (bq ?_)))
  refine loopF (fun mm t H => (∃ (y32 : Bool) (y33 : (Option (List Int))) (y34 : Int) (y35 : Int), hist_Take_l3 n k8 x25 mm y32 y33 y34 y35 none = some r ∧ t = mk 51 [(0, .ptr 0 0), (4, .pv .nils), (9, aU x25), (10, aU y35)] ∧ H = [.box [aB y32, .pv (encSl (rI .u8) y33), aI y34] false]) ∨ (∃ (y32 : Bool) (y33 : (Option (List Int))) (y34 : Int) (y35 : Int) (y36 : (List hist_Bucket)), hist_Take_l3 n k8 x25 mm y32 y33 y34 y35 (some y36) = some r ∧ t = mk 51 [(0, .ptr 0 0), (4, aR 1 10 y36.length), (9, aU x25), (10, aU y35)] ∧ H = [.box [aB y32, .pv (encSl (rI .u8) y33), aI y34] false, bR 77 10 R_hist_Bucket y36 0 0])) (.inl ⟨x22, x23, x24, 0, hm, rfl, rfl⟩) ?_ ?_
  · rintro _ _ (⟨y32, y33, y34, y35, hm, _⟩ | ⟨y32, y33, y34, y35, y36, hm, _⟩) <;> exact nomatch hm
  rintro m37 _ _ (⟨y32, y33, y34, y35, hm, rfl, rfl⟩ | ⟨y32, y33, y34, y35, y36, hm, rfl, rfl⟩)
  ·
   simp only [hist_Take_l3] at hm
   refine sq (detn [(0, .ptr 0 0), (4, .pv .nils), (9, aU x25), (10, aU y35), (11, aB (decide (y35 < x25)))] (by kernel_rfl) ?_)
   refine sq ?_
   rcases bif_some hm with ⟨h38, hm⟩ | ⟨h38, hm⟩
   ·
    refine ct h38 (by kernel_rfl) (wp_skip (sq (bq (sq (det [(0, .ptr 0 0), (4, .pv .nils), (5, .ptr 1 0), (9, aU x25), (10, aU y35)] [.box [aB y32, .pv (encSl (rI .u8) y33), aI y34] false, .box [aI 0, aI 0, aF 0, aS ByteArray.empty, aI 0, aI 0, aF 0, aS ByteArray.empty, aI 0, aI 0] false] (by kernel_rfl) (sq (detn [(0, .ptr 0 0), (4, .pv .nils), (5, .ptr 1 0), (9, aU x25), (10, aU y35)] (by kernel_rfl) ?_)))))))
    obtain ⟨k52, hk52, hm⟩ := withK_some hm
    refine mid (fun t H => (∃ (y40 : Bool) (y41 : (Option (List Int))) (y42 : Int) (y43 : Int) (y44 : Int) (y45 : Nat) (y46 : ByteArray) (y47 : Int) (y48 : Int) (y49 : Nat) (y50 : ByteArray) (y51 : Int) (w39 : AV), k52 y40 y41 y42 y43 y44 y45 y46 y47 y48 y49 y50 y51 = some r ∧ t = mk 51 [(0, .ptr 0 0), (4, .pv .nils), (5, .ptr 1 0), (6, aI y51), (9, aU x25), (10, aU y35), (19, w39)] ∧ H = [.box [aB y40, .pv (encSl (rI .u8) y41), aI y42] false, .box [aI y43, aI y44, aF y45, aS y46, aI y47, aI y48, aF y49, aS y50, aI 0, aI 0] false])) ?_ ?_
    ·
     rintro _ _ ⟨y40, y41, y42, y43, y44, y45, y46, y47, y48, y49, y50, y51, w39, hm, rfl, rfl⟩
     subst hk52
     refine sq (sq (detn [(0, .ptr 0 0), (4, .pv .nils), (5, .ptr 1 0), (6, aI y51), (9, aU x25), (10, aU y35), (27, aB (y51 != 0))] (by kernel_rfl) ?_))
     rcases bif_some hm with ⟨h53, hm⟩ | ⟨h53, hm⟩
     ·
      refine ct h53 (by kernel_rfl) (sq (detn [(2, .pv .nils), (3, aI y51)] (by kernel_rfl) (wp_ret ?_)))
      obtain rfl := Option.some.inj hm
      exact ⟨trivial, .tup [.pv .nils, aI y51], [.box [aB y40, .pv (encSl (rI .u8) y41), aI y42] false], by kernel_rfl, rfl, rfl⟩
     ·
      refine cf h53 (by kernel_rfl) (wp_skip (sq (rg (sh 1 [(29, .ptr 0 0)] (by kernel_rfl) ?_))))
      obtain ⟨⟨x55, x56, x57, x58⟩, h54, hm⟩ := bs hm
      obtain ⟨vv, H1, hC, rfl, rfl⟩ := ok_codec_Reader_Uint h54
      refine dR [(30, aU x58)] [.box [aB x55, .pv (encSl (rI .u8) x56), aI x57] false, .box [aI y43, aI y44, aF y45, aS y46, aI y47, aI y48, aF y49, aS y50, aI 0, aI 0] false] [0] [.ptr 0 0, aU 1000000] (by kernel_rfl) (by kernel_rfl) (by kernel_rfl) hC (by kernel_rfl) (st 3 [(32, .ptr 1 8), (31, aI (IntKind.wrap .i64 x58))] [.box [aB x55, .pv (encSl (rI .u8) x56), aI x57] false, .box [aI y43, aI y44, aF y45, aS y46, aI y47, aI y48, aF y49, aS y50, aI (IntKind.wrap .i64 x58), aI 0] false] (by kernel_rfl) (fin [(0, .ptr 0 0), (4, .pv .nils), (5, .ptr 1 0), (9, aU x25), (10, aU y35)] rfl (by kernel_rfl) (sq (rg (sh 1 [(33, .ptr 0 0)] (by kernel_rfl) ?_)))))
      obtain ⟨⟨x60, x61, x62, x63⟩, h59, hm⟩ := bs hm
      obtain ⟨vv, H1, hC, rfl, rfl⟩ := ok_codec_Reader_Uint h59
      refine dR [(34, aU x63)] [.box [aB x60, .pv (encSl (rI .u8) x61), aI x62] false, .box [aI y43, aI y44, aF y45, aS y46, aI y47, aI y48, aF y49, aS y50, aI (IntKind.wrap .i64 x58), aI 0] false] [0] [.ptr 0 0, aU 1000000] (by kernel_rfl) (by kernel_rfl) (by kernel_rfl) hC (by kernel_rfl) (st 3 [(36, .ptr 1 9), (35, aI (IntKind.wrap .i64 x63))] [.box [aB x60, .pv (encSl (rI .u8) x61), aI x62] false, .box [aI y43, aI y44, aF y45, aS y46, aI y47, aI y48, aF y49, aS y50, aI (IntKind.wrap .i64 x58), aI (IntKind.wrap .i64 x63)] false] (by kernel_rfl) (fin [(0, .ptr 0 0), (4, .pv .nils), (5, .ptr 1 0), (9, aU x25), (10, aU y35)] rfl (by kernel_rfl) (rg (st 3 [(39, aR 2 10 1), (38, .agg [aI y43, aI y44, aF y45, aS y46, aI y47, aI y48, aF y49, aS y50, aI (IntKind.wrap .i64 x58), aI (IntKind.wrap .i64 x63)]), (37, .pv .nils)] [.box [aB x60, .pv (encSl (rI .u8) x61), aI x62] false, .box [aI y43, aI y44, aF y45, aS y46, aI y47, aI y48, aF y49, aS y50, aI (IntKind.wrap .i64 x58), aI (IntKind.wrap .i64 x63)] false, bR 77 10 R_hist_Bucket ([(hist_Bucket.mk (api_Value.mk y43 y44 y45 y46) (api_Value.mk y47 y48 y49 y50) (IntKind.wrap .i64 x58) (IntKind.wrap .i64 x63))] : List hist_Bucket) 0 0] (by kernel_rfl) ?_))))
      obtain ⟨_, h64, hm⟩ := bs hm
      refine dO [(40, aR 3 10 (([(hist_Bucket.mk (api_Value.mk y43 y44 y45 y46) (api_Value.mk y47 y48 y49 y50) (IntKind.wrap .i64 x58) (IntKind.wrap .i64 x63))] : List hist_Bucket).length))] [.box [aB x60, .pv (encSl (rI .u8) x61), aI x62] false, .box [aI y43, aI y44, aF y45, aS y46, aI y47, aI y48, aF y49, aS y50, aI (IntKind.wrap .i64 x58), aI (IntKind.wrap .i64 x63)] false, bR 77 10 R_hist_Bucket ([(hist_Bucket.mk (api_Value.mk y43 y44 y45 y46) (api_Value.mk y47 y48 y49 y50) (IntKind.wrap .i64 x58) (IntKind.wrap .i64 x63))] : List hist_Bucket) 0 0, bR 77 10 R_hist_Bucket ([(hist_Bucket.mk (api_Value.mk y43 y44 y45 y46) (api_Value.mk y47 y48 y49 y50) (IntKind.wrap .i64 x58) (IntKind.wrap .i64 x63))] : List hist_Bucket) 0 0] (app_nilO (u := 0) R_hist_Bucket ([(hist_Bucket.mk (api_Value.mk y43 y44 y45 y46) (api_Value.mk y47 y48 y49 y50) (IntKind.wrap .i64 x58) (IntKind.wrap .i64 x63))] : List hist_Bucket) (b := 96) t53 t77 rfl rfl rfl (fun _ => rfl) rfl h64 (show srcRows (aR 2 10 1) _ = some (([(hist_Bucket.mk (api_Value.mk y43 y44 y45 y46) (api_Value.mk y47 y48 y49 y50) (IntKind.wrap .i64 x58) (IntKind.wrap .i64 x63))] : List hist_Bucket).map R_hist_Bucket) from by kernel_rfl) (by kernel_rfl)) (by kernel_rfl) (sh 1 [(4, aR 3 10 (([(hist_Bucket.mk (api_Value.mk y43 y44 y45 y46) (api_Value.mk y47 y48 y49 y50) (IntKind.wrap .i64 x58) (IntKind.wrap .i64 x63))] : List hist_Bucket).length))] (by kernel_rfl) (fin [(0, .ptr 0 0), (4, aR 3 10 (([(hist_Bucket.mk (api_Value.mk y43 y44 y45 y46) (api_Value.mk y47 y48 y49 y50) (IntKind.wrap .i64 x58) (IntKind.wrap .i64 x63))] : List hist_Bucket).length)), (9, aU x25), (10, aU y35)] rfl (by kernel_rfl) (detn [(0, .ptr 0 0), (4, aR 3 10 (([(hist_Bucket.mk (api_Value.mk y43 y44 y45 y46) (api_Value.mk y47 y48 y49 y50) (IntKind.wrap .i64 x58) (IntKind.wrap .i64 x63))] : List hist_Bucket).length)), (9, aU x25), (10, aU (IntKind.wrap .u64 (y35 + 1)))] (by kernel_rfl) ?_)))
      exact ⟨_, _, tidyL [(0, .ptr 0 0), (4, aR 1 10 (([(hist_Bucket.mk (api_Value.mk y43 y44 y45 y46) (api_Value.mk y47 y48 y49 y50) (IntKind.wrap .i64 x58) (IntKind.wrap .i64 x63))] : List hist_Bucket).length)), (9, aU x25), (10, aU (IntKind.wrap .u64 (y35 + 1)))] [.box [aB x60, .pv (encSl (rI .u8) x61), aI x62] false, bR 77 10 R_hist_Bucket ([(hist_Bucket.mk (api_Value.mk y43 y44 y45 y46) (api_Value.mk y47 y48 y49 y50) (IntKind.wrap .i64 x58) (IntKind.wrap .i64 x63))] : List hist_Bucket) 0 0] (by kernel_rfl), .inr (⟨x60, x61, x62, (IntKind.wrap .u64 (y35 + 1)), ([(hist_Bucket.mk (api_Value.mk y43 y44 y45 y46) (api_Value.mk y47 y48 y49 y50) (IntKind.wrap .i64 x58) (IntKind.wrap .i64 x63))] : List hist_Bucket), hm, rfl, rfl⟩)⟩
    refine sq (rg (sh 1 [(13, .ptr 0 0)] (by kernel_rfl) ?_))
    obtain ⟨⟨x66, x67, x68, x69, x70, x71, x72, x73⟩, h65, hm⟩ := bs hm
    obtain ⟨vv, H1, hC, rfl, rfl⟩ := ok_value_Take h65
    refine dR [(14, .tup [.agg [aI x69, aI x70, aF x71, aS x72], aI x73])] [.box [aB x66, .pv (encSl (rI .u8) x67), aI x68] false, .box [aI 0, aI 0, aF 0, aS ByteArray.empty, aI 0, aI 0, aF 0, aS ByteArray.empty, aI 0, aI 0] false] [0] [.ptr 0 0] (by kernel_rfl) (by kernel_rfl) (by kernel_rfl) hC (by kernel_rfl) (st 6 [(6, aI x73), (17, .ptr 1 0), (16, aI x73), (15, .agg [aI x69, aI x70, aF x71, aS x72]), (12, .tup [.agg [aI x69, aI x70, aF x71, aS x72], aI x73])] [.box [aB x66, .pv (encSl (rI .u8) x67), aI x68] false, .box [aI x69, aI x70, aF x71, aS x72, aI 0, aI 0, aF 0, aS ByteArray.empty, aI 0, aI 0] false] (by kernel_rfl) (fin [(0, .ptr 0 0), (4, .pv .nils), (5, .ptr 1 0), (6, aI x73), (9, aU x25), (10, aU y35)] rfl (by kernel_rfl) (sq (detn [(0, .ptr 0 0), (4, .pv .nils), (5, .ptr 1 0), (6, aI x73), (9, aU x25), (10, aU y35), (19, aB (x73 == 0))] (by kernel_rfl) ?_))))
    rcases bif_some hm with ⟨h74, hm⟩ | ⟨h74, hm⟩
    ·
     refine ct h74 (by kernel_rfl) (rg (sh 1 [(21, .ptr 0 0)] (by kernel_rfl) ?_))
     obtain ⟨⟨x76, x77, x78, x79, x80, x81, x82, x83⟩, h75, hm⟩ := bs hm
     obtain ⟨vv, H1, hC, rfl, rfl⟩ := ok_value_Take h75
     refine dR [(22, .tup [.agg [aI x79, aI x80, aF x81, aS x82], aI x83])] [.box [aB x76, .pv (encSl (rI .u8) x77), aI x78] false, .box [aI x69, aI x70, aF x71, aS x72, aI 0, aI 0, aF 0, aS ByteArray.empty, aI 0, aI 0] false] [0] [.ptr 0 0] (by kernel_rfl) (by kernel_rfl) (by kernel_rfl) hC (by kernel_rfl) (st 6 [(6, aI x83), (25, .ptr 1 4), (24, aI x83), (23, .agg [aI x79, aI x80, aF x81, aS x82]), (20, .tup [.agg [aI x79, aI x80, aF x81, aS x82], aI x83])] [.box [aB x76, .pv (encSl (rI .u8) x77), aI x78] false, .box [aI x69, aI x70, aF x71, aS x72, aI x79, aI x80, aF x81, aS x82, aI 0, aI 0] false] (by kernel_rfl) (fin [(0, .ptr 0 0), (4, .pv .nils), (5, .ptr 1 0), (6, aI x83), (9, aU x25), (10, aU y35)] rfl (by kernel_rfl) ?_))
     exact ⟨x76, x77, x78, x69, x70, x71, x72, x79, x80, x81, x82, x83, .any, hm, (mk_same (by kernel_rfl)), rfl⟩
    ·
     refine cf h74 (by kernel_rfl) (wp_skip ?_)
     exact ⟨x66, x67, x68, x69, x70, x71, x72, 0, 0, 0, ByteArray.empty, x73, aB (x73 == 0), hm, (mk_same (by kernel_rfl)), rfl⟩
   ·
    refine cf h38 (by kernel_rfl) (wp_exit ?_)
    exact .inl ⟨y32, y33, y34, aU x25, aU y35, aB (decide (y35 < x25)), hm, (mk_same (by kernel_rfl)), rfl⟩
  ·
   simp only [hist_Take_l3] at hm
   refine sq (detn [(0, .ptr 0 0), (4, aR 1 10 y36.length), (9, aU x25), (10, aU y35), (11, aB (decide (y35 < x25)))] (by kernel_rfl) ?_)
   refine sq ?_
   rcases bif_some hm with ⟨h84, hm⟩ | ⟨h84, hm⟩
   ·
    refine ct h84 (by kernel_rfl) (wp_skip (sq (bq (sq (det [(0, .ptr 0 0), (4, aR 1 10 y36.length), (5, .ptr 2 0), (9, aU x25), (10, aU y35)] [.box [aB y32, .pv (encSl (rI .u8) y33), aI y34] false, bR 77 10 R_hist_Bucket y36 0 0, .box [aI 0, aI 0, aF 0, aS ByteArray.empty, aI 0, aI 0, aF 0, aS ByteArray.empty, aI 0, aI 0] false] (by kernel_rfl) (sq (detn [(0, .ptr 0 0), (4, aR 1 10 y36.length), (5, .ptr 2 0), (9, aU x25), (10, aU y35)] (by kernel_rfl) ?_)))))))
    obtain ⟨k98, hk98, hm⟩ := withK_some hm
    refine mid (fun t H => (∃ (y86 : Bool) (y87 : (Option (List Int))) (y88 : Int) (y89 : Int) (y90 : Int) (y91 : Nat) (y92 : ByteArray) (y93 : Int) (y94 : Int) (y95 : Nat) (y96 : ByteArray) (y97 : Int) (w85 : AV), k98 y86 y87 y88 y89 y90 y91 y92 y93 y94 y95 y96 y97 = some r ∧ t = mk 51 [(0, .ptr 0 0), (4, aR 1 10 y36.length), (5, .ptr 2 0), (6, aI y97), (9, aU x25), (10, aU y35), (19, w85)] ∧ H = [.box [aB y86, .pv (encSl (rI .u8) y87), aI y88] false, bR 77 10 R_hist_Bucket y36 0 0, .box [aI y89, aI y90, aF y91, aS y92, aI y93, aI y94, aF y95, aS y96, aI 0, aI 0] false])) ?_ ?_
    ·
     rintro _ _ ⟨y86, y87, y88, y89, y90, y91, y92, y93, y94, y95, y96, y97, w85, hm, rfl, rfl⟩
     subst hk98
     refine sq (sq (detn [(0, .ptr 0 0), (4, aR 1 10 y36.length), (5, .ptr 2 0), (6, aI y97), (9, aU x25), (10, aU y35), (27, aB (y97 != 0))] (by kernel_rfl) ?_))
     rcases bif_some hm with ⟨h99, hm⟩ | ⟨h99, hm⟩
     ·
      refine ct h99 (by kernel_rfl) (sq (detn [(2, .pv .nils), (3, aI y97)] (by kernel_rfl) (wp_ret ?_)))
      obtain rfl := Option.some.inj hm
      exact ⟨trivial, .tup [.pv .nils, aI y97], [.box [aB y86, .pv (encSl (rI .u8) y87), aI y88] false], by kernel_rfl, rfl, rfl⟩
     ·
      refine cf h99 (by kernel_rfl) (wp_skip (sq (rg (sh 1 [(29, .ptr 0 0)] (by kernel_rfl) ?_))))
      obtain ⟨⟨x101, x102, x103, x104⟩, h100, hm⟩ := bs hm
      obtain ⟨vv, H1, hC, rfl, rfl⟩ := ok_codec_Reader_Uint h100
      refine dR [(30, aU x104)] [.box [aB x101, .pv (encSl (rI .u8) x102), aI x103] false, bR 77 10 R_hist_Bucket y36 0 0, .box [aI y89, aI y90, aF y91, aS y92, aI y93, aI y94, aF y95, aS y96, aI 0, aI 0] false] [0] [.ptr 0 0, aU 1000000] (by kernel_rfl) (by kernel_rfl) (by kernel_rfl) hC (by kernel_rfl) (st 3 [(32, .ptr 2 8), (31, aI (IntKind.wrap .i64 x104))] [.box [aB x101, .pv (encSl (rI .u8) x102), aI x103] false, bR 77 10 R_hist_Bucket y36 0 0, .box [aI y89, aI y90, aF y91, aS y92, aI y93, aI y94, aF y95, aS y96, aI (IntKind.wrap .i64 x104), aI 0] false] (by kernel_rfl) (fin [(0, .ptr 0 0), (4, aR 1 10 y36.length), (5, .ptr 2 0), (9, aU x25), (10, aU y35)] rfl (by kernel_rfl) (sq (rg (sh 1 [(33, .ptr 0 0)] (by kernel_rfl) ?_)))))
      obtain ⟨⟨x106, x107, x108, x109⟩, h105, hm⟩ := bs hm
      obtain ⟨vv, H1, hC, rfl, rfl⟩ := ok_codec_Reader_Uint h105
      refine dR [(34, aU x109)] [.box [aB x106, .pv (encSl (rI .u8) x107), aI x108] false, bR 77 10 R_hist_Bucket y36 0 0, .box [aI y89, aI y90, aF y91, aS y92, aI y93, aI y94, aF y95, aS y96, aI (IntKind.wrap .i64 x104), aI 0] false] [0] [.ptr 0 0, aU 1000000] (by kernel_rfl) (by kernel_rfl) (by kernel_rfl) hC (by kernel_rfl) (st 3 [(36, .ptr 2 9), (35, aI (IntKind.wrap .i64 x109))] [.box [aB x106, .pv (encSl (rI .u8) x107), aI x108] false, bR 77 10 R_hist_Bucket y36 0 0, .box [aI y89, aI y90, aF y91, aS y92, aI y93, aI y94, aF y95, aS y96, aI (IntKind.wrap .i64 x104), aI (IntKind.wrap .i64 x109)] false] (by kernel_rfl) (fin [(0, .ptr 0 0), (4, aR 1 10 y36.length), (5, .ptr 2 0), (9, aU x25), (10, aU y35)] rfl (by kernel_rfl) (rg (st 3 [(39, aR 3 10 1), (38, .agg [aI y89, aI y90, aF y91, aS y92, aI y93, aI y94, aF y95, aS y96, aI (IntKind.wrap .i64 x104), aI (IntKind.wrap .i64 x109)]), (37, aR 1 10 y36.length)] [.box [aB x106, .pv (encSl (rI .u8) x107), aI x108] false, bR 77 10 R_hist_Bucket y36 0 0, .box [aI y89, aI y90, aF y91, aS y92, aI y93, aI y94, aF y95, aS y96, aI (IntKind.wrap .i64 x104), aI (IntKind.wrap .i64 x109)] false, bR 77 10 R_hist_Bucket ([(hist_Bucket.mk (api_Value.mk y89 y90 y91 y92) (api_Value.mk y93 y94 y95 y96) (IntKind.wrap .i64 x104) (IntKind.wrap .i64 x109))] : List hist_Bucket) 0 0] (by kernel_rfl) ?_))))
      obtain ⟨_, h110, hm⟩ := bs hm
      refine dO [(40, aR 1 10 ((y36 ++ ([(hist_Bucket.mk (api_Value.mk y89 y90 y91 y92) (api_Value.mk y93 y94 y95 y96) (IntKind.wrap .i64 x104) (IntKind.wrap .i64 x109))] : List hist_Bucket)).length))] [.box [aB x106, .pv (encSl (rI .u8) x107), aI x108] false, bR 77 10 R_hist_Bucket (y36 ++ ([(hist_Bucket.mk (api_Value.mk y89 y90 y91 y92) (api_Value.mk y93 y94 y95 y96) (IntKind.wrap .i64 x104) (IntKind.wrap .i64 x109))] : List hist_Bucket)) 0 0, .box [aI y89, aI y90, aF y91, aS y92, aI y93, aI y94, aF y95, aS y96, aI (IntKind.wrap .i64 x104), aI (IntKind.wrap .i64 x109)] false, bR 77 10 R_hist_Bucket ([(hist_Bucket.mk (api_Value.mk y89 y90 y91 y92) (api_Value.mk y93 y94 y95 y96) (IntKind.wrap .i64 x104) (IntKind.wrap .i64 x109))] : List hist_Bucket) 0 0] (app_refO (u := 0) (n := y36.length) (id := 1) R_hist_Bucket y36 ([(hist_Bucket.mk (api_Value.mk y89 y90 y91 y92) (api_Value.mk y93 y94 y95 y96) (IntKind.wrap .i64 x104) (IntKind.wrap .i64 x109))] : List hist_Bucket) (b := 96) t53 t77 rfl rfl rfl (fun _ => rfl) rfl h110 rfl rfl (Nat.zero_le _) (show srcRows (aR 3 10 1) _ = some (([(hist_Bucket.mk (api_Value.mk y89 y90 y91 y92) (api_Value.mk y93 y94 y95 y96) (IntKind.wrap .i64 x104) (IntKind.wrap .i64 x109))] : List hist_Bucket).map R_hist_Bucket) from by kernel_rfl) (by kernel_rfl)) (by kernel_rfl) (sh 1 [(4, aR 1 10 ((y36 ++ ([(hist_Bucket.mk (api_Value.mk y89 y90 y91 y92) (api_Value.mk y93 y94 y95 y96) (IntKind.wrap .i64 x104) (IntKind.wrap .i64 x109))] : List hist_Bucket)).length))] (by kernel_rfl) (fin [(0, .ptr 0 0), (4, aR 1 10 ((y36 ++ ([(hist_Bucket.mk (api_Value.mk y89 y90 y91 y92) (api_Value.mk y93 y94 y95 y96) (IntKind.wrap .i64 x104) (IntKind.wrap .i64 x109))] : List hist_Bucket)).length)), (9, aU x25), (10, aU y35)] rfl (by kernel_rfl) (detn [(0, .ptr 0 0), (4, aR 1 10 ((y36 ++ ([(hist_Bucket.mk (api_Value.mk y89 y90 y91 y92) (api_Value.mk y93 y94 y95 y96) (IntKind.wrap .i64 x104) (IntKind.wrap .i64 x109))] : List hist_Bucket)).length)), (9, aU x25), (10, aU (IntKind.wrap .u64 (y35 + 1)))] (by kernel_rfl) ?_)))
      exact ⟨_, _, tidyL [(0, .ptr 0 0), (4, aR 1 10 ((y36 ++ ([(hist_Bucket.mk (api_Value.mk y89 y90 y91 y92) (api_Value.mk y93 y94 y95 y96) (IntKind.wrap .i64 x104) (IntKind.wrap .i64 x109))] : List hist_Bucket)).length)), (9, aU x25), (10, aU (IntKind.wrap .u64 (y35 + 1)))] [.box [aB x106, .pv (encSl (rI .u8) x107), aI x108] false, bR 77 10 R_hist_Bucket (y36 ++ ([(hist_Bucket.mk (api_Value.mk y89 y90 y91 y92) (api_Value.mk y93 y94 y95 y96) (IntKind.wrap .i64 x104) (IntKind.wrap .i64 x109))] : List hist_Bucket)) 0 0] (by kernel_rfl), .inr (⟨x106, x107, x108, (IntKind.wrap .u64 (y35 + 1)), (y36 ++ ([(hist_Bucket.mk (api_Value.mk y89 y90 y91 y92) (api_Value.mk y93 y94 y95 y96) (IntKind.wrap .i64 x104) (IntKind.wrap .i64 x109))] : List hist_Bucket)), hm, rfl, rfl⟩)⟩
    refine sq (rg (sh 1 [(13, .ptr 0 0)] (by kernel_rfl) ?_))
    obtain ⟨⟨x112, x113, x114, x115, x116, x117, x118, x119⟩, h111, hm⟩ := bs hm
    obtain ⟨vv, H1, hC, rfl, rfl⟩ := ok_value_Take h111
    refine dR [(14, .tup [.agg [aI x115, aI x116, aF x117, aS x118], aI x119])] [.box [aB x112, .pv (encSl (rI .u8) x113), aI x114] false, bR 77 10 R_hist_Bucket y36 0 0, .box [aI 0, aI 0, aF 0, aS ByteArray.empty, aI 0, aI 0, aF 0, aS ByteArray.empty, aI 0, aI 0] false] [0] [.ptr 0 0] (by kernel_rfl) (by kernel_rfl) (by kernel_rfl) hC (by kernel_rfl) (st 6 [(6, aI x119), (17, .ptr 2 0), (16, aI x119), (15, .agg [aI x115, aI x116, aF x117, aS x118]), (12, .tup [.agg [aI x115, aI x116, aF x117, aS x118], aI x119])] [.box [aB x112, .pv (encSl (rI .u8) x113), aI x114] false, bR 77 10 R_hist_Bucket y36 0 0, .box [aI x115, aI x116, aF x117, aS x118, aI 0, aI 0, aF 0, aS ByteArray.empty, aI 0, aI 0] false] (by kernel_rfl) (fin [(0, .ptr 0 0), (4, aR 1 10 y36.length), (5, .ptr 2 0), (6, aI x119), (9, aU x25), (10, aU y35)] rfl (by kernel_rfl) (sq (detn [(0, .ptr 0 0), (4, aR 1 10 y36.length), (5, .ptr 2 0), (6, aI x119), (9, aU x25), (10, aU y35), (19, aB (x119 == 0))] (by kernel_rfl) ?_))))
    rcases bif_some hm with ⟨h120, hm⟩ | ⟨h120, hm⟩
    ·
     refine ct h120 (by kernel_rfl) (rg (sh 1 [(21, .ptr 0 0)] (by kernel_rfl) ?_))
     obtain ⟨⟨x122, x123, x124, x125, x126, x127, x128, x129⟩, h121, hm⟩ := bs hm
     obtain ⟨vv, H1, hC, rfl, rfl⟩ := ok_value_Take h121
     refine dR [(22, .tup [.agg [aI x125, aI x126, aF x127, aS x128], aI x129])] [.box [aB x122, .pv (encSl (rI .u8) x123), aI x124] false, bR 77 10 R_hist_Bucket y36 0 0, .box [aI x115, aI x116, aF x117, aS x118, aI 0, aI 0, aF 0, aS ByteArray.empty, aI 0, aI 0] false] [0] [.ptr 0 0] (by kernel_rfl) (by kernel_rfl) (by kernel_rfl) hC (by kernel_rfl) (st 6 [(6, aI x129), (25, .ptr 2 4), (24, aI x129), (23, .agg [aI x125, aI x126, aF x127, aS x128]), (20, .tup [.agg [aI x125, aI x126, aF x127, aS x128], aI x129])] [.box [aB x122, .pv (encSl (rI .u8) x123), aI x124] false, bR 77 10 R_hist_Bucket y36 0 0, .box [aI x115, aI x116, aF x117, aS x118, aI x125, aI x126, aF x127, aS x128, aI 0, aI 0] false] (by kernel_rfl) (fin [(0, .ptr 0 0), (4, aR 1 10 y36.length), (5, .ptr 2 0), (6, aI x129), (9, aU x25), (10, aU y35)] rfl (by kernel_rfl) ?_))
     exact ⟨x122, x123, x124, x115, x116, x117, x118, x125, x126, x127, x128, x129, .any, hm, (mk_same (by kernel_rfl)), rfl⟩
    ·
     refine cf h120 (by kernel_rfl) (wp_skip ?_)
     exact ⟨x112, x113, x114, x115, x116, x117, x118, 0, 0, 0, ByteArray.empty, x119, aB (x119 == 0), hm, (mk_same (by kernel_rfl)), rfl⟩
   ·
    refine cf h84 (by kernel_rfl) (wp_exit ?_)
    exact .inr (⟨y32, y33, y34, y36, aU x25, aU y35, aB (decide (y35 < x25)), hm, (mk_same (by kernel_rfl)), rfl⟩)
theorem ok_hll_Take {n : Nat} {a0 : codec_Reader} {r : Bool × (Option (List Int)) × Int × (Nat → Int) × Int} (hm : hll_Take n a0 = some r) :
    ∃ vv H1, call G n 100 [.ptr 0 0] [.box [aB a0.fmade, .pv (encSl (rI .u8) a0.fb), aI a0.fe] false] = some (.ret vv, H1) ∧ (match r with | (r0, r1, r2, r3, r4) => (vv = .tup [.agg (aA .u8 64 r3), aI r4] ∧ H1 = [.box [aB r0, .pv (encSl (rI .u8) r1), aI r2] false])) := by
  unfold hll_Take at hm
  obtain ⟨n, rfl, h0⟩ := at1_some hm
  replace hm := h0; clear h0
  refine callE 27 [(0, .ptr 0 0)] func100 rfl (by kernel_rfl) (sq (det [(0, .ptr 0 0), (2, .ptr 1 0)] [.box [aB a0.fmade, .pv (encSl (rI .u8) a0.fb), aI a0.fe] false, .box (aA .u8 64 (fun _ => 0)) false] (by kernel_rfl) (sq (det [(0, .ptr 0 0), (2, .ptr 1 0), (4, .ptr 2 0)] [.box [aB a0.fmade, .pv (encSl (rI .u8) a0.fb), aI a0.fe] false, .box (aA .u8 64 (fun _ => 0)) false, .box (aA .u8 64 (fun _ => 0)) false] (by kernel_rfl) ?_))))
  obtain ⟨k7, hk7, hm⟩ := withK_some hm
  refine mid (fun t H => (∃ (y1 : Bool) (y2 : (Option (List Int))) (y3 : Int) (y4 : (Nat → Int)) (y5 : Int) (y6 : Bool), k7 y1 y2 y3 y4 = some r ∧ t = mk 27 [(0, .ptr 0 0), (2, .ptr 1 0), (4, .ptr 2 0), (7, aI y5), (8, aB y6)] ∧ H = [.box [aB y1, .pv (encSl (rI .u8) y2), aI y3] false, .box (aA .u8 64 (fun _ => 0)) false, .box (aA .u8 64 y4) false])) ?_ ?_
  ·
   rintro _ _ ⟨y1, y2, y3, y4, y5, y6, hm, rfl, rfl⟩
   subst hk7
   refine sq (sq (rg (sh 1 [(16, .ptr 0 0)] (by kernel_rfl) ?_)))
   obtain ⟨x9, h8, hm⟩ := bs hm
   obtain ⟨vv, H1, hC, rfl, rfl⟩ := ok_codec_Reader_Err h8
   refine dR [(17, aI x9)] [.box [aB y1, .pv (encSl (rI .u8) y2), aI y3] false, .box (aA .u8 64 (fun _ => 0)) false, .box (aA .u8 64 y4) false] [0] [.ptr 0 0] (by kernel_rfl) (by kernel_rfl) (by kernel_rfl) hC (by kernel_rfl) (sh 1 [(6, aI x9)] (by kernel_rfl) (fin [(2, .ptr 1 0), (4, .ptr 2 0), (6, aI x9)] rfl (by kernel_rfl) (sq (detn [(2, .ptr 1 0), (4, .ptr 2 0), (6, aI x9), (19, aB (x9 != 0))] (by kernel_rfl) ?_))))
   rcases bif_some hm with ⟨h10, hm⟩ | ⟨h10, hm⟩
   ·
    refine ct h10 (by kernel_rfl) (sq (detn [(2, .ptr 1 0), (3, aI x9)] (by kernel_rfl) (wp_ret ?_)))
    obtain rfl := Option.some.inj hm
    exact ⟨trivial, .tup [.agg (aA .u8 64 (fun _ => 0)), aI x9], [.box [aB y1, .pv (encSl (rI .u8) y2), aI y3] false], by kernel_rfl, rfl, rfl⟩
   ·
    refine cf h10 (by kernel_rfl) (wp_skip (sq (sq (rg (sh 1 [(22, .agg (aA .u8 64 y4))] (by kernel_rfl) ?_)))))
    obtain ⟨x11, h12, hm⟩ := bs hm
    refine dv 23 (cpure (by kernel_rfl) (ok_hll_Right h12) (by kernel_rfl) (by kernel_rfl) (by kernel_rfl)) (by kernel_rfl) (sh 1 [(24, aB (!x11))] (by kernel_rfl) (fin [(2, .ptr 1 0), (4, .ptr 2 0), (24, aB (!x11))] rfl (by kernel_rfl) ?_))
    rcases bif_some hm with ⟨h13, hm⟩ | ⟨h13, hm⟩
    ·
     refine ct h13 (by kernel_rfl) (sq (detn [(2, .ptr 1 0), (3, aI 22)] (by kernel_rfl) (wp_ret ?_)))
     obtain rfl := Option.some.inj hm
     exact ⟨trivial, .tup [.agg (aA .u8 64 (fun _ => 0)), aI 22], [.box [aB y1, .pv (encSl (rI .u8) y2), aI y3] false], by kernel_rfl, rfl, rfl⟩
    ·
     refine cf h13 (by kernel_rfl) (wp_skip (sq (det [(2, .ptr 1 0), (3, aI 0)] [.box [aB y1, .pv (encSl (rI .u8) y2), aI y3] false, .box (aA .u8 64 y4) false, .box (aA .u8 64 y4) false] (by kernel_rfl) (wp_ret ?_))))
     obtain rfl := Option.some.inj hm
     exact ⟨trivial, .tup [.agg (aA .u8 64 y4), aI 0], [.box [aB y1, .pv (encSl (rI .u8) y2), aI y3] false], by kernel_rfl, rfl, rfl⟩
  refine sq (detn [(0, .ptr 0 0), (2, .ptr 1 0), (4, .ptr 2 0), (7, aI 0)] (by kernel_rfl) (bq ?_))
  refine loopF (fun mm t H => (∃ (y19 : Bool) (y20 : (Option (List Int))) (y21 : Int) (y22 : (Nat → Int)) (y23 : Int), hll_Take_l3 n k7 mm y19 y20 y21 y22 y23 = some r ∧ t = mk 27 [(0, .ptr 0 0), (2, .ptr 1 0), (4, .ptr 2 0), (7, aI y23)] ∧ H = [.box [aB y19, .pv (encSl (rI .u8) y20), aI y21] false, .box (aA .u8 64 (fun _ => 0)) false, .box (aA .u8 64 y22) false])) (⟨a0.fmade, a0.fb, a0.fe, (fun _ => 0), 0, hm, rfl, rfl⟩) ?_ ?_
  · rintro _ _ ⟨y19, y20, y21, y22, y23, hm, _⟩; exact nomatch hm
  rintro m24 _ _ ⟨y19, y20, y21, y22, y23, hm, rfl, rfl⟩
  simp only [hll_Take_l3] at hm
  refine sq (detn [(0, .ptr 0 0), (2, .ptr 1 0), (4, .ptr 2 0), (7, aI y23), (8, aB (decide (y23 < 64)))] (by kernel_rfl) ?_)
  refine sq ?_
  rcases bif_some hm with ⟨h25, hm⟩ | ⟨h25, hm⟩
  ·
   refine ct h25 (by kernel_rfl) (wp_skip (sq (bq (sq (detn [(0, .ptr 0 0), (2, .ptr 1 0), (4, .ptr 2 0), (5, aI y23), (7, aI y23)] (by kernel_rfl) (rg (sh 2 [(11, .ptr 0 0), (10, aI y23)] (by kernel_rfl) ?_)))))))
   obtain ⟨⟨x27, x28, x29⟩, h26, hm⟩ := bs hm
   obtain ⟨vv, H1, hC, rfl, rfl⟩ := ok_codec_Reader_Byte h26
   refine dR [(12, aY x29)] [.box [aB ((codec_Reader.mk y19 y20 y21).fmade), .pv (encSl (rI .u8) x27), aI x28] false, .box (aA .u8 64 (fun _ => 0)) false, .box (aA .u8 64 y22) false] [0] [.ptr 0 0] (by kernel_rfl) (by kernel_rfl) (by kernel_rfl) hC (by kernel_rfl) (sh 1 [(13, .ptr 2 0)] (by kernel_rfl) ?_)
   obtain ⟨_, h30, hm⟩ := bs hm
   refine dv 14 (v := .ptr 2 (0 + Int.toNat y23 * 1)) (ia_arrO (n := 64) (id := 2) (off := 0) 1 .i64 t85 t5 rfl h30 (by kernel_rfl)) (by kernel_rfl) (dO [] [.box [aB ((codec_Reader.mk y19 y20 y21).fmade), .pv (encSl (rI .u8) x27), aI x28] false, .box (aA .u8 64 (fun _ => 0)) false, .box (aA .u8 64 (updA y22 y23 x29)) false] (st_arrO (k := .u8) (n := 64) (id := 2) (off := 0) (v := x29) y22 [] [] (aA .u8 64 y22) t5 rfl rfl (by kernel_rfl) (by kernel_rfl) h30 (by kernel_rfl)) (by kernel_rfl) (fin [(0, .ptr 0 0), (2, .ptr 1 0), (4, .ptr 2 0), (7, aI y23)] rfl (by kernel_rfl) (detn [(0, .ptr 0 0), (2, .ptr 1 0), (4, .ptr 2 0), (7, aI (IntKind.wrap .i64 (y23 + 1)))] (by kernel_rfl) ?_)))
   exact ⟨_, _, tidyL [(0, .ptr 0 0), (2, .ptr 1 0), (4, .ptr 2 0), (7, aI (IntKind.wrap .i64 (y23 + 1)))] [.box [aB ((codec_Reader.mk y19 y20 y21).fmade), .pv (encSl (rI .u8) x27), aI x28] false, .box (aA .u8 64 (fun _ => 0)) false, .box (aA .u8 64 (updA y22 y23 x29)) false] (by kernel_rfl), ⟨((codec_Reader.mk y19 y20 y21).fmade), x27, x28, (updA y22 y23 x29), (IntKind.wrap .i64 (y23 + 1)), hm, rfl, rfl⟩⟩
  ·
   refine cf h25 (by kernel_rfl) (wp_exit ?_)
   exact ⟨y19, y20, y21, y22, y23, (decide (y23 < 64)), hm, rfl, rfl⟩
theorem ok_stat_take {n : Nat} {a0 : codec_Reader} {r : (Bool × (Option (List Int)) × Int × Int × Int × Int × (Nat → Int) × Int) ⊕ (Bool × (Option (List Int)) × Int × Int × Int × Int × (List api_Value) × (Nat → Int)) ⊕ (Bool × (Option (List Int)) × Int × Int × Int × Int × (List hist_Bucket) × (Nat → Int)) ⊕ (Bool × (Option (List Int)) × Int × Int × Int × Int × (List hist_Bucket) × (List api_Value) × (Nat → Int))} (hm : stat_take n a0 = some r) :
    ∃ vv H1, call G n 59 [.ptr 0 0] [.box [aB a0.fmade, .pv (encSl (rI .u8) a0.fb), aI a0.fe] false] = some (.ret vv, H1) ∧ (match r with | (.inl (r0, r1, r2, r3, r4, r5, r6, r7)) => (vv = .tup [.agg ([aI r3, aI r4, aI r5, .pv .nils, .pv .nils] ++ (aA .u8 64 r6)), aI r7] ∧ H1 = [.box [aB r0, .pv (encSl (rI .u8) r1), aI r2] false]) | (.inr (.inl (r8, r9, r10, r11, r12, r13, r14, r15))) => (vv = .tup [.agg ([aI r11, aI r12, aI r13, .pv .nils, aR 1 4 r14.length] ++ (aA .u8 64 r15)), aI 0] ∧ H1 = [.box [aB r8, .pv (encSl (rI .u8) r9), aI r10] false, bR 64 4 R_api_Value r14 0 0]) | (.inr (.inr (.inl (r16, r17, r18, r19, r20, r21, r22, r23)))) => (vv = .tup [.agg ([aI r19, aI r20, aI r21, aR 1 10 r22.length, .pv .nils] ++ (aA .u8 64 r23)), aI 0] ∧ H1 = [.box [aB r16, .pv (encSl (rI .u8) r17), aI r18] false, bR 77 10 R_hist_Bucket r22 0 0]) | (.inr (.inr (.inr ((r24, r25, r26, r27, r28, r29, r30, r31, r32))))) => (vv = .tup [.agg ([aI r27, aI r28, aI r29, aR 1 10 r30.length, aR 2 4 r31.length] ++ (aA .u8 64 r32)), aI 0] ∧ H1 = [.box [aB r24, .pv (encSl (rI .u8) r25), aI r26] false, bR 77 10 R_hist_Bucket r30 0 0, bR 64 4 R_api_Value r31 0 0])) := by
  unfold stat_take at hm
  obtain ⟨n, rfl, h0⟩ := at1_some hm
  replace hm := h0; clear h0
  refine callE 59 [(0, .ptr 0 0)] func59 rfl (by kernel_rfl) (sq (det [(0, .ptr 0 0), (2, .ptr 1 0)] [.box [aB a0.fmade, .pv (encSl (rI .u8) a0.fb), aI a0.fe] false, .box ([aI 0, aI 0, aI 0, .pv .nils, .pv .nils] ++ (aA .u8 64 (fun _ => 0))) false] (by kernel_rfl) (sq (rg (sh 1 [(6, .ptr 0 0)] (by kernel_rfl) ?_)))))
  obtain ⟨⟨x2, x3, x4⟩, h1, hm⟩ := bs hm
  obtain ⟨vv, H1, hC, rfl, rfl⟩ := ok_codec_Reader_Byte h1
  refine dR [(7, aY x4)] [.box [aB a0.fmade, .pv (encSl (rI .u8) x2), aI x3] false, .box ([aI 0, aI 0, aI 0, .pv .nils, .pv .nils] ++ (aA .u8 64 (fun _ => 0))) false] [0] [.ptr 0 0] (by kernel_rfl) (by kernel_rfl) (by kernel_rfl) hC (by kernel_rfl) (st 3 [(9, .ptr 1 0), (8, aI (IntKind.wrap .i64 x4))] [.box [aB a0.fmade, .pv (encSl (rI .u8) x2), aI x3] false, .box ([aI (IntKind.wrap .i64 x4), aI 0, aI 0, .pv .nils, .pv .nils] ++ (aA .u8 64 (fun _ => 0))) false] (by kernel_rfl) (fin [(0, .ptr 0 0), (2, .ptr 1 0)] rfl (by kernel_rfl) (sq (rg (sh 1 [(10, .ptr 0 0)] (by kernel_rfl) ?_)))))
  obtain ⟨⟨x6, x7, x8, x9⟩, h5, hm⟩ := bs hm
  obtain ⟨vv, H1, hC, rfl, rfl⟩ := ok_codec_Reader_Uint h5
  refine dR [(11, aU x9)] [.box [aB x6, .pv (encSl (rI .u8) x7), aI x8] false, .box ([aI (IntKind.wrap .i64 x4), aI 0, aI 0, .pv .nils, .pv .nils] ++ (aA .u8 64 (fun _ => 0))) false] [0] [.ptr 0 0, aU 1000000] (by kernel_rfl) (by kernel_rfl) (by kernel_rfl) hC (by kernel_rfl) (st 3 [(13, .ptr 1 1), (12, aI (IntKind.wrap .i64 x9))] [.box [aB x6, .pv (encSl (rI .u8) x7), aI x8] false, .box ([aI (IntKind.wrap .i64 x4), aI (IntKind.wrap .i64 x9), aI 0, .pv .nils, .pv .nils] ++ (aA .u8 64 (fun _ => 0))) false] (by kernel_rfl) (fin [(0, .ptr 0 0), (2, .ptr 1 0)] rfl (by kernel_rfl) (sq (rg (sh 1 [(14, .ptr 0 0)] (by kernel_rfl) ?_)))))
  obtain ⟨⟨x11, x12, x13, x14⟩, h10, hm⟩ := bs hm
  obtain ⟨vv, H1, hC, rfl, rfl⟩ := ok_codec_Reader_Uint h10
  refine dR [(15, aU x14)] [.box [aB x11, .pv (encSl (rI .u8) x12), aI x13] false, .box ([aI (IntKind.wrap .i64 x4), aI (IntKind.wrap .i64 x9), aI 0, .pv .nils, .pv .nils] ++ (aA .u8 64 (fun _ => 0))) false] [0] [.ptr 0 0, aU 1000000] (by kernel_rfl) (by kernel_rfl) (by kernel_rfl) hC (by kernel_rfl) (st 3 [(17, .ptr 1 2), (16, aI (IntKind.wrap .i64 x14))] [.box [aB x11, .pv (encSl (rI .u8) x12), aI x13] false, .box ([aI (IntKind.wrap .i64 x4), aI (IntKind.wrap .i64 x9), aI (IntKind.wrap .i64 x14), .pv .nils, .pv .nils] ++ (aA .u8 64 (fun _ => 0))) false] (by kernel_rfl) (fin [(0, .ptr 0 0), (2, .ptr 1 0)] rfl (by kernel_rfl) ?_))
  obtain ⟨k21, hk21, hm⟩ := withK_some hm
  refine mid (fun t H => (∃ (y17 : Bool) (y18 : (Option (List Int))) (y19 : Int) (w15 : AV) (w16 : AV), k21 y17 y18 y19 none = some r ∧ t = mk 59 [(0, .ptr 0 0), (2, .ptr 1 0), (3, w15), (25, w16)] ∧ H = [.box [aB y17, .pv (encSl (rI .u8) y18), aI y19] false, .box ([aI (IntKind.wrap .i64 x4), aI (IntKind.wrap .i64 x9), aI (IntKind.wrap .i64 x14), .pv .nils, .pv .nils] ++ (aA .u8 64 (fun _ => 0))) false]) ∨ (∃ (y17 : Bool) (y18 : (Option (List Int))) (y19 : Int) (y20 : (List hist_Bucket)) (w15 : AV) (w16 : AV), k21 y17 y18 y19 (some y20) = some r ∧ t = mk 59 [(0, .ptr 0 0), (2, .ptr 1 0), (3, w15), (25, w16)] ∧ H = [.box [aB y17, .pv (encSl (rI .u8) y18), aI y19] false, .box ([aI (IntKind.wrap .i64 x4), aI (IntKind.wrap .i64 x9), aI (IntKind.wrap .i64 x14), aR 2 10 y20.length, .pv .nils] ++ (aA .u8 64 (fun _ => 0))) false, bR 77 10 R_hist_Bucket y20 0 0])) ?_ ?_
  ·
   rintro _ _ (⟨y17, y18, y19, w15, w16, hm, rfl, rfl⟩ | ⟨y17, y18, y19, y20, w15, w16, hm, rfl, rfl⟩)
   ·
    subst hk21
    obtain ⟨k29, hk29, hm⟩ := withK_some hm
    refine mid (fun t H => (∃ (y25 : Bool) (y26 : (Option (List Int))) (y27 : Int) (w22 : AV) (w23 : AV) (w24 : AV), k29 y25 y26 y27 none = some r ∧ t = mk 59 [(0, .ptr 0 0), (2, .ptr 1 0), (29, w22), (30, w23), (31, w24)] ∧ H = [.box [aB y25, .pv (encSl (rI .u8) y26), aI y27] false, .box ([aI (IntKind.wrap .i64 x4), aI (IntKind.wrap .i64 x9), aI (IntKind.wrap .i64 x14), .pv .nils, .pv .nils] ++ (aA .u8 64 (fun _ => 0))) false]) ∨ (∃ (y25 : Bool) (y26 : (Option (List Int))) (y27 : Int) (y28 : (List api_Value)) (w22 : AV) (w23 : AV) (w24 : AV), k29 y25 y26 y27 (some y28) = some r ∧ t = mk 59 [(0, .ptr 0 0), (2, .ptr 1 0), (29, w22), (30, w23), (31, w24)] ∧ H = [.box [aB y25, .pv (encSl (rI .u8) y26), aI y27] false, .box ([aI (IntKind.wrap .i64 x4), aI (IntKind.wrap .i64 x9), aI (IntKind.wrap .i64 x14), .pv .nils, aR 2 4 y28.length] ++ (aA .u8 64 (fun _ => 0))) false, bR 64 4 R_api_Value y28 0 0])) ?_ ?_
    ·
     rintro _ _ (⟨y25, y26, y27, w22, w23, w24, hm, rfl, rfl⟩ | ⟨y25, y26, y27, y28, w22, w23, w24, hm, rfl, rfl⟩)
     ·
      subst hk29
      refine sq (sq (rg (sh 1 [(49, .ptr 0 0)] (by kernel_rfl) ?_)))
      obtain ⟨⟨x31, x32, x33, x34, x35⟩, h30, hm⟩ := bs hm
      obtain ⟨vv, H1, hC, rfl, rfl⟩ := ok_hll_Take h30
      refine dR [(50, .tup [.agg (aA .u8 64 x34), aI x35])] [.box [aB x31, .pv (encSl (rI .u8) x32), aI x33] false, .box ([aI (IntKind.wrap .i64 x4), aI (IntKind.wrap .i64 x9), aI (IntKind.wrap .i64 x14), .pv .nils, .pv .nils] ++ (aA .u8 64 (fun _ => 0))) false] [0] [.ptr 0 0] (by kernel_rfl) (by kernel_rfl) (by kernel_rfl) hC (by kernel_rfl) (st 6 [(3, aI x35), (53, .ptr 1 5), (52, aI x35), (51, .agg (aA .u8 64 x34)), (48, .tup [.agg (aA .u8 64 x34), aI x35])] [.box [aB x31, .pv (encSl (rI .u8) x32), aI x33] false, .box ([aI (IntKind.wrap .i64 x4), aI (IntKind.wrap .i64 x9), aI (IntKind.wrap .i64 x14), .pv .nils, .pv .nils] ++ (aA .u8 64 x34)) false] (by kernel_rfl) (fin [(2, .ptr 1 0), (3, aI x35)] rfl (by kernel_rfl) (sq (detn [(2, .ptr 1 0), (3, aI x35), (55, aB (x35 != 0))] (by kernel_rfl) ?_))))
      rcases bif_some hm with ⟨h36, hm⟩ | ⟨h36, hm⟩
      ·
       refine ct h36 (by kernel_rfl) (sq (det [(2, .ptr 1 0), (3, aI x35)] [.box [aB x31, .pv (encSl (rI .u8) x32), aI x33] false, .box ([aI 0, aI 0, aI 0, .pv .nils, .pv .nils] ++ (aA .u8 64 (fun _ => 0))) false] (by kernel_rfl) (wp_ret ?_)))
       obtain rfl := Option.some.inj hm
       exact ⟨trivial, .tup [.agg ([aI 0, aI 0, aI 0, .pv .nils, .pv .nils] ++ (aA .u8 64 (fun _ => 0))), aI x35], [.box [aB x31, .pv (encSl (rI .u8) x32), aI x33] false], by kernel_rfl, rfl, rfl⟩
      ·
       refine cf h36 (by kernel_rfl) (wp_skip (sq (detn [(2, .ptr 1 0), (3, aI 0)] (by kernel_rfl) (wp_ret ?_))))
       obtain rfl := Option.some.inj hm
       exact ⟨trivial, .tup [.agg ([aI (IntKind.wrap .i64 x4), aI (IntKind.wrap .i64 x9), aI (IntKind.wrap .i64 x14), .pv .nils, .pv .nils] ++ (aA .u8 64 x34)), aI 0], [.box [aB x31, .pv (encSl (rI .u8) x32), aI x33] false], by kernel_rfl, rfl, rfl⟩
     ·
      subst hk29
      refine sq (sq (rg (sh 1 [(49, .ptr 0 0)] (by kernel_rfl) ?_)))
      obtain ⟨⟨x38, x39, x40, x41, x42⟩, h37, hm⟩ := bs hm
      obtain ⟨vv, H1, hC, rfl, rfl⟩ := ok_hll_Take h37
      refine dR [(50, .tup [.agg (aA .u8 64 x41), aI x42])] [.box [aB x38, .pv (encSl (rI .u8) x39), aI x40] false, .box ([aI (IntKind.wrap .i64 x4), aI (IntKind.wrap .i64 x9), aI (IntKind.wrap .i64 x14), .pv .nils, aR 2 4 y28.length] ++ (aA .u8 64 (fun _ => 0))) false, bR 64 4 R_api_Value y28 0 0] [0] [.ptr 0 0] (by kernel_rfl) (by kernel_rfl) (by kernel_rfl) hC (by kernel_rfl) (st 6 [(3, aI x42), (53, .ptr 1 5), (52, aI x42), (51, .agg (aA .u8 64 x41)), (48, .tup [.agg (aA .u8 64 x41), aI x42])] [.box [aB x38, .pv (encSl (rI .u8) x39), aI x40] false, .box ([aI (IntKind.wrap .i64 x4), aI (IntKind.wrap .i64 x9), aI (IntKind.wrap .i64 x14), .pv .nils, aR 2 4 y28.length] ++ (aA .u8 64 x41)) false, bR 64 4 R_api_Value y28 0 0] (by kernel_rfl) (fin [(2, .ptr 1 0), (3, aI x42)] rfl (by kernel_rfl) (sq (detn [(2, .ptr 1 0), (3, aI x42), (55, aB (x42 != 0))] (by kernel_rfl) ?_))))
      rcases bif_some hm with ⟨h43, hm⟩ | ⟨h43, hm⟩
      ·
       refine ct h43 (by kernel_rfl) (sq (det [(2, .ptr 1 0), (3, aI x42)] [.box [aB x38, .pv (encSl (rI .u8) x39), aI x40] false, .box ([aI 0, aI 0, aI 0, .pv .nils, .pv .nils] ++ (aA .u8 64 (fun _ => 0))) false, bR 64 4 R_api_Value y28 0 0] (by kernel_rfl) (wp_ret ?_)))
       obtain rfl := Option.some.inj hm
       exact ⟨trivial, .tup [.agg ([aI 0, aI 0, aI 0, .pv .nils, .pv .nils] ++ (aA .u8 64 (fun _ => 0))), aI x42], [.box [aB x38, .pv (encSl (rI .u8) x39), aI x40] false], by kernel_rfl, rfl, rfl⟩
      ·
       refine cf h43 (by kernel_rfl) (wp_skip (sq (detn [(2, .ptr 1 0), (3, aI 0)] (by kernel_rfl) (wp_ret ?_))))
       obtain rfl := Option.some.inj hm
       exact ⟨trivial, .tup [.agg ([aI (IntKind.wrap .i64 x4), aI (IntKind.wrap .i64 x9), aI (IntKind.wrap .i64 x14), .pv .nils, aR 1 4 y28.length] ++ (aA .u8 64 x41)), aI 0], [.box [aB x38, .pv (encSl (rI .u8) x39), aI x40] false, bR 64 4 R_api_Value y28 0 0], by kernel_rfl, rfl, rfl⟩
    refine sq (rg (sh 1 [(28, .ptr 0 0)] (by kernel_rfl) ?_))
    obtain ⟨⟨x45, x46, x47, x48⟩, h44, hm⟩ := bs hm
    obtain ⟨vv, H1, hC, rfl, rfl⟩ := ok_codec_Reader_Uint h44
    refine dR [(29, aU x48)] [.box [aB x45, .pv (encSl (rI .u8) x46), aI x47] false, .box ([aI (IntKind.wrap .i64 x4), aI (IntKind.wrap .i64 x9), aI (IntKind.wrap .i64 x14), .pv .nils, .pv .nils] ++ (aA .u8 64 (fun _ => 0))) false] [0] [.ptr 0 0, aU 60] (by kernel_rfl) (by kernel_rfl) (by kernel_rfl) hC (by kernel_rfl) (sh 1 [(30, aU 0)] (by kernel_rfl) (fin [(0, .ptr 0 0), (2, .ptr 1 0), (29, aU x48), (30, aU 0)] rfl (by kernel_rfl) (bq ?_)))
    refine loopF (fun mm t H => (∃ (y55 : Bool) (y56 : (Option (List Int))) (y57 : Int) (y59 : Int), stat_take_l8 n k29 x48 mm y55 y56 y57 none y59 = some r ∧ t = mk 59 [(0, .ptr 0 0), (2, .ptr 1 0), (29, aU x48), (30, aU y59)] ∧ H = [.box [aB y55, .pv (encSl (rI .u8) y56), aI y57] false, .box ([aI (IntKind.wrap .i64 x4), aI (IntKind.wrap .i64 x9), aI (IntKind.wrap .i64 x14), .pv .nils, .pv .nils] ++ (aA .u8 64 (fun _ => 0))) false]) ∨ (∃ (y55 : Bool) (y56 : (Option (List Int))) (y57 : Int) (y58 : (List api_Value)) (y59 : Int), stat_take_l8 n k29 x48 mm y55 y56 y57 (some y58) y59 = some r ∧ t = mk 59 [(0, .ptr 0 0), (2, .ptr 1 0), (29, aU x48), (30, aU y59)] ∧ H = [.box [aB y55, .pv (encSl (rI .u8) y56), aI y57] false, .box ([aI (IntKind.wrap .i64 x4), aI (IntKind.wrap .i64 x9), aI (IntKind.wrap .i64 x14), .pv .nils, aR 2 4 y58.length] ++ (aA .u8 64 (fun _ => 0))) false, bR 64 4 R_api_Value y58 0 0])) (.inl ⟨x45, x46, x47, 0, hm, rfl, rfl⟩) ?_ ?_
    · rintro _ _ (⟨y55, y56, y57, y59, hm, _⟩ | ⟨y55, y56, y57, y58, y59, hm, _⟩) <;> exact nomatch hm
    rintro m60 _ _ (⟨y55, y56, y57, y59, hm, rfl, rfl⟩ | ⟨y55, y56, y57, y58, y59, hm, rfl, rfl⟩)
    ·
     simp only [stat_take_l8] at hm
     refine sq (detn [(0, .ptr 0 0), (2, .ptr 1 0), (29, aU x48), (30, aU y59), (31, aB (decide (y59 < x48)))] (by kernel_rfl) ?_)
     refine sq ?_
     rcases bif_some hm with ⟨h61, hm⟩ | ⟨h61, hm⟩
     ·
      refine ct h61 (by kernel_rfl) (wp_skip (sq (bq (sq (rg (sh 1 [(33, .ptr 0 0)] (by kernel_rfl) ?_))))))
      obtain ⟨⟨x63, x64, x65, x66, x67, x68, x69, x70⟩, h62, hm⟩ := bs hm
      obtain ⟨vv, H1, hC, rfl, rfl⟩ := ok_value_Take h62
      refine dR [(34, .tup [.agg [aI x66, aI x67, aF x68, aS x69], aI x70])] [.box [aB x63, .pv (encSl (rI .u8) x64), aI x65] false, .box ([aI (IntKind.wrap .i64 x4), aI (IntKind.wrap .i64 x9), aI (IntKind.wrap .i64 x14), .pv .nils, .pv .nils] ++ (aA .u8 64 (fun _ => 0))) false] [0] [.ptr 0 0] (by kernel_rfl) (by kernel_rfl) (by kernel_rfl) hC (by kernel_rfl) (st 6 [(5, aI x70), (4, .ptr 2 0), (36, aI x70), (35, .agg [aI x66, aI x67, aF x68, aS x69]), (32, .tup [.agg [aI x66, aI x67, aF x68, aS x69], aI x70])] [.box [aB x63, .pv (encSl (rI .u8) x64), aI x65] false, .box ([aI (IntKind.wrap .i64 x4), aI (IntKind.wrap .i64 x9), aI (IntKind.wrap .i64 x14), .pv .nils, .pv .nils] ++ (aA .u8 64 (fun _ => 0))) false, .box [aI x66, aI x67, aF x68, aS x69] false] (by kernel_rfl) (fin [(0, .ptr 0 0), (2, .ptr 1 0), (4, .ptr 2 0), (5, aI x70), (29, aU x48), (30, aU y59)] rfl (by kernel_rfl) ?_))
      refine sq (sq (detn [(0, .ptr 0 0), (2, .ptr 1 0), (4, .ptr 2 0), (5, aI x70), (29, aU x48), (30, aU y59), (38, aB (x70 != 0))] (by kernel_rfl) ?_))
      rcases bif_some hm with ⟨h71, hm⟩ | ⟨h71, hm⟩
      ·
       refine ct h71 (by kernel_rfl) (sq (det [(2, .ptr 1 0), (3, aI x70)] [.box [aB x63, .pv (encSl (rI .u8) x64), aI x65] false, .box ([aI 0, aI 0, aI 0, .pv .nils, .pv .nils] ++ (aA .u8 64 (fun _ => 0))) false, .box [aI x66, aI x67, aF x68, aS x69] false] (by kernel_rfl) (wp_ret ?_)))
       obtain rfl := Option.some.inj hm
       exact ⟨trivial, .tup [.agg ([aI 0, aI 0, aI 0, .pv .nils, .pv .nils] ++ (aA .u8 64 (fun _ => 0))), aI x70], [.box [aB x63, .pv (encSl (rI .u8) x64), aI x65] false], by kernel_rfl, rfl, rfl⟩
      ·
       refine cf h71 (by kernel_rfl) (wp_skip (rg (st 4 [(44, aR 3 4 1), (43, .agg [aI x66, aI x67, aF x68, aS x69]), (42, .pv .nils), (41, .ptr 1 4)] [.box [aB x63, .pv (encSl (rI .u8) x64), aI x65] false, .box ([aI (IntKind.wrap .i64 x4), aI (IntKind.wrap .i64 x9), aI (IntKind.wrap .i64 x14), .pv .nils, .pv .nils] ++ (aA .u8 64 (fun _ => 0))) false, .box [aI x66, aI x67, aF x68, aS x69] false, bR 64 4 R_api_Value ([(api_Value.mk x66 x67 x68 x69)] : List api_Value) 0 0] (by kernel_rfl) ?_)))
       obtain ⟨_, h72, hm⟩ := bs hm
       refine dO [(45, aR 4 4 (([(api_Value.mk x66 x67 x68 x69)] : List api_Value).length))] [.box [aB x63, .pv (encSl (rI .u8) x64), aI x65] false, .box ([aI (IntKind.wrap .i64 x4), aI (IntKind.wrap .i64 x9), aI (IntKind.wrap .i64 x14), .pv .nils, .pv .nils] ++ (aA .u8 64 (fun _ => 0))) false, .box [aI x66, aI x67, aF x68, aS x69] false, bR 64 4 R_api_Value ([(api_Value.mk x66 x67 x68 x69)] : List api_Value) 0 0, bR 64 4 R_api_Value ([(api_Value.mk x66 x67 x68 x69)] : List api_Value) 0 0] (app_nilO (u := 0) R_api_Value ([(api_Value.mk x66 x67 x68 x69)] : List api_Value) (b := 40) t52 t64 rfl rfl rfl (fun _ => rfl) rfl h72 (show srcRows (aR 3 4 1) _ = some (([(api_Value.mk x66 x67 x68 x69)] : List api_Value).map R_api_Value) from by kernel_rfl) (by kernel_rfl)) (by kernel_rfl) (st 2 [(46, .ptr 1 4)] [.box [aB x63, .pv (encSl (rI .u8) x64), aI x65] false, .box ([aI (IntKind.wrap .i64 x4), aI (IntKind.wrap .i64 x9), aI (IntKind.wrap .i64 x14), .pv .nils, aR 4 4 (([(api_Value.mk x66 x67 x68 x69)] : List api_Value).length)] ++ (aA .u8 64 (fun _ => 0))) false, .box [aI x66, aI x67, aF x68, aS x69] false, bR 64 4 R_api_Value ([(api_Value.mk x66 x67 x68 x69)] : List api_Value) 0 0, bR 64 4 R_api_Value ([(api_Value.mk x66 x67 x68 x69)] : List api_Value) 0 0] (by kernel_rfl) (fin [(0, .ptr 0 0), (2, .ptr 1 0), (29, aU x48), (30, aU y59)] rfl (by kernel_rfl) (detn [(0, .ptr 0 0), (2, .ptr 1 0), (29, aU x48), (30, aU (IntKind.wrap .u64 (y59 + 1)))] (by kernel_rfl) ?_)))
       exact ⟨_, _, tidyL [(0, .ptr 0 0), (2, .ptr 1 0), (29, aU x48), (30, aU (IntKind.wrap .u64 (y59 + 1)))] [.box [aB x63, .pv (encSl (rI .u8) x64), aI x65] false, .box ([aI (IntKind.wrap .i64 x4), aI (IntKind.wrap .i64 x9), aI (IntKind.wrap .i64 x14), .pv .nils, aR 2 4 (([(api_Value.mk x66 x67 x68 x69)] : List api_Value).length)] ++ (aA .u8 64 (fun _ => 0))) false, bR 64 4 R_api_Value ([(api_Value.mk x66 x67 x68 x69)] : List api_Value) 0 0] (by kernel_rfl), .inr (⟨x63, x64, x65, ([(api_Value.mk x66 x67 x68 x69)] : List api_Value), (IntKind.wrap .u64 (y59 + 1)), hm, rfl, rfl⟩)⟩
     ·
      refine cf h61 (by kernel_rfl) (wp_exit ?_)
      exact .inl ⟨y55, y56, y57, aU x48, aU y59, aB (decide (y59 < x48)), hm, (mk_same (by kernel_rfl)), rfl⟩
    ·
     simp only [stat_take_l8] at hm
     refine sq (detn [(0, .ptr 0 0), (2, .ptr 1 0), (29, aU x48), (30, aU y59), (31, aB (decide (y59 < x48)))] (by kernel_rfl) ?_)
     refine sq ?_
     rcases bif_some hm with ⟨h73, hm⟩ | ⟨h73, hm⟩
     ·
      refine ct h73 (by kernel_rfl) (wp_skip (sq (bq (sq (rg (sh 1 [(33, .ptr 0 0)] (by kernel_rfl) ?_))))))
      obtain ⟨⟨x75, x76, x77, x78, x79, x80, x81, x82⟩, h74, hm⟩ := bs hm
      obtain ⟨vv, H1, hC, rfl, rfl⟩ := ok_value_Take h74
      refine dR [(34, .tup [.agg [aI x78, aI x79, aF x80, aS x81], aI x82])] [.box [aB x75, .pv (encSl (rI .u8) x76), aI x77] false, .box ([aI (IntKind.wrap .i64 x4), aI (IntKind.wrap .i64 x9), aI (IntKind.wrap .i64 x14), .pv .nils, aR 2 4 y58.length] ++ (aA .u8 64 (fun _ => 0))) false, bR 64 4 R_api_Value y58 0 0] [0] [.ptr 0 0] (by kernel_rfl) (by kernel_rfl) (by kernel_rfl) hC (by kernel_rfl) (st 6 [(5, aI x82), (4, .ptr 3 0), (36, aI x82), (35, .agg [aI x78, aI x79, aF x80, aS x81]), (32, .tup [.agg [aI x78, aI x79, aF x80, aS x81], aI x82])] [.box [aB x75, .pv (encSl (rI .u8) x76), aI x77] false, .box ([aI (IntKind.wrap .i64 x4), aI (IntKind.wrap .i64 x9), aI (IntKind.wrap .i64 x14), .pv .nils, aR 2 4 y58.length] ++ (aA .u8 64 (fun _ => 0))) false, bR 64 4 R_api_Value y58 0 0, .box [aI x78, aI x79, aF x80, aS x81] false] (by kernel_rfl) (fin [(0, .ptr 0 0), (2, .ptr 1 0), (4, .ptr 3 0), (5, aI x82), (29, aU x48), (30, aU y59)] rfl (by kernel_rfl) ?_))
      refine sq (sq (detn [(0, .ptr 0 0), (2, .ptr 1 0), (4, .ptr 3 0), (5, aI x82), (29, aU x48), (30, aU y59), (38, aB (x82 != 0))] (by kernel_rfl) ?_))
      rcases bif_some hm with ⟨h83, hm⟩ | ⟨h83, hm⟩
      ·
       refine ct h83 (by kernel_rfl) (sq (det [(2, .ptr 1 0), (3, aI x82)] [.box [aB x75, .pv (encSl (rI .u8) x76), aI x77] false, .box ([aI 0, aI 0, aI 0, .pv .nils, .pv .nils] ++ (aA .u8 64 (fun _ => 0))) false, bR 64 4 R_api_Value y58 0 0, .box [aI x78, aI x79, aF x80, aS x81] false] (by kernel_rfl) (wp_ret ?_)))
       obtain rfl := Option.some.inj hm
       exact ⟨trivial, .tup [.agg ([aI 0, aI 0, aI 0, .pv .nils, .pv .nils] ++ (aA .u8 64 (fun _ => 0))), aI x82], [.box [aB x75, .pv (encSl (rI .u8) x76), aI x77] false], by kernel_rfl, rfl, rfl⟩
      ·
       refine cf h83 (by kernel_rfl) (wp_skip (rg (st 4 [(44, aR 4 4 1), (43, .agg [aI x78, aI x79, aF x80, aS x81]), (42, aR 2 4 y58.length), (41, .ptr 1 4)] [.box [aB x75, .pv (encSl (rI .u8) x76), aI x77] false, .box ([aI (IntKind.wrap .i64 x4), aI (IntKind.wrap .i64 x9), aI (IntKind.wrap .i64 x14), .pv .nils, aR 2 4 y58.length] ++ (aA .u8 64 (fun _ => 0))) false, bR 64 4 R_api_Value y58 0 0, .box [aI x78, aI x79, aF x80, aS x81] false, bR 64 4 R_api_Value ([(api_Value.mk x78 x79 x80 x81)] : List api_Value) 0 0] (by kernel_rfl) ?_)))
       obtain ⟨_, h84, hm⟩ := bs hm
       refine dO [(45, aR 2 4 ((y58 ++ ([(api_Value.mk x78 x79 x80 x81)] : List api_Value)).length))] [.box [aB x75, .pv (encSl (rI .u8) x76), aI x77] false, .box ([aI (IntKind.wrap .i64 x4), aI (IntKind.wrap .i64 x9), aI (IntKind.wrap .i64 x14), .pv .nils, aR 2 4 y58.length] ++ (aA .u8 64 (fun _ => 0))) false, bR 64 4 R_api_Value (y58 ++ ([(api_Value.mk x78 x79 x80 x81)] : List api_Value)) 0 0, .box [aI x78, aI x79, aF x80, aS x81] false, bR 64 4 R_api_Value ([(api_Value.mk x78 x79 x80 x81)] : List api_Value) 0 0] (app_refO (u := 0) (n := y58.length) (id := 2) R_api_Value y58 ([(api_Value.mk x78 x79 x80 x81)] : List api_Value) (b := 40) t52 t64 rfl rfl rfl (fun _ => rfl) rfl h84 rfl rfl (Nat.zero_le _) (show srcRows (aR 4 4 1) _ = some (([(api_Value.mk x78 x79 x80 x81)] : List api_Value).map R_api_Value) from by kernel_rfl) (by kernel_rfl)) (by kernel_rfl) (st 2 [(46, .ptr 1 4)] [.box [aB x75, .pv (encSl (rI .u8) x76), aI x77] false, .box ([aI (IntKind.wrap .i64 x4), aI (IntKind.wrap .i64 x9), aI (IntKind.wrap .i64 x14), .pv .nils, aR 2 4 ((y58 ++ ([(api_Value.mk x78 x79 x80 x81)] : List api_Value)).length)] ++ (aA .u8 64 (fun _ => 0))) false, bR 64 4 R_api_Value (y58 ++ ([(api_Value.mk x78 x79 x80 x81)] : List api_Value)) 0 0, .box [aI x78, aI x79, aF x80, aS x81] false, bR 64 4 R_api_Value ([(api_Value.mk x78 x79 x80 x81)] : List api_Value) 0 0] (by kernel_rfl) (fin [(0, .ptr 0 0), (2, .ptr 1 0), (29, aU x48), (30, aU y59)] rfl (by kernel_rfl) (detn [(0, .ptr 0 0), (2, .ptr 1 0), (29, aU x48), (30, aU (IntKind.wrap .u64 (y59 + 1)))] (by kernel_rfl) ?_)))
       exact ⟨_, _, tidyL [(0, .ptr 0 0), (2, .ptr 1 0), (29, aU x48), (30, aU (IntKind.wrap .u64 (y59 + 1)))] [.box [aB x75, .pv (encSl (rI .u8) x76), aI x77] false, .box ([aI (IntKind.wrap .i64 x4), aI (IntKind.wrap .i64 x9), aI (IntKind.wrap .i64 x14), .pv .nils, aR 2 4 ((y58 ++ ([(api_Value.mk x78 x79 x80 x81)] : List api_Value)).length)] ++ (aA .u8 64 (fun _ => 0))) false, bR 64 4 R_api_Value (y58 ++ ([(api_Value.mk x78 x79 x80 x81)] : List api_Value)) 0 0] (by kernel_rfl), .inr (⟨x75, x76, x77, (y58 ++ ([(api_Value.mk x78 x79 x80 x81)] : List api_Value)), (IntKind.wrap .u64 (y59 + 1)), hm, rfl, rfl⟩)⟩
     ·
      refine cf h73 (by kernel_rfl) (wp_exit ?_)
      exact .inr (⟨y55, y56, y57, y58, aU x48, aU y59, aB (decide (y59 < x48)), hm, (mk_same (by kernel_rfl)), rfl⟩)
   ·
    subst hk21
    obtain ⟨k92, hk92, hm⟩ := withK_some hm
    refine mid (fun t H => (∃ (y88 : Bool) (y89 : (Option (List Int))) (y90 : Int) (w85 : AV) (w86 : AV) (w87 : AV), k92 y88 y89 y90 none = some r ∧ t = mk 59 [(0, .ptr 0 0), (2, .ptr 1 0), (29, w85), (30, w86), (31, w87)] ∧ H = [.box [aB y88, .pv (encSl (rI .u8) y89), aI y90] false, .box ([aI (IntKind.wrap .i64 x4), aI (IntKind.wrap .i64 x9), aI (IntKind.wrap .i64 x14), aR 2 10 y20.length, .pv .nils] ++ (aA .u8 64 (fun _ => 0))) false, bR 77 10 R_hist_Bucket y20 0 0]) ∨ (∃ (y88 : Bool) (y89 : (Option (List Int))) (y90 : Int) (y91 : (List api_Value)) (w85 : AV) (w86 : AV) (w87 : AV), k92 y88 y89 y90 (some y91) = some r ∧ t = mk 59 [(0, .ptr 0 0), (2, .ptr 1 0), (29, w85), (30, w86), (31, w87)] ∧ H = [.box [aB y88, .pv (encSl (rI .u8) y89), aI y90] false, .box ([aI (IntKind.wrap .i64 x4), aI (IntKind.wrap .i64 x9), aI (IntKind.wrap .i64 x14), aR 2 10 y20.length, aR 3 4 y91.length] ++ (aA .u8 64 (fun _ => 0))) false, bR 77 10 R_hist_Bucket y20 0 0, bR 64 4 R_api_Value y91 0 0])) ?_ ?_
    ·
     rintro _ _ (⟨y88, y89, y90, w85, w86, w87, hm, rfl, rfl⟩ | ⟨y88, y89, y90, y91, w85, w86, w87, hm, rfl, rfl⟩)
     ·
      subst hk92
      refine sq (sq (rg (sh 1 [(49, .ptr 0 0)] (by kernel_rfl) ?_)))
      obtain ⟨⟨x94, x95, x96, x97, x98⟩, h93, hm⟩ := bs hm
      obtain ⟨vv, H1, hC, rfl, rfl⟩ := ok_hll_Take h93
      refine dR [(50, .tup [.agg (aA .u8 64 x97), aI x98])] [.box [aB x94, .pv (encSl (rI .u8) x95), aI x96] false, .box ([aI (IntKind.wrap .i64 x4), aI (IntKind.wrap .i64 x9), aI (IntKind.wrap .i64 x14), aR 2 10 y20.length, .pv .nils] ++ (aA .u8 64 (fun _ => 0))) false, bR 77 10 R_hist_Bucket y20 0 0] [0] [.ptr 0 0] (by kernel_rfl) (by kernel_rfl) (by kernel_rfl) hC (by kernel_rfl) (st 6 [(3, aI x98), (53, .ptr 1 5), (52, aI x98), (51, .agg (aA .u8 64 x97)), (48, .tup [.agg (aA .u8 64 x97), aI x98])] [.box [aB x94, .pv (encSl (rI .u8) x95), aI x96] false, .box ([aI (IntKind.wrap .i64 x4), aI (IntKind.wrap .i64 x9), aI (IntKind.wrap .i64 x14), aR 2 10 y20.length, .pv .nils] ++ (aA .u8 64 x97)) false, bR 77 10 R_hist_Bucket y20 0 0] (by kernel_rfl) (fin [(2, .ptr 1 0), (3, aI x98)] rfl (by kernel_rfl) (sq (detn [(2, .ptr 1 0), (3, aI x98), (55, aB (x98 != 0))] (by kernel_rfl) ?_))))
      rcases bif_some hm with ⟨h99, hm⟩ | ⟨h99, hm⟩
      ·
       refine ct h99 (by kernel_rfl) (sq (det [(2, .ptr 1 0), (3, aI x98)] [.box [aB x94, .pv (encSl (rI .u8) x95), aI x96] false, .box ([aI 0, aI 0, aI 0, .pv .nils, .pv .nils] ++ (aA .u8 64 (fun _ => 0))) false, bR 77 10 R_hist_Bucket y20 0 0] (by kernel_rfl) (wp_ret ?_)))
       obtain rfl := Option.some.inj hm
       exact ⟨trivial, .tup [.agg ([aI 0, aI 0, aI 0, .pv .nils, .pv .nils] ++ (aA .u8 64 (fun _ => 0))), aI x98], [.box [aB x94, .pv (encSl (rI .u8) x95), aI x96] false], by kernel_rfl, rfl, rfl⟩
      ·
       refine cf h99 (by kernel_rfl) (wp_skip (sq (detn [(2, .ptr 1 0), (3, aI 0)] (by kernel_rfl) (wp_ret ?_))))
       obtain rfl := Option.some.inj hm
       exact ⟨trivial, .tup [.agg ([aI (IntKind.wrap .i64 x4), aI (IntKind.wrap .i64 x9), aI (IntKind.wrap .i64 x14), aR 1 10 y20.length, .pv .nils] ++ (aA .u8 64 x97)), aI 0], [.box [aB x94, .pv (encSl (rI .u8) x95), aI x96] false, bR 77 10 R_hist_Bucket y20 0 0], by kernel_rfl, rfl, rfl⟩
     ·
      subst hk92
      refine sq (sq (rg (sh 1 [(49, .ptr 0 0)] (by kernel_rfl) ?_)))
      obtain ⟨⟨x101, x102, x103, x104, x105⟩, h100, hm⟩ := bs hm
      obtain ⟨vv, H1, hC, rfl, rfl⟩ := ok_hll_Take h100
      refine dR [(50, .tup [.agg (aA .u8 64 x104), aI x105])] [.box [aB x101, .pv (encSl (rI .u8) x102), aI x103] false, .box ([aI (IntKind.wrap .i64 x4), aI (IntKind.wrap .i64 x9), aI (IntKind.wrap .i64 x14), aR 2 10 y20.length, aR 3 4 y91.length] ++ (aA .u8 64 (fun _ => 0))) false, bR 77 10 R_hist_Bucket y20 0 0, bR 64 4 R_api_Value y91 0 0] [0] [.ptr 0 0] (by kernel_rfl) (by kernel_rfl) (by kernel_rfl) hC (by kernel_rfl) (st 6 [(3, aI x105), (53, .ptr 1 5), (52, aI x105), (51, .agg (aA .u8 64 x104)), (48, .tup [.agg (aA .u8 64 x104), aI x105])] [.box [aB x101, .pv (encSl (rI .u8) x102), aI x103] false, .box ([aI (IntKind.wrap .i64 x4), aI (IntKind.wrap .i64 x9), aI (IntKind.wrap .i64 x14), aR 2 10 y20.length, aR 3 4 y91.length] ++ (aA .u8 64 x104)) false, bR 77 10 R_hist_Bucket y20 0 0, bR 64 4 R_api_Value y91 0 0] (by kernel_rfl) (fin [(2, .ptr 1 0), (3, aI x105)] rfl (by kernel_rfl) (sq (detn [(2, .ptr 1 0), (3, aI x105), (55, aB (x105 != 0))] (by kernel_rfl) ?_))))
      rcases bif_some hm with ⟨h106, hm⟩ | ⟨h106, hm⟩
      ·
       refine ct h106 (by kernel_rfl) (sq (det [(2, .ptr 1 0), (3, aI x105)] [.box [aB x101, .pv (encSl (rI .u8) x102), aI x103] false, .box ([aI 0, aI 0, aI 0, .pv .nils, .pv .nils] ++ (aA .u8 64 (fun _ => 0))) false, bR 77 10 R_hist_Bucket y20 0 0, bR 64 4 R_api_Value y91 0 0] (by kernel_rfl) (wp_ret ?_)))
       obtain rfl := Option.some.inj hm
       exact ⟨trivial, .tup [.agg ([aI 0, aI 0, aI 0, .pv .nils, .pv .nils] ++ (aA .u8 64 (fun _ => 0))), aI x105], [.box [aB x101, .pv (encSl (rI .u8) x102), aI x103] false], by kernel_rfl, rfl, rfl⟩
      ·
       refine cf h106 (by kernel_rfl) (wp_skip (sq (detn [(2, .ptr 1 0), (3, aI 0)] (by kernel_rfl) (wp_ret ?_))))
       obtain rfl := Option.some.inj hm
       exact ⟨trivial, .tup [.agg ([aI (IntKind.wrap .i64 x4), aI (IntKind.wrap .i64 x9), aI (IntKind.wrap .i64 x14), aR 1 10 y20.length, aR 2 4 y91.length] ++ (aA .u8 64 x104)), aI 0], [.box [aB x101, .pv (encSl (rI .u8) x102), aI x103] false, bR 77 10 R_hist_Bucket y20 0 0, bR 64 4 R_api_Value y91 0 0], by kernel_rfl, rfl, rfl⟩
    refine sq (rg (sh 1 [(28, .ptr 0 0)] (by kernel_rfl) ?_))
    obtain ⟨⟨x108, x109, x110, x111⟩, h107, hm⟩ := bs hm
    obtain ⟨vv, H1, hC, rfl, rfl⟩ := ok_codec_Reader_Uint h107
    refine dR [(29, aU x111)] [.box [aB x108, .pv (encSl (rI .u8) x109), aI x110] false, .box ([aI (IntKind.wrap .i64 x4), aI (IntKind.wrap .i64 x9), aI (IntKind.wrap .i64 x14), aR 2 10 y20.length, .pv .nils] ++ (aA .u8 64 (fun _ => 0))) false, bR 77 10 R_hist_Bucket y20 0 0] [0] [.ptr 0 0, aU 60] (by kernel_rfl) (by kernel_rfl) (by kernel_rfl) hC (by kernel_rfl) (sh 1 [(30, aU 0)] (by kernel_rfl) (fin [(0, .ptr 0 0), (2, .ptr 1 0), (29, aU x111), (30, aU 0)] rfl (by kernel_rfl) (bq ?_)))
    refine loopF (fun mm t H => (∃ (y118 : Bool) (y119 : (Option (List Int))) (y120 : Int) (y122 : Int), stat_take_l8x n k92 x111 mm y118 y119 y120 none y122 = some r ∧ t = mk 59 [(0, .ptr 0 0), (2, .ptr 1 0), (29, aU x111), (30, aU y122)] ∧ H = [.box [aB y118, .pv (encSl (rI .u8) y119), aI y120] false, .box ([aI (IntKind.wrap .i64 x4), aI (IntKind.wrap .i64 x9), aI (IntKind.wrap .i64 x14), aR 2 10 y20.length, .pv .nils] ++ (aA .u8 64 (fun _ => 0))) false, bR 77 10 R_hist_Bucket y20 0 0]) ∨ (∃ (y118 : Bool) (y119 : (Option (List Int))) (y120 : Int) (y121 : (List api_Value)) (y122 : Int), stat_take_l8x n k92 x111 mm y118 y119 y120 (some y121) y122 = some r ∧ t = mk 59 [(0, .ptr 0 0), (2, .ptr 1 0), (29, aU x111), (30, aU y122)] ∧ H = [.box [aB y118, .pv (encSl (rI .u8) y119), aI y120] false, .box ([aI (IntKind.wrap .i64 x4), aI (IntKind.wrap .i64 x9), aI (IntKind.wrap .i64 x14), aR 2 10 y20.length, aR 3 4 y121.length] ++ (aA .u8 64 (fun _ => 0))) false, bR 77 10 R_hist_Bucket y20 0 0, bR 64 4 R_api_Value y121 0 0])) (.inl ⟨x108, x109, x110, 0, hm, rfl, rfl⟩) ?_ ?_
    · rintro _ _ (⟨y118, y119, y120, y122, hm, _⟩ | ⟨y118, y119, y120, y121, y122, hm, _⟩) <;> exact nomatch hm
    rintro m123 _ _ (⟨y118, y119, y120, y122, hm, rfl, rfl⟩ | ⟨y118, y119, y120, y121, y122, hm, rfl, rfl⟩)
    ·
     simp only [stat_take_l8x] at hm
     refine sq (detn [(0, .ptr 0 0), (2, .ptr 1 0), (29, aU x111), (30, aU y122), (31, aB (decide (y122 < x111)))] (by kernel_rfl) ?_)
     refine sq ?_
     rcases bif_some hm with ⟨h124, hm⟩ | ⟨h124, hm⟩
     ·
      refine ct h124 (by kernel_rfl) (wp_skip (sq (bq (sq (rg (sh 1 [(33, .ptr 0 0)] (by kernel_rfl) ?_))))))
      obtain ⟨⟨x126, x127, x128, x129, x130, x131, x132, x133⟩, h125, hm⟩ := bs hm
      obtain ⟨vv, H1, hC, rfl, rfl⟩ := ok_value_Take h125
      refine dR [(34, .tup [.agg [aI x129, aI x130, aF x131, aS x132], aI x133])] [.box [aB x126, .pv (encSl (rI .u8) x127), aI x128] false, .box ([aI (IntKind.wrap .i64 x4), aI (IntKind.wrap .i64 x9), aI (IntKind.wrap .i64 x14), aR 2 10 y20.length, .pv .nils] ++ (aA .u8 64 (fun _ => 0))) false, bR 77 10 R_hist_Bucket y20 0 0] [0] [.ptr 0 0] (by kernel_rfl) (by kernel_rfl) (by kernel_rfl) hC (by kernel_rfl) (st 6 [(5, aI x133), (4, .ptr 3 0), (36, aI x133), (35, .agg [aI x129, aI x130, aF x131, aS x132]), (32, .tup [.agg [aI x129, aI x130, aF x131, aS x132], aI x133])] [.box [aB x126, .pv (encSl (rI .u8) x127), aI x128] false, .box ([aI (IntKind.wrap .i64 x4), aI (IntKind.wrap .i64 x9), aI (IntKind.wrap .i64 x14), aR 2 10 y20.length, .pv .nils] ++ (aA .u8 64 (fun _ => 0))) false, bR 77 10 R_hist_Bucket y20 0 0, .box [aI x129, aI x130, aF x131, aS x132] false] (by kernel_rfl) (fin [(0, .ptr 0 0), (2, .ptr 1 0), (4, .ptr 3 0), (5, aI x133), (29, aU x111), (30, aU y122)] rfl (by kernel_rfl) ?_))
      refine sq (sq (detn [(0, .ptr 0 0), (2, .ptr 1 0), (4, .ptr 3 0), (5, aI x133), (29, aU x111), (30, aU y122), (38, aB (x133 != 0))] (by kernel_rfl) ?_))
      rcases bif_some hm with ⟨h134, hm⟩ | ⟨h134, hm⟩
      ·
       refine ct h134 (by kernel_rfl) (sq (det [(2, .ptr 1 0), (3, aI x133)] [.box [aB x126, .pv (encSl (rI .u8) x127), aI x128] false, .box ([aI 0, aI 0, aI 0, .pv .nils, .pv .nils] ++ (aA .u8 64 (fun _ => 0))) false, bR 77 10 R_hist_Bucket y20 0 0, .box [aI x129, aI x130, aF x131, aS x132] false] (by kernel_rfl) (wp_ret ?_)))
       obtain rfl := Option.some.inj hm
       exact ⟨trivial, .tup [.agg ([aI 0, aI 0, aI 0, .pv .nils, .pv .nils] ++ (aA .u8 64 (fun _ => 0))), aI x133], [.box [aB x126, .pv (encSl (rI .u8) x127), aI x128] false], by kernel_rfl, rfl, rfl⟩
      ·
       refine cf h134 (by kernel_rfl) (wp_skip (rg (st 4 [(44, aR 4 4 1), (43, .agg [aI x129, aI x130, aF x131, aS x132]), (42, .pv .nils), (41, .ptr 1 4)] [.box [aB x126, .pv (encSl (rI .u8) x127), aI x128] false, .box ([aI (IntKind.wrap .i64 x4), aI (IntKind.wrap .i64 x9), aI (IntKind.wrap .i64 x14), aR 2 10 y20.length, .pv .nils] ++ (aA .u8 64 (fun _ => 0))) false, bR 77 10 R_hist_Bucket y20 0 0, .box [aI x129, aI x130, aF x131, aS x132] false, bR 64 4 R_api_Value ([(api_Value.mk x129 x130 x131 x132)] : List api_Value) 0 0] (by kernel_rfl) ?_)))
       obtain ⟨_, h135, hm⟩ := bs hm
       refine dO [(45, aR 5 4 (([(api_Value.mk x129 x130 x131 x132)] : List api_Value).length))] [.box [aB x126, .pv (encSl (rI .u8) x127), aI x128] false, .box ([aI (IntKind.wrap .i64 x4), aI (IntKind.wrap .i64 x9), aI (IntKind.wrap .i64 x14), aR 2 10 y20.length, .pv .nils] ++ (aA .u8 64 (fun _ => 0))) false, bR 77 10 R_hist_Bucket y20 0 0, .box [aI x129, aI x130, aF x131, aS x132] false, bR 64 4 R_api_Value ([(api_Value.mk x129 x130 x131 x132)] : List api_Value) 0 0, bR 64 4 R_api_Value ([(api_Value.mk x129 x130 x131 x132)] : List api_Value) 0 0] (app_nilO (u := 0) R_api_Value ([(api_Value.mk x129 x130 x131 x132)] : List api_Value) (b := 40) t52 t64 rfl rfl rfl (fun _ => rfl) rfl h135 (show srcRows (aR 4 4 1) _ = some (([(api_Value.mk x129 x130 x131 x132)] : List api_Value).map R_api_Value) from by kernel_rfl) (by kernel_rfl)) (by kernel_rfl) (st 2 [(46, .ptr 1 4)] [.box [aB x126, .pv (encSl (rI .u8) x127), aI x128] false, .box ([aI (IntKind.wrap .i64 x4), aI (IntKind.wrap .i64 x9), aI (IntKind.wrap .i64 x14), aR 2 10 y20.length, aR 5 4 (([(api_Value.mk x129 x130 x131 x132)] : List api_Value).length)] ++ (aA .u8 64 (fun _ => 0))) false, bR 77 10 R_hist_Bucket y20 0 0, .box [aI x129, aI x130, aF x131, aS x132] false, bR 64 4 R_api_Value ([(api_Value.mk x129 x130 x131 x132)] : List api_Value) 0 0, bR 64 4 R_api_Value ([(api_Value.mk x129 x130 x131 x132)] : List api_Value) 0 0] (by kernel_rfl) (fin [(0, .ptr 0 0), (2, .ptr 1 0), (29, aU x111), (30, aU y122)] rfl (by kernel_rfl) (detn [(0, .ptr 0 0), (2, .ptr 1 0), (29, aU x111), (30, aU (IntKind.wrap .u64 (y122 + 1)))] (by kernel_rfl) ?_)))
       exact ⟨_, _, tidyL [(0, .ptr 0 0), (2, .ptr 1 0), (29, aU x111), (30, aU (IntKind.wrap .u64 (y122 + 1)))] [.box [aB x126, .pv (encSl (rI .u8) x127), aI x128] false, .box ([aI (IntKind.wrap .i64 x4), aI (IntKind.wrap .i64 x9), aI (IntKind.wrap .i64 x14), aR 2 10 y20.length, aR 3 4 (([(api_Value.mk x129 x130 x131 x132)] : List api_Value).length)] ++ (aA .u8 64 (fun _ => 0))) false, bR 77 10 R_hist_Bucket y20 0 0, bR 64 4 R_api_Value ([(api_Value.mk x129 x130 x131 x132)] : List api_Value) 0 0] (by kernel_rfl), .inr (⟨x126, x127, x128, ([(api_Value.mk x129 x130 x131 x132)] : List api_Value), (IntKind.wrap .u64 (y122 + 1)), hm, rfl, rfl⟩)⟩
     ·
      refine cf h124 (by kernel_rfl) (wp_exit ?_)
      exact .inl ⟨y118, y119, y120, aU x111, aU y122, aB (decide (y122 < x111)), hm, (mk_same (by kernel_rfl)), rfl⟩
    ·
     simp only [stat_take_l8x] at hm
     refine sq (detn [(0, .ptr 0 0), (2, .ptr 1 0), (29, aU x111), (30, aU y122), (31, aB (decide (y122 < x111)))] (by kernel_rfl) ?_)
     refine sq ?_
     rcases bif_some hm with ⟨h136, hm⟩ | ⟨h136, hm⟩
     ·
      refine ct h136 (by kernel_rfl) (wp_skip (sq (bq (sq (rg (sh 1 [(33, .ptr 0 0)] (by kernel_rfl) ?_))))))
      obtain ⟨⟨x138, x139, x140, x141, x142, x143, x144, x145⟩, h137, hm⟩ := bs hm
      obtain ⟨vv, H1, hC, rfl, rfl⟩ := ok_value_Take h137
      refine dR [(34, .tup [.agg [aI x141, aI x142, aF x143, aS x144], aI x145])] [.box [aB x138, .pv (encSl (rI .u8) x139), aI x140] false, .box ([aI (IntKind.wrap .i64 x4), aI (IntKind.wrap .i64 x9), aI (IntKind.wrap .i64 x14), aR 2 10 y20.length, aR 3 4 y121.length] ++ (aA .u8 64 (fun _ => 0))) false, bR 77 10 R_hist_Bucket y20 0 0, bR 64 4 R_api_Value y121 0 0] [0] [.ptr 0 0] (by kernel_rfl) (by kernel_rfl) (by kernel_rfl) hC (by kernel_rfl) (st 6 [(5, aI x145), (4, .ptr 4 0), (36, aI x145), (35, .agg [aI x141, aI x142, aF x143, aS x144]), (32, .tup [.agg [aI x141, aI x142, aF x143, aS x144], aI x145])] [.box [aB x138, .pv (encSl (rI .u8) x139), aI x140] false, .box ([aI (IntKind.wrap .i64 x4), aI (IntKind.wrap .i64 x9), aI (IntKind.wrap .i64 x14), aR 2 10 y20.length, aR 3 4 y121.length] ++ (aA .u8 64 (fun _ => 0))) false, bR 77 10 R_hist_Bucket y20 0 0, bR 64 4 R_api_Value y121 0 0, .box [aI x141, aI x142, aF x143, aS x144] false] (by kernel_rfl) (fin [(0, .ptr 0 0), (2, .ptr 1 0), (4, .ptr 4 0), (5, aI x145), (29, aU x111), (30, aU y122)] rfl (by kernel_rfl) ?_))
      refine sq (sq (detn [(0, .ptr 0 0), (2, .ptr 1 0), (4, .ptr 4 0), (5, aI x145), (29, aU x111), (30, aU y122), (38, aB (x145 != 0))] (by kernel_rfl) ?_))
      rcases bif_some hm with ⟨h146, hm⟩ | ⟨h146, hm⟩
      ·
       refine ct h146 (by kernel_rfl) (sq (det [(2, .ptr 1 0), (3, aI x145)] [.box [aB x138, .pv (encSl (rI .u8) x139), aI x140] false, .box ([aI 0, aI 0, aI 0, .pv .nils, .pv .nils] ++ (aA .u8 64 (fun _ => 0))) false, bR 77 10 R_hist_Bucket y20 0 0, bR 64 4 R_api_Value y121 0 0, .box [aI x141, aI x142, aF x143, aS x144] false] (by kernel_rfl) (wp_ret ?_)))
       obtain rfl := Option.some.inj hm
       exact ⟨trivial, .tup [.agg ([aI 0, aI 0, aI 0, .pv .nils, .pv .nils] ++ (aA .u8 64 (fun _ => 0))), aI x145], [.box [aB x138, .pv (encSl (rI .u8) x139), aI x140] false], by kernel_rfl, rfl, rfl⟩
      ·
       refine cf h146 (by kernel_rfl) (wp_skip (rg (st 4 [(44, aR 5 4 1), (43, .agg [aI x141, aI x142, aF x143, aS x144]), (42, aR 3 4 y121.length), (41, .ptr 1 4)] [.box [aB x138, .pv (encSl (rI .u8) x139), aI x140] false, .box ([aI (IntKind.wrap .i64 x4), aI (IntKind.wrap .i64 x9), aI (IntKind.wrap .i64 x14), aR 2 10 y20.length, aR 3 4 y121.length] ++ (aA .u8 64 (fun _ => 0))) false, bR 77 10 R_hist_Bucket y20 0 0, bR 64 4 R_api_Value y121 0 0, .box [aI x141, aI x142, aF x143, aS x144] false, bR 64 4 R_api_Value ([(api_Value.mk x141 x142 x143 x144)] : List api_Value) 0 0] (by kernel_rfl) ?_)))
       obtain ⟨_, h147, hm⟩ := bs hm
       refine dO [(45, aR 3 4 ((y121 ++ ([(api_Value.mk x141 x142 x143 x144)] : List api_Value)).length))] [.box [aB x138, .pv (encSl (rI .u8) x139), aI x140] false, .box ([aI (IntKind.wrap .i64 x4), aI (IntKind.wrap .i64 x9), aI (IntKind.wrap .i64 x14), aR 2 10 y20.length, aR 3 4 y121.length] ++ (aA .u8 64 (fun _ => 0))) false, bR 77 10 R_hist_Bucket y20 0 0, bR 64 4 R_api_Value (y121 ++ ([(api_Value.mk x141 x142 x143 x144)] : List api_Value)) 0 0, .box [aI x141, aI x142, aF x143, aS x144] false, bR 64 4 R_api_Value ([(api_Value.mk x141 x142 x143 x144)] : List api_Value) 0 0] (app_refO (u := 0) (n := y121.length) (id := 3) R_api_Value y121 ([(api_Value.mk x141 x142 x143 x144)] : List api_Value) (b := 40) t52 t64 rfl rfl rfl (fun _ => rfl) rfl h147 rfl rfl (Nat.zero_le _) (show srcRows (aR 5 4 1) _ = some (([(api_Value.mk x141 x142 x143 x144)] : List api_Value).map R_api_Value) from by kernel_rfl) (by kernel_rfl)) (by kernel_rfl) (st 2 [(46, .ptr 1 4)] [.box [aB x138, .pv (encSl (rI .u8) x139), aI x140] false, .box ([aI (IntKind.wrap .i64 x4), aI (IntKind.wrap .i64 x9), aI (IntKind.wrap .i64 x14), aR 2 10 y20.length, aR 3 4 ((y121 ++ ([(api_Value.mk x141 x142 x143 x144)] : List api_Value)).length)] ++ (aA .u8 64 (fun _ => 0))) false, bR 77 10 R_hist_Bucket y20 0 0, bR 64 4 R_api_Value (y121 ++ ([(api_Value.mk x141 x142 x143 x144)] : List api_Value)) 0 0, .box [aI x141, aI x142, aF x143, aS x144] false, bR 64 4 R_api_Value ([(api_Value.mk x141 x142 x143 x144)] : List api_Value) 0 0] (by kernel_rfl) (fin [(0, .ptr 0 0), (2, .ptr 1 0), (29, aU x111), (30, aU y122)] rfl (by kernel_rfl) (detn [(0, .ptr 0 0), (2, .ptr 1 0), (29, aU x111), (30, aU (IntKind.wrap .u64 (y122 + 1)))] (by kernel_rfl) ?_)))
       exact ⟨_, _, tidyL [(0, .ptr 0 0), (2, .ptr 1 0), (29, aU x111), (30, aU (IntKind.wrap .u64 (y122 + 1)))] [.box [aB x138, .pv (encSl (rI .u8) x139), aI x140] false, .box ([aI (IntKind.wrap .i64 x4), aI (IntKind.wrap .i64 x9), aI (IntKind.wrap .i64 x14), aR 2 10 y20.length, aR 3 4 ((y121 ++ ([(api_Value.mk x141 x142 x143 x144)] : List api_Value)).length)] ++ (aA .u8 64 (fun _ => 0))) false, bR 77 10 R_hist_Bucket y20 0 0, bR 64 4 R_api_Value (y121 ++ ([(api_Value.mk x141 x142 x143 x144)] : List api_Value)) 0 0] (by kernel_rfl), .inr (⟨x138, x139, x140, (y121 ++ ([(api_Value.mk x141 x142 x143 x144)] : List api_Value)), (IntKind.wrap .u64 (y122 + 1)), hm, rfl, rfl⟩)⟩
     ·
      refine cf h136 (by kernel_rfl) (wp_exit ?_)
      exact .inr (⟨y118, y119, y120, y121, aU x111, aU y122, aB (decide (y122 < x111)), hm, (mk_same (by kernel_rfl)), rfl⟩)
  refine sq (rg (sh 1 [(19, .ptr 0 0)] (by kernel_rfl) ?_))
  obtain ⟨x154, h148, hm⟩ := bs hm
  rcases x154 with ⟨x149, x150, x151, _ | x152, x153⟩
  ·
   obtain ⟨vv, H1, hC, rfl, rfl⟩ := ok_hist_Take h148
   refine dR [(20, .tup [.pv .nils, aI x153])] [.box [aB x149, .pv (encSl (rI .u8) x150), aI x151] false, .box ([aI (IntKind.wrap .i64 x4), aI (IntKind.wrap .i64 x9), aI (IntKind.wrap .i64 x14), .pv .nils, .pv .nils] ++ (aA .u8 64 (fun _ => 0))) false] [0] [.ptr 0 0] (by kernel_rfl) (by kernel_rfl) (by kernel_rfl) hC (by kernel_rfl) (sh 6 [(3, aI x153), (23, .ptr 1 3), (22, aI x153), (21, .pv .nils), (18, .tup [.pv .nils, aI x153])] (by kernel_rfl) (fin [(0, .ptr 0 0), (2, .ptr 1 0), (3, aI x153)] rfl (by kernel_rfl) (sq (detn [(0, .ptr 0 0), (2, .ptr 1 0), (3, aI x153), (25, aB (x153 != 0))] (by kernel_rfl) ?_))))
   rcases bif_some hm with ⟨h155, hm⟩ | ⟨h155, hm⟩
   ·
    refine ct h155 (by kernel_rfl) (sq (det [(2, .ptr 1 0), (3, aI x153)] [.box [aB x149, .pv (encSl (rI .u8) x150), aI x151] false, .box ([aI 0, aI 0, aI 0, .pv .nils, .pv .nils] ++ (aA .u8 64 (fun _ => 0))) false] (by kernel_rfl) (wp_ret ?_)))
    obtain rfl := Option.some.inj hm
    exact ⟨trivial, .tup [.agg ([aI 0, aI 0, aI 0, .pv .nils, .pv .nils] ++ (aA .u8 64 (fun _ => 0))), aI x153], [.box [aB x149, .pv (encSl (rI .u8) x150), aI x151] false], by kernel_rfl, rfl, rfl⟩
   ·
    refine cf h155 (by kernel_rfl) (wp_skip ?_)
    exact .inl ⟨x149, x150, x151, aI x153, aB (x153 != 0), hm, (mk_same (by kernel_rfl)), rfl⟩
  ·
   obtain ⟨vv, H1, hC, rfl, rfl⟩ := ok_hist_Take h148
   refine dR [(20, .tup [aR 2 10 x152.length, aI x153])] [.box [aB x149, .pv (encSl (rI .u8) x150), aI x151] false, .box ([aI (IntKind.wrap .i64 x4), aI (IntKind.wrap .i64 x9), aI (IntKind.wrap .i64 x14), .pv .nils, .pv .nils] ++ (aA .u8 64 (fun _ => 0))) false, bR 77 10 R_hist_Bucket x152 0 0] [0] [.ptr 0 0] (by kernel_rfl) (by kernel_rfl) (by kernel_rfl) hC (by kernel_rfl) (st 6 [(3, aI x153), (23, .ptr 1 3), (22, aI x153), (21, aR 2 10 x152.length), (18, .tup [aR 2 10 x152.length, aI x153])] [.box [aB x149, .pv (encSl (rI .u8) x150), aI x151] false, .box ([aI (IntKind.wrap .i64 x4), aI (IntKind.wrap .i64 x9), aI (IntKind.wrap .i64 x14), aR 2 10 x152.length, .pv .nils] ++ (aA .u8 64 (fun _ => 0))) false, bR 77 10 R_hist_Bucket x152 0 0] (by kernel_rfl) (fin [(0, .ptr 0 0), (2, .ptr 1 0), (3, aI x153)] rfl (by kernel_rfl) (sq (detn [(0, .ptr 0 0), (2, .ptr 1 0), (3, aI x153), (25, aB (x153 != 0))] (by kernel_rfl) ?_))))
   rcases bif_some hm with ⟨h156, hm⟩ | ⟨h156, hm⟩
   ·
    refine ct h156 (by kernel_rfl) (sq (det [(2, .ptr 1 0), (3, aI x153)] [.box [aB x149, .pv (encSl (rI .u8) x150), aI x151] false, .box ([aI 0, aI 0, aI 0, .pv .nils, .pv .nils] ++ (aA .u8 64 (fun _ => 0))) false, bR 77 10 R_hist_Bucket x152 0 0] (by kernel_rfl) (wp_ret ?_)))
    obtain rfl := Option.some.inj hm
    exact ⟨trivial, .tup [.agg ([aI 0, aI 0, aI 0, .pv .nils, .pv .nils] ++ (aA .u8 64 (fun _ => 0))), aI x153], [.box [aB x149, .pv (encSl (rI .u8) x150), aI x151] false], by kernel_rfl, rfl, rfl⟩
   ·
    refine cf h156 (by kernel_rfl) (wp_skip ?_)
    exact .inr (⟨x149, x150, x151, x152, aI x153, aB (x153 != 0), hm, (mk_same (by kernel_rfl)), rfl⟩)
theorem ok_stat_Take {n : Nat} {a0 : codec_Reader} {r : Bool × (Option (List Int)) × Int × Int × (Option (List stat_Col)) × Int} (hm : stat_Take n a0 = some r) :
    ∃ vv H1, call G n 24 [.ptr 0 0] [.box [aB a0.fmade, .pv (encSl (rI .u8) a0.fb), aI a0.fe] false] = some (.ret vv, H1) ∧ (match r with | (r0, r1, r2, r3, none, r4) => (vv = .tup [.agg [aI r3, .pv .nils], aI r4] ∧ H1 = [.box [aB r0, .pv (encSl (rI .u8) r1), aI r2] false]) | (r0, r1, r2, r3, some r5, r4) => (vv = .tup [.agg [aI r3, aR 1 69 r5.length], aI r4] ∧ H1 = [.box [aB r0, .pv (encSl (rI .u8) r1), aI r2] false, bR 91 69 R_stat_Col r5 0 0])) := by
  unfold stat_Take at hm
  obtain ⟨n, rfl, h0⟩ := at1_some hm
  replace hm := h0; clear h0
  refine callE 43 [(0, .ptr 0 0)] func24 rfl (by kernel_rfl) (sq (det [(0, .ptr 0 0), (2, .ptr 1 0)] [.box [aB a0.fmade, .pv (encSl (rI .u8) a0.fb), aI a0.fe] false, .box [aI 0, .pv .nils] false] (by kernel_rfl) (sq (rg (sh 1 [(8, .ptr 0 0)] (by kernel_rfl) ?_)))))
  obtain ⟨⟨x2, x3, x4, x5⟩, h1, hm⟩ := bs hm
  obtain ⟨vv, H1, hC, rfl, rfl⟩ := ok_codec_Reader_Uint h1
  refine dR [(9, aU x5)] [.box [aB x2, .pv (encSl (rI .u8) x3), aI x4] false, .box [aI 0, .pv .nils] false] [0] [.ptr 0 0, aU 1000000] (by kernel_rfl) (by kernel_rfl) (by kernel_rfl) hC (by kernel_rfl) (st 4 [(4, .ptr 2 0), (11, .agg [aI (IntKind.wrap .i64 x5), .pv .nils]), (10, aI (IntKind.wrap .i64 x5))] [.box [aB x2, .pv (encSl (rI .u8) x3), aI x4] false, .box [aI 0, .pv .nils] false, .box [aI (IntKind.wrap .i64 x5), .pv .nils] false] (by kernel_rfl) (fin [(0, .ptr 0 0), (2, .ptr 1 0), (4, .ptr 2 0)] rfl (by kernel_rfl) ?_))
  obtain ⟨k13, hk13, hm⟩ := withK_some hm
  refine mid (fun t H => (∃ (y9 : Bool) (y10 : (Option (List Int))) (y11 : Int) (w6 : AV) (w7 : AV) (w8 : AV), k13 y9 y10 y11 none = some r ∧ t = mk 43 [(0, .ptr 0 0), (2, .ptr 1 0), (4, .ptr 2 0), (13, w6), (14, w7), (15, w8)] ∧ H = [.box [aB y9, .pv (encSl (rI .u8) y10), aI y11] false, .box [aI 0, .pv .nils] false, .box [aI (IntKind.wrap .i64 x5), .pv .nils] false]) ∨ (∃ (y9 : Bool) (y10 : (Option (List Int))) (y11 : Int) (y12 : (List stat_Col)) (w6 : AV) (w7 : AV) (w8 : AV), k13 y9 y10 y11 (some y12) = some r ∧ t = mk 43 [(0, .ptr 0 0), (2, .ptr 1 0), (4, .ptr 2 0), (13, w6), (14, w7), (15, w8)] ∧ H = [.box [aB y9, .pv (encSl (rI .u8) y10), aI y11] false, .box [aI 0, .pv .nils] false, .box [aI (IntKind.wrap .i64 x5), aR 3 69 y12.length] false, bR 91 69 R_stat_Col y12 0 0])) ?_ ?_
  ·
   rintro _ _ (⟨y9, y10, y11, w6, w7, w8, hm, rfl, rfl⟩ | ⟨y9, y10, y11, y12, w6, w7, w8, hm, rfl, rfl⟩)
   ·
    subst hk13
    refine sq (sq (rg (sh 1 [(32, .ptr 0 0)] (by kernel_rfl) ?_)))
    obtain ⟨x15, h14, hm⟩ := bs hm
    obtain ⟨vv, H1, hC, rfl, rfl⟩ := ok_codec_Reader_Err h14
    refine dR [(33, aI x15)] [.box [aB y9, .pv (encSl (rI .u8) y10), aI y11] false, .box [aI 0, .pv .nils] false, .box [aI (IntKind.wrap .i64 x5), .pv .nils] false] [0] [.ptr 0 0] (by kernel_rfl) (by kernel_rfl) (by kernel_rfl) hC (by kernel_rfl) (sh 1 [(7, aI x15)] (by kernel_rfl) (fin [(2, .ptr 1 0), (4, .ptr 2 0), (7, aI x15)] rfl (by kernel_rfl) (sq (detn [(2, .ptr 1 0), (4, .ptr 2 0), (7, aI x15), (35, aB (x15 != 0))] (by kernel_rfl) ?_))))
    rcases bif_some hm with ⟨h16, hm⟩ | ⟨h16, hm⟩
    ·
     refine ct h16 (by kernel_rfl) (sq (detn [(2, .ptr 1 0), (3, aI x15)] (by kernel_rfl) (wp_ret ?_)))
     obtain rfl := Option.some.inj hm
     exact ⟨trivial, .tup [.agg [aI 0, .pv .nils], aI x15], [.box [aB y9, .pv (encSl (rI .u8) y10), aI y11] false], by kernel_rfl, rfl, rfl⟩
    ·
     refine cf h16 (by kernel_rfl) (wp_skip (sq (sq (rg (sh 1 [(38, .agg [aI (IntKind.wrap .i64 x5), .pv .nils])] (by kernel_rfl) ?_)))))
     obtain ⟨x17, h18, hm⟩ := bs hm
     refine dv 39 (cpure (by kernel_rfl) (ok_stat_Right h18) (by kernel_rfl) (by kernel_rfl) (by kernel_rfl)) (by kernel_rfl) (sh 1 [(40, aB (!x17))] (by kernel_rfl) (fin [(2, .ptr 1 0), (4, .ptr 2 0), (40, aB (!x17))] rfl (by kernel_rfl) ?_))
     rcases bif_some hm with ⟨h19, hm⟩ | ⟨h19, hm⟩
     ·
      refine ct h19 (by kernel_rfl) (sq (detn [(2, .ptr 1 0), (3, aI 22)] (by kernel_rfl) (wp_ret ?_)))
      obtain rfl := Option.some.inj hm
      exact ⟨trivial, .tup [.agg [aI 0, .pv .nils], aI 22], [.box [aB y9, .pv (encSl (rI .u8) y10), aI y11] false], by kernel_rfl, rfl, rfl⟩
     ·
      refine cf h19 (by kernel_rfl) (wp_skip (sq (det [(2, .ptr 1 0), (3, aI 0)] [.box [aB y9, .pv (encSl (rI .u8) y10), aI y11] false, .box [aI (IntKind.wrap .i64 x5), .pv .nils] false, .box [aI (IntKind.wrap .i64 x5), .pv .nils] false] (by kernel_rfl) (wp_ret ?_))))
      obtain rfl := Option.some.inj hm
      exact ⟨trivial, .tup [.agg [aI (IntKind.wrap .i64 x5), .pv .nils], aI 0], [.box [aB y9, .pv (encSl (rI .u8) y10), aI y11] false], by kernel_rfl, rfl, rfl⟩
   ·
    subst hk13
    refine sq (sq (rg (sh 1 [(32, .ptr 0 0)] (by kernel_rfl) ?_)))
    obtain ⟨x21, h20, hm⟩ := bs hm
    obtain ⟨vv, H1, hC, rfl, rfl⟩ := ok_codec_Reader_Err h20
    refine dR [(33, aI x21)] [.box [aB y9, .pv (encSl (rI .u8) y10), aI y11] false, .box [aI 0, .pv .nils] false, .box [aI (IntKind.wrap .i64 x5), aR 3 69 y12.length] false, bR 91 69 R_stat_Col y12 0 0] [0] [.ptr 0 0] (by kernel_rfl) (by kernel_rfl) (by kernel_rfl) hC (by kernel_rfl) (sh 1 [(7, aI x21)] (by kernel_rfl) (fin [(2, .ptr 1 0), (4, .ptr 2 0), (7, aI x21)] rfl (by kernel_rfl) (sq (detn [(2, .ptr 1 0), (4, .ptr 2 0), (7, aI x21), (35, aB (x21 != 0))] (by kernel_rfl) ?_))))
    rcases bif_some hm with ⟨h22, hm⟩ | ⟨h22, hm⟩
    ·
     refine ct h22 (by kernel_rfl) (sq (detn [(2, .ptr 1 0), (3, aI x21)] (by kernel_rfl) (wp_ret ?_)))
     obtain rfl := Option.some.inj hm
     exact ⟨trivial, .tup [.agg [aI 0, .pv .nils], aI x21], [.box [aB y9, .pv (encSl (rI .u8) y10), aI y11] false], by kernel_rfl, rfl, rfl⟩
    ·
     refine cf h22 (by kernel_rfl) (wp_skip (sq (sq (rg (sh 1 [(38, .agg [aI (IntKind.wrap .i64 x5), aR 3 69 y12.length])] (by kernel_rfl) ?_)))))
     obtain ⟨x23, h24, hm⟩ := bs hm
     refine dO [(39, aB x23)] [.box [aB y9, .pv (encSl (rI .u8) y10), aI y11] false, .box [aI 0, .pv .nils] false, .box [aI (IntKind.wrap .i64 x5), aR 3 69 y12.length] false, bR 91 69 R_stat_Col y12 0 0] (cpureR [3] [.agg [aI (IntKind.wrap .i64 x5), aR 3 69 y12.length]] (fl := true) (by kernel_rfl) (by kernel_rfl) (pAs_cons (pA_agg (purL_cons (pur_pv) (purL_cons (pur_ref' (n := y12.length) (id := 3) (l := y12) (R := R_stat_Col) rfl rfl (Nat.zero_le _)) (rfl)))) (rfl)) (ok_stat_Right h24) (by kernel_rfl) (by kernel_rfl)) (by kernel_rfl) (sh 1 [(40, aB (!x23))] (by kernel_rfl) (fin [(2, .ptr 1 0), (4, .ptr 2 0), (40, aB (!x23))] rfl (by kernel_rfl) ?_))
     rcases bif_some hm with ⟨h25, hm⟩ | ⟨h25, hm⟩
     ·
      refine ct h25 (by kernel_rfl) (sq (detn [(2, .ptr 1 0), (3, aI 22)] (by kernel_rfl) (wp_ret ?_)))
      obtain rfl := Option.some.inj hm
      exact ⟨trivial, .tup [.agg [aI 0, .pv .nils], aI 22], [.box [aB y9, .pv (encSl (rI .u8) y10), aI y11] false], by kernel_rfl, rfl, rfl⟩
     ·
      refine cf h25 (by kernel_rfl) (wp_skip (sq (det [(2, .ptr 1 0), (3, aI 0)] [.box [aB y9, .pv (encSl (rI .u8) y10), aI y11] false, .box [aI (IntKind.wrap .i64 x5), aR 3 69 y12.length] false, .box [aI (IntKind.wrap .i64 x5), aR 3 69 y12.length] false, bR 91 69 R_stat_Col y12 0 0] (by kernel_rfl) (wp_ret ?_))))
      obtain rfl := Option.some.inj hm
      exact ⟨trivial, .tup [.agg [aI (IntKind.wrap .i64 x5), aR 1 69 y12.length], aI 0], [.box [aB y9, .pv (encSl (rI .u8) y10), aI y11] false, bR 91 69 R_stat_Col y12 0 0], by kernel_rfl, rfl, rfl⟩
  refine sq (rg (sh 1 [(12, .ptr 0 0)] (by kernel_rfl) ?_))
  obtain ⟨⟨x27, x28, x29, x30⟩, h26, hm⟩ := bs hm
  obtain ⟨vv, H1, hC, rfl, rfl⟩ := ok_codec_Reader_Uint h26
  refine dR [(13, aU x30)] [.box [aB x27, .pv (encSl (rI .u8) x28), aI x29] false, .box [aI 0, .pv .nils] false, .box [aI (IntKind.wrap .i64 x5), .pv .nils] false] [0] [.ptr 0 0, aU 8] (by kernel_rfl) (by kernel_rfl) (by kernel_rfl) hC (by kernel_rfl) (sh 1 [(14, aU 0)] (by kernel_rfl) (fin [(0, .ptr 0 0), (2, .ptr 1 0), (4, .ptr 2 0), (13, aU x30), (14, aU 0)] rfl (by kernel_rfl) (bq ?_)))
  refine loopF (fun mm t H => (∃ (y37 : Bool) (y38 : (Option (List Int))) (y39 : Int) (y41 : Int), stat_Take_l3 n k13 x30 mm y37 y38 y39 none y41 = some r ∧ t = mk 43 [(0, .ptr 0 0), (2, .ptr 1 0), (4, .ptr 2 0), (13, aU x30), (14, aU y41)] ∧ H = [.box [aB y37, .pv (encSl (rI .u8) y38), aI y39] false, .box [aI 0, .pv .nils] false, .box [aI (IntKind.wrap .i64 x5), .pv .nils] false]) ∨ (∃ (y37 : Bool) (y38 : (Option (List Int))) (y39 : Int) (y40 : (List stat_Col)) (y41 : Int), stat_Take_l3 n k13 x30 mm y37 y38 y39 (some y40) y41 = some r ∧ t = mk 43 [(0, .ptr 0 0), (2, .ptr 1 0), (4, .ptr 2 0), (13, aU x30), (14, aU y41)] ∧ H = [.box [aB y37, .pv (encSl (rI .u8) y38), aI y39] false, .box [aI 0, .pv .nils] false, .box [aI (IntKind.wrap .i64 x5), aR 3 69 y40.length] false, bR 91 69 R_stat_Col y40 0 0])) (.inl ⟨x27, x28, x29, 0, hm, rfl, rfl⟩) ?_ ?_
  · rintro _ _ (⟨y37, y38, y39, y41, hm, _⟩ | ⟨y37, y38, y39, y40, y41, hm, _⟩) <;> exact nomatch hm
  rintro m42 _ _ (⟨y37, y38, y39, y41, hm, rfl, rfl⟩ | ⟨y37, y38, y39, y40, y41, hm, rfl, rfl⟩)
  ·
   simp only [stat_Take_l3] at hm
   refine sq (detn [(0, .ptr 0 0), (2, .ptr 1 0), (4, .ptr 2 0), (13, aU x30), (14, aU y41), (15, aB (decide (y41 < x30)))] (by kernel_rfl) ?_)
   refine sq ?_
   rcases bif_some hm with ⟨h43, hm⟩ | ⟨h43, hm⟩
   ·
    refine ct h43 (by kernel_rfl) (wp_skip (sq (bq ?_)))
    obtain ⟨k54, hk54, hm⟩ := withK_some hm
    refine mid (fun t H => (∃ (y44 : Bool) (y45 : (Option (List Int))) (y46 : Int) (y47 : Int) (y48 : Int) (y49 : Int) (y52 : (Nat → Int)) (y53 : Int), k54 y44 y45 y46 y47 y48 y49 none none y52 y53 = some r ∧ t = mk 43 [(0, .ptr 0 0), (2, .ptr 1 0), (4, .ptr 2 0), (5, .ptr 3 0), (6, aI y53), (13, aU x30), (14, aU y41)] ∧ H = [.box [aB y44, .pv (encSl (rI .u8) y45), aI y46] false, .box [aI 0, .pv .nils] false, .box [aI (IntKind.wrap .i64 x5), .pv .nils] false, .box ([aI y47, aI y48, aI y49, .pv .nils, .pv .nils] ++ (aA .u8 64 y52)) false]) ∨ (∃ (y44 : Bool) (y45 : (Option (List Int))) (y46 : Int) (y47 : Int) (y48 : Int) (y49 : Int) (y51 : (List api_Value)) (y52 : (Nat → Int)) (y53 : Int), k54 y44 y45 y46 y47 y48 y49 none (some y51) y52 y53 = some r ∧ t = mk 43 [(0, .ptr 0 0), (2, .ptr 1 0), (4, .ptr 2 0), (5, .ptr 4 0), (6, aI y53), (13, aU x30), (14, aU y41)] ∧ H = [.box [aB y44, .pv (encSl (rI .u8) y45), aI y46] false, .box [aI 0, .pv .nils] false, .box [aI (IntKind.wrap .i64 x5), .pv .nils] false, bR 64 4 R_api_Value y51 0 0, .box ([aI y47, aI y48, aI y49, .pv .nils, aR 3 4 y51.length] ++ (aA .u8 64 y52)) false]) ∨ (∃ (y44 : Bool) (y45 : (Option (List Int))) (y46 : Int) (y47 : Int) (y48 : Int) (y49 : Int) (y50 : (List hist_Bucket)) (y52 : (Nat → Int)) (y53 : Int), k54 y44 y45 y46 y47 y48 y49 (some y50) none y52 y53 = some r ∧ t = mk 43 [(0, .ptr 0 0), (2, .ptr 1 0), (4, .ptr 2 0), (5, .ptr 4 0), (6, aI y53), (13, aU x30), (14, aU y41)] ∧ H = [.box [aB y44, .pv (encSl (rI .u8) y45), aI y46] false, .box [aI 0, .pv .nils] false, .box [aI (IntKind.wrap .i64 x5), .pv .nils] false, bR 77 10 R_hist_Bucket y50 0 0, .box ([aI y47, aI y48, aI y49, aR 3 10 y50.length, .pv .nils] ++ (aA .u8 64 y52)) false]) ∨ (∃ (y44 : Bool) (y45 : (Option (List Int))) (y46 : Int) (y47 : Int) (y48 : Int) (y49 : Int) (y50 : (List hist_Bucket)) (y51 : (List api_Value)) (y52 : (Nat → Int)) (y53 : Int), k54 y44 y45 y46 y47 y48 y49 (some y50) (some y51) y52 y53 = some r ∧ t = mk 43 [(0, .ptr 0 0), (2, .ptr 1 0), (4, .ptr 2 0), (5, .ptr 5 0), (6, aI y53), (13, aU x30), (14, aU y41)] ∧ H = [.box [aB y44, .pv (encSl (rI .u8) y45), aI y46] false, .box [aI 0, .pv .nils] false, .box [aI (IntKind.wrap .i64 x5), .pv .nils] false, bR 77 10 R_hist_Bucket y50 0 0, bR 64 4 R_api_Value y51 0 0, .box ([aI y47, aI y48, aI y49, aR 3 10 y50.length, aR 4 4 y51.length] ++ (aA .u8 64 y52)) false])) ?_ ?_
    ·
     rintro _ _ (⟨y44, y45, y46, y47, y48, y49, y52, y53, hm, rfl, rfl⟩ | ⟨y44, y45, y46, y47, y48, y49, y51, y52, y53, hm, rfl, rfl⟩ | ⟨y44, y45, y46, y47, y48, y49, y50, y52, y53, hm, rfl, rfl⟩ | ⟨y44, y45, y46, y47, y48, y49, y50, y51, y52, y53, hm, rfl, rfl⟩)
     ·
      subst hk54
      refine sq (sq (detn [(0, .ptr 0 0), (2, .ptr 1 0), (4, .ptr 2 0), (5, .ptr 3 0), (6, aI y53), (13, aU x30), (14, aU y41), (22, aB (y53 != 0))] (by kernel_rfl) ?_))
      rcases bif_some hm with ⟨h55, hm⟩ | ⟨h55, hm⟩
      ·
       refine ct h55 (by kernel_rfl) (sq (detn [(2, .ptr 1 0), (3, aI y53)] (by kernel_rfl) (wp_ret ?_)))
       obtain rfl := Option.some.inj hm
       exact ⟨trivial, .tup [.agg [aI 0, .pv .nils], aI y53], [.box [aB y44, .pv (encSl (rI .u8) y45), aI y46] false], by kernel_rfl, rfl, rfl⟩
      ·
       refine cf h55 (by kernel_rfl) (wp_skip (rg (st 4 [(28, aR 4 69 1), (27, .agg ([aI y47, aI y48, aI y49, .pv .nils, .pv .nils] ++ (aA .u8 64 y52))), (26, .pv .nils), (25, .ptr 2 1)] [.box [aB y44, .pv (encSl (rI .u8) y45), aI y46] false, .box [aI 0, .pv .nils] false, .box [aI (IntKind.wrap .i64 x5), .pv .nils] false, .box ([aI y47, aI y48, aI y49, .pv .nils, .pv .nils] ++ (aA .u8 64 y52)) false, bR 91 69 R_stat_Col ([(stat_Col.mk y47 y48 y49 none none (hll_Sketch.mk y52))] : List stat_Col) 0 0] (by kernel_rfl) ?_)))
       obtain ⟨_, h56, hm⟩ := bs hm
       refine dO [(29, aR 5 69 (([(stat_Col.mk y47 y48 y49 none none (hll_Sketch.mk y52))] : List stat_Col).length))] [.box [aB y44, .pv (encSl (rI .u8) y45), aI y46] false, .box [aI 0, .pv .nils] false, .box [aI (IntKind.wrap .i64 x5), .pv .nils] false, .box ([aI y47, aI y48, aI y49, .pv .nils, .pv .nils] ++ (aA .u8 64 y52)) false, bR 91 69 R_stat_Col ([(stat_Col.mk y47 y48 y49 none none (hll_Sketch.mk y52))] : List stat_Col) 0 0, bR 91 69 R_stat_Col ([(stat_Col.mk y47 y48 y49 none none (hll_Sketch.mk y52))] : List stat_Col) 0 0] (app_nilO (u := 0) R_stat_Col ([(stat_Col.mk y47 y48 y49 none none (hll_Sketch.mk y52))] : List stat_Col) (b := 136) t29 t91 rfl rfl rfl (fun _ => rfl) rfl h56 (show srcRows (aR 4 69 1) _ = some (([(stat_Col.mk y47 y48 y49 none none (hll_Sketch.mk y52))] : List stat_Col).map R_stat_Col) from by kernel_rfl) (by kernel_rfl)) (by kernel_rfl) (st 2 [(30, .ptr 2 1)] [.box [aB y44, .pv (encSl (rI .u8) y45), aI y46] false, .box [aI 0, .pv .nils] false, .box [aI (IntKind.wrap .i64 x5), aR 5 69 (([(stat_Col.mk y47 y48 y49 none none (hll_Sketch.mk y52))] : List stat_Col).length)] false, .box ([aI y47, aI y48, aI y49, .pv .nils, .pv .nils] ++ (aA .u8 64 y52)) false, bR 91 69 R_stat_Col ([(stat_Col.mk y47 y48 y49 none none (hll_Sketch.mk y52))] : List stat_Col) 0 0, bR 91 69 R_stat_Col ([(stat_Col.mk y47 y48 y49 none none (hll_Sketch.mk y52))] : List stat_Col) 0 0] (by kernel_rfl) (fin [(0, .ptr 0 0), (2, .ptr 1 0), (4, .ptr 2 0), (13, aU x30), (14, aU y41)] rfl (by kernel_rfl) (detn [(0, .ptr 0 0), (2, .ptr 1 0), (4, .ptr 2 0), (13, aU x30), (14, aU (IntKind.wrap .u64 (y41 + 1)))] (by kernel_rfl) ?_)))
       exact ⟨_, _, tidyL [(0, .ptr 0 0), (2, .ptr 1 0), (4, .ptr 2 0), (13, aU x30), (14, aU (IntKind.wrap .u64 (y41 + 1)))] [.box [aB y44, .pv (encSl (rI .u8) y45), aI y46] false, .box [aI 0, .pv .nils] false, .box [aI (IntKind.wrap .i64 x5), aR 3 69 (([(stat_Col.mk y47 y48 y49 none none (hll_Sketch.mk y52))] : List stat_Col).length)] false, bR 91 69 R_stat_Col ([(stat_Col.mk y47 y48 y49 none none (hll_Sketch.mk y52))] : List stat_Col) 0 0] (by kernel_rfl), .inr (⟨y44, y45, y46, ([(stat_Col.mk y47 y48 y49 none none (hll_Sketch.mk y52))] : List stat_Col), (IntKind.wrap .u64 (y41 + 1)), hm, rfl, rfl⟩)⟩
     ·
      subst hk54
      refine sq (sq (detn [(0, .ptr 0 0), (2, .ptr 1 0), (4, .ptr 2 0), (5, .ptr 4 0), (6, aI y53), (13, aU x30), (14, aU y41), (22, aB (y53 != 0))] (by kernel_rfl) ?_))
      rcases bif_some hm with ⟨h57, hm⟩ | ⟨h57, hm⟩
      ·
       refine ct h57 (by kernel_rfl) (sq (detn [(2, .ptr 1 0), (3, aI y53)] (by kernel_rfl) (wp_ret ?_)))
       obtain rfl := Option.some.inj hm
       exact ⟨trivial, .tup [.agg [aI 0, .pv .nils], aI y53], [.box [aB y44, .pv (encSl (rI .u8) y45), aI y46] false], by kernel_rfl, rfl, rfl⟩
      ·
       refine cf h57 (by kernel_rfl) (wp_skip (rg (sh 3 [(27, .agg ([aI y47, aI y48, aI y49, .pv .nils, aR 3 4 y51.length] ++ (aA .u8 64 y52))), (26, .pv .nils), (25, .ptr 2 1)] (by kernel_rfl) (dO [(28, aR 5 69 1)] [.box [aB y44, .pv (encSl (rI .u8) y45), aI y46] false, .box [aI 0, .pv .nils] false, .box [aI (IntKind.wrap .i64 x5), .pv .nils] false, bR 64 4 R_api_Value y51 0 (max 0 (y51.map R_api_Value).length), .box ([aI y47, aI y48, aI y49, .pv .nils, aR 3 4 y51.length] ++ (aA .u8 64 y52)) false, bR 91 69 R_stat_Col ([(stat_Col.mk y47 y48 y49 none (some y51) (hll_Sketch.mk y52))] : List stat_Col) 0 0] (led_purO (nid := 0) (t := 29) (len := 1) (is := [0]) (vs := [.agg ([aI y47, aI y48, aI y49, .pv .nils, aR 3 4 y51.length] ++ (aA .u8 64 y52))]) (ps := [.agg ([aI y47, aI y48, aI y49, .pv .nils, .pv (.sl (y51.map R_api_Value))] ++ (aA .u8 64 y52))]) (R := [3]) (e := ⟨aR 5 69 1, [], [bR 91 69 R_stat_Col ([(stat_Col.mk y47 y48 y49 none (some y51) (hll_Sketch.mk y52))] : List stat_Col) 0 0]⟩) (by kernel_rfl) (pAs_cons (pA_agg (purL_cons (pur_pv) (purL_cons (pur_pv) (purL_cons (pur_pv) (purL_cons (pur_pv) (purL_cons (pur_ref' (n := y51.length) (id := 3) (l := y51) (R := R_api_Value) rfl rfl (Nat.zero_le _)) (purL_arr0))))))) (rfl)) (by kernel_rfl) (by kernel_rfl)) (by kernel_rfl) ?_))))
       obtain ⟨_, h58, hm⟩ := bs hm
       refine dO [(29, aR 6 69 (([(stat_Col.mk y47 y48 y49 none (some y51) (hll_Sketch.mk y52))] : List stat_Col).length))] [.box [aB y44, .pv (encSl (rI .u8) y45), aI y46] false, .box [aI 0, .pv .nils] false, .box [aI (IntKind.wrap .i64 x5), .pv .nils] false, bR 64 4 R_api_Value y51 0 (max 0 (y51.map R_api_Value).length), .box ([aI y47, aI y48, aI y49, .pv .nils, aR 3 4 y51.length] ++ (aA .u8 64 y52)) false, bR 91 69 R_stat_Col ([(stat_Col.mk y47 y48 y49 none (some y51) (hll_Sketch.mk y52))] : List stat_Col) 0 0, bR 91 69 R_stat_Col ([(stat_Col.mk y47 y48 y49 none (some y51) (hll_Sketch.mk y52))] : List stat_Col) 0 0] (app_nilO (u := 0) R_stat_Col ([(stat_Col.mk y47 y48 y49 none (some y51) (hll_Sketch.mk y52))] : List stat_Col) (b := 136) t29 t91 rfl rfl rfl (fun _ => rfl) rfl h58 (show srcRows (aR 5 69 1) _ = some (([(stat_Col.mk y47 y48 y49 none (some y51) (hll_Sketch.mk y52))] : List stat_Col).map R_stat_Col) from by kernel_rfl) (by kernel_rfl)) (by kernel_rfl) (st 2 [(30, .ptr 2 1)] [.box [aB y44, .pv (encSl (rI .u8) y45), aI y46] false, .box [aI 0, .pv .nils] false, .box [aI (IntKind.wrap .i64 x5), aR 6 69 (([(stat_Col.mk y47 y48 y49 none (some y51) (hll_Sketch.mk y52))] : List stat_Col).length)] false, bR 64 4 R_api_Value y51 0 (max 0 (y51.map R_api_Value).length), .box ([aI y47, aI y48, aI y49, .pv .nils, aR 3 4 y51.length] ++ (aA .u8 64 y52)) false, bR 91 69 R_stat_Col ([(stat_Col.mk y47 y48 y49 none (some y51) (hll_Sketch.mk y52))] : List stat_Col) 0 0, bR 91 69 R_stat_Col ([(stat_Col.mk y47 y48 y49 none (some y51) (hll_Sketch.mk y52))] : List stat_Col) 0 0] (by kernel_rfl) (fin [(0, .ptr 0 0), (2, .ptr 1 0), (4, .ptr 2 0), (13, aU x30), (14, aU y41)] rfl (by kernel_rfl) (detn [(0, .ptr 0 0), (2, .ptr 1 0), (4, .ptr 2 0), (13, aU x30), (14, aU (IntKind.wrap .u64 (y41 + 1)))] (by kernel_rfl) ?_)))
       exact ⟨_, _, tidyL [(0, .ptr 0 0), (2, .ptr 1 0), (4, .ptr 2 0), (13, aU x30), (14, aU (IntKind.wrap .u64 (y41 + 1)))] [.box [aB y44, .pv (encSl (rI .u8) y45), aI y46] false, .box [aI 0, .pv .nils] false, .box [aI (IntKind.wrap .i64 x5), aR 3 69 (([(stat_Col.mk y47 y48 y49 none (some y51) (hll_Sketch.mk y52))] : List stat_Col).length)] false, bR 91 69 R_stat_Col ([(stat_Col.mk y47 y48 y49 none (some y51) (hll_Sketch.mk y52))] : List stat_Col) 0 0] (by kernel_rfl), .inr (⟨y44, y45, y46, ([(stat_Col.mk y47 y48 y49 none (some y51) (hll_Sketch.mk y52))] : List stat_Col), (IntKind.wrap .u64 (y41 + 1)), hm, rfl, rfl⟩)⟩
     ·
      subst hk54
      refine sq (sq (detn [(0, .ptr 0 0), (2, .ptr 1 0), (4, .ptr 2 0), (5, .ptr 4 0), (6, aI y53), (13, aU x30), (14, aU y41), (22, aB (y53 != 0))] (by kernel_rfl) ?_))
      rcases bif_some hm with ⟨h59, hm⟩ | ⟨h59, hm⟩
      ·
       refine ct h59 (by kernel_rfl) (sq (detn [(2, .ptr 1 0), (3, aI y53)] (by kernel_rfl) (wp_ret ?_)))
       obtain rfl := Option.some.inj hm
       exact ⟨trivial, .tup [.agg [aI 0, .pv .nils], aI y53], [.box [aB y44, .pv (encSl (rI .u8) y45), aI y46] false], by kernel_rfl, rfl, rfl⟩
      ·
       refine cf h59 (by kernel_rfl) (wp_skip (rg (sh 3 [(27, .agg ([aI y47, aI y48, aI y49, aR 3 10 y50.length, .pv .nils] ++ (aA .u8 64 y52))), (26, .pv .nils), (25, .ptr 2 1)] (by kernel_rfl) (dO [(28, aR 5 69 1)] [.box [aB y44, .pv (encSl (rI .u8) y45), aI y46] false, .box [aI 0, .pv .nils] false, .box [aI (IntKind.wrap .i64 x5), .pv .nils] false, bR 77 10 R_hist_Bucket y50 0 (max 0 (y50.map R_hist_Bucket).length), .box ([aI y47, aI y48, aI y49, aR 3 10 y50.length, .pv .nils] ++ (aA .u8 64 y52)) false, bR 91 69 R_stat_Col ([(stat_Col.mk y47 y48 y49 (some y50) none (hll_Sketch.mk y52))] : List stat_Col) 0 0] (led_purO (nid := 0) (t := 29) (len := 1) (is := [0]) (vs := [.agg ([aI y47, aI y48, aI y49, aR 3 10 y50.length, .pv .nils] ++ (aA .u8 64 y52))]) (ps := [.agg ([aI y47, aI y48, aI y49, .pv (.sl (y50.map R_hist_Bucket)), .pv .nils] ++ (aA .u8 64 y52))]) (R := [3]) (e := ⟨aR 5 69 1, [], [bR 91 69 R_stat_Col ([(stat_Col.mk y47 y48 y49 (some y50) none (hll_Sketch.mk y52))] : List stat_Col) 0 0]⟩) (by kernel_rfl) (pAs_cons (pA_agg (purL_cons (pur_pv) (purL_cons (pur_pv) (purL_cons (pur_pv) (purL_cons (pur_ref' (n := y50.length) (id := 3) (l := y50) (R := R_hist_Bucket) rfl rfl (Nat.zero_le _)) (purL_cons (pur_pv) (purL_arr0))))))) (rfl)) (by kernel_rfl) (by kernel_rfl)) (by kernel_rfl) ?_))))
       obtain ⟨_, h60, hm⟩ := bs hm
       refine dO [(29, aR 6 69 (([(stat_Col.mk y47 y48 y49 (some y50) none (hll_Sketch.mk y52))] : List stat_Col).length))] [.box [aB y44, .pv (encSl (rI .u8) y45), aI y46] false, .box [aI 0, .pv .nils] false, .box [aI (IntKind.wrap .i64 x5), .pv .nils] false, bR 77 10 R_hist_Bucket y50 0 (max 0 (y50.map R_hist_Bucket).length), .box ([aI y47, aI y48, aI y49, aR 3 10 y50.length, .pv .nils] ++ (aA .u8 64 y52)) false, bR 91 69 R_stat_Col ([(stat_Col.mk y47 y48 y49 (some y50) none (hll_Sketch.mk y52))] : List stat_Col) 0 0, bR 91 69 R_stat_Col ([(stat_Col.mk y47 y48 y49 (some y50) none (hll_Sketch.mk y52))] : List stat_Col) 0 0] (app_nilO (u := 0) R_stat_Col ([(stat_Col.mk y47 y48 y49 (some y50) none (hll_Sketch.mk y52))] : List stat_Col) (b := 136) t29 t91 rfl rfl rfl (fun _ => rfl) rfl h60 (show srcRows (aR 5 69 1) _ = some (([(stat_Col.mk y47 y48 y49 (some y50) none (hll_Sketch.mk y52))] : List stat_Col).map R_stat_Col) from by kernel_rfl) (by kernel_rfl)) (by kernel_rfl) (st 2 [(30, .ptr 2 1)] [.box [aB y44, .pv (encSl (rI .u8) y45), aI y46] false, .box [aI 0, .pv .nils] false, .box [aI (IntKind.wrap .i64 x5), aR 6 69 (([(stat_Col.mk y47 y48 y49 (some y50) none (hll_Sketch.mk y52))] : List stat_Col).length)] false, bR 77 10 R_hist_Bucket y50 0 (max 0 (y50.map R_hist_Bucket).length), .box ([aI y47, aI y48, aI y49, aR 3 10 y50.length, .pv .nils] ++ (aA .u8 64 y52)) false, bR 91 69 R_stat_Col ([(stat_Col.mk y47 y48 y49 (some y50) none (hll_Sketch.mk y52))] : List stat_Col) 0 0, bR 91 69 R_stat_Col ([(stat_Col.mk y47 y48 y49 (some y50) none (hll_Sketch.mk y52))] : List stat_Col) 0 0] (by kernel_rfl) (fin [(0, .ptr 0 0), (2, .ptr 1 0), (4, .ptr 2 0), (13, aU x30), (14, aU y41)] rfl (by kernel_rfl) (detn [(0, .ptr 0 0), (2, .ptr 1 0), (4, .ptr 2 0), (13, aU x30), (14, aU (IntKind.wrap .u64 (y41 + 1)))] (by kernel_rfl) ?_)))
       exact ⟨_, _, tidyL [(0, .ptr 0 0), (2, .ptr 1 0), (4, .ptr 2 0), (13, aU x30), (14, aU (IntKind.wrap .u64 (y41 + 1)))] [.box [aB y44, .pv (encSl (rI .u8) y45), aI y46] false, .box [aI 0, .pv .nils] false, .box [aI (IntKind.wrap .i64 x5), aR 3 69 (([(stat_Col.mk y47 y48 y49 (some y50) none (hll_Sketch.mk y52))] : List stat_Col).length)] false, bR 91 69 R_stat_Col ([(stat_Col.mk y47 y48 y49 (some y50) none (hll_Sketch.mk y52))] : List stat_Col) 0 0] (by kernel_rfl), .inr (⟨y44, y45, y46, ([(stat_Col.mk y47 y48 y49 (some y50) none (hll_Sketch.mk y52))] : List stat_Col), (IntKind.wrap .u64 (y41 + 1)), hm, rfl, rfl⟩)⟩
     ·
      subst hk54
      refine sq (sq (detn [(0, .ptr 0 0), (2, .ptr 1 0), (4, .ptr 2 0), (5, .ptr 5 0), (6, aI y53), (13, aU x30), (14, aU y41), (22, aB (y53 != 0))] (by kernel_rfl) ?_))
      rcases bif_some hm with ⟨h61, hm⟩ | ⟨h61, hm⟩
      ·
       refine ct h61 (by kernel_rfl) (sq (detn [(2, .ptr 1 0), (3, aI y53)] (by kernel_rfl) (wp_ret ?_)))
       obtain rfl := Option.some.inj hm
       exact ⟨trivial, .tup [.agg [aI 0, .pv .nils], aI y53], [.box [aB y44, .pv (encSl (rI .u8) y45), aI y46] false], by kernel_rfl, rfl, rfl⟩
      ·
       refine cf h61 (by kernel_rfl) (wp_skip (rg (sh 3 [(27, .agg ([aI y47, aI y48, aI y49, aR 3 10 y50.length, aR 4 4 y51.length] ++ (aA .u8 64 y52))), (26, .pv .nils), (25, .ptr 2 1)] (by kernel_rfl) (dO [(28, aR 6 69 1)] [.box [aB y44, .pv (encSl (rI .u8) y45), aI y46] false, .box [aI 0, .pv .nils] false, .box [aI (IntKind.wrap .i64 x5), .pv .nils] false, bR 77 10 R_hist_Bucket y50 0 (max 0 (y50.map R_hist_Bucket).length), bR 64 4 R_api_Value y51 0 (max 0 (y51.map R_api_Value).length), .box ([aI y47, aI y48, aI y49, aR 3 10 y50.length, aR 4 4 y51.length] ++ (aA .u8 64 y52)) false, bR 91 69 R_stat_Col ([(stat_Col.mk y47 y48 y49 (some y50) (some y51) (hll_Sketch.mk y52))] : List stat_Col) 0 0] (led_purO (nid := 0) (t := 29) (len := 1) (is := [0]) (vs := [.agg ([aI y47, aI y48, aI y49, aR 3 10 y50.length, aR 4 4 y51.length] ++ (aA .u8 64 y52))]) (ps := [.agg ([aI y47, aI y48, aI y49, .pv (.sl (y50.map R_hist_Bucket)), .pv (.sl (y51.map R_api_Value))] ++ (aA .u8 64 y52))]) (R := [3, 4]) (e := ⟨aR 6 69 1, [], [bR 91 69 R_stat_Col ([(stat_Col.mk y47 y48 y49 (some y50) (some y51) (hll_Sketch.mk y52))] : List stat_Col) 0 0]⟩) (by kernel_rfl) (pAs_cons (pA_agg (purL_cons (pur_pv) (purL_cons (pur_pv) (purL_cons (pur_pv) (purL_cons (pur_ref' (n := y50.length) (id := 3) (l := y50) (R := R_hist_Bucket) rfl rfl (Nat.zero_le _)) (purL_cons (pur_ref' (n := y51.length) (id := 4) (l := y51) (R := R_api_Value) rfl rfl (Nat.zero_le _)) (purL_arr0))))))) (rfl)) (by kernel_rfl) (by kernel_rfl)) (by kernel_rfl) ?_))))
       obtain ⟨_, h62, hm⟩ := bs hm
       refine dO [(29, aR 7 69 (([(stat_Col.mk y47 y48 y49 (some y50) (some y51) (hll_Sketch.mk y52))] : List stat_Col).length))] [.box [aB y44, .pv (encSl (rI .u8) y45), aI y46] false, .box [aI 0, .pv .nils] false, .box [aI (IntKind.wrap .i64 x5), .pv .nils] false, bR 77 10 R_hist_Bucket y50 0 (max 0 (y50.map R_hist_Bucket).length), bR 64 4 R_api_Value y51 0 (max 0 (y51.map R_api_Value).length), .box ([aI y47, aI y48, aI y49, aR 3 10 y50.length, aR 4 4 y51.length] ++ (aA .u8 64 y52)) false, bR 91 69 R_stat_Col ([(stat_Col.mk y47 y48 y49 (some y50) (some y51) (hll_Sketch.mk y52))] : List stat_Col) 0 0, bR 91 69 R_stat_Col ([(stat_Col.mk y47 y48 y49 (some y50) (some y51) (hll_Sketch.mk y52))] : List stat_Col) 0 0] (app_nilO (u := 0) R_stat_Col ([(stat_Col.mk y47 y48 y49 (some y50) (some y51) (hll_Sketch.mk y52))] : List stat_Col) (b := 136) t29 t91 rfl rfl rfl (fun _ => rfl) rfl h62 (show srcRows (aR 6 69 1) _ = some (([(stat_Col.mk y47 y48 y49 (some y50) (some y51) (hll_Sketch.mk y52))] : List stat_Col).map R_stat_Col) from by kernel_rfl) (by kernel_rfl)) (by kernel_rfl) (st 2 [(30, .ptr 2 1)] [.box [aB y44, .pv (encSl (rI .u8) y45), aI y46] false, .box [aI 0, .pv .nils] false, .box [aI (IntKind.wrap .i64 x5), aR 7 69 (([(stat_Col.mk y47 y48 y49 (some y50) (some y51) (hll_Sketch.mk y52))] : List stat_Col).length)] false, bR 77 10 R_hist_Bucket y50 0 (max 0 (y50.map R_hist_Bucket).length), bR 64 4 R_api_Value y51 0 (max 0 (y51.map R_api_Value).length), .box ([aI y47, aI y48, aI y49, aR 3 10 y50.length, aR 4 4 y51.length] ++ (aA .u8 64 y52)) false, bR 91 69 R_stat_Col ([(stat_Col.mk y47 y48 y49 (some y50) (some y51) (hll_Sketch.mk y52))] : List stat_Col) 0 0, bR 91 69 R_stat_Col ([(stat_Col.mk y47 y48 y49 (some y50) (some y51) (hll_Sketch.mk y52))] : List stat_Col) 0 0] (by kernel_rfl) (fin [(0, .ptr 0 0), (2, .ptr 1 0), (4, .ptr 2 0), (13, aU x30), (14, aU y41)] rfl (by kernel_rfl) (detn [(0, .ptr 0 0), (2, .ptr 1 0), (4, .ptr 2 0), (13, aU x30), (14, aU (IntKind.wrap .u64 (y41 + 1)))] (by kernel_rfl) ?_)))
       exact ⟨_, _, tidyL [(0, .ptr 0 0), (2, .ptr 1 0), (4, .ptr 2 0), (13, aU x30), (14, aU (IntKind.wrap .u64 (y41 + 1)))] [.box [aB y44, .pv (encSl (rI .u8) y45), aI y46] false, .box [aI 0, .pv .nils] false, .box [aI (IntKind.wrap .i64 x5), aR 3 69 (([(stat_Col.mk y47 y48 y49 (some y50) (some y51) (hll_Sketch.mk y52))] : List stat_Col).length)] false, bR 91 69 R_stat_Col ([(stat_Col.mk y47 y48 y49 (some y50) (some y51) (hll_Sketch.mk y52))] : List stat_Col) 0 0] (by kernel_rfl), .inr (⟨y44, y45, y46, ([(stat_Col.mk y47 y48 y49 (some y50) (some y51) (hll_Sketch.mk y52))] : List stat_Col), (IntKind.wrap .u64 (y41 + 1)), hm, rfl, rfl⟩)⟩
    refine rg (sh 1 [(17, .ptr 0 0)] (by kernel_rfl) ?_)
    obtain ⟨x64, h63, hm⟩ := bs hm
    rcases x64 with ⟨x65, x66, x67, x68, x69, x70, x71, x72⟩ | ⟨x73, x74, x75, x76, x77, x78, x79, x80⟩ | ⟨x81, x82, x83, x84, x85, x86, x87, x88⟩ | ⟨x89, x90, x91, x92, x93, x94, x95, x96, x97⟩
    ·
     obtain ⟨vv, H1, hC, rfl, rfl⟩ := ok_stat_take h63
     refine dR [(18, .tup [.agg ([aI x68, aI x69, aI x70, .pv .nils, .pv .nils] ++ (aA .u8 64 x71)), aI x72])] [.box [aB x65, .pv (encSl (rI .u8) x66), aI x67] false, .box [aI 0, .pv .nils] false, .box [aI (IntKind.wrap .i64 x5), .pv .nils] false] [0] [.ptr 0 0] (by kernel_rfl) (by kernel_rfl) (by kernel_rfl) hC (by kernel_rfl) (st 6 [(6, aI x72), (5, .ptr 3 0), (20, aI x72), (19, .agg ([aI x68, aI x69, aI x70, .pv .nils, .pv .nils] ++ (aA .u8 64 x71))), (16, .tup [.agg ([aI x68, aI x69, aI x70, .pv .nils, .pv .nils] ++ (aA .u8 64 x71)), aI x72])] [.box [aB x65, .pv (encSl (rI .u8) x66), aI x67] false, .box [aI 0, .pv .nils] false, .box [aI (IntKind.wrap .i64 x5), .pv .nils] false, .box ([aI x68, aI x69, aI x70, .pv .nils, .pv .nils] ++ (aA .u8 64 x71)) false] (by kernel_rfl) (fin [(0, .ptr 0 0), (2, .ptr 1 0), (4, .ptr 2 0), (5, .ptr 3 0), (6, aI x72), (13, aU x30), (14, aU y41)] rfl (by kernel_rfl) ?_))
     exact .inl ⟨x65, x66, x67, x68, x69, x70, x71, x72, hm, rfl, rfl⟩
    ·
     obtain ⟨vv, H1, hC, rfl, rfl⟩ := ok_stat_take h63
     refine dR [(18, .tup [.agg ([aI x76, aI x77, aI x78, .pv .nils, aR 3 4 x79.length] ++ (aA .u8 64 x80)), aI 0])] [.box [aB x73, .pv (encSl (rI .u8) x74), aI x75] false, .box [aI 0, .pv .nils] false, .box [aI (IntKind.wrap .i64 x5), .pv .nils] false, bR 64 4 R_api_Value x79 0 0] [0] [.ptr 0 0] (by kernel_rfl) (by kernel_rfl) (by kernel_rfl) hC (by kernel_rfl) (st 6 [(6, aI 0), (5, .ptr 4 0), (20, aI 0), (19, .agg ([aI x76, aI x77, aI x78, .pv .nils, aR 3 4 x79.length] ++ (aA .u8 64 x80))), (16, .tup [.agg ([aI x76, aI x77, aI x78, .pv .nils, aR 3 4 x79.length] ++ (aA .u8 64 x80)), aI 0])] [.box [aB x73, .pv (encSl (rI .u8) x74), aI x75] false, .box [aI 0, .pv .nils] false, .box [aI (IntKind.wrap .i64 x5), .pv .nils] false, bR 64 4 R_api_Value x79 0 0, .box ([aI x76, aI x77, aI x78, .pv .nils, aR 3 4 x79.length] ++ (aA .u8 64 x80)) false] (by kernel_rfl) (fin [(0, .ptr 0 0), (2, .ptr 1 0), (4, .ptr 2 0), (5, .ptr 4 0), (6, aI 0), (13, aU x30), (14, aU y41)] rfl (by kernel_rfl) ?_))
     exact .inr (.inl ⟨x73, x74, x75, x76, x77, x78, x79, x80, 0, hm, rfl, rfl⟩)
    ·
     obtain ⟨vv, H1, hC, rfl, rfl⟩ := ok_stat_take h63
     refine dR [(18, .tup [.agg ([aI x84, aI x85, aI x86, aR 3 10 x87.length, .pv .nils] ++ (aA .u8 64 x88)), aI 0])] [.box [aB x81, .pv (encSl (rI .u8) x82), aI x83] false, .box [aI 0, .pv .nils] false, .box [aI (IntKind.wrap .i64 x5), .pv .nils] false, bR 77 10 R_hist_Bucket x87 0 0] [0] [.ptr 0 0] (by kernel_rfl) (by kernel_rfl) (by kernel_rfl) hC (by kernel_rfl) (st 6 [(6, aI 0), (5, .ptr 4 0), (20, aI 0), (19, .agg ([aI x84, aI x85, aI x86, aR 3 10 x87.length, .pv .nils] ++ (aA .u8 64 x88))), (16, .tup [.agg ([aI x84, aI x85, aI x86, aR 3 10 x87.length, .pv .nils] ++ (aA .u8 64 x88)), aI 0])] [.box [aB x81, .pv (encSl (rI .u8) x82), aI x83] false, .box [aI 0, .pv .nils] false, .box [aI (IntKind.wrap .i64 x5), .pv .nils] false, bR 77 10 R_hist_Bucket x87 0 0, .box ([aI x84, aI x85, aI x86, aR 3 10 x87.length, .pv .nils] ++ (aA .u8 64 x88)) false] (by kernel_rfl) (fin [(0, .ptr 0 0), (2, .ptr 1 0), (4, .ptr 2 0), (5, .ptr 4 0), (6, aI 0), (13, aU x30), (14, aU y41)] rfl (by kernel_rfl) ?_))
     exact .inr (.inr (.inl ⟨x81, x82, x83, x84, x85, x86, x87, x88, 0, hm, rfl, rfl⟩))
    ·
     obtain ⟨vv, H1, hC, rfl, rfl⟩ := ok_stat_take h63
     refine dR [(18, .tup [.agg ([aI x92, aI x93, aI x94, aR 3 10 x95.length, aR 4 4 x96.length] ++ (aA .u8 64 x97)), aI 0])] [.box [aB x89, .pv (encSl (rI .u8) x90), aI x91] false, .box [aI 0, .pv .nils] false, .box [aI (IntKind.wrap .i64 x5), .pv .nils] false, bR 77 10 R_hist_Bucket x95 0 0, bR 64 4 R_api_Value x96 0 0] [0] [.ptr 0 0] (by kernel_rfl) (by kernel_rfl) (by kernel_rfl) hC (by kernel_rfl) (st 6 [(6, aI 0), (5, .ptr 5 0), (20, aI 0), (19, .agg ([aI x92, aI x93, aI x94, aR 3 10 x95.length, aR 4 4 x96.length] ++ (aA .u8 64 x97))), (16, .tup [.agg ([aI x92, aI x93, aI x94, aR 3 10 x95.length, aR 4 4 x96.length] ++ (aA .u8 64 x97)), aI 0])] [.box [aB x89, .pv (encSl (rI .u8) x90), aI x91] false, .box [aI 0, .pv .nils] false, .box [aI (IntKind.wrap .i64 x5), .pv .nils] false, bR 77 10 R_hist_Bucket x95 0 0, bR 64 4 R_api_Value x96 0 0, .box ([aI x92, aI x93, aI x94, aR 3 10 x95.length, aR 4 4 x96.length] ++ (aA .u8 64 x97)) false] (by kernel_rfl) (fin [(0, .ptr 0 0), (2, .ptr 1 0), (4, .ptr 2 0), (5, .ptr 5 0), (6, aI 0), (13, aU x30), (14, aU y41)] rfl (by kernel_rfl) ?_))
     exact .inr (.inr (.inr (⟨x89, x90, x91, x92, x93, x94, x95, x96, x97, 0, hm, rfl, rfl⟩)))
   ·
    refine cf h43 (by kernel_rfl) (wp_exit ?_)
    exact .inl ⟨y37, y38, y39, aU x30, aU y41, aB (decide (y41 < x30)), hm, (mk_same (by kernel_rfl)), rfl⟩
  ·
   simp only [stat_Take_l3] at hm
   refine sq (detn [(0, .ptr 0 0), (2, .ptr 1 0), (4, .ptr 2 0), (13, aU x30), (14, aU y41), (15, aB (decide (y41 < x30)))] (by kernel_rfl) ?_)
   refine sq ?_
   rcases bif_some hm with ⟨h98, hm⟩ | ⟨h98, hm⟩
   ·
    refine ct h98 (by kernel_rfl) (wp_skip (sq (bq ?_)))
    obtain ⟨k109, hk109, hm⟩ := withK_some hm
    refine mid (fun t H => (∃ (y99 : Bool) (y100 : (Option (List Int))) (y101 : Int) (y102 : Int) (y103 : Int) (y104 : Int) (y107 : (Nat → Int)) (y108 : Int), k109 y99 y100 y101 y102 y103 y104 none none y107 y108 = some r ∧ t = mk 43 [(0, .ptr 0 0), (2, .ptr 1 0), (4, .ptr 2 0), (5, .ptr 4 0), (6, aI y108), (13, aU x30), (14, aU y41)] ∧ H = [.box [aB y99, .pv (encSl (rI .u8) y100), aI y101] false, .box [aI 0, .pv .nils] false, .box [aI (IntKind.wrap .i64 x5), aR 3 69 y40.length] false, bR 91 69 R_stat_Col y40 0 0, .box ([aI y102, aI y103, aI y104, .pv .nils, .pv .nils] ++ (aA .u8 64 y107)) false]) ∨ (∃ (y99 : Bool) (y100 : (Option (List Int))) (y101 : Int) (y102 : Int) (y103 : Int) (y104 : Int) (y106 : (List api_Value)) (y107 : (Nat → Int)) (y108 : Int), k109 y99 y100 y101 y102 y103 y104 none (some y106) y107 y108 = some r ∧ t = mk 43 [(0, .ptr 0 0), (2, .ptr 1 0), (4, .ptr 2 0), (5, .ptr 5 0), (6, aI y108), (13, aU x30), (14, aU y41)] ∧ H = [.box [aB y99, .pv (encSl (rI .u8) y100), aI y101] false, .box [aI 0, .pv .nils] false, .box [aI (IntKind.wrap .i64 x5), aR 3 69 y40.length] false, bR 91 69 R_stat_Col y40 0 0, bR 64 4 R_api_Value y106 0 0, .box ([aI y102, aI y103, aI y104, .pv .nils, aR 4 4 y106.length] ++ (aA .u8 64 y107)) false]) ∨ (∃ (y99 : Bool) (y100 : (Option (List Int))) (y101 : Int) (y102 : Int) (y103 : Int) (y104 : Int) (y105 : (List hist_Bucket)) (y107 : (Nat → Int)) (y108 : Int), k109 y99 y100 y101 y102 y103 y104 (some y105) none y107 y108 = some r ∧ t = mk 43 [(0, .ptr 0 0), (2, .ptr 1 0), (4, .ptr 2 0), (5, .ptr 5 0), (6, aI y108), (13, aU x30), (14, aU y41)] ∧ H = [.box [aB y99, .pv (encSl (rI .u8) y100), aI y101] false, .box [aI 0, .pv .nils] false, .box [aI (IntKind.wrap .i64 x5), aR 3 69 y40.length] false, bR 91 69 R_stat_Col y40 0 0, bR 77 10 R_hist_Bucket y105 0 0, .box ([aI y102, aI y103, aI y104, aR 4 10 y105.length, .pv .nils] ++ (aA .u8 64 y107)) false]) ∨ (∃ (y99 : Bool) (y100 : (Option (List Int))) (y101 : Int) (y102 : Int) (y103 : Int) (y104 : Int) (y105 : (List hist_Bucket)) (y106 : (List api_Value)) (y107 : (Nat → Int)) (y108 : Int), k109 y99 y100 y101 y102 y103 y104 (some y105) (some y106) y107 y108 = some r ∧ t = mk 43 [(0, .ptr 0 0), (2, .ptr 1 0), (4, .ptr 2 0), (5, .ptr 6 0), (6, aI y108), (13, aU x30), (14, aU y41)] ∧ H = [.box [aB y99, .pv (encSl (rI .u8) y100), aI y101] false, .box [aI 0, .pv .nils] false, .box [aI (IntKind.wrap .i64 x5), aR 3 69 y40.length] false, bR 91 69 R_stat_Col y40 0 0, bR 77 10 R_hist_Bucket y105 0 0, bR 64 4 R_api_Value y106 0 0, .box ([aI y102, aI y103, aI y104, aR 4 10 y105.length, aR 5 4 y106.length] ++ (aA .u8 64 y107)) false])) ?_ ?_
    ·
     rintro _ _ (⟨y99, y100, y101, y102, y103, y104, y107, y108, hm, rfl, rfl⟩ | ⟨y99, y100, y101, y102, y103, y104, y106, y107, y108, hm, rfl, rfl⟩ | ⟨y99, y100, y101, y102, y103, y104, y105, y107, y108, hm, rfl, rfl⟩ | ⟨y99, y100, y101, y102, y103, y104, y105, y106, y107, y108, hm, rfl, rfl⟩)
     ·
      subst hk109
      refine sq (sq (detn [(0, .ptr 0 0), (2, .ptr 1 0), (4, .ptr 2 0), (5, .ptr 4 0), (6, aI y108), (13, aU x30), (14, aU y41), (22, aB (y108 != 0))] (by kernel_rfl) ?_))
      rcases bif_some hm with ⟨h110, hm⟩ | ⟨h110, hm⟩
      ·
       refine ct h110 (by kernel_rfl) (sq (detn [(2, .ptr 1 0), (3, aI y108)] (by kernel_rfl) (wp_ret ?_)))
       obtain rfl := Option.some.inj hm
       exact ⟨trivial, .tup [.agg [aI 0, .pv .nils], aI y108], [.box [aB y99, .pv (encSl (rI .u8) y100), aI y101] false], by kernel_rfl, rfl, rfl⟩
      ·
       refine cf h110 (by kernel_rfl) (wp_skip (rg (st 4 [(28, aR 5 69 1), (27, .agg ([aI y102, aI y103, aI y104, .pv .nils, .pv .nils] ++ (aA .u8 64 y107))), (26, aR 3 69 y40.length), (25, .ptr 2 1)] [.box [aB y99, .pv (encSl (rI .u8) y100), aI y101] false, .box [aI 0, .pv .nils] false, .box [aI (IntKind.wrap .i64 x5), aR 3 69 y40.length] false, bR 91 69 R_stat_Col y40 0 0, .box ([aI y102, aI y103, aI y104, .pv .nils, .pv .nils] ++ (aA .u8 64 y107)) false, bR 91 69 R_stat_Col ([(stat_Col.mk y102 y103 y104 none none (hll_Sketch.mk y107))] : List stat_Col) 0 0] (by kernel_rfl) ?_)))
       obtain ⟨_, h111, hm⟩ := bs hm
       refine dO [(29, aR 3 69 ((y40 ++ ([(stat_Col.mk y102 y103 y104 none none (hll_Sketch.mk y107))] : List stat_Col)).length))] [.box [aB y99, .pv (encSl (rI .u8) y100), aI y101] false, .box [aI 0, .pv .nils] false, .box [aI (IntKind.wrap .i64 x5), aR 3 69 y40.length] false, bR 91 69 R_stat_Col (y40 ++ ([(stat_Col.mk y102 y103 y104 none none (hll_Sketch.mk y107))] : List stat_Col)) 0 0, .box ([aI y102, aI y103, aI y104, .pv .nils, .pv .nils] ++ (aA .u8 64 y107)) false, bR 91 69 R_stat_Col ([(stat_Col.mk y102 y103 y104 none none (hll_Sketch.mk y107))] : List stat_Col) 0 0] (app_refO (u := 0) (n := y40.length) (id := 3) R_stat_Col y40 ([(stat_Col.mk y102 y103 y104 none none (hll_Sketch.mk y107))] : List stat_Col) (b := 136) t29 t91 rfl rfl rfl (fun _ => rfl) rfl h111 rfl rfl (Nat.zero_le _) (show srcRows (aR 5 69 1) _ = some (([(stat_Col.mk y102 y103 y104 none none (hll_Sketch.mk y107))] : List stat_Col).map R_stat_Col) from by kernel_rfl) (by kernel_rfl)) (by kernel_rfl) (st 2 [(30, .ptr 2 1)] [.box [aB y99, .pv (encSl (rI .u8) y100), aI y101] false, .box [aI 0, .pv .nils] false, .box [aI (IntKind.wrap .i64 x5), aR 3 69 ((y40 ++ ([(stat_Col.mk y102 y103 y104 none none (hll_Sketch.mk y107))] : List stat_Col)).length)] false, bR 91 69 R_stat_Col (y40 ++ ([(stat_Col.mk y102 y103 y104 none none (hll_Sketch.mk y107))] : List stat_Col)) 0 0, .box ([aI y102, aI y103, aI y104, .pv .nils, .pv .nils] ++ (aA .u8 64 y107)) false, bR 91 69 R_stat_Col ([(stat_Col.mk y102 y103 y104 none none (hll_Sketch.mk y107))] : List stat_Col) 0 0] (by kernel_rfl) (fin [(0, .ptr 0 0), (2, .ptr 1 0), (4, .ptr 2 0), (13, aU x30), (14, aU y41)] rfl (by kernel_rfl) (detn [(0, .ptr 0 0), (2, .ptr 1 0), (4, .ptr 2 0), (13, aU x30), (14, aU (IntKind.wrap .u64 (y41 + 1)))] (by kernel_rfl) ?_)))
       exact ⟨_, _, tidyL [(0, .ptr 0 0), (2, .ptr 1 0), (4, .ptr 2 0), (13, aU x30), (14, aU (IntKind.wrap .u64 (y41 + 1)))] [.box [aB y99, .pv (encSl (rI .u8) y100), aI y101] false, .box [aI 0, .pv .nils] false, .box [aI (IntKind.wrap .i64 x5), aR 3 69 ((y40 ++ ([(stat_Col.mk y102 y103 y104 none none (hll_Sketch.mk y107))] : List stat_Col)).length)] false, bR 91 69 R_stat_Col (y40 ++ ([(stat_Col.mk y102 y103 y104 none none (hll_Sketch.mk y107))] : List stat_Col)) 0 0] (by kernel_rfl), .inr (⟨y99, y100, y101, (y40 ++ ([(stat_Col.mk y102 y103 y104 none none (hll_Sketch.mk y107))] : List stat_Col)), (IntKind.wrap .u64 (y41 + 1)), hm, rfl, rfl⟩)⟩
     ·
      subst hk109
      refine sq (sq (detn [(0, .ptr 0 0), (2, .ptr 1 0), (4, .ptr 2 0), (5, .ptr 5 0), (6, aI y108), (13, aU x30), (14, aU y41), (22, aB (y108 != 0))] (by kernel_rfl) ?_))
      rcases bif_some hm with ⟨h112, hm⟩ | ⟨h112, hm⟩
      ·
       refine ct h112 (by kernel_rfl) (sq (detn [(2, .ptr 1 0), (3, aI y108)] (by kernel_rfl) (wp_ret ?_)))
       obtain rfl := Option.some.inj hm
       exact ⟨trivial, .tup [.agg [aI 0, .pv .nils], aI y108], [.box [aB y99, .pv (encSl (rI .u8) y100), aI y101] false], by kernel_rfl, rfl, rfl⟩
      ·
       refine cf h112 (by kernel_rfl) (wp_skip (rg (sh 3 [(27, .agg ([aI y102, aI y103, aI y104, .pv .nils, aR 4 4 y106.length] ++ (aA .u8 64 y107))), (26, aR 3 69 y40.length), (25, .ptr 2 1)] (by kernel_rfl) (dO [(28, aR 6 69 1)] [.box [aB y99, .pv (encSl (rI .u8) y100), aI y101] false, .box [aI 0, .pv .nils] false, .box [aI (IntKind.wrap .i64 x5), aR 3 69 y40.length] false, bR 91 69 R_stat_Col y40 0 0, bR 64 4 R_api_Value y106 0 (max 0 (y106.map R_api_Value).length), .box ([aI y102, aI y103, aI y104, .pv .nils, aR 4 4 y106.length] ++ (aA .u8 64 y107)) false, bR 91 69 R_stat_Col ([(stat_Col.mk y102 y103 y104 none (some y106) (hll_Sketch.mk y107))] : List stat_Col) 0 0] (led_purO (nid := 0) (t := 29) (len := 1) (is := [0]) (vs := [.agg ([aI y102, aI y103, aI y104, .pv .nils, aR 4 4 y106.length] ++ (aA .u8 64 y107))]) (ps := [.agg ([aI y102, aI y103, aI y104, .pv .nils, .pv (.sl (y106.map R_api_Value))] ++ (aA .u8 64 y107))]) (R := [4]) (e := ⟨aR 6 69 1, [], [bR 91 69 R_stat_Col ([(stat_Col.mk y102 y103 y104 none (some y106) (hll_Sketch.mk y107))] : List stat_Col) 0 0]⟩) (by kernel_rfl) (pAs_cons (pA_agg (purL_cons (pur_pv) (purL_cons (pur_pv) (purL_cons (pur_pv) (purL_cons (pur_pv) (purL_cons (pur_ref' (n := y106.length) (id := 4) (l := y106) (R := R_api_Value) rfl rfl (Nat.zero_le _)) (purL_arr0))))))) (rfl)) (by kernel_rfl) (by kernel_rfl)) (by kernel_rfl) ?_))))
       obtain ⟨_, h113, hm⟩ := bs hm
       refine dO [(29, aR 3 69 ((y40 ++ ([(stat_Col.mk y102 y103 y104 none (some y106) (hll_Sketch.mk y107))] : List stat_Col)).length))] [.box [aB y99, .pv (encSl (rI .u8) y100), aI y101] false, .box [aI 0, .pv .nils] false, .box [aI (IntKind.wrap .i64 x5), aR 3 69 y40.length] false, bR 91 69 R_stat_Col (y40 ++ ([(stat_Col.mk y102 y103 y104 none (some y106) (hll_Sketch.mk y107))] : List stat_Col)) 0 0, bR 64 4 R_api_Value y106 0 (max 0 (y106.map R_api_Value).length), .box ([aI y102, aI y103, aI y104, .pv .nils, aR 4 4 y106.length] ++ (aA .u8 64 y107)) false, bR 91 69 R_stat_Col ([(stat_Col.mk y102 y103 y104 none (some y106) (hll_Sketch.mk y107))] : List stat_Col) 0 0] (app_refO (u := 0) (n := y40.length) (id := 3) R_stat_Col y40 ([(stat_Col.mk y102 y103 y104 none (some y106) (hll_Sketch.mk y107))] : List stat_Col) (b := 136) t29 t91 rfl rfl rfl (fun _ => rfl) rfl h113 rfl rfl (Nat.zero_le _) (show srcRows (aR 6 69 1) _ = some (([(stat_Col.mk y102 y103 y104 none (some y106) (hll_Sketch.mk y107))] : List stat_Col).map R_stat_Col) from by kernel_rfl) (by kernel_rfl)) (by kernel_rfl) (st 2 [(30, .ptr 2 1)] [.box [aB y99, .pv (encSl (rI .u8) y100), aI y101] false, .box [aI 0, .pv .nils] false, .box [aI (IntKind.wrap .i64 x5), aR 3 69 ((y40 ++ ([(stat_Col.mk y102 y103 y104 none (some y106) (hll_Sketch.mk y107))] : List stat_Col)).length)] false, bR 91 69 R_stat_Col (y40 ++ ([(stat_Col.mk y102 y103 y104 none (some y106) (hll_Sketch.mk y107))] : List stat_Col)) 0 0, bR 64 4 R_api_Value y106 0 (max 0 (y106.map R_api_Value).length), .box ([aI y102, aI y103, aI y104, .pv .nils, aR 4 4 y106.length] ++ (aA .u8 64 y107)) false, bR 91 69 R_stat_Col ([(stat_Col.mk y102 y103 y104 none (some y106) (hll_Sketch.mk y107))] : List stat_Col) 0 0] (by kernel_rfl) (fin [(0, .ptr 0 0), (2, .ptr 1 0), (4, .ptr 2 0), (13, aU x30), (14, aU y41)] rfl (by kernel_rfl) (detn [(0, .ptr 0 0), (2, .ptr 1 0), (4, .ptr 2 0), (13, aU x30), (14, aU (IntKind.wrap .u64 (y41 + 1)))] (by kernel_rfl) ?_)))
       exact ⟨_, _, tidyL [(0, .ptr 0 0), (2, .ptr 1 0), (4, .ptr 2 0), (13, aU x30), (14, aU (IntKind.wrap .u64 (y41 + 1)))] [.box [aB y99, .pv (encSl (rI .u8) y100), aI y101] false, .box [aI 0, .pv .nils] false, .box [aI (IntKind.wrap .i64 x5), aR 3 69 ((y40 ++ ([(stat_Col.mk y102 y103 y104 none (some y106) (hll_Sketch.mk y107))] : List stat_Col)).length)] false, bR 91 69 R_stat_Col (y40 ++ ([(stat_Col.mk y102 y103 y104 none (some y106) (hll_Sketch.mk y107))] : List stat_Col)) 0 0] (by kernel_rfl), .inr (⟨y99, y100, y101, (y40 ++ ([(stat_Col.mk y102 y103 y104 none (some y106) (hll_Sketch.mk y107))] : List stat_Col)), (IntKind.wrap .u64 (y41 + 1)), hm, rfl, rfl⟩)⟩
     ·
      subst hk109
      refine sq (sq (detn [(0, .ptr 0 0), (2, .ptr 1 0), (4, .ptr 2 0), (5, .ptr 5 0), (6, aI y108), (13, aU x30), (14, aU y41), (22, aB (y108 != 0))] (by kernel_rfl) ?_))
      rcases bif_some hm with ⟨h114, hm⟩ | ⟨h114, hm⟩
      ·
       refine ct h114 (by kernel_rfl) (sq (detn [(2, .ptr 1 0), (3, aI y108)] (by kernel_rfl) (wp_ret ?_)))
       obtain rfl := Option.some.inj hm
       exact ⟨trivial, .tup [.agg [aI 0, .pv .nils], aI y108], [.box [aB y99, .pv (encSl (rI .u8) y100), aI y101] false], by kernel_rfl, rfl, rfl⟩
      ·
       refine cf h114 (by kernel_rfl) (wp_skip (rg (sh 3 [(27, .agg ([aI y102, aI y103, aI y104, aR 4 10 y105.length, .pv .nils] ++ (aA .u8 64 y107))), (26, aR 3 69 y40.length), (25, .ptr 2 1)] (by kernel_rfl) (dO [(28, aR 6 69 1)] [.box [aB y99, .pv (encSl (rI .u8) y100), aI y101] false, .box [aI 0, .pv .nils] false, .box [aI (IntKind.wrap .i64 x5), aR 3 69 y40.length] false, bR 91 69 R_stat_Col y40 0 0, bR 77 10 R_hist_Bucket y105 0 (max 0 (y105.map R_hist_Bucket).length), .box ([aI y102, aI y103, aI y104, aR 4 10 y105.length, .pv .nils] ++ (aA .u8 64 y107)) false, bR 91 69 R_stat_Col ([(stat_Col.mk y102 y103 y104 (some y105) none (hll_Sketch.mk y107))] : List stat_Col) 0 0] (led_purO (nid := 0) (t := 29) (len := 1) (is := [0]) (vs := [.agg ([aI y102, aI y103, aI y104, aR 4 10 y105.length, .pv .nils] ++ (aA .u8 64 y107))]) (ps := [.agg ([aI y102, aI y103, aI y104, .pv (.sl (y105.map R_hist_Bucket)), .pv .nils] ++ (aA .u8 64 y107))]) (R := [4]) (e := ⟨aR 6 69 1, [], [bR 91 69 R_stat_Col ([(stat_Col.mk y102 y103 y104 (some y105) none (hll_Sketch.mk y107))] : List stat_Col) 0 0]⟩) (by kernel_rfl) (pAs_cons (pA_agg (purL_cons (pur_pv) (purL_cons (pur_pv) (purL_cons (pur_pv) (purL_cons (pur_ref' (n := y105.length) (id := 4) (l := y105) (R := R_hist_Bucket) rfl rfl (Nat.zero_le _)) (purL_cons (pur_pv) (purL_arr0))))))) (rfl)) (by kernel_rfl) (by kernel_rfl)) (by kernel_rfl) ?_))))
       obtain ⟨_, h115, hm⟩ := bs hm
       refine dO [(29, aR 3 69 ((y40 ++ ([(stat_Col.mk y102 y103 y104 (some y105) none (hll_Sketch.mk y107))] : List stat_Col)).length))] [.box [aB y99, .pv (encSl (rI .u8) y100), aI y101] false, .box [aI 0, .pv .nils] false, .box [aI (IntKind.wrap .i64 x5), aR 3 69 y40.length] false, bR 91 69 R_stat_Col (y40 ++ ([(stat_Col.mk y102 y103 y104 (some y105) none (hll_Sketch.mk y107))] : List stat_Col)) 0 0, bR 77 10 R_hist_Bucket y105 0 (max 0 (y105.map R_hist_Bucket).length), .box ([aI y102, aI y103, aI y104, aR 4 10 y105.length, .pv .nils] ++ (aA .u8 64 y107)) false, bR 91 69 R_stat_Col ([(stat_Col.mk y102 y103 y104 (some y105) none (hll_Sketch.mk y107))] : List stat_Col) 0 0] (app_refO (u := 0) (n := y40.length) (id := 3) R_stat_Col y40 ([(stat_Col.mk y102 y103 y104 (some y105) none (hll_Sketch.mk y107))] : List stat_Col) (b := 136) t29 t91 rfl rfl rfl (fun _ => rfl) rfl h115 rfl rfl (Nat.zero_le _) (show srcRows (aR 6 69 1) _ = some (([(stat_Col.mk y102 y103 y104 (some y105) none (hll_Sketch.mk y107))] : List stat_Col).map R_stat_Col) from by kernel_rfl) (by kernel_rfl)) (by kernel_rfl) (st 2 [(30, .ptr 2 1)] [.box [aB y99, .pv (encSl (rI .u8) y100), aI y101] false, .box [aI 0, .pv .nils] false, .box [aI (IntKind.wrap .i64 x5), aR 3 69 ((y40 ++ ([(stat_Col.mk y102 y103 y104 (some y105) none (hll_Sketch.mk y107))] : List stat_Col)).length)] false, bR 91 69 R_stat_Col (y40 ++ ([(stat_Col.mk y102 y103 y104 (some y105) none (hll_Sketch.mk y107))] : List stat_Col)) 0 0, bR 77 10 R_hist_Bucket y105 0 (max 0 (y105.map R_hist_Bucket).length), .box ([aI y102, aI y103, aI y104, aR 4 10 y105.length, .pv .nils] ++ (aA .u8 64 y107)) false, bR 91 69 R_stat_Col ([(stat_Col.mk y102 y103 y104 (some y105) none (hll_Sketch.mk y107))] : List stat_Col) 0 0] (by kernel_rfl) (fin [(0, .ptr 0 0), (2, .ptr 1 0), (4, .ptr 2 0), (13, aU x30), (14, aU y41)] rfl (by kernel_rfl) (detn [(0, .ptr 0 0), (2, .ptr 1 0), (4, .ptr 2 0), (13, aU x30), (14, aU (IntKind.wrap .u64 (y41 + 1)))] (by kernel_rfl) ?_)))
       exact ⟨_, _, tidyL [(0, .ptr 0 0), (2, .ptr 1 0), (4, .ptr 2 0), (13, aU x30), (14, aU (IntKind.wrap .u64 (y41 + 1)))] [.box [aB y99, .pv (encSl (rI .u8) y100), aI y101] false, .box [aI 0, .pv .nils] false, .box [aI (IntKind.wrap .i64 x5), aR 3 69 ((y40 ++ ([(stat_Col.mk y102 y103 y104 (some y105) none (hll_Sketch.mk y107))] : List stat_Col)).length)] false, bR 91 69 R_stat_Col (y40 ++ ([(stat_Col.mk y102 y103 y104 (some y105) none (hll_Sketch.mk y107))] : List stat_Col)) 0 0] (by kernel_rfl), .inr (⟨y99, y100, y101, (y40 ++ ([(stat_Col.mk y102 y103 y104 (some y105) none (hll_Sketch.mk y107))] : List stat_Col)), (IntKind.wrap .u64 (y41 + 1)), hm, rfl, rfl⟩)⟩
     ·
      subst hk109
      refine sq (sq (detn [(0, .ptr 0 0), (2, .ptr 1 0), (4, .ptr 2 0), (5, .ptr 6 0), (6, aI y108), (13, aU x30), (14, aU y41), (22, aB (y108 != 0))] (by kernel_rfl) ?_))
      rcases bif_some hm with ⟨h116, hm⟩ | ⟨h116, hm⟩
      ·
       refine ct h116 (by kernel_rfl) (sq (detn [(2, .ptr 1 0), (3, aI y108)] (by kernel_rfl) (wp_ret ?_)))
       obtain rfl := Option.some.inj hm
       exact ⟨trivial, .tup [.agg [aI 0, .pv .nils], aI y108], [.box [aB y99, .pv (encSl (rI .u8) y100), aI y101] false], by kernel_rfl, rfl, rfl⟩
      ·
       refine cf h116 (by kernel_rfl) (wp_skip (rg (sh 3 [(27, .agg ([aI y102, aI y103, aI y104, aR 4 10 y105.length, aR 5 4 y106.length] ++ (aA .u8 64 y107))), (26, aR 3 69 y40.length), (25, .ptr 2 1)] (by kernel_rfl) (dO [(28, aR 7 69 1)] [.box [aB y99, .pv (encSl (rI .u8) y100), aI y101] false, .box [aI 0, .pv .nils] false, .box [aI (IntKind.wrap .i64 x5), aR 3 69 y40.length] false, bR 91 69 R_stat_Col y40 0 0, bR 77 10 R_hist_Bucket y105 0 (max 0 (y105.map R_hist_Bucket).length), bR 64 4 R_api_Value y106 0 (max 0 (y106.map R_api_Value).length), .box ([aI y102, aI y103, aI y104, aR 4 10 y105.length, aR 5 4 y106.length] ++ (aA .u8 64 y107)) false, bR 91 69 R_stat_Col ([(stat_Col.mk y102 y103 y104 (some y105) (some y106) (hll_Sketch.mk y107))] : List stat_Col) 0 0] (led_purO (nid := 0) (t := 29) (len := 1) (is := [0]) (vs := [.agg ([aI y102, aI y103, aI y104, aR 4 10 y105.length, aR 5 4 y106.length] ++ (aA .u8 64 y107))]) (ps := [.agg ([aI y102, aI y103, aI y104, .pv (.sl (y105.map R_hist_Bucket)), .pv (.sl (y106.map R_api_Value))] ++ (aA .u8 64 y107))]) (R := [4, 5]) (e := ⟨aR 7 69 1, [], [bR 91 69 R_stat_Col ([(stat_Col.mk y102 y103 y104 (some y105) (some y106) (hll_Sketch.mk y107))] : List stat_Col) 0 0]⟩) (by kernel_rfl) (pAs_cons (pA_agg (purL_cons (pur_pv) (purL_cons (pur_pv) (purL_cons (pur_pv) (purL_cons (pur_ref' (n := y105.length) (id := 4) (l := y105) (R := R_hist_Bucket) rfl rfl (Nat.zero_le _)) (purL_cons (pur_ref' (n := y106.length) (id := 5) (l := y106) (R := R_api_Value) rfl rfl (Nat.zero_le _)) (purL_arr0))))))) (rfl)) (by kernel_rfl) (by kernel_rfl)) (by kernel_rfl) ?_))))
       obtain ⟨_, h117, hm⟩ := bs hm
       refine dO [(29, aR 3 69 ((y40 ++ ([(stat_Col.mk y102 y103 y104 (some y105) (some y106) (hll_Sketch.mk y107))] : List stat_Col)).length))] [.box [aB y99, .pv (encSl (rI .u8) y100), aI y101] false, .box [aI 0, .pv .nils] false, .box [aI (IntKind.wrap .i64 x5), aR 3 69 y40.length] false, bR 91 69 R_stat_Col (y40 ++ ([(stat_Col.mk y102 y103 y104 (some y105) (some y106) (hll_Sketch.mk y107))] : List stat_Col)) 0 0, bR 77 10 R_hist_Bucket y105 0 (max 0 (y105.map R_hist_Bucket).length), bR 64 4 R_api_Value y106 0 (max 0 (y106.map R_api_Value).length), .box ([aI y102, aI y103, aI y104, aR 4 10 y105.length, aR 5 4 y106.length] ++ (aA .u8 64 y107)) false, bR 91 69 R_stat_Col ([(stat_Col.mk y102 y103 y104 (some y105) (some y106) (hll_Sketch.mk y107))] : List stat_Col) 0 0] (app_refO (u := 0) (n := y40.length) (id := 3) R_stat_Col y40 ([(stat_Col.mk y102 y103 y104 (some y105) (some y106) (hll_Sketch.mk y107))] : List stat_Col) (b := 136) t29 t91 rfl rfl rfl (fun _ => rfl) rfl h117 rfl rfl (Nat.zero_le _) (show srcRows (aR 7 69 1) _ = some (([(stat_Col.mk y102 y103 y104 (some y105) (some y106) (hll_Sketch.mk y107))] : List stat_Col).map R_stat_Col) from by kernel_rfl) (by kernel_rfl)) (by kernel_rfl) (st 2 [(30, .ptr 2 1)] [.box [aB y99, .pv (encSl (rI .u8) y100), aI y101] false, .box [aI 0, .pv .nils] false, .box [aI (IntKind.wrap .i64 x5), aR 3 69 ((y40 ++ ([(stat_Col.mk y102 y103 y104 (some y105) (some y106) (hll_Sketch.mk y107))] : List stat_Col)).length)] false, bR 91 69 R_stat_Col (y40 ++ ([(stat_Col.mk y102 y103 y104 (some y105) (some y106) (hll_Sketch.mk y107))] : List stat_Col)) 0 0, bR 77 10 R_hist_Bucket y105 0 (max 0 (y105.map R_hist_Bucket).length), bR 64 4 R_api_Value y106 0 (max 0 (y106.map R_api_Value).length), .box ([aI y102, aI y103, aI y104, aR 4 10 y105.length, aR 5 4 y106.length] ++ (aA .u8 64 y107)) false, bR 91 69 R_stat_Col ([(stat_Col.mk y102 y103 y104 (some y105) (some y106) (hll_Sketch.mk y107))] : List stat_Col) 0 0] (by kernel_rfl) (fin [(0, .ptr 0 0), (2, .ptr 1 0), (4, .ptr 2 0), (13, aU x30), (14, aU y41)] rfl (by kernel_rfl) (detn [(0, .ptr 0 0), (2, .ptr 1 0), (4, .ptr 2 0), (13, aU x30), (14, aU (IntKind.wrap .u64 (y41 + 1)))] (by kernel_rfl) ?_)))
       exact ⟨_, _, tidyL [(0, .ptr 0 0), (2, .ptr 1 0), (4, .ptr 2 0), (13, aU x30), (14, aU (IntKind.wrap .u64 (y41 + 1)))] [.box [aB y99, .pv (encSl (rI .u8) y100), aI y101] false, .box [aI 0, .pv .nils] false, .box [aI (IntKind.wrap .i64 x5), aR 3 69 ((y40 ++ ([(stat_Col.mk y102 y103 y104 (some y105) (some y106) (hll_Sketch.mk y107))] : List stat_Col)).length)] false, bR 91 69 R_stat_Col (y40 ++ ([(stat_Col.mk y102 y103 y104 (some y105) (some y106) (hll_Sketch.mk y107))] : List stat_Col)) 0 0] (by kernel_rfl), .inr (⟨y99, y100, y101, (y40 ++ ([(stat_Col.mk y102 y103 y104 (some y105) (some y106) (hll_Sketch.mk y107))] : List stat_Col)), (IntKind.wrap .u64 (y41 + 1)), hm, rfl, rfl⟩)⟩
    refine rg (sh 1 [(17, .ptr 0 0)] (by kernel_rfl) ?_)
    obtain ⟨x119, h118, hm⟩ := bs hm
    rcases x119 with ⟨x120, x121, x122, x123, x124, x125, x126, x127⟩ | ⟨x128, x129, x130, x131, x132, x133, x134, x135⟩ | ⟨x136, x137, x138, x139, x140, x141, x142, x143⟩ | ⟨x144, x145, x146, x147, x148, x149, x150, x151, x152⟩
    ·
     obtain ⟨vv, H1, hC, rfl, rfl⟩ := ok_stat_take h118
     refine dR [(18, .tup [.agg ([aI x123, aI x124, aI x125, .pv .nils, .pv .nils] ++ (aA .u8 64 x126)), aI x127])] [.box [aB x120, .pv (encSl (rI .u8) x121), aI x122] false, .box [aI 0, .pv .nils] false, .box [aI (IntKind.wrap .i64 x5), aR 3 69 y40.length] false, bR 91 69 R_stat_Col y40 0 0] [0] [.ptr 0 0] (by kernel_rfl) (by kernel_rfl) (by kernel_rfl) hC (by kernel_rfl) (st 6 [(6, aI x127), (5, .ptr 4 0), (20, aI x127), (19, .agg ([aI x123, aI x124, aI x125, .pv .nils, .pv .nils] ++ (aA .u8 64 x126))), (16, .tup [.agg ([aI x123, aI x124, aI x125, .pv .nils, .pv .nils] ++ (aA .u8 64 x126)), aI x127])] [.box [aB x120, .pv (encSl (rI .u8) x121), aI x122] false, .box [aI 0, .pv .nils] false, .box [aI (IntKind.wrap .i64 x5), aR 3 69 y40.length] false, bR 91 69 R_stat_Col y40 0 0, .box ([aI x123, aI x124, aI x125, .pv .nils, .pv .nils] ++ (aA .u8 64 x126)) false] (by kernel_rfl) (fin [(0, .ptr 0 0), (2, .ptr 1 0), (4, .ptr 2 0), (5, .ptr 4 0), (6, aI x127), (13, aU x30), (14, aU y41)] rfl (by kernel_rfl) ?_))
     exact .inl ⟨x120, x121, x122, x123, x124, x125, x126, x127, hm, rfl, rfl⟩
    ·
     obtain ⟨vv, H1, hC, rfl, rfl⟩ := ok_stat_take h118
     refine dR [(18, .tup [.agg ([aI x131, aI x132, aI x133, .pv .nils, aR 4 4 x134.length] ++ (aA .u8 64 x135)), aI 0])] [.box [aB x128, .pv (encSl (rI .u8) x129), aI x130] false, .box [aI 0, .pv .nils] false, .box [aI (IntKind.wrap .i64 x5), aR 3 69 y40.length] false, bR 91 69 R_stat_Col y40 0 0, bR 64 4 R_api_Value x134 0 0] [0] [.ptr 0 0] (by kernel_rfl) (by kernel_rfl) (by kernel_rfl) hC (by kernel_rfl) (st 6 [(6, aI 0), (5, .ptr 5 0), (20, aI 0), (19, .agg ([aI x131, aI x132, aI x133, .pv .nils, aR 4 4 x134.length] ++ (aA .u8 64 x135))), (16, .tup [.agg ([aI x131, aI x132, aI x133, .pv .nils, aR 4 4 x134.length] ++ (aA .u8 64 x135)), aI 0])] [.box [aB x128, .pv (encSl (rI .u8) x129), aI x130] false, .box [aI 0, .pv .nils] false, .box [aI (IntKind.wrap .i64 x5), aR 3 69 y40.length] false, bR 91 69 R_stat_Col y40 0 0, bR 64 4 R_api_Value x134 0 0, .box ([aI x131, aI x132, aI x133, .pv .nils, aR 4 4 x134.length] ++ (aA .u8 64 x135)) false] (by kernel_rfl) (fin [(0, .ptr 0 0), (2, .ptr 1 0), (4, .ptr 2 0), (5, .ptr 5 0), (6, aI 0), (13, aU x30), (14, aU y41)] rfl (by kernel_rfl) ?_))
     exact .inr (.inl ⟨x128, x129, x130, x131, x132, x133, x134, x135, 0, hm, rfl, rfl⟩)
    ·
     obtain ⟨vv, H1, hC, rfl, rfl⟩ := ok_stat_take h118
     refine dR [(18, .tup [.agg ([aI x139, aI x140, aI x141, aR 4 10 x142.length, .pv .nils] ++ (aA .u8 64 x143)), aI 0])] [.box [aB x136, .pv (encSl (rI .u8) x137), aI x138] false, .box [aI 0, .pv .nils] false, .box [aI (IntKind.wrap .i64 x5), aR 3 69 y40.length] false, bR 91 69 R_stat_Col y40 0 0, bR 77 10 R_hist_Bucket x142 0 0] [0] [.ptr 0 0] (by kernel_rfl) (by kernel_rfl) (by kernel_rfl) hC (by kernel_rfl) (st 6 [(6, aI 0), (5, .ptr 5 0), (20, aI 0), (19, .agg ([aI x139, aI x140, aI x141, aR 4 10 x142.length, .pv .nils] ++ (aA .u8 64 x143))), (16, .tup [.agg ([aI x139, aI x140, aI x141, aR 4 10 x142.length, .pv .nils] ++ (aA .u8 64 x143)), aI 0])] [.box [aB x136, .pv (encSl (rI .u8) x137), aI x138] false, .box [aI 0, .pv .nils] false, .box [aI (IntKind.wrap .i64 x5), aR 3 69 y40.length] false, bR 91 69 R_stat_Col y40 0 0, bR 77 10 R_hist_Bucket x142 0 0, .box ([aI x139, aI x140, aI x141, aR 4 10 x142.length, .pv .nils] ++ (aA .u8 64 x143)) false] (by kernel_rfl) (fin [(0, .ptr 0 0), (2, .ptr 1 0), (4, .ptr 2 0), (5, .ptr 5 0), (6, aI 0), (13, aU x30), (14, aU y41)] rfl (by kernel_rfl) ?_))
     exact .inr (.inr (.inl ⟨x136, x137, x138, x139, x140, x141, x142, x143, 0, hm, rfl, rfl⟩))
    ·
     obtain ⟨vv, H1, hC, rfl, rfl⟩ := ok_stat_take h118
     refine dR [(18, .tup [.agg ([aI x147, aI x148, aI x149, aR 4 10 x150.length, aR 5 4 x151.length] ++ (aA .u8 64 x152)), aI 0])] [.box [aB x144, .pv (encSl (rI .u8) x145), aI x146] false, .box [aI 0, .pv .nils] false, .box [aI (IntKind.wrap .i64 x5), aR 3 69 y40.length] false, bR 91 69 R_stat_Col y40 0 0, bR 77 10 R_hist_Bucket x150 0 0, bR 64 4 R_api_Value x151 0 0] [0] [.ptr 0 0] (by kernel_rfl) (by kernel_rfl) (by kernel_rfl) hC (by kernel_rfl) (st 6 [(6, aI 0), (5, .ptr 6 0), (20, aI 0), (19, .agg ([aI x147, aI x148, aI x149, aR 4 10 x150.length, aR 5 4 x151.length] ++ (aA .u8 64 x152))), (16, .tup [.agg ([aI x147, aI x148, aI x149, aR 4 10 x150.length, aR 5 4 x151.length] ++ (aA .u8 64 x152)), aI 0])] [.box [aB x144, .pv (encSl (rI .u8) x145), aI x146] false, .box [aI 0, .pv .nils] false, .box [aI (IntKind.wrap .i64 x5), aR 3 69 y40.length] false, bR 91 69 R_stat_Col y40 0 0, bR 77 10 R_hist_Bucket x150 0 0, bR 64 4 R_api_Value x151 0 0, .box ([aI x147, aI x148, aI x149, aR 4 10 x150.length, aR 5 4 x151.length] ++ (aA .u8 64 x152)) false] (by kernel_rfl) (fin [(0, .ptr 0 0), (2, .ptr 1 0), (4, .ptr 2 0), (5, .ptr 6 0), (6, aI 0), (13, aU x30), (14, aU y41)] rfl (by kernel_rfl) ?_))
     exact .inr (.inr (.inr (⟨x144, x145, x146, x147, x148, x149, x150, x151, x152, 0, hm, rfl, rfl⟩)))
   ·
    refine cf h98 (by kernel_rfl) (wp_exit ?_)
    exact .inr (⟨y37, y38, y39, y40, aU x30, aU y41, aB (decide (y41 < x30)), hm, (mk_same (by kernel_rfl)), rfl⟩)
theorem ok_value_Same {n : Nat} {a0 : api_Value} {a1 : api_Value} {r : Bool} (hm : value_Same n a0 a1 = some r) :
    call G n 40 [.agg [aI a0.fKind, aI a0.fInt, aF a0.fFloat, aS a0.fText], .agg [aI a1.fKind, aI a1.fInt, aF a1.fFloat, aS a1.fText]] [] = some (.ret (aB r), []) := by
  unfold value_Same at hm
  obtain ⟨n, rfl, h0⟩ := at1_some hm
  replace hm := h0; clear h0
  refine callL 9 [(0, .agg [aI a0.fKind, aI a0.fInt, aF a0.fFloat, aS a0.fText]), (1, .agg [aI a1.fKind, aI a1.fInt, aF a1.fFloat, aS a1.fText])] func40 rfl (by kernel_rfl) (sq (det [(2, .ptr 0 0), (3, .ptr 1 0)] [.box [aI a0.fKind, aI a0.fInt, aF a0.fFloat, aS a0.fText] false, .box [aI a1.fKind, aI a1.fInt, aF a1.fFloat, aS a1.fText] false] (by kernel_rfl) (sq (rg (sh 2 [(6, .agg [aI a1.fKind, aI a1.fInt, aF a1.fFloat, aS a1.fText]), (5, .agg [aI a0.fKind, aI a0.fInt, aF a0.fFloat, aS a0.fText])] (by kernel_rfl) ?_)))))
  obtain ⟨x1, h2, hm⟩ := bs hm
  refine dv 7 (cpure (by kernel_rfl) (ok_value_Cmp h2) (by kernel_rfl) (by kernel_rfl) (by kernel_rfl)) (by kernel_rfl) (sh 2 [(4, aB (x1 == 0)), (8, aB (x1 == 0))] (by kernel_rfl) (fin [(4, aB (x1 == 0))] rfl (by kernel_rfl) (wp_ret ?_)))
  obtain rfl := Option.some.inj hm
  exact ⟨trivial, by kernel_rfl⟩
theorem ok_stat_buckets {n : Nat} {a0 : hist_Bucket} {a1 : hist_Bucket} {r : Bool} (hm : stat_buckets n a0 a1 = some r) :
    call G n 91 [.agg [aI a0.fLow.fKind, aI a0.fLow.fInt, aF a0.fLow.fFloat, aS a0.fLow.fText, aI a0.fHigh.fKind, aI a0.fHigh.fInt, aF a0.fHigh.fFloat, aS a0.fHigh.fText, aI a0.fCount, aI a0.fDistinct], .agg [aI a1.fLow.fKind, aI a1.fLow.fInt, aF a1.fLow.fFloat, aS a1.fLow.fText, aI a1.fHigh.fKind, aI a1.fHigh.fInt, aF a1.fHigh.fFloat, aS a1.fHigh.fText, aI a1.fCount, aI a1.fDistinct]] [] = some (.ret (aB r), []) := by
  unfold stat_buckets at hm
  obtain ⟨n, rfl, h0⟩ := at1_some hm
  replace hm := h0; clear h0
  refine callL 31 [(0, .agg [aI a0.fLow.fKind, aI a0.fLow.fInt, aF a0.fLow.fFloat, aS a0.fLow.fText, aI a0.fHigh.fKind, aI a0.fHigh.fInt, aF a0.fHigh.fFloat, aS a0.fHigh.fText, aI a0.fCount, aI a0.fDistinct]), (1, .agg [aI a1.fLow.fKind, aI a1.fLow.fInt, aF a1.fLow.fFloat, aS a1.fLow.fText, aI a1.fHigh.fKind, aI a1.fHigh.fInt, aF a1.fHigh.fFloat, aS a1.fHigh.fText, aI a1.fCount, aI a1.fDistinct])] func91 rfl (by kernel_rfl) (sq (det [(2, .ptr 0 0), (3, .ptr 1 0)] [.box [aI a0.fLow.fKind, aI a0.fLow.fInt, aF a0.fLow.fFloat, aS a0.fLow.fText, aI a0.fHigh.fKind, aI a0.fHigh.fInt, aF a0.fHigh.fFloat, aS a0.fHigh.fText, aI a0.fCount, aI a0.fDistinct] false, .box [aI a1.fLow.fKind, aI a1.fLow.fInt, aF a1.fLow.fFloat, aS a1.fLow.fText, aI a1.fHigh.fKind, aI a1.fHigh.fInt, aF a1.fHigh.fFloat, aS a1.fHigh.fText, aI a1.fCount, aI a1.fDistinct] false] (by kernel_rfl) (sq (rg (sh 4 [(8, .agg [aI a1.fLow.fKind, aI a1.fLow.fInt, aF a1.fLow.fFloat, aS a1.fLow.fText]), (7, .ptr 1 0), (6, .agg [aI a0.fLow.fKind, aI a0.fLow.fInt, aF a0.fLow.fFloat, aS a0.fLow.fText]), (5, .ptr 0 0)] (by kernel_rfl) ?_)))))
  obtain ⟨x1, h2, hm⟩ := bs hm
  refine dv 9 (cpure (by kernel_rfl) (ok_value_Same h2) (by kernel_rfl) (by kernel_rfl) (by kernel_rfl)) (by kernel_rfl) (sh 1 [(10, aB x1)] (by kernel_rfl) ?_)
  rcases bif_some hm with ⟨h3, hm⟩ | ⟨h3, hm⟩
  ·
   refine known [10, 9] h3 (by kernel_rfl) (sh 4 [(14, .agg [aI a1.fHigh.fKind, aI a1.fHigh.fInt, aF a1.fHigh.fFloat, aS a1.fHigh.fText]), (13, .ptr 1 4), (12, .agg [aI a0.fHigh.fKind, aI a0.fHigh.fInt, aF a0.fHigh.fFloat, aS a0.fHigh.fText]), (11, .ptr 0 4)] (by kernel_rfl) ?_)
   obtain ⟨x4, h5, hm⟩ := bs hm
   refine dv 15 (cpure (by kernel_rfl) (ok_value_Same h5) (by kernel_rfl) (by kernel_rfl) (by kernel_rfl)) (by kernel_rfl) (sh 2 [(17, aB x4), (16, aB x4)] (by kernel_rfl) ?_)
   refine seg x4 [17, 16, 15] (fun b => [(23, aB (b && (a0.fCount == a1.fCount))), (22, ifA b (aB (a0.fCount == a1.fCount)) (.undef)), (21, ifA b (aI a1.fCount) (.undef)), (20, ifA b (.ptr 1 8) (.undef)), (19, ifA b (aI a0.fCount) (.undef)), (18, ifA b (.ptr 0 8) (.undef))]) 19 (by kernel_rfl) ?_ ?_ ?_
   ·
    intro Q h
    refine sh 6 [(23, aB (a0.fCount == a1.fCount)), (22, aB (a0.fCount == a1.fCount)), (21, aI a1.fCount), (20, .ptr 1 8), (19, aI a0.fCount), (18, .ptr 0 8)] (by kernel_rfl) ?_
    exact sameN (by kernel_rfl) (by kernel_rfl) h
   ·
    intro Q h
    refine sh 6 [(23, aB false), (22, .undef), (21, .undef), (20, .undef), (19, .undef), (18, .undef)] (by kernel_rfl) ?_
    exact sameN (by kernel_rfl) (by kernel_rfl) h
   refine sh 1 [(24, aB (x4 && (a0.fCount == a1.fCount)))] (by kernel_rfl) ?_
   refine seg (x4 && (a0.fCount == a1.fCount)) [24, 23] (fun b => [(30, aB (b && (a0.fDistinct == a1.fDistinct))), (29, ifA b (aB (a0.fDistinct == a1.fDistinct)) (.undef)), (28, ifA b (aI a1.fDistinct) (.undef)), (27, ifA b (.ptr 1 9) (.undef)), (26, ifA b (aI a0.fDistinct) (.undef)), (25, ifA b (.ptr 0 9) (.undef))]) 26 (by kernel_rfl) ?_ ?_ ?_
   ·
    intro Q h
    refine sh 6 [(30, aB (a0.fDistinct == a1.fDistinct)), (29, aB (a0.fDistinct == a1.fDistinct)), (28, aI a1.fDistinct), (27, .ptr 1 9), (26, aI a0.fDistinct), (25, .ptr 0 9)] (by kernel_rfl) ?_
    exact sameN (by kernel_rfl) (by kernel_rfl) h
   ·
    intro Q h
    refine sh 6 [(30, aB false), (29, .undef), (28, .undef), (27, .undef), (26, .undef), (25, .undef)] (by kernel_rfl) ?_
    exact sameN (by kernel_rfl) (by kernel_rfl) h
   refine sh 1 [(4, aB ((x4 && (a0.fCount == a1.fCount)) && (a0.fDistinct == a1.fDistinct)))] (by kernel_rfl) (fin [(4, aB ((x4 && (a0.fCount == a1.fCount)) && (a0.fDistinct == a1.fDistinct)))] rfl (by kernel_rfl) (wp_ret ?_))
   obtain rfl := Option.some.inj hm
   exact ⟨trivial, by kernel_rfl⟩
  ·
   refine known [10, 9] h3 (by kernel_rfl) (sh 21 [(4, aB false), (30, aB false), (29, .undef), (28, .undef), (27, .undef), (26, .undef), (25, .undef), (24, aB false), (23, aB false), (22, .undef), (21, .undef), (20, .undef), (19, .undef), (18, .undef), (17, aB false), (16, aB false), (15, .undef), (14, .undef), (13, .undef), (12, .undef), (11, .undef)] (by kernel_rfl) (fin [(4, aB false)] rfl (by kernel_rfl) (wp_ret ?_)))
   obtain rfl := Option.some.inj hm
   exact ⟨trivial, by kernel_rfl⟩
theorem ok_slices_EqualFunc_Bucket_stat_buckets {n : Nat} {a0 : (Option (List hist_Bucket))} {a1 : (Option (List hist_Bucket))} {r : Bool} (hm : slices_EqualFunc_Bucket_stat_buckets n a0 a1 = some r) :
    call G n 90 [.pv (encSl R_hist_Bucket a0), .pv (encSl R_hist_Bucket a1), .pv (.fn 91 [] [])] [] = some (.ret (aB r), []) := by
  unfold slices_EqualFunc_Bucket_stat_buckets at hm
  obtain ⟨n, rfl, h0⟩ := at1_some hm
  replace hm := h0; clear h0
  refine callL 32 [(0, .pv (encSl R_hist_Bucket a0)), (1, .pv (encSl R_hist_Bucket a1)), (2, .pv (.fn 91 [] []))] func90 rfl (by kernel_rfl) (sq (detn [(0, .pv (encSl R_hist_Bucket a0)), (1, .pv (encSl R_hist_Bucket a1)), (2, .pv (.fn 91 [] []))] (by kernel_rfl) ?_))
  refine sq (sq (rg (sh 1 [(10, .pv (encSl R_hist_Bucket a0))] (by kernel_rfl) (dv 11 (v := aI ((sll a0).length : Int)) (len_slO R_hist_Bucket a0 t53 (by kernel_rfl)) (by kernel_rfl) (sh 1 [(12, .pv (encSl R_hist_Bucket a1))] (by kernel_rfl) (dv 13 (v := aI ((sll a1).length : Int)) (len_slO R_hist_Bucket a1 t53 (by kernel_rfl)) (by kernel_rfl) (sh 1 [(14, aB (((sll a0).length : Int) != ((sll a1).length : Int)))] (by kernel_rfl) (fin [(0, .pv (encSl R_hist_Bucket a0)), (1, .pv (encSl R_hist_Bucket a1)), (2, .pv (.fn 91 [] [])), (14, aB (((sll a0).length : Int) != ((sll a1).length : Int)))] rfl (by kernel_rfl) ?_))))))))
  rcases bif_some hm with ⟨h1, hm⟩ | ⟨h1, hm⟩
  ·
   refine ct h1 (by kernel_rfl) (sq (detn [(6, aB false)] (by kernel_rfl) (wp_ret ?_)))
   obtain rfl := Option.some.inj hm
   exact ⟨trivial, by kernel_rfl⟩
  ·
   refine cf h1 (by kernel_rfl) (wp_skip ?_)
   obtain ⟨k4, hk4, hm⟩ := withK_some hm
   refine mid (fun t H => (∃ (y2 : Int) (y3 : Bool), k4 () = some r ∧ t = mk 32 [(1, .pv (encSl R_hist_Bucket a1)), (2, .pv (.fn 91 [] [])), (15, .pv (encSl R_hist_Bucket a0)), (16, aI ((sll a0).length : Int)), (17, aI y2), (18, aB y3)] ∧ H = [])) ?_ ?_
   ·
    rintro _ _ ⟨y2, y3, hm, rfl, rfl⟩
    subst hk4
    refine sq (detn [(6, aB true)] (by kernel_rfl) (wp_ret ?_))
    obtain rfl := Option.some.inj hm
    exact ⟨trivial, by kernel_rfl⟩
   refine sq (rg (sh 1 [(15, .pv (encSl R_hist_Bucket a0))] (by kernel_rfl) (dv 16 (v := aI ((sll a0).length : Int)) (len_slO R_hist_Bucket a0 t53 (by kernel_rfl)) (by kernel_rfl) (sh 1 [(17, aI 0)] (by kernel_rfl) (fin [(1, .pv (encSl R_hist_Bucket a1)), (2, .pv (.fn 91 [] [])), (15, .pv (encSl R_hist_Bucket a0)), (16, aI ((sll a0).length : Int)), (17, aI 0)] rfl (by kernel_rfl) (bq ?_))))))
   refine loopF (fun mm t H => (∃ (y6 : Int), slices_EqualFunc_Bucket_stat_buckets_l4 n a0 a1 k4 mm y6 = some r ∧ t = mk 32 [(1, .pv (encSl R_hist_Bucket a1)), (2, .pv (.fn 91 [] [])), (15, .pv (encSl R_hist_Bucket a0)), (16, aI ((sll a0).length : Int)), (17, aI y6)] ∧ H = [])) (⟨0, hm, rfl, rfl⟩) ?_ ?_
   · rintro _ _ ⟨y6, hm, _⟩; exact nomatch hm
   rintro m7 _ _ ⟨y6, hm, rfl, rfl⟩
   simp only [slices_EqualFunc_Bucket_stat_buckets_l4] at hm
   refine sq (detn [(1, .pv (encSl R_hist_Bucket a1)), (2, .pv (.fn 91 [] [])), (15, .pv (encSl R_hist_Bucket a0)), (16, aI ((sll a0).length : Int)), (17, aI y6), (18, aB (decide (y6 < ((sll a0).length : Int))))] (by kernel_rfl) ?_)
   refine sq ?_
   rcases bif_some hm with ⟨h8, hm⟩ | ⟨h8, hm⟩
   ·
    refine ct h8 (by kernel_rfl) (wp_skip (sq (bq (sq (rg (sh 1 [(19, aI y6)] (by kernel_rfl) ?_))))))
    obtain ⟨x9, h10, hm⟩ := bs hm
    refine dv 20 (v := .pv (.ptr (R_hist_Bucket x9) 0)) (ia_slO R_hist_Bucket a0 .i64 t53 t77 h10 rfl (by kernel_rfl)) (by kernel_rfl) (st 4 [(7, aI y6), (8, .ptr 0 0), (21, .agg [aI x9.fLow.fKind, aI x9.fLow.fInt, aF x9.fLow.fFloat, aS x9.fLow.fText, aI x9.fHigh.fKind, aI x9.fHigh.fInt, aF x9.fHigh.fFloat, aS x9.fHigh.fText, aI x9.fCount, aI x9.fDistinct])] [.box [aI x9.fLow.fKind, aI x9.fLow.fInt, aF x9.fLow.fFloat, aS x9.fLow.fText, aI x9.fHigh.fKind, aI x9.fHigh.fInt, aF x9.fHigh.fFloat, aS x9.fHigh.fText, aI x9.fCount, aI x9.fDistinct] false] (by kernel_rfl) (fin [(1, .pv (encSl R_hist_Bucket a1)), (2, .pv (.fn 91 [] [])), (7, aI y6), (8, .ptr 0 0), (15, .pv (encSl R_hist_Bucket a0)), (16, aI ((sll a0).length : Int)), (17, aI y6)] rfl (by kernel_rfl) (sq (rg (sh 2 [(23, aI y6), (22, .pv (encSl R_hist_Bucket a1))] (by kernel_rfl) ?_)))))
    obtain ⟨x11, h12, hm⟩ := bs hm
    refine dv 24 (v := .pv (.ptr (R_hist_Bucket x11) 0)) (ia_slO R_hist_Bucket a1 .i64 t53 t77 h12 rfl (by kernel_rfl)) (by kernel_rfl) (st 3 [(9, .ptr 1 0), (25, .agg [aI x11.fLow.fKind, aI x11.fLow.fInt, aF x11.fLow.fFloat, aS x11.fLow.fText, aI x11.fHigh.fKind, aI x11.fHigh.fInt, aF x11.fHigh.fFloat, aS x11.fHigh.fText, aI x11.fCount, aI x11.fDistinct])] [.box [aI x9.fLow.fKind, aI x9.fLow.fInt, aF x9.fLow.fFloat, aS x9.fLow.fText, aI x9.fHigh.fKind, aI x9.fHigh.fInt, aF x9.fHigh.fFloat, aS x9.fHigh.fText, aI x9.fCount, aI x9.fDistinct] false, .box [aI x11.fLow.fKind, aI x11.fLow.fInt, aF x11.fLow.fFloat, aS x11.fLow.fText, aI x11.fHigh.fKind, aI x11.fHigh.fInt, aF x11.fHigh.fFloat, aS x11.fHigh.fText, aI x11.fCount, aI x11.fDistinct] false] (by kernel_rfl) (fin [(1, .pv (encSl R_hist_Bucket a1)), (2, .pv (.fn 91 [] [])), (8, .ptr 0 0), (9, .ptr 1 0), (15, .pv (encSl R_hist_Bucket a0)), (16, aI ((sll a0).length : Int)), (17, aI y6)] rfl (by kernel_rfl) (sq (rg (sh 3 [(28, .agg [aI x11.fLow.fKind, aI x11.fLow.fInt, aF x11.fLow.fFloat, aS x11.fLow.fText, aI x11.fHigh.fKind, aI x11.fHigh.fInt, aF x11.fHigh.fFloat, aS x11.fHigh.fText, aI x11.fCount, aI x11.fDistinct]), (27, .agg [aI x9.fLow.fKind, aI x9.fLow.fInt, aF x9.fLow.fFloat, aS x9.fLow.fText, aI x9.fHigh.fKind, aI x9.fHigh.fInt, aF x9.fHigh.fFloat, aS x9.fHigh.fText, aI x9.fCount, aI x9.fDistinct]), (26, .pv (.fn 91 [] []))] (by kernel_rfl) ?_)))))
    obtain ⟨x13, h14, hm⟩ := bs hm
    refine dv 29 (cpure (by kernel_rfl) (ok_stat_buckets h14) (by kernel_rfl) (by kernel_rfl) (by kernel_rfl)) (by kernel_rfl) (sh 1 [(30, aB (!x13))] (by kernel_rfl) (fin [(1, .pv (encSl R_hist_Bucket a1)), (2, .pv (.fn 91 [] [])), (15, .pv (encSl R_hist_Bucket a0)), (16, aI ((sll a0).length : Int)), (17, aI y6), (30, aB (!x13))] rfl (by kernel_rfl) ?_))
    rcases bif_some hm with ⟨h15, hm⟩ | ⟨h15, hm⟩
    ·
     refine ct h15 (by kernel_rfl) (sq (detn [(6, aB false)] (by kernel_rfl) (wp_ret ?_)))
     obtain rfl := Option.some.inj hm
     exact ⟨trivial, by kernel_rfl⟩
    ·
     refine cf h15 (by kernel_rfl) (wp_skip (detn [(1, .pv (encSl R_hist_Bucket a1)), (2, .pv (.fn 91 [] [])), (15, .pv (encSl R_hist_Bucket a0)), (16, aI ((sll a0).length : Int)), (17, aI (IntKind.wrap .i64 (y6 + 1)))] (by kernel_rfl) ?_))
     exact ⟨_, _, tidyL [(1, .pv (encSl R_hist_Bucket a1)), (2, .pv (.fn 91 [] [])), (15, .pv (encSl R_hist_Bucket a0)), (16, aI ((sll a0).length : Int)), (17, aI (IntKind.wrap .i64 (y6 + 1)))] [] (by kernel_rfl), ⟨(IntKind.wrap .i64 (y6 + 1)), hm, rfl, rfl⟩⟩
   ·
    refine cf h8 (by kernel_rfl) (wp_exit ?_)
    exact ⟨y6, (decide (y6 < ((sll a0).length : Int))), hm, rfl, rfl⟩
theorem ok_slices_EqualFunc_Value_value_Same {n : Nat} {a0 : (Option (List api_Value))} {a1 : (Option (List api_Value))} {r : Bool} (hm : slices_EqualFunc_Value_value_Same n a0 a1 = some r) :
    call G n 92 [.pv (encSl R_api_Value a0), .pv (encSl R_api_Value a1), .pv (.fn 40 [] [])] [] = some (.ret (aB r), []) := by
  unfold slices_EqualFunc_Value_value_Same at hm
  obtain ⟨n, rfl, h0⟩ := at1_some hm
  replace hm := h0; clear h0
  refine callL 32 [(0, .pv (encSl R_api_Value a0)), (1, .pv (encSl R_api_Value a1)), (2, .pv (.fn 40 [] []))] func92 rfl (by kernel_rfl) (sq (detn [(0, .pv (encSl R_api_Value a0)), (1, .pv (encSl R_api_Value a1)), (2, .pv (.fn 40 [] []))] (by kernel_rfl) ?_))
  refine sq (sq (rg (sh 1 [(10, .pv (encSl R_api_Value a0))] (by kernel_rfl) (dv 11 (v := aI ((sll a0).length : Int)) (len_slO R_api_Value a0 t52 (by kernel_rfl)) (by kernel_rfl) (sh 1 [(12, .pv (encSl R_api_Value a1))] (by kernel_rfl) (dv 13 (v := aI ((sll a1).length : Int)) (len_slO R_api_Value a1 t52 (by kernel_rfl)) (by kernel_rfl) (sh 1 [(14, aB (((sll a0).length : Int) != ((sll a1).length : Int)))] (by kernel_rfl) (fin [(0, .pv (encSl R_api_Value a0)), (1, .pv (encSl R_api_Value a1)), (2, .pv (.fn 40 [] [])), (14, aB (((sll a0).length : Int) != ((sll a1).length : Int)))] rfl (by kernel_rfl) ?_))))))))
  rcases bif_some hm with ⟨h1, hm⟩ | ⟨h1, hm⟩
  ·
   refine ct h1 (by kernel_rfl) (sq (detn [(6, aB false)] (by kernel_rfl) (wp_ret ?_)))
   obtain rfl := Option.some.inj hm
   exact ⟨trivial, by kernel_rfl⟩
  ·
   refine cf h1 (by kernel_rfl) (wp_skip ?_)
   obtain ⟨k4, hk4, hm⟩ := withK_some hm
   refine mid (fun t H => (∃ (y2 : Int) (y3 : Bool), k4 () = some r ∧ t = mk 32 [(1, .pv (encSl R_api_Value a1)), (2, .pv (.fn 40 [] [])), (15, .pv (encSl R_api_Value a0)), (16, aI ((sll a0).length : Int)), (17, aI y2), (18, aB y3)] ∧ H = [])) ?_ ?_
   ·
    rintro _ _ ⟨y2, y3, hm, rfl, rfl⟩
    subst hk4
    refine sq (detn [(6, aB true)] (by kernel_rfl) (wp_ret ?_))
    obtain rfl := Option.some.inj hm
    exact ⟨trivial, by kernel_rfl⟩
   refine sq (rg (sh 1 [(15, .pv (encSl R_api_Value a0))] (by kernel_rfl) (dv 16 (v := aI ((sll a0).length : Int)) (len_slO R_api_Value a0 t52 (by kernel_rfl)) (by kernel_rfl) (sh 1 [(17, aI 0)] (by kernel_rfl) (fin [(1, .pv (encSl R_api_Value a1)), (2, .pv (.fn 40 [] [])), (15, .pv (encSl R_api_Value a0)), (16, aI ((sll a0).length : Int)), (17, aI 0)] rfl (by kernel_rfl) (bq ?_))))))
   refine loopF (fun mm t H => (∃ (y6 : Int), slices_EqualFunc_Value_value_Same_l4 n a0 a1 k4 mm y6 = some r ∧ t = mk 32 [(1, .pv (encSl R_api_Value a1)), (2, .pv (.fn 40 [] [])), (15, .pv (encSl R_api_Value a0)), (16, aI ((sll a0).length : Int)), (17, aI y6)] ∧ H = [])) (⟨0, hm, rfl, rfl⟩) ?_ ?_
   · rintro _ _ ⟨y6, hm, _⟩; exact nomatch hm
   rintro m7 _ _ ⟨y6, hm, rfl, rfl⟩
   simp only [slices_EqualFunc_Value_value_Same_l4] at hm
   refine sq (detn [(1, .pv (encSl R_api_Value a1)), (2, .pv (.fn 40 [] [])), (15, .pv (encSl R_api_Value a0)), (16, aI ((sll a0).length : Int)), (17, aI y6), (18, aB (decide (y6 < ((sll a0).length : Int))))] (by kernel_rfl) ?_)
   refine sq ?_
   rcases bif_some hm with ⟨h8, hm⟩ | ⟨h8, hm⟩
   ·
    refine ct h8 (by kernel_rfl) (wp_skip (sq (bq (sq (rg (sh 1 [(19, aI y6)] (by kernel_rfl) ?_))))))
    obtain ⟨x9, h10, hm⟩ := bs hm
    refine dv 20 (v := .pv (.ptr (R_api_Value x9) 0)) (ia_slO R_api_Value a0 .i64 t52 t64 h10 rfl (by kernel_rfl)) (by kernel_rfl) (st 4 [(7, aI y6), (8, .ptr 0 0), (21, .agg [aI x9.fKind, aI x9.fInt, aF x9.fFloat, aS x9.fText])] [.box [aI x9.fKind, aI x9.fInt, aF x9.fFloat, aS x9.fText] false] (by kernel_rfl) (fin [(1, .pv (encSl R_api_Value a1)), (2, .pv (.fn 40 [] [])), (7, aI y6), (8, .ptr 0 0), (15, .pv (encSl R_api_Value a0)), (16, aI ((sll a0).length : Int)), (17, aI y6)] rfl (by kernel_rfl) (sq (rg (sh 2 [(23, aI y6), (22, .pv (encSl R_api_Value a1))] (by kernel_rfl) ?_)))))
    obtain ⟨x11, h12, hm⟩ := bs hm
    refine dv 24 (v := .pv (.ptr (R_api_Value x11) 0)) (ia_slO R_api_Value a1 .i64 t52 t64 h12 rfl (by kernel_rfl)) (by kernel_rfl) (st 3 [(9, .ptr 1 0), (25, .agg [aI x11.fKind, aI x11.fInt, aF x11.fFloat, aS x11.fText])] [.box [aI x9.fKind, aI x9.fInt, aF x9.fFloat, aS x9.fText] false, .box [aI x11.fKind, aI x11.fInt, aF x11.fFloat, aS x11.fText] false] (by kernel_rfl) (fin [(1, .pv (encSl R_api_Value a1)), (2, .pv (.fn 40 [] [])), (8, .ptr 0 0), (9, .ptr 1 0), (15, .pv (encSl R_api_Value a0)), (16, aI ((sll a0).length : Int)), (17, aI y6)] rfl (by kernel_rfl) (sq (rg (sh 3 [(28, .agg [aI x11.fKind, aI x11.fInt, aF x11.fFloat, aS x11.fText]), (27, .agg [aI x9.fKind, aI x9.fInt, aF x9.fFloat, aS x9.fText]), (26, .pv (.fn 40 [] []))] (by kernel_rfl) ?_)))))
    obtain ⟨x13, h14, hm⟩ := bs hm
    refine dv 29 (cpure (by kernel_rfl) (ok_value_Same h14) (by kernel_rfl) (by kernel_rfl) (by kernel_rfl)) (by kernel_rfl) (sh 1 [(30, aB (!x13))] (by kernel_rfl) (fin [(1, .pv (encSl R_api_Value a1)), (2, .pv (.fn 40 [] [])), (15, .pv (encSl R_api_Value a0)), (16, aI ((sll a0).length : Int)), (17, aI y6), (30, aB (!x13))] rfl (by kernel_rfl) ?_))
    rcases bif_some hm with ⟨h15, hm⟩ | ⟨h15, hm⟩
    ·
     refine ct h15 (by kernel_rfl) (sq (detn [(6, aB false)] (by kernel_rfl) (wp_ret ?_)))
     obtain rfl := Option.some.inj hm
     exact ⟨trivial, by kernel_rfl⟩
    ·
     refine cf h15 (by kernel_rfl) (wp_skip (detn [(1, .pv (encSl R_api_Value a1)), (2, .pv (.fn 40 [] [])), (15, .pv (encSl R_api_Value a0)), (16, aI ((sll a0).length : Int)), (17, aI (IntKind.wrap .i64 (y6 + 1)))] (by kernel_rfl) ?_))
     exact ⟨_, _, tidyL [(1, .pv (encSl R_api_Value a1)), (2, .pv (.fn 40 [] [])), (15, .pv (encSl R_api_Value a0)), (16, aI ((sll a0).length : Int)), (17, aI (IntKind.wrap .i64 (y6 + 1)))] [] (by kernel_rfl), ⟨(IntKind.wrap .i64 (y6 + 1)), hm, rfl, rfl⟩⟩
   ·
    refine cf h8 (by kernel_rfl) (wp_exit ?_)
    exact ⟨y6, (decide (y6 < ((sll a0).length : Int))), hm, rfl, rfl⟩
theorem ok_stat_columns {n : Nat} {a0 : stat_Col} {a1 : stat_Col} {r : Bool} (hm : stat_columns n a0 a1 = some r) :
    call G n 52 [.agg ([aI a0.fKind, aI a0.fNulls, aI a0.fDistinct, .pv (encSl R_hist_Bucket a0.fHist), .pv (encSl R_api_Value a0.fSample)] ++ (aA .u8 64 a0.fSketch.fRegs)), .agg ([aI a1.fKind, aI a1.fNulls, aI a1.fDistinct, .pv (encSl R_hist_Bucket a1.fHist), .pv (encSl R_api_Value a1.fSample)] ++ (aA .u8 64 a1.fSketch.fRegs))] [] = some (.ret (aB r), []) := by
  unfold stat_columns at hm
  obtain ⟨n, rfl, h0⟩ := at1_some hm
  replace hm := h0; clear h0
  refine callL 45 [(0, .agg ([aI a0.fKind, aI a0.fNulls, aI a0.fDistinct, .pv (encSl R_hist_Bucket a0.fHist), .pv (encSl R_api_Value a0.fSample)] ++ (aA .u8 64 a0.fSketch.fRegs))), (1, .agg ([aI a1.fKind, aI a1.fNulls, aI a1.fDistinct, .pv (encSl R_hist_Bucket a1.fHist), .pv (encSl R_api_Value a1.fSample)] ++ (aA .u8 64 a1.fSketch.fRegs)))] func52 rfl (by kernel_rfl) (sq (det [(2, .ptr 0 0), (3, .ptr 1 0)] [.box ([aI a0.fKind, aI a0.fNulls, aI a0.fDistinct, .pv (encSl R_hist_Bucket a0.fHist), .pv (encSl R_api_Value a0.fSample)] ++ (aA .u8 64 a0.fSketch.fRegs)) false, .box ([aI a1.fKind, aI a1.fNulls, aI a1.fDistinct, .pv (encSl R_hist_Bucket a1.fHist), .pv (encSl R_api_Value a1.fSample)] ++ (aA .u8 64 a1.fSketch.fRegs)) false] (by kernel_rfl) (sq (rg (sh 6 [(10, aB (a0.fKind == a1.fKind)), (9, aB (a0.fKind == a1.fKind)), (8, aI a1.fKind), (7, .ptr 1 0), (6, aI a0.fKind), (5, .ptr 0 0)] (by kernel_rfl) ?_)))))
  refine seg (a0.fKind == a1.fKind) [10, 9] (fun b => [(16, aB (b && (a0.fNulls == a1.fNulls))), (15, ifA b (aB (a0.fNulls == a1.fNulls)) (.undef)), (14, ifA b (aI a1.fNulls) (.undef)), (13, ifA b (.ptr 1 1) (.undef)), (12, ifA b (aI a0.fNulls) (.undef)), (11, ifA b (.ptr 0 1) (.undef))]) 12 (by kernel_rfl) ?_ ?_ ?_
  ·
   intro Q h
   refine sh 6 [(16, aB (a0.fNulls == a1.fNulls)), (15, aB (a0.fNulls == a1.fNulls)), (14, aI a1.fNulls), (13, .ptr 1 1), (12, aI a0.fNulls), (11, .ptr 0 1)] (by kernel_rfl) ?_
   exact sameN (by kernel_rfl) (by kernel_rfl) h
  ·
   intro Q h
   refine sh 6 [(16, aB false), (15, .undef), (14, .undef), (13, .undef), (12, .undef), (11, .undef)] (by kernel_rfl) ?_
   exact sameN (by kernel_rfl) (by kernel_rfl) h
  refine sh 1 [(17, aB ((a0.fKind == a1.fKind) && (a0.fNulls == a1.fNulls)))] (by kernel_rfl) ?_
  refine seg ((a0.fKind == a1.fKind) && (a0.fNulls == a1.fNulls)) [17, 16] (fun b => [(23, aB (b && (a0.fDistinct == a1.fDistinct))), (22, ifA b (aB (a0.fDistinct == a1.fDistinct)) (.undef)), (21, ifA b (aI a1.fDistinct) (.undef)), (20, ifA b (.ptr 1 2) (.undef)), (19, ifA b (aI a0.fDistinct) (.undef)), (18, ifA b (.ptr 0 2) (.undef))]) 19 (by kernel_rfl) ?_ ?_ ?_
  ·
   intro Q h
   refine sh 6 [(23, aB (a0.fDistinct == a1.fDistinct)), (22, aB (a0.fDistinct == a1.fDistinct)), (21, aI a1.fDistinct), (20, .ptr 1 2), (19, aI a0.fDistinct), (18, .ptr 0 2)] (by kernel_rfl) ?_
   exact sameN (by kernel_rfl) (by kernel_rfl) h
  ·
   intro Q h
   refine sh 6 [(23, aB false), (22, .undef), (21, .undef), (20, .undef), (19, .undef), (18, .undef)] (by kernel_rfl) ?_
   exact sameN (by kernel_rfl) (by kernel_rfl) h
  refine sh 1 [(24, aB (((a0.fKind == a1.fKind) && (a0.fNulls == a1.fNulls)) && (a0.fDistinct == a1.fDistinct)))] (by kernel_rfl) ?_
  rcases bif_some hm with ⟨h1, hm⟩ | ⟨h1, hm⟩
  ·
   refine known [24, 23] h1 (by kernel_rfl) (sh 4 [(28, .pv (encSl R_hist_Bucket a1.fHist)), (27, .ptr 1 3), (26, .pv (encSl R_hist_Bucket a0.fHist)), (25, .ptr 0 3)] (by kernel_rfl) ?_)
   obtain ⟨x2, h3, hm⟩ := bs hm
   refine dv 29 (cpure (by kernel_rfl) (ok_slices_EqualFunc_Bucket_stat_buckets h3) (by kernel_rfl) (by kernel_rfl) (by kernel_rfl)) (by kernel_rfl) (sh 2 [(31, aB x2), (30, aB x2)] (by kernel_rfl) ?_)
   rcases bif_some hm with ⟨h4, hm⟩ | ⟨h4, hm⟩
   ·
    refine known [31, 30, 29] h4 (by kernel_rfl) (sh 4 [(35, .pv (encSl R_api_Value a1.fSample)), (34, .ptr 1 4), (33, .pv (encSl R_api_Value a0.fSample)), (32, .ptr 0 4)] (by kernel_rfl) ?_)
    obtain ⟨x5, h6, hm⟩ := bs hm
    refine dv 36 (cpure (by kernel_rfl) (ok_slices_EqualFunc_Value_value_Same h6) (by kernel_rfl) (by kernel_rfl) (by kernel_rfl)) (by kernel_rfl) (sh 2 [(38, aB x5), (37, aB x5)] (by kernel_rfl) ?_)
    refine seg x5 [38, 37, 36] (fun b => [(44, aB (b && (eqA 64 a0.fSketch.fRegs a1.fSketch.fRegs))), (43, ifA b (aB (eqA 64 a0.fSketch.fRegs a1.fSketch.fRegs)) (.undef)), (42, ifA b (.agg (aA .u8 64 a1.fSketch.fRegs)) (.undef)), (41, ifA b (.ptr 1 5) (.undef)), (40, ifA b (.agg (aA .u8 64 a0.fSketch.fRegs)) (.undef)), (39, ifA b (.ptr 0 5) (.undef))]) 40 (by kernel_rfl) ?_ ?_ ?_
    ·
     intro Q h
     refine sh 6 [(44, aB (eqA 64 a0.fSketch.fRegs a1.fSketch.fRegs)), (43, aB (eqA 64 a0.fSketch.fRegs a1.fSketch.fRegs)), (42, .agg (aA .u8 64 a1.fSketch.fRegs)), (41, .ptr 1 5), (40, .agg (aA .u8 64 a0.fSketch.fRegs)), (39, .ptr 0 5)] (by kernel_rfl) ?_
     exact sameN (by kernel_rfl) (by kernel_rfl) h
    ·
     intro Q h
     refine sh 6 [(44, aB false), (43, .undef), (42, .undef), (41, .undef), (40, .undef), (39, .undef)] (by kernel_rfl) ?_
     exact sameN (by kernel_rfl) (by kernel_rfl) h
    refine sh 1 [(4, aB (x5 && (eqA 64 a0.fSketch.fRegs a1.fSketch.fRegs)))] (by kernel_rfl) (fin [(4, aB (x5 && (eqA 64 a0.fSketch.fRegs a1.fSketch.fRegs)))] rfl (by kernel_rfl) (wp_ret ?_))
    obtain rfl := Option.some.inj hm
    exact ⟨trivial, by kernel_rfl⟩
   ·
    refine known [31, 30, 29] h4 (by kernel_rfl) (sh 14 [(4, aB false), (44, aB false), (43, .undef), (42, .undef), (41, .undef), (40, .undef), (39, .undef), (38, aB false), (37, aB false), (36, .undef), (35, .undef), (34, .undef), (33, .undef), (32, .undef)] (by kernel_rfl) (fin [(4, aB false)] rfl (by kernel_rfl) (wp_ret ?_)))
    obtain rfl := Option.some.inj hm
    exact ⟨trivial, by kernel_rfl⟩
  ·
   refine known [24, 23] h1 (by kernel_rfl) (sh 21 [(4, aB false), (44, aB false), (43, .undef), (42, .undef), (41, .undef), (40, .undef), (39, .undef), (38, aB false), (37, aB false), (36, .undef), (35, .undef), (34, .undef), (33, .undef), (32, .undef), (31, aB false), (30, aB false), (29, .undef), (28, .undef), (27, .undef), (26, .undef), (25, .undef)] (by kernel_rfl) (fin [(4, aB false)] rfl (by kernel_rfl) (wp_ret ?_)))
   obtain rfl := Option.some.inj hm
   exact ⟨trivial, by kernel_rfl⟩
theorem ok_slices_EqualFunc_Col_stat_columns {n : Nat} {a0 : (Option (List stat_Col))} {a1 : (Option (List stat_Col))} {r : Bool} (hm : slices_EqualFunc_Col_stat_columns n a0 a1 = some r) :
    call G n 51 [.pv (encSl R_stat_Col a0), .pv (encSl R_stat_Col a1), .pv (.fn 52 [] [])] [] = some (.ret (aB r), []) := by
  unfold slices_EqualFunc_Col_stat_columns at hm
  obtain ⟨n, rfl, h0⟩ := at1_some hm
  replace hm := h0; clear h0
  refine callL 32 [(0, .pv (encSl R_stat_Col a0)), (1, .pv (encSl R_stat_Col a1)), (2, .pv (.fn 52 [] []))] func51 rfl (by kernel_rfl) (sq (detn [(0, .pv (encSl R_stat_Col a0)), (1, .pv (encSl R_stat_Col a1)), (2, .pv (.fn 52 [] []))] (by kernel_rfl) ?_))
  refine sq (sq (rg (sh 1 [(10, .pv (encSl R_stat_Col a0))] (by kernel_rfl) (dv 11 (v := aI ((sll a0).length : Int)) (len_slO R_stat_Col a0 t29 (by kernel_rfl)) (by kernel_rfl) (sh 1 [(12, .pv (encSl R_stat_Col a1))] (by kernel_rfl) (dv 13 (v := aI ((sll a1).length : Int)) (len_slO R_stat_Col a1 t29 (by kernel_rfl)) (by kernel_rfl) (sh 1 [(14, aB (((sll a0).length : Int) != ((sll a1).length : Int)))] (by kernel_rfl) (fin [(0, .pv (encSl R_stat_Col a0)), (1, .pv (encSl R_stat_Col a1)), (2, .pv (.fn 52 [] [])), (14, aB (((sll a0).length : Int) != ((sll a1).length : Int)))] rfl (by kernel_rfl) ?_))))))))
  rcases bif_some hm with ⟨h1, hm⟩ | ⟨h1, hm⟩
  ·
   refine ct h1 (by kernel_rfl) (sq (detn [(6, aB false)] (by kernel_rfl) (wp_ret ?_)))
   obtain rfl := Option.some.inj hm
   exact ⟨trivial, by kernel_rfl⟩
  ·
   refine cf h1 (by kernel_rfl) (wp_skip ?_)
   obtain ⟨k4, hk4, hm⟩ := withK_some hm
   refine mid (fun t H => (∃ (y2 : Int) (y3 : Bool), k4 () = some r ∧ t = mk 32 [(1, .pv (encSl R_stat_Col a1)), (2, .pv (.fn 52 [] [])), (15, .pv (encSl R_stat_Col a0)), (16, aI ((sll a0).length : Int)), (17, aI y2), (18, aB y3)] ∧ H = [])) ?_ ?_
   ·
    rintro _ _ ⟨y2, y3, hm, rfl, rfl⟩
    subst hk4
    refine sq (detn [(6, aB true)] (by kernel_rfl) (wp_ret ?_))
    obtain rfl := Option.some.inj hm
    exact ⟨trivial, by kernel_rfl⟩
   refine sq (rg (sh 1 [(15, .pv (encSl R_stat_Col a0))] (by kernel_rfl) (dv 16 (v := aI ((sll a0).length : Int)) (len_slO R_stat_Col a0 t29 (by kernel_rfl)) (by kernel_rfl) (sh 1 [(17, aI 0)] (by kernel_rfl) (fin [(1, .pv (encSl R_stat_Col a1)), (2, .pv (.fn 52 [] [])), (15, .pv (encSl R_stat_Col a0)), (16, aI ((sll a0).length : Int)), (17, aI 0)] rfl (by kernel_rfl) (bq ?_))))))
   refine loopF (fun mm t H => (∃ (y6 : Int), slices_EqualFunc_Col_stat_columns_l4 n a0 a1 k4 mm y6 = some r ∧ t = mk 32 [(1, .pv (encSl R_stat_Col a1)), (2, .pv (.fn 52 [] [])), (15, .pv (encSl R_stat_Col a0)), (16, aI ((sll a0).length : Int)), (17, aI y6)] ∧ H = [])) (⟨0, hm, rfl, rfl⟩) ?_ ?_
   · rintro _ _ ⟨y6, hm, _⟩; exact nomatch hm
   rintro m7 _ _ ⟨y6, hm, rfl, rfl⟩
   simp only [slices_EqualFunc_Col_stat_columns_l4] at hm
   refine sq (detn [(1, .pv (encSl R_stat_Col a1)), (2, .pv (.fn 52 [] [])), (15, .pv (encSl R_stat_Col a0)), (16, aI ((sll a0).length : Int)), (17, aI y6), (18, aB (decide (y6 < ((sll a0).length : Int))))] (by kernel_rfl) ?_)
   refine sq ?_
   rcases bif_some hm with ⟨h8, hm⟩ | ⟨h8, hm⟩
   ·
    refine ct h8 (by kernel_rfl) (wp_skip (sq (bq (sq (rg (sh 1 [(19, aI y6)] (by kernel_rfl) ?_))))))
    obtain ⟨x9, h10, hm⟩ := bs hm
    refine dv 20 (v := .pv (.ptr (R_stat_Col x9) 0)) (ia_slO R_stat_Col a0 .i64 t29 t91 h10 rfl (by kernel_rfl)) (by kernel_rfl) (st 4 [(7, aI y6), (8, .ptr 0 0), (21, .agg ([aI x9.fKind, aI x9.fNulls, aI x9.fDistinct, .pv (encSl R_hist_Bucket x9.fHist), .pv (encSl R_api_Value x9.fSample)] ++ (aA .u8 64 x9.fSketch.fRegs)))] [.box ([aI x9.fKind, aI x9.fNulls, aI x9.fDistinct, .pv (encSl R_hist_Bucket x9.fHist), .pv (encSl R_api_Value x9.fSample)] ++ (aA .u8 64 x9.fSketch.fRegs)) false] (by kernel_rfl) (fin [(1, .pv (encSl R_stat_Col a1)), (2, .pv (.fn 52 [] [])), (7, aI y6), (8, .ptr 0 0), (15, .pv (encSl R_stat_Col a0)), (16, aI ((sll a0).length : Int)), (17, aI y6)] rfl (by kernel_rfl) (sq (rg (sh 2 [(23, aI y6), (22, .pv (encSl R_stat_Col a1))] (by kernel_rfl) ?_)))))
    obtain ⟨x11, h12, hm⟩ := bs hm
    refine dv 24 (v := .pv (.ptr (R_stat_Col x11) 0)) (ia_slO R_stat_Col a1 .i64 t29 t91 h12 rfl (by kernel_rfl)) (by kernel_rfl) (st 3 [(9, .ptr 1 0), (25, .agg ([aI x11.fKind, aI x11.fNulls, aI x11.fDistinct, .pv (encSl R_hist_Bucket x11.fHist), .pv (encSl R_api_Value x11.fSample)] ++ (aA .u8 64 x11.fSketch.fRegs)))] [.box ([aI x9.fKind, aI x9.fNulls, aI x9.fDistinct, .pv (encSl R_hist_Bucket x9.fHist), .pv (encSl R_api_Value x9.fSample)] ++ (aA .u8 64 x9.fSketch.fRegs)) false, .box ([aI x11.fKind, aI x11.fNulls, aI x11.fDistinct, .pv (encSl R_hist_Bucket x11.fHist), .pv (encSl R_api_Value x11.fSample)] ++ (aA .u8 64 x11.fSketch.fRegs)) false] (by kernel_rfl) (fin [(1, .pv (encSl R_stat_Col a1)), (2, .pv (.fn 52 [] [])), (8, .ptr 0 0), (9, .ptr 1 0), (15, .pv (encSl R_stat_Col a0)), (16, aI ((sll a0).length : Int)), (17, aI y6)] rfl (by kernel_rfl) (sq (rg (sh 3 [(28, .agg ([aI x11.fKind, aI x11.fNulls, aI x11.fDistinct, .pv (encSl R_hist_Bucket x11.fHist), .pv (encSl R_api_Value x11.fSample)] ++ (aA .u8 64 x11.fSketch.fRegs))), (27, .agg ([aI x9.fKind, aI x9.fNulls, aI x9.fDistinct, .pv (encSl R_hist_Bucket x9.fHist), .pv (encSl R_api_Value x9.fSample)] ++ (aA .u8 64 x9.fSketch.fRegs))), (26, .pv (.fn 52 [] []))] (by kernel_rfl) ?_)))))
    obtain ⟨x13, h14, hm⟩ := bs hm
    refine dv 29 (cpure (by kernel_rfl) (ok_stat_columns h14) (by kernel_rfl) (by kernel_rfl) (by kernel_rfl)) (by kernel_rfl) (sh 1 [(30, aB (!x13))] (by kernel_rfl) (fin [(1, .pv (encSl R_stat_Col a1)), (2, .pv (.fn 52 [] [])), (15, .pv (encSl R_stat_Col a0)), (16, aI ((sll a0).length : Int)), (17, aI y6), (30, aB (!x13))] rfl (by kernel_rfl) ?_))
    rcases bif_some hm with ⟨h15, hm⟩ | ⟨h15, hm⟩
    ·
     refine ct h15 (by kernel_rfl) (sq (detn [(6, aB false)] (by kernel_rfl) (wp_ret ?_)))
     obtain rfl := Option.some.inj hm
     exact ⟨trivial, by kernel_rfl⟩
    ·
     refine cf h15 (by kernel_rfl) (wp_skip (detn [(1, .pv (encSl R_stat_Col a1)), (2, .pv (.fn 52 [] [])), (15, .pv (encSl R_stat_Col a0)), (16, aI ((sll a0).length : Int)), (17, aI (IntKind.wrap .i64 (y6 + 1)))] (by kernel_rfl) ?_))
     exact ⟨_, _, tidyL [(1, .pv (encSl R_stat_Col a1)), (2, .pv (.fn 52 [] [])), (15, .pv (encSl R_stat_Col a0)), (16, aI ((sll a0).length : Int)), (17, aI (IntKind.wrap .i64 (y6 + 1)))] [] (by kernel_rfl), ⟨(IntKind.wrap .i64 (y6 + 1)), hm, rfl, rfl⟩⟩
   ·
    refine cf h8 (by kernel_rfl) (wp_exit ?_)
    exact ⟨y6, (decide (y6 < ((sll a0).length : Int))), hm, rfl, rfl⟩
theorem ok_stat_Same {n : Nat} {a0 : stat_Stat} {a1 : stat_Stat} {r : Bool} (hm : stat_Same n a0 a1 = some r) :
    call G n 16 [.agg [aI a0.fRows, .pv (encSl R_stat_Col a0.fCols)], .agg [aI a1.fRows, .pv (encSl R_stat_Col a1.fCols)]] [] = some (.ret (aB r), []) := by
  unfold stat_Same at hm
  obtain ⟨n, rfl, h0⟩ := at1_some hm
  replace hm := h0; clear h0
  refine callL 17 [(0, .agg [aI a0.fRows, .pv (encSl R_stat_Col a0.fCols)]), (1, .agg [aI a1.fRows, .pv (encSl R_stat_Col a1.fCols)])] func16 rfl (by kernel_rfl) (sq (det [(2, .ptr 0 0), (3, .ptr 1 0)] [.box [aI a0.fRows, .pv (encSl R_stat_Col a0.fCols)] false, .box [aI a1.fRows, .pv (encSl R_stat_Col a1.fCols)] false] (by kernel_rfl) (sq (rg (sh 6 [(10, aB (a0.fRows == a1.fRows)), (9, aB (a0.fRows == a1.fRows)), (8, aI a1.fRows), (7, .ptr 1 0), (6, aI a0.fRows), (5, .ptr 0 0)] (by kernel_rfl) ?_)))))
  rcases bif_some hm with ⟨h1, hm⟩ | ⟨h1, hm⟩
  ·
   refine known [10, 9] h1 (by kernel_rfl) (sh 4 [(14, .pv (encSl R_stat_Col a1.fCols)), (13, .ptr 1 1), (12, .pv (encSl R_stat_Col a0.fCols)), (11, .ptr 0 1)] (by kernel_rfl) ?_)
   obtain ⟨x2, h3, hm⟩ := bs hm
   refine dv 15 (cpure (by kernel_rfl) (ok_slices_EqualFunc_Col_stat_columns h3) (by kernel_rfl) (by kernel_rfl) (by kernel_rfl)) (by kernel_rfl) (sh 2 [(4, aB x2), (16, aB x2)] (by kernel_rfl) (fin [(4, aB x2)] rfl (by kernel_rfl) (wp_ret ?_)))
   obtain rfl := Option.some.inj hm
   exact ⟨trivial, by kernel_rfl⟩
  ·
   refine known [10, 9] h1 (by kernel_rfl) (sh 7 [(4, aB false), (16, aB false), (15, .undef), (14, .undef), (13, .undef), (12, .undef), (11, .undef)] (by kernel_rfl) (fin [(4, aB false)] rfl (by kernel_rfl) (wp_ret ?_)))
   obtain rfl := Option.some.inj hm
   exact ⟨trivial, by kernel_rfl⟩
theorem ok_codec_Reader_Left {n : Nat} {a0 : codec_Reader} {r : Int} (hm : codec_Reader_Left n a0 = some r) :
    ∃ vv H1, call G n 25 [.ptr 0 0] [.box [aB a0.fmade, .pv (encSl (rI .u8) a0.fb), aI a0.fe] false] = some (.ret vv, H1) ∧ (match r with | r0 => (vv = aI r0 ∧ H1 = [.box [aB a0.fmade, .pv (encSl (rI .u8) a0.fb), aI a0.fe] false])) := by
  unfold codec_Reader_Left at hm
  obtain ⟨n, rfl, h0⟩ := at1_some hm
  replace hm := h0; clear h0
  refine callE 11 [(0, .ptr 0 0)] func25 rfl (by kernel_rfl) (sq (detn [(0, .ptr 0 0)] (by kernel_rfl) (sq (sq (rg (sh 1 [(3, .ptr 0 0)] (by kernel_rfl) ?_))))))
  obtain ⟨_, h1, hm⟩ := bs hm
  obtain ⟨vv, H1, hC, rfl, rfl⟩ := ok_codec_Reader_ready h1
  refine dR [(4, aB (a0.fmade && (a0.fe == 0)))] [.box [aB a0.fmade, .pv (encSl (rI .u8) a0.fb), aI a0.fe] false] [0] [.ptr 0 0] (by kernel_rfl) (by kernel_rfl) (by kernel_rfl) hC (by kernel_rfl) (sh 1 [(5, aB (!(a0.fmade && (a0.fe == 0))))] (by kernel_rfl) (fin [(0, .ptr 0 0), (5, aB (!(a0.fmade && (a0.fe == 0))))] rfl (by kernel_rfl) ?_))
  rcases bif_some hm with ⟨h2, hm⟩ | ⟨h2, hm⟩
  ·
   refine ct h2 (by kernel_rfl) (sq (detn [(2, aI 0)] (by kernel_rfl) (wp_ret ?_)))
   obtain rfl := Option.some.inj hm
   exact ⟨trivial, aI 0, [.box [aB a0.fmade, .pv (encSl (rI .u8) a0.fb), aI a0.fe] false], by kernel_rfl, rfl, rfl⟩
  ·
   refine cf h2 (by kernel_rfl) (wp_skip (sq (rg (sh 4 [(9, .pv (encSl (rI .u8) a0.fb)), (8, .ptr 0 1), (7, .ptr 0 0), (6, .ptr 0 0)] (by kernel_rfl) (dv 10 (v := aI ((sll a0.fb).length : Int)) (len_slO (rI .u8) a0.fb t43 (by kernel_rfl)) (by kernel_rfl) (sh 1 [(2, aI ((sll a0.fb).length : Int))] (by kernel_rfl) (fin [(2, aI ((sll a0.fb).length : Int))] rfl (by kernel_rfl) (wp_ret ?_))))))))
   obtain rfl := Option.some.inj hm
   exact ⟨trivial, aI ((sll a0.fb).length : Int), [.box [aB a0.fmade, .pv (encSl (rI .u8) a0.fb), aI a0.fe] false], by kernel_rfl, rfl, rfl⟩
theorem ok_stat_Put_nil_2 (m0 : Nat) (f0 : Nat) {n : Nat} {a0 : (List stat_Col)} {a1 : Int} {r : (List Int)} (hm0 : a0.length = m0) (hf0 : f0 ≤ a0.length) (hm : stat_Put_nil_2 n a0 a1 = some r) :
    ∃ vv H1, call G n 22 [.pv .nils, .agg [aI a1, aR 0 69 m0]] [bR 91 69 R_stat_Col a0 f0 0] = some (.ret vv, H1) ∧ (match r with | r0 => (∃ (e1 : Nat) (e2 : Nat), r0.length = e1 ∧ e2 ≤ r0.length ∧ vv = aR 1 1 e1 ∧ H1 = [bR 91 69 R_stat_Col a0 f0 0, bR 5 1 (rI .u8) r0 e2 0])) := by
  unfold stat_Put_nil_2 at hm
  obtain ⟨n, rfl, h0⟩ := at1_some hm
  replace hm := h0; clear h0
  refine callE 61 [(0, .pv .nils), (1, .agg [aI a1, aR 0 69 m0])] func22 rfl (by kernel_rfl) (sq (det [(0, .pv .nils), (3, .ptr 1 0)] [bR 91 69 R_stat_Col a0 f0 0, .box [aI a1, aR 0 69 m0] false] (by kernel_rfl) (sq (rgd (shd 3 [(11, aI a1), (10, .ptr 1 0), (9, .pv .nils)] (by kernel_rfl) ?_)))))
  obtain ⟨x2, h1, hm⟩ := bs hm
  obtain ⟨vv, H1, hC, rfl, rfl⟩ := ok_stat_number_nil h1
  refine dRd [(12, aR 2 1 x2.length)] [bR 91 69 R_stat_Col a0 f0 0, .box [aI a1, aR 0 69 m0] false, bR 5 1 (rI .u8) x2 0 0] [] [.pv .nils, aI a1] (by kernel_rfl) (by kernel_rfl) (by kernel_rfl) hC (by kernel_rfl) (shd 2 [(14, aR 0 69 m0), (13, .ptr 1 1)] (by kernel_rfl) (dvd 15 (v := aI (a0.length : Int)) (len_refO a0 (n := m0) (id := 0) (esz := 69) t29 (by omega) (by kernel_rfl)) (by kernel_rfl) ?_))
  obtain ⟨x4, h3, hm⟩ := bs hm
  obtain ⟨vv, H1, hC, g5, q6, rfl, rfl⟩ := ok_stat_number_r x2.length 0 (by first | rfl | assumption | omega | (simp only [List.length_set, List.length_append, List.length_cons, List.length_nil, List.length_replicate, List.length_drop] at * <;> omega)) (by first | exact Nat.zero_le _ | exact Nat.le_refl _ | assumption | omega | (simp only [List.length_set, List.length_append, List.length_cons, List.length_nil, List.length_replicate, List.length_drop] at * <;> omega)) h3
  refine dRd [(16, aR 2 1 x4.length)] [bR 91 69 R_stat_Col a0 f0 0, .box [aI a1, aR 0 69 m0] false, bR 5 1 (rI .u8) x4 g5 0] [2] [aR 2 1 x2.length, aI (a0.length : Int)] (by kernel_rfl) (by kernel_rfl) (by kernel_rfl) hC (by kernel_rfl) (shd 1 [(0, aR 2 1 x4.length)] (by kernel_rfl) (find [(0, aR 2 1 x4.length), (3, .ptr 1 0)] rfl (by kernel_rfl) (by kernel_rfl) ?_))
  obtain ⟨k14, hk14, hm⟩ := withK_some hm
  refine mid (fun t H => (∃ (y7 : (List Int)) (y8 : Int) (y9 : Bool) (g10 : Nat) (g12 : Nat), k14 y7 = some r ∧ t = mk 61 [(0, aR 2 1 g10), (18, aR 0 69 m0), (19, aI (a0.length : Int)), (20, aI y8), (21, aB y9)] ∧ H = [bR 91 69 R_stat_Col a0 f0 0, .box [aI a1, aR 0 69 m0] false, bR 5 1 (rI .u8) y7 g12 0] ∧ y7.length = g10 ∧ g12 ≤ y7.length)) ?_ ?_
  ·
   rintro _ _ ⟨y7, y8, y9, g10, g12, hm, rfl, rfl, q11, q13⟩
   subst hk14
   refine sq (detn [(4, aR 2 1 g10)] (by kernel_rfl) (wp_ret ?_))
   obtain rfl := Option.some.inj hm
   exact ⟨trivial, aR 1 1 g10, [bR 91 69 R_stat_Col a0 f0 0, bR 5 1 (rI .u8) y7 g12 0], by kernel_rfl, g10, g12, (by first | rfl | assumption | omega | (simp only [List.length_set, List.length_append, List.length_cons, List.length_nil, List.length_replicate, List.length_drop] at * <;> omega)), (by first | exact Nat.zero_le _ | exact Nat.le_refl _ | assumption | omega | (simp only [List.length_set, List.length_append, List.length_cons, List.length_nil, List.length_replicate, List.length_drop] at * <;> omega)), rfl, rfl⟩
  refine sq (rg (sh 2 [(18, aR 0 69 m0), (17, .ptr 1 1)] (by kernel_rfl) (dv 19 (v := aI (a0.length : Int)) (len_refO a0 (n := m0) (id := 0) (esz := 69) t29 (by omega) (by kernel_rfl)) (by kernel_rfl) (sh 1 [(20, aI 0)] (by kernel_rfl) (fin [(0, aR 2 1 x4.length), (18, aR 0 69 m0), (19, aI (a0.length : Int)), (20, aI 0)] rfl (by kernel_rfl) (bq ?_))))))
  refine loopF (fun mm t H => (∃ (y21 : (List Int)) (y22 : Int) (g23 : Nat) (g25 : Nat), stat_Put_nil_2_l3 n a0 k14 mm y21 y22 = some r ∧ t = mk 61 [(0, aR 2 1 g23), (18, aR 0 69 m0), (19, aI (a0.length : Int)), (20, aI y22)] ∧ H = [bR 91 69 R_stat_Col a0 f0 0, .box [aI a1, aR 0 69 m0] false, bR 5 1 (rI .u8) y21 g25 0] ∧ y21.length = g23 ∧ g25 ≤ y21.length)) (⟨x4, 0, x4.length, g5, hm, rfl, rfl, (by first | rfl | assumption | omega | (simp only [List.length_set, List.length_append, List.length_cons, List.length_nil, List.length_replicate, List.length_drop] at * <;> omega)), (by first | exact Nat.zero_le _ | exact Nat.le_refl _ | assumption | omega | (simp only [List.length_set, List.length_append, List.length_cons, List.length_nil, List.length_replicate, List.length_drop] at * <;> omega))⟩) ?_ ?_
  · rintro _ _ ⟨y21, y22, g23, g25, hm, _⟩; exact nomatch hm
  rintro m27 _ _ ⟨y21, y22, g23, g25, hm, rfl, rfl, q24, q26⟩
  simp only [stat_Put_nil_2_l3] at hm
  refine sq (detn [(0, aR 2 1 g23), (18, aR 0 69 m0), (19, aI (a0.length : Int)), (20, aI y22), (21, aB (decide (y22 < (a0.length : Int))))] (by kernel_rfl) ?_)
  refine sq ?_
  rcases bif_some hm with ⟨h28, hm⟩ | ⟨h28, hm⟩
  ·
   refine ct h28 (by kernel_rfl) (wp_skip ?_)
   obtain ⟨k42, hk42, hm⟩ := withK_some hm
   refine mid (fun t H => (∃ (y29 : (List Int)) (y30 : Int) (y31 : Int) (y32 : Int) (y33 : (Option (List hist_Bucket))) (y34 : (Option (List api_Value))) (y35 : (Nat → Int)) (y36 : (List Int)) (g37 : Nat) (g39 : Nat), k42 y29 = some r ∧ t = mk 61 [(0, aR 2 1 g37), (18, aR 0 69 m0), (19, aI (a0.length : Int)), (20, aI y22)] ∧ H = [bR 91 69 R_stat_Col a0 f0 0, .box [aI a1, aR 0 69 m0] false, bR 5 1 (rI .u8) y29 g39 0, .box ([aI y30, aI y31, aI y32, .pv (encSl R_hist_Bucket y33), .pv (encSl R_api_Value y34)] ++ (aA .u8 64 y35)) false, bR 5 1 (rI .u8) y36 0 0] ∧ y29.length = g37 ∧ g39 ≤ y29.length ∧ y36.length = 1)) ?_ ?_
   ·
    rintro _ _ ⟨y29, y30, y31, y32, y33, y34, y35, y36, g37, g39, hm, rfl, rfl, q38, q40, q41⟩
    subst hk42
    refine detn [(0, aR 2 1 g37), (18, aR 0 69 m0), (19, aI (a0.length : Int)), (20, aI (IntKind.wrap .i64 (y22 + 1)))] (by kernel_rfl) ?_
    exact ⟨_, _, tidyL [(0, aR 2 1 g37), (18, aR 0 69 m0), (19, aI (a0.length : Int)), (20, aI (IntKind.wrap .i64 (y22 + 1)))] [bR 91 69 R_stat_Col a0 f0 0, .box [aI a1, aR 0 69 m0] false, bR 5 1 (rI .u8) y29 g39 0] (by kernel_rfl), ⟨y29, (IntKind.wrap .i64 (y22 + 1)), g37, g39, hm, rfl, rfl, (by first | rfl | assumption | omega | (simp only [List.length_set, List.length_append, List.length_cons, List.length_nil, List.length_replicate, List.length_drop] at * <;> omega)), (by first | exact Nat.zero_le _ | exact Nat.le_refl _ | assumption | omega | (simp only [List.length_set, List.length_append, List.length_cons, List.length_nil, List.length_replicate, List.length_drop] at * <;> omega))⟩⟩
   refine bq (sq (rg ?_))
   obtain ⟨x43, h44, hm⟩ := bs hm
   refine dv 22 (v := .eptr 0 0 m0 69 (0 + Int.toNat y22) 0) (ia_refO a0 .i64 (n := m0) (id := 0) (esz := 69) t29 t91 h44 (by omega) rfl (by kernel_rfl)) (by kernel_rfl) (dv 23 (v := .agg ([aI x43.fKind, aI x43.fNulls, aI x43.fDistinct, .pv (encSl R_hist_Bucket x43.fHist), .pv (encSl R_api_Value x43.fSample)] ++ (aA .u8 64 x43.fSketch.fRegs))) (ld_eptrO R_stat_Col a0 (n := m0) (esz := 69) (j := y22) (off := 0) (id := 0) t91 rfl h44 (by omega) (by omega) (by kernel_rfl) (by kernel_rfl)) (by kernel_rfl) (st 2 [(6, .ptr 3 0)] [bR 91 69 R_stat_Col a0 f0 0, .box [aI a1, aR 0 69 m0] false, bR 5 1 (rI .u8) y21 g25 0, .box ([aI x43.fKind, aI x43.fNulls, aI x43.fDistinct, .pv (encSl R_hist_Bucket x43.fHist), .pv (encSl R_api_Value x43.fSample)] ++ (aA .u8 64 x43.fSketch.fRegs)) false] (by kernel_rfl) (fin [(0, aR 2 1 g23), (6, .ptr 3 0), (18, aR 0 69 m0), (19, aI (a0.length : Int)), (20, aI y22)] rfl (by kernel_rfl) (sq (rgd (std 5 [(28, aR 4 1 1), (27, aY (IntKind.wrap .u8 x43.fKind)), (26, aI x43.fKind), (25, .ptr 3 0), (24, aR 2 1 g23)] [bR 91 69 R_stat_Col a0 f0 0, .box [aI a1, aR 0 69 m0] false, bR 5 1 (rI .u8) y21 g25 0, .box ([aI x43.fKind, aI x43.fNulls, aI x43.fDistinct, .pv (encSl R_hist_Bucket x43.fHist), .pv (encSl R_api_Value x43.fSample)] ++ (aA .u8 64 x43.fSketch.fRegs)) false, bR 5 1 (rI .u8) ([(IntKind.wrap .u8 x43.fKind)] : List Int) 0 0] (by kernel_rfl) ?_))))))
   obtain ⟨_, h45, hm⟩ := bs hm
   refine dOd [(29, aR 2 1 ((y21 ++ ([(IntKind.wrap .u8 x43.fKind)] : List Int)).length))] [bR 91 69 R_stat_Col a0 f0 0, .box [aI a1, aR 0 69 m0] false, bR 5 1 (rI .u8) (y21 ++ ([(IntKind.wrap .u8 x43.fKind)] : List Int)) g25 0, .box ([aI x43.fKind, aI x43.fNulls, aI x43.fDistinct, .pv (encSl R_hist_Bucket x43.fHist), .pv (encSl R_api_Value x43.fSample)] ++ (aA .u8 64 x43.fSketch.fRegs)) false, bR 5 1 (rI .u8) ([(IntKind.wrap .u8 x43.fKind)] : List Int) 0 0] (app_refO (u := 0) (n := g23) (id := 2) (rI .u8) y21 ([(IntKind.wrap .u8 x43.fKind)] : List Int) (b := 1) t43 t5 rfl rfl rfl (fun _ => rfl) rfl h45 rfl (by omega) (by omega) (show srcRows (aR 4 1 1) _ = some (([(IntKind.wrap .u8 x43.fKind)] : List Int).map (rI .u8)) from by kernel_rfl) (by kernel_rfl)) (by kernel_rfl) (shd 2 [(31, aI x43.fNulls), (30, .ptr 3 1)] (by kernel_rfl) ?_)
   obtain ⟨x47, h46, hm⟩ := bs hm
   obtain ⟨vv, H1, hC, g48, q49, rfl, rfl⟩ := ok_stat_number_r ((y21 ++ ([(IntKind.wrap .u8 x43.fKind)] : List Int)).length) g25 (by first | rfl | assumption | omega | (simp only [List.length_set, List.length_append, List.length_cons, List.length_nil, List.length_replicate, List.length_drop] at * <;> omega)) (by first | exact Nat.zero_le _ | exact Nat.le_refl _ | assumption | omega | (simp only [List.length_set, List.length_append, List.length_cons, List.length_nil, List.length_replicate, List.length_drop] at * <;> omega)) h46
   refine dRd [(32, aR 2 1 x47.length)] [bR 91 69 R_stat_Col a0 f0 0, .box [aI a1, aR 0 69 m0] false, bR 5 1 (rI .u8) x47 g48 0, .box ([aI x43.fKind, aI x43.fNulls, aI x43.fDistinct, .pv (encSl R_hist_Bucket x43.fHist), .pv (encSl R_api_Value x43.fSample)] ++ (aA .u8 64 x43.fSketch.fRegs)) false, bR 5 1 (rI .u8) ([(IntKind.wrap .u8 x43.fKind)] : List Int) 0 0] [2] [aR 2 1 ((y21 ++ ([(IntKind.wrap .u8 x43.fKind)] : List Int)).length), aI x43.fNulls] (by kernel_rfl) (by kernel_rfl) (by kernel_rfl) hC (by kernel_rfl) (shd 2 [(34, aI x43.fDistinct), (33, .ptr 3 2)] (by kernel_rfl) ?_)
   obtain ⟨x51, h50, hm⟩ := bs hm
   obtain ⟨vv, H1, hC, g52, q53, rfl, rfl⟩ := ok_stat_number_r x47.length g48 (by first | rfl | assumption | omega | (simp only [List.length_set, List.length_append, List.length_cons, List.length_nil, List.length_replicate, List.length_drop] at * <;> omega)) (by first | exact Nat.zero_le _ | exact Nat.le_refl _ | assumption | omega | (simp only [List.length_set, List.length_append, List.length_cons, List.length_nil, List.length_replicate, List.length_drop] at * <;> omega)) h50
   refine dRd [(35, aR 2 1 x51.length)] [bR 91 69 R_stat_Col a0 f0 0, .box [aI a1, aR 0 69 m0] false, bR 5 1 (rI .u8) x51 g52 0, .box ([aI x43.fKind, aI x43.fNulls, aI x43.fDistinct, .pv (encSl R_hist_Bucket x43.fHist), .pv (encSl R_api_Value x43.fSample)] ++ (aA .u8 64 x43.fSketch.fRegs)) false, bR 5 1 (rI .u8) ([(IntKind.wrap .u8 x43.fKind)] : List Int) 0 0] [2] [aR 2 1 x47.length, aI x43.fDistinct] (by kernel_rfl) (by kernel_rfl) (by kernel_rfl) hC (by kernel_rfl) (shd 1 [(0, aR 2 1 x51.length)] (by kernel_rfl) (find [(0, aR 2 1 x51.length), (6, .ptr 3 0), (18, aR 0 69 m0), (19, aI (a0.length : Int)), (20, aI y22)] rfl (by kernel_rfl) (by kernel_rfl) (sq (rgd (shd 3 [(38, .pv (encSl R_hist_Bucket x43.fHist)), (37, .ptr 3 3), (36, aR 2 1 x51.length)] (by kernel_rfl) ?_)))))
   obtain ⟨x55, h54, hm⟩ := bs hm
   obtain ⟨vv, H1, hC, g56, q57, rfl, rfl⟩ := ok_hist_Put_r x51.length g52 (by first | rfl | assumption | omega | (simp only [List.length_set, List.length_append, List.length_cons, List.length_nil, List.length_replicate, List.length_drop] at * <;> omega)) (by first | exact Nat.zero_le _ | exact Nat.le_refl _ | assumption | omega | (simp only [List.length_set, List.length_append, List.length_cons, List.length_nil, List.length_replicate, List.length_drop] at * <;> omega)) h54
   refine dRd [(39, aR 2 1 x55.length)] [bR 91 69 R_stat_Col a0 f0 0, .box [aI a1, aR 0 69 m0] false, bR 5 1 (rI .u8) x55 g56 0, .box ([aI x43.fKind, aI x43.fNulls, aI x43.fDistinct, .pv (encSl R_hist_Bucket x43.fHist), .pv (encSl R_api_Value x43.fSample)] ++ (aA .u8 64 x43.fSketch.fRegs)) false, bR 5 1 (rI .u8) ([(IntKind.wrap .u8 x43.fKind)] : List Int) 0 0] [2] [aR 2 1 x51.length, .pv (encSl R_hist_Bucket x43.fHist)] (by kernel_rfl) (by kernel_rfl) (by kernel_rfl) hC (by kernel_rfl) (shd 2 [(41, .pv (encSl R_api_Value x43.fSample)), (40, .ptr 3 4)] (by kernel_rfl) (dvd 42 (v := aI ((sll x43.fSample).length : Int)) (len_slO R_api_Value x43.fSample t52 (by kernel_rfl)) (by kernel_rfl) ?_))
   obtain ⟨x59, h58, hm⟩ := bs hm
   obtain ⟨vv, H1, hC, g60, q61, rfl, rfl⟩ := ok_stat_number_r x55.length g56 (by first | rfl | assumption | omega | (simp only [List.length_set, List.length_append, List.length_cons, List.length_nil, List.length_replicate, List.length_drop] at * <;> omega)) (by first | exact Nat.zero_le _ | exact Nat.le_refl _ | assumption | omega | (simp only [List.length_set, List.length_append, List.length_cons, List.length_nil, List.length_replicate, List.length_drop] at * <;> omega)) h58
   refine dRd [(43, aR 2 1 x59.length)] [bR 91 69 R_stat_Col a0 f0 0, .box [aI a1, aR 0 69 m0] false, bR 5 1 (rI .u8) x59 g60 0, .box ([aI x43.fKind, aI x43.fNulls, aI x43.fDistinct, .pv (encSl R_hist_Bucket x43.fHist), .pv (encSl R_api_Value x43.fSample)] ++ (aA .u8 64 x43.fSketch.fRegs)) false, bR 5 1 (rI .u8) ([(IntKind.wrap .u8 x43.fKind)] : List Int) 0 0] [2] [aR 2 1 x55.length, aI ((sll x43.fSample).length : Int)] (by kernel_rfl) (by kernel_rfl) (by kernel_rfl) hC (by kernel_rfl) (shd 1 [(0, aR 2 1 x59.length)] (by kernel_rfl) (find [(0, aR 2 1 x59.length), (6, .ptr 3 0), (18, aR 0 69 m0), (19, aI (a0.length : Int)), (20, aI y22)] rfl (by kernel_rfl) (by kernel_rfl) ?_))
   obtain ⟨k69, hk69, hm⟩ := withK_some hm
   refine mid (fun t H => (∃ (y62 : (List Int)) (y63 : Int) (y64 : Bool) (g65 : Nat) (g67 : Nat), k69 y62 = some r ∧ t = mk 61 [(0, aR 2 1 g65), (6, .ptr 3 0), (18, aR 0 69 m0), (19, aI (a0.length : Int)), (20, aI y22), (45, .pv (encSl R_api_Value x43.fSample)), (46, aI ((sll x43.fSample).length : Int)), (47, aI y63), (48, aB y64)] ∧ H = [bR 91 69 R_stat_Col a0 f0 0, .box [aI a1, aR 0 69 m0] false, bR 5 1 (rI .u8) y62 g67 0, .box ([aI x43.fKind, aI x43.fNulls, aI x43.fDistinct, .pv (encSl R_hist_Bucket x43.fHist), .pv (encSl R_api_Value x43.fSample)] ++ (aA .u8 64 x43.fSketch.fRegs)) false, bR 5 1 (rI .u8) ([(IntKind.wrap .u8 x43.fKind)] : List Int) 0 0] ∧ y62.length = g65 ∧ g67 ≤ y62.length)) ?_ ?_
   ·
    rintro _ _ ⟨y62, y63, y64, g65, g67, hm, rfl, rfl, q66, q68⟩
    subst hk69
    refine rg (sh 3 [(57, .agg (aA .u8 64 x43.fSketch.fRegs)), (56, .ptr 3 5), (55, aR 2 1 g65)] (by kernel_rfl) ?_)
    obtain ⟨x71, h70, hm⟩ := bs hm
    obtain ⟨vv, H1, hC, g72, g73, q74, q75, rfl, rfl⟩ := ok_hll_Put_r g65 g67 (by first | rfl | assumption | omega | (simp only [List.length_set, List.length_append, List.length_cons, List.length_nil, List.length_replicate, List.length_drop] at * <;> omega)) (by first | exact Nat.zero_le _ | exact Nat.le_refl _ | assumption | omega | (simp only [List.length_set, List.length_append, List.length_cons, List.length_nil, List.length_replicate, List.length_drop] at * <;> omega)) h70
    refine dR [(58, aR 2 1 g72)] [bR 91 69 R_stat_Col a0 f0 0, .box [aI a1, aR 0 69 m0] false, bR 5 1 (rI .u8) x71 g73 0, .box ([aI x43.fKind, aI x43.fNulls, aI x43.fDistinct, .pv (encSl R_hist_Bucket x43.fHist), .pv (encSl R_api_Value x43.fSample)] ++ (aA .u8 64 x43.fSketch.fRegs)) false, bR 5 1 (rI .u8) ([(IntKind.wrap .u8 x43.fKind)] : List Int) 0 0] [2] [aR 2 1 g65, .agg (aA .u8 64 x43.fSketch.fRegs)] (by kernel_rfl) (by kernel_rfl) (by kernel_rfl) hC (by kernel_rfl) (sh 1 [(0, aR 2 1 g72)] (by kernel_rfl) (fin [(0, aR 2 1 g72), (18, aR 0 69 m0), (19, aI (a0.length : Int)), (20, aI y22)] rfl (by kernel_rfl) ?_))
    exact ⟨x71, x43.fKind, x43.fNulls, x43.fDistinct, x43.fHist, x43.fSample, x43.fSketch.fRegs, ([(IntKind.wrap .u8 x43.fKind)] : List Int), g72, g73, hm, rfl, rfl, (by first | rfl | assumption | omega | (simp only [List.length_set, List.length_append, List.length_cons, List.length_nil, List.length_replicate, List.length_drop] at * <;> omega)), (by first | exact Nat.zero_le _ | exact Nat.le_refl _ | assumption | omega | (simp only [List.length_set, List.length_append, List.length_cons, List.length_nil, List.length_replicate, List.length_drop] at * <;> omega)), (by first | rfl | assumption | omega | (simp only [List.length_set, List.length_append, List.length_cons, List.length_nil, List.length_replicate, List.length_drop] at * <;> omega))⟩
   refine sq (rg (sh 2 [(45, .pv (encSl R_api_Value x43.fSample)), (44, .ptr 3 4)] (by kernel_rfl) (dv 46 (v := aI ((sll x43.fSample).length : Int)) (len_slO R_api_Value x43.fSample t52 (by kernel_rfl)) (by kernel_rfl) (sh 1 [(47, aI 0)] (by kernel_rfl) (fin [(0, aR 2 1 x59.length), (6, .ptr 3 0), (18, aR 0 69 m0), (19, aI (a0.length : Int)), (20, aI y22), (45, .pv (encSl R_api_Value x43.fSample)), (46, aI ((sll x43.fSample).length : Int)), (47, aI 0)] rfl (by kernel_rfl) (bq ?_))))))
   refine loopF (fun mm t H => (∃ (y82 : (List Int)) (y83 : Int) (g84 : Nat) (g86 : Nat), stat_Put_nil_2_l8 n x43 k69 mm y82 y83 = some r ∧ t = mk 61 [(0, aR 2 1 g84), (6, .ptr 3 0), (18, aR 0 69 m0), (19, aI (a0.length : Int)), (20, aI y22), (45, .pv (encSl R_api_Value x43.fSample)), (46, aI ((sll x43.fSample).length : Int)), (47, aI y83)] ∧ H = [bR 91 69 R_stat_Col a0 f0 0, .box [aI a1, aR 0 69 m0] false, bR 5 1 (rI .u8) y82 g86 0, .box ([aI x43.fKind, aI x43.fNulls, aI x43.fDistinct, .pv (encSl R_hist_Bucket x43.fHist), .pv (encSl R_api_Value x43.fSample)] ++ (aA .u8 64 x43.fSketch.fRegs)) false, bR 5 1 (rI .u8) ([(IntKind.wrap .u8 x43.fKind)] : List Int) 0 0] ∧ y82.length = g84 ∧ g86 ≤ y82.length)) (⟨x59, 0, x59.length, g60, hm, rfl, rfl, (by first | rfl | assumption | omega | (simp only [List.length_set, List.length_append, List.length_cons, List.length_nil, List.length_replicate, List.length_drop] at * <;> omega)), (by first | exact Nat.zero_le _ | exact Nat.le_refl _ | assumption | omega | (simp only [List.length_set, List.length_append, List.length_cons, List.length_nil, List.length_replicate, List.length_drop] at * <;> omega))⟩) ?_ ?_
   · rintro _ _ ⟨y82, y83, g84, g86, hm, _⟩; exact nomatch hm
   rintro m88 _ _ ⟨y82, y83, g84, g86, hm, rfl, rfl, q85, q87⟩
   simp only [stat_Put_nil_2_l8] at hm
   refine sq (detn [(0, aR 2 1 g84), (6, .ptr 3 0), (18, aR 0 69 m0), (19, aI (a0.length : Int)), (20, aI y22), (45, .pv (encSl R_api_Value x43.fSample)), (46, aI ((sll x43.fSample).length : Int)), (47, aI y83), (48, aB (decide (y83 < ((sll x43.fSample).length : Int))))] (by kernel_rfl) ?_)
   refine sq ?_
   rcases bif_some hm with ⟨h89, hm⟩ | ⟨h89, hm⟩
   ·
    refine ct h89 (by kernel_rfl) (wp_skip (sq (bq (sq (rg ?_)))))
    obtain ⟨x90, h91, hm⟩ := bs hm
    refine dv 49 (v := .pv (.ptr (R_api_Value x90) 0)) (ia_slO R_api_Value x43.fSample .i64 t52 t64 h91 rfl (by kernel_rfl)) (by kernel_rfl) (st 3 [(8, .ptr 5 0), (50, .agg [aI x90.fKind, aI x90.fInt, aF x90.fFloat, aS x90.fText])] [bR 91 69 R_stat_Col a0 f0 0, .box [aI a1, aR 0 69 m0] false, bR 5 1 (rI .u8) y82 g86 0, .box ([aI x43.fKind, aI x43.fNulls, aI x43.fDistinct, .pv (encSl R_hist_Bucket x43.fHist), .pv (encSl R_api_Value x43.fSample)] ++ (aA .u8 64 x43.fSketch.fRegs)) false, bR 5 1 (rI .u8) ([(IntKind.wrap .u8 x43.fKind)] : List Int) 0 0, .box [aI x90.fKind, aI x90.fInt, aF x90.fFloat, aS x90.fText] false] (by kernel_rfl) (fin [(0, aR 2 1 g84), (6, .ptr 3 0), (8, .ptr 5 0), (18, aR 0 69 m0), (19, aI (a0.length : Int)), (20, aI y22), (45, .pv (encSl R_api_Value x43.fSample)), (46, aI ((sll x43.fSample).length : Int)), (47, aI y83)] rfl (by kernel_rfl) (rg (sh 2 [(52, .agg [aI x90.fKind, aI x90.fInt, aF x90.fFloat, aS x90.fText]), (51, aR 2 1 g84)] (by kernel_rfl) ?_))))
    obtain ⟨x93, h92, hm⟩ := bs hm
    obtain ⟨vv, H1, hC, g94, g95, q96, q97, rfl, rfl⟩ := ok_value_Put_r g84 g86 (by first | rfl | assumption | omega | (simp only [List.length_set, List.length_append, List.length_cons, List.length_nil, List.length_replicate, List.length_drop] at * <;> omega)) (by first | exact Nat.zero_le _ | exact Nat.le_refl _ | assumption | omega | (simp only [List.length_set, List.length_append, List.length_cons, List.length_nil, List.length_replicate, List.length_drop] at * <;> omega)) h92
    refine dR [(53, aR 2 1 g94)] [bR 91 69 R_stat_Col a0 f0 0, .box [aI a1, aR 0 69 m0] false, bR 5 1 (rI .u8) x93 g95 0, .box ([aI x43.fKind, aI x43.fNulls, aI x43.fDistinct, .pv (encSl R_hist_Bucket x43.fHist), .pv (encSl R_api_Value x43.fSample)] ++ (aA .u8 64 x43.fSketch.fRegs)) false, bR 5 1 (rI .u8) ([(IntKind.wrap .u8 x43.fKind)] : List Int) 0 0, .box [aI x90.fKind, aI x90.fInt, aF x90.fFloat, aS x90.fText] false] [2] [aR 2 1 g84, .agg [aI x90.fKind, aI x90.fInt, aF x90.fFloat, aS x90.fText]] (by kernel_rfl) (by kernel_rfl) (by kernel_rfl) hC (by kernel_rfl) (sh 1 [(0, aR 2 1 g94)] (by kernel_rfl) (fin [(0, aR 2 1 g94), (6, .ptr 3 0), (18, aR 0 69 m0), (19, aI (a0.length : Int)), (20, aI y22), (45, .pv (encSl R_api_Value x43.fSample)), (46, aI ((sll x43.fSample).length : Int)), (47, aI y83)] rfl (by kernel_rfl) (detn [(0, aR 2 1 g94), (6, .ptr 3 0), (18, aR 0 69 m0), (19, aI (a0.length : Int)), (20, aI y22), (45, .pv (encSl R_api_Value x43.fSample)), (46, aI ((sll x43.fSample).length : Int)), (47, aI (IntKind.wrap .i64 (y83 + 1)))] (by kernel_rfl) ?_)))
    exact ⟨_, _, tidyL [(0, aR 2 1 g94), (6, .ptr 3 0), (18, aR 0 69 m0), (19, aI (a0.length : Int)), (20, aI y22), (45, .pv (encSl R_api_Value x43.fSample)), (46, aI ((sll x43.fSample).length : Int)), (47, aI (IntKind.wrap .i64 (y83 + 1)))] [bR 91 69 R_stat_Col a0 f0 0, .box [aI a1, aR 0 69 m0] false, bR 5 1 (rI .u8) x93 g95 0, .box ([aI x43.fKind, aI x43.fNulls, aI x43.fDistinct, .pv (encSl R_hist_Bucket x43.fHist), .pv (encSl R_api_Value x43.fSample)] ++ (aA .u8 64 x43.fSketch.fRegs)) false, bR 5 1 (rI .u8) ([(IntKind.wrap .u8 x43.fKind)] : List Int) 0 0] (by kernel_rfl), ⟨x93, (IntKind.wrap .i64 (y83 + 1)), g94, g95, hm, rfl, rfl, (by first | rfl | assumption | omega | (simp only [List.length_set, List.length_append, List.length_cons, List.length_nil, List.length_replicate, List.length_drop] at * <;> omega)), (by first | exact Nat.zero_le _ | exact Nat.le_refl _ | assumption | omega | (simp only [List.length_set, List.length_append, List.length_cons, List.length_nil, List.length_replicate, List.length_drop] at * <;> omega))⟩⟩
   ·
    refine cf h89 (by kernel_rfl) (wp_exit ?_)
    exact ⟨y82, y83, (decide (y83 < ((sll x43.fSample).length : Int))), g84, g86, hm, rfl, rfl, (by first | rfl | assumption | omega | (simp only [List.length_set, List.length_append, List.length_cons, List.length_nil, List.length_replicate, List.length_drop] at * <;> omega)), (by first | exact Nat.zero_le _ | exact Nat.le_refl _ | assumption | omega | (simp only [List.length_set, List.length_append, List.length_cons, List.length_nil, List.length_replicate, List.length_drop] at * <;> omega))⟩
  ·
   refine cf h28 (by kernel_rfl) (wp_exit ?_)
   exact ⟨y21, y22, (decide (y22 < (a0.length : Int))), g23, g25, hm, rfl, rfl, (by first | rfl | assumption | omega | (simp only [List.length_set, List.length_append, List.length_cons, List.length_nil, List.length_replicate, List.length_drop] at * <;> omega)), (by first | exact Nat.zero_le _ | exact Nat.le_refl _ | assumption | omega | (simp only [List.length_set, List.length_append, List.length_cons, List.length_nil, List.length_replicate, List.length_drop] at * <;> omega))⟩
end Go.Ab.S1
