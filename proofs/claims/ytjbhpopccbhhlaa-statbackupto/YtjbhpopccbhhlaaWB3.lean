import Derived.Test.YtjbhpopccbhhlaaWB2
namespace Go.Ab.S1
open Go Go.Ab Go.Pl
open Go.Proofs.Try
set_option linter.unusedVariables false
set_option linter.unusedSimpArgs false
set_option maxRecDepth 100000
theorem ok_law20_StatBack {n : Nat} {a0 : tabularyref20_Stat} {a1 : (Option (List Int))} {r : Bool} (hm : law20_StatBack n a0 a1 = some r) :
    call G n 4 [.agg [aI a0.fRows, .pv (encSl R_tabularyref20_Col a0.fCols)], .pv (encSl (rI .u8) a1)] [] = some (.ret (aB r), []) := by
  unfold law20_StatBack at hm
  obtain ⟨n, rfl, h0⟩ := at1_some hm
  replace hm := h0; clear h0
  refine callL 61 [(0, .agg [aI a0.fRows, .pv (encSl R_tabularyref20_Col a0.fCols)]), (1, .pv (encSl (rI .u8) a1))] func4 rfl (by kernel_rfl) (sq (det [(1, .pv (encSl (rI .u8) a1)), (2, .ptr 0 0)] [.box [aI a0.fRows, .pv (encSl R_tabularyref20_Col a0.fCols)] false] (by kernel_rfl) ?_))
  refine sq (sq (rg ?_))
  obtain ⟨x1, h2, hm⟩ := bs hm
  refine dv 10 (cpure (by kernel_rfl) (ok_law20_works h2) (by kernel_rfl) (by kernel_rfl) (by kernel_rfl)) (by kernel_rfl) (sh 1 [(11, aB (!x1))] (by kernel_rfl) (fin [(1, .pv (encSl (rI .u8) a1)), (2, .ptr 0 0), (11, aB (!x1))] rfl (by kernel_rfl) ?_))
  rcases bif_some hm with ⟨h3, hm⟩ | ⟨h3, hm⟩
  ·
   refine ct h3 (by kernel_rfl) (sq (detn [(4, aB false)] (by kernel_rfl) (wp_ret ?_)))
   obtain rfl := Option.some.inj hm
   exact ⟨trivial, by kernel_rfl⟩
  ·
   refine cf h3 (by kernel_rfl) (wp_skip (sq (rg (sh 1 [(12, .agg [aI a0.fRows, .pv (encSl R_tabularyref20_Col a0.fCols)])] (by kernel_rfl) ?_))))
   obtain ⟨x4, h5, hm⟩ := bs hm
   refine dv 13 (cpure (by kernel_rfl) (ok_law20_Given h5) (by kernel_rfl) (by kernel_rfl) (by kernel_rfl)) (by kernel_rfl) (st 2 [(5, .ptr 1 0)] [.box [aI a0.fRows, .pv (encSl R_tabularyref20_Col a0.fCols)] false, .box [aI x4.fRows, .pv (encSl R_stat_Col x4.fCols)] false] (by kernel_rfl) (fin [(1, .pv (encSl (rI .u8) a1)), (2, .ptr 0 0), (5, .ptr 1 0)] rfl (by kernel_rfl) ?_))
   refine sq (sq (rg (sh 1 [(14, .agg [aI a0.fRows, .pv (encSl R_tabularyref20_Col a0.fCols)])] (by kernel_rfl) ?_)))
   obtain ⟨x6, h7, hm⟩ := bs hm
   refine dv 15 (cpure (by kernel_rfl) (ok_law20_Great h7) (by kernel_rfl) (by kernel_rfl) (by kernel_rfl)) (by kernel_rfl) (sh 1 [(16, aB x6)] (by kernel_rfl) ?_)
   refine seg x6 [16, 15] (fun b => [(20, aB (b || (decide (((sll a1).length : Int) > 2000)))), (19, ifA b (.undef) (aB (decide (((sll a1).length : Int) > 2000)))), (18, ifA b (.undef) (aI ((sll a1).length : Int))), (17, ifA b (.undef) (.pv (encSl (rI .u8) a1)))]) 7 (by kernel_rfl) ?_ ?_ ?_
   ·
    intro Q h
    refine sh 4 [(20, aB true), (19, .undef), (18, .undef), (17, .undef)] (by kernel_rfl) ?_
    exact sameN (by kernel_rfl) (by kernel_rfl) h
   ·
    intro Q h
    refine sh 1 [(17, .pv (encSl (rI .u8) a1))] (by kernel_rfl) (dv 18 (v := aI ((sll a1).length : Int)) (len_slO (rI .u8) a1 t43 (by kernel_rfl)) (by kernel_rfl) (sh 2 [(20, aB (decide (((sll a1).length : Int) > 2000))), (19, aB (decide (((sll a1).length : Int) > 2000)))] (by kernel_rfl) ?_))
    exact sameN (by kernel_rfl) (by kernel_rfl) h
   refine sh 1 [(21, aB (x6 || (decide (((sll a1).length : Int) > 2000))))] (by kernel_rfl) ?_
   rcases bif_some hm with ⟨h8, hm⟩ | ⟨h8, hm⟩
   ·
    refine known [21, 20] h8 (by kernel_rfl) (sh 4 [(25, aB true), (24, .undef), (23, .undef), (22, .undef)] (by kernel_rfl) (fin [(1, .pv (encSl (rI .u8) a1)), (5, .ptr 1 0), (25, aB true)] rfl (by kernel_rfl) (cT (by kernel_rfl) (sq (detn [(4, aB true)] (by kernel_rfl) (wp_ret ?_))))))
    obtain rfl := Option.some.inj hm
    exact ⟨trivial, by kernel_rfl⟩
   ·
    refine known [21, 20] h8 (by kernel_rfl) (sh 1 [(22, .agg [aI x4.fRows, .pv (encSl R_stat_Col x4.fCols)])] (by kernel_rfl) ?_)
    obtain ⟨x9, h10, hm⟩ := bs hm
    refine dv 23 (cpure (by kernel_rfl) (ok_stat_Right h10) (by kernel_rfl) (by kernel_rfl) (by kernel_rfl)) (by kernel_rfl) (sh 2 [(25, aB (!x9)), (24, aB (!x9))] (by kernel_rfl) (fin [(1, .pv (encSl (rI .u8) a1)), (5, .ptr 1 0), (25, aB (!x9))] rfl (by kernel_rfl) ?_))
    rcases bif_some hm with ⟨h11, hm⟩ | ⟨h11, hm⟩
    ·
     refine ct h11 (by kernel_rfl) (sq (detn [(4, aB true)] (by kernel_rfl) (wp_ret ?_)))
     obtain rfl := Option.some.inj hm
     exact ⟨trivial, by kernel_rfl⟩
    ·
     refine cf h11 (by kernel_rfl) (wp_skip (sq (rg (sh 1 [(26, .agg [aI x4.fRows, .pv (encSl R_stat_Col x4.fCols)])] (by kernel_rfl) ?_))))
     obtain ⟨x13, h12, hm⟩ := bs hm
     obtain ⟨vv, H1, hC, g14, g15, q16, q17, rfl, rfl⟩ := ok_stat_Put_nil h12
     refine dR [(27, aR 2 1 g14)] [.box [aI a0.fRows, .pv (encSl R_tabularyref20_Col a0.fCols)] false, .box [aI x4.fRows, .pv (encSl R_stat_Col x4.fCols)] false, bR 5 1 (rI .u8) x13 g15 0] [] [.pv .nils, .agg [aI x4.fRows, .pv (encSl R_stat_Col x4.fCols)]] (by kernel_rfl) (by kernel_rfl) (by kernel_rfl) hC (by kernel_rfl) (sh 1 [(6, aR 2 1 g14)] (by kernel_rfl) (fin [(1, .pv (encSl (rI .u8) a1)), (5, .ptr 1 0), (6, aR 2 1 g14)] rfl (by kernel_rfl) ?_))
     obtain ⟨k23, hk23, hm⟩ := withK_some hm
     refine mid (fun t H => (∃ (y18 : (List Int)) (y19 : (Option (List Int))) (g20 : Nat) (g22 : Nat), k23 y19 = some r ∧ t = mk 61 [(1, .pv (encSl (rI .u8) a1)), (5, .ptr 1 0), (6, aR 2 1 g14), (7, .ptr 4 0)] ∧ H = [.box [aI a0.fRows, .pv (encSl R_tabularyref20_Col a0.fCols)] false, .box [aI x4.fRows, .pv (encSl R_stat_Col x4.fCols)] false, bR 5 1 (rI .u8) x13 g15 0, bR 5 1 (rI .u8) y18 0 g22, .box [aB true, .pv (encSl (rI .u8) y19), aI 0] false] ∧ y18.length = g20)) ?_ ?_
     ·
      rintro _ _ ⟨y18, y19, g20, g22, hm, rfl, rfl, q21⟩
      subst hk23
      obtain ⟨k30, hk30, hm⟩ := withK_some hm
      refine mid (fun t H => (∃ (y24 : Bool) (y25 : (Option (List Int))) (y26 : Int) (y27 : Int) (y29 : Int), k30 y24 y25 y26 y27 none y29 = some r ∧ t = mk 61 [(1, .pv (encSl (rI .u8) a1)), (5, .ptr 1 0), (6, aR 2 1 g14), (7, .ptr 4 0), (8, .ptr 5 0), (9, aI y29)] ∧ H = [.box [aI a0.fRows, .pv (encSl R_tabularyref20_Col a0.fCols)] false, .box [aI x4.fRows, .pv (encSl R_stat_Col x4.fCols)] false, bR 5 1 (rI .u8) x13 g15 0, bR 5 1 (rI .u8) y18 0 g22, .box [aB y24, .pv (encSl (rI .u8) y25), aI y26] false, .box [aI y27, .pv .nils] false]) ∨ (∃ (y24 : Bool) (y25 : (Option (List Int))) (y26 : Int) (y27 : Int) (y28 : (List stat_Col)) (y29 : Int), k30 y24 y25 y26 y27 (some y28) y29 = some r ∧ t = mk 61 [(1, .pv (encSl (rI .u8) a1)), (5, .ptr 1 0), (6, aR 2 1 g14), (7, .ptr 4 0), (8, .ptr 6 0), (9, aI y29)] ∧ H = [.box [aI a0.fRows, .pv (encSl R_tabularyref20_Col a0.fCols)] false, .box [aI x4.fRows, .pv (encSl R_stat_Col x4.fCols)] false, bR 5 1 (rI .u8) x13 g15 0, bR 5 1 (rI .u8) y18 0 g22, .box [aB y24, .pv (encSl (rI .u8) y25), aI y26] false, bR 91 69 R_stat_Col y28 0 0, .box [aI y27, aR 5 69 y28.length] false])) ?_ ?_
      ·
       rintro _ _ (⟨y24, y25, y26, y27, y29, hm, rfl, rfl⟩ | ⟨y24, y25, y26, y27, y28, y29, hm, rfl, rfl⟩)
       ·
        subst hk30
        refine sq (rgd (shd 3 [(41, aB (y29 == 0)), (40, aB (y29 == 0)), (39, aI y29)] (by kernel_rfl) ?_))
        rcases bif_some hm with ⟨h31, hm⟩ | ⟨h31, hm⟩
        ·
         refine knownd [41, 40] h31 (by kernel_rfl) (shd 2 [(43, .agg [aI y27, .pv .nils]), (42, .agg [aI x4.fRows, .pv (encSl R_stat_Col x4.fCols)])] (by kernel_rfl) ?_)
         obtain ⟨x32, h33, hm⟩ := bs hm
         refine dvd 44 (cpure (by kernel_rfl) (ok_stat_Same h33) (by kernel_rfl) (by kernel_rfl) (by kernel_rfl)) (by kernel_rfl) (shd 2 [(46, aB x32), (45, aB x32)] (by kernel_rfl) ?_)
         rcases bif_some hm with ⟨h34, hm⟩ | ⟨h34, hm⟩
         ·
          refine knownd [46, 45, 44] h34 (by kernel_rfl) (shd 1 [(47, .ptr 4 0)] (by kernel_rfl) ?_)
          obtain ⟨x36, h35, hm⟩ := bs hm
          obtain ⟨vv, H1, hC, rfl, rfl⟩ := ok_codec_Reader_Left h35
          refine dRd [(48, aI x36)] [.box [aI a0.fRows, .pv (encSl R_tabularyref20_Col a0.fCols)] false, .box [aI x4.fRows, .pv (encSl R_stat_Col x4.fCols)] false, bR 5 1 (rI .u8) x13 g15 0, bR 5 1 (rI .u8) y18 0 g22, .box [aB y24, .pv (encSl (rI .u8) y25), aI y26] false, .box [aI y27, .pv .nils] false] [4] [.ptr 4 0] (by kernel_rfl) (by kernel_rfl) (by kernel_rfl) hC (by kernel_rfl) (shd 1 [(49, .pv (encSl (rI .u8) a1))] (by kernel_rfl) (dvd 50 (v := aI ((sll a1).length : Int)) (len_slO (rI .u8) a1 t43 (by kernel_rfl)) (by kernel_rfl) (shd 3 [(53, aB (x36 == ((sll a1).length : Int))), (52, aB (x36 == ((sll a1).length : Int))), (51, aB (x36 == ((sll a1).length : Int)))] (by kernel_rfl) ?_)))
          rcases bif_some hm with ⟨h37, hm⟩ | ⟨h37, hm⟩
          ·
           refine knownd [53, 52, 51] h37 (by kernel_rfl) (shd 1 [(54, .agg [aI y27, .pv .nils])] (by kernel_rfl) ?_)
           obtain ⟨x39, h38, hm⟩ := bs hm
           obtain ⟨vv, H1, hC, g40, g41, q42, q43, rfl, rfl⟩ := ok_stat_Put_nil h38
           refine dRd [(55, aR 6 1 g40)] [.box [aI a0.fRows, .pv (encSl R_tabularyref20_Col a0.fCols)] false, .box [aI x4.fRows, .pv (encSl R_stat_Col x4.fCols)] false, bR 5 1 (rI .u8) x13 g15 0, bR 5 1 (rI .u8) y18 0 g22, .box [aB y24, .pv (encSl (rI .u8) y25), aI y26] false, .box [aI y27, .pv .nils] false, bR 5 1 (rI .u8) x39 g41 0] [] [.pv .nils, .agg [aI y27, .pv .nils]] (by kernel_rfl) (by kernel_rfl) (by kernel_rfl) hC (by kernel_rfl) (dvd 56 (v := aS (strOf x39)) (str_ofO (l := x39) t43 t9 t5 (src_ref (n := g40) (id := 6) (l := x39) (R := (rI .u8)) rfl (by omega) (by omega)) (rfl) (by kernel_rfl)) (by kernel_rfl) (shd 1 [(57, aR 2 1 g14)] (by kernel_rfl) (dvd 58 (v := aS (strOf x13)) (str_ofO (l := x13) t43 t9 t5 (src_ref (n := g14) (id := 2) (l := x13) (R := (rI .u8)) rfl (by omega) (by omega)) (rfl) (by kernel_rfl)) (by kernel_rfl) (shd 3 [(4, aB (sEq (strOf x39) (strOf x13))), (60, aB (sEq (strOf x39) (strOf x13))), (59, aB (sEq (strOf x39) (strOf x13)))] (by kernel_rfl) (find [(4, aB (sEq (strOf x39) (strOf x13)))] rfl (by kernel_rfl) (by kernel_rfl) (wp_ret ?_))))))
           obtain rfl := Option.some.inj hm
           exact ⟨trivial, by kernel_rfl⟩
          ·
           refine knownd [53, 52, 51] h37 (by kernel_rfl) (shd 8 [(4, aB false), (60, aB false), (59, .undef), (58, .undef), (57, .undef), (56, .undef), (55, .undef), (54, .undef)] (by kernel_rfl) (find [(4, aB false)] rfl (by kernel_rfl) (by kernel_rfl) (wp_ret ?_)))
           obtain rfl := Option.some.inj hm
           exact ⟨trivial, by kernel_rfl⟩
         ·
          refine knownd [46, 45, 44] h34 (by kernel_rfl) (shd 15 [(4, aB false), (60, aB false), (59, .undef), (58, .undef), (57, .undef), (56, .undef), (55, .undef), (54, .undef), (53, aB false), (52, aB false), (51, .undef), (50, .undef), (49, .undef), (48, .undef), (47, .undef)] (by kernel_rfl) (find [(4, aB false)] rfl (by kernel_rfl) (by kernel_rfl) (wp_ret ?_)))
          obtain rfl := Option.some.inj hm
          exact ⟨trivial, by kernel_rfl⟩
        ·
         refine knownd [41, 40] h31 (by kernel_rfl) (shd 20 [(4, aB false), (60, aB false), (59, .undef), (58, .undef), (57, .undef), (56, .undef), (55, .undef), (54, .undef), (53, aB false), (52, aB false), (51, .undef), (50, .undef), (49, .undef), (48, .undef), (47, .undef), (46, aB false), (45, aB false), (44, .undef), (43, .undef), (42, .undef)] (by kernel_rfl) (find [(4, aB false)] rfl (by kernel_rfl) (by kernel_rfl) (wp_ret ?_)))
         obtain rfl := Option.some.inj hm
         exact ⟨trivial, by kernel_rfl⟩
       ·
        subst hk30
        refine sq (rgd (shd 3 [(41, aB (y29 == 0)), (40, aB (y29 == 0)), (39, aI y29)] (by kernel_rfl) ?_))
        rcases bif_some hm with ⟨h44, hm⟩ | ⟨h44, hm⟩
        ·
         refine knownd [41, 40] h44 (by kernel_rfl) (shd 2 [(43, .agg [aI y27, aR 5 69 y28.length]), (42, .agg [aI x4.fRows, .pv (encSl R_stat_Col x4.fCols)])] (by kernel_rfl) ?_)
         obtain ⟨x45, h46, hm⟩ := bs hm
         refine dOd [(44, aB x45)] [.box [aI a0.fRows, .pv (encSl R_tabularyref20_Col a0.fCols)] false, .box [aI x4.fRows, .pv (encSl R_stat_Col x4.fCols)] false, bR 5 1 (rI .u8) x13 g15 0, bR 5 1 (rI .u8) y18 0 g22, .box [aB y24, .pv (encSl (rI .u8) y25), aI y26] false, bR 91 69 R_stat_Col y28 0 0, .box [aI y27, aR 5 69 y28.length] false] (cpureR [5] [.agg [aI x4.fRows, .pv (encSl R_stat_Col x4.fCols)], .agg [aI y27, aR 5 69 y28.length]] (fl := true) (by kernel_rfl) (by kernel_rfl) (pAs_cons (pA_agg (purL_cons (pur_pv) (purL_cons (pur_pv) (rfl)))) (pAs_cons (pA_agg (purL_cons (pur_pv) (purL_cons (pur_ref' (n := y28.length) (id := 5) (l := y28) (R := R_stat_Col) rfl rfl (Nat.zero_le _)) (rfl)))) (rfl))) (ok_stat_Same h46) (by kernel_rfl) (by kernel_rfl)) (by kernel_rfl) (shd 2 [(46, aB x45), (45, aB x45)] (by kernel_rfl) ?_)
         rcases bif_some hm with ⟨h47, hm⟩ | ⟨h47, hm⟩
         ·
          refine knownd [46, 45, 44] h47 (by kernel_rfl) (shd 1 [(47, .ptr 4 0)] (by kernel_rfl) ?_)
          obtain ⟨x49, h48, hm⟩ := bs hm
          obtain ⟨vv, H1, hC, rfl, rfl⟩ := ok_codec_Reader_Left h48
          refine dRd [(48, aI x49)] [.box [aI a0.fRows, .pv (encSl R_tabularyref20_Col a0.fCols)] false, .box [aI x4.fRows, .pv (encSl R_stat_Col x4.fCols)] false, bR 5 1 (rI .u8) x13 g15 0, bR 5 1 (rI .u8) y18 0 g22, .box [aB y24, .pv (encSl (rI .u8) y25), aI y26] false, bR 91 69 R_stat_Col y28 0 0, .box [aI y27, aR 5 69 y28.length] false] [4] [.ptr 4 0] (by kernel_rfl) (by kernel_rfl) (by kernel_rfl) hC (by kernel_rfl) (shd 1 [(49, .pv (encSl (rI .u8) a1))] (by kernel_rfl) (dvd 50 (v := aI ((sll a1).length : Int)) (len_slO (rI .u8) a1 t43 (by kernel_rfl)) (by kernel_rfl) (shd 3 [(53, aB (x49 == ((sll a1).length : Int))), (52, aB (x49 == ((sll a1).length : Int))), (51, aB (x49 == ((sll a1).length : Int)))] (by kernel_rfl) ?_)))
          rcases bif_some hm with ⟨h50, hm⟩ | ⟨h50, hm⟩
          ·
           refine knownd [53, 52, 51] h50 (by kernel_rfl) (shd 1 [(54, .agg [aI y27, aR 5 69 y28.length])] (by kernel_rfl) ?_)
           obtain ⟨x52, h51, hm⟩ := bs hm
           obtain ⟨vv, H1, hC, g53, g54, q55, q56, rfl, rfl⟩ := ok_stat_Put_nil_2 y28.length 0 (by first | rfl | assumption | omega | (simp only [List.length_set, List.length_append, List.length_cons, List.length_nil, List.length_replicate, List.length_drop] at * <;> omega)) (by first | exact Nat.zero_le _ | exact Nat.le_refl _ | assumption | omega | (simp only [List.length_set, List.length_append, List.length_cons, List.length_nil, List.length_replicate, List.length_drop] at * <;> omega)) h51
           refine dRd [(55, aR 7 1 g53)] [.box [aI a0.fRows, .pv (encSl R_tabularyref20_Col a0.fCols)] false, .box [aI x4.fRows, .pv (encSl R_stat_Col x4.fCols)] false, bR 5 1 (rI .u8) x13 g15 0, bR 5 1 (rI .u8) y18 0 g22, .box [aB y24, .pv (encSl (rI .u8) y25), aI y26] false, bR 91 69 R_stat_Col y28 0 0, .box [aI y27, aR 5 69 y28.length] false, bR 5 1 (rI .u8) x52 g54 0] [5] [.pv .nils, .agg [aI y27, aR 5 69 y28.length]] (by kernel_rfl) (by kernel_rfl) (by kernel_rfl) hC (by kernel_rfl) (dvd 56 (v := aS (strOf x52)) (str_ofO (l := x52) t43 t9 t5 (src_ref (n := g53) (id := 7) (l := x52) (R := (rI .u8)) rfl (by omega) (by omega)) (rfl) (by kernel_rfl)) (by kernel_rfl) (shd 1 [(57, aR 2 1 g14)] (by kernel_rfl) (dvd 58 (v := aS (strOf x13)) (str_ofO (l := x13) t43 t9 t5 (src_ref (n := g14) (id := 2) (l := x13) (R := (rI .u8)) rfl (by omega) (by omega)) (rfl) (by kernel_rfl)) (by kernel_rfl) (shd 3 [(4, aB (sEq (strOf x52) (strOf x13))), (60, aB (sEq (strOf x52) (strOf x13))), (59, aB (sEq (strOf x52) (strOf x13)))] (by kernel_rfl) (find [(4, aB (sEq (strOf x52) (strOf x13)))] rfl (by kernel_rfl) (by kernel_rfl) (wp_ret ?_))))))
           obtain rfl := Option.some.inj hm
           exact ⟨trivial, by kernel_rfl⟩
          ·
           refine knownd [53, 52, 51] h50 (by kernel_rfl) (shd 8 [(4, aB false), (60, aB false), (59, .undef), (58, .undef), (57, .undef), (56, .undef), (55, .undef), (54, .undef)] (by kernel_rfl) (find [(4, aB false)] rfl (by kernel_rfl) (by kernel_rfl) (wp_ret ?_)))
           obtain rfl := Option.some.inj hm
           exact ⟨trivial, by kernel_rfl⟩
         ·
          refine knownd [46, 45, 44] h47 (by kernel_rfl) (shd 15 [(4, aB false), (60, aB false), (59, .undef), (58, .undef), (57, .undef), (56, .undef), (55, .undef), (54, .undef), (53, aB false), (52, aB false), (51, .undef), (50, .undef), (49, .undef), (48, .undef), (47, .undef)] (by kernel_rfl) (find [(4, aB false)] rfl (by kernel_rfl) (by kernel_rfl) (wp_ret ?_)))
          obtain rfl := Option.some.inj hm
          exact ⟨trivial, by kernel_rfl⟩
        ·
         refine knownd [41, 40] h44 (by kernel_rfl) (shd 20 [(4, aB false), (60, aB false), (59, .undef), (58, .undef), (57, .undef), (56, .undef), (55, .undef), (54, .undef), (53, aB false), (52, aB false), (51, .undef), (50, .undef), (49, .undef), (48, .undef), (47, .undef), (46, aB false), (45, aB false), (44, .undef), (43, .undef), (42, .undef)] (by kernel_rfl) (find [(4, aB false)] rfl (by kernel_rfl) (by kernel_rfl) (wp_ret ?_)))
         obtain rfl := Option.some.inj hm
         exact ⟨trivial, by kernel_rfl⟩
      refine rg (sh 1 [(35, .ptr 4 0)] (by kernel_rfl) ?_)
      obtain ⟨x64, h57, hm⟩ := bs hm
      rcases x64 with ⟨x58, x59, x60, x61, _ | x62, x63⟩
      ·
       obtain ⟨vv, H1, hC, rfl, rfl⟩ := ok_stat_Take h57
       refine dR [(36, .tup [.agg [aI x61, .pv .nils], aI x63])] [.box [aI a0.fRows, .pv (encSl R_tabularyref20_Col a0.fCols)] false, .box [aI x4.fRows, .pv (encSl R_stat_Col x4.fCols)] false, bR 5 1 (rI .u8) x13 g15 0, bR 5 1 (rI .u8) y18 0 g22, .box [aB x58, .pv (encSl (rI .u8) x59), aI x60] false] [4] [.ptr 4 0] (by kernel_rfl) (by kernel_rfl) (by kernel_rfl) hC (by kernel_rfl) (st 6 [(9, aI x63), (8, .ptr 5 0), (38, aI x63), (37, .agg [aI x61, .pv .nils]), (34, .tup [.agg [aI x61, .pv .nils], aI x63])] [.box [aI a0.fRows, .pv (encSl R_tabularyref20_Col a0.fCols)] false, .box [aI x4.fRows, .pv (encSl R_stat_Col x4.fCols)] false, bR 5 1 (rI .u8) x13 g15 0, bR 5 1 (rI .u8) y18 0 g22, .box [aB x58, .pv (encSl (rI .u8) x59), aI x60] false, .box [aI x61, .pv .nils] false] (by kernel_rfl) (fin [(1, .pv (encSl (rI .u8) a1)), (5, .ptr 1 0), (6, aR 2 1 g14), (7, .ptr 4 0), (8, .ptr 5 0), (9, aI x63)] rfl (by kernel_rfl) ?_))
       exact .inl ⟨x58, x59, x60, x61, x63, hm, rfl, rfl⟩
      ·
       obtain ⟨vv, H1, hC, rfl, rfl⟩ := ok_stat_Take h57
       refine dR [(36, .tup [.agg [aI x61, aR 5 69 x62.length], aI x63])] [.box [aI a0.fRows, .pv (encSl R_tabularyref20_Col a0.fCols)] false, .box [aI x4.fRows, .pv (encSl R_stat_Col x4.fCols)] false, bR 5 1 (rI .u8) x13 g15 0, bR 5 1 (rI .u8) y18 0 g22, .box [aB x58, .pv (encSl (rI .u8) x59), aI x60] false, bR 91 69 R_stat_Col x62 0 0] [4] [.ptr 4 0] (by kernel_rfl) (by kernel_rfl) (by kernel_rfl) hC (by kernel_rfl) (st 6 [(9, aI x63), (8, .ptr 6 0), (38, aI x63), (37, .agg [aI x61, aR 5 69 x62.length]), (34, .tup [.agg [aI x61, aR 5 69 x62.length], aI x63])] [.box [aI a0.fRows, .pv (encSl R_tabularyref20_Col a0.fCols)] false, .box [aI x4.fRows, .pv (encSl R_stat_Col x4.fCols)] false, bR 5 1 (rI .u8) x13 g15 0, bR 5 1 (rI .u8) y18 0 g22, .box [aB x58, .pv (encSl (rI .u8) x59), aI x60] false, bR 91 69 R_stat_Col x62 0 0, .box [aI x61, aR 5 69 x62.length] false] (by kernel_rfl) (fin [(1, .pv (encSl (rI .u8) a1)), (5, .ptr 1 0), (6, aR 2 1 g14), (7, .ptr 4 0), (8, .ptr 6 0), (9, aI x63)] rfl (by kernel_rfl) ?_))
       exact .inr (⟨x58, x59, x60, x61, x62, x63, hm, rfl, rfl⟩)
     refine rg (st 2 [(29, aR 2 1 g14), (28, aR 3 1 0)] [.box [aI a0.fRows, .pv (encSl R_tabularyref20_Col a0.fCols)] false, .box [aI x4.fRows, .pv (encSl R_stat_Col x4.fCols)] false, bR 5 1 (rI .u8) x13 g15 0, bR 5 1 (rI .u8) ([] : List Int) 0 0] (by kernel_rfl) ?_)
     rcases bif_some hm with ⟨h65, hm⟩ | ⟨h65, hm⟩
     ·
      obtain ⟨_, h66, hm⟩ := bs hm
      refine dv 30 (v := aR 3 1 0) (app_ref0O (u := 0) (y := aR 2 1 g14) (n := 0) (id := 3) (rI .u8) ([] : List Int) x13 (b := 1) t43 t5 rfl rfl rfl h65 h66 rfl (by first | rfl | assumption | omega | (simp only [List.length_set, List.length_append, List.length_cons, List.length_nil, List.length_replicate, List.length_drop] at * <;> omega)) (Nat.zero_le _) (src_ref (n := g14) (id := 2) (l := x13) (R := (rI .u8)) rfl (by omega) (by omega)) (by kernel_rfl)) (by kernel_rfl) (sh 1 [(31, .pv (encSl (rI .u8) a1))] (by kernel_rfl) ?_)
      rcases bif_some hm with ⟨h67, hm⟩ | ⟨h67, hm⟩
      ·
       obtain ⟨_, h68, hm⟩ := bs hm
       refine dv 32 (v := aR 3 1 0) (app_ref0O (u := 0) (y := .pv (encSl (rI .u8) a1)) (n := 0) (id := 3) (rI .u8) ([] : List Int) (sll a1) (b := 1) t43 t5 rfl rfl rfl h67 h68 rfl (by first | rfl | assumption | omega | (simp only [List.length_set, List.length_append, List.length_cons, List.length_nil, List.length_replicate, List.length_drop] at * <;> omega)) (Nat.zero_le _) (src_sl (R := (rI .u8)) (s := a1)) (by kernel_rfl)) (by kernel_rfl) ?_
       obtain ⟨_, h69, hm⟩ := bs hm
       obtain ⟨vv, H1, hC, rfl, rfl⟩ := ok_codec_Read h69
       refine dO [(33, .ptr 4 0)] [.box [aI a0.fRows, .pv (encSl R_tabularyref20_Col a0.fCols)] false, .box [aI x4.fRows, .pv (encSl R_stat_Col x4.fCols)] false, bR 5 1 (rI .u8) x13 g15 0, bR 5 1 (rI .u8) ([] : List Int) 0 (max 0 (([] : List Int).map (rI .u8)).length), .box [aB true, .pv (encSl (rI .u8) (some ([] : List Int))), aI 0] false] (cownO [3] [aR 3 1 0] (v' := .ptr 4 0) (bs' := [.box [aB true, .pv (encSl (rI .u8) (some ([] : List Int))), aI 0] false]) (by kernel_rfl) (by kernel_rfl) (by kernel_rfl) hC (by kernel_rfl) (by kernel_rfl) (by kernel_rfl)) (by kernel_rfl) (sh 1 [(7, .ptr 4 0)] (by kernel_rfl) (fin [(1, .pv (encSl (rI .u8) a1)), (5, .ptr 1 0), (6, aR 2 1 g14), (7, .ptr 4 0)] rfl (by kernel_rfl) ?_))
       exact ⟨([] : List Int), (some ([] : List Int)), 0, (max 0 (([] : List Int).map (rI .u8)).length), hm, rfl, rfl, (by first | rfl | assumption | omega | (simp only [List.length_set, List.length_append, List.length_cons, List.length_nil, List.length_replicate, List.length_drop] at * <;> omega))⟩
      ·
       obtain ⟨_, h70, hm⟩ := bs hm
       refine dO [(32, aR 3 1 ((([] : List Int) ++ (sll a1)).length))] [.box [aI a0.fRows, .pv (encSl R_tabularyref20_Col a0.fCols)] false, .box [aI x4.fRows, .pv (encSl R_stat_Col x4.fCols)] false, bR 5 1 (rI .u8) x13 g15 0, bR 5 1 (rI .u8) (([] : List Int) ++ (sll a1)) 0 0] (app_refO (u := 0) (n := 0) (id := 3) (rI .u8) ([] : List Int) (sll a1) (b := 1) t43 t5 rfl rfl rfl (fun _ => rfl) h67 h70 rfl (by first | rfl | assumption | omega | (simp only [List.length_set, List.length_append, List.length_cons, List.length_nil, List.length_replicate, List.length_drop] at * <;> omega)) (Nat.zero_le _) (src_sl (R := (rI .u8)) (s := a1)) (by kernel_rfl)) (by kernel_rfl) ?_
       obtain ⟨_, h71, hm⟩ := bs hm
       obtain ⟨vv, H1, hC, rfl, rfl⟩ := ok_codec_Read h71
       refine dO [(33, .ptr 4 0)] [.box [aI a0.fRows, .pv (encSl R_tabularyref20_Col a0.fCols)] false, .box [aI x4.fRows, .pv (encSl R_stat_Col x4.fCols)] false, bR 5 1 (rI .u8) x13 g15 0, bR 5 1 (rI .u8) (([] : List Int) ++ (sll a1)) 0 (max 0 ((([] : List Int) ++ (sll a1)).map (rI .u8)).length), .box [aB true, .pv (encSl (rI .u8) (some (([] : List Int) ++ (sll a1)))), aI 0] false] (cownO [3] [aR 3 1 ((([] : List Int) ++ (sll a1)).length)] (v' := .ptr 4 0) (bs' := [.box [aB true, .pv (encSl (rI .u8) (some (([] : List Int) ++ (sll a1)))), aI 0] false]) (by kernel_rfl) (by kernel_rfl) (pAs_cons (pA_ref (pur_ref' (n := (([] : List Int) ++ (sll a1)).length) (id := 3) (l := (([] : List Int) ++ (sll a1))) (R := (rI .u8)) rfl rfl (Nat.zero_le _))) (rfl)) hC (by kernel_rfl) (by kernel_rfl) (by kernel_rfl)) (by kernel_rfl) (sh 1 [(7, .ptr 4 0)] (by kernel_rfl) (fin [(1, .pv (encSl (rI .u8) a1)), (5, .ptr 1 0), (6, aR 2 1 g14), (7, .ptr 4 0)] rfl (by kernel_rfl) ?_))
       exact ⟨(([] : List Int) ++ (sll a1)), (some (([] : List Int) ++ (sll a1))), (([] : List Int) ++ (sll a1)).length, (max 0 ((([] : List Int) ++ (sll a1)).map (rI .u8)).length), hm, rfl, rfl, (by first | rfl | assumption | omega | (simp only [List.length_set, List.length_append, List.length_cons, List.length_nil, List.length_replicate, List.length_drop] at * <;> omega))⟩
     ·
      obtain ⟨_, h72, hm⟩ := bs hm
      refine dO [(30, aR 3 1 ((([] : List Int) ++ x13).length))] [.box [aI a0.fRows, .pv (encSl R_tabularyref20_Col a0.fCols)] false, .box [aI x4.fRows, .pv (encSl R_stat_Col x4.fCols)] false, bR 5 1 (rI .u8) x13 g15 0, bR 5 1 (rI .u8) (([] : List Int) ++ x13) 0 0] (app_refO (u := 0) (n := 0) (id := 3) (rI .u8) ([] : List Int) x13 (b := 1) t43 t5 rfl rfl rfl (fun _ => rfl) h65 h72 rfl (by first | rfl | assumption | omega | (simp only [List.length_set, List.length_append, List.length_cons, List.length_nil, List.length_replicate, List.length_drop] at * <;> omega)) (Nat.zero_le _) (src_ref (n := g14) (id := 2) (l := x13) (R := (rI .u8)) rfl (by omega) (by omega)) (by kernel_rfl)) (by kernel_rfl) (sh 1 [(31, .pv (encSl (rI .u8) a1))] (by kernel_rfl) ?_)
      rcases bif_some hm with ⟨h73, hm⟩ | ⟨h73, hm⟩
      ·
       obtain ⟨_, h74, hm⟩ := bs hm
       refine dv 32 (v := aR 3 1 ((([] : List Int) ++ x13).length)) (app_ref0O (u := 0) (y := .pv (encSl (rI .u8) a1)) (n := (([] : List Int) ++ x13).length) (id := 3) (rI .u8) (([] : List Int) ++ x13) (sll a1) (b := 1) t43 t5 rfl rfl rfl h73 h74 rfl rfl (Nat.zero_le _) (src_sl (R := (rI .u8)) (s := a1)) (by kernel_rfl)) (by kernel_rfl) ?_
       obtain ⟨_, h75, hm⟩ := bs hm
       obtain ⟨vv, H1, hC, rfl, rfl⟩ := ok_codec_Read h75
       refine dO [(33, .ptr 4 0)] [.box [aI a0.fRows, .pv (encSl R_tabularyref20_Col a0.fCols)] false, .box [aI x4.fRows, .pv (encSl R_stat_Col x4.fCols)] false, bR 5 1 (rI .u8) x13 g15 0, bR 5 1 (rI .u8) (([] : List Int) ++ x13) 0 (max 0 ((([] : List Int) ++ x13).map (rI .u8)).length), .box [aB true, .pv (encSl (rI .u8) (some (([] : List Int) ++ x13))), aI 0] false] (cownO [3] [aR 3 1 ((([] : List Int) ++ x13).length)] (v' := .ptr 4 0) (bs' := [.box [aB true, .pv (encSl (rI .u8) (some (([] : List Int) ++ x13))), aI 0] false]) (by kernel_rfl) (by kernel_rfl) (pAs_cons (pA_ref (pur_ref' (n := (([] : List Int) ++ x13).length) (id := 3) (l := (([] : List Int) ++ x13)) (R := (rI .u8)) rfl rfl (Nat.zero_le _))) (rfl)) hC (by kernel_rfl) (by kernel_rfl) (by kernel_rfl)) (by kernel_rfl) (sh 1 [(7, .ptr 4 0)] (by kernel_rfl) (fin [(1, .pv (encSl (rI .u8) a1)), (5, .ptr 1 0), (6, aR 2 1 g14), (7, .ptr 4 0)] rfl (by kernel_rfl) ?_))
       exact ⟨(([] : List Int) ++ x13), (some (([] : List Int) ++ x13)), (([] : List Int) ++ x13).length, (max 0 ((([] : List Int) ++ x13).map (rI .u8)).length), hm, rfl, rfl, (by first | rfl | assumption | omega | (simp only [List.length_set, List.length_append, List.length_cons, List.length_nil, List.length_replicate, List.length_drop] at * <;> omega))⟩
      ·
       obtain ⟨_, h76, hm⟩ := bs hm
       refine dO [(32, aR 3 1 (((([] : List Int) ++ x13) ++ (sll a1)).length))] [.box [aI a0.fRows, .pv (encSl R_tabularyref20_Col a0.fCols)] false, .box [aI x4.fRows, .pv (encSl R_stat_Col x4.fCols)] false, bR 5 1 (rI .u8) x13 g15 0, bR 5 1 (rI .u8) ((([] : List Int) ++ x13) ++ (sll a1)) 0 0] (app_refO (u := 0) (n := (([] : List Int) ++ x13).length) (id := 3) (rI .u8) (([] : List Int) ++ x13) (sll a1) (b := 1) t43 t5 rfl rfl rfl (fun _ => rfl) h73 h76 rfl rfl (Nat.zero_le _) (src_sl (R := (rI .u8)) (s := a1)) (by kernel_rfl)) (by kernel_rfl) ?_
       obtain ⟨_, h77, hm⟩ := bs hm
       obtain ⟨vv, H1, hC, rfl, rfl⟩ := ok_codec_Read h77
       refine dO [(33, .ptr 4 0)] [.box [aI a0.fRows, .pv (encSl R_tabularyref20_Col a0.fCols)] false, .box [aI x4.fRows, .pv (encSl R_stat_Col x4.fCols)] false, bR 5 1 (rI .u8) x13 g15 0, bR 5 1 (rI .u8) ((([] : List Int) ++ x13) ++ (sll a1)) 0 (max 0 (((([] : List Int) ++ x13) ++ (sll a1)).map (rI .u8)).length), .box [aB true, .pv (encSl (rI .u8) (some ((([] : List Int) ++ x13) ++ (sll a1)))), aI 0] false] (cownO [3] [aR 3 1 (((([] : List Int) ++ x13) ++ (sll a1)).length)] (v' := .ptr 4 0) (bs' := [.box [aB true, .pv (encSl (rI .u8) (some ((([] : List Int) ++ x13) ++ (sll a1)))), aI 0] false]) (by kernel_rfl) (by kernel_rfl) (pAs_cons (pA_ref (pur_ref' (n := ((([] : List Int) ++ x13) ++ (sll a1)).length) (id := 3) (l := ((([] : List Int) ++ x13) ++ (sll a1))) (R := (rI .u8)) rfl rfl (Nat.zero_le _))) (rfl)) hC (by kernel_rfl) (by kernel_rfl) (by kernel_rfl)) (by kernel_rfl) (sh 1 [(7, .ptr 4 0)] (by kernel_rfl) (fin [(1, .pv (encSl (rI .u8) a1)), (5, .ptr 1 0), (6, aR 2 1 g14), (7, .ptr 4 0)] rfl (by kernel_rfl) ?_))
       exact ⟨((([] : List Int) ++ x13) ++ (sll a1)), (some ((([] : List Int) ++ x13) ++ (sll a1))), ((([] : List Int) ++ x13) ++ (sll a1)).length, (max 0 (((([] : List Int) ++ x13) ++ (sll a1)).map (rI .u8)).length), hm, rfl, rfl, (by first | rfl | assumption | omega | (simp only [List.length_set, List.length_append, List.length_cons, List.length_nil, List.length_replicate, List.length_drop] at * <;> omega))⟩
end Go.Ab.S1
