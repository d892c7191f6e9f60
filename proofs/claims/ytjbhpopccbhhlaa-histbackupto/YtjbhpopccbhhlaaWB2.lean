import Derived.Test.YtjbhpopccbhhlaaWB1
namespace Go.Ab.S1
open Go Go.Ab Go.Pl
open Go.Proofs.Try
set_option linter.unusedVariables false
set_option linter.unusedSimpArgs false
set_option maxRecDepth 100000
theorem ok_law19_HistBack {n : Nat} {a0 : (Option (List tabularyref19_Bucket))} {a1 : (Option (List Int))} {r : Bool} (hm : law19_HistBack n a0 a1 = some r) :
    call G n 9 [.pv (encSl R_tabularyref19_Bucket a0), .pv (encSl (rI .u8) a1)] [] = some (.ret (aB r), []) := by
  unfold law19_HistBack at hm
  obtain ⟨n, rfl, h0⟩ := at1_some hm
  replace hm := h0; clear h0
  refine callL 51 [(0, .pv (encSl R_tabularyref19_Bucket a0)), (1, .pv (encSl (rI .u8) a1))] func9 rfl (by kernel_rfl) (sq (detn [(0, .pv (encSl R_tabularyref19_Bucket a0)), (1, .pv (encSl (rI .u8) a1))] (by kernel_rfl) ?_))
  refine sq (sq (rg ?_))
  obtain ⟨x1, h2, hm⟩ := bs hm
  refine dv 9 (cpure (by kernel_rfl) (ok_law19_works h2) (by kernel_rfl) (by kernel_rfl) (by kernel_rfl)) (by kernel_rfl) (sh 1 [(10, aB (!x1))] (by kernel_rfl) (fin [(0, .pv (encSl R_tabularyref19_Bucket a0)), (1, .pv (encSl (rI .u8) a1)), (10, aB (!x1))] rfl (by kernel_rfl) ?_))
  rcases bif_some hm with ⟨h3, hm⟩ | ⟨h3, hm⟩
  ·
   refine ct h3 (by kernel_rfl) (sq (detn [(4, aB false)] (by kernel_rfl) (wp_ret ?_)))
   obtain rfl := Option.some.inj hm
   exact ⟨trivial, by kernel_rfl⟩
  ·
   refine cf h3 (by kernel_rfl) (wp_skip (sq (rg (sh 1 [(11, .pv (encSl R_tabularyref19_Bucket a0))] (by kernel_rfl) ?_))))
   obtain ⟨x4, h5, hm⟩ := bs hm
   refine dv 12 (cpure (by kernel_rfl) (ok_law19_Given h5) (by kernel_rfl) (by kernel_rfl) (by kernel_rfl)) (by kernel_rfl) (sh 1 [(5, .pv (encSl R_hist_Bucket x4))] (by kernel_rfl) (fin [(0, .pv (encSl R_tabularyref19_Bucket a0)), (1, .pv (encSl (rI .u8) a1)), (5, .pv (encSl R_hist_Bucket x4))] rfl (by kernel_rfl) ?_))
   refine sq (sq (rg (sh 1 [(13, .pv (encSl R_tabularyref19_Bucket a0))] (by kernel_rfl) (dv 14 (v := aI ((sll a0).length : Int)) (len_slO R_tabularyref19_Bucket a0 t56 (by kernel_rfl)) (by kernel_rfl) (sh 2 [(16, aB (decide (((sll a0).length : Int) > 60))), (15, aB (decide (((sll a0).length : Int) > 60)))] (by kernel_rfl) ?_)))))
   refine seg (decide (((sll a0).length : Int) > 60)) [16, 15] (fun b => [(20, aB (b || (decide (((sll a1).length : Int) > 2000)))), (19, ifA b (.undef) (aB (decide (((sll a1).length : Int) > 2000)))), (18, ifA b (.undef) (aI ((sll a1).length : Int))), (17, ifA b (.undef) (.pv (encSl (rI .u8) a1)))]) 8 (by kernel_rfl) ?_ ?_ ?_
   ·
    intro Q h
    refine sh 4 [(20, aB true), (19, .undef), (18, .undef), (17, .undef)] (by kernel_rfl) ?_
    exact sameN (by kernel_rfl) (by kernel_rfl) h
   ·
    intro Q h
    refine sh 1 [(17, .pv (encSl (rI .u8) a1))] (by kernel_rfl) (dv 18 (v := aI ((sll a1).length : Int)) (len_slO (rI .u8) a1 t43 (by kernel_rfl)) (by kernel_rfl) (sh 2 [(20, aB (decide (((sll a1).length : Int) > 2000))), (19, aB (decide (((sll a1).length : Int) > 2000)))] (by kernel_rfl) ?_))
    exact sameN (by kernel_rfl) (by kernel_rfl) h
   refine sh 1 [(21, aB ((decide (((sll a0).length : Int) > 60)) || (decide (((sll a1).length : Int) > 2000))))] (by kernel_rfl) ?_
   rcases bif_some hm with ⟨h6, hm⟩ | ⟨h6, hm⟩
   ·
    refine known [21, 20] h6 (by kernel_rfl) (sh 4 [(25, aB true), (24, .undef), (23, .undef), (22, .undef)] (by kernel_rfl) (fin [(0, .pv (encSl R_tabularyref19_Bucket a0)), (1, .pv (encSl (rI .u8) a1)), (5, .pv (encSl R_hist_Bucket x4)), (25, aB true)] rfl (by kernel_rfl) (cT (by kernel_rfl) (sq (detn [(4, aB true)] (by kernel_rfl) (wp_ret ?_))))))
    obtain rfl := Option.some.inj hm
    exact ⟨trivial, by kernel_rfl⟩
   ·
    refine known [21, 20] h6 (by kernel_rfl) (sh 1 [(22, .pv (encSl R_hist_Bucket x4))] (by kernel_rfl) ?_)
    obtain ⟨x7, h8, hm⟩ := bs hm
    refine dv 23 (cpure (by kernel_rfl) (ok_hist_Right h8) (by kernel_rfl) (by kernel_rfl) (by kernel_rfl)) (by kernel_rfl) (sh 2 [(25, aB (!x7)), (24, aB (!x7))] (by kernel_rfl) (fin [(0, .pv (encSl R_tabularyref19_Bucket a0)), (1, .pv (encSl (rI .u8) a1)), (5, .pv (encSl R_hist_Bucket x4)), (25, aB (!x7))] rfl (by kernel_rfl) ?_))
    rcases bif_some hm with ⟨h9, hm⟩ | ⟨h9, hm⟩
    ·
     refine ct h9 (by kernel_rfl) (sq (detn [(4, aB true)] (by kernel_rfl) (wp_ret ?_)))
     obtain rfl := Option.some.inj hm
     exact ⟨trivial, by kernel_rfl⟩
    ·
     refine cf h9 (by kernel_rfl) (wp_skip ?_)
     obtain ⟨k15, hk15, hm⟩ := withK_some hm
     refine mid (fun t H => (∃ (y10 : (List Int)) (y11 : (Option (List Int))) (g12 : Nat) (g14 : Nat), k15 y11 = some r ∧ t = mk 51 [(0, .pv (encSl R_tabularyref19_Bucket a0)), (1, .pv (encSl (rI .u8) a1)), (6, .ptr 1 0)] ∧ H = [bR 5 1 (rI .u8) y10 g12 g14, .box [aB true, .pv (encSl (rI .u8) y11), aI 0] false] ∧ g12 ≤ y10.length)) ?_ ?_
     ·
      rintro _ _ ⟨y10, y11, g12, g14, hm, rfl, rfl, q13⟩
      subst hk15
      obtain ⟨k21, hk21, hm⟩ := withK_some hm
      refine mid (fun t H => (∃ (y16 : Bool) (y17 : (Option (List Int))) (y18 : Int) (y20 : Int), k21 y16 y17 y18 none y20 = some r ∧ t = mk 51 [(0, .pv (encSl R_tabularyref19_Bucket a0)), (1, .pv (encSl (rI .u8) a1)), (6, .ptr 1 0), (7, .pv .nils), (8, aI y20)] ∧ H = [bR 5 1 (rI .u8) y10 g12 g14, .box [aB y16, .pv (encSl (rI .u8) y17), aI y18] false]) ∨ (∃ (y16 : Bool) (y17 : (Option (List Int))) (y18 : Int) (y19 : (List hist_Bucket)) (y20 : Int), k21 y16 y17 y18 (some y19) y20 = some r ∧ t = mk 51 [(0, .pv (encSl R_tabularyref19_Bucket a0)), (1, .pv (encSl (rI .u8) a1)), (6, .ptr 1 0), (7, aR 2 10 y19.length), (8, aI y20)] ∧ H = [bR 5 1 (rI .u8) y10 g12 g14, .box [aB y16, .pv (encSl (rI .u8) y17), aI y18] false, bR 77 10 R_hist_Bucket y19 0 0])) ?_ ?_
      ·
       rintro _ _ (⟨y16, y17, y18, y20, hm, rfl, rfl⟩ | ⟨y16, y17, y18, y19, y20, hm, rfl, rfl⟩)
       ·
        subst hk21
        refine sq (rg (sh 3 [(38, aB (y20 == 0)), (37, aB (y20 == 0)), (36, aI y20)] (by kernel_rfl) ?_))
        rcases bif_some hm with ⟨h22, hm⟩ | ⟨h22, hm⟩
        ·
         refine known [38, 37] h22 (by kernel_rfl) (sh 1 [(39, .pv .nils)] (by kernel_rfl) ?_)
         obtain ⟨x23, h24, hm⟩ := bs hm
         refine dv 40 (cpure (by kernel_rfl) (ok_law19_Told h24) (by kernel_rfl) (by kernel_rfl) (by kernel_rfl)) (by kernel_rfl) (sh 1 [(41, .pv (encSl R_tabularyref19_Bucket a0))] (by kernel_rfl) ?_)
         obtain ⟨x25, h26, hm⟩ := bs hm
         refine dv 42 (cpure (by kernel_rfl) (ok_ref19_Same h26) (by kernel_rfl) (by kernel_rfl) (by kernel_rfl)) (by kernel_rfl) (sh 2 [(44, aB x25), (43, aB x25)] (by kernel_rfl) ?_)
         rcases bif_some hm with ⟨h27, hm⟩ | ⟨h27, hm⟩
         ·
          refine known [44, 43, 42] h27 (by kernel_rfl) (sh 1 [(45, .ptr 1 0)] (by kernel_rfl) ?_)
          obtain ⟨x29, h28, hm⟩ := bs hm
          obtain ⟨vv, H1, hC, rfl, rfl⟩ := ok_codec_Reader_Left h28
          refine dR [(46, aI x29)] [bR 5 1 (rI .u8) y10 g12 g14, .box [aB y16, .pv (encSl (rI .u8) y17), aI y18] false] [1] [.ptr 1 0] (by kernel_rfl) (by kernel_rfl) (by kernel_rfl) hC (by kernel_rfl) (sh 1 [(47, .pv (encSl (rI .u8) a1))] (by kernel_rfl) (dv 48 (v := aI ((sll a1).length : Int)) (len_slO (rI .u8) a1 t43 (by kernel_rfl)) (by kernel_rfl) (sh 3 [(4, aB (x29 == ((sll a1).length : Int))), (50, aB (x29 == ((sll a1).length : Int))), (49, aB (x29 == ((sll a1).length : Int)))] (by kernel_rfl) (fin [(4, aB (x29 == ((sll a1).length : Int)))] rfl (by kernel_rfl) (wp_ret ?_)))))
          obtain rfl := Option.some.inj hm
          exact ⟨trivial, by kernel_rfl⟩
         ·
          refine known [44, 43, 42] h27 (by kernel_rfl) (sh 7 [(4, aB false), (50, aB false), (49, .undef), (48, .undef), (47, .undef), (46, .undef), (45, .undef)] (by kernel_rfl) (fin [(4, aB false)] rfl (by kernel_rfl) (wp_ret ?_)))
          obtain rfl := Option.some.inj hm
          exact ⟨trivial, by kernel_rfl⟩
        ·
         refine known [38, 37] h22 (by kernel_rfl) (sh 13 [(4, aB false), (50, aB false), (49, .undef), (48, .undef), (47, .undef), (46, .undef), (45, .undef), (44, aB false), (43, aB false), (42, .undef), (41, .undef), (40, .undef), (39, .undef)] (by kernel_rfl) (fin [(4, aB false)] rfl (by kernel_rfl) (wp_ret ?_)))
         obtain rfl := Option.some.inj hm
         exact ⟨trivial, by kernel_rfl⟩
       ·
        subst hk21
        refine sq (rg (sh 3 [(38, aB (y20 == 0)), (37, aB (y20 == 0)), (36, aI y20)] (by kernel_rfl) ?_))
        rcases bif_some hm with ⟨h30, hm⟩ | ⟨h30, hm⟩
        ·
         refine known [38, 37] h30 (by kernel_rfl) (sh 1 [(39, aR 2 10 y19.length)] (by kernel_rfl) ?_)
         obtain ⟨x31, h32, hm⟩ := bs hm
         refine dO [(40, .pv (encSl R_tabularyref19_Bucket x31))] [bR 5 1 (rI .u8) y10 g12 g14, .box [aB y16, .pv (encSl (rI .u8) y17), aI y18] false, bR 77 10 R_hist_Bucket y19 0 (max 0 (y19.map R_hist_Bucket).length)] (cpureR [2] [aR 2 10 y19.length] (fl := false) (by kernel_rfl) (by kernel_rfl) (pAs_cons (pA_ref (pur_ref' (n := y19.length) (id := 2) (l := y19) (R := R_hist_Bucket) rfl rfl (Nat.zero_le _))) (rfl)) (ok_law19_Told h32) (by kernel_rfl) (by exact flat_sl x31)) (by kernel_rfl) (sh 1 [(41, .pv (encSl R_tabularyref19_Bucket a0))] (by kernel_rfl) ?_)
         obtain ⟨x33, h34, hm⟩ := bs hm
         refine dv 42 (cpure (by kernel_rfl) (ok_ref19_Same h34) (by kernel_rfl) (by kernel_rfl) (by kernel_rfl)) (by kernel_rfl) (sh 2 [(44, aB x33), (43, aB x33)] (by kernel_rfl) ?_)
         rcases bif_some hm with ⟨h35, hm⟩ | ⟨h35, hm⟩
         ·
          refine known [44, 43, 42] h35 (by kernel_rfl) (sh 1 [(45, .ptr 1 0)] (by kernel_rfl) ?_)
          obtain ⟨x37, h36, hm⟩ := bs hm
          obtain ⟨vv, H1, hC, rfl, rfl⟩ := ok_codec_Reader_Left h36
          refine dR [(46, aI x37)] [bR 5 1 (rI .u8) y10 g12 g14, .box [aB y16, .pv (encSl (rI .u8) y17), aI y18] false, bR 77 10 R_hist_Bucket y19 0 (max 0 (y19.map R_hist_Bucket).length)] [1] [.ptr 1 0] (by kernel_rfl) (by kernel_rfl) (by kernel_rfl) hC (by kernel_rfl) (sh 1 [(47, .pv (encSl (rI .u8) a1))] (by kernel_rfl) (dv 48 (v := aI ((sll a1).length : Int)) (len_slO (rI .u8) a1 t43 (by kernel_rfl)) (by kernel_rfl) (sh 3 [(4, aB (x37 == ((sll a1).length : Int))), (50, aB (x37 == ((sll a1).length : Int))), (49, aB (x37 == ((sll a1).length : Int)))] (by kernel_rfl) (fin [(4, aB (x37 == ((sll a1).length : Int)))] rfl (by kernel_rfl) (wp_ret ?_)))))
          obtain rfl := Option.some.inj hm
          exact ⟨trivial, by kernel_rfl⟩
         ·
          refine known [44, 43, 42] h35 (by kernel_rfl) (sh 7 [(4, aB false), (50, aB false), (49, .undef), (48, .undef), (47, .undef), (46, .undef), (45, .undef)] (by kernel_rfl) (fin [(4, aB false)] rfl (by kernel_rfl) (wp_ret ?_)))
          obtain rfl := Option.some.inj hm
          exact ⟨trivial, by kernel_rfl⟩
        ·
         refine known [38, 37] h30 (by kernel_rfl) (sh 13 [(4, aB false), (50, aB false), (49, .undef), (48, .undef), (47, .undef), (46, .undef), (45, .undef), (44, aB false), (43, aB false), (42, .undef), (41, .undef), (40, .undef), (39, .undef)] (by kernel_rfl) (fin [(4, aB false)] rfl (by kernel_rfl) (wp_ret ?_)))
         obtain rfl := Option.some.inj hm
         exact ⟨trivial, by kernel_rfl⟩
      refine rg (sh 1 [(32, .ptr 1 0)] (by kernel_rfl) ?_)
      obtain ⟨x44, h38, hm⟩ := bs hm
      rcases x44 with ⟨x39, x40, x41, _ | x42, x43⟩
      ·
       obtain ⟨vv, H1, hC, rfl, rfl⟩ := ok_hist_Take h38
       refine dR [(33, .tup [.pv .nils, aI x43])] [bR 5 1 (rI .u8) y10 g12 g14, .box [aB x39, .pv (encSl (rI .u8) x40), aI x41] false] [1] [.ptr 1 0] (by kernel_rfl) (by kernel_rfl) (by kernel_rfl) hC (by kernel_rfl) (sh 5 [(8, aI x43), (7, .pv .nils), (35, aI x43), (34, .pv .nils), (31, .tup [.pv .nils, aI x43])] (by kernel_rfl) (fin [(0, .pv (encSl R_tabularyref19_Bucket a0)), (1, .pv (encSl (rI .u8) a1)), (6, .ptr 1 0), (7, .pv .nils), (8, aI x43)] rfl (by kernel_rfl) ?_))
       exact .inl ⟨x39, x40, x41, x43, hm, rfl, rfl⟩
      ·
       obtain ⟨vv, H1, hC, rfl, rfl⟩ := ok_hist_Take h38
       refine dR [(33, .tup [aR 2 10 x42.length, aI x43])] [bR 5 1 (rI .u8) y10 g12 g14, .box [aB x39, .pv (encSl (rI .u8) x40), aI x41] false, bR 77 10 R_hist_Bucket x42 0 0] [1] [.ptr 1 0] (by kernel_rfl) (by kernel_rfl) (by kernel_rfl) hC (by kernel_rfl) (sh 5 [(8, aI x43), (7, aR 2 10 x42.length), (35, aI x43), (34, aR 2 10 x42.length), (31, .tup [aR 2 10 x42.length, aI x43])] (by kernel_rfl) (fin [(0, .pv (encSl R_tabularyref19_Bucket a0)), (1, .pv (encSl (rI .u8) a1)), (6, .ptr 1 0), (7, aR 2 10 x42.length), (8, aI x43)] rfl (by kernel_rfl) ?_))
       exact .inr (⟨x39, x40, x41, x42, x43, hm, rfl, rfl⟩)
     refine rg (sh 1 [(26, .pv (encSl R_hist_Bucket x4))] (by kernel_rfl) ?_)
     obtain ⟨x46, h45, hm⟩ := bs hm
     obtain ⟨vv, H1, hC, g47, q48, rfl, rfl⟩ := ok_hist_Put_nil h45
     refine dR [(27, aR 0 1 x46.length)] [bR 5 1 (rI .u8) x46 g47 0] [] [.pv .nils, .pv (encSl R_hist_Bucket x4)] (by kernel_rfl) (by kernel_rfl) (by kernel_rfl) hC (by kernel_rfl) (sh 1 [(28, .pv (encSl (rI .u8) a1))] (by kernel_rfl) ?_)
     rcases bif_some hm with ⟨h49, hm⟩ | ⟨h49, hm⟩
     ·
      obtain ⟨_, h50, hm⟩ := bs hm
      refine dv 29 (v := aR 0 1 x46.length) (app_ref0O (u := 0) (y := .pv (encSl (rI .u8) a1)) (n := x46.length) (id := 0) (rI .u8) x46 (sll a1) (b := 1) t43 t5 rfl rfl rfl h49 h50 rfl rfl (by omega) (src_sl (R := (rI .u8)) (s := a1)) (by kernel_rfl)) (by kernel_rfl) ?_
      obtain ⟨_, h51, hm⟩ := bs hm
      obtain ⟨vv, H1, hC, rfl, rfl⟩ := ok_codec_Read h51
      refine dO [(30, .ptr 1 0)] [bR 5 1 (rI .u8) x46 g47 (max 0 (x46.map (rI .u8)).length), .box [aB true, .pv (encSl (rI .u8) (some x46)), aI 0] false] (cownO [0] [aR 0 1 x46.length] (v' := .ptr 1 0) (bs' := [.box [aB true, .pv (encSl (rI .u8) (some x46)), aI 0] false]) (by kernel_rfl) (by kernel_rfl) (pAs_cons (pA_ref (pur_ref' (n := x46.length) (id := 0) (l := x46) (R := (rI .u8)) rfl rfl (by omega))) (rfl)) hC (by kernel_rfl) (by kernel_rfl) (by kernel_rfl)) (by kernel_rfl) (sh 1 [(6, .ptr 1 0)] (by kernel_rfl) (fin [(0, .pv (encSl R_tabularyref19_Bucket a0)), (1, .pv (encSl (rI .u8) a1)), (6, .ptr 1 0)] rfl (by kernel_rfl) ?_))
      exact ⟨x46, (some x46), g47, (max 0 (x46.map (rI .u8)).length), hm, rfl, rfl, (by first | exact Nat.zero_le _ | exact Nat.le_refl _ | assumption | omega | (simp only [List.length_set, List.length_append, List.length_cons, List.length_nil, List.length_replicate, List.length_drop] at * <;> omega))⟩
     ·
      obtain ⟨_, h52, hm⟩ := bs hm
      refine dO [(29, aR 0 1 ((x46 ++ (sll a1)).length))] [bR 5 1 (rI .u8) (x46 ++ (sll a1)) g47 0] (app_refO (u := 0) (n := x46.length) (id := 0) (rI .u8) x46 (sll a1) (b := 1) t43 t5 rfl rfl rfl (fun _ => rfl) h49 h52 rfl rfl (by omega) (src_sl (R := (rI .u8)) (s := a1)) (by kernel_rfl)) (by kernel_rfl) ?_
      obtain ⟨_, h53, hm⟩ := bs hm
      obtain ⟨vv, H1, hC, rfl, rfl⟩ := ok_codec_Read h53
      refine dO [(30, .ptr 1 0)] [bR 5 1 (rI .u8) (x46 ++ (sll a1)) g47 (max 0 ((x46 ++ (sll a1)).map (rI .u8)).length), .box [aB true, .pv (encSl (rI .u8) (some (x46 ++ (sll a1)))), aI 0] false] (cownO [0] [aR 0 1 ((x46 ++ (sll a1)).length)] (v' := .ptr 1 0) (bs' := [.box [aB true, .pv (encSl (rI .u8) (some (x46 ++ (sll a1)))), aI 0] false]) (by kernel_rfl) (by kernel_rfl) (pAs_cons (pA_ref (pur_ref' (n := (x46 ++ (sll a1)).length) (id := 0) (l := (x46 ++ (sll a1))) (R := (rI .u8)) rfl rfl (by first | exact Nat.zero_le _ | exact Nat.le_refl _ | assumption | omega | (simp only [List.length_set, List.length_append, List.length_cons, List.length_nil, List.length_replicate, List.length_drop] at * <;> omega)))) (rfl)) hC (by kernel_rfl) (by kernel_rfl) (by kernel_rfl)) (by kernel_rfl) (sh 1 [(6, .ptr 1 0)] (by kernel_rfl) (fin [(0, .pv (encSl R_tabularyref19_Bucket a0)), (1, .pv (encSl (rI .u8) a1)), (6, .ptr 1 0)] rfl (by kernel_rfl) ?_))
      exact ⟨(x46 ++ (sll a1)), (some (x46 ++ (sll a1))), g47, (max 0 ((x46 ++ (sll a1)).map (rI .u8)).length), hm, rfl, rfl, (by first | exact Nat.zero_le _ | exact Nat.le_refl _ | assumption | omega | (simp only [List.length_set, List.length_append, List.length_cons, List.length_nil, List.length_replicate, List.length_drop] at * <;> omega))⟩
end Go.Ab.S1
