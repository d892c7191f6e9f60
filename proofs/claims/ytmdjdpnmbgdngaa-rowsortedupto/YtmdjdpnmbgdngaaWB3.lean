import Derived.Test.YtmdjdpnmbgdngaaWB2
namespace Go.Ab.S1
open Go Go.Ab Go.Pl
open Go.Proofs.Try
set_option linter.unusedVariables false
set_option linter.unusedSimpArgs false
set_option maxRecDepth 100000
theorem okf_slices_symMergeCmpFunc_Value_row_Sort_1_r {rc_slices_symMergeCmpFunc_Value_row_Sort_1_r : (Nat → (List (Option (List api_Value))) → (Option (List api_Key)) → Int → Int → Int → Option ((List (Option (List api_Value)))))} (ih_slices_symMergeCmpFunc_Value_row_Sort_1_r : ∀ (m0 : Nat) (f0 : Nat) {n : Nat} {a0 : (List (Option (List api_Value)))} {a1 : (Option (List api_Key))} {a2 : Int} {a3 : Int} {a4 : Int} {r : (List (Option (List api_Value)))} (hm0 : a0.length = m0) (hf0 : f0 ≤ a0.length) (hm : rc_slices_symMergeCmpFunc_Value_row_Sort_1_r n a0 a1 a2 a3 a4 = some r), ∃ vv H1, call G n 89 [aR 0 1 m0, aI a2, aI a3, aI a4, .fn 47 [] [.ptr 1 0]] [bR 22 1 (rSl R_api_Value) a0 f0 0, .box [.pv (encSl R_api_Key a1)] false] = some (.ret vv, H1) ∧ (match r with | r0 => (∃ (e1 : Nat), r0.length = m0 ∧ e1 ≤ r0.length ∧ vv = .tup [] ∧ H1 = [bR 22 1 (rSl R_api_Value) r0 e1 0, .box [.pv (encSl R_api_Key a1)] false]))) (m0 : Nat) (f0 : Nat) {n : Nat} {a0 : (List (Option (List api_Value)))} {a1 : (Option (List api_Key))} {a2 : Int} {a3 : Int} {a4 : Int} {r : (List (Option (List api_Value)))} (hm0 : a0.length = m0) (hf0 : f0 ≤ a0.length) (hm : slices_symMergeCmpFunc_Value_row_Sort_1_r_f rc_slices_symMergeCmpFunc_Value_row_Sort_1_r n a0 a1 a2 a3 a4 = some r) :
    ∃ vv H1, call G n 89 [aR 0 1 m0, aI a2, aI a3, aI a4, .fn 47 [] [.ptr 1 0]] [bR 22 1 (rSl R_api_Value) a0 f0 0, .box [.pv (encSl R_api_Key a1)] false] = some (.ret vv, H1) ∧ (match r with | r0 => (∃ (e1 : Nat), r0.length = m0 ∧ e1 ≤ r0.length ∧ vv = .tup [] ∧ H1 = [bR 22 1 (rSl R_api_Value) r0 e1 0, .box [.pv (encSl R_api_Key a1)] false])) := by
  unfold slices_symMergeCmpFunc_Value_row_Sort_1_r_f at hm
  obtain ⟨n, rfl, h0⟩ := at1_some hm
  replace hm := h0; clear h0
  refine callE 220 [(0, aR 0 1 m0), (1, aI a2), (2, aI a3), (3, aI a4), (4, .fn 47 [] [.ptr 1 0])] func89 rfl (by kernel_rfl) ?_
  obtain ⟨k1, hk1, hm⟩ := withK_some hm
  refine mid (fun t H => (k1 () = some r ∧ t = mk 220 [(0, aR 0 1 m0), (1, aI a2), (2, aI a3), (3, aI a4), (4, .fn 47 [] [.ptr 1 0]), (28, aB ((IntKind.wrap .i64 (a3 - a2)) == 1))] ∧ H = [bR 22 1 (rSl R_api_Value) a0 f0 0, .box [.pv (encSl R_api_Key a1)] false])) ?_ ?_
  ·
   rintro _ _ ⟨hm, rfl, rfl⟩
   subst hk1
   obtain ⟨k2, hk2, hm⟩ := withK_some hm
   refine mid (fun t H => (k2 () = some r ∧ t = mk 220 [(0, aR 0 1 m0), (1, aI a2), (2, aI a3), (3, aI a4), (4, .fn 47 [] [.ptr 1 0]), (80, aB ((IntKind.wrap .i64 (a4 - a3)) == 1))] ∧ H = [bR 22 1 (rSl R_api_Value) a0 f0 0, .box [.pv (encSl R_api_Key a1)] false])) ?_ ?_
   ·
    rintro _ _ ⟨hm, rfl, rfl⟩
    subst hk2
    refine sq (detn [(0, aR 0 1 m0), (1, aI a2), (2, aI a3), (3, aI a4), (4, .fn 47 [] [.ptr 1 0]), (18, aI (IntKind.wrap .i64 (iShr .u64 (IntKind.wrap .u64 (IntKind.wrap .i64 (a2 + a4))) 1)))] (by kernel_rfl) (sq (detn [(0, aR 0 1 m0), (1, aI a2), (2, aI a3), (3, aI a4), (4, .fn 47 [] [.ptr 1 0]), (18, aI (IntKind.wrap .i64 (iShr .u64 (IntKind.wrap .u64 (IntKind.wrap .i64 (a2 + a4))) 1))), (19, aI (IntKind.wrap .i64 ((IntKind.wrap .i64 (iShr .u64 (IntKind.wrap .u64 (IntKind.wrap .i64 (a2 + a4))) 1)) + a3)))] (by kernel_rfl) (sq (detn [(0, aR 0 1 m0), (1, aI a2), (2, aI a3), (3, aI a4), (4, .fn 47 [] [.ptr 1 0]), (18, aI (IntKind.wrap .i64 (iShr .u64 (IntKind.wrap .u64 (IntKind.wrap .i64 (a2 + a4))) 1))), (19, aI (IntKind.wrap .i64 ((IntKind.wrap .i64 (iShr .u64 (IntKind.wrap .u64 (IntKind.wrap .i64 (a2 + a4))) 1)) + a3)))] (by kernel_rfl) ?_)))))
    obtain ⟨k5, hk5, hm⟩ := withK_some hm
    refine mid (fun t H => (∃ (y3 : Int) (y4 : Int), k5 y3 y4 = some r ∧ t = mk 220 [(0, aR 0 1 m0), (1, aI a2), (2, aI a3), (3, aI a4), (4, .fn 47 [] [.ptr 1 0]), (18, aI (IntKind.wrap .i64 (iShr .u64 (IntKind.wrap .u64 (IntKind.wrap .i64 (a2 + a4))) 1))), (19, aI (IntKind.wrap .i64 ((IntKind.wrap .i64 (iShr .u64 (IntKind.wrap .u64 (IntKind.wrap .i64 (a2 + a4))) 1)) + a3))), (20, aI y3), (21, aI y4)] ∧ H = [bR 22 1 (rSl R_api_Value) a0 f0 0, .box [.pv (encSl R_api_Key a1)] false])) ?_ ?_
    ·
     rintro _ _ ⟨y3, y4, hm, rfl, rfl⟩
     subst hk5
     refine sq (detn [(0, aR 0 1 m0), (1, aI a2), (2, aI a3), (3, aI a4), (4, .fn 47 [] [.ptr 1 0]), (18, aI (IntKind.wrap .i64 (iShr .u64 (IntKind.wrap .u64 (IntKind.wrap .i64 (a2 + a4))) 1))), (19, aI (IntKind.wrap .i64 ((IntKind.wrap .i64 (iShr .u64 (IntKind.wrap .u64 (IntKind.wrap .i64 (a2 + a4))) 1)) + a3))), (20, aI y3), (21, aI y4), (22, aI (IntKind.wrap .i64 ((IntKind.wrap .i64 ((IntKind.wrap .i64 (iShr .u64 (IntKind.wrap .u64 (IntKind.wrap .i64 (a2 + a4))) 1)) + a3)) - 1)))] (by kernel_rfl) ?_)
     obtain ⟨k9, hk9, hm⟩ := withK_some hm
     refine mid (fun t H => (∃ (y6 : Bool) (y7 : Int) (y8 : Int), k9 y7 = some r ∧ t = mk 220 [(0, aR 0 1 m0), (1, aI a2), (2, aI a3), (3, aI a4), (4, .fn 47 [] [.ptr 1 0]), (18, aI (IntKind.wrap .i64 (iShr .u64 (IntKind.wrap .u64 (IntKind.wrap .i64 (a2 + a4))) 1))), (19, aI (IntKind.wrap .i64 ((IntKind.wrap .i64 (iShr .u64 (IntKind.wrap .u64 (IntKind.wrap .i64 (a2 + a4))) 1)) + a3))), (20, aI y7), (21, aI y8), (22, aI (IntKind.wrap .i64 ((IntKind.wrap .i64 ((IntKind.wrap .i64 (iShr .u64 (IntKind.wrap .u64 (IntKind.wrap .i64 (a2 + a4))) 1)) + a3)) - 1))), (151, aB y6)] ∧ H = [bR 22 1 (rSl R_api_Value) a0 f0 0, .box [.pv (encSl R_api_Key a1)] false])) ?_ ?_
     ·
      rintro _ _ ⟨y6, y7, y8, hm, rfl, rfl⟩
      subst hk9
      refine sq (detn [(0, aR 0 1 m0), (1, aI a2), (2, aI a3), (3, aI a4), (4, .fn 47 [] [.ptr 1 0]), (18, aI (IntKind.wrap .i64 (iShr .u64 (IntKind.wrap .u64 (IntKind.wrap .i64 (a2 + a4))) 1))), (20, aI y7), (24, aI (IntKind.wrap .i64 ((IntKind.wrap .i64 ((IntKind.wrap .i64 (iShr .u64 (IntKind.wrap .u64 (IntKind.wrap .i64 (a2 + a4))) 1)) + a3)) - y7)))] (by kernel_rfl) ?_)
      obtain ⟨k16, hk16, hm⟩ := withK_some hm
      refine mid (fun t H => (∃ (y12 : (List (Option (List api_Value)))) (w10 : AV) (w11 : AV) (g14 : Nat), k16 y12 = some r ∧ t = mk 220 [(0, aR 0 1 m0), (1, aI a2), (2, w10), (3, aI a4), (4, .fn 47 [] [.ptr 1 0]), (18, aI (IntKind.wrap .i64 (iShr .u64 (IntKind.wrap .u64 (IntKind.wrap .i64 (a2 + a4))) 1))), (20, aI y7), (24, aI (IntKind.wrap .i64 ((IntKind.wrap .i64 ((IntKind.wrap .i64 (iShr .u64 (IntKind.wrap .u64 (IntKind.wrap .i64 (a2 + a4))) 1)) + a3)) - y7))), (185, w11)] ∧ H = [bR 22 1 (rSl R_api_Value) y12 g14 0, .box [.pv (encSl R_api_Key a1)] false] ∧ y12.length = m0 ∧ g14 ≤ y12.length)) ?_ ?_
      ·
       rintro _ _ ⟨y12, w10, w11, g14, hm, rfl, rfl, q13, q15⟩
       subst hk16
       obtain ⟨k24, hk24, hm⟩ := withK_some hm
       refine mid (fun t H => (∃ (y20 : (List (Option (List api_Value)))) (w17 : AV) (w18 : AV) (w19 : AV) (g22 : Nat), k24 y20 = some r ∧ t = mk 220 [(0, aR 0 1 m0), (1, w17), (3, aI a4), (4, .fn 47 [] [.ptr 1 0]), (18, aI (IntKind.wrap .i64 (iShr .u64 (IntKind.wrap .u64 (IntKind.wrap .i64 (a2 + a4))) 1))), (20, w18), (24, aI (IntKind.wrap .i64 ((IntKind.wrap .i64 ((IntKind.wrap .i64 (iShr .u64 (IntKind.wrap .u64 (IntKind.wrap .i64 (a2 + a4))) 1)) + a3)) - y7))), (199, w19)] ∧ H = [bR 22 1 (rSl R_api_Value) y20 g22 0, .box [.pv (encSl R_api_Key a1)] false] ∧ y20.length = m0 ∧ g22 ≤ y20.length)) ?_ ?_
       ·
        rintro _ _ ⟨y20, w17, w18, w19, g22, hm, rfl, rfl, q21, q23⟩
        subst hk24
        refine sq (rg (sh 4 [(209, aB (decide ((IntKind.wrap .i64 (iShr .u64 (IntKind.wrap .u64 (IntKind.wrap .i64 (a2 + a4))) 1)) < (IntKind.wrap .i64 ((IntKind.wrap .i64 ((IntKind.wrap .i64 (iShr .u64 (IntKind.wrap .u64 (IntKind.wrap .i64 (a2 + a4))) 1)) + a3)) - y7))))), (208, aB (decide ((IntKind.wrap .i64 (iShr .u64 (IntKind.wrap .u64 (IntKind.wrap .i64 (a2 + a4))) 1)) < (IntKind.wrap .i64 ((IntKind.wrap .i64 ((IntKind.wrap .i64 (iShr .u64 (IntKind.wrap .u64 (IntKind.wrap .i64 (a2 + a4))) 1)) + a3)) - y7))))), (207, aI (IntKind.wrap .i64 ((IntKind.wrap .i64 ((IntKind.wrap .i64 (iShr .u64 (IntKind.wrap .u64 (IntKind.wrap .i64 (a2 + a4))) 1)) + a3)) - y7))), (206, aI (IntKind.wrap .i64 (iShr .u64 (IntKind.wrap .u64 (IntKind.wrap .i64 (a2 + a4))) 1)))] (by kernel_rfl) ?_))
        refine seg (decide ((IntKind.wrap .i64 (iShr .u64 (IntKind.wrap .u64 (IntKind.wrap .i64 (a2 + a4))) 1)) < (IntKind.wrap .i64 ((IntKind.wrap .i64 ((IntKind.wrap .i64 (iShr .u64 (IntKind.wrap .u64 (IntKind.wrap .i64 (a2 + a4))) 1)) + a3)) - y7)))) [209, 208] (fun b => [(213, aB (b && (decide ((IntKind.wrap .i64 ((IntKind.wrap .i64 ((IntKind.wrap .i64 (iShr .u64 (IntKind.wrap .u64 (IntKind.wrap .i64 (a2 + a4))) 1)) + a3)) - y7)) < a4)))), (212, ifA b (aB (decide ((IntKind.wrap .i64 ((IntKind.wrap .i64 ((IntKind.wrap .i64 (iShr .u64 (IntKind.wrap .u64 (IntKind.wrap .i64 (a2 + a4))) 1)) + a3)) - y7)) < a4))) (.undef)), (211, ifA b (aI a4) (.undef)), (210, ifA b (aI (IntKind.wrap .i64 ((IntKind.wrap .i64 ((IntKind.wrap .i64 (iShr .u64 (IntKind.wrap .u64 (IntKind.wrap .i64 (a2 + a4))) 1)) + a3)) - y7))) (.undef))]) 8 (by kernel_rfl) ?_ ?_ ?_
        ·
         intro Q h
         refine sh 4 [(213, aB (decide ((IntKind.wrap .i64 ((IntKind.wrap .i64 ((IntKind.wrap .i64 (iShr .u64 (IntKind.wrap .u64 (IntKind.wrap .i64 (a2 + a4))) 1)) + a3)) - y7)) < a4))), (212, aB (decide ((IntKind.wrap .i64 ((IntKind.wrap .i64 ((IntKind.wrap .i64 (iShr .u64 (IntKind.wrap .u64 (IntKind.wrap .i64 (a2 + a4))) 1)) + a3)) - y7)) < a4))), (211, aI a4), (210, aI (IntKind.wrap .i64 ((IntKind.wrap .i64 ((IntKind.wrap .i64 (iShr .u64 (IntKind.wrap .u64 (IntKind.wrap .i64 (a2 + a4))) 1)) + a3)) - y7)))] (by kernel_rfl) ?_
         exact sameN (by kernel_rfl) (by kernel_rfl) h
        ·
         intro Q h
         refine sh 4 [(213, aB false), (212, .undef), (211, .undef), (210, .undef)] (by kernel_rfl) ?_
         exact sameN (by kernel_rfl) (by kernel_rfl) h
        refine fin [(0, aR 0 1 m0), (3, aI a4), (4, .fn 47 [] [.ptr 1 0]), (18, aI (IntKind.wrap .i64 (iShr .u64 (IntKind.wrap .u64 (IntKind.wrap .i64 (a2 + a4))) 1))), (24, aI (IntKind.wrap .i64 ((IntKind.wrap .i64 ((IntKind.wrap .i64 (iShr .u64 (IntKind.wrap .u64 (IntKind.wrap .i64 (a2 + a4))) 1)) + a3)) - y7))), (213, aB ((decide ((IntKind.wrap .i64 (iShr .u64 (IntKind.wrap .u64 (IntKind.wrap .i64 (a2 + a4))) 1)) < (IntKind.wrap .i64 ((IntKind.wrap .i64 ((IntKind.wrap .i64 (iShr .u64 (IntKind.wrap .u64 (IntKind.wrap .i64 (a2 + a4))) 1)) + a3)) - y7)))) && (decide ((IntKind.wrap .i64 ((IntKind.wrap .i64 ((IntKind.wrap .i64 (iShr .u64 (IntKind.wrap .u64 (IntKind.wrap .i64 (a2 + a4))) 1)) + a3)) - y7)) < a4))))] rfl (by kernel_rfl) ?_
        rcases bif_some hm with ⟨h25, hm⟩ | ⟨h25, hm⟩
        ·
         refine ct h25 (by kernel_rfl) (rg (sh 5 [(218, .fn 47 [] [.ptr 1 0]), (217, aI a4), (216, aI (IntKind.wrap .i64 ((IntKind.wrap .i64 ((IntKind.wrap .i64 (iShr .u64 (IntKind.wrap .u64 (IntKind.wrap .i64 (a2 + a4))) 1)) + a3)) - y7))), (215, aI (IntKind.wrap .i64 (iShr .u64 (IntKind.wrap .u64 (IntKind.wrap .i64 (a2 + a4))) 1))), (214, aR 0 1 m0)] (by kernel_rfl) ?_))
         obtain ⟨x27, h26, hm⟩ := bs hm
         obtain ⟨vv, H1, hC, g28, q29, q30, rfl, rfl⟩ := ih_slices_symMergeCmpFunc_Value_row_Sort_1_r m0 g22 (by first | rfl | assumption | omega | (simp only [List.length_set, List.length_append, List.length_cons, List.length_nil, List.length_replicate, List.length_drop] at * <;> omega)) (by first | exact Nat.zero_le _ | exact Nat.le_refl _ | assumption | omega | (simp only [List.length_set, List.length_append, List.length_cons, List.length_nil, List.length_replicate, List.length_drop] at * <;> omega)) h26
         refine dR [(219, .tup [])] [bR 22 1 (rSl R_api_Value) x27 g28 0, .box [.pv (encSl R_api_Key a1)] false] [0, 1] [aR 0 1 m0, aI (IntKind.wrap .i64 (iShr .u64 (IntKind.wrap .u64 (IntKind.wrap .i64 (a2 + a4))) 1)), aI (IntKind.wrap .i64 ((IntKind.wrap .i64 ((IntKind.wrap .i64 (iShr .u64 (IntKind.wrap .u64 (IntKind.wrap .i64 (a2 + a4))) 1)) + a3)) - y7)), aI a4, .fn 47 [] [.ptr 1 0]] (by kernel_rfl) (by kernel_rfl) (by kernel_rfl) hC (by kernel_rfl) (fin [] rfl (by kernel_rfl) ?_)
         obtain rfl := Option.some.inj hm
         exact ⟨trivial, .tup [], [bR 22 1 (rSl R_api_Value) x27 g28 0, .box [.pv (encSl R_api_Key a1)] false], by kernel_rfl, g28, (by first | rfl | assumption | omega | (simp only [List.length_set, List.length_append, List.length_cons, List.length_nil, List.length_replicate, List.length_drop] at * <;> omega)), (by first | exact Nat.zero_le _ | exact Nat.le_refl _ | assumption | omega | (simp only [List.length_set, List.length_append, List.length_cons, List.length_nil, List.length_replicate, List.length_drop] at * <;> omega)), rfl, rfl⟩
        ·
         refine cf h25 (by kernel_rfl) (wp_skip ?_)
         obtain rfl := Option.some.inj hm
         exact ⟨trivial, .tup [], [bR 22 1 (rSl R_api_Value) y20 g22 0, .box [.pv (encSl R_api_Key a1)] false], by kernel_rfl, g22, (by first | rfl | assumption | omega | (simp only [List.length_set, List.length_append, List.length_cons, List.length_nil, List.length_replicate, List.length_drop] at * <;> omega)), (by first | exact Nat.zero_le _ | exact Nat.le_refl _ | assumption | omega | (simp only [List.length_set, List.length_append, List.length_cons, List.length_nil, List.length_replicate, List.length_drop] at * <;> omega)), rfl, rfl⟩
       refine sq (rg (sh 4 [(195, aB (decide (a2 < y7))), (194, aB (decide (a2 < y7))), (193, aI y7), (192, aI a2)] (by kernel_rfl) ?_))
       refine seg (decide (a2 < y7)) [195, 194] (fun b => [(199, aB (b && (decide (y7 < (IntKind.wrap .i64 (iShr .u64 (IntKind.wrap .u64 (IntKind.wrap .i64 (a2 + a4))) 1)))))), (198, ifA b (aB (decide (y7 < (IntKind.wrap .i64 (iShr .u64 (IntKind.wrap .u64 (IntKind.wrap .i64 (a2 + a4))) 1))))) (.undef)), (197, ifA b (aI (IntKind.wrap .i64 (iShr .u64 (IntKind.wrap .u64 (IntKind.wrap .i64 (a2 + a4))) 1))) (.undef)), (196, ifA b (aI y7) (.undef))]) 8 (by kernel_rfl) ?_ ?_ ?_
       ·
        intro Q h
        refine sh 4 [(199, aB (decide (y7 < (IntKind.wrap .i64 (iShr .u64 (IntKind.wrap .u64 (IntKind.wrap .i64 (a2 + a4))) 1))))), (198, aB (decide (y7 < (IntKind.wrap .i64 (iShr .u64 (IntKind.wrap .u64 (IntKind.wrap .i64 (a2 + a4))) 1))))), (197, aI (IntKind.wrap .i64 (iShr .u64 (IntKind.wrap .u64 (IntKind.wrap .i64 (a2 + a4))) 1))), (196, aI y7)] (by kernel_rfl) ?_
        exact sameN (by kernel_rfl) (by kernel_rfl) h
       ·
        intro Q h
        refine sh 4 [(199, aB false), (198, .undef), (197, .undef), (196, .undef)] (by kernel_rfl) ?_
        exact sameN (by kernel_rfl) (by kernel_rfl) h
       refine fin [(0, aR 0 1 m0), (1, aI a2), (3, aI a4), (4, .fn 47 [] [.ptr 1 0]), (18, aI (IntKind.wrap .i64 (iShr .u64 (IntKind.wrap .u64 (IntKind.wrap .i64 (a2 + a4))) 1))), (20, aI y7), (24, aI (IntKind.wrap .i64 ((IntKind.wrap .i64 ((IntKind.wrap .i64 (iShr .u64 (IntKind.wrap .u64 (IntKind.wrap .i64 (a2 + a4))) 1)) + a3)) - y7))), (199, aB ((decide (a2 < y7)) && (decide (y7 < (IntKind.wrap .i64 (iShr .u64 (IntKind.wrap .u64 (IntKind.wrap .i64 (a2 + a4))) 1))))))] rfl (by kernel_rfl) ?_
       rcases bif_some hm with ⟨h31, hm⟩ | ⟨h31, hm⟩
       ·
        refine ct h31 (by kernel_rfl) (rg (sh 5 [(204, .fn 47 [] [.ptr 1 0]), (203, aI (IntKind.wrap .i64 (iShr .u64 (IntKind.wrap .u64 (IntKind.wrap .i64 (a2 + a4))) 1))), (202, aI y7), (201, aI a2), (200, aR 0 1 m0)] (by kernel_rfl) ?_))
        obtain ⟨x33, h32, hm⟩ := bs hm
        obtain ⟨vv, H1, hC, g34, q35, q36, rfl, rfl⟩ := ih_slices_symMergeCmpFunc_Value_row_Sort_1_r m0 g14 (by first | rfl | assumption | omega | (simp only [List.length_set, List.length_append, List.length_cons, List.length_nil, List.length_replicate, List.length_drop] at * <;> omega)) (by first | exact Nat.zero_le _ | exact Nat.le_refl _ | assumption | omega | (simp only [List.length_set, List.length_append, List.length_cons, List.length_nil, List.length_replicate, List.length_drop] at * <;> omega)) h32
        refine dR [(205, .tup [])] [bR 22 1 (rSl R_api_Value) x33 g34 0, .box [.pv (encSl R_api_Key a1)] false] [0, 1] [aR 0 1 m0, aI a2, aI y7, aI (IntKind.wrap .i64 (iShr .u64 (IntKind.wrap .u64 (IntKind.wrap .i64 (a2 + a4))) 1)), .fn 47 [] [.ptr 1 0]] (by kernel_rfl) (by kernel_rfl) (by kernel_rfl) hC (by kernel_rfl) (fin [(0, aR 0 1 m0), (3, aI a4), (4, .fn 47 [] [.ptr 1 0]), (18, aI (IntKind.wrap .i64 (iShr .u64 (IntKind.wrap .u64 (IntKind.wrap .i64 (a2 + a4))) 1))), (24, aI (IntKind.wrap .i64 ((IntKind.wrap .i64 ((IntKind.wrap .i64 (iShr .u64 (IntKind.wrap .u64 (IntKind.wrap .i64 (a2 + a4))) 1)) + a3)) - y7)))] rfl (by kernel_rfl) ?_)
        exact ⟨x33, .any, .any, .any, g34, hm, (mk_same (by kernel_rfl)), rfl, (by first | rfl | assumption | omega | (simp only [List.length_set, List.length_append, List.length_cons, List.length_nil, List.length_replicate, List.length_drop] at * <;> omega)), (by first | exact Nat.zero_le _ | exact Nat.le_refl _ | assumption | omega | (simp only [List.length_set, List.length_append, List.length_cons, List.length_nil, List.length_replicate, List.length_drop] at * <;> omega))⟩
       ·
        refine cf h31 (by kernel_rfl) (wp_skip ?_)
        exact ⟨y12, aI a2, aI y7, aB ((decide (a2 < y7)) && (decide (y7 < (IntKind.wrap .i64 (iShr .u64 (IntKind.wrap .u64 (IntKind.wrap .i64 (a2 + a4))) 1))))), g14, hm, (mk_same (by kernel_rfl)), rfl, (by first | rfl | assumption | omega | (simp only [List.length_set, List.length_append, List.length_cons, List.length_nil, List.length_replicate, List.length_drop] at * <;> omega)), (by first | exact Nat.zero_le _ | exact Nat.le_refl _ | assumption | omega | (simp only [List.length_set, List.length_append, List.length_cons, List.length_nil, List.length_replicate, List.length_drop] at * <;> omega))⟩
      refine sq (rg (sh 4 [(181, aB (decide (y7 < a3))), (180, aB (decide (y7 < a3))), (179, aI a3), (178, aI y7)] (by kernel_rfl) ?_))
      refine seg (decide (y7 < a3)) [181, 180] (fun b => [(185, aB (b && (decide (a3 < (IntKind.wrap .i64 ((IntKind.wrap .i64 ((IntKind.wrap .i64 (iShr .u64 (IntKind.wrap .u64 (IntKind.wrap .i64 (a2 + a4))) 1)) + a3)) - y7)))))), (184, ifA b (aB (decide (a3 < (IntKind.wrap .i64 ((IntKind.wrap .i64 ((IntKind.wrap .i64 (iShr .u64 (IntKind.wrap .u64 (IntKind.wrap .i64 (a2 + a4))) 1)) + a3)) - y7))))) (.undef)), (183, ifA b (aI (IntKind.wrap .i64 ((IntKind.wrap .i64 ((IntKind.wrap .i64 (iShr .u64 (IntKind.wrap .u64 (IntKind.wrap .i64 (a2 + a4))) 1)) + a3)) - y7))) (.undef)), (182, ifA b (aI a3) (.undef))]) 8 (by kernel_rfl) ?_ ?_ ?_
      ·
       intro Q h
       refine sh 4 [(185, aB (decide (a3 < (IntKind.wrap .i64 ((IntKind.wrap .i64 ((IntKind.wrap .i64 (iShr .u64 (IntKind.wrap .u64 (IntKind.wrap .i64 (a2 + a4))) 1)) + a3)) - y7))))), (184, aB (decide (a3 < (IntKind.wrap .i64 ((IntKind.wrap .i64 ((IntKind.wrap .i64 (iShr .u64 (IntKind.wrap .u64 (IntKind.wrap .i64 (a2 + a4))) 1)) + a3)) - y7))))), (183, aI (IntKind.wrap .i64 ((IntKind.wrap .i64 ((IntKind.wrap .i64 (iShr .u64 (IntKind.wrap .u64 (IntKind.wrap .i64 (a2 + a4))) 1)) + a3)) - y7))), (182, aI a3)] (by kernel_rfl) ?_
       exact sameN (by kernel_rfl) (by kernel_rfl) h
      ·
       intro Q h
       refine sh 4 [(185, aB false), (184, .undef), (183, .undef), (182, .undef)] (by kernel_rfl) ?_
       exact sameN (by kernel_rfl) (by kernel_rfl) h
      refine fin [(0, aR 0 1 m0), (1, aI a2), (2, aI a3), (3, aI a4), (4, .fn 47 [] [.ptr 1 0]), (18, aI (IntKind.wrap .i64 (iShr .u64 (IntKind.wrap .u64 (IntKind.wrap .i64 (a2 + a4))) 1))), (20, aI y7), (24, aI (IntKind.wrap .i64 ((IntKind.wrap .i64 ((IntKind.wrap .i64 (iShr .u64 (IntKind.wrap .u64 (IntKind.wrap .i64 (a2 + a4))) 1)) + a3)) - y7))), (185, aB ((decide (y7 < a3)) && (decide (a3 < (IntKind.wrap .i64 ((IntKind.wrap .i64 ((IntKind.wrap .i64 (iShr .u64 (IntKind.wrap .u64 (IntKind.wrap .i64 (a2 + a4))) 1)) + a3)) - y7))))))] rfl (by kernel_rfl) ?_
      rcases bif_some hm with ⟨h37, hm⟩ | ⟨h37, hm⟩
      ·
       refine ct h37 (by kernel_rfl) (rg (sh 5 [(190, .fn 47 [] [.ptr 1 0]), (189, aI (IntKind.wrap .i64 ((IntKind.wrap .i64 ((IntKind.wrap .i64 (iShr .u64 (IntKind.wrap .u64 (IntKind.wrap .i64 (a2 + a4))) 1)) + a3)) - y7))), (188, aI a3), (187, aI y7), (186, aR 0 1 m0)] (by kernel_rfl) ?_))
       obtain ⟨x39, h38, hm⟩ := bs hm
       obtain ⟨vv, H1, hC, g40, q41, q42, rfl, rfl⟩ := ok_slices_rotateCmpFunc_Value_row_Sort_1_r m0 f0 (by first | rfl | assumption | omega | (simp only [List.length_set, List.length_append, List.length_cons, List.length_nil, List.length_replicate, List.length_drop] at * <;> omega)) (by first | exact Nat.zero_le _ | exact Nat.le_refl _ | assumption | omega | (simp only [List.length_set, List.length_append, List.length_cons, List.length_nil, List.length_replicate, List.length_drop] at * <;> omega)) h38
       refine dR [(191, .tup [])] [bR 22 1 (rSl R_api_Value) x39 g40 0, .box [.pv (encSl R_api_Key a1)] false] [0, 1] [aR 0 1 m0, aI y7, aI a3, aI (IntKind.wrap .i64 ((IntKind.wrap .i64 ((IntKind.wrap .i64 (iShr .u64 (IntKind.wrap .u64 (IntKind.wrap .i64 (a2 + a4))) 1)) + a3)) - y7)), .fn 47 [] [.ptr 1 0]] (by kernel_rfl) (by kernel_rfl) (by kernel_rfl) hC (by kernel_rfl) (fin [(0, aR 0 1 m0), (1, aI a2), (3, aI a4), (4, .fn 47 [] [.ptr 1 0]), (18, aI (IntKind.wrap .i64 (iShr .u64 (IntKind.wrap .u64 (IntKind.wrap .i64 (a2 + a4))) 1))), (20, aI y7), (24, aI (IntKind.wrap .i64 ((IntKind.wrap .i64 ((IntKind.wrap .i64 (iShr .u64 (IntKind.wrap .u64 (IntKind.wrap .i64 (a2 + a4))) 1)) + a3)) - y7)))] rfl (by kernel_rfl) ?_)
       exact ⟨x39, .any, .any, g40, hm, (mk_same (by kernel_rfl)), rfl, (by first | rfl | assumption | omega | (simp only [List.length_set, List.length_append, List.length_cons, List.length_nil, List.length_replicate, List.length_drop] at * <;> omega)), (by first | exact Nat.zero_le _ | exact Nat.le_refl _ | assumption | omega | (simp only [List.length_set, List.length_append, List.length_cons, List.length_nil, List.length_replicate, List.length_drop] at * <;> omega))⟩
      ·
       refine cf h37 (by kernel_rfl) (wp_skip ?_)
       exact ⟨a0, aI a3, aB ((decide (y7 < a3)) && (decide (a3 < (IntKind.wrap .i64 ((IntKind.wrap .i64 ((IntKind.wrap .i64 (iShr .u64 (IntKind.wrap .u64 (IntKind.wrap .i64 (a2 + a4))) 1)) + a3)) - y7))))), f0, hm, (mk_same (by kernel_rfl)), rfl, (by first | rfl | assumption | omega | (simp only [List.length_set, List.length_append, List.length_cons, List.length_nil, List.length_replicate, List.length_drop] at * <;> omega)), (by first | exact Nat.zero_le _ | exact Nat.le_refl _ | assumption | omega | (simp only [List.length_set, List.length_append, List.length_cons, List.length_nil, List.length_replicate, List.length_drop] at * <;> omega))⟩
     refine bq ?_
     refine loopF (fun mm t H => (∃ (y45 : Int) (y46 : Int), slices_symMergeCmpFunc_Value_row_Sort_1_r_l33 n a0 a1 a2 a3 a4 k9 mm y45 y46 = some r ∧ t = mk 220 [(0, aR 0 1 m0), (1, aI a2), (2, aI a3), (3, aI a4), (4, .fn 47 [] [.ptr 1 0]), (18, aI (IntKind.wrap .i64 (iShr .u64 (IntKind.wrap .u64 (IntKind.wrap .i64 (a2 + a4))) 1))), (19, aI (IntKind.wrap .i64 ((IntKind.wrap .i64 (iShr .u64 (IntKind.wrap .u64 (IntKind.wrap .i64 (a2 + a4))) 1)) + a3))), (20, aI y45), (21, aI y46), (22, aI (IntKind.wrap .i64 ((IntKind.wrap .i64 ((IntKind.wrap .i64 (iShr .u64 (IntKind.wrap .u64 (IntKind.wrap .i64 (a2 + a4))) 1)) + a3)) - 1)))] ∧ H = [bR 22 1 (rSl R_api_Value) a0 f0 0, .box [.pv (encSl R_api_Key a1)] false])) (⟨y3, y4, hm, rfl, rfl⟩) ?_ ?_
     · rintro _ _ ⟨y45, y46, hm, _⟩; exact nomatch hm
     rintro m47 _ _ ⟨y45, y46, hm, rfl, rfl⟩
     simp only [slices_symMergeCmpFunc_Value_row_Sort_1_r_l33] at hm
     refine sq (sq (detn [(0, aR 0 1 m0), (1, aI a2), (2, aI a3), (3, aI a4), (4, .fn 47 [] [.ptr 1 0]), (18, aI (IntKind.wrap .i64 (iShr .u64 (IntKind.wrap .u64 (IntKind.wrap .i64 (a2 + a4))) 1))), (19, aI (IntKind.wrap .i64 ((IntKind.wrap .i64 (iShr .u64 (IntKind.wrap .u64 (IntKind.wrap .i64 (a2 + a4))) 1)) + a3))), (20, aI y45), (21, aI y46), (22, aI (IntKind.wrap .i64 ((IntKind.wrap .i64 ((IntKind.wrap .i64 (iShr .u64 (IntKind.wrap .u64 (IntKind.wrap .i64 (a2 + a4))) 1)) + a3)) - 1))), (151, aB (decide (y45 < y46)))] (by kernel_rfl) ?_))
     rcases bif_some hm with ⟨h48, hm⟩ | ⟨h48, hm⟩
     ·
      refine ct h48 (by kernel_rfl) (wp_skip (bq (sq (detn [(0, aR 0 1 m0), (1, aI a2), (2, aI a3), (3, aI a4), (4, .fn 47 [] [.ptr 1 0]), (18, aI (IntKind.wrap .i64 (iShr .u64 (IntKind.wrap .u64 (IntKind.wrap .i64 (a2 + a4))) 1))), (19, aI (IntKind.wrap .i64 ((IntKind.wrap .i64 (iShr .u64 (IntKind.wrap .u64 (IntKind.wrap .i64 (a2 + a4))) 1)) + a3))), (20, aI y45), (21, aI y46), (22, aI (IntKind.wrap .i64 ((IntKind.wrap .i64 ((IntKind.wrap .i64 (iShr .u64 (IntKind.wrap .u64 (IntKind.wrap .i64 (a2 + a4))) 1)) + a3)) - 1))), (23, aI (IntKind.wrap .i64 (iShr .u64 (IntKind.wrap .u64 (IntKind.wrap .i64 (y45 + y46))) 1)))] (by kernel_rfl) (sq (rgd (shd 5 [(162, aI (IntKind.wrap .i64 ((IntKind.wrap .i64 ((IntKind.wrap .i64 ((IntKind.wrap .i64 (iShr .u64 (IntKind.wrap .u64 (IntKind.wrap .i64 (a2 + a4))) 1)) + a3)) - 1)) - (IntKind.wrap .i64 (iShr .u64 (IntKind.wrap .u64 (IntKind.wrap .i64 (y45 + y46))) 1))))), (161, aI (IntKind.wrap .i64 (iShr .u64 (IntKind.wrap .u64 (IntKind.wrap .i64 (y45 + y46))) 1))), (160, aI (IntKind.wrap .i64 ((IntKind.wrap .i64 ((IntKind.wrap .i64 (iShr .u64 (IntKind.wrap .u64 (IntKind.wrap .i64 (a2 + a4))) 1)) + a3)) - 1))), (159, aR 0 1 m0), (158, .fn 47 [] [.ptr 1 0])] (by kernel_rfl) ?_)))))))
      obtain ⟨x49, h50, hm⟩ := bs hm
      refine dvd 163 (v := .eptr 0 0 m0 1 (0 + Int.toNat (IntKind.wrap .i64 ((IntKind.wrap .i64 ((IntKind.wrap .i64 ((IntKind.wrap .i64 (iShr .u64 (IntKind.wrap .u64 (IntKind.wrap .i64 (a2 + a4))) 1)) + a3)) - 1)) - (IntKind.wrap .i64 (iShr .u64 (IntKind.wrap .u64 (IntKind.wrap .i64 (y45 + y46))) 1))))) 0) (ia_refO a0 .i64 (n := m0) (id := 0) (esz := 1) t25 t22 h50 (by omega) rfl (by kernel_rfl)) (by kernel_rfl) (dvd 164 (v := .pv (encSl R_api_Value x49)) (ld_eptrO (rSl R_api_Value) a0 (n := m0) (esz := 1) (j := (IntKind.wrap .i64 ((IntKind.wrap .i64 ((IntKind.wrap .i64 ((IntKind.wrap .i64 (iShr .u64 (IntKind.wrap .u64 (IntKind.wrap .i64 (a2 + a4))) 1)) + a3)) - 1)) - (IntKind.wrap .i64 (iShr .u64 (IntKind.wrap .u64 (IntKind.wrap .i64 (y45 + y46))) 1))))) (off := 0) (id := 0) t22 rfl h50 (by omega) (by omega) (by kernel_rfl) (by kernel_rfl)) (by kernel_rfl) (shd 2 [(166, aI (IntKind.wrap .i64 (iShr .u64 (IntKind.wrap .u64 (IntKind.wrap .i64 (y45 + y46))) 1))), (165, aR 0 1 m0)] (by kernel_rfl) ?_))
      obtain ⟨x51, h52, hm⟩ := bs hm
      refine dvd 167 (v := .eptr 0 0 m0 1 (0 + Int.toNat (IntKind.wrap .i64 (iShr .u64 (IntKind.wrap .u64 (IntKind.wrap .i64 (y45 + y46))) 1))) 0) (ia_refO a0 .i64 (n := m0) (id := 0) (esz := 1) t25 t22 h52 (by omega) rfl (by kernel_rfl)) (by kernel_rfl) (dvd 168 (v := .pv (encSl R_api_Value x51)) (ld_eptrO (rSl R_api_Value) a0 (n := m0) (esz := 1) (j := (IntKind.wrap .i64 (iShr .u64 (IntKind.wrap .u64 (IntKind.wrap .i64 (y45 + y46))) 1))) (off := 0) (id := 0) t22 rfl h52 (by omega) (by omega) (by kernel_rfl) (by kernel_rfl)) (by kernel_rfl) ?_)
      obtain ⟨x53, h54, hm⟩ := bs hm
      refine dOd [(169, aI x53)] [bR 22 1 (rSl R_api_Value) a0 f0 0, .box [.pv (encSl R_api_Key a1)] false] (cpureR [1] [.pv (encSl R_api_Value x49), .pv (encSl R_api_Value x51), .ptr 1 0] (fl := true) (by kernel_rfl) (by kernel_rfl) (by kernel_rfl) (ok_row_Sort_1 h54) (by kernel_rfl) (by kernel_rfl)) (by kernel_rfl) (shd 2 [(171, aB (!(decide (x53 < 0)))), (170, aB (decide (x53 < 0)))] (by kernel_rfl) (find [(0, aR 0 1 m0), (1, aI a2), (2, aI a3), (3, aI a4), (4, .fn 47 [] [.ptr 1 0]), (18, aI (IntKind.wrap .i64 (iShr .u64 (IntKind.wrap .u64 (IntKind.wrap .i64 (a2 + a4))) 1))), (19, aI (IntKind.wrap .i64 ((IntKind.wrap .i64 (iShr .u64 (IntKind.wrap .u64 (IntKind.wrap .i64 (a2 + a4))) 1)) + a3))), (20, aI y45), (21, aI y46), (22, aI (IntKind.wrap .i64 ((IntKind.wrap .i64 ((IntKind.wrap .i64 (iShr .u64 (IntKind.wrap .u64 (IntKind.wrap .i64 (a2 + a4))) 1)) + a3)) - 1))), (23, aI (IntKind.wrap .i64 (iShr .u64 (IntKind.wrap .u64 (IntKind.wrap .i64 (y45 + y46))) 1))), (171, aB (!(decide (x53 < 0))))] rfl (by kernel_rfl) (by kernel_rfl) ?_))
      rcases bif_some hm with ⟨h55, hm⟩ | ⟨h55, hm⟩
      ·
       refine ct h55 (by kernel_rfl) (detn [(0, aR 0 1 m0), (1, aI a2), (2, aI a3), (3, aI a4), (4, .fn 47 [] [.ptr 1 0]), (18, aI (IntKind.wrap .i64 (iShr .u64 (IntKind.wrap .u64 (IntKind.wrap .i64 (a2 + a4))) 1))), (19, aI (IntKind.wrap .i64 ((IntKind.wrap .i64 (iShr .u64 (IntKind.wrap .u64 (IntKind.wrap .i64 (a2 + a4))) 1)) + a3))), (20, aI (IntKind.wrap .i64 ((IntKind.wrap .i64 (iShr .u64 (IntKind.wrap .u64 (IntKind.wrap .i64 (y45 + y46))) 1)) + 1))), (21, aI y46), (22, aI (IntKind.wrap .i64 ((IntKind.wrap .i64 ((IntKind.wrap .i64 (iShr .u64 (IntKind.wrap .u64 (IntKind.wrap .i64 (a2 + a4))) 1)) + a3)) - 1)))] (by kernel_rfl) ?_)
       exact ⟨_, _, tidyL [(0, aR 0 1 m0), (1, aI a2), (2, aI a3), (3, aI a4), (4, .fn 47 [] [.ptr 1 0]), (18, aI (IntKind.wrap .i64 (iShr .u64 (IntKind.wrap .u64 (IntKind.wrap .i64 (a2 + a4))) 1))), (19, aI (IntKind.wrap .i64 ((IntKind.wrap .i64 (iShr .u64 (IntKind.wrap .u64 (IntKind.wrap .i64 (a2 + a4))) 1)) + a3))), (20, aI (IntKind.wrap .i64 ((IntKind.wrap .i64 (iShr .u64 (IntKind.wrap .u64 (IntKind.wrap .i64 (y45 + y46))) 1)) + 1))), (21, aI y46), (22, aI (IntKind.wrap .i64 ((IntKind.wrap .i64 ((IntKind.wrap .i64 (iShr .u64 (IntKind.wrap .u64 (IntKind.wrap .i64 (a2 + a4))) 1)) + a3)) - 1)))] [bR 22 1 (rSl R_api_Value) a0 f0 0, .box [.pv (encSl R_api_Key a1)] false] (by kernel_rfl), ⟨(IntKind.wrap .i64 ((IntKind.wrap .i64 (iShr .u64 (IntKind.wrap .u64 (IntKind.wrap .i64 (y45 + y46))) 1)) + 1)), y46, hm, rfl, rfl⟩⟩
      ·
       refine cf h55 (by kernel_rfl) (detn [(0, aR 0 1 m0), (1, aI a2), (2, aI a3), (3, aI a4), (4, .fn 47 [] [.ptr 1 0]), (18, aI (IntKind.wrap .i64 (iShr .u64 (IntKind.wrap .u64 (IntKind.wrap .i64 (a2 + a4))) 1))), (19, aI (IntKind.wrap .i64 ((IntKind.wrap .i64 (iShr .u64 (IntKind.wrap .u64 (IntKind.wrap .i64 (a2 + a4))) 1)) + a3))), (20, aI y45), (21, aI (IntKind.wrap .i64 (iShr .u64 (IntKind.wrap .u64 (IntKind.wrap .i64 (y45 + y46))) 1))), (22, aI (IntKind.wrap .i64 ((IntKind.wrap .i64 ((IntKind.wrap .i64 (iShr .u64 (IntKind.wrap .u64 (IntKind.wrap .i64 (a2 + a4))) 1)) + a3)) - 1)))] (by kernel_rfl) ?_)
       exact ⟨_, _, tidyL [(0, aR 0 1 m0), (1, aI a2), (2, aI a3), (3, aI a4), (4, .fn 47 [] [.ptr 1 0]), (18, aI (IntKind.wrap .i64 (iShr .u64 (IntKind.wrap .u64 (IntKind.wrap .i64 (a2 + a4))) 1))), (19, aI (IntKind.wrap .i64 ((IntKind.wrap .i64 (iShr .u64 (IntKind.wrap .u64 (IntKind.wrap .i64 (a2 + a4))) 1)) + a3))), (20, aI y45), (21, aI (IntKind.wrap .i64 (iShr .u64 (IntKind.wrap .u64 (IntKind.wrap .i64 (y45 + y46))) 1))), (22, aI (IntKind.wrap .i64 ((IntKind.wrap .i64 ((IntKind.wrap .i64 (iShr .u64 (IntKind.wrap .u64 (IntKind.wrap .i64 (a2 + a4))) 1)) + a3)) - 1)))] [bR 22 1 (rSl R_api_Value) a0 f0 0, .box [.pv (encSl R_api_Key a1)] false] (by kernel_rfl), ⟨y45, (IntKind.wrap .i64 (iShr .u64 (IntKind.wrap .u64 (IntKind.wrap .i64 (y45 + y46))) 1)), hm, rfl, rfl⟩⟩
     ·
      refine cf h48 (by kernel_rfl) (wp_exit ?_)
      exact ⟨(decide (y45 < y46)), y45, y46, hm, rfl, rfl⟩
    refine sq (detn [(0, aR 0 1 m0), (1, aI a2), (2, aI a3), (3, aI a4), (4, .fn 47 [] [.ptr 1 0]), (18, aI (IntKind.wrap .i64 (iShr .u64 (IntKind.wrap .u64 (IntKind.wrap .i64 (a2 + a4))) 1))), (19, aI (IntKind.wrap .i64 ((IntKind.wrap .i64 (iShr .u64 (IntKind.wrap .u64 (IntKind.wrap .i64 (a2 + a4))) 1)) + a3))), (140, aB (decide (a3 > (IntKind.wrap .i64 (iShr .u64 (IntKind.wrap .u64 (IntKind.wrap .i64 (a2 + a4))) 1)))))] (by kernel_rfl) ?_)
    rcases bif_some hm with ⟨h56, hm⟩ | ⟨h56, hm⟩
    ·
     refine ct h56 (by kernel_rfl) (sq (detn [(0, aR 0 1 m0), (1, aI a2), (2, aI a3), (3, aI a4), (4, .fn 47 [] [.ptr 1 0]), (18, aI (IntKind.wrap .i64 (iShr .u64 (IntKind.wrap .u64 (IntKind.wrap .i64 (a2 + a4))) 1))), (19, aI (IntKind.wrap .i64 ((IntKind.wrap .i64 (iShr .u64 (IntKind.wrap .u64 (IntKind.wrap .i64 (a2 + a4))) 1)) + a3))), (20, aI (IntKind.wrap .i64 ((IntKind.wrap .i64 ((IntKind.wrap .i64 (iShr .u64 (IntKind.wrap .u64 (IntKind.wrap .i64 (a2 + a4))) 1)) + a3)) - a4)))] (by kernel_rfl) (detn [(0, aR 0 1 m0), (1, aI a2), (2, aI a3), (3, aI a4), (4, .fn 47 [] [.ptr 1 0]), (18, aI (IntKind.wrap .i64 (iShr .u64 (IntKind.wrap .u64 (IntKind.wrap .i64 (a2 + a4))) 1))), (19, aI (IntKind.wrap .i64 ((IntKind.wrap .i64 (iShr .u64 (IntKind.wrap .u64 (IntKind.wrap .i64 (a2 + a4))) 1)) + a3))), (20, aI (IntKind.wrap .i64 ((IntKind.wrap .i64 ((IntKind.wrap .i64 (iShr .u64 (IntKind.wrap .u64 (IntKind.wrap .i64 (a2 + a4))) 1)) + a3)) - a4))), (21, aI (IntKind.wrap .i64 (iShr .u64 (IntKind.wrap .u64 (IntKind.wrap .i64 (a2 + a4))) 1)))] (by kernel_rfl) ?_)))
     exact ⟨(IntKind.wrap .i64 ((IntKind.wrap .i64 ((IntKind.wrap .i64 (iShr .u64 (IntKind.wrap .u64 (IntKind.wrap .i64 (a2 + a4))) 1)) + a3)) - a4)), (IntKind.wrap .i64 (iShr .u64 (IntKind.wrap .u64 (IntKind.wrap .i64 (a2 + a4))) 1)), hm, rfl, rfl⟩
    ·
     refine cf h56 (by kernel_rfl) (sq (detn [(0, aR 0 1 m0), (1, aI a2), (2, aI a3), (3, aI a4), (4, .fn 47 [] [.ptr 1 0]), (18, aI (IntKind.wrap .i64 (iShr .u64 (IntKind.wrap .u64 (IntKind.wrap .i64 (a2 + a4))) 1))), (19, aI (IntKind.wrap .i64 ((IntKind.wrap .i64 (iShr .u64 (IntKind.wrap .u64 (IntKind.wrap .i64 (a2 + a4))) 1)) + a3))), (20, aI a2)] (by kernel_rfl) (detn [(0, aR 0 1 m0), (1, aI a2), (2, aI a3), (3, aI a4), (4, .fn 47 [] [.ptr 1 0]), (18, aI (IntKind.wrap .i64 (iShr .u64 (IntKind.wrap .u64 (IntKind.wrap .i64 (a2 + a4))) 1))), (19, aI (IntKind.wrap .i64 ((IntKind.wrap .i64 (iShr .u64 (IntKind.wrap .u64 (IntKind.wrap .i64 (a2 + a4))) 1)) + a3))), (20, aI a2), (21, aI a3)] (by kernel_rfl) ?_)))
     exact ⟨a2, a3, hm, rfl, rfl⟩
   refine sq (detn [(0, aR 0 1 m0), (1, aI a2), (2, aI a3), (3, aI a4), (4, .fn 47 [] [.ptr 1 0]), (80, aB ((IntKind.wrap .i64 (a4 - a3)) == 1))] (by kernel_rfl) ?_)
   rcases bif_some hm with ⟨h57, hm⟩ | ⟨h57, hm⟩
   ·
    refine ct h57 (by kernel_rfl) (sq (detn [(0, aR 0 1 m0), (2, aI a3), (4, .fn 47 [] [.ptr 1 0]), (14, aI a2)] (by kernel_rfl) (sq (detn [(0, aR 0 1 m0), (2, aI a3), (4, .fn 47 [] [.ptr 1 0]), (14, aI a2), (15, aI a3)] (by kernel_rfl) ?_))))
    obtain ⟨k61, hk61, hm⟩ := withK_some hm
    refine mid (fun t H => (∃ (y58 : Int) (y59 : Int) (y60 : Bool), k61 y58 = some r ∧ t = mk 220 [(0, aR 0 1 m0), (2, aI a3), (4, .fn 47 [] [.ptr 1 0]), (14, aI y58), (15, aI y59), (85, aB y60)] ∧ H = [bR 22 1 (rSl R_api_Value) a0 f0 0, .box [.pv (encSl R_api_Key a1)] false])) ?_ ?_
    ·
     rintro _ _ ⟨y58, y59, y60, hm, rfl, rfl⟩
     subst hk61
     obtain ⟨k68, hk68, hm⟩ := withK_some hm
     refine mid (fun t H => (∃ (y62 : (List (Option (List api_Value)))) (y63 : Bool) (y64 : Int) (g66 : Nat), k68 y62 = some r ∧ t = mk 220 [(0, aR 0 1 m0), (14, aI y58), (17, aI y64), (110, aB y63)] ∧ H = [bR 22 1 (rSl R_api_Value) y62 g66 0, .box [.pv (encSl R_api_Key a1)] false] ∧ y62.length = m0 ∧ g66 ≤ y62.length)) ?_ ?_
     ·
      rintro _ _ ⟨y62, y63, y64, g66, hm, rfl, rfl, q65, q67⟩
      subst hk68
      refine wp_ret ?_
      obtain rfl := Option.some.inj hm
      exact ⟨trivial, .tup [], [bR 22 1 (rSl R_api_Value) y62 g66 0, .box [.pv (encSl R_api_Key a1)] false], by kernel_rfl, g66, (by first | rfl | assumption | omega | (simp only [List.length_set, List.length_append, List.length_cons, List.length_nil, List.length_replicate, List.length_drop] at * <;> omega)), (by first | exact Nat.zero_le _ | exact Nat.le_refl _ | assumption | omega | (simp only [List.length_set, List.length_append, List.length_cons, List.length_nil, List.length_replicate, List.length_drop] at * <;> omega)), rfl, rfl⟩
     refine sq (detn [(0, aR 0 1 m0), (14, aI y58), (17, aI a3)] (by kernel_rfl) (bq ?_))
     refine loopF (fun mm t H => (∃ (y74 : (List (Option (List api_Value)))) (y75 : Int) (g77 : Nat), slices_symMergeCmpFunc_Value_row_Sort_1_r_l21 n y58 k68 mm y74 y75 = some r ∧ t = mk 220 [(0, aR 0 1 m0), (14, aI y58), (17, aI y75)] ∧ H = [bR 22 1 (rSl R_api_Value) y74 g77 0, .box [.pv (encSl R_api_Key a1)] false] ∧ y74.length = m0 ∧ g77 ≤ y74.length)) (⟨a0, a3, f0, hm, rfl, rfl, (by first | rfl | assumption | omega | (simp only [List.length_set, List.length_append, List.length_cons, List.length_nil, List.length_replicate, List.length_drop] at * <;> omega)), (by first | exact Nat.zero_le _ | exact Nat.le_refl _ | assumption | omega | (simp only [List.length_set, List.length_append, List.length_cons, List.length_nil, List.length_replicate, List.length_drop] at * <;> omega))⟩) ?_ ?_
     · rintro _ _ ⟨y74, y75, g77, hm, _⟩; exact nomatch hm
     rintro m79 _ _ ⟨y74, y75, g77, hm, rfl, rfl, q76, q78⟩
     simp only [slices_symMergeCmpFunc_Value_row_Sort_1_r_l21] at hm
     refine sq (sq (detn [(0, aR 0 1 m0), (14, aI y58), (17, aI y75), (110, aB (decide (y75 > y58)))] (by kernel_rfl) ?_))
     rcases bif_some hm with ⟨h80, hm⟩ | ⟨h80, hm⟩
     ·
      refine ct h80 (by kernel_rfl) (wp_skip (sq (bq (rgd (shd 8 [(120, aI (IntKind.wrap .i64 (y75 - 1))), (119, aI y75), (118, aR 0 1 m0), (117, aI (IntKind.wrap .i64 (y75 - 1))), (116, aI y75), (115, aR 0 1 m0), (114, aI y75), (113, aR 0 1 m0)] (by kernel_rfl) ?_)))))
      obtain ⟨x81, h82, hm⟩ := bs hm
      refine dvd 121 (v := .eptr 0 0 m0 1 (0 + Int.toNat (IntKind.wrap .i64 (y75 - 1))) 0) (ia_refO y74 .i64 (n := m0) (id := 0) (esz := 1) t25 t22 h82 (by omega) rfl (by kernel_rfl)) (by kernel_rfl) (dvd 122 (v := .pv (encSl R_api_Value x81)) (ld_eptrO (rSl R_api_Value) y74 (n := m0) (esz := 1) (j := (IntKind.wrap .i64 (y75 - 1))) (off := 0) (id := 0) t22 rfl h82 (by omega) (by omega) (by kernel_rfl) (by kernel_rfl)) (by kernel_rfl) (shd 2 [(124, aI y75), (123, aR 0 1 m0)] (by kernel_rfl) ?_))
      obtain ⟨x83, h84, hm⟩ := bs hm
      refine dvd 125 (v := .eptr 0 0 m0 1 (0 + Int.toNat y75) 0) (ia_refO y74 .i64 (n := m0) (id := 0) (esz := 1) t25 t22 h84 (by omega) rfl (by kernel_rfl)) (by kernel_rfl) (dvd 126 (v := .pv (encSl R_api_Value x83)) (ld_eptrO (rSl R_api_Value) y74 (n := m0) (esz := 1) (j := y75) (off := 0) (id := 0) t22 rfl h84 (by omega) (by omega) (by kernel_rfl) (by kernel_rfl)) (by kernel_rfl) (dvd 127 (v := .eptr 0 0 m0 1 (0 + Int.toNat y75) 0) (ia_refO y74 .i64 (n := m0) (id := 0) (esz := 1) t25 t22 h84 (by omega) rfl (by kernel_rfl)) (by kernel_rfl) (dOd [] [bR 22 1 (rSl R_api_Value) (y74.set (Int.toNat y75) x81) m0 0, .box [.pv (encSl R_api_Key a1)] false] (st_eptrO (rSl R_api_Value) y74 x81 (n := m0) (esz := 1) (v := .pv (encSl R_api_Value x81)) (j := y75) (off := 0) (id := 0) t22 rfl h84 (by omega) (by omega) rfl rfl rfl rfl (by kernel_rfl)) (by kernel_rfl) ?_)))
      obtain ⟨x85, h86, hm⟩ := bs hm
      refine dvd 128 (v := .eptr 0 0 m0 1 (0 + Int.toNat (IntKind.wrap .i64 (y75 - 1))) 0) (ia_refO (y74.set (Int.toNat y75) x81) .i64 (n := m0) (id := 0) (esz := 1) t25 t22 h86 (by first | rfl | assumption | omega | (simp only [List.length_set, List.length_append, List.length_cons, List.length_nil, List.length_replicate, List.length_drop] at * <;> omega)) rfl (by kernel_rfl)) (by kernel_rfl) (dOd [] [bR 22 1 (rSl R_api_Value) ((y74.set (Int.toNat y75) x81).set (Int.toNat (IntKind.wrap .i64 (y75 - 1))) x83) m0 0, .box [.pv (encSl R_api_Key a1)] false] (st_eptrO (rSl R_api_Value) (y74.set (Int.toNat y75) x81) x83 (n := m0) (esz := 1) (v := .pv (encSl R_api_Value x83)) (j := (IntKind.wrap .i64 (y75 - 1))) (off := 0) (id := 0) t22 rfl h86 (by first | rfl | assumption | omega | (simp only [List.length_set, List.length_append, List.length_cons, List.length_nil, List.length_replicate, List.length_drop] at * <;> omega)) (by first | exact Nat.zero_le _ | exact Nat.le_refl _ | assumption | omega | (simp only [List.length_set, List.length_append, List.length_cons, List.length_nil, List.length_replicate, List.length_drop] at * <;> omega)) rfl rfl rfl rfl (by kernel_rfl)) (by kernel_rfl) (find [(0, aR 0 1 m0), (14, aI y58), (17, aI y75)] rfl (by kernel_rfl) (by kernel_rfl) (detn [(0, aR 0 1 m0), (14, aI y58), (17, aI (IntKind.wrap .i64 (y75 - 1)))] (by kernel_rfl) ?_)))
      exact ⟨_, _, tidyL [(0, aR 0 1 m0), (14, aI y58), (17, aI (IntKind.wrap .i64 (y75 - 1)))] [bR 22 1 (rSl R_api_Value) ((y74.set (Int.toNat y75) x81).set (Int.toNat (IntKind.wrap .i64 (y75 - 1))) x83) m0 0, .box [.pv (encSl R_api_Key a1)] false] (by kernel_rfl), ⟨((y74.set (Int.toNat y75) x81).set (Int.toNat (IntKind.wrap .i64 (y75 - 1))) x83), (IntKind.wrap .i64 (y75 - 1)), m0, hm, rfl, rfl, (by first | rfl | assumption | omega | (simp only [List.length_set, List.length_append, List.length_cons, List.length_nil, List.length_replicate, List.length_drop] at * <;> omega)), (by first | exact Nat.zero_le _ | exact Nat.le_refl _ | assumption | omega | (simp only [List.length_set, List.length_append, List.length_cons, List.length_nil, List.length_replicate, List.length_drop] at * <;> omega))⟩⟩
     ·
      refine cf h80 (by kernel_rfl) (wp_exit ?_)
      exact ⟨y74, (decide (y75 > y58)), y75, g77, hm, rfl, rfl, (by first | rfl | assumption | omega | (simp only [List.length_set, List.length_append, List.length_cons, List.length_nil, List.length_replicate, List.length_drop] at * <;> omega)), (by first | exact Nat.zero_le _ | exact Nat.le_refl _ | assumption | omega | (simp only [List.length_set, List.length_append, List.length_cons, List.length_nil, List.length_replicate, List.length_drop] at * <;> omega))⟩
    refine bq ?_
    refine loopF (fun mm t H => (∃ (y89 : Int) (y90 : Int), slices_symMergeCmpFunc_Value_row_Sort_1_r_l15 n a0 a1 a3 k61 mm y89 y90 = some r ∧ t = mk 220 [(0, aR 0 1 m0), (2, aI a3), (4, .fn 47 [] [.ptr 1 0]), (14, aI y89), (15, aI y90)] ∧ H = [bR 22 1 (rSl R_api_Value) a0 f0 0, .box [.pv (encSl R_api_Key a1)] false])) (⟨a2, a3, hm, rfl, rfl⟩) ?_ ?_
    · rintro _ _ ⟨y89, y90, hm, _⟩; exact nomatch hm
    rintro m91 _ _ ⟨y89, y90, hm, rfl, rfl⟩
    simp only [slices_symMergeCmpFunc_Value_row_Sort_1_r_l15] at hm
    refine sq (sq (detn [(0, aR 0 1 m0), (2, aI a3), (4, .fn 47 [] [.ptr 1 0]), (14, aI y89), (15, aI y90), (85, aB (decide (y89 < y90)))] (by kernel_rfl) ?_))
    rcases bif_some hm with ⟨h92, hm⟩ | ⟨h92, hm⟩
    ·
     refine ct h92 (by kernel_rfl) (wp_skip (bq (sq (detn [(0, aR 0 1 m0), (2, aI a3), (4, .fn 47 [] [.ptr 1 0]), (14, aI y89), (15, aI y90), (16, aI (IntKind.wrap .i64 (iShr .u64 (IntKind.wrap .u64 (IntKind.wrap .i64 (y89 + y90))) 1)))] (by kernel_rfl) (sq (rgd (shd 3 [(94, aI a3), (93, aR 0 1 m0), (92, .fn 47 [] [.ptr 1 0])] (by kernel_rfl) ?_)))))))
     obtain ⟨x93, h94, hm⟩ := bs hm
     refine dvd 95 (v := .eptr 0 0 m0 1 (0 + Int.toNat a3) 0) (ia_refO a0 .i64 (n := m0) (id := 0) (esz := 1) t25 t22 h94 (by omega) rfl (by kernel_rfl)) (by kernel_rfl) (dvd 96 (v := .pv (encSl R_api_Value x93)) (ld_eptrO (rSl R_api_Value) a0 (n := m0) (esz := 1) (j := a3) (off := 0) (id := 0) t22 rfl h94 (by omega) (by omega) (by kernel_rfl) (by kernel_rfl)) (by kernel_rfl) (shd 2 [(98, aI (IntKind.wrap .i64 (iShr .u64 (IntKind.wrap .u64 (IntKind.wrap .i64 (y89 + y90))) 1))), (97, aR 0 1 m0)] (by kernel_rfl) ?_))
     obtain ⟨x95, h96, hm⟩ := bs hm
     refine dvd 99 (v := .eptr 0 0 m0 1 (0 + Int.toNat (IntKind.wrap .i64 (iShr .u64 (IntKind.wrap .u64 (IntKind.wrap .i64 (y89 + y90))) 1))) 0) (ia_refO a0 .i64 (n := m0) (id := 0) (esz := 1) t25 t22 h96 (by omega) rfl (by kernel_rfl)) (by kernel_rfl) (dvd 100 (v := .pv (encSl R_api_Value x95)) (ld_eptrO (rSl R_api_Value) a0 (n := m0) (esz := 1) (j := (IntKind.wrap .i64 (iShr .u64 (IntKind.wrap .u64 (IntKind.wrap .i64 (y89 + y90))) 1))) (off := 0) (id := 0) t22 rfl h96 (by omega) (by omega) (by kernel_rfl) (by kernel_rfl)) (by kernel_rfl) ?_)
     obtain ⟨x97, h98, hm⟩ := bs hm
     refine dOd [(101, aI x97)] [bR 22 1 (rSl R_api_Value) a0 f0 0, .box [.pv (encSl R_api_Key a1)] false] (cpureR [1] [.pv (encSl R_api_Value x93), .pv (encSl R_api_Value x95), .ptr 1 0] (fl := true) (by kernel_rfl) (by kernel_rfl) (by kernel_rfl) (ok_row_Sort_1 h98) (by kernel_rfl) (by kernel_rfl)) (by kernel_rfl) (shd 2 [(103, aB (!(decide (x97 < 0)))), (102, aB (decide (x97 < 0)))] (by kernel_rfl) (find [(0, aR 0 1 m0), (2, aI a3), (4, .fn 47 [] [.ptr 1 0]), (14, aI y89), (15, aI y90), (16, aI (IntKind.wrap .i64 (iShr .u64 (IntKind.wrap .u64 (IntKind.wrap .i64 (y89 + y90))) 1))), (103, aB (!(decide (x97 < 0))))] rfl (by kernel_rfl) (by kernel_rfl) ?_))
     rcases bif_some hm with ⟨h99, hm⟩ | ⟨h99, hm⟩
     ·
      refine ct h99 (by kernel_rfl) (detn [(0, aR 0 1 m0), (2, aI a3), (4, .fn 47 [] [.ptr 1 0]), (14, aI (IntKind.wrap .i64 ((IntKind.wrap .i64 (iShr .u64 (IntKind.wrap .u64 (IntKind.wrap .i64 (y89 + y90))) 1)) + 1))), (15, aI y90)] (by kernel_rfl) ?_)
      exact ⟨_, _, tidyL [(0, aR 0 1 m0), (2, aI a3), (4, .fn 47 [] [.ptr 1 0]), (14, aI (IntKind.wrap .i64 ((IntKind.wrap .i64 (iShr .u64 (IntKind.wrap .u64 (IntKind.wrap .i64 (y89 + y90))) 1)) + 1))), (15, aI y90)] [bR 22 1 (rSl R_api_Value) a0 f0 0, .box [.pv (encSl R_api_Key a1)] false] (by kernel_rfl), ⟨(IntKind.wrap .i64 ((IntKind.wrap .i64 (iShr .u64 (IntKind.wrap .u64 (IntKind.wrap .i64 (y89 + y90))) 1)) + 1)), y90, hm, rfl, rfl⟩⟩
     ·
      refine cf h99 (by kernel_rfl) (detn [(0, aR 0 1 m0), (2, aI a3), (4, .fn 47 [] [.ptr 1 0]), (14, aI y89), (15, aI (IntKind.wrap .i64 (iShr .u64 (IntKind.wrap .u64 (IntKind.wrap .i64 (y89 + y90))) 1)))] (by kernel_rfl) ?_)
      exact ⟨_, _, tidyL [(0, aR 0 1 m0), (2, aI a3), (4, .fn 47 [] [.ptr 1 0]), (14, aI y89), (15, aI (IntKind.wrap .i64 (iShr .u64 (IntKind.wrap .u64 (IntKind.wrap .i64 (y89 + y90))) 1)))] [bR 22 1 (rSl R_api_Value) a0 f0 0, .box [.pv (encSl R_api_Key a1)] false] (by kernel_rfl), ⟨y89, (IntKind.wrap .i64 (iShr .u64 (IntKind.wrap .u64 (IntKind.wrap .i64 (y89 + y90))) 1)), hm, rfl, rfl⟩⟩
    ·
     refine cf h92 (by kernel_rfl) (wp_exit ?_)
     exact ⟨y89, y90, (decide (y89 < y90)), hm, rfl, rfl⟩
   ·
    refine cf h57 (by kernel_rfl) (wp_skip ?_)
    exact ⟨hm, rfl, rfl⟩
  refine sq (detn [(0, aR 0 1 m0), (1, aI a2), (2, aI a3), (3, aI a4), (4, .fn 47 [] [.ptr 1 0]), (28, aB ((IntKind.wrap .i64 (a3 - a2)) == 1))] (by kernel_rfl) ?_)
  rcases bif_some hm with ⟨h100, hm⟩ | ⟨h100, hm⟩
  ·
   refine ct h100 (by kernel_rfl) (sq (detn [(0, aR 0 1 m0), (1, aI a2), (3, aI a4), (4, .fn 47 [] [.ptr 1 0]), (10, aI a3)] (by kernel_rfl) (sq (detn [(0, aR 0 1 m0), (1, aI a2), (4, .fn 47 [] [.ptr 1 0]), (10, aI a3), (11, aI a4)] (by kernel_rfl) ?_))))
   obtain ⟨k104, hk104, hm⟩ := withK_some hm
   refine mid (fun t H => (∃ (y101 : Int) (y102 : Int) (y103 : Bool), k104 y101 = some r ∧ t = mk 220 [(0, aR 0 1 m0), (1, aI a2), (4, .fn 47 [] [.ptr 1 0]), (10, aI y101), (11, aI y102), (33, aB y103)] ∧ H = [bR 22 1 (rSl R_api_Value) a0 f0 0, .box [.pv (encSl R_api_Key a1)] false])) ?_ ?_
   ·
    rintro _ _ ⟨y101, y102, y103, hm, rfl, rfl⟩
    subst hk104
    obtain ⟨k111, hk111, hm⟩ := withK_some hm
    refine mid (fun t H => (∃ (y105 : (List (Option (List api_Value)))) (y106 : Int) (y107 : Bool) (g109 : Nat), k111 y105 = some r ∧ t = mk 220 [(0, aR 0 1 m0), (10, aI y101), (13, aI y106), (58, aB y107)] ∧ H = [bR 22 1 (rSl R_api_Value) y105 g109 0, .box [.pv (encSl R_api_Key a1)] false] ∧ y105.length = m0 ∧ g109 ≤ y105.length)) ?_ ?_
    ·
     rintro _ _ ⟨y105, y106, y107, g109, hm, rfl, rfl, q108, q110⟩
     subst hk111
     refine wp_ret ?_
     obtain rfl := Option.some.inj hm
     exact ⟨trivial, .tup [], [bR 22 1 (rSl R_api_Value) y105 g109 0, .box [.pv (encSl R_api_Key a1)] false], by kernel_rfl, g109, (by first | rfl | assumption | omega | (simp only [List.length_set, List.length_append, List.length_cons, List.length_nil, List.length_replicate, List.length_drop] at * <;> omega)), (by first | exact Nat.zero_le _ | exact Nat.le_refl _ | assumption | omega | (simp only [List.length_set, List.length_append, List.length_cons, List.length_nil, List.length_replicate, List.length_drop] at * <;> omega)), rfl, rfl⟩
    refine sq (detn [(0, aR 0 1 m0), (10, aI y101), (13, aI a2)] (by kernel_rfl) (bq ?_))
    refine loopF (fun mm t H => (∃ (y117 : (List (Option (List api_Value)))) (y118 : Int) (g120 : Nat), slices_symMergeCmpFunc_Value_row_Sort_1_r_l9 n y101 k111 mm y117 y118 = some r ∧ t = mk 220 [(0, aR 0 1 m0), (10, aI y101), (13, aI y118)] ∧ H = [bR 22 1 (rSl R_api_Value) y117 g120 0, .box [.pv (encSl R_api_Key a1)] false] ∧ y117.length = m0 ∧ g120 ≤ y117.length)) (⟨a0, a2, f0, hm, rfl, rfl, (by first | rfl | assumption | omega | (simp only [List.length_set, List.length_append, List.length_cons, List.length_nil, List.length_replicate, List.length_drop] at * <;> omega)), (by first | exact Nat.zero_le _ | exact Nat.le_refl _ | assumption | omega | (simp only [List.length_set, List.length_append, List.length_cons, List.length_nil, List.length_replicate, List.length_drop] at * <;> omega))⟩) ?_ ?_
    · rintro _ _ ⟨y117, y118, g120, hm, _⟩; exact nomatch hm
    rintro m122 _ _ ⟨y117, y118, g120, hm, rfl, rfl, q119, q121⟩
    simp only [slices_symMergeCmpFunc_Value_row_Sort_1_r_l9] at hm
    refine sq (sq (detn [(0, aR 0 1 m0), (10, aI y101), (13, aI y118), (58, aB (decide (y118 < (IntKind.wrap .i64 (y101 - 1)))))] (by kernel_rfl) ?_))
    rcases bif_some hm with ⟨h123, hm⟩ | ⟨h123, hm⟩
    ·
     refine ct h123 (by kernel_rfl) (wp_skip (sq (bq (rgd (shd 8 [(68, aI (IntKind.wrap .i64 (y118 + 1))), (67, aI y118), (66, aR 0 1 m0), (65, aI (IntKind.wrap .i64 (y118 + 1))), (64, aI y118), (63, aR 0 1 m0), (62, aI y118), (61, aR 0 1 m0)] (by kernel_rfl) ?_)))))
     obtain ⟨x124, h125, hm⟩ := bs hm
     refine dvd 69 (v := .eptr 0 0 m0 1 (0 + Int.toNat (IntKind.wrap .i64 (y118 + 1))) 0) (ia_refO y117 .i64 (n := m0) (id := 0) (esz := 1) t25 t22 h125 (by omega) rfl (by kernel_rfl)) (by kernel_rfl) (dvd 70 (v := .pv (encSl R_api_Value x124)) (ld_eptrO (rSl R_api_Value) y117 (n := m0) (esz := 1) (j := (IntKind.wrap .i64 (y118 + 1))) (off := 0) (id := 0) t22 rfl h125 (by omega) (by omega) (by kernel_rfl) (by kernel_rfl)) (by kernel_rfl) (shd 2 [(72, aI y118), (71, aR 0 1 m0)] (by kernel_rfl) ?_))
     obtain ⟨x126, h127, hm⟩ := bs hm
     refine dvd 73 (v := .eptr 0 0 m0 1 (0 + Int.toNat y118) 0) (ia_refO y117 .i64 (n := m0) (id := 0) (esz := 1) t25 t22 h127 (by omega) rfl (by kernel_rfl)) (by kernel_rfl) (dvd 74 (v := .pv (encSl R_api_Value x126)) (ld_eptrO (rSl R_api_Value) y117 (n := m0) (esz := 1) (j := y118) (off := 0) (id := 0) t22 rfl h127 (by omega) (by omega) (by kernel_rfl) (by kernel_rfl)) (by kernel_rfl) (dvd 75 (v := .eptr 0 0 m0 1 (0 + Int.toNat y118) 0) (ia_refO y117 .i64 (n := m0) (id := 0) (esz := 1) t25 t22 h127 (by omega) rfl (by kernel_rfl)) (by kernel_rfl) (dOd [] [bR 22 1 (rSl R_api_Value) (y117.set (Int.toNat y118) x124) m0 0, .box [.pv (encSl R_api_Key a1)] false] (st_eptrO (rSl R_api_Value) y117 x124 (n := m0) (esz := 1) (v := .pv (encSl R_api_Value x124)) (j := y118) (off := 0) (id := 0) t22 rfl h127 (by omega) (by omega) rfl rfl rfl rfl (by kernel_rfl)) (by kernel_rfl) ?_)))
     obtain ⟨x128, h129, hm⟩ := bs hm
     refine dvd 76 (v := .eptr 0 0 m0 1 (0 + Int.toNat (IntKind.wrap .i64 (y118 + 1))) 0) (ia_refO (y117.set (Int.toNat y118) x124) .i64 (n := m0) (id := 0) (esz := 1) t25 t22 h129 (by first | rfl | assumption | omega | (simp only [List.length_set, List.length_append, List.length_cons, List.length_nil, List.length_replicate, List.length_drop] at * <;> omega)) rfl (by kernel_rfl)) (by kernel_rfl) (dOd [] [bR 22 1 (rSl R_api_Value) ((y117.set (Int.toNat y118) x124).set (Int.toNat (IntKind.wrap .i64 (y118 + 1))) x126) m0 0, .box [.pv (encSl R_api_Key a1)] false] (st_eptrO (rSl R_api_Value) (y117.set (Int.toNat y118) x124) x126 (n := m0) (esz := 1) (v := .pv (encSl R_api_Value x126)) (j := (IntKind.wrap .i64 (y118 + 1))) (off := 0) (id := 0) t22 rfl h129 (by first | rfl | assumption | omega | (simp only [List.length_set, List.length_append, List.length_cons, List.length_nil, List.length_replicate, List.length_drop] at * <;> omega)) (by first | exact Nat.zero_le _ | exact Nat.le_refl _ | assumption | omega | (simp only [List.length_set, List.length_append, List.length_cons, List.length_nil, List.length_replicate, List.length_drop] at * <;> omega)) rfl rfl rfl rfl (by kernel_rfl)) (by kernel_rfl) (find [(0, aR 0 1 m0), (10, aI y101), (13, aI y118)] rfl (by kernel_rfl) (by kernel_rfl) (detn [(0, aR 0 1 m0), (10, aI y101), (13, aI (IntKind.wrap .i64 (y118 + 1)))] (by kernel_rfl) ?_)))
     exact ⟨_, _, tidyL [(0, aR 0 1 m0), (10, aI y101), (13, aI (IntKind.wrap .i64 (y118 + 1)))] [bR 22 1 (rSl R_api_Value) ((y117.set (Int.toNat y118) x124).set (Int.toNat (IntKind.wrap .i64 (y118 + 1))) x126) m0 0, .box [.pv (encSl R_api_Key a1)] false] (by kernel_rfl), ⟨((y117.set (Int.toNat y118) x124).set (Int.toNat (IntKind.wrap .i64 (y118 + 1))) x126), (IntKind.wrap .i64 (y118 + 1)), m0, hm, rfl, rfl, (by first | rfl | assumption | omega | (simp only [List.length_set, List.length_append, List.length_cons, List.length_nil, List.length_replicate, List.length_drop] at * <;> omega)), (by first | exact Nat.zero_le _ | exact Nat.le_refl _ | assumption | omega | (simp only [List.length_set, List.length_append, List.length_cons, List.length_nil, List.length_replicate, List.length_drop] at * <;> omega))⟩⟩
    ·
     refine cf h123 (by kernel_rfl) (wp_exit ?_)
     exact ⟨y117, y118, (decide (y118 < (IntKind.wrap .i64 (y101 - 1)))), g120, hm, rfl, rfl, (by first | rfl | assumption | omega | (simp only [List.length_set, List.length_append, List.length_cons, List.length_nil, List.length_replicate, List.length_drop] at * <;> omega)), (by first | exact Nat.zero_le _ | exact Nat.le_refl _ | assumption | omega | (simp only [List.length_set, List.length_append, List.length_cons, List.length_nil, List.length_replicate, List.length_drop] at * <;> omega))⟩
   refine bq ?_
   refine loopF (fun mm t H => (∃ (y132 : Int) (y133 : Int), slices_symMergeCmpFunc_Value_row_Sort_1_r_l3 n a0 a1 a2 k104 mm y132 y133 = some r ∧ t = mk 220 [(0, aR 0 1 m0), (1, aI a2), (4, .fn 47 [] [.ptr 1 0]), (10, aI y132), (11, aI y133)] ∧ H = [bR 22 1 (rSl R_api_Value) a0 f0 0, .box [.pv (encSl R_api_Key a1)] false])) (⟨a3, a4, hm, rfl, rfl⟩) ?_ ?_
   · rintro _ _ ⟨y132, y133, hm, _⟩; exact nomatch hm
   rintro m134 _ _ ⟨y132, y133, hm, rfl, rfl⟩
   simp only [slices_symMergeCmpFunc_Value_row_Sort_1_r_l3] at hm
   refine sq (sq (detn [(0, aR 0 1 m0), (1, aI a2), (4, .fn 47 [] [.ptr 1 0]), (10, aI y132), (11, aI y133), (33, aB (decide (y132 < y133)))] (by kernel_rfl) ?_))
   rcases bif_some hm with ⟨h135, hm⟩ | ⟨h135, hm⟩
   ·
    refine ct h135 (by kernel_rfl) (wp_skip (bq (sq (detn [(0, aR 0 1 m0), (1, aI a2), (4, .fn 47 [] [.ptr 1 0]), (10, aI y132), (11, aI y133), (12, aI (IntKind.wrap .i64 (iShr .u64 (IntKind.wrap .u64 (IntKind.wrap .i64 (y132 + y133))) 1)))] (by kernel_rfl) (sq (rgd (shd 3 [(42, aI (IntKind.wrap .i64 (iShr .u64 (IntKind.wrap .u64 (IntKind.wrap .i64 (y132 + y133))) 1))), (41, aR 0 1 m0), (40, .fn 47 [] [.ptr 1 0])] (by kernel_rfl) ?_)))))))
    obtain ⟨x136, h137, hm⟩ := bs hm
    refine dvd 43 (v := .eptr 0 0 m0 1 (0 + Int.toNat (IntKind.wrap .i64 (iShr .u64 (IntKind.wrap .u64 (IntKind.wrap .i64 (y132 + y133))) 1))) 0) (ia_refO a0 .i64 (n := m0) (id := 0) (esz := 1) t25 t22 h137 (by omega) rfl (by kernel_rfl)) (by kernel_rfl) (dvd 44 (v := .pv (encSl R_api_Value x136)) (ld_eptrO (rSl R_api_Value) a0 (n := m0) (esz := 1) (j := (IntKind.wrap .i64 (iShr .u64 (IntKind.wrap .u64 (IntKind.wrap .i64 (y132 + y133))) 1))) (off := 0) (id := 0) t22 rfl h137 (by omega) (by omega) (by kernel_rfl) (by kernel_rfl)) (by kernel_rfl) (shd 2 [(46, aI a2), (45, aR 0 1 m0)] (by kernel_rfl) ?_))
    obtain ⟨x138, h139, hm⟩ := bs hm
    refine dvd 47 (v := .eptr 0 0 m0 1 (0 + Int.toNat a2) 0) (ia_refO a0 .i64 (n := m0) (id := 0) (esz := 1) t25 t22 h139 (by omega) rfl (by kernel_rfl)) (by kernel_rfl) (dvd 48 (v := .pv (encSl R_api_Value x138)) (ld_eptrO (rSl R_api_Value) a0 (n := m0) (esz := 1) (j := a2) (off := 0) (id := 0) t22 rfl h139 (by omega) (by omega) (by kernel_rfl) (by kernel_rfl)) (by kernel_rfl) ?_)
    obtain ⟨x140, h141, hm⟩ := bs hm
    refine dOd [(49, aI x140)] [bR 22 1 (rSl R_api_Value) a0 f0 0, .box [.pv (encSl R_api_Key a1)] false] (cpureR [1] [.pv (encSl R_api_Value x136), .pv (encSl R_api_Value x138), .ptr 1 0] (fl := true) (by kernel_rfl) (by kernel_rfl) (by kernel_rfl) (ok_row_Sort_1 h141) (by kernel_rfl) (by kernel_rfl)) (by kernel_rfl) (shd 1 [(50, aB (decide (x140 < 0)))] (by kernel_rfl) (find [(0, aR 0 1 m0), (1, aI a2), (4, .fn 47 [] [.ptr 1 0]), (10, aI y132), (11, aI y133), (12, aI (IntKind.wrap .i64 (iShr .u64 (IntKind.wrap .u64 (IntKind.wrap .i64 (y132 + y133))) 1))), (50, aB (decide (x140 < 0)))] rfl (by kernel_rfl) (by kernel_rfl) ?_))
    rcases bif_some hm with ⟨h142, hm⟩ | ⟨h142, hm⟩
    ·
     refine ct h142 (by kernel_rfl) (detn [(0, aR 0 1 m0), (1, aI a2), (4, .fn 47 [] [.ptr 1 0]), (10, aI (IntKind.wrap .i64 ((IntKind.wrap .i64 (iShr .u64 (IntKind.wrap .u64 (IntKind.wrap .i64 (y132 + y133))) 1)) + 1))), (11, aI y133)] (by kernel_rfl) ?_)
     exact ⟨_, _, tidyL [(0, aR 0 1 m0), (1, aI a2), (4, .fn 47 [] [.ptr 1 0]), (10, aI (IntKind.wrap .i64 ((IntKind.wrap .i64 (iShr .u64 (IntKind.wrap .u64 (IntKind.wrap .i64 (y132 + y133))) 1)) + 1))), (11, aI y133)] [bR 22 1 (rSl R_api_Value) a0 f0 0, .box [.pv (encSl R_api_Key a1)] false] (by kernel_rfl), ⟨(IntKind.wrap .i64 ((IntKind.wrap .i64 (iShr .u64 (IntKind.wrap .u64 (IntKind.wrap .i64 (y132 + y133))) 1)) + 1)), y133, hm, rfl, rfl⟩⟩
    ·
     refine cf h142 (by kernel_rfl) (detn [(0, aR 0 1 m0), (1, aI a2), (4, .fn 47 [] [.ptr 1 0]), (10, aI y132), (11, aI (IntKind.wrap .i64 (iShr .u64 (IntKind.wrap .u64 (IntKind.wrap .i64 (y132 + y133))) 1)))] (by kernel_rfl) ?_)
     exact ⟨_, _, tidyL [(0, aR 0 1 m0), (1, aI a2), (4, .fn 47 [] [.ptr 1 0]), (10, aI y132), (11, aI (IntKind.wrap .i64 (iShr .u64 (IntKind.wrap .u64 (IntKind.wrap .i64 (y132 + y133))) 1)))] [bR 22 1 (rSl R_api_Value) a0 f0 0, .box [.pv (encSl R_api_Key a1)] false] (by kernel_rfl), ⟨y132, (IntKind.wrap .i64 (iShr .u64 (IntKind.wrap .u64 (IntKind.wrap .i64 (y132 + y133))) 1)), hm, rfl, rfl⟩⟩
   ·
    refine cf h135 (by kernel_rfl) (wp_exit ?_)
    exact ⟨y132, y133, (decide (y132 < y133)), hm, rfl, rfl⟩
  ·
   refine cf h100 (by kernel_rfl) (wp_skip ?_)
   exact ⟨hm, rfl, rfl⟩
theorem okt_slices_symMergeCmpFunc_Value_row_Sort_1_r : ∀ (m : Nat), ∀ (m0 : Nat) (f0 : Nat) {n : Nat} {a0 : (List (Option (List api_Value)))} {a1 : (Option (List api_Key))} {a2 : Int} {a3 : Int} {a4 : Int} {r : (List (Option (List api_Value)))} (hm0 : a0.length = m0) (hf0 : f0 ≤ a0.length) (hm : slices_symMergeCmpFunc_Value_row_Sort_1_r_t m n a0 a1 a2 a3 a4 = some r), ∃ vv H1, call G n 89 [aR 0 1 m0, aI a2, aI a3, aI a4, .fn 47 [] [.ptr 1 0]] [bR 22 1 (rSl R_api_Value) a0 f0 0, .box [.pv (encSl R_api_Key a1)] false] = some (.ret vv, H1) ∧ (match r with | r0 => (∃ (e1 : Nat), r0.length = m0 ∧ e1 ≤ r0.length ∧ vv = .tup [] ∧ H1 = [bR 22 1 (rSl R_api_Value) r0 e1 0, .box [.pv (encSl R_api_Key a1)] false]))
  | 0 => by intros; rename_i hm; exact nomatch hm
  | m + 1 => @fun m0 f0 n a0 a1 a2 a3 a4 r hm0 hf0 hm =>
    okf_slices_symMergeCmpFunc_Value_row_Sort_1_r (okt_slices_symMergeCmpFunc_Value_row_Sort_1_r m) m0 f0 hm0 hf0 hm
theorem ok_slices_symMergeCmpFunc_Value_row_Sort_1_r (m0 : Nat) (f0 : Nat) {n : Nat} {a0 : (List (Option (List api_Value)))} {a1 : (Option (List api_Key))} {a2 : Int} {a3 : Int} {a4 : Int} {r : (List (Option (List api_Value)))} (hm0 : a0.length = m0) (hf0 : f0 ≤ a0.length) (hm : slices_symMergeCmpFunc_Value_row_Sort_1_r n a0 a1 a2 a3 a4 = some r) :
    ∃ vv H1, call G n 89 [aR 0 1 m0, aI a2, aI a3, aI a4, .fn 47 [] [.ptr 1 0]] [bR 22 1 (rSl R_api_Value) a0 f0 0, .box [.pv (encSl R_api_Key a1)] false] = some (.ret vv, H1) ∧ (match r with | r0 => (∃ (e1 : Nat), r0.length = m0 ∧ e1 ≤ r0.length ∧ vv = .tup [] ∧ H1 = [bR 22 1 (rSl R_api_Value) r0 e1 0, .box [.pv (encSl R_api_Key a1)] false])) := okt_slices_symMergeCmpFunc_Value_row_Sort_1_r n m0 f0 hm0 hf0 hm
theorem ok_slices_stableCmpFunc_Value_row_Sort_1_r (m0 : Nat) (f0 : Nat) {n : Nat} {a0 : (List (Option (List api_Value)))} {a1 : (Option (List api_Key))} {a2 : Int} {r : (List (Option (List api_Value)))} (hm0 : a0.length = m0) (hf0 : f0 ≤ a0.length) (hm : slices_stableCmpFunc_Value_row_Sort_1_r n a0 a1 a2 = some r) :
    ∃ vv H1, call G n 69 [aR 0 1 m0, aI a2, .fn 47 [] [.ptr 1 0]] [bR 22 1 (rSl R_api_Value) a0 f0 0, .box [.pv (encSl R_api_Key a1)] false] = some (.ret vv, H1) ∧ (match r with | r0 => (∃ (e1 : Nat), r0.length = m0 ∧ e1 ≤ r0.length ∧ vv = .tup [] ∧ H1 = [bR 22 1 (rSl R_api_Value) r0 e1 0, .box [.pv (encSl R_api_Key a1)] false])) := by
  unfold slices_stableCmpFunc_Value_row_Sort_1_r at hm
  obtain ⟨n, rfl, h0⟩ := at1_some hm
  replace hm := h0; clear h0
  refine callE 63 [(0, aR 0 1 m0), (1, aI a2), (2, .fn 47 [] [.ptr 1 0])] func69 rfl (by kernel_rfl) (sq (detn [(0, aR 0 1 m0), (1, aI a2), (2, .fn 47 [] [.ptr 1 0]), (6, aI 20)] (by kernel_rfl) (sq (detn [(0, aR 0 1 m0), (1, aI a2), (2, .fn 47 [] [.ptr 1 0]), (6, aI 20), (7, aI 0), (8, aI 20)] (by kernel_rfl) ?_))))
  obtain ⟨k8, hk8, hm⟩ := withK_some hm
  refine mid (fun t H => (∃ (y1 : (List (Option (List api_Value)))) (y2 : Bool) (y3 : Int) (y4 : Int) (g6 : Nat), k8 y1 y3 = some r ∧ t = mk 63 [(0, aR 0 1 m0), (1, aI a2), (2, .fn 47 [] [.ptr 1 0]), (6, aI 20), (7, aI y3), (8, aI y4), (13, aB y2)] ∧ H = [bR 22 1 (rSl R_api_Value) y1 g6 0, .box [.pv (encSl R_api_Key a1)] false] ∧ y1.length = m0 ∧ g6 ≤ y1.length)) ?_ ?_
  ·
   rintro _ _ ⟨y1, y2, y3, y4, g6, hm, rfl, rfl, q5, q7⟩
   subst hk8
   refine sq (rg (sh 4 [(26, .fn 47 [] [.ptr 1 0]), (25, aI a2), (24, aI y3), (23, aR 0 1 m0)] (by kernel_rfl) ?_))
   obtain ⟨x10, h9, hm⟩ := bs hm
   obtain ⟨vv, H1, hC, g11, q12, q13, rfl, rfl⟩ := ok_slices_insertionSortCmpFunc_Value_row_Sort_1_r m0 g6 (by first | rfl | assumption | omega | (simp only [List.length_set, List.length_append, List.length_cons, List.length_nil, List.length_replicate, List.length_drop] at * <;> omega)) (by first | exact Nat.zero_le _ | exact Nat.le_refl _ | assumption | omega | (simp only [List.length_set, List.length_append, List.length_cons, List.length_nil, List.length_replicate, List.length_drop] at * <;> omega)) h9
   refine dR [(27, .tup [])] [bR 22 1 (rSl R_api_Value) x10 g11 0, .box [.pv (encSl R_api_Key a1)] false] [0, 1] [aR 0 1 m0, aI y3, aI a2, .fn 47 [] [.ptr 1 0]] (by kernel_rfl) (by kernel_rfl) (by kernel_rfl) hC (by kernel_rfl) (fin [(0, aR 0 1 m0), (1, aI a2), (2, .fn 47 [] [.ptr 1 0]), (6, aI 20)] rfl (by kernel_rfl) (bq ?_))
   refine loopF (fun mm t H => (∃ (y19 : (List (Option (List api_Value)))) (y20 : Int) (g22 : Nat), slices_stableCmpFunc_Value_row_Sort_1_r_l7 n a1 a2 mm y19 y20 = some r ∧ t = mk 63 [(0, aR 0 1 m0), (1, aI a2), (2, .fn 47 [] [.ptr 1 0]), (6, aI y20)] ∧ H = [bR 22 1 (rSl R_api_Value) y19 g22 0, .box [.pv (encSl R_api_Key a1)] false] ∧ y19.length = m0 ∧ g22 ≤ y19.length)) (⟨x10, 20, g11, hm, rfl, rfl, (by first | rfl | assumption | omega | (simp only [List.length_set, List.length_append, List.length_cons, List.length_nil, List.length_replicate, List.length_drop] at * <;> omega)), (by first | exact Nat.zero_le _ | exact Nat.le_refl _ | assumption | omega | (simp only [List.length_set, List.length_append, List.length_cons, List.length_nil, List.length_replicate, List.length_drop] at * <;> omega))⟩) ?_ ?_
   · rintro _ _ ⟨y19, y20, g22, hm, _⟩; exact nomatch hm
   rintro m24 _ _ ⟨y19, y20, g22, hm, rfl, rfl, q21, q23⟩
   simp only [slices_stableCmpFunc_Value_row_Sort_1_r_l7] at hm
   refine sq (sq (detn [(0, aR 0 1 m0), (1, aI a2), (2, .fn 47 [] [.ptr 1 0]), (6, aI y20), (30, aB (decide (y20 < a2)))] (by kernel_rfl) ?_))
   rcases bif_some hm with ⟨h25, hm⟩ | ⟨h25, hm⟩
   ·
    refine ct h25 (by kernel_rfl) (wp_skip (bq (sq (detn [(0, aR 0 1 m0), (1, aI a2), (2, .fn 47 [] [.ptr 1 0]), (6, aI y20), (7, aI 0), (8, aI (IntKind.wrap .i64 (2 * y20)))] (by kernel_rfl) ?_))))
    obtain ⟨k33, hk33, hm⟩ := withK_some hm
    refine mid (fun t H => (∃ (y26 : (List (Option (List api_Value)))) (y27 : Bool) (y28 : Int) (y29 : Int) (g31 : Nat), k33 y26 y28 = some r ∧ t = mk 63 [(0, aR 0 1 m0), (1, aI a2), (2, .fn 47 [] [.ptr 1 0]), (6, aI y20), (7, aI y28), (8, aI y29), (35, aB y27)] ∧ H = [bR 22 1 (rSl R_api_Value) y26 g31 0, .box [.pv (encSl R_api_Key a1)] false] ∧ y26.length = m0 ∧ g31 ≤ y26.length)) ?_ ?_
    ·
     rintro _ _ ⟨y26, y27, y28, y29, g31, hm, rfl, rfl, q30, q32⟩
     subst hk33
     refine sq (sq (detn [(0, aR 0 1 m0), (1, aI a2), (2, .fn 47 [] [.ptr 1 0]), (6, aI y20), (7, aI y28), (9, aI (IntKind.wrap .i64 (y28 + y20)))] (by kernel_rfl) (sq (detn [(0, aR 0 1 m0), (1, aI a2), (2, .fn 47 [] [.ptr 1 0]), (6, aI y20), (7, aI y28), (9, aI (IntKind.wrap .i64 (y28 + y20))), (54, aB (decide ((IntKind.wrap .i64 (y28 + y20)) < a2)))] (by kernel_rfl) ?_))))
     rcases bif_some hm with ⟨h34, hm⟩ | ⟨h34, hm⟩
     ·
      refine ct h34 (by kernel_rfl) (rg (sh 5 [(59, .fn 47 [] [.ptr 1 0]), (58, aI a2), (57, aI (IntKind.wrap .i64 (y28 + y20))), (56, aI y28), (55, aR 0 1 m0)] (by kernel_rfl) ?_))
      obtain ⟨x36, h35, hm⟩ := bs hm
      obtain ⟨vv, H1, hC, g37, q38, q39, rfl, rfl⟩ := ok_slices_symMergeCmpFunc_Value_row_Sort_1_r m0 g31 (by first | rfl | assumption | omega | (simp only [List.length_set, List.length_append, List.length_cons, List.length_nil, List.length_replicate, List.length_drop] at * <;> omega)) (by first | exact Nat.zero_le _ | exact Nat.le_refl _ | assumption | omega | (simp only [List.length_set, List.length_append, List.length_cons, List.length_nil, List.length_replicate, List.length_drop] at * <;> omega)) h35
      refine dR [(60, .tup [])] [bR 22 1 (rSl R_api_Value) x36 g37 0, .box [.pv (encSl R_api_Key a1)] false] [0, 1] [aR 0 1 m0, aI y28, aI (IntKind.wrap .i64 (y28 + y20)), aI a2, .fn 47 [] [.ptr 1 0]] (by kernel_rfl) (by kernel_rfl) (by kernel_rfl) hC (by kernel_rfl) (fin [(0, aR 0 1 m0), (1, aI a2), (2, .fn 47 [] [.ptr 1 0]), (6, aI y20)] rfl (by kernel_rfl) (detn [(0, aR 0 1 m0), (1, aI a2), (2, .fn 47 [] [.ptr 1 0]), (6, aI (IntKind.wrap .i64 (y20 * 2)))] (by kernel_rfl) ?_))
      exact ⟨_, _, tidyL [(0, aR 0 1 m0), (1, aI a2), (2, .fn 47 [] [.ptr 1 0]), (6, aI (IntKind.wrap .i64 (y20 * 2)))] [bR 22 1 (rSl R_api_Value) x36 g37 0, .box [.pv (encSl R_api_Key a1)] false] (by kernel_rfl), ⟨x36, (IntKind.wrap .i64 (y20 * 2)), g37, hm, rfl, rfl, (by first | rfl | assumption | omega | (simp only [List.length_set, List.length_append, List.length_cons, List.length_nil, List.length_replicate, List.length_drop] at * <;> omega)), (by first | exact Nat.zero_le _ | exact Nat.le_refl _ | assumption | omega | (simp only [List.length_set, List.length_append, List.length_cons, List.length_nil, List.length_replicate, List.length_drop] at * <;> omega))⟩⟩
     ·
      refine cf h34 (by kernel_rfl) (wp_skip (detn [(0, aR 0 1 m0), (1, aI a2), (2, .fn 47 [] [.ptr 1 0]), (6, aI (IntKind.wrap .i64 (y20 * 2)))] (by kernel_rfl) ?_))
      exact ⟨_, _, tidyL [(0, aR 0 1 m0), (1, aI a2), (2, .fn 47 [] [.ptr 1 0]), (6, aI (IntKind.wrap .i64 (y20 * 2)))] [bR 22 1 (rSl R_api_Value) y26 g31 0, .box [.pv (encSl R_api_Key a1)] false] (by kernel_rfl), ⟨y26, (IntKind.wrap .i64 (y20 * 2)), g31, hm, rfl, rfl, (by first | rfl | assumption | omega | (simp only [List.length_set, List.length_append, List.length_cons, List.length_nil, List.length_replicate, List.length_drop] at * <;> omega)), (by first | exact Nat.zero_le _ | exact Nat.le_refl _ | assumption | omega | (simp only [List.length_set, List.length_append, List.length_cons, List.length_nil, List.length_replicate, List.length_drop] at * <;> omega))⟩⟩
    refine bq ?_
    refine loopF (fun mm t H => (∃ (y46 : (List (Option (List api_Value)))) (y47 : Int) (y48 : Int) (g50 : Nat), slices_stableCmpFunc_Value_row_Sort_1_r_l9 n a1 a2 y20 k33 mm y46 y47 y48 = some r ∧ t = mk 63 [(0, aR 0 1 m0), (1, aI a2), (2, .fn 47 [] [.ptr 1 0]), (6, aI y20), (7, aI y47), (8, aI y48)] ∧ H = [bR 22 1 (rSl R_api_Value) y46 g50 0, .box [.pv (encSl R_api_Key a1)] false] ∧ y46.length = m0 ∧ g50 ≤ y46.length)) (⟨y19, 0, (IntKind.wrap .i64 (2 * y20)), g22, hm, rfl, rfl, (by first | rfl | assumption | omega | (simp only [List.length_set, List.length_append, List.length_cons, List.length_nil, List.length_replicate, List.length_drop] at * <;> omega)), (by first | exact Nat.zero_le _ | exact Nat.le_refl _ | assumption | omega | (simp only [List.length_set, List.length_append, List.length_cons, List.length_nil, List.length_replicate, List.length_drop] at * <;> omega))⟩) ?_ ?_
    · rintro _ _ ⟨y46, y47, y48, g50, hm, _⟩; exact nomatch hm
    rintro m52 _ _ ⟨y46, y47, y48, g50, hm, rfl, rfl, q49, q51⟩
    simp only [slices_stableCmpFunc_Value_row_Sort_1_r_l9] at hm
    refine sq (sq (detn [(0, aR 0 1 m0), (1, aI a2), (2, .fn 47 [] [.ptr 1 0]), (6, aI y20), (7, aI y47), (8, aI y48), (35, aB (decide (y48 ≤ a2)))] (by kernel_rfl) ?_))
    rcases bif_some hm with ⟨h53, hm⟩ | ⟨h53, hm⟩
    ·
     refine ct h53 (by kernel_rfl) (wp_skip (bq (sq (rg (sh 7 [(42, .fn 47 [] [.ptr 1 0]), (41, aI y48), (40, aI (IntKind.wrap .i64 (y47 + y20))), (39, aI y20), (38, aI y47), (37, aI y47), (36, aR 0 1 m0)] (by kernel_rfl) ?_)))))
     obtain ⟨x55, h54, hm⟩ := bs hm
     obtain ⟨vv, H1, hC, g56, q57, q58, rfl, rfl⟩ := ok_slices_symMergeCmpFunc_Value_row_Sort_1_r m0 g50 (by first | rfl | assumption | omega | (simp only [List.length_set, List.length_append, List.length_cons, List.length_nil, List.length_replicate, List.length_drop] at * <;> omega)) (by first | exact Nat.zero_le _ | exact Nat.le_refl _ | assumption | omega | (simp only [List.length_set, List.length_append, List.length_cons, List.length_nil, List.length_replicate, List.length_drop] at * <;> omega)) h54
     refine dR [(43, .tup [])] [bR 22 1 (rSl R_api_Value) x55 g56 0, .box [.pv (encSl R_api_Key a1)] false] [0, 1] [aR 0 1 m0, aI y47, aI (IntKind.wrap .i64 (y47 + y20)), aI y48, .fn 47 [] [.ptr 1 0]] (by kernel_rfl) (by kernel_rfl) (by kernel_rfl) hC (by kernel_rfl) (fin [(0, aR 0 1 m0), (1, aI a2), (2, .fn 47 [] [.ptr 1 0]), (6, aI y20), (8, aI y48)] rfl (by kernel_rfl) (sq (detn [(0, aR 0 1 m0), (1, aI a2), (2, .fn 47 [] [.ptr 1 0]), (6, aI y20), (7, aI y48), (8, aI y48)] (by kernel_rfl) (detn [(0, aR 0 1 m0), (1, aI a2), (2, .fn 47 [] [.ptr 1 0]), (6, aI y20), (7, aI y48), (8, aI (IntKind.wrap .i64 (y48 + (IntKind.wrap .i64 (2 * y20)))))] (by kernel_rfl) ?_))))
     exact ⟨_, _, tidyL [(0, aR 0 1 m0), (1, aI a2), (2, .fn 47 [] [.ptr 1 0]), (6, aI y20), (7, aI y48), (8, aI (IntKind.wrap .i64 (y48 + (IntKind.wrap .i64 (2 * y20)))))] [bR 22 1 (rSl R_api_Value) x55 g56 0, .box [.pv (encSl R_api_Key a1)] false] (by kernel_rfl), ⟨x55, y48, (IntKind.wrap .i64 (y48 + (IntKind.wrap .i64 (2 * y20)))), g56, hm, rfl, rfl, (by first | rfl | assumption | omega | (simp only [List.length_set, List.length_append, List.length_cons, List.length_nil, List.length_replicate, List.length_drop] at * <;> omega)), (by first | exact Nat.zero_le _ | exact Nat.le_refl _ | assumption | omega | (simp only [List.length_set, List.length_append, List.length_cons, List.length_nil, List.length_replicate, List.length_drop] at * <;> omega))⟩⟩
    ·
     refine cf h53 (by kernel_rfl) (wp_exit ?_)
     exact ⟨y46, (decide (y48 ≤ a2)), y47, y48, g50, hm, rfl, rfl, (by first | rfl | assumption | omega | (simp only [List.length_set, List.length_append, List.length_cons, List.length_nil, List.length_replicate, List.length_drop] at * <;> omega)), (by first | exact Nat.zero_le _ | exact Nat.le_refl _ | assumption | omega | (simp only [List.length_set, List.length_append, List.length_cons, List.length_nil, List.length_replicate, List.length_drop] at * <;> omega))⟩
   ·
    refine cf h25 (by kernel_rfl) (wp_exit ?_)
    obtain rfl := Option.some.inj hm
    exact ⟨trivial, .tup [], [bR 22 1 (rSl R_api_Value) y19 g22 0, .box [.pv (encSl R_api_Key a1)] false], by kernel_rfl, g22, (by first | rfl | assumption | omega | (simp only [List.length_set, List.length_append, List.length_cons, List.length_nil, List.length_replicate, List.length_drop] at * <;> omega)), (by first | exact Nat.zero_le _ | exact Nat.le_refl _ | assumption | omega | (simp only [List.length_set, List.length_append, List.length_cons, List.length_nil, List.length_replicate, List.length_drop] at * <;> omega)), rfl, rfl⟩
  refine bq ?_
  refine loopF (fun mm t H => (∃ (y65 : (List (Option (List api_Value)))) (y66 : Int) (y67 : Int) (g69 : Nat), slices_stableCmpFunc_Value_row_Sort_1_r_l2 n a1 a2 k8 mm y65 y66 y67 = some r ∧ t = mk 63 [(0, aR 0 1 m0), (1, aI a2), (2, .fn 47 [] [.ptr 1 0]), (6, aI 20), (7, aI y66), (8, aI y67)] ∧ H = [bR 22 1 (rSl R_api_Value) y65 g69 0, .box [.pv (encSl R_api_Key a1)] false] ∧ y65.length = m0 ∧ g69 ≤ y65.length)) (⟨a0, 0, 20, f0, hm, rfl, rfl, (by first | rfl | assumption | omega | (simp only [List.length_set, List.length_append, List.length_cons, List.length_nil, List.length_replicate, List.length_drop] at * <;> omega)), (by first | exact Nat.zero_le _ | exact Nat.le_refl _ | assumption | omega | (simp only [List.length_set, List.length_append, List.length_cons, List.length_nil, List.length_replicate, List.length_drop] at * <;> omega))⟩) ?_ ?_
  · rintro _ _ ⟨y65, y66, y67, g69, hm, _⟩; exact nomatch hm
  rintro m71 _ _ ⟨y65, y66, y67, g69, hm, rfl, rfl, q68, q70⟩
  simp only [slices_stableCmpFunc_Value_row_Sort_1_r_l2] at hm
  refine sq (sq (detn [(0, aR 0 1 m0), (1, aI a2), (2, .fn 47 [] [.ptr 1 0]), (6, aI 20), (7, aI y66), (8, aI y67), (13, aB (decide (y67 ≤ a2)))] (by kernel_rfl) ?_))
  rcases bif_some hm with ⟨h72, hm⟩ | ⟨h72, hm⟩
  ·
   refine ct h72 (by kernel_rfl) (wp_skip (bq (sq (rg (sh 4 [(17, .fn 47 [] [.ptr 1 0]), (16, aI y67), (15, aI y66), (14, aR 0 1 m0)] (by kernel_rfl) ?_)))))
   obtain ⟨x74, h73, hm⟩ := bs hm
   obtain ⟨vv, H1, hC, g75, q76, q77, rfl, rfl⟩ := ok_slices_insertionSortCmpFunc_Value_row_Sort_1_r m0 g69 (by first | rfl | assumption | omega | (simp only [List.length_set, List.length_append, List.length_cons, List.length_nil, List.length_replicate, List.length_drop] at * <;> omega)) (by first | exact Nat.zero_le _ | exact Nat.le_refl _ | assumption | omega | (simp only [List.length_set, List.length_append, List.length_cons, List.length_nil, List.length_replicate, List.length_drop] at * <;> omega)) h73
   refine dR [(18, .tup [])] [bR 22 1 (rSl R_api_Value) x74 g75 0, .box [.pv (encSl R_api_Key a1)] false] [0, 1] [aR 0 1 m0, aI y66, aI y67, .fn 47 [] [.ptr 1 0]] (by kernel_rfl) (by kernel_rfl) (by kernel_rfl) hC (by kernel_rfl) (fin [(0, aR 0 1 m0), (1, aI a2), (2, .fn 47 [] [.ptr 1 0]), (6, aI 20), (8, aI y67)] rfl (by kernel_rfl) (sq (detn [(0, aR 0 1 m0), (1, aI a2), (2, .fn 47 [] [.ptr 1 0]), (6, aI 20), (7, aI y67), (8, aI y67)] (by kernel_rfl) (detn [(0, aR 0 1 m0), (1, aI a2), (2, .fn 47 [] [.ptr 1 0]), (6, aI 20), (7, aI y67), (8, aI (IntKind.wrap .i64 (y67 + 20)))] (by kernel_rfl) ?_))))
   exact ⟨_, _, tidyL [(0, aR 0 1 m0), (1, aI a2), (2, .fn 47 [] [.ptr 1 0]), (6, aI 20), (7, aI y67), (8, aI (IntKind.wrap .i64 (y67 + 20)))] [bR 22 1 (rSl R_api_Value) x74 g75 0, .box [.pv (encSl R_api_Key a1)] false] (by kernel_rfl), ⟨x74, y67, (IntKind.wrap .i64 (y67 + 20)), g75, hm, rfl, rfl, (by first | rfl | assumption | omega | (simp only [List.length_set, List.length_append, List.length_cons, List.length_nil, List.length_replicate, List.length_drop] at * <;> omega)), (by first | exact Nat.zero_le _ | exact Nat.le_refl _ | assumption | omega | (simp only [List.length_set, List.length_append, List.length_cons, List.length_nil, List.length_replicate, List.length_drop] at * <;> omega))⟩⟩
  ·
   refine cf h72 (by kernel_rfl) (wp_exit ?_)
   exact ⟨y65, (decide (y67 ≤ a2)), y66, y67, g69, hm, rfl, rfl, (by first | rfl | assumption | omega | (simp only [List.length_set, List.length_append, List.length_cons, List.length_nil, List.length_replicate, List.length_drop] at * <;> omega)), (by first | exact Nat.zero_le _ | exact Nat.le_refl _ | assumption | omega | (simp only [List.length_set, List.length_append, List.length_cons, List.length_nil, List.length_replicate, List.length_drop] at * <;> omega))⟩
theorem ok_slices_SortStableFunc_Value_row_Sort_1_r (m0 : Nat) (f0 : Nat) {n : Nat} {a0 : (List (Option (List api_Value)))} {a1 : (Option (List api_Key))} {r : (List (Option (List api_Value)))} (hm0 : a0.length = m0) (hf0 : f0 ≤ a0.length) (hm : slices_SortStableFunc_Value_row_Sort_1_r n a0 a1 = some r) :
    ∃ vv H1, call G n 46 [aR 0 1 m0, .fn 47 [] [.ptr 1 0]] [bR 22 1 (rSl R_api_Value) a0 f0 0, .box [.pv (encSl R_api_Key a1)] false] = some (.ret vv, H1) ∧ (match r with | r0 => (∃ (e1 : Nat), r0.length = m0 ∧ e1 ≤ r0.length ∧ vv = .tup [] ∧ H1 = [bR 22 1 (rSl R_api_Value) r0 e1 0, .box [.pv (encSl R_api_Key a1)] false])) := by
  unfold slices_SortStableFunc_Value_row_Sort_1_r at hm
  obtain ⟨n, rfl, h0⟩ := at1_some hm
  replace hm := h0; clear h0
  refine callE 9 [(0, aR 0 1 m0), (1, .fn 47 [] [.ptr 1 0])] func46 rfl (by kernel_rfl) (rg (sh 2 [(5, aR 0 1 m0), (4, aR 0 1 m0)] (by kernel_rfl) (dv 6 (v := aI (a0.length : Int)) (len_refO a0 (n := m0) (id := 0) (esz := 1) t25 (by omega) (by kernel_rfl)) (by kernel_rfl) (sh 1 [(7, .fn 47 [] [.ptr 1 0])] (by kernel_rfl) ?_))))
  obtain ⟨x2, h1, hm⟩ := bs hm
  obtain ⟨vv, H1, hC, g3, q4, q5, rfl, rfl⟩ := ok_slices_stableCmpFunc_Value_row_Sort_1_r m0 f0 (by first | rfl | assumption | omega | (simp only [List.length_set, List.length_append, List.length_cons, List.length_nil, List.length_replicate, List.length_drop] at * <;> omega)) (by first | exact Nat.zero_le _ | exact Nat.le_refl _ | assumption | omega | (simp only [List.length_set, List.length_append, List.length_cons, List.length_nil, List.length_replicate, List.length_drop] at * <;> omega)) h1
  refine dR [(8, .tup [])] [bR 22 1 (rSl R_api_Value) x2 g3 0, .box [.pv (encSl R_api_Key a1)] false] [0, 1] [aR 0 1 m0, aI (a0.length : Int), .fn 47 [] [.ptr 1 0]] (by kernel_rfl) (by kernel_rfl) (by kernel_rfl) hC (by kernel_rfl) (fin [] rfl (by kernel_rfl) ?_)
  obtain rfl := Option.some.inj hm
  exact ⟨trivial, .tup [], [bR 22 1 (rSl R_api_Value) x2 g3 0, .box [.pv (encSl R_api_Key a1)] false], by kernel_rfl, g3, (by first | rfl | assumption | omega | (simp only [List.length_set, List.length_append, List.length_cons, List.length_nil, List.length_replicate, List.length_drop] at * <;> omega)), (by first | exact Nat.zero_le _ | exact Nat.le_refl _ | assumption | omega | (simp only [List.length_set, List.length_append, List.length_cons, List.length_nil, List.length_replicate, List.length_drop] at * <;> omega)), rfl, rfl⟩
theorem ok_row_Sort {n : Nat} {a0 : (Option (List (Option (List api_Value))))} {a1 : (Option (List api_Key))} {r : (Option (List (Option (List api_Value))))} (hm : row_Sort n a0 a1 = some r) :
    ∃ vv H1, call G n 23 [.pv (encSl (rSl R_api_Value) a0), .pv (encSl R_api_Key a1)] [] = some (.ret vv, H1) ∧ (match r with | none => (vv = .pv .nils ∧ H1 = []) | some r0 => (∃ (e1 : Nat) (e2 : Nat), r0.length = e1 ∧ e2 ≤ r0.length ∧ vv = aR 0 1 e1 ∧ H1 = [bR 22 1 (rSl R_api_Value) r0 e2 0])) := by
  unfold row_Sort at hm
  obtain ⟨n, rfl, h0⟩ := at1_some hm
  replace hm := h0; clear h0
  refine callE 24 [(0, .pv (encSl (rSl R_api_Value) a0)), (1, .pv (encSl R_api_Key a1))] func23 rfl (by kernel_rfl) (sq (det [(0, .pv (encSl (rSl R_api_Value) a0)), (3, .ptr 0 0)] [.box [.pv (encSl R_api_Key a1)] false] (by kernel_rfl) (sq (detn [(0, .pv (encSl (rSl R_api_Value) a0)), (3, .ptr 0 0), (5, .pv .nils)] (by kernel_rfl) ?_))))
  obtain ⟨k4, hk4, hm⟩ := withK_some hm
  refine mid (fun t H => (∃ (w1 : AV) (w2 : AV), k4 none = some r ∧ t = mk 24 [(3, .ptr 0 0), (5, .pv .nils), (8, .pv (encSl (rSl R_api_Value) a0)), (9, aI ((sll a0).length : Int)), (10, w1), (11, w2)] ∧ H = [.box [.pv (encSl R_api_Key a1)] false]) ∨ (∃ (y3 : (List (Option (List api_Value)))) (w1 : AV) (w2 : AV), k4 (some y3) = some r ∧ t = mk 24 [(3, .ptr 0 0), (5, aR 1 1 y3.length), (8, .pv (encSl (rSl R_api_Value) a0)), (9, aI ((sll a0).length : Int)), (10, w1), (11, w2)] ∧ H = [.box [.pv (encSl R_api_Key a1)] false, bR 22 1 (rSl R_api_Value) y3 0 0])) ?_ ?_
  ·
   rintro _ _ (⟨w1, w2, hm, rfl, rfl⟩ | ⟨y3, w1, w2, hm, rfl, rfl⟩)
   ·
    subst hk4
    refine sq (rg (sh 2 [(21, .fn 47 [] [.ptr 0 0]), (20, .pv .nils)] (by kernel_rfl) ?_))
    obtain ⟨_, h5, hm⟩ := bs hm
    obtain ⟨vv, H1, hC, rfl, rfl⟩ := ok_slices_SortStableFunc_Value_row_Sort_1_nil h5
    refine dR [(22, .tup [])] [.box [.pv (encSl R_api_Key a1)] false] [0] [.pv .nils, .fn 47 [] [.ptr 0 0]] (by kernel_rfl) (by kernel_rfl) (by kernel_rfl) hC (by kernel_rfl) (fin [(5, .pv .nils)] rfl (by kernel_rfl) (sq (detn [(4, .pv .nils)] (by kernel_rfl) (wp_ret ?_))))
    obtain rfl := Option.some.inj hm
    exact ⟨trivial, .pv .nils, [], by kernel_rfl, rfl, rfl⟩
   ·
    subst hk4
    refine sq (rg (sh 2 [(21, .fn 47 [] [.ptr 0 0]), (20, aR 1 1 y3.length)] (by kernel_rfl) ?_))
    obtain ⟨x7, h6, hm⟩ := bs hm
    obtain ⟨vv, H1, hC, g8, q9, q10, rfl, rfl⟩ := ok_slices_SortStableFunc_Value_row_Sort_1_r y3.length 0 (by first | rfl | assumption | omega | (simp only [List.length_set, List.length_append, List.length_cons, List.length_nil, List.length_replicate, List.length_drop] at * <;> omega)) (by first | exact Nat.zero_le _ | exact Nat.le_refl _ | assumption | omega | (simp only [List.length_set, List.length_append, List.length_cons, List.length_nil, List.length_replicate, List.length_drop] at * <;> omega)) h6
    refine dR [(22, .tup [])] [.box [.pv (encSl R_api_Key a1)] false, bR 22 1 (rSl R_api_Value) x7 g8 0] [1, 0] [aR 1 1 y3.length, .fn 47 [] [.ptr 0 0]] (by kernel_rfl) (by kernel_rfl) (by kernel_rfl) hC (by kernel_rfl) (fin [(5, aR 1 1 y3.length)] rfl (by kernel_rfl) (sq (detn [(4, aR 1 1 y3.length)] (by kernel_rfl) (wp_ret ?_))))
    obtain rfl := Option.some.inj hm
    exact ⟨trivial, aR 0 1 y3.length, [bR 22 1 (rSl R_api_Value) x7 g8 0], by kernel_rfl, y3.length, g8, (by first | rfl | assumption | omega | (simp only [List.length_set, List.length_append, List.length_cons, List.length_nil, List.length_replicate, List.length_drop] at * <;> omega)), (by first | exact Nat.zero_le _ | exact Nat.le_refl _ | assumption | omega | (simp only [List.length_set, List.length_append, List.length_cons, List.length_nil, List.length_replicate, List.length_drop] at * <;> omega)), rfl, rfl⟩
  refine sq (rg (sh 1 [(8, .pv (encSl (rSl R_api_Value) a0))] (by kernel_rfl) (dv 9 (v := aI ((sll a0).length : Int)) (len_slO (rSl R_api_Value) a0 t25 (by kernel_rfl)) (by kernel_rfl) (sh 1 [(10, aI 0)] (by kernel_rfl) (fin [(3, .ptr 0 0), (5, .pv .nils), (8, .pv (encSl (rSl R_api_Value) a0)), (9, aI ((sll a0).length : Int)), (10, aI 0)] rfl (by kernel_rfl) (bq ?_))))))
  refine loopF (fun mm t H => (∃ (y14 : Int), row_Sort_l3 n a0 k4 mm y14 none = some r ∧ t = mk 24 [(3, .ptr 0 0), (5, .pv .nils), (8, .pv (encSl (rSl R_api_Value) a0)), (9, aI ((sll a0).length : Int)), (10, aI y14)] ∧ H = [.box [.pv (encSl R_api_Key a1)] false]) ∨ (∃ (y14 : Int) (y15 : (List (Option (List api_Value)))), row_Sort_l3 n a0 k4 mm y14 (some y15) = some r ∧ t = mk 24 [(3, .ptr 0 0), (5, aR 1 1 y15.length), (8, .pv (encSl (rSl R_api_Value) a0)), (9, aI ((sll a0).length : Int)), (10, aI y14)] ∧ H = [.box [.pv (encSl R_api_Key a1)] false, bR 22 1 (rSl R_api_Value) y15 0 0])) (.inl ⟨0, hm, rfl, rfl⟩) ?_ ?_
  · rintro _ _ (⟨y14, hm, _⟩ | ⟨y14, y15, hm, _⟩) <;> exact nomatch hm
  rintro m16 _ _ (⟨y14, hm, rfl, rfl⟩ | ⟨y14, y15, hm, rfl, rfl⟩)
  ·
   simp only [row_Sort_l3] at hm
   refine sq (detn [(3, .ptr 0 0), (5, .pv .nils), (8, .pv (encSl (rSl R_api_Value) a0)), (9, aI ((sll a0).length : Int)), (10, aI y14), (11, aB (decide (y14 < ((sll a0).length : Int))))] (by kernel_rfl) ?_)
   refine sq ?_
   rcases bif_some hm with ⟨h17, hm⟩ | ⟨h17, hm⟩
   ·
    refine ct h17 (by kernel_rfl) (wp_skip (sq (bq (sq (rg ?_)))))
    obtain ⟨x18, h19, hm⟩ := bs hm
    refine dv 12 (v := .pv (.ptr ((rSl R_api_Value) x18) 0)) (ia_slO (rSl R_api_Value) a0 .i64 t25 t22 h19 rfl (by kernel_rfl)) (by kernel_rfl) (sh 2 [(7, .pv (encSl R_api_Value x18)), (13, .pv (encSl R_api_Value x18))] (by kernel_rfl) (fin [(3, .ptr 0 0), (5, .pv .nils), (7, .pv (encSl R_api_Value x18)), (8, .pv (encSl (rSl R_api_Value) a0)), (9, aI ((sll a0).length : Int)), (10, aI y14)] rfl (by kernel_rfl) (rg (sh 2 [(15, .pv (encSl R_api_Value x18)), (14, .pv .nils)] (by kernel_rfl) ?_))))
    obtain ⟨x20, h21, hm⟩ := bs hm
    refine dv 16 (cpure (by kernel_rfl) (ok_slices_Clone_Value_2 h21) (by kernel_rfl) (by kernel_rfl) (by kernel_rfl)) (by kernel_rfl) (st 1 [(17, aR 1 1 1)] [.box [.pv (encSl R_api_Key a1)] false, bR 22 1 (rSl R_api_Value) ([x20] : List (Option (List api_Value))) 0 0] (by kernel_rfl) ?_)
    obtain ⟨_, h22, hm⟩ := bs hm
    refine dO [(18, aR 2 1 (([x20] : List (Option (List api_Value))).length))] [.box [.pv (encSl R_api_Key a1)] false, bR 22 1 (rSl R_api_Value) ([x20] : List (Option (List api_Value))) 0 0, bR 22 1 (rSl R_api_Value) ([x20] : List (Option (List api_Value))) 0 0] (app_nilO (u := 0) (rSl R_api_Value) ([x20] : List (Option (List api_Value))) (b := 24) t25 t22 rfl rfl rfl (fun _ => rfl) rfl h22 (show srcRows (aR 1 1 1) _ = some (([x20] : List (Option (List api_Value))).map (rSl R_api_Value)) from by kernel_rfl) (by kernel_rfl)) (by kernel_rfl) (sh 1 [(5, aR 2 1 (([x20] : List (Option (List api_Value))).length))] (by kernel_rfl) (fin [(3, .ptr 0 0), (5, aR 2 1 (([x20] : List (Option (List api_Value))).length)), (8, .pv (encSl (rSl R_api_Value) a0)), (9, aI ((sll a0).length : Int)), (10, aI y14)] rfl (by kernel_rfl) (detn [(3, .ptr 0 0), (5, aR 2 1 (([x20] : List (Option (List api_Value))).length)), (8, .pv (encSl (rSl R_api_Value) a0)), (9, aI ((sll a0).length : Int)), (10, aI (IntKind.wrap .i64 (y14 + 1)))] (by kernel_rfl) ?_)))
    exact ⟨_, _, tidyL [(3, .ptr 0 0), (5, aR 1 1 (([x20] : List (Option (List api_Value))).length)), (8, .pv (encSl (rSl R_api_Value) a0)), (9, aI ((sll a0).length : Int)), (10, aI (IntKind.wrap .i64 (y14 + 1)))] [.box [.pv (encSl R_api_Key a1)] false, bR 22 1 (rSl R_api_Value) ([x20] : List (Option (List api_Value))) 0 0] (by kernel_rfl), .inr (⟨(IntKind.wrap .i64 (y14 + 1)), ([x20] : List (Option (List api_Value))), hm, rfl, rfl⟩)⟩
   ·
    refine cf h17 (by kernel_rfl) (wp_exit ?_)
    exact .inl ⟨aI y14, aB (decide (y14 < ((sll a0).length : Int))), hm, (mk_same (by kernel_rfl)), rfl⟩
  ·
   simp only [row_Sort_l3] at hm
   refine sq (detn [(3, .ptr 0 0), (5, aR 1 1 y15.length), (8, .pv (encSl (rSl R_api_Value) a0)), (9, aI ((sll a0).length : Int)), (10, aI y14), (11, aB (decide (y14 < ((sll a0).length : Int))))] (by kernel_rfl) ?_)
   refine sq ?_
   rcases bif_some hm with ⟨h23, hm⟩ | ⟨h23, hm⟩
   ·
    refine ct h23 (by kernel_rfl) (wp_skip (sq (bq (sq (rg ?_)))))
    obtain ⟨x24, h25, hm⟩ := bs hm
    refine dv 12 (v := .pv (.ptr ((rSl R_api_Value) x24) 0)) (ia_slO (rSl R_api_Value) a0 .i64 t25 t22 h25 rfl (by kernel_rfl)) (by kernel_rfl) (sh 2 [(7, .pv (encSl R_api_Value x24)), (13, .pv (encSl R_api_Value x24))] (by kernel_rfl) (fin [(3, .ptr 0 0), (5, aR 1 1 y15.length), (7, .pv (encSl R_api_Value x24)), (8, .pv (encSl (rSl R_api_Value) a0)), (9, aI ((sll a0).length : Int)), (10, aI y14)] rfl (by kernel_rfl) (rg (sh 2 [(15, .pv (encSl R_api_Value x24)), (14, aR 1 1 y15.length)] (by kernel_rfl) ?_))))
    obtain ⟨x26, h27, hm⟩ := bs hm
    refine dv 16 (cpure (by kernel_rfl) (ok_slices_Clone_Value_2 h27) (by kernel_rfl) (by kernel_rfl) (by kernel_rfl)) (by kernel_rfl) (st 1 [(17, aR 2 1 1)] [.box [.pv (encSl R_api_Key a1)] false, bR 22 1 (rSl R_api_Value) y15 0 0, bR 22 1 (rSl R_api_Value) ([x26] : List (Option (List api_Value))) 0 0] (by kernel_rfl) ?_)
    obtain ⟨_, h28, hm⟩ := bs hm
    refine dO [(18, aR 1 1 ((y15 ++ ([x26] : List (Option (List api_Value)))).length))] [.box [.pv (encSl R_api_Key a1)] false, bR 22 1 (rSl R_api_Value) (y15 ++ ([x26] : List (Option (List api_Value)))) 0 0, bR 22 1 (rSl R_api_Value) ([x26] : List (Option (List api_Value))) 0 0] (app_refO (u := 0) (n := y15.length) (id := 1) (rSl R_api_Value) y15 ([x26] : List (Option (List api_Value))) (b := 24) t25 t22 rfl rfl rfl (fun _ => rfl) rfl h28 rfl rfl (Nat.zero_le _) (show srcRows (aR 2 1 1) _ = some (([x26] : List (Option (List api_Value))).map (rSl R_api_Value)) from by kernel_rfl) (by kernel_rfl)) (by kernel_rfl) (sh 1 [(5, aR 1 1 ((y15 ++ ([x26] : List (Option (List api_Value)))).length))] (by kernel_rfl) (fin [(3, .ptr 0 0), (5, aR 1 1 ((y15 ++ ([x26] : List (Option (List api_Value)))).length)), (8, .pv (encSl (rSl R_api_Value) a0)), (9, aI ((sll a0).length : Int)), (10, aI y14)] rfl (by kernel_rfl) (detn [(3, .ptr 0 0), (5, aR 1 1 ((y15 ++ ([x26] : List (Option (List api_Value)))).length)), (8, .pv (encSl (rSl R_api_Value) a0)), (9, aI ((sll a0).length : Int)), (10, aI (IntKind.wrap .i64 (y14 + 1)))] (by kernel_rfl) ?_)))
    exact ⟨_, _, tidyL [(3, .ptr 0 0), (5, aR 1 1 ((y15 ++ ([x26] : List (Option (List api_Value)))).length)), (8, .pv (encSl (rSl R_api_Value) a0)), (9, aI ((sll a0).length : Int)), (10, aI (IntKind.wrap .i64 (y14 + 1)))] [.box [.pv (encSl R_api_Key a1)] false, bR 22 1 (rSl R_api_Value) (y15 ++ ([x26] : List (Option (List api_Value)))) 0 0] (by kernel_rfl), .inr (⟨(IntKind.wrap .i64 (y14 + 1)), (y15 ++ ([x26] : List (Option (List api_Value)))), hm, rfl, rfl⟩)⟩
   ·
    refine cf h23 (by kernel_rfl) (wp_exit ?_)
    exact .inr (⟨y15, aI y14, aB (decide (y14 < ((sll a0).length : Int))), hm, (mk_same (by kernel_rfl)), rfl⟩)
theorem ok_row_Sorted_1 {n : Nat} {a0 : (Option (List api_Value))} {a1 : (Option (List api_Value))} {a2 : (Option (List api_Key))} {r : Int} (hm : row_Sorted_1 n a0 a1 a2 = some r) :
    call G n 49 [.pv (encSl R_api_Value a0), .pv (encSl R_api_Value a1), .pv (.ptr [encSl R_api_Key a2] 0)] [] = some (.ret (aI r), []) := by
  unfold row_Sorted_1 at hm
  obtain ⟨n, rfl, h0⟩ := at1_some hm
  replace hm := h0; clear h0
  refine callL 10 [(0, .pv (encSl R_api_Value a0)), (1, .pv (encSl R_api_Value a1)), (2, .pv (.ptr [encSl R_api_Key a2] 0))] func49 rfl (by kernel_rfl) (sq (detn [(0, .pv (encSl R_api_Value a0)), (1, .pv (encSl R_api_Value a1)), (2, .pv (.ptr [encSl R_api_Key a2] 0))] (by kernel_rfl) (sq (rg (sh 3 [(8, .pv (encSl R_api_Value a1)), (7, .pv (encSl R_api_Value a0)), (6, .pv (encSl R_api_Key a2))] (by kernel_rfl) ?_)))))
  obtain ⟨x1, h2, hm⟩ := bs hm
  refine dv 9 (cpure (by kernel_rfl) (ok_row_By h2) (by kernel_rfl) (by kernel_rfl) (by kernel_rfl)) (by kernel_rfl) (sh 1 [(5, aI x1)] (by kernel_rfl) (fin [(5, aI x1)] rfl (by kernel_rfl) (wp_ret ?_)))
  obtain rfl := Option.some.inj hm
  exact ⟨trivial, by kernel_rfl⟩
theorem ok_slices_IsSortedFunc_Value_row_Sorted_1 {n : Nat} {a0 : (Option (List (Option (List api_Value))))} {a1 : (Option (List api_Key))} {r : Bool} (hm : slices_IsSortedFunc_Value_row_Sorted_1 n a0 a1 = some r) :
    call G n 48 [.pv (encSl (rSl R_api_Value) a0), .pv (.fn 49 [] [.ptr [encSl R_api_Key a1] 0])] [] = some (.ret (aB r), []) := by
  unfold slices_IsSortedFunc_Value_row_Sorted_1 at hm
  obtain ⟨n, rfl, h0⟩ := at1_some hm
  replace hm := h0; clear h0
  refine callL 25 [(0, .pv (encSl (rSl R_api_Value) a0)), (1, .pv (.fn 49 [] [.ptr [encSl R_api_Key a1] 0]))] func48 rfl (by kernel_rfl) (sq (detn [(0, .pv (encSl (rSl R_api_Value) a0)), (1, .pv (.fn 49 [] [.ptr [encSl R_api_Key a1] 0]))] (by kernel_rfl) ?_))
  obtain ⟨k3, hk3, hm⟩ := withK_some hm
  refine mid (fun t H => (∃ (y1 : Bool) (y2 : Int), k3 () = some r ∧ t = mk 25 [(0, .pv (encSl (rSl R_api_Value) a0)), (1, .pv (.fn 49 [] [.ptr [encSl R_api_Key a1] 0])), (5, aI y2), (10, aB y1)] ∧ H = [])) ?_ ?_
  ·
   rintro _ _ ⟨y1, y2, hm, rfl, rfl⟩
   subst hk3
   refine sq (detn [(4, aB true)] (by kernel_rfl) (wp_ret ?_))
   obtain rfl := Option.some.inj hm
   exact ⟨trivial, by kernel_rfl⟩
  refine sq (rg (sh 1 [(6, .pv (encSl (rSl R_api_Value) a0))] (by kernel_rfl) (dv 7 (v := aI ((sll a0).length : Int)) (len_slO (rSl R_api_Value) a0 t25 (by kernel_rfl)) (by kernel_rfl) (sh 2 [(5, aI (IntKind.wrap .i64 (((sll a0).length : Int) - 1))), (8, aI (IntKind.wrap .i64 (((sll a0).length : Int) - 1)))] (by kernel_rfl) (fin [(0, .pv (encSl (rSl R_api_Value) a0)), (1, .pv (.fn 49 [] [.ptr [encSl R_api_Key a1] 0])), (5, aI (IntKind.wrap .i64 (((sll a0).length : Int) - 1)))] rfl (by kernel_rfl) (bq ?_))))))
  refine loopF (fun mm t H => (∃ (y5 : Int), slices_IsSortedFunc_Value_row_Sorted_1_l2 n a0 a1 k3 mm y5 = some r ∧ t = mk 25 [(0, .pv (encSl (rSl R_api_Value) a0)), (1, .pv (.fn 49 [] [.ptr [encSl R_api_Key a1] 0])), (5, aI y5)] ∧ H = [])) (⟨(IntKind.wrap .i64 (((sll a0).length : Int) - 1)), hm, rfl, rfl⟩) ?_ ?_
  · rintro _ _ ⟨y5, hm, _⟩; exact nomatch hm
  rintro m6 _ _ ⟨y5, hm, rfl, rfl⟩
  simp only [slices_IsSortedFunc_Value_row_Sorted_1_l2] at hm
  refine sq (sq (detn [(0, .pv (encSl (rSl R_api_Value) a0)), (1, .pv (.fn 49 [] [.ptr [encSl R_api_Key a1] 0])), (5, aI y5), (10, aB (decide (y5 > 0)))] (by kernel_rfl) ?_))
  rcases bif_some hm with ⟨h7, hm⟩ | ⟨h7, hm⟩
  ·
   refine ct h7 (by kernel_rfl) (wp_skip (sq (bq (sq (rgd (shd 3 [(15, aI y5), (14, .pv (encSl (rSl R_api_Value) a0)), (13, .pv (.fn 49 [] [.ptr [encSl R_api_Key a1] 0]))] (by kernel_rfl) ?_))))))
   obtain ⟨x8, h9, hm⟩ := bs hm
   refine dvd 16 (v := .pv (.ptr ((rSl R_api_Value) x8) 0)) (ia_slO (rSl R_api_Value) a0 .i64 t25 t22 h9 rfl (by kernel_rfl)) (by kernel_rfl) (shd 4 [(20, aI (IntKind.wrap .i64 (y5 - 1))), (19, aI y5), (18, .pv (encSl (rSl R_api_Value) a0)), (17, .pv (encSl R_api_Value x8))] (by kernel_rfl) ?_)
   obtain ⟨x10, h11, hm⟩ := bs hm
   refine dvd 21 (v := .pv (.ptr ((rSl R_api_Value) x10) 0)) (ia_slO (rSl R_api_Value) a0 .i64 t25 t22 h11 rfl (by kernel_rfl)) (by kernel_rfl) (shd 1 [(22, .pv (encSl R_api_Value x10))] (by kernel_rfl) ?_)
   obtain ⟨x12, h13, hm⟩ := bs hm
   refine dvd 23 (cpure (by kernel_rfl) (ok_row_Sorted_1 h13) (by kernel_rfl) (by kernel_rfl) (by kernel_rfl)) (by kernel_rfl) (shd 1 [(24, aB (decide (x12 < 0)))] (by kernel_rfl) (find [(0, .pv (encSl (rSl R_api_Value) a0)), (1, .pv (.fn 49 [] [.ptr [encSl R_api_Key a1] 0])), (5, aI y5), (24, aB (decide (x12 < 0)))] rfl (by kernel_rfl) (by kernel_rfl) ?_))
   rcases bif_some hm with ⟨h14, hm⟩ | ⟨h14, hm⟩
   ·
    refine ct h14 (by kernel_rfl) (sq (detn [(4, aB false)] (by kernel_rfl) (wp_ret ?_)))
    obtain rfl := Option.some.inj hm
    exact ⟨trivial, by kernel_rfl⟩
   ·
    refine cf h14 (by kernel_rfl) (wp_skip (detn [(0, .pv (encSl (rSl R_api_Value) a0)), (1, .pv (.fn 49 [] [.ptr [encSl R_api_Key a1] 0])), (5, aI (IntKind.wrap .i64 (y5 - 1)))] (by kernel_rfl) ?_))
    exact ⟨_, _, tidyL [(0, .pv (encSl (rSl R_api_Value) a0)), (1, .pv (.fn 49 [] [.ptr [encSl R_api_Key a1] 0])), (5, aI (IntKind.wrap .i64 (y5 - 1)))] [] (by kernel_rfl), ⟨(IntKind.wrap .i64 (y5 - 1)), hm, rfl, rfl⟩⟩
  ·
   refine cf h7 (by kernel_rfl) (wp_exit ?_)
   exact ⟨(decide (y5 > 0)), y5, hm, rfl, rfl⟩
theorem ok_row_Sorted {n : Nat} {a0 : (Option (List (Option (List api_Value))))} {a1 : (Option (List api_Key))} {r : Bool} (hm : row_Sorted n a0 a1 = some r) :
    call G n 25 [.pv (encSl (rSl R_api_Value) a0), .pv (encSl R_api_Key a1)] [] = some (.ret (aB r), []) := by
  unfold row_Sorted at hm
  obtain ⟨n, rfl, h0⟩ := at1_some hm
  replace hm := h0; clear h0
  refine callL 8 [(0, .pv (encSl (rSl R_api_Value) a0)), (1, .pv (encSl R_api_Key a1))] func25 rfl (by kernel_rfl) (sq (det [(0, .pv (encSl (rSl R_api_Value) a0)), (3, .ptr 0 0)] [.box [.pv (encSl R_api_Key a1)] false] (by kernel_rfl) (sq (rg (sh 2 [(6, .fn 49 [] [.ptr 0 0]), (5, .pv (encSl (rSl R_api_Value) a0))] (by kernel_rfl) ?_)))))
  obtain ⟨x1, h2, hm⟩ := bs hm
  refine dO [(7, aB x1)] [.box [.pv (encSl R_api_Key a1)] false] (cpureR [0] [.pv (encSl (rSl R_api_Value) a0), .fn 49 [] [.ptr 0 0]] (fl := true) (by kernel_rfl) (by kernel_rfl) (by kernel_rfl) (ok_slices_IsSortedFunc_Value_row_Sorted_1 h2) (by kernel_rfl) (by kernel_rfl)) (by kernel_rfl) (sh 1 [(4, aB x1)] (by kernel_rfl) (fin [(4, aB x1)] rfl (by kernel_rfl) (wp_ret ?_)))
  obtain rfl := Option.some.inj hm
  exact ⟨trivial, by kernel_rfl⟩
theorem ok_law05_RowSorted {n : Nat} {a0 : (Option (List (Option (List api_Value))))} {a1 : (Option (List api_Key))} {r : Bool} (hm : law05_RowSorted n a0 a1 = some r) :
    call G n 7 [.pv (encSl (rSl R_api_Value) a0), .pv (encSl R_api_Key a1)] [] = some (.ret (aB r), []) := by
  unfold law05_RowSorted at hm
  obtain ⟨n, rfl, h0⟩ := at1_some hm
  replace hm := h0; clear h0
  refine callL 83 [(0, .pv (encSl (rSl R_api_Value) a0)), (1, .pv (encSl R_api_Key a1))] func7 rfl (by kernel_rfl) (sq (detn [(0, .pv (encSl (rSl R_api_Value) a0)), (1, .pv (encSl R_api_Key a1))] (by kernel_rfl) ?_))
  refine sq (sq (rg ?_))
  obtain ⟨x1, h2, hm⟩ := bs hm
  refine dv 9 (cpure (by kernel_rfl) (ok_law05_works h2) (by kernel_rfl) (by kernel_rfl) (by kernel_rfl)) (by kernel_rfl) (sh 1 [(10, aB (!x1))] (by kernel_rfl) (fin [(0, .pv (encSl (rSl R_api_Value) a0)), (1, .pv (encSl R_api_Key a1)), (10, aB (!x1))] rfl (by kernel_rfl) ?_))
  rcases bif_some hm with ⟨h3, hm⟩ | ⟨h3, hm⟩
  ·
   refine ct h3 (by kernel_rfl) (sq (detn [(4, aB false)] (by kernel_rfl) (wp_ret ?_)))
   obtain rfl := Option.some.inj hm
   exact ⟨trivial, by kernel_rfl⟩
  ·
   refine cf h3 (by kernel_rfl) (wp_skip ?_)
   refine sq (sq (rg (sh 1 [(11, .pv (encSl (rSl R_api_Value) a0))] (by kernel_rfl) ?_)))
   obtain ⟨x4, h5, hm⟩ := bs hm
   refine dv 12 (cpure (by kernel_rfl) (ok_law05_great h5) (by kernel_rfl) (by kernel_rfl) (by kernel_rfl)) (by kernel_rfl) (sh 1 [(13, aB x4)] (by kernel_rfl) ?_)
   refine seg x4 [13, 12] (fun b => [(17, aB (b || (decide (((sll a1).length : Int) > 40)))), (16, ifA b (.undef) (aB (decide (((sll a1).length : Int) > 40)))), (15, ifA b (.undef) (aI ((sll a1).length : Int))), (14, ifA b (.undef) (.pv (encSl R_api_Key a1)))]) 7 (by kernel_rfl) ?_ ?_ ?_
   ·
    intro Q h
    refine sh 4 [(17, aB true), (16, .undef), (15, .undef), (14, .undef)] (by kernel_rfl) ?_
    exact sameN (by kernel_rfl) (by kernel_rfl) h
   ·
    intro Q h
    refine sh 1 [(14, .pv (encSl R_api_Key a1))] (by kernel_rfl) (dv 15 (v := aI ((sll a1).length : Int)) (len_slO R_api_Key a1 t23 (by kernel_rfl)) (by kernel_rfl) (sh 2 [(17, aB (decide (((sll a1).length : Int) > 40))), (16, aB (decide (((sll a1).length : Int) > 40)))] (by kernel_rfl) ?_))
    exact sameN (by kernel_rfl) (by kernel_rfl) h
   refine fin [(0, .pv (encSl (rSl R_api_Value) a0)), (1, .pv (encSl R_api_Key a1)), (17, aB (x4 || (decide (((sll a1).length : Int) > 40))))] rfl (by kernel_rfl) ?_
   rcases bif_some hm with ⟨h6, hm⟩ | ⟨h6, hm⟩
   ·
    refine ct h6 (by kernel_rfl) (sq (detn [(4, aB true)] (by kernel_rfl) (wp_ret ?_)))
    obtain rfl := Option.some.inj hm
    exact ⟨trivial, by kernel_rfl⟩
   ·
    refine cf h6 (by kernel_rfl) (wp_skip ?_)
    obtain ⟨k12, hk12, hm⟩ := withK_some hm
    refine mid (fun t H => (k12 none = some r ∧ t = mk 83 [(0, .pv (encSl (rSl R_api_Value) a0)), (1, .pv (encSl R_api_Key a1)), (5, .pv .nils)] ∧ H = []) ∨ (∃ (y7 : (List (Option (List api_Value)))) (g8 : Nat) (g10 : Nat), k12 (some y7) = some r ∧ t = mk 83 [(0, .pv (encSl (rSl R_api_Value) a0)), (1, .pv (encSl R_api_Key a1)), (5, aR 0 1 g8)] ∧ H = [bR 22 1 (rSl R_api_Value) y7 g10 0] ∧ y7.length = g8 ∧ g10 ≤ y7.length)) ?_ ?_
    ·
     rintro _ _ (⟨hm, rfl, rfl⟩ | ⟨y7, g8, g10, hm, rfl, rfl, q9, q11⟩)
     ·
      subst hk12
      refine sq (sq (rg (sh 3 [(23, .pv (encSl (rSl R_api_Value) a0)), (22, aI 0), (21, .pv .nils)] (by kernel_rfl) (dv 24 (v := aI ((sll a0).length : Int)) (len_slO (rSl R_api_Value) a0 t25 (by kernel_rfl)) (by kernel_rfl) (sh 2 [(26, aB ((0 : Int) != ((sll a0).length : Int))), (25, aB ((0 : Int) != ((sll a0).length : Int)))] (by kernel_rfl) ?_)))))
      rcases bif_some hm with ⟨h13, hm⟩ | ⟨h13, hm⟩
      ·
       refine known [26, 25] h13 (by kernel_rfl) (sh 11 [(37, aB true), (36, .undef), (35, .undef), (34, .undef), (33, .undef), (32, aB true), (31, aB true), (30, .undef), (29, .undef), (28, .undef), (27, .undef)] (by kernel_rfl) (fin [(0, .pv (encSl (rSl R_api_Value) a0)), (1, .pv (encSl R_api_Key a1)), (5, .pv .nils), (37, aB true)] rfl (by kernel_rfl) (cT (by kernel_rfl) (sq (detn [(4, aB false)] (by kernel_rfl) (wp_ret ?_))))))
       obtain rfl := Option.some.inj hm
       exact ⟨trivial, by kernel_rfl⟩
      ·
       refine known [26, 25] h13 (by kernel_rfl) (sh 2 [(28, .pv (encSl (rSl R_api_Value) a0)), (27, .pv .nils)] (by kernel_rfl) ?_)
       obtain ⟨x14, h15, hm⟩ := bs hm
       refine dv 29 (cpure (by kernel_rfl) (ok_row_Bag h15) (by kernel_rfl) (by kernel_rfl) (by kernel_rfl)) (by kernel_rfl) (sh 3 [(32, aB (!x14)), (31, aB (!x14)), (30, aB (!x14))] (by kernel_rfl) ?_)
       rcases bif_some hm with ⟨h16, hm⟩ | ⟨h16, hm⟩
       ·
        refine known [32, 31, 30] h16 (by kernel_rfl) (sh 5 [(37, aB true), (36, .undef), (35, .undef), (34, .undef), (33, .undef)] (by kernel_rfl) (fin [(0, .pv (encSl (rSl R_api_Value) a0)), (1, .pv (encSl R_api_Key a1)), (5, .pv .nils), (37, aB true)] rfl (by kernel_rfl) (cT (by kernel_rfl) (sq (detn [(4, aB false)] (by kernel_rfl) (wp_ret ?_))))))
        obtain rfl := Option.some.inj hm
        exact ⟨trivial, by kernel_rfl⟩
       ·
        refine known [32, 31, 30] h16 (by kernel_rfl) (sh 2 [(34, .pv (encSl R_api_Key a1)), (33, .pv .nils)] (by kernel_rfl) ?_)
        obtain ⟨x17, h18, hm⟩ := bs hm
        refine dv 35 (cpure (by kernel_rfl) (ok_row_Sorted h18) (by kernel_rfl) (by kernel_rfl) (by kernel_rfl)) (by kernel_rfl) (sh 2 [(37, aB (!x17)), (36, aB (!x17))] (by kernel_rfl) (fin [(0, .pv (encSl (rSl R_api_Value) a0)), (1, .pv (encSl R_api_Key a1)), (5, .pv .nils), (37, aB (!x17))] rfl (by kernel_rfl) ?_))
        rcases bif_some hm with ⟨h19, hm⟩ | ⟨h19, hm⟩
        ·
         refine ct h19 (by kernel_rfl) (sq (detn [(4, aB false)] (by kernel_rfl) (wp_ret ?_)))
         obtain rfl := Option.some.inj hm
         exact ⟨trivial, by kernel_rfl⟩
        ·
         refine cf h19 (by kernel_rfl) (wp_skip ?_)
         obtain ⟨k25, hk25, hm⟩ := withK_some hm
         refine mid (fun t H => (k25 none = some r ∧ t = mk 83 [(0, .pv (encSl (rSl R_api_Value) a0)), (1, .pv (encSl R_api_Key a1)), (5, .pv .nils), (6, .pv .nils)] ∧ H = []) ∨ (∃ (y20 : (List (Option (List api_Value)))) (g21 : Nat) (g23 : Nat), k25 (some y20) = some r ∧ t = mk 83 [(0, .pv (encSl (rSl R_api_Value) a0)), (1, .pv (encSl R_api_Key a1)), (5, .pv .nils), (6, aR 0 1 g21)] ∧ H = [bR 22 1 (rSl R_api_Value) y20 g23 0] ∧ y20.length = g21 ∧ g23 ≤ y20.length)) ?_ ?_
         ·
          rintro _ _ (⟨hm, rfl, rfl⟩ | ⟨y20, g21, g23, hm, rfl, rfl, q22, q24⟩)
          ·
           subst hk25
           obtain ⟨k26, hk26, hm⟩ := withK_some hm
           refine mid (fun t H => (k26 () = some r ∧ t = mk 83 [(0, .pv (encSl (rSl R_api_Value) a0)), (1, .pv (encSl R_api_Key a1)), (5, .pv .nils), (6, .pv .nils), (42, aI 0), (43, aI 0), (44, aB false)] ∧ H = [])) ?_ ?_
           ·
            rintro _ _ ⟨hm, rfl, rfl⟩
            subst hk26
            obtain ⟨k27, hk27, hm⟩ := withK_some hm
            refine mid (fun t H => (k27 () = some r ∧ t = mk 83 [(0, .pv (encSl (rSl R_api_Value) a0)), (1, .pv (encSl R_api_Key a1)), (5, .pv .nils), (6, .pv .nils), (58, aI 0), (59, aI 0), (60, aB false)] ∧ H = [])) ?_ ?_
            ·
             rintro _ _ ⟨hm, rfl, rfl⟩
             subst hk27
             refine sq (detn [(4, aB true)] (by kernel_rfl) (wp_ret ?_))
             obtain rfl := Option.some.inj hm
             exact ⟨trivial, by kernel_rfl⟩
            refine sq (detn [(0, .pv (encSl (rSl R_api_Value) a0)), (1, .pv (encSl R_api_Key a1)), (5, .pv .nils), (6, .pv .nils), (58, aI 0), (59, aI 0)] (by kernel_rfl) (bq ?_))
            refine loopF (fun mm t H => (law05_RowSorted_l16 n k27 mm = some r ∧ t = mk 83 [(0, .pv (encSl (rSl R_api_Value) a0)), (1, .pv (encSl R_api_Key a1)), (5, .pv .nils), (6, .pv .nils), (58, aI 0), (59, aI 0)] ∧ H = [])) (⟨hm, rfl, rfl⟩) ?_ ?_
            · rintro _ _ ⟨hm, _⟩; exact nomatch hm
            rintro m28 _ _ ⟨hm, rfl, rfl⟩
            simp only [law05_RowSorted_l16] at hm
            refine sq (detn [(0, .pv (encSl (rSl R_api_Value) a0)), (1, .pv (encSl R_api_Key a1)), (5, .pv .nils), (6, .pv .nils), (58, aI 0), (59, aI 0), (60, aB false)] (by kernel_rfl) (sq (cF (by kernel_rfl) (wp_exit ?_))))
            exact ⟨hm, rfl, rfl⟩
           refine sq (detn [(0, .pv (encSl (rSl R_api_Value) a0)), (1, .pv (encSl R_api_Key a1)), (5, .pv .nils), (6, .pv .nils), (42, aI 0), (43, aI 0)] (by kernel_rfl) (bq ?_))
           refine loopF (fun mm t H => (law05_RowSorted_l10 n k26 mm = some r ∧ t = mk 83 [(0, .pv (encSl (rSl R_api_Value) a0)), (1, .pv (encSl R_api_Key a1)), (5, .pv .nils), (6, .pv .nils), (42, aI 0), (43, aI 0)] ∧ H = [])) (⟨hm, rfl, rfl⟩) ?_ ?_
           · rintro _ _ ⟨hm, _⟩; exact nomatch hm
           rintro m29 _ _ ⟨hm, rfl, rfl⟩
           simp only [law05_RowSorted_l10] at hm
           refine sq (detn [(0, .pv (encSl (rSl R_api_Value) a0)), (1, .pv (encSl R_api_Key a1)), (5, .pv .nils), (6, .pv .nils), (42, aI 0), (43, aI 0), (44, aB false)] (by kernel_rfl) (sq (cF (by kernel_rfl) (wp_exit ?_))))
           exact ⟨hm, rfl, rfl⟩
          ·
           subst hk25
           obtain ⟨k30, hk30, hm⟩ := withK_some hm
           refine mid (fun t H => (k30 () = some r ∧ t = mk 83 [(0, .pv (encSl (rSl R_api_Value) a0)), (1, .pv (encSl R_api_Key a1)), (5, .pv .nils), (6, aR 0 1 g21), (42, aI (y20.length : Int)), (43, aI 0), (44, aB (decide ((0 : Int) < (y20.length : Int))))] ∧ H = [bR 22 1 (rSl R_api_Value) y20 g23 0])) ?_ ?_
           ·
            rintro _ _ ⟨hm, rfl, rfl⟩
            subst hk30
            obtain ⟨k31, hk31, hm⟩ := withK_some hm
            refine mid (fun t H => (k31 () = some r ∧ t = mk 83 [(0, .pv (encSl (rSl R_api_Value) a0)), (1, .pv (encSl R_api_Key a1)), (5, .pv .nils), (6, aR 0 1 g21), (58, aI 0), (59, aI 0), (60, aB false)] ∧ H = [bR 22 1 (rSl R_api_Value) y20 g23 0])) ?_ ?_
            ·
             rintro _ _ ⟨hm, rfl, rfl⟩
             subst hk31
             refine sq (rg (sh 1 [(78, aR 0 1 g21)] (by kernel_rfl) (dv 79 (v := aI (y20.length : Int)) (len_refO y20 (n := g21) (id := 0) (esz := 1) t25 (by omega) (by kernel_rfl)) (by kernel_rfl) (sh 4 [(4, aB ((y20.length : Int) == 0)), (82, aB ((y20.length : Int) == 0)), (81, aI 0), (80, .pv .nils)] (by kernel_rfl) (fin [(4, aB ((y20.length : Int) == 0))] rfl (by kernel_rfl) (wp_ret ?_))))))
             obtain rfl := Option.some.inj hm
             exact ⟨trivial, by kernel_rfl⟩
            refine sq (detn [(0, .pv (encSl (rSl R_api_Value) a0)), (1, .pv (encSl R_api_Key a1)), (5, .pv .nils), (6, aR 0 1 g21), (58, aI 0), (59, aI 0)] (by kernel_rfl) (bq ?_))
            refine loopF (fun mm t H => (law05_RowSorted_l16x n k31 mm = some r ∧ t = mk 83 [(0, .pv (encSl (rSl R_api_Value) a0)), (1, .pv (encSl R_api_Key a1)), (5, .pv .nils), (6, aR 0 1 g21), (58, aI 0), (59, aI 0)] ∧ H = [bR 22 1 (rSl R_api_Value) y20 g23 0])) (⟨hm, rfl, rfl⟩) ?_ ?_
            · rintro _ _ ⟨hm, _⟩; exact nomatch hm
            rintro m32 _ _ ⟨hm, rfl, rfl⟩
            simp only [law05_RowSorted_l16x] at hm
            refine sq (detn [(0, .pv (encSl (rSl R_api_Value) a0)), (1, .pv (encSl R_api_Key a1)), (5, .pv .nils), (6, aR 0 1 g21), (58, aI 0), (59, aI 0), (60, aB false)] (by kernel_rfl) (sq (cF (by kernel_rfl) (wp_exit ?_))))
            exact ⟨hm, rfl, rfl⟩
           refine sq (rg (sh 1 [(41, aR 0 1 g21)] (by kernel_rfl) (dv 42 (v := aI (y20.length : Int)) (len_refO y20 (n := g21) (id := 0) (esz := 1) t25 (by omega) (by kernel_rfl)) (by kernel_rfl) (sh 1 [(43, aI 0)] (by kernel_rfl) (fin [(0, .pv (encSl (rSl R_api_Value) a0)), (1, .pv (encSl R_api_Key a1)), (5, .pv .nils), (6, aR 0 1 g21), (42, aI (y20.length : Int)), (43, aI 0)] rfl (by kernel_rfl) (bq ?_))))))
           refine loopF (fun mm t H => (law05_RowSorted_l10x n y20 k30 mm = some r ∧ t = mk 83 [(0, .pv (encSl (rSl R_api_Value) a0)), (1, .pv (encSl R_api_Key a1)), (5, .pv .nils), (6, aR 0 1 g21), (42, aI (y20.length : Int)), (43, aI 0)] ∧ H = [bR 22 1 (rSl R_api_Value) y20 g23 0])) (⟨hm, rfl, rfl⟩) ?_ ?_
           · rintro _ _ ⟨hm, _⟩; exact nomatch hm
           rintro m33 _ _ ⟨hm, rfl, rfl⟩
           simp only [law05_RowSorted_l10x] at hm
           refine sq (detn [(0, .pv (encSl (rSl R_api_Value) a0)), (1, .pv (encSl R_api_Key a1)), (5, .pv .nils), (6, aR 0 1 g21), (42, aI (y20.length : Int)), (43, aI 0), (44, aB (decide ((0 : Int) < (y20.length : Int))))] (by kernel_rfl) ?_)
           refine sq ?_
           rcases bif_some hm with ⟨h34, hm⟩ | ⟨h34, hm⟩
           ·
            refine ct h34 (by kernel_rfl) (wp_skip (sq (bq (sq (detn [(0, .pv (encSl (rSl R_api_Value) a0)), (1, .pv (encSl R_api_Key a1)), (5, .pv .nils), (6, aR 0 1 g21), (7, aI 0), (42, aI (y20.length : Int)), (43, aI 0)] (by kernel_rfl) (sq (rgd (shd 2 [(47, aI 0), (46, aR 0 1 g21)] (by kernel_rfl) ?_))))))))
            obtain ⟨x35, h36, hm⟩ := bs hm
            refine dvd 48 (v := .eptr 0 0 g21 1 (0 + Int.toNat 0) 0) (ia_refO y20 .i64 (n := g21) (id := 0) (esz := 1) t25 t22 h36 (by omega) rfl (by kernel_rfl)) (by kernel_rfl) (dvd 49 (v := .pv (encSl R_api_Value x35)) (ld_eptrO (rSl R_api_Value) y20 (n := g21) (esz := 1) (j := 0) (off := 0) (id := 0) t22 rfl h36 (by omega) (by omega) (by kernel_rfl) (by kernel_rfl)) (by kernel_rfl) (shd 2 [(51, aI 0), (50, .pv .nils)] (by kernel_rfl) ?_))
            cases hm
           ·
            refine cf h34 (by kernel_rfl) (wp_exit ?_)
            exact ⟨hm, rfl, rfl⟩
         refine rg (sh 2 [(39, .pv (encSl R_api_Key a1)), (38, .pv .nils)] (by kernel_rfl) ?_)
         obtain ⟨x39, h37, hm⟩ := bs hm
         rcases x39 with _ | x38
         ·
          obtain ⟨vv, H1, hC, rfl, rfl⟩ := ok_row_Sort h37
          refine dO [(40, .pv .nils)] [] (cownO [] [.pv .nils, .pv (encSl R_api_Key a1)] (v' := .pv .nils) (bs' := []) (by kernel_rfl) (by kernel_rfl) (by kernel_rfl) hC (by kernel_rfl) (by kernel_rfl) (by kernel_rfl)) (by kernel_rfl) (sh 1 [(6, .pv .nils)] (by kernel_rfl) (fin [(0, .pv (encSl (rSl R_api_Value) a0)), (1, .pv (encSl R_api_Key a1)), (5, .pv .nils), (6, .pv .nils)] rfl (by kernel_rfl) ?_))
          exact .inl ⟨hm, rfl, rfl⟩
         ·
          obtain ⟨vv, H1, hC, g40, g41, q42, q43, rfl, rfl⟩ := ok_row_Sort h37
          refine dO [(40, aR 0 1 g40)] [bR 22 1 (rSl R_api_Value) x38 g41 0] (cownO [] [.pv .nils, .pv (encSl R_api_Key a1)] (v' := aR 0 1 g40) (bs' := [bR 22 1 (rSl R_api_Value) x38 g41 0]) (by kernel_rfl) (by kernel_rfl) (by kernel_rfl) hC (by kernel_rfl) (by kernel_rfl) (by kernel_rfl)) (by kernel_rfl) (sh 1 [(6, aR 0 1 g40)] (by kernel_rfl) (fin [(0, .pv (encSl (rSl R_api_Value) a0)), (1, .pv (encSl R_api_Key a1)), (5, .pv .nils), (6, aR 0 1 g40)] rfl (by kernel_rfl) ?_))
          exact .inr (⟨x38, g40, g41, hm, rfl, rfl, (by first | rfl | assumption | omega | (simp only [List.length_set, List.length_append, List.length_cons, List.length_nil, List.length_replicate, List.length_drop] at * <;> omega)), (by first | exact Nat.zero_le _ | exact Nat.le_refl _ | assumption | omega | (simp only [List.length_set, List.length_append, List.length_cons, List.length_nil, List.length_replicate, List.length_drop] at * <;> omega))⟩)
     ·
      subst hk12
      refine sq (sq (rg (sh 1 [(21, aR 0 1 g8)] (by kernel_rfl) (dv 22 (v := aI (y7.length : Int)) (len_refO y7 (n := g8) (id := 0) (esz := 1) t25 (by omega) (by kernel_rfl)) (by kernel_rfl) (sh 1 [(23, .pv (encSl (rSl R_api_Value) a0))] (by kernel_rfl) (dv 24 (v := aI ((sll a0).length : Int)) (len_slO (rSl R_api_Value) a0 t25 (by kernel_rfl)) (by kernel_rfl) (sh 2 [(26, aB ((y7.length : Int) != ((sll a0).length : Int))), (25, aB ((y7.length : Int) != ((sll a0).length : Int)))] (by kernel_rfl) ?_)))))))
      rcases bif_some hm with ⟨h44, hm⟩ | ⟨h44, hm⟩
      ·
       refine known [26, 25] h44 (by kernel_rfl) (sh 11 [(37, aB true), (36, .undef), (35, .undef), (34, .undef), (33, .undef), (32, aB true), (31, aB true), (30, .undef), (29, .undef), (28, .undef), (27, .undef)] (by kernel_rfl) (fin [(0, .pv (encSl (rSl R_api_Value) a0)), (1, .pv (encSl R_api_Key a1)), (5, aR 0 1 g8), (37, aB true)] rfl (by kernel_rfl) (cT (by kernel_rfl) (sq (detn [(4, aB false)] (by kernel_rfl) (wp_ret ?_))))))
       obtain rfl := Option.some.inj hm
       exact ⟨trivial, by kernel_rfl⟩
      ·
       refine known [26, 25] h44 (by kernel_rfl) (sh 2 [(28, .pv (encSl (rSl R_api_Value) a0)), (27, aR 0 1 g8)] (by kernel_rfl) ?_)
       obtain ⟨x45, h46, hm⟩ := bs hm
       refine dO [(29, aB x45)] [bR 22 1 (rSl R_api_Value) y7 g10 0] (cpureR [0] [aR 0 1 g8, .pv (encSl (rSl R_api_Value) a0)] (fl := true) (by kernel_rfl) (by kernel_rfl) (pAs_cons (pA_ref (pur_ref' (n := g8) (id := 0) (l := y7) (R := (rSl R_api_Value)) rfl (by omega) (by omega))) (pAs_cons (pA_pv) (rfl))) (ok_row_Bag h46) (by kernel_rfl) (by kernel_rfl)) (by kernel_rfl) (sh 3 [(32, aB (!x45)), (31, aB (!x45)), (30, aB (!x45))] (by kernel_rfl) ?_)
       rcases bif_some hm with ⟨h47, hm⟩ | ⟨h47, hm⟩
       ·
        refine known [32, 31, 30] h47 (by kernel_rfl) (sh 5 [(37, aB true), (36, .undef), (35, .undef), (34, .undef), (33, .undef)] (by kernel_rfl) (fin [(0, .pv (encSl (rSl R_api_Value) a0)), (1, .pv (encSl R_api_Key a1)), (5, aR 0 1 g8), (37, aB true)] rfl (by kernel_rfl) (cT (by kernel_rfl) (sq (detn [(4, aB false)] (by kernel_rfl) (wp_ret ?_))))))
        obtain rfl := Option.some.inj hm
        exact ⟨trivial, by kernel_rfl⟩
       ·
        refine known [32, 31, 30] h47 (by kernel_rfl) (sh 2 [(34, .pv (encSl R_api_Key a1)), (33, aR 0 1 g8)] (by kernel_rfl) ?_)
        obtain ⟨x48, h49, hm⟩ := bs hm
        refine dO [(35, aB x48)] [bR 22 1 (rSl R_api_Value) y7 g10 0] (cpureR [0] [aR 0 1 g8, .pv (encSl R_api_Key a1)] (fl := true) (by kernel_rfl) (by kernel_rfl) (pAs_cons (pA_ref (pur_ref' (n := g8) (id := 0) (l := y7) (R := (rSl R_api_Value)) rfl (by omega) (by omega))) (pAs_cons (pA_pv) (rfl))) (ok_row_Sorted h49) (by kernel_rfl) (by kernel_rfl)) (by kernel_rfl) (sh 2 [(37, aB (!x48)), (36, aB (!x48))] (by kernel_rfl) (fin [(0, .pv (encSl (rSl R_api_Value) a0)), (1, .pv (encSl R_api_Key a1)), (5, aR 0 1 g8), (37, aB (!x48))] rfl (by kernel_rfl) ?_))
        rcases bif_some hm with ⟨h50, hm⟩ | ⟨h50, hm⟩
        ·
         refine ct h50 (by kernel_rfl) (sq (detn [(4, aB false)] (by kernel_rfl) (wp_ret ?_)))
         obtain rfl := Option.some.inj hm
         exact ⟨trivial, by kernel_rfl⟩
        ·
         refine cf h50 (by kernel_rfl) (wp_skip ?_)
         obtain ⟨k56, hk56, hm⟩ := withK_some hm
         refine mid (fun t H => (k56 none = some r ∧ t = mk 83 [(0, .pv (encSl (rSl R_api_Value) a0)), (1, .pv (encSl R_api_Key a1)), (5, aR 0 1 g8), (6, .pv .nils)] ∧ H = [bR 22 1 (rSl R_api_Value) y7 g10 (max 0 (y7.map (rSl R_api_Value)).length)]) ∨ (∃ (y51 : (List (Option (List api_Value)))) (g52 : Nat) (g54 : Nat), k56 (some y51) = some r ∧ t = mk 83 [(0, .pv (encSl (rSl R_api_Value) a0)), (1, .pv (encSl R_api_Key a1)), (5, aR 0 1 g8), (6, aR 1 1 g52)] ∧ H = [bR 22 1 (rSl R_api_Value) y7 g10 (max 0 (y7.map (rSl R_api_Value)).length), bR 22 1 (rSl R_api_Value) y51 g54 0] ∧ y51.length = g52 ∧ g54 ≤ y51.length)) ?_ ?_
         ·
          rintro _ _ (⟨hm, rfl, rfl⟩ | ⟨y51, g52, g54, hm, rfl, rfl, q53, q55⟩)
          ·
           subst hk56
           obtain ⟨k57, hk57, hm⟩ := withK_some hm
           refine mid (fun t H => (k57 () = some r ∧ t = mk 83 [(0, .pv (encSl (rSl R_api_Value) a0)), (1, .pv (encSl R_api_Key a1)), (5, aR 0 1 g8), (6, .pv .nils), (42, aI 0), (43, aI 0), (44, aB false)] ∧ H = [bR 22 1 (rSl R_api_Value) y7 g10 (max 0 (y7.map (rSl R_api_Value)).length)])) ?_ ?_
           ·
            rintro _ _ ⟨hm, rfl, rfl⟩
            subst hk57
            obtain ⟨k60, hk60, hm⟩ := withK_some hm
            refine mid (fun t H => (∃ (y58 : Int) (y59 : Bool), k60 () = some r ∧ t = mk 83 [(0, .pv (encSl (rSl R_api_Value) a0)), (1, .pv (encSl R_api_Key a1)), (5, aR 0 1 g8), (6, .pv .nils), (58, aI (y7.length : Int)), (59, aI y58), (60, aB y59)] ∧ H = [bR 22 1 (rSl R_api_Value) y7 g10 (max 0 (y7.map (rSl R_api_Value)).length)])) ?_ ?_
            ·
             rintro _ _ ⟨y58, y59, hm, rfl, rfl⟩
             subst hk60
             refine sq (rg (sh 3 [(80, aR 0 1 g8), (79, aI 0), (78, .pv .nils)] (by kernel_rfl) (dv 81 (v := aI (y7.length : Int)) (len_refO y7 (n := g8) (id := 0) (esz := 1) t25 (by omega) (by kernel_rfl)) (by kernel_rfl) (sh 2 [(4, aB ((0 : Int) == (y7.length : Int))), (82, aB ((0 : Int) == (y7.length : Int)))] (by kernel_rfl) (fin [(4, aB ((0 : Int) == (y7.length : Int)))] rfl (by kernel_rfl) (wp_ret ?_))))))
             obtain rfl := Option.some.inj hm
             exact ⟨trivial, by kernel_rfl⟩
            refine sq (rg (sh 1 [(57, aR 0 1 g8)] (by kernel_rfl) (dv 58 (v := aI (y7.length : Int)) (len_refO y7 (n := g8) (id := 0) (esz := 1) t25 (by omega) (by kernel_rfl)) (by kernel_rfl) (sh 1 [(59, aI 0)] (by kernel_rfl) (fin [(0, .pv (encSl (rSl R_api_Value) a0)), (1, .pv (encSl R_api_Key a1)), (5, aR 0 1 g8), (6, .pv .nils), (58, aI (y7.length : Int)), (59, aI 0)] rfl (by kernel_rfl) (bq ?_))))))
            refine loopF (fun mm t H => (∃ (y62 : Int), law05_RowSorted_l16xx n a0 a1 y7 k60 mm y62 = some r ∧ t = mk 83 [(0, .pv (encSl (rSl R_api_Value) a0)), (1, .pv (encSl R_api_Key a1)), (5, aR 0 1 g8), (6, .pv .nils), (58, aI (y7.length : Int)), (59, aI y62)] ∧ H = [bR 22 1 (rSl R_api_Value) y7 g10 (max 0 (y7.map (rSl R_api_Value)).length)])) (⟨0, hm, rfl, rfl⟩) ?_ ?_
            · rintro _ _ ⟨y62, hm, _⟩; exact nomatch hm
            rintro m63 _ _ ⟨y62, hm, rfl, rfl⟩
            simp only [law05_RowSorted_l16xx] at hm
            refine sq (detn [(0, .pv (encSl (rSl R_api_Value) a0)), (1, .pv (encSl R_api_Key a1)), (5, aR 0 1 g8), (6, .pv .nils), (58, aI (y7.length : Int)), (59, aI y62), (60, aB (decide (y62 < (y7.length : Int))))] (by kernel_rfl) ?_)
            refine sq ?_
            rcases bif_some hm with ⟨h64, hm⟩ | ⟨h64, hm⟩
            ·
             refine ct h64 (by kernel_rfl) (wp_skip (sq (bq (sq (detn [(0, .pv (encSl (rSl R_api_Value) a0)), (1, .pv (encSl R_api_Key a1)), (5, aR 0 1 g8), (6, .pv .nils), (8, aI y62), (58, aI (y7.length : Int)), (59, aI y62)] (by kernel_rfl) (sq (rgd (shd 2 [(63, .pv (encSl R_api_Key a1)), (62, .pv (encSl (rSl R_api_Value) a0))] (by kernel_rfl) ?_))))))))
             obtain ⟨x65, h66, hm⟩ := bs hm
             refine dvd 64 (cpure (by kernel_rfl) (ok_row_Sorted h66) (by kernel_rfl) (by kernel_rfl) (by kernel_rfl)) (by kernel_rfl) (shd 1 [(65, aB x65)] (by kernel_rfl) ?_)
             rcases bif_some hm with ⟨h67, hm⟩ | ⟨h67, hm⟩
             ·
              refine knownd [65, 64] h67 (by kernel_rfl) (shd 2 [(67, aI y62), (66, aR 0 1 g8)] (by kernel_rfl) ?_)
              obtain ⟨x68, h69, hm⟩ := bs hm
              refine dvd 68 (v := .eptr 0 0 g8 1 (0 + Int.toNat y62) 0) (ia_refO y7 .i64 (n := g8) (id := 0) (esz := 1) t25 t22 h69 (by omega) rfl (by kernel_rfl)) (by kernel_rfl) (dvd 69 (v := .pv (encSl R_api_Value x68)) (ld_eptrO (rSl R_api_Value) y7 (n := g8) (esz := 1) (j := y62) (off := 0) (id := 0) t22 rfl h69 (by omega) (by omega) (by kernel_rfl) (by kernel_rfl)) (by kernel_rfl) (shd 2 [(71, aI y62), (70, .pv (encSl (rSl R_api_Value) a0))] (by kernel_rfl) ?_))
              obtain ⟨x70, h71, hm⟩ := bs hm
              refine dvd 72 (v := .pv (.ptr ((rSl R_api_Value) x70) 0)) (ia_slO (rSl R_api_Value) a0 .i64 t25 t22 h71 rfl (by kernel_rfl)) (by kernel_rfl) (shd 1 [(73, .pv (encSl R_api_Value x70))] (by kernel_rfl) ?_)
              obtain ⟨x72, h73, hm⟩ := bs hm
              refine dvd 74 (cpure (by kernel_rfl) (ok_row_Cmp h73) (by kernel_rfl) (by kernel_rfl) (by kernel_rfl)) (by kernel_rfl) (shd 2 [(76, aB (x72 != 0)), (75, aB (x72 != 0))] (by kernel_rfl) (find [(0, .pv (encSl (rSl R_api_Value) a0)), (1, .pv (encSl R_api_Key a1)), (5, aR 0 1 g8), (6, .pv .nils), (58, aI (y7.length : Int)), (59, aI y62), (76, aB (x72 != 0))] rfl (by kernel_rfl) (by kernel_rfl) ?_))
              rcases bif_some hm with ⟨h74, hm⟩ | ⟨h74, hm⟩
              ·
               refine ct h74 (by kernel_rfl) (sq (detn [(4, aB false)] (by kernel_rfl) (wp_ret ?_)))
               obtain rfl := Option.some.inj hm
               exact ⟨trivial, by kernel_rfl⟩
              ·
               refine cf h74 (by kernel_rfl) (wp_skip (detn [(0, .pv (encSl (rSl R_api_Value) a0)), (1, .pv (encSl R_api_Key a1)), (5, aR 0 1 g8), (6, .pv .nils), (58, aI (y7.length : Int)), (59, aI (IntKind.wrap .i64 (y62 + 1)))] (by kernel_rfl) ?_))
               exact ⟨_, _, tidyL [(0, .pv (encSl (rSl R_api_Value) a0)), (1, .pv (encSl R_api_Key a1)), (5, aR 0 1 g8), (6, .pv .nils), (58, aI (y7.length : Int)), (59, aI (IntKind.wrap .i64 (y62 + 1)))] [bR 22 1 (rSl R_api_Value) y7 g10 (max 0 (y7.map (rSl R_api_Value)).length)] (by kernel_rfl), ⟨(IntKind.wrap .i64 (y62 + 1)), hm, rfl, rfl⟩⟩
             ·
              refine knownd [65, 64] h67 (by kernel_rfl) (shd 11 [(76, aB false), (75, .undef), (74, .undef), (73, .undef), (72, .undef), (71, .undef), (70, .undef), (69, .undef), (68, .undef), (67, .undef), (66, .undef)] (by kernel_rfl) (find [(0, .pv (encSl (rSl R_api_Value) a0)), (1, .pv (encSl R_api_Key a1)), (5, aR 0 1 g8), (6, .pv .nils), (58, aI (y7.length : Int)), (59, aI y62), (76, aB false)] rfl (by kernel_rfl) (by kernel_rfl) (cF (by kernel_rfl) (wp_skip (detn [(0, .pv (encSl (rSl R_api_Value) a0)), (1, .pv (encSl R_api_Key a1)), (5, aR 0 1 g8), (6, .pv .nils), (58, aI (y7.length : Int)), (59, aI (IntKind.wrap .i64 (y62 + 1)))] (by kernel_rfl) ?_)))))
              exact ⟨_, _, tidyL [(0, .pv (encSl (rSl R_api_Value) a0)), (1, .pv (encSl R_api_Key a1)), (5, aR 0 1 g8), (6, .pv .nils), (58, aI (y7.length : Int)), (59, aI (IntKind.wrap .i64 (y62 + 1)))] [bR 22 1 (rSl R_api_Value) y7 g10 (max 0 (y7.map (rSl R_api_Value)).length)] (by kernel_rfl), ⟨(IntKind.wrap .i64 (y62 + 1)), hm, rfl, rfl⟩⟩
            ·
             refine cf h64 (by kernel_rfl) (wp_exit ?_)
             exact ⟨y62, (decide (y62 < (y7.length : Int))), hm, rfl, rfl⟩
           refine sq (detn [(0, .pv (encSl (rSl R_api_Value) a0)), (1, .pv (encSl R_api_Key a1)), (5, aR 0 1 g8), (6, .pv .nils), (42, aI 0), (43, aI 0)] (by kernel_rfl) (bq ?_))
           refine loopF (fun mm t H => (law05_RowSorted_l10xx n k57 mm = some r ∧ t = mk 83 [(0, .pv (encSl (rSl R_api_Value) a0)), (1, .pv (encSl R_api_Key a1)), (5, aR 0 1 g8), (6, .pv .nils), (42, aI 0), (43, aI 0)] ∧ H = [bR 22 1 (rSl R_api_Value) y7 g10 (max 0 (y7.map (rSl R_api_Value)).length)])) (⟨hm, rfl, rfl⟩) ?_ ?_
           · rintro _ _ ⟨hm, _⟩; exact nomatch hm
           rintro m75 _ _ ⟨hm, rfl, rfl⟩
           simp only [law05_RowSorted_l10xx] at hm
           refine sq (detn [(0, .pv (encSl (rSl R_api_Value) a0)), (1, .pv (encSl R_api_Key a1)), (5, aR 0 1 g8), (6, .pv .nils), (42, aI 0), (43, aI 0), (44, aB false)] (by kernel_rfl) (sq (cF (by kernel_rfl) (wp_exit ?_))))
           exact ⟨hm, rfl, rfl⟩
          ·
           subst hk56
           obtain ⟨k78, hk78, hm⟩ := withK_some hm
           refine mid (fun t H => (∃ (y76 : Int) (y77 : Bool), k78 () = some r ∧ t = mk 83 [(0, .pv (encSl (rSl R_api_Value) a0)), (1, .pv (encSl R_api_Key a1)), (5, aR 0 1 g8), (6, aR 1 1 g52), (42, aI (y51.length : Int)), (43, aI y76), (44, aB y77)] ∧ H = [bR 22 1 (rSl R_api_Value) y7 g10 (max 0 (y7.map (rSl R_api_Value)).length), bR 22 1 (rSl R_api_Value) y51 g54 0])) ?_ ?_
           ·
            rintro _ _ ⟨y76, y77, hm, rfl, rfl⟩
            subst hk78
            obtain ⟨k81, hk81, hm⟩ := withK_some hm
            refine mid (fun t H => (∃ (y79 : Int) (y80 : Bool), k81 () = some r ∧ t = mk 83 [(0, .pv (encSl (rSl R_api_Value) a0)), (1, .pv (encSl R_api_Key a1)), (5, aR 0 1 g8), (6, aR 1 1 g52), (58, aI (y7.length : Int)), (59, aI y79), (60, aB y80)] ∧ H = [bR 22 1 (rSl R_api_Value) y7 g10 (max 0 (y7.map (rSl R_api_Value)).length), bR 22 1 (rSl R_api_Value) y51 g54 0])) ?_ ?_
            ·
             rintro _ _ ⟨y79, y80, hm, rfl, rfl⟩
             subst hk81
             refine sq (rg (sh 1 [(78, aR 1 1 g52)] (by kernel_rfl) (dv 79 (v := aI (y51.length : Int)) (len_refO y51 (n := g52) (id := 1) (esz := 1) t25 (by omega) (by kernel_rfl)) (by kernel_rfl) (sh 1 [(80, aR 0 1 g8)] (by kernel_rfl) (dv 81 (v := aI (y7.length : Int)) (len_refO y7 (n := g8) (id := 0) (esz := 1) t25 (by omega) (by kernel_rfl)) (by kernel_rfl) (sh 2 [(4, aB ((y51.length : Int) == (y7.length : Int))), (82, aB ((y51.length : Int) == (y7.length : Int)))] (by kernel_rfl) (fin [(4, aB ((y51.length : Int) == (y7.length : Int)))] rfl (by kernel_rfl) (wp_ret ?_))))))))
             obtain rfl := Option.some.inj hm
             exact ⟨trivial, by kernel_rfl⟩
            refine sq (rg (sh 1 [(57, aR 0 1 g8)] (by kernel_rfl) (dv 58 (v := aI (y7.length : Int)) (len_refO y7 (n := g8) (id := 0) (esz := 1) t25 (by omega) (by kernel_rfl)) (by kernel_rfl) (sh 1 [(59, aI 0)] (by kernel_rfl) (fin [(0, .pv (encSl (rSl R_api_Value) a0)), (1, .pv (encSl R_api_Key a1)), (5, aR 0 1 g8), (6, aR 1 1 g52), (58, aI (y7.length : Int)), (59, aI 0)] rfl (by kernel_rfl) (bq ?_))))))
            refine loopF (fun mm t H => (∃ (y83 : Int), law05_RowSorted_l16xxx n a0 a1 y7 k81 mm y83 = some r ∧ t = mk 83 [(0, .pv (encSl (rSl R_api_Value) a0)), (1, .pv (encSl R_api_Key a1)), (5, aR 0 1 g8), (6, aR 1 1 g52), (58, aI (y7.length : Int)), (59, aI y83)] ∧ H = [bR 22 1 (rSl R_api_Value) y7 g10 (max 0 (y7.map (rSl R_api_Value)).length), bR 22 1 (rSl R_api_Value) y51 g54 0])) (⟨0, hm, rfl, rfl⟩) ?_ ?_
            · rintro _ _ ⟨y83, hm, _⟩; exact nomatch hm
            rintro m84 _ _ ⟨y83, hm, rfl, rfl⟩
            simp only [law05_RowSorted_l16xxx] at hm
            refine sq (detn [(0, .pv (encSl (rSl R_api_Value) a0)), (1, .pv (encSl R_api_Key a1)), (5, aR 0 1 g8), (6, aR 1 1 g52), (58, aI (y7.length : Int)), (59, aI y83), (60, aB (decide (y83 < (y7.length : Int))))] (by kernel_rfl) ?_)
            refine sq ?_
            rcases bif_some hm with ⟨h85, hm⟩ | ⟨h85, hm⟩
            ·
             refine ct h85 (by kernel_rfl) (wp_skip (sq (bq (sq (detn [(0, .pv (encSl (rSl R_api_Value) a0)), (1, .pv (encSl R_api_Key a1)), (5, aR 0 1 g8), (6, aR 1 1 g52), (8, aI y83), (58, aI (y7.length : Int)), (59, aI y83)] (by kernel_rfl) (sq (rgd (shd 2 [(63, .pv (encSl R_api_Key a1)), (62, .pv (encSl (rSl R_api_Value) a0))] (by kernel_rfl) ?_))))))))
             obtain ⟨x86, h87, hm⟩ := bs hm
             refine dvd 64 (cpure (by kernel_rfl) (ok_row_Sorted h87) (by kernel_rfl) (by kernel_rfl) (by kernel_rfl)) (by kernel_rfl) (shd 1 [(65, aB x86)] (by kernel_rfl) ?_)
             rcases bif_some hm with ⟨h88, hm⟩ | ⟨h88, hm⟩
             ·
              refine knownd [65, 64] h88 (by kernel_rfl) (shd 2 [(67, aI y83), (66, aR 0 1 g8)] (by kernel_rfl) ?_)
              obtain ⟨x89, h90, hm⟩ := bs hm
              refine dvd 68 (v := .eptr 0 0 g8 1 (0 + Int.toNat y83) 0) (ia_refO y7 .i64 (n := g8) (id := 0) (esz := 1) t25 t22 h90 (by omega) rfl (by kernel_rfl)) (by kernel_rfl) (dvd 69 (v := .pv (encSl R_api_Value x89)) (ld_eptrO (rSl R_api_Value) y7 (n := g8) (esz := 1) (j := y83) (off := 0) (id := 0) t22 rfl h90 (by omega) (by omega) (by kernel_rfl) (by kernel_rfl)) (by kernel_rfl) (shd 2 [(71, aI y83), (70, .pv (encSl (rSl R_api_Value) a0))] (by kernel_rfl) ?_))
              obtain ⟨x91, h92, hm⟩ := bs hm
              refine dvd 72 (v := .pv (.ptr ((rSl R_api_Value) x91) 0)) (ia_slO (rSl R_api_Value) a0 .i64 t25 t22 h92 rfl (by kernel_rfl)) (by kernel_rfl) (shd 1 [(73, .pv (encSl R_api_Value x91))] (by kernel_rfl) ?_)
              obtain ⟨x93, h94, hm⟩ := bs hm
              refine dvd 74 (cpure (by kernel_rfl) (ok_row_Cmp h94) (by kernel_rfl) (by kernel_rfl) (by kernel_rfl)) (by kernel_rfl) (shd 2 [(76, aB (x93 != 0)), (75, aB (x93 != 0))] (by kernel_rfl) (find [(0, .pv (encSl (rSl R_api_Value) a0)), (1, .pv (encSl R_api_Key a1)), (5, aR 0 1 g8), (6, aR 1 1 g52), (58, aI (y7.length : Int)), (59, aI y83), (76, aB (x93 != 0))] rfl (by kernel_rfl) (by kernel_rfl) ?_))
              rcases bif_some hm with ⟨h95, hm⟩ | ⟨h95, hm⟩
              ·
               refine ct h95 (by kernel_rfl) (sq (detn [(4, aB false)] (by kernel_rfl) (wp_ret ?_)))
               obtain rfl := Option.some.inj hm
               exact ⟨trivial, by kernel_rfl⟩
              ·
               refine cf h95 (by kernel_rfl) (wp_skip (detn [(0, .pv (encSl (rSl R_api_Value) a0)), (1, .pv (encSl R_api_Key a1)), (5, aR 0 1 g8), (6, aR 1 1 g52), (58, aI (y7.length : Int)), (59, aI (IntKind.wrap .i64 (y83 + 1)))] (by kernel_rfl) ?_))
               exact ⟨_, _, tidyL [(0, .pv (encSl (rSl R_api_Value) a0)), (1, .pv (encSl R_api_Key a1)), (5, aR 0 1 g8), (6, aR 1 1 g52), (58, aI (y7.length : Int)), (59, aI (IntKind.wrap .i64 (y83 + 1)))] [bR 22 1 (rSl R_api_Value) y7 g10 (max 0 (y7.map (rSl R_api_Value)).length), bR 22 1 (rSl R_api_Value) y51 g54 0] (by kernel_rfl), ⟨(IntKind.wrap .i64 (y83 + 1)), hm, rfl, rfl⟩⟩
             ·
              refine knownd [65, 64] h88 (by kernel_rfl) (shd 11 [(76, aB false), (75, .undef), (74, .undef), (73, .undef), (72, .undef), (71, .undef), (70, .undef), (69, .undef), (68, .undef), (67, .undef), (66, .undef)] (by kernel_rfl) (find [(0, .pv (encSl (rSl R_api_Value) a0)), (1, .pv (encSl R_api_Key a1)), (5, aR 0 1 g8), (6, aR 1 1 g52), (58, aI (y7.length : Int)), (59, aI y83), (76, aB false)] rfl (by kernel_rfl) (by kernel_rfl) (cF (by kernel_rfl) (wp_skip (detn [(0, .pv (encSl (rSl R_api_Value) a0)), (1, .pv (encSl R_api_Key a1)), (5, aR 0 1 g8), (6, aR 1 1 g52), (58, aI (y7.length : Int)), (59, aI (IntKind.wrap .i64 (y83 + 1)))] (by kernel_rfl) ?_)))))
              exact ⟨_, _, tidyL [(0, .pv (encSl (rSl R_api_Value) a0)), (1, .pv (encSl R_api_Key a1)), (5, aR 0 1 g8), (6, aR 1 1 g52), (58, aI (y7.length : Int)), (59, aI (IntKind.wrap .i64 (y83 + 1)))] [bR 22 1 (rSl R_api_Value) y7 g10 (max 0 (y7.map (rSl R_api_Value)).length), bR 22 1 (rSl R_api_Value) y51 g54 0] (by kernel_rfl), ⟨(IntKind.wrap .i64 (y83 + 1)), hm, rfl, rfl⟩⟩
            ·
             refine cf h85 (by kernel_rfl) (wp_exit ?_)
             exact ⟨y83, (decide (y83 < (y7.length : Int))), hm, rfl, rfl⟩
           refine sq (rg (sh 1 [(41, aR 1 1 g52)] (by kernel_rfl) (dv 42 (v := aI (y51.length : Int)) (len_refO y51 (n := g52) (id := 1) (esz := 1) t25 (by omega) (by kernel_rfl)) (by kernel_rfl) (sh 1 [(43, aI 0)] (by kernel_rfl) (fin [(0, .pv (encSl (rSl R_api_Value) a0)), (1, .pv (encSl R_api_Key a1)), (5, aR 0 1 g8), (6, aR 1 1 g52), (42, aI (y51.length : Int)), (43, aI 0)] rfl (by kernel_rfl) (bq ?_))))))
           refine loopF (fun mm t H => (∃ (y97 : Int), law05_RowSorted_l10xxx n y7 y51 k78 mm y97 = some r ∧ t = mk 83 [(0, .pv (encSl (rSl R_api_Value) a0)), (1, .pv (encSl R_api_Key a1)), (5, aR 0 1 g8), (6, aR 1 1 g52), (42, aI (y51.length : Int)), (43, aI y97)] ∧ H = [bR 22 1 (rSl R_api_Value) y7 g10 (max 0 (y7.map (rSl R_api_Value)).length), bR 22 1 (rSl R_api_Value) y51 g54 0])) (⟨0, hm, rfl, rfl⟩) ?_ ?_
           · rintro _ _ ⟨y97, hm, _⟩; exact nomatch hm
           rintro m98 _ _ ⟨y97, hm, rfl, rfl⟩
           simp only [law05_RowSorted_l10xxx] at hm
           refine sq (detn [(0, .pv (encSl (rSl R_api_Value) a0)), (1, .pv (encSl R_api_Key a1)), (5, aR 0 1 g8), (6, aR 1 1 g52), (42, aI (y51.length : Int)), (43, aI y97), (44, aB (decide (y97 < (y51.length : Int))))] (by kernel_rfl) ?_)
           refine sq ?_
           rcases bif_some hm with ⟨h99, hm⟩ | ⟨h99, hm⟩
           ·
            refine ct h99 (by kernel_rfl) (wp_skip (sq (bq (sq (detn [(0, .pv (encSl (rSl R_api_Value) a0)), (1, .pv (encSl R_api_Key a1)), (5, aR 0 1 g8), (6, aR 1 1 g52), (7, aI y97), (42, aI (y51.length : Int)), (43, aI y97)] (by kernel_rfl) (sq (rgd (shd 2 [(47, aI y97), (46, aR 1 1 g52)] (by kernel_rfl) ?_))))))))
            obtain ⟨x100, h101, hm⟩ := bs hm
            refine dvd 48 (v := .eptr 1 0 g52 1 (0 + Int.toNat y97) 0) (ia_refO y51 .i64 (n := g52) (id := 1) (esz := 1) t25 t22 h101 (by omega) rfl (by kernel_rfl)) (by kernel_rfl) (dvd 49 (v := .pv (encSl R_api_Value x100)) (ld_eptrO (rSl R_api_Value) y51 (n := g52) (esz := 1) (j := y97) (off := 0) (id := 1) t22 rfl h101 (by omega) (by omega) (by kernel_rfl) (by kernel_rfl)) (by kernel_rfl) (shd 2 [(51, aI y97), (50, aR 0 1 g8)] (by kernel_rfl) ?_))
            obtain ⟨x102, h103, hm⟩ := bs hm
            refine dvd 52 (v := .eptr 0 0 g8 1 (0 + Int.toNat y97) 0) (ia_refO y7 .i64 (n := g8) (id := 0) (esz := 1) t25 t22 h103 (by omega) rfl (by kernel_rfl)) (by kernel_rfl) (dvd 53 (v := .pv (encSl R_api_Value x102)) (ld_eptrO (rSl R_api_Value) y7 (n := g8) (esz := 1) (j := y97) (off := 0) (id := 0) t22 rfl h103 (by omega) (by omega) (by kernel_rfl) (by kernel_rfl)) (by kernel_rfl) ?_)
            obtain ⟨x104, h105, hm⟩ := bs hm
            refine dvd 54 (cpure (by kernel_rfl) (ok_row_Cmp h105) (by kernel_rfl) (by kernel_rfl) (by kernel_rfl)) (by kernel_rfl) (shd 1 [(55, aB (x104 != 0))] (by kernel_rfl) (find [(0, .pv (encSl (rSl R_api_Value) a0)), (1, .pv (encSl R_api_Key a1)), (5, aR 0 1 g8), (6, aR 1 1 g52), (42, aI (y51.length : Int)), (43, aI y97), (55, aB (x104 != 0))] rfl (by kernel_rfl) (by kernel_rfl) ?_))
            rcases bif_some hm with ⟨h106, hm⟩ | ⟨h106, hm⟩
            ·
             refine ct h106 (by kernel_rfl) (sq (detn [(4, aB false)] (by kernel_rfl) (wp_ret ?_)))
             obtain rfl := Option.some.inj hm
             exact ⟨trivial, by kernel_rfl⟩
            ·
             refine cf h106 (by kernel_rfl) (wp_skip (detn [(0, .pv (encSl (rSl R_api_Value) a0)), (1, .pv (encSl R_api_Key a1)), (5, aR 0 1 g8), (6, aR 1 1 g52), (42, aI (y51.length : Int)), (43, aI (IntKind.wrap .i64 (y97 + 1)))] (by kernel_rfl) ?_))
             exact ⟨_, _, tidyL [(0, .pv (encSl (rSl R_api_Value) a0)), (1, .pv (encSl R_api_Key a1)), (5, aR 0 1 g8), (6, aR 1 1 g52), (42, aI (y51.length : Int)), (43, aI (IntKind.wrap .i64 (y97 + 1)))] [bR 22 1 (rSl R_api_Value) y7 g10 (max 0 (y7.map (rSl R_api_Value)).length), bR 22 1 (rSl R_api_Value) y51 g54 0] (by kernel_rfl), ⟨(IntKind.wrap .i64 (y97 + 1)), hm, rfl, rfl⟩⟩
           ·
            refine cf h99 (by kernel_rfl) (wp_exit ?_)
            exact ⟨y97, (decide (y97 < (y51.length : Int))), hm, rfl, rfl⟩
         refine rg (sh 2 [(39, .pv (encSl R_api_Key a1)), (38, aR 0 1 g8)] (by kernel_rfl) ?_)
         obtain ⟨x109, h107, hm⟩ := bs hm
         rcases x109 with _ | x108
         ·
          obtain ⟨vv, H1, hC, rfl, rfl⟩ := ok_row_Sort h107
          refine dO [(40, .pv .nils)] [bR 22 1 (rSl R_api_Value) y7 g10 (max 0 (y7.map (rSl R_api_Value)).length)] (cownO [0] [aR 0 1 g8, .pv (encSl R_api_Key a1)] (v' := .pv .nils) (bs' := []) (by kernel_rfl) (by kernel_rfl) (pAs_cons (pA_ref (pur_ref' (n := g8) (id := 0) (l := y7) (R := (rSl R_api_Value)) rfl (by omega) (by omega))) (pAs_cons (pA_pv) (rfl))) hC (by kernel_rfl) (by kernel_rfl) (by kernel_rfl)) (by kernel_rfl) (sh 1 [(6, .pv .nils)] (by kernel_rfl) (fin [(0, .pv (encSl (rSl R_api_Value) a0)), (1, .pv (encSl R_api_Key a1)), (5, aR 0 1 g8), (6, .pv .nils)] rfl (by kernel_rfl) ?_))
          exact .inl ⟨hm, rfl, rfl⟩
         ·
          obtain ⟨vv, H1, hC, g110, g111, q112, q113, rfl, rfl⟩ := ok_row_Sort h107
          refine dO [(40, aR 1 1 g110)] [bR 22 1 (rSl R_api_Value) y7 g10 (max 0 (y7.map (rSl R_api_Value)).length), bR 22 1 (rSl R_api_Value) x108 g111 0] (cownO [0] [aR 0 1 g8, .pv (encSl R_api_Key a1)] (v' := aR 1 1 g110) (bs' := [bR 22 1 (rSl R_api_Value) x108 g111 0]) (by kernel_rfl) (by kernel_rfl) (pAs_cons (pA_ref (pur_ref' (n := g8) (id := 0) (l := y7) (R := (rSl R_api_Value)) rfl (by omega) (by omega))) (pAs_cons (pA_pv) (rfl))) hC (by kernel_rfl) (by kernel_rfl) (by kernel_rfl)) (by kernel_rfl) (sh 1 [(6, aR 1 1 g110)] (by kernel_rfl) (fin [(0, .pv (encSl (rSl R_api_Value) a0)), (1, .pv (encSl R_api_Key a1)), (5, aR 0 1 g8), (6, aR 1 1 g110)] rfl (by kernel_rfl) ?_))
          exact .inr (⟨x108, g110, g111, hm, rfl, rfl, (by first | rfl | assumption | omega | (simp only [List.length_set, List.length_append, List.length_cons, List.length_nil, List.length_replicate, List.length_drop] at * <;> omega)), (by first | exact Nat.zero_le _ | exact Nat.le_refl _ | assumption | omega | (simp only [List.length_set, List.length_append, List.length_cons, List.length_nil, List.length_replicate, List.length_drop] at * <;> omega))⟩)
    refine rg (sh 2 [(19, .pv (encSl R_api_Key a1)), (18, .pv (encSl (rSl R_api_Value) a0))] (by kernel_rfl) ?_)
    obtain ⟨x116, h114, hm⟩ := bs hm
    rcases x116 with _ | x115
    ·
     obtain ⟨vv, H1, hC, rfl, rfl⟩ := ok_row_Sort h114
     refine dO [(20, .pv .nils)] [] (cownO [] [.pv (encSl (rSl R_api_Value) a0), .pv (encSl R_api_Key a1)] (v' := .pv .nils) (bs' := []) (by kernel_rfl) (by kernel_rfl) (by kernel_rfl) hC (by kernel_rfl) (by kernel_rfl) (by kernel_rfl)) (by kernel_rfl) (sh 1 [(5, .pv .nils)] (by kernel_rfl) (fin [(0, .pv (encSl (rSl R_api_Value) a0)), (1, .pv (encSl R_api_Key a1)), (5, .pv .nils)] rfl (by kernel_rfl) ?_))
     exact .inl ⟨hm, rfl, rfl⟩
    ·
     obtain ⟨vv, H1, hC, g117, g118, q119, q120, rfl, rfl⟩ := ok_row_Sort h114
     refine dO [(20, aR 0 1 g117)] [bR 22 1 (rSl R_api_Value) x115 g118 0] (cownO [] [.pv (encSl (rSl R_api_Value) a0), .pv (encSl R_api_Key a1)] (v' := aR 0 1 g117) (bs' := [bR 22 1 (rSl R_api_Value) x115 g118 0]) (by kernel_rfl) (by kernel_rfl) (by kernel_rfl) hC (by kernel_rfl) (by kernel_rfl) (by kernel_rfl)) (by kernel_rfl) (sh 1 [(5, aR 0 1 g117)] (by kernel_rfl) (fin [(0, .pv (encSl (rSl R_api_Value) a0)), (1, .pv (encSl R_api_Key a1)), (5, aR 0 1 g117)] rfl (by kernel_rfl) ?_))
     exact .inr (⟨x115, g117, g118, hm, rfl, rfl, (by first | rfl | assumption | omega | (simp only [List.length_set, List.length_append, List.length_cons, List.length_nil, List.length_replicate, List.length_drop] at * <;> omega)), (by first | exact Nat.zero_le _ | exact Nat.le_refl _ | assumption | omega | (simp only [List.length_set, List.length_append, List.length_cons, List.length_nil, List.length_replicate, List.length_drop] at * <;> omega))⟩)
end Go.Ab.S1
