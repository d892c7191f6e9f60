import Derived.Test.YtjbhpopccbhhlaaWB1
namespace Go.Ab.S1
open Go Go.Ab Go.Pl
open Go.Proofs.Try
set_option linter.unusedVariables false
set_option linter.unusedSimpArgs false
set_option maxRecDepth 100000
theorem ok_slices_breakPatternsCmpFunc_Value_value_Cmp_r (m0 : Nat) (f0 : Nat) {n : Nat} {a0 : (List api_Value)} {a1 : Int} {a2 : Int} {r : (List api_Value)} (hm0 : a0.length = m0) (hf0 : f0 ≤ a0.length) (hm : slices_breakPatternsCmpFunc_Value_value_Cmp_r n a0 a1 a2 = some r) :
    ∃ vv H1, call G n 126 [aR 0 4 m0, aI a1, aI a2, .pv (.fn 41 [] [])] [bR 64 4 R_api_Value a0 f0 0] = some (.ret vv, H1) ∧ (match r with | r0 => (∃ (e1 : Nat), r0.length = m0 ∧ e1 ≤ r0.length ∧ vv = .tup [] ∧ H1 = [bR 64 4 R_api_Value r0 e1 0])) := by
  unfold slices_breakPatternsCmpFunc_Value_value_Cmp_r at hm
  obtain ⟨n, rfl, h0⟩ := at1_some hm
  replace hm := h0; clear h0
  refine callE 67 [(0, aR 0 4 m0), (1, aI a1), (2, aI a2), (3, .pv (.fn 41 [] []))] func126 rfl (by kernel_rfl) (sq (detn [(0, aR 0 4 m0), (1, aI a1), (8, aI (IntKind.wrap .i64 (a2 - a1)))] (by kernel_rfl) (sq (detn [(0, aR 0 4 m0), (1, aI a1), (8, aI (IntKind.wrap .i64 (a2 - a1))), (17, aB (decide ((IntKind.wrap .i64 (a2 - a1)) ≥ 8)))] (by kernel_rfl) ?_))))
  rcases bif_some hm with ⟨h1, hm⟩ | ⟨h1, hm⟩
  ·
   refine ct h1 (by kernel_rfl) (sq (det [(0, aR 0 4 m0), (1, aI a1), (8, aI (IntKind.wrap .i64 (a2 - a1))), (9, .ptr 1 0)] [bR 64 4 R_api_Value a0 f0 0, .box [aU (IntKind.wrap .u64 (IntKind.wrap .i64 (a2 - a1)))] false] (by kernel_rfl) (sq (rg (sh 1 [(20, aI (IntKind.wrap .i64 (a2 - a1)))] (by kernel_rfl) ?_)))))
   obtain ⟨x2, h3, hm⟩ := bs hm
   refine dv 21 (cpure (by kernel_rfl) (ok_slices_nextPowerOfTwo h3) (by kernel_rfl) (by kernel_rfl) (by kernel_rfl)) (by kernel_rfl) (sh 1 [(10, aU x2)] (by kernel_rfl) (fin [(0, aR 0 4 m0), (1, aI a1), (8, aI (IntKind.wrap .i64 (a2 - a1))), (9, .ptr 1 0), (10, aU x2)] rfl (by kernel_rfl) (sq (detn [(0, aR 0 4 m0), (1, aI a1), (8, aI (IntKind.wrap .i64 (a2 - a1))), (9, .ptr 1 0), (10, aU x2), (11, aI (IntKind.wrap .i64 ((IntKind.wrap .i64 (a1 + (IntKind.wrap .i64 ((IntKind.wrap .i64 (Int.tdiv (IntKind.wrap .i64 (a2 - a1)) 4)) * 2)))) - 1)))] (by kernel_rfl) (bq ?_)))))
   refine loopF (fun mm t H => (∃ (y10 : (List api_Value)) (y11 : Int) (y12 : Int) (g14 : Nat), slices_breakPatternsCmpFunc_Value_value_Cmp_r_l5 n a1 a2 x2 mm y10 y11 y12 = some r ∧ t = mk 67 [(0, aR 0 4 m0), (1, aI a1), (8, aI (IntKind.wrap .i64 (a2 - a1))), (9, .ptr 1 0), (10, aU x2), (11, aI y12)] ∧ H = [bR 64 4 R_api_Value y10 g14 0, .box [aU y11] false] ∧ y10.length = m0 ∧ g14 ≤ y10.length)) (⟨a0, (IntKind.wrap .u64 (IntKind.wrap .i64 (a2 - a1))), (IntKind.wrap .i64 ((IntKind.wrap .i64 (a1 + (IntKind.wrap .i64 ((IntKind.wrap .i64 (Int.tdiv (IntKind.wrap .i64 (a2 - a1)) 4)) * 2)))) - 1)), f0, hm, rfl, rfl, (by first | rfl | assumption | omega | (simp only [List.length_set, List.length_append, List.length_cons, List.length_nil, List.length_replicate, List.length_drop] at * <;> omega)), (by first | exact Nat.zero_le _ | exact Nat.le_refl _ | assumption | omega | (simp only [List.length_set, List.length_append, List.length_cons, List.length_nil, List.length_replicate, List.length_drop] at * <;> omega))⟩) ?_ ?_
   · rintro _ _ ⟨y10, y11, y12, g14, hm, _⟩; exact nomatch hm
   rintro m16 _ _ ⟨y10, y11, y12, g14, hm, rfl, rfl, q13, q15⟩
   simp only [slices_breakPatternsCmpFunc_Value_value_Cmp_r_l5] at hm
   refine sq (sq (detn [(0, aR 0 4 m0), (1, aI a1), (8, aI (IntKind.wrap .i64 (a2 - a1))), (9, .ptr 1 0), (10, aU x2), (11, aI y12), (35, aB (decide (y12 ≤ (IntKind.wrap .i64 ((IntKind.wrap .i64 (a1 + (IntKind.wrap .i64 ((IntKind.wrap .i64 (Int.tdiv (IntKind.wrap .i64 (a2 - a1)) 4)) * 2)))) + 1)))))] (by kernel_rfl) ?_))
   rcases bif_some hm with ⟨h17, hm⟩ | ⟨h17, hm⟩
   ·
    refine ct h17 (by kernel_rfl) (wp_skip (sq (bq (sq (rg ?_)))))
    obtain ⟨_, h18, hm⟩ := bs hm
    obtain ⟨vv, H1, hC, rfl, rfl⟩ := ok_slices_xorshift_Next h18
    refine dR [(38, aU (iXor .u64 (iXor .u64 (iXor .u64 y11 (iShl .u64 y11 13)) (iShr .u64 (iXor .u64 y11 (iShl .u64 y11 13)) 7)) (iShl .u64 (iXor .u64 (iXor .u64 y11 (iShl .u64 y11 13)) (iShr .u64 (iXor .u64 y11 (iShl .u64 y11 13)) 7)) 17)))] [bR 64 4 R_api_Value y10 g14 0, .box [aU (iXor .u64 (iXor .u64 (iXor .u64 y11 (iShl .u64 y11 13)) (iShr .u64 (iXor .u64 y11 (iShl .u64 y11 13)) 7)) (iShl .u64 (iXor .u64 (iXor .u64 y11 (iShl .u64 y11 13)) (iShr .u64 (iXor .u64 y11 (iShl .u64 y11 13)) 7)) 17))] false] [1] [.ptr 1 0] (by kernel_rfl) (by kernel_rfl) (by kernel_rfl) hC (by kernel_rfl) (sh 5 [(12, aI (IntKind.wrap .i64 (iAnd .u64 (iXor .u64 (iXor .u64 (iXor .u64 y11 (iShl .u64 y11 13)) (iShr .u64 (iXor .u64 y11 (iShl .u64 y11 13)) 7)) (iShl .u64 (iXor .u64 (iXor .u64 y11 (iShl .u64 y11 13)) (iShr .u64 (iXor .u64 y11 (iShl .u64 y11 13)) 7)) 17)) (IntKind.wrap .u64 (x2 - 1))))), (42, aI (IntKind.wrap .i64 (iAnd .u64 (iXor .u64 (iXor .u64 (iXor .u64 y11 (iShl .u64 y11 13)) (iShr .u64 (iXor .u64 y11 (iShl .u64 y11 13)) 7)) (iShl .u64 (iXor .u64 (iXor .u64 y11 (iShl .u64 y11 13)) (iShr .u64 (iXor .u64 y11 (iShl .u64 y11 13)) 7)) 17)) (IntKind.wrap .u64 (x2 - 1))))), (41, aU (iAnd .u64 (iXor .u64 (iXor .u64 (iXor .u64 y11 (iShl .u64 y11 13)) (iShr .u64 (iXor .u64 y11 (iShl .u64 y11 13)) 7)) (iShl .u64 (iXor .u64 (iXor .u64 y11 (iShl .u64 y11 13)) (iShr .u64 (iXor .u64 y11 (iShl .u64 y11 13)) 7)) 17)) (IntKind.wrap .u64 (x2 - 1)))), (40, aU (IntKind.wrap .u64 (x2 - 1))), (39, aU x2)] (by kernel_rfl) (fin [(0, aR 0 4 m0), (1, aI a1), (8, aI (IntKind.wrap .i64 (a2 - a1))), (9, .ptr 1 0), (10, aU x2), (11, aI y12), (12, aI (IntKind.wrap .i64 (iAnd .u64 (iXor .u64 (iXor .u64 (iXor .u64 y11 (iShl .u64 y11 13)) (iShr .u64 (iXor .u64 y11 (iShl .u64 y11 13)) 7)) (iShl .u64 (iXor .u64 (iXor .u64 y11 (iShl .u64 y11 13)) (iShr .u64 (iXor .u64 y11 (iShl .u64 y11 13)) 7)) 17)) (IntKind.wrap .u64 (x2 - 1)))))] rfl (by kernel_rfl) ?_))
    obtain ⟨k21, hk21, hm⟩ := withK_some hm
    refine mid (fun t H => (∃ (y20 : Int) (w19 : AV), k21 y20 = some r ∧ t = mk 67 [(0, aR 0 4 m0), (1, aI a1), (8, aI (IntKind.wrap .i64 (a2 - a1))), (9, .ptr 1 0), (10, aU x2), (11, aI y12), (12, aI y20), (45, w19)] ∧ H = [bR 64 4 R_api_Value y10 g14 0, .box [aU (iXor .u64 (iXor .u64 (iXor .u64 y11 (iShl .u64 y11 13)) (iShr .u64 (iXor .u64 y11 (iShl .u64 y11 13)) 7)) (iShl .u64 (iXor .u64 (iXor .u64 y11 (iShl .u64 y11 13)) (iShr .u64 (iXor .u64 y11 (iShl .u64 y11 13)) 7)) 17))] false])) ?_ ?_
    ·
     rintro _ _ ⟨y20, w19, hm, rfl, rfl⟩
     subst hk21
     refine rgd (shd 10 [(58, aI (IntKind.wrap .i64 (a1 + y20))), (57, aI y20), (56, aI a1), (55, aR 0 4 m0), (54, aI (IntKind.wrap .i64 (a1 + y20))), (53, aI y20), (52, aI a1), (51, aR 0 4 m0), (50, aI y12), (49, aR 0 4 m0)] (by kernel_rfl) ?_)
     obtain ⟨x22, h23, hm⟩ := bs hm
     refine dvd 59 (v := .eptr 0 0 m0 4 (0 + Int.toNat (IntKind.wrap .i64 (a1 + y20))) 0) (ia_refO y10 .i64 (n := m0) (id := 0) (esz := 4) t52 t64 h23 (by omega) rfl (by kernel_rfl)) (by kernel_rfl) (dvd 60 (v := .agg [aI x22.fKind, aI x22.fInt, aF x22.fFloat, aS x22.fText]) (ld_eptrO R_api_Value y10 (n := m0) (esz := 4) (j := (IntKind.wrap .i64 (a1 + y20))) (off := 0) (id := 0) t64 rfl h23 (by omega) (by omega) (by kernel_rfl) (by kernel_rfl)) (by kernel_rfl) (shd 2 [(62, aI y12), (61, aR 0 4 m0)] (by kernel_rfl) ?_))
     obtain ⟨x24, h25, hm⟩ := bs hm
     refine dvd 63 (v := .eptr 0 0 m0 4 (0 + Int.toNat y12) 0) (ia_refO y10 .i64 (n := m0) (id := 0) (esz := 4) t52 t64 h25 (by omega) rfl (by kernel_rfl)) (by kernel_rfl) (dvd 64 (v := .agg [aI x24.fKind, aI x24.fInt, aF x24.fFloat, aS x24.fText]) (ld_eptrO R_api_Value y10 (n := m0) (esz := 4) (j := y12) (off := 0) (id := 0) t64 rfl h25 (by omega) (by omega) (by kernel_rfl) (by kernel_rfl)) (by kernel_rfl) (dvd 65 (v := .eptr 0 0 m0 4 (0 + Int.toNat y12) 0) (ia_refO y10 .i64 (n := m0) (id := 0) (esz := 4) t52 t64 h25 (by omega) rfl (by kernel_rfl)) (by kernel_rfl) (dOd [] [bR 64 4 R_api_Value (y10.set (Int.toNat y12) x22) m0 0, .box [aU (iXor .u64 (iXor .u64 (iXor .u64 y11 (iShl .u64 y11 13)) (iShr .u64 (iXor .u64 y11 (iShl .u64 y11 13)) 7)) (iShl .u64 (iXor .u64 (iXor .u64 y11 (iShl .u64 y11 13)) (iShr .u64 (iXor .u64 y11 (iShl .u64 y11 13)) 7)) 17))] false] (st_eptrO R_api_Value y10 x22 (n := m0) (esz := 4) (v := .agg [aI x22.fKind, aI x22.fInt, aF x22.fFloat, aS x22.fText]) (j := y12) (off := 0) (id := 0) t64 rfl h25 (by omega) (by omega) rfl rfl rfl rfl (by kernel_rfl)) (by kernel_rfl) ?_)))
     obtain ⟨x26, h27, hm⟩ := bs hm
     refine dvd 66 (v := .eptr 0 0 m0 4 (0 + Int.toNat (IntKind.wrap .i64 (a1 + y20))) 0) (ia_refO (y10.set (Int.toNat y12) x22) .i64 (n := m0) (id := 0) (esz := 4) t52 t64 h27 (by first | rfl | assumption | omega | (simp only [List.length_set, List.length_append, List.length_cons, List.length_nil, List.length_replicate, List.length_drop] at * <;> omega)) rfl (by kernel_rfl)) (by kernel_rfl) (dOd [] [bR 64 4 R_api_Value ((y10.set (Int.toNat y12) x22).set (Int.toNat (IntKind.wrap .i64 (a1 + y20))) x24) m0 0, .box [aU (iXor .u64 (iXor .u64 (iXor .u64 y11 (iShl .u64 y11 13)) (iShr .u64 (iXor .u64 y11 (iShl .u64 y11 13)) 7)) (iShl .u64 (iXor .u64 (iXor .u64 y11 (iShl .u64 y11 13)) (iShr .u64 (iXor .u64 y11 (iShl .u64 y11 13)) 7)) 17))] false] (st_eptrO R_api_Value (y10.set (Int.toNat y12) x22) x24 (n := m0) (esz := 4) (v := .agg [aI x24.fKind, aI x24.fInt, aF x24.fFloat, aS x24.fText]) (j := (IntKind.wrap .i64 (a1 + y20))) (off := 0) (id := 0) t64 rfl h27 (by first | rfl | assumption | omega | (simp only [List.length_set, List.length_append, List.length_cons, List.length_nil, List.length_replicate, List.length_drop] at * <;> omega)) (by first | exact Nat.zero_le _ | exact Nat.le_refl _ | assumption | omega | (simp only [List.length_set, List.length_append, List.length_cons, List.length_nil, List.length_replicate, List.length_drop] at * <;> omega)) rfl rfl rfl rfl (by kernel_rfl)) (by kernel_rfl) (find [(0, aR 0 4 m0), (1, aI a1), (8, aI (IntKind.wrap .i64 (a2 - a1))), (9, .ptr 1 0), (10, aU x2), (11, aI y12)] rfl (by kernel_rfl) (by kernel_rfl) (detn [(0, aR 0 4 m0), (1, aI a1), (8, aI (IntKind.wrap .i64 (a2 - a1))), (9, .ptr 1 0), (10, aU x2), (11, aI (IntKind.wrap .i64 (y12 + 1)))] (by kernel_rfl) ?_)))
     exact ⟨_, _, tidyL [(0, aR 0 4 m0), (1, aI a1), (8, aI (IntKind.wrap .i64 (a2 - a1))), (9, .ptr 1 0), (10, aU x2), (11, aI (IntKind.wrap .i64 (y12 + 1)))] [bR 64 4 R_api_Value ((y10.set (Int.toNat y12) x22).set (Int.toNat (IntKind.wrap .i64 (a1 + y20))) x24) m0 0, .box [aU (iXor .u64 (iXor .u64 (iXor .u64 y11 (iShl .u64 y11 13)) (iShr .u64 (iXor .u64 y11 (iShl .u64 y11 13)) 7)) (iShl .u64 (iXor .u64 (iXor .u64 y11 (iShl .u64 y11 13)) (iShr .u64 (iXor .u64 y11 (iShl .u64 y11 13)) 7)) 17))] false] (by kernel_rfl), ⟨((y10.set (Int.toNat y12) x22).set (Int.toNat (IntKind.wrap .i64 (a1 + y20))) x24), (iXor .u64 (iXor .u64 (iXor .u64 y11 (iShl .u64 y11 13)) (iShr .u64 (iXor .u64 y11 (iShl .u64 y11 13)) 7)) (iShl .u64 (iXor .u64 (iXor .u64 y11 (iShl .u64 y11 13)) (iShr .u64 (iXor .u64 y11 (iShl .u64 y11 13)) 7)) 17)), (IntKind.wrap .i64 (y12 + 1)), m0, hm, rfl, rfl, (by first | rfl | assumption | omega | (simp only [List.length_set, List.length_append, List.length_cons, List.length_nil, List.length_replicate, List.length_drop] at * <;> omega)), (by first | exact Nat.zero_le _ | exact Nat.le_refl _ | assumption | omega | (simp only [List.length_set, List.length_append, List.length_cons, List.length_nil, List.length_replicate, List.length_drop] at * <;> omega))⟩⟩
    refine sq (detn [(0, aR 0 4 m0), (1, aI a1), (8, aI (IntKind.wrap .i64 (a2 - a1))), (9, .ptr 1 0), (10, aU x2), (11, aI y12), (12, aI (IntKind.wrap .i64 (iAnd .u64 (iXor .u64 (iXor .u64 (iXor .u64 y11 (iShl .u64 y11 13)) (iShr .u64 (iXor .u64 y11 (iShl .u64 y11 13)) 7)) (iShl .u64 (iXor .u64 (iXor .u64 y11 (iShl .u64 y11 13)) (iShr .u64 (iXor .u64 y11 (iShl .u64 y11 13)) 7)) 17)) (IntKind.wrap .u64 (x2 - 1))))), (45, aB (decide ((IntKind.wrap .i64 (iAnd .u64 (iXor .u64 (iXor .u64 (iXor .u64 y11 (iShl .u64 y11 13)) (iShr .u64 (iXor .u64 y11 (iShl .u64 y11 13)) 7)) (iShl .u64 (iXor .u64 (iXor .u64 y11 (iShl .u64 y11 13)) (iShr .u64 (iXor .u64 y11 (iShl .u64 y11 13)) 7)) 17)) (IntKind.wrap .u64 (x2 - 1)))) ≥ (IntKind.wrap .i64 (a2 - a1)))))] (by kernel_rfl) ?_)
    rcases bif_some hm with ⟨h28, hm⟩ | ⟨h28, hm⟩
    ·
     refine ct h28 (by kernel_rfl) (detn [(0, aR 0 4 m0), (1, aI a1), (8, aI (IntKind.wrap .i64 (a2 - a1))), (9, .ptr 1 0), (10, aU x2), (11, aI y12), (12, aI (IntKind.wrap .i64 ((IntKind.wrap .i64 (iAnd .u64 (iXor .u64 (iXor .u64 (iXor .u64 y11 (iShl .u64 y11 13)) (iShr .u64 (iXor .u64 y11 (iShl .u64 y11 13)) 7)) (iShl .u64 (iXor .u64 (iXor .u64 y11 (iShl .u64 y11 13)) (iShr .u64 (iXor .u64 y11 (iShl .u64 y11 13)) 7)) 17)) (IntKind.wrap .u64 (x2 - 1)))) - (IntKind.wrap .i64 (a2 - a1)))))] (by kernel_rfl) ?_)
     exact ⟨(IntKind.wrap .i64 ((IntKind.wrap .i64 (iAnd .u64 (iXor .u64 (iXor .u64 (iXor .u64 y11 (iShl .u64 y11 13)) (iShr .u64 (iXor .u64 y11 (iShl .u64 y11 13)) 7)) (iShl .u64 (iXor .u64 (iXor .u64 y11 (iShl .u64 y11 13)) (iShr .u64 (iXor .u64 y11 (iShl .u64 y11 13)) 7)) 17)) (IntKind.wrap .u64 (x2 - 1)))) - (IntKind.wrap .i64 (a2 - a1)))), .any, hm, (mk_same (by kernel_rfl)), rfl⟩
    ·
     refine cf h28 (by kernel_rfl) (wp_skip ?_)
     exact ⟨(IntKind.wrap .i64 (iAnd .u64 (iXor .u64 (iXor .u64 (iXor .u64 y11 (iShl .u64 y11 13)) (iShr .u64 (iXor .u64 y11 (iShl .u64 y11 13)) 7)) (iShl .u64 (iXor .u64 (iXor .u64 y11 (iShl .u64 y11 13)) (iShr .u64 (iXor .u64 y11 (iShl .u64 y11 13)) 7)) 17)) (IntKind.wrap .u64 (x2 - 1)))), aB (decide ((IntKind.wrap .i64 (iAnd .u64 (iXor .u64 (iXor .u64 (iXor .u64 y11 (iShl .u64 y11 13)) (iShr .u64 (iXor .u64 y11 (iShl .u64 y11 13)) 7)) (iShl .u64 (iXor .u64 (iXor .u64 y11 (iShl .u64 y11 13)) (iShr .u64 (iXor .u64 y11 (iShl .u64 y11 13)) 7)) 17)) (IntKind.wrap .u64 (x2 - 1)))) ≥ (IntKind.wrap .i64 (a2 - a1)))), hm, (mk_same (by kernel_rfl)), rfl⟩
   ·
    refine cf h17 (by kernel_rfl) (wp_exit ?_)
    obtain rfl := Option.some.inj hm
    exact ⟨trivial, .tup [], [bR 64 4 R_api_Value y10 g14 0], by kernel_rfl, g14, (by first | rfl | assumption | omega | (simp only [List.length_set, List.length_append, List.length_cons, List.length_nil, List.length_replicate, List.length_drop] at * <;> omega)), (by first | exact Nat.zero_le _ | exact Nat.le_refl _ | assumption | omega | (simp only [List.length_set, List.length_append, List.length_cons, List.length_nil, List.length_replicate, List.length_drop] at * <;> omega)), rfl, rfl⟩
  ·
   refine cf h1 (by kernel_rfl) (wp_skip ?_)
   obtain rfl := Option.some.inj hm
   exact ⟨trivial, .tup [], [bR 64 4 R_api_Value a0 f0 0], by kernel_rfl, f0, (by first | rfl | assumption | omega | (simp only [List.length_set, List.length_append, List.length_cons, List.length_nil, List.length_replicate, List.length_drop] at * <;> omega)), (by first | exact Nat.zero_le _ | exact Nat.le_refl _ | assumption | omega | (simp only [List.length_set, List.length_append, List.length_cons, List.length_nil, List.length_replicate, List.length_drop] at * <;> omega)), rfl, rfl⟩
theorem okf_slices_pdqsortCmpFunc_Value_value_Cmp_r {rc_slices_pdqsortCmpFunc_Value_value_Cmp_r : (Nat → (List api_Value) → Int → Int → Int → Option ((List api_Value)))} (ih_slices_pdqsortCmpFunc_Value_value_Cmp_r : ∀ (m0 : Nat) (f0 : Nat) {n : Nat} {a0 : (List api_Value)} {a1 : Int} {a2 : Int} {a3 : Int} {r : (List api_Value)} (hm0 : a0.length = m0) (hf0 : f0 ≤ a0.length) (hm : rc_slices_pdqsortCmpFunc_Value_value_Cmp_r n a0 a1 a2 a3 = some r), ∃ vv H1, call G n 120 [aR 0 4 m0, aI a1, aI a2, aI a3, .pv (.fn 41 [] [])] [bR 64 4 R_api_Value a0 f0 0] = some (.ret vv, H1) ∧ (match r with | r0 => (∃ (e1 : Nat), r0.length = m0 ∧ e1 ≤ r0.length ∧ vv = .tup [] ∧ H1 = [bR 64 4 R_api_Value r0 e1 0]))) (m0 : Nat) (f0 : Nat) {n : Nat} {a0 : (List api_Value)} {a1 : Int} {a2 : Int} {a3 : Int} {r : (List api_Value)} (hm0 : a0.length = m0) (hf0 : f0 ≤ a0.length) (hm : slices_pdqsortCmpFunc_Value_value_Cmp_r_f rc_slices_pdqsortCmpFunc_Value_value_Cmp_r n a0 a1 a2 a3 = some r) :
    ∃ vv H1, call G n 120 [aR 0 4 m0, aI a1, aI a2, aI a3, .pv (.fn 41 [] [])] [bR 64 4 R_api_Value a0 f0 0] = some (.ret vv, H1) ∧ (match r with | r0 => (∃ (e1 : Nat), r0.length = m0 ∧ e1 ≤ r0.length ∧ vv = .tup [] ∧ H1 = [bR 64 4 R_api_Value r0 e1 0])) := by
  unfold slices_pdqsortCmpFunc_Value_value_Cmp_r_f at hm
  obtain ⟨n, rfl, h0⟩ := at1_some hm
  replace hm := h0; clear h0
  refine callE 148 [(0, aR 0 4 m0), (1, aI a1), (2, aI a2), (3, aI a3), (4, .pv (.fn 41 [] []))] func120 rfl (by kernel_rfl) (sq (detn [(0, aR 0 4 m0), (1, aI a1), (2, aI a2), (3, aI a3), (4, .pv (.fn 41 [] [])), (10, aB true)] (by kernel_rfl) (sq (detn [(0, aR 0 4 m0), (1, aI a1), (2, aI a2), (3, aI a3), (4, .pv (.fn 41 [] [])), (10, aB true), (11, aB true)] (by kernel_rfl) (bq ?_)))))
  refine loopF (fun mm t H => (∃ (y18 : (List api_Value)) (y19 : Int) (y20 : Bool) (y21 : Bool) (y22 : Int) (y23 : Int) (g25 : Nat), slices_pdqsortCmpFunc_Value_value_Cmp_r_l2 n rc_slices_pdqsortCmpFunc_Value_value_Cmp_r mm y18 y19 y20 y21 y22 y23 = some r ∧ t = mk 148 [(0, aR 0 4 m0), (1, aI y19), (2, aI y22), (3, aI y23), (4, .pv (.fn 41 [] [])), (10, aB y20), (11, aB y21)] ∧ H = [bR 64 4 R_api_Value y18 g25 0] ∧ y18.length = m0 ∧ g25 ≤ y18.length)) (⟨a0, a1, true, true, a2, a3, f0, hm, rfl, rfl, (by first | rfl | assumption | omega | (simp only [List.length_set, List.length_append, List.length_cons, List.length_nil, List.length_replicate, List.length_drop] at * <;> omega)), (by first | exact Nat.zero_le _ | exact Nat.le_refl _ | assumption | omega | (simp only [List.length_set, List.length_append, List.length_cons, List.length_nil, List.length_replicate, List.length_drop] at * <;> omega))⟩) ?_ ?_
  · rintro _ _ ⟨y18, y19, y20, y21, y22, y23, g25, hm, _⟩; exact nomatch hm
  rintro m27 _ _ ⟨y18, y19, y20, y21, y22, y23, g25, hm, rfl, rfl, q24, q26⟩
  simp only [slices_pdqsortCmpFunc_Value_value_Cmp_r_l2] at hm
  refine bq (sq (detn [(0, aR 0 4 m0), (1, aI y19), (2, aI y22), (3, aI y23), (4, .pv (.fn 41 [] [])), (10, aB y20), (11, aB y21), (12, aI (IntKind.wrap .i64 (y22 - y19)))] (by kernel_rfl) ?_))
  refine sq (sq (detn [(0, aR 0 4 m0), (1, aI y19), (2, aI y22), (3, aI y23), (4, .pv (.fn 41 [] [])), (10, aB y20), (11, aB y21), (12, aI (IntKind.wrap .i64 (y22 - y19))), (25, aB (decide ((IntKind.wrap .i64 (y22 - y19)) ≤ 12)))] (by kernel_rfl) ?_))
  rcases bif_some hm with ⟨h28, hm⟩ | ⟨h28, hm⟩
  ·
   refine ct h28 (by kernel_rfl) (sq (rg (sh 4 [(29, .pv (.fn 41 [] [])), (28, aI y22), (27, aI y19), (26, aR 0 4 m0)] (by kernel_rfl) ?_)))
   obtain ⟨x30, h29, hm⟩ := bs hm
   obtain ⟨vv, H1, hC, g31, q32, q33, rfl, rfl⟩ := ok_slices_insertionSortCmpFunc_Value_value_Cmp_r m0 g25 (by first | rfl | assumption | omega | (simp only [List.length_set, List.length_append, List.length_cons, List.length_nil, List.length_replicate, List.length_drop] at * <;> omega)) (by first | exact Nat.zero_le _ | exact Nat.le_refl _ | assumption | omega | (simp only [List.length_set, List.length_append, List.length_cons, List.length_nil, List.length_replicate, List.length_drop] at * <;> omega)) h29
   refine dR [(30, .tup [])] [bR 64 4 R_api_Value x30 g31 0] [0] [aR 0 4 m0, aI y19, aI y22, .pv (.fn 41 [] [])] (by kernel_rfl) (by kernel_rfl) (by kernel_rfl) hC (by kernel_rfl) (fin [] rfl (by kernel_rfl) (wp_ret ?_))
   obtain rfl := Option.some.inj hm
   exact ⟨trivial, .tup [], [bR 64 4 R_api_Value x30 g31 0], by kernel_rfl, g31, (by first | rfl | assumption | omega | (simp only [List.length_set, List.length_append, List.length_cons, List.length_nil, List.length_replicate, List.length_drop] at * <;> omega)), (by first | exact Nat.zero_le _ | exact Nat.le_refl _ | assumption | omega | (simp only [List.length_set, List.length_append, List.length_cons, List.length_nil, List.length_replicate, List.length_drop] at * <;> omega)), rfl, rfl⟩
  ·
   refine cf h28 (by kernel_rfl) (wp_skip ?_)
   refine sq (sq (detn [(0, aR 0 4 m0), (1, aI y19), (2, aI y22), (3, aI y23), (4, .pv (.fn 41 [] [])), (10, aB y20), (11, aB y21), (12, aI (IntKind.wrap .i64 (y22 - y19))), (32, aB (y23 == 0))] (by kernel_rfl) ?_))
   rcases bif_some hm with ⟨h34, hm⟩ | ⟨h34, hm⟩
   ·
    refine ct h34 (by kernel_rfl) (sq (rg (sh 4 [(36, .pv (.fn 41 [] [])), (35, aI y22), (34, aI y19), (33, aR 0 4 m0)] (by kernel_rfl) ?_)))
    obtain ⟨x36, h35, hm⟩ := bs hm
    obtain ⟨vv, H1, hC, g37, q38, q39, rfl, rfl⟩ := ok_slices_heapSortCmpFunc_Value_value_Cmp_r m0 g25 (by first | rfl | assumption | omega | (simp only [List.length_set, List.length_append, List.length_cons, List.length_nil, List.length_replicate, List.length_drop] at * <;> omega)) (by first | exact Nat.zero_le _ | exact Nat.le_refl _ | assumption | omega | (simp only [List.length_set, List.length_append, List.length_cons, List.length_nil, List.length_replicate, List.length_drop] at * <;> omega)) h35
    refine dR [(37, .tup [])] [bR 64 4 R_api_Value x36 g37 0] [0] [aR 0 4 m0, aI y19, aI y22, .pv (.fn 41 [] [])] (by kernel_rfl) (by kernel_rfl) (by kernel_rfl) hC (by kernel_rfl) (fin [] rfl (by kernel_rfl) (wp_ret ?_))
    obtain rfl := Option.some.inj hm
    exact ⟨trivial, .tup [], [bR 64 4 R_api_Value x36 g37 0], by kernel_rfl, g37, (by first | rfl | assumption | omega | (simp only [List.length_set, List.length_append, List.length_cons, List.length_nil, List.length_replicate, List.length_drop] at * <;> omega)), (by first | exact Nat.zero_le _ | exact Nat.le_refl _ | assumption | omega | (simp only [List.length_set, List.length_append, List.length_cons, List.length_nil, List.length_replicate, List.length_drop] at * <;> omega)), rfl, rfl⟩
   ·
    refine cf h34 (by kernel_rfl) (wp_skip ?_)
    obtain ⟨k46, hk46, hm⟩ := withK_some hm
    refine mid (fun t H => (∃ (y41 : (List api_Value)) (y42 : Int) (w40 : AV) (g44 : Nat), k46 y41 y42 = some r ∧ t = mk 148 [(0, aR 0 4 m0), (1, aI y19), (2, aI y22), (3, aI y42), (4, .pv (.fn 41 [] [])), (10, aB y20), (11, aB y21), (12, aI (IntKind.wrap .i64 (y22 - y19))), (39, w40)] ∧ H = [bR 64 4 R_api_Value y41 g44 0] ∧ y41.length = m0 ∧ g44 ≤ y41.length)) ?_ ?_
    ·
     rintro _ _ ⟨y41, y42, w40, g44, hm, rfl, rfl, q43, q45⟩
     subst hk46
     refine sq (rg (sh 4 [(51, .pv (.fn 41 [] [])), (50, aI y22), (49, aI y19), (48, aR 0 4 m0)] (by kernel_rfl) ?_))
     obtain ⟨x47, h48, hm⟩ := bs hm
     refine dO [(52, .tup [aI x47.1, aI x47.2])] [bR 64 4 R_api_Value y41 g44 0] (cpureR [0] [aR 0 4 m0, aI y19, aI y22, .pv (.fn 41 [] [])] (fl := true) (by kernel_rfl) (by kernel_rfl) (pAs_cons (pA_ref (pur_ref' (n := m0) (id := 0) (l := y41) (R := R_api_Value) rfl (by omega) (by omega))) (pAs_cons (pA_pv) (pAs_cons (pA_pv) (pAs_cons (pA_pv) (rfl))))) (ok_slices_choosePivotCmpFunc_Value_value_Cmp h48) (by kernel_rfl) (by kernel_rfl)) (by kernel_rfl) (sh 5 [(14, aI x47.2), (13, aI x47.1), (54, aI x47.2), (53, aI x47.1), (47, .tup [aI x47.1, aI x47.2])] (by kernel_rfl) (fin [(0, aR 0 4 m0), (1, aI y19), (2, aI y22), (3, aI y42), (4, .pv (.fn 41 [] [])), (10, aB y20), (11, aB y21), (12, aI (IntKind.wrap .i64 (y22 - y19))), (13, aI x47.1), (14, aI x47.2)] rfl (by kernel_rfl) ?_))
     obtain ⟨k56, hk56, hm⟩ := withK_some hm
     refine mid (fun t H => (∃ (y50 : (List api_Value)) (y51 : Int) (y52 : Int) (w49 : AV) (g54 : Nat), k56 y50 y51 y52 = some r ∧ t = mk 148 [(0, aR 0 4 m0), (1, aI y19), (2, aI y22), (3, aI y42), (4, .pv (.fn 41 [] [])), (10, aB y20), (11, aB y21), (12, aI (IntKind.wrap .i64 (y22 - y19))), (13, aI y51), (14, aI y52), (56, w49)] ∧ H = [bR 64 4 R_api_Value y50 g54 0] ∧ y50.length = m0 ∧ g54 ≤ y50.length)) ?_ ?_
     ·
      rintro _ _ ⟨y50, y51, y52, w49, g54, hm, rfl, rfl, q53, q55⟩
      subst hk56
      obtain ⟨k63, hk63, hm⟩ := withK_some hm
      refine mid (fun t H => (∃ (y59 : (List api_Value)) (w57 : AV) (w58 : AV) (g61 : Nat), k63 y59 = some r ∧ t = mk 148 [(0, aR 0 4 m0), (1, aI y19), (2, aI y22), (3, aI y42), (4, .pv (.fn 41 [] [])), (10, aB y20), (11, aB y21), (12, aI (IntKind.wrap .i64 (y22 - y19))), (13, aI y51), (75, w57), (80, w58)] ∧ H = [bR 64 4 R_api_Value y59 g61 0] ∧ y59.length = m0 ∧ g61 ≤ y59.length)) ?_ ?_
      ·
       rintro _ _ ⟨y59, w57, w58, g61, hm, rfl, rfl, q60, q62⟩
       subst hk63
       refine sq ?_
       obtain ⟨k65, hk65, hm⟩ := withK_some hm
       refine mid (fun t H => (∃ (y64 : Bool), k65 y64 = some r ∧ t = mk 148 [(0, aR 0 4 m0), (1, aI y19), (2, aI y22), (3, aI y42), (4, .pv (.fn 41 [] [])), (10, aB y20), (11, aB y21), (12, aI (IntKind.wrap .i64 (y22 - y19))), (13, aI y51), (97, aB y64)] ∧ H = [bR 64 4 R_api_Value y59 g61 0])) ?_ ?_
       ·
        rintro _ _ ⟨y64, hm, rfl, rfl⟩
        subst hk65
        rcases bif_some hm with ⟨h66, hm⟩ | ⟨h66, hm⟩
        ·
         refine ct h66 (by kernel_rfl) (sq (rg (sh 5 [(102, .pv (.fn 41 [] [])), (101, aI y51), (100, aI y22), (99, aI y19), (98, aR 0 4 m0)] (by kernel_rfl) ?_)))
         obtain ⟨⟨x68, x69⟩, h67, hm⟩ := bs hm
         obtain ⟨vv, H1, hC, g70, q71, q72, rfl, rfl⟩ := ok_slices_partitionEqualCmpFunc_Value_value_Cmp_r m0 g61 (by first | rfl | assumption | omega | (simp only [List.length_set, List.length_append, List.length_cons, List.length_nil, List.length_replicate, List.length_drop] at * <;> omega)) (by first | exact Nat.zero_le _ | exact Nat.le_refl _ | assumption | omega | (simp only [List.length_set, List.length_append, List.length_cons, List.length_nil, List.length_replicate, List.length_drop] at * <;> omega)) h67
         refine dR [(103, aI x69)] [bR 64 4 R_api_Value x68 g70 0] [0] [aR 0 4 m0, aI y19, aI y22, aI y51, .pv (.fn 41 [] [])] (by kernel_rfl) (by kernel_rfl) (by kernel_rfl) hC (by kernel_rfl) (sh 1 [(15, aI x69)] (by kernel_rfl) (fin [(0, aR 0 4 m0), (2, aI y22), (3, aI y42), (4, .pv (.fn 41 [] [])), (10, aB y20), (11, aB y21), (15, aI x69)] rfl (by kernel_rfl) (sq (detn [(0, aR 0 4 m0), (1, aI x69), (2, aI y22), (3, aI y42), (4, .pv (.fn 41 [] [])), (10, aB y20), (11, aB y21)] (by kernel_rfl) (wp_exit ?_)))))
         exact ⟨_, _, tidyL [(0, aR 0 4 m0), (1, aI x69), (2, aI y22), (3, aI y42), (4, .pv (.fn 41 [] [])), (10, aB y20), (11, aB y21)] [bR 64 4 R_api_Value x68 g70 0] (by kernel_rfl), ⟨x68, x69, y20, y21, y22, y42, g70, hm, rfl, rfl, (by first | rfl | assumption | omega | (simp only [List.length_set, List.length_append, List.length_cons, List.length_nil, List.length_replicate, List.length_drop] at * <;> omega)), (by first | exact Nat.zero_le _ | exact Nat.le_refl _ | assumption | omega | (simp only [List.length_set, List.length_append, List.length_cons, List.length_nil, List.length_replicate, List.length_drop] at * <;> omega))⟩⟩
        ·
         refine cf h66 (by kernel_rfl) (wp_skip (sq (rg (sh 5 [(110, .pv (.fn 41 [] [])), (109, aI y51), (108, aI y22), (107, aI y19), (106, aR 0 4 m0)] (by kernel_rfl) ?_))))
         obtain ⟨⟨x74, x75, x76⟩, h73, hm⟩ := bs hm
         obtain ⟨vv, H1, hC, g77, q78, q79, rfl, rfl⟩ := ok_slices_partitionCmpFunc_Value_value_Cmp_r m0 g61 (by first | rfl | assumption | omega | (simp only [List.length_set, List.length_append, List.length_cons, List.length_nil, List.length_replicate, List.length_drop] at * <;> omega)) (by first | exact Nat.zero_le _ | exact Nat.le_refl _ | assumption | omega | (simp only [List.length_set, List.length_append, List.length_cons, List.length_nil, List.length_replicate, List.length_drop] at * <;> omega)) h73
         refine dR [(111, .tup [aI x75, aB x76])] [bR 64 4 R_api_Value x74 g77 0] [0] [aR 0 4 m0, aI y19, aI y22, aI y51, .pv (.fn 41 [] [])] (by kernel_rfl) (by kernel_rfl) (by kernel_rfl) hC (by kernel_rfl) (sh 5 [(17, aB x76), (16, aI x75), (113, aB x76), (112, aI x75), (105, .tup [aI x75, aB x76])] (by kernel_rfl) (fin [(0, aR 0 4 m0), (1, aI y19), (2, aI y22), (3, aI y42), (4, .pv (.fn 41 [] [])), (12, aI (IntKind.wrap .i64 (y22 - y19))), (16, aI x75), (17, aB x76)] rfl (by kernel_rfl) (sq (detn [(0, aR 0 4 m0), (1, aI y19), (2, aI y22), (3, aI y42), (4, .pv (.fn 41 [] [])), (11, aB x76), (12, aI (IntKind.wrap .i64 (y22 - y19))), (16, aI x75)] (by kernel_rfl) (sq (detn [(0, aR 0 4 m0), (1, aI y19), (2, aI y22), (3, aI y42), (4, .pv (.fn 41 [] [])), (11, aB x76), (12, aI (IntKind.wrap .i64 (y22 - y19))), (16, aI x75), (18, aI (IntKind.wrap .i64 (x75 - y19))), (19, aI (IntKind.wrap .i64 (y22 - x75)))] (by kernel_rfl) (sq (detn [(0, aR 0 4 m0), (1, aI y19), (2, aI y22), (3, aI y42), (4, .pv (.fn 41 [] [])), (11, aB x76), (16, aI x75), (18, aI (IntKind.wrap .i64 (x75 - y19))), (19, aI (IntKind.wrap .i64 (y22 - x75))), (20, aI (IntKind.wrap .i64 (Int.tdiv (IntKind.wrap .i64 (y22 - y19)) 8)))] (by kernel_rfl) (sq (detn [(0, aR 0 4 m0), (1, aI y19), (2, aI y22), (3, aI y42), (4, .pv (.fn 41 [] [])), (11, aB x76), (16, aI x75), (18, aI (IntKind.wrap .i64 (x75 - y19))), (19, aI (IntKind.wrap .i64 (y22 - x75))), (20, aI (IntKind.wrap .i64 (Int.tdiv (IntKind.wrap .i64 (y22 - y19)) 8))), (125, aB (decide ((IntKind.wrap .i64 (x75 - y19)) < (IntKind.wrap .i64 (y22 - x75)))))] (by kernel_rfl) ?_))))))))))
         rcases bif_some hm with ⟨h80, hm⟩ | ⟨h80, hm⟩
         ·
          refine ct h80 (by kernel_rfl) (sq (detn [(0, aR 0 4 m0), (1, aI y19), (2, aI y22), (3, aI y42), (4, .pv (.fn 41 [] [])), (10, aB (decide ((IntKind.wrap .i64 (x75 - y19)) ≥ (IntKind.wrap .i64 (Int.tdiv (IntKind.wrap .i64 (y22 - y19)) 8))))), (11, aB x76), (16, aI x75)] (by kernel_rfl) (sq (rg (sh 5 [(133, .pv (.fn 41 [] [])), (132, aI y42), (131, aI x75), (130, aI y19), (129, aR 0 4 m0)] (by kernel_rfl) ?_)))))
          obtain ⟨x82, h81, hm⟩ := bs hm
          obtain ⟨vv, H1, hC, g83, q84, q85, rfl, rfl⟩ := ih_slices_pdqsortCmpFunc_Value_value_Cmp_r m0 g77 (by first | rfl | assumption | omega | (simp only [List.length_set, List.length_append, List.length_cons, List.length_nil, List.length_replicate, List.length_drop] at * <;> omega)) (by first | exact Nat.zero_le _ | exact Nat.le_refl _ | assumption | omega | (simp only [List.length_set, List.length_append, List.length_cons, List.length_nil, List.length_replicate, List.length_drop] at * <;> omega)) h81
          refine dR [(134, .tup [])] [bR 64 4 R_api_Value x82 g83 0] [0] [aR 0 4 m0, aI y19, aI x75, aI y42, .pv (.fn 41 [] [])] (by kernel_rfl) (by kernel_rfl) (by kernel_rfl) hC (by kernel_rfl) (fin [(0, aR 0 4 m0), (2, aI y22), (3, aI y42), (4, .pv (.fn 41 [] [])), (10, aB (decide ((IntKind.wrap .i64 (x75 - y19)) ≥ (IntKind.wrap .i64 (Int.tdiv (IntKind.wrap .i64 (y22 - y19)) 8))))), (11, aB x76), (16, aI x75)] rfl (by kernel_rfl) (detn [(0, aR 0 4 m0), (1, aI (IntKind.wrap .i64 (x75 + 1))), (2, aI y22), (3, aI y42), (4, .pv (.fn 41 [] [])), (10, aB (decide ((IntKind.wrap .i64 (x75 - y19)) ≥ (IntKind.wrap .i64 (Int.tdiv (IntKind.wrap .i64 (y22 - y19)) 8))))), (11, aB x76)] (by kernel_rfl) ?_))
          exact ⟨_, _, tidyL [(0, aR 0 4 m0), (1, aI (IntKind.wrap .i64 (x75 + 1))), (2, aI y22), (3, aI y42), (4, .pv (.fn 41 [] [])), (10, aB (decide ((IntKind.wrap .i64 (x75 - y19)) ≥ (IntKind.wrap .i64 (Int.tdiv (IntKind.wrap .i64 (y22 - y19)) 8))))), (11, aB x76)] [bR 64 4 R_api_Value x82 g83 0] (by kernel_rfl), ⟨x82, (IntKind.wrap .i64 (x75 + 1)), (decide ((IntKind.wrap .i64 (x75 - y19)) ≥ (IntKind.wrap .i64 (Int.tdiv (IntKind.wrap .i64 (y22 - y19)) 8)))), x76, y22, y42, g83, hm, rfl, rfl, (by first | rfl | assumption | omega | (simp only [List.length_set, List.length_append, List.length_cons, List.length_nil, List.length_replicate, List.length_drop] at * <;> omega)), (by first | exact Nat.zero_le _ | exact Nat.le_refl _ | assumption | omega | (simp only [List.length_set, List.length_append, List.length_cons, List.length_nil, List.length_replicate, List.length_drop] at * <;> omega))⟩⟩
         ·
          refine cf h80 (by kernel_rfl) (sq (detn [(0, aR 0 4 m0), (1, aI y19), (2, aI y22), (3, aI y42), (4, .pv (.fn 41 [] [])), (10, aB (decide ((IntKind.wrap .i64 (y22 - x75)) ≥ (IntKind.wrap .i64 (Int.tdiv (IntKind.wrap .i64 (y22 - y19)) 8))))), (11, aB x76), (16, aI x75)] (by kernel_rfl) (sq (rg (sh 6 [(145, .pv (.fn 41 [] [])), (144, aI y42), (143, aI y22), (142, aI (IntKind.wrap .i64 (x75 + 1))), (141, aI x75), (140, aR 0 4 m0)] (by kernel_rfl) ?_)))))
          obtain ⟨x87, h86, hm⟩ := bs hm
          obtain ⟨vv, H1, hC, g88, q89, q90, rfl, rfl⟩ := ih_slices_pdqsortCmpFunc_Value_value_Cmp_r m0 g77 (by first | rfl | assumption | omega | (simp only [List.length_set, List.length_append, List.length_cons, List.length_nil, List.length_replicate, List.length_drop] at * <;> omega)) (by first | exact Nat.zero_le _ | exact Nat.le_refl _ | assumption | omega | (simp only [List.length_set, List.length_append, List.length_cons, List.length_nil, List.length_replicate, List.length_drop] at * <;> omega)) h86
          refine dR [(146, .tup [])] [bR 64 4 R_api_Value x87 g88 0] [0] [aR 0 4 m0, aI (IntKind.wrap .i64 (x75 + 1)), aI y22, aI y42, .pv (.fn 41 [] [])] (by kernel_rfl) (by kernel_rfl) (by kernel_rfl) hC (by kernel_rfl) (fin [(0, aR 0 4 m0), (1, aI y19), (3, aI y42), (4, .pv (.fn 41 [] [])), (10, aB (decide ((IntKind.wrap .i64 (y22 - x75)) ≥ (IntKind.wrap .i64 (Int.tdiv (IntKind.wrap .i64 (y22 - y19)) 8))))), (11, aB x76), (16, aI x75)] rfl (by kernel_rfl) (detn [(0, aR 0 4 m0), (1, aI y19), (2, aI x75), (3, aI y42), (4, .pv (.fn 41 [] [])), (10, aB (decide ((IntKind.wrap .i64 (y22 - x75)) ≥ (IntKind.wrap .i64 (Int.tdiv (IntKind.wrap .i64 (y22 - y19)) 8))))), (11, aB x76)] (by kernel_rfl) ?_))
          exact ⟨_, _, tidyL [(0, aR 0 4 m0), (1, aI y19), (2, aI x75), (3, aI y42), (4, .pv (.fn 41 [] [])), (10, aB (decide ((IntKind.wrap .i64 (y22 - x75)) ≥ (IntKind.wrap .i64 (Int.tdiv (IntKind.wrap .i64 (y22 - y19)) 8))))), (11, aB x76)] [bR 64 4 R_api_Value x87 g88 0] (by kernel_rfl), ⟨x87, y19, (decide ((IntKind.wrap .i64 (y22 - x75)) ≥ (IntKind.wrap .i64 (Int.tdiv (IntKind.wrap .i64 (y22 - y19)) 8)))), x76, x75, y42, g88, hm, rfl, rfl, (by first | rfl | assumption | omega | (simp only [List.length_set, List.length_append, List.length_cons, List.length_nil, List.length_replicate, List.length_drop] at * <;> omega)), (by first | exact Nat.zero_le _ | exact Nat.le_refl _ | assumption | omega | (simp only [List.length_set, List.length_append, List.length_cons, List.length_nil, List.length_replicate, List.length_drop] at * <;> omega))⟩⟩
       refine rgd (shd 3 [(83, aB (decide (y19 > 0))), (82, aB (decide (y19 > 0))), (81, aI y19)] (by kernel_rfl) ?_)
       rcases bif_some hm with ⟨h91, hm⟩ | ⟨h91, hm⟩
       ·
        refine knownd [83, 82] h91 (by kernel_rfl) (shd 4 [(87, aI (IntKind.wrap .i64 (y19 - 1))), (86, aI y19), (85, aR 0 4 m0), (84, .pv (.fn 41 [] []))] (by kernel_rfl) ?_)
        obtain ⟨x92, h93, hm⟩ := bs hm
        refine dvd 88 (v := .eptr 0 0 m0 4 (0 + Int.toNat (IntKind.wrap .i64 (y19 - 1))) 0) (ia_refO y59 .i64 (n := m0) (id := 0) (esz := 4) t52 t64 h93 (by omega) rfl (by kernel_rfl)) (by kernel_rfl) (dvd 89 (v := .agg [aI x92.fKind, aI x92.fInt, aF x92.fFloat, aS x92.fText]) (ld_eptrO R_api_Value y59 (n := m0) (esz := 4) (j := (IntKind.wrap .i64 (y19 - 1))) (off := 0) (id := 0) t64 rfl h93 (by omega) (by omega) (by kernel_rfl) (by kernel_rfl)) (by kernel_rfl) (shd 2 [(91, aI y51), (90, aR 0 4 m0)] (by kernel_rfl) ?_))
        obtain ⟨x94, h95, hm⟩ := bs hm
        refine dvd 92 (v := .eptr 0 0 m0 4 (0 + Int.toNat y51) 0) (ia_refO y59 .i64 (n := m0) (id := 0) (esz := 4) t52 t64 h95 (by omega) rfl (by kernel_rfl)) (by kernel_rfl) (dvd 93 (v := .agg [aI x94.fKind, aI x94.fInt, aF x94.fFloat, aS x94.fText]) (ld_eptrO R_api_Value y59 (n := m0) (esz := 4) (j := y51) (off := 0) (id := 0) t64 rfl h95 (by omega) (by omega) (by kernel_rfl) (by kernel_rfl)) (by kernel_rfl) ?_)
        obtain ⟨x96, h97, hm⟩ := bs hm
        refine dvd 94 (cpure (by kernel_rfl) (ok_value_Cmp h97) (by kernel_rfl) (by kernel_rfl) (by kernel_rfl)) (by kernel_rfl) (shd 3 [(97, aB (!(decide (x96 < 0)))), (96, aB (!(decide (x96 < 0)))), (95, aB (decide (x96 < 0)))] (by kernel_rfl) (find [(0, aR 0 4 m0), (1, aI y19), (2, aI y22), (3, aI y42), (4, .pv (.fn 41 [] [])), (10, aB y20), (11, aB y21), (12, aI (IntKind.wrap .i64 (y22 - y19))), (13, aI y51), (97, aB (!(decide (x96 < 0))))] rfl (by kernel_rfl) (by kernel_rfl) ?_))
        exact ⟨(!(decide (x96 < 0))), hm, rfl, rfl⟩
       ·
        refine knownd [83, 82] h91 (by kernel_rfl) (shd 14 [(97, aB false), (96, .undef), (95, .undef), (94, .undef), (93, .undef), (92, .undef), (91, .undef), (90, .undef), (89, .undef), (88, .undef), (87, .undef), (86, .undef), (85, .undef), (84, .undef)] (by kernel_rfl) (find [(0, aR 0 4 m0), (1, aI y19), (2, aI y22), (3, aI y42), (4, .pv (.fn 41 [] [])), (10, aB y20), (11, aB y21), (12, aI (IntKind.wrap .i64 (y22 - y19))), (13, aI y51), (97, aB false)] rfl (by kernel_rfl) (by kernel_rfl) ?_))
        exact ⟨false, hm, rfl, rfl⟩
      refine sq (rg (sh 2 [(69, aB y20), (68, aB y20)] (by kernel_rfl) ?_))
      refine seg y20 [69, 68, 10] (fun b => [(71, aB (b && y21)), (70, ifA b (aB y21) (.undef))]) 4 (by kernel_rfl) ?_ ?_ ?_
      ·
       intro Q h
       refine sh 2 [(71, aB y21), (70, aB y21)] (by kernel_rfl) ?_
       exact sameN (by kernel_rfl) (by kernel_rfl) h
      ·
       intro Q h
       refine sh 2 [(71, aB false), (70, .undef)] (by kernel_rfl) ?_
       exact sameN (by kernel_rfl) (by kernel_rfl) h
      refine sh 1 [(72, aB (y20 && y21))] (by kernel_rfl) ?_
      refine seg (y20 && y21) [72, 71] (fun b => [(75, aB (b && (y52 == 1))), (74, ifA b (aB (y52 == 1)) (.undef)), (73, ifA b (aI y52) (.undef))]) 8 (by kernel_rfl) ?_ ?_ ?_
      ·
       intro Q h
       refine sh 3 [(75, aB (y52 == 1)), (74, aB (y52 == 1)), (73, aI y52)] (by kernel_rfl) ?_
       exact sameN (by kernel_rfl) (by kernel_rfl) h
      ·
       intro Q h
       refine sh 3 [(75, aB false), (74, .undef), (73, .undef)] (by kernel_rfl) ?_
       exact sameN (by kernel_rfl) (by kernel_rfl) h
      refine fin [(0, aR 0 4 m0), (1, aI y19), (2, aI y22), (3, aI y42), (4, .pv (.fn 41 [] [])), (10, aB y20), (11, aB y21), (12, aI (IntKind.wrap .i64 (y22 - y19))), (13, aI y51), (75, aB ((y20 && y21) && (y52 == 1)))] rfl (by kernel_rfl) ?_
      rcases bif_some hm with ⟨h98, hm⟩ | ⟨h98, hm⟩
      ·
       refine ct h98 (by kernel_rfl) (sq (rg (sh 4 [(79, .pv (.fn 41 [] [])), (78, aI y22), (77, aI y19), (76, aR 0 4 m0)] (by kernel_rfl) ?_)))
       obtain ⟨⟨x100, x101⟩, h99, hm⟩ := bs hm
       obtain ⟨vv, H1, hC, g102, q103, q104, rfl, rfl⟩ := ok_slices_partialInsertionSortCmpFunc_Value_value_Cmp_r m0 g54 (by first | rfl | assumption | omega | (simp only [List.length_set, List.length_append, List.length_cons, List.length_nil, List.length_replicate, List.length_drop] at * <;> omega)) (by first | exact Nat.zero_le _ | exact Nat.le_refl _ | assumption | omega | (simp only [List.length_set, List.length_append, List.length_cons, List.length_nil, List.length_replicate, List.length_drop] at * <;> omega)) h99
       refine dR [(80, aB x101)] [bR 64 4 R_api_Value x100 g102 0] [0] [aR 0 4 m0, aI y19, aI y22, .pv (.fn 41 [] [])] (by kernel_rfl) (by kernel_rfl) (by kernel_rfl) hC (by kernel_rfl) (fin [(0, aR 0 4 m0), (1, aI y19), (2, aI y22), (3, aI y42), (4, .pv (.fn 41 [] [])), (10, aB y20), (11, aB y21), (12, aI (IntKind.wrap .i64 (y22 - y19))), (13, aI y51), (80, aB x101)] rfl (by kernel_rfl) ?_)
       rcases bif_some hm with ⟨h105, hm⟩ | ⟨h105, hm⟩
       ·
        refine ct h105 (by kernel_rfl) (wp_ret ?_)
        obtain rfl := Option.some.inj hm
        exact ⟨trivial, .tup [], [bR 64 4 R_api_Value x100 g102 0], by kernel_rfl, g102, (by first | rfl | assumption | omega | (simp only [List.length_set, List.length_append, List.length_cons, List.length_nil, List.length_replicate, List.length_drop] at * <;> omega)), (by first | exact Nat.zero_le _ | exact Nat.le_refl _ | assumption | omega | (simp only [List.length_set, List.length_append, List.length_cons, List.length_nil, List.length_replicate, List.length_drop] at * <;> omega)), rfl, rfl⟩
       ·
        refine cf h105 (by kernel_rfl) (wp_skip ?_)
        exact ⟨x100, .any, aB x101, g102, hm, (mk_same (by kernel_rfl)), rfl, (by first | rfl | assumption | omega | (simp only [List.length_set, List.length_append, List.length_cons, List.length_nil, List.length_replicate, List.length_drop] at * <;> omega)), (by first | exact Nat.zero_le _ | exact Nat.le_refl _ | assumption | omega | (simp only [List.length_set, List.length_append, List.length_cons, List.length_nil, List.length_replicate, List.length_drop] at * <;> omega))⟩
      ·
       refine cf h98 (by kernel_rfl) (wp_skip ?_)
       exact ⟨y50, aB ((y20 && y21) && (y52 == 1)), .any, g54, hm, (mk_same (by kernel_rfl)), rfl, (by first | rfl | assumption | omega | (simp only [List.length_set, List.length_append, List.length_cons, List.length_nil, List.length_replicate, List.length_drop] at * <;> omega)), (by first | exact Nat.zero_le _ | exact Nat.le_refl _ | assumption | omega | (simp only [List.length_set, List.length_append, List.length_cons, List.length_nil, List.length_replicate, List.length_drop] at * <;> omega))⟩
     refine sq (detn [(0, aR 0 4 m0), (1, aI y19), (2, aI y22), (3, aI y42), (4, .pv (.fn 41 [] [])), (10, aB y20), (11, aB y21), (12, aI (IntKind.wrap .i64 (y22 - y19))), (13, aI x47.1), (14, aI x47.2), (56, aB (x47.2 == 2))] (by kernel_rfl) ?_)
     rcases bif_some hm with ⟨h106, hm⟩ | ⟨h106, hm⟩
     ·
      refine ct h106 (by kernel_rfl) (sq (rg (sh 4 [(60, .pv (.fn 41 [] [])), (59, aI y22), (58, aI y19), (57, aR 0 4 m0)] (by kernel_rfl) ?_)))
      obtain ⟨x108, h107, hm⟩ := bs hm
      obtain ⟨vv, H1, hC, g109, q110, q111, rfl, rfl⟩ := ok_slices_reverseRangeCmpFunc_Value_value_Cmp_r m0 g44 (by first | rfl | assumption | omega | (simp only [List.length_set, List.length_append, List.length_cons, List.length_nil, List.length_replicate, List.length_drop] at * <;> omega)) (by first | exact Nat.zero_le _ | exact Nat.le_refl _ | assumption | omega | (simp only [List.length_set, List.length_append, List.length_cons, List.length_nil, List.length_replicate, List.length_drop] at * <;> omega)) h107
      refine dR [(61, .tup [])] [bR 64 4 R_api_Value x108 g109 0] [0] [aR 0 4 m0, aI y19, aI y22, .pv (.fn 41 [] [])] (by kernel_rfl) (by kernel_rfl) (by kernel_rfl) hC (by kernel_rfl) (fin [(0, aR 0 4 m0), (1, aI y19), (2, aI y22), (3, aI y42), (4, .pv (.fn 41 [] [])), (10, aB y20), (11, aB y21), (12, aI (IntKind.wrap .i64 (y22 - y19))), (13, aI x47.1)] rfl (by kernel_rfl) (sq (detn [(0, aR 0 4 m0), (1, aI y19), (2, aI y22), (3, aI y42), (4, .pv (.fn 41 [] [])), (10, aB y20), (11, aB y21), (12, aI (IntKind.wrap .i64 (y22 - y19))), (13, aI (IntKind.wrap .i64 ((IntKind.wrap .i64 (y22 - 1)) - (IntKind.wrap .i64 (x47.1 - y19)))))] (by kernel_rfl) (detn [(0, aR 0 4 m0), (1, aI y19), (2, aI y22), (3, aI y42), (4, .pv (.fn 41 [] [])), (10, aB y20), (11, aB y21), (12, aI (IntKind.wrap .i64 (y22 - y19))), (13, aI (IntKind.wrap .i64 ((IntKind.wrap .i64 (y22 - 1)) - (IntKind.wrap .i64 (x47.1 - y19))))), (14, aI 1)] (by kernel_rfl) ?_))))
      exact ⟨x108, (IntKind.wrap .i64 ((IntKind.wrap .i64 (y22 - 1)) - (IntKind.wrap .i64 (x47.1 - y19)))), 1, .any, g109, hm, (mk_same (by kernel_rfl)), rfl, (by first | rfl | assumption | omega | (simp only [List.length_set, List.length_append, List.length_cons, List.length_nil, List.length_replicate, List.length_drop] at * <;> omega)), (by first | exact Nat.zero_le _ | exact Nat.le_refl _ | assumption | omega | (simp only [List.length_set, List.length_append, List.length_cons, List.length_nil, List.length_replicate, List.length_drop] at * <;> omega))⟩
     ·
      refine cf h106 (by kernel_rfl) (wp_skip ?_)
      exact ⟨y41, x47.1, x47.2, aB (x47.2 == 2), g44, hm, (mk_same (by kernel_rfl)), rfl, (by first | rfl | assumption | omega | (simp only [List.length_set, List.length_append, List.length_cons, List.length_nil, List.length_replicate, List.length_drop] at * <;> omega)), (by first | exact Nat.zero_le _ | exact Nat.le_refl _ | assumption | omega | (simp only [List.length_set, List.length_append, List.length_cons, List.length_nil, List.length_replicate, List.length_drop] at * <;> omega))⟩
    refine sq (detn [(0, aR 0 4 m0), (1, aI y19), (2, aI y22), (3, aI y23), (4, .pv (.fn 41 [] [])), (10, aB y20), (11, aB y21), (12, aI (IntKind.wrap .i64 (y22 - y19))), (39, aB (!y20))] (by kernel_rfl) ?_)
    rcases bif_some hm with ⟨h112, hm⟩ | ⟨h112, hm⟩
    ·
     refine ct h112 (by kernel_rfl) (sq (rg (sh 4 [(43, .pv (.fn 41 [] [])), (42, aI y22), (41, aI y19), (40, aR 0 4 m0)] (by kernel_rfl) ?_)))
     obtain ⟨x114, h113, hm⟩ := bs hm
     obtain ⟨vv, H1, hC, g115, q116, q117, rfl, rfl⟩ := ok_slices_breakPatternsCmpFunc_Value_value_Cmp_r m0 g25 (by first | rfl | assumption | omega | (simp only [List.length_set, List.length_append, List.length_cons, List.length_nil, List.length_replicate, List.length_drop] at * <;> omega)) (by first | exact Nat.zero_le _ | exact Nat.le_refl _ | assumption | omega | (simp only [List.length_set, List.length_append, List.length_cons, List.length_nil, List.length_replicate, List.length_drop] at * <;> omega)) h113
     refine dR [(44, .tup [])] [bR 64 4 R_api_Value x114 g115 0] [0] [aR 0 4 m0, aI y19, aI y22, .pv (.fn 41 [] [])] (by kernel_rfl) (by kernel_rfl) (by kernel_rfl) hC (by kernel_rfl) (fin [(0, aR 0 4 m0), (1, aI y19), (2, aI y22), (3, aI y23), (4, .pv (.fn 41 [] [])), (10, aB y20), (11, aB y21), (12, aI (IntKind.wrap .i64 (y22 - y19)))] rfl (by kernel_rfl) (detn [(0, aR 0 4 m0), (1, aI y19), (2, aI y22), (3, aI (IntKind.wrap .i64 (y23 - 1))), (4, .pv (.fn 41 [] [])), (10, aB y20), (11, aB y21), (12, aI (IntKind.wrap .i64 (y22 - y19)))] (by kernel_rfl) ?_))
     exact ⟨x114, (IntKind.wrap .i64 (y23 - 1)), .any, g115, hm, (mk_same (by kernel_rfl)), rfl, (by first | rfl | assumption | omega | (simp only [List.length_set, List.length_append, List.length_cons, List.length_nil, List.length_replicate, List.length_drop] at * <;> omega)), (by first | exact Nat.zero_le _ | exact Nat.le_refl _ | assumption | omega | (simp only [List.length_set, List.length_append, List.length_cons, List.length_nil, List.length_replicate, List.length_drop] at * <;> omega))⟩
    ·
     refine cf h112 (by kernel_rfl) (wp_skip ?_)
     exact ⟨y18, y23, aB (!y20), g25, hm, (mk_same (by kernel_rfl)), rfl, (by first | rfl | assumption | omega | (simp only [List.length_set, List.length_append, List.length_cons, List.length_nil, List.length_replicate, List.length_drop] at * <;> omega)), (by first | exact Nat.zero_le _ | exact Nat.le_refl _ | assumption | omega | (simp only [List.length_set, List.length_append, List.length_cons, List.length_nil, List.length_replicate, List.length_drop] at * <;> omega))⟩
theorem okt_slices_pdqsortCmpFunc_Value_value_Cmp_r : ∀ (m : Nat), ∀ (m0 : Nat) (f0 : Nat) {n : Nat} {a0 : (List api_Value)} {a1 : Int} {a2 : Int} {a3 : Int} {r : (List api_Value)} (hm0 : a0.length = m0) (hf0 : f0 ≤ a0.length) (hm : slices_pdqsortCmpFunc_Value_value_Cmp_r_t m n a0 a1 a2 a3 = some r), ∃ vv H1, call G n 120 [aR 0 4 m0, aI a1, aI a2, aI a3, .pv (.fn 41 [] [])] [bR 64 4 R_api_Value a0 f0 0] = some (.ret vv, H1) ∧ (match r with | r0 => (∃ (e1 : Nat), r0.length = m0 ∧ e1 ≤ r0.length ∧ vv = .tup [] ∧ H1 = [bR 64 4 R_api_Value r0 e1 0]))
  | 0 => by intros; rename_i hm; exact nomatch hm
  | m + 1 => @fun m0 f0 n a0 a1 a2 a3 r hm0 hf0 hm =>
    okf_slices_pdqsortCmpFunc_Value_value_Cmp_r (okt_slices_pdqsortCmpFunc_Value_value_Cmp_r m) m0 f0 hm0 hf0 hm
theorem ok_slices_pdqsortCmpFunc_Value_value_Cmp_r (m0 : Nat) (f0 : Nat) {n : Nat} {a0 : (List api_Value)} {a1 : Int} {a2 : Int} {a3 : Int} {r : (List api_Value)} (hm0 : a0.length = m0) (hf0 : f0 ≤ a0.length) (hm : slices_pdqsortCmpFunc_Value_value_Cmp_r n a0 a1 a2 a3 = some r) :
    ∃ vv H1, call G n 120 [aR 0 4 m0, aI a1, aI a2, aI a3, .pv (.fn 41 [] [])] [bR 64 4 R_api_Value a0 f0 0] = some (.ret vv, H1) ∧ (match r with | r0 => (∃ (e1 : Nat), r0.length = m0 ∧ e1 ≤ r0.length ∧ vv = .tup [] ∧ H1 = [bR 64 4 R_api_Value r0 e1 0])) := okt_slices_pdqsortCmpFunc_Value_value_Cmp_r n m0 f0 hm0 hf0 hm
theorem ok_slices_SortFunc_Value_value_Cmp_r (m0 : Nat) (f0 : Nat) {n : Nat} {a0 : (List api_Value)} {r : (List api_Value)} (hm0 : a0.length = m0) (hf0 : f0 ≤ a0.length) (hm : slices_SortFunc_Value_value_Cmp_r n a0 = some r) :
    ∃ vv H1, call G n 101 [aR 0 4 m0, .pv (.fn 41 [] [])] [bR 64 4 R_api_Value a0 f0 0] = some (.ret vv, H1) ∧ (match r with | r0 => (∃ (e1 : Nat), r0.length = m0 ∧ e1 ≤ r0.length ∧ vv = .tup [] ∧ H1 = [bR 64 4 R_api_Value r0 e1 0])) := by
  unfold slices_SortFunc_Value_value_Cmp_r at hm
  obtain ⟨n, rfl, h0⟩ := at1_some hm
  replace hm := h0; clear h0
  refine callE 14 [(0, aR 0 4 m0), (1, .pv (.fn 41 [] []))] func101 rfl (by kernel_rfl) (sq (rg (sh 1 [(5, aR 0 4 m0)] (by kernel_rfl) (dv 6 (v := aI (a0.length : Int)) (len_refO a0 (n := m0) (id := 0) (esz := 4) t52 (by omega) (by kernel_rfl)) (by kernel_rfl) (sh 1 [(4, aI (a0.length : Int))] (by kernel_rfl) (fin [(0, aR 0 4 m0), (1, .pv (.fn 41 [] [])), (4, aI (a0.length : Int))] rfl (by kernel_rfl) (rg (sh 4 [(10, aU (IntKind.wrap .u64 (a0.length : Int))), (9, aI (a0.length : Int)), (8, aI (a0.length : Int)), (7, aR 0 4 m0)] (by kernel_rfl) ?_))))))))
  obtain ⟨x1, h2, hm⟩ := bs hm
  refine dv 11 (cpure (by kernel_rfl) (ok_math_bits_Len h2) (by kernel_rfl) (by kernel_rfl) (by kernel_rfl)) (by kernel_rfl) (sh 1 [(12, .pv (.fn 41 [] []))] (by kernel_rfl) ?_)
  obtain ⟨x4, h3, hm⟩ := bs hm
  obtain ⟨vv, H1, hC, g5, q6, q7, rfl, rfl⟩ := ok_slices_pdqsortCmpFunc_Value_value_Cmp_r m0 f0 (by first | rfl | assumption | omega | (simp only [List.length_set, List.length_append, List.length_cons, List.length_nil, List.length_replicate, List.length_drop] at * <;> omega)) (by first | exact Nat.zero_le _ | exact Nat.le_refl _ | assumption | omega | (simp only [List.length_set, List.length_append, List.length_cons, List.length_nil, List.length_replicate, List.length_drop] at * <;> omega)) h3
  refine dR [(13, .tup [])] [bR 64 4 R_api_Value x4 g5 0] [0] [aR 0 4 m0, aI 0, aI (a0.length : Int), aI x1, .pv (.fn 41 [] [])] (by kernel_rfl) (by kernel_rfl) (by kernel_rfl) hC (by kernel_rfl) (fin [] rfl (by kernel_rfl) ?_)
  obtain rfl := Option.some.inj hm
  exact ⟨trivial, .tup [], [bR 64 4 R_api_Value x4 g5 0], by kernel_rfl, g5, (by first | rfl | assumption | omega | (simp only [List.length_set, List.length_append, List.length_cons, List.length_nil, List.length_replicate, List.length_drop] at * <;> omega)), (by first | exact Nat.zero_le _ | exact Nat.le_refl _ | assumption | omega | (simp only [List.length_set, List.length_append, List.length_cons, List.length_nil, List.length_replicate, List.length_drop] at * <;> omega)), rfl, rfl⟩
theorem ok_hist_sorted {n : Nat} {a0 : (Option (List api_Value))} {r : (Option (List api_Value)) × Bool} (hm : hist_sorted n a0 = some r) :
    call G n 62 [.pv (encSl R_api_Value a0)] [] = some (.ret (.tup [.pv (encSl R_api_Value r.1), aB r.2]), []) := by
  unfold hist_sorted at hm
  obtain ⟨n, rfl, h0⟩ := at1_some hm
  replace hm := h0; clear h0
  refine callL 43 [(0, .pv (encSl R_api_Value a0))] func62 rfl (by kernel_rfl) (sq (detn [(0, .pv (encSl R_api_Value a0))] (by kernel_rfl) (sq (detn [(0, .pv (encSl R_api_Value a0)), (4, .pv .nils)] (by kernel_rfl) ?_))))
  obtain ⟨k4, hk4, hm⟩ := withK_some hm
  refine mid (fun t H => (∃ (w1 : AV) (w2 : AV), k4 none = some r ∧ t = mk 43 [(4, .pv .nils), (7, .pv (encSl R_api_Value a0)), (8, aI ((sll a0).length : Int)), (9, w1), (10, w2)] ∧ H = []) ∨ (∃ (y3 : (List api_Value)) (w1 : AV) (w2 : AV), k4 (some y3) = some r ∧ t = mk 43 [(4, aR 0 4 y3.length), (7, .pv (encSl R_api_Value a0)), (8, aI ((sll a0).length : Int)), (9, w1), (10, w2)] ∧ H = [bR 64 4 R_api_Value y3 0 0])) ?_ ?_
  ·
   rintro _ _ (⟨w1, w2, hm, rfl, rfl⟩ | ⟨y3, w1, w2, hm, rfl, rfl⟩)
   ·
    subst hk4
    refine sq (rg (sh 1 [(40, .pv .nils)] (by kernel_rfl) ?_))
    obtain ⟨_, h5, hm⟩ := bs hm
    obtain ⟨vv, H1, hC, rfl, rfl⟩ := ok_slices_SortFunc_Value_value_Cmp_nil h5
    refine dR [(41, .tup [])] [] [] [.pv .nils, .pv (.fn 41 [] [])] (by kernel_rfl) (by kernel_rfl) (by kernel_rfl) hC (by kernel_rfl) (fin [(4, .pv .nils)] rfl (by kernel_rfl) (sq (detn [(2, .pv .nils), (3, aB true)] (by kernel_rfl) (wp_ret ?_))))
    obtain rfl := Option.some.inj hm
    exact ⟨trivial, by kernel_rfl⟩
   ·
    subst hk4
    refine sq (rg (sh 1 [(40, aR 0 4 y3.length)] (by kernel_rfl) ?_))
    obtain ⟨x7, h6, hm⟩ := bs hm
    obtain ⟨vv, H1, hC, g8, q9, q10, rfl, rfl⟩ := ok_slices_SortFunc_Value_value_Cmp_r y3.length 0 (by first | rfl | assumption | omega | (simp only [List.length_set, List.length_append, List.length_cons, List.length_nil, List.length_replicate, List.length_drop] at * <;> omega)) (by first | exact Nat.zero_le _ | exact Nat.le_refl _ | assumption | omega | (simp only [List.length_set, List.length_append, List.length_cons, List.length_nil, List.length_replicate, List.length_drop] at * <;> omega)) h6
    refine dR [(41, .tup [])] [bR 64 4 R_api_Value x7 g8 0] [0] [aR 0 4 y3.length, .pv (.fn 41 [] [])] (by kernel_rfl) (by kernel_rfl) (by kernel_rfl) hC (by kernel_rfl) (fin [(4, aR 0 4 y3.length)] rfl (by kernel_rfl) (sq (detn [(2, aR 0 4 y3.length), (3, aB true)] (by kernel_rfl) (wp_ret ?_))))
    obtain rfl := Option.some.inj hm
    exact ret_pure (v := .tup [aR 0 4 y3.length, aB true]) trivial rfl (by kernel_rfl) (pR_tup (pAs_cons (pA_ref (pur_ref' (n := y3.length) (id := 0) (l := x7) (R := R_api_Value) rfl (by omega) (by omega))) (pAs_cons (pA_pv) (rfl))))
  refine sq (rg (sh 1 [(7, .pv (encSl R_api_Value a0))] (by kernel_rfl) (dv 8 (v := aI ((sll a0).length : Int)) (len_slO R_api_Value a0 t52 (by kernel_rfl)) (by kernel_rfl) (sh 1 [(9, aI 0)] (by kernel_rfl) (fin [(4, .pv .nils), (7, .pv (encSl R_api_Value a0)), (8, aI ((sll a0).length : Int)), (9, aI 0)] rfl (by kernel_rfl) (bq ?_))))))
  refine loopF (fun mm t H => (∃ (y14 : Int), hist_sorted_l3 n a0 k4 mm none y14 = some r ∧ t = mk 43 [(4, .pv .nils), (7, .pv (encSl R_api_Value a0)), (8, aI ((sll a0).length : Int)), (9, aI y14)] ∧ H = []) ∨ (∃ (y13 : (List api_Value)) (y14 : Int), hist_sorted_l3 n a0 k4 mm (some y13) y14 = some r ∧ t = mk 43 [(4, aR 0 4 y13.length), (7, .pv (encSl R_api_Value a0)), (8, aI ((sll a0).length : Int)), (9, aI y14)] ∧ H = [bR 64 4 R_api_Value y13 0 0])) (.inl ⟨0, hm, rfl, rfl⟩) ?_ ?_
  · rintro _ _ (⟨y14, hm, _⟩ | ⟨y13, y14, hm, _⟩) <;> exact nomatch hm
  rintro m15 _ _ (⟨y14, hm, rfl, rfl⟩ | ⟨y13, y14, hm, rfl, rfl⟩)
  ·
   simp only [hist_sorted_l3] at hm
   refine sq (detn [(4, .pv .nils), (7, .pv (encSl R_api_Value a0)), (8, aI ((sll a0).length : Int)), (9, aI y14), (10, aB (decide (y14 < ((sll a0).length : Int))))] (by kernel_rfl) ?_)
   refine sq ?_
   rcases bif_some hm with ⟨h16, hm⟩ | ⟨h16, hm⟩
   ·
    refine ct h16 (by kernel_rfl) (wp_skip (sq (bq (sq (rg ?_)))))
    obtain ⟨x17, h18, hm⟩ := bs hm
    refine dv 11 (v := .pv (.ptr (R_api_Value x17) 0)) (ia_slO R_api_Value a0 .i64 t52 t64 h18 rfl (by kernel_rfl)) (by kernel_rfl) (st 3 [(6, .ptr 0 0), (12, .agg [aI x17.fKind, aI x17.fInt, aF x17.fFloat, aS x17.fText])] [.box [aI x17.fKind, aI x17.fInt, aF x17.fFloat, aS x17.fText] false] (by kernel_rfl) (fin [(4, .pv .nils), (6, .ptr 0 0), (7, .pv (encSl R_api_Value a0)), (8, aI ((sll a0).length : Int)), (9, aI y14)] rfl (by kernel_rfl) (sq (bq (sq (rg (sh 1 [(14, .agg [aI x17.fKind, aI x17.fInt, aF x17.fFloat, aS x17.fText])] (by kernel_rfl) ?_)))))))
    obtain ⟨x19, h20, hm⟩ := bs hm
    refine dv 15 (cpure (by kernel_rfl) (ok_value_Right h20) (by kernel_rfl) (by kernel_rfl) (by kernel_rfl)) (by kernel_rfl) (sh 2 [(13, aB (!x19)), (16, aB (!x19))] (by kernel_rfl) (fin [(4, .pv .nils), (6, .ptr 0 0), (7, .pv (encSl R_api_Value a0)), (8, aI ((sll a0).length : Int)), (9, aI y14), (13, aB (!x19))] rfl (by kernel_rfl) ?_))
    rcases bif_some hm with ⟨h21, hm⟩ | ⟨h21, hm⟩
    ·
     refine ct h21 (by kernel_rfl) (sq (detn [(2, .pv .nils), (3, aB false)] (by kernel_rfl) (wp_ret ?_)))
     obtain rfl := Option.some.inj hm
     exact ⟨trivial, by kernel_rfl⟩
    ·
     refine cf h21 (by kernel_rfl) (sq (detn [(4, .pv .nils), (6, .ptr 0 0), (7, .pv (encSl R_api_Value a0)), (8, aI ((sll a0).length : Int)), (9, aI y14), (17, aB (x17.fKind == 0))] (by kernel_rfl) ?_))
     rcases bif_some hm with ⟨h22, hm⟩ | ⟨h22, hm⟩
     ·
      refine ct h22 (by kernel_rfl) (wp_exit (detn [(4, .pv .nils), (7, .pv (encSl R_api_Value a0)), (8, aI ((sll a0).length : Int)), (9, aI (IntKind.wrap .i64 (y14 + 1)))] (by kernel_rfl) ?_))
      exact ⟨_, _, tidyL [(4, .pv .nils), (7, .pv (encSl R_api_Value a0)), (8, aI ((sll a0).length : Int)), (9, aI (IntKind.wrap .i64 (y14 + 1)))] [] (by kernel_rfl), .inl ⟨(IntKind.wrap .i64 (y14 + 1)), hm, rfl, rfl⟩⟩
     ·
      refine cf h22 (by kernel_rfl) (sq (rgd (shd 13 [(21, aB false), (33, aB false), (32, .undef), (31, .undef), (30, .undef), (29, .undef), (28, .undef), (27, .undef), (26, .undef), (25, aB false), (24, aB false), (23, aI 0), (22, .pv .nils)] (by kernel_rfl) (find [(4, .pv .nils), (6, .ptr 0 0), (7, .pv (encSl R_api_Value a0)), (8, aI ((sll a0).length : Int)), (9, aI y14), (21, aB false)] rfl (by kernel_rfl) (by kernel_rfl) (cF (by kernel_rfl) (wp_skip (rg (sh 2 [(35, .agg [aI x17.fKind, aI x17.fInt, aF x17.fFloat, aS x17.fText]), (34, .pv .nils)] (by kernel_rfl) ?_))))))))
      obtain ⟨x23, h24, hm⟩ := bs hm
      refine dv 36 (cpure (by kernel_rfl) (ok_value_Plain h24) (by kernel_rfl) (by kernel_rfl) (by kernel_rfl)) (by kernel_rfl) (st 1 [(37, aR 1 4 1)] [.box [aI x17.fKind, aI x17.fInt, aF x17.fFloat, aS x17.fText] false, bR 64 4 R_api_Value ([x23] : List api_Value) 0 0] (by kernel_rfl) ?_)
      obtain ⟨_, h25, hm⟩ := bs hm
      refine dO [(38, aR 2 4 (([x23] : List api_Value).length))] [.box [aI x17.fKind, aI x17.fInt, aF x17.fFloat, aS x17.fText] false, bR 64 4 R_api_Value ([x23] : List api_Value) 0 0, bR 64 4 R_api_Value ([x23] : List api_Value) 0 0] (app_nilO (u := 0) R_api_Value ([x23] : List api_Value) (b := 40) t52 t64 rfl rfl rfl (fun _ => rfl) rfl h25 (show srcRows (aR 1 4 1) _ = some (([x23] : List api_Value).map R_api_Value) from by kernel_rfl) (by kernel_rfl)) (by kernel_rfl) (sh 1 [(4, aR 2 4 (([x23] : List api_Value).length))] (by kernel_rfl) (fin [(4, aR 2 4 (([x23] : List api_Value).length)), (7, .pv (encSl R_api_Value a0)), (8, aI ((sll a0).length : Int)), (9, aI y14)] rfl (by kernel_rfl) (detn [(4, aR 2 4 (([x23] : List api_Value).length)), (7, .pv (encSl R_api_Value a0)), (8, aI ((sll a0).length : Int)), (9, aI (IntKind.wrap .i64 (y14 + 1)))] (by kernel_rfl) ?_)))
      exact ⟨_, _, tidyL [(4, aR 0 4 (([x23] : List api_Value).length)), (7, .pv (encSl R_api_Value a0)), (8, aI ((sll a0).length : Int)), (9, aI (IntKind.wrap .i64 (y14 + 1)))] [bR 64 4 R_api_Value ([x23] : List api_Value) 0 0] (by kernel_rfl), .inr (⟨([x23] : List api_Value), (IntKind.wrap .i64 (y14 + 1)), hm, rfl, rfl⟩)⟩
   ·
    refine cf h16 (by kernel_rfl) (wp_exit ?_)
    exact .inl ⟨aI y14, aB (decide (y14 < ((sll a0).length : Int))), hm, (mk_same (by kernel_rfl)), rfl⟩
  ·
   simp only [hist_sorted_l3] at hm
   refine sq (detn [(4, aR 0 4 y13.length), (7, .pv (encSl R_api_Value a0)), (8, aI ((sll a0).length : Int)), (9, aI y14), (10, aB (decide (y14 < ((sll a0).length : Int))))] (by kernel_rfl) ?_)
   refine sq ?_
   rcases bif_some hm with ⟨h26, hm⟩ | ⟨h26, hm⟩
   ·
    refine ct h26 (by kernel_rfl) (wp_skip (sq (bq (sq (rg ?_)))))
    obtain ⟨x27, h28, hm⟩ := bs hm
    refine dv 11 (v := .pv (.ptr (R_api_Value x27) 0)) (ia_slO R_api_Value a0 .i64 t52 t64 h28 rfl (by kernel_rfl)) (by kernel_rfl) (st 3 [(6, .ptr 1 0), (12, .agg [aI x27.fKind, aI x27.fInt, aF x27.fFloat, aS x27.fText])] [bR 64 4 R_api_Value y13 0 0, .box [aI x27.fKind, aI x27.fInt, aF x27.fFloat, aS x27.fText] false] (by kernel_rfl) (fin [(4, aR 0 4 y13.length), (6, .ptr 1 0), (7, .pv (encSl R_api_Value a0)), (8, aI ((sll a0).length : Int)), (9, aI y14)] rfl (by kernel_rfl) (sq (bq (sq (rg (sh 1 [(14, .agg [aI x27.fKind, aI x27.fInt, aF x27.fFloat, aS x27.fText])] (by kernel_rfl) ?_)))))))
    obtain ⟨x29, h30, hm⟩ := bs hm
    refine dv 15 (cpure (by kernel_rfl) (ok_value_Right h30) (by kernel_rfl) (by kernel_rfl) (by kernel_rfl)) (by kernel_rfl) (sh 2 [(13, aB (!x29)), (16, aB (!x29))] (by kernel_rfl) (fin [(4, aR 0 4 y13.length), (6, .ptr 1 0), (7, .pv (encSl R_api_Value a0)), (8, aI ((sll a0).length : Int)), (9, aI y14), (13, aB (!x29))] rfl (by kernel_rfl) ?_))
    rcases bif_some hm with ⟨h31, hm⟩ | ⟨h31, hm⟩
    ·
     refine ct h31 (by kernel_rfl) (sq (detn [(2, .pv .nils), (3, aB false)] (by kernel_rfl) (wp_ret ?_)))
     obtain rfl := Option.some.inj hm
     exact ⟨trivial, by kernel_rfl⟩
    ·
     refine cf h31 (by kernel_rfl) (sq (detn [(4, aR 0 4 y13.length), (6, .ptr 1 0), (7, .pv (encSl R_api_Value a0)), (8, aI ((sll a0).length : Int)), (9, aI y14), (17, aB (x27.fKind == 0))] (by kernel_rfl) ?_))
     rcases bif_some hm with ⟨h32, hm⟩ | ⟨h32, hm⟩
     ·
      refine ct h32 (by kernel_rfl) (wp_exit (detn [(4, aR 0 4 y13.length), (7, .pv (encSl R_api_Value a0)), (8, aI ((sll a0).length : Int)), (9, aI (IntKind.wrap .i64 (y14 + 1)))] (by kernel_rfl) ?_))
      exact ⟨_, _, tidyL [(4, aR 0 4 y13.length), (7, .pv (encSl R_api_Value a0)), (8, aI ((sll a0).length : Int)), (9, aI (IntKind.wrap .i64 (y14 + 1)))] [bR 64 4 R_api_Value y13 0 0] (by kernel_rfl), .inr (⟨y13, (IntKind.wrap .i64 (y14 + 1)), hm, rfl, rfl⟩)⟩
     ·
      refine cf h32 (by kernel_rfl) (sq (rgd (shd 1 [(22, aR 0 4 y13.length)] (by kernel_rfl) (dvd 23 (v := aI (y13.length : Int)) (len_refO y13 (n := y13.length) (id := 0) (esz := 4) t52 rfl (by kernel_rfl)) (by kernel_rfl) (shd 2 [(25, aB (decide ((y13.length : Int) > 0))), (24, aB (decide ((y13.length : Int) > 0)))] (by kernel_rfl) ?_)))))
      rcases bif_some hm with ⟨h33, hm⟩ | ⟨h33, hm⟩
      ·
       refine knownd [25, 24] h33 (by kernel_rfl) (shd 1 [(26, aR 0 4 y13.length)] (by kernel_rfl) ?_)
       obtain ⟨x34, h35, hm⟩ := bs hm
       refine dvd 27 (v := .eptr 0 0 y13.length 4 (0 + Int.toNat 0) 0) (ia_refO y13 .i64 (n := y13.length) (id := 0) (esz := 4) t52 t64 h35 rfl rfl (by kernel_rfl)) (by kernel_rfl) (shd 1 [(28, .eptr 0 0 y13.length 4 (0 + Int.toNat 0) 0)] (by kernel_rfl) (dvd 29 (v := aI x34.fKind) (ld_eptrO R_api_Value y13 (n := y13.length) (esz := 4) (j := 0) (off := 0) (id := 0) t3 rfl h35 rfl (Nat.zero_le _) (by kernel_rfl) (by kernel_rfl)) (by kernel_rfl) (shd 5 [(21, aB (x34.fKind != x27.fKind)), (33, aB (x34.fKind != x27.fKind)), (32, aB (x34.fKind != x27.fKind)), (31, aI x27.fKind), (30, .ptr 1 0)] (by kernel_rfl) (find [(4, aR 0 4 y13.length), (6, .ptr 1 0), (7, .pv (encSl R_api_Value a0)), (8, aI ((sll a0).length : Int)), (9, aI y14), (21, aB (x34.fKind != x27.fKind))] rfl (by kernel_rfl) (by kernel_rfl) ?_))))
       rcases bif_some hm with ⟨h36, hm⟩ | ⟨h36, hm⟩
       ·
        refine ct h36 (by kernel_rfl) (sq (detn [(2, .pv .nils), (3, aB false)] (by kernel_rfl) (wp_ret ?_)))
        obtain rfl := Option.some.inj hm
        exact ⟨trivial, by kernel_rfl⟩
       ·
        refine cf h36 (by kernel_rfl) (wp_skip (rg (sh 2 [(35, .agg [aI x27.fKind, aI x27.fInt, aF x27.fFloat, aS x27.fText]), (34, aR 0 4 y13.length)] (by kernel_rfl) ?_)))
        obtain ⟨x37, h38, hm⟩ := bs hm
        refine dv 36 (cpure (by kernel_rfl) (ok_value_Plain h38) (by kernel_rfl) (by kernel_rfl) (by kernel_rfl)) (by kernel_rfl) (st 1 [(37, aR 2 4 1)] [bR 64 4 R_api_Value y13 0 0, .box [aI x27.fKind, aI x27.fInt, aF x27.fFloat, aS x27.fText] false, bR 64 4 R_api_Value ([x37] : List api_Value) 0 0] (by kernel_rfl) ?_)
        obtain ⟨_, h39, hm⟩ := bs hm
        refine dO [(38, aR 0 4 ((y13 ++ ([x37] : List api_Value)).length))] [bR 64 4 R_api_Value (y13 ++ ([x37] : List api_Value)) 0 0, .box [aI x27.fKind, aI x27.fInt, aF x27.fFloat, aS x27.fText] false, bR 64 4 R_api_Value ([x37] : List api_Value) 0 0] (app_refO (u := 0) (n := y13.length) (id := 0) R_api_Value y13 ([x37] : List api_Value) (b := 40) t52 t64 rfl rfl rfl (fun _ => rfl) rfl h39 rfl rfl (Nat.zero_le _) (show srcRows (aR 2 4 1) _ = some (([x37] : List api_Value).map R_api_Value) from by kernel_rfl) (by kernel_rfl)) (by kernel_rfl) (sh 1 [(4, aR 0 4 ((y13 ++ ([x37] : List api_Value)).length))] (by kernel_rfl) (fin [(4, aR 0 4 ((y13 ++ ([x37] : List api_Value)).length)), (7, .pv (encSl R_api_Value a0)), (8, aI ((sll a0).length : Int)), (9, aI y14)] rfl (by kernel_rfl) (detn [(4, aR 0 4 ((y13 ++ ([x37] : List api_Value)).length)), (7, .pv (encSl R_api_Value a0)), (8, aI ((sll a0).length : Int)), (9, aI (IntKind.wrap .i64 (y14 + 1)))] (by kernel_rfl) ?_)))
        exact ⟨_, _, tidyL [(4, aR 0 4 ((y13 ++ ([x37] : List api_Value)).length)), (7, .pv (encSl R_api_Value a0)), (8, aI ((sll a0).length : Int)), (9, aI (IntKind.wrap .i64 (y14 + 1)))] [bR 64 4 R_api_Value (y13 ++ ([x37] : List api_Value)) 0 0] (by kernel_rfl), .inr (⟨(y13 ++ ([x37] : List api_Value)), (IntKind.wrap .i64 (y14 + 1)), hm, rfl, rfl⟩)⟩
      ·
       refine knownd [25, 24] h33 (by kernel_rfl) (shd 9 [(21, aB false), (33, aB false), (32, .undef), (31, .undef), (30, .undef), (29, .undef), (28, .undef), (27, .undef), (26, .undef)] (by kernel_rfl) (find [(4, aR 0 4 y13.length), (6, .ptr 1 0), (7, .pv (encSl R_api_Value a0)), (8, aI ((sll a0).length : Int)), (9, aI y14), (21, aB false)] rfl (by kernel_rfl) (by kernel_rfl) (cF (by kernel_rfl) (wp_skip (rg (sh 2 [(35, .agg [aI x27.fKind, aI x27.fInt, aF x27.fFloat, aS x27.fText]), (34, aR 0 4 y13.length)] (by kernel_rfl) ?_))))))
       obtain ⟨x40, h41, hm⟩ := bs hm
       refine dv 36 (cpure (by kernel_rfl) (ok_value_Plain h41) (by kernel_rfl) (by kernel_rfl) (by kernel_rfl)) (by kernel_rfl) (st 1 [(37, aR 2 4 1)] [bR 64 4 R_api_Value y13 0 0, .box [aI x27.fKind, aI x27.fInt, aF x27.fFloat, aS x27.fText] false, bR 64 4 R_api_Value ([x40] : List api_Value) 0 0] (by kernel_rfl) ?_)
       obtain ⟨_, h42, hm⟩ := bs hm
       refine dO [(38, aR 0 4 ((y13 ++ ([x40] : List api_Value)).length))] [bR 64 4 R_api_Value (y13 ++ ([x40] : List api_Value)) 0 0, .box [aI x27.fKind, aI x27.fInt, aF x27.fFloat, aS x27.fText] false, bR 64 4 R_api_Value ([x40] : List api_Value) 0 0] (app_refO (u := 0) (n := y13.length) (id := 0) R_api_Value y13 ([x40] : List api_Value) (b := 40) t52 t64 rfl rfl rfl (fun _ => rfl) rfl h42 rfl rfl (Nat.zero_le _) (show srcRows (aR 2 4 1) _ = some (([x40] : List api_Value).map R_api_Value) from by kernel_rfl) (by kernel_rfl)) (by kernel_rfl) (sh 1 [(4, aR 0 4 ((y13 ++ ([x40] : List api_Value)).length))] (by kernel_rfl) (fin [(4, aR 0 4 ((y13 ++ ([x40] : List api_Value)).length)), (7, .pv (encSl R_api_Value a0)), (8, aI ((sll a0).length : Int)), (9, aI y14)] rfl (by kernel_rfl) (detn [(4, aR 0 4 ((y13 ++ ([x40] : List api_Value)).length)), (7, .pv (encSl R_api_Value a0)), (8, aI ((sll a0).length : Int)), (9, aI (IntKind.wrap .i64 (y14 + 1)))] (by kernel_rfl) ?_)))
       exact ⟨_, _, tidyL [(4, aR 0 4 ((y13 ++ ([x40] : List api_Value)).length)), (7, .pv (encSl R_api_Value a0)), (8, aI ((sll a0).length : Int)), (9, aI (IntKind.wrap .i64 (y14 + 1)))] [bR 64 4 R_api_Value (y13 ++ ([x40] : List api_Value)) 0 0] (by kernel_rfl), .inr (⟨(y13 ++ ([x40] : List api_Value)), (IntKind.wrap .i64 (y14 + 1)), hm, rfl, rfl⟩)⟩
   ·
    refine cf h26 (by kernel_rfl) (wp_exit ?_)
    exact .inr (⟨y13, aI y14, aB (decide (y14 < ((sll a0).length : Int))), hm, (mk_same (by kernel_rfl)), rfl⟩)
theorem ok_value_Same {n : Nat} {a0 : api_Value} {a1 : api_Value} {r : Bool} (hm : value_Same n a0 a1 = some r) :
    call G n 40 [.agg [aI a0.fKind, aI a0.fInt, aF a0.fFloat, aS a0.fText], .agg [aI a1.fKind, aI a1.fInt, aF a1.fFloat, aS a1.fText]] [] = some (.ret (aB r), []) := by
  unfold value_Same at hm
  obtain ⟨n, rfl, h0⟩ := at1_some hm
  replace hm := h0; clear h0
  refine callL 9 [(0, .agg [aI a0.fKind, aI a0.fInt, aF a0.fFloat, aS a0.fText]), (1, .agg [aI a1.fKind, aI a1.fInt, aF a1.fFloat, aS a1.fText])] func40 rfl (by kernel_rfl) (sq (det [(2, .ptr 0 0), (3, .ptr 1 0)] [.box [aI a0.fKind, aI a0.fInt, aF a0.fFloat, aS a0.fText] false, .box [aI a1.fKind, aI a1.fInt, aF a1.fFloat, aS a1.fText] false] (by kernel_rfl) (sq (rg (sh 2 [(6, .agg [aI a1.fKind, aI a1.fInt, aF a1.fFloat, aS a1.fText]), (5, .agg [aI a0.fKind, aI a0.fInt, aF a0.fFloat, aS a0.fText])] (by kernel_rfl) ?_)))))
  obtain ⟨x1, h2, hm⟩ := bs hm
  refine dv 7 (cpure (by kernel_rfl) (ok_value_Cmp h2) (by kernel_rfl) (by kernel_rfl) (by kernel_rfl)) (by kernel_rfl) (sh 2 [(4, aB (x1 == 0)), (8, aB (x1 == 0))] (by kernel_rfl) (fin [(4, aB (x1 == 0))] rfl (by kernel_rfl) (wp_ret ?_)))
  obtain rfl := Option.some.inj hm
  exact ⟨trivial, by kernel_rfl⟩
theorem ok_hist_cut {n : Nat} {a0 : (Option (List api_Value))} {a1 : Int} {r : hist_Bucket} (hm : hist_cut n a0 a1 = some r) :
    call G n 63 [.pv (encSl R_api_Value a0), aI a1] [] = some (.ret (.agg [aI r.fLow.fKind, aI r.fLow.fInt, aF r.fLow.fFloat, aS r.fLow.fText, aI r.fHigh.fKind, aI r.fHigh.fInt, aF r.fHigh.fFloat, aS r.fHigh.fText, aI r.fCount, aI r.fDistinct]), []) := by
  unfold hist_cut at hm
  obtain ⟨n, rfl, h0⟩ := at1_some hm
  replace hm := h0; clear h0
  refine callL 60 [(0, .pv (encSl R_api_Value a0)), (1, aI a1)] func63 rfl (by kernel_rfl) (sq (det [(0, .pv (encSl R_api_Value a0)), (1, aI a1), (4, .ptr 0 0)] [.box [aI 0, aI 0, aF 0, aS ByteArray.empty, aI 0, aI 0, aF 0, aS ByteArray.empty, aI 0, aI 0] false] (by kernel_rfl) (sq (rg (sh 2 [(8, .pv (encSl R_api_Value a0)), (7, aI a1)] (by kernel_rfl) (dv 9 (v := aI ((sll a0).length : Int)) (len_slO R_api_Value a0 t52 (by kernel_rfl)) (by kernel_rfl) (sh 2 [(1, aI (if ((sll a0).length : Int) < a1 then ((sll a0).length : Int) else a1)), (10, aI (if ((sll a0).length : Int) < a1 then ((sll a0).length : Int) else a1))] (by kernel_rfl) (fin [(0, .pv (encSl R_api_Value a0)), (1, aI (if ((sll a0).length : Int) < a1 then ((sll a0).length : Int) else a1)), (4, .ptr 0 0)] rfl (by kernel_rfl) ?_))))))))
  obtain ⟨k3, hk3, hm⟩ := withK_some hm
  refine mid (fun t H => (∃ (y1 : Int) (y2 : Bool), k3 y1 = some r ∧ t = mk 60 [(0, .pv (encSl R_api_Value a0)), (1, aI y1), (4, .ptr 0 0), (26, aB y2)] ∧ H = [.box [aI 0, aI 0, aF 0, aS ByteArray.empty, aI 0, aI 0, aF 0, aS ByteArray.empty, aI 0, aI 0] false])) ?_ ?_
  ·
   rintro _ _ ⟨y1, y2, hm, rfl, rfl⟩
   subst hk3
   refine sq (rgd (shd 1 [(29, .pv (encSl R_api_Value a0))] (by kernel_rfl) ?_))
   obtain ⟨x4, h5, hm⟩ := bs hm
   refine dvd 30 (v := .pv (.ptr (R_api_Value x4) 0)) (ia_slO R_api_Value a0 .i64 t52 t64 h5 rfl (by kernel_rfl)) (by kernel_rfl) (shd 4 [(34, aI (IntKind.wrap .i64 (y1 - 1))), (33, aI y1), (32, .pv (encSl R_api_Value a0)), (31, .agg [aI x4.fKind, aI x4.fInt, aF x4.fFloat, aS x4.fText])] (by kernel_rfl) ?_)
   obtain ⟨x6, h7, hm⟩ := bs hm
   refine dvd 35 (v := .pv (.ptr (R_api_Value x6) 0)) (ia_slO R_api_Value a0 .i64 t52 t64 h7 rfl (by kernel_rfl)) (by kernel_rfl) (std 5 [(5, .ptr 1 0), (38, .agg [aI x4.fKind, aI x4.fInt, aF x4.fFloat, aS x4.fText, aI x6.fKind, aI x6.fInt, aF x6.fFloat, aS x6.fText, aI y1, aI 1]), (37, aI y1), (36, .agg [aI x6.fKind, aI x6.fInt, aF x6.fFloat, aS x6.fText])] [.box [aI 0, aI 0, aF 0, aS ByteArray.empty, aI 0, aI 0, aF 0, aS ByteArray.empty, aI 0, aI 0] false, .box [aI x4.fKind, aI x4.fInt, aF x4.fFloat, aS x4.fText, aI x6.fKind, aI x6.fInt, aF x6.fFloat, aS x6.fText, aI y1, aI 1] false] (by kernel_rfl) (find [(0, .pv (encSl R_api_Value a0)), (1, aI y1), (4, .ptr 0 0), (5, .ptr 1 0)] rfl (by kernel_rfl) (by kernel_rfl) ?_))
   obtain ⟨k11, hk11, hm⟩ := withK_some hm
   refine mid (fun t H => (∃ (y8 : Int) (y9 : Bool) (y10 : Int), k11 y8 = some r ∧ t = mk 60 [(0, .pv (encSl R_api_Value a0)), (1, aI y1), (4, .ptr 0 0), (5, .ptr 1 0), (6, aI y10), (41, aB y9)] ∧ H = [.box [aI 0, aI 0, aF 0, aS ByteArray.empty, aI 0, aI 0, aF 0, aS ByteArray.empty, aI 0, aI 0] false, .box [aI x4.fKind, aI x4.fInt, aF x4.fFloat, aS x4.fText, aI x6.fKind, aI x6.fInt, aF x6.fFloat, aS x6.fText, aI y1, aI y8] false])) ?_ ?_
   ·
    rintro _ _ ⟨y8, y9, y10, hm, rfl, rfl⟩
    subst hk11
    refine sq (det [(4, .ptr 0 0)] [.box [aI x4.fKind, aI x4.fInt, aF x4.fFloat, aS x4.fText, aI x6.fKind, aI x6.fInt, aF x6.fFloat, aS x6.fText, aI y1, aI y8] false, .box [aI x4.fKind, aI x4.fInt, aF x4.fFloat, aS x4.fText, aI x6.fKind, aI x6.fInt, aF x6.fFloat, aS x6.fText, aI y1, aI y8] false] (by kernel_rfl) (wp_ret ?_))
    obtain rfl := Option.some.inj hm
    exact ⟨trivial, by kernel_rfl⟩
   refine sq (detn [(0, .pv (encSl R_api_Value a0)), (1, aI y1), (4, .ptr 0 0), (5, .ptr 1 0), (6, aI 1)] (by kernel_rfl) (bq ?_))
   refine loopF (fun mm t H => (∃ (y14 : Int) (y15 : Int), hist_cut_l6 n a0 y1 k11 mm y14 y15 = some r ∧ t = mk 60 [(0, .pv (encSl R_api_Value a0)), (1, aI y1), (4, .ptr 0 0), (5, .ptr 1 0), (6, aI y15)] ∧ H = [.box [aI 0, aI 0, aF 0, aS ByteArray.empty, aI 0, aI 0, aF 0, aS ByteArray.empty, aI 0, aI 0] false, .box [aI x4.fKind, aI x4.fInt, aF x4.fFloat, aS x4.fText, aI x6.fKind, aI x6.fInt, aF x6.fFloat, aS x6.fText, aI y1, aI y14] false])) (⟨1, 1, hm, rfl, rfl⟩) ?_ ?_
   · rintro _ _ ⟨y14, y15, hm, _⟩; exact nomatch hm
   rintro m16 _ _ ⟨y14, y15, hm, rfl, rfl⟩
   simp only [hist_cut_l6] at hm
   refine sq (sq (detn [(0, .pv (encSl R_api_Value a0)), (1, aI y1), (4, .ptr 0 0), (5, .ptr 1 0), (6, aI y15), (41, aB (decide (y15 < y1)))] (by kernel_rfl) ?_))
   rcases bif_some hm with ⟨h17, hm⟩ | ⟨h17, hm⟩
   ·
    refine ct h17 (by kernel_rfl) (wp_skip (sq (bq (sq (rgd (shd 2 [(45, aI y15), (44, .pv (encSl R_api_Value a0))] (by kernel_rfl) ?_))))))
    obtain ⟨x18, h19, hm⟩ := bs hm
    refine dvd 46 (v := .pv (.ptr (R_api_Value x18) 0)) (ia_slO R_api_Value a0 .i64 t52 t64 h19 rfl (by kernel_rfl)) (by kernel_rfl) (shd 4 [(50, aI (IntKind.wrap .i64 (y15 - 1))), (49, aI y15), (48, .pv (encSl R_api_Value a0)), (47, .agg [aI x18.fKind, aI x18.fInt, aF x18.fFloat, aS x18.fText])] (by kernel_rfl) ?_)
    obtain ⟨x20, h21, hm⟩ := bs hm
    refine dvd 51 (v := .pv (.ptr (R_api_Value x20) 0)) (ia_slO R_api_Value a0 .i64 t52 t64 h21 rfl (by kernel_rfl)) (by kernel_rfl) (shd 1 [(52, .agg [aI x20.fKind, aI x20.fInt, aF x20.fFloat, aS x20.fText])] (by kernel_rfl) ?_)
    obtain ⟨x22, h23, hm⟩ := bs hm
    refine dvd 53 (cpure (by kernel_rfl) (ok_value_Same h23) (by kernel_rfl) (by kernel_rfl) (by kernel_rfl)) (by kernel_rfl) (shd 1 [(54, aB (!x22))] (by kernel_rfl) (find [(0, .pv (encSl R_api_Value a0)), (1, aI y1), (4, .ptr 0 0), (5, .ptr 1 0), (6, aI y15), (54, aB (!x22))] rfl (by kernel_rfl) (by kernel_rfl) ?_))
    rcases bif_some hm with ⟨h24, hm⟩ | ⟨h24, hm⟩
    ·
     refine ct h24 (by kernel_rfl) (det [(0, .pv (encSl R_api_Value a0)), (1, aI y1), (4, .ptr 0 0), (5, .ptr 1 0), (6, aI y15)] [.box [aI 0, aI 0, aF 0, aS ByteArray.empty, aI 0, aI 0, aF 0, aS ByteArray.empty, aI 0, aI 0] false, .box [aI x4.fKind, aI x4.fInt, aF x4.fFloat, aS x4.fText, aI x6.fKind, aI x6.fInt, aF x6.fFloat, aS x6.fText, aI y1, aI (IntKind.wrap .i64 (y14 + 1))] false] (by kernel_rfl) (detn [(0, .pv (encSl R_api_Value a0)), (1, aI y1), (4, .ptr 0 0), (5, .ptr 1 0), (6, aI (IntKind.wrap .i64 (y15 + 1)))] (by kernel_rfl) ?_))
     exact ⟨_, _, tidyL [(0, .pv (encSl R_api_Value a0)), (1, aI y1), (4, .ptr 0 0), (5, .ptr 1 0), (6, aI (IntKind.wrap .i64 (y15 + 1)))] [.box [aI 0, aI 0, aF 0, aS ByteArray.empty, aI 0, aI 0, aF 0, aS ByteArray.empty, aI 0, aI 0] false, .box [aI x4.fKind, aI x4.fInt, aF x4.fFloat, aS x4.fText, aI x6.fKind, aI x6.fInt, aF x6.fFloat, aS x6.fText, aI y1, aI (IntKind.wrap .i64 (y14 + 1))] false] (by kernel_rfl), ⟨(IntKind.wrap .i64 (y14 + 1)), (IntKind.wrap .i64 (y15 + 1)), hm, rfl, rfl⟩⟩
    ·
     refine cf h24 (by kernel_rfl) (wp_skip (detn [(0, .pv (encSl R_api_Value a0)), (1, aI y1), (4, .ptr 0 0), (5, .ptr 1 0), (6, aI (IntKind.wrap .i64 (y15 + 1)))] (by kernel_rfl) ?_))
     exact ⟨_, _, tidyL [(0, .pv (encSl R_api_Value a0)), (1, aI y1), (4, .ptr 0 0), (5, .ptr 1 0), (6, aI (IntKind.wrap .i64 (y15 + 1)))] [.box [aI 0, aI 0, aF 0, aS ByteArray.empty, aI 0, aI 0, aF 0, aS ByteArray.empty, aI 0, aI 0] false, .box [aI x4.fKind, aI x4.fInt, aF x4.fFloat, aS x4.fText, aI x6.fKind, aI x6.fInt, aF x6.fFloat, aS x6.fText, aI y1, aI y14] false] (by kernel_rfl), ⟨y14, (IntKind.wrap .i64 (y15 + 1)), hm, rfl, rfl⟩⟩
   ·
    refine cf h17 (by kernel_rfl) (wp_exit ?_)
    exact ⟨y14, (decide (y15 < y1)), y15, hm, rfl, rfl⟩
  refine bq ?_
  refine loopF (fun mm t H => (∃ (y26 : Int), hist_cut_l2 n a0 k3 mm y26 = some r ∧ t = mk 60 [(0, .pv (encSl R_api_Value a0)), (1, aI y26), (4, .ptr 0 0)] ∧ H = [.box [aI 0, aI 0, aF 0, aS ByteArray.empty, aI 0, aI 0, aF 0, aS ByteArray.empty, aI 0, aI 0] false])) (⟨(if ((sll a0).length : Int) < a1 then ((sll a0).length : Int) else a1), hm, rfl, rfl⟩) ?_ ?_
  · rintro _ _ ⟨y26, hm, _⟩; exact nomatch hm
  rintro m27 _ _ ⟨y26, hm, rfl, rfl⟩
  simp only [hist_cut_l2] at hm
  refine sq (sq (rgd (shd 2 [(12, .pv (encSl R_api_Value a0)), (11, aI y26)] (by kernel_rfl) (dvd 13 (v := aI ((sll a0).length : Int)) (len_slO R_api_Value a0 t52 (by kernel_rfl)) (by kernel_rfl) (shd 2 [(15, aB (decide (y26 < ((sll a0).length : Int)))), (14, aB (decide (y26 < ((sll a0).length : Int))))] (by kernel_rfl) ?_)))))
  rcases bif_some hm with ⟨h28, hm⟩ | ⟨h28, hm⟩
  ·
   refine knownd [15, 14] h28 (by kernel_rfl) (shd 2 [(17, aI y26), (16, .pv (encSl R_api_Value a0))] (by kernel_rfl) ?_)
   obtain ⟨x29, h30, hm⟩ := bs hm
   refine dvd 18 (v := .pv (.ptr (R_api_Value x29) 0)) (ia_slO R_api_Value a0 .i64 t52 t64 h30 rfl (by kernel_rfl)) (by kernel_rfl) (shd 4 [(22, aI (IntKind.wrap .i64 (y26 - 1))), (21, aI y26), (20, .pv (encSl R_api_Value a0)), (19, .agg [aI x29.fKind, aI x29.fInt, aF x29.fFloat, aS x29.fText])] (by kernel_rfl) ?_)
   obtain ⟨x31, h32, hm⟩ := bs hm
   refine dvd 23 (v := .pv (.ptr (R_api_Value x31) 0)) (ia_slO R_api_Value a0 .i64 t52 t64 h32 rfl (by kernel_rfl)) (by kernel_rfl) (shd 1 [(24, .agg [aI x31.fKind, aI x31.fInt, aF x31.fFloat, aS x31.fText])] (by kernel_rfl) ?_)
   obtain ⟨x33, h34, hm⟩ := bs hm
   refine dvd 25 (cpure (by kernel_rfl) (ok_value_Same h34) (by kernel_rfl) (by kernel_rfl) (by kernel_rfl)) (by kernel_rfl) (shd 1 [(26, aB x33)] (by kernel_rfl) (find [(0, .pv (encSl R_api_Value a0)), (1, aI y26), (4, .ptr 0 0), (26, aB x33)] rfl (by kernel_rfl) (by kernel_rfl) ?_))
   rcases bif_some hm with ⟨h35, hm⟩ | ⟨h35, hm⟩
   ·
    refine ct h35 (by kernel_rfl) (wp_skip (bq (detn [(0, .pv (encSl R_api_Value a0)), (1, aI (IntKind.wrap .i64 (y26 + 1))), (4, .ptr 0 0)] (by kernel_rfl) ?_)))
    exact ⟨_, _, tidyL [(0, .pv (encSl R_api_Value a0)), (1, aI (IntKind.wrap .i64 (y26 + 1))), (4, .ptr 0 0)] [.box [aI 0, aI 0, aF 0, aS ByteArray.empty, aI 0, aI 0, aF 0, aS ByteArray.empty, aI 0, aI 0] false] (by kernel_rfl), ⟨(IntKind.wrap .i64 (y26 + 1)), hm, rfl, rfl⟩⟩
   ·
    refine cf h35 (by kernel_rfl) (wp_exit ?_)
    exact ⟨y26, x33, hm, rfl, rfl⟩
  ·
   refine knownd [15, 14] h28 (by kernel_rfl) (shd 11 [(26, aB false), (25, .undef), (24, .undef), (23, .undef), (22, .undef), (21, .undef), (20, .undef), (19, .undef), (18, .undef), (17, .undef), (16, .undef)] (by kernel_rfl) (find [(0, .pv (encSl R_api_Value a0)), (1, aI y26), (4, .ptr 0 0), (26, aB false)] rfl (by kernel_rfl) (by kernel_rfl) (cF (by kernel_rfl) (wp_exit ?_))))
   exact ⟨y26, false, hm, rfl, rfl⟩
theorem ok_hist_Build {n : Nat} {a0 : (Option (List api_Value))} {a1 : Int} {r : (Option (List hist_Bucket)) × Int} (hm : hist_Build n a0 a1 = some r) :
    call G n 26 [.pv (encSl R_api_Value a0), aI a1] [] = some (.ret (.tup [.pv (encSl R_hist_Bucket r.1), aI r.2]), []) := by
  unfold hist_Build at hm
  obtain ⟨n, rfl, h0⟩ := at1_some hm
  replace hm := h0; clear h0
  refine callL 51 [(0, .pv (encSl R_api_Value a0)), (1, aI a1)] func26 rfl (by kernel_rfl) (sq (detn [(0, .pv (encSl R_api_Value a0)), (1, aI a1)] (by kernel_rfl) ?_))
  refine sq (sq (rg (sh 3 [(13, aB (decide (a1 < 1))), (12, aB (decide (a1 < 1))), (11, aI a1)] (by kernel_rfl) ?_)))
  refine seg (decide (a1 < 1)) [13, 12] (fun b => [(16, aB (b || (decide (a1 > 50)))), (15, ifA b (.undef) (aB (decide (a1 > 50)))), (14, ifA b (.undef) (aI a1))]) 6 (by kernel_rfl) ?_ ?_ ?_
  ·
   intro Q h
   refine sh 3 [(16, aB true), (15, .undef), (14, .undef)] (by kernel_rfl) ?_
   exact sameN (by kernel_rfl) (by kernel_rfl) h
  ·
   intro Q h
   refine sh 3 [(16, aB (decide (a1 > 50))), (15, aB (decide (a1 > 50))), (14, aI a1)] (by kernel_rfl) ?_
   exact sameN (by kernel_rfl) (by kernel_rfl) h
  refine sh 1 [(17, aB ((decide (a1 < 1)) || (decide (a1 > 50))))] (by kernel_rfl) ?_
  refine seg ((decide (a1 < 1)) || (decide (a1 > 50))) [17, 16] (fun b => [(21, aB (b || (decide (((sll a0).length : Int) > 400)))), (20, ifA b (.undef) (aB (decide (((sll a0).length : Int) > 400)))), (19, ifA b (.undef) (aI ((sll a0).length : Int))), (18, ifA b (.undef) (.pv (encSl R_api_Value a0)))]) 11 (by kernel_rfl) ?_ ?_ ?_
  ·
   intro Q h
   refine sh 4 [(21, aB true), (20, .undef), (19, .undef), (18, .undef)] (by kernel_rfl) ?_
   exact sameN (by kernel_rfl) (by kernel_rfl) h
  ·
   intro Q h
   refine sh 1 [(18, .pv (encSl R_api_Value a0))] (by kernel_rfl) (dv 19 (v := aI ((sll a0).length : Int)) (len_slO R_api_Value a0 t52 (by kernel_rfl)) (by kernel_rfl) (sh 2 [(21, aB (decide (((sll a0).length : Int) > 400))), (20, aB (decide (((sll a0).length : Int) > 400)))] (by kernel_rfl) ?_))
   exact sameN (by kernel_rfl) (by kernel_rfl) h
  refine fin [(0, .pv (encSl R_api_Value a0)), (1, aI a1), (21, aB (((decide (a1 < 1)) || (decide (a1 > 50))) || (decide (((sll a0).length : Int) > 400))))] rfl (by kernel_rfl) ?_
  rcases bif_some hm with ⟨h1, hm⟩ | ⟨h1, hm⟩
  ·
   refine ct h1 (by kernel_rfl) (sq (detn [(4, .pv .nils), (5, aI 2)] (by kernel_rfl) (wp_ret ?_)))
   obtain rfl := Option.some.inj hm
   exact ⟨trivial, by kernel_rfl⟩
  ·
   refine cf h1 (by kernel_rfl) (wp_skip (sq (rg (sh 1 [(23, .pv (encSl R_api_Value a0))] (by kernel_rfl) ?_))))
   obtain ⟨x2, h3, hm⟩ := bs hm
   refine dv 24 (cpure (by kernel_rfl) (ok_hist_sorted h3) (by kernel_rfl) (by kernel_rfl) (by kernel_rfl)) (by kernel_rfl) (sh 5 [(7, aB x2.2), (6, .pv (encSl R_api_Value x2.1)), (26, aB x2.2), (25, .pv (encSl R_api_Value x2.1)), (22, .tup [.pv (encSl R_api_Value x2.1), aB x2.2])] (by kernel_rfl) (fin [(1, aI a1), (6, .pv (encSl R_api_Value x2.1)), (7, aB x2.2)] rfl (by kernel_rfl) ?_))
   refine sq (sq (detn [(1, aI a1), (6, .pv (encSl R_api_Value x2.1)), (28, aB (!x2.2))] (by kernel_rfl) ?_))
   rcases bif_some hm with ⟨h4, hm⟩ | ⟨h4, hm⟩
   ·
    refine ct h4 (by kernel_rfl) (sq (detn [(4, .pv .nils), (5, aI 2)] (by kernel_rfl) (wp_ret ?_)))
    obtain rfl := Option.some.inj hm
    exact ⟨trivial, by kernel_rfl⟩
   ·
    refine cf h4 (by kernel_rfl) (wp_skip (sq (rg (sh 1 [(29, .pv (encSl R_api_Value x2.1))] (by kernel_rfl) (dv 30 (v := aI ((sll x2.1).length : Int)) (len_slO R_api_Value x2.1 t52 (by kernel_rfl)) (by kernel_rfl) (sh 4 [(34, aI a1), (33, aI (IntKind.wrap .i64 ((IntKind.wrap .i64 (((sll x2.1).length : Int) + a1)) - 1))), (32, aI (IntKind.wrap .i64 (((sll x2.1).length : Int) + a1))), (31, aI a1)] (by kernel_rfl) ?_))))))
    obtain ⟨_, h5, hm⟩ := bs hm
    refine dv 35 (v := aI (IntKind.wrap .i64 (Int.tdiv (IntKind.wrap .i64 ((IntKind.wrap .i64 (((sll x2.1).length : Int) + a1)) - 1)) a1))) (quoO h5 (by kernel_rfl)) (by kernel_rfl) (sh 1 [(8, aI (IntKind.wrap .i64 (Int.tdiv (IntKind.wrap .i64 ((IntKind.wrap .i64 (((sll x2.1).length : Int) + a1)) - 1)) a1)))] (by kernel_rfl) (fin [(6, .pv (encSl R_api_Value x2.1)), (8, aI (IntKind.wrap .i64 (Int.tdiv (IntKind.wrap .i64 ((IntKind.wrap .i64 (((sll x2.1).length : Int) + a1)) - 1)) a1)))] rfl (by kernel_rfl) (sq (detn [(6, .pv (encSl R_api_Value x2.1)), (8, aI (IntKind.wrap .i64 (Int.tdiv (IntKind.wrap .i64 ((IntKind.wrap .i64 (((sll x2.1).length : Int) + a1)) - 1)) a1))), (9, .pv .nils)] (by kernel_rfl) ?_))))
    obtain ⟨k9, hk9, hm⟩ := withK_some hm
    refine mid (fun t H => (∃ (w6 : AV) (w7 : AV), k9 none = some r ∧ t = mk 51 [(6, w6), (8, aI (IntKind.wrap .i64 (Int.tdiv (IntKind.wrap .i64 ((IntKind.wrap .i64 (((sll x2.1).length : Int) + a1)) - 1)) a1))), (9, .pv .nils), (38, w7)] ∧ H = []) ∨ (∃ (y8 : (List hist_Bucket)) (w6 : AV) (w7 : AV), k9 (some y8) = some r ∧ t = mk 51 [(6, w6), (8, aI (IntKind.wrap .i64 (Int.tdiv (IntKind.wrap .i64 ((IntKind.wrap .i64 (((sll x2.1).length : Int) + a1)) - 1)) a1))), (9, aR 0 10 y8.length), (38, w7)] ∧ H = [bR 77 10 R_hist_Bucket y8 0 0])) ?_ ?_
    ·
     rintro _ _ (⟨w6, w7, hm, rfl, rfl⟩ | ⟨y8, w6, w7, hm, rfl, rfl⟩)
     ·
      subst hk9
      refine sq (detn [(4, .pv .nils), (5, aI 0)] (by kernel_rfl) (wp_ret ?_))
      obtain rfl := Option.some.inj hm
      exact ⟨trivial, by kernel_rfl⟩
     ·
      subst hk9
      refine sq (detn [(4, aR 0 10 y8.length), (5, aI 0)] (by kernel_rfl) (wp_ret ?_))
      obtain rfl := Option.some.inj hm
      exact ret_pure (v := .tup [aR 0 10 y8.length, aI 0]) trivial rfl (by kernel_rfl) (pR_tup (pAs_cons (pA_ref (pur_ref' (n := y8.length) (id := 0) (l := y8) (R := R_hist_Bucket) rfl rfl (Nat.zero_le _))) (pAs_cons (pA_pv) (rfl))))
    refine bq ?_
    refine loopF (fun mm t H => (∃ (y13 : (Option (List api_Value))), hist_Build_l8 n a1 x2 k9 mm y13 none = some r ∧ t = mk 51 [(6, .pv (encSl R_api_Value y13)), (8, aI (IntKind.wrap .i64 (Int.tdiv (IntKind.wrap .i64 ((IntKind.wrap .i64 (((sll x2.1).length : Int) + a1)) - 1)) a1))), (9, .pv .nils)] ∧ H = []) ∨ (∃ (y13 : (Option (List api_Value))) (y14 : (List hist_Bucket)), hist_Build_l8 n a1 x2 k9 mm y13 (some y14) = some r ∧ t = mk 51 [(6, .pv (encSl R_api_Value y13)), (8, aI (IntKind.wrap .i64 (Int.tdiv (IntKind.wrap .i64 ((IntKind.wrap .i64 (((sll x2.1).length : Int) + a1)) - 1)) a1))), (9, aR 0 10 y14.length)] ∧ H = [bR 77 10 R_hist_Bucket y14 0 0])) (.inl ⟨x2.1, hm, rfl, rfl⟩) ?_ ?_
    · rintro _ _ (⟨y13, hm, _⟩ | ⟨y13, y14, hm, _⟩) <;> exact nomatch hm
    rintro m15 _ _ (⟨y13, hm, rfl, rfl⟩ | ⟨y13, y14, hm, rfl, rfl⟩)
    ·
     simp only [hist_Build_l8] at hm
     refine sq (sq (rg (sh 1 [(36, .pv (encSl R_api_Value y13))] (by kernel_rfl) (dv 37 (v := aI ((sll y13).length : Int)) (len_slO R_api_Value y13 t52 (by kernel_rfl)) (by kernel_rfl) (sh 1 [(38, aB (decide (((sll y13).length : Int) > 0)))] (by kernel_rfl) (fin [(6, .pv (encSl R_api_Value y13)), (8, aI (IntKind.wrap .i64 (Int.tdiv (IntKind.wrap .i64 ((IntKind.wrap .i64 (((sll x2.1).length : Int) + a1)) - 1)) a1))), (9, .pv .nils), (38, aB (decide (((sll y13).length : Int) > 0)))] rfl (by kernel_rfl) ?_))))))
     rcases bif_some hm with ⟨h16, hm⟩ | ⟨h16, hm⟩
     ·
      refine ct h16 (by kernel_rfl) (wp_skip (bq (sq (rg (sh 2 [(40, aI (IntKind.wrap .i64 (Int.tdiv (IntKind.wrap .i64 ((IntKind.wrap .i64 (((sll x2.1).length : Int) + a1)) - 1)) a1))), (39, .pv (encSl R_api_Value y13))] (by kernel_rfl) ?_)))))
      obtain ⟨x17, h18, hm⟩ := bs hm
      refine dv 41 (cpure (by kernel_rfl) (ok_hist_cut h18) (by kernel_rfl) (by kernel_rfl) (by kernel_rfl)) (by kernel_rfl) (st 2 [(10, .ptr 0 0)] [.box [aI x17.fLow.fKind, aI x17.fLow.fInt, aF x17.fLow.fFloat, aS x17.fLow.fText, aI x17.fHigh.fKind, aI x17.fHigh.fInt, aF x17.fHigh.fFloat, aS x17.fHigh.fText, aI x17.fCount, aI x17.fDistinct] false] (by kernel_rfl) (fin [(6, .pv (encSl R_api_Value y13)), (8, aI (IntKind.wrap .i64 (Int.tdiv (IntKind.wrap .i64 ((IntKind.wrap .i64 (((sll x2.1).length : Int) + a1)) - 1)) a1))), (9, .pv .nils), (10, .ptr 0 0)] rfl (by kernel_rfl) (sq (rg (st 3 [(44, aR 1 10 1), (43, .agg [aI x17.fLow.fKind, aI x17.fLow.fInt, aF x17.fLow.fFloat, aS x17.fLow.fText, aI x17.fHigh.fKind, aI x17.fHigh.fInt, aF x17.fHigh.fFloat, aS x17.fHigh.fText, aI x17.fCount, aI x17.fDistinct]), (42, .pv .nils)] [.box [aI x17.fLow.fKind, aI x17.fLow.fInt, aF x17.fLow.fFloat, aS x17.fLow.fText, aI x17.fHigh.fKind, aI x17.fHigh.fInt, aF x17.fHigh.fFloat, aS x17.fHigh.fText, aI x17.fCount, aI x17.fDistinct] false, bR 77 10 R_hist_Bucket ([x17] : List hist_Bucket) 0 0] (by kernel_rfl) ?_)))))
      obtain ⟨_, h19, hm⟩ := bs hm
      refine dO [(45, aR 2 10 (([x17] : List hist_Bucket).length))] [.box [aI x17.fLow.fKind, aI x17.fLow.fInt, aF x17.fLow.fFloat, aS x17.fLow.fText, aI x17.fHigh.fKind, aI x17.fHigh.fInt, aF x17.fHigh.fFloat, aS x17.fHigh.fText, aI x17.fCount, aI x17.fDistinct] false, bR 77 10 R_hist_Bucket ([x17] : List hist_Bucket) 0 0, bR 77 10 R_hist_Bucket ([x17] : List hist_Bucket) 0 0] (app_nilO (u := 0) R_hist_Bucket ([x17] : List hist_Bucket) (b := 96) t53 t77 rfl rfl rfl (fun _ => rfl) rfl h19 (show srcRows (aR 1 10 1) _ = some (([x17] : List hist_Bucket).map R_hist_Bucket) from by kernel_rfl) (by kernel_rfl)) (by kernel_rfl) (sh 1 [(9, aR 2 10 (([x17] : List hist_Bucket).length))] (by kernel_rfl) (fin [(6, .pv (encSl R_api_Value y13)), (8, aI (IntKind.wrap .i64 (Int.tdiv (IntKind.wrap .i64 ((IntKind.wrap .i64 (((sll x2.1).length : Int) + a1)) - 1)) a1))), (9, aR 2 10 (([x17] : List hist_Bucket).length)), (10, .ptr 0 0)] rfl (by kernel_rfl) (rg (sh 3 [(48, aI x17.fCount), (47, .ptr 0 8), (46, .pv (encSl R_api_Value y13))] (by kernel_rfl) ?_))))
      obtain ⟨_, h20, hm⟩ := bs hm
      refine dv 49 (v := .pv (encSl R_api_Value (subSl y13 x17.fCount ((sll y13).length : Int)))) (slice_slO R_api_Value y13 (k := .i64) (k' := .i64) (xl := some (aI x17.fCount)) (xh := none) (esz := 4) h20 (fun _ => rfl) (.inr rfl) (.inl ⟨rfl, rfl⟩) (by kernel_rfl)) (by kernel_rfl) (sh 1 [(6, .pv (encSl R_api_Value (subSl y13 x17.fCount ((sll y13).length : Int))))] (by kernel_rfl) (fin [(6, .pv (encSl R_api_Value (subSl y13 x17.fCount ((sll y13).length : Int)))), (8, aI (IntKind.wrap .i64 (Int.tdiv (IntKind.wrap .i64 ((IntKind.wrap .i64 (((sll x2.1).length : Int) + a1)) - 1)) a1))), (9, aR 2 10 (([x17] : List hist_Bucket).length))] rfl (by kernel_rfl) ?_))
      exact ⟨_, _, tidyL [(6, .pv (encSl R_api_Value (subSl y13 x17.fCount ((sll y13).length : Int)))), (8, aI (IntKind.wrap .i64 (Int.tdiv (IntKind.wrap .i64 ((IntKind.wrap .i64 (((sll x2.1).length : Int) + a1)) - 1)) a1))), (9, aR 0 10 (([x17] : List hist_Bucket).length))] [bR 77 10 R_hist_Bucket ([x17] : List hist_Bucket) 0 0] (by kernel_rfl), .inr (⟨(subSl y13 x17.fCount ((sll y13).length : Int)), ([x17] : List hist_Bucket), hm, rfl, rfl⟩)⟩
     ·
      refine cf h16 (by kernel_rfl) (wp_exit ?_)
      exact .inl ⟨.pv (encSl R_api_Value y13), aB (decide (((sll y13).length : Int) > 0)), hm, (mk_same (by kernel_rfl)), rfl⟩
    ·
     simp only [hist_Build_l8] at hm
     refine sq (sq (rg (sh 1 [(36, .pv (encSl R_api_Value y13))] (by kernel_rfl) (dv 37 (v := aI ((sll y13).length : Int)) (len_slO R_api_Value y13 t52 (by kernel_rfl)) (by kernel_rfl) (sh 1 [(38, aB (decide (((sll y13).length : Int) > 0)))] (by kernel_rfl) (fin [(6, .pv (encSl R_api_Value y13)), (8, aI (IntKind.wrap .i64 (Int.tdiv (IntKind.wrap .i64 ((IntKind.wrap .i64 (((sll x2.1).length : Int) + a1)) - 1)) a1))), (9, aR 0 10 y14.length), (38, aB (decide (((sll y13).length : Int) > 0)))] rfl (by kernel_rfl) ?_))))))
     rcases bif_some hm with ⟨h21, hm⟩ | ⟨h21, hm⟩
     ·
      refine ct h21 (by kernel_rfl) (wp_skip (bq (sq (rg (sh 2 [(40, aI (IntKind.wrap .i64 (Int.tdiv (IntKind.wrap .i64 ((IntKind.wrap .i64 (((sll x2.1).length : Int) + a1)) - 1)) a1))), (39, .pv (encSl R_api_Value y13))] (by kernel_rfl) ?_)))))
      obtain ⟨x22, h23, hm⟩ := bs hm
      refine dv 41 (cpure (by kernel_rfl) (ok_hist_cut h23) (by kernel_rfl) (by kernel_rfl) (by kernel_rfl)) (by kernel_rfl) (st 2 [(10, .ptr 1 0)] [bR 77 10 R_hist_Bucket y14 0 0, .box [aI x22.fLow.fKind, aI x22.fLow.fInt, aF x22.fLow.fFloat, aS x22.fLow.fText, aI x22.fHigh.fKind, aI x22.fHigh.fInt, aF x22.fHigh.fFloat, aS x22.fHigh.fText, aI x22.fCount, aI x22.fDistinct] false] (by kernel_rfl) (fin [(6, .pv (encSl R_api_Value y13)), (8, aI (IntKind.wrap .i64 (Int.tdiv (IntKind.wrap .i64 ((IntKind.wrap .i64 (((sll x2.1).length : Int) + a1)) - 1)) a1))), (9, aR 0 10 y14.length), (10, .ptr 1 0)] rfl (by kernel_rfl) (sq (rg (st 3 [(44, aR 2 10 1), (43, .agg [aI x22.fLow.fKind, aI x22.fLow.fInt, aF x22.fLow.fFloat, aS x22.fLow.fText, aI x22.fHigh.fKind, aI x22.fHigh.fInt, aF x22.fHigh.fFloat, aS x22.fHigh.fText, aI x22.fCount, aI x22.fDistinct]), (42, aR 0 10 y14.length)] [bR 77 10 R_hist_Bucket y14 0 0, .box [aI x22.fLow.fKind, aI x22.fLow.fInt, aF x22.fLow.fFloat, aS x22.fLow.fText, aI x22.fHigh.fKind, aI x22.fHigh.fInt, aF x22.fHigh.fFloat, aS x22.fHigh.fText, aI x22.fCount, aI x22.fDistinct] false, bR 77 10 R_hist_Bucket ([x22] : List hist_Bucket) 0 0] (by kernel_rfl) ?_)))))
      obtain ⟨_, h24, hm⟩ := bs hm
      refine dO [(45, aR 0 10 ((y14 ++ ([x22] : List hist_Bucket)).length))] [bR 77 10 R_hist_Bucket (y14 ++ ([x22] : List hist_Bucket)) 0 0, .box [aI x22.fLow.fKind, aI x22.fLow.fInt, aF x22.fLow.fFloat, aS x22.fLow.fText, aI x22.fHigh.fKind, aI x22.fHigh.fInt, aF x22.fHigh.fFloat, aS x22.fHigh.fText, aI x22.fCount, aI x22.fDistinct] false, bR 77 10 R_hist_Bucket ([x22] : List hist_Bucket) 0 0] (app_refO (u := 0) (n := y14.length) (id := 0) R_hist_Bucket y14 ([x22] : List hist_Bucket) (b := 96) t53 t77 rfl rfl rfl (fun _ => rfl) rfl h24 rfl rfl (Nat.zero_le _) (show srcRows (aR 2 10 1) _ = some (([x22] : List hist_Bucket).map R_hist_Bucket) from by kernel_rfl) (by kernel_rfl)) (by kernel_rfl) (sh 1 [(9, aR 0 10 ((y14 ++ ([x22] : List hist_Bucket)).length))] (by kernel_rfl) (fin [(6, .pv (encSl R_api_Value y13)), (8, aI (IntKind.wrap .i64 (Int.tdiv (IntKind.wrap .i64 ((IntKind.wrap .i64 (((sll x2.1).length : Int) + a1)) - 1)) a1))), (9, aR 0 10 ((y14 ++ ([x22] : List hist_Bucket)).length)), (10, .ptr 1 0)] rfl (by kernel_rfl) (rg (sh 3 [(48, aI x22.fCount), (47, .ptr 1 8), (46, .pv (encSl R_api_Value y13))] (by kernel_rfl) ?_))))
      obtain ⟨_, h25, hm⟩ := bs hm
      refine dv 49 (v := .pv (encSl R_api_Value (subSl y13 x22.fCount ((sll y13).length : Int)))) (slice_slO R_api_Value y13 (k := .i64) (k' := .i64) (xl := some (aI x22.fCount)) (xh := none) (esz := 4) h25 (fun _ => rfl) (.inr rfl) (.inl ⟨rfl, rfl⟩) (by kernel_rfl)) (by kernel_rfl) (sh 1 [(6, .pv (encSl R_api_Value (subSl y13 x22.fCount ((sll y13).length : Int))))] (by kernel_rfl) (fin [(6, .pv (encSl R_api_Value (subSl y13 x22.fCount ((sll y13).length : Int)))), (8, aI (IntKind.wrap .i64 (Int.tdiv (IntKind.wrap .i64 ((IntKind.wrap .i64 (((sll x2.1).length : Int) + a1)) - 1)) a1))), (9, aR 0 10 ((y14 ++ ([x22] : List hist_Bucket)).length))] rfl (by kernel_rfl) ?_))
      exact ⟨_, _, tidyL [(6, .pv (encSl R_api_Value (subSl y13 x22.fCount ((sll y13).length : Int)))), (8, aI (IntKind.wrap .i64 (Int.tdiv (IntKind.wrap .i64 ((IntKind.wrap .i64 (((sll x2.1).length : Int) + a1)) - 1)) a1))), (9, aR 0 10 ((y14 ++ ([x22] : List hist_Bucket)).length))] [bR 77 10 R_hist_Bucket (y14 ++ ([x22] : List hist_Bucket)) 0 0] (by kernel_rfl), .inr (⟨(subSl y13 x22.fCount ((sll y13).length : Int)), (y14 ++ ([x22] : List hist_Bucket)), hm, rfl, rfl⟩)⟩
     ·
      refine cf h21 (by kernel_rfl) (wp_exit ?_)
      exact .inr (⟨y14, .pv (encSl R_api_Value y13), aB (decide (((sll y13).length : Int) > 0)), hm, (mk_same (by kernel_rfl)), rfl⟩)
theorem ok_hist_plain {n : Nat} {a0 : api_Value} {r : Bool} (hm : hist_plain n a0 = some r) :
    call G n 104 [.agg [aI a0.fKind, aI a0.fInt, aF a0.fFloat, aS a0.fText]] [] = some (.ret (aB r), []) := by
  unfold hist_plain at hm
  obtain ⟨n, rfl, h0⟩ := at1_some hm
  replace hm := h0; clear h0
  refine callL 21 [(0, .agg [aI a0.fKind, aI a0.fInt, aF a0.fFloat, aS a0.fText])] func104 rfl (by kernel_rfl) (sq (det [(1, .ptr 0 0)] [.box [aI a0.fKind, aI a0.fInt, aF a0.fFloat, aS a0.fText] false] (by kernel_rfl) (sq (rg (sh 1 [(3, .agg [aI a0.fKind, aI a0.fInt, aF a0.fFloat, aS a0.fText])] (by kernel_rfl) ?_)))))
  obtain ⟨x1, h2, hm⟩ := bs hm
  refine dv 4 (cpure (by kernel_rfl) (ok_value_Right h2) (by kernel_rfl) (by kernel_rfl) (by kernel_rfl)) (by kernel_rfl) (sh 1 [(5, aB x1)] (by kernel_rfl) ?_)
  refine seg x1 [5, 4] (fun b => [(9, aB (b && (a0.fKind != 0))), (8, ifA b (aB (a0.fKind != 0)) (.undef)), (7, ifA b (aI a0.fKind) (.undef)), (6, ifA b (.ptr 0 0) (.undef))]) 7 (by kernel_rfl) ?_ ?_ ?_
  ·
   intro Q h
   refine sh 4 [(9, aB (a0.fKind != 0)), (8, aB (a0.fKind != 0)), (7, aI a0.fKind), (6, .ptr 0 0)] (by kernel_rfl) ?_
   exact sameN (by kernel_rfl) (by kernel_rfl) h
  ·
   intro Q h
   refine sh 4 [(9, aB false), (8, .undef), (7, .undef), (6, .undef)] (by kernel_rfl) ?_
   exact sameN (by kernel_rfl) (by kernel_rfl) h
  refine sh 1 [(10, aB (x1 && (a0.fKind != 0)))] (by kernel_rfl) ?_
  rcases bif_some hm with ⟨h3, hm⟩ | ⟨h3, hm⟩
  ·
   refine known [10, 9] h3 (by kernel_rfl) (sh 4 [(14, aB ((FloatKind.format .f64).order a0.fFloat 0 != some .eq)), (13, aB ((FloatKind.format .f64).order a0.fFloat 0 != some .eq)), (12, aF a0.fFloat), (11, .ptr 0 2)] (by kernel_rfl) ?_)
   rcases bif_some hm with ⟨h4, hm⟩ | ⟨h4, hm⟩
   ·
    refine known [14, 13] h4 (by kernel_rfl) (sh 7 [(2, aB true), (20, aB true), (19, aB true), (18, .undef), (17, .undef), (16, .undef), (15, .undef)] (by kernel_rfl) (fin [(2, aB true)] rfl (by kernel_rfl) (wp_ret ?_)))
    obtain rfl := Option.some.inj hm
    exact ⟨trivial, by kernel_rfl⟩
   ·
    refine known [14, 13] h4 (by kernel_rfl) (sh 2 [(16, aF a0.fFloat), (15, .ptr 0 2)] (by kernel_rfl) ?_)
    obtain ⟨x5, h6, hm⟩ := bs hm
    refine dv 17 (cpure (by kernel_rfl) (ok_math_Signbit h6) (by kernel_rfl) (by kernel_rfl) (by kernel_rfl)) (by kernel_rfl) (sh 4 [(2, aB (!x5)), (20, aB (!x5)), (19, aB (!x5)), (18, aB (!x5))] (by kernel_rfl) (fin [(2, aB (!x5))] rfl (by kernel_rfl) (wp_ret ?_)))
    obtain rfl := Option.some.inj hm
    exact ⟨trivial, by kernel_rfl⟩
  ·
   refine known [10, 9] h3 (by kernel_rfl) (sh 11 [(2, aB false), (20, aB false), (19, .undef), (18, .undef), (17, .undef), (16, .undef), (15, .undef), (14, .undef), (13, .undef), (12, .undef), (11, .undef)] (by kernel_rfl) (fin [(2, aB false)] rfl (by kernel_rfl) (wp_ret ?_)))
   obtain rfl := Option.some.inj hm
   exact ⟨trivial, by kernel_rfl⟩
theorem ok_hist_sound {n : Nat} {a0 : hist_Bucket} {r : Bool} (hm : hist_sound n a0 = some r) :
    call G n 69 [.agg [aI a0.fLow.fKind, aI a0.fLow.fInt, aF a0.fLow.fFloat, aS a0.fLow.fText, aI a0.fHigh.fKind, aI a0.fHigh.fInt, aF a0.fHigh.fFloat, aS a0.fHigh.fText, aI a0.fCount, aI a0.fDistinct]] [] = some (.ret (aB r), []) := by
  unfold hist_sound at hm
  obtain ⟨n, rfl, h0⟩ := at1_some hm
  replace hm := h0; clear h0
  refine callL 60 [(0, .agg [aI a0.fLow.fKind, aI a0.fLow.fInt, aF a0.fLow.fFloat, aS a0.fLow.fText, aI a0.fHigh.fKind, aI a0.fHigh.fInt, aF a0.fHigh.fFloat, aS a0.fHigh.fText, aI a0.fCount, aI a0.fDistinct])] func69 rfl (by kernel_rfl) (sq (det [(1, .ptr 0 0)] [.box [aI a0.fLow.fKind, aI a0.fLow.fInt, aF a0.fLow.fFloat, aS a0.fLow.fText, aI a0.fHigh.fKind, aI a0.fHigh.fInt, aF a0.fHigh.fFloat, aS a0.fHigh.fText, aI a0.fCount, aI a0.fDistinct] false] (by kernel_rfl) ?_))
  refine sq (sq (rg (sh 2 [(5, .agg [aI a0.fLow.fKind, aI a0.fLow.fInt, aF a0.fLow.fFloat, aS a0.fLow.fText]), (4, .ptr 0 0)] (by kernel_rfl) ?_)))
  obtain ⟨x1, h2, hm⟩ := bs hm
  refine dv 6 (cpure (by kernel_rfl) (ok_hist_plain h2) (by kernel_rfl) (by kernel_rfl) (by kernel_rfl)) (by kernel_rfl) (sh 2 [(8, aB (!x1)), (7, aB (!x1))] (by kernel_rfl) ?_)
  rcases bif_some hm with ⟨h3, hm⟩ | ⟨h3, hm⟩
  ·
   refine known [8, 7] h3 (by kernel_rfl) (sh 14 [(22, aB true), (21, .undef), (20, .undef), (19, .undef), (18, .undef), (17, .undef), (16, .undef), (15, .undef), (14, aB true), (13, aB true), (12, .undef), (11, .undef), (10, .undef), (9, .undef)] (by kernel_rfl) (fin [(1, .ptr 0 0), (22, aB true)] rfl (by kernel_rfl) (cT (by kernel_rfl) (sq (detn [(2, aB false)] (by kernel_rfl) (wp_ret ?_))))))
   obtain rfl := Option.some.inj hm
   exact ⟨trivial, by kernel_rfl⟩
  ·
   refine known [8, 7] h3 (by kernel_rfl) (sh 2 [(10, .agg [aI a0.fHigh.fKind, aI a0.fHigh.fInt, aF a0.fHigh.fFloat, aS a0.fHigh.fText]), (9, .ptr 0 4)] (by kernel_rfl) ?_)
   obtain ⟨x4, h5, hm⟩ := bs hm
   refine dv 11 (cpure (by kernel_rfl) (ok_hist_plain h5) (by kernel_rfl) (by kernel_rfl) (by kernel_rfl)) (by kernel_rfl) (sh 3 [(14, aB (!x4)), (13, aB (!x4)), (12, aB (!x4))] (by kernel_rfl) ?_)
   refine seg (!x4) [14, 13, 12] (fun b => [(22, aB (b || (a0.fLow.fKind != a0.fHigh.fKind))), (21, ifA b (.undef) (aB (a0.fLow.fKind != a0.fHigh.fKind))), (20, ifA b (.undef) (aI a0.fHigh.fKind)), (19, ifA b (.undef) (.ptr 0 4)), (18, ifA b (.undef) (.ptr 0 4)), (17, ifA b (.undef) (aI a0.fLow.fKind)), (16, ifA b (.undef) (.ptr 0 0)), (15, ifA b (.undef) (.ptr 0 0))]) 19 (by kernel_rfl) ?_ ?_ ?_
   ·
    intro Q h
    refine sh 8 [(22, aB true), (21, .undef), (20, .undef), (19, .undef), (18, .undef), (17, .undef), (16, .undef), (15, .undef)] (by kernel_rfl) ?_
    exact sameN (by kernel_rfl) (by kernel_rfl) h
   ·
    intro Q h
    refine sh 8 [(22, aB (a0.fLow.fKind != a0.fHigh.fKind)), (21, aB (a0.fLow.fKind != a0.fHigh.fKind)), (20, aI a0.fHigh.fKind), (19, .ptr 0 4), (18, .ptr 0 4), (17, aI a0.fLow.fKind), (16, .ptr 0 0), (15, .ptr 0 0)] (by kernel_rfl) ?_
    exact sameN (by kernel_rfl) (by kernel_rfl) h
   refine fin [(1, .ptr 0 0), (22, aB ((!x4) || (a0.fLow.fKind != a0.fHigh.fKind)))] rfl (by kernel_rfl) ?_
   rcases bif_some hm with ⟨h6, hm⟩ | ⟨h6, hm⟩
   ·
    refine ct h6 (by kernel_rfl) (sq (detn [(2, aB false)] (by kernel_rfl) (wp_ret ?_)))
    obtain rfl := Option.some.inj hm
    exact ⟨trivial, by kernel_rfl⟩
   ·
    refine cf h6 (by kernel_rfl) (wp_skip (sq (rg (sh 4 [(26, .agg [aI a0.fHigh.fKind, aI a0.fHigh.fInt, aF a0.fHigh.fFloat, aS a0.fHigh.fText]), (25, .ptr 0 4), (24, .agg [aI a0.fLow.fKind, aI a0.fLow.fInt, aF a0.fLow.fFloat, aS a0.fLow.fText]), (23, .ptr 0 0)] (by kernel_rfl) ?_))))
    obtain ⟨x7, h8, hm⟩ := bs hm
    refine dv 27 (cpure (by kernel_rfl) (ok_value_Cmp h8) (by kernel_rfl) (by kernel_rfl) (by kernel_rfl)) (by kernel_rfl) (sh 1 [(3, aI x7)] (by kernel_rfl) (fin [(1, .ptr 0 0), (3, aI x7)] rfl (by kernel_rfl) (sq (rg (sh 3 [(30, aB (decide (x7 ≤ 0))), (29, aB (decide (x7 ≤ 0))), (28, aI x7)] (by kernel_rfl) ?_)))))
    refine seg (decide (x7 ≤ 0)) [30, 29] (fun b => [(34, aB (b && (decide (a0.fCount ≥ 1)))), (33, ifA b (aB (decide (a0.fCount ≥ 1))) (.undef)), (32, ifA b (aI a0.fCount) (.undef)), (31, ifA b (.ptr 0 8) (.undef))]) 7 (by kernel_rfl) ?_ ?_ ?_
    ·
     intro Q h
     refine sh 4 [(34, aB (decide (a0.fCount ≥ 1))), (33, aB (decide (a0.fCount ≥ 1))), (32, aI a0.fCount), (31, .ptr 0 8)] (by kernel_rfl) ?_
     exact sameN (by kernel_rfl) (by kernel_rfl) h
    ·
     intro Q h
     refine sh 4 [(34, aB false), (33, .undef), (32, .undef), (31, .undef)] (by kernel_rfl) ?_
     exact sameN (by kernel_rfl) (by kernel_rfl) h
    refine sh 1 [(35, aB ((decide (x7 ≤ 0)) && (decide (a0.fCount ≥ 1))))] (by kernel_rfl) ?_
    refine seg ((decide (x7 ≤ 0)) && (decide (a0.fCount ≥ 1))) [35, 34] (fun b => [(39, aB (b && (decide (a0.fCount ≤ 1000000)))), (38, ifA b (aB (decide (a0.fCount ≤ 1000000))) (.undef)), (37, ifA b (aI a0.fCount) (.undef)), (36, ifA b (.ptr 0 8) (.undef))]) 12 (by kernel_rfl) ?_ ?_ ?_
    ·
     intro Q h
     refine sh 4 [(39, aB (decide (a0.fCount ≤ 1000000))), (38, aB (decide (a0.fCount ≤ 1000000))), (37, aI a0.fCount), (36, .ptr 0 8)] (by kernel_rfl) ?_
     exact sameN (by kernel_rfl) (by kernel_rfl) h
    ·
     intro Q h
     refine sh 4 [(39, aB false), (38, .undef), (37, .undef), (36, .undef)] (by kernel_rfl) ?_
     exact sameN (by kernel_rfl) (by kernel_rfl) h
    refine sh 1 [(40, aB (((decide (x7 ≤ 0)) && (decide (a0.fCount ≥ 1))) && (decide (a0.fCount ≤ 1000000))))] (by kernel_rfl) ?_
    refine seg (((decide (x7 ≤ 0)) && (decide (a0.fCount ≥ 1))) && (decide (a0.fCount ≤ 1000000))) [40, 39] (fun b => [(44, aB (b && (decide (a0.fDistinct ≥ 1)))), (43, ifA b (aB (decide (a0.fDistinct ≥ 1))) (.undef)), (42, ifA b (aI a0.fDistinct) (.undef)), (41, ifA b (.ptr 0 9) (.undef))]) 17 (by kernel_rfl) ?_ ?_ ?_
    ·
     intro Q h
     refine sh 4 [(44, aB (decide (a0.fDistinct ≥ 1))), (43, aB (decide (a0.fDistinct ≥ 1))), (42, aI a0.fDistinct), (41, .ptr 0 9)] (by kernel_rfl) ?_
     exact sameN (by kernel_rfl) (by kernel_rfl) h
    ·
     intro Q h
     refine sh 4 [(44, aB false), (43, .undef), (42, .undef), (41, .undef)] (by kernel_rfl) ?_
     exact sameN (by kernel_rfl) (by kernel_rfl) h
    refine sh 1 [(45, aB ((((decide (x7 ≤ 0)) && (decide (a0.fCount ≥ 1))) && (decide (a0.fCount ≤ 1000000))) && (decide (a0.fDistinct ≥ 1))))] (by kernel_rfl) ?_
    refine seg ((((decide (x7 ≤ 0)) && (decide (a0.fCount ≥ 1))) && (decide (a0.fCount ≤ 1000000))) && (decide (a0.fDistinct ≥ 1))) [45, 44] (fun b => [(51, aB (b && (decide (a0.fDistinct ≤ a0.fCount)))), (50, ifA b (aB (decide (a0.fDistinct ≤ a0.fCount))) (.undef)), (49, ifA b (aI a0.fCount) (.undef)), (48, ifA b (.ptr 0 8) (.undef)), (47, ifA b (aI a0.fDistinct) (.undef)), (46, ifA b (.ptr 0 9) (.undef))]) 24 (by kernel_rfl) ?_ ?_ ?_
    ·
     intro Q h
     refine sh 6 [(51, aB (decide (a0.fDistinct ≤ a0.fCount))), (50, aB (decide (a0.fDistinct ≤ a0.fCount))), (49, aI a0.fCount), (48, .ptr 0 8), (47, aI a0.fDistinct), (46, .ptr 0 9)] (by kernel_rfl) ?_
     exact sameN (by kernel_rfl) (by kernel_rfl) h
    ·
     intro Q h
     refine sh 6 [(51, aB false), (50, .undef), (49, .undef), (48, .undef), (47, .undef), (46, .undef)] (by kernel_rfl) ?_
     exact sameN (by kernel_rfl) (by kernel_rfl) h
    refine sh 1 [(52, aB (((((decide (x7 ≤ 0)) && (decide (a0.fCount ≥ 1))) && (decide (a0.fCount ≤ 1000000))) && (decide (a0.fDistinct ≥ 1))) && (decide (a0.fDistinct ≤ a0.fCount))))] (by kernel_rfl) ?_
    refine seg (((((decide (x7 ≤ 0)) && (decide (a0.fCount ≥ 1))) && (decide (a0.fCount ≤ 1000000))) && (decide (a0.fDistinct ≥ 1))) && (decide (a0.fDistinct ≤ a0.fCount))) [52, 51] (fun b => [(59, aB (b && ((x7 == 0) == (a0.fDistinct == 1)))), (58, ifA b (aB ((x7 == 0) == (a0.fDistinct == 1))) (.undef)), (57, ifA b (aB (a0.fDistinct == 1)) (.undef)), (56, ifA b (aI a0.fDistinct) (.undef)), (55, ifA b (.ptr 0 9) (.undef)), (54, ifA b (aB (x7 == 0)) (.undef)), (53, ifA b (aI x7) (.undef))]) 32 (by kernel_rfl) ?_ ?_ ?_
    ·
     intro Q h
     refine sh 7 [(59, aB ((x7 == 0) == (a0.fDistinct == 1))), (58, aB ((x7 == 0) == (a0.fDistinct == 1))), (57, aB (a0.fDistinct == 1)), (56, aI a0.fDistinct), (55, .ptr 0 9), (54, aB (x7 == 0)), (53, aI x7)] (by kernel_rfl) ?_
     exact sameN (by kernel_rfl) (by kernel_rfl) h
    ·
     intro Q h
     refine sh 7 [(59, aB false), (58, .undef), (57, .undef), (56, .undef), (55, .undef), (54, .undef), (53, .undef)] (by kernel_rfl) ?_
     exact sameN (by kernel_rfl) (by kernel_rfl) h
    refine sh 1 [(2, aB ((((((decide (x7 ≤ 0)) && (decide (a0.fCount ≥ 1))) && (decide (a0.fCount ≤ 1000000))) && (decide (a0.fDistinct ≥ 1))) && (decide (a0.fDistinct ≤ a0.fCount))) && ((x7 == 0) == (a0.fDistinct == 1))))] (by kernel_rfl) (fin [(2, aB ((((((decide (x7 ≤ 0)) && (decide (a0.fCount ≥ 1))) && (decide (a0.fCount ≤ 1000000))) && (decide (a0.fDistinct ≥ 1))) && (decide (a0.fDistinct ≤ a0.fCount))) && ((x7 == 0) == (a0.fDistinct == 1))))] rfl (by kernel_rfl) (wp_ret ?_))
    obtain rfl := Option.some.inj hm
    exact ⟨trivial, by kernel_rfl⟩
theorem ok_hist_Right {n : Nat} {a0 : (Option (List hist_Bucket))} {r : Bool} (hm : hist_Right n a0 = some r) :
    call G n 32 [.pv (encSl R_hist_Bucket a0)] [] = some (.ret (aB r), []) := by
  unfold hist_Right at hm
  obtain ⟨n, rfl, h0⟩ := at1_some hm
  replace hm := h0; clear h0
  refine callL 46 [(0, .pv (encSl R_hist_Bucket a0))] func32 rfl (by kernel_rfl) (sq (detn [(0, .pv (encSl R_hist_Bucket a0))] (by kernel_rfl) ?_))
  refine sq (sq (rg (sh 1 [(5, .pv (encSl R_hist_Bucket a0))] (by kernel_rfl) (dv 6 (v := aI ((sll a0).length : Int)) (len_slO R_hist_Bucket a0 t53 (by kernel_rfl)) (by kernel_rfl) (sh 1 [(7, aB (decide (((sll a0).length : Int) > 50)))] (by kernel_rfl) (fin [(0, .pv (encSl R_hist_Bucket a0)), (7, aB (decide (((sll a0).length : Int) > 50)))] rfl (by kernel_rfl) ?_))))))
  rcases bif_some hm with ⟨h1, hm⟩ | ⟨h1, hm⟩
  ·
   refine ct h1 (by kernel_rfl) (sq (detn [(2, aB false)] (by kernel_rfl) (wp_ret ?_)))
   obtain rfl := Option.some.inj hm
   exact ⟨trivial, by kernel_rfl⟩
  ·
   refine cf h1 (by kernel_rfl) (wp_skip ?_)
   obtain ⟨k4, hk4, hm⟩ := withK_some hm
   refine mid (fun t H => (∃ (y2 : Int) (y3 : Bool), k4 () = some r ∧ t = mk 46 [(0, .pv (encSl R_hist_Bucket a0)), (8, .pv (encSl R_hist_Bucket a0)), (9, aI ((sll a0).length : Int)), (10, aI y2), (11, aB y3)] ∧ H = [])) ?_ ?_
   ·
    rintro _ _ ⟨y2, y3, hm, rfl, rfl⟩
    subst hk4
    refine sq (detn [(2, aB true)] (by kernel_rfl) (wp_ret ?_))
    obtain rfl := Option.some.inj hm
    exact ⟨trivial, by kernel_rfl⟩
   refine sq (rg (sh 1 [(8, .pv (encSl R_hist_Bucket a0))] (by kernel_rfl) (dv 9 (v := aI ((sll a0).length : Int)) (len_slO R_hist_Bucket a0 t53 (by kernel_rfl)) (by kernel_rfl) (sh 1 [(10, aI 0)] (by kernel_rfl) (fin [(0, .pv (encSl R_hist_Bucket a0)), (8, .pv (encSl R_hist_Bucket a0)), (9, aI ((sll a0).length : Int)), (10, aI 0)] rfl (by kernel_rfl) (bq ?_))))))
   refine loopF (fun mm t H => (∃ (y6 : Int), hist_Right_l4 n a0 k4 mm y6 = some r ∧ t = mk 46 [(0, .pv (encSl R_hist_Bucket a0)), (8, .pv (encSl R_hist_Bucket a0)), (9, aI ((sll a0).length : Int)), (10, aI y6)] ∧ H = [])) (⟨0, hm, rfl, rfl⟩) ?_ ?_
   · rintro _ _ ⟨y6, hm, _⟩; exact nomatch hm
   rintro m7 _ _ ⟨y6, hm, rfl, rfl⟩
   simp only [hist_Right_l4] at hm
   refine sq (detn [(0, .pv (encSl R_hist_Bucket a0)), (8, .pv (encSl R_hist_Bucket a0)), (9, aI ((sll a0).length : Int)), (10, aI y6), (11, aB (decide (y6 < ((sll a0).length : Int))))] (by kernel_rfl) ?_)
   refine sq ?_
   rcases bif_some hm with ⟨h8, hm⟩ | ⟨h8, hm⟩
   ·
    refine ct h8 (by kernel_rfl) (wp_skip (sq (bq (sq (rg (sh 1 [(12, aI y6)] (by kernel_rfl) ?_))))))
    obtain ⟨x9, h10, hm⟩ := bs hm
    refine dv 13 (v := .pv (.ptr (R_hist_Bucket x9) 0)) (ia_slO R_hist_Bucket a0 .i64 t53 t77 h10 rfl (by kernel_rfl)) (by kernel_rfl) (st 4 [(3, aI y6), (4, .ptr 0 0), (14, .agg [aI x9.fLow.fKind, aI x9.fLow.fInt, aF x9.fLow.fFloat, aS x9.fLow.fText, aI x9.fHigh.fKind, aI x9.fHigh.fInt, aF x9.fHigh.fFloat, aS x9.fHigh.fText, aI x9.fCount, aI x9.fDistinct])] [.box [aI x9.fLow.fKind, aI x9.fLow.fInt, aF x9.fLow.fFloat, aS x9.fLow.fText, aI x9.fHigh.fKind, aI x9.fHigh.fInt, aF x9.fHigh.fFloat, aS x9.fHigh.fText, aI x9.fCount, aI x9.fDistinct] false] (by kernel_rfl) (fin [(0, .pv (encSl R_hist_Bucket a0)), (3, aI y6), (4, .ptr 0 0), (8, .pv (encSl R_hist_Bucket a0)), (9, aI ((sll a0).length : Int)), (10, aI y6)] rfl (by kernel_rfl) (sq (rgd (shd 1 [(15, .agg [aI x9.fLow.fKind, aI x9.fLow.fInt, aF x9.fLow.fFloat, aS x9.fLow.fText, aI x9.fHigh.fKind, aI x9.fHigh.fInt, aF x9.fHigh.fFloat, aS x9.fHigh.fText, aI x9.fCount, aI x9.fDistinct])] (by kernel_rfl) ?_)))))
    obtain ⟨x11, h12, hm⟩ := bs hm
    refine dvd 16 (cpure (by kernel_rfl) (ok_hist_sound h12) (by kernel_rfl) (by kernel_rfl) (by kernel_rfl)) (by kernel_rfl) (shd 2 [(18, aB (!x11)), (17, aB (!x11))] (by kernel_rfl) ?_)
    rcases bif_some hm with ⟨h13, hm⟩ | ⟨h13, hm⟩
    ·
     refine knownd [18, 17] h13 (by kernel_rfl) (shd 26 [(44, aB true), (43, .undef), (42, .undef), (41, .undef), (40, .undef), (39, .undef), (38, .undef), (37, .undef), (36, .undef), (35, .undef), (34, .undef), (33, .undef), (32, .undef), (31, .undef), (30, .undef), (29, .undef), (28, .undef), (27, .undef), (26, .undef), (25, .undef), (24, .undef), (23, .undef), (22, .undef), (21, .undef), (20, .undef), (19, .undef)] (by kernel_rfl) (find [(0, .pv (encSl R_hist_Bucket a0)), (8, .pv (encSl R_hist_Bucket a0)), (9, aI ((sll a0).length : Int)), (10, aI y6), (44, aB true)] rfl (by kernel_rfl) (by kernel_rfl) (cT (by kernel_rfl) (sq (detn [(2, aB false)] (by kernel_rfl) (wp_ret ?_))))))
     obtain rfl := Option.some.inj hm
     exact ⟨trivial, by kernel_rfl⟩
    ·
     refine knownd [18, 17] h13 (by kernel_rfl) (shd 3 [(21, aB (decide (y6 > 0))), (20, aB (decide (y6 > 0))), (19, aI y6)] (by kernel_rfl) ?_)
     rcases bif_some hm with ⟨h14, hm⟩ | ⟨h14, hm⟩
     ·
      refine knownd [21, 20] h14 (by kernel_rfl) (shd 4 [(25, .pv (encSl R_hist_Bucket a0)), (24, aI x9.fLow.fKind), (23, .ptr 0 0), (22, .ptr 0 0)] (by kernel_rfl) ?_)
      obtain ⟨x15, h16, hm⟩ := bs hm
      refine dvd 26 (v := .pv (.ptr (R_hist_Bucket x15) 0)) (ia_slO R_hist_Bucket a0 .i64 t53 t77 h16 rfl (by kernel_rfl)) (by kernel_rfl) (shd 5 [(31, aB (x9.fLow.fKind != x15.fLow.fKind)), (30, aB (x9.fLow.fKind != x15.fLow.fKind)), (29, aI x15.fLow.fKind), (28, .pv (.ptr (R_hist_Bucket x15) 0)), (27, .pv (.ptr (R_hist_Bucket x15) 0))] (by kernel_rfl) ?_)
      rcases bif_some hm with ⟨h17, hm⟩ | ⟨h17, hm⟩
      ·
       refine knownd [31, 30] h17 (by kernel_rfl) (shd 13 [(44, aB true), (43, aB true), (42, aB true), (41, .undef), (40, .undef), (39, .undef), (38, .undef), (37, .undef), (36, .undef), (35, .undef), (34, .undef), (33, .undef), (32, .undef)] (by kernel_rfl) (find [(0, .pv (encSl R_hist_Bucket a0)), (8, .pv (encSl R_hist_Bucket a0)), (9, aI ((sll a0).length : Int)), (10, aI y6), (44, aB true)] rfl (by kernel_rfl) (by kernel_rfl) (cT (by kernel_rfl) (sq (detn [(2, aB false)] (by kernel_rfl) (wp_ret ?_))))))
       obtain rfl := Option.some.inj hm
       exact ⟨trivial, by kernel_rfl⟩
      ·
       refine knownd [31, 30] h17 (by kernel_rfl) (shd 3 [(34, aI (IntKind.wrap .i64 (y6 - 1))), (33, aI y6), (32, .pv (encSl R_hist_Bucket a0))] (by kernel_rfl) ?_)
       obtain ⟨x18, h19, hm⟩ := bs hm
       refine dvd 35 (v := .pv (.ptr (R_hist_Bucket x18) 0)) (ia_slO R_hist_Bucket a0 .i64 t53 t77 h19 rfl (by kernel_rfl)) (by kernel_rfl) (shd 4 [(39, .agg [aI x9.fLow.fKind, aI x9.fLow.fInt, aF x9.fLow.fFloat, aS x9.fLow.fText]), (38, .ptr 0 0), (37, .agg [aI x18.fHigh.fKind, aI x18.fHigh.fInt, aF x18.fHigh.fFloat, aS x18.fHigh.fText]), (36, .pv (.ptr (R_hist_Bucket x18) 4))] (by kernel_rfl) ?_)
       obtain ⟨x20, h21, hm⟩ := bs hm
       refine dvd 40 (cpure (by kernel_rfl) (ok_value_Cmp h21) (by kernel_rfl) (by kernel_rfl) (by kernel_rfl)) (by kernel_rfl) (shd 4 [(44, aB (decide (x20 ≥ 0))), (43, aB (decide (x20 ≥ 0))), (42, aB (decide (x20 ≥ 0))), (41, aB (decide (x20 ≥ 0)))] (by kernel_rfl) (find [(0, .pv (encSl R_hist_Bucket a0)), (8, .pv (encSl R_hist_Bucket a0)), (9, aI ((sll a0).length : Int)), (10, aI y6), (44, aB (decide (x20 ≥ 0)))] rfl (by kernel_rfl) (by kernel_rfl) ?_))
       rcases bif_some hm with ⟨h22, hm⟩ | ⟨h22, hm⟩
       ·
        refine ct h22 (by kernel_rfl) (sq (detn [(2, aB false)] (by kernel_rfl) (wp_ret ?_)))
        obtain rfl := Option.some.inj hm
        exact ⟨trivial, by kernel_rfl⟩
       ·
        refine cf h22 (by kernel_rfl) (wp_skip (detn [(0, .pv (encSl R_hist_Bucket a0)), (8, .pv (encSl R_hist_Bucket a0)), (9, aI ((sll a0).length : Int)), (10, aI (IntKind.wrap .i64 (y6 + 1)))] (by kernel_rfl) ?_))
        exact ⟨_, _, tidyL [(0, .pv (encSl R_hist_Bucket a0)), (8, .pv (encSl R_hist_Bucket a0)), (9, aI ((sll a0).length : Int)), (10, aI (IntKind.wrap .i64 (y6 + 1)))] [] (by kernel_rfl), ⟨(IntKind.wrap .i64 (y6 + 1)), hm, rfl, rfl⟩⟩
     ·
      refine knownd [21, 20] h14 (by kernel_rfl) (shd 23 [(44, aB false), (43, aB false), (42, .undef), (41, .undef), (40, .undef), (39, .undef), (38, .undef), (37, .undef), (36, .undef), (35, .undef), (34, .undef), (33, .undef), (32, .undef), (31, .undef), (30, .undef), (29, .undef), (28, .undef), (27, .undef), (26, .undef), (25, .undef), (24, .undef), (23, .undef), (22, .undef)] (by kernel_rfl) (find [(0, .pv (encSl R_hist_Bucket a0)), (8, .pv (encSl R_hist_Bucket a0)), (9, aI ((sll a0).length : Int)), (10, aI y6), (44, aB false)] rfl (by kernel_rfl) (by kernel_rfl) (cF (by kernel_rfl) (wp_skip (detn [(0, .pv (encSl R_hist_Bucket a0)), (8, .pv (encSl R_hist_Bucket a0)), (9, aI ((sll a0).length : Int)), (10, aI (IntKind.wrap .i64 (y6 + 1)))] (by kernel_rfl) ?_)))))
      exact ⟨_, _, tidyL [(0, .pv (encSl R_hist_Bucket a0)), (8, .pv (encSl R_hist_Bucket a0)), (9, aI ((sll a0).length : Int)), (10, aI (IntKind.wrap .i64 (y6 + 1)))] [] (by kernel_rfl), ⟨(IntKind.wrap .i64 (y6 + 1)), hm, rfl, rfl⟩⟩
   ·
    refine cf h8 (by kernel_rfl) (wp_exit ?_)
    exact ⟨y6, (decide (y6 < ((sll a0).length : Int))), hm, rfl, rfl⟩
theorem ok_hist_find {n : Nat} {a0 : (Option (List hist_Bucket))} {a1 : api_Value} {r : Int × Int × Bool} (hm : hist_find n a0 a1 = some r) :
    call G n 71 [.pv (encSl R_hist_Bucket a0), .agg [aI a1.fKind, aI a1.fInt, aF a1.fFloat, aS a1.fText]] [] = some (.ret (.tup [aI r.1, aI r.2.1, aB r.2.2]), []) := by
  unfold hist_find at hm
  obtain ⟨n, rfl, h0⟩ := at1_some hm
  replace hm := h0; clear h0
  refine callL 49 [(0, .pv (encSl R_hist_Bucket a0)), (1, .agg [aI a1.fKind, aI a1.fInt, aF a1.fFloat, aS a1.fText])] func71 rfl (by kernel_rfl) (sq (det [(0, .pv (encSl R_hist_Bucket a0)), (3, .ptr 0 0), (5, aI 0)] [.box [aI a1.fKind, aI a1.fInt, aF a1.fFloat, aS a1.fText] false] (by kernel_rfl) (scq ?_)))
  refine sq (sq (rg (sh 1 [(9, .pv (encSl R_hist_Bucket a0))] (by kernel_rfl) ?_)))
  obtain ⟨x1, h2, hm⟩ := bs hm
  refine dv 10 (cpure (by kernel_rfl) (ok_hist_Right h2) (by kernel_rfl) (by kernel_rfl) (by kernel_rfl)) (by kernel_rfl) (sh 2 [(12, aB (!x1)), (11, aB (!x1))] (by kernel_rfl) ?_)
  rcases bif_some hm with ⟨h3, hm⟩ | ⟨h3, hm⟩
  ·
   refine known [12, 11] h3 (by kernel_rfl) (sh 9 [(21, aB true), (20, .undef), (19, .undef), (18, .undef), (17, aB true), (16, aB true), (15, .undef), (14, .undef), (13, .undef)] (by kernel_rfl) (fin [(0, .pv (encSl R_hist_Bucket a0)), (3, .ptr 0 0), (5, aI 0), (21, aB true)] rfl (by kernel_rfl) (cT (by kernel_rfl) (sq (detn [(4, aI 0), (5, aI 0), (6, aB false)] (by kernel_rfl) (wp_ret ?_))))))
   obtain rfl := Option.some.inj hm
   exact ⟨trivial, by kernel_rfl⟩
  ·
   refine known [12, 11] h3 (by kernel_rfl) (sh 1 [(13, .agg [aI a1.fKind, aI a1.fInt, aF a1.fFloat, aS a1.fText])] (by kernel_rfl) ?_)
   obtain ⟨x4, h5, hm⟩ := bs hm
   refine dv 14 (cpure (by kernel_rfl) (ok_value_Right h5) (by kernel_rfl) (by kernel_rfl) (by kernel_rfl)) (by kernel_rfl) (sh 3 [(17, aB (!x4)), (16, aB (!x4)), (15, aB (!x4))] (by kernel_rfl) ?_)
   refine seg (!x4) [17, 16, 15] (fun b => [(21, aB (b || (a1.fKind == 0))), (20, ifA b (.undef) (aB (a1.fKind == 0))), (19, ifA b (.undef) (aI a1.fKind)), (18, ifA b (.undef) (.ptr 0 0))]) 13 (by kernel_rfl) ?_ ?_ ?_
   ·
    intro Q h
    refine sh 4 [(21, aB true), (20, .undef), (19, .undef), (18, .undef)] (by kernel_rfl) ?_
    exact sameN (by kernel_rfl) (by kernel_rfl) h
   ·
    intro Q h
    refine sh 4 [(21, aB (a1.fKind == 0)), (20, aB (a1.fKind == 0)), (19, aI a1.fKind), (18, .ptr 0 0)] (by kernel_rfl) ?_
    exact sameN (by kernel_rfl) (by kernel_rfl) h
   refine fin [(0, .pv (encSl R_hist_Bucket a0)), (3, .ptr 0 0), (5, aI 0), (21, aB ((!x4) || (a1.fKind == 0)))] rfl (by kernel_rfl) ?_
   rcases bif_some hm with ⟨h6, hm⟩ | ⟨h6, hm⟩
   ·
    refine ct h6 (by kernel_rfl) (sq (detn [(4, aI 0), (5, aI 0), (6, aB false)] (by kernel_rfl) (wp_ret ?_)))
    obtain rfl := Option.some.inj hm
    exact ⟨trivial, by kernel_rfl⟩
   ·
    refine cf h6 (by kernel_rfl) (wp_skip (sq (wp_label ?_)))
    obtain ⟨k14, hk14, hm⟩ := withK_some hm
    refine mid (fun t H => (∃ (y13 : Int) (w7 : AV) (w8 : AV) (w9 : AV) (w10 : AV) (w11 : AV) (w12 : Blk), k14 y13 = some r ∧ t = mk 49 [(3, .ptr 0 0), (5, aI y13), (7, w7), (8, w8), (22, .pv (encSl R_hist_Bucket a0)), (23, aI ((sll a0).length : Int)), (24, w9), (25, w10), (29, w11)] ∧ H = [.box [aI a1.fKind, aI a1.fInt, aF a1.fFloat, aS a1.fText] false, w12]) ∨ (∃ (y13 : Int) (w7 : AV) (w8 : AV) (w9 : AV) (w10 : AV) (w11 : AV) (w12 : Blk), k14 y13 = some r ∧ t = mk 49 [(3, .ptr 0 0), (5, aI y13), (7, w7), (8, w8), (22, .pv (encSl R_hist_Bucket a0)), (23, aI ((sll a0).length : Int)), (24, w9), (25, w10), (29, w11)] ∧ H = [.box [aI a1.fKind, aI a1.fInt, aF a1.fFloat, aS a1.fText] false])) ?_ ?_
    ·
     rintro _ _ (⟨y13, w7, w8, w9, w10, w11, w12, hm, rfl, rfl⟩ | ⟨y13, w7, w8, w9, w10, w11, w12, hm, rfl, rfl⟩)
     ·
      subst hk14
      refine sq (detn [(4, aI 0), (5, aI y13), (6, aB false)] (by kernel_rfl) (wp_ret ?_))
      obtain rfl := Option.some.inj hm
      exact ⟨trivial, by kernel_rfl⟩
     ·
      subst hk14
      refine sq (detn [(4, aI 0), (5, aI y13), (6, aB false)] (by kernel_rfl) (wp_ret ?_))
      obtain rfl := Option.some.inj hm
      exact ⟨trivial, by kernel_rfl⟩
    refine sq (rg (sh 1 [(22, .pv (encSl R_hist_Bucket a0))] (by kernel_rfl) (dv 23 (v := aI ((sll a0).length : Int)) (len_slO R_hist_Bucket a0 t53 (by kernel_rfl)) (by kernel_rfl) (sh 1 [(24, aI 0)] (by kernel_rfl) (fin [(3, .ptr 0 0), (5, aI 0), (22, .pv (encSl R_hist_Bucket a0)), (23, aI ((sll a0).length : Int)), (24, aI 0)] rfl (by kernel_rfl) (bq ?_))))))
    refine loopF (fun mm t H => (∃ (y17 : Int) (y18 : Int), hist_find_l4 n a0 a1 k14 mm y17 y18 = some r ∧ t = mk 49 [(3, .ptr 0 0), (5, aI y18), (22, .pv (encSl R_hist_Bucket a0)), (23, aI ((sll a0).length : Int)), (24, aI y17)] ∧ H = [.box [aI a1.fKind, aI a1.fInt, aF a1.fFloat, aS a1.fText] false])) (⟨0, 0, hm, rfl, rfl⟩) ?_ ?_
    · rintro _ _ ⟨y17, y18, hm, _⟩; exact nomatch hm
    rintro m19 _ _ ⟨y17, y18, hm, rfl, rfl⟩
    simp only [hist_find_l4] at hm
    refine sq (detn [(3, .ptr 0 0), (5, aI y18), (22, .pv (encSl R_hist_Bucket a0)), (23, aI ((sll a0).length : Int)), (24, aI y17), (25, aB (decide (y17 < ((sll a0).length : Int))))] (by kernel_rfl) ?_)
    refine sq ?_
    rcases bif_some hm with ⟨h20, hm⟩ | ⟨h20, hm⟩
    ·
     refine ct h20 (by kernel_rfl) (wp_skip (sq (bq (sq (rg (sh 1 [(26, aI y17)] (by kernel_rfl) ?_))))))
     obtain ⟨x21, h22, hm⟩ := bs hm
     refine dv 27 (v := .pv (.ptr (R_hist_Bucket x21) 0)) (ia_slO R_hist_Bucket a0 .i64 t53 t77 h22 rfl (by kernel_rfl)) (by kernel_rfl) (st 4 [(7, aI y17), (8, .ptr 1 0), (28, .agg [aI x21.fLow.fKind, aI x21.fLow.fInt, aF x21.fLow.fFloat, aS x21.fLow.fText, aI x21.fHigh.fKind, aI x21.fHigh.fInt, aF x21.fHigh.fFloat, aS x21.fHigh.fText, aI x21.fCount, aI x21.fDistinct])] [.box [aI a1.fKind, aI a1.fInt, aF a1.fFloat, aS a1.fText] false, .box [aI x21.fLow.fKind, aI x21.fLow.fInt, aF x21.fLow.fFloat, aS x21.fLow.fText, aI x21.fHigh.fKind, aI x21.fHigh.fInt, aF x21.fHigh.fFloat, aS x21.fHigh.fText, aI x21.fCount, aI x21.fDistinct] false] (by kernel_rfl) (fin [(3, .ptr 0 0), (5, aI y18), (7, aI y17), (8, .ptr 1 0), (22, .pv (encSl R_hist_Bucket a0)), (23, aI ((sll a0).length : Int)), (24, aI y17)] rfl (by kernel_rfl) (sq (bq (sq (rg (sh 3 [(32, .agg [aI x21.fLow.fKind, aI x21.fLow.fInt, aF x21.fLow.fFloat, aS x21.fLow.fText]), (31, .ptr 1 0), (30, .agg [aI a1.fKind, aI a1.fInt, aF a1.fFloat, aS a1.fText])] (by kernel_rfl) ?_)))))))
     obtain ⟨x23, h24, hm⟩ := bs hm
     refine dv 33 (cpure (by kernel_rfl) (ok_value_Cmp h24) (by kernel_rfl) (by kernel_rfl) (by kernel_rfl)) (by kernel_rfl) (sh 2 [(29, aB (decide (x23 < 0))), (34, aB (decide (x23 < 0)))] (by kernel_rfl) (fin [(3, .ptr 0 0), (5, aI y18), (7, aI y17), (8, .ptr 1 0), (22, .pv (encSl R_hist_Bucket a0)), (23, aI ((sll a0).length : Int)), (24, aI y17), (29, aB (decide (x23 < 0)))] rfl (by kernel_rfl) ?_))
     rcases bif_some hm with ⟨h25, hm⟩ | ⟨h25, hm⟩
     ·
      refine ct h25 (by kernel_rfl) (wp_exit ?_)
      exact .inl ⟨y18, aI y17, .ptr 1 0, aI y17, .any, aB (decide (x23 < 0)), .box [aI x21.fLow.fKind, aI x21.fLow.fInt, aF x21.fLow.fFloat, aS x21.fLow.fText, aI x21.fHigh.fKind, aI x21.fHigh.fInt, aF x21.fHigh.fFloat, aS x21.fHigh.fText, aI x21.fCount, aI x21.fDistinct] false, hm, (mk_same (by kernel_rfl)), rfl⟩
     ·
      refine cf h25 (by kernel_rfl) (sq (rg (sh 3 [(38, .agg [aI x21.fHigh.fKind, aI x21.fHigh.fInt, aF x21.fHigh.fFloat, aS x21.fHigh.fText]), (37, .ptr 1 4), (36, .agg [aI a1.fKind, aI a1.fInt, aF a1.fFloat, aS a1.fText])] (by kernel_rfl) ?_)))
      obtain ⟨x26, h27, hm⟩ := bs hm
      refine dv 39 (cpure (by kernel_rfl) (ok_value_Cmp h27) (by kernel_rfl) (by kernel_rfl) (by kernel_rfl)) (by kernel_rfl) (sh 2 [(35, aB (decide (x26 ≤ 0))), (40, aB (decide (x26 ≤ 0)))] (by kernel_rfl) (fin [(3, .ptr 0 0), (5, aI y18), (7, aI y17), (8, .ptr 1 0), (22, .pv (encSl R_hist_Bucket a0)), (23, aI ((sll a0).length : Int)), (24, aI y17), (35, aB (decide (x26 ≤ 0)))] rfl (by kernel_rfl) ?_))
      rcases bif_some hm with ⟨h28, hm⟩ | ⟨h28, hm⟩
      ·
       refine ct h28 (by kernel_rfl) (sq (detn [(4, aI y17), (5, aI y18), (6, aB true)] (by kernel_rfl) (wp_ret ?_)))
       obtain rfl := Option.some.inj hm
       exact ⟨trivial, by kernel_rfl⟩
      ·
       refine cf h28 (by kernel_rfl) (wp_skip (detn [(3, .ptr 0 0), (5, aI (IntKind.wrap .i64 (y18 + x21.fCount))), (22, .pv (encSl R_hist_Bucket a0)), (23, aI ((sll a0).length : Int)), (24, aI y17)] (by kernel_rfl) (detn [(3, .ptr 0 0), (5, aI (IntKind.wrap .i64 (y18 + x21.fCount))), (22, .pv (encSl R_hist_Bucket a0)), (23, aI ((sll a0).length : Int)), (24, aI (IntKind.wrap .i64 (y17 + 1)))] (by kernel_rfl) ?_)))
       exact ⟨_, _, tidyL [(3, .ptr 0 0), (5, aI (IntKind.wrap .i64 (y18 + x21.fCount))), (22, .pv (encSl R_hist_Bucket a0)), (23, aI ((sll a0).length : Int)), (24, aI (IntKind.wrap .i64 (y17 + 1)))] [.box [aI a1.fKind, aI a1.fInt, aF a1.fFloat, aS a1.fText] false] (by kernel_rfl), ⟨(IntKind.wrap .i64 (y17 + 1)), (IntKind.wrap .i64 (y18 + x21.fCount)), hm, rfl, rfl⟩⟩
    ·
     refine cf h20 (by kernel_rfl) (wp_exit ?_)
     exact .inr (⟨y18, .any, .any, aI y17, aB (decide (y17 < ((sll a0).length : Int))), .any, (.box [] false), hm, (mk_same (by kernel_rfl)), rfl⟩)
theorem ok_hist_each {n : Nat} {a0 : hist_Bucket} {r : Int} (hm : hist_each n a0 = some r) :
    call G n 72 [.agg [aI a0.fLow.fKind, aI a0.fLow.fInt, aF a0.fLow.fFloat, aS a0.fLow.fText, aI a0.fHigh.fKind, aI a0.fHigh.fInt, aF a0.fHigh.fFloat, aS a0.fHigh.fText, aI a0.fCount, aI a0.fDistinct]] [] = some (.ret (aI r), []) := by
  unfold hist_each at hm
  obtain ⟨n, rfl, h0⟩ := at1_some hm
  replace hm := h0; clear h0
  refine callL 8 [(0, .agg [aI a0.fLow.fKind, aI a0.fLow.fInt, aF a0.fLow.fFloat, aS a0.fLow.fText, aI a0.fHigh.fKind, aI a0.fHigh.fInt, aF a0.fHigh.fFloat, aS a0.fHigh.fText, aI a0.fCount, aI a0.fDistinct])] func72 rfl (by kernel_rfl) (sq (det [(1, .ptr 0 0)] [.box [aI a0.fLow.fKind, aI a0.fLow.fInt, aF a0.fLow.fFloat, aS a0.fLow.fText, aI a0.fHigh.fKind, aI a0.fHigh.fInt, aF a0.fHigh.fFloat, aS a0.fHigh.fText, aI a0.fCount, aI a0.fDistinct] false] (by kernel_rfl) (sq (rg (sh 4 [(6, aI a0.fDistinct), (5, .ptr 0 9), (4, aI a0.fCount), (3, .ptr 0 8)] (by kernel_rfl) ?_)))))
  obtain ⟨_, h1, hm⟩ := bs hm
  refine dv 7 (v := aI (IntKind.wrap .i64 (Int.tdiv a0.fCount a0.fDistinct))) (quoO h1 (by kernel_rfl)) (by kernel_rfl) (sh 1 [(2, aI (IntKind.wrap .i64 (Int.tdiv a0.fCount a0.fDistinct)))] (by kernel_rfl) (fin [(2, aI (IntKind.wrap .i64 (Int.tdiv a0.fCount a0.fDistinct)))] rfl (by kernel_rfl) (wp_ret ?_)))
  obtain rfl := Option.some.inj hm
  exact ⟨trivial, by kernel_rfl⟩
theorem ok_hist_Equal {n : Nat} {a0 : (Option (List hist_Bucket))} {a1 : api_Value} {r : Int} (hm : hist_Equal n a0 a1 = some r) :
    call G n 36 [.pv (encSl R_hist_Bucket a0), .agg [aI a1.fKind, aI a1.fInt, aF a1.fFloat, aS a1.fText]] [] = some (.ret (aI r), []) := by
  unfold hist_Equal at hm
  obtain ⟨n, rfl, h0⟩ := at1_some hm
  replace hm := h0; clear h0
  refine callL 22 [(0, .pv (encSl R_hist_Bucket a0)), (1, .agg [aI a1.fKind, aI a1.fInt, aF a1.fFloat, aS a1.fText])] func36 rfl (by kernel_rfl) (sq (det [(0, .pv (encSl R_hist_Bucket a0)), (3, .ptr 0 0)] [.box [aI a1.fKind, aI a1.fInt, aF a1.fFloat, aS a1.fText] false] (by kernel_rfl) (sq (rg (sh 2 [(10, .agg [aI a1.fKind, aI a1.fInt, aF a1.fFloat, aS a1.fText]), (9, .pv (encSl R_hist_Bucket a0))] (by kernel_rfl) ?_)))))
  obtain ⟨x1, h2, hm⟩ := bs hm
  refine dv 11 (cpure (by kernel_rfl) (ok_hist_find h2) (by kernel_rfl) (by kernel_rfl) (by kernel_rfl)) (by kernel_rfl) (sh 7 [(7, aB x1.2.2), (6, aI x1.2.1), (5, aI x1.1), (14, aB x1.2.2), (13, aI x1.2.1), (12, aI x1.1), (8, .tup [aI x1.1, aI x1.2.1, aB x1.2.2])] (by kernel_rfl) (fin [(0, .pv (encSl R_hist_Bucket a0)), (5, aI x1.1), (7, aB x1.2.2)] rfl (by kernel_rfl) (sq (sq (detn [(0, .pv (encSl R_hist_Bucket a0)), (5, aI x1.1), (16, aB (!x1.2.2))] (by kernel_rfl) ?_)))))
  rcases bif_some hm with ⟨h3, hm⟩ | ⟨h3, hm⟩
  ·
   refine ct h3 (by kernel_rfl) (sq (detn [(4, aI 0)] (by kernel_rfl) (wp_ret ?_)))
   obtain rfl := Option.some.inj hm
   exact ⟨trivial, by kernel_rfl⟩
  ·
   refine cf h3 (by kernel_rfl) (wp_skip (sq (rg (sh 2 [(18, aI x1.1), (17, .pv (encSl R_hist_Bucket a0))] (by kernel_rfl) ?_))))
   obtain ⟨x4, h5, hm⟩ := bs hm
   refine dv 19 (v := .pv (.ptr (R_hist_Bucket x4) 0)) (ia_slO R_hist_Bucket a0 .i64 t53 t77 h5 rfl (by kernel_rfl)) (by kernel_rfl) (sh 1 [(20, .agg [aI x4.fLow.fKind, aI x4.fLow.fInt, aF x4.fLow.fFloat, aS x4.fLow.fText, aI x4.fHigh.fKind, aI x4.fHigh.fInt, aF x4.fHigh.fFloat, aS x4.fHigh.fText, aI x4.fCount, aI x4.fDistinct])] (by kernel_rfl) ?_)
   obtain ⟨x6, h7, hm⟩ := bs hm
   refine dv 21 (cpure (by kernel_rfl) (ok_hist_each h7) (by kernel_rfl) (by kernel_rfl) (by kernel_rfl)) (by kernel_rfl) (sh 1 [(4, aI x6)] (by kernel_rfl) (fin [(4, aI x6)] rfl (by kernel_rfl) (wp_ret ?_)))
   obtain rfl := Option.some.inj hm
   exact ⟨trivial, by kernel_rfl⟩
theorem ok_hist_Total {n : Nat} {a0 : (Option (List hist_Bucket))} {r : Int} (hm : hist_Total n a0 = some r) :
    call G n 34 [.pv (encSl R_hist_Bucket a0)] [] = some (.ret (aI r), []) := by
  unfold hist_Total at hm
  obtain ⟨n, rfl, h0⟩ := at1_some hm
  replace hm := h0; clear h0
  refine callL 20 [(0, .pv (encSl R_hist_Bucket a0))] func34 rfl (by kernel_rfl) (sq (detn [(0, .pv (encSl R_hist_Bucket a0))] (by kernel_rfl) (sq (detn [(0, .pv (encSl R_hist_Bucket a0)), (3, aI 0)] (by kernel_rfl) ?_))))
  obtain ⟨k8, hk8, hm⟩ := withK_some hm
  refine mid (fun t H => (∃ (y7 : Int) (w1 : AV) (w2 : AV) (w3 : AV) (w4 : AV) (w5 : AV) (w6 : AV), k8 y7 = some r ∧ t = mk 20 [(0, w1), (3, aI y7), (7, w2), (8, w3), (9, w4), (10, w5), (11, w6)] ∧ H = [])) ?_ ?_
  ·
   rintro _ _ ⟨y7, w1, w2, w3, w4, w5, w6, hm, rfl, rfl⟩
   subst hk8
   refine sq (detn [(2, aI y7)] (by kernel_rfl) (wp_ret ?_))
   obtain rfl := Option.some.inj hm
   exact ⟨trivial, by kernel_rfl⟩
  refine sq (rg (sh 1 [(6, .pv (encSl R_hist_Bucket a0))] (by kernel_rfl) ?_))
  obtain ⟨x9, h10, hm⟩ := bs hm
  refine dv 7 (cpure (by kernel_rfl) (ok_hist_Right h10) (by kernel_rfl) (by kernel_rfl) (by kernel_rfl)) (by kernel_rfl) (fin [(0, .pv (encSl R_hist_Bucket a0)), (3, aI 0), (7, aB x9)] rfl (by kernel_rfl) ?_)
  rcases bif_some hm with ⟨h11, hm⟩ | ⟨h11, hm⟩
  ·
   refine ct h11 (by kernel_rfl) (sq (rg (sh 1 [(8, .pv (encSl R_hist_Bucket a0))] (by kernel_rfl) (dv 9 (v := aI ((sll a0).length : Int)) (len_slO R_hist_Bucket a0 t53 (by kernel_rfl)) (by kernel_rfl) (sh 1 [(10, aI 0)] (by kernel_rfl) (fin [(3, aI 0), (8, .pv (encSl R_hist_Bucket a0)), (9, aI ((sll a0).length : Int)), (10, aI 0)] rfl (by kernel_rfl) (bq ?_)))))))
   refine loopF (fun mm t H => (∃ (y14 : Int) (y15 : Int), hist_Total_l4 n a0 k8 mm y14 y15 = some r ∧ t = mk 20 [(3, aI y15), (8, .pv (encSl R_hist_Bucket a0)), (9, aI ((sll a0).length : Int)), (10, aI y14)] ∧ H = [])) (⟨0, 0, hm, rfl, rfl⟩) ?_ ?_
   · rintro _ _ ⟨y14, y15, hm, _⟩; exact nomatch hm
   rintro m16 _ _ ⟨y14, y15, hm, rfl, rfl⟩
   simp only [hist_Total_l4] at hm
   refine sq (detn [(3, aI y15), (8, .pv (encSl R_hist_Bucket a0)), (9, aI ((sll a0).length : Int)), (10, aI y14), (11, aB (decide (y14 < ((sll a0).length : Int))))] (by kernel_rfl) ?_)
   refine sq ?_
   rcases bif_some hm with ⟨h17, hm⟩ | ⟨h17, hm⟩
   ·
    refine ct h17 (by kernel_rfl) (wp_skip (sq (bq (sq (rg ?_)))))
    obtain ⟨x18, h19, hm⟩ := bs hm
    refine dv 12 (v := .pv (.ptr (R_hist_Bucket x18) 0)) (ia_slO R_hist_Bucket a0 .i64 t53 t77 h19 rfl (by kernel_rfl)) (by kernel_rfl) (st 3 [(5, .ptr 0 0), (13, .agg [aI x18.fLow.fKind, aI x18.fLow.fInt, aF x18.fLow.fFloat, aS x18.fLow.fText, aI x18.fHigh.fKind, aI x18.fHigh.fInt, aF x18.fHigh.fFloat, aS x18.fHigh.fText, aI x18.fCount, aI x18.fDistinct])] [.box [aI x18.fLow.fKind, aI x18.fLow.fInt, aF x18.fLow.fFloat, aS x18.fLow.fText, aI x18.fHigh.fKind, aI x18.fHigh.fInt, aF x18.fHigh.fFloat, aS x18.fHigh.fText, aI x18.fCount, aI x18.fDistinct] false] (by kernel_rfl) (fin [(3, aI y15), (5, .ptr 0 0), (8, .pv (encSl R_hist_Bucket a0)), (9, aI ((sll a0).length : Int)), (10, aI y14)] rfl (by kernel_rfl) (detn [(3, aI (IntKind.wrap .i64 (y15 + x18.fCount))), (8, .pv (encSl R_hist_Bucket a0)), (9, aI ((sll a0).length : Int)), (10, aI y14)] (by kernel_rfl) (detn [(3, aI (IntKind.wrap .i64 (y15 + x18.fCount))), (8, .pv (encSl R_hist_Bucket a0)), (9, aI ((sll a0).length : Int)), (10, aI (IntKind.wrap .i64 (y14 + 1)))] (by kernel_rfl) ?_))))
    exact ⟨_, _, tidyL [(3, aI (IntKind.wrap .i64 (y15 + x18.fCount))), (8, .pv (encSl R_hist_Bucket a0)), (9, aI ((sll a0).length : Int)), (10, aI (IntKind.wrap .i64 (y14 + 1)))] [] (by kernel_rfl), ⟨(IntKind.wrap .i64 (y14 + 1)), (IntKind.wrap .i64 (y15 + x18.fCount)), hm, rfl, rfl⟩⟩
   ·
    refine cf h17 (by kernel_rfl) (wp_exit ?_)
    exact ⟨y15, .any, .any, .pv (encSl R_hist_Bucket a0), aI ((sll a0).length : Int), aI y14, aB (decide (y14 < ((sll a0).length : Int))), hm, (mk_same (by kernel_rfl)), rfl⟩
  ·
   refine cf h11 (by kernel_rfl) (wp_skip ?_)
   exact ⟨0, .pv (encSl R_hist_Bucket a0), aB x9, .any, .any, .any, .any, hm, (mk_same (by kernel_rfl)), rfl⟩
theorem ok_law19_HistBounds {n : Nat} {a0 : (Option (List api_Value))} {a1 : Int} {r : Bool} (hm : law19_HistBounds n a0 a1 = some r) :
    call G n 7 [.pv (encSl R_api_Value a0), aI a1] [] = some (.ret (aB r), []) := by
  unfold law19_HistBounds at hm
  obtain ⟨n, rfl, h0⟩ := at1_some hm
  replace hm := h0; clear h0
  refine callL 131 [(0, .pv (encSl R_api_Value a0)), (1, aI a1)] func7 rfl (by kernel_rfl) (sq (detn [(0, .pv (encSl R_api_Value a0)), (1, aI a1)] (by kernel_rfl) ?_))
  refine sq (sq (rg ?_))
  obtain ⟨x1, h2, hm⟩ := bs hm
  refine dv 19 (cpure (by kernel_rfl) (ok_law19_works h2) (by kernel_rfl) (by kernel_rfl) (by kernel_rfl)) (by kernel_rfl) (sh 1 [(20, aB (!x1))] (by kernel_rfl) (fin [(0, .pv (encSl R_api_Value a0)), (1, aI a1), (20, aB (!x1))] rfl (by kernel_rfl) ?_))
  rcases bif_some hm with ⟨h3, hm⟩ | ⟨h3, hm⟩
  ·
   refine ct h3 (by kernel_rfl) (sq (detn [(4, aB false)] (by kernel_rfl) (wp_ret ?_)))
   obtain rfl := Option.some.inj hm
   exact ⟨trivial, by kernel_rfl⟩
  ·
   refine cf h3 (by kernel_rfl) (wp_skip (sq (rg (sh 2 [(23, aI a1), (22, .pv (encSl R_api_Value a0))] (by kernel_rfl) ?_))))
   obtain ⟨x4, h5, hm⟩ := bs hm
   refine dv 24 (cpure (by kernel_rfl) (ok_hist_Build h5) (by kernel_rfl) (by kernel_rfl) (by kernel_rfl)) (by kernel_rfl) (sh 5 [(6, aI x4.2), (5, .pv (encSl R_hist_Bucket x4.1)), (26, aI x4.2), (25, .pv (encSl R_hist_Bucket x4.1)), (21, .tup [.pv (encSl R_hist_Bucket x4.1), aI x4.2])] (by kernel_rfl) (fin [(0, .pv (encSl R_api_Value a0)), (1, aI a1), (5, .pv (encSl R_hist_Bucket x4.1)), (6, aI x4.2)] rfl (by kernel_rfl) ?_))
   refine sq (sq (detn [(0, .pv (encSl R_api_Value a0)), (1, aI a1), (5, .pv (encSl R_hist_Bucket x4.1)), (6, aI x4.2), (28, aB (x4.2 != 0))] (by kernel_rfl) ?_))
   rcases bif_some hm with ⟨h6, hm⟩ | ⟨h6, hm⟩
   ·
    refine ct h6 (by kernel_rfl) (sq (rg (sh 1 [(29, .pv (encSl R_hist_Bucket x4.1))] (by kernel_rfl) (dv 30 (v := aI ((sll x4.1).length : Int)) (len_slO R_hist_Bucket x4.1 t53 (by kernel_rfl)) (by kernel_rfl) (sh 2 [(32, aB (((sll x4.1).length : Int) == 0)), (31, aB (((sll x4.1).length : Int) == 0))] (by kernel_rfl) ?_)))))
    refine seg (((sll x4.1).length : Int) == 0) [32, 31] (fun b => [(35, aB (b && (x4.2 == 2))), (34, ifA b (aB (x4.2 == 2)) (.undef)), (33, ifA b (aI x4.2) (.undef))]) 7 (by kernel_rfl) ?_ ?_ ?_
    ·
     intro Q h
     refine sh 3 [(35, aB (x4.2 == 2)), (34, aB (x4.2 == 2)), (33, aI x4.2)] (by kernel_rfl) ?_
     exact sameN (by kernel_rfl) (by kernel_rfl) h
    ·
     intro Q h
     refine sh 3 [(35, aB false), (34, .undef), (33, .undef)] (by kernel_rfl) ?_
     exact sameN (by kernel_rfl) (by kernel_rfl) h
    refine sh 1 [(4, aB ((((sll x4.1).length : Int) == 0) && (x4.2 == 2)))] (by kernel_rfl) (fin [(4, aB ((((sll x4.1).length : Int) == 0) && (x4.2 == 2)))] rfl (by kernel_rfl) (wp_ret ?_))
    obtain rfl := Option.some.inj hm
    exact ⟨trivial, by kernel_rfl⟩
   ·
    refine cf h6 (by kernel_rfl) (wp_skip (sq (detn [(0, .pv (encSl R_api_Value a0)), (1, aI a1), (5, .pv (encSl R_hist_Bucket x4.1)), (7, aI 0), (8, aI 0)] (by kernel_rfl) ?_)))
    obtain ⟨k11, hk11, hm⟩ := withK_some hm
    refine mid (fun t H => (∃ (y7 : Int) (y8 : Bool) (y9 : Int) (y10 : Int), k11 y9 y10 = some r ∧ t = mk 131 [(0, .pv (encSl R_api_Value a0)), (1, aI a1), (5, .pv (encSl R_hist_Bucket x4.1)), (7, aI y9), (8, aI y10), (36, .pv (encSl R_api_Value a0)), (37, aI ((sll a0).length : Int)), (38, aI y7), (39, aB y8)] ∧ H = [])) ?_ ?_
    ·
     rintro _ _ ⟨y7, y8, y9, y10, hm, rfl, rfl⟩
     subst hk11
     refine sq (sq (rg (sh 1 [(67, .pv (encSl R_hist_Bucket x4.1))] (by kernel_rfl) ?_)))
     obtain ⟨x12, h13, hm⟩ := bs hm
     refine dv 68 (cpure (by kernel_rfl) (ok_hist_Right h13) (by kernel_rfl) (by kernel_rfl) (by kernel_rfl)) (by kernel_rfl) (sh 2 [(70, aB (!x12)), (69, aB (!x12))] (by kernel_rfl) ?_)
     refine seg (!x12) [70, 69] (fun b => [(75, aB (b || (decide (((sll x4.1).length : Int) > a1)))), (74, ifA b (.undef) (aB (decide (((sll x4.1).length : Int) > a1)))), (73, ifA b (.undef) (aI a1)), (72, ifA b (.undef) (aI ((sll x4.1).length : Int))), (71, ifA b (.undef) (.pv (encSl R_hist_Bucket x4.1)))]) 9 (by kernel_rfl) ?_ ?_ ?_
     ·
      intro Q h
      refine sh 5 [(75, aB true), (74, .undef), (73, .undef), (72, .undef), (71, .undef)] (by kernel_rfl) ?_
      exact sameN (by kernel_rfl) (by kernel_rfl) h
     ·
      intro Q h
      refine sh 1 [(71, .pv (encSl R_hist_Bucket x4.1))] (by kernel_rfl) (dv 72 (v := aI ((sll x4.1).length : Int)) (len_slO R_hist_Bucket x4.1 t53 (by kernel_rfl)) (by kernel_rfl) (sh 3 [(75, aB (decide (((sll x4.1).length : Int) > a1))), (74, aB (decide (((sll x4.1).length : Int) > a1))), (73, aI a1)] (by kernel_rfl) ?_))
      exact sameN (by kernel_rfl) (by kernel_rfl) h
     refine sh 1 [(76, aB ((!x12) || (decide (((sll x4.1).length : Int) > a1))))] (by kernel_rfl) ?_
     rcases bif_some hm with ⟨h14, hm⟩ | ⟨h14, hm⟩
     ·
      refine known [76, 75] h14 (by kernel_rfl) (sh 5 [(81, aB true), (80, .undef), (79, .undef), (78, .undef), (77, .undef)] (by kernel_rfl) (fin [(0, .pv (encSl R_api_Value a0)), (1, aI a1), (5, .pv (encSl R_hist_Bucket x4.1)), (7, aI y9), (8, aI y10), (81, aB true)] rfl (by kernel_rfl) (cT (by kernel_rfl) (sq (detn [(4, aB false)] (by kernel_rfl) (wp_ret ?_))))))
      obtain rfl := Option.some.inj hm
      exact ⟨trivial, by kernel_rfl⟩
     ·
      refine known [76, 75] h14 (by kernel_rfl) (sh 1 [(77, .pv (encSl R_hist_Bucket x4.1))] (by kernel_rfl) ?_)
      obtain ⟨x15, h16, hm⟩ := bs hm
      refine dv 78 (cpure (by kernel_rfl) (ok_hist_Total h16) (by kernel_rfl) (by kernel_rfl) (by kernel_rfl)) (by kernel_rfl) (sh 3 [(81, aB (x15 != y9)), (80, aB (x15 != y9)), (79, aI y9)] (by kernel_rfl) (fin [(0, .pv (encSl R_api_Value a0)), (1, aI a1), (5, .pv (encSl R_hist_Bucket x4.1)), (7, aI y9), (8, aI y10), (81, aB (x15 != y9))] rfl (by kernel_rfl) ?_))
      rcases bif_some hm with ⟨h17, hm⟩ | ⟨h17, hm⟩
      ·
       refine ct h17 (by kernel_rfl) (sq (detn [(4, aB false)] (by kernel_rfl) (wp_ret ?_)))
       obtain rfl := Option.some.inj hm
       exact ⟨trivial, by kernel_rfl⟩
      ·
       refine cf h17 (by kernel_rfl) (wp_skip ?_)
       obtain ⟨k20, hk20, hm⟩ := withK_some hm
       refine mid (fun t H => (∃ (y18 : Int) (y19 : Bool), k20 () = some r ∧ t = mk 131 [(0, .pv (encSl R_api_Value a0)), (1, aI a1), (7, aI y9), (8, aI y10), (82, .pv (encSl R_hist_Bucket x4.1)), (83, aI ((sll x4.1).length : Int)), (84, aI y18), (85, aB y19)] ∧ H = [])) ?_ ?_
       ·
        rintro _ _ ⟨y18, y19, hm, rfl, rfl⟩
        subst hk20
        refine sq (detn [(4, aB true)] (by kernel_rfl) (wp_ret ?_))
        obtain rfl := Option.some.inj hm
        exact ⟨trivial, by kernel_rfl⟩
       refine sq (rg (sh 1 [(82, .pv (encSl R_hist_Bucket x4.1))] (by kernel_rfl) (dv 83 (v := aI ((sll x4.1).length : Int)) (len_slO R_hist_Bucket x4.1 t53 (by kernel_rfl)) (by kernel_rfl) (sh 1 [(84, aI 0)] (by kernel_rfl) (fin [(0, .pv (encSl R_api_Value a0)), (1, aI a1), (7, aI y9), (8, aI y10), (82, .pv (encSl R_hist_Bucket x4.1)), (83, aI ((sll x4.1).length : Int)), (84, aI 0)] rfl (by kernel_rfl) (bq ?_))))))
       refine loopF (fun mm t H => (∃ (y22 : Int), law19_HistBounds_l26 n a0 a1 x4 y9 y10 k20 mm y22 = some r ∧ t = mk 131 [(0, .pv (encSl R_api_Value a0)), (1, aI a1), (7, aI y9), (8, aI y10), (82, .pv (encSl R_hist_Bucket x4.1)), (83, aI ((sll x4.1).length : Int)), (84, aI y22)] ∧ H = [])) (⟨0, hm, rfl, rfl⟩) ?_ ?_
       · rintro _ _ ⟨y22, hm, _⟩; exact nomatch hm
       rintro m23 _ _ ⟨y22, hm, rfl, rfl⟩
       simp only [law19_HistBounds_l26] at hm
       refine sq (detn [(0, .pv (encSl R_api_Value a0)), (1, aI a1), (7, aI y9), (8, aI y10), (82, .pv (encSl R_hist_Bucket x4.1)), (83, aI ((sll x4.1).length : Int)), (84, aI y22), (85, aB (decide (y22 < ((sll x4.1).length : Int))))] (by kernel_rfl) ?_)
       refine sq ?_
       rcases bif_some hm with ⟨h24, hm⟩ | ⟨h24, hm⟩
       ·
        refine ct h24 (by kernel_rfl) (wp_skip ?_)
        obtain ⟨k36, hk36, hm⟩ := withK_some hm
        refine mid (fun t H => (∃ (y25 : Int) (y26 : Int) (y27 : Nat) (y28 : ByteArray) (y29 : Int) (y30 : Int) (y31 : Nat) (y32 : ByteArray) (y33 : Int) (y34 : Int) (y35 : Bool), k36 () = some r ∧ t = mk 131 [(0, .pv (encSl R_api_Value a0)), (1, aI a1), (7, aI y9), (8, aI y10), (82, .pv (encSl R_hist_Bucket x4.1)), (83, aI ((sll x4.1).length : Int)), (84, aI y22), (129, aB y35)] ∧ H = [.box [aI y25, aI y26, aF y27, aS y28, aI y29, aI y30, aF y31, aS y32, aI y33, aI y34] false])) ?_ ?_
        ·
         rintro _ _ ⟨y25, y26, y27, y28, y29, y30, y31, y32, y33, y34, y35, hm, rfl, rfl⟩
         subst hk36
         refine detn [(0, .pv (encSl R_api_Value a0)), (1, aI a1), (7, aI y9), (8, aI y10), (82, .pv (encSl R_hist_Bucket x4.1)), (83, aI ((sll x4.1).length : Int)), (84, aI (IntKind.wrap .i64 (y22 + 1)))] (by kernel_rfl) ?_
         exact ⟨_, _, tidyL [(0, .pv (encSl R_api_Value a0)), (1, aI a1), (7, aI y9), (8, aI y10), (82, .pv (encSl R_hist_Bucket x4.1)), (83, aI ((sll x4.1).length : Int)), (84, aI (IntKind.wrap .i64 (y22 + 1)))] [] (by kernel_rfl), ⟨(IntKind.wrap .i64 (y22 + 1)), hm, rfl, rfl⟩⟩
        refine bq (sq (rg ?_))
        obtain ⟨x37, h38, hm⟩ := bs hm
        refine dv 86 (v := .pv (.ptr (R_hist_Bucket x37) 0)) (ia_slO R_hist_Bucket x4.1 .i64 t53 t77 h38 rfl (by kernel_rfl)) (by kernel_rfl) (st 3 [(15, .ptr 0 0), (87, .agg [aI x37.fLow.fKind, aI x37.fLow.fInt, aF x37.fLow.fFloat, aS x37.fLow.fText, aI x37.fHigh.fKind, aI x37.fHigh.fInt, aF x37.fHigh.fFloat, aS x37.fHigh.fText, aI x37.fCount, aI x37.fDistinct])] [.box [aI x37.fLow.fKind, aI x37.fLow.fInt, aF x37.fLow.fFloat, aS x37.fLow.fText, aI x37.fHigh.fKind, aI x37.fHigh.fInt, aF x37.fHigh.fFloat, aS x37.fHigh.fText, aI x37.fCount, aI x37.fDistinct] false] (by kernel_rfl) (fin [(0, .pv (encSl R_api_Value a0)), (1, aI a1), (7, aI y9), (8, aI y10), (15, .ptr 0 0), (82, .pv (encSl R_hist_Bucket x4.1)), (83, aI ((sll x4.1).length : Int)), (84, aI y22)] rfl (by kernel_rfl) ?_))
        refine sq (sq (rgd (shd 7 [(94, aI a1), (93, aI (IntKind.wrap .i64 ((IntKind.wrap .i64 (y9 + a1)) - 1))), (92, aI (IntKind.wrap .i64 (y9 + a1))), (91, aI a1), (90, aI y9), (89, aI x37.fCount), (88, .ptr 0 8)] (by kernel_rfl) ?_)))
        obtain ⟨_, h39, hm⟩ := bs hm
        refine dvd 95 (v := aI (IntKind.wrap .i64 (Int.tdiv (IntKind.wrap .i64 ((IntKind.wrap .i64 (y9 + a1)) - 1)) a1))) (quoO h39 (by kernel_rfl)) (by kernel_rfl) (shd 4 [(99, aB (decide (x37.fCount > (IntKind.wrap .i64 ((IntKind.wrap .i64 ((IntKind.wrap .i64 (Int.tdiv (IntKind.wrap .i64 ((IntKind.wrap .i64 (y9 + a1)) - 1)) a1)) + y10)) - 1))))), (98, aI (IntKind.wrap .i64 ((IntKind.wrap .i64 ((IntKind.wrap .i64 (Int.tdiv (IntKind.wrap .i64 ((IntKind.wrap .i64 (y9 + a1)) - 1)) a1)) + y10)) - 1))), (97, aI (IntKind.wrap .i64 ((IntKind.wrap .i64 (Int.tdiv (IntKind.wrap .i64 ((IntKind.wrap .i64 (y9 + a1)) - 1)) a1)) + y10))), (96, aI y10)] (by kernel_rfl) (find [(0, .pv (encSl R_api_Value a0)), (1, aI a1), (7, aI y9), (8, aI y10), (15, .ptr 0 0), (82, .pv (encSl R_hist_Bucket x4.1)), (83, aI ((sll x4.1).length : Int)), (84, aI y22), (99, aB (decide (x37.fCount > (IntKind.wrap .i64 ((IntKind.wrap .i64 ((IntKind.wrap .i64 (Int.tdiv (IntKind.wrap .i64 ((IntKind.wrap .i64 (y9 + a1)) - 1)) a1)) + y10)) - 1)))))] rfl (by kernel_rfl) (by kernel_rfl) ?_))
        rcases bif_some hm with ⟨h40, hm⟩ | ⟨h40, hm⟩
        ·
         refine ct h40 (by kernel_rfl) (sq (detn [(4, aB false)] (by kernel_rfl) (wp_ret ?_)))
         obtain rfl := Option.some.inj hm
         exact ⟨trivial, by kernel_rfl⟩
        ·
         refine cf h40 (by kernel_rfl) (wp_skip (sq (detn [(0, .pv (encSl R_api_Value a0)), (1, aI a1), (7, aI y9), (8, aI y10), (15, .ptr 0 0), (16, aI 0), (82, .pv (encSl R_hist_Bucket x4.1)), (83, aI ((sll x4.1).length : Int)), (84, aI y22)] (by kernel_rfl) ?_)))
         obtain ⟨k44, hk44, hm⟩ := withK_some hm
         refine mid (fun t H => (∃ (y41 : Int) (y42 : Bool) (y43 : Int), k44 y43 = some r ∧ t = mk 131 [(0, .pv (encSl R_api_Value a0)), (1, aI a1), (7, aI y9), (8, aI y10), (15, .ptr 0 0), (16, aI y43), (82, .pv (encSl R_hist_Bucket x4.1)), (83, aI ((sll x4.1).length : Int)), (84, aI y22), (100, .pv (encSl R_api_Value a0)), (101, aI ((sll a0).length : Int)), (102, aI y41), (103, aB y42)] ∧ H = [.box [aI x37.fLow.fKind, aI x37.fLow.fInt, aF x37.fLow.fFloat, aS x37.fLow.fText, aI x37.fHigh.fKind, aI x37.fHigh.fInt, aF x37.fHigh.fFloat, aS x37.fHigh.fText, aI x37.fCount, aI x37.fDistinct] false])) ?_ ?_
         ·
          rintro _ _ ⟨y41, y42, y43, hm, rfl, rfl⟩
          subst hk44
          refine sq (detn [(0, .pv (encSl R_api_Value a0)), (1, aI a1), (7, aI y9), (8, aI y10), (82, .pv (encSl R_hist_Bucket x4.1)), (83, aI ((sll x4.1).length : Int)), (84, aI y22), (129, aB (y43 != x37.fCount))] (by kernel_rfl) ?_)
          rcases bif_some hm with ⟨h45, hm⟩ | ⟨h45, hm⟩
          ·
           refine ct h45 (by kernel_rfl) (sq (detn [(4, aB false)] (by kernel_rfl) (wp_ret ?_)))
           obtain rfl := Option.some.inj hm
           exact ⟨trivial, by kernel_rfl⟩
          ·
           refine cf h45 (by kernel_rfl) (wp_skip ?_)
           exact ⟨x37.fLow.fKind, x37.fLow.fInt, x37.fLow.fFloat, x37.fLow.fText, x37.fHigh.fKind, x37.fHigh.fInt, x37.fHigh.fFloat, x37.fHigh.fText, x37.fCount, x37.fDistinct, (y43 != x37.fCount), hm, rfl, rfl⟩
         refine sq (rg (sh 1 [(100, .pv (encSl R_api_Value a0))] (by kernel_rfl) (dv 101 (v := aI ((sll a0).length : Int)) (len_slO R_api_Value a0 t52 (by kernel_rfl)) (by kernel_rfl) (sh 1 [(102, aI 0)] (by kernel_rfl) (fin [(0, .pv (encSl R_api_Value a0)), (1, aI a1), (7, aI y9), (8, aI y10), (15, .ptr 0 0), (16, aI 0), (82, .pv (encSl R_hist_Bucket x4.1)), (83, aI ((sll x4.1).length : Int)), (84, aI y22), (100, .pv (encSl R_api_Value a0)), (101, aI ((sll a0).length : Int)), (102, aI 0)] rfl (by kernel_rfl) (bq ?_))))))
         refine loopF (fun mm t H => (∃ (y48 : Int) (y49 : Int), law19_HistBounds_l32 n a0 x37 k44 mm y48 y49 = some r ∧ t = mk 131 [(0, .pv (encSl R_api_Value a0)), (1, aI a1), (7, aI y9), (8, aI y10), (15, .ptr 0 0), (16, aI y49), (82, .pv (encSl R_hist_Bucket x4.1)), (83, aI ((sll x4.1).length : Int)), (84, aI y22), (100, .pv (encSl R_api_Value a0)), (101, aI ((sll a0).length : Int)), (102, aI y48)] ∧ H = [.box [aI x37.fLow.fKind, aI x37.fLow.fInt, aF x37.fLow.fFloat, aS x37.fLow.fText, aI x37.fHigh.fKind, aI x37.fHigh.fInt, aF x37.fHigh.fFloat, aS x37.fHigh.fText, aI x37.fCount, aI x37.fDistinct] false])) (⟨0, 0, hm, rfl, rfl⟩) ?_ ?_
         · rintro _ _ ⟨y48, y49, hm, _⟩; exact nomatch hm
         rintro m50 _ _ ⟨y48, y49, hm, rfl, rfl⟩
         simp only [law19_HistBounds_l32] at hm
         refine sq (detn [(0, .pv (encSl R_api_Value a0)), (1, aI a1), (7, aI y9), (8, aI y10), (15, .ptr 0 0), (16, aI y49), (82, .pv (encSl R_hist_Bucket x4.1)), (83, aI ((sll x4.1).length : Int)), (84, aI y22), (100, .pv (encSl R_api_Value a0)), (101, aI ((sll a0).length : Int)), (102, aI y48), (103, aB (decide (y48 < ((sll a0).length : Int))))] (by kernel_rfl) ?_)
         refine sq ?_
         rcases bif_some hm with ⟨h51, hm⟩ | ⟨h51, hm⟩
         ·
          refine ct h51 (by kernel_rfl) (wp_skip (sq (bq (sq (rg ?_)))))
          obtain ⟨x52, h53, hm⟩ := bs hm
          refine dv 104 (v := .pv (.ptr (R_api_Value x52) 0)) (ia_slO R_api_Value a0 .i64 t52 t64 h53 rfl (by kernel_rfl)) (by kernel_rfl) (st 3 [(18, .ptr 1 0), (105, .agg [aI x52.fKind, aI x52.fInt, aF x52.fFloat, aS x52.fText])] [.box [aI x37.fLow.fKind, aI x37.fLow.fInt, aF x37.fLow.fFloat, aS x37.fLow.fText, aI x37.fHigh.fKind, aI x37.fHigh.fInt, aF x37.fHigh.fFloat, aS x37.fHigh.fText, aI x37.fCount, aI x37.fDistinct] false, .box [aI x52.fKind, aI x52.fInt, aF x52.fFloat, aS x52.fText] false] (by kernel_rfl) (fin [(0, .pv (encSl R_api_Value a0)), (1, aI a1), (7, aI y9), (8, aI y10), (15, .ptr 0 0), (16, aI y49), (18, .ptr 1 0), (82, .pv (encSl R_hist_Bucket x4.1)), (83, aI ((sll x4.1).length : Int)), (84, aI y22), (100, .pv (encSl R_api_Value a0)), (101, aI ((sll a0).length : Int)), (102, aI y48)] rfl (by kernel_rfl) (sq (rg (sh 4 [(109, aB (x52.fKind != 0)), (108, aB (x52.fKind != 0)), (107, aI x52.fKind), (106, .ptr 1 0)] (by kernel_rfl) ?_)))))
          rcases bif_some hm with ⟨h54, hm⟩ | ⟨h54, hm⟩
          ·
           refine known [109, 108] h54 (by kernel_rfl) (sh 3 [(112, .agg [aI x52.fKind, aI x52.fInt, aF x52.fFloat, aS x52.fText]), (111, .agg [aI x37.fLow.fKind, aI x37.fLow.fInt, aF x37.fLow.fFloat, aS x37.fLow.fText]), (110, .ptr 0 0)] (by kernel_rfl) ?_)
           obtain ⟨x55, h56, hm⟩ := bs hm
           refine dv 113 (cpure (by kernel_rfl) (ok_value_Cmp h56) (by kernel_rfl) (by kernel_rfl) (by kernel_rfl)) (by kernel_rfl) (sh 3 [(116, aB (decide (x55 ≤ 0))), (115, aB (decide (x55 ≤ 0))), (114, aB (decide (x55 ≤ 0)))] (by kernel_rfl) ?_)
           rcases bif_some hm with ⟨h57, hm⟩ | ⟨h57, hm⟩
           ·
            refine known [116, 115, 114] h57 (by kernel_rfl) (sh 3 [(119, .agg [aI x37.fHigh.fKind, aI x37.fHigh.fInt, aF x37.fHigh.fFloat, aS x37.fHigh.fText]), (118, .ptr 0 4), (117, .agg [aI x52.fKind, aI x52.fInt, aF x52.fFloat, aS x52.fText])] (by kernel_rfl) ?_)
            obtain ⟨x58, h59, hm⟩ := bs hm
            refine dv 120 (cpure (by kernel_rfl) (ok_value_Cmp h59) (by kernel_rfl) (by kernel_rfl) (by kernel_rfl)) (by kernel_rfl) (sh 2 [(122, aB (decide (x58 ≤ 0))), (121, aB (decide (x58 ≤ 0)))] (by kernel_rfl) (fin [(0, .pv (encSl R_api_Value a0)), (1, aI a1), (7, aI y9), (8, aI y10), (15, .ptr 0 0), (16, aI y49), (82, .pv (encSl R_hist_Bucket x4.1)), (83, aI ((sll x4.1).length : Int)), (84, aI y22), (100, .pv (encSl R_api_Value a0)), (101, aI ((sll a0).length : Int)), (102, aI y48), (122, aB (decide (x58 ≤ 0)))] rfl (by kernel_rfl) ?_))
            rcases bif_some hm with ⟨h60, hm⟩ | ⟨h60, hm⟩
            ·
             refine ct h60 (by kernel_rfl) (detn [(0, .pv (encSl R_api_Value a0)), (1, aI a1), (7, aI y9), (8, aI y10), (15, .ptr 0 0), (16, aI (IntKind.wrap .i64 (y49 + 1))), (82, .pv (encSl R_hist_Bucket x4.1)), (83, aI ((sll x4.1).length : Int)), (84, aI y22), (100, .pv (encSl R_api_Value a0)), (101, aI ((sll a0).length : Int)), (102, aI y48)] (by kernel_rfl) (detn [(0, .pv (encSl R_api_Value a0)), (1, aI a1), (7, aI y9), (8, aI y10), (15, .ptr 0 0), (16, aI (IntKind.wrap .i64 (y49 + 1))), (82, .pv (encSl R_hist_Bucket x4.1)), (83, aI ((sll x4.1).length : Int)), (84, aI y22), (100, .pv (encSl R_api_Value a0)), (101, aI ((sll a0).length : Int)), (102, aI (IntKind.wrap .i64 (y48 + 1)))] (by kernel_rfl) ?_))
             exact ⟨_, _, tidyL [(0, .pv (encSl R_api_Value a0)), (1, aI a1), (7, aI y9), (8, aI y10), (15, .ptr 0 0), (16, aI (IntKind.wrap .i64 (y49 + 1))), (82, .pv (encSl R_hist_Bucket x4.1)), (83, aI ((sll x4.1).length : Int)), (84, aI y22), (100, .pv (encSl R_api_Value a0)), (101, aI ((sll a0).length : Int)), (102, aI (IntKind.wrap .i64 (y48 + 1)))] [.box [aI x37.fLow.fKind, aI x37.fLow.fInt, aF x37.fLow.fFloat, aS x37.fLow.fText, aI x37.fHigh.fKind, aI x37.fHigh.fInt, aF x37.fHigh.fFloat, aS x37.fHigh.fText, aI x37.fCount, aI x37.fDistinct] false] (by kernel_rfl), ⟨(IntKind.wrap .i64 (y48 + 1)), (IntKind.wrap .i64 (y49 + 1)), hm, rfl, rfl⟩⟩
            ·
             refine cf h60 (by kernel_rfl) (wp_skip (detn [(0, .pv (encSl R_api_Value a0)), (1, aI a1), (7, aI y9), (8, aI y10), (15, .ptr 0 0), (16, aI y49), (82, .pv (encSl R_hist_Bucket x4.1)), (83, aI ((sll x4.1).length : Int)), (84, aI y22), (100, .pv (encSl R_api_Value a0)), (101, aI ((sll a0).length : Int)), (102, aI (IntKind.wrap .i64 (y48 + 1)))] (by kernel_rfl) ?_))
             exact ⟨_, _, tidyL [(0, .pv (encSl R_api_Value a0)), (1, aI a1), (7, aI y9), (8, aI y10), (15, .ptr 0 0), (16, aI y49), (82, .pv (encSl R_hist_Bucket x4.1)), (83, aI ((sll x4.1).length : Int)), (84, aI y22), (100, .pv (encSl R_api_Value a0)), (101, aI ((sll a0).length : Int)), (102, aI (IntKind.wrap .i64 (y48 + 1)))] [.box [aI x37.fLow.fKind, aI x37.fLow.fInt, aF x37.fLow.fFloat, aS x37.fLow.fText, aI x37.fHigh.fKind, aI x37.fHigh.fInt, aF x37.fHigh.fFloat, aS x37.fHigh.fText, aI x37.fCount, aI x37.fDistinct] false] (by kernel_rfl), ⟨(IntKind.wrap .i64 (y48 + 1)), y49, hm, rfl, rfl⟩⟩
           ·
            refine known [116, 115, 114] h57 (by kernel_rfl) (sh 6 [(122, aB false), (121, .undef), (120, .undef), (119, .undef), (118, .undef), (117, .undef)] (by kernel_rfl) (fin [(0, .pv (encSl R_api_Value a0)), (1, aI a1), (7, aI y9), (8, aI y10), (15, .ptr 0 0), (16, aI y49), (82, .pv (encSl R_hist_Bucket x4.1)), (83, aI ((sll x4.1).length : Int)), (84, aI y22), (100, .pv (encSl R_api_Value a0)), (101, aI ((sll a0).length : Int)), (102, aI y48), (122, aB false)] rfl (by kernel_rfl) (cF (by kernel_rfl) (wp_skip (detn [(0, .pv (encSl R_api_Value a0)), (1, aI a1), (7, aI y9), (8, aI y10), (15, .ptr 0 0), (16, aI y49), (82, .pv (encSl R_hist_Bucket x4.1)), (83, aI ((sll x4.1).length : Int)), (84, aI y22), (100, .pv (encSl R_api_Value a0)), (101, aI ((sll a0).length : Int)), (102, aI (IntKind.wrap .i64 (y48 + 1)))] (by kernel_rfl) ?_)))))
            exact ⟨_, _, tidyL [(0, .pv (encSl R_api_Value a0)), (1, aI a1), (7, aI y9), (8, aI y10), (15, .ptr 0 0), (16, aI y49), (82, .pv (encSl R_hist_Bucket x4.1)), (83, aI ((sll x4.1).length : Int)), (84, aI y22), (100, .pv (encSl R_api_Value a0)), (101, aI ((sll a0).length : Int)), (102, aI (IntKind.wrap .i64 (y48 + 1)))] [.box [aI x37.fLow.fKind, aI x37.fLow.fInt, aF x37.fLow.fFloat, aS x37.fLow.fText, aI x37.fHigh.fKind, aI x37.fHigh.fInt, aF x37.fHigh.fFloat, aS x37.fHigh.fText, aI x37.fCount, aI x37.fDistinct] false] (by kernel_rfl), ⟨(IntKind.wrap .i64 (y48 + 1)), y49, hm, rfl, rfl⟩⟩
          ·
           refine known [109, 108] h54 (by kernel_rfl) (sh 13 [(122, aB false), (121, .undef), (120, .undef), (119, .undef), (118, .undef), (117, .undef), (116, aB false), (115, aB false), (114, .undef), (113, .undef), (112, .undef), (111, .undef), (110, .undef)] (by kernel_rfl) (fin [(0, .pv (encSl R_api_Value a0)), (1, aI a1), (7, aI y9), (8, aI y10), (15, .ptr 0 0), (16, aI y49), (82, .pv (encSl R_hist_Bucket x4.1)), (83, aI ((sll x4.1).length : Int)), (84, aI y22), (100, .pv (encSl R_api_Value a0)), (101, aI ((sll a0).length : Int)), (102, aI y48), (122, aB false)] rfl (by kernel_rfl) (cF (by kernel_rfl) (wp_skip (detn [(0, .pv (encSl R_api_Value a0)), (1, aI a1), (7, aI y9), (8, aI y10), (15, .ptr 0 0), (16, aI y49), (82, .pv (encSl R_hist_Bucket x4.1)), (83, aI ((sll x4.1).length : Int)), (84, aI y22), (100, .pv (encSl R_api_Value a0)), (101, aI ((sll a0).length : Int)), (102, aI (IntKind.wrap .i64 (y48 + 1)))] (by kernel_rfl) ?_)))))
           exact ⟨_, _, tidyL [(0, .pv (encSl R_api_Value a0)), (1, aI a1), (7, aI y9), (8, aI y10), (15, .ptr 0 0), (16, aI y49), (82, .pv (encSl R_hist_Bucket x4.1)), (83, aI ((sll x4.1).length : Int)), (84, aI y22), (100, .pv (encSl R_api_Value a0)), (101, aI ((sll a0).length : Int)), (102, aI (IntKind.wrap .i64 (y48 + 1)))] [.box [aI x37.fLow.fKind, aI x37.fLow.fInt, aF x37.fLow.fFloat, aS x37.fLow.fText, aI x37.fHigh.fKind, aI x37.fHigh.fInt, aF x37.fHigh.fFloat, aS x37.fHigh.fText, aI x37.fCount, aI x37.fDistinct] false] (by kernel_rfl), ⟨(IntKind.wrap .i64 (y48 + 1)), y49, hm, rfl, rfl⟩⟩
         ·
          refine cf h51 (by kernel_rfl) (wp_exit ?_)
          exact ⟨y48, (decide (y48 < ((sll a0).length : Int))), y49, hm, rfl, rfl⟩
       ·
        refine cf h24 (by kernel_rfl) (wp_exit ?_)
        exact ⟨y22, (decide (y22 < ((sll x4.1).length : Int))), hm, rfl, rfl⟩
    refine sq (rg (sh 1 [(36, .pv (encSl R_api_Value a0))] (by kernel_rfl) (dv 37 (v := aI ((sll a0).length : Int)) (len_slO R_api_Value a0 t52 (by kernel_rfl)) (by kernel_rfl) (sh 1 [(38, aI 0)] (by kernel_rfl) (fin [(0, .pv (encSl R_api_Value a0)), (1, aI a1), (5, .pv (encSl R_hist_Bucket x4.1)), (7, aI 0), (8, aI 0), (36, .pv (encSl R_api_Value a0)), (37, aI ((sll a0).length : Int)), (38, aI 0)] rfl (by kernel_rfl) (bq ?_))))))
    refine loopF (fun mm t H => (∃ (y64 : Int) (y65 : Int) (y66 : Int), law19_HistBounds_l8 n a0 x4 k11 mm y64 y65 y66 = some r ∧ t = mk 131 [(0, .pv (encSl R_api_Value a0)), (1, aI a1), (5, .pv (encSl R_hist_Bucket x4.1)), (7, aI y65), (8, aI y66), (36, .pv (encSl R_api_Value a0)), (37, aI ((sll a0).length : Int)), (38, aI y64)] ∧ H = [])) (⟨0, 0, 0, hm, rfl, rfl⟩) ?_ ?_
    · rintro _ _ ⟨y64, y65, y66, hm, _⟩; exact nomatch hm
    rintro m67 _ _ ⟨y64, y65, y66, hm, rfl, rfl⟩
    simp only [law19_HistBounds_l8] at hm
    refine sq (detn [(0, .pv (encSl R_api_Value a0)), (1, aI a1), (5, .pv (encSl R_hist_Bucket x4.1)), (7, aI y65), (8, aI y66), (36, .pv (encSl R_api_Value a0)), (37, aI ((sll a0).length : Int)), (38, aI y64), (39, aB (decide (y64 < ((sll a0).length : Int))))] (by kernel_rfl) ?_)
    refine sq ?_
    rcases bif_some hm with ⟨h68, hm⟩ | ⟨h68, hm⟩
    ·
     refine ct h68 (by kernel_rfl) (wp_skip ?_)
     obtain ⟨k75, hk75, hm⟩ := withK_some hm
     refine mid (fun t H => (∃ (y73 : Int) (y74 : Int) (w69 : AV) (w70 : AV) (w71 : AV) (w72 : Blk), k75 y73 y74 = some r ∧ t = mk 131 [(0, .pv (encSl R_api_Value a0)), (1, aI a1), (5, .pv (encSl R_hist_Bucket x4.1)), (7, aI y73), (8, aI y74), (10, w69), (36, .pv (encSl R_api_Value a0)), (37, aI ((sll a0).length : Int)), (38, aI y64), (44, w70), (65, w71)] ∧ H = [w72])) ?_ ?_
     ·
      rintro _ _ ⟨y73, y74, w69, w70, w71, w72, hm, rfl, rfl⟩
      subst hk75
      refine detn [(0, .pv (encSl R_api_Value a0)), (1, aI a1), (5, .pv (encSl R_hist_Bucket x4.1)), (7, aI y73), (8, aI y74), (36, .pv (encSl R_api_Value a0)), (37, aI ((sll a0).length : Int)), (38, aI (IntKind.wrap .i64 (y64 + 1)))] (by kernel_rfl) ?_
      exact ⟨_, _, tidyL [(0, .pv (encSl R_api_Value a0)), (1, aI a1), (5, .pv (encSl R_hist_Bucket x4.1)), (7, aI y73), (8, aI y74), (36, .pv (encSl R_api_Value a0)), (37, aI ((sll a0).length : Int)), (38, aI (IntKind.wrap .i64 (y64 + 1)))] [] (by kernel_rfl), ⟨(IntKind.wrap .i64 (y64 + 1)), y73, y74, hm, rfl, rfl⟩⟩
     refine bq (sq (rg ?_))
     obtain ⟨x76, h77, hm⟩ := bs hm
     refine dv 40 (v := .pv (.ptr (R_api_Value x76) 0)) (ia_slO R_api_Value a0 .i64 t52 t64 h77 rfl (by kernel_rfl)) (by kernel_rfl) (st 3 [(10, .ptr 0 0), (41, .agg [aI x76.fKind, aI x76.fInt, aF x76.fFloat, aS x76.fText])] [.box [aI x76.fKind, aI x76.fInt, aF x76.fFloat, aS x76.fText] false] (by kernel_rfl) (fin [(0, .pv (encSl R_api_Value a0)), (1, aI a1), (5, .pv (encSl R_hist_Bucket x4.1)), (7, aI y65), (8, aI y66), (10, .ptr 0 0), (36, .pv (encSl R_api_Value a0)), (37, aI ((sll a0).length : Int)), (38, aI y64)] rfl (by kernel_rfl) ?_))
     refine sq (sq (detn [(0, .pv (encSl R_api_Value a0)), (1, aI a1), (5, .pv (encSl R_hist_Bucket x4.1)), (7, aI y65), (8, aI y66), (10, .ptr 0 0), (36, .pv (encSl R_api_Value a0)), (37, aI ((sll a0).length : Int)), (38, aI y64), (44, aB (x76.fKind == 0))] (by kernel_rfl) ?_))
     rcases bif_some hm with ⟨h78, hm⟩ | ⟨h78, hm⟩
     ·
      refine ct h78 (by kernel_rfl) (wp_exit ?_)
      exact ⟨y65, y66, .ptr 0 0, aB (x76.fKind == 0), .any, .box [aI x76.fKind, aI x76.fInt, aF x76.fFloat, aS x76.fText] false, hm, (mk_same (by kernel_rfl)), rfl⟩
     ·
      refine cf h78 (by kernel_rfl) (wp_skip (sq (detn [(0, .pv (encSl R_api_Value a0)), (1, aI a1), (5, .pv (encSl R_hist_Bucket x4.1)), (7, aI (IntKind.wrap .i64 (y65 + 1))), (8, aI y66), (10, .ptr 0 0), (36, .pv (encSl R_api_Value a0)), (37, aI ((sll a0).length : Int)), (38, aI y64)] (by kernel_rfl) (sq (detn [(0, .pv (encSl R_api_Value a0)), (1, aI a1), (5, .pv (encSl R_hist_Bucket x4.1)), (7, aI (IntKind.wrap .i64 (y65 + 1))), (8, aI y66), (10, .ptr 0 0), (11, aI 0), (36, .pv (encSl R_api_Value a0)), (37, aI ((sll a0).length : Int)), (38, aI y64)] (by kernel_rfl) ?_)))))
      obtain ⟨k82, hk82, hm⟩ := withK_some hm
      refine mid (fun t H => (∃ (y79 : Int) (y80 : Int) (y81 : Bool), k82 y79 = some r ∧ t = mk 131 [(0, .pv (encSl R_api_Value a0)), (1, aI a1), (5, .pv (encSl R_hist_Bucket x4.1)), (7, aI (IntKind.wrap .i64 (y65 + 1))), (8, aI y66), (10, .ptr 0 0), (11, aI y79), (36, .pv (encSl R_api_Value a0)), (37, aI ((sll a0).length : Int)), (38, aI y64), (47, .pv (encSl R_api_Value a0)), (48, aI ((sll a0).length : Int)), (49, aI y80), (50, aB y81)] ∧ H = [.box [aI x76.fKind, aI x76.fInt, aF x76.fFloat, aS x76.fText] false])) ?_ ?_
      ·
       rintro _ _ ⟨y79, y80, y81, hm, rfl, rfl⟩
       subst hk82
       refine sq (detn [(0, .pv (encSl R_api_Value a0)), (1, aI a1), (5, .pv (encSl R_hist_Bucket x4.1)), (7, aI (IntKind.wrap .i64 (y65 + 1))), (8, aI (if y79 > y66 then y79 else y66)), (10, .ptr 0 0), (36, .pv (encSl R_api_Value a0)), (37, aI ((sll a0).length : Int)), (38, aI y64)] (by kernel_rfl) (sq (rg (sh 2 [(63, .agg [aI x76.fKind, aI x76.fInt, aF x76.fFloat, aS x76.fText]), (62, .pv (encSl R_hist_Bucket x4.1))] (by kernel_rfl) ?_))))
       obtain ⟨x83, h84, hm⟩ := bs hm
       refine dv 64 (cpure (by kernel_rfl) (ok_hist_Equal h84) (by kernel_rfl) (by kernel_rfl) (by kernel_rfl)) (by kernel_rfl) (sh 1 [(65, aB (decide (x83 < 1)))] (by kernel_rfl) (fin [(0, .pv (encSl R_api_Value a0)), (1, aI a1), (5, .pv (encSl R_hist_Bucket x4.1)), (7, aI (IntKind.wrap .i64 (y65 + 1))), (8, aI (if y79 > y66 then y79 else y66)), (36, .pv (encSl R_api_Value a0)), (37, aI ((sll a0).length : Int)), (38, aI y64), (65, aB (decide (x83 < 1)))] rfl (by kernel_rfl) ?_))
       rcases bif_some hm with ⟨h85, hm⟩ | ⟨h85, hm⟩
       ·
        refine ct h85 (by kernel_rfl) (sq (detn [(4, aB false)] (by kernel_rfl) (wp_ret ?_)))
        obtain rfl := Option.some.inj hm
        exact ⟨trivial, by kernel_rfl⟩
       ·
        refine cf h85 (by kernel_rfl) (wp_skip ?_)
        exact ⟨(IntKind.wrap .i64 (y65 + 1)), (if y79 > y66 then y79 else y66), .any, .any, aB (decide (x83 < 1)), .box [aI x76.fKind, aI x76.fInt, aF x76.fFloat, aS x76.fText] false, hm, (mk_same (by kernel_rfl)), rfl⟩
      refine sq (rg (sh 1 [(47, .pv (encSl R_api_Value a0))] (by kernel_rfl) (dv 48 (v := aI ((sll a0).length : Int)) (len_slO R_api_Value a0 t52 (by kernel_rfl)) (by kernel_rfl) (sh 1 [(49, aI 0)] (by kernel_rfl) (fin [(0, .pv (encSl R_api_Value a0)), (1, aI a1), (5, .pv (encSl R_hist_Bucket x4.1)), (7, aI (IntKind.wrap .i64 (y65 + 1))), (8, aI y66), (10, .ptr 0 0), (11, aI 0), (36, .pv (encSl R_api_Value a0)), (37, aI ((sll a0).length : Int)), (38, aI y64), (47, .pv (encSl R_api_Value a0)), (48, aI ((sll a0).length : Int)), (49, aI 0)] rfl (by kernel_rfl) (bq ?_))))))
      refine loopF (fun mm t H => (∃ (y88 : Int) (y89 : Int), law19_HistBounds_l14 n a0 x76 k82 mm y88 y89 = some r ∧ t = mk 131 [(0, .pv (encSl R_api_Value a0)), (1, aI a1), (5, .pv (encSl R_hist_Bucket x4.1)), (7, aI (IntKind.wrap .i64 (y65 + 1))), (8, aI y66), (10, .ptr 0 0), (11, aI y88), (36, .pv (encSl R_api_Value a0)), (37, aI ((sll a0).length : Int)), (38, aI y64), (47, .pv (encSl R_api_Value a0)), (48, aI ((sll a0).length : Int)), (49, aI y89)] ∧ H = [.box [aI x76.fKind, aI x76.fInt, aF x76.fFloat, aS x76.fText] false])) (⟨0, 0, hm, rfl, rfl⟩) ?_ ?_
      · rintro _ _ ⟨y88, y89, hm, _⟩; exact nomatch hm
      rintro m90 _ _ ⟨y88, y89, hm, rfl, rfl⟩
      simp only [law19_HistBounds_l14] at hm
      refine sq (detn [(0, .pv (encSl R_api_Value a0)), (1, aI a1), (5, .pv (encSl R_hist_Bucket x4.1)), (7, aI (IntKind.wrap .i64 (y65 + 1))), (8, aI y66), (10, .ptr 0 0), (11, aI y88), (36, .pv (encSl R_api_Value a0)), (37, aI ((sll a0).length : Int)), (38, aI y64), (47, .pv (encSl R_api_Value a0)), (48, aI ((sll a0).length : Int)), (49, aI y89), (50, aB (decide (y89 < ((sll a0).length : Int))))] (by kernel_rfl) ?_)
      refine sq ?_
      rcases bif_some hm with ⟨h91, hm⟩ | ⟨h91, hm⟩
      ·
       refine ct h91 (by kernel_rfl) (wp_skip (sq (bq (sq (rg ?_)))))
       obtain ⟨x92, h93, hm⟩ := bs hm
       refine dv 51 (v := .pv (.ptr (R_api_Value x92) 0)) (ia_slO R_api_Value a0 .i64 t52 t64 h93 rfl (by kernel_rfl)) (by kernel_rfl) (st 3 [(13, .ptr 1 0), (52, .agg [aI x92.fKind, aI x92.fInt, aF x92.fFloat, aS x92.fText])] [.box [aI x76.fKind, aI x76.fInt, aF x76.fFloat, aS x76.fText] false, .box [aI x92.fKind, aI x92.fInt, aF x92.fFloat, aS x92.fText] false] (by kernel_rfl) (fin [(0, .pv (encSl R_api_Value a0)), (1, aI a1), (5, .pv (encSl R_hist_Bucket x4.1)), (7, aI (IntKind.wrap .i64 (y65 + 1))), (8, aI y66), (10, .ptr 0 0), (11, aI y88), (13, .ptr 1 0), (36, .pv (encSl R_api_Value a0)), (37, aI ((sll a0).length : Int)), (38, aI y64), (47, .pv (encSl R_api_Value a0)), (48, aI ((sll a0).length : Int)), (49, aI y89)] rfl (by kernel_rfl) (sq (rg (sh 2 [(54, .agg [aI x92.fKind, aI x92.fInt, aF x92.fFloat, aS x92.fText]), (53, .agg [aI x76.fKind, aI x76.fInt, aF x76.fFloat, aS x76.fText])] (by kernel_rfl) ?_)))))
       obtain ⟨x94, h95, hm⟩ := bs hm
       refine dv 55 (cpure (by kernel_rfl) (ok_value_Same h95) (by kernel_rfl) (by kernel_rfl) (by kernel_rfl)) (by kernel_rfl) (fin [(0, .pv (encSl R_api_Value a0)), (1, aI a1), (5, .pv (encSl R_hist_Bucket x4.1)), (7, aI (IntKind.wrap .i64 (y65 + 1))), (8, aI y66), (10, .ptr 0 0), (11, aI y88), (36, .pv (encSl R_api_Value a0)), (37, aI ((sll a0).length : Int)), (38, aI y64), (47, .pv (encSl R_api_Value a0)), (48, aI ((sll a0).length : Int)), (49, aI y89), (55, aB x94)] rfl (by kernel_rfl) ?_)
       rcases bif_some hm with ⟨h96, hm⟩ | ⟨h96, hm⟩
       ·
        refine ct h96 (by kernel_rfl) (detn [(0, .pv (encSl R_api_Value a0)), (1, aI a1), (5, .pv (encSl R_hist_Bucket x4.1)), (7, aI (IntKind.wrap .i64 (y65 + 1))), (8, aI y66), (10, .ptr 0 0), (11, aI (IntKind.wrap .i64 (y88 + 1))), (36, .pv (encSl R_api_Value a0)), (37, aI ((sll a0).length : Int)), (38, aI y64), (47, .pv (encSl R_api_Value a0)), (48, aI ((sll a0).length : Int)), (49, aI y89)] (by kernel_rfl) (detn [(0, .pv (encSl R_api_Value a0)), (1, aI a1), (5, .pv (encSl R_hist_Bucket x4.1)), (7, aI (IntKind.wrap .i64 (y65 + 1))), (8, aI y66), (10, .ptr 0 0), (11, aI (IntKind.wrap .i64 (y88 + 1))), (36, .pv (encSl R_api_Value a0)), (37, aI ((sll a0).length : Int)), (38, aI y64), (47, .pv (encSl R_api_Value a0)), (48, aI ((sll a0).length : Int)), (49, aI (IntKind.wrap .i64 (y89 + 1)))] (by kernel_rfl) ?_))
        exact ⟨_, _, tidyL [(0, .pv (encSl R_api_Value a0)), (1, aI a1), (5, .pv (encSl R_hist_Bucket x4.1)), (7, aI (IntKind.wrap .i64 (y65 + 1))), (8, aI y66), (10, .ptr 0 0), (11, aI (IntKind.wrap .i64 (y88 + 1))), (36, .pv (encSl R_api_Value a0)), (37, aI ((sll a0).length : Int)), (38, aI y64), (47, .pv (encSl R_api_Value a0)), (48, aI ((sll a0).length : Int)), (49, aI (IntKind.wrap .i64 (y89 + 1)))] [.box [aI x76.fKind, aI x76.fInt, aF x76.fFloat, aS x76.fText] false] (by kernel_rfl), ⟨(IntKind.wrap .i64 (y88 + 1)), (IntKind.wrap .i64 (y89 + 1)), hm, rfl, rfl⟩⟩
       ·
        refine cf h96 (by kernel_rfl) (wp_skip (detn [(0, .pv (encSl R_api_Value a0)), (1, aI a1), (5, .pv (encSl R_hist_Bucket x4.1)), (7, aI (IntKind.wrap .i64 (y65 + 1))), (8, aI y66), (10, .ptr 0 0), (11, aI y88), (36, .pv (encSl R_api_Value a0)), (37, aI ((sll a0).length : Int)), (38, aI y64), (47, .pv (encSl R_api_Value a0)), (48, aI ((sll a0).length : Int)), (49, aI (IntKind.wrap .i64 (y89 + 1)))] (by kernel_rfl) ?_))
        exact ⟨_, _, tidyL [(0, .pv (encSl R_api_Value a0)), (1, aI a1), (5, .pv (encSl R_hist_Bucket x4.1)), (7, aI (IntKind.wrap .i64 (y65 + 1))), (8, aI y66), (10, .ptr 0 0), (11, aI y88), (36, .pv (encSl R_api_Value a0)), (37, aI ((sll a0).length : Int)), (38, aI y64), (47, .pv (encSl R_api_Value a0)), (48, aI ((sll a0).length : Int)), (49, aI (IntKind.wrap .i64 (y89 + 1)))] [.box [aI x76.fKind, aI x76.fInt, aF x76.fFloat, aS x76.fText] false] (by kernel_rfl), ⟨y88, (IntKind.wrap .i64 (y89 + 1)), hm, rfl, rfl⟩⟩
      ·
       refine cf h91 (by kernel_rfl) (wp_exit ?_)
       exact ⟨y88, y89, (decide (y89 < ((sll a0).length : Int))), hm, rfl, rfl⟩
    ·
     refine cf h68 (by kernel_rfl) (wp_exit ?_)
     exact ⟨y64, (decide (y64 < ((sll a0).length : Int))), y65, y66, hm, rfl, rfl⟩
end Go.Ab.S1
