import Derived.Test.YtjbhpopccbhhlaaWB1
namespace Go.Ab.S1
open Go Go.Ab Go.Pl
open Go.Proofs.Try
set_option linter.unusedVariables false
set_option linter.unusedSimpArgs false
set_option maxRecDepth 100000
theorem ok_slices_breakPatternsCmpFunc_Value_value_Cmp_r (m0 : Nat) (f0 : Nat) {n : Nat} {a0 : (List api_Value)} {a1 : Int} {a2 : Int} {r : (List api_Value)} (hm0 : a0.length = m0) (hf0 : f0 ≤ a0.length) (hm : slices_breakPatternsCmpFunc_Value_value_Cmp_r n a0 a1 a2 = some r) :
    ∃ vv H1, call G n 126 [aR 0 4 m0, aI a1, aI a2, .pv (.fn 41 [] [])] [bR 64 4 R_api_Value a0 f0 0] = some (.ret vv, H1) ∧ (match r with | r0 => (∃ (e1 : Nat), r0.length = m0 ∧ e1 ≤ r0.length ∧ vv = .tup [] ∧ H1 = [bR 64 4 R_api_Value r0 e1 0])) := by
  unfold slices_breakPatternsCmpFunc_Value_value_Cmp_r at hm
  obtain ⟨n, rfl, h0⟩ := at1_some hm
  replace hm := h0; clear h0
  refine callE 67 [(0, aR 0 4 m0), (1, aI a1), (2, aI a2), (3, .pv (.fn 41 [] []))] func126 rfl (by kernel_rfl) (sq (detn [(0, aR 0 4 m0), (1, aI a1), (8, aI (IntKind.wrap .i64 (a2 - a1)))] (by kernel_rfl) (sq (detn [(0, aR 0 4 m0), (1, aI a1), (8, aI (IntKind.wrap .i64 (a2 - a1))), (17, aB (decide ((IntKind.wrap .i64 (a2 - a1)) ≥ 8)))] (by kernel_rfl) ?_))))
  rcases bif_some hm with ⟨h1, hm⟩ | ⟨h1, hm⟩
  ·
   refine ct h1 (by kernel_rfl) (sq (det [(0, aR 0 4 m0), (1, aI a1), (8, aI (IntKind.wrap .i64 (a2 - a1))), (9, .ptr 1 0)] [bR 64 4 R_api_Value a0 f0 0, .box [aU (IntKind.wrap .u64 (IntKind.wrap .i64 (a2 - a1)))] false] (by kernel_rfl) (sq (rg (sh 1 [(20, aI (IntKind.wrap .i64 (a2 - a1)))] (by kernel_rfl) ?_)))))
   obtain ⟨x2, h3, hm⟩ := bs hm
   refine dv 21 (cpure (by kernel_rfl) (ok_slices_nextPowerOfTwo h3) (by kernel_rfl) (by kernel_rfl) (by kernel_rfl)) (by kernel_rfl) (sh 1 [(10, aU x2)] (by kernel_rfl) (fin [(0, aR 0 4 m0), (1, aI a1), (8, aI (IntKind.wrap .i64 (a2 - a1))), (9, .ptr 1 0), (10, aU x2)] rfl (by kernel_rfl) (sq (detn [(0, aR 0 4 m0), (1, aI a1), (8, aI (IntKind.wrap .i64 (a2 - a1))), (9, .ptr 1 0), (10, aU x2), (11, aI (IntKind.wrap .i64 ((IntKind.wrap .i64 (a1 + (IntKind.wrap .i64 ((IntKind.wrap .i64 (Int.tdiv (IntKind.wrap .i64 (a2 - a1)) 4)) * 2)))) - 1)))] (by kernel_rfl) (bq ?_)))))
   refine loopF (fun mm t H => (∃ (y10 : (List api_Value)) (y11 : Int) (y12 : Int) (g14 : Nat), slices_breakPatternsCmpFunc_Value_value_Cmp_r_l5 n a1 a2 x2 mm y10 y11 y12 = some r ∧ t = mk 67 [(0, aR 0 4 m0), (1, aI a1), (8, aI (IntKind.wrap .i64 (a2 - a1))), (9, .ptr 1 0), (10, aU x2), (11, aI y12)] ∧ H = [bR 64 4 R_api_Value y10 g14 0, .box [aU y11] false] ∧ y10.length = m0 ∧ g14 ≤ y10.length)) (⟨a0, (IntKind.wrap .u64 (IntKind.wrap .i64 (a2 - a1))), (IntKind.wrap .i64 ((IntKind.wrap .i64 (a1 + (IntKind.wrap .i64 ((IntKind.wrap .i64 (Int.tdiv (IntKind.wrap .i64 (a2 - a1)) 4)) * 2)))) - 1)), f0, hm, rfl, rfl, (by first | rfl | assumption | omega | (simp only [List.length_set, List.length_append, List.length_cons, List.length_nil, List.length_replicate, List.length_drop] at * <;> omega)), (by first | exact Nat.zero_le _ | exact Nat.le_refl _ | assumption | omega | (simp only [List.length_set, List.length_append, List.length_cons, List.length_nil, List.length_replicate, List.length_drop] at * <;> omega))⟩) ?_ ?_
   · rintro _ _ ⟨y10, y11, y12, g14, hm, _⟩; exact nomatch hm
   rintro m16 _ _ ⟨y10, y11, y12, g14, hm, rfl, rfl, q13, q15⟩
   simp only [slices_breakPatternsCmpFunc_Value_value_Cmp_r_l5] at hm
   refine sq (sq (detn [(0, aR 0 4 m0), (1, aI a1), (8, aI (IntKind.wrap .i64 (a2 - a1))), (9, .ptr 1 0), (10, aU x2), (11, aI y12), (35, aB (decide (y12 ≤ (IntKind.wrap .i64 ((IntKind.wrap .i64 (a1 + (IntKind.wrap .i64 ((IntKind.wrap .i64 (Int.tdiv (IntKind.wrap .i64 (a2 - a1)) 4)) * 2)))) + 1)))))] (by kernel_rfl) ?_))
   rcases bif_some hm with ⟨h17, hm⟩ | ⟨h17, hm⟩
   ·
    refine ct h17 (by kernel_rfl) (wp_skip (sq (bq (sq (rg ?_)))))
    obtain ⟨_, h18, hm⟩ := bs hm
    obtain ⟨vv, H1, hC, rfl, rfl⟩ := ok_slices_xorshift_Next h18
    refine dR [(38, aU (iXor .u64 (iXor .u64 (iXor .u64 y11 (iShl .u64 y11 13)) (iShr .u64 (iXor .u64 y11 (iShl .u64 y11 13)) 7)) (iShl .u64 (iXor .u64 (iXor .u64 y11 (iShl .u64 y11 13)) (iShr .u64 (iXor .u64 y11 (iShl .u64 y11 13)) 7)) 17)))] [bR 64 4 R_api_Value y10 g14 0, .box [aU (iXor .u64 (iXor .u64 (iXor .u64 y11 (iShl .u64 y11 13)) (iShr .u64 (iXor .u64 y11 (iShl .u64 y11 13)) 7)) (iShl .u64 (iXor .u64 (iXor .u64 y11 (iShl .u64 y11 13)) (iShr .u64 (iXor .u64 y11 (iShl .u64 y11 13)) 7)) 17))] false] [1] [.ptr 1 0] (by kernel_rfl) (by kernel_rfl) (by kernel_rfl) hC (by kernel_rfl) (sh 5 [(12, aI (IntKind.wrap .i64 (iAnd .u64 (iXor .u64 (iXor .u64 (iXor .u64 y11 (iShl .u64 y11 13)) (iShr .u64 (iXor .u64 y11 (iShl .u64 y11 13)) 7)) (iShl .u64 (iXor .u64 (iXor .u64 y11 (iShl .u64 y11 13)) (iShr .u64 (iXor .u64 y11 (iShl .u64 y11 13)) 7)) 17)) (IntKind.wrap .u64 (x2 - 1))))), (42, aI (IntKind.wrap .i64 (iAnd .u64 (iXor .u64 (iXor .u64 (iXor .u64 y11 (iShl .u64 y11 13)) (iShr .u64 (iXor .u64 y11 (iShl .u64 y11 13)) 7)) (iShl .u64 (iXor .u64 (iXor .u64 y11 (iShl .u64 y11 13)) (iShr .u64 (iXor .u64 y11 (iShl .u64 y11 13)) 7)) 17)) (IntKind.wrap .u64 (x2 - 1))))), (41, aU (iAnd .u64 (iXor .u64 (iXor .u64 (iXor .u64 y11 (iShl .u64 y11 13)) (iShr .u64 (iXor .u64 y11 (iShl .u64 y11 13)) 7)) (iShl .u64 (iXor .u64 (iXor .u64 y11 (iShl .u64 y11 13)) (iShr .u64 (iXor .u64 y11 (iShl .u64 y11 13)) 7)) 17)) (IntKind.wrap .u64 (x2 - 1)))), (40, aU (IntKind.wrap .u64 (x2 - 1))), (39, aU x2)] (by kernel_rfl) (fin [(0, aR 0 4 m0), (1, aI a1), (8, aI (IntKind.wrap .i64 (a2 - a1))), (9, .ptr 1 0), (10, aU x2), (11, aI y12), (12, aI (IntKind.wrap .i64 (iAnd .u64 (iXor .u64 (iXor .u64 (iXor .u64 y11 (iShl .u64 y11 13)) (iShr .u64 (iXor .u64 y11 (iShl .u64 y11 13)) 7)) (iShl .u64 (iXor .u64 (iXor .u64 y11 (iShl .u64 y11 13)) (iShr .u64 (iXor .u64 y11 (iShl .u64 y11 13)) 7)) 17)) (IntKind.wrap .u64 (x2 - 1)))))] rfl (by kernel_rfl) ?_))
    obtain ⟨k21, hk21, hm⟩ := withK_some hm
    refine mid (fun t H => (∃ (y20 : Int) (w19 : AV), k21 y20 = some r ∧ t = mk 67 [(0, aR 0 4 m0), (1, aI a1), (8, aI (IntKind.wrap .i64 (a2 - a1))), (9, .ptr 1 0), (10, aU x2), (11, aI y12), (12, aI y20), (45, w19)] ∧ H = [bR 64 4 R_api_Value y10 g14 0, .box [aU (iXor .u64 (iXor .u64 (iXor .u64 y11 (iShl .u64 y11 13)) (iShr .u64 (iXor .u64 y11 (iShl .u64 y11 13)) 7)) (iShl .u64 (iXor .u64 (iXor .u64 y11 (iShl .u64 y11 13)) (iShr .u64 (iXor .u64 y11 (iShl .u64 y11 13)) 7)) 17))] false])) ?_ ?_
    ·
     rintro _ _ ⟨y20, w19, hm, rfl, rfl⟩
     subst hk21
     refine rgd (shd 10 [(58, aI (IntKind.wrap .i64 (a1 + y20))), (57, aI y20), (56, aI a1), (55, aR 0 4 m0), (54, aI (IntKind.wrap .i64 (a1 + y20))), (53, aI y20), (52, aI a1), (51, aR 0 4 m0), (50, aI y12), (49, aR 0 4 m0)] (by kernel_rfl) ?_)
     obtain ⟨x22, h23, hm⟩ := bs hm
     refine dvd 59 (v := .eptr 0 0 m0 4 (0 + Int.toNat (IntKind.wrap .i64 (a1 + y20))) 0) (ia_refO y10 .i64 (n := m0) (id := 0) (esz := 4) t52 t64 h23 (by omega) rfl (by kernel_rfl)) (by kernel_rfl) (dvd 60 (v := .agg [aI x22.fKind, aI x22.fInt, aF x22.fFloat, aS x22.fText]) (ld_eptrO R_api_Value y10 (n := m0) (esz := 4) (j := (IntKind.wrap .i64 (a1 + y20))) (off := 0) (id := 0) t64 rfl h23 (by omega) (by omega) (by kernel_rfl) (by kernel_rfl)) (by kernel_rfl) (shd 2 [(62, aI y12), (61, aR 0 4 m0)] (by kernel_rfl) ?_))
     obtain ⟨x24, h25, hm⟩ := bs hm
     refine dvd 63 (v := .eptr 0 0 m0 4 (0 + Int.toNat y12) 0) (ia_refO y10 .i64 (n := m0) (id := 0) (esz := 4) t52 t64 h25 (by omega) rfl (by kernel_rfl)) (by kernel_rfl) (dvd 64 (v := .agg [aI x24.fKind, aI x24.fInt, aF x24.fFloat, aS x24.fText]) (ld_eptrO R_api_Value y10 (n := m0) (esz := 4) (j := y12) (off := 0) (id := 0) t64 rfl h25 (by omega) (by omega) (by kernel_rfl) (by kernel_rfl)) (by kernel_rfl) (dvd 65 (v := .eptr 0 0 m0 4 (0 + Int.toNat y12) 0) (ia_refO y10 .i64 (n := m0) (id := 0) (esz := 4) t52 t64 h25 (by omega) rfl (by kernel_rfl)) (by kernel_rfl) (dOd [] [bR 64 4 R_api_Value (y10.set (Int.toNat y12) x22) m0 0, .box [aU (iXor .u64 (iXor .u64 (iXor .u64 y11 (iShl .u64 y11 13)) (iShr .u64 (iXor .u64 y11 (iShl .u64 y11 13)) 7)) (iShl .u64 (iXor .u64 (iXor .u64 y11 (iShl .u64 y11 13)) (iShr .u64 (iXor .u64 y11 (iShl .u64 y11 13)) 7)) 17))] false] (st_eptrO R_api_Value y10 x22 (n := m0) (esz := 4) (v := .agg [aI x22.fKind, aI x22.fInt, aF x22.fFloat, aS x22.fText]) (j := y12) (off := 0) (id := 0) t64 rfl h25 (by omega) (by omega) rfl rfl rfl rfl (by kernel_rfl)) (by kernel_rfl) ?_)))
     obtain ⟨x26, h27, hm⟩ := bs hm
     refine dvd 66 (v := .eptr 0 0 m0 4 (0 + Int.toNat (IntKind.wrap .i64 (a1 + y20))) 0) (ia_refO (y10.set (Int.toNat y12) x22) .i64 (n := m0) (id := 0) (esz := 4) t52 t64 h27 (by first | rfl | assumption | omega | (simp only [List.length_set, List.length_append, List.length_cons, List.length_nil, List.length_replicate, List.length_drop] at * <;> omega)) rfl (by kernel_rfl)) (by kernel_rfl) (dOd [] [bR 64 4 R_api_Value ((y10.set (Int.toNat y12) x22).set (Int.toNat (IntKind.wrap .i64 (a1 + y20))) x24) m0 0, .box [aU (iXor .u64 (iXor .u64 (iXor .u64 y11 (iShl .u64 y11 13)) (iShr .u64 (iXor .u64 y11 (iShl .u64 y11 13)) 7)) (iShl .u64 (iXor .u64 (iXor .u64 y11 (iShl .u64 y11 13)) (iShr .u64 (iXor .u64 y11 (iShl .u64 y11 13)) 7)) 17))] false] (st_eptrO R_api_Value (y10.set (Int.toNat y12) x22) x24 (n := m0) (esz := 4) (v := .agg [aI x24.fKind, aI x24.fInt, aF x24.fFloat, aS x24.fText]) (j := (IntKind.wrap .i64 (a1 + y20))) (off := 0) (id := 0) t64 rfl h27 (by first | rfl | assumption | omega | (simp only [List.length_set, List.length_append, List.length_cons, List.length_nil, List.length_replicate, List.length_drop] at * <;> omega)) (by first | exact Nat.zero_le _ | exact Nat.le_refl _ | assumption | omega | (simp only [List.length_set, List.length_append, List.length_cons, List.length_nil, List.length_replicate, List.length_drop] at * <;> omega)) rfl rfl rfl rfl (by kernel_rfl)) (by kernel_rfl) (find [(0, aR 0 4 m0), (1, aI a1), (8, aI (IntKind.wrap .i64 (a2 - a1))), (9, .ptr 1 0), (10, aU x2), (11, aI y12)] rfl (by kernel_rfl) (by kernel_rfl) (detn [(0, aR 0 4 m0), (1, aI a1), (8, aI (IntKind.wrap .i64 (a2 - a1))), (9, .ptr 1 0), (10, aU x2), (11, aI (IntKind.wrap .i64 (y12 + 1)))] (by kernel_rfl) ?_)))
     exact ⟨_, _, tidyL [(0, aR 0 4 m0), (1, aI a1), (8, aI (IntKind.wrap .i64 (a2 - a1))), (9, .ptr 1 0), (10, aU x2), (11, aI (IntKind.wrap .i64 (y12 + 1)))] [bR 64 4 R_api_Value ((y10.set (Int.toNat y12) x22).set (Int.toNat (IntKind.wrap .i64 (a1 + y20))) x24) m0 0, .box [aU (iXor .u64 (iXor .u64 (iXor .u64 y11 (iShl .u64 y11 13)) (iShr .u64 (iXor .u64 y11 (iShl .u64 y11 13)) 7)) (iShl .u64 (iXor .u64 (iXor .u64 y11 (iShl .u64 y11 13)) (iShr .u64 (iXor .u64 y11 (iShl .u64 y11 13)) 7)) 17))] false] (by kernel_rfl), ⟨((y10.set (Int.toNat y12) x22).set (Int.toNat (IntKind.wrap .i64 (a1 + y20))) x24), (iXor .u64 (iXor .u64 (iXor .u64 y11 (iShl .u64 y11 13)) (iShr .u64 (iXor .u64 y11 (iShl .u64 y11 13)) 7)) (iShl .u64 (iXor .u64 (iXor .u64 y11 (iShl .u64 y11 13)) (iShr .u64 (iXor .u64 y11 (iShl .u64 y11 13)) 7)) 17)), (IntKind.wrap .i64 (y12 + 1)), m0, hm, rfl, rfl, (by first | rfl | assumption | omega | (simp only [List.length_set, List.length_append, List.length_cons, List.length_nil, List.length_replicate, List.length_drop] at * <;> omega)), (by first | exact Nat.zero_le _ | exact Nat.le_refl _ | assumption | omega | (simp only [List.length_set, List.length_append, List.length_cons, List.length_nil, List.length_replicate, List.length_drop] at * <;> omega))⟩⟩
    refine sq (detn [(0, aR 0 4 m0), (1, aI a1), (8, aI (IntKind.wrap .i64 (a2 - a1))), (9, .ptr 1 0), (10, aU x2), (11, aI y12), (12, aI (IntKind.wrap .i64 (iAnd .u64 (iXor .u64 (iXor .u64 (iXor .u64 y11 (iShl .u64 y11 13)) (iShr .u64 (iXor .u64 y11 (iShl .u64 y11 13)) 7)) (iShl .u64 (iXor .u64 (iXor .u64 y11 (iShl .u64 y11 13)) (iShr .u64 (iXor .u64 y11 (iShl .u64 y11 13)) 7)) 17)) (IntKind.wrap .u64 (x2 - 1))))), (45, aB (decide ((IntKind.wrap .i64 (iAnd .u64 (iXor .u64 (iXor .u64 (iXor .u64 y11 (iShl .u64 y11 13)) (iShr .u64 (iXor .u64 y11 (iShl .u64 y11 13)) 7)) (iShl .u64 (iXor .u64 (iXor .u64 y11 (iShl .u64 y11 13)) (iShr .u64 (iXor .u64 y11 (iShl .u64 y11 13)) 7)) 17)) (IntKind.wrap .u64 (x2 - 1)))) ≥ (IntKind.wrap .i64 (a2 - a1)))))] (by kernel_rfl) ?_)
    rcases bif_some hm with ⟨h28, hm⟩ | ⟨h28, hm⟩
    ·
     refine ct h28 (by kernel_rfl) (detn [(0, aR 0 4 m0), (1, aI a1), (8, aI (IntKind.wrap .i64 (a2 - a1))), (9, .ptr 1 0), (10, aU x2), (11, aI y12), (12, aI (IntKind.wrap .i64 ((IntKind.wrap .i64 (iAnd .u64 (iXor .u64 (iXor .u64 (iXor .u64 y11 (iShl .u64 y11 13)) (iShr .u64 (iXor .u64 y11 (iShl .u64 y11 13)) 7)) (iShl .u64 (iXor .u64 (iXor .u64 y11 (iShl .u64 y11 13)) (iShr .u64 (iXor .u64 y11 (iShl .u64 y11 13)) 7)) 17)) (IntKind.wrap .u64 (x2 - 1)))) - (IntKind.wrap .i64 (a2 - a1)))))] (by kernel_rfl) ?_)
     exact ⟨(IntKind.wrap .i64 ((IntKind.wrap .i64 (iAnd .u64 (iXor .u64 (iXor .u64 (iXor .u64 y11 (iShl .u64 y11 13)) (iShr .u64 (iXor .u64 y11 (iShl .u64 y11 13)) 7)) (iShl .u64 (iXor .u64 (iXor .u64 y11 (iShl .u64 y11 13)) (iShr .u64 (iXor .u64 y11 (iShl .u64 y11 13)) 7)) 17)) (IntKind.wrap .u64 (x2 - 1)))) - (IntKind.wrap .i64 (a2 - a1)))), .any, hm, (mk_same (by kernel_rfl)), rfl⟩
    ·
     refine cf h28 (by kernel_rfl) (wp_skip ?_)
     exact ⟨(IntKind.wrap .i64 (iAnd .u64 (iXor .u64 (iXor .u64 (iXor .u64 y11 (iShl .u64 y11 13)) (iShr .u64 (iXor .u64 y11 (iShl .u64 y11 13)) 7)) (iShl .u64 (iXor .u64 (iXor .u64 y11 (iShl .u64 y11 13)) (iShr .u64 (iXor .u64 y11 (iShl .u64 y11 13)) 7)) 17)) (IntKind.wrap .u64 (x2 - 1)))), aB (decide ((IntKind.wrap .i64 (iAnd .u64 (iXor .u64 (iXor .u64 (iXor .u64 y11 (iShl .u64 y11 13)) (iShr .u64 (iXor .u64 y11 (iShl .u64 y11 13)) 7)) (iShl .u64 (iXor .u64 (iXor .u64 y11 (iShl .u64 y11 13)) (iShr .u64 (iXor .u64 y11 (iShl .u64 y11 13)) 7)) 17)) (IntKind.wrap .u64 (x2 - 1)))) ≥ (IntKind.wrap .i64 (a2 - a1)))), hm, (mk_same (by kernel_rfl)), rfl⟩
   ·
    refine cf h17 (by kernel_rfl) (wp_exit ?_)
    obtain rfl := Option.some.inj hm
    exact ⟨trivial, .tup [], [bR 64 4 R_api_Value y10 g14 0], by kernel_rfl, g14, (by first | rfl | assumption | omega | (simp only [List.length_set, List.length_append, List.length_cons, List.length_nil, List.length_replicate, List.length_drop] at * <;> omega)), (by first | exact Nat.zero_le _ | exact Nat.le_refl _ | assumption | omega | (simp only [List.length_set, List.length_append, List.length_cons, List.length_nil, List.length_replicate, List.length_drop] at * <;> omega)), rfl, rfl⟩
  ·
   refine cf h1 (by kernel_rfl) (wp_skip ?_)
   obtain rfl := Option.some.inj hm
   exact ⟨trivial, .tup [], [bR 64 4 R_api_Value a0 f0 0], by kernel_rfl, f0, (by first | rfl | assumption | omega | (simp only [List.length_set, List.length_append, List.length_cons, List.length_nil, List.length_replicate, List.length_drop] at * <;> omega)), (by first | exact Nat.zero_le _ | exact Nat.le_refl _ | assumption | omega | (simp only [List.length_set, List.length_append, List.length_cons, List.length_nil, List.length_replicate, List.length_drop] at * <;> omega)), rfl, rfl⟩
theorem okf_slices_pdqsortCmpFunc_Value_value_Cmp_r {rc_slices_pdqsortCmpFunc_Value_value_Cmp_r : (Nat → (List api_Value) → Int → Int → Int → Option ((List api_Value)))} (ih_slices_pdqsortCmpFunc_Value_value_Cmp_r : ∀ (m0 : Nat) (f0 : Nat) {n : Nat} {a0 : (List api_Value)} {a1 : Int} {a2 : Int} {a3 : Int} {r : (List api_Value)} (hm0 : a0.length = m0) (hf0 : f0 ≤ a0.length) (hm : rc_slices_pdqsortCmpFunc_Value_value_Cmp_r n a0 a1 a2 a3 = some r), ∃ vv H1, call G n 120 [aR 0 4 m0, aI a1, aI a2, aI a3, .pv (.fn 41 [] [])] [bR 64 4 R_api_Value a0 f0 0] = some (.ret vv, H1) ∧ (match r with | r0 => (∃ (e1 : Nat), r0.length = m0 ∧ e1 ≤ r0.length ∧ vv = .tup [] ∧ H1 = [bR 64 4 R_api_Value r0 e1 0]))) (m0 : Nat) (f0 : Nat) {n : Nat} {a0 : (List api_Value)} {a1 : Int} {a2 : Int} {a3 : Int} {r : (List api_Value)} (hm0 : a0.length = m0) (hf0 : f0 ≤ a0.length) (hm : slices_pdqsortCmpFunc_Value_value_Cmp_r_f rc_slices_pdqsortCmpFunc_Value_value_Cmp_r n a0 a1 a2 a3 = some r) :
    ∃ vv H1, call G n 120 [aR 0 4 m0, aI a1, aI a2, aI a3, .pv (.fn 41 [] [])] [bR 64 4 R_api_Value a0 f0 0] = some (.ret vv, H1) ∧ (match r with | r0 => (∃ (e1 : Nat), r0.length = m0 ∧ e1 ≤ r0.length ∧ vv = .tup [] ∧ H1 = [bR 64 4 R_api_Value r0 e1 0])) := by
  unfold slices_pdqsortCmpFunc_Value_value_Cmp_r_f at hm
  obtain ⟨n, rfl, h0⟩ := at1_some hm
  replace hm := h0; clear h0
  refine callE 148 [(0, aR 0 4 m0), (1, aI a1), (2, aI a2), (3, aI a3), (4, .pv (.fn 41 [] []))] func120 rfl (by kernel_rfl) (sq (detn [(0, aR 0 4 m0), (1, aI a1), (2, aI a2), (3, aI a3), (4, .pv (.fn 41 [] [])), (10, aB true)] (by kernel_rfl) (sq (detn [(0, aR 0 4 m0), (1, aI a1), (2, aI a2), (3, aI a3), (4, .pv (.fn 41 [] [])), (10, aB true), (11, aB true)] (by kernel_rfl) (bq ?_)))))
  refine loopF (fun mm t H => (∃ (y18 : (List api_Value)) (y19 : Int) (y20 : Bool) (y21 : Bool) (y22 : Int) (y23 : Int) (g25 : Nat), slices_pdqsortCmpFunc_Value_value_Cmp_r_l2 n rc_slices_pdqsortCmpFunc_Value_value_Cmp_r mm y18 y19 y20 y21 y22 y23 = some r ∧ t = mk 148 [(0, aR 0 4 m0), (1, aI y19), (2, aI y22), (3, aI y23), (4, .pv (.fn 41 [] [])), (10, aB y20), (11, aB y21)] ∧ H = [bR 64 4 R_api_Value y18 g25 0] ∧ y18.length = m0 ∧ g25 ≤ y18.length)) (⟨a0, a1, true, true, a2, a3, f0, hm, rfl, rfl, (by first | rfl | assumption | omega | (simp only [List.length_set, List.length_append, List.length_cons, List.length_nil, List.length_replicate, List.length_drop] at * <;> omega)), (by first | exact Nat.zero_le _ | exact Nat.le_refl _ | assumption | omega | (simp only [List.length_set, List.length_append, List.length_cons, List.length_nil, List.length_replicate, List.length_drop] at * <;> omega))⟩) ?_ ?_
  · rintro _ _ ⟨y18, y19, y20, y21, y22, y23, g25, hm, _⟩; exact nomatch hm
  rintro m27 _ _ ⟨y18, y19, y20, y21, y22, y23, g25, hm, rfl, rfl, q24, q26⟩
  simp only [slices_pdqsortCmpFunc_Value_value_Cmp_r_l2] at hm
  refine bq (sq (detn [(0, aR 0 4 m0), (1, aI y19), (2, aI y22), (3, aI y23), (4, .pv (.fn 41 [] [])), (10, aB y20), (11, aB y21), (12, aI (IntKind.wrap .i64 (y22 - y19)))] (by kernel_rfl) ?_))
  refine sq (sq (detn [(0, aR 0 4 m0), (1, aI y19), (2, aI y22), (3, aI y23), (4, .pv (.fn 41 [] [])), (10, aB y20), (11, aB y21), (12, aI (IntKind.wrap .i64 (y22 - y19))), (25, aB (decide ((IntKind.wrap .i64 (y22 - y19)) ≤ 12)))] (by kernel_rfl) ?_))
  rcases bif_some hm with ⟨h28, hm⟩ | ⟨h28, hm⟩
  ·
   refine ct h28 (by kernel_rfl) (sq (rg (sh 4 [(29, .pv (.fn 41 [] [])), (28, aI y22), (27, aI y19), (26, aR 0 4 m0)] (by kernel_rfl) ?_)))
   obtain ⟨x30, h29, hm⟩ := bs hm
   obtain ⟨vv, H1, hC, g31, q32, q33, rfl, rfl⟩ := ok_slices_insertionSortCmpFunc_Value_value_Cmp_r m0 g25 (by first | rfl | assumption | omega | (simp only [List.length_set, List.length_append, List.length_cons, List.length_nil, List.length_replicate, List.length_drop] at * <;> omega)) (by first | exact Nat.zero_le _ | exact Nat.le_refl _ | assumption | omega | (simp only [List.length_set, List.length_append, List.length_cons, List.length_nil, List.length_replicate, List.length_drop] at * <;> omega)) h29
   refine dR [(30, .tup [])] [bR 64 4 R_api_Value x30 g31 0] [0] [aR 0 4 m0, aI y19, aI y22, .pv (.fn 41 [] [])] (by kernel_rfl) (by kernel_rfl) (by kernel_rfl) hC (by kernel_rfl) (fin [] rfl (by kernel_rfl) (wp_ret ?_))
   obtain rfl := Option.some.inj hm
   exact ⟨trivial, .tup [], [bR 64 4 R_api_Value x30 g31 0], by kernel_rfl, g31, (by first | rfl | assumption | omega | (simp only [List.length_set, List.length_append, List.length_cons, List.length_nil, List.length_replicate, List.length_drop] at * <;> omega)), (by first | exact Nat.zero_le _ | exact Nat.le_refl _ | assumption | omega | (simp only [List.length_set, List.length_append, List.length_cons, List.length_nil, List.length_replicate, List.length_drop] at * <;> omega)), rfl, rfl⟩
  ·
   refine cf h28 (by kernel_rfl) (wp_skip ?_)
   refine sq (sq (detn [(0, aR 0 4 m0), (1, aI y19), (2, aI y22), (3, aI y23), (4, .pv (.fn 41 [] [])), (10, aB y20), (11, aB y21), (12, aI (IntKind.wrap .i64 (y22 - y19))), (32, aB (y23 == 0))] (by kernel_rfl) ?_))
   rcases bif_some hm with ⟨h34, hm⟩ | ⟨h34, hm⟩
   ·
    refine ct h34 (by kernel_rfl) (sq (rg (sh 4 [(36, .pv (.fn 41 [] [])), (35, aI y22), (34, aI y19), (33, aR 0 4 m0)] (by kernel_rfl) ?_)))
    obtain ⟨x36, h35, hm⟩ := bs hm
    obtain ⟨vv, H1, hC, g37, q38, q39, rfl, rfl⟩ := ok_slices_heapSortCmpFunc_Value_value_Cmp_r m0 g25 (by first | rfl | assumption | omega | (simp only [List.length_set, List.length_append, List.length_cons, List.length_nil, List.length_replicate, List.length_drop] at * <;> omega)) (by first | exact Nat.zero_le _ | exact Nat.le_refl _ | assumption | omega | (simp only [List.length_set, List.length_append, List.length_cons, List.length_nil, List.length_replicate, List.length_drop] at * <;> omega)) h35
    refine dR [(37, .tup [])] [bR 64 4 R_api_Value x36 g37 0] [0] [aR 0 4 m0, aI y19, aI y22, .pv (.fn 41 [] [])] (by kernel_rfl) (by kernel_rfl) (by kernel_rfl) hC (by kernel_rfl) (fin [] rfl (by kernel_rfl) (wp_ret ?_))
    obtain rfl := Option.some.inj hm
    exact ⟨trivial, .tup [], [bR 64 4 R_api_Value x36 g37 0], by kernel_rfl, g37, (by first | rfl | assumption | omega | (simp only [List.length_set, List.length_append, List.length_cons, List.length_nil, List.length_replicate, List.length_drop] at * <;> omega)), (by first | exact Nat.zero_le _ | exact Nat.le_refl _ | assumption | omega | (simp only [List.length_set, List.length_append, List.length_cons, List.length_nil, List.length_replicate, List.length_drop] at * <;> omega)), rfl, rfl⟩
   ·
    refine cf h34 (by kernel_rfl) (wp_skip ?_)
    obtain ⟨k46, hk46, hm⟩ := withK_some hm
    refine mid (fun t H => (∃ (y41 : (List api_Value)) (y42 : Int) (w40 : AV) (g44 : Nat), k46 y41 y42 = some r ∧ t = mk 148 [(0, aR 0 4 m0), (1, aI y19), (2, aI y22), (3, aI y42), (4, .pv (.fn 41 [] [])), (10, aB y20), (11, aB y21), (12, aI (IntKind.wrap .i64 (y22 - y19))), (39, w40)] ∧ H = [bR 64 4 R_api_Value y41 g44 0] ∧ y41.length = m0 ∧ g44 ≤ y41.length)) ?_ ?_
    ·
     rintro _ _ ⟨y41, y42, w40, g44, hm, rfl, rfl, q43, q45⟩
     subst hk46
     refine sq (rg (sh 4 [(51, .pv (.fn 41 [] [])), (50, aI y22), (49, aI y19), (48, aR 0 4 m0)] (by kernel_rfl) ?_))
     obtain ⟨x47, h48, hm⟩ := bs hm
     refine dO [(52, .tup [aI x47.1, aI x47.2])] [bR 64 4 R_api_Value y41 g44 0] (cpureR [0] [aR 0 4 m0, aI y19, aI y22, .pv (.fn 41 [] [])] (fl := true) (by kernel_rfl) (by kernel_rfl) (pAs_cons (pA_ref (pur_ref' (n := m0) (id := 0) (l := y41) (R := R_api_Value) rfl (by omega) (by omega))) (pAs_cons (pA_pv) (pAs_cons (pA_pv) (pAs_cons (pA_pv) (rfl))))) (ok_slices_choosePivotCmpFunc_Value_value_Cmp h48) (by kernel_rfl) (by kernel_rfl)) (by kernel_rfl) (sh 5 [(14, aI x47.2), (13, aI x47.1), (54, aI x47.2), (53, aI x47.1), (47, .tup [aI x47.1, aI x47.2])] (by kernel_rfl) (fin [(0, aR 0 4 m0), (1, aI y19), (2, aI y22), (3, aI y42), (4, .pv (.fn 41 [] [])), (10, aB y20), (11, aB y21), (12, aI (IntKind.wrap .i64 (y22 - y19))), (13, aI x47.1), (14, aI x47.2)] rfl (by kernel_rfl) ?_))
     obtain ⟨k56, hk56, hm⟩ := withK_some hm
     refine mid (fun t H => (∃ (y50 : (List api_Value)) (y51 : Int) (y52 : Int) (w49 : AV) (g54 : Nat), k56 y50 y51 y52 = some r ∧ t = mk 148 [(0, aR 0 4 m0), (1, aI y19), (2, aI y22), (3, aI y42), (4, .pv (.fn 41 [] [])), (10, aB y20), (11, aB y21), (12, aI (IntKind.wrap .i64 (y22 - y19))), (13, aI y51), (14, aI y52), (56, w49)] ∧ H = [bR 64 4 R_api_Value y50 g54 0] ∧ y50.length = m0 ∧ g54 ≤ y50.length)) ?_ ?_
     ·
      rintro _ _ ⟨y50, y51, y52, w49, g54, hm, rfl, rfl, q53, q55⟩
      subst hk56
      obtain ⟨k63, hk63, hm⟩ := withK_some hm
      refine mid (fun t H => (∃ (y59 : (List api_Value)) (w57 : AV) (w58 : AV) (g61 : Nat), k63 y59 = some r ∧ t = mk 148 [(0, aR 0 4 m0), (1, aI y19), (2, aI y22), (3, aI y42), (4, .pv (.fn 41 [] [])), (10, aB y20), (11, aB y21), (12, aI (IntKind.wrap .i64 (y22 - y19))), (13, aI y51), (75, w57), (80, w58)] ∧ H = [bR 64 4 R_api_Value y59 g61 0] ∧ y59.length = m0 ∧ g61 ≤ y59.length)) ?_ ?_
      ·
       rintro _ _ ⟨y59, w57, w58, g61, hm, rfl, rfl, q60, q62⟩
       subst hk63
       refine sq ?_
       obtain ⟨k65, hk65, hm⟩ := withK_some hm
       refine mid (fun t H => (∃ (y64 : Bool), k65 y64 = some r ∧ t = mk 148 [(0, aR 0 4 m0), (1, aI y19), (2, aI y22), (3, aI y42), (4, .pv (.fn 41 [] [])), (10, aB y20), (11, aB y21), (12, aI (IntKind.wrap .i64 (y22 - y19))), (13, aI y51), (97, aB y64)] ∧ H = [bR 64 4 R_api_Value y59 g61 0])) ?_ ?_
       ·
        rintro _ _ ⟨y64, hm, rfl, rfl⟩
        subst hk65
        rcases bif_some hm with ⟨h66, hm⟩ | ⟨h66, hm⟩
        ·
         refine ct h66 (by kernel_rfl) (sq (rg (sh 5 [(102, .pv (.fn 41 [] [])), (101, aI y51), (100, aI y22), (99, aI y19), (98, aR 0 4 m0)] (by kernel_rfl) ?_)))
         obtain ⟨⟨x68, x69⟩, h67, hm⟩ := bs hm
         obtain ⟨vv, H1, hC, g70, q71, q72, rfl, rfl⟩ := ok_slices_partitionEqualCmpFunc_Value_value_Cmp_r m0 g61 (by first | rfl | assumption | omega | (simp only [List.length_set, List.length_append, List.length_cons, List.length_nil, List.length_replicate, List.length_drop] at * <;> omega)) (by first | exact Nat.zero_le _ | exact Nat.le_refl _ | assumption | omega | (simp only [List.length_set, List.length_append, List.length_cons, List.length_nil, List.length_replicate, List.length_drop] at * <;> omega)) h67
         refine dR [(103, aI x69)] [bR 64 4 R_api_Value x68 g70 0] [0] [aR 0 4 m0, aI y19, aI y22, aI y51, .pv (.fn 41 [] [])] (by kernel_rfl) (by kernel_rfl) (by kernel_rfl) hC (by kernel_rfl) (sh 1 [(15, aI x69)] (by kernel_rfl) (fin [(0, aR 0 4 m0), (2, aI y22), (3, aI y42), (4, .pv (.fn 41 [] [])), (10, aB y20), (11, aB y21), (15, aI x69)] rfl (by kernel_rfl) (sq (detn [(0, aR 0 4 m0), (1, aI x69), (2, aI y22), (3, aI y42), (4, .pv (.fn 41 [] [])), (10, aB y20), (11, aB y21)] (by kernel_rfl) (wp_exit ?_)))))
         exact ⟨_, _, tidyL [(0, aR 0 4 m0), (1, aI x69), (2, aI y22), (3, aI y42), (4, .pv (.fn 41 [] [])), (10, aB y20), (11, aB y21)] [bR 64 4 R_api_Value x68 g70 0] (by kernel_rfl), ⟨x68, x69, y20, y21, y22, y42, g70, hm, rfl, rfl, (by first | rfl | assumption | omega | (simp only [List.length_set, List.length_append, List.length_cons, List.length_nil, List.length_replicate, List.length_drop] at * <;> omega)), (by first | exact Nat.zero_le _ | exact Nat.le_refl _ | assumption | omega | (simp only [List.length_set, List.length_append, List.length_cons, List.length_nil, List.length_replicate, List.length_drop] at * <;> omega))⟩⟩
        ·
         refine cf h66 (by kernel_rfl) (wp_skip (sq (rg (sh 5 [(110, .pv (.fn 41 [] [])), (109, aI y51), (108, aI y22), (107, aI y19), (106, aR 0 4 m0)] (by kernel_rfl) ?_))))
         obtain ⟨⟨x74, x75, x76⟩, h73, hm⟩ := bs hm
         obtain ⟨vv, H1, hC, g77, q78, q79, rfl, rfl⟩ := ok_slices_partitionCmpFunc_Value_value_Cmp_r m0 g61 (by first | rfl | assumption | omega | (simp only [List.length_set, List.length_append, List.length_cons, List.length_nil, List.length_replicate, List.length_drop] at * <;> omega)) (by first | exact Nat.zero_le _ | exact Nat.le_refl _ | assumption | omega | (simp only [List.length_set, List.length_append, List.length_cons, List.length_nil, List.length_replicate, List.length_drop] at * <;> omega)) h73
         refine dR [(111, .tup [aI x75, aB x76])] [bR 64 4 R_api_Value x74 g77 0] [0] [aR 0 4 m0, aI y19, aI y22, aI y51, .pv (.fn 41 [] [])] (by kernel_rfl) (by kernel_rfl) (by kernel_rfl) hC (by kernel_rfl) (sh 5 [(17, aB x76), (16, aI x75), (113, aB x76), (112, aI x75), (105, .tup [aI x75, aB x76])] (by kernel_rfl) (fin [(0, aR 0 4 m0), (1, aI y19), (2, aI y22), (3, aI y42), (4, .pv (.fn 41 [] [])), (12, aI (IntKind.wrap .i64 (y22 - y19))), (16, aI x75), (17, aB x76)] rfl (by kernel_rfl) (sq (detn [(0, aR 0 4 m0), (1, aI y19), (2, aI y22), (3, aI y42), (4, .pv (.fn 41 [] [])), (11, aB x76), (12, aI (IntKind.wrap .i64 (y22 - y19))), (16, aI x75)] (by kernel_rfl) (sq (detn [(0, aR 0 4 m0), (1, aI y19), (2, aI y22), (3, aI y42), (4, .pv (.fn 41 [] [])), (11, aB x76), (12, aI (IntKind.wrap .i64 (y22 - y19))), (16, aI x75), (18, aI (IntKind.wrap .i64 (x75 - y19))), (19, aI (IntKind.wrap .i64 (y22 - x75)))] (by kernel_rfl) (sq (detn [(0, aR 0 4 m0), (1, aI y19), (2, aI y22), (3, aI y42), (4, .pv (.fn 41 [] [])), (11, aB x76), (16, aI x75), (18, aI (IntKind.wrap .i64 (x75 - y19))), (19, aI (IntKind.wrap .i64 (y22 - x75))), (20, aI (IntKind.wrap .i64 (Int.tdiv (IntKind.wrap .i64 (y22 - y19)) 8)))] (by kernel_rfl) (sq (detn [(0, aR 0 4 m0), (1, aI y19), (2, aI y22), (3, aI y42), (4, .pv (.fn 41 [] [])), (11, aB x76), (16, aI x75), (18, aI (IntKind.wrap .i64 (x75 - y19))), (19, aI (IntKind.wrap .i64 (y22 - x75))), (20, aI (IntKind.wrap .i64 (Int.tdiv (IntKind.wrap .i64 (y22 - y19)) 8))), (125, aB (decide ((IntKind.wrap .i64 (x75 - y19)) < (IntKind.wrap .i64 (y22 - x75)))))] (by kernel_rfl) ?_))))))))))
         rcases bif_some hm with ⟨h80, hm⟩ | ⟨h80, hm⟩
         ·
          refine ct h80 (by kernel_rfl) (sq (detn [(0, aR 0 4 m0), (1, aI y19), (2, aI y22), (3, aI y42), (4, .pv (.fn 41 [] [])), (10, aB (decide ((IntKind.wrap .i64 (x75 - y19)) ≥ (IntKind.wrap .i64 (Int.tdiv (IntKind.wrap .i64 (y22 - y19)) 8))))), (11, aB x76), (16, aI x75)] (by kernel_rfl) (sq (rg (sh 5 [(133, .pv (.fn 41 [] [])), (132, aI y42), (131, aI x75), (130, aI y19), (129, aR 0 4 m0)] (by kernel_rfl) ?_)))))
          obtain ⟨x82, h81, hm⟩ := bs hm
          obtain ⟨vv, H1, hC, g83, q84, q85, rfl, rfl⟩ := ih_slices_pdqsortCmpFunc_Value_value_Cmp_r m0 g77 (by first | rfl | assumption | omega | (simp only [List.length_set, List.length_append, List.length_cons, List.length_nil, List.length_replicate, List.length_drop] at * <;> omega)) (by first | exact Nat.zero_le _ | exact Nat.le_refl _ | assumption | omega | (simp only [List.length_set, List.length_append, List.length_cons, List.length_nil, List.length_replicate, List.length_drop] at * <;> omega)) h81
          refine dR [(134, .tup [])] [bR 64 4 R_api_Value x82 g83 0] [0] [aR 0 4 m0, aI y19, aI x75, aI y42, .pv (.fn 41 [] [])] (by kernel_rfl) (by kernel_rfl) (by kernel_rfl) hC (by kernel_rfl) (fin [(0, aR 0 4 m0), (2, aI y22), (3, aI y42), (4, .pv (.fn 41 [] [])), (10, aB (decide ((IntKind.wrap .i64 (x75 - y19)) ≥ (IntKind.wrap .i64 (Int.tdiv (IntKind.wrap .i64 (y22 - y19)) 8))))), (11, aB x76), (16, aI x75)] rfl (by kernel_rfl) (detn [(0, aR 0 4 m0), (1, aI (IntKind.wrap .i64 (x75 + 1))), (2, aI y22), (3, aI y42), (4, .pv (.fn 41 [] [])), (10, aB (decide ((IntKind.wrap .i64 (x75 - y19)) ≥ (IntKind.wrap .i64 (Int.tdiv (IntKind.wrap .i64 (y22 - y19)) 8))))), (11, aB x76)] (by kernel_rfl) ?_))
          exact ⟨_, _, tidyL [(0, aR 0 4 m0), (1, aI (IntKind.wrap .i64 (x75 + 1))), (2, aI y22), (3, aI y42), (4, .pv (.fn 41 [] [])), (10, aB (decide ((IntKind.wrap .i64 (x75 - y19)) ≥ (IntKind.wrap .i64 (Int.tdiv (IntKind.wrap .i64 (y22 - y19)) 8))))), (11, aB x76)] [bR 64 4 R_api_Value x82 g83 0] (by kernel_rfl), ⟨x82, (IntKind.wrap .i64 (x75 + 1)), (decide ((IntKind.wrap .i64 (x75 - y19)) ≥ (IntKind.wrap .i64 (Int.tdiv (IntKind.wrap .i64 (y22 - y19)) 8)))), x76, y22, y42, g83, hm, rfl, rfl, (by first | rfl | assumption | omega | (simp only [List.length_set, List.length_append, List.length_cons, List.length_nil, List.length_replicate, List.length_drop] at * <;> omega)), (by first | exact Nat.zero_le _ | exact Nat.le_refl _ | assumption | omega | (simp only [List.length_set, List.length_append, List.length_cons, List.length_nil, List.length_replicate, List.length_drop] at * <;> omega))⟩⟩
         ·
          refine cf h80 (by kernel_rfl) (sq (detn [(0, aR 0 4 m0), (1, aI y19), (2, aI y22), (3, aI y42), (4, .pv (.fn 41 [] [])), (10, aB (decide ((IntKind.wrap .i64 (y22 - x75)) ≥ (IntKind.wrap .i64 (Int.tdiv (IntKind.wrap .i64 (y22 - y19)) 8))))), (11, aB x76), (16, aI x75)] (by kernel_rfl) (sq (rg (sh 6 [(145, .pv (.fn 41 [] [])), (144, aI y42), (143, aI y22), (142, aI (IntKind.wrap .i64 (x75 + 1))), (141, aI x75), (140, aR 0 4 m0)] (by kernel_rfl) ?_)))))
          obtain ⟨x87, h86, hm⟩ := bs hm
          obtain ⟨vv, H1, hC, g88, q89, q90, rfl, rfl⟩ := ih_slices_pdqsortCmpFunc_Value_value_Cmp_r m0 g77 (by first | rfl | assumption | omega | (simp only [List.length_set, List.length_append, List.length_cons, List.length_nil, List.length_replicate, List.length_drop] at * <;> omega)) (by first | exact Nat.zero_le _ | exact Nat.le_refl _ | assumption | omega | (simp only [List.length_set, List.length_append, List.length_cons, List.length_nil, List.length_replicate, List.length_drop] at * <;> omega)) h86
          refine dR [(146, .tup [])] [bR 64 4 R_api_Value x87 g88 0] [0] [aR 0 4 m0, aI (IntKind.wrap .i64 (x75 + 1)), aI y22, aI y42, .pv (.fn 41 [] [])] (by kernel_rfl) (by kernel_rfl) (by kernel_rfl) hC (by kernel_rfl) (fin [(0, aR 0 4 m0), (1, aI y19), (3, aI y42), (4, .pv (.fn 41 [] [])), (10, aB (decide ((IntKind.wrap .i64 (y22 - x75)) ≥ (IntKind.wrap .i64 (Int.tdiv (IntKind.wrap .i64 (y22 - y19)) 8))))), (11, aB x76), (16, aI x75)] rfl (by kernel_rfl) (detn [(0, aR 0 4 m0), (1, aI y19), (2, aI x75), (3, aI y42), (4, .pv (.fn 41 [] [])), (10, aB (decide ((IntKind.wrap .i64 (y22 - x75)) ≥ (IntKind.wrap .i64 (Int.tdiv (IntKind.wrap .i64 (y22 - y19)) 8))))), (11, aB x76)] (by kernel_rfl) ?_))
          exact ⟨_, _, tidyL [(0, aR 0 4 m0), (1, aI y19), (2, aI x75), (3, aI y42), (4, .pv (.fn 41 [] [])), (10, aB (decide ((IntKind.wrap .i64 (y22 - x75)) ≥ (IntKind.wrap .i64 (Int.tdiv (IntKind.wrap .i64 (y22 - y19)) 8))))), (11, aB x76)] [bR 64 4 R_api_Value x87 g88 0] (by kernel_rfl), ⟨x87, y19, (decide ((IntKind.wrap .i64 (y22 - x75)) ≥ (IntKind.wrap .i64 (Int.tdiv (IntKind.wrap .i64 (y22 - y19)) 8)))), x76, x75, y42, g88, hm, rfl, rfl, (by first | rfl | assumption | omega | (simp only [List.length_set, List.length_append, List.length_cons, List.length_nil, List.length_replicate, List.length_drop] at * <;> omega)), (by first | exact Nat.zero_le _ | exact Nat.le_refl _ | assumption | omega | (simp only [List.length_set, List.length_append, List.length_cons, List.length_nil, List.length_replicate, List.length_drop] at * <;> omega))⟩⟩
       refine rgd (shd 3 [(83, aB (decide (y19 > 0))), (82, aB (decide (y19 > 0))), (81, aI y19)] (by kernel_rfl) ?_)
       rcases bif_some hm with ⟨h91, hm⟩ | ⟨h91, hm⟩
       ·
        refine knownd [83, 82] h91 (by kernel_rfl) (shd 4 [(87, aI (IntKind.wrap .i64 (y19 - 1))), (86, aI y19), (85, aR 0 4 m0), (84, .pv (.fn 41 [] []))] (by kernel_rfl) ?_)
        obtain ⟨x92, h93, hm⟩ := bs hm
        refine dvd 88 (v := .eptr 0 0 m0 4 (0 + Int.toNat (IntKind.wrap .i64 (y19 - 1))) 0) (ia_refO y59 .i64 (n := m0) (id := 0) (esz := 4) t52 t64 h93 (by omega) rfl (by kernel_rfl)) (by kernel_rfl) (dvd 89 (v := .agg [aI x92.fKind, aI x92.fInt, aF x92.fFloat, aS x92.fText]) (ld_eptrO R_api_Value y59 (n := m0) (esz := 4) (j := (IntKind.wrap .i64 (y19 - 1))) (off := 0) (id := 0) t64 rfl h93 (by omega) (by omega) (by kernel_rfl) (by kernel_rfl)) (by kernel_rfl) (shd 2 [(91, aI y51), (90, aR 0 4 m0)] (by kernel_rfl) ?_))
        obtain ⟨x94, h95, hm⟩ := bs hm
        refine dvd 92 (v := .eptr 0 0 m0 4 (0 + Int.toNat y51) 0) (ia_refO y59 .i64 (n := m0) (id := 0) (esz := 4) t52 t64 h95 (by omega) rfl (by kernel_rfl)) (by kernel_rfl) (dvd 93 (v := .agg [aI x94.fKind, aI x94.fInt, aF x94.fFloat, aS x94.fText]) (ld_eptrO R_api_Value y59 (n := m0) (esz := 4) (j := y51) (off := 0) (id := 0) t64 rfl h95 (by omega) (by omega) (by kernel_rfl) (by kernel_rfl)) (by kernel_rfl) ?_)
        obtain ⟨x96, h97, hm⟩ := bs hm
        refine dvd 94 (cpure (by kernel_rfl) (ok_value_Cmp h97) (by kernel_rfl) (by kernel_rfl) (by kernel_rfl)) (by kernel_rfl) (shd 3 [(97, aB (!(decide (x96 < 0)))), (96, aB (!(decide (x96 < 0)))), (95, aB (decide (x96 < 0)))] (by kernel_rfl) (find [(0, aR 0 4 m0), (1, aI y19), (2, aI y22), (3, aI y42), (4, .pv (.fn 41 [] [])), (10, aB y20), (11, aB y21), (12, aI (IntKind.wrap .i64 (y22 - y19))), (13, aI y51), (97, aB (!(decide (x96 < 0))))] rfl (by kernel_rfl) (by kernel_rfl) ?_))
        exact ⟨(!(decide (x96 < 0))), hm, rfl, rfl⟩
       ·
        refine knownd [83, 82] h91 (by kernel_rfl) (shd 14 [(97, aB false), (96, .undef), (95, .undef), (94, .undef), (93, .undef), (92, .undef), (91, .undef), (90, .undef), (89, .undef), (88, .undef), (87, .undef), (86, .undef), (85, .undef), (84, .undef)] (by kernel_rfl) (find [(0, aR 0 4 m0), (1, aI y19), (2, aI y22), (3, aI y42), (4, .pv (.fn 41 [] [])), (10, aB y20), (11, aB y21), (12, aI (IntKind.wrap .i64 (y22 - y19))), (13, aI y51), (97, aB false)] rfl (by kernel_rfl) (by kernel_rfl) ?_))
        exact ⟨false, hm, rfl, rfl⟩
      refine sq (rg (sh 2 [(69, aB y20), (68, aB y20)] (by kernel_rfl) ?_))
      refine seg y20 [69, 68, 10] (fun b => [(71, aB (b && y21)), (70, ifA b (aB y21) (.undef))]) 4 (by kernel_rfl) ?_ ?_ ?_
      ·
       intro Q h
       refine sh 2 [(71, aB y21), (70, aB y21)] (by kernel_rfl) ?_
       exact sameN (by kernel_rfl) (by kernel_rfl) h
      ·
       intro Q h
       refine sh 2 [(71, aB false), (70, .undef)] (by kernel_rfl) ?_
       exact sameN (by kernel_rfl) (by kernel_rfl) h
      refine sh 1 [(72, aB (y20 && y21))] (by kernel_rfl) ?_
      refine seg (y20 && y21) [72, 71] (fun b => [(75, aB (b && (y52 == 1))), (74, ifA b (aB (y52 == 1)) (.undef)), (73, ifA b (aI y52) (.undef))]) 8 (by kernel_rfl) ?_ ?_ ?_
      ·
       intro Q h
       refine sh 3 [(75, aB (y52 == 1)), (74, aB (y52 == 1)), (73, aI y52)] (by kernel_rfl) ?_
       exact sameN (by kernel_rfl) (by kernel_rfl) h
      ·
       intro Q h
       refine sh 3 [(75, aB false), (74, .undef), (73, .undef)] (by kernel_rfl) ?_
       exact sameN (by kernel_rfl) (by kernel_rfl) h
      refine fin [(0, aR 0 4 m0), (1, aI y19), (2, aI y22), (3, aI y42), (4, .pv (.fn 41 [] [])), (10, aB y20), (11, aB y21), (12, aI (IntKind.wrap .i64 (y22 - y19))), (13, aI y51), (75, aB ((y20 && y21) && (y52 == 1)))] rfl (by kernel_rfl) ?_
      rcases bif_some hm with ⟨h98, hm⟩ | ⟨h98, hm⟩
      ·
       refine ct h98 (by kernel_rfl) (sq (rg (sh 4 [(79, .pv (.fn 41 [] [])), (78, aI y22), (77, aI y19), (76, aR 0 4 m0)] (by kernel_rfl) ?_)))
       obtain ⟨⟨x100, x101⟩, h99, hm⟩ := bs hm
       obtain ⟨vv, H1, hC, g102, q103, q104, rfl, rfl⟩ := ok_slices_partialInsertionSortCmpFunc_Value_value_Cmp_r m0 g54 (by first | rfl | assumption | omega | (simp only [List.length_set, List.length_append, List.length_cons, List.length_nil, List.length_replicate, List.length_drop] at * <;> omega)) (by first | exact Nat.zero_le _ | exact Nat.le_refl _ | assumption | omega | (simp only [List.length_set, List.length_append, List.length_cons, List.length_nil, List.length_replicate, List.length_drop] at * <;> omega)) h99
       refine dR [(80, aB x101)] [bR 64 4 R_api_Value x100 g102 0] [0] [aR 0 4 m0, aI y19, aI y22, .pv (.fn 41 [] [])] (by kernel_rfl) (by kernel_rfl) (by kernel_rfl) hC (by kernel_rfl) (fin [(0, aR 0 4 m0), (1, aI y19), (2, aI y22), (3, aI y42), (4, .pv (.fn 41 [] [])), (10, aB y20), (11, aB y21), (12, aI (IntKind.wrap .i64 (y22 - y19))), (13, aI y51), (80, aB x101)] rfl (by kernel_rfl) ?_)
       rcases bif_some hm with ⟨h105, hm⟩ | ⟨h105, hm⟩
       ·
        refine ct h105 (by kernel_rfl) (wp_ret ?_)
        obtain rfl := Option.some.inj hm
        exact ⟨trivial, .tup [], [bR 64 4 R_api_Value x100 g102 0], by kernel_rfl, g102, (by first | rfl | assumption | omega | (simp only [List.length_set, List.length_append, List.length_cons, List.length_nil, List.length_replicate, List.length_drop] at * <;> omega)), (by first | exact Nat.zero_le _ | exact Nat.le_refl _ | assumption | omega | (simp only [List.length_set, List.length_append, List.length_cons, List.length_nil, List.length_replicate, List.length_drop] at * <;> omega)), rfl, rfl⟩
       ·
        refine cf h105 (by kernel_rfl) (wp_skip ?_)
        exact ⟨x100, .any, aB x101, g102, hm, (mk_same (by kernel_rfl)), rfl, (by first | rfl | assumption | omega | (simp only [List.length_set, List.length_append, List.length_cons, List.length_nil, List.length_replicate, List.length_drop] at * <;> omega)), (by first | exact Nat.zero_le _ | exact Nat.le_refl _ | assumption | omega | (simp only [List.length_set, List.length_append, List.length_cons, List.length_nil, List.length_replicate, List.length_drop] at * <;> omega))⟩
      ·
       refine cf h98 (by kernel_rfl) (wp_skip ?_)
       exact ⟨y50, aB ((y20 && y21) && (y52 == 1)), .any, g54, hm, (mk_same (by kernel_rfl)), rfl, (by first | rfl | assumption | omega | (simp only [List.length_set, List.length_append, List.length_cons, List.length_nil, List.length_replicate, List.length_drop] at * <;> omega)), (by first | exact Nat.zero_le _ | exact Nat.le_refl _ | assumption | omega | (simp only [List.length_set, List.length_append, List.length_cons, List.length_nil, List.length_replicate, List.length_drop] at * <;> omega))⟩
     refine sq (detn [(0, aR 0 4 m0), (1, aI y19), (2, aI y22), (3, aI y42), (4, .pv (.fn 41 [] [])), (10, aB y20), (11, aB y21), (12, aI (IntKind.wrap .i64 (y22 - y19))), (13, aI x47.1), (14, aI x47.2), (56, aB (x47.2 == 2))] (by kernel_rfl) ?_)
     rcases bif_some hm with ⟨h106, hm⟩ | ⟨h106, hm⟩
     ·
      refine ct h106 (by kernel_rfl) (sq (rg (sh 4 [(60, .pv (.fn 41 [] [])), (59, aI y22), (58, aI y19), (57, aR 0 4 m0)] (by kernel_rfl) ?_)))
      obtain ⟨x108, h107, hm⟩ := bs hm
      obtain ⟨vv, H1, hC, g109, q110, q111, rfl, rfl⟩ := ok_slices_reverseRangeCmpFunc_Value_value_Cmp_r m0 g44 (by first | rfl | assumption | omega | (simp only [List.length_set, List.length_append, List.length_cons, List.length_nil, List.length_replicate, List.length_drop] at * <;> omega)) (by first | exact Nat.zero_le _ | exact Nat.le_refl _ | assumption | omega | (simp only [List.length_set, List.length_append, List.length_cons, List.length_nil, List.length_replicate, List.length_drop] at * <;> omega)) h107
      refine dR [(61, .tup [])] [bR 64 4 R_api_Value x108 g109 0] [0] [aR 0 4 m0, aI y19, aI y22, .pv (.fn 41 [] [])] (by kernel_rfl) (by kernel_rfl) (by kernel_rfl) hC (by kernel_rfl) (fin [(0, aR 0 4 m0), (1, aI y19), (2, aI y22), (3, aI y42), (4, .pv (.fn 41 [] [])), (10, aB y20), (11, aB y21), (12, aI (IntKind.wrap .i64 (y22 - y19))), (13, aI x47.1)] rfl (by kernel_rfl) (sq (detn [(0, aR 0 4 m0), (1, aI y19), (2, aI y22), (3, aI y42), (4, .pv (.fn 41 [] [])), (10, aB y20), (11, aB y21), (12, aI (IntKind.wrap .i64 (y22 - y19))), (13, aI (IntKind.wrap .i64 ((IntKind.wrap .i64 (y22 - 1)) - (IntKind.wrap .i64 (x47.1 - y19)))))] (by kernel_rfl) (detn [(0, aR 0 4 m0), (1, aI y19), (2, aI y22), (3, aI y42), (4, .pv (.fn 41 [] [])), (10, aB y20), (11, aB y21), (12, aI (IntKind.wrap .i64 (y22 - y19))), (13, aI (IntKind.wrap .i64 ((IntKind.wrap .i64 (y22 - 1)) - (IntKind.wrap .i64 (x47.1 - y19))))), (14, aI 1)] (by kernel_rfl) ?_))))
      exact ⟨x108, (IntKind.wrap .i64 ((IntKind.wrap .i64 (y22 - 1)) - (IntKind.wrap .i64 (x47.1 - y19)))), 1, .any, g109, hm, (mk_same (by kernel_rfl)), rfl, (by first | rfl | assumption | omega | (simp only [List.length_set, List.length_append, List.length_cons, List.length_nil, List.length_replicate, List.length_drop] at * <;> omega)), (by first | exact Nat.zero_le _ | exact Nat.le_refl _ | assumption | omega | (simp only [List.length_set, List.length_append, List.length_cons, List.length_nil, List.length_replicate, List.length_drop] at * <;> omega))⟩
     ·
      refine cf h106 (by kernel_rfl) (wp_skip ?_)
      exact ⟨y41, x47.1, x47.2, aB (x47.2 == 2), g44, hm, (mk_same (by kernel_rfl)), rfl, (by first | rfl | assumption | omega | (simp only [List.length_set, List.length_append, List.length_cons, List.length_nil, List.length_replicate, List.length_drop] at * <;> omega)), (by first | exact Nat.zero_le _ | exact Nat.le_refl _ | assumption | omega | (simp only [List.length_set, List.length_append, List.length_cons, List.length_nil, List.length_replicate, List.length_drop] at * <;> omega))⟩
    refine sq (detn [(0, aR 0 4 m0), (1, aI y19), (2, aI y22), (3, aI y23), (4, .pv (.fn 41 [] [])), (10, aB y20), (11, aB y21), (12, aI (IntKind.wrap .i64 (y22 - y19))), (39, aB (!y20))] (by kernel_rfl) ?_)
    rcases bif_some hm with ⟨h112, hm⟩ | ⟨h112, hm⟩
    ·
     refine ct h112 (by kernel_rfl) (sq (rg (sh 4 [(43, .pv (.fn 41 [] [])), (42, aI y22), (41, aI y19), (40, aR 0 4 m0)] (by kernel_rfl) ?_)))
     obtain ⟨x114, h113, hm⟩ := bs hm
     obtain ⟨vv, H1, hC, g115, q116, q117, rfl, rfl⟩ := ok_slices_breakPatternsCmpFunc_Value_value_Cmp_r m0 g25 (by first | rfl | assumption | omega | (simp only [List.length_set, List.length_append, List.length_cons, List.length_nil, List.length_replicate, List.length_drop] at * <;> omega)) (by first | exact Nat.zero_le _ | exact Nat.le_refl _ | assumption | omega | (simp only [List.length_set, List.length_append, List.length_cons, List.length_nil, List.length_replicate, List.length_drop] at * <;> omega)) h113
     refine dR [(44, .tup [])] [bR 64 4 R_api_Value x114 g115 0] [0] [aR 0 4 m0, aI y19, aI y22, .pv (.fn 41 [] [])] (by kernel_rfl) (by kernel_rfl) (by kernel_rfl) hC (by kernel_rfl) (fin [(0, aR 0 4 m0), (1, aI y19), (2, aI y22), (3, aI y23), (4, .pv (.fn 41 [] [])), (10, aB y20), (11, aB y21), (12, aI (IntKind.wrap .i64 (y22 - y19)))] rfl (by kernel_rfl) (detn [(0, aR 0 4 m0), (1, aI y19), (2, aI y22), (3, aI (IntKind.wrap .i64 (y23 - 1))), (4, .pv (.fn 41 [] [])), (10, aB y20), (11, aB y21), (12, aI (IntKind.wrap .i64 (y22 - y19)))] (by kernel_rfl) ?_))
     exact ⟨x114, (IntKind.wrap .i64 (y23 - 1)), .any, g115, hm, (mk_same (by kernel_rfl)), rfl, (by first | rfl | assumption | omega | (simp only [List.length_set, List.length_append, List.length_cons, List.length_nil, List.length_replicate, List.length_drop] at * <;> omega)), (by first | exact Nat.zero_le _ | exact Nat.le_refl _ | assumption | omega | (simp only [List.length_set, List.length_append, List.length_cons, List.length_nil, List.length_replicate, List.length_drop] at * <;> omega))⟩
    ·
     refine cf h112 (by kernel_rfl) (wp_skip ?_)
     exact ⟨y18, y23, aB (!y20), g25, hm, (mk_same (by kernel_rfl)), rfl, (by first | rfl | assumption | omega | (simp only [List.length_set, List.length_append, List.length_cons, List.length_nil, List.length_replicate, List.length_drop] at * <;> omega)), (by first | exact Nat.zero_le _ | exact Nat.le_refl _ | assumption | omega | (simp only [List.length_set, List.length_append, List.length_cons, List.length_nil, List.length_replicate, List.length_drop] at * <;> omega))⟩
theorem okt_slices_pdqsortCmpFunc_Value_value_Cmp_r : ∀ (m : Nat), ∀ (m0 : Nat) (f0 : Nat) {n : Nat} {a0 : (List api_Value)} {a1 : Int} {a2 : Int} {a3 : Int} {r : (List api_Value)} (hm0 : a0.length = m0) (hf0 : f0 ≤ a0.length) (hm : slices_pdqsortCmpFunc_Value_value_Cmp_r_t m n a0 a1 a2 a3 = some r), ∃ vv H1, call G n 120 [aR 0 4 m0, aI a1, aI a2, aI a3, .pv (.fn 41 [] [])] [bR 64 4 R_api_Value a0 f0 0] = some (.ret vv, H1) ∧ (match r with | r0 => (∃ (e1 : Nat), r0.length = m0 ∧ e1 ≤ r0.length ∧ vv = .tup [] ∧ H1 = [bR 64 4 R_api_Value r0 e1 0]))
  | 0 => by intros; rename_i hm; exact nomatch hm
  | m + 1 => @fun m0 f0 n a0 a1 a2 a3 r hm0 hf0 hm =>
    okf_slices_pdqsortCmpFunc_Value_value_Cmp_r (okt_slices_pdqsortCmpFunc_Value_value_Cmp_r m) m0 f0 hm0 hf0 hm
theorem ok_slices_pdqsortCmpFunc_Value_value_Cmp_r (m0 : Nat) (f0 : Nat) {n : Nat} {a0 : (List api_Value)} {a1 : Int} {a2 : Int} {a3 : Int} {r : (List api_Value)} (hm0 : a0.length = m0) (hf0 : f0 ≤ a0.length) (hm : slices_pdqsortCmpFunc_Value_value_Cmp_r n a0 a1 a2 a3 = some r) :
    ∃ vv H1, call G n 120 [aR 0 4 m0, aI a1, aI a2, aI a3, .pv (.fn 41 [] [])] [bR 64 4 R_api_Value a0 f0 0] = some (.ret vv, H1) ∧ (match r with | r0 => (∃ (e1 : Nat), r0.length = m0 ∧ e1 ≤ r0.length ∧ vv = .tup [] ∧ H1 = [bR 64 4 R_api_Value r0 e1 0])) := okt_slices_pdqsortCmpFunc_Value_value_Cmp_r n m0 f0 hm0 hf0 hm
theorem ok_slices_SortFunc_Value_value_Cmp_r (m0 : Nat) (f0 : Nat) {n : Nat} {a0 : (List api_Value)} {r : (List api_Value)} (hm0 : a0.length = m0) (hf0 : f0 ≤ a0.length) (hm : slices_SortFunc_Value_value_Cmp_r n a0 = some r) :
    ∃ vv H1, call G n 101 [aR 0 4 m0, .pv (.fn 41 [] [])] [bR 64 4 R_api_Value a0 f0 0] = some (.ret vv, H1) ∧ (match r with | r0 => (∃ (e1 : Nat), r0.length = m0 ∧ e1 ≤ r0.length ∧ vv = .tup [] ∧ H1 = [bR 64 4 R_api_Value r0 e1 0])) := by
  unfold slices_SortFunc_Value_value_Cmp_r at hm
  obtain ⟨n, rfl, h0⟩ := at1_some hm
  replace hm := h0; clear h0
  refine callE 14 [(0, aR 0 4 m0), (1, .pv (.fn 41 [] []))] func101 rfl (by kernel_rfl) (sq (rg (sh 1 [(5, aR 0 4 m0)] (by kernel_rfl) (dv 6 (v := aI (a0.length : Int)) (len_refO a0 (n := m0) (id := 0) (esz := 4) t52 (by omega) (by kernel_rfl)) (by kernel_rfl) (sh 1 [(4, aI (a0.length : Int))] (by kernel_rfl) (fin [(0, aR 0 4 m0), (1, .pv (.fn 41 [] [])), (4, aI (a0.length : Int))] rfl (by kernel_rfl) (rg (sh 4 [(10, aU (IntKind.wrap .u64 (a0.length : Int))), (9, aI (a0.length : Int)), (8, aI (a0.length : Int)), (7, aR 0 4 m0)] (by kernel_rfl) ?_))))))))
  obtain ⟨x1, h2, hm⟩ := bs hm
  refine dv 11 (cpure (by kernel_rfl) (ok_math_bits_Len h2) (by kernel_rfl) (by kernel_rfl) (by kernel_rfl)) (by kernel_rfl) (sh 1 [(12, .pv (.fn 41 [] []))] (by kernel_rfl) ?_)
  obtain ⟨x4, h3, hm⟩ := bs hm
  obtain ⟨vv, H1, hC, g5, q6, q7, rfl, rfl⟩ := ok_slices_pdqsortCmpFunc_Value_value_Cmp_r m0 f0 (by first | rfl | assumption | omega | (simp only [List.length_set, List.length_append, List.length_cons, List.length_nil, List.length_replicate, List.length_drop] at * <;> omega)) (by first | exact Nat.zero_le _ | exact Nat.le_refl _ | assumption | omega | (simp only [List.length_set, List.length_append, List.length_cons, List.length_nil, List.length_replicate, List.length_drop] at * <;> omega)) h3
  refine dR [(13, .tup [])] [bR 64 4 R_api_Value x4 g5 0] [0] [aR 0 4 m0, aI 0, aI (a0.length : Int), aI x1, .pv (.fn 41 [] [])] (by kernel_rfl) (by kernel_rfl) (by kernel_rfl) hC (by kernel_rfl) (fin [] rfl (by kernel_rfl) ?_)
  obtain rfl := Option.some.inj hm
  exact ⟨trivial, .tup [], [bR 64 4 R_api_Value x4 g5 0], by kernel_rfl, g5, (by first | rfl | assumption | omega | (simp only [List.length_set, List.length_append, List.length_cons, List.length_nil, List.length_replicate, List.length_drop] at * <;> omega)), (by first | exact Nat.zero_le _ | exact Nat.le_refl _ | assumption | omega | (simp only [List.length_set, List.length_append, List.length_cons, List.length_nil, List.length_replicate, List.length_drop] at * <;> omega)), rfl, rfl⟩
theorem ok_hist_sorted {n : Nat} {a0 : (Option (List api_Value))} {r : (Option (List api_Value)) × Bool} (hm : hist_sorted n a0 = some r) :
    call G n 62 [.pv (encSl R_api_Value a0)] [] = some (.ret (.tup [.pv (encSl R_api_Value r.1), aB r.2]), []) := by
  unfold hist_sorted at hm
  obtain ⟨n, rfl, h0⟩ := at1_some hm
  replace hm := h0; clear h0
  refine callL 43 [(0, .pv (encSl R_api_Value a0))] func62 rfl (by kernel_rfl) (sq (detn [(0, .pv (encSl R_api_Value a0))] (by kernel_rfl) (sq (detn [(0, .pv (encSl R_api_Value a0)), (4, .pv .nils)] (by kernel_rfl) ?_))))
  obtain ⟨k4, hk4, hm⟩ := withK_some hm
  refine mid (fun t H => (∃ (w1 : AV) (w2 : AV), k4 none = some r ∧ t = mk 43 [(4, .pv .nils), (7, .pv (encSl R_api_Value a0)), (8, aI ((sll a0).length : Int)), (9, w1), (10, w2)] ∧ H = []) ∨ (∃ (y3 : (List api_Value)) (w1 : AV) (w2 : AV), k4 (some y3) = some r ∧ t = mk 43 [(4, aR 0 4 y3.length), (7, .pv (encSl R_api_Value a0)), (8, aI ((sll a0).length : Int)), (9, w1), (10, w2)] ∧ H = [bR 64 4 R_api_Value y3 0 0])) ?_ ?_
  ·
   rintro _ _ (⟨w1, w2, hm, rfl, rfl⟩ | ⟨y3, w1, w2, hm, rfl, rfl⟩)
   ·
    subst hk4
    refine sq (rg (sh 1 [(40, .pv .nils)] (by kernel_rfl) ?_))
    obtain ⟨_, h5, hm⟩ := bs hm
    obtain ⟨vv, H1, hC, rfl, rfl⟩ := ok_slices_SortFunc_Value_value_Cmp_nil h5
    refine dR [(41, .tup [])] [] [] [.pv .nils, .pv (.fn 41 [] [])] (by kernel_rfl) (by kernel_rfl) (by kernel_rfl) hC (by kernel_rfl) (fin [(4, .pv .nils)] rfl (by kernel_rfl) (sq (detn [(2, .pv .nils), (3, aB true)] (by kernel_rfl) (wp_ret ?_))))
    obtain rfl := Option.some.inj hm
    exact ⟨trivial, by kernel_rfl⟩
   ·
    subst hk4
    refine sq (rg (sh 1 [(40, aR 0 4 y3.length)] (by kernel_rfl) ?_))
    obtain ⟨x7, h6, hm⟩ := bs hm
    obtain ⟨vv, H1, hC, g8, q9, q10, rfl, rfl⟩ := ok_slices_SortFunc_Value_value_Cmp_r y3.length 0 (by first | rfl | assumption | omega | (simp only [List.length_set, List.length_append, List.length_cons, List.length_nil, List.length_replicate, List.length_drop] at * <;> omega)) (by first | exact Nat.zero_le _ | exact Nat.le_refl _ | assumption | omega | (simp only [List.length_set, List.length_append, List.length_cons, List.length_nil, List.length_replicate, List.length_drop] at * <;> omega)) h6
    refine dR [(41, .tup [])] [bR 64 4 R_api_Value x7 g8 0] [0] [aR 0 4 y3.length, .pv (.fn 41 [] [])] (by kernel_rfl) (by kernel_rfl) (by kernel_rfl) hC (by kernel_rfl) (fin [(4, aR 0 4 y3.length)] rfl (by kernel_rfl) (sq (detn [(2, aR 0 4 y3.length), (3, aB true)] (by kernel_rfl) (wp_ret ?_))))
    obtain rfl := Option.some.inj hm
    exact ret_pure (v := .tup [aR 0 4 y3.length, aB true]) trivial rfl (by kernel_rfl) (pR_tup (pAs_cons (pA_ref (pur_ref' (n := y3.length) (id := 0) (l := x7) (R := R_api_Value) rfl (by omega) (by omega))) (pAs_cons (pA_pv) (rfl))))
  refine sq (rg (sh 1 [(7, .pv (encSl R_api_Value a0))] (by kernel_rfl) (dv 8 (v := aI ((sll a0).length : Int)) (len_slO R_api_Value a0 t52 (by kernel_rfl)) (by kernel_rfl) (sh 1 [(9, aI 0)] (by kernel_rfl) (fin [(4, .pv .nils), (7, .pv (encSl R_api_Value a0)), (8, aI ((sll a0).length : Int)), (9, aI 0)] rfl (by kernel_rfl) (bq ?_))))))
  refine loopF (fun mm t H => (∃ (y14 : Int), hist_sorted_l3 n a0 k4 mm none y14 = some r ∧ t = mk 43 [(4, .pv .nils), (7, .pv (encSl R_api_Value a0)), (8, aI ((sll a0).length : Int)), (9, aI y14)] ∧ H = []) ∨ (∃ (y13 : (List api_Value)) (y14 : Int), hist_sorted_l3 n a0 k4 mm (some y13) y14 = some r ∧ t = mk 43 [(4, aR 0 4 y13.length), (7, .pv (encSl R_api_Value a0)), (8, aI ((sll a0).length : Int)), (9, aI y14)] ∧ H = [bR 64 4 R_api_Value y13 0 0])) (.inl ⟨0, hm, rfl, rfl⟩) ?_ ?_
  · rintro _ _ (⟨y14, hm, _⟩ | ⟨y13, y14, hm, _⟩) <;> exact nomatch hm
  rintro m15 _ _ (⟨y14, hm, rfl, rfl⟩ | ⟨y13, y14, hm, rfl, rfl⟩)
  ·
   simp only [hist_sorted_l3] at hm
   refine sq (detn [(4, .pv .nils), (7, .pv (encSl R_api_Value a0)), (8, aI ((sll a0).length : Int)), (9, aI y14), (10, aB (decide (y14 < ((sll a0).length : Int))))] (by kernel_rfl) ?_)
   refine sq ?_
   rcases bif_some hm with ⟨h16, hm⟩ | ⟨h16, hm⟩
   ·
    refine ct h16 (by kernel_rfl) (wp_skip (sq (bq (sq (rg ?_)))))
    obtain ⟨x17, h18, hm⟩ := bs hm
    refine dv 11 (v := .pv (.ptr (R_api_Value x17) 0)) (ia_slO R_api_Value a0 .i64 t52 t64 h18 rfl (by kernel_rfl)) (by kernel_rfl) (st 3 [(6, .ptr 0 0), (12, .agg [aI x17.fKind, aI x17.fInt, aF x17.fFloat, aS x17.fText])] [.box [aI x17.fKind, aI x17.fInt, aF x17.fFloat, aS x17.fText] false] (by kernel_rfl) (fin [(4, .pv .nils), (6, .ptr 0 0), (7, .pv (encSl R_api_Value a0)), (8, aI ((sll a0).length : Int)), (9, aI y14)] rfl (by kernel_rfl) (sq (bq (sq (rg (sh 1 [(14, .agg [aI x17.fKind, aI x17.fInt, aF x17.fFloat, aS x17.fText])] (by kernel_rfl) ?_)))))))
    obtain ⟨x19, h20, hm⟩ := bs hm
    refine dv 15 (cpure (by kernel_rfl) (ok_value_Right h20) (by kernel_rfl) (by kernel_rfl) (by kernel_rfl)) (by kernel_rfl) (sh 2 [(13, aB (!x19)), (16, aB (!x19))] (by kernel_rfl) (fin [(4, .pv .nils), (6, .ptr 0 0), (7, .pv (encSl R_api_Value a0)), (8, aI ((sll a0).length : Int)), (9, aI y14), (13, aB (!x19))] rfl (by kernel_rfl) ?_))
    rcases bif_some hm with ⟨h21, hm⟩ | ⟨h21, hm⟩
    ·
     refine ct h21 (by kernel_rfl) (sq (detn [(2, .pv .nils), (3, aB false)] (by kernel_rfl) (wp_ret ?_)))
     obtain rfl := Option.some.inj hm
     exact ⟨trivial, by kernel_rfl⟩
    ·
     refine cf h21 (by kernel_rfl) (sq (detn [(4, .pv .nils), (6, .ptr 0 0), (7, .pv (encSl R_api_Value a0)), (8, aI ((sll a0).length : Int)), (9, aI y14), (17, aB (x17.fKind == 0))] (by kernel_rfl) ?_))
     rcases bif_some hm with ⟨h22, hm⟩ | ⟨h22, hm⟩
     ·
      refine ct h22 (by kernel_rfl) (wp_exit (detn [(4, .pv .nils), (7, .pv (encSl R_api_Value a0)), (8, aI ((sll a0).length : Int)), (9, aI (IntKind.wrap .i64 (y14 + 1)))] (by kernel_rfl) ?_))
      exact ⟨_, _, tidyL [(4, .pv .nils), (7, .pv (encSl R_api_Value a0)), (8, aI ((sll a0).length : Int)), (9, aI (IntKind.wrap .i64 (y14 + 1)))] [] (by kernel_rfl), .inl ⟨(IntKind.wrap .i64 (y14 + 1)), hm, rfl, rfl⟩⟩
     ·
      refine cf h22 (by kernel_rfl) (sq (rgd (shd 13 [(21, aB false), (33, aB false), (32, .undef), (31, .undef), (30, .undef), (29, .undef), (28, .undef), (27, .undef), (26, .undef), (25, aB false), (24, aB false), (23, aI 0), (22, .pv .nils)] (by kernel_rfl) (find [(4, .pv .nils), (6, .ptr 0 0), (7, .pv (encSl R_api_Value a0)), (8, aI ((sll a0).length : Int)), (9, aI y14), (21, aB false)] rfl (by kernel_rfl) (by kernel_rfl) (cF (by kernel_rfl) (wp_skip (rg (sh 2 [(35, .agg [aI x17.fKind, aI x17.fInt, aF x17.fFloat, aS x17.fText]), (34, .pv .nils)] (by kernel_rfl) ?_))))))))
      obtain ⟨x23, h24, hm⟩ := bs hm
      refine dv 36 (cpure (by kernel_rfl) (ok_value_Plain h24) (by kernel_rfl) (by kernel_rfl) (by kernel_rfl)) (by kernel_rfl) (st 1 [(37, aR 1 4 1)] [.box [aI x17.fKind, aI x17.fInt, aF x17.fFloat, aS x17.fText] false, bR 64 4 R_api_Value ([x23] : List api_Value) 0 0] (by kernel_rfl) ?_)
      obtain ⟨_, h25, hm⟩ := bs hm
      refine dO [(38, aR 2 4 (([x23] : List api_Value).length))] [.box [aI x17.fKind, aI x17.fInt, aF x17.fFloat, aS x17.fText] false, bR 64 4 R_api_Value ([x23] : List api_Value) 0 0, bR 64 4 R_api_Value ([x23] : List api_Value) 0 0] (app_nilO (u := 0) R_api_Value ([x23] : List api_Value) (b := 40) t52 t64 rfl rfl rfl (fun _ => rfl) rfl h25 (show srcRows (aR 1 4 1) _ = some (([x23] : List api_Value).map R_api_Value) from by kernel_rfl) (by kernel_rfl)) (by kernel_rfl) (sh 1 [(4, aR 2 4 (([x23] : List api_Value).length))] (by kernel_rfl) (fin [(4, aR 2 4 (([x23] : List api_Value).length)), (7, .pv (encSl R_api_Value a0)), (8, aI ((sll a0).length : Int)), (9, aI y14)] rfl (by kernel_rfl) (detn [(4, aR 2 4 (([x23] : List api_Value).length)), (7, .pv (encSl R_api_Value a0)), (8, aI ((sll a0).length : Int)), (9, aI (IntKind.wrap .i64 (y14 + 1)))] (by kernel_rfl) ?_)))
      exact ⟨_, _, tidyL [(4, aR 0 4 (([x23] : List api_Value).length)), (7, .pv (encSl R_api_Value a0)), (8, aI ((sll a0).length : Int)), (9, aI (IntKind.wrap .i64 (y14 + 1)))] [bR 64 4 R_api_Value ([x23] : List api_Value) 0 0] (by kernel_rfl), .inr (⟨([x23] : List api_Value), (IntKind.wrap .i64 (y14 + 1)), hm, rfl, rfl⟩)⟩
   ·
    refine cf h16 (by kernel_rfl) (wp_exit ?_)
    exact .inl ⟨aI y14, aB (decide (y14 < ((sll a0).length : Int))), hm, (mk_same (by kernel_rfl)), rfl⟩
  ·
   simp only [hist_sorted_l3] at hm
   refine sq (detn [(4, aR 0 4 y13.length), (7, .pv (encSl R_api_Value a0)), (8, aI ((sll a0).length : Int)), (9, aI y14), (10, aB (decide (y14 < ((sll a0).length : Int))))] (by kernel_rfl) ?_)
   refine sq ?_
   rcases bif_some hm with ⟨h26, hm⟩ | ⟨h26, hm⟩
   ·
    refine ct h26 (by kernel_rfl) (wp_skip (sq (bq (sq (rg ?_)))))
    obtain ⟨x27, h28, hm⟩ := bs hm
    refine dv 11 (v := .pv (.ptr (R_api_Value x27) 0)) (ia_slO R_api_Value a0 .i64 t52 t64 h28 rfl (by kernel_rfl)) (by kernel_rfl) (st 3 [(6, .ptr 1 0), (12, .agg [aI x27.fKind, aI x27.fInt, aF x27.fFloat, aS x27.fText])] [bR 64 4 R_api_Value y13 0 0, .box [aI x27.fKind, aI x27.fInt, aF x27.fFloat, aS x27.fText] false] (by kernel_rfl) (fin [(4, aR 0 4 y13.length), (6, .ptr 1 0), (7, .pv (encSl R_api_Value a0)), (8, aI ((sll a0).length : Int)), (9, aI y14)] rfl (by kernel_rfl) (sq (bq (sq (rg (sh 1 [(14, .agg [aI x27.fKind, aI x27.fInt, aF x27.fFloat, aS x27.fText])] (by kernel_rfl) ?_)))))))
    obtain ⟨x29, h30, hm⟩ := bs hm
    refine dv 15 (cpure (by kernel_rfl) (ok_value_Right h30) (by kernel_rfl) (by kernel_rfl) (by kernel_rfl)) (by kernel_rfl) (sh 2 [(13, aB (!x29)), (16, aB (!x29))] (by kernel_rfl) (fin [(4, aR 0 4 y13.length), (6, .ptr 1 0), (7, .pv (encSl R_api_Value a0)), (8, aI ((sll a0).length : Int)), (9, aI y14), (13, aB (!x29))] rfl (by kernel_rfl) ?_))
    rcases bif_some hm with ⟨h31, hm⟩ | ⟨h31, hm⟩
    ·
     refine ct h31 (by kernel_rfl) (sq (detn [(2, .pv .nils), (3, aB false)] (by kernel_rfl) (wp_ret ?_)))
     obtain rfl := Option.some.inj hm
     exact ⟨trivial, by kernel_rfl⟩
    ·
     refine cf h31 (by kernel_rfl) (sq (detn [(4, aR 0 4 y13.length), (6, .ptr 1 0), (7, .pv (encSl R_api_Value a0)), (8, aI ((sll a0).length : Int)), (9, aI y14), (17, aB (x27.fKind == 0))] (by kernel_rfl) ?_))
     rcases bif_some hm with ⟨h32, hm⟩ | ⟨h32, hm⟩
     ·
      refine ct h32 (by kernel_rfl) (wp_exit (detn [(4, aR 0 4 y13.length), (7, .pv (encSl R_api_Value a0)), (8, aI ((sll a0).length : Int)), (9, aI (IntKind.wrap .i64 (y14 + 1)))] (by kernel_rfl) ?_))
      exact ⟨_, _, tidyL [(4, aR 0 4 y13.length), (7, .pv (encSl R_api_Value a0)), (8, aI ((sll a0).length : Int)), (9, aI (IntKind.wrap .i64 (y14 + 1)))] [bR 64 4 R_api_Value y13 0 0] (by kernel_rfl), .inr (⟨y13, (IntKind.wrap .i64 (y14 + 1)), hm, rfl, rfl⟩)⟩
     ·
      refine cf h32 (by kernel_rfl) (sq (rgd (shd 1 [(22, aR 0 4 y13.length)] (by kernel_rfl) (dvd 23 (v := aI (y13.length : Int)) (len_refO y13 (n := y13.length) (id := 0) (esz := 4) t52 rfl (by kernel_rfl)) (by kernel_rfl) (shd 2 [(25, aB (decide ((y13.length : Int) > 0))), (24, aB (decide ((y13.length : Int) > 0)))] (by kernel_rfl) ?_)))))
      rcases bif_some hm with ⟨h33, hm⟩ | ⟨h33, hm⟩
      ·
       refine knownd [25, 24] h33 (by kernel_rfl) (shd 1 [(26, aR 0 4 y13.length)] (by kernel_rfl) ?_)
       obtain ⟨x34, h35, hm⟩ := bs hm
       refine dvd 27 (v := .eptr 0 0 y13.length 4 (0 + Int.toNat 0) 0) (ia_refO y13 .i64 (n := y13.length) (id := 0) (esz := 4) t52 t64 h35 rfl rfl (by kernel_rfl)) (by kernel_rfl) (shd 1 [(28, .eptr 0 0 y13.length 4 (0 + Int.toNat 0) 0)] (by kernel_rfl) (dvd 29 (v := aI x34.fKind) (ld_eptrO R_api_Value y13 (n := y13.length) (esz := 4) (j := 0) (off := 0) (id := 0) t3 rfl h35 rfl (Nat.zero_le _) (by kernel_rfl) (by kernel_rfl)) (by kernel_rfl) (shd 5 [(21, aB (x34.fKind != x27.fKind)), (33, aB (x34.fKind != x27.fKind)), (32, aB (x34.fKind != x27.fKind)), (31, aI x27.fKind), (30, .ptr 1 0)] (by kernel_rfl) (find [(4, aR 0 4 y13.length), (6, .ptr 1 0), (7, .pv (encSl R_api_Value a0)), (8, aI ((sll a0).length : Int)), (9, aI y14), (21, aB (x34.fKind != x27.fKind))] rfl (by kernel_rfl) (by kernel_rfl) ?_))))
       rcases bif_some hm with ⟨h36, hm⟩ | ⟨h36, hm⟩
       ·
        refine ct h36 (by kernel_rfl) (sq (detn [(2, .pv .nils), (3, aB false)] (by kernel_rfl) (wp_ret ?_)))
        obtain rfl := Option.some.inj hm
        exact ⟨trivial, by kernel_rfl⟩
       ·
        refine cf h36 (by kernel_rfl) (wp_skip (rg (sh 2 [(35, .agg [aI x27.fKind, aI x27.fInt, aF x27.fFloat, aS x27.fText]), (34, aR 0 4 y13.length)] (by kernel_rfl) ?_)))
        obtain ⟨x37, h38, hm⟩ := bs hm
        refine dv 36 (cpure (by kernel_rfl) (ok_value_Plain h38) (by kernel_rfl) (by kernel_rfl) (by kernel_rfl)) (by kernel_rfl) (st 1 [(37, aR 2 4 1)] [bR 64 4 R_api_Value y13 0 0, .box [aI x27.fKind, aI x27.fInt, aF x27.fFloat, aS x27.fText] false, bR 64 4 R_api_Value ([x37] : List api_Value) 0 0] (by kernel_rfl) ?_)
        obtain ⟨_, h39, hm⟩ := bs hm
        refine dO [(38, aR 0 4 ((y13 ++ ([x37] : List api_Value)).length))] [bR 64 4 R_api_Value (y13 ++ ([x37] : List api_Value)) 0 0, .box [aI x27.fKind, aI x27.fInt, aF x27.fFloat, aS x27.fText] false, bR 64 4 R_api_Value ([x37] : List api_Value) 0 0] (app_refO (u := 0) (n := y13.length) (id := 0) R_api_Value y13 ([x37] : List api_Value) (b := 40) t52 t64 rfl rfl rfl (fun _ => rfl) rfl h39 rfl rfl (Nat.zero_le _) (show srcRows (aR 2 4 1) _ = some (([x37] : List api_Value).map R_api_Value) from by kernel_rfl) (by kernel_rfl)) (by kernel_rfl) (sh 1 [(4, aR 0 4 ((y13 ++ ([x37] : List api_Value)).length))] (by kernel_rfl) (fin [(4, aR 0 4 ((y13 ++ ([x37] : List api_Value)).length)), (7, .pv (encSl R_api_Value a0)), (8, aI ((sll a0).length : Int)), (9, aI y14)] rfl (by kernel_rfl) (detn [(4, aR 0 4 ((y13 ++ ([x37] : List api_Value)).length)), (7, .pv (encSl R_api_Value a0)), (8, aI ((sll a0).length : Int)), (9, aI (IntKind.wrap .i64 (y14 + 1)))] (by kernel_rfl) ?_)))
        exact ⟨_, _, tidyL [(4, aR 0 4 ((y13 ++ ([x37] : List api_Value)).length)), (7, .pv (encSl R_api_Value a0)), (8, aI ((sll a0).length : Int)), (9, aI (IntKind.wrap .i64 (y14 + 1)))] [bR 64 4 R_api_Value (y13 ++ ([x37] : List api_Value)) 0 0] (by kernel_rfl), .inr (⟨(y13 ++ ([x37] : List api_Value)), (IntKind.wrap .i64 (y14 + 1)), hm, rfl, rfl⟩)⟩
      ·
       refine knownd [25, 24] h33 (by kernel_rfl) (shd 9 [(21, aB false), (33, aB false), (32, .undef), (31, .undef), (30, .undef), (29, .undef), (28, .undef), (27, .undef), (26, .undef)] (by kernel_rfl) (find [(4, aR 0 4 y13.length), (6, .ptr 1 0), (7, .pv (encSl R_api_Value a0)), (8, aI ((sll a0).length : Int)), (9, aI y14), (21, aB false)] rfl (by kernel_rfl) (by kernel_rfl) (cF (by kernel_rfl) (wp_skip (rg (sh 2 [(35, .agg [aI x27.fKind, aI x27.fInt, aF x27.fFloat, aS x27.fText]), (34, aR 0 4 y13.length)] (by kernel_rfl) ?_))))))
       obtain ⟨x40, h41, hm⟩ := bs hm
       refine dv 36 (cpure (by kernel_rfl) (ok_value_Plain h41) (by kernel_rfl) (by kernel_rfl) (by kernel_rfl)) (by kernel_rfl) (st 1 [(37, aR 2 4 1)] [bR 64 4 R_api_Value y13 0 0, .box [aI x27.fKind, aI x27.fInt, aF x27.fFloat, aS x27.fText] false, bR 64 4 R_api_Value ([x40] : List api_Value) 0 0] (by kernel_rfl) ?_)
       obtain ⟨_, h42, hm⟩ := bs hm
       refine dO [(38, aR 0 4 ((y13 ++ ([x40] : List api_Value)).length))] [bR 64 4 R_api_Value (y13 ++ ([x40] : List api_Value)) 0 0, .box [aI x27.fKind, aI x27.fInt, aF x27.fFloat, aS x27.fText] false, bR 64 4 R_api_Value ([x40] : List api_Value) 0 0] (app_refO (u := 0) (n := y13.length) (id := 0) R_api_Value y13 ([x40] : List api_Value) (b := 40) t52 t64 rfl rfl rfl (fun _ => rfl) rfl h42 rfl rfl (Nat.zero_le _) (show srcRows (aR 2 4 1) _ = some (([x40] : List api_Value).map R_api_Value) from by kernel_rfl) (by kernel_rfl)) (by kernel_rfl) (sh 1 [(4, aR 0 4 ((y13 ++ ([x40] : List api_Value)).length))] (by kernel_rfl) (fin [(4, aR 0 4 ((y13 ++ ([x40] : List api_Value)).length)), (7, .pv (encSl R_api_Value a0)), (8, aI ((sll a0).length : Int)), (9, aI y14)] rfl (by kernel_rfl) (detn [(4, aR 0 4 ((y13 ++ ([x40] : List api_Value)).length)), (7, .pv (encSl R_api_Value a0)), (8, aI ((sll a0).length : Int)), (9, aI (IntKind.wrap .i64 (y14 + 1)))] (by kernel_rfl) ?_)))
       exact ⟨_, _, tidyL [(4, aR 0 4 ((y13 ++ ([x40] : List api_Value)).length)), (7, .pv (encSl R_api_Value a0)), (8, aI ((sll a0).length : Int)), (9, aI (IntKind.wrap .i64 (y14 + 1)))] [bR 64 4 R_api_Value (y13 ++ ([x40] : List api_Value)) 0 0] (by kernel_rfl), .inr (⟨(y13 ++ ([x40] : List api_Value)), (IntKind.wrap .i64 (y14 + 1)), hm, rfl, rfl⟩)⟩
   ·
    refine cf h26 (by kernel_rfl) (wp_exit ?_)
    exact .inr (⟨y13, aI y14, aB (decide (y14 < ((sll a0).length : Int))), hm, (mk_same (by kernel_rfl)), rfl⟩)
theorem ok_value_Same {n : Nat} {a0 : api_Value} {a1 : api_Value} {r : Bool} (hm : value_Same n a0 a1 = some r) :
    call G n 40 [.agg [aI a0.fKind, aI a0.fInt, aF a0.fFloat, aS a0.fText], .agg [aI a1.fKind, aI a1.fInt, aF a1.fFloat, aS a1.fText]] [] = some (.ret (aB r), []) := by
  unfold value_Same at hm
  obtain ⟨n, rfl, h0⟩ := at1_some hm
  replace hm := h0; clear h0
  refine callL 9 [(0, .agg [aI a0.fKind, aI a0.fInt, aF a0.fFloat, aS a0.fText]), (1, .agg [aI a1.fKind, aI a1.fInt, aF a1.fFloat, aS a1.fText])] func40 rfl (by kernel_rfl) (sq (det [(2, .ptr 0 0), (3, .ptr 1 0)] [.box [aI a0.fKind, aI a0.fInt, aF a0.fFloat, aS a0.fText] false, .box [aI a1.fKind, aI a1.fInt, aF a1.fFloat, aS a1.fText] false] (by kernel_rfl) (sq (rg (sh 2 [(6, .agg [aI a1.fKind, aI a1.fInt, aF a1.fFloat, aS a1.fText]), (5, .agg [aI a0.fKind, aI a0.fInt, aF a0.fFloat, aS a0.fText])] (by kernel_rfl) ?_)))))
  obtain ⟨x1, h2, hm⟩ := bs hm
  refine dv 7 (cpure (by kernel_rfl) (ok_value_Cmp h2) (by kernel_rfl) (by kernel_rfl) (by kernel_rfl)) (by kernel_rfl) (sh 2 [(4, aB (x1 == 0)), (8, aB (x1 == 0))] (by kernel_rfl) (fin [(4, aB (x1 == 0))] rfl (by kernel_rfl) (wp_ret ?_)))
  obtain rfl := Option.some.inj hm
  exact ⟨trivial, by kernel_rfl⟩
theorem ok_hist_cut {n : Nat} {a0 : (Option (List api_Value))} {a1 : Int} {r : hist_Bucket} (hm : hist_cut n a0 a1 = some r) :
    call G n 63 [.pv (encSl R_api_Value a0), aI a1] [] = some (.ret (.agg [aI r.fLow.fKind, aI r.fLow.fInt, aF r.fLow.fFloat, aS r.fLow.fText, aI r.fHigh.fKind, aI r.fHigh.fInt, aF r.fHigh.fFloat, aS r.fHigh.fText, aI r.fCount, aI r.fDistinct]), []) := by
  unfold hist_cut at hm
  obtain ⟨n, rfl, h0⟩ := at1_some hm
  replace hm := h0; clear h0
  refine callL 60 [(0, .pv (encSl R_api_Value a0)), (1, aI a1)] func63 rfl (by kernel_rfl) (sq (det [(0, .pv (encSl R_api_Value a0)), (1, aI a1), (4, .ptr 0 0)] [.box [aI 0, aI 0, aF 0, aS ByteArray.empty, aI 0, aI 0, aF 0, aS ByteArray.empty, aI 0, aI 0] false] (by kernel_rfl) (sq (rg (sh 2 [(8, .pv (encSl R_api_Value a0)), (7, aI a1)] (by kernel_rfl) (dv 9 (v := aI ((sll a0).length : Int)) (len_slO R_api_Value a0 t52 (by kernel_rfl)) (by kernel_rfl) (sh 2 [(1, aI (if ((sll a0).length : Int) < a1 then ((sll a0).length : Int) else a1)), (10, aI (if ((sll a0).length : Int) < a1 then ((sll a0).length : Int) else a1))] (by kernel_rfl) (fin [(0, .pv (encSl R_api_Value a0)), (1, aI (if ((sll a0).length : Int) < a1 then ((sll a0).length : Int) else a1)), (4, .ptr 0 0)] rfl (by kernel_rfl) ?_))))))))
  obtain ⟨k3, hk3, hm⟩ := withK_some hm
  refine mid (fun t H => (∃ (y1 : Int) (y2 : Bool), k3 y1 = some r ∧ t = mk 60 [(0, .pv (encSl R_api_Value a0)), (1, aI y1), (4, .ptr 0 0), (26, aB y2)] ∧ H = [.box [aI 0, aI 0, aF 0, aS ByteArray.empty, aI 0, aI 0, aF 0, aS ByteArray.empty, aI 0, aI 0] false])) ?_ ?_
  ·
   rintro _ _ ⟨y1, y2, hm, rfl, rfl⟩
   subst hk3
   refine sq (rgd (shd 1 [(29, .pv (encSl R_api_Value a0))] (by kernel_rfl) ?_))
   obtain ⟨x4, h5, hm⟩ := bs hm
   refine dvd 30 (v := .pv (.ptr (R_api_Value x4) 0)) (ia_slO R_api_Value a0 .i64 t52 t64 h5 rfl (by kernel_rfl)) (by kernel_rfl) (shd 4 [(34, aI (IntKind.wrap .i64 (y1 - 1))), (33, aI y1), (32, .pv (encSl R_api_Value a0)), (31, .agg [aI x4.fKind, aI x4.fInt, aF x4.fFloat, aS x4.fText])] (by kernel_rfl) ?_)
   obtain ⟨x6, h7, hm⟩ := bs hm
   refine dvd 35 (v := .pv (.ptr (R_api_Value x6) 0)) (ia_slO R_api_Value a0 .i64 t52 t64 h7 rfl (by kernel_rfl)) (by kernel_rfl) (std 5 [(5, .ptr 1 0), (38, .agg [aI x4.fKind, aI x4.fInt, aF x4.fFloat, aS x4.fText, aI x6.fKind, aI x6.fInt, aF x6.fFloat, aS x6.fText, aI y1, aI 1]), (37, aI y1), (36, .agg [aI x6.fKind, aI x6.fInt, aF x6.fFloat, aS x6.fText])] [.box [aI 0, aI 0, aF 0, aS ByteArray.empty, aI 0, aI 0, aF 0, aS ByteArray.empty, aI 0, aI 0] false, .box [aI x4.fKind, aI x4.fInt, aF x4.fFloat, aS x4.fText, aI x6.fKind, aI x6.fInt, aF x6.fFloat, aS x6.fText, aI y1, aI 1] false] (by kernel_rfl) (find [(0, .pv (encSl R_api_Value a0)), (1, aI y1), (4, .ptr 0 0), (5, .ptr 1 0)] rfl (by kernel_rfl) (by kernel_rfl) ?_))
   obtain ⟨k11, hk11, hm⟩ := withK_some hm
   refine mid (fun t H => (∃ (y8 : Int) (y9 : Bool) (y10 : Int), k11 y8 = some r ∧ t = mk 60 [(0, .pv (encSl R_api_Value a0)), (1, aI y1), (4, .ptr 0 0), (5, .ptr 1 0), (6, aI y10), (41, aB y9)] ∧ H = [.box [aI 0, aI 0, aF 0, aS ByteArray.empty, aI 0, aI 0, aF 0, aS ByteArray.empty, aI 0, aI 0] false, .box [aI x4.fKind, aI x4.fInt, aF x4.fFloat, aS x4.fText, aI x6.fKind, aI x6.fInt, aF x6.fFloat, aS x6.fText, aI y1, aI y8] false])) ?_ ?_
   ·
    rintro _ _ ⟨y8, y9, y10, hm, rfl, rfl⟩
    subst hk11
    refine sq (det [(4, .ptr 0 0)] [.box [aI x4.fKind, aI x4.fInt, aF x4.fFloat, aS x4.fText, aI x6.fKind, aI x6.fInt, aF x6.fFloat, aS x6.fText, aI y1, aI y8] false, .box [aI x4.fKind, aI x4.fInt, aF x4.fFloat, aS x4.fText, aI x6.fKind, aI x6.fInt, aF x6.fFloat, aS x6.fText, aI y1, aI y8] false] (by kernel_rfl) (wp_ret ?_))
    obtain rfl := Option.some.inj hm
    exact ⟨trivial, by kernel_rfl⟩
   refine sq (detn [(0, .pv (encSl R_api_Value a0)), (1, aI y1), (4, .ptr 0 0), (5, .ptr 1 0), (6, aI 1)] (by kernel_rfl) (bq ?_))
   refine loopF (fun mm t H => (∃ (y14 : Int) (y15 : Int), hist_cut_l6 n a0 y1 k11 mm y14 y15 = some r ∧ t = mk 60 [(0, .pv (encSl R_api_Value a0)), (1, aI y1), (4, .ptr 0 0), (5, .ptr 1 0), (6, aI y15)] ∧ H = [.box [aI 0, aI 0, aF 0, aS ByteArray.empty, aI 0, aI 0, aF 0, aS ByteArray.empty, aI 0, aI 0] false, .box [aI x4.fKind, aI x4.fInt, aF x4.fFloat, aS x4.fText, aI x6.fKind, aI x6.fInt, aF x6.fFloat, aS x6.fText, aI y1, aI y14] false])) (⟨1, 1, hm, rfl, rfl⟩) ?_ ?_
   · rintro _ _ ⟨y14, y15, hm, _⟩; exact nomatch hm
   rintro m16 _ _ ⟨y14, y15, hm, rfl, rfl⟩
   simp only [hist_cut_l6] at hm
   refine sq (sq (detn [(0, .pv (encSl R_api_Value a0)), (1, aI y1), (4, .ptr 0 0), (5, .ptr 1 0), (6, aI y15), (41, aB (decide (y15 < y1)))] (by kernel_rfl) ?_))
   rcases bif_some hm with ⟨h17, hm⟩ | ⟨h17, hm⟩
   ·
    refine ct h17 (by kernel_rfl) (wp_skip (sq (bq (sq (rgd (shd 2 [(45, aI y15), (44, .pv (encSl R_api_Value a0))] (by kernel_rfl) ?_))))))
    obtain ⟨x18, h19, hm⟩ := bs hm
    refine dvd 46 (v := .pv (.ptr (R_api_Value x18) 0)) (ia_slO R_api_Value a0 .i64 t52 t64 h19 rfl (by kernel_rfl)) (by kernel_rfl) (shd 4 [(50, aI (IntKind.wrap .i64 (y15 - 1))), (49, aI y15), (48, .pv (encSl R_api_Value a0)), (47, .agg [aI x18.fKind, aI x18.fInt, aF x18.fFloat, aS x18.fText])] (by kernel_rfl) ?_)
    obtain ⟨x20, h21, hm⟩ := bs hm
    refine dvd 51 (v := .pv (.ptr (R_api_Value x20) 0)) (ia_slO R_api_Value a0 .i64 t52 t64 h21 rfl (by kernel_rfl)) (by kernel_rfl) (shd 1 [(52, .agg [aI x20.fKind, aI x20.fInt, aF x20.fFloat, aS x20.fText])] (by kernel_rfl) ?_)
    obtain ⟨x22, h23, hm⟩ := bs hm
    refine dvd 53 (cpure (by kernel_rfl) (ok_value_Same h23) (by kernel_rfl) (by kernel_rfl) (by kernel_rfl)) (by kernel_rfl) (shd 1 [(54, aB (!x22))] (by kernel_rfl) (find [(0, .pv (encSl R_api_Value a0)), (1, aI y1), (4, .ptr 0 0), (5, .ptr 1 0), (6, aI y15), (54, aB (!x22))] rfl (by kernel_rfl) (by kernel_rfl) ?_))
    rcases bif_some hm with ⟨h24, hm⟩ | ⟨h24, hm⟩
    ·
     refine ct h24 (by kernel_rfl) (det [(0, .pv (encSl R_api_Value a0)), (1, aI y1), (4, .ptr 0 0), (5, .ptr 1 0), (6, aI y15)] [.box [aI 0, aI 0, aF 0, aS ByteArray.empty, aI 0, aI 0, aF 0, aS ByteArray.empty, aI 0, aI 0] false, .box [aI x4.fKind, aI x4.fInt, aF x4.fFloat, aS x4.fText, aI x6.fKind, aI x6.fInt, aF x6.fFloat, aS x6.fText, aI y1, aI (IntKind.wrap .i64 (y14 + 1))] false] (by kernel_rfl) (detn [(0, .pv (encSl R_api_Value a0)), (1, aI y1), (4, .ptr 0 0), (5, .ptr 1 0), (6, aI (IntKind.wrap .i64 (y15 + 1)))] (by kernel_rfl) ?_))
     exact ⟨_, _, tidyL [(0, .pv (encSl R_api_Value a0)), (1, aI y1), (4, .ptr 0 0), (5, .ptr 1 0), (6, aI (IntKind.wrap .i64 (y15 + 1)))] [.box [aI 0, aI 0, aF 0, aS ByteArray.empty, aI 0, aI 0, aF 0, aS ByteArray.empty, aI 0, aI 0] false, .box [aI x4.fKind, aI x4.fInt, aF x4.fFloat, aS x4.fText, aI x6.fKind, aI x6.fInt, aF x6.fFloat, aS x6.fText, aI y1, aI (IntKind.wrap .i64 (y14 + 1))] false] (by kernel_rfl), ⟨(IntKind.wrap .i64 (y14 + 1)), (IntKind.wrap .i64 (y15 + 1)), hm, rfl, rfl⟩⟩
    ·
     refine cf h24 (by kernel_rfl) (wp_skip (detn [(0, .pv (encSl R_api_Value a0)), (1, aI y1), (4, .ptr 0 0), (5, .ptr 1 0), (6, aI (IntKind.wrap .i64 (y15 + 1)))] (by kernel_rfl) ?_))
     exact ⟨_, _, tidyL [(0, .pv (encSl R_api_Value a0)), (1, aI y1), (4, .ptr 0 0), (5, .ptr 1 0), (6, aI (IntKind.wrap .i64 (y15 + 1)))] [.box [aI 0, aI 0, aF 0, aS ByteArray.empty, aI 0, aI 0, aF 0, aS ByteArray.empty, aI 0, aI 0] false, .box [aI x4.fKind, aI x4.fInt, aF x4.fFloat, aS x4.fText, aI x6.fKind, aI x6.fInt, aF x6.fFloat, aS x6.fText, aI y1, aI y14] false] (by kernel_rfl), ⟨y14, (IntKind.wrap .i64 (y15 + 1)), hm, rfl, rfl⟩⟩
   ·
    refine cf h17 (by kernel_rfl) (wp_exit ?_)
    exact ⟨y14, (decide (y15 < y1)), y15, hm, rfl, rfl⟩
  refine bq ?_
  refine loopF (fun mm t H => (∃ (y26 : Int), hist_cut_l2 n a0 k3 mm y26 = some r ∧ t = mk 60 [(0, .pv (encSl R_api_Value a0)), (1, aI y26), (4, .ptr 0 0)] ∧ H = [.box [aI 0, aI 0, aF 0, aS ByteArray.empty, aI 0, aI 0, aF 0, aS ByteArray.empty, aI 0, aI 0] false])) (⟨(if ((sll a0).length : Int) < a1 then ((sll a0).length : Int) else a1), hm, rfl, rfl⟩) ?_ ?_
  · rintro _ _ ⟨y26, hm, _⟩; exact nomatch hm
  rintro m27 _ _ ⟨y26, hm, rfl, rfl⟩
  simp only [hist_cut_l2] at hm
  refine sq (sq (rgd (shd 2 [(12, .pv (encSl R_api_Value a0)), (11, aI y26)] (by kernel_rfl) (dvd 13 (v := aI ((sll a0).length : Int)) (len_slO R_api_Value a0 t52 (by kernel_rfl)) (by kernel_rfl) (shd 2 [(15, aB (decide (y26 < ((sll a0).length : Int)))), (14, aB (decide (y26 < ((sll a0).length : Int))))] (by kernel_rfl) ?_)))))
  rcases bif_some hm with ⟨h28, hm⟩ | ⟨h28, hm⟩
  ·
   refine knownd [15, 14] h28 (by kernel_rfl) (shd 2 [(17, aI y26), (16, .pv (encSl R_api_Value a0))] (by kernel_rfl) ?_)
   obtain ⟨x29, h30, hm⟩ := bs hm
   refine dvd 18 (v := .pv (.ptr (R_api_Value x29) 0)) (ia_slO R_api_Value a0 .i64 t52 t64 h30 rfl (by kernel_rfl)) (by kernel_rfl) (shd 4 [(22, aI (IntKind.wrap .i64 (y26 - 1))), (21, aI y26), (20, .pv (encSl R_api_Value a0)), (19, .agg [aI x29.fKind, aI x29.fInt, aF x29.fFloat, aS x29.fText])] (by kernel_rfl) ?_)
   obtain ⟨x31, h32, hm⟩ := bs hm
   refine dvd 23 (v := .pv (.ptr (R_api_Value x31) 0)) (ia_slO R_api_Value a0 .i64 t52 t64 h32 rfl (by kernel_rfl)) (by kernel_rfl) (shd 1 [(24, .agg [aI x31.fKind, aI x31.fInt, aF x31.fFloat, aS x31.fText])] (by kernel_rfl) ?_)
   obtain ⟨x33, h34, hm⟩ := bs hm
   refine dvd 25 (cpure (by kernel_rfl) (ok_value_Same h34) (by kernel_rfl) (by kernel_rfl) (by kernel_rfl)) (by kernel_rfl) (shd 1 [(26, aB x33)] (by kernel_rfl) (find [(0, .pv (encSl R_api_Value a0)), (1, aI y26), (4, .ptr 0 0), (26, aB x33)] rfl (by kernel_rfl) (by kernel_rfl) ?_))
   rcases bif_some hm with ⟨h35, hm⟩ | ⟨h35, hm⟩
   ·
    refine ct h35 (by kernel_rfl) (wp_skip (bq (detn [(0, .pv (encSl R_api_Value a0)), (1, aI (IntKind.wrap .i64 (y26 + 1))), (4, .ptr 0 0)] (by kernel_rfl) ?_)))
    exact ⟨_, _, tidyL [(0, .pv (encSl R_api_Value a0)), (1, aI (IntKind.wrap .i64 (y26 + 1))), (4, .ptr 0 0)] [.box [aI 0, aI 0, aF 0, aS ByteArray.empty, aI 0, aI 0, aF 0, aS ByteArray.empty, aI 0, aI 0] false] (by kernel_rfl), ⟨(IntKind.wrap .i64 (y26 + 1)), hm, rfl, rfl⟩⟩
   ·
    refine cf h35 (by kernel_rfl) (wp_exit ?_)
    exact ⟨y26, x33, hm, rfl, rfl⟩
  ·
   refine knownd [15, 14] h28 (by kernel_rfl) (shd 11 [(26, aB false), (25, .undef), (24, .undef), (23, .undef), (22, .undef), (21, .undef), (20, .undef), (19, .undef), (18, .undef), (17, .undef), (16, .undef)] (by kernel_rfl) (find [(0, .pv (encSl R_api_Value a0)), (1, aI y26), (4, .ptr 0 0), (26, aB false)] rfl (by kernel_rfl) (by kernel_rfl) (cF (by kernel_rfl) (wp_exit ?_))))
   exact ⟨y26, false, hm, rfl, rfl⟩
theorem ok_hist_Build {n : Nat} {a0 : (Option (List api_Value))} {a1 : Int} {r : (Option (List hist_Bucket)) × Int} (hm : hist_Build n a0 a1 = some r) :
    call G n 26 [.pv (encSl R_api_Value a0), aI a1] [] = some (.ret (.tup [.pv (encSl R_hist_Bucket r.1), aI r.2]), []) := by
  unfold hist_Build at hm
  obtain ⟨n, rfl, h0⟩ := at1_some hm
  replace hm := h0; clear h0
  refine callL 51 [(0, .pv (encSl R_api_Value a0)), (1, aI a1)] func26 rfl (by kernel_rfl) (sq (detn [(0, .pv (encSl R_api_Value a0)), (1, aI a1)] (by kernel_rfl) ?_))
  refine sq (sq (rg (sh 3 [(13, aB (decide (a1 < 1))), (12, aB (decide (a1 < 1))), (11, aI a1)] (by kernel_rfl) ?_)))
  refine seg (decide (a1 < 1)) [13, 12] (fun b => [(16, aB (b || (decide (a1 > 50)))), (15, ifA b (.undef) (aB (decide (a1 > 50)))), (14, ifA b (.undef) (aI a1))]) 6 (by kernel_rfl) ?_ ?_ ?_
  ·
   intro Q h
   refine sh 3 [(16, aB true), (15, .undef), (14, .undef)] (by kernel_rfl) ?_
   exact sameN (by kernel_rfl) (by kernel_rfl) h
  ·
   intro Q h
   refine sh 3 [(16, aB (decide (a1 > 50))), (15, aB (decide (a1 > 50))), (14, aI a1)] (by kernel_rfl) ?_
   exact sameN (by kernel_rfl) (by kernel_rfl) h
  refine sh 1 [(17, aB ((decide (a1 < 1)) || (decide (a1 > 50))))] (by kernel_rfl) ?_
  refine seg ((decide (a1 < 1)) || (decide (a1 > 50))) [17, 16] (fun b => [(21, aB (b || (decide (((sll a0).length : Int) > 400)))), (20, ifA b (.undef) (aB (decide (((sll a0).length : Int) > 400)))), (19, ifA b (.undef) (aI ((sll a0).length : Int))), (18, ifA b (.undef) (.pv (encSl R_api_Value a0)))]) 11 (by kernel_rfl) ?_ ?_ ?_
  ·
   intro Q h
   refine sh 4 [(21, aB true), (20, .undef), (19, .undef), (18, .undef)] (by kernel_rfl) ?_
   exact sameN (by kernel_rfl) (by kernel_rfl) h
  ·
   intro Q h
   refine sh 1 [(18, .pv (encSl R_api_Value a0))] (by kernel_rfl) (dv 19 (v := aI ((sll a0).length : Int)) (len_slO R_api_Value a0 t52 (by kernel_rfl)) (by kernel_rfl) (sh 2 [(21, aB (decide (((sll a0).length : Int) > 400))), (20, aB (decide (((sll a0).length : Int) > 400)))] (by kernel_rfl) ?_))
   exact sameN (by kernel_rfl) (by kernel_rfl) h
  refine fin [(0, .pv (encSl R_api_Value a0)), (1, aI a1), (21, aB (((decide (a1 < 1)) || (decide (a1 > 50))) || (decide (((sll a0).length : Int) > 400))))] rfl (by kernel_rfl) ?_
  rcases bif_some hm with ⟨h1, hm⟩ | ⟨h1, hm⟩
  ·
   refine ct h1 (by kernel_rfl) (sq (detn [(4, .pv .nils), (5, aI 2)] (by kernel_rfl) (wp_ret ?_)))
   obtain rfl := Option.some.inj hm
   exact ⟨trivial, by kernel_rfl⟩
  ·
   refine cf h1 (by kernel_rfl) (wp_skip (sq (rg (sh 1 [(23, .pv (encSl R_api_Value a0))] (by kernel_rfl) ?_))))
   obtain ⟨x2, h3, hm⟩ := bs hm
   refine dv 24 (cpure (by kernel_rfl) (ok_hist_sorted h3) (by kernel_rfl) (by kernel_rfl) (by kernel_rfl)) (by kernel_rfl) (sh 5 [(7, aB x2.2), (6, .pv (encSl R_api_Value x2.1)), (26, aB x2.2), (25, .pv (encSl R_api_Value x2.1)), (22, .tup [.pv (encSl R_api_Value x2.1), aB x2.2])] (by kernel_rfl) (fin [(1, aI a1), (6, .pv (encSl R_api_Value x2.1)), (7, aB x2.2)] rfl (by kernel_rfl) ?_))
   refine sq (sq (detn [(1, aI a1), (6, .pv (encSl R_api_Value x2.1)), (28, aB (!x2.2))] (by kernel_rfl) ?_))
   rcases bif_some hm with ⟨h4, hm⟩ | ⟨h4, hm⟩
   ·
    refine ct h4 (by kernel_rfl) (sq (detn [(4, .pv .nils), (5, aI 2)] (by kernel_rfl) (wp_ret ?_)))
    obtain rfl := Option.some.inj hm
    exact ⟨trivial, by kernel_rfl⟩
   ·
    refine cf h4 (by kernel_rfl) (wp_skip (sq (rg (sh 1 [(29, .pv (encSl R_api_Value x2.1))] (by kernel_rfl) (dv 30 (v := aI ((sll x2.1).length : Int)) (len_slO R_api_Value x2.1 t52 (by kernel_rfl)) (by kernel_rfl) (sh 4 [(34, aI a1), (33, aI (IntKind.wrap .i64 ((IntKind.wrap .i64 (((sll x2.1).length : Int) + a1)) - 1))), (32, aI (IntKind.wrap .i64 (((sll x2.1).length : Int) + a1))), (31, aI a1)] (by kernel_rfl) ?_))))))
    obtain ⟨_, h5, hm⟩ := bs hm
    refine dv 35 (v := aI (IntKind.wrap .i64 (Int.tdiv (IntKind.wrap .i64 ((IntKind.wrap .i64 (((sll x2.1).length : Int) + a1)) - 1)) a1))) (quoO h5 (by kernel_rfl)) (by kernel_rfl) (sh 1 [(8, aI (IntKind.wrap .i64 (Int.tdiv (IntKind.wrap .i64 ((IntKind.wrap .i64 (((sll x2.1).length : Int) + a1)) - 1)) a1)))] (by kernel_rfl) (fin [(6, .pv (encSl R_api_Value x2.1)), (8, aI (IntKind.wrap .i64 (Int.tdiv (IntKind.wrap .i64 ((IntKind.wrap .i64 (((sll x2.1).length : Int) + a1)) - 1)) a1)))] rfl (by kernel_rfl) (sq (detn [(6, .pv (encSl R_api_Value x2.1)), (8, aI (IntKind.wrap .i64 (Int.tdiv (IntKind.wrap .i64 ((IntKind.wrap .i64 (((sll x2.1).length : Int) + a1)) - 1)) a1))), (9, .pv .nils)] (by kernel_rfl) ?_))))
    obtain ⟨k9, hk9, hm⟩ := withK_some hm
    refine mid (fun t H => (∃ (w6 : AV) (w7 : AV), k9 none = some r ∧ t = mk 51 [(6, w6), (8, aI (IntKind.wrap .i64 (Int.tdiv (IntKind.wrap .i64 ((IntKind.wrap .i64 (((sll x2.1).length : Int) + a1)) - 1)) a1))), (9, .pv .nils), (38, w7)] ∧ H = []) ∨ (∃ (y8 : (List hist_Bucket)) (w6 : AV) (w7 : AV), k9 (some y8) = some r ∧ t = mk 51 [(6, w6), (8, aI (IntKind.wrap .i64 (Int.tdiv (IntKind.wrap .i64 ((IntKind.wrap .i64 (((sll x2.1).length : Int) + a1)) - 1)) a1))), (9, aR 0 10 y8.length), (38, w7)] ∧ H = [bR 77 10 R_hist_Bucket y8 0 0])) ?_ ?_
    ·
     rintro _ _ (⟨w6, w7, hm, rfl, rfl⟩ | ⟨y8, w6, w7, hm, rfl, rfl⟩)
     ·
      subst hk9
      refine sq (detn [(4, .pv .nils), (5, aI 0)] (by kernel_rfl) (wp_ret ?_))
      obtain rfl := Option.some.inj hm
      exact ⟨trivial, by kernel_rfl⟩
     ·
      subst hk9
      refine sq (detn [(4, aR 0 10 y8.length), (5, aI 0)] (by kernel_rfl) (wp_ret ?_))
      obtain rfl := Option.some.inj hm
      exact ret_pure (v := .tup [aR 0 10 y8.length, aI 0]) trivial rfl (by kernel_rfl) (pR_tup (pAs_cons (pA_ref (pur_ref' (n := y8.length) (id := 0) (l := y8) (R := R_hist_Bucket) rfl rfl (Nat.zero_le _))) (pAs_cons (pA_pv) (rfl))))
    refine bq ?_
    refine loopF (fun mm t H => (∃ (y13 : (Option (List api_Value))), hist_Build_l8 n a1 x2 k9 mm y13 none = some r ∧ t = mk 51 [(6, .pv (encSl R_api_Value y13)), (8, aI (IntKind.wrap .i64 (Int.tdiv (IntKind.wrap .i64 ((IntKind.wrap .i64 (((sll x2.1).length : Int) + a1)) - 1)) a1))), (9, .pv .nils)] ∧ H = []) ∨ (∃ (y13 : (Option (List api_Value))) (y14 : (List hist_Bucket)), hist_Build_l8 n a1 x2 k9 mm y13 (some y14) = some r ∧ t = mk 51 [(6, .pv (encSl R_api_Value y13)), (8, aI (IntKind.wrap .i64 (Int.tdiv (IntKind.wrap .i64 ((IntKind.wrap .i64 (((sll x2.1).length : Int) + a1)) - 1)) a1))), (9, aR 0 10 y14.length)] ∧ H = [bR 77 10 R_hist_Bucket y14 0 0])) (.inl ⟨x2.1, hm, rfl, rfl⟩) ?_ ?_
    · rintro _ _ (⟨y13, hm, _⟩ | ⟨y13, y14, hm, _⟩) <;> exact nomatch hm
    rintro m15 _ _ (⟨y13, hm, rfl, rfl⟩ | ⟨y13, y14, hm, rfl, rfl⟩)
    ·
     simp only [hist_Build_l8] at hm
     refine sq (sq (rg (sh 1 [(36, .pv (encSl R_api_Value y13))] (by kernel_rfl) (dv 37 (v := aI ((sll y13).length : Int)) (len_slO R_api_Value y13 t52 (by kernel_rfl)) (by kernel_rfl) (sh 1 [(38, aB (decide (((sll y13).length : Int) > 0)))] (by kernel_rfl) (fin [(6, .pv (encSl R_api_Value y13)), (8, aI (IntKind.wrap .i64 (Int.tdiv (IntKind.wrap .i64 ((IntKind.wrap .i64 (((sll x2.1).length : Int) + a1)) - 1)) a1))), (9, .pv .nils), (38, aB (decide (((sll y13).length : Int) > 0)))] rfl (by kernel_rfl) ?_))))))
     rcases bif_some hm with ⟨h16, hm⟩ | ⟨h16, hm⟩
     ·
      refine ct h16 (by kernel_rfl) (wp_skip (bq (sq (rg (sh 2 [(40, aI (IntKind.wrap .i64 (Int.tdiv (IntKind.wrap .i64 ((IntKind.wrap .i64 (((sll x2.1).length : Int) + a1)) - 1)) a1))), (39, .pv (encSl R_api_Value y13))] (by kernel_rfl) ?_)))))
      obtain ⟨x17, h18, hm⟩ := bs hm
      refine dv 41 (cpure (by kernel_rfl) (ok_hist_cut h18) (by kernel_rfl) (by kernel_rfl) (by kernel_rfl)) (by kernel_rfl) (st 2 [(10, .ptr 0 0)] [.box [aI x17.fLow.fKind, aI x17.fLow.fInt, aF x17.fLow.fFloat, aS x17.fLow.fText, aI x17.fHigh.fKind, aI x17.fHigh.fInt, aF x17.fHigh.fFloat, aS x17.fHigh.fText, aI x17.fCount, aI x17.fDistinct] false] (by kernel_rfl) (fin [(6, .pv (encSl R_api_Value y13)), (8, aI (IntKind.wrap .i64 (Int.tdiv (IntKind.wrap .i64 ((IntKind.wrap .i64 (((sll x2.1).length : Int) + a1)) - 1)) a1))), (9, .pv .nils), (10, .ptr 0 0)] rfl (by kernel_rfl) (sq (rg (st 3 [(44, aR 1 10 1), (43, .agg [aI x17.fLow.fKind, aI x17.fLow.fInt, aF x17.fLow.fFloat, aS x17.fLow.fText, aI x17.fHigh.fKind, aI x17.fHigh.fInt, aF x17.fHigh.fFloat, aS x17.fHigh.fText, aI x17.fCount, aI x17.fDistinct]), (42, .pv .nils)] [.box [aI x17.fLow.fKind, aI x17.fLow.fInt, aF x17.fLow.fFloat, aS x17.fLow.fText, aI x17.fHigh.fKind, aI x17.fHigh.fInt, aF x17.fHigh.fFloat, aS x17.fHigh.fText, aI x17.fCount, aI x17.fDistinct] false, bR 77 10 R_hist_Bucket ([x17] : List hist_Bucket) 0 0] (by kernel_rfl) ?_)))))
      obtain ⟨_, h19, hm⟩ := bs hm
      refine dO [(45, aR 2 10 (([x17] : List hist_Bucket).length))] [.box [aI x17.fLow.fKind, aI x17.fLow.fInt, aF x17.fLow.fFloat, aS x17.fLow.fText, aI x17.fHigh.fKind, aI x17.fHigh.fInt, aF x17.fHigh.fFloat, aS x17.fHigh.fText, aI x17.fCount, aI x17.fDistinct] false, bR 77 10 R_hist_Bucket ([x17] : List hist_Bucket) 0 0, bR 77 10 R_hist_Bucket ([x17] : List hist_Bucket) 0 0] (app_nilO (u := 0) R_hist_Bucket ([x17] : List hist_Bucket) (b := 96) t53 t77 rfl rfl rfl (fun _ => rfl) rfl h19 (show srcRows (aR 1 10 1) _ = some (([x17] : List hist_Bucket).map R_hist_Bucket) from by kernel_rfl) (by kernel_rfl)) (by kernel_rfl) (sh 1 [(9, aR 2 10 (([x17] : List hist_Bucket).length))] (by kernel_rfl) (fin [(6, .pv (encSl R_api_Value y13)), (8, aI (IntKind.wrap .i64 (Int.tdiv (IntKind.wrap .i64 ((IntKind.wrap .i64 (((sll x2.1).length : Int) + a1)) - 1)) a1))), (9, aR 2 10 (([x17] : List hist_Bucket).length)), (10, .ptr 0 0)] rfl (by kernel_rfl) (rg (sh 3 [(48, aI x17.fCount), (47, .ptr 0 8), (46, .pv (encSl R_api_Value y13))] (by kernel_rfl) ?_))))
      obtain ⟨_, h20, hm⟩ := bs hm
      refine dv 49 (v := .pv (encSl R_api_Value (subSl y13 x17.fCount ((sll y13).length : Int)))) (slice_slO R_api_Value y13 (k := .i64) (k' := .i64) (xl := some (aI x17.fCount)) (xh := none) (esz := 4) h20 (fun _ => rfl) (.inr rfl) (.inl ⟨rfl, rfl⟩) (by kernel_rfl)) (by kernel_rfl) (sh 1 [(6, .pv (encSl R_api_Value (subSl y13 x17.fCount ((sll y13).length : Int))))] (by kernel_rfl) (fin [(6, .pv (encSl R_api_Value (subSl y13 x17.fCount ((sll y13).length : Int)))), (8, aI (IntKind.wrap .i64 (Int.tdiv (IntKind.wrap .i64 ((IntKind.wrap .i64 (((sll x2.1).length : Int) + a1)) - 1)) a1))), (9, aR 2 10 (([x17] : List hist_Bucket).length))] rfl (by kernel_rfl) ?_))
      exact ⟨_, _, tidyL [(6, .pv (encSl R_api_Value (subSl y13 x17.fCount ((sll y13).length : Int)))), (8, aI (IntKind.wrap .i64 (Int.tdiv (IntKind.wrap .i64 ((IntKind.wrap .i64 (((sll x2.1).length : Int) + a1)) - 1)) a1))), (9, aR 0 10 (([x17] : List hist_Bucket).length))] [bR 77 10 R_hist_Bucket ([x17] : List hist_Bucket) 0 0] (by kernel_rfl), .inr (⟨(subSl y13 x17.fCount ((sll y13).length : Int)), ([x17] : List hist_Bucket), hm, rfl, rfl⟩)⟩
     ·
      refine cf h16 (by kernel_rfl) (wp_exit ?_)
      exact .inl ⟨.pv (encSl R_api_Value y13), aB (decide (((sll y13).length : Int) > 0)), hm, (mk_same (by kernel_rfl)), rfl⟩
    ·
     simp only [hist_Build_l8] at hm
     refine sq (sq (rg (sh 1 [(36, .pv (encSl R_api_Value y13))] (by kernel_rfl) (dv 37 (v := aI ((sll y13).length : Int)) (len_slO R_api_Value y13 t52 (by kernel_rfl)) (by kernel_rfl) (sh 1 [(38, aB (decide (((sll y13).length : Int) > 0)))] (by kernel_rfl) (fin [(6, .pv (encSl R_api_Value y13)), (8, aI (IntKind.wrap .i64 (Int.tdiv (IntKind.wrap .i64 ((IntKind.wrap .i64 (((sll x2.1).length : Int) + a1)) - 1)) a1))), (9, aR 0 10 y14.length), (38, aB (decide (((sll y13).length : Int) > 0)))] rfl (by kernel_rfl) ?_))))))
     rcases bif_some hm with ⟨h21, hm⟩ | ⟨h21, hm⟩
     ·
      refine ct h21 (by kernel_rfl) (wp_skip (bq (sq (rg (sh 2 [(40, aI (IntKind.wrap .i64 (Int.tdiv (IntKind.wrap .i64 ((IntKind.wrap .i64 (((sll x2.1).length : Int) + a1)) - 1)) a1))), (39, .pv (encSl R_api_Value y13))] (by kernel_rfl) ?_)))))
      obtain ⟨x22, h23, hm⟩ := bs hm
      refine dv 41 (cpure (by kernel_rfl) (ok_hist_cut h23) (by kernel_rfl) (by kernel_rfl) (by kernel_rfl)) (by kernel_rfl) (st 2 [(10, .ptr 1 0)] [bR 77 10 R_hist_Bucket y14 0 0, .box [aI x22.fLow.fKind, aI x22.fLow.fInt, aF x22.fLow.fFloat, aS x22.fLow.fText, aI x22.fHigh.fKind, aI x22.fHigh.fInt, aF x22.fHigh.fFloat, aS x22.fHigh.fText, aI x22.fCount, aI x22.fDistinct] false] (by kernel_rfl) (fin [(6, .pv (encSl R_api_Value y13)), (8, aI (IntKind.wrap .i64 (Int.tdiv (IntKind.wrap .i64 ((IntKind.wrap .i64 (((sll x2.1).length : Int) + a1)) - 1)) a1))), (9, aR 0 10 y14.length), (10, .ptr 1 0)] rfl (by kernel_rfl) (sq (rg (st 3 [(44, aR 2 10 1), (43, .agg [aI x22.fLow.fKind, aI x22.fLow.fInt, aF x22.fLow.fFloat, aS x22.fLow.fText, aI x22.fHigh.fKind, aI x22.fHigh.fInt, aF x22.fHigh.fFloat, aS x22.fHigh.fText, aI x22.fCount, aI x22.fDistinct]), (42, aR 0 10 y14.length)] [bR 77 10 R_hist_Bucket y14 0 0, .box [aI x22.fLow.fKind, aI x22.fLow.fInt, aF x22.fLow.fFloat, aS x22.fLow.fText, aI x22.fHigh.fKind, aI x22.fHigh.fInt, aF x22.fHigh.fFloat, aS x22.fHigh.fText, aI x22.fCount, aI x22.fDistinct] false, bR 77 10 R_hist_Bucket ([x22] : List hist_Bucket) 0 0] (by kernel_rfl) ?_)))))
      obtain ⟨_, h24, hm⟩ := bs hm
      refine dO [(45, aR 0 10 ((y14 ++ ([x22] : List hist_Bucket)).length))] [bR 77 10 R_hist_Bucket (y14 ++ ([x22] : List hist_Bucket)) 0 0, .box [aI x22.fLow.fKind, aI x22.fLow.fInt, aF x22.fLow.fFloat, aS x22.fLow.fText, aI x22.fHigh.fKind, aI x22.fHigh.fInt, aF x22.fHigh.fFloat, aS x22.fHigh.fText, aI x22.fCount, aI x22.fDistinct] false, bR 77 10 R_hist_Bucket ([x22] : List hist_Bucket) 0 0] (app_refO (u := 0) (n := y14.length) (id := 0) R_hist_Bucket y14 ([x22] : List hist_Bucket) (b := 96) t53 t77 rfl rfl rfl (fun _ => rfl) rfl h24 rfl rfl (Nat.zero_le _) (show srcRows (aR 2 10 1) _ = some (([x22] : List hist_Bucket).map R_hist_Bucket) from by kernel_rfl) (by kernel_rfl)) (by kernel_rfl) (sh 1 [(9, aR 0 10 ((y14 ++ ([x22] : List hist_Bucket)).length))] (by kernel_rfl) (fin [(6, .pv (encSl R_api_Value y13)), (8, aI (IntKind.wrap .i64 (Int.tdiv (IntKind.wrap .i64 ((IntKind.wrap .i64 (((sll x2.1).length : Int) + a1)) - 1)) a1))), (9, aR 0 10 ((y14 ++ ([x22] : List hist_Bucket)).length)), (10, .ptr 1 0)] rfl (by kernel_rfl) (rg (sh 3 [(48, aI x22.fCount), (47, .ptr 1 8), (46, .pv (encSl R_api_Value y13))] (by kernel_rfl) ?_))))
      obtain ⟨_, h25, hm⟩ := bs hm
      refine dv 49 (v := .pv (encSl R_api_Value (subSl y13 x22.fCount ((sll y13).length : Int)))) (slice_slO R_api_Value y13 (k := .i64) (k' := .i64) (xl := some (aI x22.fCount)) (xh := none) (esz := 4) h25 (fun _ => rfl) (.inr rfl) (.inl ⟨rfl, rfl⟩) (by kernel_rfl)) (by kernel_rfl) (sh 1 [(6, .pv (encSl R_api_Value (subSl y13 x22.fCount ((sll y13).length : Int))))] (by kernel_rfl) (fin [(6, .pv (encSl R_api_Value (subSl y13 x22.fCount ((sll y13).length : Int)))), (8, aI (IntKind.wrap .i64 (Int.tdiv (IntKind.wrap .i64 ((IntKind.wrap .i64 (((sll x2.1).length : Int) + a1)) - 1)) a1))), (9, aR 0 10 ((y14 ++ ([x22] : List hist_Bucket)).length))] rfl (by kernel_rfl) ?_))
      exact ⟨_, _, tidyL [(6, .pv (encSl R_api_Value (subSl y13 x22.fCount ((sll y13).length : Int)))), (8, aI (IntKind.wrap .i64 (Int.tdiv (IntKind.wrap .i64 ((IntKind.wrap .i64 (((sll x2.1).length : Int) + a1)) - 1)) a1))), (9, aR 0 10 ((y14 ++ ([x22] : List hist_Bucket)).length))] [bR 77 10 R_hist_Bucket (y14 ++ ([x22] : List hist_Bucket)) 0 0] (by kernel_rfl), .inr (⟨(subSl y13 x22.fCount ((sll y13).length : Int)), (y14 ++ ([x22] : List hist_Bucket)), hm, rfl, rfl⟩)⟩
     ·
      refine cf h21 (by kernel_rfl) (wp_exit ?_)
      exact .inr (⟨y14, .pv (encSl R_api_Value y13), aB (decide (((sll y13).length : Int) > 0)), hm, (mk_same (by kernel_rfl)), rfl⟩)
theorem ok_ref04_zero {n : Nat} {a0 : Nat} {r : Bool} (hm : ref04_zero n a0 = some r) :
    call G n 102 [aF a0] [] = some (.ret (aB r), []) := by
  unfold ref04_zero at hm
  obtain ⟨n, rfl, h0⟩ := at1_some hm
  replace hm := h0; clear h0
  refine callL 10 [(0, aF a0)] func102 rfl (by kernel_rfl) (sq (detn [(0, aF a0)] (by kernel_rfl) (sq (rg (sh 3 [(5, aB ((FloatKind.format .f64).order a0 0 == some .eq)), (4, aB ((FloatKind.format .f64).order a0 0 == some .eq)), (3, aF a0)] (by kernel_rfl) ?_)))))
  rcases bif_some hm with ⟨h1, hm⟩ | ⟨h1, hm⟩
  ·
   refine known [5, 4] h1 (by kernel_rfl) (sh 1 [(6, aF a0)] (by kernel_rfl) ?_)
   obtain ⟨x2, h3, hm⟩ := bs hm
   refine dv 7 (v := aF x2) (flt_arith h3 (by kernel_rfl)) (by kernel_rfl) (sh 3 [(2, aB ((FloatKind.format .f64).order x2 0 == some .gt)), (9, aB ((FloatKind.format .f64).order x2 0 == some .gt)), (8, aB ((FloatKind.format .f64).order x2 0 == some .gt))] (by kernel_rfl) (fin [(2, aB ((FloatKind.format .f64).order x2 0 == some .gt))] rfl (by kernel_rfl) (wp_ret ?_)))
   obtain rfl := Option.some.inj hm
   exact ⟨trivial, by kernel_rfl⟩
  ·
   refine known [5, 4] h1 (by kernel_rfl) (sh 5 [(2, aB false), (9, aB false), (8, .undef), (7, .undef), (6, .undef)] (by kernel_rfl) (fin [(2, aB false)] rfl (by kernel_rfl) (wp_ret ?_)))
   obtain rfl := Option.some.inj hm
   exact ⟨trivial, by kernel_rfl⟩
theorem ok_ref04_Right {n : Nat} {a0 : api_Value} {r : Bool} (hm : ref04_Right n a0 = some r) :
    call G n 64 [.agg [aI a0.fKind, aI a0.fInt, aF a0.fFloat, aS a0.fText]] [] = some (.ret (aB r), []) := by
  unfold ref04_Right at hm
  obtain ⟨n, rfl, h0⟩ := at1_some hm
  replace hm := h0; clear h0
  refine callL 76 [(0, .agg [aI a0.fKind, aI a0.fInt, aF a0.fFloat, aS a0.fText])] func64 rfl (by kernel_rfl) (sq (det [(1, .ptr 0 0)] [.box [aI a0.fKind, aI a0.fInt, aF a0.fFloat, aS a0.fText] false] (by kernel_rfl) (sq (sq (detn [(1, .ptr 0 0), (4, aI a0.fKind)] (by kernel_rfl) (bq (sq (detn [(1, .ptr 0 0), (4, aI a0.fKind), (5, aB (a0.fKind == 0))] (by kernel_rfl) ?_))))))))
  rcases bif_some hm with ⟨h1, hm⟩ | ⟨h1, hm⟩
  ·
   refine ct h1 (by kernel_rfl) (sq (rg (sh 4 [(10, aB (a0.fInt == 0)), (9, aB (a0.fInt == 0)), (8, aI a0.fInt), (7, .ptr 0 1)] (by kernel_rfl) ?_)))
   rcases bif_some hm with ⟨h2, hm⟩ | ⟨h2, hm⟩
   ·
    refine known [10, 9] h2 (by kernel_rfl) (sh 2 [(12, aF a0.fFloat), (11, .ptr 0 2)] (by kernel_rfl) ?_)
    obtain ⟨x3, h4, hm⟩ := bs hm
    refine dv 13 (cpure (by kernel_rfl) (ok_ref04_zero h4) (by kernel_rfl) (by kernel_rfl) (by kernel_rfl)) (by kernel_rfl) (sh 2 [(15, aB x3), (14, aB x3)] (by kernel_rfl) ?_)
    refine seg x3 [15, 14, 13] (fun b => [(19, aB (b && (sEq a0.fText ByteArray.empty))), (18, ifA b (aB (sEq a0.fText ByteArray.empty)) (.undef)), (17, ifA b (aS a0.fText) (.undef)), (16, ifA b (.ptr 0 3) (.undef))]) 13 (by kernel_rfl) ?_ ?_ ?_
    ·
     intro Q h
     refine sh 4 [(19, aB (sEq a0.fText ByteArray.empty)), (18, aB (sEq a0.fText ByteArray.empty)), (17, aS a0.fText), (16, .ptr 0 3)] (by kernel_rfl) ?_
     exact sameN (by kernel_rfl) (by kernel_rfl) h
    ·
     intro Q h
     refine sh 4 [(19, aB false), (18, .undef), (17, .undef), (16, .undef)] (by kernel_rfl) ?_
     exact sameN (by kernel_rfl) (by kernel_rfl) h
    refine sh 1 [(2, aB (x3 && (sEq a0.fText ByteArray.empty)))] (by kernel_rfl) (fin [(2, aB (x3 && (sEq a0.fText ByteArray.empty)))] rfl (by kernel_rfl) (wp_ret ?_))
    obtain rfl := Option.some.inj hm
    exact ⟨trivial, by kernel_rfl⟩
   ·
    refine known [10, 9] h2 (by kernel_rfl) (sh 10 [(2, aB false), (19, aB false), (18, .undef), (17, .undef), (16, .undef), (15, aB false), (14, aB false), (13, .undef), (12, .undef), (11, .undef)] (by kernel_rfl) (fin [(2, aB false)] rfl (by kernel_rfl) (wp_ret ?_)))
    obtain rfl := Option.some.inj hm
    exact ⟨trivial, by kernel_rfl⟩
  ·
   refine cf h1 (by kernel_rfl) (sq (detn [(1, .ptr 0 0), (4, aI a0.fKind), (20, aB (a0.fKind == 1))] (by kernel_rfl) ?_))
   rcases bif_some hm with ⟨h5, hm⟩ | ⟨h5, hm⟩
   ·
    refine ct h5 (by kernel_rfl) (sq (rg (sh 4 [(25, aB (a0.fInt == 0)), (24, aB (a0.fInt == 0)), (23, aI a0.fInt), (22, .ptr 0 1)] (by kernel_rfl) ?_)))
    refine seg (a0.fInt == 0) [25, 24] (fun b => [(29, aB (b || (a0.fInt == 1))), (28, ifA b (.undef) (aB (a0.fInt == 1))), (27, ifA b (.undef) (aI a0.fInt)), (26, ifA b (.undef) (.ptr 0 1))]) 8 (by kernel_rfl) ?_ ?_ ?_
    ·
     intro Q h
     refine sh 4 [(29, aB true), (28, .undef), (27, .undef), (26, .undef)] (by kernel_rfl) ?_
     exact sameN (by kernel_rfl) (by kernel_rfl) h
    ·
     intro Q h
     refine sh 4 [(29, aB (a0.fInt == 1)), (28, aB (a0.fInt == 1)), (27, aI a0.fInt), (26, .ptr 0 1)] (by kernel_rfl) ?_
     exact sameN (by kernel_rfl) (by kernel_rfl) h
    refine sh 1 [(30, aB ((a0.fInt == 0) || (a0.fInt == 1)))] (by kernel_rfl) ?_
    rcases bif_some hm with ⟨h6, hm⟩ | ⟨h6, hm⟩
    ·
     refine known [30, 29] h6 (by kernel_rfl) (sh 2 [(32, aF a0.fFloat), (31, .ptr 0 2)] (by kernel_rfl) ?_)
     obtain ⟨x7, h8, hm⟩ := bs hm
     refine dv 33 (cpure (by kernel_rfl) (ok_ref04_zero h8) (by kernel_rfl) (by kernel_rfl) (by kernel_rfl)) (by kernel_rfl) (sh 2 [(35, aB x7), (34, aB x7)] (by kernel_rfl) ?_)
     refine seg x7 [35, 34, 33] (fun b => [(39, aB (b && (sEq a0.fText ByteArray.empty))), (38, ifA b (aB (sEq a0.fText ByteArray.empty)) (.undef)), (37, ifA b (aS a0.fText) (.undef)), (36, ifA b (.ptr 0 3) (.undef))]) 18 (by kernel_rfl) ?_ ?_ ?_
     ·
      intro Q h
      refine sh 4 [(39, aB (sEq a0.fText ByteArray.empty)), (38, aB (sEq a0.fText ByteArray.empty)), (37, aS a0.fText), (36, .ptr 0 3)] (by kernel_rfl) ?_
      exact sameN (by kernel_rfl) (by kernel_rfl) h
     ·
      intro Q h
      refine sh 4 [(39, aB false), (38, .undef), (37, .undef), (36, .undef)] (by kernel_rfl) ?_
      exact sameN (by kernel_rfl) (by kernel_rfl) h
     refine sh 1 [(2, aB (x7 && (sEq a0.fText ByteArray.empty)))] (by kernel_rfl) (fin [(2, aB (x7 && (sEq a0.fText ByteArray.empty)))] rfl (by kernel_rfl) (wp_ret ?_))
     obtain rfl := Option.some.inj hm
     exact ⟨trivial, by kernel_rfl⟩
    ·
     refine known [30, 29] h6 (by kernel_rfl) (sh 10 [(2, aB false), (39, aB false), (38, .undef), (37, .undef), (36, .undef), (35, aB false), (34, aB false), (33, .undef), (32, .undef), (31, .undef)] (by kernel_rfl) (fin [(2, aB false)] rfl (by kernel_rfl) (wp_ret ?_)))
     obtain rfl := Option.some.inj hm
     exact ⟨trivial, by kernel_rfl⟩
   ·
    refine cf h5 (by kernel_rfl) (sq (detn [(1, .ptr 0 0), (4, aI a0.fKind), (40, aB (a0.fKind == 2))] (by kernel_rfl) ?_))
    rcases bif_some hm with ⟨h9, hm⟩ | ⟨h9, hm⟩
    ·
     refine ct h9 (by kernel_rfl) (sq (rg (sh 2 [(43, aF a0.fFloat), (42, .ptr 0 2)] (by kernel_rfl) ?_)))
     obtain ⟨x10, h11, hm⟩ := bs hm
     refine dv 44 (cpure (by kernel_rfl) (ok_ref04_zero h11) (by kernel_rfl) (by kernel_rfl) (by kernel_rfl)) (by kernel_rfl) (sh 1 [(45, aB x10)] (by kernel_rfl) ?_)
     refine seg x10 [45, 44] (fun b => [(49, aB (b && (sEq a0.fText ByteArray.empty))), (48, ifA b (aB (sEq a0.fText ByteArray.empty)) (.undef)), (47, ifA b (aS a0.fText) (.undef)), (46, ifA b (.ptr 0 3) (.undef))]) 8 (by kernel_rfl) ?_ ?_ ?_
     ·
      intro Q h
      refine sh 4 [(49, aB (sEq a0.fText ByteArray.empty)), (48, aB (sEq a0.fText ByteArray.empty)), (47, aS a0.fText), (46, .ptr 0 3)] (by kernel_rfl) ?_
      exact sameN (by kernel_rfl) (by kernel_rfl) h
     ·
      intro Q h
      refine sh 4 [(49, aB false), (48, .undef), (47, .undef), (46, .undef)] (by kernel_rfl) ?_
      exact sameN (by kernel_rfl) (by kernel_rfl) h
     refine sh 1 [(2, aB (x10 && (sEq a0.fText ByteArray.empty)))] (by kernel_rfl) (fin [(2, aB (x10 && (sEq a0.fText ByteArray.empty)))] rfl (by kernel_rfl) (wp_ret ?_))
     obtain rfl := Option.some.inj hm
     exact ⟨trivial, by kernel_rfl⟩
    ·
     refine cf h9 (by kernel_rfl) (sq (detn [(1, .ptr 0 0), (4, aI a0.fKind), (50, aB (a0.fKind == 3))] (by kernel_rfl) ?_))
     rcases bif_some hm with ⟨h12, hm⟩ | ⟨h12, hm⟩
     ·
      refine ct h12 (by kernel_rfl) (sq (rg (sh 4 [(55, aB (a0.fInt == 0)), (54, aB (a0.fInt == 0)), (53, aI a0.fInt), (52, .ptr 0 1)] (by kernel_rfl) ?_)))
      refine seg (a0.fInt == 0) [55, 54] (fun b => [(59, aB (b && (sEq a0.fText ByteArray.empty))), (58, ifA b (aB (sEq a0.fText ByteArray.empty)) (.undef)), (57, ifA b (aS a0.fText) (.undef)), (56, ifA b (.ptr 0 3) (.undef))]) 8 (by kernel_rfl) ?_ ?_ ?_
      ·
       intro Q h
       refine sh 4 [(59, aB (sEq a0.fText ByteArray.empty)), (58, aB (sEq a0.fText ByteArray.empty)), (57, aS a0.fText), (56, .ptr 0 3)] (by kernel_rfl) ?_
       exact sameN (by kernel_rfl) (by kernel_rfl) h
      ·
       intro Q h
       refine sh 4 [(59, aB false), (58, .undef), (57, .undef), (56, .undef)] (by kernel_rfl) ?_
       exact sameN (by kernel_rfl) (by kernel_rfl) h
      refine sh 1 [(2, aB ((a0.fInt == 0) && (sEq a0.fText ByteArray.empty)))] (by kernel_rfl) (fin [(2, aB ((a0.fInt == 0) && (sEq a0.fText ByteArray.empty)))] rfl (by kernel_rfl) (wp_ret ?_))
      obtain rfl := Option.some.inj hm
      exact ⟨trivial, by kernel_rfl⟩
     ·
      refine cf h12 (by kernel_rfl) (sq (detn [(1, .ptr 0 0), (60, aB (a0.fKind == 4))] (by kernel_rfl) ?_))
      rcases bif_some hm with ⟨h13, hm⟩ | ⟨h13, hm⟩
      ·
       refine ct h13 (by kernel_rfl) (sq (rg (sh 4 [(65, aB (a0.fInt == 0)), (64, aB (a0.fInt == 0)), (63, aI a0.fInt), (62, .ptr 0 1)] (by kernel_rfl) ?_)))
       rcases bif_some hm with ⟨h14, hm⟩ | ⟨h14, hm⟩
       ·
        refine known [65, 64] h14 (by kernel_rfl) (sh 2 [(67, aF a0.fFloat), (66, .ptr 0 2)] (by kernel_rfl) ?_)
        obtain ⟨x15, h16, hm⟩ := bs hm
        refine dv 68 (cpure (by kernel_rfl) (ok_ref04_zero h16) (by kernel_rfl) (by kernel_rfl) (by kernel_rfl)) (by kernel_rfl) (sh 2 [(70, aB x15), (69, aB x15)] (by kernel_rfl) ?_)
        refine seg x15 [70, 69, 68] (fun b => [(75, aB (b && (decide ((a0.fText.size : Int) ≤ 64)))), (74, ifA b (aB (decide ((a0.fText.size : Int) ≤ 64))) (.undef)), (73, ifA b (aI (a0.fText.size : Int)) (.undef)), (72, ifA b (aS a0.fText) (.undef)), (71, ifA b (.ptr 0 3) (.undef))]) 14 (by kernel_rfl) ?_ ?_ ?_
        ·
         intro Q h
         refine sh 5 [(75, aB (decide ((a0.fText.size : Int) ≤ 64))), (74, aB (decide ((a0.fText.size : Int) ≤ 64))), (73, aI (a0.fText.size : Int)), (72, aS a0.fText), (71, .ptr 0 3)] (by kernel_rfl) ?_
         exact sameN (by kernel_rfl) (by kernel_rfl) h
        ·
         intro Q h
         refine sh 5 [(75, aB false), (74, .undef), (73, .undef), (72, .undef), (71, .undef)] (by kernel_rfl) ?_
         exact sameN (by kernel_rfl) (by kernel_rfl) h
        refine sh 1 [(2, aB (x15 && (decide ((a0.fText.size : Int) ≤ 64))))] (by kernel_rfl) (fin [(2, aB (x15 && (decide ((a0.fText.size : Int) ≤ 64))))] rfl (by kernel_rfl) (wp_ret ?_))
        obtain rfl := Option.some.inj hm
        exact ⟨trivial, by kernel_rfl⟩
       ·
        refine known [65, 64] h14 (by kernel_rfl) (sh 11 [(2, aB false), (75, aB false), (74, .undef), (73, .undef), (72, .undef), (71, .undef), (70, aB false), (69, aB false), (68, .undef), (67, .undef), (66, .undef)] (by kernel_rfl) (fin [(2, aB false)] rfl (by kernel_rfl) (wp_ret ?_)))
        obtain rfl := Option.some.inj hm
        exact ⟨trivial, by kernel_rfl⟩
      ·
       refine cf h13 (by kernel_rfl) (wp_skip (sq (detn [(2, aB false)] (by kernel_rfl) (wp_ret ?_))))
       obtain rfl := Option.some.inj hm
       exact ⟨trivial, by kernel_rfl⟩
theorem ok_ref04_Plain {n : Nat} {a0 : api_Value} {r : api_Value} (hm : ref04_Plain n a0 = some r) :
    call G n 93 [.agg [aI a0.fKind, aI a0.fInt, aF a0.fFloat, aS a0.fText]] [] = some (.ret (.agg [aI r.fKind, aI r.fInt, aF r.fFloat, aS r.fText]), []) := by
  unfold ref04_Plain at hm
  obtain ⟨n, rfl, h0⟩ := at1_some hm
  replace hm := h0; clear h0
  refine callL 17 [(0, .agg [aI a0.fKind, aI a0.fInt, aF a0.fFloat, aS a0.fText])] func93 rfl (by kernel_rfl) (sq (det [(1, .ptr 0 0), (2, .ptr 1 0)] [.box [aI a0.fKind, aI a0.fInt, aF a0.fFloat, aS a0.fText] false, .box [aI 0, aI 0, aF 0, aS ByteArray.empty] false] (by kernel_rfl) ?_))
  refine sq (sq (rg (sh 1 [(3, .agg [aI a0.fKind, aI a0.fInt, aF a0.fFloat, aS a0.fText])] (by kernel_rfl) ?_)))
  obtain ⟨x1, h2, hm⟩ := bs hm
  refine dv 4 (cpure (by kernel_rfl) (ok_ref04_Right h2) (by kernel_rfl) (by kernel_rfl) (by kernel_rfl)) (by kernel_rfl) (sh 1 [(5, aB (!x1))] (by kernel_rfl) (fin [(1, .ptr 0 0), (2, .ptr 1 0), (5, aB (!x1))] rfl (by kernel_rfl) ?_))
  rcases bif_some hm with ⟨h3, hm⟩ | ⟨h3, hm⟩
  ·
   refine ct h3 (by kernel_rfl) (sq (detn [(2, .ptr 1 0)] (by kernel_rfl) (wp_ret ?_)))
   obtain rfl := Option.some.inj hm
   exact ⟨trivial, by kernel_rfl⟩
  ·
   refine cf h3 (by kernel_rfl) (wp_skip (sq (sq (rg (sh 4 [(10, aB (a0.fKind == 3)), (9, aB (a0.fKind == 3)), (8, aI a0.fKind), (7, .ptr 0 0)] (by kernel_rfl) ?_)))))
   refine seg (a0.fKind == 3) [10, 9] (fun b => [(14, aB (b && ((FloatKind.format .f64).order a0.fFloat 0 == some .eq))), (13, ifA b (aB ((FloatKind.format .f64).order a0.fFloat 0 == some .eq)) (.undef)), (12, ifA b (aF a0.fFloat) (.undef)), (11, ifA b (.ptr 0 2) (.undef))]) 8 (by kernel_rfl) ?_ ?_ ?_
   ·
    intro Q h
    refine sh 4 [(14, aB ((FloatKind.format .f64).order a0.fFloat 0 == some .eq)), (13, aB ((FloatKind.format .f64).order a0.fFloat 0 == some .eq)), (12, aF a0.fFloat), (11, .ptr 0 2)] (by kernel_rfl) ?_
    exact sameN (by kernel_rfl) (by kernel_rfl) h
   ·
    intro Q h
    refine sh 4 [(14, aB false), (13, .undef), (12, .undef), (11, .undef)] (by kernel_rfl) ?_
    exact sameN (by kernel_rfl) (by kernel_rfl) h
   refine fin [(1, .ptr 0 0), (2, .ptr 1 0), (14, aB ((a0.fKind == 3) && ((FloatKind.format .f64).order a0.fFloat 0 == some .eq)))] rfl (by kernel_rfl) ?_
   rcases bif_some hm with ⟨h4, hm⟩ | ⟨h4, hm⟩
   ·
    refine ct h4 (by kernel_rfl) (sq (det [(2, .ptr 1 0)] [.box [aI a0.fKind, aI a0.fInt, aF a0.fFloat, aS a0.fText] false, .box [aI 3, aI 0, aF 0, aS ByteArray.empty] false] (by kernel_rfl) (wp_ret ?_)))
    obtain rfl := Option.some.inj hm
    exact ⟨trivial, by kernel_rfl⟩
   ·
    refine cf h4 (by kernel_rfl) (wp_skip (sq (det [(2, .ptr 1 0)] [.box [aI a0.fKind, aI a0.fInt, aF a0.fFloat, aS a0.fText] false, .box [aI a0.fKind, aI a0.fInt, aF a0.fFloat, aS a0.fText] false] (by kernel_rfl) (wp_ret ?_))))
    obtain rfl := Option.some.inj hm
    exact ⟨trivial, by kernel_rfl⟩
theorem ok_ref04_Cmp {n : Nat} {a0 : api_Value} {a1 : api_Value} {r : Int} (hm : ref04_Cmp n a0 a1 = some r) :
    call G n 54 [.agg [aI a0.fKind, aI a0.fInt, aF a0.fFloat, aS a0.fText], .agg [aI a1.fKind, aI a1.fInt, aF a1.fFloat, aS a1.fText]] [] = some (.ret (aI r), []) := by
  unfold ref04_Cmp at hm
  obtain ⟨n, rfl, h0⟩ := at1_some hm
  replace hm := h0; clear h0
  refine callL 85 [(0, .agg [aI a0.fKind, aI a0.fInt, aF a0.fFloat, aS a0.fText]), (1, .agg [aI a1.fKind, aI a1.fInt, aF a1.fFloat, aS a1.fText])] func54 rfl (by kernel_rfl) (sq (det [(2, .ptr 0 0), (3, .ptr 1 0)] [.box [aI a0.fKind, aI a0.fInt, aF a0.fFloat, aS a0.fText] false, .box [aI a1.fKind, aI a1.fInt, aF a1.fFloat, aS a1.fText] false] (by kernel_rfl) (sq (rg (sh 1 [(9, .agg [aI a0.fKind, aI a0.fInt, aF a0.fFloat, aS a0.fText])] (by kernel_rfl) ?_)))))
  obtain ⟨x1, h2, hm⟩ := bs hm
  refine dv 10 (cpure (by kernel_rfl) (ok_ref04_Plain h2) (by kernel_rfl) (by kernel_rfl) (by kernel_rfl)) (by kernel_rfl) (st 1 [] [.box [aI x1.fKind, aI x1.fInt, aF x1.fFloat, aS x1.fText] false, .box [aI a1.fKind, aI a1.fInt, aF a1.fFloat, aS a1.fText] false] (by kernel_rfl) (fin [(2, .ptr 0 0), (3, .ptr 1 0)] rfl (by kernel_rfl) (sq (rg (sh 1 [(11, .agg [aI a1.fKind, aI a1.fInt, aF a1.fFloat, aS a1.fText])] (by kernel_rfl) ?_)))))
  obtain ⟨x3, h4, hm⟩ := bs hm
  refine dv 12 (cpure (by kernel_rfl) (ok_ref04_Plain h4) (by kernel_rfl) (by kernel_rfl) (by kernel_rfl)) (by kernel_rfl) (st 1 [] [.box [aI x1.fKind, aI x1.fInt, aF x1.fFloat, aS x1.fText] false, .box [aI x3.fKind, aI x3.fInt, aF x3.fFloat, aS x3.fText] false] (by kernel_rfl) (fin [(2, .ptr 0 0), (3, .ptr 1 0)] rfl (by kernel_rfl) ?_))
  refine sq (sq (detn [(2, .ptr 0 0), (3, .ptr 1 0), (17, aB (x1.fKind != x3.fKind))] (by kernel_rfl) ?_))
  rcases bif_some hm with ⟨h5, hm⟩ | ⟨h5, hm⟩
  ·
   refine ct h5 (by kernel_rfl) (sq (sq (detn [(22, aB (decide (x1.fKind < x3.fKind)))] (by kernel_rfl) ?_)))
   rcases bif_some hm with ⟨h6, hm⟩ | ⟨h6, hm⟩
   ·
    refine ct h6 (by kernel_rfl) (sq (detn [(4, aI (-1))] (by kernel_rfl) (wp_ret ?_)))
    obtain rfl := Option.some.inj hm
    exact ⟨trivial, by kernel_rfl⟩
   ·
    refine cf h6 (by kernel_rfl) (wp_skip (sq (detn [(4, aI 1)] (by kernel_rfl) (wp_ret ?_))))
    obtain rfl := Option.some.inj hm
    exact ⟨trivial, by kernel_rfl⟩
  ·
   refine cf h5 (by kernel_rfl) (wp_skip (sq (detn [(2, .ptr 0 0), (3, .ptr 1 0), (5, aB (decide (x1.fInt < x3.fInt)))] (by kernel_rfl) (sq (detn [(2, .ptr 0 0), (3, .ptr 1 0), (5, aB (decide (x1.fInt < x3.fInt))), (6, aB (decide (x1.fInt > x3.fInt)))] (by kernel_rfl) ?_)))))
   obtain ⟨k10, hk10, hm⟩ := withK_some hm
   refine mid (fun t H => (∃ (y8 : Bool) (y9 : Bool) (w7 : AV), k10 y8 y9 = some r ∧ t = mk 85 [(2, .ptr 0 0), (3, .ptr 1 0), (5, aB y8), (6, aB y9), (35, w7)] ∧ H = [.box [aI x1.fKind, aI x1.fInt, aF x1.fFloat, aS x1.fText] false, .box [aI x3.fKind, aI x3.fInt, aF x3.fFloat, aS x3.fText] false])) ?_ ?_
   ·
    rintro _ _ ⟨y8, y9, w7, hm, rfl, rfl⟩
    subst hk10
    refine sq (sq (detn [(2, .ptr 0 0), (3, .ptr 1 0), (5, aB y8), (6, aB y9), (72, aB (x1.fKind == 4))] (by kernel_rfl) ?_))
    rcases bif_some hm with ⟨h11, hm⟩ | ⟨h11, hm⟩
    ·
     refine ct h11 (by kernel_rfl) (sq (detn [(2, .ptr 0 0), (3, .ptr 1 0), (5, aB (sLt x1.fText x3.fText))] (by kernel_rfl) (detn [(5, aB (sLt x1.fText x3.fText)), (6, aB (!(sLt x1.fText x3.fText || sEq x1.fText x3.fText)))] (by kernel_rfl) (sq (sq (detn [(6, aB (!(sLt x1.fText x3.fText || sEq x1.fText x3.fText))), (83, aB (sLt x1.fText x3.fText))] (by kernel_rfl) ?_))))))
     rcases bif_some hm with ⟨h12, hm⟩ | ⟨h12, hm⟩
     ·
      refine ct h12 (by kernel_rfl) (sq (detn [(4, aI (-1))] (by kernel_rfl) (wp_ret ?_)))
      obtain rfl := Option.some.inj hm
      exact ⟨trivial, by kernel_rfl⟩
     ·
      refine cf h12 (by kernel_rfl) (wp_skip (sq (sq (detn [(84, aB (!(sLt x1.fText x3.fText || sEq x1.fText x3.fText)))] (by kernel_rfl) ?_))))
      rcases bif_some hm with ⟨h13, hm⟩ | ⟨h13, hm⟩
      ·
       refine ct h13 (by kernel_rfl) (sq (detn [(4, aI 1)] (by kernel_rfl) (wp_ret ?_)))
       obtain rfl := Option.some.inj hm
       exact ⟨trivial, by kernel_rfl⟩
      ·
       refine cf h13 (by kernel_rfl) (wp_skip (sq (detn [(4, aI 0)] (by kernel_rfl) (wp_ret ?_))))
       obtain rfl := Option.some.inj hm
       exact ⟨trivial, by kernel_rfl⟩
    ·
     refine cf h11 (by kernel_rfl) (wp_skip (sq (sq (detn [(6, aB y9), (83, aB y8)] (by kernel_rfl) ?_))))
     rcases bif_some hm with ⟨h14, hm⟩ | ⟨h14, hm⟩
     ·
      refine ct h14 (by kernel_rfl) (sq (detn [(4, aI (-1))] (by kernel_rfl) (wp_ret ?_)))
      obtain rfl := Option.some.inj hm
      exact ⟨trivial, by kernel_rfl⟩
     ·
      refine cf h14 (by kernel_rfl) (wp_skip (sq (sq (detn [(84, aB y9)] (by kernel_rfl) ?_))))
      rcases bif_some hm with ⟨h15, hm⟩ | ⟨h15, hm⟩
      ·
       refine ct h15 (by kernel_rfl) (sq (detn [(4, aI 1)] (by kernel_rfl) (wp_ret ?_)))
       obtain rfl := Option.some.inj hm
       exact ⟨trivial, by kernel_rfl⟩
      ·
       refine cf h15 (by kernel_rfl) (wp_skip (sq (detn [(4, aI 0)] (by kernel_rfl) (wp_ret ?_))))
       obtain rfl := Option.some.inj hm
       exact ⟨trivial, by kernel_rfl⟩
   refine sq (detn [(2, .ptr 0 0), (3, .ptr 1 0), (5, aB (decide (x1.fInt < x3.fInt))), (6, aB (decide (x1.fInt > x3.fInt))), (35, aB (x1.fKind == 3))] (by kernel_rfl) ?_)
   rcases bif_some hm with ⟨h16, hm⟩ | ⟨h16, hm⟩
   ·
    refine ct h16 (by kernel_rfl) (sq (detn [(2, .ptr 0 0), (3, .ptr 1 0), (7, aB ((FloatKind.format .f64).order x1.fFloat x1.fFloat != some .eq))] (by kernel_rfl) (sq (detn [(2, .ptr 0 0), (3, .ptr 1 0), (7, aB ((FloatKind.format .f64).order x1.fFloat x1.fFloat != some .eq)), (8, aB ((FloatKind.format .f64).order x3.fFloat x3.fFloat != some .eq))] (by kernel_rfl) ?_))))
    refine sq (rg (sh 6 [(51, aB ((FloatKind.format .f64).order x1.fFloat x3.fFloat == some .lt)), (50, aB ((FloatKind.format .f64).order x1.fFloat x3.fFloat == some .lt)), (49, aF x3.fFloat), (48, .ptr 1 2), (47, aF x1.fFloat), (46, .ptr 0 2)] (by kernel_rfl) ?_))
    refine seg ((FloatKind.format .f64).order x1.fFloat x3.fFloat == some .lt) [51, 50] (fun b => [(57, aB (b || ((!((FloatKind.format .f64).order x1.fFloat x1.fFloat != some .eq)) && ((FloatKind.format .f64).order x3.fFloat x3.fFloat != some .eq)))), (56, ifA b (.undef) (aB ((!((FloatKind.format .f64).order x1.fFloat x1.fFloat != some .eq)) && ((FloatKind.format .f64).order x3.fFloat x3.fFloat != some .eq)))), (55, ifA b (.undef) (ifA (!((FloatKind.format .f64).order x1.fFloat x1.fFloat != some .eq)) (aB ((FloatKind.format .f64).order x3.fFloat x3.fFloat != some .eq)) (.undef))), (54, ifA b (.undef) (aB (!((FloatKind.format .f64).order x1.fFloat x1.fFloat != some .eq)))), (53, ifA b (.undef) (aB (!((FloatKind.format .f64).order x1.fFloat x1.fFloat != some .eq)))), (52, ifA b (.undef) (aB ((FloatKind.format .f64).order x1.fFloat x1.fFloat != some .eq)))]) 12 (by kernel_rfl) ?_ ?_ ?_
    ·
     intro Q h
     refine sh 6 [(57, aB true), (56, .undef), (55, .undef), (54, .undef), (53, .undef), (52, .undef)] (by kernel_rfl) ?_
     exact sameN (by kernel_rfl) (by kernel_rfl) h
    ·
     intro Q h
     refine sh 3 [(54, aB (!((FloatKind.format .f64).order x1.fFloat x1.fFloat != some .eq))), (53, aB (!((FloatKind.format .f64).order x1.fFloat x1.fFloat != some .eq))), (52, aB ((FloatKind.format .f64).order x1.fFloat x1.fFloat != some .eq))] (by kernel_rfl) ?_
     refine seg (!((FloatKind.format .f64).order x1.fFloat x1.fFloat != some .eq)) [54, 53] (fun b => [(56, aB (b && ((FloatKind.format .f64).order x3.fFloat x3.fFloat != some .eq))), (55, ifA b (aB ((FloatKind.format .f64).order x3.fFloat x3.fFloat != some .eq)) (.undef))]) 11 (by kernel_rfl) ?_ ?_ ?_
     ·
      intro Q h
      refine sh 2 [(56, aB ((FloatKind.format .f64).order x3.fFloat x3.fFloat != some .eq)), (55, aB ((FloatKind.format .f64).order x3.fFloat x3.fFloat != some .eq))] (by kernel_rfl) ?_
      exact sameN (by kernel_rfl) (by kernel_rfl) h
     ·
      intro Q h
      refine sh 2 [(56, aB false), (55, .undef)] (by kernel_rfl) ?_
      exact sameN (by kernel_rfl) (by kernel_rfl) h
     refine sh 1 [(57, aB ((!((FloatKind.format .f64).order x1.fFloat x1.fFloat != some .eq)) && ((FloatKind.format .f64).order x3.fFloat x3.fFloat != some .eq)))] (by kernel_rfl) ?_
     exact sameN (by kernel_rfl) (by kernel_rfl) h
    refine sh 1 [(5, aB (((FloatKind.format .f64).order x1.fFloat x3.fFloat == some .lt) || ((!((FloatKind.format .f64).order x1.fFloat x1.fFloat != some .eq)) && ((FloatKind.format .f64).order x3.fFloat x3.fFloat != some .eq))))] (by kernel_rfl) (fin [(2, .ptr 0 0), (3, .ptr 1 0), (5, aB (((FloatKind.format .f64).order x1.fFloat x3.fFloat == some .lt) || ((!((FloatKind.format .f64).order x1.fFloat x1.fFloat != some .eq)) && ((FloatKind.format .f64).order x3.fFloat x3.fFloat != some .eq)))), (7, aB ((FloatKind.format .f64).order x1.fFloat x1.fFloat != some .eq)), (8, aB ((FloatKind.format .f64).order x3.fFloat x3.fFloat != some .eq))] rfl (by kernel_rfl) (rg (sh 6 [(63, aB ((FloatKind.format .f64).order x1.fFloat x3.fFloat == some .gt)), (62, aB ((FloatKind.format .f64).order x1.fFloat x3.fFloat == some .gt)), (61, aF x3.fFloat), (60, .ptr 1 2), (59, aF x1.fFloat), (58, .ptr 0 2)] (by kernel_rfl) ?_)))
    refine seg ((FloatKind.format .f64).order x1.fFloat x3.fFloat == some .gt) [63, 62] (fun b => [(69, aB (b || (((FloatKind.format .f64).order x1.fFloat x1.fFloat != some .eq) && (!((FloatKind.format .f64).order x3.fFloat x3.fFloat != some .eq))))), (68, ifA b (.undef) (aB (((FloatKind.format .f64).order x1.fFloat x1.fFloat != some .eq) && (!((FloatKind.format .f64).order x3.fFloat x3.fFloat != some .eq))))), (67, ifA b (.undef) (ifA ((FloatKind.format .f64).order x1.fFloat x1.fFloat != some .eq) (aB (!((FloatKind.format .f64).order x3.fFloat x3.fFloat != some .eq))) (.undef))), (66, ifA b (.undef) (ifA ((FloatKind.format .f64).order x1.fFloat x1.fFloat != some .eq) (aB ((FloatKind.format .f64).order x3.fFloat x3.fFloat != some .eq)) (.undef))), (65, ifA b (.undef) (aB ((FloatKind.format .f64).order x1.fFloat x1.fFloat != some .eq))), (64, ifA b (.undef) (aB ((FloatKind.format .f64).order x1.fFloat x1.fFloat != some .eq))), (7, aB ((FloatKind.format .f64).order x1.fFloat x1.fFloat != some .eq))]) 12 (by kernel_rfl) ?_ ?_ ?_
    ·
     intro Q h
     refine sh 6 [(69, aB true), (68, .undef), (67, .undef), (66, .undef), (65, .undef), (64, .undef)] (by kernel_rfl) ?_
     exact sameN (by kernel_rfl) (by kernel_rfl) h
    ·
     intro Q h
     refine sh 2 [(65, aB ((FloatKind.format .f64).order x1.fFloat x1.fFloat != some .eq)), (64, aB ((FloatKind.format .f64).order x1.fFloat x1.fFloat != some .eq))] (by kernel_rfl) ?_
     refine seg ((FloatKind.format .f64).order x1.fFloat x1.fFloat != some .eq) [65, 64, 7] (fun b => [(68, aB (b && (!((FloatKind.format .f64).order x3.fFloat x3.fFloat != some .eq)))), (67, ifA b (aB (!((FloatKind.format .f64).order x3.fFloat x3.fFloat != some .eq))) (.undef)), (66, ifA b (aB ((FloatKind.format .f64).order x3.fFloat x3.fFloat != some .eq)) (.undef))]) 11 (by kernel_rfl) ?_ ?_ ?_
     ·
      intro Q h
      refine sh 3 [(68, aB (!((FloatKind.format .f64).order x3.fFloat x3.fFloat != some .eq))), (67, aB (!((FloatKind.format .f64).order x3.fFloat x3.fFloat != some .eq))), (66, aB ((FloatKind.format .f64).order x3.fFloat x3.fFloat != some .eq))] (by kernel_rfl) ?_
      exact sameN (by kernel_rfl) (by kernel_rfl) h
     ·
      intro Q h
      refine sh 3 [(68, aB false), (67, .undef), (66, .undef)] (by kernel_rfl) ?_
      exact sameN (by kernel_rfl) (by kernel_rfl) h
     refine sh 1 [(69, aB (((FloatKind.format .f64).order x1.fFloat x1.fFloat != some .eq) && (!((FloatKind.format .f64).order x3.fFloat x3.fFloat != some .eq))))] (by kernel_rfl) ?_
     exact sameN (by kernel_rfl) (by kernel_rfl) h
    refine sh 1 [(6, aB (((FloatKind.format .f64).order x1.fFloat x3.fFloat == some .gt) || (((FloatKind.format .f64).order x1.fFloat x1.fFloat != some .eq) && (!((FloatKind.format .f64).order x3.fFloat x3.fFloat != some .eq)))))] (by kernel_rfl) (fin [(2, .ptr 0 0), (3, .ptr 1 0), (5, aB (((FloatKind.format .f64).order x1.fFloat x3.fFloat == some .lt) || ((!((FloatKind.format .f64).order x1.fFloat x1.fFloat != some .eq)) && ((FloatKind.format .f64).order x3.fFloat x3.fFloat != some .eq)))), (6, aB (((FloatKind.format .f64).order x1.fFloat x3.fFloat == some .gt) || (((FloatKind.format .f64).order x1.fFloat x1.fFloat != some .eq) && (!((FloatKind.format .f64).order x3.fFloat x3.fFloat != some .eq)))))] rfl (by kernel_rfl) ?_)
    exact ⟨(((FloatKind.format .f64).order x1.fFloat x3.fFloat == some .lt) || ((!((FloatKind.format .f64).order x1.fFloat x1.fFloat != some .eq)) && ((FloatKind.format .f64).order x3.fFloat x3.fFloat != some .eq))), (((FloatKind.format .f64).order x1.fFloat x3.fFloat == some .gt) || (((FloatKind.format .f64).order x1.fFloat x1.fFloat != some .eq) && (!((FloatKind.format .f64).order x3.fFloat x3.fFloat != some .eq)))), .any, hm, (mk_same (by kernel_rfl)), rfl⟩
   ·
    refine cf h16 (by kernel_rfl) (wp_skip ?_)
    exact ⟨(decide (x1.fInt < x3.fInt)), (decide (x1.fInt > x3.fInt)), aB (x1.fKind == 3), hm, (mk_same (by kernel_rfl)), rfl⟩
theorem ok_ref19_Sorted {n : Nat} {a0 : (Option (List api_Value))} {r : (Option (List api_Value))} (hm : ref19_Sorted n a0 = some r) :
    call G n 65 [.pv (encSl R_api_Value a0)] [] = some (.ret (.pv (encSl R_api_Value r)), []) := by
  unfold ref19_Sorted at hm
  obtain ⟨n, rfl, h0⟩ := at1_some hm
  replace hm := h0; clear h0
  refine callL 55 [(0, .pv (encSl R_api_Value a0))] func65 rfl (by kernel_rfl) (sq (detn [(0, .pv (encSl R_api_Value a0))] (by kernel_rfl) (sq (detn [(0, .pv (encSl R_api_Value a0)), (3, .pv .nils)] (by kernel_rfl) ?_))))
  obtain ⟨k4, hk4, hm⟩ := withK_some hm
  refine mid (fun t H => (∃ (w1 : AV) (w2 : AV), k4 none = some r ∧ t = mk 55 [(0, .pv (encSl R_api_Value a0)), (3, .pv .nils), (4, w1), (11, w2)] ∧ H = []) ∨ (∃ (y3 : (List api_Value)) (w1 : AV) (w2 : AV), k4 (some y3) = some r ∧ t = mk 55 [(0, .pv (encSl R_api_Value a0)), (3, aR 0 4 y3.length), (4, w1), (11, w2)] ∧ H = [bR 64 4 R_api_Value y3 0 0])) ?_ ?_
  ·
   rintro _ _ (⟨w1, w2, hm, rfl, rfl⟩ | ⟨y3, w1, w2, hm, rfl, rfl⟩)
   ·
    subst hk4
    refine sq (detn [(2, .pv .nils)] (by kernel_rfl) (wp_ret ?_))
    obtain rfl := Option.some.inj hm
    exact ⟨trivial, by kernel_rfl⟩
   ·
    subst hk4
    refine sq (detn [(2, aR 0 4 y3.length)] (by kernel_rfl) (wp_ret ?_))
    obtain rfl := Option.some.inj hm
    exact ret_pure (v := aR 0 4 y3.length) trivial rfl (by kernel_rfl) (pA_ref (pur_ref' (n := y3.length) (id := 0) (l := y3) (R := R_api_Value) rfl rfl (Nat.zero_le _)))
  refine sq (detn [(0, .pv (encSl R_api_Value a0)), (3, .pv .nils), (4, aI 0)] (by kernel_rfl) (bq ?_))
  refine loopF (fun mm t H => (∃ (y8 : Int), ref19_Sorted_l3 n a0 k4 mm none y8 = some r ∧ t = mk 55 [(0, .pv (encSl R_api_Value a0)), (3, .pv .nils), (4, aI y8)] ∧ H = []) ∨ (∃ (y7 : (List api_Value)) (y8 : Int), ref19_Sorted_l3 n a0 k4 mm (some y7) y8 = some r ∧ t = mk 55 [(0, .pv (encSl R_api_Value a0)), (3, aR 0 4 y7.length), (4, aI y8)] ∧ H = [bR 64 4 R_api_Value y7 0 0])) (.inl ⟨0, hm, rfl, rfl⟩) ?_ ?_
  · rintro _ _ (⟨y8, hm, _⟩ | ⟨y7, y8, hm, _⟩) <;> exact nomatch hm
  rintro m9 _ _ (⟨y8, hm, rfl, rfl⟩ | ⟨y7, y8, hm, rfl, rfl⟩)
  ·
   simp only [ref19_Sorted_l3] at hm
   refine sq (sq (rg (sh 2 [(9, .pv (encSl R_api_Value a0)), (8, aI y8)] (by kernel_rfl) (dv 10 (v := aI ((sll a0).length : Int)) (len_slO R_api_Value a0 t52 (by kernel_rfl)) (by kernel_rfl) (sh 1 [(11, aB (decide (y8 < ((sll a0).length : Int))))] (by kernel_rfl) (fin [(0, .pv (encSl R_api_Value a0)), (3, .pv .nils), (4, aI y8), (11, aB (decide (y8 < ((sll a0).length : Int))))] rfl (by kernel_rfl) ?_))))))
   rcases bif_some hm with ⟨h10, hm⟩ | ⟨h10, hm⟩
   ·
    refine ct h10 (by kernel_rfl) (wp_skip ?_)
    obtain ⟨k15, hk15, hm⟩ := withK_some hm
    refine mid (fun t H => (∃ (w11 : AV) (w12 : Blk) (w13 : Blk), k15 none = some r ∧ t = mk 55 [(0, .pv (encSl R_api_Value a0)), (3, .pv .nils), (4, aI y8), (19, w11)] ∧ H = []) ∨ (∃ (y14 : (List api_Value)) (w11 : AV) (w12 : Blk) (w13 : Blk), k15 (some y14) = some r ∧ t = mk 55 [(0, .pv (encSl R_api_Value a0)), (3, aR 1 4 y14.length), (4, aI y8), (19, w11)] ∧ H = [w12, bR 64 4 R_api_Value y14 0 0, w13])) ?_ ?_
    ·
     rintro _ _ (⟨w11, w12, w13, hm, rfl, rfl⟩ | ⟨y14, w11, w12, w13, hm, rfl, rfl⟩)
     ·
      subst hk15
      refine detn [(0, .pv (encSl R_api_Value a0)), (3, .pv .nils), (4, aI (IntKind.wrap .i64 (y8 + 1)))] (by kernel_rfl) ?_
      exact ⟨_, _, tidyL [(0, .pv (encSl R_api_Value a0)), (3, .pv .nils), (4, aI (IntKind.wrap .i64 (y8 + 1)))] [] (by kernel_rfl), .inl ⟨(IntKind.wrap .i64 (y8 + 1)), hm, rfl, rfl⟩⟩
     ·
      subst hk15
      refine detn [(0, .pv (encSl R_api_Value a0)), (3, aR 1 4 y14.length), (4, aI (IntKind.wrap .i64 (y8 + 1)))] (by kernel_rfl) ?_
      exact ⟨_, _, tidyL [(0, .pv (encSl R_api_Value a0)), (3, aR 0 4 y14.length), (4, aI (IntKind.wrap .i64 (y8 + 1)))] [bR 64 4 R_api_Value y14 0 0] (by kernel_rfl), .inr (⟨y14, (IntKind.wrap .i64 (y8 + 1)), hm, rfl, rfl⟩)⟩
    refine bq ?_
    refine sq (sq (rg (sh 2 [(15, aI y8), (14, .pv (encSl R_api_Value a0))] (by kernel_rfl) ?_)))
    obtain ⟨x16, h17, hm⟩ := bs hm
    refine dv 16 (v := .pv (.ptr (R_api_Value x16) 0)) (ia_slO R_api_Value a0 .i64 t52 t64 h17 rfl (by kernel_rfl)) (by kernel_rfl) (sh 3 [(19, aB (x16.fKind == 0)), (18, aI x16.fKind), (17, .pv (.ptr (R_api_Value x16) 0))] (by kernel_rfl) (fin [(0, .pv (encSl R_api_Value a0)), (3, .pv .nils), (4, aI y8), (19, aB (x16.fKind == 0))] rfl (by kernel_rfl) ?_))
    rcases bif_some hm with ⟨h18, hm⟩ | ⟨h18, hm⟩
    ·
     refine ct h18 (by kernel_rfl) (wp_exit ?_)
     exact .inl ⟨aB (x16.fKind == 0), (.box [] false), (.box [] false), hm, (mk_same (by kernel_rfl)), rfl⟩
    ·
     refine cf h18 (by kernel_rfl) (wp_skip (sq (rg (sh 2 [(21, aI y8), (20, .pv (encSl R_api_Value a0))] (by kernel_rfl) (dv 22 (v := .pv (.ptr (R_api_Value x16) 0)) (ia_slO R_api_Value a0 .i64 t52 t64 h17 rfl (by kernel_rfl)) (by kernel_rfl) (sh 1 [(23, .agg [aI x16.fKind, aI x16.fInt, aF x16.fFloat, aS x16.fText])] (by kernel_rfl) ?_))))))
     obtain ⟨x19, h20, hm⟩ := bs hm
     refine dv 24 (cpure (by kernel_rfl) (ok_ref04_Plain h20) (by kernel_rfl) (by kernel_rfl) (by kernel_rfl)) (by kernel_rfl) (st 2 [(5, .ptr 0 0)] [.box [aI x19.fKind, aI x19.fInt, aF x19.fFloat, aS x19.fText] false] (by kernel_rfl) (fin [(0, .pv (encSl R_api_Value a0)), (3, .pv .nils), (4, aI y8), (5, .ptr 0 0)] rfl (by kernel_rfl) (sq (detn [(0, .pv (encSl R_api_Value a0)), (3, .pv .nils), (4, aI y8), (5, .ptr 0 0), (6, aI 0)] (by kernel_rfl) ?_))))
     obtain ⟨k21, hk21, hm⟩ := withK_some hm
     refine mid (fun t H => (k21 () = some r ∧ t = mk 55 [(0, .pv (encSl R_api_Value a0)), (3, .pv .nils), (4, aI y8), (5, .ptr 0 0), (6, aI 0), (38, aB false)] ∧ H = [.box [aI x19.fKind, aI x19.fInt, aF x19.fFloat, aS x19.fText] false])) ?_ ?_
     ·
      rintro _ _ ⟨hm, rfl, rfl⟩
      subst hk21
      refine sq (rg (st 3 [(43, aI 0), (42, .pv .nils), (41, aR 1 4 0)] [.box [aI x19.fKind, aI x19.fInt, aF x19.fFloat, aS x19.fText] false, bR 64 4 R_api_Value ([] : List api_Value) 0 0] (by kernel_rfl) ?_))
      obtain ⟨_, h22, hm⟩ := bs hm
      refine dv 44 (v := .pv .nils) (slice_nilsO R_api_Value (k := .i64) (k' := .i64) (xl := none) (xh := some (aI 0)) (esz := 4) h22 (fun _ => rfl) (.inl ⟨rfl, rfl⟩) (.inr rfl) (by kernel_rfl)) (by kernel_rfl) ?_
      obtain ⟨_, h23, hm⟩ := bs hm
      refine dv 45 (v := aR 1 4 0) (app_ref0O (u := 0) (y := .pv .nils) (n := 0) (id := 1) R_api_Value ([] : List api_Value) ([] : List api_Value) (b := 40) t52 t64 rfl rfl rfl rfl h23 rfl (by first | rfl | assumption | omega | (simp only [List.length_set, List.length_append, List.length_cons, List.length_nil, List.length_replicate, List.length_drop] at * <;> omega)) (Nat.zero_le _) (rfl) (by kernel_rfl)) (by kernel_rfl) (sh 1 [(7, aR 1 4 0)] (by kernel_rfl) (fin [(0, .pv (encSl R_api_Value a0)), (3, .pv .nils), (4, aI y8), (5, .ptr 0 0), (6, aI 0), (7, aR 1 4 0)] rfl (by kernel_rfl) (rgd (std 3 [(48, aR 2 4 1), (47, .agg [aI x19.fKind, aI x19.fInt, aF x19.fFloat, aS x19.fText]), (46, aR 1 4 0)] [.box [aI x19.fKind, aI x19.fInt, aF x19.fFloat, aS x19.fText] false, bR 64 4 R_api_Value ([] : List api_Value) 0 0, bR 64 4 R_api_Value ([x19] : List api_Value) 0 0] (by kernel_rfl) ?_))))
      obtain ⟨_, h24, hm⟩ := bs hm
      refine dOd [(49, aR 1 4 ((([] : List api_Value) ++ ([x19] : List api_Value)).length))] [.box [aI x19.fKind, aI x19.fInt, aF x19.fFloat, aS x19.fText] false, bR 64 4 R_api_Value (([] : List api_Value) ++ ([x19] : List api_Value)) 0 0, bR 64 4 R_api_Value ([x19] : List api_Value) 0 0] (app_refO (u := 0) (n := 0) (id := 1) R_api_Value ([] : List api_Value) ([x19] : List api_Value) (b := 40) t52 t64 rfl rfl rfl (fun _ => rfl) rfl h24 rfl (by first | rfl | assumption | omega | (simp only [List.length_set, List.length_append, List.length_cons, List.length_nil, List.length_replicate, List.length_drop] at * <;> omega)) (Nat.zero_le _) (show srcRows (aR 2 4 1) _ = some (([x19] : List api_Value).map R_api_Value) from by kernel_rfl) (by kernel_rfl)) (by kernel_rfl) (shd 2 [(51, aI 0), (50, .pv .nils)] (by kernel_rfl) ?_)
      obtain ⟨_, h25, hm⟩ := bs hm
      refine dvd 52 (v := .pv .nils) (slice_nilsO R_api_Value (k := .i64) (k' := .i64) (xl := some (aI 0)) (xh := none) (esz := 4) h25 (fun _ => rfl) (.inr rfl) (.inl ⟨rfl, rfl⟩) (by kernel_rfl)) (by kernel_rfl) ?_
      obtain ⟨_, h26, hm⟩ := bs hm
      refine dvd 53 (v := aR 1 4 ((([] : List api_Value) ++ ([x19] : List api_Value)).length)) (app_ref0O (u := 0) (y := .pv .nils) (n := (([] : List api_Value) ++ ([x19] : List api_Value)).length) (id := 1) R_api_Value (([] : List api_Value) ++ ([x19] : List api_Value)) ([] : List api_Value) (b := 40) t52 t64 rfl rfl rfl rfl h26 rfl rfl (Nat.zero_le _) (rfl) (by kernel_rfl)) (by kernel_rfl) (shd 1 [(3, aR 1 4 ((([] : List api_Value) ++ ([x19] : List api_Value)).length))] (by kernel_rfl) (find [(0, .pv (encSl R_api_Value a0)), (3, aR 1 4 ((([] : List api_Value) ++ ([x19] : List api_Value)).length)), (4, aI y8)] rfl (by kernel_rfl) (by kernel_rfl) ?_))
      exact .inr (⟨(([] : List api_Value) ++ ([x19] : List api_Value)), .any, .box [aI x19.fKind, aI x19.fInt, aF x19.fFloat, aS x19.fText] false, bR 64 4 R_api_Value ([x19] : List api_Value) 0 0, hm, (mk_same (by kernel_rfl)), rfl⟩)
     refine bq ?_
     refine loopF (fun mm t H => (ref19_Sorted_l8 n k21 mm = some r ∧ t = mk 55 [(0, .pv (encSl R_api_Value a0)), (3, .pv .nils), (4, aI y8), (5, .ptr 0 0), (6, aI 0)] ∧ H = [.box [aI x19.fKind, aI x19.fInt, aF x19.fFloat, aS x19.fText] false])) (⟨hm, rfl, rfl⟩) ?_ ?_
     · rintro _ _ ⟨hm, _⟩; exact nomatch hm
     rintro m27 _ _ ⟨hm, rfl, rfl⟩
     simp only [ref19_Sorted_l8] at hm
     refine sq (sq (rgd (shd 12 [(38, aB false), (37, .undef), (36, .undef), (35, .undef), (34, .undef), (33, .undef), (32, .undef), (31, .undef), (30, .undef), (29, aB false), (28, aB false), (27, aI 0)] (by kernel_rfl) (find [(0, .pv (encSl R_api_Value a0)), (3, .pv .nils), (4, aI y8), (5, .ptr 0 0), (6, aI 0), (38, aB false)] rfl (by kernel_rfl) (by kernel_rfl) (cF (by kernel_rfl) (wp_exit ?_))))))
     exact ⟨hm, rfl, rfl⟩
   ·
    refine cf h10 (by kernel_rfl) (wp_exit ?_)
    exact .inl ⟨aI y8, aB (decide (y8 < ((sll a0).length : Int))), hm, (mk_same (by kernel_rfl)), rfl⟩
  ·
   simp only [ref19_Sorted_l3] at hm
   refine sq (sq (rg (sh 2 [(9, .pv (encSl R_api_Value a0)), (8, aI y8)] (by kernel_rfl) (dv 10 (v := aI ((sll a0).length : Int)) (len_slO R_api_Value a0 t52 (by kernel_rfl)) (by kernel_rfl) (sh 1 [(11, aB (decide (y8 < ((sll a0).length : Int))))] (by kernel_rfl) (fin [(0, .pv (encSl R_api_Value a0)), (3, aR 0 4 y7.length), (4, aI y8), (11, aB (decide (y8 < ((sll a0).length : Int))))] rfl (by kernel_rfl) ?_))))))
   rcases bif_some hm with ⟨h28, hm⟩ | ⟨h28, hm⟩
   ·
    refine ct h28 (by kernel_rfl) (wp_skip ?_)
    obtain ⟨k33, hk33, hm⟩ := withK_some hm
    refine mid (fun t H => (∃ (w29 : AV) (w30 : Blk) (w31 : Blk), k33 (.inl ()) = some r ∧ t = mk 55 [(0, .pv (encSl R_api_Value a0)), (3, aR 0 4 y7.length), (4, aI y8), (19, w29)] ∧ H = [bR 64 4 R_api_Value y7 0 0]) ∨ (∃ (y32 : (List api_Value)) (w29 : AV) (w30 : Blk) (w31 : Blk), k33 (.inr (y32)) = some r ∧ t = mk 55 [(0, .pv (encSl R_api_Value a0)), (3, aR 2 4 y32.length), (4, aI y8), (19, w29)] ∧ H = [bR 64 4 R_api_Value y7 0 0, w30, bR 64 4 R_api_Value y32 0 0, w31])) ?_ ?_
    ·
     rintro _ _ (⟨w29, w30, w31, hm, rfl, rfl⟩ | ⟨y32, w29, w30, w31, hm, rfl, rfl⟩)
     ·
      subst hk33
      refine detn [(0, .pv (encSl R_api_Value a0)), (3, aR 0 4 y7.length), (4, aI (IntKind.wrap .i64 (y8 + 1)))] (by kernel_rfl) ?_
      exact ⟨_, _, tidyL [(0, .pv (encSl R_api_Value a0)), (3, aR 0 4 y7.length), (4, aI (IntKind.wrap .i64 (y8 + 1)))] [bR 64 4 R_api_Value y7 0 0] (by kernel_rfl), .inr (⟨y7, (IntKind.wrap .i64 (y8 + 1)), hm, rfl, rfl⟩)⟩
     ·
      subst hk33
      refine detn [(0, .pv (encSl R_api_Value a0)), (3, aR 2 4 y32.length), (4, aI (IntKind.wrap .i64 (y8 + 1)))] (by kernel_rfl) ?_
      exact ⟨_, _, tidyL [(0, .pv (encSl R_api_Value a0)), (3, aR 0 4 y32.length), (4, aI (IntKind.wrap .i64 (y8 + 1)))] [bR 64 4 R_api_Value y32 0 0] (by kernel_rfl), .inr (⟨y32, (IntKind.wrap .i64 (y8 + 1)), hm, rfl, rfl⟩)⟩
    refine bq ?_
    refine sq (sq (rg (sh 2 [(15, aI y8), (14, .pv (encSl R_api_Value a0))] (by kernel_rfl) ?_)))
    obtain ⟨x34, h35, hm⟩ := bs hm
    refine dv 16 (v := .pv (.ptr (R_api_Value x34) 0)) (ia_slO R_api_Value a0 .i64 t52 t64 h35 rfl (by kernel_rfl)) (by kernel_rfl) (sh 3 [(19, aB (x34.fKind == 0)), (18, aI x34.fKind), (17, .pv (.ptr (R_api_Value x34) 0))] (by kernel_rfl) (fin [(0, .pv (encSl R_api_Value a0)), (3, aR 0 4 y7.length), (4, aI y8), (19, aB (x34.fKind == 0))] rfl (by kernel_rfl) ?_))
    rcases bif_some hm with ⟨h36, hm⟩ | ⟨h36, hm⟩
    ·
     refine ct h36 (by kernel_rfl) (wp_exit ?_)
     exact .inl ⟨aB (x34.fKind == 0), (.box [] false), (.box [] false), hm, (mk_same (by kernel_rfl)), rfl⟩
    ·
     refine cf h36 (by kernel_rfl) (wp_skip (sq (rg (sh 2 [(21, aI y8), (20, .pv (encSl R_api_Value a0))] (by kernel_rfl) (dv 22 (v := .pv (.ptr (R_api_Value x34) 0)) (ia_slO R_api_Value a0 .i64 t52 t64 h35 rfl (by kernel_rfl)) (by kernel_rfl) (sh 1 [(23, .agg [aI x34.fKind, aI x34.fInt, aF x34.fFloat, aS x34.fText])] (by kernel_rfl) ?_))))))
     obtain ⟨x37, h38, hm⟩ := bs hm
     refine dv 24 (cpure (by kernel_rfl) (ok_ref04_Plain h38) (by kernel_rfl) (by kernel_rfl) (by kernel_rfl)) (by kernel_rfl) (st 2 [(5, .ptr 1 0)] [bR 64 4 R_api_Value y7 0 0, .box [aI x37.fKind, aI x37.fInt, aF x37.fFloat, aS x37.fText] false] (by kernel_rfl) (fin [(0, .pv (encSl R_api_Value a0)), (3, aR 0 4 y7.length), (4, aI y8), (5, .ptr 1 0)] rfl (by kernel_rfl) (sq (rg (sh 1 [(25, aR 0 4 y7.length)] (by kernel_rfl) (dv 26 (v := aI (y7.length : Int)) (len_refO y7 (n := y7.length) (id := 0) (esz := 4) t52 rfl (by kernel_rfl)) (by kernel_rfl) (sh 1 [(6, aI (y7.length : Int))] (by kernel_rfl) (fin [(0, .pv (encSl R_api_Value a0)), (3, aR 0 4 y7.length), (4, aI y8), (5, .ptr 1 0), (6, aI (y7.length : Int))] rfl (by kernel_rfl) ?_))))))))
     obtain ⟨k41, hk41, hm⟩ := withK_some hm
     refine mid (fun t H => (∃ (y39 : Bool) (y40 : Int), k41 y40 = some r ∧ t = mk 55 [(0, .pv (encSl R_api_Value a0)), (3, aR 0 4 y7.length), (4, aI y8), (5, .ptr 1 0), (6, aI y40), (38, aB y39)] ∧ H = [bR 64 4 R_api_Value y7 0 0, .box [aI x37.fKind, aI x37.fInt, aF x37.fFloat, aS x37.fText] false])) ?_ ?_
     ·
      rintro _ _ ⟨y39, y40, hm, rfl, rfl⟩
      subst hk41
      obtain ⟨k45, hk45, hm⟩ := withK_some hm
      refine mid (fun t H => (∃ (y42 : (List api_Value)) (g43 : Nat), k45 y42 = some r ∧ t = mk 55 [(0, .pv (encSl R_api_Value a0)), (3, aR 0 4 y7.length), (4, aI y8), (5, .ptr 1 0), (6, aI y40), (7, aR 2 4 g43)] ∧ H = [bR 64 4 R_api_Value y7 0 0, .box [aI x37.fKind, aI x37.fInt, aF x37.fFloat, aS x37.fText] false, bR 64 4 R_api_Value y42 0 0] ∧ y42.length = g43)) ?_ ?_
      ·
       rintro _ _ ⟨y42, g43, hm, rfl, rfl, q44⟩
       subst hk45
       refine rgd (std 3 [(48, aR 3 4 1), (47, .agg [aI x37.fKind, aI x37.fInt, aF x37.fFloat, aS x37.fText]), (46, aR 2 4 g43)] [bR 64 4 R_api_Value y7 0 0, .box [aI x37.fKind, aI x37.fInt, aF x37.fFloat, aS x37.fText] false, bR 64 4 R_api_Value y42 0 0, bR 64 4 R_api_Value ([x37] : List api_Value) 0 0] (by kernel_rfl) ?_)
       obtain ⟨_, h46, hm⟩ := bs hm
       refine dOd [(49, aR 2 4 ((y42 ++ ([x37] : List api_Value)).length))] [bR 64 4 R_api_Value y7 0 0, .box [aI x37.fKind, aI x37.fInt, aF x37.fFloat, aS x37.fText] false, bR 64 4 R_api_Value (y42 ++ ([x37] : List api_Value)) 0 0, bR 64 4 R_api_Value ([x37] : List api_Value) 0 0] (app_refO (u := 0) (n := g43) (id := 2) R_api_Value y42 ([x37] : List api_Value) (b := 40) t52 t64 rfl rfl rfl (fun _ => rfl) rfl h46 rfl (by omega) (Nat.zero_le _) (show srcRows (aR 3 4 1) _ = some (([x37] : List api_Value).map R_api_Value) from by kernel_rfl) (by kernel_rfl)) (by kernel_rfl) (shd 2 [(51, aI y40), (50, aR 0 4 y7.length)] (by kernel_rfl) ?_)
       obtain ⟨_, h47, hm⟩ := bs hm
       refine dvd 52 (v := .ref 0 0 y7.length 4 (Int.toNat y40) (Int.toNat (y7.length : Int) - Int.toNat y40)) (slice_refO y7 (n := y7.length) (id := 0) (esz := 4) (k := .i64) (k' := .i64) (xl := some (aI y40)) (xh := none) h47 rfl (.inr rfl) (.inl ⟨rfl, rfl⟩) (by kernel_rfl)) (by kernel_rfl) ?_
       rcases bif_some hm with ⟨h48, hm⟩ | ⟨h48, hm⟩
       ·
        obtain ⟨_, h49, hm⟩ := bs hm
        refine dvd 53 (v := aR 2 4 ((y42 ++ ([x37] : List api_Value)).length)) (app_ref0O (u := 0) (y := .ref 0 0 y7.length 4 (Int.toNat y40) (Int.toNat (y7.length : Int) - Int.toNat y40)) (n := (y42 ++ ([x37] : List api_Value)).length) (id := 2) R_api_Value (y42 ++ ([x37] : List api_Value)) (subL y7 y40 (y7.length : Int)) (b := 40) t52 t64 rfl rfl rfl h48 h49 rfl rfl (Nat.zero_le _) (src_part (id := 0) (l := y7) (R := R_api_Value) rfl (by first | rfl | assumption | omega | (simp only [List.length_set, List.length_append, List.length_cons, List.length_nil, List.length_replicate, List.length_drop] at * <;> omega)) (by first | exact Nat.zero_le _ | exact Nat.le_refl _ | assumption | omega | (simp only [List.length_set, List.length_append, List.length_cons, List.length_nil, List.length_replicate, List.length_drop] at * <;> omega)) (by have := ckB_some h47; omega)) (by kernel_rfl)) (by kernel_rfl) (shd 1 [(3, aR 2 4 ((y42 ++ ([x37] : List api_Value)).length))] (by kernel_rfl) (find [(0, .pv (encSl R_api_Value a0)), (3, aR 2 4 ((y42 ++ ([x37] : List api_Value)).length)), (4, aI y8)] rfl (by kernel_rfl) (by kernel_rfl) ?_))
        exact .inr (⟨(y42 ++ ([x37] : List api_Value)), .any, .box [aI x37.fKind, aI x37.fInt, aF x37.fFloat, aS x37.fText] false, bR 64 4 R_api_Value ([x37] : List api_Value) 0 0, hm, (mk_same (by kernel_rfl)), rfl⟩)
       ·
        obtain ⟨_, h50, hm⟩ := bs hm
        refine dOd [(53, aR 2 4 (((y42 ++ ([x37] : List api_Value)) ++ (subL y7 y40 (y7.length : Int))).length))] [bR 64 4 R_api_Value y7 0 0, .box [aI x37.fKind, aI x37.fInt, aF x37.fFloat, aS x37.fText] false, bR 64 4 R_api_Value ((y42 ++ ([x37] : List api_Value)) ++ (subL y7 y40 (y7.length : Int))) 0 0, bR 64 4 R_api_Value ([x37] : List api_Value) 0 0] (app_refO (u := 0) (n := (y42 ++ ([x37] : List api_Value)).length) (id := 2) R_api_Value (y42 ++ ([x37] : List api_Value)) (subL y7 y40 (y7.length : Int)) (b := 40) t52 t64 rfl rfl rfl (fun _ => rfl) h48 h50 rfl rfl (Nat.zero_le _) (src_part (id := 0) (l := y7) (R := R_api_Value) rfl (by first | rfl | assumption | omega | (simp only [List.length_set, List.length_append, List.length_cons, List.length_nil, List.length_replicate, List.length_drop] at * <;> omega)) (by first | exact Nat.zero_le _ | exact Nat.le_refl _ | assumption | omega | (simp only [List.length_set, List.length_append, List.length_cons, List.length_nil, List.length_replicate, List.length_drop] at * <;> omega)) (by have := ckB_some h47; omega)) (by kernel_rfl)) (by kernel_rfl) (shd 1 [(3, aR 2 4 (((y42 ++ ([x37] : List api_Value)) ++ (subL y7 y40 (y7.length : Int))).length))] (by kernel_rfl) (find [(0, .pv (encSl R_api_Value a0)), (3, aR 2 4 (((y42 ++ ([x37] : List api_Value)) ++ (subL y7 y40 (y7.length : Int))).length)), (4, aI y8)] rfl (by kernel_rfl) (by kernel_rfl) ?_))
        exact .inr (⟨((y42 ++ ([x37] : List api_Value)) ++ (subL y7 y40 (y7.length : Int))), .any, .box [aI x37.fKind, aI x37.fInt, aF x37.fFloat, aS x37.fText] false, bR 64 4 R_api_Value ([x37] : List api_Value) 0 0, hm, (mk_same (by kernel_rfl)), rfl⟩)
      refine rg (st 3 [(43, aI y40), (42, aR 0 4 y7.length), (41, aR 2 4 0)] [bR 64 4 R_api_Value y7 0 0, .box [aI x37.fKind, aI x37.fInt, aF x37.fFloat, aS x37.fText] false, bR 64 4 R_api_Value ([] : List api_Value) 0 0] (by kernel_rfl) ?_)
      obtain ⟨_, h51, hm⟩ := bs hm
      refine dv 44 (v := .ref 0 0 y7.length 4 (Int.toNat 0) (Int.toNat y40 - Int.toNat 0)) (slice_refO y7 (n := y7.length) (id := 0) (esz := 4) (k := .i64) (k' := .i64) (xl := none) (xh := some (aI y40)) h51 rfl (.inl ⟨rfl, rfl⟩) (.inr rfl) (by kernel_rfl)) (by kernel_rfl) ?_
      rcases bif_some hm with ⟨h52, hm⟩ | ⟨h52, hm⟩
      ·
       obtain ⟨_, h53, hm⟩ := bs hm
       refine dv 45 (v := aR 2 4 0) (app_ref0O (u := 0) (y := .ref 0 0 y7.length 4 (Int.toNat 0) (Int.toNat y40 - Int.toNat 0)) (n := 0) (id := 2) R_api_Value ([] : List api_Value) (subL y7 0 y40) (b := 40) t52 t64 rfl rfl rfl h52 h53 rfl (by first | rfl | assumption | omega | (simp only [List.length_set, List.length_append, List.length_cons, List.length_nil, List.length_replicate, List.length_drop] at * <;> omega)) (Nat.zero_le _) (src_part (id := 0) (l := y7) (R := R_api_Value) rfl (by first | rfl | assumption | omega | (simp only [List.length_set, List.length_append, List.length_cons, List.length_nil, List.length_replicate, List.length_drop] at * <;> omega)) (by first | exact Nat.zero_le _ | exact Nat.le_refl _ | assumption | omega | (simp only [List.length_set, List.length_append, List.length_cons, List.length_nil, List.length_replicate, List.length_drop] at * <;> omega)) (by have := ckB_some h51; omega)) (by kernel_rfl)) (by kernel_rfl) (sh 1 [(7, aR 2 4 0)] (by kernel_rfl) (fin [(0, .pv (encSl R_api_Value a0)), (3, aR 0 4 y7.length), (4, aI y8), (5, .ptr 1 0), (6, aI y40), (7, aR 2 4 0)] rfl (by kernel_rfl) ?_))
       exact ⟨([] : List api_Value), 0, hm, rfl, rfl, (by first | rfl | assumption | omega | (simp only [List.length_set, List.length_append, List.length_cons, List.length_nil, List.length_replicate, List.length_drop] at * <;> omega))⟩
      ·
       obtain ⟨_, h54, hm⟩ := bs hm
       refine dO [(45, aR 2 4 ((([] : List api_Value) ++ (subL y7 0 y40)).length))] [bR 64 4 R_api_Value y7 0 0, .box [aI x37.fKind, aI x37.fInt, aF x37.fFloat, aS x37.fText] false, bR 64 4 R_api_Value (([] : List api_Value) ++ (subL y7 0 y40)) 0 0] (app_refO (u := 0) (n := 0) (id := 2) R_api_Value ([] : List api_Value) (subL y7 0 y40) (b := 40) t52 t64 rfl rfl rfl (fun _ => rfl) h52 h54 rfl (by first | rfl | assumption | omega | (simp only [List.length_set, List.length_append, List.length_cons, List.length_nil, List.length_replicate, List.length_drop] at * <;> omega)) (Nat.zero_le _) (src_part (id := 0) (l := y7) (R := R_api_Value) rfl (by first | rfl | assumption | omega | (simp only [List.length_set, List.length_append, List.length_cons, List.length_nil, List.length_replicate, List.length_drop] at * <;> omega)) (by first | exact Nat.zero_le _ | exact Nat.le_refl _ | assumption | omega | (simp only [List.length_set, List.length_append, List.length_cons, List.length_nil, List.length_replicate, List.length_drop] at * <;> omega)) (by have := ckB_some h51; omega)) (by kernel_rfl)) (by kernel_rfl) (sh 1 [(7, aR 2 4 ((([] : List api_Value) ++ (subL y7 0 y40)).length))] (by kernel_rfl) (fin [(0, .pv (encSl R_api_Value a0)), (3, aR 0 4 y7.length), (4, aI y8), (5, .ptr 1 0), (6, aI y40), (7, aR 2 4 ((([] : List api_Value) ++ (subL y7 0 y40)).length))] rfl (by kernel_rfl) ?_))
       exact ⟨(([] : List api_Value) ++ (subL y7 0 y40)), (([] : List api_Value) ++ (subL y7 0 y40)).length, hm, rfl, rfl, (by first | rfl | assumption | omega | (simp only [List.length_set, List.length_append, List.length_cons, List.length_nil, List.length_replicate, List.length_drop] at * <;> omega))⟩
     refine bq ?_
     refine loopF (fun mm t H => (∃ (y56 : Int), ref19_Sorted_l8x n y7 x37 k41 mm y56 = some r ∧ t = mk 55 [(0, .pv (encSl R_api_Value a0)), (3, aR 0 4 y7.length), (4, aI y8), (5, .ptr 1 0), (6, aI y56)] ∧ H = [bR 64 4 R_api_Value y7 0 0, .box [aI x37.fKind, aI x37.fInt, aF x37.fFloat, aS x37.fText] false])) (⟨(y7.length : Int), hm, rfl, rfl⟩) ?_ ?_
     · rintro _ _ ⟨y56, hm, _⟩; exact nomatch hm
     rintro m57 _ _ ⟨y56, hm, rfl, rfl⟩
     simp only [ref19_Sorted_l8x] at hm
     refine sq (sq (rgd (shd 3 [(29, aB (decide (y56 > 0))), (28, aB (decide (y56 > 0))), (27, aI y56)] (by kernel_rfl) ?_)))
     rcases bif_some hm with ⟨h58, hm⟩ | ⟨h58, hm⟩
     ·
      refine knownd [29, 28] h58 (by kernel_rfl) (shd 3 [(32, aI (IntKind.wrap .i64 (y56 - 1))), (31, aI y56), (30, aR 0 4 y7.length)] (by kernel_rfl) ?_)
      obtain ⟨x59, h60, hm⟩ := bs hm
      refine dvd 33 (v := .eptr 0 0 y7.length 4 (0 + Int.toNat (IntKind.wrap .i64 (y56 - 1))) 0) (ia_refO y7 .i64 (n := y7.length) (id := 0) (esz := 4) t52 t64 h60 rfl rfl (by kernel_rfl)) (by kernel_rfl) (dvd 34 (v := .agg [aI x59.fKind, aI x59.fInt, aF x59.fFloat, aS x59.fText]) (ld_eptrO R_api_Value y7 (n := y7.length) (esz := 4) (j := (IntKind.wrap .i64 (y56 - 1))) (off := 0) (id := 0) t64 rfl h60 rfl (Nat.zero_le _) (by kernel_rfl) (by kernel_rfl)) (by kernel_rfl) (shd 1 [(35, .agg [aI x37.fKind, aI x37.fInt, aF x37.fFloat, aS x37.fText])] (by kernel_rfl) ?_))
      obtain ⟨x61, h62, hm⟩ := bs hm
      refine dvd 36 (cpure (by kernel_rfl) (ok_ref04_Cmp h62) (by kernel_rfl) (by kernel_rfl) (by kernel_rfl)) (by kernel_rfl) (shd 2 [(38, aB (decide (x61 > 0))), (37, aB (decide (x61 > 0)))] (by kernel_rfl) (find [(0, .pv (encSl R_api_Value a0)), (3, aR 0 4 y7.length), (4, aI y8), (5, .ptr 1 0), (6, aI y56), (38, aB (decide (x61 > 0)))] rfl (by kernel_rfl) (by kernel_rfl) ?_))
      rcases bif_some hm with ⟨h63, hm⟩ | ⟨h63, hm⟩
      ·
       refine ct h63 (by kernel_rfl) (wp_skip (bq (detn [(0, .pv (encSl R_api_Value a0)), (3, aR 0 4 y7.length), (4, aI y8), (5, .ptr 1 0), (6, aI (IntKind.wrap .i64 (y56 - 1)))] (by kernel_rfl) ?_)))
       exact ⟨_, _, tidyL [(0, .pv (encSl R_api_Value a0)), (3, aR 0 4 y7.length), (4, aI y8), (5, .ptr 1 0), (6, aI (IntKind.wrap .i64 (y56 - 1)))] [bR 64 4 R_api_Value y7 0 0, .box [aI x37.fKind, aI x37.fInt, aF x37.fFloat, aS x37.fText] false] (by kernel_rfl), ⟨(IntKind.wrap .i64 (y56 - 1)), hm, rfl, rfl⟩⟩
      ·
       refine cf h63 (by kernel_rfl) (wp_exit ?_)
       exact ⟨(decide (x61 > 0)), y56, hm, rfl, rfl⟩
     ·
      refine knownd [29, 28] h58 (by kernel_rfl) (shd 9 [(38, aB false), (37, .undef), (36, .undef), (35, .undef), (34, .undef), (33, .undef), (32, .undef), (31, .undef), (30, .undef)] (by kernel_rfl) (find [(0, .pv (encSl R_api_Value a0)), (3, aR 0 4 y7.length), (4, aI y8), (5, .ptr 1 0), (6, aI y56), (38, aB false)] rfl (by kernel_rfl) (by kernel_rfl) (cF (by kernel_rfl) (wp_exit ?_))))
      exact ⟨false, y56, hm, rfl, rfl⟩
   ·
    refine cf h28 (by kernel_rfl) (wp_exit ?_)
    exact .inr (⟨y7, aI y8, aB (decide (y8 < ((sll a0).length : Int))), hm, (mk_same (by kernel_rfl)), rfl⟩)
theorem ok_ref19_Build {n : Nat} {a0 : (Option (List api_Value))} {a1 : Int} {r : (Option (List tabularyref19_Bucket)) × Int} (hm : ref19_Build n a0 a1 = some r) :
    call G n 27 [.pv (encSl R_api_Value a0), aI a1] [] = some (.ret (.tup [.pv (encSl R_tabularyref19_Bucket r.1), aI r.2]), []) := by
  unfold ref19_Build at hm
  obtain ⟨n, rfl, h0⟩ := at1_some hm
  replace hm := h0; clear h0
  refine callL 154 [(0, .pv (encSl R_api_Value a0)), (1, aI a1)] func27 rfl (by kernel_rfl) (sq (detn [(0, .pv (encSl R_api_Value a0)), (1, aI a1)] (by kernel_rfl) ?_))
  refine sq (sq (rg (sh 3 [(16, aB (decide (a1 < 1))), (15, aB (decide (a1 < 1))), (14, aI a1)] (by kernel_rfl) ?_)))
  refine seg (decide (a1 < 1)) [16, 15] (fun b => [(19, aB (b || (decide (a1 > 50)))), (18, ifA b (.undef) (aB (decide (a1 > 50)))), (17, ifA b (.undef) (aI a1))]) 6 (by kernel_rfl) ?_ ?_ ?_
  ·
   intro Q h
   refine sh 3 [(19, aB true), (18, .undef), (17, .undef)] (by kernel_rfl) ?_
   exact sameN (by kernel_rfl) (by kernel_rfl) h
  ·
   intro Q h
   refine sh 3 [(19, aB (decide (a1 > 50))), (18, aB (decide (a1 > 50))), (17, aI a1)] (by kernel_rfl) ?_
   exact sameN (by kernel_rfl) (by kernel_rfl) h
  refine sh 1 [(20, aB ((decide (a1 < 1)) || (decide (a1 > 50))))] (by kernel_rfl) ?_
  refine seg ((decide (a1 < 1)) || (decide (a1 > 50))) [20, 19] (fun b => [(24, aB (b || (decide (((sll a0).length : Int) > 400)))), (23, ifA b (.undef) (aB (decide (((sll a0).length : Int) > 400)))), (22, ifA b (.undef) (aI ((sll a0).length : Int))), (21, ifA b (.undef) (.pv (encSl R_api_Value a0)))]) 11 (by kernel_rfl) ?_ ?_ ?_
  ·
   intro Q h
   refine sh 4 [(24, aB true), (23, .undef), (22, .undef), (21, .undef)] (by kernel_rfl) ?_
   exact sameN (by kernel_rfl) (by kernel_rfl) h
  ·
   intro Q h
   refine sh 1 [(21, .pv (encSl R_api_Value a0))] (by kernel_rfl) (dv 22 (v := aI ((sll a0).length : Int)) (len_slO R_api_Value a0 t52 (by kernel_rfl)) (by kernel_rfl) (sh 2 [(24, aB (decide (((sll a0).length : Int) > 400))), (23, aB (decide (((sll a0).length : Int) > 400)))] (by kernel_rfl) ?_))
   exact sameN (by kernel_rfl) (by kernel_rfl) h
  refine fin [(0, .pv (encSl R_api_Value a0)), (1, aI a1), (24, aB (((decide (a1 < 1)) || (decide (a1 > 50))) || (decide (((sll a0).length : Int) > 400))))] rfl (by kernel_rfl) ?_
  rcases bif_some hm with ⟨h1, hm⟩ | ⟨h1, hm⟩
  ·
   refine ct h1 (by kernel_rfl) (sq (detn [(4, .pv .nils), (5, aI 2)] (by kernel_rfl) (wp_ret ?_)))
   obtain rfl := Option.some.inj hm
   exact ⟨trivial, by kernel_rfl⟩
  ·
   refine cf h1 (by kernel_rfl) (wp_skip (sq (detn [(0, .pv (encSl R_api_Value a0)), (1, aI a1), (6, aI 0)] (by kernel_rfl) ?_)))
   obtain ⟨k5, hk5, hm⟩ := withK_some hm
   refine mid (fun t H => (∃ (y2 : Bool) (y3 : Int) (y4 : Int), k5 () = some r ∧ t = mk 154 [(0, .pv (encSl R_api_Value a0)), (1, aI a1), (6, aI y3), (7, aI y4), (28, aB y2)] ∧ H = [])) ?_ ?_
   ·
    rintro _ _ ⟨y2, y3, y4, hm, rfl, rfl⟩
    subst hk5
    refine sq (rg (sh 1 [(69, .pv (encSl R_api_Value a0))] (by kernel_rfl) ?_))
    obtain ⟨x6, h7, hm⟩ := bs hm
    refine dv 70 (cpure (by kernel_rfl) (ok_ref19_Sorted h7) (by kernel_rfl) (by kernel_rfl) (by kernel_rfl)) (by kernel_rfl) (sh 1 [(8, .pv (encSl R_api_Value x6))] (by kernel_rfl) (fin [(1, aI a1), (8, .pv (encSl R_api_Value x6))] rfl (by kernel_rfl) (sq (rg (sh 1 [(71, .pv (encSl R_api_Value x6))] (by kernel_rfl) (dv 72 (v := aI ((sll x6).length : Int)) (len_slO R_api_Value x6 t52 (by kernel_rfl)) (by kernel_rfl) (sh 4 [(76, aI a1), (75, aI (IntKind.wrap .i64 ((IntKind.wrap .i64 (((sll x6).length : Int) + a1)) - 1))), (74, aI (IntKind.wrap .i64 (((sll x6).length : Int) + a1))), (73, aI a1)] (by kernel_rfl) ?_)))))))
    obtain ⟨_, h8, hm⟩ := bs hm
    refine dv 77 (v := aI (IntKind.wrap .i64 (Int.tdiv (IntKind.wrap .i64 ((IntKind.wrap .i64 (((sll x6).length : Int) + a1)) - 1)) a1))) (quoO h8 (by kernel_rfl)) (by kernel_rfl) (sh 1 [(9, aI (IntKind.wrap .i64 (Int.tdiv (IntKind.wrap .i64 ((IntKind.wrap .i64 (((sll x6).length : Int) + a1)) - 1)) a1)))] (by kernel_rfl) (fin [(8, .pv (encSl R_api_Value x6)), (9, aI (IntKind.wrap .i64 (Int.tdiv (IntKind.wrap .i64 ((IntKind.wrap .i64 (((sll x6).length : Int) + a1)) - 1)) a1)))] rfl (by kernel_rfl) (sq (detn [(8, .pv (encSl R_api_Value x6)), (9, aI (IntKind.wrap .i64 (Int.tdiv (IntKind.wrap .i64 ((IntKind.wrap .i64 (((sll x6).length : Int) + a1)) - 1)) a1))), (10, .pv .nils)] (by kernel_rfl) ?_))))
    obtain ⟨k16, hk16, hm⟩ := withK_some hm
    refine mid (fun t H => (∃ (w9 : AV) (w10 : AV), k16 none = some r ∧ t = mk 154 [(8, .pv (encSl R_api_Value x6)), (9, aI (IntKind.wrap .i64 (Int.tdiv (IntKind.wrap .i64 ((IntKind.wrap .i64 (((sll x6).length : Int) + a1)) - 1)) a1))), (10, .pv .nils), (11, w9), (81, w10)] ∧ H = []) ∨ (∃ (y11 : (List tabularyref19_Bucket)) (w9 : AV) (w10 : AV) (g12 : Nat) (g14 : Nat), k16 (some y11) = some r ∧ t = mk 154 [(8, .pv (encSl R_api_Value x6)), (9, aI (IntKind.wrap .i64 (Int.tdiv (IntKind.wrap .i64 ((IntKind.wrap .i64 (((sll x6).length : Int) + a1)) - 1)) a1))), (10, aR 0 10 g12), (11, w9), (81, w10)] ∧ H = [bR 80 10 R_tabularyref19_Bucket y11 g14 0] ∧ y11.length = g12 ∧ g14 ≤ y11.length)) ?_ ?_
    ·
     rintro _ _ (⟨w9, w10, hm, rfl, rfl⟩ | ⟨y11, w9, w10, g12, g14, hm, rfl, rfl, q13, q15⟩)
     ·
      subst hk16
      refine sq (detn [(4, .pv .nils), (5, aI 0)] (by kernel_rfl) (wp_ret ?_))
      obtain rfl := Option.some.inj hm
      exact ⟨trivial, by kernel_rfl⟩
     ·
      subst hk16
      refine sq (detn [(4, aR 0 10 g12), (5, aI 0)] (by kernel_rfl) (wp_ret ?_))
      obtain rfl := Option.some.inj hm
      exact ret_pure (v := .tup [aR 0 10 g12, aI 0]) trivial rfl (by kernel_rfl) (pR_tup (pAs_cons (pA_ref (pur_ref' (n := g12) (id := 0) (l := y11) (R := R_tabularyref19_Bucket) rfl (by omega) (by omega))) (pAs_cons (pA_pv) (rfl))))
    refine sq (detn [(8, .pv (encSl R_api_Value x6)), (9, aI (IntKind.wrap .i64 (Int.tdiv (IntKind.wrap .i64 ((IntKind.wrap .i64 (((sll x6).length : Int) + a1)) - 1)) a1))), (10, .pv .nils), (11, aI 0)] (by kernel_rfl) (bq ?_))
    refine loopF (fun mm t H => (∃ (y29 : Int), ref19_Build_l15 n a1 x6 k16 mm none y29 = some r ∧ t = mk 154 [(8, .pv (encSl R_api_Value x6)), (9, aI (IntKind.wrap .i64 (Int.tdiv (IntKind.wrap .i64 ((IntKind.wrap .i64 (((sll x6).length : Int) + a1)) - 1)) a1))), (10, .pv .nils), (11, aI y29)] ∧ H = []) ∨ (∃ (y28 : (List tabularyref19_Bucket)) (y29 : Int) (g30 : Nat) (g32 : Nat), ref19_Build_l15 n a1 x6 k16 mm (some y28) y29 = some r ∧ t = mk 154 [(8, .pv (encSl R_api_Value x6)), (9, aI (IntKind.wrap .i64 (Int.tdiv (IntKind.wrap .i64 ((IntKind.wrap .i64 (((sll x6).length : Int) + a1)) - 1)) a1))), (10, aR 0 10 g30), (11, aI y29)] ∧ H = [bR 80 10 R_tabularyref19_Bucket y28 g32 0] ∧ y28.length = g30 ∧ g32 ≤ y28.length)) (.inl ⟨0, hm, rfl, rfl⟩) ?_ ?_
    · rintro _ _ (⟨y29, hm, _⟩ | ⟨y28, y29, g30, g32, hm, _⟩) <;> exact nomatch hm
    rintro m34 _ _ (⟨y29, hm, rfl, rfl⟩ | ⟨y28, y29, g30, g32, hm, rfl, rfl, q31, q33⟩)
    ·
     simp only [ref19_Build_l15] at hm
     refine sq (sq (rg (sh 2 [(79, .pv (encSl R_api_Value x6)), (78, aI y29)] (by kernel_rfl) (dv 80 (v := aI ((sll x6).length : Int)) (len_slO R_api_Value x6 t52 (by kernel_rfl)) (by kernel_rfl) (sh 1 [(81, aB (decide (y29 < ((sll x6).length : Int))))] (by kernel_rfl) (fin [(8, .pv (encSl R_api_Value x6)), (9, aI (IntKind.wrap .i64 (Int.tdiv (IntKind.wrap .i64 ((IntKind.wrap .i64 (((sll x6).length : Int) + a1)) - 1)) a1))), (10, .pv .nils), (11, aI y29), (81, aB (decide (y29 < ((sll x6).length : Int))))] rfl (by kernel_rfl) ?_))))))
     rcases bif_some hm with ⟨h35, hm⟩ | ⟨h35, hm⟩
     ·
      refine ct h35 (by kernel_rfl) (wp_skip (sq (bq (sq (detn [(8, .pv (encSl R_api_Value x6)), (9, aI (IntKind.wrap .i64 (Int.tdiv (IntKind.wrap .i64 ((IntKind.wrap .i64 (((sll x6).length : Int) + a1)) - 1)) a1))), (10, .pv .nils), (11, aI y29), (12, aI (-1))] (by kernel_rfl) ?_)))))
      obtain ⟨k37, hk37, hm⟩ := withK_some hm
      refine mid (fun t H => (∃ (y36 : Bool), k37 () = some r ∧ t = mk 154 [(8, .pv (encSl R_api_Value x6)), (9, aI (IntKind.wrap .i64 (Int.tdiv (IntKind.wrap .i64 ((IntKind.wrap .i64 (((sll x6).length : Int) + a1)) - 1)) a1))), (10, .pv .nils), (11, aI y29), (12, aI (-1)), (13, aB y36)] ∧ H = [])) ?_ ?_
      ·
       rintro _ _ ⟨y36, hm, rfl, rfl⟩
       subst hk37
       refine sq (sq (detn [(8, .pv (encSl R_api_Value x6)), (9, aI (IntKind.wrap .i64 (Int.tdiv (IntKind.wrap .i64 ((IntKind.wrap .i64 (((sll x6).length : Int) + a1)) - 1)) a1))), (10, .pv .nils), (11, aI y29), (12, aI (-1)), (13, aB y36), (116, aB true)] (by kernel_rfl) (cT (by kernel_rfl) (sq (rg (sh 3 [(119, aI y29), (118, .pv (encSl R_api_Value x6)), (117, .pv .nils)] (by kernel_rfl) ?_))))))
       obtain ⟨x38, h39, hm⟩ := bs hm
       refine dv 120 (v := .pv (.ptr (R_api_Value x38) 0)) (ia_slO R_api_Value x6 .i64 t52 t64 h39 rfl (by kernel_rfl)) (by kernel_rfl) (st 3 [(123, aR 0 10 1), (122, .agg [aI x38.fKind, aI x38.fInt, aF x38.fFloat, aS x38.fText, aI 0, aI 0, aF 0, aS ByteArray.empty, aI 0, aI 0]), (121, .agg [aI x38.fKind, aI x38.fInt, aF x38.fFloat, aS x38.fText])] [bR 80 10 R_tabularyref19_Bucket ([(tabularyref19_Bucket.mk x38 (api_Value.mk 0 0 0 ByteArray.empty) 0 0)] : List tabularyref19_Bucket) 0 0] (by kernel_rfl) ?_)
       obtain ⟨_, h40, hm⟩ := bs hm
       refine dO [(124, aR 1 10 (([(tabularyref19_Bucket.mk x38 (api_Value.mk 0 0 0 ByteArray.empty) 0 0)] : List tabularyref19_Bucket).length))] [bR 80 10 R_tabularyref19_Bucket ([(tabularyref19_Bucket.mk x38 (api_Value.mk 0 0 0 ByteArray.empty) 0 0)] : List tabularyref19_Bucket) 0 0, bR 80 10 R_tabularyref19_Bucket ([(tabularyref19_Bucket.mk x38 (api_Value.mk 0 0 0 ByteArray.empty) 0 0)] : List tabularyref19_Bucket) 0 0] (app_nilO (u := 0) R_tabularyref19_Bucket ([(tabularyref19_Bucket.mk x38 (api_Value.mk 0 0 0 ByteArray.empty) 0 0)] : List tabularyref19_Bucket) (b := 96) t56 t80 rfl rfl rfl (fun _ => rfl) rfl h40 (show srcRows (aR 0 10 1) _ = some (([(tabularyref19_Bucket.mk x38 (api_Value.mk 0 0 0 ByteArray.empty) 0 0)] : List tabularyref19_Bucket).map R_tabularyref19_Bucket) from by kernel_rfl) (by kernel_rfl)) (by kernel_rfl) (sh 1 [(10, aR 1 10 (([(tabularyref19_Bucket.mk x38 (api_Value.mk 0 0 0 ByteArray.empty) 0 0)] : List tabularyref19_Bucket).length))] (by kernel_rfl) (fin [(8, .pv (encSl R_api_Value x6)), (9, aI (IntKind.wrap .i64 (Int.tdiv (IntKind.wrap .i64 ((IntKind.wrap .i64 (((sll x6).length : Int) + a1)) - 1)) a1))), (10, aR 1 10 (([(tabularyref19_Bucket.mk x38 (api_Value.mk 0 0 0 ByteArray.empty) 0 0)] : List tabularyref19_Bucket).length)), (11, aI y29), (12, aI (-1))] rfl (by kernel_rfl) (sq (detn [(8, .pv (encSl R_api_Value x6)), (9, aI (IntKind.wrap .i64 (Int.tdiv (IntKind.wrap .i64 ((IntKind.wrap .i64 (((sll x6).length : Int) + a1)) - 1)) a1))), (10, aR 1 10 (([(tabularyref19_Bucket.mk x38 (api_Value.mk 0 0 0 ByteArray.empty) 0 0)] : List tabularyref19_Bucket).length)), (11, aI y29), (12, aI 0)] (by kernel_rfl) (detn [(8, .pv (encSl R_api_Value x6)), (9, aI (IntKind.wrap .i64 (Int.tdiv (IntKind.wrap .i64 ((IntKind.wrap .i64 (((sll x6).length : Int) + a1)) - 1)) a1))), (10, aR 1 10 (([(tabularyref19_Bucket.mk x38 (api_Value.mk 0 0 0 ByteArray.empty) 0 0)] : List tabularyref19_Bucket).length)), (11, aI y29), (12, aI 0), (13, aB false)] (by kernel_rfl) (sq (rg (sh 4 [(130, aI y29), (129, .pv (encSl R_api_Value x6)), (128, aI 0), (127, aR 1 10 (([(tabularyref19_Bucket.mk x38 (api_Value.mk 0 0 0 ByteArray.empty) 0 0)] : List tabularyref19_Bucket).length))] (by kernel_rfl) (dv 131 (v := .pv (.ptr (R_api_Value x38) 0)) (ia_slO R_api_Value x6 .i64 t52 t64 h39 rfl (by kernel_rfl)) (by kernel_rfl) (sh 1 [(132, .agg [aI x38.fKind, aI x38.fInt, aF x38.fFloat, aS x38.fText])] (by kernel_rfl) ?_))))))))))
       obtain ⟨x41, h42, hm⟩ := bs hm
       refine dv 133 (v := .eptr 1 0 (([(tabularyref19_Bucket.mk x38 (api_Value.mk 0 0 0 ByteArray.empty) 0 0)] : List tabularyref19_Bucket).length) 10 (0 + Int.toNat 0) 0) (ia_refO ([(tabularyref19_Bucket.mk x38 (api_Value.mk 0 0 0 ByteArray.empty) 0 0)] : List tabularyref19_Bucket) .i64 (n := ([(tabularyref19_Bucket.mk x38 (api_Value.mk 0 0 0 ByteArray.empty) 0 0)] : List tabularyref19_Bucket).length) (id := 1) (esz := 10) t56 t80 h42 rfl rfl (by kernel_rfl)) (by kernel_rfl) (sh 1 [(134, .eptr 1 0 (([(tabularyref19_Bucket.mk x38 (api_Value.mk 0 0 0 ByteArray.empty) 0 0)] : List tabularyref19_Bucket).length) 10 (0 + Int.toNat 0) 4)] (by kernel_rfl) (dO [] [bR 80 10 R_tabularyref19_Bucket ([(tabularyref19_Bucket.mk x38 (api_Value.mk 0 0 0 ByteArray.empty) 0 0)] : List tabularyref19_Bucket) 0 0, bR 80 10 R_tabularyref19_Bucket (([(tabularyref19_Bucket.mk x38 (api_Value.mk 0 0 0 ByteArray.empty) 0 0)] : List tabularyref19_Bucket).set (Int.toNat 0) (tabularyref19_Bucket.mk x41.fLow x38 x41.fCount x41.fDistinct)) (([(tabularyref19_Bucket.mk x38 (api_Value.mk 0 0 0 ByteArray.empty) 0 0)] : List tabularyref19_Bucket).length) 0] (st_eptrO R_tabularyref19_Bucket ([(tabularyref19_Bucket.mk x38 (api_Value.mk 0 0 0 ByteArray.empty) 0 0)] : List tabularyref19_Bucket) (tabularyref19_Bucket.mk x41.fLow x38 x41.fCount x41.fDistinct) (n := ([(tabularyref19_Bucket.mk x38 (api_Value.mk 0 0 0 ByteArray.empty) 0 0)] : List tabularyref19_Bucket).length) (esz := 10) (v := .agg [aI x38.fKind, aI x38.fInt, aF x38.fFloat, aS x38.fText]) (j := 0) (off := 4) (id := 1) t64 rfl h42 rfl (Nat.zero_le _) rfl rfl rfl rfl (by kernel_rfl)) (by kernel_rfl) (fin [(8, .pv (encSl R_api_Value x6)), (9, aI (IntKind.wrap .i64 (Int.tdiv (IntKind.wrap .i64 ((IntKind.wrap .i64 (((sll x6).length : Int) + a1)) - 1)) a1))), (10, aR 1 10 (([(tabularyref19_Bucket.mk x38 (api_Value.mk 0 0 0 ByteArray.empty) 0 0)] : List tabularyref19_Bucket).length)), (11, aI y29), (12, aI 0), (13, aB false)] rfl (by kernel_rfl) (sq (rg (sh 2 [(136, aI 0), (135, aR 1 10 (([(tabularyref19_Bucket.mk x38 (api_Value.mk 0 0 0 ByteArray.empty) 0 0)] : List tabularyref19_Bucket).length))] (by kernel_rfl) ?_))))))
       obtain ⟨x43, h44, hm⟩ := bs hm
       refine dv 137 (v := .eptr 1 0 (([(tabularyref19_Bucket.mk x38 (api_Value.mk 0 0 0 ByteArray.empty) 0 0)] : List tabularyref19_Bucket).length) 10 (0 + Int.toNat 0) 0) (ia_refO (([(tabularyref19_Bucket.mk x38 (api_Value.mk 0 0 0 ByteArray.empty) 0 0)] : List tabularyref19_Bucket).set (Int.toNat 0) (tabularyref19_Bucket.mk x41.fLow x38 x41.fCount x41.fDistinct)) .i64 (n := ([(tabularyref19_Bucket.mk x38 (api_Value.mk 0 0 0 ByteArray.empty) 0 0)] : List tabularyref19_Bucket).length) (id := 1) (esz := 10) t56 t80 h44 (by first | rfl | assumption | omega | (simp only [List.length_set, List.length_append, List.length_cons, List.length_nil, List.length_replicate, List.length_drop] at * <;> omega)) rfl (by kernel_rfl)) (by kernel_rfl) (sh 1 [(138, .eptr 1 0 (([(tabularyref19_Bucket.mk x38 (api_Value.mk 0 0 0 ByteArray.empty) 0 0)] : List tabularyref19_Bucket).length) 10 (0 + Int.toNat 0) 8)] (by kernel_rfl) (dv 139 (v := aI x43.fCount) (ld_eptrO R_tabularyref19_Bucket (([(tabularyref19_Bucket.mk x38 (api_Value.mk 0 0 0 ByteArray.empty) 0 0)] : List tabularyref19_Bucket).set (Int.toNat 0) (tabularyref19_Bucket.mk x41.fLow x38 x41.fCount x41.fDistinct)) (n := ([(tabularyref19_Bucket.mk x38 (api_Value.mk 0 0 0 ByteArray.empty) 0 0)] : List tabularyref19_Bucket).length) (esz := 10) (j := 0) (off := 8) (id := 1) t3 rfl h44 (by first | rfl | assumption | omega | (simp only [List.length_set, List.length_append, List.length_cons, List.length_nil, List.length_replicate, List.length_drop] at * <;> omega)) (by first | exact Nat.zero_le _ | exact Nat.le_refl _ | assumption | omega | (simp only [List.length_set, List.length_append, List.length_cons, List.length_nil, List.length_replicate, List.length_drop] at * <;> omega)) (by kernel_rfl) (by kernel_rfl)) (by kernel_rfl) (sh 1 [(140, aI (IntKind.wrap .i64 (x43.fCount + 1)))] (by kernel_rfl) (dv 141 (v := .eptr 1 0 (([(tabularyref19_Bucket.mk x38 (api_Value.mk 0 0 0 ByteArray.empty) 0 0)] : List tabularyref19_Bucket).length) 10 (0 + Int.toNat 0) 0) (ia_refO (([(tabularyref19_Bucket.mk x38 (api_Value.mk 0 0 0 ByteArray.empty) 0 0)] : List tabularyref19_Bucket).set (Int.toNat 0) (tabularyref19_Bucket.mk x41.fLow x38 x41.fCount x41.fDistinct)) .i64 (n := ([(tabularyref19_Bucket.mk x38 (api_Value.mk 0 0 0 ByteArray.empty) 0 0)] : List tabularyref19_Bucket).length) (id := 1) (esz := 10) t56 t80 h44 (by first | rfl | assumption | omega | (simp only [List.length_set, List.length_append, List.length_cons, List.length_nil, List.length_replicate, List.length_drop] at * <;> omega)) rfl (by kernel_rfl)) (by kernel_rfl) (sh 1 [(142, .eptr 1 0 (([(tabularyref19_Bucket.mk x38 (api_Value.mk 0 0 0 ByteArray.empty) 0 0)] : List tabularyref19_Bucket).length) 10 (0 + Int.toNat 0) 8)] (by kernel_rfl) (dO [] [bR 80 10 R_tabularyref19_Bucket ([(tabularyref19_Bucket.mk x38 (api_Value.mk 0 0 0 ByteArray.empty) 0 0)] : List tabularyref19_Bucket) 0 0, bR 80 10 R_tabularyref19_Bucket ((([(tabularyref19_Bucket.mk x38 (api_Value.mk 0 0 0 ByteArray.empty) 0 0)] : List tabularyref19_Bucket).set (Int.toNat 0) (tabularyref19_Bucket.mk x41.fLow x38 x41.fCount x41.fDistinct)).set (Int.toNat 0) (tabularyref19_Bucket.mk x43.fLow x43.fHigh (IntKind.wrap .i64 (x43.fCount + 1)) x43.fDistinct)) (([(tabularyref19_Bucket.mk x38 (api_Value.mk 0 0 0 ByteArray.empty) 0 0)] : List tabularyref19_Bucket).length) 0] (st_eptrO R_tabularyref19_Bucket (([(tabularyref19_Bucket.mk x38 (api_Value.mk 0 0 0 ByteArray.empty) 0 0)] : List tabularyref19_Bucket).set (Int.toNat 0) (tabularyref19_Bucket.mk x41.fLow x38 x41.fCount x41.fDistinct)) (tabularyref19_Bucket.mk x43.fLow x43.fHigh (IntKind.wrap .i64 (x43.fCount + 1)) x43.fDistinct) (n := ([(tabularyref19_Bucket.mk x38 (api_Value.mk 0 0 0 ByteArray.empty) 0 0)] : List tabularyref19_Bucket).length) (esz := 10) (v := aI (IntKind.wrap .i64 (x43.fCount + 1))) (j := 0) (off := 8) (id := 1) t3 rfl h44 (by first | rfl | assumption | omega | (simp only [List.length_set, List.length_append, List.length_cons, List.length_nil, List.length_replicate, List.length_drop] at * <;> omega)) (by first | exact Nat.zero_le _ | exact Nat.le_refl _ | assumption | omega | (simp only [List.length_set, List.length_append, List.length_cons, List.length_nil, List.length_replicate, List.length_drop] at * <;> omega)) rfl rfl rfl rfl (by kernel_rfl)) (by kernel_rfl) (fin [(8, .pv (encSl R_api_Value x6)), (9, aI (IntKind.wrap .i64 (Int.tdiv (IntKind.wrap .i64 ((IntKind.wrap .i64 (((sll x6).length : Int) + a1)) - 1)) a1))), (10, aR 1 10 (([(tabularyref19_Bucket.mk x38 (api_Value.mk 0 0 0 ByteArray.empty) 0 0)] : List tabularyref19_Bucket).length)), (11, aI y29), (12, aI 0), (13, aB false)] rfl (by kernel_rfl) (sq (detn [(8, .pv (encSl R_api_Value x6)), (9, aI (IntKind.wrap .i64 (Int.tdiv (IntKind.wrap .i64 ((IntKind.wrap .i64 (((sll x6).length : Int) + a1)) - 1)) a1))), (10, aR 1 10 (([(tabularyref19_Bucket.mk x38 (api_Value.mk 0 0 0 ByteArray.empty) 0 0)] : List tabularyref19_Bucket).length)), (11, aI y29), (12, aI 0), (144, aB true)] (by kernel_rfl) (cT (by kernel_rfl) (rg (sh 2 [(146, aI 0), (145, aR 1 10 (([(tabularyref19_Bucket.mk x38 (api_Value.mk 0 0 0 ByteArray.empty) 0 0)] : List tabularyref19_Bucket).length))] (by kernel_rfl) ?_))))))))))))
       obtain ⟨x45, h46, hm⟩ := bs hm
       refine dv 147 (v := .eptr 1 0 (([(tabularyref19_Bucket.mk x38 (api_Value.mk 0 0 0 ByteArray.empty) 0 0)] : List tabularyref19_Bucket).length) 10 (0 + Int.toNat 0) 0) (ia_refO ((([(tabularyref19_Bucket.mk x38 (api_Value.mk 0 0 0 ByteArray.empty) 0 0)] : List tabularyref19_Bucket).set (Int.toNat 0) (tabularyref19_Bucket.mk x41.fLow x38 x41.fCount x41.fDistinct)).set (Int.toNat 0) (tabularyref19_Bucket.mk x43.fLow x43.fHigh (IntKind.wrap .i64 (x43.fCount + 1)) x43.fDistinct)) .i64 (n := ([(tabularyref19_Bucket.mk x38 (api_Value.mk 0 0 0 ByteArray.empty) 0 0)] : List tabularyref19_Bucket).length) (id := 1) (esz := 10) t56 t80 h46 (by first | rfl | assumption | omega | (simp only [List.length_set, List.length_append, List.length_cons, List.length_nil, List.length_replicate, List.length_drop] at * <;> omega)) rfl (by kernel_rfl)) (by kernel_rfl) (sh 1 [(148, .eptr 1 0 (([(tabularyref19_Bucket.mk x38 (api_Value.mk 0 0 0 ByteArray.empty) 0 0)] : List tabularyref19_Bucket).length) 10 (0 + Int.toNat 0) 9)] (by kernel_rfl) (dv 149 (v := aI x45.fDistinct) (ld_eptrO R_tabularyref19_Bucket ((([(tabularyref19_Bucket.mk x38 (api_Value.mk 0 0 0 ByteArray.empty) 0 0)] : List tabularyref19_Bucket).set (Int.toNat 0) (tabularyref19_Bucket.mk x41.fLow x38 x41.fCount x41.fDistinct)).set (Int.toNat 0) (tabularyref19_Bucket.mk x43.fLow x43.fHigh (IntKind.wrap .i64 (x43.fCount + 1)) x43.fDistinct)) (n := ([(tabularyref19_Bucket.mk x38 (api_Value.mk 0 0 0 ByteArray.empty) 0 0)] : List tabularyref19_Bucket).length) (esz := 10) (j := 0) (off := 9) (id := 1) t3 rfl h46 (by first | rfl | assumption | omega | (simp only [List.length_set, List.length_append, List.length_cons, List.length_nil, List.length_replicate, List.length_drop] at * <;> omega)) (by first | exact Nat.zero_le _ | exact Nat.le_refl _ | assumption | omega | (simp only [List.length_set, List.length_append, List.length_cons, List.length_nil, List.length_replicate, List.length_drop] at * <;> omega)) (by kernel_rfl) (by kernel_rfl)) (by kernel_rfl) (sh 1 [(150, aI (IntKind.wrap .i64 (x45.fDistinct + 1)))] (by kernel_rfl) (dv 151 (v := .eptr 1 0 (([(tabularyref19_Bucket.mk x38 (api_Value.mk 0 0 0 ByteArray.empty) 0 0)] : List tabularyref19_Bucket).length) 10 (0 + Int.toNat 0) 0) (ia_refO ((([(tabularyref19_Bucket.mk x38 (api_Value.mk 0 0 0 ByteArray.empty) 0 0)] : List tabularyref19_Bucket).set (Int.toNat 0) (tabularyref19_Bucket.mk x41.fLow x38 x41.fCount x41.fDistinct)).set (Int.toNat 0) (tabularyref19_Bucket.mk x43.fLow x43.fHigh (IntKind.wrap .i64 (x43.fCount + 1)) x43.fDistinct)) .i64 (n := ([(tabularyref19_Bucket.mk x38 (api_Value.mk 0 0 0 ByteArray.empty) 0 0)] : List tabularyref19_Bucket).length) (id := 1) (esz := 10) t56 t80 h46 (by first | rfl | assumption | omega | (simp only [List.length_set, List.length_append, List.length_cons, List.length_nil, List.length_replicate, List.length_drop] at * <;> omega)) rfl (by kernel_rfl)) (by kernel_rfl) (sh 1 [(152, .eptr 1 0 (([(tabularyref19_Bucket.mk x38 (api_Value.mk 0 0 0 ByteArray.empty) 0 0)] : List tabularyref19_Bucket).length) 10 (0 + Int.toNat 0) 9)] (by kernel_rfl) (dO [] [bR 80 10 R_tabularyref19_Bucket ([(tabularyref19_Bucket.mk x38 (api_Value.mk 0 0 0 ByteArray.empty) 0 0)] : List tabularyref19_Bucket) 0 0, bR 80 10 R_tabularyref19_Bucket (((([(tabularyref19_Bucket.mk x38 (api_Value.mk 0 0 0 ByteArray.empty) 0 0)] : List tabularyref19_Bucket).set (Int.toNat 0) (tabularyref19_Bucket.mk x41.fLow x38 x41.fCount x41.fDistinct)).set (Int.toNat 0) (tabularyref19_Bucket.mk x43.fLow x43.fHigh (IntKind.wrap .i64 (x43.fCount + 1)) x43.fDistinct)).set (Int.toNat 0) (tabularyref19_Bucket.mk x45.fLow x45.fHigh x45.fCount (IntKind.wrap .i64 (x45.fDistinct + 1)))) (([(tabularyref19_Bucket.mk x38 (api_Value.mk 0 0 0 ByteArray.empty) 0 0)] : List tabularyref19_Bucket).length) 0] (st_eptrO R_tabularyref19_Bucket ((([(tabularyref19_Bucket.mk x38 (api_Value.mk 0 0 0 ByteArray.empty) 0 0)] : List tabularyref19_Bucket).set (Int.toNat 0) (tabularyref19_Bucket.mk x41.fLow x38 x41.fCount x41.fDistinct)).set (Int.toNat 0) (tabularyref19_Bucket.mk x43.fLow x43.fHigh (IntKind.wrap .i64 (x43.fCount + 1)) x43.fDistinct)) (tabularyref19_Bucket.mk x45.fLow x45.fHigh x45.fCount (IntKind.wrap .i64 (x45.fDistinct + 1))) (n := ([(tabularyref19_Bucket.mk x38 (api_Value.mk 0 0 0 ByteArray.empty) 0 0)] : List tabularyref19_Bucket).length) (esz := 10) (v := aI (IntKind.wrap .i64 (x45.fDistinct + 1))) (j := 0) (off := 9) (id := 1) t3 rfl h46 (by first | rfl | assumption | omega | (simp only [List.length_set, List.length_append, List.length_cons, List.length_nil, List.length_replicate, List.length_drop] at * <;> omega)) (by first | exact Nat.zero_le _ | exact Nat.le_refl _ | assumption | omega | (simp only [List.length_set, List.length_append, List.length_cons, List.length_nil, List.length_replicate, List.length_drop] at * <;> omega)) rfl rfl rfl rfl (by kernel_rfl)) (by kernel_rfl) (fin [(8, .pv (encSl R_api_Value x6)), (9, aI (IntKind.wrap .i64 (Int.tdiv (IntKind.wrap .i64 ((IntKind.wrap .i64 (((sll x6).length : Int) + a1)) - 1)) a1))), (10, aR 1 10 (([(tabularyref19_Bucket.mk x38 (api_Value.mk 0 0 0 ByteArray.empty) 0 0)] : List tabularyref19_Bucket).length)), (11, aI y29)] rfl (by kernel_rfl) (detn [(8, .pv (encSl R_api_Value x6)), (9, aI (IntKind.wrap .i64 (Int.tdiv (IntKind.wrap .i64 ((IntKind.wrap .i64 (((sll x6).length : Int) + a1)) - 1)) a1))), (10, aR 1 10 (([(tabularyref19_Bucket.mk x38 (api_Value.mk 0 0 0 ByteArray.empty) 0 0)] : List tabularyref19_Bucket).length)), (11, aI (IntKind.wrap .i64 (y29 + 1)))] (by kernel_rfl) ?_))))))))
       exact ⟨_, _, tidyL [(8, .pv (encSl R_api_Value x6)), (9, aI (IntKind.wrap .i64 (Int.tdiv (IntKind.wrap .i64 ((IntKind.wrap .i64 (((sll x6).length : Int) + a1)) - 1)) a1))), (10, aR 0 10 (([(tabularyref19_Bucket.mk x38 (api_Value.mk 0 0 0 ByteArray.empty) 0 0)] : List tabularyref19_Bucket).length)), (11, aI (IntKind.wrap .i64 (y29 + 1)))] [bR 80 10 R_tabularyref19_Bucket (((([(tabularyref19_Bucket.mk x38 (api_Value.mk 0 0 0 ByteArray.empty) 0 0)] : List tabularyref19_Bucket).set (Int.toNat 0) (tabularyref19_Bucket.mk x41.fLow x38 x41.fCount x41.fDistinct)).set (Int.toNat 0) (tabularyref19_Bucket.mk x43.fLow x43.fHigh (IntKind.wrap .i64 (x43.fCount + 1)) x43.fDistinct)).set (Int.toNat 0) (tabularyref19_Bucket.mk x45.fLow x45.fHigh x45.fCount (IntKind.wrap .i64 (x45.fDistinct + 1)))) (([(tabularyref19_Bucket.mk x38 (api_Value.mk 0 0 0 ByteArray.empty) 0 0)] : List tabularyref19_Bucket).length) 0] (by kernel_rfl), .inr (⟨(((([(tabularyref19_Bucket.mk x38 (api_Value.mk 0 0 0 ByteArray.empty) 0 0)] : List tabularyref19_Bucket).set (Int.toNat 0) (tabularyref19_Bucket.mk x41.fLow x38 x41.fCount x41.fDistinct)).set (Int.toNat 0) (tabularyref19_Bucket.mk x43.fLow x43.fHigh (IntKind.wrap .i64 (x43.fCount + 1)) x43.fDistinct)).set (Int.toNat 0) (tabularyref19_Bucket.mk x45.fLow x45.fHigh x45.fCount (IntKind.wrap .i64 (x45.fDistinct + 1)))), (IntKind.wrap .i64 (y29 + 1)), ([(tabularyref19_Bucket.mk x38 (api_Value.mk 0 0 0 ByteArray.empty) 0 0)] : List tabularyref19_Bucket).length, ([(tabularyref19_Bucket.mk x38 (api_Value.mk 0 0 0 ByteArray.empty) 0 0)] : List tabularyref19_Bucket).length, hm, rfl, rfl, (by first | rfl | assumption | omega | (simp only [List.length_set, List.length_append, List.length_cons, List.length_nil, List.length_replicate, List.length_drop] at * <;> omega)), (by first | exact Nat.zero_le _ | exact Nat.le_refl _ | assumption | omega | (simp only [List.length_set, List.length_append, List.length_cons, List.length_nil, List.length_replicate, List.length_drop] at * <;> omega))⟩)⟩
      refine rgd (shd 3 [(89, aB (decide (y29 > 0))), (88, aB (decide (y29 > 0))), (87, aI y29)] (by kernel_rfl) ?_)
      rcases bif_some hm with ⟨h47, hm⟩ | ⟨h47, hm⟩
      ·
       refine knownd [89, 88] h47 (by kernel_rfl) (shd 3 [(92, aI (IntKind.wrap .i64 (y29 - 1))), (91, aI y29), (90, .pv (encSl R_api_Value x6))] (by kernel_rfl) ?_)
       obtain ⟨x48, h49, hm⟩ := bs hm
       refine dvd 93 (v := .pv (.ptr (R_api_Value x48) 0)) (ia_slO R_api_Value x6 .i64 t52 t64 h49 rfl (by kernel_rfl)) (by kernel_rfl) (shd 3 [(96, aI y29), (95, .pv (encSl R_api_Value x6)), (94, .agg [aI x48.fKind, aI x48.fInt, aF x48.fFloat, aS x48.fText])] (by kernel_rfl) ?_)
       obtain ⟨x50, h51, hm⟩ := bs hm
       refine dvd 97 (v := .pv (.ptr (R_api_Value x50) 0)) (ia_slO R_api_Value x6 .i64 t52 t64 h51 rfl (by kernel_rfl)) (by kernel_rfl) (shd 1 [(98, .agg [aI x50.fKind, aI x50.fInt, aF x50.fFloat, aS x50.fText])] (by kernel_rfl) ?_)
       obtain ⟨x52, h53, hm⟩ := bs hm
       refine dvd 99 (cpure (by kernel_rfl) (ok_ref04_Cmp h53) (by kernel_rfl) (by kernel_rfl) (by kernel_rfl)) (by kernel_rfl) (shd 3 [(13, aB (x52 == 0)), (101, aB (x52 == 0)), (100, aB (x52 == 0))] (by kernel_rfl) (find [(8, .pv (encSl R_api_Value x6)), (9, aI (IntKind.wrap .i64 (Int.tdiv (IntKind.wrap .i64 ((IntKind.wrap .i64 (((sll x6).length : Int) + a1)) - 1)) a1))), (10, .pv .nils), (11, aI y29), (12, aI (-1)), (13, aB (x52 == 0))] rfl (by kernel_rfl) (by kernel_rfl) ?_))
       exact ⟨(x52 == 0), hm, rfl, rfl⟩
      ·
       refine knownd [89, 88] h47 (by kernel_rfl) (shd 13 [(13, aB false), (101, aB false), (100, .undef), (99, .undef), (98, .undef), (97, .undef), (96, .undef), (95, .undef), (94, .undef), (93, .undef), (92, .undef), (91, .undef), (90, .undef)] (by kernel_rfl) (find [(8, .pv (encSl R_api_Value x6)), (9, aI (IntKind.wrap .i64 (Int.tdiv (IntKind.wrap .i64 ((IntKind.wrap .i64 (((sll x6).length : Int) + a1)) - 1)) a1))), (10, .pv .nils), (11, aI y29), (12, aI (-1)), (13, aB false)] rfl (by kernel_rfl) (by kernel_rfl) ?_))
       exact ⟨false, hm, rfl, rfl⟩
     ·
      refine cf h35 (by kernel_rfl) (wp_exit ?_)
      exact .inl ⟨aI y29, aB (decide (y29 < ((sll x6).length : Int))), hm, (mk_same (by kernel_rfl)), rfl⟩
    ·
     simp only [ref19_Build_l15] at hm
     refine sq (sq (rg (sh 2 [(79, .pv (encSl R_api_Value x6)), (78, aI y29)] (by kernel_rfl) (dv 80 (v := aI ((sll x6).length : Int)) (len_slO R_api_Value x6 t52 (by kernel_rfl)) (by kernel_rfl) (sh 1 [(81, aB (decide (y29 < ((sll x6).length : Int))))] (by kernel_rfl) (fin [(8, .pv (encSl R_api_Value x6)), (9, aI (IntKind.wrap .i64 (Int.tdiv (IntKind.wrap .i64 ((IntKind.wrap .i64 (((sll x6).length : Int) + a1)) - 1)) a1))), (10, aR 0 10 g30), (11, aI y29), (81, aB (decide (y29 < ((sll x6).length : Int))))] rfl (by kernel_rfl) ?_))))))
     rcases bif_some hm with ⟨h54, hm⟩ | ⟨h54, hm⟩
     ·
      refine ct h54 (by kernel_rfl) (wp_skip (sq (bq (sq (rg (sh 1 [(84, aR 0 10 g30)] (by kernel_rfl) (dv 85 (v := aI (y28.length : Int)) (len_refO y28 (n := g30) (id := 0) (esz := 10) t56 (by omega) (by kernel_rfl)) (by kernel_rfl) (sh 2 [(12, aI (IntKind.wrap .i64 ((y28.length : Int) - 1))), (86, aI (IntKind.wrap .i64 ((y28.length : Int) - 1)))] (by kernel_rfl) (fin [(8, .pv (encSl R_api_Value x6)), (9, aI (IntKind.wrap .i64 (Int.tdiv (IntKind.wrap .i64 ((IntKind.wrap .i64 (((sll x6).length : Int) + a1)) - 1)) a1))), (10, aR 0 10 g30), (11, aI y29), (12, aI (IntKind.wrap .i64 ((y28.length : Int) - 1)))] rfl (by kernel_rfl) ?_)))))))))
      obtain ⟨k56, hk56, hm⟩ := withK_some hm
      refine mid (fun t H => (∃ (y55 : Bool), k56 y55 = some r ∧ t = mk 154 [(8, .pv (encSl R_api_Value x6)), (9, aI (IntKind.wrap .i64 (Int.tdiv (IntKind.wrap .i64 ((IntKind.wrap .i64 (((sll x6).length : Int) + a1)) - 1)) a1))), (10, aR 0 10 g30), (11, aI y29), (12, aI (IntKind.wrap .i64 ((y28.length : Int) - 1))), (13, aB y55)] ∧ H = [bR 80 10 R_tabularyref19_Bucket y28 g32 0])) ?_ ?_
      ·
       rintro _ _ ⟨y55, hm, rfl, rfl⟩
       subst hk56
       obtain ⟨k62, hk62, hm⟩ := withK_some hm
       refine mid (fun t H => (∃ (y59 : (List tabularyref19_Bucket)) (w57 : AV) (w58 : Blk) (g60 : Nat), k62 (.inl y59) = some r ∧ t = mk 154 [(8, .pv (encSl R_api_Value x6)), (9, aI (IntKind.wrap .i64 (Int.tdiv (IntKind.wrap .i64 ((IntKind.wrap .i64 (((sll x6).length : Int) + a1)) - 1)) a1))), (10, aR 0 10 y59.length), (11, aI y29), (12, aI (IntKind.wrap .i64 ((IntKind.wrap .i64 ((y28.length : Int) - 1)) + 1))), (13, aB false), (116, w57)] ∧ H = [bR 80 10 R_tabularyref19_Bucket y59 g60 0, w58] ∧ g60 ≤ y59.length) ∨ (∃ (w57 : AV) (w58 : Blk), k62 (.inr (())) = some r ∧ t = mk 154 [(8, .pv (encSl R_api_Value x6)), (9, aI (IntKind.wrap .i64 (Int.tdiv (IntKind.wrap .i64 ((IntKind.wrap .i64 (((sll x6).length : Int) + a1)) - 1)) a1))), (10, aR 0 10 g30), (11, aI y29), (12, aI (IntKind.wrap .i64 ((y28.length : Int) - 1))), (13, aB y55), (116, w57)] ∧ H = [bR 80 10 R_tabularyref19_Bucket y28 g32 0])) ?_ ?_
       ·
        rintro _ _ (⟨y59, w57, w58, g60, hm, rfl, rfl, q61⟩ | ⟨w57, w58, hm, rfl, rfl⟩)
        ·
         subst hk62
         refine sq (rg (sh 4 [(130, aI y29), (129, .pv (encSl R_api_Value x6)), (128, aI (IntKind.wrap .i64 ((IntKind.wrap .i64 ((y28.length : Int) - 1)) + 1))), (127, aR 0 10 y59.length)] (by kernel_rfl) ?_))
         obtain ⟨x63, h64, hm⟩ := bs hm
         refine dv 131 (v := .pv (.ptr (R_api_Value x63) 0)) (ia_slO R_api_Value x6 .i64 t52 t64 h64 rfl (by kernel_rfl)) (by kernel_rfl) (sh 1 [(132, .agg [aI x63.fKind, aI x63.fInt, aF x63.fFloat, aS x63.fText])] (by kernel_rfl) ?_)
         obtain ⟨x65, h66, hm⟩ := bs hm
         refine dv 133 (v := .eptr 0 0 y59.length 10 (0 + Int.toNat (IntKind.wrap .i64 ((IntKind.wrap .i64 ((y28.length : Int) - 1)) + 1))) 0) (ia_refO y59 .i64 (n := y59.length) (id := 0) (esz := 10) t56 t80 h66 rfl rfl (by kernel_rfl)) (by kernel_rfl) (sh 1 [(134, .eptr 0 0 y59.length 10 (0 + Int.toNat (IntKind.wrap .i64 ((IntKind.wrap .i64 ((y28.length : Int) - 1)) + 1))) 4)] (by kernel_rfl) (dO [] [bR 80 10 R_tabularyref19_Bucket (y59.set (Int.toNat (IntKind.wrap .i64 ((IntKind.wrap .i64 ((y28.length : Int) - 1)) + 1))) (tabularyref19_Bucket.mk x65.fLow x63 x65.fCount x65.fDistinct)) y59.length 0, w58] (st_eptrO R_tabularyref19_Bucket y59 (tabularyref19_Bucket.mk x65.fLow x63 x65.fCount x65.fDistinct) (n := y59.length) (esz := 10) (v := .agg [aI x63.fKind, aI x63.fInt, aF x63.fFloat, aS x63.fText]) (j := (IntKind.wrap .i64 ((IntKind.wrap .i64 ((y28.length : Int) - 1)) + 1))) (off := 4) (id := 0) t64 rfl h66 rfl (by omega) rfl rfl rfl rfl (by kernel_rfl)) (by kernel_rfl) (fin [(8, .pv (encSl R_api_Value x6)), (9, aI (IntKind.wrap .i64 (Int.tdiv (IntKind.wrap .i64 ((IntKind.wrap .i64 (((sll x6).length : Int) + a1)) - 1)) a1))), (10, aR 0 10 y59.length), (11, aI y29), (12, aI (IntKind.wrap .i64 ((IntKind.wrap .i64 ((y28.length : Int) - 1)) + 1))), (13, aB false)] rfl (by kernel_rfl) (sq (rg (sh 2 [(136, aI (IntKind.wrap .i64 ((IntKind.wrap .i64 ((y28.length : Int) - 1)) + 1))), (135, aR 0 10 y59.length)] (by kernel_rfl) ?_))))))
         obtain ⟨x67, h68, hm⟩ := bs hm
         refine dv 137 (v := .eptr 0 0 y59.length 10 (0 + Int.toNat (IntKind.wrap .i64 ((IntKind.wrap .i64 ((y28.length : Int) - 1)) + 1))) 0) (ia_refO (y59.set (Int.toNat (IntKind.wrap .i64 ((IntKind.wrap .i64 ((y28.length : Int) - 1)) + 1))) (tabularyref19_Bucket.mk x65.fLow x63 x65.fCount x65.fDistinct)) .i64 (n := y59.length) (id := 0) (esz := 10) t56 t80 h68 (by first | rfl | assumption | omega | (simp only [List.length_set, List.length_append, List.length_cons, List.length_nil, List.length_replicate, List.length_drop] at * <;> omega)) rfl (by kernel_rfl)) (by kernel_rfl) (sh 1 [(138, .eptr 0 0 y59.length 10 (0 + Int.toNat (IntKind.wrap .i64 ((IntKind.wrap .i64 ((y28.length : Int) - 1)) + 1))) 8)] (by kernel_rfl) (dv 139 (v := aI x67.fCount) (ld_eptrO R_tabularyref19_Bucket (y59.set (Int.toNat (IntKind.wrap .i64 ((IntKind.wrap .i64 ((y28.length : Int) - 1)) + 1))) (tabularyref19_Bucket.mk x65.fLow x63 x65.fCount x65.fDistinct)) (n := y59.length) (esz := 10) (j := (IntKind.wrap .i64 ((IntKind.wrap .i64 ((y28.length : Int) - 1)) + 1))) (off := 8) (id := 0) t3 rfl h68 (by first | rfl | assumption | omega | (simp only [List.length_set, List.length_append, List.length_cons, List.length_nil, List.length_replicate, List.length_drop] at * <;> omega)) (by first | exact Nat.zero_le _ | exact Nat.le_refl _ | assumption | omega | (simp only [List.length_set, List.length_append, List.length_cons, List.length_nil, List.length_replicate, List.length_drop] at * <;> omega)) (by kernel_rfl) (by kernel_rfl)) (by kernel_rfl) (sh 1 [(140, aI (IntKind.wrap .i64 (x67.fCount + 1)))] (by kernel_rfl) (dv 141 (v := .eptr 0 0 y59.length 10 (0 + Int.toNat (IntKind.wrap .i64 ((IntKind.wrap .i64 ((y28.length : Int) - 1)) + 1))) 0) (ia_refO (y59.set (Int.toNat (IntKind.wrap .i64 ((IntKind.wrap .i64 ((y28.length : Int) - 1)) + 1))) (tabularyref19_Bucket.mk x65.fLow x63 x65.fCount x65.fDistinct)) .i64 (n := y59.length) (id := 0) (esz := 10) t56 t80 h68 (by first | rfl | assumption | omega | (simp only [List.length_set, List.length_append, List.length_cons, List.length_nil, List.length_replicate, List.length_drop] at * <;> omega)) rfl (by kernel_rfl)) (by kernel_rfl) (sh 1 [(142, .eptr 0 0 y59.length 10 (0 + Int.toNat (IntKind.wrap .i64 ((IntKind.wrap .i64 ((y28.length : Int) - 1)) + 1))) 8)] (by kernel_rfl) (dO [] [bR 80 10 R_tabularyref19_Bucket ((y59.set (Int.toNat (IntKind.wrap .i64 ((IntKind.wrap .i64 ((y28.length : Int) - 1)) + 1))) (tabularyref19_Bucket.mk x65.fLow x63 x65.fCount x65.fDistinct)).set (Int.toNat (IntKind.wrap .i64 ((IntKind.wrap .i64 ((y28.length : Int) - 1)) + 1))) (tabularyref19_Bucket.mk x67.fLow x67.fHigh (IntKind.wrap .i64 (x67.fCount + 1)) x67.fDistinct)) y59.length 0, w58] (st_eptrO R_tabularyref19_Bucket (y59.set (Int.toNat (IntKind.wrap .i64 ((IntKind.wrap .i64 ((y28.length : Int) - 1)) + 1))) (tabularyref19_Bucket.mk x65.fLow x63 x65.fCount x65.fDistinct)) (tabularyref19_Bucket.mk x67.fLow x67.fHigh (IntKind.wrap .i64 (x67.fCount + 1)) x67.fDistinct) (n := y59.length) (esz := 10) (v := aI (IntKind.wrap .i64 (x67.fCount + 1))) (j := (IntKind.wrap .i64 ((IntKind.wrap .i64 ((y28.length : Int) - 1)) + 1))) (off := 8) (id := 0) t3 rfl h68 (by first | rfl | assumption | omega | (simp only [List.length_set, List.length_append, List.length_cons, List.length_nil, List.length_replicate, List.length_drop] at * <;> omega)) (by first | exact Nat.zero_le _ | exact Nat.le_refl _ | assumption | omega | (simp only [List.length_set, List.length_append, List.length_cons, List.length_nil, List.length_replicate, List.length_drop] at * <;> omega)) rfl rfl rfl rfl (by kernel_rfl)) (by kernel_rfl) (fin [(8, .pv (encSl R_api_Value x6)), (9, aI (IntKind.wrap .i64 (Int.tdiv (IntKind.wrap .i64 ((IntKind.wrap .i64 (((sll x6).length : Int) + a1)) - 1)) a1))), (10, aR 0 10 y59.length), (11, aI y29), (12, aI (IntKind.wrap .i64 ((IntKind.wrap .i64 ((y28.length : Int) - 1)) + 1))), (13, aB false)] rfl (by kernel_rfl) (sq (detn [(8, .pv (encSl R_api_Value x6)), (9, aI (IntKind.wrap .i64 (Int.tdiv (IntKind.wrap .i64 ((IntKind.wrap .i64 (((sll x6).length : Int) + a1)) - 1)) a1))), (10, aR 0 10 y59.length), (11, aI y29), (12, aI (IntKind.wrap .i64 ((IntKind.wrap .i64 ((y28.length : Int) - 1)) + 1))), (144, aB true)] (by kernel_rfl) (cT (by kernel_rfl) (rg (sh 2 [(146, aI (IntKind.wrap .i64 ((IntKind.wrap .i64 ((y28.length : Int) - 1)) + 1))), (145, aR 0 10 y59.length)] (by kernel_rfl) ?_))))))))))))
         obtain ⟨x69, h70, hm⟩ := bs hm
         refine dv 147 (v := .eptr 0 0 y59.length 10 (0 + Int.toNat (IntKind.wrap .i64 ((IntKind.wrap .i64 ((y28.length : Int) - 1)) + 1))) 0) (ia_refO ((y59.set (Int.toNat (IntKind.wrap .i64 ((IntKind.wrap .i64 ((y28.length : Int) - 1)) + 1))) (tabularyref19_Bucket.mk x65.fLow x63 x65.fCount x65.fDistinct)).set (Int.toNat (IntKind.wrap .i64 ((IntKind.wrap .i64 ((y28.length : Int) - 1)) + 1))) (tabularyref19_Bucket.mk x67.fLow x67.fHigh (IntKind.wrap .i64 (x67.fCount + 1)) x67.fDistinct)) .i64 (n := y59.length) (id := 0) (esz := 10) t56 t80 h70 (by first | rfl | assumption | omega | (simp only [List.length_set, List.length_append, List.length_cons, List.length_nil, List.length_replicate, List.length_drop] at * <;> omega)) rfl (by kernel_rfl)) (by kernel_rfl) (sh 1 [(148, .eptr 0 0 y59.length 10 (0 + Int.toNat (IntKind.wrap .i64 ((IntKind.wrap .i64 ((y28.length : Int) - 1)) + 1))) 9)] (by kernel_rfl) (dv 149 (v := aI x69.fDistinct) (ld_eptrO R_tabularyref19_Bucket ((y59.set (Int.toNat (IntKind.wrap .i64 ((IntKind.wrap .i64 ((y28.length : Int) - 1)) + 1))) (tabularyref19_Bucket.mk x65.fLow x63 x65.fCount x65.fDistinct)).set (Int.toNat (IntKind.wrap .i64 ((IntKind.wrap .i64 ((y28.length : Int) - 1)) + 1))) (tabularyref19_Bucket.mk x67.fLow x67.fHigh (IntKind.wrap .i64 (x67.fCount + 1)) x67.fDistinct)) (n := y59.length) (esz := 10) (j := (IntKind.wrap .i64 ((IntKind.wrap .i64 ((y28.length : Int) - 1)) + 1))) (off := 9) (id := 0) t3 rfl h70 (by first | rfl | assumption | omega | (simp only [List.length_set, List.length_append, List.length_cons, List.length_nil, List.length_replicate, List.length_drop] at * <;> omega)) (by first | exact Nat.zero_le _ | exact Nat.le_refl _ | assumption | omega | (simp only [List.length_set, List.length_append, List.length_cons, List.length_nil, List.length_replicate, List.length_drop] at * <;> omega)) (by kernel_rfl) (by kernel_rfl)) (by kernel_rfl) (sh 1 [(150, aI (IntKind.wrap .i64 (x69.fDistinct + 1)))] (by kernel_rfl) (dv 151 (v := .eptr 0 0 y59.length 10 (0 + Int.toNat (IntKind.wrap .i64 ((IntKind.wrap .i64 ((y28.length : Int) - 1)) + 1))) 0) (ia_refO ((y59.set (Int.toNat (IntKind.wrap .i64 ((IntKind.wrap .i64 ((y28.length : Int) - 1)) + 1))) (tabularyref19_Bucket.mk x65.fLow x63 x65.fCount x65.fDistinct)).set (Int.toNat (IntKind.wrap .i64 ((IntKind.wrap .i64 ((y28.length : Int) - 1)) + 1))) (tabularyref19_Bucket.mk x67.fLow x67.fHigh (IntKind.wrap .i64 (x67.fCount + 1)) x67.fDistinct)) .i64 (n := y59.length) (id := 0) (esz := 10) t56 t80 h70 (by first | rfl | assumption | omega | (simp only [List.length_set, List.length_append, List.length_cons, List.length_nil, List.length_replicate, List.length_drop] at * <;> omega)) rfl (by kernel_rfl)) (by kernel_rfl) (sh 1 [(152, .eptr 0 0 y59.length 10 (0 + Int.toNat (IntKind.wrap .i64 ((IntKind.wrap .i64 ((y28.length : Int) - 1)) + 1))) 9)] (by kernel_rfl) (dO [] [bR 80 10 R_tabularyref19_Bucket (((y59.set (Int.toNat (IntKind.wrap .i64 ((IntKind.wrap .i64 ((y28.length : Int) - 1)) + 1))) (tabularyref19_Bucket.mk x65.fLow x63 x65.fCount x65.fDistinct)).set (Int.toNat (IntKind.wrap .i64 ((IntKind.wrap .i64 ((y28.length : Int) - 1)) + 1))) (tabularyref19_Bucket.mk x67.fLow x67.fHigh (IntKind.wrap .i64 (x67.fCount + 1)) x67.fDistinct)).set (Int.toNat (IntKind.wrap .i64 ((IntKind.wrap .i64 ((y28.length : Int) - 1)) + 1))) (tabularyref19_Bucket.mk x69.fLow x69.fHigh x69.fCount (IntKind.wrap .i64 (x69.fDistinct + 1)))) y59.length 0, w58] (st_eptrO R_tabularyref19_Bucket ((y59.set (Int.toNat (IntKind.wrap .i64 ((IntKind.wrap .i64 ((y28.length : Int) - 1)) + 1))) (tabularyref19_Bucket.mk x65.fLow x63 x65.fCount x65.fDistinct)).set (Int.toNat (IntKind.wrap .i64 ((IntKind.wrap .i64 ((y28.length : Int) - 1)) + 1))) (tabularyref19_Bucket.mk x67.fLow x67.fHigh (IntKind.wrap .i64 (x67.fCount + 1)) x67.fDistinct)) (tabularyref19_Bucket.mk x69.fLow x69.fHigh x69.fCount (IntKind.wrap .i64 (x69.fDistinct + 1))) (n := y59.length) (esz := 10) (v := aI (IntKind.wrap .i64 (x69.fDistinct + 1))) (j := (IntKind.wrap .i64 ((IntKind.wrap .i64 ((y28.length : Int) - 1)) + 1))) (off := 9) (id := 0) t3 rfl h70 (by first | rfl | assumption | omega | (simp only [List.length_set, List.length_append, List.length_cons, List.length_nil, List.length_replicate, List.length_drop] at * <;> omega)) (by first | exact Nat.zero_le _ | exact Nat.le_refl _ | assumption | omega | (simp only [List.length_set, List.length_append, List.length_cons, List.length_nil, List.length_replicate, List.length_drop] at * <;> omega)) rfl rfl rfl rfl (by kernel_rfl)) (by kernel_rfl) (fin [(8, .pv (encSl R_api_Value x6)), (9, aI (IntKind.wrap .i64 (Int.tdiv (IntKind.wrap .i64 ((IntKind.wrap .i64 (((sll x6).length : Int) + a1)) - 1)) a1))), (10, aR 0 10 y59.length), (11, aI y29)] rfl (by kernel_rfl) (detn [(8, .pv (encSl R_api_Value x6)), (9, aI (IntKind.wrap .i64 (Int.tdiv (IntKind.wrap .i64 ((IntKind.wrap .i64 (((sll x6).length : Int) + a1)) - 1)) a1))), (10, aR 0 10 y59.length), (11, aI (IntKind.wrap .i64 (y29 + 1)))] (by kernel_rfl) ?_))))))))
         exact ⟨_, _, tidyL [(8, .pv (encSl R_api_Value x6)), (9, aI (IntKind.wrap .i64 (Int.tdiv (IntKind.wrap .i64 ((IntKind.wrap .i64 (((sll x6).length : Int) + a1)) - 1)) a1))), (10, aR 0 10 y59.length), (11, aI (IntKind.wrap .i64 (y29 + 1)))] [bR 80 10 R_tabularyref19_Bucket (((y59.set (Int.toNat (IntKind.wrap .i64 ((IntKind.wrap .i64 ((y28.length : Int) - 1)) + 1))) (tabularyref19_Bucket.mk x65.fLow x63 x65.fCount x65.fDistinct)).set (Int.toNat (IntKind.wrap .i64 ((IntKind.wrap .i64 ((y28.length : Int) - 1)) + 1))) (tabularyref19_Bucket.mk x67.fLow x67.fHigh (IntKind.wrap .i64 (x67.fCount + 1)) x67.fDistinct)).set (Int.toNat (IntKind.wrap .i64 ((IntKind.wrap .i64 ((y28.length : Int) - 1)) + 1))) (tabularyref19_Bucket.mk x69.fLow x69.fHigh x69.fCount (IntKind.wrap .i64 (x69.fDistinct + 1)))) y59.length 0] (by kernel_rfl), .inr (⟨(((y59.set (Int.toNat (IntKind.wrap .i64 ((IntKind.wrap .i64 ((y28.length : Int) - 1)) + 1))) (tabularyref19_Bucket.mk x65.fLow x63 x65.fCount x65.fDistinct)).set (Int.toNat (IntKind.wrap .i64 ((IntKind.wrap .i64 ((y28.length : Int) - 1)) + 1))) (tabularyref19_Bucket.mk x67.fLow x67.fHigh (IntKind.wrap .i64 (x67.fCount + 1)) x67.fDistinct)).set (Int.toNat (IntKind.wrap .i64 ((IntKind.wrap .i64 ((y28.length : Int) - 1)) + 1))) (tabularyref19_Bucket.mk x69.fLow x69.fHigh x69.fCount (IntKind.wrap .i64 (x69.fDistinct + 1)))), (IntKind.wrap .i64 (y29 + 1)), y59.length, y59.length, hm, rfl, rfl, (by first | rfl | assumption | omega | (simp only [List.length_set, List.length_append, List.length_cons, List.length_nil, List.length_replicate, List.length_drop] at * <;> omega)), (by first | exact Nat.zero_le _ | exact Nat.le_refl _ | assumption | omega | (simp only [List.length_set, List.length_append, List.length_cons, List.length_nil, List.length_replicate, List.length_drop] at * <;> omega))⟩)⟩
        ·
         subst hk62
         refine sq (rg (sh 4 [(130, aI y29), (129, .pv (encSl R_api_Value x6)), (128, aI (IntKind.wrap .i64 ((y28.length : Int) - 1))), (127, aR 0 10 g30)] (by kernel_rfl) ?_))
         obtain ⟨x71, h72, hm⟩ := bs hm
         refine dv 131 (v := .pv (.ptr (R_api_Value x71) 0)) (ia_slO R_api_Value x6 .i64 t52 t64 h72 rfl (by kernel_rfl)) (by kernel_rfl) (sh 1 [(132, .agg [aI x71.fKind, aI x71.fInt, aF x71.fFloat, aS x71.fText])] (by kernel_rfl) ?_)
         obtain ⟨x73, h74, hm⟩ := bs hm
         refine dv 133 (v := .eptr 0 0 g30 10 (0 + Int.toNat (IntKind.wrap .i64 ((y28.length : Int) - 1))) 0) (ia_refO y28 .i64 (n := g30) (id := 0) (esz := 10) t56 t80 h74 (by omega) rfl (by kernel_rfl)) (by kernel_rfl) (sh 1 [(134, .eptr 0 0 g30 10 (0 + Int.toNat (IntKind.wrap .i64 ((y28.length : Int) - 1))) 4)] (by kernel_rfl) (dO [] [bR 80 10 R_tabularyref19_Bucket (y28.set (Int.toNat (IntKind.wrap .i64 ((y28.length : Int) - 1))) (tabularyref19_Bucket.mk x73.fLow x71 x73.fCount x73.fDistinct)) g30 0] (st_eptrO R_tabularyref19_Bucket y28 (tabularyref19_Bucket.mk x73.fLow x71 x73.fCount x73.fDistinct) (n := g30) (esz := 10) (v := .agg [aI x71.fKind, aI x71.fInt, aF x71.fFloat, aS x71.fText]) (j := (IntKind.wrap .i64 ((y28.length : Int) - 1))) (off := 4) (id := 0) t64 rfl h74 (by omega) (by omega) rfl rfl rfl rfl (by kernel_rfl)) (by kernel_rfl) (fin [(8, .pv (encSl R_api_Value x6)), (9, aI (IntKind.wrap .i64 (Int.tdiv (IntKind.wrap .i64 ((IntKind.wrap .i64 (((sll x6).length : Int) + a1)) - 1)) a1))), (10, aR 0 10 g30), (11, aI y29), (12, aI (IntKind.wrap .i64 ((y28.length : Int) - 1))), (13, aB y55)] rfl (by kernel_rfl) (sq (rg (sh 2 [(136, aI (IntKind.wrap .i64 ((y28.length : Int) - 1))), (135, aR 0 10 g30)] (by kernel_rfl) ?_))))))
         obtain ⟨x75, h76, hm⟩ := bs hm
         refine dv 137 (v := .eptr 0 0 g30 10 (0 + Int.toNat (IntKind.wrap .i64 ((y28.length : Int) - 1))) 0) (ia_refO (y28.set (Int.toNat (IntKind.wrap .i64 ((y28.length : Int) - 1))) (tabularyref19_Bucket.mk x73.fLow x71 x73.fCount x73.fDistinct)) .i64 (n := g30) (id := 0) (esz := 10) t56 t80 h76 (by first | rfl | assumption | omega | (simp only [List.length_set, List.length_append, List.length_cons, List.length_nil, List.length_replicate, List.length_drop] at * <;> omega)) rfl (by kernel_rfl)) (by kernel_rfl) (sh 1 [(138, .eptr 0 0 g30 10 (0 + Int.toNat (IntKind.wrap .i64 ((y28.length : Int) - 1))) 8)] (by kernel_rfl) (dv 139 (v := aI x75.fCount) (ld_eptrO R_tabularyref19_Bucket (y28.set (Int.toNat (IntKind.wrap .i64 ((y28.length : Int) - 1))) (tabularyref19_Bucket.mk x73.fLow x71 x73.fCount x73.fDistinct)) (n := g30) (esz := 10) (j := (IntKind.wrap .i64 ((y28.length : Int) - 1))) (off := 8) (id := 0) t3 rfl h76 (by first | rfl | assumption | omega | (simp only [List.length_set, List.length_append, List.length_cons, List.length_nil, List.length_replicate, List.length_drop] at * <;> omega)) (by first | exact Nat.zero_le _ | exact Nat.le_refl _ | assumption | omega | (simp only [List.length_set, List.length_append, List.length_cons, List.length_nil, List.length_replicate, List.length_drop] at * <;> omega)) (by kernel_rfl) (by kernel_rfl)) (by kernel_rfl) (sh 1 [(140, aI (IntKind.wrap .i64 (x75.fCount + 1)))] (by kernel_rfl) (dv 141 (v := .eptr 0 0 g30 10 (0 + Int.toNat (IntKind.wrap .i64 ((y28.length : Int) - 1))) 0) (ia_refO (y28.set (Int.toNat (IntKind.wrap .i64 ((y28.length : Int) - 1))) (tabularyref19_Bucket.mk x73.fLow x71 x73.fCount x73.fDistinct)) .i64 (n := g30) (id := 0) (esz := 10) t56 t80 h76 (by first | rfl | assumption | omega | (simp only [List.length_set, List.length_append, List.length_cons, List.length_nil, List.length_replicate, List.length_drop] at * <;> omega)) rfl (by kernel_rfl)) (by kernel_rfl) (sh 1 [(142, .eptr 0 0 g30 10 (0 + Int.toNat (IntKind.wrap .i64 ((y28.length : Int) - 1))) 8)] (by kernel_rfl) (dO [] [bR 80 10 R_tabularyref19_Bucket ((y28.set (Int.toNat (IntKind.wrap .i64 ((y28.length : Int) - 1))) (tabularyref19_Bucket.mk x73.fLow x71 x73.fCount x73.fDistinct)).set (Int.toNat (IntKind.wrap .i64 ((y28.length : Int) - 1))) (tabularyref19_Bucket.mk x75.fLow x75.fHigh (IntKind.wrap .i64 (x75.fCount + 1)) x75.fDistinct)) g30 0] (st_eptrO R_tabularyref19_Bucket (y28.set (Int.toNat (IntKind.wrap .i64 ((y28.length : Int) - 1))) (tabularyref19_Bucket.mk x73.fLow x71 x73.fCount x73.fDistinct)) (tabularyref19_Bucket.mk x75.fLow x75.fHigh (IntKind.wrap .i64 (x75.fCount + 1)) x75.fDistinct) (n := g30) (esz := 10) (v := aI (IntKind.wrap .i64 (x75.fCount + 1))) (j := (IntKind.wrap .i64 ((y28.length : Int) - 1))) (off := 8) (id := 0) t3 rfl h76 (by first | rfl | assumption | omega | (simp only [List.length_set, List.length_append, List.length_cons, List.length_nil, List.length_replicate, List.length_drop] at * <;> omega)) (by first | exact Nat.zero_le _ | exact Nat.le_refl _ | assumption | omega | (simp only [List.length_set, List.length_append, List.length_cons, List.length_nil, List.length_replicate, List.length_drop] at * <;> omega)) rfl rfl rfl rfl (by kernel_rfl)) (by kernel_rfl) (fin [(8, .pv (encSl R_api_Value x6)), (9, aI (IntKind.wrap .i64 (Int.tdiv (IntKind.wrap .i64 ((IntKind.wrap .i64 (((sll x6).length : Int) + a1)) - 1)) a1))), (10, aR 0 10 g30), (11, aI y29), (12, aI (IntKind.wrap .i64 ((y28.length : Int) - 1))), (13, aB y55)] rfl (by kernel_rfl) (sq (detn [(8, .pv (encSl R_api_Value x6)), (9, aI (IntKind.wrap .i64 (Int.tdiv (IntKind.wrap .i64 ((IntKind.wrap .i64 (((sll x6).length : Int) + a1)) - 1)) a1))), (10, aR 0 10 g30), (11, aI y29), (12, aI (IntKind.wrap .i64 ((y28.length : Int) - 1))), (144, aB (!y55))] (by kernel_rfl) ?_)))))))))
         rcases bif_some hm with ⟨h77, hm⟩ | ⟨h77, hm⟩
         ·
          refine ct h77 (by kernel_rfl) (rg (sh 2 [(146, aI (IntKind.wrap .i64 ((y28.length : Int) - 1))), (145, aR 0 10 g30)] (by kernel_rfl) ?_))
          obtain ⟨x78, h79, hm⟩ := bs hm
          refine dv 147 (v := .eptr 0 0 g30 10 (0 + Int.toNat (IntKind.wrap .i64 ((y28.length : Int) - 1))) 0) (ia_refO ((y28.set (Int.toNat (IntKind.wrap .i64 ((y28.length : Int) - 1))) (tabularyref19_Bucket.mk x73.fLow x71 x73.fCount x73.fDistinct)).set (Int.toNat (IntKind.wrap .i64 ((y28.length : Int) - 1))) (tabularyref19_Bucket.mk x75.fLow x75.fHigh (IntKind.wrap .i64 (x75.fCount + 1)) x75.fDistinct)) .i64 (n := g30) (id := 0) (esz := 10) t56 t80 h79 (by first | rfl | assumption | omega | (simp only [List.length_set, List.length_append, List.length_cons, List.length_nil, List.length_replicate, List.length_drop] at * <;> omega)) rfl (by kernel_rfl)) (by kernel_rfl) (sh 1 [(148, .eptr 0 0 g30 10 (0 + Int.toNat (IntKind.wrap .i64 ((y28.length : Int) - 1))) 9)] (by kernel_rfl) (dv 149 (v := aI x78.fDistinct) (ld_eptrO R_tabularyref19_Bucket ((y28.set (Int.toNat (IntKind.wrap .i64 ((y28.length : Int) - 1))) (tabularyref19_Bucket.mk x73.fLow x71 x73.fCount x73.fDistinct)).set (Int.toNat (IntKind.wrap .i64 ((y28.length : Int) - 1))) (tabularyref19_Bucket.mk x75.fLow x75.fHigh (IntKind.wrap .i64 (x75.fCount + 1)) x75.fDistinct)) (n := g30) (esz := 10) (j := (IntKind.wrap .i64 ((y28.length : Int) - 1))) (off := 9) (id := 0) t3 rfl h79 (by first | rfl | assumption | omega | (simp only [List.length_set, List.length_append, List.length_cons, List.length_nil, List.length_replicate, List.length_drop] at * <;> omega)) (by first | exact Nat.zero_le _ | exact Nat.le_refl _ | assumption | omega | (simp only [List.length_set, List.length_append, List.length_cons, List.length_nil, List.length_replicate, List.length_drop] at * <;> omega)) (by kernel_rfl) (by kernel_rfl)) (by kernel_rfl) (sh 1 [(150, aI (IntKind.wrap .i64 (x78.fDistinct + 1)))] (by kernel_rfl) (dv 151 (v := .eptr 0 0 g30 10 (0 + Int.toNat (IntKind.wrap .i64 ((y28.length : Int) - 1))) 0) (ia_refO ((y28.set (Int.toNat (IntKind.wrap .i64 ((y28.length : Int) - 1))) (tabularyref19_Bucket.mk x73.fLow x71 x73.fCount x73.fDistinct)).set (Int.toNat (IntKind.wrap .i64 ((y28.length : Int) - 1))) (tabularyref19_Bucket.mk x75.fLow x75.fHigh (IntKind.wrap .i64 (x75.fCount + 1)) x75.fDistinct)) .i64 (n := g30) (id := 0) (esz := 10) t56 t80 h79 (by first | rfl | assumption | omega | (simp only [List.length_set, List.length_append, List.length_cons, List.length_nil, List.length_replicate, List.length_drop] at * <;> omega)) rfl (by kernel_rfl)) (by kernel_rfl) (sh 1 [(152, .eptr 0 0 g30 10 (0 + Int.toNat (IntKind.wrap .i64 ((y28.length : Int) - 1))) 9)] (by kernel_rfl) (dO [] [bR 80 10 R_tabularyref19_Bucket (((y28.set (Int.toNat (IntKind.wrap .i64 ((y28.length : Int) - 1))) (tabularyref19_Bucket.mk x73.fLow x71 x73.fCount x73.fDistinct)).set (Int.toNat (IntKind.wrap .i64 ((y28.length : Int) - 1))) (tabularyref19_Bucket.mk x75.fLow x75.fHigh (IntKind.wrap .i64 (x75.fCount + 1)) x75.fDistinct)).set (Int.toNat (IntKind.wrap .i64 ((y28.length : Int) - 1))) (tabularyref19_Bucket.mk x78.fLow x78.fHigh x78.fCount (IntKind.wrap .i64 (x78.fDistinct + 1)))) g30 0] (st_eptrO R_tabularyref19_Bucket ((y28.set (Int.toNat (IntKind.wrap .i64 ((y28.length : Int) - 1))) (tabularyref19_Bucket.mk x73.fLow x71 x73.fCount x73.fDistinct)).set (Int.toNat (IntKind.wrap .i64 ((y28.length : Int) - 1))) (tabularyref19_Bucket.mk x75.fLow x75.fHigh (IntKind.wrap .i64 (x75.fCount + 1)) x75.fDistinct)) (tabularyref19_Bucket.mk x78.fLow x78.fHigh x78.fCount (IntKind.wrap .i64 (x78.fDistinct + 1))) (n := g30) (esz := 10) (v := aI (IntKind.wrap .i64 (x78.fDistinct + 1))) (j := (IntKind.wrap .i64 ((y28.length : Int) - 1))) (off := 9) (id := 0) t3 rfl h79 (by first | rfl | assumption | omega | (simp only [List.length_set, List.length_append, List.length_cons, List.length_nil, List.length_replicate, List.length_drop] at * <;> omega)) (by first | exact Nat.zero_le _ | exact Nat.le_refl _ | assumption | omega | (simp only [List.length_set, List.length_append, List.length_cons, List.length_nil, List.length_replicate, List.length_drop] at * <;> omega)) rfl rfl rfl rfl (by kernel_rfl)) (by kernel_rfl) (fin [(8, .pv (encSl R_api_Value x6)), (9, aI (IntKind.wrap .i64 (Int.tdiv (IntKind.wrap .i64 ((IntKind.wrap .i64 (((sll x6).length : Int) + a1)) - 1)) a1))), (10, aR 0 10 g30), (11, aI y29)] rfl (by kernel_rfl) (detn [(8, .pv (encSl R_api_Value x6)), (9, aI (IntKind.wrap .i64 (Int.tdiv (IntKind.wrap .i64 ((IntKind.wrap .i64 (((sll x6).length : Int) + a1)) - 1)) a1))), (10, aR 0 10 g30), (11, aI (IntKind.wrap .i64 (y29 + 1)))] (by kernel_rfl) ?_))))))))
          exact ⟨_, _, tidyL [(8, .pv (encSl R_api_Value x6)), (9, aI (IntKind.wrap .i64 (Int.tdiv (IntKind.wrap .i64 ((IntKind.wrap .i64 (((sll x6).length : Int) + a1)) - 1)) a1))), (10, aR 0 10 g30), (11, aI (IntKind.wrap .i64 (y29 + 1)))] [bR 80 10 R_tabularyref19_Bucket (((y28.set (Int.toNat (IntKind.wrap .i64 ((y28.length : Int) - 1))) (tabularyref19_Bucket.mk x73.fLow x71 x73.fCount x73.fDistinct)).set (Int.toNat (IntKind.wrap .i64 ((y28.length : Int) - 1))) (tabularyref19_Bucket.mk x75.fLow x75.fHigh (IntKind.wrap .i64 (x75.fCount + 1)) x75.fDistinct)).set (Int.toNat (IntKind.wrap .i64 ((y28.length : Int) - 1))) (tabularyref19_Bucket.mk x78.fLow x78.fHigh x78.fCount (IntKind.wrap .i64 (x78.fDistinct + 1)))) g30 0] (by kernel_rfl), .inr (⟨(((y28.set (Int.toNat (IntKind.wrap .i64 ((y28.length : Int) - 1))) (tabularyref19_Bucket.mk x73.fLow x71 x73.fCount x73.fDistinct)).set (Int.toNat (IntKind.wrap .i64 ((y28.length : Int) - 1))) (tabularyref19_Bucket.mk x75.fLow x75.fHigh (IntKind.wrap .i64 (x75.fCount + 1)) x75.fDistinct)).set (Int.toNat (IntKind.wrap .i64 ((y28.length : Int) - 1))) (tabularyref19_Bucket.mk x78.fLow x78.fHigh x78.fCount (IntKind.wrap .i64 (x78.fDistinct + 1)))), (IntKind.wrap .i64 (y29 + 1)), g30, g30, hm, rfl, rfl, (by first | rfl | assumption | omega | (simp only [List.length_set, List.length_append, List.length_cons, List.length_nil, List.length_replicate, List.length_drop] at * <;> omega)), (by first | exact Nat.zero_le _ | exact Nat.le_refl _ | assumption | omega | (simp only [List.length_set, List.length_append, List.length_cons, List.length_nil, List.length_replicate, List.length_drop] at * <;> omega))⟩)⟩
         ·
          refine cf h77 (by kernel_rfl) (wp_skip (detn [(8, .pv (encSl R_api_Value x6)), (9, aI (IntKind.wrap .i64 (Int.tdiv (IntKind.wrap .i64 ((IntKind.wrap .i64 (((sll x6).length : Int) + a1)) - 1)) a1))), (10, aR 0 10 g30), (11, aI (IntKind.wrap .i64 (y29 + 1)))] (by kernel_rfl) ?_))
          exact ⟨_, _, tidyL [(8, .pv (encSl R_api_Value x6)), (9, aI (IntKind.wrap .i64 (Int.tdiv (IntKind.wrap .i64 ((IntKind.wrap .i64 (((sll x6).length : Int) + a1)) - 1)) a1))), (10, aR 0 10 g30), (11, aI (IntKind.wrap .i64 (y29 + 1)))] [bR 80 10 R_tabularyref19_Bucket ((y28.set (Int.toNat (IntKind.wrap .i64 ((y28.length : Int) - 1))) (tabularyref19_Bucket.mk x73.fLow x71 x73.fCount x73.fDistinct)).set (Int.toNat (IntKind.wrap .i64 ((y28.length : Int) - 1))) (tabularyref19_Bucket.mk x75.fLow x75.fHigh (IntKind.wrap .i64 (x75.fCount + 1)) x75.fDistinct)) g30 0] (by kernel_rfl), .inr (⟨((y28.set (Int.toNat (IntKind.wrap .i64 ((y28.length : Int) - 1))) (tabularyref19_Bucket.mk x73.fLow x71 x73.fCount x73.fDistinct)).set (Int.toNat (IntKind.wrap .i64 ((y28.length : Int) - 1))) (tabularyref19_Bucket.mk x75.fLow x75.fHigh (IntKind.wrap .i64 (x75.fCount + 1)) x75.fDistinct)), (IntKind.wrap .i64 (y29 + 1)), g30, g30, hm, rfl, rfl, (by first | rfl | assumption | omega | (simp only [List.length_set, List.length_append, List.length_cons, List.length_nil, List.length_replicate, List.length_drop] at * <;> omega)), (by first | exact Nat.zero_le _ | exact Nat.le_refl _ | assumption | omega | (simp only [List.length_set, List.length_append, List.length_cons, List.length_nil, List.length_replicate, List.length_drop] at * <;> omega))⟩)⟩
       obtain ⟨k81, hk81, hm⟩ := withK_some hm
       refine mid (fun t H => (∃ (y80 : Bool), k81 y80 = some r ∧ t = mk 154 [(8, .pv (encSl R_api_Value x6)), (9, aI (IntKind.wrap .i64 (Int.tdiv (IntKind.wrap .i64 ((IntKind.wrap .i64 (((sll x6).length : Int) + a1)) - 1)) a1))), (10, aR 0 10 g30), (11, aI y29), (12, aI (IntKind.wrap .i64 ((y28.length : Int) - 1))), (13, aB y55), (116, aB y80)] ∧ H = [bR 80 10 R_tabularyref19_Bucket y28 g32 0])) ?_ ?_
       ·
        rintro _ _ ⟨y80, hm, rfl, rfl⟩
        subst hk81
        rcases bif_some hm with ⟨h82, hm⟩ | ⟨h82, hm⟩
        ·
         refine ct h82 (by kernel_rfl) (sq (rg (sh 3 [(119, aI y29), (118, .pv (encSl R_api_Value x6)), (117, aR 0 10 g30)] (by kernel_rfl) ?_)))
         obtain ⟨x83, h84, hm⟩ := bs hm
         refine dv 120 (v := .pv (.ptr (R_api_Value x83) 0)) (ia_slO R_api_Value x6 .i64 t52 t64 h84 rfl (by kernel_rfl)) (by kernel_rfl) (st 3 [(123, aR 1 10 1), (122, .agg [aI x83.fKind, aI x83.fInt, aF x83.fFloat, aS x83.fText, aI 0, aI 0, aF 0, aS ByteArray.empty, aI 0, aI 0]), (121, .agg [aI x83.fKind, aI x83.fInt, aF x83.fFloat, aS x83.fText])] [bR 80 10 R_tabularyref19_Bucket y28 g32 0, bR 80 10 R_tabularyref19_Bucket ([(tabularyref19_Bucket.mk x83 (api_Value.mk 0 0 0 ByteArray.empty) 0 0)] : List tabularyref19_Bucket) 0 0] (by kernel_rfl) ?_)
         obtain ⟨_, h85, hm⟩ := bs hm
         refine dO [(124, aR 0 10 ((y28 ++ ([(tabularyref19_Bucket.mk x83 (api_Value.mk 0 0 0 ByteArray.empty) 0 0)] : List tabularyref19_Bucket)).length))] [bR 80 10 R_tabularyref19_Bucket (y28 ++ ([(tabularyref19_Bucket.mk x83 (api_Value.mk 0 0 0 ByteArray.empty) 0 0)] : List tabularyref19_Bucket)) g32 0, bR 80 10 R_tabularyref19_Bucket ([(tabularyref19_Bucket.mk x83 (api_Value.mk 0 0 0 ByteArray.empty) 0 0)] : List tabularyref19_Bucket) 0 0] (app_refO (u := 0) (n := g30) (id := 0) R_tabularyref19_Bucket y28 ([(tabularyref19_Bucket.mk x83 (api_Value.mk 0 0 0 ByteArray.empty) 0 0)] : List tabularyref19_Bucket) (b := 96) t56 t80 rfl rfl rfl (fun _ => rfl) rfl h85 rfl (by omega) (by omega) (show srcRows (aR 1 10 1) _ = some (([(tabularyref19_Bucket.mk x83 (api_Value.mk 0 0 0 ByteArray.empty) 0 0)] : List tabularyref19_Bucket).map R_tabularyref19_Bucket) from by kernel_rfl) (by kernel_rfl)) (by kernel_rfl) (sh 1 [(10, aR 0 10 ((y28 ++ ([(tabularyref19_Bucket.mk x83 (api_Value.mk 0 0 0 ByteArray.empty) 0 0)] : List tabularyref19_Bucket)).length))] (by kernel_rfl) (fin [(8, .pv (encSl R_api_Value x6)), (9, aI (IntKind.wrap .i64 (Int.tdiv (IntKind.wrap .i64 ((IntKind.wrap .i64 (((sll x6).length : Int) + a1)) - 1)) a1))), (10, aR 0 10 ((y28 ++ ([(tabularyref19_Bucket.mk x83 (api_Value.mk 0 0 0 ByteArray.empty) 0 0)] : List tabularyref19_Bucket)).length)), (11, aI y29), (12, aI (IntKind.wrap .i64 ((y28.length : Int) - 1)))] rfl (by kernel_rfl) (sq (detn [(8, .pv (encSl R_api_Value x6)), (9, aI (IntKind.wrap .i64 (Int.tdiv (IntKind.wrap .i64 ((IntKind.wrap .i64 (((sll x6).length : Int) + a1)) - 1)) a1))), (10, aR 0 10 ((y28 ++ ([(tabularyref19_Bucket.mk x83 (api_Value.mk 0 0 0 ByteArray.empty) 0 0)] : List tabularyref19_Bucket)).length)), (11, aI y29), (12, aI (IntKind.wrap .i64 ((IntKind.wrap .i64 ((y28.length : Int) - 1)) + 1)))] (by kernel_rfl) (detn [(8, .pv (encSl R_api_Value x6)), (9, aI (IntKind.wrap .i64 (Int.tdiv (IntKind.wrap .i64 ((IntKind.wrap .i64 (((sll x6).length : Int) + a1)) - 1)) a1))), (10, aR 0 10 ((y28 ++ ([(tabularyref19_Bucket.mk x83 (api_Value.mk 0 0 0 ByteArray.empty) 0 0)] : List tabularyref19_Bucket)).length)), (11, aI y29), (12, aI (IntKind.wrap .i64 ((IntKind.wrap .i64 ((y28.length : Int) - 1)) + 1))), (13, aB false)] (by kernel_rfl) ?_)))))
         exact .inl ⟨(y28 ++ ([(tabularyref19_Bucket.mk x83 (api_Value.mk 0 0 0 ByteArray.empty) 0 0)] : List tabularyref19_Bucket)), .any, bR 80 10 R_tabularyref19_Bucket ([(tabularyref19_Bucket.mk x83 (api_Value.mk 0 0 0 ByteArray.empty) 0 0)] : List tabularyref19_Bucket) 0 0, g32, hm, (mk_same (by kernel_rfl)), rfl, (by first | exact Nat.zero_le _ | exact Nat.le_refl _ | assumption | omega | (simp only [List.length_set, List.length_append, List.length_cons, List.length_nil, List.length_replicate, List.length_drop] at * <;> omega))⟩
        ·
         refine cf h82 (by kernel_rfl) (wp_skip ?_)
         exact .inr (⟨aB y80, (.box [] false), hm, (mk_same (by kernel_rfl)), rfl⟩)
       refine rg (sh 3 [(104, aB (decide ((IntKind.wrap .i64 ((y28.length : Int) - 1)) < 0))), (103, aB (decide ((IntKind.wrap .i64 ((y28.length : Int) - 1)) < 0))), (102, aI (IntKind.wrap .i64 ((y28.length : Int) - 1)))] (by kernel_rfl) ?_)
       rcases bif_some hm with ⟨h86, hm⟩ | ⟨h86, hm⟩
       ·
        refine known [104, 103] h86 (by kernel_rfl) (sh 12 [(116, aB true), (115, .undef), (114, .undef), (113, .undef), (112, .undef), (111, .undef), (110, .undef), (109, .undef), (108, .undef), (107, .undef), (106, .undef), (105, .undef)] (by kernel_rfl) (fin [(8, .pv (encSl R_api_Value x6)), (9, aI (IntKind.wrap .i64 (Int.tdiv (IntKind.wrap .i64 ((IntKind.wrap .i64 (((sll x6).length : Int) + a1)) - 1)) a1))), (10, aR 0 10 g30), (11, aI y29), (12, aI (IntKind.wrap .i64 ((y28.length : Int) - 1))), (13, aB y55), (116, aB true)] rfl (by kernel_rfl) ?_))
        exact ⟨true, hm, rfl, rfl⟩
       ·
        refine known [104, 103] h86 (by kernel_rfl) (sh 2 [(106, aI (IntKind.wrap .i64 ((y28.length : Int) - 1))), (105, aR 0 10 g30)] (by kernel_rfl) ?_)
        obtain ⟨x87, h88, hm⟩ := bs hm
        refine dv 107 (v := .eptr 0 0 g30 10 (0 + Int.toNat (IntKind.wrap .i64 ((y28.length : Int) - 1))) 0) (ia_refO y28 .i64 (n := g30) (id := 0) (esz := 10) t56 t80 h88 (by omega) rfl (by kernel_rfl)) (by kernel_rfl) (sh 1 [(108, .eptr 0 0 g30 10 (0 + Int.toNat (IntKind.wrap .i64 ((y28.length : Int) - 1))) 8)] (by kernel_rfl) (dv 109 (v := aI x87.fCount) (ld_eptrO R_tabularyref19_Bucket y28 (n := g30) (esz := 10) (j := (IntKind.wrap .i64 ((y28.length : Int) - 1))) (off := 8) (id := 0) t3 rfl h88 (by omega) (by omega) (by kernel_rfl) (by kernel_rfl)) (by kernel_rfl) (sh 3 [(112, aB (decide (x87.fCount ≥ (IntKind.wrap .i64 (Int.tdiv (IntKind.wrap .i64 ((IntKind.wrap .i64 (((sll x6).length : Int) + a1)) - 1)) a1))))), (111, aB (decide (x87.fCount ≥ (IntKind.wrap .i64 (Int.tdiv (IntKind.wrap .i64 ((IntKind.wrap .i64 (((sll x6).length : Int) + a1)) - 1)) a1))))), (110, aI (IntKind.wrap .i64 (Int.tdiv (IntKind.wrap .i64 ((IntKind.wrap .i64 (((sll x6).length : Int) + a1)) - 1)) a1)))] (by kernel_rfl) ?_)))
        refine seg (decide (x87.fCount ≥ (IntKind.wrap .i64 (Int.tdiv (IntKind.wrap .i64 ((IntKind.wrap .i64 (((sll x6).length : Int) + a1)) - 1)) a1)))) [112, 111] (fun b => [(115, aB (b && (!y55))), (114, ifA b (aB (!y55)) (.undef)), (113, ifA b (aB y55) (.undef))]) 14 (by kernel_rfl) ?_ ?_ ?_
        ·
         intro Q h
         refine sh 3 [(115, aB (!y55)), (114, aB (!y55)), (113, aB y55)] (by kernel_rfl) ?_
         exact sameN (by kernel_rfl) (by kernel_rfl) h
        ·
         intro Q h
         refine sh 3 [(115, aB false), (114, .undef), (113, .undef)] (by kernel_rfl) ?_
         exact sameN (by kernel_rfl) (by kernel_rfl) h
        refine sh 1 [(116, aB ((decide (x87.fCount ≥ (IntKind.wrap .i64 (Int.tdiv (IntKind.wrap .i64 ((IntKind.wrap .i64 (((sll x6).length : Int) + a1)) - 1)) a1)))) && (!y55)))] (by kernel_rfl) (fin [(8, .pv (encSl R_api_Value x6)), (9, aI (IntKind.wrap .i64 (Int.tdiv (IntKind.wrap .i64 ((IntKind.wrap .i64 (((sll x6).length : Int) + a1)) - 1)) a1))), (10, aR 0 10 g30), (11, aI y29), (12, aI (IntKind.wrap .i64 ((y28.length : Int) - 1))), (13, aB y55), (116, aB ((decide (x87.fCount ≥ (IntKind.wrap .i64 (Int.tdiv (IntKind.wrap .i64 ((IntKind.wrap .i64 (((sll x6).length : Int) + a1)) - 1)) a1)))) && (!y55)))] rfl (by kernel_rfl) ?_)
        exact ⟨((decide (x87.fCount ≥ (IntKind.wrap .i64 (Int.tdiv (IntKind.wrap .i64 ((IntKind.wrap .i64 (((sll x6).length : Int) + a1)) - 1)) a1)))) && (!y55)), hm, rfl, rfl⟩
      refine rgd (shd 3 [(89, aB (decide (y29 > 0))), (88, aB (decide (y29 > 0))), (87, aI y29)] (by kernel_rfl) ?_)
      rcases bif_some hm with ⟨h89, hm⟩ | ⟨h89, hm⟩
      ·
       refine knownd [89, 88] h89 (by kernel_rfl) (shd 3 [(92, aI (IntKind.wrap .i64 (y29 - 1))), (91, aI y29), (90, .pv (encSl R_api_Value x6))] (by kernel_rfl) ?_)
       obtain ⟨x90, h91, hm⟩ := bs hm
       refine dvd 93 (v := .pv (.ptr (R_api_Value x90) 0)) (ia_slO R_api_Value x6 .i64 t52 t64 h91 rfl (by kernel_rfl)) (by kernel_rfl) (shd 3 [(96, aI y29), (95, .pv (encSl R_api_Value x6)), (94, .agg [aI x90.fKind, aI x90.fInt, aF x90.fFloat, aS x90.fText])] (by kernel_rfl) ?_)
       obtain ⟨x92, h93, hm⟩ := bs hm
       refine dvd 97 (v := .pv (.ptr (R_api_Value x92) 0)) (ia_slO R_api_Value x6 .i64 t52 t64 h93 rfl (by kernel_rfl)) (by kernel_rfl) (shd 1 [(98, .agg [aI x92.fKind, aI x92.fInt, aF x92.fFloat, aS x92.fText])] (by kernel_rfl) ?_)
       obtain ⟨x94, h95, hm⟩ := bs hm
       refine dvd 99 (cpure (by kernel_rfl) (ok_ref04_Cmp h95) (by kernel_rfl) (by kernel_rfl) (by kernel_rfl)) (by kernel_rfl) (shd 3 [(13, aB (x94 == 0)), (101, aB (x94 == 0)), (100, aB (x94 == 0))] (by kernel_rfl) (find [(8, .pv (encSl R_api_Value x6)), (9, aI (IntKind.wrap .i64 (Int.tdiv (IntKind.wrap .i64 ((IntKind.wrap .i64 (((sll x6).length : Int) + a1)) - 1)) a1))), (10, aR 0 10 g30), (11, aI y29), (12, aI (IntKind.wrap .i64 ((y28.length : Int) - 1))), (13, aB (x94 == 0))] rfl (by kernel_rfl) (by kernel_rfl) ?_))
       exact ⟨(x94 == 0), hm, rfl, rfl⟩
      ·
       refine knownd [89, 88] h89 (by kernel_rfl) (shd 13 [(13, aB false), (101, aB false), (100, .undef), (99, .undef), (98, .undef), (97, .undef), (96, .undef), (95, .undef), (94, .undef), (93, .undef), (92, .undef), (91, .undef), (90, .undef)] (by kernel_rfl) (find [(8, .pv (encSl R_api_Value x6)), (9, aI (IntKind.wrap .i64 (Int.tdiv (IntKind.wrap .i64 ((IntKind.wrap .i64 (((sll x6).length : Int) + a1)) - 1)) a1))), (10, aR 0 10 g30), (11, aI y29), (12, aI (IntKind.wrap .i64 ((y28.length : Int) - 1))), (13, aB false)] rfl (by kernel_rfl) (by kernel_rfl) ?_))
       exact ⟨false, hm, rfl, rfl⟩
     ·
      refine cf h54 (by kernel_rfl) (wp_exit ?_)
      exact .inr (⟨y28, aI y29, aB (decide (y29 < ((sll x6).length : Int))), g30, g32, hm, (mk_same (by kernel_rfl)), rfl, (by first | rfl | assumption | omega | (simp only [List.length_set, List.length_append, List.length_cons, List.length_nil, List.length_replicate, List.length_drop] at * <;> omega)), (by first | exact Nat.zero_le _ | exact Nat.le_refl _ | assumption | omega | (simp only [List.length_set, List.length_append, List.length_cons, List.length_nil, List.length_replicate, List.length_drop] at * <;> omega))⟩)
   refine sq (detn [(0, .pv (encSl R_api_Value a0)), (1, aI a1), (6, aI 0), (7, aI 0)] (by kernel_rfl) (bq ?_))
   refine loopF (fun mm t H => (∃ (y98 : Int) (y99 : Int), ref19_Build_l5 n a0 k5 mm y98 y99 = some r ∧ t = mk 154 [(0, .pv (encSl R_api_Value a0)), (1, aI a1), (6, aI y98), (7, aI y99)] ∧ H = [])) (⟨0, 0, hm, rfl, rfl⟩) ?_ ?_
   · rintro _ _ ⟨y98, y99, hm, _⟩; exact nomatch hm
   rintro m100 _ _ ⟨y98, y99, hm, rfl, rfl⟩
   simp only [ref19_Build_l5] at hm
   refine sq (sq (rg (sh 2 [(26, .pv (encSl R_api_Value a0)), (25, aI y99)] (by kernel_rfl) (dv 27 (v := aI ((sll a0).length : Int)) (len_slO R_api_Value a0 t52 (by kernel_rfl)) (by kernel_rfl) (sh 1 [(28, aB (decide (y99 < ((sll a0).length : Int))))] (by kernel_rfl) (fin [(0, .pv (encSl R_api_Value a0)), (1, aI a1), (6, aI y98), (7, aI y99), (28, aB (decide (y99 < ((sll a0).length : Int))))] rfl (by kernel_rfl) ?_))))))
   rcases bif_some hm with ⟨h101, hm⟩ | ⟨h101, hm⟩
   ·
    refine ct h101 (by kernel_rfl) (wp_skip (sq (bq ?_)))
    refine sq (sq (rg (sh 2 [(32, aI y99), (31, .pv (encSl R_api_Value a0))] (by kernel_rfl) ?_)))
    obtain ⟨x102, h103, hm⟩ := bs hm
    refine dv 33 (v := .pv (.ptr (R_api_Value x102) 0)) (ia_slO R_api_Value a0 .i64 t52 t64 h103 rfl (by kernel_rfl)) (by kernel_rfl) (sh 1 [(34, .agg [aI x102.fKind, aI x102.fInt, aF x102.fFloat, aS x102.fText])] (by kernel_rfl) ?_)
    obtain ⟨x104, h105, hm⟩ := bs hm
    refine dv 35 (cpure (by kernel_rfl) (ok_ref04_Right h105) (by kernel_rfl) (by kernel_rfl) (by kernel_rfl)) (by kernel_rfl) (sh 2 [(37, aB (!x104)), (36, aB (!x104))] (by kernel_rfl) ?_)
    refine seg (!x104) [37, 36] (fun b => [(57, aB (b || (((x102.fKind != 0) && (y98 != 0)) && (y98 != x102.fKind)))), (56, ifA b (.undef) (aB (((x102.fKind != 0) && (y98 != 0)) && (y98 != x102.fKind)))), (55, ifA b (.undef) (ifA ((x102.fKind != 0) && (y98 != 0)) (aB (y98 != x102.fKind)) (.undef))), (54, ifA b (.undef) (ifA ((x102.fKind != 0) && (y98 != 0)) (aI x102.fKind) (.undef))), (53, ifA b (.undef) (ifA ((x102.fKind != 0) && (y98 != 0)) (.pv (.ptr (R_api_Value x102) 0)) (.undef))), (52, ifA b (.undef) (ifA ((x102.fKind != 0) && (y98 != 0)) (.pv (.ptr (R_api_Value x102) 0)) (.undef))), (51, ifA b (.undef) (ifA ((x102.fKind != 0) && (y98 != 0)) (aI y99) (.undef))), (50, ifA b (.undef) (ifA ((x102.fKind != 0) && (y98 != 0)) (.pv (encSl R_api_Value a0)) (.undef))), (49, ifA b (.undef) (ifA ((x102.fKind != 0) && (y98 != 0)) (aI y98) (.undef))), (48, ifA b (.undef) (aB ((x102.fKind != 0) && (y98 != 0)))), (47, ifA b (.undef) (aB ((x102.fKind != 0) && (y98 != 0)))), (46, ifA b (.undef) (ifA (x102.fKind != 0) (aB (y98 != 0)) (.undef))), (45, ifA b (.undef) (ifA (x102.fKind != 0) (aI y98) (.undef))), (44, ifA b (.undef) (aB (x102.fKind != 0))), (43, ifA b (.undef) (aB (x102.fKind != 0))), (42, ifA b (.undef) (aI x102.fKind)), (41, ifA b (.undef) (.pv (.ptr (R_api_Value x102) 0))), (40, ifA b (.undef) (.pv (.ptr (R_api_Value x102) 0))), (39, ifA b (.undef) (aI y99)), (38, ifA b (.undef) (.pv (encSl R_api_Value a0)))]) 27 (by kernel_rfl) ?_ ?_ ?_
    ·
     intro Q h
     refine sh 20 [(57, aB true), (56, .undef), (55, .undef), (54, .undef), (53, .undef), (52, .undef), (51, .undef), (50, .undef), (49, .undef), (48, .undef), (47, .undef), (46, .undef), (45, .undef), (44, .undef), (43, .undef), (42, .undef), (41, .undef), (40, .undef), (39, .undef), (38, .undef)] (by kernel_rfl) ?_
     exact sameN (by kernel_rfl) (by kernel_rfl) h
    ·
     intro Q h
     refine sh 2 [(39, aI y99), (38, .pv (encSl R_api_Value a0))] (by kernel_rfl) (dv 40 (v := .pv (.ptr (R_api_Value x102) 0)) (ia_slO R_api_Value a0 .i64 t52 t64 h103 rfl (by kernel_rfl)) (by kernel_rfl) (sh 4 [(44, aB (x102.fKind != 0)), (43, aB (x102.fKind != 0)), (42, aI x102.fKind), (41, .pv (.ptr (R_api_Value x102) 0))] (by kernel_rfl) ?_))
     refine seg (x102.fKind != 0) [44, 43] (fun b => [(47, aB (b && (y98 != 0))), (46, ifA b (aB (y98 != 0)) (.undef)), (45, ifA b (aI y98) (.undef))]) 17 (by kernel_rfl) ?_ ?_ ?_
     ·
      intro Q h
      refine sh 3 [(47, aB (y98 != 0)), (46, aB (y98 != 0)), (45, aI y98)] (by kernel_rfl) ?_
      exact sameN (by kernel_rfl) (by kernel_rfl) h
     ·
      intro Q h
      refine sh 3 [(47, aB false), (46, .undef), (45, .undef)] (by kernel_rfl) ?_
      exact sameN (by kernel_rfl) (by kernel_rfl) h
     refine sh 1 [(48, aB ((x102.fKind != 0) && (y98 != 0)))] (by kernel_rfl) ?_
     refine seg ((x102.fKind != 0) && (y98 != 0)) [48, 47] (fun b => [(56, aB (b && (y98 != x102.fKind))), (55, ifA b (aB (y98 != x102.fKind)) (.undef)), (54, ifA b (aI x102.fKind) (.undef)), (53, ifA b (.pv (.ptr (R_api_Value x102) 0)) (.undef)), (52, ifA b (.pv (.ptr (R_api_Value x102) 0)) (.undef)), (51, ifA b (aI y99) (.undef)), (50, ifA b (.pv (encSl R_api_Value a0)) (.undef)), (49, ifA b (aI y98) (.undef))]) 26 (by kernel_rfl) ?_ ?_ ?_
     ·
      intro Q h
      refine sh 3 [(51, aI y99), (50, .pv (encSl R_api_Value a0)), (49, aI y98)] (by kernel_rfl) (dv 52 (v := .pv (.ptr (R_api_Value x102) 0)) (ia_slO R_api_Value a0 .i64 t52 t64 h103 rfl (by kernel_rfl)) (by kernel_rfl) (sh 4 [(56, aB (y98 != x102.fKind)), (55, aB (y98 != x102.fKind)), (54, aI x102.fKind), (53, .pv (.ptr (R_api_Value x102) 0))] (by kernel_rfl) ?_))
      exact sameN (by kernel_rfl) (by kernel_rfl) h
     ·
      intro Q h
      refine sh 8 [(56, aB false), (55, .undef), (54, .undef), (53, .undef), (52, .undef), (51, .undef), (50, .undef), (49, .undef)] (by kernel_rfl) ?_
      exact sameN (by kernel_rfl) (by kernel_rfl) h
     refine sh 1 [(57, aB (((x102.fKind != 0) && (y98 != 0)) && (y98 != x102.fKind)))] (by kernel_rfl) ?_
     exact sameN (by kernel_rfl) (by kernel_rfl) h
    refine fin [(0, .pv (encSl R_api_Value a0)), (1, aI a1), (6, aI y98), (7, aI y99), (57, aB ((!x104) || (((x102.fKind != 0) && (y98 != 0)) && (y98 != x102.fKind))))] rfl (by kernel_rfl) ?_
    rcases bif_some hm with ⟨h106, hm⟩ | ⟨h106, hm⟩
    ·
     refine ct h106 (by kernel_rfl) (sq (detn [(4, .pv .nils), (5, aI 2)] (by kernel_rfl) (wp_ret ?_)))
     obtain rfl := Option.some.inj hm
     exact ⟨trivial, by kernel_rfl⟩
    ·
     refine cf h106 (by kernel_rfl) (wp_skip (sq (rg (sh 2 [(59, aI y99), (58, .pv (encSl R_api_Value a0))] (by kernel_rfl) (dv 60 (v := .pv (.ptr (R_api_Value x102) 0)) (ia_slO R_api_Value a0 .i64 t52 t64 h103 rfl (by kernel_rfl)) (by kernel_rfl) (sh 3 [(63, aB (x102.fKind != 0)), (62, aI x102.fKind), (61, .pv (.ptr (R_api_Value x102) 0))] (by kernel_rfl) (fin [(0, .pv (encSl R_api_Value a0)), (1, aI a1), (6, aI y98), (7, aI y99), (63, aB (x102.fKind != 0))] rfl (by kernel_rfl) ?_)))))))
     rcases bif_some hm with ⟨h107, hm⟩ | ⟨h107, hm⟩
     ·
      refine ct h107 (by kernel_rfl) (rg (sh 2 [(65, aI y99), (64, .pv (encSl R_api_Value a0))] (by kernel_rfl) (dv 66 (v := .pv (.ptr (R_api_Value x102) 0)) (ia_slO R_api_Value a0 .i64 t52 t64 h103 rfl (by kernel_rfl)) (by kernel_rfl) (sh 3 [(6, aI x102.fKind), (68, aI x102.fKind), (67, .pv (.ptr (R_api_Value x102) 0))] (by kernel_rfl) (fin [(0, .pv (encSl R_api_Value a0)), (1, aI a1), (6, aI x102.fKind), (7, aI y99)] rfl (by kernel_rfl) (detn [(0, .pv (encSl R_api_Value a0)), (1, aI a1), (6, aI x102.fKind), (7, aI (IntKind.wrap .i64 (y99 + 1)))] (by kernel_rfl) ?_))))))
      exact ⟨_, _, tidyL [(0, .pv (encSl R_api_Value a0)), (1, aI a1), (6, aI x102.fKind), (7, aI (IntKind.wrap .i64 (y99 + 1)))] [] (by kernel_rfl), ⟨x102.fKind, (IntKind.wrap .i64 (y99 + 1)), hm, rfl, rfl⟩⟩
     ·
      refine cf h107 (by kernel_rfl) (wp_skip (detn [(0, .pv (encSl R_api_Value a0)), (1, aI a1), (6, aI y98), (7, aI (IntKind.wrap .i64 (y99 + 1)))] (by kernel_rfl) ?_))
      exact ⟨_, _, tidyL [(0, .pv (encSl R_api_Value a0)), (1, aI a1), (6, aI y98), (7, aI (IntKind.wrap .i64 (y99 + 1)))] [] (by kernel_rfl), ⟨y98, (IntKind.wrap .i64 (y99 + 1)), hm, rfl, rfl⟩⟩
   ·
    refine cf h101 (by kernel_rfl) (wp_exit ?_)
    exact ⟨(decide (y99 < ((sll a0).length : Int))), y98, y99, hm, rfl, rfl⟩
end Go.Ab.S1
