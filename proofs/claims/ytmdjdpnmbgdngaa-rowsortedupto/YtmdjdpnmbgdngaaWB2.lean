import Derived.Test.YtmdjdpnmbgdngaaWB1
namespace Go.Ab.S1
open Go Go.Ab Go.Pl
open Go.Proofs.Try
set_option linter.unusedVariables false
set_option linter.unusedSimpArgs false
set_option maxRecDepth 100000
theorem ok_slices_partitionCmpFunc_Value_row_Cmp_r (m0 : Nat) (f0 : Nat) {n : Nat} {a0 : (List (Option (List api_Value)))} {a1 : Int} {a2 : Int} {a3 : Int} {r : (List (Option (List api_Value))) × Int × Bool} (hm0 : a0.length = m0) (hf0 : f0 ≤ a0.length) (hm : slices_partitionCmpFunc_Value_row_Cmp_r n a0 a1 a2 a3 = some r) :
    ∃ vv H1, call G n 100 [aR 0 1 m0, aI a1, aI a2, aI a3, .pv (.fn 12 [] [])] [bR 22 1 (rSl R_api_Value) a0 f0 0] = some (.ret vv, H1) ∧ (match r with | (r0, r1, r2) => (∃ (e3 : Nat), r0.length = m0 ∧ e3 ≤ r0.length ∧ vv = .tup [aI r1, aB r2] ∧ H1 = [bR 22 1 (rSl R_api_Value) r0 e3 0])) := by
  unfold slices_partitionCmpFunc_Value_row_Cmp_r at hm
  obtain ⟨n, rfl, h0⟩ := at1_some hm
  replace hm := h0; clear h0
  refine callE 178 [(0, aR 0 1 m0), (1, aI a1), (2, aI a2), (3, aI a3), (4, .pv (.fn 12 [] []))] func100 rfl (by kernel_rfl) (sq (detn [(0, aR 0 1 m0), (1, aI a1), (2, aI a2), (3, aI a3), (4, .pv (.fn 12 [] []))] (by kernel_rfl) (sq (rgd (shd 6 [(19, aI a3), (18, aR 0 1 m0), (17, aI a3), (16, aR 0 1 m0), (15, aI a1), (14, aR 0 1 m0)] (by kernel_rfl) ?_)))))
  obtain ⟨x1, h2, hm⟩ := bs hm
  refine dvd 20 (v := .eptr 0 0 m0 1 (0 + Int.toNat a3) 0) (ia_refO a0 .i64 (n := m0) (id := 0) (esz := 1) t25 t22 h2 (by omega) rfl (by kernel_rfl)) (by kernel_rfl) (dvd 21 (v := .pv (encSl R_api_Value x1)) (ld_eptrO (rSl R_api_Value) a0 (n := m0) (esz := 1) (j := a3) (off := 0) (id := 0) t22 rfl h2 (by omega) (by omega) (by kernel_rfl) (by kernel_rfl)) (by kernel_rfl) (shd 2 [(23, aI a1), (22, aR 0 1 m0)] (by kernel_rfl) ?_))
  obtain ⟨x3, h4, hm⟩ := bs hm
  refine dvd 24 (v := .eptr 0 0 m0 1 (0 + Int.toNat a1) 0) (ia_refO a0 .i64 (n := m0) (id := 0) (esz := 1) t25 t22 h4 (by omega) rfl (by kernel_rfl)) (by kernel_rfl) (dvd 25 (v := .pv (encSl R_api_Value x3)) (ld_eptrO (rSl R_api_Value) a0 (n := m0) (esz := 1) (j := a1) (off := 0) (id := 0) t22 rfl h4 (by omega) (by omega) (by kernel_rfl) (by kernel_rfl)) (by kernel_rfl) (dvd 26 (v := .eptr 0 0 m0 1 (0 + Int.toNat a1) 0) (ia_refO a0 .i64 (n := m0) (id := 0) (esz := 1) t25 t22 h4 (by omega) rfl (by kernel_rfl)) (by kernel_rfl) (dOd [] [bR 22 1 (rSl R_api_Value) (a0.set (Int.toNat a1) x1) m0 0] (st_eptrO (rSl R_api_Value) a0 x1 (n := m0) (esz := 1) (v := .pv (encSl R_api_Value x1)) (j := a1) (off := 0) (id := 0) t22 rfl h4 (by omega) (by omega) rfl rfl rfl rfl (by kernel_rfl)) (by kernel_rfl) ?_)))
  obtain ⟨x5, h6, hm⟩ := bs hm
  refine dvd 27 (v := .eptr 0 0 m0 1 (0 + Int.toNat a3) 0) (ia_refO (a0.set (Int.toNat a1) x1) .i64 (n := m0) (id := 0) (esz := 1) t25 t22 h6 (by first | rfl | assumption | omega | (simp only [List.length_set, List.length_append, List.length_cons, List.length_nil, List.length_replicate, List.length_drop] at * <;> omega)) rfl (by kernel_rfl)) (by kernel_rfl) (dOd [] [bR 22 1 (rSl R_api_Value) ((a0.set (Int.toNat a1) x1).set (Int.toNat a3) x3) m0 0] (st_eptrO (rSl R_api_Value) (a0.set (Int.toNat a1) x1) x3 (n := m0) (esz := 1) (v := .pv (encSl R_api_Value x3)) (j := a3) (off := 0) (id := 0) t22 rfl h6 (by first | rfl | assumption | omega | (simp only [List.length_set, List.length_append, List.length_cons, List.length_nil, List.length_replicate, List.length_drop] at * <;> omega)) (by first | exact Nat.zero_le _ | exact Nat.le_refl _ | assumption | omega | (simp only [List.length_set, List.length_append, List.length_cons, List.length_nil, List.length_replicate, List.length_drop] at * <;> omega)) rfl rfl rfl rfl (by kernel_rfl)) (by kernel_rfl) (find [(0, aR 0 1 m0), (1, aI a1), (2, aI a2), (4, .pv (.fn 12 [] []))] rfl (by kernel_rfl) (by kernel_rfl) (sq (detn [(0, aR 0 1 m0), (1, aI a1), (4, .pv (.fn 12 [] [])), (12, aI (IntKind.wrap .i64 (a1 + 1))), (13, aI (IntKind.wrap .i64 (a2 - 1)))] (by kernel_rfl) ?_))))
  obtain ⟨k9, hk9, hm⟩ := withK_some hm
  refine mid (fun t H => (∃ (y7 : Int) (y8 : Bool), k9 y7 = some r ∧ t = mk 178 [(0, aR 0 1 m0), (1, aI a1), (4, .pv (.fn 12 [] [])), (12, aI y7), (13, aI (IntKind.wrap .i64 (a2 - 1))), (47, aB y8)] ∧ H = [bR 22 1 (rSl R_api_Value) ((a0.set (Int.toNat a1) x1).set (Int.toNat a3) x3) m0 0])) ?_ ?_
  ·
   rintro _ _ ⟨y7, y8, hm, rfl, rfl⟩
   subst hk9
   obtain ⟨k12, hk12, hm⟩ := withK_some hm
   refine mid (fun t H => (∃ (y10 : Int) (y11 : Bool), k12 y10 = some r ∧ t = mk 178 [(0, aR 0 1 m0), (1, aI a1), (4, .pv (.fn 12 [] [])), (12, aI y7), (13, aI y10), (47, aB y8), (66, aB y11)] ∧ H = [bR 22 1 (rSl R_api_Value) ((a0.set (Int.toNat a1) x1).set (Int.toNat a3) x3) m0 0])) ?_ ?_
   ·
    rintro _ _ ⟨y10, y11, hm, rfl, rfl⟩
    subst hk12
    refine sq (sq (detn [(0, aR 0 1 m0), (1, aI a1), (4, .pv (.fn 12 [] [])), (12, aI y7), (13, aI y10), (71, aB (decide (y7 > y10)))] (by kernel_rfl) ?_))
    rcases bif_some hm with ⟨h13, hm⟩ | ⟨h13, hm⟩
    ·
     refine ct h13 (by kernel_rfl) (sq (rgd (shd 6 [(77, aI a1), (76, aR 0 1 m0), (75, aI a1), (74, aR 0 1 m0), (73, aI y10), (72, aR 0 1 m0)] (by kernel_rfl) ?_)))
     obtain ⟨x14, h15, hm⟩ := bs hm
     refine dvd 78 (v := .eptr 0 0 m0 1 (0 + Int.toNat a1) 0) (ia_refO ((a0.set (Int.toNat a1) x1).set (Int.toNat a3) x3) .i64 (n := m0) (id := 0) (esz := 1) t25 t22 h15 (by first | rfl | assumption | omega | (simp only [List.length_set, List.length_append, List.length_cons, List.length_nil, List.length_replicate, List.length_drop] at * <;> omega)) rfl (by kernel_rfl)) (by kernel_rfl) (dvd 79 (v := .pv (encSl R_api_Value x14)) (ld_eptrO (rSl R_api_Value) ((a0.set (Int.toNat a1) x1).set (Int.toNat a3) x3) (n := m0) (esz := 1) (j := a1) (off := 0) (id := 0) t22 rfl h15 (by first | rfl | assumption | omega | (simp only [List.length_set, List.length_append, List.length_cons, List.length_nil, List.length_replicate, List.length_drop] at * <;> omega)) (by first | exact Nat.zero_le _ | exact Nat.le_refl _ | assumption | omega | (simp only [List.length_set, List.length_append, List.length_cons, List.length_nil, List.length_replicate, List.length_drop] at * <;> omega)) (by kernel_rfl) (by kernel_rfl)) (by kernel_rfl) (shd 2 [(81, aI y10), (80, aR 0 1 m0)] (by kernel_rfl) ?_))
     obtain ⟨x16, h17, hm⟩ := bs hm
     refine dvd 82 (v := .eptr 0 0 m0 1 (0 + Int.toNat y10) 0) (ia_refO ((a0.set (Int.toNat a1) x1).set (Int.toNat a3) x3) .i64 (n := m0) (id := 0) (esz := 1) t25 t22 h17 (by first | rfl | assumption | omega | (simp only [List.length_set, List.length_append, List.length_cons, List.length_nil, List.length_replicate, List.length_drop] at * <;> omega)) rfl (by kernel_rfl)) (by kernel_rfl) (dvd 83 (v := .pv (encSl R_api_Value x16)) (ld_eptrO (rSl R_api_Value) ((a0.set (Int.toNat a1) x1).set (Int.toNat a3) x3) (n := m0) (esz := 1) (j := y10) (off := 0) (id := 0) t22 rfl h17 (by first | rfl | assumption | omega | (simp only [List.length_set, List.length_append, List.length_cons, List.length_nil, List.length_replicate, List.length_drop] at * <;> omega)) (by first | exact Nat.zero_le _ | exact Nat.le_refl _ | assumption | omega | (simp only [List.length_set, List.length_append, List.length_cons, List.length_nil, List.length_replicate, List.length_drop] at * <;> omega)) (by kernel_rfl) (by kernel_rfl)) (by kernel_rfl) (dvd 84 (v := .eptr 0 0 m0 1 (0 + Int.toNat y10) 0) (ia_refO ((a0.set (Int.toNat a1) x1).set (Int.toNat a3) x3) .i64 (n := m0) (id := 0) (esz := 1) t25 t22 h17 (by first | rfl | assumption | omega | (simp only [List.length_set, List.length_append, List.length_cons, List.length_nil, List.length_replicate, List.length_drop] at * <;> omega)) rfl (by kernel_rfl)) (by kernel_rfl) (dOd [] [bR 22 1 (rSl R_api_Value) (((a0.set (Int.toNat a1) x1).set (Int.toNat a3) x3).set (Int.toNat y10) x14) m0 0] (st_eptrO (rSl R_api_Value) ((a0.set (Int.toNat a1) x1).set (Int.toNat a3) x3) x14 (n := m0) (esz := 1) (v := .pv (encSl R_api_Value x14)) (j := y10) (off := 0) (id := 0) t22 rfl h17 (by first | rfl | assumption | omega | (simp only [List.length_set, List.length_append, List.length_cons, List.length_nil, List.length_replicate, List.length_drop] at * <;> omega)) (by first | exact Nat.zero_le _ | exact Nat.le_refl _ | assumption | omega | (simp only [List.length_set, List.length_append, List.length_cons, List.length_nil, List.length_replicate, List.length_drop] at * <;> omega)) rfl rfl rfl rfl (by kernel_rfl)) (by kernel_rfl) ?_)))
     obtain ⟨x18, h19, hm⟩ := bs hm
     refine dvd 85 (v := .eptr 0 0 m0 1 (0 + Int.toNat a1) 0) (ia_refO (((a0.set (Int.toNat a1) x1).set (Int.toNat a3) x3).set (Int.toNat y10) x14) .i64 (n := m0) (id := 0) (esz := 1) t25 t22 h19 (by first | rfl | assumption | omega | (simp only [List.length_set, List.length_append, List.length_cons, List.length_nil, List.length_replicate, List.length_drop] at * <;> omega)) rfl (by kernel_rfl)) (by kernel_rfl) (dOd [] [bR 22 1 (rSl R_api_Value) ((((a0.set (Int.toNat a1) x1).set (Int.toNat a3) x3).set (Int.toNat y10) x14).set (Int.toNat a1) x16) m0 0] (st_eptrO (rSl R_api_Value) (((a0.set (Int.toNat a1) x1).set (Int.toNat a3) x3).set (Int.toNat y10) x14) x16 (n := m0) (esz := 1) (v := .pv (encSl R_api_Value x16)) (j := a1) (off := 0) (id := 0) t22 rfl h19 (by first | rfl | assumption | omega | (simp only [List.length_set, List.length_append, List.length_cons, List.length_nil, List.length_replicate, List.length_drop] at * <;> omega)) (by first | exact Nat.zero_le _ | exact Nat.le_refl _ | assumption | omega | (simp only [List.length_set, List.length_append, List.length_cons, List.length_nil, List.length_replicate, List.length_drop] at * <;> omega)) rfl rfl rfl rfl (by kernel_rfl)) (by kernel_rfl) (find [(13, aI y10)] rfl (by kernel_rfl) (by kernel_rfl) (sq (detn [(10, aI y10), (11, aB true)] (by kernel_rfl) (wp_ret ?_)))))
     obtain rfl := Option.some.inj hm
     exact ⟨trivial, .tup [aI y10, aB true], [bR 22 1 (rSl R_api_Value) ((((a0.set (Int.toNat a1) x1).set (Int.toNat a3) x3).set (Int.toNat y10) x14).set (Int.toNat a1) x16) m0 0], by kernel_rfl, m0, (by first | rfl | assumption | omega | (simp only [List.length_set, List.length_append, List.length_cons, List.length_nil, List.length_replicate, List.length_drop] at * <;> omega)), (by first | exact Nat.zero_le _ | exact Nat.le_refl _ | assumption | omega | (simp only [List.length_set, List.length_append, List.length_cons, List.length_nil, List.length_replicate, List.length_drop] at * <;> omega)), rfl, rfl⟩
    ·
     refine cf h13 (by kernel_rfl) (wp_skip (sq (rgd (shd 6 [(92, aI y10), (91, aR 0 1 m0), (90, aI y10), (89, aR 0 1 m0), (88, aI y7), (87, aR 0 1 m0)] (by kernel_rfl) ?_))))
     obtain ⟨x20, h21, hm⟩ := bs hm
     refine dvd 93 (v := .eptr 0 0 m0 1 (0 + Int.toNat y10) 0) (ia_refO ((a0.set (Int.toNat a1) x1).set (Int.toNat a3) x3) .i64 (n := m0) (id := 0) (esz := 1) t25 t22 h21 (by first | rfl | assumption | omega | (simp only [List.length_set, List.length_append, List.length_cons, List.length_nil, List.length_replicate, List.length_drop] at * <;> omega)) rfl (by kernel_rfl)) (by kernel_rfl) (dvd 94 (v := .pv (encSl R_api_Value x20)) (ld_eptrO (rSl R_api_Value) ((a0.set (Int.toNat a1) x1).set (Int.toNat a3) x3) (n := m0) (esz := 1) (j := y10) (off := 0) (id := 0) t22 rfl h21 (by first | rfl | assumption | omega | (simp only [List.length_set, List.length_append, List.length_cons, List.length_nil, List.length_replicate, List.length_drop] at * <;> omega)) (by first | exact Nat.zero_le _ | exact Nat.le_refl _ | assumption | omega | (simp only [List.length_set, List.length_append, List.length_cons, List.length_nil, List.length_replicate, List.length_drop] at * <;> omega)) (by kernel_rfl) (by kernel_rfl)) (by kernel_rfl) (shd 2 [(96, aI y7), (95, aR 0 1 m0)] (by kernel_rfl) ?_))
     obtain ⟨x22, h23, hm⟩ := bs hm
     refine dvd 97 (v := .eptr 0 0 m0 1 (0 + Int.toNat y7) 0) (ia_refO ((a0.set (Int.toNat a1) x1).set (Int.toNat a3) x3) .i64 (n := m0) (id := 0) (esz := 1) t25 t22 h23 (by first | rfl | assumption | omega | (simp only [List.length_set, List.length_append, List.length_cons, List.length_nil, List.length_replicate, List.length_drop] at * <;> omega)) rfl (by kernel_rfl)) (by kernel_rfl) (dvd 98 (v := .pv (encSl R_api_Value x22)) (ld_eptrO (rSl R_api_Value) ((a0.set (Int.toNat a1) x1).set (Int.toNat a3) x3) (n := m0) (esz := 1) (j := y7) (off := 0) (id := 0) t22 rfl h23 (by first | rfl | assumption | omega | (simp only [List.length_set, List.length_append, List.length_cons, List.length_nil, List.length_replicate, List.length_drop] at * <;> omega)) (by first | exact Nat.zero_le _ | exact Nat.le_refl _ | assumption | omega | (simp only [List.length_set, List.length_append, List.length_cons, List.length_nil, List.length_replicate, List.length_drop] at * <;> omega)) (by kernel_rfl) (by kernel_rfl)) (by kernel_rfl) (dvd 99 (v := .eptr 0 0 m0 1 (0 + Int.toNat y7) 0) (ia_refO ((a0.set (Int.toNat a1) x1).set (Int.toNat a3) x3) .i64 (n := m0) (id := 0) (esz := 1) t25 t22 h23 (by first | rfl | assumption | omega | (simp only [List.length_set, List.length_append, List.length_cons, List.length_nil, List.length_replicate, List.length_drop] at * <;> omega)) rfl (by kernel_rfl)) (by kernel_rfl) (dOd [] [bR 22 1 (rSl R_api_Value) (((a0.set (Int.toNat a1) x1).set (Int.toNat a3) x3).set (Int.toNat y7) x20) m0 0] (st_eptrO (rSl R_api_Value) ((a0.set (Int.toNat a1) x1).set (Int.toNat a3) x3) x20 (n := m0) (esz := 1) (v := .pv (encSl R_api_Value x20)) (j := y7) (off := 0) (id := 0) t22 rfl h23 (by first | rfl | assumption | omega | (simp only [List.length_set, List.length_append, List.length_cons, List.length_nil, List.length_replicate, List.length_drop] at * <;> omega)) (by first | exact Nat.zero_le _ | exact Nat.le_refl _ | assumption | omega | (simp only [List.length_set, List.length_append, List.length_cons, List.length_nil, List.length_replicate, List.length_drop] at * <;> omega)) rfl rfl rfl rfl (by kernel_rfl)) (by kernel_rfl) ?_)))
     obtain ⟨x24, h25, hm⟩ := bs hm
     refine dvd 100 (v := .eptr 0 0 m0 1 (0 + Int.toNat y10) 0) (ia_refO (((a0.set (Int.toNat a1) x1).set (Int.toNat a3) x3).set (Int.toNat y7) x20) .i64 (n := m0) (id := 0) (esz := 1) t25 t22 h25 (by first | rfl | assumption | omega | (simp only [List.length_set, List.length_append, List.length_cons, List.length_nil, List.length_replicate, List.length_drop] at * <;> omega)) rfl (by kernel_rfl)) (by kernel_rfl) (dOd [] [bR 22 1 (rSl R_api_Value) ((((a0.set (Int.toNat a1) x1).set (Int.toNat a3) x3).set (Int.toNat y7) x20).set (Int.toNat y10) x22) m0 0] (st_eptrO (rSl R_api_Value) (((a0.set (Int.toNat a1) x1).set (Int.toNat a3) x3).set (Int.toNat y7) x20) x22 (n := m0) (esz := 1) (v := .pv (encSl R_api_Value x22)) (j := y10) (off := 0) (id := 0) t22 rfl h25 (by first | rfl | assumption | omega | (simp only [List.length_set, List.length_append, List.length_cons, List.length_nil, List.length_replicate, List.length_drop] at * <;> omega)) (by first | exact Nat.zero_le _ | exact Nat.le_refl _ | assumption | omega | (simp only [List.length_set, List.length_append, List.length_cons, List.length_nil, List.length_replicate, List.length_drop] at * <;> omega)) rfl rfl rfl rfl (by kernel_rfl)) (by kernel_rfl) (find [(0, aR 0 1 m0), (1, aI a1), (4, .pv (.fn 12 [] [])), (12, aI y7), (13, aI y10)] rfl (by kernel_rfl) (by kernel_rfl) (sq (detn [(0, aR 0 1 m0), (1, aI a1), (4, .pv (.fn 12 [] [])), (12, aI (IntKind.wrap .i64 (y7 + 1))), (13, aI y10)] (by kernel_rfl) (sq (detn [(0, aR 0 1 m0), (1, aI a1), (4, .pv (.fn 12 [] [])), (12, aI (IntKind.wrap .i64 (y7 + 1))), (13, aI (IntKind.wrap .i64 (y10 - 1)))] (by kernel_rfl) ?_))))))
     obtain ⟨k33, hk33, hm⟩ := withK_some hm
     refine mid (fun t H => (∃ (y26 : (List (Option (List api_Value)))) (y27 : Int) (y28 : Int) (y29 : Bool) (g31 : Nat), k33 y26 y28 = some r ∧ t = mk 178 [(0, aR 0 1 m0), (1, aI a1), (4, .pv (.fn 12 [] [])), (12, aI y27), (13, aI y28), (144, aB y29)] ∧ H = [bR 22 1 (rSl R_api_Value) y26 g31 0] ∧ y26.length = m0 ∧ g31 ≤ y26.length)) ?_ ?_
     ·
      rintro _ _ ⟨y26, y27, y28, y29, g31, hm, rfl, rfl, q30, q32⟩
      subst hk33
      refine sq (rgd (shd 6 [(168, aI a1), (167, aR 0 1 m0), (166, aI a1), (165, aR 0 1 m0), (164, aI y28), (163, aR 0 1 m0)] (by kernel_rfl) ?_))
      obtain ⟨x34, h35, hm⟩ := bs hm
      refine dvd 169 (v := .eptr 0 0 m0 1 (0 + Int.toNat a1) 0) (ia_refO y26 .i64 (n := m0) (id := 0) (esz := 1) t25 t22 h35 (by omega) rfl (by kernel_rfl)) (by kernel_rfl) (dvd 170 (v := .pv (encSl R_api_Value x34)) (ld_eptrO (rSl R_api_Value) y26 (n := m0) (esz := 1) (j := a1) (off := 0) (id := 0) t22 rfl h35 (by omega) (by omega) (by kernel_rfl) (by kernel_rfl)) (by kernel_rfl) (shd 2 [(172, aI y28), (171, aR 0 1 m0)] (by kernel_rfl) ?_))
      obtain ⟨x36, h37, hm⟩ := bs hm
      refine dvd 173 (v := .eptr 0 0 m0 1 (0 + Int.toNat y28) 0) (ia_refO y26 .i64 (n := m0) (id := 0) (esz := 1) t25 t22 h37 (by omega) rfl (by kernel_rfl)) (by kernel_rfl) (dvd 174 (v := .pv (encSl R_api_Value x36)) (ld_eptrO (rSl R_api_Value) y26 (n := m0) (esz := 1) (j := y28) (off := 0) (id := 0) t22 rfl h37 (by omega) (by omega) (by kernel_rfl) (by kernel_rfl)) (by kernel_rfl) (dvd 175 (v := .eptr 0 0 m0 1 (0 + Int.toNat y28) 0) (ia_refO y26 .i64 (n := m0) (id := 0) (esz := 1) t25 t22 h37 (by omega) rfl (by kernel_rfl)) (by kernel_rfl) (dOd [] [bR 22 1 (rSl R_api_Value) (y26.set (Int.toNat y28) x34) m0 0] (st_eptrO (rSl R_api_Value) y26 x34 (n := m0) (esz := 1) (v := .pv (encSl R_api_Value x34)) (j := y28) (off := 0) (id := 0) t22 rfl h37 (by omega) (by omega) rfl rfl rfl rfl (by kernel_rfl)) (by kernel_rfl) ?_)))
      obtain ⟨x38, h39, hm⟩ := bs hm
      refine dvd 176 (v := .eptr 0 0 m0 1 (0 + Int.toNat a1) 0) (ia_refO (y26.set (Int.toNat y28) x34) .i64 (n := m0) (id := 0) (esz := 1) t25 t22 h39 (by first | rfl | assumption | omega | (simp only [List.length_set, List.length_append, List.length_cons, List.length_nil, List.length_replicate, List.length_drop] at * <;> omega)) rfl (by kernel_rfl)) (by kernel_rfl) (dOd [] [bR 22 1 (rSl R_api_Value) ((y26.set (Int.toNat y28) x34).set (Int.toNat a1) x36) m0 0] (st_eptrO (rSl R_api_Value) (y26.set (Int.toNat y28) x34) x36 (n := m0) (esz := 1) (v := .pv (encSl R_api_Value x36)) (j := a1) (off := 0) (id := 0) t22 rfl h39 (by first | rfl | assumption | omega | (simp only [List.length_set, List.length_append, List.length_cons, List.length_nil, List.length_replicate, List.length_drop] at * <;> omega)) (by first | exact Nat.zero_le _ | exact Nat.le_refl _ | assumption | omega | (simp only [List.length_set, List.length_append, List.length_cons, List.length_nil, List.length_replicate, List.length_drop] at * <;> omega)) rfl rfl rfl rfl (by kernel_rfl)) (by kernel_rfl) (find [(13, aI y28)] rfl (by kernel_rfl) (by kernel_rfl) (sq (detn [(10, aI y28), (11, aB false)] (by kernel_rfl) (wp_ret ?_)))))
      obtain rfl := Option.some.inj hm
      exact ⟨trivial, .tup [aI y28, aB false], [bR 22 1 (rSl R_api_Value) ((y26.set (Int.toNat y28) x34).set (Int.toNat a1) x36) m0 0], by kernel_rfl, m0, (by first | rfl | assumption | omega | (simp only [List.length_set, List.length_append, List.length_cons, List.length_nil, List.length_replicate, List.length_drop] at * <;> omega)), (by first | exact Nat.zero_le _ | exact Nat.le_refl _ | assumption | omega | (simp only [List.length_set, List.length_append, List.length_cons, List.length_nil, List.length_replicate, List.length_drop] at * <;> omega)), rfl, rfl⟩
     refine bq ?_
     refine loopF (fun mm t H => (∃ (y46 : (List (Option (List api_Value)))) (y47 : Int) (y48 : Int) (g50 : Nat), slices_partitionCmpFunc_Value_row_Cmp_r_l13 n a1 k33 mm y46 y47 y48 = some r ∧ t = mk 178 [(0, aR 0 1 m0), (1, aI a1), (4, .pv (.fn 12 [] [])), (12, aI y47), (13, aI y48)] ∧ H = [bR 22 1 (rSl R_api_Value) y46 g50 0] ∧ y46.length = m0 ∧ g50 ≤ y46.length)) (⟨((((a0.set (Int.toNat a1) x1).set (Int.toNat a3) x3).set (Int.toNat y7) x20).set (Int.toNat y10) x22), (IntKind.wrap .i64 (y7 + 1)), (IntKind.wrap .i64 (y10 - 1)), m0, hm, rfl, rfl, (by first | rfl | assumption | omega | (simp only [List.length_set, List.length_append, List.length_cons, List.length_nil, List.length_replicate, List.length_drop] at * <;> omega)), (by first | exact Nat.zero_le _ | exact Nat.le_refl _ | assumption | omega | (simp only [List.length_set, List.length_append, List.length_cons, List.length_nil, List.length_replicate, List.length_drop] at * <;> omega))⟩) ?_ ?_
     · rintro _ _ ⟨y46, y47, y48, g50, hm, _⟩; exact nomatch hm
     rintro m52 _ _ ⟨y46, y47, y48, g50, hm, rfl, rfl, q49, q51⟩
     simp only [slices_partitionCmpFunc_Value_row_Cmp_r_l13] at hm
     refine bq ?_
     obtain ⟨k55, hk55, hm⟩ := withK_some hm
     refine mid (fun t H => (∃ (y53 : Int) (y54 : Bool), k55 y53 = some r ∧ t = mk 178 [(0, aR 0 1 m0), (1, aI a1), (4, .pv (.fn 12 [] [])), (12, aI y53), (13, aI y48), (120, aB y54)] ∧ H = [bR 22 1 (rSl R_api_Value) y46 g50 0])) ?_ ?_
     ·
      rintro _ _ ⟨y53, y54, hm, rfl, rfl⟩
      subst hk55
      obtain ⟨k58, hk58, hm⟩ := withK_some hm
      refine mid (fun t H => (∃ (y56 : Int) (y57 : Bool), k58 y56 = some r ∧ t = mk 178 [(0, aR 0 1 m0), (1, aI a1), (4, .pv (.fn 12 [] [])), (12, aI y53), (13, aI y56), (120, aB y54), (139, aB y57)] ∧ H = [bR 22 1 (rSl R_api_Value) y46 g50 0])) ?_ ?_
      ·
       rintro _ _ ⟨y56, y57, hm, rfl, rfl⟩
       subst hk58
       refine sq (sq (detn [(0, aR 0 1 m0), (1, aI a1), (4, .pv (.fn 12 [] [])), (12, aI y53), (13, aI y56), (144, aB (decide (y53 > y56)))] (by kernel_rfl) ?_))
       rcases bif_some hm with ⟨h59, hm⟩ | ⟨h59, hm⟩
       ·
        refine ct h59 (by kernel_rfl) (wp_exit ?_)
        exact ⟨y46, y53, y56, (decide (y53 > y56)), g50, hm, rfl, rfl, (by first | rfl | assumption | omega | (simp only [List.length_set, List.length_append, List.length_cons, List.length_nil, List.length_replicate, List.length_drop] at * <;> omega)), (by first | exact Nat.zero_le _ | exact Nat.le_refl _ | assumption | omega | (simp only [List.length_set, List.length_append, List.length_cons, List.length_nil, List.length_replicate, List.length_drop] at * <;> omega))⟩
       ·
        refine cf h59 (by kernel_rfl) (wp_skip (sq (rgd (shd 6 [(150, aI y56), (149, aR 0 1 m0), (148, aI y56), (147, aR 0 1 m0), (146, aI y53), (145, aR 0 1 m0)] (by kernel_rfl) ?_))))
        obtain ⟨x60, h61, hm⟩ := bs hm
        refine dvd 151 (v := .eptr 0 0 m0 1 (0 + Int.toNat y56) 0) (ia_refO y46 .i64 (n := m0) (id := 0) (esz := 1) t25 t22 h61 (by omega) rfl (by kernel_rfl)) (by kernel_rfl) (dvd 152 (v := .pv (encSl R_api_Value x60)) (ld_eptrO (rSl R_api_Value) y46 (n := m0) (esz := 1) (j := y56) (off := 0) (id := 0) t22 rfl h61 (by omega) (by omega) (by kernel_rfl) (by kernel_rfl)) (by kernel_rfl) (shd 2 [(154, aI y53), (153, aR 0 1 m0)] (by kernel_rfl) ?_))
        obtain ⟨x62, h63, hm⟩ := bs hm
        refine dvd 155 (v := .eptr 0 0 m0 1 (0 + Int.toNat y53) 0) (ia_refO y46 .i64 (n := m0) (id := 0) (esz := 1) t25 t22 h63 (by omega) rfl (by kernel_rfl)) (by kernel_rfl) (dvd 156 (v := .pv (encSl R_api_Value x62)) (ld_eptrO (rSl R_api_Value) y46 (n := m0) (esz := 1) (j := y53) (off := 0) (id := 0) t22 rfl h63 (by omega) (by omega) (by kernel_rfl) (by kernel_rfl)) (by kernel_rfl) (dvd 157 (v := .eptr 0 0 m0 1 (0 + Int.toNat y53) 0) (ia_refO y46 .i64 (n := m0) (id := 0) (esz := 1) t25 t22 h63 (by omega) rfl (by kernel_rfl)) (by kernel_rfl) (dOd [] [bR 22 1 (rSl R_api_Value) (y46.set (Int.toNat y53) x60) m0 0] (st_eptrO (rSl R_api_Value) y46 x60 (n := m0) (esz := 1) (v := .pv (encSl R_api_Value x60)) (j := y53) (off := 0) (id := 0) t22 rfl h63 (by omega) (by omega) rfl rfl rfl rfl (by kernel_rfl)) (by kernel_rfl) ?_)))
        obtain ⟨x64, h65, hm⟩ := bs hm
        refine dvd 158 (v := .eptr 0 0 m0 1 (0 + Int.toNat y56) 0) (ia_refO (y46.set (Int.toNat y53) x60) .i64 (n := m0) (id := 0) (esz := 1) t25 t22 h65 (by first | rfl | assumption | omega | (simp only [List.length_set, List.length_append, List.length_cons, List.length_nil, List.length_replicate, List.length_drop] at * <;> omega)) rfl (by kernel_rfl)) (by kernel_rfl) (dOd [] [bR 22 1 (rSl R_api_Value) ((y46.set (Int.toNat y53) x60).set (Int.toNat y56) x62) m0 0] (st_eptrO (rSl R_api_Value) (y46.set (Int.toNat y53) x60) x62 (n := m0) (esz := 1) (v := .pv (encSl R_api_Value x62)) (j := y56) (off := 0) (id := 0) t22 rfl h65 (by first | rfl | assumption | omega | (simp only [List.length_set, List.length_append, List.length_cons, List.length_nil, List.length_replicate, List.length_drop] at * <;> omega)) (by first | exact Nat.zero_le _ | exact Nat.le_refl _ | assumption | omega | (simp only [List.length_set, List.length_append, List.length_cons, List.length_nil, List.length_replicate, List.length_drop] at * <;> omega)) rfl rfl rfl rfl (by kernel_rfl)) (by kernel_rfl) (find [(0, aR 0 1 m0), (1, aI a1), (4, .pv (.fn 12 [] [])), (12, aI y53), (13, aI y56)] rfl (by kernel_rfl) (by kernel_rfl) (sq (detn [(0, aR 0 1 m0), (1, aI a1), (4, .pv (.fn 12 [] [])), (12, aI (IntKind.wrap .i64 (y53 + 1))), (13, aI y56)] (by kernel_rfl) (detn [(0, aR 0 1 m0), (1, aI a1), (4, .pv (.fn 12 [] [])), (12, aI (IntKind.wrap .i64 (y53 + 1))), (13, aI (IntKind.wrap .i64 (y56 - 1)))] (by kernel_rfl) ?_)))))
        exact ⟨_, _, tidyL [(0, aR 0 1 m0), (1, aI a1), (4, .pv (.fn 12 [] [])), (12, aI (IntKind.wrap .i64 (y53 + 1))), (13, aI (IntKind.wrap .i64 (y56 - 1)))] [bR 22 1 (rSl R_api_Value) ((y46.set (Int.toNat y53) x60).set (Int.toNat y56) x62) m0 0] (by kernel_rfl), ⟨((y46.set (Int.toNat y53) x60).set (Int.toNat y56) x62), (IntKind.wrap .i64 (y53 + 1)), (IntKind.wrap .i64 (y56 - 1)), m0, hm, rfl, rfl, (by first | rfl | assumption | omega | (simp only [List.length_set, List.length_append, List.length_cons, List.length_nil, List.length_replicate, List.length_drop] at * <;> omega)), (by first | exact Nat.zero_le _ | exact Nat.le_refl _ | assumption | omega | (simp only [List.length_set, List.length_append, List.length_cons, List.length_nil, List.length_replicate, List.length_drop] at * <;> omega))⟩⟩
      refine bq ?_
      refine loopF (fun mm t H => (∃ (y67 : Int), slices_partitionCmpFunc_Value_row_Cmp_r_l15 n a1 y46 y53 k58 mm y67 = some r ∧ t = mk 178 [(0, aR 0 1 m0), (1, aI a1), (4, .pv (.fn 12 [] [])), (12, aI y53), (13, aI y67), (120, aB y54)] ∧ H = [bR 22 1 (rSl R_api_Value) y46 g50 0])) (⟨y48, hm, rfl, rfl⟩) ?_ ?_
      · rintro _ _ ⟨y67, hm, _⟩; exact nomatch hm
      rintro m68 _ _ ⟨y67, hm, rfl, rfl⟩
      simp only [slices_partitionCmpFunc_Value_row_Cmp_r_l15] at hm
      refine sq (sq (rgd (shd 4 [(126, aB (decide (y53 ≤ y67))), (125, aB (decide (y53 ≤ y67))), (124, aI y67), (123, aI y53)] (by kernel_rfl) ?_)))
      rcases bif_some hm with ⟨h69, hm⟩ | ⟨h69, hm⟩
      ·
       refine knownd [126, 125] h69 (by kernel_rfl) (shd 3 [(129, aI y67), (128, aR 0 1 m0), (127, .pv (.fn 12 [] []))] (by kernel_rfl) ?_)
       obtain ⟨x70, h71, hm⟩ := bs hm
       refine dvd 130 (v := .eptr 0 0 m0 1 (0 + Int.toNat y67) 0) (ia_refO y46 .i64 (n := m0) (id := 0) (esz := 1) t25 t22 h71 (by omega) rfl (by kernel_rfl)) (by kernel_rfl) (dvd 131 (v := .pv (encSl R_api_Value x70)) (ld_eptrO (rSl R_api_Value) y46 (n := m0) (esz := 1) (j := y67) (off := 0) (id := 0) t22 rfl h71 (by omega) (by omega) (by kernel_rfl) (by kernel_rfl)) (by kernel_rfl) (shd 2 [(133, aI a1), (132, aR 0 1 m0)] (by kernel_rfl) ?_))
       obtain ⟨x72, h73, hm⟩ := bs hm
       refine dvd 134 (v := .eptr 0 0 m0 1 (0 + Int.toNat a1) 0) (ia_refO y46 .i64 (n := m0) (id := 0) (esz := 1) t25 t22 h73 (by omega) rfl (by kernel_rfl)) (by kernel_rfl) (dvd 135 (v := .pv (encSl R_api_Value x72)) (ld_eptrO (rSl R_api_Value) y46 (n := m0) (esz := 1) (j := a1) (off := 0) (id := 0) t22 rfl h73 (by omega) (by omega) (by kernel_rfl) (by kernel_rfl)) (by kernel_rfl) ?_)
       obtain ⟨x74, h75, hm⟩ := bs hm
       refine dvd 136 (cpure (by kernel_rfl) (ok_row_Cmp h75) (by kernel_rfl) (by kernel_rfl) (by kernel_rfl)) (by kernel_rfl) (shd 3 [(139, aB (!(decide (x74 < 0)))), (138, aB (!(decide (x74 < 0)))), (137, aB (decide (x74 < 0)))] (by kernel_rfl) (find [(0, aR 0 1 m0), (1, aI a1), (4, .pv (.fn 12 [] [])), (12, aI y53), (13, aI y67), (120, aB y54), (139, aB (!(decide (x74 < 0))))] rfl (by kernel_rfl) (by kernel_rfl) ?_))
       rcases bif_some hm with ⟨h76, hm⟩ | ⟨h76, hm⟩
       ·
        refine ct h76 (by kernel_rfl) (wp_skip (bq (detn [(0, aR 0 1 m0), (1, aI a1), (4, .pv (.fn 12 [] [])), (12, aI y53), (13, aI (IntKind.wrap .i64 (y67 - 1))), (120, aB y54)] (by kernel_rfl) ?_)))
        exact ⟨_, _, tidyL [(0, aR 0 1 m0), (1, aI a1), (4, .pv (.fn 12 [] [])), (12, aI y53), (13, aI (IntKind.wrap .i64 (y67 - 1))), (120, aB y54)] [bR 22 1 (rSl R_api_Value) y46 g50 0] (by kernel_rfl), ⟨(IntKind.wrap .i64 (y67 - 1)), hm, rfl, rfl⟩⟩
       ·
        refine cf h76 (by kernel_rfl) (wp_exit ?_)
        exact ⟨y67, (!(decide (x74 < 0))), hm, rfl, rfl⟩
      ·
       refine knownd [126, 125] h69 (by kernel_rfl) (shd 13 [(139, aB false), (138, .undef), (137, .undef), (136, .undef), (135, .undef), (134, .undef), (133, .undef), (132, .undef), (131, .undef), (130, .undef), (129, .undef), (128, .undef), (127, .undef)] (by kernel_rfl) (find [(0, aR 0 1 m0), (1, aI a1), (4, .pv (.fn 12 [] [])), (12, aI y53), (13, aI y67), (120, aB y54), (139, aB false)] rfl (by kernel_rfl) (by kernel_rfl) (cF (by kernel_rfl) (wp_exit ?_))))
       exact ⟨y67, false, hm, rfl, rfl⟩
     refine bq ?_
     refine loopF (fun mm t H => (∃ (y78 : Int), slices_partitionCmpFunc_Value_row_Cmp_r_l13x n a1 y46 y48 k55 mm y78 = some r ∧ t = mk 178 [(0, aR 0 1 m0), (1, aI a1), (4, .pv (.fn 12 [] [])), (12, aI y78), (13, aI y48)] ∧ H = [bR 22 1 (rSl R_api_Value) y46 g50 0])) (⟨y47, hm, rfl, rfl⟩) ?_ ?_
     · rintro _ _ ⟨y78, hm, _⟩; exact nomatch hm
     rintro m79 _ _ ⟨y78, hm, rfl, rfl⟩
     simp only [slices_partitionCmpFunc_Value_row_Cmp_r_l13x] at hm
     refine sq (sq (rgd (shd 4 [(108, aB (decide (y78 ≤ y48))), (107, aB (decide (y78 ≤ y48))), (106, aI y48), (105, aI y78)] (by kernel_rfl) ?_)))
     rcases bif_some hm with ⟨h80, hm⟩ | ⟨h80, hm⟩
     ·
      refine knownd [108, 107] h80 (by kernel_rfl) (shd 3 [(111, aI y78), (110, aR 0 1 m0), (109, .pv (.fn 12 [] []))] (by kernel_rfl) ?_)
      obtain ⟨x81, h82, hm⟩ := bs hm
      refine dvd 112 (v := .eptr 0 0 m0 1 (0 + Int.toNat y78) 0) (ia_refO y46 .i64 (n := m0) (id := 0) (esz := 1) t25 t22 h82 (by omega) rfl (by kernel_rfl)) (by kernel_rfl) (dvd 113 (v := .pv (encSl R_api_Value x81)) (ld_eptrO (rSl R_api_Value) y46 (n := m0) (esz := 1) (j := y78) (off := 0) (id := 0) t22 rfl h82 (by omega) (by omega) (by kernel_rfl) (by kernel_rfl)) (by kernel_rfl) (shd 2 [(115, aI a1), (114, aR 0 1 m0)] (by kernel_rfl) ?_))
      obtain ⟨x83, h84, hm⟩ := bs hm
      refine dvd 116 (v := .eptr 0 0 m0 1 (0 + Int.toNat a1) 0) (ia_refO y46 .i64 (n := m0) (id := 0) (esz := 1) t25 t22 h84 (by omega) rfl (by kernel_rfl)) (by kernel_rfl) (dvd 117 (v := .pv (encSl R_api_Value x83)) (ld_eptrO (rSl R_api_Value) y46 (n := m0) (esz := 1) (j := a1) (off := 0) (id := 0) t22 rfl h84 (by omega) (by omega) (by kernel_rfl) (by kernel_rfl)) (by kernel_rfl) ?_)
      obtain ⟨x85, h86, hm⟩ := bs hm
      refine dvd 118 (cpure (by kernel_rfl) (ok_row_Cmp h86) (by kernel_rfl) (by kernel_rfl) (by kernel_rfl)) (by kernel_rfl) (shd 2 [(120, aB (decide (x85 < 0))), (119, aB (decide (x85 < 0)))] (by kernel_rfl) (find [(0, aR 0 1 m0), (1, aI a1), (4, .pv (.fn 12 [] [])), (12, aI y78), (13, aI y48), (120, aB (decide (x85 < 0)))] rfl (by kernel_rfl) (by kernel_rfl) ?_))
      rcases bif_some hm with ⟨h87, hm⟩ | ⟨h87, hm⟩
      ·
       refine ct h87 (by kernel_rfl) (wp_skip (bq (detn [(0, aR 0 1 m0), (1, aI a1), (4, .pv (.fn 12 [] [])), (12, aI (IntKind.wrap .i64 (y78 + 1))), (13, aI y48)] (by kernel_rfl) ?_)))
       exact ⟨_, _, tidyL [(0, aR 0 1 m0), (1, aI a1), (4, .pv (.fn 12 [] [])), (12, aI (IntKind.wrap .i64 (y78 + 1))), (13, aI y48)] [bR 22 1 (rSl R_api_Value) y46 g50 0] (by kernel_rfl), ⟨(IntKind.wrap .i64 (y78 + 1)), hm, rfl, rfl⟩⟩
      ·
       refine cf h87 (by kernel_rfl) (wp_exit ?_)
       exact ⟨y78, (decide (x85 < 0)), hm, rfl, rfl⟩
     ·
      refine knownd [108, 107] h80 (by kernel_rfl) (shd 12 [(120, aB false), (119, .undef), (118, .undef), (117, .undef), (116, .undef), (115, .undef), (114, .undef), (113, .undef), (112, .undef), (111, .undef), (110, .undef), (109, .undef)] (by kernel_rfl) (find [(0, aR 0 1 m0), (1, aI a1), (4, .pv (.fn 12 [] [])), (12, aI y78), (13, aI y48), (120, aB false)] rfl (by kernel_rfl) (by kernel_rfl) (cF (by kernel_rfl) (wp_exit ?_))))
      exact ⟨y78, false, hm, rfl, rfl⟩
   refine bq ?_
   refine loopF (fun mm t H => (∃ (y89 : Int), slices_partitionCmpFunc_Value_row_Cmp_r_l5 n a0 a1 a3 x1 x3 y7 k12 mm y89 = some r ∧ t = mk 178 [(0, aR 0 1 m0), (1, aI a1), (4, .pv (.fn 12 [] [])), (12, aI y7), (13, aI y89), (47, aB y8)] ∧ H = [bR 22 1 (rSl R_api_Value) ((a0.set (Int.toNat a1) x1).set (Int.toNat a3) x3) m0 0])) (⟨(IntKind.wrap .i64 (a2 - 1)), hm, rfl, rfl⟩) ?_ ?_
   · rintro _ _ ⟨y89, hm, _⟩; exact nomatch hm
   rintro m90 _ _ ⟨y89, hm, rfl, rfl⟩
   simp only [slices_partitionCmpFunc_Value_row_Cmp_r_l5] at hm
   refine sq (sq (rgd (shd 4 [(53, aB (decide (y7 ≤ y89))), (52, aB (decide (y7 ≤ y89))), (51, aI y89), (50, aI y7)] (by kernel_rfl) ?_)))
   rcases bif_some hm with ⟨h91, hm⟩ | ⟨h91, hm⟩
   ·
    refine knownd [53, 52] h91 (by kernel_rfl) (shd 3 [(56, aI y89), (55, aR 0 1 m0), (54, .pv (.fn 12 [] []))] (by kernel_rfl) ?_)
    obtain ⟨x92, h93, hm⟩ := bs hm
    refine dvd 57 (v := .eptr 0 0 m0 1 (0 + Int.toNat y89) 0) (ia_refO ((a0.set (Int.toNat a1) x1).set (Int.toNat a3) x3) .i64 (n := m0) (id := 0) (esz := 1) t25 t22 h93 (by first | rfl | assumption | omega | (simp only [List.length_set, List.length_append, List.length_cons, List.length_nil, List.length_replicate, List.length_drop] at * <;> omega)) rfl (by kernel_rfl)) (by kernel_rfl) (dvd 58 (v := .pv (encSl R_api_Value x92)) (ld_eptrO (rSl R_api_Value) ((a0.set (Int.toNat a1) x1).set (Int.toNat a3) x3) (n := m0) (esz := 1) (j := y89) (off := 0) (id := 0) t22 rfl h93 (by first | rfl | assumption | omega | (simp only [List.length_set, List.length_append, List.length_cons, List.length_nil, List.length_replicate, List.length_drop] at * <;> omega)) (by first | exact Nat.zero_le _ | exact Nat.le_refl _ | assumption | omega | (simp only [List.length_set, List.length_append, List.length_cons, List.length_nil, List.length_replicate, List.length_drop] at * <;> omega)) (by kernel_rfl) (by kernel_rfl)) (by kernel_rfl) (shd 2 [(60, aI a1), (59, aR 0 1 m0)] (by kernel_rfl) ?_))
    obtain ⟨x94, h95, hm⟩ := bs hm
    refine dvd 61 (v := .eptr 0 0 m0 1 (0 + Int.toNat a1) 0) (ia_refO ((a0.set (Int.toNat a1) x1).set (Int.toNat a3) x3) .i64 (n := m0) (id := 0) (esz := 1) t25 t22 h95 (by first | rfl | assumption | omega | (simp only [List.length_set, List.length_append, List.length_cons, List.length_nil, List.length_replicate, List.length_drop] at * <;> omega)) rfl (by kernel_rfl)) (by kernel_rfl) (dvd 62 (v := .pv (encSl R_api_Value x94)) (ld_eptrO (rSl R_api_Value) ((a0.set (Int.toNat a1) x1).set (Int.toNat a3) x3) (n := m0) (esz := 1) (j := a1) (off := 0) (id := 0) t22 rfl h95 (by first | rfl | assumption | omega | (simp only [List.length_set, List.length_append, List.length_cons, List.length_nil, List.length_replicate, List.length_drop] at * <;> omega)) (by first | exact Nat.zero_le _ | exact Nat.le_refl _ | assumption | omega | (simp only [List.length_set, List.length_append, List.length_cons, List.length_nil, List.length_replicate, List.length_drop] at * <;> omega)) (by kernel_rfl) (by kernel_rfl)) (by kernel_rfl) ?_)
    obtain ⟨x96, h97, hm⟩ := bs hm
    refine dvd 63 (cpure (by kernel_rfl) (ok_row_Cmp h97) (by kernel_rfl) (by kernel_rfl) (by kernel_rfl)) (by kernel_rfl) (shd 3 [(66, aB (!(decide (x96 < 0)))), (65, aB (!(decide (x96 < 0)))), (64, aB (decide (x96 < 0)))] (by kernel_rfl) (find [(0, aR 0 1 m0), (1, aI a1), (4, .pv (.fn 12 [] [])), (12, aI y7), (13, aI y89), (47, aB y8), (66, aB (!(decide (x96 < 0))))] rfl (by kernel_rfl) (by kernel_rfl) ?_))
    rcases bif_some hm with ⟨h98, hm⟩ | ⟨h98, hm⟩
    ·
     refine ct h98 (by kernel_rfl) (wp_skip (bq (detn [(0, aR 0 1 m0), (1, aI a1), (4, .pv (.fn 12 [] [])), (12, aI y7), (13, aI (IntKind.wrap .i64 (y89 - 1))), (47, aB y8)] (by kernel_rfl) ?_)))
     exact ⟨_, _, tidyL [(0, aR 0 1 m0), (1, aI a1), (4, .pv (.fn 12 [] [])), (12, aI y7), (13, aI (IntKind.wrap .i64 (y89 - 1))), (47, aB y8)] [bR 22 1 (rSl R_api_Value) ((a0.set (Int.toNat a1) x1).set (Int.toNat a3) x3) m0 0] (by kernel_rfl), ⟨(IntKind.wrap .i64 (y89 - 1)), hm, rfl, rfl⟩⟩
    ·
     refine cf h98 (by kernel_rfl) (wp_exit ?_)
     exact ⟨y89, (!(decide (x96 < 0))), hm, rfl, rfl⟩
   ·
    refine knownd [53, 52] h91 (by kernel_rfl) (shd 13 [(66, aB false), (65, .undef), (64, .undef), (63, .undef), (62, .undef), (61, .undef), (60, .undef), (59, .undef), (58, .undef), (57, .undef), (56, .undef), (55, .undef), (54, .undef)] (by kernel_rfl) (find [(0, aR 0 1 m0), (1, aI a1), (4, .pv (.fn 12 [] [])), (12, aI y7), (13, aI y89), (47, aB y8), (66, aB false)] rfl (by kernel_rfl) (by kernel_rfl) (cF (by kernel_rfl) (wp_exit ?_))))
    exact ⟨y89, false, hm, rfl, rfl⟩
  refine bq ?_
  refine loopF (fun mm t H => (∃ (y100 : Int), slices_partitionCmpFunc_Value_row_Cmp_r_l3 n a0 a1 a2 a3 x1 x3 k9 mm y100 = some r ∧ t = mk 178 [(0, aR 0 1 m0), (1, aI a1), (4, .pv (.fn 12 [] [])), (12, aI y100), (13, aI (IntKind.wrap .i64 (a2 - 1)))] ∧ H = [bR 22 1 (rSl R_api_Value) ((a0.set (Int.toNat a1) x1).set (Int.toNat a3) x3) m0 0])) (⟨(IntKind.wrap .i64 (a1 + 1)), hm, rfl, rfl⟩) ?_ ?_
  · rintro _ _ ⟨y100, hm, _⟩; exact nomatch hm
  rintro m101 _ _ ⟨y100, hm, rfl, rfl⟩
  simp only [slices_partitionCmpFunc_Value_row_Cmp_r_l3] at hm
  refine sq (sq (rgd (shd 4 [(35, aB (decide (y100 ≤ (IntKind.wrap .i64 (a2 - 1))))), (34, aB (decide (y100 ≤ (IntKind.wrap .i64 (a2 - 1))))), (33, aI (IntKind.wrap .i64 (a2 - 1))), (32, aI y100)] (by kernel_rfl) ?_)))
  rcases bif_some hm with ⟨h102, hm⟩ | ⟨h102, hm⟩
  ·
   refine knownd [35, 34] h102 (by kernel_rfl) (shd 3 [(38, aI y100), (37, aR 0 1 m0), (36, .pv (.fn 12 [] []))] (by kernel_rfl) ?_)
   obtain ⟨x103, h104, hm⟩ := bs hm
   refine dvd 39 (v := .eptr 0 0 m0 1 (0 + Int.toNat y100) 0) (ia_refO ((a0.set (Int.toNat a1) x1).set (Int.toNat a3) x3) .i64 (n := m0) (id := 0) (esz := 1) t25 t22 h104 (by first | rfl | assumption | omega | (simp only [List.length_set, List.length_append, List.length_cons, List.length_nil, List.length_replicate, List.length_drop] at * <;> omega)) rfl (by kernel_rfl)) (by kernel_rfl) (dvd 40 (v := .pv (encSl R_api_Value x103)) (ld_eptrO (rSl R_api_Value) ((a0.set (Int.toNat a1) x1).set (Int.toNat a3) x3) (n := m0) (esz := 1) (j := y100) (off := 0) (id := 0) t22 rfl h104 (by first | rfl | assumption | omega | (simp only [List.length_set, List.length_append, List.length_cons, List.length_nil, List.length_replicate, List.length_drop] at * <;> omega)) (by first | exact Nat.zero_le _ | exact Nat.le_refl _ | assumption | omega | (simp only [List.length_set, List.length_append, List.length_cons, List.length_nil, List.length_replicate, List.length_drop] at * <;> omega)) (by kernel_rfl) (by kernel_rfl)) (by kernel_rfl) (shd 2 [(42, aI a1), (41, aR 0 1 m0)] (by kernel_rfl) ?_))
   obtain ⟨x105, h106, hm⟩ := bs hm
   refine dvd 43 (v := .eptr 0 0 m0 1 (0 + Int.toNat a1) 0) (ia_refO ((a0.set (Int.toNat a1) x1).set (Int.toNat a3) x3) .i64 (n := m0) (id := 0) (esz := 1) t25 t22 h106 (by first | rfl | assumption | omega | (simp only [List.length_set, List.length_append, List.length_cons, List.length_nil, List.length_replicate, List.length_drop] at * <;> omega)) rfl (by kernel_rfl)) (by kernel_rfl) (dvd 44 (v := .pv (encSl R_api_Value x105)) (ld_eptrO (rSl R_api_Value) ((a0.set (Int.toNat a1) x1).set (Int.toNat a3) x3) (n := m0) (esz := 1) (j := a1) (off := 0) (id := 0) t22 rfl h106 (by first | rfl | assumption | omega | (simp only [List.length_set, List.length_append, List.length_cons, List.length_nil, List.length_replicate, List.length_drop] at * <;> omega)) (by first | exact Nat.zero_le _ | exact Nat.le_refl _ | assumption | omega | (simp only [List.length_set, List.length_append, List.length_cons, List.length_nil, List.length_replicate, List.length_drop] at * <;> omega)) (by kernel_rfl) (by kernel_rfl)) (by kernel_rfl) ?_)
   obtain ⟨x107, h108, hm⟩ := bs hm
   refine dvd 45 (cpure (by kernel_rfl) (ok_row_Cmp h108) (by kernel_rfl) (by kernel_rfl) (by kernel_rfl)) (by kernel_rfl) (shd 2 [(47, aB (decide (x107 < 0))), (46, aB (decide (x107 < 0)))] (by kernel_rfl) (find [(0, aR 0 1 m0), (1, aI a1), (4, .pv (.fn 12 [] [])), (12, aI y100), (13, aI (IntKind.wrap .i64 (a2 - 1))), (47, aB (decide (x107 < 0)))] rfl (by kernel_rfl) (by kernel_rfl) ?_))
   rcases bif_some hm with ⟨h109, hm⟩ | ⟨h109, hm⟩
   ·
    refine ct h109 (by kernel_rfl) (wp_skip (bq (detn [(0, aR 0 1 m0), (1, aI a1), (4, .pv (.fn 12 [] [])), (12, aI (IntKind.wrap .i64 (y100 + 1))), (13, aI (IntKind.wrap .i64 (a2 - 1)))] (by kernel_rfl) ?_)))
    exact ⟨_, _, tidyL [(0, aR 0 1 m0), (1, aI a1), (4, .pv (.fn 12 [] [])), (12, aI (IntKind.wrap .i64 (y100 + 1))), (13, aI (IntKind.wrap .i64 (a2 - 1)))] [bR 22 1 (rSl R_api_Value) ((a0.set (Int.toNat a1) x1).set (Int.toNat a3) x3) m0 0] (by kernel_rfl), ⟨(IntKind.wrap .i64 (y100 + 1)), hm, rfl, rfl⟩⟩
   ·
    refine cf h109 (by kernel_rfl) (wp_exit ?_)
    exact ⟨y100, (decide (x107 < 0)), hm, rfl, rfl⟩
  ·
   refine knownd [35, 34] h102 (by kernel_rfl) (shd 12 [(47, aB false), (46, .undef), (45, .undef), (44, .undef), (43, .undef), (42, .undef), (41, .undef), (40, .undef), (39, .undef), (38, .undef), (37, .undef), (36, .undef)] (by kernel_rfl) (find [(0, aR 0 1 m0), (1, aI a1), (4, .pv (.fn 12 [] [])), (12, aI y100), (13, aI (IntKind.wrap .i64 (a2 - 1))), (47, aB false)] rfl (by kernel_rfl) (by kernel_rfl) (cF (by kernel_rfl) (wp_exit ?_))))
   exact ⟨y100, false, hm, rfl, rfl⟩
theorem ok_slices_nextPowerOfTwo {n : Nat} {a0 : Int} {r : Int} (hm : slices_nextPowerOfTwo n a0 = some r) :
    call G n 105 [aI a0] [] = some (.ret (aU r), []) := by
  unfold slices_nextPowerOfTwo at hm
  obtain ⟨n, rfl, h0⟩ := at1_some hm
  replace hm := h0; clear h0
  refine callL 7 [(0, aI a0)] func105 rfl (by kernel_rfl) (sq (detn [(0, aI a0)] (by kernel_rfl) (sq (rg (sh 2 [(4, aU (IntKind.wrap .u64 a0)), (3, aI a0)] (by kernel_rfl) ?_)))))
  obtain ⟨x1, h2, hm⟩ := bs hm
  refine dv 5 (cpure (by kernel_rfl) (ok_math_bits_Len h2) (by kernel_rfl) (by kernel_rfl) (by kernel_rfl)) (by kernel_rfl) ?_
  obtain ⟨_, h3, hm⟩ := bs hm
  refine dv 6 (v := aU (iShl .u64 1 x1)) (shlO h3 (by kernel_rfl)) (by kernel_rfl) (sh 1 [(2, aU (iShl .u64 1 x1))] (by kernel_rfl) (fin [(2, aU (iShl .u64 1 x1))] rfl (by kernel_rfl) (wp_ret ?_)))
  obtain rfl := Option.some.inj hm
  exact ⟨trivial, by kernel_rfl⟩
theorem ok_slices_xorshift_Next {n : Nat} {a0 : Int} {r : Unit} (hm : slices_xorshift_Next n a0 = some r) :
    ∃ vv H1, call G n 106 [.ptr 0 0] [.box [aU a0] false] = some (.ret vv, H1) ∧ (vv = aU (iXor .u64 (iXor .u64 (iXor .u64 a0 (iShl .u64 a0 13)) (iShr .u64 (iXor .u64 a0 (iShl .u64 a0 13)) 7)) (iShl .u64 (iXor .u64 (iXor .u64 a0 (iShl .u64 a0 13)) (iShr .u64 (iXor .u64 a0 (iShl .u64 a0 13)) 7)) 17)) ∧ H1 = [.box [aU (iXor .u64 (iXor .u64 (iXor .u64 a0 (iShl .u64 a0 13)) (iShr .u64 (iXor .u64 a0 (iShl .u64 a0 13)) 7)) (iShl .u64 (iXor .u64 (iXor .u64 a0 (iShl .u64 a0 13)) (iShr .u64 (iXor .u64 a0 (iShl .u64 a0 13)) 7)) 17))] false]) := by
  unfold slices_xorshift_Next at hm
  obtain ⟨n, rfl, h0⟩ := at1_some hm
  replace hm := h0; clear h0
  refine callE 33 [(0, .ptr 0 0)] func106 rfl (by kernel_rfl) (sq (detn [(0, .ptr 0 0)] (by kernel_rfl) (sq (rgd (std 10 [(11, .ptr 0 0), (10, aU (iXor .u64 a0 (iShl .u64 a0 13))), (9, aU (iShl .u64 a0 13)), (8, aU a0), (7, .ptr 0 0), (6, .ptr 0 0), (5, aU a0), (4, .ptr 0 0), (3, .ptr 0 0)] [.box [aU (iXor .u64 a0 (iShl .u64 a0 13))] false] (by kernel_rfl) (find [(0, .ptr 0 0)] rfl (by kernel_rfl) (by kernel_rfl) (sq (rgd (std 10 [(20, .ptr 0 0), (19, aU (iXor .u64 (iXor .u64 a0 (iShl .u64 a0 13)) (iShr .u64 (iXor .u64 a0 (iShl .u64 a0 13)) 7))), (18, aU (iShr .u64 (iXor .u64 a0 (iShl .u64 a0 13)) 7)), (17, aU (iXor .u64 a0 (iShl .u64 a0 13))), (16, .ptr 0 0), (15, .ptr 0 0), (14, aU (iXor .u64 a0 (iShl .u64 a0 13))), (13, .ptr 0 0), (12, .ptr 0 0)] [.box [aU (iXor .u64 (iXor .u64 a0 (iShl .u64 a0 13)) (iShr .u64 (iXor .u64 a0 (iShl .u64 a0 13)) 7))] false] (by kernel_rfl) (find [(0, .ptr 0 0)] rfl (by kernel_rfl) (by kernel_rfl) (sq (rgd ?_))))))))))))
  refine std 10 [(29, .ptr 0 0), (28, aU (iXor .u64 (iXor .u64 (iXor .u64 a0 (iShl .u64 a0 13)) (iShr .u64 (iXor .u64 a0 (iShl .u64 a0 13)) 7)) (iShl .u64 (iXor .u64 (iXor .u64 a0 (iShl .u64 a0 13)) (iShr .u64 (iXor .u64 a0 (iShl .u64 a0 13)) 7)) 17))), (27, aU (iShl .u64 (iXor .u64 (iXor .u64 a0 (iShl .u64 a0 13)) (iShr .u64 (iXor .u64 a0 (iShl .u64 a0 13)) 7)) 17)), (26, aU (iXor .u64 (iXor .u64 a0 (iShl .u64 a0 13)) (iShr .u64 (iXor .u64 a0 (iShl .u64 a0 13)) 7))), (25, .ptr 0 0), (24, .ptr 0 0), (23, aU (iXor .u64 (iXor .u64 a0 (iShl .u64 a0 13)) (iShr .u64 (iXor .u64 a0 (iShl .u64 a0 13)) 7))), (22, .ptr 0 0), (21, .ptr 0 0)] [.box [aU (iXor .u64 (iXor .u64 (iXor .u64 a0 (iShl .u64 a0 13)) (iShr .u64 (iXor .u64 a0 (iShl .u64 a0 13)) 7)) (iShl .u64 (iXor .u64 (iXor .u64 a0 (iShl .u64 a0 13)) (iShr .u64 (iXor .u64 a0 (iShl .u64 a0 13)) 7)) 17))] false] (by kernel_rfl) (find [(0, .ptr 0 0)] rfl (by kernel_rfl) (by kernel_rfl) (sq (detn [(2, aU (iXor .u64 (iXor .u64 (iXor .u64 a0 (iShl .u64 a0 13)) (iShr .u64 (iXor .u64 a0 (iShl .u64 a0 13)) 7)) (iShl .u64 (iXor .u64 (iXor .u64 a0 (iShl .u64 a0 13)) (iShr .u64 (iXor .u64 a0 (iShl .u64 a0 13)) 7)) 17)))] (by kernel_rfl) (wp_ret ?_))))
  obtain rfl := Option.some.inj hm
  exact ⟨trivial, aU (iXor .u64 (iXor .u64 (iXor .u64 a0 (iShl .u64 a0 13)) (iShr .u64 (iXor .u64 a0 (iShl .u64 a0 13)) 7)) (iShl .u64 (iXor .u64 (iXor .u64 a0 (iShl .u64 a0 13)) (iShr .u64 (iXor .u64 a0 (iShl .u64 a0 13)) 7)) 17)), [.box [aU (iXor .u64 (iXor .u64 (iXor .u64 a0 (iShl .u64 a0 13)) (iShr .u64 (iXor .u64 a0 (iShl .u64 a0 13)) 7)) (iShl .u64 (iXor .u64 (iXor .u64 a0 (iShl .u64 a0 13)) (iShr .u64 (iXor .u64 a0 (iShl .u64 a0 13)) 7)) 17))] false], by kernel_rfl, rfl, rfl⟩
theorem ok_slices_breakPatternsCmpFunc_Value_row_Cmp_r (m0 : Nat) (f0 : Nat) {n : Nat} {a0 : (List (Option (List api_Value)))} {a1 : Int} {a2 : Int} {r : (List (Option (List api_Value)))} (hm0 : a0.length = m0) (hf0 : f0 ≤ a0.length) (hm : slices_breakPatternsCmpFunc_Value_row_Cmp_r n a0 a1 a2 = some r) :
    ∃ vv H1, call G n 95 [aR 0 1 m0, aI a1, aI a2, .pv (.fn 12 [] [])] [bR 22 1 (rSl R_api_Value) a0 f0 0] = some (.ret vv, H1) ∧ (match r with | r0 => (∃ (e1 : Nat), r0.length = m0 ∧ e1 ≤ r0.length ∧ vv = .tup [] ∧ H1 = [bR 22 1 (rSl R_api_Value) r0 e1 0])) := by
  unfold slices_breakPatternsCmpFunc_Value_row_Cmp_r at hm
  obtain ⟨n, rfl, h0⟩ := at1_some hm
  replace hm := h0; clear h0
  refine callE 67 [(0, aR 0 1 m0), (1, aI a1), (2, aI a2), (3, .pv (.fn 12 [] []))] func95 rfl (by kernel_rfl) (sq (detn [(0, aR 0 1 m0), (1, aI a1), (8, aI (IntKind.wrap .i64 (a2 - a1)))] (by kernel_rfl) (sq (detn [(0, aR 0 1 m0), (1, aI a1), (8, aI (IntKind.wrap .i64 (a2 - a1))), (17, aB (decide ((IntKind.wrap .i64 (a2 - a1)) ≥ 8)))] (by kernel_rfl) ?_))))
  rcases bif_some hm with ⟨h1, hm⟩ | ⟨h1, hm⟩
  ·
   refine ct h1 (by kernel_rfl) (sq (det [(0, aR 0 1 m0), (1, aI a1), (8, aI (IntKind.wrap .i64 (a2 - a1))), (9, .ptr 1 0)] [bR 22 1 (rSl R_api_Value) a0 f0 0, .box [aU (IntKind.wrap .u64 (IntKind.wrap .i64 (a2 - a1)))] false] (by kernel_rfl) (sq (rg (sh 1 [(20, aI (IntKind.wrap .i64 (a2 - a1)))] (by kernel_rfl) ?_)))))
   obtain ⟨x2, h3, hm⟩ := bs hm
   refine dv 21 (cpure (by kernel_rfl) (ok_slices_nextPowerOfTwo h3) (by kernel_rfl) (by kernel_rfl) (by kernel_rfl)) (by kernel_rfl) (sh 1 [(10, aU x2)] (by kernel_rfl) (fin [(0, aR 0 1 m0), (1, aI a1), (8, aI (IntKind.wrap .i64 (a2 - a1))), (9, .ptr 1 0), (10, aU x2)] rfl (by kernel_rfl) (sq (detn [(0, aR 0 1 m0), (1, aI a1), (8, aI (IntKind.wrap .i64 (a2 - a1))), (9, .ptr 1 0), (10, aU x2), (11, aI (IntKind.wrap .i64 ((IntKind.wrap .i64 (a1 + (IntKind.wrap .i64 ((IntKind.wrap .i64 (Int.tdiv (IntKind.wrap .i64 (a2 - a1)) 4)) * 2)))) - 1)))] (by kernel_rfl) (bq ?_)))))
   refine loopF (fun mm t H => (∃ (y10 : (List (Option (List api_Value)))) (y11 : Int) (y12 : Int) (g14 : Nat), slices_breakPatternsCmpFunc_Value_row_Cmp_r_l5 n a1 a2 x2 mm y10 y11 y12 = some r ∧ t = mk 67 [(0, aR 0 1 m0), (1, aI a1), (8, aI (IntKind.wrap .i64 (a2 - a1))), (9, .ptr 1 0), (10, aU x2), (11, aI y12)] ∧ H = [bR 22 1 (rSl R_api_Value) y10 g14 0, .box [aU y11] false] ∧ y10.length = m0 ∧ g14 ≤ y10.length)) (⟨a0, (IntKind.wrap .u64 (IntKind.wrap .i64 (a2 - a1))), (IntKind.wrap .i64 ((IntKind.wrap .i64 (a1 + (IntKind.wrap .i64 ((IntKind.wrap .i64 (Int.tdiv (IntKind.wrap .i64 (a2 - a1)) 4)) * 2)))) - 1)), f0, hm, rfl, rfl, (by first | rfl | assumption | omega | (simp only [List.length_set, List.length_append, List.length_cons, List.length_nil, List.length_replicate, List.length_drop] at * <;> omega)), (by first | exact Nat.zero_le _ | exact Nat.le_refl _ | assumption | omega | (simp only [List.length_set, List.length_append, List.length_cons, List.length_nil, List.length_replicate, List.length_drop] at * <;> omega))⟩) ?_ ?_
   · rintro _ _ ⟨y10, y11, y12, g14, hm, _⟩; exact nomatch hm
   rintro m16 _ _ ⟨y10, y11, y12, g14, hm, rfl, rfl, q13, q15⟩
   simp only [slices_breakPatternsCmpFunc_Value_row_Cmp_r_l5] at hm
   refine sq (sq (detn [(0, aR 0 1 m0), (1, aI a1), (8, aI (IntKind.wrap .i64 (a2 - a1))), (9, .ptr 1 0), (10, aU x2), (11, aI y12), (35, aB (decide (y12 ≤ (IntKind.wrap .i64 ((IntKind.wrap .i64 (a1 + (IntKind.wrap .i64 ((IntKind.wrap .i64 (Int.tdiv (IntKind.wrap .i64 (a2 - a1)) 4)) * 2)))) + 1)))))] (by kernel_rfl) ?_))
   rcases bif_some hm with ⟨h17, hm⟩ | ⟨h17, hm⟩
   ·
    refine ct h17 (by kernel_rfl) (wp_skip (sq (bq (sq (rg ?_)))))
    obtain ⟨_, h18, hm⟩ := bs hm
    obtain ⟨vv, H1, hC, rfl, rfl⟩ := ok_slices_xorshift_Next h18
    refine dR [(38, aU (iXor .u64 (iXor .u64 (iXor .u64 y11 (iShl .u64 y11 13)) (iShr .u64 (iXor .u64 y11 (iShl .u64 y11 13)) 7)) (iShl .u64 (iXor .u64 (iXor .u64 y11 (iShl .u64 y11 13)) (iShr .u64 (iXor .u64 y11 (iShl .u64 y11 13)) 7)) 17)))] [bR 22 1 (rSl R_api_Value) y10 g14 0, .box [aU (iXor .u64 (iXor .u64 (iXor .u64 y11 (iShl .u64 y11 13)) (iShr .u64 (iXor .u64 y11 (iShl .u64 y11 13)) 7)) (iShl .u64 (iXor .u64 (iXor .u64 y11 (iShl .u64 y11 13)) (iShr .u64 (iXor .u64 y11 (iShl .u64 y11 13)) 7)) 17))] false] [1] [.ptr 1 0] (by kernel_rfl) (by kernel_rfl) (by kernel_rfl) hC (by kernel_rfl) (sh 5 [(12, aI (IntKind.wrap .i64 (iAnd .u64 (iXor .u64 (iXor .u64 (iXor .u64 y11 (iShl .u64 y11 13)) (iShr .u64 (iXor .u64 y11 (iShl .u64 y11 13)) 7)) (iShl .u64 (iXor .u64 (iXor .u64 y11 (iShl .u64 y11 13)) (iShr .u64 (iXor .u64 y11 (iShl .u64 y11 13)) 7)) 17)) (IntKind.wrap .u64 (x2 - 1))))), (42, aI (IntKind.wrap .i64 (iAnd .u64 (iXor .u64 (iXor .u64 (iXor .u64 y11 (iShl .u64 y11 13)) (iShr .u64 (iXor .u64 y11 (iShl .u64 y11 13)) 7)) (iShl .u64 (iXor .u64 (iXor .u64 y11 (iShl .u64 y11 13)) (iShr .u64 (iXor .u64 y11 (iShl .u64 y11 13)) 7)) 17)) (IntKind.wrap .u64 (x2 - 1))))), (41, aU (iAnd .u64 (iXor .u64 (iXor .u64 (iXor .u64 y11 (iShl .u64 y11 13)) (iShr .u64 (iXor .u64 y11 (iShl .u64 y11 13)) 7)) (iShl .u64 (iXor .u64 (iXor .u64 y11 (iShl .u64 y11 13)) (iShr .u64 (iXor .u64 y11 (iShl .u64 y11 13)) 7)) 17)) (IntKind.wrap .u64 (x2 - 1)))), (40, aU (IntKind.wrap .u64 (x2 - 1))), (39, aU x2)] (by kernel_rfl) (fin [(0, aR 0 1 m0), (1, aI a1), (8, aI (IntKind.wrap .i64 (a2 - a1))), (9, .ptr 1 0), (10, aU x2), (11, aI y12), (12, aI (IntKind.wrap .i64 (iAnd .u64 (iXor .u64 (iXor .u64 (iXor .u64 y11 (iShl .u64 y11 13)) (iShr .u64 (iXor .u64 y11 (iShl .u64 y11 13)) 7)) (iShl .u64 (iXor .u64 (iXor .u64 y11 (iShl .u64 y11 13)) (iShr .u64 (iXor .u64 y11 (iShl .u64 y11 13)) 7)) 17)) (IntKind.wrap .u64 (x2 - 1)))))] rfl (by kernel_rfl) ?_))
    obtain ⟨k21, hk21, hm⟩ := withK_some hm
    refine mid (fun t H => (∃ (y20 : Int) (w19 : AV), k21 y20 = some r ∧ t = mk 67 [(0, aR 0 1 m0), (1, aI a1), (8, aI (IntKind.wrap .i64 (a2 - a1))), (9, .ptr 1 0), (10, aU x2), (11, aI y12), (12, aI y20), (45, w19)] ∧ H = [bR 22 1 (rSl R_api_Value) y10 g14 0, .box [aU (iXor .u64 (iXor .u64 (iXor .u64 y11 (iShl .u64 y11 13)) (iShr .u64 (iXor .u64 y11 (iShl .u64 y11 13)) 7)) (iShl .u64 (iXor .u64 (iXor .u64 y11 (iShl .u64 y11 13)) (iShr .u64 (iXor .u64 y11 (iShl .u64 y11 13)) 7)) 17))] false])) ?_ ?_
    ·
     rintro _ _ ⟨y20, w19, hm, rfl, rfl⟩
     subst hk21
     refine rgd (shd 10 [(58, aI (IntKind.wrap .i64 (a1 + y20))), (57, aI y20), (56, aI a1), (55, aR 0 1 m0), (54, aI (IntKind.wrap .i64 (a1 + y20))), (53, aI y20), (52, aI a1), (51, aR 0 1 m0), (50, aI y12), (49, aR 0 1 m0)] (by kernel_rfl) ?_)
     obtain ⟨x22, h23, hm⟩ := bs hm
     refine dvd 59 (v := .eptr 0 0 m0 1 (0 + Int.toNat (IntKind.wrap .i64 (a1 + y20))) 0) (ia_refO y10 .i64 (n := m0) (id := 0) (esz := 1) t25 t22 h23 (by omega) rfl (by kernel_rfl)) (by kernel_rfl) (dvd 60 (v := .pv (encSl R_api_Value x22)) (ld_eptrO (rSl R_api_Value) y10 (n := m0) (esz := 1) (j := (IntKind.wrap .i64 (a1 + y20))) (off := 0) (id := 0) t22 rfl h23 (by omega) (by omega) (by kernel_rfl) (by kernel_rfl)) (by kernel_rfl) (shd 2 [(62, aI y12), (61, aR 0 1 m0)] (by kernel_rfl) ?_))
     obtain ⟨x24, h25, hm⟩ := bs hm
     refine dvd 63 (v := .eptr 0 0 m0 1 (0 + Int.toNat y12) 0) (ia_refO y10 .i64 (n := m0) (id := 0) (esz := 1) t25 t22 h25 (by omega) rfl (by kernel_rfl)) (by kernel_rfl) (dvd 64 (v := .pv (encSl R_api_Value x24)) (ld_eptrO (rSl R_api_Value) y10 (n := m0) (esz := 1) (j := y12) (off := 0) (id := 0) t22 rfl h25 (by omega) (by omega) (by kernel_rfl) (by kernel_rfl)) (by kernel_rfl) (dvd 65 (v := .eptr 0 0 m0 1 (0 + Int.toNat y12) 0) (ia_refO y10 .i64 (n := m0) (id := 0) (esz := 1) t25 t22 h25 (by omega) rfl (by kernel_rfl)) (by kernel_rfl) (dOd [] [bR 22 1 (rSl R_api_Value) (y10.set (Int.toNat y12) x22) m0 0, .box [aU (iXor .u64 (iXor .u64 (iXor .u64 y11 (iShl .u64 y11 13)) (iShr .u64 (iXor .u64 y11 (iShl .u64 y11 13)) 7)) (iShl .u64 (iXor .u64 (iXor .u64 y11 (iShl .u64 y11 13)) (iShr .u64 (iXor .u64 y11 (iShl .u64 y11 13)) 7)) 17))] false] (st_eptrO (rSl R_api_Value) y10 x22 (n := m0) (esz := 1) (v := .pv (encSl R_api_Value x22)) (j := y12) (off := 0) (id := 0) t22 rfl h25 (by omega) (by omega) rfl rfl rfl rfl (by kernel_rfl)) (by kernel_rfl) ?_)))
     obtain ⟨x26, h27, hm⟩ := bs hm
     refine dvd 66 (v := .eptr 0 0 m0 1 (0 + Int.toNat (IntKind.wrap .i64 (a1 + y20))) 0) (ia_refO (y10.set (Int.toNat y12) x22) .i64 (n := m0) (id := 0) (esz := 1) t25 t22 h27 (by first | rfl | assumption | omega | (simp only [List.length_set, List.length_append, List.length_cons, List.length_nil, List.length_replicate, List.length_drop] at * <;> omega)) rfl (by kernel_rfl)) (by kernel_rfl) (dOd [] [bR 22 1 (rSl R_api_Value) ((y10.set (Int.toNat y12) x22).set (Int.toNat (IntKind.wrap .i64 (a1 + y20))) x24) m0 0, .box [aU (iXor .u64 (iXor .u64 (iXor .u64 y11 (iShl .u64 y11 13)) (iShr .u64 (iXor .u64 y11 (iShl .u64 y11 13)) 7)) (iShl .u64 (iXor .u64 (iXor .u64 y11 (iShl .u64 y11 13)) (iShr .u64 (iXor .u64 y11 (iShl .u64 y11 13)) 7)) 17))] false] (st_eptrO (rSl R_api_Value) (y10.set (Int.toNat y12) x22) x24 (n := m0) (esz := 1) (v := .pv (encSl R_api_Value x24)) (j := (IntKind.wrap .i64 (a1 + y20))) (off := 0) (id := 0) t22 rfl h27 (by first | rfl | assumption | omega | (simp only [List.length_set, List.length_append, List.length_cons, List.length_nil, List.length_replicate, List.length_drop] at * <;> omega)) (by first | exact Nat.zero_le _ | exact Nat.le_refl _ | assumption | omega | (simp only [List.length_set, List.length_append, List.length_cons, List.length_nil, List.length_replicate, List.length_drop] at * <;> omega)) rfl rfl rfl rfl (by kernel_rfl)) (by kernel_rfl) (find [(0, aR 0 1 m0), (1, aI a1), (8, aI (IntKind.wrap .i64 (a2 - a1))), (9, .ptr 1 0), (10, aU x2), (11, aI y12)] rfl (by kernel_rfl) (by kernel_rfl) (detn [(0, aR 0 1 m0), (1, aI a1), (8, aI (IntKind.wrap .i64 (a2 - a1))), (9, .ptr 1 0), (10, aU x2), (11, aI (IntKind.wrap .i64 (y12 + 1)))] (by kernel_rfl) ?_)))
     exact ⟨_, _, tidyL [(0, aR 0 1 m0), (1, aI a1), (8, aI (IntKind.wrap .i64 (a2 - a1))), (9, .ptr 1 0), (10, aU x2), (11, aI (IntKind.wrap .i64 (y12 + 1)))] [bR 22 1 (rSl R_api_Value) ((y10.set (Int.toNat y12) x22).set (Int.toNat (IntKind.wrap .i64 (a1 + y20))) x24) m0 0, .box [aU (iXor .u64 (iXor .u64 (iXor .u64 y11 (iShl .u64 y11 13)) (iShr .u64 (iXor .u64 y11 (iShl .u64 y11 13)) 7)) (iShl .u64 (iXor .u64 (iXor .u64 y11 (iShl .u64 y11 13)) (iShr .u64 (iXor .u64 y11 (iShl .u64 y11 13)) 7)) 17))] false] (by kernel_rfl), ⟨((y10.set (Int.toNat y12) x22).set (Int.toNat (IntKind.wrap .i64 (a1 + y20))) x24), (iXor .u64 (iXor .u64 (iXor .u64 y11 (iShl .u64 y11 13)) (iShr .u64 (iXor .u64 y11 (iShl .u64 y11 13)) 7)) (iShl .u64 (iXor .u64 (iXor .u64 y11 (iShl .u64 y11 13)) (iShr .u64 (iXor .u64 y11 (iShl .u64 y11 13)) 7)) 17)), (IntKind.wrap .i64 (y12 + 1)), m0, hm, rfl, rfl, (by first | rfl | assumption | omega | (simp only [List.length_set, List.length_append, List.length_cons, List.length_nil, List.length_replicate, List.length_drop] at * <;> omega)), (by first | exact Nat.zero_le _ | exact Nat.le_refl _ | assumption | omega | (simp only [List.length_set, List.length_append, List.length_cons, List.length_nil, List.length_replicate, List.length_drop] at * <;> omega))⟩⟩
    refine sq (detn [(0, aR 0 1 m0), (1, aI a1), (8, aI (IntKind.wrap .i64 (a2 - a1))), (9, .ptr 1 0), (10, aU x2), (11, aI y12), (12, aI (IntKind.wrap .i64 (iAnd .u64 (iXor .u64 (iXor .u64 (iXor .u64 y11 (iShl .u64 y11 13)) (iShr .u64 (iXor .u64 y11 (iShl .u64 y11 13)) 7)) (iShl .u64 (iXor .u64 (iXor .u64 y11 (iShl .u64 y11 13)) (iShr .u64 (iXor .u64 y11 (iShl .u64 y11 13)) 7)) 17)) (IntKind.wrap .u64 (x2 - 1))))), (45, aB (decide ((IntKind.wrap .i64 (iAnd .u64 (iXor .u64 (iXor .u64 (iXor .u64 y11 (iShl .u64 y11 13)) (iShr .u64 (iXor .u64 y11 (iShl .u64 y11 13)) 7)) (iShl .u64 (iXor .u64 (iXor .u64 y11 (iShl .u64 y11 13)) (iShr .u64 (iXor .u64 y11 (iShl .u64 y11 13)) 7)) 17)) (IntKind.wrap .u64 (x2 - 1)))) ≥ (IntKind.wrap .i64 (a2 - a1)))))] (by kernel_rfl) ?_)
    rcases bif_some hm with ⟨h28, hm⟩ | ⟨h28, hm⟩
    ·
     refine ct h28 (by kernel_rfl) (detn [(0, aR 0 1 m0), (1, aI a1), (8, aI (IntKind.wrap .i64 (a2 - a1))), (9, .ptr 1 0), (10, aU x2), (11, aI y12), (12, aI (IntKind.wrap .i64 ((IntKind.wrap .i64 (iAnd .u64 (iXor .u64 (iXor .u64 (iXor .u64 y11 (iShl .u64 y11 13)) (iShr .u64 (iXor .u64 y11 (iShl .u64 y11 13)) 7)) (iShl .u64 (iXor .u64 (iXor .u64 y11 (iShl .u64 y11 13)) (iShr .u64 (iXor .u64 y11 (iShl .u64 y11 13)) 7)) 17)) (IntKind.wrap .u64 (x2 - 1)))) - (IntKind.wrap .i64 (a2 - a1)))))] (by kernel_rfl) ?_)
     exact ⟨(IntKind.wrap .i64 ((IntKind.wrap .i64 (iAnd .u64 (iXor .u64 (iXor .u64 (iXor .u64 y11 (iShl .u64 y11 13)) (iShr .u64 (iXor .u64 y11 (iShl .u64 y11 13)) 7)) (iShl .u64 (iXor .u64 (iXor .u64 y11 (iShl .u64 y11 13)) (iShr .u64 (iXor .u64 y11 (iShl .u64 y11 13)) 7)) 17)) (IntKind.wrap .u64 (x2 - 1)))) - (IntKind.wrap .i64 (a2 - a1)))), .any, hm, (mk_same (by kernel_rfl)), rfl⟩
    ·
     refine cf h28 (by kernel_rfl) (wp_skip ?_)
     exact ⟨(IntKind.wrap .i64 (iAnd .u64 (iXor .u64 (iXor .u64 (iXor .u64 y11 (iShl .u64 y11 13)) (iShr .u64 (iXor .u64 y11 (iShl .u64 y11 13)) 7)) (iShl .u64 (iXor .u64 (iXor .u64 y11 (iShl .u64 y11 13)) (iShr .u64 (iXor .u64 y11 (iShl .u64 y11 13)) 7)) 17)) (IntKind.wrap .u64 (x2 - 1)))), aB (decide ((IntKind.wrap .i64 (iAnd .u64 (iXor .u64 (iXor .u64 (iXor .u64 y11 (iShl .u64 y11 13)) (iShr .u64 (iXor .u64 y11 (iShl .u64 y11 13)) 7)) (iShl .u64 (iXor .u64 (iXor .u64 y11 (iShl .u64 y11 13)) (iShr .u64 (iXor .u64 y11 (iShl .u64 y11 13)) 7)) 17)) (IntKind.wrap .u64 (x2 - 1)))) ≥ (IntKind.wrap .i64 (a2 - a1)))), hm, (mk_same (by kernel_rfl)), rfl⟩
   ·
    refine cf h17 (by kernel_rfl) (wp_exit ?_)
    obtain rfl := Option.some.inj hm
    exact ⟨trivial, .tup [], [bR 22 1 (rSl R_api_Value) y10 g14 0], by kernel_rfl, g14, (by first | rfl | assumption | omega | (simp only [List.length_set, List.length_append, List.length_cons, List.length_nil, List.length_replicate, List.length_drop] at * <;> omega)), (by first | exact Nat.zero_le _ | exact Nat.le_refl _ | assumption | omega | (simp only [List.length_set, List.length_append, List.length_cons, List.length_nil, List.length_replicate, List.length_drop] at * <;> omega)), rfl, rfl⟩
  ·
   refine cf h1 (by kernel_rfl) (wp_skip ?_)
   obtain rfl := Option.some.inj hm
   exact ⟨trivial, .tup [], [bR 22 1 (rSl R_api_Value) a0 f0 0], by kernel_rfl, f0, (by first | rfl | assumption | omega | (simp only [List.length_set, List.length_append, List.length_cons, List.length_nil, List.length_replicate, List.length_drop] at * <;> omega)), (by first | exact Nat.zero_le _ | exact Nat.le_refl _ | assumption | omega | (simp only [List.length_set, List.length_append, List.length_cons, List.length_nil, List.length_replicate, List.length_drop] at * <;> omega)), rfl, rfl⟩
theorem okf_slices_pdqsortCmpFunc_Value_row_Cmp_r {rc_slices_pdqsortCmpFunc_Value_row_Cmp_r : (Nat → (List (Option (List api_Value))) → Int → Int → Int → Option ((List (Option (List api_Value)))))} (ih_slices_pdqsortCmpFunc_Value_row_Cmp_r : ∀ (m0 : Nat) (f0 : Nat) {n : Nat} {a0 : (List (Option (List api_Value)))} {a1 : Int} {a2 : Int} {a3 : Int} {r : (List (Option (List api_Value)))} (hm0 : a0.length = m0) (hf0 : f0 ≤ a0.length) (hm : rc_slices_pdqsortCmpFunc_Value_row_Cmp_r n a0 a1 a2 a3 = some r), ∃ vv H1, call G n 85 [aR 0 1 m0, aI a1, aI a2, aI a3, .pv (.fn 12 [] [])] [bR 22 1 (rSl R_api_Value) a0 f0 0] = some (.ret vv, H1) ∧ (match r with | r0 => (∃ (e1 : Nat), r0.length = m0 ∧ e1 ≤ r0.length ∧ vv = .tup [] ∧ H1 = [bR 22 1 (rSl R_api_Value) r0 e1 0]))) (m0 : Nat) (f0 : Nat) {n : Nat} {a0 : (List (Option (List api_Value)))} {a1 : Int} {a2 : Int} {a3 : Int} {r : (List (Option (List api_Value)))} (hm0 : a0.length = m0) (hf0 : f0 ≤ a0.length) (hm : slices_pdqsortCmpFunc_Value_row_Cmp_r_f rc_slices_pdqsortCmpFunc_Value_row_Cmp_r n a0 a1 a2 a3 = some r) :
    ∃ vv H1, call G n 85 [aR 0 1 m0, aI a1, aI a2, aI a3, .pv (.fn 12 [] [])] [bR 22 1 (rSl R_api_Value) a0 f0 0] = some (.ret vv, H1) ∧ (match r with | r0 => (∃ (e1 : Nat), r0.length = m0 ∧ e1 ≤ r0.length ∧ vv = .tup [] ∧ H1 = [bR 22 1 (rSl R_api_Value) r0 e1 0])) := by
  unfold slices_pdqsortCmpFunc_Value_row_Cmp_r_f at hm
  obtain ⟨n, rfl, h0⟩ := at1_some hm
  replace hm := h0; clear h0
  refine callE 148 [(0, aR 0 1 m0), (1, aI a1), (2, aI a2), (3, aI a3), (4, .pv (.fn 12 [] []))] func85 rfl (by kernel_rfl) (sq (detn [(0, aR 0 1 m0), (1, aI a1), (2, aI a2), (3, aI a3), (4, .pv (.fn 12 [] [])), (10, aB true)] (by kernel_rfl) (sq (detn [(0, aR 0 1 m0), (1, aI a1), (2, aI a2), (3, aI a3), (4, .pv (.fn 12 [] [])), (10, aB true), (11, aB true)] (by kernel_rfl) (bq ?_)))))
  refine loopF (fun mm t H => (∃ (y18 : (List (Option (List api_Value)))) (y19 : Int) (y20 : Bool) (y21 : Bool) (y22 : Int) (y23 : Int) (g25 : Nat), slices_pdqsortCmpFunc_Value_row_Cmp_r_l2 n rc_slices_pdqsortCmpFunc_Value_row_Cmp_r mm y18 y19 y20 y21 y22 y23 = some r ∧ t = mk 148 [(0, aR 0 1 m0), (1, aI y19), (2, aI y22), (3, aI y23), (4, .pv (.fn 12 [] [])), (10, aB y20), (11, aB y21)] ∧ H = [bR 22 1 (rSl R_api_Value) y18 g25 0] ∧ y18.length = m0 ∧ g25 ≤ y18.length)) (⟨a0, a1, true, true, a2, a3, f0, hm, rfl, rfl, (by first | rfl | assumption | omega | (simp only [List.length_set, List.length_append, List.length_cons, List.length_nil, List.length_replicate, List.length_drop] at * <;> omega)), (by first | exact Nat.zero_le _ | exact Nat.le_refl _ | assumption | omega | (simp only [List.length_set, List.length_append, List.length_cons, List.length_nil, List.length_replicate, List.length_drop] at * <;> omega))⟩) ?_ ?_
  · rintro _ _ ⟨y18, y19, y20, y21, y22, y23, g25, hm, _⟩; exact nomatch hm
  rintro m27 _ _ ⟨y18, y19, y20, y21, y22, y23, g25, hm, rfl, rfl, q24, q26⟩
  simp only [slices_pdqsortCmpFunc_Value_row_Cmp_r_l2] at hm
  refine bq (sq (detn [(0, aR 0 1 m0), (1, aI y19), (2, aI y22), (3, aI y23), (4, .pv (.fn 12 [] [])), (10, aB y20), (11, aB y21), (12, aI (IntKind.wrap .i64 (y22 - y19)))] (by kernel_rfl) ?_))
  refine sq (sq (detn [(0, aR 0 1 m0), (1, aI y19), (2, aI y22), (3, aI y23), (4, .pv (.fn 12 [] [])), (10, aB y20), (11, aB y21), (12, aI (IntKind.wrap .i64 (y22 - y19))), (25, aB (decide ((IntKind.wrap .i64 (y22 - y19)) ≤ 12)))] (by kernel_rfl) ?_))
  rcases bif_some hm with ⟨h28, hm⟩ | ⟨h28, hm⟩
  ·
   refine ct h28 (by kernel_rfl) (sq (rg (sh 4 [(29, .pv (.fn 12 [] [])), (28, aI y22), (27, aI y19), (26, aR 0 1 m0)] (by kernel_rfl) ?_)))
   obtain ⟨x30, h29, hm⟩ := bs hm
   obtain ⟨vv, H1, hC, g31, q32, q33, rfl, rfl⟩ := ok_slices_insertionSortCmpFunc_Value_row_Cmp_r m0 g25 (by first | rfl | assumption | omega | (simp only [List.length_set, List.length_append, List.length_cons, List.length_nil, List.length_replicate, List.length_drop] at * <;> omega)) (by first | exact Nat.zero_le _ | exact Nat.le_refl _ | assumption | omega | (simp only [List.length_set, List.length_append, List.length_cons, List.length_nil, List.length_replicate, List.length_drop] at * <;> omega)) h29
   refine dR [(30, .tup [])] [bR 22 1 (rSl R_api_Value) x30 g31 0] [0] [aR 0 1 m0, aI y19, aI y22, .pv (.fn 12 [] [])] (by kernel_rfl) (by kernel_rfl) (by kernel_rfl) hC (by kernel_rfl) (fin [] rfl (by kernel_rfl) (wp_ret ?_))
   obtain rfl := Option.some.inj hm
   exact ⟨trivial, .tup [], [bR 22 1 (rSl R_api_Value) x30 g31 0], by kernel_rfl, g31, (by first | rfl | assumption | omega | (simp only [List.length_set, List.length_append, List.length_cons, List.length_nil, List.length_replicate, List.length_drop] at * <;> omega)), (by first | exact Nat.zero_le _ | exact Nat.le_refl _ | assumption | omega | (simp only [List.length_set, List.length_append, List.length_cons, List.length_nil, List.length_replicate, List.length_drop] at * <;> omega)), rfl, rfl⟩
  ·
   refine cf h28 (by kernel_rfl) (wp_skip ?_)
   refine sq (sq (detn [(0, aR 0 1 m0), (1, aI y19), (2, aI y22), (3, aI y23), (4, .pv (.fn 12 [] [])), (10, aB y20), (11, aB y21), (12, aI (IntKind.wrap .i64 (y22 - y19))), (32, aB (y23 == 0))] (by kernel_rfl) ?_))
   rcases bif_some hm with ⟨h34, hm⟩ | ⟨h34, hm⟩
   ·
    refine ct h34 (by kernel_rfl) (sq (rg (sh 4 [(36, .pv (.fn 12 [] [])), (35, aI y22), (34, aI y19), (33, aR 0 1 m0)] (by kernel_rfl) ?_)))
    obtain ⟨x36, h35, hm⟩ := bs hm
    obtain ⟨vv, H1, hC, g37, q38, q39, rfl, rfl⟩ := ok_slices_heapSortCmpFunc_Value_row_Cmp_r m0 g25 (by first | rfl | assumption | omega | (simp only [List.length_set, List.length_append, List.length_cons, List.length_nil, List.length_replicate, List.length_drop] at * <;> omega)) (by first | exact Nat.zero_le _ | exact Nat.le_refl _ | assumption | omega | (simp only [List.length_set, List.length_append, List.length_cons, List.length_nil, List.length_replicate, List.length_drop] at * <;> omega)) h35
    refine dR [(37, .tup [])] [bR 22 1 (rSl R_api_Value) x36 g37 0] [0] [aR 0 1 m0, aI y19, aI y22, .pv (.fn 12 [] [])] (by kernel_rfl) (by kernel_rfl) (by kernel_rfl) hC (by kernel_rfl) (fin [] rfl (by kernel_rfl) (wp_ret ?_))
    obtain rfl := Option.some.inj hm
    exact ⟨trivial, .tup [], [bR 22 1 (rSl R_api_Value) x36 g37 0], by kernel_rfl, g37, (by first | rfl | assumption | omega | (simp only [List.length_set, List.length_append, List.length_cons, List.length_nil, List.length_replicate, List.length_drop] at * <;> omega)), (by first | exact Nat.zero_le _ | exact Nat.le_refl _ | assumption | omega | (simp only [List.length_set, List.length_append, List.length_cons, List.length_nil, List.length_replicate, List.length_drop] at * <;> omega)), rfl, rfl⟩
   ·
    refine cf h34 (by kernel_rfl) (wp_skip ?_)
    obtain ⟨k46, hk46, hm⟩ := withK_some hm
    refine mid (fun t H => (∃ (y41 : (List (Option (List api_Value)))) (y42 : Int) (w40 : AV) (g44 : Nat), k46 y41 y42 = some r ∧ t = mk 148 [(0, aR 0 1 m0), (1, aI y19), (2, aI y22), (3, aI y42), (4, .pv (.fn 12 [] [])), (10, aB y20), (11, aB y21), (12, aI (IntKind.wrap .i64 (y22 - y19))), (39, w40)] ∧ H = [bR 22 1 (rSl R_api_Value) y41 g44 0] ∧ y41.length = m0 ∧ g44 ≤ y41.length)) ?_ ?_
    ·
     rintro _ _ ⟨y41, y42, w40, g44, hm, rfl, rfl, q43, q45⟩
     subst hk46
     refine sq (rg (sh 4 [(51, .pv (.fn 12 [] [])), (50, aI y22), (49, aI y19), (48, aR 0 1 m0)] (by kernel_rfl) ?_))
     obtain ⟨x47, h48, hm⟩ := bs hm
     refine dO [(52, .tup [aI x47.1, aI x47.2])] [bR 22 1 (rSl R_api_Value) y41 g44 0] (cpureR [0] [aR 0 1 m0, aI y19, aI y22, .pv (.fn 12 [] [])] (fl := true) (by kernel_rfl) (by kernel_rfl) (pAs_cons (pA_ref (pur_ref' (n := m0) (id := 0) (l := y41) (R := (rSl R_api_Value)) rfl (by omega) (by omega))) (pAs_cons (pA_pv) (pAs_cons (pA_pv) (pAs_cons (pA_pv) (rfl))))) (ok_slices_choosePivotCmpFunc_Value_row_Cmp h48) (by kernel_rfl) (by kernel_rfl)) (by kernel_rfl) (sh 5 [(14, aI x47.2), (13, aI x47.1), (54, aI x47.2), (53, aI x47.1), (47, .tup [aI x47.1, aI x47.2])] (by kernel_rfl) (fin [(0, aR 0 1 m0), (1, aI y19), (2, aI y22), (3, aI y42), (4, .pv (.fn 12 [] [])), (10, aB y20), (11, aB y21), (12, aI (IntKind.wrap .i64 (y22 - y19))), (13, aI x47.1), (14, aI x47.2)] rfl (by kernel_rfl) ?_))
     obtain ⟨k56, hk56, hm⟩ := withK_some hm
     refine mid (fun t H => (∃ (y50 : (List (Option (List api_Value)))) (y51 : Int) (y52 : Int) (w49 : AV) (g54 : Nat), k56 y50 y51 y52 = some r ∧ t = mk 148 [(0, aR 0 1 m0), (1, aI y19), (2, aI y22), (3, aI y42), (4, .pv (.fn 12 [] [])), (10, aB y20), (11, aB y21), (12, aI (IntKind.wrap .i64 (y22 - y19))), (13, aI y51), (14, aI y52), (56, w49)] ∧ H = [bR 22 1 (rSl R_api_Value) y50 g54 0] ∧ y50.length = m0 ∧ g54 ≤ y50.length)) ?_ ?_
     ·
      rintro _ _ ⟨y50, y51, y52, w49, g54, hm, rfl, rfl, q53, q55⟩
      subst hk56
      obtain ⟨k63, hk63, hm⟩ := withK_some hm
      refine mid (fun t H => (∃ (y59 : (List (Option (List api_Value)))) (w57 : AV) (w58 : AV) (g61 : Nat), k63 y59 = some r ∧ t = mk 148 [(0, aR 0 1 m0), (1, aI y19), (2, aI y22), (3, aI y42), (4, .pv (.fn 12 [] [])), (10, aB y20), (11, aB y21), (12, aI (IntKind.wrap .i64 (y22 - y19))), (13, aI y51), (75, w57), (80, w58)] ∧ H = [bR 22 1 (rSl R_api_Value) y59 g61 0] ∧ y59.length = m0 ∧ g61 ≤ y59.length)) ?_ ?_
      ·
       rintro _ _ ⟨y59, w57, w58, g61, hm, rfl, rfl, q60, q62⟩
       subst hk63
       refine sq ?_
       obtain ⟨k65, hk65, hm⟩ := withK_some hm
       refine mid (fun t H => (∃ (y64 : Bool), k65 y64 = some r ∧ t = mk 148 [(0, aR 0 1 m0), (1, aI y19), (2, aI y22), (3, aI y42), (4, .pv (.fn 12 [] [])), (10, aB y20), (11, aB y21), (12, aI (IntKind.wrap .i64 (y22 - y19))), (13, aI y51), (97, aB y64)] ∧ H = [bR 22 1 (rSl R_api_Value) y59 g61 0])) ?_ ?_
       ·
        rintro _ _ ⟨y64, hm, rfl, rfl⟩
        subst hk65
        rcases bif_some hm with ⟨h66, hm⟩ | ⟨h66, hm⟩
        ·
         refine ct h66 (by kernel_rfl) (sq (rg (sh 5 [(102, .pv (.fn 12 [] [])), (101, aI y51), (100, aI y22), (99, aI y19), (98, aR 0 1 m0)] (by kernel_rfl) ?_)))
         obtain ⟨⟨x68, x69⟩, h67, hm⟩ := bs hm
         obtain ⟨vv, H1, hC, g70, q71, q72, rfl, rfl⟩ := ok_slices_partitionEqualCmpFunc_Value_row_Cmp_r m0 g61 (by first | rfl | assumption | omega | (simp only [List.length_set, List.length_append, List.length_cons, List.length_nil, List.length_replicate, List.length_drop] at * <;> omega)) (by first | exact Nat.zero_le _ | exact Nat.le_refl _ | assumption | omega | (simp only [List.length_set, List.length_append, List.length_cons, List.length_nil, List.length_replicate, List.length_drop] at * <;> omega)) h67
         refine dR [(103, aI x69)] [bR 22 1 (rSl R_api_Value) x68 g70 0] [0] [aR 0 1 m0, aI y19, aI y22, aI y51, .pv (.fn 12 [] [])] (by kernel_rfl) (by kernel_rfl) (by kernel_rfl) hC (by kernel_rfl) (sh 1 [(15, aI x69)] (by kernel_rfl) (fin [(0, aR 0 1 m0), (2, aI y22), (3, aI y42), (4, .pv (.fn 12 [] [])), (10, aB y20), (11, aB y21), (15, aI x69)] rfl (by kernel_rfl) (sq (detn [(0, aR 0 1 m0), (1, aI x69), (2, aI y22), (3, aI y42), (4, .pv (.fn 12 [] [])), (10, aB y20), (11, aB y21)] (by kernel_rfl) (wp_exit ?_)))))
         exact ⟨_, _, tidyL [(0, aR 0 1 m0), (1, aI x69), (2, aI y22), (3, aI y42), (4, .pv (.fn 12 [] [])), (10, aB y20), (11, aB y21)] [bR 22 1 (rSl R_api_Value) x68 g70 0] (by kernel_rfl), ⟨x68, x69, y20, y21, y22, y42, g70, hm, rfl, rfl, (by first | rfl | assumption | omega | (simp only [List.length_set, List.length_append, List.length_cons, List.length_nil, List.length_replicate, List.length_drop] at * <;> omega)), (by first | exact Nat.zero_le _ | exact Nat.le_refl _ | assumption | omega | (simp only [List.length_set, List.length_append, List.length_cons, List.length_nil, List.length_replicate, List.length_drop] at * <;> omega))⟩⟩
        ·
         refine cf h66 (by kernel_rfl) (wp_skip (sq (rg (sh 5 [(110, .pv (.fn 12 [] [])), (109, aI y51), (108, aI y22), (107, aI y19), (106, aR 0 1 m0)] (by kernel_rfl) ?_))))
         obtain ⟨⟨x74, x75, x76⟩, h73, hm⟩ := bs hm
         obtain ⟨vv, H1, hC, g77, q78, q79, rfl, rfl⟩ := ok_slices_partitionCmpFunc_Value_row_Cmp_r m0 g61 (by first | rfl | assumption | omega | (simp only [List.length_set, List.length_append, List.length_cons, List.length_nil, List.length_replicate, List.length_drop] at * <;> omega)) (by first | exact Nat.zero_le _ | exact Nat.le_refl _ | assumption | omega | (simp only [List.length_set, List.length_append, List.length_cons, List.length_nil, List.length_replicate, List.length_drop] at * <;> omega)) h73
         refine dR [(111, .tup [aI x75, aB x76])] [bR 22 1 (rSl R_api_Value) x74 g77 0] [0] [aR 0 1 m0, aI y19, aI y22, aI y51, .pv (.fn 12 [] [])] (by kernel_rfl) (by kernel_rfl) (by kernel_rfl) hC (by kernel_rfl) (sh 5 [(17, aB x76), (16, aI x75), (113, aB x76), (112, aI x75), (105, .tup [aI x75, aB x76])] (by kernel_rfl) (fin [(0, aR 0 1 m0), (1, aI y19), (2, aI y22), (3, aI y42), (4, .pv (.fn 12 [] [])), (12, aI (IntKind.wrap .i64 (y22 - y19))), (16, aI x75), (17, aB x76)] rfl (by kernel_rfl) (sq (detn [(0, aR 0 1 m0), (1, aI y19), (2, aI y22), (3, aI y42), (4, .pv (.fn 12 [] [])), (11, aB x76), (12, aI (IntKind.wrap .i64 (y22 - y19))), (16, aI x75)] (by kernel_rfl) (sq (detn [(0, aR 0 1 m0), (1, aI y19), (2, aI y22), (3, aI y42), (4, .pv (.fn 12 [] [])), (11, aB x76), (12, aI (IntKind.wrap .i64 (y22 - y19))), (16, aI x75), (18, aI (IntKind.wrap .i64 (x75 - y19))), (19, aI (IntKind.wrap .i64 (y22 - x75)))] (by kernel_rfl) (sq (detn [(0, aR 0 1 m0), (1, aI y19), (2, aI y22), (3, aI y42), (4, .pv (.fn 12 [] [])), (11, aB x76), (16, aI x75), (18, aI (IntKind.wrap .i64 (x75 - y19))), (19, aI (IntKind.wrap .i64 (y22 - x75))), (20, aI (IntKind.wrap .i64 (Int.tdiv (IntKind.wrap .i64 (y22 - y19)) 8)))] (by kernel_rfl) (sq (detn [(0, aR 0 1 m0), (1, aI y19), (2, aI y22), (3, aI y42), (4, .pv (.fn 12 [] [])), (11, aB x76), (16, aI x75), (18, aI (IntKind.wrap .i64 (x75 - y19))), (19, aI (IntKind.wrap .i64 (y22 - x75))), (20, aI (IntKind.wrap .i64 (Int.tdiv (IntKind.wrap .i64 (y22 - y19)) 8))), (125, aB (decide ((IntKind.wrap .i64 (x75 - y19)) < (IntKind.wrap .i64 (y22 - x75)))))] (by kernel_rfl) ?_))))))))))
         rcases bif_some hm with ⟨h80, hm⟩ | ⟨h80, hm⟩
         ·
          refine ct h80 (by kernel_rfl) (sq (detn [(0, aR 0 1 m0), (1, aI y19), (2, aI y22), (3, aI y42), (4, .pv (.fn 12 [] [])), (10, aB (decide ((IntKind.wrap .i64 (x75 - y19)) ≥ (IntKind.wrap .i64 (Int.tdiv (IntKind.wrap .i64 (y22 - y19)) 8))))), (11, aB x76), (16, aI x75)] (by kernel_rfl) (sq (rg (sh 5 [(133, .pv (.fn 12 [] [])), (132, aI y42), (131, aI x75), (130, aI y19), (129, aR 0 1 m0)] (by kernel_rfl) ?_)))))
          obtain ⟨x82, h81, hm⟩ := bs hm
          obtain ⟨vv, H1, hC, g83, q84, q85, rfl, rfl⟩ := ih_slices_pdqsortCmpFunc_Value_row_Cmp_r m0 g77 (by first | rfl | assumption | omega | (simp only [List.length_set, List.length_append, List.length_cons, List.length_nil, List.length_replicate, List.length_drop] at * <;> omega)) (by first | exact Nat.zero_le _ | exact Nat.le_refl _ | assumption | omega | (simp only [List.length_set, List.length_append, List.length_cons, List.length_nil, List.length_replicate, List.length_drop] at * <;> omega)) h81
          refine dR [(134, .tup [])] [bR 22 1 (rSl R_api_Value) x82 g83 0] [0] [aR 0 1 m0, aI y19, aI x75, aI y42, .pv (.fn 12 [] [])] (by kernel_rfl) (by kernel_rfl) (by kernel_rfl) hC (by kernel_rfl) (fin [(0, aR 0 1 m0), (2, aI y22), (3, aI y42), (4, .pv (.fn 12 [] [])), (10, aB (decide ((IntKind.wrap .i64 (x75 - y19)) ≥ (IntKind.wrap .i64 (Int.tdiv (IntKind.wrap .i64 (y22 - y19)) 8))))), (11, aB x76), (16, aI x75)] rfl (by kernel_rfl) (detn [(0, aR 0 1 m0), (1, aI (IntKind.wrap .i64 (x75 + 1))), (2, aI y22), (3, aI y42), (4, .pv (.fn 12 [] [])), (10, aB (decide ((IntKind.wrap .i64 (x75 - y19)) ≥ (IntKind.wrap .i64 (Int.tdiv (IntKind.wrap .i64 (y22 - y19)) 8))))), (11, aB x76)] (by kernel_rfl) ?_))
          exact ⟨_, _, tidyL [(0, aR 0 1 m0), (1, aI (IntKind.wrap .i64 (x75 + 1))), (2, aI y22), (3, aI y42), (4, .pv (.fn 12 [] [])), (10, aB (decide ((IntKind.wrap .i64 (x75 - y19)) ≥ (IntKind.wrap .i64 (Int.tdiv (IntKind.wrap .i64 (y22 - y19)) 8))))), (11, aB x76)] [bR 22 1 (rSl R_api_Value) x82 g83 0] (by kernel_rfl), ⟨x82, (IntKind.wrap .i64 (x75 + 1)), (decide ((IntKind.wrap .i64 (x75 - y19)) ≥ (IntKind.wrap .i64 (Int.tdiv (IntKind.wrap .i64 (y22 - y19)) 8)))), x76, y22, y42, g83, hm, rfl, rfl, (by first | rfl | assumption | omega | (simp only [List.length_set, List.length_append, List.length_cons, List.length_nil, List.length_replicate, List.length_drop] at * <;> omega)), (by first | exact Nat.zero_le _ | exact Nat.le_refl _ | assumption | omega | (simp only [List.length_set, List.length_append, List.length_cons, List.length_nil, List.length_replicate, List.length_drop] at * <;> omega))⟩⟩
         ·
          refine cf h80 (by kernel_rfl) (sq (detn [(0, aR 0 1 m0), (1, aI y19), (2, aI y22), (3, aI y42), (4, .pv (.fn 12 [] [])), (10, aB (decide ((IntKind.wrap .i64 (y22 - x75)) ≥ (IntKind.wrap .i64 (Int.tdiv (IntKind.wrap .i64 (y22 - y19)) 8))))), (11, aB x76), (16, aI x75)] (by kernel_rfl) (sq (rg (sh 6 [(145, .pv (.fn 12 [] [])), (144, aI y42), (143, aI y22), (142, aI (IntKind.wrap .i64 (x75 + 1))), (141, aI x75), (140, aR 0 1 m0)] (by kernel_rfl) ?_)))))
          obtain ⟨x87, h86, hm⟩ := bs hm
          obtain ⟨vv, H1, hC, g88, q89, q90, rfl, rfl⟩ := ih_slices_pdqsortCmpFunc_Value_row_Cmp_r m0 g77 (by first | rfl | assumption | omega | (simp only [List.length_set, List.length_append, List.length_cons, List.length_nil, List.length_replicate, List.length_drop] at * <;> omega)) (by first | exact Nat.zero_le _ | exact Nat.le_refl _ | assumption | omega | (simp only [List.length_set, List.length_append, List.length_cons, List.length_nil, List.length_replicate, List.length_drop] at * <;> omega)) h86
          refine dR [(146, .tup [])] [bR 22 1 (rSl R_api_Value) x87 g88 0] [0] [aR 0 1 m0, aI (IntKind.wrap .i64 (x75 + 1)), aI y22, aI y42, .pv (.fn 12 [] [])] (by kernel_rfl) (by kernel_rfl) (by kernel_rfl) hC (by kernel_rfl) (fin [(0, aR 0 1 m0), (1, aI y19), (3, aI y42), (4, .pv (.fn 12 [] [])), (10, aB (decide ((IntKind.wrap .i64 (y22 - x75)) ≥ (IntKind.wrap .i64 (Int.tdiv (IntKind.wrap .i64 (y22 - y19)) 8))))), (11, aB x76), (16, aI x75)] rfl (by kernel_rfl) (detn [(0, aR 0 1 m0), (1, aI y19), (2, aI x75), (3, aI y42), (4, .pv (.fn 12 [] [])), (10, aB (decide ((IntKind.wrap .i64 (y22 - x75)) ≥ (IntKind.wrap .i64 (Int.tdiv (IntKind.wrap .i64 (y22 - y19)) 8))))), (11, aB x76)] (by kernel_rfl) ?_))
          exact ⟨_, _, tidyL [(0, aR 0 1 m0), (1, aI y19), (2, aI x75), (3, aI y42), (4, .pv (.fn 12 [] [])), (10, aB (decide ((IntKind.wrap .i64 (y22 - x75)) ≥ (IntKind.wrap .i64 (Int.tdiv (IntKind.wrap .i64 (y22 - y19)) 8))))), (11, aB x76)] [bR 22 1 (rSl R_api_Value) x87 g88 0] (by kernel_rfl), ⟨x87, y19, (decide ((IntKind.wrap .i64 (y22 - x75)) ≥ (IntKind.wrap .i64 (Int.tdiv (IntKind.wrap .i64 (y22 - y19)) 8)))), x76, x75, y42, g88, hm, rfl, rfl, (by first | rfl | assumption | omega | (simp only [List.length_set, List.length_append, List.length_cons, List.length_nil, List.length_replicate, List.length_drop] at * <;> omega)), (by first | exact Nat.zero_le _ | exact Nat.le_refl _ | assumption | omega | (simp only [List.length_set, List.length_append, List.length_cons, List.length_nil, List.length_replicate, List.length_drop] at * <;> omega))⟩⟩
       refine rgd (shd 3 [(83, aB (decide (y19 > 0))), (82, aB (decide (y19 > 0))), (81, aI y19)] (by kernel_rfl) ?_)
       rcases bif_some hm with ⟨h91, hm⟩ | ⟨h91, hm⟩
       ·
        refine knownd [83, 82] h91 (by kernel_rfl) (shd 4 [(87, aI (IntKind.wrap .i64 (y19 - 1))), (86, aI y19), (85, aR 0 1 m0), (84, .pv (.fn 12 [] []))] (by kernel_rfl) ?_)
        obtain ⟨x92, h93, hm⟩ := bs hm
        refine dvd 88 (v := .eptr 0 0 m0 1 (0 + Int.toNat (IntKind.wrap .i64 (y19 - 1))) 0) (ia_refO y59 .i64 (n := m0) (id := 0) (esz := 1) t25 t22 h93 (by omega) rfl (by kernel_rfl)) (by kernel_rfl) (dvd 89 (v := .pv (encSl R_api_Value x92)) (ld_eptrO (rSl R_api_Value) y59 (n := m0) (esz := 1) (j := (IntKind.wrap .i64 (y19 - 1))) (off := 0) (id := 0) t22 rfl h93 (by omega) (by omega) (by kernel_rfl) (by kernel_rfl)) (by kernel_rfl) (shd 2 [(91, aI y51), (90, aR 0 1 m0)] (by kernel_rfl) ?_))
        obtain ⟨x94, h95, hm⟩ := bs hm
        refine dvd 92 (v := .eptr 0 0 m0 1 (0 + Int.toNat y51) 0) (ia_refO y59 .i64 (n := m0) (id := 0) (esz := 1) t25 t22 h95 (by omega) rfl (by kernel_rfl)) (by kernel_rfl) (dvd 93 (v := .pv (encSl R_api_Value x94)) (ld_eptrO (rSl R_api_Value) y59 (n := m0) (esz := 1) (j := y51) (off := 0) (id := 0) t22 rfl h95 (by omega) (by omega) (by kernel_rfl) (by kernel_rfl)) (by kernel_rfl) ?_)
        obtain ⟨x96, h97, hm⟩ := bs hm
        refine dvd 94 (cpure (by kernel_rfl) (ok_row_Cmp h97) (by kernel_rfl) (by kernel_rfl) (by kernel_rfl)) (by kernel_rfl) (shd 3 [(97, aB (!(decide (x96 < 0)))), (96, aB (!(decide (x96 < 0)))), (95, aB (decide (x96 < 0)))] (by kernel_rfl) (find [(0, aR 0 1 m0), (1, aI y19), (2, aI y22), (3, aI y42), (4, .pv (.fn 12 [] [])), (10, aB y20), (11, aB y21), (12, aI (IntKind.wrap .i64 (y22 - y19))), (13, aI y51), (97, aB (!(decide (x96 < 0))))] rfl (by kernel_rfl) (by kernel_rfl) ?_))
        exact ⟨(!(decide (x96 < 0))), hm, rfl, rfl⟩
       ·
        refine knownd [83, 82] h91 (by kernel_rfl) (shd 14 [(97, aB false), (96, .undef), (95, .undef), (94, .undef), (93, .undef), (92, .undef), (91, .undef), (90, .undef), (89, .undef), (88, .undef), (87, .undef), (86, .undef), (85, .undef), (84, .undef)] (by kernel_rfl) (find [(0, aR 0 1 m0), (1, aI y19), (2, aI y22), (3, aI y42), (4, .pv (.fn 12 [] [])), (10, aB y20), (11, aB y21), (12, aI (IntKind.wrap .i64 (y22 - y19))), (13, aI y51), (97, aB false)] rfl (by kernel_rfl) (by kernel_rfl) ?_))
        exact ⟨false, hm, rfl, rfl⟩
      refine sq (rg (sh 2 [(69, aB y20), (68, aB y20)] (by kernel_rfl) ?_))
      refine seg y20 [69, 68, 10] (fun b => [(71, aB (b && y21)), (70, ifA b (aB y21) (.undef))]) 4 (by kernel_rfl) ?_ ?_ ?_
      ·
       intro Q h
       refine sh 2 [(71, aB y21), (70, aB y21)] (by kernel_rfl) ?_
       exact sameN (by kernel_rfl) (by kernel_rfl) h
      ·
       intro Q h
       refine sh 2 [(71, aB false), (70, .undef)] (by kernel_rfl) ?_
       exact sameN (by kernel_rfl) (by kernel_rfl) h
      refine sh 1 [(72, aB (y20 && y21))] (by kernel_rfl) ?_
      refine seg (y20 && y21) [72, 71] (fun b => [(75, aB (b && (y52 == 1))), (74, ifA b (aB (y52 == 1)) (.undef)), (73, ifA b (aI y52) (.undef))]) 8 (by kernel_rfl) ?_ ?_ ?_
      ·
       intro Q h
       refine sh 3 [(75, aB (y52 == 1)), (74, aB (y52 == 1)), (73, aI y52)] (by kernel_rfl) ?_
       exact sameN (by kernel_rfl) (by kernel_rfl) h
      ·
       intro Q h
       refine sh 3 [(75, aB false), (74, .undef), (73, .undef)] (by kernel_rfl) ?_
       exact sameN (by kernel_rfl) (by kernel_rfl) h
      refine fin [(0, aR 0 1 m0), (1, aI y19), (2, aI y22), (3, aI y42), (4, .pv (.fn 12 [] [])), (10, aB y20), (11, aB y21), (12, aI (IntKind.wrap .i64 (y22 - y19))), (13, aI y51), (75, aB ((y20 && y21) && (y52 == 1)))] rfl (by kernel_rfl) ?_
      rcases bif_some hm with ⟨h98, hm⟩ | ⟨h98, hm⟩
      ·
       refine ct h98 (by kernel_rfl) (sq (rg (sh 4 [(79, .pv (.fn 12 [] [])), (78, aI y22), (77, aI y19), (76, aR 0 1 m0)] (by kernel_rfl) ?_)))
       obtain ⟨⟨x100, x101⟩, h99, hm⟩ := bs hm
       obtain ⟨vv, H1, hC, g102, q103, q104, rfl, rfl⟩ := ok_slices_partialInsertionSortCmpFunc_Value_row_Cmp_r m0 g54 (by first | rfl | assumption | omega | (simp only [List.length_set, List.length_append, List.length_cons, List.length_nil, List.length_replicate, List.length_drop] at * <;> omega)) (by first | exact Nat.zero_le _ | exact Nat.le_refl _ | assumption | omega | (simp only [List.length_set, List.length_append, List.length_cons, List.length_nil, List.length_replicate, List.length_drop] at * <;> omega)) h99
       refine dR [(80, aB x101)] [bR 22 1 (rSl R_api_Value) x100 g102 0] [0] [aR 0 1 m0, aI y19, aI y22, .pv (.fn 12 [] [])] (by kernel_rfl) (by kernel_rfl) (by kernel_rfl) hC (by kernel_rfl) (fin [(0, aR 0 1 m0), (1, aI y19), (2, aI y22), (3, aI y42), (4, .pv (.fn 12 [] [])), (10, aB y20), (11, aB y21), (12, aI (IntKind.wrap .i64 (y22 - y19))), (13, aI y51), (80, aB x101)] rfl (by kernel_rfl) ?_)
       rcases bif_some hm with ⟨h105, hm⟩ | ⟨h105, hm⟩
       ·
        refine ct h105 (by kernel_rfl) (wp_ret ?_)
        obtain rfl := Option.some.inj hm
        exact ⟨trivial, .tup [], [bR 22 1 (rSl R_api_Value) x100 g102 0], by kernel_rfl, g102, (by first | rfl | assumption | omega | (simp only [List.length_set, List.length_append, List.length_cons, List.length_nil, List.length_replicate, List.length_drop] at * <;> omega)), (by first | exact Nat.zero_le _ | exact Nat.le_refl _ | assumption | omega | (simp only [List.length_set, List.length_append, List.length_cons, List.length_nil, List.length_replicate, List.length_drop] at * <;> omega)), rfl, rfl⟩
       ·
        refine cf h105 (by kernel_rfl) (wp_skip ?_)
        exact ⟨x100, .any, aB x101, g102, hm, (mk_same (by kernel_rfl)), rfl, (by first | rfl | assumption | omega | (simp only [List.length_set, List.length_append, List.length_cons, List.length_nil, List.length_replicate, List.length_drop] at * <;> omega)), (by first | exact Nat.zero_le _ | exact Nat.le_refl _ | assumption | omega | (simp only [List.length_set, List.length_append, List.length_cons, List.length_nil, List.length_replicate, List.length_drop] at * <;> omega))⟩
      ·
       refine cf h98 (by kernel_rfl) (wp_skip ?_)
       exact ⟨y50, aB ((y20 && y21) && (y52 == 1)), .any, g54, hm, (mk_same (by kernel_rfl)), rfl, (by first | rfl | assumption | omega | (simp only [List.length_set, List.length_append, List.length_cons, List.length_nil, List.length_replicate, List.length_drop] at * <;> omega)), (by first | exact Nat.zero_le _ | exact Nat.le_refl _ | assumption | omega | (simp only [List.length_set, List.length_append, List.length_cons, List.length_nil, List.length_replicate, List.length_drop] at * <;> omega))⟩
     refine sq (detn [(0, aR 0 1 m0), (1, aI y19), (2, aI y22), (3, aI y42), (4, .pv (.fn 12 [] [])), (10, aB y20), (11, aB y21), (12, aI (IntKind.wrap .i64 (y22 - y19))), (13, aI x47.1), (14, aI x47.2), (56, aB (x47.2 == 2))] (by kernel_rfl) ?_)
     rcases bif_some hm with ⟨h106, hm⟩ | ⟨h106, hm⟩
     ·
      refine ct h106 (by kernel_rfl) (sq (rg (sh 4 [(60, .pv (.fn 12 [] [])), (59, aI y22), (58, aI y19), (57, aR 0 1 m0)] (by kernel_rfl) ?_)))
      obtain ⟨x108, h107, hm⟩ := bs hm
      obtain ⟨vv, H1, hC, g109, q110, q111, rfl, rfl⟩ := ok_slices_reverseRangeCmpFunc_Value_row_Cmp_r m0 g44 (by first | rfl | assumption | omega | (simp only [List.length_set, List.length_append, List.length_cons, List.length_nil, List.length_replicate, List.length_drop] at * <;> omega)) (by first | exact Nat.zero_le _ | exact Nat.le_refl _ | assumption | omega | (simp only [List.length_set, List.length_append, List.length_cons, List.length_nil, List.length_replicate, List.length_drop] at * <;> omega)) h107
      refine dR [(61, .tup [])] [bR 22 1 (rSl R_api_Value) x108 g109 0] [0] [aR 0 1 m0, aI y19, aI y22, .pv (.fn 12 [] [])] (by kernel_rfl) (by kernel_rfl) (by kernel_rfl) hC (by kernel_rfl) (fin [(0, aR 0 1 m0), (1, aI y19), (2, aI y22), (3, aI y42), (4, .pv (.fn 12 [] [])), (10, aB y20), (11, aB y21), (12, aI (IntKind.wrap .i64 (y22 - y19))), (13, aI x47.1)] rfl (by kernel_rfl) (sq (detn [(0, aR 0 1 m0), (1, aI y19), (2, aI y22), (3, aI y42), (4, .pv (.fn 12 [] [])), (10, aB y20), (11, aB y21), (12, aI (IntKind.wrap .i64 (y22 - y19))), (13, aI (IntKind.wrap .i64 ((IntKind.wrap .i64 (y22 - 1)) - (IntKind.wrap .i64 (x47.1 - y19)))))] (by kernel_rfl) (detn [(0, aR 0 1 m0), (1, aI y19), (2, aI y22), (3, aI y42), (4, .pv (.fn 12 [] [])), (10, aB y20), (11, aB y21), (12, aI (IntKind.wrap .i64 (y22 - y19))), (13, aI (IntKind.wrap .i64 ((IntKind.wrap .i64 (y22 - 1)) - (IntKind.wrap .i64 (x47.1 - y19))))), (14, aI 1)] (by kernel_rfl) ?_))))
      exact ⟨x108, (IntKind.wrap .i64 ((IntKind.wrap .i64 (y22 - 1)) - (IntKind.wrap .i64 (x47.1 - y19)))), 1, .any, g109, hm, (mk_same (by kernel_rfl)), rfl, (by first | rfl | assumption | omega | (simp only [List.length_set, List.length_append, List.length_cons, List.length_nil, List.length_replicate, List.length_drop] at * <;> omega)), (by first | exact Nat.zero_le _ | exact Nat.le_refl _ | assumption | omega | (simp only [List.length_set, List.length_append, List.length_cons, List.length_nil, List.length_replicate, List.length_drop] at * <;> omega))⟩
     ·
      refine cf h106 (by kernel_rfl) (wp_skip ?_)
      exact ⟨y41, x47.1, x47.2, aB (x47.2 == 2), g44, hm, (mk_same (by kernel_rfl)), rfl, (by first | rfl | assumption | omega | (simp only [List.length_set, List.length_append, List.length_cons, List.length_nil, List.length_replicate, List.length_drop] at * <;> omega)), (by first | exact Nat.zero_le _ | exact Nat.le_refl _ | assumption | omega | (simp only [List.length_set, List.length_append, List.length_cons, List.length_nil, List.length_replicate, List.length_drop] at * <;> omega))⟩
    refine sq (detn [(0, aR 0 1 m0), (1, aI y19), (2, aI y22), (3, aI y23), (4, .pv (.fn 12 [] [])), (10, aB y20), (11, aB y21), (12, aI (IntKind.wrap .i64 (y22 - y19))), (39, aB (!y20))] (by kernel_rfl) ?_)
    rcases bif_some hm with ⟨h112, hm⟩ | ⟨h112, hm⟩
    ·
     refine ct h112 (by kernel_rfl) (sq (rg (sh 4 [(43, .pv (.fn 12 [] [])), (42, aI y22), (41, aI y19), (40, aR 0 1 m0)] (by kernel_rfl) ?_)))
     obtain ⟨x114, h113, hm⟩ := bs hm
     obtain ⟨vv, H1, hC, g115, q116, q117, rfl, rfl⟩ := ok_slices_breakPatternsCmpFunc_Value_row_Cmp_r m0 g25 (by first | rfl | assumption | omega | (simp only [List.length_set, List.length_append, List.length_cons, List.length_nil, List.length_replicate, List.length_drop] at * <;> omega)) (by first | exact Nat.zero_le _ | exact Nat.le_refl _ | assumption | omega | (simp only [List.length_set, List.length_append, List.length_cons, List.length_nil, List.length_replicate, List.length_drop] at * <;> omega)) h113
     refine dR [(44, .tup [])] [bR 22 1 (rSl R_api_Value) x114 g115 0] [0] [aR 0 1 m0, aI y19, aI y22, .pv (.fn 12 [] [])] (by kernel_rfl) (by kernel_rfl) (by kernel_rfl) hC (by kernel_rfl) (fin [(0, aR 0 1 m0), (1, aI y19), (2, aI y22), (3, aI y23), (4, .pv (.fn 12 [] [])), (10, aB y20), (11, aB y21), (12, aI (IntKind.wrap .i64 (y22 - y19)))] rfl (by kernel_rfl) (detn [(0, aR 0 1 m0), (1, aI y19), (2, aI y22), (3, aI (IntKind.wrap .i64 (y23 - 1))), (4, .pv (.fn 12 [] [])), (10, aB y20), (11, aB y21), (12, aI (IntKind.wrap .i64 (y22 - y19)))] (by kernel_rfl) ?_))
     exact ⟨x114, (IntKind.wrap .i64 (y23 - 1)), .any, g115, hm, (mk_same (by kernel_rfl)), rfl, (by first | rfl | assumption | omega | (simp only [List.length_set, List.length_append, List.length_cons, List.length_nil, List.length_replicate, List.length_drop] at * <;> omega)), (by first | exact Nat.zero_le _ | exact Nat.le_refl _ | assumption | omega | (simp only [List.length_set, List.length_append, List.length_cons, List.length_nil, List.length_replicate, List.length_drop] at * <;> omega))⟩
    ·
     refine cf h112 (by kernel_rfl) (wp_skip ?_)
     exact ⟨y18, y23, aB (!y20), g25, hm, (mk_same (by kernel_rfl)), rfl, (by first | rfl | assumption | omega | (simp only [List.length_set, List.length_append, List.length_cons, List.length_nil, List.length_replicate, List.length_drop] at * <;> omega)), (by first | exact Nat.zero_le _ | exact Nat.le_refl _ | assumption | omega | (simp only [List.length_set, List.length_append, List.length_cons, List.length_nil, List.length_replicate, List.length_drop] at * <;> omega))⟩
theorem okt_slices_pdqsortCmpFunc_Value_row_Cmp_r : ∀ (m : Nat), ∀ (m0 : Nat) (f0 : Nat) {n : Nat} {a0 : (List (Option (List api_Value)))} {a1 : Int} {a2 : Int} {a3 : Int} {r : (List (Option (List api_Value)))} (hm0 : a0.length = m0) (hf0 : f0 ≤ a0.length) (hm : slices_pdqsortCmpFunc_Value_row_Cmp_r_t m n a0 a1 a2 a3 = some r), ∃ vv H1, call G n 85 [aR 0 1 m0, aI a1, aI a2, aI a3, .pv (.fn 12 [] [])] [bR 22 1 (rSl R_api_Value) a0 f0 0] = some (.ret vv, H1) ∧ (match r with | r0 => (∃ (e1 : Nat), r0.length = m0 ∧ e1 ≤ r0.length ∧ vv = .tup [] ∧ H1 = [bR 22 1 (rSl R_api_Value) r0 e1 0]))
  | 0 => by intros; rename_i hm; exact nomatch hm
  | m + 1 => @fun m0 f0 n a0 a1 a2 a3 r hm0 hf0 hm =>
    okf_slices_pdqsortCmpFunc_Value_row_Cmp_r (okt_slices_pdqsortCmpFunc_Value_row_Cmp_r m) m0 f0 hm0 hf0 hm
theorem ok_slices_pdqsortCmpFunc_Value_row_Cmp_r (m0 : Nat) (f0 : Nat) {n : Nat} {a0 : (List (Option (List api_Value)))} {a1 : Int} {a2 : Int} {a3 : Int} {r : (List (Option (List api_Value)))} (hm0 : a0.length = m0) (hf0 : f0 ≤ a0.length) (hm : slices_pdqsortCmpFunc_Value_row_Cmp_r n a0 a1 a2 a3 = some r) :
    ∃ vv H1, call G n 85 [aR 0 1 m0, aI a1, aI a2, aI a3, .pv (.fn 12 [] [])] [bR 22 1 (rSl R_api_Value) a0 f0 0] = some (.ret vv, H1) ∧ (match r with | r0 => (∃ (e1 : Nat), r0.length = m0 ∧ e1 ≤ r0.length ∧ vv = .tup [] ∧ H1 = [bR 22 1 (rSl R_api_Value) r0 e1 0])) := okt_slices_pdqsortCmpFunc_Value_row_Cmp_r n m0 f0 hm0 hf0 hm
theorem ok_slices_SortFunc_Value_row_Cmp_r (m0 : Nat) (f0 : Nat) {n : Nat} {a0 : (List (Option (List api_Value)))} {r : (List (Option (List api_Value)))} (hm0 : a0.length = m0) (hf0 : f0 ≤ a0.length) (hm : slices_SortFunc_Value_row_Cmp_r n a0 = some r) :
    ∃ vv H1, call G n 67 [aR 0 1 m0, .pv (.fn 12 [] [])] [bR 22 1 (rSl R_api_Value) a0 f0 0] = some (.ret vv, H1) ∧ (match r with | r0 => (∃ (e1 : Nat), r0.length = m0 ∧ e1 ≤ r0.length ∧ vv = .tup [] ∧ H1 = [bR 22 1 (rSl R_api_Value) r0 e1 0])) := by
  unfold slices_SortFunc_Value_row_Cmp_r at hm
  obtain ⟨n, rfl, h0⟩ := at1_some hm
  replace hm := h0; clear h0
  refine callE 14 [(0, aR 0 1 m0), (1, .pv (.fn 12 [] []))] func67 rfl (by kernel_rfl) (sq (rg (sh 1 [(5, aR 0 1 m0)] (by kernel_rfl) (dv 6 (v := aI (a0.length : Int)) (len_refO a0 (n := m0) (id := 0) (esz := 1) t25 (by omega) (by kernel_rfl)) (by kernel_rfl) (sh 1 [(4, aI (a0.length : Int))] (by kernel_rfl) (fin [(0, aR 0 1 m0), (1, .pv (.fn 12 [] [])), (4, aI (a0.length : Int))] rfl (by kernel_rfl) (rg (sh 4 [(10, aU (IntKind.wrap .u64 (a0.length : Int))), (9, aI (a0.length : Int)), (8, aI (a0.length : Int)), (7, aR 0 1 m0)] (by kernel_rfl) ?_))))))))
  obtain ⟨x1, h2, hm⟩ := bs hm
  refine dv 11 (cpure (by kernel_rfl) (ok_math_bits_Len h2) (by kernel_rfl) (by kernel_rfl) (by kernel_rfl)) (by kernel_rfl) (sh 1 [(12, .pv (.fn 12 [] []))] (by kernel_rfl) ?_)
  obtain ⟨x4, h3, hm⟩ := bs hm
  obtain ⟨vv, H1, hC, g5, q6, q7, rfl, rfl⟩ := ok_slices_pdqsortCmpFunc_Value_row_Cmp_r m0 f0 (by first | rfl | assumption | omega | (simp only [List.length_set, List.length_append, List.length_cons, List.length_nil, List.length_replicate, List.length_drop] at * <;> omega)) (by first | exact Nat.zero_le _ | exact Nat.le_refl _ | assumption | omega | (simp only [List.length_set, List.length_append, List.length_cons, List.length_nil, List.length_replicate, List.length_drop] at * <;> omega)) h3
  refine dR [(13, .tup [])] [bR 22 1 (rSl R_api_Value) x4 g5 0] [0] [aR 0 1 m0, aI 0, aI (a0.length : Int), aI x1, .pv (.fn 12 [] [])] (by kernel_rfl) (by kernel_rfl) (by kernel_rfl) hC (by kernel_rfl) (fin [] rfl (by kernel_rfl) ?_)
  obtain rfl := Option.some.inj hm
  exact ⟨trivial, .tup [], [bR 22 1 (rSl R_api_Value) x4 g5 0], by kernel_rfl, g5, (by first | rfl | assumption | omega | (simp only [List.length_set, List.length_append, List.length_cons, List.length_nil, List.length_replicate, List.length_drop] at * <;> omega)), (by first | exact Nat.zero_le _ | exact Nat.le_refl _ | assumption | omega | (simp only [List.length_set, List.length_append, List.length_cons, List.length_nil, List.length_replicate, List.length_drop] at * <;> omega)), rfl, rfl⟩
theorem ok_row_ranked {n : Nat} {a0 : (Option (List (Option (List api_Value))))} {r : (Option (List (Option (List api_Value))))} (hm : row_ranked n a0 = some r) :
    call G n 43 [.pv (encSl (rSl R_api_Value) a0)] [] = some (.ret (.pv (encSl (rSl R_api_Value) r)), []) := by
  unfold row_ranked at hm
  obtain ⟨n, rfl, h0⟩ := at1_some hm
  replace hm := h0; clear h0
  refine callL 9 [(0, .pv (encSl (rSl R_api_Value) a0))] func43 rfl (by kernel_rfl) (sq (detn [(0, .pv (encSl (rSl R_api_Value) a0))] (by kernel_rfl) (sq (rg (sh 1 [(4, .pv (encSl (rSl R_api_Value) a0))] (by kernel_rfl) ?_)))))
  obtain ⟨x3, h1, hm⟩ := bs hm
  rcases x3 with _ | x2
  ·
   obtain ⟨vv, H1, hC, rfl, rfl⟩ := ok_slices_Clone_Value h1
   refine dO [(5, .pv .nils)] [] (cownO [] [.pv (encSl (rSl R_api_Value) a0)] (v' := .pv .nils) (bs' := []) (by kernel_rfl) (by kernel_rfl) (by kernel_rfl) hC (by kernel_rfl) (by kernel_rfl) (by kernel_rfl)) (by kernel_rfl) (sh 1 [(3, .pv .nils)] (by kernel_rfl) (fin [(3, .pv .nils)] rfl (by kernel_rfl) (sq (rg (sh 1 [(6, .pv .nils)] (by kernel_rfl) ?_)))))
   obtain ⟨_, h4, hm⟩ := bs hm
   obtain ⟨vv, H1, hC, rfl, rfl⟩ := ok_slices_SortFunc_Value_row_Cmp_nil h4
   refine dR [(7, .tup [])] [] [] [.pv .nils, .pv (.fn 12 [] [])] (by kernel_rfl) (by kernel_rfl) (by kernel_rfl) hC (by kernel_rfl) (fin [(3, .pv .nils)] rfl (by kernel_rfl) (sq (detn [(2, .pv .nils)] (by kernel_rfl) (wp_ret ?_))))
   obtain rfl := Option.some.inj hm
   exact ⟨trivial, by kernel_rfl⟩
  ·
   obtain ⟨vv, H1, hC, g5, q6, rfl, rfl⟩ := ok_slices_Clone_Value h1
   refine dO [(5, aR 0 1 g5)] [bR 22 1 (rSl R_api_Value) x2 0 0] (cownO [] [.pv (encSl (rSl R_api_Value) a0)] (v' := aR 0 1 g5) (bs' := [bR 22 1 (rSl R_api_Value) x2 0 0]) (by kernel_rfl) (by kernel_rfl) (by kernel_rfl) hC (by kernel_rfl) (by kernel_rfl) (by kernel_rfl)) (by kernel_rfl) (sh 1 [(3, aR 0 1 g5)] (by kernel_rfl) (fin [(3, aR 0 1 g5)] rfl (by kernel_rfl) (sq (rg (sh 1 [(6, aR 0 1 g5)] (by kernel_rfl) ?_)))))
   obtain ⟨x8, h7, hm⟩ := bs hm
   obtain ⟨vv, H1, hC, g9, q10, q11, rfl, rfl⟩ := ok_slices_SortFunc_Value_row_Cmp_r g5 0 (by first | rfl | assumption | omega | (simp only [List.length_set, List.length_append, List.length_cons, List.length_nil, List.length_replicate, List.length_drop] at * <;> omega)) (by first | exact Nat.zero_le _ | exact Nat.le_refl _ | assumption | omega | (simp only [List.length_set, List.length_append, List.length_cons, List.length_nil, List.length_replicate, List.length_drop] at * <;> omega)) h7
   refine dR [(7, .tup [])] [bR 22 1 (rSl R_api_Value) x8 g9 0] [0] [aR 0 1 g5, .pv (.fn 12 [] [])] (by kernel_rfl) (by kernel_rfl) (by kernel_rfl) hC (by kernel_rfl) (fin [(3, aR 0 1 g5)] rfl (by kernel_rfl) (sq (detn [(2, aR 0 1 g5)] (by kernel_rfl) (wp_ret ?_))))
   obtain rfl := Option.some.inj hm
   exact ret_pure (v := aR 0 1 g5) trivial rfl (by kernel_rfl) (pA_ref (pur_ref' (n := g5) (id := 0) (l := x8) (R := (rSl R_api_Value)) rfl (by omega) (by omega)))
theorem ok_row_lists_Value_row_Cmp {n : Nat} {a0 : (Option (List (Option (List api_Value))))} {a1 : (Option (List (Option (List api_Value))))} {r : Int} (hm : row_lists_Value_row_Cmp n a0 a1 = some r) :
    call G n 42 [.pv (encSl (rSl R_api_Value) a0), .pv (encSl (rSl R_api_Value) a1), .pv (.fn 12 [] [])] [] = some (.ret (aI r), []) := by
  unfold row_lists_Value_row_Cmp at hm
  obtain ⟨n, rfl, h0⟩ := at1_some hm
  replace hm := h0; clear h0
  refine callL 39 [(0, .pv (encSl (rSl R_api_Value) a0)), (1, .pv (encSl (rSl R_api_Value) a1)), (2, .pv (.fn 12 [] []))] func42 rfl (by kernel_rfl) (sq (detn [(0, .pv (encSl (rSl R_api_Value) a0)), (1, .pv (encSl (rSl R_api_Value) a1)), (2, .pv (.fn 12 [] []))] (by kernel_rfl) ?_))
  obtain ⟨k3, hk3, hm⟩ := withK_some hm
  refine mid (fun t H => (∃ (y1 : Bool) (y2 : Int), k3 () = some r ∧ t = mk 39 [(0, .pv (encSl (rSl R_api_Value) a0)), (1, .pv (encSl (rSl R_api_Value) a1)), (2, .pv (.fn 12 [] [])), (7, aI y2), (18, aB y1)] ∧ H = [])) ?_ ?_
  ·
   rintro _ _ ⟨y1, y2, hm, rfl, rfl⟩
   subst hk3
   refine sq (rg (sh 1 [(34, .pv (encSl (rSl R_api_Value) a0))] (by kernel_rfl) (dv 35 (v := aI ((sll a0).length : Int)) (len_slO (rSl R_api_Value) a0 t25 (by kernel_rfl)) (by kernel_rfl) (sh 1 [(36, .pv (encSl (rSl R_api_Value) a1))] (by kernel_rfl) (dv 37 (v := aI ((sll a1).length : Int)) (len_slO (rSl R_api_Value) a1 t25 (by kernel_rfl)) (by kernel_rfl) ?_)))))
   obtain ⟨x4, h5, hm⟩ := bs hm
   refine dv 38 (cpure (by kernel_rfl) (ok_cmp_Compare_int h5) (by kernel_rfl) (by kernel_rfl) (by kernel_rfl)) (by kernel_rfl) (sh 1 [(6, aI x4)] (by kernel_rfl) (fin [(6, aI x4)] rfl (by kernel_rfl) (wp_ret ?_)))
   obtain rfl := Option.some.inj hm
   exact ⟨trivial, by kernel_rfl⟩
  refine sq (detn [(0, .pv (encSl (rSl R_api_Value) a0)), (1, .pv (encSl (rSl R_api_Value) a1)), (2, .pv (.fn 12 [] [])), (7, aI 0)] (by kernel_rfl) (bq ?_))
  refine loopF (fun mm t H => (∃ (y7 : Int), row_lists_Value_row_Cmp_l2 n a0 a1 k3 mm y7 = some r ∧ t = mk 39 [(0, .pv (encSl (rSl R_api_Value) a0)), (1, .pv (encSl (rSl R_api_Value) a1)), (2, .pv (.fn 12 [] [])), (7, aI y7)] ∧ H = [])) (⟨0, hm, rfl, rfl⟩) ?_ ?_
  · rintro _ _ ⟨y7, hm, _⟩; exact nomatch hm
  rintro m8 _ _ ⟨y7, hm, rfl, rfl⟩
  simp only [row_lists_Value_row_Cmp_l2] at hm
  refine sq (sq (rg (sh 2 [(10, .pv (encSl (rSl R_api_Value) a0)), (9, aI y7)] (by kernel_rfl) (dv 11 (v := aI ((sll a0).length : Int)) (len_slO (rSl R_api_Value) a0 t25 (by kernel_rfl)) (by kernel_rfl) (sh 2 [(13, aB (decide (y7 < ((sll a0).length : Int)))), (12, aB (decide (y7 < ((sll a0).length : Int))))] (by kernel_rfl) ?_)))))
  refine seg (decide (y7 < ((sll a0).length : Int))) [13, 12] (fun b => [(18, aB (b && (decide (y7 < ((sll a1).length : Int))))), (17, ifA b (aB (decide (y7 < ((sll a1).length : Int)))) (.undef)), (16, ifA b (aI ((sll a1).length : Int)) (.undef)), (15, ifA b (.pv (encSl (rSl R_api_Value) a1)) (.undef)), (14, ifA b (aI y7) (.undef))]) 10 (by kernel_rfl) ?_ ?_ ?_
  ·
   intro Q h
   refine sh 2 [(15, .pv (encSl (rSl R_api_Value) a1)), (14, aI y7)] (by kernel_rfl) (dv 16 (v := aI ((sll a1).length : Int)) (len_slO (rSl R_api_Value) a1 t25 (by kernel_rfl)) (by kernel_rfl) (sh 2 [(18, aB (decide (y7 < ((sll a1).length : Int)))), (17, aB (decide (y7 < ((sll a1).length : Int))))] (by kernel_rfl) ?_))
   exact sameN (by kernel_rfl) (by kernel_rfl) h
  ·
   intro Q h
   refine sh 5 [(18, aB false), (17, .undef), (16, .undef), (15, .undef), (14, .undef)] (by kernel_rfl) ?_
   exact sameN (by kernel_rfl) (by kernel_rfl) h
  refine fin [(0, .pv (encSl (rSl R_api_Value) a0)), (1, .pv (encSl (rSl R_api_Value) a1)), (2, .pv (.fn 12 [] [])), (7, aI y7), (18, aB ((decide (y7 < ((sll a0).length : Int))) && (decide (y7 < ((sll a1).length : Int)))))] rfl (by kernel_rfl) ?_
  rcases bif_some hm with ⟨h9, hm⟩ | ⟨h9, hm⟩
  ·
   refine ct h9 (by kernel_rfl) (wp_skip (sq (bq (sq (rgd (shd 3 [(23, aI y7), (22, .pv (encSl (rSl R_api_Value) a0)), (21, .pv (.fn 12 [] []))] (by kernel_rfl) ?_))))))
   obtain ⟨x10, h11, hm⟩ := bs hm
   refine dvd 24 (v := .pv (.ptr ((rSl R_api_Value) x10) 0)) (ia_slO (rSl R_api_Value) a0 .i64 t25 t22 h11 rfl (by kernel_rfl)) (by kernel_rfl) (shd 3 [(27, aI y7), (26, .pv (encSl (rSl R_api_Value) a1)), (25, .pv (encSl R_api_Value x10))] (by kernel_rfl) ?_)
   obtain ⟨x12, h13, hm⟩ := bs hm
   refine dvd 28 (v := .pv (.ptr ((rSl R_api_Value) x12) 0)) (ia_slO (rSl R_api_Value) a1 .i64 t25 t22 h13 rfl (by kernel_rfl)) (by kernel_rfl) (shd 1 [(29, .pv (encSl R_api_Value x12))] (by kernel_rfl) ?_)
   obtain ⟨x14, h15, hm⟩ := bs hm
   refine dvd 30 (cpure (by kernel_rfl) (ok_row_Cmp h15) (by kernel_rfl) (by kernel_rfl) (by kernel_rfl)) (by kernel_rfl) (shd 1 [(8, aI x14)] (by kernel_rfl) (find [(0, .pv (encSl (rSl R_api_Value) a0)), (1, .pv (encSl (rSl R_api_Value) a1)), (2, .pv (.fn 12 [] [])), (7, aI y7), (8, aI x14)] rfl (by kernel_rfl) (by kernel_rfl) (sq (detn [(0, .pv (encSl (rSl R_api_Value) a0)), (1, .pv (encSl (rSl R_api_Value) a1)), (2, .pv (.fn 12 [] [])), (7, aI y7), (8, aI x14), (32, aB (x14 != 0))] (by kernel_rfl) ?_))))
   rcases bif_some hm with ⟨h16, hm⟩ | ⟨h16, hm⟩
   ·
    refine ct h16 (by kernel_rfl) (sq (detn [(6, aI x14)] (by kernel_rfl) (wp_ret ?_)))
    obtain rfl := Option.some.inj hm
    exact ⟨trivial, by kernel_rfl⟩
   ·
    refine cf h16 (by kernel_rfl) (wp_skip (detn [(0, .pv (encSl (rSl R_api_Value) a0)), (1, .pv (encSl (rSl R_api_Value) a1)), (2, .pv (.fn 12 [] [])), (7, aI (IntKind.wrap .i64 (y7 + 1)))] (by kernel_rfl) ?_))
    exact ⟨_, _, tidyL [(0, .pv (encSl (rSl R_api_Value) a0)), (1, .pv (encSl (rSl R_api_Value) a1)), (2, .pv (.fn 12 [] [])), (7, aI (IntKind.wrap .i64 (y7 + 1)))] [] (by kernel_rfl), ⟨(IntKind.wrap .i64 (y7 + 1)), hm, rfl, rfl⟩⟩
  ·
   refine cf h9 (by kernel_rfl) (wp_exit ?_)
   exact ⟨((decide (y7 < ((sll a0).length : Int))) && (decide (y7 < ((sll a1).length : Int)))), y7, hm, rfl, rfl⟩
theorem ok_row_Bag {n : Nat} {a0 : (Option (List (Option (List api_Value))))} {a1 : (Option (List (Option (List api_Value))))} {r : Bool} (hm : row_Bag n a0 a1 = some r) :
    call G n 18 [.pv (encSl (rSl R_api_Value) a0), .pv (encSl (rSl R_api_Value) a1)] [] = some (.ret (aB r), []) := by
  unfold row_Bag at hm
  obtain ⟨n, rfl, h0⟩ := at1_some hm
  replace hm := h0; clear h0
  refine callL 18 [(0, .pv (encSl (rSl R_api_Value) a0)), (1, .pv (encSl (rSl R_api_Value) a1))] func18 rfl (by kernel_rfl) (sq (detn [(0, .pv (encSl (rSl R_api_Value) a0)), (1, .pv (encSl (rSl R_api_Value) a1))] (by kernel_rfl) (sq (rg (sh 1 [(5, .pv (encSl (rSl R_api_Value) a0))] (by kernel_rfl) (dv 6 (v := aI ((sll a0).length : Int)) (len_slO (rSl R_api_Value) a0 t25 (by kernel_rfl)) (by kernel_rfl) (sh 1 [(7, .pv (encSl (rSl R_api_Value) a1))] (by kernel_rfl) (dv 8 (v := aI ((sll a1).length : Int)) (len_slO (rSl R_api_Value) a1 t25 (by kernel_rfl)) (by kernel_rfl) (sh 2 [(10, aB (((sll a0).length : Int) == ((sll a1).length : Int))), (9, aB (((sll a0).length : Int) == ((sll a1).length : Int)))] (by kernel_rfl) ?_)))))))))
  rcases bif_some hm with ⟨h1, hm⟩ | ⟨h1, hm⟩
  ·
   refine known [10, 9] h1 (by kernel_rfl) (sh 1 [(11, .pv (encSl (rSl R_api_Value) a0))] (by kernel_rfl) ?_)
   obtain ⟨x2, h3, hm⟩ := bs hm
   refine dv 12 (cpure (by kernel_rfl) (ok_row_ranked h3) (by kernel_rfl) (by kernel_rfl) (by kernel_rfl)) (by kernel_rfl) (sh 1 [(13, .pv (encSl (rSl R_api_Value) a1))] (by kernel_rfl) ?_)
   obtain ⟨x4, h5, hm⟩ := bs hm
   refine dv 14 (cpure (by kernel_rfl) (ok_row_ranked h5) (by kernel_rfl) (by kernel_rfl) (by kernel_rfl)) (by kernel_rfl) ?_
   obtain ⟨x6, h7, hm⟩ := bs hm
   refine dv 15 (cpure (by kernel_rfl) (ok_row_lists_Value_row_Cmp h7) (by kernel_rfl) (by kernel_rfl) (by kernel_rfl)) (by kernel_rfl) (sh 3 [(4, aB (x6 == 0)), (17, aB (x6 == 0)), (16, aB (x6 == 0))] (by kernel_rfl) (fin [(4, aB (x6 == 0))] rfl (by kernel_rfl) (wp_ret ?_)))
   obtain rfl := Option.some.inj hm
   exact ⟨trivial, by kernel_rfl⟩
  ·
   refine known [10, 9] h1 (by kernel_rfl) (sh 8 [(4, aB false), (17, aB false), (16, .undef), (15, .undef), (14, .undef), (13, .undef), (12, .undef), (11, .undef)] (by kernel_rfl) (fin [(4, aB false)] rfl (by kernel_rfl) (wp_ret ?_)))
   obtain rfl := Option.some.inj hm
   exact ⟨trivial, by kernel_rfl⟩
theorem ok_slices_Clone_Value_2 {n : Nat} {a0 : (Option (List api_Value))} {r : (Option (List api_Value))} (hm : slices_Clone_Value_2 n a0 = some r) :
    call G n 45 [.pv (encSl R_api_Value a0)] [] = some (.ret (.pv (encSl R_api_Value r)), []) := by
  unfold slices_Clone_Value_2 at hm
  obtain ⟨n, rfl, h0⟩ := at1_some hm
  replace hm := h0; clear h0
  refine callL 8 [(0, .pv (encSl R_api_Value a0))] func45 rfl (by kernel_rfl) (sq (detn [(0, .pv (encSl R_api_Value a0))] (by kernel_rfl) (sq (sq (rg (sh 1 [(3, .pv (encSl R_api_Value a0))] (by kernel_rfl) (dv 4 (v := aB (a0.isNone)) (nil_eqlO R_api_Value a0 t22 (by kernel_rfl)) (by kernel_rfl) (fin [(0, .pv (encSl R_api_Value a0)), (4, aB (a0.isNone))] rfl (by kernel_rfl) ?_))))))))
  rcases bif_some hm with ⟨h1, hm⟩ | ⟨h1, hm⟩
  ·
   refine ct h1 (by kernel_rfl) (sq (detn [(2, .pv .nils)] (by kernel_rfl) (wp_ret ?_)))
   obtain rfl := Option.some.inj hm
   exact ⟨trivial, by kernel_rfl⟩
  ·
   refine cf h1 (by kernel_rfl) (wp_skip (sq (rg (st 2 [(6, .pv (encSl R_api_Value a0)), (5, aR 0 4 0)] [bR 38 4 R_api_Value ([] : List api_Value) 0 0] (by kernel_rfl) ?_))))
   rcases bif_some hm with ⟨h2, hm⟩ | ⟨h2, hm⟩
   ·
    obtain ⟨_, h3, hm⟩ := bs hm
    refine dv 7 (v := aR 0 4 0) (app_ref0O (u := 0) (y := .pv (encSl R_api_Value a0)) (n := 0) (id := 0) R_api_Value ([] : List api_Value) (sll a0) (b := 40) t22 t38 rfl rfl rfl h2 h3 rfl (by first | rfl | assumption | omega | (simp only [List.length_set, List.length_append, List.length_cons, List.length_nil, List.length_replicate, List.length_drop] at * <;> omega)) (Nat.zero_le _) (src_sl (R := R_api_Value) (s := a0)) (by kernel_rfl)) (by kernel_rfl) (sh 1 [(2, aR 0 4 0)] (by kernel_rfl) (fin [(2, aR 0 4 0)] rfl (by kernel_rfl) (wp_ret ?_)))
    obtain rfl := Option.some.inj hm
    exact ret_pure (v := aR 0 4 0) trivial rfl (by kernel_rfl) (by kernel_rfl)
   ·
    obtain ⟨_, h4, hm⟩ := bs hm
    refine dO [(7, aR 0 4 ((([] : List api_Value) ++ (sll a0)).length))] [bR 38 4 R_api_Value (([] : List api_Value) ++ (sll a0)) 0 0] (app_refO (u := 0) (n := 0) (id := 0) R_api_Value ([] : List api_Value) (sll a0) (b := 40) t22 t38 rfl rfl rfl (fun _ => rfl) h2 h4 rfl (by first | rfl | assumption | omega | (simp only [List.length_set, List.length_append, List.length_cons, List.length_nil, List.length_replicate, List.length_drop] at * <;> omega)) (Nat.zero_le _) (src_sl (R := R_api_Value) (s := a0)) (by kernel_rfl)) (by kernel_rfl) (sh 1 [(2, aR 0 4 ((([] : List api_Value) ++ (sll a0)).length))] (by kernel_rfl) (fin [(2, aR 0 4 ((([] : List api_Value) ++ (sll a0)).length))] rfl (by kernel_rfl) (wp_ret ?_)))
    obtain rfl := Option.some.inj hm
    exact ret_pure (v := aR 0 4 ((([] : List api_Value) ++ (sll a0)).length)) trivial rfl (by kernel_rfl) (pA_ref (pur_ref' (n := (([] : List api_Value) ++ (sll a0)).length) (id := 0) (l := (([] : List api_Value) ++ (sll a0))) (R := R_api_Value) rfl rfl (Nat.zero_le _)))
theorem ok_slices_insertionSortCmpFunc_Value_row_Sort_1_nil {n : Nat} {a0 : (Option (List api_Key))} {a1 : Int} {a2 : Int} {r : Unit} (hm : slices_insertionSortCmpFunc_Value_row_Sort_1_nil n a0 a1 a2 = some r) :
    ∃ vv H1, call G n 88 [.pv .nils, aI a1, aI a2, .fn 47 [] [.ptr 0 0]] [.box [.pv (encSl R_api_Key a0)] false] = some (.ret vv, H1) ∧ (vv = .tup [] ∧ H1 = [.box [.pv (encSl R_api_Key a0)] false]) := by
  unfold slices_insertionSortCmpFunc_Value_row_Sort_1_nil at hm
  obtain ⟨n, rfl, h0⟩ := at1_some hm
  replace hm := h0; clear h0
  refine callE 53 [(0, .pv .nils), (1, aI a1), (2, aI a2), (3, .fn 47 [] [.ptr 0 0])] func88 rfl (by kernel_rfl) (sq (detn [(0, .pv .nils), (1, aI a1), (2, aI a2), (3, .fn 47 [] [.ptr 0 0]), (8, aI (IntKind.wrap .i64 (a1 + 1)))] (by kernel_rfl) (bq ?_)))
  refine loopF (fun mm t H => (∃ (y2 : Int), slices_insertionSortCmpFunc_Value_row_Sort_1_nil_l1 n a1 a2 mm y2 = some r ∧ t = mk 53 [(0, .pv .nils), (1, aI a1), (2, aI a2), (3, .fn 47 [] [.ptr 0 0]), (8, aI y2)] ∧ H = [.box [.pv (encSl R_api_Key a0)] false])) (⟨(IntKind.wrap .i64 (a1 + 1)), hm, rfl, rfl⟩) ?_ ?_
  · rintro _ _ ⟨y2, hm, _⟩; exact nomatch hm
  rintro m3 _ _ ⟨y2, hm, rfl, rfl⟩
  simp only [slices_insertionSortCmpFunc_Value_row_Sort_1_nil_l1] at hm
  refine sq (sq (detn [(0, .pv .nils), (1, aI a1), (2, aI a2), (3, .fn 47 [] [.ptr 0 0]), (8, aI y2), (14, aB (decide (y2 < a2)))] (by kernel_rfl) ?_))
  rcases bif_some hm with ⟨h4, hm⟩ | ⟨h4, hm⟩
  ·
   refine ct h4 (by kernel_rfl) (wp_skip ?_)
   obtain ⟨k5, hk5, hm⟩ := withK_some hm
   refine mid (fun t H => (k5 () = some r ∧ t = mk 53 [(0, .pv .nils), (1, aI a1), (2, aI a2), (3, .fn 47 [] [.ptr 0 0]), (8, aI y2), (9, aI y2), (34, aB false)] ∧ H = [.box [.pv (encSl R_api_Key a0)] false])) ?_ ?_
   ·
    rintro _ _ ⟨hm, rfl, rfl⟩
    subst hk5
    refine detn [(0, .pv .nils), (1, aI a1), (2, aI a2), (3, .fn 47 [] [.ptr 0 0]), (8, aI (IntKind.wrap .i64 (y2 + 1)))] (by kernel_rfl) ?_
    exact ⟨_, _, tidyL [(0, .pv .nils), (1, aI a1), (2, aI a2), (3, .fn 47 [] [.ptr 0 0]), (8, aI (IntKind.wrap .i64 (y2 + 1)))] [.box [.pv (encSl R_api_Key a0)] false] (by kernel_rfl), ⟨(IntKind.wrap .i64 (y2 + 1)), hm, rfl, rfl⟩⟩
   refine bq (sq (detn [(0, .pv .nils), (1, aI a1), (2, aI a2), (3, .fn 47 [] [.ptr 0 0]), (8, aI y2), (9, aI y2)] (by kernel_rfl) (bq ?_)))
   refine loopF (fun mm t H => (slices_insertionSortCmpFunc_Value_row_Sort_1_nil_l4 n a1 y2 k5 mm = some r ∧ t = mk 53 [(0, .pv .nils), (1, aI a1), (2, aI a2), (3, .fn 47 [] [.ptr 0 0]), (8, aI y2), (9, aI y2)] ∧ H = [.box [.pv (encSl R_api_Key a0)] false])) (⟨hm, rfl, rfl⟩) ?_ ?_
   · rintro _ _ ⟨hm, _⟩; exact nomatch hm
   rintro m6 _ _ ⟨hm, rfl, rfl⟩
   simp only [slices_insertionSortCmpFunc_Value_row_Sort_1_nil_l4] at hm
   refine sq (sq (rgd (shd 4 [(21, aB (decide (y2 > a1))), (20, aB (decide (y2 > a1))), (19, aI a1), (18, aI y2)] (by kernel_rfl) ?_)))
   rcases bif_some hm with ⟨h7, hm⟩ | ⟨h7, hm⟩
   ·
    refine knownd [21, 20] h7 (by kernel_rfl) (shd 3 [(24, aI y2), (23, .pv .nils), (22, .fn 47 [] [.ptr 0 0])] (by kernel_rfl) ?_)
    cases hm
   ·
    refine knownd [21, 20] h7 (by kernel_rfl) (shd 13 [(34, aB false), (33, .undef), (32, .undef), (31, .undef), (30, .undef), (29, .undef), (28, .undef), (27, .undef), (26, .undef), (25, .undef), (24, .undef), (23, .undef), (22, .undef)] (by kernel_rfl) (find [(0, .pv .nils), (1, aI a1), (2, aI a2), (3, .fn 47 [] [.ptr 0 0]), (8, aI y2), (9, aI y2), (34, aB false)] rfl (by kernel_rfl) (by kernel_rfl) (cF (by kernel_rfl) (wp_exit ?_))))
    exact ⟨hm, rfl, rfl⟩
  ·
   refine cf h4 (by kernel_rfl) (wp_exit ?_)
   obtain rfl := Option.some.inj hm
   exact ⟨trivial, .tup [], [.box [.pv (encSl R_api_Key a0)] false], by kernel_rfl, rfl, rfl⟩
theorem ok_slices_swapRangeCmpFunc_Value_row_Sort_1_nil {n : Nat} {a0 : (Option (List api_Key))} {a1 : Int} {a2 : Int} {a3 : Int} {r : Unit} (hm : slices_swapRangeCmpFunc_Value_row_Sort_1_nil n a0 a1 a2 a3 = some r) :
    ∃ vv H1, call G n 109 [.pv .nils, aI a1, aI a2, aI a3, .fn 47 [] [.ptr 0 0]] [.box [.pv (encSl R_api_Key a0)] false] = some (.ret vv, H1) ∧ (vv = .tup [] ∧ H1 = [.box [.pv (encSl R_api_Key a0)] false]) := by
  unfold slices_swapRangeCmpFunc_Value_row_Sort_1_nil at hm
  obtain ⟨n, rfl, h0⟩ := at1_some hm
  replace hm := h0; clear h0
  refine callE 38 [(0, .pv .nils), (1, aI a1), (2, aI a2), (3, aI a3), (4, .fn 47 [] [.ptr 0 0])] func109 rfl (by kernel_rfl) (sq (detn [(0, .pv .nils), (1, aI a1), (2, aI a2), (3, aI a3), (10, aI 0)] (by kernel_rfl) (bq ?_)))
  refine loopF (fun mm t H => (slices_swapRangeCmpFunc_Value_row_Sort_1_nil_l1 n a3 mm = some r ∧ t = mk 38 [(0, .pv .nils), (1, aI a1), (2, aI a2), (3, aI a3), (10, aI 0)] ∧ H = [.box [.pv (encSl R_api_Key a0)] false])) (⟨hm, rfl, rfl⟩) ?_ ?_
  · rintro _ _ ⟨hm, _⟩; exact nomatch hm
  rintro m1 _ _ ⟨hm, rfl, rfl⟩
  simp only [slices_swapRangeCmpFunc_Value_row_Sort_1_nil_l1] at hm
  refine sq (sq (detn [(0, .pv .nils), (1, aI a1), (2, aI a2), (3, aI a3), (10, aI 0), (13, aB (decide ((0 : Int) < a3)))] (by kernel_rfl) ?_))
  rcases bif_some hm with ⟨h2, hm⟩ | ⟨h2, hm⟩
  ·
   refine ct h2 (by kernel_rfl) (wp_skip (sq (bq (rgd (shd 12 [(27, aI (IntKind.wrap .i64 (a2 + 0))), (26, aI 0), (25, aI a2), (24, .pv .nils), (23, aI (IntKind.wrap .i64 (a2 + 0))), (22, aI 0), (21, aI a2), (20, .pv .nils), (19, aI (IntKind.wrap .i64 (a1 + 0))), (18, aI 0), (17, aI a1), (16, .pv .nils)] (by kernel_rfl) ?_)))))
   cases hm
  ·
   refine cf h2 (by kernel_rfl) (wp_exit ?_)
   obtain rfl := Option.some.inj hm
   exact ⟨trivial, .tup [], [.box [.pv (encSl R_api_Key a0)] false], by kernel_rfl, rfl, rfl⟩
theorem ok_slices_rotateCmpFunc_Value_row_Sort_1_nil {n : Nat} {a0 : (Option (List api_Key))} {a1 : Int} {a2 : Int} {a3 : Int} {r : Unit} (hm : slices_rotateCmpFunc_Value_row_Sort_1_nil n a0 a1 a2 a3 = some r) :
    ∃ vv H1, call G n 103 [.pv .nils, aI a1, aI a2, aI a3, .fn 47 [] [.ptr 0 0]] [.box [.pv (encSl R_api_Key a0)] false] = some (.ret vv, H1) ∧ (vv = .tup [] ∧ H1 = [.box [.pv (encSl R_api_Key a0)] false]) := by
  unfold slices_rotateCmpFunc_Value_row_Sort_1_nil at hm
  obtain ⟨n, rfl, h0⟩ := at1_some hm
  replace hm := h0; clear h0
  refine callE 58 [(0, .pv .nils), (1, aI a1), (2, aI a2), (3, aI a3), (4, .fn 47 [] [.ptr 0 0])] func103 rfl (by kernel_rfl) (sq (detn [(0, .pv .nils), (2, aI a2), (3, aI a3), (4, .fn 47 [] [.ptr 0 0]), (10, aI (IntKind.wrap .i64 (a2 - a1)))] (by kernel_rfl) (sq (detn [(0, .pv .nils), (2, aI a2), (4, .fn 47 [] [.ptr 0 0]), (10, aI (IntKind.wrap .i64 (a2 - a1))), (11, aI (IntKind.wrap .i64 (a3 - a2)))] (by kernel_rfl) ?_))))
  obtain ⟨k4, hk4, hm⟩ := withK_some hm
  refine mid (fun t H => (∃ (y1 : Int) (y2 : Int) (y3 : Bool), k4 y1 = some r ∧ t = mk 58 [(0, .pv .nils), (2, aI a2), (4, .fn 47 [] [.ptr 0 0]), (10, aI y1), (11, aI y2), (20, aB y3)] ∧ H = [.box [.pv (encSl R_api_Key a0)] false])) ?_ ?_
  ·
   rintro _ _ ⟨y1, y2, y3, hm, rfl, rfl⟩
   subst hk4
   refine rg (sh 7 [(56, .fn 47 [] [.ptr 0 0]), (55, aI y1), (54, aI a2), (53, aI (IntKind.wrap .i64 (a2 - y1))), (52, aI y1), (51, aI a2), (50, .pv .nils)] (by kernel_rfl) ?_)
   obtain ⟨_, h5, hm⟩ := bs hm
   obtain ⟨vv, H1, hC, rfl, rfl⟩ := ok_slices_swapRangeCmpFunc_Value_row_Sort_1_nil h5
   refine dR [(57, .tup [])] [.box [.pv (encSl R_api_Key a0)] false] [0] [.pv .nils, aI (IntKind.wrap .i64 (a2 - y1)), aI a2, aI y1, .fn 47 [] [.ptr 0 0]] (by kernel_rfl) (by kernel_rfl) (by kernel_rfl) hC (by kernel_rfl) (fin [] rfl (by kernel_rfl) ?_)
   obtain rfl := Option.some.inj hm
   exact ⟨trivial, .tup [], [.box [.pv (encSl R_api_Key a0)] false], by kernel_rfl, rfl, rfl⟩
  refine bq ?_
  refine loopF (fun mm t H => (∃ (y8 : Int) (y9 : Int), slices_rotateCmpFunc_Value_row_Sort_1_nil_l2 n a0 a2 k4 mm y8 y9 = some r ∧ t = mk 58 [(0, .pv .nils), (2, aI a2), (4, .fn 47 [] [.ptr 0 0]), (10, aI y8), (11, aI y9)] ∧ H = [.box [.pv (encSl R_api_Key a0)] false])) (⟨(IntKind.wrap .i64 (a2 - a1)), (IntKind.wrap .i64 (a3 - a2)), hm, rfl, rfl⟩) ?_ ?_
  · rintro _ _ ⟨y8, y9, hm, _⟩; exact nomatch hm
  rintro m10 _ _ ⟨y8, y9, hm, rfl, rfl⟩
  simp only [slices_rotateCmpFunc_Value_row_Sort_1_nil_l2] at hm
  refine sq (sq (detn [(0, .pv .nils), (2, aI a2), (4, .fn 47 [] [.ptr 0 0]), (10, aI y8), (11, aI y9), (20, aB (y8 != y9))] (by kernel_rfl) ?_))
  rcases bif_some hm with ⟨h11, hm⟩ | ⟨h11, hm⟩
  ·
   refine ct h11 (by kernel_rfl) (wp_skip (bq (sq (detn [(0, .pv .nils), (2, aI a2), (4, .fn 47 [] [.ptr 0 0]), (10, aI y8), (11, aI y9), (23, aB (decide (y8 > y9)))] (by kernel_rfl) ?_))))
   rcases bif_some hm with ⟨h12, hm⟩ | ⟨h12, hm⟩
   ·
    refine ct h12 (by kernel_rfl) (sq (rg (sh 7 [(30, .fn 47 [] [.ptr 0 0]), (29, aI y9), (28, aI a2), (27, aI (IntKind.wrap .i64 (a2 - y8))), (26, aI y8), (25, aI a2), (24, .pv .nils)] (by kernel_rfl) ?_)))
    obtain ⟨_, h13, hm⟩ := bs hm
    obtain ⟨vv, H1, hC, rfl, rfl⟩ := ok_slices_swapRangeCmpFunc_Value_row_Sort_1_nil h13
    refine dR [(31, .tup [])] [.box [.pv (encSl R_api_Key a0)] false] [0] [.pv .nils, aI (IntKind.wrap .i64 (a2 - y8)), aI a2, aI y9, .fn 47 [] [.ptr 0 0]] (by kernel_rfl) (by kernel_rfl) (by kernel_rfl) hC (by kernel_rfl) (fin [(0, .pv .nils), (2, aI a2), (4, .fn 47 [] [.ptr 0 0]), (10, aI y8), (11, aI y9)] rfl (by kernel_rfl) (detn [(0, .pv .nils), (2, aI a2), (4, .fn 47 [] [.ptr 0 0]), (10, aI (IntKind.wrap .i64 (y8 - y9))), (11, aI y9)] (by kernel_rfl) ?_))
    exact ⟨_, _, tidyL [(0, .pv .nils), (2, aI a2), (4, .fn 47 [] [.ptr 0 0]), (10, aI (IntKind.wrap .i64 (y8 - y9))), (11, aI y9)] [.box [.pv (encSl R_api_Key a0)] false] (by kernel_rfl), ⟨(IntKind.wrap .i64 (y8 - y9)), y9, hm, rfl, rfl⟩⟩
   ·
    refine cf h12 (by kernel_rfl) (sq (rg (sh 11 [(45, .fn 47 [] [.ptr 0 0]), (44, aI y8), (43, aI (IntKind.wrap .i64 ((IntKind.wrap .i64 (a2 + y9)) - y8))), (42, aI y8), (41, aI (IntKind.wrap .i64 (a2 + y9))), (40, aI y9), (39, aI a2), (38, aI (IntKind.wrap .i64 (a2 - y8))), (37, aI y8), (36, aI a2), (35, .pv .nils)] (by kernel_rfl) ?_)))
    obtain ⟨_, h14, hm⟩ := bs hm
    obtain ⟨vv, H1, hC, rfl, rfl⟩ := ok_slices_swapRangeCmpFunc_Value_row_Sort_1_nil h14
    refine dR [(46, .tup [])] [.box [.pv (encSl R_api_Key a0)] false] [0] [.pv .nils, aI (IntKind.wrap .i64 (a2 - y8)), aI (IntKind.wrap .i64 ((IntKind.wrap .i64 (a2 + y9)) - y8)), aI y8, .fn 47 [] [.ptr 0 0]] (by kernel_rfl) (by kernel_rfl) (by kernel_rfl) hC (by kernel_rfl) (fin [(0, .pv .nils), (2, aI a2), (4, .fn 47 [] [.ptr 0 0]), (10, aI y8), (11, aI y9)] rfl (by kernel_rfl) (detn [(0, .pv .nils), (2, aI a2), (4, .fn 47 [] [.ptr 0 0]), (10, aI y8), (11, aI (IntKind.wrap .i64 (y9 - y8)))] (by kernel_rfl) ?_))
    exact ⟨_, _, tidyL [(0, .pv .nils), (2, aI a2), (4, .fn 47 [] [.ptr 0 0]), (10, aI y8), (11, aI (IntKind.wrap .i64 (y9 - y8)))] [.box [.pv (encSl R_api_Key a0)] false] (by kernel_rfl), ⟨y8, (IntKind.wrap .i64 (y9 - y8)), hm, rfl, rfl⟩⟩
  ·
   refine cf h11 (by kernel_rfl) (wp_exit ?_)
   exact ⟨y8, y9, (y8 != y9), hm, rfl, rfl⟩
theorem okf_slices_symMergeCmpFunc_Value_row_Sort_1_nil {rc_slices_symMergeCmpFunc_Value_row_Sort_1_nil : (Nat → (Option (List api_Key)) → Int → Int → Int → Option (Unit))} (ih_slices_symMergeCmpFunc_Value_row_Sort_1_nil : ∀ {n : Nat} {a0 : (Option (List api_Key))} {a1 : Int} {a2 : Int} {a3 : Int} {r : Unit} (hm : rc_slices_symMergeCmpFunc_Value_row_Sort_1_nil n a0 a1 a2 a3 = some r), ∃ vv H1, call G n 89 [.pv .nils, aI a1, aI a2, aI a3, .fn 47 [] [.ptr 0 0]] [.box [.pv (encSl R_api_Key a0)] false] = some (.ret vv, H1) ∧ (vv = .tup [] ∧ H1 = [.box [.pv (encSl R_api_Key a0)] false])) {n : Nat} {a0 : (Option (List api_Key))} {a1 : Int} {a2 : Int} {a3 : Int} {r : Unit} (hm : slices_symMergeCmpFunc_Value_row_Sort_1_nil_f rc_slices_symMergeCmpFunc_Value_row_Sort_1_nil n a0 a1 a2 a3 = some r) :
    ∃ vv H1, call G n 89 [.pv .nils, aI a1, aI a2, aI a3, .fn 47 [] [.ptr 0 0]] [.box [.pv (encSl R_api_Key a0)] false] = some (.ret vv, H1) ∧ (vv = .tup [] ∧ H1 = [.box [.pv (encSl R_api_Key a0)] false]) := by
  unfold slices_symMergeCmpFunc_Value_row_Sort_1_nil_f at hm
  obtain ⟨n, rfl, h0⟩ := at1_some hm
  replace hm := h0; clear h0
  refine callE 220 [(0, .pv .nils), (1, aI a1), (2, aI a2), (3, aI a3), (4, .fn 47 [] [.ptr 0 0])] func89 rfl (by kernel_rfl) ?_
  obtain ⟨k1, hk1, hm⟩ := withK_some hm
  refine mid (fun t H => (k1 () = some r ∧ t = mk 220 [(0, .pv .nils), (1, aI a1), (2, aI a2), (3, aI a3), (4, .fn 47 [] [.ptr 0 0]), (28, aB ((IntKind.wrap .i64 (a2 - a1)) == 1))] ∧ H = [.box [.pv (encSl R_api_Key a0)] false])) ?_ ?_
  ·
   rintro _ _ ⟨hm, rfl, rfl⟩
   subst hk1
   obtain ⟨k2, hk2, hm⟩ := withK_some hm
   refine mid (fun t H => (k2 () = some r ∧ t = mk 220 [(0, .pv .nils), (1, aI a1), (2, aI a2), (3, aI a3), (4, .fn 47 [] [.ptr 0 0]), (80, aB ((IntKind.wrap .i64 (a3 - a2)) == 1))] ∧ H = [.box [.pv (encSl R_api_Key a0)] false])) ?_ ?_
   ·
    rintro _ _ ⟨hm, rfl, rfl⟩
    subst hk2
    refine sq (detn [(0, .pv .nils), (1, aI a1), (2, aI a2), (3, aI a3), (4, .fn 47 [] [.ptr 0 0]), (18, aI (IntKind.wrap .i64 (iShr .u64 (IntKind.wrap .u64 (IntKind.wrap .i64 (a1 + a3))) 1)))] (by kernel_rfl) (sq (detn [(0, .pv .nils), (1, aI a1), (2, aI a2), (3, aI a3), (4, .fn 47 [] [.ptr 0 0]), (18, aI (IntKind.wrap .i64 (iShr .u64 (IntKind.wrap .u64 (IntKind.wrap .i64 (a1 + a3))) 1))), (19, aI (IntKind.wrap .i64 ((IntKind.wrap .i64 (iShr .u64 (IntKind.wrap .u64 (IntKind.wrap .i64 (a1 + a3))) 1)) + a2)))] (by kernel_rfl) (sq (detn [(0, .pv .nils), (1, aI a1), (2, aI a2), (3, aI a3), (4, .fn 47 [] [.ptr 0 0]), (18, aI (IntKind.wrap .i64 (iShr .u64 (IntKind.wrap .u64 (IntKind.wrap .i64 (a1 + a3))) 1))), (19, aI (IntKind.wrap .i64 ((IntKind.wrap .i64 (iShr .u64 (IntKind.wrap .u64 (IntKind.wrap .i64 (a1 + a3))) 1)) + a2)))] (by kernel_rfl) ?_)))))
    obtain ⟨k5, hk5, hm⟩ := withK_some hm
    refine mid (fun t H => (∃ (y3 : Int) (y4 : Int), k5 y3 y4 = some r ∧ t = mk 220 [(0, .pv .nils), (1, aI a1), (2, aI a2), (3, aI a3), (4, .fn 47 [] [.ptr 0 0]), (18, aI (IntKind.wrap .i64 (iShr .u64 (IntKind.wrap .u64 (IntKind.wrap .i64 (a1 + a3))) 1))), (19, aI (IntKind.wrap .i64 ((IntKind.wrap .i64 (iShr .u64 (IntKind.wrap .u64 (IntKind.wrap .i64 (a1 + a3))) 1)) + a2))), (20, aI y3), (21, aI y4)] ∧ H = [.box [.pv (encSl R_api_Key a0)] false])) ?_ ?_
    ·
     rintro _ _ ⟨y3, y4, hm, rfl, rfl⟩
     subst hk5
     refine sq (detn [(0, .pv .nils), (1, aI a1), (2, aI a2), (3, aI a3), (4, .fn 47 [] [.ptr 0 0]), (18, aI (IntKind.wrap .i64 (iShr .u64 (IntKind.wrap .u64 (IntKind.wrap .i64 (a1 + a3))) 1))), (19, aI (IntKind.wrap .i64 ((IntKind.wrap .i64 (iShr .u64 (IntKind.wrap .u64 (IntKind.wrap .i64 (a1 + a3))) 1)) + a2))), (20, aI y3), (21, aI y4), (22, aI (IntKind.wrap .i64 ((IntKind.wrap .i64 ((IntKind.wrap .i64 (iShr .u64 (IntKind.wrap .u64 (IntKind.wrap .i64 (a1 + a3))) 1)) + a2)) - 1)))] (by kernel_rfl) ?_)
     obtain ⟨k6, hk6, hm⟩ := withK_some hm
     refine mid (fun t H => (k6 () = some r ∧ t = mk 220 [(0, .pv .nils), (1, aI a1), (2, aI a2), (3, aI a3), (4, .fn 47 [] [.ptr 0 0]), (18, aI (IntKind.wrap .i64 (iShr .u64 (IntKind.wrap .u64 (IntKind.wrap .i64 (a1 + a3))) 1))), (19, aI (IntKind.wrap .i64 ((IntKind.wrap .i64 (iShr .u64 (IntKind.wrap .u64 (IntKind.wrap .i64 (a1 + a3))) 1)) + a2))), (20, aI y3), (21, aI y4), (22, aI (IntKind.wrap .i64 ((IntKind.wrap .i64 ((IntKind.wrap .i64 (iShr .u64 (IntKind.wrap .u64 (IntKind.wrap .i64 (a1 + a3))) 1)) + a2)) - 1))), (151, aB (decide (y3 < y4)))] ∧ H = [.box [.pv (encSl R_api_Key a0)] false])) ?_ ?_
     ·
      rintro _ _ ⟨hm, rfl, rfl⟩
      subst hk6
      refine sq (detn [(0, .pv .nils), (1, aI a1), (2, aI a2), (3, aI a3), (4, .fn 47 [] [.ptr 0 0]), (18, aI (IntKind.wrap .i64 (iShr .u64 (IntKind.wrap .u64 (IntKind.wrap .i64 (a1 + a3))) 1))), (20, aI y3), (24, aI (IntKind.wrap .i64 ((IntKind.wrap .i64 ((IntKind.wrap .i64 (iShr .u64 (IntKind.wrap .u64 (IntKind.wrap .i64 (a1 + a3))) 1)) + a2)) - y3)))] (by kernel_rfl) ?_)
      obtain ⟨k9, hk9, hm⟩ := withK_some hm
      refine mid (fun t H => (∃ (w7 : AV) (w8 : AV), k9 () = some r ∧ t = mk 220 [(0, .pv .nils), (1, aI a1), (2, w7), (3, aI a3), (4, .fn 47 [] [.ptr 0 0]), (18, aI (IntKind.wrap .i64 (iShr .u64 (IntKind.wrap .u64 (IntKind.wrap .i64 (a1 + a3))) 1))), (20, aI y3), (24, aI (IntKind.wrap .i64 ((IntKind.wrap .i64 ((IntKind.wrap .i64 (iShr .u64 (IntKind.wrap .u64 (IntKind.wrap .i64 (a1 + a3))) 1)) + a2)) - y3))), (185, w8)] ∧ H = [.box [.pv (encSl R_api_Key a0)] false])) ?_ ?_
      ·
       rintro _ _ ⟨w7, w8, hm, rfl, rfl⟩
       subst hk9
       obtain ⟨k13, hk13, hm⟩ := withK_some hm
       refine mid (fun t H => (∃ (w10 : AV) (w11 : AV) (w12 : AV), k13 () = some r ∧ t = mk 220 [(0, .pv .nils), (1, w10), (3, aI a3), (4, .fn 47 [] [.ptr 0 0]), (18, aI (IntKind.wrap .i64 (iShr .u64 (IntKind.wrap .u64 (IntKind.wrap .i64 (a1 + a3))) 1))), (20, w11), (24, aI (IntKind.wrap .i64 ((IntKind.wrap .i64 ((IntKind.wrap .i64 (iShr .u64 (IntKind.wrap .u64 (IntKind.wrap .i64 (a1 + a3))) 1)) + a2)) - y3))), (199, w12)] ∧ H = [.box [.pv (encSl R_api_Key a0)] false])) ?_ ?_
       ·
        rintro _ _ ⟨w10, w11, w12, hm, rfl, rfl⟩
        subst hk13
        refine sq (rg (sh 4 [(209, aB (decide ((IntKind.wrap .i64 (iShr .u64 (IntKind.wrap .u64 (IntKind.wrap .i64 (a1 + a3))) 1)) < (IntKind.wrap .i64 ((IntKind.wrap .i64 ((IntKind.wrap .i64 (iShr .u64 (IntKind.wrap .u64 (IntKind.wrap .i64 (a1 + a3))) 1)) + a2)) - y3))))), (208, aB (decide ((IntKind.wrap .i64 (iShr .u64 (IntKind.wrap .u64 (IntKind.wrap .i64 (a1 + a3))) 1)) < (IntKind.wrap .i64 ((IntKind.wrap .i64 ((IntKind.wrap .i64 (iShr .u64 (IntKind.wrap .u64 (IntKind.wrap .i64 (a1 + a3))) 1)) + a2)) - y3))))), (207, aI (IntKind.wrap .i64 ((IntKind.wrap .i64 ((IntKind.wrap .i64 (iShr .u64 (IntKind.wrap .u64 (IntKind.wrap .i64 (a1 + a3))) 1)) + a2)) - y3))), (206, aI (IntKind.wrap .i64 (iShr .u64 (IntKind.wrap .u64 (IntKind.wrap .i64 (a1 + a3))) 1)))] (by kernel_rfl) ?_))
        refine seg (decide ((IntKind.wrap .i64 (iShr .u64 (IntKind.wrap .u64 (IntKind.wrap .i64 (a1 + a3))) 1)) < (IntKind.wrap .i64 ((IntKind.wrap .i64 ((IntKind.wrap .i64 (iShr .u64 (IntKind.wrap .u64 (IntKind.wrap .i64 (a1 + a3))) 1)) + a2)) - y3)))) [209, 208] (fun b => [(213, aB (b && (decide ((IntKind.wrap .i64 ((IntKind.wrap .i64 ((IntKind.wrap .i64 (iShr .u64 (IntKind.wrap .u64 (IntKind.wrap .i64 (a1 + a3))) 1)) + a2)) - y3)) < a3)))), (212, ifA b (aB (decide ((IntKind.wrap .i64 ((IntKind.wrap .i64 ((IntKind.wrap .i64 (iShr .u64 (IntKind.wrap .u64 (IntKind.wrap .i64 (a1 + a3))) 1)) + a2)) - y3)) < a3))) (.undef)), (211, ifA b (aI a3) (.undef)), (210, ifA b (aI (IntKind.wrap .i64 ((IntKind.wrap .i64 ((IntKind.wrap .i64 (iShr .u64 (IntKind.wrap .u64 (IntKind.wrap .i64 (a1 + a3))) 1)) + a2)) - y3))) (.undef))]) 8 (by kernel_rfl) ?_ ?_ ?_
        ·
         intro Q h
         refine sh 4 [(213, aB (decide ((IntKind.wrap .i64 ((IntKind.wrap .i64 ((IntKind.wrap .i64 (iShr .u64 (IntKind.wrap .u64 (IntKind.wrap .i64 (a1 + a3))) 1)) + a2)) - y3)) < a3))), (212, aB (decide ((IntKind.wrap .i64 ((IntKind.wrap .i64 ((IntKind.wrap .i64 (iShr .u64 (IntKind.wrap .u64 (IntKind.wrap .i64 (a1 + a3))) 1)) + a2)) - y3)) < a3))), (211, aI a3), (210, aI (IntKind.wrap .i64 ((IntKind.wrap .i64 ((IntKind.wrap .i64 (iShr .u64 (IntKind.wrap .u64 (IntKind.wrap .i64 (a1 + a3))) 1)) + a2)) - y3)))] (by kernel_rfl) ?_
         exact sameN (by kernel_rfl) (by kernel_rfl) h
        ·
         intro Q h
         refine sh 4 [(213, aB false), (212, .undef), (211, .undef), (210, .undef)] (by kernel_rfl) ?_
         exact sameN (by kernel_rfl) (by kernel_rfl) h
        refine fin [(0, .pv .nils), (3, aI a3), (4, .fn 47 [] [.ptr 0 0]), (18, aI (IntKind.wrap .i64 (iShr .u64 (IntKind.wrap .u64 (IntKind.wrap .i64 (a1 + a3))) 1))), (24, aI (IntKind.wrap .i64 ((IntKind.wrap .i64 ((IntKind.wrap .i64 (iShr .u64 (IntKind.wrap .u64 (IntKind.wrap .i64 (a1 + a3))) 1)) + a2)) - y3))), (213, aB ((decide ((IntKind.wrap .i64 (iShr .u64 (IntKind.wrap .u64 (IntKind.wrap .i64 (a1 + a3))) 1)) < (IntKind.wrap .i64 ((IntKind.wrap .i64 ((IntKind.wrap .i64 (iShr .u64 (IntKind.wrap .u64 (IntKind.wrap .i64 (a1 + a3))) 1)) + a2)) - y3)))) && (decide ((IntKind.wrap .i64 ((IntKind.wrap .i64 ((IntKind.wrap .i64 (iShr .u64 (IntKind.wrap .u64 (IntKind.wrap .i64 (a1 + a3))) 1)) + a2)) - y3)) < a3))))] rfl (by kernel_rfl) ?_
        rcases bif_some hm with ⟨h14, hm⟩ | ⟨h14, hm⟩
        ·
         refine ct h14 (by kernel_rfl) (rg (sh 5 [(218, .fn 47 [] [.ptr 0 0]), (217, aI a3), (216, aI (IntKind.wrap .i64 ((IntKind.wrap .i64 ((IntKind.wrap .i64 (iShr .u64 (IntKind.wrap .u64 (IntKind.wrap .i64 (a1 + a3))) 1)) + a2)) - y3))), (215, aI (IntKind.wrap .i64 (iShr .u64 (IntKind.wrap .u64 (IntKind.wrap .i64 (a1 + a3))) 1))), (214, .pv .nils)] (by kernel_rfl) ?_))
         obtain ⟨_, h15, hm⟩ := bs hm
         obtain ⟨vv, H1, hC, rfl, rfl⟩ := ih_slices_symMergeCmpFunc_Value_row_Sort_1_nil h15
         refine dR [(219, .tup [])] [.box [.pv (encSl R_api_Key a0)] false] [0] [.pv .nils, aI (IntKind.wrap .i64 (iShr .u64 (IntKind.wrap .u64 (IntKind.wrap .i64 (a1 + a3))) 1)), aI (IntKind.wrap .i64 ((IntKind.wrap .i64 ((IntKind.wrap .i64 (iShr .u64 (IntKind.wrap .u64 (IntKind.wrap .i64 (a1 + a3))) 1)) + a2)) - y3)), aI a3, .fn 47 [] [.ptr 0 0]] (by kernel_rfl) (by kernel_rfl) (by kernel_rfl) hC (by kernel_rfl) (fin [] rfl (by kernel_rfl) ?_)
         obtain rfl := Option.some.inj hm
         exact ⟨trivial, .tup [], [.box [.pv (encSl R_api_Key a0)] false], by kernel_rfl, rfl, rfl⟩
        ·
         refine cf h14 (by kernel_rfl) (wp_skip ?_)
         obtain rfl := Option.some.inj hm
         exact ⟨trivial, .tup [], [.box [.pv (encSl R_api_Key a0)] false], by kernel_rfl, rfl, rfl⟩
       refine sq (rg (sh 4 [(195, aB (decide (a1 < y3))), (194, aB (decide (a1 < y3))), (193, aI y3), (192, aI a1)] (by kernel_rfl) ?_))
       refine seg (decide (a1 < y3)) [195, 194] (fun b => [(199, aB (b && (decide (y3 < (IntKind.wrap .i64 (iShr .u64 (IntKind.wrap .u64 (IntKind.wrap .i64 (a1 + a3))) 1)))))), (198, ifA b (aB (decide (y3 < (IntKind.wrap .i64 (iShr .u64 (IntKind.wrap .u64 (IntKind.wrap .i64 (a1 + a3))) 1))))) (.undef)), (197, ifA b (aI (IntKind.wrap .i64 (iShr .u64 (IntKind.wrap .u64 (IntKind.wrap .i64 (a1 + a3))) 1))) (.undef)), (196, ifA b (aI y3) (.undef))]) 8 (by kernel_rfl) ?_ ?_ ?_
       ·
        intro Q h
        refine sh 4 [(199, aB (decide (y3 < (IntKind.wrap .i64 (iShr .u64 (IntKind.wrap .u64 (IntKind.wrap .i64 (a1 + a3))) 1))))), (198, aB (decide (y3 < (IntKind.wrap .i64 (iShr .u64 (IntKind.wrap .u64 (IntKind.wrap .i64 (a1 + a3))) 1))))), (197, aI (IntKind.wrap .i64 (iShr .u64 (IntKind.wrap .u64 (IntKind.wrap .i64 (a1 + a3))) 1))), (196, aI y3)] (by kernel_rfl) ?_
        exact sameN (by kernel_rfl) (by kernel_rfl) h
       ·
        intro Q h
        refine sh 4 [(199, aB false), (198, .undef), (197, .undef), (196, .undef)] (by kernel_rfl) ?_
        exact sameN (by kernel_rfl) (by kernel_rfl) h
       refine fin [(0, .pv .nils), (1, aI a1), (3, aI a3), (4, .fn 47 [] [.ptr 0 0]), (18, aI (IntKind.wrap .i64 (iShr .u64 (IntKind.wrap .u64 (IntKind.wrap .i64 (a1 + a3))) 1))), (20, aI y3), (24, aI (IntKind.wrap .i64 ((IntKind.wrap .i64 ((IntKind.wrap .i64 (iShr .u64 (IntKind.wrap .u64 (IntKind.wrap .i64 (a1 + a3))) 1)) + a2)) - y3))), (199, aB ((decide (a1 < y3)) && (decide (y3 < (IntKind.wrap .i64 (iShr .u64 (IntKind.wrap .u64 (IntKind.wrap .i64 (a1 + a3))) 1))))))] rfl (by kernel_rfl) ?_
       rcases bif_some hm with ⟨h16, hm⟩ | ⟨h16, hm⟩
       ·
        refine ct h16 (by kernel_rfl) (rg (sh 5 [(204, .fn 47 [] [.ptr 0 0]), (203, aI (IntKind.wrap .i64 (iShr .u64 (IntKind.wrap .u64 (IntKind.wrap .i64 (a1 + a3))) 1))), (202, aI y3), (201, aI a1), (200, .pv .nils)] (by kernel_rfl) ?_))
        obtain ⟨_, h17, hm⟩ := bs hm
        obtain ⟨vv, H1, hC, rfl, rfl⟩ := ih_slices_symMergeCmpFunc_Value_row_Sort_1_nil h17
        refine dR [(205, .tup [])] [.box [.pv (encSl R_api_Key a0)] false] [0] [.pv .nils, aI a1, aI y3, aI (IntKind.wrap .i64 (iShr .u64 (IntKind.wrap .u64 (IntKind.wrap .i64 (a1 + a3))) 1)), .fn 47 [] [.ptr 0 0]] (by kernel_rfl) (by kernel_rfl) (by kernel_rfl) hC (by kernel_rfl) (fin [(0, .pv .nils), (3, aI a3), (4, .fn 47 [] [.ptr 0 0]), (18, aI (IntKind.wrap .i64 (iShr .u64 (IntKind.wrap .u64 (IntKind.wrap .i64 (a1 + a3))) 1))), (24, aI (IntKind.wrap .i64 ((IntKind.wrap .i64 ((IntKind.wrap .i64 (iShr .u64 (IntKind.wrap .u64 (IntKind.wrap .i64 (a1 + a3))) 1)) + a2)) - y3)))] rfl (by kernel_rfl) ?_)
        exact ⟨.any, .any, .any, hm, (mk_same (by kernel_rfl)), rfl⟩
       ·
        refine cf h16 (by kernel_rfl) (wp_skip ?_)
        exact ⟨aI a1, aI y3, aB ((decide (a1 < y3)) && (decide (y3 < (IntKind.wrap .i64 (iShr .u64 (IntKind.wrap .u64 (IntKind.wrap .i64 (a1 + a3))) 1))))), hm, (mk_same (by kernel_rfl)), rfl⟩
      refine sq (rg (sh 4 [(181, aB (decide (y3 < a2))), (180, aB (decide (y3 < a2))), (179, aI a2), (178, aI y3)] (by kernel_rfl) ?_))
      refine seg (decide (y3 < a2)) [181, 180] (fun b => [(185, aB (b && (decide (a2 < (IntKind.wrap .i64 ((IntKind.wrap .i64 ((IntKind.wrap .i64 (iShr .u64 (IntKind.wrap .u64 (IntKind.wrap .i64 (a1 + a3))) 1)) + a2)) - y3)))))), (184, ifA b (aB (decide (a2 < (IntKind.wrap .i64 ((IntKind.wrap .i64 ((IntKind.wrap .i64 (iShr .u64 (IntKind.wrap .u64 (IntKind.wrap .i64 (a1 + a3))) 1)) + a2)) - y3))))) (.undef)), (183, ifA b (aI (IntKind.wrap .i64 ((IntKind.wrap .i64 ((IntKind.wrap .i64 (iShr .u64 (IntKind.wrap .u64 (IntKind.wrap .i64 (a1 + a3))) 1)) + a2)) - y3))) (.undef)), (182, ifA b (aI a2) (.undef))]) 8 (by kernel_rfl) ?_ ?_ ?_
      ·
       intro Q h
       refine sh 4 [(185, aB (decide (a2 < (IntKind.wrap .i64 ((IntKind.wrap .i64 ((IntKind.wrap .i64 (iShr .u64 (IntKind.wrap .u64 (IntKind.wrap .i64 (a1 + a3))) 1)) + a2)) - y3))))), (184, aB (decide (a2 < (IntKind.wrap .i64 ((IntKind.wrap .i64 ((IntKind.wrap .i64 (iShr .u64 (IntKind.wrap .u64 (IntKind.wrap .i64 (a1 + a3))) 1)) + a2)) - y3))))), (183, aI (IntKind.wrap .i64 ((IntKind.wrap .i64 ((IntKind.wrap .i64 (iShr .u64 (IntKind.wrap .u64 (IntKind.wrap .i64 (a1 + a3))) 1)) + a2)) - y3))), (182, aI a2)] (by kernel_rfl) ?_
       exact sameN (by kernel_rfl) (by kernel_rfl) h
      ·
       intro Q h
       refine sh 4 [(185, aB false), (184, .undef), (183, .undef), (182, .undef)] (by kernel_rfl) ?_
       exact sameN (by kernel_rfl) (by kernel_rfl) h
      refine fin [(0, .pv .nils), (1, aI a1), (2, aI a2), (3, aI a3), (4, .fn 47 [] [.ptr 0 0]), (18, aI (IntKind.wrap .i64 (iShr .u64 (IntKind.wrap .u64 (IntKind.wrap .i64 (a1 + a3))) 1))), (20, aI y3), (24, aI (IntKind.wrap .i64 ((IntKind.wrap .i64 ((IntKind.wrap .i64 (iShr .u64 (IntKind.wrap .u64 (IntKind.wrap .i64 (a1 + a3))) 1)) + a2)) - y3))), (185, aB ((decide (y3 < a2)) && (decide (a2 < (IntKind.wrap .i64 ((IntKind.wrap .i64 ((IntKind.wrap .i64 (iShr .u64 (IntKind.wrap .u64 (IntKind.wrap .i64 (a1 + a3))) 1)) + a2)) - y3))))))] rfl (by kernel_rfl) ?_
      rcases bif_some hm with ⟨h18, hm⟩ | ⟨h18, hm⟩
      ·
       refine ct h18 (by kernel_rfl) (rg (sh 5 [(190, .fn 47 [] [.ptr 0 0]), (189, aI (IntKind.wrap .i64 ((IntKind.wrap .i64 ((IntKind.wrap .i64 (iShr .u64 (IntKind.wrap .u64 (IntKind.wrap .i64 (a1 + a3))) 1)) + a2)) - y3))), (188, aI a2), (187, aI y3), (186, .pv .nils)] (by kernel_rfl) ?_))
       obtain ⟨_, h19, hm⟩ := bs hm
       obtain ⟨vv, H1, hC, rfl, rfl⟩ := ok_slices_rotateCmpFunc_Value_row_Sort_1_nil h19
       refine dR [(191, .tup [])] [.box [.pv (encSl R_api_Key a0)] false] [0] [.pv .nils, aI y3, aI a2, aI (IntKind.wrap .i64 ((IntKind.wrap .i64 ((IntKind.wrap .i64 (iShr .u64 (IntKind.wrap .u64 (IntKind.wrap .i64 (a1 + a3))) 1)) + a2)) - y3)), .fn 47 [] [.ptr 0 0]] (by kernel_rfl) (by kernel_rfl) (by kernel_rfl) hC (by kernel_rfl) (fin [(0, .pv .nils), (1, aI a1), (3, aI a3), (4, .fn 47 [] [.ptr 0 0]), (18, aI (IntKind.wrap .i64 (iShr .u64 (IntKind.wrap .u64 (IntKind.wrap .i64 (a1 + a3))) 1))), (20, aI y3), (24, aI (IntKind.wrap .i64 ((IntKind.wrap .i64 ((IntKind.wrap .i64 (iShr .u64 (IntKind.wrap .u64 (IntKind.wrap .i64 (a1 + a3))) 1)) + a2)) - y3)))] rfl (by kernel_rfl) ?_)
       exact ⟨.any, .any, hm, (mk_same (by kernel_rfl)), rfl⟩
      ·
       refine cf h18 (by kernel_rfl) (wp_skip ?_)
       exact ⟨aI a2, aB ((decide (y3 < a2)) && (decide (a2 < (IntKind.wrap .i64 ((IntKind.wrap .i64 ((IntKind.wrap .i64 (iShr .u64 (IntKind.wrap .u64 (IntKind.wrap .i64 (a1 + a3))) 1)) + a2)) - y3))))), hm, (mk_same (by kernel_rfl)), rfl⟩
     refine bq ?_
     refine loopF (fun mm t H => (slices_symMergeCmpFunc_Value_row_Sort_1_nil_l33 n y3 y4 k6 mm = some r ∧ t = mk 220 [(0, .pv .nils), (1, aI a1), (2, aI a2), (3, aI a3), (4, .fn 47 [] [.ptr 0 0]), (18, aI (IntKind.wrap .i64 (iShr .u64 (IntKind.wrap .u64 (IntKind.wrap .i64 (a1 + a3))) 1))), (19, aI (IntKind.wrap .i64 ((IntKind.wrap .i64 (iShr .u64 (IntKind.wrap .u64 (IntKind.wrap .i64 (a1 + a3))) 1)) + a2))), (20, aI y3), (21, aI y4), (22, aI (IntKind.wrap .i64 ((IntKind.wrap .i64 ((IntKind.wrap .i64 (iShr .u64 (IntKind.wrap .u64 (IntKind.wrap .i64 (a1 + a3))) 1)) + a2)) - 1)))] ∧ H = [.box [.pv (encSl R_api_Key a0)] false])) (⟨hm, rfl, rfl⟩) ?_ ?_
     · rintro _ _ ⟨hm, _⟩; exact nomatch hm
     rintro m20 _ _ ⟨hm, rfl, rfl⟩
     simp only [slices_symMergeCmpFunc_Value_row_Sort_1_nil_l33] at hm
     refine sq (sq (detn [(0, .pv .nils), (1, aI a1), (2, aI a2), (3, aI a3), (4, .fn 47 [] [.ptr 0 0]), (18, aI (IntKind.wrap .i64 (iShr .u64 (IntKind.wrap .u64 (IntKind.wrap .i64 (a1 + a3))) 1))), (19, aI (IntKind.wrap .i64 ((IntKind.wrap .i64 (iShr .u64 (IntKind.wrap .u64 (IntKind.wrap .i64 (a1 + a3))) 1)) + a2))), (20, aI y3), (21, aI y4), (22, aI (IntKind.wrap .i64 ((IntKind.wrap .i64 ((IntKind.wrap .i64 (iShr .u64 (IntKind.wrap .u64 (IntKind.wrap .i64 (a1 + a3))) 1)) + a2)) - 1))), (151, aB (decide (y3 < y4)))] (by kernel_rfl) ?_))
     rcases bif_some hm with ⟨h21, hm⟩ | ⟨h21, hm⟩
     ·
      refine ct h21 (by kernel_rfl) (wp_skip (bq (sq (detn [(0, .pv .nils), (1, aI a1), (2, aI a2), (3, aI a3), (4, .fn 47 [] [.ptr 0 0]), (18, aI (IntKind.wrap .i64 (iShr .u64 (IntKind.wrap .u64 (IntKind.wrap .i64 (a1 + a3))) 1))), (19, aI (IntKind.wrap .i64 ((IntKind.wrap .i64 (iShr .u64 (IntKind.wrap .u64 (IntKind.wrap .i64 (a1 + a3))) 1)) + a2))), (20, aI y3), (21, aI y4), (22, aI (IntKind.wrap .i64 ((IntKind.wrap .i64 ((IntKind.wrap .i64 (iShr .u64 (IntKind.wrap .u64 (IntKind.wrap .i64 (a1 + a3))) 1)) + a2)) - 1))), (23, aI (IntKind.wrap .i64 (iShr .u64 (IntKind.wrap .u64 (IntKind.wrap .i64 (y3 + y4))) 1)))] (by kernel_rfl) (sq (rgd (shd 5 [(162, aI (IntKind.wrap .i64 ((IntKind.wrap .i64 ((IntKind.wrap .i64 ((IntKind.wrap .i64 (iShr .u64 (IntKind.wrap .u64 (IntKind.wrap .i64 (a1 + a3))) 1)) + a2)) - 1)) - (IntKind.wrap .i64 (iShr .u64 (IntKind.wrap .u64 (IntKind.wrap .i64 (y3 + y4))) 1))))), (161, aI (IntKind.wrap .i64 (iShr .u64 (IntKind.wrap .u64 (IntKind.wrap .i64 (y3 + y4))) 1))), (160, aI (IntKind.wrap .i64 ((IntKind.wrap .i64 ((IntKind.wrap .i64 (iShr .u64 (IntKind.wrap .u64 (IntKind.wrap .i64 (a1 + a3))) 1)) + a2)) - 1))), (159, .pv .nils), (158, .fn 47 [] [.ptr 0 0])] (by kernel_rfl) ?_)))))))
      cases hm
     ·
      refine cf h21 (by kernel_rfl) (wp_exit ?_)
      exact ⟨hm, rfl, rfl⟩
    refine sq (detn [(0, .pv .nils), (1, aI a1), (2, aI a2), (3, aI a3), (4, .fn 47 [] [.ptr 0 0]), (18, aI (IntKind.wrap .i64 (iShr .u64 (IntKind.wrap .u64 (IntKind.wrap .i64 (a1 + a3))) 1))), (19, aI (IntKind.wrap .i64 ((IntKind.wrap .i64 (iShr .u64 (IntKind.wrap .u64 (IntKind.wrap .i64 (a1 + a3))) 1)) + a2))), (140, aB (decide (a2 > (IntKind.wrap .i64 (iShr .u64 (IntKind.wrap .u64 (IntKind.wrap .i64 (a1 + a3))) 1)))))] (by kernel_rfl) ?_)
    rcases bif_some hm with ⟨h22, hm⟩ | ⟨h22, hm⟩
    ·
     refine ct h22 (by kernel_rfl) (sq (detn [(0, .pv .nils), (1, aI a1), (2, aI a2), (3, aI a3), (4, .fn 47 [] [.ptr 0 0]), (18, aI (IntKind.wrap .i64 (iShr .u64 (IntKind.wrap .u64 (IntKind.wrap .i64 (a1 + a3))) 1))), (19, aI (IntKind.wrap .i64 ((IntKind.wrap .i64 (iShr .u64 (IntKind.wrap .u64 (IntKind.wrap .i64 (a1 + a3))) 1)) + a2))), (20, aI (IntKind.wrap .i64 ((IntKind.wrap .i64 ((IntKind.wrap .i64 (iShr .u64 (IntKind.wrap .u64 (IntKind.wrap .i64 (a1 + a3))) 1)) + a2)) - a3)))] (by kernel_rfl) (detn [(0, .pv .nils), (1, aI a1), (2, aI a2), (3, aI a3), (4, .fn 47 [] [.ptr 0 0]), (18, aI (IntKind.wrap .i64 (iShr .u64 (IntKind.wrap .u64 (IntKind.wrap .i64 (a1 + a3))) 1))), (19, aI (IntKind.wrap .i64 ((IntKind.wrap .i64 (iShr .u64 (IntKind.wrap .u64 (IntKind.wrap .i64 (a1 + a3))) 1)) + a2))), (20, aI (IntKind.wrap .i64 ((IntKind.wrap .i64 ((IntKind.wrap .i64 (iShr .u64 (IntKind.wrap .u64 (IntKind.wrap .i64 (a1 + a3))) 1)) + a2)) - a3))), (21, aI (IntKind.wrap .i64 (iShr .u64 (IntKind.wrap .u64 (IntKind.wrap .i64 (a1 + a3))) 1)))] (by kernel_rfl) ?_)))
     exact ⟨(IntKind.wrap .i64 ((IntKind.wrap .i64 ((IntKind.wrap .i64 (iShr .u64 (IntKind.wrap .u64 (IntKind.wrap .i64 (a1 + a3))) 1)) + a2)) - a3)), (IntKind.wrap .i64 (iShr .u64 (IntKind.wrap .u64 (IntKind.wrap .i64 (a1 + a3))) 1)), hm, rfl, rfl⟩
    ·
     refine cf h22 (by kernel_rfl) (sq (detn [(0, .pv .nils), (1, aI a1), (2, aI a2), (3, aI a3), (4, .fn 47 [] [.ptr 0 0]), (18, aI (IntKind.wrap .i64 (iShr .u64 (IntKind.wrap .u64 (IntKind.wrap .i64 (a1 + a3))) 1))), (19, aI (IntKind.wrap .i64 ((IntKind.wrap .i64 (iShr .u64 (IntKind.wrap .u64 (IntKind.wrap .i64 (a1 + a3))) 1)) + a2))), (20, aI a1)] (by kernel_rfl) (detn [(0, .pv .nils), (1, aI a1), (2, aI a2), (3, aI a3), (4, .fn 47 [] [.ptr 0 0]), (18, aI (IntKind.wrap .i64 (iShr .u64 (IntKind.wrap .u64 (IntKind.wrap .i64 (a1 + a3))) 1))), (19, aI (IntKind.wrap .i64 ((IntKind.wrap .i64 (iShr .u64 (IntKind.wrap .u64 (IntKind.wrap .i64 (a1 + a3))) 1)) + a2))), (20, aI a1), (21, aI a2)] (by kernel_rfl) ?_)))
     exact ⟨a1, a2, hm, rfl, rfl⟩
   refine sq (detn [(0, .pv .nils), (1, aI a1), (2, aI a2), (3, aI a3), (4, .fn 47 [] [.ptr 0 0]), (80, aB ((IntKind.wrap .i64 (a3 - a2)) == 1))] (by kernel_rfl) ?_)
   rcases bif_some hm with ⟨h23, hm⟩ | ⟨h23, hm⟩
   ·
    refine ct h23 (by kernel_rfl) (sq (detn [(0, .pv .nils), (2, aI a2), (4, .fn 47 [] [.ptr 0 0]), (14, aI a1)] (by kernel_rfl) (sq (detn [(0, .pv .nils), (2, aI a2), (4, .fn 47 [] [.ptr 0 0]), (14, aI a1), (15, aI a2)] (by kernel_rfl) ?_))))
    obtain ⟨k24, hk24, hm⟩ := withK_some hm
    refine mid (fun t H => (k24 () = some r ∧ t = mk 220 [(0, .pv .nils), (2, aI a2), (4, .fn 47 [] [.ptr 0 0]), (14, aI a1), (15, aI a2), (85, aB (decide (a1 < a2)))] ∧ H = [.box [.pv (encSl R_api_Key a0)] false])) ?_ ?_
    ·
     rintro _ _ ⟨hm, rfl, rfl⟩
     subst hk24
     obtain ⟨k25, hk25, hm⟩ := withK_some hm
     refine mid (fun t H => (k25 () = some r ∧ t = mk 220 [(0, .pv .nils), (14, aI a1), (17, aI a2), (110, aB (decide (a2 > a1)))] ∧ H = [.box [.pv (encSl R_api_Key a0)] false])) ?_ ?_
     ·
      rintro _ _ ⟨hm, rfl, rfl⟩
      subst hk25
      refine wp_ret ?_
      obtain rfl := Option.some.inj hm
      exact ⟨trivial, .tup [], [.box [.pv (encSl R_api_Key a0)] false], by kernel_rfl, rfl, rfl⟩
     refine sq (detn [(0, .pv .nils), (14, aI a1), (17, aI a2)] (by kernel_rfl) (bq ?_))
     refine loopF (fun mm t H => (slices_symMergeCmpFunc_Value_row_Sort_1_nil_l21 n a1 a2 k25 mm = some r ∧ t = mk 220 [(0, .pv .nils), (14, aI a1), (17, aI a2)] ∧ H = [.box [.pv (encSl R_api_Key a0)] false])) (⟨hm, rfl, rfl⟩) ?_ ?_
     · rintro _ _ ⟨hm, _⟩; exact nomatch hm
     rintro m26 _ _ ⟨hm, rfl, rfl⟩
     simp only [slices_symMergeCmpFunc_Value_row_Sort_1_nil_l21] at hm
     refine sq (sq (detn [(0, .pv .nils), (14, aI a1), (17, aI a2), (110, aB (decide (a2 > a1)))] (by kernel_rfl) ?_))
     rcases bif_some hm with ⟨h27, hm⟩ | ⟨h27, hm⟩
     ·
      refine ct h27 (by kernel_rfl) (wp_skip (sq (bq (rgd (shd 8 [(120, aI (IntKind.wrap .i64 (a2 - 1))), (119, aI a2), (118, .pv .nils), (117, aI (IntKind.wrap .i64 (a2 - 1))), (116, aI a2), (115, .pv .nils), (114, aI a2), (113, .pv .nils)] (by kernel_rfl) ?_)))))
      cases hm
     ·
      refine cf h27 (by kernel_rfl) (wp_exit ?_)
      exact ⟨hm, rfl, rfl⟩
    refine bq ?_
    refine loopF (fun mm t H => (slices_symMergeCmpFunc_Value_row_Sort_1_nil_l15 n a1 a2 k24 mm = some r ∧ t = mk 220 [(0, .pv .nils), (2, aI a2), (4, .fn 47 [] [.ptr 0 0]), (14, aI a1), (15, aI a2)] ∧ H = [.box [.pv (encSl R_api_Key a0)] false])) (⟨hm, rfl, rfl⟩) ?_ ?_
    · rintro _ _ ⟨hm, _⟩; exact nomatch hm
    rintro m28 _ _ ⟨hm, rfl, rfl⟩
    simp only [slices_symMergeCmpFunc_Value_row_Sort_1_nil_l15] at hm
    refine sq (sq (detn [(0, .pv .nils), (2, aI a2), (4, .fn 47 [] [.ptr 0 0]), (14, aI a1), (15, aI a2), (85, aB (decide (a1 < a2)))] (by kernel_rfl) ?_))
    rcases bif_some hm with ⟨h29, hm⟩ | ⟨h29, hm⟩
    ·
     refine ct h29 (by kernel_rfl) (wp_skip (bq (sq (detn [(0, .pv .nils), (2, aI a2), (4, .fn 47 [] [.ptr 0 0]), (14, aI a1), (15, aI a2), (16, aI (IntKind.wrap .i64 (iShr .u64 (IntKind.wrap .u64 (IntKind.wrap .i64 (a1 + a2))) 1)))] (by kernel_rfl) (sq (rgd (shd 3 [(94, aI a2), (93, .pv .nils), (92, .fn 47 [] [.ptr 0 0])] (by kernel_rfl) ?_)))))))
     cases hm
    ·
     refine cf h29 (by kernel_rfl) (wp_exit ?_)
     exact ⟨hm, rfl, rfl⟩
   ·
    refine cf h23 (by kernel_rfl) (wp_skip ?_)
    exact ⟨hm, rfl, rfl⟩
  refine sq (detn [(0, .pv .nils), (1, aI a1), (2, aI a2), (3, aI a3), (4, .fn 47 [] [.ptr 0 0]), (28, aB ((IntKind.wrap .i64 (a2 - a1)) == 1))] (by kernel_rfl) ?_)
  rcases bif_some hm with ⟨h30, hm⟩ | ⟨h30, hm⟩
  ·
   refine ct h30 (by kernel_rfl) (sq (detn [(0, .pv .nils), (1, aI a1), (3, aI a3), (4, .fn 47 [] [.ptr 0 0]), (10, aI a2)] (by kernel_rfl) (sq (detn [(0, .pv .nils), (1, aI a1), (4, .fn 47 [] [.ptr 0 0]), (10, aI a2), (11, aI a3)] (by kernel_rfl) ?_))))
   obtain ⟨k31, hk31, hm⟩ := withK_some hm
   refine mid (fun t H => (k31 () = some r ∧ t = mk 220 [(0, .pv .nils), (1, aI a1), (4, .fn 47 [] [.ptr 0 0]), (10, aI a2), (11, aI a3), (33, aB (decide (a2 < a3)))] ∧ H = [.box [.pv (encSl R_api_Key a0)] false])) ?_ ?_
   ·
    rintro _ _ ⟨hm, rfl, rfl⟩
    subst hk31
    obtain ⟨k32, hk32, hm⟩ := withK_some hm
    refine mid (fun t H => (k32 () = some r ∧ t = mk 220 [(0, .pv .nils), (10, aI a2), (13, aI a1), (58, aB (decide (a1 < (IntKind.wrap .i64 (a2 - 1)))))] ∧ H = [.box [.pv (encSl R_api_Key a0)] false])) ?_ ?_
    ·
     rintro _ _ ⟨hm, rfl, rfl⟩
     subst hk32
     refine wp_ret ?_
     obtain rfl := Option.some.inj hm
     exact ⟨trivial, .tup [], [.box [.pv (encSl R_api_Key a0)] false], by kernel_rfl, rfl, rfl⟩
    refine sq (detn [(0, .pv .nils), (10, aI a2), (13, aI a1)] (by kernel_rfl) (bq ?_))
    refine loopF (fun mm t H => (slices_symMergeCmpFunc_Value_row_Sort_1_nil_l9 n a1 a2 k32 mm = some r ∧ t = mk 220 [(0, .pv .nils), (10, aI a2), (13, aI a1)] ∧ H = [.box [.pv (encSl R_api_Key a0)] false])) (⟨hm, rfl, rfl⟩) ?_ ?_
    · rintro _ _ ⟨hm, _⟩; exact nomatch hm
    rintro m33 _ _ ⟨hm, rfl, rfl⟩
    simp only [slices_symMergeCmpFunc_Value_row_Sort_1_nil_l9] at hm
    refine sq (sq (detn [(0, .pv .nils), (10, aI a2), (13, aI a1), (58, aB (decide (a1 < (IntKind.wrap .i64 (a2 - 1)))))] (by kernel_rfl) ?_))
    rcases bif_some hm with ⟨h34, hm⟩ | ⟨h34, hm⟩
    ·
     refine ct h34 (by kernel_rfl) (wp_skip (sq (bq (rgd (shd 8 [(68, aI (IntKind.wrap .i64 (a1 + 1))), (67, aI a1), (66, .pv .nils), (65, aI (IntKind.wrap .i64 (a1 + 1))), (64, aI a1), (63, .pv .nils), (62, aI a1), (61, .pv .nils)] (by kernel_rfl) ?_)))))
     cases hm
    ·
     refine cf h34 (by kernel_rfl) (wp_exit ?_)
     exact ⟨hm, rfl, rfl⟩
   refine bq ?_
   refine loopF (fun mm t H => (slices_symMergeCmpFunc_Value_row_Sort_1_nil_l3 n a2 a3 k31 mm = some r ∧ t = mk 220 [(0, .pv .nils), (1, aI a1), (4, .fn 47 [] [.ptr 0 0]), (10, aI a2), (11, aI a3)] ∧ H = [.box [.pv (encSl R_api_Key a0)] false])) (⟨hm, rfl, rfl⟩) ?_ ?_
   · rintro _ _ ⟨hm, _⟩; exact nomatch hm
   rintro m35 _ _ ⟨hm, rfl, rfl⟩
   simp only [slices_symMergeCmpFunc_Value_row_Sort_1_nil_l3] at hm
   refine sq (sq (detn [(0, .pv .nils), (1, aI a1), (4, .fn 47 [] [.ptr 0 0]), (10, aI a2), (11, aI a3), (33, aB (decide (a2 < a3)))] (by kernel_rfl) ?_))
   rcases bif_some hm with ⟨h36, hm⟩ | ⟨h36, hm⟩
   ·
    refine ct h36 (by kernel_rfl) (wp_skip (bq (sq (detn [(0, .pv .nils), (1, aI a1), (4, .fn 47 [] [.ptr 0 0]), (10, aI a2), (11, aI a3), (12, aI (IntKind.wrap .i64 (iShr .u64 (IntKind.wrap .u64 (IntKind.wrap .i64 (a2 + a3))) 1)))] (by kernel_rfl) (sq (rgd (shd 3 [(42, aI (IntKind.wrap .i64 (iShr .u64 (IntKind.wrap .u64 (IntKind.wrap .i64 (a2 + a3))) 1))), (41, .pv .nils), (40, .fn 47 [] [.ptr 0 0])] (by kernel_rfl) ?_)))))))
    cases hm
   ·
    refine cf h36 (by kernel_rfl) (wp_exit ?_)
    exact ⟨hm, rfl, rfl⟩
  ·
   refine cf h30 (by kernel_rfl) (wp_skip ?_)
   exact ⟨hm, rfl, rfl⟩
theorem okt_slices_symMergeCmpFunc_Value_row_Sort_1_nil : ∀ (m : Nat), ∀ {n : Nat} {a0 : (Option (List api_Key))} {a1 : Int} {a2 : Int} {a3 : Int} {r : Unit} (hm : slices_symMergeCmpFunc_Value_row_Sort_1_nil_t m n a0 a1 a2 a3 = some r), ∃ vv H1, call G n 89 [.pv .nils, aI a1, aI a2, aI a3, .fn 47 [] [.ptr 0 0]] [.box [.pv (encSl R_api_Key a0)] false] = some (.ret vv, H1) ∧ (vv = .tup [] ∧ H1 = [.box [.pv (encSl R_api_Key a0)] false])
  | 0 => by intros; rename_i hm; exact nomatch hm
  | m + 1 => fun hm =>
    okf_slices_symMergeCmpFunc_Value_row_Sort_1_nil (okt_slices_symMergeCmpFunc_Value_row_Sort_1_nil m) hm
theorem ok_slices_symMergeCmpFunc_Value_row_Sort_1_nil {n : Nat} {a0 : (Option (List api_Key))} {a1 : Int} {a2 : Int} {a3 : Int} {r : Unit} (hm : slices_symMergeCmpFunc_Value_row_Sort_1_nil n a0 a1 a2 a3 = some r) :
    ∃ vv H1, call G n 89 [.pv .nils, aI a1, aI a2, aI a3, .fn 47 [] [.ptr 0 0]] [.box [.pv (encSl R_api_Key a0)] false] = some (.ret vv, H1) ∧ (vv = .tup [] ∧ H1 = [.box [.pv (encSl R_api_Key a0)] false]) := okt_slices_symMergeCmpFunc_Value_row_Sort_1_nil n hm
theorem ok_slices_stableCmpFunc_Value_row_Sort_1_nil {n : Nat} {a0 : (Option (List api_Key))} {a1 : Int} {r : Unit} (hm : slices_stableCmpFunc_Value_row_Sort_1_nil n a0 a1 = some r) :
    ∃ vv H1, call G n 69 [.pv .nils, aI a1, .fn 47 [] [.ptr 0 0]] [.box [.pv (encSl R_api_Key a0)] false] = some (.ret vv, H1) ∧ (vv = .tup [] ∧ H1 = [.box [.pv (encSl R_api_Key a0)] false]) := by
  unfold slices_stableCmpFunc_Value_row_Sort_1_nil at hm
  obtain ⟨n, rfl, h0⟩ := at1_some hm
  replace hm := h0; clear h0
  refine callE 63 [(0, .pv .nils), (1, aI a1), (2, .fn 47 [] [.ptr 0 0])] func69 rfl (by kernel_rfl) (sq (detn [(0, .pv .nils), (1, aI a1), (2, .fn 47 [] [.ptr 0 0]), (6, aI 20)] (by kernel_rfl) (sq (detn [(0, .pv .nils), (1, aI a1), (2, .fn 47 [] [.ptr 0 0]), (6, aI 20), (7, aI 0), (8, aI 20)] (by kernel_rfl) ?_))))
  obtain ⟨k4, hk4, hm⟩ := withK_some hm
  refine mid (fun t H => (∃ (y1 : Bool) (y2 : Int) (y3 : Int), k4 y2 = some r ∧ t = mk 63 [(0, .pv .nils), (1, aI a1), (2, .fn 47 [] [.ptr 0 0]), (6, aI 20), (7, aI y2), (8, aI y3), (13, aB y1)] ∧ H = [.box [.pv (encSl R_api_Key a0)] false])) ?_ ?_
  ·
   rintro _ _ ⟨y1, y2, y3, hm, rfl, rfl⟩
   subst hk4
   refine sq (rg (sh 4 [(26, .fn 47 [] [.ptr 0 0]), (25, aI a1), (24, aI y2), (23, .pv .nils)] (by kernel_rfl) ?_))
   obtain ⟨_, h5, hm⟩ := bs hm
   obtain ⟨vv, H1, hC, rfl, rfl⟩ := ok_slices_insertionSortCmpFunc_Value_row_Sort_1_nil h5
   refine dR [(27, .tup [])] [.box [.pv (encSl R_api_Key a0)] false] [0] [.pv .nils, aI y2, aI a1, .fn 47 [] [.ptr 0 0]] (by kernel_rfl) (by kernel_rfl) (by kernel_rfl) hC (by kernel_rfl) (fin [(0, .pv .nils), (1, aI a1), (2, .fn 47 [] [.ptr 0 0]), (6, aI 20)] rfl (by kernel_rfl) (bq ?_))
   refine loopF (fun mm t H => (∃ (y7 : Int), slices_stableCmpFunc_Value_row_Sort_1_nil_l7 n a0 a1 mm y7 = some r ∧ t = mk 63 [(0, .pv .nils), (1, aI a1), (2, .fn 47 [] [.ptr 0 0]), (6, aI y7)] ∧ H = [.box [.pv (encSl R_api_Key a0)] false])) (⟨20, hm, rfl, rfl⟩) ?_ ?_
   · rintro _ _ ⟨y7, hm, _⟩; exact nomatch hm
   rintro m8 _ _ ⟨y7, hm, rfl, rfl⟩
   simp only [slices_stableCmpFunc_Value_row_Sort_1_nil_l7] at hm
   refine sq (sq (detn [(0, .pv .nils), (1, aI a1), (2, .fn 47 [] [.ptr 0 0]), (6, aI y7), (30, aB (decide (y7 < a1)))] (by kernel_rfl) ?_))
   rcases bif_some hm with ⟨h9, hm⟩ | ⟨h9, hm⟩
   ·
    refine ct h9 (by kernel_rfl) (wp_skip (bq (sq (detn [(0, .pv .nils), (1, aI a1), (2, .fn 47 [] [.ptr 0 0]), (6, aI y7), (7, aI 0), (8, aI (IntKind.wrap .i64 (2 * y7)))] (by kernel_rfl) ?_))))
    obtain ⟨k13, hk13, hm⟩ := withK_some hm
    refine mid (fun t H => (∃ (y10 : Bool) (y11 : Int) (y12 : Int), k13 y11 = some r ∧ t = mk 63 [(0, .pv .nils), (1, aI a1), (2, .fn 47 [] [.ptr 0 0]), (6, aI y7), (7, aI y11), (8, aI y12), (35, aB y10)] ∧ H = [.box [.pv (encSl R_api_Key a0)] false])) ?_ ?_
    ·
     rintro _ _ ⟨y10, y11, y12, hm, rfl, rfl⟩
     subst hk13
     refine sq (sq (detn [(0, .pv .nils), (1, aI a1), (2, .fn 47 [] [.ptr 0 0]), (6, aI y7), (7, aI y11), (9, aI (IntKind.wrap .i64 (y11 + y7)))] (by kernel_rfl) (sq (detn [(0, .pv .nils), (1, aI a1), (2, .fn 47 [] [.ptr 0 0]), (6, aI y7), (7, aI y11), (9, aI (IntKind.wrap .i64 (y11 + y7))), (54, aB (decide ((IntKind.wrap .i64 (y11 + y7)) < a1)))] (by kernel_rfl) ?_))))
     rcases bif_some hm with ⟨h14, hm⟩ | ⟨h14, hm⟩
     ·
      refine ct h14 (by kernel_rfl) (rg (sh 5 [(59, .fn 47 [] [.ptr 0 0]), (58, aI a1), (57, aI (IntKind.wrap .i64 (y11 + y7))), (56, aI y11), (55, .pv .nils)] (by kernel_rfl) ?_))
      obtain ⟨_, h15, hm⟩ := bs hm
      obtain ⟨vv, H1, hC, rfl, rfl⟩ := ok_slices_symMergeCmpFunc_Value_row_Sort_1_nil h15
      refine dR [(60, .tup [])] [.box [.pv (encSl R_api_Key a0)] false] [0] [.pv .nils, aI y11, aI (IntKind.wrap .i64 (y11 + y7)), aI a1, .fn 47 [] [.ptr 0 0]] (by kernel_rfl) (by kernel_rfl) (by kernel_rfl) hC (by kernel_rfl) (fin [(0, .pv .nils), (1, aI a1), (2, .fn 47 [] [.ptr 0 0]), (6, aI y7)] rfl (by kernel_rfl) (detn [(0, .pv .nils), (1, aI a1), (2, .fn 47 [] [.ptr 0 0]), (6, aI (IntKind.wrap .i64 (y7 * 2)))] (by kernel_rfl) ?_))
      exact ⟨_, _, tidyL [(0, .pv .nils), (1, aI a1), (2, .fn 47 [] [.ptr 0 0]), (6, aI (IntKind.wrap .i64 (y7 * 2)))] [.box [.pv (encSl R_api_Key a0)] false] (by kernel_rfl), ⟨(IntKind.wrap .i64 (y7 * 2)), hm, rfl, rfl⟩⟩
     ·
      refine cf h14 (by kernel_rfl) (wp_skip (detn [(0, .pv .nils), (1, aI a1), (2, .fn 47 [] [.ptr 0 0]), (6, aI (IntKind.wrap .i64 (y7 * 2)))] (by kernel_rfl) ?_))
      exact ⟨_, _, tidyL [(0, .pv .nils), (1, aI a1), (2, .fn 47 [] [.ptr 0 0]), (6, aI (IntKind.wrap .i64 (y7 * 2)))] [.box [.pv (encSl R_api_Key a0)] false] (by kernel_rfl), ⟨(IntKind.wrap .i64 (y7 * 2)), hm, rfl, rfl⟩⟩
    refine bq ?_
    refine loopF (fun mm t H => (∃ (y18 : Int) (y19 : Int), slices_stableCmpFunc_Value_row_Sort_1_nil_l9 n a0 a1 y7 k13 mm y18 y19 = some r ∧ t = mk 63 [(0, .pv .nils), (1, aI a1), (2, .fn 47 [] [.ptr 0 0]), (6, aI y7), (7, aI y18), (8, aI y19)] ∧ H = [.box [.pv (encSl R_api_Key a0)] false])) (⟨0, (IntKind.wrap .i64 (2 * y7)), hm, rfl, rfl⟩) ?_ ?_
    · rintro _ _ ⟨y18, y19, hm, _⟩; exact nomatch hm
    rintro m20 _ _ ⟨y18, y19, hm, rfl, rfl⟩
    simp only [slices_stableCmpFunc_Value_row_Sort_1_nil_l9] at hm
    refine sq (sq (detn [(0, .pv .nils), (1, aI a1), (2, .fn 47 [] [.ptr 0 0]), (6, aI y7), (7, aI y18), (8, aI y19), (35, aB (decide (y19 ≤ a1)))] (by kernel_rfl) ?_))
    rcases bif_some hm with ⟨h21, hm⟩ | ⟨h21, hm⟩
    ·
     refine ct h21 (by kernel_rfl) (wp_skip (bq (sq (rg (sh 7 [(42, .fn 47 [] [.ptr 0 0]), (41, aI y19), (40, aI (IntKind.wrap .i64 (y18 + y7))), (39, aI y7), (38, aI y18), (37, aI y18), (36, .pv .nils)] (by kernel_rfl) ?_)))))
     obtain ⟨_, h22, hm⟩ := bs hm
     obtain ⟨vv, H1, hC, rfl, rfl⟩ := ok_slices_symMergeCmpFunc_Value_row_Sort_1_nil h22
     refine dR [(43, .tup [])] [.box [.pv (encSl R_api_Key a0)] false] [0] [.pv .nils, aI y18, aI (IntKind.wrap .i64 (y18 + y7)), aI y19, .fn 47 [] [.ptr 0 0]] (by kernel_rfl) (by kernel_rfl) (by kernel_rfl) hC (by kernel_rfl) (fin [(0, .pv .nils), (1, aI a1), (2, .fn 47 [] [.ptr 0 0]), (6, aI y7), (8, aI y19)] rfl (by kernel_rfl) (sq (detn [(0, .pv .nils), (1, aI a1), (2, .fn 47 [] [.ptr 0 0]), (6, aI y7), (7, aI y19), (8, aI y19)] (by kernel_rfl) (detn [(0, .pv .nils), (1, aI a1), (2, .fn 47 [] [.ptr 0 0]), (6, aI y7), (7, aI y19), (8, aI (IntKind.wrap .i64 (y19 + (IntKind.wrap .i64 (2 * y7)))))] (by kernel_rfl) ?_))))
     exact ⟨_, _, tidyL [(0, .pv .nils), (1, aI a1), (2, .fn 47 [] [.ptr 0 0]), (6, aI y7), (7, aI y19), (8, aI (IntKind.wrap .i64 (y19 + (IntKind.wrap .i64 (2 * y7)))))] [.box [.pv (encSl R_api_Key a0)] false] (by kernel_rfl), ⟨y19, (IntKind.wrap .i64 (y19 + (IntKind.wrap .i64 (2 * y7)))), hm, rfl, rfl⟩⟩
    ·
     refine cf h21 (by kernel_rfl) (wp_exit ?_)
     exact ⟨(decide (y19 ≤ a1)), y18, y19, hm, rfl, rfl⟩
   ·
    refine cf h9 (by kernel_rfl) (wp_exit ?_)
    obtain rfl := Option.some.inj hm
    exact ⟨trivial, .tup [], [.box [.pv (encSl R_api_Key a0)] false], by kernel_rfl, rfl, rfl⟩
  refine bq ?_
  refine loopF (fun mm t H => (∃ (y25 : Int) (y26 : Int), slices_stableCmpFunc_Value_row_Sort_1_nil_l2 n a0 a1 k4 mm y25 y26 = some r ∧ t = mk 63 [(0, .pv .nils), (1, aI a1), (2, .fn 47 [] [.ptr 0 0]), (6, aI 20), (7, aI y25), (8, aI y26)] ∧ H = [.box [.pv (encSl R_api_Key a0)] false])) (⟨0, 20, hm, rfl, rfl⟩) ?_ ?_
  · rintro _ _ ⟨y25, y26, hm, _⟩; exact nomatch hm
  rintro m27 _ _ ⟨y25, y26, hm, rfl, rfl⟩
  simp only [slices_stableCmpFunc_Value_row_Sort_1_nil_l2] at hm
  refine sq (sq (detn [(0, .pv .nils), (1, aI a1), (2, .fn 47 [] [.ptr 0 0]), (6, aI 20), (7, aI y25), (8, aI y26), (13, aB (decide (y26 ≤ a1)))] (by kernel_rfl) ?_))
  rcases bif_some hm with ⟨h28, hm⟩ | ⟨h28, hm⟩
  ·
   refine ct h28 (by kernel_rfl) (wp_skip (bq (sq (rg (sh 4 [(17, .fn 47 [] [.ptr 0 0]), (16, aI y26), (15, aI y25), (14, .pv .nils)] (by kernel_rfl) ?_)))))
   obtain ⟨_, h29, hm⟩ := bs hm
   obtain ⟨vv, H1, hC, rfl, rfl⟩ := ok_slices_insertionSortCmpFunc_Value_row_Sort_1_nil h29
   refine dR [(18, .tup [])] [.box [.pv (encSl R_api_Key a0)] false] [0] [.pv .nils, aI y25, aI y26, .fn 47 [] [.ptr 0 0]] (by kernel_rfl) (by kernel_rfl) (by kernel_rfl) hC (by kernel_rfl) (fin [(0, .pv .nils), (1, aI a1), (2, .fn 47 [] [.ptr 0 0]), (6, aI 20), (8, aI y26)] rfl (by kernel_rfl) (sq (detn [(0, .pv .nils), (1, aI a1), (2, .fn 47 [] [.ptr 0 0]), (6, aI 20), (7, aI y26), (8, aI y26)] (by kernel_rfl) (detn [(0, .pv .nils), (1, aI a1), (2, .fn 47 [] [.ptr 0 0]), (6, aI 20), (7, aI y26), (8, aI (IntKind.wrap .i64 (y26 + 20)))] (by kernel_rfl) ?_))))
   exact ⟨_, _, tidyL [(0, .pv .nils), (1, aI a1), (2, .fn 47 [] [.ptr 0 0]), (6, aI 20), (7, aI y26), (8, aI (IntKind.wrap .i64 (y26 + 20)))] [.box [.pv (encSl R_api_Key a0)] false] (by kernel_rfl), ⟨y26, (IntKind.wrap .i64 (y26 + 20)), hm, rfl, rfl⟩⟩
  ·
   refine cf h28 (by kernel_rfl) (wp_exit ?_)
   exact ⟨(decide (y26 ≤ a1)), y25, y26, hm, rfl, rfl⟩
theorem ok_slices_SortStableFunc_Value_row_Sort_1_nil {n : Nat} {a0 : (Option (List api_Key))} {r : Unit} (hm : slices_SortStableFunc_Value_row_Sort_1_nil n a0 = some r) :
    ∃ vv H1, call G n 46 [.pv .nils, .fn 47 [] [.ptr 0 0]] [.box [.pv (encSl R_api_Key a0)] false] = some (.ret vv, H1) ∧ (vv = .tup [] ∧ H1 = [.box [.pv (encSl R_api_Key a0)] false]) := by
  unfold slices_SortStableFunc_Value_row_Sort_1_nil at hm
  obtain ⟨n, rfl, h0⟩ := at1_some hm
  replace hm := h0; clear h0
  refine callE 9 [(0, .pv .nils), (1, .fn 47 [] [.ptr 0 0])] func46 rfl (by kernel_rfl) (rg (sh 4 [(7, .fn 47 [] [.ptr 0 0]), (6, aI 0), (5, .pv .nils), (4, .pv .nils)] (by kernel_rfl) ?_))
  obtain ⟨_, h1, hm⟩ := bs hm
  obtain ⟨vv, H1, hC, rfl, rfl⟩ := ok_slices_stableCmpFunc_Value_row_Sort_1_nil h1
  refine dR [(8, .tup [])] [.box [.pv (encSl R_api_Key a0)] false] [0] [.pv .nils, aI 0, .fn 47 [] [.ptr 0 0]] (by kernel_rfl) (by kernel_rfl) (by kernel_rfl) hC (by kernel_rfl) (fin [] rfl (by kernel_rfl) ?_)
  obtain rfl := Option.some.inj hm
  exact ⟨trivial, .tup [], [.box [.pv (encSl R_api_Key a0)] false], by kernel_rfl, rfl, rfl⟩
theorem ok_row_Sort_1 {n : Nat} {a0 : (Option (List api_Value))} {a1 : (Option (List api_Value))} {a2 : (Option (List api_Key))} {r : Int} (hm : row_Sort_1 n a0 a1 a2 = some r) :
    call G n 47 [.pv (encSl R_api_Value a0), .pv (encSl R_api_Value a1), .pv (.ptr [encSl R_api_Key a2] 0)] [] = some (.ret (aI r), []) := by
  unfold row_Sort_1 at hm
  obtain ⟨n, rfl, h0⟩ := at1_some hm
  replace hm := h0; clear h0
  refine callL 10 [(0, .pv (encSl R_api_Value a0)), (1, .pv (encSl R_api_Value a1)), (2, .pv (.ptr [encSl R_api_Key a2] 0))] func47 rfl (by kernel_rfl) (sq (detn [(0, .pv (encSl R_api_Value a0)), (1, .pv (encSl R_api_Value a1)), (2, .pv (.ptr [encSl R_api_Key a2] 0))] (by kernel_rfl) (sq (rg (sh 3 [(8, .pv (encSl R_api_Value a1)), (7, .pv (encSl R_api_Value a0)), (6, .pv (encSl R_api_Key a2))] (by kernel_rfl) ?_)))))
  obtain ⟨x1, h2, hm⟩ := bs hm
  refine dv 9 (cpure (by kernel_rfl) (ok_row_By h2) (by kernel_rfl) (by kernel_rfl) (by kernel_rfl)) (by kernel_rfl) (sh 1 [(5, aI x1)] (by kernel_rfl) (fin [(5, aI x1)] rfl (by kernel_rfl) (wp_ret ?_)))
  obtain rfl := Option.some.inj hm
  exact ⟨trivial, by kernel_rfl⟩
theorem ok_slices_insertionSortCmpFunc_Value_row_Sort_1_r (m0 : Nat) (f0 : Nat) {n : Nat} {a0 : (List (Option (List api_Value)))} {a1 : (Option (List api_Key))} {a2 : Int} {a3 : Int} {r : (List (Option (List api_Value)))} (hm0 : a0.length = m0) (hf0 : f0 ≤ a0.length) (hm : slices_insertionSortCmpFunc_Value_row_Sort_1_r n a0 a1 a2 a3 = some r) :
    ∃ vv H1, call G n 88 [aR 0 1 m0, aI a2, aI a3, .fn 47 [] [.ptr 1 0]] [bR 22 1 (rSl R_api_Value) a0 f0 0, .box [.pv (encSl R_api_Key a1)] false] = some (.ret vv, H1) ∧ (match r with | r0 => (∃ (e1 : Nat), r0.length = m0 ∧ e1 ≤ r0.length ∧ vv = .tup [] ∧ H1 = [bR 22 1 (rSl R_api_Value) r0 e1 0, .box [.pv (encSl R_api_Key a1)] false])) := by
  unfold slices_insertionSortCmpFunc_Value_row_Sort_1_r at hm
  obtain ⟨n, rfl, h0⟩ := at1_some hm
  replace hm := h0; clear h0
  refine callE 53 [(0, aR 0 1 m0), (1, aI a2), (2, aI a3), (3, .fn 47 [] [.ptr 1 0])] func88 rfl (by kernel_rfl) (sq (detn [(0, aR 0 1 m0), (1, aI a2), (2, aI a3), (3, .fn 47 [] [.ptr 1 0]), (8, aI (IntKind.wrap .i64 (a2 + 1)))] (by kernel_rfl) (bq ?_)))
  refine loopF (fun mm t H => (∃ (y6 : (List (Option (List api_Value)))) (y7 : Int) (g9 : Nat), slices_insertionSortCmpFunc_Value_row_Sort_1_r_l1 n a1 a2 a3 mm y6 y7 = some r ∧ t = mk 53 [(0, aR 0 1 m0), (1, aI a2), (2, aI a3), (3, .fn 47 [] [.ptr 1 0]), (8, aI y7)] ∧ H = [bR 22 1 (rSl R_api_Value) y6 g9 0, .box [.pv (encSl R_api_Key a1)] false] ∧ y6.length = m0 ∧ g9 ≤ y6.length)) (⟨a0, (IntKind.wrap .i64 (a2 + 1)), f0, hm, rfl, rfl, (by first | rfl | assumption | omega | (simp only [List.length_set, List.length_append, List.length_cons, List.length_nil, List.length_replicate, List.length_drop] at * <;> omega)), (by first | exact Nat.zero_le _ | exact Nat.le_refl _ | assumption | omega | (simp only [List.length_set, List.length_append, List.length_cons, List.length_nil, List.length_replicate, List.length_drop] at * <;> omega))⟩) ?_ ?_
  · rintro _ _ ⟨y6, y7, g9, hm, _⟩; exact nomatch hm
  rintro m11 _ _ ⟨y6, y7, g9, hm, rfl, rfl, q8, q10⟩
  simp only [slices_insertionSortCmpFunc_Value_row_Sort_1_r_l1] at hm
  refine sq (sq (detn [(0, aR 0 1 m0), (1, aI a2), (2, aI a3), (3, .fn 47 [] [.ptr 1 0]), (8, aI y7), (14, aB (decide (y7 < a3)))] (by kernel_rfl) ?_))
  rcases bif_some hm with ⟨h12, hm⟩ | ⟨h12, hm⟩
  ·
   refine ct h12 (by kernel_rfl) (wp_skip ?_)
   obtain ⟨k19, hk19, hm⟩ := withK_some hm
   refine mid (fun t H => (∃ (y13 : (List (Option (List api_Value)))) (y14 : Bool) (y15 : Int) (g17 : Nat), k19 y13 = some r ∧ t = mk 53 [(0, aR 0 1 m0), (1, aI a2), (2, aI a3), (3, .fn 47 [] [.ptr 1 0]), (8, aI y7), (9, aI y15), (34, aB y14)] ∧ H = [bR 22 1 (rSl R_api_Value) y13 g17 0, .box [.pv (encSl R_api_Key a1)] false] ∧ y13.length = m0 ∧ g17 ≤ y13.length)) ?_ ?_
   ·
    rintro _ _ ⟨y13, y14, y15, g17, hm, rfl, rfl, q16, q18⟩
    subst hk19
    refine detn [(0, aR 0 1 m0), (1, aI a2), (2, aI a3), (3, .fn 47 [] [.ptr 1 0]), (8, aI (IntKind.wrap .i64 (y7 + 1)))] (by kernel_rfl) ?_
    exact ⟨_, _, tidyL [(0, aR 0 1 m0), (1, aI a2), (2, aI a3), (3, .fn 47 [] [.ptr 1 0]), (8, aI (IntKind.wrap .i64 (y7 + 1)))] [bR 22 1 (rSl R_api_Value) y13 g17 0, .box [.pv (encSl R_api_Key a1)] false] (by kernel_rfl), ⟨y13, (IntKind.wrap .i64 (y7 + 1)), g17, hm, rfl, rfl, (by first | rfl | assumption | omega | (simp only [List.length_set, List.length_append, List.length_cons, List.length_nil, List.length_replicate, List.length_drop] at * <;> omega)), (by first | exact Nat.zero_le _ | exact Nat.le_refl _ | assumption | omega | (simp only [List.length_set, List.length_append, List.length_cons, List.length_nil, List.length_replicate, List.length_drop] at * <;> omega))⟩⟩
   refine bq (sq (detn [(0, aR 0 1 m0), (1, aI a2), (2, aI a3), (3, .fn 47 [] [.ptr 1 0]), (8, aI y7), (9, aI y7)] (by kernel_rfl) (bq ?_)))
   refine loopF (fun mm t H => (∃ (y25 : (List (Option (List api_Value)))) (y26 : Int) (g28 : Nat), slices_insertionSortCmpFunc_Value_row_Sort_1_r_l4 n a1 a2 k19 mm y25 y26 = some r ∧ t = mk 53 [(0, aR 0 1 m0), (1, aI a2), (2, aI a3), (3, .fn 47 [] [.ptr 1 0]), (8, aI y7), (9, aI y26)] ∧ H = [bR 22 1 (rSl R_api_Value) y25 g28 0, .box [.pv (encSl R_api_Key a1)] false] ∧ y25.length = m0 ∧ g28 ≤ y25.length)) (⟨y6, y7, g9, hm, rfl, rfl, (by first | rfl | assumption | omega | (simp only [List.length_set, List.length_append, List.length_cons, List.length_nil, List.length_replicate, List.length_drop] at * <;> omega)), (by first | exact Nat.zero_le _ | exact Nat.le_refl _ | assumption | omega | (simp only [List.length_set, List.length_append, List.length_cons, List.length_nil, List.length_replicate, List.length_drop] at * <;> omega))⟩) ?_ ?_
   · rintro _ _ ⟨y25, y26, g28, hm, _⟩; exact nomatch hm
   rintro m30 _ _ ⟨y25, y26, g28, hm, rfl, rfl, q27, q29⟩
   simp only [slices_insertionSortCmpFunc_Value_row_Sort_1_r_l4] at hm
   refine sq (sq (rgd (shd 4 [(21, aB (decide (y26 > a2))), (20, aB (decide (y26 > a2))), (19, aI a2), (18, aI y26)] (by kernel_rfl) ?_)))
   rcases bif_some hm with ⟨h31, hm⟩ | ⟨h31, hm⟩
   ·
    refine knownd [21, 20] h31 (by kernel_rfl) (shd 3 [(24, aI y26), (23, aR 0 1 m0), (22, .fn 47 [] [.ptr 1 0])] (by kernel_rfl) ?_)
    obtain ⟨x32, h33, hm⟩ := bs hm
    refine dvd 25 (v := .eptr 0 0 m0 1 (0 + Int.toNat y26) 0) (ia_refO y25 .i64 (n := m0) (id := 0) (esz := 1) t25 t22 h33 (by omega) rfl (by kernel_rfl)) (by kernel_rfl) (dvd 26 (v := .pv (encSl R_api_Value x32)) (ld_eptrO (rSl R_api_Value) y25 (n := m0) (esz := 1) (j := y26) (off := 0) (id := 0) t22 rfl h33 (by omega) (by omega) (by kernel_rfl) (by kernel_rfl)) (by kernel_rfl) (shd 3 [(29, aI (IntKind.wrap .i64 (y26 - 1))), (28, aI y26), (27, aR 0 1 m0)] (by kernel_rfl) ?_))
    obtain ⟨x34, h35, hm⟩ := bs hm
    refine dvd 30 (v := .eptr 0 0 m0 1 (0 + Int.toNat (IntKind.wrap .i64 (y26 - 1))) 0) (ia_refO y25 .i64 (n := m0) (id := 0) (esz := 1) t25 t22 h35 (by omega) rfl (by kernel_rfl)) (by kernel_rfl) (dvd 31 (v := .pv (encSl R_api_Value x34)) (ld_eptrO (rSl R_api_Value) y25 (n := m0) (esz := 1) (j := (IntKind.wrap .i64 (y26 - 1))) (off := 0) (id := 0) t22 rfl h35 (by omega) (by omega) (by kernel_rfl) (by kernel_rfl)) (by kernel_rfl) ?_)
    obtain ⟨x36, h37, hm⟩ := bs hm
    refine dOd [(32, aI x36)] [bR 22 1 (rSl R_api_Value) y25 g28 0, .box [.pv (encSl R_api_Key a1)] false] (cpureR [1] [.pv (encSl R_api_Value x32), .pv (encSl R_api_Value x34), .ptr 1 0] (fl := true) (by kernel_rfl) (by kernel_rfl) (by kernel_rfl) (ok_row_Sort_1 h37) (by kernel_rfl) (by kernel_rfl)) (by kernel_rfl) (shd 2 [(34, aB (decide (x36 < 0))), (33, aB (decide (x36 < 0)))] (by kernel_rfl) (find [(0, aR 0 1 m0), (1, aI a2), (2, aI a3), (3, .fn 47 [] [.ptr 1 0]), (8, aI y7), (9, aI y26), (34, aB (decide (x36 < 0)))] rfl (by kernel_rfl) (by kernel_rfl) ?_))
    rcases bif_some hm with ⟨h38, hm⟩ | ⟨h38, hm⟩
    ·
     refine ct h38 (by kernel_rfl) (wp_skip (sq (bq (rgd (shd 8 [(44, aI (IntKind.wrap .i64 (y26 - 1))), (43, aI y26), (42, aR 0 1 m0), (41, aI (IntKind.wrap .i64 (y26 - 1))), (40, aI y26), (39, aR 0 1 m0), (38, aI y26), (37, aR 0 1 m0)] (by kernel_rfl) (dvd 45 (v := .eptr 0 0 m0 1 (0 + Int.toNat (IntKind.wrap .i64 (y26 - 1))) 0) (ia_refO y25 .i64 (n := m0) (id := 0) (esz := 1) t25 t22 h35 (by omega) rfl (by kernel_rfl)) (by kernel_rfl) (dvd 46 (v := .pv (encSl R_api_Value x34)) (ld_eptrO (rSl R_api_Value) y25 (n := m0) (esz := 1) (j := (IntKind.wrap .i64 (y26 - 1))) (off := 0) (id := 0) t22 rfl h35 (by omega) (by omega) (by kernel_rfl) (by kernel_rfl)) (by kernel_rfl) (shd 2 [(48, aI y26), (47, aR 0 1 m0)] (by kernel_rfl) (dvd 49 (v := .eptr 0 0 m0 1 (0 + Int.toNat y26) 0) (ia_refO y25 .i64 (n := m0) (id := 0) (esz := 1) t25 t22 h33 (by omega) rfl (by kernel_rfl)) (by kernel_rfl) (dvd 50 (v := .pv (encSl R_api_Value x32)) (ld_eptrO (rSl R_api_Value) y25 (n := m0) (esz := 1) (j := y26) (off := 0) (id := 0) t22 rfl h33 (by omega) (by omega) (by kernel_rfl) (by kernel_rfl)) (by kernel_rfl) (dvd 51 (v := .eptr 0 0 m0 1 (0 + Int.toNat y26) 0) (ia_refO y25 .i64 (n := m0) (id := 0) (esz := 1) t25 t22 h33 (by omega) rfl (by kernel_rfl)) (by kernel_rfl) (dOd [] [bR 22 1 (rSl R_api_Value) (y25.set (Int.toNat y26) x34) m0 0, .box [.pv (encSl R_api_Key a1)] false] (st_eptrO (rSl R_api_Value) y25 x34 (n := m0) (esz := 1) (v := .pv (encSl R_api_Value x34)) (j := y26) (off := 0) (id := 0) t22 rfl h33 (by omega) (by omega) rfl rfl rfl rfl (by kernel_rfl)) (by kernel_rfl) ?_))))))))))))
     obtain ⟨x39, h40, hm⟩ := bs hm
     refine dvd 52 (v := .eptr 0 0 m0 1 (0 + Int.toNat (IntKind.wrap .i64 (y26 - 1))) 0) (ia_refO (y25.set (Int.toNat y26) x34) .i64 (n := m0) (id := 0) (esz := 1) t25 t22 h40 (by first | rfl | assumption | omega | (simp only [List.length_set, List.length_append, List.length_cons, List.length_nil, List.length_replicate, List.length_drop] at * <;> omega)) rfl (by kernel_rfl)) (by kernel_rfl) (dOd [] [bR 22 1 (rSl R_api_Value) ((y25.set (Int.toNat y26) x34).set (Int.toNat (IntKind.wrap .i64 (y26 - 1))) x32) m0 0, .box [.pv (encSl R_api_Key a1)] false] (st_eptrO (rSl R_api_Value) (y25.set (Int.toNat y26) x34) x32 (n := m0) (esz := 1) (v := .pv (encSl R_api_Value x32)) (j := (IntKind.wrap .i64 (y26 - 1))) (off := 0) (id := 0) t22 rfl h40 (by first | rfl | assumption | omega | (simp only [List.length_set, List.length_append, List.length_cons, List.length_nil, List.length_replicate, List.length_drop] at * <;> omega)) (by first | exact Nat.zero_le _ | exact Nat.le_refl _ | assumption | omega | (simp only [List.length_set, List.length_append, List.length_cons, List.length_nil, List.length_replicate, List.length_drop] at * <;> omega)) rfl rfl rfl rfl (by kernel_rfl)) (by kernel_rfl) (find [(0, aR 0 1 m0), (1, aI a2), (2, aI a3), (3, .fn 47 [] [.ptr 1 0]), (8, aI y7), (9, aI y26)] rfl (by kernel_rfl) (by kernel_rfl) (detn [(0, aR 0 1 m0), (1, aI a2), (2, aI a3), (3, .fn 47 [] [.ptr 1 0]), (8, aI y7), (9, aI (IntKind.wrap .i64 (y26 - 1)))] (by kernel_rfl) ?_)))
     exact ⟨_, _, tidyL [(0, aR 0 1 m0), (1, aI a2), (2, aI a3), (3, .fn 47 [] [.ptr 1 0]), (8, aI y7), (9, aI (IntKind.wrap .i64 (y26 - 1)))] [bR 22 1 (rSl R_api_Value) ((y25.set (Int.toNat y26) x34).set (Int.toNat (IntKind.wrap .i64 (y26 - 1))) x32) m0 0, .box [.pv (encSl R_api_Key a1)] false] (by kernel_rfl), ⟨((y25.set (Int.toNat y26) x34).set (Int.toNat (IntKind.wrap .i64 (y26 - 1))) x32), (IntKind.wrap .i64 (y26 - 1)), m0, hm, rfl, rfl, (by first | rfl | assumption | omega | (simp only [List.length_set, List.length_append, List.length_cons, List.length_nil, List.length_replicate, List.length_drop] at * <;> omega)), (by first | exact Nat.zero_le _ | exact Nat.le_refl _ | assumption | omega | (simp only [List.length_set, List.length_append, List.length_cons, List.length_nil, List.length_replicate, List.length_drop] at * <;> omega))⟩⟩
    ·
     refine cf h38 (by kernel_rfl) (wp_exit ?_)
     exact ⟨y25, (decide (x36 < 0)), y26, g28, hm, rfl, rfl, (by first | rfl | assumption | omega | (simp only [List.length_set, List.length_append, List.length_cons, List.length_nil, List.length_replicate, List.length_drop] at * <;> omega)), (by first | exact Nat.zero_le _ | exact Nat.le_refl _ | assumption | omega | (simp only [List.length_set, List.length_append, List.length_cons, List.length_nil, List.length_replicate, List.length_drop] at * <;> omega))⟩
   ·
    refine knownd [21, 20] h31 (by kernel_rfl) (shd 13 [(34, aB false), (33, .undef), (32, .undef), (31, .undef), (30, .undef), (29, .undef), (28, .undef), (27, .undef), (26, .undef), (25, .undef), (24, .undef), (23, .undef), (22, .undef)] (by kernel_rfl) (find [(0, aR 0 1 m0), (1, aI a2), (2, aI a3), (3, .fn 47 [] [.ptr 1 0]), (8, aI y7), (9, aI y26), (34, aB false)] rfl (by kernel_rfl) (by kernel_rfl) (cF (by kernel_rfl) (wp_exit ?_))))
    exact ⟨y25, false, y26, g28, hm, rfl, rfl, (by first | rfl | assumption | omega | (simp only [List.length_set, List.length_append, List.length_cons, List.length_nil, List.length_replicate, List.length_drop] at * <;> omega)), (by first | exact Nat.zero_le _ | exact Nat.le_refl _ | assumption | omega | (simp only [List.length_set, List.length_append, List.length_cons, List.length_nil, List.length_replicate, List.length_drop] at * <;> omega))⟩
  ·
   refine cf h12 (by kernel_rfl) (wp_exit ?_)
   obtain rfl := Option.some.inj hm
   exact ⟨trivial, .tup [], [bR 22 1 (rSl R_api_Value) y6 g9 0, .box [.pv (encSl R_api_Key a1)] false], by kernel_rfl, g9, (by first | rfl | assumption | omega | (simp only [List.length_set, List.length_append, List.length_cons, List.length_nil, List.length_replicate, List.length_drop] at * <;> omega)), (by first | exact Nat.zero_le _ | exact Nat.le_refl _ | assumption | omega | (simp only [List.length_set, List.length_append, List.length_cons, List.length_nil, List.length_replicate, List.length_drop] at * <;> omega)), rfl, rfl⟩
theorem ok_slices_swapRangeCmpFunc_Value_row_Sort_1_r (m0 : Nat) (f0 : Nat) {n : Nat} {a0 : (List (Option (List api_Value)))} {a1 : (Option (List api_Key))} {a2 : Int} {a3 : Int} {a4 : Int} {r : (List (Option (List api_Value)))} (hm0 : a0.length = m0) (hf0 : f0 ≤ a0.length) (hm : slices_swapRangeCmpFunc_Value_row_Sort_1_r n a0 a1 a2 a3 a4 = some r) :
    ∃ vv H1, call G n 109 [aR 0 1 m0, aI a2, aI a3, aI a4, .fn 47 [] [.ptr 1 0]] [bR 22 1 (rSl R_api_Value) a0 f0 0, .box [.pv (encSl R_api_Key a1)] false] = some (.ret vv, H1) ∧ (match r with | r0 => (∃ (e1 : Nat), r0.length = m0 ∧ e1 ≤ r0.length ∧ vv = .tup [] ∧ H1 = [bR 22 1 (rSl R_api_Value) r0 e1 0, .box [.pv (encSl R_api_Key a1)] false])) := by
  unfold slices_swapRangeCmpFunc_Value_row_Sort_1_r at hm
  obtain ⟨n, rfl, h0⟩ := at1_some hm
  replace hm := h0; clear h0
  refine callE 38 [(0, aR 0 1 m0), (1, aI a2), (2, aI a3), (3, aI a4), (4, .fn 47 [] [.ptr 1 0])] func109 rfl (by kernel_rfl) (sq (detn [(0, aR 0 1 m0), (1, aI a2), (2, aI a3), (3, aI a4), (10, aI 0)] (by kernel_rfl) (bq ?_)))
  refine loopF (fun mm t H => (∃ (y6 : (List (Option (List api_Value)))) (y7 : Int) (g9 : Nat), slices_swapRangeCmpFunc_Value_row_Sort_1_r_l1 n a2 a3 a4 mm y6 y7 = some r ∧ t = mk 38 [(0, aR 0 1 m0), (1, aI a2), (2, aI a3), (3, aI a4), (10, aI y7)] ∧ H = [bR 22 1 (rSl R_api_Value) y6 g9 0, .box [.pv (encSl R_api_Key a1)] false] ∧ y6.length = m0 ∧ g9 ≤ y6.length)) (⟨a0, 0, f0, hm, rfl, rfl, (by first | rfl | assumption | omega | (simp only [List.length_set, List.length_append, List.length_cons, List.length_nil, List.length_replicate, List.length_drop] at * <;> omega)), (by first | exact Nat.zero_le _ | exact Nat.le_refl _ | assumption | omega | (simp only [List.length_set, List.length_append, List.length_cons, List.length_nil, List.length_replicate, List.length_drop] at * <;> omega))⟩) ?_ ?_
  · rintro _ _ ⟨y6, y7, g9, hm, _⟩; exact nomatch hm
  rintro m11 _ _ ⟨y6, y7, g9, hm, rfl, rfl, q8, q10⟩
  simp only [slices_swapRangeCmpFunc_Value_row_Sort_1_r_l1] at hm
  refine sq (sq (detn [(0, aR 0 1 m0), (1, aI a2), (2, aI a3), (3, aI a4), (10, aI y7), (13, aB (decide (y7 < a4)))] (by kernel_rfl) ?_))
  rcases bif_some hm with ⟨h12, hm⟩ | ⟨h12, hm⟩
  ·
   refine ct h12 (by kernel_rfl) (wp_skip (sq (bq (rgd (shd 12 [(27, aI (IntKind.wrap .i64 (a3 + y7))), (26, aI y7), (25, aI a3), (24, aR 0 1 m0), (23, aI (IntKind.wrap .i64 (a3 + y7))), (22, aI y7), (21, aI a3), (20, aR 0 1 m0), (19, aI (IntKind.wrap .i64 (a2 + y7))), (18, aI y7), (17, aI a2), (16, aR 0 1 m0)] (by kernel_rfl) ?_)))))
   obtain ⟨x13, h14, hm⟩ := bs hm
   refine dvd 28 (v := .eptr 0 0 m0 1 (0 + Int.toNat (IntKind.wrap .i64 (a3 + y7))) 0) (ia_refO y6 .i64 (n := m0) (id := 0) (esz := 1) t25 t22 h14 (by omega) rfl (by kernel_rfl)) (by kernel_rfl) (dvd 29 (v := .pv (encSl R_api_Value x13)) (ld_eptrO (rSl R_api_Value) y6 (n := m0) (esz := 1) (j := (IntKind.wrap .i64 (a3 + y7))) (off := 0) (id := 0) t22 rfl h14 (by omega) (by omega) (by kernel_rfl) (by kernel_rfl)) (by kernel_rfl) (shd 4 [(33, aI (IntKind.wrap .i64 (a2 + y7))), (32, aI y7), (31, aI a2), (30, aR 0 1 m0)] (by kernel_rfl) ?_))
   obtain ⟨x15, h16, hm⟩ := bs hm
   refine dvd 34 (v := .eptr 0 0 m0 1 (0 + Int.toNat (IntKind.wrap .i64 (a2 + y7))) 0) (ia_refO y6 .i64 (n := m0) (id := 0) (esz := 1) t25 t22 h16 (by omega) rfl (by kernel_rfl)) (by kernel_rfl) (dvd 35 (v := .pv (encSl R_api_Value x15)) (ld_eptrO (rSl R_api_Value) y6 (n := m0) (esz := 1) (j := (IntKind.wrap .i64 (a2 + y7))) (off := 0) (id := 0) t22 rfl h16 (by omega) (by omega) (by kernel_rfl) (by kernel_rfl)) (by kernel_rfl) (dvd 36 (v := .eptr 0 0 m0 1 (0 + Int.toNat (IntKind.wrap .i64 (a2 + y7))) 0) (ia_refO y6 .i64 (n := m0) (id := 0) (esz := 1) t25 t22 h16 (by omega) rfl (by kernel_rfl)) (by kernel_rfl) (dOd [] [bR 22 1 (rSl R_api_Value) (y6.set (Int.toNat (IntKind.wrap .i64 (a2 + y7))) x13) m0 0, .box [.pv (encSl R_api_Key a1)] false] (st_eptrO (rSl R_api_Value) y6 x13 (n := m0) (esz := 1) (v := .pv (encSl R_api_Value x13)) (j := (IntKind.wrap .i64 (a2 + y7))) (off := 0) (id := 0) t22 rfl h16 (by omega) (by omega) rfl rfl rfl rfl (by kernel_rfl)) (by kernel_rfl) ?_)))
   obtain ⟨x17, h18, hm⟩ := bs hm
   refine dvd 37 (v := .eptr 0 0 m0 1 (0 + Int.toNat (IntKind.wrap .i64 (a3 + y7))) 0) (ia_refO (y6.set (Int.toNat (IntKind.wrap .i64 (a2 + y7))) x13) .i64 (n := m0) (id := 0) (esz := 1) t25 t22 h18 (by first | rfl | assumption | omega | (simp only [List.length_set, List.length_append, List.length_cons, List.length_nil, List.length_replicate, List.length_drop] at * <;> omega)) rfl (by kernel_rfl)) (by kernel_rfl) (dOd [] [bR 22 1 (rSl R_api_Value) ((y6.set (Int.toNat (IntKind.wrap .i64 (a2 + y7))) x13).set (Int.toNat (IntKind.wrap .i64 (a3 + y7))) x15) m0 0, .box [.pv (encSl R_api_Key a1)] false] (st_eptrO (rSl R_api_Value) (y6.set (Int.toNat (IntKind.wrap .i64 (a2 + y7))) x13) x15 (n := m0) (esz := 1) (v := .pv (encSl R_api_Value x15)) (j := (IntKind.wrap .i64 (a3 + y7))) (off := 0) (id := 0) t22 rfl h18 (by first | rfl | assumption | omega | (simp only [List.length_set, List.length_append, List.length_cons, List.length_nil, List.length_replicate, List.length_drop] at * <;> omega)) (by first | exact Nat.zero_le _ | exact Nat.le_refl _ | assumption | omega | (simp only [List.length_set, List.length_append, List.length_cons, List.length_nil, List.length_replicate, List.length_drop] at * <;> omega)) rfl rfl rfl rfl (by kernel_rfl)) (by kernel_rfl) (find [(0, aR 0 1 m0), (1, aI a2), (2, aI a3), (3, aI a4), (10, aI y7)] rfl (by kernel_rfl) (by kernel_rfl) (detn [(0, aR 0 1 m0), (1, aI a2), (2, aI a3), (3, aI a4), (10, aI (IntKind.wrap .i64 (y7 + 1)))] (by kernel_rfl) ?_)))
   exact ⟨_, _, tidyL [(0, aR 0 1 m0), (1, aI a2), (2, aI a3), (3, aI a4), (10, aI (IntKind.wrap .i64 (y7 + 1)))] [bR 22 1 (rSl R_api_Value) ((y6.set (Int.toNat (IntKind.wrap .i64 (a2 + y7))) x13).set (Int.toNat (IntKind.wrap .i64 (a3 + y7))) x15) m0 0, .box [.pv (encSl R_api_Key a1)] false] (by kernel_rfl), ⟨((y6.set (Int.toNat (IntKind.wrap .i64 (a2 + y7))) x13).set (Int.toNat (IntKind.wrap .i64 (a3 + y7))) x15), (IntKind.wrap .i64 (y7 + 1)), m0, hm, rfl, rfl, (by first | rfl | assumption | omega | (simp only [List.length_set, List.length_append, List.length_cons, List.length_nil, List.length_replicate, List.length_drop] at * <;> omega)), (by first | exact Nat.zero_le _ | exact Nat.le_refl _ | assumption | omega | (simp only [List.length_set, List.length_append, List.length_cons, List.length_nil, List.length_replicate, List.length_drop] at * <;> omega))⟩⟩
  ·
   refine cf h12 (by kernel_rfl) (wp_exit ?_)
   obtain rfl := Option.some.inj hm
   exact ⟨trivial, .tup [], [bR 22 1 (rSl R_api_Value) y6 g9 0, .box [.pv (encSl R_api_Key a1)] false], by kernel_rfl, g9, (by first | rfl | assumption | omega | (simp only [List.length_set, List.length_append, List.length_cons, List.length_nil, List.length_replicate, List.length_drop] at * <;> omega)), (by first | exact Nat.zero_le _ | exact Nat.le_refl _ | assumption | omega | (simp only [List.length_set, List.length_append, List.length_cons, List.length_nil, List.length_replicate, List.length_drop] at * <;> omega)), rfl, rfl⟩
theorem ok_slices_rotateCmpFunc_Value_row_Sort_1_r (m0 : Nat) (f0 : Nat) {n : Nat} {a0 : (List (Option (List api_Value)))} {a1 : (Option (List api_Key))} {a2 : Int} {a3 : Int} {a4 : Int} {r : (List (Option (List api_Value)))} (hm0 : a0.length = m0) (hf0 : f0 ≤ a0.length) (hm : slices_rotateCmpFunc_Value_row_Sort_1_r n a0 a1 a2 a3 a4 = some r) :
    ∃ vv H1, call G n 103 [aR 0 1 m0, aI a2, aI a3, aI a4, .fn 47 [] [.ptr 1 0]] [bR 22 1 (rSl R_api_Value) a0 f0 0, .box [.pv (encSl R_api_Key a1)] false] = some (.ret vv, H1) ∧ (match r with | r0 => (∃ (e1 : Nat), r0.length = m0 ∧ e1 ≤ r0.length ∧ vv = .tup [] ∧ H1 = [bR 22 1 (rSl R_api_Value) r0 e1 0, .box [.pv (encSl R_api_Key a1)] false])) := by
  unfold slices_rotateCmpFunc_Value_row_Sort_1_r at hm
  obtain ⟨n, rfl, h0⟩ := at1_some hm
  replace hm := h0; clear h0
  refine callE 58 [(0, aR 0 1 m0), (1, aI a2), (2, aI a3), (3, aI a4), (4, .fn 47 [] [.ptr 1 0])] func103 rfl (by kernel_rfl) (sq (detn [(0, aR 0 1 m0), (2, aI a3), (3, aI a4), (4, .fn 47 [] [.ptr 1 0]), (10, aI (IntKind.wrap .i64 (a3 - a2)))] (by kernel_rfl) (sq (detn [(0, aR 0 1 m0), (2, aI a3), (4, .fn 47 [] [.ptr 1 0]), (10, aI (IntKind.wrap .i64 (a3 - a2))), (11, aI (IntKind.wrap .i64 (a4 - a3)))] (by kernel_rfl) ?_))))
  obtain ⟨k8, hk8, hm⟩ := withK_some hm
  refine mid (fun t H => (∃ (y1 : (List (Option (List api_Value)))) (y2 : Int) (y3 : Int) (y4 : Bool) (g6 : Nat), k8 y1 y2 = some r ∧ t = mk 58 [(0, aR 0 1 m0), (2, aI a3), (4, .fn 47 [] [.ptr 1 0]), (10, aI y2), (11, aI y3), (20, aB y4)] ∧ H = [bR 22 1 (rSl R_api_Value) y1 g6 0, .box [.pv (encSl R_api_Key a1)] false] ∧ y1.length = m0 ∧ g6 ≤ y1.length)) ?_ ?_
  ·
   rintro _ _ ⟨y1, y2, y3, y4, g6, hm, rfl, rfl, q5, q7⟩
   subst hk8
   refine rg (sh 7 [(56, .fn 47 [] [.ptr 1 0]), (55, aI y2), (54, aI a3), (53, aI (IntKind.wrap .i64 (a3 - y2))), (52, aI y2), (51, aI a3), (50, aR 0 1 m0)] (by kernel_rfl) ?_)
   obtain ⟨x10, h9, hm⟩ := bs hm
   obtain ⟨vv, H1, hC, g11, q12, q13, rfl, rfl⟩ := ok_slices_swapRangeCmpFunc_Value_row_Sort_1_r m0 g6 (by first | rfl | assumption | omega | (simp only [List.length_set, List.length_append, List.length_cons, List.length_nil, List.length_replicate, List.length_drop] at * <;> omega)) (by first | exact Nat.zero_le _ | exact Nat.le_refl _ | assumption | omega | (simp only [List.length_set, List.length_append, List.length_cons, List.length_nil, List.length_replicate, List.length_drop] at * <;> omega)) h9
   refine dR [(57, .tup [])] [bR 22 1 (rSl R_api_Value) x10 g11 0, .box [.pv (encSl R_api_Key a1)] false] [0, 1] [aR 0 1 m0, aI (IntKind.wrap .i64 (a3 - y2)), aI a3, aI y2, .fn 47 [] [.ptr 1 0]] (by kernel_rfl) (by kernel_rfl) (by kernel_rfl) hC (by kernel_rfl) (fin [] rfl (by kernel_rfl) ?_)
   obtain rfl := Option.some.inj hm
   exact ⟨trivial, .tup [], [bR 22 1 (rSl R_api_Value) x10 g11 0, .box [.pv (encSl R_api_Key a1)] false], by kernel_rfl, g11, (by first | rfl | assumption | omega | (simp only [List.length_set, List.length_append, List.length_cons, List.length_nil, List.length_replicate, List.length_drop] at * <;> omega)), (by first | exact Nat.zero_le _ | exact Nat.le_refl _ | assumption | omega | (simp only [List.length_set, List.length_append, List.length_cons, List.length_nil, List.length_replicate, List.length_drop] at * <;> omega)), rfl, rfl⟩
  refine bq ?_
  refine loopF (fun mm t H => (∃ (y20 : (List (Option (List api_Value)))) (y21 : Int) (y22 : Int) (g24 : Nat), slices_rotateCmpFunc_Value_row_Sort_1_r_l2 n a1 a3 k8 mm y20 y21 y22 = some r ∧ t = mk 58 [(0, aR 0 1 m0), (2, aI a3), (4, .fn 47 [] [.ptr 1 0]), (10, aI y21), (11, aI y22)] ∧ H = [bR 22 1 (rSl R_api_Value) y20 g24 0, .box [.pv (encSl R_api_Key a1)] false] ∧ y20.length = m0 ∧ g24 ≤ y20.length)) (⟨a0, (IntKind.wrap .i64 (a3 - a2)), (IntKind.wrap .i64 (a4 - a3)), f0, hm, rfl, rfl, (by first | rfl | assumption | omega | (simp only [List.length_set, List.length_append, List.length_cons, List.length_nil, List.length_replicate, List.length_drop] at * <;> omega)), (by first | exact Nat.zero_le _ | exact Nat.le_refl _ | assumption | omega | (simp only [List.length_set, List.length_append, List.length_cons, List.length_nil, List.length_replicate, List.length_drop] at * <;> omega))⟩) ?_ ?_
  · rintro _ _ ⟨y20, y21, y22, g24, hm, _⟩; exact nomatch hm
  rintro m26 _ _ ⟨y20, y21, y22, g24, hm, rfl, rfl, q23, q25⟩
  simp only [slices_rotateCmpFunc_Value_row_Sort_1_r_l2] at hm
  refine sq (sq (detn [(0, aR 0 1 m0), (2, aI a3), (4, .fn 47 [] [.ptr 1 0]), (10, aI y21), (11, aI y22), (20, aB (y21 != y22))] (by kernel_rfl) ?_))
  rcases bif_some hm with ⟨h27, hm⟩ | ⟨h27, hm⟩
  ·
   refine ct h27 (by kernel_rfl) (wp_skip (bq (sq (detn [(0, aR 0 1 m0), (2, aI a3), (4, .fn 47 [] [.ptr 1 0]), (10, aI y21), (11, aI y22), (23, aB (decide (y21 > y22)))] (by kernel_rfl) ?_))))
   rcases bif_some hm with ⟨h28, hm⟩ | ⟨h28, hm⟩
   ·
    refine ct h28 (by kernel_rfl) (sq (rg (sh 7 [(30, .fn 47 [] [.ptr 1 0]), (29, aI y22), (28, aI a3), (27, aI (IntKind.wrap .i64 (a3 - y21))), (26, aI y21), (25, aI a3), (24, aR 0 1 m0)] (by kernel_rfl) ?_)))
    obtain ⟨x30, h29, hm⟩ := bs hm
    obtain ⟨vv, H1, hC, g31, q32, q33, rfl, rfl⟩ := ok_slices_swapRangeCmpFunc_Value_row_Sort_1_r m0 g24 (by first | rfl | assumption | omega | (simp only [List.length_set, List.length_append, List.length_cons, List.length_nil, List.length_replicate, List.length_drop] at * <;> omega)) (by first | exact Nat.zero_le _ | exact Nat.le_refl _ | assumption | omega | (simp only [List.length_set, List.length_append, List.length_cons, List.length_nil, List.length_replicate, List.length_drop] at * <;> omega)) h29
    refine dR [(31, .tup [])] [bR 22 1 (rSl R_api_Value) x30 g31 0, .box [.pv (encSl R_api_Key a1)] false] [0, 1] [aR 0 1 m0, aI (IntKind.wrap .i64 (a3 - y21)), aI a3, aI y22, .fn 47 [] [.ptr 1 0]] (by kernel_rfl) (by kernel_rfl) (by kernel_rfl) hC (by kernel_rfl) (fin [(0, aR 0 1 m0), (2, aI a3), (4, .fn 47 [] [.ptr 1 0]), (10, aI y21), (11, aI y22)] rfl (by kernel_rfl) (detn [(0, aR 0 1 m0), (2, aI a3), (4, .fn 47 [] [.ptr 1 0]), (10, aI (IntKind.wrap .i64 (y21 - y22))), (11, aI y22)] (by kernel_rfl) ?_))
    exact ⟨_, _, tidyL [(0, aR 0 1 m0), (2, aI a3), (4, .fn 47 [] [.ptr 1 0]), (10, aI (IntKind.wrap .i64 (y21 - y22))), (11, aI y22)] [bR 22 1 (rSl R_api_Value) x30 g31 0, .box [.pv (encSl R_api_Key a1)] false] (by kernel_rfl), ⟨x30, (IntKind.wrap .i64 (y21 - y22)), y22, g31, hm, rfl, rfl, (by first | rfl | assumption | omega | (simp only [List.length_set, List.length_append, List.length_cons, List.length_nil, List.length_replicate, List.length_drop] at * <;> omega)), (by first | exact Nat.zero_le _ | exact Nat.le_refl _ | assumption | omega | (simp only [List.length_set, List.length_append, List.length_cons, List.length_nil, List.length_replicate, List.length_drop] at * <;> omega))⟩⟩
   ·
    refine cf h28 (by kernel_rfl) (sq (rg (sh 11 [(45, .fn 47 [] [.ptr 1 0]), (44, aI y21), (43, aI (IntKind.wrap .i64 ((IntKind.wrap .i64 (a3 + y22)) - y21))), (42, aI y21), (41, aI (IntKind.wrap .i64 (a3 + y22))), (40, aI y22), (39, aI a3), (38, aI (IntKind.wrap .i64 (a3 - y21))), (37, aI y21), (36, aI a3), (35, aR 0 1 m0)] (by kernel_rfl) ?_)))
    obtain ⟨x35, h34, hm⟩ := bs hm
    obtain ⟨vv, H1, hC, g36, q37, q38, rfl, rfl⟩ := ok_slices_swapRangeCmpFunc_Value_row_Sort_1_r m0 g24 (by first | rfl | assumption | omega | (simp only [List.length_set, List.length_append, List.length_cons, List.length_nil, List.length_replicate, List.length_drop] at * <;> omega)) (by first | exact Nat.zero_le _ | exact Nat.le_refl _ | assumption | omega | (simp only [List.length_set, List.length_append, List.length_cons, List.length_nil, List.length_replicate, List.length_drop] at * <;> omega)) h34
    refine dR [(46, .tup [])] [bR 22 1 (rSl R_api_Value) x35 g36 0, .box [.pv (encSl R_api_Key a1)] false] [0, 1] [aR 0 1 m0, aI (IntKind.wrap .i64 (a3 - y21)), aI (IntKind.wrap .i64 ((IntKind.wrap .i64 (a3 + y22)) - y21)), aI y21, .fn 47 [] [.ptr 1 0]] (by kernel_rfl) (by kernel_rfl) (by kernel_rfl) hC (by kernel_rfl) (fin [(0, aR 0 1 m0), (2, aI a3), (4, .fn 47 [] [.ptr 1 0]), (10, aI y21), (11, aI y22)] rfl (by kernel_rfl) (detn [(0, aR 0 1 m0), (2, aI a3), (4, .fn 47 [] [.ptr 1 0]), (10, aI y21), (11, aI (IntKind.wrap .i64 (y22 - y21)))] (by kernel_rfl) ?_))
    exact ⟨_, _, tidyL [(0, aR 0 1 m0), (2, aI a3), (4, .fn 47 [] [.ptr 1 0]), (10, aI y21), (11, aI (IntKind.wrap .i64 (y22 - y21)))] [bR 22 1 (rSl R_api_Value) x35 g36 0, .box [.pv (encSl R_api_Key a1)] false] (by kernel_rfl), ⟨x35, y21, (IntKind.wrap .i64 (y22 - y21)), g36, hm, rfl, rfl, (by first | rfl | assumption | omega | (simp only [List.length_set, List.length_append, List.length_cons, List.length_nil, List.length_replicate, List.length_drop] at * <;> omega)), (by first | exact Nat.zero_le _ | exact Nat.le_refl _ | assumption | omega | (simp only [List.length_set, List.length_append, List.length_cons, List.length_nil, List.length_replicate, List.length_drop] at * <;> omega))⟩⟩
  ·
   refine cf h27 (by kernel_rfl) (wp_exit ?_)
   exact ⟨y20, y21, y22, (y21 != y22), g24, hm, rfl, rfl, (by first | rfl | assumption | omega | (simp only [List.length_set, List.length_append, List.length_cons, List.length_nil, List.length_replicate, List.length_drop] at * <;> omega)), (by first | exact Nat.zero_le _ | exact Nat.le_refl _ | assumption | omega | (simp only [List.length_set, List.length_append, List.length_cons, List.length_nil, List.length_replicate, List.length_drop] at * <;> omega))⟩
end Go.Ab.S1
