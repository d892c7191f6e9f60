import Derived.Test.YtknmgphnkfeifaaS1
import Derived.Test.YtknmgphnkfeifaaPA
namespace Go.Ab.S1
open Go Go.Ab Go.Pl
open Go.Proofs.Try
set_option linter.unusedVariables false
set_option linter.unusedSimpArgs false
set_option maxRecDepth 100000
theorem ok_codec_Reader_ready_nil {n : Nat}  {r : Unit} (hm : codec_Reader_ready_nil n = some r) :
    ∃ vv H1, call G n 52 [.pv .nilp] [] = some (.ret vv, H1) ∧ (vv = aB false ∧ H1 = []) := by
  unfold codec_Reader_ready_nil at hm
  obtain ⟨n, rfl, h0⟩ := at1_some hm
  replace hm := h0; clear h0
  refine callE 18 [(0, .pv .nilp)] func52 rfl (by kernel_rfl) (sq (detn [(0, .pv .nilp)] (by kernel_rfl) (sq (detn [(2, aB false)] (by kernel_rfl) (wp_ret ?_)))))
  obtain rfl := Option.some.inj hm
  exact ⟨trivial, aB false, [], by kernel_rfl, rfl, rfl⟩
theorem ok_codec_Reader_Uint_nil {n : Nat} {a0 : Int} {r : Unit} (hm : codec_Reader_Uint_nil n a0 = some r) :
    ∃ vv H1, call G n 33 [.pv .nilp, aU a0] [] = some (.ret vv, H1) ∧ (vv = aU 0 ∧ H1 = []) := by
  unfold codec_Reader_Uint_nil at hm
  obtain ⟨n, rfl, h0⟩ := at1_some hm
  replace hm := h0; clear h0
  refine callE 24 [(0, .pv .nilp), (1, aU a0)] func33 rfl (by kernel_rfl) (sq (detn [(0, .pv .nilp), (1, aU a0)] (by kernel_rfl) (sq (sq (rg (sh 1 [(7, .pv .nilp)] (by kernel_rfl) ?_))))))
  obtain ⟨_, h1, hm⟩ := bs hm
  obtain ⟨vv, H1, hC, rfl, rfl⟩ := ok_codec_Reader_ready_nil h1
  refine dR [(8, aB false)] [] [] [.pv .nilp] (by kernel_rfl) (by kernel_rfl) (by kernel_rfl) hC (by kernel_rfl) (sh 1 [(9, aB true)] (by kernel_rfl) (fin [(0, .pv .nilp), (1, aU a0), (9, aB true)] rfl (by kernel_rfl) (cT (by kernel_rfl) (sq (detn [(4, aU 0)] (by kernel_rfl) (wp_ret ?_))))))
  obtain rfl := Option.some.inj hm
  exact ⟨trivial, aU 0, [], by kernel_rfl, rfl, rfl⟩
theorem ok_codec_Reader_Int_nil {n : Nat}  {r : Int} (hm : codec_Reader_Int_nil n = some r) :
    ∃ vv H1, call G n 39 [.pv .nilp] [] = some (.ret vv, H1) ∧ (match r with | r0 => (vv = aI r0 ∧ H1 = [])) := by
  unfold codec_Reader_Int_nil at hm
  obtain ⟨n, rfl, h0⟩ := at1_some hm
  replace hm := h0; clear h0
  refine callE 16 [(0, .pv .nilp)] func39 rfl (by kernel_rfl) (sq (detn [(0, .pv .nilp)] (by kernel_rfl) (sq (rg (sh 1 [(4, .pv .nilp)] (by kernel_rfl) ?_)))))
  obtain ⟨_, h1, hm⟩ := bs hm
  obtain ⟨vv, H1, hC, rfl, rfl⟩ := ok_codec_Reader_Uint_nil h1
  refine dR [(5, aU 0)] [] [] [.pv .nilp, aU 18446744073709551615] (by kernel_rfl) (by kernel_rfl) (by kernel_rfl) hC (by kernel_rfl) (sh 1 [(3, aU 0)] (by kernel_rfl) (fin [(3, aU 0)] rfl (by kernel_rfl) (sq (sq (detn [(3, aU 0), (8, aB ((iAnd .u64 0 1) == 1))] (by kernel_rfl) ?_)))))
  rcases bif_some hm with ⟨h2, hm⟩ | ⟨h2, hm⟩
  ·
   refine ct h2 (by kernel_rfl) (sq (detn [(2, aI (IntKind.wrap .i64 (notI .u64 (iShr .u64 0 1))))] (by kernel_rfl) (wp_ret ?_)))
   obtain rfl := Option.some.inj hm
   exact ⟨trivial, aI (IntKind.wrap .i64 (notI .u64 (iShr .u64 0 1))), [], by kernel_rfl, rfl, rfl⟩
  ·
   refine cf h2 (by kernel_rfl) (wp_skip (sq (detn [(2, aI (IntKind.wrap .i64 (iShr .u64 0 1)))] (by kernel_rfl) (wp_ret ?_))))
   obtain rfl := Option.some.inj hm
   exact ⟨trivial, aI (IntKind.wrap .i64 (iShr .u64 0 1)), [], by kernel_rfl, rfl, rfl⟩
theorem ok_codec_Reader_Text_nil {n : Nat} {a0 : Int} {r : Unit} (hm : codec_Reader_Text_nil n a0 = some r) :
    ∃ vv H1, call G n 37 [.pv .nilp, aI a0] [] = some (.ret vv, H1) ∧ (vv = aS ByteArray.empty ∧ H1 = []) := by
  unfold codec_Reader_Text_nil at hm
  obtain ⟨n, rfl, h0⟩ := at1_some hm
  replace hm := h0; clear h0
  refine callE 25 [(0, .pv .nilp), (1, aI a0)] func37 rfl (by kernel_rfl) (sq (detn [(0, .pv .nilp), (1, aI a0)] (by kernel_rfl) (sq (rg (sh 4 [(11, aU (IntKind.wrap .u64 (if 0 > a0 then 0 else a0))), (10, aI (if 0 > a0 then 0 else a0)), (9, aI a0), (8, .pv .nilp)] (by kernel_rfl) ?_)))))
  obtain ⟨_, h1, hm⟩ := bs hm
  obtain ⟨vv, H1, hC, rfl, rfl⟩ := ok_codec_Reader_Uint_nil h1
  refine dR [(12, aU 0)] [] [] [.pv .nilp, aU (IntKind.wrap .u64 (if 0 > a0 then 0 else a0))] (by kernel_rfl) (by kernel_rfl) (by kernel_rfl) hC (by kernel_rfl) (sh 1 [(5, aU 0)] (by kernel_rfl) (fin [(0, .pv .nilp), (5, aU 0)] rfl (by kernel_rfl) (sq (sq (rg (sh 1 [(13, .pv .nilp)] (by kernel_rfl) ?_))))))
  obtain ⟨_, h2, hm⟩ := bs hm
  obtain ⟨vv, H1, hC, rfl, rfl⟩ := ok_codec_Reader_ready_nil h2
  refine dR [(14, aB false)] [] [] [.pv .nilp] (by kernel_rfl) (by kernel_rfl) (by kernel_rfl) hC (by kernel_rfl) (sh 1 [(15, aB true)] (by kernel_rfl) (fin [(0, .pv .nilp), (5, aU 0), (15, aB true)] rfl (by kernel_rfl) (cT (by kernel_rfl) (sq (detn [(4, aS ByteArray.empty)] (by kernel_rfl) (wp_ret ?_))))))
  obtain rfl := Option.some.inj hm
  exact ⟨trivial, aS ByteArray.empty, [], by kernel_rfl, rfl, rfl⟩
theorem ok_codec_Reader_Fixed_nil {n : Nat} {a0 : Int} {r : Unit} (hm : codec_Reader_Fixed_nil n a0 = some r) :
    ∃ vv H1, call G n 41 [.pv .nilp, aI a0] [] = some (.ret vv, H1) ∧ (vv = aU 0 ∧ H1 = []) := by
  unfold codec_Reader_Fixed_nil at hm
  obtain ⟨n, rfl, h0⟩ := at1_some hm
  replace hm := h0; clear h0
  refine callE 34 [(0, .pv .nilp), (1, aI a0)] func41 rfl (by kernel_rfl) (sq (detn [(0, .pv .nilp), (1, aI a0)] (by kernel_rfl) (sq (sq (rg (sh 1 [(10, .pv .nilp)] (by kernel_rfl) ?_))))))
  obtain ⟨_, h1, hm⟩ := bs hm
  obtain ⟨vv, H1, hC, rfl, rfl⟩ := ok_codec_Reader_ready_nil h1
  refine dR [(11, aB false)] [] [] [.pv .nilp] (by kernel_rfl) (by kernel_rfl) (by kernel_rfl) hC (by kernel_rfl) (sh 1 [(12, aB true)] (by kernel_rfl) (fin [(0, .pv .nilp), (1, aI a0), (12, aB true)] rfl (by kernel_rfl) (cT (by kernel_rfl) (sq (detn [(4, aU 0)] (by kernel_rfl) (wp_ret ?_))))))
  obtain rfl := Option.some.inj hm
  exact ⟨trivial, aU 0, [], by kernel_rfl, rfl, rfl⟩
theorem ok_codec_Reader_Float_nil {n : Nat}  {r : Unit} (hm : codec_Reader_Float_nil n = some r) :
    ∃ vv H1, call G n 40 [.pv .nilp] [] = some (.ret vv, H1) ∧ (vv = aF 0 ∧ H1 = []) := by
  unfold codec_Reader_Float_nil at hm
  obtain ⟨n, rfl, h0⟩ := at1_some hm
  replace hm := h0; clear h0
  refine callE 19 [(0, .pv .nilp)] func40 rfl (by kernel_rfl) (sq (detn [(0, .pv .nilp)] (by kernel_rfl) (sq (rg (sh 1 [(5, .pv .nilp)] (by kernel_rfl) ?_)))))
  obtain ⟨_, h1, hm⟩ := bs hm
  obtain ⟨vv, H1, hC, rfl, rfl⟩ := ok_codec_Reader_Fixed_nil h1
  refine dR [(6, aU 0)] [] [] [.pv .nilp, aI 8] (by kernel_rfl) (by kernel_rfl) (by kernel_rfl) hC (by kernel_rfl) (sh 1 [(3, aU 0)] (by kernel_rfl) (fin [(0, .pv .nilp), (3, aU 0)] rfl (by kernel_rfl) (sq (sq (rg (sh 1 [(7, .pv .nilp)] (by kernel_rfl) ?_))))))
  obtain ⟨_, h2, hm⟩ := bs hm
  obtain ⟨vv, H1, hC, rfl, rfl⟩ := ok_codec_Reader_ready_nil h2
  refine dR [(8, aB false)] [] [] [.pv .nilp] (by kernel_rfl) (by kernel_rfl) (by kernel_rfl) hC (by kernel_rfl) (sh 1 [(9, aB true)] (by kernel_rfl) (fin [(0, .pv .nilp), (3, aU 0), (9, aB true)] rfl (by kernel_rfl) (cT (by kernel_rfl) (sq (detn [(2, aF 0)] (by kernel_rfl) (wp_ret ?_))))))
  obtain rfl := Option.some.inj hm
  exact ⟨trivial, aF 0, [], by kernel_rfl, rfl, rfl⟩
theorem ok_codec_Reader_Byte_nil {n : Nat}  {r : Unit} (hm : codec_Reader_Byte_nil n = some r) :
    ∃ vv H1, call G n 35 [.pv .nilp] [] = some (.ret vv, H1) ∧ (vv = aY 0 ∧ H1 = []) := by
  unfold codec_Reader_Byte_nil at hm
  obtain ⟨n, rfl, h0⟩ := at1_some hm
  replace hm := h0; clear h0
  refine callE 6 [(0, .pv .nilp)] func35 rfl (by kernel_rfl) (sq (detn [(0, .pv .nilp)] (by kernel_rfl) (sq (rg (sh 1 [(3, .pv .nilp)] (by kernel_rfl) ?_)))))
  obtain ⟨_, h1, hm⟩ := bs hm
  obtain ⟨vv, H1, hC, rfl, rfl⟩ := ok_codec_Reader_Fixed_nil h1
  refine dR [(4, aU 0)] [] [] [.pv .nilp, aI 1] (by kernel_rfl) (by kernel_rfl) (by kernel_rfl) hC (by kernel_rfl) (sh 2 [(2, aY 0), (5, aY 0)] (by kernel_rfl) (fin [(2, aY 0)] rfl (by kernel_rfl) (wp_ret ?_)))
  obtain rfl := Option.some.inj hm
  exact ⟨trivial, aY 0, [], by kernel_rfl, rfl, rfl⟩
theorem ok_codec_Reader_Left_nil {n : Nat}  {r : Unit} (hm : codec_Reader_Left_nil n = some r) :
    ∃ vv H1, call G n 36 [.pv .nilp] [] = some (.ret vv, H1) ∧ (vv = aI 0 ∧ H1 = []) := by
  unfold codec_Reader_Left_nil at hm
  obtain ⟨n, rfl, h0⟩ := at1_some hm
  replace hm := h0; clear h0
  refine callE 11 [(0, .pv .nilp)] func36 rfl (by kernel_rfl) (sq (detn [(0, .pv .nilp)] (by kernel_rfl) (sq (sq (rg (sh 1 [(3, .pv .nilp)] (by kernel_rfl) ?_))))))
  obtain ⟨_, h1, hm⟩ := bs hm
  obtain ⟨vv, H1, hC, rfl, rfl⟩ := ok_codec_Reader_ready_nil h1
  refine dR [(4, aB false)] [] [] [.pv .nilp] (by kernel_rfl) (by kernel_rfl) (by kernel_rfl) hC (by kernel_rfl) (sh 1 [(5, aB true)] (by kernel_rfl) (fin [(0, .pv .nilp), (5, aB true)] rfl (by kernel_rfl) (cT (by kernel_rfl) (sq (detn [(2, aI 0)] (by kernel_rfl) (wp_ret ?_))))))
  obtain rfl := Option.some.inj hm
  exact ⟨trivial, aI 0, [], by kernel_rfl, rfl, rfl⟩
theorem ok_codec_Reader_Err_nil {n : Nat}  {r : Unit} (hm : codec_Reader_Err_nil n = some r) :
    ∃ vv H1, call G n 34 [.pv .nilp] [] = some (.ret vv, H1) ∧ (vv = aI 1 ∧ H1 = []) := by
  unfold codec_Reader_Err_nil at hm
  obtain ⟨n, rfl, h0⟩ := at1_some hm
  replace hm := h0; clear h0
  refine callE 16 [(0, .pv .nilp)] func34 rfl (by kernel_rfl) (sq (detn [(0, .pv .nilp)] (by kernel_rfl) (sq (sq (detn [(0, .pv .nilp), (11, aB true)] (by kernel_rfl) (cT (by kernel_rfl) (sq (detn [(2, aI 1)] (by kernel_rfl) (wp_ret ?_)))))))))
  obtain rfl := Option.some.inj hm
  exact ⟨trivial, aI 1, [], by kernel_rfl, rfl, rfl⟩
theorem ok_codec_Reader_End_nil {n : Nat}  {r : Unit} (hm : codec_Reader_End_nil n = some r) :
    ∃ vv H1, call G n 38 [.pv .nilp] [] = some (.ret vv, H1) ∧ (vv = aI 1 ∧ H1 = []) := by
  unfold codec_Reader_End_nil at hm
  obtain ⟨n, rfl, h0⟩ := at1_some hm
  replace hm := h0; clear h0
  refine callE 15 [(0, .pv .nilp)] func38 rfl (by kernel_rfl) (sq (detn [(0, .pv .nilp)] (by kernel_rfl) (sq (sq (rg (sh 1 [(4, .pv .nilp)] (by kernel_rfl) ?_))))))
  obtain ⟨_, h1, hm⟩ := bs hm
  obtain ⟨vv, H1, hC, rfl, rfl⟩ := ok_codec_Reader_Err_nil h1
  refine dR [(5, aI 1)] [] [] [.pv .nilp] (by kernel_rfl) (by kernel_rfl) (by kernel_rfl) hC (by kernel_rfl) (sh 1 [(3, aI 1)] (by kernel_rfl) (fin [(0, .pv .nilp), (3, aI 1)] rfl (by kernel_rfl) (sq (detn [(0, .pv .nilp), (3, aI 1), (7, aB true)] (by kernel_rfl) (cT (by kernel_rfl) (sq (detn [(2, aI 1)] (by kernel_rfl) (wp_ret ?_))))))))
  obtain rfl := Option.some.inj hm
  exact ⟨trivial, aI 1, [], by kernel_rfl, rfl, rfl⟩
theorem ok_codec_Reader_ready {n : Nat}  {r : Unit} (hm : codec_Reader_ready n = some r) :
    ∃ vv H1, call G n 52 [.pv (.ptr [.bool false, .nils, .int .i64 0] 0)] [] = some (.ret vv, H1) ∧ (vv = aB false ∧ H1 = []) := by
  unfold codec_Reader_ready at hm
  obtain ⟨n, rfl, h0⟩ := at1_some hm
  replace hm := h0; clear h0
  refine callE 18 [(0, .pv (.ptr [.bool false, .nils, .int .i64 0] 0))] func52 rfl (by kernel_rfl) (sq (detn [(0, .pv (.ptr [.bool false, .nils, .int .i64 0] 0))] (by kernel_rfl) (sq (detn [(2, aB false)] (by kernel_rfl) (wp_ret ?_)))))
  obtain rfl := Option.some.inj hm
  exact ⟨trivial, aB false, [], by kernel_rfl, rfl, rfl⟩
theorem ok_codec_Reader_Uint {n : Nat} {a0 : Int} {r : Unit} (hm : codec_Reader_Uint n a0 = some r) :
    ∃ vv H1, call G n 33 [.pv (.ptr [.bool false, .nils, .int .i64 0] 0), aU a0] [] = some (.ret vv, H1) ∧ (vv = aU 0 ∧ H1 = []) := by
  unfold codec_Reader_Uint at hm
  obtain ⟨n, rfl, h0⟩ := at1_some hm
  replace hm := h0; clear h0
  refine callE 24 [(0, .pv (.ptr [.bool false, .nils, .int .i64 0] 0)), (1, aU a0)] func33 rfl (by kernel_rfl) (sq (detn [(0, .pv (.ptr [.bool false, .nils, .int .i64 0] 0)), (1, aU a0)] (by kernel_rfl) (sq (sq (rg (sh 1 [(7, .pv (.ptr [.bool false, .nils, .int .i64 0] 0))] (by kernel_rfl) ?_))))))
  obtain ⟨_, h1, hm⟩ := bs hm
  obtain ⟨vv, H1, hC, rfl, rfl⟩ := ok_codec_Reader_ready h1
  refine dR [(8, aB false)] [] [] [.pv (.ptr [.bool false, .nils, .int .i64 0] 0)] (by kernel_rfl) (by kernel_rfl) (by kernel_rfl) hC (by kernel_rfl) (sh 1 [(9, aB true)] (by kernel_rfl) (fin [(0, .pv (.ptr [.bool false, .nils, .int .i64 0] 0)), (1, aU a0), (9, aB true)] rfl (by kernel_rfl) (cT (by kernel_rfl) (sq (detn [(4, aU 0)] (by kernel_rfl) (wp_ret ?_))))))
  obtain rfl := Option.some.inj hm
  exact ⟨trivial, aU 0, [], by kernel_rfl, rfl, rfl⟩
theorem ok_codec_Reader_Int {n : Nat}  {r : Int} (hm : codec_Reader_Int n = some r) :
    ∃ vv H1, call G n 39 [.pv (.ptr [.bool false, .nils, .int .i64 0] 0)] [] = some (.ret vv, H1) ∧ (match r with | r0 => (vv = aI r0 ∧ H1 = [])) := by
  unfold codec_Reader_Int at hm
  obtain ⟨n, rfl, h0⟩ := at1_some hm
  replace hm := h0; clear h0
  refine callE 16 [(0, .pv (.ptr [.bool false, .nils, .int .i64 0] 0))] func39 rfl (by kernel_rfl) (sq (detn [(0, .pv (.ptr [.bool false, .nils, .int .i64 0] 0))] (by kernel_rfl) (sq (rg (sh 1 [(4, .pv (.ptr [.bool false, .nils, .int .i64 0] 0))] (by kernel_rfl) ?_)))))
  obtain ⟨_, h1, hm⟩ := bs hm
  obtain ⟨vv, H1, hC, rfl, rfl⟩ := ok_codec_Reader_Uint h1
  refine dR [(5, aU 0)] [] [] [.pv (.ptr [.bool false, .nils, .int .i64 0] 0), aU 18446744073709551615] (by kernel_rfl) (by kernel_rfl) (by kernel_rfl) hC (by kernel_rfl) (sh 1 [(3, aU 0)] (by kernel_rfl) (fin [(3, aU 0)] rfl (by kernel_rfl) (sq (sq (detn [(3, aU 0), (8, aB ((iAnd .u64 0 1) == 1))] (by kernel_rfl) ?_)))))
  rcases bif_some hm with ⟨h2, hm⟩ | ⟨h2, hm⟩
  ·
   refine ct h2 (by kernel_rfl) (sq (detn [(2, aI (IntKind.wrap .i64 (notI .u64 (iShr .u64 0 1))))] (by kernel_rfl) (wp_ret ?_)))
   obtain rfl := Option.some.inj hm
   exact ⟨trivial, aI (IntKind.wrap .i64 (notI .u64 (iShr .u64 0 1))), [], by kernel_rfl, rfl, rfl⟩
  ·
   refine cf h2 (by kernel_rfl) (wp_skip (sq (detn [(2, aI (IntKind.wrap .i64 (iShr .u64 0 1)))] (by kernel_rfl) (wp_ret ?_))))
   obtain rfl := Option.some.inj hm
   exact ⟨trivial, aI (IntKind.wrap .i64 (iShr .u64 0 1)), [], by kernel_rfl, rfl, rfl⟩
theorem ok_codec_Reader_Text {n : Nat} {a0 : Int} {r : Unit} (hm : codec_Reader_Text n a0 = some r) :
    ∃ vv H1, call G n 37 [.pv (.ptr [.bool false, .nils, .int .i64 0] 0), aI a0] [] = some (.ret vv, H1) ∧ (vv = aS ByteArray.empty ∧ H1 = []) := by
  unfold codec_Reader_Text at hm
  obtain ⟨n, rfl, h0⟩ := at1_some hm
  replace hm := h0; clear h0
  refine callE 25 [(0, .pv (.ptr [.bool false, .nils, .int .i64 0] 0)), (1, aI a0)] func37 rfl (by kernel_rfl) (sq (detn [(0, .pv (.ptr [.bool false, .nils, .int .i64 0] 0)), (1, aI a0)] (by kernel_rfl) (sq (rg (sh 4 [(11, aU (IntKind.wrap .u64 (if 0 > a0 then 0 else a0))), (10, aI (if 0 > a0 then 0 else a0)), (9, aI a0), (8, .pv (.ptr [.bool false, .nils, .int .i64 0] 0))] (by kernel_rfl) ?_)))))
  obtain ⟨_, h1, hm⟩ := bs hm
  obtain ⟨vv, H1, hC, rfl, rfl⟩ := ok_codec_Reader_Uint h1
  refine dR [(12, aU 0)] [] [] [.pv (.ptr [.bool false, .nils, .int .i64 0] 0), aU (IntKind.wrap .u64 (if 0 > a0 then 0 else a0))] (by kernel_rfl) (by kernel_rfl) (by kernel_rfl) hC (by kernel_rfl) (sh 1 [(5, aU 0)] (by kernel_rfl) (fin [(0, .pv (.ptr [.bool false, .nils, .int .i64 0] 0)), (5, aU 0)] rfl (by kernel_rfl) (sq (sq (rg (sh 1 [(13, .pv (.ptr [.bool false, .nils, .int .i64 0] 0))] (by kernel_rfl) ?_))))))
  obtain ⟨_, h2, hm⟩ := bs hm
  obtain ⟨vv, H1, hC, rfl, rfl⟩ := ok_codec_Reader_ready h2
  refine dR [(14, aB false)] [] [] [.pv (.ptr [.bool false, .nils, .int .i64 0] 0)] (by kernel_rfl) (by kernel_rfl) (by kernel_rfl) hC (by kernel_rfl) (sh 1 [(15, aB true)] (by kernel_rfl) (fin [(0, .pv (.ptr [.bool false, .nils, .int .i64 0] 0)), (5, aU 0), (15, aB true)] rfl (by kernel_rfl) (cT (by kernel_rfl) (sq (detn [(4, aS ByteArray.empty)] (by kernel_rfl) (wp_ret ?_))))))
  obtain rfl := Option.some.inj hm
  exact ⟨trivial, aS ByteArray.empty, [], by kernel_rfl, rfl, rfl⟩
theorem ok_codec_Reader_Fixed {n : Nat} {a0 : Int} {r : Unit} (hm : codec_Reader_Fixed n a0 = some r) :
    ∃ vv H1, call G n 41 [.pv (.ptr [.bool false, .nils, .int .i64 0] 0), aI a0] [] = some (.ret vv, H1) ∧ (vv = aU 0 ∧ H1 = []) := by
  unfold codec_Reader_Fixed at hm
  obtain ⟨n, rfl, h0⟩ := at1_some hm
  replace hm := h0; clear h0
  refine callE 34 [(0, .pv (.ptr [.bool false, .nils, .int .i64 0] 0)), (1, aI a0)] func41 rfl (by kernel_rfl) (sq (detn [(0, .pv (.ptr [.bool false, .nils, .int .i64 0] 0)), (1, aI a0)] (by kernel_rfl) (sq (sq (rg (sh 1 [(10, .pv (.ptr [.bool false, .nils, .int .i64 0] 0))] (by kernel_rfl) ?_))))))
  obtain ⟨_, h1, hm⟩ := bs hm
  obtain ⟨vv, H1, hC, rfl, rfl⟩ := ok_codec_Reader_ready h1
  refine dR [(11, aB false)] [] [] [.pv (.ptr [.bool false, .nils, .int .i64 0] 0)] (by kernel_rfl) (by kernel_rfl) (by kernel_rfl) hC (by kernel_rfl) (sh 1 [(12, aB true)] (by kernel_rfl) (fin [(0, .pv (.ptr [.bool false, .nils, .int .i64 0] 0)), (1, aI a0), (12, aB true)] rfl (by kernel_rfl) (cT (by kernel_rfl) (sq (detn [(4, aU 0)] (by kernel_rfl) (wp_ret ?_))))))
  obtain rfl := Option.some.inj hm
  exact ⟨trivial, aU 0, [], by kernel_rfl, rfl, rfl⟩
theorem ok_codec_Reader_Float {n : Nat}  {r : Unit} (hm : codec_Reader_Float n = some r) :
    ∃ vv H1, call G n 40 [.pv (.ptr [.bool false, .nils, .int .i64 0] 0)] [] = some (.ret vv, H1) ∧ (vv = aF 0 ∧ H1 = []) := by
  unfold codec_Reader_Float at hm
  obtain ⟨n, rfl, h0⟩ := at1_some hm
  replace hm := h0; clear h0
  refine callE 19 [(0, .pv (.ptr [.bool false, .nils, .int .i64 0] 0))] func40 rfl (by kernel_rfl) (sq (detn [(0, .pv (.ptr [.bool false, .nils, .int .i64 0] 0))] (by kernel_rfl) (sq (rg (sh 1 [(5, .pv (.ptr [.bool false, .nils, .int .i64 0] 0))] (by kernel_rfl) ?_)))))
  obtain ⟨_, h1, hm⟩ := bs hm
  obtain ⟨vv, H1, hC, rfl, rfl⟩ := ok_codec_Reader_Fixed h1
  refine dR [(6, aU 0)] [] [] [.pv (.ptr [.bool false, .nils, .int .i64 0] 0), aI 8] (by kernel_rfl) (by kernel_rfl) (by kernel_rfl) hC (by kernel_rfl) (sh 1 [(3, aU 0)] (by kernel_rfl) (fin [(0, .pv (.ptr [.bool false, .nils, .int .i64 0] 0)), (3, aU 0)] rfl (by kernel_rfl) (sq (sq (rg (sh 1 [(7, .pv (.ptr [.bool false, .nils, .int .i64 0] 0))] (by kernel_rfl) ?_))))))
  obtain ⟨_, h2, hm⟩ := bs hm
  obtain ⟨vv, H1, hC, rfl, rfl⟩ := ok_codec_Reader_ready h2
  refine dR [(8, aB false)] [] [] [.pv (.ptr [.bool false, .nils, .int .i64 0] 0)] (by kernel_rfl) (by kernel_rfl) (by kernel_rfl) hC (by kernel_rfl) (sh 1 [(9, aB true)] (by kernel_rfl) (fin [(0, .pv (.ptr [.bool false, .nils, .int .i64 0] 0)), (3, aU 0), (9, aB true)] rfl (by kernel_rfl) (cT (by kernel_rfl) (sq (detn [(2, aF 0)] (by kernel_rfl) (wp_ret ?_))))))
  obtain rfl := Option.some.inj hm
  exact ⟨trivial, aF 0, [], by kernel_rfl, rfl, rfl⟩
theorem ok_codec_Reader_Byte {n : Nat}  {r : Unit} (hm : codec_Reader_Byte n = some r) :
    ∃ vv H1, call G n 35 [.pv (.ptr [.bool false, .nils, .int .i64 0] 0)] [] = some (.ret vv, H1) ∧ (vv = aY 0 ∧ H1 = []) := by
  unfold codec_Reader_Byte at hm
  obtain ⟨n, rfl, h0⟩ := at1_some hm
  replace hm := h0; clear h0
  refine callE 6 [(0, .pv (.ptr [.bool false, .nils, .int .i64 0] 0))] func35 rfl (by kernel_rfl) (sq (detn [(0, .pv (.ptr [.bool false, .nils, .int .i64 0] 0))] (by kernel_rfl) (sq (rg (sh 1 [(3, .pv (.ptr [.bool false, .nils, .int .i64 0] 0))] (by kernel_rfl) ?_)))))
  obtain ⟨_, h1, hm⟩ := bs hm
  obtain ⟨vv, H1, hC, rfl, rfl⟩ := ok_codec_Reader_Fixed h1
  refine dR [(4, aU 0)] [] [] [.pv (.ptr [.bool false, .nils, .int .i64 0] 0), aI 1] (by kernel_rfl) (by kernel_rfl) (by kernel_rfl) hC (by kernel_rfl) (sh 2 [(2, aY 0), (5, aY 0)] (by kernel_rfl) (fin [(2, aY 0)] rfl (by kernel_rfl) (wp_ret ?_)))
  obtain rfl := Option.some.inj hm
  exact ⟨trivial, aY 0, [], by kernel_rfl, rfl, rfl⟩
theorem ok_codec_Reader_Left {n : Nat}  {r : Unit} (hm : codec_Reader_Left n = some r) :
    ∃ vv H1, call G n 36 [.pv (.ptr [.bool false, .nils, .int .i64 0] 0)] [] = some (.ret vv, H1) ∧ (vv = aI 0 ∧ H1 = []) := by
  unfold codec_Reader_Left at hm
  obtain ⟨n, rfl, h0⟩ := at1_some hm
  replace hm := h0; clear h0
  refine callE 11 [(0, .pv (.ptr [.bool false, .nils, .int .i64 0] 0))] func36 rfl (by kernel_rfl) (sq (detn [(0, .pv (.ptr [.bool false, .nils, .int .i64 0] 0))] (by kernel_rfl) (sq (sq (rg (sh 1 [(3, .pv (.ptr [.bool false, .nils, .int .i64 0] 0))] (by kernel_rfl) ?_))))))
  obtain ⟨_, h1, hm⟩ := bs hm
  obtain ⟨vv, H1, hC, rfl, rfl⟩ := ok_codec_Reader_ready h1
  refine dR [(4, aB false)] [] [] [.pv (.ptr [.bool false, .nils, .int .i64 0] 0)] (by kernel_rfl) (by kernel_rfl) (by kernel_rfl) hC (by kernel_rfl) (sh 1 [(5, aB true)] (by kernel_rfl) (fin [(0, .pv (.ptr [.bool false, .nils, .int .i64 0] 0)), (5, aB true)] rfl (by kernel_rfl) (cT (by kernel_rfl) (sq (detn [(2, aI 0)] (by kernel_rfl) (wp_ret ?_))))))
  obtain rfl := Option.some.inj hm
  exact ⟨trivial, aI 0, [], by kernel_rfl, rfl, rfl⟩
theorem ok_codec_Reader_Err {n : Nat}  {r : Unit} (hm : codec_Reader_Err n = some r) :
    ∃ vv H1, call G n 34 [.pv (.ptr [.bool false, .nils, .int .i64 0] 0)] [] = some (.ret vv, H1) ∧ (vv = aI 1 ∧ H1 = []) := by
  unfold codec_Reader_Err at hm
  obtain ⟨n, rfl, h0⟩ := at1_some hm
  replace hm := h0; clear h0
  refine callE 16 [(0, .pv (.ptr [.bool false, .nils, .int .i64 0] 0))] func34 rfl (by kernel_rfl) (sq (detn [(0, .pv (.ptr [.bool false, .nils, .int .i64 0] 0))] (by kernel_rfl) (sq (sq (detn [(0, .pv (.ptr [.bool false, .nils, .int .i64 0] 0)), (11, aB true)] (by kernel_rfl) (cT (by kernel_rfl) (sq (detn [(2, aI 1)] (by kernel_rfl) (wp_ret ?_)))))))))
  obtain rfl := Option.some.inj hm
  exact ⟨trivial, aI 1, [], by kernel_rfl, rfl, rfl⟩
theorem ok_codec_Reader_End {n : Nat}  {r : Unit} (hm : codec_Reader_End n = some r) :
    ∃ vv H1, call G n 38 [.pv (.ptr [.bool false, .nils, .int .i64 0] 0)] [] = some (.ret vv, H1) ∧ (vv = aI 1 ∧ H1 = []) := by
  unfold codec_Reader_End at hm
  obtain ⟨n, rfl, h0⟩ := at1_some hm
  replace hm := h0; clear h0
  refine callE 15 [(0, .pv (.ptr [.bool false, .nils, .int .i64 0] 0))] func38 rfl (by kernel_rfl) (sq (detn [(0, .pv (.ptr [.bool false, .nils, .int .i64 0] 0))] (by kernel_rfl) (sq (sq (rg (sh 1 [(4, .pv (.ptr [.bool false, .nils, .int .i64 0] 0))] (by kernel_rfl) ?_))))))
  obtain ⟨_, h1, hm⟩ := bs hm
  obtain ⟨vv, H1, hC, rfl, rfl⟩ := ok_codec_Reader_Err h1
  refine dR [(5, aI 1)] [] [] [.pv (.ptr [.bool false, .nils, .int .i64 0] 0)] (by kernel_rfl) (by kernel_rfl) (by kernel_rfl) hC (by kernel_rfl) (sh 1 [(3, aI 1)] (by kernel_rfl) (fin [(0, .pv (.ptr [.bool false, .nils, .int .i64 0] 0)), (3, aI 1)] rfl (by kernel_rfl) (sq (detn [(0, .pv (.ptr [.bool false, .nils, .int .i64 0] 0)), (3, aI 1), (7, aB true)] (by kernel_rfl) (cT (by kernel_rfl) (sq (detn [(2, aI 1)] (by kernel_rfl) (wp_ret ?_))))))))
  obtain rfl := Option.some.inj hm
  exact ⟨trivial, aI 1, [], by kernel_rfl, rfl, rfl⟩
theorem run_law03_works : call G 3999999 31 [] [] = some (.ret (aB true), []) := by kernel_rfl
theorem ok_law03_works {n : Nat} {r : Bool} (hm : law03_works n = some r) :
    call G n 31 [] [] = some (.ret (aB r), []) := by
  unfold law03_works at hm
  have hn : n = 3999999 := by
    cases h : n == 3999999 with
    | true => exact eq_of_beq h
    | false => rw [h] at hm; cases hm
  subst hn
  have h2 : some true = some r := hm
  obtain rfl := Option.some.inj h2
  exact run_law03_works
theorem ok_law03_CodecNobody {n : Nat} {a0 : Int} {r : Bool} (hm : law03_CodecNobody n a0 = some r) :
    call G n 7 [aU a0] [] = some (.ret (aB r), []) := by
  unfold law03_CodecNobody at hm
  obtain ⟨n, rfl, h0⟩ := at1_some hm
  replace hm := h0; clear h0
  refine callL 63 [(0, aU a0)] func7 rfl (by kernel_rfl) (sq (detn [(0, aU a0)] (by kernel_rfl) ?_))
  obtain ⟨k1, hk1, hm⟩ := withK_some hm
  refine mid (fun t H => (k1 () = some r ∧ t = mk 63 [(0, aU a0), (7, aR 1 1 2), (8, aI 2), (9, aI 2), (10, aB false)] ∧ H = [.box [aB false, .pv .nils, aI 0] true, .row 49 1 ⟨[[.nilp], [.ptr [.bool false, .nils, .int .i64 0] 0]], 0, 0, 0, 0⟩])) ?_ ?_
  ·
   rintro _ _ ⟨hm, rfl, rfl⟩
   subst hk1
   refine sq (rg ?_)
   obtain ⟨x2, h3, hm⟩ := bs hm
   refine dv 62 (cpure (by kernel_rfl) (ok_law03_works h3) (by kernel_rfl) (by kernel_rfl) (by kernel_rfl)) (by kernel_rfl) (sh 1 [(2, aB x2)] (by kernel_rfl) (fin [(2, aB x2)] rfl (by kernel_rfl) (wp_ret ?_)))
   obtain rfl := Option.some.inj hm
   exact ⟨trivial, by kernel_rfl⟩
  refine sq (rg (st 2 [(6, .ptr 0 0), (5, .agg [aB false, .pv .nils, aI 0])] [.box [aB false, .pv .nils, aI 0] false] (by kernel_rfl) (dO [(7, aR 1 1 2)] [.box [aB false, .pv .nils, aI 0] true, .row 49 1 ⟨[[.nilp], [.ptr [.bool false, .nils, .int .i64 0] 0]], 0, 0, 0, 0⟩] (led_purO (nid := 0) (t := 62) (len := 2) (is := [0, 1]) (vs := [.pv .nilp, .ptr 0 0]) (ps := [.pv .nilp, .pv (.ptr [.bool false, .nils, .int .i64 0] 0)]) (R := [0]) (e := ⟨aR 1 1 2, [], [.row 49 1 ⟨[[.nilp], [.ptr [.bool false, .nils, .int .i64 0] 0]], 0, 0, 0, 0⟩]⟩) (by kernel_rfl) (by kernel_rfl) (by kernel_rfl) (by kernel_rfl)) (by kernel_rfl) (sh 2 [(9, aI 0), (8, aI 2)] (by kernel_rfl) (fin [(0, aU a0), (7, aR 1 1 2), (8, aI 2), (9, aI 0)] rfl (by kernel_rfl) (bq ?_))))))
  refine loopF (fun mm t H => (law03_CodecNobody_l2 n a0 k1 mm 0 = some r ∧ t = mk 63 [(0, aU a0), (7, aR 1 1 2), (8, aI 2), (9, aI 0)] ∧ H = [.box [aB false, .pv .nils, aI 0] true, .row 49 1 ⟨[[.nilp], [.ptr [.bool false, .nils, .int .i64 0] 0]], 0, 0, 0, 0⟩]) ∨ (law03_CodecNobody_l2 n a0 k1 mm 1 = some r ∧ t = mk 63 [(0, aU a0), (7, aR 1 1 2), (8, aI 2), (9, aI 1)] ∧ H = [.box [aB false, .pv .nils, aI 0] true, .row 49 1 ⟨[[.nilp], [.ptr [.bool false, .nils, .int .i64 0] 0]], 0, 0, 0, 0⟩]) ∨ (law03_CodecNobody_l2 n a0 k1 mm 2 = some r ∧ t = mk 63 [(0, aU a0), (7, aR 1 1 2), (8, aI 2), (9, aI 2)] ∧ H = [.box [aB false, .pv .nils, aI 0] true, .row 49 1 ⟨[[.nilp], [.ptr [.bool false, .nils, .int .i64 0] 0]], 0, 0, 0, 0⟩])) (.inl ⟨hm, rfl, rfl⟩) ?_ ?_
  · rintro _ _ (⟨hm, _⟩ | ⟨hm, _⟩ | ⟨hm, _⟩) <;> exact nomatch hm
  rintro m4 _ _ (⟨hm, rfl, rfl⟩ | ⟨hm, rfl, rfl⟩ | ⟨hm, rfl, rfl⟩)
  ·
   simp only [law03_CodecNobody_l2] at hm
   refine sq (detn [(0, aU a0), (7, aR 1 1 2), (8, aI 2), (9, aI 0), (10, aB true)] (by kernel_rfl) (sq (cT (by kernel_rfl) (wp_skip (sq (bq (sq (detn [(0, aU a0), (4, .pv .nilp), (7, aR 1 1 2), (8, aI 2), (9, aI 0)] (by kernel_rfl) (sq (rg (sh 2 [(14, aU a0), (13, .pv .nilp)] (by kernel_rfl) ?_)))))))))))
   obtain ⟨_, h5, hm⟩ := bs hm
   obtain ⟨vv, H1, hC, rfl, rfl⟩ := ok_codec_Reader_Uint_nil h5
   refine dR [(15, aU 0)] [.box [aB false, .pv .nils, aI 0] true, .row 49 1 ⟨[[.nilp], [.ptr [.bool false, .nils, .int .i64 0] 0]], 0, 0, 0, 0⟩] [] [.pv .nilp, aU a0] (by kernel_rfl) (by kernel_rfl) (by kernel_rfl) hC (by kernel_rfl) (sh 3 [(18, .pv .nilp), (17, aB false), (16, aB false)] (by kernel_rfl) ?_)
   obtain ⟨x7, h6, hm⟩ := bs hm
   obtain ⟨vv, H1, hC, rfl, rfl⟩ := ok_codec_Reader_Int_nil h6
   refine dR [(19, aI x7)] [.box [aB false, .pv .nils, aI 0] true, .row 49 1 ⟨[[.nilp], [.ptr [.bool false, .nils, .int .i64 0] 0]], 0, 0, 0, 0⟩] [] [.pv .nilp] (by kernel_rfl) (by kernel_rfl) (by kernel_rfl) hC (by kernel_rfl) (sh 3 [(22, aB (x7 != 0)), (21, aB (x7 != 0)), (20, aB (x7 != 0))] (by kernel_rfl) ?_)
   rcases bif_some hm with ⟨h8, hm⟩ | ⟨h8, hm⟩
   ·
    refine known [22, 21, 20] h8 (by kernel_rfl) (sh 38 [(60, aB true), (59, .undef), (58, .undef), (57, .undef), (56, aB true), (55, aB true), (54, .undef), (53, .undef), (52, .undef), (51, aB true), (50, aB true), (49, .undef), (48, .undef), (47, .undef), (46, aB true), (45, aB true), (44, .undef), (43, .undef), (42, .undef), (41, aB true), (40, aB true), (39, .undef), (38, .undef), (37, .undef), (36, .undef), (35, .undef), (34, aB true), (33, aB true), (32, .undef), (31, .undef), (30, .undef), (29, aB true), (28, aB true), (27, .undef), (26, .undef), (25, .undef), (24, .undef), (23, .undef)] (by kernel_rfl) (fin [(0, aU a0), (7, aR 1 1 2), (8, aI 2), (9, aI 0), (60, aB true)] rfl (by kernel_rfl) (cT (by kernel_rfl) (sq (detn [(2, aB false)] (by kernel_rfl) (wp_ret ?_))))))
    obtain rfl := Option.some.inj hm
    exact ⟨trivial, by kernel_rfl⟩
   ·
    refine known [22, 21, 20] h8 (by kernel_rfl) (sh 3 [(25, aI (IntKind.wrap .i64 a0)), (24, aU a0), (23, .pv .nilp)] (by kernel_rfl) ?_)
    obtain ⟨_, h9, hm⟩ := bs hm
    obtain ⟨vv, H1, hC, rfl, rfl⟩ := ok_codec_Reader_Text_nil h9
    refine dR [(26, aS ByteArray.empty)] [.box [aB false, .pv .nils, aI 0] true, .row 49 1 ⟨[[.nilp], [.ptr [.bool false, .nils, .int .i64 0] 0]], 0, 0, 0, 0⟩] [] [.pv .nilp, aI (IntKind.wrap .i64 a0)] (by kernel_rfl) (by kernel_rfl) (by kernel_rfl) hC (by kernel_rfl) (sh 3 [(29, aB (!(sEq ByteArray.empty ByteArray.empty))), (28, aB (!(sEq ByteArray.empty ByteArray.empty))), (27, aB (!(sEq ByteArray.empty ByteArray.empty)))] (by kernel_rfl) ?_)
    rcases bif_some hm with ⟨h10, hm⟩ | ⟨h10, hm⟩
    ·
     refine known [29, 28, 27] h10 (by kernel_rfl) (sh 31 [(60, aB true), (59, .undef), (58, .undef), (57, .undef), (56, aB true), (55, aB true), (54, .undef), (53, .undef), (52, .undef), (51, aB true), (50, aB true), (49, .undef), (48, .undef), (47, .undef), (46, aB true), (45, aB true), (44, .undef), (43, .undef), (42, .undef), (41, aB true), (40, aB true), (39, .undef), (38, .undef), (37, .undef), (36, .undef), (35, .undef), (34, aB true), (33, aB true), (32, .undef), (31, .undef), (30, .undef)] (by kernel_rfl) (fin [(0, aU a0), (7, aR 1 1 2), (8, aI 2), (9, aI 0), (60, aB true)] rfl (by kernel_rfl) (cT (by kernel_rfl) (sq (detn [(2, aB false)] (by kernel_rfl) (wp_ret ?_))))))
     obtain rfl := Option.some.inj hm
     exact ⟨trivial, by kernel_rfl⟩
    ·
     refine known [29, 28, 27] h10 (by kernel_rfl) (sh 1 [(30, .pv .nilp)] (by kernel_rfl) ?_)
     obtain ⟨_, h11, hm⟩ := bs hm
     obtain ⟨vv, H1, hC, rfl, rfl⟩ := ok_codec_Reader_Float_nil h11
     refine dR [(31, aF 0)] [.box [aB false, .pv .nils, aI 0] true, .row 49 1 ⟨[[.nilp], [.ptr [.bool false, .nils, .int .i64 0] 0]], 0, 0, 0, 0⟩] [] [.pv .nilp] (by kernel_rfl) (by kernel_rfl) (by kernel_rfl) hC (by kernel_rfl) (sh 3 [(34, aB ((FloatKind.format .f64).order 0 0 != some .eq)), (33, aB ((FloatKind.format .f64).order 0 0 != some .eq)), (32, aB ((FloatKind.format .f64).order 0 0 != some .eq))] (by kernel_rfl) ?_)
     rcases bif_some hm with ⟨h12, hm⟩ | ⟨h12, hm⟩
     ·
      refine known [34, 33, 32] h12 (by kernel_rfl) (sh 26 [(60, aB true), (59, .undef), (58, .undef), (57, .undef), (56, aB true), (55, aB true), (54, .undef), (53, .undef), (52, .undef), (51, aB true), (50, aB true), (49, .undef), (48, .undef), (47, .undef), (46, aB true), (45, aB true), (44, .undef), (43, .undef), (42, .undef), (41, aB true), (40, aB true), (39, .undef), (38, .undef), (37, .undef), (36, .undef), (35, .undef)] (by kernel_rfl) (fin [(0, aU a0), (7, aR 1 1 2), (8, aI 2), (9, aI 0), (60, aB true)] rfl (by kernel_rfl) (cT (by kernel_rfl) (sq (detn [(2, aB false)] (by kernel_rfl) (wp_ret ?_))))))
      obtain rfl := Option.some.inj hm
      exact ⟨trivial, by kernel_rfl⟩
     ·
      refine known [34, 33, 32] h12 (by kernel_rfl) (sh 3 [(37, aI (IntKind.wrap .i64 a0)), (36, aU a0), (35, .pv .nilp)] (by kernel_rfl) ?_)
      obtain ⟨_, h13, hm⟩ := bs hm
      obtain ⟨vv, H1, hC, rfl, rfl⟩ := ok_codec_Reader_Fixed_nil h13
      refine dR [(38, aU 0)] [.box [aB false, .pv .nils, aI 0] true, .row 49 1 ⟨[[.nilp], [.ptr [.bool false, .nils, .int .i64 0] 0]], 0, 0, 0, 0⟩] [] [.pv .nilp, aI (IntKind.wrap .i64 a0)] (by kernel_rfl) (by kernel_rfl) (by kernel_rfl) hC (by kernel_rfl) (sh 4 [(42, .pv .nilp), (41, aB false), (40, aB false), (39, aB false)] (by kernel_rfl) ?_)
      obtain ⟨_, h14, hm⟩ := bs hm
      obtain ⟨vv, H1, hC, rfl, rfl⟩ := ok_codec_Reader_Byte_nil h14
      refine dR [(43, aY 0)] [.box [aB false, .pv .nils, aI 0] true, .row 49 1 ⟨[[.nilp], [.ptr [.bool false, .nils, .int .i64 0] 0]], 0, 0, 0, 0⟩] [] [.pv .nilp] (by kernel_rfl) (by kernel_rfl) (by kernel_rfl) hC (by kernel_rfl) (sh 4 [(47, .pv .nilp), (46, aB false), (45, aB false), (44, aB false)] (by kernel_rfl) ?_)
      obtain ⟨_, h15, hm⟩ := bs hm
      obtain ⟨vv, H1, hC, rfl, rfl⟩ := ok_codec_Reader_Left_nil h15
      refine dR [(48, aI 0)] [.box [aB false, .pv .nils, aI 0] true, .row 49 1 ⟨[[.nilp], [.ptr [.bool false, .nils, .int .i64 0] 0]], 0, 0, 0, 0⟩] [] [.pv .nilp] (by kernel_rfl) (by kernel_rfl) (by kernel_rfl) hC (by kernel_rfl) (sh 4 [(52, .pv .nilp), (51, aB false), (50, aB false), (49, aB false)] (by kernel_rfl) ?_)
      obtain ⟨_, h16, hm⟩ := bs hm
      obtain ⟨vv, H1, hC, rfl, rfl⟩ := ok_codec_Reader_Err_nil h16
      refine dR [(53, aI 1)] [.box [aB false, .pv .nils, aI 0] true, .row 49 1 ⟨[[.nilp], [.ptr [.bool false, .nils, .int .i64 0] 0]], 0, 0, 0, 0⟩] [] [.pv .nilp] (by kernel_rfl) (by kernel_rfl) (by kernel_rfl) hC (by kernel_rfl) (sh 4 [(57, .pv .nilp), (56, aB false), (55, aB false), (54, aB false)] (by kernel_rfl) ?_)
      obtain ⟨_, h17, hm⟩ := bs hm
      obtain ⟨vv, H1, hC, rfl, rfl⟩ := ok_codec_Reader_End_nil h17
      refine dR [(58, aI 1)] [.box [aB false, .pv .nils, aI 0] true, .row 49 1 ⟨[[.nilp], [.ptr [.bool false, .nils, .int .i64 0] 0]], 0, 0, 0, 0⟩] [] [.pv .nilp] (by kernel_rfl) (by kernel_rfl) (by kernel_rfl) hC (by kernel_rfl) (sh 2 [(60, aB false), (59, aB false)] (by kernel_rfl) (fin [(0, aU a0), (7, aR 1 1 2), (8, aI 2), (9, aI 0), (60, aB false)] rfl (by kernel_rfl) (cF (by kernel_rfl) (wp_skip (detn [(0, aU a0), (7, aR 1 1 2), (8, aI 2), (9, aI 1)] (by kernel_rfl) ?_)))))
      exact ⟨_, _, tidyL [(0, aU a0), (7, aR 1 1 2), (8, aI 2), (9, aI 1)] [.box [aB false, .pv .nils, aI 0] true, .row 49 1 ⟨[[.nilp], [.ptr [.bool false, .nils, .int .i64 0] 0]], 0, 0, 0, 0⟩] (by kernel_rfl), .inr (.inl ⟨hm, rfl, rfl⟩)⟩
  ·
   simp only [law03_CodecNobody_l2] at hm
   refine sq (detn [(0, aU a0), (7, aR 1 1 2), (8, aI 2), (9, aI 1), (10, aB true)] (by kernel_rfl) (sq (cT (by kernel_rfl) (wp_skip (sq (bq (sq (detn [(0, aU a0), (4, .pv (.ptr [.bool false, .nils, .int .i64 0] 0)), (7, aR 1 1 2), (8, aI 2), (9, aI 1)] (by kernel_rfl) (sq (rg (sh 2 [(14, aU a0), (13, .pv (.ptr [.bool false, .nils, .int .i64 0] 0))] (by kernel_rfl) ?_)))))))))))
   obtain ⟨_, h18, hm⟩ := bs hm
   obtain ⟨vv, H1, hC, rfl, rfl⟩ := ok_codec_Reader_Uint h18
   refine dR [(15, aU 0)] [.box [aB false, .pv .nils, aI 0] true, .row 49 1 ⟨[[.nilp], [.ptr [.bool false, .nils, .int .i64 0] 0]], 0, 0, 0, 0⟩] [] [.pv (.ptr [.bool false, .nils, .int .i64 0] 0), aU a0] (by kernel_rfl) (by kernel_rfl) (by kernel_rfl) hC (by kernel_rfl) (sh 3 [(18, .pv (.ptr [.bool false, .nils, .int .i64 0] 0)), (17, aB false), (16, aB false)] (by kernel_rfl) ?_)
   obtain ⟨x20, h19, hm⟩ := bs hm
   obtain ⟨vv, H1, hC, rfl, rfl⟩ := ok_codec_Reader_Int h19
   refine dR [(19, aI x20)] [.box [aB false, .pv .nils, aI 0] true, .row 49 1 ⟨[[.nilp], [.ptr [.bool false, .nils, .int .i64 0] 0]], 0, 0, 0, 0⟩] [] [.pv (.ptr [.bool false, .nils, .int .i64 0] 0)] (by kernel_rfl) (by kernel_rfl) (by kernel_rfl) hC (by kernel_rfl) (sh 3 [(22, aB (x20 != 0)), (21, aB (x20 != 0)), (20, aB (x20 != 0))] (by kernel_rfl) ?_)
   rcases bif_some hm with ⟨h21, hm⟩ | ⟨h21, hm⟩
   ·
    refine known [22, 21, 20] h21 (by kernel_rfl) (sh 38 [(60, aB true), (59, .undef), (58, .undef), (57, .undef), (56, aB true), (55, aB true), (54, .undef), (53, .undef), (52, .undef), (51, aB true), (50, aB true), (49, .undef), (48, .undef), (47, .undef), (46, aB true), (45, aB true), (44, .undef), (43, .undef), (42, .undef), (41, aB true), (40, aB true), (39, .undef), (38, .undef), (37, .undef), (36, .undef), (35, .undef), (34, aB true), (33, aB true), (32, .undef), (31, .undef), (30, .undef), (29, aB true), (28, aB true), (27, .undef), (26, .undef), (25, .undef), (24, .undef), (23, .undef)] (by kernel_rfl) (fin [(0, aU a0), (7, aR 1 1 2), (8, aI 2), (9, aI 1), (60, aB true)] rfl (by kernel_rfl) (cT (by kernel_rfl) (sq (detn [(2, aB false)] (by kernel_rfl) (wp_ret ?_))))))
    obtain rfl := Option.some.inj hm
    exact ⟨trivial, by kernel_rfl⟩
   ·
    refine known [22, 21, 20] h21 (by kernel_rfl) (sh 3 [(25, aI (IntKind.wrap .i64 a0)), (24, aU a0), (23, .pv (.ptr [.bool false, .nils, .int .i64 0] 0))] (by kernel_rfl) ?_)
    obtain ⟨_, h22, hm⟩ := bs hm
    obtain ⟨vv, H1, hC, rfl, rfl⟩ := ok_codec_Reader_Text h22
    refine dR [(26, aS ByteArray.empty)] [.box [aB false, .pv .nils, aI 0] true, .row 49 1 ⟨[[.nilp], [.ptr [.bool false, .nils, .int .i64 0] 0]], 0, 0, 0, 0⟩] [] [.pv (.ptr [.bool false, .nils, .int .i64 0] 0), aI (IntKind.wrap .i64 a0)] (by kernel_rfl) (by kernel_rfl) (by kernel_rfl) hC (by kernel_rfl) (sh 3 [(29, aB (!(sEq ByteArray.empty ByteArray.empty))), (28, aB (!(sEq ByteArray.empty ByteArray.empty))), (27, aB (!(sEq ByteArray.empty ByteArray.empty)))] (by kernel_rfl) ?_)
    rcases bif_some hm with ⟨h23, hm⟩ | ⟨h23, hm⟩
    ·
     refine known [29, 28, 27] h23 (by kernel_rfl) (sh 31 [(60, aB true), (59, .undef), (58, .undef), (57, .undef), (56, aB true), (55, aB true), (54, .undef), (53, .undef), (52, .undef), (51, aB true), (50, aB true), (49, .undef), (48, .undef), (47, .undef), (46, aB true), (45, aB true), (44, .undef), (43, .undef), (42, .undef), (41, aB true), (40, aB true), (39, .undef), (38, .undef), (37, .undef), (36, .undef), (35, .undef), (34, aB true), (33, aB true), (32, .undef), (31, .undef), (30, .undef)] (by kernel_rfl) (fin [(0, aU a0), (7, aR 1 1 2), (8, aI 2), (9, aI 1), (60, aB true)] rfl (by kernel_rfl) (cT (by kernel_rfl) (sq (detn [(2, aB false)] (by kernel_rfl) (wp_ret ?_))))))
     obtain rfl := Option.some.inj hm
     exact ⟨trivial, by kernel_rfl⟩
    ·
     refine known [29, 28, 27] h23 (by kernel_rfl) (sh 1 [(30, .pv (.ptr [.bool false, .nils, .int .i64 0] 0))] (by kernel_rfl) ?_)
     obtain ⟨_, h24, hm⟩ := bs hm
     obtain ⟨vv, H1, hC, rfl, rfl⟩ := ok_codec_Reader_Float h24
     refine dR [(31, aF 0)] [.box [aB false, .pv .nils, aI 0] true, .row 49 1 ⟨[[.nilp], [.ptr [.bool false, .nils, .int .i64 0] 0]], 0, 0, 0, 0⟩] [] [.pv (.ptr [.bool false, .nils, .int .i64 0] 0)] (by kernel_rfl) (by kernel_rfl) (by kernel_rfl) hC (by kernel_rfl) (sh 3 [(34, aB ((FloatKind.format .f64).order 0 0 != some .eq)), (33, aB ((FloatKind.format .f64).order 0 0 != some .eq)), (32, aB ((FloatKind.format .f64).order 0 0 != some .eq))] (by kernel_rfl) ?_)
     rcases bif_some hm with ⟨h25, hm⟩ | ⟨h25, hm⟩
     ·
      refine known [34, 33, 32] h25 (by kernel_rfl) (sh 26 [(60, aB true), (59, .undef), (58, .undef), (57, .undef), (56, aB true), (55, aB true), (54, .undef), (53, .undef), (52, .undef), (51, aB true), (50, aB true), (49, .undef), (48, .undef), (47, .undef), (46, aB true), (45, aB true), (44, .undef), (43, .undef), (42, .undef), (41, aB true), (40, aB true), (39, .undef), (38, .undef), (37, .undef), (36, .undef), (35, .undef)] (by kernel_rfl) (fin [(0, aU a0), (7, aR 1 1 2), (8, aI 2), (9, aI 1), (60, aB true)] rfl (by kernel_rfl) (cT (by kernel_rfl) (sq (detn [(2, aB false)] (by kernel_rfl) (wp_ret ?_))))))
      obtain rfl := Option.some.inj hm
      exact ⟨trivial, by kernel_rfl⟩
     ·
      refine known [34, 33, 32] h25 (by kernel_rfl) (sh 3 [(37, aI (IntKind.wrap .i64 a0)), (36, aU a0), (35, .pv (.ptr [.bool false, .nils, .int .i64 0] 0))] (by kernel_rfl) ?_)
      obtain ⟨_, h26, hm⟩ := bs hm
      obtain ⟨vv, H1, hC, rfl, rfl⟩ := ok_codec_Reader_Fixed h26
      refine dR [(38, aU 0)] [.box [aB false, .pv .nils, aI 0] true, .row 49 1 ⟨[[.nilp], [.ptr [.bool false, .nils, .int .i64 0] 0]], 0, 0, 0, 0⟩] [] [.pv (.ptr [.bool false, .nils, .int .i64 0] 0), aI (IntKind.wrap .i64 a0)] (by kernel_rfl) (by kernel_rfl) (by kernel_rfl) hC (by kernel_rfl) (sh 4 [(42, .pv (.ptr [.bool false, .nils, .int .i64 0] 0)), (41, aB false), (40, aB false), (39, aB false)] (by kernel_rfl) ?_)
      obtain ⟨_, h27, hm⟩ := bs hm
      obtain ⟨vv, H1, hC, rfl, rfl⟩ := ok_codec_Reader_Byte h27
      refine dR [(43, aY 0)] [.box [aB false, .pv .nils, aI 0] true, .row 49 1 ⟨[[.nilp], [.ptr [.bool false, .nils, .int .i64 0] 0]], 0, 0, 0, 0⟩] [] [.pv (.ptr [.bool false, .nils, .int .i64 0] 0)] (by kernel_rfl) (by kernel_rfl) (by kernel_rfl) hC (by kernel_rfl) (sh 4 [(47, .pv (.ptr [.bool false, .nils, .int .i64 0] 0)), (46, aB false), (45, aB false), (44, aB false)] (by kernel_rfl) ?_)
      obtain ⟨_, h28, hm⟩ := bs hm
      obtain ⟨vv, H1, hC, rfl, rfl⟩ := ok_codec_Reader_Left h28
      refine dR [(48, aI 0)] [.box [aB false, .pv .nils, aI 0] true, .row 49 1 ⟨[[.nilp], [.ptr [.bool false, .nils, .int .i64 0] 0]], 0, 0, 0, 0⟩] [] [.pv (.ptr [.bool false, .nils, .int .i64 0] 0)] (by kernel_rfl) (by kernel_rfl) (by kernel_rfl) hC (by kernel_rfl) (sh 4 [(52, .pv (.ptr [.bool false, .nils, .int .i64 0] 0)), (51, aB false), (50, aB false), (49, aB false)] (by kernel_rfl) ?_)
      obtain ⟨_, h29, hm⟩ := bs hm
      obtain ⟨vv, H1, hC, rfl, rfl⟩ := ok_codec_Reader_Err h29
      refine dR [(53, aI 1)] [.box [aB false, .pv .nils, aI 0] true, .row 49 1 ⟨[[.nilp], [.ptr [.bool false, .nils, .int .i64 0] 0]], 0, 0, 0, 0⟩] [] [.pv (.ptr [.bool false, .nils, .int .i64 0] 0)] (by kernel_rfl) (by kernel_rfl) (by kernel_rfl) hC (by kernel_rfl) (sh 4 [(57, .pv (.ptr [.bool false, .nils, .int .i64 0] 0)), (56, aB false), (55, aB false), (54, aB false)] (by kernel_rfl) ?_)
      obtain ⟨_, h30, hm⟩ := bs hm
      obtain ⟨vv, H1, hC, rfl, rfl⟩ := ok_codec_Reader_End h30
      refine dR [(58, aI 1)] [.box [aB false, .pv .nils, aI 0] true, .row 49 1 ⟨[[.nilp], [.ptr [.bool false, .nils, .int .i64 0] 0]], 0, 0, 0, 0⟩] [] [.pv (.ptr [.bool false, .nils, .int .i64 0] 0)] (by kernel_rfl) (by kernel_rfl) (by kernel_rfl) hC (by kernel_rfl) (sh 2 [(60, aB false), (59, aB false)] (by kernel_rfl) (fin [(0, aU a0), (7, aR 1 1 2), (8, aI 2), (9, aI 1), (60, aB false)] rfl (by kernel_rfl) (cF (by kernel_rfl) (wp_skip (detn [(0, aU a0), (7, aR 1 1 2), (8, aI 2), (9, aI 2)] (by kernel_rfl) ?_)))))
      exact ⟨_, _, tidyL [(0, aU a0), (7, aR 1 1 2), (8, aI 2), (9, aI 2)] [.box [aB false, .pv .nils, aI 0] true, .row 49 1 ⟨[[.nilp], [.ptr [.bool false, .nils, .int .i64 0] 0]], 0, 0, 0, 0⟩] (by kernel_rfl), .inr (.inr (⟨hm, rfl, rfl⟩))⟩
  ·
   simp only [law03_CodecNobody_l2] at hm
   refine sq (detn [(0, aU a0), (7, aR 1 1 2), (8, aI 2), (9, aI 2), (10, aB false)] (by kernel_rfl) (sq (cF (by kernel_rfl) (wp_exit ?_))))
   exact ⟨hm, rfl, rfl⟩
end Go.Ab.S1
