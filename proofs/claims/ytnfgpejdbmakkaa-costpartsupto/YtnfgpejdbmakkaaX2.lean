import Derived.Test.YtnfgpejdbmakkaaX1
namespace Go.Ab.Ytnfgpejdbmakkaa
open Go Go.Ab
open Go.Proofs.Try
set_option maxRecDepth 100000
set_option maxHeartbeats 1000000
set_option linter.unusedSimpArgs false
set_option linter.unusedVariables false

def strAt (o : Option Oper) : ByteArray := match o with
  | some o => match o.op with
    | .index _ (.const (.string s)) _ => s
    | _ => ByteArray.empty
  | none => ByteArray.empty
noncomputable def tab54 : ByteArray := strAt ((Code.ops (Code.sub [1, 1, 1, 1, 0] (f54.body.getD .skip)))[3]?)
theorem tab54_eq : tab54.data.toList.map (·.toNat) = (List.range 256).map (lenF 8) := by kernel_rfl
theorem tab_ok {k : IntKind} {i : Nat} (h : i < 256) : aIndex (.pv (.str tab54)) (.pv (.int k (i : Int))) = some (.pv (.int .u8 (lenF 8 i : Nat))) := by
  simp only [aIndex, Int.natCast_nonneg, if_true, Int.toNat_natCast]
  have e := congrArg (fun l => l[i]?) tab54_eq
  simp only [List.getElem?_map, List.getElem?_range h, Option.map_some] at e
  cases hh : tab54.data.toList[i]? with
  | none => rw [hh] at e; cases e
  | some b =>
    rw [hh] at e
    simp only [Option.map_some, Option.some.injEq] at e
    simp only [Option.map_some, e]
theorem l32 {n : Nat} (h : 4294967296 ≤ n) : lenF 64 n = lenF 32 (n / 4294967296) + 32 := lenF_shift 32 32 n h
theorem f32' {n : Nat} (h : n < 4294967296) : lenF 64 n = lenF 32 n := lenF_fuel 32 32 n h
theorem l16 {n : Nat} (h : 65536 ≤ n) : lenF 32 n = lenF 16 (n / 65536) + 16 := lenF_shift 16 16 n h
theorem f16' {n : Nat} (h : n < 65536) : lenF 32 n = lenF 16 n := lenF_fuel 16 16 n h
theorem l8 {n : Nat} (h : 256 ≤ n) : lenF 16 n = lenF 8 (n / 256) + 8 := lenF_shift 8 8 n h
theorem f8' {n : Nat} (h : n < 256) : lenF 16 n = lenF 8 n := lenF_fuel 8 8 n h
theorem lenFin {c : Int} {x : Nat} (h1 : 0 ≤ c) (h2 : c ≤ 1000) : IntKind.i64.wrap (c + (lenF 8 x : Nat)) = c + (lenF 8 x : Nat) := by
  have := lenF_le 8 x
  exact wrapI (by omega) (by omega)
theorem wrapLen (x : Nat) : IntKind.i64.wrap ((lenF 8 x : Nat) : Int) = ((lenF 8 x : Nat) : Int) := by
  have := lenF_le 8 x
  exact wrapI (by omega) (by omega)
theorem len64_ok {n : Nat} (hn : n < 2 ^ 64) (N : Nat) (hN : 1 ≤ N) : call G N 54 [.pv (.int .u64 n)] [] = some (.ret (.pv (.int .i64 (lenF 64 n : Nat))), []) := by
  obtain ⟨N, rfl⟩ : ∃ M, N = M + 1 := ⟨N - 1, by omega⟩
  refine call_eq func54 rfl (show _ = [_, _, _, _, _, _, _, _, _, _, _, _, _, _, _, _, _, _, _, _, _, _, _, _, _] from rfl) ?_
  refine wp_seq ?_
  refine wp_region rfl rfl ?_
  refine wo_apv rfl rfl rfl rfl rfl ?_
  refine wo_nil ?_
  refine ⟨[_, _, _, _, _, _, _, _, _, _, _, _, _, _, _, _, _, _, _, _, _, _, _, _, _], rfl, ?_⟩
  refine wp_seq ?_
  refine wp_seq ?_
  refine wp_region rfl rfl ?_
  refine wo_mpv rfl rfl rfl rfl rfl ?_
  refine wo_bsplit rfl rfl rfl rfl rfl (fun c1_1 => ?_) (fun c1_1 => ?_)
  ·
    refine wo_nil ?_
    refine ⟨[_, _, _, _, _, _, _, _, _, _, _, _, _, _, _, _, _, _, _, _, _, _, _, _, _], rfl, ?_⟩
    refine wp_true rfl ?_
    refine wp_seq ?_
    refine wp_region rfl rfl ?_
    refine wo_mpv rfl rfl rfl rfl rfl ?_
    refine wo_bin (v := .pv (.int .u64 _)) rfl rfl rfl rfl (shrN 32 4294967296 (by decide) (by decide) _) ?_
    refine wo_apv rfl rfl rfl rfl rfl ?_
    refine wo_nil ?_
    refine ⟨[_, _, _, _, _, _, _, _, _, _, _, _, _, _, _, _, _, _, _, _, _, _, _, _, _], rfl, ?_⟩
    refine wp_region rfl rfl ?_
    refine wo_apv rfl rfl rfl rfl rfl ?_
    refine wo_nil ?_
    refine ⟨[_, _, _, _, _, _, _, _, _, _, _, _, _, _, _, _, _, _, _, _, _, _, _, _, _], rfl, ?_⟩
    refine wp_seq ?_
    refine wp_seq ?_
    refine wp_region rfl rfl ?_
    refine wo_mpv rfl rfl rfl rfl rfl ?_
    refine wo_bsplit rfl rfl rfl rfl rfl (fun c4_1 => ?_) (fun c4_1 => ?_)
    ·
      refine wo_nil ?_
      refine ⟨[_, _, _, _, _, _, _, _, _, _, _, _, _, _, _, _, _, _, _, _, _, _, _, _, _], rfl, ?_⟩
      refine wp_true rfl ?_
      refine wp_seq ?_
      refine wp_region rfl rfl ?_
      refine wo_mpv rfl rfl rfl rfl rfl ?_
      refine wo_bin (v := .pv (.int .u64 _)) rfl rfl rfl rfl (shrN 16 65536 (by decide) (by decide) _) ?_
      refine wo_apv rfl rfl rfl rfl rfl ?_
      refine wo_nil ?_
      refine ⟨[_, _, _, _, _, _, _, _, _, _, _, _, _, _, _, _, _, _, _, _, _, _, _, _, _], rfl, ?_⟩
      refine wp_region rfl rfl ?_
      refine wo_mpv rfl rfl rfl rfl rfl ?_
      refine wo_bin rfl rfl rfl rfl rfl ?_
      refine wo_apv rfl rfl rfl rfl rfl ?_
      refine wo_nil ?_
      refine ⟨[_, _, _, _, _, _, _, _, _, _, _, _, _, _, _, _, _, _, _, _, _, _, _, _, _], rfl, ?_⟩
      refine wp_seq ?_
      refine wp_seq ?_
      refine wp_region rfl rfl ?_
      refine wo_mpv rfl rfl rfl rfl rfl ?_
      refine wo_bsplit rfl rfl rfl rfl rfl (fun c7_1 => ?_) (fun c7_1 => ?_)
      ·
        refine wo_nil ?_
        refine ⟨[_, _, _, _, _, _, _, _, _, _, _, _, _, _, _, _, _, _, _, _, _, _, _, _, _], rfl, ?_⟩
        refine wp_true rfl ?_
        refine wp_seq ?_
        refine wp_region rfl rfl ?_
        refine wo_mpv rfl rfl rfl rfl rfl ?_
        refine wo_bin (v := .pv (.int .u64 _)) rfl rfl rfl rfl (shrN 8 256 (by decide) (by decide) _) ?_
        refine wo_apv rfl rfl rfl rfl rfl ?_
        refine wo_nil ?_
        refine ⟨[_, _, _, _, _, _, _, _, _, _, _, _, _, _, _, _, _, _, _, _, _, _, _, _, _], rfl, ?_⟩
        refine wp_region rfl rfl ?_
        refine wo_mpv rfl rfl rfl rfl rfl ?_
        refine wo_bin rfl rfl rfl rfl rfl ?_
        refine wo_apv rfl rfl rfl rfl rfl ?_
        refine wo_nil ?_
        refine ⟨[_, _, _, _, _, _, _, _, _, _, _, _, _, _, _, _, _, _, _, _, _, _, _, _, _], rfl, ?_⟩
        refine wp_seq ?_
        refine wp_region rfl rfl ?_
        refine wo_mpv rfl rfl rfl rfl rfl ?_
        refine wo_mpv rfl rfl rfl rfl rfl ?_
        refine wo_conv (v := .pv (.int .u8 _)) rfl rfl rfl rfl ((wconv t22 t5 rfl rfl).trans (iV (wrapU8 (by omega) (by omega)))) rfl ?_
        refine wo_index (v := .pv (.int .u8 _)) t9 rfl rfl rfl rfl (tab_ok (by omega)) ?_
        refine wo_conv (v := .pv (.int .i64 _)) rfl rfl rfl rfl ((wconv t5 t3 rfl rfl).trans (iV (wrapLen _))) rfl ?_
        refine wo_bin (v := .pv (.int .i64 (lenF 64 n : Nat))) rfl rfl rfl rfl (iV (by rw [lenFin (by decide) (by decide)]; (first | rw [l32 (by omega)] | rw [f32' (by omega)]); (first | rw [l16 (by omega)] | rw [f16' (by omega)]); (first | rw [l8 (by omega)] | rw [f8' (by omega)]); simp [IntKind.wrap, IntKind.signed, IntKind.bits] <;> omega)) ?_
        refine wo_apv rfl rfl rfl rfl rfl ?_
        refine wo_nil ?_
        refine ⟨[_, _, _, _, _, _, _, _, _, _, _, _, _, _, _, _, _, _, _, _, _, _, _, _, _], rfl, ?_⟩
        refine wp_ret ?_
        exact ⟨trivial, _, rfl, leave_pure⟩
      ·
        refine wo_nil ?_
        refine ⟨[_, _, _, _, _, _, _, _, _, _, _, _, _, _, _, _, _, _, _, _, _, _, _, _, _], rfl, ?_⟩
        refine wp_false rfl ?_
        refine wp_skip ?_
        refine wp_seq ?_
        refine wp_region rfl rfl ?_
        refine wo_mpv rfl rfl rfl rfl rfl ?_
        refine wo_mpv rfl rfl rfl rfl rfl ?_
        refine wo_conv (v := .pv (.int .u8 _)) rfl rfl rfl rfl ((wconv t22 t5 rfl rfl).trans (iV (wrapU8 (by omega) (by omega)))) rfl ?_
        refine wo_index (v := .pv (.int .u8 _)) t9 rfl rfl rfl rfl (tab_ok (by omega)) ?_
        refine wo_conv (v := .pv (.int .i64 _)) rfl rfl rfl rfl ((wconv t5 t3 rfl rfl).trans (iV (wrapLen _))) rfl ?_
        refine wo_bin (v := .pv (.int .i64 (lenF 64 n : Nat))) rfl rfl rfl rfl (iV (by rw [lenFin (by decide) (by decide)]; (first | rw [l32 (by omega)] | rw [f32' (by omega)]); (first | rw [l16 (by omega)] | rw [f16' (by omega)]); (first | rw [l8 (by omega)] | rw [f8' (by omega)]); simp [IntKind.wrap, IntKind.signed, IntKind.bits] <;> omega)) ?_
        refine wo_apv rfl rfl rfl rfl rfl ?_
        refine wo_nil ?_
        refine ⟨[_, _, _, _, _, _, _, _, _, _, _, _, _, _, _, _, _, _, _, _, _, _, _, _, _], rfl, ?_⟩
        refine wp_ret ?_
        exact ⟨trivial, _, rfl, leave_pure⟩
    ·
      refine wo_nil ?_
      refine ⟨[_, _, _, _, _, _, _, _, _, _, _, _, _, _, _, _, _, _, _, _, _, _, _, _, _], rfl, ?_⟩
      refine wp_false rfl ?_
      refine wp_skip ?_
      refine wp_seq ?_
      refine wp_seq ?_
      refine wp_region rfl rfl ?_
      refine wo_mpv rfl rfl rfl rfl rfl ?_
      refine wo_bsplit rfl rfl rfl rfl rfl (fun c7_1 => ?_) (fun c7_1 => ?_)
      ·
        refine wo_nil ?_
        refine ⟨[_, _, _, _, _, _, _, _, _, _, _, _, _, _, _, _, _, _, _, _, _, _, _, _, _], rfl, ?_⟩
        refine wp_true rfl ?_
        refine wp_seq ?_
        refine wp_region rfl rfl ?_
        refine wo_mpv rfl rfl rfl rfl rfl ?_
        refine wo_bin (v := .pv (.int .u64 _)) rfl rfl rfl rfl (shrN 8 256 (by decide) (by decide) _) ?_
        refine wo_apv rfl rfl rfl rfl rfl ?_
        refine wo_nil ?_
        refine ⟨[_, _, _, _, _, _, _, _, _, _, _, _, _, _, _, _, _, _, _, _, _, _, _, _, _], rfl, ?_⟩
        refine wp_region rfl rfl ?_
        refine wo_mpv rfl rfl rfl rfl rfl ?_
        refine wo_bin rfl rfl rfl rfl rfl ?_
        refine wo_apv rfl rfl rfl rfl rfl ?_
        refine wo_nil ?_
        refine ⟨[_, _, _, _, _, _, _, _, _, _, _, _, _, _, _, _, _, _, _, _, _, _, _, _, _], rfl, ?_⟩
        refine wp_seq ?_
        refine wp_region rfl rfl ?_
        refine wo_mpv rfl rfl rfl rfl rfl ?_
        refine wo_mpv rfl rfl rfl rfl rfl ?_
        refine wo_conv (v := .pv (.int .u8 _)) rfl rfl rfl rfl ((wconv t22 t5 rfl rfl).trans (iV (wrapU8 (by omega) (by omega)))) rfl ?_
        refine wo_index (v := .pv (.int .u8 _)) t9 rfl rfl rfl rfl (tab_ok (by omega)) ?_
        refine wo_conv (v := .pv (.int .i64 _)) rfl rfl rfl rfl ((wconv t5 t3 rfl rfl).trans (iV (wrapLen _))) rfl ?_
        refine wo_bin (v := .pv (.int .i64 (lenF 64 n : Nat))) rfl rfl rfl rfl (iV (by rw [lenFin (by decide) (by decide)]; (first | rw [l32 (by omega)] | rw [f32' (by omega)]); (first | rw [l16 (by omega)] | rw [f16' (by omega)]); (first | rw [l8 (by omega)] | rw [f8' (by omega)]); simp [IntKind.wrap, IntKind.signed, IntKind.bits] <;> omega)) ?_
        refine wo_apv rfl rfl rfl rfl rfl ?_
        refine wo_nil ?_
        refine ⟨[_, _, _, _, _, _, _, _, _, _, _, _, _, _, _, _, _, _, _, _, _, _, _, _, _], rfl, ?_⟩
        refine wp_ret ?_
        exact ⟨trivial, _, rfl, leave_pure⟩
      ·
        refine wo_nil ?_
        refine ⟨[_, _, _, _, _, _, _, _, _, _, _, _, _, _, _, _, _, _, _, _, _, _, _, _, _], rfl, ?_⟩
        refine wp_false rfl ?_
        refine wp_skip ?_
        refine wp_seq ?_
        refine wp_region rfl rfl ?_
        refine wo_mpv rfl rfl rfl rfl rfl ?_
        refine wo_mpv rfl rfl rfl rfl rfl ?_
        refine wo_conv (v := .pv (.int .u8 _)) rfl rfl rfl rfl ((wconv t22 t5 rfl rfl).trans (iV (wrapU8 (by omega) (by omega)))) rfl ?_
        refine wo_index (v := .pv (.int .u8 _)) t9 rfl rfl rfl rfl (tab_ok (by omega)) ?_
        refine wo_conv (v := .pv (.int .i64 _)) rfl rfl rfl rfl ((wconv t5 t3 rfl rfl).trans (iV (wrapLen _))) rfl ?_
        refine wo_bin (v := .pv (.int .i64 (lenF 64 n : Nat))) rfl rfl rfl rfl (iV (by rw [lenFin (by decide) (by decide)]; (first | rw [l32 (by omega)] | rw [f32' (by omega)]); (first | rw [l16 (by omega)] | rw [f16' (by omega)]); (first | rw [l8 (by omega)] | rw [f8' (by omega)]); simp [IntKind.wrap, IntKind.signed, IntKind.bits] <;> omega)) ?_
        refine wo_apv rfl rfl rfl rfl rfl ?_
        refine wo_nil ?_
        refine ⟨[_, _, _, _, _, _, _, _, _, _, _, _, _, _, _, _, _, _, _, _, _, _, _, _, _], rfl, ?_⟩
        refine wp_ret ?_
        exact ⟨trivial, _, rfl, leave_pure⟩
  ·
    refine wo_nil ?_
    refine ⟨[_, _, _, _, _, _, _, _, _, _, _, _, _, _, _, _, _, _, _, _, _, _, _, _, _], rfl, ?_⟩
    refine wp_false rfl ?_
    refine wp_skip ?_
    refine wp_seq ?_
    refine wp_seq ?_
    refine wp_region rfl rfl ?_
    refine wo_mpv rfl rfl rfl rfl rfl ?_
    refine wo_bsplit rfl rfl rfl rfl rfl (fun c4_1 => ?_) (fun c4_1 => ?_)
    ·
      refine wo_nil ?_
      refine ⟨[_, _, _, _, _, _, _, _, _, _, _, _, _, _, _, _, _, _, _, _, _, _, _, _, _], rfl, ?_⟩
      refine wp_true rfl ?_
      refine wp_seq ?_
      refine wp_region rfl rfl ?_
      refine wo_mpv rfl rfl rfl rfl rfl ?_
      refine wo_bin (v := .pv (.int .u64 _)) rfl rfl rfl rfl (shrN 16 65536 (by decide) (by decide) _) ?_
      refine wo_apv rfl rfl rfl rfl rfl ?_
      refine wo_nil ?_
      refine ⟨[_, _, _, _, _, _, _, _, _, _, _, _, _, _, _, _, _, _, _, _, _, _, _, _, _], rfl, ?_⟩
      refine wp_region rfl rfl ?_
      refine wo_mpv rfl rfl rfl rfl rfl ?_
      refine wo_bin rfl rfl rfl rfl rfl ?_
      refine wo_apv rfl rfl rfl rfl rfl ?_
      refine wo_nil ?_
      refine ⟨[_, _, _, _, _, _, _, _, _, _, _, _, _, _, _, _, _, _, _, _, _, _, _, _, _], rfl, ?_⟩
      refine wp_seq ?_
      refine wp_seq ?_
      refine wp_region rfl rfl ?_
      refine wo_mpv rfl rfl rfl rfl rfl ?_
      refine wo_bsplit rfl rfl rfl rfl rfl (fun c7_1 => ?_) (fun c7_1 => ?_)
      ·
        refine wo_nil ?_
        refine ⟨[_, _, _, _, _, _, _, _, _, _, _, _, _, _, _, _, _, _, _, _, _, _, _, _, _], rfl, ?_⟩
        refine wp_true rfl ?_
        refine wp_seq ?_
        refine wp_region rfl rfl ?_
        refine wo_mpv rfl rfl rfl rfl rfl ?_
        refine wo_bin (v := .pv (.int .u64 _)) rfl rfl rfl rfl (shrN 8 256 (by decide) (by decide) _) ?_
        refine wo_apv rfl rfl rfl rfl rfl ?_
        refine wo_nil ?_
        refine ⟨[_, _, _, _, _, _, _, _, _, _, _, _, _, _, _, _, _, _, _, _, _, _, _, _, _], rfl, ?_⟩
        refine wp_region rfl rfl ?_
        refine wo_mpv rfl rfl rfl rfl rfl ?_
        refine wo_bin rfl rfl rfl rfl rfl ?_
        refine wo_apv rfl rfl rfl rfl rfl ?_
        refine wo_nil ?_
        refine ⟨[_, _, _, _, _, _, _, _, _, _, _, _, _, _, _, _, _, _, _, _, _, _, _, _, _], rfl, ?_⟩
        refine wp_seq ?_
        refine wp_region rfl rfl ?_
        refine wo_mpv rfl rfl rfl rfl rfl ?_
        refine wo_mpv rfl rfl rfl rfl rfl ?_
        refine wo_conv (v := .pv (.int .u8 _)) rfl rfl rfl rfl ((wconv t22 t5 rfl rfl).trans (iV (wrapU8 (by omega) (by omega)))) rfl ?_
        refine wo_index (v := .pv (.int .u8 _)) t9 rfl rfl rfl rfl (tab_ok (by omega)) ?_
        refine wo_conv (v := .pv (.int .i64 _)) rfl rfl rfl rfl ((wconv t5 t3 rfl rfl).trans (iV (wrapLen _))) rfl ?_
        refine wo_bin (v := .pv (.int .i64 (lenF 64 n : Nat))) rfl rfl rfl rfl (iV (by rw [lenFin (by decide) (by decide)]; (first | rw [l32 (by omega)] | rw [f32' (by omega)]); (first | rw [l16 (by omega)] | rw [f16' (by omega)]); (first | rw [l8 (by omega)] | rw [f8' (by omega)]); simp [IntKind.wrap, IntKind.signed, IntKind.bits] <;> omega)) ?_
        refine wo_apv rfl rfl rfl rfl rfl ?_
        refine wo_nil ?_
        refine ⟨[_, _, _, _, _, _, _, _, _, _, _, _, _, _, _, _, _, _, _, _, _, _, _, _, _], rfl, ?_⟩
        refine wp_ret ?_
        exact ⟨trivial, _, rfl, leave_pure⟩
      ·
        refine wo_nil ?_
        refine ⟨[_, _, _, _, _, _, _, _, _, _, _, _, _, _, _, _, _, _, _, _, _, _, _, _, _], rfl, ?_⟩
        refine wp_false rfl ?_
        refine wp_skip ?_
        refine wp_seq ?_
        refine wp_region rfl rfl ?_
        refine wo_mpv rfl rfl rfl rfl rfl ?_
        refine wo_mpv rfl rfl rfl rfl rfl ?_
        refine wo_conv (v := .pv (.int .u8 _)) rfl rfl rfl rfl ((wconv t22 t5 rfl rfl).trans (iV (wrapU8 (by omega) (by omega)))) rfl ?_
        refine wo_index (v := .pv (.int .u8 _)) t9 rfl rfl rfl rfl (tab_ok (by omega)) ?_
        refine wo_conv (v := .pv (.int .i64 _)) rfl rfl rfl rfl ((wconv t5 t3 rfl rfl).trans (iV (wrapLen _))) rfl ?_
        refine wo_bin (v := .pv (.int .i64 (lenF 64 n : Nat))) rfl rfl rfl rfl (iV (by rw [lenFin (by decide) (by decide)]; (first | rw [l32 (by omega)] | rw [f32' (by omega)]); (first | rw [l16 (by omega)] | rw [f16' (by omega)]); (first | rw [l8 (by omega)] | rw [f8' (by omega)]); simp [IntKind.wrap, IntKind.signed, IntKind.bits] <;> omega)) ?_
        refine wo_apv rfl rfl rfl rfl rfl ?_
        refine wo_nil ?_
        refine ⟨[_, _, _, _, _, _, _, _, _, _, _, _, _, _, _, _, _, _, _, _, _, _, _, _, _], rfl, ?_⟩
        refine wp_ret ?_
        exact ⟨trivial, _, rfl, leave_pure⟩
    ·
      refine wo_nil ?_
      refine ⟨[_, _, _, _, _, _, _, _, _, _, _, _, _, _, _, _, _, _, _, _, _, _, _, _, _], rfl, ?_⟩
      refine wp_false rfl ?_
      refine wp_skip ?_
      refine wp_seq ?_
      refine wp_seq ?_
      refine wp_region rfl rfl ?_
      refine wo_mpv rfl rfl rfl rfl rfl ?_
      refine wo_bsplit rfl rfl rfl rfl rfl (fun c7_1 => ?_) (fun c7_1 => ?_)
      ·
        refine wo_nil ?_
        refine ⟨[_, _, _, _, _, _, _, _, _, _, _, _, _, _, _, _, _, _, _, _, _, _, _, _, _], rfl, ?_⟩
        refine wp_true rfl ?_
        refine wp_seq ?_
        refine wp_region rfl rfl ?_
        refine wo_mpv rfl rfl rfl rfl rfl ?_
        refine wo_bin (v := .pv (.int .u64 _)) rfl rfl rfl rfl (shrN 8 256 (by decide) (by decide) _) ?_
        refine wo_apv rfl rfl rfl rfl rfl ?_
        refine wo_nil ?_
        refine ⟨[_, _, _, _, _, _, _, _, _, _, _, _, _, _, _, _, _, _, _, _, _, _, _, _, _], rfl, ?_⟩
        refine wp_region rfl rfl ?_
        refine wo_mpv rfl rfl rfl rfl rfl ?_
        refine wo_bin rfl rfl rfl rfl rfl ?_
        refine wo_apv rfl rfl rfl rfl rfl ?_
        refine wo_nil ?_
        refine ⟨[_, _, _, _, _, _, _, _, _, _, _, _, _, _, _, _, _, _, _, _, _, _, _, _, _], rfl, ?_⟩
        refine wp_seq ?_
        refine wp_region rfl rfl ?_
        refine wo_mpv rfl rfl rfl rfl rfl ?_
        refine wo_mpv rfl rfl rfl rfl rfl ?_
        refine wo_conv (v := .pv (.int .u8 _)) rfl rfl rfl rfl ((wconv t22 t5 rfl rfl).trans (iV (wrapU8 (by omega) (by omega)))) rfl ?_
        refine wo_index (v := .pv (.int .u8 _)) t9 rfl rfl rfl rfl (tab_ok (by omega)) ?_
        refine wo_conv (v := .pv (.int .i64 _)) rfl rfl rfl rfl ((wconv t5 t3 rfl rfl).trans (iV (wrapLen _))) rfl ?_
        refine wo_bin (v := .pv (.int .i64 (lenF 64 n : Nat))) rfl rfl rfl rfl (iV (by rw [lenFin (by decide) (by decide)]; (first | rw [l32 (by omega)] | rw [f32' (by omega)]); (first | rw [l16 (by omega)] | rw [f16' (by omega)]); (first | rw [l8 (by omega)] | rw [f8' (by omega)]); simp [IntKind.wrap, IntKind.signed, IntKind.bits] <;> omega)) ?_
        refine wo_apv rfl rfl rfl rfl rfl ?_
        refine wo_nil ?_
        refine ⟨[_, _, _, _, _, _, _, _, _, _, _, _, _, _, _, _, _, _, _, _, _, _, _, _, _], rfl, ?_⟩
        refine wp_ret ?_
        exact ⟨trivial, _, rfl, leave_pure⟩
      ·
        refine wo_nil ?_
        refine ⟨[_, _, _, _, _, _, _, _, _, _, _, _, _, _, _, _, _, _, _, _, _, _, _, _, _], rfl, ?_⟩
        refine wp_false rfl ?_
        refine wp_skip ?_
        refine wp_seq ?_
        refine wp_region rfl rfl ?_
        refine wo_mpv rfl rfl rfl rfl rfl ?_
        refine wo_mpv rfl rfl rfl rfl rfl ?_
        refine wo_conv (v := .pv (.int .u8 _)) rfl rfl rfl rfl ((wconv t22 t5 rfl rfl).trans (iV (wrapU8 (by omega) (by omega)))) rfl ?_
        refine wo_index (v := .pv (.int .u8 _)) t9 rfl rfl rfl rfl (tab_ok (by omega)) ?_
        refine wo_conv (v := .pv (.int .i64 _)) rfl rfl rfl rfl ((wconv t5 t3 rfl rfl).trans (iV (wrapLen _))) rfl ?_
        refine wo_bin (v := .pv (.int .i64 (lenF 64 n : Nat))) rfl rfl rfl rfl (iV (by rw [lenFin (by decide) (by decide)]; (first | rw [l32 (by omega)] | rw [f32' (by omega)]); (first | rw [l16 (by omega)] | rw [f16' (by omega)]); (first | rw [l8 (by omega)] | rw [f8' (by omega)]); simp [IntKind.wrap, IntKind.signed, IntKind.bits] <;> omega)) ?_
        refine wo_apv rfl rfl rfl rfl rfl ?_
        refine wo_nil ?_
        refine ⟨[_, _, _, _, _, _, _, _, _, _, _, _, _, _, _, _, _, _, _, _, _, _, _, _, _], rfl, ?_⟩
        refine wp_ret ?_
        exact ⟨trivial, _, rfl, leave_pure⟩
theorem log_ok {n : Nat} (hn : n < 2 ^ 64) (N : Nat) (hN : 2 ≤ N) : call G N 36 [.pv (.int .u64 n)] [] = some (.ret (.pv (.int .u64 (lenF 64 n : Nat))), []) := by
  obtain ⟨N, rfl⟩ : ∃ M, N = M + 1 := ⟨N - 1, by omega⟩
  have hl := lenF_le 64 n
  refine call_eq func36 rfl (show _ = [_, _, _, _, _, _] from rfl) ?_
  refine wp_seq ?_
  refine wp_region rfl rfl ?_
  refine wo_apv rfl rfl rfl rfl rfl ?_
  refine wo_nil ?_
  refine ⟨[_, _, _, _, _, _], rfl, ?_⟩
  refine wp_seq ?_
  refine wp_region rfl rfl ?_
  refine wo_mpv rfl rfl rfl rfl rfl ?_
  refine wo_call (v := .pv (.int .i64 (lenF 64 n : Nat))) (H' := []) rfl rfl rfl rfl rfl rfl ((cl54 _ _ _ _).trans (callPure_pv rfl (fun _ => rfl) (len64_ok hn _ (by omega)))) rfl rfl rfl ?_
  refine wo_conv (v := .pv (.int .u64 (lenF 64 n : Nat))) rfl rfl rfl rfl ((wconv t3 t22 rfl rfl).trans (iV (wrapU64 (by omega) (by omega)))) rfl ?_
  refine wo_apv rfl rfl rfl rfl rfl ?_
  refine wo_nil ?_
  refine ⟨[_, _, _, _, _, _], rfl, ?_⟩
  refine wp_ret ?_
  exact ⟨trivial, _, rfl, leave_pure⟩
theorem lz256 (N : Nat) (hN : 2 ≤ N) : call G N 68 [.pv (.int .u64 256)] [] = some (.ret (.pv (.int .i64 55)), []) := by
  obtain ⟨N, rfl⟩ : ∃ M, N = M + 1 := ⟨N - 1, by omega⟩
  refine call_eq func68 rfl (show _ = [_, _, _, _, _, _] from rfl) ?_
  refine wp_seq ?_
  refine wp_region rfl rfl ?_
  refine wo_apv rfl rfl rfl rfl rfl ?_
  refine wo_nil ?_
  refine ⟨[_, _, _, _, _, _], rfl, ?_⟩
  refine wp_seq ?_
  refine wp_region rfl rfl ?_
  refine wo_mpv rfl rfl rfl rfl rfl ?_
  refine wo_call (v := .pv (.int .i64 (lenF 64 256 : Nat))) (H' := []) rfl rfl rfl rfl rfl rfl ((cl54 _ _ _ _).trans (callPure_pv rfl (fun _ => rfl) (len64_ok (n := 256) (by decide) _ (by omega)))) rfl rfl rfl ?_
  refine wo_bin (v := .pv (.int .i64 55)) rfl rfl rfl rfl (iV (by decide)) ?_
  refine wo_apv rfl rfl rfl rfl rfl ?_
  refine wo_nil ?_
  refine ⟨[_, _, _, _, _, _], rfl, ?_⟩
  refine wp_ret ?_
  exact ⟨trivial, _, rfl, leave_pure⟩
end Go.Ab.Ytnfgpejdbmakkaa
