import Derived.Test.YtnfgpejdbmakkaaV2
namespace Go.Ab.Ytnfgpejdbmakkaa
open Go Go.Ab
open Go.Proofs.Try
set_option maxRecDepth 100000
set_option maxHeartbeats 1000000
set_option linter.unusedSimpArgs false
set_option linter.unusedVariables false

/-! Draws -/
def xr (a b : Int) : Int := IntKind.u64.wrap ((BitVec.ofInt IntKind.u64.bits a ^^^ BitVec.ofInt IntKind.u64.bits b).toNat : Int)
def dr0 (seed i : Int) : Int := IntKind.u64.wrap (seed + IntKind.u64.wrap (11400714819323198485 * IntKind.u64.wrap (IntKind.u64.wrap i + 1)))
def mulU (c x : Int) : Int := IntKind.u64.wrap (x * c)
def drawM (seed i : Int) : Int := xr (mulU 10723151780598845931 (xr (mulU 13787848793156543929 (xr (dr0 seed i) (dr0 seed i / 1073741824))) (mulU 13787848793156543929 (xr (dr0 seed i) (dr0 seed i / 1073741824)) / 134217728)))
  (mulU 10723151780598845931 (xr (mulU 13787848793156543929 (xr (dr0 seed i) (dr0 seed i / 1073741824))) (mulU 13787848793156543929 (xr (dr0 seed i) (dr0 seed i / 1073741824)) / 134217728)) / 2147483648)
theorem shrU (k : Nat) (d : Int) (hk : k < 64) (hd : (2 : Int) ^ k = d) (x : Int) : shiftBin .shr .u64 x k = some (.pv (.int .u64 (x / d))) := by
  subst hd
  unfold shiftBin
  rw [if_neg (by omega)]
  have e : min (k : Int).toNat IntKind.u64.bits = k := by simp [IntKind.bits]; omega
  simp only [e]
  rw [Int.fdiv_eq_ediv_of_nonneg _ (Int.le_of_lt (Int.pow_pos (by decide)))]
theorem wrapU_range (x : Int) : 0 ≤ IntKind.u64.wrap x ∧ IntKind.u64.wrap x < 18446744073709551616 := by
  simp [IntKind.wrap, IntKind.signed, IntKind.bits]; omega
theorem quoU (d : Int) (hd : 0 < d) {x : Int} (hx : 0 ≤ x) (hx2 : x < 18446744073709551616) : some (AV.pv (.int .u64 (IntKind.u64.wrap (x.tdiv d)))) = some (.pv (.int .u64 (x / d))) := by
  rw [Int.tdiv_eq_ediv_of_nonneg hx]
  have h1 : 0 ≤ x / d := Int.ediv_nonneg hx (by omega)
  have h2 : x / d ≤ x := Int.ediv_le_self _ hx
  rw [wrapU64 h1 (by omega)]
theorem draw_ok (seed i : Int) (N : Nat) (hN : 1 ≤ N) : call G N 28 [.pv (.int .u64 seed), .pv (.int .i64 i)] [] = some (.ret (.pv (.int .u64 (drawM seed i))), []) := by
  obtain ⟨N, rfl⟩ : ∃ M, N = M + 1 := ⟨N - 1, by omega⟩
  refine call_eq func28 rfl (show _ = [_, _, _, _, _, _, _, _, _, _, _, _, _, _, _, _, _, _, _, _, _, _, _, _, _, _] from rfl) ?_
  refine wp_seq ?_
  refine wp_region rfl rfl ?_
  refine wo_apv rfl rfl rfl rfl rfl ?_
  refine wo_nil ?_
  refine ⟨[_, _, _, _, _, _, _, _, _, _, _, _, _, _, _, _, _, _, _, _, _, _, _, _, _, _], rfl, ?_⟩
  refine wp_seq ?_
  refine wp_region rfl rfl ?_
  refine wo_mpv rfl rfl rfl rfl rfl ?_
  refine wo_mpv rfl rfl rfl rfl rfl ?_
  refine wo_convi t3 t22 rfl rfl rfl rfl rfl rfl ?_
  refine wo_bin rfl rfl rfl rfl rfl ?_
  refine wo_bin rfl rfl rfl rfl rfl ?_
  refine wo_bin (v := .pv (.int .u64 (dr0 seed i))) rfl rfl rfl rfl (rfl) ?_
  refine wo_apv rfl rfl rfl rfl rfl ?_
  refine wo_nil ?_
  refine ⟨[_, _, _, _, _, _, _, _, _, _, _, _, _, _, _, _, _, _, _, _, _, _, _, _, _, _], rfl, ?_⟩
  refine wp_seq ?_
  refine wp_region rfl rfl ?_
  refine wo_mpv rfl rfl rfl rfl rfl ?_
  refine wo_mpv rfl rfl rfl rfl rfl ?_
  refine wo_bin (v := .pv (.int .u64 ((dr0 seed i) / 1073741824))) rfl rfl rfl rfl (shrU 30 1073741824 (by decide) (by decide) _) ?_
  refine wo_bin (v := .pv (.int .u64 (xr (dr0 seed i) ((dr0 seed i) / 1073741824)))) rfl rfl rfl rfl (rfl) ?_
  refine wo_bin (v := .pv (.int .u64 (mulU 13787848793156543929 (xr (dr0 seed i) ((dr0 seed i) / 1073741824))))) rfl rfl rfl rfl (rfl) ?_
  refine wo_apv rfl rfl rfl rfl rfl ?_
  refine wo_nil ?_
  refine ⟨[_, _, _, _, _, _, _, _, _, _, _, _, _, _, _, _, _, _, _, _, _, _, _, _, _, _], rfl, ?_⟩
  refine wp_seq ?_
  refine wp_region rfl rfl ?_
  refine wo_mpv rfl rfl rfl rfl rfl ?_
  refine wo_mpv rfl rfl rfl rfl rfl ?_
  refine wo_bin (v := .pv (.int .u64 ((mulU 13787848793156543929 (xr (dr0 seed i) ((dr0 seed i) / 1073741824))) / 134217728))) rfl rfl rfl rfl (shrU 27 134217728 (by decide) (by decide) _) ?_
  refine wo_bin (v := .pv (.int .u64 (xr (mulU 13787848793156543929 (xr (dr0 seed i) ((dr0 seed i) / 1073741824))) ((mulU 13787848793156543929 (xr (dr0 seed i) ((dr0 seed i) / 1073741824))) / 134217728)))) rfl rfl rfl rfl (rfl) ?_
  refine wo_bin (v := .pv (.int .u64 (mulU 10723151780598845931 (xr (mulU 13787848793156543929 (xr (dr0 seed i) ((dr0 seed i) / 1073741824))) ((mulU 13787848793156543929 (xr (dr0 seed i) ((dr0 seed i) / 1073741824))) / 134217728))))) rfl rfl rfl rfl (rfl) ?_
  refine wo_apv rfl rfl rfl rfl rfl ?_
  refine wo_nil ?_
  refine ⟨[_, _, _, _, _, _, _, _, _, _, _, _, _, _, _, _, _, _, _, _, _, _, _, _, _, _], rfl, ?_⟩
  refine wp_seq ?_
  refine wp_region rfl rfl ?_
  refine wo_mpv rfl rfl rfl rfl rfl ?_
  refine wo_mpv rfl rfl rfl rfl rfl ?_
  refine wo_bin (v := .pv (.int .u64 ((mulU 10723151780598845931 (xr (mulU 13787848793156543929 (xr (dr0 seed i) ((dr0 seed i) / 1073741824))) ((mulU 13787848793156543929 (xr (dr0 seed i) ((dr0 seed i) / 1073741824))) / 134217728))) / 2147483648))) rfl rfl rfl rfl (shrU 31 2147483648 (by decide) (by decide) _) ?_
  refine wo_bin (v := .pv (.int .u64 (drawM seed i))) rfl rfl rfl rfl (rfl) ?_
  refine wo_apv rfl rfl rfl rfl rfl ?_
  refine wo_nil ?_
  refine ⟨[_, _, _, _, _, _, _, _, _, _, _, _, _, _, _, _, _, _, _, _, _, _, _, _, _, _], rfl, ?_⟩
  refine wp_ret ?_
  exact ⟨trivial, _, rfl, leave_pure⟩
theorem rdraw_ok (seed i : Int) (N : Nat) (hN : 1 ≤ N) : call G N 29 [.pv (.int .u64 seed), .pv (.int .i64 i)] [] = some (.ret (.pv (.int .u64 (drawM seed i))), []) := by
  obtain ⟨N, rfl⟩ : ∃ M, N = M + 1 := ⟨N - 1, by omega⟩
  refine call_eq func29 rfl (show _ = [_, _, _, _, _, _, _, _, _, _, _, _, _, _, _, _, _, _, _, _, _, _, _, _, _, _, _, _] from rfl) ?_
  refine wp_seq ?_
  refine wp_region rfl rfl ?_
  refine wo_apv rfl rfl rfl rfl rfl ?_
  refine wo_nil ?_
  refine ⟨[_, _, _, _, _, _, _, _, _, _, _, _, _, _, _, _, _, _, _, _, _, _, _, _, _, _, _, _], rfl, ?_⟩
  refine wp_seq ?_
  refine wp_region rfl rfl ?_
  refine wo_mpv rfl rfl rfl rfl rfl ?_
  refine wo_mpv rfl rfl rfl rfl rfl ?_
  refine wo_convi t3 t22 rfl rfl rfl rfl rfl rfl ?_
  refine wo_bin rfl rfl rfl rfl rfl ?_
  refine wo_bin rfl rfl rfl rfl rfl ?_
  refine wo_bin (v := .pv (.int .u64 (dr0 seed i))) rfl rfl rfl rfl (rfl) ?_
  refine wo_apv rfl rfl rfl rfl rfl ?_
  refine wo_nil ?_
  refine ⟨[_, _, _, _, _, _, _, _, _, _, _, _, _, _, _, _, _, _, _, _, _, _, _, _, _, _, _, _], rfl, ?_⟩
  refine wp_seq ?_
  refine wp_region rfl rfl ?_
  refine wo_mpv rfl rfl rfl rfl rfl ?_
  refine wo_mpv rfl rfl rfl rfl rfl ?_
  refine wo_bin (v := .pv (.int .u64 ((dr0 seed i) / 1073741824))) rfl rfl rfl rfl ((quoU 1073741824 (by decide) (wrapU_range _).1 (wrapU_range _).2)) ?_
  refine wo_bin (v := .pv (.int .u64 (xr (dr0 seed i) ((dr0 seed i) / 1073741824)))) rfl rfl rfl rfl (rfl) ?_
  refine wo_apv rfl rfl rfl rfl rfl ?_
  refine wo_nil ?_
  refine ⟨[_, _, _, _, _, _, _, _, _, _, _, _, _, _, _, _, _, _, _, _, _, _, _, _, _, _, _, _], rfl, ?_⟩
  refine wp_seq ?_
  refine wp_region rfl rfl ?_
  refine wo_mpv rfl rfl rfl rfl rfl ?_
  refine wo_bin (v := .pv (.int .u64 (mulU 13787848793156543929 (xr (dr0 seed i) ((dr0 seed i) / 1073741824))))) rfl rfl rfl rfl (rfl) ?_
  refine wo_apv rfl rfl rfl rfl rfl ?_
  refine wo_nil ?_
  refine ⟨[_, _, _, _, _, _, _, _, _, _, _, _, _, _, _, _, _, _, _, _, _, _, _, _, _, _, _, _], rfl, ?_⟩
  refine wp_seq ?_
  refine wp_region rfl rfl ?_
  refine wo_mpv rfl rfl rfl rfl rfl ?_
  refine wo_mpv rfl rfl rfl rfl rfl ?_
  refine wo_bin (v := .pv (.int .u64 ((mulU 13787848793156543929 (xr (dr0 seed i) ((dr0 seed i) / 1073741824))) / 134217728))) rfl rfl rfl rfl ((quoU 134217728 (by decide) (wrapU_range _).1 (wrapU_range _).2)) ?_
  refine wo_bin (v := .pv (.int .u64 (xr (mulU 13787848793156543929 (xr (dr0 seed i) ((dr0 seed i) / 1073741824))) ((mulU 13787848793156543929 (xr (dr0 seed i) ((dr0 seed i) / 1073741824))) / 134217728)))) rfl rfl rfl rfl (rfl) ?_
  refine wo_apv rfl rfl rfl rfl rfl ?_
  refine wo_nil ?_
  refine ⟨[_, _, _, _, _, _, _, _, _, _, _, _, _, _, _, _, _, _, _, _, _, _, _, _, _, _, _, _], rfl, ?_⟩
  refine wp_seq ?_
  refine wp_region rfl rfl ?_
  refine wo_mpv rfl rfl rfl rfl rfl ?_
  refine wo_bin (v := .pv (.int .u64 (mulU 10723151780598845931 (xr (mulU 13787848793156543929 (xr (dr0 seed i) ((dr0 seed i) / 1073741824))) ((mulU 13787848793156543929 (xr (dr0 seed i) ((dr0 seed i) / 1073741824))) / 134217728))))) rfl rfl rfl rfl (rfl) ?_
  refine wo_apv rfl rfl rfl rfl rfl ?_
  refine wo_nil ?_
  refine ⟨[_, _, _, _, _, _, _, _, _, _, _, _, _, _, _, _, _, _, _, _, _, _, _, _, _, _, _, _], rfl, ?_⟩
  refine wp_seq ?_
  refine wp_region rfl rfl ?_
  refine wo_mpv rfl rfl rfl rfl rfl ?_
  refine wo_mpv rfl rfl rfl rfl rfl ?_
  refine wo_bin (v := .pv (.int .u64 ((mulU 10723151780598845931 (xr (mulU 13787848793156543929 (xr (dr0 seed i) ((dr0 seed i) / 1073741824))) ((mulU 13787848793156543929 (xr (dr0 seed i) ((dr0 seed i) / 1073741824))) / 134217728))) / 2147483648))) rfl rfl rfl rfl ((quoU 2147483648 (by decide) (wrapU_range _).1 (wrapU_range _).2)) ?_
  refine wo_bin (v := .pv (.int .u64 (drawM seed i))) rfl rfl rfl rfl (rfl) ?_
  refine wo_apv rfl rfl rfl rfl rfl ?_
  refine wo_nil ?_
  refine ⟨[_, _, _, _, _, _, _, _, _, _, _, _, _, _, _, _, _, _, _, _, _, _, _, _, _, _, _, _], rfl, ?_⟩
  refine wp_ret ?_
  exact ⟨trivial, _, rfl, leave_pure⟩

/-! A reservoir -/
def VR (k : Nat) (l : List V) : AV := .ref k 0 l.length 4 0 l.length
def VB (l : List V) (fl : Nat) : Blk := .row 40 4 ⟨l.map V.row, 0, fl, 0, 0⟩
def RX (size seen : Nat) (held : AV) : Blk := .box [.pv (.int .i64 size), .pv (.int .i64 seen), held] false
theorem VB.app {nid k fl : Nat} {l : List V} {v : V} {look : Look} {n : Nat} (hn : n = l.length) (hl : look k = some (VB l fl)) (hfl : fl ≤ l.length) (hb : l.length ≤ 100000) :
    aAppend G.T nid 31 (.ref k 0 n 4 0 n) [v.row] look = some ⟨VR k (l ++ [v]), [(k, VB (l ++ [v]) fl)], []⟩ := by
  subst hn
  have hc : CanGrow ⟨l.map V.row, 0, fl, 0, 0⟩ 0 l.length := ⟨by simp [Row.valid, hfl], .inl ⟨rfl, by simp⟩⟩
  rw [aAppend_ref t31 rfl t40 rfl (by decide) (by simp [V.row]) hl hc (by simp; omega) (by simp; omega) (by simp)]
  have e1 : Go.Ab.grow (⟨l.map V.row, 0, fl, 0, 0⟩ : Row) 0 l.length [v.row] = (⟨(l ++ [v]).map V.row, 0, fl, 0, 0⟩, 0) := by
    simp [Go.Ab.grow]
  rw [e1]
  simp [VR, VB]
theorem VB.app_nil {nid : Nat} {v : V} {look : Look} : aAppend G.T nid 31 (.pv .nils) [v.row] look = some ⟨VR nid [v], [], [VB [v] 0]⟩ := by
  rw [aAppend_nil t31 rfl t40 rfl (by decide) (by simp [V.row]) (by simp) (by simp) (by simp)]
  rfl
theorem bs31 (nid : Nat) (v : V) : aBuildSlice G.T nid 31 1 [(0, .agg [.pv (.int .i64 v.k), .pv (.int .i64 v.n), .pv (.flt .f64 v.f), .pv (.str v.s)])] = some ⟨.ref nid 0 1 4 0 1, [], [VB [v] 0]⟩ := by
  simp [aBuildSlice, t31, t40, aBuildParts, AV.cells, AV.one, splice, List.range, List.range.loop, pures, chunk, VB, V.row]
theorem VB.store {k j fl : Nat} {l : List V} {w : V} {look : Look} (hl : look k = some (VB l fl)) (hfl : fl ≤ l.length) (hj : j < l.length) :
    aStore G.T 40 (.eptr k 0 l.length 4 j 0) (.agg [.pv (.int .i64 w.k), .pv (.int .i64 w.n), .pv (.flt .f64 w.f), .pv (.str w.s)]) look = some ⟨.undef, [(k, VB (l.set j w) l.length)], []⟩ := by
  refine (store_elem (esz := 4) (g := 0) (e := 40) (ps := w.row) (c := (l[j]).row) (r := ⟨l.map V.row, 0, fl, 0, 0⟩) t40 rfl rfl rfl rfl hl rfl (by simp) hfl hj rfl (by simp [List.getElem?_eq_getElem hj]) rfl).trans ?_
  simp [VB, List.map_set]
theorem mk31 {nid n : Nat} (hn : n ≤ 100000) : aMakeSlice G.T nid 31 (.pv (.int .i64 n)) (.pv (.int .i64 n)) = some ⟨.ref nid 0 n 4 0 n, [], [VB (List.replicate n V0) 0]⟩ := by
  simp only [aMakeSlice, t31, t40]
  rw [if_pos ⟨by decide, by omega, by omega, by omega, by omega⟩]
  simp [VB, V.row, V0]
theorem VB.copy {k : Nat} {l a : List V} {look : Look} {n : Nat} (hn : n = l.length) (hl : look k = some (VB a 0)) (ha : a.length = l.length) :
    aCopy G.T 31 (.ref k 0 n 4 0 n) (l.map V.row) look = some ⟨.pv (.int .i64 l.length), [(k, VB l l.length)], []⟩ := by
  subst hn
  simp only [aCopy, t31, t40, hl, VB]
  rw [if_pos (by simp [ha, V.row])]
  simp [List.drop_of_length_le, ha]
theorem rows_vr {look : Look} {k fl : Nat} {l : List V} (hl : look k = some (VB l fl)) (hfl : fl ≤ l.length) : srcRows (VR k l) look = some (l.map V.row) := by
  simp [srcRows, rowsOf, VR, VB, hl, Row.valid, hfl, List.take_of_length_le]
theorem rem_u {a b : Nat} (hb : 0 < b) : (if ((b : Nat) : Int) = 0 then none else some (AV.pv (.int .u64 (((a : Nat) : Int).tmod b)))) = some (.pv (.int .u64 ((a % b : Nat) : Int))) := by
  rw [if_neg (by omega)]; rfl

theorem build63 (s : Int) : aBuild G.T 63 [(0, .pv (.int .i64 s))] = some (.agg [.pv (.int .i64 s), .pv (.int .i64 0), .pv .nils]) := by
  simp [aBuild, t63, t3, t31, fieldPlaces, zeroAV, aBuildParts, AV.cells, splice]
theorem new_bad {size : Int} (h : size < 1 ∨ size > 400) (N : Nat) (hN : 1 ≤ N) : call G N 17 [.pv (.int .i64 size)] [] = some (.ret (.tup [.pv .nilp, .pv (.int .i64 2)]), []) := by
  obtain ⟨N, rfl⟩ : ∃ M, N = M + 1 := ⟨N - 1, by omega⟩
  refine call_eq func17 rfl (show _ = [_, _, _, _, _, _, _, _, _, _, _, _, _] from rfl) ?_
  refine wp_seq ?_
  refine wp_region rfl rfl ?_
  refine wo_apv rfl rfl rfl rfl rfl ?_
  refine wo_apv rfl rfl rfl rfl rfl ?_
  refine wo_nil ?_
  refine ⟨[_, _, _, _, _, _, _, _, _, _, _, _, _], rfl, ?_⟩
  refine wp_seq ?_
  refine wp_seq ?_
  refine wp_region rfl rfl ?_
  refine wo_mpv rfl rfl rfl rfl rfl ?_
  refine wo_bsplit rfl rfl rfl rfl rfl (fun c1_1 => ?_) (fun c1_1 => ?_)
  ·
    refine wo_mpv rfl rfl rfl rfl rfl ?_
    refine wo_off rfl rfl rfl ?_
    refine wo_off rfl rfl rfl ?_
    refine wo_pick (v := .pv _) rfl rfl rfl rfl rfl rfl ?_
    refine wo_nil ?_
    refine ⟨[_, _, _, _, _, _, _, _, _, _, _, _, _], rfl, ?_⟩
    refine wp_true rfl ?_
    refine wp_seq ?_
    refine wp_region rfl rfl ?_
    refine wo_apv rfl rfl rfl rfl rfl ?_
    refine wo_apv rfl rfl rfl rfl rfl ?_
    refine wo_nil ?_
    refine ⟨[_, _, _, _, _, _, _, _, _, _, _, _, _], rfl, ?_⟩
    refine wp_ret ?_
    first
      | (exfalso; omega)
      | exact ⟨trivial, _, rfl, leave_same (.inr rfl) rfl⟩
  ·
    refine wo_mpv rfl rfl rfl rfl rfl ?_
    refine wo_mpv rfl rfl rfl rfl rfl ?_
    refine wo_bsplit rfl rfl rfl rfl rfl (fun c1_4 => ?_) (fun c1_4 => ?_)
    ·
      refine wo_pick (v := .pv _) rfl rfl rfl rfl rfl rfl ?_
      refine wo_nil ?_
      refine ⟨[_, _, _, _, _, _, _, _, _, _, _, _, _], rfl, ?_⟩
      refine wp_true rfl ?_
      refine wp_seq ?_
      refine wp_region rfl rfl ?_
      refine wo_apv rfl rfl rfl rfl rfl ?_
      refine wo_apv rfl rfl rfl rfl rfl ?_
      refine wo_nil ?_
      refine ⟨[_, _, _, _, _, _, _, _, _, _, _, _, _], rfl, ?_⟩
      refine wp_ret ?_
      first
        | (exfalso; omega)
        | exact ⟨trivial, _, rfl, leave_same (.inr rfl) rfl⟩
    ·
      refine wo_pick (v := .pv _) rfl rfl rfl rfl rfl rfl ?_
      refine wo_nil ?_
      refine ⟨[_, _, _, _, _, _, _, _, _, _, _, _, _], rfl, ?_⟩
      refine wp_false rfl ?_
      refine wp_skip ?_
      refine wp_seq ?_
      refine wp_region rfl rfl ?_
      refine wo_mpv rfl rfl rfl rfl rfl ?_
      refine wo_build (v := .agg [.pv (.int .i64 size), .pv (.int .i64 0), .pv .nils]) rfl rfl rfl rfl (build63 _) ?_
      refine wo_box (cs := [_, _, _]) (H' := [_]) rfl rfl rfl rfl rfl rfl ?_
      refine wo_assign (v := .ptr _ _) rfl rfl rfl rfl rfl (fun h => AV.noConfusion h) ?_
      refine wo_apv rfl rfl rfl rfl rfl ?_
      refine wo_nil ?_
      refine ⟨[_, _, _, _, _, _, _, _, _, _, _, _, _], rfl, ?_⟩
      refine wp_ret ?_
      first
        | (exfalso; omega)
        | exact ⟨trivial, _, rfl, leave_same (.inr rfl) rfl⟩
theorem new_ok {size : Nat} (h1 : 1 ≤ size) (h2 : size ≤ 400) (N : Nat) (hN : 1 ≤ N) : call G N 17 [.pv (.int .i64 size)] [] = some (.ret (.tup [.ptr 0 0, .pv (.int .i64 0)]), [RX size 0 (.pv .nils)]) := by
  obtain ⟨N, rfl⟩ : ∃ M, N = M + 1 := ⟨N - 1, by omega⟩
  refine call_eq func17 rfl (show _ = [_, _, _, _, _, _, _, _, _, _, _, _, _] from rfl) ?_
  refine wp_seq ?_
  refine wp_region rfl rfl ?_
  refine wo_apv rfl rfl rfl rfl rfl ?_
  refine wo_apv rfl rfl rfl rfl rfl ?_
  refine wo_nil ?_
  refine ⟨[_, _, _, _, _, _, _, _, _, _, _, _, _], rfl, ?_⟩
  refine wp_seq ?_
  refine wp_seq ?_
  refine wp_region rfl rfl ?_
  refine wo_mpv rfl rfl rfl rfl rfl ?_
  refine wo_bin (v := .pv (.bool false)) rfl rfl rfl rfl (bF (by omega)) ?_
  refine wo_mpv rfl rfl rfl rfl rfl ?_
  refine wo_mpv rfl rfl rfl rfl rfl ?_
  refine wo_bin (v := .pv (.bool false)) rfl rfl rfl rfl (bF (by omega)) ?_
  refine wo_pick (v := .pv _) rfl rfl rfl rfl rfl rfl ?_
  refine wo_nil ?_
  refine ⟨[_, _, _, _, _, _, _, _, _, _, _, _, _], rfl, ?_⟩
  refine wp_false rfl ?_
  refine wp_skip ?_
  refine wp_seq ?_
  refine wp_region rfl rfl ?_
  refine wo_mpv rfl rfl rfl rfl rfl ?_
  refine wo_build (v := .agg [.pv (.int .i64 size), .pv (.int .i64 0), .pv .nils]) rfl rfl rfl rfl (build63 _) ?_
  refine wo_box (cs := [_, _, _]) (H' := [_]) rfl rfl rfl rfl rfl rfl ?_
  refine wo_assign (v := .ptr _ _) rfl rfl rfl rfl rfl (fun h => AV.noConfusion h) ?_
  refine wo_apv rfl rfl rfl rfl rfl ?_
  refine wo_nil ?_
  refine ⟨[_, _, _, _, _, _, _, _, _, _, _, _, _], rfl, ?_⟩
  refine wp_ret ?_
  exact ⟨trivial, _, rfl, leave_ren (order := [0]) (bs := [_]) (.inr rfl) rfl (by kernel_rfl) (by kernel_rfl) rfl (by kernel_rfl)⟩
theorem feed_bad_nil {size sn : Nat} (h1 : 1 ≤ size) {v : V} (hv : v.Ok) (hr : v.right = false) (draw : Nat) (N : Nat) (hN : 5 ≤ N) : call G N 19 [.ptr 0 0, .agg (v.row.map .pv), .pv (.int .u64 draw)] [RX size sn (.pv .nils)] = some (.ret (.pv (.int .i64 2)), [RX size sn (.pv .nils)]) := by
  obtain ⟨N, rfl⟩ : ∃ M, N = M + 1 := ⟨N - 1, by omega⟩
  refine call_eq func19 rfl (show _ = [_, _, _, _, _, _, _, _, _, _, _, _, _, _, _, _, _, _, _, _, _, _, _, _, _, _, _, _, _, _, _, _, _, _, _, _, _, _, _, _, _, _, _, _, _, _, _, _, _, _, _, _, _, _, _, _, _, _, _, _, _, _, _, _, _, _, _, _, _, _, _, _] from rfl) ?_
  refine wp_seq ?_
  refine wp_region rfl rfl ?_
  refine wo_box (cs := [_, _, _, _]) (H' := [_, _]) rfl rfl rfl rfl rfl rfl ?_
  refine wo_apv rfl rfl rfl rfl rfl ?_
  refine wo_nil ?_
  refine ⟨[_, _, _, _, _, _, _, _, _, _, _, _, _, _, _, _, _, _, _, _, _, _, _, _, _, _, _, _, _, _, _, _, _, _, _, _, _, _, _, _, _, _, _, _, _, _, _, _, _, _, _, _, _, _, _, _, _, _, _, _, _, _, _, _, _, _, _, _, _, _, _, _], rfl, ?_⟩
  refine wp_seq ?_
  refine wp_block ?_
  refine wp_seq ?_
  refine wp_region rfl rfl ?_
  refine wo_move (v := .ptr _ _) rfl rfl rfl rfl rfl (fun h => AV.noConfusion h) ?_
  refine wo_bint t33 rfl rfl rfl rfl rfl ?_
  refine wo_mpv rfl rfl rfl rfl rfl ?_
  refine wo_move (v := .ptr _ _) rfl rfl rfl rfl rfl (fun h => AV.noConfusion h) ?_
  refine wo_nilCheck (v := .ptr _ _) rfl rfl rfl rfl rfl rfl ?_
  refine wo_faddr t63 t3 rfl rfl rfl rfl rfl rfl rfl ?_
  refine wo_load t3 rfl rfl rfl rfl rfl rfl ?_
  refine wo_bin (v := .pv (.bool false)) rfl rfl rfl rfl (eF (by omega)) ?_
  refine wo_pick (v := .pv _) rfl rfl rfl rfl rfl rfl ?_
  refine wo_apv rfl rfl rfl rfl rfl ?_
  refine wo_nil ?_
  refine ⟨[_, _, _, _, _, _, _, _, _, _, _, _, _, _, _, _, _, _, _, _, _, _, _, _, _, _, _, _, _, _, _, _, _, _, _, _, _, _, _, _, _, _, _, _, _, _, _, _, _, _, _, _, _, _, _, _, _, _, _, _, _, _, _, _, _, _, _, _, _, _, _, _], rfl, ?_⟩
  refine wp_false rfl ?_
  refine wp_seq ?_
  refine wp_region rfl rfl ?_
  refine wo_load (v := .agg [_, _, _, _]) t40 rfl rfl rfl rfl rfl rfl ?_
  refine wo_call (v := .pv (.bool false)) (H' := [_, _]) rfl rfl rfl rfl rfl rfl ((cl44 _ _ _ _).trans (callPure_pv rfl (fun _ => rfl) (by rw [← hr]; exact vRight_ok hv _ (by omega)))) rfl rfl rfl ?_
  refine wo_un rfl rfl rfl rfl rfl ?_
  refine wo_apv rfl rfl rfl rfl rfl ?_
  refine wo_nil ?_
  refine ⟨[_, _, _, _, _, _, _, _, _, _, _, _, _, _, _, _, _, _, _, _, _, _, _, _, _, _, _, _, _, _, _, _, _, _, _, _, _, _, _, _, _, _, _, _, _, _, _, _, _, _, _, _, _, _, _, _, _, _, _, _, _, _, _, _, _, _, _, _, _, _, _, _], rfl, ?_⟩
  refine wp_true rfl ?_
  refine wp_seq ?_
  refine wp_region rfl rfl ?_
  refine wo_apv rfl rfl rfl rfl rfl ?_
  refine wo_nil ?_
  refine ⟨[_, _, _, _, _, _, _, _, _, _, _, _, _, _, _, _, _, _, _, _, _, _, _, _, _, _, _, _, _, _, _, _, _, _, _, _, _, _, _, _, _, _, _, _, _, _, _, _, _, _, _, _, _, _, _, _, _, _, _, _, _, _, _, _, _, _, _, _, _, _, _, _], rfl, ?_⟩
  refine wp_ret ?_
  exact ⟨trivial, _, rfl, leave_first (H0 := [_]) (rest := [_]) (.inl rfl) rfl rfl (by simp [tupOf, AV.ids]) (by simp [Blk.ids, AV.idsL, AV.ids, VR, VB, RX])⟩
theorem feed_bad_ref {size sn fl : Nat} {l : List V} (h1 : 1 ≤ size) {v : V} (hv : v.Ok) (hr : v.right = false) (draw : Nat) (N : Nat) (hN : 5 ≤ N) : call G N 19 [.ptr 0 0, .agg (v.row.map .pv), .pv (.int .u64 draw)] [RX size sn (VR 1 l), VB l fl] = some (.ret (.pv (.int .i64 2)), [RX size sn (VR 1 l), VB l fl]) := by
  obtain ⟨N, rfl⟩ : ∃ M, N = M + 1 := ⟨N - 1, by omega⟩
  refine call_eq func19 rfl (show _ = [_, _, _, _, _, _, _, _, _, _, _, _, _, _, _, _, _, _, _, _, _, _, _, _, _, _, _, _, _, _, _, _, _, _, _, _, _, _, _, _, _, _, _, _, _, _, _, _, _, _, _, _, _, _, _, _, _, _, _, _, _, _, _, _, _, _, _, _, _, _, _, _] from rfl) ?_
  refine wp_seq ?_
  refine wp_region rfl rfl ?_
  refine wo_box (cs := [_, _, _, _]) (H' := [_, _, _]) rfl rfl rfl rfl rfl rfl ?_
  refine wo_apv rfl rfl rfl rfl rfl ?_
  refine wo_nil ?_
  refine ⟨[_, _, _, _, _, _, _, _, _, _, _, _, _, _, _, _, _, _, _, _, _, _, _, _, _, _, _, _, _, _, _, _, _, _, _, _, _, _, _, _, _, _, _, _, _, _, _, _, _, _, _, _, _, _, _, _, _, _, _, _, _, _, _, _, _, _, _, _, _, _, _, _], rfl, ?_⟩
  refine wp_seq ?_
  refine wp_block ?_
  refine wp_seq ?_
  refine wp_region rfl rfl ?_
  refine wo_move (v := .ptr _ _) rfl rfl rfl rfl rfl (fun h => AV.noConfusion h) ?_
  refine wo_bint t33 rfl rfl rfl rfl rfl ?_
  refine wo_mpv rfl rfl rfl rfl rfl ?_
  refine wo_move (v := .ptr _ _) rfl rfl rfl rfl rfl (fun h => AV.noConfusion h) ?_
  refine wo_nilCheck (v := .ptr _ _) rfl rfl rfl rfl rfl rfl ?_
  refine wo_faddr t63 t3 rfl rfl rfl rfl rfl rfl rfl ?_
  refine wo_load t3 rfl rfl rfl rfl rfl rfl ?_
  refine wo_bin (v := .pv (.bool false)) rfl rfl rfl rfl (eF (by omega)) ?_
  refine wo_pick (v := .pv _) rfl rfl rfl rfl rfl rfl ?_
  refine wo_apv rfl rfl rfl rfl rfl ?_
  refine wo_nil ?_
  refine ⟨[_, _, _, _, _, _, _, _, _, _, _, _, _, _, _, _, _, _, _, _, _, _, _, _, _, _, _, _, _, _, _, _, _, _, _, _, _, _, _, _, _, _, _, _, _, _, _, _, _, _, _, _, _, _, _, _, _, _, _, _, _, _, _, _, _, _, _, _, _, _, _, _], rfl, ?_⟩
  refine wp_false rfl ?_
  refine wp_seq ?_
  refine wp_region rfl rfl ?_
  refine wo_load (v := .agg [_, _, _, _]) t40 rfl rfl rfl rfl rfl rfl ?_
  refine wo_call (v := .pv (.bool false)) (H' := [_, _, _]) rfl rfl rfl rfl rfl rfl ((cl44 _ _ _ _).trans (callPure_pv rfl (fun _ => rfl) (by rw [← hr]; exact vRight_ok hv _ (by omega)))) rfl rfl rfl ?_
  refine wo_un rfl rfl rfl rfl rfl ?_
  refine wo_apv rfl rfl rfl rfl rfl ?_
  refine wo_nil ?_
  refine ⟨[_, _, _, _, _, _, _, _, _, _, _, _, _, _, _, _, _, _, _, _, _, _, _, _, _, _, _, _, _, _, _, _, _, _, _, _, _, _, _, _, _, _, _, _, _, _, _, _, _, _, _, _, _, _, _, _, _, _, _, _, _, _, _, _, _, _, _, _, _, _, _, _], rfl, ?_⟩
  refine wp_true rfl ?_
  refine wp_seq ?_
  refine wp_region rfl rfl ?_
  refine wo_apv rfl rfl rfl rfl rfl ?_
  refine wo_nil ?_
  refine ⟨[_, _, _, _, _, _, _, _, _, _, _, _, _, _, _, _, _, _, _, _, _, _, _, _, _, _, _, _, _, _, _, _, _, _, _, _, _, _, _, _, _, _, _, _, _, _, _, _, _, _, _, _, _, _, _, _, _, _, _, _, _, _, _, _, _, _, _, _, _, _, _, _], rfl, ?_⟩
  refine wp_ret ?_
  exact ⟨trivial, _, rfl, leave_first (H0 := [_, _]) (rest := [_]) (.inl rfl) rfl rfl (by simp [tupOf, AV.ids]) (by simp [Blk.ids, AV.idsL, AV.ids, VR, VB, RX])⟩
theorem feed_nil {size sn : Nat} (h1 : 1 ≤ size) (h2 : size ≤ 400) (hsn : sn ≤ 100000) {v : V} (hv : v.Ok) (hr : v.right = true) (draw : Nat) (N : Nat) (hN : 5 ≤ N) : call G N 19 [.ptr 0 0, .agg (v.row.map .pv), .pv (.int .u64 draw)] [RX size sn (.pv .nils)] = some (.ret (.pv (.int .i64 0)), [RX size (sn + 1) (VR 1 [v.plain]), VB [v.plain] 0]) := by
  obtain ⟨N, rfl⟩ : ∃ M, N = M + 1 := ⟨N - 1, by omega⟩
  refine call_eq func19 rfl (show _ = [_, _, _, _, _, _, _, _, _, _, _, _, _, _, _, _, _, _, _, _, _, _, _, _, _, _, _, _, _, _, _, _, _, _, _, _, _, _, _, _, _, _, _, _, _, _, _, _, _, _, _, _, _, _, _, _, _, _, _, _, _, _, _, _, _, _, _, _, _, _, _, _] from rfl) ?_
  refine wp_seq ?_
  refine wp_region rfl rfl ?_
  refine wo_box (cs := [_, _, _, _]) (H' := [_, _]) rfl rfl rfl rfl rfl rfl ?_
  refine wo_apv rfl rfl rfl rfl rfl ?_
  refine wo_nil ?_
  refine ⟨[_, _, _, _, _, _, _, _, _, _, _, _, _, _, _, _, _, _, _, _, _, _, _, _, _, _, _, _, _, _, _, _, _, _, _, _, _, _, _, _, _, _, _, _, _, _, _, _, _, _, _, _, _, _, _, _, _, _, _, _, _, _, _, _, _, _, _, _, _, _, _, _], rfl, ?_⟩
  refine wp_seq ?_
  refine wp_block ?_
  refine wp_seq ?_
  refine wp_region rfl rfl ?_
  refine wo_move (v := .ptr _ _) rfl rfl rfl rfl rfl (fun h => AV.noConfusion h) ?_
  refine wo_bint t33 rfl rfl rfl rfl rfl ?_
  refine wo_mpv rfl rfl rfl rfl rfl ?_
  refine wo_move (v := .ptr _ _) rfl rfl rfl rfl rfl (fun h => AV.noConfusion h) ?_
  refine wo_nilCheck (v := .ptr _ _) rfl rfl rfl rfl rfl rfl ?_
  refine wo_faddr t63 t3 rfl rfl rfl rfl rfl rfl rfl ?_
  refine wo_load t3 rfl rfl rfl rfl rfl rfl ?_
  refine wo_bin (v := .pv (.bool false)) rfl rfl rfl rfl (eF (by omega)) ?_
  refine wo_pick (v := .pv _) rfl rfl rfl rfl rfl rfl ?_
  refine wo_apv rfl rfl rfl rfl rfl ?_
  refine wo_nil ?_
  refine ⟨[_, _, _, _, _, _, _, _, _, _, _, _, _, _, _, _, _, _, _, _, _, _, _, _, _, _, _, _, _, _, _, _, _, _, _, _, _, _, _, _, _, _, _, _, _, _, _, _, _, _, _, _, _, _, _, _, _, _, _, _, _, _, _, _, _, _, _, _, _, _, _, _], rfl, ?_⟩
  refine wp_false rfl ?_
  refine wp_seq ?_
  refine wp_region rfl rfl ?_
  refine wo_load (v := .agg [_, _, _, _]) t40 rfl rfl rfl rfl rfl rfl ?_
  refine wo_call (v := .pv (.bool true)) (H' := [_, _]) rfl rfl rfl rfl rfl rfl ((cl44 _ _ _ _).trans (callPure_pv rfl (fun _ => rfl) (by rw [← hr]; exact vRight_ok hv _ (by omega)))) rfl rfl rfl ?_
  refine wo_un rfl rfl rfl rfl rfl ?_
  refine wo_apv rfl rfl rfl rfl rfl ?_
  refine wo_nil ?_
  refine ⟨[_, _, _, _, _, _, _, _, _, _, _, _, _, _, _, _, _, _, _, _, _, _, _, _, _, _, _, _, _, _, _, _, _, _, _, _, _, _, _, _, _, _, _, _, _, _, _, _, _, _, _, _, _, _, _, _, _, _, _, _, _, _, _, _, _, _, _, _, _, _, _, _], rfl, ?_⟩
  refine wp_false rfl ?_
  refine wp_skip ?_
  refine wp_seq ?_
  refine wp_region rfl rfl ?_
  refine wo_move (v := .ptr _ _) rfl rfl rfl rfl rfl (fun h => AV.noConfusion h) ?_
  refine wo_nilCheck (v := .ptr _ _) rfl rfl rfl rfl rfl rfl ?_
  refine wo_faddr t63 t3 rfl rfl rfl rfl rfl rfl rfl ?_
  refine wo_load t3 rfl rfl rfl rfl rfl rfl ?_
  refine wo_bin (v := .pv (.int .i64 ((sn + 1 : Nat) : Int))) rfl rfl rfl rfl (iV (by rw [wrapI (by omega) (by omega)]; omega)) ?_
  refine wo_nilCheck (v := .ptr _ _) rfl rfl rfl rfl rfl rfl ?_
  refine wo_faddr t63 t3 rfl rfl rfl rfl rfl rfl rfl ?_
  refine wo_store (cs' := [_, _, _]) (H' := [_, _]) t3 rfl rfl rfl rfl rfl rfl rfl rfl rfl ?_
  refine wo_nil ?_
  refine ⟨[_, _, _, _, _, _, _, _, _, _, _, _, _, _, _, _, _, _, _, _, _, _, _, _, _, _, _, _, _, _, _, _, _, _, _, _, _, _, _, _, _, _, _, _, _, _, _, _, _, _, _, _, _, _, _, _, _, _, _, _, _, _, _, _, _, _, _, _, _, _, _, _], rfl, ?_⟩
  refine wp_seq ?_
  refine wp_region rfl rfl ?_
  refine wo_load (v := .agg [_, _, _, _]) t40 rfl rfl rfl rfl rfl rfl ?_
  refine wo_call (v := .agg (v.plain.row.map .pv)) (H' := [_, _]) rfl rfl rfl rfl rfl rfl ((cl45 _ _ _ _).trans (callPure_agg rfl (fun _ => rfl) rfl (vPlain_ok hv _ (by omega)))) rfl rfl rfl ?_
  refine wo_store (cs' := [_, _, _, _]) (H' := [_, _]) t40 rfl rfl rfl rfl rfl rfl rfl rfl rfl ?_
  refine wo_nil ?_
  refine ⟨[_, _, _, _, _, _, _, _, _, _, _, _, _, _, _, _, _, _, _, _, _, _, _, _, _, _, _, _, _, _, _, _, _, _, _, _, _, _, _, _, _, _, _, _, _, _, _, _, _, _, _, _, _, _, _, _, _, _, _, _, _, _, _, _, _, _, _, _, _, _, _, _], rfl, ?_⟩
  refine wp_seq ?_
  refine wp_seq ?_
  refine wp_drawn rfl rfl (by kernel_rfl) ?_
  refine wo_move (v := .ptr _ _) rfl rfl rfl rfl rfl (fun h => AV.noConfusion h) ?_
  refine wo_nilCheck (v := .ptr _ _) rfl rfl rfl rfl rfl rfl ?_
  refine wo_faddr t63 t31 rfl rfl rfl rfl rfl rfl rfl ?_
  refine wo_load t31 rfl rfl rfl rfl rfl rfl ?_
  refine wo_len t31 rfl rfl rfl rfl rfl rfl rfl rfl rfl ?_
  refine wo_move (v := .ptr _ _) rfl rfl rfl rfl rfl (fun h => AV.noConfusion h) ?_
  refine wo_nilCheck (v := .ptr _ _) rfl rfl rfl rfl rfl rfl ?_
  refine wo_faddr t63 t3 rfl rfl rfl rfl rfl rfl rfl ?_
  refine wo_load t3 rfl rfl rfl rfl rfl rfl ?_
  refine wo_bin (v := .pv (.bool true)) rfl rfl rfl rfl (bT (by show ((0 : Nat) : Int) < _; omega)) ?_
  refine wo_nil ?_
  refine ⟨by kernel_rfl, ?_⟩
  refine ⟨[_, _, _, _, _, _, _, _, _, _, _, _, _, _, _, _, _, _, _, _, _, _, _, _, _, _, _, _, _, _, _, _, _, _, _, _, _, _, _, _, _, _, _, _, _, _, _, _, _, _, _, _, _, _, _, _, _, _, _, _, _, _, _, _, _, _, _, _, _, _, _, _], rfl, ?_⟩
  refine wp_true rfl ?_
  refine wp_seq ?_
  refine wp_drawn rfl rfl (by kernel_rfl) ?_
  refine wo_move (v := .ptr _ _) rfl rfl rfl rfl rfl (fun h => AV.noConfusion h) ?_
  refine wo_move (v := .ptr _ _) rfl rfl rfl rfl rfl (fun h => AV.noConfusion h) ?_
  refine wo_nilCheck (v := .ptr _ _) rfl rfl rfl rfl rfl rfl ?_
  refine wo_faddr t63 t31 rfl rfl rfl rfl rfl rfl rfl ?_
  refine wo_load t31 rfl rfl rfl rfl rfl rfl ?_
  refine wo_load (v := .agg [_, _, _, _]) t40 rfl rfl rfl rfl rfl rfl ?_
  refine wo_buildSlice (H' := [_, _, _]) rfl rfl rfl rfl (bs31 _ v.plain) rfl ?_
  refine wo_append (v := VR 3 [v.plain]) (H' := [_, _, _, _]) t31 rfl rfl rfl rfl rfl rfl rfl rfl (rfl) (VB.app_nil) rfl rfl rfl ?_
  refine wo_nilCheck (v := .ptr _ _) rfl rfl rfl rfl rfl rfl ?_
  refine wo_faddr t63 t31 rfl rfl rfl rfl rfl rfl rfl ?_
  refine wo_store (cs' := [_, _, _]) (H' := [_, _, _, _]) t31 rfl rfl rfl rfl rfl rfl rfl rfl rfl ?_
  refine wo_nil ?_
  refine ⟨by kernel_rfl, ?_⟩
  refine ⟨[_, _, _, _, _, _, _, _, _, _, _, _, _, _, _, _, _, _, _, _, _, _, _, _, _, _, _, _, _, _, _, _, _, _, _, _, _, _, _, _, _, _, _, _, _, _, _, _, _, _, _, _, _, _, _, _, _, _, _, _, _, _, _, _, _, _, _, _, _, _, _, _], rfl, ?_⟩
  refine wp_seq ?_
  refine wp_region rfl rfl ?_
  refine wo_apv rfl rfl rfl rfl rfl ?_
  refine wo_nil ?_
  refine ⟨[_, _, _, _, _, _, _, _, _, _, _, _, _, _, _, _, _, _, _, _, _, _, _, _, _, _, _, _, _, _, _, _, _, _, _, _, _, _, _, _, _, _, _, _, _, _, _, _, _, _, _, _, _, _, _, _, _, _, _, _, _, _, _, _, _, _, _, _, _, _, _, _], rfl, ?_⟩
  refine wp_ret ?_
  exact ⟨trivial, _, rfl, leave_ren (order := [0, 3]) (bs := [_, _]) (.inl rfl) rfl (by kernel_rfl) (by kernel_rfl) rfl (by kernel_rfl)⟩
theorem feed_add {size sn fl : Nat} {l : List V} (h1 : 1 ≤ size) (h2 : size ≤ 400) (hsn : sn ≤ 100000) (hl : l.length < size) (hfl : fl ≤ l.length) {v : V} (hv : v.Ok) (hr : v.right = true) (draw : Nat) (N : Nat) (hN : 5 ≤ N) : call G N 19 [.ptr 0 0, .agg (v.row.map .pv), .pv (.int .u64 draw)] [RX size sn (VR 1 l), VB l fl] = some (.ret (.pv (.int .i64 0)), [RX size (sn + 1) (VR 1 (l ++ [v.plain])), VB (l ++ [v.plain]) fl]) := by
  obtain ⟨N, rfl⟩ : ∃ M, N = M + 1 := ⟨N - 1, by omega⟩
  refine call_eq func19 rfl (show _ = [_, _, _, _, _, _, _, _, _, _, _, _, _, _, _, _, _, _, _, _, _, _, _, _, _, _, _, _, _, _, _, _, _, _, _, _, _, _, _, _, _, _, _, _, _, _, _, _, _, _, _, _, _, _, _, _, _, _, _, _, _, _, _, _, _, _, _, _, _, _, _, _] from rfl) ?_
  refine wp_seq ?_
  refine wp_region rfl rfl ?_
  refine wo_box (cs := [_, _, _, _]) (H' := [_, _, _]) rfl rfl rfl rfl rfl rfl ?_
  refine wo_apv rfl rfl rfl rfl rfl ?_
  refine wo_nil ?_
  refine ⟨[_, _, _, _, _, _, _, _, _, _, _, _, _, _, _, _, _, _, _, _, _, _, _, _, _, _, _, _, _, _, _, _, _, _, _, _, _, _, _, _, _, _, _, _, _, _, _, _, _, _, _, _, _, _, _, _, _, _, _, _, _, _, _, _, _, _, _, _, _, _, _, _], rfl, ?_⟩
  refine wp_seq ?_
  refine wp_block ?_
  refine wp_seq ?_
  refine wp_region rfl rfl ?_
  refine wo_move (v := .ptr _ _) rfl rfl rfl rfl rfl (fun h => AV.noConfusion h) ?_
  refine wo_bint t33 rfl rfl rfl rfl rfl ?_
  refine wo_mpv rfl rfl rfl rfl rfl ?_
  refine wo_move (v := .ptr _ _) rfl rfl rfl rfl rfl (fun h => AV.noConfusion h) ?_
  refine wo_nilCheck (v := .ptr _ _) rfl rfl rfl rfl rfl rfl ?_
  refine wo_faddr t63 t3 rfl rfl rfl rfl rfl rfl rfl ?_
  refine wo_load t3 rfl rfl rfl rfl rfl rfl ?_
  refine wo_bin (v := .pv (.bool false)) rfl rfl rfl rfl (eF (by omega)) ?_
  refine wo_pick (v := .pv _) rfl rfl rfl rfl rfl rfl ?_
  refine wo_apv rfl rfl rfl rfl rfl ?_
  refine wo_nil ?_
  refine ⟨[_, _, _, _, _, _, _, _, _, _, _, _, _, _, _, _, _, _, _, _, _, _, _, _, _, _, _, _, _, _, _, _, _, _, _, _, _, _, _, _, _, _, _, _, _, _, _, _, _, _, _, _, _, _, _, _, _, _, _, _, _, _, _, _, _, _, _, _, _, _, _, _], rfl, ?_⟩
  refine wp_false rfl ?_
  refine wp_seq ?_
  refine wp_region rfl rfl ?_
  refine wo_load (v := .agg [_, _, _, _]) t40 rfl rfl rfl rfl rfl rfl ?_
  refine wo_call (v := .pv (.bool true)) (H' := [_, _, _]) rfl rfl rfl rfl rfl rfl ((cl44 _ _ _ _).trans (callPure_pv rfl (fun _ => rfl) (by rw [← hr]; exact vRight_ok hv _ (by omega)))) rfl rfl rfl ?_
  refine wo_un rfl rfl rfl rfl rfl ?_
  refine wo_apv rfl rfl rfl rfl rfl ?_
  refine wo_nil ?_
  refine ⟨[_, _, _, _, _, _, _, _, _, _, _, _, _, _, _, _, _, _, _, _, _, _, _, _, _, _, _, _, _, _, _, _, _, _, _, _, _, _, _, _, _, _, _, _, _, _, _, _, _, _, _, _, _, _, _, _, _, _, _, _, _, _, _, _, _, _, _, _, _, _, _, _], rfl, ?_⟩
  refine wp_false rfl ?_
  refine wp_skip ?_
  refine wp_seq ?_
  refine wp_region rfl rfl ?_
  refine wo_move (v := .ptr _ _) rfl rfl rfl rfl rfl (fun h => AV.noConfusion h) ?_
  refine wo_nilCheck (v := .ptr _ _) rfl rfl rfl rfl rfl rfl ?_
  refine wo_faddr t63 t3 rfl rfl rfl rfl rfl rfl rfl ?_
  refine wo_load t3 rfl rfl rfl rfl rfl rfl ?_
  refine wo_bin (v := .pv (.int .i64 ((sn + 1 : Nat) : Int))) rfl rfl rfl rfl (iV (by rw [wrapI (by omega) (by omega)]; omega)) ?_
  refine wo_nilCheck (v := .ptr _ _) rfl rfl rfl rfl rfl rfl ?_
  refine wo_faddr t63 t3 rfl rfl rfl rfl rfl rfl rfl ?_
  refine wo_store (cs' := [_, _, _]) (H' := [_, _, _]) t3 rfl rfl rfl rfl rfl rfl rfl rfl rfl ?_
  refine wo_nil ?_
  refine ⟨[_, _, _, _, _, _, _, _, _, _, _, _, _, _, _, _, _, _, _, _, _, _, _, _, _, _, _, _, _, _, _, _, _, _, _, _, _, _, _, _, _, _, _, _, _, _, _, _, _, _, _, _, _, _, _, _, _, _, _, _, _, _, _, _, _, _, _, _, _, _, _, _], rfl, ?_⟩
  refine wp_seq ?_
  refine wp_region rfl rfl ?_
  refine wo_load (v := .agg [_, _, _, _]) t40 rfl rfl rfl rfl rfl rfl ?_
  refine wo_call (v := .agg (v.plain.row.map .pv)) (H' := [_, _, _]) rfl rfl rfl rfl rfl rfl ((cl45 _ _ _ _).trans (callPure_agg rfl (fun _ => rfl) rfl (vPlain_ok hv _ (by omega)))) rfl rfl rfl ?_
  refine wo_store (cs' := [_, _, _, _]) (H' := [_, _, _]) t40 rfl rfl rfl rfl rfl rfl rfl rfl rfl ?_
  refine wo_nil ?_
  refine ⟨[_, _, _, _, _, _, _, _, _, _, _, _, _, _, _, _, _, _, _, _, _, _, _, _, _, _, _, _, _, _, _, _, _, _, _, _, _, _, _, _, _, _, _, _, _, _, _, _, _, _, _, _, _, _, _, _, _, _, _, _, _, _, _, _, _, _, _, _, _, _, _, _], rfl, ?_⟩
  refine wp_seq ?_
  refine wp_seq ?_
  refine wp_drawn rfl rfl (by kernel_rfl) ?_
  refine wo_move (v := .ptr _ _) rfl rfl rfl rfl rfl (fun h => AV.noConfusion h) ?_
  refine wo_nilCheck (v := .ptr _ _) rfl rfl rfl rfl rfl rfl ?_
  refine wo_faddr t63 t31 rfl rfl rfl rfl rfl rfl rfl ?_
  refine wo_load t31 rfl rfl rfl rfl rfl rfl ?_
  refine wo_len t31 rfl rfl rfl rfl rfl rfl rfl rfl rfl ?_
  refine wo_move (v := .ptr _ _) rfl rfl rfl rfl rfl (fun h => AV.noConfusion h) ?_
  refine wo_nilCheck (v := .ptr _ _) rfl rfl rfl rfl rfl rfl ?_
  refine wo_faddr t63 t3 rfl rfl rfl rfl rfl rfl rfl ?_
  refine wo_load t3 rfl rfl rfl rfl rfl rfl ?_
  refine wo_bin (v := .pv (.bool true)) rfl rfl rfl rfl (bT (by omega)) ?_
  refine wo_nil ?_
  refine ⟨by kernel_rfl, ?_⟩
  refine ⟨[_, _, _, _, _, _, _, _, _, _, _, _, _, _, _, _, _, _, _, _, _, _, _, _, _, _, _, _, _, _, _, _, _, _, _, _, _, _, _, _, _, _, _, _, _, _, _, _, _, _, _, _, _, _, _, _, _, _, _, _, _, _, _, _, _, _, _, _, _, _, _, _], rfl, ?_⟩
  refine wp_true rfl ?_
  refine wp_seq ?_
  refine wp_drawn rfl rfl (by kernel_rfl) ?_
  refine wo_move (v := .ptr _ _) rfl rfl rfl rfl rfl (fun h => AV.noConfusion h) ?_
  refine wo_move (v := .ptr _ _) rfl rfl rfl rfl rfl (fun h => AV.noConfusion h) ?_
  refine wo_nilCheck (v := .ptr _ _) rfl rfl rfl rfl rfl rfl ?_
  refine wo_faddr t63 t31 rfl rfl rfl rfl rfl rfl rfl ?_
  refine wo_load t31 rfl rfl rfl rfl rfl rfl ?_
  refine wo_load (v := .agg [_, _, _, _]) t40 rfl rfl rfl rfl rfl rfl ?_
  refine wo_buildSlice (H' := [_, _, _, _]) rfl rfl rfl rfl (bs31 _ v.plain) rfl ?_
  refine wo_append (v := VR 1 (l ++ [v.plain])) (H' := [_, _, _, _]) t31 rfl rfl rfl rfl rfl rfl rfl rfl (rfl) (VB.app rfl rfl hfl (by omega)) rfl rfl rfl ?_
  refine wo_nilCheck (v := .ptr _ _) rfl rfl rfl rfl rfl rfl ?_
  refine wo_faddr t63 t31 rfl rfl rfl rfl rfl rfl rfl ?_
  refine wo_store (cs' := [_, _, _]) (H' := [_, _, _, _]) t31 rfl rfl rfl rfl rfl rfl rfl rfl rfl ?_
  refine wo_nil ?_
  refine ⟨by kernel_rfl, ?_⟩
  refine ⟨[_, _, _, _, _, _, _, _, _, _, _, _, _, _, _, _, _, _, _, _, _, _, _, _, _, _, _, _, _, _, _, _, _, _, _, _, _, _, _, _, _, _, _, _, _, _, _, _, _, _, _, _, _, _, _, _, _, _, _, _, _, _, _, _, _, _, _, _, _, _, _, _], rfl, ?_⟩
  refine wp_seq ?_
  refine wp_region rfl rfl ?_
  refine wo_apv rfl rfl rfl rfl rfl ?_
  refine wo_nil ?_
  refine ⟨[_, _, _, _, _, _, _, _, _, _, _, _, _, _, _, _, _, _, _, _, _, _, _, _, _, _, _, _, _, _, _, _, _, _, _, _, _, _, _, _, _, _, _, _, _, _, _, _, _, _, _, _, _, _, _, _, _, _, _, _, _, _, _, _, _, _, _, _, _, _, _, _], rfl, ?_⟩
  refine wp_ret ?_
  exact ⟨trivial, _, rfl, leave_first (H0 := [_, _]) (rest := [_, _]) (.inl rfl) rfl rfl (by simp [tupOf, AV.ids]) (by simp [Blk.ids, AV.idsL, AV.ids, VR, VB, RX])⟩
theorem feed_skip {size sn fl : Nat} {l : List V} (h1 : 1 ≤ size) (h2 : size ≤ 400) (hsn : sn ≤ 100000) (hl : l.length = size) {v : V} (hv : v.Ok) (hr : v.right = true) {draw : Nat} (hd : draw < 2 ^ 64) (hk : ¬ draw % (sn + 1) < size) (N : Nat) (hN : 5 ≤ N) : call G N 19 [.ptr 0 0, .agg (v.row.map .pv), .pv (.int .u64 draw)] [RX size sn (VR 1 l), VB l fl] = some (.ret (.pv (.int .i64 0)), [RX size (sn + 1) (VR 1 l), VB l fl]) := by
  obtain ⟨N, rfl⟩ : ∃ M, N = M + 1 := ⟨N - 1, by omega⟩
  refine call_eq func19 rfl (show _ = [_, _, _, _, _, _, _, _, _, _, _, _, _, _, _, _, _, _, _, _, _, _, _, _, _, _, _, _, _, _, _, _, _, _, _, _, _, _, _, _, _, _, _, _, _, _, _, _, _, _, _, _, _, _, _, _, _, _, _, _, _, _, _, _, _, _, _, _, _, _, _, _] from rfl) ?_
  refine wp_seq ?_
  refine wp_region rfl rfl ?_
  refine wo_box (cs := [_, _, _, _]) (H' := [_, _, _]) rfl rfl rfl rfl rfl rfl ?_
  refine wo_apv rfl rfl rfl rfl rfl ?_
  refine wo_nil ?_
  refine ⟨[_, _, _, _, _, _, _, _, _, _, _, _, _, _, _, _, _, _, _, _, _, _, _, _, _, _, _, _, _, _, _, _, _, _, _, _, _, _, _, _, _, _, _, _, _, _, _, _, _, _, _, _, _, _, _, _, _, _, _, _, _, _, _, _, _, _, _, _, _, _, _, _], rfl, ?_⟩
  refine wp_seq ?_
  refine wp_block ?_
  refine wp_seq ?_
  refine wp_region rfl rfl ?_
  refine wo_move (v := .ptr _ _) rfl rfl rfl rfl rfl (fun h => AV.noConfusion h) ?_
  refine wo_bint t33 rfl rfl rfl rfl rfl ?_
  refine wo_mpv rfl rfl rfl rfl rfl ?_
  refine wo_move (v := .ptr _ _) rfl rfl rfl rfl rfl (fun h => AV.noConfusion h) ?_
  refine wo_nilCheck (v := .ptr _ _) rfl rfl rfl rfl rfl rfl ?_
  refine wo_faddr t63 t3 rfl rfl rfl rfl rfl rfl rfl ?_
  refine wo_load t3 rfl rfl rfl rfl rfl rfl ?_
  refine wo_bin (v := .pv (.bool false)) rfl rfl rfl rfl (eF (by omega)) ?_
  refine wo_pick (v := .pv _) rfl rfl rfl rfl rfl rfl ?_
  refine wo_apv rfl rfl rfl rfl rfl ?_
  refine wo_nil ?_
  refine ⟨[_, _, _, _, _, _, _, _, _, _, _, _, _, _, _, _, _, _, _, _, _, _, _, _, _, _, _, _, _, _, _, _, _, _, _, _, _, _, _, _, _, _, _, _, _, _, _, _, _, _, _, _, _, _, _, _, _, _, _, _, _, _, _, _, _, _, _, _, _, _, _, _], rfl, ?_⟩
  refine wp_false rfl ?_
  refine wp_seq ?_
  refine wp_region rfl rfl ?_
  refine wo_load (v := .agg [_, _, _, _]) t40 rfl rfl rfl rfl rfl rfl ?_
  refine wo_call (v := .pv (.bool true)) (H' := [_, _, _]) rfl rfl rfl rfl rfl rfl ((cl44 _ _ _ _).trans (callPure_pv rfl (fun _ => rfl) (by rw [← hr]; exact vRight_ok hv _ (by omega)))) rfl rfl rfl ?_
  refine wo_un rfl rfl rfl rfl rfl ?_
  refine wo_apv rfl rfl rfl rfl rfl ?_
  refine wo_nil ?_
  refine ⟨[_, _, _, _, _, _, _, _, _, _, _, _, _, _, _, _, _, _, _, _, _, _, _, _, _, _, _, _, _, _, _, _, _, _, _, _, _, _, _, _, _, _, _, _, _, _, _, _, _, _, _, _, _, _, _, _, _, _, _, _, _, _, _, _, _, _, _, _, _, _, _, _], rfl, ?_⟩
  refine wp_false rfl ?_
  refine wp_skip ?_
  refine wp_seq ?_
  refine wp_region rfl rfl ?_
  refine wo_move (v := .ptr _ _) rfl rfl rfl rfl rfl (fun h => AV.noConfusion h) ?_
  refine wo_nilCheck (v := .ptr _ _) rfl rfl rfl rfl rfl rfl ?_
  refine wo_faddr t63 t3 rfl rfl rfl rfl rfl rfl rfl ?_
  refine wo_load t3 rfl rfl rfl rfl rfl rfl ?_
  refine wo_bin (v := .pv (.int .i64 ((sn + 1 : Nat) : Int))) rfl rfl rfl rfl (iV (by rw [wrapI (by omega) (by omega)]; omega)) ?_
  refine wo_nilCheck (v := .ptr _ _) rfl rfl rfl rfl rfl rfl ?_
  refine wo_faddr t63 t3 rfl rfl rfl rfl rfl rfl rfl ?_
  refine wo_store (cs' := [_, _, _]) (H' := [_, _, _]) t3 rfl rfl rfl rfl rfl rfl rfl rfl rfl ?_
  refine wo_nil ?_
  refine ⟨[_, _, _, _, _, _, _, _, _, _, _, _, _, _, _, _, _, _, _, _, _, _, _, _, _, _, _, _, _, _, _, _, _, _, _, _, _, _, _, _, _, _, _, _, _, _, _, _, _, _, _, _, _, _, _, _, _, _, _, _, _, _, _, _, _, _, _, _, _, _, _, _], rfl, ?_⟩
  refine wp_seq ?_
  refine wp_region rfl rfl ?_
  refine wo_load (v := .agg [_, _, _, _]) t40 rfl rfl rfl rfl rfl rfl ?_
  refine wo_call (v := .agg (v.plain.row.map .pv)) (H' := [_, _, _]) rfl rfl rfl rfl rfl rfl ((cl45 _ _ _ _).trans (callPure_agg rfl (fun _ => rfl) rfl (vPlain_ok hv _ (by omega)))) rfl rfl rfl ?_
  refine wo_store (cs' := [_, _, _, _]) (H' := [_, _, _]) t40 rfl rfl rfl rfl rfl rfl rfl rfl rfl ?_
  refine wo_nil ?_
  refine ⟨[_, _, _, _, _, _, _, _, _, _, _, _, _, _, _, _, _, _, _, _, _, _, _, _, _, _, _, _, _, _, _, _, _, _, _, _, _, _, _, _, _, _, _, _, _, _, _, _, _, _, _, _, _, _, _, _, _, _, _, _, _, _, _, _, _, _, _, _, _, _, _, _], rfl, ?_⟩
  refine wp_seq ?_
  refine wp_seq ?_
  refine wp_drawn rfl rfl (by kernel_rfl) ?_
  refine wo_move (v := .ptr _ _) rfl rfl rfl rfl rfl (fun h => AV.noConfusion h) ?_
  refine wo_nilCheck (v := .ptr _ _) rfl rfl rfl rfl rfl rfl ?_
  refine wo_faddr t63 t31 rfl rfl rfl rfl rfl rfl rfl ?_
  refine wo_load t31 rfl rfl rfl rfl rfl rfl ?_
  refine wo_len t31 rfl rfl rfl rfl rfl rfl rfl rfl rfl ?_
  refine wo_move (v := .ptr _ _) rfl rfl rfl rfl rfl (fun h => AV.noConfusion h) ?_
  refine wo_nilCheck (v := .ptr _ _) rfl rfl rfl rfl rfl rfl ?_
  refine wo_faddr t63 t3 rfl rfl rfl rfl rfl rfl rfl ?_
  refine wo_load t3 rfl rfl rfl rfl rfl rfl ?_
  refine wo_bin (v := .pv (.bool false)) rfl rfl rfl rfl (bF (by omega)) ?_
  refine wo_nil ?_
  refine ⟨by kernel_rfl, ?_⟩
  refine ⟨[_, _, _, _, _, _, _, _, _, _, _, _, _, _, _, _, _, _, _, _, _, _, _, _, _, _, _, _, _, _, _, _, _, _, _, _, _, _, _, _, _, _, _, _, _, _, _, _, _, _, _, _, _, _, _, _, _, _, _, _, _, _, _, _, _, _, _, _, _, _, _, _], rfl, ?_⟩
  refine wp_false rfl ?_
  refine wp_skip ?_
  refine wp_seq ?_
  refine wp_seq ?_
  refine wp_region rfl rfl ?_
  refine wo_mpv rfl rfl rfl rfl rfl ?_
  refine wo_move (v := .ptr _ _) rfl rfl rfl rfl rfl (fun h => AV.noConfusion h) ?_
  refine wo_nilCheck (v := .ptr _ _) rfl rfl rfl rfl rfl rfl ?_
  refine wo_faddr t63 t3 rfl rfl rfl rfl rfl rfl rfl ?_
  refine wo_load t3 rfl rfl rfl rfl rfl rfl ?_
  refine wo_conv (v := .pv (.int .u64 ((sn + 1 : Nat) : Int))) rfl rfl rfl rfl ((wconv t3 t22 rfl rfl).trans (iV (wrapU64 (by omega) (by omega)))) rfl ?_
  refine wo_bin (v := .pv (.int .u64 ((draw % (sn + 1) : Nat) : Int))) rfl rfl rfl rfl (rfl) ?_
  refine wo_apv rfl rfl rfl rfl rfl ?_
  refine wo_nil ?_
  refine ⟨[_, _, _, _, _, _, _, _, _, _, _, _, _, _, _, _, _, _, _, _, _, _, _, _, _, _, _, _, _, _, _, _, _, _, _, _, _, _, _, _, _, _, _, _, _, _, _, _, _, _, _, _, _, _, _, _, _, _, _, _, _, _, _, _, _, _, _, _, _, _, _, _], rfl, ?_⟩
  refine wp_seq ?_
  refine wp_region rfl rfl ?_
  refine wo_mpv rfl rfl rfl rfl rfl ?_
  refine wo_move (v := .ptr _ _) rfl rfl rfl rfl rfl (fun h => AV.noConfusion h) ?_
  refine wo_nilCheck (v := .ptr _ _) rfl rfl rfl rfl rfl rfl ?_
  refine wo_faddr t63 t3 rfl rfl rfl rfl rfl rfl rfl ?_
  refine wo_load t3 rfl rfl rfl rfl rfl rfl ?_
  refine wo_conv (v := .pv (.int .u64 (size : Nat))) rfl rfl rfl rfl ((wconv t3 t22 rfl rfl).trans (iV (wrapU64 (by omega) (by omega)))) rfl ?_
  refine wo_bin (v := .pv (.bool false)) rfl rfl rfl rfl (bF (by omega)) ?_
  refine wo_nil ?_
  refine ⟨[_, _, _, _, _, _, _, _, _, _, _, _, _, _, _, _, _, _, _, _, _, _, _, _, _, _, _, _, _, _, _, _, _, _, _, _, _, _, _, _, _, _, _, _, _, _, _, _, _, _, _, _, _, _, _, _, _, _, _, _, _, _, _, _, _, _, _, _, _, _, _, _], rfl, ?_⟩
  refine wp_false rfl ?_
  refine wp_skip ?_
  refine wp_seq ?_
  refine wp_region rfl rfl ?_
  refine wo_apv rfl rfl rfl rfl rfl ?_
  refine wo_nil ?_
  refine ⟨[_, _, _, _, _, _, _, _, _, _, _, _, _, _, _, _, _, _, _, _, _, _, _, _, _, _, _, _, _, _, _, _, _, _, _, _, _, _, _, _, _, _, _, _, _, _, _, _, _, _, _, _, _, _, _, _, _, _, _, _, _, _, _, _, _, _, _, _, _, _, _, _], rfl, ?_⟩
  refine wp_ret ?_
  exact ⟨trivial, _, rfl, leave_first (H0 := [_, _]) (rest := [_]) (.inl rfl) rfl rfl (by simp [tupOf, AV.ids]) (by simp [Blk.ids, AV.idsL, AV.ids, VR, VB, RX])⟩
theorem feed_set {size sn fl : Nat} {l : List V} (h1 : 1 ≤ size) (h2 : size ≤ 400) (hsn : sn ≤ 100000) (hl : l.length = size) (hfl : fl ≤ l.length) {v : V} (hv : v.Ok) (hr : v.right = true) {draw : Nat} (hd : draw < 2 ^ 64) (hk : draw % (sn + 1) < size) (N : Nat) (hN : 5 ≤ N) : call G N 19 [.ptr 0 0, .agg (v.row.map .pv), .pv (.int .u64 draw)] [RX size sn (VR 1 l), VB l fl] = some (.ret (.pv (.int .i64 0)), [RX size (sn + 1) (.ref 1 0 l.length 4 0 l.length), VB (l.set (draw % (sn + 1)) v.plain) l.length]) := by
  obtain ⟨N, rfl⟩ : ∃ M, N = M + 1 := ⟨N - 1, by omega⟩
  refine call_eq func19 rfl (show _ = [_, _, _, _, _, _, _, _, _, _, _, _, _, _, _, _, _, _, _, _, _, _, _, _, _, _, _, _, _, _, _, _, _, _, _, _, _, _, _, _, _, _, _, _, _, _, _, _, _, _, _, _, _, _, _, _, _, _, _, _, _, _, _, _, _, _, _, _, _, _, _, _] from rfl) ?_
  refine wp_seq ?_
  refine wp_region rfl rfl ?_
  refine wo_box (cs := [_, _, _, _]) (H' := [_, _, _]) rfl rfl rfl rfl rfl rfl ?_
  refine wo_apv rfl rfl rfl rfl rfl ?_
  refine wo_nil ?_
  refine ⟨[_, _, _, _, _, _, _, _, _, _, _, _, _, _, _, _, _, _, _, _, _, _, _, _, _, _, _, _, _, _, _, _, _, _, _, _, _, _, _, _, _, _, _, _, _, _, _, _, _, _, _, _, _, _, _, _, _, _, _, _, _, _, _, _, _, _, _, _, _, _, _, _], rfl, ?_⟩
  refine wp_seq ?_
  refine wp_block ?_
  refine wp_seq ?_
  refine wp_region rfl rfl ?_
  refine wo_move (v := .ptr _ _) rfl rfl rfl rfl rfl (fun h => AV.noConfusion h) ?_
  refine wo_bint t33 rfl rfl rfl rfl rfl ?_
  refine wo_mpv rfl rfl rfl rfl rfl ?_
  refine wo_move (v := .ptr _ _) rfl rfl rfl rfl rfl (fun h => AV.noConfusion h) ?_
  refine wo_nilCheck (v := .ptr _ _) rfl rfl rfl rfl rfl rfl ?_
  refine wo_faddr t63 t3 rfl rfl rfl rfl rfl rfl rfl ?_
  refine wo_load t3 rfl rfl rfl rfl rfl rfl ?_
  refine wo_bin (v := .pv (.bool false)) rfl rfl rfl rfl (eF (by omega)) ?_
  refine wo_pick (v := .pv _) rfl rfl rfl rfl rfl rfl ?_
  refine wo_apv rfl rfl rfl rfl rfl ?_
  refine wo_nil ?_
  refine ⟨[_, _, _, _, _, _, _, _, _, _, _, _, _, _, _, _, _, _, _, _, _, _, _, _, _, _, _, _, _, _, _, _, _, _, _, _, _, _, _, _, _, _, _, _, _, _, _, _, _, _, _, _, _, _, _, _, _, _, _, _, _, _, _, _, _, _, _, _, _, _, _, _], rfl, ?_⟩
  refine wp_false rfl ?_
  refine wp_seq ?_
  refine wp_region rfl rfl ?_
  refine wo_load (v := .agg [_, _, _, _]) t40 rfl rfl rfl rfl rfl rfl ?_
  refine wo_call (v := .pv (.bool true)) (H' := [_, _, _]) rfl rfl rfl rfl rfl rfl ((cl44 _ _ _ _).trans (callPure_pv rfl (fun _ => rfl) (by rw [← hr]; exact vRight_ok hv _ (by omega)))) rfl rfl rfl ?_
  refine wo_un rfl rfl rfl rfl rfl ?_
  refine wo_apv rfl rfl rfl rfl rfl ?_
  refine wo_nil ?_
  refine ⟨[_, _, _, _, _, _, _, _, _, _, _, _, _, _, _, _, _, _, _, _, _, _, _, _, _, _, _, _, _, _, _, _, _, _, _, _, _, _, _, _, _, _, _, _, _, _, _, _, _, _, _, _, _, _, _, _, _, _, _, _, _, _, _, _, _, _, _, _, _, _, _, _], rfl, ?_⟩
  refine wp_false rfl ?_
  refine wp_skip ?_
  refine wp_seq ?_
  refine wp_region rfl rfl ?_
  refine wo_move (v := .ptr _ _) rfl rfl rfl rfl rfl (fun h => AV.noConfusion h) ?_
  refine wo_nilCheck (v := .ptr _ _) rfl rfl rfl rfl rfl rfl ?_
  refine wo_faddr t63 t3 rfl rfl rfl rfl rfl rfl rfl ?_
  refine wo_load t3 rfl rfl rfl rfl rfl rfl ?_
  refine wo_bin (v := .pv (.int .i64 ((sn + 1 : Nat) : Int))) rfl rfl rfl rfl (iV (by rw [wrapI (by omega) (by omega)]; omega)) ?_
  refine wo_nilCheck (v := .ptr _ _) rfl rfl rfl rfl rfl rfl ?_
  refine wo_faddr t63 t3 rfl rfl rfl rfl rfl rfl rfl ?_
  refine wo_store (cs' := [_, _, _]) (H' := [_, _, _]) t3 rfl rfl rfl rfl rfl rfl rfl rfl rfl ?_
  refine wo_nil ?_
  refine ⟨[_, _, _, _, _, _, _, _, _, _, _, _, _, _, _, _, _, _, _, _, _, _, _, _, _, _, _, _, _, _, _, _, _, _, _, _, _, _, _, _, _, _, _, _, _, _, _, _, _, _, _, _, _, _, _, _, _, _, _, _, _, _, _, _, _, _, _, _, _, _, _, _], rfl, ?_⟩
  refine wp_seq ?_
  refine wp_region rfl rfl ?_
  refine wo_load (v := .agg [_, _, _, _]) t40 rfl rfl rfl rfl rfl rfl ?_
  refine wo_call (v := .agg (v.plain.row.map .pv)) (H' := [_, _, _]) rfl rfl rfl rfl rfl rfl ((cl45 _ _ _ _).trans (callPure_agg rfl (fun _ => rfl) rfl (vPlain_ok hv _ (by omega)))) rfl rfl rfl ?_
  refine wo_store (cs' := [_, _, _, _]) (H' := [_, _, _]) t40 rfl rfl rfl rfl rfl rfl rfl rfl rfl ?_
  refine wo_nil ?_
  refine ⟨[_, _, _, _, _, _, _, _, _, _, _, _, _, _, _, _, _, _, _, _, _, _, _, _, _, _, _, _, _, _, _, _, _, _, _, _, _, _, _, _, _, _, _, _, _, _, _, _, _, _, _, _, _, _, _, _, _, _, _, _, _, _, _, _, _, _, _, _, _, _, _, _], rfl, ?_⟩
  refine wp_seq ?_
  refine wp_seq ?_
  refine wp_drawn rfl rfl (by kernel_rfl) ?_
  refine wo_move (v := .ptr _ _) rfl rfl rfl rfl rfl (fun h => AV.noConfusion h) ?_
  refine wo_nilCheck (v := .ptr _ _) rfl rfl rfl rfl rfl rfl ?_
  refine wo_faddr t63 t31 rfl rfl rfl rfl rfl rfl rfl ?_
  refine wo_load t31 rfl rfl rfl rfl rfl rfl ?_
  refine wo_len t31 rfl rfl rfl rfl rfl rfl rfl rfl rfl ?_
  refine wo_move (v := .ptr _ _) rfl rfl rfl rfl rfl (fun h => AV.noConfusion h) ?_
  refine wo_nilCheck (v := .ptr _ _) rfl rfl rfl rfl rfl rfl ?_
  refine wo_faddr t63 t3 rfl rfl rfl rfl rfl rfl rfl ?_
  refine wo_load t3 rfl rfl rfl rfl rfl rfl ?_
  refine wo_bin (v := .pv (.bool false)) rfl rfl rfl rfl (bF (by omega)) ?_
  refine wo_nil ?_
  refine ⟨by kernel_rfl, ?_⟩
  refine ⟨[_, _, _, _, _, _, _, _, _, _, _, _, _, _, _, _, _, _, _, _, _, _, _, _, _, _, _, _, _, _, _, _, _, _, _, _, _, _, _, _, _, _, _, _, _, _, _, _, _, _, _, _, _, _, _, _, _, _, _, _, _, _, _, _, _, _, _, _, _, _, _, _], rfl, ?_⟩
  refine wp_false rfl ?_
  refine wp_skip ?_
  refine wp_seq ?_
  refine wp_seq ?_
  refine wp_region rfl rfl ?_
  refine wo_mpv rfl rfl rfl rfl rfl ?_
  refine wo_move (v := .ptr _ _) rfl rfl rfl rfl rfl (fun h => AV.noConfusion h) ?_
  refine wo_nilCheck (v := .ptr _ _) rfl rfl rfl rfl rfl rfl ?_
  refine wo_faddr t63 t3 rfl rfl rfl rfl rfl rfl rfl ?_
  refine wo_load t3 rfl rfl rfl rfl rfl rfl ?_
  refine wo_conv (v := .pv (.int .u64 ((sn + 1 : Nat) : Int))) rfl rfl rfl rfl ((wconv t3 t22 rfl rfl).trans (iV (wrapU64 (by omega) (by omega)))) rfl ?_
  refine wo_bin (v := .pv (.int .u64 ((draw % (sn + 1) : Nat) : Int))) rfl rfl rfl rfl (rfl) ?_
  refine wo_apv rfl rfl rfl rfl rfl ?_
  refine wo_nil ?_
  refine ⟨[_, _, _, _, _, _, _, _, _, _, _, _, _, _, _, _, _, _, _, _, _, _, _, _, _, _, _, _, _, _, _, _, _, _, _, _, _, _, _, _, _, _, _, _, _, _, _, _, _, _, _, _, _, _, _, _, _, _, _, _, _, _, _, _, _, _, _, _, _, _, _, _], rfl, ?_⟩
  refine wp_seq ?_
  refine wp_region rfl rfl ?_
  refine wo_mpv rfl rfl rfl rfl rfl ?_
  refine wo_move (v := .ptr _ _) rfl rfl rfl rfl rfl (fun h => AV.noConfusion h) ?_
  refine wo_nilCheck (v := .ptr _ _) rfl rfl rfl rfl rfl rfl ?_
  refine wo_faddr t63 t3 rfl rfl rfl rfl rfl rfl rfl ?_
  refine wo_load t3 rfl rfl rfl rfl rfl rfl ?_
  refine wo_conv (v := .pv (.int .u64 (size : Nat))) rfl rfl rfl rfl ((wconv t3 t22 rfl rfl).trans (iV (wrapU64 (by omega) (by omega)))) rfl ?_
  refine wo_bin (v := .pv (.bool true)) rfl rfl rfl rfl (bT (by omega)) ?_
  refine wo_nil ?_
  refine ⟨[_, _, _, _, _, _, _, _, _, _, _, _, _, _, _, _, _, _, _, _, _, _, _, _, _, _, _, _, _, _, _, _, _, _, _, _, _, _, _, _, _, _, _, _, _, _, _, _, _, _, _, _, _, _, _, _, _, _, _, _, _, _, _, _, _, _, _, _, _, _, _, _], rfl, ?_⟩
  refine wp_true rfl ?_
  refine wp_drawn rfl rfl (by kernel_rfl) ?_
  refine wo_move (v := .ptr _ _) rfl rfl rfl rfl rfl (fun h => AV.noConfusion h) ?_
  refine wo_nilCheck (v := .ptr _ _) rfl rfl rfl rfl rfl rfl ?_
  refine wo_faddr t63 t31 rfl rfl rfl rfl rfl rfl rfl ?_
  refine wo_load t31 rfl rfl rfl rfl rfl rfl ?_
  refine wo_mpv rfl rfl rfl rfl rfl ?_
  refine wo_load (v := .agg [_, _, _, _]) t40 rfl rfl rfl rfl rfl rfl ?_
  refine wo_iaddr (v := .eptr 1 0 l.length 4 (draw % (sn + 1)) 0) rfl rfl rfl rfl ((iaddr_ref (j := draw % (sn + 1)) t31 t40 rfl (by omega) rfl).trans (by rw [Nat.zero_add])) ?_
  refine wo_storeB (H' := [_, _, _]) rfl rfl rfl (VB.store rfl hfl (by omega)) rfl rfl rfl ?_
  refine wo_nil ?_
  refine ⟨by kernel_rfl, ?_⟩
  refine ⟨[_, _, _, _, _, _, _, _, _, _, _, _, _, _, _, _, _, _, _, _, _, _, _, _, _, _, _, _, _, _, _, _, _, _, _, _, _, _, _, _, _, _, _, _, _, _, _, _, _, _, _, _, _, _, _, _, _, _, _, _, _, _, _, _, _, _, _, _, _, _, _, _], rfl, ?_⟩
  refine wp_seq ?_
  refine wp_region rfl rfl ?_
  refine wo_apv rfl rfl rfl rfl rfl ?_
  refine wo_nil ?_
  refine ⟨[_, _, _, _, _, _, _, _, _, _, _, _, _, _, _, _, _, _, _, _, _, _, _, _, _, _, _, _, _, _, _, _, _, _, _, _, _, _, _, _, _, _, _, _, _, _, _, _, _, _, _, _, _, _, _, _, _, _, _, _, _, _, _, _, _, _, _, _, _, _, _, _], rfl, ?_⟩
  refine wp_ret ?_
  exact ⟨trivial, _, rfl, leave_first (H0 := [_, _]) (rest := [_]) (.inl rfl) rfl rfl (by simp [tupOf, AV.ids]) (by simp [Blk.ids, AV.idsL, AV.ids, VR, VB, RX])⟩
theorem sample_nil (size sn : Nat) (N : Nat) (hN : 1 ≤ N) : call G N 22 [.ptr 0 0] [RX size sn (.pv .nils)] = some (.ret (VR 1 []), [RX size sn (.pv .nils), VB [] 0]) := by
  obtain ⟨N, rfl⟩ : ∃ M, N = M + 1 := ⟨N - 1, by omega⟩
  refine call_eq func22 rfl (show _ = [_, _, _, _, _, _, _, _, _, _, _, _, _, _, _, _, _, _, _] from rfl) ?_
  refine wp_seq ?_
  refine wp_region rfl rfl ?_
  refine wo_apv rfl rfl rfl rfl rfl ?_
  refine wo_nil ?_
  refine ⟨[_, _, _, _, _, _, _, _, _, _, _, _, _, _, _, _, _, _, _], rfl, ?_⟩
  refine wp_seq ?_
  refine wp_seq ?_
  refine wp_region rfl rfl ?_
  refine wo_move (v := .ptr _ _) rfl rfl rfl rfl rfl (fun h => AV.noConfusion h) ?_
  refine wo_bint t33 rfl rfl rfl rfl rfl ?_
  refine wo_nil ?_
  refine ⟨[_, _, _, _, _, _, _, _, _, _, _, _, _, _, _, _, _, _, _], rfl, ?_⟩
  refine wp_false rfl ?_
  refine wp_skip ?_
  refine wp_seq ?_
  refine wp_region rfl rfl ?_
  refine wo_move (v := .ptr _ _) rfl rfl rfl rfl rfl (fun h => AV.noConfusion h) ?_
  refine wo_nilCheck (v := .ptr _ _) rfl rfl rfl rfl rfl rfl ?_
  refine wo_faddr t63 t31 rfl rfl rfl rfl rfl rfl rfl ?_
  refine wo_load t31 rfl rfl rfl rfl rfl rfl ?_
  refine wo_len t31 rfl rfl rfl rfl rfl rfl rfl rfl rfl ?_
  refine wo_makeSlice (H' := [_, _]) rfl rfl rfl rfl (mk31 (n := 0) (by omega)) rfl ?_
  refine wo_assign (v := .ref _ _ _ _ _ _) rfl rfl rfl rfl rfl (fun h => AV.noConfusion h) ?_
  refine wo_nil ?_
  refine ⟨[_, _, _, _, _, _, _, _, _, _, _, _, _, _, _, _, _, _, _], rfl, ?_⟩
  refine wp_seq ?_
  refine wp_region rfl rfl ?_
  refine wo_move (v := .ref _ _ _ _ _ _) rfl rfl rfl rfl rfl (fun h => AV.noConfusion h) ?_
  refine wo_move (v := .ptr _ _) rfl rfl rfl rfl rfl (fun h => AV.noConfusion h) ?_
  refine wo_nilCheck (v := .ptr _ _) rfl rfl rfl rfl rfl rfl ?_
  refine wo_faddr t63 t31 rfl rfl rfl rfl rfl rfl rfl ?_
  refine wo_load t31 rfl rfl rfl rfl rfl rfl ?_
  refine wo_copy (H' := [_, _]) t31 rfl rfl rfl rfl rfl rfl rfl rfl (rfl) (VB.copy (l := []) rfl rfl rfl) rfl rfl rfl ?_
  refine wo_nil ?_
  refine ⟨[_, _, _, _, _, _, _, _, _, _, _, _, _, _, _, _, _, _, _], rfl, ?_⟩
  refine wp_seq ?_
  refine wp_region rfl rfl ?_
  refine wo_move (v := .ref _ _ _ _ _ _) rfl rfl rfl rfl rfl (fun h => AV.noConfusion h) ?_
  refine wo_assign (v := .ref _ _ _ _ _ _) rfl rfl rfl rfl rfl (fun h => AV.noConfusion h) ?_
  refine wo_nil ?_
  refine ⟨[_, _, _, _, _, _, _, _, _, _, _, _, _, _, _, _, _, _, _], rfl, ?_⟩
  refine wp_ret ?_
  exact ⟨trivial, _, rfl, leave_ren (order := [0, 1]) (bs := [_, _]) (.inl rfl) rfl (by kernel_rfl) (by kernel_rfl) rfl (by kernel_rfl)⟩
theorem sample_ref {size sn fl : Nat} {l : List V} (hl : l.length ≤ 1000) (hfl : fl ≤ l.length) (N : Nat) (hN : 1 ≤ N) : call G N 22 [.ptr 0 0] [RX size sn (VR 1 l), VB l fl] = some (.ret (VR 2 l), [RX size sn (VR 1 l), VB l fl, VB l l.length]) := by
  obtain ⟨N, rfl⟩ : ∃ M, N = M + 1 := ⟨N - 1, by omega⟩
  refine call_eq func22 rfl (show _ = [_, _, _, _, _, _, _, _, _, _, _, _, _, _, _, _, _, _, _] from rfl) ?_
  refine wp_seq ?_
  refine wp_region rfl rfl ?_
  refine wo_apv rfl rfl rfl rfl rfl ?_
  refine wo_nil ?_
  refine ⟨[_, _, _, _, _, _, _, _, _, _, _, _, _, _, _, _, _, _, _], rfl, ?_⟩
  refine wp_seq ?_
  refine wp_seq ?_
  refine wp_region rfl rfl ?_
  refine wo_move (v := .ptr _ _) rfl rfl rfl rfl rfl (fun h => AV.noConfusion h) ?_
  refine wo_bint t33 rfl rfl rfl rfl rfl ?_
  refine wo_nil ?_
  refine ⟨[_, _, _, _, _, _, _, _, _, _, _, _, _, _, _, _, _, _, _], rfl, ?_⟩
  refine wp_false rfl ?_
  refine wp_skip ?_
  refine wp_seq ?_
  refine wp_region rfl rfl ?_
  refine wo_move (v := .ptr _ _) rfl rfl rfl rfl rfl (fun h => AV.noConfusion h) ?_
  refine wo_nilCheck (v := .ptr _ _) rfl rfl rfl rfl rfl rfl ?_
  refine wo_faddr t63 t31 rfl rfl rfl rfl rfl rfl rfl ?_
  refine wo_load t31 rfl rfl rfl rfl rfl rfl ?_
  refine wo_len t31 rfl rfl rfl rfl rfl rfl rfl rfl rfl ?_
  refine wo_makeSlice (H' := [_, _, _]) rfl rfl rfl rfl (mk31 (n := l.length) (by omega)) rfl ?_
  refine wo_assign (v := .ref _ _ _ _ _ _) rfl rfl rfl rfl rfl (fun h => AV.noConfusion h) ?_
  refine wo_nil ?_
  refine ⟨[_, _, _, _, _, _, _, _, _, _, _, _, _, _, _, _, _, _, _], rfl, ?_⟩
  refine wp_seq ?_
  refine wp_region rfl rfl ?_
  refine wo_move (v := .ref _ _ _ _ _ _) rfl rfl rfl rfl rfl (fun h => AV.noConfusion h) ?_
  refine wo_move (v := .ptr _ _) rfl rfl rfl rfl rfl (fun h => AV.noConfusion h) ?_
  refine wo_nilCheck (v := .ptr _ _) rfl rfl rfl rfl rfl rfl ?_
  refine wo_faddr t63 t31 rfl rfl rfl rfl rfl rfl rfl ?_
  refine wo_load t31 rfl rfl rfl rfl rfl rfl ?_
  refine wo_copy (H' := [_, _, _]) t31 rfl rfl rfl rfl rfl rfl rfl rfl (rows_vr rfl hfl) (VB.copy (l := l) rfl rfl (by simp)) rfl rfl rfl ?_
  refine wo_nil ?_
  refine ⟨[_, _, _, _, _, _, _, _, _, _, _, _, _, _, _, _, _, _, _], rfl, ?_⟩
  refine wp_seq ?_
  refine wp_region rfl rfl ?_
  refine wo_move (v := .ref _ _ _ _ _ _) rfl rfl rfl rfl rfl (fun h => AV.noConfusion h) ?_
  refine wo_assign (v := .ref _ _ _ _ _ _) rfl rfl rfl rfl rfl (fun h => AV.noConfusion h) ?_
  refine wo_nil ?_
  refine ⟨[_, _, _, _, _, _, _, _, _, _, _, _, _, _, _, _, _, _, _], rfl, ?_⟩
  refine wp_ret ?_
  exact ⟨trivial, _, rfl, leave_ren (order := [0, 1, 2]) (bs := [_, _, _]) (.inl rfl) rfl (by kernel_rfl) (by kernel_rfl) rfl (by kernel_rfl)⟩
theorem seen_nil (size sn : Nat) (N : Nat) (hN : 1 ≤ N) : call G N 24 [.ptr 0 0] [RX size sn (.pv .nils)] = some (.ret (.pv (.int .i64 sn)), [RX size sn (.pv .nils)]) := by
  obtain ⟨N, rfl⟩ : ∃ M, N = M + 1 := ⟨N - 1, by omega⟩
  refine call_eq func24 rfl (show _ = [_, _, _, _, _, _, _, _, _] from rfl) ?_
  refine wp_seq ?_
  refine wp_region rfl rfl ?_
  refine wo_apv rfl rfl rfl rfl rfl ?_
  refine wo_nil ?_
  refine ⟨[_, _, _, _, _, _, _, _, _], rfl, ?_⟩
  refine wp_seq ?_
  refine wp_seq ?_
  refine wp_region rfl rfl ?_
  refine wo_move (v := .ptr _ _) rfl rfl rfl rfl rfl (fun h => AV.noConfusion h) ?_
  refine wo_bint t33 rfl rfl rfl rfl rfl ?_
  refine wo_nil ?_
  refine ⟨[_, _, _, _, _, _, _, _, _], rfl, ?_⟩
  refine wp_false rfl ?_
  refine wp_skip ?_
  refine wp_seq ?_
  refine wp_region rfl rfl ?_
  refine wo_move (v := .ptr _ _) rfl rfl rfl rfl rfl (fun h => AV.noConfusion h) ?_
  refine wo_nilCheck (v := .ptr _ _) rfl rfl rfl rfl rfl rfl ?_
  refine wo_faddr t63 t3 rfl rfl rfl rfl rfl rfl rfl ?_
  refine wo_load t3 rfl rfl rfl rfl rfl rfl ?_
  refine wo_apv rfl rfl rfl rfl rfl ?_
  refine wo_nil ?_
  refine ⟨[_, _, _, _, _, _, _, _, _], rfl, ?_⟩
  refine wp_ret ?_
  exact ⟨trivial, _, rfl, leave_same (.inl rfl) rfl⟩
theorem seen_ref (size sn fl : Nat) (l : List V) (N : Nat) (hN : 1 ≤ N) : call G N 24 [.ptr 0 0] [RX size sn (VR 1 l), VB l fl] = some (.ret (.pv (.int .i64 sn)), [RX size sn (VR 1 l), VB l fl]) := by
  obtain ⟨N, rfl⟩ : ∃ M, N = M + 1 := ⟨N - 1, by omega⟩
  refine call_eq func24 rfl (show _ = [_, _, _, _, _, _, _, _, _] from rfl) ?_
  refine wp_seq ?_
  refine wp_region rfl rfl ?_
  refine wo_apv rfl rfl rfl rfl rfl ?_
  refine wo_nil ?_
  refine ⟨[_, _, _, _, _, _, _, _, _], rfl, ?_⟩
  refine wp_seq ?_
  refine wp_seq ?_
  refine wp_region rfl rfl ?_
  refine wo_move (v := .ptr _ _) rfl rfl rfl rfl rfl (fun h => AV.noConfusion h) ?_
  refine wo_bint t33 rfl rfl rfl rfl rfl ?_
  refine wo_nil ?_
  refine ⟨[_, _, _, _, _, _, _, _, _], rfl, ?_⟩
  refine wp_false rfl ?_
  refine wp_skip ?_
  refine wp_seq ?_
  refine wp_region rfl rfl ?_
  refine wo_move (v := .ptr _ _) rfl rfl rfl rfl rfl (fun h => AV.noConfusion h) ?_
  refine wo_nilCheck (v := .ptr _ _) rfl rfl rfl rfl rfl rfl ?_
  refine wo_faddr t63 t3 rfl rfl rfl rfl rfl rfl rfl ?_
  refine wo_load t3 rfl rfl rfl rfl rfl rfl ?_
  refine wo_apv rfl rfl rfl rfl rfl ?_
  refine wo_nil ?_
  refine ⟨[_, _, _, _, _, _, _, _, _], rfl, ?_⟩
  refine wp_ret ?_
  exact ⟨trivial, _, rfl, leave_same (.inl rfl) rfl⟩
end Go.Ab.Ytnfgpejdbmakkaa
