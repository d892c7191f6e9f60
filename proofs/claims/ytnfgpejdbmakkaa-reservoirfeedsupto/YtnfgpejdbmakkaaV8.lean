import Derived.Test.YtnfgpejdbmakkaaV7
namespace Go.Ab.Ytnfgpejdbmakkaa
open Go Go.Ab
open Go.Proofs.Try
set_option maxRecDepth 100000
set_option maxHeartbeats 20000000
set_option linter.unusedSimpArgs false
set_option linter.unusedVariables false

/-- The draw of a place, in the law of feeding. -/
def dr2 (draws : List Nat) (i : Nat) : Nat := (draws[i]?).getD i
theorem dr2_in {draws : List Nat} {i : Nat} (h : i < draws.length) : draws[i] = dr2 draws i := by simp [dr2, h]
theorem dr2_out {draws : List Nat} {i : Nat} (h : ¬ i < draws.length) : dr2 draws i = i := by
  have : draws[i]? = none := List.getElem?_eq_none (by omega)
  simp [dr2, this]
theorem dr2_lt {draws : List Nat} (h : D64 draws) {i : Nat} (hi : i < 2 ^ 64) : dr2 draws i < 2 ^ 64 := by
  by_cases hh : i < draws.length
  · rw [← dr2_in hh]; exact h _ (List.getElem_mem hh)
  · rw [dr2_out hh]; exact hi
theorem SV.slice1 {p : PV} {l : List V} (h : SV p l) {j : Nat} (hj : j < l.length) : aSlice 4 (.pv p) (some (.pv (.int .i64 j))) (some (.pv (.int .i64 ((j + 1 : Nat) : Int)))) = some (.pv (.sl [(l[j]).row])) := by
  rcases h with rfl | ⟨rfl, rfl⟩
  · unfold aSlice
    simp only [lenA, List.length_map, bound, Int.natCast_nonneg, if_true, Int.toNat_natCast]
    rw [if_pos ⟨by omega, by omega⟩, if_neg (by omega), if_pos (by simp [hj, V.row])]
    congr 3
    rw [show j + 1 - j = 1 by omega, List.take_one, List.head?_drop]
    simp [hj]
  · cases hj
theorem SV.noStr {p : PV} {l : List V} (h : SV p l) : noStr (.pv p) = true := by
  rcases h with rfl | ⟨rfl, rfl⟩ <;> rfl
theorem rof_one {v : V} (hv : v.Ok) (N : Nat) (hN : 9 ≤ N) : ∃ px, call G N 20 [.pv (.sl [v.row]), .pv (.int .i64 1), .pv .nils] [] = some (.ret (.tup [.pv px, .pv (.int .i64 (if v.right = true then 0 else 2))]), []) := by
  obtain ⟨w, H, h, o⟩ := rof_ok (p := .sl [v.row]) (q := .nils) (l := [v]) (draws := []) (.inl rfl) (.inr ⟨rfl, rfl⟩) (fun x hx => by simp at hx; rw [hx]; exact hv) (fun x hx => by simp at hx) (by simp) (size := 1) (by omega) (by omega) N (by simpa using hN)
  cases hr : v.right with
  | true =>
    rw [show ofM V.rplain 1 [] [] 0 [v] = some (feedM V.rplain 1 [] 0 v (dr [] 0)) by simp [ofM, hr]] at o
    obtain ⟨p, hp, rfl, rfl⟩ := o
    exact ⟨p, h⟩
  | false =>
    rw [show ofM V.rplain 1 [] [] 0 [v] = none by simp [ofM, hr]] at o
    obtain ⟨rfl, rfl⟩ := o
    exact ⟨.nils, h⟩
/-- A row whose rows are of four cells each. -/
def RB4 (rows : List (List PV)) (fl : Nat) : Blk := .row 40 4 ⟨rows, 0, fl, 0, 0⟩
def setK (rows : List (List PV)) (j : Nat) (p : PV) : List (List PV) := rows.set j (p :: ((rows[j]?).getD []).drop 1)
theorem setK_len (rows : List (List PV)) (j : Nat) (p : PV) : (setK rows j p).length = rows.length := by simp [setK]
theorem setK_4 {rows : List (List PV)} {j : Nat} (p : PV) (hj : j < rows.length) (h4 : ∀ r ∈ rows, r.length = 4) : ∀ r ∈ setK rows j p, r.length = 4 := by
  intro r hr
  rcases List.mem_or_eq_of_mem_set hr with h | rfl
  · exact h4 r h
  · have := h4 _ (List.getElem_mem hj)
    simp [hj, this]
theorem store_kind {k j fl n : Nat} {rows : List (List PV)} {look : Look} {p : PV} (hl : look k = some (RB4 rows fl)) (hn : rows.length = n) (hfl : fl ≤ n) (hj : j < n) (h4 : ∀ r ∈ rows, r.length = 4) :
    aStore G.T 3 (.eptr k 0 n 4 j 0) (.pv p) look = some ⟨.undef, [(k, RB4 (setK rows j p) n)], []⟩ := by
  subst hn
  have hc : rows[j]? = some rows[j] := List.getElem?_eq_getElem hj
  have hcl := h4 _ (List.getElem_mem hj)
  simp only [aStore, t3, AV.cells, List.length_cons, List.length_nil, hl, RB4]
  rw [if_pos trivial, if_pos ⟨trivial, trivial, hfl, trivial, hj, trivial⟩]
  simp [pures, hc, splice, hcl, setK]
theorem rows4 (l : List V) : ∀ r ∈ List.map V.row l, r.length = 4 := by
  intro r hr
  obtain ⟨v, _, rfl⟩ := List.mem_map.1 hr
  rfl
theorem feed_set' {size sn fl : Nat} {l : List V} (h1 : 1 ≤ size) (h2 : size ≤ 400) (hsn : sn ≤ 100000) (hl : l.length = size) (hfl : fl ≤ l.length) {v : V} (hv : v.Ok) (hr : v.right = true) {draw : Nat} (hd : draw < 2 ^ 64) (hk : draw % (sn + 1) < size) (N : Nat) (hN : 5 ≤ N) : call G N 19 [.ptr 0 0, .agg (v.row.map .pv), .pv (.int .u64 draw)] [RX size sn (VR 1 l), VB l fl] = some (.ret (.pv (.int .i64 0)), [RX size (sn + 1) (VR 1 (l.set (draw % (sn + 1)) v.plain)), VB (l.set (draw % (sn + 1)) v.plain) l.length]) := by
  have h := feed_set h1 h2 hsn hl hfl hv hr hd hk N hN
  rw [h]
  simp [VR]
theorem okFeed {P : V → V} {size sn draw : Nat} {a : List V} {v : V} (ha : OkL a) (hv : (P v).Ok) : OkL (feedM P size a sn v draw) := by
  intro y hy
  unfold feedM at hy
  split at hy
  · rcases List.mem_append.1 hy with hy | hy
    · exact ha y hy
    · simp at hy; subst hy; exact hv
  · split at hy
    · rcases List.mem_or_eq_of_mem_set hy with hy | rfl
      · exact ha y hy
      · exact hv
    · exact ha y hy

theorem feeds_bad {p q : PV} {l : List V} {size : Int} (h : size < 1 ∨ size > 400) (hw : call G 1500 18 [] [] = some (.ret (.pv (.bool true)), [])) : call G 1501 5 [.pv p, .pv (.int .i64 size), .pv q] [] = some (.ret (.pv (.bool true)), []) := by
  refine call_eq func5 rfl (show _ = [_, _, _, _, _, _, _, _, _, _, _, _, _, _, _, _, _, _, _, _, _, _, _, _, _, _, _, _, _, _, _, _, _, _, _, _, _, _, _, _, _, _, _, _, _, _, _, _, _, _, _, _, _, _, _, _, _, _, _, _, _, _, _, _, _, _, _, _, _, _, _, _, _, _, _, _, _, _, _, _, _, _, _, _, _, _, _, _, _, _, _, _, _, _, _, _, _, _, _, _, _, _, _, _, _, _, _, _, _, _, _, _, _, _, _, _, _, _, _, _, _] from rfl) ?_
  refine wp_seq ?_
  refine wp_region rfl rfl ?_
  refine wo_apv rfl rfl rfl rfl rfl ?_
  refine wo_nil ?_
  refine ⟨[_, _, _, _, _, _, _, _, _, _, _, _, _, _, _, _, _, _, _, _, _, _, _, _, _, _, _, _, _, _, _, _, _, _, _, _, _, _, _, _, _, _, _, _, _, _, _, _, _, _, _, _, _, _, _, _, _, _, _, _, _, _, _, _, _, _, _, _, _, _, _, _, _, _, _, _, _, _, _, _, _, _, _, _, _, _, _, _, _, _, _, _, _, _, _, _, _, _, _, _, _, _, _, _, _, _, _, _, _, _, _, _, _, _, _, _, _, _, _, _, _], rfl, ?_⟩
  refine wp_seq ?_
  refine wp_region rfl rfl ?_
  refine wo_mpv rfl rfl rfl rfl rfl ?_
  refine wo_call (v := .tup [.pv .nilp, .pv (.int .i64 2)]) (H' := []) rfl rfl rfl rfl rfl rfl ((cl17 _ _ _ _).trans (callPure_any rfl (fun _ => rfl) rfl (new_bad h _ (by omega)))) rfl rfl rfl ?_
  refine wo_move (v := .tup _) rfl rfl rfl rfl rfl (fun h => AV.noConfusion h) ?_
  refine wo_extract (v := .pv _) rfl rfl rfl rfl rfl rfl ?_
  refine wo_extract (v := .pv _) rfl rfl rfl rfl rfl rfl ?_
  refine wo_apv rfl rfl rfl rfl rfl ?_
  refine wo_apv rfl rfl rfl rfl rfl ?_
  refine wo_nil ?_
  refine ⟨[_, _, _, _, _, _, _, _, _, _, _, _, _, _, _, _, _, _, _, _, _, _, _, _, _, _, _, _, _, _, _, _, _, _, _, _, _, _, _, _, _, _, _, _, _, _, _, _, _, _, _, _, _, _, _, _, _, _, _, _, _, _, _, _, _, _, _, _, _, _, _, _, _, _, _, _, _, _, _, _, _, _, _, _, _, _, _, _, _, _, _, _, _, _, _, _, _, _, _, _, _, _, _, _, _, _, _, _, _, _, _, _, _, _, _, _, _, _, _, _, _], rfl, ?_⟩
  refine wp_seq ?_
  refine wp_seq ?_
  refine wp_region rfl rfl ?_
  refine wo_mpv rfl rfl rfl rfl rfl ?_
  refine wo_bsplit rfl rfl rfl rfl rfl (fun c2_1 => ?_) (fun c2_1 => ?_)
  ·
    refine wo_mpv rfl rfl rfl rfl rfl ?_
    refine wo_off rfl rfl rfl ?_
    refine wo_off rfl rfl rfl ?_
    refine wo_pick (v := .pv _) rfl rfl rfl rfl rfl rfl ?_
    refine wo_nil ?_
    refine ⟨[_, _, _, _, _, _, _, _, _, _, _, _, _, _, _, _, _, _, _, _, _, _, _, _, _, _, _, _, _, _, _, _, _, _, _, _, _, _, _, _, _, _, _, _, _, _, _, _, _, _, _, _, _, _, _, _, _, _, _, _, _, _, _, _, _, _, _, _, _, _, _, _, _, _, _, _, _, _, _, _, _, _, _, _, _, _, _, _, _, _, _, _, _, _, _, _, _, _, _, _, _, _, _, _, _, _, _, _, _, _, _, _, _, _, _, _, _, _, _, _, _], rfl, ?_⟩
    refine wp_true rfl ?_
    refine wp_seq ?_
    refine wp_region rfl rfl ?_
    refine wo_mpv rfl rfl rfl rfl rfl ?_
    refine wo_bint t33 rfl rfl rfl rfl rfl ?_
    refine wo_mpv rfl rfl rfl rfl rfl ?_
    refine wo_mpv rfl rfl rfl rfl rfl ?_
    refine wo_bin (v := .pv (.bool true)) rfl rfl rfl rfl (eT rfl) ?_
    refine wo_pick (v := .pv _) rfl rfl rfl rfl rfl rfl ?_
    refine wo_mpv rfl rfl rfl rfl rfl ?_
    refine wo_call (v := .pv (.bool true)) (H' := []) rfl rfl rfl rfl rfl rfl ((cl18 _ _ _ _).trans (callPure_pv rfl (fun _ => rfl) hw)) rfl rfl rfl ?_
    refine wo_pick (v := .pv _) rfl rfl rfl rfl rfl rfl ?_
    refine wo_apv rfl rfl rfl rfl rfl ?_
    refine wo_nil ?_
    refine ⟨[_, _, _, _, _, _, _, _, _, _, _, _, _, _, _, _, _, _, _, _, _, _, _, _, _, _, _, _, _, _, _, _, _, _, _, _, _, _, _, _, _, _, _, _, _, _, _, _, _, _, _, _, _, _, _, _, _, _, _, _, _, _, _, _, _, _, _, _, _, _, _, _, _, _, _, _, _, _, _, _, _, _, _, _, _, _, _, _, _, _, _, _, _, _, _, _, _, _, _, _, _, _, _, _, _, _, _, _, _, _, _, _, _, _, _, _, _, _, _, _, _], rfl, ?_⟩
    refine wp_ret ?_
    first
      | (exfalso; omega)
      | exact ⟨trivial, _, rfl, leave_pure⟩
  ·
    refine wo_mpv rfl rfl rfl rfl rfl ?_
    refine wo_mpv rfl rfl rfl rfl rfl ?_
    refine wo_bsplit rfl rfl rfl rfl rfl (fun c2_4 => ?_) (fun c2_4 => ?_)
    ·
      refine wo_pick (v := .pv _) rfl rfl rfl rfl rfl rfl ?_
      refine wo_nil ?_
      refine ⟨[_, _, _, _, _, _, _, _, _, _, _, _, _, _, _, _, _, _, _, _, _, _, _, _, _, _, _, _, _, _, _, _, _, _, _, _, _, _, _, _, _, _, _, _, _, _, _, _, _, _, _, _, _, _, _, _, _, _, _, _, _, _, _, _, _, _, _, _, _, _, _, _, _, _, _, _, _, _, _, _, _, _, _, _, _, _, _, _, _, _, _, _, _, _, _, _, _, _, _, _, _, _, _, _, _, _, _, _, _, _, _, _, _, _, _, _, _, _, _, _, _], rfl, ?_⟩
      refine wp_true rfl ?_
      refine wp_seq ?_
      refine wp_region rfl rfl ?_
      refine wo_mpv rfl rfl rfl rfl rfl ?_
      refine wo_bint t33 rfl rfl rfl rfl rfl ?_
      refine wo_mpv rfl rfl rfl rfl rfl ?_
      refine wo_mpv rfl rfl rfl rfl rfl ?_
      refine wo_bin (v := .pv (.bool true)) rfl rfl rfl rfl (eT rfl) ?_
      refine wo_pick (v := .pv _) rfl rfl rfl rfl rfl rfl ?_
      refine wo_mpv rfl rfl rfl rfl rfl ?_
      refine wo_call (v := .pv (.bool true)) (H' := []) rfl rfl rfl rfl rfl rfl ((cl18 _ _ _ _).trans (callPure_pv rfl (fun _ => rfl) hw)) rfl rfl rfl ?_
      refine wo_pick (v := .pv _) rfl rfl rfl rfl rfl rfl ?_
      refine wo_apv rfl rfl rfl rfl rfl ?_
      refine wo_nil ?_
      refine ⟨[_, _, _, _, _, _, _, _, _, _, _, _, _, _, _, _, _, _, _, _, _, _, _, _, _, _, _, _, _, _, _, _, _, _, _, _, _, _, _, _, _, _, _, _, _, _, _, _, _, _, _, _, _, _, _, _, _, _, _, _, _, _, _, _, _, _, _, _, _, _, _, _, _, _, _, _, _, _, _, _, _, _, _, _, _, _, _, _, _, _, _, _, _, _, _, _, _, _, _, _, _, _, _, _, _, _, _, _, _, _, _, _, _, _, _, _, _, _, _, _, _], rfl, ?_⟩
      refine wp_ret ?_
      first
        | (exfalso; omega)
        | exact ⟨trivial, _, rfl, leave_pure⟩
    ·
      refine wo_pick (v := .pv _) rfl rfl rfl rfl rfl rfl ?_
      refine wo_nil ?_
      refine ⟨[_, _, _, _, _, _, _, _, _, _, _, _, _, _, _, _, _, _, _, _, _, _, _, _, _, _, _, _, _, _, _, _, _, _, _, _, _, _, _, _, _, _, _, _, _, _, _, _, _, _, _, _, _, _, _, _, _, _, _, _, _, _, _, _, _, _, _, _, _, _, _, _, _, _, _, _, _, _, _, _, _, _, _, _, _, _, _, _, _, _, _, _, _, _, _, _, _, _, _, _, _, _, _, _, _, _, _, _, _, _, _, _, _, _, _, _, _, _, _, _, _], rfl, ?_⟩
      refine wp_false rfl ?_
      refine wp_skip ?_
      refine wp_seq ?_
      refine wp_seq ?_
      refine wp_region rfl rfl ?_
      refine wo_mpv rfl rfl rfl rfl rfl ?_
      refine wo_bint t33 rfl rfl rfl rfl rfl ?_
      refine wo_mpv rfl rfl rfl rfl rfl ?_
      refine wo_off rfl rfl rfl ?_
      refine wo_off rfl rfl rfl ?_
      refine wo_pick (v := .pv _) rfl rfl rfl rfl rfl rfl ?_
      refine wo_nil ?_
      refine ⟨[_, _, _, _, _, _, _, _, _, _, _, _, _, _, _, _, _, _, _, _, _, _, _, _, _, _, _, _, _, _, _, _, _, _, _, _, _, _, _, _, _, _, _, _, _, _, _, _, _, _, _, _, _, _, _, _, _, _, _, _, _, _, _, _, _, _, _, _, _, _, _, _, _, _, _, _, _, _, _, _, _, _, _, _, _, _, _, _, _, _, _, _, _, _, _, _, _, _, _, _, _, _, _, _, _, _, _, _, _, _, _, _, _, _, _, _, _, _, _, _, _], rfl, ?_⟩
      refine wp_true rfl ?_
      refine wp_seq ?_
      refine wp_region rfl rfl ?_
      refine wo_apv rfl rfl rfl rfl rfl ?_
      refine wo_nil ?_
      refine ⟨[_, _, _, _, _, _, _, _, _, _, _, _, _, _, _, _, _, _, _, _, _, _, _, _, _, _, _, _, _, _, _, _, _, _, _, _, _, _, _, _, _, _, _, _, _, _, _, _, _, _, _, _, _, _, _, _, _, _, _, _, _, _, _, _, _, _, _, _, _, _, _, _, _, _, _, _, _, _, _, _, _, _, _, _, _, _, _, _, _, _, _, _, _, _, _, _, _, _, _, _, _, _, _, _, _, _, _, _, _, _, _, _, _, _, _, _, _, _, _, _, _], rfl, ?_⟩
      refine wp_ret ?_
      first
        | (exfalso; omega)
        | exact ⟨trivial, _, rfl, leave_pure⟩
theorem feeds {p q : PV} {l : List V} {draws : List Nat} (hp : SV p l) (hq : SU q draws) (ho : OkL l) (hd : D64 draws) {size : Nat} (h1 : 1 ≤ size) (h2 : size ≤ 400) (hw : call G 1500 18 [] [] = some (.ret (.pv (.bool true)), [])) : call G 1501 5 [.pv p, .pv (.int .i64 size), .pv q] [] = some (.ret (.pv (.bool true)), []) := by
  refine call_eq func5 rfl (show _ = [_, _, _, _, _, _, _, _, _, _, _, _, _, _, _, _, _, _, _, _, _, _, _, _, _, _, _, _, _, _, _, _, _, _, _, _, _, _, _, _, _, _, _, _, _, _, _, _, _, _, _, _, _, _, _, _, _, _, _, _, _, _, _, _, _, _, _, _, _, _, _, _, _, _, _, _, _, _, _, _, _, _, _, _, _, _, _, _, _, _, _, _, _, _, _, _, _, _, _, _, _, _, _, _, _, _, _, _, _, _, _, _, _, _, _, _, _, _, _, _, _] from rfl) ?_
  refine wp_seq ?_
  refine wp_region rfl rfl ?_
  refine wo_apv rfl rfl rfl rfl rfl ?_
  refine wo_nil ?_
  refine ⟨[_, _, _, _, _, _, _, _, _, _, _, _, _, _, _, _, _, _, _, _, _, _, _, _, _, _, _, _, _, _, _, _, _, _, _, _, _, _, _, _, _, _, _, _, _, _, _, _, _, _, _, _, _, _, _, _, _, _, _, _, _, _, _, _, _, _, _, _, _, _, _, _, _, _, _, _, _, _, _, _, _, _, _, _, _, _, _, _, _, _, _, _, _, _, _, _, _, _, _, _, _, _, _, _, _, _, _, _, _, _, _, _, _, _, _, _, _, _, _, _, _], rfl, ?_⟩
  refine wp_seq ?_
  refine wp_region rfl rfl ?_
  refine wo_mpv rfl rfl rfl rfl rfl ?_
  refine wo_call (v := .tup [.ptr 0 0, .pv (.int .i64 0)]) (H' := [_]) rfl rfl rfl rfl rfl rfl ((cl17 _ _ _ _).trans (callPure_new (bs' := [_]) rfl (fun _ => rfl) rfl rfl rfl (new_ok h1 h2 _ (by omega)))) rfl rfl rfl ?_
  refine wo_move (v := .tup _) rfl rfl rfl rfl rfl (fun h => AV.noConfusion h) ?_
  refine wo_extract (v := .ptr _ _) rfl rfl rfl rfl rfl rfl ?_
  refine wo_extract (v := .pv _) rfl rfl rfl rfl rfl rfl ?_
  refine wo_assign (v := .ptr _ _) rfl rfl rfl rfl rfl (fun h => AV.noConfusion h) ?_
  refine wo_apv rfl rfl rfl rfl rfl ?_
  refine wo_nil ?_
  refine ⟨[_, _, _, _, _, _, _, _, _, _, _, _, _, _, _, _, _, _, _, _, _, _, _, _, _, _, _, _, _, _, _, _, _, _, _, _, _, _, _, _, _, _, _, _, _, _, _, _, _, _, _, _, _, _, _, _, _, _, _, _, _, _, _, _, _, _, _, _, _, _, _, _, _, _, _, _, _, _, _, _, _, _, _, _, _, _, _, _, _, _, _, _, _, _, _, _, _, _, _, _, _, _, _, _, _, _, _, _, _, _, _, _, _, _, _, _, _, _, _, _, _], rfl, ?_⟩
  refine wp_seq ?_
  refine wp_seq ?_
  refine wp_region rfl rfl ?_
  refine wo_mpv rfl rfl rfl rfl rfl ?_
  refine wo_bin (v := .pv (.bool false)) rfl rfl rfl rfl (bF (by omega)) ?_
  refine wo_mpv rfl rfl rfl rfl rfl ?_
  refine wo_mpv rfl rfl rfl rfl rfl ?_
  refine wo_bin (v := .pv (.bool false)) rfl rfl rfl rfl (bF (by omega)) ?_
  refine wo_pick (v := .pv _) rfl rfl rfl rfl rfl rfl ?_
  refine wo_nil ?_
  refine ⟨[_, _, _, _, _, _, _, _, _, _, _, _, _, _, _, _, _, _, _, _, _, _, _, _, _, _, _, _, _, _, _, _, _, _, _, _, _, _, _, _, _, _, _, _, _, _, _, _, _, _, _, _, _, _, _, _, _, _, _, _, _, _, _, _, _, _, _, _, _, _, _, _, _, _, _, _, _, _, _, _, _, _, _, _, _, _, _, _, _, _, _, _, _, _, _, _, _, _, _, _, _, _, _, _, _, _, _, _, _, _, _, _, _, _, _, _, _, _, _, _, _], rfl, ?_⟩
  refine wp_false rfl ?_
  refine wp_skip ?_
  refine wp_seq ?_
  refine wp_seq ?_
  refine wp_region rfl rfl ?_
  refine wo_move (v := .ptr _ _) rfl rfl rfl rfl rfl (fun h => AV.noConfusion h) ?_
  refine wo_bint t33 rfl rfl rfl rfl rfl ?_
  refine wo_mpv rfl rfl rfl rfl rfl ?_
  refine wo_mpv rfl rfl rfl rfl rfl ?_
  refine wo_bin (v := .pv (.bool false)) rfl rfl rfl rfl (nF rfl) ?_
  refine wo_pick (v := .pv _) rfl rfl rfl rfl rfl rfl ?_
  refine wo_nil ?_
  refine ⟨[_, _, _, _, _, _, _, _, _, _, _, _, _, _, _, _, _, _, _, _, _, _, _, _, _, _, _, _, _, _, _, _, _, _, _, _, _, _, _, _, _, _, _, _, _, _, _, _, _, _, _, _, _, _, _, _, _, _, _, _, _, _, _, _, _, _, _, _, _, _, _, _, _, _, _, _, _, _, _, _, _, _, _, _, _, _, _, _, _, _, _, _, _, _, _, _, _, _, _, _, _, _, _, _, _, _, _, _, _, _, _, _, _, _, _, _, _, _, _, _, _], rfl, ?_⟩
  refine wp_false rfl ?_
  refine wp_skip ?_
  refine wp_seq ?_
  refine wp_region rfl rfl ?_
  refine wo_apv rfl rfl rfl rfl rfl ?_
  refine wo_nil ?_
  refine ⟨[_, _, _, _, _, _, _, _, _, _, _, _, _, _, _, _, _, _, _, _, _, _, _, _, _, _, _, _, _, _, _, _, _, _, _, _, _, _, _, _, _, _, _, _, _, _, _, _, _, _, _, _, _, _, _, _, _, _, _, _, _, _, _, _, _, _, _, _, _, _, _, _, _, _, _, _, _, _, _, _, _, _, _, _, _, _, _, _, _, _, _, _, _, _, _, _, _, _, _, _, _, _, _, _, _, _, _, _, _, _, _, _, _, _, _, _, _, _, _, _, _], rfl, ?_⟩
  refine wp_seq ?_
  refine wp_region rfl rfl ?_
  refine wo_apv rfl rfl rfl rfl rfl ?_
  refine wo_nil ?_
  refine ⟨[_, _, _, _, _, _, _, _, _, _, _, _, _, _, _, _, _, _, _, _, _, _, _, _, _, _, _, _, _, _, _, _, _, _, _, _, _, _, _, _, _, _, _, _, _, _, _, _, _, _, _, _, _, _, _, _, _, _, _, _, _, _, _, _, _, _, _, _, _, _, _, _, _, _, _, _, _, _, _, _, _, _, _, _, _, _, _, _, _, _, _, _, _, _, _, _, _, _, _, _, _, _, _, _, _, _, _, _, _, _, _, _, _, _, _, _, _, _, _, _, _], rfl, ?_⟩
  refine wp_seq ?_
  refine wp_seq ?_
  refine wp_region rfl rfl ?_
  refine wo_apv rfl rfl rfl rfl rfl ?_
  refine wo_nil ?_
  refine ⟨[_, _, _, _, _, _, _, _, _, _, _, _, _, _, _, _, _, _, _, _, _, _, _, _, _, _, _, _, _, _, _, _, _, _, _, _, _, _, _, _, _, _, _, _, _, _, _, _, _, _, _, _, _, _, _, _, _, _, _, _, _, _, _, _, _, _, _, _, _, _, _, _, _, _, _, _, _, _, _, _, _, _, _, _, _, _, _, _, _, _, _, _, _, _, _, _, _, _, _, _, _, _, _, _, _, _, _, _, _, _, _, _, _, _, _, _, _, _, _, _, _], rfl, ?_⟩
  refine wp_block ?_
  refine wp_loop (fun k t H => ∃ (j sn : Nat) (a b : List V) (pb : PV) (fl : Nat), j + k = min l.length 100 ∧ sn ≤ j ∧ a.length ≤ size ∧ fl ≤ a.length ∧ OkL a ∧ OkL b ∧ EqL a b ∧ SV pb b ∧ t = [.pv p, .pv (.int .i64 size), .pv q, .any, .any, .any, .any, .ptr 0 0, .any, .pv pb, .pv (.int .i64 (sn : Nat)), .pv (.int .i64 (j : Nat)), .any, .any, .any, .any, .any, .any, .any, .any, .any, .any, .any, .any, .any, .any, .any, .any, .any, .any, .any, .any, .any, .any, .any, .any, .any, .any, .any, .any, .any, .any, .any, .any, .any, .any, .any, .any, .any, .any, .any, .any, .any, .any, .any, .any, .any, .any, .any, .any, .any, .any, .any, .any, .any, .any, .any, .any, .any, .any, .any, .any, .any, .any, .any, .any, .any, .any, .any, .any, .any, .any, .any, .any, .any, .any, .any, .any, .any, .any, .any, .any, .any, .any, .any, .any, .any, .any, .any, .any, .any, .any, .any, .any, .any, .any, .any, .any, .any, .any, .any, .any, .any, .any, .any, .any, .any, .any, .any, .any, .any] ∧ ((a = [] ∧ H = [RX size sn (.pv .nils)]) ∨ (a ≠ [] ∧ H = [RX size sn (VR 1 a), VB a fl]))) (min l.length 100) ⟨0, 0, [], [], .nils, 0, by omega, by omega, by simp, by simp, fun v hv => by simp at hv, fun v hv => by simp at hv, EqL.nil, .inr ⟨rfl, rfl⟩, rfl, .inl ⟨rfl, rfl⟩⟩ (by omega) ?_
  rintro k _ _ hk ⟨j, sn, a, b, pb, fl, hj, hsn, hal, hfl, oa, ob, hab, hpb, rfl, ⟨rfl, rfl⟩ | ⟨hne, rfl⟩⟩
  ·
    refine wp_seq ?_
    refine wp_seq ?_
    refine wp_region rfl rfl ?_
    refine wo_mpv rfl rfl rfl rfl rfl ?_
    refine wo_mpv rfl rfl rfl rfl rfl ?_
    refine wo_len (ln := l.length) t31 rfl rfl rfl rfl rfl rfl rfl (hp.len 40) rfl ?_
    refine wo_bsplit rfl rfl rfl rfl rfl (fun c9_3 => ?_) (fun c9_3 => ?_)
    ·
      refine wo_mpv rfl rfl rfl rfl rfl ?_
      refine wo_mpv rfl rfl rfl rfl rfl ?_
      refine wo_bsplit rfl rfl rfl rfl rfl (fun c9_6 => ?_) (fun c9_6 => ?_)
      ·
        refine wo_pick (v := .pv _) rfl rfl rfl rfl rfl rfl ?_
        refine wo_nil ?_
        refine ⟨[_, _, _, _, _, _, _, _, _, _, _, _, _, _, _, _, _, _, _, _, _, _, _, _, _, _, _, _, _, _, _, _, _, _, _, _, _, _, _, _, _, _, _, _, _, _, _, _, _, _, _, _, _, _, _, _, _, _, _, _, _, _, _, _, _, _, _, _, _, _, _, _, _, _, _, _, _, _, _, _, _, _, _, _, _, _, _, _, _, _, _, _, _, _, _, _, _, _, _, _, _, _, _, _, _, _, _, _, _, _, _, _, _, _, _, _, _, _, _, _, _], rfl, ?_⟩
        refine wp_true rfl ?_
        refine wp_skip ?_
        refine wp_seq ?_
        refine wp_block ?_
        refine wp_seq ?_
        refine wp_region rfl rfl ?_
        refine wo_mpv rfl rfl rfl rfl rfl ?_
        have hjl : j < l.length := by omega
        have hok := ho _ (List.getElem_mem hjl)
        by_cases hjd : j < draws.length
        ·
          refine wo_conv (v := .pv (.int .u64 (j : Nat))) rfl rfl rfl rfl ((wconv t3 t22 rfl rfl).trans (iV (wrapU64 (by omega) (by omega)))) rfl ?_
          refine wo_apv rfl rfl rfl rfl rfl ?_
          refine wo_nil ?_
          refine ⟨[_, _, _, _, _, _, _, _, _, _, _, _, _, _, _, _, _, _, _, _, _, _, _, _, _, _, _, _, _, _, _, _, _, _, _, _, _, _, _, _, _, _, _, _, _, _, _, _, _, _, _, _, _, _, _, _, _, _, _, _, _, _, _, _, _, _, _, _, _, _, _, _, _, _, _, _, _, _, _, _, _, _, _, _, _, _, _, _, _, _, _, _, _, _, _, _, _, _, _, _, _, _, _, _, _, _, _, _, _, _, _, _, _, _, _, _, _, _, _, _, _], rfl, ?_⟩
          refine wp_seq ?_
          refine wp_seq ?_
          refine wp_region rfl rfl ?_
          refine wo_mpv rfl rfl rfl rfl rfl ?_
          refine wo_mpv rfl rfl rfl rfl rfl ?_
          refine wo_len (ln := draws.length) t32 rfl rfl rfl rfl rfl rfl rfl (hq.len 22) rfl ?_
          refine wo_bin (v := .pv (.bool true)) rfl rfl rfl rfl (bT (by omega)) ?_
          refine wo_nil ?_
          refine ⟨[_, _, _, _, _, _, _, _, _, _, _, _, _, _, _, _, _, _, _, _, _, _, _, _, _, _, _, _, _, _, _, _, _, _, _, _, _, _, _, _, _, _, _, _, _, _, _, _, _, _, _, _, _, _, _, _, _, _, _, _, _, _, _, _, _, _, _, _, _, _, _, _, _, _, _, _, _, _, _, _, _, _, _, _, _, _, _, _, _, _, _, _, _, _, _, _, _, _, _, _, _, _, _, _, _, _, _, _, _, _, _, _, _, _, _, _, _, _, _, _, _], rfl, ?_⟩
          refine wp_true rfl ?_
          refine wp_region rfl rfl ?_
          refine wo_mpv rfl rfl rfl rfl rfl ?_
          refine wo_mpv rfl rfl rfl rfl rfl ?_
          refine wo_iaddr (v := .pv (.ptr (rowU draws[j]) 0)) rfl rfl rfl rfl (hq.get (i := j) hjd rfl) ?_
          refine wo_load (v := .pv (.int .u64 ((dr2 draws j) : Nat))) t22 rfl rfl rfl rfl ((by rw [← dr2_in hjd]; rfl)) rfl ?_
          refine wo_apv rfl rfl rfl rfl rfl ?_
          refine wo_nil ?_
          refine ⟨[_, _, _, _, _, _, _, _, _, _, _, _, _, _, _, _, _, _, _, _, _, _, _, _, _, _, _, _, _, _, _, _, _, _, _, _, _, _, _, _, _, _, _, _, _, _, _, _, _, _, _, _, _, _, _, _, _, _, _, _, _, _, _, _, _, _, _, _, _, _, _, _, _, _, _, _, _, _, _, _, _, _, _, _, _, _, _, _, _, _, _, _, _, _, _, _, _, _, _, _, _, _, _, _, _, _, _, _, _, _, _, _, _, _, _, _, _, _, _, _, _], rfl, ?_⟩
          refine wp_seq ?_
          refine wp_region rfl rfl ?_
          refine wo_move (v := .ptr _ _) rfl rfl rfl rfl rfl (fun h => AV.noConfusion h) ?_
          refine wo_mpv rfl rfl rfl rfl rfl ?_
          refine wo_mpv rfl rfl rfl rfl rfl ?_
          refine wo_iaddr (v := .pv (.ptr (l[j]).row 0)) rfl rfl rfl rfl (hp.get (i := j) hjl rfl) ?_
          refine wo_load (v := .agg [_, _, _, _]) t40 rfl rfl rfl rfl rfl rfl ?_
          refine wo_mpv rfl rfl rfl rfl rfl ?_
          obtain ⟨px, hone⟩ := rof_one hok 1500 (by omega)
          cases hr : (l[j]).right
          ·
            rw [if_neg (by rw [hr]; simp)] at hone
            have hab2 := hab
            have oa2 := oa
            have ob2 := ob
            have la2 := hal
            have hpb2 := hpb
            refine wo_call (v := .pv (.int .i64 2)) (H' := [_]) rfl rfl rfl rfl rfl rfl ((cl19 _ _ _ _).trans (callRef_gen (R := [0]) (bs := [_]) (bs1 := [_]) (bs3 := [_]) rfl rfl rfl rfl (feed_bad_nil h1 hok hr (dr2 draws j) _ (by omega)) rfl rfl rfl rfl)) rfl rfl rfl ?_
            refine wo_apv rfl rfl rfl rfl rfl ?_
            refine wo_nil ?_
            refine ⟨[_, _, _, _, _, _, _, _, _, _, _, _, _, _, _, _, _, _, _, _, _, _, _, _, _, _, _, _, _, _, _, _, _, _, _, _, _, _, _, _, _, _, _, _, _, _, _, _, _, _, _, _, _, _, _, _, _, _, _, _, _, _, _, _, _, _, _, _, _, _, _, _, _, _, _, _, _, _, _, _, _, _, _, _, _, _, _, _, _, _, _, _, _, _, _, _, _, _, _, _, _, _, _, _, _, _, _, _, _, _, _, _, _, _, _, _, _, _, _, _, _], rfl, ?_⟩
            refine wp_seq ?_
            refine wp_seq ?_
            refine wp_region rfl rfl ?_
            refine wo_mpv rfl rfl rfl rfl rfl ?_
            refine wo_mpv rfl rfl rfl rfl rfl ?_
            refine wo_mpv rfl rfl rfl rfl rfl ?_
            refine wo_bin (v := .pv (.int .i64 ((j + 1 : Nat) : Int))) rfl rfl rfl rfl (iV (by rw [wrapI (by omega) (by omega)]; omega)) ?_
            refine wo_slice (v := .pv (.sl [(l[j]).row])) t31 t40 rfl rfl rfl rfl hp.noStr (hp.slice1 hjl) ?_
            refine wo_call (v := .tup [.pv px, .pv (.int .i64 2)]) (H' := [_]) rfl rfl rfl rfl rfl rfl ((cl20 _ _ _ _).trans (callPure_any rfl (fun _ => rfl) rfl hone)) rfl rfl rfl ?_
            refine wo_move (v := .tup _) rfl rfl rfl rfl rfl (fun h => AV.noConfusion h) ?_
            refine wo_extract (v := .pv _) rfl rfl rfl rfl rfl rfl ?_
            refine wo_extract (v := .pv _) rfl rfl rfl rfl rfl rfl ?_
            refine wo_apv rfl rfl rfl rfl rfl ?_
            refine wo_apv rfl rfl rfl rfl rfl ?_
            refine wo_nil ?_
            refine ⟨[_, _, _, _, _, _, _, _, _, _, _, _, _, _, _, _, _, _, _, _, _, _, _, _, _, _, _, _, _, _, _, _, _, _, _, _, _, _, _, _, _, _, _, _, _, _, _, _, _, _, _, _, _, _, _, _, _, _, _, _, _, _, _, _, _, _, _, _, _, _, _, _, _, _, _, _, _, _, _, _, _, _, _, _, _, _, _, _, _, _, _, _, _, _, _, _, _, _, _, _, _, _, _, _, _, _, _, _, _, _, _, _, _, _, _, _, _, _, _, _, _], rfl, ?_⟩
            refine wp_seq ?_
            refine wp_region rfl rfl ?_
            refine wo_mpv rfl rfl rfl rfl rfl ?_
            refine wo_bin (v := .pv (.bool true)) rfl rfl rfl rfl (nT (by decide)) ?_
            refine wo_nil ?_
            refine ⟨[_, _, _, _, _, _, _, _, _, _, _, _, _, _, _, _, _, _, _, _, _, _, _, _, _, _, _, _, _, _, _, _, _, _, _, _, _, _, _, _, _, _, _, _, _, _, _, _, _, _, _, _, _, _, _, _, _, _, _, _, _, _, _, _, _, _, _, _, _, _, _, _, _, _, _, _, _, _, _, _, _, _, _, _, _, _, _, _, _, _, _, _, _, _, _, _, _, _, _, _, _, _, _, _, _, _, _, _, _, _, _, _, _, _, _, _, _, _, _, _, _], rfl, ?_⟩
            refine wp_true rfl ?_
            refine wp_seq ?_
            refine wp_region rfl rfl ?_
            refine wo_mpv rfl rfl rfl rfl rfl ?_
            refine wo_mpv rfl rfl rfl rfl rfl ?_
            refine wo_bin (v := .pv (.bool false)) rfl rfl rfl rfl (nF rfl) ?_
            refine wo_nil ?_
            refine ⟨[_, _, _, _, _, _, _, _, _, _, _, _, _, _, _, _, _, _, _, _, _, _, _, _, _, _, _, _, _, _, _, _, _, _, _, _, _, _, _, _, _, _, _, _, _, _, _, _, _, _, _, _, _, _, _, _, _, _, _, _, _, _, _, _, _, _, _, _, _, _, _, _, _, _, _, _, _, _, _, _, _, _, _, _, _, _, _, _, _, _, _, _, _, _, _, _, _, _, _, _, _, _, _, _, _, _, _, _, _, _, _, _, _, _, _, _, _, _, _, _, _], rfl, ?_⟩
            refine wp_false rfl ?_
            refine wp_skip ?_
            refine wp_seq ?_
            refine wp_region rfl rfl ?_
            refine wo_move (v := .ptr _ _) rfl rfl rfl rfl rfl (fun h => AV.noConfusion h) ?_
            refine wo_call (v := VR 1 ([] : List V)) (H' := [_, _]) rfl rfl rfl rfl rfl rfl ((cl22 _ _ _ _).trans (callRef_gen (R := [0]) (bs := [_]) (bs1 := [_]) (bs3 := [_, _]) rfl rfl rfl rfl (sample_nil _ _ _ (by omega)) rfl rfl rfl rfl)) rfl rfl rfl ?_
            refine wo_assign (v := .ref _ _ _ _ _ _) rfl rfl rfl rfl rfl (fun h => AV.noConfusion h) ?_
            refine wo_nil ?_
            refine ⟨[_, _, _, _, _, _, _, _, _, _, _, _, _, _, _, _, _, _, _, _, _, _, _, _, _, _, _, _, _, _, _, _, _, _, _, _, _, _, _, _, _, _, _, _, _, _, _, _, _, _, _, _, _, _, _, _, _, _, _, _, _, _, _, _, _, _, _, _, _, _, _, _, _, _, _, _, _, _, _, _, _, _, _, _, _, _, _, _, _, _, _, _, _, _, _, _, _, _, _, _, _, _, _, _, _, _, _, _, _, _, _, _, _, _, _, _, _, _, _, _, _], rfl, ?_⟩
            refine wp_seq ?_
            refine wp_seq ?_
            refine wp_region rfl rfl ?_
            refine wo_move (v := .ref _ _ _ _ _ _) rfl rfl rfl rfl rfl (fun h => AV.noConfusion h) ?_
            refine wo_mpv rfl rfl rfl rfl rfl ?_
            refine wo_call (v := .pv (.bool true)) (H' := [_, _]) rfl rfl rfl rfl rfl rfl ((cl23 _ _ _ _).trans (callPure_vr (l := ([] : List V)) (fl := List.length ([] : List V)) (st := 0) (fz := 0) rfl (Nat.le_refl _) rfl (fun _ => rfl) rfl (exactL_ok (.inl rfl) hpb2 oa2 ob2 hab2.1 hab2.2 (by omega) _ (by omega)))) rfl rfl rfl ?_
            refine wo_un rfl rfl rfl rfl rfl ?_
            refine wo_mpv rfl rfl rfl rfl rfl ?_
            refine wo_move (v := .ptr _ _) rfl rfl rfl rfl rfl (fun h => AV.noConfusion h) ?_
            refine wo_call (v := .pv _) (H' := [_, _]) rfl rfl rfl rfl rfl rfl ((cl24 _ _ _ _).trans (callRef_gen (R := [0]) (bs := [_]) (bs1 := [_]) (bs3 := [_]) rfl rfl rfl rfl (seen_nil _ _ _ (by omega)) rfl rfl rfl rfl)) rfl rfl rfl ?_
            refine wo_mpv rfl rfl rfl rfl rfl ?_
            refine wo_bin (v := .pv (.bool false)) rfl rfl rfl rfl (nF rfl) ?_
            refine wo_pick (v := .pv _) rfl rfl rfl rfl rfl rfl ?_
            refine wo_nil ?_
            refine ⟨[_, _, _, _, _, _, _, _, _, _, _, _, _, _, _, _, _, _, _, _, _, _, _, _, _, _, _, _, _, _, _, _, _, _, _, _, _, _, _, _, _, _, _, _, _, _, _, _, _, _, _, _, _, _, _, _, _, _, _, _, _, _, _, _, _, _, _, _, _, _, _, _, _, _, _, _, _, _, _, _, _, _, _, _, _, _, _, _, _, _, _, _, _, _, _, _, _, _, _, _, _, _, _, _, _, _, _, _, _, _, _, _, _, _, _, _, _, _, _, _, _], rfl, ?_⟩
            refine wp_false rfl ?_
            refine wp_skip ?_
            refine wp_seq ?_
            refine wp_region rfl rfl ?_
            refine wo_move (v := .ref _ _ _ _ _ _) rfl rfl rfl rfl rfl (fun h => AV.noConfusion h) ?_
            refine wo_len t31 rfl rfl rfl rfl rfl rfl rfl rfl rfl ?_
            refine wo_mpv rfl rfl rfl rfl rfl ?_
            refine wo_nil ?_
            refine ⟨[_, _, _, _, _, _, _, _, _, _, _, _, _, _, _, _, _, _, _, _, _, _, _, _, _, _, _, _, _, _, _, _, _, _, _, _, _, _, _, _, _, _, _, _, _, _, _, _, _, _, _, _, _, _, _, _, _, _, _, _, _, _, _, _, _, _, _, _, _, _, _, _, _, _, _, _, _, _, _, _, _, _, _, _, _, _, _, _, _, _, _, _, _, _, _, _, _, _, _, _, _, _, _, _, _, _, _, _, _, _, _, _, _, _, _, _, _, _, _, _, _], rfl, ?_⟩
            refine wp_block ?_
            refine wp_loop (fun k2 t H => ∃ (i : Nat) (rows : List (List PV)) (fl2 : Nat), i + k2 = List.length ([] : List V) ∧ rows.length = List.length ([] : List V) ∧ (∀ r ∈ rows, r.length = 4) ∧ fl2 ≤ List.length ([] : List V) ∧ t = [.pv p, .pv (.int .i64 size), .pv q, .any, .any, .any, .any, .ptr 0 0, .any, .pv pb, .pv (.int .i64 (sn : Nat)), .pv (.int .i64 (j : Nat)), .any, .any, .any, .any, VR 1 ([] : List V), .any, .any, .any, .any, .any, .any, .any, .any, .any, .any, .any, .any, .any, .any, .any, .any, .any, .any, .any, .any, .any, .any, .any, .any, .any, .any, .any, .any, .any, .any, .any, .any, .any, .any, .any, .any, .any, .any, .any, .any, .any, .any, .any, .any, .any, .any, .any, .any, .any, .any, .any, .any, .any, .any, .any, .any, .any, .any, .any, .any, .any, .any, .any, .any, .any, .any, .any, .any, .any, .any, .any, .any, .any, .any, .any, .any, .any, .any, .any, .any, .any, .any, .any, .any, .any, .any, .any, .any, .any, .any, .any, .any, .any, .any, .pv (.int .i64 (List.length ([] : List V))), .pv (.int .i64 (i : Nat)), .any, .any, .any, .any, .any, .any, .any, .any] ∧ H = [RX size sn (.pv .nils), RB4 rows fl2]) (List.length ([] : List V)) ⟨0, List.map V.row ([] : List V), List.length ([] : List V), by omega, by simp, rows4 _, by omega, rfl, rfl⟩ (by omega) ?_
            rintro k2 _ _ hk2 ⟨i, rows, fl2, hik, hrl, hr4, hfl2, rfl, rfl⟩
            refine wp_seq ?_
            refine wp_region rfl rfl ?_
            refine wo_bsplit rfl rfl rfl rfl rfl (fun c27_0 => ?_) (fun c27_0 => ?_)
            ·
              refine wo_nil ?_
              refine ⟨[_, _, _, _, _, _, _, _, _, _, _, _, _, _, _, _, _, _, _, _, _, _, _, _, _, _, _, _, _, _, _, _, _, _, _, _, _, _, _, _, _, _, _, _, _, _, _, _, _, _, _, _, _, _, _, _, _, _, _, _, _, _, _, _, _, _, _, _, _, _, _, _, _, _, _, _, _, _, _, _, _, _, _, _, _, _, _, _, _, _, _, _, _, _, _, _, _, _, _, _, _, _, _, _, _, _, _, _, _, _, _, _, _, _, _, _, _, _, _, _, _], rfl, ?_⟩
              refine wp_seq ?_
              refine wp_true rfl ?_
              refine wp_skip ?_
              refine wp_seq ?_
              refine wp_block ?_
              refine wp_seq ?_
              refine wp_region rfl rfl ?_
              refine wo_mpv rfl rfl rfl rfl rfl ?_
              refine wo_apv rfl rfl rfl rfl rfl ?_
              refine wo_nil ?_
              refine ⟨[_, _, _, _, _, _, _, _, _, _, _, _, _, _, _, _, _, _, _, _, _, _, _, _, _, _, _, _, _, _, _, _, _, _, _, _, _, _, _, _, _, _, _, _, _, _, _, _, _, _, _, _, _, _, _, _, _, _, _, _, _, _, _, _, _, _, _, _, _, _, _, _, _, _, _, _, _, _, _, _, _, _, _, _, _, _, _, _, _, _, _, _, _, _, _, _, _, _, _, _, _, _, _, _, _, _, _, _, _, _, _, _, _, _, _, _, _, _, _, _, _], rfl, ?_⟩
              refine wp_region rfl rfl ?_
              refine wo_move (v := .ref _ _ _ _ _ _) rfl rfl rfl rfl rfl (fun h => AV.noConfusion h) ?_
              refine wo_mpv rfl rfl rfl rfl rfl ?_
              refine wo_iaddr (v := .eptr 1 0 (List.length ([] : List V)) 4 i 0) rfl rfl rfl rfl ((iaddr_ref (j := i) t31 t40 rfl (by omega) rfl).trans (by rw [Nat.zero_add])) ?_
              refine wo_faddr t40 t3 rfl rfl rfl rfl rfl rfl rfl ?_
              refine wo_storeB (H' := [_, _]) rfl rfl rfl (store_kind rfl hrl hfl2 (by omega) hr4) rfl rfl rfl ?_
              refine wo_nil ?_
              refine ⟨[_, _, _, _, _, _, _, _, _, _, _, _, _, _, _, _, _, _, _, _, _, _, _, _, _, _, _, _, _, _, _, _, _, _, _, _, _, _, _, _, _, _, _, _, _, _, _, _, _, _, _, _, _, _, _, _, _, _, _, _, _, _, _, _, _, _, _, _, _, _, _, _, _, _, _, _, _, _, _, _, _, _, _, _, _, _, _, _, _, _, _, _, _, _, _, _, _, _, _, _, _, _, _, _, _, _, _, _, _, _, _, _, _, _, _, _, _, _, _, _, _], rfl, ?_⟩
              refine wp_region rfl rfl ?_
              refine wo_bin (v := .pv (.int .i64 ((i + 1 : Nat) : Int))) rfl rfl rfl rfl (iV (by rw [wrapI (by omega) (by omega)]; omega)) ?_
              refine wo_mpv rfl rfl rfl rfl rfl ?_
              refine wo_nil ?_
              refine ⟨[_, _, _, _, _, _, _, _, _, _, _, _, _, _, _, _, _, _, _, _, _, _, _, _, _, _, _, _, _, _, _, _, _, _, _, _, _, _, _, _, _, _, _, _, _, _, _, _, _, _, _, _, _, _, _, _, _, _, _, _, _, _, _, _, _, _, _, _, _, _, _, _, _, _, _, _, _, _, _, _, _, _, _, _, _, _, _, _, _, _, _, _, _, _, _, _, _, _, _, _, _, _, _, _, _, _, _, _, _, _, _, _, _, _, _, _, _, _, _, _, _], rfl, ?_⟩
              refine ⟨_, _, tidy_norm (t' := [_, _, _, _, _, _, _, _, _, _, _, _, _, _, _, _, _, _, _, _, _, _, _, _, _, _, _, _, _, _, _, _, _, _, _, _, _, _, _, _, _, _, _, _, _, _, _, _, _, _, _, _, _, _, _, _, _, _, _, _, _, _, _, _, _, _, _, _, _, _, _, _, _, _, _, _, _, _, _, _, _, _, _, _, _, _, _, _, _, _, _, _, _, _, _, _, _, _, _, _, _, _, _, _, _, _, _, _, _, _, _, _, _, _, _, _, _, _, _, _, _]) rfl rfl rfl, k2 - 1, by omega, i + 1, setK rows i (.int .i64 99), List.length ([] : List V), by omega, by rw [setK_len]; exact hrl, setK_4 _ (by omega) hr4, by omega, rfl, rfl⟩
            ·
              refine wo_nil ?_
              refine ⟨[_, _, _, _, _, _, _, _, _, _, _, _, _, _, _, _, _, _, _, _, _, _, _, _, _, _, _, _, _, _, _, _, _, _, _, _, _, _, _, _, _, _, _, _, _, _, _, _, _, _, _, _, _, _, _, _, _, _, _, _, _, _, _, _, _, _, _, _, _, _, _, _, _, _, _, _, _, _, _, _, _, _, _, _, _, _, _, _, _, _, _, _, _, _, _, _, _, _, _, _, _, _, _, _, _, _, _, _, _, _, _, _, _, _, _, _, _, _, _, _, _], rfl, ?_⟩
              refine wp_seq ?_
              refine wp_false rfl ?_
              refine wp_exit ?_
              refine wp_region rfl rfl ?_
              refine wo_mpv rfl rfl rfl rfl rfl ?_
              refine wo_bin (v := .pv (.int .i64 ((j + 1 : Nat) : Int))) rfl rfl rfl rfl (iV (by rw [wrapI (by omega) (by omega)]; omega)) ?_
              refine wo_apv rfl rfl rfl rfl rfl ?_
              refine wo_nil ?_
              refine ⟨[_, _, _, _, _, _, _, _, _, _, _, _, _, _, _, _, _, _, _, _, _, _, _, _, _, _, _, _, _, _, _, _, _, _, _, _, _, _, _, _, _, _, _, _, _, _, _, _, _, _, _, _, _, _, _, _, _, _, _, _, _, _, _, _, _, _, _, _, _, _, _, _, _, _, _, _, _, _, _, _, _, _, _, _, _, _, _, _, _, _, _, _, _, _, _, _, _, _, _, _, _, _, _, _, _, _, _, _, _, _, _, _, _, _, _, _, _, _, _, _, _], rfl, ?_⟩
              refine ⟨[.pv p, .pv (.int .i64 size), .pv q, .any, .any, .any, .any, .ptr 0 0, .any, .pv pb, .pv (.int .i64 (sn : Nat)), .pv (.int .i64 ((j + 1 : Nat) : Int)), .any, .any, .any, .any, .any, .any, .any, .any, .any, .any, .any, .any, .any, .any, .any, .any, .any, .any, .any, .any, .any, .any, .any, .any, .any, .any, .any, .any, .any, .any, .any, .any, .any, .any, .any, .any, .any, .any, .any, .any, .any, .any, .any, .any, .any, .any, .any, .any, .any, .any, .any, .any, .any, .any, .any, .any, .any, .any, .any, .any, .any, .any, .any, .any, .any, .any, .any, .any, .any, .any, .any, .any, .any, .any, .any, .any, .any, .any, .any, .any, .any, .any, .any, .any, .any, .any, .any, .any, .any, .any, .any, .any, .any, .any, .any, .any, .any, .any, .any, .any, .any, .any, .any, .any, .any, .any, .any, .any, .any], [RX size sn (.pv .nils)], tidy_ren (t' := [_, _, _, _, _, _, _, _, _, _, _, _, _, _, _, _, _, _, _, _, _, _, _, _, _, _, _, _, _, _, _, _, _, _, _, _, _, _, _, _, _, _, _, _, _, _, _, _, _, _, _, _, _, _, _, _, _, _, _, _, _, _, _, _, _, _, _, _, _, _, _, _, _, _, _, _, _, _, _, _, _, _, _, _, _, _, _, _, _, _, _, _, _, _, _, _, _, _, _, _, _, _, _, _, _, _, _, _, _, _, _, _, _, _, _, _, _, _, _, _, _]) (order := [0]) (bs := [_]) rfl rfl rfl (by kernel_rfl) (by kernel_rfl) rfl (by kernel_rfl), k - 1, by omega, j + 1, sn, ([] : List V), b, pb, 0, by omega, by omega, la2, ?_, oa2, ob2, hab2, hpb2, rfl, ?_⟩
              · first | exact hfl | (simp; done) | (simp; omega)
              · exact .inl ⟨rfl, rfl⟩
          ·
            rw [if_pos hr] at hone
            have hF : feedM V.plain size [] sn l[j] (dr2 draws j) = [(l[j]).plain] := by unfold feedM; first | rw [if_pos hlt] | rw [if_neg (by omega), if_pos hkk] | rw [if_neg (by omega), if_neg hkk] | (rw [if_pos (by simp; omega)]; rfl)
            have hab2 : EqL [(l[j]).plain] (feedM V.rplain size b sn l[j] (dr2 draws j)) := hF ▸ feed_eq hab hok size sn (dr2 draws j)
            have oa2 : OkL [(l[j]).plain] := hF ▸ okFeed oa (plain_ok hok)
            have ob2 : OkL (feedM V.rplain size b sn l[j] (dr2 draws j)) := okFeed ob (rright_plain hok)
            have la2 : List.length [(l[j]).plain] ≤ size := hF ▸ feedM_len hal
            have hpb2 : SV (.sl ((feedM V.rplain size b sn l[j] (dr2 draws j)).map V.row)) (feedM V.rplain size b sn l[j] (dr2 draws j)) := .inl rfl
            refine wo_call (v := .pv (.int .i64 0)) (H' := [_, _]) rfl rfl rfl rfl rfl rfl ((cl19 _ _ _ _).trans (callRef_gen (R := [0]) (bs := [_]) (bs1 := [_]) (bs3 := [_, _]) rfl rfl rfl rfl (feed_nil h1 h2 (by omega) hok hr (dr2 draws j) _ (by omega)) rfl rfl rfl rfl)) rfl rfl rfl ?_
            refine wo_apv rfl rfl rfl rfl rfl ?_
            refine wo_nil ?_
            refine ⟨[_, _, _, _, _, _, _, _, _, _, _, _, _, _, _, _, _, _, _, _, _, _, _, _, _, _, _, _, _, _, _, _, _, _, _, _, _, _, _, _, _, _, _, _, _, _, _, _, _, _, _, _, _, _, _, _, _, _, _, _, _, _, _, _, _, _, _, _, _, _, _, _, _, _, _, _, _, _, _, _, _, _, _, _, _, _, _, _, _, _, _, _, _, _, _, _, _, _, _, _, _, _, _, _, _, _, _, _, _, _, _, _, _, _, _, _, _, _, _, _, _], rfl, ?_⟩
            refine wp_seq ?_
            refine wp_seq ?_
            refine wp_region rfl rfl ?_
            refine wo_mpv rfl rfl rfl rfl rfl ?_
            refine wo_mpv rfl rfl rfl rfl rfl ?_
            refine wo_mpv rfl rfl rfl rfl rfl ?_
            refine wo_bin (v := .pv (.int .i64 ((j + 1 : Nat) : Int))) rfl rfl rfl rfl (iV (by rw [wrapI (by omega) (by omega)]; omega)) ?_
            refine wo_slice (v := .pv (.sl [(l[j]).row])) t31 t40 rfl rfl rfl rfl hp.noStr (hp.slice1 hjl) ?_
            refine wo_call (v := .tup [.pv px, .pv (.int .i64 0)]) (H' := [_, _]) rfl rfl rfl rfl rfl rfl ((cl20 _ _ _ _).trans (callPure_any rfl (fun _ => rfl) rfl hone)) rfl rfl rfl ?_
            refine wo_move (v := .tup _) rfl rfl rfl rfl rfl (fun h => AV.noConfusion h) ?_
            refine wo_extract (v := .pv _) rfl rfl rfl rfl rfl rfl ?_
            refine wo_extract (v := .pv _) rfl rfl rfl rfl rfl rfl ?_
            refine wo_apv rfl rfl rfl rfl rfl ?_
            refine wo_apv rfl rfl rfl rfl rfl ?_
            refine wo_nil ?_
            refine ⟨[_, _, _, _, _, _, _, _, _, _, _, _, _, _, _, _, _, _, _, _, _, _, _, _, _, _, _, _, _, _, _, _, _, _, _, _, _, _, _, _, _, _, _, _, _, _, _, _, _, _, _, _, _, _, _, _, _, _, _, _, _, _, _, _, _, _, _, _, _, _, _, _, _, _, _, _, _, _, _, _, _, _, _, _, _, _, _, _, _, _, _, _, _, _, _, _, _, _, _, _, _, _, _, _, _, _, _, _, _, _, _, _, _, _, _, _, _, _, _, _, _], rfl, ?_⟩
            refine wp_seq ?_
            refine wp_region rfl rfl ?_
            refine wo_mpv rfl rfl rfl rfl rfl ?_
            refine wo_bin (v := .pv (.bool false)) rfl rfl rfl rfl (nF rfl) ?_
            refine wo_nil ?_
            refine ⟨[_, _, _, _, _, _, _, _, _, _, _, _, _, _, _, _, _, _, _, _, _, _, _, _, _, _, _, _, _, _, _, _, _, _, _, _, _, _, _, _, _, _, _, _, _, _, _, _, _, _, _, _, _, _, _, _, _, _, _, _, _, _, _, _, _, _, _, _, _, _, _, _, _, _, _, _, _, _, _, _, _, _, _, _, _, _, _, _, _, _, _, _, _, _, _, _, _, _, _, _, _, _, _, _, _, _, _, _, _, _, _, _, _, _, _, _, _, _, _, _, _], rfl, ?_⟩
            refine wp_false rfl ?_
            refine wp_seq ?_
            refine wp_seq ?_
            refine wp_region rfl rfl ?_
            refine wo_mpv rfl rfl rfl rfl rfl ?_
            refine wo_bin (v := .pv (.bool false)) rfl rfl rfl rfl (nF rfl) ?_
            refine wo_nil ?_
            refine ⟨[_, _, _, _, _, _, _, _, _, _, _, _, _, _, _, _, _, _, _, _, _, _, _, _, _, _, _, _, _, _, _, _, _, _, _, _, _, _, _, _, _, _, _, _, _, _, _, _, _, _, _, _, _, _, _, _, _, _, _, _, _, _, _, _, _, _, _, _, _, _, _, _, _, _, _, _, _, _, _, _, _, _, _, _, _, _, _, _, _, _, _, _, _, _, _, _, _, _, _, _, _, _, _, _, _, _, _, _, _, _, _, _, _, _, _, _, _, _, _, _, _], rfl, ?_⟩
            refine wp_false rfl ?_
            refine wp_skip ?_
            refine wp_seq ?_
            refine wp_region rfl rfl ?_
            refine wo_mpv rfl rfl rfl rfl rfl ?_
            refine wo_mpv rfl rfl rfl rfl rfl ?_
            refine wo_mpv rfl rfl rfl rfl rfl ?_
            refine wo_mpv rfl rfl rfl rfl rfl ?_
            refine wo_mpv rfl rfl rfl rfl rfl ?_
            refine wo_iaddr (v := .pv (.ptr (l[j]).row 0)) rfl rfl rfl rfl (hp.get (i := j) hjl rfl) ?_
            refine wo_load (v := .agg [_, _, _, _]) t40 rfl rfl rfl rfl rfl rfl ?_
            refine wo_mpv rfl rfl rfl rfl rfl ?_
            refine wo_call (v := .pv (.sl ((feedM V.rplain size b sn l[j] (dr2 draws j)).map V.row))) (H' := [_, _]) rfl rfl rfl rfl rfl rfl ((cl21 _ _ _ _).trans (callPure_pv rfl (fun _ => rfl) (rfeed_ok hpb h1 h2 (by omega) (by have := hab.1; first | omega | (simp at this; omega)) hok (dr2_lt hd (by omega)) _ (by omega)))) rfl rfl rfl ?_
            refine wo_apv rfl rfl rfl rfl rfl ?_
            refine wo_nil ?_
            refine ⟨[_, _, _, _, _, _, _, _, _, _, _, _, _, _, _, _, _, _, _, _, _, _, _, _, _, _, _, _, _, _, _, _, _, _, _, _, _, _, _, _, _, _, _, _, _, _, _, _, _, _, _, _, _, _, _, _, _, _, _, _, _, _, _, _, _, _, _, _, _, _, _, _, _, _, _, _, _, _, _, _, _, _, _, _, _, _, _, _, _, _, _, _, _, _, _, _, _, _, _, _, _, _, _, _, _, _, _, _, _, _, _, _, _, _, _, _, _, _, _, _, _], rfl, ?_⟩
            refine wp_region rfl rfl ?_
            refine wo_mpv rfl rfl rfl rfl rfl ?_
            refine wo_bin (v := .pv (.int .i64 ((sn + 1 : Nat) : Int))) rfl rfl rfl rfl (iV (by rw [wrapI (by omega) (by omega)]; omega)) ?_
            refine wo_apv rfl rfl rfl rfl rfl ?_
            refine wo_nil ?_
            refine ⟨[_, _, _, _, _, _, _, _, _, _, _, _, _, _, _, _, _, _, _, _, _, _, _, _, _, _, _, _, _, _, _, _, _, _, _, _, _, _, _, _, _, _, _, _, _, _, _, _, _, _, _, _, _, _, _, _, _, _, _, _, _, _, _, _, _, _, _, _, _, _, _, _, _, _, _, _, _, _, _, _, _, _, _, _, _, _, _, _, _, _, _, _, _, _, _, _, _, _, _, _, _, _, _, _, _, _, _, _, _, _, _, _, _, _, _, _, _, _, _, _, _], rfl, ?_⟩
            refine wp_seq ?_
            refine wp_region rfl rfl ?_
            refine wo_move (v := .ptr _ _) rfl rfl rfl rfl rfl (fun h => AV.noConfusion h) ?_
            refine wo_call (v := VR 2 [(l[j]).plain]) (H' := [_, _, _]) rfl rfl rfl rfl rfl rfl ((cl22 _ _ _ _).trans (callRef_gen (R := [0, 1]) (bs := [_, _]) (bs1 := [_, _]) (bs3 := [_, _, _]) rfl rfl rfl rfl (sample_ref (l := [(l[j]).plain]) (fl := 0) (by omega) (by first | exact hfl | (simp; done) | (simp; omega)) _ (by omega)) rfl rfl rfl rfl)) rfl rfl rfl ?_
            refine wo_assign (v := .ref _ _ _ _ _ _) rfl rfl rfl rfl rfl (fun h => AV.noConfusion h) ?_
            refine wo_nil ?_
            refine ⟨[_, _, _, _, _, _, _, _, _, _, _, _, _, _, _, _, _, _, _, _, _, _, _, _, _, _, _, _, _, _, _, _, _, _, _, _, _, _, _, _, _, _, _, _, _, _, _, _, _, _, _, _, _, _, _, _, _, _, _, _, _, _, _, _, _, _, _, _, _, _, _, _, _, _, _, _, _, _, _, _, _, _, _, _, _, _, _, _, _, _, _, _, _, _, _, _, _, _, _, _, _, _, _, _, _, _, _, _, _, _, _, _, _, _, _, _, _, _, _, _, _], rfl, ?_⟩
            refine wp_seq ?_
            refine wp_seq ?_
            refine wp_region rfl rfl ?_
            refine wo_move (v := .ref _ _ _ _ _ _) rfl rfl rfl rfl rfl (fun h => AV.noConfusion h) ?_
            refine wo_mpv rfl rfl rfl rfl rfl ?_
            refine wo_call (v := .pv (.bool true)) (H' := [_, _, _]) rfl rfl rfl rfl rfl rfl ((cl23 _ _ _ _).trans (callPure_vr (l := [(l[j]).plain]) (fl := List.length [(l[j]).plain]) (st := 0) (fz := 0) rfl (Nat.le_refl _) rfl (fun _ => rfl) rfl (exactL_ok (.inl rfl) hpb2 oa2 ob2 hab2.1 hab2.2 (by omega) _ (by omega)))) rfl rfl rfl ?_
            refine wo_un rfl rfl rfl rfl rfl ?_
            refine wo_mpv rfl rfl rfl rfl rfl ?_
            refine wo_move (v := .ptr _ _) rfl rfl rfl rfl rfl (fun h => AV.noConfusion h) ?_
            refine wo_call (v := .pv _) (H' := [_, _, _]) rfl rfl rfl rfl rfl rfl ((cl24 _ _ _ _).trans (callRef_gen (R := [0, 1]) (bs := [_, _]) (bs1 := [_, _]) (bs3 := [_, _]) rfl rfl rfl rfl (seen_ref _ _ _ [(l[j]).plain] _ (by omega)) rfl rfl rfl rfl)) rfl rfl rfl ?_
            refine wo_mpv rfl rfl rfl rfl rfl ?_
            refine wo_bin (v := .pv (.bool false)) rfl rfl rfl rfl (nF rfl) ?_
            refine wo_pick (v := .pv _) rfl rfl rfl rfl rfl rfl ?_
            refine wo_nil ?_
            refine ⟨[_, _, _, _, _, _, _, _, _, _, _, _, _, _, _, _, _, _, _, _, _, _, _, _, _, _, _, _, _, _, _, _, _, _, _, _, _, _, _, _, _, _, _, _, _, _, _, _, _, _, _, _, _, _, _, _, _, _, _, _, _, _, _, _, _, _, _, _, _, _, _, _, _, _, _, _, _, _, _, _, _, _, _, _, _, _, _, _, _, _, _, _, _, _, _, _, _, _, _, _, _, _, _, _, _, _, _, _, _, _, _, _, _, _, _, _, _, _, _, _, _], rfl, ?_⟩
            refine wp_false rfl ?_
            refine wp_skip ?_
            refine wp_seq ?_
            refine wp_region rfl rfl ?_
            refine wo_move (v := .ref _ _ _ _ _ _) rfl rfl rfl rfl rfl (fun h => AV.noConfusion h) ?_
            refine wo_len t31 rfl rfl rfl rfl rfl rfl rfl rfl rfl ?_
            refine wo_mpv rfl rfl rfl rfl rfl ?_
            refine wo_nil ?_
            refine ⟨[_, _, _, _, _, _, _, _, _, _, _, _, _, _, _, _, _, _, _, _, _, _, _, _, _, _, _, _, _, _, _, _, _, _, _, _, _, _, _, _, _, _, _, _, _, _, _, _, _, _, _, _, _, _, _, _, _, _, _, _, _, _, _, _, _, _, _, _, _, _, _, _, _, _, _, _, _, _, _, _, _, _, _, _, _, _, _, _, _, _, _, _, _, _, _, _, _, _, _, _, _, _, _, _, _, _, _, _, _, _, _, _, _, _, _, _, _, _, _, _, _], rfl, ?_⟩
            refine wp_block ?_
            refine wp_loop (fun k2 t H => ∃ (i : Nat) (rows : List (List PV)) (fl2 : Nat), i + k2 = List.length [(l[j]).plain] ∧ rows.length = List.length [(l[j]).plain] ∧ (∀ r ∈ rows, r.length = 4) ∧ fl2 ≤ List.length [(l[j]).plain] ∧ t = [.pv p, .pv (.int .i64 size), .pv q, .any, .any, .any, .any, .ptr 0 0, .any, .pv (.sl ((feedM V.rplain size b sn l[j] (dr2 draws j)).map V.row)), .pv (.int .i64 ((sn + 1 : Nat) : Int)), .pv (.int .i64 (j : Nat)), .any, .any, .any, .any, VR 2 [(l[j]).plain], .any, .any, .any, .any, .any, .any, .any, .any, .any, .any, .any, .any, .any, .any, .any, .any, .any, .any, .any, .any, .any, .any, .any, .any, .any, .any, .any, .any, .any, .any, .any, .any, .any, .any, .any, .any, .any, .any, .any, .any, .any, .any, .any, .any, .any, .any, .any, .any, .any, .any, .any, .any, .any, .any, .any, .any, .any, .any, .any, .any, .any, .any, .any, .any, .any, .any, .any, .any, .any, .any, .any, .any, .any, .any, .any, .any, .any, .any, .any, .any, .any, .any, .any, .any, .any, .any, .any, .any, .any, .any, .any, .any, .any, .any, .pv (.int .i64 (List.length [(l[j]).plain])), .pv (.int .i64 (i : Nat)), .any, .any, .any, .any, .any, .any, .any, .any] ∧ H = [RX size (sn + 1) (VR 1 [(l[j]).plain]), VB [(l[j]).plain] 0, RB4 rows fl2]) (List.length [(l[j]).plain]) ⟨0, List.map V.row [(l[j]).plain], List.length [(l[j]).plain], by omega, by simp, rows4 _, by omega, rfl, rfl⟩ (by omega) ?_
            rintro k2 _ _ hk2 ⟨i, rows, fl2, hik, hrl, hr4, hfl2, rfl, rfl⟩
            refine wp_seq ?_
            refine wp_region rfl rfl ?_
            refine wo_bsplit rfl rfl rfl rfl rfl (fun c27_0 => ?_) (fun c27_0 => ?_)
            ·
              refine wo_nil ?_
              refine ⟨[_, _, _, _, _, _, _, _, _, _, _, _, _, _, _, _, _, _, _, _, _, _, _, _, _, _, _, _, _, _, _, _, _, _, _, _, _, _, _, _, _, _, _, _, _, _, _, _, _, _, _, _, _, _, _, _, _, _, _, _, _, _, _, _, _, _, _, _, _, _, _, _, _, _, _, _, _, _, _, _, _, _, _, _, _, _, _, _, _, _, _, _, _, _, _, _, _, _, _, _, _, _, _, _, _, _, _, _, _, _, _, _, _, _, _, _, _, _, _, _, _], rfl, ?_⟩
              refine wp_seq ?_
              refine wp_true rfl ?_
              refine wp_skip ?_
              refine wp_seq ?_
              refine wp_block ?_
              refine wp_seq ?_
              refine wp_region rfl rfl ?_
              refine wo_mpv rfl rfl rfl rfl rfl ?_
              refine wo_apv rfl rfl rfl rfl rfl ?_
              refine wo_nil ?_
              refine ⟨[_, _, _, _, _, _, _, _, _, _, _, _, _, _, _, _, _, _, _, _, _, _, _, _, _, _, _, _, _, _, _, _, _, _, _, _, _, _, _, _, _, _, _, _, _, _, _, _, _, _, _, _, _, _, _, _, _, _, _, _, _, _, _, _, _, _, _, _, _, _, _, _, _, _, _, _, _, _, _, _, _, _, _, _, _, _, _, _, _, _, _, _, _, _, _, _, _, _, _, _, _, _, _, _, _, _, _, _, _, _, _, _, _, _, _, _, _, _, _, _, _], rfl, ?_⟩
              refine wp_region rfl rfl ?_
              refine wo_move (v := .ref _ _ _ _ _ _) rfl rfl rfl rfl rfl (fun h => AV.noConfusion h) ?_
              refine wo_mpv rfl rfl rfl rfl rfl ?_
              refine wo_iaddr (v := .eptr 2 0 (List.length [(l[j]).plain]) 4 i 0) rfl rfl rfl rfl ((iaddr_ref (j := i) t31 t40 rfl (by omega) rfl).trans (by rw [Nat.zero_add])) ?_
              refine wo_faddr t40 t3 rfl rfl rfl rfl rfl rfl rfl ?_
              refine wo_storeB (H' := [_, _, _]) rfl rfl rfl (store_kind rfl hrl hfl2 (by omega) hr4) rfl rfl rfl ?_
              refine wo_nil ?_
              refine ⟨[_, _, _, _, _, _, _, _, _, _, _, _, _, _, _, _, _, _, _, _, _, _, _, _, _, _, _, _, _, _, _, _, _, _, _, _, _, _, _, _, _, _, _, _, _, _, _, _, _, _, _, _, _, _, _, _, _, _, _, _, _, _, _, _, _, _, _, _, _, _, _, _, _, _, _, _, _, _, _, _, _, _, _, _, _, _, _, _, _, _, _, _, _, _, _, _, _, _, _, _, _, _, _, _, _, _, _, _, _, _, _, _, _, _, _, _, _, _, _, _, _], rfl, ?_⟩
              refine wp_region rfl rfl ?_
              refine wo_bin (v := .pv (.int .i64 ((i + 1 : Nat) : Int))) rfl rfl rfl rfl (iV (by rw [wrapI (by omega) (by omega)]; omega)) ?_
              refine wo_mpv rfl rfl rfl rfl rfl ?_
              refine wo_nil ?_
              refine ⟨[_, _, _, _, _, _, _, _, _, _, _, _, _, _, _, _, _, _, _, _, _, _, _, _, _, _, _, _, _, _, _, _, _, _, _, _, _, _, _, _, _, _, _, _, _, _, _, _, _, _, _, _, _, _, _, _, _, _, _, _, _, _, _, _, _, _, _, _, _, _, _, _, _, _, _, _, _, _, _, _, _, _, _, _, _, _, _, _, _, _, _, _, _, _, _, _, _, _, _, _, _, _, _, _, _, _, _, _, _, _, _, _, _, _, _, _, _, _, _, _, _], rfl, ?_⟩
              refine ⟨_, _, tidy_norm (t' := [_, _, _, _, _, _, _, _, _, _, _, _, _, _, _, _, _, _, _, _, _, _, _, _, _, _, _, _, _, _, _, _, _, _, _, _, _, _, _, _, _, _, _, _, _, _, _, _, _, _, _, _, _, _, _, _, _, _, _, _, _, _, _, _, _, _, _, _, _, _, _, _, _, _, _, _, _, _, _, _, _, _, _, _, _, _, _, _, _, _, _, _, _, _, _, _, _, _, _, _, _, _, _, _, _, _, _, _, _, _, _, _, _, _, _, _, _, _, _, _, _]) rfl rfl rfl, k2 - 1, by omega, i + 1, setK rows i (.int .i64 99), List.length [(l[j]).plain], by omega, by rw [setK_len]; exact hrl, setK_4 _ (by omega) hr4, by omega, rfl, rfl⟩
            ·
              refine wo_nil ?_
              refine ⟨[_, _, _, _, _, _, _, _, _, _, _, _, _, _, _, _, _, _, _, _, _, _, _, _, _, _, _, _, _, _, _, _, _, _, _, _, _, _, _, _, _, _, _, _, _, _, _, _, _, _, _, _, _, _, _, _, _, _, _, _, _, _, _, _, _, _, _, _, _, _, _, _, _, _, _, _, _, _, _, _, _, _, _, _, _, _, _, _, _, _, _, _, _, _, _, _, _, _, _, _, _, _, _, _, _, _, _, _, _, _, _, _, _, _, _, _, _, _, _, _, _], rfl, ?_⟩
              refine wp_seq ?_
              refine wp_false rfl ?_
              refine wp_exit ?_
              refine wp_region rfl rfl ?_
              refine wo_mpv rfl rfl rfl rfl rfl ?_
              refine wo_bin (v := .pv (.int .i64 ((j + 1 : Nat) : Int))) rfl rfl rfl rfl (iV (by rw [wrapI (by omega) (by omega)]; omega)) ?_
              refine wo_apv rfl rfl rfl rfl rfl ?_
              refine wo_nil ?_
              refine ⟨[_, _, _, _, _, _, _, _, _, _, _, _, _, _, _, _, _, _, _, _, _, _, _, _, _, _, _, _, _, _, _, _, _, _, _, _, _, _, _, _, _, _, _, _, _, _, _, _, _, _, _, _, _, _, _, _, _, _, _, _, _, _, _, _, _, _, _, _, _, _, _, _, _, _, _, _, _, _, _, _, _, _, _, _, _, _, _, _, _, _, _, _, _, _, _, _, _, _, _, _, _, _, _, _, _, _, _, _, _, _, _, _, _, _, _, _, _, _, _, _, _], rfl, ?_⟩
              refine ⟨[.pv p, .pv (.int .i64 size), .pv q, .any, .any, .any, .any, .ptr 0 0, .any, .pv (.sl ((feedM V.rplain size b sn l[j] (dr2 draws j)).map V.row)), .pv (.int .i64 ((sn + 1 : Nat) : Int)), .pv (.int .i64 ((j + 1 : Nat) : Int)), .any, .any, .any, .any, .any, .any, .any, .any, .any, .any, .any, .any, .any, .any, .any, .any, .any, .any, .any, .any, .any, .any, .any, .any, .any, .any, .any, .any, .any, .any, .any, .any, .any, .any, .any, .any, .any, .any, .any, .any, .any, .any, .any, .any, .any, .any, .any, .any, .any, .any, .any, .any, .any, .any, .any, .any, .any, .any, .any, .any, .any, .any, .any, .any, .any, .any, .any, .any, .any, .any, .any, .any, .any, .any, .any, .any, .any, .any, .any, .any, .any, .any, .any, .any, .any, .any, .any, .any, .any, .any, .any, .any, .any, .any, .any, .any, .any, .any, .any, .any, .any, .any, .any, .any, .any, .any, .any, .any, .any], [RX size (sn + 1) (VR 1 [(l[j]).plain]), VB [(l[j]).plain] 0], tidy_ren (t' := [_, _, _, _, _, _, _, _, _, _, _, _, _, _, _, _, _, _, _, _, _, _, _, _, _, _, _, _, _, _, _, _, _, _, _, _, _, _, _, _, _, _, _, _, _, _, _, _, _, _, _, _, _, _, _, _, _, _, _, _, _, _, _, _, _, _, _, _, _, _, _, _, _, _, _, _, _, _, _, _, _, _, _, _, _, _, _, _, _, _, _, _, _, _, _, _, _, _, _, _, _, _, _, _, _, _, _, _, _, _, _, _, _, _, _, _, _, _, _, _, _]) (order := [0, 1]) (bs := [_, _]) rfl rfl rfl (by kernel_rfl) (by kernel_rfl) rfl (by kernel_rfl), k - 1, by omega, j + 1, (sn + 1), [(l[j]).plain], (feedM V.rplain size b sn l[j] (dr2 draws j)), (.sl ((feedM V.rplain size b sn l[j] (dr2 draws j)).map V.row)), 0, by omega, by omega, la2, ?_, oa2, ob2, hab2, hpb2, rfl, ?_⟩
              · first | exact hfl | (simp; done) | (simp; omega)
              · refine .inr ⟨?_, rfl⟩; first | exact hne | (simp; done) | (intro h; apply hne; simpa using h)
        ·
          refine wo_conv (v := .pv (.int .u64 ((dr2 draws j) : Nat))) rfl rfl rfl rfl ((wconv t3 t22 rfl rfl).trans (iV (by rw [dr2_out hjd]; exact wrapU64 (by omega) (by omega)))) rfl ?_
          refine wo_apv rfl rfl rfl rfl rfl ?_
          refine wo_nil ?_
          refine ⟨[_, _, _, _, _, _, _, _, _, _, _, _, _, _, _, _, _, _, _, _, _, _, _, _, _, _, _, _, _, _, _, _, _, _, _, _, _, _, _, _, _, _, _, _, _, _, _, _, _, _, _, _, _, _, _, _, _, _, _, _, _, _, _, _, _, _, _, _, _, _, _, _, _, _, _, _, _, _, _, _, _, _, _, _, _, _, _, _, _, _, _, _, _, _, _, _, _, _, _, _, _, _, _, _, _, _, _, _, _, _, _, _, _, _, _, _, _, _, _, _, _], rfl, ?_⟩
          refine wp_seq ?_
          refine wp_seq ?_
          refine wp_region rfl rfl ?_
          refine wo_mpv rfl rfl rfl rfl rfl ?_
          refine wo_mpv rfl rfl rfl rfl rfl ?_
          refine wo_len (ln := draws.length) t32 rfl rfl rfl rfl rfl rfl rfl (hq.len 22) rfl ?_
          refine wo_bin (v := .pv (.bool false)) rfl rfl rfl rfl (bF (by omega)) ?_
          refine wo_nil ?_
          refine ⟨[_, _, _, _, _, _, _, _, _, _, _, _, _, _, _, _, _, _, _, _, _, _, _, _, _, _, _, _, _, _, _, _, _, _, _, _, _, _, _, _, _, _, _, _, _, _, _, _, _, _, _, _, _, _, _, _, _, _, _, _, _, _, _, _, _, _, _, _, _, _, _, _, _, _, _, _, _, _, _, _, _, _, _, _, _, _, _, _, _, _, _, _, _, _, _, _, _, _, _, _, _, _, _, _, _, _, _, _, _, _, _, _, _, _, _, _, _, _, _, _, _], rfl, ?_⟩
          refine wp_false rfl ?_
          refine wp_skip ?_
          refine wp_seq ?_
          refine wp_region rfl rfl ?_
          refine wo_move (v := .ptr _ _) rfl rfl rfl rfl rfl (fun h => AV.noConfusion h) ?_
          refine wo_mpv rfl rfl rfl rfl rfl ?_
          refine wo_mpv rfl rfl rfl rfl rfl ?_
          refine wo_iaddr (v := .pv (.ptr (l[j]).row 0)) rfl rfl rfl rfl (hp.get (i := j) hjl rfl) ?_
          refine wo_load (v := .agg [_, _, _, _]) t40 rfl rfl rfl rfl rfl rfl ?_
          refine wo_mpv rfl rfl rfl rfl rfl ?_
          obtain ⟨px, hone⟩ := rof_one hok 1500 (by omega)
          cases hr : (l[j]).right
          ·
            rw [if_neg (by rw [hr]; simp)] at hone
            have hab2 := hab
            have oa2 := oa
            have ob2 := ob
            have la2 := hal
            have hpb2 := hpb
            refine wo_call (v := .pv (.int .i64 2)) (H' := [_]) rfl rfl rfl rfl rfl rfl ((cl19 _ _ _ _).trans (callRef_gen (R := [0]) (bs := [_]) (bs1 := [_]) (bs3 := [_]) rfl rfl rfl rfl (feed_bad_nil h1 hok hr (dr2 draws j) _ (by omega)) rfl rfl rfl rfl)) rfl rfl rfl ?_
            refine wo_apv rfl rfl rfl rfl rfl ?_
            refine wo_nil ?_
            refine ⟨[_, _, _, _, _, _, _, _, _, _, _, _, _, _, _, _, _, _, _, _, _, _, _, _, _, _, _, _, _, _, _, _, _, _, _, _, _, _, _, _, _, _, _, _, _, _, _, _, _, _, _, _, _, _, _, _, _, _, _, _, _, _, _, _, _, _, _, _, _, _, _, _, _, _, _, _, _, _, _, _, _, _, _, _, _, _, _, _, _, _, _, _, _, _, _, _, _, _, _, _, _, _, _, _, _, _, _, _, _, _, _, _, _, _, _, _, _, _, _, _, _], rfl, ?_⟩
            refine wp_seq ?_
            refine wp_seq ?_
            refine wp_region rfl rfl ?_
            refine wo_mpv rfl rfl rfl rfl rfl ?_
            refine wo_mpv rfl rfl rfl rfl rfl ?_
            refine wo_mpv rfl rfl rfl rfl rfl ?_
            refine wo_bin (v := .pv (.int .i64 ((j + 1 : Nat) : Int))) rfl rfl rfl rfl (iV (by rw [wrapI (by omega) (by omega)]; omega)) ?_
            refine wo_slice (v := .pv (.sl [(l[j]).row])) t31 t40 rfl rfl rfl rfl hp.noStr (hp.slice1 hjl) ?_
            refine wo_call (v := .tup [.pv px, .pv (.int .i64 2)]) (H' := [_]) rfl rfl rfl rfl rfl rfl ((cl20 _ _ _ _).trans (callPure_any rfl (fun _ => rfl) rfl hone)) rfl rfl rfl ?_
            refine wo_move (v := .tup _) rfl rfl rfl rfl rfl (fun h => AV.noConfusion h) ?_
            refine wo_extract (v := .pv _) rfl rfl rfl rfl rfl rfl ?_
            refine wo_extract (v := .pv _) rfl rfl rfl rfl rfl rfl ?_
            refine wo_apv rfl rfl rfl rfl rfl ?_
            refine wo_apv rfl rfl rfl rfl rfl ?_
            refine wo_nil ?_
            refine ⟨[_, _, _, _, _, _, _, _, _, _, _, _, _, _, _, _, _, _, _, _, _, _, _, _, _, _, _, _, _, _, _, _, _, _, _, _, _, _, _, _, _, _, _, _, _, _, _, _, _, _, _, _, _, _, _, _, _, _, _, _, _, _, _, _, _, _, _, _, _, _, _, _, _, _, _, _, _, _, _, _, _, _, _, _, _, _, _, _, _, _, _, _, _, _, _, _, _, _, _, _, _, _, _, _, _, _, _, _, _, _, _, _, _, _, _, _, _, _, _, _, _], rfl, ?_⟩
            refine wp_seq ?_
            refine wp_region rfl rfl ?_
            refine wo_mpv rfl rfl rfl rfl rfl ?_
            refine wo_bin (v := .pv (.bool true)) rfl rfl rfl rfl (nT (by decide)) ?_
            refine wo_nil ?_
            refine ⟨[_, _, _, _, _, _, _, _, _, _, _, _, _, _, _, _, _, _, _, _, _, _, _, _, _, _, _, _, _, _, _, _, _, _, _, _, _, _, _, _, _, _, _, _, _, _, _, _, _, _, _, _, _, _, _, _, _, _, _, _, _, _, _, _, _, _, _, _, _, _, _, _, _, _, _, _, _, _, _, _, _, _, _, _, _, _, _, _, _, _, _, _, _, _, _, _, _, _, _, _, _, _, _, _, _, _, _, _, _, _, _, _, _, _, _, _, _, _, _, _, _], rfl, ?_⟩
            refine wp_true rfl ?_
            refine wp_seq ?_
            refine wp_region rfl rfl ?_
            refine wo_mpv rfl rfl rfl rfl rfl ?_
            refine wo_mpv rfl rfl rfl rfl rfl ?_
            refine wo_bin (v := .pv (.bool false)) rfl rfl rfl rfl (nF rfl) ?_
            refine wo_nil ?_
            refine ⟨[_, _, _, _, _, _, _, _, _, _, _, _, _, _, _, _, _, _, _, _, _, _, _, _, _, _, _, _, _, _, _, _, _, _, _, _, _, _, _, _, _, _, _, _, _, _, _, _, _, _, _, _, _, _, _, _, _, _, _, _, _, _, _, _, _, _, _, _, _, _, _, _, _, _, _, _, _, _, _, _, _, _, _, _, _, _, _, _, _, _, _, _, _, _, _, _, _, _, _, _, _, _, _, _, _, _, _, _, _, _, _, _, _, _, _, _, _, _, _, _, _], rfl, ?_⟩
            refine wp_false rfl ?_
            refine wp_skip ?_
            refine wp_seq ?_
            refine wp_region rfl rfl ?_
            refine wo_move (v := .ptr _ _) rfl rfl rfl rfl rfl (fun h => AV.noConfusion h) ?_
            refine wo_call (v := VR 1 ([] : List V)) (H' := [_, _]) rfl rfl rfl rfl rfl rfl ((cl22 _ _ _ _).trans (callRef_gen (R := [0]) (bs := [_]) (bs1 := [_]) (bs3 := [_, _]) rfl rfl rfl rfl (sample_nil _ _ _ (by omega)) rfl rfl rfl rfl)) rfl rfl rfl ?_
            refine wo_assign (v := .ref _ _ _ _ _ _) rfl rfl rfl rfl rfl (fun h => AV.noConfusion h) ?_
            refine wo_nil ?_
            refine ⟨[_, _, _, _, _, _, _, _, _, _, _, _, _, _, _, _, _, _, _, _, _, _, _, _, _, _, _, _, _, _, _, _, _, _, _, _, _, _, _, _, _, _, _, _, _, _, _, _, _, _, _, _, _, _, _, _, _, _, _, _, _, _, _, _, _, _, _, _, _, _, _, _, _, _, _, _, _, _, _, _, _, _, _, _, _, _, _, _, _, _, _, _, _, _, _, _, _, _, _, _, _, _, _, _, _, _, _, _, _, _, _, _, _, _, _, _, _, _, _, _, _], rfl, ?_⟩
            refine wp_seq ?_
            refine wp_seq ?_
            refine wp_region rfl rfl ?_
            refine wo_move (v := .ref _ _ _ _ _ _) rfl rfl rfl rfl rfl (fun h => AV.noConfusion h) ?_
            refine wo_mpv rfl rfl rfl rfl rfl ?_
            refine wo_call (v := .pv (.bool true)) (H' := [_, _]) rfl rfl rfl rfl rfl rfl ((cl23 _ _ _ _).trans (callPure_vr (l := ([] : List V)) (fl := List.length ([] : List V)) (st := 0) (fz := 0) rfl (Nat.le_refl _) rfl (fun _ => rfl) rfl (exactL_ok (.inl rfl) hpb2 oa2 ob2 hab2.1 hab2.2 (by omega) _ (by omega)))) rfl rfl rfl ?_
            refine wo_un rfl rfl rfl rfl rfl ?_
            refine wo_mpv rfl rfl rfl rfl rfl ?_
            refine wo_move (v := .ptr _ _) rfl rfl rfl rfl rfl (fun h => AV.noConfusion h) ?_
            refine wo_call (v := .pv _) (H' := [_, _]) rfl rfl rfl rfl rfl rfl ((cl24 _ _ _ _).trans (callRef_gen (R := [0]) (bs := [_]) (bs1 := [_]) (bs3 := [_]) rfl rfl rfl rfl (seen_nil _ _ _ (by omega)) rfl rfl rfl rfl)) rfl rfl rfl ?_
            refine wo_mpv rfl rfl rfl rfl rfl ?_
            refine wo_bin (v := .pv (.bool false)) rfl rfl rfl rfl (nF rfl) ?_
            refine wo_pick (v := .pv _) rfl rfl rfl rfl rfl rfl ?_
            refine wo_nil ?_
            refine ⟨[_, _, _, _, _, _, _, _, _, _, _, _, _, _, _, _, _, _, _, _, _, _, _, _, _, _, _, _, _, _, _, _, _, _, _, _, _, _, _, _, _, _, _, _, _, _, _, _, _, _, _, _, _, _, _, _, _, _, _, _, _, _, _, _, _, _, _, _, _, _, _, _, _, _, _, _, _, _, _, _, _, _, _, _, _, _, _, _, _, _, _, _, _, _, _, _, _, _, _, _, _, _, _, _, _, _, _, _, _, _, _, _, _, _, _, _, _, _, _, _, _], rfl, ?_⟩
            refine wp_false rfl ?_
            refine wp_skip ?_
            refine wp_seq ?_
            refine wp_region rfl rfl ?_
            refine wo_move (v := .ref _ _ _ _ _ _) rfl rfl rfl rfl rfl (fun h => AV.noConfusion h) ?_
            refine wo_len t31 rfl rfl rfl rfl rfl rfl rfl rfl rfl ?_
            refine wo_mpv rfl rfl rfl rfl rfl ?_
            refine wo_nil ?_
            refine ⟨[_, _, _, _, _, _, _, _, _, _, _, _, _, _, _, _, _, _, _, _, _, _, _, _, _, _, _, _, _, _, _, _, _, _, _, _, _, _, _, _, _, _, _, _, _, _, _, _, _, _, _, _, _, _, _, _, _, _, _, _, _, _, _, _, _, _, _, _, _, _, _, _, _, _, _, _, _, _, _, _, _, _, _, _, _, _, _, _, _, _, _, _, _, _, _, _, _, _, _, _, _, _, _, _, _, _, _, _, _, _, _, _, _, _, _, _, _, _, _, _, _], rfl, ?_⟩
            refine wp_block ?_
            refine wp_loop (fun k2 t H => ∃ (i : Nat) (rows : List (List PV)) (fl2 : Nat), i + k2 = List.length ([] : List V) ∧ rows.length = List.length ([] : List V) ∧ (∀ r ∈ rows, r.length = 4) ∧ fl2 ≤ List.length ([] : List V) ∧ t = [.pv p, .pv (.int .i64 size), .pv q, .any, .any, .any, .any, .ptr 0 0, .any, .pv pb, .pv (.int .i64 (sn : Nat)), .pv (.int .i64 (j : Nat)), .any, .any, .any, .any, VR 1 ([] : List V), .any, .any, .any, .any, .any, .any, .any, .any, .any, .any, .any, .any, .any, .any, .any, .any, .any, .any, .any, .any, .any, .any, .any, .any, .any, .any, .any, .any, .any, .any, .any, .any, .any, .any, .any, .any, .any, .any, .any, .any, .any, .any, .any, .any, .any, .any, .any, .any, .any, .any, .any, .any, .any, .any, .any, .any, .any, .any, .any, .any, .any, .any, .any, .any, .any, .any, .any, .any, .any, .any, .any, .any, .any, .any, .any, .any, .any, .any, .any, .any, .any, .any, .any, .any, .any, .any, .any, .any, .any, .any, .any, .any, .any, .any, .pv (.int .i64 (List.length ([] : List V))), .pv (.int .i64 (i : Nat)), .any, .any, .any, .any, .any, .any, .any, .any] ∧ H = [RX size sn (.pv .nils), RB4 rows fl2]) (List.length ([] : List V)) ⟨0, List.map V.row ([] : List V), List.length ([] : List V), by omega, by simp, rows4 _, by omega, rfl, rfl⟩ (by omega) ?_
            rintro k2 _ _ hk2 ⟨i, rows, fl2, hik, hrl, hr4, hfl2, rfl, rfl⟩
            refine wp_seq ?_
            refine wp_region rfl rfl ?_
            refine wo_bsplit rfl rfl rfl rfl rfl (fun c27_0 => ?_) (fun c27_0 => ?_)
            ·
              refine wo_nil ?_
              refine ⟨[_, _, _, _, _, _, _, _, _, _, _, _, _, _, _, _, _, _, _, _, _, _, _, _, _, _, _, _, _, _, _, _, _, _, _, _, _, _, _, _, _, _, _, _, _, _, _, _, _, _, _, _, _, _, _, _, _, _, _, _, _, _, _, _, _, _, _, _, _, _, _, _, _, _, _, _, _, _, _, _, _, _, _, _, _, _, _, _, _, _, _, _, _, _, _, _, _, _, _, _, _, _, _, _, _, _, _, _, _, _, _, _, _, _, _, _, _, _, _, _, _], rfl, ?_⟩
              refine wp_seq ?_
              refine wp_true rfl ?_
              refine wp_skip ?_
              refine wp_seq ?_
              refine wp_block ?_
              refine wp_seq ?_
              refine wp_region rfl rfl ?_
              refine wo_mpv rfl rfl rfl rfl rfl ?_
              refine wo_apv rfl rfl rfl rfl rfl ?_
              refine wo_nil ?_
              refine ⟨[_, _, _, _, _, _, _, _, _, _, _, _, _, _, _, _, _, _, _, _, _, _, _, _, _, _, _, _, _, _, _, _, _, _, _, _, _, _, _, _, _, _, _, _, _, _, _, _, _, _, _, _, _, _, _, _, _, _, _, _, _, _, _, _, _, _, _, _, _, _, _, _, _, _, _, _, _, _, _, _, _, _, _, _, _, _, _, _, _, _, _, _, _, _, _, _, _, _, _, _, _, _, _, _, _, _, _, _, _, _, _, _, _, _, _, _, _, _, _, _, _], rfl, ?_⟩
              refine wp_region rfl rfl ?_
              refine wo_move (v := .ref _ _ _ _ _ _) rfl rfl rfl rfl rfl (fun h => AV.noConfusion h) ?_
              refine wo_mpv rfl rfl rfl rfl rfl ?_
              refine wo_iaddr (v := .eptr 1 0 (List.length ([] : List V)) 4 i 0) rfl rfl rfl rfl ((iaddr_ref (j := i) t31 t40 rfl (by omega) rfl).trans (by rw [Nat.zero_add])) ?_
              refine wo_faddr t40 t3 rfl rfl rfl rfl rfl rfl rfl ?_
              refine wo_storeB (H' := [_, _]) rfl rfl rfl (store_kind rfl hrl hfl2 (by omega) hr4) rfl rfl rfl ?_
              refine wo_nil ?_
              refine ⟨[_, _, _, _, _, _, _, _, _, _, _, _, _, _, _, _, _, _, _, _, _, _, _, _, _, _, _, _, _, _, _, _, _, _, _, _, _, _, _, _, _, _, _, _, _, _, _, _, _, _, _, _, _, _, _, _, _, _, _, _, _, _, _, _, _, _, _, _, _, _, _, _, _, _, _, _, _, _, _, _, _, _, _, _, _, _, _, _, _, _, _, _, _, _, _, _, _, _, _, _, _, _, _, _, _, _, _, _, _, _, _, _, _, _, _, _, _, _, _, _, _], rfl, ?_⟩
              refine wp_region rfl rfl ?_
              refine wo_bin (v := .pv (.int .i64 ((i + 1 : Nat) : Int))) rfl rfl rfl rfl (iV (by rw [wrapI (by omega) (by omega)]; omega)) ?_
              refine wo_mpv rfl rfl rfl rfl rfl ?_
              refine wo_nil ?_
              refine ⟨[_, _, _, _, _, _, _, _, _, _, _, _, _, _, _, _, _, _, _, _, _, _, _, _, _, _, _, _, _, _, _, _, _, _, _, _, _, _, _, _, _, _, _, _, _, _, _, _, _, _, _, _, _, _, _, _, _, _, _, _, _, _, _, _, _, _, _, _, _, _, _, _, _, _, _, _, _, _, _, _, _, _, _, _, _, _, _, _, _, _, _, _, _, _, _, _, _, _, _, _, _, _, _, _, _, _, _, _, _, _, _, _, _, _, _, _, _, _, _, _, _], rfl, ?_⟩
              refine ⟨_, _, tidy_norm (t' := [_, _, _, _, _, _, _, _, _, _, _, _, _, _, _, _, _, _, _, _, _, _, _, _, _, _, _, _, _, _, _, _, _, _, _, _, _, _, _, _, _, _, _, _, _, _, _, _, _, _, _, _, _, _, _, _, _, _, _, _, _, _, _, _, _, _, _, _, _, _, _, _, _, _, _, _, _, _, _, _, _, _, _, _, _, _, _, _, _, _, _, _, _, _, _, _, _, _, _, _, _, _, _, _, _, _, _, _, _, _, _, _, _, _, _, _, _, _, _, _, _]) rfl rfl rfl, k2 - 1, by omega, i + 1, setK rows i (.int .i64 99), List.length ([] : List V), by omega, by rw [setK_len]; exact hrl, setK_4 _ (by omega) hr4, by omega, rfl, rfl⟩
            ·
              refine wo_nil ?_
              refine ⟨[_, _, _, _, _, _, _, _, _, _, _, _, _, _, _, _, _, _, _, _, _, _, _, _, _, _, _, _, _, _, _, _, _, _, _, _, _, _, _, _, _, _, _, _, _, _, _, _, _, _, _, _, _, _, _, _, _, _, _, _, _, _, _, _, _, _, _, _, _, _, _, _, _, _, _, _, _, _, _, _, _, _, _, _, _, _, _, _, _, _, _, _, _, _, _, _, _, _, _, _, _, _, _, _, _, _, _, _, _, _, _, _, _, _, _, _, _, _, _, _, _], rfl, ?_⟩
              refine wp_seq ?_
              refine wp_false rfl ?_
              refine wp_exit ?_
              refine wp_region rfl rfl ?_
              refine wo_mpv rfl rfl rfl rfl rfl ?_
              refine wo_bin (v := .pv (.int .i64 ((j + 1 : Nat) : Int))) rfl rfl rfl rfl (iV (by rw [wrapI (by omega) (by omega)]; omega)) ?_
              refine wo_apv rfl rfl rfl rfl rfl ?_
              refine wo_nil ?_
              refine ⟨[_, _, _, _, _, _, _, _, _, _, _, _, _, _, _, _, _, _, _, _, _, _, _, _, _, _, _, _, _, _, _, _, _, _, _, _, _, _, _, _, _, _, _, _, _, _, _, _, _, _, _, _, _, _, _, _, _, _, _, _, _, _, _, _, _, _, _, _, _, _, _, _, _, _, _, _, _, _, _, _, _, _, _, _, _, _, _, _, _, _, _, _, _, _, _, _, _, _, _, _, _, _, _, _, _, _, _, _, _, _, _, _, _, _, _, _, _, _, _, _, _], rfl, ?_⟩
              refine ⟨[.pv p, .pv (.int .i64 size), .pv q, .any, .any, .any, .any, .ptr 0 0, .any, .pv pb, .pv (.int .i64 (sn : Nat)), .pv (.int .i64 ((j + 1 : Nat) : Int)), .any, .any, .any, .any, .any, .any, .any, .any, .any, .any, .any, .any, .any, .any, .any, .any, .any, .any, .any, .any, .any, .any, .any, .any, .any, .any, .any, .any, .any, .any, .any, .any, .any, .any, .any, .any, .any, .any, .any, .any, .any, .any, .any, .any, .any, .any, .any, .any, .any, .any, .any, .any, .any, .any, .any, .any, .any, .any, .any, .any, .any, .any, .any, .any, .any, .any, .any, .any, .any, .any, .any, .any, .any, .any, .any, .any, .any, .any, .any, .any, .any, .any, .any, .any, .any, .any, .any, .any, .any, .any, .any, .any, .any, .any, .any, .any, .any, .any, .any, .any, .any, .any, .any, .any, .any, .any, .any, .any, .any], [RX size sn (.pv .nils)], tidy_ren (t' := [_, _, _, _, _, _, _, _, _, _, _, _, _, _, _, _, _, _, _, _, _, _, _, _, _, _, _, _, _, _, _, _, _, _, _, _, _, _, _, _, _, _, _, _, _, _, _, _, _, _, _, _, _, _, _, _, _, _, _, _, _, _, _, _, _, _, _, _, _, _, _, _, _, _, _, _, _, _, _, _, _, _, _, _, _, _, _, _, _, _, _, _, _, _, _, _, _, _, _, _, _, _, _, _, _, _, _, _, _, _, _, _, _, _, _, _, _, _, _, _, _]) (order := [0]) (bs := [_]) rfl rfl rfl (by kernel_rfl) (by kernel_rfl) rfl (by kernel_rfl), k - 1, by omega, j + 1, sn, ([] : List V), b, pb, 0, by omega, by omega, la2, ?_, oa2, ob2, hab2, hpb2, rfl, ?_⟩
              · first | exact hfl | (simp; done) | (simp; omega)
              · exact .inl ⟨rfl, rfl⟩
          ·
            rw [if_pos hr] at hone
            have hF : feedM V.plain size [] sn l[j] (dr2 draws j) = [(l[j]).plain] := by unfold feedM; first | rw [if_pos hlt] | rw [if_neg (by omega), if_pos hkk] | rw [if_neg (by omega), if_neg hkk] | (rw [if_pos (by simp; omega)]; rfl)
            have hab2 : EqL [(l[j]).plain] (feedM V.rplain size b sn l[j] (dr2 draws j)) := hF ▸ feed_eq hab hok size sn (dr2 draws j)
            have oa2 : OkL [(l[j]).plain] := hF ▸ okFeed oa (plain_ok hok)
            have ob2 : OkL (feedM V.rplain size b sn l[j] (dr2 draws j)) := okFeed ob (rright_plain hok)
            have la2 : List.length [(l[j]).plain] ≤ size := hF ▸ feedM_len hal
            have hpb2 : SV (.sl ((feedM V.rplain size b sn l[j] (dr2 draws j)).map V.row)) (feedM V.rplain size b sn l[j] (dr2 draws j)) := .inl rfl
            refine wo_call (v := .pv (.int .i64 0)) (H' := [_, _]) rfl rfl rfl rfl rfl rfl ((cl19 _ _ _ _).trans (callRef_gen (R := [0]) (bs := [_]) (bs1 := [_]) (bs3 := [_, _]) rfl rfl rfl rfl (feed_nil h1 h2 (by omega) hok hr (dr2 draws j) _ (by omega)) rfl rfl rfl rfl)) rfl rfl rfl ?_
            refine wo_apv rfl rfl rfl rfl rfl ?_
            refine wo_nil ?_
            refine ⟨[_, _, _, _, _, _, _, _, _, _, _, _, _, _, _, _, _, _, _, _, _, _, _, _, _, _, _, _, _, _, _, _, _, _, _, _, _, _, _, _, _, _, _, _, _, _, _, _, _, _, _, _, _, _, _, _, _, _, _, _, _, _, _, _, _, _, _, _, _, _, _, _, _, _, _, _, _, _, _, _, _, _, _, _, _, _, _, _, _, _, _, _, _, _, _, _, _, _, _, _, _, _, _, _, _, _, _, _, _, _, _, _, _, _, _, _, _, _, _, _, _], rfl, ?_⟩
            refine wp_seq ?_
            refine wp_seq ?_
            refine wp_region rfl rfl ?_
            refine wo_mpv rfl rfl rfl rfl rfl ?_
            refine wo_mpv rfl rfl rfl rfl rfl ?_
            refine wo_mpv rfl rfl rfl rfl rfl ?_
            refine wo_bin (v := .pv (.int .i64 ((j + 1 : Nat) : Int))) rfl rfl rfl rfl (iV (by rw [wrapI (by omega) (by omega)]; omega)) ?_
            refine wo_slice (v := .pv (.sl [(l[j]).row])) t31 t40 rfl rfl rfl rfl hp.noStr (hp.slice1 hjl) ?_
            refine wo_call (v := .tup [.pv px, .pv (.int .i64 0)]) (H' := [_, _]) rfl rfl rfl rfl rfl rfl ((cl20 _ _ _ _).trans (callPure_any rfl (fun _ => rfl) rfl hone)) rfl rfl rfl ?_
            refine wo_move (v := .tup _) rfl rfl rfl rfl rfl (fun h => AV.noConfusion h) ?_
            refine wo_extract (v := .pv _) rfl rfl rfl rfl rfl rfl ?_
            refine wo_extract (v := .pv _) rfl rfl rfl rfl rfl rfl ?_
            refine wo_apv rfl rfl rfl rfl rfl ?_
            refine wo_apv rfl rfl rfl rfl rfl ?_
            refine wo_nil ?_
            refine ⟨[_, _, _, _, _, _, _, _, _, _, _, _, _, _, _, _, _, _, _, _, _, _, _, _, _, _, _, _, _, _, _, _, _, _, _, _, _, _, _, _, _, _, _, _, _, _, _, _, _, _, _, _, _, _, _, _, _, _, _, _, _, _, _, _, _, _, _, _, _, _, _, _, _, _, _, _, _, _, _, _, _, _, _, _, _, _, _, _, _, _, _, _, _, _, _, _, _, _, _, _, _, _, _, _, _, _, _, _, _, _, _, _, _, _, _, _, _, _, _, _, _], rfl, ?_⟩
            refine wp_seq ?_
            refine wp_region rfl rfl ?_
            refine wo_mpv rfl rfl rfl rfl rfl ?_
            refine wo_bin (v := .pv (.bool false)) rfl rfl rfl rfl (nF rfl) ?_
            refine wo_nil ?_
            refine ⟨[_, _, _, _, _, _, _, _, _, _, _, _, _, _, _, _, _, _, _, _, _, _, _, _, _, _, _, _, _, _, _, _, _, _, _, _, _, _, _, _, _, _, _, _, _, _, _, _, _, _, _, _, _, _, _, _, _, _, _, _, _, _, _, _, _, _, _, _, _, _, _, _, _, _, _, _, _, _, _, _, _, _, _, _, _, _, _, _, _, _, _, _, _, _, _, _, _, _, _, _, _, _, _, _, _, _, _, _, _, _, _, _, _, _, _, _, _, _, _, _, _], rfl, ?_⟩
            refine wp_false rfl ?_
            refine wp_seq ?_
            refine wp_seq ?_
            refine wp_region rfl rfl ?_
            refine wo_mpv rfl rfl rfl rfl rfl ?_
            refine wo_bin (v := .pv (.bool false)) rfl rfl rfl rfl (nF rfl) ?_
            refine wo_nil ?_
            refine ⟨[_, _, _, _, _, _, _, _, _, _, _, _, _, _, _, _, _, _, _, _, _, _, _, _, _, _, _, _, _, _, _, _, _, _, _, _, _, _, _, _, _, _, _, _, _, _, _, _, _, _, _, _, _, _, _, _, _, _, _, _, _, _, _, _, _, _, _, _, _, _, _, _, _, _, _, _, _, _, _, _, _, _, _, _, _, _, _, _, _, _, _, _, _, _, _, _, _, _, _, _, _, _, _, _, _, _, _, _, _, _, _, _, _, _, _, _, _, _, _, _, _], rfl, ?_⟩
            refine wp_false rfl ?_
            refine wp_skip ?_
            refine wp_seq ?_
            refine wp_region rfl rfl ?_
            refine wo_mpv rfl rfl rfl rfl rfl ?_
            refine wo_mpv rfl rfl rfl rfl rfl ?_
            refine wo_mpv rfl rfl rfl rfl rfl ?_
            refine wo_mpv rfl rfl rfl rfl rfl ?_
            refine wo_mpv rfl rfl rfl rfl rfl ?_
            refine wo_iaddr (v := .pv (.ptr (l[j]).row 0)) rfl rfl rfl rfl (hp.get (i := j) hjl rfl) ?_
            refine wo_load (v := .agg [_, _, _, _]) t40 rfl rfl rfl rfl rfl rfl ?_
            refine wo_mpv rfl rfl rfl rfl rfl ?_
            refine wo_call (v := .pv (.sl ((feedM V.rplain size b sn l[j] (dr2 draws j)).map V.row))) (H' := [_, _]) rfl rfl rfl rfl rfl rfl ((cl21 _ _ _ _).trans (callPure_pv rfl (fun _ => rfl) (rfeed_ok hpb h1 h2 (by omega) (by have := hab.1; first | omega | (simp at this; omega)) hok (dr2_lt hd (by omega)) _ (by omega)))) rfl rfl rfl ?_
            refine wo_apv rfl rfl rfl rfl rfl ?_
            refine wo_nil ?_
            refine ⟨[_, _, _, _, _, _, _, _, _, _, _, _, _, _, _, _, _, _, _, _, _, _, _, _, _, _, _, _, _, _, _, _, _, _, _, _, _, _, _, _, _, _, _, _, _, _, _, _, _, _, _, _, _, _, _, _, _, _, _, _, _, _, _, _, _, _, _, _, _, _, _, _, _, _, _, _, _, _, _, _, _, _, _, _, _, _, _, _, _, _, _, _, _, _, _, _, _, _, _, _, _, _, _, _, _, _, _, _, _, _, _, _, _, _, _, _, _, _, _, _, _], rfl, ?_⟩
            refine wp_region rfl rfl ?_
            refine wo_mpv rfl rfl rfl rfl rfl ?_
            refine wo_bin (v := .pv (.int .i64 ((sn + 1 : Nat) : Int))) rfl rfl rfl rfl (iV (by rw [wrapI (by omega) (by omega)]; omega)) ?_
            refine wo_apv rfl rfl rfl rfl rfl ?_
            refine wo_nil ?_
            refine ⟨[_, _, _, _, _, _, _, _, _, _, _, _, _, _, _, _, _, _, _, _, _, _, _, _, _, _, _, _, _, _, _, _, _, _, _, _, _, _, _, _, _, _, _, _, _, _, _, _, _, _, _, _, _, _, _, _, _, _, _, _, _, _, _, _, _, _, _, _, _, _, _, _, _, _, _, _, _, _, _, _, _, _, _, _, _, _, _, _, _, _, _, _, _, _, _, _, _, _, _, _, _, _, _, _, _, _, _, _, _, _, _, _, _, _, _, _, _, _, _, _, _], rfl, ?_⟩
            refine wp_seq ?_
            refine wp_region rfl rfl ?_
            refine wo_move (v := .ptr _ _) rfl rfl rfl rfl rfl (fun h => AV.noConfusion h) ?_
            refine wo_call (v := VR 2 [(l[j]).plain]) (H' := [_, _, _]) rfl rfl rfl rfl rfl rfl ((cl22 _ _ _ _).trans (callRef_gen (R := [0, 1]) (bs := [_, _]) (bs1 := [_, _]) (bs3 := [_, _, _]) rfl rfl rfl rfl (sample_ref (l := [(l[j]).plain]) (fl := 0) (by omega) (by first | exact hfl | (simp; done) | (simp; omega)) _ (by omega)) rfl rfl rfl rfl)) rfl rfl rfl ?_
            refine wo_assign (v := .ref _ _ _ _ _ _) rfl rfl rfl rfl rfl (fun h => AV.noConfusion h) ?_
            refine wo_nil ?_
            refine ⟨[_, _, _, _, _, _, _, _, _, _, _, _, _, _, _, _, _, _, _, _, _, _, _, _, _, _, _, _, _, _, _, _, _, _, _, _, _, _, _, _, _, _, _, _, _, _, _, _, _, _, _, _, _, _, _, _, _, _, _, _, _, _, _, _, _, _, _, _, _, _, _, _, _, _, _, _, _, _, _, _, _, _, _, _, _, _, _, _, _, _, _, _, _, _, _, _, _, _, _, _, _, _, _, _, _, _, _, _, _, _, _, _, _, _, _, _, _, _, _, _, _], rfl, ?_⟩
            refine wp_seq ?_
            refine wp_seq ?_
            refine wp_region rfl rfl ?_
            refine wo_move (v := .ref _ _ _ _ _ _) rfl rfl rfl rfl rfl (fun h => AV.noConfusion h) ?_
            refine wo_mpv rfl rfl rfl rfl rfl ?_
            refine wo_call (v := .pv (.bool true)) (H' := [_, _, _]) rfl rfl rfl rfl rfl rfl ((cl23 _ _ _ _).trans (callPure_vr (l := [(l[j]).plain]) (fl := List.length [(l[j]).plain]) (st := 0) (fz := 0) rfl (Nat.le_refl _) rfl (fun _ => rfl) rfl (exactL_ok (.inl rfl) hpb2 oa2 ob2 hab2.1 hab2.2 (by omega) _ (by omega)))) rfl rfl rfl ?_
            refine wo_un rfl rfl rfl rfl rfl ?_
            refine wo_mpv rfl rfl rfl rfl rfl ?_
            refine wo_move (v := .ptr _ _) rfl rfl rfl rfl rfl (fun h => AV.noConfusion h) ?_
            refine wo_call (v := .pv _) (H' := [_, _, _]) rfl rfl rfl rfl rfl rfl ((cl24 _ _ _ _).trans (callRef_gen (R := [0, 1]) (bs := [_, _]) (bs1 := [_, _]) (bs3 := [_, _]) rfl rfl rfl rfl (seen_ref _ _ _ [(l[j]).plain] _ (by omega)) rfl rfl rfl rfl)) rfl rfl rfl ?_
            refine wo_mpv rfl rfl rfl rfl rfl ?_
            refine wo_bin (v := .pv (.bool false)) rfl rfl rfl rfl (nF rfl) ?_
            refine wo_pick (v := .pv _) rfl rfl rfl rfl rfl rfl ?_
            refine wo_nil ?_
            refine ⟨[_, _, _, _, _, _, _, _, _, _, _, _, _, _, _, _, _, _, _, _, _, _, _, _, _, _, _, _, _, _, _, _, _, _, _, _, _, _, _, _, _, _, _, _, _, _, _, _, _, _, _, _, _, _, _, _, _, _, _, _, _, _, _, _, _, _, _, _, _, _, _, _, _, _, _, _, _, _, _, _, _, _, _, _, _, _, _, _, _, _, _, _, _, _, _, _, _, _, _, _, _, _, _, _, _, _, _, _, _, _, _, _, _, _, _, _, _, _, _, _, _], rfl, ?_⟩
            refine wp_false rfl ?_
            refine wp_skip ?_
            refine wp_seq ?_
            refine wp_region rfl rfl ?_
            refine wo_move (v := .ref _ _ _ _ _ _) rfl rfl rfl rfl rfl (fun h => AV.noConfusion h) ?_
            refine wo_len t31 rfl rfl rfl rfl rfl rfl rfl rfl rfl ?_
            refine wo_mpv rfl rfl rfl rfl rfl ?_
            refine wo_nil ?_
            refine ⟨[_, _, _, _, _, _, _, _, _, _, _, _, _, _, _, _, _, _, _, _, _, _, _, _, _, _, _, _, _, _, _, _, _, _, _, _, _, _, _, _, _, _, _, _, _, _, _, _, _, _, _, _, _, _, _, _, _, _, _, _, _, _, _, _, _, _, _, _, _, _, _, _, _, _, _, _, _, _, _, _, _, _, _, _, _, _, _, _, _, _, _, _, _, _, _, _, _, _, _, _, _, _, _, _, _, _, _, _, _, _, _, _, _, _, _, _, _, _, _, _, _], rfl, ?_⟩
            refine wp_block ?_
            refine wp_loop (fun k2 t H => ∃ (i : Nat) (rows : List (List PV)) (fl2 : Nat), i + k2 = List.length [(l[j]).plain] ∧ rows.length = List.length [(l[j]).plain] ∧ (∀ r ∈ rows, r.length = 4) ∧ fl2 ≤ List.length [(l[j]).plain] ∧ t = [.pv p, .pv (.int .i64 size), .pv q, .any, .any, .any, .any, .ptr 0 0, .any, .pv (.sl ((feedM V.rplain size b sn l[j] (dr2 draws j)).map V.row)), .pv (.int .i64 ((sn + 1 : Nat) : Int)), .pv (.int .i64 (j : Nat)), .any, .any, .any, .any, VR 2 [(l[j]).plain], .any, .any, .any, .any, .any, .any, .any, .any, .any, .any, .any, .any, .any, .any, .any, .any, .any, .any, .any, .any, .any, .any, .any, .any, .any, .any, .any, .any, .any, .any, .any, .any, .any, .any, .any, .any, .any, .any, .any, .any, .any, .any, .any, .any, .any, .any, .any, .any, .any, .any, .any, .any, .any, .any, .any, .any, .any, .any, .any, .any, .any, .any, .any, .any, .any, .any, .any, .any, .any, .any, .any, .any, .any, .any, .any, .any, .any, .any, .any, .any, .any, .any, .any, .any, .any, .any, .any, .any, .any, .any, .any, .any, .any, .any, .pv (.int .i64 (List.length [(l[j]).plain])), .pv (.int .i64 (i : Nat)), .any, .any, .any, .any, .any, .any, .any, .any] ∧ H = [RX size (sn + 1) (VR 1 [(l[j]).plain]), VB [(l[j]).plain] 0, RB4 rows fl2]) (List.length [(l[j]).plain]) ⟨0, List.map V.row [(l[j]).plain], List.length [(l[j]).plain], by omega, by simp, rows4 _, by omega, rfl, rfl⟩ (by omega) ?_
            rintro k2 _ _ hk2 ⟨i, rows, fl2, hik, hrl, hr4, hfl2, rfl, rfl⟩
            refine wp_seq ?_
            refine wp_region rfl rfl ?_
            refine wo_bsplit rfl rfl rfl rfl rfl (fun c27_0 => ?_) (fun c27_0 => ?_)
            ·
              refine wo_nil ?_
              refine ⟨[_, _, _, _, _, _, _, _, _, _, _, _, _, _, _, _, _, _, _, _, _, _, _, _, _, _, _, _, _, _, _, _, _, _, _, _, _, _, _, _, _, _, _, _, _, _, _, _, _, _, _, _, _, _, _, _, _, _, _, _, _, _, _, _, _, _, _, _, _, _, _, _, _, _, _, _, _, _, _, _, _, _, _, _, _, _, _, _, _, _, _, _, _, _, _, _, _, _, _, _, _, _, _, _, _, _, _, _, _, _, _, _, _, _, _, _, _, _, _, _, _], rfl, ?_⟩
              refine wp_seq ?_
              refine wp_true rfl ?_
              refine wp_skip ?_
              refine wp_seq ?_
              refine wp_block ?_
              refine wp_seq ?_
              refine wp_region rfl rfl ?_
              refine wo_mpv rfl rfl rfl rfl rfl ?_
              refine wo_apv rfl rfl rfl rfl rfl ?_
              refine wo_nil ?_
              refine ⟨[_, _, _, _, _, _, _, _, _, _, _, _, _, _, _, _, _, _, _, _, _, _, _, _, _, _, _, _, _, _, _, _, _, _, _, _, _, _, _, _, _, _, _, _, _, _, _, _, _, _, _, _, _, _, _, _, _, _, _, _, _, _, _, _, _, _, _, _, _, _, _, _, _, _, _, _, _, _, _, _, _, _, _, _, _, _, _, _, _, _, _, _, _, _, _, _, _, _, _, _, _, _, _, _, _, _, _, _, _, _, _, _, _, _, _, _, _, _, _, _, _], rfl, ?_⟩
              refine wp_region rfl rfl ?_
              refine wo_move (v := .ref _ _ _ _ _ _) rfl rfl rfl rfl rfl (fun h => AV.noConfusion h) ?_
              refine wo_mpv rfl rfl rfl rfl rfl ?_
              refine wo_iaddr (v := .eptr 2 0 (List.length [(l[j]).plain]) 4 i 0) rfl rfl rfl rfl ((iaddr_ref (j := i) t31 t40 rfl (by omega) rfl).trans (by rw [Nat.zero_add])) ?_
              refine wo_faddr t40 t3 rfl rfl rfl rfl rfl rfl rfl ?_
              refine wo_storeB (H' := [_, _, _]) rfl rfl rfl (store_kind rfl hrl hfl2 (by omega) hr4) rfl rfl rfl ?_
              refine wo_nil ?_
              refine ⟨[_, _, _, _, _, _, _, _, _, _, _, _, _, _, _, _, _, _, _, _, _, _, _, _, _, _, _, _, _, _, _, _, _, _, _, _, _, _, _, _, _, _, _, _, _, _, _, _, _, _, _, _, _, _, _, _, _, _, _, _, _, _, _, _, _, _, _, _, _, _, _, _, _, _, _, _, _, _, _, _, _, _, _, _, _, _, _, _, _, _, _, _, _, _, _, _, _, _, _, _, _, _, _, _, _, _, _, _, _, _, _, _, _, _, _, _, _, _, _, _, _], rfl, ?_⟩
              refine wp_region rfl rfl ?_
              refine wo_bin (v := .pv (.int .i64 ((i + 1 : Nat) : Int))) rfl rfl rfl rfl (iV (by rw [wrapI (by omega) (by omega)]; omega)) ?_
              refine wo_mpv rfl rfl rfl rfl rfl ?_
              refine wo_nil ?_
              refine ⟨[_, _, _, _, _, _, _, _, _, _, _, _, _, _, _, _, _, _, _, _, _, _, _, _, _, _, _, _, _, _, _, _, _, _, _, _, _, _, _, _, _, _, _, _, _, _, _, _, _, _, _, _, _, _, _, _, _, _, _, _, _, _, _, _, _, _, _, _, _, _, _, _, _, _, _, _, _, _, _, _, _, _, _, _, _, _, _, _, _, _, _, _, _, _, _, _, _, _, _, _, _, _, _, _, _, _, _, _, _, _, _, _, _, _, _, _, _, _, _, _, _], rfl, ?_⟩
              refine ⟨_, _, tidy_norm (t' := [_, _, _, _, _, _, _, _, _, _, _, _, _, _, _, _, _, _, _, _, _, _, _, _, _, _, _, _, _, _, _, _, _, _, _, _, _, _, _, _, _, _, _, _, _, _, _, _, _, _, _, _, _, _, _, _, _, _, _, _, _, _, _, _, _, _, _, _, _, _, _, _, _, _, _, _, _, _, _, _, _, _, _, _, _, _, _, _, _, _, _, _, _, _, _, _, _, _, _, _, _, _, _, _, _, _, _, _, _, _, _, _, _, _, _, _, _, _, _, _, _]) rfl rfl rfl, k2 - 1, by omega, i + 1, setK rows i (.int .i64 99), List.length [(l[j]).plain], by omega, by rw [setK_len]; exact hrl, setK_4 _ (by omega) hr4, by omega, rfl, rfl⟩
            ·
              refine wo_nil ?_
              refine ⟨[_, _, _, _, _, _, _, _, _, _, _, _, _, _, _, _, _, _, _, _, _, _, _, _, _, _, _, _, _, _, _, _, _, _, _, _, _, _, _, _, _, _, _, _, _, _, _, _, _, _, _, _, _, _, _, _, _, _, _, _, _, _, _, _, _, _, _, _, _, _, _, _, _, _, _, _, _, _, _, _, _, _, _, _, _, _, _, _, _, _, _, _, _, _, _, _, _, _, _, _, _, _, _, _, _, _, _, _, _, _, _, _, _, _, _, _, _, _, _, _, _], rfl, ?_⟩
              refine wp_seq ?_
              refine wp_false rfl ?_
              refine wp_exit ?_
              refine wp_region rfl rfl ?_
              refine wo_mpv rfl rfl rfl rfl rfl ?_
              refine wo_bin (v := .pv (.int .i64 ((j + 1 : Nat) : Int))) rfl rfl rfl rfl (iV (by rw [wrapI (by omega) (by omega)]; omega)) ?_
              refine wo_apv rfl rfl rfl rfl rfl ?_
              refine wo_nil ?_
              refine ⟨[_, _, _, _, _, _, _, _, _, _, _, _, _, _, _, _, _, _, _, _, _, _, _, _, _, _, _, _, _, _, _, _, _, _, _, _, _, _, _, _, _, _, _, _, _, _, _, _, _, _, _, _, _, _, _, _, _, _, _, _, _, _, _, _, _, _, _, _, _, _, _, _, _, _, _, _, _, _, _, _, _, _, _, _, _, _, _, _, _, _, _, _, _, _, _, _, _, _, _, _, _, _, _, _, _, _, _, _, _, _, _, _, _, _, _, _, _, _, _, _, _], rfl, ?_⟩
              refine ⟨[.pv p, .pv (.int .i64 size), .pv q, .any, .any, .any, .any, .ptr 0 0, .any, .pv (.sl ((feedM V.rplain size b sn l[j] (dr2 draws j)).map V.row)), .pv (.int .i64 ((sn + 1 : Nat) : Int)), .pv (.int .i64 ((j + 1 : Nat) : Int)), .any, .any, .any, .any, .any, .any, .any, .any, .any, .any, .any, .any, .any, .any, .any, .any, .any, .any, .any, .any, .any, .any, .any, .any, .any, .any, .any, .any, .any, .any, .any, .any, .any, .any, .any, .any, .any, .any, .any, .any, .any, .any, .any, .any, .any, .any, .any, .any, .any, .any, .any, .any, .any, .any, .any, .any, .any, .any, .any, .any, .any, .any, .any, .any, .any, .any, .any, .any, .any, .any, .any, .any, .any, .any, .any, .any, .any, .any, .any, .any, .any, .any, .any, .any, .any, .any, .any, .any, .any, .any, .any, .any, .any, .any, .any, .any, .any, .any, .any, .any, .any, .any, .any, .any, .any, .any, .any, .any, .any], [RX size (sn + 1) (VR 1 [(l[j]).plain]), VB [(l[j]).plain] 0], tidy_ren (t' := [_, _, _, _, _, _, _, _, _, _, _, _, _, _, _, _, _, _, _, _, _, _, _, _, _, _, _, _, _, _, _, _, _, _, _, _, _, _, _, _, _, _, _, _, _, _, _, _, _, _, _, _, _, _, _, _, _, _, _, _, _, _, _, _, _, _, _, _, _, _, _, _, _, _, _, _, _, _, _, _, _, _, _, _, _, _, _, _, _, _, _, _, _, _, _, _, _, _, _, _, _, _, _, _, _, _, _, _, _, _, _, _, _, _, _, _, _, _, _, _, _]) (order := [0, 1]) (bs := [_, _]) rfl rfl rfl (by kernel_rfl) (by kernel_rfl) rfl (by kernel_rfl), k - 1, by omega, j + 1, (sn + 1), [(l[j]).plain], (feedM V.rplain size b sn l[j] (dr2 draws j)), (.sl ((feedM V.rplain size b sn l[j] (dr2 draws j)).map V.row)), 0, by omega, by omega, la2, ?_, oa2, ob2, hab2, hpb2, rfl, ?_⟩
              · first | exact hfl | (simp; done) | (simp; omega)
              · refine .inr ⟨?_, rfl⟩; first | exact hne | (simp; done) | (intro h; apply hne; simpa using h)
      ·
        refine wo_pick (v := .pv _) rfl rfl rfl rfl rfl rfl ?_
        refine wo_nil ?_
        refine ⟨[_, _, _, _, _, _, _, _, _, _, _, _, _, _, _, _, _, _, _, _, _, _, _, _, _, _, _, _, _, _, _, _, _, _, _, _, _, _, _, _, _, _, _, _, _, _, _, _, _, _, _, _, _, _, _, _, _, _, _, _, _, _, _, _, _, _, _, _, _, _, _, _, _, _, _, _, _, _, _, _, _, _, _, _, _, _, _, _, _, _, _, _, _, _, _, _, _, _, _, _, _, _, _, _, _, _, _, _, _, _, _, _, _, _, _, _, _, _, _, _, _], rfl, ?_⟩
        refine wp_false rfl ?_
        refine wp_exit ?_
        refine wp_seq ?_
        refine wp_region rfl rfl ?_
        refine wo_call (v := .pv (.bool true)) (H' := [_]) rfl rfl rfl rfl rfl rfl ((cl18 _ _ _ _).trans (callPure_pv rfl (fun _ => rfl) hw)) rfl rfl rfl ?_
        refine wo_apv rfl rfl rfl rfl rfl ?_
        refine wo_nil ?_
        refine ⟨[_, _, _, _, _, _, _, _, _, _, _, _, _, _, _, _, _, _, _, _, _, _, _, _, _, _, _, _, _, _, _, _, _, _, _, _, _, _, _, _, _, _, _, _, _, _, _, _, _, _, _, _, _, _, _, _, _, _, _, _, _, _, _, _, _, _, _, _, _, _, _, _, _, _, _, _, _, _, _, _, _, _, _, _, _, _, _, _, _, _, _, _, _, _, _, _, _, _, _, _, _, _, _, _, _, _, _, _, _, _, _, _, _, _, _, _, _, _, _, _, _], rfl, ?_⟩
        refine wp_ret ?_
        exact ⟨trivial, _, rfl, leave_pure⟩
    ·
      refine wo_mpv rfl rfl rfl rfl rfl ?_
      refine wo_off rfl rfl rfl ?_
      refine wo_off rfl rfl rfl ?_
      refine wo_pick (v := .pv _) rfl rfl rfl rfl rfl rfl ?_
      refine wo_nil ?_
      refine ⟨[_, _, _, _, _, _, _, _, _, _, _, _, _, _, _, _, _, _, _, _, _, _, _, _, _, _, _, _, _, _, _, _, _, _, _, _, _, _, _, _, _, _, _, _, _, _, _, _, _, _, _, _, _, _, _, _, _, _, _, _, _, _, _, _, _, _, _, _, _, _, _, _, _, _, _, _, _, _, _, _, _, _, _, _, _, _, _, _, _, _, _, _, _, _, _, _, _, _, _, _, _, _, _, _, _, _, _, _, _, _, _, _, _, _, _, _, _, _, _, _, _], rfl, ?_⟩
      refine wp_false rfl ?_
      refine wp_exit ?_
      refine wp_seq ?_
      refine wp_region rfl rfl ?_
      refine wo_call (v := .pv (.bool true)) (H' := [_]) rfl rfl rfl rfl rfl rfl ((cl18 _ _ _ _).trans (callPure_pv rfl (fun _ => rfl) hw)) rfl rfl rfl ?_
      refine wo_apv rfl rfl rfl rfl rfl ?_
      refine wo_nil ?_
      refine ⟨[_, _, _, _, _, _, _, _, _, _, _, _, _, _, _, _, _, _, _, _, _, _, _, _, _, _, _, _, _, _, _, _, _, _, _, _, _, _, _, _, _, _, _, _, _, _, _, _, _, _, _, _, _, _, _, _, _, _, _, _, _, _, _, _, _, _, _, _, _, _, _, _, _, _, _, _, _, _, _, _, _, _, _, _, _, _, _, _, _, _, _, _, _, _, _, _, _, _, _, _, _, _, _, _, _, _, _, _, _, _, _, _, _, _, _, _, _, _, _, _, _], rfl, ?_⟩
      refine wp_ret ?_
      exact ⟨trivial, _, rfl, leave_pure⟩
  ·
    refine wp_seq ?_
    refine wp_seq ?_
    refine wp_region rfl rfl ?_
    refine wo_mpv rfl rfl rfl rfl rfl ?_
    refine wo_mpv rfl rfl rfl rfl rfl ?_
    refine wo_len (ln := l.length) t31 rfl rfl rfl rfl rfl rfl rfl (hp.len 40) rfl ?_
    refine wo_bsplit rfl rfl rfl rfl rfl (fun c9_3 => ?_) (fun c9_3 => ?_)
    ·
      refine wo_mpv rfl rfl rfl rfl rfl ?_
      refine wo_mpv rfl rfl rfl rfl rfl ?_
      refine wo_bsplit rfl rfl rfl rfl rfl (fun c9_6 => ?_) (fun c9_6 => ?_)
      ·
        refine wo_pick (v := .pv _) rfl rfl rfl rfl rfl rfl ?_
        refine wo_nil ?_
        refine ⟨[_, _, _, _, _, _, _, _, _, _, _, _, _, _, _, _, _, _, _, _, _, _, _, _, _, _, _, _, _, _, _, _, _, _, _, _, _, _, _, _, _, _, _, _, _, _, _, _, _, _, _, _, _, _, _, _, _, _, _, _, _, _, _, _, _, _, _, _, _, _, _, _, _, _, _, _, _, _, _, _, _, _, _, _, _, _, _, _, _, _, _, _, _, _, _, _, _, _, _, _, _, _, _, _, _, _, _, _, _, _, _, _, _, _, _, _, _, _, _, _, _], rfl, ?_⟩
        refine wp_true rfl ?_
        refine wp_skip ?_
        refine wp_seq ?_
        refine wp_block ?_
        refine wp_seq ?_
        refine wp_region rfl rfl ?_
        refine wo_mpv rfl rfl rfl rfl rfl ?_
        have hjl : j < l.length := by omega
        have hok := ho _ (List.getElem_mem hjl)
        by_cases hjd : j < draws.length
        ·
          refine wo_conv (v := .pv (.int .u64 (j : Nat))) rfl rfl rfl rfl ((wconv t3 t22 rfl rfl).trans (iV (wrapU64 (by omega) (by omega)))) rfl ?_
          refine wo_apv rfl rfl rfl rfl rfl ?_
          refine wo_nil ?_
          refine ⟨[_, _, _, _, _, _, _, _, _, _, _, _, _, _, _, _, _, _, _, _, _, _, _, _, _, _, _, _, _, _, _, _, _, _, _, _, _, _, _, _, _, _, _, _, _, _, _, _, _, _, _, _, _, _, _, _, _, _, _, _, _, _, _, _, _, _, _, _, _, _, _, _, _, _, _, _, _, _, _, _, _, _, _, _, _, _, _, _, _, _, _, _, _, _, _, _, _, _, _, _, _, _, _, _, _, _, _, _, _, _, _, _, _, _, _, _, _, _, _, _, _], rfl, ?_⟩
          refine wp_seq ?_
          refine wp_seq ?_
          refine wp_region rfl rfl ?_
          refine wo_mpv rfl rfl rfl rfl rfl ?_
          refine wo_mpv rfl rfl rfl rfl rfl ?_
          refine wo_len (ln := draws.length) t32 rfl rfl rfl rfl rfl rfl rfl (hq.len 22) rfl ?_
          refine wo_bin (v := .pv (.bool true)) rfl rfl rfl rfl (bT (by omega)) ?_
          refine wo_nil ?_
          refine ⟨[_, _, _, _, _, _, _, _, _, _, _, _, _, _, _, _, _, _, _, _, _, _, _, _, _, _, _, _, _, _, _, _, _, _, _, _, _, _, _, _, _, _, _, _, _, _, _, _, _, _, _, _, _, _, _, _, _, _, _, _, _, _, _, _, _, _, _, _, _, _, _, _, _, _, _, _, _, _, _, _, _, _, _, _, _, _, _, _, _, _, _, _, _, _, _, _, _, _, _, _, _, _, _, _, _, _, _, _, _, _, _, _, _, _, _, _, _, _, _, _, _], rfl, ?_⟩
          refine wp_true rfl ?_
          refine wp_region rfl rfl ?_
          refine wo_mpv rfl rfl rfl rfl rfl ?_
          refine wo_mpv rfl rfl rfl rfl rfl ?_
          refine wo_iaddr (v := .pv (.ptr (rowU draws[j]) 0)) rfl rfl rfl rfl (hq.get (i := j) hjd rfl) ?_
          refine wo_load (v := .pv (.int .u64 ((dr2 draws j) : Nat))) t22 rfl rfl rfl rfl ((by rw [← dr2_in hjd]; rfl)) rfl ?_
          refine wo_apv rfl rfl rfl rfl rfl ?_
          refine wo_nil ?_
          refine ⟨[_, _, _, _, _, _, _, _, _, _, _, _, _, _, _, _, _, _, _, _, _, _, _, _, _, _, _, _, _, _, _, _, _, _, _, _, _, _, _, _, _, _, _, _, _, _, _, _, _, _, _, _, _, _, _, _, _, _, _, _, _, _, _, _, _, _, _, _, _, _, _, _, _, _, _, _, _, _, _, _, _, _, _, _, _, _, _, _, _, _, _, _, _, _, _, _, _, _, _, _, _, _, _, _, _, _, _, _, _, _, _, _, _, _, _, _, _, _, _, _, _], rfl, ?_⟩
          refine wp_seq ?_
          refine wp_region rfl rfl ?_
          refine wo_move (v := .ptr _ _) rfl rfl rfl rfl rfl (fun h => AV.noConfusion h) ?_
          refine wo_mpv rfl rfl rfl rfl rfl ?_
          refine wo_mpv rfl rfl rfl rfl rfl ?_
          refine wo_iaddr (v := .pv (.ptr (l[j]).row 0)) rfl rfl rfl rfl (hp.get (i := j) hjl rfl) ?_
          refine wo_load (v := .agg [_, _, _, _]) t40 rfl rfl rfl rfl rfl rfl ?_
          refine wo_mpv rfl rfl rfl rfl rfl ?_
          obtain ⟨px, hone⟩ := rof_one hok 1500 (by omega)
          have hc : (l[j]).right = false ∨ ((l[j]).right = true ∧ a.length < size) ∨ ((l[j]).right = true ∧ a.length = size ∧ (dr2 draws j) % (sn + 1) < size) ∨ ((l[j]).right = true ∧ a.length = size ∧ ¬ (dr2 draws j) % (sn + 1) < size) := by
            cases h : (l[j]).right <;> simp <;> omega
          rcases hc with hr | ⟨hr, hlt⟩ | ⟨hr, hlt, hkk⟩ | ⟨hr, hlt, hkk⟩
          ·
            rw [if_neg (by rw [hr]; simp)] at hone
            have hab2 := hab
            have oa2 := oa
            have ob2 := ob
            have la2 := hal
            have hpb2 := hpb
            refine wo_call (v := .pv (.int .i64 2)) (H' := [_, _]) rfl rfl rfl rfl rfl rfl ((cl19 _ _ _ _).trans (callRef_gen (R := [0, 1]) (bs := [_, _]) (bs1 := [_, _]) (bs3 := [_, _]) rfl rfl rfl rfl (feed_bad_ref h1 hok hr (dr2 draws j) _ (by omega)) rfl rfl rfl rfl)) rfl rfl rfl ?_
            refine wo_apv rfl rfl rfl rfl rfl ?_
            refine wo_nil ?_
            refine ⟨[_, _, _, _, _, _, _, _, _, _, _, _, _, _, _, _, _, _, _, _, _, _, _, _, _, _, _, _, _, _, _, _, _, _, _, _, _, _, _, _, _, _, _, _, _, _, _, _, _, _, _, _, _, _, _, _, _, _, _, _, _, _, _, _, _, _, _, _, _, _, _, _, _, _, _, _, _, _, _, _, _, _, _, _, _, _, _, _, _, _, _, _, _, _, _, _, _, _, _, _, _, _, _, _, _, _, _, _, _, _, _, _, _, _, _, _, _, _, _, _, _], rfl, ?_⟩
            refine wp_seq ?_
            refine wp_seq ?_
            refine wp_region rfl rfl ?_
            refine wo_mpv rfl rfl rfl rfl rfl ?_
            refine wo_mpv rfl rfl rfl rfl rfl ?_
            refine wo_mpv rfl rfl rfl rfl rfl ?_
            refine wo_bin (v := .pv (.int .i64 ((j + 1 : Nat) : Int))) rfl rfl rfl rfl (iV (by rw [wrapI (by omega) (by omega)]; omega)) ?_
            refine wo_slice (v := .pv (.sl [(l[j]).row])) t31 t40 rfl rfl rfl rfl hp.noStr (hp.slice1 hjl) ?_
            refine wo_call (v := .tup [.pv px, .pv (.int .i64 2)]) (H' := [_, _]) rfl rfl rfl rfl rfl rfl ((cl20 _ _ _ _).trans (callPure_any rfl (fun _ => rfl) rfl hone)) rfl rfl rfl ?_
            refine wo_move (v := .tup _) rfl rfl rfl rfl rfl (fun h => AV.noConfusion h) ?_
            refine wo_extract (v := .pv _) rfl rfl rfl rfl rfl rfl ?_
            refine wo_extract (v := .pv _) rfl rfl rfl rfl rfl rfl ?_
            refine wo_apv rfl rfl rfl rfl rfl ?_
            refine wo_apv rfl rfl rfl rfl rfl ?_
            refine wo_nil ?_
            refine ⟨[_, _, _, _, _, _, _, _, _, _, _, _, _, _, _, _, _, _, _, _, _, _, _, _, _, _, _, _, _, _, _, _, _, _, _, _, _, _, _, _, _, _, _, _, _, _, _, _, _, _, _, _, _, _, _, _, _, _, _, _, _, _, _, _, _, _, _, _, _, _, _, _, _, _, _, _, _, _, _, _, _, _, _, _, _, _, _, _, _, _, _, _, _, _, _, _, _, _, _, _, _, _, _, _, _, _, _, _, _, _, _, _, _, _, _, _, _, _, _, _, _], rfl, ?_⟩
            refine wp_seq ?_
            refine wp_region rfl rfl ?_
            refine wo_mpv rfl rfl rfl rfl rfl ?_
            refine wo_bin (v := .pv (.bool true)) rfl rfl rfl rfl (nT (by decide)) ?_
            refine wo_nil ?_
            refine ⟨[_, _, _, _, _, _, _, _, _, _, _, _, _, _, _, _, _, _, _, _, _, _, _, _, _, _, _, _, _, _, _, _, _, _, _, _, _, _, _, _, _, _, _, _, _, _, _, _, _, _, _, _, _, _, _, _, _, _, _, _, _, _, _, _, _, _, _, _, _, _, _, _, _, _, _, _, _, _, _, _, _, _, _, _, _, _, _, _, _, _, _, _, _, _, _, _, _, _, _, _, _, _, _, _, _, _, _, _, _, _, _, _, _, _, _, _, _, _, _, _, _], rfl, ?_⟩
            refine wp_true rfl ?_
            refine wp_seq ?_
            refine wp_region rfl rfl ?_
            refine wo_mpv rfl rfl rfl rfl rfl ?_
            refine wo_mpv rfl rfl rfl rfl rfl ?_
            refine wo_bin (v := .pv (.bool false)) rfl rfl rfl rfl (nF rfl) ?_
            refine wo_nil ?_
            refine ⟨[_, _, _, _, _, _, _, _, _, _, _, _, _, _, _, _, _, _, _, _, _, _, _, _, _, _, _, _, _, _, _, _, _, _, _, _, _, _, _, _, _, _, _, _, _, _, _, _, _, _, _, _, _, _, _, _, _, _, _, _, _, _, _, _, _, _, _, _, _, _, _, _, _, _, _, _, _, _, _, _, _, _, _, _, _, _, _, _, _, _, _, _, _, _, _, _, _, _, _, _, _, _, _, _, _, _, _, _, _, _, _, _, _, _, _, _, _, _, _, _, _], rfl, ?_⟩
            refine wp_false rfl ?_
            refine wp_skip ?_
            refine wp_seq ?_
            refine wp_region rfl rfl ?_
            refine wo_move (v := .ptr _ _) rfl rfl rfl rfl rfl (fun h => AV.noConfusion h) ?_
            refine wo_call (v := VR 2 a) (H' := [_, _, _]) rfl rfl rfl rfl rfl rfl ((cl22 _ _ _ _).trans (callRef_gen (R := [0, 1]) (bs := [_, _]) (bs1 := [_, _]) (bs3 := [_, _, _]) rfl rfl rfl rfl (sample_ref (l := a) (fl := fl) (by omega) (by first | exact hfl | (simp; done) | (simp; omega)) _ (by omega)) rfl rfl rfl rfl)) rfl rfl rfl ?_
            refine wo_assign (v := .ref _ _ _ _ _ _) rfl rfl rfl rfl rfl (fun h => AV.noConfusion h) ?_
            refine wo_nil ?_
            refine ⟨[_, _, _, _, _, _, _, _, _, _, _, _, _, _, _, _, _, _, _, _, _, _, _, _, _, _, _, _, _, _, _, _, _, _, _, _, _, _, _, _, _, _, _, _, _, _, _, _, _, _, _, _, _, _, _, _, _, _, _, _, _, _, _, _, _, _, _, _, _, _, _, _, _, _, _, _, _, _, _, _, _, _, _, _, _, _, _, _, _, _, _, _, _, _, _, _, _, _, _, _, _, _, _, _, _, _, _, _, _, _, _, _, _, _, _, _, _, _, _, _, _], rfl, ?_⟩
            refine wp_seq ?_
            refine wp_seq ?_
            refine wp_region rfl rfl ?_
            refine wo_move (v := .ref _ _ _ _ _ _) rfl rfl rfl rfl rfl (fun h => AV.noConfusion h) ?_
            refine wo_mpv rfl rfl rfl rfl rfl ?_
            refine wo_call (v := .pv (.bool true)) (H' := [_, _, _]) rfl rfl rfl rfl rfl rfl ((cl23 _ _ _ _).trans (callPure_vr (l := a) (fl := List.length a) (st := 0) (fz := 0) rfl (Nat.le_refl _) rfl (fun _ => rfl) rfl (exactL_ok (.inl rfl) hpb2 oa2 ob2 hab2.1 hab2.2 (by omega) _ (by omega)))) rfl rfl rfl ?_
            refine wo_un rfl rfl rfl rfl rfl ?_
            refine wo_mpv rfl rfl rfl rfl rfl ?_
            refine wo_move (v := .ptr _ _) rfl rfl rfl rfl rfl (fun h => AV.noConfusion h) ?_
            refine wo_call (v := .pv _) (H' := [_, _, _]) rfl rfl rfl rfl rfl rfl ((cl24 _ _ _ _).trans (callRef_gen (R := [0, 1]) (bs := [_, _]) (bs1 := [_, _]) (bs3 := [_, _]) rfl rfl rfl rfl (seen_ref _ _ _ a _ (by omega)) rfl rfl rfl rfl)) rfl rfl rfl ?_
            refine wo_mpv rfl rfl rfl rfl rfl ?_
            refine wo_bin (v := .pv (.bool false)) rfl rfl rfl rfl (nF rfl) ?_
            refine wo_pick (v := .pv _) rfl rfl rfl rfl rfl rfl ?_
            refine wo_nil ?_
            refine ⟨[_, _, _, _, _, _, _, _, _, _, _, _, _, _, _, _, _, _, _, _, _, _, _, _, _, _, _, _, _, _, _, _, _, _, _, _, _, _, _, _, _, _, _, _, _, _, _, _, _, _, _, _, _, _, _, _, _, _, _, _, _, _, _, _, _, _, _, _, _, _, _, _, _, _, _, _, _, _, _, _, _, _, _, _, _, _, _, _, _, _, _, _, _, _, _, _, _, _, _, _, _, _, _, _, _, _, _, _, _, _, _, _, _, _, _, _, _, _, _, _, _], rfl, ?_⟩
            refine wp_false rfl ?_
            refine wp_skip ?_
            refine wp_seq ?_
            refine wp_region rfl rfl ?_
            refine wo_move (v := .ref _ _ _ _ _ _) rfl rfl rfl rfl rfl (fun h => AV.noConfusion h) ?_
            refine wo_len t31 rfl rfl rfl rfl rfl rfl rfl rfl rfl ?_
            refine wo_mpv rfl rfl rfl rfl rfl ?_
            refine wo_nil ?_
            refine ⟨[_, _, _, _, _, _, _, _, _, _, _, _, _, _, _, _, _, _, _, _, _, _, _, _, _, _, _, _, _, _, _, _, _, _, _, _, _, _, _, _, _, _, _, _, _, _, _, _, _, _, _, _, _, _, _, _, _, _, _, _, _, _, _, _, _, _, _, _, _, _, _, _, _, _, _, _, _, _, _, _, _, _, _, _, _, _, _, _, _, _, _, _, _, _, _, _, _, _, _, _, _, _, _, _, _, _, _, _, _, _, _, _, _, _, _, _, _, _, _, _, _], rfl, ?_⟩
            refine wp_block ?_
            refine wp_loop (fun k2 t H => ∃ (i : Nat) (rows : List (List PV)) (fl2 : Nat), i + k2 = List.length a ∧ rows.length = List.length a ∧ (∀ r ∈ rows, r.length = 4) ∧ fl2 ≤ List.length a ∧ t = [.pv p, .pv (.int .i64 size), .pv q, .any, .any, .any, .any, .ptr 0 0, .any, .pv pb, .pv (.int .i64 (sn : Nat)), .pv (.int .i64 (j : Nat)), .any, .any, .any, .any, VR 2 a, .any, .any, .any, .any, .any, .any, .any, .any, .any, .any, .any, .any, .any, .any, .any, .any, .any, .any, .any, .any, .any, .any, .any, .any, .any, .any, .any, .any, .any, .any, .any, .any, .any, .any, .any, .any, .any, .any, .any, .any, .any, .any, .any, .any, .any, .any, .any, .any, .any, .any, .any, .any, .any, .any, .any, .any, .any, .any, .any, .any, .any, .any, .any, .any, .any, .any, .any, .any, .any, .any, .any, .any, .any, .any, .any, .any, .any, .any, .any, .any, .any, .any, .any, .any, .any, .any, .any, .any, .any, .any, .any, .any, .any, .any, .pv (.int .i64 (List.length a)), .pv (.int .i64 (i : Nat)), .any, .any, .any, .any, .any, .any, .any, .any] ∧ H = [RX size sn (VR 1 a), VB a fl, RB4 rows fl2]) (List.length a) ⟨0, List.map V.row a, List.length a, by omega, by simp, rows4 _, by omega, rfl, rfl⟩ (by omega) ?_
            rintro k2 _ _ hk2 ⟨i, rows, fl2, hik, hrl, hr4, hfl2, rfl, rfl⟩
            refine wp_seq ?_
            refine wp_region rfl rfl ?_
            refine wo_bsplit rfl rfl rfl rfl rfl (fun c27_0 => ?_) (fun c27_0 => ?_)
            ·
              refine wo_nil ?_
              refine ⟨[_, _, _, _, _, _, _, _, _, _, _, _, _, _, _, _, _, _, _, _, _, _, _, _, _, _, _, _, _, _, _, _, _, _, _, _, _, _, _, _, _, _, _, _, _, _, _, _, _, _, _, _, _, _, _, _, _, _, _, _, _, _, _, _, _, _, _, _, _, _, _, _, _, _, _, _, _, _, _, _, _, _, _, _, _, _, _, _, _, _, _, _, _, _, _, _, _, _, _, _, _, _, _, _, _, _, _, _, _, _, _, _, _, _, _, _, _, _, _, _, _], rfl, ?_⟩
              refine wp_seq ?_
              refine wp_true rfl ?_
              refine wp_skip ?_
              refine wp_seq ?_
              refine wp_block ?_
              refine wp_seq ?_
              refine wp_region rfl rfl ?_
              refine wo_mpv rfl rfl rfl rfl rfl ?_
              refine wo_apv rfl rfl rfl rfl rfl ?_
              refine wo_nil ?_
              refine ⟨[_, _, _, _, _, _, _, _, _, _, _, _, _, _, _, _, _, _, _, _, _, _, _, _, _, _, _, _, _, _, _, _, _, _, _, _, _, _, _, _, _, _, _, _, _, _, _, _, _, _, _, _, _, _, _, _, _, _, _, _, _, _, _, _, _, _, _, _, _, _, _, _, _, _, _, _, _, _, _, _, _, _, _, _, _, _, _, _, _, _, _, _, _, _, _, _, _, _, _, _, _, _, _, _, _, _, _, _, _, _, _, _, _, _, _, _, _, _, _, _, _], rfl, ?_⟩
              refine wp_region rfl rfl ?_
              refine wo_move (v := .ref _ _ _ _ _ _) rfl rfl rfl rfl rfl (fun h => AV.noConfusion h) ?_
              refine wo_mpv rfl rfl rfl rfl rfl ?_
              refine wo_iaddr (v := .eptr 2 0 (List.length a) 4 i 0) rfl rfl rfl rfl ((iaddr_ref (j := i) t31 t40 rfl (by omega) rfl).trans (by rw [Nat.zero_add])) ?_
              refine wo_faddr t40 t3 rfl rfl rfl rfl rfl rfl rfl ?_
              refine wo_storeB (H' := [_, _, _]) rfl rfl rfl (store_kind rfl hrl hfl2 (by omega) hr4) rfl rfl rfl ?_
              refine wo_nil ?_
              refine ⟨[_, _, _, _, _, _, _, _, _, _, _, _, _, _, _, _, _, _, _, _, _, _, _, _, _, _, _, _, _, _, _, _, _, _, _, _, _, _, _, _, _, _, _, _, _, _, _, _, _, _, _, _, _, _, _, _, _, _, _, _, _, _, _, _, _, _, _, _, _, _, _, _, _, _, _, _, _, _, _, _, _, _, _, _, _, _, _, _, _, _, _, _, _, _, _, _, _, _, _, _, _, _, _, _, _, _, _, _, _, _, _, _, _, _, _, _, _, _, _, _, _], rfl, ?_⟩
              refine wp_region rfl rfl ?_
              refine wo_bin (v := .pv (.int .i64 ((i + 1 : Nat) : Int))) rfl rfl rfl rfl (iV (by rw [wrapI (by omega) (by omega)]; omega)) ?_
              refine wo_mpv rfl rfl rfl rfl rfl ?_
              refine wo_nil ?_
              refine ⟨[_, _, _, _, _, _, _, _, _, _, _, _, _, _, _, _, _, _, _, _, _, _, _, _, _, _, _, _, _, _, _, _, _, _, _, _, _, _, _, _, _, _, _, _, _, _, _, _, _, _, _, _, _, _, _, _, _, _, _, _, _, _, _, _, _, _, _, _, _, _, _, _, _, _, _, _, _, _, _, _, _, _, _, _, _, _, _, _, _, _, _, _, _, _, _, _, _, _, _, _, _, _, _, _, _, _, _, _, _, _, _, _, _, _, _, _, _, _, _, _, _], rfl, ?_⟩
              refine ⟨_, _, tidy_norm (t' := [_, _, _, _, _, _, _, _, _, _, _, _, _, _, _, _, _, _, _, _, _, _, _, _, _, _, _, _, _, _, _, _, _, _, _, _, _, _, _, _, _, _, _, _, _, _, _, _, _, _, _, _, _, _, _, _, _, _, _, _, _, _, _, _, _, _, _, _, _, _, _, _, _, _, _, _, _, _, _, _, _, _, _, _, _, _, _, _, _, _, _, _, _, _, _, _, _, _, _, _, _, _, _, _, _, _, _, _, _, _, _, _, _, _, _, _, _, _, _, _, _]) rfl rfl rfl, k2 - 1, by omega, i + 1, setK rows i (.int .i64 99), List.length a, by omega, by rw [setK_len]; exact hrl, setK_4 _ (by omega) hr4, by omega, rfl, rfl⟩
            ·
              refine wo_nil ?_
              refine ⟨[_, _, _, _, _, _, _, _, _, _, _, _, _, _, _, _, _, _, _, _, _, _, _, _, _, _, _, _, _, _, _, _, _, _, _, _, _, _, _, _, _, _, _, _, _, _, _, _, _, _, _, _, _, _, _, _, _, _, _, _, _, _, _, _, _, _, _, _, _, _, _, _, _, _, _, _, _, _, _, _, _, _, _, _, _, _, _, _, _, _, _, _, _, _, _, _, _, _, _, _, _, _, _, _, _, _, _, _, _, _, _, _, _, _, _, _, _, _, _, _, _], rfl, ?_⟩
              refine wp_seq ?_
              refine wp_false rfl ?_
              refine wp_exit ?_
              refine wp_region rfl rfl ?_
              refine wo_mpv rfl rfl rfl rfl rfl ?_
              refine wo_bin (v := .pv (.int .i64 ((j + 1 : Nat) : Int))) rfl rfl rfl rfl (iV (by rw [wrapI (by omega) (by omega)]; omega)) ?_
              refine wo_apv rfl rfl rfl rfl rfl ?_
              refine wo_nil ?_
              refine ⟨[_, _, _, _, _, _, _, _, _, _, _, _, _, _, _, _, _, _, _, _, _, _, _, _, _, _, _, _, _, _, _, _, _, _, _, _, _, _, _, _, _, _, _, _, _, _, _, _, _, _, _, _, _, _, _, _, _, _, _, _, _, _, _, _, _, _, _, _, _, _, _, _, _, _, _, _, _, _, _, _, _, _, _, _, _, _, _, _, _, _, _, _, _, _, _, _, _, _, _, _, _, _, _, _, _, _, _, _, _, _, _, _, _, _, _, _, _, _, _, _, _], rfl, ?_⟩
              refine ⟨[.pv p, .pv (.int .i64 size), .pv q, .any, .any, .any, .any, .ptr 0 0, .any, .pv pb, .pv (.int .i64 (sn : Nat)), .pv (.int .i64 ((j + 1 : Nat) : Int)), .any, .any, .any, .any, .any, .any, .any, .any, .any, .any, .any, .any, .any, .any, .any, .any, .any, .any, .any, .any, .any, .any, .any, .any, .any, .any, .any, .any, .any, .any, .any, .any, .any, .any, .any, .any, .any, .any, .any, .any, .any, .any, .any, .any, .any, .any, .any, .any, .any, .any, .any, .any, .any, .any, .any, .any, .any, .any, .any, .any, .any, .any, .any, .any, .any, .any, .any, .any, .any, .any, .any, .any, .any, .any, .any, .any, .any, .any, .any, .any, .any, .any, .any, .any, .any, .any, .any, .any, .any, .any, .any, .any, .any, .any, .any, .any, .any, .any, .any, .any, .any, .any, .any, .any, .any, .any, .any, .any, .any], [RX size sn (VR 1 a), VB a fl], tidy_ren (t' := [_, _, _, _, _, _, _, _, _, _, _, _, _, _, _, _, _, _, _, _, _, _, _, _, _, _, _, _, _, _, _, _, _, _, _, _, _, _, _, _, _, _, _, _, _, _, _, _, _, _, _, _, _, _, _, _, _, _, _, _, _, _, _, _, _, _, _, _, _, _, _, _, _, _, _, _, _, _, _, _, _, _, _, _, _, _, _, _, _, _, _, _, _, _, _, _, _, _, _, _, _, _, _, _, _, _, _, _, _, _, _, _, _, _, _, _, _, _, _, _, _]) (order := [0, 1]) (bs := [_, _]) rfl rfl rfl (by kernel_rfl) (by kernel_rfl) rfl (by kernel_rfl), k - 1, by omega, j + 1, sn, a, b, pb, fl, by omega, by omega, la2, ?_, oa2, ob2, hab2, hpb2, rfl, ?_⟩
              · first | exact hfl | (simp; done) | (simp; omega)
              · refine .inr ⟨?_, rfl⟩; first | exact hne | (simp; done) | (intro h; apply hne; simpa using h)
          ·
            rw [if_pos hr] at hone
            have hF : feedM V.plain size a sn l[j] (dr2 draws j) = (a ++ [(l[j]).plain]) := by unfold feedM; first | rw [if_pos hlt] | rw [if_neg (by omega), if_pos hkk] | rw [if_neg (by omega), if_neg hkk] | (rw [if_pos (by simp; omega)]; rfl)
            have hab2 : EqL (a ++ [(l[j]).plain]) (feedM V.rplain size b sn l[j] (dr2 draws j)) := hF ▸ feed_eq hab hok size sn (dr2 draws j)
            have oa2 : OkL (a ++ [(l[j]).plain]) := hF ▸ okFeed oa (plain_ok hok)
            have ob2 : OkL (feedM V.rplain size b sn l[j] (dr2 draws j)) := okFeed ob (rright_plain hok)
            have la2 : List.length (a ++ [(l[j]).plain]) ≤ size := hF ▸ feedM_len hal
            have hpb2 : SV (.sl ((feedM V.rplain size b sn l[j] (dr2 draws j)).map V.row)) (feedM V.rplain size b sn l[j] (dr2 draws j)) := .inl rfl
            refine wo_call (v := .pv (.int .i64 0)) (H' := [_, _]) rfl rfl rfl rfl rfl rfl ((cl19 _ _ _ _).trans (callRef_gen (R := [0, 1]) (bs := [_, _]) (bs1 := [_, _]) (bs3 := [_, _]) rfl rfl rfl rfl (feed_add h1 h2 (by omega) hlt hfl hok hr (dr2 draws j) _ (by omega)) rfl rfl rfl rfl)) rfl rfl rfl ?_
            refine wo_apv rfl rfl rfl rfl rfl ?_
            refine wo_nil ?_
            refine ⟨[_, _, _, _, _, _, _, _, _, _, _, _, _, _, _, _, _, _, _, _, _, _, _, _, _, _, _, _, _, _, _, _, _, _, _, _, _, _, _, _, _, _, _, _, _, _, _, _, _, _, _, _, _, _, _, _, _, _, _, _, _, _, _, _, _, _, _, _, _, _, _, _, _, _, _, _, _, _, _, _, _, _, _, _, _, _, _, _, _, _, _, _, _, _, _, _, _, _, _, _, _, _, _, _, _, _, _, _, _, _, _, _, _, _, _, _, _, _, _, _, _], rfl, ?_⟩
            refine wp_seq ?_
            refine wp_seq ?_
            refine wp_region rfl rfl ?_
            refine wo_mpv rfl rfl rfl rfl rfl ?_
            refine wo_mpv rfl rfl rfl rfl rfl ?_
            refine wo_mpv rfl rfl rfl rfl rfl ?_
            refine wo_bin (v := .pv (.int .i64 ((j + 1 : Nat) : Int))) rfl rfl rfl rfl (iV (by rw [wrapI (by omega) (by omega)]; omega)) ?_
            refine wo_slice (v := .pv (.sl [(l[j]).row])) t31 t40 rfl rfl rfl rfl hp.noStr (hp.slice1 hjl) ?_
            refine wo_call (v := .tup [.pv px, .pv (.int .i64 0)]) (H' := [_, _]) rfl rfl rfl rfl rfl rfl ((cl20 _ _ _ _).trans (callPure_any rfl (fun _ => rfl) rfl hone)) rfl rfl rfl ?_
            refine wo_move (v := .tup _) rfl rfl rfl rfl rfl (fun h => AV.noConfusion h) ?_
            refine wo_extract (v := .pv _) rfl rfl rfl rfl rfl rfl ?_
            refine wo_extract (v := .pv _) rfl rfl rfl rfl rfl rfl ?_
            refine wo_apv rfl rfl rfl rfl rfl ?_
            refine wo_apv rfl rfl rfl rfl rfl ?_
            refine wo_nil ?_
            refine ⟨[_, _, _, _, _, _, _, _, _, _, _, _, _, _, _, _, _, _, _, _, _, _, _, _, _, _, _, _, _, _, _, _, _, _, _, _, _, _, _, _, _, _, _, _, _, _, _, _, _, _, _, _, _, _, _, _, _, _, _, _, _, _, _, _, _, _, _, _, _, _, _, _, _, _, _, _, _, _, _, _, _, _, _, _, _, _, _, _, _, _, _, _, _, _, _, _, _, _, _, _, _, _, _, _, _, _, _, _, _, _, _, _, _, _, _, _, _, _, _, _, _], rfl, ?_⟩
            refine wp_seq ?_
            refine wp_region rfl rfl ?_
            refine wo_mpv rfl rfl rfl rfl rfl ?_
            refine wo_bin (v := .pv (.bool false)) rfl rfl rfl rfl (nF rfl) ?_
            refine wo_nil ?_
            refine ⟨[_, _, _, _, _, _, _, _, _, _, _, _, _, _, _, _, _, _, _, _, _, _, _, _, _, _, _, _, _, _, _, _, _, _, _, _, _, _, _, _, _, _, _, _, _, _, _, _, _, _, _, _, _, _, _, _, _, _, _, _, _, _, _, _, _, _, _, _, _, _, _, _, _, _, _, _, _, _, _, _, _, _, _, _, _, _, _, _, _, _, _, _, _, _, _, _, _, _, _, _, _, _, _, _, _, _, _, _, _, _, _, _, _, _, _, _, _, _, _, _, _], rfl, ?_⟩
            refine wp_false rfl ?_
            refine wp_seq ?_
            refine wp_seq ?_
            refine wp_region rfl rfl ?_
            refine wo_mpv rfl rfl rfl rfl rfl ?_
            refine wo_bin (v := .pv (.bool false)) rfl rfl rfl rfl (nF rfl) ?_
            refine wo_nil ?_
            refine ⟨[_, _, _, _, _, _, _, _, _, _, _, _, _, _, _, _, _, _, _, _, _, _, _, _, _, _, _, _, _, _, _, _, _, _, _, _, _, _, _, _, _, _, _, _, _, _, _, _, _, _, _, _, _, _, _, _, _, _, _, _, _, _, _, _, _, _, _, _, _, _, _, _, _, _, _, _, _, _, _, _, _, _, _, _, _, _, _, _, _, _, _, _, _, _, _, _, _, _, _, _, _, _, _, _, _, _, _, _, _, _, _, _, _, _, _, _, _, _, _, _, _], rfl, ?_⟩
            refine wp_false rfl ?_
            refine wp_skip ?_
            refine wp_seq ?_
            refine wp_region rfl rfl ?_
            refine wo_mpv rfl rfl rfl rfl rfl ?_
            refine wo_mpv rfl rfl rfl rfl rfl ?_
            refine wo_mpv rfl rfl rfl rfl rfl ?_
            refine wo_mpv rfl rfl rfl rfl rfl ?_
            refine wo_mpv rfl rfl rfl rfl rfl ?_
            refine wo_iaddr (v := .pv (.ptr (l[j]).row 0)) rfl rfl rfl rfl (hp.get (i := j) hjl rfl) ?_
            refine wo_load (v := .agg [_, _, _, _]) t40 rfl rfl rfl rfl rfl rfl ?_
            refine wo_mpv rfl rfl rfl rfl rfl ?_
            refine wo_call (v := .pv (.sl ((feedM V.rplain size b sn l[j] (dr2 draws j)).map V.row))) (H' := [_, _]) rfl rfl rfl rfl rfl rfl ((cl21 _ _ _ _).trans (callPure_pv rfl (fun _ => rfl) (rfeed_ok hpb h1 h2 (by omega) (by have := hab.1; first | omega | (simp at this; omega)) hok (dr2_lt hd (by omega)) _ (by omega)))) rfl rfl rfl ?_
            refine wo_apv rfl rfl rfl rfl rfl ?_
            refine wo_nil ?_
            refine ⟨[_, _, _, _, _, _, _, _, _, _, _, _, _, _, _, _, _, _, _, _, _, _, _, _, _, _, _, _, _, _, _, _, _, _, _, _, _, _, _, _, _, _, _, _, _, _, _, _, _, _, _, _, _, _, _, _, _, _, _, _, _, _, _, _, _, _, _, _, _, _, _, _, _, _, _, _, _, _, _, _, _, _, _, _, _, _, _, _, _, _, _, _, _, _, _, _, _, _, _, _, _, _, _, _, _, _, _, _, _, _, _, _, _, _, _, _, _, _, _, _, _], rfl, ?_⟩
            refine wp_region rfl rfl ?_
            refine wo_mpv rfl rfl rfl rfl rfl ?_
            refine wo_bin (v := .pv (.int .i64 ((sn + 1 : Nat) : Int))) rfl rfl rfl rfl (iV (by rw [wrapI (by omega) (by omega)]; omega)) ?_
            refine wo_apv rfl rfl rfl rfl rfl ?_
            refine wo_nil ?_
            refine ⟨[_, _, _, _, _, _, _, _, _, _, _, _, _, _, _, _, _, _, _, _, _, _, _, _, _, _, _, _, _, _, _, _, _, _, _, _, _, _, _, _, _, _, _, _, _, _, _, _, _, _, _, _, _, _, _, _, _, _, _, _, _, _, _, _, _, _, _, _, _, _, _, _, _, _, _, _, _, _, _, _, _, _, _, _, _, _, _, _, _, _, _, _, _, _, _, _, _, _, _, _, _, _, _, _, _, _, _, _, _, _, _, _, _, _, _, _, _, _, _, _, _], rfl, ?_⟩
            refine wp_seq ?_
            refine wp_region rfl rfl ?_
            refine wo_move (v := .ptr _ _) rfl rfl rfl rfl rfl (fun h => AV.noConfusion h) ?_
            refine wo_call (v := VR 2 (a ++ [(l[j]).plain])) (H' := [_, _, _]) rfl rfl rfl rfl rfl rfl ((cl22 _ _ _ _).trans (callRef_gen (R := [0, 1]) (bs := [_, _]) (bs1 := [_, _]) (bs3 := [_, _, _]) rfl rfl rfl rfl (sample_ref (l := (a ++ [(l[j]).plain])) (fl := fl) (by omega) (by first | exact hfl | (simp; done) | (simp; omega)) _ (by omega)) rfl rfl rfl rfl)) rfl rfl rfl ?_
            refine wo_assign (v := .ref _ _ _ _ _ _) rfl rfl rfl rfl rfl (fun h => AV.noConfusion h) ?_
            refine wo_nil ?_
            refine ⟨[_, _, _, _, _, _, _, _, _, _, _, _, _, _, _, _, _, _, _, _, _, _, _, _, _, _, _, _, _, _, _, _, _, _, _, _, _, _, _, _, _, _, _, _, _, _, _, _, _, _, _, _, _, _, _, _, _, _, _, _, _, _, _, _, _, _, _, _, _, _, _, _, _, _, _, _, _, _, _, _, _, _, _, _, _, _, _, _, _, _, _, _, _, _, _, _, _, _, _, _, _, _, _, _, _, _, _, _, _, _, _, _, _, _, _, _, _, _, _, _, _], rfl, ?_⟩
            refine wp_seq ?_
            refine wp_seq ?_
            refine wp_region rfl rfl ?_
            refine wo_move (v := .ref _ _ _ _ _ _) rfl rfl rfl rfl rfl (fun h => AV.noConfusion h) ?_
            refine wo_mpv rfl rfl rfl rfl rfl ?_
            refine wo_call (v := .pv (.bool true)) (H' := [_, _, _]) rfl rfl rfl rfl rfl rfl ((cl23 _ _ _ _).trans (callPure_vr (l := (a ++ [(l[j]).plain])) (fl := List.length (a ++ [(l[j]).plain])) (st := 0) (fz := 0) rfl (Nat.le_refl _) rfl (fun _ => rfl) rfl (exactL_ok (.inl rfl) hpb2 oa2 ob2 hab2.1 hab2.2 (by omega) _ (by omega)))) rfl rfl rfl ?_
            refine wo_un rfl rfl rfl rfl rfl ?_
            refine wo_mpv rfl rfl rfl rfl rfl ?_
            refine wo_move (v := .ptr _ _) rfl rfl rfl rfl rfl (fun h => AV.noConfusion h) ?_
            refine wo_call (v := .pv _) (H' := [_, _, _]) rfl rfl rfl rfl rfl rfl ((cl24 _ _ _ _).trans (callRef_gen (R := [0, 1]) (bs := [_, _]) (bs1 := [_, _]) (bs3 := [_, _]) rfl rfl rfl rfl (seen_ref _ _ _ (a ++ [(l[j]).plain]) _ (by omega)) rfl rfl rfl rfl)) rfl rfl rfl ?_
            refine wo_mpv rfl rfl rfl rfl rfl ?_
            refine wo_bin (v := .pv (.bool false)) rfl rfl rfl rfl (nF rfl) ?_
            refine wo_pick (v := .pv _) rfl rfl rfl rfl rfl rfl ?_
            refine wo_nil ?_
            refine ⟨[_, _, _, _, _, _, _, _, _, _, _, _, _, _, _, _, _, _, _, _, _, _, _, _, _, _, _, _, _, _, _, _, _, _, _, _, _, _, _, _, _, _, _, _, _, _, _, _, _, _, _, _, _, _, _, _, _, _, _, _, _, _, _, _, _, _, _, _, _, _, _, _, _, _, _, _, _, _, _, _, _, _, _, _, _, _, _, _, _, _, _, _, _, _, _, _, _, _, _, _, _, _, _, _, _, _, _, _, _, _, _, _, _, _, _, _, _, _, _, _, _], rfl, ?_⟩
            refine wp_false rfl ?_
            refine wp_skip ?_
            refine wp_seq ?_
            refine wp_region rfl rfl ?_
            refine wo_move (v := .ref _ _ _ _ _ _) rfl rfl rfl rfl rfl (fun h => AV.noConfusion h) ?_
            refine wo_len t31 rfl rfl rfl rfl rfl rfl rfl rfl rfl ?_
            refine wo_mpv rfl rfl rfl rfl rfl ?_
            refine wo_nil ?_
            refine ⟨[_, _, _, _, _, _, _, _, _, _, _, _, _, _, _, _, _, _, _, _, _, _, _, _, _, _, _, _, _, _, _, _, _, _, _, _, _, _, _, _, _, _, _, _, _, _, _, _, _, _, _, _, _, _, _, _, _, _, _, _, _, _, _, _, _, _, _, _, _, _, _, _, _, _, _, _, _, _, _, _, _, _, _, _, _, _, _, _, _, _, _, _, _, _, _, _, _, _, _, _, _, _, _, _, _, _, _, _, _, _, _, _, _, _, _, _, _, _, _, _, _], rfl, ?_⟩
            refine wp_block ?_
            refine wp_loop (fun k2 t H => ∃ (i : Nat) (rows : List (List PV)) (fl2 : Nat), i + k2 = List.length (a ++ [(l[j]).plain]) ∧ rows.length = List.length (a ++ [(l[j]).plain]) ∧ (∀ r ∈ rows, r.length = 4) ∧ fl2 ≤ List.length (a ++ [(l[j]).plain]) ∧ t = [.pv p, .pv (.int .i64 size), .pv q, .any, .any, .any, .any, .ptr 0 0, .any, .pv (.sl ((feedM V.rplain size b sn l[j] (dr2 draws j)).map V.row)), .pv (.int .i64 ((sn + 1 : Nat) : Int)), .pv (.int .i64 (j : Nat)), .any, .any, .any, .any, VR 2 (a ++ [(l[j]).plain]), .any, .any, .any, .any, .any, .any, .any, .any, .any, .any, .any, .any, .any, .any, .any, .any, .any, .any, .any, .any, .any, .any, .any, .any, .any, .any, .any, .any, .any, .any, .any, .any, .any, .any, .any, .any, .any, .any, .any, .any, .any, .any, .any, .any, .any, .any, .any, .any, .any, .any, .any, .any, .any, .any, .any, .any, .any, .any, .any, .any, .any, .any, .any, .any, .any, .any, .any, .any, .any, .any, .any, .any, .any, .any, .any, .any, .any, .any, .any, .any, .any, .any, .any, .any, .any, .any, .any, .any, .any, .any, .any, .any, .any, .any, .pv (.int .i64 (List.length (a ++ [(l[j]).plain]))), .pv (.int .i64 (i : Nat)), .any, .any, .any, .any, .any, .any, .any, .any] ∧ H = [RX size (sn + 1) (VR 1 (a ++ [(l[j]).plain])), VB (a ++ [(l[j]).plain]) fl, RB4 rows fl2]) (List.length (a ++ [(l[j]).plain])) ⟨0, List.map V.row (a ++ [(l[j]).plain]), List.length (a ++ [(l[j]).plain]), by omega, by simp, rows4 _, by omega, rfl, rfl⟩ (by omega) ?_
            rintro k2 _ _ hk2 ⟨i, rows, fl2, hik, hrl, hr4, hfl2, rfl, rfl⟩
            refine wp_seq ?_
            refine wp_region rfl rfl ?_
            refine wo_bsplit rfl rfl rfl rfl rfl (fun c27_0 => ?_) (fun c27_0 => ?_)
            ·
              refine wo_nil ?_
              refine ⟨[_, _, _, _, _, _, _, _, _, _, _, _, _, _, _, _, _, _, _, _, _, _, _, _, _, _, _, _, _, _, _, _, _, _, _, _, _, _, _, _, _, _, _, _, _, _, _, _, _, _, _, _, _, _, _, _, _, _, _, _, _, _, _, _, _, _, _, _, _, _, _, _, _, _, _, _, _, _, _, _, _, _, _, _, _, _, _, _, _, _, _, _, _, _, _, _, _, _, _, _, _, _, _, _, _, _, _, _, _, _, _, _, _, _, _, _, _, _, _, _, _], rfl, ?_⟩
              refine wp_seq ?_
              refine wp_true rfl ?_
              refine wp_skip ?_
              refine wp_seq ?_
              refine wp_block ?_
              refine wp_seq ?_
              refine wp_region rfl rfl ?_
              refine wo_mpv rfl rfl rfl rfl rfl ?_
              refine wo_apv rfl rfl rfl rfl rfl ?_
              refine wo_nil ?_
              refine ⟨[_, _, _, _, _, _, _, _, _, _, _, _, _, _, _, _, _, _, _, _, _, _, _, _, _, _, _, _, _, _, _, _, _, _, _, _, _, _, _, _, _, _, _, _, _, _, _, _, _, _, _, _, _, _, _, _, _, _, _, _, _, _, _, _, _, _, _, _, _, _, _, _, _, _, _, _, _, _, _, _, _, _, _, _, _, _, _, _, _, _, _, _, _, _, _, _, _, _, _, _, _, _, _, _, _, _, _, _, _, _, _, _, _, _, _, _, _, _, _, _, _], rfl, ?_⟩
              refine wp_region rfl rfl ?_
              refine wo_move (v := .ref _ _ _ _ _ _) rfl rfl rfl rfl rfl (fun h => AV.noConfusion h) ?_
              refine wo_mpv rfl rfl rfl rfl rfl ?_
              refine wo_iaddr (v := .eptr 2 0 (List.length (a ++ [(l[j]).plain])) 4 i 0) rfl rfl rfl rfl ((iaddr_ref (j := i) t31 t40 rfl (by omega) rfl).trans (by rw [Nat.zero_add])) ?_
              refine wo_faddr t40 t3 rfl rfl rfl rfl rfl rfl rfl ?_
              refine wo_storeB (H' := [_, _, _]) rfl rfl rfl (store_kind rfl hrl hfl2 (by omega) hr4) rfl rfl rfl ?_
              refine wo_nil ?_
              refine ⟨[_, _, _, _, _, _, _, _, _, _, _, _, _, _, _, _, _, _, _, _, _, _, _, _, _, _, _, _, _, _, _, _, _, _, _, _, _, _, _, _, _, _, _, _, _, _, _, _, _, _, _, _, _, _, _, _, _, _, _, _, _, _, _, _, _, _, _, _, _, _, _, _, _, _, _, _, _, _, _, _, _, _, _, _, _, _, _, _, _, _, _, _, _, _, _, _, _, _, _, _, _, _, _, _, _, _, _, _, _, _, _, _, _, _, _, _, _, _, _, _, _], rfl, ?_⟩
              refine wp_region rfl rfl ?_
              refine wo_bin (v := .pv (.int .i64 ((i + 1 : Nat) : Int))) rfl rfl rfl rfl (iV (by rw [wrapI (by omega) (by omega)]; omega)) ?_
              refine wo_mpv rfl rfl rfl rfl rfl ?_
              refine wo_nil ?_
              refine ⟨[_, _, _, _, _, _, _, _, _, _, _, _, _, _, _, _, _, _, _, _, _, _, _, _, _, _, _, _, _, _, _, _, _, _, _, _, _, _, _, _, _, _, _, _, _, _, _, _, _, _, _, _, _, _, _, _, _, _, _, _, _, _, _, _, _, _, _, _, _, _, _, _, _, _, _, _, _, _, _, _, _, _, _, _, _, _, _, _, _, _, _, _, _, _, _, _, _, _, _, _, _, _, _, _, _, _, _, _, _, _, _, _, _, _, _, _, _, _, _, _, _], rfl, ?_⟩
              refine ⟨_, _, tidy_norm (t' := [_, _, _, _, _, _, _, _, _, _, _, _, _, _, _, _, _, _, _, _, _, _, _, _, _, _, _, _, _, _, _, _, _, _, _, _, _, _, _, _, _, _, _, _, _, _, _, _, _, _, _, _, _, _, _, _, _, _, _, _, _, _, _, _, _, _, _, _, _, _, _, _, _, _, _, _, _, _, _, _, _, _, _, _, _, _, _, _, _, _, _, _, _, _, _, _, _, _, _, _, _, _, _, _, _, _, _, _, _, _, _, _, _, _, _, _, _, _, _, _, _]) rfl rfl rfl, k2 - 1, by omega, i + 1, setK rows i (.int .i64 99), List.length (a ++ [(l[j]).plain]), by omega, by rw [setK_len]; exact hrl, setK_4 _ (by omega) hr4, by omega, rfl, rfl⟩
            ·
              refine wo_nil ?_
              refine ⟨[_, _, _, _, _, _, _, _, _, _, _, _, _, _, _, _, _, _, _, _, _, _, _, _, _, _, _, _, _, _, _, _, _, _, _, _, _, _, _, _, _, _, _, _, _, _, _, _, _, _, _, _, _, _, _, _, _, _, _, _, _, _, _, _, _, _, _, _, _, _, _, _, _, _, _, _, _, _, _, _, _, _, _, _, _, _, _, _, _, _, _, _, _, _, _, _, _, _, _, _, _, _, _, _, _, _, _, _, _, _, _, _, _, _, _, _, _, _, _, _, _], rfl, ?_⟩
              refine wp_seq ?_
              refine wp_false rfl ?_
              refine wp_exit ?_
              refine wp_region rfl rfl ?_
              refine wo_mpv rfl rfl rfl rfl rfl ?_
              refine wo_bin (v := .pv (.int .i64 ((j + 1 : Nat) : Int))) rfl rfl rfl rfl (iV (by rw [wrapI (by omega) (by omega)]; omega)) ?_
              refine wo_apv rfl rfl rfl rfl rfl ?_
              refine wo_nil ?_
              refine ⟨[_, _, _, _, _, _, _, _, _, _, _, _, _, _, _, _, _, _, _, _, _, _, _, _, _, _, _, _, _, _, _, _, _, _, _, _, _, _, _, _, _, _, _, _, _, _, _, _, _, _, _, _, _, _, _, _, _, _, _, _, _, _, _, _, _, _, _, _, _, _, _, _, _, _, _, _, _, _, _, _, _, _, _, _, _, _, _, _, _, _, _, _, _, _, _, _, _, _, _, _, _, _, _, _, _, _, _, _, _, _, _, _, _, _, _, _, _, _, _, _, _], rfl, ?_⟩
              refine ⟨[.pv p, .pv (.int .i64 size), .pv q, .any, .any, .any, .any, .ptr 0 0, .any, .pv (.sl ((feedM V.rplain size b sn l[j] (dr2 draws j)).map V.row)), .pv (.int .i64 ((sn + 1 : Nat) : Int)), .pv (.int .i64 ((j + 1 : Nat) : Int)), .any, .any, .any, .any, .any, .any, .any, .any, .any, .any, .any, .any, .any, .any, .any, .any, .any, .any, .any, .any, .any, .any, .any, .any, .any, .any, .any, .any, .any, .any, .any, .any, .any, .any, .any, .any, .any, .any, .any, .any, .any, .any, .any, .any, .any, .any, .any, .any, .any, .any, .any, .any, .any, .any, .any, .any, .any, .any, .any, .any, .any, .any, .any, .any, .any, .any, .any, .any, .any, .any, .any, .any, .any, .any, .any, .any, .any, .any, .any, .any, .any, .any, .any, .any, .any, .any, .any, .any, .any, .any, .any, .any, .any, .any, .any, .any, .any, .any, .any, .any, .any, .any, .any, .any, .any, .any, .any, .any, .any], [RX size (sn + 1) (VR 1 (a ++ [(l[j]).plain])), VB (a ++ [(l[j]).plain]) fl], tidy_ren (t' := [_, _, _, _, _, _, _, _, _, _, _, _, _, _, _, _, _, _, _, _, _, _, _, _, _, _, _, _, _, _, _, _, _, _, _, _, _, _, _, _, _, _, _, _, _, _, _, _, _, _, _, _, _, _, _, _, _, _, _, _, _, _, _, _, _, _, _, _, _, _, _, _, _, _, _, _, _, _, _, _, _, _, _, _, _, _, _, _, _, _, _, _, _, _, _, _, _, _, _, _, _, _, _, _, _, _, _, _, _, _, _, _, _, _, _, _, _, _, _, _, _]) (order := [0, 1]) (bs := [_, _]) rfl rfl rfl (by kernel_rfl) (by kernel_rfl) rfl (by kernel_rfl), k - 1, by omega, j + 1, (sn + 1), (a ++ [(l[j]).plain]), (feedM V.rplain size b sn l[j] (dr2 draws j)), (.sl ((feedM V.rplain size b sn l[j] (dr2 draws j)).map V.row)), fl, by omega, by omega, la2, ?_, oa2, ob2, hab2, hpb2, rfl, ?_⟩
              · first | exact hfl | (simp; done) | (simp; omega)
              · refine .inr ⟨?_, rfl⟩; first | exact hne | (simp; done) | (intro h; apply hne; simpa using h)
          ·
            rw [if_pos hr] at hone
            have hF : feedM V.plain size a sn l[j] (dr2 draws j) = (a.set ((dr2 draws j) % (sn + 1)) (l[j]).plain) := by unfold feedM; first | rw [if_pos hlt] | rw [if_neg (by omega), if_pos hkk] | rw [if_neg (by omega), if_neg hkk] | (rw [if_pos (by simp; omega)]; rfl)
            have hab2 : EqL (a.set ((dr2 draws j) % (sn + 1)) (l[j]).plain) (feedM V.rplain size b sn l[j] (dr2 draws j)) := hF ▸ feed_eq hab hok size sn (dr2 draws j)
            have oa2 : OkL (a.set ((dr2 draws j) % (sn + 1)) (l[j]).plain) := hF ▸ okFeed oa (plain_ok hok)
            have ob2 : OkL (feedM V.rplain size b sn l[j] (dr2 draws j)) := okFeed ob (rright_plain hok)
            have la2 : List.length (a.set ((dr2 draws j) % (sn + 1)) (l[j]).plain) ≤ size := hF ▸ feedM_len hal
            have hpb2 : SV (.sl ((feedM V.rplain size b sn l[j] (dr2 draws j)).map V.row)) (feedM V.rplain size b sn l[j] (dr2 draws j)) := .inl rfl
            refine wo_call (v := .pv (.int .i64 0)) (H' := [_, _]) rfl rfl rfl rfl rfl rfl ((cl19 _ _ _ _).trans (callRef_gen (R := [0, 1]) (bs := [_, _]) (bs1 := [_, _]) (bs3 := [_, _]) rfl rfl rfl rfl (feed_set' h1 h2 (by omega) hlt hfl hok hr (dr2_lt hd (by omega)) hkk _ (by omega)) rfl rfl rfl rfl)) rfl rfl rfl ?_
            refine wo_apv rfl rfl rfl rfl rfl ?_
            refine wo_nil ?_
            refine ⟨[_, _, _, _, _, _, _, _, _, _, _, _, _, _, _, _, _, _, _, _, _, _, _, _, _, _, _, _, _, _, _, _, _, _, _, _, _, _, _, _, _, _, _, _, _, _, _, _, _, _, _, _, _, _, _, _, _, _, _, _, _, _, _, _, _, _, _, _, _, _, _, _, _, _, _, _, _, _, _, _, _, _, _, _, _, _, _, _, _, _, _, _, _, _, _, _, _, _, _, _, _, _, _, _, _, _, _, _, _, _, _, _, _, _, _, _, _, _, _, _, _], rfl, ?_⟩
            refine wp_seq ?_
            refine wp_seq ?_
            refine wp_region rfl rfl ?_
            refine wo_mpv rfl rfl rfl rfl rfl ?_
            refine wo_mpv rfl rfl rfl rfl rfl ?_
            refine wo_mpv rfl rfl rfl rfl rfl ?_
            refine wo_bin (v := .pv (.int .i64 ((j + 1 : Nat) : Int))) rfl rfl rfl rfl (iV (by rw [wrapI (by omega) (by omega)]; omega)) ?_
            refine wo_slice (v := .pv (.sl [(l[j]).row])) t31 t40 rfl rfl rfl rfl hp.noStr (hp.slice1 hjl) ?_
            refine wo_call (v := .tup [.pv px, .pv (.int .i64 0)]) (H' := [_, _]) rfl rfl rfl rfl rfl rfl ((cl20 _ _ _ _).trans (callPure_any rfl (fun _ => rfl) rfl hone)) rfl rfl rfl ?_
            refine wo_move (v := .tup _) rfl rfl rfl rfl rfl (fun h => AV.noConfusion h) ?_
            refine wo_extract (v := .pv _) rfl rfl rfl rfl rfl rfl ?_
            refine wo_extract (v := .pv _) rfl rfl rfl rfl rfl rfl ?_
            refine wo_apv rfl rfl rfl rfl rfl ?_
            refine wo_apv rfl rfl rfl rfl rfl ?_
            refine wo_nil ?_
            refine ⟨[_, _, _, _, _, _, _, _, _, _, _, _, _, _, _, _, _, _, _, _, _, _, _, _, _, _, _, _, _, _, _, _, _, _, _, _, _, _, _, _, _, _, _, _, _, _, _, _, _, _, _, _, _, _, _, _, _, _, _, _, _, _, _, _, _, _, _, _, _, _, _, _, _, _, _, _, _, _, _, _, _, _, _, _, _, _, _, _, _, _, _, _, _, _, _, _, _, _, _, _, _, _, _, _, _, _, _, _, _, _, _, _, _, _, _, _, _, _, _, _, _], rfl, ?_⟩
            refine wp_seq ?_
            refine wp_region rfl rfl ?_
            refine wo_mpv rfl rfl rfl rfl rfl ?_
            refine wo_bin (v := .pv (.bool false)) rfl rfl rfl rfl (nF rfl) ?_
            refine wo_nil ?_
            refine ⟨[_, _, _, _, _, _, _, _, _, _, _, _, _, _, _, _, _, _, _, _, _, _, _, _, _, _, _, _, _, _, _, _, _, _, _, _, _, _, _, _, _, _, _, _, _, _, _, _, _, _, _, _, _, _, _, _, _, _, _, _, _, _, _, _, _, _, _, _, _, _, _, _, _, _, _, _, _, _, _, _, _, _, _, _, _, _, _, _, _, _, _, _, _, _, _, _, _, _, _, _, _, _, _, _, _, _, _, _, _, _, _, _, _, _, _, _, _, _, _, _, _], rfl, ?_⟩
            refine wp_false rfl ?_
            refine wp_seq ?_
            refine wp_seq ?_
            refine wp_region rfl rfl ?_
            refine wo_mpv rfl rfl rfl rfl rfl ?_
            refine wo_bin (v := .pv (.bool false)) rfl rfl rfl rfl (nF rfl) ?_
            refine wo_nil ?_
            refine ⟨[_, _, _, _, _, _, _, _, _, _, _, _, _, _, _, _, _, _, _, _, _, _, _, _, _, _, _, _, _, _, _, _, _, _, _, _, _, _, _, _, _, _, _, _, _, _, _, _, _, _, _, _, _, _, _, _, _, _, _, _, _, _, _, _, _, _, _, _, _, _, _, _, _, _, _, _, _, _, _, _, _, _, _, _, _, _, _, _, _, _, _, _, _, _, _, _, _, _, _, _, _, _, _, _, _, _, _, _, _, _, _, _, _, _, _, _, _, _, _, _, _], rfl, ?_⟩
            refine wp_false rfl ?_
            refine wp_skip ?_
            refine wp_seq ?_
            refine wp_region rfl rfl ?_
            refine wo_mpv rfl rfl rfl rfl rfl ?_
            refine wo_mpv rfl rfl rfl rfl rfl ?_
            refine wo_mpv rfl rfl rfl rfl rfl ?_
            refine wo_mpv rfl rfl rfl rfl rfl ?_
            refine wo_mpv rfl rfl rfl rfl rfl ?_
            refine wo_iaddr (v := .pv (.ptr (l[j]).row 0)) rfl rfl rfl rfl (hp.get (i := j) hjl rfl) ?_
            refine wo_load (v := .agg [_, _, _, _]) t40 rfl rfl rfl rfl rfl rfl ?_
            refine wo_mpv rfl rfl rfl rfl rfl ?_
            refine wo_call (v := .pv (.sl ((feedM V.rplain size b sn l[j] (dr2 draws j)).map V.row))) (H' := [_, _]) rfl rfl rfl rfl rfl rfl ((cl21 _ _ _ _).trans (callPure_pv rfl (fun _ => rfl) (rfeed_ok hpb h1 h2 (by omega) (by have := hab.1; first | omega | (simp at this; omega)) hok (dr2_lt hd (by omega)) _ (by omega)))) rfl rfl rfl ?_
            refine wo_apv rfl rfl rfl rfl rfl ?_
            refine wo_nil ?_
            refine ⟨[_, _, _, _, _, _, _, _, _, _, _, _, _, _, _, _, _, _, _, _, _, _, _, _, _, _, _, _, _, _, _, _, _, _, _, _, _, _, _, _, _, _, _, _, _, _, _, _, _, _, _, _, _, _, _, _, _, _, _, _, _, _, _, _, _, _, _, _, _, _, _, _, _, _, _, _, _, _, _, _, _, _, _, _, _, _, _, _, _, _, _, _, _, _, _, _, _, _, _, _, _, _, _, _, _, _, _, _, _, _, _, _, _, _, _, _, _, _, _, _, _], rfl, ?_⟩
            refine wp_region rfl rfl ?_
            refine wo_mpv rfl rfl rfl rfl rfl ?_
            refine wo_bin (v := .pv (.int .i64 ((sn + 1 : Nat) : Int))) rfl rfl rfl rfl (iV (by rw [wrapI (by omega) (by omega)]; omega)) ?_
            refine wo_apv rfl rfl rfl rfl rfl ?_
            refine wo_nil ?_
            refine ⟨[_, _, _, _, _, _, _, _, _, _, _, _, _, _, _, _, _, _, _, _, _, _, _, _, _, _, _, _, _, _, _, _, _, _, _, _, _, _, _, _, _, _, _, _, _, _, _, _, _, _, _, _, _, _, _, _, _, _, _, _, _, _, _, _, _, _, _, _, _, _, _, _, _, _, _, _, _, _, _, _, _, _, _, _, _, _, _, _, _, _, _, _, _, _, _, _, _, _, _, _, _, _, _, _, _, _, _, _, _, _, _, _, _, _, _, _, _, _, _, _, _], rfl, ?_⟩
            refine wp_seq ?_
            refine wp_region rfl rfl ?_
            refine wo_move (v := .ptr _ _) rfl rfl rfl rfl rfl (fun h => AV.noConfusion h) ?_
            refine wo_call (v := VR 2 (a.set ((dr2 draws j) % (sn + 1)) (l[j]).plain)) (H' := [_, _, _]) rfl rfl rfl rfl rfl rfl ((cl22 _ _ _ _).trans (callRef_gen (R := [0, 1]) (bs := [_, _]) (bs1 := [_, _]) (bs3 := [_, _, _]) rfl rfl rfl rfl (sample_ref (l := (a.set ((dr2 draws j) % (sn + 1)) (l[j]).plain)) (fl := a.length) (by omega) (by first | exact hfl | (simp; done) | (simp; omega)) _ (by omega)) rfl rfl rfl rfl)) rfl rfl rfl ?_
            refine wo_assign (v := .ref _ _ _ _ _ _) rfl rfl rfl rfl rfl (fun h => AV.noConfusion h) ?_
            refine wo_nil ?_
            refine ⟨[_, _, _, _, _, _, _, _, _, _, _, _, _, _, _, _, _, _, _, _, _, _, _, _, _, _, _, _, _, _, _, _, _, _, _, _, _, _, _, _, _, _, _, _, _, _, _, _, _, _, _, _, _, _, _, _, _, _, _, _, _, _, _, _, _, _, _, _, _, _, _, _, _, _, _, _, _, _, _, _, _, _, _, _, _, _, _, _, _, _, _, _, _, _, _, _, _, _, _, _, _, _, _, _, _, _, _, _, _, _, _, _, _, _, _, _, _, _, _, _, _], rfl, ?_⟩
            refine wp_seq ?_
            refine wp_seq ?_
            refine wp_region rfl rfl ?_
            refine wo_move (v := .ref _ _ _ _ _ _) rfl rfl rfl rfl rfl (fun h => AV.noConfusion h) ?_
            refine wo_mpv rfl rfl rfl rfl rfl ?_
            refine wo_call (v := .pv (.bool true)) (H' := [_, _, _]) rfl rfl rfl rfl rfl rfl ((cl23 _ _ _ _).trans (callPure_vr (l := (a.set ((dr2 draws j) % (sn + 1)) (l[j]).plain)) (fl := List.length (a.set ((dr2 draws j) % (sn + 1)) (l[j]).plain)) (st := 0) (fz := 0) rfl (Nat.le_refl _) rfl (fun _ => rfl) rfl (exactL_ok (.inl rfl) hpb2 oa2 ob2 hab2.1 hab2.2 (by omega) _ (by omega)))) rfl rfl rfl ?_
            refine wo_un rfl rfl rfl rfl rfl ?_
            refine wo_mpv rfl rfl rfl rfl rfl ?_
            refine wo_move (v := .ptr _ _) rfl rfl rfl rfl rfl (fun h => AV.noConfusion h) ?_
            refine wo_call (v := .pv _) (H' := [_, _, _]) rfl rfl rfl rfl rfl rfl ((cl24 _ _ _ _).trans (callRef_gen (R := [0, 1]) (bs := [_, _]) (bs1 := [_, _]) (bs3 := [_, _]) rfl rfl rfl rfl (seen_ref _ _ _ (a.set ((dr2 draws j) % (sn + 1)) (l[j]).plain) _ (by omega)) rfl rfl rfl rfl)) rfl rfl rfl ?_
            refine wo_mpv rfl rfl rfl rfl rfl ?_
            refine wo_bin (v := .pv (.bool false)) rfl rfl rfl rfl (nF rfl) ?_
            refine wo_pick (v := .pv _) rfl rfl rfl rfl rfl rfl ?_
            refine wo_nil ?_
            refine ⟨[_, _, _, _, _, _, _, _, _, _, _, _, _, _, _, _, _, _, _, _, _, _, _, _, _, _, _, _, _, _, _, _, _, _, _, _, _, _, _, _, _, _, _, _, _, _, _, _, _, _, _, _, _, _, _, _, _, _, _, _, _, _, _, _, _, _, _, _, _, _, _, _, _, _, _, _, _, _, _, _, _, _, _, _, _, _, _, _, _, _, _, _, _, _, _, _, _, _, _, _, _, _, _, _, _, _, _, _, _, _, _, _, _, _, _, _, _, _, _, _, _], rfl, ?_⟩
            refine wp_false rfl ?_
            refine wp_skip ?_
            refine wp_seq ?_
            refine wp_region rfl rfl ?_
            refine wo_move (v := .ref _ _ _ _ _ _) rfl rfl rfl rfl rfl (fun h => AV.noConfusion h) ?_
            refine wo_len t31 rfl rfl rfl rfl rfl rfl rfl rfl rfl ?_
            refine wo_mpv rfl rfl rfl rfl rfl ?_
            refine wo_nil ?_
            refine ⟨[_, _, _, _, _, _, _, _, _, _, _, _, _, _, _, _, _, _, _, _, _, _, _, _, _, _, _, _, _, _, _, _, _, _, _, _, _, _, _, _, _, _, _, _, _, _, _, _, _, _, _, _, _, _, _, _, _, _, _, _, _, _, _, _, _, _, _, _, _, _, _, _, _, _, _, _, _, _, _, _, _, _, _, _, _, _, _, _, _, _, _, _, _, _, _, _, _, _, _, _, _, _, _, _, _, _, _, _, _, _, _, _, _, _, _, _, _, _, _, _, _], rfl, ?_⟩
            refine wp_block ?_
            refine wp_loop (fun k2 t H => ∃ (i : Nat) (rows : List (List PV)) (fl2 : Nat), i + k2 = List.length (a.set ((dr2 draws j) % (sn + 1)) (l[j]).plain) ∧ rows.length = List.length (a.set ((dr2 draws j) % (sn + 1)) (l[j]).plain) ∧ (∀ r ∈ rows, r.length = 4) ∧ fl2 ≤ List.length (a.set ((dr2 draws j) % (sn + 1)) (l[j]).plain) ∧ t = [.pv p, .pv (.int .i64 size), .pv q, .any, .any, .any, .any, .ptr 0 0, .any, .pv (.sl ((feedM V.rplain size b sn l[j] (dr2 draws j)).map V.row)), .pv (.int .i64 ((sn + 1 : Nat) : Int)), .pv (.int .i64 (j : Nat)), .any, .any, .any, .any, VR 2 (a.set ((dr2 draws j) % (sn + 1)) (l[j]).plain), .any, .any, .any, .any, .any, .any, .any, .any, .any, .any, .any, .any, .any, .any, .any, .any, .any, .any, .any, .any, .any, .any, .any, .any, .any, .any, .any, .any, .any, .any, .any, .any, .any, .any, .any, .any, .any, .any, .any, .any, .any, .any, .any, .any, .any, .any, .any, .any, .any, .any, .any, .any, .any, .any, .any, .any, .any, .any, .any, .any, .any, .any, .any, .any, .any, .any, .any, .any, .any, .any, .any, .any, .any, .any, .any, .any, .any, .any, .any, .any, .any, .any, .any, .any, .any, .any, .any, .any, .any, .any, .any, .any, .any, .any, .pv (.int .i64 (List.length (a.set ((dr2 draws j) % (sn + 1)) (l[j]).plain))), .pv (.int .i64 (i : Nat)), .any, .any, .any, .any, .any, .any, .any, .any] ∧ H = [RX size (sn + 1) (VR 1 (a.set ((dr2 draws j) % (sn + 1)) (l[j]).plain)), VB (a.set ((dr2 draws j) % (sn + 1)) (l[j]).plain) a.length, RB4 rows fl2]) (List.length (a.set ((dr2 draws j) % (sn + 1)) (l[j]).plain)) ⟨0, List.map V.row (a.set ((dr2 draws j) % (sn + 1)) (l[j]).plain), List.length (a.set ((dr2 draws j) % (sn + 1)) (l[j]).plain), by omega, by simp, rows4 _, by omega, rfl, rfl⟩ (by omega) ?_
            rintro k2 _ _ hk2 ⟨i, rows, fl2, hik, hrl, hr4, hfl2, rfl, rfl⟩
            refine wp_seq ?_
            refine wp_region rfl rfl ?_
            refine wo_bsplit rfl rfl rfl rfl rfl (fun c27_0 => ?_) (fun c27_0 => ?_)
            ·
              refine wo_nil ?_
              refine ⟨[_, _, _, _, _, _, _, _, _, _, _, _, _, _, _, _, _, _, _, _, _, _, _, _, _, _, _, _, _, _, _, _, _, _, _, _, _, _, _, _, _, _, _, _, _, _, _, _, _, _, _, _, _, _, _, _, _, _, _, _, _, _, _, _, _, _, _, _, _, _, _, _, _, _, _, _, _, _, _, _, _, _, _, _, _, _, _, _, _, _, _, _, _, _, _, _, _, _, _, _, _, _, _, _, _, _, _, _, _, _, _, _, _, _, _, _, _, _, _, _, _], rfl, ?_⟩
              refine wp_seq ?_
              refine wp_true rfl ?_
              refine wp_skip ?_
              refine wp_seq ?_
              refine wp_block ?_
              refine wp_seq ?_
              refine wp_region rfl rfl ?_
              refine wo_mpv rfl rfl rfl rfl rfl ?_
              refine wo_apv rfl rfl rfl rfl rfl ?_
              refine wo_nil ?_
              refine ⟨[_, _, _, _, _, _, _, _, _, _, _, _, _, _, _, _, _, _, _, _, _, _, _, _, _, _, _, _, _, _, _, _, _, _, _, _, _, _, _, _, _, _, _, _, _, _, _, _, _, _, _, _, _, _, _, _, _, _, _, _, _, _, _, _, _, _, _, _, _, _, _, _, _, _, _, _, _, _, _, _, _, _, _, _, _, _, _, _, _, _, _, _, _, _, _, _, _, _, _, _, _, _, _, _, _, _, _, _, _, _, _, _, _, _, _, _, _, _, _, _, _], rfl, ?_⟩
              refine wp_region rfl rfl ?_
              refine wo_move (v := .ref _ _ _ _ _ _) rfl rfl rfl rfl rfl (fun h => AV.noConfusion h) ?_
              refine wo_mpv rfl rfl rfl rfl rfl ?_
              refine wo_iaddr (v := .eptr 2 0 (List.length (a.set ((dr2 draws j) % (sn + 1)) (l[j]).plain)) 4 i 0) rfl rfl rfl rfl ((iaddr_ref (j := i) t31 t40 rfl (by omega) rfl).trans (by rw [Nat.zero_add])) ?_
              refine wo_faddr t40 t3 rfl rfl rfl rfl rfl rfl rfl ?_
              refine wo_storeB (H' := [_, _, _]) rfl rfl rfl (store_kind rfl hrl hfl2 (by omega) hr4) rfl rfl rfl ?_
              refine wo_nil ?_
              refine ⟨[_, _, _, _, _, _, _, _, _, _, _, _, _, _, _, _, _, _, _, _, _, _, _, _, _, _, _, _, _, _, _, _, _, _, _, _, _, _, _, _, _, _, _, _, _, _, _, _, _, _, _, _, _, _, _, _, _, _, _, _, _, _, _, _, _, _, _, _, _, _, _, _, _, _, _, _, _, _, _, _, _, _, _, _, _, _, _, _, _, _, _, _, _, _, _, _, _, _, _, _, _, _, _, _, _, _, _, _, _, _, _, _, _, _, _, _, _, _, _, _, _], rfl, ?_⟩
              refine wp_region rfl rfl ?_
              refine wo_bin (v := .pv (.int .i64 ((i + 1 : Nat) : Int))) rfl rfl rfl rfl (iV (by rw [wrapI (by omega) (by omega)]; omega)) ?_
              refine wo_mpv rfl rfl rfl rfl rfl ?_
              refine wo_nil ?_
              refine ⟨[_, _, _, _, _, _, _, _, _, _, _, _, _, _, _, _, _, _, _, _, _, _, _, _, _, _, _, _, _, _, _, _, _, _, _, _, _, _, _, _, _, _, _, _, _, _, _, _, _, _, _, _, _, _, _, _, _, _, _, _, _, _, _, _, _, _, _, _, _, _, _, _, _, _, _, _, _, _, _, _, _, _, _, _, _, _, _, _, _, _, _, _, _, _, _, _, _, _, _, _, _, _, _, _, _, _, _, _, _, _, _, _, _, _, _, _, _, _, _, _, _], rfl, ?_⟩
              refine ⟨_, _, tidy_norm (t' := [_, _, _, _, _, _, _, _, _, _, _, _, _, _, _, _, _, _, _, _, _, _, _, _, _, _, _, _, _, _, _, _, _, _, _, _, _, _, _, _, _, _, _, _, _, _, _, _, _, _, _, _, _, _, _, _, _, _, _, _, _, _, _, _, _, _, _, _, _, _, _, _, _, _, _, _, _, _, _, _, _, _, _, _, _, _, _, _, _, _, _, _, _, _, _, _, _, _, _, _, _, _, _, _, _, _, _, _, _, _, _, _, _, _, _, _, _, _, _, _, _]) rfl rfl rfl, k2 - 1, by omega, i + 1, setK rows i (.int .i64 99), List.length (a.set ((dr2 draws j) % (sn + 1)) (l[j]).plain), by omega, by rw [setK_len]; exact hrl, setK_4 _ (by omega) hr4, by omega, rfl, rfl⟩
            ·
              refine wo_nil ?_
              refine ⟨[_, _, _, _, _, _, _, _, _, _, _, _, _, _, _, _, _, _, _, _, _, _, _, _, _, _, _, _, _, _, _, _, _, _, _, _, _, _, _, _, _, _, _, _, _, _, _, _, _, _, _, _, _, _, _, _, _, _, _, _, _, _, _, _, _, _, _, _, _, _, _, _, _, _, _, _, _, _, _, _, _, _, _, _, _, _, _, _, _, _, _, _, _, _, _, _, _, _, _, _, _, _, _, _, _, _, _, _, _, _, _, _, _, _, _, _, _, _, _, _, _], rfl, ?_⟩
              refine wp_seq ?_
              refine wp_false rfl ?_
              refine wp_exit ?_
              refine wp_region rfl rfl ?_
              refine wo_mpv rfl rfl rfl rfl rfl ?_
              refine wo_bin (v := .pv (.int .i64 ((j + 1 : Nat) : Int))) rfl rfl rfl rfl (iV (by rw [wrapI (by omega) (by omega)]; omega)) ?_
              refine wo_apv rfl rfl rfl rfl rfl ?_
              refine wo_nil ?_
              refine ⟨[_, _, _, _, _, _, _, _, _, _, _, _, _, _, _, _, _, _, _, _, _, _, _, _, _, _, _, _, _, _, _, _, _, _, _, _, _, _, _, _, _, _, _, _, _, _, _, _, _, _, _, _, _, _, _, _, _, _, _, _, _, _, _, _, _, _, _, _, _, _, _, _, _, _, _, _, _, _, _, _, _, _, _, _, _, _, _, _, _, _, _, _, _, _, _, _, _, _, _, _, _, _, _, _, _, _, _, _, _, _, _, _, _, _, _, _, _, _, _, _, _], rfl, ?_⟩
              refine ⟨[.pv p, .pv (.int .i64 size), .pv q, .any, .any, .any, .any, .ptr 0 0, .any, .pv (.sl ((feedM V.rplain size b sn l[j] (dr2 draws j)).map V.row)), .pv (.int .i64 ((sn + 1 : Nat) : Int)), .pv (.int .i64 ((j + 1 : Nat) : Int)), .any, .any, .any, .any, .any, .any, .any, .any, .any, .any, .any, .any, .any, .any, .any, .any, .any, .any, .any, .any, .any, .any, .any, .any, .any, .any, .any, .any, .any, .any, .any, .any, .any, .any, .any, .any, .any, .any, .any, .any, .any, .any, .any, .any, .any, .any, .any, .any, .any, .any, .any, .any, .any, .any, .any, .any, .any, .any, .any, .any, .any, .any, .any, .any, .any, .any, .any, .any, .any, .any, .any, .any, .any, .any, .any, .any, .any, .any, .any, .any, .any, .any, .any, .any, .any, .any, .any, .any, .any, .any, .any, .any, .any, .any, .any, .any, .any, .any, .any, .any, .any, .any, .any, .any, .any, .any, .any, .any, .any], [RX size (sn + 1) (VR 1 (a.set ((dr2 draws j) % (sn + 1)) (l[j]).plain)), VB (a.set ((dr2 draws j) % (sn + 1)) (l[j]).plain) a.length], tidy_ren (t' := [_, _, _, _, _, _, _, _, _, _, _, _, _, _, _, _, _, _, _, _, _, _, _, _, _, _, _, _, _, _, _, _, _, _, _, _, _, _, _, _, _, _, _, _, _, _, _, _, _, _, _, _, _, _, _, _, _, _, _, _, _, _, _, _, _, _, _, _, _, _, _, _, _, _, _, _, _, _, _, _, _, _, _, _, _, _, _, _, _, _, _, _, _, _, _, _, _, _, _, _, _, _, _, _, _, _, _, _, _, _, _, _, _, _, _, _, _, _, _, _, _]) (order := [0, 1]) (bs := [_, _]) rfl rfl rfl (by kernel_rfl) (by kernel_rfl) rfl (by kernel_rfl), k - 1, by omega, j + 1, (sn + 1), (a.set ((dr2 draws j) % (sn + 1)) (l[j]).plain), (feedM V.rplain size b sn l[j] (dr2 draws j)), (.sl ((feedM V.rplain size b sn l[j] (dr2 draws j)).map V.row)), a.length, by omega, by omega, la2, ?_, oa2, ob2, hab2, hpb2, rfl, ?_⟩
              · first | exact hfl | (simp; done) | (simp; omega)
              · refine .inr ⟨?_, rfl⟩; first | exact hne | (simp; done) | (intro h; apply hne; simpa using h)
          ·
            rw [if_pos hr] at hone
            have hF : feedM V.plain size a sn l[j] (dr2 draws j) = a := by unfold feedM; first | rw [if_pos hlt] | rw [if_neg (by omega), if_pos hkk] | rw [if_neg (by omega), if_neg hkk] | (rw [if_pos (by simp; omega)]; rfl)
            have hab2 : EqL a (feedM V.rplain size b sn l[j] (dr2 draws j)) := hF ▸ feed_eq hab hok size sn (dr2 draws j)
            have oa2 : OkL a := hF ▸ okFeed oa (plain_ok hok)
            have ob2 : OkL (feedM V.rplain size b sn l[j] (dr2 draws j)) := okFeed ob (rright_plain hok)
            have la2 : List.length a ≤ size := hF ▸ feedM_len hal
            have hpb2 : SV (.sl ((feedM V.rplain size b sn l[j] (dr2 draws j)).map V.row)) (feedM V.rplain size b sn l[j] (dr2 draws j)) := .inl rfl
            refine wo_call (v := .pv (.int .i64 0)) (H' := [_, _]) rfl rfl rfl rfl rfl rfl ((cl19 _ _ _ _).trans (callRef_gen (R := [0, 1]) (bs := [_, _]) (bs1 := [_, _]) (bs3 := [_, _]) rfl rfl rfl rfl (feed_skip h1 h2 (by omega) hlt hok hr (dr2_lt hd (by omega)) hkk _ (by omega)) rfl rfl rfl rfl)) rfl rfl rfl ?_
            refine wo_apv rfl rfl rfl rfl rfl ?_
            refine wo_nil ?_
            refine ⟨[_, _, _, _, _, _, _, _, _, _, _, _, _, _, _, _, _, _, _, _, _, _, _, _, _, _, _, _, _, _, _, _, _, _, _, _, _, _, _, _, _, _, _, _, _, _, _, _, _, _, _, _, _, _, _, _, _, _, _, _, _, _, _, _, _, _, _, _, _, _, _, _, _, _, _, _, _, _, _, _, _, _, _, _, _, _, _, _, _, _, _, _, _, _, _, _, _, _, _, _, _, _, _, _, _, _, _, _, _, _, _, _, _, _, _, _, _, _, _, _, _], rfl, ?_⟩
            refine wp_seq ?_
            refine wp_seq ?_
            refine wp_region rfl rfl ?_
            refine wo_mpv rfl rfl rfl rfl rfl ?_
            refine wo_mpv rfl rfl rfl rfl rfl ?_
            refine wo_mpv rfl rfl rfl rfl rfl ?_
            refine wo_bin (v := .pv (.int .i64 ((j + 1 : Nat) : Int))) rfl rfl rfl rfl (iV (by rw [wrapI (by omega) (by omega)]; omega)) ?_
            refine wo_slice (v := .pv (.sl [(l[j]).row])) t31 t40 rfl rfl rfl rfl hp.noStr (hp.slice1 hjl) ?_
            refine wo_call (v := .tup [.pv px, .pv (.int .i64 0)]) (H' := [_, _]) rfl rfl rfl rfl rfl rfl ((cl20 _ _ _ _).trans (callPure_any rfl (fun _ => rfl) rfl hone)) rfl rfl rfl ?_
            refine wo_move (v := .tup _) rfl rfl rfl rfl rfl (fun h => AV.noConfusion h) ?_
            refine wo_extract (v := .pv _) rfl rfl rfl rfl rfl rfl ?_
            refine wo_extract (v := .pv _) rfl rfl rfl rfl rfl rfl ?_
            refine wo_apv rfl rfl rfl rfl rfl ?_
            refine wo_apv rfl rfl rfl rfl rfl ?_
            refine wo_nil ?_
            refine ⟨[_, _, _, _, _, _, _, _, _, _, _, _, _, _, _, _, _, _, _, _, _, _, _, _, _, _, _, _, _, _, _, _, _, _, _, _, _, _, _, _, _, _, _, _, _, _, _, _, _, _, _, _, _, _, _, _, _, _, _, _, _, _, _, _, _, _, _, _, _, _, _, _, _, _, _, _, _, _, _, _, _, _, _, _, _, _, _, _, _, _, _, _, _, _, _, _, _, _, _, _, _, _, _, _, _, _, _, _, _, _, _, _, _, _, _, _, _, _, _, _, _], rfl, ?_⟩
            refine wp_seq ?_
            refine wp_region rfl rfl ?_
            refine wo_mpv rfl rfl rfl rfl rfl ?_
            refine wo_bin (v := .pv (.bool false)) rfl rfl rfl rfl (nF rfl) ?_
            refine wo_nil ?_
            refine ⟨[_, _, _, _, _, _, _, _, _, _, _, _, _, _, _, _, _, _, _, _, _, _, _, _, _, _, _, _, _, _, _, _, _, _, _, _, _, _, _, _, _, _, _, _, _, _, _, _, _, _, _, _, _, _, _, _, _, _, _, _, _, _, _, _, _, _, _, _, _, _, _, _, _, _, _, _, _, _, _, _, _, _, _, _, _, _, _, _, _, _, _, _, _, _, _, _, _, _, _, _, _, _, _, _, _, _, _, _, _, _, _, _, _, _, _, _, _, _, _, _, _], rfl, ?_⟩
            refine wp_false rfl ?_
            refine wp_seq ?_
            refine wp_seq ?_
            refine wp_region rfl rfl ?_
            refine wo_mpv rfl rfl rfl rfl rfl ?_
            refine wo_bin (v := .pv (.bool false)) rfl rfl rfl rfl (nF rfl) ?_
            refine wo_nil ?_
            refine ⟨[_, _, _, _, _, _, _, _, _, _, _, _, _, _, _, _, _, _, _, _, _, _, _, _, _, _, _, _, _, _, _, _, _, _, _, _, _, _, _, _, _, _, _, _, _, _, _, _, _, _, _, _, _, _, _, _, _, _, _, _, _, _, _, _, _, _, _, _, _, _, _, _, _, _, _, _, _, _, _, _, _, _, _, _, _, _, _, _, _, _, _, _, _, _, _, _, _, _, _, _, _, _, _, _, _, _, _, _, _, _, _, _, _, _, _, _, _, _, _, _, _], rfl, ?_⟩
            refine wp_false rfl ?_
            refine wp_skip ?_
            refine wp_seq ?_
            refine wp_region rfl rfl ?_
            refine wo_mpv rfl rfl rfl rfl rfl ?_
            refine wo_mpv rfl rfl rfl rfl rfl ?_
            refine wo_mpv rfl rfl rfl rfl rfl ?_
            refine wo_mpv rfl rfl rfl rfl rfl ?_
            refine wo_mpv rfl rfl rfl rfl rfl ?_
            refine wo_iaddr (v := .pv (.ptr (l[j]).row 0)) rfl rfl rfl rfl (hp.get (i := j) hjl rfl) ?_
            refine wo_load (v := .agg [_, _, _, _]) t40 rfl rfl rfl rfl rfl rfl ?_
            refine wo_mpv rfl rfl rfl rfl rfl ?_
            refine wo_call (v := .pv (.sl ((feedM V.rplain size b sn l[j] (dr2 draws j)).map V.row))) (H' := [_, _]) rfl rfl rfl rfl rfl rfl ((cl21 _ _ _ _).trans (callPure_pv rfl (fun _ => rfl) (rfeed_ok hpb h1 h2 (by omega) (by have := hab.1; first | omega | (simp at this; omega)) hok (dr2_lt hd (by omega)) _ (by omega)))) rfl rfl rfl ?_
            refine wo_apv rfl rfl rfl rfl rfl ?_
            refine wo_nil ?_
            refine ⟨[_, _, _, _, _, _, _, _, _, _, _, _, _, _, _, _, _, _, _, _, _, _, _, _, _, _, _, _, _, _, _, _, _, _, _, _, _, _, _, _, _, _, _, _, _, _, _, _, _, _, _, _, _, _, _, _, _, _, _, _, _, _, _, _, _, _, _, _, _, _, _, _, _, _, _, _, _, _, _, _, _, _, _, _, _, _, _, _, _, _, _, _, _, _, _, _, _, _, _, _, _, _, _, _, _, _, _, _, _, _, _, _, _, _, _, _, _, _, _, _, _], rfl, ?_⟩
            refine wp_region rfl rfl ?_
            refine wo_mpv rfl rfl rfl rfl rfl ?_
            refine wo_bin (v := .pv (.int .i64 ((sn + 1 : Nat) : Int))) rfl rfl rfl rfl (iV (by rw [wrapI (by omega) (by omega)]; omega)) ?_
            refine wo_apv rfl rfl rfl rfl rfl ?_
            refine wo_nil ?_
            refine ⟨[_, _, _, _, _, _, _, _, _, _, _, _, _, _, _, _, _, _, _, _, _, _, _, _, _, _, _, _, _, _, _, _, _, _, _, _, _, _, _, _, _, _, _, _, _, _, _, _, _, _, _, _, _, _, _, _, _, _, _, _, _, _, _, _, _, _, _, _, _, _, _, _, _, _, _, _, _, _, _, _, _, _, _, _, _, _, _, _, _, _, _, _, _, _, _, _, _, _, _, _, _, _, _, _, _, _, _, _, _, _, _, _, _, _, _, _, _, _, _, _, _], rfl, ?_⟩
            refine wp_seq ?_
            refine wp_region rfl rfl ?_
            refine wo_move (v := .ptr _ _) rfl rfl rfl rfl rfl (fun h => AV.noConfusion h) ?_
            refine wo_call (v := VR 2 a) (H' := [_, _, _]) rfl rfl rfl rfl rfl rfl ((cl22 _ _ _ _).trans (callRef_gen (R := [0, 1]) (bs := [_, _]) (bs1 := [_, _]) (bs3 := [_, _, _]) rfl rfl rfl rfl (sample_ref (l := a) (fl := fl) (by omega) (by first | exact hfl | (simp; done) | (simp; omega)) _ (by omega)) rfl rfl rfl rfl)) rfl rfl rfl ?_
            refine wo_assign (v := .ref _ _ _ _ _ _) rfl rfl rfl rfl rfl (fun h => AV.noConfusion h) ?_
            refine wo_nil ?_
            refine ⟨[_, _, _, _, _, _, _, _, _, _, _, _, _, _, _, _, _, _, _, _, _, _, _, _, _, _, _, _, _, _, _, _, _, _, _, _, _, _, _, _, _, _, _, _, _, _, _, _, _, _, _, _, _, _, _, _, _, _, _, _, _, _, _, _, _, _, _, _, _, _, _, _, _, _, _, _, _, _, _, _, _, _, _, _, _, _, _, _, _, _, _, _, _, _, _, _, _, _, _, _, _, _, _, _, _, _, _, _, _, _, _, _, _, _, _, _, _, _, _, _, _], rfl, ?_⟩
            refine wp_seq ?_
            refine wp_seq ?_
            refine wp_region rfl rfl ?_
            refine wo_move (v := .ref _ _ _ _ _ _) rfl rfl rfl rfl rfl (fun h => AV.noConfusion h) ?_
            refine wo_mpv rfl rfl rfl rfl rfl ?_
            refine wo_call (v := .pv (.bool true)) (H' := [_, _, _]) rfl rfl rfl rfl rfl rfl ((cl23 _ _ _ _).trans (callPure_vr (l := a) (fl := List.length a) (st := 0) (fz := 0) rfl (Nat.le_refl _) rfl (fun _ => rfl) rfl (exactL_ok (.inl rfl) hpb2 oa2 ob2 hab2.1 hab2.2 (by omega) _ (by omega)))) rfl rfl rfl ?_
            refine wo_un rfl rfl rfl rfl rfl ?_
            refine wo_mpv rfl rfl rfl rfl rfl ?_
            refine wo_move (v := .ptr _ _) rfl rfl rfl rfl rfl (fun h => AV.noConfusion h) ?_
            refine wo_call (v := .pv _) (H' := [_, _, _]) rfl rfl rfl rfl rfl rfl ((cl24 _ _ _ _).trans (callRef_gen (R := [0, 1]) (bs := [_, _]) (bs1 := [_, _]) (bs3 := [_, _]) rfl rfl rfl rfl (seen_ref _ _ _ a _ (by omega)) rfl rfl rfl rfl)) rfl rfl rfl ?_
            refine wo_mpv rfl rfl rfl rfl rfl ?_
            refine wo_bin (v := .pv (.bool false)) rfl rfl rfl rfl (nF rfl) ?_
            refine wo_pick (v := .pv _) rfl rfl rfl rfl rfl rfl ?_
            refine wo_nil ?_
            refine ⟨[_, _, _, _, _, _, _, _, _, _, _, _, _, _, _, _, _, _, _, _, _, _, _, _, _, _, _, _, _, _, _, _, _, _, _, _, _, _, _, _, _, _, _, _, _, _, _, _, _, _, _, _, _, _, _, _, _, _, _, _, _, _, _, _, _, _, _, _, _, _, _, _, _, _, _, _, _, _, _, _, _, _, _, _, _, _, _, _, _, _, _, _, _, _, _, _, _, _, _, _, _, _, _, _, _, _, _, _, _, _, _, _, _, _, _, _, _, _, _, _, _], rfl, ?_⟩
            refine wp_false rfl ?_
            refine wp_skip ?_
            refine wp_seq ?_
            refine wp_region rfl rfl ?_
            refine wo_move (v := .ref _ _ _ _ _ _) rfl rfl rfl rfl rfl (fun h => AV.noConfusion h) ?_
            refine wo_len t31 rfl rfl rfl rfl rfl rfl rfl rfl rfl ?_
            refine wo_mpv rfl rfl rfl rfl rfl ?_
            refine wo_nil ?_
            refine ⟨[_, _, _, _, _, _, _, _, _, _, _, _, _, _, _, _, _, _, _, _, _, _, _, _, _, _, _, _, _, _, _, _, _, _, _, _, _, _, _, _, _, _, _, _, _, _, _, _, _, _, _, _, _, _, _, _, _, _, _, _, _, _, _, _, _, _, _, _, _, _, _, _, _, _, _, _, _, _, _, _, _, _, _, _, _, _, _, _, _, _, _, _, _, _, _, _, _, _, _, _, _, _, _, _, _, _, _, _, _, _, _, _, _, _, _, _, _, _, _, _, _], rfl, ?_⟩
            refine wp_block ?_
            refine wp_loop (fun k2 t H => ∃ (i : Nat) (rows : List (List PV)) (fl2 : Nat), i + k2 = List.length a ∧ rows.length = List.length a ∧ (∀ r ∈ rows, r.length = 4) ∧ fl2 ≤ List.length a ∧ t = [.pv p, .pv (.int .i64 size), .pv q, .any, .any, .any, .any, .ptr 0 0, .any, .pv (.sl ((feedM V.rplain size b sn l[j] (dr2 draws j)).map V.row)), .pv (.int .i64 ((sn + 1 : Nat) : Int)), .pv (.int .i64 (j : Nat)), .any, .any, .any, .any, VR 2 a, .any, .any, .any, .any, .any, .any, .any, .any, .any, .any, .any, .any, .any, .any, .any, .any, .any, .any, .any, .any, .any, .any, .any, .any, .any, .any, .any, .any, .any, .any, .any, .any, .any, .any, .any, .any, .any, .any, .any, .any, .any, .any, .any, .any, .any, .any, .any, .any, .any, .any, .any, .any, .any, .any, .any, .any, .any, .any, .any, .any, .any, .any, .any, .any, .any, .any, .any, .any, .any, .any, .any, .any, .any, .any, .any, .any, .any, .any, .any, .any, .any, .any, .any, .any, .any, .any, .any, .any, .any, .any, .any, .any, .any, .any, .pv (.int .i64 (List.length a)), .pv (.int .i64 (i : Nat)), .any, .any, .any, .any, .any, .any, .any, .any] ∧ H = [RX size (sn + 1) (VR 1 a), VB a fl, RB4 rows fl2]) (List.length a) ⟨0, List.map V.row a, List.length a, by omega, by simp, rows4 _, by omega, rfl, rfl⟩ (by omega) ?_
            rintro k2 _ _ hk2 ⟨i, rows, fl2, hik, hrl, hr4, hfl2, rfl, rfl⟩
            refine wp_seq ?_
            refine wp_region rfl rfl ?_
            refine wo_bsplit rfl rfl rfl rfl rfl (fun c27_0 => ?_) (fun c27_0 => ?_)
            ·
              refine wo_nil ?_
              refine ⟨[_, _, _, _, _, _, _, _, _, _, _, _, _, _, _, _, _, _, _, _, _, _, _, _, _, _, _, _, _, _, _, _, _, _, _, _, _, _, _, _, _, _, _, _, _, _, _, _, _, _, _, _, _, _, _, _, _, _, _, _, _, _, _, _, _, _, _, _, _, _, _, _, _, _, _, _, _, _, _, _, _, _, _, _, _, _, _, _, _, _, _, _, _, _, _, _, _, _, _, _, _, _, _, _, _, _, _, _, _, _, _, _, _, _, _, _, _, _, _, _, _], rfl, ?_⟩
              refine wp_seq ?_
              refine wp_true rfl ?_
              refine wp_skip ?_
              refine wp_seq ?_
              refine wp_block ?_
              refine wp_seq ?_
              refine wp_region rfl rfl ?_
              refine wo_mpv rfl rfl rfl rfl rfl ?_
              refine wo_apv rfl rfl rfl rfl rfl ?_
              refine wo_nil ?_
              refine ⟨[_, _, _, _, _, _, _, _, _, _, _, _, _, _, _, _, _, _, _, _, _, _, _, _, _, _, _, _, _, _, _, _, _, _, _, _, _, _, _, _, _, _, _, _, _, _, _, _, _, _, _, _, _, _, _, _, _, _, _, _, _, _, _, _, _, _, _, _, _, _, _, _, _, _, _, _, _, _, _, _, _, _, _, _, _, _, _, _, _, _, _, _, _, _, _, _, _, _, _, _, _, _, _, _, _, _, _, _, _, _, _, _, _, _, _, _, _, _, _, _, _], rfl, ?_⟩
              refine wp_region rfl rfl ?_
              refine wo_move (v := .ref _ _ _ _ _ _) rfl rfl rfl rfl rfl (fun h => AV.noConfusion h) ?_
              refine wo_mpv rfl rfl rfl rfl rfl ?_
              refine wo_iaddr (v := .eptr 2 0 (List.length a) 4 i 0) rfl rfl rfl rfl ((iaddr_ref (j := i) t31 t40 rfl (by omega) rfl).trans (by rw [Nat.zero_add])) ?_
              refine wo_faddr t40 t3 rfl rfl rfl rfl rfl rfl rfl ?_
              refine wo_storeB (H' := [_, _, _]) rfl rfl rfl (store_kind rfl hrl hfl2 (by omega) hr4) rfl rfl rfl ?_
              refine wo_nil ?_
              refine ⟨[_, _, _, _, _, _, _, _, _, _, _, _, _, _, _, _, _, _, _, _, _, _, _, _, _, _, _, _, _, _, _, _, _, _, _, _, _, _, _, _, _, _, _, _, _, _, _, _, _, _, _, _, _, _, _, _, _, _, _, _, _, _, _, _, _, _, _, _, _, _, _, _, _, _, _, _, _, _, _, _, _, _, _, _, _, _, _, _, _, _, _, _, _, _, _, _, _, _, _, _, _, _, _, _, _, _, _, _, _, _, _, _, _, _, _, _, _, _, _, _, _], rfl, ?_⟩
              refine wp_region rfl rfl ?_
              refine wo_bin (v := .pv (.int .i64 ((i + 1 : Nat) : Int))) rfl rfl rfl rfl (iV (by rw [wrapI (by omega) (by omega)]; omega)) ?_
              refine wo_mpv rfl rfl rfl rfl rfl ?_
              refine wo_nil ?_
              refine ⟨[_, _, _, _, _, _, _, _, _, _, _, _, _, _, _, _, _, _, _, _, _, _, _, _, _, _, _, _, _, _, _, _, _, _, _, _, _, _, _, _, _, _, _, _, _, _, _, _, _, _, _, _, _, _, _, _, _, _, _, _, _, _, _, _, _, _, _, _, _, _, _, _, _, _, _, _, _, _, _, _, _, _, _, _, _, _, _, _, _, _, _, _, _, _, _, _, _, _, _, _, _, _, _, _, _, _, _, _, _, _, _, _, _, _, _, _, _, _, _, _, _], rfl, ?_⟩
              refine ⟨_, _, tidy_norm (t' := [_, _, _, _, _, _, _, _, _, _, _, _, _, _, _, _, _, _, _, _, _, _, _, _, _, _, _, _, _, _, _, _, _, _, _, _, _, _, _, _, _, _, _, _, _, _, _, _, _, _, _, _, _, _, _, _, _, _, _, _, _, _, _, _, _, _, _, _, _, _, _, _, _, _, _, _, _, _, _, _, _, _, _, _, _, _, _, _, _, _, _, _, _, _, _, _, _, _, _, _, _, _, _, _, _, _, _, _, _, _, _, _, _, _, _, _, _, _, _, _, _]) rfl rfl rfl, k2 - 1, by omega, i + 1, setK rows i (.int .i64 99), List.length a, by omega, by rw [setK_len]; exact hrl, setK_4 _ (by omega) hr4, by omega, rfl, rfl⟩
            ·
              refine wo_nil ?_
              refine ⟨[_, _, _, _, _, _, _, _, _, _, _, _, _, _, _, _, _, _, _, _, _, _, _, _, _, _, _, _, _, _, _, _, _, _, _, _, _, _, _, _, _, _, _, _, _, _, _, _, _, _, _, _, _, _, _, _, _, _, _, _, _, _, _, _, _, _, _, _, _, _, _, _, _, _, _, _, _, _, _, _, _, _, _, _, _, _, _, _, _, _, _, _, _, _, _, _, _, _, _, _, _, _, _, _, _, _, _, _, _, _, _, _, _, _, _, _, _, _, _, _, _], rfl, ?_⟩
              refine wp_seq ?_
              refine wp_false rfl ?_
              refine wp_exit ?_
              refine wp_region rfl rfl ?_
              refine wo_mpv rfl rfl rfl rfl rfl ?_
              refine wo_bin (v := .pv (.int .i64 ((j + 1 : Nat) : Int))) rfl rfl rfl rfl (iV (by rw [wrapI (by omega) (by omega)]; omega)) ?_
              refine wo_apv rfl rfl rfl rfl rfl ?_
              refine wo_nil ?_
              refine ⟨[_, _, _, _, _, _, _, _, _, _, _, _, _, _, _, _, _, _, _, _, _, _, _, _, _, _, _, _, _, _, _, _, _, _, _, _, _, _, _, _, _, _, _, _, _, _, _, _, _, _, _, _, _, _, _, _, _, _, _, _, _, _, _, _, _, _, _, _, _, _, _, _, _, _, _, _, _, _, _, _, _, _, _, _, _, _, _, _, _, _, _, _, _, _, _, _, _, _, _, _, _, _, _, _, _, _, _, _, _, _, _, _, _, _, _, _, _, _, _, _, _], rfl, ?_⟩
              refine ⟨[.pv p, .pv (.int .i64 size), .pv q, .any, .any, .any, .any, .ptr 0 0, .any, .pv (.sl ((feedM V.rplain size b sn l[j] (dr2 draws j)).map V.row)), .pv (.int .i64 ((sn + 1 : Nat) : Int)), .pv (.int .i64 ((j + 1 : Nat) : Int)), .any, .any, .any, .any, .any, .any, .any, .any, .any, .any, .any, .any, .any, .any, .any, .any, .any, .any, .any, .any, .any, .any, .any, .any, .any, .any, .any, .any, .any, .any, .any, .any, .any, .any, .any, .any, .any, .any, .any, .any, .any, .any, .any, .any, .any, .any, .any, .any, .any, .any, .any, .any, .any, .any, .any, .any, .any, .any, .any, .any, .any, .any, .any, .any, .any, .any, .any, .any, .any, .any, .any, .any, .any, .any, .any, .any, .any, .any, .any, .any, .any, .any, .any, .any, .any, .any, .any, .any, .any, .any, .any, .any, .any, .any, .any, .any, .any, .any, .any, .any, .any, .any, .any, .any, .any, .any, .any, .any, .any], [RX size (sn + 1) (VR 1 a), VB a fl], tidy_ren (t' := [_, _, _, _, _, _, _, _, _, _, _, _, _, _, _, _, _, _, _, _, _, _, _, _, _, _, _, _, _, _, _, _, _, _, _, _, _, _, _, _, _, _, _, _, _, _, _, _, _, _, _, _, _, _, _, _, _, _, _, _, _, _, _, _, _, _, _, _, _, _, _, _, _, _, _, _, _, _, _, _, _, _, _, _, _, _, _, _, _, _, _, _, _, _, _, _, _, _, _, _, _, _, _, _, _, _, _, _, _, _, _, _, _, _, _, _, _, _, _, _, _]) (order := [0, 1]) (bs := [_, _]) rfl rfl rfl (by kernel_rfl) (by kernel_rfl) rfl (by kernel_rfl), k - 1, by omega, j + 1, (sn + 1), a, (feedM V.rplain size b sn l[j] (dr2 draws j)), (.sl ((feedM V.rplain size b sn l[j] (dr2 draws j)).map V.row)), fl, by omega, by omega, la2, ?_, oa2, ob2, hab2, hpb2, rfl, ?_⟩
              · first | exact hfl | (simp; done) | (simp; omega)
              · refine .inr ⟨?_, rfl⟩; first | exact hne | (simp; done) | (intro h; apply hne; simpa using h)
        ·
          refine wo_conv (v := .pv (.int .u64 ((dr2 draws j) : Nat))) rfl rfl rfl rfl ((wconv t3 t22 rfl rfl).trans (iV (by rw [dr2_out hjd]; exact wrapU64 (by omega) (by omega)))) rfl ?_
          refine wo_apv rfl rfl rfl rfl rfl ?_
          refine wo_nil ?_
          refine ⟨[_, _, _, _, _, _, _, _, _, _, _, _, _, _, _, _, _, _, _, _, _, _, _, _, _, _, _, _, _, _, _, _, _, _, _, _, _, _, _, _, _, _, _, _, _, _, _, _, _, _, _, _, _, _, _, _, _, _, _, _, _, _, _, _, _, _, _, _, _, _, _, _, _, _, _, _, _, _, _, _, _, _, _, _, _, _, _, _, _, _, _, _, _, _, _, _, _, _, _, _, _, _, _, _, _, _, _, _, _, _, _, _, _, _, _, _, _, _, _, _, _], rfl, ?_⟩
          refine wp_seq ?_
          refine wp_seq ?_
          refine wp_region rfl rfl ?_
          refine wo_mpv rfl rfl rfl rfl rfl ?_
          refine wo_mpv rfl rfl rfl rfl rfl ?_
          refine wo_len (ln := draws.length) t32 rfl rfl rfl rfl rfl rfl rfl (hq.len 22) rfl ?_
          refine wo_bin (v := .pv (.bool false)) rfl rfl rfl rfl (bF (by omega)) ?_
          refine wo_nil ?_
          refine ⟨[_, _, _, _, _, _, _, _, _, _, _, _, _, _, _, _, _, _, _, _, _, _, _, _, _, _, _, _, _, _, _, _, _, _, _, _, _, _, _, _, _, _, _, _, _, _, _, _, _, _, _, _, _, _, _, _, _, _, _, _, _, _, _, _, _, _, _, _, _, _, _, _, _, _, _, _, _, _, _, _, _, _, _, _, _, _, _, _, _, _, _, _, _, _, _, _, _, _, _, _, _, _, _, _, _, _, _, _, _, _, _, _, _, _, _, _, _, _, _, _, _], rfl, ?_⟩
          refine wp_false rfl ?_
          refine wp_skip ?_
          refine wp_seq ?_
          refine wp_region rfl rfl ?_
          refine wo_move (v := .ptr _ _) rfl rfl rfl rfl rfl (fun h => AV.noConfusion h) ?_
          refine wo_mpv rfl rfl rfl rfl rfl ?_
          refine wo_mpv rfl rfl rfl rfl rfl ?_
          refine wo_iaddr (v := .pv (.ptr (l[j]).row 0)) rfl rfl rfl rfl (hp.get (i := j) hjl rfl) ?_
          refine wo_load (v := .agg [_, _, _, _]) t40 rfl rfl rfl rfl rfl rfl ?_
          refine wo_mpv rfl rfl rfl rfl rfl ?_
          obtain ⟨px, hone⟩ := rof_one hok 1500 (by omega)
          have hc : (l[j]).right = false ∨ ((l[j]).right = true ∧ a.length < size) ∨ ((l[j]).right = true ∧ a.length = size ∧ (dr2 draws j) % (sn + 1) < size) ∨ ((l[j]).right = true ∧ a.length = size ∧ ¬ (dr2 draws j) % (sn + 1) < size) := by
            cases h : (l[j]).right <;> simp <;> omega
          rcases hc with hr | ⟨hr, hlt⟩ | ⟨hr, hlt, hkk⟩ | ⟨hr, hlt, hkk⟩
          ·
            rw [if_neg (by rw [hr]; simp)] at hone
            have hab2 := hab
            have oa2 := oa
            have ob2 := ob
            have la2 := hal
            have hpb2 := hpb
            refine wo_call (v := .pv (.int .i64 2)) (H' := [_, _]) rfl rfl rfl rfl rfl rfl ((cl19 _ _ _ _).trans (callRef_gen (R := [0, 1]) (bs := [_, _]) (bs1 := [_, _]) (bs3 := [_, _]) rfl rfl rfl rfl (feed_bad_ref h1 hok hr (dr2 draws j) _ (by omega)) rfl rfl rfl rfl)) rfl rfl rfl ?_
            refine wo_apv rfl rfl rfl rfl rfl ?_
            refine wo_nil ?_
            refine ⟨[_, _, _, _, _, _, _, _, _, _, _, _, _, _, _, _, _, _, _, _, _, _, _, _, _, _, _, _, _, _, _, _, _, _, _, _, _, _, _, _, _, _, _, _, _, _, _, _, _, _, _, _, _, _, _, _, _, _, _, _, _, _, _, _, _, _, _, _, _, _, _, _, _, _, _, _, _, _, _, _, _, _, _, _, _, _, _, _, _, _, _, _, _, _, _, _, _, _, _, _, _, _, _, _, _, _, _, _, _, _, _, _, _, _, _, _, _, _, _, _, _], rfl, ?_⟩
            refine wp_seq ?_
            refine wp_seq ?_
            refine wp_region rfl rfl ?_
            refine wo_mpv rfl rfl rfl rfl rfl ?_
            refine wo_mpv rfl rfl rfl rfl rfl ?_
            refine wo_mpv rfl rfl rfl rfl rfl ?_
            refine wo_bin (v := .pv (.int .i64 ((j + 1 : Nat) : Int))) rfl rfl rfl rfl (iV (by rw [wrapI (by omega) (by omega)]; omega)) ?_
            refine wo_slice (v := .pv (.sl [(l[j]).row])) t31 t40 rfl rfl rfl rfl hp.noStr (hp.slice1 hjl) ?_
            refine wo_call (v := .tup [.pv px, .pv (.int .i64 2)]) (H' := [_, _]) rfl rfl rfl rfl rfl rfl ((cl20 _ _ _ _).trans (callPure_any rfl (fun _ => rfl) rfl hone)) rfl rfl rfl ?_
            refine wo_move (v := .tup _) rfl rfl rfl rfl rfl (fun h => AV.noConfusion h) ?_
            refine wo_extract (v := .pv _) rfl rfl rfl rfl rfl rfl ?_
            refine wo_extract (v := .pv _) rfl rfl rfl rfl rfl rfl ?_
            refine wo_apv rfl rfl rfl rfl rfl ?_
            refine wo_apv rfl rfl rfl rfl rfl ?_
            refine wo_nil ?_
            refine ⟨[_, _, _, _, _, _, _, _, _, _, _, _, _, _, _, _, _, _, _, _, _, _, _, _, _, _, _, _, _, _, _, _, _, _, _, _, _, _, _, _, _, _, _, _, _, _, _, _, _, _, _, _, _, _, _, _, _, _, _, _, _, _, _, _, _, _, _, _, _, _, _, _, _, _, _, _, _, _, _, _, _, _, _, _, _, _, _, _, _, _, _, _, _, _, _, _, _, _, _, _, _, _, _, _, _, _, _, _, _, _, _, _, _, _, _, _, _, _, _, _, _], rfl, ?_⟩
            refine wp_seq ?_
            refine wp_region rfl rfl ?_
            refine wo_mpv rfl rfl rfl rfl rfl ?_
            refine wo_bin (v := .pv (.bool true)) rfl rfl rfl rfl (nT (by decide)) ?_
            refine wo_nil ?_
            refine ⟨[_, _, _, _, _, _, _, _, _, _, _, _, _, _, _, _, _, _, _, _, _, _, _, _, _, _, _, _, _, _, _, _, _, _, _, _, _, _, _, _, _, _, _, _, _, _, _, _, _, _, _, _, _, _, _, _, _, _, _, _, _, _, _, _, _, _, _, _, _, _, _, _, _, _, _, _, _, _, _, _, _, _, _, _, _, _, _, _, _, _, _, _, _, _, _, _, _, _, _, _, _, _, _, _, _, _, _, _, _, _, _, _, _, _, _, _, _, _, _, _, _], rfl, ?_⟩
            refine wp_true rfl ?_
            refine wp_seq ?_
            refine wp_region rfl rfl ?_
            refine wo_mpv rfl rfl rfl rfl rfl ?_
            refine wo_mpv rfl rfl rfl rfl rfl ?_
            refine wo_bin (v := .pv (.bool false)) rfl rfl rfl rfl (nF rfl) ?_
            refine wo_nil ?_
            refine ⟨[_, _, _, _, _, _, _, _, _, _, _, _, _, _, _, _, _, _, _, _, _, _, _, _, _, _, _, _, _, _, _, _, _, _, _, _, _, _, _, _, _, _, _, _, _, _, _, _, _, _, _, _, _, _, _, _, _, _, _, _, _, _, _, _, _, _, _, _, _, _, _, _, _, _, _, _, _, _, _, _, _, _, _, _, _, _, _, _, _, _, _, _, _, _, _, _, _, _, _, _, _, _, _, _, _, _, _, _, _, _, _, _, _, _, _, _, _, _, _, _, _], rfl, ?_⟩
            refine wp_false rfl ?_
            refine wp_skip ?_
            refine wp_seq ?_
            refine wp_region rfl rfl ?_
            refine wo_move (v := .ptr _ _) rfl rfl rfl rfl rfl (fun h => AV.noConfusion h) ?_
            refine wo_call (v := VR 2 a) (H' := [_, _, _]) rfl rfl rfl rfl rfl rfl ((cl22 _ _ _ _).trans (callRef_gen (R := [0, 1]) (bs := [_, _]) (bs1 := [_, _]) (bs3 := [_, _, _]) rfl rfl rfl rfl (sample_ref (l := a) (fl := fl) (by omega) (by first | exact hfl | (simp; done) | (simp; omega)) _ (by omega)) rfl rfl rfl rfl)) rfl rfl rfl ?_
            refine wo_assign (v := .ref _ _ _ _ _ _) rfl rfl rfl rfl rfl (fun h => AV.noConfusion h) ?_
            refine wo_nil ?_
            refine ⟨[_, _, _, _, _, _, _, _, _, _, _, _, _, _, _, _, _, _, _, _, _, _, _, _, _, _, _, _, _, _, _, _, _, _, _, _, _, _, _, _, _, _, _, _, _, _, _, _, _, _, _, _, _, _, _, _, _, _, _, _, _, _, _, _, _, _, _, _, _, _, _, _, _, _, _, _, _, _, _, _, _, _, _, _, _, _, _, _, _, _, _, _, _, _, _, _, _, _, _, _, _, _, _, _, _, _, _, _, _, _, _, _, _, _, _, _, _, _, _, _, _], rfl, ?_⟩
            refine wp_seq ?_
            refine wp_seq ?_
            refine wp_region rfl rfl ?_
            refine wo_move (v := .ref _ _ _ _ _ _) rfl rfl rfl rfl rfl (fun h => AV.noConfusion h) ?_
            refine wo_mpv rfl rfl rfl rfl rfl ?_
            refine wo_call (v := .pv (.bool true)) (H' := [_, _, _]) rfl rfl rfl rfl rfl rfl ((cl23 _ _ _ _).trans (callPure_vr (l := a) (fl := List.length a) (st := 0) (fz := 0) rfl (Nat.le_refl _) rfl (fun _ => rfl) rfl (exactL_ok (.inl rfl) hpb2 oa2 ob2 hab2.1 hab2.2 (by omega) _ (by omega)))) rfl rfl rfl ?_
            refine wo_un rfl rfl rfl rfl rfl ?_
            refine wo_mpv rfl rfl rfl rfl rfl ?_
            refine wo_move (v := .ptr _ _) rfl rfl rfl rfl rfl (fun h => AV.noConfusion h) ?_
            refine wo_call (v := .pv _) (H' := [_, _, _]) rfl rfl rfl rfl rfl rfl ((cl24 _ _ _ _).trans (callRef_gen (R := [0, 1]) (bs := [_, _]) (bs1 := [_, _]) (bs3 := [_, _]) rfl rfl rfl rfl (seen_ref _ _ _ a _ (by omega)) rfl rfl rfl rfl)) rfl rfl rfl ?_
            refine wo_mpv rfl rfl rfl rfl rfl ?_
            refine wo_bin (v := .pv (.bool false)) rfl rfl rfl rfl (nF rfl) ?_
            refine wo_pick (v := .pv _) rfl rfl rfl rfl rfl rfl ?_
            refine wo_nil ?_
            refine ⟨[_, _, _, _, _, _, _, _, _, _, _, _, _, _, _, _, _, _, _, _, _, _, _, _, _, _, _, _, _, _, _, _, _, _, _, _, _, _, _, _, _, _, _, _, _, _, _, _, _, _, _, _, _, _, _, _, _, _, _, _, _, _, _, _, _, _, _, _, _, _, _, _, _, _, _, _, _, _, _, _, _, _, _, _, _, _, _, _, _, _, _, _, _, _, _, _, _, _, _, _, _, _, _, _, _, _, _, _, _, _, _, _, _, _, _, _, _, _, _, _, _], rfl, ?_⟩
            refine wp_false rfl ?_
            refine wp_skip ?_
            refine wp_seq ?_
            refine wp_region rfl rfl ?_
            refine wo_move (v := .ref _ _ _ _ _ _) rfl rfl rfl rfl rfl (fun h => AV.noConfusion h) ?_
            refine wo_len t31 rfl rfl rfl rfl rfl rfl rfl rfl rfl ?_
            refine wo_mpv rfl rfl rfl rfl rfl ?_
            refine wo_nil ?_
            refine ⟨[_, _, _, _, _, _, _, _, _, _, _, _, _, _, _, _, _, _, _, _, _, _, _, _, _, _, _, _, _, _, _, _, _, _, _, _, _, _, _, _, _, _, _, _, _, _, _, _, _, _, _, _, _, _, _, _, _, _, _, _, _, _, _, _, _, _, _, _, _, _, _, _, _, _, _, _, _, _, _, _, _, _, _, _, _, _, _, _, _, _, _, _, _, _, _, _, _, _, _, _, _, _, _, _, _, _, _, _, _, _, _, _, _, _, _, _, _, _, _, _, _], rfl, ?_⟩
            refine wp_block ?_
            refine wp_loop (fun k2 t H => ∃ (i : Nat) (rows : List (List PV)) (fl2 : Nat), i + k2 = List.length a ∧ rows.length = List.length a ∧ (∀ r ∈ rows, r.length = 4) ∧ fl2 ≤ List.length a ∧ t = [.pv p, .pv (.int .i64 size), .pv q, .any, .any, .any, .any, .ptr 0 0, .any, .pv pb, .pv (.int .i64 (sn : Nat)), .pv (.int .i64 (j : Nat)), .any, .any, .any, .any, VR 2 a, .any, .any, .any, .any, .any, .any, .any, .any, .any, .any, .any, .any, .any, .any, .any, .any, .any, .any, .any, .any, .any, .any, .any, .any, .any, .any, .any, .any, .any, .any, .any, .any, .any, .any, .any, .any, .any, .any, .any, .any, .any, .any, .any, .any, .any, .any, .any, .any, .any, .any, .any, .any, .any, .any, .any, .any, .any, .any, .any, .any, .any, .any, .any, .any, .any, .any, .any, .any, .any, .any, .any, .any, .any, .any, .any, .any, .any, .any, .any, .any, .any, .any, .any, .any, .any, .any, .any, .any, .any, .any, .any, .any, .any, .any, .pv (.int .i64 (List.length a)), .pv (.int .i64 (i : Nat)), .any, .any, .any, .any, .any, .any, .any, .any] ∧ H = [RX size sn (VR 1 a), VB a fl, RB4 rows fl2]) (List.length a) ⟨0, List.map V.row a, List.length a, by omega, by simp, rows4 _, by omega, rfl, rfl⟩ (by omega) ?_
            rintro k2 _ _ hk2 ⟨i, rows, fl2, hik, hrl, hr4, hfl2, rfl, rfl⟩
            refine wp_seq ?_
            refine wp_region rfl rfl ?_
            refine wo_bsplit rfl rfl rfl rfl rfl (fun c27_0 => ?_) (fun c27_0 => ?_)
            ·
              refine wo_nil ?_
              refine ⟨[_, _, _, _, _, _, _, _, _, _, _, _, _, _, _, _, _, _, _, _, _, _, _, _, _, _, _, _, _, _, _, _, _, _, _, _, _, _, _, _, _, _, _, _, _, _, _, _, _, _, _, _, _, _, _, _, _, _, _, _, _, _, _, _, _, _, _, _, _, _, _, _, _, _, _, _, _, _, _, _, _, _, _, _, _, _, _, _, _, _, _, _, _, _, _, _, _, _, _, _, _, _, _, _, _, _, _, _, _, _, _, _, _, _, _, _, _, _, _, _, _], rfl, ?_⟩
              refine wp_seq ?_
              refine wp_true rfl ?_
              refine wp_skip ?_
              refine wp_seq ?_
              refine wp_block ?_
              refine wp_seq ?_
              refine wp_region rfl rfl ?_
              refine wo_mpv rfl rfl rfl rfl rfl ?_
              refine wo_apv rfl rfl rfl rfl rfl ?_
              refine wo_nil ?_
              refine ⟨[_, _, _, _, _, _, _, _, _, _, _, _, _, _, _, _, _, _, _, _, _, _, _, _, _, _, _, _, _, _, _, _, _, _, _, _, _, _, _, _, _, _, _, _, _, _, _, _, _, _, _, _, _, _, _, _, _, _, _, _, _, _, _, _, _, _, _, _, _, _, _, _, _, _, _, _, _, _, _, _, _, _, _, _, _, _, _, _, _, _, _, _, _, _, _, _, _, _, _, _, _, _, _, _, _, _, _, _, _, _, _, _, _, _, _, _, _, _, _, _, _], rfl, ?_⟩
              refine wp_region rfl rfl ?_
              refine wo_move (v := .ref _ _ _ _ _ _) rfl rfl rfl rfl rfl (fun h => AV.noConfusion h) ?_
              refine wo_mpv rfl rfl rfl rfl rfl ?_
              refine wo_iaddr (v := .eptr 2 0 (List.length a) 4 i 0) rfl rfl rfl rfl ((iaddr_ref (j := i) t31 t40 rfl (by omega) rfl).trans (by rw [Nat.zero_add])) ?_
              refine wo_faddr t40 t3 rfl rfl rfl rfl rfl rfl rfl ?_
              refine wo_storeB (H' := [_, _, _]) rfl rfl rfl (store_kind rfl hrl hfl2 (by omega) hr4) rfl rfl rfl ?_
              refine wo_nil ?_
              refine ⟨[_, _, _, _, _, _, _, _, _, _, _, _, _, _, _, _, _, _, _, _, _, _, _, _, _, _, _, _, _, _, _, _, _, _, _, _, _, _, _, _, _, _, _, _, _, _, _, _, _, _, _, _, _, _, _, _, _, _, _, _, _, _, _, _, _, _, _, _, _, _, _, _, _, _, _, _, _, _, _, _, _, _, _, _, _, _, _, _, _, _, _, _, _, _, _, _, _, _, _, _, _, _, _, _, _, _, _, _, _, _, _, _, _, _, _, _, _, _, _, _, _], rfl, ?_⟩
              refine wp_region rfl rfl ?_
              refine wo_bin (v := .pv (.int .i64 ((i + 1 : Nat) : Int))) rfl rfl rfl rfl (iV (by rw [wrapI (by omega) (by omega)]; omega)) ?_
              refine wo_mpv rfl rfl rfl rfl rfl ?_
              refine wo_nil ?_
              refine ⟨[_, _, _, _, _, _, _, _, _, _, _, _, _, _, _, _, _, _, _, _, _, _, _, _, _, _, _, _, _, _, _, _, _, _, _, _, _, _, _, _, _, _, _, _, _, _, _, _, _, _, _, _, _, _, _, _, _, _, _, _, _, _, _, _, _, _, _, _, _, _, _, _, _, _, _, _, _, _, _, _, _, _, _, _, _, _, _, _, _, _, _, _, _, _, _, _, _, _, _, _, _, _, _, _, _, _, _, _, _, _, _, _, _, _, _, _, _, _, _, _, _], rfl, ?_⟩
              refine ⟨_, _, tidy_norm (t' := [_, _, _, _, _, _, _, _, _, _, _, _, _, _, _, _, _, _, _, _, _, _, _, _, _, _, _, _, _, _, _, _, _, _, _, _, _, _, _, _, _, _, _, _, _, _, _, _, _, _, _, _, _, _, _, _, _, _, _, _, _, _, _, _, _, _, _, _, _, _, _, _, _, _, _, _, _, _, _, _, _, _, _, _, _, _, _, _, _, _, _, _, _, _, _, _, _, _, _, _, _, _, _, _, _, _, _, _, _, _, _, _, _, _, _, _, _, _, _, _, _]) rfl rfl rfl, k2 - 1, by omega, i + 1, setK rows i (.int .i64 99), List.length a, by omega, by rw [setK_len]; exact hrl, setK_4 _ (by omega) hr4, by omega, rfl, rfl⟩
            ·
              refine wo_nil ?_
              refine ⟨[_, _, _, _, _, _, _, _, _, _, _, _, _, _, _, _, _, _, _, _, _, _, _, _, _, _, _, _, _, _, _, _, _, _, _, _, _, _, _, _, _, _, _, _, _, _, _, _, _, _, _, _, _, _, _, _, _, _, _, _, _, _, _, _, _, _, _, _, _, _, _, _, _, _, _, _, _, _, _, _, _, _, _, _, _, _, _, _, _, _, _, _, _, _, _, _, _, _, _, _, _, _, _, _, _, _, _, _, _, _, _, _, _, _, _, _, _, _, _, _, _], rfl, ?_⟩
              refine wp_seq ?_
              refine wp_false rfl ?_
              refine wp_exit ?_
              refine wp_region rfl rfl ?_
              refine wo_mpv rfl rfl rfl rfl rfl ?_
              refine wo_bin (v := .pv (.int .i64 ((j + 1 : Nat) : Int))) rfl rfl rfl rfl (iV (by rw [wrapI (by omega) (by omega)]; omega)) ?_
              refine wo_apv rfl rfl rfl rfl rfl ?_
              refine wo_nil ?_
              refine ⟨[_, _, _, _, _, _, _, _, _, _, _, _, _, _, _, _, _, _, _, _, _, _, _, _, _, _, _, _, _, _, _, _, _, _, _, _, _, _, _, _, _, _, _, _, _, _, _, _, _, _, _, _, _, _, _, _, _, _, _, _, _, _, _, _, _, _, _, _, _, _, _, _, _, _, _, _, _, _, _, _, _, _, _, _, _, _, _, _, _, _, _, _, _, _, _, _, _, _, _, _, _, _, _, _, _, _, _, _, _, _, _, _, _, _, _, _, _, _, _, _, _], rfl, ?_⟩
              refine ⟨[.pv p, .pv (.int .i64 size), .pv q, .any, .any, .any, .any, .ptr 0 0, .any, .pv pb, .pv (.int .i64 (sn : Nat)), .pv (.int .i64 ((j + 1 : Nat) : Int)), .any, .any, .any, .any, .any, .any, .any, .any, .any, .any, .any, .any, .any, .any, .any, .any, .any, .any, .any, .any, .any, .any, .any, .any, .any, .any, .any, .any, .any, .any, .any, .any, .any, .any, .any, .any, .any, .any, .any, .any, .any, .any, .any, .any, .any, .any, .any, .any, .any, .any, .any, .any, .any, .any, .any, .any, .any, .any, .any, .any, .any, .any, .any, .any, .any, .any, .any, .any, .any, .any, .any, .any, .any, .any, .any, .any, .any, .any, .any, .any, .any, .any, .any, .any, .any, .any, .any, .any, .any, .any, .any, .any, .any, .any, .any, .any, .any, .any, .any, .any, .any, .any, .any, .any, .any, .any, .any, .any, .any], [RX size sn (VR 1 a), VB a fl], tidy_ren (t' := [_, _, _, _, _, _, _, _, _, _, _, _, _, _, _, _, _, _, _, _, _, _, _, _, _, _, _, _, _, _, _, _, _, _, _, _, _, _, _, _, _, _, _, _, _, _, _, _, _, _, _, _, _, _, _, _, _, _, _, _, _, _, _, _, _, _, _, _, _, _, _, _, _, _, _, _, _, _, _, _, _, _, _, _, _, _, _, _, _, _, _, _, _, _, _, _, _, _, _, _, _, _, _, _, _, _, _, _, _, _, _, _, _, _, _, _, _, _, _, _, _]) (order := [0, 1]) (bs := [_, _]) rfl rfl rfl (by kernel_rfl) (by kernel_rfl) rfl (by kernel_rfl), k - 1, by omega, j + 1, sn, a, b, pb, fl, by omega, by omega, la2, ?_, oa2, ob2, hab2, hpb2, rfl, ?_⟩
              · first | exact hfl | (simp; done) | (simp; omega)
              · refine .inr ⟨?_, rfl⟩; first | exact hne | (simp; done) | (intro h; apply hne; simpa using h)
          ·
            rw [if_pos hr] at hone
            have hF : feedM V.plain size a sn l[j] (dr2 draws j) = (a ++ [(l[j]).plain]) := by unfold feedM; first | rw [if_pos hlt] | rw [if_neg (by omega), if_pos hkk] | rw [if_neg (by omega), if_neg hkk] | (rw [if_pos (by simp; omega)]; rfl)
            have hab2 : EqL (a ++ [(l[j]).plain]) (feedM V.rplain size b sn l[j] (dr2 draws j)) := hF ▸ feed_eq hab hok size sn (dr2 draws j)
            have oa2 : OkL (a ++ [(l[j]).plain]) := hF ▸ okFeed oa (plain_ok hok)
            have ob2 : OkL (feedM V.rplain size b sn l[j] (dr2 draws j)) := okFeed ob (rright_plain hok)
            have la2 : List.length (a ++ [(l[j]).plain]) ≤ size := hF ▸ feedM_len hal
            have hpb2 : SV (.sl ((feedM V.rplain size b sn l[j] (dr2 draws j)).map V.row)) (feedM V.rplain size b sn l[j] (dr2 draws j)) := .inl rfl
            refine wo_call (v := .pv (.int .i64 0)) (H' := [_, _]) rfl rfl rfl rfl rfl rfl ((cl19 _ _ _ _).trans (callRef_gen (R := [0, 1]) (bs := [_, _]) (bs1 := [_, _]) (bs3 := [_, _]) rfl rfl rfl rfl (feed_add h1 h2 (by omega) hlt hfl hok hr (dr2 draws j) _ (by omega)) rfl rfl rfl rfl)) rfl rfl rfl ?_
            refine wo_apv rfl rfl rfl rfl rfl ?_
            refine wo_nil ?_
            refine ⟨[_, _, _, _, _, _, _, _, _, _, _, _, _, _, _, _, _, _, _, _, _, _, _, _, _, _, _, _, _, _, _, _, _, _, _, _, _, _, _, _, _, _, _, _, _, _, _, _, _, _, _, _, _, _, _, _, _, _, _, _, _, _, _, _, _, _, _, _, _, _, _, _, _, _, _, _, _, _, _, _, _, _, _, _, _, _, _, _, _, _, _, _, _, _, _, _, _, _, _, _, _, _, _, _, _, _, _, _, _, _, _, _, _, _, _, _, _, _, _, _, _], rfl, ?_⟩
            refine wp_seq ?_
            refine wp_seq ?_
            refine wp_region rfl rfl ?_
            refine wo_mpv rfl rfl rfl rfl rfl ?_
            refine wo_mpv rfl rfl rfl rfl rfl ?_
            refine wo_mpv rfl rfl rfl rfl rfl ?_
            refine wo_bin (v := .pv (.int .i64 ((j + 1 : Nat) : Int))) rfl rfl rfl rfl (iV (by rw [wrapI (by omega) (by omega)]; omega)) ?_
            refine wo_slice (v := .pv (.sl [(l[j]).row])) t31 t40 rfl rfl rfl rfl hp.noStr (hp.slice1 hjl) ?_
            refine wo_call (v := .tup [.pv px, .pv (.int .i64 0)]) (H' := [_, _]) rfl rfl rfl rfl rfl rfl ((cl20 _ _ _ _).trans (callPure_any rfl (fun _ => rfl) rfl hone)) rfl rfl rfl ?_
            refine wo_move (v := .tup _) rfl rfl rfl rfl rfl (fun h => AV.noConfusion h) ?_
            refine wo_extract (v := .pv _) rfl rfl rfl rfl rfl rfl ?_
            refine wo_extract (v := .pv _) rfl rfl rfl rfl rfl rfl ?_
            refine wo_apv rfl rfl rfl rfl rfl ?_
            refine wo_apv rfl rfl rfl rfl rfl ?_
            refine wo_nil ?_
            refine ⟨[_, _, _, _, _, _, _, _, _, _, _, _, _, _, _, _, _, _, _, _, _, _, _, _, _, _, _, _, _, _, _, _, _, _, _, _, _, _, _, _, _, _, _, _, _, _, _, _, _, _, _, _, _, _, _, _, _, _, _, _, _, _, _, _, _, _, _, _, _, _, _, _, _, _, _, _, _, _, _, _, _, _, _, _, _, _, _, _, _, _, _, _, _, _, _, _, _, _, _, _, _, _, _, _, _, _, _, _, _, _, _, _, _, _, _, _, _, _, _, _, _], rfl, ?_⟩
            refine wp_seq ?_
            refine wp_region rfl rfl ?_
            refine wo_mpv rfl rfl rfl rfl rfl ?_
            refine wo_bin (v := .pv (.bool false)) rfl rfl rfl rfl (nF rfl) ?_
            refine wo_nil ?_
            refine ⟨[_, _, _, _, _, _, _, _, _, _, _, _, _, _, _, _, _, _, _, _, _, _, _, _, _, _, _, _, _, _, _, _, _, _, _, _, _, _, _, _, _, _, _, _, _, _, _, _, _, _, _, _, _, _, _, _, _, _, _, _, _, _, _, _, _, _, _, _, _, _, _, _, _, _, _, _, _, _, _, _, _, _, _, _, _, _, _, _, _, _, _, _, _, _, _, _, _, _, _, _, _, _, _, _, _, _, _, _, _, _, _, _, _, _, _, _, _, _, _, _, _], rfl, ?_⟩
            refine wp_false rfl ?_
            refine wp_seq ?_
            refine wp_seq ?_
            refine wp_region rfl rfl ?_
            refine wo_mpv rfl rfl rfl rfl rfl ?_
            refine wo_bin (v := .pv (.bool false)) rfl rfl rfl rfl (nF rfl) ?_
            refine wo_nil ?_
            refine ⟨[_, _, _, _, _, _, _, _, _, _, _, _, _, _, _, _, _, _, _, _, _, _, _, _, _, _, _, _, _, _, _, _, _, _, _, _, _, _, _, _, _, _, _, _, _, _, _, _, _, _, _, _, _, _, _, _, _, _, _, _, _, _, _, _, _, _, _, _, _, _, _, _, _, _, _, _, _, _, _, _, _, _, _, _, _, _, _, _, _, _, _, _, _, _, _, _, _, _, _, _, _, _, _, _, _, _, _, _, _, _, _, _, _, _, _, _, _, _, _, _, _], rfl, ?_⟩
            refine wp_false rfl ?_
            refine wp_skip ?_
            refine wp_seq ?_
            refine wp_region rfl rfl ?_
            refine wo_mpv rfl rfl rfl rfl rfl ?_
            refine wo_mpv rfl rfl rfl rfl rfl ?_
            refine wo_mpv rfl rfl rfl rfl rfl ?_
            refine wo_mpv rfl rfl rfl rfl rfl ?_
            refine wo_mpv rfl rfl rfl rfl rfl ?_
            refine wo_iaddr (v := .pv (.ptr (l[j]).row 0)) rfl rfl rfl rfl (hp.get (i := j) hjl rfl) ?_
            refine wo_load (v := .agg [_, _, _, _]) t40 rfl rfl rfl rfl rfl rfl ?_
            refine wo_mpv rfl rfl rfl rfl rfl ?_
            refine wo_call (v := .pv (.sl ((feedM V.rplain size b sn l[j] (dr2 draws j)).map V.row))) (H' := [_, _]) rfl rfl rfl rfl rfl rfl ((cl21 _ _ _ _).trans (callPure_pv rfl (fun _ => rfl) (rfeed_ok hpb h1 h2 (by omega) (by have := hab.1; first | omega | (simp at this; omega)) hok (dr2_lt hd (by omega)) _ (by omega)))) rfl rfl rfl ?_
            refine wo_apv rfl rfl rfl rfl rfl ?_
            refine wo_nil ?_
            refine ⟨[_, _, _, _, _, _, _, _, _, _, _, _, _, _, _, _, _, _, _, _, _, _, _, _, _, _, _, _, _, _, _, _, _, _, _, _, _, _, _, _, _, _, _, _, _, _, _, _, _, _, _, _, _, _, _, _, _, _, _, _, _, _, _, _, _, _, _, _, _, _, _, _, _, _, _, _, _, _, _, _, _, _, _, _, _, _, _, _, _, _, _, _, _, _, _, _, _, _, _, _, _, _, _, _, _, _, _, _, _, _, _, _, _, _, _, _, _, _, _, _, _], rfl, ?_⟩
            refine wp_region rfl rfl ?_
            refine wo_mpv rfl rfl rfl rfl rfl ?_
            refine wo_bin (v := .pv (.int .i64 ((sn + 1 : Nat) : Int))) rfl rfl rfl rfl (iV (by rw [wrapI (by omega) (by omega)]; omega)) ?_
            refine wo_apv rfl rfl rfl rfl rfl ?_
            refine wo_nil ?_
            refine ⟨[_, _, _, _, _, _, _, _, _, _, _, _, _, _, _, _, _, _, _, _, _, _, _, _, _, _, _, _, _, _, _, _, _, _, _, _, _, _, _, _, _, _, _, _, _, _, _, _, _, _, _, _, _, _, _, _, _, _, _, _, _, _, _, _, _, _, _, _, _, _, _, _, _, _, _, _, _, _, _, _, _, _, _, _, _, _, _, _, _, _, _, _, _, _, _, _, _, _, _, _, _, _, _, _, _, _, _, _, _, _, _, _, _, _, _, _, _, _, _, _, _], rfl, ?_⟩
            refine wp_seq ?_
            refine wp_region rfl rfl ?_
            refine wo_move (v := .ptr _ _) rfl rfl rfl rfl rfl (fun h => AV.noConfusion h) ?_
            refine wo_call (v := VR 2 (a ++ [(l[j]).plain])) (H' := [_, _, _]) rfl rfl rfl rfl rfl rfl ((cl22 _ _ _ _).trans (callRef_gen (R := [0, 1]) (bs := [_, _]) (bs1 := [_, _]) (bs3 := [_, _, _]) rfl rfl rfl rfl (sample_ref (l := (a ++ [(l[j]).plain])) (fl := fl) (by omega) (by first | exact hfl | (simp; done) | (simp; omega)) _ (by omega)) rfl rfl rfl rfl)) rfl rfl rfl ?_
            refine wo_assign (v := .ref _ _ _ _ _ _) rfl rfl rfl rfl rfl (fun h => AV.noConfusion h) ?_
            refine wo_nil ?_
            refine ⟨[_, _, _, _, _, _, _, _, _, _, _, _, _, _, _, _, _, _, _, _, _, _, _, _, _, _, _, _, _, _, _, _, _, _, _, _, _, _, _, _, _, _, _, _, _, _, _, _, _, _, _, _, _, _, _, _, _, _, _, _, _, _, _, _, _, _, _, _, _, _, _, _, _, _, _, _, _, _, _, _, _, _, _, _, _, _, _, _, _, _, _, _, _, _, _, _, _, _, _, _, _, _, _, _, _, _, _, _, _, _, _, _, _, _, _, _, _, _, _, _, _], rfl, ?_⟩
            refine wp_seq ?_
            refine wp_seq ?_
            refine wp_region rfl rfl ?_
            refine wo_move (v := .ref _ _ _ _ _ _) rfl rfl rfl rfl rfl (fun h => AV.noConfusion h) ?_
            refine wo_mpv rfl rfl rfl rfl rfl ?_
            refine wo_call (v := .pv (.bool true)) (H' := [_, _, _]) rfl rfl rfl rfl rfl rfl ((cl23 _ _ _ _).trans (callPure_vr (l := (a ++ [(l[j]).plain])) (fl := List.length (a ++ [(l[j]).plain])) (st := 0) (fz := 0) rfl (Nat.le_refl _) rfl (fun _ => rfl) rfl (exactL_ok (.inl rfl) hpb2 oa2 ob2 hab2.1 hab2.2 (by omega) _ (by omega)))) rfl rfl rfl ?_
            refine wo_un rfl rfl rfl rfl rfl ?_
            refine wo_mpv rfl rfl rfl rfl rfl ?_
            refine wo_move (v := .ptr _ _) rfl rfl rfl rfl rfl (fun h => AV.noConfusion h) ?_
            refine wo_call (v := .pv _) (H' := [_, _, _]) rfl rfl rfl rfl rfl rfl ((cl24 _ _ _ _).trans (callRef_gen (R := [0, 1]) (bs := [_, _]) (bs1 := [_, _]) (bs3 := [_, _]) rfl rfl rfl rfl (seen_ref _ _ _ (a ++ [(l[j]).plain]) _ (by omega)) rfl rfl rfl rfl)) rfl rfl rfl ?_
            refine wo_mpv rfl rfl rfl rfl rfl ?_
            refine wo_bin (v := .pv (.bool false)) rfl rfl rfl rfl (nF rfl) ?_
            refine wo_pick (v := .pv _) rfl rfl rfl rfl rfl rfl ?_
            refine wo_nil ?_
            refine ⟨[_, _, _, _, _, _, _, _, _, _, _, _, _, _, _, _, _, _, _, _, _, _, _, _, _, _, _, _, _, _, _, _, _, _, _, _, _, _, _, _, _, _, _, _, _, _, _, _, _, _, _, _, _, _, _, _, _, _, _, _, _, _, _, _, _, _, _, _, _, _, _, _, _, _, _, _, _, _, _, _, _, _, _, _, _, _, _, _, _, _, _, _, _, _, _, _, _, _, _, _, _, _, _, _, _, _, _, _, _, _, _, _, _, _, _, _, _, _, _, _, _], rfl, ?_⟩
            refine wp_false rfl ?_
            refine wp_skip ?_
            refine wp_seq ?_
            refine wp_region rfl rfl ?_
            refine wo_move (v := .ref _ _ _ _ _ _) rfl rfl rfl rfl rfl (fun h => AV.noConfusion h) ?_
            refine wo_len t31 rfl rfl rfl rfl rfl rfl rfl rfl rfl ?_
            refine wo_mpv rfl rfl rfl rfl rfl ?_
            refine wo_nil ?_
            refine ⟨[_, _, _, _, _, _, _, _, _, _, _, _, _, _, _, _, _, _, _, _, _, _, _, _, _, _, _, _, _, _, _, _, _, _, _, _, _, _, _, _, _, _, _, _, _, _, _, _, _, _, _, _, _, _, _, _, _, _, _, _, _, _, _, _, _, _, _, _, _, _, _, _, _, _, _, _, _, _, _, _, _, _, _, _, _, _, _, _, _, _, _, _, _, _, _, _, _, _, _, _, _, _, _, _, _, _, _, _, _, _, _, _, _, _, _, _, _, _, _, _, _], rfl, ?_⟩
            refine wp_block ?_
            refine wp_loop (fun k2 t H => ∃ (i : Nat) (rows : List (List PV)) (fl2 : Nat), i + k2 = List.length (a ++ [(l[j]).plain]) ∧ rows.length = List.length (a ++ [(l[j]).plain]) ∧ (∀ r ∈ rows, r.length = 4) ∧ fl2 ≤ List.length (a ++ [(l[j]).plain]) ∧ t = [.pv p, .pv (.int .i64 size), .pv q, .any, .any, .any, .any, .ptr 0 0, .any, .pv (.sl ((feedM V.rplain size b sn l[j] (dr2 draws j)).map V.row)), .pv (.int .i64 ((sn + 1 : Nat) : Int)), .pv (.int .i64 (j : Nat)), .any, .any, .any, .any, VR 2 (a ++ [(l[j]).plain]), .any, .any, .any, .any, .any, .any, .any, .any, .any, .any, .any, .any, .any, .any, .any, .any, .any, .any, .any, .any, .any, .any, .any, .any, .any, .any, .any, .any, .any, .any, .any, .any, .any, .any, .any, .any, .any, .any, .any, .any, .any, .any, .any, .any, .any, .any, .any, .any, .any, .any, .any, .any, .any, .any, .any, .any, .any, .any, .any, .any, .any, .any, .any, .any, .any, .any, .any, .any, .any, .any, .any, .any, .any, .any, .any, .any, .any, .any, .any, .any, .any, .any, .any, .any, .any, .any, .any, .any, .any, .any, .any, .any, .any, .any, .pv (.int .i64 (List.length (a ++ [(l[j]).plain]))), .pv (.int .i64 (i : Nat)), .any, .any, .any, .any, .any, .any, .any, .any] ∧ H = [RX size (sn + 1) (VR 1 (a ++ [(l[j]).plain])), VB (a ++ [(l[j]).plain]) fl, RB4 rows fl2]) (List.length (a ++ [(l[j]).plain])) ⟨0, List.map V.row (a ++ [(l[j]).plain]), List.length (a ++ [(l[j]).plain]), by omega, by simp, rows4 _, by omega, rfl, rfl⟩ (by omega) ?_
            rintro k2 _ _ hk2 ⟨i, rows, fl2, hik, hrl, hr4, hfl2, rfl, rfl⟩
            refine wp_seq ?_
            refine wp_region rfl rfl ?_
            refine wo_bsplit rfl rfl rfl rfl rfl (fun c27_0 => ?_) (fun c27_0 => ?_)
            ·
              refine wo_nil ?_
              refine ⟨[_, _, _, _, _, _, _, _, _, _, _, _, _, _, _, _, _, _, _, _, _, _, _, _, _, _, _, _, _, _, _, _, _, _, _, _, _, _, _, _, _, _, _, _, _, _, _, _, _, _, _, _, _, _, _, _, _, _, _, _, _, _, _, _, _, _, _, _, _, _, _, _, _, _, _, _, _, _, _, _, _, _, _, _, _, _, _, _, _, _, _, _, _, _, _, _, _, _, _, _, _, _, _, _, _, _, _, _, _, _, _, _, _, _, _, _, _, _, _, _, _], rfl, ?_⟩
              refine wp_seq ?_
              refine wp_true rfl ?_
              refine wp_skip ?_
              refine wp_seq ?_
              refine wp_block ?_
              refine wp_seq ?_
              refine wp_region rfl rfl ?_
              refine wo_mpv rfl rfl rfl rfl rfl ?_
              refine wo_apv rfl rfl rfl rfl rfl ?_
              refine wo_nil ?_
              refine ⟨[_, _, _, _, _, _, _, _, _, _, _, _, _, _, _, _, _, _, _, _, _, _, _, _, _, _, _, _, _, _, _, _, _, _, _, _, _, _, _, _, _, _, _, _, _, _, _, _, _, _, _, _, _, _, _, _, _, _, _, _, _, _, _, _, _, _, _, _, _, _, _, _, _, _, _, _, _, _, _, _, _, _, _, _, _, _, _, _, _, _, _, _, _, _, _, _, _, _, _, _, _, _, _, _, _, _, _, _, _, _, _, _, _, _, _, _, _, _, _, _, _], rfl, ?_⟩
              refine wp_region rfl rfl ?_
              refine wo_move (v := .ref _ _ _ _ _ _) rfl rfl rfl rfl rfl (fun h => AV.noConfusion h) ?_
              refine wo_mpv rfl rfl rfl rfl rfl ?_
              refine wo_iaddr (v := .eptr 2 0 (List.length (a ++ [(l[j]).plain])) 4 i 0) rfl rfl rfl rfl ((iaddr_ref (j := i) t31 t40 rfl (by omega) rfl).trans (by rw [Nat.zero_add])) ?_
              refine wo_faddr t40 t3 rfl rfl rfl rfl rfl rfl rfl ?_
              refine wo_storeB (H' := [_, _, _]) rfl rfl rfl (store_kind rfl hrl hfl2 (by omega) hr4) rfl rfl rfl ?_
              refine wo_nil ?_
              refine ⟨[_, _, _, _, _, _, _, _, _, _, _, _, _, _, _, _, _, _, _, _, _, _, _, _, _, _, _, _, _, _, _, _, _, _, _, _, _, _, _, _, _, _, _, _, _, _, _, _, _, _, _, _, _, _, _, _, _, _, _, _, _, _, _, _, _, _, _, _, _, _, _, _, _, _, _, _, _, _, _, _, _, _, _, _, _, _, _, _, _, _, _, _, _, _, _, _, _, _, _, _, _, _, _, _, _, _, _, _, _, _, _, _, _, _, _, _, _, _, _, _, _], rfl, ?_⟩
              refine wp_region rfl rfl ?_
              refine wo_bin (v := .pv (.int .i64 ((i + 1 : Nat) : Int))) rfl rfl rfl rfl (iV (by rw [wrapI (by omega) (by omega)]; omega)) ?_
              refine wo_mpv rfl rfl rfl rfl rfl ?_
              refine wo_nil ?_
              refine ⟨[_, _, _, _, _, _, _, _, _, _, _, _, _, _, _, _, _, _, _, _, _, _, _, _, _, _, _, _, _, _, _, _, _, _, _, _, _, _, _, _, _, _, _, _, _, _, _, _, _, _, _, _, _, _, _, _, _, _, _, _, _, _, _, _, _, _, _, _, _, _, _, _, _, _, _, _, _, _, _, _, _, _, _, _, _, _, _, _, _, _, _, _, _, _, _, _, _, _, _, _, _, _, _, _, _, _, _, _, _, _, _, _, _, _, _, _, _, _, _, _, _], rfl, ?_⟩
              refine ⟨_, _, tidy_norm (t' := [_, _, _, _, _, _, _, _, _, _, _, _, _, _, _, _, _, _, _, _, _, _, _, _, _, _, _, _, _, _, _, _, _, _, _, _, _, _, _, _, _, _, _, _, _, _, _, _, _, _, _, _, _, _, _, _, _, _, _, _, _, _, _, _, _, _, _, _, _, _, _, _, _, _, _, _, _, _, _, _, _, _, _, _, _, _, _, _, _, _, _, _, _, _, _, _, _, _, _, _, _, _, _, _, _, _, _, _, _, _, _, _, _, _, _, _, _, _, _, _, _]) rfl rfl rfl, k2 - 1, by omega, i + 1, setK rows i (.int .i64 99), List.length (a ++ [(l[j]).plain]), by omega, by rw [setK_len]; exact hrl, setK_4 _ (by omega) hr4, by omega, rfl, rfl⟩
            ·
              refine wo_nil ?_
              refine ⟨[_, _, _, _, _, _, _, _, _, _, _, _, _, _, _, _, _, _, _, _, _, _, _, _, _, _, _, _, _, _, _, _, _, _, _, _, _, _, _, _, _, _, _, _, _, _, _, _, _, _, _, _, _, _, _, _, _, _, _, _, _, _, _, _, _, _, _, _, _, _, _, _, _, _, _, _, _, _, _, _, _, _, _, _, _, _, _, _, _, _, _, _, _, _, _, _, _, _, _, _, _, _, _, _, _, _, _, _, _, _, _, _, _, _, _, _, _, _, _, _, _], rfl, ?_⟩
              refine wp_seq ?_
              refine wp_false rfl ?_
              refine wp_exit ?_
              refine wp_region rfl rfl ?_
              refine wo_mpv rfl rfl rfl rfl rfl ?_
              refine wo_bin (v := .pv (.int .i64 ((j + 1 : Nat) : Int))) rfl rfl rfl rfl (iV (by rw [wrapI (by omega) (by omega)]; omega)) ?_
              refine wo_apv rfl rfl rfl rfl rfl ?_
              refine wo_nil ?_
              refine ⟨[_, _, _, _, _, _, _, _, _, _, _, _, _, _, _, _, _, _, _, _, _, _, _, _, _, _, _, _, _, _, _, _, _, _, _, _, _, _, _, _, _, _, _, _, _, _, _, _, _, _, _, _, _, _, _, _, _, _, _, _, _, _, _, _, _, _, _, _, _, _, _, _, _, _, _, _, _, _, _, _, _, _, _, _, _, _, _, _, _, _, _, _, _, _, _, _, _, _, _, _, _, _, _, _, _, _, _, _, _, _, _, _, _, _, _, _, _, _, _, _, _], rfl, ?_⟩
              refine ⟨[.pv p, .pv (.int .i64 size), .pv q, .any, .any, .any, .any, .ptr 0 0, .any, .pv (.sl ((feedM V.rplain size b sn l[j] (dr2 draws j)).map V.row)), .pv (.int .i64 ((sn + 1 : Nat) : Int)), .pv (.int .i64 ((j + 1 : Nat) : Int)), .any, .any, .any, .any, .any, .any, .any, .any, .any, .any, .any, .any, .any, .any, .any, .any, .any, .any, .any, .any, .any, .any, .any, .any, .any, .any, .any, .any, .any, .any, .any, .any, .any, .any, .any, .any, .any, .any, .any, .any, .any, .any, .any, .any, .any, .any, .any, .any, .any, .any, .any, .any, .any, .any, .any, .any, .any, .any, .any, .any, .any, .any, .any, .any, .any, .any, .any, .any, .any, .any, .any, .any, .any, .any, .any, .any, .any, .any, .any, .any, .any, .any, .any, .any, .any, .any, .any, .any, .any, .any, .any, .any, .any, .any, .any, .any, .any, .any, .any, .any, .any, .any, .any, .any, .any, .any, .any, .any, .any], [RX size (sn + 1) (VR 1 (a ++ [(l[j]).plain])), VB (a ++ [(l[j]).plain]) fl], tidy_ren (t' := [_, _, _, _, _, _, _, _, _, _, _, _, _, _, _, _, _, _, _, _, _, _, _, _, _, _, _, _, _, _, _, _, _, _, _, _, _, _, _, _, _, _, _, _, _, _, _, _, _, _, _, _, _, _, _, _, _, _, _, _, _, _, _, _, _, _, _, _, _, _, _, _, _, _, _, _, _, _, _, _, _, _, _, _, _, _, _, _, _, _, _, _, _, _, _, _, _, _, _, _, _, _, _, _, _, _, _, _, _, _, _, _, _, _, _, _, _, _, _, _, _]) (order := [0, 1]) (bs := [_, _]) rfl rfl rfl (by kernel_rfl) (by kernel_rfl) rfl (by kernel_rfl), k - 1, by omega, j + 1, (sn + 1), (a ++ [(l[j]).plain]), (feedM V.rplain size b sn l[j] (dr2 draws j)), (.sl ((feedM V.rplain size b sn l[j] (dr2 draws j)).map V.row)), fl, by omega, by omega, la2, ?_, oa2, ob2, hab2, hpb2, rfl, ?_⟩
              · first | exact hfl | (simp; done) | (simp; omega)
              · refine .inr ⟨?_, rfl⟩; first | exact hne | (simp; done) | (intro h; apply hne; simpa using h)
          ·
            rw [if_pos hr] at hone
            have hF : feedM V.plain size a sn l[j] (dr2 draws j) = (a.set ((dr2 draws j) % (sn + 1)) (l[j]).plain) := by unfold feedM; first | rw [if_pos hlt] | rw [if_neg (by omega), if_pos hkk] | rw [if_neg (by omega), if_neg hkk] | (rw [if_pos (by simp; omega)]; rfl)
            have hab2 : EqL (a.set ((dr2 draws j) % (sn + 1)) (l[j]).plain) (feedM V.rplain size b sn l[j] (dr2 draws j)) := hF ▸ feed_eq hab hok size sn (dr2 draws j)
            have oa2 : OkL (a.set ((dr2 draws j) % (sn + 1)) (l[j]).plain) := hF ▸ okFeed oa (plain_ok hok)
            have ob2 : OkL (feedM V.rplain size b sn l[j] (dr2 draws j)) := okFeed ob (rright_plain hok)
            have la2 : List.length (a.set ((dr2 draws j) % (sn + 1)) (l[j]).plain) ≤ size := hF ▸ feedM_len hal
            have hpb2 : SV (.sl ((feedM V.rplain size b sn l[j] (dr2 draws j)).map V.row)) (feedM V.rplain size b sn l[j] (dr2 draws j)) := .inl rfl
            refine wo_call (v := .pv (.int .i64 0)) (H' := [_, _]) rfl rfl rfl rfl rfl rfl ((cl19 _ _ _ _).trans (callRef_gen (R := [0, 1]) (bs := [_, _]) (bs1 := [_, _]) (bs3 := [_, _]) rfl rfl rfl rfl (feed_set' h1 h2 (by omega) hlt hfl hok hr (dr2_lt hd (by omega)) hkk _ (by omega)) rfl rfl rfl rfl)) rfl rfl rfl ?_
            refine wo_apv rfl rfl rfl rfl rfl ?_
            refine wo_nil ?_
            refine ⟨[_, _, _, _, _, _, _, _, _, _, _, _, _, _, _, _, _, _, _, _, _, _, _, _, _, _, _, _, _, _, _, _, _, _, _, _, _, _, _, _, _, _, _, _, _, _, _, _, _, _, _, _, _, _, _, _, _, _, _, _, _, _, _, _, _, _, _, _, _, _, _, _, _, _, _, _, _, _, _, _, _, _, _, _, _, _, _, _, _, _, _, _, _, _, _, _, _, _, _, _, _, _, _, _, _, _, _, _, _, _, _, _, _, _, _, _, _, _, _, _, _], rfl, ?_⟩
            refine wp_seq ?_
            refine wp_seq ?_
            refine wp_region rfl rfl ?_
            refine wo_mpv rfl rfl rfl rfl rfl ?_
            refine wo_mpv rfl rfl rfl rfl rfl ?_
            refine wo_mpv rfl rfl rfl rfl rfl ?_
            refine wo_bin (v := .pv (.int .i64 ((j + 1 : Nat) : Int))) rfl rfl rfl rfl (iV (by rw [wrapI (by omega) (by omega)]; omega)) ?_
            refine wo_slice (v := .pv (.sl [(l[j]).row])) t31 t40 rfl rfl rfl rfl hp.noStr (hp.slice1 hjl) ?_
            refine wo_call (v := .tup [.pv px, .pv (.int .i64 0)]) (H' := [_, _]) rfl rfl rfl rfl rfl rfl ((cl20 _ _ _ _).trans (callPure_any rfl (fun _ => rfl) rfl hone)) rfl rfl rfl ?_
            refine wo_move (v := .tup _) rfl rfl rfl rfl rfl (fun h => AV.noConfusion h) ?_
            refine wo_extract (v := .pv _) rfl rfl rfl rfl rfl rfl ?_
            refine wo_extract (v := .pv _) rfl rfl rfl rfl rfl rfl ?_
            refine wo_apv rfl rfl rfl rfl rfl ?_
            refine wo_apv rfl rfl rfl rfl rfl ?_
            refine wo_nil ?_
            refine ⟨[_, _, _, _, _, _, _, _, _, _, _, _, _, _, _, _, _, _, _, _, _, _, _, _, _, _, _, _, _, _, _, _, _, _, _, _, _, _, _, _, _, _, _, _, _, _, _, _, _, _, _, _, _, _, _, _, _, _, _, _, _, _, _, _, _, _, _, _, _, _, _, _, _, _, _, _, _, _, _, _, _, _, _, _, _, _, _, _, _, _, _, _, _, _, _, _, _, _, _, _, _, _, _, _, _, _, _, _, _, _, _, _, _, _, _, _, _, _, _, _, _], rfl, ?_⟩
            refine wp_seq ?_
            refine wp_region rfl rfl ?_
            refine wo_mpv rfl rfl rfl rfl rfl ?_
            refine wo_bin (v := .pv (.bool false)) rfl rfl rfl rfl (nF rfl) ?_
            refine wo_nil ?_
            refine ⟨[_, _, _, _, _, _, _, _, _, _, _, _, _, _, _, _, _, _, _, _, _, _, _, _, _, _, _, _, _, _, _, _, _, _, _, _, _, _, _, _, _, _, _, _, _, _, _, _, _, _, _, _, _, _, _, _, _, _, _, _, _, _, _, _, _, _, _, _, _, _, _, _, _, _, _, _, _, _, _, _, _, _, _, _, _, _, _, _, _, _, _, _, _, _, _, _, _, _, _, _, _, _, _, _, _, _, _, _, _, _, _, _, _, _, _, _, _, _, _, _, _], rfl, ?_⟩
            refine wp_false rfl ?_
            refine wp_seq ?_
            refine wp_seq ?_
            refine wp_region rfl rfl ?_
            refine wo_mpv rfl rfl rfl rfl rfl ?_
            refine wo_bin (v := .pv (.bool false)) rfl rfl rfl rfl (nF rfl) ?_
            refine wo_nil ?_
            refine ⟨[_, _, _, _, _, _, _, _, _, _, _, _, _, _, _, _, _, _, _, _, _, _, _, _, _, _, _, _, _, _, _, _, _, _, _, _, _, _, _, _, _, _, _, _, _, _, _, _, _, _, _, _, _, _, _, _, _, _, _, _, _, _, _, _, _, _, _, _, _, _, _, _, _, _, _, _, _, _, _, _, _, _, _, _, _, _, _, _, _, _, _, _, _, _, _, _, _, _, _, _, _, _, _, _, _, _, _, _, _, _, _, _, _, _, _, _, _, _, _, _, _], rfl, ?_⟩
            refine wp_false rfl ?_
            refine wp_skip ?_
            refine wp_seq ?_
            refine wp_region rfl rfl ?_
            refine wo_mpv rfl rfl rfl rfl rfl ?_
            refine wo_mpv rfl rfl rfl rfl rfl ?_
            refine wo_mpv rfl rfl rfl rfl rfl ?_
            refine wo_mpv rfl rfl rfl rfl rfl ?_
            refine wo_mpv rfl rfl rfl rfl rfl ?_
            refine wo_iaddr (v := .pv (.ptr (l[j]).row 0)) rfl rfl rfl rfl (hp.get (i := j) hjl rfl) ?_
            refine wo_load (v := .agg [_, _, _, _]) t40 rfl rfl rfl rfl rfl rfl ?_
            refine wo_mpv rfl rfl rfl rfl rfl ?_
            refine wo_call (v := .pv (.sl ((feedM V.rplain size b sn l[j] (dr2 draws j)).map V.row))) (H' := [_, _]) rfl rfl rfl rfl rfl rfl ((cl21 _ _ _ _).trans (callPure_pv rfl (fun _ => rfl) (rfeed_ok hpb h1 h2 (by omega) (by have := hab.1; first | omega | (simp at this; omega)) hok (dr2_lt hd (by omega)) _ (by omega)))) rfl rfl rfl ?_
            refine wo_apv rfl rfl rfl rfl rfl ?_
            refine wo_nil ?_
            refine ⟨[_, _, _, _, _, _, _, _, _, _, _, _, _, _, _, _, _, _, _, _, _, _, _, _, _, _, _, _, _, _, _, _, _, _, _, _, _, _, _, _, _, _, _, _, _, _, _, _, _, _, _, _, _, _, _, _, _, _, _, _, _, _, _, _, _, _, _, _, _, _, _, _, _, _, _, _, _, _, _, _, _, _, _, _, _, _, _, _, _, _, _, _, _, _, _, _, _, _, _, _, _, _, _, _, _, _, _, _, _, _, _, _, _, _, _, _, _, _, _, _, _], rfl, ?_⟩
            refine wp_region rfl rfl ?_
            refine wo_mpv rfl rfl rfl rfl rfl ?_
            refine wo_bin (v := .pv (.int .i64 ((sn + 1 : Nat) : Int))) rfl rfl rfl rfl (iV (by rw [wrapI (by omega) (by omega)]; omega)) ?_
            refine wo_apv rfl rfl rfl rfl rfl ?_
            refine wo_nil ?_
            refine ⟨[_, _, _, _, _, _, _, _, _, _, _, _, _, _, _, _, _, _, _, _, _, _, _, _, _, _, _, _, _, _, _, _, _, _, _, _, _, _, _, _, _, _, _, _, _, _, _, _, _, _, _, _, _, _, _, _, _, _, _, _, _, _, _, _, _, _, _, _, _, _, _, _, _, _, _, _, _, _, _, _, _, _, _, _, _, _, _, _, _, _, _, _, _, _, _, _, _, _, _, _, _, _, _, _, _, _, _, _, _, _, _, _, _, _, _, _, _, _, _, _, _], rfl, ?_⟩
            refine wp_seq ?_
            refine wp_region rfl rfl ?_
            refine wo_move (v := .ptr _ _) rfl rfl rfl rfl rfl (fun h => AV.noConfusion h) ?_
            refine wo_call (v := VR 2 (a.set ((dr2 draws j) % (sn + 1)) (l[j]).plain)) (H' := [_, _, _]) rfl rfl rfl rfl rfl rfl ((cl22 _ _ _ _).trans (callRef_gen (R := [0, 1]) (bs := [_, _]) (bs1 := [_, _]) (bs3 := [_, _, _]) rfl rfl rfl rfl (sample_ref (l := (a.set ((dr2 draws j) % (sn + 1)) (l[j]).plain)) (fl := a.length) (by omega) (by first | exact hfl | (simp; done) | (simp; omega)) _ (by omega)) rfl rfl rfl rfl)) rfl rfl rfl ?_
            refine wo_assign (v := .ref _ _ _ _ _ _) rfl rfl rfl rfl rfl (fun h => AV.noConfusion h) ?_
            refine wo_nil ?_
            refine ⟨[_, _, _, _, _, _, _, _, _, _, _, _, _, _, _, _, _, _, _, _, _, _, _, _, _, _, _, _, _, _, _, _, _, _, _, _, _, _, _, _, _, _, _, _, _, _, _, _, _, _, _, _, _, _, _, _, _, _, _, _, _, _, _, _, _, _, _, _, _, _, _, _, _, _, _, _, _, _, _, _, _, _, _, _, _, _, _, _, _, _, _, _, _, _, _, _, _, _, _, _, _, _, _, _, _, _, _, _, _, _, _, _, _, _, _, _, _, _, _, _, _], rfl, ?_⟩
            refine wp_seq ?_
            refine wp_seq ?_
            refine wp_region rfl rfl ?_
            refine wo_move (v := .ref _ _ _ _ _ _) rfl rfl rfl rfl rfl (fun h => AV.noConfusion h) ?_
            refine wo_mpv rfl rfl rfl rfl rfl ?_
            refine wo_call (v := .pv (.bool true)) (H' := [_, _, _]) rfl rfl rfl rfl rfl rfl ((cl23 _ _ _ _).trans (callPure_vr (l := (a.set ((dr2 draws j) % (sn + 1)) (l[j]).plain)) (fl := List.length (a.set ((dr2 draws j) % (sn + 1)) (l[j]).plain)) (st := 0) (fz := 0) rfl (Nat.le_refl _) rfl (fun _ => rfl) rfl (exactL_ok (.inl rfl) hpb2 oa2 ob2 hab2.1 hab2.2 (by omega) _ (by omega)))) rfl rfl rfl ?_
            refine wo_un rfl rfl rfl rfl rfl ?_
            refine wo_mpv rfl rfl rfl rfl rfl ?_
            refine wo_move (v := .ptr _ _) rfl rfl rfl rfl rfl (fun h => AV.noConfusion h) ?_
            refine wo_call (v := .pv _) (H' := [_, _, _]) rfl rfl rfl rfl rfl rfl ((cl24 _ _ _ _).trans (callRef_gen (R := [0, 1]) (bs := [_, _]) (bs1 := [_, _]) (bs3 := [_, _]) rfl rfl rfl rfl (seen_ref _ _ _ (a.set ((dr2 draws j) % (sn + 1)) (l[j]).plain) _ (by omega)) rfl rfl rfl rfl)) rfl rfl rfl ?_
            refine wo_mpv rfl rfl rfl rfl rfl ?_
            refine wo_bin (v := .pv (.bool false)) rfl rfl rfl rfl (nF rfl) ?_
            refine wo_pick (v := .pv _) rfl rfl rfl rfl rfl rfl ?_
            refine wo_nil ?_
            refine ⟨[_, _, _, _, _, _, _, _, _, _, _, _, _, _, _, _, _, _, _, _, _, _, _, _, _, _, _, _, _, _, _, _, _, _, _, _, _, _, _, _, _, _, _, _, _, _, _, _, _, _, _, _, _, _, _, _, _, _, _, _, _, _, _, _, _, _, _, _, _, _, _, _, _, _, _, _, _, _, _, _, _, _, _, _, _, _, _, _, _, _, _, _, _, _, _, _, _, _, _, _, _, _, _, _, _, _, _, _, _, _, _, _, _, _, _, _, _, _, _, _, _], rfl, ?_⟩
            refine wp_false rfl ?_
            refine wp_skip ?_
            refine wp_seq ?_
            refine wp_region rfl rfl ?_
            refine wo_move (v := .ref _ _ _ _ _ _) rfl rfl rfl rfl rfl (fun h => AV.noConfusion h) ?_
            refine wo_len t31 rfl rfl rfl rfl rfl rfl rfl rfl rfl ?_
            refine wo_mpv rfl rfl rfl rfl rfl ?_
            refine wo_nil ?_
            refine ⟨[_, _, _, _, _, _, _, _, _, _, _, _, _, _, _, _, _, _, _, _, _, _, _, _, _, _, _, _, _, _, _, _, _, _, _, _, _, _, _, _, _, _, _, _, _, _, _, _, _, _, _, _, _, _, _, _, _, _, _, _, _, _, _, _, _, _, _, _, _, _, _, _, _, _, _, _, _, _, _, _, _, _, _, _, _, _, _, _, _, _, _, _, _, _, _, _, _, _, _, _, _, _, _, _, _, _, _, _, _, _, _, _, _, _, _, _, _, _, _, _, _], rfl, ?_⟩
            refine wp_block ?_
            refine wp_loop (fun k2 t H => ∃ (i : Nat) (rows : List (List PV)) (fl2 : Nat), i + k2 = List.length (a.set ((dr2 draws j) % (sn + 1)) (l[j]).plain) ∧ rows.length = List.length (a.set ((dr2 draws j) % (sn + 1)) (l[j]).plain) ∧ (∀ r ∈ rows, r.length = 4) ∧ fl2 ≤ List.length (a.set ((dr2 draws j) % (sn + 1)) (l[j]).plain) ∧ t = [.pv p, .pv (.int .i64 size), .pv q, .any, .any, .any, .any, .ptr 0 0, .any, .pv (.sl ((feedM V.rplain size b sn l[j] (dr2 draws j)).map V.row)), .pv (.int .i64 ((sn + 1 : Nat) : Int)), .pv (.int .i64 (j : Nat)), .any, .any, .any, .any, VR 2 (a.set ((dr2 draws j) % (sn + 1)) (l[j]).plain), .any, .any, .any, .any, .any, .any, .any, .any, .any, .any, .any, .any, .any, .any, .any, .any, .any, .any, .any, .any, .any, .any, .any, .any, .any, .any, .any, .any, .any, .any, .any, .any, .any, .any, .any, .any, .any, .any, .any, .any, .any, .any, .any, .any, .any, .any, .any, .any, .any, .any, .any, .any, .any, .any, .any, .any, .any, .any, .any, .any, .any, .any, .any, .any, .any, .any, .any, .any, .any, .any, .any, .any, .any, .any, .any, .any, .any, .any, .any, .any, .any, .any, .any, .any, .any, .any, .any, .any, .any, .any, .any, .any, .any, .any, .pv (.int .i64 (List.length (a.set ((dr2 draws j) % (sn + 1)) (l[j]).plain))), .pv (.int .i64 (i : Nat)), .any, .any, .any, .any, .any, .any, .any, .any] ∧ H = [RX size (sn + 1) (VR 1 (a.set ((dr2 draws j) % (sn + 1)) (l[j]).plain)), VB (a.set ((dr2 draws j) % (sn + 1)) (l[j]).plain) a.length, RB4 rows fl2]) (List.length (a.set ((dr2 draws j) % (sn + 1)) (l[j]).plain)) ⟨0, List.map V.row (a.set ((dr2 draws j) % (sn + 1)) (l[j]).plain), List.length (a.set ((dr2 draws j) % (sn + 1)) (l[j]).plain), by omega, by simp, rows4 _, by omega, rfl, rfl⟩ (by omega) ?_
            rintro k2 _ _ hk2 ⟨i, rows, fl2, hik, hrl, hr4, hfl2, rfl, rfl⟩
            refine wp_seq ?_
            refine wp_region rfl rfl ?_
            refine wo_bsplit rfl rfl rfl rfl rfl (fun c27_0 => ?_) (fun c27_0 => ?_)
            ·
              refine wo_nil ?_
              refine ⟨[_, _, _, _, _, _, _, _, _, _, _, _, _, _, _, _, _, _, _, _, _, _, _, _, _, _, _, _, _, _, _, _, _, _, _, _, _, _, _, _, _, _, _, _, _, _, _, _, _, _, _, _, _, _, _, _, _, _, _, _, _, _, _, _, _, _, _, _, _, _, _, _, _, _, _, _, _, _, _, _, _, _, _, _, _, _, _, _, _, _, _, _, _, _, _, _, _, _, _, _, _, _, _, _, _, _, _, _, _, _, _, _, _, _, _, _, _, _, _, _, _], rfl, ?_⟩
              refine wp_seq ?_
              refine wp_true rfl ?_
              refine wp_skip ?_
              refine wp_seq ?_
              refine wp_block ?_
              refine wp_seq ?_
              refine wp_region rfl rfl ?_
              refine wo_mpv rfl rfl rfl rfl rfl ?_
              refine wo_apv rfl rfl rfl rfl rfl ?_
              refine wo_nil ?_
              refine ⟨[_, _, _, _, _, _, _, _, _, _, _, _, _, _, _, _, _, _, _, _, _, _, _, _, _, _, _, _, _, _, _, _, _, _, _, _, _, _, _, _, _, _, _, _, _, _, _, _, _, _, _, _, _, _, _, _, _, _, _, _, _, _, _, _, _, _, _, _, _, _, _, _, _, _, _, _, _, _, _, _, _, _, _, _, _, _, _, _, _, _, _, _, _, _, _, _, _, _, _, _, _, _, _, _, _, _, _, _, _, _, _, _, _, _, _, _, _, _, _, _, _], rfl, ?_⟩
              refine wp_region rfl rfl ?_
              refine wo_move (v := .ref _ _ _ _ _ _) rfl rfl rfl rfl rfl (fun h => AV.noConfusion h) ?_
              refine wo_mpv rfl rfl rfl rfl rfl ?_
              refine wo_iaddr (v := .eptr 2 0 (List.length (a.set ((dr2 draws j) % (sn + 1)) (l[j]).plain)) 4 i 0) rfl rfl rfl rfl ((iaddr_ref (j := i) t31 t40 rfl (by omega) rfl).trans (by rw [Nat.zero_add])) ?_
              refine wo_faddr t40 t3 rfl rfl rfl rfl rfl rfl rfl ?_
              refine wo_storeB (H' := [_, _, _]) rfl rfl rfl (store_kind rfl hrl hfl2 (by omega) hr4) rfl rfl rfl ?_
              refine wo_nil ?_
              refine ⟨[_, _, _, _, _, _, _, _, _, _, _, _, _, _, _, _, _, _, _, _, _, _, _, _, _, _, _, _, _, _, _, _, _, _, _, _, _, _, _, _, _, _, _, _, _, _, _, _, _, _, _, _, _, _, _, _, _, _, _, _, _, _, _, _, _, _, _, _, _, _, _, _, _, _, _, _, _, _, _, _, _, _, _, _, _, _, _, _, _, _, _, _, _, _, _, _, _, _, _, _, _, _, _, _, _, _, _, _, _, _, _, _, _, _, _, _, _, _, _, _, _], rfl, ?_⟩
              refine wp_region rfl rfl ?_
              refine wo_bin (v := .pv (.int .i64 ((i + 1 : Nat) : Int))) rfl rfl rfl rfl (iV (by rw [wrapI (by omega) (by omega)]; omega)) ?_
              refine wo_mpv rfl rfl rfl rfl rfl ?_
              refine wo_nil ?_
              refine ⟨[_, _, _, _, _, _, _, _, _, _, _, _, _, _, _, _, _, _, _, _, _, _, _, _, _, _, _, _, _, _, _, _, _, _, _, _, _, _, _, _, _, _, _, _, _, _, _, _, _, _, _, _, _, _, _, _, _, _, _, _, _, _, _, _, _, _, _, _, _, _, _, _, _, _, _, _, _, _, _, _, _, _, _, _, _, _, _, _, _, _, _, _, _, _, _, _, _, _, _, _, _, _, _, _, _, _, _, _, _, _, _, _, _, _, _, _, _, _, _, _, _], rfl, ?_⟩
              refine ⟨_, _, tidy_norm (t' := [_, _, _, _, _, _, _, _, _, _, _, _, _, _, _, _, _, _, _, _, _, _, _, _, _, _, _, _, _, _, _, _, _, _, _, _, _, _, _, _, _, _, _, _, _, _, _, _, _, _, _, _, _, _, _, _, _, _, _, _, _, _, _, _, _, _, _, _, _, _, _, _, _, _, _, _, _, _, _, _, _, _, _, _, _, _, _, _, _, _, _, _, _, _, _, _, _, _, _, _, _, _, _, _, _, _, _, _, _, _, _, _, _, _, _, _, _, _, _, _, _]) rfl rfl rfl, k2 - 1, by omega, i + 1, setK rows i (.int .i64 99), List.length (a.set ((dr2 draws j) % (sn + 1)) (l[j]).plain), by omega, by rw [setK_len]; exact hrl, setK_4 _ (by omega) hr4, by omega, rfl, rfl⟩
            ·
              refine wo_nil ?_
              refine ⟨[_, _, _, _, _, _, _, _, _, _, _, _, _, _, _, _, _, _, _, _, _, _, _, _, _, _, _, _, _, _, _, _, _, _, _, _, _, _, _, _, _, _, _, _, _, _, _, _, _, _, _, _, _, _, _, _, _, _, _, _, _, _, _, _, _, _, _, _, _, _, _, _, _, _, _, _, _, _, _, _, _, _, _, _, _, _, _, _, _, _, _, _, _, _, _, _, _, _, _, _, _, _, _, _, _, _, _, _, _, _, _, _, _, _, _, _, _, _, _, _, _], rfl, ?_⟩
              refine wp_seq ?_
              refine wp_false rfl ?_
              refine wp_exit ?_
              refine wp_region rfl rfl ?_
              refine wo_mpv rfl rfl rfl rfl rfl ?_
              refine wo_bin (v := .pv (.int .i64 ((j + 1 : Nat) : Int))) rfl rfl rfl rfl (iV (by rw [wrapI (by omega) (by omega)]; omega)) ?_
              refine wo_apv rfl rfl rfl rfl rfl ?_
              refine wo_nil ?_
              refine ⟨[_, _, _, _, _, _, _, _, _, _, _, _, _, _, _, _, _, _, _, _, _, _, _, _, _, _, _, _, _, _, _, _, _, _, _, _, _, _, _, _, _, _, _, _, _, _, _, _, _, _, _, _, _, _, _, _, _, _, _, _, _, _, _, _, _, _, _, _, _, _, _, _, _, _, _, _, _, _, _, _, _, _, _, _, _, _, _, _, _, _, _, _, _, _, _, _, _, _, _, _, _, _, _, _, _, _, _, _, _, _, _, _, _, _, _, _, _, _, _, _, _], rfl, ?_⟩
              refine ⟨[.pv p, .pv (.int .i64 size), .pv q, .any, .any, .any, .any, .ptr 0 0, .any, .pv (.sl ((feedM V.rplain size b sn l[j] (dr2 draws j)).map V.row)), .pv (.int .i64 ((sn + 1 : Nat) : Int)), .pv (.int .i64 ((j + 1 : Nat) : Int)), .any, .any, .any, .any, .any, .any, .any, .any, .any, .any, .any, .any, .any, .any, .any, .any, .any, .any, .any, .any, .any, .any, .any, .any, .any, .any, .any, .any, .any, .any, .any, .any, .any, .any, .any, .any, .any, .any, .any, .any, .any, .any, .any, .any, .any, .any, .any, .any, .any, .any, .any, .any, .any, .any, .any, .any, .any, .any, .any, .any, .any, .any, .any, .any, .any, .any, .any, .any, .any, .any, .any, .any, .any, .any, .any, .any, .any, .any, .any, .any, .any, .any, .any, .any, .any, .any, .any, .any, .any, .any, .any, .any, .any, .any, .any, .any, .any, .any, .any, .any, .any, .any, .any, .any, .any, .any, .any, .any, .any], [RX size (sn + 1) (VR 1 (a.set ((dr2 draws j) % (sn + 1)) (l[j]).plain)), VB (a.set ((dr2 draws j) % (sn + 1)) (l[j]).plain) a.length], tidy_ren (t' := [_, _, _, _, _, _, _, _, _, _, _, _, _, _, _, _, _, _, _, _, _, _, _, _, _, _, _, _, _, _, _, _, _, _, _, _, _, _, _, _, _, _, _, _, _, _, _, _, _, _, _, _, _, _, _, _, _, _, _, _, _, _, _, _, _, _, _, _, _, _, _, _, _, _, _, _, _, _, _, _, _, _, _, _, _, _, _, _, _, _, _, _, _, _, _, _, _, _, _, _, _, _, _, _, _, _, _, _, _, _, _, _, _, _, _, _, _, _, _, _, _]) (order := [0, 1]) (bs := [_, _]) rfl rfl rfl (by kernel_rfl) (by kernel_rfl) rfl (by kernel_rfl), k - 1, by omega, j + 1, (sn + 1), (a.set ((dr2 draws j) % (sn + 1)) (l[j]).plain), (feedM V.rplain size b sn l[j] (dr2 draws j)), (.sl ((feedM V.rplain size b sn l[j] (dr2 draws j)).map V.row)), a.length, by omega, by omega, la2, ?_, oa2, ob2, hab2, hpb2, rfl, ?_⟩
              · first | exact hfl | (simp; done) | (simp; omega)
              · refine .inr ⟨?_, rfl⟩; first | exact hne | (simp; done) | (intro h; apply hne; simpa using h)
          ·
            rw [if_pos hr] at hone
            have hF : feedM V.plain size a sn l[j] (dr2 draws j) = a := by unfold feedM; first | rw [if_pos hlt] | rw [if_neg (by omega), if_pos hkk] | rw [if_neg (by omega), if_neg hkk] | (rw [if_pos (by simp; omega)]; rfl)
            have hab2 : EqL a (feedM V.rplain size b sn l[j] (dr2 draws j)) := hF ▸ feed_eq hab hok size sn (dr2 draws j)
            have oa2 : OkL a := hF ▸ okFeed oa (plain_ok hok)
            have ob2 : OkL (feedM V.rplain size b sn l[j] (dr2 draws j)) := okFeed ob (rright_plain hok)
            have la2 : List.length a ≤ size := hF ▸ feedM_len hal
            have hpb2 : SV (.sl ((feedM V.rplain size b sn l[j] (dr2 draws j)).map V.row)) (feedM V.rplain size b sn l[j] (dr2 draws j)) := .inl rfl
            refine wo_call (v := .pv (.int .i64 0)) (H' := [_, _]) rfl rfl rfl rfl rfl rfl ((cl19 _ _ _ _).trans (callRef_gen (R := [0, 1]) (bs := [_, _]) (bs1 := [_, _]) (bs3 := [_, _]) rfl rfl rfl rfl (feed_skip h1 h2 (by omega) hlt hok hr (dr2_lt hd (by omega)) hkk _ (by omega)) rfl rfl rfl rfl)) rfl rfl rfl ?_
            refine wo_apv rfl rfl rfl rfl rfl ?_
            refine wo_nil ?_
            refine ⟨[_, _, _, _, _, _, _, _, _, _, _, _, _, _, _, _, _, _, _, _, _, _, _, _, _, _, _, _, _, _, _, _, _, _, _, _, _, _, _, _, _, _, _, _, _, _, _, _, _, _, _, _, _, _, _, _, _, _, _, _, _, _, _, _, _, _, _, _, _, _, _, _, _, _, _, _, _, _, _, _, _, _, _, _, _, _, _, _, _, _, _, _, _, _, _, _, _, _, _, _, _, _, _, _, _, _, _, _, _, _, _, _, _, _, _, _, _, _, _, _, _], rfl, ?_⟩
            refine wp_seq ?_
            refine wp_seq ?_
            refine wp_region rfl rfl ?_
            refine wo_mpv rfl rfl rfl rfl rfl ?_
            refine wo_mpv rfl rfl rfl rfl rfl ?_
            refine wo_mpv rfl rfl rfl rfl rfl ?_
            refine wo_bin (v := .pv (.int .i64 ((j + 1 : Nat) : Int))) rfl rfl rfl rfl (iV (by rw [wrapI (by omega) (by omega)]; omega)) ?_
            refine wo_slice (v := .pv (.sl [(l[j]).row])) t31 t40 rfl rfl rfl rfl hp.noStr (hp.slice1 hjl) ?_
            refine wo_call (v := .tup [.pv px, .pv (.int .i64 0)]) (H' := [_, _]) rfl rfl rfl rfl rfl rfl ((cl20 _ _ _ _).trans (callPure_any rfl (fun _ => rfl) rfl hone)) rfl rfl rfl ?_
            refine wo_move (v := .tup _) rfl rfl rfl rfl rfl (fun h => AV.noConfusion h) ?_
            refine wo_extract (v := .pv _) rfl rfl rfl rfl rfl rfl ?_
            refine wo_extract (v := .pv _) rfl rfl rfl rfl rfl rfl ?_
            refine wo_apv rfl rfl rfl rfl rfl ?_
            refine wo_apv rfl rfl rfl rfl rfl ?_
            refine wo_nil ?_
            refine ⟨[_, _, _, _, _, _, _, _, _, _, _, _, _, _, _, _, _, _, _, _, _, _, _, _, _, _, _, _, _, _, _, _, _, _, _, _, _, _, _, _, _, _, _, _, _, _, _, _, _, _, _, _, _, _, _, _, _, _, _, _, _, _, _, _, _, _, _, _, _, _, _, _, _, _, _, _, _, _, _, _, _, _, _, _, _, _, _, _, _, _, _, _, _, _, _, _, _, _, _, _, _, _, _, _, _, _, _, _, _, _, _, _, _, _, _, _, _, _, _, _, _], rfl, ?_⟩
            refine wp_seq ?_
            refine wp_region rfl rfl ?_
            refine wo_mpv rfl rfl rfl rfl rfl ?_
            refine wo_bin (v := .pv (.bool false)) rfl rfl rfl rfl (nF rfl) ?_
            refine wo_nil ?_
            refine ⟨[_, _, _, _, _, _, _, _, _, _, _, _, _, _, _, _, _, _, _, _, _, _, _, _, _, _, _, _, _, _, _, _, _, _, _, _, _, _, _, _, _, _, _, _, _, _, _, _, _, _, _, _, _, _, _, _, _, _, _, _, _, _, _, _, _, _, _, _, _, _, _, _, _, _, _, _, _, _, _, _, _, _, _, _, _, _, _, _, _, _, _, _, _, _, _, _, _, _, _, _, _, _, _, _, _, _, _, _, _, _, _, _, _, _, _, _, _, _, _, _, _], rfl, ?_⟩
            refine wp_false rfl ?_
            refine wp_seq ?_
            refine wp_seq ?_
            refine wp_region rfl rfl ?_
            refine wo_mpv rfl rfl rfl rfl rfl ?_
            refine wo_bin (v := .pv (.bool false)) rfl rfl rfl rfl (nF rfl) ?_
            refine wo_nil ?_
            refine ⟨[_, _, _, _, _, _, _, _, _, _, _, _, _, _, _, _, _, _, _, _, _, _, _, _, _, _, _, _, _, _, _, _, _, _, _, _, _, _, _, _, _, _, _, _, _, _, _, _, _, _, _, _, _, _, _, _, _, _, _, _, _, _, _, _, _, _, _, _, _, _, _, _, _, _, _, _, _, _, _, _, _, _, _, _, _, _, _, _, _, _, _, _, _, _, _, _, _, _, _, _, _, _, _, _, _, _, _, _, _, _, _, _, _, _, _, _, _, _, _, _, _], rfl, ?_⟩
            refine wp_false rfl ?_
            refine wp_skip ?_
            refine wp_seq ?_
            refine wp_region rfl rfl ?_
            refine wo_mpv rfl rfl rfl rfl rfl ?_
            refine wo_mpv rfl rfl rfl rfl rfl ?_
            refine wo_mpv rfl rfl rfl rfl rfl ?_
            refine wo_mpv rfl rfl rfl rfl rfl ?_
            refine wo_mpv rfl rfl rfl rfl rfl ?_
            refine wo_iaddr (v := .pv (.ptr (l[j]).row 0)) rfl rfl rfl rfl (hp.get (i := j) hjl rfl) ?_
            refine wo_load (v := .agg [_, _, _, _]) t40 rfl rfl rfl rfl rfl rfl ?_
            refine wo_mpv rfl rfl rfl rfl rfl ?_
            refine wo_call (v := .pv (.sl ((feedM V.rplain size b sn l[j] (dr2 draws j)).map V.row))) (H' := [_, _]) rfl rfl rfl rfl rfl rfl ((cl21 _ _ _ _).trans (callPure_pv rfl (fun _ => rfl) (rfeed_ok hpb h1 h2 (by omega) (by have := hab.1; first | omega | (simp at this; omega)) hok (dr2_lt hd (by omega)) _ (by omega)))) rfl rfl rfl ?_
            refine wo_apv rfl rfl rfl rfl rfl ?_
            refine wo_nil ?_
            refine ⟨[_, _, _, _, _, _, _, _, _, _, _, _, _, _, _, _, _, _, _, _, _, _, _, _, _, _, _, _, _, _, _, _, _, _, _, _, _, _, _, _, _, _, _, _, _, _, _, _, _, _, _, _, _, _, _, _, _, _, _, _, _, _, _, _, _, _, _, _, _, _, _, _, _, _, _, _, _, _, _, _, _, _, _, _, _, _, _, _, _, _, _, _, _, _, _, _, _, _, _, _, _, _, _, _, _, _, _, _, _, _, _, _, _, _, _, _, _, _, _, _, _], rfl, ?_⟩
            refine wp_region rfl rfl ?_
            refine wo_mpv rfl rfl rfl rfl rfl ?_
            refine wo_bin (v := .pv (.int .i64 ((sn + 1 : Nat) : Int))) rfl rfl rfl rfl (iV (by rw [wrapI (by omega) (by omega)]; omega)) ?_
            refine wo_apv rfl rfl rfl rfl rfl ?_
            refine wo_nil ?_
            refine ⟨[_, _, _, _, _, _, _, _, _, _, _, _, _, _, _, _, _, _, _, _, _, _, _, _, _, _, _, _, _, _, _, _, _, _, _, _, _, _, _, _, _, _, _, _, _, _, _, _, _, _, _, _, _, _, _, _, _, _, _, _, _, _, _, _, _, _, _, _, _, _, _, _, _, _, _, _, _, _, _, _, _, _, _, _, _, _, _, _, _, _, _, _, _, _, _, _, _, _, _, _, _, _, _, _, _, _, _, _, _, _, _, _, _, _, _, _, _, _, _, _, _], rfl, ?_⟩
            refine wp_seq ?_
            refine wp_region rfl rfl ?_
            refine wo_move (v := .ptr _ _) rfl rfl rfl rfl rfl (fun h => AV.noConfusion h) ?_
            refine wo_call (v := VR 2 a) (H' := [_, _, _]) rfl rfl rfl rfl rfl rfl ((cl22 _ _ _ _).trans (callRef_gen (R := [0, 1]) (bs := [_, _]) (bs1 := [_, _]) (bs3 := [_, _, _]) rfl rfl rfl rfl (sample_ref (l := a) (fl := fl) (by omega) (by first | exact hfl | (simp; done) | (simp; omega)) _ (by omega)) rfl rfl rfl rfl)) rfl rfl rfl ?_
            refine wo_assign (v := .ref _ _ _ _ _ _) rfl rfl rfl rfl rfl (fun h => AV.noConfusion h) ?_
            refine wo_nil ?_
            refine ⟨[_, _, _, _, _, _, _, _, _, _, _, _, _, _, _, _, _, _, _, _, _, _, _, _, _, _, _, _, _, _, _, _, _, _, _, _, _, _, _, _, _, _, _, _, _, _, _, _, _, _, _, _, _, _, _, _, _, _, _, _, _, _, _, _, _, _, _, _, _, _, _, _, _, _, _, _, _, _, _, _, _, _, _, _, _, _, _, _, _, _, _, _, _, _, _, _, _, _, _, _, _, _, _, _, _, _, _, _, _, _, _, _, _, _, _, _, _, _, _, _, _], rfl, ?_⟩
            refine wp_seq ?_
            refine wp_seq ?_
            refine wp_region rfl rfl ?_
            refine wo_move (v := .ref _ _ _ _ _ _) rfl rfl rfl rfl rfl (fun h => AV.noConfusion h) ?_
            refine wo_mpv rfl rfl rfl rfl rfl ?_
            refine wo_call (v := .pv (.bool true)) (H' := [_, _, _]) rfl rfl rfl rfl rfl rfl ((cl23 _ _ _ _).trans (callPure_vr (l := a) (fl := List.length a) (st := 0) (fz := 0) rfl (Nat.le_refl _) rfl (fun _ => rfl) rfl (exactL_ok (.inl rfl) hpb2 oa2 ob2 hab2.1 hab2.2 (by omega) _ (by omega)))) rfl rfl rfl ?_
            refine wo_un rfl rfl rfl rfl rfl ?_
            refine wo_mpv rfl rfl rfl rfl rfl ?_
            refine wo_move (v := .ptr _ _) rfl rfl rfl rfl rfl (fun h => AV.noConfusion h) ?_
            refine wo_call (v := .pv _) (H' := [_, _, _]) rfl rfl rfl rfl rfl rfl ((cl24 _ _ _ _).trans (callRef_gen (R := [0, 1]) (bs := [_, _]) (bs1 := [_, _]) (bs3 := [_, _]) rfl rfl rfl rfl (seen_ref _ _ _ a _ (by omega)) rfl rfl rfl rfl)) rfl rfl rfl ?_
            refine wo_mpv rfl rfl rfl rfl rfl ?_
            refine wo_bin (v := .pv (.bool false)) rfl rfl rfl rfl (nF rfl) ?_
            refine wo_pick (v := .pv _) rfl rfl rfl rfl rfl rfl ?_
            refine wo_nil ?_
            refine ⟨[_, _, _, _, _, _, _, _, _, _, _, _, _, _, _, _, _, _, _, _, _, _, _, _, _, _, _, _, _, _, _, _, _, _, _, _, _, _, _, _, _, _, _, _, _, _, _, _, _, _, _, _, _, _, _, _, _, _, _, _, _, _, _, _, _, _, _, _, _, _, _, _, _, _, _, _, _, _, _, _, _, _, _, _, _, _, _, _, _, _, _, _, _, _, _, _, _, _, _, _, _, _, _, _, _, _, _, _, _, _, _, _, _, _, _, _, _, _, _, _, _], rfl, ?_⟩
            refine wp_false rfl ?_
            refine wp_skip ?_
            refine wp_seq ?_
            refine wp_region rfl rfl ?_
            refine wo_move (v := .ref _ _ _ _ _ _) rfl rfl rfl rfl rfl (fun h => AV.noConfusion h) ?_
            refine wo_len t31 rfl rfl rfl rfl rfl rfl rfl rfl rfl ?_
            refine wo_mpv rfl rfl rfl rfl rfl ?_
            refine wo_nil ?_
            refine ⟨[_, _, _, _, _, _, _, _, _, _, _, _, _, _, _, _, _, _, _, _, _, _, _, _, _, _, _, _, _, _, _, _, _, _, _, _, _, _, _, _, _, _, _, _, _, _, _, _, _, _, _, _, _, _, _, _, _, _, _, _, _, _, _, _, _, _, _, _, _, _, _, _, _, _, _, _, _, _, _, _, _, _, _, _, _, _, _, _, _, _, _, _, _, _, _, _, _, _, _, _, _, _, _, _, _, _, _, _, _, _, _, _, _, _, _, _, _, _, _, _, _], rfl, ?_⟩
            refine wp_block ?_
            refine wp_loop (fun k2 t H => ∃ (i : Nat) (rows : List (List PV)) (fl2 : Nat), i + k2 = List.length a ∧ rows.length = List.length a ∧ (∀ r ∈ rows, r.length = 4) ∧ fl2 ≤ List.length a ∧ t = [.pv p, .pv (.int .i64 size), .pv q, .any, .any, .any, .any, .ptr 0 0, .any, .pv (.sl ((feedM V.rplain size b sn l[j] (dr2 draws j)).map V.row)), .pv (.int .i64 ((sn + 1 : Nat) : Int)), .pv (.int .i64 (j : Nat)), .any, .any, .any, .any, VR 2 a, .any, .any, .any, .any, .any, .any, .any, .any, .any, .any, .any, .any, .any, .any, .any, .any, .any, .any, .any, .any, .any, .any, .any, .any, .any, .any, .any, .any, .any, .any, .any, .any, .any, .any, .any, .any, .any, .any, .any, .any, .any, .any, .any, .any, .any, .any, .any, .any, .any, .any, .any, .any, .any, .any, .any, .any, .any, .any, .any, .any, .any, .any, .any, .any, .any, .any, .any, .any, .any, .any, .any, .any, .any, .any, .any, .any, .any, .any, .any, .any, .any, .any, .any, .any, .any, .any, .any, .any, .any, .any, .any, .any, .any, .any, .pv (.int .i64 (List.length a)), .pv (.int .i64 (i : Nat)), .any, .any, .any, .any, .any, .any, .any, .any] ∧ H = [RX size (sn + 1) (VR 1 a), VB a fl, RB4 rows fl2]) (List.length a) ⟨0, List.map V.row a, List.length a, by omega, by simp, rows4 _, by omega, rfl, rfl⟩ (by omega) ?_
            rintro k2 _ _ hk2 ⟨i, rows, fl2, hik, hrl, hr4, hfl2, rfl, rfl⟩
            refine wp_seq ?_
            refine wp_region rfl rfl ?_
            refine wo_bsplit rfl rfl rfl rfl rfl (fun c27_0 => ?_) (fun c27_0 => ?_)
            ·
              refine wo_nil ?_
              refine ⟨[_, _, _, _, _, _, _, _, _, _, _, _, _, _, _, _, _, _, _, _, _, _, _, _, _, _, _, _, _, _, _, _, _, _, _, _, _, _, _, _, _, _, _, _, _, _, _, _, _, _, _, _, _, _, _, _, _, _, _, _, _, _, _, _, _, _, _, _, _, _, _, _, _, _, _, _, _, _, _, _, _, _, _, _, _, _, _, _, _, _, _, _, _, _, _, _, _, _, _, _, _, _, _, _, _, _, _, _, _, _, _, _, _, _, _, _, _, _, _, _, _], rfl, ?_⟩
              refine wp_seq ?_
              refine wp_true rfl ?_
              refine wp_skip ?_
              refine wp_seq ?_
              refine wp_block ?_
              refine wp_seq ?_
              refine wp_region rfl rfl ?_
              refine wo_mpv rfl rfl rfl rfl rfl ?_
              refine wo_apv rfl rfl rfl rfl rfl ?_
              refine wo_nil ?_
              refine ⟨[_, _, _, _, _, _, _, _, _, _, _, _, _, _, _, _, _, _, _, _, _, _, _, _, _, _, _, _, _, _, _, _, _, _, _, _, _, _, _, _, _, _, _, _, _, _, _, _, _, _, _, _, _, _, _, _, _, _, _, _, _, _, _, _, _, _, _, _, _, _, _, _, _, _, _, _, _, _, _, _, _, _, _, _, _, _, _, _, _, _, _, _, _, _, _, _, _, _, _, _, _, _, _, _, _, _, _, _, _, _, _, _, _, _, _, _, _, _, _, _, _], rfl, ?_⟩
              refine wp_region rfl rfl ?_
              refine wo_move (v := .ref _ _ _ _ _ _) rfl rfl rfl rfl rfl (fun h => AV.noConfusion h) ?_
              refine wo_mpv rfl rfl rfl rfl rfl ?_
              refine wo_iaddr (v := .eptr 2 0 (List.length a) 4 i 0) rfl rfl rfl rfl ((iaddr_ref (j := i) t31 t40 rfl (by omega) rfl).trans (by rw [Nat.zero_add])) ?_
              refine wo_faddr t40 t3 rfl rfl rfl rfl rfl rfl rfl ?_
              refine wo_storeB (H' := [_, _, _]) rfl rfl rfl (store_kind rfl hrl hfl2 (by omega) hr4) rfl rfl rfl ?_
              refine wo_nil ?_
              refine ⟨[_, _, _, _, _, _, _, _, _, _, _, _, _, _, _, _, _, _, _, _, _, _, _, _, _, _, _, _, _, _, _, _, _, _, _, _, _, _, _, _, _, _, _, _, _, _, _, _, _, _, _, _, _, _, _, _, _, _, _, _, _, _, _, _, _, _, _, _, _, _, _, _, _, _, _, _, _, _, _, _, _, _, _, _, _, _, _, _, _, _, _, _, _, _, _, _, _, _, _, _, _, _, _, _, _, _, _, _, _, _, _, _, _, _, _, _, _, _, _, _, _], rfl, ?_⟩
              refine wp_region rfl rfl ?_
              refine wo_bin (v := .pv (.int .i64 ((i + 1 : Nat) : Int))) rfl rfl rfl rfl (iV (by rw [wrapI (by omega) (by omega)]; omega)) ?_
              refine wo_mpv rfl rfl rfl rfl rfl ?_
              refine wo_nil ?_
              refine ⟨[_, _, _, _, _, _, _, _, _, _, _, _, _, _, _, _, _, _, _, _, _, _, _, _, _, _, _, _, _, _, _, _, _, _, _, _, _, _, _, _, _, _, _, _, _, _, _, _, _, _, _, _, _, _, _, _, _, _, _, _, _, _, _, _, _, _, _, _, _, _, _, _, _, _, _, _, _, _, _, _, _, _, _, _, _, _, _, _, _, _, _, _, _, _, _, _, _, _, _, _, _, _, _, _, _, _, _, _, _, _, _, _, _, _, _, _, _, _, _, _, _], rfl, ?_⟩
              refine ⟨_, _, tidy_norm (t' := [_, _, _, _, _, _, _, _, _, _, _, _, _, _, _, _, _, _, _, _, _, _, _, _, _, _, _, _, _, _, _, _, _, _, _, _, _, _, _, _, _, _, _, _, _, _, _, _, _, _, _, _, _, _, _, _, _, _, _, _, _, _, _, _, _, _, _, _, _, _, _, _, _, _, _, _, _, _, _, _, _, _, _, _, _, _, _, _, _, _, _, _, _, _, _, _, _, _, _, _, _, _, _, _, _, _, _, _, _, _, _, _, _, _, _, _, _, _, _, _, _]) rfl rfl rfl, k2 - 1, by omega, i + 1, setK rows i (.int .i64 99), List.length a, by omega, by rw [setK_len]; exact hrl, setK_4 _ (by omega) hr4, by omega, rfl, rfl⟩
            ·
              refine wo_nil ?_
              refine ⟨[_, _, _, _, _, _, _, _, _, _, _, _, _, _, _, _, _, _, _, _, _, _, _, _, _, _, _, _, _, _, _, _, _, _, _, _, _, _, _, _, _, _, _, _, _, _, _, _, _, _, _, _, _, _, _, _, _, _, _, _, _, _, _, _, _, _, _, _, _, _, _, _, _, _, _, _, _, _, _, _, _, _, _, _, _, _, _, _, _, _, _, _, _, _, _, _, _, _, _, _, _, _, _, _, _, _, _, _, _, _, _, _, _, _, _, _, _, _, _, _, _], rfl, ?_⟩
              refine wp_seq ?_
              refine wp_false rfl ?_
              refine wp_exit ?_
              refine wp_region rfl rfl ?_
              refine wo_mpv rfl rfl rfl rfl rfl ?_
              refine wo_bin (v := .pv (.int .i64 ((j + 1 : Nat) : Int))) rfl rfl rfl rfl (iV (by rw [wrapI (by omega) (by omega)]; omega)) ?_
              refine wo_apv rfl rfl rfl rfl rfl ?_
              refine wo_nil ?_
              refine ⟨[_, _, _, _, _, _, _, _, _, _, _, _, _, _, _, _, _, _, _, _, _, _, _, _, _, _, _, _, _, _, _, _, _, _, _, _, _, _, _, _, _, _, _, _, _, _, _, _, _, _, _, _, _, _, _, _, _, _, _, _, _, _, _, _, _, _, _, _, _, _, _, _, _, _, _, _, _, _, _, _, _, _, _, _, _, _, _, _, _, _, _, _, _, _, _, _, _, _, _, _, _, _, _, _, _, _, _, _, _, _, _, _, _, _, _, _, _, _, _, _, _], rfl, ?_⟩
              refine ⟨[.pv p, .pv (.int .i64 size), .pv q, .any, .any, .any, .any, .ptr 0 0, .any, .pv (.sl ((feedM V.rplain size b sn l[j] (dr2 draws j)).map V.row)), .pv (.int .i64 ((sn + 1 : Nat) : Int)), .pv (.int .i64 ((j + 1 : Nat) : Int)), .any, .any, .any, .any, .any, .any, .any, .any, .any, .any, .any, .any, .any, .any, .any, .any, .any, .any, .any, .any, .any, .any, .any, .any, .any, .any, .any, .any, .any, .any, .any, .any, .any, .any, .any, .any, .any, .any, .any, .any, .any, .any, .any, .any, .any, .any, .any, .any, .any, .any, .any, .any, .any, .any, .any, .any, .any, .any, .any, .any, .any, .any, .any, .any, .any, .any, .any, .any, .any, .any, .any, .any, .any, .any, .any, .any, .any, .any, .any, .any, .any, .any, .any, .any, .any, .any, .any, .any, .any, .any, .any, .any, .any, .any, .any, .any, .any, .any, .any, .any, .any, .any, .any, .any, .any, .any, .any, .any, .any], [RX size (sn + 1) (VR 1 a), VB a fl], tidy_ren (t' := [_, _, _, _, _, _, _, _, _, _, _, _, _, _, _, _, _, _, _, _, _, _, _, _, _, _, _, _, _, _, _, _, _, _, _, _, _, _, _, _, _, _, _, _, _, _, _, _, _, _, _, _, _, _, _, _, _, _, _, _, _, _, _, _, _, _, _, _, _, _, _, _, _, _, _, _, _, _, _, _, _, _, _, _, _, _, _, _, _, _, _, _, _, _, _, _, _, _, _, _, _, _, _, _, _, _, _, _, _, _, _, _, _, _, _, _, _, _, _, _, _]) (order := [0, 1]) (bs := [_, _]) rfl rfl rfl (by kernel_rfl) (by kernel_rfl) rfl (by kernel_rfl), k - 1, by omega, j + 1, (sn + 1), a, (feedM V.rplain size b sn l[j] (dr2 draws j)), (.sl ((feedM V.rplain size b sn l[j] (dr2 draws j)).map V.row)), fl, by omega, by omega, la2, ?_, oa2, ob2, hab2, hpb2, rfl, ?_⟩
              · first | exact hfl | (simp; done) | (simp; omega)
              · refine .inr ⟨?_, rfl⟩; first | exact hne | (simp; done) | (intro h; apply hne; simpa using h)
      ·
        refine wo_pick (v := .pv _) rfl rfl rfl rfl rfl rfl ?_
        refine wo_nil ?_
        refine ⟨[_, _, _, _, _, _, _, _, _, _, _, _, _, _, _, _, _, _, _, _, _, _, _, _, _, _, _, _, _, _, _, _, _, _, _, _, _, _, _, _, _, _, _, _, _, _, _, _, _, _, _, _, _, _, _, _, _, _, _, _, _, _, _, _, _, _, _, _, _, _, _, _, _, _, _, _, _, _, _, _, _, _, _, _, _, _, _, _, _, _, _, _, _, _, _, _, _, _, _, _, _, _, _, _, _, _, _, _, _, _, _, _, _, _, _, _, _, _, _, _, _], rfl, ?_⟩
        refine wp_false rfl ?_
        refine wp_exit ?_
        refine wp_seq ?_
        refine wp_region rfl rfl ?_
        refine wo_call (v := .pv (.bool true)) (H' := [_, _]) rfl rfl rfl rfl rfl rfl ((cl18 _ _ _ _).trans (callPure_pv rfl (fun _ => rfl) hw)) rfl rfl rfl ?_
        refine wo_apv rfl rfl rfl rfl rfl ?_
        refine wo_nil ?_
        refine ⟨[_, _, _, _, _, _, _, _, _, _, _, _, _, _, _, _, _, _, _, _, _, _, _, _, _, _, _, _, _, _, _, _, _, _, _, _, _, _, _, _, _, _, _, _, _, _, _, _, _, _, _, _, _, _, _, _, _, _, _, _, _, _, _, _, _, _, _, _, _, _, _, _, _, _, _, _, _, _, _, _, _, _, _, _, _, _, _, _, _, _, _, _, _, _, _, _, _, _, _, _, _, _, _, _, _, _, _, _, _, _, _, _, _, _, _, _, _, _, _, _, _], rfl, ?_⟩
        refine wp_ret ?_
        exact ⟨trivial, _, rfl, leave_pure⟩
    ·
      refine wo_mpv rfl rfl rfl rfl rfl ?_
      refine wo_off rfl rfl rfl ?_
      refine wo_off rfl rfl rfl ?_
      refine wo_pick (v := .pv _) rfl rfl rfl rfl rfl rfl ?_
      refine wo_nil ?_
      refine ⟨[_, _, _, _, _, _, _, _, _, _, _, _, _, _, _, _, _, _, _, _, _, _, _, _, _, _, _, _, _, _, _, _, _, _, _, _, _, _, _, _, _, _, _, _, _, _, _, _, _, _, _, _, _, _, _, _, _, _, _, _, _, _, _, _, _, _, _, _, _, _, _, _, _, _, _, _, _, _, _, _, _, _, _, _, _, _, _, _, _, _, _, _, _, _, _, _, _, _, _, _, _, _, _, _, _, _, _, _, _, _, _, _, _, _, _, _, _, _, _, _, _], rfl, ?_⟩
      refine wp_false rfl ?_
      refine wp_exit ?_
      refine wp_seq ?_
      refine wp_region rfl rfl ?_
      refine wo_call (v := .pv (.bool true)) (H' := [_, _]) rfl rfl rfl rfl rfl rfl ((cl18 _ _ _ _).trans (callPure_pv rfl (fun _ => rfl) hw)) rfl rfl rfl ?_
      refine wo_apv rfl rfl rfl rfl rfl ?_
      refine wo_nil ?_
      refine ⟨[_, _, _, _, _, _, _, _, _, _, _, _, _, _, _, _, _, _, _, _, _, _, _, _, _, _, _, _, _, _, _, _, _, _, _, _, _, _, _, _, _, _, _, _, _, _, _, _, _, _, _, _, _, _, _, _, _, _, _, _, _, _, _, _, _, _, _, _, _, _, _, _, _, _, _, _, _, _, _, _, _, _, _, _, _, _, _, _, _, _, _, _, _, _, _, _, _, _, _, _, _, _, _, _, _, _, _, _, _, _, _, _, _, _, _, _, _, _, _, _, _], rfl, ?_⟩
      refine wp_ret ?_
      exact ⟨trivial, _, rfl, leave_pure⟩
theorem feedsAll {p q : PV} {l : List V} {draws : List Nat} (hp : SV p l) (hq : SU q draws) (ho : OkL l) (hd : D64 draws) (size : Int) : call G 1501 5 [.pv p, .pv (.int .i64 size), .pv q] [] = some (.ret (.pv (.bool true)), []) := by
  by_cases h : size < 1 ∨ size > 400
  · exact feeds_bad (l := l) h works18
  · obtain ⟨s, rfl⟩ : ∃ s : Nat, size = s := ⟨size.toNat, by omega⟩
    exact feeds hp hq ho hd (by omega) (by omega) works18
end Go.Ab.Ytnfgpejdbmakkaa
