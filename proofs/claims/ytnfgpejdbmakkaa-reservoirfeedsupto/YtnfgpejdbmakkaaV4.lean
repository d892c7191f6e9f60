import Derived.Test.YtnfgpejdbmakkaaV3
namespace Go.Ab.Ytnfgpejdbmakkaa
open Go Go.Ab
open Go.Proofs.Try
set_option maxRecDepth 100000
set_option maxHeartbeats 1000000
set_option linter.unusedSimpArgs false
set_option linter.unusedVariables false

/-- What is held behind a value more. -/
def feedM (P : V → V) (size : Nat) (held : List V) (sn : Nat) (v : V) (draw : Nat) : List V :=
  if held.length < size then held ++ [P v] else if draw % (sn + 1) < size then held.set (draw % (sn + 1)) (P v) else held
def dr (draws : List Nat) (i : Nat) : Nat := (draws[i]?).getD 0
def ofM (P : V → V) (size : Nat) (draws : List Nat) : List V → Nat → List V → Option (List V)
  | held, _, [] => some held
  | held, sn, v :: l => if v.right = true then ofM P size draws (feedM P size held sn v (dr draws sn)) (sn + 1) l else none

theorem leave_ref {k fl : Nat} {l : List V} {H : List Blk} (hl : H[k]? = some (VB l fl)) (hfl : fl ≤ l.length) : leave .pure 0 (VR k l) H = some (.pv (.sl (l.map V.row)), []) := by
  simp [leave, AV.puriRes, AV.puri, AV.pureOf, VR, lookOf, hl, VB, Row.valid, hfl, List.take_of_length_le]
theorem leave_ref2 {k fl : Nat} {l l' : List V} {H : List Blk} (hl : H[k]? = some (VB l' fl)) (hlen : l'.length = l.length) (hfl : fl ≤ l.length) : leave .pure 0 (VR k l) H = some (.pv (.sl (l'.map V.row)), []) := by
  simp [leave, AV.puriRes, AV.puri, AV.pureOf, VR, lookOf, hl, VB, Row.valid, hfl, List.take_of_length_le, hlen]
theorem leave_tup_ref {k fl : Nat} {l : List V} {p : PV} {H : List Blk} (hl : H[k]? = some (VB l fl)) (hfl : fl ≤ l.length) : leave .pure 0 (.tup [VR k l, .pv p]) H = some (.tup [.pv (.sl (l.map V.row)), .pv p], []) := by
  simp [leave, AV.puriRes, AV.puri, AV.pureOf, VR, lookOf, hl, VB, Row.valid, hfl, List.take_of_length_le, puriL]
theorem bs31_0 (nid : Nat) : aBuildSlice G.T nid 31 0 [] = some ⟨VR nid [], [], [VB [] 0]⟩ := by
  simp [aBuildSlice, t31, t40, aBuildParts, List.range, List.range.loop, pures, chunk, VB, VR]
theorem srcRows_sv {p : PV} {l : List V} (h : SV p l) (look : Look) : srcRows (.pv p) look = some (l.map V.row) := by
  rcases h with rfl | ⟨rfl, rfl⟩ <;> rfl
theorem app_all {nid k : Nat} {l : List V} {look : Look} (hl : look k = some (VB [] 0)) (hne : l ≠ []) (hb : l.length ≤ 100000) :
    aAppend G.T nid 31 (.ref k 0 0 4 0 0) (l.map V.row) look = some ⟨VR k l, [(k, VB l 0)], []⟩ := by
  have hc : CanGrow ⟨[], 0, 0, 0, 0⟩ 0 0 := ⟨by simp [Row.valid], .inl ⟨rfl, rfl⟩⟩
  rw [aAppend_ref (r := ⟨[], 0, 0, 0, 0⟩) t31 rfl t40 rfl (by decide) (by simp [V.row]) hl hc (by simp; omega) (by simp; omega) (by simpa using hne)]
  simp [Go.Ab.grow, VR, VB]
theorem app_none {nid k : Nat} {look : Look} (hl : look k = some (VB [] 0)) : aAppend G.T nid 31 (.ref k 0 0 4 0 0) [] look = some ⟨VR k [], [], []⟩ := by
  exact aAppend_empty t31 rfl t40 rfl (by decide) hl (by simp [Row.valid]) (by simp) (by omega)
theorem rright_plain {v : V} (hv : v.Ok) : v.rplain.Ok := by
  unfold V.rplain
  split
  · exact V0.ok
  · split
    · exact ⟨by decide, by decide, by decide, by decide, by decide⟩
    · exact hv

theorem rfeed_ok {p : PV} {l : List V} (hp : SV p l) {sn size : Nat} (h1 : 1 ≤ size) (h2 : size ≤ 400) (hsn : sn ≤ 100000) (hl : l.length ≤ size) {v : V} (hv : v.Ok) {draw : Nat} (hd : draw < 2 ^ 64) (N : Nat) (hN : 5 ≤ N) :
    call G N 21 [.pv p, .pv (.int .i64 sn), .pv (.int .i64 size), .agg [.pv (.int .i64 v.k), .pv (.int .i64 v.n), .pv (.flt .f64 v.f), .pv (.str v.s)], .pv (.int .u64 draw)] [] = some (.ret (.pv (.sl ((feedM V.rplain size l sn v draw).map V.row))), []) := by
  obtain ⟨N, rfl⟩ : ∃ M, N = M + 1 := ⟨N - 1, by omega⟩
  refine call_eq func21 rfl (show _ = [_, _, _, _, _, _, _, _, _, _, _, _, _, _, _, _, _, _, _, _, _, _, _, _, _, _, _, _, _, _, _, _, _, _, _, _, _, _, _, _, _, _, _] from rfl) ?_
  refine wp_seq ?_
  refine wp_region rfl rfl ?_
  refine wo_box (cs := [_, _, _, _]) (H' := [_]) rfl rfl rfl rfl rfl rfl ?_
  refine wo_apv rfl rfl rfl rfl rfl ?_
  refine wo_nil ?_
  refine ⟨[_, _, _, _, _, _, _, _, _, _, _, _, _, _, _, _, _, _, _, _, _, _, _, _, _, _, _, _, _, _, _, _, _, _, _, _, _, _, _, _, _, _, _], rfl, ?_⟩
  refine wp_seq ?_
  refine wp_region rfl rfl ?_
  refine wo_load (v := .agg [_, _, _, _]) t40 rfl rfl rfl rfl rfl rfl ?_
  refine wo_call (v := .agg (v.rplain.row.map .pv)) (H' := [_]) rfl rfl rfl rfl rfl rfl ((cl47 _ _ _ _).trans (callPure_agg rfl (fun _ => rfl) rfl (rPlain_ok hv _ (by omega)))) rfl rfl rfl ?_
  refine wo_store (cs' := [_, _, _, _]) (H' := [_]) t40 rfl rfl rfl rfl rfl rfl rfl rfl rfl ?_
  refine wo_nil ?_
  refine ⟨[_, _, _, _, _, _, _, _, _, _, _, _, _, _, _, _, _, _, _, _, _, _, _, _, _, _, _, _, _, _, _, _, _, _, _, _, _, _, _, _, _, _, _], rfl, ?_⟩
  refine wp_seq ?_
  refine wp_seq ?_
  refine wp_region rfl rfl ?_
  refine wo_mpv rfl rfl rfl rfl rfl ?_
  refine wo_len (ln := l.length) t31 rfl rfl rfl rfl rfl rfl rfl (hp.len 40) rfl ?_
  refine wo_mpv rfl rfl rfl rfl rfl ?_
  refine wo_bsplit rfl rfl rfl rfl rfl (fun c2_3 => ?_) (fun c2_3 => ?_)
  ·
    refine wo_nil ?_
    refine ⟨[_, _, _, _, _, _, _, _, _, _, _, _, _, _, _, _, _, _, _, _, _, _, _, _, _, _, _, _, _, _, _, _, _, _, _, _, _, _, _, _, _, _, _], rfl, ?_⟩
    refine wp_true rfl ?_
    refine wp_seq ?_
    refine wp_drawn rfl rfl (by kernel_rfl) ?_
    refine wo_buildSlice (H' := [_, _]) rfl rfl rfl rfl (bs31_0 _) rfl ?_
    refine wo_mpv rfl rfl rfl rfl rfl ?_
    by_cases hz : l = []
    ·
      have hz2 : l.map V.row = [] := by rw [hz]; rfl
      refine wo_append (v := VR 1 []) (H' := [_, _]) t31 rfl rfl rfl rfl rfl rfl rfl rfl ((srcRows_sv hp _).trans (congrArg some hz2)) (app_none rfl) rfl rfl rfl ?_
      refine wo_load (v := .agg [_, _, _, _]) t40 rfl rfl rfl rfl rfl rfl ?_
      refine wo_buildSlice (H' := [_, _, _]) rfl rfl rfl rfl (bs31 _ v.rplain) rfl ?_
      refine wo_append (v := VR 1 [v.rplain]) (H' := [_, _, _]) t31 rfl rfl rfl rfl rfl rfl rfl rfl (rfl) (VB.app (l := []) rfl rfl (Nat.zero_le _) (by simp)) rfl rfl rfl ?_
      refine wo_assign (v := .ref _ _ _ _ _ _) rfl rfl rfl rfl rfl (fun h => AV.noConfusion h) ?_
      refine wo_nil ?_
      refine ⟨by kernel_rfl, ?_⟩
      refine ⟨[_, _, _, _, _, _, _, _, _, _, _, _, _, _, _, _, _, _, _, _, _, _, _, _, _, _, _, _, _, _, _, _, _, _, _, _, _, _, _, _, _, _, _], rfl, ?_⟩
      refine wp_ret ?_
      first
        | (rw [show feedM V.rplain size l sn v draw = l ++ [v.rplain] by unfold feedM; rw [if_pos (by omega)]]; exact ⟨trivial, _, rfl, leave_ref (l := l ++ [v.rplain]) (fl := 0) rfl (Nat.zero_le _)⟩)
        | (rw [show feedM V.rplain size l sn v draw = [v.rplain] by unfold feedM; rw [if_pos (by omega), hz]; rfl]; exact ⟨trivial, _, rfl, leave_ref (l := [v.rplain]) (fl := 0) rfl (Nat.zero_le _)⟩)
    ·
      refine wo_append (v := VR 1 l) (H' := [_, _]) t31 rfl rfl rfl rfl rfl rfl rfl rfl (srcRows_sv hp _) (app_all rfl hz (by omega)) rfl rfl rfl ?_
      refine wo_load (v := .agg [_, _, _, _]) t40 rfl rfl rfl rfl rfl rfl ?_
      refine wo_buildSlice (H' := [_, _, _]) rfl rfl rfl rfl (bs31 _ v.rplain) rfl ?_
      refine wo_append (v := VR 1 (l ++ [v.rplain])) (H' := [_, _, _]) t31 rfl rfl rfl rfl rfl rfl rfl rfl (rfl) (VB.app (l := l) rfl rfl (Nat.zero_le _) (by omega)) rfl rfl rfl ?_
      refine wo_assign (v := .ref _ _ _ _ _ _) rfl rfl rfl rfl rfl (fun h => AV.noConfusion h) ?_
      refine wo_nil ?_
      refine ⟨by kernel_rfl, ?_⟩
      refine ⟨[_, _, _, _, _, _, _, _, _, _, _, _, _, _, _, _, _, _, _, _, _, _, _, _, _, _, _, _, _, _, _, _, _, _, _, _, _, _, _, _, _, _, _], rfl, ?_⟩
      refine wp_ret ?_
      first
        | (rw [show feedM V.rplain size l sn v draw = l ++ [v.rplain] by unfold feedM; rw [if_pos (by omega)]]; exact ⟨trivial, _, rfl, leave_ref (l := l ++ [v.rplain]) (fl := 0) rfl (Nat.zero_le _)⟩)
        | (rw [show feedM V.rplain size l sn v draw = [v.rplain] by unfold feedM; rw [if_pos (by omega), hz]; rfl]; exact ⟨trivial, _, rfl, leave_ref (l := [v.rplain]) (fl := 0) rfl (Nat.zero_le _)⟩)
  ·
    refine wo_nil ?_
    refine ⟨[_, _, _, _, _, _, _, _, _, _, _, _, _, _, _, _, _, _, _, _, _, _, _, _, _, _, _, _, _, _, _, _, _, _, _, _, _, _, _, _, _, _, _], rfl, ?_⟩
    refine wp_false rfl ?_
    refine wp_skip ?_
    refine wp_seq ?_
    refine wp_region rfl rfl ?_
    refine wo_mpv rfl rfl rfl rfl rfl ?_
    refine wo_mpv rfl rfl rfl rfl rfl ?_
    refine wo_bin (v := .pv (.int .i64 ((sn + 1 : Nat) : Int))) rfl rfl rfl rfl (iV (by rw [wrapI (by omega) (by omega)]; omega)) ?_
    refine wo_conv (v := .pv (.int .u64 ((sn + 1 : Nat) : Int))) rfl rfl rfl rfl ((wconv t3 t22 rfl rfl).trans (iV (wrapU64 (by omega) (by omega)))) rfl ?_
    refine wo_bin (v := .pv (.int .u64 ((draw % (sn + 1) : Nat) : Int))) rfl rfl rfl rfl (rfl) ?_
    refine wo_apv rfl rfl rfl rfl rfl ?_
    refine wo_nil ?_
    refine ⟨[_, _, _, _, _, _, _, _, _, _, _, _, _, _, _, _, _, _, _, _, _, _, _, _, _, _, _, _, _, _, _, _, _, _, _, _, _, _, _, _, _, _, _], rfl, ?_⟩
    refine wp_seq ?_
    refine wp_region rfl rfl ?_
    refine wo_buildSlice (H' := [_, _]) rfl rfl rfl rfl (bs31_0 _) rfl ?_
    refine wo_mpv rfl rfl rfl rfl rfl ?_
    have hz : l ≠ [] := fun h => by (have h0 : l.length = 0 := by rw [h]; rfl); omega
    refine wo_append (v := VR 1 l) (H' := [_, _]) t31 rfl rfl rfl rfl rfl rfl rfl rfl (srcRows_sv hp _) (app_all rfl hz (by omega)) rfl rfl rfl ?_
    refine wo_assign (v := .ref _ _ _ _ _ _) rfl rfl rfl rfl rfl (fun h => AV.noConfusion h) ?_
    refine wo_nil ?_
    refine ⟨[_, _, _, _, _, _, _, _, _, _, _, _, _, _, _, _, _, _, _, _, _, _, _, _, _, _, _, _, _, _, _, _, _, _, _, _, _, _, _, _, _, _, _], rfl, ?_⟩
    refine wp_seq ?_
    refine wp_seq ?_
    refine wp_region rfl rfl ?_
    refine wo_mpv rfl rfl rfl rfl rfl ?_
    refine wo_mpv rfl rfl rfl rfl rfl ?_
    refine wo_conv (v := .pv (.int .u64 (size : Nat))) rfl rfl rfl rfl ((wconv t3 t22 rfl rfl).trans (iV (wrapU64 (by omega) (by omega)))) rfl ?_
    refine wo_bsplit rfl rfl rfl rfl rfl (fun c6_3 => ?_) (fun c6_3 => ?_)
    ·
      refine wo_nil ?_
      refine ⟨[_, _, _, _, _, _, _, _, _, _, _, _, _, _, _, _, _, _, _, _, _, _, _, _, _, _, _, _, _, _, _, _, _, _, _, _, _, _, _, _, _, _, _], rfl, ?_⟩
      refine wp_true rfl ?_
      refine wp_region rfl rfl ?_
      refine wo_move (v := .ref _ _ _ _ _ _) rfl rfl rfl rfl rfl (fun h => AV.noConfusion h) ?_
      refine wo_mpv rfl rfl rfl rfl rfl ?_
      have hmod := Nat.mod_lt draw (show 0 < sn + 1 by omega)
      refine wo_conv (v := .pv (.int .i64 ((draw % (sn + 1) : Nat) : Int))) rfl rfl rfl rfl ((wconv t22 t3 rfl rfl).trans (iV (wrapI (by omega) (by omega)))) rfl ?_
      refine wo_load (v := .agg [_, _, _, _]) t40 rfl rfl rfl rfl rfl rfl ?_
      refine wo_iaddr (v := .eptr 1 0 l.length 4 (draw % (sn + 1)) 0) rfl rfl rfl rfl ((iaddr_ref (j := draw % (sn + 1)) t31 t40 rfl (by omega) rfl).trans (by rw [Nat.zero_add])) ?_
      refine wo_storeB (H' := [_, _]) rfl rfl rfl (VB.store rfl (Nat.zero_le _) (by omega)) rfl rfl rfl ?_
      refine wo_nil ?_
      refine ⟨[_, _, _, _, _, _, _, _, _, _, _, _, _, _, _, _, _, _, _, _, _, _, _, _, _, _, _, _, _, _, _, _, _, _, _, _, _, _, _, _, _, _, _], rfl, ?_⟩
      refine wp_seq ?_
      refine wp_region rfl rfl ?_
      refine wo_move (v := .ref _ _ _ _ _ _) rfl rfl rfl rfl rfl (fun h => AV.noConfusion h) ?_
      refine wo_assign (v := .ref _ _ _ _ _ _) rfl rfl rfl rfl rfl (fun h => AV.noConfusion h) ?_
      refine wo_nil ?_
      refine ⟨[_, _, _, _, _, _, _, _, _, _, _, _, _, _, _, _, _, _, _, _, _, _, _, _, _, _, _, _, _, _, _, _, _, _, _, _, _, _, _, _, _, _, _], rfl, ?_⟩
      refine wp_ret ?_
      first
        | (have hF : feedM V.rplain size l sn v draw = l.set (draw % (sn + 1)) v.rplain := by unfold feedM; rw [if_neg (by omega), if_pos (by omega)]
           rw [hF]; exact ⟨trivial, _, rfl, leave_ref2 rfl (by simp) (Nat.le_refl _)⟩)
        | (have hF : feedM V.rplain size l sn v draw = l := by unfold feedM; rw [if_neg (by omega), if_neg (by omega)]
           rw [hF]; exact ⟨trivial, _, rfl, leave_ref rfl (Nat.zero_le _)⟩)
    ·
      refine wo_nil ?_
      refine ⟨[_, _, _, _, _, _, _, _, _, _, _, _, _, _, _, _, _, _, _, _, _, _, _, _, _, _, _, _, _, _, _, _, _, _, _, _, _, _, _, _, _, _, _], rfl, ?_⟩
      refine wp_false rfl ?_
      refine wp_skip ?_
      refine wp_seq ?_
      refine wp_region rfl rfl ?_
      refine wo_move (v := .ref _ _ _ _ _ _) rfl rfl rfl rfl rfl (fun h => AV.noConfusion h) ?_
      refine wo_assign (v := .ref _ _ _ _ _ _) rfl rfl rfl rfl rfl (fun h => AV.noConfusion h) ?_
      refine wo_nil ?_
      refine ⟨[_, _, _, _, _, _, _, _, _, _, _, _, _, _, _, _, _, _, _, _, _, _, _, _, _, _, _, _, _, _, _, _, _, _, _, _, _, _, _, _, _, _, _], rfl, ?_⟩
      refine wp_ret ?_
      first
        | (have hF : feedM V.rplain size l sn v draw = l.set (draw % (sn + 1)) v.rplain := by unfold feedM; rw [if_neg (by omega), if_pos (by omega)]
           rw [hF]; exact ⟨trivial, _, rfl, leave_ref2 rfl (by simp) (Nat.le_refl _)⟩)
        | (have hF : feedM V.rplain size l sn v draw = l := by unfold feedM; rw [if_neg (by omega), if_neg (by omega)]
           rw [hF]; exact ⟨trivial, _, rfl, leave_ref rfl (Nat.zero_le _)⟩)

/-! Slices of draws -/
def rowU (n : Nat) : List PV := [.int .u64 n]
def SU (p : PV) (l : List Nat) : Prop := p = .sl (l.map rowU) ∨ (p = .nils ∧ l = [])
theorem SU.len {p : PV} {l : List Nat} (h : SU p l) (e : Nat) : lenT (.slice e) (.pv p) = some l.length := by
  rcases h with rfl | ⟨rfl, rfl⟩ <;> simp [lenT, lenA]
theorem SU.get {p : PV} {l : List Nat} (h : SU p l) {i : Nat} (hi : i < l.length) {k : IntKind} {ix : Int} (hj : ix = (i : Int)) : aIndexAddr G.T 32 (.pv p) (.pv (.int k ix)) = some (.pv (.ptr (rowU l[i]) 0)) := by
  rcases h with rfl | ⟨rfl, rfl⟩
  · exact iaddr_pv t32 t22 hj (by simp [List.getElem?_eq_getElem hi]) rfl
  · cases hi
theorem dr_in {draws : List Nat} {i : Nat} (h : i < draws.length) : draws[i] = dr draws i := by simp [dr, h]
theorem dr_out {draws : List Nat} {i : Nat} (h : ¬ i < draws.length) : dr draws i = 0 := by simp [dr, show draws[i]? = none by simp; omega]
def D64 (draws : List Nat) : Prop := ∀ x ∈ draws, x < 2 ^ 64
theorem dr_lt {draws : List Nat} (h : D64 draws) (i : Nat) : dr draws i < 2 ^ 64 := by
  by_cases hi : i < draws.length
  · rw [← dr_in hi]; exact h _ (List.getElem_mem hi)
  · rw [dr_out hi]; decide
theorem feedM_len {P : V → V} {size sn draw : Nat} {l : List V} {v : V} (h : l.length ≤ size) : (feedM P size l sn v draw).length ≤ size := by
  unfold feedM; split
  · simp; omega
  · split
    · simpa using h
    · exact h
/-- What a slice of values behind some is. -/
theorem ofM_cons {P : V → V} {size : Nat} {draws : List Nat} {held : List V} {sn : Nat} {l : List V} {j : Nat} (hj : j < l.length) : ofM P size draws held sn (l.drop j) = if (l[j]).right = true then ofM P size draws (feedM P size held sn l[j] (dr draws sn)) (sn + 1) (l.drop (j + 1)) else none := by
  rw [List.drop_eq_getElem_cons hj]; rfl

def ROut (x : Option (List V)) (v : AV) (H : List Blk) : Prop :=
  match x with
  | some h => ∃ p, SV p h ∧ v = .tup [.pv p, .pv (.int .i64 0)] ∧ H = []
  | none => v = .tup [.pv .nils, .pv (.int .i64 2)] ∧ H = []
theorem rof_bad {p q : PV} {size : Int} (h : size < 1 ∨ size > 400) (N : Nat) (hN : 1 ≤ N) : call G N 20 [.pv p, .pv (.int .i64 size), .pv q] [] = some (.ret (.tup [.pv .nils, .pv (.int .i64 2)]), []) := by
  obtain ⟨N, rfl⟩ : ∃ M, N = M + 1 := ⟨N - 1, by omega⟩
  refine call_eq func20 rfl (show _ = [_, _, _, _, _, _, _, _, _, _, _, _, _, _, _, _, _, _, _, _, _, _, _, _, _, _, _, _, _, _, _, _, _, _, _, _, _, _, _, _, _, _, _, _, _, _, _] from rfl) ?_
  refine wp_seq ?_
  refine wp_region rfl rfl ?_
  refine wo_apv rfl rfl rfl rfl rfl ?_
  refine wo_apv rfl rfl rfl rfl rfl ?_
  refine wo_nil ?_
  refine ⟨[_, _, _, _, _, _, _, _, _, _, _, _, _, _, _, _, _, _, _, _, _, _, _, _, _, _, _, _, _, _, _, _, _, _, _, _, _, _, _, _, _, _, _, _, _, _, _], rfl, ?_⟩
  refine wp_seq ?_
  refine wp_seq ?_
  refine wp_region rfl rfl ?_
  refine wo_mpv rfl rfl rfl rfl rfl ?_
  refine wo_bsplit rfl rfl rfl rfl rfl (fun c1_1 => ?_) (fun c1_1 => ?_)
  ·
    refine wo_mpv rfl rfl rfl rfl rfl ?_
    refine wo_off rfl rfl rfl ?_
    refine wo_off rfl rfl rfl ?_
    refine wo_pick (v := .pv _) rfl rfl rfl rfl rfl rfl ?_
    refine wo_nil ?_
    refine ⟨[_, _, _, _, _, _, _, _, _, _, _, _, _, _, _, _, _, _, _, _, _, _, _, _, _, _, _, _, _, _, _, _, _, _, _, _, _, _, _, _, _, _, _, _, _, _, _], rfl, ?_⟩
    refine wp_true rfl ?_
    refine wp_seq ?_
    refine wp_region rfl rfl ?_
    refine wo_apv rfl rfl rfl rfl rfl ?_
    refine wo_apv rfl rfl rfl rfl rfl ?_
    refine wo_nil ?_
    refine ⟨[_, _, _, _, _, _, _, _, _, _, _, _, _, _, _, _, _, _, _, _, _, _, _, _, _, _, _, _, _, _, _, _, _, _, _, _, _, _, _, _, _, _, _, _, _, _, _], rfl, ?_⟩
    refine wp_ret ?_
    first
      | (exfalso; omega)
      | exact ⟨trivial, _, rfl, rfl⟩
  ·
    refine wo_mpv rfl rfl rfl rfl rfl ?_
    refine wo_mpv rfl rfl rfl rfl rfl ?_
    refine wo_bsplit rfl rfl rfl rfl rfl (fun c1_4 => ?_) (fun c1_4 => ?_)
    ·
      refine wo_pick (v := .pv _) rfl rfl rfl rfl rfl rfl ?_
      refine wo_nil ?_
      refine ⟨[_, _, _, _, _, _, _, _, _, _, _, _, _, _, _, _, _, _, _, _, _, _, _, _, _, _, _, _, _, _, _, _, _, _, _, _, _, _, _, _, _, _, _, _, _, _, _], rfl, ?_⟩
      refine wp_true rfl ?_
      refine wp_seq ?_
      refine wp_region rfl rfl ?_
      refine wo_apv rfl rfl rfl rfl rfl ?_
      refine wo_apv rfl rfl rfl rfl rfl ?_
      refine wo_nil ?_
      refine ⟨[_, _, _, _, _, _, _, _, _, _, _, _, _, _, _, _, _, _, _, _, _, _, _, _, _, _, _, _, _, _, _, _, _, _, _, _, _, _, _, _, _, _, _, _, _, _, _], rfl, ?_⟩
      refine wp_ret ?_
      first
        | (exfalso; omega)
        | exact ⟨trivial, _, rfl, rfl⟩
    ·
      refine wo_pick (v := .pv _) rfl rfl rfl rfl rfl rfl ?_
      refine wo_nil ?_
      refine ⟨[_, _, _, _, _, _, _, _, _, _, _, _, _, _, _, _, _, _, _, _, _, _, _, _, _, _, _, _, _, _, _, _, _, _, _, _, _, _, _, _, _, _, _, _, _, _, _], rfl, ?_⟩
      refine wp_false rfl ?_
      refine wp_skip ?_
      refine wp_seq ?_
      refine wp_region rfl rfl ?_
      refine wo_apv rfl rfl rfl rfl rfl ?_
      refine wo_nil ?_
      refine ⟨[_, _, _, _, _, _, _, _, _, _, _, _, _, _, _, _, _, _, _, _, _, _, _, _, _, _, _, _, _, _, _, _, _, _, _, _, _, _, _, _, _, _, _, _, _, _, _], rfl, ?_⟩
      refine wp_seq ?_
      refine wp_seq ?_
      refine wp_region rfl rfl ?_
      refine wo_apv rfl rfl rfl rfl rfl ?_
      refine wo_nil ?_
      refine ⟨[_, _, _, _, _, _, _, _, _, _, _, _, _, _, _, _, _, _, _, _, _, _, _, _, _, _, _, _, _, _, _, _, _, _, _, _, _, _, _, _, _, _, _, _, _, _, _], rfl, ?_⟩
      refine wp_block ?_
      exfalso; omega
theorem rof_ok {p q : PV} {l : List V} {draws : List Nat} (hp : SV p l) (hq : SU q draws) (ho : OkL l) (hd : D64 draws) (hl : l.length ≤ 1000) {size : Nat} (h1 : 1 ≤ size) (h2 : size ≤ 400) (N : Nat) (hN : l.length + 8 ≤ N) :
    ∃ v H', call G N 20 [.pv p, .pv (.int .i64 size), .pv q] [] = some (.ret v, H') ∧ ROut (ofM V.rplain size draws [] 0 l) v H' := by
  obtain ⟨N, rfl⟩ : ∃ M, N = M + 1 := ⟨N - 1, by omega⟩
  refine call_wp func20 rfl (show _ = [_, _, _, _, _, _, _, _, _, _, _, _, _, _, _, _, _, _, _, _, _, _, _, _, _, _, _, _, _, _, _, _, _, _, _, _, _, _, _, _, _, _, _, _, _, _, _] from rfl) ?_
  refine wp_seq ?_
  refine wp_region rfl rfl ?_
  refine wo_apv rfl rfl rfl rfl rfl ?_
  refine wo_apv rfl rfl rfl rfl rfl ?_
  refine wo_nil ?_
  refine ⟨[_, _, _, _, _, _, _, _, _, _, _, _, _, _, _, _, _, _, _, _, _, _, _, _, _, _, _, _, _, _, _, _, _, _, _, _, _, _, _, _, _, _, _, _, _, _, _], rfl, ?_⟩
  refine wp_seq ?_
  refine wp_seq ?_
  refine wp_region rfl rfl ?_
  refine wo_mpv rfl rfl rfl rfl rfl ?_
  refine wo_bin (v := .pv (.bool false)) rfl rfl rfl rfl (bF (by omega)) ?_
  refine wo_mpv rfl rfl rfl rfl rfl ?_
  refine wo_mpv rfl rfl rfl rfl rfl ?_
  refine wo_bin (v := .pv (.bool false)) rfl rfl rfl rfl (bF (by omega)) ?_
  refine wo_pick (v := .pv _) rfl rfl rfl rfl rfl rfl ?_
  refine wo_nil ?_
  refine ⟨[_, _, _, _, _, _, _, _, _, _, _, _, _, _, _, _, _, _, _, _, _, _, _, _, _, _, _, _, _, _, _, _, _, _, _, _, _, _, _, _, _, _, _, _, _, _, _], rfl, ?_⟩
  refine wp_false rfl ?_
  refine wp_skip ?_
  refine wp_seq ?_
  refine wp_region rfl rfl ?_
  refine wo_apv rfl rfl rfl rfl rfl ?_
  refine wo_nil ?_
  refine ⟨[_, _, _, _, _, _, _, _, _, _, _, _, _, _, _, _, _, _, _, _, _, _, _, _, _, _, _, _, _, _, _, _, _, _, _, _, _, _, _, _, _, _, _, _, _, _, _], rfl, ?_⟩
  refine wp_seq ?_
  refine wp_seq ?_
  refine wp_region rfl rfl ?_
  refine wo_apv rfl rfl rfl rfl rfl ?_
  refine wo_nil ?_
  refine ⟨[_, _, _, _, _, _, _, _, _, _, _, _, _, _, _, _, _, _, _, _, _, _, _, _, _, _, _, _, _, _, _, _, _, _, _, _, _, _, _, _, _, _, _, _, _, _, _], rfl, ?_⟩
  refine wp_block ?_
  refine wp_loop (fun k t H => ∃ (j : Nat) (h : PV) (held : List V), j + k = l.length ∧ SV h held ∧ held.length ≤ size ∧ ofM V.rplain size draws held j (l.drop j) = ofM V.rplain size draws [] 0 l ∧ t = [.pv p, .pv (.int .i64 size), .pv q, .any, .any, .any, .any, .any, .pv h, .pv (.int .i64 (j : Nat)), .any, .any, .any, .any, .any, .any, .any, .any, .any, .any, .any, .any, .any, .any, .any, .any, .any, .any, .any, .any, .any, .any, .any, .any, .any, .any, .any, .any, .any, .any, .any, .any, .any, .any, .any, .any, .any] ∧ H = []) l.length ⟨0, .nils, [], by omega, .inr ⟨rfl, rfl⟩, by simp, rfl, rfl, rfl⟩ (by omega) ?_
  rintro k _ _ hk ⟨j, h, held, hj, hh, hhl, hM, rfl, rfl⟩
  refine wp_seq ?_
  refine wp_seq ?_
  refine wp_region rfl rfl ?_
  refine wo_mpv rfl rfl rfl rfl rfl ?_
  refine wo_mpv rfl rfl rfl rfl rfl ?_
  refine wo_len (ln := l.length) t31 rfl rfl rfl rfl rfl rfl rfl (hp.len 40) rfl ?_
  refine wo_bsplit rfl rfl rfl rfl rfl (fun c5_3 => ?_) (fun c5_3 => ?_)
  ·
    refine wo_nil ?_
    refine ⟨[_, _, _, _, _, _, _, _, _, _, _, _, _, _, _, _, _, _, _, _, _, _, _, _, _, _, _, _, _, _, _, _, _, _, _, _, _, _, _, _, _, _, _, _, _, _, _], rfl, ?_⟩
    refine wp_true rfl ?_
    refine wp_skip ?_
    refine wp_seq ?_
    refine wp_block ?_
    refine wp_seq ?_
    refine wp_seq ?_
    refine wp_region rfl rfl ?_
    refine wo_mpv rfl rfl rfl rfl rfl ?_
    refine wo_mpv rfl rfl rfl rfl rfl ?_
    have hjl : j < l.length := by omega
    have hok := ho _ (List.getElem_mem hjl)
    refine wo_iaddr (v := .pv (.ptr (l[j]).row 0)) rfl rfl rfl rfl (hp.get (i := j) hjl rfl) ?_
    refine wo_load (v := .agg [_, _, _, _]) t40 rfl rfl rfl rfl rfl rfl ?_
    cases hr : (l[j]).right
    ·
      refine wo_call (v := .pv (.bool false)) (H' := []) rfl rfl rfl rfl rfl rfl ((cl46 _ _ _ _).trans (callPure_pv rfl (fun _ => rfl) (by rw [← hr]; exact rRight_ok hok _ (by omega)))) rfl rfl rfl ?_
      refine wo_un rfl rfl rfl rfl rfl ?_
      refine wo_nil ?_
      refine ⟨[_, _, _, _, _, _, _, _, _, _, _, _, _, _, _, _, _, _, _, _, _, _, _, _, _, _, _, _, _, _, _, _, _, _, _, _, _, _, _, _, _, _, _, _, _, _, _], rfl, ?_⟩
      refine wp_true rfl ?_
      refine wp_seq ?_
      refine wp_region rfl rfl ?_
      refine wo_apv rfl rfl rfl rfl rfl ?_
      refine wo_apv rfl rfl rfl rfl rfl ?_
      refine wo_nil ?_
      refine ⟨[_, _, _, _, _, _, _, _, _, _, _, _, _, _, _, _, _, _, _, _, _, _, _, _, _, _, _, _, _, _, _, _, _, _, _, _, _, _, _, _, _, _, _, _, _, _, _], rfl, ?_⟩
      refine wp_ret ?_
      first
        | (rw [show ofM V.rplain size draws [] 0 l = none by rw [← hM, ofM_cons hjl, hr]; rfl]; exact ⟨trivial, _, rfl, _, _, rfl, rfl, rfl⟩)
        | (obtain rfl : j = l.length := by omega
           rw [List.drop_length] at hM
           rw [show ofM V.rplain size draws [] 0 l = some held from hM.symm]
           exact ⟨trivial, _, rfl, _, _, rfl, _, hh, rfl, rfl⟩)
    ·
      refine wo_call (v := .pv (.bool true)) (H' := []) rfl rfl rfl rfl rfl rfl ((cl46 _ _ _ _).trans (callPure_pv rfl (fun _ => rfl) (by rw [← hr]; exact rRight_ok hok _ (by omega)))) rfl rfl rfl ?_
      refine wo_un rfl rfl rfl rfl rfl ?_
      refine wo_nil ?_
      refine ⟨[_, _, _, _, _, _, _, _, _, _, _, _, _, _, _, _, _, _, _, _, _, _, _, _, _, _, _, _, _, _, _, _, _, _, _, _, _, _, _, _, _, _, _, _, _, _, _], rfl, ?_⟩
      refine wp_false rfl ?_
      refine wp_skip ?_
      refine wp_seq ?_
      refine wp_region rfl rfl ?_
      refine wo_apv rfl rfl rfl rfl rfl ?_
      refine wo_nil ?_
      refine ⟨[_, _, _, _, _, _, _, _, _, _, _, _, _, _, _, _, _, _, _, _, _, _, _, _, _, _, _, _, _, _, _, _, _, _, _, _, _, _, _, _, _, _, _, _, _, _, _], rfl, ?_⟩
      refine wp_seq ?_
      refine wp_seq ?_
      refine wp_region rfl rfl ?_
      refine wo_mpv rfl rfl rfl rfl rfl ?_
      refine wo_mpv rfl rfl rfl rfl rfl ?_
      refine wo_len (ln := draws.length) t32 rfl rfl rfl rfl rfl rfl rfl (hq.len 22) rfl ?_
      refine wo_bsplit rfl rfl rfl rfl rfl (fun c10_3 => ?_) (fun c10_3 => ?_)
      ·
        refine wo_nil ?_
        refine ⟨[_, _, _, _, _, _, _, _, _, _, _, _, _, _, _, _, _, _, _, _, _, _, _, _, _, _, _, _, _, _, _, _, _, _, _, _, _, _, _, _, _, _, _, _, _, _, _], rfl, ?_⟩
        refine wp_true rfl ?_
        refine wp_region rfl rfl ?_
        refine wo_mpv rfl rfl rfl rfl rfl ?_
        refine wo_mpv rfl rfl rfl rfl rfl ?_
        refine wo_iaddr (v := .pv (.ptr (rowU draws[j]) 0)) rfl rfl rfl rfl (hq.get (i := j) (by omega) rfl) ?_
        refine wo_load t22 rfl rfl rfl rfl rfl rfl ?_
        refine wo_apv rfl rfl rfl rfl rfl ?_
        refine wo_nil ?_
        refine ⟨[_, _, _, _, _, _, _, _, _, _, _, _, _, _, _, _, _, _, _, _, _, _, _, _, _, _, _, _, _, _, _, _, _, _, _, _, _, _, _, _, _, _, _, _, _, _, _], rfl, ?_⟩
        refine wp_region rfl rfl ?_
        refine wo_mpv rfl rfl rfl rfl rfl ?_
        refine wo_mpv rfl rfl rfl rfl rfl ?_
        refine wo_mpv rfl rfl rfl rfl rfl ?_
        refine wo_mpv rfl rfl rfl rfl rfl ?_
        refine wo_mpv rfl rfl rfl rfl rfl ?_
        refine wo_iaddr (v := .pv (.ptr (l[j]).row 0)) rfl rfl rfl rfl (hp.get (i := j) hjl rfl) ?_
        refine wo_load (v := .agg [_, _, _, _]) t40 rfl rfl rfl rfl rfl rfl ?_
        refine wo_mpv rfl rfl rfl rfl rfl ?_
        refine wo_call (v := .pv (.sl ((feedM V.rplain size held j l[j] (dr draws j)).map V.row))) (H' := []) rfl rfl rfl rfl rfl rfl ((cl21 _ _ _ _).trans (callPure_pv rfl (fun _ => rfl) (by first | (rw [← dr_in (by omega)]; exact rfeed_ok hh h1 h2 (by omega) hhl hok (by rw [dr_in (by omega)]; exact dr_lt hd j) _ (by omega)) | (rw [dr_out (by omega)]; exact rfeed_ok hh h1 h2 (by omega) hhl hok (by decide) _ (by omega))))) rfl rfl rfl ?_
        refine wo_apv rfl rfl rfl rfl rfl ?_
        refine wo_nil ?_
        refine ⟨[_, _, _, _, _, _, _, _, _, _, _, _, _, _, _, _, _, _, _, _, _, _, _, _, _, _, _, _, _, _, _, _, _, _, _, _, _, _, _, _, _, _, _, _, _, _, _], rfl, ?_⟩
        refine wp_region rfl rfl ?_
        refine wo_mpv rfl rfl rfl rfl rfl ?_
        refine wo_bin (v := .pv (.int .i64 ((j + 1 : Nat) : Int))) rfl rfl rfl rfl (iV (by rw [wrapI (by omega) (by omega)]; omega)) ?_
        refine wo_apv rfl rfl rfl rfl rfl ?_
        refine wo_nil ?_
        refine ⟨[_, _, _, _, _, _, _, _, _, _, _, _, _, _, _, _, _, _, _, _, _, _, _, _, _, _, _, _, _, _, _, _, _, _, _, _, _, _, _, _, _, _, _, _, _, _, _], rfl, ?_⟩
        refine ⟨_, _, tidy_norm (t' := [_, _, _, _, _, _, _, _, _, _, _, _, _, _, _, _, _, _, _, _, _, _, _, _, _, _, _, _, _, _, _, _, _, _, _, _, _, _, _, _, _, _, _, _, _, _, _]) rfl rfl rfl, k - 1, by omega, j + 1, _, feedM V.rplain size held j l[j] (dr draws j), by omega, .inl rfl, feedM_len hhl, by rw [← hM, ofM_cons hjl, if_pos hr], rfl, rfl⟩
      ·
        refine wo_nil ?_
        refine ⟨[_, _, _, _, _, _, _, _, _, _, _, _, _, _, _, _, _, _, _, _, _, _, _, _, _, _, _, _, _, _, _, _, _, _, _, _, _, _, _, _, _, _, _, _, _, _, _], rfl, ?_⟩
        refine wp_false rfl ?_
        refine wp_skip ?_
        refine wp_region rfl rfl ?_
        refine wo_mpv rfl rfl rfl rfl rfl ?_
        refine wo_mpv rfl rfl rfl rfl rfl ?_
        refine wo_mpv rfl rfl rfl rfl rfl ?_
        refine wo_mpv rfl rfl rfl rfl rfl ?_
        refine wo_mpv rfl rfl rfl rfl rfl ?_
        refine wo_iaddr (v := .pv (.ptr (l[j]).row 0)) rfl rfl rfl rfl (hp.get (i := j) hjl rfl) ?_
        refine wo_load (v := .agg [_, _, _, _]) t40 rfl rfl rfl rfl rfl rfl ?_
        refine wo_mpv rfl rfl rfl rfl rfl ?_
        refine wo_call (v := .pv (.sl ((feedM V.rplain size held j l[j] (dr draws j)).map V.row))) (H' := []) rfl rfl rfl rfl rfl rfl ((cl21 _ _ _ _).trans (callPure_pv rfl (fun _ => rfl) (by first | (rw [← dr_in (by omega)]; exact rfeed_ok hh h1 h2 (by omega) hhl hok (by rw [dr_in (by omega)]; exact dr_lt hd j) _ (by omega)) | (rw [dr_out (by omega)]; exact rfeed_ok hh h1 h2 (by omega) hhl hok (by decide) _ (by omega))))) rfl rfl rfl ?_
        refine wo_apv rfl rfl rfl rfl rfl ?_
        refine wo_nil ?_
        refine ⟨[_, _, _, _, _, _, _, _, _, _, _, _, _, _, _, _, _, _, _, _, _, _, _, _, _, _, _, _, _, _, _, _, _, _, _, _, _, _, _, _, _, _, _, _, _, _, _], rfl, ?_⟩
        refine wp_region rfl rfl ?_
        refine wo_mpv rfl rfl rfl rfl rfl ?_
        refine wo_bin (v := .pv (.int .i64 ((j + 1 : Nat) : Int))) rfl rfl rfl rfl (iV (by rw [wrapI (by omega) (by omega)]; omega)) ?_
        refine wo_apv rfl rfl rfl rfl rfl ?_
        refine wo_nil ?_
        refine ⟨[_, _, _, _, _, _, _, _, _, _, _, _, _, _, _, _, _, _, _, _, _, _, _, _, _, _, _, _, _, _, _, _, _, _, _, _, _, _, _, _, _, _, _, _, _, _, _], rfl, ?_⟩
        refine ⟨_, _, tidy_norm (t' := [_, _, _, _, _, _, _, _, _, _, _, _, _, _, _, _, _, _, _, _, _, _, _, _, _, _, _, _, _, _, _, _, _, _, _, _, _, _, _, _, _, _, _, _, _, _, _]) rfl rfl rfl, k - 1, by omega, j + 1, _, feedM V.rplain size held j l[j] (dr draws j), by omega, .inl rfl, feedM_len hhl, by rw [← hM, ofM_cons hjl, if_pos hr], rfl, rfl⟩
  ·
    refine wo_nil ?_
    refine ⟨[_, _, _, _, _, _, _, _, _, _, _, _, _, _, _, _, _, _, _, _, _, _, _, _, _, _, _, _, _, _, _, _, _, _, _, _, _, _, _, _, _, _, _, _, _, _, _], rfl, ?_⟩
    refine wp_false rfl ?_
    refine wp_exit ?_
    refine wp_seq ?_
    refine wp_region rfl rfl ?_
    refine wo_mpv rfl rfl rfl rfl rfl ?_
    refine wo_apv rfl rfl rfl rfl rfl ?_
    refine wo_apv rfl rfl rfl rfl rfl ?_
    refine wo_nil ?_
    refine ⟨[_, _, _, _, _, _, _, _, _, _, _, _, _, _, _, _, _, _, _, _, _, _, _, _, _, _, _, _, _, _, _, _, _, _, _, _, _, _, _, _, _, _, _, _, _, _, _], rfl, ?_⟩
    refine wp_ret ?_
    first
      | (rw [show ofM V.rplain size draws [] 0 l = none by rw [← hM, ofM_cons hjl, hr]; rfl]; exact ⟨trivial, _, rfl, _, _, rfl, rfl, rfl⟩)
      | (obtain rfl : j = l.length := by omega
         rw [List.drop_length] at hM
         rw [show ofM V.rplain size draws [] 0 l = some held from hM.symm]
         exact ⟨trivial, _, rfl, _, _, rfl, _, hh, rfl, rfl⟩)
end Go.Ab.Ytnfgpejdbmakkaa
