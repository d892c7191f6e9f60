import Derived.Test.YtnfgpejdbmakkaaV4
namespace Go.Ab.Ytnfgpejdbmakkaa
open Go Go.Ab
open Go.Proofs.Try
set_option maxRecDepth 100000
set_option maxHeartbeats 1000000
set_option linter.unusedSimpArgs false
set_option linter.unusedVariables false

theorem emp_eq {s : ByteArray} (h : emp s = true) : s = ByteArray.empty := by
  unfold emp at h
  rw [beq_iff_eq, ByteArray.toList_eq, ByteArray.toList_eq] at h
  apply ByteArray.ext
  exact Array.toList_inj.1 h
theorem plain_ok {v : V} (hv : v.Ok) : v.plain.Ok := by
  unfold V.plain
  split
  · exact V0.ok
  · split
    · exact ⟨hv.k1, hv.k2, hv.n1, hv.n2, (by decide : (9221120237041090561 : Nat) < 2 ^ 64)⟩
    · split
      · exact ⟨hv.k1, hv.k2, hv.n1, hv.n2, (by decide : (0 : Nat) < 2 ^ 64)⟩
      · exact hv
theorem EqV.rfl' (v : V) : EqV v v := ⟨rfl, rfl, rfl, rfl, rfl⟩
/-- Both plain forms are as good as the same. -/
theorem plain_eq {v : V} (hv : v.Ok) : EqV v.plain v.rplain := by
  unfold V.plain V.rplain
  by_cases hr : v.right = false
  · rw [if_pos hr, if_pos hr]; exact EqV.rfl' _
  · rw [if_neg hr, if_neg hr]
    by_cases hn : v.k = 3 ∧ isNan v.f = true
    · have hz := nan_not_zero hv.f hn.2
      rw [if_pos hn, if_neg (by rw [hz]; simp)]
      refine ⟨rfl, rfl, rfl, ?_, ?_⟩
      · show nbits 9221120237041090561 = nbits v.f
        rw [show nbits v.f = 9221120237041090561 by unfold nbits; rw [hn.2]; rfl]; decide
      · show posz 9221120237041090561 = posz v.f
        rw [show posz v.f = false by unfold posz; rw [hz]; rfl]; decide
    · rw [if_neg hn]
      by_cases hz : v.k = 3 ∧ isZero v.f = true
      · rw [if_pos hz, if_pos hz]
        have hr : v.right = true := by simpa using hr
        have h3 : v.n = 0 ∧ emp v.s = true := by simpa [V.right, hz.1] using hr
        exact ⟨hz.1, h3.1, emp_eq h3.2, rfl, rfl⟩
      · rw [if_neg hz, if_neg hz]; exact EqV.rfl' _

/-- Lists of values that are as good as the same. -/
def EqL (a b : List V) : Prop := a.length = b.length ∧ ∀ (i : Nat) (h : i < a.length) (h' : i < b.length), EqV a[i] b[i]
theorem EqL.nil : EqL [] [] := ⟨rfl, fun i h => by simp at h⟩
theorem EqL.refl (a : List V) : EqL a a := ⟨rfl, fun i _ _ => EqV.rfl' _⟩
theorem EqL.snoc {a b : List V} {v w : V} (h : EqL a b) (hv : EqV v w) : EqL (a ++ [v]) (b ++ [w]) := by
  refine ⟨by simp [h.1], fun i h1 h2 => ?_⟩
  by_cases hi : i < a.length
  · rw [List.getElem_append_left hi, List.getElem_append_left (by have := h.1; omega)]; exact h.2 i hi _
  · have e : i = a.length := by simp at h1; omega
    subst e
    have e2 : a.length = b.length := h.1
    simp [e2]
    simpa using hv
theorem EqL.set {a b : List V} {v w : V} (h : EqL a b) (hv : EqV v w) (k : Nat) : EqL (a.set k v) (b.set k w) := by
  refine ⟨by simp [h.1], fun i h1 h2 => ?_⟩
  rw [List.getElem_set, List.getElem_set]
  split
  · exact hv
  · exact h.2 i (by simpa using h1) (by simpa using h2)
theorem feed_eq {a b : List V} (h : EqL a b) {v : V} (hv : v.Ok) (size sn draw : Nat) : EqL (feedM V.plain size a sn v draw) (feedM V.rplain size b sn v draw) := by
  unfold feedM
  rw [h.1]
  split
  · exact h.snoc (plain_eq hv)
  · split
    · exact h.set (plain_eq hv) _
    · exact h
theorem ofM_eq (size : Nat) (draws : List Nat) : ∀ (l : List V) (a b : List V) (sn : Nat), OkL l → EqL a b →
    (∃ x y, ofM V.plain size draws a sn l = some x ∧ ofM V.rplain size draws b sn l = some y ∧ EqL x y) ∨ (ofM V.plain size draws a sn l = none ∧ ofM V.rplain size draws b sn l = none)
  | [], a, b, sn, _, h => .inl ⟨a, b, rfl, rfl, h⟩
  | v :: l, a, b, sn, hl, h => by
    simp only [ofM]
    split
    · exact ofM_eq size draws l _ _ (sn + 1) (fun x hx => hl x (by simp [hx])) (feed_eq h (hl v (by simp)) size sn _)
    · exact .inr ⟨rfl, rfl⟩
theorem ofM_props {P : V → V} (hP : ∀ v : V, v.Ok → (P v).Ok) (size : Nat) (draws : List Nat) : ∀ (l a : List V) (sn : Nat) (x : List V), OkL l → OkL a → a.length ≤ size → ofM P size draws a sn l = some x → OkL x ∧ x.length ≤ size
  | [], a, sn, x, _, ha, hs, h => by
    have : a = x := by simpa [ofM] using h
    subst this; exact ⟨ha, hs⟩
  | v :: l, a, sn, x, hl, ha, hs, h => by
    simp only [ofM] at h
    split at h
    · refine ofM_props hP size draws l _ (sn + 1) x (fun y hy => hl y (by simp [hy])) ?_ (feedM_len hs) h
      have hv := hP v (hl v (by simp))
      intro y hy
      unfold feedM at hy
      split at hy
      · rcases List.mem_append.1 hy with hy | hy
        · exact ha y hy
        · simp at hy; subst hy; exact hv
      · split at hy
        · rcases List.mem_or_eq_of_mem_set hy with hy | rfl
          · exact ha y hy
          · exact hv
        · exact ha y hy
    · cases h

/-- A function that only reads, on pure arguments, with new blocks. -/
theorem callPure_new {C : CallF} {f : Nat} {args : List AV} {look : Look} {nid : Nat} {v v' : AV} {bs bs' : List Blk} (hi : AV.idsL args = []) (hp : ∀ lk, puriL lk args = some args) (hne : bs.isEmpty = false) (hv : v.ren (fun i => some (nid + i)) = some v') (hb : blksRen (fun i => some (nid + i)) bs = some bs')
    (hC : C f args [] = some (.ret v, bs)) : callPure C f args look nid = some (.ok ⟨v', [], bs'⟩) := by
  have hR : reach look REACH (AV.idsL args) [] = [] := by rw [hi]; rfl
  unfold callPure
  simp only [hR, hp, Option.bind_some, hC, hne, Bool.and_false, Bool.false_eq_true, if_false, hv, hb, Option.map_some, freezeAll]
def OOut (x : Option (List V)) (v : AV) (H : List Blk) : Prop :=
  match x with
  | some h => v = .tup [.pv (.sl (h.map V.row)), .pv (.int .i64 0)] ∧ H = []
  | none => v = .tup [.pv .nils, .pv (.int .i64 2)] ∧ H = []
theorem of_bad {p q : PV} {size : Int} (h : size < 1 ∨ size > 400) (N : Nat) (hN : 2 ≤ N) : call G N 26 [.pv p, .pv (.int .i64 size), .pv q] [] = some (.ret (.tup [.pv .nils, .pv (.int .i64 2)]), []) := by
  obtain ⟨N, rfl⟩ : ∃ M, N = M + 1 := ⟨N - 1, by omega⟩
  refine call_eq func26 rfl (show _ = [_, _, _, _, _, _, _, _, _, _, _, _, _, _, _, _, _, _, _, _, _, _, _, _, _, _, _, _, _, _, _, _, _, _, _, _, _, _, _, _, _, _, _, _, _, _, _] from rfl) ?_
  refine wp_seq ?_
  refine wp_region rfl rfl ?_
  refine wo_apv rfl rfl rfl rfl rfl ?_
  refine wo_apv rfl rfl rfl rfl rfl ?_
  refine wo_nil ?_
  refine ⟨[_, _, _, _, _, _, _, _, _, _, _, _, _, _, _, _, _, _, _, _, _, _, _, _, _, _, _, _, _, _, _, _, _, _, _, _, _, _, _, _, _, _, _, _, _, _, _], rfl, ?_⟩
  refine wp_seq ?_
  refine wp_region rfl rfl ?_
  refine wo_mpv rfl rfl rfl rfl rfl ?_
  refine wo_call (v := .tup [.pv .nilp, .pv (.int .i64 2)]) (H' := []) rfl rfl rfl rfl rfl rfl ((cl17 _ _ _ _).trans (callPure_any rfl (fun _ => rfl) rfl (new_bad h _ (by omega)))) rfl rfl rfl ?_
  refine wo_move (v := .tup _) rfl rfl rfl rfl rfl (fun h => AV.noConfusion h) ?_
  refine wo_extract (v := .pv _) rfl rfl rfl rfl rfl rfl ?_
  refine wo_extract (v := .pv _) rfl rfl rfl rfl rfl rfl ?_
  refine wo_apv rfl rfl rfl rfl rfl ?_
  refine wo_apv rfl rfl rfl rfl rfl ?_
  refine wo_nil ?_
  refine ⟨[_, _, _, _, _, _, _, _, _, _, _, _, _, _, _, _, _, _, _, _, _, _, _, _, _, _, _, _, _, _, _, _, _, _, _, _, _, _, _, _, _, _, _, _, _, _, _], rfl, ?_⟩
  refine wp_seq ?_
  refine wp_seq ?_
  refine wp_region rfl rfl ?_
  refine wo_mpv rfl rfl rfl rfl rfl ?_
  refine wo_bin (v := .pv (.bool true)) rfl rfl rfl rfl (nT (by decide)) ?_
  refine wo_nil ?_
  refine ⟨[_, _, _, _, _, _, _, _, _, _, _, _, _, _, _, _, _, _, _, _, _, _, _, _, _, _, _, _, _, _, _, _, _, _, _, _, _, _, _, _, _, _, _, _, _, _, _], rfl, ?_⟩
  refine wp_true rfl ?_
  refine wp_seq ?_
  refine wp_region rfl rfl ?_
  refine wo_mpv rfl rfl rfl rfl rfl ?_
  refine wo_apv rfl rfl rfl rfl rfl ?_
  refine wo_apv rfl rfl rfl rfl rfl ?_
  refine wo_nil ?_
  refine ⟨[_, _, _, _, _, _, _, _, _, _, _, _, _, _, _, _, _, _, _, _, _, _, _, _, _, _, _, _, _, _, _, _, _, _, _, _, _, _, _, _, _, _, _, _, _, _, _], rfl, ?_⟩
  refine wp_ret ?_
  exact ⟨trivial, _, rfl, rfl⟩
theorem of_ok {p q : PV} {l : List V} {draws : List Nat} (hp : SV p l) (hq : SU q draws) (ho : OkL l) (hd : D64 draws) (hl : l.length ≤ 1000) {size : Nat} (h1 : 1 ≤ size) (h2 : size ≤ 400) (N : Nat) (hN : l.length + 8 ≤ N) :
    ∃ v H', call G N 26 [.pv p, .pv (.int .i64 size), .pv q] [] = some (.ret v, H') ∧ OOut (ofM V.plain size draws [] 0 l) v H' := by
  obtain ⟨N, rfl⟩ : ∃ M, N = M + 1 := ⟨N - 1, by omega⟩
  refine call_wp func26 rfl (show _ = [_, _, _, _, _, _, _, _, _, _, _, _, _, _, _, _, _, _, _, _, _, _, _, _, _, _, _, _, _, _, _, _, _, _, _, _, _, _, _, _, _, _, _, _, _, _, _] from rfl) ?_
  refine wp_seq ?_
  refine wp_region rfl rfl ?_
  refine wo_apv rfl rfl rfl rfl rfl ?_
  refine wo_apv rfl rfl rfl rfl rfl ?_
  refine wo_nil ?_
  refine ⟨[_, _, _, _, _, _, _, _, _, _, _, _, _, _, _, _, _, _, _, _, _, _, _, _, _, _, _, _, _, _, _, _, _, _, _, _, _, _, _, _, _, _, _, _, _, _, _], rfl, ?_⟩
  refine wp_seq ?_
  refine wp_region rfl rfl ?_
  refine wo_mpv rfl rfl rfl rfl rfl ?_
  refine wo_call (v := .tup [.ptr 0 0, .pv (.int .i64 0)]) (H' := [_]) rfl rfl rfl rfl rfl rfl ((cl17 _ _ _ _).trans (callPure_new (bs' := [_]) rfl (fun _ => rfl) rfl rfl rfl (new_ok h1 h2 _ (by omega)))) rfl rfl rfl ?_
  refine wo_move (v := .tup _) rfl rfl rfl rfl rfl (fun h => AV.noConfusion h) ?_
  refine wo_extract (v := .ptr _ _) rfl rfl rfl rfl rfl rfl ?_
  refine wo_extract (v := .pv _) rfl rfl rfl rfl rfl rfl ?_
  refine wo_assign (v := .ptr _ _) rfl rfl rfl rfl rfl (fun h => AV.noConfusion h) ?_
  refine wo_apv rfl rfl rfl rfl rfl ?_
  refine wo_nil ?_
  refine ⟨[_, _, _, _, _, _, _, _, _, _, _, _, _, _, _, _, _, _, _, _, _, _, _, _, _, _, _, _, _, _, _, _, _, _, _, _, _, _, _, _, _, _, _, _, _, _, _], rfl, ?_⟩
  refine wp_seq ?_
  refine wp_seq ?_
  refine wp_region rfl rfl ?_
  refine wo_mpv rfl rfl rfl rfl rfl ?_
  refine wo_bin (v := .pv (.bool false)) rfl rfl rfl rfl (nF rfl) ?_
  refine wo_nil ?_
  refine ⟨[_, _, _, _, _, _, _, _, _, _, _, _, _, _, _, _, _, _, _, _, _, _, _, _, _, _, _, _, _, _, _, _, _, _, _, _, _, _, _, _, _, _, _, _, _, _, _], rfl, ?_⟩
  refine wp_false rfl ?_
  refine wp_skip ?_
  refine wp_seq ?_
  refine wp_seq ?_
  refine wp_region rfl rfl ?_
  refine wo_mpv rfl rfl rfl rfl rfl ?_
  refine wo_len (ln := l.length) t31 rfl rfl rfl rfl rfl rfl rfl (hp.len 40) rfl ?_
  refine wo_mpv rfl rfl rfl rfl rfl ?_
  refine wo_nil ?_
  refine ⟨[_, _, _, _, _, _, _, _, _, _, _, _, _, _, _, _, _, _, _, _, _, _, _, _, _, _, _, _, _, _, _, _, _, _, _, _, _, _, _, _, _, _, _, _, _, _, _], rfl, ?_⟩
  refine wp_block ?_
  refine wp_loop (fun k t H => ∃ (j : Nat) (held : List V) (fl : Nat), j + k = l.length ∧ held.length ≤ size ∧ fl ≤ held.length ∧ ofM V.plain size draws held j (l.drop j) = ofM V.plain size draws [] 0 l ∧ ((t = [.any, .any, .pv q, .any, .any, .any, .any, .any, .ptr 0 0, .any, .any, .any, .any, .any, .any, .any, .any, .any, .any, .any, .any, .any, .pv p, .pv (.int .i64 l.length), .pv (.int .i64 (j : Nat)), .any, .any, .any, .any, .any, .any, .any, .any, .any, .any, .any, .any, .any, .any, .any, .any, .any, .any, .any, .any, .any, .any] ∧ H = [RX size 0 (.pv .nils)] ∧ held = [] ∧ j = 0) ∨ (held ≠ [] ∧ t = [.any, .any, .pv q, .any, .any, .any, .any, .any, .ptr 0 0, .any, .any, .any, .any, .any, .any, .any, .any, .any, .any, .any, .any, .any, .pv p, .pv (.int .i64 l.length), .pv (.int .i64 (j : Nat)), .any, .any, .any, .any, .any, .any, .any, .any, .any, .any, .any, .any, .any, .any, .any, .any, .any, .any, .any, .any, .any, .any] ∧ H = [RX size j (VR 1 held), VB held fl]))) l.length ⟨0, [], 0, by omega, by simp, by simp, rfl, .inl ⟨rfl, rfl, rfl, rfl⟩⟩ (by omega) ?_
  rintro k _ _ hk ⟨j, held, fl, hj, hhl, hfl, hM, ⟨rfl, rfl, rfl, rfl⟩ | ⟨hne, rfl, rfl⟩⟩
  ·
    refine wp_seq ?_
    refine wp_region rfl rfl ?_
    refine wo_bsplit rfl rfl rfl rfl rfl (fun c5_0 => ?_) (fun c5_0 => ?_)
    ·
      refine wo_nil ?_
      refine ⟨[_, _, _, _, _, _, _, _, _, _, _, _, _, _, _, _, _, _, _, _, _, _, _, _, _, _, _, _, _, _, _, _, _, _, _, _, _, _, _, _, _, _, _, _, _, _, _], rfl, ?_⟩
      refine wp_seq ?_
      refine wp_true rfl ?_
      refine wp_skip ?_
      refine wp_seq ?_
      refine wp_block ?_
      refine wp_seq ?_
      refine wp_region rfl rfl ?_
      refine wo_mpv rfl rfl rfl rfl rfl ?_
      have hjl : 0 < l.length := by omega
      have hok := ho _ (List.getElem_mem hjl)
      refine wo_iaddr (v := .pv (.ptr (l[0]).row 0)) rfl rfl rfl rfl (hp.get (i := 0) hjl rfl) ?_
      refine wo_load (v := .agg [_, _, _, _]) t40 rfl rfl rfl rfl rfl rfl ?_
      refine wo_alloc (cs := [_, _, _, _]) (H' := [_, _]) t40 rfl rfl rfl rfl rfl rfl ?_
      refine wo_apv rfl rfl rfl rfl rfl ?_
      refine wo_store (cs' := [_, _, _, _]) (H' := [_, _]) t40 rfl rfl rfl rfl rfl rfl rfl rfl rfl ?_
      refine wo_nil ?_
      refine ⟨[_, _, _, _, _, _, _, _, _, _, _, _, _, _, _, _, _, _, _, _, _, _, _, _, _, _, _, _, _, _, _, _, _, _, _, _, _, _, _, _, _, _, _, _, _, _, _], rfl, ?_⟩
      refine wp_seq ?_
      refine wp_region rfl rfl ?_
      by_cases hjd : 0 < draws.length
      ·
        refine wo_apv rfl rfl rfl rfl rfl ?_
        refine wo_nil ?_
        refine ⟨[_, _, _, _, _, _, _, _, _, _, _, _, _, _, _, _, _, _, _, _, _, _, _, _, _, _, _, _, _, _, _, _, _, _, _, _, _, _, _, _, _, _, _, _, _, _, _], rfl, ?_⟩
        refine wp_seq ?_
        refine wp_seq ?_
        refine wp_region rfl rfl ?_
        refine wo_mpv rfl rfl rfl rfl rfl ?_
        refine wo_mpv rfl rfl rfl rfl rfl ?_
        refine wo_len (ln := draws.length) t32 rfl rfl rfl rfl rfl rfl rfl (hq.len 22) rfl ?_
        refine wo_bin (v := .pv (.bool true)) rfl rfl rfl rfl (bT (by omega)) ?_
        refine wo_nil ?_
        refine ⟨[_, _, _, _, _, _, _, _, _, _, _, _, _, _, _, _, _, _, _, _, _, _, _, _, _, _, _, _, _, _, _, _, _, _, _, _, _, _, _, _, _, _, _, _, _, _, _], rfl, ?_⟩
        refine wp_true rfl ?_
        refine wp_region rfl rfl ?_
        refine wo_mpv rfl rfl rfl rfl rfl ?_
        refine wo_mpv rfl rfl rfl rfl rfl ?_
        refine wo_iaddr (v := .pv (.ptr (rowU draws[0]) 0)) rfl rfl rfl rfl (hq.get (i := 0) hjd rfl) ?_
        refine wo_load (v := .pv (.int .u64 (dr draws 0 : Nat))) t22 rfl rfl rfl rfl ((by rw [← dr_in hjd]; rfl)) rfl ?_
        refine wo_apv rfl rfl rfl rfl rfl ?_
        refine wo_nil ?_
        refine ⟨[_, _, _, _, _, _, _, _, _, _, _, _, _, _, _, _, _, _, _, _, _, _, _, _, _, _, _, _, _, _, _, _, _, _, _, _, _, _, _, _, _, _, _, _, _, _, _], rfl, ?_⟩
        refine wp_seq ?_
        refine wp_region rfl rfl ?_
        refine wo_move (v := .ptr _ _) rfl rfl rfl rfl rfl (fun h => AV.noConfusion h) ?_
        refine wo_load (v := .agg [_, _, _, _]) t40 rfl rfl rfl rfl rfl rfl ?_
        refine wo_mpv rfl rfl rfl rfl rfl ?_
        cases hr : (l[0]).right
        ·
          refine wo_call (v := .pv (.int .i64 2)) (H' := [_, _]) rfl rfl rfl rfl rfl rfl ((cl19 _ _ _ _).trans (callRef_gen (R := [0]) (bs := [_]) (bs1 := [_]) (bs3 := [_]) rfl rfl rfl rfl (feed_bad_nil (sn := 0) h1 hok hr (dr draws 0) _ (by omega)) rfl rfl rfl rfl)) rfl rfl rfl ?_
          refine wo_apv rfl rfl rfl rfl rfl ?_
          refine wo_nil ?_
          refine ⟨[_, _, _, _, _, _, _, _, _, _, _, _, _, _, _, _, _, _, _, _, _, _, _, _, _, _, _, _, _, _, _, _, _, _, _, _, _, _, _, _, _, _, _, _, _, _, _], rfl, ?_⟩
          refine wp_seq ?_
          refine wp_region rfl rfl ?_
          refine wo_mpv rfl rfl rfl rfl rfl ?_
          refine wo_bin (v := .pv (.bool true)) rfl rfl rfl rfl (nT (by decide)) ?_
          refine wo_nil ?_
          refine ⟨[_, _, _, _, _, _, _, _, _, _, _, _, _, _, _, _, _, _, _, _, _, _, _, _, _, _, _, _, _, _, _, _, _, _, _, _, _, _, _, _, _, _, _, _, _, _, _], rfl, ?_⟩
          refine wp_true rfl ?_
          refine wp_seq ?_
          refine wp_region rfl rfl ?_
          refine wo_mpv rfl rfl rfl rfl rfl ?_
          refine wo_apv rfl rfl rfl rfl rfl ?_
          refine wo_apv rfl rfl rfl rfl rfl ?_
          refine wo_nil ?_
          refine ⟨[_, _, _, _, _, _, _, _, _, _, _, _, _, _, _, _, _, _, _, _, _, _, _, _, _, _, _, _, _, _, _, _, _, _, _, _, _, _, _, _, _, _, _, _, _, _, _], rfl, ?_⟩
          refine wp_ret ?_
          rw [show ofM V.plain size draws [] 0 l = none by rw [← hM, ofM_cons hjl, hr]; rfl]
          exact ⟨trivial, _, rfl, _, _, rfl, rfl, rfl⟩
        ·
          refine wo_call (v := .pv (.int .i64 0)) (H' := [_, _, _]) rfl rfl rfl rfl rfl rfl ((cl19 _ _ _ _).trans (callRef_gen (R := [0]) (bs := [_]) (bs1 := [_]) (bs3 := [_, _]) rfl rfl rfl rfl (feed_nil (sn := 0) h1 h2 (by omega) hok hr (dr draws 0) _ (by omega)) rfl rfl rfl rfl)) rfl rfl rfl ?_
          refine wo_apv rfl rfl rfl rfl rfl ?_
          refine wo_nil ?_
          refine ⟨[_, _, _, _, _, _, _, _, _, _, _, _, _, _, _, _, _, _, _, _, _, _, _, _, _, _, _, _, _, _, _, _, _, _, _, _, _, _, _, _, _, _, _, _, _, _, _], rfl, ?_⟩
          refine wp_seq ?_
          refine wp_region rfl rfl ?_
          refine wo_mpv rfl rfl rfl rfl rfl ?_
          refine wo_bin (v := .pv (.bool false)) rfl rfl rfl rfl (nF rfl) ?_
          refine wo_nil ?_
          refine ⟨[_, _, _, _, _, _, _, _, _, _, _, _, _, _, _, _, _, _, _, _, _, _, _, _, _, _, _, _, _, _, _, _, _, _, _, _, _, _, _, _, _, _, _, _, _, _, _], rfl, ?_⟩
          refine wp_false rfl ?_
          refine wp_skip ?_
          refine wp_region rfl rfl ?_
          refine wo_bin (v := .pv (.int .i64 ((0 + 1 : Nat) : Int))) rfl rfl rfl rfl (iV (by rw [wrapI (by omega) (by omega)]; omega)) ?_
          refine wo_mpv rfl rfl rfl rfl rfl ?_
          refine wo_nil ?_
          refine ⟨[_, _, _, _, _, _, _, _, _, _, _, _, _, _, _, _, _, _, _, _, _, _, _, _, _, _, _, _, _, _, _, _, _, _, _, _, _, _, _, _, _, _, _, _, _, _, _], rfl, ?_⟩
          refine ⟨[.any, .any, .pv q, .any, .any, .any, .any, .any, .ptr 0 0, .any, .any, .any, .any, .any, .any, .any, .any, .any, .any, .any, .any, .any, .pv p, .pv (.int .i64 l.length), .pv (.int .i64 ((0 + 1 : Nat) : Int)), .any, .any, .any, .any, .any, .any, .any, .any, .any, .any, .any, .any, .any, .any, .any, .any, .any, .any, .any, .any, .any, .any], [RX size (0 + 1) (VR 1 [(l[0]).plain]), VB [(l[0]).plain] 0], tidy_ren (t' := [_, _, _, _, _, _, _, _, _, _, _, _, _, _, _, _, _, _, _, _, _, _, _, _, _, _, _, _, _, _, _, _, _, _, _, _, _, _, _, _, _, _, _, _, _, _, _]) (order := [0, 2]) (bs := [_, _]) rfl rfl rfl (by kernel_rfl) (by kernel_rfl) rfl (by kernel_rfl), k - 1, by omega, 0 + 1, [(l[0]).plain], 0, by omega, by simpa using h1, by simp, by rw [← hM, ofM_cons hjl, if_pos hr]; rw [show feedM V.plain size [] 0 l[0] (dr draws 0) = [(l[0]).plain] by unfold feedM; rw [if_pos (by simp; omega)]; rfl], .inr ⟨by simp, rfl, rfl⟩⟩
      ·
        refine wo_apv (p := .int .u64 (dr draws 0 : Nat)) rfl rfl rfl rfl ((by rw [dr_out hjd]; rfl)) ?_
        refine wo_nil ?_
        refine ⟨[_, _, _, _, _, _, _, _, _, _, _, _, _, _, _, _, _, _, _, _, _, _, _, _, _, _, _, _, _, _, _, _, _, _, _, _, _, _, _, _, _, _, _, _, _, _, _], rfl, ?_⟩
        refine wp_seq ?_
        refine wp_seq ?_
        refine wp_region rfl rfl ?_
        refine wo_mpv rfl rfl rfl rfl rfl ?_
        refine wo_mpv rfl rfl rfl rfl rfl ?_
        refine wo_len (ln := draws.length) t32 rfl rfl rfl rfl rfl rfl rfl (hq.len 22) rfl ?_
        refine wo_bin (v := .pv (.bool false)) rfl rfl rfl rfl (bF (by omega)) ?_
        refine wo_nil ?_
        refine ⟨[_, _, _, _, _, _, _, _, _, _, _, _, _, _, _, _, _, _, _, _, _, _, _, _, _, _, _, _, _, _, _, _, _, _, _, _, _, _, _, _, _, _, _, _, _, _, _], rfl, ?_⟩
        refine wp_false rfl ?_
        refine wp_skip ?_
        refine wp_seq ?_
        refine wp_region rfl rfl ?_
        refine wo_move (v := .ptr _ _) rfl rfl rfl rfl rfl (fun h => AV.noConfusion h) ?_
        refine wo_load (v := .agg [_, _, _, _]) t40 rfl rfl rfl rfl rfl rfl ?_
        refine wo_mpv rfl rfl rfl rfl rfl ?_
        cases hr : (l[0]).right
        ·
          refine wo_call (v := .pv (.int .i64 2)) (H' := [_, _]) rfl rfl rfl rfl rfl rfl ((cl19 _ _ _ _).trans (callRef_gen (R := [0]) (bs := [_]) (bs1 := [_]) (bs3 := [_]) rfl rfl rfl rfl (feed_bad_nil (sn := 0) h1 hok hr (dr draws 0) _ (by omega)) rfl rfl rfl rfl)) rfl rfl rfl ?_
          refine wo_apv rfl rfl rfl rfl rfl ?_
          refine wo_nil ?_
          refine ⟨[_, _, _, _, _, _, _, _, _, _, _, _, _, _, _, _, _, _, _, _, _, _, _, _, _, _, _, _, _, _, _, _, _, _, _, _, _, _, _, _, _, _, _, _, _, _, _], rfl, ?_⟩
          refine wp_seq ?_
          refine wp_region rfl rfl ?_
          refine wo_mpv rfl rfl rfl rfl rfl ?_
          refine wo_bin (v := .pv (.bool true)) rfl rfl rfl rfl (nT (by decide)) ?_
          refine wo_nil ?_
          refine ⟨[_, _, _, _, _, _, _, _, _, _, _, _, _, _, _, _, _, _, _, _, _, _, _, _, _, _, _, _, _, _, _, _, _, _, _, _, _, _, _, _, _, _, _, _, _, _, _], rfl, ?_⟩
          refine wp_true rfl ?_
          refine wp_seq ?_
          refine wp_region rfl rfl ?_
          refine wo_mpv rfl rfl rfl rfl rfl ?_
          refine wo_apv rfl rfl rfl rfl rfl ?_
          refine wo_apv rfl rfl rfl rfl rfl ?_
          refine wo_nil ?_
          refine ⟨[_, _, _, _, _, _, _, _, _, _, _, _, _, _, _, _, _, _, _, _, _, _, _, _, _, _, _, _, _, _, _, _, _, _, _, _, _, _, _, _, _, _, _, _, _, _, _], rfl, ?_⟩
          refine wp_ret ?_
          rw [show ofM V.plain size draws [] 0 l = none by rw [← hM, ofM_cons hjl, hr]; rfl]
          exact ⟨trivial, _, rfl, _, _, rfl, rfl, rfl⟩
        ·
          refine wo_call (v := .pv (.int .i64 0)) (H' := [_, _, _]) rfl rfl rfl rfl rfl rfl ((cl19 _ _ _ _).trans (callRef_gen (R := [0]) (bs := [_]) (bs1 := [_]) (bs3 := [_, _]) rfl rfl rfl rfl (feed_nil (sn := 0) h1 h2 (by omega) hok hr (dr draws 0) _ (by omega)) rfl rfl rfl rfl)) rfl rfl rfl ?_
          refine wo_apv rfl rfl rfl rfl rfl ?_
          refine wo_nil ?_
          refine ⟨[_, _, _, _, _, _, _, _, _, _, _, _, _, _, _, _, _, _, _, _, _, _, _, _, _, _, _, _, _, _, _, _, _, _, _, _, _, _, _, _, _, _, _, _, _, _, _], rfl, ?_⟩
          refine wp_seq ?_
          refine wp_region rfl rfl ?_
          refine wo_mpv rfl rfl rfl rfl rfl ?_
          refine wo_bin (v := .pv (.bool false)) rfl rfl rfl rfl (nF rfl) ?_
          refine wo_nil ?_
          refine ⟨[_, _, _, _, _, _, _, _, _, _, _, _, _, _, _, _, _, _, _, _, _, _, _, _, _, _, _, _, _, _, _, _, _, _, _, _, _, _, _, _, _, _, _, _, _, _, _], rfl, ?_⟩
          refine wp_false rfl ?_
          refine wp_skip ?_
          refine wp_region rfl rfl ?_
          refine wo_bin (v := .pv (.int .i64 ((0 + 1 : Nat) : Int))) rfl rfl rfl rfl (iV (by rw [wrapI (by omega) (by omega)]; omega)) ?_
          refine wo_mpv rfl rfl rfl rfl rfl ?_
          refine wo_nil ?_
          refine ⟨[_, _, _, _, _, _, _, _, _, _, _, _, _, _, _, _, _, _, _, _, _, _, _, _, _, _, _, _, _, _, _, _, _, _, _, _, _, _, _, _, _, _, _, _, _, _, _], rfl, ?_⟩
          refine ⟨[.any, .any, .pv q, .any, .any, .any, .any, .any, .ptr 0 0, .any, .any, .any, .any, .any, .any, .any, .any, .any, .any, .any, .any, .any, .pv p, .pv (.int .i64 l.length), .pv (.int .i64 ((0 + 1 : Nat) : Int)), .any, .any, .any, .any, .any, .any, .any, .any, .any, .any, .any, .any, .any, .any, .any, .any, .any, .any, .any, .any, .any, .any], [RX size (0 + 1) (VR 1 [(l[0]).plain]), VB [(l[0]).plain] 0], tidy_ren (t' := [_, _, _, _, _, _, _, _, _, _, _, _, _, _, _, _, _, _, _, _, _, _, _, _, _, _, _, _, _, _, _, _, _, _, _, _, _, _, _, _, _, _, _, _, _, _, _]) (order := [0, 2]) (bs := [_, _]) rfl rfl rfl (by kernel_rfl) (by kernel_rfl) rfl (by kernel_rfl), k - 1, by omega, 0 + 1, [(l[0]).plain], 0, by omega, by simpa using h1, by simp, by rw [← hM, ofM_cons hjl, if_pos hr]; rw [show feedM V.plain size [] 0 l[0] (dr draws 0) = [(l[0]).plain] by unfold feedM; rw [if_pos (by simp; omega)]; rfl], .inr ⟨by simp, rfl, rfl⟩⟩
    ·
      refine wo_nil ?_
      refine ⟨[_, _, _, _, _, _, _, _, _, _, _, _, _, _, _, _, _, _, _, _, _, _, _, _, _, _, _, _, _, _, _, _, _, _, _, _, _, _, _, _, _, _, _, _, _, _, _], rfl, ?_⟩
      refine wp_seq ?_
      refine wp_false rfl ?_
      refine wp_exit ?_
      refine wp_seq ?_
      refine wp_region rfl rfl ?_
      refine wo_move (v := .ptr _ _) rfl rfl rfl rfl rfl (fun h => AV.noConfusion h) ?_
      refine wo_call (v := VR 1 []) (H' := [_, _]) rfl rfl rfl rfl rfl rfl ((cl22 _ _ _ _).trans (callRef_gen (R := [0]) (bs := [_]) (bs1 := [_]) (bs3 := [_, _]) rfl rfl rfl rfl (sample_nil _ _ _ (by omega)) rfl rfl rfl rfl)) rfl rfl rfl ?_
      refine wo_assign (v := .ref _ _ _ _ _ _) rfl rfl rfl rfl rfl (fun h => AV.noConfusion h) ?_
      refine wo_apv rfl rfl rfl rfl rfl ?_
      refine wo_nil ?_
      refine ⟨[_, _, _, _, _, _, _, _, _, _, _, _, _, _, _, _, _, _, _, _, _, _, _, _, _, _, _, _, _, _, _, _, _, _, _, _, _, _, _, _, _, _, _, _, _, _, _], rfl, ?_⟩
      refine wp_ret ?_
      have hl0 : l = [] := List.eq_nil_of_length_eq_zero (by omega)
      rw [hl0] at hM ⊢
      rw [show ofM V.plain size draws [] 0 [] = some [] from rfl]
      exact ⟨trivial, _, rfl, _, _, leave_tup_ref (l := []) rfl (by simp), rfl, rfl⟩
  ·
    refine wp_seq ?_
    refine wp_region rfl rfl ?_
    refine wo_bsplit rfl rfl rfl rfl rfl (fun c5_0 => ?_) (fun c5_0 => ?_)
    ·
      refine wo_nil ?_
      refine ⟨[_, _, _, _, _, _, _, _, _, _, _, _, _, _, _, _, _, _, _, _, _, _, _, _, _, _, _, _, _, _, _, _, _, _, _, _, _, _, _, _, _, _, _, _, _, _, _], rfl, ?_⟩
      refine wp_seq ?_
      refine wp_true rfl ?_
      refine wp_skip ?_
      refine wp_seq ?_
      refine wp_block ?_
      refine wp_seq ?_
      refine wp_region rfl rfl ?_
      refine wo_mpv rfl rfl rfl rfl rfl ?_
      have hjl : j < l.length := by omega
      have hok := ho _ (List.getElem_mem hjl)
      refine wo_iaddr (v := .pv (.ptr (l[j]).row 0)) rfl rfl rfl rfl (hp.get (i := j) hjl rfl) ?_
      refine wo_load (v := .agg [_, _, _, _]) t40 rfl rfl rfl rfl rfl rfl ?_
      refine wo_alloc (cs := [_, _, _, _]) (H' := [_, _, _]) t40 rfl rfl rfl rfl rfl rfl ?_
      refine wo_apv rfl rfl rfl rfl rfl ?_
      refine wo_store (cs' := [_, _, _, _]) (H' := [_, _, _]) t40 rfl rfl rfl rfl rfl rfl rfl rfl rfl ?_
      refine wo_nil ?_
      refine ⟨[_, _, _, _, _, _, _, _, _, _, _, _, _, _, _, _, _, _, _, _, _, _, _, _, _, _, _, _, _, _, _, _, _, _, _, _, _, _, _, _, _, _, _, _, _, _, _], rfl, ?_⟩
      refine wp_seq ?_
      refine wp_region rfl rfl ?_
      by_cases hjd : j < draws.length
      ·
        refine wo_apv rfl rfl rfl rfl rfl ?_
        refine wo_nil ?_
        refine ⟨[_, _, _, _, _, _, _, _, _, _, _, _, _, _, _, _, _, _, _, _, _, _, _, _, _, _, _, _, _, _, _, _, _, _, _, _, _, _, _, _, _, _, _, _, _, _, _], rfl, ?_⟩
        refine wp_seq ?_
        refine wp_seq ?_
        refine wp_region rfl rfl ?_
        refine wo_mpv rfl rfl rfl rfl rfl ?_
        refine wo_mpv rfl rfl rfl rfl rfl ?_
        refine wo_len (ln := draws.length) t32 rfl rfl rfl rfl rfl rfl rfl (hq.len 22) rfl ?_
        refine wo_bin (v := .pv (.bool true)) rfl rfl rfl rfl (bT (by omega)) ?_
        refine wo_nil ?_
        refine ⟨[_, _, _, _, _, _, _, _, _, _, _, _, _, _, _, _, _, _, _, _, _, _, _, _, _, _, _, _, _, _, _, _, _, _, _, _, _, _, _, _, _, _, _, _, _, _, _], rfl, ?_⟩
        refine wp_true rfl ?_
        refine wp_region rfl rfl ?_
        refine wo_mpv rfl rfl rfl rfl rfl ?_
        refine wo_mpv rfl rfl rfl rfl rfl ?_
        refine wo_iaddr (v := .pv (.ptr (rowU draws[j]) 0)) rfl rfl rfl rfl (hq.get (i := j) hjd rfl) ?_
        refine wo_load (v := .pv (.int .u64 (dr draws j : Nat))) t22 rfl rfl rfl rfl ((by rw [← dr_in hjd]; rfl)) rfl ?_
        refine wo_apv rfl rfl rfl rfl rfl ?_
        refine wo_nil ?_
        refine ⟨[_, _, _, _, _, _, _, _, _, _, _, _, _, _, _, _, _, _, _, _, _, _, _, _, _, _, _, _, _, _, _, _, _, _, _, _, _, _, _, _, _, _, _, _, _, _, _], rfl, ?_⟩
        refine wp_seq ?_
        refine wp_region rfl rfl ?_
        refine wo_move (v := .ptr _ _) rfl rfl rfl rfl rfl (fun h => AV.noConfusion h) ?_
        refine wo_load (v := .agg [_, _, _, _]) t40 rfl rfl rfl rfl rfl rfl ?_
        refine wo_mpv rfl rfl rfl rfl rfl ?_
        have hc : (l[j]).right = false ∨ ((l[j]).right = true ∧ held.length < size) ∨ ((l[j]).right = true ∧ held.length = size ∧ dr draws j % (j + 1) < size) ∨ ((l[j]).right = true ∧ held.length = size ∧ ¬ dr draws j % (j + 1) < size) := by
          cases h : (l[j]).right <;> simp <;> omega
        rcases hc with hr | ⟨hr, hlt⟩ | ⟨hr, hlt, hk⟩ | ⟨hr, hlt, hk⟩
        ·
          refine wo_call (v := .pv (.int .i64 2)) (H' := [_, _, _]) rfl rfl rfl rfl rfl rfl ((cl19 _ _ _ _).trans (callRef_gen (R := [0, 1]) (bs := [_, _]) (bs1 := [_, _]) (bs3 := [_, _]) rfl rfl rfl rfl (feed_bad_ref h1 hok hr (dr draws j) _ (by omega)) rfl rfl rfl rfl)) rfl rfl rfl ?_
          refine wo_apv rfl rfl rfl rfl rfl ?_
          refine wo_nil ?_
          refine ⟨[_, _, _, _, _, _, _, _, _, _, _, _, _, _, _, _, _, _, _, _, _, _, _, _, _, _, _, _, _, _, _, _, _, _, _, _, _, _, _, _, _, _, _, _, _, _, _], rfl, ?_⟩
          refine wp_seq ?_
          refine wp_region rfl rfl ?_
          refine wo_mpv rfl rfl rfl rfl rfl ?_
          refine wo_bin (v := .pv (.bool true)) rfl rfl rfl rfl (nT (by decide)) ?_
          refine wo_nil ?_
          refine ⟨[_, _, _, _, _, _, _, _, _, _, _, _, _, _, _, _, _, _, _, _, _, _, _, _, _, _, _, _, _, _, _, _, _, _, _, _, _, _, _, _, _, _, _, _, _, _, _], rfl, ?_⟩
          refine wp_true rfl ?_
          refine wp_seq ?_
          refine wp_region rfl rfl ?_
          refine wo_mpv rfl rfl rfl rfl rfl ?_
          refine wo_apv rfl rfl rfl rfl rfl ?_
          refine wo_apv rfl rfl rfl rfl rfl ?_
          refine wo_nil ?_
          refine ⟨[_, _, _, _, _, _, _, _, _, _, _, _, _, _, _, _, _, _, _, _, _, _, _, _, _, _, _, _, _, _, _, _, _, _, _, _, _, _, _, _, _, _, _, _, _, _, _], rfl, ?_⟩
          refine wp_ret ?_
          rw [show ofM V.plain size draws [] 0 l = none by rw [← hM, ofM_cons hjl, hr]; rfl]
          exact ⟨trivial, _, rfl, _, _, rfl, rfl, rfl⟩
        ·
          refine wo_call (v := .pv (.int .i64 0)) (H' := [_, _, _]) rfl rfl rfl rfl rfl rfl ((cl19 _ _ _ _).trans (callRef_gen (R := [0, 1]) (bs := [_, _]) (bs1 := [_, _]) (bs3 := [_, _]) rfl rfl rfl rfl (feed_add h1 h2 (by omega) hlt hfl hok hr (dr draws j) _ (by omega)) rfl rfl rfl rfl)) rfl rfl rfl ?_
          refine wo_apv rfl rfl rfl rfl rfl ?_
          refine wo_nil ?_
          refine ⟨[_, _, _, _, _, _, _, _, _, _, _, _, _, _, _, _, _, _, _, _, _, _, _, _, _, _, _, _, _, _, _, _, _, _, _, _, _, _, _, _, _, _, _, _, _, _, _], rfl, ?_⟩
          refine wp_seq ?_
          refine wp_region rfl rfl ?_
          refine wo_mpv rfl rfl rfl rfl rfl ?_
          refine wo_bin (v := .pv (.bool false)) rfl rfl rfl rfl (nF rfl) ?_
          refine wo_nil ?_
          refine ⟨[_, _, _, _, _, _, _, _, _, _, _, _, _, _, _, _, _, _, _, _, _, _, _, _, _, _, _, _, _, _, _, _, _, _, _, _, _, _, _, _, _, _, _, _, _, _, _], rfl, ?_⟩
          refine wp_false rfl ?_
          refine wp_skip ?_
          refine wp_region rfl rfl ?_
          refine wo_bin (v := .pv (.int .i64 ((j + 1 : Nat) : Int))) rfl rfl rfl rfl (iV (by rw [wrapI (by omega) (by omega)]; omega)) ?_
          refine wo_mpv rfl rfl rfl rfl rfl ?_
          refine wo_nil ?_
          refine ⟨[_, _, _, _, _, _, _, _, _, _, _, _, _, _, _, _, _, _, _, _, _, _, _, _, _, _, _, _, _, _, _, _, _, _, _, _, _, _, _, _, _, _, _, _, _, _, _], rfl, ?_⟩
          have hF : feedM V.plain size held j l[j] (dr draws j) = held ++ [(l[j]).plain] := by unfold feedM; first | rw [if_pos hlt] | rw [if_neg (by omega), if_pos hk] | rw [if_neg (by omega), if_neg hk]
          refine ⟨[.any, .any, .pv q, .any, .any, .any, .any, .any, .ptr 0 0, .any, .any, .any, .any, .any, .any, .any, .any, .any, .any, .any, .any, .any, .pv p, .pv (.int .i64 l.length), .pv (.int .i64 ((j + 1 : Nat) : Int)), .any, .any, .any, .any, .any, .any, .any, .any, .any, .any, .any, .any, .any, .any, .any, .any, .any, .any, .any, .any, .any, .any], [RX size (j + 1) (VR 1 (held ++ [(l[j]).plain])), VB (held ++ [(l[j]).plain]) fl], tidy_ren (t' := [_, _, _, _, _, _, _, _, _, _, _, _, _, _, _, _, _, _, _, _, _, _, _, _, _, _, _, _, _, _, _, _, _, _, _, _, _, _, _, _, _, _, _, _, _, _, _]) (order := [0, 1]) (bs := [_, _]) rfl rfl rfl (by kernel_rfl) (by kernel_rfl) rfl ?_, k - 1, by omega, j + 1, held ++ [(l[j]).plain], fl, by omega, by rw [← hF]; exact feedM_len hhl, ?_, by rw [← hM, ofM_cons hjl, if_pos hr, hF], .inr ⟨?_, rfl, rfl⟩⟩
          · kernel_rfl
          · simp; omega
          · simp
        ·
          refine wo_call (v := .pv (.int .i64 0)) (H' := [_, _, _]) rfl rfl rfl rfl rfl rfl ((cl19 _ _ _ _).trans (callRef_gen (R := [0, 1]) (bs := [_, _]) (bs1 := [_, _]) (bs3 := [_, _]) rfl rfl rfl rfl (feed_set h1 h2 (by omega) hlt hfl hok hr (dr_lt hd j) hk _ (by omega)) rfl rfl rfl rfl)) rfl rfl rfl ?_
          refine wo_apv rfl rfl rfl rfl rfl ?_
          refine wo_nil ?_
          refine ⟨[_, _, _, _, _, _, _, _, _, _, _, _, _, _, _, _, _, _, _, _, _, _, _, _, _, _, _, _, _, _, _, _, _, _, _, _, _, _, _, _, _, _, _, _, _, _, _], rfl, ?_⟩
          refine wp_seq ?_
          refine wp_region rfl rfl ?_
          refine wo_mpv rfl rfl rfl rfl rfl ?_
          refine wo_bin (v := .pv (.bool false)) rfl rfl rfl rfl (nF rfl) ?_
          refine wo_nil ?_
          refine ⟨[_, _, _, _, _, _, _, _, _, _, _, _, _, _, _, _, _, _, _, _, _, _, _, _, _, _, _, _, _, _, _, _, _, _, _, _, _, _, _, _, _, _, _, _, _, _, _], rfl, ?_⟩
          refine wp_false rfl ?_
          refine wp_skip ?_
          refine wp_region rfl rfl ?_
          refine wo_bin (v := .pv (.int .i64 ((j + 1 : Nat) : Int))) rfl rfl rfl rfl (iV (by rw [wrapI (by omega) (by omega)]; omega)) ?_
          refine wo_mpv rfl rfl rfl rfl rfl ?_
          refine wo_nil ?_
          refine ⟨[_, _, _, _, _, _, _, _, _, _, _, _, _, _, _, _, _, _, _, _, _, _, _, _, _, _, _, _, _, _, _, _, _, _, _, _, _, _, _, _, _, _, _, _, _, _, _], rfl, ?_⟩
          have hF : feedM V.plain size held j l[j] (dr draws j) = held.set (dr draws j % (j + 1)) (l[j]).plain := by unfold feedM; first | rw [if_pos hlt] | rw [if_neg (by omega), if_pos hk] | rw [if_neg (by omega), if_neg hk]
          refine ⟨[.any, .any, .pv q, .any, .any, .any, .any, .any, .ptr 0 0, .any, .any, .any, .any, .any, .any, .any, .any, .any, .any, .any, .any, .any, .pv p, .pv (.int .i64 l.length), .pv (.int .i64 ((j + 1 : Nat) : Int)), .any, .any, .any, .any, .any, .any, .any, .any, .any, .any, .any, .any, .any, .any, .any, .any, .any, .any, .any, .any, .any, .any], [RX size (j + 1) (VR 1 (held.set (dr draws j % (j + 1)) (l[j]).plain)), VB (held.set (dr draws j % (j + 1)) (l[j]).plain) held.length], tidy_ren (t' := [_, _, _, _, _, _, _, _, _, _, _, _, _, _, _, _, _, _, _, _, _, _, _, _, _, _, _, _, _, _, _, _, _, _, _, _, _, _, _, _, _, _, _, _, _, _, _]) (order := [0, 1]) (bs := [_, _]) rfl rfl rfl (by kernel_rfl) (by kernel_rfl) rfl ?_, k - 1, by omega, j + 1, held.set (dr draws j % (j + 1)) (l[j]).plain, held.length, by omega, by rw [← hF]; exact feedM_len hhl, ?_, by rw [← hM, ofM_cons hjl, if_pos hr, hF], .inr ⟨?_, rfl, rfl⟩⟩
          · show some _ = some _; simp [VR, RX]
          · simp
          · intro h; apply hne; simpa using h
        ·
          refine wo_call (v := .pv (.int .i64 0)) (H' := [_, _, _]) rfl rfl rfl rfl rfl rfl ((cl19 _ _ _ _).trans (callRef_gen (R := [0, 1]) (bs := [_, _]) (bs1 := [_, _]) (bs3 := [_, _]) rfl rfl rfl rfl (feed_skip h1 h2 (by omega) hlt hok hr (dr_lt hd j) hk _ (by omega)) rfl rfl rfl rfl)) rfl rfl rfl ?_
          refine wo_apv rfl rfl rfl rfl rfl ?_
          refine wo_nil ?_
          refine ⟨[_, _, _, _, _, _, _, _, _, _, _, _, _, _, _, _, _, _, _, _, _, _, _, _, _, _, _, _, _, _, _, _, _, _, _, _, _, _, _, _, _, _, _, _, _, _, _], rfl, ?_⟩
          refine wp_seq ?_
          refine wp_region rfl rfl ?_
          refine wo_mpv rfl rfl rfl rfl rfl ?_
          refine wo_bin (v := .pv (.bool false)) rfl rfl rfl rfl (nF rfl) ?_
          refine wo_nil ?_
          refine ⟨[_, _, _, _, _, _, _, _, _, _, _, _, _, _, _, _, _, _, _, _, _, _, _, _, _, _, _, _, _, _, _, _, _, _, _, _, _, _, _, _, _, _, _, _, _, _, _], rfl, ?_⟩
          refine wp_false rfl ?_
          refine wp_skip ?_
          refine wp_region rfl rfl ?_
          refine wo_bin (v := .pv (.int .i64 ((j + 1 : Nat) : Int))) rfl rfl rfl rfl (iV (by rw [wrapI (by omega) (by omega)]; omega)) ?_
          refine wo_mpv rfl rfl rfl rfl rfl ?_
          refine wo_nil ?_
          refine ⟨[_, _, _, _, _, _, _, _, _, _, _, _, _, _, _, _, _, _, _, _, _, _, _, _, _, _, _, _, _, _, _, _, _, _, _, _, _, _, _, _, _, _, _, _, _, _, _], rfl, ?_⟩
          have hF : feedM V.plain size held j l[j] (dr draws j) = held := by unfold feedM; first | rw [if_pos hlt] | rw [if_neg (by omega), if_pos hk] | rw [if_neg (by omega), if_neg hk]
          refine ⟨[.any, .any, .pv q, .any, .any, .any, .any, .any, .ptr 0 0, .any, .any, .any, .any, .any, .any, .any, .any, .any, .any, .any, .any, .any, .pv p, .pv (.int .i64 l.length), .pv (.int .i64 ((j + 1 : Nat) : Int)), .any, .any, .any, .any, .any, .any, .any, .any, .any, .any, .any, .any, .any, .any, .any, .any, .any, .any, .any, .any, .any, .any], [RX size (j + 1) (VR 1 (held)), VB (held) fl], tidy_ren (t' := [_, _, _, _, _, _, _, _, _, _, _, _, _, _, _, _, _, _, _, _, _, _, _, _, _, _, _, _, _, _, _, _, _, _, _, _, _, _, _, _, _, _, _, _, _, _, _]) (order := [0, 1]) (bs := [_, _]) rfl rfl rfl (by kernel_rfl) (by kernel_rfl) rfl ?_, k - 1, by omega, j + 1, held, fl, by omega, by rw [← hF]; exact feedM_len hhl, ?_, by rw [← hM, ofM_cons hjl, if_pos hr, hF], .inr ⟨?_, rfl, rfl⟩⟩
          · kernel_rfl
          · exact hfl
          · exact hne
      ·
        refine wo_apv (p := .int .u64 (dr draws j : Nat)) rfl rfl rfl rfl ((by rw [dr_out hjd]; rfl)) ?_
        refine wo_nil ?_
        refine ⟨[_, _, _, _, _, _, _, _, _, _, _, _, _, _, _, _, _, _, _, _, _, _, _, _, _, _, _, _, _, _, _, _, _, _, _, _, _, _, _, _, _, _, _, _, _, _, _], rfl, ?_⟩
        refine wp_seq ?_
        refine wp_seq ?_
        refine wp_region rfl rfl ?_
        refine wo_mpv rfl rfl rfl rfl rfl ?_
        refine wo_mpv rfl rfl rfl rfl rfl ?_
        refine wo_len (ln := draws.length) t32 rfl rfl rfl rfl rfl rfl rfl (hq.len 22) rfl ?_
        refine wo_bin (v := .pv (.bool false)) rfl rfl rfl rfl (bF (by omega)) ?_
        refine wo_nil ?_
        refine ⟨[_, _, _, _, _, _, _, _, _, _, _, _, _, _, _, _, _, _, _, _, _, _, _, _, _, _, _, _, _, _, _, _, _, _, _, _, _, _, _, _, _, _, _, _, _, _, _], rfl, ?_⟩
        refine wp_false rfl ?_
        refine wp_skip ?_
        refine wp_seq ?_
        refine wp_region rfl rfl ?_
        refine wo_move (v := .ptr _ _) rfl rfl rfl rfl rfl (fun h => AV.noConfusion h) ?_
        refine wo_load (v := .agg [_, _, _, _]) t40 rfl rfl rfl rfl rfl rfl ?_
        refine wo_mpv rfl rfl rfl rfl rfl ?_
        have hc : (l[j]).right = false ∨ ((l[j]).right = true ∧ held.length < size) ∨ ((l[j]).right = true ∧ held.length = size ∧ dr draws j % (j + 1) < size) ∨ ((l[j]).right = true ∧ held.length = size ∧ ¬ dr draws j % (j + 1) < size) := by
          cases h : (l[j]).right <;> simp <;> omega
        rcases hc with hr | ⟨hr, hlt⟩ | ⟨hr, hlt, hk⟩ | ⟨hr, hlt, hk⟩
        ·
          refine wo_call (v := .pv (.int .i64 2)) (H' := [_, _, _]) rfl rfl rfl rfl rfl rfl ((cl19 _ _ _ _).trans (callRef_gen (R := [0, 1]) (bs := [_, _]) (bs1 := [_, _]) (bs3 := [_, _]) rfl rfl rfl rfl (feed_bad_ref h1 hok hr (dr draws j) _ (by omega)) rfl rfl rfl rfl)) rfl rfl rfl ?_
          refine wo_apv rfl rfl rfl rfl rfl ?_
          refine wo_nil ?_
          refine ⟨[_, _, _, _, _, _, _, _, _, _, _, _, _, _, _, _, _, _, _, _, _, _, _, _, _, _, _, _, _, _, _, _, _, _, _, _, _, _, _, _, _, _, _, _, _, _, _], rfl, ?_⟩
          refine wp_seq ?_
          refine wp_region rfl rfl ?_
          refine wo_mpv rfl rfl rfl rfl rfl ?_
          refine wo_bin (v := .pv (.bool true)) rfl rfl rfl rfl (nT (by decide)) ?_
          refine wo_nil ?_
          refine ⟨[_, _, _, _, _, _, _, _, _, _, _, _, _, _, _, _, _, _, _, _, _, _, _, _, _, _, _, _, _, _, _, _, _, _, _, _, _, _, _, _, _, _, _, _, _, _, _], rfl, ?_⟩
          refine wp_true rfl ?_
          refine wp_seq ?_
          refine wp_region rfl rfl ?_
          refine wo_mpv rfl rfl rfl rfl rfl ?_
          refine wo_apv rfl rfl rfl rfl rfl ?_
          refine wo_apv rfl rfl rfl rfl rfl ?_
          refine wo_nil ?_
          refine ⟨[_, _, _, _, _, _, _, _, _, _, _, _, _, _, _, _, _, _, _, _, _, _, _, _, _, _, _, _, _, _, _, _, _, _, _, _, _, _, _, _, _, _, _, _, _, _, _], rfl, ?_⟩
          refine wp_ret ?_
          rw [show ofM V.plain size draws [] 0 l = none by rw [← hM, ofM_cons hjl, hr]; rfl]
          exact ⟨trivial, _, rfl, _, _, rfl, rfl, rfl⟩
        ·
          refine wo_call (v := .pv (.int .i64 0)) (H' := [_, _, _]) rfl rfl rfl rfl rfl rfl ((cl19 _ _ _ _).trans (callRef_gen (R := [0, 1]) (bs := [_, _]) (bs1 := [_, _]) (bs3 := [_, _]) rfl rfl rfl rfl (feed_add h1 h2 (by omega) hlt hfl hok hr (dr draws j) _ (by omega)) rfl rfl rfl rfl)) rfl rfl rfl ?_
          refine wo_apv rfl rfl rfl rfl rfl ?_
          refine wo_nil ?_
          refine ⟨[_, _, _, _, _, _, _, _, _, _, _, _, _, _, _, _, _, _, _, _, _, _, _, _, _, _, _, _, _, _, _, _, _, _, _, _, _, _, _, _, _, _, _, _, _, _, _], rfl, ?_⟩
          refine wp_seq ?_
          refine wp_region rfl rfl ?_
          refine wo_mpv rfl rfl rfl rfl rfl ?_
          refine wo_bin (v := .pv (.bool false)) rfl rfl rfl rfl (nF rfl) ?_
          refine wo_nil ?_
          refine ⟨[_, _, _, _, _, _, _, _, _, _, _, _, _, _, _, _, _, _, _, _, _, _, _, _, _, _, _, _, _, _, _, _, _, _, _, _, _, _, _, _, _, _, _, _, _, _, _], rfl, ?_⟩
          refine wp_false rfl ?_
          refine wp_skip ?_
          refine wp_region rfl rfl ?_
          refine wo_bin (v := .pv (.int .i64 ((j + 1 : Nat) : Int))) rfl rfl rfl rfl (iV (by rw [wrapI (by omega) (by omega)]; omega)) ?_
          refine wo_mpv rfl rfl rfl rfl rfl ?_
          refine wo_nil ?_
          refine ⟨[_, _, _, _, _, _, _, _, _, _, _, _, _, _, _, _, _, _, _, _, _, _, _, _, _, _, _, _, _, _, _, _, _, _, _, _, _, _, _, _, _, _, _, _, _, _, _], rfl, ?_⟩
          have hF : feedM V.plain size held j l[j] (dr draws j) = held ++ [(l[j]).plain] := by unfold feedM; first | rw [if_pos hlt] | rw [if_neg (by omega), if_pos hk] | rw [if_neg (by omega), if_neg hk]
          refine ⟨[.any, .any, .pv q, .any, .any, .any, .any, .any, .ptr 0 0, .any, .any, .any, .any, .any, .any, .any, .any, .any, .any, .any, .any, .any, .pv p, .pv (.int .i64 l.length), .pv (.int .i64 ((j + 1 : Nat) : Int)), .any, .any, .any, .any, .any, .any, .any, .any, .any, .any, .any, .any, .any, .any, .any, .any, .any, .any, .any, .any, .any, .any], [RX size (j + 1) (VR 1 (held ++ [(l[j]).plain])), VB (held ++ [(l[j]).plain]) fl], tidy_ren (t' := [_, _, _, _, _, _, _, _, _, _, _, _, _, _, _, _, _, _, _, _, _, _, _, _, _, _, _, _, _, _, _, _, _, _, _, _, _, _, _, _, _, _, _, _, _, _, _]) (order := [0, 1]) (bs := [_, _]) rfl rfl rfl (by kernel_rfl) (by kernel_rfl) rfl ?_, k - 1, by omega, j + 1, held ++ [(l[j]).plain], fl, by omega, by rw [← hF]; exact feedM_len hhl, ?_, by rw [← hM, ofM_cons hjl, if_pos hr, hF], .inr ⟨?_, rfl, rfl⟩⟩
          · kernel_rfl
          · simp; omega
          · simp
        ·
          refine wo_call (v := .pv (.int .i64 0)) (H' := [_, _, _]) rfl rfl rfl rfl rfl rfl ((cl19 _ _ _ _).trans (callRef_gen (R := [0, 1]) (bs := [_, _]) (bs1 := [_, _]) (bs3 := [_, _]) rfl rfl rfl rfl (feed_set h1 h2 (by omega) hlt hfl hok hr (dr_lt hd j) hk _ (by omega)) rfl rfl rfl rfl)) rfl rfl rfl ?_
          refine wo_apv rfl rfl rfl rfl rfl ?_
          refine wo_nil ?_
          refine ⟨[_, _, _, _, _, _, _, _, _, _, _, _, _, _, _, _, _, _, _, _, _, _, _, _, _, _, _, _, _, _, _, _, _, _, _, _, _, _, _, _, _, _, _, _, _, _, _], rfl, ?_⟩
          refine wp_seq ?_
          refine wp_region rfl rfl ?_
          refine wo_mpv rfl rfl rfl rfl rfl ?_
          refine wo_bin (v := .pv (.bool false)) rfl rfl rfl rfl (nF rfl) ?_
          refine wo_nil ?_
          refine ⟨[_, _, _, _, _, _, _, _, _, _, _, _, _, _, _, _, _, _, _, _, _, _, _, _, _, _, _, _, _, _, _, _, _, _, _, _, _, _, _, _, _, _, _, _, _, _, _], rfl, ?_⟩
          refine wp_false rfl ?_
          refine wp_skip ?_
          refine wp_region rfl rfl ?_
          refine wo_bin (v := .pv (.int .i64 ((j + 1 : Nat) : Int))) rfl rfl rfl rfl (iV (by rw [wrapI (by omega) (by omega)]; omega)) ?_
          refine wo_mpv rfl rfl rfl rfl rfl ?_
          refine wo_nil ?_
          refine ⟨[_, _, _, _, _, _, _, _, _, _, _, _, _, _, _, _, _, _, _, _, _, _, _, _, _, _, _, _, _, _, _, _, _, _, _, _, _, _, _, _, _, _, _, _, _, _, _], rfl, ?_⟩
          have hF : feedM V.plain size held j l[j] (dr draws j) = held.set (dr draws j % (j + 1)) (l[j]).plain := by unfold feedM; first | rw [if_pos hlt] | rw [if_neg (by omega), if_pos hk] | rw [if_neg (by omega), if_neg hk]
          refine ⟨[.any, .any, .pv q, .any, .any, .any, .any, .any, .ptr 0 0, .any, .any, .any, .any, .any, .any, .any, .any, .any, .any, .any, .any, .any, .pv p, .pv (.int .i64 l.length), .pv (.int .i64 ((j + 1 : Nat) : Int)), .any, .any, .any, .any, .any, .any, .any, .any, .any, .any, .any, .any, .any, .any, .any, .any, .any, .any, .any, .any, .any, .any], [RX size (j + 1) (VR 1 (held.set (dr draws j % (j + 1)) (l[j]).plain)), VB (held.set (dr draws j % (j + 1)) (l[j]).plain) held.length], tidy_ren (t' := [_, _, _, _, _, _, _, _, _, _, _, _, _, _, _, _, _, _, _, _, _, _, _, _, _, _, _, _, _, _, _, _, _, _, _, _, _, _, _, _, _, _, _, _, _, _, _]) (order := [0, 1]) (bs := [_, _]) rfl rfl rfl (by kernel_rfl) (by kernel_rfl) rfl ?_, k - 1, by omega, j + 1, held.set (dr draws j % (j + 1)) (l[j]).plain, held.length, by omega, by rw [← hF]; exact feedM_len hhl, ?_, by rw [← hM, ofM_cons hjl, if_pos hr, hF], .inr ⟨?_, rfl, rfl⟩⟩
          · show some _ = some _; simp [VR, RX]
          · simp
          · intro h; apply hne; simpa using h
        ·
          refine wo_call (v := .pv (.int .i64 0)) (H' := [_, _, _]) rfl rfl rfl rfl rfl rfl ((cl19 _ _ _ _).trans (callRef_gen (R := [0, 1]) (bs := [_, _]) (bs1 := [_, _]) (bs3 := [_, _]) rfl rfl rfl rfl (feed_skip h1 h2 (by omega) hlt hok hr (dr_lt hd j) hk _ (by omega)) rfl rfl rfl rfl)) rfl rfl rfl ?_
          refine wo_apv rfl rfl rfl rfl rfl ?_
          refine wo_nil ?_
          refine ⟨[_, _, _, _, _, _, _, _, _, _, _, _, _, _, _, _, _, _, _, _, _, _, _, _, _, _, _, _, _, _, _, _, _, _, _, _, _, _, _, _, _, _, _, _, _, _, _], rfl, ?_⟩
          refine wp_seq ?_
          refine wp_region rfl rfl ?_
          refine wo_mpv rfl rfl rfl rfl rfl ?_
          refine wo_bin (v := .pv (.bool false)) rfl rfl rfl rfl (nF rfl) ?_
          refine wo_nil ?_
          refine ⟨[_, _, _, _, _, _, _, _, _, _, _, _, _, _, _, _, _, _, _, _, _, _, _, _, _, _, _, _, _, _, _, _, _, _, _, _, _, _, _, _, _, _, _, _, _, _, _], rfl, ?_⟩
          refine wp_false rfl ?_
          refine wp_skip ?_
          refine wp_region rfl rfl ?_
          refine wo_bin (v := .pv (.int .i64 ((j + 1 : Nat) : Int))) rfl rfl rfl rfl (iV (by rw [wrapI (by omega) (by omega)]; omega)) ?_
          refine wo_mpv rfl rfl rfl rfl rfl ?_
          refine wo_nil ?_
          refine ⟨[_, _, _, _, _, _, _, _, _, _, _, _, _, _, _, _, _, _, _, _, _, _, _, _, _, _, _, _, _, _, _, _, _, _, _, _, _, _, _, _, _, _, _, _, _, _, _], rfl, ?_⟩
          have hF : feedM V.plain size held j l[j] (dr draws j) = held := by unfold feedM; first | rw [if_pos hlt] | rw [if_neg (by omega), if_pos hk] | rw [if_neg (by omega), if_neg hk]
          refine ⟨[.any, .any, .pv q, .any, .any, .any, .any, .any, .ptr 0 0, .any, .any, .any, .any, .any, .any, .any, .any, .any, .any, .any, .any, .any, .pv p, .pv (.int .i64 l.length), .pv (.int .i64 ((j + 1 : Nat) : Int)), .any, .any, .any, .any, .any, .any, .any, .any, .any, .any, .any, .any, .any, .any, .any, .any, .any, .any, .any, .any, .any, .any], [RX size (j + 1) (VR 1 (held)), VB (held) fl], tidy_ren (t' := [_, _, _, _, _, _, _, _, _, _, _, _, _, _, _, _, _, _, _, _, _, _, _, _, _, _, _, _, _, _, _, _, _, _, _, _, _, _, _, _, _, _, _, _, _, _, _]) (order := [0, 1]) (bs := [_, _]) rfl rfl rfl (by kernel_rfl) (by kernel_rfl) rfl ?_, k - 1, by omega, j + 1, held, fl, by omega, by rw [← hF]; exact feedM_len hhl, ?_, by rw [← hM, ofM_cons hjl, if_pos hr, hF], .inr ⟨?_, rfl, rfl⟩⟩
          · kernel_rfl
          · exact hfl
          · exact hne
    ·
      refine wo_nil ?_
      refine ⟨[_, _, _, _, _, _, _, _, _, _, _, _, _, _, _, _, _, _, _, _, _, _, _, _, _, _, _, _, _, _, _, _, _, _, _, _, _, _, _, _, _, _, _, _, _, _, _], rfl, ?_⟩
      refine wp_seq ?_
      refine wp_false rfl ?_
      refine wp_exit ?_
      refine wp_seq ?_
      refine wp_region rfl rfl ?_
      refine wo_move (v := .ptr _ _) rfl rfl rfl rfl rfl (fun h => AV.noConfusion h) ?_
      refine wo_call (v := VR 2 held) (H' := [_, _, _]) rfl rfl rfl rfl rfl rfl ((cl22 _ _ _ _).trans (callRef_gen (R := [0, 1]) (bs := [_, _]) (bs1 := [_, _]) (bs3 := [_, _, _]) rfl rfl rfl rfl (sample_ref (by omega) hfl _ (by omega)) rfl rfl rfl rfl)) rfl rfl rfl ?_
      refine wo_assign (v := .ref _ _ _ _ _ _) rfl rfl rfl rfl rfl (fun h => AV.noConfusion h) ?_
      refine wo_apv rfl rfl rfl rfl rfl ?_
      refine wo_nil ?_
      refine ⟨[_, _, _, _, _, _, _, _, _, _, _, _, _, _, _, _, _, _, _, _, _, _, _, _, _, _, _, _, _, _, _, _, _, _, _, _, _, _, _, _, _, _, _, _, _, _, _], rfl, ?_⟩
      refine wp_ret ?_
      obtain rfl : j = l.length := by omega
      rw [List.drop_length] at hM
      rw [show ofM V.plain size draws [] 0 l = some held from hM.symm]
      exact ⟨trivial, _, rfl, _, _, leave_tup_ref (l := held) rfl (by simp), rfl, rfl⟩
end Go.Ab.Ytnfgpejdbmakkaa
