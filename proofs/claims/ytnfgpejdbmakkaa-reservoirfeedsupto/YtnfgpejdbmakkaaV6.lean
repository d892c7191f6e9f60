import Derived.Test.YtnfgpejdbmakkaaV5
namespace Go.Ab.Ytnfgpejdbmakkaa
open Go Go.Ab
open Go.Proofs.Try
set_option maxRecDepth 100000
set_option maxHeartbeats 1000000
set_option linter.unusedSimpArgs false
set_option linter.unusedVariables false

theorem works18 : call G 1500 18 [] [] = some (.ret (.pv (.bool true)), []) := by kernel_rfl

theorem pure_vr {C : CallF} {f k fl st fz : Nat} {l : List V} {look : Look} {rest : List AV} (hl : look k = some (.row 40 4 ⟨l.map V.row, 0, fl, st, fz⟩)) (hfl : fl ≤ l.length) (hi : AV.idsL rest = []) (hp : ∀ lk, puriL lk rest = some rest) :
    reach look REACH (AV.idsL (VR k l :: rest)) [] = [k] ∧ puriL (fun i => if [k].contains i then look i else none) (VR k l :: rest) = some (.pv (.sl (l.map V.row)) :: rest) := by
  constructor
  · simp only [AV.idsL, VR, AV.ids, hi, List.append_nil]
    show reach look (63 + 1) [k] [] = [k]
    simp only [reach, List.contains_nil, Bool.false_eq_true, if_false, hl]
    simp [Blk.ids, reach]
  · simp [puriL, hp, AV.puri, VR, AV.pureOf, hl, Row.valid, hfl, List.take_of_length_le]
theorem callPure_vr {C : CallF} {f k fl st fz nid : Nat} {l : List V} {look : Look} {rest : List AV} {v : AV} (hl : look k = some (.row 40 4 ⟨l.map V.row, 0, fl, st, fz⟩)) (hfl : fl ≤ l.length) (hi : AV.idsL rest = []) (hp : ∀ lk, puriL lk rest = some rest)
    (hft : v.flat = true) (hC : C f (.pv (.sl (l.map V.row)) :: rest) [] = some (.ret v, [])) : callPure C f (VR k l :: rest) look nid = some (.ok ⟨v, [], []⟩) := by
  obtain ⟨hR, hq⟩ := pure_vr (C := C) (f := f) hl hfl hi hp
  unfold callPure
  simp only [hR, hq, Option.bind_some, hC, hft, List.isEmpty_nil, Bool.and_self, if_true]
theorem callPure_vr' {C : CallF} {f k fl st fz nid : Nat} {l : List V} {look : Look} {rest : List AV} {v : AV} (hl : look k = some (.row 40 4 ⟨l.map V.row, 0, fl, st, fz⟩)) (hfl : fl ≤ l.length) (hi : AV.idsL rest = []) (hp : ∀ lk, puriL lk rest = some rest)
    (hv : AV.ids v = []) (hft : v.flat = false) (hC : C f (.pv (.sl (l.map V.row)) :: rest) [] = some (.ret v, [])) : callPure C f (VR k l :: rest) look nid = some (.ok ⟨v, [(k, .row 40 4 ⟨l.map V.row, 0, fl, st, max fz (l.map V.row).length⟩)], []⟩) := by
  obtain ⟨hR, hq⟩ := pure_vr (C := C) (f := f) hl hfl hi hp
  unfold callPure
  simp only [hR, hq, Option.bind_some, hC, hft, Bool.false_and, Bool.false_eq_true, if_false, ren_noids hv, blksRen, Option.map_some, freezeAll, hl, Blk.freeze]
theorem app_none' {nid k : Nat} {l : List V} {look : Look} (hl : look k = some (VB [] 0)) (hz : l = []) : aAppend G.T nid 31 (.ref k 0 0 4 0 0) (l.map V.row) look = some ⟨VR k l, [], []⟩ := by
  subst hz; exact app_none hl

/-- What both say of a sample. -/
theorem both {p q : PV} {l : List V} {draws : List Nat} (hp : SV p l) (hq : SU q draws) (ho : OkL l) (hd : D64 draws) (hl : l.length ≤ 400) (size : Int) : ∃ (pa pb : PV) (a b : List V) (e : Int),
    call G 1500 26 [.pv (.sl (l.map V.row)), .pv (.int .i64 size), .pv q] [] = some (.ret (.tup [.pv pa, .pv (.int .i64 e)]), []) ∧ call G 1500 20 [.pv p, .pv (.int .i64 size), .pv q] [] = some (.ret (.tup [.pv pb, .pv (.int .i64 e)]), []) ∧ SV pa a ∧ SV pb b ∧ OkL a ∧ OkL b ∧ EqL a b ∧ a.length ≤ 400 := by
  have hnil : OkL [] := fun v hv => by simp at hv
  by_cases hs : size < 1 ∨ size > 400
  · exact ⟨.nils, .nils, [], [], 2, of_bad hs _ (by omega), rof_bad hs _ (by omega), .inr ⟨rfl, rfl⟩, .inr ⟨rfl, rfl⟩, hnil, hnil, EqL.nil, by simp⟩
  · obtain ⟨s, rfl⟩ : ∃ s : Nat, size = s := ⟨size.toNat, by omega⟩
    obtain ⟨v1, H1, h1, o1⟩ := of_ok (p := .sl (l.map V.row)) (.inl rfl) hq ho hd (by omega) (size := s) (by omega) (by omega) 1500 (by omega)
    obtain ⟨v2, H2, h2, o2⟩ := rof_ok hp hq ho hd (by omega) (size := s) (by omega) (by omega) 1500 (by omega)
    rcases ofM_eq s draws l [] [] 0 ho EqL.nil with ⟨x, y, e1, e2, hxy⟩ | ⟨e1, e2⟩
    · rw [e1] at o1
      rw [e2] at o2
      obtain ⟨rfl, rfl⟩ := o1
      obtain ⟨pb, hpb, rfl, rfl⟩ := o2
      obtain ⟨ox, lx⟩ := ofM_props (fun v hv => plain_ok hv) s draws l [] 0 x ho hnil (by simp) e1
      obtain ⟨oy, ly⟩ := ofM_props (fun v hv => rright_plain hv) s draws l [] 0 y ho hnil (by simp) e2
      exact ⟨_, pb, x, y, 0, h1, h2, .inl rfl, hpb, ox, oy, hxy, by omega⟩
    · rw [e1] at o1
      rw [e2] at o2
      obtain ⟨rfl, rfl⟩ := o1
      obtain ⟨rfl, rfl⟩ := o2
      exact ⟨.nils, .nils, [], [], 2, h1, h2, .inr ⟨rfl, rfl⟩, .inr ⟨rfl, rfl⟩, hnil, hnil, EqL.nil, by simp⟩

theorem samples {p q : PV} {l : List V} {draws : List Nat} (hp : SV p l) (hq : SU q draws) (ho : OkL l) (hd : D64 draws) (size seed i : Int) : call G 1501 7 [.pv p, .pv (.int .i64 size), .pv q, .pv (.int .u64 seed), .pv (.int .i64 i)] [] = some (.ret (.pv (.bool true)), []) := by
  have hw := works18
  refine call_eq func7 rfl (show _ = [_, _, _, _, _, _, _, _, _, _, _, _, _, _, _, _, _, _, _, _, _, _, _, _, _, _, _, _, _, _, _, _, _, _, _, _, _, _, _, _, _, _, _, _, _, _, _, _, _, _, _, _, _, _, _, _, _, _, _, _, _] from rfl) ?_
  refine wp_seq ?_
  refine wp_region rfl rfl ?_
  refine wo_apv rfl rfl rfl rfl rfl ?_
  refine wo_nil ?_
  refine ⟨[_, _, _, _, _, _, _, _, _, _, _, _, _, _, _, _, _, _, _, _, _, _, _, _, _, _, _, _, _, _, _, _, _, _, _, _, _, _, _, _, _, _, _, _, _, _, _, _, _, _, _, _, _, _, _, _, _, _, _, _, _], rfl, ?_⟩
  refine wp_seq ?_
  refine wp_seq ?_
  refine wp_region rfl rfl ?_
  refine wo_mpv rfl rfl rfl rfl rfl ?_
  refine wo_len (ln := l.length) t31 rfl rfl rfl rfl rfl rfl rfl (hp.len 40) rfl ?_
  refine wo_bsplit rfl rfl rfl rfl rfl (fun c1_2 => ?_) (fun c1_2 => ?_)
  ·
    refine wo_nil ?_
    refine ⟨[_, _, _, _, _, _, _, _, _, _, _, _, _, _, _, _, _, _, _, _, _, _, _, _, _, _, _, _, _, _, _, _, _, _, _, _, _, _, _, _, _, _, _, _, _, _, _, _, _, _, _, _, _, _, _, _, _, _, _, _, _], rfl, ?_⟩
    refine wp_true rfl ?_
    refine wp_seq ?_
    refine wp_region rfl rfl ?_
    refine wo_apv rfl rfl rfl rfl rfl ?_
    refine wo_nil ?_
    refine ⟨[_, _, _, _, _, _, _, _, _, _, _, _, _, _, _, _, _, _, _, _, _, _, _, _, _, _, _, _, _, _, _, _, _, _, _, _, _, _, _, _, _, _, _, _, _, _, _, _, _, _, _, _, _, _, _, _, _, _, _, _, _], rfl, ?_⟩
    refine wp_ret ?_
    exact ⟨trivial, _, rfl, leave_pure⟩
  ·
    refine wo_nil ?_
    refine ⟨[_, _, _, _, _, _, _, _, _, _, _, _, _, _, _, _, _, _, _, _, _, _, _, _, _, _, _, _, _, _, _, _, _, _, _, _, _, _, _, _, _, _, _, _, _, _, _, _, _, _, _, _, _, _, _, _, _, _, _, _, _], rfl, ?_⟩
    refine wp_false rfl ?_
    refine wp_skip ?_
    refine wp_seq ?_
    refine wp_region rfl rfl ?_
    refine wo_buildSlice (H' := [_]) rfl rfl rfl rfl (bs31_0 _) rfl ?_
    refine wo_mpv rfl rfl rfl rfl rfl ?_
    by_cases hz : l = []
    ·
      refine wo_append (v := VR 0 l) (H' := [_]) t31 rfl rfl rfl rfl rfl rfl rfl rfl (srcRows_sv hp _) (app_none' rfl hz) rfl rfl rfl ?_
      refine wo_assign (v := .ref _ _ _ _ _ _) rfl rfl rfl rfl rfl (fun h => AV.noConfusion h) ?_
      refine wo_nil ?_
      refine ⟨[_, _, _, _, _, _, _, _, _, _, _, _, _, _, _, _, _, _, _, _, _, _, _, _, _, _, _, _, _, _, _, _, _, _, _, _, _, _, _, _, _, _, _, _, _, _, _, _, _, _, _, _, _, _, _, _, _, _, _, _, _], rfl, ?_⟩
      refine wp_seq ?_
      refine wp_region rfl rfl ?_
      refine wo_move (v := .ref _ _ _ _ _ _) rfl rfl rfl rfl rfl (fun h => AV.noConfusion h) ?_
      refine wo_mpv rfl rfl rfl rfl rfl ?_
      refine wo_mpv rfl rfl rfl rfl rfl ?_
      obtain ⟨pa, pb, a, b, e, h1, h2, sa, sb, oa, ob, hab, hal⟩ := both hp hq ho hd (by omega) size
      cases hft : (AV.tup [.pv pa, .pv (.int .i64 e)]).flat
      ·
        refine wo_call (v := .tup [.pv pa, .pv (.int .i64 e)]) (H' := [_]) rfl rfl rfl rfl rfl rfl ((cl26 _ _ _ _).trans (callPure_vr' (fl := 0) (st := 0) (fz := 0) (by first | rfl | (rw [hz]; rfl)) (Nat.zero_le _) rfl (fun _ => rfl) rfl hft h1)) rfl rfl rfl ?_
        refine wo_move (v := .tup _) rfl rfl rfl rfl rfl (fun h => AV.noConfusion h) ?_
        refine wo_extract (v := .pv _) rfl rfl rfl rfl rfl rfl ?_
        refine wo_extract (v := .pv _) rfl rfl rfl rfl rfl rfl ?_
        refine wo_apv rfl rfl rfl rfl rfl ?_
        refine wo_apv rfl rfl rfl rfl rfl ?_
        refine wo_nil ?_
        refine ⟨[_, _, _, _, _, _, _, _, _, _, _, _, _, _, _, _, _, _, _, _, _, _, _, _, _, _, _, _, _, _, _, _, _, _, _, _, _, _, _, _, _, _, _, _, _, _, _, _, _, _, _, _, _, _, _, _, _, _, _, _, _], rfl, ?_⟩
        refine wp_seq ?_
        refine wp_region rfl rfl ?_
        refine wo_mpv rfl rfl rfl rfl rfl ?_
        refine wo_mpv rfl rfl rfl rfl rfl ?_
        refine wo_mpv rfl rfl rfl rfl rfl ?_
        refine wo_call (v := .tup [.pv pb, .pv (.int .i64 e)]) (H' := [_]) rfl rfl rfl rfl rfl rfl ((cl20 _ _ _ _).trans (callPure_any rfl (fun _ => rfl) rfl h2)) rfl rfl rfl ?_
        refine wo_move (v := .tup _) rfl rfl rfl rfl rfl (fun h => AV.noConfusion h) ?_
        refine wo_extract (v := .pv _) rfl rfl rfl rfl rfl rfl ?_
        refine wo_extract (v := .pv _) rfl rfl rfl rfl rfl rfl ?_
        refine wo_apv rfl rfl rfl rfl rfl ?_
        refine wo_apv rfl rfl rfl rfl rfl ?_
        refine wo_nil ?_
        refine ⟨[_, _, _, _, _, _, _, _, _, _, _, _, _, _, _, _, _, _, _, _, _, _, _, _, _, _, _, _, _, _, _, _, _, _, _, _, _, _, _, _, _, _, _, _, _, _, _, _, _, _, _, _, _, _, _, _, _, _, _, _, _], rfl, ?_⟩
        refine wp_seq ?_
        refine wp_region rfl rfl ?_
        refine wo_mpv rfl rfl rfl rfl rfl ?_
        refine wo_mpv rfl rfl rfl rfl rfl ?_
        refine wo_call (v := .pv (.bool true)) (H' := [_]) rfl rfl rfl rfl rfl rfl ((cl23 _ _ _ _).trans (callPure_pv rfl (fun _ => rfl) (exactL_ok sa sb oa ob hab.1 hab.2 (by omega) _ (by omega)))) rfl rfl rfl ?_
        refine wo_mpv rfl rfl rfl rfl rfl ?_
        refine wo_mpv rfl rfl rfl rfl rfl ?_
        refine wo_mpv rfl rfl rfl rfl rfl ?_
        refine wo_bin (v := .pv (.bool true)) rfl rfl rfl rfl (eT rfl) ?_
        refine wo_pick (v := .pv _) rfl rfl rfl rfl rfl rfl ?_
        refine wo_mpv rfl rfl rfl rfl rfl ?_
        refine wo_move (v := .ref _ _ _ _ _ _) rfl rfl rfl rfl rfl (fun h => AV.noConfusion h) ?_
        refine wo_mpv rfl rfl rfl rfl rfl ?_
        refine wo_norm [_, _, _, _, _, _, _, _, _, _, _, _, _, _, _, _, _, _, _, _, _, _, _, _, _, _, _, _, _, _, _, _, _, _, _, _, _, _, _, _, _, _, _, _, _, _, _, _, _, _, _, _, _, _, _, _, _, _, _, _, _] rfl ?_
        refine wo_call (v := .pv (.bool true)) (H' := [_]) rfl rfl rfl rfl rfl rfl ((cl23 _ _ _ _).trans (callPure_vr (fl := 0) (st := 0) rfl (Nat.zero_le _) rfl (fun _ => rfl) rfl (exactL_ok (.inl rfl) hp ho ho rfl (fun _ _ _ => EqV.rfl' _) (by omega) _ (by omega)))) rfl rfl rfl ?_
        refine wo_pick (v := .pv _) rfl rfl rfl rfl rfl rfl ?_
        refine wo_mpv rfl rfl rfl rfl rfl ?_
        refine wo_mpv rfl rfl rfl rfl rfl ?_
        refine wo_mpv rfl rfl rfl rfl rfl ?_
        refine wo_call (v := .pv _) (H' := [_]) rfl rfl rfl rfl rfl rfl ((cl28 _ _ _ _).trans (callPure_pv rfl (fun _ => rfl) (draw_ok _ _ _ (by omega)))) rfl rfl rfl ?_
        refine wo_mpv rfl rfl rfl rfl rfl ?_
        refine wo_mpv rfl rfl rfl rfl rfl ?_
        refine wo_call (v := .pv _) (H' := [_]) rfl rfl rfl rfl rfl rfl ((cl29 _ _ _ _).trans (callPure_pv rfl (fun _ => rfl) (rdraw_ok _ _ _ (by omega)))) rfl rfl rfl ?_
        refine wo_bin (v := .pv (.bool true)) rfl rfl rfl rfl (eT rfl) ?_
        refine wo_pick (v := .pv _) rfl rfl rfl rfl rfl rfl ?_
        refine wo_mpv rfl rfl rfl rfl rfl ?_
        refine wo_norm [_, _, _, _, _, _, _, _, _, _, _, _, _, _, _, _, _, _, _, _, _, _, _, _, _, _, _, _, _, _, _, _, _, _, _, _, _, _, _, _, _, _, _, _, _, _, _, _, _, _, _, _, _, _, _, _, _, _, _, _, _] rfl ?_
        refine wo_call (v := .pv (.bool true)) (H' := [_]) rfl rfl rfl rfl rfl rfl ((cl18 _ _ _ _).trans (callPure_pv rfl (fun _ => rfl) hw)) rfl rfl rfl ?_
        refine wo_pick (v := .pv _) rfl rfl rfl rfl rfl rfl ?_
        refine wo_apv rfl rfl rfl rfl rfl ?_
        refine wo_nil ?_
        refine ⟨[_, _, _, _, _, _, _, _, _, _, _, _, _, _, _, _, _, _, _, _, _, _, _, _, _, _, _, _, _, _, _, _, _, _, _, _, _, _, _, _, _, _, _, _, _, _, _, _, _, _, _, _, _, _, _, _, _, _, _, _, _], rfl, ?_⟩
        refine wp_ret ?_
        exact ⟨trivial, _, rfl, leave_pure⟩
      ·
        refine wo_call (v := .tup [.pv pa, .pv (.int .i64 e)]) (H' := [_]) rfl rfl rfl rfl rfl rfl ((cl26 _ _ _ _).trans (callPure_vr (fl := 0) (st := 0) (fz := 0) (by first | rfl | (rw [hz]; rfl)) (Nat.zero_le _) rfl (fun _ => rfl) hft h1)) rfl rfl rfl ?_
        refine wo_move (v := .tup _) rfl rfl rfl rfl rfl (fun h => AV.noConfusion h) ?_
        refine wo_extract (v := .pv _) rfl rfl rfl rfl rfl rfl ?_
        refine wo_extract (v := .pv _) rfl rfl rfl rfl rfl rfl ?_
        refine wo_apv rfl rfl rfl rfl rfl ?_
        refine wo_apv rfl rfl rfl rfl rfl ?_
        refine wo_nil ?_
        refine ⟨[_, _, _, _, _, _, _, _, _, _, _, _, _, _, _, _, _, _, _, _, _, _, _, _, _, _, _, _, _, _, _, _, _, _, _, _, _, _, _, _, _, _, _, _, _, _, _, _, _, _, _, _, _, _, _, _, _, _, _, _, _], rfl, ?_⟩
        refine wp_seq ?_
        refine wp_region rfl rfl ?_
        refine wo_mpv rfl rfl rfl rfl rfl ?_
        refine wo_mpv rfl rfl rfl rfl rfl ?_
        refine wo_mpv rfl rfl rfl rfl rfl ?_
        refine wo_call (v := .tup [.pv pb, .pv (.int .i64 e)]) (H' := [_]) rfl rfl rfl rfl rfl rfl ((cl20 _ _ _ _).trans (callPure_any rfl (fun _ => rfl) rfl h2)) rfl rfl rfl ?_
        refine wo_move (v := .tup _) rfl rfl rfl rfl rfl (fun h => AV.noConfusion h) ?_
        refine wo_extract (v := .pv _) rfl rfl rfl rfl rfl rfl ?_
        refine wo_extract (v := .pv _) rfl rfl rfl rfl rfl rfl ?_
        refine wo_apv rfl rfl rfl rfl rfl ?_
        refine wo_apv rfl rfl rfl rfl rfl ?_
        refine wo_nil ?_
        refine ⟨[_, _, _, _, _, _, _, _, _, _, _, _, _, _, _, _, _, _, _, _, _, _, _, _, _, _, _, _, _, _, _, _, _, _, _, _, _, _, _, _, _, _, _, _, _, _, _, _, _, _, _, _, _, _, _, _, _, _, _, _, _], rfl, ?_⟩
        refine wp_seq ?_
        refine wp_region rfl rfl ?_
        refine wo_mpv rfl rfl rfl rfl rfl ?_
        refine wo_mpv rfl rfl rfl rfl rfl ?_
        refine wo_call (v := .pv (.bool true)) (H' := [_]) rfl rfl rfl rfl rfl rfl ((cl23 _ _ _ _).trans (callPure_pv rfl (fun _ => rfl) (exactL_ok sa sb oa ob hab.1 hab.2 (by omega) _ (by omega)))) rfl rfl rfl ?_
        refine wo_mpv rfl rfl rfl rfl rfl ?_
        refine wo_mpv rfl rfl rfl rfl rfl ?_
        refine wo_mpv rfl rfl rfl rfl rfl ?_
        refine wo_bin (v := .pv (.bool true)) rfl rfl rfl rfl (eT rfl) ?_
        refine wo_pick (v := .pv _) rfl rfl rfl rfl rfl rfl ?_
        refine wo_mpv rfl rfl rfl rfl rfl ?_
        refine wo_move (v := .ref _ _ _ _ _ _) rfl rfl rfl rfl rfl (fun h => AV.noConfusion h) ?_
        refine wo_mpv rfl rfl rfl rfl rfl ?_
        refine wo_norm [_, _, _, _, _, _, _, _, _, _, _, _, _, _, _, _, _, _, _, _, _, _, _, _, _, _, _, _, _, _, _, _, _, _, _, _, _, _, _, _, _, _, _, _, _, _, _, _, _, _, _, _, _, _, _, _, _, _, _, _, _] rfl ?_
        refine wo_call (v := .pv (.bool true)) (H' := [_]) rfl rfl rfl rfl rfl rfl ((cl23 _ _ _ _).trans (callPure_vr (fl := 0) (st := 0) (fz := 0) (by first | rfl | (rw [hz]; rfl)) (Nat.zero_le _) rfl (fun _ => rfl) rfl (exactL_ok (.inl rfl) hp ho ho rfl (fun _ _ _ => EqV.rfl' _) (by omega) _ (by omega)))) rfl rfl rfl ?_
        refine wo_pick (v := .pv _) rfl rfl rfl rfl rfl rfl ?_
        refine wo_mpv rfl rfl rfl rfl rfl ?_
        refine wo_mpv rfl rfl rfl rfl rfl ?_
        refine wo_mpv rfl rfl rfl rfl rfl ?_
        refine wo_call (v := .pv _) (H' := [_]) rfl rfl rfl rfl rfl rfl ((cl28 _ _ _ _).trans (callPure_pv rfl (fun _ => rfl) (draw_ok _ _ _ (by omega)))) rfl rfl rfl ?_
        refine wo_mpv rfl rfl rfl rfl rfl ?_
        refine wo_mpv rfl rfl rfl rfl rfl ?_
        refine wo_call (v := .pv _) (H' := [_]) rfl rfl rfl rfl rfl rfl ((cl29 _ _ _ _).trans (callPure_pv rfl (fun _ => rfl) (rdraw_ok _ _ _ (by omega)))) rfl rfl rfl ?_
        refine wo_bin (v := .pv (.bool true)) rfl rfl rfl rfl (eT rfl) ?_
        refine wo_pick (v := .pv _) rfl rfl rfl rfl rfl rfl ?_
        refine wo_mpv rfl rfl rfl rfl rfl ?_
        refine wo_norm [_, _, _, _, _, _, _, _, _, _, _, _, _, _, _, _, _, _, _, _, _, _, _, _, _, _, _, _, _, _, _, _, _, _, _, _, _, _, _, _, _, _, _, _, _, _, _, _, _, _, _, _, _, _, _, _, _, _, _, _, _] rfl ?_
        refine wo_call (v := .pv (.bool true)) (H' := [_]) rfl rfl rfl rfl rfl rfl ((cl18 _ _ _ _).trans (callPure_pv rfl (fun _ => rfl) hw)) rfl rfl rfl ?_
        refine wo_pick (v := .pv _) rfl rfl rfl rfl rfl rfl ?_
        refine wo_apv rfl rfl rfl rfl rfl ?_
        refine wo_nil ?_
        refine ⟨[_, _, _, _, _, _, _, _, _, _, _, _, _, _, _, _, _, _, _, _, _, _, _, _, _, _, _, _, _, _, _, _, _, _, _, _, _, _, _, _, _, _, _, _, _, _, _, _, _, _, _, _, _, _, _, _, _, _, _, _, _], rfl, ?_⟩
        refine wp_ret ?_
        exact ⟨trivial, _, rfl, leave_pure⟩
    ·
      refine wo_append (v := VR 0 l) (H' := [_]) t31 rfl rfl rfl rfl rfl rfl rfl rfl (srcRows_sv hp _) (app_all rfl hz (by omega)) rfl rfl rfl ?_
      refine wo_assign (v := .ref _ _ _ _ _ _) rfl rfl rfl rfl rfl (fun h => AV.noConfusion h) ?_
      refine wo_nil ?_
      refine ⟨[_, _, _, _, _, _, _, _, _, _, _, _, _, _, _, _, _, _, _, _, _, _, _, _, _, _, _, _, _, _, _, _, _, _, _, _, _, _, _, _, _, _, _, _, _, _, _, _, _, _, _, _, _, _, _, _, _, _, _, _, _], rfl, ?_⟩
      refine wp_seq ?_
      refine wp_region rfl rfl ?_
      refine wo_move (v := .ref _ _ _ _ _ _) rfl rfl rfl rfl rfl (fun h => AV.noConfusion h) ?_
      refine wo_mpv rfl rfl rfl rfl rfl ?_
      refine wo_mpv rfl rfl rfl rfl rfl ?_
      obtain ⟨pa, pb, a, b, e, h1, h2, sa, sb, oa, ob, hab, hal⟩ := both hp hq ho hd (by omega) size
      cases hft : (AV.tup [.pv pa, .pv (.int .i64 e)]).flat
      ·
        refine wo_call (v := .tup [.pv pa, .pv (.int .i64 e)]) (H' := [_]) rfl rfl rfl rfl rfl rfl ((cl26 _ _ _ _).trans (callPure_vr' (fl := 0) (st := 0) (fz := 0) (by first | rfl | (rw [hz]; rfl)) (Nat.zero_le _) rfl (fun _ => rfl) rfl hft h1)) rfl rfl rfl ?_
        refine wo_move (v := .tup _) rfl rfl rfl rfl rfl (fun h => AV.noConfusion h) ?_
        refine wo_extract (v := .pv _) rfl rfl rfl rfl rfl rfl ?_
        refine wo_extract (v := .pv _) rfl rfl rfl rfl rfl rfl ?_
        refine wo_apv rfl rfl rfl rfl rfl ?_
        refine wo_apv rfl rfl rfl rfl rfl ?_
        refine wo_nil ?_
        refine ⟨[_, _, _, _, _, _, _, _, _, _, _, _, _, _, _, _, _, _, _, _, _, _, _, _, _, _, _, _, _, _, _, _, _, _, _, _, _, _, _, _, _, _, _, _, _, _, _, _, _, _, _, _, _, _, _, _, _, _, _, _, _], rfl, ?_⟩
        refine wp_seq ?_
        refine wp_region rfl rfl ?_
        refine wo_mpv rfl rfl rfl rfl rfl ?_
        refine wo_mpv rfl rfl rfl rfl rfl ?_
        refine wo_mpv rfl rfl rfl rfl rfl ?_
        refine wo_call (v := .tup [.pv pb, .pv (.int .i64 e)]) (H' := [_]) rfl rfl rfl rfl rfl rfl ((cl20 _ _ _ _).trans (callPure_any rfl (fun _ => rfl) rfl h2)) rfl rfl rfl ?_
        refine wo_move (v := .tup _) rfl rfl rfl rfl rfl (fun h => AV.noConfusion h) ?_
        refine wo_extract (v := .pv _) rfl rfl rfl rfl rfl rfl ?_
        refine wo_extract (v := .pv _) rfl rfl rfl rfl rfl rfl ?_
        refine wo_apv rfl rfl rfl rfl rfl ?_
        refine wo_apv rfl rfl rfl rfl rfl ?_
        refine wo_nil ?_
        refine ⟨[_, _, _, _, _, _, _, _, _, _, _, _, _, _, _, _, _, _, _, _, _, _, _, _, _, _, _, _, _, _, _, _, _, _, _, _, _, _, _, _, _, _, _, _, _, _, _, _, _, _, _, _, _, _, _, _, _, _, _, _, _], rfl, ?_⟩
        refine wp_seq ?_
        refine wp_region rfl rfl ?_
        refine wo_mpv rfl rfl rfl rfl rfl ?_
        refine wo_mpv rfl rfl rfl rfl rfl ?_
        refine wo_call (v := .pv (.bool true)) (H' := [_]) rfl rfl rfl rfl rfl rfl ((cl23 _ _ _ _).trans (callPure_pv rfl (fun _ => rfl) (exactL_ok sa sb oa ob hab.1 hab.2 (by omega) _ (by omega)))) rfl rfl rfl ?_
        refine wo_mpv rfl rfl rfl rfl rfl ?_
        refine wo_mpv rfl rfl rfl rfl rfl ?_
        refine wo_mpv rfl rfl rfl rfl rfl ?_
        refine wo_bin (v := .pv (.bool true)) rfl rfl rfl rfl (eT rfl) ?_
        refine wo_pick (v := .pv _) rfl rfl rfl rfl rfl rfl ?_
        refine wo_mpv rfl rfl rfl rfl rfl ?_
        refine wo_move (v := .ref _ _ _ _ _ _) rfl rfl rfl rfl rfl (fun h => AV.noConfusion h) ?_
        refine wo_mpv rfl rfl rfl rfl rfl ?_
        refine wo_norm [_, _, _, _, _, _, _, _, _, _, _, _, _, _, _, _, _, _, _, _, _, _, _, _, _, _, _, _, _, _, _, _, _, _, _, _, _, _, _, _, _, _, _, _, _, _, _, _, _, _, _, _, _, _, _, _, _, _, _, _, _] rfl ?_
        refine wo_call (v := .pv (.bool true)) (H' := [_]) rfl rfl rfl rfl rfl rfl ((cl23 _ _ _ _).trans (callPure_vr (fl := 0) (st := 0) rfl (Nat.zero_le _) rfl (fun _ => rfl) rfl (exactL_ok (.inl rfl) hp ho ho rfl (fun _ _ _ => EqV.rfl' _) (by omega) _ (by omega)))) rfl rfl rfl ?_
        refine wo_pick (v := .pv _) rfl rfl rfl rfl rfl rfl ?_
        refine wo_mpv rfl rfl rfl rfl rfl ?_
        refine wo_mpv rfl rfl rfl rfl rfl ?_
        refine wo_mpv rfl rfl rfl rfl rfl ?_
        refine wo_call (v := .pv _) (H' := [_]) rfl rfl rfl rfl rfl rfl ((cl28 _ _ _ _).trans (callPure_pv rfl (fun _ => rfl) (draw_ok _ _ _ (by omega)))) rfl rfl rfl ?_
        refine wo_mpv rfl rfl rfl rfl rfl ?_
        refine wo_mpv rfl rfl rfl rfl rfl ?_
        refine wo_call (v := .pv _) (H' := [_]) rfl rfl rfl rfl rfl rfl ((cl29 _ _ _ _).trans (callPure_pv rfl (fun _ => rfl) (rdraw_ok _ _ _ (by omega)))) rfl rfl rfl ?_
        refine wo_bin (v := .pv (.bool true)) rfl rfl rfl rfl (eT rfl) ?_
        refine wo_pick (v := .pv _) rfl rfl rfl rfl rfl rfl ?_
        refine wo_mpv rfl rfl rfl rfl rfl ?_
        refine wo_norm [_, _, _, _, _, _, _, _, _, _, _, _, _, _, _, _, _, _, _, _, _, _, _, _, _, _, _, _, _, _, _, _, _, _, _, _, _, _, _, _, _, _, _, _, _, _, _, _, _, _, _, _, _, _, _, _, _, _, _, _, _] rfl ?_
        refine wo_call (v := .pv (.bool true)) (H' := [_]) rfl rfl rfl rfl rfl rfl ((cl18 _ _ _ _).trans (callPure_pv rfl (fun _ => rfl) hw)) rfl rfl rfl ?_
        refine wo_pick (v := .pv _) rfl rfl rfl rfl rfl rfl ?_
        refine wo_apv rfl rfl rfl rfl rfl ?_
        refine wo_nil ?_
        refine ⟨[_, _, _, _, _, _, _, _, _, _, _, _, _, _, _, _, _, _, _, _, _, _, _, _, _, _, _, _, _, _, _, _, _, _, _, _, _, _, _, _, _, _, _, _, _, _, _, _, _, _, _, _, _, _, _, _, _, _, _, _, _], rfl, ?_⟩
        refine wp_ret ?_
        exact ⟨trivial, _, rfl, leave_pure⟩
      ·
        refine wo_call (v := .tup [.pv pa, .pv (.int .i64 e)]) (H' := [_]) rfl rfl rfl rfl rfl rfl ((cl26 _ _ _ _).trans (callPure_vr (fl := 0) (st := 0) (fz := 0) (by first | rfl | (rw [hz]; rfl)) (Nat.zero_le _) rfl (fun _ => rfl) hft h1)) rfl rfl rfl ?_
        refine wo_move (v := .tup _) rfl rfl rfl rfl rfl (fun h => AV.noConfusion h) ?_
        refine wo_extract (v := .pv _) rfl rfl rfl rfl rfl rfl ?_
        refine wo_extract (v := .pv _) rfl rfl rfl rfl rfl rfl ?_
        refine wo_apv rfl rfl rfl rfl rfl ?_
        refine wo_apv rfl rfl rfl rfl rfl ?_
        refine wo_nil ?_
        refine ⟨[_, _, _, _, _, _, _, _, _, _, _, _, _, _, _, _, _, _, _, _, _, _, _, _, _, _, _, _, _, _, _, _, _, _, _, _, _, _, _, _, _, _, _, _, _, _, _, _, _, _, _, _, _, _, _, _, _, _, _, _, _], rfl, ?_⟩
        refine wp_seq ?_
        refine wp_region rfl rfl ?_
        refine wo_mpv rfl rfl rfl rfl rfl ?_
        refine wo_mpv rfl rfl rfl rfl rfl ?_
        refine wo_mpv rfl rfl rfl rfl rfl ?_
        refine wo_call (v := .tup [.pv pb, .pv (.int .i64 e)]) (H' := [_]) rfl rfl rfl rfl rfl rfl ((cl20 _ _ _ _).trans (callPure_any rfl (fun _ => rfl) rfl h2)) rfl rfl rfl ?_
        refine wo_move (v := .tup _) rfl rfl rfl rfl rfl (fun h => AV.noConfusion h) ?_
        refine wo_extract (v := .pv _) rfl rfl rfl rfl rfl rfl ?_
        refine wo_extract (v := .pv _) rfl rfl rfl rfl rfl rfl ?_
        refine wo_apv rfl rfl rfl rfl rfl ?_
        refine wo_apv rfl rfl rfl rfl rfl ?_
        refine wo_nil ?_
        refine ⟨[_, _, _, _, _, _, _, _, _, _, _, _, _, _, _, _, _, _, _, _, _, _, _, _, _, _, _, _, _, _, _, _, _, _, _, _, _, _, _, _, _, _, _, _, _, _, _, _, _, _, _, _, _, _, _, _, _, _, _, _, _], rfl, ?_⟩
        refine wp_seq ?_
        refine wp_region rfl rfl ?_
        refine wo_mpv rfl rfl rfl rfl rfl ?_
        refine wo_mpv rfl rfl rfl rfl rfl ?_
        refine wo_call (v := .pv (.bool true)) (H' := [_]) rfl rfl rfl rfl rfl rfl ((cl23 _ _ _ _).trans (callPure_pv rfl (fun _ => rfl) (exactL_ok sa sb oa ob hab.1 hab.2 (by omega) _ (by omega)))) rfl rfl rfl ?_
        refine wo_mpv rfl rfl rfl rfl rfl ?_
        refine wo_mpv rfl rfl rfl rfl rfl ?_
        refine wo_mpv rfl rfl rfl rfl rfl ?_
        refine wo_bin (v := .pv (.bool true)) rfl rfl rfl rfl (eT rfl) ?_
        refine wo_pick (v := .pv _) rfl rfl rfl rfl rfl rfl ?_
        refine wo_mpv rfl rfl rfl rfl rfl ?_
        refine wo_move (v := .ref _ _ _ _ _ _) rfl rfl rfl rfl rfl (fun h => AV.noConfusion h) ?_
        refine wo_mpv rfl rfl rfl rfl rfl ?_
        refine wo_norm [_, _, _, _, _, _, _, _, _, _, _, _, _, _, _, _, _, _, _, _, _, _, _, _, _, _, _, _, _, _, _, _, _, _, _, _, _, _, _, _, _, _, _, _, _, _, _, _, _, _, _, _, _, _, _, _, _, _, _, _, _] rfl ?_
        refine wo_call (v := .pv (.bool true)) (H' := [_]) rfl rfl rfl rfl rfl rfl ((cl23 _ _ _ _).trans (callPure_vr (fl := 0) (st := 0) (fz := 0) (by first | rfl | (rw [hz]; rfl)) (Nat.zero_le _) rfl (fun _ => rfl) rfl (exactL_ok (.inl rfl) hp ho ho rfl (fun _ _ _ => EqV.rfl' _) (by omega) _ (by omega)))) rfl rfl rfl ?_
        refine wo_pick (v := .pv _) rfl rfl rfl rfl rfl rfl ?_
        refine wo_mpv rfl rfl rfl rfl rfl ?_
        refine wo_mpv rfl rfl rfl rfl rfl ?_
        refine wo_mpv rfl rfl rfl rfl rfl ?_
        refine wo_call (v := .pv _) (H' := [_]) rfl rfl rfl rfl rfl rfl ((cl28 _ _ _ _).trans (callPure_pv rfl (fun _ => rfl) (draw_ok _ _ _ (by omega)))) rfl rfl rfl ?_
        refine wo_mpv rfl rfl rfl rfl rfl ?_
        refine wo_mpv rfl rfl rfl rfl rfl ?_
        refine wo_call (v := .pv _) (H' := [_]) rfl rfl rfl rfl rfl rfl ((cl29 _ _ _ _).trans (callPure_pv rfl (fun _ => rfl) (rdraw_ok _ _ _ (by omega)))) rfl rfl rfl ?_
        refine wo_bin (v := .pv (.bool true)) rfl rfl rfl rfl (eT rfl) ?_
        refine wo_pick (v := .pv _) rfl rfl rfl rfl rfl rfl ?_
        refine wo_mpv rfl rfl rfl rfl rfl ?_
        refine wo_norm [_, _, _, _, _, _, _, _, _, _, _, _, _, _, _, _, _, _, _, _, _, _, _, _, _, _, _, _, _, _, _, _, _, _, _, _, _, _, _, _, _, _, _, _, _, _, _, _, _, _, _, _, _, _, _, _, _, _, _, _, _] rfl ?_
        refine wo_call (v := .pv (.bool true)) (H' := [_]) rfl rfl rfl rfl rfl rfl ((cl18 _ _ _ _).trans (callPure_pv rfl (fun _ => rfl) hw)) rfl rfl rfl ?_
        refine wo_pick (v := .pv _) rfl rfl rfl rfl rfl rfl ?_
        refine wo_apv rfl rfl rfl rfl rfl ?_
        refine wo_nil ?_
        refine ⟨[_, _, _, _, _, _, _, _, _, _, _, _, _, _, _, _, _, _, _, _, _, _, _, _, _, _, _, _, _, _, _, _, _, _, _, _, _, _, _, _, _, _, _, _, _, _, _, _, _, _, _, _, _, _, _, _, _, _, _, _, _], rfl, ?_⟩
        refine wp_ret ?_
        exact ⟨trivial, _, rfl, leave_pure⟩
end Go.Ab.Ytnfgpejdbmakkaa
