import Derived.Test.YtejbcaheoloahaaGB
set_option maxRecDepth 100000
namespace Go.Pl
open Go Go.Ab
theorem map_inj {α β : Type} {R : α → β} (hR : ∀ x y, R x = R y → x = y) : ∀ (a b : List α), a.map R = b.map R → a = b
  | [], [], _ => rfl
  | [], y :: b, h => by cases h
  | x :: a, [], h => by cases h
  | x :: a, y :: b, h => by
    simp only [List.map_cons, List.cons.injEq] at h
    rw [hR x y h.1, map_inj hR a b h.2]
theorem encSl_inj {α : Type} {R : α → List PV} (hR : ∀ x y, R x = R y → x = y) {a b : Option (List α)} (h : encSl R a = encSl R b) : a = b := by
  cases a with
  | none =>
    cases b with
    | none => rfl
    | some b => cases h
  | some a =>
    cases b with
    | none => cases h
    | some b =>
      simp only [encSl, PV.sl.injEq] at h
      rw [map_inj hR a b h]
theorem R_E_inj (x y : E_api_Expr) (h : R_E_api_Expr x = R_E_api_Expr y) : x = y := Subtype.ext h
theorem R_EP_inj (x y : E_api_Plan) (h : R_E_api_Plan x = R_E_api_Plan y) : x = y := Subtype.ext h
theorem R_agg_inj (x y : api_Agg) (h : R_api_Agg x = R_api_Agg y) : x = y := by
  obtain ⟨k, a1, a2, a3, ⟨v1, v2, v3, v4⟩, a5⟩ := x
  obtain ⟨k', b1, b2, b3, ⟨w1, w2, w3, w4⟩, b5⟩ := y
  unfold R_api_Agg at h
  simp only [List.cons.injEq, PV.int.injEq, PV.flt.injEq, PV.str.injEq, true_and, and_true] at h
  obtain ⟨rfl, rfl, rfl, rfl, rfl, rfl, rfl, rfl, h5⟩ := h
  rw [encSl_inj R_E_inj h5]
theorem R_key_inj (x y : api_Key) (h : R_api_Key x = R_api_Key y) : x = y := by
  obtain ⟨k, a1⟩ := x
  obtain ⟨k', b1⟩ := y
  unfold R_api_Key at h
  simp only [List.cons.injEq, PV.int.injEq, PV.bool.injEq, true_and, and_true] at h
  obtain ⟨rfl, rfl⟩ := h
  rfl
theorem R_plan_inj (x y : api_Plan) (h : R_api_Plan x = R_api_Plan y) : x = y := by
  obtain ⟨a1, a2, a3, a4, a5, a6, a7, a8, a9⟩ := x
  obtain ⟨b1, b2, b3, b4, b5, b6, b7, b8, b9⟩ := y
  unfold R_api_Plan at h
  simp only [List.cons.injEq, PV.int.injEq, true_and, and_true] at h
  obtain ⟨rfl, rfl, h3, h4, h5, h6, h7, h8, h9⟩ := h
  rw [encSl_inj R_E_inj h3, encSl_inj R_E_inj h4, encSl_inj R_E_inj h5, encSl_inj R_E_inj h6, encSl_inj R_agg_inj h7, encSl_inj R_key_inj h8, encSl_inj R_EP_inj h9]
theorem un_roll_P (x : api_Plan) : un_api_Plan (roll_api_Plan x) = x := (R_plan_inj _ _ ((R_un_api_Plan (roll_api_Plan x)).symm.trans rfl))
abbrev PX := E_api_Plan
def szP (x : api_Plan) : Nat := PV.bulkL (R_api_Plan x)
theorem bulk_pos {α : Type} (R : α → List PV) (s : Option (List α)) : 1 ≤ (encSl R s).bulk := by
  cases s with
  | none => simp only [encSl, PV.bulk]; omega
  | some l => simp only [encSl, PV.bulk]; omega
theorem szP_kid {x : api_Plan} {z : PX} (h : z ∈ sll x.fKids) : szP (un_api_Plan z) + 8 ≤ szP x := by
  have e : szP (un_api_Plan z) = PV.bulkL (R_E_api_Plan z) := by rw [R_un_api_Plan z]; rfl
  rw [e]
  unfold szP R_api_Plan
  cases hk : x.fKids with
  | none => rw [hk] at h; cases h
  | some l =>
    rw [hk] at h
    have := bulkL_mem (rows := l.map R_E_api_Plan) (r := R_E_api_Plan z) (List.mem_map_of_mem h)
    have b1 := bulk_pos R_E_api_Expr x.fWhere
    have b2 := bulk_pos R_E_api_Expr x.fLeft
    have b3 := bulk_pos R_E_api_Expr x.fRight
    have b4 := bulk_pos R_E_api_Expr x.fOut
    have b5 := bulk_pos R_api_Agg x.fAggs
    have b6 := bulk_pos R_api_Key x.fOrder
    rw [show encSl R_E_api_Plan (some l) = .sl (l.map R_E_api_Plan) from rfl]
    simp only [PV.bulkL, PV.bulk]
    omega
def PW (x : api_Plan) : Prop := wI .i64 x.fKind ∧ wI .i64 x.fRel ∧ wSl W_E_api_Expr x.fWhere ∧ wSl W_E_api_Expr x.fLeft ∧ wSl W_E_api_Expr x.fRight ∧ wSl W_E_api_Expr x.fOut ∧ wSl W_api_Agg x.fAggs ∧ wSl W_api_Key x.fOrder
theorem W_plan {x : api_Plan} (hw : W_api_Plan x) : PW x ∧ (sll x.fKids).length ≤ 1048576 ∧ ∀ z, z ∈ sll x.fKids → W_api_Plan (un_api_Plan z) := by
  have h1 := hw.1
  have hb := hw.2
  have hkid : ∀ z, z ∈ sll x.fKids → WG_api_Plan (R_E_api_Plan z) → W_api_Plan (un_api_Plan z) := fun z hz hg => by
    have := szP_kid hz
    unfold szP at this
    rw [R_un_api_Plan z] at hg
    exact ⟨hg, by omega⟩
  unfold R_api_Plan at h1
  generalize hp : ([.int .i64 x.fKind, .int .i64 x.fRel, encSl R_E_api_Expr x.fWhere, encSl R_E_api_Expr x.fLeft, encSl R_E_api_Expr x.fRight, encSl R_E_api_Expr x.fOut, encSl R_api_Agg x.fAggs, encSl R_api_Key x.fOrder, encSl R_E_api_Plan x.fKids] : List PV) = p at h1
  cases h1 with
  | nil a b c d e f g h w =>
    simp only [List.cons.injEq, PV.int.injEq, true_and, and_true] at hp
    obtain ⟨e1, e2, e3, e4, e5, e6, e7, e8, e9⟩ := hp
    have k9 : x.fKids = none := by
      cases hk : x.fKids with
      | none => rfl
      | some l => rw [hk] at e9; cases e9
    rw [← e1, ← e2, ← encSl_inj R_E_inj e3, ← encSl_inj R_E_inj e4, ← encSl_inj R_E_inj e5, ← encSl_inj R_E_inj e6, ← encSl_inj R_agg_inj e7, ← encSl_inj R_key_inj e8] at w
    refine ⟨w, by rw [k9]; simp [sll], fun z hz => by rw [k9] at hz; cases hz⟩
  | some a b c d e f g h rows w hl hr =>
    simp only [List.cons.injEq, PV.int.injEq, true_and, and_true] at hp
    obtain ⟨e1, e2, e3, e4, e5, e6, e7, e8, e9⟩ := hp
    rw [← e1, ← e2, ← encSl_inj R_E_inj e3, ← encSl_inj R_E_inj e4, ← encSl_inj R_E_inj e5, ← encSl_inj R_E_inj e6, ← encSl_inj R_agg_inj e7, ← encSl_inj R_key_inj e8] at w
    cases hk : x.fKids with
    | none => rw [hk] at e9; cases e9
    | some l =>
      rw [hk] at e9 hkid
      simp only [encSl, PV.sl.injEq] at e9
      subst e9
      refine ⟨w, by simpa [sll] using hl, fun z hz => hkid z hz (hr _ (List.mem_map_of_mem hz))⟩
def WD : Nat → api_Plan → Prop
  | 0, _ => False
  | s + 1, x => PW x ∧ (sll x.fKids).length ≤ 1048576 ∧ ∀ z, z ∈ sll x.fKids → WD s (un_api_Plan z)
theorem WD_of : ∀ (s : Nat) (x : api_Plan), szP x ≤ 8 * s → W_api_Plan x → WD s x
  | 0, x, h, _ => by
    unfold szP R_api_Plan at h
    simp only [PV.bulkL, PV.bulk] at h
    omega
  | s + 1, x, h, hw => by
    obtain ⟨h1, h2, h3⟩ := W_plan hw
    exact ⟨h1, h2, fun z hz => WD_of s _ (by have := szP_kid hz; omega) (h3 z hz)⟩
theorem W_WD {x : api_Plan} (hw : W_api_Plan x) : WD 131072 x := WD_of _ x hw.2 hw
def whereB (x : api_Plan) (w : Option (List EX)) : Option (List EX) := bif decide (x.fKind ≥ 1) && decide (x.fKind ≤ 4) then w else x.fWhere
noncomputable def bareF : Nat → api_Plan → Option (List EX) → api_Plan
  | 0, x, w => x
  | s + 1, x, w => ⟨x.fKind, x.fRel, whereB x w, x.fLeft, x.fRight, x.fOut, x.fAggs, x.fOrder, mapO (fun z => roll_api_Plan (bareF s (un_api_Plan z) w)) (sll x.fKids)⟩
theorem bare_ok (w : Option (List EX)) : ∀ (s : Nat) (x : api_Plan), WD s x → ∀ m n, s ≤ m → 2000000 + s ≤ n → law32_bare_t m n x w = some (bareF s x w)
  | 0, x, h, _, _, _, _ => h.elim
  | s + 1, x, h, m, n, hm, hn => by
    obtain ⟨m, rfl⟩ : ∃ j, m = j + 1 := ⟨m - 1, by omega⟩
    obtain ⟨n, rfl⟩ : ∃ j, n = j + 1 := ⟨n - 1, by omega⟩
    show law32_bare_f (law32_bare_t m) (n + 1) x w = _
    unfold law32_bare_f
    rw [at1_succ]
    have key : ∀ (y2 : Option (List EX)), withK (fun (k7 : (Option (List E_api_Plan)) → Option (api_Plan)) => law32_bare_l5 n (law32_bare_t m) x w k7 n 0 none) (fun | none => some (api_Plan.mk x.fKind x.fRel y2 x.fLeft x.fRight x.fOut x.fAggs x.fOrder none) | (some y6) => some (api_Plan.mk x.fKind x.fRel y2 x.fLeft x.fRight x.fOut x.fAggs x.fOrder (some y6))) = some ⟨x.fKind, x.fRel, y2, x.fLeft, x.fRight, x.fOut, x.fAggs, x.fOrder, mapO (fun z => roll_api_Plan (bareF s (un_api_Plan z) w)) (sll x.fKids)⟩ := fun y2 => by
      unfold withK
      refine Eq.trans (map_loop0 (f := fun z => roll_api_Plan (bareF s (un_api_Plan z) w)) (l := sll x.fKids) (l3 := fun m' st i => law32_bare_l5 n (law32_bare_t m) x w _ m' i st) (K := fun | none => some (api_Plan.mk x.fKind x.fRel y2 x.fLeft x.fRight x.fOut x.fAggs x.fOrder none) | (some y6) => some (api_Plan.mk x.fKind x.fRel y2 x.fLeft x.fRight x.fOut x.fAggs x.fOrder (some y6))) (b := 184) (by omega) h.2.1 (m := n) (by omega) (fun m' i st z hi e => ?_) (fun m' st => ?_)) ?_
      · have hz := bare_ok w s (un_api_Plan z) (h.2.2 z (by rw [← e]; exact List.getElem_mem hi)) m n (by omega) (by omega)
        cases st with
        | none =>
          show law32_bare_l5 _ _ _ _ _ _ _ _ = _
          rw [law32_bare_l5, dT (by omega), cond_true, idx_at hi e, Option.bind_some, hz, Option.bind_some]
          rfl
        | some y =>
          show law32_bare_l5 _ _ _ _ _ _ _ _ = _
          rw [law32_bare_l5, dT (by omega), cond_true, idx_at hi e, Option.bind_some, hz, Option.bind_some]
          rfl
      · cases st with
        | none =>
          show law32_bare_l5 _ _ _ _ _ _ _ _ = _
          rw [law32_bare_l5, dF (by omega), cond_false]
        | some y =>
          show law32_bare_l5 _ _ _ _ _ _ _ _ = _
          rw [law32_bare_l5, dF (by omega), cond_false]
      · cases mapO (fun z => roll_api_Plan (bareF s (un_api_Plan z) w)) (sll x.fKids) <;> rfl
    rw [bareF]
    unfold whereB
    simp only [withK] at key ⊢
    cases (decide (x.fKind ≥ 1) && decide (x.fKind ≤ 4)) with
    | true => rw [cond_true, cond_true]; exact key w
    | false => rw [cond_false, cond_false]; exact key x.fWhere
theorem bareF_W {w : Option (List EX)} (hw : wSl W_E_api_Expr w) : ∀ (s : Nat) (x : api_Plan), WD s x → WD s (bareF s x w)
  | 0, x, h => h.elim
  | s + 1, x, h => by
    rw [bareF]
    refine ⟨⟨h.1.1, h.1.2.1, ?_, h.1.2.2.2⟩, ?_, ?_⟩
    · show wSl W_E_api_Expr (whereB x w)
      unfold whereB
      cases (decide (x.fKind ≥ 1) && decide (x.fKind ≤ 4))
      · exact h.1.2.2.1
      · exact hw
    · show (sll (mapO _ _)).length ≤ _
      rw [sll_mapO, List.length_map]; exact h.2.1
    · intro z hz
      replace hz : z ∈ sll (mapO (fun z => roll_api_Plan (bareF s (un_api_Plan z) w)) (sll x.fKids)) := hz
      rw [sll_mapO] at hz
      obtain ⟨y, hy, rfl⟩ := List.mem_map.1 hz
      rw [un_roll_P]
      exact bareF_W hw s _ (h.2.2 y hy)
theorem wsl_none {α : Type} {W : α → Prop} : wSl W none := ⟨by simp [sll], fun x h => by cases h⟩
theorem bulk22_any {a : Option (List EX)} (ha : wSl W_E_api_Expr a) (most : Int) {n : Nat} (hn : 3048700 ≤ n) : ∃ r, ref22_Bulk n a most = some r :=
  bulk_ok 1048576 n n a most (fun z hz => ⟨W_un (ha.2 z hz), (W_un (ha.2 z hz)).2⟩) ha.1 (by omega) (by omega)
theorem bulk23_any {q : api_Query} (h0 : q.fRels = none) (h1 : wSl W_E_api_Expr q.fWhere) (h2 : wSl W_E_api_Expr q.fOut) (h3 : wSl W_api_Agg q.fAggs) (most : Int) {n : Nat} (hn : 3048710 ≤ n) : ∃ r, ref23_Bulk n q most = some r := by
  obtain ⟨n, rfl⟩ : ∃ j, n = j + 1 := ⟨n - 1, by omega⟩
  unfold ref23_Bulk
  rw [at1_succ]
  cases ((decide (((sll q.fRels).length : Int) > most)) || (decide (((sll q.fAggs).length : Int) > most))) || (decide (((sll q.fOrder).length : Int) > most)) with
  | true => exact ⟨_, rfl⟩
  | false =>
    rw [cond_false]
    simp only [withK]
    generalize IntKind.wrap .i64 ((IntKind.wrap .i64 (((sll q.fRels).length : Int) + ((sll q.fAggs).length : Int))) + ((sll q.fOrder).length : Int)) = y
    have l5 : ∀ (K : Int → Option Int), ref23_Bulk_l5 n q most K n y 0 = K y := fun K => by
      obtain ⟨n, rfl⟩ : ∃ j, n = j + 1 := ⟨n - 1, by omega⟩
      rw [ref23_Bulk_l5, h0]
      rfl
    have l15 : ∀ (l : List api_Agg) (p : List api_Agg) (m : Nat) (acc : Int), sll q.fAggs = p ++ l → l.length < m → ∃ r, ref23_Bulk_l15 n q most (fun y13 => some y13) m acc (p.length : Int) = some r := by
      intro l
      induction l with
      | nil =>
        intro p m acc he hm
        obtain ⟨m, rfl⟩ : ∃ j, m = j + 1 := ⟨m - 1, by omega⟩
        rw [ref23_Bulk_l15, dF (by rw [he]; simp), Bool.false_and, cond_false]
        exact ⟨_, rfl⟩
      | cons x l ih =>
        intro p m acc he hm
        rw [List.length_cons] at hm
        obtain ⟨m, rfl⟩ : ∃ j, m = j + 1 := ⟨m - 1, by omega⟩
        have hx := h3.2 x (by rw [he]; simp)
        have hlen := h3.1
        rw [he] at hlen
        simp only [List.length_append, List.length_cons] at hlen
        rw [ref23_Bulk_l15, dT (by rw [he]; simp; omega), Bool.true_and]
        cases decide (acc ≤ most) with
        | false => exact ⟨_, rfl⟩
        | true =>
          rw [cond_true, show idx (sll q.fAggs) (p.length : Int) = some x by rw [he, idx_nat]; simp, Option.bind_some]
          obtain ⟨r, hr⟩ := bulk22_any (a := some [roll_api_Expr x.fOf]) ⟨by simp [sll], fun z hz => by
            simp only [sll, List.mem_singleton] at hz
            subst hz
            exact hx.2⟩ (IntKind.wrap .i64 (most - acc)) (n := n) (by omega)
          rw [hr, Option.bind_some, wrapN (by omega), show p.length + 1 = (p ++ [x]).length by simp]
          exact ih (p ++ [x]) m _ (by rw [he]; simp) (by omega)
    have fin : ∀ acc : Int, ∃ r, ref23_Bulk_l15 n q most (fun y13 => some y13) n acc 0 = some r := fun acc => l15 (sll q.fAggs) [] n acc rfl (by have := h3.1; omega)
    have s2 : ∀ acc : Int, ∃ r, (bif decide (acc ≤ most) then (ref22_Bulk n q.fOut (IntKind.wrap .i64 (most - acc))).bind fun x27 => ref23_Bulk_l15 n q most (fun y13 => some y13) n (IntKind.wrap .i64 (acc + x27)) 0 else ref23_Bulk_l15 n q most (fun y13 => some y13) n acc 0) = some r := fun acc => by
      cases decide (acc ≤ most) with
      | false => exact fin acc
      | true =>
        obtain ⟨r, hr⟩ := bulk22_any h2 (IntKind.wrap .i64 (most - acc)) (n := n) (by omega)
        rw [cond_true, hr, Option.bind_some]
        exact fin _
    rw [l5]
    cases hy : decide (y ≤ most) with
    | false =>
      have := s2 y
      rw [hy] at this
      exact this
    | true =>
      obtain ⟨r, hr⟩ := bulk22_any h1 (IntKind.wrap .i64 (most - y)) (n := n) (by omega)
      rw [cond_true, hr, Option.bind_some]
      exact s2 _
theorem bulk25_any : ∀ (s : Nat) (x : api_Plan), WD s x → ∀ (most : Int) (m n : Nat), s ≤ m → 3048720 + s ≤ n → ∃ r, ref25_Bulk_t m n x most = some r
  | 0, x, h, _, _, _, _, _ => h.elim
  | s + 1, x, h, most, m, n, hm, hn => by
    obtain ⟨m, rfl⟩ : ∃ j, m = j + 1 := ⟨m - 1, by omega⟩
    obtain ⟨n, rfl⟩ : ∃ j, n = j + 1 := ⟨n - 1, by omega⟩
    show ∃ r, ref25_Bulk_f (ref25_Bulk_t m) (n + 1) x most = some r
    obtain ⟨⟨w1, w2, w3, w4, w5, w6, w7, w8⟩, hk, hz⟩ := h
    unfold ref25_Bulk_f
    rw [at1_succ]
    obtain ⟨r, hr⟩ := bulk23_any (q := api_Query.mk none x.fWhere false x.fOut x.fAggs x.fOrder) rfl w3 w6 w7 most (n := n) (by omega)
    rw [hr, Option.bind_some]
    simp only [withK]
    have l5 : ∀ (l : List PX) (p : List PX) (mm : Nat) (acc : Int), sll x.fKids = p ++ l → l.length < mm → ∃ r, ref25_Bulk_l5 n (ref25_Bulk_t m) x most (fun y7 => some y7) mm acc (p.length : Int) = some r := by
      intro l
      induction l with
      | nil =>
        intro p mm acc he hm
        obtain ⟨mm, rfl⟩ : ∃ j, mm = j + 1 := ⟨mm - 1, by omega⟩
        rw [ref25_Bulk_l5, dF (by rw [he]; simp), Bool.false_and, cond_false]
        exact ⟨_, rfl⟩
      | cons z l ih =>
        intro p mm acc he hmm
        rw [List.length_cons] at hmm
        obtain ⟨mm, rfl⟩ : ∃ j, mm = j + 1 := ⟨mm - 1, by omega⟩
        have hlen := hk
        rw [he] at hlen
        simp only [List.length_append, List.length_cons] at hlen
        rw [ref25_Bulk_l5, dT (by rw [he]; simp; omega), Bool.true_and]
        cases decide (acc ≤ most) with
        | false => exact ⟨_, rfl⟩
        | true =>
          rw [cond_true, show idx (sll x.fKids) (p.length : Int) = some z by rw [he, idx_nat]; simp, Option.bind_some]
          obtain ⟨r, hr⟩ := bulk25_any s (un_api_Plan z) (hz z (by rw [he]; simp)) (IntKind.wrap .i64 (most - acc)) m n (by omega) (by omega)
          rw [hr, Option.bind_some, wrapN (by omega), show p.length + 1 = (p ++ [z]).length by simp]
          exact ih (p ++ [z]) mm _ (by rw [he]; simp) (by omega)
    have fin : ∀ acc : Int, ∃ r, ref25_Bulk_l5 n (ref25_Bulk_t m) x most (fun y7 => some y7) n acc 0 = some r := fun acc => l5 (sll x.fKids) [] n acc rfl (by omega)
    cases decide (IntKind.wrap .i64 (1 + r) ≤ most) with
    | false => exact fin _
    | true =>
      obtain ⟨r', hr'⟩ := bulk23_any (q := api_Query.mk none x.fLeft false x.fRight none none) rfl w4 w5 wsl_none most (n := n) (by omega)
      rw [cond_true, hr', Option.bind_some]
      exact fin _
theorem great25_any {s : Nat} {x : api_Plan} (h : WD s x) {n : Nat} (hn : 3048730 + s ≤ n) : ∃ b, law25_Great n x = some b := by
  obtain ⟨n, rfl⟩ : ∃ j, n = j + 1 := ⟨n - 1, by omega⟩
  unfold law25_Great
  rw [at1_succ]
  obtain ⟨r, hr⟩ := bulk25_any s x h 800 n n (by omega) (by omega)
  rw [show ref25_Bulk n x 800 = _ from hr, Option.bind_some]
  exact ⟨_, rfl⟩
end Go.Pl
set_option maxRecDepth 100000
namespace Go.Pl
open Go Go.Ab
def kidsP (k : Int) : Int := if k = 1 then 0 else if 5 ≤ k ∧ k ≤ 7 then 1 else if 2 ≤ k ∧ k ≤ 4 then 2 else -1
theorem plan_kids_ok (k : Int) {n : Nat} (hn : 1 ≤ n) : plan_kids n k = some (kidsP k) := by
  obtain ⟨n, rfl⟩ : ∃ j, n = j + 1 := ⟨n - 1, by omega⟩
  unfold plan_kids
  rw [at1_succ]
  simp only [withK]
  by_cases h1 : k = 1
  · subst h1; rfl
  by_cases h2 : k = 2
  · subst h2; rfl
  by_cases h3 : k = 3
  · subst h3; rfl
  by_cases h4 : k = 4
  · subst h4; rfl
  by_cases h5 : k = 5
  · subst h5; rfl
  by_cases h6 : k = 6
  · subst h6; rfl
  by_cases h7 : k = 7
  · subst h7; rfl
  rw [beqF h1, beqF h2, beqF h3, beqF h4, beqF h5, beqF h6, beqF h7]
  unfold kidsP
  rw [if_neg (by omega), if_neg (by omega), if_neg (by omega)]
  rfl
def nulL (l : List Nat) : Bool := l.all (· == 0)
def listsK (k : Int) (w l r o a d : Nat) : Bool :=
  bif (k == 3) || (k == 4) then (l == r) && !(l == 0) && nulL [o, a, d]
  else bif (k == 1) || (k == 2) then nulL [l, r, o, a, d]
  else bif k == 6 then !(o == 0) && nulL [w, l, r, a, d]
  else bif k == 5 then nulL [w, l, r, d]
  else bif k == 7 then !(d == 0) && nulL [w, l, r, o, a]
  else nulL [w, l, r, o, a, d]
def listsP (x : api_Plan) : Bool := listsK x.fKind (sll x.fWhere).length (sll x.fLeft).length (sll x.fRight).length (sll x.fOut).length (sll x.fAggs).length (sll x.fOrder).length
theorem sum5 {a b c d e : Int} {l : List Nat} (h : l.length ≤ 20) (hl : ∀ z, z ∈ l → z ≤ 1048576) (hs : a + b + c + d + e = ((l.sum : Nat) : Int)) (p1 : 0 ≤ a) (p2 : 0 ≤ b) (p3 : 0 ≤ c) (p4 : 0 ≤ d) (p5 : 0 ≤ e) (hb : a + b + c + d + e ≤ 100000000) :
    (IntKind.wrap .i64 ((IntKind.wrap .i64 ((IntKind.wrap .i64 ((IntKind.wrap .i64 (a + b)) + c)) + d)) + e) == 0) = nulL l := by
  rw [wrapI (x := a + b) (by omega) (by omega), wrapI (x := a + b + c) (by omega) (by omega), wrapI (x := a + b + c + d) (by omega) (by omega), wrapI (by omega) (by omega), hs]
  unfold nulL
  have : ∀ (l : List Nat), (((l.sum : Nat) : Int) == 0) = l.all (· == 0) := by
    intro l
    induction l with
    | nil => rfl
    | cons x l ih =>
      rw [List.sum_cons, List.all_cons, ← ih]
      by_cases hx : x = 0
      · subst hx; simp
      · rw [show (x == 0) = false by simpa using hx, Bool.false_and]
        exact beqF (by omega)
  exact this l
theorem plan_lists_ok {x : api_Plan} (hx : PW x) {n : Nat} (hn : 1 ≤ n) : plan_lists n x = some (listsP x) := by
  obtain ⟨n, rfl⟩ : ∃ j, n = j + 1 := ⟨n - 1, by omega⟩
  obtain ⟨_, _, w3, w4, w5, w6, w7, w8⟩ := hx
  have h3 := w3.1; have h4 := w4.1; have h5 := w5.1; have h6 := w6.1; have h7 := w7.1; have h8 := w8.1
  unfold plan_lists listsP
  rw [at1_succ]
  simp only [withK]
  generalize (sll x.fWhere).length = w at *
  generalize (sll x.fLeft).length = l at *
  generalize (sll x.fRight).length = r at *
  generalize (sll x.fOut).length = o at *
  generalize (sll x.fAggs).length = a at *
  generalize (sll x.fOrder).length = d at *
  have c0 : ∀ z : Nat, (((z : Nat) : Int) == 0) = (z == 0) := fun z => by
    by_cases h : z = 0
    · subst h; rfl
    · rw [beqF (by omega)]; simp [h]
  have lr : (((l : Int) != (r : Int)) || ((l : Int) == 0)) = !((l == r) && !(l == 0)) := by
    rw [c0, Bool.not_and, Bool.not_not]
    by_cases h : l = r
    · subst h; simp
    · rw [show ((l : Int) != (r : Int)) = true by simp; omega]; simp [h]
  have wl : IntKind.wrap .i64 ((l : Int) + (r : Int)) = (l : Int) + r := wrapI (by omega) (by omega)
  have s5 : ∀ (A B C D E : Int) (q : List Nat), q.length ≤ 20 → (∀ z, z ∈ q → z ≤ 1048576) → A + B + C + D + E = ((q.sum : Nat) : Int) → 0 ≤ A → 0 ≤ B → 0 ≤ C → 0 ≤ D → 0 ≤ E → A + B + C + D + E ≤ 100000000 → (IntKind.wrap .i64 ((IntKind.wrap .i64 ((IntKind.wrap .i64 ((IntKind.wrap .i64 (A + B)) + C)) + D)) + E) == 0) = nulL q := fun A B C D E q h1 h2 h3 h4 h5 h6 h7 h8 h9 => sum5 h1 h2 h3 h4 h5 h6 h7 h8 h9
  have hq : ∀ z, z ∈ [w, l, r, o, a, d] → z ≤ 1048576 := fun z hz => by
    simp only [List.mem_cons, List.not_mem_nil, or_false] at hz
    rcases hz with rfl | rfl | rfl | rfl | rfl | rfl <;> assumption
  have hsub : ∀ (q : List Nat), (∀ z, z ∈ q → z ∈ [w, l, r, o, a, d]) → ∀ z, z ∈ q → z ≤ 1048576 := fun q h z hz => hq z (h z hz)
  rw [wl]
  unfold listsK
  by_cases k3 : x.fKind = 3
  · rw [beqT k3, cond_true, cond_true, Bool.true_or, cond_true, lr]
    cases hh : ((l == r) && !(l == 0)) with
    | false => rfl
    | true =>
      rw [Bool.not_true, cond_false, Bool.true_and, s5 _ _ _ _ _ [o, a, d] (by simp) (hsub _ (by simp)) (by simp; omega) (by omega) (by omega) (by omega) (by omega) (by omega) (by omega)]
  rw [beqF k3, cond_false, Bool.false_or]
  by_cases k4 : x.fKind = 4
  · rw [beqT k4, cond_true, cond_true, lr]
    cases hh : ((l == r) && !(l == 0)) with
    | false => rfl
    | true =>
      rw [Bool.not_true, cond_false, Bool.true_and, s5 _ _ _ _ _ [o, a, d] (by simp) (hsub _ (by simp)) (by simp; omega) (by omega) (by omega) (by omega) (by omega) (by omega) (by omega)]
  rw [beqF k4, cond_false, cond_false]
  by_cases k1 : x.fKind = 1
  · rw [beqT k1, cond_true, cond_true, Bool.true_or, cond_true, s5 _ _ _ _ _ [l, r, o, a, d] (by simp) (hsub _ (by simp)) (by simp; omega) (by omega) (by omega) (by omega) (by omega) (by omega) (by omega)]
  rw [beqF k1, cond_false, Bool.false_or]
  by_cases k2 : x.fKind = 2
  · rw [beqT k2, beqF (show ¬ x.fKind = 6 by omega), beqF (show ¬ x.fKind = 5 by omega), beqF (show ¬ x.fKind = 7 by omega)]
    simp only [cond_true, cond_false]
    rw [s5 _ _ _ _ _ [l, r, o, a, d] (by simp) (hsub _ (by simp)) (by simp; omega) (by omega) (by omega) (by omega) (by omega) (by omega) (by omega)]
  rw [beqF k2, cond_false, cond_false]
  by_cases k6 : x.fKind = 6
  · rw [beqT k6, cond_true, cond_true, c0]
    cases hh : (o == 0) with
    | true => rfl
    | false =>
      rw [cond_false, Bool.not_false, Bool.true_and, s5 _ _ _ _ _ [w, l, r, a, d] (by simp) (hsub _ (by simp)) (by simp; omega) (by omega) (by omega) (by omega) (by omega) (by omega) (by omega)]
  rw [beqF k6, cond_false, cond_false]
  by_cases k5 : x.fKind = 5
  · rw [beqT k5, cond_true, cond_true, s5 _ _ _ _ _ [w, l, r, d] (by simp) (hsub _ (by simp)) (by simp; omega) (by omega) (by omega) (by omega) (by omega) (by omega) (by omega)]
  rw [beqF k5, cond_false, cond_false]
  by_cases k7 : x.fKind = 7
  · rw [beqT k7, cond_true, cond_true, c0]
    cases hh : (d == 0) with
    | true => rfl
    | false =>
      rw [cond_false, Bool.not_false, Bool.true_and, s5 _ _ _ _ _ [w, l, r, o, a] (by simp) (hsub _ (by simp)) (by simp; omega) (by omega) (by omega) (by omega) (by omega) (by omega) (by omega)]
  rw [beqF k7, cond_false, cond_false, s5 _ _ _ _ _ [w, l, r, o, a, d] (by simp) (hsub _ (by simp)) (by simp; omega) (by omega) (by omega) (by omega) (by omega) (by omega) (by omega)]
theorem find_any {α : Type} {F : Nat → Int → Option Int} {l : List α} {p : α → Bool} (hl : l.length ≤ 1048576) {m : Nat} (hm : 2000000 ≤ m)
    (hF : ∀ (m i : Nat) (x : α), (hi : i < l.length) → l[i] = x → F (m + 1) (i : Int) = bif p x then some (i : Int) else F m (IntKind.wrap .i64 ((i : Int) + 1))) (hE : ∀ (m : Nat), F (m + 1) (l.length : Int) = some (-1)) :
    ((F m 0).bind fun x1 => some (decide (x1 ≥ 0))) = some (l.any p) := by
  have key : ∀ (q : List α) (i m : Nat), l.drop i = q → i ≤ l.length → l.length - i < m → ((F m (i : Int)).bind fun x1 => some (decide (x1 ≥ 0))) = some (q.any p) := by
    intro q
    induction q with
    | nil =>
      intro i m hd hi hm
      obtain ⟨m, rfl⟩ : ∃ j, m = j + 1 := ⟨m - 1, by omega⟩
      have : i = l.length := by
        have := congrArg List.length hd
        simp at this; omega
      subst this
      rw [hE]; rfl
    | cons x q ih =>
      intro i m hd hi hm
      obtain ⟨m, rfl⟩ : ∃ j, m = j + 1 := ⟨m - 1, by omega⟩
      have hlt : i < l.length := by
        have := congrArg List.length hd
        simp at this; omega
      rw [List.drop_eq_getElem_cons hlt] at hd
      injection hd with h1 h2
      rw [hF m i x hlt h1, List.any_cons]
      cases p x with
      | true => rw [cond_true, Option.bind_some, dT (by omega)]; rfl
      | false => rw [cond_false, wrapN (by omega), ih (i + 1) m h2 (by omega) (by omega)]; rfl
  exact key l 0 m rfl (by omega) (by omega)
theorem contains_exprs {a : Option (List EX)} (ha : wSl W_E_api_Expr a) {n : Nat} (hn : 2000200 ≤ n) : slices_ContainsFunc_Expr_plan_parts_1 n a = some ((sll a).any fun z => !formedE (un_api_Expr z)) := by
  obtain ⟨n, rfl⟩ : ∃ j, n = j + 2 := ⟨n - 2, by omega⟩
  unfold slices_ContainsFunc_Expr_plan_parts_1 slices_IndexFunc_Expr_plan_parts_1
  rw [at1_succ, at1_succ]
  simp only [withK]
  exact find_any (F := fun m i => slices_IndexFunc_Expr_plan_parts_1_l2 n a (fun _ => some (-1)) m i) (l := sll a) (p := fun z => !formedE (un_api_Expr z)) ha.1 (m := n) (by omega) (fun m i z hi e => by
    have hz := ha.2 z (by rw [← e]; exact List.getElem_mem hi)
    show slices_IndexFunc_Expr_plan_parts_1_l2 _ _ _ _ _ = _
    rw [slices_IndexFunc_Expr_plan_parts_1_l2, dT (by omega), cond_true, idx_at hi e, Option.bind_some]
    have : plan_parts_1 n (un_api_Expr z) = some (!formedE (un_api_Expr z)) := by
      obtain ⟨n, rfl⟩ : ∃ j, n = j + 1 := ⟨n - 1, by omega⟩
      unfold plan_parts_1
      rw [at1_succ, expr_Formed_ok (un_W hz) (by omega)]; rfl
    rw [show plan_parts_1 n (api_Expr.mk ((un_api_Expr z).fKind) ((un_api_Expr z).fRel) ((un_api_Expr z).fCol) (api_Value.mk (((un_api_Expr z).fConst).fKind) (((un_api_Expr z).fConst).fInt) (((un_api_Expr z).fConst).fFloat) (((un_api_Expr z).fConst).fText)) ((un_api_Expr z).fKids)) = _ from this, Option.bind_some]) (fun m => by
    show slices_IndexFunc_Expr_plan_parts_1_l2 _ _ _ _ _ = _
    rw [slices_IndexFunc_Expr_plan_parts_1_l2, dF (by omega), cond_false])
noncomputable def badA (a : api_Agg) : Bool := decide (a.fKind < 1) || decide (a.fKind > 4) || !formedE a.fOf
theorem contains_aggs {a : Option (List api_Agg)} (ha : wSl W_api_Agg a) {n : Nat} (hn : 2000200 ≤ n) : slices_ContainsFunc_Agg_plan_parts_2 n a = some ((sll a).any badA) := by
  obtain ⟨n, rfl⟩ : ∃ j, n = j + 2 := ⟨n - 2, by omega⟩
  unfold slices_ContainsFunc_Agg_plan_parts_2 slices_IndexFunc_Agg_plan_parts_2
  rw [at1_succ, at1_succ]
  simp only [withK]
  exact find_any (F := fun m i => slices_IndexFunc_Agg_plan_parts_2_l2 n a (fun _ => some (-1)) m i) (l := sll a) (p := badA) ha.1 (m := n) (by omega) (fun m i z hi e => by
    have hz := ha.2 z (by rw [← e]; exact List.getElem_mem hi)
    show slices_IndexFunc_Agg_plan_parts_2_l2 _ _ _ _ _ = _
    rw [slices_IndexFunc_Agg_plan_parts_2_l2, dT (by omega), cond_true, idx_at hi e, Option.bind_some]
    have : plan_parts_2 n z = some (badA z) := by
      obtain ⟨n, rfl⟩ : ∃ j, n = j + 1 := ⟨n - 1, by omega⟩
      unfold plan_parts_2 badA
      rw [at1_succ, expr_Formed_ok hz.2 (by omega)]
      cases (decide (z.fKind < 1) || decide (z.fKind > 4)) <;> rfl
    rw [this, Option.bind_some]) (fun m => by
    show slices_IndexFunc_Agg_plan_parts_2_l2 _ _ _ _ _ = _
    rw [slices_IndexFunc_Agg_plan_parts_2_l2, dF (by omega), cond_false])
def badK (k : api_Key) : Bool := decide (k.fOut < 0) || decide (k.fOut > 29)
theorem contains_keys {a : Option (List api_Key)} (ha : wSl W_api_Key a) {n : Nat} (hn : 2000200 ≤ n) : slices_ContainsFunc_Key_plan_parts_3 n a = some ((sll a).any badK) := by
  obtain ⟨n, rfl⟩ : ∃ j, n = j + 2 := ⟨n - 2, by omega⟩
  unfold slices_ContainsFunc_Key_plan_parts_3 slices_IndexFunc_Key_plan_parts_3
  rw [at1_succ, at1_succ]
  simp only [withK]
  exact find_any (F := fun m i => slices_IndexFunc_Key_plan_parts_3_l2 n a (fun _ => some (-1)) m i) (l := sll a) (p := badK) ha.1 (m := n) (by omega) (fun m i z hi e => by
    show slices_IndexFunc_Key_plan_parts_3_l2 _ _ _ _ _ = _
    rw [slices_IndexFunc_Key_plan_parts_3_l2, dT (by omega), cond_true, idx_at hi e, Option.bind_some]
    have : plan_parts_3 n z = some (badK z) := by
      obtain ⟨n, rfl⟩ : ∃ j, n = j + 1 := ⟨n - 1, by omega⟩
      rfl
    rw [this, Option.bind_some]) (fun m => by
    show slices_IndexFunc_Key_plan_parts_3_l2 _ _ _ _ _ = _
    rw [slices_IndexFunc_Key_plan_parts_3_l2, dF (by omega), cond_false])
noncomputable def okEs (a : Option (List EX)) : Bool := decide ((sll a).length ≤ 60) && (sll a).all fun z => formedE (un_api_Expr z)
noncomputable def partsP (x : api_Plan) : Bool := okEs x.fWhere && okEs x.fLeft && okEs x.fRight && okEs x.fOut && (decide ((sll x.fAggs).length ≤ 60) && !(sll x.fAggs).any badA) && (decide ((sll x.fOrder).length ≤ 60) && !(sll x.fOrder).any badK) && ((decide (x.fRel ≥ 0) && decide (x.fRel < 12)) && ((x.fKind == 1) || (x.fRel == 0)))
theorem plan_parts_ok {x : api_Plan} (hx : PW x) {n : Nat} (hn : 2000300 ≤ n) : plan_parts n x = some (partsP x) := by
  obtain ⟨n, rfl⟩ : ∃ j, n = j + 1 := ⟨n - 1, by omega⟩
  obtain ⟨_, _, w3, w4, w5, w6, w7, w8⟩ := hx
  unfold plan_parts
  rw [at1_succ]
  simp only [withK]
  generalize hK : (fun (_ : Unit) => bif (decide (((sll x.fAggs).length : Int) > 60)) then some false else (slices_ContainsFunc_Agg_plan_parts_2 n x.fAggs).bind fun x5 => bif x5 then some false else bif (decide (((sll x.fOrder).length : Int) > 60)) then some false else (slices_ContainsFunc_Key_plan_parts_3 n x.fOrder).bind fun x9 => bif x9 then some false else some (((decide (x.fRel ≥ 0)) && (decide (x.fRel < 12))) && ((x.fKind == 1) || (x.fRel == 0)))) = K
  have one : ∀ (a : Option (List EX)) (rest : Option Bool), wSl W_E_api_Expr a → (bif (decide (((sll a).length : Int) > 60)) then some false else (slices_ContainsFunc_Expr_plan_parts_1 n a).bind fun x19 => bif x19 then some false else rest) = bif okEs a then rest else some false := fun a rest ha => by
    unfold okEs
    by_cases h : (sll a).length ≤ 60
    · rw [dF (by omega), cond_false, dT h, Bool.true_and, contains_exprs ha (by omega), Option.bind_some]
      have : ((sll a).any fun z => !formedE (un_api_Expr z)) = !((sll a).all fun z => formedE (un_api_Expr z)) := by rw [List.not_all_eq_any_not]
      rw [this]
      cases (sll a).all fun z => formedE (un_api_Expr z) <;> rfl
    · rw [dT (by omega), cond_true, dF h, Bool.false_and, cond_false]
  have hK0 : K () = some ((decide ((sll x.fAggs).length ≤ 60) && !(sll x.fAggs).any badA) && (decide ((sll x.fOrder).length ≤ 60) && !(sll x.fOrder).any badK) && ((decide (x.fRel ≥ 0) && decide (x.fRel < 12)) && ((x.fKind == 1) || (x.fRel == 0)))) := by
    rw [← hK]
    simp only
    by_cases h : (sll x.fAggs).length ≤ 60
    · rw [dF (by omega), cond_false, dT h, Bool.true_and, contains_aggs w7 (by omega), Option.bind_some]
      cases (sll x.fAggs).any badA with
      | true => rfl
      | false =>
        rw [cond_false, Bool.not_false, Bool.true_and]
        by_cases h : (sll x.fOrder).length ≤ 60
        · rw [dF (by omega), cond_false, dT h, Bool.true_and, contains_keys w8 (by omega), Option.bind_some]
          cases (sll x.fOrder).any badK <;> rfl
        · rw [dT (by omega), cond_true, dF h, Bool.false_and, Bool.false_and]
    · rw [dT (by omega), cond_true, dF h, Bool.false_and, Bool.false_and, Bool.false_and]
  obtain ⟨n', e'⟩ : ∃ j, n = j + 5 := ⟨n - 5, by omega⟩
  have step : ∀ (m : Nat) (i : Int) (a : Option (List EX)), wSl W_E_api_Expr a → i < 4 → idx ([x.fWhere, x.fLeft, x.fRight, x.fOut] : List (Option (List E_api_Expr))) i = some a → plan_parts_l2 n x K (m + 1) i = bif okEs a then plan_parts_l2 n x K m (IntKind.wrap .i64 (i + 1)) else some false := fun m i a ha hi he => by
    rw [plan_parts_l2, dT hi, cond_true, he, Option.bind_some]
    exact one a _ ha
  have s1 : plan_parts_l2 n x K n 0 = plan_parts_l2 n x K (n' + 5) 0 := by rw [← e']
  rw [s1, step _ 0 _ w3 (by omega) rfl, step _ (IntKind.wrap .i64 (0 + 1)) _ w4 (by decide) rfl, step _ (IntKind.wrap .i64 ((IntKind.wrap .i64 (0 + 1)) + 1)) _ w5 (by decide) rfl, step _ (IntKind.wrap .i64 ((IntKind.wrap .i64 ((IntKind.wrap .i64 (0 + 1)) + 1)) + 1)) _ w6 (by decide) rfl]
  rw [show plan_parts_l2 n x K (n' + 1) (IntKind.wrap .i64 ((IntKind.wrap .i64 ((IntKind.wrap .i64 ((IntKind.wrap .i64 (0 + 1)) + 1)) + 1)) + 1)) = K () from rfl, hK0]
  unfold partsP
  cases okEs x.fWhere <;> cases okEs x.fLeft <;> cases okEs x.fRight <;> cases okEs x.fOut <;> rfl
noncomputable def nodeP (x : api_Plan) : Bool := (kidsP x.fKind == ((sll x.fKids).length : Int)) && (listsP x && partsP x)
noncomputable def frmP : Nat → api_Plan → Option Nat
  | 0, _ => none
  | r + 1, x => bif nodeP x then (sumO (fun z => frmP r (un_api_Plan z)) (sll x.fKids)).map (· + 1) else none
theorem frmP_pos {r : Nat} {x : api_Plan} {c : Nat} (h : frmP r x = some c) : 1 ≤ c := by
  cases r with
  | zero => cases h
  | succ r =>
    unfold frmP at h
    cases hn : nodeP x with
    | false => rw [hn] at h; cases h
    | true =>
      rw [hn, cond_true, Option.map_eq_some_iff] at h
      obtain ⟨a, _, rfl⟩ := h
      omega
theorem frmP_kid {r : Nat} {x : api_Plan} {c : Nat} (h : frmP (r + 1) x = some c) : nodeP x = true ∧ ∀ z, z ∈ sll x.fKids → ∃ a, frmP r (un_api_Plan z) = some a ∧ a < c := by
  unfold frmP at h
  cases hn : nodeP x with
  | false => rw [hn] at h; cases h
  | true =>
    rw [hn, cond_true, Option.map_eq_some_iff] at h
    obtain ⟨a, ha, rfl⟩ := h
    refine ⟨rfl, fun z hz => ?_⟩
    obtain ⟨b, q1, q2⟩ := sumO_mem ha z hz
    exact ⟨b, q1, by omega⟩
theorem sumO_mono {α : Type} {f g : α → Option Nat} (h : ∀ z c, f z = some c → g z = some c) : ∀ (l : List α) (c : Nat), sumO f l = some c → sumO g l = some c
  | [], c, e => e
  | z :: l, c, e => by
    unfold sumO at e ⊢
    split at e
    · rename_i a b e1 e2
      rw [h z a e1, sumO_mono h l b e2]; exact e
    · cases e
theorem frmP_mono : ∀ (r : Nat) (x : api_Plan) (c : Nat), frmP r x = some c → frmP (r + 1) x = some c
  | 0, x, c, h => by cases h
  | r + 1, x, c, h => by
    unfold frmP at h ⊢
    cases hn : nodeP x with
    | false => rw [hn] at h; cases h
    | true =>
      rw [hn, cond_true] at h
      rw [cond_true]
      rw [Option.map_eq_some_iff] at h ⊢
      obtain ⟨a, ha, e⟩ := h
      exact ⟨a, sumO_mono (fun z c hz => frmP_mono r _ c hz) _ _ ha, e⟩
theorem countP_ok : ∀ (r : Nat), r ≤ 24 → ∀ (s : Nat) (x : api_Plan), WD s x → ∀ (left : Int), left ≤ 40 → -1 ≤ left → ∀ m n, r + 1 ≤ m → 2000400 + r ≤ n →
    plan_count_t m n x (25 - (r : Int)) left = some (leftI (frmP r x) left) := by
  intro r
  induction r with
  | zero =>
    intro hr s x hw left h4 h0 m n hm hn
    obtain ⟨m, rfl⟩ : ∃ j, m = j + 1 := ⟨m - 1, by omega⟩
    obtain ⟨n, rfl⟩ : ∃ j, n = j + 1 := ⟨n - 1, by omega⟩
    show plan_count_f (plan_count_t m) (n + 1) x _ left = _
    unfold plan_count_f
    rw [at1_succ, dT (by omega), cond_true]
    rfl
  | succ r ih =>
    intro hr s x hw left h4 h0 m n hm hn
    obtain ⟨m, rfl⟩ : ∃ j, m = j + 1 := ⟨m - 1, by omega⟩
    obtain ⟨n, rfl⟩ : ∃ j, n = j + 1 := ⟨n - 1, by omega⟩
    cases s with
    | zero => exact hw.elim
    | succ s =>
    obtain ⟨hPW, hklen, hkW⟩ := hw
    show plan_count_f (plan_count_t m) (n + 1) x _ left = _
    unfold plan_count_f
    rw [at1_succ, dF (by omega), cond_false]
    by_cases hl : left < 1
    · rw [dT hl, cond_true]
      unfold leftI
      cases hf : frmP (r + 1) x with
      | none => rfl
      | some c =>
        have := frmP_pos hf
        simp only
        rw [if_neg (by omega)]
    · rw [dF hl, cond_false, plan_kids_ok _ (by omega), Option.bind_some]
      rw [frmP]
      unfold nodeP
      by_cases hk : kidsP x.fKind = ((sll x.fKids).length : Int)
      · rw [show (kidsP x.fKind != ((sll x.fKids).length : Int)) = false by simp [hk], cond_false, show (kidsP x.fKind == ((sll x.fKids).length : Int)) = true by simp [hk], Bool.true_and]
        rw [show api_Plan.mk x.fKind x.fRel x.fWhere x.fLeft x.fRight x.fOut x.fAggs x.fOrder x.fKids = x from rfl, plan_lists_ok hPW (by omega), Option.bind_some]
        cases hfd : listsP x with
        | false => rfl
        | true =>
          rw [Bool.not_true, cond_false, Bool.true_and, plan_parts_ok hPW (by omega), Option.bind_some]
          cases hpd : partsP x with
          | false => rfl
          | true =>
          rw [Bool.not_true, cond_false, cond_true]
          show withK (fun k15 => plan_count_l5 n (plan_count_t m) x (25 - ((r + 1 : Nat) : Int)) k15 n (IntKind.wrap .i64 (left - 1)) 0) (fun (y9 : Int) => some y9) = _
          unfold withK
          rw [wrapI (by omega) (by omega)]
          have key := count_loop (f := fun z => frmP r (un_api_Plan z)) (K := fun y9 => some y9) (F := fun m' left' i => plan_count_l5 n (plan_count_t m) x (25 - ((r + 1 : Nat) : Int)) (fun y9 => some y9) m' left' i) (ks := sll x.fKids)
            (C := fun z left' => plan_count_t m n (un_api_Plan z) (IntKind.wrap .i64 ((25 - ((r + 1 : Nat) : Int)) + 1)) left')
            (fun m' left' i => rfl) (B := 40) (by omega) (fun z hz left' h1 h2 => by
              show plan_count_t m n (un_api_Plan z) (IntKind.wrap .i64 ((25 - ((r + 1 : Nat) : Int)) + 1)) left' = _
              rw [wrapI (by omega) (by omega), show (25 - ((r + 1 : Nat) : Int)) + 1 = 25 - (r : Int) by omega]
              exact ih (by omega) s _ (hkW z hz) left' h2 (by omega) m n (by omega) (by omega)) hklen (sll x.fKids) n [] (left - 1) rfl (by omega) (by omega) (by omega)
          refine Eq.trans key ?_
          cases hs : sumO (fun z => frmP r (un_api_Plan z)) (sll x.fKids) with
          | none => rfl
          | some c =>
            simp only [Option.map_some, leftI]
            by_cases hc : (c : Int) ≤ left - 1
            · rw [if_pos hc, if_pos (by omega)]; congr 1; omega
            · rw [if_neg hc, if_neg (by omega)]
      · rw [show (kidsP x.fKind != ((sll x.fKids).length : Int)) = true by simp [hk], cond_true, show (kidsP x.fKind == ((sll x.fKids).length : Int)) = false by simp [hk], Bool.false_and]
        rfl
noncomputable def formedP (x : api_Plan) : Bool := match frmP 24 x with
  | some c => decide (c ≤ 40)
  | none => false
theorem plan_Formed_ok {s : Nat} {x : api_Plan} (hw : WD s x) {n : Nat} (hn : 2000500 ≤ n) : plan_Formed n x = some (formedP x) := by
  obtain ⟨n, rfl⟩ : ∃ j, n = j + 1 := ⟨n - 1, by omega⟩
  unfold plan_Formed
  rw [at1_succ]
  have := countP_ok 24 (by omega) s x hw 40 (by omega) (by omega) n n (by omega) (by omega)
  rw [show (25 - ((24 : Nat) : Int)) = 1 from rfl] at this
  rw [show plan_count n x 1 40 = some _ from this, Option.bind_some]
  unfold formedP leftI
  cases frmP 24 x with
  | none => rfl
  | some c => exact congrArg some (decide_eq_decide.2 (by simp only; split <;> omega))
theorem formedP_frm {x : api_Plan} (h : formedP x = true) : ∃ c, frmP 24 x = some c ∧ c ≤ 40 := by
  unfold formedP at h
  split at h
  · rename_i c hc; exact ⟨c, hc, by simpa using h⟩
  · cases h
end Go.Pl
set_option maxRecDepth 100000
namespace Go.Pl
open Go Go.Ab
def seeF (x : api_Plan) (a : Int) : Int := bif ((x.fKind == 1) && (decide (x.fRel ≥ 0))) && (decide (x.fRel < 32)) then iOr .u32 a (iShl .u32 1 (IntKind.wrap .u64 x.fRel)) else a
noncomputable def relsW : Nat → api_Plan → Int → Int
  | 0, _, a => a
  | s + 1, x, a => seeF x ((sll x.fKids).foldl (fun acc z => relsW s (un_api_Plan z) acc) a)
theorem plan_Rels_1_ok (a : Int) (x : api_Plan) {n : Nat} (hn : 1 ≤ n) : plan_Rels_1 n a x = some (seeF x a) := by
  obtain ⟨n, rfl⟩ : ∃ j, n = j + 1 := ⟨n - 1, by omega⟩
  unfold plan_Rels_1 seeF
  rw [at1_succ]
  cases hq : ((x.fKind == 1) && (decide (x.fRel ≥ 0))) && (decide (x.fRel < 32)) with
  | false => rfl
  | true =>
    rw [Bool.and_eq_true, Bool.and_eq_true, decide_eq_true_eq, decide_eq_true_eq] at hq
    have : ckN (IntKind.wrap .u64 x.fRel) = some () := by rw [wrapU (by omega) (by omega)]; unfold ckN; split <;> first | rfl | omega
    rw [cond_true, cond_true, this]; rfl
theorem fold_loop {α S R : Type} {F : Nat → S → Int → Option R} {ks : List α} {f : S → α → S} {K : S → Option R}
    (hF : ∀ (m i : Nat) (s : S) (z : α), (hi : i < ks.length) → ks[i] = z → F (m + 1) s (i : Int) = F m (f s z) (IntKind.wrap .i64 ((i : Int) + 1)))
    (hE : ∀ (m : Nat) (s : S), F (m + 1) s (ks.length : Int) = K s) (hks : ks.length ≤ 1048576) :
    ∀ (l p : List α) (m : Nat) (s : S), ks = p ++ l → l.length < m → F m s (p.length : Int) = K (l.foldl f s)
  | [], p, m, s, he, hm => by
    obtain ⟨m, rfl⟩ : ∃ j, m = j + 1 := ⟨m - 1, by omega⟩
    have : ks.length = p.length := by rw [he]; simp
    rw [← this, hE]; rfl
  | z :: l, p, m, s, he, hm => by
    obtain ⟨m, rfl⟩ : ∃ j, m = j + 1 := ⟨m - 1, by omega⟩
    rw [List.length_cons] at hm
    have hlen : ks.length = p.length + (l.length + 1) := by rw [he]; simp
    rw [hF m p.length s z (by omega) (by simp [he]), wrapN (by omega), show p.length + 1 = (p ++ [z]).length by simp, fold_loop hF hE hks l (p ++ [z]) m _ (by rw [he]; simp) (by omega)]
    rfl
theorem walk_ok : ∀ (s : Nat) (x : api_Plan), WD s x → ∀ (k m n : Nat) (a : Int), s ≤ k → s ≤ m → 2000000 + s ≤ n → plan_walk_plan_Rels_1_t m n a x = some (relsW k x a)
  | 0, x, h, _, _, _, _, _, _, _ => h.elim
  | s + 1, x, h, k, m, n, a, hk, hm, hn => by
    obtain ⟨k, rfl⟩ : ∃ j, k = j + 1 := ⟨k - 1, by omega⟩
    obtain ⟨m, rfl⟩ : ∃ j, m = j + 1 := ⟨m - 1, by omega⟩
    obtain ⟨n, rfl⟩ : ∃ j, n = j + 1 := ⟨n - 1, by omega⟩
    obtain ⟨_, h1, h2⟩ := h
    show plan_walk_plan_Rels_1_f (plan_walk_plan_Rels_1_t m) (n + 1) a x = _
    unfold plan_walk_plan_Rels_1_f
    rw [at1_succ, relsW]
    unfold withK
    refine Eq.trans (fold_loop (F := fun m' acc i => plan_walk_plan_Rels_1_l2 n (plan_walk_plan_Rels_1_t m) x (fun (y1 : Int) => (plan_Rels_1 n y1 x).bind fun x6 => some x6) m' acc i) (ks := sll x.fKids) (f := fun acc z => relsW k (un_api_Plan z) acc) (K := fun (y1 : Int) => (plan_Rels_1 n y1 x).bind fun x6 => some x6) (fun m' i acc z hi e => ?_) (fun m' acc => ?_) h1 (sll x.fKids) [] n a rfl (by omega)) ?_
    · show plan_walk_plan_Rels_1_l2 _ _ _ _ _ _ _ = _
      rw [plan_walk_plan_Rels_1_l2, dT (by omega), cond_true, idx_at hi e, Option.bind_some, walk_ok s (un_api_Plan z) (h2 z (by rw [← e]; exact List.getElem_mem hi)) k m n acc (by omega) (by omega) (by omega), Option.bind_some]
    · show plan_walk_plan_Rels_1_l2 _ _ _ _ _ _ _ = _
      rw [plan_walk_plan_Rels_1_l2, dF (by omega), cond_false]
    · show (plan_Rels_1 n _ x).bind _ = _
      rw [plan_Rels_1_ok _ _ (by omega)]; rfl
noncomputable def relsP (x : api_Plan) : Int := relsW 131073 x 0
theorem plan_Rels_ok {s : Nat} {x : api_Plan} (h : WD s x) (hs : s ≤ 131073) {n : Nat} (hn : 2000010 + s ≤ n) : plan_Rels n x = some (relsP x) := by
  obtain ⟨n, rfl⟩ : ∃ j, n = j + 1 := ⟨n - 1, by omega⟩
  unfold plan_Rels relsP
  rw [at1_succ, show plan_walk_plan_Rels_1 n 0 x = _ from walk_ok s x h 131073 n n 0 hs (by omega) (by omega)]
  rfl
theorem relsW_bare (w : Option (List EX)) : ∀ (s : Nat) (x : api_Plan), WD s x → ∀ (k : Nat) (a : Int), relsW k (bareF s x w) a = relsW k x a
  | 0, x, h, _, _ => h.elim
  | s + 1, x, h, 0, a => rfl
  | s + 1, x, h, k + 1, a => by
    rw [bareF, relsW, relsW]
    simp only [sll_mapO]
    rw [List.foldl_map]
    have : ∀ (l : List PX) (b : Int), (∀ z, z ∈ l → z ∈ sll x.fKids) → l.foldl (fun acc z => relsW k (un_api_Plan (roll_api_Plan (bareF s (un_api_Plan z) w))) acc) b = l.foldl (fun acc z => relsW k (un_api_Plan z) acc) b := by
      intro l
      induction l with
      | nil => intro b _; rfl
      | cons z l ih =>
        intro b hl
        rw [List.foldl_cons, List.foldl_cons, un_roll_P, relsW_bare w s _ (h.2.2 z (hl z (by simp))) k b]
        exact ih _ (fun y hy => hl y (List.mem_cons_of_mem _ hy))
    rw [this _ _ (fun z hz => hz)]
    rfl
theorem bitsLen_k : ∀ (k x : Nat), x < 256 ^ (k + 1) → Sort.bitsLen x ≤ 8 * (k + 1)
  | 0, x, h => bitsLen_le (by simpa using h)
  | k + 1, x, h => by
    by_cases hx : x < 256
    · have := bitsLen_le hx; omega
    · have e := bitsLen_shift (x := x) (s := 8) (by omega)
      have := bitsLen_k k (x / 2 ^ 8) (by
        rw [Nat.div_lt_iff_lt_mul (by decide)]
        rw [Nat.pow_succ] at h
        exact h)
      omega
theorem bitsLen_le64 {x : Nat} (h : x < 18446744073709551616) : Sort.bitsLen x ≤ 64 := bitsLen_k 7 x h
def logF (a : Nat) : Nat := let q := Sort.bitsLen (a / 256); if 1 > q then 1 else q
def sortF (a : Nat) : Nat := capF (a * logF a)
theorem sortF_le (a : Nat) : sortF a ≤ 18446744073709551615 := capF_le _
theorem cost_Sort_ok {a : Nat} (ha : a ≤ 18446744073709551615) {n : Nat} (hn : 20 ≤ n) : cost_Sort n (a : Int) = some (sortF a : Int) := by
  obtain ⟨n, rfl⟩ : ∃ j, n = j + 2 := ⟨n - 2, by omega⟩
  unfold cost_Sort sortF logF
  rw [at1_succ]
  unfold fixed_Log
  rw [at1_succ]
  have hd : Int.tdiv (a : Int) 256 = ((a / 256 : Nat) : Int) := by rw [Int.tdiv_eq_ediv_of_nonneg (by omega)]; rfl
  have hlt : a / 256 < 2 ^ 64 := by omega
  have hb : Sort.bitsLen (a / 256) ≤ 64 := by
    by_cases h0 : a / 256 = 0
    · rw [h0]; decide
    · have := bitsLen_le64 (x := a / 256) (by omega)
      exact this
  rw [hd, wrapU (by omega) (by omega), len64_all (by omega) (by omega), Option.bind_some, Option.bind_some, wrapU (by omega) (by omega)]
  simp only
  generalize Sort.bitsLen (a / 256) = q at *
  have e : (if (1 : Int) > (q : Int) then (1 : Int) else (q : Int)) = ((if 1 > q then 1 else q : Nat) : Int) := by split <;> split <;> omega
  rw [e, fixed_Mul_ok ha (by split <;> omega) (by omega)]
  rfl
def sumF (l : List Nat) : Nat := l.foldl (fun a b => capF (a + b)) 0
theorem fixed_Sum_ok {l : List Nat} (hl : l.length ≤ 100) (h : ∀ z, z ∈ l → z ≤ 18446744073709551615) {n : Nat} (hn : 2000000 ≤ n) : fixed_Sum n (some (l.map fun z : Nat => (z : Int))) = some (sumF l : Int) := by
  obtain ⟨n, rfl⟩ : ∃ j, n = j + 1 := ⟨n - 1, by omega⟩
  unfold fixed_Sum sumF
  rw [at1_succ]
  unfold withK
  have key : ∀ (q p : List Nat) (m acc : Nat), l = p ++ q → acc ≤ 18446744073709551615 → q.length < m → fixed_Sum_l3 n (some (l.map fun z : Nat => (z : Int))) (fun (y1 : Int) => some y1) m (acc : Int) (p.length : Int) = some ((q.foldl (fun a b => capF (a + b)) acc : Nat) : Int) := by
    intro q
    induction q with
    | nil =>
      intro p m acc he ha hm
      obtain ⟨m, rfl⟩ : ∃ j, m = j + 1 := ⟨m - 1, by omega⟩
      rw [fixed_Sum_l3, dF (by rw [he]; simp [sll]), cond_false]; rfl
    | cons z q ih =>
      intro p m acc he ha hm
      rw [List.length_cons] at hm
      obtain ⟨m, rfl⟩ : ∃ j, m = j + 1 := ⟨m - 1, by omega⟩
      have hlen : l.length = p.length + (q.length + 1) := by rw [he]; simp
      rw [fixed_Sum_l3, dT (by simp [sll, he]; omega), cond_true, show idx (sll (some (l.map fun z : Nat => (z : Int)))) (p.length : Int) = some (z : Int) by rw [idx_nat]; simp [sll, he], Option.bind_some, fixed_Add_ok ha (h z (by rw [he]; simp)) (by omega), Option.bind_some, wrapN (by omega), show p.length + 1 = (p ++ [z]).length by simp]
      exact ih (p ++ [z]) m _ (by rw [he]; simp) (capF_le _) (by omega)
  exact key l [] n 0 rfl (by omega) (by omega)
def ownF (kind : Int) (a b : Nat) : Option Nat := bif kind == 2 then some (shareF a b 256) else bif kind == 3 then some (sumF [a, b, b, 4096]) else bif kind == 4 then some (capF (sortF a + sortF b)) else none
def joinF (kind : Int) (l r a b o : Nat) : Nat := match ownF kind a b with
  | some own => sumF [l, r, o, own]
  | none => 18446744073709551615
theorem foldl_capF_le : ∀ (l : List Nat) (a : Nat), a ≤ 18446744073709551615 → l.foldl (fun a b => capF (a + b)) a ≤ 18446744073709551615
  | [], a, h => h
  | z :: l, a, h => foldl_capF_le l _ (capF_le _)
theorem sumF_le (l : List Nat) : sumF l ≤ 18446744073709551615 := foldl_capF_le l 0 (by omega)
theorem capF_ge {a b : Nat} (ha : a ≤ 18446744073709551615) : a ≤ capF (a + b) := by unfold capF; split <;> omega
theorem foldl_capF_ge : ∀ (l : List Nat) (a : Nat), a ≤ 18446744073709551615 → a ≤ l.foldl (fun a b => capF (a + b)) a
  | [], a, h => Nat.le_refl _
  | z :: l, a, h => Nat.le_trans (capF_ge h) (foldl_capF_ge l _ (capF_le _))
theorem sumF_mem : ∀ (l : List Nat) (a z : Nat), z ≤ 18446744073709551615 → z ∈ l → z ≤ l.foldl (fun a b => capF (a + b)) a
  | y :: l, a, z, hz, h => by
    rw [List.foldl_cons]
    rcases List.mem_cons.1 h with rfl | h
    · refine Nat.le_trans ?_ (foldl_capF_ge l _ (capF_le _))
      rw [Nat.add_comm]; exact capF_ge hz
    · exact sumF_mem l _ z hz h
theorem joinF_le (kind : Int) (l r a b o : Nat) : joinF kind l r a b o ≤ 18446744073709551615 := by
  unfold joinF
  split
  · exact sumF_le _
  · omega
theorem joinF_ge {kind : Int} {l r a b o : Nat} (hl : l ≤ 18446744073709551615) (hr : r ≤ 18446744073709551615) : l ≤ joinF kind l r a b o ∧ r ≤ joinF kind l r a b o := by
  unfold joinF
  split
  · exact ⟨sumF_mem _ _ _ hl (by simp), sumF_mem _ _ _ hr (by simp)⟩
  · omega
theorem cost_Join_ok {kind : Int} {l r a b o : Nat} (hl : l ≤ 18446744073709551615) (hr : r ≤ 18446744073709551615) (ha : a ≤ 18446744073709551615) (hb : b ≤ 18446744073709551615) (ho : o ≤ 18446744073709551615) {n : Nat} (hn : 2000100 ≤ n) : cost_Join n kind (l : Int) (r : Int) (a : Int) (b : Int) (o : Int) = some (joinF kind l r a b o : Int) := by
  obtain ⟨n, rfl⟩ : ∃ j, n = j + 1 := ⟨n - 1, by omega⟩
  unfold cost_Join joinF ownF
  rw [at1_succ]
  simp only [withK]
  have fin : ∀ own : Nat, own ≤ 18446744073709551615 → ((fixed_Sum n (some ([(l : Int), (r : Int), (o : Int), (own : Int)] : List Int))).bind fun x3 => some x3) = some ((sumF [l, r, o, own] : Nat) : Int) := fun own hw => by
    have := fixed_Sum_ok (l := [l, r, o, own]) (by simp) (fun z hz => by
      simp only [List.mem_cons, List.not_mem_nil, or_false] at hz
      rcases hz with rfl | rfl | rfl | rfl <;> assumption) (n := n) (by omega)
    rw [show fixed_Sum n (some ([(l : Int), (r : Int), (o : Int), (own : Int)] : List Int)) = _ from this]
    rfl
  by_cases k2 : kind = 2
  · rw [beqT k2, cond_true, cond_true, show (256 : Int) = ((256 : Nat) : Int) from rfl, fixed_Share_ok ha hb (by omega) (by omega), Option.bind_some]
    exact fin _ (shareF_le _ _ _)
  rw [beqF k2, cond_false, cond_false]
  by_cases k3 : kind = 3
  · rw [beqT k3, cond_true, cond_true]
    have := fixed_Sum_ok (l := [a, b, b, 4096]) (by simp) (fun z hz => by
      simp only [List.mem_cons, List.not_mem_nil, or_false] at hz
      rcases hz with rfl | rfl | rfl | rfl <;> first | assumption | omega) (n := n) (by omega)
    rw [show fixed_Sum n (some ([(a : Int), (b : Int), (b : Int), 4096] : List Int)) = _ from this, Option.bind_some]
    exact fin _ (sumF_le _)
  rw [beqF k3, cond_false, cond_false]
  by_cases k4 : kind = 4
  · rw [beqT k4, cond_true, cond_true, cost_Sort_ok ha (by omega), Option.bind_some, cost_Sort_ok hb (by omega), Option.bind_some, fixed_Add_ok (sortF_le _) (sortF_le _) (by omega), Option.bind_some]
    exact fin _ (capF_le _)
  rw [beqF k4, cond_false, cond_false]
  rfl
noncomputable def kidP (x : api_Plan) (i : Nat) : api_Plan := match (sll x.fKids)[i]? with
  | some z => un_api_Plan z
  | none => x
noncomputable def cardP (a : List EX) (s : LS) (x : api_Plan) : Nat := cardF a s (relsP x)
def scanF (r o : Nat) : Nat := capF (capF (256 * r) + o)
noncomputable def costF (a : List EX) (s : LS) : Nat → api_Plan → Nat
  | 0, _ => 0
  | k + 1, x =>
    bif x.fKind == 1 then scanF (rowsF s x.fRel.toNat) (cardP a s x)
    else bif (x.fKind == 2) || (x.fKind == 3) || (x.fKind == 4) then joinF x.fKind (costF a s k (kidP x 0)) (costF a s k (kidP x 1)) (cardP a s (kidP x 0)) (cardP a s (kidP x 1)) (cardP a s x)
    else bif x.fKind == 5 then capF (capF (costF a s k (kidP x 0) + sortF (cardP a s x)) + cardP a s x)
    else bif x.fKind == 6 then capF (costF a s k (kidP x 0) + cardP a s x)
    else bif x.fKind == 7 then capF (costF a s k (kidP x 0) + sortF (cardP a s x))
    else costF a s k (kidP x 0)
end Go.Pl
