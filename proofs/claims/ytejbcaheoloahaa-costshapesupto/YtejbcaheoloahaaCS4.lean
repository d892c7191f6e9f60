import Derived.Test.YtejbcaheoloahaaCA
set_option maxRecDepth 100000
namespace Go.Pl
open Go Go.Ab
variable {a : Option (List EX)} {s : LS}
theorem cardF_le (ha : wSl W_E_api_Expr a) (hs : WLS s) (S : Int) : cardF (sll a) s S ≤ 18446744073709551615 := by
  have h1 : prodF S s 32 0 256 ≤ 18446744073709551615 := prodF_le _ _ _ (by omega)
  have h2 := scalF_le ha.2 hs (wl S (sll a) 0) _ h1
  unfold cardF
  omega
theorem cardP_le (ha : wSl W_E_api_Expr a) (hs : WLS s) (x : api_Plan) : cardP (sll a) s x ≤ 18446744073709551615 := cardF_le ha hs _
theorem scanF_le (r o : Nat) : scanF r o ≤ 18446744073709551615 := capF_le _
theorem costF_le (ha : wSl W_E_api_Expr a) (hs : WLS s) : ∀ (k : Nat) (x : api_Plan), costF (sll a) s k x ≤ 18446744073709551615
  | 0, x => by rw [costF]; omega
  | k + 1, x => by
    rw [costF]
    cases x.fKind == 1 with
    | true => exact scanF_le _ _
    | false =>
      rw [cond_false]
      cases (x.fKind == 2) || (x.fKind == 3) || (x.fKind == 4) with
      | true => exact joinF_le _ _ _ _ _ _
      | false =>
        rw [cond_false]
        cases x.fKind == 5 with
        | true => exact capF_le _
        | false =>
          rw [cond_false]
          cases x.fKind == 6 with
          | true => exact capF_le _
          | false =>
            rw [cond_false]
            cases x.fKind == 7 with
            | true => exact capF_le _
            | false => exact costF_le ha hs k _
theorem card_ok (ha : wSl W_E_api_Expr a) (hs : WLS s) {d : Nat} {x : api_Plan} (h : WD d x) (hd : d ≤ 131072) {n : Nat} (hn : 3200000 ≤ n) : _cost_coster_card n ⟨a, s⟩ x = some (cardP (sll a) s x : Int) := by
  obtain ⟨n, rfl⟩ : ∃ j, n = j + 1 := ⟨n - 1, by omega⟩
  unfold _cost_coster_card cardP
  rw [at1_succ, plan_Rels_ok h (by omega) (by omega), Option.bind_some, guess_Card_ok ha hs _ (by omega)]
  rfl
theorem kids2 {x : api_Plan} (h : ((sll x.fKids).length : Int) = 2) : ∃ p q, sll x.fKids = [p, q] := by
  match hk : sll x.fKids with
  | [p, q] => exact ⟨p, q, rfl⟩
  | [] => rw [hk] at h; simp at h
  | [p] => rw [hk] at h; simp at h
  | p :: q :: c :: l => rw [hk] at h; simp only [List.length_cons] at h; omega
theorem kids1 {x : api_Plan} (h : ((sll x.fKids).length : Int) = 1) : ∃ p, sll x.fKids = [p] := by
  match hk : sll x.fKids with
  | [p] => exact ⟨p, rfl⟩
  | [] => rw [hk] at h; simp at h
  | p :: q :: l => rw [hk] at h; simp only [List.length_cons] at h; omega
theorem nodeP_kids {x : api_Plan} (h : nodeP x = true) : ((sll x.fKids).length : Int) = kidsP x.fKind := by
  unfold nodeP at h
  rw [Bool.and_eq_true, beq_iff_eq] at h
  exact h.1.symm
theorem nodeP_rel {x : api_Plan} (h : nodeP x = true) : 0 ≤ x.fRel ∧ x.fRel < 12 := by
  unfold nodeP partsP at h
  simp only [Bool.and_eq_true, decide_eq_true_eq] at h
  exact h.2.2.2.1
theorem kidsP_kind {x : api_Plan} (h : nodeP x = true) : 1 ≤ x.fKind ∧ x.fKind ≤ 7 := by
  have := nodeP_kids h
  unfold kidsP at this
  split at this
  · omega
  · split at this
    · omega
    · split at this <;> omega
theorem of_ok (ha : wSl W_E_api_Expr a) (hs : WLS s) : ∀ (r : Nat), r ≤ 24 → ∀ (d : Nat) (x : api_Plan) (c : Nat), WD d x → d ≤ 131072 → frmP r x = some c → ∀ (k m n : Nat), r ≤ k → r + 1 ≤ m → 3200000 + r ≤ n →
    _cost_coster_of_t m n ⟨a, s⟩ x = some (costF (sll a) s k x : Int)
  | 0, _, _, x, c, _, _, h, _, _, _, _, _, _ => by cases h
  | r + 1, hr, d, x, c, hw, hd, h, k, m, n, hk, hm, hn => by
    obtain ⟨k, rfl⟩ : ∃ j, k = j + 1 := ⟨k - 1, by omega⟩
    obtain ⟨m, rfl⟩ : ∃ j, m = j + 1 := ⟨m - 1, by omega⟩
    obtain ⟨n, rfl⟩ : ∃ j, n = j + 1 := ⟨n - 1, by omega⟩
    cases d with
    | zero => exact hw.elim
    | succ d =>
    obtain ⟨hnode, hkid⟩ := frmP_kid h
    have hlen := nodeP_kids hnode
    have hW := hw.2.2
    have ih : ∀ z, z ∈ sll x.fKids → _cost_coster_of_t m n ⟨a, s⟩ (un_api_Plan z) = some (costF (sll a) s k (un_api_Plan z) : Int) := fun z hz => by
      obtain ⟨c', hc', _⟩ := hkid z hz
      exact of_ok ha hs r (by omega) d _ c' (hW z hz) (by omega) hc' k m n (by omega) (by omega) (by omega)
    have ic : ∀ z, z ∈ sll x.fKids → _cost_coster_card n ⟨a, s⟩ (un_api_Plan z) = some (cardP (sll a) s (un_api_Plan z) : Int) := fun z hz => card_ok ha hs (hW z hz) (by omega) (by omega)
    have hc0 : cardP (sll a) s x ≤ 18446744073709551615 := cardF_le ha hs (relsP x)
    show _cost_coster_of_f (_cost_coster_of_t m) (n + 1) ⟨a, s⟩ x = _
    unfold _cost_coster_of_f
    rw [at1_succ, costF]
    rw [show _cost_coster_card n (cost_coster.mk (cost_coster.mk a s).fwhere (cost_coster.mk a s).fstats) x = _ from card_ok ha hs hw hd (by omega), Option.bind_some]
    simp only [withK]
    by_cases k1 : x.fKind = 1
    · have hrel := nodeP_rel hnode
      have hro := rowsF_le hs x.fRel.toNat
      rw [beqT k1, cond_true, cond_true, show x.fRel = ((x.fRel.toNat : Nat) : Int) by omega, Int.toNat_natCast, guess_Rows_ok hs _ (by omega), Option.bind_some]
      have : cost_Scan n ((rowsF s x.fRel.toNat : Nat) : Int) ((cardP (sll a) s x : Nat) : Int) = some ((scanF (rowsF s x.fRel.toNat) (cardP (sll a) s x) : Nat) : Int) := by
        obtain ⟨n, rfl⟩ : ∃ j, n = j + 1 := ⟨n - 1, by omega⟩
        unfold cost_Scan scanF
        rw [at1_succ, show (256 : Int) = ((256 : Nat) : Int) from rfl, fixed_Mul_ok (by omega) (by omega) (by omega), Option.bind_some, fixed_Add_ok (capF_le _) hc0 (by omega)]
        rfl
      rw [this]; rfl
    rw [beqF k1, cond_false, cond_false]
    have two : x.fKind = 2 ∨ x.fKind = 3 ∨ x.fKind = 4 → ((idx (sll x.fKids) 0).bind fun x12 => (idx (sll x.fKids) 1).bind fun x14 => (_cost_coster_of_t m n ⟨a, s⟩ (un_api_Plan x12)).bind fun x16 => (_cost_coster_of_t m n ⟨a, s⟩ (un_api_Plan x14)).bind fun x18 => (_cost_coster_card n ⟨a, s⟩ (un_api_Plan x12)).bind fun x20 => (_cost_coster_card n ⟨a, s⟩ (un_api_Plan x14)).bind fun x22 => (cost_Join n x.fKind x16 x18 x20 x22 (cardP (sll a) s x : Int)).bind fun x24 => some x24) = some ((joinF x.fKind (costF (sll a) s k (kidP x 0)) (costF (sll a) s k (kidP x 1)) (cardP (sll a) s (kidP x 0)) (cardP (sll a) s (kidP x 1)) (cardP (sll a) s x) : Nat) : Int) := fun hq => by
      obtain ⟨p, q, hpq⟩ := kids2 (x := x) (by rw [hlen]; rcases hq with h | h | h <;> rw [h] <;> rfl)
      have mp : p ∈ sll x.fKids := by rw [hpq]; simp
      have mq : q ∈ sll x.fKids := by rw [hpq]; simp
      rw [show kidP x 0 = un_api_Plan p by unfold kidP; rw [hpq]; rfl, show kidP x 1 = un_api_Plan q by unfold kidP; rw [hpq]; rfl]
      have ip := ih p mp; have iq := ih q mq; have cp := ic p mp; have cq := ic q mq
      rw [hpq, show idx [p, q] 0 = some p from rfl, Option.bind_some, show idx [p, q] 1 = some q from rfl, Option.bind_some, ip, Option.bind_some, iq, Option.bind_some, cp, Option.bind_some, cq, Option.bind_some]
      rw [cost_Join_ok (costF_le ha hs k _) (costF_le ha hs k _) (cardP_le ha hs _) (cardP_le ha hs _) hc0 (by omega)]
      rfl
    by_cases k2 : x.fKind = 2
    · rw [beqT k2, cond_true, cond_true, Bool.true_or, Bool.true_or, cond_true]
      exact two (.inl k2)
    rw [beqF k2, cond_false, Bool.false_or]
    by_cases k3 : x.fKind = 3
    · rw [beqT k3, cond_true, cond_true, Bool.true_or, cond_true]
      exact two (.inr (.inl k3))
    rw [beqF k3, cond_false, Bool.false_or]
    by_cases k4 : x.fKind = 4
    · rw [beqT k4, cond_true, cond_true]
      exact two (.inr (.inr k4))
    rw [beqF k4, cond_false, cond_false]
    have hkd := kidsP_kind hnode
    obtain ⟨p, hp⟩ := kids1 (x := x) (by rw [hlen]; unfold kidsP; rw [if_neg k1, if_pos (by omega)])
    have mp : p ∈ sll x.fKids := by rw [hp]; simp
    have hcp := costF_le ha hs k (un_api_Plan p)
    rw [show kidP x 0 = un_api_Plan p by unfold kidP; rw [hp]; rfl, hp, show idx [p] 0 = some p from rfl, Option.bind_some, ih p mp, Option.bind_some]
    by_cases k5 : x.fKind = 5
    · rw [beqT k5, cond_true, cond_true, cost_Sort_ok hc0 (by omega), Option.bind_some, fixed_Add_ok hcp (sortF_le _) (by omega), Option.bind_some, fixed_Add_ok (capF_le _) hc0 (by omega)]
      rfl
    rw [beqF k5, cond_false, cond_false]
    by_cases k6 : x.fKind = 6
    · rw [beqT k6, cond_true, cond_true, fixed_Add_ok hcp hc0 (by omega)]
      rfl
    rw [beqF k6, cond_false, cond_false]
    by_cases k7 : x.fKind = 7
    · rw [beqT k7, cond_true, cond_true, cost_Sort_ok hc0 (by omega), Option.bind_some, fixed_Add_ok hcp (sortF_le _) (by omega)]
      rfl
    rw [beqF k7, cond_false, cond_false]
noncomputable def costAll (a : List EX) (s : LS) (x : api_Plan) : Nat := bif formedP x then costF a s 24 x else 18446744073709551615
theorem cost_Of_ok (ha : wSl W_E_api_Expr a) (hs : WLS s) {d : Nat} {x : api_Plan} (hw : WD d x) (hd : d ≤ 131072) {n : Nat} (hn : 3200100 ≤ n) : cost_Of n x a s = some (costAll (sll a) s x : Int) := by
  obtain ⟨n, rfl⟩ : ∃ j, n = j + 1 := ⟨n - 1, by omega⟩
  unfold cost_Of costAll
  rw [at1_succ, plan_Formed_ok hw (by omega), Option.bind_some]
  cases hf : formedP x with
  | false => rfl
  | true =>
    obtain ⟨c, hc, _⟩ := formedP_frm hf
    rw [Bool.not_true, cond_false, cond_true]
    rw [show _cost_coster_of n (cost_coster.mk a s) (api_Plan.mk x.fKind x.fRel x.fWhere x.fLeft x.fRight x.fOut x.fAggs x.fOrder x.fKids) = _ from of_ok ha hs 24 (by omega) d x c hw hd hc 24 n n (by omega) (by omega) (by omega)]
    rfl
theorem costF_fuel (a : List EX) (s : LS) : ∀ (r : Nat) (x : api_Plan) (c : Nat), frmP r x = some c → ∀ k, r ≤ k → costF a s k x = costF a s r x
  | 0, x, c, h, _, _ => by cases h
  | r + 1, x, c, h, k, hk => by
    obtain ⟨k, rfl⟩ : ∃ j, k = j + 1 := ⟨k - 1, by omega⟩
    obtain ⟨hnode, hkid⟩ := frmP_kid h
    have hlen := nodeP_kids hnode
    have ih : ∀ z, z ∈ sll x.fKids → costF a s k (un_api_Plan z) = costF a s r (un_api_Plan z) := fun z hz => by
      obtain ⟨c', hc', _⟩ := hkid z hz
      exact costF_fuel a s r _ c' hc' k (by omega)
    rw [costF, costF]
    by_cases k1 : x.fKind = 1
    · rw [beqT k1]; rfl
    rw [beqF k1]
    by_cases hq : x.fKind = 2 ∨ x.fKind = 3 ∨ x.fKind = 4
    · obtain ⟨p, q, hpq⟩ := kids2 (x := x) (by rw [hlen]; rcases hq with h | h | h <;> rw [h] <;> rfl)
      rw [show kidP x 0 = un_api_Plan p by unfold kidP; rw [hpq]; rfl, show kidP x 1 = un_api_Plan q by unfold kidP; rw [hpq]; rfl, ih p (by rw [hpq]; simp), ih q (by rw [hpq]; simp)]
    · have hkd := kidsP_kind hnode
      obtain ⟨p, hp⟩ := kids1 (x := x) (by rw [hlen]; unfold kidsP; rw [if_neg k1, if_pos (by omega)])
      rw [show kidP x 0 = un_api_Plan p by unfold kidP; rw [hp]; rfl, ih p (by rw [hp]; simp)]
      have : ((x.fKind == 2) || (x.fKind == 3) || (x.fKind == 4)) = false := by rw [beqF (by omega), beqF (by omega), beqF (by omega)]; rfl
      rw [this]; rfl
theorem costF_kid (ha : wSl W_E_api_Expr a) (hs : WLS s) {r : Nat} {x : api_Plan} {c : Nat} (h : frmP (r + 1) x = some c) {z : PX} (hz : z ∈ sll x.fKids) : costF (sll a) s r (un_api_Plan z) ≤ costF (sll a) s (r + 1) x := by
  obtain ⟨hnode, hkid⟩ := frmP_kid h
  have hlen := nodeP_kids hnode
  rw [costF]
  by_cases k1 : x.fKind = 1
  · rw [k1] at hlen
    have : sll x.fKids = [] := List.length_eq_zero_iff.1 (by rw [show kidsP 1 = 0 from rfl] at hlen; omega)
    rw [this] at hz; cases hz
  rw [beqF k1, cond_false]
  by_cases hq : x.fKind = 2 ∨ x.fKind = 3 ∨ x.fKind = 4
  · obtain ⟨p, q, hpq⟩ := kids2 (x := x) (by rw [hlen]; rcases hq with h | h | h <;> rw [h] <;> rfl)
    rw [show kidP x 0 = un_api_Plan p by unfold kidP; rw [hpq]; rfl, show kidP x 1 = un_api_Plan q by unfold kidP; rw [hpq]; rfl]
    have : ((x.fKind == 2) || (x.fKind == 3) || (x.fKind == 4)) = true := by rcases hq with h | h | h <;> rw [h] <;> rfl
    rw [this, cond_true]
    have hj := joinF_ge (kind := x.fKind) (a := cardP (sll a) s (un_api_Plan p)) (b := cardP (sll a) s (un_api_Plan q)) (o := cardP (sll a) s x) (costF_le ha hs r (un_api_Plan p)) (costF_le ha hs r (un_api_Plan q))
    rw [hpq] at hz
    simp only [List.mem_cons, List.not_mem_nil, or_false] at hz
    rcases hz with rfl | rfl
    · exact hj.1
    · exact hj.2
  · have hkd := kidsP_kind hnode
    obtain ⟨p, hp⟩ := kids1 (x := x) (by rw [hlen]; unfold kidsP; rw [if_neg k1, if_pos (by omega)])
    have : ((x.fKind == 2) || (x.fKind == 3) || (x.fKind == 4)) = false := by rw [beqF (by omega), beqF (by omega), beqF (by omega)]; rfl
    rw [show kidP x 0 = un_api_Plan p by unfold kidP; rw [hp]; rfl, this, cond_false]
    rw [hp, List.mem_singleton] at hz
    subst hz
    have hc := costF_le ha hs r (un_api_Plan z)
    cases x.fKind == 5 with
    | true => rw [cond_true]; exact Nat.le_trans (capF_ge hc) (capF_ge (capF_le _))
    | false =>
      rw [cond_false]
      cases x.fKind == 6 with
      | true => rw [cond_true]; exact capF_ge hc
      | false =>
        rw [cond_false]
        cases x.fKind == 7 with
        | true => rw [cond_true]; exact capF_ge hc
        | false => exact Nat.le_refl _
theorem costAll_kid (ha : wSl W_E_api_Expr a) (hs : WLS s) {x : api_Plan} (h : formedP x = true) {z : PX} (hz : z ∈ sll x.fKids) : costAll (sll a) s (un_api_Plan z) ≤ costAll (sll a) s x := by
  obtain ⟨c, hc, hle⟩ := formedP_frm h
  obtain ⟨c', hc', hlt⟩ := (frmP_kid hc).2 z hz
  have hz24 := frmP_mono 23 _ _ hc'
  have hf : formedP (un_api_Plan z) = true := by unfold formedP; rw [hz24]; simp; omega
  unfold costAll
  rw [h, hf, cond_true, cond_true, costF_fuel (sll a) s 23 _ c' hc' 24 (by omega)]
  exact costF_kid ha hs hc hz
theorem relsP_bare (w : Option (List EX)) {d : Nat} {x : api_Plan} (h : WD d x) : relsP (bareF d x w) = relsP x := relsW_bare w d x h _ _
theorem kidP_bare (w : Option (List EX)) {d : Nat} {x : api_Plan} (i : Nat) {z : PX} (h : (sll x.fKids)[i]? = some z) : kidP (bareF (d + 1) x w) i = bareF d (un_api_Plan z) w := by
  unfold kidP
  rw [bareF]
  simp only [sll_mapO, List.getElem?_map, h, Option.map_some, un_roll_P]
theorem costF_bare (w : Option (List EX)) : ∀ (k d : Nat) (x : api_Plan), WD d x → costF (sll a) s k (bareF d x w) = costF (sll a) s k x
  | 0, d, x, h => rfl
  | k + 1, 0, x, h => h.elim
  | k + 1, d + 1, x, h => by
    have hc : cardP (sll a) s (bareF (d + 1) x w) = cardP (sll a) s x := by unfold cardP; rw [relsP_bare w h]
    have hk0 : ∀ i, costF (sll a) s k (kidP (bareF (d + 1) x w) i) = costF (sll a) s k (kidP x i) ∧ cardP (sll a) s (kidP (bareF (d + 1) x w) i) = cardP (sll a) s (kidP x i) := fun i => by
      cases hi : (sll x.fKids)[i]? with
      | some z =>
        have hz := h.2.2 z (List.mem_of_getElem? hi)
        rw [kidP_bare w i hi, show kidP x i = un_api_Plan z by unfold kidP; rw [hi]]
        exact ⟨costF_bare w k d _ hz, by unfold cardP; rw [relsP_bare w hz]⟩
      | none =>
        have e1 : kidP (bareF (d + 1) x w) i = bareF (d + 1) x w := by
          unfold kidP
          rw [show (sll (bareF (d + 1) x w).fKids)[i]? = none by rw [bareF]; simp only [sll_mapO, List.getElem?_map, hi, Option.map_none]]
        have e2 : kidP x i = x := by unfold kidP; rw [hi]
        rw [e1, e2]
        exact ⟨costF_bare w k (d + 1) x h, hc⟩
    rw [costF, costF, hc, (hk0 0).1, (hk0 1).1, (hk0 0).2, (hk0 1).2]
    rw [show (bareF (d + 1) x w).fKind = x.fKind by rw [bareF], show (bareF (d + 1) x w).fRel = x.fRel by rw [bareF]]
theorem CostShapes_big {n : Nat} (hn : 3900000 ≤ n) (hwk : law32_works n = some true) {a0 : api_Plan} {a1 a3 : Option (List EX)} {a2 : Option (List S20)} (h0 : W_api_Plan a0) (h1 : wSl W_E_api_Expr a1) (h2 : wSl W_tabularyref20_Stat a2) (h3 : wSl W_E_api_Expr a3) : law32_CostShapes (n + 1) a0 a1 a2 a3 = some true := by
  have hd := W_WD h0
  have hb := bareF_W h3 131072 a0 hd
  unfold law32_CostShapes
  rw [at1_succ, hwk, Option.bind_some, Bool.not_true, cond_false]
  rw [show law32_bare n a0 a3 = _ from bare_ok a3 131072 a0 hd n n (by omega) (by omega), Option.bind_some]
  have hcb : ∀ k, costF (sll a1) (mapO gs (sll a2)) k (bareF 131072 a0 a3) = costF (sll a1) (mapO gs (sll a2)) k a0 := fun k => costF_bare a3 k 131072 a0 hd
  generalize bareF 131072 a0 a3 = o at *
  rw [show api_Plan.mk o.fKind o.fRel o.fWhere o.fLeft o.fRight o.fOut o.fAggs o.fOrder o.fKids = o from rfl, show api_Plan.mk a0.fKind a0.fRel a0.fWhere a0.fLeft a0.fRight a0.fOut a0.fAggs a0.fOrder a0.fKids = a0 from rfl]
  obtain ⟨b1, e1⟩ := great25_any hd (n := n) (by omega)
  rw [e1, Option.bind_some]
  cases b1 with
  | true => rfl
  | false =>
  rw [cond_false]
  obtain ⟨b2, e2, _⟩ := great31_ok (n := n) (by omega) (a := a1) h1.2 h2
  rw [e2, Option.bind_some]
  cases (b2 || decide (((sll a3).length : Int) > 3)) with
  | true => rfl
  | false =>
  rw [cond_false]
  obtain ⟨b3, e3⟩ := great25_any hb (n := n) (by omega)
  rw [e3, Option.bind_some]
  cases b3 with
  | true => rfl
  | false =>
  rw [cond_false, plan_Formed_ok hd (by omega), Option.bind_some]
  cases hf : formedP a0 with
  | false => rfl
  | true =>
  rw [Bool.not_true, cond_false, plan_Formed_ok hb (by omega), Option.bind_some]
  cases hg : formedP o with
  | false => rfl
  | true =>
  have hs := stats_W h2
  rw [Bool.not_true, cond_false, stats_ok h2 (by omega), Option.bind_some]
  generalize mapO gs (sll a2) = s at hs hcb ⊢
  rw [cost_Of_ok h1 hs hd (by omega) (by omega), Option.bind_some]
  simp only [withK]
  have hloop : ∀ (K : Unit → Option Bool), law32_CostShapes_l9 n a0 a1 s ((costAll (sll a1) s a0 : Nat) : Int) K n 0 = K () := fun K => by
    have hd2 := hd.2
    have := all_loop0 (F := fun m i => law32_CostShapes_l9 n a0 a1 s ((costAll (sll a1) s a0 : Nat) : Int) K m i) (l := sll a0.fKids) (p := fun _ => true) (kk := K ()) (e := some false) hd2.1 (m := n) (by omega) (fun m i z hi e => by
      have hz : z ∈ sll a0.fKids := by rw [← e]; exact List.getElem_mem hi
      have hle := costAll_kid h1 hs hf hz
      show law32_CostShapes_l9 _ _ _ _ _ _ _ _ = _
      rw [law32_CostShapes_l9, dT (by omega), cond_true, idx_at hi e, Option.bind_some, cost_Of_ok h1 hs (d := 131071) (hd2.2 z hz) (by decide) (by omega), Option.bind_some, dF (by omega)]
      rfl) (fun m => by
      show law32_CostShapes_l9 _ _ _ _ _ _ _ _ = _
      rw [law32_CostShapes_l9, dF (by omega), cond_false])
    rw [this, List.all_eq_true.2 (fun _ _ => rfl)]; rfl
  rw [hloop, cost_Of_ok h1 hs hb (by omega) (by omega), Option.bind_some]
  unfold costAll
  rw [hf, hg, cond_true, cond_true, hcb]
  simp
theorem works32_ok : law32_works 3999999 = some true := rfl
theorem CostShapes_true {n : Nat} (h : n = 4000000) {a0 : api_Plan} {a1 a3 : Option (List EX)} {a2 : Option (List S20)} (h0 : W_api_Plan a0) (h1 : wSl W_E_api_Expr a1) (h2 : wSl W_tabularyref20_Stat a2) (h3 : wSl W_E_api_Expr a3) : law32_CostShapes n a0 a1 a2 a3 = some true := by
  subst h
  exact CostShapes_big (n := 3999999) (by decide) works32_ok h0 h1 h2 h3
end Go.Pl
