import Derived.Test.YtejbcaheoloahaaQPA
set_option maxRecDepth 100000
namespace Go.Pl
open Go Go.Ab
theorem ints_self {a : Option (List Int)} (ha : (sll a).length ≤ 1048576) {n : Nat} (hn : 2000010 ≤ n) : ref01_Ints n a a = some true := by
  obtain ⟨n, rfl⟩ : ∃ j, n = j + 1 := ⟨n - 1, by omega⟩
  unfold ref01_Ints
  rw [at1_succ, show (((sll a).length : Int) != ((sll a).length : Int)) = false by simp, cond_false, withK]
  refine Eq.trans (all_loop0 (F := fun k i => ref01_Ints_l4 n a a (fun _ => some true) k i) (l := sll a) (p := fun _ => true) (kk := some true) (e := some false) ha (by omega) (fun m i x hi hx => ?_) fun m => ?_) ?_
  · rw [ref01_Ints_l4, dT (by omega), cond_true, idx_at hi hx, Option.bind_some, Option.bind_some, show (x != x) = false by simp, cond_false, cond_true]
  · rw [ref01_Ints_l4, dF (by omega), cond_false]
  · rw [show ((sll a).all fun _ => true) = true by simp, cond_true]
theorem tabs_app {a b : List api_Table} : ∀ {rels : List ByteArray} {l : List api_Table}, tabsF a rels = some l → tabsF (a ++ b) rels = some l
  | [], l, h => h
  | x :: r, l, h => by
    rw [tabsF] at h ⊢
    split at h
    · rename_i t l' h1 h2
      cases h
      rw [List.find?_append, h1, tabs_app h2]
      rfl
    · cases h
theorem find_rev {x : ByteArray} : ∀ {a : List api_Table}, a.Pairwise (fun u t => sEq u.fName t.fName = false) → a.reverse.find? (named x) = a.find? (named x)
  | [], _ => rfl
  | t :: a, h => by
    obtain ⟨h1, h2⟩ := List.pairwise_cons.1 h
    rw [List.reverse_cons, List.find?_append, find_rev h2, List.find?_cons]
    cases ht : named x t with
    | false =>
      rw [List.find?_cons, ht]
      simp
    | true =>
      have : a.find? (named x) = none := by
        rw [List.find?_eq_none]
        intro u hu hn
        have := h1 u hu
        unfold named at ht hn
        rw [sEq_iff] at ht hn
        rw [ht, hn, sEq_self] at this
        cases this
      rw [this, List.find?_cons, ht]
      rfl
theorem tabs_rev {a : List api_Table} (h : a.Pairwise (fun u t => sEq u.fName t.fName = false)) : ∀ (rels : List ByteArray), tabsF a.reverse rels = tabsF a rels
  | [] => rfl
  | x :: r => by rw [tabsF, tabsF, find_rev h, tabs_rev h r]
theorem ahead (nm : ByteArray) {a : Option (List api_Table)} (ha : (sll a).length ≤ 1048576) {F : Nat → Int → Option Bool} {kk : Option Bool} {i : Nat} (hi : i ≤ (sll a).length)
    (hF : ∀ (m : Nat) (j : Nat) (x : api_Table), j < i → idx (sll a) (j : Int) = some x → F (m + 1) (j : Int) = bif sEq x.fName nm then some true else F m (IntKind.wrap .i64 ((j : Int) + 1))) (hE : ∀ m, F (m + 1) (i : Int) = kk)
    (hk : (∀ x, x ∈ (sll a).take i → sEq x.fName nm = false) → kk = some true) {m : Nat} (hm : 2000000 ≤ m) : F m 0 = some true := by
  have := all_loop0 (F := F) (l := (sll a).take i) (p := fun x => !sEq x.fName nm) (kk := kk) (e := some true) (by rw [List.length_take]; omega) hm (fun m j x hj hx => by
    rw [List.length_take] at hj
    rw [List.getElem_take] at hx
    rw [hF m j x (by omega) (idx_at (by omega) hx)]
    cases sEq x.fName nm <;> rfl) (fun m => by
    rw [List.length_take, Nat.min_eq_left hi]
    exact hE m)
  rw [this]
  cases hall : ((sll a).take i).all fun x => !sEq x.fName nm with
  | false => rfl
  | true =>
    rw [cond_true]
    refine hk fun x hx => ?_
    have := List.all_eq_true.1 hall x hx
    simpa using this
theorem back_loop {a : Option (List api_Table)} (ha : (sll a).length ≤ 1048576) {n : Nat} (hn : 2000000 ≤ n) {K : Option (List api_Table) → Option Bool}
    (hK : ∀ s, sll s = (sll a).reverse → (sll a).Pairwise (fun u t => sEq u.fName t.fName = false) → K s = some true) :
    ∀ (k m : Nat) (s : Option (List api_Table)), k ≤ (sll a).length → k < m → sll s = ((sll a).drop k).reverse → (∀ i t, k ≤ i → (sll a)[i]? = some t → ∀ x, x ∈ (sll a).take i → sEq x.fName t.fName = false) → law23_QueryTables_l11 n a K m s ((k : Int) - 1) = some true := by
  intro k
  induction k with
  | zero =>
    intro m s hk hm hs hp
    obtain ⟨m, rfl⟩ : ∃ j, m = j + 1 := ⟨m - 1, by omega⟩
    have : K s = some true := hK s (by rw [hs, List.drop_zero]) (by
      rw [List.pairwise_iff_getElem]
      intro i j hi hj hij
      exact hp j _ (Nat.zero_le _) (List.getElem?_eq_getElem hj) _ (List.mem_take_iff_getElem.2 ⟨i, by omega, rfl⟩))
    cases s with
    | none => rw [law23_QueryTables_l11, dF (by omega), cond_false, this]
    | some y => rw [law23_QueryTables_l11, dF (by omega), cond_false, this]
  | succ k ih =>
    intro m s hk hm hs hp
    obtain ⟨m, rfl⟩ : ∃ j, m = j + 1 := ⟨m - 1, by omega⟩
    have hlt : k < (sll a).length := hk
    have hsl : (sll s).length ≤ 1048576 := by rw [hs]; simp; omega
    have hw : IntKind.wrap .i64 (((k + 1 : Nat) : Int) - 1 - 1) = ((k : Int) - 1) := by rw [wrapI (by omega) (by omega)]; omega
    rw [show (((k + 1 : Nat) : Int) - 1) = (k : Int) by omega] at *
    have hstep : ∀ y, y = sll s ++ [(sll a)[k]] → (∀ x, x ∈ (sll a).take k → sEq x.fName ((sll a)[k]).fName = false) → law23_QueryTables_l11 n a K m (some y) ((k : Int) - 1) = some true := fun y hy hx => by
      refine ih m (some y) (by omega) (by omega) ?_ fun i t hi ht x hxm => ?_
      · rw [sll_some, hy, hs, ← List.reverse_cons, ← List.drop_eq_getElem_cons hlt]
      · by_cases hik : i = k
        · subst hik
          rw [List.getElem?_eq_getElem hlt] at ht
          injection ht with ht
          subst ht
          exact hx x hxm
        · exact hp i t (by omega) ht x hxm
    have hwr : IntKind.wrap .i64 ((k : Int) - 1) = ((k : Int) - 1) := by rw [wrapI (by omega) (by omega)]
    cases s with
    | none =>
      rw [law23_QueryTables_l11, dT (by omega), cond_true, withK, idx_at hlt rfl, Option.bind_some, ckA_ok (by simp) (by omega), Option.bind_some]
      refine ahead ((sll a)[k]).fName ha (i := k) (kk := law23_QueryTables_l11 n a K m (some ([(sll a)[k]] : List api_Table)) (IntKind.wrap .i64 ((k : Int) - 1))) (by omega) (fun m j x hj hx => ?_) (fun m => ?_) (fun h => ?_) hn
      · rw [law23_QueryTables_l15, dT (by omega), cond_true, hx, Option.bind_some]
      · rw [law23_QueryTables_l15, dF (by omega), cond_false]
      · rw [hwr]
        exact hstep _ rfl h
    | some y =>
      rw [sll_some] at hsl
      rw [law23_QueryTables_l11, dT (by omega), cond_true, withK, idx_at hlt rfl, Option.bind_some, ckA_ok (by simp; omega) (by omega), Option.bind_some]
      refine ahead ((sll a)[k]).fName ha (i := k) (kk := law23_QueryTables_l11 n a K m (some (y ++ [(sll a)[k]] : List api_Table)) (IntKind.wrap .i64 ((k : Int) - 1))) (by omega) (fun m j x hj hx => ?_) (fun m => ?_) (fun h => ?_) hn
      · rw [law23_QueryTables_l15x, dT (by omega), cond_true, hx, Option.bind_some]
      · rw [law23_QueryTables_l15x, dF (by omega), cond_false]
      · rw [hwr]
        exact hstep _ rfl h
theorem great23_few {q : api_Query} (hq : W_api_Query q) {a : Option (List api_Table)} (ha : wSl W_api_Table a) {n : Nat} (hn : 3048720 ≤ n) : Is (fun b => b = false → (sll a).length ≤ 40) (law23_Great n q a) := by
  obtain ⟨r, hr⟩ := great23_any hq ha hn
  refine ⟨r, hr, fun h0 => ?_⟩
  subst h0
  obtain ⟨n, rfl⟩ : ∃ j, n = j + 1 := ⟨n - 1, by omega⟩
  unfold law23_Great at hr
  rw [at1_succ] at hr
  obtain ⟨b, _, hr⟩ := Option.bind_eq_some_iff.1 hr
  by_cases h : (sll a).length ≤ 40
  · exact h
  · rw [dT (show ((sll a).length : Int) > 40 by omega), Bool.or_true, cond_true] at hr
    cases hr
theorem W_q0 : W_api_Query (api_Query.mk none none false none none none) := ⟨wsl_none, wsl_none, trivial, wsl_none, wsl_none, wsl_none⟩
theorem QueryTables_big {n : Nat} (hn : 3900000 ≤ n) (hwk : law23_works n = some true) {a0 : api_Query} {a1 a2 : Option (List api_Table)} (h0 : W_api_Query a0) (h1 : wSl W_api_Table a1) (h2 : wSl W_api_Table a2) : law23_QueryTables (n + 1) a0 a1 a2 = some true := by
  unfold law23_QueryTables
  rw [at1_succ, hwk, Option.bind_some, Bool.not_true, cond_false]
  obtain ⟨g1, e1, l1⟩ := great23_few h0 h1 (n := n) (by omega)
  rw [e1, Option.bind_some]
  cases g1 with
  | true => rfl
  | false =>
  rw [cond_false]
  obtain ⟨g2, e2, l2⟩ := great23_few W_q0 h2 (n := n) (by omega)
  rw [e2, Option.bind_some]
  cases g2 with
  | true => rfl
  | false =>
  rw [cond_false]
  replace l1 := l1 rfl
  replace l2 := l2 rfl
  obtain ⟨p, ep, lp, tp⟩ := right_any h0 h1 (n := n) (by omega)
  rw [show (api_Query.mk a0.fRels a0.fWhere a0.fGrouped a0.fOut a0.fAggs a0.fOrder) = a0 from rfl, ep, Option.bind_some]
  -- behind them, others
  have more : ∀ L, L = sll a1 ++ sll a2 → ∃ r, query_Right n a0 (some L) = some r ∧ (p.2 = 0 → r = p) := fun L hL => by
    have hW : wSl W_api_Table (some L) := by
      refine ⟨by rw [sll_some, hL, List.length_append]; omega, fun x hx => ?_⟩
      rw [sll_some, hL] at hx
      rcases List.mem_append.1 hx with h | h
      · exact h1.2 x h
      · exact h2.2 x h
    obtain ⟨r, er, _⟩ := right_any h0 hW (n := n) (by omega)
    refine ⟨r, er, fun hp0 => ?_⟩
    obtain ⟨l, hl⟩ := tp hp0
    have : tablesF (sll a1) (sll a0.fRels) = tablesF (sll (some L)) (sll a0.fRels) := by
      unfold tablesF
      rw [hl, sll_some, hL, tabs_app hl]
    have := right_same h0 h1 hW this (n := n) (by omega)
    rw [ep, er] at this
    injection this with this
    exact this.symm
  -- the other way round
  have hback : ∀ s, sll s = (sll a1).reverse → (sll a1).Pairwise (fun u t => sEq u.fName t.fName = false) → query_Right n a0 s = some p := fun s hs hpw => by
    have hW : wSl W_api_Table s := ⟨by rw [hs, List.length_reverse]; exact h1.1, fun x hx => by rw [hs] at hx; exact h1.2 x (List.mem_reverse.1 hx)⟩
    have : tablesF (sll a1) (sll a0.fRels) = tablesF (sll s) (sll a0.fRels) := by
      unfold tablesF
      rw [hs, tabs_rev hpw]
    rw [← right_same h0 h1 hW this (n := n) (by omega), ep]
  have hints : ref01_Ints n p.1 p.1 = some true := ints_self (by omega) (by omega)
  simp only [withK]
  have hw1 : IntKind.wrap .i64 (((sll a1).length : Int) - 1) = (((sll a1).length : Int) - 1) := wrapI (by omega) (by omega)
  have hloop : ∀ K : Option (List api_Table) → Option Bool, (∀ s, sll s = (sll a1).reverse → (sll a1).Pairwise (fun u t => sEq u.fName t.fName = false) → K s = some true) → law23_QueryTables_l11 n a1 K n none (IntKind.wrap .i64 (((sll a1).length : Int) - 1)) = some true := fun K hK => by
    rw [hw1]
    exact back_loop h1.1 (by omega) hK (sll a1).length n none (Nat.le_refl _) (by omega) (by simp [sll]) (fun i t hi ht => by rw [List.getElem?_eq_none hi] at ht; cases ht)
  have fin : ∀ s, sll s = (sll a1).reverse → (sll a1).Pairwise (fun u t => sEq u.fName t.fName = false) → (match s with
      | none => (query_Right n a0 none).bind fun x25 => bif (x25.2 == p.2) then (ref01_Ints n p.1 x25.1).bind fun x28 => bif x28 then bif (p.2 != 0) then (some true) else (some true) else some false else some false
      | (some y23) => (query_Right n a0 (some y23)).bind fun x32 => bif (x32.2 == p.2) then (ref01_Ints n p.1 x32.1).bind fun x35 => bif x35 then bif (p.2 != 0) then (some true) else (some true) else some false else some false) = some true := fun s hs hpw => by
    cases s with
    | none =>
      simp only [hback none hs hpw, Option.bind_some, beq_self_eq_true, cond_true, hints]
      cases p.2 != 0 <;> rfl
    | some y =>
      simp only [hback (some y) hs hpw, Option.bind_some, beq_self_eq_true, cond_true, hints]
      cases p.2 != 0 <;> rfl
  have hend := hloop _ fin
  have body : ∀ r : (Option (List Int)) × Int, (p.2 = 0 → r = p) → (bif (p.2 == 0) then bif (r.2 != 0) then some false else (ref01_Ints n p.1 r.1).bind fun x81 => bif (!x81) then some false else law23_QueryTables_l11 n a1 _ n none (IntKind.wrap .i64 (((sll a1).length : Int) - 1)) else law23_QueryTables_l11 n a1 _ n none (IntKind.wrap .i64 (((sll a1).length : Int) - 1))) = some true := fun r hr => by
    cases hp0 : p.2 == 0 with
    | false => rw [cond_false]; exact hend
    | true =>
      have hp1 : p.2 = 0 := by simpa using hp0
      rw [hr hp1, cond_true, show (p.2 != 0) = false by rw [hp1]; rfl, cond_false, hints, Option.bind_some, Bool.not_true, cond_false]
      exact hend
  have ck : ∀ L : List api_Table, L.length ≤ 80 → ckA 40 L.length = some () := fun L h => ckA_ok (by omega) (by omega)
  have emp : ∀ {α : Type} {l : List α}, l.isEmpty = true → l = [] := fun h => List.isEmpty_iff.1 h
  have case : ∀ L, L = sll a1 ++ sll a2 → L.length ≤ 80 := fun L h => by rw [h, List.length_append]; omega
  cases hA : (sll a1).isEmpty with
  | true =>
    have hA' := emp hA
    rw [cond_true, ck _ (by simp), Option.bind_some]
    cases hB : (sll a2).isEmpty with
    | true =>
      have hB' := emp hB
      obtain ⟨r, er, hr⟩ := more [] (by rw [hA', hB']; rfl)
      rw [cond_true, Option.bind_some, er, Option.bind_some]
      exact body r hr
    | false =>
      have hL : [] ++ sll a2 = sll a1 ++ sll a2 := by rw [hA']
      obtain ⟨r, er, hr⟩ := more _ hL
      rw [cond_false, ck _ (case _ hL), Option.bind_some, er, Option.bind_some]
      exact body r hr
  | false =>
    rw [cond_false, ck _ (by rw [List.nil_append]; omega), Option.bind_some]
    cases hB : (sll a2).isEmpty with
    | true =>
      have hB' := emp hB
      have hL : [] ++ sll a1 = sll a1 ++ sll a2 := by rw [hB']; simp
      obtain ⟨r, er, hr⟩ := more _ hL
      rw [cond_true, Option.bind_some, er, Option.bind_some]
      exact body r hr
    | false =>
      have hL : [] ++ sll a1 ++ sll a2 = sll a1 ++ sll a2 := by simp
      obtain ⟨r, er, hr⟩ := more _ hL
      rw [cond_false, ck _ (case _ hL), Option.bind_some, er, Option.bind_some]
      exact body r hr
theorem works23_ok : law23_works 3999999 = some true := rfl
theorem QueryTables_true {n : Nat} (h : n = 4000000) {a0 : api_Query} {a1 a2 : Option (List api_Table)} (h0 : W_api_Query a0) (h1 : wSl W_api_Table a1) (h2 : wSl W_api_Table a2) : law23_QueryTables n a0 a1 a2 = some true := by
  subst h
  exact QueryTables_big (n := 3999999) (by decide) works23_ok h0 h1 h2
end Go.Pl
