import Derived.Test.YtejbcaheoloahaaGreatGA
set_option maxRecDepth 100000
namespace Go.Pl
open Go Go.Ab
theorem W_un {z : EX} (h : W_E_api_Expr z) : W_api_Expr (un_api_Expr z) := by
  unfold W_E_api_Expr at h
  rw [R_un_api_Expr z] at h
  exact h
theorem bulk_ok : ∀ (s m n : Nat) (a : Option (List EX)) (most : Int), (∀ z, z ∈ sll a → W_api_Expr (un_api_Expr z) ∧ szL (un_api_Expr z) ≤ s) → (sll a).length ≤ 1048576 → s < m → 2000020 + s ≤ n → ∃ r, ref22_Bulk_t m n a most = some r
  | s, m, n, a, most, hz, hl, hm, hn => by
    obtain ⟨m, rfl⟩ : ∃ j, m = j + 1 := ⟨m - 1, by omega⟩
    obtain ⟨n, rfl⟩ : ∃ j, n = j + 1 := ⟨n - 1, by omega⟩
    show ∃ r, ref22_Bulk_f (ref22_Bulk_t m) (n + 1) a most = some r
    unfold ref22_Bulk_f
    rw [at1_succ]
    cases hq : decide (((sll a).length : Int) > most) with
    | true => exact ⟨_, rfl⟩
    | false =>
      rw [cond_false]
      show ∃ r, ref22_Bulk_l5 n (ref22_Bulk_t m) a most (fun y3 => some y3) n ((sll a).length : Int) ((0 : Nat) : Int) = some r
      have key : ∀ (d mm i : Nat) (acc : Int), i + d = (sll a).length → d < mm → ∃ r, ref22_Bulk_l5 n (ref22_Bulk_t m) a most (fun y3 => some y3) mm acc (i : Int) = some r := by
        intro d
        induction d with
        | zero =>
          intro mm i acc hi hmm
          obtain ⟨mm, rfl⟩ : ∃ j, mm = j + 1 := ⟨mm - 1, by omega⟩
          rw [ref22_Bulk_l5, dF (by omega : ¬ (i : Int) < ((sll a).length : Int)), Bool.false_and, cond_false]
          exact ⟨_, rfl⟩
        | succ d ih =>
          intro mm i acc hi hmm
          obtain ⟨mm, rfl⟩ : ∃ j, mm = j + 1 := ⟨mm - 1, by omega⟩
          rw [ref22_Bulk_l5]
          cases hc : (decide ((i : Int) < ((sll a).length : Int)) && decide (acc ≤ most)) with
          | false => exact ⟨_, rfl⟩
          | true =>
            have hi' : i < (sll a).length := by omega
            have hzi := hz _ (List.getElem_mem hi')
            rw [cond_true, idx_nat, List.getElem?_eq_getElem hi', Option.bind_some, wrapN (by omega)]
            cases decide ((((((un_api_Expr (sll a)[i]).fConst).fText).size : Nat) : Int) > most) with
            | true => exact ⟨_, rfl⟩
            | false =>
              rw [cond_false]
              cases decide ((IntKind.wrap .i64 (acc + ((((un_api_Expr (sll a)[i]).fConst).fText).size : Int))) ≤ most) with
              | false => exact ih mm (i + 1) _ (by omega) (by omega)
              | true =>
                rw [cond_true]
                have hs : 0 < s := by
                  have := hzi.2
                  unfold szL R_api_Expr at this
                  simp only [PV.bulkL, PV.bulk] at this
                  omega
                obtain ⟨r, hr⟩ := bulk_ok (s - 1) m n ((un_api_Expr (sll a)[i]).fKids) (IntKind.wrap .i64 (most - (IntKind.wrap .i64 (acc + ((((un_api_Expr (sll a)[i]).fConst).fText).size : Int))))) (fun y hy => ⟨W_kid hzi.1 hy, by have := sz_kid hy; omega⟩) (kids_len hzi.1) (by omega) (by omega)
                rw [hr, Option.bind_some]
                exact ih mm (i + 1) _ (by omega) (by omega)
      exact key (sll a).length n 0 _ (by omega) (by omega)
  termination_by s => s
  decreasing_by omega
theorem bulk_many {a : Option (List EX)} (h : 400 < (sll a).length) {n : Nat} (hn : 10 ≤ n) : ref22_Bulk n a 400 = some 401 := by
  obtain ⟨n, rfl⟩ : ∃ k, n = k + 1 := ⟨n - 1, by omega⟩
  show ref22_Bulk_f (ref22_Bulk_t n) (n + 1) a 400 = some 401
  unfold ref22_Bulk_f
  rw [at1_succ, dT (by omega), cond_true]
  rfl
theorem great31_ok {n : Nat} (hn : 3048700 ≤ n) {a : Option (List EX)} (ha : ∀ z, z ∈ sll a → W_E_api_Expr z) {l : Option (List S20)} (hl : wSl W_tabularyref20_Stat l) : ∃ b, law31_Great n a l = some b ∧ (b = false → (sll a).length ≤ 400) := by
  obtain ⟨n, rfl⟩ : ∃ k, n = k + 1 := ⟨n - 1, by omega⟩
  unfold law31_Great
  rw [at1_succ]
  by_cases h4 : 400 < (sll a).length
  · rw [bulk_many h4 (by omega), Option.bind_some, dT (by omega), Bool.true_or, cond_true]
    exact ⟨_, rfl, fun h => by cases h⟩
  · obtain ⟨r, hr⟩ := bulk_ok 1048576 n n a 400 (fun z hz => ⟨W_un (ha z hz), (W_un (ha z hz)).2⟩) (by omega) (by omega) (by omega)
    rw [show ref22_Bulk n a 400 = some r from hr, Option.bind_some]
    cases (decide (r > 400) || decide (((sll l).length : Int) > 13)) with
    | true => exact ⟨_, rfl, fun h => by cases h⟩
    | false =>
      rw [cond_false]
      have : law31_Great_l4 n l (fun _ => some false) n 0 = _ := all_loop0 (F := fun m i => law31_Great_l4 n l (fun _ => some false) m i) (l := sll l) (p := fun s => !greatS s) (kk := some false) (e := some true) hl.1 (by omega) (fun m i x hi e => by
        have hx : W_tabularyref20_Stat x := hl.2 x (by rw [← e]; exact List.getElem_mem hi)
        show law31_Great_l4 _ _ _ _ _ = _
        rw [law31_Great_l4, dT (by omega), cond_true, idx_at hi e, Option.bind_some, great_ok hx (by omega), Option.bind_some]
        cases greatS x <;> rfl) (fun m => by
        show law31_Great_l4 _ _ _ _ _ = _
        rw [law31_Great_l4, dF (by omega), cond_false])
      simp only [withK]
      rw [this]
      cases (sll l).all (fun s => !greatS s) <;> exact ⟨_, rfl, fun _ => by omega⟩
theorem stats_ok {l : Option (List S20)} (hl : wSl W_tabularyref20_Stat l) {n : Nat} (h : 2000100 ≤ n) : law31_Stats n l = some (mapO gs (sll l)) := by
  obtain ⟨n, rfl⟩ : ∃ k, n = k + 1 := ⟨n - 1, by omega⟩
  unfold law31_Stats
  rw [at1_succ]
  unfold withK
  refine Eq.trans (map_loop0 (f := gs) (l := sll l) (l3 := fun m st i => law31_Stats_l3 n l _ m st i) (K := fun | none => some none | (some y3) => some (some y3)) (b := 32) (by omega) hl.1 (m := n) (by omega) (fun m i st x hi e => ?_) (fun m st => ?_)) ?_
  · have hx : W_tabularyref20_Stat x := hl.2 x (by rw [← e]; exact List.getElem_mem hi)
    cases st with
    | none =>
      show law31_Stats_l3 _ _ _ _ _ _ = _
      rw [law31_Stats_l3, dT (by omega), cond_true, idx_at hi e, Option.bind_some, given20_ok hx (by omega), Option.bind_some]
      rfl
    | some y =>
      show law31_Stats_l3 _ _ _ _ _ _ = _
      rw [law31_Stats_l3, dT (by omega), cond_true, idx_at hi e, Option.bind_some, given20_ok hx (by omega), Option.bind_some]
      rfl
  · cases st with
    | none =>
      show law31_Stats_l3 _ _ _ _ _ _ = _
      rw [law31_Stats_l3, dF (by omega), cond_false]
    | some y =>
      show law31_Stats_l3 _ _ _ _ _ _ = _
      rw [law31_Stats_l3, dF (by omega), cond_false]
  · cases mapO gs (sll l) <;> rfl
theorem stats_W {l : Option (List S20)} (hl : wSl W_tabularyref20_Stat l) : WLS (mapO gs (sll l)) := by
  refine ⟨by rw [sll_mapO, List.length_map]; exact hl.1, fun x hx => ?_⟩
  rw [sll_mapO] at hx
  obtain ⟨y, hy, rfl⟩ := List.mem_map.1 hx
  exact gs_W (hl.2 y hy)
theorem partF_le {x : api_Expr} (hw : W_api_Expr x) {s : LS} (hs : WLS s) : partF x s ≤ 1048576 := (guess_Part_ok hw hs (n := 2000400) (Nat.le_refl _)).2
theorem works31_ok : law31_works 3999999 = some true := rfl
end Go.Pl
