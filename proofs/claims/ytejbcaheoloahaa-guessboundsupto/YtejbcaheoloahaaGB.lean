import Derived.Test.YtejbcaheoloahaaGA
set_option linter.unusedVariables false
set_option linter.unusedSimpArgs false
set_option maxRecDepth 100000
namespace Go.Pl
open Go Go.Ab
theorem W_un {z : EX} (h : W_E_api_Expr z) : W_api_Expr (un_api_Expr z) := by
  unfold W_E_api_Expr at h
  rw [R_un_api_Expr z] at h
  exact h
theorem bulk_ok : ∀ (s m n : Nat) (a : Option (List EX)) (most : Int), (∀ z, z ∈ sll a → W_api_Expr (un_api_Expr z) ∧ szL (un_api_Expr z) ≤ s) → (sll a).length ≤ 1048576 → s < m → 2000020 + s ≤ n → ∃ r, ref22_Bulk_t m n a most = some r
  | s, m, n, a, most, hz, hl, hm, hn => by
    obtain ⟨m, rfl⟩ : ∃ j, m = j + 1 := ⟨m - 1, by omega⟩
    obtain ⟨n, rfl⟩ : ∃ j, n = j + 1 := ⟨n - 1, by omega⟩
    show ∃ r, ref22_Bulk_f (ref22_Bulk_t m) (n + 1) a most = some r
    unfold ref22_Bulk_f
    rw [at1_succ]
    cases hq : decide (((sll a).length : Int) > most) with
    | true => exact ⟨_, rfl⟩
    | false =>
      rw [cond_false]
      show ∃ r, ref22_Bulk_l5 n (ref22_Bulk_t m) a most (fun y3 => some y3) n ((sll a).length : Int) ((0 : Nat) : Int) = some r
      have key : ∀ (d mm i : Nat) (acc : Int), i + d = (sll a).length → d < mm → ∃ r, ref22_Bulk_l5 n (ref22_Bulk_t m) a most (fun y3 => some y3) mm acc (i : Int) = some r := by
        intro d
        induction d with
        | zero =>
          intro mm i acc hi hmm
          obtain ⟨mm, rfl⟩ : ∃ j, mm = j + 1 := ⟨mm - 1, by omega⟩
          rw [ref22_Bulk_l5, dF (by omega : ¬ (i : Int) < ((sll a).length : Int)), Bool.false_and, cond_false]
          exact ⟨_, rfl⟩
        | succ d ih =>
          intro mm i acc hi hmm
          obtain ⟨mm, rfl⟩ : ∃ j, mm = j + 1 := ⟨mm - 1, by omega⟩
          rw [ref22_Bulk_l5]
          cases hc : (decide ((i : Int) < ((sll a).length : Int)) && decide (acc ≤ most)) with
          | false => exact ⟨_, rfl⟩
          | true =>
            have hi' : i < (sll a).length := by omega
            have hzi := hz _ (List.getElem_mem hi')
            rw [cond_true, idx_nat, List.getElem?_eq_getElem hi', Option.bind_some, wrapN (by omega)]
            cases decide ((((((un_api_Expr (sll a)[i]).fConst).fText).size : Nat) : Int) > most) with
            | true => exact ⟨_, rfl⟩
            | false =>
              rw [cond_false]
              cases decide ((IntKind.wrap .i64 (acc + ((((un_api_Expr (sll a)[i]).fConst).fText).size : Int))) ≤ most) with
              | false => exact ih mm (i + 1) _ (by omega) (by omega)
              | true =>
                rw [cond_true]
                have hs : 0 < s := by
                  have := hzi.2
                  unfold szL R_api_Expr at this
                  simp only [PV.bulkL, PV.bulk] at this
                  omega
                obtain ⟨r, hr⟩ := bulk_ok (s - 1) m n ((un_api_Expr (sll a)[i]).fKids) (IntKind.wrap .i64 (most - (IntKind.wrap .i64 (acc + ((((un_api_Expr (sll a)[i]).fConst).fText).size : Int))))) (fun y hy => ⟨W_kid hzi.1 hy, by have := sz_kid hy; omega⟩) (kids_len hzi.1) (by omega) (by omega)
                rw [hr, Option.bind_some]
                exact ih mm (i + 1) _ (by omega) (by omega)
      exact key (sll a).length n 0 _ (by omega) (by omega)
  termination_by s => s
  decreasing_by omega
theorem bulk_many {a : Option (List EX)} (h : 400 < (sll a).length) {n : Nat} (hn : 10 ≤ n) : ref22_Bulk n a 400 = some 401 := by
  obtain ⟨n, rfl⟩ : ∃ k, n = k + 1 := ⟨n - 1, by omega⟩
  show ref22_Bulk_f (ref22_Bulk_t n) (n + 1) a 400 = some 401
  unfold ref22_Bulk_f
  rw [at1_succ, dT (by omega), cond_true]
  rfl
theorem great31_ok {n : Nat} (hn : 3048700 ≤ n) {a : Option (List EX)} (ha : ∀ z, z ∈ sll a → W_E_api_Expr z) {l : Option (List S20)} (hl : wSl W_tabularyref20_Stat l) : ∃ b, law31_Great n a l = some b ∧ (b = false → (sll a).length ≤ 400) := by
  obtain ⟨n, rfl⟩ : ∃ k, n = k + 1 := ⟨n - 1, by omega⟩
  unfold law31_Great
  rw [at1_succ]
  by_cases h4 : 400 < (sll a).length
  · rw [bulk_many h4 (by omega), Option.bind_some, dT (by omega), Bool.true_or, cond_true]
    exact ⟨_, rfl, fun h => by cases h⟩
  · obtain ⟨r, hr⟩ := bulk_ok 1048576 n n a 400 (fun z hz => ⟨W_un (ha z hz), (W_un (ha z hz)).2⟩) (by omega) (by omega) (by omega)
    rw [show ref22_Bulk n a 400 = some r from hr, Option.bind_some]
    cases (decide (r > 400) || decide (((sll l).length : Int) > 13)) with
    | true => exact ⟨_, rfl, fun h => by cases h⟩
    | false =>
      rw [cond_false]
      have : law31_Great_l4 n l (fun _ => some false) n 0 = _ := all_loop0 (F := fun m i => law31_Great_l4 n l (fun _ => some false) m i) (l := sll l) (p := fun s => !greatS s) (kk := some false) (e := some true) hl.1 (by omega) (fun m i x hi e => by
        have hx : W_tabularyref20_Stat x := hl.2 x (by rw [← e]; exact List.getElem_mem hi)
        show law31_Great_l4 _ _ _ _ _ = _
        rw [law31_Great_l4, dT (by omega), cond_true, idx_at hi e, Option.bind_some, great_ok hx (by omega), Option.bind_some]
        cases greatS x <;> rfl) (fun m => by
        show law31_Great_l4 _ _ _ _ _ = _
        rw [law31_Great_l4, dF (by omega), cond_false])
      simp only [withK]
      rw [this]
      cases (sll l).all (fun s => !greatS s) <;> exact ⟨_, rfl, fun _ => by omega⟩
theorem stats_ok {l : Option (List S20)} (hl : wSl W_tabularyref20_Stat l) {n : Nat} (h : 2000100 ≤ n) : law31_Stats n l = some (mapO gs (sll l)) := by
  obtain ⟨n, rfl⟩ : ∃ k, n = k + 1 := ⟨n - 1, by omega⟩
  unfold law31_Stats
  rw [at1_succ]
  unfold withK
  refine Eq.trans (map_loop0 (f := gs) (l := sll l) (l3 := fun m st i => law31_Stats_l3 n l _ m st i) (K := fun | none => some none | (some y3) => some (some y3)) (b := 32) (by omega) hl.1 (m := n) (by omega) (fun m i st x hi e => ?_) (fun m st => ?_)) ?_
  · have hx : W_tabularyref20_Stat x := hl.2 x (by rw [← e]; exact List.getElem_mem hi)
    cases st with
    | none =>
      show law31_Stats_l3 _ _ _ _ _ _ = _
      rw [law31_Stats_l3, dT (by omega), cond_true, idx_at hi e, Option.bind_some, given20_ok hx (by omega), Option.bind_some]
      rfl
    | some y =>
      show law31_Stats_l3 _ _ _ _ _ _ = _
      rw [law31_Stats_l3, dT (by omega), cond_true, idx_at hi e, Option.bind_some, given20_ok hx (by omega), Option.bind_some]
      rfl
  · cases st with
    | none =>
      show law31_Stats_l3 _ _ _ _ _ _ = _
      rw [law31_Stats_l3, dF (by omega), cond_false]
    | some y =>
      show law31_Stats_l3 _ _ _ _ _ _ = _
      rw [law31_Stats_l3, dF (by omega), cond_false]
  · cases mapO gs (sll l) <;> rfl
theorem stats_W {l : Option (List S20)} (hl : wSl W_tabularyref20_Stat l) : WLS (mapO gs (sll l)) := by
  refine ⟨by rw [sll_mapO, List.length_map]; exact hl.1, fun x hx => ?_⟩
  rw [sll_mapO] at hx
  obtain ⟨y, hy, rfl⟩ := List.mem_map.1 hx
  exact gs_W (hl.2 y hy)
theorem wl_app (S : Int) (z : EX) : ∀ (l : List EX) (i : Nat), wl S (l ++ [z]) i = wl S l i ++ (bif okS S (relE z) then [((i + l.length : Nat) : Int)] else [])
  | [], i => by
    show wl S [z] i = _
    rw [wl, wl, wl]
    cases okS S (relE z) <;> rfl
  | y :: l, i => by
    show wl S (y :: (l ++ [z])) i = _
    rw [wl, wl, wl_app S z l (i + 1), List.length_cons, show i + 1 + l.length = i + (l.length + 1) by omega]
    cases okS S (relE y) <;> rfl
theorem scalF_pre (a b : List EX) (s : LS) : ∀ (l : List Int) (acc : Nat), (∀ j, j ∈ l → 0 ≤ j ∧ j < a.length) → scalF (a ++ b) s l acc = scalF a s l acc
  | [], acc, h => rfl
  | j :: l, acc, h => by
    have h0 := h j (by simp)
    rw [scalF, scalF, List.getElem?_append_left (by omega), scalF_pre a b s l _ fun i hi => h i (List.mem_cons_of_mem _ hi)]
theorem scalF_app (a : List EX) (s : LS) : ∀ (l k : List Int) (acc : Nat), scalF a s (l ++ k) acc = scalF a s k (scalF a s l acc)
  | [], k, acc => rfl
  | j :: l, k, acc => by
    show scalF a s (j :: (l ++ k)) acc = _
    rw [scalF, scalF, scalF_app a s l k]
theorem partF_le {x : api_Expr} (hw : W_api_Expr x) {s : LS} (hs : WLS s) : partF x s ≤ 1048576 := (guess_Part_ok hw hs (n := 2000400) (Nat.le_refl _)).2
theorem scalF_le {a : List EX} (ha : ∀ z, z ∈ a → W_E_api_Expr z) {s : LS} (hs : WLS s) : ∀ (l : List Int) (acc : Nat), acc ≤ 18446744073709551615 → scalF a s l acc ≤ acc
  | [], acc, _ => Nat.le_refl _
  | j :: l, acc, h => by
    rw [scalF]
    cases hz : a[j.toNat]? with
    | none => exact scalF_le ha hs l acc h
    | some z =>
      have h1 := partF_le (un_W (ha z (List.mem_of_getElem? hz))) hs
      have h2 := scaleF_le h h1
      have := scalF_le ha hs l (scaleF acc (partF (un_api_Expr z) s)) (by omega)
      simp only
      omega
theorem GuessBounds_big {n : Nat} (hn : 3900000 ≤ n) (hwk : law31_works n = some true) {a0 : Option (List EX)} {a1 : api_Expr} {a2 : Option (List S20)} {a3 : Int} (h0 : wSl W_E_api_Expr a0) (h1 : W_api_Expr a1) (h2 : wSl W_tabularyref20_Stat a2) : law31_GuessBounds (n + 1) a0 a1 a2 a3 = some true := by
  have hz : W_E_api_Expr (roll_api_Expr a1) := h1
  have h01 := h0.1
  unfold law31_GuessBounds
  rw [at1_succ, hwk, Option.bind_some, Bool.not_true, cond_false]
  have main : ∀ (y4 : List EX), y4 = sll a0 ++ [roll_api_Expr a1] → ((law31_Great n (some y4) a2).bind fun x6 => bif x6 then some true else (law31_Stats n a2).bind fun x9 => withK (fun k13 => law31_GuessBounds_l8 n y4 x9 k13 n 0) (fun (_ : Unit) => (guess_Card n a0 x9 a3).bind fun x14 => (guess_Card n (some y4) x9 a3).bind fun x16 => (guess_Within n (some y4) a3).bind fun x18 => (guess_Within n a0 a3).bind fun x20 => some ((((decide (x14 ≥ 1)) && (decide (x16 ≥ 1))) && (decide (x16 ≤ x14))) && ((decide (((sll x18).length : Int) > ((sll x20).length : Int))) || (x14 == x16))))) = some true := by
    intro y4 hy
    have hW : ∀ z, z ∈ y4 → W_E_api_Expr z := fun z hm => by
      rw [hy] at hm
      rcases List.mem_append.1 hm with h | h
      · exact h0.2 z h
      · rw [List.mem_singleton.1 h]; exact hz
    obtain ⟨b, hb, hbl⟩ := great31_ok (n := n) (by omega) (a := some y4) hW h2
    rw [hb, Option.bind_some]
    cases b with
    | true => rfl
    | false =>
      have hlen : y4.length ≤ 400 := hbl rfl
      have hy4 : wSl W_E_api_Expr (some y4) := ⟨by show y4.length ≤ _; omega, hW⟩
      rw [cond_false, stats_ok h2 (by omega), Option.bind_some]
      have hs := stats_W h2
      generalize mapO gs (sll a2) = s at hs ⊢
      have hloop : ∀ (K : Unit → Option Bool), law31_GuessBounds_l8 n y4 s K n 0 = K () := fun K => by
        have := all_loop0 (F := fun m i => law31_GuessBounds_l8 n y4 s K m i) (l := y4) (p := fun _ => true) (kk := K ()) (e := some false) (by omega) (m := n) (by omega) (fun m i x hi e => by
          have hx := hW x (by rw [← e]; exact List.getElem_mem hi)
          obtain ⟨g1, g2⟩ := guess_Part_ok (un_W hx) hs (n := n) (by omega)
          show law31_GuessBounds_l8 _ _ _ _ _ _ = _
          rw [law31_GuessBounds_l8, dT (by omega), cond_true, idx_at hi e, Option.bind_some]
          rw [show guess_Part n (api_Expr.mk ((un_api_Expr x).fKind) ((un_api_Expr x).fRel) ((un_api_Expr x).fCol) (api_Value.mk (((un_api_Expr x).fConst).fKind) (((un_api_Expr x).fConst).fInt) (((un_api_Expr x).fConst).fFloat) (((un_api_Expr x).fConst).fText)) ((un_api_Expr x).fKids)) s = _ from g1, Option.bind_some]
          rw [dF (by omega)]; rfl) (fun m => by
          show law31_GuessBounds_l8 _ _ _ _ _ _ = _
          rw [law31_GuessBounds_l8, dF (by omega), cond_false])
        rw [this, List.all_eq_true.2 (fun _ _ => rfl)]; rfl
      simp only [withK]
      rw [hloop]
      obtain ⟨w1, e1, q1⟩ := within_ok (n := n) (by omega) hy4 a3
      obtain ⟨w0, e0, q0⟩ := within_ok (n := n) (by omega) h0 a3
      rw [guess_Card_ok h0 hs a3 (by omega), Option.bind_some, guess_Card_ok hy4 hs a3 (by omega), Option.bind_some, e1, Option.bind_some, e0, Option.bind_some, q1, q0]
      have hsp : prodF a3 s 32 0 256 ≤ 18446744073709551615 := prodF_le _ _ _ (by omega)
      have hin : ∀ j, j ∈ wl a3 (sll a0) 0 → 0 ≤ j ∧ j < (sll a0).length := fun j hj => by have := wl_range a3 _ _ _ hj; omega
      have hc : scalF y4 s (wl a3 y4 0) (prodF a3 s 32 0 256) = bif okS a3 (relE (roll_api_Expr a1)) then scaleF (scalF (sll a0) s (wl a3 (sll a0) 0) (prodF a3 s 32 0 256)) (partF (un_api_Expr (roll_api_Expr a1)) s) else scalF (sll a0) s (wl a3 (sll a0) 0) (prodF a3 s 32 0 256) := by
        rw [hy, wl_app, scalF_app, scalF_pre _ _ _ _ _ hin]
        cases okS a3 (relE (roll_api_Expr a1)) with
        | false => rfl
        | true =>
          rw [cond_true, cond_true, scalF, scalF]
          have : (sll a0 ++ [roll_api_Expr a1])[(((0 + (sll a0).length : Nat) : Int)).toNat]? = some (roll_api_Expr a1) := by
            rw [Int.toNat_natCast, Nat.zero_add]; simp
          rw [this]
      have hle := scalF_le h0.2 hs (wl a3 (sll a0) 0) _ hsp
      have hp := partF_le (un_W hz) hs
      unfold cardF
      rw [show sll (some y4) = y4 from rfl, hc, show wl a3 y4 0 = _ from by rw [hy, wl_app]]
      generalize scalF (sll a0) s (wl a3 (sll a0) 0) (prodF a3 s 32 0 256) = q at hle
      generalize prodF a3 s 32 0 256 = q2 at hle hsp
      congr 1
      cases okS a3 (relE (roll_api_Expr a1)) with
      | false =>
        rw [cond_false, dT (by omega), dT (by omega)]
        simp
      | true =>
        have := scaleF_le (a := q) (by omega) hp
        rw [cond_true, cond_true, dT (by omega), dT (by omega), dT (by omega), dT (by rw [List.length_append, List.length_singleton]; omega)]
        rfl
  simp only [withK]
  cases hq : (sll a0).isEmpty with
  | true =>
    have he : sll a0 = [] := List.isEmpty_iff.1 hq
    rw [cond_true, ckA_ok (by simp) (by omega), Option.bind_some, ckA_ok (by simp) (by omega), Option.bind_some]
    exact main _ (by rw [he])
  | false =>
    rw [cond_false, ckA_ok (by simp; omega) (by omega), Option.bind_some, ckA_ok (by simp; omega) (by omega), Option.bind_some]
    exact main _ (by rw [List.nil_append])
theorem works31_ok : law31_works 3999999 = some true := rfl
theorem GuessBounds_true {n : Nat} (h : n = 4000000) {a0 : Option (List EX)} {a1 : api_Expr} {a2 : Option (List S20)} {a3 : Int} (h0 : wSl W_E_api_Expr a0) (h1 : W_api_Expr a1) (h2 : wSl W_tabularyref20_Stat a2) (h3 : wI .u32 a3) : law31_GuessBounds n a0 a1 a2 a3 = some true := by
  subst h
  exact GuessBounds_big (n := 3999999) (by decide) works31_ok h0 h1 h2
end Go.Pl
