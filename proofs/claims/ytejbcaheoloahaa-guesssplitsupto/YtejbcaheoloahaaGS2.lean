import Derived.Test.YtejbcaheoloahaaGS1
set_option linter.unusedVariables false
set_option linter.unusedSimpArgs false
set_option maxRecDepth 100000
namespace Go.Pl
open Go Go.Ab

theorem wrap_bv (x : BitVec 32) : IntKind.wrap .u32 (x.toNat : Int) = (x.toNat : Int) := by
  have := x.isLt
  simp [IntKind.wrap, IntKind.signed, IntKind.bits]
  omega
theorem andNot_bv (r S : Int) : iAndNot .u32 r S = ((BitVec.ofInt 32 r &&& ~~~BitVec.ofInt 32 S).toNat : Int) := wrap_bv _
theorem or_bv (r S : Int) : iOr .u32 r S = ((BitVec.ofInt 32 r ||| BitVec.ofInt 32 S).toNat : Int) := wrap_bv _
theorem and_bv (r S : Int) : iAnd .u32 r S = ((BitVec.ofInt 32 r &&& BitVec.ofInt 32 S).toNat : Int) := wrap_bv _
theorem of_bv (x : BitVec 32) : BitVec.ofInt 32 (x.toNat : Int) = x := by simp
theorem sub_or (ρ s t : BitVec 32) (h : ρ &&& ~~~s = 0#32) : ρ &&& ~~~(s ||| t) = 0#32 ∧ ρ &&& ~~~(t ||| s) = 0#32 := by
  have hb : ∀ i, ρ.getLsbD i = true → s.getLsbD i = true := by
    intro i hi
    have := congrArg (fun x => x.getLsbD i) h
    simp [hi] at this
    have hl := BitVec.lt_of_getLsbD hi
    exact this hl
  constructor
  · apply BitVec.eq_of_getLsbD_eq
    intro i hi
    cases hr : ρ.getLsbD i with
    | false => simp [hr]
    | true => simp [hr, hb i hr]
  · apply BitVec.eq_of_getLsbD_eq
    intro i hi
    cases hr : ρ.getLsbD i with
    | false => simp [hr]
    | true => simp [hr, hb i hr]
theorem one_or (s t : BitVec 32) (h : s &&& 1#32 = 1#32) : (s ||| t) &&& 1#32 = 1#32 ∧ (t ||| s) &&& 1#32 = 1#32 := by
  have hb : s.getLsbD 0 = true := by
    have := congrArg (fun x => x.getLsbD 0) h
    simpa using this
  constructor <;>
  · apply BitVec.eq_of_getLsbD_eq
    intro i hi
    by_cases e : i = 0
    · subst e; simp [hb]
    · simp [BitVec.getLsbD_one, e]
theorem nat0 (x : BitVec 32) : (((x.toNat : Nat) : Int) == 0) = true ↔ x = 0#32 := by
  rw [beq_iff_eq]
  constructor
  · intro h; apply BitVec.eq_of_toNat_eq; simp; omega
  · rintro rfl; simp
theorem nat1 (x : BitVec 32) : (((x.toNat : Nat) : Int) == 1) = true ↔ x = 1#32 := by
  rw [beq_iff_eq]
  constructor
  · intro h; apply BitVec.eq_of_toNat_eq; simp; omega
  · rintro rfl; simp
theorem okS_iff (S r : Int) : okS S r = true ↔ (BitVec.ofInt 32 r &&& ~~~BitVec.ofInt 32 S = 0#32) ∧ (r ≠ 0 ∨ BitVec.ofInt 32 S &&& 1#32 = 1#32) := by
  unfold okS
  rw [andNot_bv, and_bv, Bool.and_eq_true, Bool.or_eq_true, nat0, nat1, bne_iff_ne]
  rfl
theorem okS_or {a b r : Int} (h : okS a r = true ∨ okS b r = true) : okS (iOr .u32 a b) r = true := by
  rw [okS_iff, or_bv, of_bv]
  rcases h with h | h
  · obtain ⟨h1, h2⟩ := (okS_iff _ _).1 h
    exact ⟨(sub_or _ _ _ h1).1, h2.imp id fun q => (one_or _ _ q).1⟩
  · obtain ⟨h1, h2⟩ := (okS_iff _ _).1 h
    exact ⟨(sub_or _ _ _ h1).2, h2.imp id fun q => (one_or _ _ q).2⟩
theorem wl_cases (U : Int) : ∀ (l : List EX) (j : Nat), (wl U l j = [] ∧ ∀ t (h : t < l.length), okS U (relE l[t]) = false) ∨ ∃ d, d < l.length ∧ (∀ t (h : t < l.length), t < d → okS U (relE l[t]) = false) ∧ wl U l j = ((j + d : Nat) : Int) :: wl U (l.drop (d + 1)) (j + d + 1)
  | [], j => .inl ⟨rfl, fun t h => by simp at h⟩
  | z :: l, j => by
    rw [wl]
    cases hok : okS U (relE z) with
    | true => exact .inr ⟨0, by simp, fun t h ht => by omega, by rw [cond_true]; rfl⟩
    | false =>
      rw [cond_false]
      rcases wl_cases U l (j + 1) with ⟨h1, h2⟩ | ⟨d, h1, h2, h3⟩
      · refine .inl ⟨h1, fun t h => ?_⟩
        cases t with
        | zero => exact hok
        | succ t => exact h2 t (by simpa using h)
      · refine .inr ⟨d + 1, by simpa using h1, fun t h ht => ?_, ?_⟩
        · cases t with
          | zero => exact hok
          | succ t => exact h2 t (by simpa using h) (by omega)
        · rw [h3, show j + 1 + d = j + (d + 1) by omega]; rfl
section
variable {n : Nat} {a0 : Option (List EX)} {a1 a2 : Int}
theorem l10_ok (hn : 3048620 ≤ n) (ha : wSl W_E_api_Expr a0) {K : Int → Option Bool} : ∀ (d m j e : Nat), j + d = e → e ≤ (sll a0).length → d < m → (∀ t (h : t < (sll a0).length), j ≤ t → t < e → okS a1 (relE (sll a0)[t]) = false ∧ okS (iAndNot .u32 a2 a1) (relE (sll a0)[t]) = false) →
    law31_GuessSplits_l10 n a0 a1 a2 (e : Int) K m (j : Int) = K (e : Int)
  | 0, m, j, e, hd, he, hm, h => by
    obtain ⟨m, rfl⟩ : ∃ j, m = j + 1 := ⟨m - 1, by omega⟩
    obtain rfl : j = e := by omega
    rw [law31_GuessSplits_l10, dF (by omega), cond_false]
  | d + 1, m, j, e, hd, he, hm, h => by
    obtain ⟨m, rfl⟩ : ∃ j, m = j + 1 := ⟨m - 1, by omega⟩
    have ha1 := ha.1
    have hj := h j (by omega) (Nat.le_refl _) (by omega)
    rw [law31_GuessSplits_l10, dT (by omega), cond_true, in_ok hn ha a1 (by omega), Option.bind_some, hj.1, cond_false, in_ok hn ha _ (by omega), Option.bind_some, hj.2, cond_false, wrapN (by omega)]
    exact l10_ok hn ha d m (j + 1) e (by omega) he (by omega) (fun t h1 h2 h3 => h t h1 (by omega) h3)
theorem l16_ok (hn : 3048620 ≤ n) (ha : wSl W_E_api_Expr a0) {K : Unit → Option Bool} : ∀ (d m j : Nat), j + d = (sll a0).length → d < m → (∀ t (h : t < (sll a0).length), j ≤ t → okS a1 (relE (sll a0)[t]) = false ∧ okS (iAndNot .u32 a2 a1) (relE (sll a0)[t]) = false) →
    law31_GuessSplits_l16 n a0 a1 a2 K m (j : Int) = K ()
  | 0, m, j, hd, hm, h => by
    obtain ⟨m, rfl⟩ : ∃ j, m = j + 1 := ⟨m - 1, by omega⟩
    rw [law31_GuessSplits_l16, dF (by omega), cond_false]
  | d + 1, m, j, hd, hm, h => by
    obtain ⟨m, rfl⟩ : ∃ j, m = j + 1 := ⟨m - 1, by omega⟩
    have ha1 := ha.1
    have hj := h j (by omega) (Nat.le_refl _)
    rw [law31_GuessSplits_l16, dT (by omega), cond_true, in_ok hn ha a1 (by omega), Option.bind_some, hj.1, cond_false, in_ok hn ha _ (by omega), Option.bind_some, hj.2, cond_false, wrapN (by omega)]
    exact l16_ok hn ha d m (j + 1) (by omega) (by omega) (fun t h1 h2 => h t h1 (by omega))
theorem l8_ok (hn : 3048620 ≤ n) (ha : wSl W_E_api_Expr a0) {w : Option (List Int)} {K : Int → Option Bool} : ∀ (k m j : Nat) (pre : List Int), sll w = pre ++ wl (iOr .u32 a1 (iAndNot .u32 a2 a1)) ((sll a0).drop j) j → (sll a0).length - j ≤ k → j ≤ (sll a0).length → k < m → pre.length ≤ j →
    ∃ j', j' ≤ (sll a0).length ∧ (∀ t (h : t < (sll a0).length), j' ≤ t → okS (iOr .u32 a1 (iAndNot .u32 a2 a1)) (relE (sll a0)[t]) = false) ∧ law31_GuessSplits_l8 n a0 a1 a2 K w m (pre.length : Int) (j : Int) = K (j' : Int)
  | k, m, j, pre, he, hk, hj, hm, hp => by
    obtain ⟨m, rfl⟩ : ∃ j, m = j + 1 := ⟨m - 1, by omega⟩
    have ha1 := ha.1
    rcases wl_cases (iOr .u32 a1 (iAndNot .u32 a2 a1)) ((sll a0).drop j) j with ⟨h1, h2⟩ | ⟨d, h1, h2, h3⟩
    · refine ⟨j, hj, fun t h ht => ?_, ?_⟩
      · have := h2 (t - j) (by rw [List.length_drop]; omega)
        rw [List.getElem_drop] at this
        simpa [show j + (t - j) = t by omega] using this
      · rw [h1, List.append_nil] at he
        rw [law31_GuessSplits_l8, dF (by rw [he]; omega), cond_false]
    · rw [List.length_drop] at h1
      obtain ⟨k, rfl⟩ : ∃ q, k = q + 1 := ⟨k - 1, by omega⟩
      rw [h3, List.drop_drop] at he
      have hix : idx (sll w) (pre.length : Int) = some ((j + d : Nat) : Int) := by rw [he, idx_nat]; simp
      obtain ⟨j', g1, g2, g3⟩ := l8_ok hn ha (w := w) (K := K) k m (j + d + 1) (pre ++ [((j + d : Nat) : Int)]) (by rw [he]; simp [Nat.add_assoc]) (by omega) (by omega) (by omega) (by simp; omega)
      refine ⟨j', g1, g2, ?_⟩
      rw [law31_GuessSplits_l8, dT (by rw [he]; simp; omega), cond_true]
      simp only [withK]
      rw [hix, Option.bind_some]
      refine Eq.trans (l10_ok hn ha d n j (j + d) rfl (by omega) (by omega) (fun t h q1 q2 => ?_)) ?_
      · have hf : okS (iOr .u32 a1 (iAndNot .u32 a2 a1)) (relE (sll a0)[t]) = false := by
          have := h2 (t - j) (by rw [List.length_drop]; omega) (by omega)
          rw [List.getElem_drop] at this
          simpa [show j + (t - j) = t by omega] using this
        constructor
        · cases hh : okS a1 (relE (sll a0)[t]) with
          | false => rfl
          | true => rw [okS_or (.inl hh)] at hf; cases hf
        · cases hh : okS (iAndNot .u32 a2 a1) (relE (sll a0)[t]) with
          | false => rfl
          | true => rw [okS_or (.inr hh)] at hf; cases hf
      · rw [wrapN (by omega), wrapN (by omega)]
        rw [show (pre ++ [((j + d : Nat) : Int)]).length = pre.length + 1 by simp] at g3
        exact g3
end
/-! #### Bulk is told -/
theorem W_un {z : EX} (h : W_E_api_Expr z) : W_api_Expr (un_api_Expr z) := by
  unfold W_E_api_Expr at h
  rw [R_un_api_Expr z] at h
  exact h
theorem bulk_ok : ∀ (s m n : Nat) (a : Option (List EX)) (most : Int), (∀ z, z ∈ sll a → W_api_Expr (un_api_Expr z) ∧ szL (un_api_Expr z) ≤ s) → (sll a).length ≤ 1048576 → s < m → 2000020 + s ≤ n → ∃ r, ref22_Bulk_t m n a most = some r
  | s, m, n, a, most, hz, hl, hm, hn => by
    obtain ⟨m, rfl⟩ : ∃ j, m = j + 1 := ⟨m - 1, by omega⟩
    obtain ⟨n, rfl⟩ : ∃ j, n = j + 1 := ⟨n - 1, by omega⟩
    show ∃ r, ref22_Bulk_f (ref22_Bulk_t m) (n + 1) a most = some r
    unfold ref22_Bulk_f
    rw [at1_succ]
    cases hq : decide (((sll a).length : Int) > most) with
    | true => exact ⟨_, rfl⟩
    | false =>
      rw [cond_false]
      show ∃ r, ref22_Bulk_l5 n (ref22_Bulk_t m) a most (fun y3 => some y3) n ((sll a).length : Int) ((0 : Nat) : Int) = some r
      have key : ∀ (d mm i : Nat) (acc : Int), i + d = (sll a).length → d < mm → ∃ r, ref22_Bulk_l5 n (ref22_Bulk_t m) a most (fun y3 => some y3) mm acc (i : Int) = some r := by
        intro d
        induction d with
        | zero =>
          intro mm i acc hi hmm
          obtain ⟨mm, rfl⟩ : ∃ j, mm = j + 1 := ⟨mm - 1, by omega⟩
          rw [ref22_Bulk_l5, dF (by omega : ¬ (i : Int) < ((sll a).length : Int)), Bool.false_and, cond_false]
          exact ⟨_, rfl⟩
        | succ d ih =>
          intro mm i acc hi hmm
          obtain ⟨mm, rfl⟩ : ∃ j, mm = j + 1 := ⟨mm - 1, by omega⟩
          rw [ref22_Bulk_l5]
          cases hc : (decide ((i : Int) < ((sll a).length : Int)) && decide (acc ≤ most)) with
          | false => exact ⟨_, rfl⟩
          | true =>
            have hi' : i < (sll a).length := by omega
            have hzi := hz _ (List.getElem_mem hi')
            rw [cond_true, idx_nat, List.getElem?_eq_getElem hi', Option.bind_some, wrapN (by omega)]
            cases decide ((((((un_api_Expr (sll a)[i]).fConst).fText).size : Nat) : Int) > most) with
            | true => exact ⟨_, rfl⟩
            | false =>
              rw [cond_false]
              cases decide ((IntKind.wrap .i64 (acc + ((((un_api_Expr (sll a)[i]).fConst).fText).size : Int))) ≤ most) with
              | false => exact ih mm (i + 1) _ (by omega) (by omega)
              | true =>
                rw [cond_true]
                have hs : 0 < s := by
                  have := hzi.2
                  unfold szL R_api_Expr at this
                  simp only [PV.bulkL, PV.bulk] at this
                  omega
                obtain ⟨r, hr⟩ := bulk_ok (s - 1) m n ((un_api_Expr (sll a)[i]).fKids) (IntKind.wrap .i64 (most - (IntKind.wrap .i64 (acc + ((((un_api_Expr (sll a)[i]).fConst).fText).size : Int))))) (fun y hy => ⟨W_kid hzi.1 hy, by have := sz_kid hy; omega⟩) (kids_len hzi.1) (by omega) (by omega)
                rw [hr, Option.bind_some]
                exact ih mm (i + 1) _ (by omega) (by omega)
      exact key (sll a).length n 0 _ (by omega) (by omega)
  termination_by s => s
  decreasing_by omega
theorem great31_ok {n : Nat} (hn : 3048700 ≤ n) {a : Option (List EX)} (ha : wSl W_E_api_Expr a) : ∃ b, law31_Great n a none = some b := by
  obtain ⟨n, rfl⟩ : ∃ k, n = k + 1 := ⟨n - 1, by omega⟩
  unfold law31_Great
  rw [at1_succ]
  obtain ⟨r, hr⟩ := bulk_ok 1048576 n n a 400 (fun z hz => ⟨W_un (ha.2 z hz), (W_un (ha.2 z hz)).2⟩) ha.1 (by omega) (by omega)
  rw [show ref22_Bulk n a 400 = some r from hr, Option.bind_some]
  cases (decide (r > 400) || decide (((sll (none : Option (List tabularyref20_Stat))).length : Int) > 13)) with
  | true => exact ⟨_, rfl⟩
  | false =>
    rw [cond_false]
    obtain ⟨n, rfl⟩ : ∃ k, n = k + 1 := ⟨n - 1, by omega⟩
    exact ⟨false, rfl⟩
theorem GuessSplits_big {n : Nat} (hn : 3900000 ≤ n) (hwk : law31_works n = some true) {a0 : Option (List EX)} {a1 a2 : Int} (ha : wSl W_E_api_Expr a0) : law31_GuessSplits (n + 1) a0 a1 a2 = some true := by
  have ha1 := ha.1
  unfold law31_GuessSplits
  obtain ⟨g, hg⟩ := great31_ok (n := n) (by omega) ha
  rw [at1_succ, hwk, Option.bind_some, Bool.not_true, cond_false, hg, Option.bind_some]
  cases g with
  | true => rfl
  | false =>
    rw [cond_false]
    obtain ⟨w, w1, w2⟩ := within_ok (n := n) (by omega) ha (iOr .u32 a1 (iAndNot .u32 a2 a1))
    unfold withK
    simp only []
    rw [w1, Option.bind_some]
    obtain ⟨j, g1, g2, g3⟩ := l8_ok (n := n) (a1 := a1) (a2 := a2) (by omega) ha (w := w) (K := fun y11 => law31_GuessSplits_l16 n a0 a1 a2 (fun _ => some true) n y11) (sll a0).length n 0 [] (by rw [w2]; rfl) (by omega) (by omega) (by omega) (by simp)
    refine Eq.trans g3 ?_
    refine l16_ok (n := n) (by omega) ha ((sll a0).length - j) n j (by omega) (by omega) (fun t h ht => ?_)
    have hf := g2 t h ht
    constructor
    · cases hh : okS a1 (relE (sll a0)[t]) with
      | false => rfl
      | true => rw [okS_or (.inl hh)] at hf; cases hf
    · cases hh : okS (iAndNot .u32 a2 a1) (relE (sll a0)[t]) with
      | false => rfl
      | true => rw [okS_or (.inr hh)] at hf; cases hf
theorem works31_ok : law31_works 3999999 = some true := rfl
theorem GuessSplits_true {n : Nat} (h : n = 4000000) {a0 : Option (List EX)} {a1 a2 : Int} (ha : wSl W_E_api_Expr a0) (h1 : wI .u32 a1) (h2 : wI .u32 a2) : law31_GuessSplits n a0 a1 a2 = some true := by
  subst h
  exact GuessSplits_big (n := 3999999) (by decide) works31_ok ha
end Go.Pl
