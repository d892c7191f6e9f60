import Derived.Test.YtnfgpejdbmakkaaRSA
set_option linter.unusedVariables false
set_option linter.unusedSimpArgs false
namespace Go.Pl
open Go Go.Ab
def bitsF (f : Nat) : Nat := bif isNan f then 9221120237041090561 else bif isZero f then 0 else f
/-! ### Values in their one form -/
abbrev E0 : ByteArray := ByteArray.empty
def vP (v : api_Value) : api_Value := vNan (vPlain v)
/-- What may be. -/
def RightV (p : api_Value) : Prop := p = ⟨0, 0, 0, E0⟩ ∨ (∃ i, (i = 0 ∨ i = 1) ∧ p = ⟨1, i, 0, E0⟩) ∨ (∃ i, wI .i64 i ∧ p = ⟨2, i, 0, E0⟩) ∨ (∃ f, f < 2 ^ 64 ∧ p = ⟨3, 0, f, E0⟩) ∨ (∃ t, t.size ≤ 64 ∧ p = ⟨4, 0, 0, t⟩)
def CanV (p : api_Value) : Prop := p = ⟨0, 0, 0, E0⟩ ∨ (∃ i, (i = 0 ∨ i = 1) ∧ p = ⟨1, i, 0, E0⟩) ∨ (∃ i, wI .i64 i ∧ p = ⟨2, i, 0, E0⟩) ∨ (∃ f, f < 2 ^ 64 ∧ bitsF f = f ∧ p = ⟨3, 0, f, E0⟩) ∨ (∃ t, t.size ≤ 64 ∧ p = ⟨4, 0, 0, t⟩)
theorem posZ_zero {f : Nat} (hf : wF .f64 f) (h : posZ f = true) : f = 0 := by
  unfold posZ at h
  rw [Bool.and_eq_true] at h
  rcases isZero_cases (wF_lt hf) h.1 with h1 | h1
  · exact h1
  · subst h1
    have h2 := h.2
    rw [signb_eq (by decide)] at h2
    simp at h2
theorem right_cases {v : api_Value} (hw : W_api_Value v) (h : vRight v = true) : RightV v := by
  obtain ⟨k, i, f, t⟩ := v
  obtain ⟨w1, w2, w3, w4⟩ := hw
  simp only at w1 w2 w3 w4
  unfold vRight at h
  simp only at h
  split at h
  · subst k
    rw [Bool.and_eq_true, Bool.and_eq_true, beq_iff_eq] at h
    obtain ⟨h1, h2, h3⟩ := h
    exact .inl (by rw [h1, posZ_zero w3 h2, sEq_iff.1 h3])
  split at h
  · subst k
    rw [Bool.and_eq_true, Bool.and_eq_true, Bool.or_eq_true, beq_iff_eq, beq_iff_eq] at h
    obtain ⟨h1, h2, h3⟩ := h
    exact .inr (.inl ⟨i, h1, by rw [posZ_zero w3 h2, sEq_iff.1 h3]⟩)
  split at h
  · subst k
    rw [Bool.and_eq_true] at h
    obtain ⟨h2, h3⟩ := h
    exact .inr (.inr (.inl ⟨i, w2, by rw [posZ_zero w3 h2, sEq_iff.1 h3]⟩))
  split at h
  · subst k
    rw [Bool.and_eq_true, beq_iff_eq] at h
    obtain ⟨h1, h3⟩ := h
    exact .inr (.inr (.inr (.inl ⟨f, wF_lt w3, by rw [h1, sEq_iff.1 h3]⟩)))
  split at h
  · subst k
    rw [Bool.and_eq_true, Bool.and_eq_true, beq_iff_eq, decide_eq_true_eq] at h
    obtain ⟨h1, h2, h3⟩ := h
    exact .inr (.inr (.inr (.inr ⟨t, by omega, by rw [h1, posZ_zero w3 h2]⟩)))
  · cases h
theorem bitsF_bitsF (f : Nat) : bitsF (bitsF f) = bitsF f := by
  unfold bitsF
  cases h1 : isNan f
  · cases h2 : isZero f
    · simp only [cond_false]; rw [h1, h2]; rfl
    · exact (show bitsF 0 = 0 by decide +kernel)
  · exact (show bitsF 9221120237041090561 = 9221120237041090561 by decide +kernel)
theorem bitsF_lt {f : Nat} (h : f < 2 ^ 64) : bitsF f < 2 ^ 64 := by
  unfold bitsF
  cases isNan f <;> cases isZero f <;> simp <;> omega
theorem vRight3 (f : Nat) : vRight ⟨3, 0, f, E0⟩ = true := by
  show ((0 : Int) == 0 && empS E0) = true
  rw [show empS E0 = true from sEq_self E0]; rfl
theorem vP_float {f : Nat} (hf : f < 2 ^ 64) : vP ⟨3, 0, f, E0⟩ = ⟨3, 0, bitsF f, E0⟩ := by
  unfold vP vPlain
  rw [vRight3]
  simp only [Bool.not_true, cond_false, beq_self_eq_true, Bool.true_and]
  unfold bitsF
  cases hn : isNan f with
  | true =>
    rw [nan_not_zero hf hn]
    show vNan ⟨3, 0, f, E0⟩ = _
    unfold vNan fNan
    rw [hn]; rfl
  | false =>
    cases hz : isZero f with
    | true =>
      show vNan ⟨3, 0, 0, E0⟩ = ⟨3, 0, 0, E0⟩
      unfold vNan fNan
      rw [show isNan 0 = false by decide]; rfl
    | false =>
      show vNan ⟨3, 0, f, E0⟩ = ⟨3, 0, f, E0⟩
      unfold vNan fNan
      rw [hn]; rfl
theorem vP_other {v : api_Value} (h : vRight v = true) (hk : (v.fKind == 3) = false) : vP v = v := by
  unfold vP vPlain vNan
  rw [h, hk]
  simp only [Bool.not_true, cond_false, Bool.false_and]
  rw [hk]; rfl
theorem can_vP {v : api_Value} (hw : W_api_Value v) (h : vRight v = true) : CanV (vP v) := by
  rcases right_cases hw h with rfl | ⟨i, hi, rfl⟩ | ⟨i, hi, rfl⟩ | ⟨f, hf, rfl⟩ | ⟨t, ht, rfl⟩
  · rw [vP_other h rfl]; exact .inl rfl
  · rw [vP_other h rfl]; exact .inr (.inl ⟨i, hi, rfl⟩)
  · rw [vP_other h rfl]; exact .inr (.inr (.inl ⟨i, hi, rfl⟩))
  · rw [vP_float hf]; exact .inr (.inr (.inr (.inl ⟨_, bitsF_lt hf, bitsF_bitsF f, rfl⟩)))
  · rw [vP_other h rfl]; exact .inr (.inr (.inr (.inr ⟨t, ht, rfl⟩)))
theorem can_right {p : api_Value} (h : CanV p) : vRight p = true := by
  have e : posZ 0 = true := by decide +kernel
  have e2 : empS E0 = true := sEq_self E0
  rcases h with rfl | ⟨i, hi, rfl⟩ | ⟨i, hi, rfl⟩ | ⟨f, hf, hb, rfl⟩ | ⟨t, ht, rfl⟩
  · decide +kernel
  · rcases hi with rfl | rfl <;> decide +kernel
  · show (posZ 0 && empS E0) = true; rw [e, e2]; rfl
  · exact vRight3 f
  · show ((0 : Int) == 0 && (posZ 0 && decide ((t.size : Int) ≤ 64))) = true
    rw [e]; simp; omega
theorem vC_self (p : api_Value) : vC p p = 0 := by
  exact vC_ord.self p
theorem vCmp_vP {v : api_Value} (hw : W_api_Value v) (h : vRight v = true) : vCmp (vP v) v = 0 := by
  cases hk : v.fKind == 3 with
  | false => rw [vP_other h hk]; exact vC_self _
  | true =>
    rcases right_cases hw h with rfl | ⟨i, hi, rfl⟩ | ⟨i, hi, rfl⟩ | ⟨f, hf, rfl⟩ | ⟨t, ht, rfl⟩
    · cases hk
    · cases hk
    · cases hk
    · rw [vP_float hf]
      unfold bitsF
      cases hn : isNan f with
      | true =>
        rw [cond_true]
        have e : vPlain ⟨3, 0, 9221120237041090561, E0⟩ = ⟨3, 0, 9221120237041090561, E0⟩ := by
          unfold vPlain
          rw [vRight3]
          show (bif isZero 9221120237041090561 then _ else _) = _
          rw [show isZero 9221120237041090561 = false by decide +kernel]; rfl
        have e2 : vPlain ⟨3, 0, f, E0⟩ = ⟨3, 0, f, E0⟩ := by
          unfold vPlain
          rw [vRight3]
          show (bif isZero f then _ else _) = _
          rw [nan_not_zero hf hn]; rfl
        unfold vCmp
        rw [e, e2]
        show fC 9221120237041090561 f = 0
        rw [fC_nan (by decide +kernel), hn]; rfl
      | false =>
        cases hz : isZero f with
        | true =>
          have e2 : vPlain ⟨3, 0, f, E0⟩ = ⟨3, 0, 0, E0⟩ := by
            unfold vPlain
            rw [vRight3]
            show (bif isZero f then _ else _) = _
            rw [hz]; rfl
          have e : vPlain ⟨3, 0, 0, E0⟩ = ⟨3, 0, 0, E0⟩ := by
            unfold vPlain
            rw [vRight3]
            show (bif isZero 0 then (⟨3, 0, 0, E0⟩ : api_Value) else ⟨3, 0, 0, E0⟩) = _
            rw [show isZero 0 = true by decide +kernel]; rfl
          show vC (vPlain ⟨3, 0, 0, E0⟩) (vPlain ⟨3, 0, f, E0⟩) = 0
          rw [e, e2]
          exact vC_self _
        | false => exact vC_self _
    · cases hk
theorem lexC_zero : ∀ (l : List api_Value), (∀ v, v ∈ l → W_api_Value v ∧ vRight v = true) → lexC vCmp (l.map vP) l = 0
  | [], _ => rfl
  | v :: l, h => by
    simp only [List.map_cons, lexC]
    rw [vCmp_vP (h v (by simp)).1 (h v (by simp)).2, lexC_zero l fun w hw => h w (by simp [hw])]
    rfl
theorem can_W {p : api_Value} (h : CanV p) : W_api_Value p := by
  have i0 : wI .i64 0 := ⟨by decide, by decide⟩
  have f0 : wF .f64 0 := W_zeroV.2.2.1
  have s0 : wS E0 := W_zeroV.2.2.2
  have i1 : wI .i64 1 := ⟨by decide, by decide⟩
  have i2 : wI .i64 2 := ⟨by decide, by decide⟩
  have i3 : wI .i64 3 := ⟨by decide, by decide⟩
  have i4 : wI .i64 4 := ⟨by decide, by decide⟩
  rcases h with rfl | ⟨i, hi, rfl⟩ | ⟨i, hi, rfl⟩ | ⟨f, hf, hb, rfl⟩ | ⟨t, ht, rfl⟩
  · exact ⟨i0, i0, f0, s0⟩
  · exact ⟨i1, by rcases hi with rfl | rfl; exact i0; exact i1, f0, s0⟩
  · exact ⟨i2, hi, f0, s0⟩
  · exact ⟨i3, i0, by show (Lit.float .f64 f).wf = true; simp [Lit.wf]; omega, s0⟩
  · exact ⟨i4, i0, f0, by show t.size ≤ 1048576; omega⟩
end Go.Pl
