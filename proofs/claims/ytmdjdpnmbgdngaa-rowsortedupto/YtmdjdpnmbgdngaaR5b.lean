import Derived.Test.YtmdjdpnmbgdngaaR5a
set_option linter.unusedVariables false
set_option linter.unusedSimpArgs false
namespace Go.Pl
open Go Go.Ab

abbrev zeroV : api_Value := api_Value.mk 0 0 0 ByteArray.empty
theorem W_zeroV : W_api_Value zeroV := by
  refine ⟨⟨?_, ?_⟩, ⟨?_, ?_⟩, ?_, ?_⟩
  · show (-9223372036854775808 : Int) ≤ 0; decide
  · show (0 : Int) ≤ 9223372036854775807; decide
  · show (-9223372036854775808 : Int) ≤ 0; decide
  · show (0 : Int) ≤ 9223372036854775807; decide
  · show (Lit.float .f64 0).wf = true; decide
  · show (0 : Nat) ≤ 1048576; decide
/-! ### Floats -/
def fLt (x y : Nat) : Bool := FloatKind.f64.format.order x y == some .lt
def fGt (x y : Nat) : Bool := FloatKind.f64.format.order x y == some .gt
def fC (x y : Nat) : Int :=
  bif isNan x && isNan y then 0 else bif isNan x then 1 else bif isNan y then -1 else bif fLt x y then -1 else bif fGt x y then 1 else 0
theorem value_floats_ok (x y : Nat) {n : Nat} (h : 2 ≤ n) : value_floats n x y = some (fC x y) := by
  obtain ⟨n, rfl⟩ : ∃ k, n = k + 2 := ⟨n - 2, by omega⟩
  show (bif (isNan x && isNan y) then some 0 else bif isNan x then some 1 else bif isNan y then some (-1) else bif fLt x y then some (-1) else bif fGt x y then some 1 else some 0) = some (fC x y)
  unfold fC
  cases isNan x <;> cases isNan y <;> cases fLt x y <;> cases fGt x y <;> rfl
theorem fC_nan {x y : Nat} (hx : isNan x = true) : fC x y = bif isNan y then 0 else 1 := by
  unfold fC; rw [hx]; cases isNan y <;> rfl
theorem fC_nan' {x y : Nat} (hy : isNan y = true) : fC x y = bif isNan x then 0 else -1 := by
  unfold fC; rw [hy]; cases isNan x <;> rfl
/-- A float in its one form, each NaN like each other one. -/
def fNan (f : Nat) : Nat := bif isNan f then 9221120237041090561 else f
theorem isNan_fNan (f : Nat) : isNan (fNan f) = isNan f := by
  unfold fNan
  cases h : isNan f with
  | true => exact (show isNan 9221120237041090561 = true by decide)
  | false => exact h
theorem fC_fNan (x y : Nat) : fC (fNan x) (fNan y) = fC x y := by
  cases hx : isNan x with
  | true => rw [fC_nan (by rw [isNan_fNan, hx]), fC_nan hx, isNan_fNan]
  | false =>
    cases hy : isNan y with
    | true => rw [fC_nan' (by rw [isNan_fNan, hy]), fC_nan' hy, isNan_fNan]
    | false => unfold fNan; rw [hx, hy]; rfl
/-! ### Two values -/
def vPlain (v : api_Value) : api_Value :=
  bif !vRight v then zeroV else bif (v.fKind == 3) && isZero v.fFloat then api_Value.mk 3 0 0 ByteArray.empty else v
def iC (a b : Int) : Int := if a < b then -1 else if a > b then 1 else 0
def sC (a b : ByteArray) : Int := bif sLt a b then -1 else bif !(sLt a b || sEq a b) then 1 else 0
def vC (p q : api_Value) : Int := if p.fKind ≠ q.fKind then iC p.fKind q.fKind else if p.fKind = 3 then fC p.fFloat q.fFloat else if p.fKind = 4 then sC p.fText q.fText else iC p.fInt q.fInt
def vCmp (a b : api_Value) : Int := vC (vPlain a) (vPlain b)
/-- The program's: a NaN in its one form, too. -/
def vNan (p : api_Value) : api_Value := bif p.fKind == 3 then api_Value.mk p.fKind p.fInt (fNan p.fFloat) p.fText else p
theorem right3 {v : api_Value} (h : vRight v = true) (hk : v.fKind = 3) : v.fInt = 0 ∧ v.fText = ByteArray.empty := by
  unfold vRight at h
  rw [hk] at h
  simp at h
  exact ⟨h.1, sEq_iff.1 h.2⟩
theorem value_Plain_ok {v : api_Value} (hv : W_api_Value v) {n : Nat} (h : 3 ≤ n) : value_Plain n v = some (vNan (vPlain v)) := by
  obtain ⟨n, rfl⟩ : ∃ k, n = k + 2 := ⟨n - 2, by omega⟩
  unfold value_Plain
  rw [at1_succ, value_Right_ok v (by omega), Option.bind_some]
  unfold vPlain
  cases hr : vRight v with
  | false => rfl
  | true =>
    simp only [Bool.not_true, cond_false, withK]
    cases hk : v.fKind == 3 with
    | false =>
      simp only [cond_false, Bool.false_and]
      unfold vNan; rw [hk]; rfl
    | true =>
      have h3 : v.fKind = 3 := by simpa using hk
      obtain ⟨h1, h2⟩ := right3 hr h3
      simp only [cond_true, Bool.true_and]
      have e0 : math_IsNaN (n + 1) v.fFloat = some (isNan v.fFloat) := rfl
      rw [e0, Option.bind_some]
      have e1 : ((FloatKind.format .f64).order v.fFloat 0 == some .eq) = isZero v.fFloat := rfl
      rw [e1]
      cases hn : isNan v.fFloat with
      | true =>
        rw [nan_not_zero (wF_lt hv.2.2.1) hn]
        simp only [cond_true, cond_false]
        unfold vNan
        rw [hk, cond_true]
        unfold fNan
        rw [hn]; rfl
      | false =>
        cases hz : isZero v.fFloat with
        | true =>
          simp only [cond_true, cond_false]
          rw [h3, h1, h2]
          rfl
        | false =>
          simp only [cond_false]
          unfold vNan fNan
          rw [hk, hn]; rfl
theorem vNan_kind (p : api_Value) : (vNan p).fKind = p.fKind := by unfold vNan; cases p.fKind == 3 <;> rfl
theorem vNan_int (p : api_Value) : (vNan p).fInt = p.fInt := by unfold vNan; cases p.fKind == 3 <;> rfl
theorem vNan_text (p : api_Value) : (vNan p).fText = p.fText := by unfold vNan; cases p.fKind == 3 <;> rfl
theorem vNan_float {p : api_Value} (h : p.fKind = 3) : (vNan p).fFloat = fNan p.fFloat := by unfold vNan; rw [h]; rfl
theorem cmp_int_ok (a b : Int) {n : Nat} (h : 2 ≤ n) : cmp_Compare_int n a b = some (iC a b) := by
  obtain ⟨n, rfl⟩ : ∃ k, n = k + 2 := ⟨n - 2, by omega⟩
  unfold cmp_Compare_int cmp_isNaN_int
  simp only [at1_succ, Option.bind_some, bne_self_eq_false, cond_false]
  unfold iC
  by_cases h1 : a < b
  · simp [h1]
  · by_cases h2 : b < a <;> simp [h1, h2]
theorem cmp_int64_ok (a b : Int) {n : Nat} (h : 2 ≤ n) : cmp_Compare_int64 n a b = some (iC a b) := by
  obtain ⟨n, rfl⟩ : ∃ k, n = k + 2 := ⟨n - 2, by omega⟩
  unfold cmp_Compare_int64 cmp_isNaN_int64
  simp only [at1_succ, Option.bind_some, bne_self_eq_false, cond_false]
  unfold iC
  by_cases h1 : a < b
  · simp [h1]
  · by_cases h2 : b < a <;> simp [h1, h2]
theorem cmp_string_ok (a b : ByteArray) {n : Nat} (h : 2 ≤ n) : cmp_Compare_string n a b = some (sC a b) := by
  obtain ⟨n, rfl⟩ : ∃ k, n = k + 2 := ⟨n - 2, by omega⟩
  unfold cmp_Compare_string cmp_isNaN_string
  simp only [at1_succ, Option.bind_some, sEq_self, Bool.not_true, cond_false]
  unfold sC
  cases sLt a b <;> cases sEq a b <;> rfl
theorem kne {α : Type} {a b : Int} {x y : α} : (bif a != b then x else y) = if a ≠ b then x else y := by
  by_cases h : a = b
  · simp [h]
  · have : (a != b) = true := by simpa using h
    rw [this]; simp [h]
theorem some_ite {α : Type} {p : Prop} [Decidable p] {x y : α} : (if p then some x else some y) = some (if p then x else y) := by split <;> rfl
theorem value_Cmp_ok {a b : api_Value} (ha : W_api_Value a) (hb : W_api_Value b) {n : Nat} (h : 4 ≤ n) : value_Cmp n a b = some (vCmp a b) := by
  obtain ⟨n, rfl⟩ : ∃ k, n = k + 1 := ⟨n - 1, by omega⟩
  unfold value_Cmp
  rw [at1_succ, value_Plain_ok ha (by omega), Option.bind_some, value_Plain_ok hb (by omega), Option.bind_some, cmp_int_ok _ _ (by omega), value_floats_ok _ _ (by omega), cmp_string_ok _ _ (by omega), cmp_int64_ok _ _ (by omega)]
  simp only [Option.bind_some, kne, kcond, some_ite, vNan_kind, vNan_int, vNan_text]
  unfold vCmp vC
  congr 1
  by_cases hk : (vPlain a).fKind = (vPlain b).fKind
  · have hk' : ¬ ((vPlain a).fKind ≠ (vPlain b).fKind) := fun c => c hk
    rw [if_neg hk', if_neg hk']
    by_cases h3 : (vPlain a).fKind = 3
    · rw [if_pos h3, if_pos h3, vNan_float h3, vNan_float (hk ▸ h3), fC_fNan]
    · rw [if_neg h3, if_neg h3]
  · rw [if_pos hk, if_pos hk]
end Go.Pl
