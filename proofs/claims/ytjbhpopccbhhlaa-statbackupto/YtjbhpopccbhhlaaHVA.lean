import Derived.Test.YtjbhpopccbhhlaaPL
import Derived.Test.YtjbhpopccbhhlaaPA
import Derived.Test.YtjbhpopccbhhlaaAbFlt
import Derived.Sort.Statements
set_option linter.unusedVariables false
set_option linter.unusedSimpArgs false
namespace Go.Pl
open Go Go.Ab
/-! ### Values -/
theorem wF_lt {f : Nat} (h : wF .f64 f) : f < 2 ^ 64 := by
  unfold wF at h
  simpa [Lit.wf] using h
def posZ (f : Nat) : Bool := isZero f && !signb f
def empS (s : ByteArray) : Bool := sEq s ByteArray.empty
def vRight (v : api_Value) : Bool :=
  if v.fKind = 0 then v.fInt == 0 && (posZ v.fFloat && empS v.fText)
  else if v.fKind = 1 then (v.fInt == 0 || v.fInt == 1) && (posZ v.fFloat && empS v.fText)
  else if v.fKind = 2 then posZ v.fFloat && empS v.fText
  else if v.fKind = 3 then v.fInt == 0 && empS v.fText
  else if v.fKind = 4 then v.fInt == 0 && (posZ v.fFloat && decide ((v.fText.size : Int) ≤ 64))
  else false
theorem math_Signbit_ok (f : Nat) {n : Nat} (h : 1 ≤ n) : math_Signbit n f = some (signb f) := by
  obtain ⟨n, rfl⟩ : ∃ k, n = k + 1 := ⟨n - 1, by omega⟩
  rfl
theorem kcond {α : Type} {a b : Int} {x y : α} : (bif a == b then x else y) = if a = b then x else y := by
  by_cases h : a = b
  · simp [h]
  · have : (a == b) = false := by simpa using h
    rw [this]; simp [h]
def vR (y : Bool) (v : api_Value) : Bool :=
  if v.fKind = 0 then v.fInt == 0 && (y && empS v.fText)
  else if v.fKind = 1 then (v.fInt == 0 || v.fInt == 1) && (y && empS v.fText)
  else if v.fKind = 2 then y && empS v.fText
  else if v.fKind = 3 then v.fInt == 0 && empS v.fText
  else if v.fKind = 4 then v.fInt == 0 && (y && decide ((v.fText.size : Int) ≤ 64))
  else false
theorem vR_aux (y : Bool) (v : api_Value) : (bif (v.fKind == 0) then some (((v.fInt == 0) && y) && (sEq v.fText ByteArray.empty)) else bif (v.fKind == 1) then bif ((v.fInt != 0) && (v.fInt != 1)) then some false else some (y && (sEq v.fText ByteArray.empty)) else bif (v.fKind == 2) then some (y && (sEq v.fText ByteArray.empty)) else bif (v.fKind == 3) then some ((v.fInt == 0) && (sEq v.fText ByteArray.empty)) else bif (v.fKind == 4) then some (((v.fInt == 0) && y) && (decide ((v.fText.size : Int) ≤ 64))) else some false) = some (vR y v) := by
  simp only [kcond]
  unfold vR
  split
  · simp [empS, Bool.and_assoc]
  · split
    · unfold empS
      by_cases h0 : v.fInt = 0
      · simp [h0]
      · by_cases h1 : v.fInt = 1
        · simp [h1]
        · have e0 : (v.fInt == 0) = false := by simpa using h0
          have e1 : (v.fInt == 1) = false := by simpa using h1
          have e2 : (v.fInt != 0) = true := by simp [bne, e0]
          have e3 : (v.fInt != 1) = true := by simp [bne, e1]
          rw [e0, e1, e2, e3]; simp
    · split
      · rfl
      · split
        · rfl
        · split
          · simp [Bool.and_assoc]
          · rfl
theorem value_Right_ok (v : api_Value) {n : Nat} (h : 2 ≤ n) : value_Right n v = some (vRight v) := by
  obtain ⟨n, rfl⟩ : ∃ k, n = k + 1 := ⟨n - 1, by omega⟩
  unfold value_Right
  simp only [at1_succ, withK]
  rw [math_Signbit_ok _ (by omega)]
  simp only [Option.bind_some]
  rw [vR_aux, vR_aux]
  show _ = some (vR (posZ v.fFloat) v)
  unfold posZ isZero
  cases FloatKind.f64.format.order v.fFloat 0 == some .eq <;> rfl
theorem ref04_zero_ok {f : Nat} (hf : wF .f64 f) {n : Nat} (h : 1 ≤ n) : ref04_zero n f = some (posZ f) := by
  obtain ⟨n, rfl⟩ : ∃ k, n = k + 1 := ⟨n - 1, by omega⟩
  unfold ref04_zero
  simp only [at1_succ]
  unfold posZ
  cases hz : isZero f with
  | false =>
    have : ((FloatKind.format .f64).order f 0 == some .eq) = false := hz
    rw [this]; rfl
  | true =>
    have : ((FloatKind.format .f64).order f 0 == some .eq) = true := hz
    rw [this]
    obtain ⟨r, h1, h2⟩ := inv_zero (wF_lt hf) hz
    rw [cond_true, h1, Option.bind_some, h2]
    simp
/-! ### Rows -/
end Go.Pl

set_option linter.unusedVariables false
set_option linter.unusedSimpArgs false
namespace Go.Pl
open Go Go.Ab

abbrev zeroV : api_Value := api_Value.mk 0 0 0 ByteArray.empty
theorem W_zeroV : W_api_Value zeroV := by
  refine ⟨⟨?_, ?_⟩, ⟨?_, ?_⟩, ?_, ?_⟩
  · show (-9223372036854775808 : Int) ≤ 0; decide
  · show (0 : Int) ≤ 9223372036854775807; decide
  · show (-9223372036854775808 : Int) ≤ 0; decide
  · show (0 : Int) ≤ 9223372036854775807; decide
  · show (Lit.float .f64 0).wf = true; decide
  · show (0 : Nat) ≤ 1048576; decide
/-! ### Floats -/
def fLt (x y : Nat) : Bool := FloatKind.f64.format.order x y == some .lt
def fGt (x y : Nat) : Bool := FloatKind.f64.format.order x y == some .gt
def fC (x y : Nat) : Int :=
  bif isNan x && isNan y then 0 else bif isNan x then 1 else bif isNan y then -1 else bif fLt x y then -1 else bif fGt x y then 1 else 0
theorem value_floats_ok (x y : Nat) {n : Nat} (h : 2 ≤ n) : value_floats n x y = some (fC x y) := by
  obtain ⟨n, rfl⟩ : ∃ k, n = k + 2 := ⟨n - 2, by omega⟩
  show (bif (isNan x && isNan y) then some 0 else bif isNan x then some 1 else bif isNan y then some (-1) else bif fLt x y then some (-1) else bif fGt x y then some 1 else some 0) = some (fC x y)
  unfold fC
  cases isNan x <;> cases isNan y <;> cases fLt x y <;> cases fGt x y <;> rfl
theorem fC_nan {x y : Nat} (hx : isNan x = true) : fC x y = bif isNan y then 0 else 1 := by
  unfold fC; rw [hx]; cases isNan y <;> rfl
theorem fC_nan' {x y : Nat} (hy : isNan y = true) : fC x y = bif isNan x then 0 else -1 := by
  unfold fC; rw [hy]; cases isNan x <;> rfl
/-- A float in its one form, each NaN like each other one. -/
def fNan (f : Nat) : Nat := bif isNan f then 9221120237041090561 else f
theorem isNan_fNan (f : Nat) : isNan (fNan f) = isNan f := by
  unfold fNan
  cases h : isNan f with
  | true => exact (show isNan 9221120237041090561 = true by decide)
  | false => exact h
theorem fC_fNan (x y : Nat) : fC (fNan x) (fNan y) = fC x y := by
  cases hx : isNan x with
  | true => rw [fC_nan (by rw [isNan_fNan, hx]), fC_nan hx, isNan_fNan]
  | false =>
    cases hy : isNan y with
    | true => rw [fC_nan' (by rw [isNan_fNan, hy]), fC_nan' hy, isNan_fNan]
    | false => unfold fNan; rw [hx, hy]; rfl
/-! ### Two values -/
def vPlain (v : api_Value) : api_Value :=
  bif !vRight v then zeroV else bif (v.fKind == 3) && isZero v.fFloat then api_Value.mk 3 0 0 ByteArray.empty else v
def iC (a b : Int) : Int := if a < b then -1 else if a > b then 1 else 0
def sC (a b : ByteArray) : Int := bif sLt a b then -1 else bif !(sLt a b || sEq a b) then 1 else 0
def vC (p q : api_Value) : Int := if p.fKind ≠ q.fKind then iC p.fKind q.fKind else if p.fKind = 3 then fC p.fFloat q.fFloat else if p.fKind = 4 then sC p.fText q.fText else iC p.fInt q.fInt
def vCmp (a b : api_Value) : Int := vC (vPlain a) (vPlain b)
/-- The program's: a NaN in its one form, too. -/
def vNan (p : api_Value) : api_Value := bif p.fKind == 3 then api_Value.mk p.fKind p.fInt (fNan p.fFloat) p.fText else p
theorem right3 {v : api_Value} (h : vRight v = true) (hk : v.fKind = 3) : v.fInt = 0 ∧ v.fText = ByteArray.empty := by
  unfold vRight at h
  rw [hk] at h
  simp at h
  exact ⟨h.1, sEq_iff.1 h.2⟩
theorem value_Plain_ok {v : api_Value} (hv : W_api_Value v) {n : Nat} (h : 3 ≤ n) : value_Plain n v = some (vNan (vPlain v)) := by
  obtain ⟨n, rfl⟩ : ∃ k, n = k + 2 := ⟨n - 2, by omega⟩
  unfold value_Plain
  rw [at1_succ, value_Right_ok v (by omega), Option.bind_some]
  unfold vPlain
  cases hr : vRight v with
  | false => rfl
  | true =>
    simp only [Bool.not_true, cond_false, withK]
    cases hk : v.fKind == 3 with
    | false =>
      simp only [cond_false, Bool.false_and]
      unfold vNan; rw [hk]; rfl
    | true =>
      have h3 : v.fKind = 3 := by simpa using hk
      obtain ⟨h1, h2⟩ := right3 hr h3
      simp only [cond_true, Bool.true_and]
      have e0 : math_IsNaN (n + 1) v.fFloat = some (isNan v.fFloat) := rfl
      rw [e0, Option.bind_some]
      have e1 : ((FloatKind.format .f64).order v.fFloat 0 == some .eq) = isZero v.fFloat := rfl
      rw [e1]
      cases hn : isNan v.fFloat with
      | true =>
        rw [nan_not_zero (wF_lt hv.2.2.1) hn]
        simp only [cond_true, cond_false]
        unfold vNan
        rw [hk, cond_true]
        unfold fNan
        rw [hn]; rfl
      | false =>
        cases hz : isZero v.fFloat with
        | true =>
          simp only [cond_true, cond_false]
          rw [h3, h1, h2]
          rfl
        | false =>
          simp only [cond_false]
          unfold vNan fNan
          rw [hk, hn]; rfl
theorem vNan_kind (p : api_Value) : (vNan p).fKind = p.fKind := by unfold vNan; cases p.fKind == 3 <;> rfl
theorem vNan_int (p : api_Value) : (vNan p).fInt = p.fInt := by unfold vNan; cases p.fKind == 3 <;> rfl
theorem vNan_text (p : api_Value) : (vNan p).fText = p.fText := by unfold vNan; cases p.fKind == 3 <;> rfl
theorem vNan_float {p : api_Value} (h : p.fKind = 3) : (vNan p).fFloat = fNan p.fFloat := by unfold vNan; rw [h]; rfl
theorem cmp_int_ok (a b : Int) {n : Nat} (h : 2 ≤ n) : cmp_Compare_int n a b = some (iC a b) := by
  obtain ⟨n, rfl⟩ : ∃ k, n = k + 2 := ⟨n - 2, by omega⟩
  unfold cmp_Compare_int cmp_isNaN_int
  simp only [at1_succ, Option.bind_some, bne_self_eq_false, cond_false]
  unfold iC
  by_cases h1 : a < b
  · simp [h1]
  · by_cases h2 : b < a <;> simp [h1, h2]
theorem cmp_int64_ok (a b : Int) {n : Nat} (h : 2 ≤ n) : cmp_Compare_int64 n a b = some (iC a b) := by
  obtain ⟨n, rfl⟩ : ∃ k, n = k + 2 := ⟨n - 2, by omega⟩
  unfold cmp_Compare_int64 cmp_isNaN_int64
  simp only [at1_succ, Option.bind_some, bne_self_eq_false, cond_false]
  unfold iC
  by_cases h1 : a < b
  · simp [h1]
  · by_cases h2 : b < a <;> simp [h1, h2]
theorem cmp_string_ok (a b : ByteArray) {n : Nat} (h : 2 ≤ n) : cmp_Compare_string n a b = some (sC a b) := by
  obtain ⟨n, rfl⟩ : ∃ k, n = k + 2 := ⟨n - 2, by omega⟩
  unfold cmp_Compare_string cmp_isNaN_string
  simp only [at1_succ, Option.bind_some, sEq_self, Bool.not_true, cond_false]
  unfold sC
  cases sLt a b <;> cases sEq a b <;> rfl
theorem kne {α : Type} {a b : Int} {x y : α} : (bif a != b then x else y) = if a ≠ b then x else y := by
  by_cases h : a = b
  · simp [h]
  · have : (a != b) = true := by simpa using h
    rw [this]; simp [h]
theorem some_ite {α : Type} {p : Prop} [Decidable p] {x y : α} : (if p then some x else some y) = some (if p then x else y) := by split <;> rfl
theorem value_Cmp_ok {a b : api_Value} (ha : W_api_Value a) (hb : W_api_Value b) {n : Nat} (h : 4 ≤ n) : value_Cmp n a b = some (vCmp a b) := by
  obtain ⟨n, rfl⟩ : ∃ k, n = k + 1 := ⟨n - 1, by omega⟩
  unfold value_Cmp
  rw [at1_succ, value_Plain_ok ha (by omega), Option.bind_some, value_Plain_ok hb (by omega), Option.bind_some, cmp_int_ok _ _ (by omega), value_floats_ok _ _ (by omega), cmp_string_ok _ _ (by omega), cmp_int64_ok _ _ (by omega)]
  simp only [Option.bind_some, kne, kcond, some_ite, vNan_kind, vNan_int, vNan_text]
  unfold vCmp vC
  congr 1
  by_cases hk : (vPlain a).fKind = (vPlain b).fKind
  · have hk' : ¬ ((vPlain a).fKind ≠ (vPlain b).fKind) := fun c => c hk
    rw [if_neg hk', if_neg hk']
    by_cases h3 : (vPlain a).fKind = 3
    · rw [if_pos h3, if_pos h3, vNan_float h3, vNan_float (hk ▸ h3), fC_fNan]
    · rw [if_neg h3, if_neg h3]
  · rw [if_pos hk, if_pos hk]
end Go.Pl

set_option linter.unusedVariables false
set_option linter.unusedSimpArgs false
namespace Go.Pl
open Go Go.Ab

/-! ### Two lists -/
/-! ### By an order -/
/-! ### May a row be? -/
/-! ### Too great? -/
end Go.Pl

set_option linter.unusedVariables false
set_option linter.unusedSimpArgs false
namespace Go.Pl
open Go Go.Ab
/-! ### Orders of three answers -/
structure Ord3 {α : Type} (c : α → α → Int) : Prop where
  anti : ∀ x y, c y x = -c x y
  trans : ∀ x y z, c x y ≤ 0 → c y z ≤ 0 → c x z ≤ 0
theorem Ord3.self {α : Type} {c : α → α → Int} (h : Ord3 c) (x : α) : c x x = 0 := by have := h.anti x x; omega
/-- Alike on the left. -/
theorem Ord3.left {α : Type} {c : α → α → Int} (h : Ord3 c) {x y z : α} (e : c x y = 0) : (c x z ≤ 0 ↔ c y z ≤ 0) ∧ (0 ≤ c x z ↔ 0 ≤ c y z) := by
  have a1 := h.anti x y
  have a2 := h.anti x z
  have a3 := h.anti y z
  refine ⟨⟨fun g => h.trans y x z (by omega) g, fun g => h.trans x y z (by omega) g⟩, ⟨fun g => ?_, fun g => ?_⟩⟩
  · have := h.trans z x y (by omega) (by omega); omega
  · have := h.trans z y x (by omega) (by omega); omega
theorem iC_ord : Ord3 iC where
  anti x y := by unfold iC; repeat' split
                 all_goals omega
  trans x y z := by unfold iC; intro h1 h2; repeat' split
                    all_goals (repeat' split at h1) <;> (repeat' split at h2) <;> omega
end Go.Pl

set_option linter.unusedVariables false
set_option linter.unusedSimpArgs false
namespace Go.Pl
open Go Go.Ab
theorem less_irr : ∀ (l : List UInt8), Op.bytesLess l l = false
  | [] => rfl
  | a :: l => by
    have h : ¬ (a < a) := fun h => absurd (UInt8.lt_iff_toNat_lt.1 h) (by omega)
    simp [Op.bytesLess, less_irr l, h]
/-- Two texts' bytes, by one of three. -/
theorem less_tri : ∀ (a b : List UInt8), (Op.bytesLess a b = true ∧ Op.bytesLess b a = false ∧ a ≠ b) ∨ (Op.bytesLess a b = false ∧ Op.bytesLess b a = true ∧ a ≠ b) ∨ a = b
  | [], [] => .inr (.inr rfl)
  | [], y :: b => .inl ⟨rfl, rfl, by simp⟩
  | x :: a, [] => .inr (.inl ⟨rfl, rfl, by simp⟩)
  | x :: a, y :: b => by
    simp only [Op.bytesLess, Bool.or_eq_true, Bool.and_eq_true, decide_eq_true_eq, Bool.or_eq_false_iff, decide_eq_false_iff_not, Bool.and_eq_false_iff, beq_iff_eq, beq_eq_false_iff_ne, UInt8.lt_iff_toNat_lt]
    rcases Nat.lt_trichotomy x.toNat y.toNat with h | h | h
    · exact .inl ⟨.inl h, ⟨by omega, .inl fun e => by rw [e] at h; omega⟩, fun e => by cases e; omega⟩
    · have e : x = y := UInt8.toNat_inj.1 h
      subst e
      rcases less_tri a b with ⟨h1, h2, h3⟩ | ⟨h1, h2, h3⟩ | h1
      · exact .inl ⟨.inr ⟨rfl, h1⟩, ⟨by omega, .inr h2⟩, fun e => h3 (by cases e; rfl)⟩
      · exact .inr (.inl ⟨⟨by omega, .inr h1⟩, .inr ⟨rfl, h2⟩, fun e => h3 (by cases e; rfl)⟩)
      · exact .inr (.inr (by rw [h1]))
    · exact .inr (.inl ⟨⟨by omega, .inl fun e => by rw [e] at h; omega⟩, .inl h, fun e => by cases e; omega⟩)
theorem less_trans : ∀ (a b d : List UInt8), Op.bytesLess a b = true → Op.bytesLess b d = true → Op.bytesLess a d = true
  | _, [], _, h, _ => by simp [Op.bytesLess] at h
  | _, _ :: _, [], _, h => by simp [Op.bytesLess] at h
  | [], _ :: _, _ :: _, _, _ => rfl
  | x :: a, y :: b, z :: d, h1, h2 => by
    simp only [Op.bytesLess, Bool.or_eq_true, Bool.and_eq_true, decide_eq_true_eq, beq_iff_eq, UInt8.lt_iff_toNat_lt] at h1 h2 ⊢
    rcases h1 with h1 | ⟨rfl, h1⟩
    · rcases h2 with h2 | ⟨rfl, h2⟩
      · left; omega
      · left; omega
    · rcases h2 with h2 | ⟨rfl, h2⟩
      · left; omega
      · exact .inr ⟨rfl, less_trans a b d h1 h2⟩
def lC (a b : List UInt8) : Int := bif Op.bytesLess a b then -1 else bif !(Op.bytesLess a b || a == b) then 1 else 0
theorem lC_val (a b : List UInt8) : (lC a b = -1 ∧ Op.bytesLess a b = true) ∨ (lC a b = 1 ∧ Op.bytesLess b a = true) ∨ (lC a b = 0 ∧ a = b) := by
  rcases less_tri a b with ⟨h1, h2, h3⟩ | ⟨h1, h2, h3⟩ | h1
  · exact .inl ⟨by unfold lC; rw [h1]; rfl, h1⟩
  · exact .inr (.inl ⟨by unfold lC; rw [h1, beq_false_of_ne h3]; rfl, h2⟩)
  · subst h1
    exact .inr (.inr ⟨by unfold lC; rw [less_irr, beq_self_eq_true]; rfl, rfl⟩)
theorem lC_ord : Ord3 lC where
  anti a b := by
    rcases less_tri a b with ⟨h1, h2, h3⟩ | ⟨h1, h2, h3⟩ | h1
    · unfold lC; rw [h1, h2, beq_false_of_ne (Ne.symm h3)]; rfl
    · unfold lC; rw [h1, h2, beq_false_of_ne h3]; rfl
    · subst h1; unfold lC; rw [less_irr, beq_self_eq_true]; rfl
  trans a b d h1 h2 := by
    rcases lC_val a b with ⟨e1, q1⟩ | ⟨e1, q1⟩ | ⟨e1, q1⟩
    · rcases lC_val b d with ⟨e2, q2⟩ | ⟨e2, q2⟩ | ⟨e2, q2⟩
      · have := less_trans a b d q1 q2
        unfold lC; rw [this]; exact (show (-1 : Int) ≤ 0 by decide)
      · omega
      · subst q2; exact h1
    · omega
    · subst q1; exact h2
theorem sC_ord : Ord3 sC := ⟨fun x y => lC_ord.anti x.toList y.toList, fun x y z => lC_ord.trans x.toList y.toList z.toList⟩
end Go.Pl

set_option linter.unusedVariables false
set_option linter.unusedSimpArgs false
namespace Go.Pl
open Go Go.Ab
/-- By a number first, then by an order of each number's own. -/
def lexK {α : Type} (key : α → Int) (c : Int → α → α → Int) (x y : α) : Int := if key x ≠ key y then iC (key x) (key y) else c (key x) x y
theorem iC_cases (a b : Int) : (a < b ∧ iC a b = -1) ∨ (a = b ∧ iC a b = 0) ∨ (b < a ∧ iC a b = 1) := by
  unfold iC
  by_cases h1 : a < b
  · exact .inl ⟨h1, if_pos h1⟩
  · by_cases h2 : a > b
    · exact .inr (.inr ⟨h2, by rw [if_neg h1, if_pos h2]⟩)
    · exact .inr (.inl ⟨by omega, by rw [if_neg h1, if_neg h2]⟩)
theorem lexK_ord {α : Type} {key : α → Int} {c : Int → α → α → Int} (h : ∀ k, Ord3 (c k)) : Ord3 (lexK key c) where
  anti x y := by
    unfold lexK
    by_cases e : key x = key y
    · rw [if_neg (by omega), if_neg (by omega), ← e]; exact (h _).anti x y
    · rw [if_pos (by omega), if_pos e]; exact iC_ord.anti _ _
  trans x y z := by
    unfold lexK
    intro h1 h2
    by_cases e1 : key x = key y
    · rw [if_neg (by omega)] at h1
      by_cases e2 : key y = key z
      · rw [if_neg (by omega)] at h2
        rw [if_neg (by omega)]
        exact (h _).trans x y z h1 (by rw [e1]; exact h2)
      · rw [if_pos e2] at h2
        rw [if_pos (by omega), e1]; exact h2
    · rw [if_pos e1] at h1
      by_cases e2 : key y = key z
      · rw [if_pos (by omega), ← e2]; exact h1
      · rw [if_pos e2] at h2
        have a1 := iC_cases (key x) (key y)
        have a2 := iC_cases (key y) (key z)
        have a3 := iC_cases (key x) (key z)
        rw [if_pos (by omega)]
        omega
theorem ord_map {α β : Type} {c : β → β → Int} (h : Ord3 c) (f : α → β) : Ord3 fun x y => c (f x) (f y) := ⟨fun x y => h.anti _ _, fun x y z => h.trans _ _ _⟩
/-! ### Floats -/
theorem rd_nan {x : Nat} : isNan x = (match FloatKind.f64.format.read x with | .nan .. => true | _ => false) := by
  unfold isNan
  simp only [Ieee.Format.order]
  cases FloatKind.f64.format.read x with
  | nan => rfl
  | infinity s => cases s <;> rfl
  | number s m e => simp [Ieee.Datum.order]
def dR : Ieee.Datum → Int
  | .nan .. => 2
  | .infinity s => if s then -1 else 1
  | .number .. => 0
def dE : Ieee.Datum → Int
  | .number _ _ i => i
  | _ => 0
def dV (B : Int) : Ieee.Datum → Int
  | .number s m i => Ieee.signed s m (i - B).toNat
  | _ => 0
def kC (B : Int) : Ieee.Datum → Ieee.Datum → Int := lexK dR fun _ x y => iC (dV B x) (dV B y)
theorem kC_ord (B : Int) : Ord3 (kC B) := lexK_ord fun _ => ord_map iC_ord (dV B)
theorem signed_add (s : Bool) (m a k : Nat) : Ieee.signed s m (a + k) = Ieee.signed s m a * ((2 ^ k : Nat) : Int) := by
  unfold Ieee.signed
  rw [Nat.shiftLeft_eq, Nat.shiftLeft_eq, Nat.pow_add, ← Nat.mul_assoc]
  cases s
  · simp only [Bool.false_eq_true, if_false]; rw [Int.natCast_mul]
  · simp only [if_true]; rw [Int.natCast_mul, Int.neg_mul]
theorem iC_scale (a b : Int) {q : Nat} (h : 0 < q) : iC (a * (q : Int)) (b * (q : Int)) = iC a b := by
  have hq : (0 : Int) < (q : Int) := by omega
  rcases iC_cases a b with ⟨h1, h2⟩ | ⟨h1, h2⟩ | ⟨h1, h2⟩
  · rw [h2]
    have := Int.mul_lt_mul_of_pos_right h1 hq
    unfold iC; rw [if_pos this]
  · subst h1; rw [h2]; unfold iC; rw [if_neg (by omega), if_neg (by omega)]
  · rw [h2]
    have := Int.mul_lt_mul_of_pos_right h1 hq
    unfold iC; rw [if_neg (by omega), if_pos this]
theorem kC_base {B B' : Int} (x y : Ieee.Datum) (h : B ≤ B') (hx : dR x = 0 → B' ≤ dE x) (hy : dR y = 0 → B' ≤ dE y) : kC B x y = kC B' x y := by
  unfold kC lexK
  by_cases e : dR x = dR y
  · rw [if_neg (by omega), if_neg (by omega)]
    cases x with
    | number s m i =>
      cases y with
      | number t n j =>
        have h1 : B' ≤ i := hx rfl
        have h2 : B' ≤ j := hy rfl
        simp only [dV]
        rw [show (i - B).toNat = (i - B').toNat + (B' - B).toNat by omega, show (j - B).toNat = (j - B').toNat + (B' - B).toNat by omega, signed_add, signed_add, iC_scale _ _ (Nat.pow_pos (by decide))]
      | nan => simp [dR] at e
      | infinity t => exfalso; revert e; cases t <;> simp [dR]
    | nan => cases y with
      | number t n j => simp [dR] at e
      | nan => rfl
      | infinity t => rfl
    | infinity s => cases y with
      | number t n j => exfalso; revert e; cases s <;> simp [dR]
      | nan => rfl
      | infinity t => rfl
  · rw [if_pos e, if_pos e]
theorem cmp_iC (a b : Int) : (compare a b == .lt) = decide (a < b) ∧ (compare a b == .gt) = decide (a > b) := by
  rcases iC_cases a b with ⟨h1, _⟩ | ⟨h1, _⟩ | ⟨h1, _⟩
  · have : compare a b = .lt := Int.compare_eq_lt.2 h1
    rw [this, dT' h1, dF' (by omega)]; exact ⟨rfl, rfl⟩
  · have : compare a b = .eq := Int.compare_eq_eq.2 h1
    rw [this, dF' (by omega), dF' (by omega)]; exact ⟨rfl, rfl⟩
  · have : compare a b = .gt := Int.compare_eq_gt.2 h1
    rw [this, dF' (by omega), dT' h1]; exact ⟨rfl, rfl⟩
where
  dT' {p : Prop} [Decidable p] (h : p) : decide p = true := decide_eq_true h
  dF' {p : Prop} [Decidable p] (h : ¬ p) : decide p = false := decide_eq_false h
theorem fC_key (x y : Nat) : fC x y = kC (min (dE (FloatKind.f64.format.read x)) (dE (FloatKind.f64.format.read y))) (FloatKind.f64.format.read x) (FloatKind.f64.format.read y) := by
  unfold fC fLt fGt
  rw [rd_nan, rd_nan]
  simp only [Ieee.Format.order]
  cases FloatKind.f64.format.read x with
  | nan => cases FloatKind.f64.format.read y with
    | nan => rfl
    | infinity t => cases t <;> rfl
    | number t n j => rfl
  | infinity s => cases FloatKind.f64.format.read y with
    | nan => cases s <;> rfl
    | infinity t => cases s <;> cases t <;> rfl
    | number t n j => cases s <;> rfl
  | number s m i => cases FloatKind.f64.format.read y with
    | nan => rfl
    | infinity t => cases t <;> rfl
    | number t n j =>
      simp only [Ieee.Datum.order, kC, lexK, dR, dE, dV, ne_eq, not_true_eq_false, if_false, Bool.and_false, cond_false]
      have e1 := cmp_iC (Ieee.signed s m (i - min i j).toNat) (Ieee.signed t n (j - min i j).toNat)
      rw [show (some (compare (Ieee.signed s m (i - min i j).toNat) (Ieee.signed t n (j - min i j).toNat)) == some Ordering.lt) = (compare (Ieee.signed s m (i - min i j).toNat) (Ieee.signed t n (j - min i j).toNat) == Ordering.lt) from rfl, show (some (compare (Ieee.signed s m (i - min i j).toNat) (Ieee.signed t n (j - min i j).toNat)) == some Ordering.gt) = (compare (Ieee.signed s m (i - min i j).toNat) (Ieee.signed t n (j - min i j).toNat) == Ordering.gt) from rfl, e1.1, e1.2]
      unfold iC
      generalize Ieee.signed s m (i - min i j).toNat = a
      generalize Ieee.signed t n (j - min i j).toNat = b
      by_cases h1 : a < b
      · rw [if_pos h1, decide_eq_true h1]; rfl
      · rw [if_neg h1, decide_eq_false h1, cond_false]
        by_cases h2 : a > b
        · rw [if_pos h2, decide_eq_true h2]; rfl
        · rw [if_neg h2, decide_eq_false h2]; rfl
theorem fC_at {B : Int} {x y : Nat} (hx : B ≤ dE (FloatKind.f64.format.read x)) (hy : B ≤ dE (FloatKind.f64.format.read y)) : fC x y = kC B (FloatKind.f64.format.read x) (FloatKind.f64.format.read y) := by
  rw [fC_key]
  exact (kC_base _ _ (by omega) (fun _ => by omega) (fun _ => by omega)).symm
theorem fC_ord : Ord3 fC where
  anti x y := by
    rw [fC_at (B := min (dE (FloatKind.f64.format.read x)) (dE (FloatKind.f64.format.read y))) (x := y) (y := x) (by omega) (by omega), fC_key]
    exact (kC_ord _).anti _ _
  trans x y z := by
    rw [fC_at (B := min (min (dE (FloatKind.f64.format.read x)) (dE (FloatKind.f64.format.read y))) (dE (FloatKind.f64.format.read z))) (x := x) (y := y) (by omega) (by omega),
      fC_at (B := min (min (dE (FloatKind.f64.format.read x)) (dE (FloatKind.f64.format.read y))) (dE (FloatKind.f64.format.read z))) (x := y) (y := z) (by omega) (by omega),
      fC_at (B := min (min (dE (FloatKind.f64.format.read x)) (dE (FloatKind.f64.format.read y))) (dE (FloatKind.f64.format.read z))) (x := x) (y := z) (by omega) (by omega)]
    exact (kC_ord _).trans _ _ _
/-! ### Values, rows -/
theorem vC_ord : Ord3 vC := by
  have : Ord3 (lexK (fun v : api_Value => v.fKind) (fun k p q => if k = 3 then fC p.fFloat q.fFloat else if k = 4 then sC p.fText q.fText else iC p.fInt q.fInt)) := by
    refine lexK_ord fun k => ?_
    by_cases h3 : k = 3
    · simp only [h3, if_true]; exact ord_map fC_ord (fun v : api_Value => v.fFloat)
    · by_cases h4 : k = 4
      · simp only [h4, if_true, if_neg (by decide : ¬ (4 : Int) = 3)]; exact ord_map sC_ord (fun v : api_Value => v.fText)
      · simp only [h3, h4, if_false]; exact ord_map iC_ord (fun v : api_Value => v.fInt)
  exact this
theorem vCmp_ord : Ord3 vCmp := ord_map vC_ord vPlain
end Go.Pl

set_option linter.unusedVariables false
set_option linter.unusedSimpArgs false
namespace Go.Pl
open Go Go.Ab
def bitsF (f : Nat) : Nat := bif isNan f then 9221120237041090561 else bif isZero f then 0 else f
/-! ### Values in their one form -/
abbrev E0 : ByteArray := ByteArray.empty
def vP (v : api_Value) : api_Value := vNan (vPlain v)
/-- What may be. -/
def RightV (p : api_Value) : Prop := p = ⟨0, 0, 0, E0⟩ ∨ (∃ i, (i = 0 ∨ i = 1) ∧ p = ⟨1, i, 0, E0⟩) ∨ (∃ i, wI .i64 i ∧ p = ⟨2, i, 0, E0⟩) ∨ (∃ f, f < 2 ^ 64 ∧ p = ⟨3, 0, f, E0⟩) ∨ (∃ t, t.size ≤ 64 ∧ p = ⟨4, 0, 0, t⟩)
def CanV (p : api_Value) : Prop := p = ⟨0, 0, 0, E0⟩ ∨ (∃ i, (i = 0 ∨ i = 1) ∧ p = ⟨1, i, 0, E0⟩) ∨ (∃ i, wI .i64 i ∧ p = ⟨2, i, 0, E0⟩) ∨ (∃ f, f < 2 ^ 64 ∧ bitsF f = f ∧ p = ⟨3, 0, f, E0⟩) ∨ (∃ t, t.size ≤ 64 ∧ p = ⟨4, 0, 0, t⟩)
theorem posZ_zero {f : Nat} (hf : wF .f64 f) (h : posZ f = true) : f = 0 := by
  unfold posZ at h
  rw [Bool.and_eq_true] at h
  rcases isZero_cases (wF_lt hf) h.1 with h1 | h1
  · exact h1
  · subst h1
    have h2 := h.2
    rw [signb_eq (by decide)] at h2
    simp at h2
theorem right_cases {v : api_Value} (hw : W_api_Value v) (h : vRight v = true) : RightV v := by
  obtain ⟨k, i, f, t⟩ := v
  obtain ⟨w1, w2, w3, w4⟩ := hw
  simp only at w1 w2 w3 w4
  unfold vRight at h
  simp only at h
  split at h
  · subst k
    rw [Bool.and_eq_true, Bool.and_eq_true, beq_iff_eq] at h
    obtain ⟨h1, h2, h3⟩ := h
    exact .inl (by rw [h1, posZ_zero w3 h2, sEq_iff.1 h3])
  split at h
  · subst k
    rw [Bool.and_eq_true, Bool.and_eq_true, Bool.or_eq_true, beq_iff_eq, beq_iff_eq] at h
    obtain ⟨h1, h2, h3⟩ := h
    exact .inr (.inl ⟨i, h1, by rw [posZ_zero w3 h2, sEq_iff.1 h3]⟩)
  split at h
  · subst k
    rw [Bool.and_eq_true] at h
    obtain ⟨h2, h3⟩ := h
    exact .inr (.inr (.inl ⟨i, w2, by rw [posZ_zero w3 h2, sEq_iff.1 h3]⟩))
  split at h
  · subst k
    rw [Bool.and_eq_true, beq_iff_eq] at h
    obtain ⟨h1, h3⟩ := h
    exact .inr (.inr (.inr (.inl ⟨f, wF_lt w3, by rw [h1, sEq_iff.1 h3]⟩)))
  split at h
  · subst k
    rw [Bool.and_eq_true, Bool.and_eq_true, beq_iff_eq, decide_eq_true_eq] at h
    obtain ⟨h1, h2, h3⟩ := h
    exact .inr (.inr (.inr (.inr ⟨t, by omega, by rw [h1, posZ_zero w3 h2]⟩)))
  · cases h
theorem bitsF_bitsF (f : Nat) : bitsF (bitsF f) = bitsF f := by
  unfold bitsF
  cases h1 : isNan f
  · cases h2 : isZero f
    · simp only [cond_false]; rw [h1, h2]; rfl
    · exact (show bitsF 0 = 0 by decide +kernel)
  · exact (show bitsF 9221120237041090561 = 9221120237041090561 by decide +kernel)
theorem bitsF_lt {f : Nat} (h : f < 2 ^ 64) : bitsF f < 2 ^ 64 := by
  unfold bitsF
  cases isNan f <;> cases isZero f <;> simp <;> omega
theorem vRight3 (f : Nat) : vRight ⟨3, 0, f, E0⟩ = true := by
  show ((0 : Int) == 0 && empS E0) = true
  rw [show empS E0 = true from sEq_self E0]; rfl
theorem vP_float {f : Nat} (hf : f < 2 ^ 64) : vP ⟨3, 0, f, E0⟩ = ⟨3, 0, bitsF f, E0⟩ := by
  unfold vP vPlain
  rw [vRight3]
  simp only [Bool.not_true, cond_false, beq_self_eq_true, Bool.true_and]
  unfold bitsF
  cases hn : isNan f with
  | true =>
    rw [nan_not_zero hf hn]
    show vNan ⟨3, 0, f, E0⟩ = _
    unfold vNan fNan
    rw [hn]; rfl
  | false =>
    cases hz : isZero f with
    | true =>
      show vNan ⟨3, 0, 0, E0⟩ = ⟨3, 0, 0, E0⟩
      unfold vNan fNan
      rw [show isNan 0 = false by decide]; rfl
    | false =>
      show vNan ⟨3, 0, f, E0⟩ = ⟨3, 0, f, E0⟩
      unfold vNan fNan
      rw [hn]; rfl
theorem vP_other {v : api_Value} (h : vRight v = true) (hk : (v.fKind == 3) = false) : vP v = v := by
  unfold vP vPlain vNan
  rw [h, hk]
  simp only [Bool.not_true, cond_false, Bool.false_and]
  rw [hk]; rfl
theorem can_vP {v : api_Value} (hw : W_api_Value v) (h : vRight v = true) : CanV (vP v) := by
  rcases right_cases hw h with rfl | ⟨i, hi, rfl⟩ | ⟨i, hi, rfl⟩ | ⟨f, hf, rfl⟩ | ⟨t, ht, rfl⟩
  · rw [vP_other h rfl]; exact .inl rfl
  · rw [vP_other h rfl]; exact .inr (.inl ⟨i, hi, rfl⟩)
  · rw [vP_other h rfl]; exact .inr (.inr (.inl ⟨i, hi, rfl⟩))
  · rw [vP_float hf]; exact .inr (.inr (.inr (.inl ⟨_, bitsF_lt hf, bitsF_bitsF f, rfl⟩)))
  · rw [vP_other h rfl]; exact .inr (.inr (.inr (.inr ⟨t, ht, rfl⟩)))
theorem can_right {p : api_Value} (h : CanV p) : vRight p = true := by
  have e : posZ 0 = true := by decide +kernel
  have e2 : empS E0 = true := sEq_self E0
  rcases h with rfl | ⟨i, hi, rfl⟩ | ⟨i, hi, rfl⟩ | ⟨f, hf, hb, rfl⟩ | ⟨t, ht, rfl⟩
  · decide +kernel
  · rcases hi with rfl | rfl <;> decide +kernel
  · show (posZ 0 && empS E0) = true; rw [e, e2]; rfl
  · exact vRight3 f
  · show ((0 : Int) == 0 && (posZ 0 && decide ((t.size : Int) ≤ 64))) = true
    rw [e]; simp; omega
theorem vC_self (p : api_Value) : vC p p = 0 := by
  exact vC_ord.self p
theorem vCmp_vP {v : api_Value} (hw : W_api_Value v) (h : vRight v = true) : vCmp (vP v) v = 0 := by
  cases hk : v.fKind == 3 with
  | false => rw [vP_other h hk]; exact vC_self _
  | true =>
    rcases right_cases hw h with rfl | ⟨i, hi, rfl⟩ | ⟨i, hi, rfl⟩ | ⟨f, hf, rfl⟩ | ⟨t, ht, rfl⟩
    · cases hk
    · cases hk
    · cases hk
    · rw [vP_float hf]
      unfold bitsF
      cases hn : isNan f with
      | true =>
        rw [cond_true]
        have e : vPlain ⟨3, 0, 9221120237041090561, E0⟩ = ⟨3, 0, 9221120237041090561, E0⟩ := by
          unfold vPlain
          rw [vRight3]
          show (bif isZero 9221120237041090561 then _ else _) = _
          rw [show isZero 9221120237041090561 = false by decide +kernel]; rfl
        have e2 : vPlain ⟨3, 0, f, E0⟩ = ⟨3, 0, f, E0⟩ := by
          unfold vPlain
          rw [vRight3]
          show (bif isZero f then _ else _) = _
          rw [nan_not_zero hf hn]; rfl
        unfold vCmp
        rw [e, e2]
        show fC 9221120237041090561 f = 0
        rw [fC_nan (by decide +kernel), hn]; rfl
      | false =>
        cases hz : isZero f with
        | true =>
          have e2 : vPlain ⟨3, 0, f, E0⟩ = ⟨3, 0, 0, E0⟩ := by
            unfold vPlain
            rw [vRight3]
            show (bif isZero f then _ else _) = _
            rw [hz]; rfl
          have e : vPlain ⟨3, 0, 0, E0⟩ = ⟨3, 0, 0, E0⟩ := by
            unfold vPlain
            rw [vRight3]
            show (bif isZero 0 then (⟨3, 0, 0, E0⟩ : api_Value) else ⟨3, 0, 0, E0⟩) = _
            rw [show isZero 0 = true by decide +kernel]; rfl
          show vC (vPlain ⟨3, 0, 0, E0⟩) (vPlain ⟨3, 0, f, E0⟩) = 0
          rw [e, e2]
          exact vC_self _
        | false => exact vC_self _
    · cases hk
theorem can_W {p : api_Value} (h : CanV p) : W_api_Value p := by
  have i0 : wI .i64 0 := ⟨by decide, by decide⟩
  have f0 : wF .f64 0 := W_zeroV.2.2.1
  have s0 : wS E0 := W_zeroV.2.2.2
  have i1 : wI .i64 1 := ⟨by decide, by decide⟩
  have i2 : wI .i64 2 := ⟨by decide, by decide⟩
  have i3 : wI .i64 3 := ⟨by decide, by decide⟩
  have i4 : wI .i64 4 := ⟨by decide, by decide⟩
  rcases h with rfl | ⟨i, hi, rfl⟩ | ⟨i, hi, rfl⟩ | ⟨f, hf, hb, rfl⟩ | ⟨t, ht, rfl⟩
  · exact ⟨i0, i0, f0, s0⟩
  · exact ⟨i1, by rcases hi with rfl | rfl; exact i0; exact i1, f0, s0⟩
  · exact ⟨i2, hi, f0, s0⟩
  · exact ⟨i3, i0, by show (Lit.float .f64 f).wf = true; simp [Lit.wf]; omega, s0⟩
  · exact ⟨i4, i0, f0, by show t.size ≤ 1048576; omega⟩
end Go.Pl

