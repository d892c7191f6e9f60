import Derived.Test.YtjbhpopccbhhlaaPL
import Derived.Test.YtjbhpopccbhhlaaPA
import Derived.Test.YtjbhpopccbhhlaaAbFlt
import Derived.Sort.Statements
set_option linter.unusedVariables false
set_option linter.unusedSimpArgs false
namespace Go.Pl
open Go Go.Ab
/-! ### Values -/
theorem wF_lt {f : Nat} (h : wF .f64 f) : f < 2 ^ 64 := by
  unfold wF at h
  simpa [Lit.wf] using h
def posZ (f : Nat) : Bool := isZero f && !signb f
def empS (s : ByteArray) : Bool := sEq s ByteArray.empty
def vRight (v : api_Value) : Bool :=
  if v.fKind = 0 then v.fInt == 0 && (posZ v.fFloat && empS v.fText)
  else if v.fKind = 1 then (v.fInt == 0 || v.fInt == 1) && (posZ v.fFloat && empS v.fText)
  else if v.fKind = 2 then posZ v.fFloat && empS v.fText
  else if v.fKind = 3 then v.fInt == 0 && empS v.fText
  else if v.fKind = 4 then v.fInt == 0 && (posZ v.fFloat && decide ((v.fText.size : Int) ≤ 64))
  else false
theorem math_Signbit_ok (f : Nat) {n : Nat} (h : 1 ≤ n) : math_Signbit n f = some (signb f) := by
  obtain ⟨n, rfl⟩ : ∃ k, n = k + 1 := ⟨n - 1, by omega⟩
  rfl
theorem kcond {α : Type} {a b : Int} {x y : α} : (bif a == b then x else y) = if a = b then x else y := by
  by_cases h : a = b
  · simp [h]
  · have : (a == b) = false := by simpa using h
    rw [this]; simp [h]
def vR (y : Bool) (v : api_Value) : Bool :=
  if v.fKind = 0 then v.fInt == 0 && (y && empS v.fText)
  else if v.fKind = 1 then (v.fInt == 0 || v.fInt == 1) && (y && empS v.fText)
  else if v.fKind = 2 then y && empS v.fText
  else if v.fKind = 3 then v.fInt == 0 && empS v.fText
  else if v.fKind = 4 then v.fInt == 0 && (y && decide ((v.fText.size : Int) ≤ 64))
  else false
theorem vR_aux (y : Bool) (v : api_Value) : (bif (v.fKind == 0) then some (((v.fInt == 0) && y) && (sEq v.fText ByteArray.empty)) else bif (v.fKind == 1) then bif ((v.fInt != 0) && (v.fInt != 1)) then some false else some (y && (sEq v.fText ByteArray.empty)) else bif (v.fKind == 2) then some (y && (sEq v.fText ByteArray.empty)) else bif (v.fKind == 3) then some ((v.fInt == 0) && (sEq v.fText ByteArray.empty)) else bif (v.fKind == 4) then some (((v.fInt == 0) && y) && (decide ((v.fText.size : Int) ≤ 64))) else some false) = some (vR y v) := by
  simp only [kcond]
  unfold vR
  split
  · simp [empS, Bool.and_assoc]
  · split
    · unfold empS
      by_cases h0 : v.fInt = 0
      · simp [h0]
      · by_cases h1 : v.fInt = 1
        · simp [h1]
        · have e0 : (v.fInt == 0) = false := by simpa using h0
          have e1 : (v.fInt == 1) = false := by simpa using h1
          have e2 : (v.fInt != 0) = true := by simp [bne, e0]
          have e3 : (v.fInt != 1) = true := by simp [bne, e1]
          rw [e0, e1, e2, e3]; simp
    · split
      · rfl
      · split
        · rfl
        · split
          · simp [Bool.and_assoc]
          · rfl
theorem value_Right_ok (v : api_Value) {n : Nat} (h : 2 ≤ n) : value_Right n v = some (vRight v) := by
  obtain ⟨n, rfl⟩ : ∃ k, n = k + 1 := ⟨n - 1, by omega⟩
  unfold value_Right
  simp only [at1_succ, withK]
  rw [math_Signbit_ok _ (by omega)]
  simp only [Option.bind_some]
  rw [vR_aux, vR_aux]
  show _ = some (vR (posZ v.fFloat) v)
  unfold posZ isZero
  cases FloatKind.f64.format.order v.fFloat 0 == some .eq <;> rfl
theorem ref04_zero_ok {f : Nat} (hf : wF .f64 f) {n : Nat} (h : 1 ≤ n) : ref04_zero n f = some (posZ f) := by
  obtain ⟨n, rfl⟩ : ∃ k, n = k + 1 := ⟨n - 1, by omega⟩
  unfold ref04_zero
  simp only [at1_succ]
  unfold posZ
  cases hz : isZero f with
  | false =>
    have : ((FloatKind.format .f64).order f 0 == some .eq) = false := hz
    rw [this]; rfl
  | true =>
    have : ((FloatKind.format .f64).order f 0 == some .eq) = true := hz
    rw [this]
    obtain ⟨r, h1, h2⟩ := inv_zero (wF_lt hf) hz
    rw [cond_true, h1, Option.bind_some, h2]
    simp
theorem ref04_Right_ok {v : api_Value} (hv : W_api_Value v) {n : Nat} (h : 2 ≤ n) : ref04_Right n v = some (vRight v) := by
  obtain ⟨n, rfl⟩ : ∃ k, n = k + 1 := ⟨n - 1, by omega⟩
  unfold ref04_Right
  simp only [at1_succ]
  rw [ref04_zero_ok hv.2.2.1 (by omega)]
  simp only [Option.bind_some, kcond]
  unfold vRight empS
  split
  · split <;> simp [*]
  · split
    · cases h0 : (v.fInt == 0 || v.fInt == 1) <;> simp
    · split
      · rfl
      · split
        · rfl
        · split
          · split <;> simp [*]
          · rfl

/-! ### Rows -/
end Go.Pl

set_option linter.unusedVariables false
set_option linter.unusedSimpArgs false
namespace Go.Pl
open Go Go.Ab

abbrev zeroV : api_Value := api_Value.mk 0 0 0 ByteArray.empty
/-! ### Floats -/
theorem nan_order {x : Nat} (h : isNan x = true) (y : Nat) : FloatKind.f64.format.order x y = none ∧ FloatKind.f64.format.order y x = none := by
  unfold isNan at h
  simp only [Ieee.Format.order] at h ⊢
  cases hx : FloatKind.f64.format.read x with
  | nan => cases FloatKind.f64.format.read y <;> exact ⟨rfl, rfl⟩
  | infinity s => rw [hx] at h; exfalso; revert h; cases s <;> simp [Ieee.Datum.order]
  | number s m e => rw [hx] at h; exfalso; revert h; simp [Ieee.Datum.order]
def fLt (x y : Nat) : Bool := FloatKind.f64.format.order x y == some .lt
def fGt (x y : Nat) : Bool := FloatKind.f64.format.order x y == some .gt
def fC (x y : Nat) : Int :=
  bif isNan x && isNan y then 0 else bif isNan x then 1 else bif isNan y then -1 else bif fLt x y then -1 else bif fGt x y then 1 else 0
theorem value_floats_ok (x y : Nat) {n : Nat} (h : 2 ≤ n) : value_floats n x y = some (fC x y) := by
  obtain ⟨n, rfl⟩ : ∃ k, n = k + 2 := ⟨n - 2, by omega⟩
  show (bif (isNan x && isNan y) then some 0 else bif isNan x then some 1 else bif isNan y then some (-1) else bif fLt x y then some (-1) else bif fGt x y then some 1 else some 0) = some (fC x y)
  unfold fC
  cases isNan x <;> cases isNan y <;> cases fLt x y <;> cases fGt x y <;> rfl
theorem fC_nan {x y : Nat} (hx : isNan x = true) : fC x y = bif isNan y then 0 else 1 := by
  unfold fC; rw [hx]; cases isNan y <;> rfl
theorem fC_nan' {x y : Nat} (hy : isNan y = true) : fC x y = bif isNan x then 0 else -1 := by
  unfold fC; rw [hy]; cases isNan x <;> rfl
/-- A float in its one form, each NaN like each other one. -/
def fNan (f : Nat) : Nat := bif isNan f then 9221120237041090561 else f
theorem isNan_fNan (f : Nat) : isNan (fNan f) = isNan f := by
  unfold fNan
  cases h : isNan f with
  | true => exact (show isNan 9221120237041090561 = true by decide)
  | false => exact h
theorem fC_fNan (x y : Nat) : fC (fNan x) (fNan y) = fC x y := by
  cases hx : isNan x with
  | true => rw [fC_nan (by rw [isNan_fNan, hx]), fC_nan hx, isNan_fNan]
  | false =>
    cases hy : isNan y with
    | true => rw [fC_nan' (by rw [isNan_fNan, hy]), fC_nan' hy, isNan_fNan]
    | false => unfold fNan; rw [hx, hy]; rfl
/-- The document's way. -/
theorem fC_ref (x y : Nat) : (bif (fLt x y || (!isNan x && isNan y)) then (-1 : Int) else bif (fGt x y || (isNan x && !isNan y)) then 1 else 0) = fC x y := by
  cases hx : isNan x with
  | true =>
    rw [fC_nan hx]
    unfold fLt fGt
    rw [(nan_order hx y).1]
    cases isNan y <;> rfl
  | false =>
    cases hy : isNan y with
    | true =>
      rw [fC_nan' hy, hx]
      unfold fLt fGt
      rw [(nan_order hy x).2]
      rfl
    | false =>
      unfold fC; rw [hx, hy]; simp

/-! ### Two values -/
def vPlain (v : api_Value) : api_Value :=
  bif !vRight v then zeroV else bif (v.fKind == 3) && isZero v.fFloat then api_Value.mk 3 0 0 ByteArray.empty else v
def iC (a b : Int) : Int := if a < b then -1 else if a > b then 1 else 0
def sC (a b : ByteArray) : Int := bif sLt a b then -1 else bif !(sLt a b || sEq a b) then 1 else 0
def vC (p q : api_Value) : Int := if p.fKind ≠ q.fKind then iC p.fKind q.fKind else if p.fKind = 3 then fC p.fFloat q.fFloat else if p.fKind = 4 then sC p.fText q.fText else iC p.fInt q.fInt
def vCmp (a b : api_Value) : Int := vC (vPlain a) (vPlain b)
theorem ref04_Plain_ok {v : api_Value} (hv : W_api_Value v) {n : Nat} (h : 3 ≤ n) : ref04_Plain n v = some (vPlain v) := by
  obtain ⟨n, rfl⟩ : ∃ k, n = k + 1 := ⟨n - 1, by omega⟩
  unfold ref04_Plain
  rw [at1_succ, ref04_Right_ok hv (by omega), Option.bind_some]
  unfold vPlain isZero
  cases vRight v
  · rfl
  · cases (v.fKind == 3) && ((FloatKind.format .f64).order v.fFloat 0 == some .eq) <;> rfl
/-- The program's: a NaN in its one form, too. -/
def vNan (p : api_Value) : api_Value := bif p.fKind == 3 then api_Value.mk p.fKind p.fInt (fNan p.fFloat) p.fText else p
theorem right3 {v : api_Value} (h : vRight v = true) (hk : v.fKind = 3) : v.fInt = 0 ∧ v.fText = ByteArray.empty := by
  unfold vRight at h
  rw [hk] at h
  simp at h
  exact ⟨h.1, sEq_iff.1 h.2⟩
theorem value_Plain_ok {v : api_Value} (hv : W_api_Value v) {n : Nat} (h : 3 ≤ n) : value_Plain n v = some (vNan (vPlain v)) := by
  obtain ⟨n, rfl⟩ : ∃ k, n = k + 2 := ⟨n - 2, by omega⟩
  unfold value_Plain
  rw [at1_succ, value_Right_ok v (by omega), Option.bind_some]
  unfold vPlain
  cases hr : vRight v with
  | false => rfl
  | true =>
    simp only [Bool.not_true, cond_false, withK]
    cases hk : v.fKind == 3 with
    | false =>
      simp only [cond_false, Bool.false_and]
      unfold vNan; rw [hk]; rfl
    | true =>
      have h3 : v.fKind = 3 := by simpa using hk
      obtain ⟨h1, h2⟩ := right3 hr h3
      simp only [cond_true, Bool.true_and]
      have e0 : math_IsNaN (n + 1) v.fFloat = some (isNan v.fFloat) := rfl
      rw [e0, Option.bind_some]
      have e1 : ((FloatKind.format .f64).order v.fFloat 0 == some .eq) = isZero v.fFloat := rfl
      rw [e1]
      cases hn : isNan v.fFloat with
      | true =>
        rw [nan_not_zero (wF_lt hv.2.2.1) hn]
        simp only [cond_true, cond_false]
        unfold vNan
        rw [hk, cond_true]
        unfold fNan
        rw [hn]; rfl
      | false =>
        cases hz : isZero v.fFloat with
        | true =>
          simp only [cond_true, cond_false]
          rw [h3, h1, h2]
          rfl
        | false =>
          simp only [cond_false]
          unfold vNan fNan
          rw [hk, hn]; rfl
theorem vNan_kind (p : api_Value) : (vNan p).fKind = p.fKind := by unfold vNan; cases p.fKind == 3 <;> rfl
theorem vNan_int (p : api_Value) : (vNan p).fInt = p.fInt := by unfold vNan; cases p.fKind == 3 <;> rfl
theorem vNan_text (p : api_Value) : (vNan p).fText = p.fText := by unfold vNan; cases p.fKind == 3 <;> rfl
theorem vNan_float {p : api_Value} (h : p.fKind = 3) : (vNan p).fFloat = fNan p.fFloat := by unfold vNan; rw [h]; rfl
theorem cmp_int_ok (a b : Int) {n : Nat} (h : 2 ≤ n) : cmp_Compare_int n a b = some (iC a b) := by
  obtain ⟨n, rfl⟩ : ∃ k, n = k + 2 := ⟨n - 2, by omega⟩
  unfold cmp_Compare_int cmp_isNaN_int
  simp only [at1_succ, Option.bind_some, bne_self_eq_false, cond_false]
  unfold iC
  by_cases h1 : a < b
  · simp [h1]
  · by_cases h2 : b < a <;> simp [h1, h2]
theorem cmp_int64_ok (a b : Int) {n : Nat} (h : 2 ≤ n) : cmp_Compare_int64 n a b = some (iC a b) := by
  obtain ⟨n, rfl⟩ : ∃ k, n = k + 2 := ⟨n - 2, by omega⟩
  unfold cmp_Compare_int64 cmp_isNaN_int64
  simp only [at1_succ, Option.bind_some, bne_self_eq_false, cond_false]
  unfold iC
  by_cases h1 : a < b
  · simp [h1]
  · by_cases h2 : b < a <;> simp [h1, h2]
theorem cmp_string_ok (a b : ByteArray) {n : Nat} (h : 2 ≤ n) : cmp_Compare_string n a b = some (sC a b) := by
  obtain ⟨n, rfl⟩ : ∃ k, n = k + 2 := ⟨n - 2, by omega⟩
  unfold cmp_Compare_string cmp_isNaN_string
  simp only [at1_succ, Option.bind_some, sEq_self, Bool.not_true, cond_false]
  unfold sC
  cases sLt a b <;> cases sEq a b <;> rfl
theorem kne {α : Type} {a b : Int} {x y : α} : (bif a != b then x else y) = if a ≠ b then x else y := by
  by_cases h : a = b
  · simp [h]
  · have : (a != b) = true := by simpa using h
    rw [this]; simp [h]
theorem some_ite {α : Type} {p : Prop} [Decidable p] {x y : α} : (if p then some x else some y) = some (if p then x else y) := by split <;> rfl
theorem value_Cmp_ok {a b : api_Value} (ha : W_api_Value a) (hb : W_api_Value b) {n : Nat} (h : 4 ≤ n) : value_Cmp n a b = some (vCmp a b) := by
  obtain ⟨n, rfl⟩ : ∃ k, n = k + 1 := ⟨n - 1, by omega⟩
  unfold value_Cmp
  rw [at1_succ, value_Plain_ok ha (by omega), Option.bind_some, value_Plain_ok hb (by omega), Option.bind_some, cmp_int_ok _ _ (by omega), value_floats_ok _ _ (by omega), cmp_string_ok _ _ (by omega), cmp_int64_ok _ _ (by omega)]
  simp only [Option.bind_some, kne, kcond, some_ite, vNan_kind, vNan_int, vNan_text]
  unfold vCmp vC
  congr 1
  by_cases hk : (vPlain a).fKind = (vPlain b).fKind
  · have hk' : ¬ ((vPlain a).fKind ≠ (vPlain b).fKind) := fun c => c hk
    rw [if_neg hk', if_neg hk']
    by_cases h3 : (vPlain a).fKind = 3
    · rw [if_pos h3, if_pos h3, vNan_float h3, vNan_float (hk ▸ h3), fC_fNan]
    · rw [if_neg h3, if_neg h3]
  · rw [if_pos hk, if_pos hk]
theorem ref04_Cmp_ok {a b : api_Value} (ha : W_api_Value a) (hb : W_api_Value b) {n : Nat} (h : 4 ≤ n) : ref04_Cmp n a b = some (vCmp a b) := by
  obtain ⟨n, rfl⟩ : ∃ k, n = k + 1 := ⟨n - 1, by omega⟩
  unfold ref04_Cmp
  rw [at1_succ, ref04_Plain_ok ha (by omega), Option.bind_some, ref04_Plain_ok hb (by omega), Option.bind_some]
  unfold vCmp
  generalize vPlain a = p
  generalize vPlain b = q
  unfold vC
  simp only [kne, kcond, withK]
  by_cases hk : p.fKind = q.fKind
  · have hk' : ¬ (p.fKind ≠ q.fKind) := fun c => c hk
    rw [if_neg hk', if_neg hk']
    by_cases h3 : p.fKind = 3
    · rw [if_pos h3, if_pos h3, if_neg (by omega), ← fC_ref]
      have e1 : (FloatKind.f64.format.order p.fFloat p.fFloat != some .eq) = isNan p.fFloat := rfl
      have e2 : (FloatKind.f64.format.order q.fFloat q.fFloat != some .eq) = isNan q.fFloat := rfl
      have e3 : (FloatKind.f64.format.order p.fFloat q.fFloat == some .lt) = fLt p.fFloat q.fFloat := rfl
      have e4 : (FloatKind.f64.format.order p.fFloat q.fFloat == some .gt) = fGt p.fFloat q.fFloat := rfl
      rw [e1, e2, e3, e4]
      cases fLt p.fFloat q.fFloat <;> cases fGt p.fFloat q.fFloat <;> cases isNan p.fFloat <;> cases isNan q.fFloat <;> rfl
    · rw [if_neg h3, if_neg h3]
      by_cases h4 : p.fKind = 4
      · rw [if_pos h4, if_pos h4]
        unfold sC
        cases sLt p.fText q.fText <;> cases sEq p.fText q.fText <;> rfl
      · rw [if_neg h4, if_neg h4]
        unfold iC
        by_cases h1 : p.fInt < q.fInt
        · simp [h1]
        · by_cases h2 : q.fInt < p.fInt <;> simp [h1, h2]
  · rw [if_pos hk, if_pos hk]
    unfold iC
    by_cases h1 : p.fKind < q.fKind
    · simp [h1]
    · have h2 : p.fKind > q.fKind := by omega
      simp [h1, h2]
end Go.Pl

set_option linter.unusedVariables false
set_option linter.unusedSimpArgs false
namespace Go.Pl
open Go Go.Ab

/-! ### Two lists -/
def lexC {α : Type} (c : α → α → Int) : List α → List α → Int
  | [], [] => 0
  | [], _ :: _ => -1
  | _ :: _, [] => 1
  | x :: a, y :: b => if c x y ≠ 0 then c x y else lexC c a b
def lenC (a b : Nat) : Int := if (a : Int) < (b : Int) then -1 else if (a : Int) > (b : Int) then 1 else 0
theorem lexC_end {α : Type} (c : α → α → Int) (a b : List α) (h : a = [] ∨ b = []) : lexC c a b = lenC a.length b.length := by
  rcases h with rfl | rfl
  · cases b with
    | nil => rfl
    | cons y b => simp [lexC, lenC]
  · cases a with
    | nil => rfl
    | cons x a =>
      simp only [lexC, lenC, List.length_cons, List.length_nil]
      rw [if_neg (by omega), if_pos (by omega)]
/-- A loop over two lists. -/
theorem loop_two {α : Type} {F : Nat → Int → Option Int} {la lb : List α} {cm : α → α → Option Int} {c : α → α → Int} {k : Unit → Option Int} (hla : la.length ≤ 1048576)
    (hc : ∀ x y, x ∈ la → y ∈ lb → cm x y = some (c x y)) (hk : k () = some (lenC la.length lb.length))
    (hF : ∀ (m i : Nat), F (m + 1) i = bif (decide ((i : Int) < (la.length : Int)) && decide ((i : Int) < (lb.length : Int))) then (idx la i).bind fun x => (idx lb i).bind fun y => (cm x y).bind fun z => bif z != 0 then some z else F m (IntKind.wrap .i64 ((i : Int) + 1)) else k ()) :
    ∀ (m i : Nat), i ≤ la.length → i ≤ lb.length → la.length - i < m → F m i = some (lexC c (la.drop i) (lb.drop i)) := by
  intro m
  induction m with
  | zero => intro i _ _ h; omega
  | succ m ih =>
    intro i hi hj hm
    rw [hF m i]
    by_cases h1 : i < la.length
    · by_cases h2 : i < lb.length
      · have e1 : decide ((i : Int) < (la.length : Int)) = true := by simp; omega
        have e2 : decide ((i : Int) < (lb.length : Int)) = true := by simp; omega
        rw [e1, e2, Bool.true_and, cond_true, idx_nat, idx_nat, List.getElem?_eq_getElem h1, List.getElem?_eq_getElem h2, Option.bind_some, Option.bind_some, hc _ _ (List.getElem_mem _) (List.getElem_mem _), Option.bind_some, List.drop_eq_getElem_cons h1, List.drop_eq_getElem_cons h2, kne]
        simp only [lexC]
        rw [wrapN (by omega), ih (i + 1) (by omega) (by omega) (by omega), some_ite]
      · have e2 : decide ((i : Int) < (lb.length : Int)) = false := by simp; omega
        rw [e2, Bool.and_false, cond_false, hk, lexC_end _ _ _ (.inr (List.drop_eq_nil_of_le (by omega)))]
        congr 1
        rw [List.length_drop, List.length_drop]
        unfold lenC
        repeat' split
        all_goals first | rfl | omega
    · have e1 : decide ((i : Int) < (la.length : Int)) = false := by simp; omega
      rw [e1, Bool.false_and, cond_false, hk, lexC_end _ _ _ (.inl (List.drop_eq_nil_of_le (by omega)))]
      congr 1
      rw [List.length_drop, List.length_drop]
      unfold lenC
      repeat' split
      all_goals first | rfl | omega
/-! ### By an order -/
/-! ### May a row be? -/
/-! ### Too great? -/
end Go.Pl

set_option linter.unusedVariables false
set_option linter.unusedSimpArgs false
namespace Go.Pl
open Go Go.Ab
/-! ### Orders of three answers -/
structure Ord3 {α : Type} (c : α → α → Int) : Prop where
  anti : ∀ x y, c y x = -c x y
  trans : ∀ x y z, c x y ≤ 0 → c y z ≤ 0 → c x z ≤ 0
/-- Alike on the left. -/
theorem Ord3.left {α : Type} {c : α → α → Int} (h : Ord3 c) {x y z : α} (e : c x y = 0) : (c x z ≤ 0 ↔ c y z ≤ 0) ∧ (0 ≤ c x z ↔ 0 ≤ c y z) := by
  have a1 := h.anti x y
  have a2 := h.anti x z
  have a3 := h.anti y z
  refine ⟨⟨fun g => h.trans y x z (by omega) g, fun g => h.trans x y z (by omega) g⟩, ⟨fun g => ?_, fun g => ?_⟩⟩
  · have := h.trans z x y (by omega) (by omega); omega
  · have := h.trans z y x (by omega) (by omega); omega
end Go.Pl

set_option linter.unusedVariables false
set_option linter.unusedSimpArgs false
namespace Go.Pl
open Go Go.Ab
end Go.Pl

set_option linter.unusedVariables false
set_option linter.unusedSimpArgs false
namespace Go.Pl
open Go Go.Ab
/-! ### Floats -/
/-! ### Values, rows -/
end Go.Pl

set_option linter.unusedVariables false
set_option linter.unusedSimpArgs false
namespace Go.Pl
open Go Go.Ab
def bitsF (f : Nat) : Nat := bif isNan f then 9221120237041090561 else bif isZero f then 0 else f
/-! ### Values in their one form -/
end Go.Pl

