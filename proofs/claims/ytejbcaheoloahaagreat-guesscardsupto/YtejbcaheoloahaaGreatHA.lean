import Derived.Test.YtejbcaheoloahaaGreatPL
import Derived.Test.YtejbcaheoloahaaGreatPA
import Derived.Test.YtejbcaheoloahaaGreatAbFlt
import Derived.Sort.Statements
import Derived.Test.YtejbcaheoloahaaGreatPC
namespace Go.Pl
open Go Go.Ab
theorem wF_lt {f : Nat} (h : wF .f64 f) : f < 2 ^ 64 := by
  unfold wF at h
  simpa [Lit.wf] using h
def posZ (f : Nat) : Bool := isZero f && !signb f
def empS (s : ByteArray) : Bool := sEq s ByteArray.empty
def vRight (v : api_Value) : Bool :=
  if v.fKind = 0 then v.fInt == 0 && (posZ v.fFloat && empS v.fText)
  else if v.fKind = 1 then (v.fInt == 0 || v.fInt == 1) && (posZ v.fFloat && empS v.fText)
  else if v.fKind = 2 then posZ v.fFloat && empS v.fText
  else if v.fKind = 3 then v.fInt == 0 && empS v.fText
  else if v.fKind = 4 then v.fInt == 0 && (posZ v.fFloat && decide ((v.fText.size : Int) ≤ 64))
  else false
theorem math_Signbit_ok (f : Nat) {n : Nat} (h : 1 ≤ n) : math_Signbit n f = some (signb f) := by
  obtain ⟨n, rfl⟩ : ∃ k, n = k + 1 := ⟨n - 1, by omega⟩
  rfl
theorem kcond {α : Type} {a b : Int} {x y : α} : (bif a == b then x else y) = if a = b then x else y := by
  by_cases h : a = b
  · simp [h]
  · have : (a == b) = false := by simpa using h
    rw [this]; simp [h]
def vR (y : Bool) (v : api_Value) : Bool :=
  if v.fKind = 0 then v.fInt == 0 && (y && empS v.fText)
  else if v.fKind = 1 then (v.fInt == 0 || v.fInt == 1) && (y && empS v.fText)
  else if v.fKind = 2 then y && empS v.fText
  else if v.fKind = 3 then v.fInt == 0 && empS v.fText
  else if v.fKind = 4 then v.fInt == 0 && (y && decide ((v.fText.size : Int) ≤ 64))
  else false
theorem vR_aux (y : Bool) (v : api_Value) : (bif (v.fKind == 0) then some (((v.fInt == 0) && y) && (sEq v.fText ByteArray.empty)) else bif (v.fKind == 1) then bif ((v.fInt != 0) && (v.fInt != 1)) then some false else some (y && (sEq v.fText ByteArray.empty)) else bif (v.fKind == 2) then some (y && (sEq v.fText ByteArray.empty)) else bif (v.fKind == 3) then some ((v.fInt == 0) && (sEq v.fText ByteArray.empty)) else bif (v.fKind == 4) then some (((v.fInt == 0) && y) && (decide ((v.fText.size : Int) ≤ 64))) else some false) = some (vR y v) := by
  simp only [kcond]
  unfold vR
  split
  · simp [empS, Bool.and_assoc]
  · split
    · unfold empS
      by_cases h0 : v.fInt = 0
      · simp [h0]
      · by_cases h1 : v.fInt = 1
        · simp [h1]
        · have e0 : (v.fInt == 0) = false := by simpa using h0
          have e1 : (v.fInt == 1) = false := by simpa using h1
          have e2 : (v.fInt != 0) = true := by simp [bne, e0]
          have e3 : (v.fInt != 1) = true := by simp [bne, e1]
          rw [e0, e1, e2, e3]; simp
    · split
      · rfl
      · split
        · rfl
        · split
          · simp [Bool.and_assoc]
          · rfl
theorem value_Right_ok (v : api_Value) {n : Nat} (h : 2 ≤ n) : value_Right n v = some (vRight v) := by
  obtain ⟨n, rfl⟩ : ∃ k, n = k + 1 := ⟨n - 1, by omega⟩
  unfold value_Right
  simp only [at1_succ, withK]
  rw [math_Signbit_ok _ (by omega)]
  simp only [Option.bind_some]
  rw [vR_aux, vR_aux]
  show _ = some (vR (posZ v.fFloat) v)
  unfold posZ isZero
  cases FloatKind.f64.format.order v.fFloat 0 == some .eq <;> rfl
theorem ref04_zero_ok {f : Nat} (hf : wF .f64 f) {n : Nat} (h : 1 ≤ n) : ref04_zero n f = some (posZ f) := by
  obtain ⟨n, rfl⟩ : ∃ k, n = k + 1 := ⟨n - 1, by omega⟩
  unfold ref04_zero
  simp only [at1_succ]
  unfold posZ
  cases hz : isZero f with
  | false =>
    have : ((FloatKind.format .f64).order f 0 == some .eq) = false := hz
    rw [this]; rfl
  | true =>
    have : ((FloatKind.format .f64).order f 0 == some .eq) = true := hz
    rw [this]
    obtain ⟨r, h1, h2⟩ := inv_zero (wF_lt hf) hz
    rw [cond_true, h1, Option.bind_some, h2]
    simp
theorem ref04_Right_ok {v : api_Value} (hv : W_api_Value v) {n : Nat} (h : 2 ≤ n) : ref04_Right n v = some (vRight v) := by
  obtain ⟨n, rfl⟩ : ∃ k, n = k + 1 := ⟨n - 1, by omega⟩
  unfold ref04_Right
  simp only [at1_succ]
  rw [ref04_zero_ok hv.2.2.1 (by omega)]
  simp only [Option.bind_some, kcond]
  unfold vRight empS
  split
  · split <;> simp [*]
  · split
    · cases h0 : (v.fInt == 0 || v.fInt == 1) <;> simp
    · split
      · rfl
      · split
        · rfl
        · split
          · split <;> simp [*]
          · rfl
end Go.Pl
namespace Go.Pl
open Go Go.Ab
abbrev zeroV : api_Value := api_Value.mk 0 0 0 ByteArray.empty
theorem nan_order {x : Nat} (h : isNan x = true) (y : Nat) : FloatKind.f64.format.order x y = none ∧ FloatKind.f64.format.order y x = none := by
  unfold isNan at h
  simp only [Ieee.Format.order] at h ⊢
  cases hx : FloatKind.f64.format.read x with
  | nan => cases FloatKind.f64.format.read y <;> exact ⟨rfl, rfl⟩
  | infinity s => rw [hx] at h; exfalso; revert h; cases s <;> simp [Ieee.Datum.order]
  | number s m e => rw [hx] at h; exfalso; revert h; simp [Ieee.Datum.order]
def fLt (x y : Nat) : Bool := FloatKind.f64.format.order x y == some .lt
def fGt (x y : Nat) : Bool := FloatKind.f64.format.order x y == some .gt
def fC (x y : Nat) : Int :=
  bif isNan x && isNan y then 0 else bif isNan x then 1 else bif isNan y then -1 else bif fLt x y then -1 else bif fGt x y then 1 else 0
theorem value_floats_ok (x y : Nat) {n : Nat} (h : 2 ≤ n) : value_floats n x y = some (fC x y) := by
  obtain ⟨n, rfl⟩ : ∃ k, n = k + 2 := ⟨n - 2, by omega⟩
  show (bif (isNan x && isNan y) then some 0 else bif isNan x then some 1 else bif isNan y then some (-1) else bif fLt x y then some (-1) else bif fGt x y then some 1 else some 0) = some (fC x y)
  unfold fC
  cases isNan x <;> cases isNan y <;> cases fLt x y <;> cases fGt x y <;> rfl
theorem fC_nan {x y : Nat} (hx : isNan x = true) : fC x y = bif isNan y then 0 else 1 := by
  unfold fC; rw [hx]; cases isNan y <;> rfl
theorem fC_nan' {x y : Nat} (hy : isNan y = true) : fC x y = bif isNan x then 0 else -1 := by
  unfold fC; rw [hy]; cases isNan x <;> rfl
def fNan (f : Nat) : Nat := bif isNan f then 9221120237041090561 else f
theorem isNan_fNan (f : Nat) : isNan (fNan f) = isNan f := by
  unfold fNan
  cases h : isNan f with
  | true => exact (show isNan 9221120237041090561 = true by decide)
  | false => exact h
theorem fC_fNan (x y : Nat) : fC (fNan x) (fNan y) = fC x y := by
  cases hx : isNan x with
  | true => rw [fC_nan (by rw [isNan_fNan, hx]), fC_nan hx, isNan_fNan]
  | false =>
    cases hy : isNan y with
    | true => rw [fC_nan' (by rw [isNan_fNan, hy]), fC_nan' hy, isNan_fNan]
    | false => unfold fNan; rw [hx, hy]; rfl
theorem fC_ref (x y : Nat) : (bif (fLt x y || (!isNan x && isNan y)) then (-1 : Int) else bif (fGt x y || (isNan x && !isNan y)) then 1 else 0) = fC x y := by
  cases hx : isNan x with
  | true =>
    rw [fC_nan hx]
    unfold fLt fGt
    rw [(nan_order hx y).1]
    cases isNan y <;> rfl
  | false =>
    cases hy : isNan y with
    | true =>
      rw [fC_nan' hy, hx]
      unfold fLt fGt
      rw [(nan_order hy x).2]
      rfl
    | false =>
      unfold fC; rw [hx, hy]; simp
def vPlain (v : api_Value) : api_Value :=
  bif !vRight v then zeroV else bif (v.fKind == 3) && isZero v.fFloat then api_Value.mk 3 0 0 ByteArray.empty else v
def iC (a b : Int) : Int := if a < b then -1 else if a > b then 1 else 0
def sC (a b : ByteArray) : Int := bif sLt a b then -1 else bif !(sLt a b || sEq a b) then 1 else 0
def vC (p q : api_Value) : Int := if p.fKind ≠ q.fKind then iC p.fKind q.fKind else if p.fKind = 3 then fC p.fFloat q.fFloat else if p.fKind = 4 then sC p.fText q.fText else iC p.fInt q.fInt
def vCmp (a b : api_Value) : Int := vC (vPlain a) (vPlain b)
theorem ref04_Plain_ok {v : api_Value} (hv : W_api_Value v) {n : Nat} (h : 3 ≤ n) : ref04_Plain n v = some (vPlain v) := by
  obtain ⟨n, rfl⟩ : ∃ k, n = k + 1 := ⟨n - 1, by omega⟩
  unfold ref04_Plain
  rw [at1_succ, ref04_Right_ok hv (by omega), Option.bind_some]
  unfold vPlain isZero
  cases vRight v
  · rfl
  · cases (v.fKind == 3) && ((FloatKind.format .f64).order v.fFloat 0 == some .eq) <;> rfl
def vNan (p : api_Value) : api_Value := bif p.fKind == 3 then api_Value.mk p.fKind p.fInt (fNan p.fFloat) p.fText else p
theorem right3 {v : api_Value} (h : vRight v = true) (hk : v.fKind = 3) : v.fInt = 0 ∧ v.fText = ByteArray.empty := by
  unfold vRight at h
  rw [hk] at h
  simp at h
  exact ⟨h.1, sEq_iff.1 h.2⟩
theorem value_Plain_ok {v : api_Value} (hv : W_api_Value v) {n : Nat} (h : 3 ≤ n) : value_Plain n v = some (vNan (vPlain v)) := by
  obtain ⟨n, rfl⟩ : ∃ k, n = k + 2 := ⟨n - 2, by omega⟩
  unfold value_Plain
  rw [at1_succ, value_Right_ok v (by omega), Option.bind_some]
  unfold vPlain
  cases hr : vRight v with
  | false => rfl
  | true =>
    simp only [Bool.not_true, cond_false, withK]
    cases hk : v.fKind == 3 with
    | false =>
      simp only [cond_false, Bool.false_and]
      unfold vNan; rw [hk]; rfl
    | true =>
      have h3 : v.fKind = 3 := by simpa using hk
      obtain ⟨h1, h2⟩ := right3 hr h3
      simp only [cond_true, Bool.true_and]
      have e0 : math_IsNaN (n + 1) v.fFloat = some (isNan v.fFloat) := rfl
      rw [e0, Option.bind_some]
      have e1 : ((FloatKind.format .f64).order v.fFloat 0 == some .eq) = isZero v.fFloat := rfl
      rw [e1]
      cases hn : isNan v.fFloat with
      | true =>
        rw [nan_not_zero (wF_lt hv.2.2.1) hn]
        simp only [cond_true, cond_false]
        unfold vNan
        rw [hk, cond_true]
        unfold fNan
        rw [hn]; rfl
      | false =>
        cases hz : isZero v.fFloat with
        | true =>
          simp only [cond_true, cond_false]
          rw [h3, h1, h2]
          rfl
        | false =>
          simp only [cond_false]
          unfold vNan fNan
          rw [hk, hn]; rfl
theorem vNan_kind (p : api_Value) : (vNan p).fKind = p.fKind := by unfold vNan; cases p.fKind == 3 <;> rfl
theorem vNan_int (p : api_Value) : (vNan p).fInt = p.fInt := by unfold vNan; cases p.fKind == 3 <;> rfl
theorem vNan_text (p : api_Value) : (vNan p).fText = p.fText := by unfold vNan; cases p.fKind == 3 <;> rfl
theorem vNan_float {p : api_Value} (h : p.fKind = 3) : (vNan p).fFloat = fNan p.fFloat := by unfold vNan; rw [h]; rfl
theorem cmp_int_ok (a b : Int) {n : Nat} (h : 2 ≤ n) : cmp_Compare_int n a b = some (iC a b) := by
  obtain ⟨n, rfl⟩ : ∃ k, n = k + 2 := ⟨n - 2, by omega⟩
  unfold cmp_Compare_int cmp_isNaN_int
  simp only [at1_succ, Option.bind_some, bne_self_eq_false, cond_false]
  unfold iC
  by_cases h1 : a < b
  · simp [h1]
  · by_cases h2 : b < a <;> simp [h1, h2]
theorem cmp_int64_ok (a b : Int) {n : Nat} (h : 2 ≤ n) : cmp_Compare_int64 n a b = some (iC a b) := by
  obtain ⟨n, rfl⟩ : ∃ k, n = k + 2 := ⟨n - 2, by omega⟩
  unfold cmp_Compare_int64 cmp_isNaN_int64
  simp only [at1_succ, Option.bind_some, bne_self_eq_false, cond_false]
  unfold iC
  by_cases h1 : a < b
  · simp [h1]
  · by_cases h2 : b < a <;> simp [h1, h2]
theorem cmp_string_ok (a b : ByteArray) {n : Nat} (h : 2 ≤ n) : cmp_Compare_string n a b = some (sC a b) := by
  obtain ⟨n, rfl⟩ : ∃ k, n = k + 2 := ⟨n - 2, by omega⟩
  unfold cmp_Compare_string cmp_isNaN_string
  simp only [at1_succ, Option.bind_some, sEq_self, Bool.not_true, cond_false]
  unfold sC
  cases sLt a b <;> cases sEq a b <;> rfl
theorem kne {α : Type} {a b : Int} {x y : α} : (bif a != b then x else y) = if a ≠ b then x else y := by
  by_cases h : a = b
  · simp [h]
  · have : (a != b) = true := by simpa using h
    rw [this]; simp [h]
theorem some_ite {α : Type} {p : Prop} [Decidable p] {x y : α} : (if p then some x else some y) = some (if p then x else y) := by split <;> rfl
theorem value_Cmp_ok {a b : api_Value} (ha : W_api_Value a) (hb : W_api_Value b) {n : Nat} (h : 4 ≤ n) : value_Cmp n a b = some (vCmp a b) := by
  obtain ⟨n, rfl⟩ : ∃ k, n = k + 1 := ⟨n - 1, by omega⟩
  unfold value_Cmp
  rw [at1_succ, value_Plain_ok ha (by omega), Option.bind_some, value_Plain_ok hb (by omega), Option.bind_some, cmp_int_ok _ _ (by omega), value_floats_ok _ _ (by omega), cmp_string_ok _ _ (by omega), cmp_int64_ok _ _ (by omega)]
  simp only [Option.bind_some, kne, kcond, some_ite, vNan_kind, vNan_int, vNan_text]
  unfold vCmp vC
  congr 1
  by_cases hk : (vPlain a).fKind = (vPlain b).fKind
  · have hk' : ¬ ((vPlain a).fKind ≠ (vPlain b).fKind) := fun c => c hk
    rw [if_neg hk', if_neg hk']
    by_cases h3 : (vPlain a).fKind = 3
    · rw [if_pos h3, if_pos h3, vNan_float h3, vNan_float (hk ▸ h3), fC_fNan]
    · rw [if_neg h3, if_neg h3]
  · rw [if_pos hk, if_pos hk]
theorem ref04_Cmp_ok {a b : api_Value} (ha : W_api_Value a) (hb : W_api_Value b) {n : Nat} (h : 4 ≤ n) : ref04_Cmp n a b = some (vCmp a b) := by
  obtain ⟨n, rfl⟩ : ∃ k, n = k + 1 := ⟨n - 1, by omega⟩
  unfold ref04_Cmp
  rw [at1_succ, ref04_Plain_ok ha (by omega), Option.bind_some, ref04_Plain_ok hb (by omega), Option.bind_some]
  unfold vCmp
  generalize vPlain a = p
  generalize vPlain b = q
  unfold vC
  simp only [kne, kcond, withK]
  by_cases hk : p.fKind = q.fKind
  · have hk' : ¬ (p.fKind ≠ q.fKind) := fun c => c hk
    rw [if_neg hk', if_neg hk']
    by_cases h3 : p.fKind = 3
    · rw [if_pos h3, if_pos h3, if_neg (by omega), ← fC_ref]
      have e1 : (FloatKind.f64.format.order p.fFloat p.fFloat != some .eq) = isNan p.fFloat := rfl
      have e2 : (FloatKind.f64.format.order q.fFloat q.fFloat != some .eq) = isNan q.fFloat := rfl
      have e3 : (FloatKind.f64.format.order p.fFloat q.fFloat == some .lt) = fLt p.fFloat q.fFloat := rfl
      have e4 : (FloatKind.f64.format.order p.fFloat q.fFloat == some .gt) = fGt p.fFloat q.fFloat := rfl
      rw [e1, e2, e3, e4]
      cases fLt p.fFloat q.fFloat <;> cases fGt p.fFloat q.fFloat <;> cases isNan p.fFloat <;> cases isNan q.fFloat <;> rfl
    · rw [if_neg h3, if_neg h3]
      by_cases h4 : p.fKind = 4
      · rw [if_pos h4, if_pos h4]
        unfold sC
        cases sLt p.fText q.fText <;> cases sEq p.fText q.fText <;> rfl
      · rw [if_neg h4, if_neg h4]
        unfold iC
        by_cases h1 : p.fInt < q.fInt
        · simp [h1]
        · by_cases h2 : q.fInt < p.fInt <;> simp [h1, h2]
  · rw [if_pos hk, if_pos hk]
    unfold iC
    by_cases h1 : p.fKind < q.fKind
    · simp [h1]
    · have h2 : p.fKind > q.fKind := by omega
      simp [h1, h2]
end Go.Pl
namespace Go.Pl
open Go Go.Ab
end Go.Pl
namespace Go.Pl
open Go Go.Ab
structure Ord3 {α : Type} (c : α → α → Int) : Prop where
  anti : ∀ x y, c y x = -c x y
  trans : ∀ x y z, c x y ≤ 0 → c y z ≤ 0 → c x z ≤ 0
theorem Ord3.left {α : Type} {c : α → α → Int} (h : Ord3 c) {x y z : α} (e : c x y = 0) : (c x z ≤ 0 ↔ c y z ≤ 0) ∧ (0 ≤ c x z ↔ 0 ≤ c y z) := by
  have a1 := h.anti x y
  have a2 := h.anti x z
  have a3 := h.anti y z
  refine ⟨⟨fun g => h.trans y x z (by omega) g, fun g => h.trans x y z (by omega) g⟩, ⟨fun g => ?_, fun g => ?_⟩⟩
  · have := h.trans z x y (by omega) (by omega); omega
  · have := h.trans z y x (by omega) (by omega); omega
theorem iC_ord : Ord3 iC where
  anti x y := by unfold iC; repeat' split
                 all_goals omega
  trans x y z := by unfold iC; intro h1 h2; repeat' split
                    all_goals (repeat' split at h1) <;> (repeat' split at h2) <;> omega
end Go.Pl
namespace Go.Pl
open Go Go.Ab
theorem less_irr : ∀ (l : List UInt8), Op.bytesLess l l = false
  | [] => rfl
  | a :: l => by
    have h : ¬ (a < a) := fun h => absurd (UInt8.lt_iff_toNat_lt.1 h) (by omega)
    simp [Op.bytesLess, less_irr l, h]
theorem less_tri : ∀ (a b : List UInt8), (Op.bytesLess a b = true ∧ Op.bytesLess b a = false ∧ a ≠ b) ∨ (Op.bytesLess a b = false ∧ Op.bytesLess b a = true ∧ a ≠ b) ∨ a = b
  | [], [] => .inr (.inr rfl)
  | [], y :: b => .inl ⟨rfl, rfl, by simp⟩
  | x :: a, [] => .inr (.inl ⟨rfl, rfl, by simp⟩)
  | x :: a, y :: b => by
    simp only [Op.bytesLess, Bool.or_eq_true, Bool.and_eq_true, decide_eq_true_eq, Bool.or_eq_false_iff, decide_eq_false_iff_not, Bool.and_eq_false_iff, beq_iff_eq, beq_eq_false_iff_ne, UInt8.lt_iff_toNat_lt]
    rcases Nat.lt_trichotomy x.toNat y.toNat with h | h | h
    · exact .inl ⟨.inl h, ⟨by omega, .inl fun e => by rw [e] at h; omega⟩, fun e => by cases e; omega⟩
    · have e : x = y := UInt8.toNat_inj.1 h
      subst e
      rcases less_tri a b with ⟨h1, h2, h3⟩ | ⟨h1, h2, h3⟩ | h1
      · exact .inl ⟨.inr ⟨rfl, h1⟩, ⟨by omega, .inr h2⟩, fun e => h3 (by cases e; rfl)⟩
      · exact .inr (.inl ⟨⟨by omega, .inr h1⟩, .inr ⟨rfl, h2⟩, fun e => h3 (by cases e; rfl)⟩)
      · exact .inr (.inr (by rw [h1]))
    · exact .inr (.inl ⟨⟨by omega, .inl fun e => by rw [e] at h; omega⟩, .inl h, fun e => by cases e; omega⟩)
theorem less_trans : ∀ (a b d : List UInt8), Op.bytesLess a b = true → Op.bytesLess b d = true → Op.bytesLess a d = true
  | _, [], _, h, _ => by simp [Op.bytesLess] at h
  | _, _ :: _, [], _, h => by simp [Op.bytesLess] at h
  | [], _ :: _, _ :: _, _, _ => rfl
  | x :: a, y :: b, z :: d, h1, h2 => by
    simp only [Op.bytesLess, Bool.or_eq_true, Bool.and_eq_true, decide_eq_true_eq, beq_iff_eq, UInt8.lt_iff_toNat_lt] at h1 h2 ⊢
    rcases h1 with h1 | ⟨rfl, h1⟩
    · rcases h2 with h2 | ⟨rfl, h2⟩
      · left; omega
      · left; omega
    · rcases h2 with h2 | ⟨rfl, h2⟩
      · left; omega
      · exact .inr ⟨rfl, less_trans a b d h1 h2⟩
def lC (a b : List UInt8) : Int := bif Op.bytesLess a b then -1 else bif !(Op.bytesLess a b || a == b) then 1 else 0
theorem lC_val (a b : List UInt8) : (lC a b = -1 ∧ Op.bytesLess a b = true) ∨ (lC a b = 1 ∧ Op.bytesLess b a = true) ∨ (lC a b = 0 ∧ a = b) := by
  rcases less_tri a b with ⟨h1, h2, h3⟩ | ⟨h1, h2, h3⟩ | h1
  · exact .inl ⟨by unfold lC; rw [h1]; rfl, h1⟩
  · exact .inr (.inl ⟨by unfold lC; rw [h1, beq_false_of_ne h3]; rfl, h2⟩)
  · subst h1
    exact .inr (.inr ⟨by unfold lC; rw [less_irr, beq_self_eq_true]; rfl, rfl⟩)
theorem lC_ord : Ord3 lC where
  anti a b := by
    rcases less_tri a b with ⟨h1, h2, h3⟩ | ⟨h1, h2, h3⟩ | h1
    · unfold lC; rw [h1, h2, beq_false_of_ne (Ne.symm h3)]; rfl
    · unfold lC; rw [h1, h2, beq_false_of_ne h3]; rfl
    · subst h1; unfold lC; rw [less_irr, beq_self_eq_true]; rfl
  trans a b d h1 h2 := by
    rcases lC_val a b with ⟨e1, q1⟩ | ⟨e1, q1⟩ | ⟨e1, q1⟩
    · rcases lC_val b d with ⟨e2, q2⟩ | ⟨e2, q2⟩ | ⟨e2, q2⟩
      · have := less_trans a b d q1 q2
        unfold lC; rw [this]; exact (show (-1 : Int) ≤ 0 by decide)
      · omega
      · subst q2; exact h1
    · omega
    · subst q1; exact h2
theorem sC_ord : Ord3 sC := ⟨fun x y => lC_ord.anti x.toList y.toList, fun x y z => lC_ord.trans x.toList y.toList z.toList⟩
end Go.Pl
namespace Go.Pl
open Go Go.Ab
def lexK {α : Type} (key : α → Int) (c : Int → α → α → Int) (x y : α) : Int := if key x ≠ key y then iC (key x) (key y) else c (key x) x y
theorem iC_cases (a b : Int) : (a < b ∧ iC a b = -1) ∨ (a = b ∧ iC a b = 0) ∨ (b < a ∧ iC a b = 1) := by
  unfold iC
  by_cases h1 : a < b
  · exact .inl ⟨h1, if_pos h1⟩
  · by_cases h2 : a > b
    · exact .inr (.inr ⟨h2, by rw [if_neg h1, if_pos h2]⟩)
    · exact .inr (.inl ⟨by omega, by rw [if_neg h1, if_neg h2]⟩)
theorem lexK_ord {α : Type} {key : α → Int} {c : Int → α → α → Int} (h : ∀ k, Ord3 (c k)) : Ord3 (lexK key c) where
  anti x y := by
    unfold lexK
    by_cases e : key x = key y
    · rw [if_neg (by omega), if_neg (by omega), ← e]; exact (h _).anti x y
    · rw [if_pos (by omega), if_pos e]; exact iC_ord.anti _ _
  trans x y z := by
    unfold lexK
    intro h1 h2
    by_cases e1 : key x = key y
    · rw [if_neg (by omega)] at h1
      by_cases e2 : key y = key z
      · rw [if_neg (by omega)] at h2
        rw [if_neg (by omega)]
        exact (h _).trans x y z h1 (by rw [e1]; exact h2)
      · rw [if_pos e2] at h2
        rw [if_pos (by omega), e1]; exact h2
    · rw [if_pos e1] at h1
      by_cases e2 : key y = key z
      · rw [if_pos (by omega), ← e2]; exact h1
      · rw [if_pos e2] at h2
        have a1 := iC_cases (key x) (key y)
        have a2 := iC_cases (key y) (key z)
        have a3 := iC_cases (key x) (key z)
        rw [if_pos (by omega)]
        omega
theorem ord_map {α β : Type} {c : β → β → Int} (h : Ord3 c) (f : α → β) : Ord3 fun x y => c (f x) (f y) := ⟨fun x y => h.anti _ _, fun x y z => h.trans _ _ _⟩
theorem rd_nan {x : Nat} : isNan x = (match FloatKind.f64.format.read x with | .nan .. => true | _ => false) := by
  unfold isNan
  simp only [Ieee.Format.order]
  cases FloatKind.f64.format.read x with
  | nan => rfl
  | infinity s => cases s <;> rfl
  | number s m e => simp [Ieee.Datum.order]
def dR : Ieee.Datum → Int
  | .nan .. => 2
  | .infinity s => if s then -1 else 1
  | .number .. => 0
def dE : Ieee.Datum → Int
  | .number _ _ i => i
  | _ => 0
def dV (B : Int) : Ieee.Datum → Int
  | .number s m i => Ieee.signed s m (i - B).toNat
  | _ => 0
def kC (B : Int) : Ieee.Datum → Ieee.Datum → Int := lexK dR fun _ x y => iC (dV B x) (dV B y)
theorem kC_ord (B : Int) : Ord3 (kC B) := lexK_ord fun _ => ord_map iC_ord (dV B)
theorem signed_add (s : Bool) (m a k : Nat) : Ieee.signed s m (a + k) = Ieee.signed s m a * ((2 ^ k : Nat) : Int) := by
  unfold Ieee.signed
  rw [Nat.shiftLeft_eq, Nat.shiftLeft_eq, Nat.pow_add, ← Nat.mul_assoc]
  cases s
  · simp only [Bool.false_eq_true, if_false]; rw [Int.natCast_mul]
  · simp only [if_true]; rw [Int.natCast_mul, Int.neg_mul]
theorem iC_scale (a b : Int) {q : Nat} (h : 0 < q) : iC (a * (q : Int)) (b * (q : Int)) = iC a b := by
  have hq : (0 : Int) < (q : Int) := by omega
  rcases iC_cases a b with ⟨h1, h2⟩ | ⟨h1, h2⟩ | ⟨h1, h2⟩
  · rw [h2]
    have := Int.mul_lt_mul_of_pos_right h1 hq
    unfold iC; rw [if_pos this]
  · subst h1; rw [h2]; unfold iC; rw [if_neg (by omega), if_neg (by omega)]
  · rw [h2]
    have := Int.mul_lt_mul_of_pos_right h1 hq
    unfold iC; rw [if_neg (by omega), if_pos this]
theorem kC_base {B B' : Int} (x y : Ieee.Datum) (h : B ≤ B') (hx : dR x = 0 → B' ≤ dE x) (hy : dR y = 0 → B' ≤ dE y) : kC B x y = kC B' x y := by
  unfold kC lexK
  by_cases e : dR x = dR y
  · rw [if_neg (by omega), if_neg (by omega)]
    cases x with
    | number s m i =>
      cases y with
      | number t n j =>
        have h1 : B' ≤ i := hx rfl
        have h2 : B' ≤ j := hy rfl
        simp only [dV]
        rw [show (i - B).toNat = (i - B').toNat + (B' - B).toNat by omega, show (j - B).toNat = (j - B').toNat + (B' - B).toNat by omega, signed_add, signed_add, iC_scale _ _ (Nat.pow_pos (by decide))]
      | nan => simp [dR] at e
      | infinity t => exfalso; revert e; cases t <;> simp [dR]
    | nan => cases y with
      | number t n j => simp [dR] at e
      | nan => rfl
      | infinity t => rfl
    | infinity s => cases y with
      | number t n j => exfalso; revert e; cases s <;> simp [dR]
      | nan => rfl
      | infinity t => rfl
  · rw [if_pos e, if_pos e]
theorem cmp_iC (a b : Int) : (compare a b == .lt) = decide (a < b) ∧ (compare a b == .gt) = decide (a > b) := by
  rcases iC_cases a b with ⟨h1, _⟩ | ⟨h1, _⟩ | ⟨h1, _⟩
  · have : compare a b = .lt := Int.compare_eq_lt.2 h1
    rw [this, dT' h1, dF' (by omega)]; exact ⟨rfl, rfl⟩
  · have : compare a b = .eq := Int.compare_eq_eq.2 h1
    rw [this, dF' (by omega), dF' (by omega)]; exact ⟨rfl, rfl⟩
  · have : compare a b = .gt := Int.compare_eq_gt.2 h1
    rw [this, dF' (by omega), dT' h1]; exact ⟨rfl, rfl⟩
where
  dT' {p : Prop} [Decidable p] (h : p) : decide p = true := decide_eq_true h
  dF' {p : Prop} [Decidable p] (h : ¬ p) : decide p = false := decide_eq_false h
theorem fC_key (x y : Nat) : fC x y = kC (min (dE (FloatKind.f64.format.read x)) (dE (FloatKind.f64.format.read y))) (FloatKind.f64.format.read x) (FloatKind.f64.format.read y) := by
  unfold fC fLt fGt
  rw [rd_nan, rd_nan]
  simp only [Ieee.Format.order]
  cases FloatKind.f64.format.read x with
  | nan => cases FloatKind.f64.format.read y with
    | nan => rfl
    | infinity t => cases t <;> rfl
    | number t n j => rfl
  | infinity s => cases FloatKind.f64.format.read y with
    | nan => cases s <;> rfl
    | infinity t => cases s <;> cases t <;> rfl
    | number t n j => cases s <;> rfl
  | number s m i => cases FloatKind.f64.format.read y with
    | nan => rfl
    | infinity t => cases t <;> rfl
    | number t n j =>
      simp only [Ieee.Datum.order, kC, lexK, dR, dE, dV, ne_eq, not_true_eq_false, if_false, Bool.and_false, cond_false]
      have e1 := cmp_iC (Ieee.signed s m (i - min i j).toNat) (Ieee.signed t n (j - min i j).toNat)
      rw [show (some (compare (Ieee.signed s m (i - min i j).toNat) (Ieee.signed t n (j - min i j).toNat)) == some Ordering.lt) = (compare (Ieee.signed s m (i - min i j).toNat) (Ieee.signed t n (j - min i j).toNat) == Ordering.lt) from rfl, show (some (compare (Ieee.signed s m (i - min i j).toNat) (Ieee.signed t n (j - min i j).toNat)) == some Ordering.gt) = (compare (Ieee.signed s m (i - min i j).toNat) (Ieee.signed t n (j - min i j).toNat) == Ordering.gt) from rfl, e1.1, e1.2]
      unfold iC
      generalize Ieee.signed s m (i - min i j).toNat = a
      generalize Ieee.signed t n (j - min i j).toNat = b
      by_cases h1 : a < b
      · rw [if_pos h1, decide_eq_true h1]; rfl
      · rw [if_neg h1, decide_eq_false h1, cond_false]
        by_cases h2 : a > b
        · rw [if_pos h2, decide_eq_true h2]; rfl
        · rw [if_neg h2, decide_eq_false h2]; rfl
theorem fC_at {B : Int} {x y : Nat} (hx : B ≤ dE (FloatKind.f64.format.read x)) (hy : B ≤ dE (FloatKind.f64.format.read y)) : fC x y = kC B (FloatKind.f64.format.read x) (FloatKind.f64.format.read y) := by
  rw [fC_key]
  exact (kC_base _ _ (by omega) (fun _ => by omega) (fun _ => by omega)).symm
theorem fC_ord : Ord3 fC where
  anti x y := by
    rw [fC_at (B := min (dE (FloatKind.f64.format.read x)) (dE (FloatKind.f64.format.read y))) (x := y) (y := x) (by omega) (by omega), fC_key]
    exact (kC_ord _).anti _ _
  trans x y z := by
    rw [fC_at (B := min (min (dE (FloatKind.f64.format.read x)) (dE (FloatKind.f64.format.read y))) (dE (FloatKind.f64.format.read z))) (x := x) (y := y) (by omega) (by omega),
      fC_at (B := min (min (dE (FloatKind.f64.format.read x)) (dE (FloatKind.f64.format.read y))) (dE (FloatKind.f64.format.read z))) (x := y) (y := z) (by omega) (by omega),
      fC_at (B := min (min (dE (FloatKind.f64.format.read x)) (dE (FloatKind.f64.format.read y))) (dE (FloatKind.f64.format.read z))) (x := x) (y := z) (by omega) (by omega)]
    exact (kC_ord _).trans _ _ _
theorem vC_ord : Ord3 vC := by
  have : Ord3 (lexK (fun v : api_Value => v.fKind) (fun k p q => if k = 3 then fC p.fFloat q.fFloat else if k = 4 then sC p.fText q.fText else iC p.fInt q.fInt)) := by
    refine lexK_ord fun k => ?_
    by_cases h3 : k = 3
    · simp only [h3, if_true]; exact ord_map fC_ord (fun v : api_Value => v.fFloat)
    · by_cases h4 : k = 4
      · simp only [h4, if_true, if_neg (by decide : ¬ (4 : Int) = 3)]; exact ord_map sC_ord (fun v : api_Value => v.fText)
      · simp only [h3, h4, if_false]; exact ord_map iC_ord (fun v : api_Value => v.fInt)
  exact this
theorem vCmp_ord : Ord3 vCmp := ord_map vC_ord vPlain
end Go.Pl
namespace Go.Pl
open Go Go.Ab
end Go.Pl
namespace Go.Pl
open Go Go.Ab
theorem dT {p : Prop} [Decidable p] (h : p) : decide p = true := decide_eq_true h
theorem dF {p : Prop} [Decidable p] (h : ¬ p) : decide p = false := decide_eq_false h
theorem wv {x : Int} {v : Nat} (h : x = (v : Int)) (hv : v < 1000000000000) : IntKind.wrap .i64 x = (v : Int) := by
  subst h; exact wrapI (by omega) (by omega)
theorem bitsLen_iff {x k : Nat} (h1 : 2 ^ k ≤ x) (h2 : x < 2 ^ (k + 1)) : Sort.bitsLen x = k + 1 := by
  unfold Sort.bitsLen
  have hp : 0 < 2 ^ k := Nat.pow_pos (by decide)
  rw [if_neg (by omega)]
  have h3 : k ≤ Nat.log2 x := (Nat.le_log2 (by omega)).2 h1
  have h4 : Nat.log2 x < k + 1 := (Nat.log2_lt (by omega)).2 h2
  omega
theorem bitsLen_shift {x s : Nat} (h : 2 ^ s ≤ x) : Sort.bitsLen x = s + Sort.bitsLen (x / 2 ^ s) := by
  have hs : 0 < 2 ^ s := Nat.pow_pos (by decide)
  have hq : 1 ≤ x / 2 ^ s := (Nat.one_le_div_iff hs).2 h
  have h1 := Nat.log2_self_le (n := x / 2 ^ s) (by omega)
  have h2 := Nat.lt_log2_self (n := x / 2 ^ s)
  have e : Sort.bitsLen (x / 2 ^ s) = Nat.log2 (x / 2 ^ s) + 1 := by unfold Sort.bitsLen; rw [if_neg (by omega)]
  rw [e]
  have := bitsLen_iff (x := x) (k := s + Nat.log2 (x / 2 ^ s)) (by
    rw [Nat.pow_add]
    calc 2 ^ s * 2 ^ (x / 2 ^ s).log2 ≤ 2 ^ s * (x / 2 ^ s) := Nat.mul_le_mul_left _ h1
      _ ≤ x := Nat.mul_div_le x (2 ^ s)) (by
    rw [show s + Nat.log2 (x / 2 ^ s) + 1 = s + (Nat.log2 (x / 2 ^ s) + 1) by omega, Nat.pow_add]
    rw [Nat.mul_comm]
    exact (Nat.div_lt_iff_lt_mul hs).1 h2)
  omega
def lenTab : ByteArray := ByteArray.mk #[0, 1, 2, 2, 3, 3, 3, 3, 4, 4, 4, 4, 4, 4, 4, 4, 5, 5, 5, 5, 5, 5, 5, 5, 5, 5, 5, 5, 5, 5, 5, 5, 6, 6, 6, 6, 6, 6, 6, 6, 6, 6, 6, 6, 6, 6, 6, 6, 6, 6, 6, 6, 6, 6, 6, 6, 6, 6, 6, 6, 6, 6, 6, 6, 7, 7, 7, 7, 7, 7, 7, 7, 7, 7, 7, 7, 7, 7, 7, 7, 7, 7, 7, 7, 7, 7, 7, 7, 7, 7, 7, 7, 7, 7, 7, 7, 7, 7, 7, 7, 7, 7, 7, 7, 7, 7, 7, 7, 7, 7, 7, 7, 7, 7, 7, 7, 7, 7, 7, 7, 7, 7, 7, 7, 7, 7, 7, 7, 8, 8, 8, 8, 8, 8, 8, 8, 8, 8, 8, 8, 8, 8, 8, 8, 8, 8, 8, 8, 8, 8, 8, 8, 8, 8, 8, 8, 8, 8, 8, 8, 8, 8, 8, 8, 8, 8, 8, 8, 8, 8, 8, 8, 8, 8, 8, 8, 8, 8, 8, 8, 8, 8, 8, 8, 8, 8, 8, 8, 8, 8, 8, 8, 8, 8, 8, 8, 8, 8, 8, 8, 8, 8, 8, 8, 8, 8, 8, 8, 8, 8, 8, 8, 8, 8, 8, 8, 8, 8, 8, 8, 8, 8, 8, 8, 8, 8, 8, 8, 8, 8, 8, 8, 8, 8, 8, 8, 8, 8, 8, 8, 8, 8, 8, 8, 8, 8, 8, 8, 8, 8, 8, 8, 8, 8, 8, 8]
theorem lenTab_ok : ∀ y : Fin 256, idxS lenTab (y.val : Int) = some ((Sort.bitsLen y.val : Nat) : Int) := by decide +kernel
theorem shr_nat (v s : Nat) (hs : s ≤ 64) : iShr .u64 (v : Int) (s : Int) = ((v / 2 ^ s : Nat) : Int) := by
  unfold iShr
  rw [Int.toNat_natCast, show min s IntKind.u64.bits = s from Nat.min_eq_left hs]
  rw [Int.fdiv_eq_ediv_of_nonneg _ (Int.le_of_lt (Int.pow_pos (by decide)))]
  rw [show ((2 : Int) ^ s) = ((2 ^ s : Nat) : Int) by simp]
  omega
theorem bitsLen_le {y : Nat} (h : y < 256) : Sort.bitsLen y ≤ 8 := by
  unfold Sort.bitsLen
  split
  · omega
  · have : Nat.log2 y < 8 := (Nat.log2_lt (by omega)).2 (by omega)
    omega
def lenBody (T : ByteArray) (a0 : Int) : Option Int :=
  withK (fun k4 => bif (decide (a0 ≥ 4294967296)) then k4 (iShr .u64 a0 32) 32 else k4 a0 0) (fun (y2 : Int) (y3 : Int) => withK (fun k8 => bif (decide (y2 ≥ 65536)) then k8 (iShr .u64 y2 16) (IntKind.wrap .i64 (y3 + 16)) else k8 y2 y3) (fun (y6 : Int) (y7 : Int) => withK (fun k12 => bif (decide (y6 ≥ 256)) then k12 (iShr .u64 y6 8) (IntKind.wrap .i64 (y7 + 8)) else k12 y6 y7) (fun (y10 : Int) (y11 : Int) => (idxS T (IntKind.wrap .u8 y10)).bind fun x13 => some (IntKind.wrap .i64 (y11 + (IntKind.wrap .i64 x13))))))
theorem len64_all {x : Nat} (hx : x < 18446744073709551616) {n : Nat} (h : 1 ≤ n) : math_bits_Len64 n (x : Int) = some ((Sort.bitsLen x : Nat) : Int) := by
  obtain ⟨n, rfl⟩ : ∃ k, n = k + 1 := ⟨n - 1, by omega⟩
  refine Eq.trans (show math_bits_Len64 (n + 1) (x : Int) = lenBody lenTab (x : Int) from rfl) ?_
  unfold lenBody
  simp only [withK]
  have hT := lenTab_ok
  generalize lenTab = T at hT
  have last : ∀ (y add : Nat), y < 256 → add ≤ 56 → ((idxS T (IntKind.wrap .u8 (y : Int))).bind fun x13 => some (IntKind.wrap .i64 ((add : Int) + (IntKind.wrap .i64 x13)))) = some ((add + Sort.bitsLen y : Nat) : Int) := by
    intro y add hy ha
    have hl := bitsLen_le hy
    rw [wrapY (by omega) (by omega), hT ⟨y, hy⟩, Option.bind_some]
    show some (IntKind.wrap .i64 ((add : Int) + (IntKind.wrap .i64 ((Sort.bitsLen y : Nat) : Int)))) = _
    rw [show IntKind.wrap .i64 ((Sort.bitsLen y : Nat) : Int) = ((Sort.bitsLen y : Nat) : Int) from wv rfl (by omega)]
    congr 1
    exact wv (by omega) (by omega)
  have mid : ∀ (y add : Nat), y < 65536 → add ≤ 48 → (bif (decide ((y : Int) ≥ 256)) then ((idxS T (IntKind.wrap .u8 (iShr .u64 (y : Int) 8))).bind fun x13 => some (IntKind.wrap .i64 ((IntKind.wrap .i64 ((add : Int) + 8)) + (IntKind.wrap .i64 x13)))) else ((idxS T (IntKind.wrap .u8 (y : Int))).bind fun x13 => some (IntKind.wrap .i64 ((add : Int) + (IntKind.wrap .i64 x13))))) = some ((add + Sort.bitsLen y : Nat) : Int) := by
    intro y add hy ha
    by_cases h : 256 ≤ y
    · rw [dT (by omega : (y : Int) ≥ 256), cond_true]
      rw [show iShr .u64 (y : Int) 8 = ((y / 2 ^ 8 : Nat) : Int) from shr_nat y 8 (by omega), show IntKind.wrap .i64 ((add : Int) + 8) = ((add + 8 : Nat) : Int) from wv (by omega) (by omega), last _ _ (by omega) (by omega), bitsLen_shift (s := 8) (x := y) (by omega)]
      congr 2
      omega
    · rw [dF (by omega : ¬ (y : Int) ≥ 256), cond_false]
      exact last y add (by omega) (by omega)
  have top : ∀ (x add : Nat), x < 4294967296 → add ≤ 32 → (bif (decide ((x : Int) ≥ 65536)) then (bif (decide (iShr .u64 (x : Int) 16 ≥ 256)) then ((idxS T (IntKind.wrap .u8 (iShr .u64 (iShr .u64 (x : Int) 16) 8))).bind fun x13 => some (IntKind.wrap .i64 ((IntKind.wrap .i64 (IntKind.wrap .i64 ((add : Int) + 16) + 8)) + (IntKind.wrap .i64 x13)))) else ((idxS T (IntKind.wrap .u8 (iShr .u64 (x : Int) 16))).bind fun x13 => some (IntKind.wrap .i64 (IntKind.wrap .i64 ((add : Int) + 16) + (IntKind.wrap .i64 x13))))) else (bif (decide ((x : Int) ≥ 256)) then ((idxS T (IntKind.wrap .u8 (iShr .u64 (x : Int) 8))).bind fun x13 => some (IntKind.wrap .i64 ((IntKind.wrap .i64 ((add : Int) + 8)) + (IntKind.wrap .i64 x13)))) else ((idxS T (IntKind.wrap .u8 (x : Int))).bind fun x13 => some (IntKind.wrap .i64 ((add : Int) + (IntKind.wrap .i64 x13)))))) = some ((add + Sort.bitsLen x : Nat) : Int) := by
    intro x add hx ha
    by_cases h : 65536 ≤ x
    · rw [dT (by omega : (x : Int) ≥ 65536), cond_true]
      rw [show iShr .u64 (x : Int) 16 = ((x / 2 ^ 16 : Nat) : Int) from shr_nat x 16 (by omega), show IntKind.wrap .i64 ((add : Int) + 16) = ((add + 16 : Nat) : Int) from wv (by omega) (by omega), mid (x / 2 ^ 16) (add + 16) (by omega) (by omega), bitsLen_shift (s := 16) (x := x) (by omega)]
      congr 2
      omega
    · rw [dF (by omega : ¬ (x : Int) ≥ 65536), cond_false]
      exact mid x add (by omega) (by omega)
  by_cases h : 4294967296 ≤ x
  · rw [dT (by omega : (x : Int) ≥ 4294967296), cond_true]
    rw [show iShr .u64 (x : Int) 32 = ((x / 2 ^ 32 : Nat) : Int) from shr_nat x 32 (by omega)]
    have := top (x / 2 ^ 32) 32 (by omega) (by omega)
    rw [← bitsLen_shift (s := 32) (x := x) (by omega)] at this
    exact this
  · rw [dF (by omega : ¬ (x : Int) ≥ 4294967296), cond_false]
    have := top x 0 (by omega) (by omega)
    rw [Nat.zero_add] at this
    exact this
end Go.Pl
namespace Go.Pl
open Go Go.Ab
theorem uwrap {x : Int} {v : Nat} (h : x = (v : Int)) (hv : v < 18446744073709551616) : IntKind.wrap .u64 x = (v : Int) := by
  subst h; exact wrapU (by omega) (by omega)
theorem uwrap_mod (x : Nat) : IntKind.wrap .u64 (x : Int) = ((x % 18446744073709551616 : Nat) : Int) := by
  simp [IntKind.wrap, IntKind.signed, IntKind.bits]
theorem uwrap_mul (a b : Nat) : IntKind.wrap .u64 ((a : Int) * (b : Int)) = ((a * b % 18446744073709551616 : Nat) : Int) := by
  rw [show (a : Int) * (b : Int) = ((a * b : Nat) : Int) by simp]; exact uwrap_mod _
theorem uwrap_sub {a b r : Nat} (h : ((a : Int) - (b : Int)) % 18446744073709551616 = (r : Int) % 18446744073709551616) (hr : r < 18446744073709551616) : IntKind.wrap .u64 ((a : Int) - (b : Int)) = (r : Int) := by
  simp only [IntKind.wrap, IntKind.signed, IntKind.bits]
  simp
  omega
theorem shl_nat (v s : Nat) (hs : s ≤ 64) : iShl .u64 (v : Int) (s : Int) = ((v * 2 ^ s % 18446744073709551616 : Nat) : Int) := by
  unfold iShl
  rw [Int.toNat_natCast, show min s IntKind.u64.bits = s from Nat.min_eq_left hs, show ((2 : Int) ^ s) = ((2 ^ s : Nat) : Int) by simp, uwrap_mul]
theorem and_mask (v : Nat) (hv : v < 18446744073709551616) : iAnd .u64 (v : Int) 4294967295 = ((v % 4294967296 : Nat) : Int) := by
  unfold iAnd
  have e1 : (BitVec.ofInt IntKind.u64.bits (v : Int)).toNat = v := by rw [BitVec.toNat_ofInt]; simp only [IntKind.bits]; omega
  have e2 : (BitVec.ofInt IntKind.u64.bits (4294967295 : Int)).toNat = 2 ^ 32 - 1 := by decide
  rw [BitVec.toNat_and, e1, e2, Nat.and_two_pow_sub_one_eq_mod]
  exact uwrap rfl (by omega)
theorem or_nat {a b s : Nat} (ha : a < 2 ^ s) (hb : b * 2 ^ s + a < 18446744073709551616) : iOr .u64 ((b * 2 ^ s : Nat) : Int) (a : Int) = ((b * 2 ^ s + a : Nat) : Int) := by
  unfold iOr
  have e1 : (BitVec.ofInt IntKind.u64.bits (a : Int)).toNat = a := by rw [BitVec.toNat_ofInt]; simp only [IntKind.bits]; omega
  have e2 : (BitVec.ofInt IntKind.u64.bits ((b * 2 ^ s : Nat) : Int)).toNat = b * 2 ^ s := by rw [BitVec.toNat_ofInt]; simp only [IntKind.bits]; omega
  rw [BitVec.toNat_or, e1, e2, Nat.mul_comm b, ← Nat.two_pow_add_eq_or_of_lt ha]
  rw [Nat.mul_comm b] at hb
  exact uwrap rfl hb
theorem knuth {R : Type} {F : Nat → Nat → Nat → Option R} {K : Nat → Option R} {y1 y0 U d : Nat} (h1 : 2147483648 ≤ y1) (h1' : y1 < 4294967296) (h0 : y0 < 4294967296) (hU : U < y1 * 4294967296 + y0) (hd : d < 4294967296)
    (hF : ∀ m q r, q ≤ 4294967297 → r < 4294967296 → F (m + 1) q r = if q ≥ 4294967296 ∨ q * y0 > 4294967296 * r + d then (if r + y1 ≥ 4294967296 then K (q - 1) else F m (q - 1) (r + y1)) else K q) :
    ∀ (k m q r : Nat), 4294967296 ≤ r + k * 2147483648 → k < m → q ≤ 4294967297 → r < 4294967296 → q * y1 + r = U → (U * 4294967296 + d) / (y1 * 4294967296 + y0) ≤ q → F m q r = K ((U * 4294967296 + d) / (y1 * 4294967296 + y0)) := by
  have hy : 0 < y1 * 4294967296 + y0 := by omega
  have hle : ∀ x, x ≤ (U * 4294967296 + d) / (y1 * 4294967296 + y0) ↔ x * (y1 * 4294967296 + y0) ≤ U * 4294967296 + d := fun x => Nat.le_div_iff_mul_le hy
  generalize (U * 4294967296 + d) / (y1 * 4294967296 + y0) = Q at hle
  have hQ : Q < 4294967296 := by
    have := hle 4294967296
    omega
  have key : ∀ q r, q * y1 + r = U → q * (y1 * 4294967296 + y0) = (U - r) * 4294967296 + q * y0 := by
    intro q r e
    have e2 : U - r = q * y1 := by omega
    rw [e2, Nat.mul_add, Nat.mul_assoc]
  intro k
  induction k with
  | zero => intro m q r hk _ _ hr; omega
  | succ k ih =>
    intro m q r hk hm hq hr he hge
    obtain ⟨m, rfl⟩ : ∃ j, m = j + 1 := ⟨m - 1, by omega⟩
    rw [hF m q r hq hr]
    have kq := key q r he
    have hrU : r ≤ U := by omega
    have hlq := hle q
    rw [kq] at hlq
    by_cases hc : q ≥ 4294967296 ∨ q * y0 > 4294967296 * r + d
    · rw [if_pos hc]
      have hlt : Q < q := by
        rcases hc with hc | hc
        · omega
        · generalize q * y0 = z at hc hlq
          omega
      have he' : (q - 1) * y1 + (r + y1) = U := by
        obtain ⟨p, rfl⟩ : ∃ p, q = p + 1 := ⟨q - 1, by omega⟩
        rw [Nat.add_mul] at he
        rw [Nat.add_sub_cancel]
        omega
      by_cases hb : r + y1 ≥ 4294967296
      · rw [if_pos hb]
        have hl1 := hle (q - 1)
        rw [key (q - 1) (r + y1) he'] at hl1
        have h3 : r + y1 ≤ U := by omega
        have h4 : (q - 1) * y0 ≤ 4294967296 * (r + y1) := Nat.le_trans (Nat.mul_le_mul (show q - 1 ≤ 4294967296 by omega) (Nat.le_of_lt h0)) (Nat.mul_le_mul_left _ hb)
        generalize (q - 1) * y0 = z at h4 hl1
        have : q - 1 = Q := by omega
        rw [this]
      · rw [if_neg hb]
        refine ih m (q - 1) (r + y1) ?_ (by omega) (by omega) (by omega) he' (by omega)
        rw [Nat.succ_mul] at hk
        omega
    · rw [if_neg hc]
      generalize q * y0 = z at hc hlq
      have : q = Q := by omega
      rw [this]
theorem guess {y1 y0 U d : Nat} (h1 : 2147483648 ≤ y1) (h0 : y0 < 4294967296) (hU : U < y1 * 4294967296 + y0) (hd : d < 4294967296) :
    U / y1 ≤ 4294967297 ∧ (U * 4294967296 + d) / (y1 * 4294967296 + y0) ≤ U / y1 := by
  constructor
  · have : U / y1 < 4294967298 := by
      rw [Nat.div_lt_iff_lt_mul (by omega)]
      omega
    omega
  · rw [Nat.le_div_iff_mul_le (by omega)]
    have hy : 0 < y1 * 4294967296 + y0 := by omega
    have h := Nat.div_mul_le_self (U * 4294967296 + d) (y1 * 4294967296 + y0)
    generalize (U * 4294967296 + d) / (y1 * 4294967296 + y0) = Q at h
    rw [Nat.mul_add, ← Nat.mul_assoc] at h
    generalize Q * y1 = z at h
    generalize Q * y0 = w at h
    omega
end Go.Pl
set_option maxRecDepth 100000
namespace Go.Pl
open Go Go.Ab
theorem mul_lt_w {a b : Nat} (ha : a < 4294967296) (hb : b < 4294967296) : a * b < 18446744073709551616 := by
  have := Nat.mul_le_mul (show a ≤ 4294967295 by omega) (show b ≤ 4294967295 by omega)
  omega
theorem ask {q y0 r d : Nat} (hq : q ≤ 4294967297) (h0 : y0 < 4294967296) (hr : r < 4294967296) (hd : d < 4294967296) :
    (decide ((q : Int) ≥ 4294967296) || decide (IntKind.wrap .u64 ((q : Int) * (y0 : Int)) > IntKind.wrap .u64 (IntKind.wrap .u64 (4294967296 * (r : Int)) + (d : Int)))) = decide (q ≥ 4294967296 ∨ q * y0 > 4294967296 * r + d) := by
  by_cases h : q ≥ 4294967296
  · rw [dT (by omega : (q : Int) ≥ 4294967296), Bool.true_or, dT (.inl h)]
  · have e := mul_lt_w (a := q) (by omega) h0
    have e1 : IntKind.wrap .u64 (4294967296 * (r : Int)) = ((4294967296 * r : Nat) : Int) := uwrap (by omega) (by omega)
    have e2 : IntKind.wrap .u64 (((4294967296 * r : Nat) : Int) + (d : Int)) = ((4294967296 * r + d : Nat) : Int) := uwrap (by omega) (by omega)
    have e3 : IntKind.wrap .u64 ((q : Int) * (y0 : Int)) = ((q * y0 : Nat) : Int) := uwrap (by simp) e
    rw [dF (by omega : ¬ (q : Int) ≥ 4294967296), Bool.false_or, e1, e2, e3, decide_eq_decide]
    omega
structure Norm (hi lo y s b Y U L : Nat) : Prop where
  hs : s + b = 64
  eY : iShl .u64 (y : Int) (s : Int) = (Y : Int)
  eU : iOr .u64 (iShl .u64 (hi : Int) (s : Int)) (iShr .u64 (lo : Int) (b : Int)) = (U : Int)
  eL : iShl .u64 (lo : Int) (s : Int) = (L : Int)
  hY : 9223372036854775808 ≤ Y
  hY' : Y < 18446744073709551616
  hU : U < Y
  hL : L < 18446744073709551616
  hQ : (hi * 18446744073709551616 + lo) / y = (U * 18446744073709551616 + L) / Y
theorem norm {hi lo y : Nat} (hlo : lo < 18446744073709551616) (hy : y < 18446744073709551616) (hh : hi < y) : ∃ Y U L, Norm hi lo y (64 - Sort.bitsLen y) (Sort.bitsLen y) Y U L := by
  have hb1 : 1 ≤ Sort.bitsLen y := by unfold Sort.bitsLen; rw [if_neg (by omega)]; omega
  have hb2 : Sort.bitsLen y ≤ 64 := by
    unfold Sort.bitsLen; rw [if_neg (by omega)]
    have : Nat.log2 y < 64 := (Nat.log2_lt (by omega)).2 (by omega)
    omega
  have hl : 2 ^ (Sort.bitsLen y - 1) ≤ y := by
    have := Nat.log2_self_le (n := y) (by omega)
    unfold Sort.bitsLen; rw [if_neg (by omega), Nat.add_sub_cancel]; exact this
  have hu : y < 2 ^ Sort.bitsLen y := by
    have := Nat.lt_log2_self (n := y)
    unfold Sort.bitsLen; rw [if_neg (by omega)]; exact this
  generalize Sort.bitsLen y = b at *
  obtain ⟨s, hs⟩ : ∃ s, s = 64 - b := ⟨_, rfl⟩
  rw [← hs]
  have hp : 2 ^ b * 2 ^ s = 18446744073709551616 := by rw [← Nat.pow_add, show b + s = 64 by omega]
  have hp2 : 2 ^ (b - 1) * 2 ^ s = 9223372036854775808 := by rw [← Nat.pow_add, show b - 1 + s = 63 by omega]
  have hps : 0 < 2 ^ s := Nat.pow_pos (by decide)
  have hpb : 0 < 2 ^ b := Nat.pow_pos (by decide)
  have hY1 : 9223372036854775808 ≤ y * 2 ^ s := by rw [← hp2]; exact Nat.mul_le_mul_right _ hl
  have hY2 : y * 2 ^ s < 18446744073709551616 := by rw [← hp]; exact Nat.mul_lt_mul_of_pos_right hu hps
  have hq : lo / 2 ^ b < 2 ^ s := by rw [Nat.div_lt_iff_lt_mul hpb, Nat.mul_comm, hp]; exact hlo
  have hU1 : hi * 2 ^ s + lo / 2 ^ b < y * 2 ^ s := by
    have : (hi + 1) * 2 ^ s ≤ y * 2 ^ s := Nat.mul_le_mul_right _ hh
    rw [Nat.add_mul, Nat.one_mul] at this
    omega
  have hd : lo * 2 ^ s / 18446744073709551616 = lo / 2 ^ b := by rw [← hp, Nat.mul_div_mul_right _ _ hps]
  refine ⟨y * 2 ^ s, hi * 2 ^ s + lo / 2 ^ b, lo * 2 ^ s % 18446744073709551616, by omega, ?_, ?_, ?_, hY1, hY2, hU1, Nat.mod_lt _ (by decide), ?_⟩
  · rw [shl_nat y s (by omega), Nat.mod_eq_of_lt hY2]
  · rw [shl_nat hi s (by omega), shr_nat lo b (by omega), Nat.mod_eq_of_lt (by omega)]
    exact or_nat hq (by omega)
  · rw [shl_nat lo s (by omega)]
  · have e : (hi * 2 ^ s + lo / 2 ^ b) * 18446744073709551616 + lo * 2 ^ s % 18446744073709551616 = (hi * 18446744073709551616 + lo) * 2 ^ s := by
      rw [← hd]
      have := Nat.div_add_mod (lo * 2 ^ s) 18446744073709551616
      rw [Nat.add_mul, Nat.add_mul, Nat.mul_right_comm]
      generalize lo * 2 ^ s = z at *
      omega
    rw [e, Nat.mul_div_mul_right _ _ hps]
theorem left {U d Y q R : Nat} (hY' : Y < 18446744073709551616) (hR : R < Y) (hd : d < 4294967296) (hz : Y * q + R = U * 4294967296 + d) :
    IntKind.wrap .u64 (IntKind.wrap .u64 (IntKind.wrap .u64 ((U : Int) * 4294967296) + (d : Int)) - IntKind.wrap .u64 ((q : Int) * (Y : Int))) = (R : Int) := by
  have e1 : IntKind.wrap .u64 ((U : Int) * 4294967296) = ((U * 4294967296 % 18446744073709551616 : Nat) : Int) := uwrap_mul U 4294967296
  have e2 : IntKind.wrap .u64 (((U * 4294967296 % 18446744073709551616 : Nat) : Int) + (d : Int)) = (((U * 4294967296 % 18446744073709551616 + d) % 18446744073709551616 : Nat) : Int) := by
    rw [show ((U * 4294967296 % 18446744073709551616 : Nat) : Int) + (d : Int) = ((U * 4294967296 % 18446744073709551616 + d : Nat) : Int) by omega]; exact uwrap_mod _
  rw [e1, e2, uwrap_mul]
  rw [Nat.mul_comm] at hz
  refine uwrap_sub ?_ (by omega)
  generalize q * Y = z at hz ⊢
  omega
theorem fin_div {U L Y q1 q0 R1 R0 : Nat} (r0 : R0 < Y) (d1 : Y * q1 + R1 = U * 4294967296 + L / 4294967296) (d0 : Y * q0 + R0 = R1 * 4294967296 + L % 4294967296) : (U * 18446744073709551616 + L) / Y = q1 * 4294967296 + q0 := by
  have e : (q1 * 4294967296 + q0) * Y = Y * q1 * 4294967296 + Y * q0 := by
    rw [Nat.add_mul, Nat.mul_comm q0 Y, Nat.mul_right_comm, Nat.mul_comm q1 Y]
  have e2 : (q1 * 4294967296 + q0 + 1) * Y = Y * q1 * 4294967296 + Y * q0 + Y := by rw [Nat.succ_mul, e]
  refine Nat.div_eq_of_lt_le ?_ ?_
  · rw [e]
    generalize Y * q1 = z at *
    generalize Y * q0 = w at *
    omega
  · rw [e2]
    generalize Y * q1 = z at *
    generalize Y * q0 = w at *
    omega
theorem wU {U y1 : Nat} (h1 : 2147483648 ≤ y1) (hU : U < 18446744073709551616) : IntKind.wrap .u64 (Int.tdiv (U : Int) (y1 : Int)) = ((U / y1 : Nat) : Int) ∧ IntKind.wrap .u64 ((U : Int) - IntKind.wrap .u64 (((U / y1 : Nat) : Int) * (y1 : Int))) = ((U % y1 : Nat) : Int) := by
  have h2 := Nat.div_le_self U y1
  have h3 := Nat.div_add_mod U y1
  have h4 := Nat.mod_lt U (show 0 < y1 by omega)
  rw [Nat.mul_comm] at h3
  constructor
  · rw [show (U : Int).tdiv (y1 : Int) = ((U / y1 : Nat) : Int) from rfl]
    generalize U / y1 = q at *
    exact uwrap rfl (by omega)
  · have e : IntKind.wrap .u64 (((U / y1 : Nat) : Int) * (y1 : Int)) = ((U / y1 * y1 : Nat) : Int) := uwrap (by simp) (by generalize U / y1 * y1 = z at *; omega)
    rw [e]
    generalize U / y1 * y1 = z at *
    generalize U % y1 = w at *
    exact uwrap (by omega) (by omega)
theorem div64_ok {hi lo y : Nat} (hlo : lo < 18446744073709551616) (hy : y < 18446744073709551616) (hh : hi < y) {n : Nat} (hn : 10 ≤ n) : ∃ r : Int, math_bits_Div64 n (hi : Int) (lo : Int) (y : Int) = some ((((hi * 18446744073709551616 + lo) / y : Nat) : Int), r) := by
  obtain ⟨n, rfl⟩ : ∃ k, n = k + 2 := ⟨n - 2, by omega⟩
  unfold math_bits_Div64
  rw [at1_succ, show ((y : Int) == 0) = false by simp; omega, cond_false, dF (by omega : ¬ (y : Int) ≤ (hi : Int)), cond_false]
  have hz : ckZ (y : Int) = some () := by unfold ckZ; rw [if_neg (by omega)]
  by_cases h0 : hi = 0
  · subst h0
    rw [show (((0 : Nat) : Int) == 0) = true from rfl, cond_true, hz, Option.bind_some, Option.bind_some]
    refine ⟨_, congrArg (fun x => some (x, _)) ?_⟩
    have := Nat.div_le_self lo y
    rw [show (lo : Int).tdiv (y : Int) = ((lo / y : Nat) : Int) from rfl, Nat.zero_mul, Nat.zero_add]
    generalize lo / y = q at *
    exact uwrap rfl (by omega)
  · obtain ⟨Y, U, L, N⟩ := norm hlo hy hh
    have hN := N.hs
    have hlz : math_bits_LeadingZeros64 (n + 1) (y : Int) = some (((64 - Sort.bitsLen y : Nat)) : Int) := by
      unfold math_bits_LeadingZeros64
      rw [at1_succ, len64_all hy (by omega), Option.bind_some, wv (v := 64 - Sort.bitsLen y) (by omega) (by omega)]
    rw [show ((hi : Int) == 0) = false by simp; omega, cond_false, hlz, Option.bind_some]
    obtain ⟨hs, eY, eU, eL, hY, hY', hU, hL, hQ⟩ := N
    generalize 64 - Sort.bitsLen y = s at *
    generalize Sort.bitsLen y = b at *
    have ws : IntKind.wrap .u64 (s : Int) = (s : Int) := uwrap rfl (by omega)
    have wb : IntKind.wrap .u64 (64 - (s : Int)) = (b : Int) := uwrap (by omega) (by omega)
    have k1 : ckN (s : Int) = some () := by unfold ckN; rw [if_neg (by omega)]
    have k2 : ckN (b : Int) = some () := by unfold ckN; rw [if_neg (by omega)]
    have a1 : iShr .u64 (Y : Int) 32 = ((Y / 4294967296 : Nat) : Int) := shr_nat Y 32 (by omega)
    have a0 : iAnd .u64 (Y : Int) 4294967295 = ((Y % 4294967296 : Nat) : Int) := and_mask Y hY'
    have c1 : iShr .u64 (L : Int) 32 = ((L / 4294967296 : Nat) : Int) := shr_nat L 32 (by omega)
    have c0 : iAnd .u64 (L : Int) 4294967295 = ((L % 4294967296 : Nat) : Int) := and_mask L hL
    have y1a : 2147483648 ≤ Y / 4294967296 := by omega
    have y1b : Y / 4294967296 < 4294967296 := by omega
    have y0b : Y % 4294967296 < 4294967296 := by omega
    have eYY : Y / 4294967296 * 4294967296 + Y % 4294967296 = Y := by omega
    have k3 : ckZ ((Y / 4294967296 : Nat) : Int) = some () := by unfold ckZ; rw [if_neg (by omega)]
    have l1b : L / 4294967296 < 4294967296 := by omega
    have l0b : L % 4294967296 < 4294967296 := by omega
    obtain ⟨u1, u2⟩ := wU y1a (show U < 18446744073709551616 by omega)
    rw [ws, k1, Option.bind_some, Option.bind_some, wb, k2, Option.bind_some, Option.bind_some, eY, a1, k3, Option.bind_some, eU, u1, u2]
    -- the first digit
    obtain ⟨q1, hq1⟩ : ∃ q, q = (U * 4294967296 + L / 4294967296) / Y := ⟨_, rfl⟩
    obtain ⟨R1, hR1⟩ : ∃ r, r = (U * 4294967296 + L / 4294967296) % Y := ⟨_, rfl⟩
    have hR1' : R1 < Y := by rw [hR1]; exact Nat.mod_lt _ (by omega)
    obtain ⟨q0, hq0⟩ : ∃ q, q = (R1 * 4294967296 + L % 4294967296) / Y := ⟨_, rfl⟩
    have g1 := guess y1a y0b (by rw [eYY]; exact hU) l1b
    have g0 := guess y1a y0b (by rw [eYY]; exact hR1') l0b
    rw [eYY] at g1 g0
    have q1b : q1 < 4294967296 := by
      rw [hq1, Nat.div_lt_iff_lt_mul (by omega)]; omega
    have q0b : q0 < 4294967296 := by
      rw [hq0, Nat.div_lt_iff_lt_mul (by omega)]; omega
    have first : ∀ K : Int → Option (Int × Int), math_bits_Div64_l17 (n + 1) (lo : Int) (y : Int) (s : Int) K (n + 1) ((U / (Y / 4294967296) : Nat) : Int) ((U % (Y / 4294967296) : Nat) : Int) = K (q1 : Int) := by
      intro K
      have := knuth (F := fun m q r => math_bits_Div64_l17 (n + 1) (lo : Int) (y : Int) (s : Int) K m (q : Int) (r : Int)) (K := fun q => K (q : Int)) y1a y1b y0b (by rw [eYY]; exact hU) l1b (fun m q r hq hr => by
        show math_bits_Div64_l17 (n + 1) (lo : Int) (y : Int) (s : Int) K (m + 1) (q : Int) (r : Int) = _
        rw [math_bits_Div64_l17, ws, eY, eL, a0, a1, c1, ask hq y0b hr l1b]
        by_cases hc : q ≥ 4294967296 ∨ q * (Y % 4294967296) > 4294967296 * r + L / 4294967296
        · rw [dT hc, if_pos hc, cond_true, uwrap (x := (r : Int) + _) (v := r + Y / 4294967296) (by omega) (by omega)]
          have hq1 : 1 ≤ q := by
            rcases hc with hc | hc
            · omega
            · rcases Nat.eq_zero_or_pos q with rfl | h
              · rw [Nat.zero_mul] at hc; omega
              · exact h
          rw [uwrap (x := (q : Int) - 1) (v := q - 1) (by omega) (by omega)]
          by_cases hb : r + Y / 4294967296 ≥ 4294967296
          · rw [dT (by omega : ((r + Y / 4294967296 : Nat) : Int) ≥ 4294967296), if_pos hb]; rfl
          · rw [dF (by omega : ¬ ((r + Y / 4294967296 : Nat) : Int) ≥ 4294967296), if_neg hb]; rfl
        · rw [dF hc, if_neg hc]; rfl) 2 (n + 1) (U / (Y / 4294967296)) (U % (Y / 4294967296)) (by omega) (by omega) g1.1 (by have := Nat.mod_lt U (show 0 < Y / 4294967296 by omega); omega) (by rw [Nat.mul_comm]; exact Nat.div_add_mod _ _) (by rw [eYY]; exact g1.2)
      rw [eYY, ← hq1] at this
      exact this
    have second : ∀ K : Int → Option (Int × Int), math_bits_Div64_l24 (n + 1) (lo : Int) (y : Int) (s : Int) K (n + 1) ((R1 % (Y / 4294967296) : Nat) : Int) ((R1 / (Y / 4294967296) : Nat) : Int) = K (q0 : Int) := by
      intro K
      have := knuth (F := fun m q r => math_bits_Div64_l24 (n + 1) (lo : Int) (y : Int) (s : Int) K m (r : Int) (q : Int)) (K := fun q => K (q : Int)) y1a y1b y0b (by rw [eYY]; exact hR1') l0b (fun m q r hq hr => by
        show math_bits_Div64_l24 (n + 1) (lo : Int) (y : Int) (s : Int) K (m + 1) (r : Int) (q : Int) = _
        rw [math_bits_Div64_l24, ws, eY, eL, a0, a1, c0, ask hq y0b hr l0b]
        by_cases hc : q ≥ 4294967296 ∨ q * (Y % 4294967296) > 4294967296 * r + L % 4294967296
        · rw [dT hc, if_pos hc, cond_true, uwrap (x := (r : Int) + _) (v := r + Y / 4294967296) (by omega) (by omega)]
          have hq1 : 1 ≤ q := by
            rcases hc with hc | hc
            · omega
            · rcases Nat.eq_zero_or_pos q with rfl | h
              · rw [Nat.zero_mul] at hc; omega
              · exact h
          rw [uwrap (x := (q : Int) - 1) (v := q - 1) (by omega) (by omega)]
          by_cases hb : r + Y / 4294967296 ≥ 4294967296
          · rw [dT (by omega : ((r + Y / 4294967296 : Nat) : Int) ≥ 4294967296), if_pos hb]; rfl
          · rw [dF (by omega : ¬ ((r + Y / 4294967296 : Nat) : Int) ≥ 4294967296), if_neg hb]; rfl
        · rw [dF hc, if_neg hc]; rfl) 2 (n + 1) (R1 / (Y / 4294967296)) (R1 % (Y / 4294967296)) (by omega) (by omega) g0.1 (by have := Nat.mod_lt R1 (show 0 < Y / 4294967296 by omega); omega) (by rw [Nat.mul_comm]; exact Nat.div_add_mod _ _) (by rw [eYY]; exact g0.2)
      rw [eYY, ← hq0] at this
      exact this
    unfold withK
    simp only [first, ws, k1, k3, Option.bind_some, eY, a1, eU, eL, c1, c0]
    have hleft := left (q := q1) (R := R1) hY' hR1' l1b (by rw [hq1, hR1]; exact Nat.div_add_mod _ _)
    obtain ⟨v1, v2⟩ := wU y1a (show R1 < 18446744073709551616 by omega)
    rw [hleft, v1, v2, second]
    refine ⟨_, congrArg (fun x => some (x, _)) ?_⟩
    rw [uwrap (x := (q1 : Int) * 4294967296) (v := q1 * 4294967296) (by omega) (by omega), hQ]
    have d1 : Y * q1 + R1 = U * 4294967296 + L / 4294967296 := by rw [hq1, hR1]; exact Nat.div_add_mod _ _
    have d0 : ∃ R0, R0 < Y ∧ Y * q0 + R0 = R1 * 4294967296 + L % 4294967296 := ⟨_, Nat.mod_lt _ (by omega), by rw [hq0]; exact Nat.div_add_mod _ _⟩
    obtain ⟨R0, r0, d0⟩ := d0
    have hfin : (U * 18446744073709551616 + L) / Y = q1 * 4294967296 + q0 := fin_div r0 d1 d0
    rw [hfin]
    exact uwrap (by omega) (by omega)
end Go.Pl
namespace Go.Pl
open Go Go.Ab
theorem sll_some {α : Type} (l : List α) : sll (some l) = l := rfl
theorem idx_app {α : Type} (p : List α) (x : α) (s : List α) : idx (p ++ x :: s) ((p.length : Nat) : Int) = some x := by
  rw [idx_nat]; simp
theorem ckA_ok {b n : Nat} (h : n ≤ 2000000) (hb : b ≤ 1000) : ckA b n = some () := by
  unfold ckA
  rw [if_pos]
  have := Nat.mul_le_mul h hb
  omega
theorem map_loop {α β R : Type} {f : α → β} {n : Nat} {l3 : Nat → Option (List β) → Int → Option R} {l : List α} {K : Option (List β) → Option R} {b : Nat} (hb : b ≤ 1000) (hl : l.length ≤ 1048576) (hn : 2000000 ≤ n)
    (hF : ∀ (m i : Nat) (s : Option (List β)), l3 (m + 1) s (i : Int) = bif decide ((i : Int) < (l.length : Int)) then (idx l (i : Int)).bind fun x => (ckA b (sll s ++ [f x]).length).bind fun _ => l3 m (some (sll s ++ [f x])) (IntKind.wrap .i64 ((i : Int) + 1)) else K s) :
    l3 n none 0 = K (if l = [] then none else some (l.map f)) := by
  have e0 : l3 n none 0 = rangeS (fun (x : α) i (s : Option (List β)) rec => (ckA b (sll s ++ [f x]).length).bind fun _ => rec (some (sll s ++ [f x]))) K l 0 none :=
    loop_range0 (l := l) (by omega) (F := fun m (s : Option (List β)) i => l3 m s i) (fun m i s _ => hF m i s) hn none
  have hgen : ∀ (l : List α) (i : Nat) (s : Option (List β)), (sll s).length + l.length ≤ 1048576 → rangeS (fun (x : α) i (s : Option (List β)) rec => (ckA b (sll s ++ [f x]).length).bind fun _ => rec (some (sll s ++ [f x]))) K l i s = K (if l = [] then s else some (sll s ++ l.map f)) := by
    intro l
    induction l with
    | nil => intro i s _; rw [if_pos rfl]; rfl
    | cons x l ih =>
      intro i s hs
      simp only [List.length_cons] at hs
      simp only [rangeS]
      rw [ckA_ok (by simp; omega) hb, Option.bind_some, ih (i + 1) _ (by simp only [sll_some, List.length_append, List.length_singleton]; omega), if_neg (List.cons_ne_nil x l)]
      by_cases hl : l = []
      · subst hl; rw [if_pos rfl]; rfl
      · rw [if_neg hl, sll_some, List.append_assoc]; rfl
  rw [e0, hgen l 0 none (by show 0 + l.length ≤ 1048576; omega)]
  rfl
def mapO {α β : Type} (f : α → β) (l : List α) : Option (List β) := if l = [] then none else some (l.map f)
theorem sll_mapO {α β : Type} (f : α → β) (l : List α) : sll (mapO f l) = l.map f := by
  unfold mapO; split
  · rename_i h; subst h; rfl
  · rfl
abbrev HB := hist_Bucket
abbrev T19 := tabularyref19_Bucket
def gv (b : T19) : HB := ⟨b.fLow, b.fHigh, b.fCount, b.fDistinct⟩
abbrev WT (a : Option (List T19)) : Prop := wSl W_tabularyref19_Bucket a
abbrev WH (a : Option (List HB)) : Prop := wSl W_hist_Bucket a
theorem gv_W {b : T19} (h : W_tabularyref19_Bucket b) : W_hist_Bucket (gv b) := h
theorem given_ok {a : Option (List T19)} (ha : WT a) {n : Nat} (h : 2000010 ≤ n) : law19_Given n a = some (mapO gv (sll a)) := by
  obtain ⟨n, rfl⟩ : ∃ k, n = k + 1 := ⟨n - 1, by omega⟩
  unfold law19_Given
  simp only [at1_succ, withK]
  rw [map_loop (f := gv) (l := sll a) (l3 := fun m s i => law19_Given_l3 n a _ m s i) (b := 96) (by omega) ha.1 (by omega) (fun m i s => by cases s <;> rfl)]
  cases h : sll a with
  | nil => rfl
  | cons x l => rfl
theorem given_W {a : Option (List T19)} (ha : WT a) : WH (mapO gv (sll a)) := by
  refine ⟨by rw [sll_mapO, List.length_map]; exact ha.1, fun x hx => ?_⟩
  rw [sll_mapO, List.mem_map] at hx
  obtain ⟨b, hb, rfl⟩ := hx
  exact gv_W (ha.2 b hb)
def plainB (v : api_Value) : Bool := vRight v && (v.fKind != 0) && (!isZero v.fFloat || !signb v.fFloat)
theorem hist_plain_ok {v : api_Value} (hv : W_api_Value v) {n : Nat} (h : 4 ≤ n) : hist_plain n v = some (plainB v) := by
  obtain ⟨n, rfl⟩ : ∃ k, n = k + 1 := ⟨n - 1, by omega⟩
  unfold hist_plain plainB
  rw [at1_succ, value_Right_ok v (by omega), Option.bind_some, math_Signbit_ok _ (by omega), Option.bind_some]
  have : ((FloatKind.format .f64).order v.fFloat 0 != some .eq) = !isZero v.fFloat := rfl
  rw [this]
  cases vRight v <;> cases (v.fKind != 0) <;> cases isZero v.fFloat <;> cases signb v.fFloat <;> rfl
theorem ref19_plain_ok {v : api_Value} (hv : W_api_Value v) {n : Nat} (h : 4 ≤ n) : ref19_plain n v = some (plainB v) := by
  obtain ⟨n, rfl⟩ : ∃ k, n = k + 1 := ⟨n - 1, by omega⟩
  unfold ref19_plain plainB
  rw [at1_succ, ref04_Right_ok hv (by omega), Option.bind_some]
  have : ((FloatKind.format .f64).order v.fFloat 0 != some .eq) = !isZero v.fFloat := rfl
  rw [this]
  cases hz : isZero v.fFloat with
  | false => cases vRight v <;> cases (v.fKind != 0) <;> rfl
  | true =>
    obtain ⟨r, h1, h2⟩ := inv_zero (wF_lt hv.2.2.1) hz
    rw [h1, Option.bind_some, h2]
    cases vRight v <;> cases (v.fKind != 0) <;> cases signb v.fFloat <;> rfl
def sndB (b : HB) : Bool := plainB b.fLow && plainB b.fHigh && (b.fLow.fKind == b.fHigh.fKind) && (((((decide (vCmp b.fLow b.fHigh ≤ 0) && decide (b.fCount ≥ 1)) && decide (b.fCount ≤ 1000000)) && decide (b.fDistinct ≥ 1)) && decide (b.fDistinct ≤ b.fCount)) && ((vCmp b.fLow b.fHigh == 0) == (b.fDistinct == 1)))
theorem hist_sound_ok {b : HB} (hb : W_hist_Bucket b) {n : Nat} (h : 10 ≤ n) : hist_sound n b = some (sndB b) := by
  obtain ⟨n, rfl⟩ : ∃ k, n = k + 1 := ⟨n - 1, by omega⟩
  unfold hist_sound sndB
  rw [at1_succ, hist_plain_ok hb.1 (by omega), Option.bind_some, hist_plain_ok hb.2.1 (by omega), Option.bind_some, value_Cmp_ok hb.1 hb.2.1 (by omega), Option.bind_some]
  have : (b.fLow.fKind != b.fHigh.fKind) = !(b.fLow.fKind == b.fHigh.fKind) := rfl
  rw [this]
  cases plainB b.fLow <;> cases plainB b.fHigh <;> cases (b.fLow.fKind == b.fHigh.fKind) <;> rfl
def adjB (p b : HB) : Bool := (p.fHigh.fKind == b.fLow.fKind) && decide (vCmp p.fHigh b.fLow < 0)
def chainP : Option HB → List HB → Bool
  | _, [] => true
  | none, b :: r => sndB b && chainP (some b) r
  | some q, b :: r => sndB b && (adjB q b && chainP (some b) r)
def rightH (h : List HB) : Bool := decide (h.length ≤ 50) && chainP none h
theorem sndB_kinds {b : HB} (h : sndB b = true) : b.fLow.fKind = b.fHigh.fKind := by
  unfold sndB at h
  simp only [Bool.and_eq_true, beq_iff_eq] at h
  exact h.1.2
theorem hist_Right_loop {n : Nat} (hn : 20 ≤ n) {a : Option (List HB)} (ha : WH a) : ∀ (l : List HB) (m : Nat) (p : List HB) (h0 : HB), sll a = p ++ l → (∀ q, p.getLast? = some q → (sll a)[0]? = some h0 ∧ q.fHigh.fKind = h0.fLow.fKind) → l.length < m →
    hist_Right_l4 n a (fun _ => some true) m (p.length : Int) = some (chainP p.getLast? l)
  | [], m, p, h0, he, hk, hm => by
    obtain ⟨m, rfl⟩ : ∃ j, m = j + 1 := ⟨m - 1, by omega⟩
    rw [List.append_nil] at he
    rw [hist_Right_l4, he, dF (by omega), cond_false]
    cases p.getLast? <;> rfl
  | b :: l, m, p, h0, he, hk, hm => by
    obtain ⟨m, rfl⟩ : ∃ j, m = j + 1 := ⟨m - 1, by omega⟩
    have hl : (sll a).length = p.length + (l.length + 1) := by rw [he]; simp
    have ha1 := ha.1
    have hb : W_hist_Bucket b := ha.2 b (by rw [he]; simp)
    rw [List.length_cons] at hm
    have hix : idx (sll a) (p.length : Int) = some b := by rw [he]; exact idx_app p b l
    have he' : sll a = (p ++ [b]) ++ l := by rw [he]; simp
    have hl' : (p ++ [b]).length = p.length + 1 := by simp
    have hg' : (p ++ [b]).getLast? = some b := by simp
    rw [hist_Right_l4, dT (by omega), cond_true, hix, Option.bind_some, hist_sound_ok hb (by omega), Option.bind_some]
    cases hp : p.getLast? with
    | none =>
      have hp0 : p = [] := by simpa using hp
      subst hp0
      rw [chainP]
      cases hs : sndB b with
      | false => rfl
      | true =>
        simp only [List.nil_append] at he he'
        rw [Bool.not_true, cond_false, Bool.true_and, dF (by simp), cond_false, wrapN (by simp)]
        have := hist_Right_loop hn ha l m [b] b (by rw [he]; rfl) (fun q hq => by
          simp at hq; subst hq
          exact ⟨by rw [he]; rfl, (sndB_kinds hs).symm⟩) (by omega)
        exact this
    | some q =>
      obtain ⟨k0, k1⟩ := hk q hp
      have hp1 : 0 < p.length := by
        rcases Nat.eq_zero_or_pos p.length with h | h
        · have : p = [] := List.eq_nil_of_length_eq_zero h
          subst this; simp at hp
        · exact h
      have hq : idx (sll a) ((p.length - 1 : Nat) : Int) = some q := by
        rw [idx_nat, he, List.getElem?_append_left (by omega), ← hp, List.getLast?_eq_getElem?]
      have hqW : W_hist_Bucket q := by
        rw [idx_nat] at hq
        exact ha.2 q (List.mem_of_getElem? hq)
      rw [chainP]
      cases hs : sndB b with
      | false => rfl
      | true =>
        have i0 : idx (sll a) 0 = some h0 := by
          have := idx_nat (sll a) 0
          rw [k0] at this
          exact this
        rw [Bool.not_true, cond_false, Bool.true_and, dT (by omega), cond_true, i0, Option.bind_some]
        have e1 : (b.fLow.fKind != h0.fLow.fKind) = !(q.fHigh.fKind == b.fLow.fKind) := by
          rw [k1]
          show (!(b.fLow.fKind == h0.fLow.fKind)) = _
          congr 1
          rw [Bool.eq_iff_iff, beq_iff_eq, beq_iff_eq]
          exact eq_comm
        unfold adjB
        rw [e1]
        cases hkd : (q.fHigh.fKind == b.fLow.fKind) with
        | false => rfl
        | true =>
          rw [Bool.not_true, cond_false, Bool.true_and, wv (v := p.length - 1) (by omega) (by omega), hq, Option.bind_some, value_Cmp_ok hqW.2.1 hb.1 (by omega), Option.bind_some]
          by_cases hc : vCmp q.fHigh b.fLow < 0
          · rw [dF (by omega : ¬ vCmp q.fHigh b.fLow ≥ 0), cond_false, dT hc, Bool.true_and, wrapN (by omega)]
            have hkk : q.fHigh.fKind = b.fLow.fKind := by simpa using hkd
            have := hist_Right_loop hn ha l m (p ++ [b]) h0 he' (fun q' hq' => by
              rw [hg'] at hq'; cases hq'
              exact ⟨k0, by rw [← sndB_kinds hs, ← hkk, k1]⟩) (by omega)
            rw [hl', hg'] at this
            exact this
          · rw [dT (by omega : vCmp q.fHigh b.fLow ≥ 0), cond_true, dF hc, Bool.false_and]
theorem hist_Right_ok {a : Option (List HB)} (ha : WH a) {n : Nat} (h : 2000010 ≤ n) : hist_Right n a = some (rightH (sll a)) := by
  obtain ⟨n, rfl⟩ : ∃ k, n = k + 1 := ⟨n - 1, by omega⟩
  have ha1 := ha.1
  unfold hist_Right rightH
  rw [at1_succ]
  by_cases hl : (sll a).length ≤ 50
  · rw [dF (by omega), cond_false, dT hl, Bool.true_and]
    exact hist_Right_loop (by omega) ha (sll a) n [] ⟨zeroV, zeroV, 0, 0⟩ rfl (fun q hq => by simp at hq) (by omega)
  · rw [dT (by omega), cond_true, dF hl, Bool.false_and]
theorem ref19_Right_loop {n : Nat} (hn : 20 ≤ n) {a : Option (List T19)} (ha : WT a) : ∀ (l : List T19) (m : Nat) (p : List T19), sll a = p ++ l → l.length < m →
    ref19_Right_l4 n a (fun _ => some true) m (p.length : Int) = some (chainP (p.getLast?.map gv) (l.map gv))
  | [], m, p, he, hm => by
    obtain ⟨m, rfl⟩ : ∃ j, m = j + 1 := ⟨m - 1, by omega⟩
    rw [List.append_nil] at he
    rw [ref19_Right_l4, he, dF (by omega), cond_false]
    cases p.getLast? <;> rfl
  | b :: l, m, p, he, hm => by
    obtain ⟨m, rfl⟩ : ∃ j, m = j + 1 := ⟨m - 1, by omega⟩
    have hl : (sll a).length = p.length + (l.length + 1) := by rw [he]; simp
    have ha1 := ha.1
    have hb : W_tabularyref19_Bucket b := ha.2 b (by rw [he]; simp)
    rw [List.length_cons] at hm
    have hix : idx (sll a) (p.length : Int) = some b := by rw [he]; exact idx_app p b l
    have he' : sll a = (p ++ [b]) ++ l := by rw [he]; simp
    have hl' : (p ++ [b]).length = p.length + 1 := by simp
    have hg' : (p ++ [b]).getLast? = some b := by simp
    have hrec := ref19_Right_loop hn ha l m (p ++ [b]) he' (by omega)
    rw [hl', hg'] at hrec
    rw [ref19_Right_l4, dT (by omega), cond_true, hix, Option.bind_some, ref19_plain_ok hb.1 (by omega), Option.bind_some, ref19_plain_ok hb.2.1 (by omega), Option.bind_some, ref04_Cmp_ok hb.1 hb.2.1 (by omega), Option.bind_some, List.map_cons, wrapN (by omega), hrec]
    have es : sndB (gv b) = (plainB b.fLow && plainB b.fHigh && (b.fLow.fKind == b.fHigh.fKind) && (((((decide (vCmp b.fLow b.fHigh ≤ 0) && decide (b.fCount ≥ 1)) && decide (b.fCount ≤ 1000000)) && decide (b.fDistinct ≥ 1)) && decide (b.fDistinct ≤ b.fCount)) && ((vCmp b.fLow b.fHigh == 0) == (b.fDistinct == 1)))) := rfl
    have d1 : decide (b.fCount < 1) = !decide (b.fCount ≥ 1) := by rw [Bool.eq_iff_iff]; simp
    have d2 : decide (b.fCount > 1000000) = !decide (b.fCount ≤ 1000000) := by rw [Bool.eq_iff_iff]; simp
    have d3 : decide (b.fDistinct < 1) = !decide (b.fDistinct ≥ 1) := by rw [Bool.eq_iff_iff]; simp
    have d4 : decide (b.fDistinct > b.fCount) = !decide (b.fDistinct ≤ b.fCount) := by rw [Bool.eq_iff_iff]; simp
    have d5 : decide (vCmp b.fLow b.fHigh > 0) = !decide (vCmp b.fLow b.fHigh ≤ 0) := by rw [Bool.eq_iff_iff]; simp
    have d6 : (b.fLow.fKind != b.fHigh.fKind) = !(b.fLow.fKind == b.fHigh.fKind) := rfl
    rw [d1, d2, d3, d4, d5, d6]
    have key : ∀ (T : Option Bool) (t : Bool), T = some t → (bif !plainB b.fLow then some false else bif ((((((!plainB b.fHigh) || (!(b.fLow.fKind == b.fHigh.fKind))) || (!decide (b.fCount ≥ 1))) || (!decide (b.fCount ≤ 1000000))) || (!decide (b.fDistinct ≥ 1))) || (!decide (b.fDistinct ≤ b.fCount))) then some false else bif ((!decide (vCmp b.fLow b.fHigh ≤ 0)) || (!((vCmp b.fLow b.fHigh == 0) == (b.fDistinct == 1)))) then some false else T) = some (sndB (gv b) && t) := by
      intro T t hT
      rw [es, hT]
      cases plainB b.fLow <;> cases plainB b.fHigh <;> cases (b.fLow.fKind == b.fHigh.fKind) <;> cases decide (vCmp b.fLow b.fHigh ≤ 0) <;> cases decide (b.fCount ≥ 1) <;> cases decide (b.fCount ≤ 1000000) <;> cases decide (b.fDistinct ≥ 1) <;> cases decide (b.fDistinct ≤ b.fCount) <;> cases ((vCmp b.fLow b.fHigh == 0) == (b.fDistinct == 1)) <;> rfl
    cases hp : p.getLast? with
    | none =>
      have hp0 : p = [] := by simpa using hp
      subst hp0
      rw [Option.map_none, chainP]
      refine key _ _ ?_
      rw [dF (by simp), cond_false]
      rfl
    | some q =>
      have hp1 : 0 < p.length := by
        rcases Nat.eq_zero_or_pos p.length with h | h
        · have : p = [] := List.eq_nil_of_length_eq_zero h
          subst this; simp at hp
        · exact h
      have hq : idx (sll a) ((p.length - 1 : Nat) : Int) = some q := by
        rw [idx_nat, he, List.getElem?_append_left (by omega), ← hp, List.getLast?_eq_getElem?]
      have hqW : W_tabularyref19_Bucket q := by
        rw [idx_nat] at hq
        exact ha.2 q (List.mem_of_getElem? hq)
      show _ = some (sndB (gv b) && (adjB (gv q) (gv b) && chainP (some (gv b)) (l.map gv)))
      refine key _ _ ?_
      rw [dT (by omega), cond_true, wv (v := p.length - 1) (by omega) (by omega), hq, Option.bind_some, ref04_Cmp_ok hqW.2.1 hb.1 (by omega), Option.bind_some]
      have e2 : adjB (gv q) (gv b) = ((q.fHigh.fKind == b.fLow.fKind) && decide (vCmp q.fHigh b.fLow < 0)) := rfl
      have e3 : (q.fHigh.fKind != b.fLow.fKind) = !(q.fHigh.fKind == b.fLow.fKind) := rfl
      have e4 : decide (vCmp q.fHigh b.fLow ≥ 0) = !decide (vCmp q.fHigh b.fLow < 0) := by rw [Bool.eq_iff_iff]; simp
      rw [e2, e3, e4]
      cases (q.fHigh.fKind == b.fLow.fKind) <;> cases decide (vCmp q.fHigh b.fLow < 0) <;> rfl
theorem ref19_Right_ok {a : Option (List T19)} (ha : WT a) {n : Nat} (h : 2000010 ≤ n) : ref19_Right n a = some (rightH ((sll a).map gv)) := by
  obtain ⟨n, rfl⟩ : ∃ k, n = k + 1 := ⟨n - 1, by omega⟩
  have ha1 := ha.1
  unfold ref19_Right rightH
  rw [at1_succ, List.length_map]
  by_cases hl : (sll a).length ≤ 50
  · rw [dF (by omega), cond_false, dT hl, Bool.true_and]
    exact ref19_Right_loop (by omega) ha (sll a) n [] rfl (by omega)
  · rw [dT (by omega), cond_true, dF hl, Bool.false_and]
end Go.Pl
namespace Go.Pl
open Go Go.Ab
structure Snd (b : HB) : Prop where
  pl : plainB b.fLow = true
  ph : plainB b.fHigh = true
  kd : b.fLow.fKind = b.fHigh.fKind
  le : vCmp b.fLow b.fHigh ≤ 0
  c1 : 1 ≤ b.fCount
  c2 : b.fCount ≤ 1000000
  d1 : 1 ≤ b.fDistinct
  d2 : b.fDistinct ≤ b.fCount
  one : vCmp b.fLow b.fHigh = 0 ↔ b.fDistinct = 1
theorem snd_of {b : HB} (h : sndB b = true) : Snd b := by
  unfold sndB at h
  simp only [Bool.and_eq_true, beq_iff_eq, decide_eq_true_eq] at h
  obtain ⟨⟨⟨h1, h2⟩, h3⟩, ⟨⟨⟨⟨h4, h5⟩, h6⟩, h7⟩, h8⟩, h9⟩ := h
  refine ⟨h1, h2, h3, h4, h5, h6, h7, h8, ?_⟩
  rw [Bool.eq_iff_iff, beq_iff_eq, beq_iff_eq] at h9
  exact h9
theorem plain_right {v : api_Value} (h : plainB v = true) : vRight v = true ∧ v.fKind ≠ 0 := by
  unfold plainB at h
  simp only [Bool.and_eq_true, bne_iff_ne] at h
  exact h.1
theorem chain_all : ∀ {h : List HB} {o : Option HB}, chainP o h = true → ∀ b, b ∈ h → Snd b
  | [], _, _, b, hb => by cases hb
  | x :: h, o, hc, b, hb => by
    have : sndB x = true ∧ chainP (some x) h = true := by
      cases o with
      | none => rw [chainP, Bool.and_eq_true] at hc; exact hc
      | some q => rw [chainP, Bool.and_eq_true, Bool.and_eq_true] at hc; exact ⟨hc.1, hc.2.2⟩
    rcases List.mem_cons.1 hb with rfl | hb
    · exact snd_of this.1
    · exact chain_all this.2 b hb
theorem chain_next {x : HB} {h : List HB} {o : Option HB} (hc : chainP o (x :: h) = true) : chainP (some x) h = true := by
  cases o with
  | none => rw [chainP, Bool.and_eq_true] at hc; exact hc.2
  | some q => rw [chainP, Bool.and_eq_true, Bool.and_eq_true] at hc; exact hc.2.2
theorem chain_behind : ∀ {h : List HB} {q : HB}, chainP (some q) h = true → ∀ b, b ∈ h → vCmp q.fHigh b.fLow < 0 ∧ b.fLow.fKind = q.fHigh.fKind
  | [], _, _, b, hb => by cases hb
  | x :: h, q, hc, b, hb => by
    have hx : Snd x := chain_all hc x (by simp)
    have hn := chain_next hc
    rw [chainP, Bool.and_eq_true, Bool.and_eq_true] at hc
    have ha := hc.2.1
    unfold adjB at ha
    rw [Bool.and_eq_true, beq_iff_eq, decide_eq_true_eq] at ha
    rcases List.mem_cons.1 hb with rfl | hb
    · exact ⟨ha.2, ha.1.symm⟩
    · obtain ⟨h1, h2⟩ := chain_behind hn b hb
      have t1 := vCmp_ord.trans x.fLow x.fHigh b.fLow hx.le (by omega)
      have t2 := vCmp_ord.trans q.fHigh x.fLow b.fLow (by omega) t1
      refine ⟨?_, by rw [h2, ← hx.kd, ha.1]⟩
      rcases Int.lt_or_le (vCmp q.fHigh b.fLow) 0 with g | g
      · exact g
      · have e : vCmp q.fHigh b.fLow = 0 := by omega
        have l := vCmp_ord.left (z := x.fLow) e
        have a1 := vCmp_ord.anti x.fLow b.fLow
        have a2 := vCmp_ord.left (x := x.fLow) (y := b.fLow) (z := b.fLow)
        have a3 := vCmp_ord.anti x.fHigh b.fLow
        have t3 := vCmp_ord.trans b.fLow x.fLow x.fHigh (by omega) hx.le
        omega
def sumC : List HB → Int
  | [] => 0
  | b :: h => b.fCount + sumC h
theorem sumC_range : ∀ {h : List HB}, (∀ b, b ∈ h → Snd b) → 0 ≤ sumC h ∧ sumC h ≤ 1000000 * h.length
  | [], _ => by simp [sumC]
  | b :: h, hs => by
    have h1 := sumC_range (h := h) fun c hc => hs c (List.mem_cons_of_mem _ hc)
    have h2 := hs b (by simp)
    have := h2.c1; have := h2.c2
    simp only [sumC, List.length_cons]
    omega
def totH (h : List HB) : Int := if rightH h = true then sumC h else 0
theorem right_len {h : List HB} (hr : rightH h = true) : h.length ≤ 50 ∧ chainP none h = true := by
  unfold rightH at hr
  rw [Bool.and_eq_true, decide_eq_true_eq] at hr
  exact hr
theorem total_loop {n : Nat} {a : Option (List HB)} : ∀ (l : List HB) (m : Nat) (p : List HB) (s : Int), sll a = p ++ l → (sll a).length ≤ 50 → (∀ b, b ∈ l → Snd b) → 0 ≤ s → s + 1000000 * l.length ≤ 100000000 → l.length < m →
    hist_Total_l4 n a (fun y => some y) m (p.length : Int) s = some (s + sumC l)
  | [], m, p, s, he, hl, _, _, _, hm => by
    obtain ⟨m, rfl⟩ : ∃ j, m = j + 1 := ⟨m - 1, by omega⟩
    rw [List.append_nil] at he
    rw [hist_Total_l4, he, dF (by omega), cond_false]
    simp [sumC]
  | b :: l, m, p, s, he, hl, hs, h0, hb, hm => by
    obtain ⟨m, rfl⟩ : ∃ j, m = j + 1 := ⟨m - 1, by omega⟩
    have hlen : (sll a).length = p.length + (l.length + 1) := by rw [he]; simp
    rw [List.length_cons] at hm hb
    have hsb := hs b (by simp)
    have := hsb.c1; have := hsb.c2
    have hix : idx (sll a) (p.length : Int) = some b := by rw [he]; exact idx_app p b l
    rw [hist_Total_l4, dT (by omega), cond_true, hix, Option.bind_some, wrapN (by omega), wrapI (x := s + b.fCount) (by omega) (by omega)]
    have := total_loop (n := n) l m (p ++ [b]) (s + b.fCount) (by rw [he]; simp) hl (fun c hc => hs c (by simp [hc])) (by omega) (by omega) (by omega)
    rw [show (p ++ [b]).length = p.length + 1 by simp] at this
    rw [this, sumC]
    congr 1
    omega
theorem hist_Total_ok {a : Option (List HB)} (ha : WH a) {n : Nat} (h : 2000020 ≤ n) : hist_Total n a = some (totH (sll a)) := by
  obtain ⟨n, rfl⟩ : ∃ k, n = k + 1 := ⟨n - 1, by omega⟩
  unfold hist_Total totH
  simp only [at1_succ, withK]
  rw [hist_Right_ok ha (by omega), Option.bind_some]
  cases hr : rightH (sll a) with
  | false => rfl
  | true =>
    obtain ⟨h1, h2⟩ := right_len hr
    have := total_loop (n := n) (sll a) n [] 0 rfl h1 (chain_all h2) (by omega) (by omega) (by omega)
    rw [cond_true, if_pos rfl]
    rw [Int.zero_add] at this
    exact this
theorem ref19_total_loop {n : Nat} (hn : 2000010 ≤ n) {a : Option (List T19)} (ha : WT a) (hr : rightH ((sll a).map gv) = true) : ∀ (l : List T19) (m : Nat) (p : List T19) (s : Int), sll a = p ++ l → (∀ b, b ∈ l.map gv → Snd b) → 0 ≤ s → s + 1000000 * l.length ≤ 100000000 → l.length < m →
    ref19_Total_l3 n a (fun y => some y) m s (p.length : Int) = some (s + sumC (l.map gv))
  | [], m, p, s, he, _, _, _, hm => by
    obtain ⟨m, rfl⟩ : ∃ j, m = j + 1 := ⟨m - 1, by omega⟩
    rw [List.append_nil] at he
    rw [ref19_Total_l3, he, dF (by omega), cond_false]
    simp [sumC]
  | b :: l, m, p, s, he, hs, h0, hb, hm => by
    obtain ⟨m, rfl⟩ : ∃ j, m = j + 1 := ⟨m - 1, by omega⟩
    have hlen : (sll a).length = p.length + (l.length + 1) := by rw [he]; simp
    have ha1 := ha.1
    rw [List.length_cons] at hm hb
    have hsb := hs (gv b) (by simp)
    have g1 : 1 ≤ b.fCount := hsb.c1
    have g2 : b.fCount ≤ 1000000 := hsb.c2
    have hix : idx (sll a) (p.length : Int) = some b := by rw [he]; exact idx_app p b l
    rw [ref19_Total_l3, dT (by omega), cond_true, ref19_Right_ok ha hn, hr, Option.bind_some, cond_true, hix, Option.bind_some, wrapN (by omega), wrapI (x := s + b.fCount) (by omega) (by omega)]
    have := ref19_total_loop hn ha hr l m (p ++ [b]) (s + b.fCount) (by rw [he]; simp) (fun c hc => hs c (by rw [List.map_cons]; simp [hc])) (by omega) (by omega) (by omega)
    rw [show (p ++ [b]).length = p.length + 1 by simp] at this
    rw [this, List.map_cons, sumC]
    congr 1
    show s + b.fCount + _ = s + (b.fCount + _)
    omega
theorem ref19_Total_ok {a : Option (List T19)} (ha : WT a) {n : Nat} (h : 2000020 ≤ n) : ref19_Total n a = some (totH ((sll a).map gv)) := by
  obtain ⟨n, rfl⟩ : ∃ k, n = k + 1 := ⟨n - 1, by omega⟩
  have ha1 := ha.1
  unfold ref19_Total totH
  simp only [at1_succ, withK]
  cases hr : rightH ((sll a).map gv) with
  | false =>
    obtain ⟨n, rfl⟩ : ∃ k, n = k + 1 := ⟨n - 1, by omega⟩
    rw [ref19_Total_l3]
    cases hd : decide ((0 : Int) < ((sll a).length : Int)) with
    | false => rfl
    | true => rw [cond_true, ref19_Right_ok ha (by omega), hr]; rfl
  | true =>
    obtain ⟨h1, h2⟩ := right_len hr
    rw [List.length_map] at h1
    have := ref19_total_loop (n := n) (by omega) ha hr (sll a) n [] 0 rfl (chain_all h2) (by omega) (by omega) (by omega)
    rw [if_pos rfl]
    rw [Int.zero_add] at this
    exact this
def loc (v : api_Value) : List HB → Int → Option HB × Int
  | [], ah => (none, ah)
  | b :: r, ah => if vCmp v b.fLow < 0 then (none, ah) else if vCmp v b.fHigh ≤ 0 then (some b, ah) else loc v r (ah + b.fCount)
def askV (v : api_Value) : Bool := vRight v && (v.fKind != 0)
def askH (h : List HB) (v : api_Value) : Bool := rightH h && askV v
theorem loc_mem {v : api_Value} : ∀ {h : List HB} {ah : Int} {b : HB} {k : Int}, loc v h ah = (some b, k) → b ∈ h ∧ vCmp b.fLow v ≤ 0 ∧ vCmp v b.fHigh ≤ 0
  | [], ah, b, k, e => by simp [loc] at e
  | x :: h, ah, b, k, e => by
    rw [loc] at e
    have an := vCmp_ord.anti v x.fLow
    split at e
    · simp at e
    · split at e
      · simp only [Prod.mk.injEq, Option.some.injEq] at e
        obtain ⟨rfl, rfl⟩ := e
        exact ⟨by simp, by omega, by assumption⟩
      · obtain ⟨h1, h2⟩ := loc_mem e
        exact ⟨by simp [h1], h2⟩
theorem find_loop {n : Nat} (hn : 20 ≤ n) {a : Option (List HB)} (ha : WH a) {v : api_Value} (hv : W_api_Value v) : ∀ (l : List HB) (m : Nat) (p : List HB) (s : Int), sll a = p ++ l → (sll a).length ≤ 50 → (∀ b, b ∈ l → Snd b) → 0 ≤ s → s + 1000000 * l.length ≤ 100000000 → l.length < m →
    ∃ i t, hist_find_l4 n a v (fun y => some (0, y, false)) m (p.length : Int) s = some (i, (loc v l s).2, t) ∧ ((t = false ∧ (loc v l s).1 = none) ∨ (t = true ∧ ∃ b, (loc v l s).1 = some b ∧ idx (sll a) i = some b))
  | [], m, p, s, he, hl, _, _, _, hm => by
    obtain ⟨m, rfl⟩ : ∃ j, m = j + 1 := ⟨m - 1, by omega⟩
    rw [List.append_nil] at he
    rw [hist_find_l4, he, dF (by omega), cond_false]
    exact ⟨_, _, rfl, .inl ⟨rfl, rfl⟩⟩
  | b :: l, m, p, s, he, hl, hs, h0, hb, hm => by
    obtain ⟨m, rfl⟩ : ∃ j, m = j + 1 := ⟨m - 1, by omega⟩
    have hlen : (sll a).length = p.length + (l.length + 1) := by rw [he]; simp
    rw [List.length_cons] at hm hb
    have hsb := hs b (by simp)
    have := hsb.c1; have := hsb.c2
    have hix : idx (sll a) (p.length : Int) = some b := by rw [he]; exact idx_app p b l
    have hW := ha.2 b (by rw [he]; simp)
    rw [hist_find_l4, dT (by omega), cond_true, hix, Option.bind_some, value_Cmp_ok hv hW.1 (by omega), Option.bind_some, value_Cmp_ok hv hW.2.1 (by omega), loc]
    by_cases h1 : vCmp v b.fLow < 0
    · rw [dT h1, cond_true, if_pos h1]
      exact ⟨_, _, rfl, .inl ⟨rfl, rfl⟩⟩
    · rw [dF h1, cond_false, if_neg h1, Option.bind_some]
      by_cases h2 : vCmp v b.fHigh ≤ 0
      · rw [dT h2, cond_true, if_pos h2]
        exact ⟨_, _, rfl, .inr ⟨rfl, b, rfl, hix⟩⟩
      · rw [dF h2, cond_false, if_neg h2, wrapN (by omega), wrapI (x := s + b.fCount) (by omega) (by omega)]
        have := find_loop hn ha hv l m (p ++ [b]) (s + b.fCount) (by rw [he]; simp) hl (fun c hc => hs c (by simp [hc])) (by omega) (by omega) (by omega)
        rw [show (p ++ [b]).length = p.length + 1 by simp] at this
        exact this
theorem hist_find_ok {a : Option (List HB)} (ha : WH a) {v : api_Value} (hv : W_api_Value v) {n : Nat} (h : 2000020 ≤ n) :
    (askH (sll a) v = false ∧ hist_find n a v = some (0, 0, false)) ∨ (askH (sll a) v = true ∧ ∃ i t, hist_find n a v = some (i, (loc v (sll a) 0).2, t) ∧ ((t = false ∧ (loc v (sll a) 0).1 = none) ∨ (t = true ∧ ∃ b, (loc v (sll a) 0).1 = some b ∧ idx (sll a) i = some b))) := by
  obtain ⟨n, rfl⟩ : ∃ k, n = k + 1 := ⟨n - 1, by omega⟩
  unfold hist_find askH askV
  simp only [at1_succ, withK]
  rw [hist_Right_ok ha (by omega), Option.bind_some]
  cases hr : rightH (sll a) with
  | false => exact .inl ⟨rfl, rfl⟩
  | true =>
    rw [Bool.not_true, cond_false, value_Right_ok v (by omega), Option.bind_some, Bool.true_and]
    cases hv1 : vRight v with
    | false => exact .inl ⟨rfl, rfl⟩
    | true =>
      rw [Bool.not_true, Bool.false_or, Bool.true_and]
      cases hk : v.fKind == 0 with
      | true => exact .inl ⟨by show (!(v.fKind == 0)) = false; rw [hk]; rfl, rfl⟩
      | false =>
        obtain ⟨h1, h2⟩ := right_len hr
        refine .inr ⟨by show (!(v.fKind == 0)) = true; rw [hk]; rfl, ?_⟩
        exact find_loop (n := n) (by omega) ha hv (sll a) n [] 0 rfl h1 (chain_all h2) (by omega) (by omega) (by omega)
def eachB (b : HB) : Int := Int.tdiv b.fCount b.fDistinct
theorem each_range {b : HB} (h : Snd b) : 1 ≤ eachB b ∧ eachB b ≤ b.fCount := by
  unfold eachB
  have h1 := h.c1; have h2 := h.d1; have h3 := h.d2
  rw [Int.tdiv_eq_ediv_of_nonneg (by omega)]
  constructor
  · exact Int.le_ediv_of_mul_le (by omega) (by omega)
  · exact Int.ediv_le_self _ (by omega)
theorem hist_each_ok {b : HB} (h : Snd b) {n : Nat} (hn : 1 ≤ n) : hist_each n b = some (eachB b) := by
  obtain ⟨n, rfl⟩ : ∃ k, n = k + 1 := ⟨n - 1, by omega⟩
  have h1 := h.c2; have h2 := h.d1
  have hr := each_range h
  unfold hist_each
  have hz : ckZ b.fDistinct = some () := by unfold ckZ; rw [if_neg (by omega)]
  rw [at1_succ, hz, Option.bind_some]
  congr 1
  exact wrapI (by show _ ≤ eachB b; omega) (by show eachB b < _; omega)
def equalH (h : List HB) (v : api_Value) : Int := if askH h v = true then (match (loc v h 0).1 with | none => 0 | some b => eachB b) else 0
theorem ask_all {h : List HB} {v : api_Value} (ha : askH h v = true) : rightH h = true ∧ vRight v = true ∧ v.fKind ≠ 0 := by
  unfold askH askV at ha
  simp only [Bool.and_eq_true, bne_iff_ne] at ha
  exact ha
theorem hist_Equal_ok {a : Option (List HB)} (ha : WH a) {v : api_Value} (hv : W_api_Value v) {n : Nat} (h : 2000030 ≤ n) : hist_Equal n a v = some (equalH (sll a) v) := by
  obtain ⟨n, rfl⟩ : ∃ k, n = k + 1 := ⟨n - 1, by omega⟩
  unfold hist_Equal equalH
  rw [at1_succ]
  rcases hist_find_ok ha hv (n := n) (by omega) with ⟨h1, h2⟩ | ⟨h1, i, t, h2, h3⟩
  · rw [h2, h1]; rfl
  · rw [h2, h1, if_pos rfl, Option.bind_some]
    rcases h3 with ⟨rfl, h3⟩ | ⟨rfl, b, h3, h4⟩
    · rw [h3]; rfl
    · simp only [Bool.not_true, cond_false]
      have hb := loc_mem (v := v) (h := sll a) (ah := 0) (b := b) (k := (loc v (sll a) 0).2) (by rw [← h3])
      have hs := chain_all (right_len (ask_all h1).1).2 b hb.1
      rw [h4, Option.bind_some, hist_each_ok hs (by omega), Option.bind_some, h3]
def eqL (v : api_Value) : List HB → Option HB
  | [] => none
  | b :: r => if vCmp b.fLow v ≤ 0 ∧ vCmp v b.fHigh ≤ 0 then some b else eqL v r
theorem eqL_none {v : api_Value} : ∀ {l : List HB}, (∀ b, b ∈ l → ¬ (vCmp b.fLow v ≤ 0)) → eqL v l = none
  | [], _ => rfl
  | b :: l, h => by
    rw [eqL, if_neg fun c => h b (by simp) c.1]
    exact eqL_none fun c hc => h c (by simp [hc])
theorem eqL_loc {v : api_Value} : ∀ {l : List HB} {o : Option HB} {ah : Int}, chainP o l = true → eqL v l = (loc v l ah).1
  | [], _, _, _ => rfl
  | b :: l, o, ah, hc => by
    have hb := chain_all hc b (by simp)
    have hn := chain_next hc
    have an := vCmp_ord.anti v b.fLow
    rw [eqL, loc]
    by_cases h1 : vCmp v b.fLow < 0
    · rw [if_pos h1, if_neg (by omega)]
      refine eqL_none fun c hcl => ?_
      obtain ⟨g1, g2⟩ := chain_behind hn c hcl
      intro g
      have t1 := vCmp_ord.trans c.fLow v b.fLow g (by omega)
      have t2 := vCmp_ord.trans c.fLow b.fLow b.fHigh t1 hb.le
      have a2 := vCmp_ord.anti c.fLow b.fHigh
      omega
    · rw [if_neg h1]
      by_cases h2 : vCmp v b.fHigh ≤ 0
      · rw [if_pos h2, if_pos ⟨by omega, h2⟩]
      · rw [if_neg h2, if_neg (by omega)]
        exact eqL_loc hn
theorem ref19_asked_ok {a : Option (List T19)} (ha : WT a) {v : api_Value} (hv : W_api_Value v) {n : Nat} (h : 2000020 ≤ n) : ref19_asked n a v = some (askH ((sll a).map gv) v) := by
  obtain ⟨n, rfl⟩ : ∃ k, n = k + 1 := ⟨n - 1, by omega⟩
  unfold ref19_asked askH askV
  rw [at1_succ, ref19_Right_ok ha (by omega), Option.bind_some, ref04_Right_ok hv (by omega), Option.bind_some]
  cases rightH ((sll a).map gv) <;> rfl
theorem ref19_equal_loop {n : Nat} (hn : 2000030 ≤ n) {a : Option (List T19)} (ha : WT a) {v : api_Value} (hv : W_api_Value v) (hq : askH ((sll a).map gv) v = true) : ∀ (l : List T19) (m : Nat) (p : List T19), sll a = p ++ l → (∀ b, b ∈ l.map gv → Snd b) → l.length < m →
    ref19_Equal_l2 n a v (fun _ => some 0) m (p.length : Int) = some (match eqL v (l.map gv) with | none => 0 | some b => eachB b)
  | [], m, p, he, _, hm => by
    obtain ⟨m, rfl⟩ : ∃ j, m = j + 1 := ⟨m - 1, by omega⟩
    rw [List.append_nil] at he
    rw [ref19_Equal_l2, he, dF (by omega), cond_false]
    rfl
  | b :: l, m, p, he, hs, hm => by
    obtain ⟨m, rfl⟩ : ∃ j, m = j + 1 := ⟨m - 1, by omega⟩
    have hlen : (sll a).length = p.length + (l.length + 1) := by rw [he]; simp
    have ha1 := ha.1
    rw [List.length_cons] at hm
    have hsb := hs (gv b) (by simp)
    have hix : idx (sll a) (p.length : Int) = some b := by rw [he]; exact idx_app p b l
    have hW := ha.2 b (by rw [he]; simp)
    have hz : ckZ b.fDistinct = some () := by
      have : 1 ≤ b.fDistinct := hsb.d1
      unfold ckZ; rw [if_neg (by omega)]
    have hrec := ref19_equal_loop hn ha hv hq l m (p ++ [b]) (by rw [he]; simp) (fun c hc => hs c (by rw [List.map_cons]; simp [hc])) (by omega)
    rw [show (p ++ [b]).length = p.length + 1 by simp] at hrec
    rw [ref19_Equal_l2, dT (by omega), cond_true, ref19_asked_ok ha hv (by omega), Option.bind_some, hq, cond_true]
    simp only [withK]
    rw [hix, Option.bind_some, ref04_Cmp_ok hW.1 hv (by omega), Option.bind_some, ref04_Cmp_ok hv hW.2.1 (by omega), Option.bind_some, Option.bind_some, hz, Option.bind_some, wrapN (by omega), hrec, List.map_cons, eqL]
    have hr := each_range hsb
    have hc2 : b.fCount ≤ 1000000 := hsb.c2
    have ee : IntKind.wrap .i64 (Int.tdiv b.fCount b.fDistinct) = eachB (gv b) := wrapI (by have : (gv b).fCount = b.fCount := rfl; show _ ≤ eachB (gv b); omega) (by have : (gv b).fCount = b.fCount := rfl; show eachB (gv b) < _; omega)
    rw [ee]
    show (bif decide (vCmp b.fLow v ≤ 0) then _ else _) = some (match (if vCmp b.fLow v ≤ 0 ∧ vCmp v b.fHigh ≤ 0 then some (gv b) else eqL v (l.map gv)) with | none => 0 | some b => eachB b)
    by_cases g1 : vCmp b.fLow v ≤ 0
    · rw [dT g1, cond_true]
      by_cases g2 : vCmp v b.fHigh ≤ 0
      · rw [dT g2, cond_true, if_pos ⟨g1, g2⟩]
      · rw [dF g2, cond_false, if_neg fun c => g2 c.2]
    · rw [dF g1, cond_false, cond_false, if_neg fun c => g1 c.1]
theorem ref19_Equal_ok {a : Option (List T19)} (ha : WT a) {v : api_Value} (hv : W_api_Value v) {n : Nat} (h : 2000040 ≤ n) : ref19_Equal n a v = some (equalH ((sll a).map gv) v) := by
  obtain ⟨n, rfl⟩ : ∃ k, n = k + 1 := ⟨n - 1, by omega⟩
  have ha1 := ha.1
  unfold ref19_Equal equalH
  simp only [at1_succ, withK]
  cases hq : askH ((sll a).map gv) v with
  | false =>
    obtain ⟨n, rfl⟩ : ∃ k, n = k + 1 := ⟨n - 1, by omega⟩
    rw [ref19_Equal_l2]
    cases hd : decide ((0 : Int) < ((sll a).length : Int)) with
    | false => rfl
    | true => rw [cond_true, ref19_asked_ok ha hv (by omega), hq]; rfl
  | true =>
    obtain ⟨h1, h2⟩ := right_len (ask_all hq).1
    have := ref19_equal_loop (n := n) (by omega) ha hv hq (sll a) n [] rfl (chain_all h2) (by omega)
    rw [if_pos rfl, ← eqL_loc (v := v) (ah := 0) h2]
    exact this
end Go.Pl
set_option maxRecDepth 100000
namespace Go.Pl
open Go Go.Ab
theorem mul_split (a b : Nat) : a * b = 18446744073709551616 * ((a / 4294967296) * (b / 4294967296)) + 4294967296 * ((a / 4294967296) * (b % 4294967296)) + 4294967296 * ((a % 4294967296) * (b / 4294967296)) + (a % 4294967296) * (b % 4294967296) := by
  conv => lhs; rw [← Nat.div_add_mod a 4294967296, ← Nat.div_add_mod b 4294967296]
  generalize a / 4294967296 = x1
  generalize a % 4294967296 = x0
  generalize b / 4294967296 = y1
  generalize b % 4294967296 = y0
  rw [Nat.mul_add, Nat.add_mul, Nat.add_mul]
  have e1 : 4294967296 * x1 * (4294967296 * y1) = 18446744073709551616 * (x1 * y1) := by rw [Nat.mul_mul_mul_comm]
  have e2 : x0 * (4294967296 * y1) = 4294967296 * (x0 * y1) := Nat.mul_left_comm _ _ _
  have e3 : 4294967296 * x1 * y0 = 4294967296 * (x1 * y0) := Nat.mul_assoc _ _ _
  omega
theorem uadd {a b : Nat} (h : a + b < 18446744073709551616) : IntKind.wrap .u64 ((a : Int) + (b : Int)) = ((a + b : Nat) : Int) := uwrap (by simp) h
theorem umul {a b : Nat} (h : a * b < 18446744073709551616) : IntKind.wrap .u64 ((a : Int) * (b : Int)) = ((a * b : Nat) : Int) := uwrap (by simp) h
theorem mul64_ok {a b : Nat} (ha : a < 18446744073709551616) (hb : b < 18446744073709551616) {n : Nat} (hn : 1 ≤ n) : math_bits_Mul64 n (a : Int) (b : Int) = some (((a * b / 18446744073709551616 : Nat) : Int), ((a * b % 18446744073709551616 : Nat) : Int)) := by
  obtain ⟨n, rfl⟩ : ∃ k, n = k + 1 := ⟨n - 1, by omega⟩
  unfold math_bits_Mul64
  rw [at1_succ, show iShr .u64 (a : Int) 32 = ((a / 4294967296 : Nat) : Int) from shr_nat a 32 (by omega), show iShr .u64 (b : Int) 32 = ((b / 4294967296 : Nat) : Int) from shr_nat b 32 (by omega), and_mask a ha, and_mask b hb]
  have h1 : a % 4294967296 ≤ 4294967295 := by omega
  have h2 : a / 4294967296 ≤ 4294967295 := by omega
  have h3 : b % 4294967296 ≤ 4294967295 := by omega
  have h4 : b / 4294967296 ≤ 4294967295 := by omega
  have p1 := Nat.mul_le_mul h1 h3
  have q1 := Nat.mul_le_mul h2 h3
  have r1 := Nat.mul_le_mul h1 h4
  have s1 := Nat.mul_le_mul h2 h4
  have hE := mul_split a b
  have hab : a * b ≤ 18446744073709551615 * 18446744073709551615 := Nat.mul_le_mul (by omega) (by omega)
  rw [umul (a := a / 4294967296) (b := b / 4294967296) (by omega), umul (a := a / 4294967296) (b := b % 4294967296) (by omega), umul (a := a % 4294967296) (b := b % 4294967296) (by omega), umul (a := a % 4294967296) (b := b / 4294967296) (by omega), uwrap_mul]
  generalize a % 4294967296 * (b % 4294967296) = p at *
  generalize a / 4294967296 * (b % 4294967296) = q at *
  generalize a % 4294967296 * (b / 4294967296) = r at *
  generalize a / 4294967296 * (b / 4294967296) = s at *
  generalize a * b = ab at *
  rw [show iShr .u64 (p : Int) 32 = ((p / 4294967296 : Nat) : Int) from shr_nat p 32 (by omega), uadd (a := q) (b := p / 4294967296) (by omega)]
  rw [show iShr .u64 ((q + p / 4294967296 : Nat) : Int) 32 = (((q + p / 4294967296) / 4294967296 : Nat) : Int) from shr_nat _ 32 (by omega), and_mask (q + p / 4294967296) (by omega)]
  rw [uadd (a := (q + p / 4294967296) % 4294967296) (b := r) (by omega), uadd (a := s) (b := (q + p / 4294967296) / 4294967296) (by omega)]
  rw [show iShr .u64 (((q + p / 4294967296) % 4294967296 + r : Nat) : Int) 32 = ((((q + p / 4294967296) % 4294967296 + r) / 4294967296 : Nat) : Int) from shr_nat _ 32 (by omega)]
  rw [uadd (a := s + (q + p / 4294967296) / 4294967296) (b := ((q + p / 4294967296) % 4294967296 + r) / 4294967296) (by omega)]
  congr 3
  omega
theorem share_prog {c part whole : Nat} (hc : c < 1000001) (hp : part < whole) (hw : whole < 18446744073709551616) {n : Nat} (hn : 10 ≤ n) : ∃ x r, math_bits_Mul64 n (c : Int) (part : Int) = some x ∧ math_bits_Div64 n x.1 x.2 (whole : Int) = some (((c * part / whole : Nat) : Int), r) := by
  have h1 : c * part / 18446744073709551616 < whole := by
    have h2 : c * part < whole * 18446744073709551616 := by
      have : c * part ≤ c * whole := Nat.mul_le_mul_left _ (by omega)
      have h3 : c * whole ≤ 18446744073709551615 * whole := Nat.mul_le_mul_right _ (by omega)
      omega
    rw [Nat.div_lt_iff_lt_mul (by decide)]; exact h2
  obtain ⟨r, hr⟩ := div64_ok (lo := c * part % 18446744073709551616) (Nat.mod_lt _ (by decide)) hw h1 hn
  refine ⟨_, r, mul64_ok (by omega) (by omega) (by omega), ?_⟩
  rw [hr]
  congr 3
  have := Nat.div_add_mod (c * part) 18446744073709551616
  rw [Nat.mul_comm] at this
  rw [this]
theorem share_loop {n : Nat} {part whole : Nat} (hp : part < whole) (hw : whole < 18446744073709551616) : ∀ (d m i k rest : Nat), rest < whole → i * part = k * whole + rest → i + d ≤ 1000000 → k ≤ i → d < m →
    ref19_Share_l4 n ((i + d : Nat) : Int) (part : Int) (whole : Int) (fun y => some y) m (k : Int) (rest : Int) (i : Int) = some ((((i + d) * part / whole : Nat) : Int))
  | 0, m, i, k, rest, hr, he, hd, hk, hm => by
    obtain ⟨m, rfl⟩ : ∃ j, m = j + 1 := ⟨m - 1, by omega⟩
    rw [ref19_Share_l4, dF (by omega), cond_false, Nat.add_zero, he]
    have : (k * whole + rest) / whole = k := by
      rw [Nat.mul_comm, Nat.mul_add_div (by omega), Nat.div_eq_of_lt hr, Nat.add_zero]
    rw [this]
  | d + 1, m, i, k, rest, hr, he, hd, hk, hm => by
    obtain ⟨m, rfl⟩ : ∃ j, m = j + 1 := ⟨m - 1, by omega⟩
    have e1 : IntKind.wrap .u64 ((whole : Int) - (rest : Int)) = ((whole - rest : Nat) : Int) := uwrap (by omega) (by omega)
    rw [ref19_Share_l4, dT (by omega), cond_true, e1, wrapN (by omega), wrapN (by omega)]
    have hm1 : (i + 1) * part = i * part + part := by rw [Nat.add_mul, Nat.one_mul]
    have hk1 : (k + 1) * whole = k * whole + whole := by rw [Nat.add_mul, Nat.one_mul]
    by_cases hc : part ≥ whole - rest
    · rw [dT (by omega), cond_true, uwrap (x := (part : Int) - _) (v := part - (whole - rest)) (by omega) (by omega)]
      have := share_loop (n := n) hp hw d m (i + 1) (k + 1) (part - (whole - rest)) (by omega) (by omega) (by omega) (by omega) (by omega)
      rw [show i + 1 + d = i + (d + 1) by omega] at this
      exact this
    · rw [dF (by omega), cond_false, uwrap (x := (rest : Int) + part) (v := rest + part) (by omega) (by omega)]
      have := share_loop (n := n) hp hw d m (i + 1) k (rest + part) (by omega) (by omega) (by omega) (by omega) (by omega)
      rw [show i + 1 + d = i + (d + 1) by omega] at this
      exact this
theorem share_ref {c part whole : Nat} (hc : c ≤ 1000000) (hp : part < whole) (hw : whole < 18446744073709551616) {n : Nat} (hn : 1000010 ≤ n) : ref19_Share n (c : Int) (part : Int) (whole : Int) = some (((c * part / whole : Nat) : Int)) := by
  obtain ⟨n, rfl⟩ : ∃ k, n = k + 1 := ⟨n - 1, by omega⟩
  unfold ref19_Share
  simp only [at1_succ, withK]
  have := share_loop (n := n) hp hw c n 0 0 0 (by omega) (by omega) (by omega) (by omega) (by omega)
  rw [Nat.zero_add] at this
  exact this
def partN (b : HB) (v : api_Value) : Nat := (v.fInt - b.fLow.fInt).toNat
def wholeN (b : HB) : Nat := (b.fHigh.fInt - b.fLow.fInt).toNat
def shareB (b : HB) (v : api_Value) : Int := if v.fKind = 2 then ((b.fCount.toNat * partN b v / wholeN b : Nat) : Int) else Int.tdiv b.fCount 2
structure Mid (b : HB) (v : api_Value) : Prop where
  s : Snd b
  rv : vRight v = true
  lo : vCmp b.fLow v < 0
  hi : vCmp v b.fHigh < 0
theorem plain_of {v : api_Value} (h : vRight v = true) (hk : v.fKind ≠ 3) : vPlain v = v := by
  unfold vPlain
  rw [h, show (v.fKind == 3) = false by simpa using hk]; rfl
theorem kind_plain {v : api_Value} (h : vRight v = true) : (vPlain v).fKind = v.fKind := by
  unfold vPlain
  rw [h]
  simp only [Bool.not_true, cond_false]
  cases hk : v.fKind == 3 with
  | false => rfl
  | true =>
    have : v.fKind = 3 := by simpa using hk
    cases isZero v.fFloat with
    | true => exact this.symm
    | false => rfl
theorem cmp_kinds {v w : api_Value} (hv : vRight v = true) (hw : vRight w = true) (h : vCmp v w ≤ 0) : v.fKind ≤ w.fKind := by
  unfold vCmp vC at h
  rw [kind_plain hv, kind_plain hw] at h
  by_cases e : v.fKind = w.fKind
  · omega
  · rw [if_pos e] at h
    have := iC_cases v.fKind w.fKind
    omega
theorem cmp_ints {v w : api_Value} (hv : vRight v = true) (hw : vRight w = true) (h1 : v.fKind = 2) (h2 : w.fKind = 2) : vCmp v w = iC v.fInt w.fInt := by
  unfold vCmp
  rw [plain_of hv (by omega), plain_of hw (by omega)]
  unfold vC
  rw [if_neg (by omega), if_neg (by omega), if_neg (by omega)]
theorem mid_kind {b : HB} {v : api_Value} (h : Mid b v) : v.fKind = b.fLow.fKind ∧ v.fKind = b.fHigh.fKind := by
  have h1 := (plain_right h.s.pl).1
  have h2 := (plain_right h.s.ph).1
  have a1 := cmp_kinds h1 h.rv (by have := h.lo; omega)
  have a2 := cmp_kinds h.rv h2 (by have := h.hi; omega)
  have := h.s.kd
  omega
theorem mid_ints {b : HB} {v : api_Value} (hW : W_hist_Bucket b) (hv : W_api_Value v) (h : Mid b v) (hk : v.fKind = 2) : b.fLow.fInt < v.fInt ∧ v.fInt < b.fHigh.fInt ∧ b.fHigh.fInt - b.fLow.fInt < 18446744073709551616 := by
  obtain ⟨k1, k2⟩ := mid_kind h
  have h1 := (plain_right h.s.pl).1
  have h2 := (plain_right h.s.ph).1
  have c1 := h.lo
  have c2 := h.hi
  rw [cmp_ints h1 h.rv (by omega) hk] at c1
  rw [cmp_ints h.rv h2 hk (by omega)] at c2
  have i1 := iC_cases b.fLow.fInt v.fInt
  have i2 := iC_cases v.fInt b.fHigh.fInt
  have w1 := hW.1.2.1
  have w2 := hW.2.1.2.1
  simp only [wI, IntKind.min, IntKind.max, IntKind.signed, IntKind.bits] at w1 w2
  simp at w1 w2
  omega
theorem usub_int {x y : Int} (h1 : y ≤ x) (h2 : x - y < 18446744073709551616) : IntKind.wrap .u64 (IntKind.wrap .u64 x - IntKind.wrap .u64 y) = ((x - y).toNat : Int) := by
  simp only [IntKind.wrap, IntKind.signed, IntKind.bits]
  simp
  omega
theorem hist_share_ok {b : HB} {v : api_Value} (hW : W_hist_Bucket b) (hv : W_api_Value v) (h : Mid b v) {n : Nat} (hn : 20 ≤ n) : hist_share n b v = some (shareB b v) := by
  obtain ⟨n, rfl⟩ : ∃ k, n = k + 1 := ⟨n - 1, by omega⟩
  have c1 := h.s.c1; have c2 := h.s.c2
  unfold hist_share shareB
  rw [at1_succ]
  by_cases hk : v.fKind = 2
  · obtain ⟨m1, m2, m3⟩ := mid_ints hW hv h hk
    rw [if_pos hk, show (v.fKind != 2) = false by simp [hk], cond_false, usub_int (by omega) (by omega), usub_int (by omega) (by omega)]
    have ec : IntKind.wrap .u64 b.fCount = ((b.fCount.toNat : Nat) : Int) := uwrap (by omega) (by omega)
    rw [ec]
    obtain ⟨x, r, e1, e2⟩ := share_prog (c := b.fCount.toNat) (part := (v.fInt - b.fLow.fInt).toNat) (whole := (b.fHigh.fInt - b.fLow.fInt).toNat) (by omega) (by omega) (by omega) (n := n) (by omega)
    rw [e1, Option.bind_some, e2, Option.bind_some]
    congr 1
    have hle : b.fCount.toNat * (v.fInt - b.fLow.fInt).toNat / (b.fHigh.fInt - b.fLow.fInt).toNat ≤ b.fCount.toNat := by
      have : b.fCount.toNat * (v.fInt - b.fLow.fInt).toNat ≤ b.fCount.toNat * (b.fHigh.fInt - b.fLow.fInt).toNat := Nat.mul_le_mul_left _ (by omega)
      exact Nat.div_le_of_le_mul (by rw [Nat.mul_comm (b.fHigh.fInt - b.fLow.fInt).toNat]; exact this)
    unfold partN wholeN
    generalize b.fCount.toNat * (v.fInt - b.fLow.fInt).toNat / (b.fHigh.fInt - b.fLow.fInt).toNat = z at hle
    exact wv rfl (by omega)
  · rw [if_neg hk, show (v.fKind != 2) = true by simp [hk], cond_true]
    congr 1
    have : 0 ≤ Int.tdiv b.fCount 2 ∧ Int.tdiv b.fCount 2 ≤ b.fCount := by
      rw [Int.tdiv_eq_ediv_of_nonneg (by omega)]; omega
    exact wrapI (by omega) (by omega)
theorem share_range {b : HB} {v : api_Value} (hW : W_hist_Bucket b) (hv : W_api_Value v) (h : Mid b v) : 0 ≤ shareB b v ∧ shareB b v ≤ b.fCount := by
  have c1 := h.s.c1; have c2 := h.s.c2
  unfold shareB
  by_cases hk : v.fKind = 2
  · obtain ⟨m1, m2, m3⟩ := mid_ints hW hv h hk
    rw [if_pos hk]
    have hle : b.fCount.toNat * (v.fInt - b.fLow.fInt).toNat / (b.fHigh.fInt - b.fLow.fInt).toNat ≤ b.fCount.toNat := by
      have : b.fCount.toNat * (v.fInt - b.fLow.fInt).toNat ≤ b.fCount.toNat * (b.fHigh.fInt - b.fLow.fInt).toNat := Nat.mul_le_mul_left _ (by omega)
      exact Nat.div_le_of_le_mul (by rw [Nat.mul_comm (b.fHigh.fInt - b.fLow.fInt).toNat]; exact this)
    unfold partN wholeN
    generalize b.fCount.toNat * (v.fInt - b.fLow.fInt).toNat / (b.fHigh.fInt - b.fLow.fInt).toNat = z at hle
    omega
  · rw [if_neg hk, Int.tdiv_eq_ediv_of_nonneg (by omega)]; omega
def withinB (b : HB) (v : api_Value) : Int := min (max (shareB b v) (eachB b)) (b.fCount - eachB b)
theorem hist_within_ok {b : HB} {v : api_Value} (hW : W_hist_Bucket b) (hv : W_api_Value v) (h : Mid b v) {n : Nat} (hn : 30 ≤ n) : hist_within n b v = some (withinB b v) := by
  obtain ⟨n, rfl⟩ : ∃ k, n = k + 1 := ⟨n - 1, by omega⟩
  have c1 := h.s.c1; have c2 := h.s.c2
  have hr := each_range h.s
  unfold hist_within withinB
  rw [at1_succ, hist_share_ok hW hv h (by omega), Option.bind_some, hist_each_ok h.s (by omega), Option.bind_some, Option.bind_some, wrapI (x := b.fCount - eachB b) (by omega) (by omega)]
  congr 1
  split <;> split <;> omega
def inB (b : HB) (v : api_Value) (also : Bool) : Int :=
  if vCmp v b.fHigh = 0 then (bif also then b.fCount else b.fCount - eachB b) else if vCmp v b.fLow = 0 then (bif also then eachB b else 0) else withinB b v
def belowH (h : List HB) (v : api_Value) (also : Bool) : Int := if askH h v = true then (match (loc v h 0).1 with | none => (loc v h 0).2 | some b => (loc v h 0).2 + inB b v also) else 0
theorem loc_range {v : api_Value} : ∀ {h : List HB} {ah : Int}, (∀ b, b ∈ h → Snd b) → 0 ≤ ah → 0 ≤ (loc v h ah).2 ∧ (loc v h ah).2 ≤ ah + sumC h
  | [], ah, _, _ => by simp [loc, sumC]; omega
  | b :: h, ah, hs, h0 => by
    have h1 := hs b (by simp)
    have := h1.c1; have := h1.c2
    have hr := sumC_range (h := h) fun c hc => hs c (List.mem_cons_of_mem _ hc)
    rw [loc, sumC]
    split
    · simp only; omega
    · split
      · simp only; omega
      · have := loc_range (v := v) (h := h) (ah := ah + b.fCount) (fun c hc => hs c (List.mem_cons_of_mem _ hc)) (by omega)
        omega
theorem inB_range {b : HB} {v : api_Value} (hW : W_hist_Bucket b) (hv : W_api_Value v) (hs : Snd b) (hr : vRight v = true) (h1 : vCmp b.fLow v ≤ 0) (h2 : vCmp v b.fHigh ≤ 0) (also : Bool) : 0 ≤ inB b v also ∧ inB b v also ≤ b.fCount := by
  have he := each_range hs
  have an := vCmp_ord.anti v b.fLow
  unfold inB
  split
  · cases also <;> simp <;> omega
  · split
    · cases also <;> simp <;> omega
    · have := share_range hW hv ⟨hs, hr, by omega, by omega⟩
      unfold withinB
      omega
theorem hist_Below_ok {a : Option (List HB)} (ha : WH a) {v : api_Value} (hv : W_api_Value v) (also : Bool) {n : Nat} (h : 2000030 ≤ n) : hist_Below n a v also = some (belowH (sll a) v also) := by
  obtain ⟨n, rfl⟩ : ∃ k, n = k + 1 := ⟨n - 1, by omega⟩
  unfold hist_Below belowH
  rw [at1_succ]
  rcases hist_find_ok ha hv (n := n) (by omega) with ⟨h1, h2⟩ | ⟨h1, i, t, h2, h3⟩
  · rw [h2, h1]; rfl
  · rw [h2, h1, if_pos rfl, Option.bind_some]
    rcases h3 with ⟨rfl, h3⟩ | ⟨rfl, b, h3, h4⟩
    · rw [h3]; rfl
    · simp only [Bool.not_true, cond_false]
      have hb := loc_mem (v := v) (h := sll a) (ah := 0) (b := b) (k := (loc v (sll a) 0).2) (by rw [← h3])
      obtain ⟨r1, r2, r3⟩ := ask_all h1
      have hall := chain_all (right_len r1).2
      have hs := hall b hb.1
      have hW := ha.2 b hb.1
      have hlr := loc_range (v := v) hall (Int.le_refl 0)
      have hsr := sumC_range hall
      have hle := (right_len r1).1
      have he := each_range hs
      have c1 := hs.c1; have c2 := hs.c2
      have an := vCmp_ord.anti v b.fLow
      have sm1 : value_Same n v b.fHigh = some (vCmp v b.fHigh == 0) := by
        obtain ⟨n, rfl⟩ : ∃ k, n = k + 1 := ⟨n - 1, by omega⟩
        unfold value_Same
        rw [at1_succ, value_Cmp_ok hv hW.2.1 (by omega)]; rfl
      have sm2 : value_Same n v b.fLow = some (vCmp v b.fLow == 0) := by
        obtain ⟨n, rfl⟩ : ∃ k, n = k + 1 := ⟨n - 1, by omega⟩
        unfold value_Same
        rw [at1_succ, value_Cmp_ok hv hW.1 (by omega)]; rfl
      rw [h4, Option.bind_some, sm1, Option.bind_some, Option.bind_some, sm2, Option.bind_some, Option.bind_some, hist_each_ok hs (by omega), Option.bind_some, Option.bind_some, h3]
      generalize (loc v (sll a) 0).2 = ah at *
      simp only []
      rw [wrapI (x := ah + b.fCount) (by omega) (by omega), wrapI (x := ah + b.fCount - eachB b) (by omega) (by omega), wrapI (x := ah + eachB b) (by omega) (by omega)]
      unfold inB
      by_cases e1 : vCmp v b.fHigh = 0
      · rw [if_pos e1, show (vCmp v b.fHigh == 0) = true by simp [e1]]
        cases also <;> simp <;> omega
      · rw [if_neg e1, show (vCmp v b.fHigh == 0) = false by simp [e1]]
        by_cases e2 : vCmp v b.fLow = 0
        · rw [if_pos e2, show (vCmp v b.fLow == 0) = true by simp [e2]]
          cases also <;> simp
        · have hm : Mid b v := ⟨hs, r2, by omega, by omega⟩
          have hwr : 0 ≤ withinB b v ∧ withinB b v ≤ b.fCount := by
            have := share_range hW hv hm
            unfold withinB; omega
          rw [if_neg e2, show (vCmp v b.fLow == 0) = false by simp [e2], hist_within_ok hW hv hm (by omega)]
          simp only [Bool.false_and, cond_false, Option.bind_some]
          rw [wrapI (by omega) (by omega)]
theorem ref19_below_loop {n : Nat} (hn : 2000050 ≤ n) {a : Option (List T19)} (ha : WT a) {v : api_Value} (hv : W_api_Value v) (also : Bool) (hq : askH ((sll a).map gv) v = true) : ∀ (l : List T19) (m : Nat) (p : List T19) (s : Int) (o : Option HB), sll a = p ++ l → chainP o (l.map gv) = true → loc v ((sll a).map gv) 0 = loc v (l.map gv) s → 0 ≤ s → s + 1000000 * l.length ≤ 100000000 → l.length < m →
    ref19_Below_l3 n a v also (fun y => some y) m s (p.length : Int) = some (match (loc v (l.map gv) s).1 with | none => (loc v (l.map gv) s).2 | some b => (loc v (l.map gv) s).2 + inB b v also)
  | [], m, p, s, o, he, _, _, _, _, hm => by
    obtain ⟨m, rfl⟩ : ∃ j, m = j + 1 := ⟨m - 1, by omega⟩
    rw [List.append_nil] at he
    rw [ref19_Below_l3, he, dF (by omega), cond_false]
    rfl
  | b :: l, m, p, s, o, he, hc, hloc, h0, hb, hm => by
    obtain ⟨m, rfl⟩ : ∃ j, m = j + 1 := ⟨m - 1, by omega⟩
    have hlen : (sll a).length = p.length + (l.length + 1) := by rw [he]; simp
    have ha1 := ha.1
    rw [List.length_cons] at hm hb
    have hs : Snd (gv b) := chain_all hc (gv b) (by simp)
    have c1 : 1 ≤ b.fCount := hs.c1
    have c2 : b.fCount ≤ 1000000 := hs.c2
    have hix : idx (sll a) (p.length : Int) = some b := by rw [he]; exact idx_app p b l
    have hW := ha.2 b (by rw [he]; simp)
    have hrv := (ask_all hq).2.1
    have an1 := vCmp_ord.anti v b.fHigh
    have an2 := vCmp_ord.anti v b.fLow
    rw [ref19_Below_l3, dT (by omega), cond_true, ref19_asked_ok ha hv (by omega), Option.bind_some, hq, cond_true, hix, Option.bind_some, ref04_Cmp_ok hW.2.1 hv (by omega), Option.bind_some, ref04_Cmp_ok hv hW.1 (by omega), Option.bind_some, ref19_Equal_ok ha hv (by omega), Option.bind_some, ref04_Cmp_ok hv hW.2.1 (by omega), Option.bind_some, Option.bind_some]
    rw [List.map_cons] at hloc hc ⊢
    have el : loc v (gv b :: l.map gv) s = if vCmp v b.fLow < 0 then (none, s) else if vCmp v b.fHigh ≤ 0 then (some (gv b), s) else loc v (l.map gv) (s + b.fCount) := rfl
    rw [el] at hloc ⊢
    by_cases g1 : vCmp b.fHigh v < 0
    · -- ahead
      have g2 : ¬ vCmp v b.fLow < 0 := by
        intro g
        have t1 := vCmp_ord.trans v b.fLow b.fHigh (by omega) hs.le
        omega
      rw [dT g1, cond_true, wrapN (by omega), wrapI (x := s + b.fCount) (by omega) (by omega)]
      rw [if_neg g2, if_neg (by omega)] at hloc ⊢
      have := ref19_below_loop hn ha hv also hq l m (p ++ [b]) (s + b.fCount) (some (gv b)) (by rw [he]; simp) (chain_next hc) hloc (by omega) (by omega) (by omega)
      rw [show (p ++ [b]).length = p.length + 1 by simp] at this
      exact this
    · rw [dF g1, cond_false]
      by_cases g2 : vCmp v b.fLow < 0
      · rw [dT g2, cond_true, if_pos g2]
      · rw [dF g2, cond_false, if_neg g2, if_pos (by omega)]
        rw [if_neg g2, if_pos (by omega)] at hloc
        have heq : equalH ((sll a).map gv) v = eachB (gv b) := by
          unfold equalH
          rw [hq, if_pos rfl, hloc]
        have her := each_range hs
        have cc : (gv b).fCount = b.fCount := rfl
        rw [heq]
        simp only []
        have lowE : (gv b).fLow = b.fLow := rfl
        have highE : (gv b).fHigh = b.fHigh := rfl
        rw [wrapI (x := s + b.fCount) (by omega) (by omega), wrapI (x := s + b.fCount - eachB (gv b)) (by omega) (by omega), wrapI (x := s + eachB (gv b)) (by omega) (by omega), wrapI (x := b.fCount - eachB (gv b)) (by omega) (by omega)]
        unfold inB
        rw [lowE, highE, cc]
        by_cases e1 : vCmp v b.fHigh = 0
        · rw [if_pos e1, show (vCmp v b.fHigh == 0) = true by simp [e1]]
          cases also <;> simp <;> omega
        · rw [if_neg e1, show (vCmp v b.fHigh == 0) = false by simp [e1], cond_false]
          by_cases e2 : vCmp v b.fLow = 0
          · rw [if_pos e2, show (vCmp v b.fLow == 0) = true by simp [e2]]
            cases also <;> simp
          · have hm' : Mid (gv b) v := ⟨hs, hrv, by rw [lowE]; omega, by rw [highE]; omega⟩
            have hsr := share_range (b := gv b) (gv_W hW) hv hm'
            rw [if_neg e2, show (vCmp v b.fLow == 0) = false by simp [e2], cond_false]
            simp only [withK]
            have sh : (bif (v.fKind == 2) then (ref19_Share n b.fCount (IntKind.wrap .u64 ((IntKind.wrap .u64 v.fInt) - (IntKind.wrap .u64 b.fLow.fInt))) (IntKind.wrap .u64 ((IntKind.wrap .u64 b.fHigh.fInt) - (IntKind.wrap .u64 b.fLow.fInt)))).bind fun x42 => bif decide (x42 < eachB (gv b)) then (bif decide (eachB (gv b) > b.fCount - eachB (gv b)) then some (IntKind.wrap .i64 (s + (b.fCount - eachB (gv b)))) else some (IntKind.wrap .i64 (s + eachB (gv b)))) else (bif decide (x42 > b.fCount - eachB (gv b)) then some (IntKind.wrap .i64 (s + (b.fCount - eachB (gv b)))) else some (IntKind.wrap .i64 (s + x42))) else bif decide (IntKind.wrap .i64 (Int.tdiv b.fCount 2) < eachB (gv b)) then (bif decide (eachB (gv b) > b.fCount - eachB (gv b)) then some (IntKind.wrap .i64 (s + (b.fCount - eachB (gv b)))) else some (IntKind.wrap .i64 (s + eachB (gv b)))) else (bif decide (IntKind.wrap .i64 (Int.tdiv b.fCount 2) > b.fCount - eachB (gv b)) then some (IntKind.wrap .i64 (s + (b.fCount - eachB (gv b)))) else some (IntKind.wrap .i64 (s + IntKind.wrap .i64 (Int.tdiv b.fCount 2)))))
                = (bif decide (shareB (gv b) v < eachB (gv b)) then (bif decide (eachB (gv b) > b.fCount - eachB (gv b)) then some (IntKind.wrap .i64 (s + (b.fCount - eachB (gv b)))) else some (IntKind.wrap .i64 (s + eachB (gv b)))) else (bif decide (shareB (gv b) v > b.fCount - eachB (gv b)) then some (IntKind.wrap .i64 (s + (b.fCount - eachB (gv b)))) else some (IntKind.wrap .i64 (s + shareB (gv b) v)))) := by
              by_cases hk : v.fKind = 2
              · obtain ⟨m1, m2, m3⟩ := mid_ints (gv_W hW) hv hm' hk
                rw [lowE] at m1
                rw [highE] at m2
                rw [lowE, highE] at m3
                have e : ref19_Share n b.fCount (IntKind.wrap .u64 ((IntKind.wrap .u64 v.fInt) - (IntKind.wrap .u64 b.fLow.fInt))) (IntKind.wrap .u64 ((IntKind.wrap .u64 b.fHigh.fInt) - (IntKind.wrap .u64 b.fLow.fInt))) = some (shareB (gv b) v) := by
                  rw [usub_int (by omega) (by omega), usub_int (by omega) (by omega)]
                  have := share_ref (c := b.fCount.toNat) (part := (v.fInt - b.fLow.fInt).toNat) (whole := (b.fHigh.fInt - b.fLow.fInt).toNat) (by omega) (by omega) (by omega) (n := n) (by omega)
                  rw [show ((b.fCount.toNat : Nat) : Int) = b.fCount by omega] at this
                  rw [this]
                  unfold shareB
                  rw [if_pos hk]
                  rfl
                rw [show (v.fKind == 2) = true by simp [hk], cond_true, e, Option.bind_some]
              · have e : IntKind.wrap .i64 (Int.tdiv b.fCount 2) = shareB (gv b) v := by
                  unfold shareB
                  rw [if_neg hk]
                  have : 0 ≤ Int.tdiv b.fCount 2 ∧ Int.tdiv b.fCount 2 ≤ b.fCount := by
                    rw [Int.tdiv_eq_ediv_of_nonneg (by omega)]; omega
                  exact wrapI (by omega) (by omega)
                rw [show (v.fKind == 2) = false by simp [hk], cond_false, e]
            refine Eq.trans sh ?_
            unfold withinB
            rw [cc]
            rw [cc] at hsr
            generalize shareB (gv b) v = k at *
            generalize eachB (gv b) = e at *
            rw [cc] at her
            rw [wrapI (x := s + (b.fCount - e)) (by omega) (by omega), wrapI (x := s + e) (by omega) (by omega), wrapI (x := s + k) (by omega) (by omega)]
            by_cases d1 : k < e
            · rw [dT d1, cond_true]
              by_cases d2 : e > b.fCount - e
              · rw [dT d2, cond_true]; congr 1; omega
              · rw [dF d2, cond_false]; congr 1; omega
            · rw [dF d1, cond_false]
              by_cases d2 : k > b.fCount - e
              · rw [dT d2, cond_true]; congr 1; omega
              · rw [dF d2, cond_false]; congr 1; omega
theorem ref19_Below_ok {a : Option (List T19)} (ha : WT a) {v : api_Value} (hv : W_api_Value v) (also : Bool) {n : Nat} (h : 2000060 ≤ n) : ref19_Below n a v also = some (belowH ((sll a).map gv) v also) := by
  obtain ⟨n, rfl⟩ : ∃ k, n = k + 1 := ⟨n - 1, by omega⟩
  have ha1 := ha.1
  unfold ref19_Below belowH
  simp only [at1_succ, withK]
  cases hq : askH ((sll a).map gv) v with
  | false =>
    obtain ⟨n, rfl⟩ : ∃ k, n = k + 1 := ⟨n - 1, by omega⟩
    rw [ref19_Below_l3]
    cases hd : decide ((0 : Int) < ((sll a).length : Int)) with
    | false => rfl
    | true => rw [cond_true, ref19_asked_ok ha hv (by omega), hq]; rfl
  | true =>
    obtain ⟨h1, h2⟩ := right_len (ask_all hq).1
    rw [List.length_map] at h1
    rw [if_pos rfl]
    exact ref19_below_loop (n := n) (by omega) ha hv also hq (sll a) n [] 0 none rfl h2 rfl (by omega) (by omega) (by omega)
end Go.Pl
set_option maxRecDepth 100000
namespace Go.Pl
open Go Go.Ab
def blw (l : List HB) (ah : Int) (v : api_Value) (also : Bool) : Int := match (loc v l ah).1 with | none => (loc v l ah).2 | some b => (loc v l ah).2 + inB b v also
theorem blw_nil (ah : Int) (v : api_Value) (also : Bool) : blw [] ah v also = ah := rfl
theorem blw_cons (b : HB) (l : List HB) (ah : Int) (v : api_Value) (also : Bool) : blw (b :: l) ah v also = if vCmp v b.fLow < 0 then ah else if vCmp v b.fHigh ≤ 0 then ah + inB b v also else blw l (ah + b.fCount) v also := by
  unfold blw
  rw [loc]
  by_cases h1 : vCmp v b.fLow < 0
  · rw [if_pos h1, if_pos h1]
  · rw [if_neg h1, if_neg h1]
    by_cases h2 : vCmp v b.fHigh ≤ 0
    · rw [if_pos h2, if_pos h2]
    · rw [if_neg h2, if_neg h2]
theorem blw_range {v : api_Value} (hv : W_api_Value v) (rv : vRight v = true) (also : Bool) : ∀ {l : List HB} {ah : Int}, (∀ b, b ∈ l → W_hist_Bucket b) → (∀ b, b ∈ l → Snd b) → ah ≤ blw l ah v also ∧ blw l ah v also ≤ ah + sumC l
  | [], ah, _, _ => by rw [blw_nil]; simp [sumC]
  | b :: l, ah, hW, hs => by
    have h1 := hs b (by simp)
    have := h1.c1
    have hr := sumC_range (h := l) fun c hc => hs c (List.mem_cons_of_mem _ hc)
    have ih := blw_range hv rv also (l := l) (ah := ah + b.fCount) (fun c hc => hW c (List.mem_cons_of_mem _ hc)) (fun c hc => hs c (List.mem_cons_of_mem _ hc))
    have an := vCmp_ord.anti v b.fLow
    rw [blw_cons, sumC]
    split
    · omega
    · split
      · have := inB_range (hW b (by simp)) hv h1 rv (by omega) (by assumption) also
        omega
      · omega
theorem below_blw {h : List HB} {v : api_Value} (ha : askH h v = true) (also : Bool) : belowH h v also = blw h 0 v also := by
  unfold belowH blw; (rw [if_pos ha]) <;> rfl
end Go.Pl
