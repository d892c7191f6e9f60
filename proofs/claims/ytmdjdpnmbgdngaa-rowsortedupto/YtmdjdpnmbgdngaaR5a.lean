import Derived.Test.YtmdjdpnmbgdngaaPL
import Derived.Test.YtmdjdpnmbgdngaaPA
import Derived.Test.YtmdjdpnmbgdngaaAbFlt
set_option linter.unusedVariables false
set_option linter.unusedSimpArgs false
namespace Go.Pl
open Go Go.Ab
/-! ### Values -/
theorem wF_lt {f : Nat} (h : wF .f64 f) : f < 2 ^ 64 := by
  unfold wF at h
  simpa [Lit.wf] using h
def posZ (f : Nat) : Bool := isZero f && !signb f
def empS (s : ByteArray) : Bool := sEq s ByteArray.empty
def vRight (v : api_Value) : Bool :=
  if v.fKind = 0 then v.fInt == 0 && (posZ v.fFloat && empS v.fText)
  else if v.fKind = 1 then (v.fInt == 0 || v.fInt == 1) && (posZ v.fFloat && empS v.fText)
  else if v.fKind = 2 then posZ v.fFloat && empS v.fText
  else if v.fKind = 3 then v.fInt == 0 && empS v.fText
  else if v.fKind = 4 then v.fInt == 0 && (posZ v.fFloat && decide ((v.fText.size : Int) ≤ 64))
  else false
theorem math_Signbit_ok (f : Nat) {n : Nat} (h : 1 ≤ n) : math_Signbit n f = some (signb f) := by
  obtain ⟨n, rfl⟩ : ∃ k, n = k + 1 := ⟨n - 1, by omega⟩
  rfl
theorem kcond {α : Type} {a b : Int} {x y : α} : (bif a == b then x else y) = if a = b then x else y := by
  by_cases h : a = b
  · simp [h]
  · have : (a == b) = false := by simpa using h
    rw [this]; simp [h]
def vR (y : Bool) (v : api_Value) : Bool :=
  if v.fKind = 0 then v.fInt == 0 && (y && empS v.fText)
  else if v.fKind = 1 then (v.fInt == 0 || v.fInt == 1) && (y && empS v.fText)
  else if v.fKind = 2 then y && empS v.fText
  else if v.fKind = 3 then v.fInt == 0 && empS v.fText
  else if v.fKind = 4 then v.fInt == 0 && (y && decide ((v.fText.size : Int) ≤ 64))
  else false
theorem vR_aux (y : Bool) (v : api_Value) : (bif (v.fKind == 0) then some (((v.fInt == 0) && y) && (sEq v.fText ByteArray.empty)) else bif (v.fKind == 1) then bif ((v.fInt != 0) && (v.fInt != 1)) then some false else some (y && (sEq v.fText ByteArray.empty)) else bif (v.fKind == 2) then some (y && (sEq v.fText ByteArray.empty)) else bif (v.fKind == 3) then some ((v.fInt == 0) && (sEq v.fText ByteArray.empty)) else bif (v.fKind == 4) then some (((v.fInt == 0) && y) && (decide ((v.fText.size : Int) ≤ 64))) else some false) = some (vR y v) := by
  simp only [kcond]
  unfold vR
  split
  · simp [empS, Bool.and_assoc]
  · split
    · unfold empS
      by_cases h0 : v.fInt = 0
      · simp [h0]
      · by_cases h1 : v.fInt = 1
        · simp [h1]
        · have e0 : (v.fInt == 0) = false := by simpa using h0
          have e1 : (v.fInt == 1) = false := by simpa using h1
          have e2 : (v.fInt != 0) = true := by simp [bne, e0]
          have e3 : (v.fInt != 1) = true := by simp [bne, e1]
          rw [e0, e1, e2, e3]; simp
    · split
      · rfl
      · split
        · rfl
        · split
          · simp [Bool.and_assoc]
          · rfl
theorem value_Right_ok (v : api_Value) {n : Nat} (h : 2 ≤ n) : value_Right n v = some (vRight v) := by
  obtain ⟨n, rfl⟩ : ∃ k, n = k + 1 := ⟨n - 1, by omega⟩
  unfold value_Right
  simp only [at1_succ, withK]
  rw [math_Signbit_ok _ (by omega)]
  simp only [Option.bind_some]
  rw [vR_aux, vR_aux]
  show _ = some (vR (posZ v.fFloat) v)
  unfold posZ isZero
  cases FloatKind.f64.format.order v.fFloat 0 == some .eq <;> rfl
/-! ### Rows -/
end Go.Pl
