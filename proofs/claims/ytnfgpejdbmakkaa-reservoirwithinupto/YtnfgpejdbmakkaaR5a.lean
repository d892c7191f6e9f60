import Derived.Test.YtnfgpejdbmakkaaPL
import Derived.Test.YtnfgpejdbmakkaaPA
import Derived.Test.YtnfgpejdbmakkaaAbFlt
set_option linter.unusedVariables false
set_option linter.unusedSimpArgs false
namespace Go.Pl
open Go Go.Ab
def firstI {α : Type} (p : α → Bool) (l : List α) : Int := match l.findIdx? p with
  | some j => (j : Int)
  | none => -1
theorem range_find {α : Type} (p : α → Bool) : ∀ (l : List α) (i : Nat), rangeS (fun c i (_ : Unit) rec => bif p c then some (i : Int) else rec ()) (fun _ => some (-1)) l i () = some (match l.findIdx? p with
      | some j => ((i + j : Nat) : Int)
      | none => -1)
  | [], i => rfl
  | x :: r, i => by
    simp only [rangeS, List.findIdx?_cons]
    cases hp : p x with
    | true => simp
    | false =>
      rw [cond_false, range_find p r (i + 1)]
      cases r.findIdx? p with
      | none => rfl
      | some j =>
        simp only [Option.map_some, Option.some.injEq, Bool.false_eq_true, if_false]
        show ((i + 1 + j : Nat) : Int) = ((i + (j + 1) : Nat) : Int)
        rw [show i + 1 + j = i + (j + 1) by omega]
theorem range_find0 {α : Type} (p : α → Bool) (l : List α) : rangeS (fun c i (_ : Unit) rec => bif p c then some (i : Int) else rec ()) (fun _ => some (-1)) l 0 () = some (firstI p l) := by
  rw [range_find p l 0]
  unfold firstI
  cases l.findIdx? p with
  | none => rfl
  | some j => simp
/-- A search, where what is asked of each is what a call answers. -/
theorem range_find_of {α : Type} {q : α → Option Bool} {p : α → Bool} : ∀ (l : List α) (i : Nat), (∀ x, x ∈ l → q x = some (p x)) → rangeS (fun c i (_ : Unit) rec => (q c).bind fun b => bif b then some (i : Int) else rec ()) (fun _ => some (-1)) l i () = rangeS (fun c i (_ : Unit) rec => bif p c then some (i : Int) else rec ()) (fun _ => some (-1)) l i ()
  | [], i, _ => rfl
  | x :: r, i, h => by
    simp only [rangeS]
    rw [h x (by simp), range_find_of r (i + 1) fun y hy => h y (by simp [hy])]
    rfl
theorem firstI_range {α : Type} (p : α → Bool) (l : List α) : -1 ≤ firstI p l ∧ firstI p l < l.length := by
  unfold firstI
  cases h : l.findIdx? p with
  | none => simp; omega
  | some j =>
    have := (List.findIdx?_eq_some_iff_getElem.1 h).1
    simp only
    omega
/-! ### Values -/
theorem wF_lt {f : Nat} (h : wF .f64 f) : f < 2 ^ 64 := by
  unfold wF at h
  simpa [Lit.wf] using h
def posZ (f : Nat) : Bool := isZero f && !signb f
def empS (s : ByteArray) : Bool := sEq s ByteArray.empty
def vRight (v : api_Value) : Bool :=
  if v.fKind = 0 then v.fInt == 0 && (posZ v.fFloat && empS v.fText)
  else if v.fKind = 1 then (v.fInt == 0 || v.fInt == 1) && (posZ v.fFloat && empS v.fText)
  else if v.fKind = 2 then posZ v.fFloat && empS v.fText
  else if v.fKind = 3 then v.fInt == 0 && empS v.fText
  else if v.fKind = 4 then v.fInt == 0 && (posZ v.fFloat && decide ((v.fText.size : Int) ≤ 64))
  else false
theorem math_Signbit_ok (f : Nat) {n : Nat} (h : 1 ≤ n) : math_Signbit n f = some (signb f) := by
  obtain ⟨n, rfl⟩ : ∃ k, n = k + 1 := ⟨n - 1, by omega⟩
  rfl
theorem kcond {α : Type} {a b : Int} {x y : α} : (bif a == b then x else y) = if a = b then x else y := by
  by_cases h : a = b
  · simp [h]
  · have : (a == b) = false := by simpa using h
    rw [this]; simp [h]
def vR (y : Bool) (v : api_Value) : Bool :=
  if v.fKind = 0 then v.fInt == 0 && (y && empS v.fText)
  else if v.fKind = 1 then (v.fInt == 0 || v.fInt == 1) && (y && empS v.fText)
  else if v.fKind = 2 then y && empS v.fText
  else if v.fKind = 3 then v.fInt == 0 && empS v.fText
  else if v.fKind = 4 then v.fInt == 0 && (y && decide ((v.fText.size : Int) ≤ 64))
  else false
theorem vR_aux (y : Bool) (v : api_Value) : (bif (v.fKind == 0) then some (((v.fInt == 0) && y) && (sEq v.fText ByteArray.empty)) else bif (v.fKind == 1) then bif ((v.fInt != 0) && (v.fInt != 1)) then some false else some (y && (sEq v.fText ByteArray.empty)) else bif (v.fKind == 2) then some (y && (sEq v.fText ByteArray.empty)) else bif (v.fKind == 3) then some ((v.fInt == 0) && (sEq v.fText ByteArray.empty)) else bif (v.fKind == 4) then some (((v.fInt == 0) && y) && (decide ((v.fText.size : Int) ≤ 64))) else some false) = some (vR y v) := by
  simp only [kcond]
  unfold vR
  split
  · simp [empS, Bool.and_assoc]
  · split
    · unfold empS
      by_cases h0 : v.fInt = 0
      · simp [h0]
      · by_cases h1 : v.fInt = 1
        · simp [h1]
        · have e0 : (v.fInt == 0) = false := by simpa using h0
          have e1 : (v.fInt == 1) = false := by simpa using h1
          have e2 : (v.fInt != 0) = true := by simp [bne, e0]
          have e3 : (v.fInt != 1) = true := by simp [bne, e1]
          rw [e0, e1, e2, e3]; simp
    · split
      · rfl
      · split
        · rfl
        · split
          · simp [Bool.and_assoc]
          · rfl
theorem value_Right_ok (v : api_Value) {n : Nat} (h : 2 ≤ n) : value_Right n v = some (vRight v) := by
  obtain ⟨n, rfl⟩ : ∃ k, n = k + 1 := ⟨n - 1, by omega⟩
  unfold value_Right
  simp only [at1_succ, withK]
  rw [math_Signbit_ok _ (by omega)]
  simp only [Option.bind_some]
  rw [vR_aux, vR_aux]
  show _ = some (vR (posZ v.fFloat) v)
  unfold posZ isZero
  cases FloatKind.f64.format.order v.fFloat 0 == some .eq <;> rfl
/-! ### Rows -/
def rowRight (l : List api_Value) : Bool := decide ((l.length : Int) ≤ 200) && l.all vRight
theorem firstI_all {α : Type} (p : α → Bool) (l : List α) : (!decide (firstI (fun x => !p x) l ≥ 0)) = l.all p := by
  unfold firstI
  cases h : l.findIdx? (fun x => !p x) with
  | none =>
    have h1 : l.all p = true := by
      rw [List.all_eq_true]
      intro x hx
      simpa using List.findIdx?_eq_none_iff.1 h x hx
    rw [h1]; rfl
  | some j =>
    obtain ⟨h1, h2, _⟩ := List.findIdx?_eq_some_iff_getElem.1 h
    have h3 : l.all p = false := by
      rw [List.all_eq_false]
      exact ⟨l[j], List.getElem_mem _, by simpa using h2⟩
    rw [h3]
    simp
end Go.Pl
