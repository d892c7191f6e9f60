import Derived.Test.YtknmgphnkfeifaaQ06b
import Derived.Test.YtknmgphnkfeifaaAbFlt
set_option linter.unusedVariables false
set_option linter.unusedSimpArgs false
namespace Go.Pl
open Go Go.Ab

/-! ### Values -/
theorem wF_lt {f : Nat} (h : wF .f64 f) : f < 2 ^ 64 := by
  unfold wF at h
  simpa [Lit.wf] using h
def posZ (f : Nat) : Bool := isZero f && !signb f
def empS (s : ByteArray) : Bool := sEq s ByteArray.empty
def vRight (v : api_Value) : Bool :=
  if v.fKind = 0 then v.fInt == 0 && (posZ v.fFloat && empS v.fText)
  else if v.fKind = 1 then (v.fInt == 0 || v.fInt == 1) && (posZ v.fFloat && empS v.fText)
  else if v.fKind = 2 then posZ v.fFloat && empS v.fText
  else if v.fKind = 3 then v.fInt == 0 && empS v.fText
  else if v.fKind = 4 then v.fInt == 0 && (posZ v.fFloat && decide ((v.fText.size : Int) ≤ 64))
  else false
theorem math_Signbit_ok (f : Nat) {n : Nat} (h : 1 ≤ n) : math_Signbit n f = some (signb f) := by
  obtain ⟨n, rfl⟩ : ∃ k, n = k + 1 := ⟨n - 1, by omega⟩
  rfl
theorem kcond {α : Type} {a b : Int} {x y : α} : (bif a == b then x else y) = if a = b then x else y := by
  by_cases h : a = b
  · simp [h]
  · have : (a == b) = false := by simpa using h
    rw [this]; simp [h]
def vR (y : Bool) (v : api_Value) : Bool :=
  if v.fKind = 0 then v.fInt == 0 && (y && empS v.fText)
  else if v.fKind = 1 then (v.fInt == 0 || v.fInt == 1) && (y && empS v.fText)
  else if v.fKind = 2 then y && empS v.fText
  else if v.fKind = 3 then v.fInt == 0 && empS v.fText
  else if v.fKind = 4 then v.fInt == 0 && (y && decide ((v.fText.size : Int) ≤ 64))
  else false
theorem vR_aux (y : Bool) (v : api_Value) : (bif (v.fKind == 0) then some (((v.fInt == 0) && y) && (sEq v.fText ByteArray.empty)) else bif (v.fKind == 1) then bif ((v.fInt != 0) && (v.fInt != 1)) then some false else some (y && (sEq v.fText ByteArray.empty)) else bif (v.fKind == 2) then some (y && (sEq v.fText ByteArray.empty)) else bif (v.fKind == 3) then some ((v.fInt == 0) && (sEq v.fText ByteArray.empty)) else bif (v.fKind == 4) then some (((v.fInt == 0) && y) && (decide ((v.fText.size : Int) ≤ 64))) else some false) = some (vR y v) := by
  simp only [kcond]
  unfold vR
  split
  · simp [empS, Bool.and_assoc]
  · split
    · unfold empS
      by_cases h0 : v.fInt = 0
      · simp [h0]
      · by_cases h1 : v.fInt = 1
        · simp [h1]
        · have e0 : (v.fInt == 0) = false := by simpa using h0
          have e1 : (v.fInt == 1) = false := by simpa using h1
          have e2 : (v.fInt != 0) = true := by simp [bne, e0]
          have e3 : (v.fInt != 1) = true := by simp [bne, e1]
          rw [e0, e1, e2, e3]; simp
    · split
      · rfl
      · split
        · rfl
        · split
          · simp [Bool.and_assoc]
          · rfl
theorem value_Right_ok (v : api_Value) {n : Nat} (h : 2 ≤ n) : value_Right n v = some (vRight v) := by
  obtain ⟨n, rfl⟩ : ∃ k, n = k + 1 := ⟨n - 1, by omega⟩
  unfold value_Right
  simp only [at1_succ, withK]
  rw [math_Signbit_ok _ (by omega)]
  simp only [Option.bind_some]
  rw [vR_aux, vR_aux]
  show _ = some (vR (posZ v.fFloat) v)
  unfold posZ isZero
  cases FloatKind.f64.format.order v.fFloat 0 == some .eq <;> rfl
theorem ref04_zero_ok {f : Nat} (hf : wF .f64 f) {n : Nat} (h : 1 ≤ n) : ref04_zero n f = some (posZ f) := by
  obtain ⟨n, rfl⟩ : ∃ k, n = k + 1 := ⟨n - 1, by omega⟩
  unfold ref04_zero
  simp only [at1_succ]
  unfold posZ
  cases hz : isZero f with
  | false =>
    have : ((FloatKind.format .f64).order f 0 == some .eq) = false := hz
    rw [this]; rfl
  | true =>
    have : ((FloatKind.format .f64).order f 0 == some .eq) = true := hz
    rw [this]
    obtain ⟨r, h1, h2⟩ := inv_zero (wF_lt hf) hz
    rw [cond_true, h1, Option.bind_some, h2]
    simp
theorem ref04_Right_ok {v : api_Value} (hv : W_api_Value v) {n : Nat} (h : 2 ≤ n) : ref04_Right n v = some (vRight v) := by
  obtain ⟨n, rfl⟩ : ∃ k, n = k + 1 := ⟨n - 1, by omega⟩
  unfold ref04_Right
  simp only [at1_succ]
  rw [ref04_zero_ok hv.2.2.1 (by omega)]
  simp only [Option.bind_some, kcond]
  unfold vRight empS
  split
  · split <;> simp [*]
  · split
    · cases h0 : (v.fInt == 0 || v.fInt == 1) <;> simp
    · split
      · rfl
      · split
        · rfl
        · split
          · split <;> simp [*]
          · rfl

/-! ### Rows -/
theorem row_Right_1_ok (v : api_Value) {n : Nat} (h : 3 ≤ n) : row_Right_1 n v = some (!vRight v) := by
  obtain ⟨n, rfl⟩ : ∃ k, n = k + 1 := ⟨n - 1, by omega⟩
  unfold row_Right_1
  rw [at1_succ, value_Right_ok v (by omega)]
  rfl
def rowRight (l : List api_Value) : Bool := decide ((l.length : Int) ≤ 200) && l.all vRight
theorem firstI_all {α : Type} (p : α → Bool) (l : List α) : (!decide (firstI (fun x => !p x) l ≥ 0)) = l.all p := by
  unfold firstI
  cases h : l.findIdx? (fun x => !p x) with
  | none =>
    have h1 : l.all p = true := by
      rw [List.all_eq_true]
      intro x hx
      simpa using List.findIdx?_eq_none_iff.1 h x hx
    rw [h1]; rfl
  | some j =>
    obtain ⟨h1, h2, _⟩ := List.findIdx?_eq_some_iff_getElem.1 h
    have h3 : l.all p = false := by
      rw [List.all_eq_false]
      exact ⟨l[j], List.getElem_mem _, by simpa using h2⟩
    rw [h3]
    simp
theorem row_Right_ok {s : Option (List api_Value)} (hs : (sll s).length ≤ 1048576) {n : Nat} (h : 2000004 ≤ n) : row_Right n s = some (rowRight (sll s)) := by
  obtain ⟨n, rfl⟩ : ∃ k, n = k + 3 := ⟨n - 3, by omega⟩
  unfold row_Right slices_ContainsFunc_Value_row_Right_1 slices_IndexFunc_Value_row_Right_1
  simp only [at1_succ, withK]
  rw [show slices_IndexFunc_Value_row_Right_1_l2 n s (fun _ => some (-1)) n 0 = _ from loop_sl (F := fun m (_ : Unit) i => slices_IndexFunc_Value_row_Right_1_l2 n s (fun _ => some (-1)) m i) hs (B := fun c i (_ : Unit) rec => (row_Right_1 n c).bind fun b => bif b then some (i : Int) else rec ()) (fun m i _ => rfl) (by omega) ()]
  rw [range_find_of (p := fun x => !vRight x) _ _ (fun x _ => row_Right_1_ok x (by omega)), range_find0]
  simp only [Option.bind_some, firstI_all]
  unfold rowRight
  cases decide (((sll s).length : Int) ≤ 200) <;> simp

/-! ### Does a row fit? -/
def fitsL : List api_Value → List api_Column → Bool
  | v :: r, c :: cs => (v.fKind == 0 || v.fKind == c.fKind) && fitsL r cs
  | [], _ => true
  | _ :: _, [] => true
def tabFits (t : api_Table) (s : Option (List api_Value)) : Bool := (((sll s).length : Int) == ((sll t.fCols).length : Int)) && (rowRight (sll s) && fitsL (sll s) (sll t.fCols))
theorem fits_loop {cols : List api_Column} {q : api_Value → Option Bool} {p : api_Value → Bool} : ∀ (l : List api_Value) (i : Nat), (∀ x, x ∈ l → q x = some (p x)) → i + l.length ≤ cols.length →
    rangeS (fun (x : api_Value) i (_ : Unit) rec => (q x).bind fun b => bif (!b) then some false else bif (x.fKind != 0) then (idx cols (i : Int)).bind fun c => bif (x.fKind != c.fKind) then some false else rec () else rec ()) (fun _ => some true) l i () = some (l.all p && fitsL l (cols.drop i))
  | [], i, _, _ => by simp [rangeS, fitsL]
  | x :: l, i, hq, hi => by
    simp only [rangeS]
    rw [List.length_cons] at hi
    rw [hq x (by simp), Option.bind_some, fits_loop l (i + 1) (fun y hy => hq y (by simp [hy])) (by omega), idx_nat, List.getElem?_eq_getElem (by omega), Option.bind_some, List.drop_eq_getElem_cons (by omega : i < cols.length)]
    simp only [List.all_cons, fitsL]
    cases hp : p x with
    | false => simp
    | true =>
      have e0 : (x.fKind != 0) = !(x.fKind == 0) := rfl
      have e1 : (x.fKind != cols[i].fKind) = !(x.fKind == cols[i].fKind) := rfl
      rw [e0, e1]
      cases x.fKind == 0 <;> cases x.fKind == cols[i].fKind <;> simp
theorem schema_Fits_ok {t : api_Table} (ht : W_api_Table t) {s : Option (List api_Value)} (hs : (sll s).length ≤ 1048576) {n : Nat} (h : 2000005 ≤ n) : schema_Fits n t s = some (tabFits t s) := by
  obtain ⟨n, rfl⟩ : ∃ k, n = k + 1 := ⟨n - 1, by omega⟩
  unfold schema_Fits
  simp only [at1_succ, withK]
  rw [row_Right_ok hs (by omega), Option.bind_some]
  unfold tabFits
  have e0 : (((sll s).length : Int) != ((sll t.fCols).length : Int)) = !(((sll s).length : Int) == ((sll t.fCols).length : Int)) := rfl
  rw [e0]
  cases hlen : ((sll s).length : Int) == ((sll t.fCols).length : Int) with
  | false => rfl
  | true =>
    rw [beq_iff_eq] at hlen
    simp only [Bool.not_true, cond_false, Bool.true_and]
    cases hr : rowRight (sll s) with
    | false => rfl
    | true =>
      simp only [Bool.not_true, cond_false, Bool.true_and]
      rw [show schema_Fits_l4 n t s (fun _ => some true) n 0 = _ from loop_sl (F := fun m (_ : Unit) i => schema_Fits_l4 n t s (fun _ => some true) m i) hs (B := fun x i (_ : Unit) rec => bif (x.fKind != 0) then (idx (sll t.fCols) (i : Int)).bind fun c => bif (x.fKind != c.fKind) then some false else rec () else rec ()) (k := fun _ => some true) (fun m i _ => rfl) (by omega) ()]
      have := fits_loop (cols := sll t.fCols) (q := fun _ => some true) (p := fun _ => true) (sll s) 0 (fun _ _ => rfl) (by omega)
      simp only [Option.bind_some, Bool.not_true, cond_false, List.drop_zero] at this
      rw [this]
      simp
theorem ref06_Fits_ok {t : api_Table} (ht : W_api_Table t) {s : Option (List api_Value)} (hs : wSl W_api_Value s) {n : Nat} (h : 2000005 ≤ n) : ref06_Fits n t s = some (tabFits t s) := by
  obtain ⟨n, rfl⟩ : ∃ k, n = k + 1 := ⟨n - 1, by omega⟩
  unfold ref06_Fits
  simp only [at1_succ, withK]
  unfold tabFits rowRight
  have e0 : (((sll s).length : Int) != ((sll t.fCols).length : Int)) = !(((sll s).length : Int) == ((sll t.fCols).length : Int)) := rfl
  have e1 : decide (((sll s).length : Int) > 200) = !decide (((sll s).length : Int) ≤ 200) := by
    rw [Bool.eq_iff_iff]; simp
  rw [e0, e1]
  cases hlen : ((sll s).length : Int) == ((sll t.fCols).length : Int) with
  | false => simp
  | true =>
    rw [beq_iff_eq] at hlen
    cases hr : decide (((sll s).length : Int) ≤ 200) with
    | false => simp
    | true =>
      simp only [Bool.not_true, Bool.or_self, cond_false, Bool.true_and]
      rw [show ref06_Fits_l4 n t s (fun _ => some true) n 0 = _ from loop_sl (F := fun m (_ : Unit) i => ref06_Fits_l4 n t s (fun _ => some true) m i) hs.1 (B := fun x i (_ : Unit) rec => (ref04_Right n x).bind fun b => bif (!b) then some false else bif (x.fKind != 0) then (idx (sll t.fCols) (i : Int)).bind fun c => bif (x.fKind != c.fKind) then some false else rec () else rec ()) (k := fun _ => some true) (fun m i _ => rfl) (by omega) ()]
      rw [fits_loop (cols := sll t.fCols) (p := vRight) (sll s) 0 (fun x hx => ref04_Right_ok (hs.2 x hx) (by omega)) (by omega)]
      simp
end Go.Pl
