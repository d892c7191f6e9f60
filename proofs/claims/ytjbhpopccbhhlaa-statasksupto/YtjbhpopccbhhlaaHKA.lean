import Derived.Test.YtjbhpopccbhhlaaHTA
import Derived.Test.YtjbhpopccbhhlaaPC
set_option linter.unusedVariables false
set_option linter.unusedSimpArgs false
/-! codec's readers and puts, in plain words. -/
namespace Go.Pl
open Go Go.Ab

/-! ### Puts -/
end Go.Pl

set_option linter.unusedVariables false
set_option linter.unusedSimpArgs false
namespace Go.Pl
open Go Go.Ab

/-! ### Whole numbers -/
/-! ### Eight bytes -/
def be (x : Nat) : Nat → List Int
  | 0 => []
  | j + 1 => ((x / 2 ^ (8 * j) % 256 : Nat) : Int) :: be x j
/-! ### Floats -/
end Go.Pl

set_option linter.unusedVariables false
set_option linter.unusedSimpArgs false
namespace Go.Pl
open Go Go.Ab

/-! ### Values in their one form -/
/-! ### Put -/
/-! ### Take -/
end Go.Pl

set_option linter.unusedVariables false
set_option linter.unusedSimpArgs false
namespace Go.Pl
open Go Go.Ab

/-! ### A row, put -/
/-! ### and taken -/
/-! ### As it was -/
end Go.Pl

set_option linter.unusedVariables false
set_option linter.unusedSimpArgs false
set_option maxRecDepth 100000
namespace Go.Pl
open Go Go.Ab
/-! ### A histogram as bytes -/
theorem Bytes.tail {a b : List Int} (h : Bytes (a ++ b)) : Bytes b := fun x hx => h x (List.mem_append_right _ hx)
/-! ### In its one form -/
/-! ### Alike in all fields -/
def exactV (a b : api_Value) : Bool := (a.fKind == b.fKind) && ((a.fInt == b.fInt) && (sEq a.fText b.fText && ((bitsF a.fFloat == bitsF b.fFloat) && (posZ a.fFloat == posZ b.fFloat))))
theorem ref03_Bits_ok (f : Nat) {n : Nat} (h : 1 ≤ n) : ref03_Bits n f = some (bitsF f : Int) := by
  obtain ⟨n, rfl⟩ : ∃ k, n = k + 1 := ⟨n - 1, by omega⟩
  unfold ref03_Bits bitsF
  rw [at1_succ]
  have e1 : ((FloatKind.format .f64).order f f != some .eq) = isNan f := rfl
  have e2 : ((FloatKind.format .f64).order f 0 == some .eq) = isZero f := rfl
  rw [e1, e2]
  cases isNan f <;> cases isZero f <;> rfl
theorem exact_ok {a b : api_Value} (ha : W_api_Value a) (hb : W_api_Value b) {n : Nat} (h : 3 ≤ n) : ref04_Exact n a b = some (exactV a b) := by
  obtain ⟨n, rfl⟩ : ∃ k, n = k + 1 := ⟨n - 1, by omega⟩
  unfold ref04_Exact exactV
  rw [at1_succ, ref03_Bits_ok _ (by omega), Option.bind_some, ref03_Bits_ok _ (by omega), Option.bind_some, ref04_zero_ok ha.2.2.1 (by omega), Option.bind_some, ref04_zero_ok hb.2.2.1 (by omega), Option.bind_some]
  have e : (((bitsF a.fFloat : Nat) : Int) == ((bitsF b.fFloat : Nat) : Int)) = (bitsF a.fFloat == bitsF b.fFloat) := by
    rw [Bool.eq_iff_iff, beq_iff_eq, beq_iff_eq]; omega
  rw [e]
  cases (a.fKind == b.fKind) <;> cases (a.fInt == b.fInt) <;> cases sEq a.fText b.fText <;> cases (bitsF a.fFloat == bitsF b.fFloat) <;> rfl
def tv (b : HB) : T19 := ⟨b.fLow, b.fHigh, b.fCount, b.fDistinct⟩
theorem told_ok {a : Option (List HB)} (hl : (sll a).length ≤ 1048576) {n : Nat} (h : 2000010 ≤ n) : law19_Told n a = some (mapO tv (sll a)) := by
  obtain ⟨n, rfl⟩ : ∃ k, n = k + 1 := ⟨n - 1, by omega⟩
  unfold law19_Told
  simp only [at1_succ, withK]
  rw [map_loop (f := tv) (l := sll a) (l3 := fun m s i => law19_Told_l3 n a _ m s i) (b := 96) (by omega) hl (by omega) (fun m i s => by cases s <;> rfl)]
  cases h : sll a with
  | nil => rfl
  | cons x l => rfl
theorem same_ok {a b : Option (List T19)} (ha : WT a) (hb : WT b) (hl : (sll a).length = (sll b).length) (hx : ∀ i (h : i < (sll a).length) (h' : i < (sll b).length), exactV (sll a)[i].fLow (sll b)[i].fLow = true ∧ exactV (sll a)[i].fHigh (sll b)[i].fHigh = true ∧ (sll a)[i].fCount = (sll b)[i].fCount ∧ (sll a)[i].fDistinct = (sll b)[i].fDistinct) {n : Nat} (h : 2000010 ≤ n) : ref19_Same n a b = some true := by
  obtain ⟨n, rfl⟩ : ∃ k, n = k + 1 := ⟨n - 1, by omega⟩
  have ha1 := ha.1
  unfold ref19_Same
  simp only [at1_succ, withK]
  rw [show (((sll a).length : Int) != ((sll b).length : Int)) = false by simp [hl], cond_false]
  have : ∀ (d m i : Nat), i + d = (sll a).length → d < m → ref19_Same_l4 n a b (fun _ => some true) m (i : Int) = some true := by
    intro d
    induction d with
    | zero =>
      intro m i hi hm
      obtain ⟨m, rfl⟩ : ∃ j, m = j + 1 := ⟨m - 1, by omega⟩
      rw [ref19_Same_l4, dF (by omega), cond_false]
    | succ d ih =>
      intro m i hi hm
      obtain ⟨m, rfl⟩ : ∃ j, m = j + 1 := ⟨m - 1, by omega⟩
      have i1 : i < (sll a).length := by omega
      have i2 : i < (sll b).length := by omega
      obtain ⟨x1, x2, x3, x4⟩ := hx i i1 i2
      have wa := ha.2 _ (List.getElem_mem i1)
      have wb := hb.2 _ (List.getElem_mem i2)
      rw [ref19_Same_l4, dT (by omega), cond_true, idx_nat, List.getElem?_eq_getElem i1, Option.bind_some, idx_nat, List.getElem?_eq_getElem i2, Option.bind_some, exact_ok wa.1 wb.1 (by omega), x1, Option.bind_some, exact_ok wa.2.1 wb.2.1 (by omega), x2, Option.bind_some, x3, x4, wrapN (by omega), ih m (i + 1) (by omega) (by omega)]
      simp
  exact this (sll a).length n 0 (by omega) (by omega)
end Go.Pl

