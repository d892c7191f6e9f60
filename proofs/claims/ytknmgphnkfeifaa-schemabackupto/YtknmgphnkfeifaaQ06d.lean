import Derived.Test.YtknmgphnkfeifaaQ06c
set_option linter.unusedVariables false
set_option linter.unusedSimpArgs false
namespace Go.Pl
open Go Go.Ab

theorem law06_great_ok {t : api_Table} (ht : W_api_Table t) {n : Nat} (h : 2000001 ≤ n) : ∃ b, law06_great n t = some b := by
  obtain ⟨n, rfl⟩ : ∃ k, n = k + 1 := ⟨n - 1, by omega⟩
  unfold law06_great
  simp only [at1_succ, withK]
  cases (decide (((sll t.fCols).length : Int) > 100)) || (decide ((t.fName.size : Int) > 500)) with
  | true => exact ⟨_, rfl⟩
  | false =>
    rw [cond_false, show law06_great_l4 n t (fun _ => some false) n 0 = _ from loop_sl (F := fun m (_ : Unit) i => law06_great_l4 n t (fun _ => some false) m i) ht.2.1 (B := fun x i (_ : Unit) rec => bif (decide ((x.fName.size : Int) > 500)) then some true else rec ()) (k := fun _ => some false) (fun m i _ => rfl) (by omega) ()]
    have key : ∀ (l : List api_Column) (i : Nat), ∃ b, rangeS (fun x i (_ : Unit) rec => bif (decide ((x.fName.size : Int) > 500)) then some true else rec ()) (fun _ => some false) l i () = some b := by
      intro l
      induction l with
      | nil => intro i; exact ⟨_, rfl⟩
      | cons x l ih =>
        intro i
        simp only [rangeS]
        cases decide ((x.fName.size : Int) > 500) with
        | true => exact ⟨_, rfl⟩
        | false => exact ih (i + 1)
    exact key _ _
theorem law06_works_ok {n : Nat} (h : 2000003 ≤ n) : law06_works n = some true := by
  obtain ⟨n, rfl⟩ : ∃ k, n = k + 1 := ⟨n - 1, by omega⟩
  unfold law06_works
  rw [at1_succ, schema_Right_ok ⟨by unfold wS; decide, by constructor <;> simp [sll, W_api_Column, wS, wI, IntKind.min, IntKind.max, IntKind.signed, IntKind.bits] <;> decide⟩ (by omega), schema_Right_ok ⟨by unfold wS; decide, by constructor <;> simp [sll, W_api_Column, wS, wI, IntKind.min, IntKind.max, IntKind.signed, IntKind.bits] <;> decide⟩ (by omega), schema_Right_ok ⟨by unfold wS; decide, by constructor <;> simp [sll]⟩ (by omega)]
  decide +kernel
theorem schemaAsks_true {n : Nat} (h : 4000000 ≤ n) {t : api_Table} {s : ByteArray} {r : Option (List api_Value)} (ht : W_api_Table t) (hs : wS s) (hr : wSl W_api_Value r) : law06_SchemaAsks n t s r = some true := by
  obtain ⟨n, rfl⟩ : ∃ k, n = k + 1 := ⟨n - 1, by omega⟩
  unfold law06_SchemaAsks
  rw [at1_succ]
  obtain ⟨b, hb⟩ := law06_great_ok ht (n := n) (by omega)
  rw [hb, Option.bind_some]
  cases (b || (decide ((s.size : Int) > 500))) || (decide (((sll r).length : Int) > 300)) with
  | true => rfl
  | false =>
    rw [cond_false, schema_Name_ok hs (by omega), ref06_Name_ok hs (by omega), schema_Right_ok ht (by omega), ref06_Right_ok ht (by omega), schema_Column_ok ht s (by omega), show ref06_Column n (api_Table.mk t.fName t.fCols) s = _ from ref06_Column_ok ht s (by omega), schema_Fits_ok ht hr.1 (by omega), show ref06_Fits n (api_Table.mk t.fName t.fCols) r = _ from ref06_Fits_ok ht hr (by omega), law06_works_ok (by omega)]
    simp
end Go.Pl
