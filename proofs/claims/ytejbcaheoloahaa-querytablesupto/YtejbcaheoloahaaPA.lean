import Derived.Test.YtejbcaheoloahaaAbRow
import Derived.Test.YtejbcaheoloahaaAbArr
import Derived.Test.YtejbcaheoloahaaAbRec
import Derived.Test.YtejbcaheoloahaaAbPan
noncomputable section
namespace Go.Pl
open Go Go.Ab
structure api_Value where
  fKind : Int
  fInt : Int
  fFloat : Nat
  fText : ByteArray
def R_api_Value (x : api_Value) : List PV := [.int .i64 x.fKind, .int .i64 x.fInt, .flt .f64 x.fFloat, .str x.fText]
def W_api_Value (x : api_Value) : Prop := (wI .i64) x.fKind ∧ (wI .i64) x.fInt ∧ (wF .f64) x.fFloat ∧ wS x.fText
inductive Good_api_Expr : List PV → Prop
  | nil (fKind : Int) (fRel : Int) (fCol : Int) (fConst : api_Value) : Good_api_Expr [.int .i64 fKind, .int .i64 fRel, .int .i64 fCol, .int .i64 fConst.fKind, .int .i64 fConst.fInt, .flt .f64 fConst.fFloat, .str fConst.fText, .nils]
  | some (fKind : Int) (fRel : Int) (fCol : Int) (fConst : api_Value) (rows : List (List PV)) (h : ∀ p, p ∈ rows → Good_api_Expr p) : Good_api_Expr [.int .i64 fKind, .int .i64 fRel, .int .i64 fCol, .int .i64 fConst.fKind, .int .i64 fConst.fInt, .flt .f64 fConst.fFloat, .str fConst.fText, .sl rows]
def E_api_Expr : Type := {p : List PV // Good_api_Expr p}
def R_E_api_Expr (y : E_api_Expr) : List PV := y.1
structure api_Expr where
  fKind : Int
  fRel : Int
  fCol : Int
  fConst : api_Value
  fKids : (Option (List E_api_Expr))
def R_api_Expr (x : api_Expr) : List PV := [.int .i64 x.fKind, .int .i64 x.fRel, .int .i64 x.fCol, .int .i64 x.fConst.fKind, .int .i64 x.fConst.fInt, .flt .f64 x.fConst.fFloat, .str x.fConst.fText, encSl R_E_api_Expr x.fKids]
theorem good_api_Expr (x : api_Expr) : Good_api_Expr (R_api_Expr x) := by
  obtain ⟨fKind, fRel, fCol, fConst, fKids⟩ := x
  cases fKids with
  | none => exact .nil fKind fRel fCol fConst
  | some l => exact .some fKind fRel fCol fConst (l.map R_E_api_Expr) (by intro p hp; obtain ⟨y, _, rfl⟩ := List.mem_map.1 hp; exact y.2)
def roll_api_Expr (x : api_Expr) : E_api_Expr := ⟨R_api_Expr x, good_api_Expr x⟩
theorem ex_api_Expr (y : E_api_Expr) : ∃ x : api_Expr, R_E_api_Expr y = R_api_Expr x := by
  obtain ⟨p, h⟩ := y
  cases h with
  | nil fKind fRel fCol fConst => exact ⟨⟨fKind, fRel, fCol, fConst, none⟩, rfl⟩
  | some fKind fRel fCol fConst rows h =>
    obtain ⟨l, hl⟩ := rows_lift rows h
    subst hl
    exact ⟨⟨fKind, fRel, fCol, fConst, some l⟩, rfl⟩
def un_api_Expr (y : E_api_Expr) : api_Expr := Classical.choose (ex_api_Expr y)
theorem R_un_api_Expr (y : E_api_Expr) : R_E_api_Expr y = R_api_Expr (un_api_Expr y) := Classical.choose_spec (ex_api_Expr y)
theorem len_E_api_Expr (y : E_api_Expr) : (R_E_api_Expr y).length = 8 := by rw [R_un_api_Expr y]; rfl
inductive WG_api_Expr : List PV → Prop
  | nil (fKind : Int) (fRel : Int) (fCol : Int) (fConst : api_Value) (w : (wI .i64) fKind ∧ (wI .i64) fRel ∧ (wI .i64) fCol ∧ W_api_Value fConst) : WG_api_Expr [.int .i64 fKind, .int .i64 fRel, .int .i64 fCol, .int .i64 fConst.fKind, .int .i64 fConst.fInt, .flt .f64 fConst.fFloat, .str fConst.fText, .nils]
  | some (fKind : Int) (fRel : Int) (fCol : Int) (fConst : api_Value) (rows : List (List PV)) (w : (wI .i64) fKind ∧ (wI .i64) fRel ∧ (wI .i64) fCol ∧ W_api_Value fConst) (hl : rows.length ≤ 1048576) (h : ∀ p, p ∈ rows → WG_api_Expr p) : WG_api_Expr [.int .i64 fKind, .int .i64 fRel, .int .i64 fCol, .int .i64 fConst.fKind, .int .i64 fConst.fInt, .flt .f64 fConst.fFloat, .str fConst.fText, .sl rows]
def W_E_api_Expr (y : E_api_Expr) : Prop := WG_api_Expr (R_E_api_Expr y) ∧ PV.bulkL (R_E_api_Expr y) ≤ 1048576
def W_api_Expr (x : api_Expr) : Prop := WG_api_Expr (R_api_Expr x) ∧ PV.bulkL (R_api_Expr x) ≤ 1048576
structure api_Agg where
  fKind : Int
  fOf : api_Expr
def R_api_Agg (x : api_Agg) : List PV := [.int .i64 x.fKind, .int .i64 x.fOf.fKind, .int .i64 x.fOf.fRel, .int .i64 x.fOf.fCol, .int .i64 x.fOf.fConst.fKind, .int .i64 x.fOf.fConst.fInt, .flt .f64 x.fOf.fConst.fFloat, .str x.fOf.fConst.fText, encSl R_E_api_Expr x.fOf.fKids]
def W_api_Agg (x : api_Agg) : Prop := (wI .i64) x.fKind ∧ W_api_Expr x.fOf
structure api_Key where
  fOut : Int
  fDesc : Bool
def R_api_Key (x : api_Key) : List PV := [.int .i64 x.fOut, .bool x.fDesc]
def W_api_Key (x : api_Key) : Prop := (wI .i64) x.fOut ∧ wB x.fDesc
structure api_Query where
  fRels : (Option (List ByteArray))
  fWhere : (Option (List E_api_Expr))
  fGrouped : Bool
  fOut : (Option (List E_api_Expr))
  fAggs : (Option (List api_Agg))
  fOrder : (Option (List api_Key))
def R_api_Query (x : api_Query) : List PV := [encSl rS x.fRels, encSl R_E_api_Expr x.fWhere, .bool x.fGrouped, encSl R_E_api_Expr x.fOut, encSl R_api_Agg x.fAggs, encSl R_api_Key x.fOrder]
def W_api_Query (x : api_Query) : Prop := (wSl wS) x.fRels ∧ (wSl W_E_api_Expr) x.fWhere ∧ wB x.fGrouped ∧ (wSl W_E_api_Expr) x.fOut ∧ (wSl W_api_Agg) x.fAggs ∧ (wSl W_api_Key) x.fOrder
structure api_Column where
  fName : ByteArray
  fKind : Int
def R_api_Column (x : api_Column) : List PV := [.str x.fName, .int .i64 x.fKind]
def W_api_Column (x : api_Column) : Prop := wS x.fName ∧ (wI .i64) x.fKind
structure api_Table where
  fName : ByteArray
  fCols : (Option (List api_Column))
def R_api_Table (x : api_Table) : List PV := [.str x.fName, encSl R_api_Column x.fCols]
def W_api_Table (x : api_Table) : Prop := wS x.fName ∧ (wSl W_api_Column) x.fCols
def law23_works (n : Nat) : Option (Bool) := bif n == 3999999 then some true else none
def ref22_Bulk_l5 (n : Nat) (rc_ref22_Bulk : (Nat → (Option (List E_api_Expr)) → Int → Option (Int))) (a0 : (Option (List E_api_Expr))) (a1 : Int) (k5 : (Int → Option (Int))) : Nat → Int → Int → Option (Int)
  | 0, _, _ => none
  | m10 + 1, y8, y9 => bif ((decide (y9 < ((sll a0).length : Int))) && (decide (y8 ≤ a1))) then (idx (sll a0) y9).bind fun x12 => bif (decide (((((un_api_Expr x12).fConst).fText).size : Int) > a1)) then some (IntKind.wrap .i64 (a1 + 1)) else bif (decide ((IntKind.wrap .i64 (y8 + ((((un_api_Expr x12).fConst).fText).size : Int))) ≤ a1)) then (rc_ref22_Bulk n ((un_api_Expr x12).fKids) (IntKind.wrap .i64 (a1 - (IntKind.wrap .i64 (y8 + ((((un_api_Expr x12).fConst).fText).size : Int)))))).bind fun x16 => ref22_Bulk_l5 n rc_ref22_Bulk a0 a1 k5 m10 (IntKind.wrap .i64 ((IntKind.wrap .i64 (y8 + ((((un_api_Expr x12).fConst).fText).size : Int))) + x16)) (IntKind.wrap .i64 (y9 + 1)) else ref22_Bulk_l5 n rc_ref22_Bulk a0 a1 k5 m10 (IntKind.wrap .i64 (y8 + ((((un_api_Expr x12).fConst).fText).size : Int))) (IntKind.wrap .i64 (y9 + 1)) else k5 y8
def ref22_Bulk_f (rc_ref22_Bulk : (Nat → (Option (List E_api_Expr)) → Int → Option (Int))) (n : Nat) (a0 : (Option (List E_api_Expr))) (a1 : Int) : Option (Int) := at1 n fun n =>
  bif (decide (((sll a0).length : Int) > a1)) then some (IntKind.wrap .i64 (a1 + 1)) else withK (fun k5 => ref22_Bulk_l5 n rc_ref22_Bulk a0 a1 k5 n ((sll a0).length : Int) 0) (fun (y3 : Int) => some y3)
def ref22_Bulk_t : Nat → Nat → (Option (List E_api_Expr)) → Int → Option (Int)
  | 0 => fun _ _ _ => none
  | m + 1 => ref22_Bulk_f (ref22_Bulk_t m)
def ref22_Bulk (n : Nat) (a0 : (Option (List E_api_Expr))) (a1 : Int) : Option (Int) := ref22_Bulk_t n n a0 a1
def ref23_Bulk_l15 (n : Nat) (a0 : api_Query) (a1 : Int) (k15 : (Int → Option (Int))) : Nat → Int → Int → Option (Int)
  | 0, _, _ => none
  | m20 + 1, y18, y19 => bif ((decide (y19 < ((sll a0.fAggs).length : Int))) && (decide (y18 ≤ a1))) then (idx (sll a0.fAggs) y19).bind fun x22 => (ref22_Bulk n (some ([(roll_api_Expr x22.fOf)] : List E_api_Expr)) (IntKind.wrap .i64 (a1 - y18))).bind fun x24 => ref23_Bulk_l15 n a0 a1 k15 m20 (IntKind.wrap .i64 (y18 + x24)) (IntKind.wrap .i64 (y19 + 1)) else k15 y18
def ref23_Bulk_l5 (n : Nat) (a0 : api_Query) (a1 : Int) (k5 : (Int → Option (Int))) : Nat → Int → Int → Option (Int)
  | 0, _, _ => none
  | m36 + 1, y34, y35 => bif (decide (y35 < ((sll a0.fRels).length : Int))) then bif (decide (y34 > a1)) then some (IntKind.wrap .i64 (a1 + 1)) else (idx (sll a0.fRels) y35).bind fun x39 => bif (decide ((x39.size : Int) > a1)) then some (IntKind.wrap .i64 (a1 + 1)) else ref23_Bulk_l5 n a0 a1 k5 m36 (IntKind.wrap .i64 (y34 + (x39.size : Int))) (IntKind.wrap .i64 (y35 + 1)) else k5 y34
def ref23_Bulk (n : Nat) (a0 : api_Query) (a1 : Int) : Option (Int) := at1 n fun n =>
  bif (((decide (((sll a0.fRels).length : Int) > a1)) || (decide (((sll a0.fAggs).length : Int) > a1))) || (decide (((sll a0.fOrder).length : Int) > a1))) then some (IntKind.wrap .i64 (a1 + 1)) else withK (fun k5 => ref23_Bulk_l5 n a0 a1 k5 n (IntKind.wrap .i64 ((IntKind.wrap .i64 (((sll a0.fRels).length : Int) + ((sll a0.fAggs).length : Int))) + ((sll a0.fOrder).length : Int))) 0) (fun (y3 : Int) => withK (fun k8 => bif (decide (y3 ≤ a1)) then (ref22_Bulk n a0.fWhere (IntKind.wrap .i64 (a1 - y3))).bind fun x30 => k8 (IntKind.wrap .i64 (y3 + x30)) else k8 y3) (fun (y7 : Int) => withK (fun k11 => bif (decide (y7 ≤ a1)) then (ref22_Bulk n a0.fOut (IntKind.wrap .i64 (a1 - y7))).bind fun x27 => k11 (IntKind.wrap .i64 (y7 + x27)) else k11 y7) (fun (y10 : Int) => withK (fun k15 => ref23_Bulk_l15 n a0 a1 k15 n y10 0) (fun (y13 : Int) => some y13))))
def law23_Great_l4 (n : Nat) (a1 : (Option (List api_Table))) (k6 : (Unit → Option (Bool))) : Nat → Int → Option (Bool)
  | 0, _ => none
  | m9 + 1, y8 => bif (decide (y8 < ((sll a1).length : Int))) then (idx (sll a1) y8).bind fun x11 => bif ((decide (((sll x11.fCols).length : Int) > 40)) || (decide ((x11.fName.size : Int) > 100))) then some true else law23_Great_l4 n a1 k6 m9 (IntKind.wrap .i64 (y8 + 1)) else k6 ()
def law23_Great (n : Nat) (a0 : api_Query) (a1 : (Option (List api_Table))) : Option (Bool) := at1 n fun n =>
  (ref23_Bulk n a0 500).bind fun x1 => bif ((decide (x1 > 500)) || (decide (((sll a1).length : Int) > 40))) then some true else withK (fun k6 => law23_Great_l4 n a1 k6 n 0) (fun (_ : Unit) => some false)
def query_Tables_1_1 (n : Nat) (a0 : api_Table) (a1 : ByteArray) : Option (Bool) := at1 n fun n =>
  some (sEq a0.fName a1)
def slices_IndexFunc_Table_query_Tables_1_1_l2 (n : Nat) (a0 : (Option (List api_Table))) (a1 : ByteArray) (k3 : (Unit → Option (Int))) : Nat → Int → Option (Int)
  | 0, _ => none
  | m6 + 1, y5 => bif (decide (y5 < ((sll a0).length : Int))) then (idx (sll a0) y5).bind fun x8 => (query_Tables_1_1 n x8 a1).bind fun x10 => bif x10 then some y5 else slices_IndexFunc_Table_query_Tables_1_1_l2 n a0 a1 k3 m6 (IntKind.wrap .i64 (y5 + 1)) else k3 ()
def slices_IndexFunc_Table_query_Tables_1_1 (n : Nat) (a0 : (Option (List api_Table))) (a1 : ByteArray) : Option (Int) := at1 n fun n =>
  withK (fun k3 => slices_IndexFunc_Table_query_Tables_1_1_l2 n a0 a1 k3 n 0) (fun (_ : Unit) => some (-1))
def slices_Clone_Column (n : Nat) (a0 : (Option (List api_Column))) : Option ((Option (List api_Column))) := at1 n fun n =>
  bif (a0.isNone) then some none else bif (sll a0).isEmpty then (ckA 24 ([] : List api_Column).length).bind fun _ => some (some ([] : List api_Column)) else (ckA 24 (([] : List api_Column) ++ (sll a0)).length).bind fun _ => some (some (([] : List api_Column) ++ (sll a0)))
def query_Tables_1 (n : Nat) (a0 : (Option (List api_Table))) (a1 : ByteArray) : Option ((Option (List api_Table))) := at1 n fun n =>
  (slices_IndexFunc_Table_query_Tables_1_1 n a0 a1).bind fun x1 => bif (decide (x1 < 0)) then some none else (idx (sll a0) x1).bind fun x4 => (slices_Clone_Column n x4.fCols).bind fun x6 => (ckA 40 ([(api_Table.mk a1 x6)] : List api_Table).length).bind fun _ => some (some ([(api_Table.mk a1 x6)] : List api_Table))
def query_Tables_1_2 (n : Nat) (a0 : (List api_Table)) (a1 : (Option (List api_Table))) (a2 : ByteArray) : Option ((List api_Table) × Int) := at1 n fun n =>
  (slices_IndexFunc_Table_query_Tables_1_1 n a1 a2).bind fun x1 => bif (decide (x1 < 0)) then some (a0, 40) else (idx (sll a1) x1).bind fun x4 => (slices_Clone_Column n x4.fCols).bind fun x6 => (ckA 40 (a0 ++ ([(api_Table.mk a2 x6)] : List api_Table)).length).bind fun _ => some ((a0 ++ ([(api_Table.mk a2 x6)] : List api_Table)), 0)
def query_each_string_query_Tables_1_l2 (n : Nat) (a0 : (Option (List api_Table))) (a1 : (Option (List ByteArray))) (k8 : ((Option (List api_Table)) → Option ((Option (List api_Table)) × Int))) : Nat → (Option (List api_Table)) → Int → Option ((Option (List api_Table)) × Int)
  | 0, _, _ => none
  | m22 + 1, none, y17 => bif (decide (y17 < ((sll a1).length : Int))) then (idx (sll a1) y17).bind fun x24 => (query_Tables_1 n a0 x24).bind fun | none => some (none, 40) | some x27 => query_each_string_query_Tables_1_l2 n a0 a1 k8 m22 (some x27) (IntKind.wrap .i64 (y17 + 1)) else k8 none
  | m22 + 1, (some y16), y17 => bif (decide (y17 < ((sll a1).length : Int))) then (idx (sll a1) y17).bind fun x30 => (query_Tables_1_2 n y16 a0 x30).bind fun (x33, x34) => bif (x34 != 0) then some ((some x33), x34) else query_each_string_query_Tables_1_l2 n a0 a1 k8 m22 (some x33) (IntKind.wrap .i64 (y17 + 1)) else k8 (some y16)
def query_each_string_query_Tables_1 (n : Nat) (a0 : (Option (List api_Table))) (a1 : (Option (List ByteArray))) : Option ((Option (List api_Table)) × Int) := at1 n fun n =>
  withK (fun (k8 : (Option (List api_Table)) → Option ((Option (List api_Table)) × Int)) => query_each_string_query_Tables_1_l2 n a0 a1 k8 n none 0) (fun | none => some (none, 0) | (some y3) => some ((some y3), 0))
def query_Tables (n : Nat) (a0 : api_Query) (a1 : (Option (List api_Table))) : Option ((Option (List api_Table)) × Int) := at1 n fun n =>
  bif (decide (((sll a0.fRels).length : Int) > 12)) then some (none, 51) else bif (((sll a0.fRels).length : Int) == 0) then some (none, 2) else withK (fun (k9 : (Option (List api_Table)) → Int → Option ((Option (List api_Table)) × Int)) => (query_each_string_query_Tables_1 n a1 a0.fRels).bind fun | (none, x14) => k9 none x14 | (some x13, x14) => k9 (some x13) x14) (fun | none, y4 => bif (y4 != 0) then some (none, y4) else some (none, 0) | (some y3), y4 => bif (y4 != 0) then some (none, y4) else some ((some y3), 0))
def query_Width (n : Nat) (a0 : api_Query) : Option (Int) := at1 n fun n =>
  some (IntKind.wrap .i64 (((sll a0.fOut).length : Int) + ((sll a0.fAggs).length : Int)))
def query_shaped_1 (n : Nat) (a0 : api_Agg) : Option (Bool) := at1 n fun n =>
  some ((decide (a0.fKind < 1)) || (decide (a0.fKind > 4)))
def slices_IndexFunc_Agg_query_shaped_1_l2 (n : Nat) (a0 : (Option (List api_Agg))) (k3 : (Unit → Option (Int))) : Nat → Int → Option (Int)
  | 0, _ => none
  | m6 + 1, y5 => bif (decide (y5 < ((sll a0).length : Int))) then (idx (sll a0) y5).bind fun x8 => (query_shaped_1 n x8).bind fun x10 => bif x10 then some y5 else slices_IndexFunc_Agg_query_shaped_1_l2 n a0 k3 m6 (IntKind.wrap .i64 (y5 + 1)) else k3 ()
def slices_IndexFunc_Agg_query_shaped_1 (n : Nat) (a0 : (Option (List api_Agg))) : Option (Int) := at1 n fun n =>
  withK (fun k3 => slices_IndexFunc_Agg_query_shaped_1_l2 n a0 k3 n 0) (fun (_ : Unit) => some (-1))
def slices_ContainsFunc_Agg_query_shaped_1 (n : Nat) (a0 : (Option (List api_Agg))) : Option (Bool) := at1 n fun n =>
  (slices_IndexFunc_Agg_query_shaped_1 n a0).bind fun x1 => some (decide (x1 ≥ 0))
def query_shaped_2 (n : Nat) (a0 : api_Key) (a1 : (Option (List ByteArray))) (a2 : (Option (List E_api_Expr))) (a3 : Bool) (a4 : (Option (List E_api_Expr))) (a5 : (Option (List api_Agg))) (a6 : (Option (List api_Key))) : Option (Bool) := at1 n fun n =>
  bif (decide (a0.fOut < 0)) then some true else (query_Width n (api_Query.mk a1 a2 a3 a4 a5 a6)).bind fun x2 => some (decide (a0.fOut ≥ x2))
def slices_IndexFunc_Key_query_shaped_2_l2 (n : Nat) (a0 : (Option (List api_Key))) (a1 : (Option (List ByteArray))) (a2 : (Option (List E_api_Expr))) (a3 : Bool) (a4 : (Option (List E_api_Expr))) (a5 : (Option (List api_Agg))) (a6 : (Option (List api_Key))) (k3 : (Unit → Option (Int))) : Nat → Int → Option (Int)
  | 0, _ => none
  | m6 + 1, y5 => bif (decide (y5 < ((sll a0).length : Int))) then (idx (sll a0) y5).bind fun x8 => (query_shaped_2 n x8 a1 a2 a3 a4 a5 a6).bind fun x10 => bif x10 then some y5 else slices_IndexFunc_Key_query_shaped_2_l2 n a0 a1 a2 a3 a4 a5 a6 k3 m6 (IntKind.wrap .i64 (y5 + 1)) else k3 ()
def slices_IndexFunc_Key_query_shaped_2 (n : Nat) (a0 : (Option (List api_Key))) (a1 : (Option (List ByteArray))) (a2 : (Option (List E_api_Expr))) (a3 : Bool) (a4 : (Option (List E_api_Expr))) (a5 : (Option (List api_Agg))) (a6 : (Option (List api_Key))) : Option (Int) := at1 n fun n =>
  withK (fun k3 => slices_IndexFunc_Key_query_shaped_2_l2 n a0 a1 a2 a3 a4 a5 a6 k3 n 0) (fun (_ : Unit) => some (-1))
def slices_ContainsFunc_Key_query_shaped_2 (n : Nat) (a0 : (Option (List api_Key))) (a1 : (Option (List ByteArray))) (a2 : (Option (List E_api_Expr))) (a3 : Bool) (a4 : (Option (List E_api_Expr))) (a5 : (Option (List api_Agg))) (a6 : (Option (List api_Key))) : Option (Bool) := at1 n fun n =>
  (slices_IndexFunc_Key_query_shaped_2 n a0 a1 a2 a3 a4 a5 a6).bind fun x1 => some (decide (x1 ≥ 0))
def query_shaped (n : Nat) (a0 : api_Query) : Option (Bool) := at1 n fun n =>
  bif ((((decide (((sll a0.fWhere).length : Int) > 40)) || (decide (((sll a0.fOut).length : Int) > 20))) || (decide (((sll a0.fAggs).length : Int) > 10))) || (decide (((sll a0.fOrder).length : Int) > 10))) then some false else bif ((!a0.fGrouped) && ((((sll a0.fOut).length : Int) == 0) || (decide (((sll a0.fAggs).length : Int) > 0)))) then some false else (query_Width n a0).bind fun x3 => bif (x3 == 0) then some false else (slices_ContainsFunc_Agg_query_shaped_1 n a0.fAggs).bind fun x6 => bif x6 then some false else (slices_ContainsFunc_Key_query_shaped_2 n a0.fOrder a0.fRels a0.fWhere a0.fGrouped a0.fOut a0.fAggs a0.fOrder).bind fun x9 => some (!x9)
def expr_kids (n : Nat) (a0 : Int) : Option (Int) := at1 n fun n =>
  withK (fun k2 => bif (a0 == 1) then k2 (a0 == 1) else k2 (a0 == 2)) (fun (y1 : Bool) => bif y1 then some 0 else withK (fun k5 => bif (a0 == 6) then k5 (a0 == 6) else bif (a0 == 12) then k5 (a0 == 12) else k5 (a0 == 13)) (fun (y4 : Bool) => bif y4 then some 1 else bif (a0 == 3) then bif (a0 == 3) then some 2 else some (-1) else bif (a0 == 4) then bif (a0 == 4) then some 2 else some (-1) else bif (a0 == 5) then bif (a0 == 5) then some 2 else some (-1) else bif (a0 == 7) then bif (a0 == 7) then some 2 else some (-1) else bif (a0 == 8) then bif (a0 == 8) then some 2 else some (-1) else bif (a0 == 9) then bif (a0 == 9) then some 2 else some (-1) else bif (a0 == 10) then bif (a0 == 10) then some 2 else some (-1) else bif (a0 == 11) then some 2 else some (-1)))
def expr_fields_1 (n : Nat) (a0 : Int) : Option (Bool) := at1 n fun n =>
  some ((decide (a0 ≥ 0)) && (decide (a0 ≤ 31)))
def math_Signbit (n : Nat) (a0 : Nat) : Option (Bool) := at1 n fun n =>
  some (decide ((IntKind.wrap .i64 (a0 : Int)) < 0))
def value_Right (n : Nat) (a0 : api_Value) : Option (Bool) := at1 n fun n =>
  withK (fun k2 => bif ((FloatKind.format .f64).order a0.fFloat 0 == some .eq) then (math_Signbit n a0.fFloat).bind fun x14 => k2 (!x14) else k2 false) (fun (y1 : Bool) => withK (fun k6 => bif (a0.fKind == 0) then some (((a0.fInt == 0) && y1) && (sEq a0.fText ByteArray.empty)) else bif (a0.fKind == 1) then bif ((a0.fInt != 0) && (a0.fInt != 1)) then some false else k6 () else bif (a0.fKind == 2) then k6 () else bif (a0.fKind == 3) then some ((a0.fInt == 0) && (sEq a0.fText ByteArray.empty)) else bif (a0.fKind == 4) then some (((a0.fInt == 0) && y1) && (decide ((a0.fText.size : Int) ≤ 64))) else some false) (fun (_ : Unit) => some (y1 && (sEq a0.fText ByteArray.empty))))
def expr_fields (n : Nat) (a0 : api_Expr) : Option (Bool) := at1 n fun n =>
  bif ((a0.fKind != 1) && ((a0.fRel != 0) || (a0.fCol != 0))) then some false else (expr_fields_1 n a0.fRel).bind fun x2 => bif (!x2) then some false else (expr_fields_1 n a0.fCol).bind fun x5 => bif (!x5) then some false else (value_Right n a0.fConst).bind fun x8 => some (x8 && ((a0.fKind == 2) || (a0.fConst.fKind == 0)))
def expr_count_l5 (n : Nat) (rc_expr_count : (Nat → api_Expr → Int → Int → Option (Int))) (a0 : api_Expr) (a1 : Int) (k12 : (Int → Option (Int))) : Nat → Int → Int → Option (Int)
  | 0, _, _ => none
  | m17 + 1, y15, y16 => bif (decide (y16 < ((sll a0.fKids).length : Int))) then (idx (sll a0.fKids) y16).bind fun x19 => (rc_expr_count n (api_Expr.mk ((un_api_Expr x19).fKind) ((un_api_Expr x19).fRel) ((un_api_Expr x19).fCol) (api_Value.mk (((un_api_Expr x19).fConst).fKind) (((un_api_Expr x19).fConst).fInt) (((un_api_Expr x19).fConst).fFloat) (((un_api_Expr x19).fConst).fText)) ((un_api_Expr x19).fKids)) (IntKind.wrap .i64 (a1 + 1)) y15).bind fun x21 => bif (decide (x21 < 0)) then some (-1) else expr_count_l5 n rc_expr_count a0 a1 k12 m17 x21 (IntKind.wrap .i64 (y16 + 1)) else k12 y15
def expr_count_f (rc_expr_count : (Nat → api_Expr → Int → Int → Option (Int))) (n : Nat) (a0 : api_Expr) (a1 : Int) (a2 : Int) : Option (Int) := at1 n fun n =>
  bif (decide (a1 > 24)) then some (-1) else bif (decide (a2 < 1)) then some (-1) else (expr_kids n a0.fKind).bind fun x3 => bif (x3 != ((sll a0.fKids).length : Int)) then some (-1) else (expr_fields n (api_Expr.mk a0.fKind a0.fRel a0.fCol a0.fConst a0.fKids)).bind fun x6 => bif (!x6) then some (-1) else withK (fun k12 => expr_count_l5 n rc_expr_count a0 a1 k12 n (IntKind.wrap .i64 (a2 - 1)) 0) (fun (y9 : Int) => some y9)
def expr_count_t : Nat → Nat → api_Expr → Int → Int → Option (Int)
  | 0 => fun _ _ _ _ => none
  | m + 1 => expr_count_f (expr_count_t m)
def expr_count (n : Nat) (a0 : api_Expr) (a1 : Int) (a2 : Int) : Option (Int) := expr_count_t n n a0 a1 a2
def expr_Formed (n : Nat) (a0 : api_Expr) : Option (Bool) := at1 n fun n =>
  (expr_count n a0 1 400).bind fun x1 => some (decide (x1 ≥ 0))
def expr_column (n : Nat) (a0 : api_Expr) (a1 : (Option (List api_Table))) : Option (Int ⊕ (Int)) := at1 n fun n =>
  bif (decide (a0.fRel ≥ ((sll a1).length : Int))) then some (.inl 40) else (idx (sll a1) a0.fRel).bind fun x2 => bif (decide (a0.fCol ≥ ((sll x2.fCols).length : Int))) then some (.inl 40) else (idx (sll x2.fCols) a0.fCol).bind fun x5 => some (.inr x5.fKind)
def expr_refs_l4 (n : Nat) (rc_expr_refs : (Nat → api_Expr → (Option (List api_Table)) → Option (Int ⊕ (Unit)))) (a0 : api_Expr) (a1 : (Option (List api_Table))) : Nat → Int → Option (Int ⊕ (Unit))
  | 0, _ => none
  | m5 + 1, y4 => bif (decide (y4 < ((sll a0.fKids).length : Int))) then (idx (sll a0.fKids) y4).bind fun x7 => (rc_expr_refs n (api_Expr.mk ((un_api_Expr x7).fKind) ((un_api_Expr x7).fRel) ((un_api_Expr x7).fCol) (api_Value.mk (((un_api_Expr x7).fConst).fKind) (((un_api_Expr x7).fConst).fInt) (((un_api_Expr x7).fConst).fFloat) (((un_api_Expr x7).fConst).fText)) ((un_api_Expr x7).fKids)) a1).bind fun | .inl x11 => some (.inl x11) | .inr x9 => expr_refs_l4 n rc_expr_refs a0 a1 m5 (IntKind.wrap .i64 (y4 + 1)) else some (.inr ())
def expr_refs_f (rc_expr_refs : (Nat → api_Expr → (Option (List api_Table)) → Option (Int ⊕ (Unit)))) (n : Nat) (a0 : api_Expr) (a1 : (Option (List api_Table))) : Option (Int ⊕ (Unit)) := at1 n fun n =>
  withK (fun k2 => bif (a0.fKind == 1) then (expr_column n a0 a1).bind fun | .inl x15 => some (.inl x15) | .inr x13 => k2 () else k2 ()) (fun (_ : Unit) => expr_refs_l4 n rc_expr_refs a0 a1 n 0)
def expr_refs_t : Nat → Nat → api_Expr → (Option (List api_Table)) → Option (Int ⊕ (Unit))
  | 0 => fun _ _ _ => none
  | m + 1 => expr_refs_f (expr_refs_t m)
def expr_refs (n : Nat) (a0 : api_Expr) (a1 : (Option (List api_Table))) : Option (Int ⊕ (Unit)) := expr_refs_t n n a0 a1
def expr_numeric (n : Nat) (a0 : Int) : Option (Bool) := at1 n fun n =>
  some (((a0 == 0) || (a0 == 2)) || (a0 == 3))
def expr_one_expr_numeric (n : Nat) (a0 : Int) (a1 : Int) : Option (Int ⊕ (Int)) := at1 n fun n =>
  (expr_numeric n a0).bind fun x1 => bif (!x1) then some (.inl 50) else (expr_numeric n a1).bind fun x4 => bif ((!x4) || (((a0 != 0) && (a1 != 0)) && (a0 != a1))) then some (.inl 50) else some (.inr (if a1 > a0 then a1 else a0))
def expr_typed_1 (n : Nat) (a0 : Int) : Option (Bool) := at1 n fun n =>
  some true
def expr_one_expr_typed_1 (n : Nat) (a0 : Int) (a1 : Int) : Option (Int ⊕ (Int)) := at1 n fun n =>
  (expr_typed_1 n a0).bind fun x1 => bif (!x1) then some (.inl 50) else (expr_typed_1 n a1).bind fun x4 => bif ((!x4) || (((a0 != 0) && (a1 != 0)) && (a0 != a1))) then some (.inl 50) else some (.inr (if a1 > a0 then a1 else a0))
def expr_truth (n : Nat) (a0 : Int) : Option (Bool) := at1 n fun n =>
  some ((a0 == 0) || (a0 == 1))
def expr_one_expr_truth (n : Nat) (a0 : Int) (a1 : Int) : Option (Int ⊕ (Int)) := at1 n fun n =>
  (expr_truth n a0).bind fun x1 => bif (!x1) then some (.inl 50) else (expr_truth n a1).bind fun x4 => bif ((!x4) || (((a0 != 0) && (a1 != 0)) && (a0 != a1))) then some (.inl 50) else some (.inr (if a1 > a0 then a1 else a0))
def expr_typed_l3 (n : Nat) (rc_expr_typed : (Nat → api_Expr → (Option (List api_Table)) → Option (Int ⊕ (Int)))) (a0 : api_Expr) (a1 : (Option (List api_Table))) (k4 : ((Option (List Int)) → Option (Int ⊕ (Int)))) : Nat → Int → (Option (List Int)) → Option (Int ⊕ (Int))
  | 0, _, _ => none
  | m83 + 1, y81, none => bif (decide (y81 < ((sll a0.fKids).length : Int))) then (idx (sll a0.fKids) y81).bind fun x85 => (rc_expr_typed n (api_Expr.mk ((un_api_Expr x85).fKind) ((un_api_Expr x85).fRel) ((un_api_Expr x85).fCol) (api_Value.mk (((un_api_Expr x85).fConst).fKind) (((un_api_Expr x85).fConst).fInt) (((un_api_Expr x85).fConst).fFloat) (((un_api_Expr x85).fConst).fText)) ((un_api_Expr x85).fKids)) a1).bind fun | .inl x89 => some (.inl x89) | .inr x87 => (ckA 8 ([x87] : List Int).length).bind fun _ => expr_typed_l3 n rc_expr_typed a0 a1 k4 m83 (IntKind.wrap .i64 (y81 + 1)) (some ([x87] : List Int)) else k4 none
  | m83 + 1, y81, (some y82) => bif (decide (y81 < ((sll a0.fKids).length : Int))) then (idx (sll a0.fKids) y81).bind fun x92 => (rc_expr_typed n (api_Expr.mk ((un_api_Expr x92).fKind) ((un_api_Expr x92).fRel) ((un_api_Expr x92).fCol) (api_Value.mk (((un_api_Expr x92).fConst).fKind) (((un_api_Expr x92).fConst).fInt) (((un_api_Expr x92).fConst).fFloat) (((un_api_Expr x92).fConst).fText)) ((un_api_Expr x92).fKids)) a1).bind fun | .inl x96 => some (.inl x96) | .inr x94 => (ckA 8 (y82 ++ ([x94] : List Int)).length).bind fun _ => expr_typed_l3 n rc_expr_typed a0 a1 k4 m83 (IntKind.wrap .i64 (y81 + 1)) (some (y82 ++ ([x94] : List Int))) else k4 (some y82)
def expr_typed_f (rc_expr_typed : (Nat → api_Expr → (Option (List api_Table)) → Option (Int ⊕ (Int)))) (n : Nat) (a0 : api_Expr) (a1 : (Option (List api_Table))) : Option (Int ⊕ (Int)) := at1 n fun n =>
  withK (fun (k4 : (Option (List Int)) → Option (Int ⊕ (Int))) => expr_typed_l3 n rc_expr_typed a0 a1 k4 n 0 none) (fun | none => bif (a0.fKind == 1) then (expr_column n a0 a1).bind fun | .inl x8 => some (.inl x8) | .inr x6 => some (.inr x6) else bif (a0.fKind == 2) then some (.inr a0.fConst.fKind) else withK (fun k11 => bif (a0.fKind == 3) then k11 (a0.fKind == 3) else bif (a0.fKind == 4) then k11 (a0.fKind == 4) else k11 (a0.fKind == 5)) (fun (y10 : Bool) => bif y10 then none else bif (a0.fKind == 6) then none else withK (fun k15 => bif (a0.fKind == 7) then k15 (a0.fKind == 7) else bif (a0.fKind == 8) then k15 (a0.fKind == 8) else k15 (a0.fKind == 9)) (fun (y14 : Bool) => bif y14 then none else withK (fun k18 => bif (a0.fKind == 10) then k18 (a0.fKind == 10) else k18 (a0.fKind == 11)) (fun (y17 : Bool) => bif y17 then none else bif (a0.fKind == 12) then none else some (.inr 1)))) | (some y3) => bif (a0.fKind == 1) then (expr_column n a0 a1).bind fun | .inl x29 => some (.inl x29) | .inr x27 => some (.inr x27) else bif (a0.fKind == 2) then some (.inr a0.fConst.fKind) else withK (fun k32 => bif (a0.fKind == 3) then k32 (a0.fKind == 3) else bif (a0.fKind == 4) then k32 (a0.fKind == 4) else k32 (a0.fKind == 5)) (fun (y31 : Bool) => bif y31 then (idx y3 0).bind fun x34 => (idx y3 1).bind fun x36 => (expr_one_expr_numeric n x34 x36).bind fun | .inl x40 => some (.inl x40) | .inr x38 => some (.inr x38) else bif (a0.fKind == 6) then (idx y3 0).bind fun x42 => (expr_one_expr_numeric n x42 x42).bind fun | .inl x46 => some (.inl x46) | .inr x44 => some (.inr x44) else withK (fun k48 => bif (a0.fKind == 7) then k48 (a0.fKind == 7) else bif (a0.fKind == 8) then k48 (a0.fKind == 8) else k48 (a0.fKind == 9)) (fun (y47 : Bool) => bif y47 then (idx y3 0).bind fun x50 => (idx y3 1).bind fun x52 => (expr_one_expr_typed_1 n x50 x52).bind fun | .inl x56 => some (.inl x56) | .inr x54 => some (.inr 1) else withK (fun k58 => bif (a0.fKind == 10) then k58 (a0.fKind == 10) else k58 (a0.fKind == 11)) (fun (y57 : Bool) => bif y57 then (idx y3 0).bind fun x60 => (idx y3 1).bind fun x62 => (expr_one_expr_truth n x60 x62).bind fun | .inl x66 => some (.inl x66) | .inr x64 => some (.inr 1) else bif (a0.fKind == 12) then (idx y3 0).bind fun x68 => (expr_one_expr_truth n x68 x68).bind fun | .inl x72 => some (.inl x72) | .inr x70 => some (.inr 1) else some (.inr 1)))))
def expr_typed_t : Nat → Nat → api_Expr → (Option (List api_Table)) → Option (Int ⊕ (Int))
  | 0 => fun _ _ _ => none
  | m + 1 => expr_typed_f (expr_typed_t m)
def expr_typed (n : Nat) (a0 : api_Expr) (a1 : (Option (List api_Table))) : Option (Int ⊕ (Int)) := expr_typed_t n n a0 a1
def expr_Type_1 (n : Nat) (a0 : Int) (a1 : Int) (a2 : Int) (a3 : Int) (a4 : Int) (a5 : Nat) (a6 : ByteArray) (a7 : (Option (List E_api_Expr))) (a8 : (Option (List api_Table))) (a9 : Int) : Option ((Int) ⊕ (Int)) := at1 n fun n =>
  (expr_refs n (api_Expr.mk a0 a1 a2 (api_Value.mk a3 a4 a5 a6) a7) a8).bind fun | .inl x3 => some (.inl x3) | .inr x1 => (expr_typed n (api_Expr.mk a0 a1 a2 (api_Value.mk a3 a4 a5 a6) a7) a8).bind fun | .inl x6 => some (.inl x6) | .inr x4 => some (.inr (x4))
def expr_guarded_expr_Type_1 (n : Nat) (a0 : Int) (a1 : Int) (a2 : Int) (a3 : Int) (a4 : Int) (a5 : Nat) (a6 : ByteArray) (a7 : (Option (List E_api_Expr))) (a8 : (Option (List api_Table))) (a9 : Int) : Option (Int × Int) := at1 n fun n =>
  (expr_Type_1 n a0 a1 a2 a3 a4 a5 a6 a7 a8 a9).bind fun | .inl x3 => some (a9, x3) | .inr (x4) => some (x4, 0)
def expr_Type (n : Nat) (a0 : api_Expr) (a1 : (Option (List api_Table))) : Option (Int × Int) := at1 n fun n =>
  (expr_Formed n a0).bind fun x1 => bif (!x1) then some (0, 2) else (expr_guarded_expr_Type_1 n a0.fKind a0.fRel a0.fCol a0.fConst.fKind a0.fConst.fInt a0.fConst.fFloat a0.fConst.fText a0.fKids a1 0).bind fun (x5, x6) => bif (x6 != 0) then some (0, x6) else some (x5, 0)
def query_Right_4_1 (n : Nat) (a0 : Int) : Option (Bool) := at1 n fun n =>
  some ((a0 == 0) || (a0 == 1))
def query_Right_4_2 (n : Nat) (a0 : Int) : Option (Unit) := at1 n fun n =>
  some ()
def query_Right_1_query_Right_4_1_query_Right_4_2 (n : Nat) (a0 : (Option (List api_Table))) (a1 : api_Expr) : Option (Int) := at1 n fun n =>
  (expr_Type n a1 a0).bind fun x1 => withK (fun k5 => bif (x1.2 == 0) then (query_Right_4_1 n x1.1).bind fun x10 => bif (!x10) then k5 50 else k5 x1.2 else k5 x1.2) (fun (y4 : Int) => bif (y4 == 0) then (query_Right_4_2 n x1.1).bind fun x7 => some y4 else some y4)
def query_Right_4 (n : Nat) (a0 : (Option (List api_Table))) (a1 : api_Expr) : Option (Int) := at1 n fun n =>
  (query_Right_1_query_Right_4_1_query_Right_4_2 n a0 a1).bind fun x2 => some x2
def query_each_Expr_query_Right_4_l2 (n : Nat) (a0 : (Option (List api_Table))) (a1 : (Option (List E_api_Expr))) (k3 : (Unit → Option (Int))) : Nat → Int → Option (Int)
  | 0, _ => none
  | m6 + 1, y5 => bif (decide (y5 < ((sll a1).length : Int))) then (idx (sll a1) y5).bind fun x8 => (query_Right_4 n a0 (api_Expr.mk ((un_api_Expr x8).fKind) ((un_api_Expr x8).fRel) ((un_api_Expr x8).fCol) (api_Value.mk (((un_api_Expr x8).fConst).fKind) (((un_api_Expr x8).fConst).fInt) (((un_api_Expr x8).fConst).fFloat) (((un_api_Expr x8).fConst).fText)) ((un_api_Expr x8).fKids))).bind fun x11 => bif (x11 != 0) then some x11 else query_each_Expr_query_Right_4_l2 n a0 a1 k3 m6 (IntKind.wrap .i64 (y5 + 1)) else k3 ()
def query_each_Expr_query_Right_4 (n : Nat) (a0 : (Option (List api_Table))) (a1 : (Option (List E_api_Expr))) : Option (Int) := at1 n fun n =>
  withK (fun k3 => query_each_Expr_query_Right_4_l2 n a0 a1 k3 n 0) (fun (_ : Unit) => some 0)
def query_Right_2 (n : Nat) (a0 : Int) : Option (Bool) := at1 n fun n =>
  some true
def query_Right_3 (n : Nat) (a0 : Int) : Option (Unit) := at1 n fun n =>
  (ckA 8 ([a0] : List Int).length).bind fun _ => some ()
def query_Right_1_query_Right_2_query_Right_3 (n : Nat) (a0 : (Option (List api_Table))) (a1 : api_Expr) : Option ((Option (List Int)) × Int) := at1 n fun n =>
  (expr_Type n a1 a0).bind fun x1 => withK (fun k5 => bif (x1.2 == 0) then (query_Right_2 n x1.1).bind fun x9 => bif (!x9) then k5 50 else k5 x1.2 else k5 x1.2) (fun (y4 : Int) => bif (y4 == 0) then (query_Right_3 n x1.1).bind fun _ => some ((some ([x1.1] : List Int)), y4) else some (none, y4))
def query_Right_5 (n : Nat) (a0 : (Option (List api_Table))) (a1 : api_Expr) : Option ((Option (List Int)) × Int) := at1 n fun n =>
  (query_Right_1_query_Right_2_query_Right_3 n a0 a1).bind fun | (none, x3) => some (none, x3) | (some x2, x3) => some ((some x2), x3)
def query_Right_3_2 (n : Nat) (a0 : (List Int)) (a1 : Int) : Option (Unit) := at1 n fun n =>
  (ckA 8 (a0 ++ ([a1] : List Int)).length).bind fun _ => some ()
def query_Right_1_query_Right_2_query_Right_3_2 (n : Nat) (a0 : (List Int)) (a1 : (Option (List api_Table))) (a2 : api_Expr) : Option ((List Int) × Int) := at1 n fun n =>
  (expr_Type n a2 a1).bind fun x1 => withK (fun k5 => bif (x1.2 == 0) then (query_Right_2 n x1.1).bind fun x9 => bif (!x9) then k5 50 else k5 x1.2 else k5 x1.2) (fun (y4 : Int) => bif (y4 == 0) then (query_Right_3_2 n a0 x1.1).bind fun _ => some ((a0 ++ ([x1.1] : List Int)), y4) else some (a0, y4))
def query_Right_5_2 (n : Nat) (a0 : (List Int)) (a1 : (Option (List api_Table))) (a2 : api_Expr) : Option ((List Int) × Int) := at1 n fun n =>
  (query_Right_1_query_Right_2_query_Right_3_2 n a0 a1 a2).bind fun (x2, x3) => some (x2, x3)
def query_each_Expr_query_Right_5_l2 (n : Nat) (a0 : (Option (List api_Table))) (a1 : (Option (List E_api_Expr))) (k8 : ((Option (List Int)) → Option ((Option (List Int)) × Int))) : Nat → (Option (List Int)) → Int → Option ((Option (List Int)) × Int)
  | 0, _, _ => none
  | m23 + 1, none, y18 => bif (decide (y18 < ((sll a1).length : Int))) then (idx (sll a1) y18).bind fun x25 => (query_Right_5 n a0 (api_Expr.mk ((un_api_Expr x25).fKind) ((un_api_Expr x25).fRel) ((un_api_Expr x25).fCol) (api_Value.mk (((un_api_Expr x25).fConst).fKind) (((un_api_Expr x25).fConst).fInt) (((un_api_Expr x25).fConst).fFloat) (((un_api_Expr x25).fConst).fText)) ((un_api_Expr x25).fKids))).bind fun | (none, x29) => bif (x29 != 0) then some (none, x29) else query_each_Expr_query_Right_5_l2 n a0 a1 k8 m23 none (IntKind.wrap .i64 (y18 + 1)) | (some x28, x29) => bif (x29 != 0) then some ((some x28), x29) else query_each_Expr_query_Right_5_l2 n a0 a1 k8 m23 (some x28) (IntKind.wrap .i64 (y18 + 1)) else k8 none
  | m23 + 1, (some y17), y18 => bif (decide (y18 < ((sll a1).length : Int))) then (idx (sll a1) y18).bind fun x34 => (query_Right_5_2 n y17 a0 (api_Expr.mk ((un_api_Expr x34).fKind) ((un_api_Expr x34).fRel) ((un_api_Expr x34).fCol) (api_Value.mk (((un_api_Expr x34).fConst).fKind) (((un_api_Expr x34).fConst).fInt) (((un_api_Expr x34).fConst).fFloat) (((un_api_Expr x34).fConst).fText)) ((un_api_Expr x34).fKids))).bind fun (x37, x38) => bif (x38 != 0) then some ((some x37), x38) else query_each_Expr_query_Right_5_l2 n a0 a1 k8 m23 (some x37) (IntKind.wrap .i64 (y18 + 1)) else k8 (some y17)
def query_each_Expr_query_Right_5 (n : Nat) (a0 : (Option (List api_Table))) (a1 : (Option (List E_api_Expr))) : Option ((Option (List Int)) × Int) := at1 n fun n =>
  withK (fun (k8 : (Option (List Int)) → Option ((Option (List Int)) × Int)) => query_each_Expr_query_Right_5_l2 n a0 a1 k8 n none 0) (fun | none => some (none, 0) | (some y3) => some ((some y3), 0))
def query_Right_6_1 (n : Nat) (a0 : Int) : Option (Unit) := at1 n fun n =>
  (query_Right_3 n 2).bind fun _ => some ()
def query_Right_1_query_Right_2_query_Right_6_1 (n : Nat) (a0 : (Option (List api_Table))) (a1 : api_Expr) : Option ((Option (List Int)) × Int) := at1 n fun n =>
  (expr_Type n a1 a0).bind fun x1 => withK (fun k5 => bif (x1.2 == 0) then (query_Right_2 n x1.1).bind fun x9 => bif (!x9) then k5 50 else k5 x1.2 else k5 x1.2) (fun (y4 : Int) => bif (y4 == 0) then (query_Right_6_1 n x1.1).bind fun _ => some ((some ([2] : List Int)), y4) else some (none, y4))
def query_Right_6_2 (n : Nat) (a0 : Int) : Option (Bool) := at1 n fun n =>
  some ((a0 == 0) || (a0 == 2))
def query_Right_6_3 (n : Nat) (a0 : Int) : Option (Unit) := at1 n fun n =>
  (query_Right_3 n 2).bind fun _ => some ()
def query_Right_1_query_Right_6_2_query_Right_6_3 (n : Nat) (a0 : (Option (List api_Table))) (a1 : api_Expr) : Option ((Option (List Int)) × Int) := at1 n fun n =>
  (expr_Type n a1 a0).bind fun x1 => withK (fun k5 => bif (x1.2 == 0) then (query_Right_6_2 n x1.1).bind fun x9 => bif (!x9) then k5 50 else k5 x1.2 else k5 x1.2) (fun (y4 : Int) => bif (y4 == 0) then (query_Right_6_3 n x1.1).bind fun _ => some ((some ([2] : List Int)), y4) else some (none, y4))
def query_Right_6 (n : Nat) (a0 : (Option (List api_Table))) (a1 : api_Agg) : Option ((Option (List Int)) × Int) := at1 n fun n =>
  bif (a1.fKind == 1) then (query_Right_1_query_Right_2_query_Right_6_1 n a0 a1.fOf).bind fun | (none, x4) => some (none, x4) | (some x3, x4) => some ((some x3), x4) else bif (a1.fKind == 2) then (query_Right_1_query_Right_6_2_query_Right_6_3 n a0 a1.fOf).bind fun | (none, x10) => some (none, x10) | (some x9, x10) => some ((some x9), x10) else (query_Right_1_query_Right_2_query_Right_3 n a0 a1.fOf).bind fun | (none, x15) => some (none, x15) | (some x14, x15) => some ((some x14), x15)
def query_Right_6_1_2 (n : Nat) (a0 : (List Int)) (a1 : Int) : Option (Unit) := at1 n fun n =>
  (query_Right_3_2 n a0 2).bind fun _ => some ()
def query_Right_1_query_Right_2_query_Right_6_1_2 (n : Nat) (a0 : (List Int)) (a1 : (Option (List api_Table))) (a2 : api_Expr) : Option ((List Int) × Int) := at1 n fun n =>
  (expr_Type n a2 a1).bind fun x1 => withK (fun k5 => bif (x1.2 == 0) then (query_Right_2 n x1.1).bind fun x9 => bif (!x9) then k5 50 else k5 x1.2 else k5 x1.2) (fun (y4 : Int) => bif (y4 == 0) then (query_Right_6_1_2 n a0 x1.1).bind fun _ => some ((a0 ++ ([2] : List Int)), y4) else some (a0, y4))
def query_Right_6_3_2 (n : Nat) (a0 : (List Int)) (a1 : Int) : Option (Unit) := at1 n fun n =>
  (query_Right_3_2 n a0 2).bind fun _ => some ()
def query_Right_1_query_Right_6_2_query_Right_6_3_2 (n : Nat) (a0 : (List Int)) (a1 : (Option (List api_Table))) (a2 : api_Expr) : Option ((List Int) × Int) := at1 n fun n =>
  (expr_Type n a2 a1).bind fun x1 => withK (fun k5 => bif (x1.2 == 0) then (query_Right_6_2 n x1.1).bind fun x9 => bif (!x9) then k5 50 else k5 x1.2 else k5 x1.2) (fun (y4 : Int) => bif (y4 == 0) then (query_Right_6_3_2 n a0 x1.1).bind fun _ => some ((a0 ++ ([2] : List Int)), y4) else some (a0, y4))
def query_Right_6_4 (n : Nat) (a0 : (List Int)) (a1 : (Option (List api_Table))) (a2 : api_Agg) : Option ((List Int) × Int) := at1 n fun n =>
  bif (a2.fKind == 1) then (query_Right_1_query_Right_2_query_Right_6_1_2 n a0 a1 a2.fOf).bind fun (x3, x4) => some (x3, x4) else bif (a2.fKind == 2) then (query_Right_1_query_Right_6_2_query_Right_6_3_2 n a0 a1 a2.fOf).bind fun (x11, x12) => some (x11, x12) else (query_Right_1_query_Right_2_query_Right_3_2 n a0 a1 a2.fOf).bind fun (x18, x19) => some (x18, x19)
def query_each_Agg_query_Right_6_l2 (n : Nat) (a0 : (Option (List api_Table))) (a1 : (Option (List api_Agg))) (k8 : ((Option (List Int)) → Option ((Option (List Int)) × Int))) : Nat → (Option (List Int)) → Int → Option ((Option (List Int)) × Int)
  | 0, _, _ => none
  | m25 + 1, none, y20 => bif (decide (y20 < ((sll a1).length : Int))) then (idx (sll a1) y20).bind fun x27 => (query_Right_6 n a0 x27).bind fun | (none, x31) => bif (x31 != 0) then some (none, x31) else query_each_Agg_query_Right_6_l2 n a0 a1 k8 m25 none (IntKind.wrap .i64 (y20 + 1)) | (some x30, x31) => bif (x31 != 0) then some ((some x30), x31) else query_each_Agg_query_Right_6_l2 n a0 a1 k8 m25 (some x30) (IntKind.wrap .i64 (y20 + 1)) else k8 none
  | m25 + 1, (some y19), y20 => bif (decide (y20 < ((sll a1).length : Int))) then (idx (sll a1) y20).bind fun x38 => (query_Right_6_4 n y19 a0 x38).bind fun (x41, x42) => bif (x42 != 0) then some ((some x41), x42) else query_each_Agg_query_Right_6_l2 n a0 a1 k8 m25 (some x41) (IntKind.wrap .i64 (y20 + 1)) else k8 (some y19)
def query_each_Agg_query_Right_6 (n : Nat) (a0 : (Option (List api_Table))) (a1 : (Option (List api_Agg))) : Option ((Option (List Int)) × Int) := at1 n fun n =>
  withK (fun (k8 : (Option (List Int)) → Option ((Option (List Int)) × Int)) => query_each_Agg_query_Right_6_l2 n a0 a1 k8 n none 0) (fun | none => some (none, 0) | (some y3) => some ((some y3), 0))
def query_each_Agg_query_Right_6_2_l2 (n : Nat) (a1 : (Option (List api_Table))) (a2 : (Option (List api_Agg))) (k8 : ((List Int) → Option ((List Int) × Int))) : Nat → (List Int) → Int → Option ((List Int) × Int)
  | 0, _, _ => none
  | m21 + 1, y15, y16 => bif (decide (y16 < ((sll a2).length : Int))) then (idx (sll a2) y16).bind fun x23 => (query_Right_6_4 n y15 a1 x23).bind fun (x26, x27) => bif (x27 != 0) then some (x26, x27) else query_each_Agg_query_Right_6_2_l2 n a1 a2 k8 m21 x26 (IntKind.wrap .i64 (y16 + 1)) else k8 y15
def query_each_Agg_query_Right_6_2 (n : Nat) (a0 : (List Int)) (a1 : (Option (List api_Table))) (a2 : (Option (List api_Agg))) : Option ((List Int) × Int) := at1 n fun n =>
  withK (fun k8 => query_each_Agg_query_Right_6_2_l2 n a1 a2 k8 n a0 0) (fun (y1 : (List Int)) => some (y1, 0))
def query_Right (n : Nat) (a0 : api_Query) (a1 : (Option (List api_Table))) : Option ((Option (List Int)) × Int) := at1 n fun n =>
  (query_Tables n (api_Query.mk a0.fRels a0.fWhere a0.fGrouped a0.fOut a0.fAggs a0.fOrder) a1).bind fun x1 => bif (x1.2 != 0) then some (none, x1.2) else (query_shaped n (api_Query.mk a0.fRels a0.fWhere a0.fGrouped a0.fOut a0.fAggs a0.fOrder)).bind fun x4 => bif (!x4) then some (none, 2) else (query_each_Expr_query_Right_4 n x1.1 a0.fWhere).bind fun x8 => withK (fun (k16 : (Option (List Int)) → Int → Option ((Option (List Int)) × Int)) => bif (x8 == 0) then (query_each_Expr_query_Right_5 n x1.1 a0.fOut).bind fun | (none, x64) => k16 none x64 | (some x63, x64) => k16 (some x63) x64 else k16 none x8) (fun | none, y11 => withK (fun (k28 : (Option (List Int)) → Int → Option ((Option (List Int)) × Int)) => bif (y11 == 0) then (query_each_Agg_query_Right_6 n x1.1 a0.fAggs).bind fun | (none, x34) => k28 none x34 | (some x33, x34) => k28 (some x33) x34 else k28 none y11) (fun | none, y23 => bif (y23 != 0) then some (none, y23) else some (none, 0) | (some y22), y23 => bif (y23 != 0) then some (none, y23) else some ((some y22), 0)) | (some y10), y11 => withK (fun k51 => bif (y11 == 0) then (query_each_Agg_query_Right_6_2 n y10 x1.1 a0.fAggs).bind fun (x55, x56) => k51 x55 x56 else k51 y10 y11) (fun (y45 : (List Int)) (y46 : Int) => bif (y46 != 0) then some (none, y46) else some ((some y45), 0)))
def ref01_Ints_l4 (n : Nat) (a0 : (Option (List Int))) (a1 : (Option (List Int))) (k4 : (Unit → Option (Bool))) : Nat → Int → Option (Bool)
  | 0, _ => none
  | m7 + 1, y6 => bif (decide (y6 < ((sll a0).length : Int))) then (idx (sll a0) y6).bind fun x9 => (idx (sll a1) y6).bind fun x11 => bif (x9 != x11) then some false else ref01_Ints_l4 n a0 a1 k4 m7 (IntKind.wrap .i64 (y6 + 1)) else k4 ()
def ref01_Ints (n : Nat) (a0 : (Option (List Int))) (a1 : (Option (List Int))) : Option (Bool) := at1 n fun n =>
  bif (((sll a0).length : Int) != ((sll a1).length : Int)) then some false else withK (fun k4 => ref01_Ints_l4 n a0 a1 k4 n 0) (fun (_ : Unit) => some true)
def law23_QueryTables_l15 (n : Nat) (a1 : (Option (List api_Table))) (y43 : Int) (k51 : ((List api_Table) → Option (Bool))) (x52 : api_Table) : Nat → Int → Option (Bool)
  | 0, _ => none
  | m57 + 1, y56 => bif (decide (y56 < y43)) then (idx (sll a1) y56).bind fun x59 => bif (sEq x59.fName x52.fName) then some true else law23_QueryTables_l15 n a1 y43 k51 x52 m57 (IntKind.wrap .i64 (y56 + 1)) else k51 ([x52] : List api_Table)
def law23_QueryTables_l15x (n : Nat) (a1 : (Option (List api_Table))) (y42 : (List api_Table)) (y43 : Int) (k68 : ((List api_Table) → Option (Bool))) (x69 : api_Table) : Nat → Int → Option (Bool)
  | 0, _ => none
  | m74 + 1, y73 => bif (decide (y73 < y43)) then (idx (sll a1) y73).bind fun x76 => bif (sEq x76.fName x69.fName) then some true else law23_QueryTables_l15x n a1 y42 y43 k68 x69 m74 (IntKind.wrap .i64 (y73 + 1)) else k68 (y42 ++ ([x69] : List api_Table))
def law23_QueryTables_l11 (n : Nat) (a1 : (Option (List api_Table))) (k24 : ((Option (List api_Table)) → Option (Bool))) : Nat → (Option (List api_Table)) → Int → Option (Bool)
  | 0, _, _ => none
  | m44 + 1, none, y43 => bif (decide (y43 ≥ 0)) then withK (fun k51 => (idx (sll a1) y43).bind fun x52 => (ckA 40 ([x52] : List api_Table).length).bind fun _ => law23_QueryTables_l15 n a1 y43 k51 x52 n 0) (fun (y47 : (List api_Table)) => law23_QueryTables_l11 n a1 k24 m44 (some y47) (IntKind.wrap .i64 (y43 - 1))) else k24 none
  | m44 + 1, (some y42), y43 => bif (decide (y43 ≥ 0)) then withK (fun k68 => (idx (sll a1) y43).bind fun x69 => (ckA 40 (y42 ++ ([x69] : List api_Table)).length).bind fun _ => law23_QueryTables_l15x n a1 y42 y43 k68 x69 n 0) (fun (y63 : (List api_Table)) => law23_QueryTables_l11 n a1 k24 m44 (some y63) (IntKind.wrap .i64 (y43 - 1))) else k24 (some y42)
def law23_QueryTables (n : Nat) (a0 : api_Query) (a1 : (Option (List api_Table))) (a2 : (Option (List api_Table))) : Option (Bool) := at1 n fun n =>
  (law23_works n).bind fun x1 => bif (!x1) then some false else (law23_Great n a0 a1).bind fun x4 => bif x4 then some true else (law23_Great n (api_Query.mk none none false none none none) a2).bind fun x7 => bif x7 then some true else (query_Right n (api_Query.mk a0.fRels a0.fWhere a0.fGrouped a0.fOut a0.fAggs a0.fOrder) a1).bind fun x10 => withK (fun k18 => bif (sll a1).isEmpty then (ckA 40 ([] : List api_Table).length).bind fun _ => bif (sll a2).isEmpty then (ckA 40 ([] : List api_Table).length).bind fun _ => (query_Right n a0 (some ([] : List api_Table))).bind fun x88 => k18 x88.2 x88.1 else (ckA 40 (([] : List api_Table) ++ (sll a2)).length).bind fun _ => (query_Right n a0 (some (([] : List api_Table) ++ (sll a2)))).bind fun x91 => k18 x91.2 x91.1 else (ckA 40 (([] : List api_Table) ++ (sll a1)).length).bind fun _ => bif (sll a2).isEmpty then (ckA 40 (([] : List api_Table) ++ (sll a1)).length).bind fun _ => (query_Right n a0 (some (([] : List api_Table) ++ (sll a1)))).bind fun x96 => k18 x96.2 x96.1 else (ckA 40 ((([] : List api_Table) ++ (sll a1)) ++ (sll a2)).length).bind fun _ => (query_Right n a0 (some ((([] : List api_Table) ++ (sll a1)) ++ (sll a2)))).bind fun x99 => k18 x99.2 x99.1) (fun (y13 : Int) (y14 : (Option (List Int))) => withK (fun k20 => bif (x10.2 == 0) then bif (y13 != 0) then some false else (ref01_Ints n x10.1 y14).bind fun x81 => bif (!x81) then some false else k20 () else k20 ()) (fun (_ : Unit) => withK (fun (k24 : (Option (List api_Table)) → Option (Bool)) => law23_QueryTables_l11 n a1 k24 n none (IntKind.wrap .i64 (((sll a1).length : Int) - 1))) (fun | none => (query_Right n a0 none).bind fun x25 => bif (x25.2 == x10.2) then (ref01_Ints n x10.1 x25.1).bind fun x28 => bif x28 then bif (x10.2 != 0) then (some true) else (some true) else some false else some false | (some y23) => (query_Right n a0 (some y23)).bind fun x32 => bif (x32.2 == x10.2) then (ref01_Ints n x10.1 x32.1).bind fun x35 => bif x35 then bif (x10.2 != 0) then (some true) else (some true) else some false else some false)))
end Go.Pl
