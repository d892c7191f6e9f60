import Derived.Test.YtknmgphnkfeifaaAbLift
namespace Go.Pl
open Go Go.Ab
set_option linter.unusedVariables false
structure api_Column where
  fName : ByteArray
  fKind : Int
def R_api_Column (x : api_Column) : List PV := [.str x.fName, .int .i64 x.fKind]
def W_api_Column (x : api_Column) : Prop := wS x.fName ∧ (wI .i64) x.fKind
structure api_Table where
  fName : ByteArray
  fCols : (Option (List api_Column))
def R_api_Table (x : api_Table) : List PV := [.str x.fName, encSl R_api_Column x.fCols]
def W_api_Table (x : api_Table) : Prop := wS x.fName ∧ (wSl W_api_Column) x.fCols
structure api_Value where
  fKind : Int
  fInt : Int
  fFloat : Nat
  fText : ByteArray
def R_api_Value (x : api_Value) : List PV := [.int .i64 x.fKind, .int .i64 x.fInt, .flt .f64 x.fFloat, .str x.fText]
def W_api_Value (x : api_Value) : Prop := (wI .i64) x.fKind ∧ (wI .i64) x.fInt ∧ (wF .f64) x.fFloat ∧ wS x.fText
def law06_great_l4 (n : Nat) (a0 : api_Table) (k4 : (Unit → Option (Bool))) : Nat → Int → Option (Bool)
  | 0, _ => none
  | m7 + 1, y6 => bif (decide (y6 < ((sll a0.fCols).length : Int))) then (idx (sll a0.fCols) y6).bind fun x9 => bif (decide ((x9.fName.size : Int) > 500)) then some true else law06_great_l4 n a0 k4 m7 (IntKind.wrap .i64 (y6 + 1)) else k4 ()
def law06_great (n : Nat) (a0 : api_Table) : Option (Bool) := at1 n fun n =>
  bif ((decide (((sll a0.fCols).length : Int) > 100)) || (decide ((a0.fName.size : Int) > 500))) then some true else withK (fun k4 => law06_great_l4 n a0 k4 n 0) (fun (_ : Unit) => some false)
def schema_Name_l2 (n : Nat) (a0 : ByteArray) (k3 : (Unit → Option (Bool))) : Nat → Int → Option (Bool)
  | 0, _ => none
  | m6 + 1, y5 => bif (decide (y5 < (a0.size : Int))) then (idxS a0 y5).bind fun x8 => bif ((!(((decide (x8 ≥ 97)) && (decide (x8 ≤ 122))) || (x8 == 95))) && (((y5 == 0) || (decide (x8 < 48))) || (decide (x8 > 57)))) then some false else schema_Name_l2 n a0 k3 m6 (IntKind.wrap .i64 (y5 + 1)) else k3 ()
def schema_Name (n : Nat) (a0 : ByteArray) : Option (Bool) := at1 n fun n =>
  withK (fun k3 => schema_Name_l2 n a0 k3 n 0) (fun (_ : Unit) => some ((decide ((a0.size : Int) > 0)) && (decide ((a0.size : Int) ≤ 20))))
def ref06_Name_l4 (n : Nat) (a0 : ByteArray) (k4 : (Unit → Option (Bool))) : Nat → Int → Option (Bool)
  | 0, _ => none
  | m7 + 1, y6 => bif (decide (y6 < (a0.size : Int))) then (idxS a0 y6).bind fun x9 => bif ((((!((decide (x9 ≥ 48)) && (decide (x9 ≤ 57)))) && (!((decide (x9 ≥ 97)) && (decide (x9 ≤ 122))))) && (x9 != 95)) || (((decide (x9 ≥ 48)) && (decide (x9 ≤ 57))) && (y6 == 0))) then some false else ref06_Name_l4 n a0 k4 m7 (IntKind.wrap .i64 (y6 + 1)) else k4 ()
def ref06_Name (n : Nat) (a0 : ByteArray) : Option (Bool) := at1 n fun n =>
  bif ((sEq a0 ByteArray.empty) || (decide ((a0.size : Int) > 20))) then some false else withK (fun k4 => ref06_Name_l4 n a0 k4 n 0) (fun (_ : Unit) => some true)
def schema_Right_l6 (n : Nat) (a0 : api_Table) (k8 : (Bool → Option (Int))) : Nat → (List (ByteArray × Bool)) → Int → Bool → Option (Int)
  | 0, _, _, _ => none
  | m16 + 1, y13, y14, y15 => bif (decide (y14 < ((sll a0.fCols).length : Int))) then (idx (sll a0.fCols) y14).bind fun x18 => (schema_Name n x18.fName).bind fun x20 => bif (((!x20) || (decide (x18.fKind < 1))) || (decide (x18.fKind > 4))) then some 2 else schema_Right_l6 n a0 k8 m16 (mput y13 x18.fName true) (IntKind.wrap .i64 (y14 + 1)) (y15 || ((mget y13 x18.fName).getD false)) else k8 y15
def schema_Right (n : Nat) (a0 : api_Table) : Option (Int) := at1 n fun n =>
  (schema_Name n a0.fName).bind fun x1 => bif (((!x1) || (decide (((sll a0.fCols).length : Int) < 1))) || (decide (((sll a0.fCols).length : Int) > 8))) then some 2 else withK (fun k8 => schema_Right_l6 n a0 k8 n ([] : List (ByteArray × Bool)) 0 false) (fun (y7 : Bool) => bif y7 then some 41 else some 0)
def ref06_Column_l2 (n : Nat) (a0 : api_Table) (a1 : ByteArray) (k3 : (Unit → Option (Int))) : Nat → Int → Option (Int)
  | 0, _ => none
  | m6 + 1, y5 => bif (decide (y5 < ((sll a0.fCols).length : Int))) then (idx (sll a0.fCols) y5).bind fun x8 => bif (sEq x8.fName a1) then some y5 else ref06_Column_l2 n a0 a1 k3 m6 (IntKind.wrap .i64 (y5 + 1)) else k3 ()
def ref06_Column (n : Nat) (a0 : api_Table) (a1 : ByteArray) : Option (Int) := at1 n fun n =>
  withK (fun k3 => ref06_Column_l2 n a0 a1 k3 n 0) (fun (_ : Unit) => some (-1))
def ref06_Right_l9 (n : Nat) (a0 : api_Table) (k9 : (Unit → Option (Int))) : Nat → Int → Option (Int)
  | 0, _ => none
  | m12 + 1, y11 => bif (decide (y11 < ((sll a0.fCols).length : Int))) then (idx (sll a0.fCols) y11).bind fun x14 => (ref06_Column n a0 x14.fName).bind fun x16 => bif (x16 != y11) then some 41 else ref06_Right_l9 n a0 k9 m12 (IntKind.wrap .i64 (y11 + 1)) else k9 ()
def ref06_Right_l4 (n : Nat) (a0 : api_Table) (k6 : (Unit → Option (Int))) : Nat → Int → Option (Int)
  | 0, _ => none
  | m21 + 1, y20 => bif (decide (y20 < ((sll a0.fCols).length : Int))) then (idx (sll a0.fCols) y20).bind fun x23 => (ref06_Name n x23.fName).bind fun x25 => bif (((!x25) || (decide (x23.fKind < 1))) || (decide (x23.fKind > 4))) then some 2 else ref06_Right_l4 n a0 k6 m21 (IntKind.wrap .i64 (y20 + 1)) else k6 ()
def ref06_Right (n : Nat) (a0 : api_Table) : Option (Int) := at1 n fun n =>
  (ref06_Name n a0.fName).bind fun x1 => bif (((!x1) || (((sll a0.fCols).length : Int) == 0)) || (decide (((sll a0.fCols).length : Int) > 8))) then some 2 else withK (fun k6 => ref06_Right_l4 n a0 k6 n 0) (fun (_ : Unit) => withK (fun k9 => ref06_Right_l9 n a0 k9 n 0) (fun (_ : Unit) => some 0))
def schema_Column_1 (n : Nat) (a0 : api_Column) (a1 : ByteArray) : Option (Bool) := at1 n fun n =>
  some (sEq a0.fName a1)
def slices_IndexFunc_Column_schema_Column_1_l2 (n : Nat) (a0 : (Option (List api_Column))) (a1 : ByteArray) (k3 : (Unit → Option (Int))) : Nat → Int → Option (Int)
  | 0, _ => none
  | m6 + 1, y5 => bif (decide (y5 < ((sll a0).length : Int))) then (idx (sll a0) y5).bind fun x8 => (schema_Column_1 n x8 a1).bind fun x10 => bif x10 then some y5 else slices_IndexFunc_Column_schema_Column_1_l2 n a0 a1 k3 m6 (IntKind.wrap .i64 (y5 + 1)) else k3 ()
def slices_IndexFunc_Column_schema_Column_1 (n : Nat) (a0 : (Option (List api_Column))) (a1 : ByteArray) : Option (Int) := at1 n fun n =>
  withK (fun k3 => slices_IndexFunc_Column_schema_Column_1_l2 n a0 a1 k3 n 0) (fun (_ : Unit) => some (-1))
def schema_Column (n : Nat) (a0 : api_Table) (a1 : ByteArray) : Option (Int) := at1 n fun n =>
  (slices_IndexFunc_Column_schema_Column_1 n a0.fCols a1).bind fun x1 => some x1
def math_Signbit (n : Nat) (a0 : Nat) : Option (Bool) := at1 n fun n =>
  some (decide ((IntKind.wrap .i64 (a0 : Int)) < 0))
def value_Right (n : Nat) (a0 : api_Value) : Option (Bool) := at1 n fun n =>
  withK (fun k2 => bif ((FloatKind.format .f64).order a0.fFloat 0 == some .eq) then (math_Signbit n a0.fFloat).bind fun x14 => k2 (!x14) else k2 false) (fun (y1 : Bool) => withK (fun k6 => bif (a0.fKind == 0) then some (((a0.fInt == 0) && y1) && (sEq a0.fText ByteArray.empty)) else bif (a0.fKind == 1) then bif ((a0.fInt != 0) && (a0.fInt != 1)) then some false else k6 () else bif (a0.fKind == 2) then k6 () else bif (a0.fKind == 3) then some ((a0.fInt == 0) && (sEq a0.fText ByteArray.empty)) else bif (a0.fKind == 4) then some (((a0.fInt == 0) && y1) && (decide ((a0.fText.size : Int) ≤ 64))) else some false) (fun (_ : Unit) => some (y1 && (sEq a0.fText ByteArray.empty))))
def row_Right_1 (n : Nat) (a0 : api_Value) : Option (Bool) := at1 n fun n =>
  (value_Right n a0).bind fun x1 => some (!x1)
def slices_IndexFunc_Value_row_Right_1_l2 (n : Nat) (a0 : (Option (List api_Value))) (k3 : (Unit → Option (Int))) : Nat → Int → Option (Int)
  | 0, _ => none
  | m6 + 1, y5 => bif (decide (y5 < ((sll a0).length : Int))) then (idx (sll a0) y5).bind fun x8 => (row_Right_1 n x8).bind fun x10 => bif x10 then some y5 else slices_IndexFunc_Value_row_Right_1_l2 n a0 k3 m6 (IntKind.wrap .i64 (y5 + 1)) else k3 ()
def slices_IndexFunc_Value_row_Right_1 (n : Nat) (a0 : (Option (List api_Value))) : Option (Int) := at1 n fun n =>
  withK (fun k3 => slices_IndexFunc_Value_row_Right_1_l2 n a0 k3 n 0) (fun (_ : Unit) => some (-1))
def slices_ContainsFunc_Value_row_Right_1 (n : Nat) (a0 : (Option (List api_Value))) : Option (Bool) := at1 n fun n =>
  (slices_IndexFunc_Value_row_Right_1 n a0).bind fun x1 => some (decide (x1 ≥ 0))
def row_Right (n : Nat) (a0 : (Option (List api_Value))) : Option (Bool) := at1 n fun n =>
  bif (decide (((sll a0).length : Int) ≤ 200)) then (slices_ContainsFunc_Value_row_Right_1 n a0).bind fun x2 => some (!x2) else some false
def schema_Fits_l4 (n : Nat) (a0 : api_Table) (a1 : (Option (List api_Value))) (k7 : (Unit → Option (Bool))) : Nat → Int → Option (Bool)
  | 0, _ => none
  | m10 + 1, y9 => bif (decide (y9 < ((sll a1).length : Int))) then (idx (sll a1) y9).bind fun x12 => bif (x12.fKind != 0) then (idx (sll a0.fCols) y9).bind fun x15 => bif (x12.fKind != x15.fKind) then some false else schema_Fits_l4 n a0 a1 k7 m10 (IntKind.wrap .i64 (y9 + 1)) else schema_Fits_l4 n a0 a1 k7 m10 (IntKind.wrap .i64 (y9 + 1)) else k7 ()
def schema_Fits (n : Nat) (a0 : api_Table) (a1 : (Option (List api_Value))) : Option (Bool) := at1 n fun n =>
  bif (((sll a1).length : Int) != ((sll a0.fCols).length : Int)) then some false else (row_Right n a1).bind fun x2 => bif (!x2) then some false else withK (fun k7 => schema_Fits_l4 n a0 a1 k7 n 0) (fun (_ : Unit) => some true)
def ref04_zero (n : Nat) (a0 : Nat) : Option (Bool) := at1 n fun n =>
  bif ((FloatKind.format .f64).order a0 0 == some .eq) then ((FloatKind.format .f64).div 4607182418800017408 a0).bind fun x2 => some ((FloatKind.format .f64).order x2 0 == some .gt) else some false
def ref04_Right (n : Nat) (a0 : api_Value) : Option (Bool) := at1 n fun n =>
  bif (a0.fKind == 0) then bif (a0.fInt == 0) then (ref04_zero n a0.fFloat).bind fun x3 => some (x3 && (sEq a0.fText ByteArray.empty)) else some false else bif (a0.fKind == 1) then bif ((a0.fInt == 0) || (a0.fInt == 1)) then (ref04_zero n a0.fFloat).bind fun x7 => some (x7 && (sEq a0.fText ByteArray.empty)) else some false else bif (a0.fKind == 2) then (ref04_zero n a0.fFloat).bind fun x10 => some (x10 && (sEq a0.fText ByteArray.empty)) else bif (a0.fKind == 3) then some ((a0.fInt == 0) && (sEq a0.fText ByteArray.empty)) else bif (a0.fKind == 4) then bif (a0.fInt == 0) then (ref04_zero n a0.fFloat).bind fun x15 => some (x15 && (decide ((a0.fText.size : Int) ≤ 64))) else some false else some false
def ref06_Fits_l4 (n : Nat) (a0 : api_Table) (a1 : (Option (List api_Value))) (k4 : (Unit → Option (Bool))) : Nat → Int → Option (Bool)
  | 0, _ => none
  | m7 + 1, y6 => bif (decide (y6 < ((sll a1).length : Int))) then (idx (sll a1) y6).bind fun x9 => (ref04_Right n x9).bind fun x11 => bif (!x11) then some false else bif (x9.fKind != 0) then (idx (sll a0.fCols) y6).bind fun x15 => bif (x9.fKind != x15.fKind) then some false else ref06_Fits_l4 n a0 a1 k4 m7 (IntKind.wrap .i64 (y6 + 1)) else ref06_Fits_l4 n a0 a1 k4 m7 (IntKind.wrap .i64 (y6 + 1)) else k4 ()
def ref06_Fits (n : Nat) (a0 : api_Table) (a1 : (Option (List api_Value))) : Option (Bool) := at1 n fun n =>
  bif ((((sll a1).length : Int) != ((sll a0.fCols).length : Int)) || (decide (((sll a1).length : Int) > 200))) then some false else withK (fun k4 => ref06_Fits_l4 n a0 a1 k4 n 0) (fun (_ : Unit) => some true)
def law06_works (n : Nat)  : Option (Bool) := at1 n fun n =>
  (schema_Right n (api_Table.mk (ByteArray.mk #[116]) (some ([(api_Column.mk (ByteArray.mk #[97]) 2), (api_Column.mk (ByteArray.mk #[98]) 4)] : List api_Column)))).bind fun x1 => bif (x1 == 0) then (schema_Right n (api_Table.mk (ByteArray.mk #[116]) (some ([(api_Column.mk (ByteArray.mk #[97]) 2), (api_Column.mk (ByteArray.mk #[97]) 2)] : List api_Column)))).bind fun x4 => bif (x4 == 41) then (schema_Right n (api_Table.mk (ByteArray.mk #[116]) none)).bind fun x7 => some (x7 == 2) else some false else some false
def law06_SchemaAsks (n : Nat) (a0 : api_Table) (a1 : ByteArray) (a2 : (Option (List api_Value))) : Option (Bool) := at1 n fun n =>
  (law06_great n a0).bind fun x1 => bif ((x1 || (decide ((a1.size : Int) > 500))) || (decide (((sll a2).length : Int) > 300))) then some true else (schema_Name n a1).bind fun x4 => (ref06_Name n a1).bind fun x6 => bif (x4 == x6) then (schema_Right n a0).bind fun x9 => (ref06_Right n a0).bind fun x11 => bif (x9 == x11) then (schema_Column n a0 a1).bind fun x14 => (ref06_Column n (api_Table.mk a0.fName a0.fCols) a1).bind fun x16 => bif (x14 == x16) then (schema_Fits n a0 a2).bind fun x19 => (ref06_Fits n (api_Table.mk a0.fName a0.fCols) a2).bind fun x21 => bif (x19 == x21) then (law06_works n).bind fun x24 => some x24 else some false else some false else some false else some false
end Go.Pl
