import Derived.Test.YtknmgphnkfeifaaAbRow
namespace Go.Pl
open Go Go.Ab
set_option linter.unusedVariables false
structure api_Column where
  fName : ByteArray
  fKind : Int
def R_api_Column (x : api_Column) : List PV := [.str x.fName, .int .i64 x.fKind]
def W_api_Column (x : api_Column) : Prop := wS x.fName ∧ (wI .i64) x.fKind
structure api_Table where
  fName : ByteArray
  fCols : (Option (List api_Column))
def R_api_Table (x : api_Table) : List PV := [.str x.fName, encSl R_api_Column x.fCols]
def W_api_Table (x : api_Table) : Prop := wS x.fName ∧ (wSl W_api_Column) x.fCols
structure api_Value where
  fKind : Int
  fInt : Int
  fFloat : Nat
  fText : ByteArray
def R_api_Value (x : api_Value) : List PV := [.int .i64 x.fKind, .int .i64 x.fInt, .flt .f64 x.fFloat, .str x.fText]
def W_api_Value (x : api_Value) : Prop := (wI .i64) x.fKind ∧ (wI .i64) x.fInt ∧ (wF .f64) x.fFloat ∧ wS x.fText
structure codec_Reader where
  fmade : Bool
  fb : (Option (List Int))
  fe : Int
def R_codec_Reader (x : codec_Reader) : List PV := [.bool x.fmade, encSl (rI .u8) x.fb, .int .i64 x.fe]
def W_codec_Reader (x : codec_Reader) : Prop := wB x.fmade ∧ (wSl (wI .u8)) x.fb ∧ (wI .i64) x.fe
def law06_great_l4 (n : Nat) (a0 : api_Table) (k4 : (Unit → Option (Bool))) : Nat → Int → Option (Bool)
  | 0, _ => none
  | m7 + 1, y6 => bif (decide (y6 < ((sll a0.fCols).length : Int))) then (idx (sll a0.fCols) y6).bind fun x9 => bif (decide ((x9.fName.size : Int) > 500)) then some true else law06_great_l4 n a0 k4 m7 (IntKind.wrap .i64 (y6 + 1)) else k4 ()
def law06_great (n : Nat) (a0 : api_Table) : Option (Bool) := at1 n fun n =>
  bif ((decide (((sll a0.fCols).length : Int) > 100)) || (decide ((a0.fName.size : Int) > 500))) then some true else withK (fun k4 => law06_great_l4 n a0 k4 n 0) (fun (_ : Unit) => some false)
def schema_Name_l2 (n : Nat) (a0 : ByteArray) (k3 : (Unit → Option (Bool))) : Nat → Int → Option (Bool)
  | 0, _ => none
  | m6 + 1, y5 => bif (decide (y5 < (a0.size : Int))) then (idxS a0 y5).bind fun x8 => bif ((!(((decide (x8 ≥ 97)) && (decide (x8 ≤ 122))) || (x8 == 95))) && (((y5 == 0) || (decide (x8 < 48))) || (decide (x8 > 57)))) then some false else schema_Name_l2 n a0 k3 m6 (IntKind.wrap .i64 (y5 + 1)) else k3 ()
def schema_Name (n : Nat) (a0 : ByteArray) : Option (Bool) := at1 n fun n =>
  withK (fun k3 => schema_Name_l2 n a0 k3 n 0) (fun (_ : Unit) => some ((decide ((a0.size : Int) > 0)) && (decide ((a0.size : Int) ≤ 20))))
def ref06_Name_l4 (n : Nat) (a0 : ByteArray) (k4 : (Unit → Option (Bool))) : Nat → Int → Option (Bool)
  | 0, _ => none
  | m7 + 1, y6 => bif (decide (y6 < (a0.size : Int))) then (idxS a0 y6).bind fun x9 => bif ((((!((decide (x9 ≥ 48)) && (decide (x9 ≤ 57)))) && (!((decide (x9 ≥ 97)) && (decide (x9 ≤ 122))))) && (x9 != 95)) || (((decide (x9 ≥ 48)) && (decide (x9 ≤ 57))) && (y6 == 0))) then some false else ref06_Name_l4 n a0 k4 m7 (IntKind.wrap .i64 (y6 + 1)) else k4 ()
def ref06_Name (n : Nat) (a0 : ByteArray) : Option (Bool) := at1 n fun n =>
  bif ((sEq a0 ByteArray.empty) || (decide ((a0.size : Int) > 20))) then some false else withK (fun k4 => ref06_Name_l4 n a0 k4 n 0) (fun (_ : Unit) => some true)
def schema_Right_l6 (n : Nat) (a0 : api_Table) (k8 : (Bool → Option (Int))) : Nat → (List (ByteArray × Bool)) → Int → Bool → Option (Int)
  | 0, _, _, _ => none
  | m16 + 1, y13, y14, y15 => bif (decide (y14 < ((sll a0.fCols).length : Int))) then (idx (sll a0.fCols) y14).bind fun x18 => (schema_Name n x18.fName).bind fun x20 => bif (((!x20) || (decide (x18.fKind < 1))) || (decide (x18.fKind > 4))) then some 2 else schema_Right_l6 n a0 k8 m16 (mput y13 x18.fName true) (IntKind.wrap .i64 (y14 + 1)) (y15 || ((mget y13 x18.fName).getD false)) else k8 y15
def schema_Right (n : Nat) (a0 : api_Table) : Option (Int) := at1 n fun n =>
  (schema_Name n a0.fName).bind fun x1 => bif (((!x1) || (decide (((sll a0.fCols).length : Int) < 1))) || (decide (((sll a0.fCols).length : Int) > 8))) then some 2 else withK (fun k8 => schema_Right_l6 n a0 k8 n ([] : List (ByteArray × Bool)) 0 false) (fun (y7 : Bool) => bif y7 then some 41 else some 0)
def ref06_Column_l2 (n : Nat) (a0 : api_Table) (a1 : ByteArray) (k3 : (Unit → Option (Int))) : Nat → Int → Option (Int)
  | 0, _ => none
  | m6 + 1, y5 => bif (decide (y5 < ((sll a0.fCols).length : Int))) then (idx (sll a0.fCols) y5).bind fun x8 => bif (sEq x8.fName a1) then some y5 else ref06_Column_l2 n a0 a1 k3 m6 (IntKind.wrap .i64 (y5 + 1)) else k3 ()
def ref06_Column (n : Nat) (a0 : api_Table) (a1 : ByteArray) : Option (Int) := at1 n fun n =>
  withK (fun k3 => ref06_Column_l2 n a0 a1 k3 n 0) (fun (_ : Unit) => some (-1))
def ref06_Right_l9 (n : Nat) (a0 : api_Table) (k9 : (Unit → Option (Int))) : Nat → Int → Option (Int)
  | 0, _ => none
  | m12 + 1, y11 => bif (decide (y11 < ((sll a0.fCols).length : Int))) then (idx (sll a0.fCols) y11).bind fun x14 => (ref06_Column n a0 x14.fName).bind fun x16 => bif (x16 != y11) then some 41 else ref06_Right_l9 n a0 k9 m12 (IntKind.wrap .i64 (y11 + 1)) else k9 ()
def ref06_Right_l4 (n : Nat) (a0 : api_Table) (k6 : (Unit → Option (Int))) : Nat → Int → Option (Int)
  | 0, _ => none
  | m21 + 1, y20 => bif (decide (y20 < ((sll a0.fCols).length : Int))) then (idx (sll a0.fCols) y20).bind fun x23 => (ref06_Name n x23.fName).bind fun x25 => bif (((!x25) || (decide (x23.fKind < 1))) || (decide (x23.fKind > 4))) then some 2 else ref06_Right_l4 n a0 k6 m21 (IntKind.wrap .i64 (y20 + 1)) else k6 ()
def ref06_Right (n : Nat) (a0 : api_Table) : Option (Int) := at1 n fun n =>
  (ref06_Name n a0.fName).bind fun x1 => bif (((!x1) || (((sll a0.fCols).length : Int) == 0)) || (decide (((sll a0.fCols).length : Int) > 8))) then some 2 else withK (fun k6 => ref06_Right_l4 n a0 k6 n 0) (fun (_ : Unit) => withK (fun k9 => ref06_Right_l9 n a0 k9 n 0) (fun (_ : Unit) => some 0))
def schema_Column_1 (n : Nat) (a0 : api_Column) (a1 : ByteArray) : Option (Bool) := at1 n fun n =>
  some (sEq a0.fName a1)
def slices_IndexFunc_Column_schema_Column_1_l2 (n : Nat) (a0 : (Option (List api_Column))) (a1 : ByteArray) (k3 : (Unit → Option (Int))) : Nat → Int → Option (Int)
  | 0, _ => none
  | m6 + 1, y5 => bif (decide (y5 < ((sll a0).length : Int))) then (idx (sll a0) y5).bind fun x8 => (schema_Column_1 n x8 a1).bind fun x10 => bif x10 then some y5 else slices_IndexFunc_Column_schema_Column_1_l2 n a0 a1 k3 m6 (IntKind.wrap .i64 (y5 + 1)) else k3 ()
def slices_IndexFunc_Column_schema_Column_1 (n : Nat) (a0 : (Option (List api_Column))) (a1 : ByteArray) : Option (Int) := at1 n fun n =>
  withK (fun k3 => slices_IndexFunc_Column_schema_Column_1_l2 n a0 a1 k3 n 0) (fun (_ : Unit) => some (-1))
def schema_Column (n : Nat) (a0 : api_Table) (a1 : ByteArray) : Option (Int) := at1 n fun n =>
  (slices_IndexFunc_Column_schema_Column_1 n a0.fCols a1).bind fun x1 => some x1
def math_Signbit (n : Nat) (a0 : Nat) : Option (Bool) := at1 n fun n =>
  some (decide ((IntKind.wrap .i64 (a0 : Int)) < 0))
def value_Right (n : Nat) (a0 : api_Value) : Option (Bool) := at1 n fun n =>
  withK (fun k2 => bif ((FloatKind.format .f64).order a0.fFloat 0 == some .eq) then (math_Signbit n a0.fFloat).bind fun x14 => k2 (!x14) else k2 false) (fun (y1 : Bool) => withK (fun k6 => bif (a0.fKind == 0) then some (((a0.fInt == 0) && y1) && (sEq a0.fText ByteArray.empty)) else bif (a0.fKind == 1) then bif ((a0.fInt != 0) && (a0.fInt != 1)) then some false else k6 () else bif (a0.fKind == 2) then k6 () else bif (a0.fKind == 3) then some ((a0.fInt == 0) && (sEq a0.fText ByteArray.empty)) else bif (a0.fKind == 4) then some (((a0.fInt == 0) && y1) && (decide ((a0.fText.size : Int) ≤ 64))) else some false) (fun (_ : Unit) => some (y1 && (sEq a0.fText ByteArray.empty))))
def row_Right_1 (n : Nat) (a0 : api_Value) : Option (Bool) := at1 n fun n =>
  (value_Right n a0).bind fun x1 => some (!x1)
def slices_IndexFunc_Value_row_Right_1_l2 (n : Nat) (a0 : (Option (List api_Value))) (k3 : (Unit → Option (Int))) : Nat → Int → Option (Int)
  | 0, _ => none
  | m6 + 1, y5 => bif (decide (y5 < ((sll a0).length : Int))) then (idx (sll a0) y5).bind fun x8 => (row_Right_1 n x8).bind fun x10 => bif x10 then some y5 else slices_IndexFunc_Value_row_Right_1_l2 n a0 k3 m6 (IntKind.wrap .i64 (y5 + 1)) else k3 ()
def slices_IndexFunc_Value_row_Right_1 (n : Nat) (a0 : (Option (List api_Value))) : Option (Int) := at1 n fun n =>
  withK (fun k3 => slices_IndexFunc_Value_row_Right_1_l2 n a0 k3 n 0) (fun (_ : Unit) => some (-1))
def slices_ContainsFunc_Value_row_Right_1 (n : Nat) (a0 : (Option (List api_Value))) : Option (Bool) := at1 n fun n =>
  (slices_IndexFunc_Value_row_Right_1 n a0).bind fun x1 => some (decide (x1 ≥ 0))
def row_Right (n : Nat) (a0 : (Option (List api_Value))) : Option (Bool) := at1 n fun n =>
  bif (decide (((sll a0).length : Int) ≤ 200)) then (slices_ContainsFunc_Value_row_Right_1 n a0).bind fun x2 => some (!x2) else some false
def schema_Fits_l4 (n : Nat) (a0 : api_Table) (a1 : (Option (List api_Value))) (k7 : (Unit → Option (Bool))) : Nat → Int → Option (Bool)
  | 0, _ => none
  | m10 + 1, y9 => bif (decide (y9 < ((sll a1).length : Int))) then (idx (sll a1) y9).bind fun x12 => bif (x12.fKind != 0) then (idx (sll a0.fCols) y9).bind fun x15 => bif (x12.fKind != x15.fKind) then some false else schema_Fits_l4 n a0 a1 k7 m10 (IntKind.wrap .i64 (y9 + 1)) else schema_Fits_l4 n a0 a1 k7 m10 (IntKind.wrap .i64 (y9 + 1)) else k7 ()
def schema_Fits (n : Nat) (a0 : api_Table) (a1 : (Option (List api_Value))) : Option (Bool) := at1 n fun n =>
  bif (((sll a1).length : Int) != ((sll a0.fCols).length : Int)) then some false else (row_Right n a1).bind fun x2 => bif (!x2) then some false else withK (fun k7 => schema_Fits_l4 n a0 a1 k7 n 0) (fun (_ : Unit) => some true)
def ref04_zero (n : Nat) (a0 : Nat) : Option (Bool) := at1 n fun n =>
  bif ((FloatKind.format .f64).order a0 0 == some .eq) then ((FloatKind.format .f64).div 4607182418800017408 a0).bind fun x2 => some ((FloatKind.format .f64).order x2 0 == some .gt) else some false
def ref04_Right (n : Nat) (a0 : api_Value) : Option (Bool) := at1 n fun n =>
  bif (a0.fKind == 0) then bif (a0.fInt == 0) then (ref04_zero n a0.fFloat).bind fun x3 => some (x3 && (sEq a0.fText ByteArray.empty)) else some false else bif (a0.fKind == 1) then bif ((a0.fInt == 0) || (a0.fInt == 1)) then (ref04_zero n a0.fFloat).bind fun x7 => some (x7 && (sEq a0.fText ByteArray.empty)) else some false else bif (a0.fKind == 2) then (ref04_zero n a0.fFloat).bind fun x10 => some (x10 && (sEq a0.fText ByteArray.empty)) else bif (a0.fKind == 3) then some ((a0.fInt == 0) && (sEq a0.fText ByteArray.empty)) else bif (a0.fKind == 4) then bif (a0.fInt == 0) then (ref04_zero n a0.fFloat).bind fun x15 => some (x15 && (decide ((a0.fText.size : Int) ≤ 64))) else some false else some false
def ref06_Fits_l4 (n : Nat) (a0 : api_Table) (a1 : (Option (List api_Value))) (k4 : (Unit → Option (Bool))) : Nat → Int → Option (Bool)
  | 0, _ => none
  | m7 + 1, y6 => bif (decide (y6 < ((sll a1).length : Int))) then (idx (sll a1) y6).bind fun x9 => (ref04_Right n x9).bind fun x11 => bif (!x11) then some false else bif (x9.fKind != 0) then (idx (sll a0.fCols) y6).bind fun x15 => bif (x9.fKind != x15.fKind) then some false else ref06_Fits_l4 n a0 a1 k4 m7 (IntKind.wrap .i64 (y6 + 1)) else ref06_Fits_l4 n a0 a1 k4 m7 (IntKind.wrap .i64 (y6 + 1)) else k4 ()
def ref06_Fits (n : Nat) (a0 : api_Table) (a1 : (Option (List api_Value))) : Option (Bool) := at1 n fun n =>
  bif ((((sll a1).length : Int) != ((sll a0.fCols).length : Int)) || (decide (((sll a1).length : Int) > 200))) then some false else withK (fun k4 => ref06_Fits_l4 n a0 a1 k4 n 0) (fun (_ : Unit) => some true)
def law06_works (n : Nat)  : Option (Bool) := at1 n fun n =>
  (schema_Right n (api_Table.mk (ByteArray.mk #[116]) (some ([(api_Column.mk (ByteArray.mk #[97]) 2), (api_Column.mk (ByteArray.mk #[98]) 4)] : List api_Column)))).bind fun x1 => bif (x1 == 0) then (schema_Right n (api_Table.mk (ByteArray.mk #[116]) (some ([(api_Column.mk (ByteArray.mk #[97]) 2), (api_Column.mk (ByteArray.mk #[97]) 2)] : List api_Column)))).bind fun x4 => bif (x4 == 41) then (schema_Right n (api_Table.mk (ByteArray.mk #[116]) none)).bind fun x7 => some (x7 == 2) else some false else some false
def law06_SchemaAsks (n : Nat) (a0 : api_Table) (a1 : ByteArray) (a2 : (Option (List api_Value))) : Option (Bool) := at1 n fun n =>
  (law06_great n a0).bind fun x1 => bif ((x1 || (decide ((a1.size : Int) > 500))) || (decide (((sll a2).length : Int) > 300))) then some true else (schema_Name n a1).bind fun x4 => (ref06_Name n a1).bind fun x6 => bif (x4 == x6) then (schema_Right n a0).bind fun x9 => (ref06_Right n a0).bind fun x11 => bif (x9 == x11) then (schema_Column n a0 a1).bind fun x14 => (ref06_Column n (api_Table.mk a0.fName a0.fCols) a1).bind fun x16 => bif (x14 == x16) then (schema_Fits n a0 a2).bind fun x19 => (ref06_Fits n (api_Table.mk a0.fName a0.fCols) a2).bind fun x21 => bif (x19 == x21) then (law06_works n).bind fun x24 => some x24 else some false else some false else some false else some false
def codec_Read (n : Nat) (a0 : (Option (List Int))) : Option (Unit) := at1 n fun n =>
  some ()
def codec_Reader_ready (n : Nat) (a0 : codec_Reader) : Option (Unit) := at1 n fun n =>
  some ()
def codec_Reader_fail (n : Nat) (a0 : codec_Reader) (a1 : Int) : Option (Unit) := at1 n fun n =>
  some ()
def codec_Reader_take (n : Nat) (a0 : codec_Reader) (a1 : Int) : Option ((Option (List Int)) × Int × (Option (List Int)) × Bool) := at1 n fun n =>
  bif (decide (a1 > ((sll a0.fb).length : Int))) then (codec_Reader_fail n a0 21).bind fun _ => some (none, 21, none, false) else (ckB 0 a1 ((sll a0.fb).length : Int)).bind fun _ => (ckB a1 ((sll a0.fb).length : Int) ((sll a0.fb).length : Int)).bind fun _ => some ((subSl a0.fb a1 ((sll a0.fb).length : Int)), a0.fe, (subSl a0.fb 0 a1), true)
def codec_Reader_number_l4 (n : Nat)  : Nat → Bool → (Option (List Int)) → Int → Int → Int → Option (Bool × (Option (List Int)) × Int × Int × Bool)
  | 0, _, _, _, _, _ => none
  | m15 + 1, y10, y11, y12, y13, y14 => bif (y14 == 10) then (codec_Reader_fail n (codec_Reader.mk y10 y11 y12) 22).bind fun _ => some (((codec_Reader.mk y10 y11 y12).fmade), none, 22, 0, false) else (codec_Reader_take n (codec_Reader.mk y10 y11 y12) 1).bind fun (x19, x20, x21, x22) => bif (!x22) then some (((codec_Reader.mk y10 y11 y12).fmade), x19, x20, 0, false) else (idx (sll x21) 0).bind fun x24 => bif (((y14 == 9) && (decide (x24 > 1))) || ((decide (y14 > 0)) && (x24 == 0))) then (codec_Reader_fail n (codec_Reader.mk ((codec_Reader.mk y10 y11 y12).fmade) x19 x20) 22).bind fun _ => some (((codec_Reader.mk ((codec_Reader.mk y10 y11 y12).fmade) x19 x20).fmade), none, 22, 0, false) else (ckN (IntKind.wrap .u64 (IntKind.wrap .i64 (7 * y14)))).bind fun _ => bif (decide (x24 < 128)) then some (((codec_Reader.mk y10 y11 y12).fmade), x19, x20, (iOr .u64 y13 (iShl .u64 (IntKind.wrap .u64 (iAnd .u8 x24 127)) (IntKind.wrap .u64 (IntKind.wrap .i64 (7 * y14))))), true) else codec_Reader_number_l4 n m15 ((codec_Reader.mk y10 y11 y12).fmade) x19 x20 (iOr .u64 y13 (iShl .u64 (IntKind.wrap .u64 (iAnd .u8 x24 127)) (IntKind.wrap .u64 (IntKind.wrap .i64 (7 * y14))))) (IntKind.wrap .i64 (y14 + 1))
def codec_Reader_number (n : Nat) (a0 : codec_Reader) : Option (Bool × (Option (List Int)) × Int × Int × Bool) := at1 n fun n =>
  codec_Reader_number_l4 n n a0.fmade a0.fb a0.fe 0 0
def codec_Reader_Uint (n : Nat) (a0 : codec_Reader) (a1 : Int) : Option (Bool × (Option (List Int)) × Int × Int) := at1 n fun n =>
  (codec_Reader_ready n a0).bind fun _ => bif (!(a0.fmade && (a0.fe == 0))) then some (a0.fmade, a0.fb, a0.fe, 0) else (codec_Reader_number n a0).bind fun (x4, x5, x6, x7, x8) => bif (x8 && (decide (x7 > a1))) then (codec_Reader_fail n (codec_Reader.mk x4 x5 x6) 3).bind fun _ => some (((codec_Reader.mk x4 x5 x6).fmade), none, 3, 0) else some (x4, x5, x6, x7)
def codec_Reader_Text (n : Nat) (a0 : codec_Reader) (a1 : Int) : Option (Bool × (Option (List Int)) × Int × ByteArray) := at1 n fun n =>
  (codec_Reader_Uint n a0 (IntKind.wrap .u64 (if 0 > a1 then 0 else a1))).bind fun (x2, x3, x4, x5) => (codec_Reader_ready n (codec_Reader.mk x2 x3 x4)).bind fun _ => bif (!((codec_Reader.mk x2 x3 x4).fmade && ((codec_Reader.mk x2 x3 x4).fe == 0))) then some (x2, x3, x4, ByteArray.empty) else (codec_Reader_take n (codec_Reader.mk x2 x3 x4) (IntKind.wrap .i64 x5)).bind fun (x9, x10, x11, x12) => some (((codec_Reader.mk x2 x3 x4).fmade), x9, x10, (strOf (sll x11)))
def codec_Reader_Fixed_l6 (n : Nat) (x6 : (Option (List Int))) (k11 : (Int → Option ((Option (List Int)) × Int × Int))) : Nat → Int → Int → Option ((Option (List Int)) × Int × Int)
  | 0, _, _ => none
  | m16 + 1, y14, y15 => bif (decide (y14 < ((sll x6).length : Int))) then (idx (sll x6) y14).bind fun x18 => codec_Reader_Fixed_l6 n x6 k11 m16 (IntKind.wrap .i64 (y14 + 1)) (iOr .u64 (iShl .u64 y15 8) (IntKind.wrap .u64 x18)) else k11 y15
def codec_Reader_Fixed (n : Nat) (a0 : codec_Reader) (a1 : Int) : Option ((Option (List Int)) × Int × Int) := at1 n fun n =>
  (codec_Reader_ready n a0).bind fun _ => bif (!(a0.fmade && (a0.fe == 0))) then some (a0.fb, a0.fe, 0) else (codec_Reader_take n a0 (if 8 < (if 0 > a1 then 0 else a1) then 8 else (if 0 > a1 then 0 else a1))).bind fun (x4, x5, x6, x7) => withK (fun k11 => codec_Reader_Fixed_l6 n x6 k11 n 0 0) (fun (y10 : Int) => some (x4, x5, y10))
def codec_Reader_Byte (n : Nat) (a0 : codec_Reader) : Option ((Option (List Int)) × Int × Int) := at1 n fun n =>
  (codec_Reader_Fixed n a0 1).bind fun (x2, x3, x4) => some (x2, x3, (IntKind.wrap .u8 x4))
def codec_Reader_Err (n : Nat) (a0 : codec_Reader) : Option (Int) := at1 n fun n =>
  bif (!a0.fmade) then some 1 else some a0.fe
def schema_Take_l3 (n : Nat) (k13 : (Bool → (Option (List Int)) → Int → (Option (List api_Column)) → Option (Bool × (Option (List Int)) × Int × ByteArray × (Option (List api_Column)) × Int))) (x36 : Int) : Nat → Bool → (Option (List Int)) → Int → (Option (List api_Column)) → Int → Option (Bool × (Option (List Int)) × Int × ByteArray × (Option (List api_Column)) × Int)
  | 0, _, _, _, _, _ => none
  | m48 + 1, y43, y44, y45, none, y47 => bif (decide (y47 < x36)) then (codec_Reader_Text n (codec_Reader.mk y43 y44 y45) 20).bind fun (x51, x52, x53, x54) => (codec_Reader_Byte n (codec_Reader.mk x51 x52 x53)).bind fun (x56, x57, x58) => (ckA 24 ([(api_Column.mk x54 (IntKind.wrap .i64 x58))] : List api_Column).length).bind fun _ => schema_Take_l3 n k13 x36 m48 ((codec_Reader.mk x51 x52 x53).fmade) x56 x57 (some ([(api_Column.mk x54 (IntKind.wrap .i64 x58))] : List api_Column)) (IntKind.wrap .u64 (y47 + 1)) else k13 y43 y44 y45 none
  | m48 + 1, y43, y44, y45, (some y46), y47 => bif (decide (y47 < x36)) then (codec_Reader_Text n (codec_Reader.mk y43 y44 y45) 20).bind fun (x62, x63, x64, x65) => (codec_Reader_Byte n (codec_Reader.mk x62 x63 x64)).bind fun (x67, x68, x69) => (ckA 24 (y46 ++ ([(api_Column.mk x65 (IntKind.wrap .i64 x69))] : List api_Column)).length).bind fun _ => schema_Take_l3 n k13 x36 m48 ((codec_Reader.mk x62 x63 x64).fmade) x67 x68 (some (y46 ++ ([(api_Column.mk x65 (IntKind.wrap .i64 x69))] : List api_Column))) (IntKind.wrap .u64 (y47 + 1)) else k13 y43 y44 y45 (some y46)
def schema_Take (n : Nat) (a0 : codec_Reader) : Option (Bool × (Option (List Int)) × Int × ByteArray × (Option (List api_Column)) × Int) := at1 n fun n =>
  (codec_Reader_Text n a0 20).bind fun (x2, x3, x4, x5) => withK (fun k13 => (codec_Reader_Uint n (codec_Reader.mk x2 x3 x4) 8).bind fun (x33, x34, x35, x36) => schema_Take_l3 n k13 x36 n x33 x34 x35 none 0) (fun | y6, y7, y8, none => (codec_Reader_Err n (codec_Reader.mk y6 y7 y8)).bind fun x15 => withK (fun k18 => bif (x15 == 0) then (schema_Right n (api_Table.mk x5 none)).bind fun x21 => k18 x21 else k18 x15) (fun (y17 : Int) => bif (y17 != 0) then some (y6, y7, y8, ByteArray.empty, none, y17) else some (y6, y7, y8, x5, none, 0)) | y6, y7, y8, (some y9) => (codec_Reader_Err n (codec_Reader.mk y6 y7 y8)).bind fun x24 => withK (fun k27 => bif (x24 == 0) then (schema_Right n (api_Table.mk x5 (some y9))).bind fun x30 => k27 x30 else k27 x24) (fun (y26 : Int) => bif (y26 != 0) then some (y6, y7, y8, ByteArray.empty, none, y26) else some (y6, y7, y8, x5, (some y9), 0)))
def slices_Equal_Column_l4 (n : Nat) (a0 : (Option (List api_Column))) (a1 : (Option (List api_Column))) (k4 : (Unit → Option (Bool))) : Nat → Int → Option (Bool)
  | 0, _ => none
  | m7 + 1, y6 => bif (decide (y6 < ((sll a0).length : Int))) then (idx (sll a0) y6).bind fun x9 => (idx (sll a1) y6).bind fun x11 => bif (!((x9.fName == x11.fName) && ((x9.fKind == x11.fKind) && true))) then some false else slices_Equal_Column_l4 n a0 a1 k4 m7 (IntKind.wrap .i64 (y6 + 1)) else k4 ()
def slices_Equal_Column (n : Nat) (a0 : (Option (List api_Column))) (a1 : (Option (List api_Column))) : Option (Bool) := at1 n fun n =>
  bif (((sll a0).length : Int) != ((sll a1).length : Int)) then some false else withK (fun k4 => slices_Equal_Column_l4 n a0 a1 k4 n 0) (fun (_ : Unit) => some true)
def schema_Same (n : Nat) (a0 : api_Table) (a1 : api_Table) : Option (Bool) := at1 n fun n =>
  bif (sEq a0.fName a1.fName) then (slices_Equal_Column n a0.fCols a1.fCols).bind fun x2 => some x2 else some false
def codec_Reader_Left (n : Nat) (a0 : codec_Reader) : Option (Int) := at1 n fun n =>
  (codec_Reader_ready n a0).bind fun _ => bif (!(a0.fmade && (a0.fe == 0))) then some 0 else some ((sll a0.fb).length : Int)
def codec_PutUint_nil_l1 (n : Nat) (k4 : ((Option (List Int)) → Int → Option ((List Int)))) : Nat → (Option (List Int)) → Int → Option ((List Int))
  | 0, _, _ => none
  | m12 + 1, none, y11 => bif (decide (y11 ≥ 128)) then (ckA 1 ([(iOr .u8 (IntKind.wrap .u8 y11) 128)] : List Int).length).bind fun _ => codec_PutUint_nil_l1 n k4 m12 (some ([(iOr .u8 (IntKind.wrap .u8 y11) 128)] : List Int)) (iShr .u64 y11 7) else k4 none y11
  | m12 + 1, (some y10), y11 => bif (decide (y11 ≥ 128)) then (ckA 1 (y10 ++ ([(iOr .u8 (IntKind.wrap .u8 y11) 128)] : List Int)).length).bind fun _ => codec_PutUint_nil_l1 n k4 m12 (some (y10 ++ ([(iOr .u8 (IntKind.wrap .u8 y11) 128)] : List Int))) (iShr .u64 y11 7) else k4 (some y10) y11
def codec_PutUint_nil (n : Nat) (a0 : Int) : Option ((List Int)) := at1 n fun n =>
  withK (fun k4 => codec_PutUint_nil_l1 n k4 n none a0) (fun | none, y2 => (ckA 1 ([(IntKind.wrap .u8 y2)] : List Int).length).bind fun _ => some ([(IntKind.wrap .u8 y2)] : List Int) | (some y1), y2 => (ckA 1 (y1 ++ ([(IntKind.wrap .u8 y2)] : List Int)).length).bind fun _ => some (y1 ++ ([(IntKind.wrap .u8 y2)] : List Int)))
def codec_PutText_nil (n : Nat) (a0 : ByteArray) : Option ((List Int)) := at1 n fun n =>
  (codec_PutUint_nil n (IntKind.wrap .u64 (a0.size : Int))).bind fun x2 => bif (bytesL a0).isEmpty then (ckA 1 x2.length).bind fun _ => some x2 else (ckA 1 (x2 ++ (bytesL a0)).length).bind fun _ => some (x2 ++ (bytesL a0))
def codec_PutUint_r_l1 (n : Nat) (k4 : ((List Int) → Int → Option ((List Int)))) : Nat → (List Int) → Int → Option ((List Int))
  | 0, _, _ => none
  | m10 + 1, y8, y9 => bif (decide (y9 ≥ 128)) then (ckA 1 (y8 ++ ([(iOr .u8 (IntKind.wrap .u8 y9) 128)] : List Int)).length).bind fun _ => codec_PutUint_r_l1 n k4 m10 (y8 ++ ([(iOr .u8 (IntKind.wrap .u8 y9) 128)] : List Int)) (iShr .u64 y9 7) else k4 y8 y9
def codec_PutUint_r (n : Nat) (a0 : (List Int)) (a1 : Int) : Option ((List Int)) := at1 n fun n =>
  withK (fun k4 => codec_PutUint_r_l1 n k4 n a0 a1) (fun (y1 : (List Int)) (y2 : Int) => (ckA 1 (y1 ++ ([(IntKind.wrap .u8 y2)] : List Int)).length).bind fun _ => some (y1 ++ ([(IntKind.wrap .u8 y2)] : List Int)))
def codec_PutText_r (n : Nat) (a0 : (List Int)) (a1 : ByteArray) : Option ((List Int)) := at1 n fun n =>
  (codec_PutUint_r n a0 (IntKind.wrap .u64 (a1.size : Int))).bind fun x2 => bif (bytesL a1).isEmpty then (ckA 1 x2.length).bind fun _ => some x2 else (ckA 1 (x2 ++ (bytesL a1)).length).bind fun _ => some (x2 ++ (bytesL a1))
def schema_Put_nil_l4 (n : Nat) (a0 : api_Table) (k8 : ((List Int) → Option ((List Int)))) : Nat → (List Int) → Int → Option ((List Int))
  | 0, _, _ => none
  | m13 + 1, y11, y12 => bif (decide (y12 < ((sll a0.fCols).length : Int))) then (idx (sll a0.fCols) y12).bind fun x15 => (codec_PutText_r n y11 x15.fName).bind fun x18 => (ckA 1 (x18 ++ ([(IntKind.wrap .u8 x15.fKind)] : List Int)).length).bind fun _ => schema_Put_nil_l4 n a0 k8 m13 (x18 ++ ([(IntKind.wrap .u8 x15.fKind)] : List Int)) (IntKind.wrap .i64 (y12 + 1)) else k8 y11
def schema_Put_nil (n : Nat) (a0 : api_Table) : Option ((List Int)) := at1 n fun n =>
  (codec_PutText_nil n a0.fName).bind fun x2 => (codec_PutUint_r n x2 (IntKind.wrap .u64 ((sll a0.fCols).length : Int))).bind fun x4 => withK (fun k8 => schema_Put_nil_l4 n a0 k8 n x4 0) (fun (y5 : (List Int)) => some y5)
def schema_Put_nil_2_l4 (n : Nat) (a0 : (List api_Column)) (k8 : ((List Int) → Option ((List Int)))) : Nat → (List Int) → Int → Option ((List Int))
  | 0, _, _ => none
  | m13 + 1, y11, y12 => bif (decide (y12 < ((a0.length : Nat) : Int))) then (idx a0 y12).bind fun x15 => (codec_PutText_r n y11 x15.fName).bind fun x18 => (ckA 1 (x18 ++ ([(IntKind.wrap .u8 x15.fKind)] : List Int)).length).bind fun _ => schema_Put_nil_2_l4 n a0 k8 m13 (x18 ++ ([(IntKind.wrap .u8 x15.fKind)] : List Int)) (IntKind.wrap .i64 (y12 + 1)) else k8 y11
def schema_Put_nil_2 (n : Nat) (a0 : (List api_Column)) (a1 : ByteArray) : Option ((List Int)) := at1 n fun n =>
  (codec_PutText_nil n a1).bind fun x2 => (codec_PutUint_r n x2 (IntKind.wrap .u64 ((a0.length : Nat) : Int))).bind fun x4 => withK (fun k8 => schema_Put_nil_2_l4 n a0 k8 n x4 0) (fun (y5 : (List Int)) => some y5)
def law06_SchemaOne (n : Nat) (a0 : (Option (List Int))) : Option (Bool) := at1 n fun n =>
  (law06_works n).bind fun x1 => bif (!x1) then some false else bif (decide (((sll a0).length : Int) > 2000)) then some true else (codec_Read n a0).bind fun _ => withK (fun k12 => (schema_Take n (codec_Reader.mk true a0 0)).bind fun | (x38, x39, x40, x41, none, x43) => k12 x38 x39 x40 x41 none x43 | (x38, x39, x40, x41, some x42, x43) => k12 x38 x39 x40 x41 (some x42) x43) (fun | y6, y7, y8, y9, none, y11 => bif (y11 != 0) then (schema_Same n (api_Table.mk y9 none) (api_Table.mk ByteArray.empty none)).bind fun x14 => some x14 else (codec_Reader_Left n (codec_Reader.mk y6 y7 y8)).bind fun x17 => (schema_Right n (api_Table.mk y9 none)).bind fun x18 => bif (x18 == 0) then bif (decide ((IntKind.wrap .i64 (((sll a0).length : Int) - x17)) ≥ 0)) then (schema_Put_nil n (api_Table.mk y9 none)).bind fun x23 => (ckB 0 (IntKind.wrap .i64 (((sll a0).length : Int) - x17)) ((sll a0).length : Int)).bind fun _ => some (sEq (strOf x23) (strOf (sll (subSl a0 0 (IntKind.wrap .i64 (((sll a0).length : Int) - x17)))))) else some false else some false | y6, y7, y8, y9, (some y10), y11 => bif (y11 != 0) then (schema_Same n (api_Table.mk y9 (some y10)) (api_Table.mk ByteArray.empty none)).bind fun x26 => some x26 else (codec_Reader_Left n (codec_Reader.mk y6 y7 y8)).bind fun x29 => (schema_Right n (api_Table.mk y9 (some y10))).bind fun x30 => bif (x30 == 0) then bif (decide ((IntKind.wrap .i64 (((sll a0).length : Int) - x29)) ≥ 0)) then (schema_Put_nil_2 n y10 y9).bind fun x35 => (ckB 0 (IntKind.wrap .i64 (((sll a0).length : Int) - x29)) ((sll a0).length : Int)).bind fun _ => some (sEq (strOf x35) (strOf (sll (subSl a0 0 (IntKind.wrap .i64 (((sll a0).length : Int) - x29)))))) else some false else some false)
def law06_SchemaBack_l10 (n : Nat) (a0 : api_Table) (k30 : (Unit → Option (Bool))) : Nat → Int → Option (Bool)
  | 0, _ => none
  | m40 + 1, y39 => bif (decide (y39 < ((sll a0.fCols).length : Int))) then (idx (sll a0.fCols) y39).bind fun x42 => (schema_Column n a0 x42.fName).bind fun x44 => bif (x44 != y39) then some false else (schema_Name n x42.fName).bind fun x47 => bif (!x47) then some false else law06_SchemaBack_l10 n a0 k30 m40 (IntKind.wrap .i64 (y39 + 1)) else k30 ()
def law06_SchemaBack_l10x (n : Nat) (a0 : api_Table) (k59 : (Unit → Option (Bool))) : Nat → Int → Option (Bool)
  | 0, _ => none
  | m69 + 1, y68 => bif (decide (y68 < ((sll a0.fCols).length : Int))) then (idx (sll a0.fCols) y68).bind fun x71 => (schema_Column n a0 x71.fName).bind fun x73 => bif (x73 != y68) then some false else (schema_Name n x71.fName).bind fun x76 => bif (!x76) then some false else law06_SchemaBack_l10x n a0 k59 m69 (IntKind.wrap .i64 (y68 + 1)) else k59 ()
def law06_SchemaBack (n : Nat) (a0 : api_Table) (a1 : (Option (List Int))) : Option (Bool) := at1 n fun n =>
  (law06_works n).bind fun x1 => bif (!x1) then some false else (law06_great n a0).bind fun x4 => bif (x4 || (decide (((sll a1).length : Int) > 2000))) then some true else (schema_Right n a0).bind fun x7 => bif (x7 != 0) then some true else withK (fun k13 => (schema_Put_nil n (api_Table.mk a0.fName a0.fCols)).bind fun x88 => bif (sll a1).isEmpty then (ckA 1 x88.length).bind fun _ => (codec_Read n (some x88)).bind fun _ => k13 (some x88) else (ckA 1 (x88 ++ (sll a1)).length).bind fun _ => (codec_Read n (some (x88 ++ (sll a1)))).bind fun _ => k13 (some (x88 ++ (sll a1)))) (fun (y11 : (Option (List Int))) => withK (fun k20 => (schema_Take n (codec_Reader.mk true y11 0)).bind fun | (x80, x81, x82, x83, none, x85) => k20 x80 x81 x82 x83 none x85 | (x80, x81, x82, x83, some x84, x85) => k20 x80 x81 x82 x83 (some x84) x85) (fun | y14, y15, y16, y17, none, y19 => bif (y19 != 0) then some false else (schema_Same n (api_Table.mk y17 none) a0).bind fun x22 => bif (!x22) then some false else (codec_Reader_Left n (codec_Reader.mk y14 y15 y16)).bind fun x26 => bif (x26 != ((sll a1).length : Int)) then some false else withK (fun k30 => law06_SchemaBack_l10 n a0 k30 n 0) (fun (_ : Unit) => (ckM 40 ((sll a0.fCols).length : Int) ((sll a0.fCols).length : Int)).bind fun _ => (schema_Fits n a0 (some (List.replicate (Int.toNat ((sll a0.fCols).length : Int)) (api_Value.mk 0 0 0 ByteArray.empty)))).bind fun x32 => bif x32 then (ckM 40 (IntKind.wrap .i64 (((sll a0.fCols).length : Int) + 1)) (IntKind.wrap .i64 (((sll a0.fCols).length : Int) + 1))).bind fun _ => (schema_Fits n a0 (some (List.replicate (Int.toNat (IntKind.wrap .i64 (((sll a0.fCols).length : Int) + 1))) (api_Value.mk 0 0 0 ByteArray.empty)))).bind fun x36 => some (!x36) else some false) | y14, y15, y16, y17, (some y18), y19 => bif (y19 != 0) then some false else (schema_Same n (api_Table.mk y17 (some y18)) a0).bind fun x51 => bif (!x51) then some false else (codec_Reader_Left n (codec_Reader.mk y14 y15 y16)).bind fun x55 => bif (x55 != ((sll a1).length : Int)) then some false else withK (fun k59 => law06_SchemaBack_l10x n a0 k59 n 0) (fun (_ : Unit) => (ckM 40 ((sll a0.fCols).length : Int) ((sll a0.fCols).length : Int)).bind fun _ => (schema_Fits n a0 (some (List.replicate (Int.toNat ((sll a0.fCols).length : Int)) (api_Value.mk 0 0 0 ByteArray.empty)))).bind fun x61 => bif x61 then (ckM 40 (IntKind.wrap .i64 (((sll a0.fCols).length : Int) + 1)) (IntKind.wrap .i64 (((sll a0.fCols).length : Int) + 1))).bind fun _ => (schema_Fits n a0 (some (List.replicate (Int.toNat (IntKind.wrap .i64 (((sll a0.fCols).length : Int) + 1))) (api_Value.mk 0 0 0 ByteArray.empty)))).bind fun x65 => some (!x65) else some false)))
end Go.Pl
