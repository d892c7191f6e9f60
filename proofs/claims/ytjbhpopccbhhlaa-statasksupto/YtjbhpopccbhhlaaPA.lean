import Derived.Test.YtjbhpopccbhhlaaAbRow
import Derived.Test.YtjbhpopccbhhlaaAbArr
namespace Go.Pl
open Go Go.Ab
set_option linter.unusedVariables false
structure api_Value where
  fKind : Int
  fInt : Int
  fFloat : Nat
  fText : ByteArray
def R_api_Value (x : api_Value) : List PV := [.int .i64 x.fKind, .int .i64 x.fInt, .flt .f64 x.fFloat, .str x.fText]
def W_api_Value (x : api_Value) : Prop := (wI .i64) x.fKind ∧ (wI .i64) x.fInt ∧ (wF .f64) x.fFloat ∧ wS x.fText
structure tabularyref19_Bucket where
  fLow : api_Value
  fHigh : api_Value
  fCount : Int
  fDistinct : Int
def R_tabularyref19_Bucket (x : tabularyref19_Bucket) : List PV := [.int .i64 x.fLow.fKind, .int .i64 x.fLow.fInt, .flt .f64 x.fLow.fFloat, .str x.fLow.fText, .int .i64 x.fHigh.fKind, .int .i64 x.fHigh.fInt, .flt .f64 x.fHigh.fFloat, .str x.fHigh.fText, .int .i64 x.fCount, .int .i64 x.fDistinct]
def W_tabularyref19_Bucket (x : tabularyref19_Bucket) : Prop := W_api_Value x.fLow ∧ W_api_Value x.fHigh ∧ (wI .i64) x.fCount ∧ (wI .i64) x.fDistinct
structure tabularyref20_Col where
  fKind : Int
  fNulls : Int
  fDistinct : Int
  fHist : (Option (List tabularyref19_Bucket))
  fSample : (Option (List api_Value))
  fSketch : (Nat → Int)
def R_tabularyref20_Col (x : tabularyref20_Col) : List PV := ([.int .i64 x.fKind, .int .i64 x.fNulls, .int .i64 x.fDistinct, encSl R_tabularyref19_Bucket x.fHist, encSl R_api_Value x.fSample] ++ (rA .u8 64 x.fSketch))
def W_tabularyref20_Col (x : tabularyref20_Col) : Prop := (wI .i64) x.fKind ∧ (wI .i64) x.fNulls ∧ (wI .i64) x.fDistinct ∧ (wSl W_tabularyref19_Bucket) x.fHist ∧ (wSl W_api_Value) x.fSample ∧ (wA .u8 64) x.fSketch
structure tabularyref20_Stat where
  fRows : Int
  fCols : (Option (List tabularyref20_Col))
def R_tabularyref20_Stat (x : tabularyref20_Stat) : List PV := [.int .i64 x.fRows, encSl R_tabularyref20_Col x.fCols]
def W_tabularyref20_Stat (x : tabularyref20_Stat) : Prop := (wI .i64) x.fRows ∧ (wSl W_tabularyref20_Col) x.fCols
structure api_Column where
  fName : ByteArray
  fKind : Int
def R_api_Column (x : api_Column) : List PV := [.str x.fName, .int .i64 x.fKind]
def W_api_Column (x : api_Column) : Prop := wS x.fName ∧ (wI .i64) x.fKind
structure api_Table where
  fName : ByteArray
  fCols : (Option (List api_Column))
def R_api_Table (x : api_Table) : List PV := [.str x.fName, encSl R_api_Column x.fCols]
def W_api_Table (x : api_Table) : Prop := wS x.fName ∧ (wSl W_api_Column) x.fCols
structure hist_Bucket where
  fLow : api_Value
  fHigh : api_Value
  fCount : Int
  fDistinct : Int
def R_hist_Bucket (x : hist_Bucket) : List PV := [.int .i64 x.fLow.fKind, .int .i64 x.fLow.fInt, .flt .f64 x.fLow.fFloat, .str x.fLow.fText, .int .i64 x.fHigh.fKind, .int .i64 x.fHigh.fInt, .flt .f64 x.fHigh.fFloat, .str x.fHigh.fText, .int .i64 x.fCount, .int .i64 x.fDistinct]
def W_hist_Bucket (x : hist_Bucket) : Prop := W_api_Value x.fLow ∧ W_api_Value x.fHigh ∧ (wI .i64) x.fCount ∧ (wI .i64) x.fDistinct
structure hll_Sketch where
  fRegs : (Nat → Int)
def W_hll_Sketch (x : hll_Sketch) : Prop := (wA .u8 64) x.fRegs
structure stat_Col where
  fKind : Int
  fNulls : Int
  fDistinct : Int
  fHist : (Option (List hist_Bucket))
  fSample : (Option (List api_Value))
  fSketch : hll_Sketch
def R_stat_Col (x : stat_Col) : List PV := ([.int .i64 x.fKind, .int .i64 x.fNulls, .int .i64 x.fDistinct, encSl R_hist_Bucket x.fHist, encSl R_api_Value x.fSample] ++ (rA .u8 64 x.fSketch.fRegs))
def W_stat_Col (x : stat_Col) : Prop := (wI .i64) x.fKind ∧ (wI .i64) x.fNulls ∧ (wI .i64) x.fDistinct ∧ (wSl W_hist_Bucket) x.fHist ∧ (wSl W_api_Value) x.fSample ∧ W_hll_Sketch x.fSketch
structure stat_Stat where
  fRows : Int
  fCols : (Option (List stat_Col))
def W_stat_Stat (x : stat_Stat) : Prop := (wI .i64) x.fRows ∧ (wSl W_stat_Col) x.fCols
structure codec_Reader where
  fmade : Bool
  fb : (Option (List Int))
  fe : Int
def law20_Great_l4 (n : Nat) (a0 : tabularyref20_Stat) (k4 : (Unit → Option (Bool))) : Nat → Int → Option (Bool)
  | 0, _ => none
  | m7 + 1, y6 => bif (decide (y6 < ((sll a0.fCols).length : Int))) then (idx (sll a0.fCols) y6).bind fun x9 => bif ((decide (((sll x9.fHist).length : Int) > 60)) || (decide (((sll x9.fSample).length : Int) > 70))) then some true else law20_Great_l4 n a0 k4 m7 (IntKind.wrap .i64 (y6 + 1)) else k4 ()
def law20_Great (n : Nat) (a0 : tabularyref20_Stat) : Option (Bool) := at1 n fun n =>
  bif (decide (((sll a0.fCols).length : Int) > 12)) then some true else withK (fun k4 => law20_Great_l4 n a0 k4 n 0) (fun (_ : Unit) => some false)
def law19_Given_l3 (n : Nat) (a0 : (Option (List tabularyref19_Bucket))) (k4 : ((Option (List hist_Bucket)) → Option ((Option (List hist_Bucket))))) : Nat → (Option (List hist_Bucket)) → Int → Option ((Option (List hist_Bucket)))
  | 0, _, _ => none
  | m10 + 1, none, y9 => bif (decide (y9 < ((sll a0).length : Int))) then (idx (sll a0) y9).bind fun x12 => (ckA 96 ([(hist_Bucket.mk x12.fLow x12.fHigh x12.fCount x12.fDistinct)] : List hist_Bucket).length).bind fun _ => law19_Given_l3 n a0 k4 m10 (some ([(hist_Bucket.mk x12.fLow x12.fHigh x12.fCount x12.fDistinct)] : List hist_Bucket)) (IntKind.wrap .i64 (y9 + 1)) else k4 none
  | m10 + 1, (some y8), y9 => bif (decide (y9 < ((sll a0).length : Int))) then (idx (sll a0) y9).bind fun x16 => (ckA 96 (y8 ++ ([(hist_Bucket.mk x16.fLow x16.fHigh x16.fCount x16.fDistinct)] : List hist_Bucket)).length).bind fun _ => law19_Given_l3 n a0 k4 m10 (some (y8 ++ ([(hist_Bucket.mk x16.fLow x16.fHigh x16.fCount x16.fDistinct)] : List hist_Bucket))) (IntKind.wrap .i64 (y9 + 1)) else k4 (some y8)
def law19_Given (n : Nat) (a0 : (Option (List tabularyref19_Bucket))) : Option ((Option (List hist_Bucket))) := at1 n fun n =>
  withK (fun (k4 : (Option (List hist_Bucket)) → Option ((Option (List hist_Bucket)))) => law19_Given_l3 n a0 k4 n none 0) (fun | none => some none | (some y3) => some (some y3))
def law20_Given_l3 (n : Nat) (a0 : tabularyref20_Stat) (k4 : ((Option (List stat_Col)) → Option (stat_Stat))) : Nat → (Option (List stat_Col)) → Int → Option (stat_Stat)
  | 0, _, _ => none
  | m10 + 1, none, y9 => bif (decide (y9 < ((sll a0.fCols).length : Int))) then (idx (sll a0.fCols) y9).bind fun x12 => (law19_Given n x12.fHist).bind fun x14 => bif (sll x12.fSample).isEmpty then (ckA 40 ([] : List api_Value).length).bind fun _ => (ckA 136 ([(stat_Col.mk x12.fKind x12.fNulls x12.fDistinct x14 (some ([] : List api_Value)) (hll_Sketch.mk x12.fSketch))] : List stat_Col).length).bind fun _ => law20_Given_l3 n a0 k4 m10 (some ([(stat_Col.mk x12.fKind x12.fNulls x12.fDistinct x14 (some ([] : List api_Value)) (hll_Sketch.mk x12.fSketch))] : List stat_Col)) (IntKind.wrap .i64 (y9 + 1)) else (ckA 40 (([] : List api_Value) ++ (sll x12.fSample)).length).bind fun _ => (ckA 136 ([(stat_Col.mk x12.fKind x12.fNulls x12.fDistinct x14 (some (([] : List api_Value) ++ (sll x12.fSample))) (hll_Sketch.mk x12.fSketch))] : List stat_Col).length).bind fun _ => law20_Given_l3 n a0 k4 m10 (some ([(stat_Col.mk x12.fKind x12.fNulls x12.fDistinct x14 (some (([] : List api_Value) ++ (sll x12.fSample))) (hll_Sketch.mk x12.fSketch))] : List stat_Col)) (IntKind.wrap .i64 (y9 + 1)) else k4 none
  | m10 + 1, (some y8), y9 => bif (decide (y9 < ((sll a0.fCols).length : Int))) then (idx (sll a0.fCols) y9).bind fun x22 => (law19_Given n x22.fHist).bind fun x24 => bif (sll x22.fSample).isEmpty then (ckA 40 ([] : List api_Value).length).bind fun _ => (ckA 136 (y8 ++ ([(stat_Col.mk x22.fKind x22.fNulls x22.fDistinct x24 (some ([] : List api_Value)) (hll_Sketch.mk x22.fSketch))] : List stat_Col)).length).bind fun _ => law20_Given_l3 n a0 k4 m10 (some (y8 ++ ([(stat_Col.mk x22.fKind x22.fNulls x22.fDistinct x24 (some ([] : List api_Value)) (hll_Sketch.mk x22.fSketch))] : List stat_Col))) (IntKind.wrap .i64 (y9 + 1)) else (ckA 40 (([] : List api_Value) ++ (sll x22.fSample)).length).bind fun _ => (ckA 136 (y8 ++ ([(stat_Col.mk x22.fKind x22.fNulls x22.fDistinct x24 (some (([] : List api_Value) ++ (sll x22.fSample))) (hll_Sketch.mk x22.fSketch))] : List stat_Col)).length).bind fun _ => law20_Given_l3 n a0 k4 m10 (some (y8 ++ ([(stat_Col.mk x22.fKind x22.fNulls x22.fDistinct x24 (some (([] : List api_Value) ++ (sll x22.fSample))) (hll_Sketch.mk x22.fSketch))] : List stat_Col))) (IntKind.wrap .i64 (y9 + 1)) else k4 (some y8)
def law20_Given (n : Nat) (a0 : tabularyref20_Stat) : Option (stat_Stat) := at1 n fun n =>
  withK (fun (k4 : (Option (List stat_Col)) → Option (stat_Stat)) => law20_Given_l3 n a0 k4 n none 0) (fun | none => some (stat_Stat.mk a0.fRows none) | (some y3) => some (stat_Stat.mk a0.fRows (some y3)))
def stat_column_1 (n : Nat) (a0 : Int) (a1 : Int) : Option (Bool) := at1 n fun n =>
  some ((decide (a0 ≥ 0)) && (decide (a0 ≤ a1)))
def math_Signbit (n : Nat) (a0 : Nat) : Option (Bool) := at1 n fun n =>
  some (decide ((IntKind.wrap .i64 (a0 : Int)) < 0))
def value_Right (n : Nat) (a0 : api_Value) : Option (Bool) := at1 n fun n =>
  withK (fun k2 => bif ((FloatKind.format .f64).order a0.fFloat 0 == some .eq) then (math_Signbit n a0.fFloat).bind fun x14 => k2 (!x14) else k2 false) (fun (y1 : Bool) => withK (fun k6 => bif (a0.fKind == 0) then some (((a0.fInt == 0) && y1) && (sEq a0.fText ByteArray.empty)) else bif (a0.fKind == 1) then bif ((a0.fInt != 0) && (a0.fInt != 1)) then some false else k6 () else bif (a0.fKind == 2) then k6 () else bif (a0.fKind == 3) then some ((a0.fInt == 0) && (sEq a0.fText ByteArray.empty)) else bif (a0.fKind == 4) then some (((a0.fInt == 0) && y1) && (decide ((a0.fText.size : Int) ≤ 64))) else some false) (fun (_ : Unit) => some (y1 && (sEq a0.fText ByteArray.empty))))
def hist_plain (n : Nat) (a0 : api_Value) : Option (Bool) := at1 n fun n =>
  (value_Right n a0).bind fun x1 => bif (x1 && (a0.fKind != 0)) then bif ((FloatKind.format .f64).order a0.fFloat 0 != some .eq) then some true else (math_Signbit n a0.fFloat).bind fun x5 => some (!x5) else some false
def math_IsNaN (n : Nat) (a0 : Nat) : Option (Bool) := at1 n fun n =>
  some ((FloatKind.format .f64).order a0 a0 != some .eq)
def value_Plain (n : Nat) (a0 : api_Value) : Option (api_Value) := at1 n fun n =>
  (value_Right n a0).bind fun x1 => bif (!x1) then some (api_Value.mk 0 0 0 ByteArray.empty) else withK (fun k5 => bif (a0.fKind == 3) then (math_IsNaN n a0.fFloat).bind fun x9 => k5 x9 else k5 false) (fun (y4 : Bool) => bif y4 then some (api_Value.mk a0.fKind a0.fInt (Int.toNat 9221120237041090561) a0.fText) else bif ((a0.fKind == 3) && ((FloatKind.format .f64).order a0.fFloat 0 == some .eq)) then some (api_Value.mk a0.fKind a0.fInt 0 a0.fText) else some a0)
def cmp_isNaN_int (n : Nat) (a0 : Int) : Option (Bool) := at1 n fun n =>
  some (a0 != a0)
def cmp_Compare_int (n : Nat) (a0 : Int) (a1 : Int) : Option (Int) := at1 n fun n =>
  (cmp_isNaN_int n a0).bind fun x1 => (cmp_isNaN_int n a1).bind fun x3 => bif x1 then bif x3 then some 0 else some (-1) else bif x3 then some 1 else bif (decide (a0 < a1)) then some (-1) else bif (decide (a0 > a1)) then some 1 else some 0
def value_floats (n : Nat) (a0 : Nat) (a1 : Nat) : Option (Int) := at1 n fun n =>
  (math_IsNaN n a0).bind fun x1 => (math_IsNaN n a1).bind fun x3 => bif (x1 && x3) then some 0 else bif x1 then some 1 else bif x3 then some (-1) else bif ((FloatKind.format .f64).order a0 a1 == some .lt) then some (-1) else bif ((FloatKind.format .f64).order a0 a1 == some .gt) then some 1 else some 0
def cmp_isNaN_string (n : Nat) (a0 : ByteArray) : Option (Bool) := at1 n fun n =>
  some (!(sEq a0 a0))
def cmp_Compare_string (n : Nat) (a0 : ByteArray) (a1 : ByteArray) : Option (Int) := at1 n fun n =>
  (cmp_isNaN_string n a0).bind fun x1 => (cmp_isNaN_string n a1).bind fun x3 => bif x1 then bif x3 then some 0 else some (-1) else bif x3 then some 1 else bif (sLt a0 a1) then some (-1) else bif (!(sLt a0 a1 || sEq a0 a1)) then some 1 else some 0
def cmp_isNaN_int64 (n : Nat) (a0 : Int) : Option (Bool) := at1 n fun n =>
  some (a0 != a0)
def cmp_Compare_int64 (n : Nat) (a0 : Int) (a1 : Int) : Option (Int) := at1 n fun n =>
  (cmp_isNaN_int64 n a0).bind fun x1 => (cmp_isNaN_int64 n a1).bind fun x3 => bif x1 then bif x3 then some 0 else some (-1) else bif x3 then some 1 else bif (decide (a0 < a1)) then some (-1) else bif (decide (a0 > a1)) then some 1 else some 0
def value_Cmp (n : Nat) (a0 : api_Value) (a1 : api_Value) : Option (Int) := at1 n fun n =>
  (value_Plain n a0).bind fun x1 => (value_Plain n a1).bind fun x3 => bif (x1.fKind != x3.fKind) then (cmp_Compare_int n x1.fKind x3.fKind).bind fun x6 => some x6 else bif (x1.fKind == 3) then (value_floats n x1.fFloat x3.fFloat).bind fun x9 => some x9 else bif (x1.fKind == 4) then (cmp_Compare_string n x1.fText x3.fText).bind fun x12 => some x12 else (cmp_Compare_int64 n x1.fInt x3.fInt).bind fun x14 => some x14
def hist_sound (n : Nat) (a0 : hist_Bucket) : Option (Bool) := at1 n fun n =>
  (hist_plain n a0.fLow).bind fun x1 => bif (!x1) then some false else (hist_plain n a0.fHigh).bind fun x4 => bif ((!x4) || (a0.fLow.fKind != a0.fHigh.fKind)) then some false else (value_Cmp n a0.fLow a0.fHigh).bind fun x7 => some ((((((decide (x7 ≤ 0)) && (decide (a0.fCount ≥ 1))) && (decide (a0.fCount ≤ 1000000))) && (decide (a0.fDistinct ≥ 1))) && (decide (a0.fDistinct ≤ a0.fCount))) && ((x7 == 0) == (a0.fDistinct == 1)))
def hist_Right_l4 (n : Nat) (a0 : (Option (List hist_Bucket))) (k4 : (Unit → Option (Bool))) : Nat → Int → Option (Bool)
  | 0, _ => none
  | m7 + 1, y6 => bif (decide (y6 < ((sll a0).length : Int))) then (idx (sll a0) y6).bind fun x9 => (hist_sound n x9).bind fun x11 => bif (!x11) then some false else bif (decide (y6 > 0)) then (idx (sll a0) 0).bind fun x15 => bif (x9.fLow.fKind != x15.fLow.fKind) then some false else (idx (sll a0) (IntKind.wrap .i64 (y6 - 1))).bind fun x18 => (value_Cmp n x18.fHigh x9.fLow).bind fun x20 => bif (decide (x20 ≥ 0)) then some false else hist_Right_l4 n a0 k4 m7 (IntKind.wrap .i64 (y6 + 1)) else hist_Right_l4 n a0 k4 m7 (IntKind.wrap .i64 (y6 + 1)) else k4 ()
def hist_Right (n : Nat) (a0 : (Option (List hist_Bucket))) : Option (Bool) := at1 n fun n =>
  bif (decide (((sll a0).length : Int) > 50)) then some false else withK (fun k4 => hist_Right_l4 n a0 k4 n 0) (fun (_ : Unit) => some true)
def hll_Right_l2 (n : Nat) (a0 : hll_Sketch) (k3 : (Unit → Option (Bool))) : Nat → Int → Option (Bool)
  | 0, _ => none
  | m6 + 1, y5 => bif (decide (y5 < 64)) then (ckI 64 y5).bind fun _ => bif (decide ((a0.fRegs (Int.toNat y5)) > 59)) then some false else hll_Right_l2 n a0 k3 m6 (IntKind.wrap .i64 (y5 + 1)) else k3 ()
def hll_Right (n : Nat) (a0 : hll_Sketch) : Option (Bool) := at1 n fun n =>
  withK (fun k3 => hll_Right_l2 n a0 k3 n 0) (fun (_ : Unit) => some true)
def stat_column_2 (n : Nat) (a0 : api_Value) (a1 : Int) (a2 : Int) (a3 : Int) (a4 : (Option (List hist_Bucket))) (a5 : (Option (List api_Value))) (a6 : (Nat → Int)) : Option (Bool) := at1 n fun n =>
  (value_Right n a0).bind fun x1 => some ((!x1) || ((a0.fKind != 0) && (a0.fKind != a1)))
def slices_IndexFunc_Value_stat_column_2_l2 (n : Nat) (a0 : (Option (List api_Value))) (a1 : Int) (a2 : Int) (a3 : Int) (a4 : (Option (List hist_Bucket))) (a5 : (Option (List api_Value))) (a6 : (Nat → Int)) (k3 : (Unit → Option (Int))) : Nat → Int → Option (Int)
  | 0, _ => none
  | m6 + 1, y5 => bif (decide (y5 < ((sll a0).length : Int))) then (idx (sll a0) y5).bind fun x8 => (stat_column_2 n x8 a1 a2 a3 a4 a5 a6).bind fun x10 => bif x10 then some y5 else slices_IndexFunc_Value_stat_column_2_l2 n a0 a1 a2 a3 a4 a5 a6 k3 m6 (IntKind.wrap .i64 (y5 + 1)) else k3 ()
def slices_IndexFunc_Value_stat_column_2 (n : Nat) (a0 : (Option (List api_Value))) (a1 : Int) (a2 : Int) (a3 : Int) (a4 : (Option (List hist_Bucket))) (a5 : (Option (List api_Value))) (a6 : (Nat → Int)) : Option (Int) := at1 n fun n =>
  withK (fun k3 => slices_IndexFunc_Value_stat_column_2_l2 n a0 a1 a2 a3 a4 a5 a6 k3 n 0) (fun (_ : Unit) => some (-1))
def slices_ContainsFunc_Value_stat_column_2 (n : Nat) (a0 : (Option (List api_Value))) (a1 : Int) (a2 : Int) (a3 : Int) (a4 : (Option (List hist_Bucket))) (a5 : (Option (List api_Value))) (a6 : (Nat → Int)) : Option (Bool) := at1 n fun n =>
  (slices_IndexFunc_Value_stat_column_2 n a0 a1 a2 a3 a4 a5 a6).bind fun x1 => some (decide (x1 ≥ 0))
def stat_column (n : Nat) (a0 : stat_Col) (a1 : Int) : Option (Bool) := at1 n fun n =>
  withK (fun k2 => bif ((decide (a0.fKind < 1)) || (decide (a0.fKind > 4))) then k2 true else (stat_column_1 n a0.fNulls a1).bind fun x20 => bif (!x20) then k2 true else (stat_column_1 n a0.fDistinct a1).bind fun x23 => k2 (!x23)) (fun (y1 : Bool) => bif y1 then some false else withK (fun k5 => (hist_Right n a0.fHist).bind fun x13 => bif (!x13) then k5 true else bif (decide (((sll a0.fHist).length : Int) > 0)) then (idx (sll a0.fHist) 0).bind fun x17 => k5 (x17.fLow.fKind != a0.fKind) else k5 false) (fun (y4 : Bool) => bif y4 then some false else bif (decide (((sll a0.fSample).length : Int) > 60)) then some false else (hll_Right n a0.fSketch).bind fun x8 => bif (!x8) then some false else (slices_ContainsFunc_Value_stat_column_2 n a0.fSample a0.fKind a0.fNulls a0.fDistinct a0.fHist a0.fSample a0.fSketch.fRegs).bind fun x11 => some (!x11)))
def stat_Right_1 (n : Nat) (a0 : stat_Col) (a1 : Int) (a2 : (Option (List stat_Col))) : Option (Bool) := at1 n fun n =>
  (stat_column n a0 a1).bind fun x1 => some (!x1)
def slices_IndexFunc_Col_stat_Right_1_l2 (n : Nat) (a0 : (Option (List stat_Col))) (a1 : Int) (a2 : (Option (List stat_Col))) (k3 : (Unit → Option (Int))) : Nat → Int → Option (Int)
  | 0, _ => none
  | m6 + 1, y5 => bif (decide (y5 < ((sll a0).length : Int))) then (idx (sll a0) y5).bind fun x8 => (stat_Right_1 n x8 a1 a2).bind fun x10 => bif x10 then some y5 else slices_IndexFunc_Col_stat_Right_1_l2 n a0 a1 a2 k3 m6 (IntKind.wrap .i64 (y5 + 1)) else k3 ()
def slices_IndexFunc_Col_stat_Right_1 (n : Nat) (a0 : (Option (List stat_Col))) (a1 : Int) (a2 : (Option (List stat_Col))) : Option (Int) := at1 n fun n =>
  withK (fun k3 => slices_IndexFunc_Col_stat_Right_1_l2 n a0 a1 a2 k3 n 0) (fun (_ : Unit) => some (-1))
def slices_ContainsFunc_Col_stat_Right_1 (n : Nat) (a0 : (Option (List stat_Col))) (a1 : Int) (a2 : (Option (List stat_Col))) : Option (Bool) := at1 n fun n =>
  (slices_IndexFunc_Col_stat_Right_1 n a0 a1 a2).bind fun x1 => some (decide (x1 ≥ 0))
def stat_Right (n : Nat) (a0 : stat_Stat) : Option (Bool) := at1 n fun n =>
  bif ((((decide (a0.fRows < 0)) || (decide (a0.fRows > 1000000))) || (decide (((sll a0.fCols).length : Int) < 1))) || (decide (((sll a0.fCols).length : Int) > 8))) then some false else (slices_ContainsFunc_Col_stat_Right_1 n a0.fCols a0.fRows a0.fCols).bind fun x2 => some (!x2)
def ref04_zero (n : Nat) (a0 : Nat) : Option (Bool) := at1 n fun n =>
  bif ((FloatKind.format .f64).order a0 0 == some .eq) then ((FloatKind.format .f64).div 4607182418800017408 a0).bind fun x2 => some ((FloatKind.format .f64).order x2 0 == some .gt) else some false
def ref04_Right (n : Nat) (a0 : api_Value) : Option (Bool) := at1 n fun n =>
  bif (a0.fKind == 0) then bif (a0.fInt == 0) then (ref04_zero n a0.fFloat).bind fun x3 => some (x3 && (sEq a0.fText ByteArray.empty)) else some false else bif (a0.fKind == 1) then bif ((a0.fInt == 0) || (a0.fInt == 1)) then (ref04_zero n a0.fFloat).bind fun x7 => some (x7 && (sEq a0.fText ByteArray.empty)) else some false else bif (a0.fKind == 2) then (ref04_zero n a0.fFloat).bind fun x10 => some (x10 && (sEq a0.fText ByteArray.empty)) else bif (a0.fKind == 3) then some ((a0.fInt == 0) && (sEq a0.fText ByteArray.empty)) else bif (a0.fKind == 4) then bif (a0.fInt == 0) then (ref04_zero n a0.fFloat).bind fun x15 => some (x15 && (decide ((a0.fText.size : Int) ≤ 64))) else some false else some false
def ref19_plain (n : Nat) (a0 : api_Value) : Option (Bool) := at1 n fun n =>
  (ref04_Right n a0).bind fun x1 => bif (x1 && (a0.fKind != 0)) then bif ((FloatKind.format .f64).order a0.fFloat 0 != some .eq) then some true else ((FloatKind.format .f64).div 4607182418800017408 a0.fFloat).bind fun x5 => some ((FloatKind.format .f64).order x5 0 == some .gt) else some false
def ref04_Plain (n : Nat) (a0 : api_Value) : Option (api_Value) := at1 n fun n =>
  (ref04_Right n a0).bind fun x1 => bif (!x1) then some (api_Value.mk 0 0 0 ByteArray.empty) else bif ((a0.fKind == 3) && ((FloatKind.format .f64).order a0.fFloat 0 == some .eq)) then some (api_Value.mk 3 0 0 ByteArray.empty) else some a0
def ref04_Cmp (n : Nat) (a0 : api_Value) (a1 : api_Value) : Option (Int) := at1 n fun n =>
  (ref04_Plain n a0).bind fun x1 => (ref04_Plain n a1).bind fun x3 => bif (x1.fKind != x3.fKind) then bif (decide (x1.fKind < x3.fKind)) then some (-1) else some 1 else withK (fun k10 => bif (x1.fKind == 3) then k10 (((FloatKind.format .f64).order x1.fFloat x3.fFloat == some .lt) || ((!((FloatKind.format .f64).order x1.fFloat x1.fFloat != some .eq)) && ((FloatKind.format .f64).order x3.fFloat x3.fFloat != some .eq))) (((FloatKind.format .f64).order x1.fFloat x3.fFloat == some .gt) || (((FloatKind.format .f64).order x1.fFloat x1.fFloat != some .eq) && (!((FloatKind.format .f64).order x3.fFloat x3.fFloat != some .eq)))) else k10 (decide (x1.fInt < x3.fInt)) (decide (x1.fInt > x3.fInt))) (fun (y8 : Bool) (y9 : Bool) => bif (x1.fKind == 4) then bif (sLt x1.fText x3.fText) then some (-1) else bif (!(sLt x1.fText x3.fText || sEq x1.fText x3.fText)) then some 1 else some 0 else bif y8 then some (-1) else bif y9 then some 1 else some 0)
def ref19_Right_l4 (n : Nat) (a0 : (Option (List tabularyref19_Bucket))) (k4 : (Unit → Option (Bool))) : Nat → Int → Option (Bool)
  | 0, _ => none
  | m7 + 1, y6 => bif (decide (y6 < ((sll a0).length : Int))) then (idx (sll a0) y6).bind fun x9 => (ref19_plain n x9.fLow).bind fun x11 => bif (!x11) then some false else (ref19_plain n x9.fHigh).bind fun x14 => bif ((((((!x14) || (x9.fLow.fKind != x9.fHigh.fKind)) || (decide (x9.fCount < 1))) || (decide (x9.fCount > 1000000))) || (decide (x9.fDistinct < 1))) || (decide (x9.fDistinct > x9.fCount))) then some false else (ref04_Cmp n x9.fLow x9.fHigh).bind fun x17 => bif ((decide (x17 > 0)) || (!((x17 == 0) == (x9.fDistinct == 1)))) then some false else bif (decide (y6 > 0)) then (idx (sll a0) (IntKind.wrap .i64 (y6 - 1))).bind fun x21 => bif (x21.fHigh.fKind != x9.fLow.fKind) then some false else (ref04_Cmp n x21.fHigh x9.fLow).bind fun x24 => bif (decide (x24 ≥ 0)) then some false else ref19_Right_l4 n a0 k4 m7 (IntKind.wrap .i64 (y6 + 1)) else ref19_Right_l4 n a0 k4 m7 (IntKind.wrap .i64 (y6 + 1)) else k4 ()
def ref19_Right (n : Nat) (a0 : (Option (List tabularyref19_Bucket))) : Option (Bool) := at1 n fun n =>
  bif (decide (((sll a0).length : Int) > 50)) then some false else withK (fun k4 => ref19_Right_l4 n a0 k4 n 0) (fun (_ : Unit) => some true)
def ref17_Right_l2 (n : Nat) (a0 : (Nat → Int)) (k3 : (Unit → Option (Bool))) : Nat → Int → Option (Bool)
  | 0, _ => none
  | m6 + 1, y5 => bif (decide (y5 < 64)) then (ckI 64 y5).bind fun _ => bif (decide ((a0 (Int.toNat y5)) > 59)) then some false else ref17_Right_l2 n a0 k3 m6 (IntKind.wrap .i64 (y5 + 1)) else k3 ()
def ref17_Right (n : Nat) (a0 : (Nat → Int)) : Option (Bool) := at1 n fun n =>
  withK (fun k3 => ref17_Right_l2 n a0 k3 n 0) (fun (_ : Unit) => some true)
def ref20_column_l6 (n : Nat) (a0 : tabularyref20_Col) (k6 : (Unit → Option (Bool))) : Nat → Int → Option (Bool)
  | 0, _ => none
  | m9 + 1, y8 => bif (decide (y8 < ((sll a0.fSample).length : Int))) then (idx (sll a0.fSample) y8).bind fun x11 => (ref04_Right n x11).bind fun x13 => bif (!x13) then some false else bif (x11.fKind != 0) then bif (x11.fKind != a0.fKind) then some false else ref20_column_l6 n a0 k6 m9 (IntKind.wrap .i64 (y8 + 1)) else ref20_column_l6 n a0 k6 m9 (IntKind.wrap .i64 (y8 + 1)) else k6 ()
def ref20_column (n : Nat) (a0 : tabularyref20_Col) (a1 : Int) : Option (Bool) := at1 n fun n =>
  bif ((((((decide (a0.fKind < 1)) || (decide (a0.fKind > 4))) || (decide (a0.fNulls < 0))) || (decide (a0.fNulls > a1))) || (decide (a0.fDistinct < 0))) || (decide (a0.fDistinct > a1))) then some false else withK (fun k3 => (ref19_Right n a0.fHist).bind fun x18 => bif (!x18) then some false else bif (decide (((sll a0.fHist).length : Int) > 0)) then (idx (sll a0.fHist) 0).bind fun x22 => bif (x22.fLow.fKind != a0.fKind) then some false else bif (decide (((sll a0.fSample).length : Int) > 60)) then some false else (ref17_Right n a0.fSketch).bind fun x26 => bif (!x26) then some false else k3 () else bif (decide (((sll a0.fSample).length : Int) > 60)) then some false else (ref17_Right n a0.fSketch).bind fun x30 => bif (!x30) then some false else k3 ()) (fun (_ : Unit) => withK (fun k6 => ref20_column_l6 n a0 k6 n 0) (fun (_ : Unit) => some true))
def ref20_Right_l4 (n : Nat) (a0 : tabularyref20_Stat) (k4 : (Unit → Option (Bool))) : Nat → Int → Option (Bool)
  | 0, _ => none
  | m7 + 1, y6 => bif (decide (y6 < ((sll a0.fCols).length : Int))) then (idx (sll a0.fCols) y6).bind fun x9 => (ref20_column n x9 a0.fRows).bind fun x11 => bif (!x11) then some false else ref20_Right_l4 n a0 k4 m7 (IntKind.wrap .i64 (y6 + 1)) else k4 ()
def ref20_Right (n : Nat) (a0 : tabularyref20_Stat) : Option (Bool) := at1 n fun n =>
  bif ((((decide (a0.fRows < 0)) || (decide (a0.fRows > 1000000))) || (((sll a0.fCols).length : Int) == 0)) || (decide (((sll a0.fCols).length : Int) > 8))) then some false else withK (fun k4 => ref20_Right_l4 n a0 k4 n 0) (fun (_ : Unit) => some true)
def stat_Fits_1 (n : Nat) (a0 : stat_Col) (a1 : api_Column) : Option (Bool) := at1 n fun n =>
  some (a0.fKind == a1.fKind)
def slices_EqualFunc_Column_stat_Fits_1_l4 (n : Nat) (a0 : (Option (List stat_Col))) (a1 : (Option (List api_Column))) (k4 : (Unit → Option (Bool))) : Nat → Int → Option (Bool)
  | 0, _ => none
  | m7 + 1, y6 => bif (decide (y6 < ((sll a0).length : Int))) then (idx (sll a0) y6).bind fun x9 => (idx (sll a1) y6).bind fun x11 => (stat_Fits_1 n x9 x11).bind fun x13 => bif (!x13) then some false else slices_EqualFunc_Column_stat_Fits_1_l4 n a0 a1 k4 m7 (IntKind.wrap .i64 (y6 + 1)) else k4 ()
def slices_EqualFunc_Column_stat_Fits_1 (n : Nat) (a0 : (Option (List stat_Col))) (a1 : (Option (List api_Column))) : Option (Bool) := at1 n fun n =>
  bif (((sll a0).length : Int) != ((sll a1).length : Int)) then some false else withK (fun k4 => slices_EqualFunc_Column_stat_Fits_1_l4 n a0 a1 k4 n 0) (fun (_ : Unit) => some true)
def stat_Fits (n : Nat) (a0 : stat_Stat) (a1 : api_Table) : Option (Bool) := at1 n fun n =>
  (stat_Right n a0).bind fun x1 => bif x1 then (slices_EqualFunc_Column_stat_Fits_1 n a0.fCols a1.fCols).bind fun x4 => some x4 else some false
def ref20_Fits_l4 (n : Nat) (a0 : tabularyref20_Stat) (a1 : api_Table) (k6 : (Unit → Option (Bool))) : Nat → Int → Option (Bool)
  | 0, _ => none
  | m9 + 1, y8 => bif (decide (y8 < ((sll a0.fCols).length : Int))) then (idx (sll a0.fCols) y8).bind fun x11 => (idx (sll a1.fCols) y8).bind fun x13 => bif (x11.fKind != x13.fKind) then some false else ref20_Fits_l4 n a0 a1 k6 m9 (IntKind.wrap .i64 (y8 + 1)) else k6 ()
def ref20_Fits (n : Nat) (a0 : tabularyref20_Stat) (a1 : api_Table) : Option (Bool) := at1 n fun n =>
  (ref20_Right n a0).bind fun x1 => bif ((!x1) || (((sll a0.fCols).length : Int) != ((sll a1.fCols).length : Int))) then some false else withK (fun k6 => ref20_Fits_l4 n a0 a1 k6 n 0) (fun (_ : Unit) => some true)
def value_Same (n : Nat) (a0 : api_Value) (a1 : api_Value) : Option (Bool) := at1 n fun n =>
  (value_Cmp n a0 a1).bind fun x1 => some (x1 == 0)
def stat_buckets (n : Nat) (a0 : hist_Bucket) (a1 : hist_Bucket) : Option (Bool) := at1 n fun n =>
  (value_Same n a0.fLow a1.fLow).bind fun x1 => bif x1 then (value_Same n a0.fHigh a1.fHigh).bind fun x4 => some ((x4 && (a0.fCount == a1.fCount)) && (a0.fDistinct == a1.fDistinct)) else some false
def slices_EqualFunc_Bucket_stat_buckets_l4 (n : Nat) (a0 : (Option (List hist_Bucket))) (a1 : (Option (List hist_Bucket))) (k4 : (Unit → Option (Bool))) : Nat → Int → Option (Bool)
  | 0, _ => none
  | m7 + 1, y6 => bif (decide (y6 < ((sll a0).length : Int))) then (idx (sll a0) y6).bind fun x9 => (idx (sll a1) y6).bind fun x11 => (stat_buckets n x9 x11).bind fun x13 => bif (!x13) then some false else slices_EqualFunc_Bucket_stat_buckets_l4 n a0 a1 k4 m7 (IntKind.wrap .i64 (y6 + 1)) else k4 ()
def slices_EqualFunc_Bucket_stat_buckets (n : Nat) (a0 : (Option (List hist_Bucket))) (a1 : (Option (List hist_Bucket))) : Option (Bool) := at1 n fun n =>
  bif (((sll a0).length : Int) != ((sll a1).length : Int)) then some false else withK (fun k4 => slices_EqualFunc_Bucket_stat_buckets_l4 n a0 a1 k4 n 0) (fun (_ : Unit) => some true)
def slices_EqualFunc_Value_value_Same_l4 (n : Nat) (a0 : (Option (List api_Value))) (a1 : (Option (List api_Value))) (k4 : (Unit → Option (Bool))) : Nat → Int → Option (Bool)
  | 0, _ => none
  | m7 + 1, y6 => bif (decide (y6 < ((sll a0).length : Int))) then (idx (sll a0) y6).bind fun x9 => (idx (sll a1) y6).bind fun x11 => (value_Same n x9 x11).bind fun x13 => bif (!x13) then some false else slices_EqualFunc_Value_value_Same_l4 n a0 a1 k4 m7 (IntKind.wrap .i64 (y6 + 1)) else k4 ()
def slices_EqualFunc_Value_value_Same (n : Nat) (a0 : (Option (List api_Value))) (a1 : (Option (List api_Value))) : Option (Bool) := at1 n fun n =>
  bif (((sll a0).length : Int) != ((sll a1).length : Int)) then some false else withK (fun k4 => slices_EqualFunc_Value_value_Same_l4 n a0 a1 k4 n 0) (fun (_ : Unit) => some true)
def stat_columns (n : Nat) (a0 : stat_Col) (a1 : stat_Col) : Option (Bool) := at1 n fun n =>
  bif (((a0.fKind == a1.fKind) && (a0.fNulls == a1.fNulls)) && (a0.fDistinct == a1.fDistinct)) then (slices_EqualFunc_Bucket_stat_buckets n a0.fHist a1.fHist).bind fun x2 => bif x2 then (slices_EqualFunc_Value_value_Same n a0.fSample a1.fSample).bind fun x5 => some (x5 && (eqA 64 a0.fSketch.fRegs a1.fSketch.fRegs)) else some false else some false
def slices_EqualFunc_Col_stat_columns_l4 (n : Nat) (a0 : (Option (List stat_Col))) (a1 : (Option (List stat_Col))) (k4 : (Unit → Option (Bool))) : Nat → Int → Option (Bool)
  | 0, _ => none
  | m7 + 1, y6 => bif (decide (y6 < ((sll a0).length : Int))) then (idx (sll a0) y6).bind fun x9 => (idx (sll a1) y6).bind fun x11 => (stat_columns n x9 x11).bind fun x13 => bif (!x13) then some false else slices_EqualFunc_Col_stat_columns_l4 n a0 a1 k4 m7 (IntKind.wrap .i64 (y6 + 1)) else k4 ()
def slices_EqualFunc_Col_stat_columns (n : Nat) (a0 : (Option (List stat_Col))) (a1 : (Option (List stat_Col))) : Option (Bool) := at1 n fun n =>
  bif (((sll a0).length : Int) != ((sll a1).length : Int)) then some false else withK (fun k4 => slices_EqualFunc_Col_stat_columns_l4 n a0 a1 k4 n 0) (fun (_ : Unit) => some true)
def stat_Same (n : Nat) (a0 : stat_Stat) (a1 : stat_Stat) : Option (Bool) := at1 n fun n =>
  bif (a0.fRows == a1.fRows) then (slices_EqualFunc_Col_stat_columns n a0.fCols a1.fCols).bind fun x2 => some x2 else some false
def ref05_Cmp_l2 (n : Nat) (a0 : (Option (List api_Value))) (a1 : (Option (List api_Value))) (k3 : (Unit → Option (Int))) : Nat → Int → Option (Int)
  | 0, _ => none
  | m8 + 1, y7 => bif ((decide (y7 < ((sll a0).length : Int))) && (decide (y7 < ((sll a1).length : Int)))) then (idx (sll a0) y7).bind fun x10 => (idx (sll a1) y7).bind fun x12 => (ref04_Cmp n x10 x12).bind fun x14 => bif (x14 != 0) then some x14 else ref05_Cmp_l2 n a0 a1 k3 m8 (IntKind.wrap .i64 (y7 + 1)) else k3 ()
def ref05_Cmp (n : Nat) (a0 : (Option (List api_Value))) (a1 : (Option (List api_Value))) : Option (Int) := at1 n fun n =>
  withK (fun k3 => ref05_Cmp_l2 n a0 a1 k3 n 0) (fun (_ : Unit) => bif (decide (((sll a0).length : Int) < ((sll a1).length : Int))) then some (-1) else bif (decide (((sll a0).length : Int) > ((sll a1).length : Int))) then some 1 else some 0)
def ref20_Same_l11 (n : Nat) (k23 : (Unit → Option (Bool))) (x24 : tabularyref20_Col) (x26 : tabularyref20_Col) : Nat → Int → Option (Bool)
  | 0, _ => none
  | m34 + 1, y33 => bif (decide (y33 < ((sll x24.fHist).length : Int))) then (idx (sll x24.fHist) y33).bind fun x36 => (idx (sll x26.fHist) y33).bind fun x38 => (ref04_Cmp n x36.fLow x38.fLow).bind fun x40 => bif (x40 != 0) then some false else (ref04_Cmp n x36.fHigh x38.fHigh).bind fun x43 => bif (((x43 != 0) || (x36.fCount != x38.fCount)) || (x36.fDistinct != x38.fDistinct)) then some false else ref20_Same_l11 n k23 x24 x26 m34 (IntKind.wrap .i64 (y33 + 1)) else k23 ()
def ref20_Same_l4 (n : Nat) (a0 : tabularyref20_Stat) (a1 : tabularyref20_Stat) (k4 : (Unit → Option (Bool))) : Nat → Int → Option (Bool)
  | 0, _ => none
  | m7 + 1, y6 => bif (decide (y6 < ((sll a0.fCols).length : Int))) then withK (fun k23 => (idx (sll a0.fCols) y6).bind fun x24 => (idx (sll a1.fCols) y6).bind fun x26 => bif (((((x24.fKind != x26.fKind) || (x24.fNulls != x26.fNulls)) || (x24.fDistinct != x26.fDistinct)) || (!(eqA 64 x24.fSketch x26.fSketch))) || (((sll x24.fHist).length : Int) != ((sll x26.fHist).length : Int))) then some false else (ref05_Cmp n x24.fSample x26.fSample).bind fun x29 => bif (x29 != 0) then some false else ref20_Same_l11 n k23 x24 x26 n 0) (fun (_ : Unit) => ref20_Same_l4 n a0 a1 k4 m7 (IntKind.wrap .i64 (y6 + 1))) else k4 ()
def ref20_Same (n : Nat) (a0 : tabularyref20_Stat) (a1 : tabularyref20_Stat) : Option (Bool) := at1 n fun n =>
  bif ((a0.fRows != a1.fRows) || (((sll a0.fCols).length : Int) != ((sll a1.fCols).length : Int))) then some false else withK (fun k4 => ref20_Same_l4 n a0 a1 k4 n 0) (fun (_ : Unit) => some true)
def stat_Plain_l3 (n : Nat) (a0 : api_Table) (a1 : Int) (k4 : ((Option (List stat_Col)) → Option (stat_Stat))) : Nat → (Option (List stat_Col)) → Int → Option (stat_Stat)
  | 0, _, _ => none
  | m10 + 1, none, y9 => bif (decide (y9 < ((sll a0.fCols).length : Int))) then (idx (sll a0.fCols) y9).bind fun x12 => (ckA 136 ([(stat_Col.mk x12.fKind 0 (if (if 1000000 < (if 0 > a1 then 0 else a1) then 1000000 else (if 0 > a1 then 0 else a1)) < (if 1 > (IntKind.wrap .i64 (Int.tdiv (if 1000000 < (if 0 > a1 then 0 else a1) then 1000000 else (if 0 > a1 then 0 else a1)) 10)) then 1 else (IntKind.wrap .i64 (Int.tdiv (if 1000000 < (if 0 > a1 then 0 else a1) then 1000000 else (if 0 > a1 then 0 else a1)) 10))) then (if 1000000 < (if 0 > a1 then 0 else a1) then 1000000 else (if 0 > a1 then 0 else a1)) else (if 1 > (IntKind.wrap .i64 (Int.tdiv (if 1000000 < (if 0 > a1 then 0 else a1) then 1000000 else (if 0 > a1 then 0 else a1)) 10)) then 1 else (IntKind.wrap .i64 (Int.tdiv (if 1000000 < (if 0 > a1 then 0 else a1) then 1000000 else (if 0 > a1 then 0 else a1)) 10)))) none none (hll_Sketch.mk (fun _ => 0)))] : List stat_Col).length).bind fun _ => stat_Plain_l3 n a0 a1 k4 m10 (some ([(stat_Col.mk x12.fKind 0 (if (if 1000000 < (if 0 > a1 then 0 else a1) then 1000000 else (if 0 > a1 then 0 else a1)) < (if 1 > (IntKind.wrap .i64 (Int.tdiv (if 1000000 < (if 0 > a1 then 0 else a1) then 1000000 else (if 0 > a1 then 0 else a1)) 10)) then 1 else (IntKind.wrap .i64 (Int.tdiv (if 1000000 < (if 0 > a1 then 0 else a1) then 1000000 else (if 0 > a1 then 0 else a1)) 10))) then (if 1000000 < (if 0 > a1 then 0 else a1) then 1000000 else (if 0 > a1 then 0 else a1)) else (if 1 > (IntKind.wrap .i64 (Int.tdiv (if 1000000 < (if 0 > a1 then 0 else a1) then 1000000 else (if 0 > a1 then 0 else a1)) 10)) then 1 else (IntKind.wrap .i64 (Int.tdiv (if 1000000 < (if 0 > a1 then 0 else a1) then 1000000 else (if 0 > a1 then 0 else a1)) 10)))) none none (hll_Sketch.mk (fun _ => 0)))] : List stat_Col)) (IntKind.wrap .i64 (y9 + 1)) else k4 none
  | m10 + 1, (some y8), y9 => bif (decide (y9 < ((sll a0.fCols).length : Int))) then (idx (sll a0.fCols) y9).bind fun x16 => (ckA 136 (y8 ++ ([(stat_Col.mk x16.fKind 0 (if (if 1000000 < (if 0 > a1 then 0 else a1) then 1000000 else (if 0 > a1 then 0 else a1)) < (if 1 > (IntKind.wrap .i64 (Int.tdiv (if 1000000 < (if 0 > a1 then 0 else a1) then 1000000 else (if 0 > a1 then 0 else a1)) 10)) then 1 else (IntKind.wrap .i64 (Int.tdiv (if 1000000 < (if 0 > a1 then 0 else a1) then 1000000 else (if 0 > a1 then 0 else a1)) 10))) then (if 1000000 < (if 0 > a1 then 0 else a1) then 1000000 else (if 0 > a1 then 0 else a1)) else (if 1 > (IntKind.wrap .i64 (Int.tdiv (if 1000000 < (if 0 > a1 then 0 else a1) then 1000000 else (if 0 > a1 then 0 else a1)) 10)) then 1 else (IntKind.wrap .i64 (Int.tdiv (if 1000000 < (if 0 > a1 then 0 else a1) then 1000000 else (if 0 > a1 then 0 else a1)) 10)))) none none (hll_Sketch.mk (fun _ => 0)))] : List stat_Col)).length).bind fun _ => stat_Plain_l3 n a0 a1 k4 m10 (some (y8 ++ ([(stat_Col.mk x16.fKind 0 (if (if 1000000 < (if 0 > a1 then 0 else a1) then 1000000 else (if 0 > a1 then 0 else a1)) < (if 1 > (IntKind.wrap .i64 (Int.tdiv (if 1000000 < (if 0 > a1 then 0 else a1) then 1000000 else (if 0 > a1 then 0 else a1)) 10)) then 1 else (IntKind.wrap .i64 (Int.tdiv (if 1000000 < (if 0 > a1 then 0 else a1) then 1000000 else (if 0 > a1 then 0 else a1)) 10))) then (if 1000000 < (if 0 > a1 then 0 else a1) then 1000000 else (if 0 > a1 then 0 else a1)) else (if 1 > (IntKind.wrap .i64 (Int.tdiv (if 1000000 < (if 0 > a1 then 0 else a1) then 1000000 else (if 0 > a1 then 0 else a1)) 10)) then 1 else (IntKind.wrap .i64 (Int.tdiv (if 1000000 < (if 0 > a1 then 0 else a1) then 1000000 else (if 0 > a1 then 0 else a1)) 10)))) none none (hll_Sketch.mk (fun _ => 0)))] : List stat_Col))) (IntKind.wrap .i64 (y9 + 1)) else k4 (some y8)
def stat_Plain (n : Nat) (a0 : api_Table) (a1 : Int) : Option (stat_Stat) := at1 n fun n =>
  withK (fun (k4 : (Option (List stat_Col)) → Option (stat_Stat)) => stat_Plain_l3 n a0 a1 k4 n none 0) (fun | none => some (stat_Stat.mk (if 1000000 < (if 0 > a1 then 0 else a1) then 1000000 else (if 0 > a1 then 0 else a1)) none) | (some y3) => some (stat_Stat.mk (if 1000000 < (if 0 > a1 then 0 else a1) then 1000000 else (if 0 > a1 then 0 else a1)) (some y3)))
def law19_Told_l3 (n : Nat) (a0 : (Option (List hist_Bucket))) (k4 : ((Option (List tabularyref19_Bucket)) → Option ((Option (List tabularyref19_Bucket))))) : Nat → (Option (List tabularyref19_Bucket)) → Int → Option ((Option (List tabularyref19_Bucket)))
  | 0, _, _ => none
  | m10 + 1, none, y9 => bif (decide (y9 < ((sll a0).length : Int))) then (idx (sll a0) y9).bind fun x12 => (ckA 96 ([(tabularyref19_Bucket.mk x12.fLow x12.fHigh x12.fCount x12.fDistinct)] : List tabularyref19_Bucket).length).bind fun _ => law19_Told_l3 n a0 k4 m10 (some ([(tabularyref19_Bucket.mk x12.fLow x12.fHigh x12.fCount x12.fDistinct)] : List tabularyref19_Bucket)) (IntKind.wrap .i64 (y9 + 1)) else k4 none
  | m10 + 1, (some y8), y9 => bif (decide (y9 < ((sll a0).length : Int))) then (idx (sll a0) y9).bind fun x16 => (ckA 96 (y8 ++ ([(tabularyref19_Bucket.mk x16.fLow x16.fHigh x16.fCount x16.fDistinct)] : List tabularyref19_Bucket)).length).bind fun _ => law19_Told_l3 n a0 k4 m10 (some (y8 ++ ([(tabularyref19_Bucket.mk x16.fLow x16.fHigh x16.fCount x16.fDistinct)] : List tabularyref19_Bucket))) (IntKind.wrap .i64 (y9 + 1)) else k4 (some y8)
def law19_Told (n : Nat) (a0 : (Option (List hist_Bucket))) : Option ((Option (List tabularyref19_Bucket))) := at1 n fun n =>
  withK (fun (k4 : (Option (List tabularyref19_Bucket)) → Option ((Option (List tabularyref19_Bucket)))) => law19_Told_l3 n a0 k4 n none 0) (fun | none => some none | (some y3) => some (some y3))
def law20_Told_l3 (n : Nat) (a0 : stat_Stat) (k4 : ((Option (List tabularyref20_Col)) → Option (tabularyref20_Stat))) : Nat → (Option (List tabularyref20_Col)) → Int → Option (tabularyref20_Stat)
  | 0, _, _ => none
  | m10 + 1, none, y9 => bif (decide (y9 < ((sll a0.fCols).length : Int))) then (idx (sll a0.fCols) y9).bind fun x12 => (law19_Told n x12.fHist).bind fun x14 => (ckA 136 ([(tabularyref20_Col.mk x12.fKind x12.fNulls x12.fDistinct x14 x12.fSample x12.fSketch.fRegs)] : List tabularyref20_Col).length).bind fun _ => law20_Told_l3 n a0 k4 m10 (some ([(tabularyref20_Col.mk x12.fKind x12.fNulls x12.fDistinct x14 x12.fSample x12.fSketch.fRegs)] : List tabularyref20_Col)) (IntKind.wrap .i64 (y9 + 1)) else k4 none
  | m10 + 1, (some y8), y9 => bif (decide (y9 < ((sll a0.fCols).length : Int))) then (idx (sll a0.fCols) y9).bind fun x18 => (law19_Told n x18.fHist).bind fun x20 => (ckA 136 (y8 ++ ([(tabularyref20_Col.mk x18.fKind x18.fNulls x18.fDistinct x20 x18.fSample x18.fSketch.fRegs)] : List tabularyref20_Col)).length).bind fun _ => law20_Told_l3 n a0 k4 m10 (some (y8 ++ ([(tabularyref20_Col.mk x18.fKind x18.fNulls x18.fDistinct x20 x18.fSample x18.fSketch.fRegs)] : List tabularyref20_Col))) (IntKind.wrap .i64 (y9 + 1)) else k4 (some y8)
def law20_Told (n : Nat) (a0 : stat_Stat) : Option (tabularyref20_Stat) := at1 n fun n =>
  withK (fun (k4 : (Option (List tabularyref20_Col)) → Option (tabularyref20_Stat)) => law20_Told_l3 n a0 k4 n none 0) (fun | none => some (tabularyref20_Stat.mk a0.fRows none) | (some y3) => some (tabularyref20_Stat.mk a0.fRows (some y3)))
def ref20_Plain_l10 (n : Nat) (a0 : api_Table) (y8 : Int) (k13 : ((Option (List tabularyref20_Col)) → Option (tabularyref20_Stat))) : Nat → (Option (List tabularyref20_Col)) → Int → Option (tabularyref20_Stat)
  | 0, _, _ => none
  | m19 + 1, none, y18 => bif (decide (y18 < ((sll a0.fCols).length : Int))) then (idx (sll a0.fCols) y18).bind fun x21 => (ckA 136 ([(tabularyref20_Col.mk x21.fKind 0 y8 none none (fun _ => 0))] : List tabularyref20_Col).length).bind fun _ => ref20_Plain_l10 n a0 y8 k13 m19 (some ([(tabularyref20_Col.mk x21.fKind 0 y8 none none (fun _ => 0))] : List tabularyref20_Col)) (IntKind.wrap .i64 (y18 + 1)) else k13 none
  | m19 + 1, (some y17), y18 => bif (decide (y18 < ((sll a0.fCols).length : Int))) then (idx (sll a0.fCols) y18).bind fun x25 => (ckA 136 (y17 ++ ([(tabularyref20_Col.mk x25.fKind 0 y8 none none (fun _ => 0))] : List tabularyref20_Col)).length).bind fun _ => ref20_Plain_l10 n a0 y8 k13 m19 (some (y17 ++ ([(tabularyref20_Col.mk x25.fKind 0 y8 none none (fun _ => 0))] : List tabularyref20_Col))) (IntKind.wrap .i64 (y18 + 1)) else k13 (some y17)
def ref20_Plain (n : Nat) (a0 : api_Table) (a1 : Int) : Option (tabularyref20_Stat) := at1 n fun n =>
  withK (fun k3 => bif (decide (a1 < 0)) then k3 0 else k3 a1) (fun (y2 : Int) => withK (fun k6 => bif (decide (y2 > 1000000)) then k6 1000000 else k6 y2) (fun (y5 : Int) => withK (fun k9 => bif (((IntKind.wrap .i64 (Int.tdiv y5 10)) == 0) && (decide (y5 > 0))) then k9 1 else k9 (IntKind.wrap .i64 (Int.tdiv y5 10))) (fun (y8 : Int) => withK (fun (k13 : (Option (List tabularyref20_Col)) → Option (tabularyref20_Stat)) => ref20_Plain_l10 n a0 y8 k13 n none 0) (fun | none => some (tabularyref20_Stat.mk y5 none) | (some y12) => some (tabularyref20_Stat.mk y5 (some y12))))))
/-- Run by the kernel. -/
def law20_works (n : Nat) : Option (Bool) := bif n == 3999999 then some true else none
def law20_StatAsks (n : Nat) (a0 : tabularyref20_Stat) (a1 : tabularyref20_Stat) (a2 : api_Table) (a3 : Int) : Option (Bool) := at1 n fun n =>
  (law20_Great n a0).bind fun x1 => bif x1 then some true else (law20_Great n a1).bind fun x4 => bif (x4 || (decide (((sll a2.fCols).length : Int) > 100))) then some true else (law20_Given n a0).bind fun x7 => (law20_Given n a1).bind fun x9 => (stat_Right n x7).bind fun x11 => (ref20_Right n (tabularyref20_Stat.mk a0.fRows a0.fCols)).bind fun x13 => bif (x11 == x13) then (stat_Fits n (stat_Stat.mk x7.fRows x7.fCols) a2).bind fun x16 => (ref20_Fits n (tabularyref20_Stat.mk a0.fRows a0.fCols) a2).bind fun x18 => bif (x16 == x18) then (stat_Same n (stat_Stat.mk x7.fRows x7.fCols) (stat_Stat.mk x9.fRows x9.fCols)).bind fun x21 => (ref20_Same n (tabularyref20_Stat.mk a0.fRows a0.fCols) (tabularyref20_Stat.mk a1.fRows a1.fCols)).bind fun x23 => bif (x21 == x23) then (stat_Plain n a2 a3).bind fun x26 => (law20_Told n x26).bind fun x28 => (ref20_Plain n a2 a3).bind fun x30 => (ref20_Same n x28 x30).bind fun x32 => bif x32 then (law20_works n).bind fun x35 => some x35 else some false else some false else some false else some false
def ref03_Bits (n : Nat) (a0 : Nat) : Option (Int) := at1 n fun n =>
  bif ((FloatKind.format .f64).order a0 a0 != some .eq) then some 9221120237041090561 else bif ((FloatKind.format .f64).order a0 0 == some .eq) then some 0 else some (a0 : Int)
def ref04_Exact (n : Nat) (a0 : api_Value) (a1 : api_Value) : Option (Bool) := at1 n fun n =>
  bif (a0.fKind == a1.fKind) then bif (a0.fInt == a1.fInt) then bif (sEq a0.fText a1.fText) then (ref03_Bits n a0.fFloat).bind fun x4 => (ref03_Bits n a1.fFloat).bind fun x6 => bif (x4 == x6) then (ref04_zero n a0.fFloat).bind fun x9 => (ref04_zero n a1.fFloat).bind fun x11 => some (x9 == x11) else some false else some false else some false else some false
def ref19_Same_l4 (n : Nat) (a0 : (Option (List tabularyref19_Bucket))) (a1 : (Option (List tabularyref19_Bucket))) (k4 : (Unit → Option (Bool))) : Nat → Int → Option (Bool)
  | 0, _ => none
  | m7 + 1, y6 => bif (decide (y6 < ((sll a0).length : Int))) then (idx (sll a0) y6).bind fun x9 => (idx (sll a1) y6).bind fun x11 => (ref04_Exact n x9.fLow x11.fLow).bind fun x13 => bif (!x13) then some false else (ref04_Exact n x9.fHigh x11.fHigh).bind fun x16 => bif (!x16) then some false else bif (x9.fCount != x11.fCount) then some false else bif (x9.fDistinct != x11.fDistinct) then some false else ref19_Same_l4 n a0 a1 k4 m7 (IntKind.wrap .i64 (y6 + 1)) else k4 ()
def ref19_Same (n : Nat) (a0 : (Option (List tabularyref19_Bucket))) (a1 : (Option (List tabularyref19_Bucket))) : Option (Bool) := at1 n fun n =>
  bif (((sll a0).length : Int) != ((sll a1).length : Int)) then some false else withK (fun k4 => ref19_Same_l4 n a0 a1 k4 n 0) (fun (_ : Unit) => some true)
end Go.Pl
