import Derived.Test.YtjbhpopccbhhlaaAbRow
namespace Go.Pl
open Go Go.Ab
set_option linter.unusedVariables false
structure api_Value where
  fKind : Int
  fInt : Int
  fFloat : Nat
  fText : ByteArray
def R_api_Value (x : api_Value) : List PV := [.int .i64 x.fKind, .int .i64 x.fInt, .flt .f64 x.fFloat, .str x.fText]
def W_api_Value (x : api_Value) : Prop := (wI .i64) x.fKind ∧ (wI .i64) x.fInt ∧ (wF .f64) x.fFloat ∧ wS x.fText
structure hist_Bucket where
  fLow : api_Value
  fHigh : api_Value
  fCount : Int
  fDistinct : Int
def R_hist_Bucket (x : hist_Bucket) : List PV := [.int .i64 x.fLow.fKind, .int .i64 x.fLow.fInt, .flt .f64 x.fLow.fFloat, .str x.fLow.fText, .int .i64 x.fHigh.fKind, .int .i64 x.fHigh.fInt, .flt .f64 x.fHigh.fFloat, .str x.fHigh.fText, .int .i64 x.fCount, .int .i64 x.fDistinct]
def W_hist_Bucket (x : hist_Bucket) : Prop := W_api_Value x.fLow ∧ W_api_Value x.fHigh ∧ (wI .i64) x.fCount ∧ (wI .i64) x.fDistinct
structure tabularyref19_Bucket where
  fLow : api_Value
  fHigh : api_Value
  fCount : Int
  fDistinct : Int
def W_tabularyref19_Bucket (x : tabularyref19_Bucket) : Prop := W_api_Value x.fLow ∧ W_api_Value x.fHigh ∧ (wI .i64) x.fCount ∧ (wI .i64) x.fDistinct
structure codec_Reader where
  fmade : Bool
  fb : (Option (List Int))
  fe : Int
/-- Run by the kernel. -/
def law19_works (n : Nat) : Option (Bool) := bif n == 3999999 then some true else none
def math_Signbit (n : Nat) (a0 : Nat) : Option (Bool) := at1 n fun n =>
  some (decide ((IntKind.wrap .i64 (a0 : Int)) < 0))
def value_Right (n : Nat) (a0 : api_Value) : Option (Bool) := at1 n fun n =>
  withK (fun k2 => bif ((FloatKind.format .f64).order a0.fFloat 0 == some .eq) then (math_Signbit n a0.fFloat).bind fun x14 => k2 (!x14) else k2 false) (fun (y1 : Bool) => withK (fun k6 => bif (a0.fKind == 0) then some (((a0.fInt == 0) && y1) && (sEq a0.fText ByteArray.empty)) else bif (a0.fKind == 1) then bif ((a0.fInt != 0) && (a0.fInt != 1)) then some false else k6 () else bif (a0.fKind == 2) then k6 () else bif (a0.fKind == 3) then some ((a0.fInt == 0) && (sEq a0.fText ByteArray.empty)) else bif (a0.fKind == 4) then some (((a0.fInt == 0) && y1) && (decide ((a0.fText.size : Int) ≤ 64))) else some false) (fun (_ : Unit) => some (y1 && (sEq a0.fText ByteArray.empty))))
def math_IsNaN (n : Nat) (a0 : Nat) : Option (Bool) := at1 n fun n =>
  some ((FloatKind.format .f64).order a0 a0 != some .eq)
def value_Plain (n : Nat) (a0 : api_Value) : Option (api_Value) := at1 n fun n =>
  (value_Right n a0).bind fun x1 => bif (!x1) then some (api_Value.mk 0 0 0 ByteArray.empty) else withK (fun k5 => bif (a0.fKind == 3) then (math_IsNaN n a0.fFloat).bind fun x9 => k5 x9 else k5 false) (fun (y4 : Bool) => bif y4 then some (api_Value.mk a0.fKind a0.fInt (Int.toNat 9221120237041090561) a0.fText) else bif ((a0.fKind == 3) && ((FloatKind.format .f64).order a0.fFloat 0 == some .eq)) then some (api_Value.mk a0.fKind a0.fInt 0 a0.fText) else some a0)
def math_bits_Len64 (n : Nat) (a0 : Int) : Option (Int) := at1 n fun n =>
  withK (fun k4 => bif (decide (a0 ≥ 4294967296)) then k4 (iShr .u64 a0 32) 32 else k4 a0 0) (fun (y2 : Int) (y3 : Int) => withK (fun k8 => bif (decide (y2 ≥ 65536)) then k8 (iShr .u64 y2 16) (IntKind.wrap .i64 (y3 + 16)) else k8 y2 y3) (fun (y6 : Int) (y7 : Int) => withK (fun k12 => bif (decide (y6 ≥ 256)) then k12 (iShr .u64 y6 8) (IntKind.wrap .i64 (y7 + 8)) else k12 y6 y7) (fun (y10 : Int) (y11 : Int) => (idxS (ByteArray.mk #[0, 1, 2, 2, 3, 3, 3, 3, 4, 4, 4, 4, 4, 4, 4, 4, 5, 5, 5, 5, 5, 5, 5, 5, 5, 5, 5, 5, 5, 5, 5, 5, 6, 6, 6, 6, 6, 6, 6, 6, 6, 6, 6, 6, 6, 6, 6, 6, 6, 6, 6, 6, 6, 6, 6, 6, 6, 6, 6, 6, 6, 6, 6, 6, 7, 7, 7, 7, 7, 7, 7, 7, 7, 7, 7, 7, 7, 7, 7, 7, 7, 7, 7, 7, 7, 7, 7, 7, 7, 7, 7, 7, 7, 7, 7, 7, 7, 7, 7, 7, 7, 7, 7, 7, 7, 7, 7, 7, 7, 7, 7, 7, 7, 7, 7, 7, 7, 7, 7, 7, 7, 7, 7, 7, 7, 7, 7, 7, 8, 8, 8, 8, 8, 8, 8, 8, 8, 8, 8, 8, 8, 8, 8, 8, 8, 8, 8, 8, 8, 8, 8, 8, 8, 8, 8, 8, 8, 8, 8, 8, 8, 8, 8, 8, 8, 8, 8, 8, 8, 8, 8, 8, 8, 8, 8, 8, 8, 8, 8, 8, 8, 8, 8, 8, 8, 8, 8, 8, 8, 8, 8, 8, 8, 8, 8, 8, 8, 8, 8, 8, 8, 8, 8, 8, 8, 8, 8, 8, 8, 8, 8, 8, 8, 8, 8, 8, 8, 8, 8, 8, 8, 8, 8, 8, 8, 8, 8, 8, 8, 8, 8, 8, 8, 8, 8, 8, 8, 8, 8, 8, 8, 8, 8, 8, 8, 8, 8, 8, 8, 8, 8, 8, 8, 8, 8, 8]) (IntKind.wrap .u8 y10)).bind fun x13 => some (IntKind.wrap .i64 (y11 + (IntKind.wrap .i64 x13))))))
def math_bits_Len (n : Nat) (a0 : Int) : Option (Int) := at1 n fun n =>
  (math_bits_Len64 n a0).bind fun x1 => some x1
def slices_insertionSortCmpFunc_Value_value_Cmp_nil_l4 (n : Nat) (a0 : Int) (y2 : Int) (k5 : (Unit → Option (Unit))) : Nat → Option (Unit)
  | 0 => none
  | m6 + 1 => bif (decide (y2 > a0)) then none else k5 ()
def slices_insertionSortCmpFunc_Value_value_Cmp_nil_l1 (n : Nat) (a0 : Int) (a1 : Int) : Nat → Int → Option (Unit)
  | 0, _ => none
  | m3 + 1, y2 => bif (decide (y2 < a1)) then withK (fun k5 => slices_insertionSortCmpFunc_Value_value_Cmp_nil_l4 n a0 y2 k5 n) (fun (_ : Unit) => slices_insertionSortCmpFunc_Value_value_Cmp_nil_l1 n a0 a1 m3 (IntKind.wrap .i64 (y2 + 1))) else some ()
def slices_insertionSortCmpFunc_Value_value_Cmp_nil (n : Nat) (a0 : Int) (a1 : Int) : Option (Unit) := at1 n fun n =>
  slices_insertionSortCmpFunc_Value_value_Cmp_nil_l1 n a0 a1 n (IntKind.wrap .i64 (a0 + 1))
def slices_siftDownCmpFunc_Value_value_Cmp_nil_l1 (n : Nat) (a0 : Int) (a1 : Int) : Nat → Option (Unit)
  | 0 => none
  | m1 + 1 => bif (decide ((IntKind.wrap .i64 ((IntKind.wrap .i64 (2 * a0)) + 1)) ≥ a1)) then some () else bif (decide ((IntKind.wrap .i64 ((IntKind.wrap .i64 ((IntKind.wrap .i64 (2 * a0)) + 1)) + 1)) < a1)) then (none) else (none)
def slices_siftDownCmpFunc_Value_value_Cmp_nil (n : Nat) (a0 : Int) (a1 : Int) (a2 : Int) : Option (Unit) := at1 n fun n =>
  slices_siftDownCmpFunc_Value_value_Cmp_nil_l1 n a0 a1 n
def slices_heapSortCmpFunc_Value_value_Cmp_nil_l8 (n : Nat) (a0 : Int) (a1 : Int) : Nat → Option (Unit)
  | 0 => none
  | m4 + 1 => bif (decide ((IntKind.wrap .i64 ((IntKind.wrap .i64 (a1 - a0)) - 1)) ≥ 0)) then none else some ()
def slices_heapSortCmpFunc_Value_value_Cmp_nil_l4 (n : Nat) (a0 : Int) (a1 : Int) (k3 : (Unit → Option (Unit))) : Nat → Int → Option (Unit)
  | 0, _ => none
  | m8 + 1, y7 => bif (decide (y7 ≥ 0)) then (slices_siftDownCmpFunc_Value_value_Cmp_nil n y7 (IntKind.wrap .i64 (a1 - a0)) a0).bind fun _ => slices_heapSortCmpFunc_Value_value_Cmp_nil_l4 n a0 a1 k3 m8 (IntKind.wrap .i64 (y7 - 1)) else k3 ()
def slices_heapSortCmpFunc_Value_value_Cmp_nil (n : Nat) (a0 : Int) (a1 : Int) : Option (Unit) := at1 n fun n =>
  withK (fun k3 => slices_heapSortCmpFunc_Value_value_Cmp_nil_l4 n a0 a1 k3 n (IntKind.wrap .i64 (Int.tdiv (IntKind.wrap .i64 ((IntKind.wrap .i64 (a1 - a0)) - 1)) 2))) (fun (_ : Unit) => slices_heapSortCmpFunc_Value_value_Cmp_nil_l8 n a0 a1 n)
def cmp_isNaN_int (n : Nat) (a0 : Int) : Option (Bool) := at1 n fun n =>
  some (a0 != a0)
def cmp_Compare_int (n : Nat) (a0 : Int) (a1 : Int) : Option (Int) := at1 n fun n =>
  (cmp_isNaN_int n a0).bind fun x1 => (cmp_isNaN_int n a1).bind fun x3 => bif x1 then bif x3 then some 0 else some (-1) else bif x3 then some 1 else bif (decide (a0 < a1)) then some (-1) else bif (decide (a0 > a1)) then some 1 else some 0
def value_floats (n : Nat) (a0 : Nat) (a1 : Nat) : Option (Int) := at1 n fun n =>
  (math_IsNaN n a0).bind fun x1 => (math_IsNaN n a1).bind fun x3 => bif (x1 && x3) then some 0 else bif x1 then some 1 else bif x3 then some (-1) else bif ((FloatKind.format .f64).order a0 a1 == some .lt) then some (-1) else bif ((FloatKind.format .f64).order a0 a1 == some .gt) then some 1 else some 0
def cmp_isNaN_string (n : Nat) (a0 : ByteArray) : Option (Bool) := at1 n fun n =>
  some (!(sEq a0 a0))
def cmp_Compare_string (n : Nat) (a0 : ByteArray) (a1 : ByteArray) : Option (Int) := at1 n fun n =>
  (cmp_isNaN_string n a0).bind fun x1 => (cmp_isNaN_string n a1).bind fun x3 => bif x1 then bif x3 then some 0 else some (-1) else bif x3 then some 1 else bif (sLt a0 a1) then some (-1) else bif (!(sLt a0 a1 || sEq a0 a1)) then some 1 else some 0
def cmp_isNaN_int64 (n : Nat) (a0 : Int) : Option (Bool) := at1 n fun n =>
  some (a0 != a0)
def cmp_Compare_int64 (n : Nat) (a0 : Int) (a1 : Int) : Option (Int) := at1 n fun n =>
  (cmp_isNaN_int64 n a0).bind fun x1 => (cmp_isNaN_int64 n a1).bind fun x3 => bif x1 then bif x3 then some 0 else some (-1) else bif x3 then some 1 else bif (decide (a0 < a1)) then some (-1) else bif (decide (a0 > a1)) then some 1 else some 0
def value_Cmp (n : Nat) (a0 : api_Value) (a1 : api_Value) : Option (Int) := at1 n fun n =>
  (value_Plain n a0).bind fun x1 => (value_Plain n a1).bind fun x3 => bif (x1.fKind != x3.fKind) then (cmp_Compare_int n x1.fKind x3.fKind).bind fun x6 => some x6 else bif (x1.fKind == 3) then (value_floats n x1.fFloat x3.fFloat).bind fun x9 => some x9 else bif (x1.fKind == 4) then (cmp_Compare_string n x1.fText x3.fText).bind fun x12 => some x12 else (cmp_Compare_int64 n x1.fInt x3.fInt).bind fun x14 => some x14
def slices_order2CmpFunc_Value_value_Cmp (n : Nat) (a0 : Int) (a1 : (Option (List api_Value))) (a2 : Int) (a3 : Int) : Option (Int × Int × Int) := at1 n fun n =>
  (idx (sll a1) a3).bind fun x1 => (idx (sll a1) a2).bind fun x3 => (value_Cmp n x1 x3).bind fun x5 => bif (decide (x5 < 0)) then some ((IntKind.wrap .i64 (a0 + 1)), a3, a2) else some (a0, a2, a3)
def slices_medianCmpFunc_Value_value_Cmp (n : Nat) (a0 : Int) (a1 : (Option (List api_Value))) (a2 : Int) (a3 : Int) (a4 : Int) : Option (Int × Int) := at1 n fun n =>
  (slices_order2CmpFunc_Value_value_Cmp n a0 a1 a2 a3).bind fun (x2, x3, x4) => (slices_order2CmpFunc_Value_value_Cmp n x2 a1 x4 a4).bind fun (x6, x7, x8) => (slices_order2CmpFunc_Value_value_Cmp n x6 a1 x3 x7).bind fun (x10, x11, x12) => some (x10, x12)
def slices_medianAdjacentCmpFunc_Value_value_Cmp (n : Nat) (a0 : Int) (a1 : (Option (List api_Value))) (a2 : Int) : Option (Int × Int) := at1 n fun n =>
  (slices_medianCmpFunc_Value_value_Cmp n a0 a1 (IntKind.wrap .i64 (a2 - 1)) a2 (IntKind.wrap .i64 (a2 + 1))).bind fun (x2, x3) => some (x2, x3)
def slices_choosePivotCmpFunc_Value_value_Cmp (n : Nat) (a0 : (Option (List api_Value))) (a1 : Int) (a2 : Int) : Option (Int × Int) := at1 n fun n =>
  withK (fun k9 => bif (decide ((IntKind.wrap .i64 (a2 - a1)) ≥ 8)) then withK (fun k18 => bif (decide ((IntKind.wrap .i64 (a2 - a1)) ≥ 50)) then (slices_medianAdjacentCmpFunc_Value_value_Cmp n 0 a0 (IntKind.wrap .i64 (a1 + (IntKind.wrap .i64 ((IntKind.wrap .i64 (Int.tdiv (IntKind.wrap .i64 (a2 - a1)) 4)) * 1))))).bind fun (x24, x25) => (slices_medianAdjacentCmpFunc_Value_value_Cmp n x24 a0 (IntKind.wrap .i64 (a1 + (IntKind.wrap .i64 ((IntKind.wrap .i64 (Int.tdiv (IntKind.wrap .i64 (a2 - a1)) 4)) * 2))))).bind fun (x27, x28) => (slices_medianAdjacentCmpFunc_Value_value_Cmp n x27 a0 (IntKind.wrap .i64 (a1 + (IntKind.wrap .i64 ((IntKind.wrap .i64 (Int.tdiv (IntKind.wrap .i64 (a2 - a1)) 4)) * 3))))).bind fun (x30, x31) => k18 x30 x25 x28 x31 else k18 0 (IntKind.wrap .i64 (a1 + (IntKind.wrap .i64 ((IntKind.wrap .i64 (Int.tdiv (IntKind.wrap .i64 (a2 - a1)) 4)) * 1)))) (IntKind.wrap .i64 (a1 + (IntKind.wrap .i64 ((IntKind.wrap .i64 (Int.tdiv (IntKind.wrap .i64 (a2 - a1)) 4)) * 2)))) (IntKind.wrap .i64 (a1 + (IntKind.wrap .i64 ((IntKind.wrap .i64 (Int.tdiv (IntKind.wrap .i64 (a2 - a1)) 4)) * 3))))) (fun (y14 : Int) (y15 : Int) (y16 : Int) (y17 : Int) => (slices_medianCmpFunc_Value_value_Cmp n y14 a0 y15 y16 y17).bind fun (x20, x21) => k9 x20 x21) else k9 0 (IntKind.wrap .i64 (a1 + (IntKind.wrap .i64 ((IntKind.wrap .i64 (Int.tdiv (IntKind.wrap .i64 (a2 - a1)) 4)) * 2))))) (fun (y7 : Int) (y8 : Int) => bif (y7 == 0) then some (y8, 1) else bif (y7 == 12) then some (y8, 2) else some (y8, 0))
def slices_reverseRangeCmpFunc_Value_value_Cmp_nil_l2 (n : Nat) (a0 : Int) (a1 : Int) : Nat → Option (Unit)
  | 0 => none
  | m1 + 1 => bif (decide (a0 < (IntKind.wrap .i64 (a1 - 1)))) then none else some ()
def slices_reverseRangeCmpFunc_Value_value_Cmp_nil (n : Nat) (a0 : Int) (a1 : Int) : Option (Unit) := at1 n fun n =>
  slices_reverseRangeCmpFunc_Value_value_Cmp_nil_l2 n a0 a1 n
def slices_partialInsertionSortCmpFunc_Value_value_Cmp_nil_l5 (n : Nat) (a0 : Int) (a1 : Int) (k2 : (Unit → Option (Bool))) : Nat → Option (Bool)
  | 0 => none
  | m5 + 1 => bif (decide ((IntKind.wrap .i64 (a0 + 1)) < a1)) then none else k2 ()
def slices_partialInsertionSortCmpFunc_Value_value_Cmp_nil_l3 (n : Nat) (a0 : Int) (a1 : Int) : Nat → Option (Bool)
  | 0 => none
  | m1 + 1 => withK (fun k2 => slices_partialInsertionSortCmpFunc_Value_value_Cmp_nil_l5 n a0 a1 k2 n) (fun (_ : Unit) => bif ((IntKind.wrap .i64 (a0 + 1)) == a1) then some true else bif (decide ((IntKind.wrap .i64 (a1 - a0)) < 50)) then some false else none)
def slices_partialInsertionSortCmpFunc_Value_value_Cmp_nil (n : Nat) (a0 : Int) (a1 : Int) : Option (Bool) := at1 n fun n =>
  slices_partialInsertionSortCmpFunc_Value_value_Cmp_nil_l3 n a0 a1 n
def slices_pdqsortCmpFunc_Value_value_Cmp_nil_l2 (n : Nat) (a0 : Int) (a1 : Int) (a2 : Int) : Nat → Option (Unit)
  | 0 => none
  | m1 + 1 => bif (decide ((IntKind.wrap .i64 (a1 - a0)) ≤ 12)) then (slices_insertionSortCmpFunc_Value_value_Cmp_nil n a0 a1).bind fun _ => some () else bif (a2 == 0) then (slices_heapSortCmpFunc_Value_value_Cmp_nil n a0 a1).bind fun _ => some () else (slices_choosePivotCmpFunc_Value_value_Cmp n none a0 a1).bind fun x6 => withK (fun k11 => bif (x6.2 == 2) then (slices_reverseRangeCmpFunc_Value_value_Cmp_nil n a0 a1).bind fun _ => k11 1 else k11 x6.2) (fun (y10 : Int) => withK (fun k14 => bif (y10 == 1) then (slices_partialInsertionSortCmpFunc_Value_value_Cmp_nil n a0 a1).bind fun x18 => bif x18 then some () else k14 () else k14 ()) (fun (_ : Unit) => bif (decide (a0 > 0)) then (none) else (none)))
def slices_pdqsortCmpFunc_Value_value_Cmp_nil (n : Nat) (a0 : Int) (a1 : Int) (a2 : Int) : Option (Unit) := at1 n fun n =>
  slices_pdqsortCmpFunc_Value_value_Cmp_nil_l2 n a0 a1 a2 n
def slices_SortFunc_Value_value_Cmp_nil (n : Nat)  : Option (Unit) := at1 n fun n =>
  (math_bits_Len n 0).bind fun x1 => (slices_pdqsortCmpFunc_Value_value_Cmp_nil n 0 0 x1).bind fun _ => some ()
def slices_insertionSortCmpFunc_Value_value_Cmp_r_l4 (n : Nat) (a1 : Int) (k19 : ((List api_Value) → Option ((List api_Value)))) : Nat → (List api_Value) → Int → Option ((List api_Value))
  | 0, _, _ => none
  | m30 + 1, y25, y26 => bif (decide (y26 > a1)) then (idx y25 y26).bind fun x32 => (idx y25 (IntKind.wrap .i64 (y26 - 1))).bind fun x34 => (value_Cmp n x32 x34).bind fun x36 => bif (decide (x36 < 0)) then (idx (y25.set (Int.toNat y26) x34) (IntKind.wrap .i64 (y26 - 1))).bind fun x39 => slices_insertionSortCmpFunc_Value_value_Cmp_r_l4 n a1 k19 m30 ((y25.set (Int.toNat y26) x34).set (Int.toNat (IntKind.wrap .i64 (y26 - 1))) x32) (IntKind.wrap .i64 (y26 - 1)) else k19 y25 else k19 y25
def slices_insertionSortCmpFunc_Value_value_Cmp_r_l1 (n : Nat) (a1 : Int) (a2 : Int) : Nat → (List api_Value) → Int → Option ((List api_Value))
  | 0, _, _ => none
  | m11 + 1, y6, y7 => bif (decide (y7 < a2)) then withK (fun k19 => slices_insertionSortCmpFunc_Value_value_Cmp_r_l4 n a1 k19 n y6 y7) (fun (y13 : (List api_Value)) => slices_insertionSortCmpFunc_Value_value_Cmp_r_l1 n a1 a2 m11 y13 (IntKind.wrap .i64 (y7 + 1))) else some y6
def slices_insertionSortCmpFunc_Value_value_Cmp_r (n : Nat) (a0 : (List api_Value)) (a1 : Int) (a2 : Int) : Option ((List api_Value)) := at1 n fun n =>
  slices_insertionSortCmpFunc_Value_value_Cmp_r_l1 n a1 a2 n a0 (IntKind.wrap .i64 (a1 + 1))
def slices_siftDownCmpFunc_Value_value_Cmp_r_l1 (n : Nat) (a2 : Int) (a3 : Int) : Nat → (List api_Value) → Int → Option ((List api_Value))
  | 0, _, _ => none
  | m11 + 1, y6, y7 => bif (decide ((IntKind.wrap .i64 ((IntKind.wrap .i64 (2 * y7)) + 1)) ≥ a2)) then some y6 else withK (fun k15 => bif (decide ((IntKind.wrap .i64 ((IntKind.wrap .i64 ((IntKind.wrap .i64 (2 * y7)) + 1)) + 1)) < a2)) then (idx y6 (IntKind.wrap .i64 (a3 + (IntKind.wrap .i64 ((IntKind.wrap .i64 (2 * y7)) + 1))))).bind fun x26 => (idx y6 (IntKind.wrap .i64 ((IntKind.wrap .i64 (a3 + (IntKind.wrap .i64 ((IntKind.wrap .i64 (2 * y7)) + 1)))) + 1))).bind fun x28 => (value_Cmp n x26 x28).bind fun x30 => bif (decide (x30 < 0)) then k15 (IntKind.wrap .i64 ((IntKind.wrap .i64 ((IntKind.wrap .i64 (2 * y7)) + 1)) + 1)) else k15 (IntKind.wrap .i64 ((IntKind.wrap .i64 (2 * y7)) + 1)) else k15 (IntKind.wrap .i64 ((IntKind.wrap .i64 (2 * y7)) + 1))) (fun (y14 : Int) => (idx y6 (IntKind.wrap .i64 (a3 + y7))).bind fun x16 => (idx y6 (IntKind.wrap .i64 (a3 + y14))).bind fun x18 => (value_Cmp n x16 x18).bind fun x20 => bif (!(decide (x20 < 0))) then some y6 else (idx (y6.set (Int.toNat (IntKind.wrap .i64 (a3 + y7))) x18) (IntKind.wrap .i64 (a3 + y14))).bind fun x23 => slices_siftDownCmpFunc_Value_value_Cmp_r_l1 n a2 a3 m11 ((y6.set (Int.toNat (IntKind.wrap .i64 (a3 + y7))) x18).set (Int.toNat (IntKind.wrap .i64 (a3 + y14))) x16) y14)
def slices_siftDownCmpFunc_Value_value_Cmp_r (n : Nat) (a0 : (List api_Value)) (a1 : Int) (a2 : Int) (a3 : Int) : Option ((List api_Value)) := at1 n fun n =>
  slices_siftDownCmpFunc_Value_value_Cmp_r_l1 n a2 a3 n a0 a1
def slices_heapSortCmpFunc_Value_value_Cmp_r_l8 (n : Nat) (a1 : Int) : Nat → (List api_Value) → Int → Option ((List api_Value))
  | 0, _, _ => none
  | m18 + 1, y13, y14 => bif (decide (y14 ≥ 0)) then (idx y13 (IntKind.wrap .i64 (a1 + y14))).bind fun x20 => (idx y13 a1).bind fun x22 => (idx (y13.set (Int.toNat a1) x20) (IntKind.wrap .i64 (a1 + y14))).bind fun x24 => (slices_siftDownCmpFunc_Value_value_Cmp_r n ((y13.set (Int.toNat a1) x20).set (Int.toNat (IntKind.wrap .i64 (a1 + y14))) x22) 0 y14 a1).bind fun x27 => slices_heapSortCmpFunc_Value_value_Cmp_r_l8 n a1 m18 x27 (IntKind.wrap .i64 (y14 - 1)) else some y13
def slices_heapSortCmpFunc_Value_value_Cmp_r_l4 (n : Nat) (a1 : Int) (a2 : Int) (k7 : ((List api_Value) → Option ((List api_Value)))) : Nat → (List api_Value) → Int → Option ((List api_Value))
  | 0, _, _ => none
  | m41 + 1, y36, y37 => bif (decide (y37 ≥ 0)) then (slices_siftDownCmpFunc_Value_value_Cmp_r n y36 y37 (IntKind.wrap .i64 (a2 - a1)) a1).bind fun x44 => slices_heapSortCmpFunc_Value_value_Cmp_r_l4 n a1 a2 k7 m41 x44 (IntKind.wrap .i64 (y37 - 1)) else k7 y36
def slices_heapSortCmpFunc_Value_value_Cmp_r (n : Nat) (a0 : (List api_Value)) (a1 : Int) (a2 : Int) : Option ((List api_Value)) := at1 n fun n =>
  withK (fun k7 => slices_heapSortCmpFunc_Value_value_Cmp_r_l4 n a1 a2 k7 n a0 (IntKind.wrap .i64 (Int.tdiv (IntKind.wrap .i64 ((IntKind.wrap .i64 (a2 - a1)) - 1)) 2))) (fun (y1 : (List api_Value)) => slices_heapSortCmpFunc_Value_value_Cmp_r_l8 n a1 n y1 (IntKind.wrap .i64 ((IntKind.wrap .i64 (a2 - a1)) - 1)))
def slices_reverseRangeCmpFunc_Value_value_Cmp_r_l2 (n : Nat)  : Nat → (List api_Value) → Int → Int → Option ((List api_Value))
  | 0, _, _, _ => none
  | m13 + 1, y7, y8, y9 => bif (decide (y8 < y9)) then (idx y7 y9).bind fun x15 => (idx y7 y8).bind fun x17 => (idx (y7.set (Int.toNat y8) x15) y9).bind fun x19 => slices_reverseRangeCmpFunc_Value_value_Cmp_r_l2 n m13 ((y7.set (Int.toNat y8) x15).set (Int.toNat y9) x17) (IntKind.wrap .i64 (y8 + 1)) (IntKind.wrap .i64 (y9 - 1)) else some y7
def slices_reverseRangeCmpFunc_Value_value_Cmp_r (n : Nat) (a0 : (List api_Value)) (a1 : Int) (a2 : Int) : Option ((List api_Value)) := at1 n fun n =>
  slices_reverseRangeCmpFunc_Value_value_Cmp_r_l2 n n a0 a1 (IntKind.wrap .i64 (a2 - 1))
def slices_partialInsertionSortCmpFunc_Value_value_Cmp_r_l20 (n : Nat) (a2 : Int) (k32 : ((List api_Value) → Int → Option ((List api_Value) × Bool))) (y34 : Int) : Nat → (List api_Value) → Int → Option ((List api_Value) × Bool)
  | 0, _, _ => none
  | m64 + 1, y59, y60 => bif (decide (y60 < a2)) then (idx y59 y60).bind fun x66 => (idx y59 (IntKind.wrap .i64 (y60 - 1))).bind fun x68 => (value_Cmp n x66 x68).bind fun x70 => bif (!(decide (x70 < 0))) then k32 y59 y34 else (idx (y59.set (Int.toNat y60) x68) (IntKind.wrap .i64 (y60 - 1))).bind fun x73 => slices_partialInsertionSortCmpFunc_Value_value_Cmp_r_l20 n a2 k32 y34 m64 ((y59.set (Int.toNat y60) x68).set (Int.toNat (IntKind.wrap .i64 (y60 - 1))) x66) (IntKind.wrap .i64 (y60 + 1)) else k32 y59 y34
def slices_partialInsertionSortCmpFunc_Value_value_Cmp_r_l14 (n : Nat) (k52 : ((List api_Value) → Option ((List api_Value) × Bool))) : Nat → (List api_Value) → Int → Option ((List api_Value) × Bool)
  | 0, _, _ => none
  | m86 + 1, y81, y82 => bif (decide (y82 ≥ 1)) then (idx y81 y82).bind fun x88 => (idx y81 (IntKind.wrap .i64 (y82 - 1))).bind fun x90 => (value_Cmp n x88 x90).bind fun x92 => bif (!(decide (x92 < 0))) then k52 y81 else (idx (y81.set (Int.toNat y82) x90) (IntKind.wrap .i64 (y82 - 1))).bind fun x95 => slices_partialInsertionSortCmpFunc_Value_value_Cmp_r_l14 n k52 m86 ((y81.set (Int.toNat y82) x90).set (Int.toNat (IntKind.wrap .i64 (y82 - 1))) x88) (IntKind.wrap .i64 (y82 - 1)) else k52 y81
def slices_partialInsertionSortCmpFunc_Value_value_Cmp_r_l5 (n : Nat) (a2 : Int) (y15 : (List api_Value)) (k35 : (Int → Option ((List api_Value) × Bool))) : Nat → Int → Option ((List api_Value) × Bool)
  | 0, _ => none
  | m99 + 1, y98 => bif (decide (y98 < a2)) then (idx y15 y98).bind fun x101 => (idx y15 (IntKind.wrap .i64 (y98 - 1))).bind fun x103 => (value_Cmp n x101 x103).bind fun x105 => bif (!(decide (x105 < 0))) then slices_partialInsertionSortCmpFunc_Value_value_Cmp_r_l5 n a2 y15 k35 m99 (IntKind.wrap .i64 (y98 + 1)) else k35 y98 else k35 y98
def slices_partialInsertionSortCmpFunc_Value_value_Cmp_r_l3 (n : Nat) (a1 : Int) (a2 : Int) (k8 : ((List api_Value) → Option ((List api_Value) × Bool))) : Nat → (List api_Value) → Int → Int → Option ((List api_Value) × Bool)
  | 0, _, _, _ => none
  | m21 + 1, y15, y16, y17 => bif (decide (y16 < 5)) then withK (fun k32 => withK (fun k35 => slices_partialInsertionSortCmpFunc_Value_value_Cmp_r_l5 n a2 y15 k35 n y17) (fun (y34 : Int) => bif (y34 == a2) then some (y15, true) else bif (decide ((IntKind.wrap .i64 (a2 - a1)) < 50)) then some (y15, false) else (idx y15 (IntKind.wrap .i64 (y34 - 1))).bind fun x38 => (idx y15 y34).bind fun x40 => (idx (y15.set (Int.toNat y34) x38) (IntKind.wrap .i64 (y34 - 1))).bind fun x42 => withK (fun k52 => bif (decide ((IntKind.wrap .i64 (y34 - a1)) ≥ 2)) then slices_partialInsertionSortCmpFunc_Value_value_Cmp_r_l14 n k52 n ((y15.set (Int.toNat y34) x38).set (Int.toNat (IntKind.wrap .i64 (y34 - 1))) x40) (IntKind.wrap .i64 (y34 - 1)) else k52 ((y15.set (Int.toNat y34) x38).set (Int.toNat (IntKind.wrap .i64 (y34 - 1))) x40)) (fun (y48 : (List api_Value)) => bif (decide ((IntKind.wrap .i64 (a2 - y34)) ≥ 2)) then slices_partialInsertionSortCmpFunc_Value_value_Cmp_r_l20 n a2 k32 y34 n y48 (IntKind.wrap .i64 (y34 + 1)) else k32 y48 y34))) (fun (y27 : (List api_Value)) (y28 : Int) => slices_partialInsertionSortCmpFunc_Value_value_Cmp_r_l3 n a1 a2 k8 m21 y27 (IntKind.wrap .i64 (y16 + 1)) y28) else k8 y15
def slices_partialInsertionSortCmpFunc_Value_value_Cmp_r (n : Nat) (a0 : (List api_Value)) (a1 : Int) (a2 : Int) : Option ((List api_Value) × Bool) := at1 n fun n =>
  withK (fun k8 => slices_partialInsertionSortCmpFunc_Value_value_Cmp_r_l3 n a1 a2 k8 n a0 0 (IntKind.wrap .i64 (a1 + 1))) (fun (y1 : (List api_Value)) => some (y1, false))
def slices_partitionEqualCmpFunc_Value_value_Cmp_r_l5 (n : Nat) (a1 : Int) (y21 : (List api_Value)) (y28 : Int) (k33 : (Int → Option ((List api_Value) × Int))) : Nat → Int → Option ((List api_Value) × Int)
  | 0, _ => none
  | m43 + 1, y42 => bif (decide (y28 ≤ y42)) then (idx y21 a1).bind fun x45 => (idx y21 y42).bind fun x47 => (value_Cmp n x45 x47).bind fun x49 => bif (decide (x49 < 0)) then slices_partitionEqualCmpFunc_Value_value_Cmp_r_l5 n a1 y21 y28 k33 m43 (IntKind.wrap .i64 (y42 - 1)) else k33 y42 else k33 y42
def slices_partitionEqualCmpFunc_Value_value_Cmp_r_l3x (n : Nat) (a1 : Int) (y21 : (List api_Value)) (y23 : Int) (k30 : (Int → Option ((List api_Value) × Int))) : Nat → Int → Option ((List api_Value) × Int)
  | 0, _ => none
  | m54 + 1, y53 => bif (decide (y53 ≤ y23)) then (idx y21 a1).bind fun x56 => (idx y21 y53).bind fun x58 => (value_Cmp n x56 x58).bind fun x60 => bif (!(decide (x60 < 0))) then slices_partitionEqualCmpFunc_Value_value_Cmp_r_l3x n a1 y21 y23 k30 m54 (IntKind.wrap .i64 (y53 + 1)) else k30 y53 else k30 y53
def slices_partitionEqualCmpFunc_Value_value_Cmp_r_l3 (n : Nat) (a1 : Int) (k14 : ((List api_Value) → Int → Option ((List api_Value) × Int))) : Nat → (List api_Value) → Int → Int → Option ((List api_Value) × Int)
  | 0, _, _, _ => none
  | m27 + 1, y21, y22, y23 => withK (fun k30 => slices_partitionEqualCmpFunc_Value_value_Cmp_r_l3x n a1 y21 y23 k30 n y22) (fun (y28 : Int) => withK (fun k33 => slices_partitionEqualCmpFunc_Value_value_Cmp_r_l5 n a1 y21 y28 k33 n y23) (fun (y31 : Int) => bif (decide (y28 > y31)) then k14 y21 y28 else (idx y21 y31).bind fun x35 => (idx y21 y28).bind fun x37 => (idx (y21.set (Int.toNat y28) x35) y31).bind fun x39 => slices_partitionEqualCmpFunc_Value_value_Cmp_r_l3 n a1 k14 m27 ((y21.set (Int.toNat y28) x35).set (Int.toNat y31) x37) (IntKind.wrap .i64 (y28 + 1)) (IntKind.wrap .i64 (y31 - 1))))
def slices_partitionEqualCmpFunc_Value_value_Cmp_r (n : Nat) (a0 : (List api_Value)) (a1 : Int) (a2 : Int) (a3 : Int) : Option ((List api_Value) × Int) := at1 n fun n =>
  (idx a0 a3).bind fun x1 => (idx a0 a1).bind fun x3 => (idx (a0.set (Int.toNat a1) x1) a3).bind fun x5 => withK (fun k14 => slices_partitionEqualCmpFunc_Value_value_Cmp_r_l3 n a1 k14 n ((a0.set (Int.toNat a1) x1).set (Int.toNat a3) x3) (IntKind.wrap .i64 (a1 + 1)) (IntKind.wrap .i64 (a2 - 1))) (fun (y7 : (List api_Value)) (y8 : Int) => some (y7, y8))
def slices_partitionCmpFunc_Value_value_Cmp_r_l15 (n : Nat) (a1 : Int) (y46 : (List api_Value)) (y53 : Int) (k58 : (Int → Option ((List api_Value) × Int × Bool))) : Nat → Int → Option ((List api_Value) × Int × Bool)
  | 0, _ => none
  | m68 + 1, y67 => bif (decide (y53 ≤ y67)) then (idx y46 y67).bind fun x70 => (idx y46 a1).bind fun x72 => (value_Cmp n x70 x72).bind fun x74 => bif (!(decide (x74 < 0))) then slices_partitionCmpFunc_Value_value_Cmp_r_l15 n a1 y46 y53 k58 m68 (IntKind.wrap .i64 (y67 - 1)) else k58 y67 else k58 y67
def slices_partitionCmpFunc_Value_value_Cmp_r_l13x (n : Nat) (a1 : Int) (y46 : (List api_Value)) (y48 : Int) (k55 : (Int → Option ((List api_Value) × Int × Bool))) : Nat → Int → Option ((List api_Value) × Int × Bool)
  | 0, _ => none
  | m79 + 1, y78 => bif (decide (y78 ≤ y48)) then (idx y46 y78).bind fun x81 => (idx y46 a1).bind fun x83 => (value_Cmp n x81 x83).bind fun x85 => bif (decide (x85 < 0)) then slices_partitionCmpFunc_Value_value_Cmp_r_l13x n a1 y46 y48 k55 m79 (IntKind.wrap .i64 (y78 + 1)) else k55 y78 else k55 y78
def slices_partitionCmpFunc_Value_value_Cmp_r_l13 (n : Nat) (a1 : Int) (k33 : ((List api_Value) → Int → Option ((List api_Value) × Int × Bool))) : Nat → (List api_Value) → Int → Int → Option ((List api_Value) × Int × Bool)
  | 0, _, _, _ => none
  | m52 + 1, y46, y47, y48 => withK (fun k55 => slices_partitionCmpFunc_Value_value_Cmp_r_l13x n a1 y46 y48 k55 n y47) (fun (y53 : Int) => withK (fun k58 => slices_partitionCmpFunc_Value_value_Cmp_r_l15 n a1 y46 y53 k58 n y48) (fun (y56 : Int) => bif (decide (y53 > y56)) then k33 y46 y56 else (idx y46 y56).bind fun x60 => (idx y46 y53).bind fun x62 => (idx (y46.set (Int.toNat y53) x60) y56).bind fun x64 => slices_partitionCmpFunc_Value_value_Cmp_r_l13 n a1 k33 m52 ((y46.set (Int.toNat y53) x60).set (Int.toNat y56) x62) (IntKind.wrap .i64 (y53 + 1)) (IntKind.wrap .i64 (y56 - 1))))
def slices_partitionCmpFunc_Value_value_Cmp_r_l5 (n : Nat) (a0 : (List api_Value)) (a1 : Int) (a3 : Int) (x1 : api_Value) (x3 : api_Value) (y7 : Int) (k12 : (Int → Option ((List api_Value) × Int × Bool))) : Nat → Int → Option ((List api_Value) × Int × Bool)
  | 0, _ => none
  | m90 + 1, y89 => bif (decide (y7 ≤ y89)) then (idx ((a0.set (Int.toNat a1) x1).set (Int.toNat a3) x3) y89).bind fun x92 => (idx ((a0.set (Int.toNat a1) x1).set (Int.toNat a3) x3) a1).bind fun x94 => (value_Cmp n x92 x94).bind fun x96 => bif (!(decide (x96 < 0))) then slices_partitionCmpFunc_Value_value_Cmp_r_l5 n a0 a1 a3 x1 x3 y7 k12 m90 (IntKind.wrap .i64 (y89 - 1)) else k12 y89 else k12 y89
def slices_partitionCmpFunc_Value_value_Cmp_r_l3 (n : Nat) (a0 : (List api_Value)) (a1 : Int) (a2 : Int) (a3 : Int) (x1 : api_Value) (x3 : api_Value) (k9 : (Int → Option ((List api_Value) × Int × Bool))) : Nat → Int → Option ((List api_Value) × Int × Bool)
  | 0, _ => none
  | m101 + 1, y100 => bif (decide (y100 ≤ (IntKind.wrap .i64 (a2 - 1)))) then (idx ((a0.set (Int.toNat a1) x1).set (Int.toNat a3) x3) y100).bind fun x103 => (idx ((a0.set (Int.toNat a1) x1).set (Int.toNat a3) x3) a1).bind fun x105 => (value_Cmp n x103 x105).bind fun x107 => bif (decide (x107 < 0)) then slices_partitionCmpFunc_Value_value_Cmp_r_l3 n a0 a1 a2 a3 x1 x3 k9 m101 (IntKind.wrap .i64 (y100 + 1)) else k9 y100 else k9 y100
def slices_partitionCmpFunc_Value_value_Cmp_r (n : Nat) (a0 : (List api_Value)) (a1 : Int) (a2 : Int) (a3 : Int) : Option ((List api_Value) × Int × Bool) := at1 n fun n =>
  (idx a0 a3).bind fun x1 => (idx a0 a1).bind fun x3 => (idx (a0.set (Int.toNat a1) x1) a3).bind fun x5 => withK (fun k9 => slices_partitionCmpFunc_Value_value_Cmp_r_l3 n a0 a1 a2 a3 x1 x3 k9 n (IntKind.wrap .i64 (a1 + 1))) (fun (y7 : Int) => withK (fun k12 => slices_partitionCmpFunc_Value_value_Cmp_r_l5 n a0 a1 a3 x1 x3 y7 k12 n (IntKind.wrap .i64 (a2 - 1))) (fun (y10 : Int) => bif (decide (y7 > y10)) then (idx ((a0.set (Int.toNat a1) x1).set (Int.toNat a3) x3) a1).bind fun x14 => (idx ((a0.set (Int.toNat a1) x1).set (Int.toNat a3) x3) y10).bind fun x16 => (idx (((a0.set (Int.toNat a1) x1).set (Int.toNat a3) x3).set (Int.toNat y10) x14) a1).bind fun x18 => some (((((a0.set (Int.toNat a1) x1).set (Int.toNat a3) x3).set (Int.toNat y10) x14).set (Int.toNat a1) x16), y10, true) else (idx ((a0.set (Int.toNat a1) x1).set (Int.toNat a3) x3) y10).bind fun x20 => (idx ((a0.set (Int.toNat a1) x1).set (Int.toNat a3) x3) y7).bind fun x22 => (idx (((a0.set (Int.toNat a1) x1).set (Int.toNat a3) x3).set (Int.toNat y7) x20) y10).bind fun x24 => withK (fun k33 => slices_partitionCmpFunc_Value_value_Cmp_r_l13 n a1 k33 n ((((a0.set (Int.toNat a1) x1).set (Int.toNat a3) x3).set (Int.toNat y7) x20).set (Int.toNat y10) x22) (IntKind.wrap .i64 (y7 + 1)) (IntKind.wrap .i64 (y10 - 1))) (fun (y26 : (List api_Value)) (y28 : Int) => (idx y26 a1).bind fun x34 => (idx y26 y28).bind fun x36 => (idx (y26.set (Int.toNat y28) x34) a1).bind fun x38 => some (((y26.set (Int.toNat y28) x34).set (Int.toNat a1) x36), y28, false))))
def slices_nextPowerOfTwo (n : Nat) (a0 : Int) : Option (Int) := at1 n fun n =>
  (math_bits_Len n (IntKind.wrap .u64 a0)).bind fun x1 => (ckN x1).bind fun _ => some (iShl .u64 1 x1)
def slices_xorshift_Next (n : Nat) (a0 : Int) : Option (Unit) := at1 n fun n =>
  some ()
def slices_breakPatternsCmpFunc_Value_value_Cmp_r_l5 (n : Nat) (a1 : Int) (a2 : Int) (x2 : Int) : Nat → (List api_Value) → Int → Int → Option ((List api_Value))
  | 0, _, _, _ => none
  | m16 + 1, y10, y11, y12 => bif (decide (y12 ≤ (IntKind.wrap .i64 ((IntKind.wrap .i64 (a1 + (IntKind.wrap .i64 ((IntKind.wrap .i64 (Int.tdiv (IntKind.wrap .i64 (a2 - a1)) 4)) * 2)))) + 1)))) then (slices_xorshift_Next n y11).bind fun _ => withK (fun k21 => bif (decide ((IntKind.wrap .i64 (iAnd .u64 (iXor .u64 (iXor .u64 (iXor .u64 y11 (iShl .u64 y11 13)) (iShr .u64 (iXor .u64 y11 (iShl .u64 y11 13)) 7)) (iShl .u64 (iXor .u64 (iXor .u64 y11 (iShl .u64 y11 13)) (iShr .u64 (iXor .u64 y11 (iShl .u64 y11 13)) 7)) 17)) (IntKind.wrap .u64 (x2 - 1)))) ≥ (IntKind.wrap .i64 (a2 - a1)))) then k21 (IntKind.wrap .i64 ((IntKind.wrap .i64 (iAnd .u64 (iXor .u64 (iXor .u64 (iXor .u64 y11 (iShl .u64 y11 13)) (iShr .u64 (iXor .u64 y11 (iShl .u64 y11 13)) 7)) (iShl .u64 (iXor .u64 (iXor .u64 y11 (iShl .u64 y11 13)) (iShr .u64 (iXor .u64 y11 (iShl .u64 y11 13)) 7)) 17)) (IntKind.wrap .u64 (x2 - 1)))) - (IntKind.wrap .i64 (a2 - a1)))) else k21 (IntKind.wrap .i64 (iAnd .u64 (iXor .u64 (iXor .u64 (iXor .u64 y11 (iShl .u64 y11 13)) (iShr .u64 (iXor .u64 y11 (iShl .u64 y11 13)) 7)) (iShl .u64 (iXor .u64 (iXor .u64 y11 (iShl .u64 y11 13)) (iShr .u64 (iXor .u64 y11 (iShl .u64 y11 13)) 7)) 17)) (IntKind.wrap .u64 (x2 - 1))))) (fun (y20 : Int) => (idx y10 (IntKind.wrap .i64 (a1 + y20))).bind fun x22 => (idx y10 y12).bind fun x24 => (idx (y10.set (Int.toNat y12) x22) (IntKind.wrap .i64 (a1 + y20))).bind fun x26 => slices_breakPatternsCmpFunc_Value_value_Cmp_r_l5 n a1 a2 x2 m16 ((y10.set (Int.toNat y12) x22).set (Int.toNat (IntKind.wrap .i64 (a1 + y20))) x24) (iXor .u64 (iXor .u64 (iXor .u64 y11 (iShl .u64 y11 13)) (iShr .u64 (iXor .u64 y11 (iShl .u64 y11 13)) 7)) (iShl .u64 (iXor .u64 (iXor .u64 y11 (iShl .u64 y11 13)) (iShr .u64 (iXor .u64 y11 (iShl .u64 y11 13)) 7)) 17)) (IntKind.wrap .i64 (y12 + 1))) else some y10
def slices_breakPatternsCmpFunc_Value_value_Cmp_r (n : Nat) (a0 : (List api_Value)) (a1 : Int) (a2 : Int) : Option ((List api_Value)) := at1 n fun n =>
  bif (decide ((IntKind.wrap .i64 (a2 - a1)) ≥ 8)) then (slices_nextPowerOfTwo n (IntKind.wrap .i64 (a2 - a1))).bind fun x2 => slices_breakPatternsCmpFunc_Value_value_Cmp_r_l5 n a1 a2 x2 n a0 (IntKind.wrap .u64 (IntKind.wrap .i64 (a2 - a1))) (IntKind.wrap .i64 ((IntKind.wrap .i64 (a1 + (IntKind.wrap .i64 ((IntKind.wrap .i64 (Int.tdiv (IntKind.wrap .i64 (a2 - a1)) 4)) * 2)))) - 1)) else some a0
def slices_pdqsortCmpFunc_Value_value_Cmp_r_l2 (n : Nat) (rc_slices_pdqsortCmpFunc_Value_value_Cmp_r : (Nat → (List api_Value) → Int → Int → Int → Option ((List api_Value)))) : Nat → (List api_Value) → Int → Bool → Bool → Int → Int → Option ((List api_Value))
  | 0, _, _, _, _, _, _ => none
  | m27 + 1, y18, y19, y20, y21, y22, y23 => bif (decide ((IntKind.wrap .i64 (y22 - y19)) ≤ 12)) then (slices_insertionSortCmpFunc_Value_value_Cmp_r n y18 y19 y22).bind fun x30 => some x30 else bif (y23 == 0) then (slices_heapSortCmpFunc_Value_value_Cmp_r n y18 y19 y22).bind fun x36 => some x36 else withK (fun k46 => bif (!y20) then (slices_breakPatternsCmpFunc_Value_value_Cmp_r n y18 y19 y22).bind fun x114 => k46 x114 (IntKind.wrap .i64 (y23 - 1)) else k46 y18 y23) (fun (y41 : (List api_Value)) (y42 : Int) => (slices_choosePivotCmpFunc_Value_value_Cmp n (some y41) y19 y22).bind fun x47 => withK (fun k56 => bif (x47.2 == 2) then (slices_reverseRangeCmpFunc_Value_value_Cmp_r n y41 y19 y22).bind fun x108 => k56 x108 (IntKind.wrap .i64 ((IntKind.wrap .i64 (y22 - 1)) - (IntKind.wrap .i64 (x47.1 - y19)))) 1 else k56 y41 x47.1 x47.2) (fun (y50 : (List api_Value)) (y51 : Int) (y52 : Int) => withK (fun k63 => bif ((y20 && y21) && (y52 == 1)) then (slices_partialInsertionSortCmpFunc_Value_value_Cmp_r n y50 y19 y22).bind fun (x100, x101) => bif x101 then some x100 else k63 x100 else k63 y50) (fun (y59 : (List api_Value)) => withK (fun k65 => bif (decide (y19 > 0)) then (idx y59 (IntKind.wrap .i64 (y19 - 1))).bind fun x92 => (idx y59 y51).bind fun x94 => (value_Cmp n x92 x94).bind fun x96 => k65 (!(decide (x96 < 0))) else k65 false) (fun (y64 : Bool) => bif y64 then (slices_partitionEqualCmpFunc_Value_value_Cmp_r n y59 y19 y22 y51).bind fun (x68, x69) => slices_pdqsortCmpFunc_Value_value_Cmp_r_l2 n rc_slices_pdqsortCmpFunc_Value_value_Cmp_r m27 x68 x69 y20 y21 y22 y42 else (slices_partitionCmpFunc_Value_value_Cmp_r n y59 y19 y22 y51).bind fun (x74, x75, x76) => bif (decide ((IntKind.wrap .i64 (x75 - y19)) < (IntKind.wrap .i64 (y22 - x75)))) then (rc_slices_pdqsortCmpFunc_Value_value_Cmp_r n x74 y19 x75 y42).bind fun x82 => slices_pdqsortCmpFunc_Value_value_Cmp_r_l2 n rc_slices_pdqsortCmpFunc_Value_value_Cmp_r m27 x82 (IntKind.wrap .i64 (x75 + 1)) (decide ((IntKind.wrap .i64 (x75 - y19)) ≥ (IntKind.wrap .i64 (Int.tdiv (IntKind.wrap .i64 (y22 - y19)) 8)))) x76 y22 y42 else (rc_slices_pdqsortCmpFunc_Value_value_Cmp_r n x74 (IntKind.wrap .i64 (x75 + 1)) y22 y42).bind fun x87 => slices_pdqsortCmpFunc_Value_value_Cmp_r_l2 n rc_slices_pdqsortCmpFunc_Value_value_Cmp_r m27 x87 y19 (decide ((IntKind.wrap .i64 (y22 - x75)) ≥ (IntKind.wrap .i64 (Int.tdiv (IntKind.wrap .i64 (y22 - y19)) 8)))) x76 x75 y42))))
def slices_pdqsortCmpFunc_Value_value_Cmp_r_f (rc_slices_pdqsortCmpFunc_Value_value_Cmp_r : (Nat → (List api_Value) → Int → Int → Int → Option ((List api_Value)))) (n : Nat) (a0 : (List api_Value)) (a1 : Int) (a2 : Int) (a3 : Int) : Option ((List api_Value)) := at1 n fun n =>
  slices_pdqsortCmpFunc_Value_value_Cmp_r_l2 n rc_slices_pdqsortCmpFunc_Value_value_Cmp_r n a0 a1 true true a2 a3
def slices_pdqsortCmpFunc_Value_value_Cmp_r_t : Nat → Nat → (List api_Value) → Int → Int → Int → Option ((List api_Value))
  | 0 => fun _ _ _ _ _ => none
  | m + 1 => slices_pdqsortCmpFunc_Value_value_Cmp_r_f (slices_pdqsortCmpFunc_Value_value_Cmp_r_t m)
def slices_pdqsortCmpFunc_Value_value_Cmp_r (n : Nat) (a0 : (List api_Value)) (a1 : Int) (a2 : Int) (a3 : Int) : Option ((List api_Value)) := slices_pdqsortCmpFunc_Value_value_Cmp_r_t n n a0 a1 a2 a3
def slices_SortFunc_Value_value_Cmp_r (n : Nat) (a0 : (List api_Value)) : Option ((List api_Value)) := at1 n fun n =>
  (math_bits_Len n (IntKind.wrap .u64 (a0.length : Int))).bind fun x1 => (slices_pdqsortCmpFunc_Value_value_Cmp_r n a0 0 (a0.length : Int) x1).bind fun x4 => some x4
def hist_sorted_l3 (n : Nat) (a0 : (Option (List api_Value))) (k4 : ((Option (List api_Value)) → Option ((Option (List api_Value)) × Bool))) : Nat → (Option (List api_Value)) → Int → Option ((Option (List api_Value)) × Bool)
  | 0, _, _ => none
  | m15 + 1, none, y14 => bif (decide (y14 < ((sll a0).length : Int))) then (idx (sll a0) y14).bind fun x17 => (value_Right n x17).bind fun x19 => bif (!x19) then some (none, false) else bif (x17.fKind == 0) then hist_sorted_l3 n a0 k4 m15 none (IntKind.wrap .i64 (y14 + 1)) else (value_Plain n x17).bind fun x23 => (ckA 40 ([x23] : List api_Value).length).bind fun _ => hist_sorted_l3 n a0 k4 m15 (some ([x23] : List api_Value)) (IntKind.wrap .i64 (y14 + 1)) else k4 none
  | m15 + 1, (some y13), y14 => bif (decide (y14 < ((sll a0).length : Int))) then (idx (sll a0) y14).bind fun x27 => (value_Right n x27).bind fun x29 => bif (!x29) then some (none, false) else bif (x27.fKind == 0) then hist_sorted_l3 n a0 k4 m15 (some y13) (IntKind.wrap .i64 (y14 + 1)) else bif (decide ((y13.length : Int) > 0)) then (idx y13 0).bind fun x34 => bif (x34.fKind != x27.fKind) then some (none, false) else (value_Plain n x27).bind fun x37 => (ckA 40 (y13 ++ ([x37] : List api_Value)).length).bind fun _ => hist_sorted_l3 n a0 k4 m15 (some (y13 ++ ([x37] : List api_Value))) (IntKind.wrap .i64 (y14 + 1)) else (value_Plain n x27).bind fun x40 => (ckA 40 (y13 ++ ([x40] : List api_Value)).length).bind fun _ => hist_sorted_l3 n a0 k4 m15 (some (y13 ++ ([x40] : List api_Value))) (IntKind.wrap .i64 (y14 + 1)) else k4 (some y13)
def hist_sorted (n : Nat) (a0 : (Option (List api_Value))) : Option ((Option (List api_Value)) × Bool) := at1 n fun n =>
  withK (fun (k4 : (Option (List api_Value)) → Option ((Option (List api_Value)) × Bool)) => hist_sorted_l3 n a0 k4 n none 0) (fun | none => (slices_SortFunc_Value_value_Cmp_nil n).bind fun _ => some (none, true) | (some y3) => (slices_SortFunc_Value_value_Cmp_r n y3).bind fun x7 => some ((some x7), true))
def value_Same (n : Nat) (a0 : api_Value) (a1 : api_Value) : Option (Bool) := at1 n fun n =>
  (value_Cmp n a0 a1).bind fun x1 => some (x1 == 0)
def hist_cut_l6 (n : Nat) (a0 : (Option (List api_Value))) (y1 : Int) (k11 : (Int → Option (hist_Bucket))) : Nat → Int → Int → Option (hist_Bucket)
  | 0, _, _ => none
  | m16 + 1, y14, y15 => bif (decide (y15 < y1)) then (idx (sll a0) y15).bind fun x18 => (idx (sll a0) (IntKind.wrap .i64 (y15 - 1))).bind fun x20 => (value_Same n x18 x20).bind fun x22 => bif (!x22) then hist_cut_l6 n a0 y1 k11 m16 (IntKind.wrap .i64 (y14 + 1)) (IntKind.wrap .i64 (y15 + 1)) else hist_cut_l6 n a0 y1 k11 m16 y14 (IntKind.wrap .i64 (y15 + 1)) else k11 y14
def hist_cut_l2 (n : Nat) (a0 : (Option (List api_Value))) (k3 : (Int → Option (hist_Bucket))) : Nat → Int → Option (hist_Bucket)
  | 0, _ => none
  | m27 + 1, y26 => bif (decide (y26 < ((sll a0).length : Int))) then (idx (sll a0) y26).bind fun x29 => (idx (sll a0) (IntKind.wrap .i64 (y26 - 1))).bind fun x31 => (value_Same n x29 x31).bind fun x33 => bif x33 then hist_cut_l2 n a0 k3 m27 (IntKind.wrap .i64 (y26 + 1)) else k3 y26 else k3 y26
def hist_cut (n : Nat) (a0 : (Option (List api_Value))) (a1 : Int) : Option (hist_Bucket) := at1 n fun n =>
  withK (fun k3 => hist_cut_l2 n a0 k3 n (if ((sll a0).length : Int) < a1 then ((sll a0).length : Int) else a1)) (fun (y1 : Int) => (idx (sll a0) 0).bind fun x4 => (idx (sll a0) (IntKind.wrap .i64 (y1 - 1))).bind fun x6 => withK (fun k11 => hist_cut_l6 n a0 y1 k11 n 1 1) (fun (y8 : Int) => some (hist_Bucket.mk x4 x6 y1 y8)))
def hist_Build_l8 (n : Nat) (a1 : Int) (x2 : ((Option (List api_Value)) × Bool)) (k9 : ((Option (List hist_Bucket)) → Option ((Option (List hist_Bucket)) × Int))) : Nat → (Option (List api_Value)) → (Option (List hist_Bucket)) → Option ((Option (List hist_Bucket)) × Int)
  | 0, _, _ => none
  | m15 + 1, y13, none => bif (decide (((sll y13).length : Int) > 0)) then (hist_cut n y13 (IntKind.wrap .i64 (Int.tdiv (IntKind.wrap .i64 ((IntKind.wrap .i64 (((sll x2.1).length : Int) + a1)) - 1)) a1))).bind fun x17 => (ckA 96 ([x17] : List hist_Bucket).length).bind fun _ => (ckB x17.fCount ((sll y13).length : Int) ((sll y13).length : Int)).bind fun _ => hist_Build_l8 n a1 x2 k9 m15 (subSl y13 x17.fCount ((sll y13).length : Int)) (some ([x17] : List hist_Bucket)) else k9 none
  | m15 + 1, y13, (some y14) => bif (decide (((sll y13).length : Int) > 0)) then (hist_cut n y13 (IntKind.wrap .i64 (Int.tdiv (IntKind.wrap .i64 ((IntKind.wrap .i64 (((sll x2.1).length : Int) + a1)) - 1)) a1))).bind fun x22 => (ckA 96 (y14 ++ ([x22] : List hist_Bucket)).length).bind fun _ => (ckB x22.fCount ((sll y13).length : Int) ((sll y13).length : Int)).bind fun _ => hist_Build_l8 n a1 x2 k9 m15 (subSl y13 x22.fCount ((sll y13).length : Int)) (some (y14 ++ ([x22] : List hist_Bucket))) else k9 (some y14)
def hist_Build (n : Nat) (a0 : (Option (List api_Value))) (a1 : Int) : Option ((Option (List hist_Bucket)) × Int) := at1 n fun n =>
  bif (((decide (a1 < 1)) || (decide (a1 > 50))) || (decide (((sll a0).length : Int) > 400))) then some (none, 2) else (hist_sorted n a0).bind fun x2 => bif (!x2.2) then some (none, 2) else (ckZ a1).bind fun _ => withK (fun (k9 : (Option (List hist_Bucket)) → Option ((Option (List hist_Bucket)) × Int)) => hist_Build_l8 n a1 x2 k9 n x2.1 none) (fun | none => some (none, 0) | (some y8) => some ((some y8), 0))
def hist_plain (n : Nat) (a0 : api_Value) : Option (Bool) := at1 n fun n =>
  (value_Right n a0).bind fun x1 => bif (x1 && (a0.fKind != 0)) then bif ((FloatKind.format .f64).order a0.fFloat 0 != some .eq) then some true else (math_Signbit n a0.fFloat).bind fun x5 => some (!x5) else some false
def hist_sound (n : Nat) (a0 : hist_Bucket) : Option (Bool) := at1 n fun n =>
  (hist_plain n a0.fLow).bind fun x1 => bif (!x1) then some false else (hist_plain n a0.fHigh).bind fun x4 => bif ((!x4) || (a0.fLow.fKind != a0.fHigh.fKind)) then some false else (value_Cmp n a0.fLow a0.fHigh).bind fun x7 => some ((((((decide (x7 ≤ 0)) && (decide (a0.fCount ≥ 1))) && (decide (a0.fCount ≤ 1000000))) && (decide (a0.fDistinct ≥ 1))) && (decide (a0.fDistinct ≤ a0.fCount))) && ((x7 == 0) == (a0.fDistinct == 1)))
def hist_Right_l4 (n : Nat) (a0 : (Option (List hist_Bucket))) (k4 : (Unit → Option (Bool))) : Nat → Int → Option (Bool)
  | 0, _ => none
  | m7 + 1, y6 => bif (decide (y6 < ((sll a0).length : Int))) then (idx (sll a0) y6).bind fun x9 => (hist_sound n x9).bind fun x11 => bif (!x11) then some false else bif (decide (y6 > 0)) then (idx (sll a0) 0).bind fun x15 => bif (x9.fLow.fKind != x15.fLow.fKind) then some false else (idx (sll a0) (IntKind.wrap .i64 (y6 - 1))).bind fun x18 => (value_Cmp n x18.fHigh x9.fLow).bind fun x20 => bif (decide (x20 ≥ 0)) then some false else hist_Right_l4 n a0 k4 m7 (IntKind.wrap .i64 (y6 + 1)) else hist_Right_l4 n a0 k4 m7 (IntKind.wrap .i64 (y6 + 1)) else k4 ()
def hist_Right (n : Nat) (a0 : (Option (List hist_Bucket))) : Option (Bool) := at1 n fun n =>
  bif (decide (((sll a0).length : Int) > 50)) then some false else withK (fun k4 => hist_Right_l4 n a0 k4 n 0) (fun (_ : Unit) => some true)
def hist_find_l4 (n : Nat) (a0 : (Option (List hist_Bucket))) (a1 : api_Value) (k14 : (Int → Option (Int × Int × Bool))) : Nat → Int → Int → Option (Int × Int × Bool)
  | 0, _, _ => none
  | m19 + 1, y17, y18 => bif (decide (y17 < ((sll a0).length : Int))) then (idx (sll a0) y17).bind fun x21 => (value_Cmp n a1 x21.fLow).bind fun x23 => bif (decide (x23 < 0)) then k14 y18 else (value_Cmp n a1 x21.fHigh).bind fun x26 => bif (decide (x26 ≤ 0)) then some (y17, y18, true) else hist_find_l4 n a0 a1 k14 m19 (IntKind.wrap .i64 (y17 + 1)) (IntKind.wrap .i64 (y18 + x21.fCount)) else k14 y18
def hist_find (n : Nat) (a0 : (Option (List hist_Bucket))) (a1 : api_Value) : Option (Int × Int × Bool) := at1 n fun n =>
  (hist_Right n a0).bind fun x1 => bif (!x1) then some (0, 0, false) else (value_Right n a1).bind fun x4 => bif ((!x4) || (a1.fKind == 0)) then some (0, 0, false) else withK (fun k14 => hist_find_l4 n a0 a1 k14 n 0 0) (fun (y13 : Int) => some (0, y13, false))
def hist_each (n : Nat) (a0 : hist_Bucket) : Option (Int) := at1 n fun n =>
  (ckZ a0.fDistinct).bind fun _ => some (IntKind.wrap .i64 (Int.tdiv a0.fCount a0.fDistinct))
def hist_Equal (n : Nat) (a0 : (Option (List hist_Bucket))) (a1 : api_Value) : Option (Int) := at1 n fun n =>
  (hist_find n a0 a1).bind fun x1 => bif (!x1.2.2) then some 0 else (idx (sll a0) x1.1).bind fun x4 => (hist_each n x4).bind fun x6 => some x6
def hist_Total_l4 (n : Nat) (a0 : (Option (List hist_Bucket))) (k8 : (Int → Option (Int))) : Nat → Int → Int → Option (Int)
  | 0, _, _ => none
  | m16 + 1, y14, y15 => bif (decide (y14 < ((sll a0).length : Int))) then (idx (sll a0) y14).bind fun x18 => hist_Total_l4 n a0 k8 m16 (IntKind.wrap .i64 (y14 + 1)) (IntKind.wrap .i64 (y15 + x18.fCount)) else k8 y15
def hist_Total (n : Nat) (a0 : (Option (List hist_Bucket))) : Option (Int) := at1 n fun n =>
  withK (fun k8 => (hist_Right n a0).bind fun x9 => bif x9 then hist_Total_l4 n a0 k8 n 0 0 else k8 0) (fun (y7 : Int) => some y7)
def law19_HistBounds_l32 (n : Nat) (a0 : (Option (List api_Value))) (x37 : hist_Bucket) (k44 : (Int → Option (Bool))) : Nat → Int → Int → Option (Bool)
  | 0, _, _ => none
  | m50 + 1, y48, y49 => bif (decide (y48 < ((sll a0).length : Int))) then (idx (sll a0) y48).bind fun x52 => bif (x52.fKind != 0) then (value_Cmp n x37.fLow x52).bind fun x55 => bif (decide (x55 ≤ 0)) then (value_Cmp n x52 x37.fHigh).bind fun x58 => bif (decide (x58 ≤ 0)) then law19_HistBounds_l32 n a0 x37 k44 m50 (IntKind.wrap .i64 (y48 + 1)) (IntKind.wrap .i64 (y49 + 1)) else law19_HistBounds_l32 n a0 x37 k44 m50 (IntKind.wrap .i64 (y48 + 1)) y49 else law19_HistBounds_l32 n a0 x37 k44 m50 (IntKind.wrap .i64 (y48 + 1)) y49 else law19_HistBounds_l32 n a0 x37 k44 m50 (IntKind.wrap .i64 (y48 + 1)) y49 else k44 y49
def law19_HistBounds_l26 (n : Nat) (a0 : (Option (List api_Value))) (a1 : Int) (x4 : ((Option (List hist_Bucket)) × Int)) (y9 : Int) (y10 : Int) (k20 : (Unit → Option (Bool))) : Nat → Int → Option (Bool)
  | 0, _ => none
  | m23 + 1, y22 => bif (decide (y22 < ((sll x4.1).length : Int))) then withK (fun k36 => (idx (sll x4.1) y22).bind fun x37 => (ckZ a1).bind fun _ => bif (decide (x37.fCount > (IntKind.wrap .i64 ((IntKind.wrap .i64 ((IntKind.wrap .i64 (Int.tdiv (IntKind.wrap .i64 ((IntKind.wrap .i64 (y9 + a1)) - 1)) a1)) + y10)) - 1)))) then some false else withK (fun k44 => law19_HistBounds_l32 n a0 x37 k44 n 0 0) (fun (y43 : Int) => bif (y43 != x37.fCount) then some false else k36 ())) (fun (_ : Unit) => law19_HistBounds_l26 n a0 a1 x4 y9 y10 k20 m23 (IntKind.wrap .i64 (y22 + 1))) else k20 ()
def law19_HistBounds_l14 (n : Nat) (a0 : (Option (List api_Value))) (x76 : api_Value) (k82 : (Int → Option (Bool))) : Nat → Int → Int → Option (Bool)
  | 0, _, _ => none
  | m90 + 1, y88, y89 => bif (decide (y89 < ((sll a0).length : Int))) then (idx (sll a0) y89).bind fun x92 => (value_Same n x76 x92).bind fun x94 => bif x94 then law19_HistBounds_l14 n a0 x76 k82 m90 (IntKind.wrap .i64 (y88 + 1)) (IntKind.wrap .i64 (y89 + 1)) else law19_HistBounds_l14 n a0 x76 k82 m90 y88 (IntKind.wrap .i64 (y89 + 1)) else k82 y88
def law19_HistBounds_l8 (n : Nat) (a0 : (Option (List api_Value))) (x4 : ((Option (List hist_Bucket)) × Int)) (k11 : (Int → Int → Option (Bool))) : Nat → Int → Int → Int → Option (Bool)
  | 0, _, _, _ => none
  | m67 + 1, y64, y65, y66 => bif (decide (y64 < ((sll a0).length : Int))) then withK (fun k75 => (idx (sll a0) y64).bind fun x76 => bif (x76.fKind == 0) then k75 y65 y66 else withK (fun k82 => law19_HistBounds_l14 n a0 x76 k82 n 0 0) (fun (y79 : Int) => (hist_Equal n x4.1 x76).bind fun x83 => bif (decide (x83 < 1)) then some false else k75 (IntKind.wrap .i64 (y65 + 1)) (if y79 > y66 then y79 else y66))) (fun (y73 : Int) (y74 : Int) => law19_HistBounds_l8 n a0 x4 k11 m67 (IntKind.wrap .i64 (y64 + 1)) y73 y74) else k11 y65 y66
def law19_HistBounds (n : Nat) (a0 : (Option (List api_Value))) (a1 : Int) : Option (Bool) := at1 n fun n =>
  (law19_works n).bind fun x1 => bif (!x1) then some false else (hist_Build n a0 a1).bind fun x4 => bif (x4.2 != 0) then some ((((sll x4.1).length : Int) == 0) && (x4.2 == 2)) else withK (fun k11 => law19_HistBounds_l8 n a0 x4 k11 n 0 0 0) (fun (y9 : Int) (y10 : Int) => (hist_Right n x4.1).bind fun x12 => bif ((!x12) || (decide (((sll x4.1).length : Int) > a1))) then some false else (hist_Total n x4.1).bind fun x15 => bif (x15 != y9) then some false else withK (fun k20 => law19_HistBounds_l26 n a0 a1 x4 y9 y10 k20 n 0) (fun (_ : Unit) => some true))
def ref04_zero (n : Nat) (a0 : Nat) : Option (Bool) := at1 n fun n =>
  bif ((FloatKind.format .f64).order a0 0 == some .eq) then ((FloatKind.format .f64).div 4607182418800017408 a0).bind fun x2 => some ((FloatKind.format .f64).order x2 0 == some .gt) else some false
def ref03_Bits (n : Nat) (a0 : Nat) : Option (Int) := at1 n fun n =>
  bif ((FloatKind.format .f64).order a0 a0 != some .eq) then some 9221120237041090561 else bif ((FloatKind.format .f64).order a0 0 == some .eq) then some 0 else some (a0 : Int)
def ref04_Exact (n : Nat) (a0 : api_Value) (a1 : api_Value) : Option (Bool) := at1 n fun n =>
  bif (a0.fKind == a1.fKind) then bif (a0.fInt == a1.fInt) then bif (sEq a0.fText a1.fText) then (ref03_Bits n a0.fFloat).bind fun x4 => (ref03_Bits n a1.fFloat).bind fun x6 => bif (x4 == x6) then (ref04_zero n a0.fFloat).bind fun x9 => (ref04_zero n a1.fFloat).bind fun x11 => some (x9 == x11) else some false else some false else some false else some false
def ref19_Same_l4 (n : Nat) (a0 : (Option (List tabularyref19_Bucket))) (a1 : (Option (List tabularyref19_Bucket))) (k4 : (Unit → Option (Bool))) : Nat → Int → Option (Bool)
  | 0, _ => none
  | m7 + 1, y6 => bif (decide (y6 < ((sll a0).length : Int))) then (idx (sll a0) y6).bind fun x9 => (idx (sll a1) y6).bind fun x11 => (ref04_Exact n x9.fLow x11.fLow).bind fun x13 => bif (!x13) then some false else (ref04_Exact n x9.fHigh x11.fHigh).bind fun x16 => bif (!x16) then some false else bif (x9.fCount != x11.fCount) then some false else bif (x9.fDistinct != x11.fDistinct) then some false else ref19_Same_l4 n a0 a1 k4 m7 (IntKind.wrap .i64 (y6 + 1)) else k4 ()
def ref19_Same (n : Nat) (a0 : (Option (List tabularyref19_Bucket))) (a1 : (Option (List tabularyref19_Bucket))) : Option (Bool) := at1 n fun n =>
  bif (((sll a0).length : Int) != ((sll a1).length : Int)) then some false else withK (fun k4 => ref19_Same_l4 n a0 a1 k4 n 0) (fun (_ : Unit) => some true)
end Go.Pl
