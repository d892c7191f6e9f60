import Derived.Test.YtmdjdpnmbgdngaaAbRow
namespace Go.Pl
open Go Go.Ab
set_option linter.unusedVariables false
structure api_Value where
  fKind : Int
  fInt : Int
  fFloat : Nat
  fText : ByteArray
def R_api_Value (x : api_Value) : List PV := [.int .i64 x.fKind, .int .i64 x.fInt, .flt .f64 x.fFloat, .str x.fText]
def W_api_Value (x : api_Value) : Prop := (wI .i64) x.fKind ∧ (wI .i64) x.fInt ∧ (wF .f64) x.fFloat ∧ wS x.fText
structure codec_Reader where
  fmade : Bool
  fb : (Option (List Int))
  fe : Int
def R_codec_Reader (x : codec_Reader) : List PV := [.bool x.fmade, encSl (rI .u8) x.fb, .int .i64 x.fe]
def W_codec_Reader (x : codec_Reader) : Prop := wB x.fmade ∧ (wSl (wI .u8)) x.fb ∧ (wI .i64) x.fe
structure api_Key where
  fOut : Int
  fDesc : Bool
def R_api_Key (x : api_Key) : List PV := [.int .i64 x.fOut, .bool x.fDesc]
def W_api_Key (x : api_Key) : Prop := (wI .i64) x.fOut ∧ wB x.fDesc
/-- Run by the kernel. -/
def law05_works (n : Nat) : Option (Bool) := bif n == 3999999 then some true else none
def ref05_Bulk_l10 (n : Nat) (a1 : Int) (k15 : (Int → Option (Int))) (x16 : (Option (List api_Value))) : Nat → Int → Int → Option (Int)
  | 0, _, _ => none
  | m23 + 1, y21, y22 => bif (decide (y22 < ((sll x16).length : Int))) then bif (decide (y21 > a1)) then some (IntKind.wrap .i64 (a1 + 1)) else (idx (sll x16) y22).bind fun x26 => bif (decide ((x26.fText.size : Int) > a1)) then some (IntKind.wrap .i64 (a1 + 1)) else ref05_Bulk_l10 n a1 k15 x16 m23 (IntKind.wrap .i64 ((IntKind.wrap .i64 (y21 + 1)) + (x26.fText.size : Int))) (IntKind.wrap .i64 (y22 + 1)) else k15 y21
def ref05_Bulk_l5 (n : Nat) (a0 : (Option (List (Option (List api_Value))))) (a1 : Int) (k5 : (Int → Option (Int))) : Nat → Int → Int → Option (Int)
  | 0, _, _ => none
  | m10 + 1, y8, y9 => bif (decide (y9 < ((sll a0).length : Int))) then withK (fun k15 => (idx (sll a0) y9).bind fun x16 => bif (decide (((sll x16).length : Int) > a1)) then some (IntKind.wrap .i64 (a1 + 1)) else ref05_Bulk_l10 n a1 k15 x16 n y8 0) (fun (y13 : Int) => ref05_Bulk_l5 n a0 a1 k5 m10 y13 (IntKind.wrap .i64 (y9 + 1))) else k5 y8
def ref05_Bulk (n : Nat) (a0 : (Option (List (Option (List api_Value))))) (a1 : Int) : Option (Int) := at1 n fun n =>
  bif (decide (((sll a0).length : Int) > a1)) then some (IntKind.wrap .i64 (a1 + 1)) else withK (fun k5 => ref05_Bulk_l5 n a0 a1 k5 n ((sll a0).length : Int) 0) (fun (y3 : Int) => some y3)
def law05_great (n : Nat) (a0 : (Option (List (Option (List api_Value))))) : Option (Bool) := at1 n fun n =>
  (ref05_Bulk n a0 600).bind fun x1 => some (decide (x1 > 600))
def math_Signbit (n : Nat) (a0 : Nat) : Option (Bool) := at1 n fun n =>
  some (decide ((IntKind.wrap .i64 (a0 : Int)) < 0))
def value_Right (n : Nat) (a0 : api_Value) : Option (Bool) := at1 n fun n =>
  withK (fun k2 => bif ((FloatKind.format .f64).order a0.fFloat 0 == some .eq) then (math_Signbit n a0.fFloat).bind fun x14 => k2 (!x14) else k2 false) (fun (y1 : Bool) => withK (fun k6 => bif (a0.fKind == 0) then some (((a0.fInt == 0) && y1) && (sEq a0.fText ByteArray.empty)) else bif (a0.fKind == 1) then bif ((a0.fInt != 0) && (a0.fInt != 1)) then some false else k6 () else bif (a0.fKind == 2) then k6 () else bif (a0.fKind == 3) then some ((a0.fInt == 0) && (sEq a0.fText ByteArray.empty)) else bif (a0.fKind == 4) then some (((a0.fInt == 0) && y1) && (decide ((a0.fText.size : Int) ≤ 64))) else some false) (fun (_ : Unit) => some (y1 && (sEq a0.fText ByteArray.empty))))
def row_Right_1 (n : Nat) (a0 : api_Value) : Option (Bool) := at1 n fun n =>
  (value_Right n a0).bind fun x1 => some (!x1)
def slices_IndexFunc_Value_row_Right_1_l2 (n : Nat) (a0 : (Option (List api_Value))) (k3 : (Unit → Option (Int))) : Nat → Int → Option (Int)
  | 0, _ => none
  | m6 + 1, y5 => bif (decide (y5 < ((sll a0).length : Int))) then (idx (sll a0) y5).bind fun x8 => (row_Right_1 n x8).bind fun x10 => bif x10 then some y5 else slices_IndexFunc_Value_row_Right_1_l2 n a0 k3 m6 (IntKind.wrap .i64 (y5 + 1)) else k3 ()
def slices_IndexFunc_Value_row_Right_1 (n : Nat) (a0 : (Option (List api_Value))) : Option (Int) := at1 n fun n =>
  withK (fun k3 => slices_IndexFunc_Value_row_Right_1_l2 n a0 k3 n 0) (fun (_ : Unit) => some (-1))
def slices_ContainsFunc_Value_row_Right_1 (n : Nat) (a0 : (Option (List api_Value))) : Option (Bool) := at1 n fun n =>
  (slices_IndexFunc_Value_row_Right_1 n a0).bind fun x1 => some (decide (x1 ≥ 0))
def row_Right (n : Nat) (a0 : (Option (List api_Value))) : Option (Bool) := at1 n fun n =>
  bif (decide (((sll a0).length : Int) ≤ 200)) then (slices_ContainsFunc_Value_row_Right_1 n a0).bind fun x2 => some (!x2) else some false
def codec_PutUint_nil_l1 (n : Nat) (k4 : ((Option (List Int)) → Int → Option ((List Int)))) : Nat → (Option (List Int)) → Int → Option ((List Int))
  | 0, _, _ => none
  | m13 + 1, none, y12 => bif (decide (y12 ≥ 128)) then (ckA 1 ([(iOr .u8 (IntKind.wrap .u8 y12) 128)] : List Int).length).bind fun _ => codec_PutUint_nil_l1 n k4 m13 (some ([(iOr .u8 (IntKind.wrap .u8 y12) 128)] : List Int)) (iShr .u64 y12 7) else k4 none y12
  | m13 + 1, (some y11), y12 => bif (decide (y12 ≥ 128)) then (ckA 1 (y11 ++ ([(iOr .u8 (IntKind.wrap .u8 y12) 128)] : List Int)).length).bind fun _ => codec_PutUint_nil_l1 n k4 m13 (some (y11 ++ ([(iOr .u8 (IntKind.wrap .u8 y12) 128)] : List Int))) (iShr .u64 y12 7) else k4 (some y11) y12
def codec_PutUint_nil (n : Nat) (a0 : Int) : Option ((List Int)) := at1 n fun n =>
  withK (fun (k4 : (Option (List Int)) → Int → Option ((List Int))) => codec_PutUint_nil_l1 n k4 n none a0) (fun | none, y2 => (ckA 1 ([(IntKind.wrap .u8 y2)] : List Int).length).bind fun _ => some ([(IntKind.wrap .u8 y2)] : List Int) | (some y1), y2 => (ckA 1 (y1 ++ ([(IntKind.wrap .u8 y2)] : List Int)).length).bind fun _ => some (y1 ++ ([(IntKind.wrap .u8 y2)] : List Int)))
def math_IsNaN (n : Nat) (a0 : Nat) : Option (Bool) := at1 n fun n =>
  some ((FloatKind.format .f64).order a0 a0 != some .eq)
def value_Plain (n : Nat) (a0 : api_Value) : Option (api_Value) := at1 n fun n =>
  (value_Right n a0).bind fun x1 => bif (!x1) then some (api_Value.mk 0 0 0 ByteArray.empty) else withK (fun k5 => bif (a0.fKind == 3) then (math_IsNaN n a0.fFloat).bind fun x9 => k5 x9 else k5 false) (fun (y4 : Bool) => bif y4 then some (api_Value.mk a0.fKind a0.fInt (Int.toNat 9221120237041090561) a0.fText) else bif ((a0.fKind == 3) && ((FloatKind.format .f64).order a0.fFloat 0 == some .eq)) then some (api_Value.mk a0.fKind a0.fInt 0 a0.fText) else some a0)
def codec_PutUint_r_l1 (n : Nat) (k6 : ((List Int) → Int → Option ((List Int)))) : Nat → (List Int) → Int → Option ((List Int))
  | 0, _, _ => none
  | m16 + 1, y12, y13 => bif (decide (y13 ≥ 128)) then (ckA 1 (y12 ++ ([(iOr .u8 (IntKind.wrap .u8 y13) 128)] : List Int)).length).bind fun _ => codec_PutUint_r_l1 n k6 m16 (y12 ++ ([(iOr .u8 (IntKind.wrap .u8 y13) 128)] : List Int)) (iShr .u64 y13 7) else k6 y12 y13
def codec_PutUint_r (n : Nat) (a0 : (List Int)) (a1 : Int) : Option ((List Int)) := at1 n fun n =>
  withK (fun k6 => codec_PutUint_r_l1 n k6 n a0 a1) (fun (y1 : (List Int)) (y2 : Int) => (ckA 1 (y1 ++ ([(IntKind.wrap .u8 y2)] : List Int)).length).bind fun _ => some (y1 ++ ([(IntKind.wrap .u8 y2)] : List Int)))
def codec_PutInt_r (n : Nat) (a0 : (List Int)) (a1 : Int) : Option ((List Int)) := at1 n fun n =>
  bif (decide (a1 < 0)) then (codec_PutUint_r n a0 (notI .u64 (iShl .u64 (IntKind.wrap .u64 a1) 1))).bind fun x3 => some x3 else (codec_PutUint_r n a0 (iShl .u64 (IntKind.wrap .u64 a1) 1)).bind fun x5 => some x5
def codec_bits (n : Nat) (a0 : Nat) : Option (Int) := at1 n fun n =>
  bif ((FloatKind.format .f64).order a0 a0 != some .eq) then some 9221120237041090561 else bif ((FloatKind.format .f64).order a0 0 == some .eq) then some 0 else some (a0 : Int)
def codec_PutFixed_r_l2 (n : Nat) (a1 : Int) (k6 : ((List Int) → Option ((List Int)))) : Nat → (List Int) → Int → Option ((List Int))
  | 0, _, _ => none
  | m15 + 1, y11, y12 => bif (decide (y12 ≥ 0)) then (ckN (IntKind.wrap .u64 (IntKind.wrap .i64 (8 * y12)))).bind fun _ => (ckA 1 (y11 ++ ([(IntKind.wrap .u8 (iShr .u64 a1 (IntKind.wrap .u64 (IntKind.wrap .i64 (8 * y12)))))] : List Int)).length).bind fun _ => codec_PutFixed_r_l2 n a1 k6 m15 (y11 ++ ([(IntKind.wrap .u8 (iShr .u64 a1 (IntKind.wrap .u64 (IntKind.wrap .i64 (8 * y12)))))] : List Int)) (IntKind.wrap .i64 (y12 - 1)) else k6 y11
def codec_PutFixed_r (n : Nat) (a0 : (List Int)) (a1 : Int) (a2 : Int) : Option ((List Int)) := at1 n fun n =>
  withK (fun k6 => codec_PutFixed_r_l2 n a1 k6 n a0 (IntKind.wrap .i64 ((if 8 < (if 0 > a2 then 0 else a2) then 8 else (if 0 > a2 then 0 else a2)) - 1))) (fun (y1 : (List Int)) => some y1)
def codec_PutFloat_r (n : Nat) (a0 : (List Int)) (a1 : Nat) : Option ((List Int)) := at1 n fun n =>
  (codec_bits n a1).bind fun x1 => (codec_PutFixed_r n a0 x1 8).bind fun x4 => some x4
def codec_PutText_r (n : Nat) (a0 : (List Int)) (a1 : ByteArray) : Option ((List Int)) := at1 n fun n =>
  (codec_PutUint_r n a0 (IntKind.wrap .u64 (a1.size : Int))).bind fun x2 => bif (bytesL a1).isEmpty then (ckA 1 x2.length).bind fun _ => some x2 else (ckA 1 (x2 ++ (bytesL a1)).length).bind fun _ => some (x2 ++ (bytesL a1))
def value_Put_r (n : Nat) (a0 : (List Int)) (a1 : api_Value) : Option ((List Int)) := at1 n fun n =>
  (value_Plain n a1).bind fun x1 => (ckA 1 (a0 ++ ([(IntKind.wrap .u8 x1.fKind)] : List Int)).length).bind fun _ => bif (x1.fKind == 1) then (ckA 1 ((a0 ++ ([(IntKind.wrap .u8 x1.fKind)] : List Int)) ++ ([(IntKind.wrap .u8 x1.fInt)] : List Int)).length).bind fun _ => some ((a0 ++ ([(IntKind.wrap .u8 x1.fKind)] : List Int)) ++ ([(IntKind.wrap .u8 x1.fInt)] : List Int)) else bif (x1.fKind == 2) then (codec_PutInt_r n (a0 ++ ([(IntKind.wrap .u8 x1.fKind)] : List Int)) x1.fInt).bind fun x8 => some x8 else bif (x1.fKind == 3) then (codec_PutFloat_r n (a0 ++ ([(IntKind.wrap .u8 x1.fKind)] : List Int)) x1.fFloat).bind fun x11 => some x11 else bif (x1.fKind == 4) then (codec_PutText_r n (a0 ++ ([(IntKind.wrap .u8 x1.fKind)] : List Int)) x1.fText).bind fun x16 => some x16 else some (a0 ++ ([(IntKind.wrap .u8 x1.fKind)] : List Int))
def row_Put_nil_l3 (n : Nat) (a0 : (Option (List api_Value))) (k8 : ((List Int) → Option ((List Int)))) : Nat → (List Int) → Int → Option ((List Int))
  | 0, _, _ => none
  | m17 + 1, y13, y14 => bif (decide (y14 < ((sll a0).length : Int))) then (idx (sll a0) y14).bind fun x19 => (value_Put_r n y13 x19).bind fun x22 => row_Put_nil_l3 n a0 k8 m17 x22 (IntKind.wrap .i64 (y14 + 1)) else k8 y13
def row_Put_nil (n : Nat) (a0 : (Option (List api_Value))) : Option ((List Int)) := at1 n fun n =>
  (codec_PutUint_nil n (IntKind.wrap .u64 ((sll a0).length : Int))).bind fun x2 => withK (fun k8 => row_Put_nil_l3 n a0 k8 n x2 0) (fun (y3 : (List Int)) => some y3)
def codec_Read (n : Nat) (a0 : (Option (List Int))) : Option (Unit) := at1 n fun n =>
  some ()
def codec_Reader_ready (n : Nat) (a0 : codec_Reader) : Option (Unit) := at1 n fun n =>
  some ()
def codec_Reader_fail (n : Nat) (a0 : codec_Reader) (a1 : Int) : Option (Unit) := at1 n fun n =>
  some ()
def codec_Reader_take (n : Nat) (a0 : codec_Reader) (a1 : Int) : Option ((Option (List Int)) × Int × (Option (List Int)) × Bool) := at1 n fun n =>
  bif (decide (a1 > ((sll a0.fb).length : Int))) then (codec_Reader_fail n a0 21).bind fun _ => some (none, 21, none, false) else (ckB 0 a1 ((sll a0.fb).length : Int)).bind fun _ => (ckB a1 ((sll a0.fb).length : Int) ((sll a0.fb).length : Int)).bind fun _ => some ((subSl a0.fb a1 ((sll a0.fb).length : Int)), a0.fe, (subSl a0.fb 0 a1), true)
def codec_Reader_number_l4 (n : Nat)  : Nat → Bool → (Option (List Int)) → Int → Int → Int → Option (Bool × (Option (List Int)) × Int × Int × Bool)
  | 0, _, _, _, _, _ => none
  | m15 + 1, y10, y11, y12, y13, y14 => bif (y14 == 10) then (codec_Reader_fail n (codec_Reader.mk y10 y11 y12) 22).bind fun _ => some (((codec_Reader.mk y10 y11 y12).fmade), none, 22, 0, false) else (codec_Reader_take n (codec_Reader.mk y10 y11 y12) 1).bind fun (x19, x20, x21, x22) => bif (!x22) then some (((codec_Reader.mk y10 y11 y12).fmade), x19, x20, 0, false) else (idx (sll x21) 0).bind fun x24 => bif (((y14 == 9) && (decide (x24 > 1))) || ((decide (y14 > 0)) && (x24 == 0))) then (codec_Reader_fail n (codec_Reader.mk ((codec_Reader.mk y10 y11 y12).fmade) x19 x20) 22).bind fun _ => some (((codec_Reader.mk ((codec_Reader.mk y10 y11 y12).fmade) x19 x20).fmade), none, 22, 0, false) else (ckN (IntKind.wrap .u64 (IntKind.wrap .i64 (7 * y14)))).bind fun _ => bif (decide (x24 < 128)) then some (((codec_Reader.mk y10 y11 y12).fmade), x19, x20, (iOr .u64 y13 (iShl .u64 (IntKind.wrap .u64 (iAnd .u8 x24 127)) (IntKind.wrap .u64 (IntKind.wrap .i64 (7 * y14))))), true) else codec_Reader_number_l4 n m15 ((codec_Reader.mk y10 y11 y12).fmade) x19 x20 (iOr .u64 y13 (iShl .u64 (IntKind.wrap .u64 (iAnd .u8 x24 127)) (IntKind.wrap .u64 (IntKind.wrap .i64 (7 * y14))))) (IntKind.wrap .i64 (y14 + 1))
def codec_Reader_number (n : Nat) (a0 : codec_Reader) : Option (Bool × (Option (List Int)) × Int × Int × Bool) := at1 n fun n =>
  codec_Reader_number_l4 n n a0.fmade a0.fb a0.fe 0 0
def codec_Reader_Uint (n : Nat) (a0 : codec_Reader) (a1 : Int) : Option (Bool × (Option (List Int)) × Int × Int) := at1 n fun n =>
  (codec_Reader_ready n a0).bind fun _ => bif (!(a0.fmade && (a0.fe == 0))) then some (a0.fmade, a0.fb, a0.fe, 0) else (codec_Reader_number n a0).bind fun (x4, x5, x6, x7, x8) => bif (x8 && (decide (x7 > a1))) then (codec_Reader_fail n (codec_Reader.mk x4 x5 x6) 3).bind fun _ => some (((codec_Reader.mk x4 x5 x6).fmade), none, 3, 0) else some (x4, x5, x6, x7)
def codec_Reader_Err (n : Nat) (a0 : codec_Reader) : Option (Int) := at1 n fun n =>
  bif (!a0.fmade) then some 1 else some a0.fe
def codec_Reader_Fixed_l6 (n : Nat) (x6 : (Option (List Int))) (k11 : (Int → Option ((Option (List Int)) × Int × Int))) : Nat → Int → Int → Option ((Option (List Int)) × Int × Int)
  | 0, _, _ => none
  | m16 + 1, y14, y15 => bif (decide (y14 < ((sll x6).length : Int))) then (idx (sll x6) y14).bind fun x18 => codec_Reader_Fixed_l6 n x6 k11 m16 (IntKind.wrap .i64 (y14 + 1)) (iOr .u64 (iShl .u64 y15 8) (IntKind.wrap .u64 x18)) else k11 y15
def codec_Reader_Fixed (n : Nat) (a0 : codec_Reader) (a1 : Int) : Option ((Option (List Int)) × Int × Int) := at1 n fun n =>
  (codec_Reader_ready n a0).bind fun _ => bif (!(a0.fmade && (a0.fe == 0))) then some (a0.fb, a0.fe, 0) else (codec_Reader_take n a0 (if 8 < (if 0 > a1 then 0 else a1) then 8 else (if 0 > a1 then 0 else a1))).bind fun (x4, x5, x6, x7) => withK (fun k11 => codec_Reader_Fixed_l6 n x6 k11 n 0 0) (fun (y10 : Int) => some (x4, x5, y10))
def codec_Reader_Byte (n : Nat) (a0 : codec_Reader) : Option ((Option (List Int)) × Int × Int) := at1 n fun n =>
  (codec_Reader_Fixed n a0 1).bind fun (x2, x3, x4) => some (x2, x3, (IntKind.wrap .u8 x4))
def codec_Reader_Int (n : Nat) (a0 : codec_Reader) : Option (Bool × (Option (List Int)) × Int × Int) := at1 n fun n =>
  (codec_Reader_Uint n a0 18446744073709551615).bind fun (x2, x3, x4, x5) => bif ((iAnd .u64 x5 1) == 1) then some (x2, x3, x4, (IntKind.wrap .i64 (notI .u64 (iShr .u64 x5 1)))) else some (x2, x3, x4, (IntKind.wrap .i64 (iShr .u64 x5 1)))
def codec_Reader_Float (n : Nat) (a0 : codec_Reader) : Option (Bool × (Option (List Int)) × Int × Nat) := at1 n fun n =>
  (codec_Reader_Fixed n a0 8).bind fun (x2, x3, x4) => (codec_Reader_ready n (codec_Reader.mk a0.fmade x2 x3)).bind fun _ => bif (!((codec_Reader.mk a0.fmade x2 x3).fmade && ((codec_Reader.mk a0.fmade x2 x3).fe == 0))) then some (a0.fmade, x2, x3, 0) else (codec_bits n (Int.toNat x4)).bind fun x7 => bif (x7 != x4) then (codec_Reader_fail n (codec_Reader.mk a0.fmade x2 x3) 22).bind fun _ => some (((codec_Reader.mk a0.fmade x2 x3).fmade), none, 22, 0) else some (a0.fmade, x2, x3, (Int.toNat x4))
def codec_Reader_Text (n : Nat) (a0 : codec_Reader) (a1 : Int) : Option (Bool × (Option (List Int)) × Int × ByteArray) := at1 n fun n =>
  (codec_Reader_Uint n a0 (IntKind.wrap .u64 (if 0 > a1 then 0 else a1))).bind fun (x2, x3, x4, x5) => (codec_Reader_ready n (codec_Reader.mk x2 x3 x4)).bind fun _ => bif (!((codec_Reader.mk x2 x3 x4).fmade && ((codec_Reader.mk x2 x3 x4).fe == 0))) then some (x2, x3, x4, ByteArray.empty) else (codec_Reader_take n (codec_Reader.mk x2 x3 x4) (IntKind.wrap .i64 x5)).bind fun (x9, x10, x11, x12) => some (((codec_Reader.mk x2 x3 x4).fmade), x9, x10, (strOf (sll x11)))
def value_Take (n : Nat) (a0 : codec_Reader) : Option (Bool × (Option (List Int)) × Int × Int × Int × Nat × ByteArray × Int) := at1 n fun n =>
  (codec_Reader_Byte n a0).bind fun (x2, x3, x4) => withK (fun k12 => bif ((IntKind.wrap .i64 x4) == 1) then (codec_Reader_Byte n (codec_Reader.mk a0.fmade x2 x3)).bind fun (x21, x22, x23) => k12 ((codec_Reader.mk a0.fmade x2 x3).fmade) x21 x22 (IntKind.wrap .i64 x23) 0 ByteArray.empty else bif ((IntKind.wrap .i64 x4) == 2) then (codec_Reader_Int n (codec_Reader.mk a0.fmade x2 x3)).bind fun (x26, x27, x28, x29) => k12 x26 x27 x28 x29 0 ByteArray.empty else bif ((IntKind.wrap .i64 x4) == 3) then (codec_Reader_Float n (codec_Reader.mk a0.fmade x2 x3)).bind fun (x32, x33, x34, x35) => k12 x32 x33 x34 0 x35 ByteArray.empty else bif ((IntKind.wrap .i64 x4) == 4) then (codec_Reader_Text n (codec_Reader.mk a0.fmade x2 x3) 64).bind fun (x38, x39, x40, x41) => k12 x38 x39 x40 0 0 x41 else k12 a0.fmade x2 x3 0 0 ByteArray.empty) (fun (y6 : Bool) (y7 : (Option (List Int))) (y8 : Int) (y9 : Int) (y10 : Nat) (y11 : ByteArray) => (codec_Reader_Err n (codec_Reader.mk y6 y7 y8)).bind fun x14 => bif (x14 != 0) then some (y6, y7, y8, 0, 0, 0, ByteArray.empty, x14) else (value_Right n (api_Value.mk (IntKind.wrap .i64 x4) y9 y10 y11)).bind fun x16 => bif (!x16) then some (y6, y7, y8, 0, 0, 0, ByteArray.empty, 22) else some (y6, y7, y8, (IntKind.wrap .i64 x4), y9, y10, y11, 0))
def row_Take_l7 (n : Nat) (x5 : Int) (k15 : (Bool → (Option (List Int)) → Int → (Option (List api_Value)) → Option (Bool × (Option (List Int)) × Int × (Option (List api_Value)) × Int))) : Nat → Bool → (Option (List Int)) → Int → Int → (Option (List api_Value)) → Option (Bool × (Option (List Int)) × Int × (Option (List api_Value)) × Int)
  | 0, _, _, _, _, _ => none
  | m27 + 1, y22, y23, y24, y25, none => bif (decide (y25 < x5)) then (value_Take n (codec_Reader.mk y22 y23 y24)).bind fun (x30, x31, x32, x33, x34, x35, x36, x37) => bif (x37 != 0) then some (x30, x31, x32, none, x37) else (ckA 40 ([(api_Value.mk x33 x34 x35 x36)] : List api_Value).length).bind fun _ => row_Take_l7 n x5 k15 m27 x30 x31 x32 (IntKind.wrap .u64 (y25 + 1)) (some ([(api_Value.mk x33 x34 x35 x36)] : List api_Value)) else k15 y22 y23 y24 none
  | m27 + 1, y22, y23, y24, y25, (some y26) => bif (decide (y25 < x5)) then (value_Take n (codec_Reader.mk y22 y23 y24)).bind fun (x42, x43, x44, x45, x46, x47, x48, x49) => bif (x49 != 0) then some (x42, x43, x44, none, x49) else (ckA 40 (y26 ++ ([(api_Value.mk x45 x46 x47 x48)] : List api_Value)).length).bind fun _ => row_Take_l7 n x5 k15 m27 x42 x43 x44 (IntKind.wrap .u64 (y25 + 1)) (some (y26 ++ ([(api_Value.mk x45 x46 x47 x48)] : List api_Value))) else k15 y22 y23 y24 (some y26)
def row_Take (n : Nat) (a0 : codec_Reader) : Option (Bool × (Option (List Int)) × Int × (Option (List api_Value)) × Int) := at1 n fun n =>
  (codec_Reader_Uint n a0 200).bind fun (x2, x3, x4, x5) => (codec_Reader_Err n (codec_Reader.mk x2 x3 x4)).bind fun x7 => bif (x7 != 0) then some (x2, x3, x4, none, x7) else withK (fun (k15 : Bool → (Option (List Int)) → Int → (Option (List api_Value)) → Option (Bool × (Option (List Int)) × Int × (Option (List api_Value)) × Int)) => row_Take_l7 n x5 k15 n x2 x3 x4 0 none) (fun | y9, y10, y11, none => some (y9, y10, y11, none, 0) | y9, y10, y11, (some y14) => some (y9, y10, y11, (some y14), 0))
def cmp_isNaN_int (n : Nat) (a0 : Int) : Option (Bool) := at1 n fun n =>
  some (a0 != a0)
def cmp_Compare_int (n : Nat) (a0 : Int) (a1 : Int) : Option (Int) := at1 n fun n =>
  (cmp_isNaN_int n a0).bind fun x1 => (cmp_isNaN_int n a1).bind fun x3 => bif x1 then bif x3 then some 0 else some (-1) else bif x3 then some 1 else bif (decide (a0 < a1)) then some (-1) else bif (decide (a0 > a1)) then some 1 else some 0
def value_floats (n : Nat) (a0 : Nat) (a1 : Nat) : Option (Int) := at1 n fun n =>
  (math_IsNaN n a0).bind fun x1 => (math_IsNaN n a1).bind fun x3 => bif (x1 && x3) then some 0 else bif x1 then some 1 else bif x3 then some (-1) else bif ((FloatKind.format .f64).order a0 a1 == some .lt) then some (-1) else bif ((FloatKind.format .f64).order a0 a1 == some .gt) then some 1 else some 0
def cmp_isNaN_string (n : Nat) (a0 : ByteArray) : Option (Bool) := at1 n fun n =>
  some (!(sEq a0 a0))
def cmp_Compare_string (n : Nat) (a0 : ByteArray) (a1 : ByteArray) : Option (Int) := at1 n fun n =>
  (cmp_isNaN_string n a0).bind fun x1 => (cmp_isNaN_string n a1).bind fun x3 => bif x1 then bif x3 then some 0 else some (-1) else bif x3 then some 1 else bif (sLt a0 a1) then some (-1) else bif (!(sLt a0 a1 || sEq a0 a1)) then some 1 else some 0
def cmp_isNaN_int64 (n : Nat) (a0 : Int) : Option (Bool) := at1 n fun n =>
  some (a0 != a0)
def cmp_Compare_int64 (n : Nat) (a0 : Int) (a1 : Int) : Option (Int) := at1 n fun n =>
  (cmp_isNaN_int64 n a0).bind fun x1 => (cmp_isNaN_int64 n a1).bind fun x3 => bif x1 then bif x3 then some 0 else some (-1) else bif x3 then some 1 else bif (decide (a0 < a1)) then some (-1) else bif (decide (a0 > a1)) then some 1 else some 0
def value_Cmp (n : Nat) (a0 : api_Value) (a1 : api_Value) : Option (Int) := at1 n fun n =>
  (value_Plain n a0).bind fun x1 => (value_Plain n a1).bind fun x3 => bif (x1.fKind != x3.fKind) then (cmp_Compare_int n x1.fKind x3.fKind).bind fun x6 => some x6 else bif (x1.fKind == 3) then (value_floats n x1.fFloat x3.fFloat).bind fun x9 => some x9 else bif (x1.fKind == 4) then (cmp_Compare_string n x1.fText x3.fText).bind fun x12 => some x12 else (cmp_Compare_int64 n x1.fInt x3.fInt).bind fun x14 => some x14
def row_lists_Value_value_Cmp_l2 (n : Nat) (a0 : (Option (List api_Value))) (a1 : (Option (List api_Value))) (k3 : (Unit → Option (Int))) : Nat → Int → Option (Int)
  | 0, _ => none
  | m8 + 1, y7 => bif ((decide (y7 < ((sll a0).length : Int))) && (decide (y7 < ((sll a1).length : Int)))) then (idx (sll a0) y7).bind fun x10 => (idx (sll a1) y7).bind fun x12 => (value_Cmp n x10 x12).bind fun x14 => bif (x14 != 0) then some x14 else row_lists_Value_value_Cmp_l2 n a0 a1 k3 m8 (IntKind.wrap .i64 (y7 + 1)) else k3 ()
def row_lists_Value_value_Cmp (n : Nat) (a0 : (Option (List api_Value))) (a1 : (Option (List api_Value))) : Option (Int) := at1 n fun n =>
  withK (fun k3 => row_lists_Value_value_Cmp_l2 n a0 a1 k3 n 0) (fun (_ : Unit) => (cmp_Compare_int n ((sll a0).length : Int) ((sll a1).length : Int)).bind fun x4 => some x4)
def row_Cmp (n : Nat) (a0 : (Option (List api_Value))) (a1 : (Option (List api_Value))) : Option (Int) := at1 n fun n =>
  (row_lists_Value_value_Cmp n a0 a1).bind fun x1 => some x1
def codec_Reader_Left (n : Nat) (a0 : codec_Reader) : Option (Int) := at1 n fun n =>
  (codec_Reader_ready n a0).bind fun _ => bif (!(a0.fmade && (a0.fe == 0))) then some 0 else some ((sll a0.fb).length : Int)
def law05_RowBack (n : Nat) (a0 : (Option (List api_Value))) (a1 : (Option (List Int))) : Option (Bool) := at1 n fun n =>
  (law05_works n).bind fun x1 => bif (!x1) then some false else (law05_great n (some ([a0] : List (Option (List api_Value))))).bind fun x4 => bif (x4 || (decide (((sll a1).length : Int) > 2000))) then some true else (row_Right n a0).bind fun x7 => bif (!x7) then some true else withK (fun k15 => (row_Put_nil n a0).bind fun x48 => bif (sll a1).isEmpty then (ckA 1 x48.length).bind fun _ => (codec_Read n (some x48)).bind fun _ => k15 (some x48) else (ckA 1 (x48 ++ (sll a1)).length).bind fun _ => (codec_Read n (some (x48 ++ (sll a1)))).bind fun _ => k15 (some (x48 ++ (sll a1)))) (fun (y11 : (Option (List Int))) => withK (fun (k21 : Bool → (Option (List Int)) → Int → (Option (List api_Value)) → Int → Option (Bool)) => (row_Take n (codec_Reader.mk true y11 0)).bind fun | (x41, x42, x43, none, x45) => k21 x41 x42 x43 none x45 | (x41, x42, x43, some x44, x45) => k21 x41 x42 x43 (some x44) x45) (fun | y16, y17, y18, none, y20 => bif ((y20 == 0) && ((0 : Int) == ((sll a0).length : Int))) then (row_Cmp n none a0).bind fun x23 => bif (x23 == 0) then (row_Right n none).bind fun x26 => bif x26 then (codec_Reader_Left n (codec_Reader.mk y16 y17 y18)).bind fun x30 => some (x30 == ((sll a1).length : Int)) else some false else some false else some false | y16, y17, y18, (some y19), y20 => bif ((y20 == 0) && ((y19.length : Int) == ((sll a0).length : Int))) then (row_Cmp n (some y19) a0).bind fun x32 => bif (x32 == 0) then (row_Right n (some y19)).bind fun x35 => bif x35 then (codec_Reader_Left n (codec_Reader.mk y16 y17 y18)).bind fun x39 => some (x39 == ((sll a1).length : Int)) else some false else some false else some false))
def ref04_zero (n : Nat) (a0 : Nat) : Option (Bool) := at1 n fun n =>
  bif ((FloatKind.format .f64).order a0 0 == some .eq) then ((FloatKind.format .f64).div 4607182418800017408 a0).bind fun x2 => some ((FloatKind.format .f64).order x2 0 == some .gt) else some false
def ref04_Right (n : Nat) (a0 : api_Value) : Option (Bool) := at1 n fun n =>
  bif (a0.fKind == 0) then bif (a0.fInt == 0) then (ref04_zero n a0.fFloat).bind fun x3 => some (x3 && (sEq a0.fText ByteArray.empty)) else some false else bif (a0.fKind == 1) then bif ((a0.fInt == 0) || (a0.fInt == 1)) then (ref04_zero n a0.fFloat).bind fun x7 => some (x7 && (sEq a0.fText ByteArray.empty)) else some false else bif (a0.fKind == 2) then (ref04_zero n a0.fFloat).bind fun x10 => some (x10 && (sEq a0.fText ByteArray.empty)) else bif (a0.fKind == 3) then some ((a0.fInt == 0) && (sEq a0.fText ByteArray.empty)) else bif (a0.fKind == 4) then bif (a0.fInt == 0) then (ref04_zero n a0.fFloat).bind fun x15 => some (x15 && (decide ((a0.fText.size : Int) ≤ 64))) else some false else some false
def ref05_Right_l4 (n : Nat) (a0 : (Option (List api_Value))) (k4 : (Unit → Option (Bool))) : Nat → Int → Option (Bool)
  | 0, _ => none
  | m7 + 1, y6 => bif (decide (y6 < ((sll a0).length : Int))) then (idx (sll a0) y6).bind fun x9 => (ref04_Right n x9).bind fun x11 => bif (!x11) then some false else ref05_Right_l4 n a0 k4 m7 (IntKind.wrap .i64 (y6 + 1)) else k4 ()
def ref05_Right (n : Nat) (a0 : (Option (List api_Value))) : Option (Bool) := at1 n fun n =>
  bif (decide (((sll a0).length : Int) > 200)) then some false else withK (fun k4 => ref05_Right_l4 n a0 k4 n 0) (fun (_ : Unit) => some true)
def ref04_Plain (n : Nat) (a0 : api_Value) : Option (api_Value) := at1 n fun n =>
  (ref04_Right n a0).bind fun x1 => bif (!x1) then some (api_Value.mk 0 0 0 ByteArray.empty) else bif ((a0.fKind == 3) && ((FloatKind.format .f64).order a0.fFloat 0 == some .eq)) then some (api_Value.mk 3 0 0 ByteArray.empty) else some a0
def ref04_Cmp (n : Nat) (a0 : api_Value) (a1 : api_Value) : Option (Int) := at1 n fun n =>
  (ref04_Plain n a0).bind fun x1 => (ref04_Plain n a1).bind fun x3 => bif (x1.fKind != x3.fKind) then bif (decide (x1.fKind < x3.fKind)) then some (-1) else some 1 else withK (fun k10 => bif (x1.fKind == 3) then k10 (((FloatKind.format .f64).order x1.fFloat x3.fFloat == some .lt) || ((!((FloatKind.format .f64).order x1.fFloat x1.fFloat != some .eq)) && ((FloatKind.format .f64).order x3.fFloat x3.fFloat != some .eq))) (((FloatKind.format .f64).order x1.fFloat x3.fFloat == some .gt) || (((FloatKind.format .f64).order x1.fFloat x1.fFloat != some .eq) && (!((FloatKind.format .f64).order x3.fFloat x3.fFloat != some .eq)))) else k10 (decide (x1.fInt < x3.fInt)) (decide (x1.fInt > x3.fInt))) (fun (y8 : Bool) (y9 : Bool) => bif (x1.fKind == 4) then bif (sLt x1.fText x3.fText) then some (-1) else bif (!(sLt x1.fText x3.fText || sEq x1.fText x3.fText)) then some 1 else some 0 else bif y8 then some (-1) else bif y9 then some 1 else some 0)
def ref05_Cmp_l2 (n : Nat) (a0 : (Option (List api_Value))) (a1 : (Option (List api_Value))) (k3 : (Unit → Option (Int))) : Nat → Int → Option (Int)
  | 0, _ => none
  | m8 + 1, y7 => bif ((decide (y7 < ((sll a0).length : Int))) && (decide (y7 < ((sll a1).length : Int)))) then (idx (sll a0) y7).bind fun x10 => (idx (sll a1) y7).bind fun x12 => (ref04_Cmp n x10 x12).bind fun x14 => bif (x14 != 0) then some x14 else ref05_Cmp_l2 n a0 a1 k3 m8 (IntKind.wrap .i64 (y7 + 1)) else k3 ()
def ref05_Cmp (n : Nat) (a0 : (Option (List api_Value))) (a1 : (Option (List api_Value))) : Option (Int) := at1 n fun n =>
  withK (fun k3 => ref05_Cmp_l2 n a0 a1 k3 n 0) (fun (_ : Unit) => bif (decide (((sll a0).length : Int) < ((sll a1).length : Int))) then some (-1) else bif (decide (((sll a0).length : Int) > ((sll a1).length : Int))) then some 1 else some 0)
def row_at (n : Nat) (a0 : (Option (List api_Value))) (a1 : Int) : Option (api_Value) := at1 n fun n =>
  bif ((decide (a1 < 0)) || (decide (a1 ≥ ((sll a0).length : Int)))) then some (api_Value.mk 0 0 0 ByteArray.empty) else (idx (sll a0) a1).bind fun x2 => some x2
def row_By_l2 (n : Nat) (a0 : (Option (List api_Key))) (a1 : (Option (List api_Value))) (a2 : (Option (List api_Value))) (k3 : (Unit → Option (Int))) : Nat → Int → Option (Int)
  | 0, _ => none
  | m6 + 1, y5 => bif (decide (y5 < ((sll a0).length : Int))) then (idx (sll a0) y5).bind fun x8 => (row_at n a1 x8.fOut).bind fun x10 => (row_at n a2 x8.fOut).bind fun x12 => (value_Cmp n x10 x12).bind fun x14 => bif x8.fDesc then bif ((IntKind.wrap .i64 (0 - x14)) != 0) then some (IntKind.wrap .i64 (0 - x14)) else row_By_l2 n a0 a1 a2 k3 m6 (IntKind.wrap .i64 (y5 + 1)) else bif (x14 != 0) then some x14 else row_By_l2 n a0 a1 a2 k3 m6 (IntKind.wrap .i64 (y5 + 1)) else k3 ()
def row_By (n : Nat) (a0 : (Option (List api_Key))) (a1 : (Option (List api_Value))) (a2 : (Option (List api_Value))) : Option (Int) := at1 n fun n =>
  withK (fun k3 => row_By_l2 n a0 a1 a2 k3 n 0) (fun (_ : Unit) => some 0)
def ref05_in (n : Nat) (a0 : (Option (List api_Value))) (a1 : Int) : Option (api_Value) := at1 n fun n =>
  bif ((decide (a1 < 0)) || (decide (a1 ≥ ((sll a0).length : Int)))) then some (api_Value.mk 0 0 0 ByteArray.empty) else (idx (sll a0) a1).bind fun x2 => some x2
def ref05_By_l2 (n : Nat) (a0 : (Option (List api_Key))) (a1 : (Option (List api_Value))) (a2 : (Option (List api_Value))) (k3 : (Unit → Option (Int))) : Nat → Int → Option (Int)
  | 0, _ => none
  | m6 + 1, y5 => bif (decide (y5 < ((sll a0).length : Int))) then (idx (sll a0) y5).bind fun x8 => (ref05_in n a1 x8.fOut).bind fun x10 => (ref05_in n a2 x8.fOut).bind fun x12 => (ref04_Cmp n x10 x12).bind fun x14 => bif ((x14 != 0) && x8.fDesc) then some (IntKind.wrap .i64 (0 - x14)) else bif (x14 != 0) then some x14 else ref05_By_l2 n a0 a1 a2 k3 m6 (IntKind.wrap .i64 (y5 + 1)) else k3 ()
def ref05_By (n : Nat) (a0 : (Option (List api_Key))) (a1 : (Option (List api_Value))) (a2 : (Option (List api_Value))) : Option (Int) := at1 n fun n =>
  withK (fun k3 => ref05_By_l2 n a0 a1 a2 k3 n 0) (fun (_ : Unit) => some 0)
def law05_RowOrders (n : Nat) (a0 : (Option (List api_Value))) (a1 : (Option (List api_Value))) (a2 : (Option (List api_Key))) : Option (Bool) := at1 n fun n =>
  (law05_great n (some ([a0, a1] : List (Option (List api_Value))))).bind fun x1 => bif (x1 || (decide (((sll a2).length : Int) > 40))) then some true else (row_Right n a0).bind fun x4 => (ref05_Right n a0).bind fun x6 => bif (x4 == x6) then (row_Cmp n a0 a1).bind fun x9 => (ref05_Cmp n a0 a1).bind fun x11 => bif (x9 == x11) then (row_By n a2 a0 a1).bind fun x14 => (ref05_By n a2 a0 a1).bind fun x16 => bif (x14 == x16) then (law05_works n).bind fun x19 => some x19 else some false else some false else some false
end Go.Pl
