import Derived.Test.YtknmgphnkfeifaaAbRow
import Derived.Test.YtknmgphnkfeifaaAbArr
namespace Go.Pl
open Go Go.Ab
set_option linter.unusedVariables false
def codec_Reader_ready_nil (n : Nat)  : Option (Unit) := at1 n fun n =>
  some ()
def codec_Reader_Uint_nil (n : Nat) (a0 : Int) : Option (Unit) := at1 n fun n =>
  (codec_Reader_ready_nil n).bind fun _ => some ()
def codec_Reader_Int_nil (n : Nat)  : Option (Int) := at1 n fun n =>
  (codec_Reader_Uint_nil n 18446744073709551615).bind fun _ => bif ((iAnd .u64 0 1) == 1) then some (IntKind.wrap .i64 (notI .u64 (iShr .u64 0 1))) else some (IntKind.wrap .i64 (iShr .u64 0 1))
def codec_Reader_Text_nil (n : Nat) (a0 : Int) : Option (Unit) := at1 n fun n =>
  (codec_Reader_Uint_nil n (IntKind.wrap .u64 (if 0 > a0 then 0 else a0))).bind fun _ => (codec_Reader_ready_nil n).bind fun _ => some ()
def codec_Reader_Fixed_nil (n : Nat) (a0 : Int) : Option (Unit) := at1 n fun n =>
  (codec_Reader_ready_nil n).bind fun _ => some ()
def codec_Reader_Float_nil (n : Nat)  : Option (Unit) := at1 n fun n =>
  (codec_Reader_Fixed_nil n 8).bind fun _ => (codec_Reader_ready_nil n).bind fun _ => some ()
def codec_Reader_Byte_nil (n : Nat)  : Option (Unit) := at1 n fun n =>
  (codec_Reader_Fixed_nil n 1).bind fun _ => some ()
def codec_Reader_Left_nil (n : Nat)  : Option (Unit) := at1 n fun n =>
  (codec_Reader_ready_nil n).bind fun _ => some ()
def codec_Reader_Err_nil (n : Nat)  : Option (Unit) := at1 n fun n =>
  some ()
def codec_Reader_End_nil (n : Nat)  : Option (Unit) := at1 n fun n =>
  (codec_Reader_Err_nil n).bind fun _ => some ()
def codec_Reader_ready (n : Nat)  : Option (Unit) := at1 n fun n =>
  some ()
def codec_Reader_Uint (n : Nat) (a0 : Int) : Option (Unit) := at1 n fun n =>
  (codec_Reader_ready n).bind fun _ => some ()
def codec_Reader_Int (n : Nat)  : Option (Int) := at1 n fun n =>
  (codec_Reader_Uint n 18446744073709551615).bind fun _ => bif ((iAnd .u64 0 1) == 1) then some (IntKind.wrap .i64 (notI .u64 (iShr .u64 0 1))) else some (IntKind.wrap .i64 (iShr .u64 0 1))
def codec_Reader_Text (n : Nat) (a0 : Int) : Option (Unit) := at1 n fun n =>
  (codec_Reader_Uint n (IntKind.wrap .u64 (if 0 > a0 then 0 else a0))).bind fun _ => (codec_Reader_ready n).bind fun _ => some ()
def codec_Reader_Fixed (n : Nat) (a0 : Int) : Option (Unit) := at1 n fun n =>
  (codec_Reader_ready n).bind fun _ => some ()
def codec_Reader_Float (n : Nat)  : Option (Unit) := at1 n fun n =>
  (codec_Reader_Fixed n 8).bind fun _ => (codec_Reader_ready n).bind fun _ => some ()
def codec_Reader_Byte (n : Nat)  : Option (Unit) := at1 n fun n =>
  (codec_Reader_Fixed n 1).bind fun _ => some ()
def codec_Reader_Left (n : Nat)  : Option (Unit) := at1 n fun n =>
  (codec_Reader_ready n).bind fun _ => some ()
def codec_Reader_Err (n : Nat)  : Option (Unit) := at1 n fun n =>
  some ()
def codec_Reader_End (n : Nat)  : Option (Unit) := at1 n fun n =>
  (codec_Reader_Err n).bind fun _ => some ()
/-- Run by the kernel. -/
def law03_works (n : Nat) : Option (Bool) := bif n == 3999999 then some true else none
def law03_CodecNobody_l2 (n : Nat) (a0 : Int) (k1 : (Unit → Option (Bool))) : Nat → Nat → Option (Bool)
  | 0, _ => none
  | m4 + 1, 0 => (codec_Reader_Uint_nil n a0).bind fun _ => (codec_Reader_Int_nil n).bind fun x7 => bif (x7 != 0) then some false else (codec_Reader_Text_nil n (IntKind.wrap .i64 a0)).bind fun _ => bif (!(sEq ByteArray.empty ByteArray.empty)) then some false else (codec_Reader_Float_nil n).bind fun _ => bif ((FloatKind.format .f64).order 0 0 != some .eq) then some false else (codec_Reader_Fixed_nil n (IntKind.wrap .i64 a0)).bind fun _ => (codec_Reader_Byte_nil n).bind fun _ => (codec_Reader_Left_nil n).bind fun _ => (codec_Reader_Err_nil n).bind fun _ => (codec_Reader_End_nil n).bind fun _ => law03_CodecNobody_l2 n a0 k1 m4 1
  | m4 + 1, 1 => (codec_Reader_Uint n a0).bind fun _ => (codec_Reader_Int n).bind fun x20 => bif (x20 != 0) then some false else (codec_Reader_Text n (IntKind.wrap .i64 a0)).bind fun _ => bif (!(sEq ByteArray.empty ByteArray.empty)) then some false else (codec_Reader_Float n).bind fun _ => bif ((FloatKind.format .f64).order 0 0 != some .eq) then some false else (codec_Reader_Fixed n (IntKind.wrap .i64 a0)).bind fun _ => (codec_Reader_Byte n).bind fun _ => (codec_Reader_Left n).bind fun _ => (codec_Reader_Err n).bind fun _ => (codec_Reader_End n).bind fun _ => law03_CodecNobody_l2 n a0 k1 m4 2
  | m4 + 1, 2 => k1 ()
  | _ + 1, _ => none
def law03_CodecNobody (n : Nat) (a0 : Int) : Option (Bool) := at1 n fun n =>
  withK (fun k1 => law03_CodecNobody_l2 n a0 k1 n 0) (fun (_ : Unit) => (law03_works n).bind fun x2 => some x2)
end Go.Pl
