import Derived.Test.YtjbhpopccbhhlaaHVA
import Derived.Test.YtjbhpopccbhhlaaPL
import Derived.Test.YtjbhpopccbhhlaaPC
import Derived.Sort.AssemblyPlain
set_option linter.unusedVariables false
set_option linter.unusedSimpArgs false
namespace Go.Pl
open Go Go.Ab
theorem dT {p : Prop} [Decidable p] (h : p) : decide p = true := decide_eq_true h
theorem dF {p : Prop} [Decidable p] (h : ¬ p) : decide p = false := decide_eq_false h
theorem wv {x : Int} {v : Nat} (h : x = (v : Int)) (hv : v < 1000000000000) : IntKind.wrap .i64 x = (v : Int) := by
  subst h; exact wrapI (by omega) (by omega)
/-! #### How many bits -/
end Go.Pl

set_option linter.unusedVariables false
set_option linter.unusedSimpArgs false
namespace Go.Pl
open Go Go.Ab
/-! ### 128 by 64 bits -/
theorem uwrap {x : Int} {v : Nat} (h : x = (v : Int)) (hv : v < 18446744073709551616) : IntKind.wrap .u64 x = (v : Int) := by
  subst h; exact wrapU (by omega) (by omega)
theorem uwrap_mod (x : Nat) : IntKind.wrap .u64 (x : Int) = ((x % 18446744073709551616 : Nat) : Int) := by
  simp [IntKind.wrap, IntKind.signed, IntKind.bits]
theorem uwrap_mul (a b : Nat) : IntKind.wrap .u64 ((a : Int) * (b : Int)) = ((a * b % 18446744073709551616 : Nat) : Int) := by
  rw [show (a : Int) * (b : Int) = ((a * b : Nat) : Int) by simp]; exact uwrap_mod _
theorem uwrap_sub {a b r : Nat} (h : ((a : Int) - (b : Int)) % 18446744073709551616 = (r : Int) % 18446744073709551616) (hr : r < 18446744073709551616) : IntKind.wrap .u64 ((a : Int) - (b : Int)) = (r : Int) := by
  simp only [IntKind.wrap, IntKind.signed, IntKind.bits]
  simp
  omega
end Go.Pl

set_option linter.unusedVariables false
set_option maxRecDepth 100000
set_option linter.unusedSimpArgs false
namespace Go.Pl
open Go Go.Ab
structure Norm (hi lo y s b Y U L : Nat) : Prop where
  hs : s + b = 64
  eY : iShl .u64 (y : Int) (s : Int) = (Y : Int)
  eU : iOr .u64 (iShl .u64 (hi : Int) (s : Int)) (iShr .u64 (lo : Int) (b : Int)) = (U : Int)
  eL : iShl .u64 (lo : Int) (s : Int) = (L : Int)
  hY : 9223372036854775808 ≤ Y
  hY' : Y < 18446744073709551616
  hU : U < Y
  hL : L < 18446744073709551616
  hQ : (hi * 18446744073709551616 + lo) / y = (U * 18446744073709551616 + L) / Y
/-- What is left behind a digit. -/
theorem left {U d Y q R : Nat} (hY' : Y < 18446744073709551616) (hR : R < Y) (hd : d < 4294967296) (hz : Y * q + R = U * 4294967296 + d) :
    IntKind.wrap .u64 (IntKind.wrap .u64 (IntKind.wrap .u64 ((U : Int) * 4294967296) + (d : Int)) - IntKind.wrap .u64 ((q : Int) * (Y : Int))) = (R : Int) := by
  have e1 : IntKind.wrap .u64 ((U : Int) * 4294967296) = ((U * 4294967296 % 18446744073709551616 : Nat) : Int) := uwrap_mul U 4294967296
  have e2 : IntKind.wrap .u64 (((U * 4294967296 % 18446744073709551616 : Nat) : Int) + (d : Int)) = (((U * 4294967296 % 18446744073709551616 + d) % 18446744073709551616 : Nat) : Int) := by
    rw [show ((U * 4294967296 % 18446744073709551616 : Nat) : Int) + (d : Int) = ((U * 4294967296 % 18446744073709551616 + d : Nat) : Int) by omega]; exact uwrap_mod _
  rw [e1, e2, uwrap_mul]
  rw [Nat.mul_comm] at hz
  refine uwrap_sub ?_ (by omega)
  generalize q * Y = z at hz ⊢
  omega
end Go.Pl

