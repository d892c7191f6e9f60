import Derived.Test.YtjbhpopccbhhlaaHVA
import Derived.Test.YtjbhpopccbhhlaaPL
import Derived.Test.YtjbhpopccbhhlaaPC
import Derived.Sort.AssemblyPlain
set_option linter.unusedVariables false
set_option linter.unusedSimpArgs false
namespace Go.Pl
open Go Go.Ab
theorem dT {p : Prop} [Decidable p] (h : p) : decide p = true := decide_eq_true h
theorem dF {p : Prop} [Decidable p] (h : ¬ p) : decide p = false := decide_eq_false h
theorem wv {x : Int} {v : Nat} (h : x = (v : Int)) (hv : v < 1000000000000) : IntKind.wrap .i64 x = (v : Int) := by
  subst h; exact wrapI (by omega) (by omega)
/-! #### How many bits -/
theorem bitsLen_iff {x k : Nat} (h1 : 2 ^ k ≤ x) (h2 : x < 2 ^ (k + 1)) : Sort.bitsLen x = k + 1 := by
  unfold Sort.bitsLen
  have hp : 0 < 2 ^ k := Nat.pow_pos (by decide)
  rw [if_neg (by omega)]
  have h3 : k ≤ Nat.log2 x := (Nat.le_log2 (by omega)).2 h1
  have h4 : Nat.log2 x < k + 1 := (Nat.log2_lt (by omega)).2 h2
  omega
theorem bitsLen_shift {x s : Nat} (h : 2 ^ s ≤ x) : Sort.bitsLen x = s + Sort.bitsLen (x / 2 ^ s) := by
  have hs : 0 < 2 ^ s := Nat.pow_pos (by decide)
  have hq : 1 ≤ x / 2 ^ s := (Nat.one_le_div_iff hs).2 h
  have h1 := Nat.log2_self_le (n := x / 2 ^ s) (by omega)
  have h2 := Nat.lt_log2_self (n := x / 2 ^ s)
  have e : Sort.bitsLen (x / 2 ^ s) = Nat.log2 (x / 2 ^ s) + 1 := by unfold Sort.bitsLen; rw [if_neg (by omega)]
  rw [e]
  have := bitsLen_iff (x := x) (k := s + Nat.log2 (x / 2 ^ s)) (by
    rw [Nat.pow_add]
    calc 2 ^ s * 2 ^ (x / 2 ^ s).log2 ≤ 2 ^ s * (x / 2 ^ s) := Nat.mul_le_mul_left _ h1
      _ ≤ x := Nat.mul_div_le x (2 ^ s)) (by
    rw [show s + Nat.log2 (x / 2 ^ s) + 1 = s + (Nat.log2 (x / 2 ^ s) + 1) by omega, Nat.pow_add]
    rw [Nat.mul_comm]
    exact (Nat.div_lt_iff_lt_mul hs).1 h2)
  omega
def lenTab : ByteArray := ByteArray.mk #[0, 1, 2, 2, 3, 3, 3, 3, 4, 4, 4, 4, 4, 4, 4, 4, 5, 5, 5, 5, 5, 5, 5, 5, 5, 5, 5, 5, 5, 5, 5, 5, 6, 6, 6, 6, 6, 6, 6, 6, 6, 6, 6, 6, 6, 6, 6, 6, 6, 6, 6, 6, 6, 6, 6, 6, 6, 6, 6, 6, 6, 6, 6, 6, 7, 7, 7, 7, 7, 7, 7, 7, 7, 7, 7, 7, 7, 7, 7, 7, 7, 7, 7, 7, 7, 7, 7, 7, 7, 7, 7, 7, 7, 7, 7, 7, 7, 7, 7, 7, 7, 7, 7, 7, 7, 7, 7, 7, 7, 7, 7, 7, 7, 7, 7, 7, 7, 7, 7, 7, 7, 7, 7, 7, 7, 7, 7, 7, 8, 8, 8, 8, 8, 8, 8, 8, 8, 8, 8, 8, 8, 8, 8, 8, 8, 8, 8, 8, 8, 8, 8, 8, 8, 8, 8, 8, 8, 8, 8, 8, 8, 8, 8, 8, 8, 8, 8, 8, 8, 8, 8, 8, 8, 8, 8, 8, 8, 8, 8, 8, 8, 8, 8, 8, 8, 8, 8, 8, 8, 8, 8, 8, 8, 8, 8, 8, 8, 8, 8, 8, 8, 8, 8, 8, 8, 8, 8, 8, 8, 8, 8, 8, 8, 8, 8, 8, 8, 8, 8, 8, 8, 8, 8, 8, 8, 8, 8, 8, 8, 8, 8, 8, 8, 8, 8, 8, 8, 8, 8, 8, 8, 8, 8, 8, 8, 8, 8, 8, 8, 8, 8, 8, 8, 8, 8, 8]
theorem lenTab_ok : ∀ y : Fin 256, idxS lenTab (y.val : Int) = some ((Sort.bitsLen y.val : Nat) : Int) := by decide +kernel
theorem shr_nat (v s : Nat) (hs : s ≤ 64) : iShr .u64 (v : Int) (s : Int) = ((v / 2 ^ s : Nat) : Int) := by
  unfold iShr
  rw [Int.toNat_natCast, show min s IntKind.u64.bits = s from Nat.min_eq_left hs]
  rw [Int.fdiv_eq_ediv_of_nonneg _ (Int.le_of_lt (Int.pow_pos (by decide)))]
  rw [show ((2 : Int) ^ s) = ((2 ^ s : Nat) : Int) by simp]
  omega
theorem bitsLen_le {y : Nat} (h : y < 256) : Sort.bitsLen y ≤ 8 := by
  unfold Sort.bitsLen
  split
  · omega
  · have : Nat.log2 y < 8 := (Nat.log2_lt (by omega)).2 (by omega)
    omega
def lenBody (T : ByteArray) (a0 : Int) : Option Int :=
  withK (fun k4 => bif (decide (a0 ≥ 4294967296)) then k4 (iShr .u64 a0 32) 32 else k4 a0 0) (fun (y2 : Int) (y3 : Int) => withK (fun k8 => bif (decide (y2 ≥ 65536)) then k8 (iShr .u64 y2 16) (IntKind.wrap .i64 (y3 + 16)) else k8 y2 y3) (fun (y6 : Int) (y7 : Int) => withK (fun k12 => bif (decide (y6 ≥ 256)) then k12 (iShr .u64 y6 8) (IntKind.wrap .i64 (y7 + 8)) else k12 y6 y7) (fun (y10 : Int) (y11 : Int) => (idxS T (IntKind.wrap .u8 y10)).bind fun x13 => some (IntKind.wrap .i64 (y11 + (IntKind.wrap .i64 x13))))))
end Go.Pl

set_option linter.unusedVariables false
set_option linter.unusedSimpArgs false
namespace Go.Pl
open Go Go.Ab
/-! ### 128 by 64 bits -/
theorem uwrap_mod (x : Nat) : IntKind.wrap .u64 (x : Int) = ((x % 18446744073709551616 : Nat) : Int) := by
  simp [IntKind.wrap, IntKind.signed, IntKind.bits]
theorem uwrap_mul (a b : Nat) : IntKind.wrap .u64 ((a : Int) * (b : Int)) = ((a * b % 18446744073709551616 : Nat) : Int) := by
  rw [show (a : Int) * (b : Int) = ((a * b : Nat) : Int) by simp]; exact uwrap_mod _
theorem uwrap_sub {a b r : Nat} (h : ((a : Int) - (b : Int)) % 18446744073709551616 = (r : Int) % 18446744073709551616) (hr : r < 18446744073709551616) : IntKind.wrap .u64 ((a : Int) - (b : Int)) = (r : Int) := by
  simp only [IntKind.wrap, IntKind.signed, IntKind.bits]
  simp
  omega
end Go.Pl

set_option linter.unusedVariables false
set_option maxRecDepth 100000
set_option linter.unusedSimpArgs false
namespace Go.Pl
open Go Go.Ab
structure Norm (hi lo y s b Y U L : Nat) : Prop where
  hs : s + b = 64
  eY : iShl .u64 (y : Int) (s : Int) = (Y : Int)
  eU : iOr .u64 (iShl .u64 (hi : Int) (s : Int)) (iShr .u64 (lo : Int) (b : Int)) = (U : Int)
  eL : iShl .u64 (lo : Int) (s : Int) = (L : Int)
  hY : 9223372036854775808 ≤ Y
  hY' : Y < 18446744073709551616
  hU : U < Y
  hL : L < 18446744073709551616
  hQ : (hi * 18446744073709551616 + lo) / y = (U * 18446744073709551616 + L) / Y
/-- What is left behind a digit. -/
theorem left {U d Y q R : Nat} (hY' : Y < 18446744073709551616) (hR : R < Y) (hd : d < 4294967296) (hz : Y * q + R = U * 4294967296 + d) :
    IntKind.wrap .u64 (IntKind.wrap .u64 (IntKind.wrap .u64 ((U : Int) * 4294967296) + (d : Int)) - IntKind.wrap .u64 ((q : Int) * (Y : Int))) = (R : Int) := by
  have e1 : IntKind.wrap .u64 ((U : Int) * 4294967296) = ((U * 4294967296 % 18446744073709551616 : Nat) : Int) := uwrap_mul U 4294967296
  have e2 : IntKind.wrap .u64 (((U * 4294967296 % 18446744073709551616 : Nat) : Int) + (d : Int)) = (((U * 4294967296 % 18446744073709551616 + d) % 18446744073709551616 : Nat) : Int) := by
    rw [show ((U * 4294967296 % 18446744073709551616 : Nat) : Int) + (d : Int) = ((U * 4294967296 % 18446744073709551616 + d : Nat) : Int) by omega]; exact uwrap_mod _
  rw [e1, e2, uwrap_mul]
  rw [Nat.mul_comm] at hz
  refine uwrap_sub ?_ (by omega)
  generalize q * Y = z at hz ⊢
  omega
end Go.Pl

