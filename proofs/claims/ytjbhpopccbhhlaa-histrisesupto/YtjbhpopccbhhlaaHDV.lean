import Derived.Test.YtjbhpopccbhhlaaHVA
import Derived.Test.YtjbhpopccbhhlaaPL
import Derived.Test.YtjbhpopccbhhlaaPC
import Derived.Sort.AssemblyPlain
set_option linter.unusedVariables false
set_option linter.unusedSimpArgs false
namespace Go.Pl
open Go Go.Ab
theorem dT {p : Prop} [Decidable p] (h : p) : decide p = true := decide_eq_true h
theorem dF {p : Prop} [Decidable p] (h : ¬ p) : decide p = false := decide_eq_false h
theorem wv {x : Int} {v : Nat} (h : x = (v : Int)) (hv : v < 1000000000000) : IntKind.wrap .i64 x = (v : Int) := by
  subst h; exact wrapI (by omega) (by omega)
/-! #### How many bits -/
theorem bitsLen_iff {x k : Nat} (h1 : 2 ^ k ≤ x) (h2 : x < 2 ^ (k + 1)) : Sort.bitsLen x = k + 1 := by
  unfold Sort.bitsLen
  have hp : 0 < 2 ^ k := Nat.pow_pos (by decide)
  rw [if_neg (by omega)]
  have h3 : k ≤ Nat.log2 x := (Nat.le_log2 (by omega)).2 h1
  have h4 : Nat.log2 x < k + 1 := (Nat.log2_lt (by omega)).2 h2
  omega
theorem bitsLen_shift {x s : Nat} (h : 2 ^ s ≤ x) : Sort.bitsLen x = s + Sort.bitsLen (x / 2 ^ s) := by
  have hs : 0 < 2 ^ s := Nat.pow_pos (by decide)
  have hq : 1 ≤ x / 2 ^ s := (Nat.one_le_div_iff hs).2 h
  have h1 := Nat.log2_self_le (n := x / 2 ^ s) (by omega)
  have h2 := Nat.lt_log2_self (n := x / 2 ^ s)
  have e : Sort.bitsLen (x / 2 ^ s) = Nat.log2 (x / 2 ^ s) + 1 := by unfold Sort.bitsLen; rw [if_neg (by omega)]
  rw [e]
  have := bitsLen_iff (x := x) (k := s + Nat.log2 (x / 2 ^ s)) (by
    rw [Nat.pow_add]
    calc 2 ^ s * 2 ^ (x / 2 ^ s).log2 ≤ 2 ^ s * (x / 2 ^ s) := Nat.mul_le_mul_left _ h1
      _ ≤ x := Nat.mul_div_le x (2 ^ s)) (by
    rw [show s + Nat.log2 (x / 2 ^ s) + 1 = s + (Nat.log2 (x / 2 ^ s) + 1) by omega, Nat.pow_add]
    rw [Nat.mul_comm]
    exact (Nat.div_lt_iff_lt_mul hs).1 h2)
  omega
def lenTab : ByteArray := ByteArray.mk #[0, 1, 2, 2, 3, 3, 3, 3, 4, 4, 4, 4, 4, 4, 4, 4, 5, 5, 5, 5, 5, 5, 5, 5, 5, 5, 5, 5, 5, 5, 5, 5, 6, 6, 6, 6, 6, 6, 6, 6, 6, 6, 6, 6, 6, 6, 6, 6, 6, 6, 6, 6, 6, 6, 6, 6, 6, 6, 6, 6, 6, 6, 6, 6, 7, 7, 7, 7, 7, 7, 7, 7, 7, 7, 7, 7, 7, 7, 7, 7, 7, 7, 7, 7, 7, 7, 7, 7, 7, 7, 7, 7, 7, 7, 7, 7, 7, 7, 7, 7, 7, 7, 7, 7, 7, 7, 7, 7, 7, 7, 7, 7, 7, 7, 7, 7, 7, 7, 7, 7, 7, 7, 7, 7, 7, 7, 7, 7, 8, 8, 8, 8, 8, 8, 8, 8, 8, 8, 8, 8, 8, 8, 8, 8, 8, 8, 8, 8, 8, 8, 8, 8, 8, 8, 8, 8, 8, 8, 8, 8, 8, 8, 8, 8, 8, 8, 8, 8, 8, 8, 8, 8, 8, 8, 8, 8, 8, 8, 8, 8, 8, 8, 8, 8, 8, 8, 8, 8, 8, 8, 8, 8, 8, 8, 8, 8, 8, 8, 8, 8, 8, 8, 8, 8, 8, 8, 8, 8, 8, 8, 8, 8, 8, 8, 8, 8, 8, 8, 8, 8, 8, 8, 8, 8, 8, 8, 8, 8, 8, 8, 8, 8, 8, 8, 8, 8, 8, 8, 8, 8, 8, 8, 8, 8, 8, 8, 8, 8, 8, 8, 8, 8, 8, 8, 8, 8]
theorem lenTab_ok : ∀ y : Fin 256, idxS lenTab (y.val : Int) = some ((Sort.bitsLen y.val : Nat) : Int) := by decide +kernel
theorem shr_nat (v s : Nat) (hs : s ≤ 64) : iShr .u64 (v : Int) (s : Int) = ((v / 2 ^ s : Nat) : Int) := by
  unfold iShr
  rw [Int.toNat_natCast, show min s IntKind.u64.bits = s from Nat.min_eq_left hs]
  rw [Int.fdiv_eq_ediv_of_nonneg _ (Int.le_of_lt (Int.pow_pos (by decide)))]
  rw [show ((2 : Int) ^ s) = ((2 ^ s : Nat) : Int) by simp]
  omega
theorem bitsLen_le {y : Nat} (h : y < 256) : Sort.bitsLen y ≤ 8 := by
  unfold Sort.bitsLen
  split
  · omega
  · have : Nat.log2 y < 8 := (Nat.log2_lt (by omega)).2 (by omega)
    omega
def lenBody (T : ByteArray) (a0 : Int) : Option Int :=
  withK (fun k4 => bif (decide (a0 ≥ 4294967296)) then k4 (iShr .u64 a0 32) 32 else k4 a0 0) (fun (y2 : Int) (y3 : Int) => withK (fun k8 => bif (decide (y2 ≥ 65536)) then k8 (iShr .u64 y2 16) (IntKind.wrap .i64 (y3 + 16)) else k8 y2 y3) (fun (y6 : Int) (y7 : Int) => withK (fun k12 => bif (decide (y6 ≥ 256)) then k12 (iShr .u64 y6 8) (IntKind.wrap .i64 (y7 + 8)) else k12 y6 y7) (fun (y10 : Int) (y11 : Int) => (idxS T (IntKind.wrap .u8 y10)).bind fun x13 => some (IntKind.wrap .i64 (y11 + (IntKind.wrap .i64 x13))))))
theorem len64_all {x : Nat} (hx : x < 18446744073709551616) {n : Nat} (h : 1 ≤ n) : math_bits_Len64 n (x : Int) = some ((Sort.bitsLen x : Nat) : Int) := by
  obtain ⟨n, rfl⟩ : ∃ k, n = k + 1 := ⟨n - 1, by omega⟩
  refine Eq.trans (show math_bits_Len64 (n + 1) (x : Int) = lenBody lenTab (x : Int) from rfl) ?_
  unfold lenBody
  simp only [withK]
  have hT := lenTab_ok
  generalize lenTab = T at hT
  have last : ∀ (y add : Nat), y < 256 → add ≤ 56 → ((idxS T (IntKind.wrap .u8 (y : Int))).bind fun x13 => some (IntKind.wrap .i64 ((add : Int) + (IntKind.wrap .i64 x13)))) = some ((add + Sort.bitsLen y : Nat) : Int) := by
    intro y add hy ha
    have hl := bitsLen_le hy
    rw [wrapY (by omega) (by omega), hT ⟨y, hy⟩, Option.bind_some]
    show some (IntKind.wrap .i64 ((add : Int) + (IntKind.wrap .i64 ((Sort.bitsLen y : Nat) : Int)))) = _
    rw [show IntKind.wrap .i64 ((Sort.bitsLen y : Nat) : Int) = ((Sort.bitsLen y : Nat) : Int) from wv rfl (by omega)]
    congr 1
    exact wv (by omega) (by omega)
  have mid : ∀ (y add : Nat), y < 65536 → add ≤ 48 → (bif (decide ((y : Int) ≥ 256)) then ((idxS T (IntKind.wrap .u8 (iShr .u64 (y : Int) 8))).bind fun x13 => some (IntKind.wrap .i64 ((IntKind.wrap .i64 ((add : Int) + 8)) + (IntKind.wrap .i64 x13)))) else ((idxS T (IntKind.wrap .u8 (y : Int))).bind fun x13 => some (IntKind.wrap .i64 ((add : Int) + (IntKind.wrap .i64 x13))))) = some ((add + Sort.bitsLen y : Nat) : Int) := by
    intro y add hy ha
    by_cases h : 256 ≤ y
    · rw [dT (by omega : (y : Int) ≥ 256), cond_true]
      rw [show iShr .u64 (y : Int) 8 = ((y / 2 ^ 8 : Nat) : Int) from shr_nat y 8 (by omega), show IntKind.wrap .i64 ((add : Int) + 8) = ((add + 8 : Nat) : Int) from wv (by omega) (by omega), last _ _ (by omega) (by omega), bitsLen_shift (s := 8) (x := y) (by omega)]
      congr 2
      omega
    · rw [dF (by omega : ¬ (y : Int) ≥ 256), cond_false]
      exact last y add (by omega) (by omega)
  have top : ∀ (x add : Nat), x < 4294967296 → add ≤ 32 → (bif (decide ((x : Int) ≥ 65536)) then (bif (decide (iShr .u64 (x : Int) 16 ≥ 256)) then ((idxS T (IntKind.wrap .u8 (iShr .u64 (iShr .u64 (x : Int) 16) 8))).bind fun x13 => some (IntKind.wrap .i64 ((IntKind.wrap .i64 (IntKind.wrap .i64 ((add : Int) + 16) + 8)) + (IntKind.wrap .i64 x13)))) else ((idxS T (IntKind.wrap .u8 (iShr .u64 (x : Int) 16))).bind fun x13 => some (IntKind.wrap .i64 (IntKind.wrap .i64 ((add : Int) + 16) + (IntKind.wrap .i64 x13))))) else (bif (decide ((x : Int) ≥ 256)) then ((idxS T (IntKind.wrap .u8 (iShr .u64 (x : Int) 8))).bind fun x13 => some (IntKind.wrap .i64 ((IntKind.wrap .i64 ((add : Int) + 8)) + (IntKind.wrap .i64 x13)))) else ((idxS T (IntKind.wrap .u8 (x : Int))).bind fun x13 => some (IntKind.wrap .i64 ((add : Int) + (IntKind.wrap .i64 x13)))))) = some ((add + Sort.bitsLen x : Nat) : Int) := by
    intro x add hx ha
    by_cases h : 65536 ≤ x
    · rw [dT (by omega : (x : Int) ≥ 65536), cond_true]
      rw [show iShr .u64 (x : Int) 16 = ((x / 2 ^ 16 : Nat) : Int) from shr_nat x 16 (by omega), show IntKind.wrap .i64 ((add : Int) + 16) = ((add + 16 : Nat) : Int) from wv (by omega) (by omega), mid (x / 2 ^ 16) (add + 16) (by omega) (by omega), bitsLen_shift (s := 16) (x := x) (by omega)]
      congr 2
      omega
    · rw [dF (by omega : ¬ (x : Int) ≥ 65536), cond_false]
      exact mid x add (by omega) (by omega)
  by_cases h : 4294967296 ≤ x
  · rw [dT (by omega : (x : Int) ≥ 4294967296), cond_true]
    rw [show iShr .u64 (x : Int) 32 = ((x / 2 ^ 32 : Nat) : Int) from shr_nat x 32 (by omega)]
    have := top (x / 2 ^ 32) 32 (by omega) (by omega)
    rw [← bitsLen_shift (s := 32) (x := x) (by omega)] at this
    exact this
  · rw [dF (by omega : ¬ (x : Int) ≥ 4294967296), cond_false]
    have := top x 0 (by omega) (by omega)
    rw [Nat.zero_add] at this
    exact this
end Go.Pl

set_option linter.unusedVariables false
set_option linter.unusedSimpArgs false
namespace Go.Pl
open Go Go.Ab
/-! ### 128 by 64 bits -/
theorem uwrap {x : Int} {v : Nat} (h : x = (v : Int)) (hv : v < 18446744073709551616) : IntKind.wrap .u64 x = (v : Int) := by
  subst h; exact wrapU (by omega) (by omega)
theorem uwrap_mod (x : Nat) : IntKind.wrap .u64 (x : Int) = ((x % 18446744073709551616 : Nat) : Int) := by
  simp [IntKind.wrap, IntKind.signed, IntKind.bits]
theorem uwrap_mul (a b : Nat) : IntKind.wrap .u64 ((a : Int) * (b : Int)) = ((a * b % 18446744073709551616 : Nat) : Int) := by
  rw [show (a : Int) * (b : Int) = ((a * b : Nat) : Int) by simp]; exact uwrap_mod _
theorem uwrap_sub {a b r : Nat} (h : ((a : Int) - (b : Int)) % 18446744073709551616 = (r : Int) % 18446744073709551616) (hr : r < 18446744073709551616) : IntKind.wrap .u64 ((a : Int) - (b : Int)) = (r : Int) := by
  simp only [IntKind.wrap, IntKind.signed, IntKind.bits]
  simp
  omega
theorem shl_nat (v s : Nat) (hs : s ≤ 64) : iShl .u64 (v : Int) (s : Int) = ((v * 2 ^ s % 18446744073709551616 : Nat) : Int) := by
  unfold iShl
  rw [Int.toNat_natCast, show min s IntKind.u64.bits = s from Nat.min_eq_left hs, show ((2 : Int) ^ s) = ((2 ^ s : Nat) : Int) by simp, uwrap_mul]
theorem and_mask (v : Nat) (hv : v < 18446744073709551616) : iAnd .u64 (v : Int) 4294967295 = ((v % 4294967296 : Nat) : Int) := by
  unfold iAnd
  have e1 : (BitVec.ofInt IntKind.u64.bits (v : Int)).toNat = v := by rw [BitVec.toNat_ofInt]; simp only [IntKind.bits]; omega
  have e2 : (BitVec.ofInt IntKind.u64.bits (4294967295 : Int)).toNat = 2 ^ 32 - 1 := by decide
  rw [BitVec.toNat_and, e1, e2, Nat.and_two_pow_sub_one_eq_mod]
  exact uwrap rfl (by omega)
theorem or_nat {a b s : Nat} (ha : a < 2 ^ s) (hb : b * 2 ^ s + a < 18446744073709551616) : iOr .u64 ((b * 2 ^ s : Nat) : Int) (a : Int) = ((b * 2 ^ s + a : Nat) : Int) := by
  unfold iOr
  have e1 : (BitVec.ofInt IntKind.u64.bits (a : Int)).toNat = a := by rw [BitVec.toNat_ofInt]; simp only [IntKind.bits]; omega
  have e2 : (BitVec.ofInt IntKind.u64.bits ((b * 2 ^ s : Nat) : Int)).toNat = b * 2 ^ s := by rw [BitVec.toNat_ofInt]; simp only [IntKind.bits]; omega
  rw [BitVec.toNat_or, e1, e2, Nat.mul_comm b, ← Nat.two_pow_add_eq_or_of_lt ha]
  rw [Nat.mul_comm b] at hb
  exact uwrap rfl hb
/-- A digit's quotient, put right. -/
theorem knuth {R : Type} {F : Nat → Nat → Nat → Option R} {K : Nat → Option R} {y1 y0 U d : Nat} (h1 : 2147483648 ≤ y1) (h1' : y1 < 4294967296) (h0 : y0 < 4294967296) (hU : U < y1 * 4294967296 + y0) (hd : d < 4294967296)
    (hF : ∀ m q r, q ≤ 4294967297 → r < 4294967296 → F (m + 1) q r = if q ≥ 4294967296 ∨ q * y0 > 4294967296 * r + d then (if r + y1 ≥ 4294967296 then K (q - 1) else F m (q - 1) (r + y1)) else K q) :
    ∀ (k m q r : Nat), 4294967296 ≤ r + k * 2147483648 → k < m → q ≤ 4294967297 → r < 4294967296 → q * y1 + r = U → (U * 4294967296 + d) / (y1 * 4294967296 + y0) ≤ q → F m q r = K ((U * 4294967296 + d) / (y1 * 4294967296 + y0)) := by
  have hy : 0 < y1 * 4294967296 + y0 := by omega
  have hle : ∀ x, x ≤ (U * 4294967296 + d) / (y1 * 4294967296 + y0) ↔ x * (y1 * 4294967296 + y0) ≤ U * 4294967296 + d := fun x => Nat.le_div_iff_mul_le hy
  generalize (U * 4294967296 + d) / (y1 * 4294967296 + y0) = Q at hle
  have hQ : Q < 4294967296 := by
    have := hle 4294967296
    omega
  have key : ∀ q r, q * y1 + r = U → q * (y1 * 4294967296 + y0) = (U - r) * 4294967296 + q * y0 := by
    intro q r e
    have e2 : U - r = q * y1 := by omega
    rw [e2, Nat.mul_add, Nat.mul_assoc]
  intro k
  induction k with
  | zero => intro m q r hk _ _ hr; omega
  | succ k ih =>
    intro m q r hk hm hq hr he hge
    obtain ⟨m, rfl⟩ : ∃ j, m = j + 1 := ⟨m - 1, by omega⟩
    rw [hF m q r hq hr]
    have kq := key q r he
    have hrU : r ≤ U := by omega
    have hlq := hle q
    rw [kq] at hlq
    by_cases hc : q ≥ 4294967296 ∨ q * y0 > 4294967296 * r + d
    · rw [if_pos hc]
      have hlt : Q < q := by
        rcases hc with hc | hc
        · omega
        · generalize q * y0 = z at hc hlq
          omega
      have he' : (q - 1) * y1 + (r + y1) = U := by
        obtain ⟨p, rfl⟩ : ∃ p, q = p + 1 := ⟨q - 1, by omega⟩
        rw [Nat.add_mul] at he
        rw [Nat.add_sub_cancel]
        omega
      by_cases hb : r + y1 ≥ 4294967296
      · rw [if_pos hb]
        have hl1 := hle (q - 1)
        rw [key (q - 1) (r + y1) he'] at hl1
        have h3 : r + y1 ≤ U := by omega
        have h4 : (q - 1) * y0 ≤ 4294967296 * (r + y1) := Nat.le_trans (Nat.mul_le_mul (show q - 1 ≤ 4294967296 by omega) (Nat.le_of_lt h0)) (Nat.mul_le_mul_left _ hb)
        generalize (q - 1) * y0 = z at h4 hl1
        have : q - 1 = Q := by omega
        rw [this]
      · rw [if_neg hb]
        refine ih m (q - 1) (r + y1) ?_ (by omega) (by omega) (by omega) he' (by omega)
        rw [Nat.succ_mul] at hk
        omega
    · rw [if_neg hc]
      generalize q * y0 = z at hc hlq
      have : q = Q := by omega
      rw [this]
/-- The first guess of a digit. -/
theorem guess {y1 y0 U d : Nat} (h1 : 2147483648 ≤ y1) (h0 : y0 < 4294967296) (hU : U < y1 * 4294967296 + y0) (hd : d < 4294967296) :
    U / y1 ≤ 4294967297 ∧ (U * 4294967296 + d) / (y1 * 4294967296 + y0) ≤ U / y1 := by
  constructor
  · have : U / y1 < 4294967298 := by
      rw [Nat.div_lt_iff_lt_mul (by omega)]
      omega
    omega
  · rw [Nat.le_div_iff_mul_le (by omega)]
    have hy : 0 < y1 * 4294967296 + y0 := by omega
    have h := Nat.div_mul_le_self (U * 4294967296 + d) (y1 * 4294967296 + y0)
    generalize (U * 4294967296 + d) / (y1 * 4294967296 + y0) = Q at h
    rw [Nat.mul_add, ← Nat.mul_assoc] at h
    generalize Q * y1 = z at h
    generalize Q * y0 = w at h
    omega
end Go.Pl

set_option linter.unusedVariables false
set_option maxRecDepth 100000
set_option linter.unusedSimpArgs false
namespace Go.Pl
open Go Go.Ab
theorem mul_lt_w {a b : Nat} (ha : a < 4294967296) (hb : b < 4294967296) : a * b < 18446744073709551616 := by
  have := Nat.mul_le_mul (show a ≤ 4294967295 by omega) (show b ≤ 4294967295 by omega)
  omega
/-- What a round of the loop asks. -/
theorem ask {q y0 r d : Nat} (hq : q ≤ 4294967297) (h0 : y0 < 4294967296) (hr : r < 4294967296) (hd : d < 4294967296) :
    (decide ((q : Int) ≥ 4294967296) || decide (IntKind.wrap .u64 ((q : Int) * (y0 : Int)) > IntKind.wrap .u64 (IntKind.wrap .u64 (4294967296 * (r : Int)) + (d : Int)))) = decide (q ≥ 4294967296 ∨ q * y0 > 4294967296 * r + d) := by
  by_cases h : q ≥ 4294967296
  · rw [dT (by omega : (q : Int) ≥ 4294967296), Bool.true_or, dT (.inl h)]
  · have e := mul_lt_w (a := q) (by omega) h0
    have e1 : IntKind.wrap .u64 (4294967296 * (r : Int)) = ((4294967296 * r : Nat) : Int) := uwrap (by omega) (by omega)
    have e2 : IntKind.wrap .u64 (((4294967296 * r : Nat) : Int) + (d : Int)) = ((4294967296 * r + d : Nat) : Int) := uwrap (by omega) (by omega)
    have e3 : IntKind.wrap .u64 ((q : Int) * (y0 : Int)) = ((q * y0 : Nat) : Int) := uwrap (by simp) e
    rw [dF (by omega : ¬ (q : Int) ≥ 4294967296), Bool.false_or, e1, e2, e3, decide_eq_decide]
    omega
structure Norm (hi lo y s b Y U L : Nat) : Prop where
  hs : s + b = 64
  eY : iShl .u64 (y : Int) (s : Int) = (Y : Int)
  eU : iOr .u64 (iShl .u64 (hi : Int) (s : Int)) (iShr .u64 (lo : Int) (b : Int)) = (U : Int)
  eL : iShl .u64 (lo : Int) (s : Int) = (L : Int)
  hY : 9223372036854775808 ≤ Y
  hY' : Y < 18446744073709551616
  hU : U < Y
  hL : L < 18446744073709551616
  hQ : (hi * 18446744073709551616 + lo) / y = (U * 18446744073709551616 + L) / Y
theorem norm {hi lo y : Nat} (hlo : lo < 18446744073709551616) (hy : y < 18446744073709551616) (hh : hi < y) : ∃ Y U L, Norm hi lo y (64 - Sort.bitsLen y) (Sort.bitsLen y) Y U L := by
  have hb1 : 1 ≤ Sort.bitsLen y := by unfold Sort.bitsLen; rw [if_neg (by omega)]; omega
  have hb2 : Sort.bitsLen y ≤ 64 := by
    unfold Sort.bitsLen; rw [if_neg (by omega)]
    have : Nat.log2 y < 64 := (Nat.log2_lt (by omega)).2 (by omega)
    omega
  have hl : 2 ^ (Sort.bitsLen y - 1) ≤ y := by
    have := Nat.log2_self_le (n := y) (by omega)
    unfold Sort.bitsLen; rw [if_neg (by omega), Nat.add_sub_cancel]; exact this
  have hu : y < 2 ^ Sort.bitsLen y := by
    have := Nat.lt_log2_self (n := y)
    unfold Sort.bitsLen; rw [if_neg (by omega)]; exact this
  generalize Sort.bitsLen y = b at *
  obtain ⟨s, hs⟩ : ∃ s, s = 64 - b := ⟨_, rfl⟩
  rw [← hs]
  have hp : 2 ^ b * 2 ^ s = 18446744073709551616 := by rw [← Nat.pow_add, show b + s = 64 by omega]
  have hp2 : 2 ^ (b - 1) * 2 ^ s = 9223372036854775808 := by rw [← Nat.pow_add, show b - 1 + s = 63 by omega]
  have hps : 0 < 2 ^ s := Nat.pow_pos (by decide)
  have hpb : 0 < 2 ^ b := Nat.pow_pos (by decide)
  have hY1 : 9223372036854775808 ≤ y * 2 ^ s := by rw [← hp2]; exact Nat.mul_le_mul_right _ hl
  have hY2 : y * 2 ^ s < 18446744073709551616 := by rw [← hp]; exact Nat.mul_lt_mul_of_pos_right hu hps
  have hq : lo / 2 ^ b < 2 ^ s := by rw [Nat.div_lt_iff_lt_mul hpb, Nat.mul_comm, hp]; exact hlo
  have hU1 : hi * 2 ^ s + lo / 2 ^ b < y * 2 ^ s := by
    have : (hi + 1) * 2 ^ s ≤ y * 2 ^ s := Nat.mul_le_mul_right _ hh
    rw [Nat.add_mul, Nat.one_mul] at this
    omega
  have hd : lo * 2 ^ s / 18446744073709551616 = lo / 2 ^ b := by rw [← hp, Nat.mul_div_mul_right _ _ hps]
  refine ⟨y * 2 ^ s, hi * 2 ^ s + lo / 2 ^ b, lo * 2 ^ s % 18446744073709551616, by omega, ?_, ?_, ?_, hY1, hY2, hU1, Nat.mod_lt _ (by decide), ?_⟩
  · rw [shl_nat y s (by omega), Nat.mod_eq_of_lt hY2]
  · rw [shl_nat hi s (by omega), shr_nat lo b (by omega), Nat.mod_eq_of_lt (by omega)]
    exact or_nat hq (by omega)
  · rw [shl_nat lo s (by omega)]
  · have e : (hi * 2 ^ s + lo / 2 ^ b) * 18446744073709551616 + lo * 2 ^ s % 18446744073709551616 = (hi * 18446744073709551616 + lo) * 2 ^ s := by
      rw [← hd]
      have := Nat.div_add_mod (lo * 2 ^ s) 18446744073709551616
      rw [Nat.add_mul, Nat.add_mul, Nat.mul_right_comm]
      generalize lo * 2 ^ s = z at *
      omega
    rw [e, Nat.mul_div_mul_right _ _ hps]
/-- What is left behind a digit. -/
theorem left {U d Y q R : Nat} (hY' : Y < 18446744073709551616) (hR : R < Y) (hd : d < 4294967296) (hz : Y * q + R = U * 4294967296 + d) :
    IntKind.wrap .u64 (IntKind.wrap .u64 (IntKind.wrap .u64 ((U : Int) * 4294967296) + (d : Int)) - IntKind.wrap .u64 ((q : Int) * (Y : Int))) = (R : Int) := by
  have e1 : IntKind.wrap .u64 ((U : Int) * 4294967296) = ((U * 4294967296 % 18446744073709551616 : Nat) : Int) := uwrap_mul U 4294967296
  have e2 : IntKind.wrap .u64 (((U * 4294967296 % 18446744073709551616 : Nat) : Int) + (d : Int)) = (((U * 4294967296 % 18446744073709551616 + d) % 18446744073709551616 : Nat) : Int) := by
    rw [show ((U * 4294967296 % 18446744073709551616 : Nat) : Int) + (d : Int) = ((U * 4294967296 % 18446744073709551616 + d : Nat) : Int) by omega]; exact uwrap_mod _
  rw [e1, e2, uwrap_mul]
  rw [Nat.mul_comm] at hz
  refine uwrap_sub ?_ (by omega)
  generalize q * Y = z at hz ⊢
  omega
theorem fin_div {U L Y q1 q0 R1 R0 : Nat} (r0 : R0 < Y) (d1 : Y * q1 + R1 = U * 4294967296 + L / 4294967296) (d0 : Y * q0 + R0 = R1 * 4294967296 + L % 4294967296) : (U * 18446744073709551616 + L) / Y = q1 * 4294967296 + q0 := by
  have e : (q1 * 4294967296 + q0) * Y = Y * q1 * 4294967296 + Y * q0 := by
    rw [Nat.add_mul, Nat.mul_comm q0 Y, Nat.mul_right_comm, Nat.mul_comm q1 Y]
  have e2 : (q1 * 4294967296 + q0 + 1) * Y = Y * q1 * 4294967296 + Y * q0 + Y := by rw [Nat.succ_mul, e]
  refine Nat.div_eq_of_lt_le ?_ ?_
  · rw [e]
    generalize Y * q1 = z at *
    generalize Y * q0 = w at *
    omega
  · rw [e2]
    generalize Y * q1 = z at *
    generalize Y * q0 = w at *
    omega
theorem wU {U y1 : Nat} (h1 : 2147483648 ≤ y1) (hU : U < 18446744073709551616) : IntKind.wrap .u64 (Int.tdiv (U : Int) (y1 : Int)) = ((U / y1 : Nat) : Int) ∧ IntKind.wrap .u64 ((U : Int) - IntKind.wrap .u64 (((U / y1 : Nat) : Int) * (y1 : Int))) = ((U % y1 : Nat) : Int) := by
  have h2 := Nat.div_le_self U y1
  have h3 := Nat.div_add_mod U y1
  have h4 := Nat.mod_lt U (show 0 < y1 by omega)
  rw [Nat.mul_comm] at h3
  constructor
  · rw [show (U : Int).tdiv (y1 : Int) = ((U / y1 : Nat) : Int) from rfl]
    generalize U / y1 = q at *
    exact uwrap rfl (by omega)
  · have e : IntKind.wrap .u64 (((U / y1 : Nat) : Int) * (y1 : Int)) = ((U / y1 * y1 : Nat) : Int) := uwrap (by simp) (by generalize U / y1 * y1 = z at *; omega)
    rw [e]
    generalize U / y1 * y1 = z at *
    generalize U % y1 = w at *
    exact uwrap (by omega) (by omega)
theorem div64_ok {hi lo y : Nat} (hlo : lo < 18446744073709551616) (hy : y < 18446744073709551616) (hh : hi < y) {n : Nat} (hn : 10 ≤ n) : ∃ r : Int, math_bits_Div64 n (hi : Int) (lo : Int) (y : Int) = some ((((hi * 18446744073709551616 + lo) / y : Nat) : Int), r) := by
  obtain ⟨n, rfl⟩ : ∃ k, n = k + 2 := ⟨n - 2, by omega⟩
  unfold math_bits_Div64
  rw [at1_succ, show ((y : Int) == 0) = false by simp; omega, cond_false, dF (by omega : ¬ (y : Int) ≤ (hi : Int)), cond_false]
  have hz : ckZ (y : Int) = some () := by unfold ckZ; rw [if_neg (by omega)]
  by_cases h0 : hi = 0
  · subst h0
    rw [show (((0 : Nat) : Int) == 0) = true from rfl, cond_true, hz, Option.bind_some, Option.bind_some]
    refine ⟨_, congrArg (fun x => some (x, _)) ?_⟩
    have := Nat.div_le_self lo y
    rw [show (lo : Int).tdiv (y : Int) = ((lo / y : Nat) : Int) from rfl, Nat.zero_mul, Nat.zero_add]
    generalize lo / y = q at *
    exact uwrap rfl (by omega)
  · obtain ⟨Y, U, L, N⟩ := norm hlo hy hh
    have hN := N.hs
    have hlz : math_bits_LeadingZeros64 (n + 1) (y : Int) = some (((64 - Sort.bitsLen y : Nat)) : Int) := by
      unfold math_bits_LeadingZeros64
      rw [at1_succ, len64_all hy (by omega), Option.bind_some, wv (v := 64 - Sort.bitsLen y) (by omega) (by omega)]
    rw [show ((hi : Int) == 0) = false by simp; omega, cond_false, hlz, Option.bind_some]
    obtain ⟨hs, eY, eU, eL, hY, hY', hU, hL, hQ⟩ := N
    generalize 64 - Sort.bitsLen y = s at *
    generalize Sort.bitsLen y = b at *
    have ws : IntKind.wrap .u64 (s : Int) = (s : Int) := uwrap rfl (by omega)
    have wb : IntKind.wrap .u64 (64 - (s : Int)) = (b : Int) := uwrap (by omega) (by omega)
    have k1 : ckN (s : Int) = some () := by unfold ckN; rw [if_neg (by omega)]
    have k2 : ckN (b : Int) = some () := by unfold ckN; rw [if_neg (by omega)]
    have a1 : iShr .u64 (Y : Int) 32 = ((Y / 4294967296 : Nat) : Int) := shr_nat Y 32 (by omega)
    have a0 : iAnd .u64 (Y : Int) 4294967295 = ((Y % 4294967296 : Nat) : Int) := and_mask Y hY'
    have c1 : iShr .u64 (L : Int) 32 = ((L / 4294967296 : Nat) : Int) := shr_nat L 32 (by omega)
    have c0 : iAnd .u64 (L : Int) 4294967295 = ((L % 4294967296 : Nat) : Int) := and_mask L hL
    have y1a : 2147483648 ≤ Y / 4294967296 := by omega
    have y1b : Y / 4294967296 < 4294967296 := by omega
    have y0b : Y % 4294967296 < 4294967296 := by omega
    have eYY : Y / 4294967296 * 4294967296 + Y % 4294967296 = Y := by omega
    have k3 : ckZ ((Y / 4294967296 : Nat) : Int) = some () := by unfold ckZ; rw [if_neg (by omega)]
    have l1b : L / 4294967296 < 4294967296 := by omega
    have l0b : L % 4294967296 < 4294967296 := by omega
    obtain ⟨u1, u2⟩ := wU y1a (show U < 18446744073709551616 by omega)
    rw [ws, k1, Option.bind_some, Option.bind_some, wb, k2, Option.bind_some, Option.bind_some, eY, a1, k3, Option.bind_some, eU, u1, u2]
    -- the first digit
    obtain ⟨q1, hq1⟩ : ∃ q, q = (U * 4294967296 + L / 4294967296) / Y := ⟨_, rfl⟩
    obtain ⟨R1, hR1⟩ : ∃ r, r = (U * 4294967296 + L / 4294967296) % Y := ⟨_, rfl⟩
    have hR1' : R1 < Y := by rw [hR1]; exact Nat.mod_lt _ (by omega)
    obtain ⟨q0, hq0⟩ : ∃ q, q = (R1 * 4294967296 + L % 4294967296) / Y := ⟨_, rfl⟩
    have g1 := guess y1a y0b (by rw [eYY]; exact hU) l1b
    have g0 := guess y1a y0b (by rw [eYY]; exact hR1') l0b
    rw [eYY] at g1 g0
    have q1b : q1 < 4294967296 := by
      rw [hq1, Nat.div_lt_iff_lt_mul (by omega)]; omega
    have q0b : q0 < 4294967296 := by
      rw [hq0, Nat.div_lt_iff_lt_mul (by omega)]; omega
    have first : ∀ K : Int → Option (Int × Int), math_bits_Div64_l17 (n + 1) (lo : Int) (y : Int) (s : Int) K (n + 1) ((U / (Y / 4294967296) : Nat) : Int) ((U % (Y / 4294967296) : Nat) : Int) = K (q1 : Int) := by
      intro K
      have := knuth (F := fun m q r => math_bits_Div64_l17 (n + 1) (lo : Int) (y : Int) (s : Int) K m (q : Int) (r : Int)) (K := fun q => K (q : Int)) y1a y1b y0b (by rw [eYY]; exact hU) l1b (fun m q r hq hr => by
        show math_bits_Div64_l17 (n + 1) (lo : Int) (y : Int) (s : Int) K (m + 1) (q : Int) (r : Int) = _
        rw [math_bits_Div64_l17, ws, eY, eL, a0, a1, c1, ask hq y0b hr l1b]
        by_cases hc : q ≥ 4294967296 ∨ q * (Y % 4294967296) > 4294967296 * r + L / 4294967296
        · rw [dT hc, if_pos hc, cond_true, uwrap (x := (r : Int) + _) (v := r + Y / 4294967296) (by omega) (by omega)]
          have hq1 : 1 ≤ q := by
            rcases hc with hc | hc
            · omega
            · rcases Nat.eq_zero_or_pos q with rfl | h
              · rw [Nat.zero_mul] at hc; omega
              · exact h
          rw [uwrap (x := (q : Int) - 1) (v := q - 1) (by omega) (by omega)]
          by_cases hb : r + Y / 4294967296 ≥ 4294967296
          · rw [dT (by omega : ((r + Y / 4294967296 : Nat) : Int) ≥ 4294967296), if_pos hb]; rfl
          · rw [dF (by omega : ¬ ((r + Y / 4294967296 : Nat) : Int) ≥ 4294967296), if_neg hb]; rfl
        · rw [dF hc, if_neg hc]; rfl) 2 (n + 1) (U / (Y / 4294967296)) (U % (Y / 4294967296)) (by omega) (by omega) g1.1 (by have := Nat.mod_lt U (show 0 < Y / 4294967296 by omega); omega) (by rw [Nat.mul_comm]; exact Nat.div_add_mod _ _) (by rw [eYY]; exact g1.2)
      rw [eYY, ← hq1] at this
      exact this
    have second : ∀ K : Int → Option (Int × Int), math_bits_Div64_l24 (n + 1) (lo : Int) (y : Int) (s : Int) K (n + 1) ((R1 % (Y / 4294967296) : Nat) : Int) ((R1 / (Y / 4294967296) : Nat) : Int) = K (q0 : Int) := by
      intro K
      have := knuth (F := fun m q r => math_bits_Div64_l24 (n + 1) (lo : Int) (y : Int) (s : Int) K m (r : Int) (q : Int)) (K := fun q => K (q : Int)) y1a y1b y0b (by rw [eYY]; exact hR1') l0b (fun m q r hq hr => by
        show math_bits_Div64_l24 (n + 1) (lo : Int) (y : Int) (s : Int) K (m + 1) (r : Int) (q : Int) = _
        rw [math_bits_Div64_l24, ws, eY, eL, a0, a1, c0, ask hq y0b hr l0b]
        by_cases hc : q ≥ 4294967296 ∨ q * (Y % 4294967296) > 4294967296 * r + L % 4294967296
        · rw [dT hc, if_pos hc, cond_true, uwrap (x := (r : Int) + _) (v := r + Y / 4294967296) (by omega) (by omega)]
          have hq1 : 1 ≤ q := by
            rcases hc with hc | hc
            · omega
            · rcases Nat.eq_zero_or_pos q with rfl | h
              · rw [Nat.zero_mul] at hc; omega
              · exact h
          rw [uwrap (x := (q : Int) - 1) (v := q - 1) (by omega) (by omega)]
          by_cases hb : r + Y / 4294967296 ≥ 4294967296
          · rw [dT (by omega : ((r + Y / 4294967296 : Nat) : Int) ≥ 4294967296), if_pos hb]; rfl
          · rw [dF (by omega : ¬ ((r + Y / 4294967296 : Nat) : Int) ≥ 4294967296), if_neg hb]; rfl
        · rw [dF hc, if_neg hc]; rfl) 2 (n + 1) (R1 / (Y / 4294967296)) (R1 % (Y / 4294967296)) (by omega) (by omega) g0.1 (by have := Nat.mod_lt R1 (show 0 < Y / 4294967296 by omega); omega) (by rw [Nat.mul_comm]; exact Nat.div_add_mod _ _) (by rw [eYY]; exact g0.2)
      rw [eYY, ← hq0] at this
      exact this
    unfold withK
    simp only [first, ws, k1, k3, Option.bind_some, eY, a1, eU, eL, c1, c0]
    have hleft := left (q := q1) (R := R1) hY' hR1' l1b (by rw [hq1, hR1]; exact Nat.div_add_mod _ _)
    obtain ⟨v1, v2⟩ := wU y1a (show R1 < 18446744073709551616 by omega)
    rw [hleft, v1, v2, second]
    refine ⟨_, congrArg (fun x => some (x, _)) ?_⟩
    rw [uwrap (x := (q1 : Int) * 4294967296) (v := q1 * 4294967296) (by omega) (by omega), hQ]
    have d1 : Y * q1 + R1 = U * 4294967296 + L / 4294967296 := by rw [hq1, hR1]; exact Nat.div_add_mod _ _
    have d0 : ∃ R0, R0 < Y ∧ Y * q0 + R0 = R1 * 4294967296 + L % 4294967296 := ⟨_, Nat.mod_lt _ (by omega), by rw [hq0]; exact Nat.div_add_mod _ _⟩
    obtain ⟨R0, r0, d0⟩ := d0
    have hfin : (U * 18446744073709551616 + L) / Y = q1 * 4294967296 + q0 := fin_div r0 d1 d0
    rw [hfin]
    exact uwrap (by omega) (by omega)
end Go.Pl

