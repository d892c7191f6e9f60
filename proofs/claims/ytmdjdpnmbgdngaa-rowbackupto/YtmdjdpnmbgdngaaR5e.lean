import Derived.Test.YtmdjdpnmbgdngaaQC
import Derived.Test.YtmdjdpnmbgdngaaR5c
set_option linter.unusedVariables false
set_option linter.unusedSimpArgs false
namespace Go.Pl
open Go Go.Ab

/-! ### Whole numbers -/
def zig (x : Int) : Nat := if x < 0 then (-2 * x - 1).toNat else (2 * x).toNat
theorem notU {u : Nat} (h : u < 18446744073709551616) : notI .u64 (u : Int) = ((18446744073709551615 - u : Nat) : Int) := by
  show IntKind.wrap .u64 ((BitVec.ofInt 64 18446744073709551615 ^^^ BitVec.ofInt 64 (u : Int)).toNat : Int) = _
  have e : BitVec.ofInt 64 18446744073709551615 = BitVec.allOnes 64 := by decide
  have e2 : (BitVec.allOnes 64 ^^^ BitVec.ofInt 64 (u : Int)).toNat = 18446744073709551615 - u := by
    rw [BitVec.allOnes_xor, BitVec.toNat_not]
    simp
    omega
  rw [e, e2, wrapU (by omega) (by omega)]
theorem shl1 (x : Int) : iShl .u64 (IntKind.wrap .u64 x) 1 = (2 * x) % 18446744073709551616 := by
  unfold iShl
  simp [IntKind.wrap, IntKind.signed, IntKind.bits]
  omega
theorem wI_i {x : Int} (h : wI .i64 x) : -9223372036854775808 ≤ x ∧ x ≤ 9223372036854775807 := h
theorem putInt_r_ok {l : List Int} {x : Int} (hx : wI .i64 x) (hl : l.length < 900000000) {n : Nat} (h : 21 ≤ n) (hn : n < 100000000) : codec_PutInt_r n l x = some (l ++ ubytes (zig x)) := by
  obtain ⟨n, rfl⟩ : ∃ k, n = k + 1 := ⟨n - 1, by omega⟩
  obtain ⟨h1, h2⟩ := wI_i hx
  unfold codec_PutInt_r
  rw [at1_succ, shl1]
  unfold zig
  by_cases h0 : x < 0
  · rw [decide_eq_true h0, cond_true, if_pos h0]
    rw [show (2 * x) % 18446744073709551616 = (((18446744073709551616 + 2 * x).toNat : Nat) : Int) by omega, notU (by omega)]
    rw [putUint_r_ok (by omega) hl (by omega) (by omega), Option.bind_some]
    congr 4
    omega
  · rw [decide_eq_false h0, cond_false, if_neg h0]
    rw [show (2 * x) % 18446744073709551616 = (((2 * x).toNat : Nat) : Int) by omega]
    rw [putUint_r_ok (by omega) hl (by omega) (by omega), Option.bind_some]
theorem zig_lt {x : Int} (hx : wI .i64 x) : zig x < 18446744073709551616 := by
  obtain ⟨h1, h2⟩ := wI_i hx
  unfold zig; split <;> omega
theorem shr1 (v : Nat) : iShr .u64 (v : Int) 1 = ((v / 2 : Nat) : Int) := by
  unfold iShr
  show Int.fdiv (v : Int) (2 ^ 1) = _
  rw [Int.fdiv_eq_ediv_of_nonneg _ (by decide)]
  omega
theorem and1 (v : Nat) (h : v < 18446744073709551616) : iAnd .u64 (v : Int) 1 = ((v % 2 : Nat) : Int) := by
  unfold iAnd
  have e : (BitVec.ofInt 64 (v : Int) &&& BitVec.ofInt 64 1).toNat = v % 2 := by
    rw [BitVec.toNat_and]
    rw [show (BitVec.ofInt 64 1).toNat = 1 by decide, Nat.and_one_is_mod]
    simp
    try omega
  rw [show (BitVec.ofInt IntKind.u64.bits (v : Int) &&& BitVec.ofInt IntKind.u64.bits 1).toNat = v % 2 from e, wrapU (by omega) (by omega)]
theorem int_ok {b : Option (List Int)} {x : Int} {rest : List Int} (hx : wI .i64 x) (hb : Bytes (sll b)) (hs : sll b = ubytes (zig x) ++ rest) {n : Nat} (h : 14 ≤ n) : ∃ b', codec_Reader_Int n ⟨true, b, 0⟩ = some (true, b', 0, x) ∧ sll b' = rest := by
  obtain ⟨n, rfl⟩ : ∃ k, n = k + 1 := ⟨n - 1, by omega⟩
  unfold codec_Reader_Int
  rw [at1_succ]
  obtain ⟨b', e', v, h1, h2⟩ := uint_ok (most := 18446744073709551615) hb (by omega : 13 ≤ n)
  rw [h1, Option.bind_some]
  have hz := zig_lt hx
  rw [hs, rdU_put (by omega)] at h2
  unfold UintR at h2
  simp only at h2
  rw [if_pos (by omega)] at h2
  obtain ⟨g1, g2, g3⟩ := h2
  refine ⟨b', ?_, g1⟩
  subst g2 g3
  simp only
  rw [and1 _ hz, shr1, notU (by omega)]
  obtain ⟨h1, h2⟩ := wI_i hx
  unfold zig
  by_cases h0 : x < 0
  · simp only [if_pos h0]
    rw [show ((((-2 * x - 1).toNat % 2 : Nat) : Int) == 1) = true by simp; omega, cond_true]
    simp only [IntKind.wrap, IntKind.signed, IntKind.bits]
    congr 4
    simp
    omega
  · simp only [if_neg h0]
    rw [show ((((2 * x).toNat % 2 : Nat) : Int) == 1) = false by simp; omega, cond_false]
    rw [wrapI (by omega) (by omega)]
    congr 4
    omega
/-! ### Eight bytes -/
def be (x : Nat) : Nat → List Int
  | 0 => []
  | j + 1 => ((x / 2 ^ (8 * j) % 256 : Nat) : Int) :: be x j
theorem be_length (x : Nat) : ∀ j, (be x j).length = j
  | 0 => rfl
  | j + 1 => by rw [be, List.length_cons, be_length x j]
theorem be_bytes (x : Nat) : ∀ j, Bytes (be x j)
  | 0 => fun y hy => by cases hy
  | j + 1 => fun y hy => by
    rw [be, List.mem_cons] at hy
    rcases hy with rfl | hy
    · omega
    · exact be_bytes x j y hy
theorem shr_by {x j : Nat} (hj : j ≤ 7) : iShr .u64 (x : Int) ((8 * j : Nat) : Int) = ((x / 2 ^ (8 * j) : Nat) : Int) := by
  unfold iShr
  rw [Int.toNat_natCast, show min (8 * j) IntKind.u64.bits = 8 * j from Nat.min_eq_left (by show 8 * j ≤ 64; omega)]
  rw [Int.fdiv_eq_ediv_of_nonneg _ (Int.le_of_lt (Int.pow_pos (by decide)))]
  rw [show ((2 : Int) ^ (8 * j)) = ((2 ^ (8 * j) : Nat) : Int) by simp]
  omega
theorem wrapY_mod (v : Nat) : IntKind.wrap .u8 (v : Int) = ((v % 256 : Nat) : Int) := by simp [IntKind.wrap, IntKind.signed, IntKind.bits]
theorem putFixed_loop {n : Nat} {x : Nat} {K : List Int → Option (List Int)} (m : Nat) : ∀ (j : Nat) (l : List Int), j ≤ 8 → l.length + j < 1000000000 → codec_PutFixed_r_l2 n (x : Int) K (m + j + 1) l ((j : Int) - 1) = K (l ++ be x j) := by
  intro j
  induction j with
  | zero =>
    intro l _ _
    rw [codec_PutFixed_r_l2, show decide (((0 : Nat) : Int) - 1 ≥ 0) = false by decide, cond_false, be, List.append_nil]
  | succ j ih =>
    intro l hj hl
    rw [codec_PutFixed_r_l2, show (((j + 1 : Nat) : Int) - 1) = (j : Int) by omega, decide_eq_true (by omega : (j : Int) ≥ 0), cond_true]
    rw [wrapI (by omega : -9223372036854775808 ≤ 8 * (j : Int)) (by omega), wrapU (by omega) (by omega), ckN_ok (by omega), Option.bind_some]
    rw [show (8 * (j : Int)) = ((8 * j : Nat) : Int) by omega, shr_by (by omega), wrapY_mod, ckA_ok (by decide) (by simp; omega), Option.bind_some]
    rw [wrapI (by omega) (by omega), show m + (j + 1) = m + j + 1 by omega, ih _ (by omega) (by simp; omega), be]
    simp
theorem putFixed_r_ok {l : List Int} {x : Nat} (hl : l.length < 900000000) {n : Nat} (h : 20 ≤ n) : codec_PutFixed_r n l (x : Int) 8 = some (l ++ be x 8) := by
  obtain ⟨n, rfl⟩ : ∃ k, n = k + 10 := ⟨n - 10, by omega⟩
  unfold codec_PutFixed_r
  rw [at1_succ]
  unfold withK
  have := putFixed_loop (n := n + 9) (x := x) (K := fun y => some y) n 8 l (by omega) (by omega)
  exact this
theorem iOr_byte {a b : Nat} (ha : a < 2 ^ 56) (hb : b < 256) : iOr .u64 (iShl .u64 (a : Int) 8) (IntKind.wrap .u64 (b : Int)) = ((a * 256 + b : Nat) : Int) := by
  have e : iShl .u64 (a : Int) 8 = ((a * 2 ^ 8 : Nat) : Int) := by
    unfold iShl
    show IntKind.wrap .u64 ((a : Int) * 2 ^ 8) = _
    rw [wrapU (by omega) (by omega)]; omega
  rw [e, wrapU (by omega) (by omega)]
  have c : iOr .u64 ((a * 2 ^ 8 : Nat) : Int) (b : Int) = iOr .u64 (b : Int) ((a * 2 ^ 8 : Nat) : Int) := by
    unfold iOr; rw [BitVec.or_comm]
  rw [c, orU (s := 8) (by omega) (by omega)]
  omega
theorem div_step (x j : Nat) : x / 2 ^ (8 * j) = x / 2 ^ (8 * (j + 1)) * 256 + x / 2 ^ (8 * j) % 256 := by
  rw [show 8 * (j + 1) = 8 * j + 8 by omega, Nat.pow_add, ← Nat.div_div_eq_div_mul]
  omega
theorem fixed_range {R : Type} {K : Int → Option R} {x : Nat} (hx : x < 2 ^ 64) : ∀ (j i : Nat), j ≤ 8 → rangeS (fun (c : Int) i (acc : Int) rec => rec (iOr .u64 (iShl .u64 acc 8) (IntKind.wrap .u64 c))) K (be x j) i ((x / 2 ^ (8 * j) : Nat) : Int) = K (x : Int)
  | 0, i, _ => by simp [be, rangeS]
  | j + 1, i, hj => by
    simp only [be, rangeS]
    rw [iOr_byte (by
      apply Nat.div_lt_of_lt_mul
      have : 2 ^ 8 ≤ 2 ^ (8 * (j + 1)) := Nat.pow_le_pow_right (by omega) (by omega)
      calc x < 2 ^ 8 * 2 ^ 56 := by omega
        _ ≤ 2 ^ (8 * (j + 1)) * 2 ^ 56 := Nat.mul_le_mul_right _ this) (by omega), ← div_step]
    exact fixed_range hx j (i + 1) (by omega)
theorem fixed_ok {b : Option (List Int)} {x : Nat} {rest : List Int} (hx : x < 2 ^ 64) (hs : sll b = be x 8 ++ rest) {n : Nat} (h : 2000010 ≤ n) : ∃ b', codec_Reader_Fixed n ⟨true, b, 0⟩ 8 = some (b', 0, (x : Int)) ∧ sll b' = rest := by
  obtain ⟨n, rfl⟩ : ∃ k, n = k + 1 := ⟨n - 1, by omega⟩
  unfold codec_Reader_Fixed
  rw [at1_succ, ready_ok (by omega)]
  simp only [Option.bind_some, beq_self_eq_true, Bool.and_self, Bool.not_true, cond_false]
  rw [show (if (8 : Int) < (if (0 : Int) > 8 then 0 else 8) then (8 : Int) else (if (0 : Int) > 8 then 0 else 8)) = ((8 : Nat) : Int) from rfl]
  have h8 : 8 ≤ (sll b).length := by rw [hs, List.length_append, be_length]; omega
  rw [take_ok h8 (by omega)]
  simp only [Option.bind_some, withK]
  have e1 : sll (subSl b 0 ((8 : Nat) : Int)) = be x 8 := by
    rw [sll_sub, hs]
    show ((be x 8 ++ rest).drop 0).take 8 = _
    rw [List.drop_zero]
    exact List.take_left' (be_length x 8)
  have e2 : sll (subSl b ((8 : Nat) : Int) ((sll b).length : Int)) = rest := by
    rw [sll_sub, hs]
    show ((be x 8 ++ rest).drop 8).take _ = _
    rw [List.drop_left' (be_length x 8), List.take_of_length_le]
    rw [List.length_append, be_length]
    show _ ≤ (((8 + rest.length : Nat) : Int)).toNat - 8
    omega
  refine ⟨_, ?_, e2⟩
  rw [show codec_Reader_Fixed_l6 n (subSl b 0 ((8 : Nat) : Int)) (fun y10 => some (subSl b ((8 : Nat) : Int) ((sll b).length : Int), 0, y10)) n 0 0 = _ from loop_sl (F := fun m s i => codec_Reader_Fixed_l6 n (subSl b 0 ((8 : Nat) : Int)) (fun y10 => some (subSl b ((8 : Nat) : Int) ((sll b).length : Int), 0, y10)) m i s) (by rw [e1, be_length]; omega) (B := fun (c : Int) i (acc : Int) rec => rec (iOr .u64 (iShl .u64 acc 8) (IntKind.wrap .u64 c))) (fun m i s => rfl) (by omega) 0]
  rw [e1]
  have := fixed_range (K := fun y10 => some (subSl b ((8 : Nat) : Int) ((sll b).length : Int), (0 : Int), y10)) hx 8 0 (by omega)
  rw [show x / 2 ^ (8 * 8) = 0 from Nat.div_eq_of_lt hx] at this
  exact this
/-! ### Floats -/
def bitsF (f : Nat) : Nat := bif isNan f then 9221120237041090561 else bif isZero f then 0 else f
theorem bits_ok (f : Nat) {n : Nat} (h : 1 ≤ n) : codec_bits n f = some (bitsF f : Int) := by
  obtain ⟨n, rfl⟩ : ∃ k, n = k + 1 := ⟨n - 1, by omega⟩
  show (bif isNan f then some 9221120237041090561 else bif isZero f then some 0 else some (f : Int)) = _
  unfold bitsF
  cases isNan f <;> cases isZero f <;> rfl
theorem putFloat_r_ok {l : List Int} {f : Nat} (hf : bitsF f = f) (hl : l.length < 900000000) {n : Nat} (h : 21 ≤ n) : codec_PutFloat_r n l f = some (l ++ be f 8) := by
  obtain ⟨n, rfl⟩ : ∃ k, n = k + 1 := ⟨n - 1, by omega⟩
  unfold codec_PutFloat_r
  rw [at1_succ, bits_ok _ (by omega), Option.bind_some, hf, putFixed_r_ok hl (by omega), Option.bind_some]
theorem float_ok {b : Option (List Int)} {f : Nat} {rest : List Int} (hx : f < 2 ^ 64) (hf : bitsF f = f) (hs : sll b = be f 8 ++ rest) {n : Nat} (h : 2000011 ≤ n) : ∃ b', codec_Reader_Float n ⟨true, b, 0⟩ = some (true, b', 0, f) ∧ sll b' = rest := by
  obtain ⟨n, rfl⟩ : ∃ k, n = k + 1 := ⟨n - 1, by omega⟩
  unfold codec_Reader_Float
  rw [at1_succ]
  obtain ⟨b', h1, h2⟩ := fixed_ok hx hs (by omega : 2000010 ≤ n)
  rw [h1, Option.bind_some]
  refine ⟨b', ?_, h2⟩
  simp only
  rw [ready_ok (by omega)]
  simp only [Option.bind_some, beq_self_eq_true, Bool.and_self, Bool.not_true, cond_false]
  rw [Int.toNat_natCast, bits_ok _ (by omega), Option.bind_some, hf]
  simp
end Go.Pl
