import Derived.Test.YtnfgpejdbmakkaaAbStr
set_option maxRecDepth 100000
set_option linter.unusedVariables false
set_option linter.unusedSimpArgs false
/-! Unsigned numbers of 64 bits, as natural numbers. -/
namespace Go.Ab
open Go

def uN (n : Nat) : AV := .pv (.int .u64 (n : Int))
theorem addN {a b : Nat} (h : a + b < 2 ^ 64) : some (AV.pv (.int .u64 (IntKind.u64.wrap ((a : Int) + (b : Int))))) = some (.pv (.int .u64 ((a + b : Nat) : Int))) := by
  rw [wrapU64 (by omega) (by omega)]; rfl
theorem subN {a b : Nat} (h : b ≤ a) (ha : a < 2 ^ 64) : some (AV.pv (.int .u64 (IntKind.u64.wrap ((a : Int) - (b : Int))))) = some (.pv (.int .u64 ((a - b : Nat) : Int))) := by
  rw [wrapU64 (by omega) (by omega), show (a : Int) - (b : Int) = ((a - b : Nat) : Int) by omega]
theorem mulN {a b : Nat} (h : a * b < 2 ^ 64) : some (AV.pv (.int .u64 (IntKind.u64.wrap ((a : Int) * (b : Int))))) = some (.pv (.int .u64 ((a * b : Nat) : Int))) := by
  rw [show (a : Int) * (b : Int) = ((a * b : Nat) : Int) by simp, wrapU64 (by omega) (by omega)]
theorem wmulN {a b : Nat} : some (AV.pv (.int .u64 (IntKind.u64.wrap ((a : Int) * (b : Int))))) = some (.pv (.int .u64 ((a * b % 18446744073709551616 : Nat) : Int))) := by
  rw [show (a : Int) * (b : Int) = ((a * b : Nat) : Int) by simp]
  simp [IntKind.wrap, IntKind.signed, IntKind.bits]
theorem quoN {a b : Nat} (ha : a < 2 ^ 64) : some (AV.pv (.int .u64 (IntKind.u64.wrap ((a : Int).tdiv (b : Int))))) = some (.pv (.int .u64 ((a / b : Nat) : Int))) := by
  have h : (a : Int).tdiv (b : Int) = ((a / b : Nat) : Int) := rfl
  have h2 := Nat.div_le_self a b
  rw [h]
  generalize a / b = q at *
  rw [wrapU64 (by omega) (by omega)]
theorem shrN (k : Nat) (d : Nat) (hk : k < 64) (hd : 2 ^ k = d) (a : Nat) : shiftBin .shr .u64 (a : Int) k = some (.pv (.int .u64 ((a / d : Nat) : Int))) := by
  subst hd
  unfold shiftBin
  rw [if_neg (by omega)]
  have e : min (k : Int).toNat IntKind.u64.bits = k := by simp [IntKind.bits]; omega
  simp only [e]
  rw [Int.fdiv_eq_ediv_of_nonneg _ (Int.le_of_lt (Int.pow_pos (by decide)))]
  simp
theorem shlN (k : Nat) (d : Nat) (hk : k < 64) (hd : 2 ^ k = d) (a : Nat) : shiftBin .shl .u64 (a : Int) k = some (.pv (.int .u64 ((a * d % 18446744073709551616 : Nat) : Int))) := by
  subst hd
  unfold shiftBin
  rw [if_neg (by omega)]
  have e : min (k : Int).toNat IntKind.u64.bits = k := by simp [IntKind.bits]; omega
  simp only [e]
  rw [show (a : Int) * 2 ^ k = ((a * 2 ^ k : Nat) : Int) by simp]
  simp [IntKind.wrap, IntKind.signed, IntKind.bits]
theorem andN (k : Nat) (m : Int) (hm : m = ((2 ^ k - 1 : Nat) : Int)) (hk : k ≤ 63) {a : Nat} (ha : a < 2 ^ 64) : some (AV.pv (.int .u64 (IntKind.u64.wrap ((BitVec.ofInt IntKind.u64.bits (a : Int) &&& BitVec.ofInt IntKind.u64.bits m).toNat : Int)))) = some (.pv (.int .u64 ((a % 2 ^ k : Nat) : Int))) := by
  subst hm
  have hle : 2 ^ k ≤ 2 ^ 63 := Nat.pow_le_pow_right (by decide) hk
  have e1 : (BitVec.ofInt IntKind.u64.bits (a : Int)).toNat = a := by rw [BitVec.toNat_ofInt]; simp only [IntKind.bits]; omega
  have e2 : (BitVec.ofInt IntKind.u64.bits ((2 ^ k - 1 : Nat) : Int)).toNat = 2 ^ k - 1 := by rw [BitVec.toNat_ofInt]; simp only [IntKind.bits]; omega
  rw [BitVec.toNat_and, e1, e2, Nat.and_two_pow_sub_one_eq_mod]
  have : a % 2 ^ k < 2 ^ k := Nat.mod_lt _ (Nat.pow_pos (by decide))
  rw [wrapU64 (by omega) (by omega)]
theorem orN {a b s : Nat} (ha : a < 2 ^ s) (hb : a + b * 2 ^ s < 2 ^ 64) : some (AV.pv (.int .u64 (IntKind.u64.wrap ((BitVec.ofInt IntKind.u64.bits ((b * 2 ^ s : Nat) : Int) ||| BitVec.ofInt IntKind.u64.bits (a : Int)).toNat : Int)))) = some (.pv (.int .u64 ((b * 2 ^ s + a : Nat) : Int))) := by
  have e1 : (BitVec.ofInt IntKind.u64.bits (a : Int)).toNat = a := by rw [BitVec.toNat_ofInt]; simp only [IntKind.bits]; omega
  have e2 : (BitVec.ofInt IntKind.u64.bits ((b * 2 ^ s : Nat) : Int)).toNat = b * 2 ^ s := by rw [BitVec.toNat_ofInt]; simp only [IntKind.bits]; omega
  rw [BitVec.toNat_or, e1, e2, Nat.mul_comm b, ← Nat.two_pow_add_eq_or_of_lt ha]
  rw [Nat.mul_comm b] at hb
  rw [wrapU64 (by omega) (by omega)]
/-- A loop that is left at its first look. -/
theorem wp_loop1 {G : Cfg} {C : CallF} {f n : Nat} {Q : Ex → List AV → List Blk → Prop} {t : List AV} {H : List Blk} {c : Code} (hn : 0 < n) (h : WP (exec G C f n c none ⟨t, H⟩) fun ex t H => match ex with
    | .normal => False
    | ex => Q ex t H) : WP (exec G C f n (.loop c) none ⟨t, H⟩) Q :=
  wp_loop (fun _ t' H' => t' = t ∧ H' = H) 0 ⟨rfl, rfl⟩ hn (by
    rintro k _ _ _ ⟨rfl, rfl⟩
    refine h.mono fun ex t H q => ?_
    cases ex with
    | normal => exact q.elim
    | _ => exact q)
end Go.Ab
