import Derived.Test.YtejbcaheoloahaaGreatGZ
set_option maxRecDepth 100000
namespace Go.Pl
open Go Go.Ab
theorem td_nat (a b : Nat) : Int.tdiv (a : Int) (b : Int) = ((a / b : Nat) : Int) := by rw [Int.tdiv_eq_ediv_of_nonneg (by omega)]; rfl
theorem tm_nat (a b : Nat) : Int.tmod (a : Int) (b : Int) = ((a % b : Nat) : Int) := by rw [Int.tmod_eq_emod_of_nonneg (by omega)]; rfl
theorem ref30_Wide_ok {a b : Nat} (ha : a ≤ 18446744073709551615) (hb : b ≤ 18446744073709551615) {n : Nat} (hn : 1 ≤ n) : ref30_Wide n (a : Int) (b : Int) = some (((a * b / 18446744073709551616 : Nat) : Int), ((a * b % 18446744073709551616 : Nat) : Int)) := by
  obtain ⟨n, rfl⟩ : ∃ k, n = k + 1 := ⟨n - 1, by omega⟩
  unfold ref30_Wide
  have td : ∀ x : Nat, Int.tdiv (x : Int) 4294967296 = ((x / 4294967296 : Nat) : Int) := fun x => td_nat x 4294967296
  have tm : ∀ x : Nat, Int.tmod (x : Int) 4294967296 = ((x % 4294967296 : Nat) : Int) := fun x => tm_nat x 4294967296
  have w : ∀ x : Nat, x < 18446744073709551616 → IntKind.wrap .u64 (x : Int) = (x : Int) := fun x h => uwrap rfl h
  rw [at1_succ, td, td, tm, tm, w _ (by omega), w _ (by omega)]
  have h1 : a % 4294967296 ≤ 4294967295 := by omega
  have h2 : a / 4294967296 ≤ 4294967295 := by omega
  have h3 : b % 4294967296 ≤ 4294967295 := by omega
  have h4 : b / 4294967296 ≤ 4294967295 := by omega
  have p1 := Nat.mul_le_mul h1 h3
  have q1 := Nat.mul_le_mul h2 h3
  have r1 := Nat.mul_le_mul h1 h4
  have s1 := Nat.mul_le_mul h2 h4
  have hE := mul_split a b
  have hab : a * b ≤ 18446744073709551615 * 18446744073709551615 := Nat.mul_le_mul (by omega) (by omega)
  rw [umul (a := a / 4294967296) (b := b / 4294967296) (by omega), umul (a := a / 4294967296) (b := b % 4294967296) (by omega), umul (a := a % 4294967296) (b := b % 4294967296) (by omega), umul (a := a % 4294967296) (b := b / 4294967296) (by omega)]
  generalize a % 4294967296 * (b % 4294967296) = p at *
  generalize a / 4294967296 * (b % 4294967296) = q at *
  generalize a % 4294967296 * (b / 4294967296) = r at *
  generalize a / 4294967296 * (b / 4294967296) = s at *
  generalize a * b = ab at *
  rw [td p, w _ (by omega), uadd (a := q) (b := p / 4294967296) (by omega)]
  rw [td (q + p / 4294967296), w _ (by omega), tm (q + p / 4294967296), uadd (a := r) (b := (q + p / 4294967296) % 4294967296) (by omega)]
  rw [td (r + (q + p / 4294967296) % 4294967296), w _ (by omega), tm (r + (q + p / 4294967296) % 4294967296), tm p]
  rw [uadd (a := s) (b := (q + p / 4294967296) / 4294967296) (by omega), uadd (a := s + (q + p / 4294967296) / 4294967296) (b := (r + (q + p / 4294967296) % 4294967296) / 4294967296) (by omega)]
  rw [show (4294967296 : Int) = ((4294967296 : Nat) : Int) from rfl, umul (a := (r + (q + p / 4294967296) % 4294967296) % 4294967296) (b := 4294967296) (by omega), uadd (a := (r + (q + p / 4294967296) % 4294967296) % 4294967296 * 4294967296) (b := p % 4294967296) (by omega)]
  have e1 : s + (q + p / 4294967296) / 4294967296 + (r + (q + p / 4294967296) % 4294967296) / 4294967296 = ab / 18446744073709551616 := by omega
  have e2 : (r + (q + p / 4294967296) % 4294967296) % 4294967296 * 4294967296 + p % 4294967296 = ab % 18446744073709551616 := by omega
  rw [e1, e2]
theorem ref30_Mul_ok {a b : Nat} (ha : a ≤ 18446744073709551615) (hb : b ≤ 18446744073709551615) {n : Nat} (hn : 2 ≤ n) : ref30_Mul n (a : Int) (b : Int) = some (capF (a * b) : Int) := by
  obtain ⟨n, rfl⟩ : ∃ k, n = k + 1 := ⟨n - 1, by omega⟩
  unfold ref30_Mul capF
  rw [at1_succ, ref30_Wide_ok ha hb (by omega), Option.bind_some]
  generalize a * b = p
  simp only
  by_cases h : p ≤ 18446744073709551615
  · rw [dF (by omega), cond_false, if_pos h, show p % 18446744073709551616 = p from Nat.mod_eq_of_lt (by omega)]
  · rw [dT (by omega), cond_true, if_neg h]; rfl
theorem share_step {q rest D P v w : Nat} (hD : 0 < D) (hv : D ≤ v) : q * (P * 2) + (v * P + w) / D = (2 * q + 1) * P + ((v - D) * P + w) / D := by
  have e1 : v * P + w = ((v - D) * P + w) + D * P := by
    have : v * P = (v - D) * P + D * P := by rw [← Nat.add_mul]; congr 1; omega
    omega
  rw [e1, Nat.add_mul_div_left _ _ hD]
  have e2 : q * (P * 2) = 2 * (q * P) := by rw [← Nat.mul_assoc, Nat.mul_comm]
  have e3 : (2 * q + 1) * P = 2 * (q * P) + P := by rw [Nat.add_mul, Nat.mul_assoc, Nat.one_mul]
  omega
theorem share_l9 {h l D : Nat} (hl : l < 18446744073709551616) (hD : 0 < D) (hD' : D ≤ 18446744073709551615) {K : Int → Option Int} {n : Nat} :
    ∀ (d q rest m : Nat), d ≤ 64 → rest < D → q * 2 ^ d + (rest * 2 ^ d + l % 2 ^ d) / D ≤ 18446744073709551615 → d < m →
      ref30_Share_l9 n (D : Int) ((h : Int), (l : Int)) K m (q : Int) ((d : Int) - 1) (rest : Int) = K ((q * 2 ^ d + (rest * 2 ^ d + l % 2 ^ d) / D : Nat) : Int)
  | 0, q, rest, m, hd, hr, hb, hm => by
    obtain ⟨m, rfl⟩ : ∃ j, m = j + 1 := ⟨m - 1, by omega⟩
    rw [ref30_Share_l9, dF (by omega), cond_false]
    congr 2
    rw [Nat.pow_zero, Nat.mod_one, Nat.mul_one, Nat.mul_one, Nat.add_zero, Nat.div_eq_of_lt hr]
    rfl
  | d + 1, q, rest, m, hd, hr, hb, hm => by
    obtain ⟨m, rfl⟩ : ∃ j, m = j + 1 := ⟨m - 1, by omega⟩
    have e0 : ((d + 1 : Nat) : Int) - 1 = (d : Int) := by omega
    have hck : ckN ((d : Nat) : Int) = some () := by unfold ckN; split <;> first | rfl | omega
    rw [e0, ref30_Share_l9, dT (by omega), cond_true, wrapU (x := (d : Int)) (by omega) (by omega), hck, Option.bind_some]
    simp only
    rw [show iShr .u64 (l : Int) (d : Int) = ((l / 2 ^ d : Nat) : Int) from shr_nat l d (by omega), show Int.tmod (((l / 2 ^ d : Nat) : Int)) 2 = ((l / 2 ^ d % 2 : Nat) : Int) from tm_nat _ 2]
    have hbit : l / 2 ^ d % 2 < 2 := Nat.mod_lt _ (by decide)
    have hsplit : l % 2 ^ (d + 1) = l % 2 ^ d + 2 ^ d * (l / 2 ^ d % 2) := Nat.mod_pow_succ
    rw [wrapI (x := (d : Int) - 1) (by omega) (by omega)]
    have hP : 0 < 2 ^ d := Nat.pow_pos (by decide)
    rw [Nat.pow_succ] at hb hsplit ⊢
    have ih1 := fun q' rest' hr' hb' => share_l9 (h := h) hl hD hD' (K := K) (n := n) d q' rest' m (by omega) hr' hb' (by omega)
    generalize l / 2 ^ d % 2 = bit at *
    generalize l % (2 ^ d * 2) = w2 at *
    generalize l % 2 ^ d = w at *
    generalize 2 ^ d = P at *
    subst hsplit
    have ev : rest * (P * 2) + (w + P * bit) = (rest * 2 + bit) * P + w := by
      have e2 : rest * (P * 2) = 2 * (rest * P) := by rw [← Nat.mul_assoc, Nat.mul_comm]
      have e3 : (rest * 2 + bit) * P = 2 * (rest * P) + P * bit := by rw [Nat.add_mul, Nat.mul_comm rest 2, Nat.mul_assoc, Nat.mul_comm bit P]
      omega
    rw [ev] at hb ⊢
    have eq2 : q * (P * 2) = (2 * q) * P := by rw [Nat.mul_comm P 2, ← Nat.mul_assoc, Nat.mul_comm q 2]
    have hq2 : 2 * q ≤ (2 * q) * P := Nat.le_mul_of_pos_right _ hP
    by_cases hv : D ≤ rest * 2 + bit
    · have hs := share_step (q := q) (rest := rest) (P := P) (w := w) hD hv
      rw [hs] at hb ⊢
      have hq1 : 2 * q + 1 ≤ 18446744073709551615 := Nat.le_trans (Nat.le_mul_of_pos_right _ hP) (Nat.le_trans (Nat.le_add_right _ _) hb)
      have hcond : ((decide ((rest : Int) ≥ 9223372036854775808)) || (decide ((IntKind.wrap .u64 ((IntKind.wrap .u64 ((rest : Int) * 2)) + (bit : Int))) ≥ (D : Int)))) = true := by
        by_cases ht : 9223372036854775808 ≤ rest
        · rw [dT (by omega), Bool.true_or]
        · rw [wrapU (x := (rest : Int) * 2) (by omega) (by omega), wrapU (by omega) (by omega), dT (p := (rest : Int) * 2 + bit ≥ D) (by omega), Bool.or_true]
      rw [hcond, cond_true]
      have e5 : IntKind.wrap .u64 ((IntKind.wrap .u64 ((q : Int) * 2)) + 1) = ((2 * q + 1 : Nat) : Int) := by
        rw [wrapU (x := (q : Int) * 2) (by omega) (by omega), wrapU (by omega) (by omega)]; omega
      have e6 : IntKind.wrap .u64 ((IntKind.wrap .u64 ((IntKind.wrap .u64 ((rest : Int) * 2)) + (bit : Int))) - (D : Int)) = ((rest * 2 + bit - D : Nat) : Int) := by
        simp only [IntKind.wrap, IntKind.signed, IntKind.bits]
        simp
        omega
      rw [e5, e6]
      exact ih1 _ _ (by omega) hb
    · have hcond : ((decide ((rest : Int) ≥ 9223372036854775808)) || (decide ((IntKind.wrap .u64 ((IntKind.wrap .u64 ((rest : Int) * 2)) + (bit : Int))) ≥ (D : Int)))) = false := by
        rw [dF (by omega), wrapU (x := (rest : Int) * 2) (by omega) (by omega), wrapU (by omega) (by omega), dF (p := (rest : Int) * 2 + bit ≥ D) (by omega)]; rfl
      rw [hcond, cond_false]
      rw [eq2] at hb ⊢
      have hq1 : 2 * q ≤ 18446744073709551615 := Nat.le_trans hq2 (Nat.le_trans (Nat.le_add_right _ _) hb)
      have e5 : IntKind.wrap .u64 ((q : Int) * 2) = ((2 * q : Nat) : Int) := by
        rw [wrapU (by omega) (by omega)]; omega
      have e6 : IntKind.wrap .u64 ((IntKind.wrap .u64 ((rest : Int) * 2)) + (bit : Int)) = ((rest * 2 + bit : Nat) : Int) := by
        rw [wrapU (x := (rest : Int) * 2) (by omega) (by omega), wrapU (by omega) (by omega)]; omega
      rw [e5, e6]
      exact ih1 _ _ (by omega) hb
theorem ref30_Share_ok {a b d : Nat} (ha : a ≤ 18446744073709551615) (hb : b ≤ 18446744073709551615) (hd : d ≤ 18446744073709551615) {n : Nat} (hn : 100 ≤ n) : ref30_Share n (a : Int) (b : Int) (d : Int) = some (shareF a b d : Int) := by
  have hle := shareF_le a b d
  obtain ⟨n, rfl⟩ : ∃ k, n = k + 1 := ⟨n - 1, by omega⟩
  unfold ref30_Share shareF at *
  rw [at1_succ, ref30_Wide_ok ha hb (by omega), Option.bind_some]
  generalize a * b = p at *
  simp only [withK]
  by_cases h0 : p = 0
  · subst h0; rfl
  · have e1 : ((((p / 18446744073709551616 : Nat) : Int) == 0) && (((p % 18446744073709551616 : Nat) : Int) == 0)) = false := by
      rw [Bool.and_eq_false_iff]
      by_cases h : p / 18446744073709551616 = 0
      · right
        have : ((p % 18446744073709551616 : Nat) : Int) ≠ 0 := by omega
        exact beq_eq_false_iff_ne.2 this
      · left
        have : ((p / 18446744073709551616 : Nat) : Int) ≠ 0 := by omega
        exact beq_eq_false_iff_ne.2 this
    rw [e1, cond_false, if_neg h0]
    rw [if_neg h0] at hle
    by_cases h1 : d ≤ p / 18446744073709551616
    · rw [show (((d : Int) == 0) || (decide (((p / 18446744073709551616 : Nat) : Int) ≥ (d : Int)))) = true by rw [dT (p := ((p / 18446744073709551616 : Nat) : Int) ≥ (d : Int)) (by omega), Bool.or_true], cond_true, if_pos h1]
      rfl
    · rw [beqF (by omega), dF (p := ((p / 18446744073709551616 : Nat) : Int) ≥ (d : Int)) (by omega), Bool.or_self, cond_false, if_neg h1]
      rw [if_neg h1] at hle
      have hdm := Nat.div_add_mod p 18446744073709551616
      have hm : p / 18446744073709551616 * 2 ^ 64 + p % 18446744073709551616 % 2 ^ 64 = p := by
        rw [show (2 : Nat) ^ 64 = 18446744073709551616 from rfl, Nat.mod_mod, Nat.mul_comm]; exact hdm
      have := share_l9 (h := p / 18446744073709551616) (l := p % 18446744073709551616) (D := d) (K := fun y5 => some y5) (n := n) (Nat.mod_lt _ (by decide)) (by omega) hd 64 0 (p / 18446744073709551616) n (by omega) (by omega) (by rw [hm, Nat.zero_mul, Nat.zero_add]; exact hle) (by omega)
      rw [hm, Nat.zero_mul, Nat.zero_add] at this
      exact this
theorem ref30_Scale_ok {a b : Nat} (ha : a ≤ 18446744073709551615) (hb : b ≤ 18446744073709551615) {n : Nat} (hn : 101 ≤ n) : ref30_Scale n (a : Int) (b : Int) = some (scaleF a b : Int) := by
  obtain ⟨n, rfl⟩ : ∃ k, n = k + 1 := ⟨n - 1, by omega⟩
  unfold ref30_Scale scaleF
  rw [at1_succ, show (1048576 : Int) = ((1048576 : Nat) : Int) from rfl, ref30_Share_ok ha hb (by decide) (by omega)]
  rfl
theorem ref30_Sub_ok {a b : Nat} (ha : a ≤ 18446744073709551615) {n : Nat} (hn : 1 ≤ n) : ref30_Sub n (a : Int) (b : Int) = some ((a - b : Nat) : Int) := by
  obtain ⟨n, rfl⟩ : ∃ k, n = k + 1 := ⟨n - 1, by omega⟩
  unfold ref30_Sub
  rw [at1_succ]
  by_cases h : a < b
  · rw [dT (by exact_mod_cast h), cond_true, show a - b = 0 by omega]; rfl
  · rw [dF (by omega), cond_false, wrapU (by omega) (by omega), show (a : Int) - b = ((a - b : Nat) : Int) by omega]
theorem ref30_Inverse_ok {a : Nat} {n : Nat} (hn : 2 ≤ n) : ref30_Inverse n (a : Int) = some ((1048576 - a : Nat) : Int) := by
  obtain ⟨n, rfl⟩ : ∃ k, n = k + 1 := ⟨n - 1, by omega⟩
  unfold ref30_Inverse
  rw [at1_succ, show (1048576 : Int) = ((1048576 : Nat) : Int) from rfl, ref30_Sub_ok (by decide) (by omega)]
  rfl
end Go.Pl
set_option maxRecDepth 100000
namespace Go.Pl
open Go Go.Ab
theorem wrap_bv (x : BitVec 32) : IntKind.wrap .u32 (x.toNat : Int) = (x.toNat : Int) := by
  have := x.isLt
  simp [IntKind.wrap, IntKind.signed, IntKind.bits]
  omega
theorem andNot_bv (r S : Int) : iAndNot .u32 r S = ((BitVec.ofInt 32 r &&& ~~~BitVec.ofInt 32 S).toNat : Int) := wrap_bv _
theorem or_bv (r S : Int) : iOr .u32 r S = ((BitVec.ofInt 32 r ||| BitVec.ofInt 32 S).toNat : Int) := wrap_bv _
theorem and_bv (r S : Int) : iAnd .u32 r S = ((BitVec.ofInt 32 r &&& BitVec.ofInt 32 S).toNat : Int) := wrap_bv _
theorem nat0 (x : BitVec 32) : (((x.toNat : Nat) : Int) == 0) = true ↔ x = 0#32 := by
  rw [beq_iff_eq]
  constructor
  · intro h; apply BitVec.eq_of_toNat_eq; simp; omega
  · rintro rfl; simp
theorem of_bv (x : BitVec 32) : BitVec.ofInt 32 (x.toNat : Int) = x := by simp
theorem self_bv {S : Int} (h : wI .u32 S) : ((BitVec.ofInt 32 S).toNat : Int) = S := by
  have h1 : 0 ≤ S := h.1
  have h2 : S ≤ 4294967295 := h.2
  rw [BitVec.toNat_ofInt]; omega
theorem or_sub (r s : BitVec 32) : r ||| s = s ↔ r &&& ~~~s = 0#32 := by
  constructor
  · intro h
    apply BitVec.eq_of_getLsbD_eq
    intro i hi
    have := congrArg (fun x => x.getLsbD i) h
    simp only [BitVec.getLsbD_or] at this
    simp only [BitVec.getLsbD_and, BitVec.getLsbD_not, BitVec.getLsbD_zero, hi, decide_true, Bool.true_and]
    cases hr : r.getLsbD i <;> cases hs : s.getLsbD i <;> rw [hr, hs] at this <;> simp at this ⊢
  · intro h
    apply BitVec.eq_of_getLsbD_eq
    intro i hi
    have := congrArg (fun x => x.getLsbD i) h
    simp only [BitVec.getLsbD_and, BitVec.getLsbD_not, BitVec.getLsbD_zero, hi, decide_true, Bool.true_and] at this
    simp only [BitVec.getLsbD_or]
    cases hr : r.getLsbD i <;> cases hs : s.getLsbD i <;> rw [hr, hs] at this <;> simp at this ⊢
theorem and_one {S : Int} (h : wI .u32 S) : iAnd .u32 S 1 = S % 2 := by
  have h1 : 0 ≤ S := h.1
  have h2 : S ≤ 4294967295 := h.2
  obtain ⟨v, rfl⟩ : ∃ v : Nat, S = v := ⟨S.toNat, by omega⟩
  rw [and_bv]
  have : (BitVec.ofInt 32 (v : Int) &&& BitVec.ofInt 32 1).toNat = v % 2 := by
    rw [BitVec.toNat_and, BitVec.toNat_ofInt, show (BitVec.ofInt 32 1).toNat = 1 from rfl, Nat.and_one_is_mod]
    omega
  rw [this]; rfl
theorem in_okS {S r : Int} (hS : wI .u32 S) (hr : wI .u32 r) : (bif (r == 0) then ((Int.tmod S 2) == 1) else ((iOr .u32 r S) == S)) = okS S r := by
  have h1 : 0 ≤ S := hS.1
  unfold okS
  by_cases h : r = 0
  · subst h
    have e : (iAndNot .u32 0 S == 0) = true := by rw [andNot_bv, nat0]; simp
    rw [e, and_one hS, Int.tmod_eq_emod_of_nonneg h1]
    simp
  · rw [beqF h, cond_false, show (r != 0) = true by simp [h], Bool.true_or, Bool.and_true, Bool.eq_iff_iff, andNot_bv, nat0, ← or_sub, or_bv, beq_iff_eq]
    constructor
    · intro e
      rw [← self_bv hS] at e
      apply BitVec.eq_of_toNat_eq
      have e2 : BitVec.ofInt 32 (((BitVec.ofInt 32 S).toNat : Int)) = BitVec.ofInt 32 S := of_bv _
      rw [e2] at e
      omega
    · intro e
      rw [e]; exact self_bv hS
theorem wIor (a b : Int) : wI .u32 (iOr .u32 a b) := by
  rw [or_bv]
  generalize BitVec.ofInt 32 a ||| BitVec.ofInt 32 b = x
  have h := x.isLt
  exact ⟨by show (0 : Int) ≤ _; omega, by show _ ≤ (4294967295 : Int); omega⟩
theorem wrapU32 (x : Int) : wI .u32 (IntKind.wrap .u32 x) := by
  constructor
  · show (0 : Int) ≤ _
    simp only [IntKind.wrap, IntKind.signed, IntKind.bits]; simp; omega
  · show _ ≤ (4294967295 : Int)
    simp only [IntKind.wrap, IntKind.signed, IntKind.bits]; simp; omega
theorem relD_W : ∀ (k : Nat) (x : api_Expr), wI .u32 (relD k x)
  | 0, x => ⟨by show (0 : Int) ≤ 0; omega, by show (0 : Int) ≤ 4294967295; omega⟩
  | k + 1, x => by
    rw [relD]
    have : ∀ (l : List EX) (a : Int), wI .u32 a → wI .u32 (l.foldl (fun acc z => iOr .u32 acc (relD k (un_api_Expr z))) a) := by
      intro l
      induction l with
      | nil => intro a h; exact h
      | cons z l ih => intro a h; exact ih _ (wIor _ _)
    refine this _ _ ?_
    unfold ownR
    cases ((x.fKind == 1) && (decide (x.fRel ≥ 0))) && (decide (x.fRel ≤ 31)) with
    | false => exact ⟨by show (0 : Int) ≤ 0; omega, by show (0 : Int) ≤ 4294967295; omega⟩
    | true => exact wrapU32 _
theorem rels22_ok : ∀ (s : Nat) (x : api_Expr), szL x ≤ s → W_api_Expr x → ∀ k m n, s ≤ k → s < m → 2000020 + s ≤ n → ref22_Rels_t m n x = some (relD k x)
  | 0, x, hs, hw, k, m, n, hk, hm, hn => by
    exfalso
    unfold szL R_api_Expr at hs
    simp only [PV.bulkL, PV.bulk] at hs
    omega
  | s + 1, x, hs, hw, k, m, n, hk, hm, hn => by
    obtain ⟨k, rfl⟩ : ∃ j, k = j + 1 := ⟨k - 1, by omega⟩
    obtain ⟨m, rfl⟩ : ∃ j, m = j + 1 := ⟨m - 1, by omega⟩
    obtain ⟨n, rfl⟩ : ∃ j, n = j + 1 := ⟨n - 1, by omega⟩
    show ref22_Rels_f (ref22_Rels_t m) (n + 1) x = _
    unfold ref22_Rels_f
    rw [at1_succ]
    have hown : ∀ K3 : Int → Option Int, withK (fun k3 => bif (((x.fKind == 1) && (decide (x.fRel ≥ 0))) && (decide (x.fRel ≤ 31))) then (ckN (IntKind.wrap .u64 x.fRel)).bind fun _ => k3 (iShl .u32 1 (IntKind.wrap .u64 x.fRel)) else k3 0) K3 = K3 (ownR x) := fun K3 => by
      unfold ownR
      simp only [withK]
      cases hq : (((x.fKind == 1) && (decide (x.fRel ≥ 0))) && (decide (x.fRel ≤ 31))) with
      | false => rfl
      | true =>
        rw [Bool.and_eq_true, Bool.and_eq_true, decide_eq_true_eq, decide_eq_true_eq] at hq
        rw [cond_true, cond_true]
        have : ckN (IntKind.wrap .u64 x.fRel) = some () := by rw [wrapU (by omega) (by omega)]; unfold ckN; split <;> first | rfl | omega
        rw [this, Option.bind_some]
    refine Eq.trans (hown _) ?_
    rw [relD]
    have hk2 := kids_len hw
    have key : ∀ (l p : List EX) (mm : Nat) (acc : Int), sll x.fKids = p ++ l → l.length < mm → ref22_Rels_l5 n (ref22_Rels_t m) x (fun y5 => some y5) mm acc (p.length : Int) = some (l.foldl (fun acc z => iOr .u32 acc (relD k (un_api_Expr z))) acc) := by
      intro l
      induction l with
      | nil =>
        intro p mm acc he hmm
        obtain ⟨mm, rfl⟩ : ∃ j, mm = j + 1 := ⟨mm - 1, by omega⟩
        rw [ref22_Rels_l5, dF (by rw [he]; simp), cond_false]; rfl
      | cons z l ih =>
        intro p mm acc he hmm
        rw [List.length_cons] at hmm
        obtain ⟨mm, rfl⟩ : ∃ j, mm = j + 1 := ⟨mm - 1, by omega⟩
        have hz : z ∈ sll x.fKids := by rw [he]; simp
        have hsz := sz_kid hz
        have hlen := hk2
        rw [he] at hlen
        simp only [List.length_append, List.length_cons] at hlen
        rw [ref22_Rels_l5, dT (by rw [he]; simp; omega), cond_true, show idx (sll x.fKids) (p.length : Int) = some z by rw [he, idx_nat]; simp, Option.bind_some]
        rw [show ref22_Rels_t m n (api_Expr.mk ((un_api_Expr z).fKind) ((un_api_Expr z).fRel) ((un_api_Expr z).fCol) (api_Value.mk (((un_api_Expr z).fConst).fKind) (((un_api_Expr z).fConst).fInt) (((un_api_Expr z).fConst).fFloat) (((un_api_Expr z).fConst).fText)) ((un_api_Expr z).fKids)) = _ from rels22_ok s (un_api_Expr z) (by omega) (W_kid hw hz) k m n (by omega) (by omega) (by omega), Option.bind_some]
        rw [wrapN (by omega), show p.length + 1 = (p ++ [z]).length by simp]
        exact ih (p ++ [z]) mm _ (by rw [he]; simp) (by omega)
    exact key (sll x.fKids) [] n _ rfl (by omega)
theorem ref31_In_ok {z : EX} (hz : W_E_api_Expr z) {S : Int} (hS : wI .u32 S) {n : Nat} (hn : 3048610 ≤ n) : ref31_In n (un_api_Expr z) S = some (okS S (relE z)) := by
  obtain ⟨n, rfl⟩ : ∃ j, n = j + 1 := ⟨n - 1, by omega⟩
  have hw := un_W hz
  unfold ref31_In
  rw [at1_succ, show ref22_Rels n (un_api_Expr z) = _ from rels22_ok 1048576 _ hw.2 hw 1048576 n n (Nat.le_refl _) (by omega) (by omega), Option.bind_some]
  show _ = some (okS S (relD 1048576 (un_api_Expr z)))
  rw [← in_okS hS (relD_W 1048576 (un_api_Expr z))]
  cases (relD 1048576 (un_api_Expr z) == 0) <;> rfl
theorem ref22_Kids_ok (k : Int) {n : Nat} (hn : 1 ≤ n) : ref22_Kids n k = some (kidsE k) := by
  obtain ⟨n, rfl⟩ : ∃ j, n = j + 1 := ⟨n - 1, by omega⟩
  unfold ref22_Kids
  rw [at1_succ]
  by_cases h : k < 1 ∨ k > 13
  · have : (decide (k < 1) || decide (k > 13)) = true := by
      rcases h with h | h
      · rw [dT h, Bool.true_or]
      · rw [dT (p := k > 13) h, Bool.or_true]
    rw [this, cond_true]
    unfold kidsE
    rw [if_neg (by omega), if_neg (by omega), if_neg (by omega)]
  · rw [dF (by omega), dF (by omega), Bool.or_self, cond_false, ckI_ok (by omega), Option.bind_some]
    have : k = 1 ∨ k = 2 ∨ k = 3 ∨ k = 4 ∨ k = 5 ∨ k = 6 ∨ k = 7 ∨ k = 8 ∨ k = 9 ∨ k = 10 ∨ k = 11 ∨ k = 12 ∨ k = 13 := by omega
    rcases this with rfl | rfl | rfl | rfl | rfl | rfl | rfl | rfl | rfl | rfl | rfl | rfl | rfl <;> rfl
def partsI (o : Option Nat) : Int := match o with
  | some c => if c ≤ 400 then (c : Int) else 401
  | none => 401
theorem parts_loop {α : Type} {f : α → Option Nat} {F : Nat → Int → Int → Option Int} {ks : List α} {C : α → Option Int}
    (hF : ∀ m acc i, F (m + 1) acc i = bif decide (i < (ks.length : Int)) then (idx ks i).bind fun z => (C z).bind fun r => bif decide (IntKind.wrap .i64 (acc + r) > 400) then some 401 else F m (IntKind.wrap .i64 (acc + r)) (IntKind.wrap .i64 (i + 1)) else some acc)
    (hC : ∀ z, z ∈ ks → C z = some (partsI (f z))) (hks : ks.length ≤ 1048576) :
    ∀ (l : List α) (m : Nat) (p : List α) (acc : Nat), ks = p ++ l → l.length < m → acc ≤ 400 →
      F m (acc : Int) (p.length : Int) = some (partsI ((sumO f l).map (· + acc)))
  | [], m, p, acc, he, hm, h0 => by
    obtain ⟨m, rfl⟩ : ∃ j, m = j + 1 := ⟨m - 1, by omega⟩
    rw [hF, dF (by rw [he]; simp), cond_false]
    simp only [sumO, Option.map_some, partsI, Nat.zero_add]
    rw [if_pos h0]
  | z :: l, m, p, acc, he, hm, h0 => by
    obtain ⟨m, rfl⟩ : ∃ j, m = j + 1 := ⟨m - 1, by omega⟩
    rw [List.length_cons] at hm
    have hz : z ∈ ks := by rw [he]; simp
    have hix : idx ks (p.length : Int) = some z := by rw [he, idx_nat]; simp
    rw [hF, dT (by rw [he]; simp; omega), cond_true, hix, Option.bind_some, hC z hz, Option.bind_some]
    have hlen : ks.length = p.length + (l.length + 1) := by rw [he]; simp
    rw [wrapN (by omega)]
    have e : p.length + 1 = (p ++ [z]).length := by simp
    obtain ⟨v, hv⟩ : ∃ v, v = partsI (f z) := ⟨_, rfl⟩
    rw [← hv]
    have bad : ∀ o : Option Nat, (∀ c, o = some c → 400 < c) → some (401 : Int) = some (partsI o) := fun o ho => by
      cases o with
      | none => rfl
      | some c => have := ho c rfl; simp only [partsI]; rw [if_neg (by omega)]
    cases hf : f z with
    | none =>
      rw [hf] at hv
      rw [show v = 401 from hv, wrapI (by omega) (by omega), dT (by omega), cond_true]
      unfold sumO
      rw [hf]; rfl
    | some a =>
      rw [hf] at hv
      simp only [partsI] at hv
      unfold sumO
      rw [hf]
      by_cases ha : a ≤ 400
      · rw [if_pos ha] at hv
        subst hv
        rw [wrapI (by omega) (by omega)]
        by_cases hs : acc + a ≤ 400
        · rw [dF (by omega), cond_false, e, show (acc : Int) + (a : Int) = ((acc + a : Nat) : Int) by omega, parts_loop hF hC hks l m (p ++ [z]) (acc + a) (by rw [he]; simp) (by omega) hs]
          cases hso : sumO f l with
          | none => rfl
          | some b =>
            simp only [Option.map_some]
            rw [show b + (acc + a) = a + b + acc by omega]
        · rw [dT (by omega), cond_true]
          refine bad _ fun c hc => ?_
          cases hso : sumO f l with
          | none => rw [hso] at hc; cases hc
          | some b => rw [hso] at hc; simp only [Option.map_some, Option.some.injEq] at hc; omega
      · rw [if_neg ha] at hv
        subst hv
        rw [wrapI (by omega) (by omega), dT (by omega), cond_true]
        refine bad _ fun c hc => ?_
        cases hso : sumO f l with
        | none => rw [hso] at hc; cases hc
        | some b => rw [hso] at hc; simp only [Option.map_some, Option.some.injEq] at hc; omega
theorem parts22_ok : ∀ (r : Nat), r ≤ 24 → ∀ (x : api_Expr), W_api_Expr x → ∀ m n, r + 1 ≤ m → 2000010 + r ≤ n →
    ref22_parts_t m n x (25 - (r : Int)) = some (partsI (frmE r x)) := by
  intro r
  induction r with
  | zero =>
    intro hr x hw m n hm hn
    obtain ⟨m, rfl⟩ : ∃ j, m = j + 1 := ⟨m - 1, by omega⟩
    obtain ⟨n, rfl⟩ : ∃ j, n = j + 1 := ⟨n - 1, by omega⟩
    show ref22_parts_f (ref22_parts_t m) (n + 1) x _ = _
    unfold ref22_parts_f
    rw [at1_succ]
    simp only [withK]
    rw [dT (by omega), cond_true]
    rfl
  | succ r ih =>
    intro hr x hw m n hm hn
    obtain ⟨m, rfl⟩ : ∃ j, m = j + 1 := ⟨m - 1, by omega⟩
    obtain ⟨n, rfl⟩ : ∃ j, n = j + 1 := ⟨n - 1, by omega⟩
    show ref22_parts_f (ref22_parts_t m) (n + 1) x _ = _
    unfold ref22_parts_f
    rw [at1_succ]
    simp only [withK]
    rw [dF (by omega), cond_false, ref22_Kids_ok _ (by omega), Option.bind_some, frmE]
    unfold nodeE
    by_cases hk : kidsE x.fKind = ((sll x.fKids).length : Int)
    · rw [show (kidsE x.fKind != ((sll x.fKids).length : Int)) = false by simp [hk], cond_false, show (kidsE x.fKind == ((sll x.fKids).length : Int)) = true by simp [hk], Bool.true_and]
      have key := parts_loop (f := fun z => frmE r (un_api_Expr z)) (F := fun m' acc i => ref22_parts_l8 n (ref22_parts_t m) x (25 - ((r + 1 : Nat) : Int)) (fun y9 => some y9) m' acc i) (ks := sll x.fKids)
            (C := fun z => ref22_parts_t m n (un_api_Expr z) (IntKind.wrap .i64 ((25 - ((r + 1 : Nat) : Int)) + 1)))
            (fun m' acc i => rfl) (fun z hz => by
              show ref22_parts_t m n (un_api_Expr z) (IntKind.wrap .i64 ((25 - ((r + 1 : Nat) : Int)) + 1)) = _
              rw [wrapI (by omega) (by omega), show (25 - ((r + 1 : Nat) : Int)) + 1 = 25 - (r : Int) by omega]
              exact ih (by omega) _ (W_kid hw hz) m n (by omega) (by omega)) (kids_len hw) (sll x.fKids) n [] 1 rfl (by have := kids_len hw; omega) (by omega)
      have tail : ((ref04_Right n x.fConst).bind fun x3 => bif ((!x3) || ((x.fKind != 2) && (x.fConst.fKind != 0))) then some 401 else ref22_parts_l8 n (ref22_parts_t m) x (25 - ((r + 1 : Nat) : Int)) (fun y9 => some y9) n 1 0) = some (partsI (bif vRight x.fConst && ((x.fKind == 2) || (x.fConst.fKind == 0)) then (sumO (fun z => frmE r (un_api_Expr z)) (sll x.fKids)).map (· + 1) else none)) := by
        rw [ref04_Right_ok (W_const hw) (by omega), Option.bind_some]
        have hb : ((!vRight x.fConst) || ((x.fKind != 2) && (x.fConst.fKind != 0))) = !(vRight x.fConst && ((x.fKind == 2) || (x.fConst.fKind == 0))) := by
          rw [Bool.not_and, Bool.not_or]; rfl
        rw [hb]
        cases (vRight x.fConst && ((x.fKind == 2) || (x.fConst.fKind == 0))) with
        | false => rfl
        | true => exact key
      unfold fieldsE inE
      by_cases h1 : x.fRel < 0
      · rw [dT h1, cond_true, dF (p := x.fRel ≥ 0) (by omega)]; simp [partsI]
      rw [dF h1, cond_false, dT (p := x.fRel ≥ 0) (by omega), Bool.true_and]
      by_cases h2 : x.fRel > 31
      · rw [dT h2, cond_true, dF (p := x.fRel ≤ 31) (by omega)]; simp [partsI]
      rw [dF h2, cond_false, dT (p := x.fRel ≤ 31) (by omega), Bool.and_true]
      by_cases h3 : x.fCol < 0
      · rw [dT h3, cond_true, dF (p := x.fCol ≥ 0) (by omega)]; simp [partsI]
      rw [dF h3, cond_false, dT (p := x.fCol ≥ 0) (by omega), Bool.true_and]
      by_cases h4 : x.fCol > 31
      · rw [dT h4, cond_true, dF (p := x.fCol ≤ 31) (by omega)]; simp [partsI]
      rw [dF h4, cond_false, dT (p := x.fCol ≤ 31) (by omega), Bool.and_true]
      cases hk1 : (x.fKind != 1) with
      | false =>
        rw [cond_false, Bool.false_and, Bool.not_false, Bool.true_and]
        exact tail
      | true =>
        rw [cond_true, Bool.true_and]
        cases (x.fRel != 0) with
        | true => simp [partsI]
        | false =>
          cases (x.fCol != 0) with
          | true => simp [partsI]
          | false => exact tail
    · rw [show (kidsE x.fKind != ((sll x.fKids).length : Int)) = true by simp [hk], cond_true, show (kidsE x.fKind == ((sll x.fKids).length : Int)) = false by simp [hk], Bool.false_and]
      rfl
theorem ref22_Formed_ok {x : api_Expr} (hw : W_api_Expr x) {n : Nat} (hn : 2000100 ≤ n) : ref22_Formed n x = some (formedE x) := by
  obtain ⟨n, rfl⟩ : ∃ j, n = j + 1 := ⟨n - 1, by omega⟩
  unfold ref22_Formed
  rw [at1_succ]
  have := parts22_ok 24 (by omega) x hw n n (by omega) (by omega)
  rw [show (25 - ((24 : Nat) : Int)) = 1 from rfl] at this
  rw [show ref22_parts n x 1 = some _ from this, Option.bind_some]
  unfold formedE partsI
  cases frmE 24 x with
  | none => rfl
  | some c => exact congrArg some (decide_eq_decide.2 (by simp only; split <;> omega))
end Go.Pl
set_option maxRecDepth 100000
namespace Go.Pl
open Go Go.Ab
abbrev L20 := Option (List S20)
abbrev WL20 (l : L20) : Prop := wSl W_tabularyref20_Stat l
abbrev gL (l : L20) : LS := mapO gs (sll l)
theorem ref31_up_ok {k : Int} (h : k ≤ 9223372036854775807) {n : Nat} (hn : 1 ≤ n) : ref31_up n k = some ((k.toNat : Nat) : Int) := by
  obtain ⟨n, rfl⟩ : ∃ j, n = j + 1 := ⟨n - 1, by omega⟩
  unfold ref31_up
  rw [at1_succ]
  by_cases h0 : k < 0
  · rw [dT h0, cond_true, show k.toNat = 0 by omega]; rfl
  · rw [dF h0, cond_false, wrapU (by omega) (by omega)]; congr 1; omega
theorem ref31_one_ok {d : Int} (h : d ≤ 9223372036854775807) {n : Nat} (hn : 2 ≤ n) : ref31_one n d = some (oneF d : Int) := by
  obtain ⟨n, rfl⟩ : ∃ j, n = j + 1 := ⟨n - 1, by omega⟩
  unfold ref31_one oneF
  rw [at1_succ]
  by_cases h1 : d < 1
  · rw [dT h1, cond_true, if_pos (by omega)]; rfl
  · rw [dF h1, cond_false, if_neg (by omega), wrapU (x := d) (by omega) (by omega)]
    obtain ⟨q, rfl⟩ : ∃ q : Nat, d = q := ⟨d.toNat, by omega⟩
    have hck : ckZ ((q : Nat) : Int) = some () := by unfold ckZ; rw [if_neg (by omega)]
    rw [hck, Option.bind_some, Int.toNat_natCast, show Int.tdiv 1048576 (q : Int) = ((1048576 / q : Nat) : Int) from td_nat 1048576 q]
    have hle := Nat.div_le_self 1048576 q
    generalize 1048576 / q = z at hle
    rw [wrapU (by omega) (by omega)]
theorem known_ok {x : api_Expr} (hx : pinE x) {l : L20} (hl : WL20 l) {n : Nat} (hn : 1 ≤ n) :
    (ref31_known n x l = some true ∧ ∃ t c, idx (sll l) x.fRel = some t ∧ idx (sll t.fCols) x.fCol = some c ∧ colE x (gL l) = some (gc c, t.fRows) ∧ W_tabularyref20_Col c ∧ wI .i64 t.fRows) ∨ (ref31_known n x l = some false ∧ colE x (gL l) = none) := by
  obtain ⟨n, rfl⟩ : ∃ j, n = j + 1 := ⟨n - 1, by omega⟩
  unfold ref31_known colE
  rw [at1_succ]
  simp only [sll_mapO, List.getElem?_map]
  by_cases h1 : x.fKind = 1
  · rw [if_pos h1, beqT h1, cond_true]
    have hp := hx.1
    have hq := hx.2
    by_cases h2 : x.fRel < ((sll l).length : Int)
    · have hlt : x.fRel.toNat < (sll l).length := by omega
      have hW := hl.2 _ (List.getElem_mem hlt)
      rw [dT h2, cond_true, idx_pos hp, List.getElem?_eq_getElem hlt, Option.bind_some]
      simp only [Option.map_some]
      generalize (sll l)[x.fRel.toNat] = t at *
      rw [show sll (gs t).fCols = (sll t.fCols).map gc by show sll (mapO gc _) = _; rw [sll_mapO]]
      simp only [List.getElem?_map]
      by_cases h3 : x.fCol < ((sll t.fCols).length : Int)
      · have hlt : x.fCol.toNat < (sll t.fCols).length := by omega
        have hC := hW.2.2 _ (List.getElem_mem hlt)
        refine .inl ⟨by rw [dT h3], t, (sll t.fCols)[x.fCol.toNat], rfl, ?_, ?_, hC, hW.1⟩
        · rw [idx_pos hq, List.getElem?_eq_getElem hlt]
        · rw [List.getElem?_eq_getElem hlt]; rfl
      · refine .inr ⟨by rw [dF h3], ?_⟩
        rw [List.getElem?_eq_none (by omega)]; rfl
    · refine .inr ⟨by rw [dF h2, cond_false], ?_⟩
      rw [List.getElem?_eq_none (by omega)]; rfl
  · rw [if_neg h1, beqF h1, cond_false]
    exact .inr ⟨rfl, rfl⟩
theorem ref31_nulls_ok {x : api_Expr} {l : L20} {t : S20} {c : C20} (h1 : idx (sll l) x.fRel = some t) (h2 : idx (sll t.fCols) x.fCol = some c) (hc : W_tabularyref20_Col c) (ht : wI .i64 t.fRows) {n : Nat} (hn : 200 ≤ n) : ref31_nulls n x l = some (nullsF (gc c) t.fRows : Int) := by
  obtain ⟨n, rfl⟩ : ∃ j, n = j + 1 := ⟨n - 1, by omega⟩
  have w1 := wI_lt hc.2.1
  have w2 := wI_lt ht
  unfold ref31_nulls nullsF
  rw [at1_succ, h1, Option.bind_some, h2, Option.bind_some, ref31_up_ok w1 (by omega), Option.bind_some, ref31_up_ok w2 (by omega), Option.bind_some, show (1048576 : Int) = ((1048576 : Nat) : Int) from rfl, ref30_Share_ok (by decide) (by omega) (by omega) (by omega), Option.bind_some]
  simp only
  rw [show (gc c).fNulls = c.fNulls from rfl]
  generalize shareF 1048576 c.fNulls.toNat t.fRows.toNat = q
  by_cases hq : q > 1048576
  · rw [dT (by omega), cond_true, if_pos (by omega)]
  · rw [dF (by omega), cond_false, if_neg (by omega)]
theorem ref31_against_ok {kind : Int} (hk : kind = 7 ∨ kind = 8 ∨ kind = 9) {x : api_Expr} {l : L20} {t : S20} {c : C20} (h1 : idx (sll l) x.fRel = some t) (h2 : idx (sll t.fCols) x.fCol = some c) (hc : W_tabularyref20_Col c) {v : api_Value} (hv : W_api_Value v) (ahead : Bool) {n : Nat} (hn : 2000200 ≤ n) :
    ref31_against n kind x v ahead l = some (agF kind (sll (gc c).fHist) (gc c).fDistinct v ahead : Int) := by
  obtain ⟨n, rfl⟩ : ∃ j, n = j + 1 := ⟨n - 1, by omega⟩
  have hd := wI_lt hc.2.2.1
  have hT : WT c.fHist := hc.2.2.2.1
  have hH : WH (gc c).fHist := given_W hT
  have eh : sll (gc c).fHist = (sll c.fHist).map gv := sll_mapO _ _
  have ed : (gc c).fDistinct = c.fDistinct := rfl
  unfold ref31_against agF
  rw [at1_succ, h1, Option.bind_some, h2, Option.bind_some, ed]
  simp only [withK]
  have badd : (bif (kind == 7) then (ref31_one n c.fDistinct).bind fun x9 => some x9 else some 349525) = some ((blindF kind (oneF c.fDistinct) : Nat) : Int) := by
    unfold blindF
    rw [ref31_one_ok hd (by omega)]
    cases kind == 7 <;> rfl
  cases hl : sll c.fHist with
  | nil =>
    rw [show ((([] : List T19).length : Int) == 0) = true from rfl, cond_true, cond_true, eh, hl]
    exact badd
  | cons b q =>
    rw [show (((b :: q).length : Int) == 0) = false from beq_eq_false_iff_ne.2 (by rw [List.length_cons]; omega), cond_false, ref19_Right_ok hT (by omega), Option.bind_some, ← eh]
    have e2 : sll (gc c).fHist = gv b :: q.map gv := by rw [eh, hl]; rfl
    rw [show badH v (sll (gc c).fHist) = (!rightH (sll (gc c).fHist) || (b.fLow.fKind != v.fKind)) by rw [e2]; rfl]
    cases hr : rightH (sll (gc c).fHist) with
    | false =>
      rw [Bool.not_false, cond_true, cond_true, Bool.true_or, cond_true]
      exact badd
    | true =>
      rw [Bool.not_true, cond_false, Bool.false_or, show idx (b :: q) 0 = some b from rfl, Option.bind_some]
      cases hk2 : (b.fLow.fKind != v.fKind) with
      | true =>
        rw [cond_true, cond_true]
        exact badd
      | false =>
        have tp := tot_pos hr (by rw [e2]; simp)
        have hq := ask_range (kind := kind) hH.2 hr hv ahead
        rw [cond_false, cond_false, ref19_Total_ok hT (by omega), Option.bind_some, ref19_Equal_ok hT hv (by omega), Option.bind_some, ← eh]
        have fin : ∀ (z : Int), 0 ≤ z → z ≤ totH (sll (gc c).fHist) → ((ref31_up n z).bind fun x33 => (ref31_up n (totH (sll (gc c).fHist))).bind fun x35 => (ref30_Share n 1048576 x33 x35).bind fun x37 => some x37) = some ((shareF 1048576 z.toNat (totH (sll (gc c).fHist)).toNat : Nat) : Int) := fun z h0 h1 => by
          rw [ref31_up_ok (by omega) (by omega), Option.bind_some, ref31_up_ok (by omega) (by omega), Option.bind_some, show (1048576 : Int) = ((1048576 : Nat) : Int) from rfl, ref30_Share_ok (by decide) (by omega) (by omega) (by omega)]
          rfl
        unfold askN at hq ⊢
        rcases hk with rfl | rfl | rfl
        · simp only [show ((7 : Int) == 7) = true from rfl, show ((7 : Int) == 8) = false from rfl, show ((7 : Int) == 9) = false from rfl, Bool.false_and, cond_false, cond_true] at hq ⊢
          exact fin _ hq.1 hq.2
        · cases ahead with
          | true =>
            simp only [show ((8 : Int) == 7) = false from rfl, show ((8 : Int) == 8) = true from rfl, show ((8 : Int) == 9) = false from rfl, Bool.false_and, Bool.true_and, Bool.not_true, cond_false, cond_true] at hq ⊢
            rw [ref19_Below_ok hT hv _ (by omega), Option.bind_some, ← eh, wrapI (by omega) (by omega)]
            exact fin _ hq.1 hq.2
          | false =>
            simp only [show ((8 : Int) == 7) = false from rfl, show ((8 : Int) == 8) = true from rfl, show ((8 : Int) == 9) = false from rfl, Bool.false_and, Bool.true_and, Bool.not_false, cond_false, cond_true] at hq ⊢
            rw [ref19_Below_ok hT hv _ (by omega), Option.bind_some, ← eh]
            exact fin _ hq.1 hq.2
        · cases ahead with
          | true =>
            simp only [show ((9 : Int) == 7) = false from rfl, show ((9 : Int) == 8) = false from rfl, show ((9 : Int) == 9) = true from rfl, Bool.false_and, Bool.true_and, Bool.not_true, cond_false, cond_true] at hq ⊢
            rw [ref19_Below_ok hT hv _ (by omega), Option.bind_some, ← eh, wrapI (by omega) (by omega)]
            exact fin _ hq.1 hq.2
          | false =>
            simp only [show ((9 : Int) == 7) = false from rfl, show ((9 : Int) == 8) = false from rfl, show ((9 : Int) == 9) = true from rfl, Bool.false_and, Bool.true_and, Bool.not_false, cond_false, cond_true] at hq ⊢
            rw [ref19_Below_ok hT hv _ (by omega), Option.bind_some, ← eh]
            exact fin _ hq.1 hq.2
theorem ref31_compared_ok {x : api_Expr} (hkind : x.fKind = 7 ∨ x.fKind = 8 ∨ x.fKind = 9) {za zb : EX} {q : List EX} (hk : sll x.fKids = za :: zb :: q) (ha : pinE (un_api_Expr za)) (hb : pinE (un_api_Expr zb)) (wa : W_api_Value (un_api_Expr za).fConst) (wb : W_api_Value (un_api_Expr zb).fConst) {l : L20} (hl : WL20 l) {n : Nat} (hn : 2000300 ≤ n) :
    ref31_compared n x l = some (comparedF x.fKind (un_api_Expr za) (un_api_Expr zb) (gL l) : Int) := by
  obtain ⟨n, rfl⟩ : ∃ j, n = j + 1 := ⟨n - 1, by omega⟩
  have hs := stats_W hl
  unfold ref31_compared
  rw [at1_succ, hk, show idx (za :: zb :: q) 0 = some za from rfl, Option.bind_some, show idx (za :: zb :: q) 1 = some zb from rfl, Option.bind_some]
  generalize un_api_Expr za = a at *
  generalize un_api_Expr zb = b at *
  rw [show api_Expr.mk a.fKind a.fRel a.fCol (api_Value.mk a.fConst.fKind a.fConst.fInt a.fConst.fFloat a.fConst.fText) a.fKids = a from rfl, show api_Expr.mk b.fKind b.fRel b.fCol (api_Value.mk b.fConst.fKind b.fConst.fInt b.fConst.fFloat b.fConst.fText) b.fKids = b from rfl]
  simp only [withK]
  have blind : (bif (x.fKind == 7) then some (104857 : Int) else some 349525) = some ((blindF x.fKind 104857 : Nat) : Int) := by
    unfold blindF
    cases x.fKind == 7 <;> rfl
  have side : ∀ (y : api_Expr) (t : S20) (c : C20) (e : api_Expr) (ah : Bool), idx (sll l) y.fRel = some t → idx (sll t.fCols) y.fCol = some c → W_tabularyref20_Col c → wI .i64 t.fRows → W_api_Value e.fConst → ((ref31_against n x.fKind y (api_Value.mk e.fConst.fKind e.fConst.fInt e.fConst.fFloat e.fConst.fText) ah l).bind fun x29 => (ref31_nulls n y l).bind fun x31 => (ref30_Inverse n x31).bind fun x33 => (ref30_Scale n x29 x33).bind fun x35 => some x35) = some ((scaleF (agF x.fKind (sll (gc c).fHist) (gc c).fDistinct e.fConst ah) (1048576 - nullsF (gc c) t.fRows) : Nat) : Int) := fun y t c e ah i1 i2 hc ht he => by
    have h1 := agF_le (kind := x.fKind) (d := (gc c).fDistinct) (given_W hc.2.2.2.1).2 he ah
    have h2 := nullsF_le (gc c) t.fRows
    rw [show api_Value.mk e.fConst.fKind e.fConst.fInt e.fConst.fFloat e.fConst.fText = e.fConst from rfl, ref31_against_ok hkind i1 i2 hc he ah (by omega), Option.bind_some, ref31_nulls_ok i1 i2 hc ht (by omega), Option.bind_some, ref30_Inverse_ok (by omega), Option.bind_some]
    rw [show sll (gc c).fHist = sll (mapO gv (sll c.fHist)) from rfl] at *
    rw [ref30_Scale_ok (by omega) (by omega) (by omega)]
    rfl
  unfold comparedF
  rcases known_ok ha hl (n := n) (by omega) with ⟨g1, t1, c1, i1, j1, e1, w1, r1⟩ | ⟨g1, e1⟩ <;> rcases known_ok hb hl (n := n) (by omega) with ⟨g2, t2, c2, i2, j2, e2, w2, r2⟩ | ⟨g2, e2⟩ <;> rw [g1, Option.bind_some, g2, e1, e2]
  · simp only [cond_true, Option.bind_some]
    have q1 := wI_lt w1.2.2.1
    have q2 := wI_lt w2.2.2.1
    rw [i1, Option.bind_some, j1, Option.bind_some, i2, Option.bind_some, j2, Option.bind_some]
    rw [show (gc c1).fDistinct = c1.fDistinct from rfl, show (gc c2).fDistinct = c2.fDistinct from rfl]
    have key : ∀ z : Int, z ≤ 9223372036854775807 → (bif (x.fKind == 7) then (ref31_one n z).bind fun x18 => some x18 else some 349525) = some ((blindF x.fKind (oneF z) : Nat) : Int) := fun z hz => by
      unfold blindF
      rw [ref31_one_ok hz (by omega)]
      cases x.fKind == 7 <;> rfl
    by_cases hgt : c2.fDistinct > c1.fDistinct
    · rw [dT hgt, cond_true, if_pos hgt]; exact key _ q2
    · rw [dF hgt, cond_false, if_neg hgt]; exact key _ q1
  · simp only [cond_true, cond_false, Option.bind_some, Bool.true_and, Bool.false_and, g1, g2]
    unfold sideF
    cases hk2 : b.fKind == 2 with
    | false =>
      simp only [cond_false]
      exact blind
    | true =>
      simp only [cond_true]
      cases hc0 : b.fConst.fKind == 0 with
      | true => rfl
      | false =>
        simp only [cond_false]
        exact side a t1 c1 b false i1 j1 w1 r1 wb
  · simp only [cond_true, cond_false, Option.bind_some, Bool.true_and, Bool.false_and, g1, g2]
    unfold sideF
    cases hk2 : a.fKind == 2 with
    | false =>
      simp only [cond_false]
      exact blind
    | true =>
      simp only [cond_true]
      cases hc0 : a.fConst.fKind == 0 with
      | true => rfl
      | false =>
        simp only [cond_false]
        exact side b t2 c2 a true i2 j2 w2 r2 wa
  · simp only [cond_true, cond_false, Option.bind_some, Bool.true_and, Bool.false_and, g1, g2]
    exact blind
end Go.Pl
