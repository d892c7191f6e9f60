import Derived.Test.YtjbhpopccbhhlaaHTA
import Derived.Test.YtjbhpopccbhhlaaPC
set_option linter.unusedVariables false
set_option linter.unusedSimpArgs false
/-! codec's readers and puts, in plain words. -/
namespace Go.Pl
open Go Go.Ab

theorem sll_sub {α : Type} (s : Option (List α)) (lo hi : Int) : sll (subSl s lo hi) = ((sll s).drop lo.toNat).take (hi.toNat - lo.toNat) := by
  cases s <;> simp [subSl, sll, subL]
theorem ckB_ok {lo hi n : Int} (h : 0 ≤ lo ∧ lo ≤ hi ∧ hi ≤ n) : ckB lo hi n = some () := by
  unfold ckB; rw [if_pos h]
theorem ckA_okQ {b n : Nat} (hb : b ≤ 1000) (h : n ≤ 100000000000) : ckA b n = some () := by
  unfold ckA
  rw [if_pos ⟨by have := Nat.mul_le_mul h hb; omega, by omega⟩]
theorem ckN_ok {b : Int} (h : 0 ≤ b) : ckN b = some () := by
  unfold ckN; rw [if_neg (by omega)]
theorem fail_ok {r : codec_Reader} {e : Int} {n : Nat} (h : 1 ≤ n) : codec_Reader_fail n r e = some () := by
  obtain ⟨n, rfl⟩ : ∃ k, n = k + 1 := ⟨n - 1, by omega⟩
  rfl
theorem ready_ok {r : codec_Reader} {n : Nat} (h : 1 ≤ n) : codec_Reader_ready n r = some () := by
  obtain ⟨n, rfl⟩ : ∃ k, n = k + 1 := ⟨n - 1, by omega⟩
  rfl
theorem take_ok {m : Bool} {b : Option (List Int)} {e : Int} {k : Nat} (hk : k ≤ (sll b).length) {n : Nat} (h : 2 ≤ n) : codec_Reader_take n ⟨m, b, e⟩ (k : Int) = some (subSl b k ((sll b).length : Int), e, subSl b 0 k, true) := by
  obtain ⟨n, rfl⟩ : ∃ k, n = k + 1 := ⟨n - 1, by omega⟩
  unfold codec_Reader_take
  rw [at1_succ, show decide ((k : Int) > ((sll b).length : Int)) = false by simp; omega, cond_false]
  simp only
  rw [ckB_ok (by omega), Option.bind_some, ckB_ok (by omega), Option.bind_some]
theorem take_no {m : Bool} {b : Option (List Int)} {e : Int} {k : Nat} (hk : ¬ k ≤ (sll b).length) {n : Nat} (h : 2 ≤ n) : codec_Reader_take n ⟨m, b, e⟩ (k : Int) = some (none, 21, none, false) := by
  obtain ⟨n, rfl⟩ : ∃ k, n = k + 1 := ⟨n - 1, by omega⟩
  unfold codec_Reader_take
  rw [at1_succ, show decide ((k : Int) > ((sll b).length : Int)) = true by simp; omega, cond_true, fail_ok (by omega), Option.bind_some]
/-- What reading a number tells. -/
def NumR (x : Option (Nat × List Int)) (e : Int) (b' : Option (List Int)) (e' v : Int) (ok : Bool) : Prop :=
  match x with
  | some (n, rest) => sll b' = rest ∧ e' = e ∧ v = n ∧ ok = true
  | none => b' = none ∧ e' ≠ 0 ∧ v = 0 ∧ ok = false
theorem number_loop {n : Nat} (hn : 2 ≤ n) (mk : Bool) : ∀ (k m i acc : Nat) (b : Option (List Int)) (e : Int), k + i = 10 → k < m → Bytes (sll b) → acc < 2 ^ (7 * i) →
    ∃ b' e' v ok, codec_Reader_number_l4 n m mk b e (acc : Int) (i : Int) = some (mk, b', e', v, ok) ∧ NumR (rdU k i acc (sll b)) e b' e' v ok
  | 0, m, i, acc, b, e, hk, hm, hb, ha => by
    obtain ⟨m, rfl⟩ : ∃ j, m = j + 1 := ⟨m - 1, by omega⟩
    refine ⟨none, 22, 0, false, ?_, rfl, by decide, rfl, rfl⟩
    rw [codec_Reader_number_l4, show ((i : Int) == 10) = true by simp; omega, cond_true, fail_ok (by omega), Option.bind_some]
  | k + 1, m, i, acc, b, e, hk, hm, hb, ha => by
    obtain ⟨m, rfl⟩ : ∃ j, m = j + 1 := ⟨m - 1, by omega⟩
    rw [codec_Reader_number_l4, show ((i : Int) == 10) = false by simp; omega, cond_false]
    cases hl : sll b with
    | nil =>
      refine ⟨none, 21, 0, false, ?_, ?_⟩
      · have := take_no (m := mk) (b := b) (e := e) (k := 1) (by rw [hl]; decide) hn
        rw [show ((1 : Nat) : Int) = 1 from rfl] at this
        rw [this]; rfl
      · rw [rdU_nil]; exact ⟨rfl, by decide, rfl, rfl⟩
    | cons c l =>
      have := take_ok (m := mk) (b := b) (e := e) (k := 1) (by rw [hl]; simp) hn
      rw [show ((1 : Nat) : Int) = 1 from rfl] at this
      rw [this]
      simp only [Option.bind_some, Bool.not_true, cond_false]
      have h1 : sll (subSl b 0 1) = [c] := by rw [sll_sub, hl]; rfl
      have h2 : sll (subSl b 1 ((sll b).length : Int)) = l := by
        rw [sll_sub, hl]
        simp
      rw [h1, show idx [c] 0 = some c from rfl, Option.bind_some]
      have hc := hb c (by rw [hl]; simp)
      by_cases hbad : (i = 9 ∧ c > 1) ∨ (i > 0 ∧ c = 0)
      · rw [show (((i : Int) == 9) && (decide (c > 1)) || ((decide ((i : Int) > 0)) && (c == 0))) = true by
          rw [Bool.or_eq_true, Bool.and_eq_true, Bool.and_eq_true, beq_iff_eq, beq_iff_eq, decide_eq_true_eq, decide_eq_true_eq]; omega]
        rw [cond_true, fail_ok (by omega), Option.bind_some]
        exact ⟨none, 22, 0, false, rfl, by rw [rdU_bad hbad]; exact ⟨rfl, by decide, rfl, rfl⟩⟩
      · rw [show (((i : Int) == 9) && (decide (c > 1)) || ((decide ((i : Int) > 0)) && (c == 0))) = false by
          rw [Bool.or_eq_false_iff, Bool.and_eq_false_iff, Bool.and_eq_false_iff, beq_eq_false_iff_ne, beq_eq_false_iff_ne, decide_eq_false_iff_not, decide_eq_false_iff_not]; omega]
        rw [cond_false, wrapI (by omega) (by omega), wrapU (by omega) (by omega), ckN_ok (by omega), Option.bind_some, and127 hc.1 hc.2, wrapU (by omega) (by omega)]
        have h9 : i = 9 → c ≤ 1 := by omega
        have e1 : (c % 128 : Int) = (((c % 128).toNat : Nat) : Int) := by omega
        rw [e1, shl7 (by omega) (by omega) (by omega), orU ha (acc_lt2 ha hc (by omega) h9)]
        by_cases hc2 : c < 128
        · rw [show decide (c < 128) = true by simpa using hc2, cond_true]
          refine ⟨_, _, _, _, rfl, ?_⟩
          rw [rdU_last hbad hc2]
          exact ⟨h2, rfl, rfl, rfl⟩
        · rw [show decide (c < 128) = false by simpa using hc2, cond_false, wrapN (by omega)]
          obtain ⟨b', e', v, ok, h3, h4⟩ := number_loop hn mk k m (i + 1) (acc + (c % 128).toNat * 2 ^ (7 * i)) (subSl b 1 ((sll b).length : Int)) e (by omega) (by omega) (by rw [h2]; intro x hx; exact hb x (by rw [hl]; simp [hx])) (acc_lt ha hc)
          refine ⟨b', e', v, ok, h3, ?_⟩
          rw [rdU_next hbad hc2, ← h2]
          exact h4
theorem number_ok {mk : Bool} {b : Option (List Int)} {e : Int} (hb : Bytes (sll b)) {n : Nat} (h : 12 ≤ n) : ∃ b' e' v ok, codec_Reader_number n ⟨mk, b, e⟩ = some (mk, b', e', v, ok) ∧ NumR (rdU 10 0 0 (sll b)) e b' e' v ok := by
  obtain ⟨n, rfl⟩ : ∃ k, n = k + 1 := ⟨n - 1, by omega⟩
  exact number_loop (by omega) mk 10 n 0 0 b e (by omega) (by omega) hb (by decide)
/-- A number up to a most. -/
def UintR (x : Option (Nat × List Int)) (most : Int) (b' : Option (List Int)) (e' v : Int) : Prop :=
  match x with
  | some (n, rest) => if (n : Int) ≤ most then sll b' = rest ∧ e' = 0 ∧ v = n else b' = none ∧ e' ≠ 0 ∧ v = 0
  | none => b' = none ∧ e' ≠ 0 ∧ v = 0
theorem uint_ok {b : Option (List Int)} {most : Int} (hb : Bytes (sll b)) {n : Nat} (h : 13 ≤ n) : ∃ b' e' v, codec_Reader_Uint n ⟨true, b, 0⟩ most = some (true, b', e', v) ∧ UintR (rdU 10 0 0 (sll b)) most b' e' v := by
  obtain ⟨n, rfl⟩ : ∃ k, n = k + 1 := ⟨n - 1, by omega⟩
  unfold codec_Reader_Uint
  rw [at1_succ, ready_ok (by omega)]
  obtain ⟨b', e', v, ok, h1, h2⟩ := number_ok (mk := true) (e := 0) hb (n := n) (by omega)
  rw [h1]
  simp only [Option.bind_some, beq_self_eq_true, Bool.and_self, Bool.not_true, cond_false]
  cases hr : rdU 10 0 0 (sll b) with
  | none =>
    rw [hr] at h2
    obtain ⟨rfl, he, rfl, rfl⟩ := h2
    exact ⟨none, e', 0, rfl, rfl, he, rfl⟩
  | some p =>
    rw [hr] at h2
    obtain ⟨v0, rest⟩ := p
    obtain ⟨h3, rfl, rfl, rfl⟩ := h2
    unfold UintR
    by_cases hm : (v0 : Int) ≤ most
    · rw [show decide ((v0 : Int) > most) = false by simp; omega]
      simp only [Bool.and_false, cond_false]
      exact ⟨b', 0, v0, rfl, by rw [if_pos hm]; exact ⟨h3, rfl, rfl⟩⟩
    · rw [show decide ((v0 : Int) > most) = true by simp; omega, fail_ok (by omega)]
      simp only [Bool.and_self, cond_true, Option.bind_some]
      exact ⟨none, 3, 0, rfl, by rw [if_neg hm]; exact ⟨rfl, by decide, rfl⟩⟩
/-- A text, read. -/
def rdT (most : Nat) (l : List Int) : Option (List Int × List Int) :=
  match rdU 10 0 0 l with
  | some (k, rest) => if k ≤ most ∧ k ≤ rest.length then some (rest.take k, rest.drop k) else none
  | none => none
def TextR (x : Option (List Int × List Int)) (b' : Option (List Int)) (e' : Int) (v : ByteArray) : Prop :=
  match x with
  | some (t, rest) => sll b' = rest ∧ e' = 0 ∧ v = strOf t
  | none => e' ≠ 0 ∧ v = ByteArray.empty
theorem text_ok {b : Option (List Int)} {most : Nat} (hm : most < 1000000) (hb : Bytes (sll b)) {n : Nat} (h : 14 ≤ n) : ∃ b' e' v, codec_Reader_Text n ⟨true, b, 0⟩ (most : Int) = some (true, b', e', v) ∧ TextR (rdT most (sll b)) b' e' v := by
  obtain ⟨n, rfl⟩ : ∃ k, n = k + 1 := ⟨n - 1, by omega⟩
  unfold codec_Reader_Text
  rw [at1_succ, if_neg (by omega), wrapU (by omega) (by omega)]
  obtain ⟨b', e', v, h1, h2⟩ := uint_ok (most := (most : Int)) hb (n := n) (by omega)
  rw [h1]
  simp only [Option.bind_some]
  rw [ready_ok (by omega), Option.bind_some]
  unfold rdT
  cases hr : rdU 10 0 0 (sll b) with
  | none =>
    rw [hr] at h2
    obtain ⟨rfl, he, rfl⟩ := h2
    rw [show (e' == 0) = false by simpa using he]
    exact ⟨none, e', _, rfl, he, rfl⟩
  | some p =>
    rw [hr] at h2
    obtain ⟨k, rest⟩ := p
    unfold UintR at h2
    simp only at h2
    by_cases hk : (k : Int) ≤ most
    · rw [if_pos hk] at h2
      obtain ⟨h3, rfl, rfl⟩ := h2
      simp only [beq_self_eq_true, Bool.and_self, Bool.not_true, cond_false]
      rw [wrapI (by omega) (by omega)]
      by_cases hlen : k ≤ rest.length
      · rw [take_ok (by rw [h3]; exact hlen) (by omega)]
        simp only [Option.bind_some]
        rw [if_pos ⟨by omega, hlen⟩]
        refine ⟨_, _, _, rfl, ?_, rfl, ?_⟩
        · rw [sll_sub, h3, List.take_of_length_le (by simp)]
          simp
        · rw [sll_sub, h3]
          simp
      · rw [take_no (by rw [h3]; exact hlen) (by omega)]
        simp only [Option.bind_some]
        rw [if_neg (by omega)]
        exact ⟨_, _, _, rfl, by decide, rfl⟩
    · rw [if_neg hk] at h2
      obtain ⟨rfl, he, rfl⟩ := h2
      simp only [show (e' == 0) = false by simpa using he]
      rw [if_neg (by omega)]
      exact ⟨none, e', _, rfl, he, rfl⟩
theorem left_ok {b : Option (List Int)} {n : Nat} (h : 2 ≤ n) : codec_Reader_Left n ⟨true, b, 0⟩ = some ((sll b).length : Int) := by
  obtain ⟨n, rfl⟩ : ∃ k, n = k + 1 := ⟨n - 1, by omega⟩
  unfold codec_Reader_Left
  rw [at1_succ, ready_ok (by omega)]
  rfl
theorem err_ok {b : Option (List Int)} {e : Int} {n : Nat} (h : 1 ≤ n) : codec_Reader_Err n ⟨true, b, e⟩ = some e := by
  obtain ⟨n, rfl⟩ : ∃ k, n = k + 1 := ⟨n - 1, by omega⟩
  rfl
theorem iOr0 {x : Int} (h0 : 0 ≤ x) (h1 : x < 256) : iOr .u64 (iShl .u64 0 8) (IntKind.wrap .u64 x) = x := by
  have e : iShl .u64 0 8 = 0 := by decide
  rw [e, wrapU h0 (by omega)]
  unfold iOr
  rw [BitVec.toNat_or]
  have e1 : (BitVec.ofInt IntKind.u64.bits 0).toNat = 0 := by decide
  have : (BitVec.ofInt IntKind.u64.bits x).toNat = x.toNat := by simp [IntKind.bits]; omega
  rw [e1, this, Nat.zero_or, wrapU (by omega) (by omega)]
  omega
/-- A byte, read. -/
def ByteR (l : List Int) (b' : Option (List Int)) (e' v : Int) : Prop :=
  match l with
  | c :: rest => sll b' = rest ∧ e' = 0 ∧ v = c
  | [] => e' ≠ 0
theorem byte_ok {b : Option (List Int)} (hb : Bytes (sll b)) {n : Nat} (h : 2000010 ≤ n) : ∃ b' e' v, codec_Reader_Byte n ⟨true, b, 0⟩ = some (b', e', v) ∧ ByteR (sll b) b' e' v := by
  obtain ⟨n, rfl⟩ : ∃ k, n = k + 2 := ⟨n - 2, by omega⟩
  unfold codec_Reader_Byte codec_Reader_Fixed
  simp only [at1_succ]
  rw [ready_ok (by omega)]
  simp only [Option.bind_some, beq_self_eq_true, Bool.and_self, Bool.not_true, cond_false]
  rw [show (if (8 : Int) < (if (0 : Int) > 1 then 0 else 1) then (8 : Int) else (if (0 : Int) > 1 then 0 else 1)) = ((1 : Nat) : Int) from rfl]
  cases hl : sll b with
  | nil =>
    rw [take_no (by rw [hl]; decide) (by omega)]
    simp only [Option.bind_some, withK]
    obtain ⟨m, rfl⟩ : ∃ j, n = j + 1 := ⟨n - 1, by omega⟩
    exact ⟨none, 21, _, by rw [codec_Reader_Fixed_l6]; rfl, by show (21 : Int) ≠ 0; decide⟩
  | cons c l =>
    have hc := hb c (by rw [hl]; simp)
    rw [take_ok (by rw [hl]; simp) (by omega)]
    simp only [Option.bind_some, withK]
    have h1 : sll (subSl b 0 ((1 : Nat) : Int)) = [c] := by rw [sll_sub, hl]; rfl
    obtain ⟨m, rfl⟩ : ∃ j, n = j + 2 := ⟨n - 2, by omega⟩
    rw [codec_Reader_Fixed_l6, h1, show decide ((0 : Int) < (([c] : List Int).length : Int)) = true by simp, cond_true, show idx [c] 0 = some c from rfl, Option.bind_some, iOr0 hc.1 hc.2]
    rw [show IntKind.wrap .i64 (0 + 1) = 1 by decide, codec_Reader_Fixed_l6, h1, show decide ((1 : Int) < (([c] : List Int).length : Int)) = false by simp, cond_false]
    refine ⟨_, _, _, rfl, ?_, rfl, wrapY hc.1 hc.2⟩
    rw [sll_sub, hl]; simp
/-! ### Puts -/
theorem orByte (v : Int) : iOr .u8 (IntKind.wrap .u8 v) 128 = v % 128 + 128 := by
  unfold iOr
  have h : ∀ x : BitVec 8, (x ||| 128#8).toNat = x.toNat % 128 + 128 := by decide
  have e : (BitVec.ofInt IntKind.u8.bits (IntKind.u8.wrap v) ||| BitVec.ofInt IntKind.u8.bits 128).toNat = (BitVec.ofInt 8 (IntKind.u8.wrap v)).toNat % 128 + 128 := h _
  rw [e, BitVec.toNat_ofInt]
  simp [IntKind.wrap, IntKind.signed, IntKind.bits]
  omega
theorem shr7 (v : Int) : iShr .u64 v 7 = v / 128 := by
  unfold iShr
  rw [Int.fdiv_eq_ediv_of_nonneg _ (by decide)]
  rfl
theorem pow7 (m : Nat) : 2 ^ (7 * (m + 1)) = 128 * 2 ^ (7 * m) := by rw [show 7 * (m + 1) = 7 * m + 7 by omega, Nat.pow_add]; omega
theorem putUint_r_loop {n : Nat} {K : List Int → Int → Option (List Int)} (hK : ∀ (l : List Int) (v : Nat), v < 128 → l.length < 1000000000 → K l v = some (l ++ [(v : Int)])) : ∀ (v : Nat) (m : Nat) (l : List Int), v < 2 ^ (7 * (m + 1)) → l.length + m < 1000000000 → codec_PutUint_r_l1 n K (m + 1) l (v : Int) = some (l ++ ubytes v) := by
  intro v
  induction v using Nat.strongRecOn with
  | ind v ih =>
    intro m l hv hl
    rw [codec_PutUint_r_l1]
    by_cases h : v < 128
    · rw [show decide ((v : Int) ≥ 128) = false by simp; omega, cond_false, ubytes_lt h]
      exact hK l v (by omega) (by omega)
    · rw [show decide ((v : Int) ≥ 128) = true by simp; omega, cond_true, orByte, shr7]
      obtain ⟨m, rfl⟩ : ∃ j, m = j + 1 := by
        cases m with
        | zero => rw [pow7] at hv; omega
        | succ m => exact ⟨m, rfl⟩
      rw [ckA_okQ (by decide) (by simp; omega), Option.bind_some]
      rw [show ((v : Int) / 128) = ((v / 128 : Nat) : Int) by omega, show ((v : Int) % 128 + 128) = ((v % 128 + 128 : Nat) : Int) by omega]
      rw [ih (v / 128) (by omega) m _ (by rw [pow7] at hv; omega) (by simp; omega), ubytes_ge h]
      simp
theorem ubytes_length : ∀ (v : Nat) (m : Nat), v < 2 ^ (7 * (m + 1)) → (ubytes v).length ≤ m + 1 := by
  intro v
  induction v using Nat.strongRecOn with
  | ind v ih =>
    intro m hv
    by_cases h : v < 128
    · rw [ubytes_lt h]; simp
    · rw [ubytes_ge h]
      obtain ⟨m, rfl⟩ : ∃ j, m = j + 1 := by
        cases m with
        | zero => rw [pow7] at hv; omega
        | succ m => exact ⟨m, rfl⟩
      have := ih (v / 128) (by omega) m (by rw [pow7] at hv; omega)
      simp; omega
theorem putUint_r_ok {l : List Int} {v : Nat} (hv : v < 2 ^ 64) (hl : l.length < 900000000) {n : Nat} (h : 20 ≤ n) (hn : n < 100000000) : codec_PutUint_r n l (v : Int) = some (l ++ ubytes v) := by
  obtain ⟨n, rfl⟩ : ∃ k, n = k + 2 := ⟨n - 2, by omega⟩
  unfold codec_PutUint_r
  rw [at1_succ]
  unfold withK
  have hp : 2 ^ 64 ≤ 2 ^ (7 * (n + 1)) := Nat.pow_le_pow_right (by omega) (by omega)
  exact putUint_r_loop (fun l v hv hl => by
    rw [wrapY (by omega) (by omega), ckA_okQ (by decide) (by simp; omega), Option.bind_some]) v n l (by omega) (by omega)
theorem putUint_nil_ok {v : Nat} (hv : v < 2 ^ 64) {n : Nat} (h : 20 ≤ n) (hn : n < 100000000) : codec_PutUint_nil n (v : Int) = some (ubytes v) := by
  obtain ⟨n, rfl⟩ : ∃ k, n = k + 2 := ⟨n - 2, by omega⟩
  unfold codec_PutUint_nil
  rw [at1_succ]
  unfold withK
  have hp : 2 ^ 64 ≤ 2 ^ (7 * n) := Nat.pow_le_pow_right (by omega) (by omega)
  have key : ∀ (K : Option (List Int) → Int → Option (List Int)), (∀ (l : List Int) (v : Nat), v < 128 → l.length < 1000000000 → K (some l) v = some (l ++ [(v : Int)])) → ∀ (v : Nat) (m : Nat) (l : List Int), v < 2 ^ (7 * (m + 1)) → l.length + m < 1000000000 → codec_PutUint_nil_l1 (n + 1) K (m + 1) (some l) (v : Int) = some (l ++ ubytes v) := by
    intro K hK
    intro v
    induction v using Nat.strongRecOn with
    | ind v ih =>
      intro m l hv hl
      rw [codec_PutUint_nil_l1]
      by_cases h : v < 128
      · rw [show decide ((v : Int) ≥ 128) = false by simp; omega, cond_false, ubytes_lt h]
        exact hK l v (by omega) (by omega)
      · rw [show decide ((v : Int) ≥ 128) = true by simp; omega, cond_true, orByte, shr7]
        obtain ⟨m, rfl⟩ : ∃ j, m = j + 1 := by
          cases m with
          | zero => rw [pow7] at hv; omega
          | succ m => exact ⟨m, rfl⟩
        rw [ckA_okQ (by decide) (by simp; omega), Option.bind_some]
        rw [show ((v : Int) / 128) = ((v / 128 : Nat) : Int) by omega, show ((v : Int) % 128 + 128) = ((v % 128 + 128 : Nat) : Int) by omega]
        rw [ih (v / 128) (by omega) m _ (by rw [pow7] at hv; omega) (by simp; omega), ubytes_ge h]
        simp
  show codec_PutUint_nil_l1 _ _ _ none _ = _
  rw [codec_PutUint_nil_l1]
  by_cases h : v < 128
  · rw [show decide ((v : Int) ≥ 128) = false by simp; omega, cond_false, ubytes_lt h]
    simp only
    rw [wrapY (by omega) (by omega), ckA_okQ (by decide) (by simp), Option.bind_some]
  · rw [show decide ((v : Int) ≥ 128) = true by simp; omega, cond_true, orByte, shr7, ckA_okQ (by decide) (by simp), Option.bind_some]
    rw [show ((v : Int) / 128) = ((v / 128 : Nat) : Int) by omega, show ((v : Int) % 128 + 128) = ((v % 128 + 128 : Nat) : Int) by omega]
    obtain ⟨n, rfl⟩ : ∃ j, n = j + 1 := ⟨n - 1, by omega⟩
    rw [key _ (fun l v hv hl => by
      simp only
      rw [wrapY (by omega) (by omega), ckA_okQ (by decide) (by simp; omega), Option.bind_some]) (v / 128) n _ (by omega) (by simp; omega), ubytes_ge ‹¬ v < 128›]
    rfl
theorem isEmpty_bytes {s : ByteArray} : (bytesL s).isEmpty = true → bytesL s = [] := by
  intro h; simpa using h
/-- A text, put. -/
def putT (s : ByteArray) : List Int := ubytes s.size ++ bytesL s
theorem putText_r_ok {l : List Int} {s : ByteArray} (hs : s.size < 10000000) (hl : l.length < 800000000) {n : Nat} (h : 21 ≤ n) (hn : n < 100000000) : codec_PutText_r n l s = some (l ++ putT s) := by
  obtain ⟨n, rfl⟩ : ∃ k, n = k + 1 := ⟨n - 1, by omega⟩
  unfold codec_PutText_r
  rw [at1_succ, wrapU (by omega) (by omega), putUint_r_ok (by omega) (by omega) (by omega) (by omega), Option.bind_some]
  have := ubytes_length s.size 9 (by omega)
  have h2 := bytesL_length s
  unfold putT
  cases he : (bytesL s).isEmpty with
  | true => rw [cond_true, ckA_okQ (by decide) (by simp; omega), Option.bind_some, isEmpty_bytes he]; simp
  | false => rw [cond_false, ckA_okQ (by decide) (by simp; omega), Option.bind_some]; simp
theorem putT_length {s : ByteArray} (hs : s.size < 10000000) : (putT s).length ≤ s.size + 10 := by
  have := ubytes_length s.size 9 (by omega)
  have h2 := bytesL_length s
  unfold putT
  simp; omega
/-- What was put is read. -/
theorem rdT_put {s : ByteArray} {most : Nat} (hs : s.size ≤ most) (hm : most < 1000000) (rest : List Int) : rdT most (putT s ++ rest) = some (bytesL s, rest) := by
  unfold rdT putT
  rw [List.append_assoc, rdU_put (by omega)]
  simp only
  have h2 := bytesL_length s
  rw [if_pos ⟨hs, by simp; omega⟩, ← h2]
  simp
end Go.Pl

set_option linter.unusedVariables false
set_option linter.unusedSimpArgs false
namespace Go.Pl
open Go Go.Ab

/-! ### Whole numbers -/
def zig (x : Int) : Nat := if x < 0 then (-2 * x - 1).toNat else (2 * x).toNat
theorem notU {u : Nat} (h : u < 18446744073709551616) : notI .u64 (u : Int) = ((18446744073709551615 - u : Nat) : Int) := by
  show IntKind.wrap .u64 ((BitVec.ofInt 64 18446744073709551615 ^^^ BitVec.ofInt 64 (u : Int)).toNat : Int) = _
  have e : BitVec.ofInt 64 18446744073709551615 = BitVec.allOnes 64 := by decide
  have e2 : (BitVec.allOnes 64 ^^^ BitVec.ofInt 64 (u : Int)).toNat = 18446744073709551615 - u := by
    rw [BitVec.allOnes_xor, BitVec.toNat_not]
    simp
    omega
  rw [e, e2, wrapU (by omega) (by omega)]
theorem shl1 (x : Int) : iShl .u64 (IntKind.wrap .u64 x) 1 = (2 * x) % 18446744073709551616 := by
  unfold iShl
  simp [IntKind.wrap, IntKind.signed, IntKind.bits]
  omega
theorem wI_i {x : Int} (h : wI .i64 x) : -9223372036854775808 ≤ x ∧ x ≤ 9223372036854775807 := h
theorem putInt_r_ok {l : List Int} {x : Int} (hx : wI .i64 x) (hl : l.length < 900000000) {n : Nat} (h : 21 ≤ n) (hn : n < 100000000) : codec_PutInt_r n l x = some (l ++ ubytes (zig x)) := by
  obtain ⟨n, rfl⟩ : ∃ k, n = k + 1 := ⟨n - 1, by omega⟩
  obtain ⟨h1, h2⟩ := wI_i hx
  unfold codec_PutInt_r
  rw [at1_succ, shl1]
  unfold zig
  by_cases h0 : x < 0
  · rw [decide_eq_true h0, cond_true, if_pos h0]
    rw [show (2 * x) % 18446744073709551616 = (((18446744073709551616 + 2 * x).toNat : Nat) : Int) by omega, notU (by omega)]
    rw [putUint_r_ok (by omega) hl (by omega) (by omega), Option.bind_some]
    congr 4
    omega
  · rw [decide_eq_false h0, cond_false, if_neg h0]
    rw [show (2 * x) % 18446744073709551616 = (((2 * x).toNat : Nat) : Int) by omega]
    rw [putUint_r_ok (by omega) hl (by omega) (by omega), Option.bind_some]
theorem zig_lt {x : Int} (hx : wI .i64 x) : zig x < 18446744073709551616 := by
  obtain ⟨h1, h2⟩ := wI_i hx
  unfold zig; split <;> omega
theorem shr1 (v : Nat) : iShr .u64 (v : Int) 1 = ((v / 2 : Nat) : Int) := by
  unfold iShr
  show Int.fdiv (v : Int) (2 ^ 1) = _
  rw [Int.fdiv_eq_ediv_of_nonneg _ (by decide)]
  omega
theorem and1 (v : Nat) (h : v < 18446744073709551616) : iAnd .u64 (v : Int) 1 = ((v % 2 : Nat) : Int) := by
  unfold iAnd
  have e : (BitVec.ofInt 64 (v : Int) &&& BitVec.ofInt 64 1).toNat = v % 2 := by
    rw [BitVec.toNat_and]
    rw [show (BitVec.ofInt 64 1).toNat = 1 by decide, Nat.and_one_is_mod]
    simp
    try omega
  rw [show (BitVec.ofInt IntKind.u64.bits (v : Int) &&& BitVec.ofInt IntKind.u64.bits 1).toNat = v % 2 from e, wrapU (by omega) (by omega)]
theorem int_ok {b : Option (List Int)} {x : Int} {rest : List Int} (hx : wI .i64 x) (hb : Bytes (sll b)) (hs : sll b = ubytes (zig x) ++ rest) {n : Nat} (h : 14 ≤ n) : ∃ b', codec_Reader_Int n ⟨true, b, 0⟩ = some (true, b', 0, x) ∧ sll b' = rest := by
  obtain ⟨n, rfl⟩ : ∃ k, n = k + 1 := ⟨n - 1, by omega⟩
  unfold codec_Reader_Int
  rw [at1_succ]
  obtain ⟨b', e', v, h1, h2⟩ := uint_ok (most := 18446744073709551615) hb (by omega : 13 ≤ n)
  rw [h1, Option.bind_some]
  have hz := zig_lt hx
  rw [hs, rdU_put (by omega)] at h2
  unfold UintR at h2
  simp only at h2
  rw [if_pos (by omega)] at h2
  obtain ⟨g1, g2, g3⟩ := h2
  refine ⟨b', ?_, g1⟩
  subst g2 g3
  simp only
  rw [and1 _ hz, shr1, notU (by omega)]
  obtain ⟨h1, h2⟩ := wI_i hx
  unfold zig
  by_cases h0 : x < 0
  · simp only [if_pos h0]
    rw [show ((((-2 * x - 1).toNat % 2 : Nat) : Int) == 1) = true by simp; omega, cond_true]
    simp only [IntKind.wrap, IntKind.signed, IntKind.bits]
    congr 4
    simp
    omega
  · simp only [if_neg h0]
    rw [show ((((2 * x).toNat % 2 : Nat) : Int) == 1) = false by simp; omega, cond_false]
    rw [wrapI (by omega) (by omega)]
    congr 4
    omega
/-! ### Eight bytes -/
def be (x : Nat) : Nat → List Int
  | 0 => []
  | j + 1 => ((x / 2 ^ (8 * j) % 256 : Nat) : Int) :: be x j
theorem be_length (x : Nat) : ∀ j, (be x j).length = j
  | 0 => rfl
  | j + 1 => by rw [be, List.length_cons, be_length x j]
theorem be_bytes (x : Nat) : ∀ j, Bytes (be x j)
  | 0 => fun y hy => by cases hy
  | j + 1 => fun y hy => by
    rw [be, List.mem_cons] at hy
    rcases hy with rfl | hy
    · omega
    · exact be_bytes x j y hy
theorem shr_by {x j : Nat} (hj : j ≤ 7) : iShr .u64 (x : Int) ((8 * j : Nat) : Int) = ((x / 2 ^ (8 * j) : Nat) : Int) := by
  unfold iShr
  rw [Int.toNat_natCast, show min (8 * j) IntKind.u64.bits = 8 * j from Nat.min_eq_left (by show 8 * j ≤ 64; omega)]
  rw [Int.fdiv_eq_ediv_of_nonneg _ (Int.le_of_lt (Int.pow_pos (by decide)))]
  rw [show ((2 : Int) ^ (8 * j)) = ((2 ^ (8 * j) : Nat) : Int) by simp]
  omega
theorem wrapY_mod (v : Nat) : IntKind.wrap .u8 (v : Int) = ((v % 256 : Nat) : Int) := by simp [IntKind.wrap, IntKind.signed, IntKind.bits]
theorem putFixed_loop {n : Nat} {x : Nat} {K : List Int → Option (List Int)} (m : Nat) : ∀ (j : Nat) (l : List Int), j ≤ 8 → l.length + j < 1000000000 → codec_PutFixed_r_l2 n (x : Int) K (m + j + 1) l ((j : Int) - 1) = K (l ++ be x j) := by
  intro j
  induction j with
  | zero =>
    intro l _ _
    rw [codec_PutFixed_r_l2, show decide (((0 : Nat) : Int) - 1 ≥ 0) = false by decide, cond_false, be, List.append_nil]
  | succ j ih =>
    intro l hj hl
    rw [codec_PutFixed_r_l2, show (((j + 1 : Nat) : Int) - 1) = (j : Int) by omega, decide_eq_true (by omega : (j : Int) ≥ 0), cond_true]
    rw [wrapI (by omega : -9223372036854775808 ≤ 8 * (j : Int)) (by omega), wrapU (by omega) (by omega), ckN_ok (by omega), Option.bind_some]
    rw [show (8 * (j : Int)) = ((8 * j : Nat) : Int) by omega, shr_by (by omega), wrapY_mod, ckA_okQ (by decide) (by simp; omega), Option.bind_some]
    rw [wrapI (by omega) (by omega), show m + (j + 1) = m + j + 1 by omega, ih _ (by omega) (by simp; omega), be]
    simp
theorem putFixed_r_ok {l : List Int} {x : Nat} (hl : l.length < 900000000) {n : Nat} (h : 20 ≤ n) : codec_PutFixed_r n l (x : Int) 8 = some (l ++ be x 8) := by
  obtain ⟨n, rfl⟩ : ∃ k, n = k + 10 := ⟨n - 10, by omega⟩
  unfold codec_PutFixed_r
  rw [at1_succ]
  unfold withK
  have := putFixed_loop (n := n + 9) (x := x) (K := fun y => some y) n 8 l (by omega) (by omega)
  exact this
theorem iOr_byte {a b : Nat} (ha : a < 2 ^ 56) (hb : b < 256) : iOr .u64 (iShl .u64 (a : Int) 8) (IntKind.wrap .u64 (b : Int)) = ((a * 256 + b : Nat) : Int) := by
  have e : iShl .u64 (a : Int) 8 = ((a * 2 ^ 8 : Nat) : Int) := by
    unfold iShl
    show IntKind.wrap .u64 ((a : Int) * 2 ^ 8) = _
    rw [wrapU (by omega) (by omega)]; omega
  rw [e, wrapU (by omega) (by omega)]
  have c : iOr .u64 ((a * 2 ^ 8 : Nat) : Int) (b : Int) = iOr .u64 (b : Int) ((a * 2 ^ 8 : Nat) : Int) := by
    unfold iOr; rw [BitVec.or_comm]
  rw [c, orU (s := 8) (by omega) (by omega)]
  omega
theorem div_step (x j : Nat) : x / 2 ^ (8 * j) = x / 2 ^ (8 * (j + 1)) * 256 + x / 2 ^ (8 * j) % 256 := by
  rw [show 8 * (j + 1) = 8 * j + 8 by omega, Nat.pow_add, ← Nat.div_div_eq_div_mul]
  omega
theorem fixed_range {R : Type} {K : Int → Option R} {x : Nat} (hx : x < 2 ^ 64) : ∀ (j i : Nat), j ≤ 8 → rangeS (fun (c : Int) i (acc : Int) rec => rec (iOr .u64 (iShl .u64 acc 8) (IntKind.wrap .u64 c))) K (be x j) i ((x / 2 ^ (8 * j) : Nat) : Int) = K (x : Int)
  | 0, i, _ => by simp [be, rangeS]
  | j + 1, i, hj => by
    simp only [be, rangeS]
    rw [iOr_byte (by
      apply Nat.div_lt_of_lt_mul
      have : 2 ^ 8 ≤ 2 ^ (8 * (j + 1)) := Nat.pow_le_pow_right (by omega) (by omega)
      calc x < 2 ^ 8 * 2 ^ 56 := by omega
        _ ≤ 2 ^ (8 * (j + 1)) * 2 ^ 56 := Nat.mul_le_mul_right _ this) (by omega), ← div_step]
    exact fixed_range hx j (i + 1) (by omega)
theorem fixed_ok {b : Option (List Int)} {x : Nat} {rest : List Int} (hx : x < 2 ^ 64) (hs : sll b = be x 8 ++ rest) {n : Nat} (h : 2000010 ≤ n) : ∃ b', codec_Reader_Fixed n ⟨true, b, 0⟩ 8 = some (b', 0, (x : Int)) ∧ sll b' = rest := by
  obtain ⟨n, rfl⟩ : ∃ k, n = k + 1 := ⟨n - 1, by omega⟩
  unfold codec_Reader_Fixed
  rw [at1_succ, ready_ok (by omega)]
  simp only [Option.bind_some, beq_self_eq_true, Bool.and_self, Bool.not_true, cond_false]
  rw [show (if (8 : Int) < (if (0 : Int) > 8 then 0 else 8) then (8 : Int) else (if (0 : Int) > 8 then 0 else 8)) = ((8 : Nat) : Int) from rfl]
  have h8 : 8 ≤ (sll b).length := by rw [hs, List.length_append, be_length]; omega
  rw [take_ok h8 (by omega)]
  simp only [Option.bind_some, withK]
  have e1 : sll (subSl b 0 ((8 : Nat) : Int)) = be x 8 := by
    rw [sll_sub, hs]
    show ((be x 8 ++ rest).drop 0).take 8 = _
    rw [List.drop_zero]
    exact List.take_left' (be_length x 8)
  have e2 : sll (subSl b ((8 : Nat) : Int) ((sll b).length : Int)) = rest := by
    rw [sll_sub, hs]
    show ((be x 8 ++ rest).drop 8).take _ = _
    rw [List.drop_left' (be_length x 8), List.take_of_length_le]
    rw [List.length_append, be_length]
    show _ ≤ (((8 + rest.length : Nat) : Int)).toNat - 8
    omega
  refine ⟨_, ?_, e2⟩
  rw [show codec_Reader_Fixed_l6 n (subSl b 0 ((8 : Nat) : Int)) (fun y10 => some (subSl b ((8 : Nat) : Int) ((sll b).length : Int), 0, y10)) n 0 0 = _ from loop_sl (F := fun m s i => codec_Reader_Fixed_l6 n (subSl b 0 ((8 : Nat) : Int)) (fun y10 => some (subSl b ((8 : Nat) : Int) ((sll b).length : Int), 0, y10)) m i s) (by rw [e1, be_length]; omega) (B := fun (c : Int) i (acc : Int) rec => rec (iOr .u64 (iShl .u64 acc 8) (IntKind.wrap .u64 c))) (fun m i s => rfl) (by omega) 0]
  rw [e1]
  have := fixed_range (K := fun y10 => some (subSl b ((8 : Nat) : Int) ((sll b).length : Int), (0 : Int), y10)) hx 8 0 (by omega)
  rw [show x / 2 ^ (8 * 8) = 0 from Nat.div_eq_of_lt hx] at this
  exact this
/-! ### Floats -/
theorem bits_ok (f : Nat) {n : Nat} (h : 1 ≤ n) : codec_bits n f = some (bitsF f : Int) := by
  obtain ⟨n, rfl⟩ : ∃ k, n = k + 1 := ⟨n - 1, by omega⟩
  show (bif isNan f then some 9221120237041090561 else bif isZero f then some 0 else some (f : Int)) = _
  unfold bitsF
  cases isNan f <;> cases isZero f <;> rfl
theorem putFloat_r_ok {l : List Int} {f : Nat} (hf : bitsF f = f) (hl : l.length < 900000000) {n : Nat} (h : 21 ≤ n) : codec_PutFloat_r n l f = some (l ++ be f 8) := by
  obtain ⟨n, rfl⟩ : ∃ k, n = k + 1 := ⟨n - 1, by omega⟩
  unfold codec_PutFloat_r
  rw [at1_succ, bits_ok _ (by omega), Option.bind_some, hf, putFixed_r_ok hl (by omega), Option.bind_some]
theorem float_ok {b : Option (List Int)} {f : Nat} {rest : List Int} (hx : f < 2 ^ 64) (hf : bitsF f = f) (hs : sll b = be f 8 ++ rest) {n : Nat} (h : 2000011 ≤ n) : ∃ b', codec_Reader_Float n ⟨true, b, 0⟩ = some (true, b', 0, f) ∧ sll b' = rest := by
  obtain ⟨n, rfl⟩ : ∃ k, n = k + 1 := ⟨n - 1, by omega⟩
  unfold codec_Reader_Float
  rw [at1_succ]
  obtain ⟨b', h1, h2⟩ := fixed_ok hx hs (by omega : 2000010 ≤ n)
  rw [h1, Option.bind_some]
  refine ⟨b', ?_, h2⟩
  simp only
  rw [ready_ok (by omega)]
  simp only [Option.bind_some, beq_self_eq_true, Bool.and_self, Bool.not_true, cond_false]
  rw [Int.toNat_natCast, bits_ok _ (by omega), Option.bind_some, hf]
  simp
end Go.Pl

set_option linter.unusedVariables false
set_option linter.unusedSimpArgs false
namespace Go.Pl
open Go Go.Ab

/-! ### Values in their one form -/
/-! ### Put -/
def putV (p : api_Value) : List Int := p.fKind :: (if p.fKind = 1 then [p.fInt] else if p.fKind = 2 then ubytes (zig p.fInt) else if p.fKind = 3 then be p.fFloat 8 else if p.fKind = 4 then putT p.fText else [])
theorem putV_length {p : api_Value} (h : CanV p) : (putV p).length ≤ 80 := by
  rcases h with rfl | ⟨i, hi, rfl⟩ | ⟨i, hi, rfl⟩ | ⟨f, hf, hb, rfl⟩ | ⟨t, ht, rfl⟩
  · simp [putV]
  · simp [putV]
  · have := ubytes_length (zig i) 9 (by have := zig_lt hi; omega)
    simp [putV]; omega
  · simp [putV, be_length]
  · have := putT_length (s := t) (by omega)
    simp [putV]; omega
theorem putV_bytes {p : api_Value} (h : CanV p) : Bytes (putV p) := by
  have c : ∀ {k : Int} {l : List Int}, 0 ≤ k ∧ k < 256 → Bytes l → Bytes (k :: l) := fun hk hl x hx => by
    rw [List.mem_cons] at hx
    rcases hx with rfl | hx
    · exact hk
    · exact hl x hx
  have n0 : Bytes [] := fun x hx => by cases hx
  rcases h with rfl | ⟨i, hi, rfl⟩ | ⟨i, hi, rfl⟩ | ⟨f, hf, hb, rfl⟩ | ⟨t, ht, rfl⟩
  · exact c (by decide) n0
  · exact c (by show (0 : Int) ≤ 1 ∧ (1 : Int) < 256; decide) (c (by show 0 ≤ i ∧ i < 256; omega) n0)
  · exact c (by show (0 : Int) ≤ 2 ∧ (2 : Int) < 256; decide) (bytes_ubytes _)
  · exact c (by show (0 : Int) ≤ 3 ∧ (3 : Int) < 256; decide) (be_bytes _ _)
  · exact c (by show (0 : Int) ≤ 4 ∧ (4 : Int) < 256; decide) ((bytes_ubytes _).app (bytesL_range t))
theorem value_Put_r_ok {v : api_Value} {l : List Int} (hw : W_api_Value v) (hr : vRight v = true) (hl : l.length < 700000000) {n : Nat} (h : 23 ≤ n) (hn : n < 100000000) : value_Put_r n l v = some (l ++ putV (vP v)) := by
  obtain ⟨n, rfl⟩ : ∃ k, n = k + 1 := ⟨n - 1, by omega⟩
  unfold value_Put_r
  rw [at1_succ, value_Plain_ok hw (by omega), Option.bind_some]
  have hc := can_vP hw hr
  rw [show vNan (vPlain v) = vP v from rfl]
  rw [ckA_okQ (by decide) (by simp; omega), Option.bind_some]
  rcases hc with e | ⟨i, hi, e⟩ | ⟨i, hi, e⟩ | ⟨f, hf, hb, e⟩ | ⟨t, ht, e⟩ <;> rw [e]
  · rfl
  · show ((ckA 1 ((l ++ [1]) ++ [IntKind.wrap .u8 i]).length).bind fun _ => some ((l ++ [1]) ++ [IntKind.wrap .u8 i])) = _
    rw [ckA_okQ (by decide) (by simp; omega), Option.bind_some, wrapY (by omega) (by omega)]
    simp [putV]
  · show ((codec_PutInt_r n (l ++ [2]) i).bind fun x8 => some x8) = _
    rw [putInt_r_ok hi (by simp; omega) (by omega) (by omega), Option.bind_some]
    simp [putV]
  · show ((codec_PutFloat_r n (l ++ [3]) f).bind fun x8 => some x8) = _
    rw [putFloat_r_ok hb (by simp; omega) (by omega), Option.bind_some]
    simp [putV]
  · show ((codec_PutText_r n (l ++ [4]) t).bind fun x8 => some x8) = _
    rw [putText_r_ok (by omega) (by simp; omega) (by omega) (by omega), Option.bind_some]
    simp [putV]
/-! ### Take -/
theorem byte_one {b : Option (List Int)} {c : Int} {rest : List Int} (hb : Bytes (sll b)) (hs : sll b = c :: rest) {n : Nat} (h : 2000010 ≤ n) : ∃ b', codec_Reader_Byte n ⟨true, b, 0⟩ = some (b', 0, c) ∧ sll b' = rest := by
  obtain ⟨b', e', v, h1, h2⟩ := byte_ok hb h
  rw [hs] at h2
  obtain ⟨h3, rfl, rfl⟩ := h2
  exact ⟨b', h1, h3⟩
theorem value_Take_ok {p : api_Value} {b : Option (List Int)} {rest : List Int} (hc : CanV p) (hb : Bytes (sll b)) (hs : sll b = putV p ++ rest) {n : Nat} (h : 2000020 ≤ n) : ∃ b', value_Take n ⟨true, b, 0⟩ = some (true, b', 0, p.fKind, p.fInt, p.fFloat, p.fText, 0) ∧ sll b' = rest := by
  obtain ⟨n, rfl⟩ : ∃ k, n = k + 1 := ⟨n - 1, by omega⟩
  have hr := can_right hc
  unfold value_Take
  rw [at1_succ]
  have hb2 : ∀ {c : Int} {l : List Int}, sll b = c :: l → Bytes l := fun e x hx => hb x (by rw [e]; exact List.mem_cons_of_mem _ hx)
  have tail : ∀ (b' : Option (List Int)), ((codec_Reader_Err n (codec_Reader.mk true b' 0)).bind fun x14 => bif (x14 != 0) then some (true, b', (0 : Int), (0 : Int), (0 : Int), (0 : Nat), ByteArray.empty, x14) else (value_Right n (api_Value.mk p.fKind p.fInt p.fFloat p.fText)).bind fun x16 => bif (!x16) then some (true, b', (0 : Int), (0 : Int), (0 : Int), (0 : Nat), ByteArray.empty, (22 : Int)) else some (true, b', (0 : Int), p.fKind, p.fInt, p.fFloat, p.fText, (0 : Int))) = some (true, b', 0, p.fKind, p.fInt, p.fFloat, p.fText, 0) := fun b' => by
    rw [err_ok (by omega), Option.bind_some, value_Right_ok _ (by omega), show vRight ⟨p.fKind, p.fInt, p.fFloat, p.fText⟩ = true from hr]
    rfl
  rcases hc with e | ⟨i, hi, e⟩ | ⟨i, hi, e⟩ | ⟨f, hf, hbf, e⟩ | ⟨t, ht, e⟩ <;> subst e
  · obtain ⟨b', h1, h2⟩ := byte_one hb (show sll b = 0 :: rest from hs) (by omega : 2000010 ≤ n)
    rw [h1, Option.bind_some]
    exact ⟨b', tail b', h2⟩
  · obtain ⟨b', h1, h2⟩ := byte_one hb (show sll b = 1 :: (i :: rest) from hs) (by omega : 2000010 ≤ n)
    rw [h1, Option.bind_some]
    obtain ⟨b2, h3, h4⟩ := byte_one (b := b') (by rw [h2]; exact hb2 (show sll b = 1 :: (i :: rest) from hs)) h2 (by omega : 2000010 ≤ n)
    refine ⟨b2, ?_, h4⟩
    simp only [withK]
    rw [show ((IntKind.wrap .i64 1) == 1) = true by decide, cond_true, h3, Option.bind_some]
    simp only
    rw [show IntKind.wrap .i64 i = i from wrapI (by omega) (by omega)]
    exact tail b2
  · obtain ⟨b', h1, h2⟩ := byte_one hb (show sll b = 2 :: (ubytes (zig i) ++ rest) from hs) (by omega : 2000010 ≤ n)
    rw [h1, Option.bind_some]
    obtain ⟨b2, h3, h4⟩ := int_ok (b := b') hi (by rw [h2]; exact hb2 (show sll b = 2 :: (ubytes (zig i) ++ rest) from hs)) h2 (by omega : 14 ≤ n)
    refine ⟨b2, ?_, h4⟩
    simp only [withK]
    rw [show ((IntKind.wrap .i64 2) == 1) = false by decide, cond_false, show ((IntKind.wrap .i64 2) == 2) = true by decide, cond_true, h3, Option.bind_some]
    exact tail b2
  · obtain ⟨b', h1, h2⟩ := byte_one hb (show sll b = 3 :: (be f 8 ++ rest) from hs) (by omega : 2000010 ≤ n)
    rw [h1, Option.bind_some]
    obtain ⟨b2, h3, h4⟩ := float_ok (b := b') hf hbf h2 (by omega : 2000011 ≤ n)
    refine ⟨b2, ?_, h4⟩
    simp only [withK]
    rw [show ((IntKind.wrap .i64 3) == 1) = false by decide, cond_false, show ((IntKind.wrap .i64 3) == 2) = false by decide, cond_false, show ((IntKind.wrap .i64 3) == 3) = true by decide, cond_true, h3, Option.bind_some]
    exact tail b2
  · obtain ⟨b', h1, h2⟩ := byte_one hb (show sll b = 4 :: (putT t ++ rest) from hs) (by omega : 2000010 ≤ n)
    rw [h1, Option.bind_some]
    obtain ⟨b2, e2, v2, h3, h4⟩ := text_ok (b := b') (most := 64) (by omega) (by rw [h2]; exact hb2 (show sll b = 4 :: (putT t ++ rest) from hs)) (by omega : 14 ≤ n)
    rw [h2, rdT_put ht (by omega)] at h4
    obtain ⟨g1, rfl, rfl⟩ := h4
    refine ⟨b2, ?_, g1⟩
    simp only [withK]
    rw [show ((IntKind.wrap .i64 4) == 1) = false by decide, cond_false, show ((IntKind.wrap .i64 4) == 2) = false by decide, cond_false, show ((IntKind.wrap .i64 4) == 3) = false by decide, cond_false, show ((IntKind.wrap .i64 4) == 4) = true by decide, cond_true]
    rw [show ((64 : Int)) = ((64 : Nat) : Int) from rfl, h3, Option.bind_some, strOf_bytesL]
    exact tail b2
end Go.Pl

set_option linter.unusedVariables false
set_option linter.unusedSimpArgs false
namespace Go.Pl
open Go Go.Ab

/-! ### A row, put -/
def putVs (l : List api_Value) : List Int := l.flatMap fun v => putV (vP v)
theorem putVs_length : ∀ (l : List api_Value), (∀ v, v ∈ l → W_api_Value v ∧ vRight v = true) → (putVs l).length ≤ 80 * l.length
  | [], _ => by simp [putVs]
  | v :: l, h => by
    have h1 := putV_length (can_vP (h v (by simp)).1 (h v (by simp)).2)
    have h2 := putVs_length l fun w hw => h w (by simp [hw])
    unfold putVs at h2 ⊢
    rw [List.flatMap_cons, List.length_append, List.length_cons]
    omega
/-! ### and taken -/
def oapp (acc : Option (List api_Value)) : List api_Value → Option (List api_Value)
  | [] => acc
  | p :: r => oapp (some (sll acc ++ [p])) r
theorem sll_oapp : ∀ (ps : List api_Value) (acc : Option (List api_Value)), sll (oapp acc ps) = sll acc ++ ps
  | [], acc => by simp [oapp]
  | p :: r, acc => by
    rw [oapp, sll_oapp r]
    show (sll acc ++ [p]) ++ r = _
    simp
/-! ### As it was -/
theorem bytes_wSl {s : Option (List Int)} (h : wSl (wI .u8) s) : Bytes (sll s) := by
  intro x hx
  have := h.2 x hx
  simp only [wI, IntKind.min, IntKind.max, IntKind.signed, IntKind.bits] at this
  simp at this
  omega
end Go.Pl

set_option linter.unusedVariables false
set_option linter.unusedSimpArgs false
set_option maxRecDepth 100000
namespace Go.Pl
open Go Go.Ab
/-! ### A histogram as bytes -/
theorem uintP {b : Option (List Int)} {most v : Nat} {rest : List Int} (hv : v ≤ most) (hm : most < 18446744073709551616) (hb : Bytes (sll b)) (hs : sll b = ubytes v ++ rest) {n : Nat} (h : 13 ≤ n) : ∃ b', codec_Reader_Uint n ⟨true, b, 0⟩ (most : Int) = some (true, b', 0, (v : Int)) ∧ sll b' = rest := by
  obtain ⟨b1, e1, v1, h1, h2⟩ := uint_ok (most := (most : Int)) hb h
  rw [hs, rdU_put (by omega)] at h2
  unfold UintR at h2
  simp only at h2
  rw [if_pos (by omega)] at h2
  obtain ⟨g1, rfl, rfl⟩ := h2
  exact ⟨b1, h1, g1⟩
theorem Bytes.tail {a b : List Int} (h : Bytes (a ++ b)) : Bytes b := fun x hx => h x (List.mem_append_right _ hx)
def vpB (b : HB) : HB := ⟨vP b.fLow, vP b.fHigh, b.fCount, b.fDistinct⟩
def putB (b : HB) : List Int := ((putV (vP b.fLow) ++ putV (vP b.fHigh)) ++ ubytes b.fCount.toNat) ++ ubytes b.fDistinct.toNat
def putBs (l : List HB) : List Int := l.flatMap putB
theorem can_low {b : HB} (hW : W_hist_Bucket b) (hs : Snd b) : CanV (vP b.fLow) := can_vP hW.1 (plain_right hs.pl).1
theorem can_high {b : HB} (hW : W_hist_Bucket b) (hs : Snd b) : CanV (vP b.fHigh) := can_vP hW.2.1 (plain_right hs.ph).1
theorem putB_len {b : HB} (hW : W_hist_Bucket b) (hs : Snd b) : (putB b).length ≤ 200 := by
  have h1 := putV_length (can_low hW hs)
  have h2 := putV_length (can_high hW hs)
  have c1 := hs.c1; have c2 := hs.c2; have d1 := hs.d1; have d2 := hs.d2
  have h3 := ubytes_length b.fCount.toNat 9 (by omega)
  have h4 := ubytes_length b.fDistinct.toNat 9 (by omega)
  unfold putB
  simp only [List.length_append]
  omega
theorem putBs_len : ∀ {l : List HB}, (∀ b, b ∈ l → W_hist_Bucket b) → (∀ b, b ∈ l → Snd b) → (putBs l).length ≤ 200 * l.length
  | [], _, _ => Nat.le_refl _
  | b :: l, hW, hs => by
    have h1 := putB_len (hW b (by simp)) (hs b (by simp))
    have h2 := putBs_len (l := l) (fun c hc => hW c (List.mem_cons_of_mem _ hc)) (fun c hc => hs c (List.mem_cons_of_mem _ hc))
    unfold putBs at *
    rw [List.flatMap_cons, List.length_append, List.length_cons]
    omega
theorem putB_bytes {b : HB} (hW : W_hist_Bucket b) (hs : Snd b) : Bytes (putB b) :=
  (((putV_bytes (can_low hW hs)).app (putV_bytes (can_high hW hs))).app (bytes_ubytes _)).app (bytes_ubytes _)
theorem putBs_bytes : ∀ {l : List HB}, (∀ b, b ∈ l → W_hist_Bucket b) → (∀ b, b ∈ l → Snd b) → Bytes (putBs l)
  | [], _, _ => fun x hx => by cases hx
  | b :: l, hW, hs => by
    unfold putBs
    rw [List.flatMap_cons]
    exact (putB_bytes (hW b (by simp)) (hs b (by simp))).app (putBs_bytes (l := l) (fun c hc => hW c (List.mem_cons_of_mem _ hc)) (fun c hc => hs c (List.mem_cons_of_mem _ hc)))
theorem put_loop {n : Nat} (hn : 30 ≤ n) (hn2 : n < 100000000) {a : Option (List HB)} (ha : WH a) {K : List Int → Option (List Int)} : ∀ (l : List HB) (m : Nat) (p : List HB) (s : List Int), sll a = p ++ l → (∀ b, b ∈ l → Snd b) → s.length + 200 * l.length < 600000000 → l.length < m →
    hist_Put_nil_l3 n a K m s (p.length : Int) = K (s ++ putBs l)
  | [], m, p, s, he, _, _, hm => by
    obtain ⟨m, rfl⟩ : ∃ j, m = j + 1 := ⟨m - 1, by omega⟩
    rw [List.append_nil] at he
    rw [hist_Put_nil_l3, he, dF (by omega), cond_false]
    unfold putBs
    rw [List.flatMap_nil, List.append_nil]
  | b :: l, m, p, s, he, hs, hl, hm => by
    obtain ⟨m, rfl⟩ : ∃ j, m = j + 1 := ⟨m - 1, by omega⟩
    have hlen : (sll a).length = p.length + (l.length + 1) := by rw [he]; simp
    have ha1 := ha.1
    rw [List.length_cons] at hm hl
    have hsb := hs b (by simp)
    have hW := ha.2 b (by rw [he]; simp)
    have c1 := hsb.c1; have c2 := hsb.c2; have d1 := hsb.d1; have d2 := hsb.d2
    have hix : idx (sll a) (p.length : Int) = some b := by rw [he]; exact idx_app p b l
    have l1 := putV_length (can_low hW hsb)
    have l2 := putV_length (can_high hW hsb)
    have l3 := ubytes_length b.fCount.toNat 9 (by omega)
    have e1 : IntKind.wrap .u64 b.fCount = ((b.fCount.toNat : Nat) : Int) := uwrap (by omega) (by omega)
    have e2 : IntKind.wrap .u64 b.fDistinct = ((b.fDistinct.toNat : Nat) : Int) := uwrap (by omega) (by omega)
    rw [hist_Put_nil_l3, dT (by omega), cond_true, hix, Option.bind_some, value_Put_r_ok hW.1 (plain_right hsb.pl).1 (by omega) (by omega) hn2, Option.bind_some, value_Put_r_ok hW.2.1 (plain_right hsb.ph).1 (by rw [List.length_append]; omega) (by omega) hn2, Option.bind_some, e1, e2,
      putUint_r_ok (by omega) (by simp only [List.length_append]; omega) (by omega) hn2, Option.bind_some, putUint_r_ok (by omega) (by simp only [List.length_append]; omega) (by omega) hn2, Option.bind_some, wrapN (by omega)]
    have hpb := putB_len hW hsb
    have e3 : (((s ++ putV (vP b.fLow)) ++ putV (vP b.fHigh)) ++ ubytes b.fCount.toNat) ++ ubytes b.fDistinct.toNat = s ++ putB b := by unfold putB; simp only [List.append_assoc]
    rw [e3]
    have := put_loop hn hn2 ha (K := K) l m (p ++ [b]) (s ++ putB b) (by rw [he]; simp) (fun c hc => hs c (by simp [hc])) (by rw [List.length_append]; omega) (by omega)
    rw [show (p ++ [b]).length = p.length + 1 by simp] at this
    rw [this]
    unfold putBs
    rw [List.flatMap_cons, List.append_assoc]
def oapB (o : Option (List HB)) : List HB → Option (List HB)
  | [] => o
  | b :: l => oapB (some (sll o ++ [vpB b])) l
theorem sll_oapB : ∀ (l : List HB) (o : Option (List HB)), sll (oapB o l) = sll o ++ l.map vpB
  | [], o => by simp [oapB]
  | b :: l, o => by rw [oapB, sll_oapB l]; simp [sll_some]
abbrev TakeR := Bool × Option (List Int) × Int × Option (List HB) × Int
theorem take_loopB {n : Nat} (hn : 2000020 ≤ n) {K : Bool → Option (List Int) → Int → Option (List HB) → Option TakeR} {N : Nat} (hN : N ≤ 50) {rest : List Int} : ∀ (l : List HB) (m i : Nat) (b : Option (List Int)) (o : Option (List HB)), i + l.length = N → (∀ b, b ∈ l → W_hist_Bucket b) → (∀ b, b ∈ l → Snd b) → Bytes (sll b) → sll b = putBs l ++ rest → (sll o).length ≤ i → l.length < m →
    ∃ b', sll b' = rest ∧ hist_Take_l3 n K (N : Int) m true b 0 (i : Int) o = K true b' 0 (oapB o l)
  | [], m, i, b, o, hi, _, _, hb, hs, ho, hm => by
    obtain ⟨m, rfl⟩ : ∃ j, m = j + 1 := ⟨m - 1, by omega⟩
    rw [List.length_nil] at hi
    refine ⟨b, by rw [hs]; rfl, ?_⟩
    cases o <;> (rw [hist_Take_l3, dF (by omega), cond_false]; rfl)
  | c :: l, m, i, b, o, hi, hW, hs, hb, he, ho, hm => by
    obtain ⟨m, rfl⟩ : ∃ j, m = j + 1 := ⟨m - 1, by omega⟩
    rw [List.length_cons] at hi hm
    have hWc := hW c (by simp)
    have hsc := hs c (by simp)
    have c1 := hsc.c1; have c2 := hsc.c2; have d1 := hsc.d1; have d2 := hsc.d2
    have he' : sll b = putV (vP c.fLow) ++ (putV (vP c.fHigh) ++ (ubytes c.fCount.toNat ++ (ubytes c.fDistinct.toNat ++ (putBs l ++ rest)))) := by
      rw [he]; unfold putBs putB; simp only [List.flatMap_cons, List.append_assoc]
    obtain ⟨b1, t1, s1⟩ := value_Take_ok (can_low hWc hsc) hb he' (n := n) (by omega)
    have hb1 : Bytes (sll b1) := by rw [s1]; rw [he'] at hb; exact hb.tail
    obtain ⟨b2, t2, s2⟩ := value_Take_ok (can_high hWc hsc) hb1 s1 (n := n) (by omega)
    have hb2 : Bytes (sll b2) := by rw [s2]; rw [s1] at hb1; exact hb1.tail
    obtain ⟨b3, t3, s3⟩ := uintP (most := 1000000) (v := c.fCount.toNat) (by omega) (by omega) hb2 s2 (n := n) (by omega)
    have hb3 : Bytes (sll b3) := by rw [s3]; rw [s2] at hb2; exact hb2.tail
    obtain ⟨b4, t4, s4⟩ := uintP (most := 1000000) (v := c.fDistinct.toNat) (by omega) (by omega) hb3 s3 (n := n) (by omega)
    have hb4 : Bytes (sll b4) := by rw [s4]; rw [s3] at hb3; exact hb3.tail
    obtain ⟨b', g1, g2⟩ := take_loopB hn (K := K) hN (rest := rest) l m (i + 1) b4 (some (sll o ++ [vpB c])) (by omega) (fun q hq => hW q (List.mem_cons_of_mem _ hq)) (fun q hq => hs q (List.mem_cons_of_mem _ hq)) hb4 s4 (by rw [sll_some, List.length_append, List.length_singleton]; omega) (by omega)
    refine ⟨b', g1, ?_⟩
    have w1 : IntKind.wrap .i64 ((c.fCount.toNat : Nat) : Int) = c.fCount := by rw [wv rfl (by omega)]; omega
    have w2 : IntKind.wrap .i64 ((c.fDistinct.toNat : Nat) : Int) = c.fDistinct := by rw [wv rfl (by omega)]; omega
    have t3' : codec_Reader_Uint n ⟨true, b2, 0⟩ 1000000 = some (true, b3, 0, ((c.fCount.toNat : Nat) : Int)) := t3
    have t4' : codec_Reader_Uint n ⟨true, b3, 0⟩ 1000000 = some (true, b4, 0, ((c.fDistinct.toNat : Nat) : Int)) := t4
    rw [oapB, ← g2]
    cases o with
    | none =>
      rw [hist_Take_l3, dT (by omega), cond_true]
      simp only [withK]
      rw [t1, Option.bind_some]
      simp only [beq_self_eq_true, cond_true]
      rw [t2, Option.bind_some]
      simp only [bne_self_eq_false, cond_false]
      rw [t3', Option.bind_some]
      simp only
      rw [t4', Option.bind_some]
      simp only
      rw [ckA_ok (by simp) (by omega), Option.bind_some, w1, w2, show IntKind.wrap .u64 ((i : Int) + 1) = ((i + 1 : Nat) : Int) from uwrap (by omega) (by omega)]
      rfl
    | some o =>
      rw [sll_some] at ho
      rw [hist_Take_l3, dT (by omega), cond_true]
      simp only [withK]
      rw [t1, Option.bind_some]
      simp only [beq_self_eq_true, cond_true]
      rw [t2, Option.bind_some]
      simp only [bne_self_eq_false, cond_false]
      rw [t3', Option.bind_some]
      simp only
      rw [t4', Option.bind_some]
      simp only
      rw [ckA_ok (by simp; omega) (by omega), Option.bind_some, w1, w2, show IntKind.wrap .u64 ((i : Int) + 1) = ((i + 1 : Nat) : Int) from uwrap (by omega) (by omega)]
      rfl
/-! ### In its one form -/
theorem vP_cmp {v w : api_Value} (hv : W_api_Value v) (hw : W_api_Value w) (rv : vRight v = true) (rw' : vRight w = true) : (vCmp (vP v) (vP w) ≤ 0 ↔ vCmp v w ≤ 0) ∧ (0 ≤ vCmp (vP v) (vP w) ↔ 0 ≤ vCmp v w) := by
  have e1 := vCmp_vP hv rv
  have e2 := vCmp_vP hw rw'
  have l1 := vCmp_ord.left (z := vP w) e1
  have l2 := vCmp_ord.left (z := v) e2
  have a1 := vCmp_ord.anti v w
  have a2 := vCmp_ord.anti v (vP w)
  omega
theorem vP_kind {v : api_Value} (rv : vRight v = true) : (vP v).fKind = v.fKind := by
  unfold vP
  rw [vNan_kind, kind_plain rv]
theorem can_plain {p : api_Value} (h : CanV p) (hk : p.fKind ≠ 0) : plainB p = true := by
  have hr := can_right h
  unfold plainB
  rw [hr, show (p.fKind != 0) = true by simpa using hk, Bool.true_and, Bool.true_and]
  have z0 : (!isZero 0 || !signb 0) = true := by decide +kernel
  rcases h with rfl | ⟨i, hi, rfl⟩ | ⟨i, hi, rfl⟩ | ⟨f, hf, hb, rfl⟩ | ⟨t, ht, rfl⟩
  · exact z0
  · exact z0
  · exact z0
  · show (!isZero f || !signb f) = true
    cases hz : isZero f with
    | false => rfl
    | true =>
      have : f = 0 := by
        rw [← hb]
        unfold bitsF
        have hn : isNan f = false := by
          cases hn : isNan f with
          | false => rfl
          | true => rw [nan_not_zero hf hn] at hz; cases hz
        rw [hn, hz]; rfl
      rw [this]; decide +kernel
  · exact z0
theorem vpB_W {b : HB} (hW : W_hist_Bucket b) (hs : Snd b) : W_hist_Bucket (vpB b) := ⟨can_W (can_low hW hs), can_W (can_high hW hs), hW.2.2⟩
theorem vpB_snd {b : HB} (hW : W_hist_Bucket b) (hs : Snd b) : sndB (vpB b) = true := by
  have pl := plain_right hs.pl
  have ph := plain_right hs.ph
  have k1 := vP_kind pl.1
  have k2 := vP_kind ph.1
  have c := vP_cmp hW.1 hW.2.1 pl.1 ph.1
  have p1 := can_plain (can_low hW hs) (by rw [k1]; exact pl.2)
  have p2 := can_plain (can_high hW hs) (by rw [k2]; exact ph.2)
  have h1 := hs.c1; have h2 := hs.c2; have h3 := hs.d1; have h4 := hs.d2; have h5 := hs.le; have h6 := hs.one; have h7 := hs.kd
  have e : ((vCmp (vP b.fLow) (vP b.fHigh) == 0) == (b.fDistinct == 1)) = true := by
    rw [beq_iff_eq, Bool.eq_iff_iff, beq_iff_eq, beq_iff_eq]
    omega
  unfold sndB vpB
  simp only [p1, p2, k1, k2, h7, e, beq_self_eq_true, Bool.and_true, Bool.and_eq_true, decide_eq_true_eq, Bool.true_and]
  omega
theorem vpB_chain : ∀ {l : List HB} {o : Option HB}, chainP o l = true → (∀ q, o = some q → W_hist_Bucket q ∧ Snd q) → (∀ b, b ∈ l → W_hist_Bucket b) → chainP (o.map vpB) (l.map vpB) = true
  | [], o, _, _, _ => by cases o <;> rfl
  | b :: l, o, hc, hq, hW => by
    have hs := chain_all hc b (by simp)
    have hWb := hW b (by simp)
    have ih := vpB_chain (l := l) (o := some b) (chain_next hc) (fun q e => by cases e; exact ⟨hWb, hs⟩) (fun c h => hW c (List.mem_cons_of_mem _ h))
    have hv := vpB_snd hWb hs
    cases o with
    | none =>
      show (sndB (vpB b) && chainP (some (vpB b)) (l.map vpB)) = true
      rw [hv]; exact ih
    | some q =>
      show (sndB (vpB b) && (adjB (vpB q) (vpB b) && chainP (some (vpB b)) (l.map vpB))) = true
      obtain ⟨hWq, hsq⟩ := hq q rfl
      have ha : adjB (vpB q) (vpB b) = true := by
        rw [chainP, Bool.and_eq_true, Bool.and_eq_true] at hc
        have ha := hc.2.1
        unfold adjB at ha ⊢
        rw [Bool.and_eq_true, beq_iff_eq, decide_eq_true_eq] at ha ⊢
        have ph := plain_right hsq.ph
        have pl := plain_right hs.pl
        have c := vP_cmp hWq.2.1 hWb.1 ph.1 pl.1
        refine ⟨?_, ?_⟩
        · show (vP q.fHigh).fKind = (vP b.fLow).fKind
          rw [vP_kind ph.1, vP_kind pl.1]; exact ha.1
        · show vCmp (vP q.fHigh) (vP b.fLow) < 0
          omega
      rw [hv, ha]
      exact ih
theorem vpB_right {l : List HB} (hr : rightH l = true) (hW : ∀ b, b ∈ l → W_hist_Bucket b) : rightH (l.map vpB) = true := by
  obtain ⟨h1, h2⟩ := right_len hr
  unfold rightH
  rw [List.length_map, dT h1, Bool.true_and]
  exact vpB_chain (o := none) h2 (fun q e => by cases e) hW
/-! ### Alike in all fields -/
def exactV (a b : api_Value) : Bool := (a.fKind == b.fKind) && ((a.fInt == b.fInt) && (sEq a.fText b.fText && ((bitsF a.fFloat == bitsF b.fFloat) && (posZ a.fFloat == posZ b.fFloat))))
theorem ref03_Bits_ok (f : Nat) {n : Nat} (h : 1 ≤ n) : ref03_Bits n f = some (bitsF f : Int) := by
  obtain ⟨n, rfl⟩ : ∃ k, n = k + 1 := ⟨n - 1, by omega⟩
  unfold ref03_Bits bitsF
  rw [at1_succ]
  have e1 : ((FloatKind.format .f64).order f f != some .eq) = isNan f := rfl
  have e2 : ((FloatKind.format .f64).order f 0 == some .eq) = isZero f := rfl
  rw [e1, e2]
  cases isNan f <;> cases isZero f <;> rfl
theorem exact_ok {a b : api_Value} (ha : W_api_Value a) (hb : W_api_Value b) {n : Nat} (h : 3 ≤ n) : ref04_Exact n a b = some (exactV a b) := by
  obtain ⟨n, rfl⟩ : ∃ k, n = k + 1 := ⟨n - 1, by omega⟩
  unfold ref04_Exact exactV
  rw [at1_succ, ref03_Bits_ok _ (by omega), Option.bind_some, ref03_Bits_ok _ (by omega), Option.bind_some, ref04_zero_ok ha.2.2.1 (by omega), Option.bind_some, ref04_zero_ok hb.2.2.1 (by omega), Option.bind_some]
  have e : (((bitsF a.fFloat : Nat) : Int) == ((bitsF b.fFloat : Nat) : Int)) = (bitsF a.fFloat == bitsF b.fFloat) := by
    rw [Bool.eq_iff_iff, beq_iff_eq, beq_iff_eq]; omega
  rw [e]
  cases (a.fKind == b.fKind) <;> cases (a.fInt == b.fInt) <;> cases sEq a.fText b.fText <;> cases (bitsF a.fFloat == bitsF b.fFloat) <;> rfl
theorem same_ok {a b : Option (List T19)} (ha : WT a) (hb : WT b) (hl : (sll a).length = (sll b).length) (hx : ∀ i (h : i < (sll a).length) (h' : i < (sll b).length), exactV (sll a)[i].fLow (sll b)[i].fLow = true ∧ exactV (sll a)[i].fHigh (sll b)[i].fHigh = true ∧ (sll a)[i].fCount = (sll b)[i].fCount ∧ (sll a)[i].fDistinct = (sll b)[i].fDistinct) {n : Nat} (h : 2000010 ≤ n) : ref19_Same n a b = some true := by
  obtain ⟨n, rfl⟩ : ∃ k, n = k + 1 := ⟨n - 1, by omega⟩
  have ha1 := ha.1
  unfold ref19_Same
  simp only [at1_succ, withK]
  rw [show (((sll a).length : Int) != ((sll b).length : Int)) = false by simp [hl], cond_false]
  have : ∀ (d m i : Nat), i + d = (sll a).length → d < m → ref19_Same_l4 n a b (fun _ => some true) m (i : Int) = some true := by
    intro d
    induction d with
    | zero =>
      intro m i hi hm
      obtain ⟨m, rfl⟩ : ∃ j, m = j + 1 := ⟨m - 1, by omega⟩
      rw [ref19_Same_l4, dF (by omega), cond_false]
    | succ d ih =>
      intro m i hi hm
      obtain ⟨m, rfl⟩ : ∃ j, m = j + 1 := ⟨m - 1, by omega⟩
      have i1 : i < (sll a).length := by omega
      have i2 : i < (sll b).length := by omega
      obtain ⟨x1, x2, x3, x4⟩ := hx i i1 i2
      have wa := ha.2 _ (List.getElem_mem i1)
      have wb := hb.2 _ (List.getElem_mem i2)
      rw [ref19_Same_l4, dT (by omega), cond_true, idx_nat, List.getElem?_eq_getElem i1, Option.bind_some, idx_nat, List.getElem?_eq_getElem i2, Option.bind_some, exact_ok wa.1 wb.1 (by omega), x1, Option.bind_some, exact_ok wa.2.1 wb.2.1 (by omega), x2, Option.bind_some, x3, x4, wrapN (by omega), ih m (i + 1) (by omega) (by omega)]
      simp
  exact this (sll a).length n 0 (by omega) (by omega)
theorem hist_Take_ok {b : Option (List Int)} {l : List HB} {rest : List Int} (hr : rightH l = true) (hW : ∀ b, b ∈ l → W_hist_Bucket b) (hb : Bytes (sll b)) (hs : sll b = ubytes l.length ++ (putBs l ++ rest)) {n : Nat} (h : 2000100 ≤ n) : ∃ b', sll b' = rest ∧ hist_Take n ⟨true, b, 0⟩ = some (true, b', 0, oapB none l, 0) := by
  obtain ⟨n, rfl⟩ : ∃ k, n = k + 1 := ⟨n - 1, by omega⟩
  obtain ⟨h1, h2⟩ := right_len hr
  have hall := chain_all h2
  unfold hist_Take
  rw [at1_succ]
  obtain ⟨b1, t1, s1⟩ := uintP (most := 50) (v := l.length) h1 (by omega) hb hs (n := n) (by omega)
  have t1' : codec_Reader_Uint n ⟨true, b, 0⟩ 50 = some (true, b1, 0, (l.length : Int)) := t1
  have hb1 : Bytes (sll b1) := by rw [s1]; rw [hs] at hb; exact hb.tail
  have hWo : WH (oapB none l) := by
    have e := sll_oapB l none
    refine ⟨by rw [e]; show ([] ++ l.map vpB).length ≤ _; rw [List.nil_append, List.length_map]; omega, fun x hx => ?_⟩
    rw [e] at hx
    have hx : x ∈ [] ++ l.map vpB := hx
    rw [List.nil_append, List.mem_map] at hx
    obtain ⟨c, hc, rfl⟩ := hx
    exact vpB_W (hW c hc) (hall c hc)
  have hro : rightH (sll (oapB none l)) = true := by
    rw [sll_oapB]
    show rightH ([] ++ l.map vpB) = true
    rw [List.nil_append]; exact vpB_right hr hW
  have hloop : ∀ K : Bool → Option (List Int) → Int → Option (List HB) → Option TakeR, ∃ b', sll b' = rest ∧ hist_Take_l3 n K (l.length : Int) n true b1 0 0 none = K true b' 0 (oapB none l) := fun K =>
    take_loopB (n := n) (by omega) h1 l n 0 b1 none (by omega) hW hall hb1 s1 (by show 0 ≤ 0; omega) (by omega)
  unfold withK
  simp only []
  rw [t1', Option.bind_some]
  obtain ⟨b', g1, g2⟩ := hloop _
  refine ⟨b', g1, Eq.trans g2 ?_⟩
  have e1 : codec_Reader_Err n ⟨true, b', 0⟩ = some 0 := err_ok (by omega)
  have e2 := hist_Right_ok hWo (n := n) (by omega)
  rw [hro] at e2
  cases ho : oapB none l with
  | none =>
    rw [ho] at e2
    simp only []
    rw [e1, Option.bind_some, show ((0 : Int) != 0) = false by decide, cond_false, e2]; rfl
  | some o =>
    rw [ho] at e2
    simp only []
    rw [e1, Option.bind_some, show ((0 : Int) != 0) = false by decide, cond_false, e2]; rfl
end Go.Pl

