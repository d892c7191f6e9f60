import Derived.Test.YtmdjdpnmbgdngaaPA
import Derived.Test.YtmdjdpnmbgdngaaPC
set_option linter.unusedVariables false
set_option linter.unusedSimpArgs false
/-! codec's readers and puts, in plain words. -/
namespace Go.Pl
open Go Go.Ab

theorem sll_sub {α : Type} (s : Option (List α)) (lo hi : Int) : sll (subSl s lo hi) = ((sll s).drop lo.toNat).take (hi.toNat - lo.toNat) := by
  cases s <;> simp [subSl, sll, subL]
theorem ckB_ok {lo hi n : Int} (h : 0 ≤ lo ∧ lo ≤ hi ∧ hi ≤ n) : ckB lo hi n = some () := by
  unfold ckB; rw [if_pos h]
theorem ckA_ok {b n : Nat} (hb : b ≤ 1000) (h : n ≤ 100000000000) : ckA b n = some () := by
  unfold ckA
  rw [if_pos ⟨by have := Nat.mul_le_mul h hb; omega, by omega⟩]
theorem ckN_ok {b : Int} (h : 0 ≤ b) : ckN b = some () := by
  unfold ckN; rw [if_neg (by omega)]
theorem fail_ok {r : codec_Reader} {e : Int} {n : Nat} (h : 1 ≤ n) : codec_Reader_fail n r e = some () := by
  obtain ⟨n, rfl⟩ : ∃ k, n = k + 1 := ⟨n - 1, by omega⟩
  rfl
theorem ready_ok {r : codec_Reader} {n : Nat} (h : 1 ≤ n) : codec_Reader_ready n r = some () := by
  obtain ⟨n, rfl⟩ : ∃ k, n = k + 1 := ⟨n - 1, by omega⟩
  rfl
theorem take_ok {m : Bool} {b : Option (List Int)} {e : Int} {k : Nat} (hk : k ≤ (sll b).length) {n : Nat} (h : 2 ≤ n) : codec_Reader_take n ⟨m, b, e⟩ (k : Int) = some (subSl b k ((sll b).length : Int), e, subSl b 0 k, true) := by
  obtain ⟨n, rfl⟩ : ∃ k, n = k + 1 := ⟨n - 1, by omega⟩
  unfold codec_Reader_take
  rw [at1_succ, show decide ((k : Int) > ((sll b).length : Int)) = false by simp; omega, cond_false]
  simp only
  rw [ckB_ok (by omega), Option.bind_some, ckB_ok (by omega), Option.bind_some]
theorem take_no {m : Bool} {b : Option (List Int)} {e : Int} {k : Nat} (hk : ¬ k ≤ (sll b).length) {n : Nat} (h : 2 ≤ n) : codec_Reader_take n ⟨m, b, e⟩ (k : Int) = some (none, 21, none, false) := by
  obtain ⟨n, rfl⟩ : ∃ k, n = k + 1 := ⟨n - 1, by omega⟩
  unfold codec_Reader_take
  rw [at1_succ, show decide ((k : Int) > ((sll b).length : Int)) = true by simp; omega, cond_true, fail_ok (by omega), Option.bind_some]
/-- What reading a number tells. -/
def NumR (x : Option (Nat × List Int)) (e : Int) (b' : Option (List Int)) (e' v : Int) (ok : Bool) : Prop :=
  match x with
  | some (n, rest) => sll b' = rest ∧ e' = e ∧ v = n ∧ ok = true
  | none => b' = none ∧ e' ≠ 0 ∧ v = 0 ∧ ok = false
theorem number_loop {n : Nat} (hn : 2 ≤ n) (mk : Bool) : ∀ (k m i acc : Nat) (b : Option (List Int)) (e : Int), k + i = 10 → k < m → Bytes (sll b) → acc < 2 ^ (7 * i) →
    ∃ b' e' v ok, codec_Reader_number_l4 n m mk b e (acc : Int) (i : Int) = some (mk, b', e', v, ok) ∧ NumR (rdU k i acc (sll b)) e b' e' v ok
  | 0, m, i, acc, b, e, hk, hm, hb, ha => by
    obtain ⟨m, rfl⟩ : ∃ j, m = j + 1 := ⟨m - 1, by omega⟩
    refine ⟨none, 22, 0, false, ?_, rfl, by decide, rfl, rfl⟩
    rw [codec_Reader_number_l4, show ((i : Int) == 10) = true by simp; omega, cond_true, fail_ok (by omega), Option.bind_some]
  | k + 1, m, i, acc, b, e, hk, hm, hb, ha => by
    obtain ⟨m, rfl⟩ : ∃ j, m = j + 1 := ⟨m - 1, by omega⟩
    rw [codec_Reader_number_l4, show ((i : Int) == 10) = false by simp; omega, cond_false]
    cases hl : sll b with
    | nil =>
      refine ⟨none, 21, 0, false, ?_, ?_⟩
      · have := take_no (m := mk) (b := b) (e := e) (k := 1) (by rw [hl]; decide) hn
        rw [show ((1 : Nat) : Int) = 1 from rfl] at this
        rw [this]; rfl
      · rw [rdU_nil]; exact ⟨rfl, by decide, rfl, rfl⟩
    | cons c l =>
      have := take_ok (m := mk) (b := b) (e := e) (k := 1) (by rw [hl]; simp) hn
      rw [show ((1 : Nat) : Int) = 1 from rfl] at this
      rw [this]
      simp only [Option.bind_some, Bool.not_true, cond_false]
      have h1 : sll (subSl b 0 1) = [c] := by rw [sll_sub, hl]; rfl
      have h2 : sll (subSl b 1 ((sll b).length : Int)) = l := by
        rw [sll_sub, hl]
        simp
      rw [h1, show idx [c] 0 = some c from rfl, Option.bind_some]
      have hc := hb c (by rw [hl]; simp)
      by_cases hbad : (i = 9 ∧ c > 1) ∨ (i > 0 ∧ c = 0)
      · rw [show (((i : Int) == 9) && (decide (c > 1)) || ((decide ((i : Int) > 0)) && (c == 0))) = true by
          rw [Bool.or_eq_true, Bool.and_eq_true, Bool.and_eq_true, beq_iff_eq, beq_iff_eq, decide_eq_true_eq, decide_eq_true_eq]; omega]
        rw [cond_true, fail_ok (by omega), Option.bind_some]
        exact ⟨none, 22, 0, false, rfl, by rw [rdU_bad hbad]; exact ⟨rfl, by decide, rfl, rfl⟩⟩
      · rw [show (((i : Int) == 9) && (decide (c > 1)) || ((decide ((i : Int) > 0)) && (c == 0))) = false by
          rw [Bool.or_eq_false_iff, Bool.and_eq_false_iff, Bool.and_eq_false_iff, beq_eq_false_iff_ne, beq_eq_false_iff_ne, decide_eq_false_iff_not, decide_eq_false_iff_not]; omega]
        rw [cond_false, wrapI (by omega) (by omega), wrapU (by omega) (by omega), ckN_ok (by omega), Option.bind_some, and127 hc.1 hc.2, wrapU (by omega) (by omega)]
        have h9 : i = 9 → c ≤ 1 := by omega
        have e1 : (c % 128 : Int) = (((c % 128).toNat : Nat) : Int) := by omega
        rw [e1, shl7 (by omega) (by omega) (by omega), orU ha (acc_lt2 ha hc (by omega) h9)]
        by_cases hc2 : c < 128
        · rw [show decide (c < 128) = true by simpa using hc2, cond_true]
          refine ⟨_, _, _, _, rfl, ?_⟩
          rw [rdU_last hbad hc2]
          exact ⟨h2, rfl, rfl, rfl⟩
        · rw [show decide (c < 128) = false by simpa using hc2, cond_false, wrapN (by omega)]
          obtain ⟨b', e', v, ok, h3, h4⟩ := number_loop hn mk k m (i + 1) (acc + (c % 128).toNat * 2 ^ (7 * i)) (subSl b 1 ((sll b).length : Int)) e (by omega) (by omega) (by rw [h2]; intro x hx; exact hb x (by rw [hl]; simp [hx])) (acc_lt ha hc)
          refine ⟨b', e', v, ok, h3, ?_⟩
          rw [rdU_next hbad hc2, ← h2]
          exact h4
theorem number_ok {mk : Bool} {b : Option (List Int)} {e : Int} (hb : Bytes (sll b)) {n : Nat} (h : 12 ≤ n) : ∃ b' e' v ok, codec_Reader_number n ⟨mk, b, e⟩ = some (mk, b', e', v, ok) ∧ NumR (rdU 10 0 0 (sll b)) e b' e' v ok := by
  obtain ⟨n, rfl⟩ : ∃ k, n = k + 1 := ⟨n - 1, by omega⟩
  exact number_loop (by omega) mk 10 n 0 0 b e (by omega) (by omega) hb (by decide)
/-- A number up to a most. -/
def UintR (x : Option (Nat × List Int)) (most : Int) (b' : Option (List Int)) (e' v : Int) : Prop :=
  match x with
  | some (n, rest) => if (n : Int) ≤ most then sll b' = rest ∧ e' = 0 ∧ v = n else b' = none ∧ e' ≠ 0 ∧ v = 0
  | none => b' = none ∧ e' ≠ 0 ∧ v = 0
theorem uint_ok {b : Option (List Int)} {most : Int} (hb : Bytes (sll b)) {n : Nat} (h : 13 ≤ n) : ∃ b' e' v, codec_Reader_Uint n ⟨true, b, 0⟩ most = some (true, b', e', v) ∧ UintR (rdU 10 0 0 (sll b)) most b' e' v := by
  obtain ⟨n, rfl⟩ : ∃ k, n = k + 1 := ⟨n - 1, by omega⟩
  unfold codec_Reader_Uint
  rw [at1_succ, ready_ok (by omega)]
  obtain ⟨b', e', v, ok, h1, h2⟩ := number_ok (mk := true) (e := 0) hb (n := n) (by omega)
  rw [h1]
  simp only [Option.bind_some, beq_self_eq_true, Bool.and_self, Bool.not_true, cond_false]
  cases hr : rdU 10 0 0 (sll b) with
  | none =>
    rw [hr] at h2
    obtain ⟨rfl, he, rfl, rfl⟩ := h2
    exact ⟨none, e', 0, rfl, rfl, he, rfl⟩
  | some p =>
    rw [hr] at h2
    obtain ⟨v0, rest⟩ := p
    obtain ⟨h3, rfl, rfl, rfl⟩ := h2
    unfold UintR
    by_cases hm : (v0 : Int) ≤ most
    · rw [show decide ((v0 : Int) > most) = false by simp; omega]
      simp only [Bool.and_false, cond_false]
      exact ⟨b', 0, v0, rfl, by rw [if_pos hm]; exact ⟨h3, rfl, rfl⟩⟩
    · rw [show decide ((v0 : Int) > most) = true by simp; omega, fail_ok (by omega)]
      simp only [Bool.and_self, cond_true, Option.bind_some]
      exact ⟨none, 3, 0, rfl, by rw [if_neg hm]; exact ⟨rfl, by decide, rfl⟩⟩
theorem uint_err {b : Option (List Int)} {e most : Int} (he : e ≠ 0) {n : Nat} (h : 2 ≤ n) : codec_Reader_Uint n ⟨true, b, e⟩ most = some (true, b, e, 0) := by
  obtain ⟨n, rfl⟩ : ∃ k, n = k + 1 := ⟨n - 1, by omega⟩
  unfold codec_Reader_Uint
  rw [at1_succ, ready_ok (by omega)]
  simp [show (e == 0) = false by simpa using he]
/-- A text, read. -/
def rdT (most : Nat) (l : List Int) : Option (List Int × List Int) :=
  match rdU 10 0 0 l with
  | some (k, rest) => if k ≤ most ∧ k ≤ rest.length then some (rest.take k, rest.drop k) else none
  | none => none
def TextR (x : Option (List Int × List Int)) (b' : Option (List Int)) (e' : Int) (v : ByteArray) : Prop :=
  match x with
  | some (t, rest) => sll b' = rest ∧ e' = 0 ∧ v = strOf t
  | none => e' ≠ 0 ∧ v = ByteArray.empty
theorem text_ok {b : Option (List Int)} {most : Nat} (hm : most < 1000000) (hb : Bytes (sll b)) {n : Nat} (h : 14 ≤ n) : ∃ b' e' v, codec_Reader_Text n ⟨true, b, 0⟩ (most : Int) = some (true, b', e', v) ∧ TextR (rdT most (sll b)) b' e' v := by
  obtain ⟨n, rfl⟩ : ∃ k, n = k + 1 := ⟨n - 1, by omega⟩
  unfold codec_Reader_Text
  rw [at1_succ, if_neg (by omega), wrapU (by omega) (by omega)]
  obtain ⟨b', e', v, h1, h2⟩ := uint_ok (most := (most : Int)) hb (n := n) (by omega)
  rw [h1]
  simp only [Option.bind_some]
  rw [ready_ok (by omega), Option.bind_some]
  unfold rdT
  cases hr : rdU 10 0 0 (sll b) with
  | none =>
    rw [hr] at h2
    obtain ⟨rfl, he, rfl⟩ := h2
    rw [show (e' == 0) = false by simpa using he]
    exact ⟨none, e', _, rfl, he, rfl⟩
  | some p =>
    rw [hr] at h2
    obtain ⟨k, rest⟩ := p
    unfold UintR at h2
    simp only at h2
    by_cases hk : (k : Int) ≤ most
    · rw [if_pos hk] at h2
      obtain ⟨h3, rfl, rfl⟩ := h2
      simp only [beq_self_eq_true, Bool.and_self, Bool.not_true, cond_false]
      rw [wrapI (by omega) (by omega)]
      by_cases hlen : k ≤ rest.length
      · rw [take_ok (by rw [h3]; exact hlen) (by omega)]
        simp only [Option.bind_some]
        rw [if_pos ⟨by omega, hlen⟩]
        refine ⟨_, _, _, rfl, ?_, rfl, ?_⟩
        · rw [sll_sub, h3, List.take_of_length_le (by simp)]
          simp
        · rw [sll_sub, h3]
          simp
      · rw [take_no (by rw [h3]; exact hlen) (by omega)]
        simp only [Option.bind_some]
        rw [if_neg (by omega)]
        exact ⟨_, _, _, rfl, by decide, rfl⟩
    · rw [if_neg hk] at h2
      obtain ⟨rfl, he, rfl⟩ := h2
      simp only [show (e' == 0) = false by simpa using he]
      rw [if_neg (by omega)]
      exact ⟨none, e', _, rfl, he, rfl⟩
theorem text_err {b : Option (List Int)} {e most : Int} (he : e ≠ 0) {n : Nat} (h : 3 ≤ n) : codec_Reader_Text n ⟨true, b, e⟩ most = some (true, b, e, ByteArray.empty) := by
  obtain ⟨n, rfl⟩ : ∃ k, n = k + 1 := ⟨n - 1, by omega⟩
  unfold codec_Reader_Text
  rw [at1_succ, uint_err he (by omega)]
  simp only [Option.bind_some]
  rw [ready_ok (by omega)]
  simp [show (e == 0) = false by simpa using he]
theorem left_ok {b : Option (List Int)} {n : Nat} (h : 2 ≤ n) : codec_Reader_Left n ⟨true, b, 0⟩ = some ((sll b).length : Int) := by
  obtain ⟨n, rfl⟩ : ∃ k, n = k + 1 := ⟨n - 1, by omega⟩
  unfold codec_Reader_Left
  rw [at1_succ, ready_ok (by omega)]
  rfl
theorem err_ok {b : Option (List Int)} {e : Int} {n : Nat} (h : 1 ≤ n) : codec_Reader_Err n ⟨true, b, e⟩ = some e := by
  obtain ⟨n, rfl⟩ : ∃ k, n = k + 1 := ⟨n - 1, by omega⟩
  rfl
theorem iOr0 {x : Int} (h0 : 0 ≤ x) (h1 : x < 256) : iOr .u64 (iShl .u64 0 8) (IntKind.wrap .u64 x) = x := by
  have e : iShl .u64 0 8 = 0 := by decide
  rw [e, wrapU h0 (by omega)]
  unfold iOr
  rw [BitVec.toNat_or]
  have e1 : (BitVec.ofInt IntKind.u64.bits 0).toNat = 0 := by decide
  have : (BitVec.ofInt IntKind.u64.bits x).toNat = x.toNat := by simp [IntKind.bits]; omega
  rw [e1, this, Nat.zero_or, wrapU (by omega) (by omega)]
  omega
/-- A byte, read. -/
def ByteR (l : List Int) (b' : Option (List Int)) (e' v : Int) : Prop :=
  match l with
  | c :: rest => sll b' = rest ∧ e' = 0 ∧ v = c
  | [] => e' ≠ 0
theorem byte_ok {b : Option (List Int)} (hb : Bytes (sll b)) {n : Nat} (h : 2000010 ≤ n) : ∃ b' e' v, codec_Reader_Byte n ⟨true, b, 0⟩ = some (b', e', v) ∧ ByteR (sll b) b' e' v := by
  obtain ⟨n, rfl⟩ : ∃ k, n = k + 2 := ⟨n - 2, by omega⟩
  unfold codec_Reader_Byte codec_Reader_Fixed
  simp only [at1_succ]
  rw [ready_ok (by omega)]
  simp only [Option.bind_some, beq_self_eq_true, Bool.and_self, Bool.not_true, cond_false]
  rw [show (if (8 : Int) < (if (0 : Int) > 1 then 0 else 1) then (8 : Int) else (if (0 : Int) > 1 then 0 else 1)) = ((1 : Nat) : Int) from rfl]
  cases hl : sll b with
  | nil =>
    rw [take_no (by rw [hl]; decide) (by omega)]
    simp only [Option.bind_some, withK]
    obtain ⟨m, rfl⟩ : ∃ j, n = j + 1 := ⟨n - 1, by omega⟩
    exact ⟨none, 21, _, by rw [codec_Reader_Fixed_l6]; rfl, by show (21 : Int) ≠ 0; decide⟩
  | cons c l =>
    have hc := hb c (by rw [hl]; simp)
    rw [take_ok (by rw [hl]; simp) (by omega)]
    simp only [Option.bind_some, withK]
    have h1 : sll (subSl b 0 ((1 : Nat) : Int)) = [c] := by rw [sll_sub, hl]; rfl
    obtain ⟨m, rfl⟩ : ∃ j, n = j + 2 := ⟨n - 2, by omega⟩
    rw [codec_Reader_Fixed_l6, h1, show decide ((0 : Int) < (([c] : List Int).length : Int)) = true by simp, cond_true, show idx [c] 0 = some c from rfl, Option.bind_some, iOr0 hc.1 hc.2]
    rw [show IntKind.wrap .i64 (0 + 1) = 1 by decide, codec_Reader_Fixed_l6, h1, show decide ((1 : Int) < (([c] : List Int).length : Int)) = false by simp, cond_false]
    refine ⟨_, _, _, rfl, ?_, rfl, wrapY hc.1 hc.2⟩
    rw [sll_sub, hl]; simp
theorem byte_err {b : Option (List Int)} {e : Int} (he : e ≠ 0) {n : Nat} (h : 3 ≤ n) : codec_Reader_Byte n ⟨true, b, e⟩ = some (b, e, 0) := by
  obtain ⟨n, rfl⟩ : ∃ k, n = k + 2 := ⟨n - 2, by omega⟩
  unfold codec_Reader_Byte codec_Reader_Fixed
  simp only [at1_succ]
  rw [ready_ok (by omega)]
  simp [show (e == 0) = false by simpa using he]
  decide

/-! ### Puts -/
theorem orByte (v : Int) : iOr .u8 (IntKind.wrap .u8 v) 128 = v % 128 + 128 := by
  unfold iOr
  have h : ∀ x : BitVec 8, (x ||| 128#8).toNat = x.toNat % 128 + 128 := by decide
  have e : (BitVec.ofInt IntKind.u8.bits (IntKind.u8.wrap v) ||| BitVec.ofInt IntKind.u8.bits 128).toNat = (BitVec.ofInt 8 (IntKind.u8.wrap v)).toNat % 128 + 128 := h _
  rw [e, BitVec.toNat_ofInt]
  simp [IntKind.wrap, IntKind.signed, IntKind.bits]
  omega
theorem shr7 (v : Int) : iShr .u64 v 7 = v / 128 := by
  unfold iShr
  rw [Int.fdiv_eq_ediv_of_nonneg _ (by decide)]
  rfl
theorem pow7 (m : Nat) : 2 ^ (7 * (m + 1)) = 128 * 2 ^ (7 * m) := by rw [show 7 * (m + 1) = 7 * m + 7 by omega, Nat.pow_add]; omega
theorem putUint_r_loop {n : Nat} {K : List Int → Int → Option (List Int)} (hK : ∀ (l : List Int) (v : Nat), v < 128 → l.length < 1000000000 → K l v = some (l ++ [(v : Int)])) : ∀ (v : Nat) (m : Nat) (l : List Int), v < 2 ^ (7 * (m + 1)) → l.length + m < 1000000000 → codec_PutUint_r_l1 n K (m + 1) l (v : Int) = some (l ++ ubytes v) := by
  intro v
  induction v using Nat.strongRecOn with
  | ind v ih =>
    intro m l hv hl
    rw [codec_PutUint_r_l1]
    by_cases h : v < 128
    · rw [show decide ((v : Int) ≥ 128) = false by simp; omega, cond_false, ubytes_lt h]
      exact hK l v (by omega) (by omega)
    · rw [show decide ((v : Int) ≥ 128) = true by simp; omega, cond_true, orByte, shr7]
      obtain ⟨m, rfl⟩ : ∃ j, m = j + 1 := by
        cases m with
        | zero => rw [pow7] at hv; omega
        | succ m => exact ⟨m, rfl⟩
      rw [ckA_ok (by decide) (by simp; omega), Option.bind_some]
      rw [show ((v : Int) / 128) = ((v / 128 : Nat) : Int) by omega, show ((v : Int) % 128 + 128) = ((v % 128 + 128 : Nat) : Int) by omega]
      rw [ih (v / 128) (by omega) m _ (by rw [pow7] at hv; omega) (by simp; omega), ubytes_ge h]
      simp
theorem ubytes_length : ∀ (v : Nat) (m : Nat), v < 2 ^ (7 * (m + 1)) → (ubytes v).length ≤ m + 1 := by
  intro v
  induction v using Nat.strongRecOn with
  | ind v ih =>
    intro m hv
    by_cases h : v < 128
    · rw [ubytes_lt h]; simp
    · rw [ubytes_ge h]
      obtain ⟨m, rfl⟩ : ∃ j, m = j + 1 := by
        cases m with
        | zero => rw [pow7] at hv; omega
        | succ m => exact ⟨m, rfl⟩
      have := ih (v / 128) (by omega) m (by rw [pow7] at hv; omega)
      simp; omega
theorem putUint_r_ok {l : List Int} {v : Nat} (hv : v < 2 ^ 64) (hl : l.length < 900000000) {n : Nat} (h : 20 ≤ n) (hn : n < 100000000) : codec_PutUint_r n l (v : Int) = some (l ++ ubytes v) := by
  obtain ⟨n, rfl⟩ : ∃ k, n = k + 2 := ⟨n - 2, by omega⟩
  unfold codec_PutUint_r
  rw [at1_succ]
  unfold withK
  have hp : 2 ^ 64 ≤ 2 ^ (7 * (n + 1)) := Nat.pow_le_pow_right (by omega) (by omega)
  exact putUint_r_loop (fun l v hv hl => by
    rw [wrapY (by omega) (by omega), ckA_ok (by decide) (by simp; omega), Option.bind_some]) v n l (by omega) (by omega)
theorem putUint_nil_ok {v : Nat} (hv : v < 2 ^ 64) {n : Nat} (h : 20 ≤ n) (hn : n < 100000000) : codec_PutUint_nil n (v : Int) = some (ubytes v) := by
  obtain ⟨n, rfl⟩ : ∃ k, n = k + 2 := ⟨n - 2, by omega⟩
  unfold codec_PutUint_nil
  rw [at1_succ]
  unfold withK
  have hp : 2 ^ 64 ≤ 2 ^ (7 * n) := Nat.pow_le_pow_right (by omega) (by omega)
  have key : ∀ (K : Option (List Int) → Int → Option (List Int)), (∀ (l : List Int) (v : Nat), v < 128 → l.length < 1000000000 → K (some l) v = some (l ++ [(v : Int)])) → ∀ (v : Nat) (m : Nat) (l : List Int), v < 2 ^ (7 * (m + 1)) → l.length + m < 1000000000 → codec_PutUint_nil_l1 (n + 1) K (m + 1) (some l) (v : Int) = some (l ++ ubytes v) := by
    intro K hK
    intro v
    induction v using Nat.strongRecOn with
    | ind v ih =>
      intro m l hv hl
      rw [codec_PutUint_nil_l1]
      by_cases h : v < 128
      · rw [show decide ((v : Int) ≥ 128) = false by simp; omega, cond_false, ubytes_lt h]
        exact hK l v (by omega) (by omega)
      · rw [show decide ((v : Int) ≥ 128) = true by simp; omega, cond_true, orByte, shr7]
        obtain ⟨m, rfl⟩ : ∃ j, m = j + 1 := by
          cases m with
          | zero => rw [pow7] at hv; omega
          | succ m => exact ⟨m, rfl⟩
        rw [ckA_ok (by decide) (by simp; omega), Option.bind_some]
        rw [show ((v : Int) / 128) = ((v / 128 : Nat) : Int) by omega, show ((v : Int) % 128 + 128) = ((v % 128 + 128 : Nat) : Int) by omega]
        rw [ih (v / 128) (by omega) m _ (by rw [pow7] at hv; omega) (by simp; omega), ubytes_ge h]
        simp
  show codec_PutUint_nil_l1 _ _ _ none _ = _
  rw [codec_PutUint_nil_l1]
  by_cases h : v < 128
  · rw [show decide ((v : Int) ≥ 128) = false by simp; omega, cond_false, ubytes_lt h]
    simp only
    rw [wrapY (by omega) (by omega), ckA_ok (by decide) (by simp), Option.bind_some]
  · rw [show decide ((v : Int) ≥ 128) = true by simp; omega, cond_true, orByte, shr7, ckA_ok (by decide) (by simp), Option.bind_some]
    rw [show ((v : Int) / 128) = ((v / 128 : Nat) : Int) by omega, show ((v : Int) % 128 + 128) = ((v % 128 + 128 : Nat) : Int) by omega]
    obtain ⟨n, rfl⟩ : ∃ j, n = j + 1 := ⟨n - 1, by omega⟩
    rw [key _ (fun l v hv hl => by
      simp only
      rw [wrapY (by omega) (by omega), ckA_ok (by decide) (by simp; omega), Option.bind_some]) (v / 128) n _ (by omega) (by simp; omega), ubytes_ge ‹¬ v < 128›]
    rfl
theorem isEmpty_bytes {s : ByteArray} : (bytesL s).isEmpty = true → bytesL s = [] := by
  intro h; simpa using h
/-- A text, put. -/
def putT (s : ByteArray) : List Int := ubytes s.size ++ bytesL s
theorem putText_r_ok {l : List Int} {s : ByteArray} (hs : s.size < 10000000) (hl : l.length < 800000000) {n : Nat} (h : 21 ≤ n) (hn : n < 100000000) : codec_PutText_r n l s = some (l ++ putT s) := by
  obtain ⟨n, rfl⟩ : ∃ k, n = k + 1 := ⟨n - 1, by omega⟩
  unfold codec_PutText_r
  rw [at1_succ, wrapU (by omega) (by omega), putUint_r_ok (by omega) (by omega) (by omega) (by omega), Option.bind_some]
  have := ubytes_length s.size 9 (by omega)
  have h2 := bytesL_length s
  unfold putT
  cases he : (bytesL s).isEmpty with
  | true => rw [cond_true, ckA_ok (by decide) (by simp; omega), Option.bind_some, isEmpty_bytes he]; simp
  | false => rw [cond_false, ckA_ok (by decide) (by simp; omega), Option.bind_some]; simp
theorem putT_length {s : ByteArray} (hs : s.size < 10000000) : (putT s).length ≤ s.size + 10 := by
  have := ubytes_length s.size 9 (by omega)
  have h2 := bytesL_length s
  unfold putT
  simp; omega
/-- What was put is read. -/
theorem rdT_put {s : ByteArray} {most : Nat} (hs : s.size ≤ most) (hm : most < 1000000) (rest : List Int) : rdT most (putT s ++ rest) = some (bytesL s, rest) := by
  unfold rdT putT
  rw [List.append_assoc, rdU_put (by omega)]
  simp only
  have h2 := bytesL_length s
  rw [if_pos ⟨hs, by simp; omega⟩, ← h2]
  simp
/-- What is read is what is put of it. -/
theorem rdT_inv {most : Nat} {l t rest : List Int} (hl : Bytes l) (h : rdT most l = some (t, rest)) : l = putT (strOf t) ++ rest ∧ Bytes t ∧ t.length ≤ most := by
  unfold rdT at h
  cases hr : rdU 10 0 0 l with
  | none => rw [hr] at h; cases h
  | some p =>
    obtain ⟨k, r⟩ := p
    rw [hr] at h
    simp only at h
    split at h
    · rename_i hk
      cases h
      obtain ⟨m, h1, h2, _⟩ := rdU_inv 10 0 0 l k r hl hr
      have h2 : k = m := by rw [h2]; simp
      subst h2
      have hb : Bytes (r.take k) := fun x hx => hl x (by rw [h1]; exact List.mem_append_right _ (List.mem_of_mem_take hx))
      refine ⟨?_, hb, by rw [List.length_take]; omega⟩
      unfold putT
      rw [strOf_size, bytesL_strOf hb, List.length_take, Nat.min_eq_left hk.2, List.append_assoc, List.take_append_drop]
      exact h1
    · cases h
end Go.Pl
