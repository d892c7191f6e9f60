import Derived.Test.YtjbhpopccbhhlaaHDV
set_option linter.unusedVariables false
set_option linter.unusedSimpArgs false
namespace Go.Pl
open Go Go.Ab
theorem sll_some {α : Type} (l : List α) : sll (some l) = l := rfl
theorem idx_app {α : Type} (p : List α) (x : α) (s : List α) : idx (p ++ x :: s) ((p.length : Nat) : Int) = some x := by
  rw [idx_nat]; simp
theorem ckA_ok {b n : Nat} (h : n ≤ 2000000) (hb : b ≤ 1000) : ckA b n = some () := by
  unfold ckA
  rw [if_pos]
  have := Nat.mul_le_mul h hb
  omega
/-! ### A list made out of a list, one by one -/
/-! ### Buckets -/
abbrev HB := hist_Bucket
abbrev T19 := tabularyref19_Bucket
abbrev WT (a : Option (List T19)) : Prop := wSl W_tabularyref19_Bucket a
abbrev WH (a : Option (List HB)) : Prop := wSl W_hist_Bucket a
def plainB (v : api_Value) : Bool := vRight v && (v.fKind != 0) && (!isZero v.fFloat || !signb v.fFloat)
theorem hist_plain_ok {v : api_Value} (hv : W_api_Value v) {n : Nat} (h : 4 ≤ n) : hist_plain n v = some (plainB v) := by
  obtain ⟨n, rfl⟩ : ∃ k, n = k + 1 := ⟨n - 1, by omega⟩
  unfold hist_plain plainB
  rw [at1_succ, value_Right_ok v (by omega), Option.bind_some, math_Signbit_ok _ (by omega), Option.bind_some]
  have : ((FloatKind.format .f64).order v.fFloat 0 != some .eq) = !isZero v.fFloat := rfl
  rw [this]
  cases vRight v <;> cases (v.fKind != 0) <;> cases isZero v.fFloat <;> cases signb v.fFloat <;> rfl
def sndB (b : HB) : Bool := plainB b.fLow && plainB b.fHigh && (b.fLow.fKind == b.fHigh.fKind) && (((((decide (vCmp b.fLow b.fHigh ≤ 0) && decide (b.fCount ≥ 1)) && decide (b.fCount ≤ 1000000)) && decide (b.fDistinct ≥ 1)) && decide (b.fDistinct ≤ b.fCount)) && ((vCmp b.fLow b.fHigh == 0) == (b.fDistinct == 1)))
theorem hist_sound_ok {b : HB} (hb : W_hist_Bucket b) {n : Nat} (h : 10 ≤ n) : hist_sound n b = some (sndB b) := by
  obtain ⟨n, rfl⟩ : ∃ k, n = k + 1 := ⟨n - 1, by omega⟩
  unfold hist_sound sndB
  rw [at1_succ, hist_plain_ok hb.1 (by omega), Option.bind_some, hist_plain_ok hb.2.1 (by omega), Option.bind_some, value_Cmp_ok hb.1 hb.2.1 (by omega), Option.bind_some]
  have : (b.fLow.fKind != b.fHigh.fKind) = !(b.fLow.fKind == b.fHigh.fKind) := rfl
  rw [this]
  cases plainB b.fLow <;> cases plainB b.fHigh <;> cases (b.fLow.fKind == b.fHigh.fKind) <;> rfl
/-- Does a bucket stand behind another one? -/
def adjB (p b : HB) : Bool := (p.fHigh.fKind == b.fLow.fKind) && decide (vCmp p.fHigh b.fLow < 0)
def chainP : Option HB → List HB → Bool
  | _, [] => true
  | none, b :: r => sndB b && chainP (some b) r
  | some q, b :: r => sndB b && (adjB q b && chainP (some b) r)
def rightH (h : List HB) : Bool := decide (h.length ≤ 50) && chainP none h
theorem sndB_kinds {b : HB} (h : sndB b = true) : b.fLow.fKind = b.fHigh.fKind := by
  unfold sndB at h
  simp only [Bool.and_eq_true, beq_iff_eq] at h
  exact h.1.2
theorem hist_Right_loop {n : Nat} (hn : 20 ≤ n) {a : Option (List HB)} (ha : WH a) : ∀ (l : List HB) (m : Nat) (p : List HB) (h0 : HB), sll a = p ++ l → (∀ q, p.getLast? = some q → (sll a)[0]? = some h0 ∧ q.fHigh.fKind = h0.fLow.fKind) → l.length < m →
    hist_Right_l4 n a (fun _ => some true) m (p.length : Int) = some (chainP p.getLast? l)
  | [], m, p, h0, he, hk, hm => by
    obtain ⟨m, rfl⟩ : ∃ j, m = j + 1 := ⟨m - 1, by omega⟩
    rw [List.append_nil] at he
    rw [hist_Right_l4, he, dF (by omega), cond_false]
    cases p.getLast? <;> rfl
  | b :: l, m, p, h0, he, hk, hm => by
    obtain ⟨m, rfl⟩ : ∃ j, m = j + 1 := ⟨m - 1, by omega⟩
    have hl : (sll a).length = p.length + (l.length + 1) := by rw [he]; simp
    have ha1 := ha.1
    have hb : W_hist_Bucket b := ha.2 b (by rw [he]; simp)
    rw [List.length_cons] at hm
    have hix : idx (sll a) (p.length : Int) = some b := by rw [he]; exact idx_app p b l
    have he' : sll a = (p ++ [b]) ++ l := by rw [he]; simp
    have hl' : (p ++ [b]).length = p.length + 1 := by simp
    have hg' : (p ++ [b]).getLast? = some b := by simp
    rw [hist_Right_l4, dT (by omega), cond_true, hix, Option.bind_some, hist_sound_ok hb (by omega), Option.bind_some]
    cases hp : p.getLast? with
    | none =>
      have hp0 : p = [] := by simpa using hp
      subst hp0
      rw [chainP]
      cases hs : sndB b with
      | false => rfl
      | true =>
        simp only [List.nil_append] at he he'
        rw [Bool.not_true, cond_false, Bool.true_and, dF (by simp), cond_false, wrapN (by simp)]
        have := hist_Right_loop hn ha l m [b] b (by rw [he]; rfl) (fun q hq => by
          simp at hq; subst hq
          exact ⟨by rw [he]; rfl, (sndB_kinds hs).symm⟩) (by omega)
        exact this
    | some q =>
      obtain ⟨k0, k1⟩ := hk q hp
      have hp1 : 0 < p.length := by
        rcases Nat.eq_zero_or_pos p.length with h | h
        · have : p = [] := List.eq_nil_of_length_eq_zero h
          subst this; simp at hp
        · exact h
      have hq : idx (sll a) ((p.length - 1 : Nat) : Int) = some q := by
        rw [idx_nat, he, List.getElem?_append_left (by omega), ← hp, List.getLast?_eq_getElem?]
      have hqW : W_hist_Bucket q := by
        rw [idx_nat] at hq
        exact ha.2 q (List.mem_of_getElem? hq)
      rw [chainP]
      cases hs : sndB b with
      | false => rfl
      | true =>
        have i0 : idx (sll a) 0 = some h0 := by
          have := idx_nat (sll a) 0
          rw [k0] at this
          exact this
        rw [Bool.not_true, cond_false, Bool.true_and, dT (by omega), cond_true, i0, Option.bind_some]
        have e1 : (b.fLow.fKind != h0.fLow.fKind) = !(q.fHigh.fKind == b.fLow.fKind) := by
          rw [k1]
          show (!(b.fLow.fKind == h0.fLow.fKind)) = _
          congr 1
          rw [Bool.eq_iff_iff, beq_iff_eq, beq_iff_eq]
          exact eq_comm
        unfold adjB
        rw [e1]
        cases hkd : (q.fHigh.fKind == b.fLow.fKind) with
        | false => rfl
        | true =>
          rw [Bool.not_true, cond_false, Bool.true_and, wv (v := p.length - 1) (by omega) (by omega), hq, Option.bind_some, value_Cmp_ok hqW.2.1 hb.1 (by omega), Option.bind_some]
          by_cases hc : vCmp q.fHigh b.fLow < 0
          · rw [dF (by omega : ¬ vCmp q.fHigh b.fLow ≥ 0), cond_false, dT hc, Bool.true_and, wrapN (by omega)]
            have hkk : q.fHigh.fKind = b.fLow.fKind := by simpa using hkd
            have := hist_Right_loop hn ha l m (p ++ [b]) h0 he' (fun q' hq' => by
              rw [hg'] at hq'; cases hq'
              exact ⟨k0, by rw [← sndB_kinds hs, ← hkk, k1]⟩) (by omega)
            rw [hl', hg'] at this
            exact this
          · rw [dT (by omega : vCmp q.fHigh b.fLow ≥ 0), cond_true, dF hc, Bool.false_and]
theorem hist_Right_ok {a : Option (List HB)} (ha : WH a) {n : Nat} (h : 2000010 ≤ n) : hist_Right n a = some (rightH (sll a)) := by
  obtain ⟨n, rfl⟩ : ∃ k, n = k + 1 := ⟨n - 1, by omega⟩
  have ha1 := ha.1
  unfold hist_Right rightH
  rw [at1_succ]
  by_cases hl : (sll a).length ≤ 50
  · rw [dF (by omega), cond_false, dT hl, Bool.true_and]
    exact hist_Right_loop (by omega) ha (sll a) n [] ⟨zeroV, zeroV, 0, 0⟩ rfl (fun q hq => by simp at hq) (by omega)
  · rw [dT (by omega), cond_true, dF hl, Bool.false_and]
end Go.Pl

set_option linter.unusedVariables false
set_option linter.unusedSimpArgs false
namespace Go.Pl
open Go Go.Ab
/-! ### What is known of a bucket, of all -/
structure Snd (b : HB) : Prop where
  pl : plainB b.fLow = true
  ph : plainB b.fHigh = true
  kd : b.fLow.fKind = b.fHigh.fKind
  le : vCmp b.fLow b.fHigh ≤ 0
  c1 : 1 ≤ b.fCount
  c2 : b.fCount ≤ 1000000
  d1 : 1 ≤ b.fDistinct
  d2 : b.fDistinct ≤ b.fCount
  one : vCmp b.fLow b.fHigh = 0 ↔ b.fDistinct = 1
theorem snd_of {b : HB} (h : sndB b = true) : Snd b := by
  unfold sndB at h
  simp only [Bool.and_eq_true, beq_iff_eq, decide_eq_true_eq] at h
  obtain ⟨⟨⟨h1, h2⟩, h3⟩, ⟨⟨⟨⟨h4, h5⟩, h6⟩, h7⟩, h8⟩, h9⟩ := h
  refine ⟨h1, h2, h3, h4, h5, h6, h7, h8, ?_⟩
  rw [Bool.eq_iff_iff, beq_iff_eq, beq_iff_eq] at h9
  exact h9
theorem chain_all : ∀ {h : List HB} {o : Option HB}, chainP o h = true → ∀ b, b ∈ h → Snd b
  | [], _, _, b, hb => by cases hb
  | x :: h, o, hc, b, hb => by
    have : sndB x = true ∧ chainP (some x) h = true := by
      cases o with
      | none => rw [chainP, Bool.and_eq_true] at hc; exact hc
      | some q => rw [chainP, Bool.and_eq_true, Bool.and_eq_true] at hc; exact ⟨hc.1, hc.2.2⟩
    rcases List.mem_cons.1 hb with rfl | hb
    · exact snd_of this.1
    · exact chain_all this.2 b hb
theorem chain_next {x : HB} {h : List HB} {o : Option HB} (hc : chainP o (x :: h) = true) : chainP (some x) h = true := by
  cases o with
  | none => rw [chainP, Bool.and_eq_true] at hc; exact hc.2
  | some q => rw [chainP, Bool.and_eq_true, Bool.and_eq_true] at hc; exact hc.2.2
/-- All that stands behind one is greater, and of its kind. -/
theorem chain_behind : ∀ {h : List HB} {q : HB}, chainP (some q) h = true → ∀ b, b ∈ h → vCmp q.fHigh b.fLow < 0 ∧ b.fLow.fKind = q.fHigh.fKind
  | [], _, _, b, hb => by cases hb
  | x :: h, q, hc, b, hb => by
    have hx : Snd x := chain_all hc x (by simp)
    have hn := chain_next hc
    rw [chainP, Bool.and_eq_true, Bool.and_eq_true] at hc
    have ha := hc.2.1
    unfold adjB at ha
    rw [Bool.and_eq_true, beq_iff_eq, decide_eq_true_eq] at ha
    rcases List.mem_cons.1 hb with rfl | hb
    · exact ⟨ha.2, ha.1.symm⟩
    · obtain ⟨h1, h2⟩ := chain_behind hn b hb
      have t1 := vCmp_ord.trans x.fLow x.fHigh b.fLow hx.le (by omega)
      have t2 := vCmp_ord.trans q.fHigh x.fLow b.fLow (by omega) t1
      refine ⟨?_, by rw [h2, ← hx.kd, ha.1]⟩
      rcases Int.lt_or_le (vCmp q.fHigh b.fLow) 0 with g | g
      · exact g
      · have e : vCmp q.fHigh b.fLow = 0 := by omega
        have l := vCmp_ord.left (z := x.fLow) e
        have a1 := vCmp_ord.anti x.fLow b.fLow
        have a2 := vCmp_ord.left (x := x.fLow) (y := b.fLow) (z := b.fLow)
        have a3 := vCmp_ord.anti x.fHigh b.fLow
        have t3 := vCmp_ord.trans b.fLow x.fLow x.fHigh (by omega) hx.le
        omega
def sumC : List HB → Int
  | [] => 0
  | b :: h => b.fCount + sumC h
def totH (h : List HB) : Int := if rightH h = true then sumC h else 0
theorem right_len {h : List HB} (hr : rightH h = true) : h.length ≤ 50 ∧ chainP none h = true := by
  unfold rightH at hr
  rw [Bool.and_eq_true, decide_eq_true_eq] at hr
  exact hr
theorem total_loop {n : Nat} {a : Option (List HB)} : ∀ (l : List HB) (m : Nat) (p : List HB) (s : Int), sll a = p ++ l → (sll a).length ≤ 50 → (∀ b, b ∈ l → Snd b) → 0 ≤ s → s + 1000000 * l.length ≤ 100000000 → l.length < m →
    hist_Total_l4 n a (fun y => some y) m (p.length : Int) s = some (s + sumC l)
  | [], m, p, s, he, hl, _, _, _, hm => by
    obtain ⟨m, rfl⟩ : ∃ j, m = j + 1 := ⟨m - 1, by omega⟩
    rw [List.append_nil] at he
    rw [hist_Total_l4, he, dF (by omega), cond_false]
    simp [sumC]
  | b :: l, m, p, s, he, hl, hs, h0, hb, hm => by
    obtain ⟨m, rfl⟩ : ∃ j, m = j + 1 := ⟨m - 1, by omega⟩
    have hlen : (sll a).length = p.length + (l.length + 1) := by rw [he]; simp
    rw [List.length_cons] at hm hb
    have hsb := hs b (by simp)
    have := hsb.c1; have := hsb.c2
    have hix : idx (sll a) (p.length : Int) = some b := by rw [he]; exact idx_app p b l
    rw [hist_Total_l4, dT (by omega), cond_true, hix, Option.bind_some, wrapN (by omega), wrapI (x := s + b.fCount) (by omega) (by omega)]
    have := total_loop (n := n) l m (p ++ [b]) (s + b.fCount) (by rw [he]; simp) hl (fun c hc => hs c (by simp [hc])) (by omega) (by omega) (by omega)
    rw [show (p ++ [b]).length = p.length + 1 by simp] at this
    rw [this, sumC]
    congr 1
    omega
theorem hist_Total_ok {a : Option (List HB)} (ha : WH a) {n : Nat} (h : 2000020 ≤ n) : hist_Total n a = some (totH (sll a)) := by
  obtain ⟨n, rfl⟩ : ∃ k, n = k + 1 := ⟨n - 1, by omega⟩
  unfold hist_Total totH
  simp only [at1_succ, withK]
  rw [hist_Right_ok ha (by omega), Option.bind_some]
  cases hr : rightH (sll a) with
  | false => rfl
  | true =>
    obtain ⟨h1, h2⟩ := right_len hr
    have := total_loop (n := n) (sll a) n [] 0 rfl h1 (chain_all h2) (by omega) (by omega) (by omega)
    rw [cond_true, if_pos rfl]
    rw [Int.zero_add] at this
    exact this
/-! ### Where a value is -/
def loc (v : api_Value) : List HB → Int → Option HB × Int
  | [], ah => (none, ah)
  | b :: r, ah => if vCmp v b.fLow < 0 then (none, ah) else if vCmp v b.fHigh ≤ 0 then (some b, ah) else loc v r (ah + b.fCount)
def askV (v : api_Value) : Bool := vRight v && (v.fKind != 0)
def askH (h : List HB) (v : api_Value) : Bool := rightH h && askV v
theorem loc_mem {v : api_Value} : ∀ {h : List HB} {ah : Int} {b : HB} {k : Int}, loc v h ah = (some b, k) → b ∈ h ∧ vCmp b.fLow v ≤ 0 ∧ vCmp v b.fHigh ≤ 0
  | [], ah, b, k, e => by simp [loc] at e
  | x :: h, ah, b, k, e => by
    rw [loc] at e
    have an := vCmp_ord.anti v x.fLow
    split at e
    · simp at e
    · split at e
      · simp only [Prod.mk.injEq, Option.some.injEq] at e
        obtain ⟨rfl, rfl⟩ := e
        exact ⟨by simp, by omega, by assumption⟩
      · obtain ⟨h1, h2⟩ := loc_mem e
        exact ⟨by simp [h1], h2⟩
theorem find_loop {n : Nat} (hn : 20 ≤ n) {a : Option (List HB)} (ha : WH a) {v : api_Value} (hv : W_api_Value v) : ∀ (l : List HB) (m : Nat) (p : List HB) (s : Int), sll a = p ++ l → (sll a).length ≤ 50 → (∀ b, b ∈ l → Snd b) → 0 ≤ s → s + 1000000 * l.length ≤ 100000000 → l.length < m →
    ∃ i t, hist_find_l4 n a v (fun y => some (0, y, false)) m (p.length : Int) s = some (i, (loc v l s).2, t) ∧ ((t = false ∧ (loc v l s).1 = none) ∨ (t = true ∧ ∃ b, (loc v l s).1 = some b ∧ idx (sll a) i = some b))
  | [], m, p, s, he, hl, _, _, _, hm => by
    obtain ⟨m, rfl⟩ : ∃ j, m = j + 1 := ⟨m - 1, by omega⟩
    rw [List.append_nil] at he
    rw [hist_find_l4, he, dF (by omega), cond_false]
    exact ⟨_, _, rfl, .inl ⟨rfl, rfl⟩⟩
  | b :: l, m, p, s, he, hl, hs, h0, hb, hm => by
    obtain ⟨m, rfl⟩ : ∃ j, m = j + 1 := ⟨m - 1, by omega⟩
    have hlen : (sll a).length = p.length + (l.length + 1) := by rw [he]; simp
    rw [List.length_cons] at hm hb
    have hsb := hs b (by simp)
    have := hsb.c1; have := hsb.c2
    have hix : idx (sll a) (p.length : Int) = some b := by rw [he]; exact idx_app p b l
    have hW := ha.2 b (by rw [he]; simp)
    rw [hist_find_l4, dT (by omega), cond_true, hix, Option.bind_some, value_Cmp_ok hv hW.1 (by omega), Option.bind_some, value_Cmp_ok hv hW.2.1 (by omega), loc]
    by_cases h1 : vCmp v b.fLow < 0
    · rw [dT h1, cond_true, if_pos h1]
      exact ⟨_, _, rfl, .inl ⟨rfl, rfl⟩⟩
    · rw [dF h1, cond_false, if_neg h1, Option.bind_some]
      by_cases h2 : vCmp v b.fHigh ≤ 0
      · rw [dT h2, cond_true, if_pos h2]
        exact ⟨_, _, rfl, .inr ⟨rfl, b, rfl, hix⟩⟩
      · rw [dF h2, cond_false, if_neg h2, wrapN (by omega), wrapI (x := s + b.fCount) (by omega) (by omega)]
        have := find_loop hn ha hv l m (p ++ [b]) (s + b.fCount) (by rw [he]; simp) hl (fun c hc => hs c (by simp [hc])) (by omega) (by omega) (by omega)
        rw [show (p ++ [b]).length = p.length + 1 by simp] at this
        exact this
theorem hist_find_ok {a : Option (List HB)} (ha : WH a) {v : api_Value} (hv : W_api_Value v) {n : Nat} (h : 2000020 ≤ n) :
    (askH (sll a) v = false ∧ hist_find n a v = some (0, 0, false)) ∨ (askH (sll a) v = true ∧ ∃ i t, hist_find n a v = some (i, (loc v (sll a) 0).2, t) ∧ ((t = false ∧ (loc v (sll a) 0).1 = none) ∨ (t = true ∧ ∃ b, (loc v (sll a) 0).1 = some b ∧ idx (sll a) i = some b))) := by
  obtain ⟨n, rfl⟩ : ∃ k, n = k + 1 := ⟨n - 1, by omega⟩
  unfold hist_find askH askV
  simp only [at1_succ, withK]
  rw [hist_Right_ok ha (by omega), Option.bind_some]
  cases hr : rightH (sll a) with
  | false => exact .inl ⟨rfl, rfl⟩
  | true =>
    rw [Bool.not_true, cond_false, value_Right_ok v (by omega), Option.bind_some, Bool.true_and]
    cases hv1 : vRight v with
    | false => exact .inl ⟨rfl, rfl⟩
    | true =>
      rw [Bool.not_true, Bool.false_or, Bool.true_and]
      cases hk : v.fKind == 0 with
      | true => exact .inl ⟨by show (!(v.fKind == 0)) = false; rw [hk]; rfl, rfl⟩
      | false =>
        obtain ⟨h1, h2⟩ := right_len hr
        refine .inr ⟨by show (!(v.fKind == 0)) = true; rw [hk]; rfl, ?_⟩
        exact find_loop (n := n) (by omega) ha hv (sll a) n [] 0 rfl h1 (chain_all h2) (by omega) (by omega) (by omega)
def eachB (b : HB) : Int := Int.tdiv b.fCount b.fDistinct
theorem each_range {b : HB} (h : Snd b) : 1 ≤ eachB b ∧ eachB b ≤ b.fCount := by
  unfold eachB
  have h1 := h.c1; have h2 := h.d1; have h3 := h.d2
  rw [Int.tdiv_eq_ediv_of_nonneg (by omega)]
  constructor
  · exact Int.le_ediv_of_mul_le (by omega) (by omega)
  · exact Int.ediv_le_self _ (by omega)
theorem hist_each_ok {b : HB} (h : Snd b) {n : Nat} (hn : 1 ≤ n) : hist_each n b = some (eachB b) := by
  obtain ⟨n, rfl⟩ : ∃ k, n = k + 1 := ⟨n - 1, by omega⟩
  have h1 := h.c2; have h2 := h.d1
  have hr := each_range h
  unfold hist_each
  have hz : ckZ b.fDistinct = some () := by unfold ckZ; rw [if_neg (by omega)]
  rw [at1_succ, hz, Option.bind_some]
  congr 1
  exact wrapI (by show _ ≤ eachB b; omega) (by show eachB b < _; omega)
def equalH (h : List HB) (v : api_Value) : Int := if askH h v = true then (match (loc v h 0).1 with | none => 0 | some b => eachB b) else 0
theorem ask_all {h : List HB} {v : api_Value} (ha : askH h v = true) : rightH h = true ∧ vRight v = true ∧ v.fKind ≠ 0 := by
  unfold askH askV at ha
  simp only [Bool.and_eq_true, bne_iff_ne] at ha
  exact ha
theorem hist_Equal_ok {a : Option (List HB)} (ha : WH a) {v : api_Value} (hv : W_api_Value v) {n : Nat} (h : 2000030 ≤ n) : hist_Equal n a v = some (equalH (sll a) v) := by
  obtain ⟨n, rfl⟩ : ∃ k, n = k + 1 := ⟨n - 1, by omega⟩
  unfold hist_Equal equalH
  rw [at1_succ]
  rcases hist_find_ok ha hv (n := n) (by omega) with ⟨h1, h2⟩ | ⟨h1, i, t, h2, h3⟩
  · rw [h2, h1]; rfl
  · rw [h2, h1, if_pos rfl, Option.bind_some]
    rcases h3 with ⟨rfl, h3⟩ | ⟨rfl, b, h3, h4⟩
    · rw [h3]; rfl
    · simp only [Bool.not_true, cond_false]
      have hb := loc_mem (v := v) (h := sll a) (ah := 0) (b := b) (k := (loc v (sll a) 0).2) (by rw [← h3])
      have hs := chain_all (right_len (ask_all h1).1).2 b hb.1
      rw [h4, Option.bind_some, hist_each_ok hs (by omega), Option.bind_some, h3]
/-- The document's way: the first whose bounds hold it. -/
def eqL (v : api_Value) : List HB → Option HB
  | [] => none
  | b :: r => if vCmp b.fLow v ≤ 0 ∧ vCmp v b.fHigh ≤ 0 then some b else eqL v r
theorem eqL_none {v : api_Value} : ∀ {l : List HB}, (∀ b, b ∈ l → ¬ (vCmp b.fLow v ≤ 0)) → eqL v l = none
  | [], _ => rfl
  | b :: l, h => by
    rw [eqL, if_neg fun c => h b (by simp) c.1]
    exact eqL_none fun c hc => h c (by simp [hc])
theorem eqL_loc {v : api_Value} : ∀ {l : List HB} {o : Option HB} {ah : Int}, chainP o l = true → eqL v l = (loc v l ah).1
  | [], _, _, _ => rfl
  | b :: l, o, ah, hc => by
    have hb := chain_all hc b (by simp)
    have hn := chain_next hc
    have an := vCmp_ord.anti v b.fLow
    rw [eqL, loc]
    by_cases h1 : vCmp v b.fLow < 0
    · rw [if_pos h1, if_neg (by omega)]
      refine eqL_none fun c hcl => ?_
      obtain ⟨g1, g2⟩ := chain_behind hn c hcl
      intro g
      have t1 := vCmp_ord.trans c.fLow v b.fLow g (by omega)
      have t2 := vCmp_ord.trans c.fLow b.fLow b.fHigh t1 hb.le
      have a2 := vCmp_ord.anti c.fLow b.fHigh
      omega
    · rw [if_neg h1]
      by_cases h2 : vCmp v b.fHigh ≤ 0
      · rw [if_pos h2, if_pos ⟨by omega, h2⟩]
      · rw [if_neg h2, if_neg (by omega)]
        exact eqL_loc hn
end Go.Pl

set_option linter.unusedVariables false
set_option linter.unusedSimpArgs false
set_option maxRecDepth 100000
namespace Go.Pl
open Go Go.Ab
/-! ### Shares -/
/-! ### Within a bucket -/
/-- Between a bucket's bounds. -/
structure Mid (b : HB) (v : api_Value) : Prop where
  s : Snd b
  rv : vRight v = true
  lo : vCmp b.fLow v < 0
  hi : vCmp v b.fHigh < 0
theorem kind_plain {v : api_Value} (h : vRight v = true) : (vPlain v).fKind = v.fKind := by
  unfold vPlain
  rw [h]
  simp only [Bool.not_true, cond_false]
  cases hk : v.fKind == 3 with
  | false => rfl
  | true =>
    have : v.fKind = 3 := by simpa using hk
    cases isZero v.fFloat with
    | true => exact this.symm
    | false => rfl
theorem works19_ok : law19_works 3999999 = some true := rfl
end Go.Pl

