import Derived.Test.YtjbhpopccbhhlaaHDV
set_option linter.unusedVariables false
set_option linter.unusedSimpArgs false
namespace Go.Pl
open Go Go.Ab
theorem sll_some {α : Type} (l : List α) : sll (some l) = l := rfl
theorem idx_app {α : Type} (p : List α) (x : α) (s : List α) : idx (p ++ x :: s) ((p.length : Nat) : Int) = some x := by
  rw [idx_nat]; simp
theorem ckA_ok {b n : Nat} (h : n ≤ 2000000) (hb : b ≤ 1000) : ckA b n = some () := by
  unfold ckA
  rw [if_pos]
  have := Nat.mul_le_mul h hb
  omega
/-! ### A list made out of a list, one by one -/
theorem map_loop {α β R : Type} {f : α → β} {n : Nat} {l3 : Nat → Option (List β) → Int → Option R} {l : List α} {K : Option (List β) → Option R} {b : Nat} (hb : b ≤ 1000) (hl : l.length ≤ 1048576) (hn : 2000000 ≤ n)
    (hF : ∀ (m i : Nat) (s : Option (List β)), l3 (m + 1) s (i : Int) = bif decide ((i : Int) < (l.length : Int)) then (idx l (i : Int)).bind fun x => (ckA b (sll s ++ [f x]).length).bind fun _ => l3 m (some (sll s ++ [f x])) (IntKind.wrap .i64 ((i : Int) + 1)) else K s) :
    l3 n none 0 = K (if l = [] then none else some (l.map f)) := by
  have e0 : l3 n none 0 = rangeS (fun (x : α) i (s : Option (List β)) rec => (ckA b (sll s ++ [f x]).length).bind fun _ => rec (some (sll s ++ [f x]))) K l 0 none :=
    loop_range0 (l := l) (by omega) (F := fun m (s : Option (List β)) i => l3 m s i) (fun m i s _ => hF m i s) hn none
  have hgen : ∀ (l : List α) (i : Nat) (s : Option (List β)), (sll s).length + l.length ≤ 1048576 → rangeS (fun (x : α) i (s : Option (List β)) rec => (ckA b (sll s ++ [f x]).length).bind fun _ => rec (some (sll s ++ [f x]))) K l i s = K (if l = [] then s else some (sll s ++ l.map f)) := by
    intro l
    induction l with
    | nil => intro i s _; rw [if_pos rfl]; rfl
    | cons x l ih =>
      intro i s hs
      simp only [List.length_cons] at hs
      simp only [rangeS]
      rw [ckA_ok (by simp; omega) hb, Option.bind_some, ih (i + 1) _ (by simp only [sll_some, List.length_append, List.length_singleton]; omega), if_neg (List.cons_ne_nil x l)]
      by_cases hl : l = []
      · subst hl; rw [if_pos rfl]; rfl
      · rw [if_neg hl, sll_some, List.append_assoc]; rfl
  rw [e0, hgen l 0 none (by show 0 + l.length ≤ 1048576; omega)]
  rfl
def mapO {α β : Type} (f : α → β) (l : List α) : Option (List β) := if l = [] then none else some (l.map f)
theorem sll_mapO {α β : Type} (f : α → β) (l : List α) : sll (mapO f l) = l.map f := by
  unfold mapO; split
  · rename_i h; subst h; rfl
  · rfl
/-! ### Buckets -/
abbrev HB := hist_Bucket
abbrev T19 := tabularyref19_Bucket
def gv (b : T19) : HB := ⟨b.fLow, b.fHigh, b.fCount, b.fDistinct⟩
abbrev WT (a : Option (List T19)) : Prop := wSl W_tabularyref19_Bucket a
abbrev WH (a : Option (List HB)) : Prop := wSl W_hist_Bucket a
theorem gv_W {b : T19} (h : W_tabularyref19_Bucket b) : W_hist_Bucket (gv b) := h
theorem given_ok {a : Option (List T19)} (ha : WT a) {n : Nat} (h : 2000010 ≤ n) : law19_Given n a = some (mapO gv (sll a)) := by
  obtain ⟨n, rfl⟩ : ∃ k, n = k + 1 := ⟨n - 1, by omega⟩
  unfold law19_Given
  simp only [at1_succ, withK]
  rw [map_loop (f := gv) (l := sll a) (l3 := fun m s i => law19_Given_l3 n a _ m s i) (b := 96) (by omega) ha.1 (by omega) (fun m i s => by cases s <;> rfl)]
  cases h : sll a with
  | nil => rfl
  | cons x l => rfl
theorem given_W {a : Option (List T19)} (ha : WT a) : WH (mapO gv (sll a)) := by
  refine ⟨by rw [sll_mapO, List.length_map]; exact ha.1, fun x hx => ?_⟩
  rw [sll_mapO, List.mem_map] at hx
  obtain ⟨b, hb, rfl⟩ := hx
  exact gv_W (ha.2 b hb)
def plainB (v : api_Value) : Bool := vRight v && (v.fKind != 0) && (!isZero v.fFloat || !signb v.fFloat)
theorem hist_plain_ok {v : api_Value} (hv : W_api_Value v) {n : Nat} (h : 4 ≤ n) : hist_plain n v = some (plainB v) := by
  obtain ⟨n, rfl⟩ : ∃ k, n = k + 1 := ⟨n - 1, by omega⟩
  unfold hist_plain plainB
  rw [at1_succ, value_Right_ok v (by omega), Option.bind_some, math_Signbit_ok _ (by omega), Option.bind_some]
  have : ((FloatKind.format .f64).order v.fFloat 0 != some .eq) = !isZero v.fFloat := rfl
  rw [this]
  cases vRight v <;> cases (v.fKind != 0) <;> cases isZero v.fFloat <;> cases signb v.fFloat <;> rfl
def sndB (b : HB) : Bool := plainB b.fLow && plainB b.fHigh && (b.fLow.fKind == b.fHigh.fKind) && (((((decide (vCmp b.fLow b.fHigh ≤ 0) && decide (b.fCount ≥ 1)) && decide (b.fCount ≤ 1000000)) && decide (b.fDistinct ≥ 1)) && decide (b.fDistinct ≤ b.fCount)) && ((vCmp b.fLow b.fHigh == 0) == (b.fDistinct == 1)))
theorem hist_sound_ok {b : HB} (hb : W_hist_Bucket b) {n : Nat} (h : 10 ≤ n) : hist_sound n b = some (sndB b) := by
  obtain ⟨n, rfl⟩ : ∃ k, n = k + 1 := ⟨n - 1, by omega⟩
  unfold hist_sound sndB
  rw [at1_succ, hist_plain_ok hb.1 (by omega), Option.bind_some, hist_plain_ok hb.2.1 (by omega), Option.bind_some, value_Cmp_ok hb.1 hb.2.1 (by omega), Option.bind_some]
  have : (b.fLow.fKind != b.fHigh.fKind) = !(b.fLow.fKind == b.fHigh.fKind) := rfl
  rw [this]
  cases plainB b.fLow <;> cases plainB b.fHigh <;> cases (b.fLow.fKind == b.fHigh.fKind) <;> rfl
/-- Does a bucket stand behind another one? -/
def adjB (p b : HB) : Bool := (p.fHigh.fKind == b.fLow.fKind) && decide (vCmp p.fHigh b.fLow < 0)
def chainP : Option HB → List HB → Bool
  | _, [] => true
  | none, b :: r => sndB b && chainP (some b) r
  | some q, b :: r => sndB b && (adjB q b && chainP (some b) r)
def rightH (h : List HB) : Bool := decide (h.length ≤ 50) && chainP none h
theorem sndB_kinds {b : HB} (h : sndB b = true) : b.fLow.fKind = b.fHigh.fKind := by
  unfold sndB at h
  simp only [Bool.and_eq_true, beq_iff_eq] at h
  exact h.1.2
theorem hist_Right_loop {n : Nat} (hn : 20 ≤ n) {a : Option (List HB)} (ha : WH a) : ∀ (l : List HB) (m : Nat) (p : List HB) (h0 : HB), sll a = p ++ l → (∀ q, p.getLast? = some q → (sll a)[0]? = some h0 ∧ q.fHigh.fKind = h0.fLow.fKind) → l.length < m →
    hist_Right_l4 n a (fun _ => some true) m (p.length : Int) = some (chainP p.getLast? l)
  | [], m, p, h0, he, hk, hm => by
    obtain ⟨m, rfl⟩ : ∃ j, m = j + 1 := ⟨m - 1, by omega⟩
    rw [List.append_nil] at he
    rw [hist_Right_l4, he, dF (by omega), cond_false]
    cases p.getLast? <;> rfl
  | b :: l, m, p, h0, he, hk, hm => by
    obtain ⟨m, rfl⟩ : ∃ j, m = j + 1 := ⟨m - 1, by omega⟩
    have hl : (sll a).length = p.length + (l.length + 1) := by rw [he]; simp
    have ha1 := ha.1
    have hb : W_hist_Bucket b := ha.2 b (by rw [he]; simp)
    rw [List.length_cons] at hm
    have hix : idx (sll a) (p.length : Int) = some b := by rw [he]; exact idx_app p b l
    have he' : sll a = (p ++ [b]) ++ l := by rw [he]; simp
    have hl' : (p ++ [b]).length = p.length + 1 := by simp
    have hg' : (p ++ [b]).getLast? = some b := by simp
    rw [hist_Right_l4, dT (by omega), cond_true, hix, Option.bind_some, hist_sound_ok hb (by omega), Option.bind_some]
    cases hp : p.getLast? with
    | none =>
      have hp0 : p = [] := by simpa using hp
      subst hp0
      rw [chainP]
      cases hs : sndB b with
      | false => rfl
      | true =>
        simp only [List.nil_append] at he he'
        rw [Bool.not_true, cond_false, Bool.true_and, dF (by simp), cond_false, wrapN (by simp)]
        have := hist_Right_loop hn ha l m [b] b (by rw [he]; rfl) (fun q hq => by
          simp at hq; subst hq
          exact ⟨by rw [he]; rfl, (sndB_kinds hs).symm⟩) (by omega)
        exact this
    | some q =>
      obtain ⟨k0, k1⟩ := hk q hp
      have hp1 : 0 < p.length := by
        rcases Nat.eq_zero_or_pos p.length with h | h
        · have : p = [] := List.eq_nil_of_length_eq_zero h
          subst this; simp at hp
        · exact h
      have hq : idx (sll a) ((p.length - 1 : Nat) : Int) = some q := by
        rw [idx_nat, he, List.getElem?_append_left (by omega), ← hp, List.getLast?_eq_getElem?]
      have hqW : W_hist_Bucket q := by
        rw [idx_nat] at hq
        exact ha.2 q (List.mem_of_getElem? hq)
      rw [chainP]
      cases hs : sndB b with
      | false => rfl
      | true =>
        have i0 : idx (sll a) 0 = some h0 := by
          have := idx_nat (sll a) 0
          rw [k0] at this
          exact this
        rw [Bool.not_true, cond_false, Bool.true_and, dT (by omega), cond_true, i0, Option.bind_some]
        have e1 : (b.fLow.fKind != h0.fLow.fKind) = !(q.fHigh.fKind == b.fLow.fKind) := by
          rw [k1]
          show (!(b.fLow.fKind == h0.fLow.fKind)) = _
          congr 1
          rw [Bool.eq_iff_iff, beq_iff_eq, beq_iff_eq]
          exact eq_comm
        unfold adjB
        rw [e1]
        cases hkd : (q.fHigh.fKind == b.fLow.fKind) with
        | false => rfl
        | true =>
          rw [Bool.not_true, cond_false, Bool.true_and, wv (v := p.length - 1) (by omega) (by omega), hq, Option.bind_some, value_Cmp_ok hqW.2.1 hb.1 (by omega), Option.bind_some]
          by_cases hc : vCmp q.fHigh b.fLow < 0
          · rw [dF (by omega : ¬ vCmp q.fHigh b.fLow ≥ 0), cond_false, dT hc, Bool.true_and, wrapN (by omega)]
            have hkk : q.fHigh.fKind = b.fLow.fKind := by simpa using hkd
            have := hist_Right_loop hn ha l m (p ++ [b]) h0 he' (fun q' hq' => by
              rw [hg'] at hq'; cases hq'
              exact ⟨k0, by rw [← sndB_kinds hs, ← hkk, k1]⟩) (by omega)
            rw [hl', hg'] at this
            exact this
          · rw [dT (by omega : vCmp q.fHigh b.fLow ≥ 0), cond_true, dF hc, Bool.false_and]
theorem hist_Right_ok {a : Option (List HB)} (ha : WH a) {n : Nat} (h : 2000010 ≤ n) : hist_Right n a = some (rightH (sll a)) := by
  obtain ⟨n, rfl⟩ : ∃ k, n = k + 1 := ⟨n - 1, by omega⟩
  have ha1 := ha.1
  unfold hist_Right rightH
  rw [at1_succ]
  by_cases hl : (sll a).length ≤ 50
  · rw [dF (by omega), cond_false, dT hl, Bool.true_and]
    exact hist_Right_loop (by omega) ha (sll a) n [] ⟨zeroV, zeroV, 0, 0⟩ rfl (fun q hq => by simp at hq) (by omega)
  · rw [dT (by omega), cond_true, dF hl, Bool.false_and]
end Go.Pl

set_option linter.unusedVariables false
set_option linter.unusedSimpArgs false
namespace Go.Pl
open Go Go.Ab
/-! ### What is known of a bucket, of all -/
structure Snd (b : HB) : Prop where
  pl : plainB b.fLow = true
  ph : plainB b.fHigh = true
  kd : b.fLow.fKind = b.fHigh.fKind
  le : vCmp b.fLow b.fHigh ≤ 0
  c1 : 1 ≤ b.fCount
  c2 : b.fCount ≤ 1000000
  d1 : 1 ≤ b.fDistinct
  d2 : b.fDistinct ≤ b.fCount
  one : vCmp b.fLow b.fHigh = 0 ↔ b.fDistinct = 1
theorem snd_of {b : HB} (h : sndB b = true) : Snd b := by
  unfold sndB at h
  simp only [Bool.and_eq_true, beq_iff_eq, decide_eq_true_eq] at h
  obtain ⟨⟨⟨h1, h2⟩, h3⟩, ⟨⟨⟨⟨h4, h5⟩, h6⟩, h7⟩, h8⟩, h9⟩ := h
  refine ⟨h1, h2, h3, h4, h5, h6, h7, h8, ?_⟩
  rw [Bool.eq_iff_iff, beq_iff_eq, beq_iff_eq] at h9
  exact h9
theorem plain_right {v : api_Value} (h : plainB v = true) : vRight v = true ∧ v.fKind ≠ 0 := by
  unfold plainB at h
  simp only [Bool.and_eq_true, bne_iff_ne] at h
  exact h.1
theorem chain_all : ∀ {h : List HB} {o : Option HB}, chainP o h = true → ∀ b, b ∈ h → Snd b
  | [], _, _, b, hb => by cases hb
  | x :: h, o, hc, b, hb => by
    have : sndB x = true ∧ chainP (some x) h = true := by
      cases o with
      | none => rw [chainP, Bool.and_eq_true] at hc; exact hc
      | some q => rw [chainP, Bool.and_eq_true, Bool.and_eq_true] at hc; exact ⟨hc.1, hc.2.2⟩
    rcases List.mem_cons.1 hb with rfl | hb
    · exact snd_of this.1
    · exact chain_all this.2 b hb
theorem chain_next {x : HB} {h : List HB} {o : Option HB} (hc : chainP o (x :: h) = true) : chainP (some x) h = true := by
  cases o with
  | none => rw [chainP, Bool.and_eq_true] at hc; exact hc.2
  | some q => rw [chainP, Bool.and_eq_true, Bool.and_eq_true] at hc; exact hc.2.2
theorem right_len {h : List HB} (hr : rightH h = true) : h.length ≤ 50 ∧ chainP none h = true := by
  unfold rightH at hr
  rw [Bool.and_eq_true, decide_eq_true_eq] at hr
  exact hr
/-! ### Where a value is -/
end Go.Pl

set_option linter.unusedVariables false
set_option linter.unusedSimpArgs false
set_option maxRecDepth 100000
namespace Go.Pl
open Go Go.Ab
/-! ### Shares -/
/-! ### Within a bucket -/
/-- Between a bucket's bounds. -/
structure Mid (b : HB) (v : api_Value) : Prop where
  s : Snd b
  rv : vRight v = true
  lo : vCmp b.fLow v < 0
  hi : vCmp v b.fHigh < 0
theorem kind_plain {v : api_Value} (h : vRight v = true) : (vPlain v).fKind = v.fKind := by
  unfold vPlain
  rw [h]
  simp only [Bool.not_true, cond_false]
  cases hk : v.fKind == 3 with
  | false => rfl
  | true =>
    have : v.fKind = 3 := by simpa using hk
    cases isZero v.fFloat with
    | true => exact this.symm
    | false => rfl
end Go.Pl

