import Derived.Test.YtjbhpopccbhhlaaHDV
set_option linter.unusedVariables false
set_option linter.unusedSimpArgs false
namespace Go.Pl
open Go Go.Ab
theorem sll_some {α : Type} (l : List α) : sll (some l) = l := rfl
theorem idx_app {α : Type} (p : List α) (x : α) (s : List α) : idx (p ++ x :: s) ((p.length : Nat) : Int) = some x := by
  rw [idx_nat]; simp
theorem ckA_ok {b n : Nat} (h : n ≤ 2000000) (hb : b ≤ 1000) : ckA b n = some () := by
  unfold ckA
  rw [if_pos]
  have := Nat.mul_le_mul h hb
  omega
/-! ### A list made out of a list, one by one -/
theorem map_loop {α β R : Type} {f : α → β} {n : Nat} {l3 : Nat → Option (List β) → Int → Option R} {l : List α} {K : Option (List β) → Option R} {b : Nat} (hb : b ≤ 1000) (hl : l.length ≤ 1048576) (hn : 2000000 ≤ n)
    (hF : ∀ (m i : Nat) (s : Option (List β)), l3 (m + 1) s (i : Int) = bif decide ((i : Int) < (l.length : Int)) then (idx l (i : Int)).bind fun x => (ckA b (sll s ++ [f x]).length).bind fun _ => l3 m (some (sll s ++ [f x])) (IntKind.wrap .i64 ((i : Int) + 1)) else K s) :
    l3 n none 0 = K (if l = [] then none else some (l.map f)) := by
  have e0 : l3 n none 0 = rangeS (fun (x : α) i (s : Option (List β)) rec => (ckA b (sll s ++ [f x]).length).bind fun _ => rec (some (sll s ++ [f x]))) K l 0 none :=
    loop_range0 (l := l) (by omega) (F := fun m (s : Option (List β)) i => l3 m s i) (fun m i s _ => hF m i s) hn none
  have hgen : ∀ (l : List α) (i : Nat) (s : Option (List β)), (sll s).length + l.length ≤ 1048576 → rangeS (fun (x : α) i (s : Option (List β)) rec => (ckA b (sll s ++ [f x]).length).bind fun _ => rec (some (sll s ++ [f x]))) K l i s = K (if l = [] then s else some (sll s ++ l.map f)) := by
    intro l
    induction l with
    | nil => intro i s _; rw [if_pos rfl]; rfl
    | cons x l ih =>
      intro i s hs
      simp only [List.length_cons] at hs
      simp only [rangeS]
      rw [ckA_ok (by simp; omega) hb, Option.bind_some, ih (i + 1) _ (by simp only [sll_some, List.length_append, List.length_singleton]; omega), if_neg (List.cons_ne_nil x l)]
      by_cases hl : l = []
      · subst hl; rw [if_pos rfl]; rfl
      · rw [if_neg hl, sll_some, List.append_assoc]; rfl
  rw [e0, hgen l 0 none (by show 0 + l.length ≤ 1048576; omega)]
  rfl
def mapO {α β : Type} (f : α → β) (l : List α) : Option (List β) := if l = [] then none else some (l.map f)
theorem sll_mapO {α β : Type} (f : α → β) (l : List α) : sll (mapO f l) = l.map f := by
  unfold mapO; split
  · rename_i h; subst h; rfl
  · rfl
/-! ### Buckets -/
abbrev HB := hist_Bucket
abbrev T19 := tabularyref19_Bucket
def gv (b : T19) : HB := ⟨b.fLow, b.fHigh, b.fCount, b.fDistinct⟩
abbrev WT (a : Option (List T19)) : Prop := wSl W_tabularyref19_Bucket a
abbrev WH (a : Option (List HB)) : Prop := wSl W_hist_Bucket a
theorem gv_W {b : T19} (h : W_tabularyref19_Bucket b) : W_hist_Bucket (gv b) := h
theorem given_ok {a : Option (List T19)} (ha : WT a) {n : Nat} (h : 2000010 ≤ n) : law19_Given n a = some (mapO gv (sll a)) := by
  obtain ⟨n, rfl⟩ : ∃ k, n = k + 1 := ⟨n - 1, by omega⟩
  unfold law19_Given
  simp only [at1_succ, withK]
  rw [map_loop (f := gv) (l := sll a) (l3 := fun m s i => law19_Given_l3 n a _ m s i) (b := 96) (by omega) ha.1 (by omega) (fun m i s => by cases s <;> rfl)]
  cases h : sll a with
  | nil => rfl
  | cons x l => rfl
theorem given_W {a : Option (List T19)} (ha : WT a) : WH (mapO gv (sll a)) := by
  refine ⟨by rw [sll_mapO, List.length_map]; exact ha.1, fun x hx => ?_⟩
  rw [sll_mapO, List.mem_map] at hx
  obtain ⟨b, hb, rfl⟩ := hx
  exact gv_W (ha.2 b hb)
def plainB (v : api_Value) : Bool := vRight v && (v.fKind != 0) && (!isZero v.fFloat || !signb v.fFloat)
theorem hist_plain_ok {v : api_Value} (hv : W_api_Value v) {n : Nat} (h : 4 ≤ n) : hist_plain n v = some (plainB v) := by
  obtain ⟨n, rfl⟩ : ∃ k, n = k + 1 := ⟨n - 1, by omega⟩
  unfold hist_plain plainB
  rw [at1_succ, value_Right_ok v (by omega), Option.bind_some, math_Signbit_ok _ (by omega), Option.bind_some]
  have : ((FloatKind.format .f64).order v.fFloat 0 != some .eq) = !isZero v.fFloat := rfl
  rw [this]
  cases vRight v <;> cases (v.fKind != 0) <;> cases isZero v.fFloat <;> cases signb v.fFloat <;> rfl
theorem ref19_plain_ok {v : api_Value} (hv : W_api_Value v) {n : Nat} (h : 4 ≤ n) : ref19_plain n v = some (plainB v) := by
  obtain ⟨n, rfl⟩ : ∃ k, n = k + 1 := ⟨n - 1, by omega⟩
  unfold ref19_plain plainB
  rw [at1_succ, ref04_Right_ok hv (by omega), Option.bind_some]
  have : ((FloatKind.format .f64).order v.fFloat 0 != some .eq) = !isZero v.fFloat := rfl
  rw [this]
  cases hz : isZero v.fFloat with
  | false => cases vRight v <;> cases (v.fKind != 0) <;> rfl
  | true =>
    obtain ⟨r, h1, h2⟩ := inv_zero (wF_lt hv.2.2.1) hz
    rw [h1, Option.bind_some, h2]
    cases vRight v <;> cases (v.fKind != 0) <;> cases signb v.fFloat <;> rfl
def sndB (b : HB) : Bool := plainB b.fLow && plainB b.fHigh && (b.fLow.fKind == b.fHigh.fKind) && (((((decide (vCmp b.fLow b.fHigh ≤ 0) && decide (b.fCount ≥ 1)) && decide (b.fCount ≤ 1000000)) && decide (b.fDistinct ≥ 1)) && decide (b.fDistinct ≤ b.fCount)) && ((vCmp b.fLow b.fHigh == 0) == (b.fDistinct == 1)))
theorem hist_sound_ok {b : HB} (hb : W_hist_Bucket b) {n : Nat} (h : 10 ≤ n) : hist_sound n b = some (sndB b) := by
  obtain ⟨n, rfl⟩ : ∃ k, n = k + 1 := ⟨n - 1, by omega⟩
  unfold hist_sound sndB
  rw [at1_succ, hist_plain_ok hb.1 (by omega), Option.bind_some, hist_plain_ok hb.2.1 (by omega), Option.bind_some, value_Cmp_ok hb.1 hb.2.1 (by omega), Option.bind_some]
  have : (b.fLow.fKind != b.fHigh.fKind) = !(b.fLow.fKind == b.fHigh.fKind) := rfl
  rw [this]
  cases plainB b.fLow <;> cases plainB b.fHigh <;> cases (b.fLow.fKind == b.fHigh.fKind) <;> rfl
/-- Does a bucket stand behind another one? -/
def adjB (p b : HB) : Bool := (p.fHigh.fKind == b.fLow.fKind) && decide (vCmp p.fHigh b.fLow < 0)
def chainP : Option HB → List HB → Bool
  | _, [] => true
  | none, b :: r => sndB b && chainP (some b) r
  | some q, b :: r => sndB b && (adjB q b && chainP (some b) r)
def rightH (h : List HB) : Bool := decide (h.length ≤ 50) && chainP none h
theorem sndB_kinds {b : HB} (h : sndB b = true) : b.fLow.fKind = b.fHigh.fKind := by
  unfold sndB at h
  simp only [Bool.and_eq_true, beq_iff_eq] at h
  exact h.1.2
theorem hist_Right_loop {n : Nat} (hn : 20 ≤ n) {a : Option (List HB)} (ha : WH a) : ∀ (l : List HB) (m : Nat) (p : List HB) (h0 : HB), sll a = p ++ l → (∀ q, p.getLast? = some q → (sll a)[0]? = some h0 ∧ q.fHigh.fKind = h0.fLow.fKind) → l.length < m →
    hist_Right_l4 n a (fun _ => some true) m (p.length : Int) = some (chainP p.getLast? l)
  | [], m, p, h0, he, hk, hm => by
    obtain ⟨m, rfl⟩ : ∃ j, m = j + 1 := ⟨m - 1, by omega⟩
    rw [List.append_nil] at he
    rw [hist_Right_l4, he, dF (by omega), cond_false]
    cases p.getLast? <;> rfl
  | b :: l, m, p, h0, he, hk, hm => by
    obtain ⟨m, rfl⟩ : ∃ j, m = j + 1 := ⟨m - 1, by omega⟩
    have hl : (sll a).length = p.length + (l.length + 1) := by rw [he]; simp
    have ha1 := ha.1
    have hb : W_hist_Bucket b := ha.2 b (by rw [he]; simp)
    rw [List.length_cons] at hm
    have hix : idx (sll a) (p.length : Int) = some b := by rw [he]; exact idx_app p b l
    have he' : sll a = (p ++ [b]) ++ l := by rw [he]; simp
    have hl' : (p ++ [b]).length = p.length + 1 := by simp
    have hg' : (p ++ [b]).getLast? = some b := by simp
    rw [hist_Right_l4, dT (by omega), cond_true, hix, Option.bind_some, hist_sound_ok hb (by omega), Option.bind_some]
    cases hp : p.getLast? with
    | none =>
      have hp0 : p = [] := by simpa using hp
      subst hp0
      rw [chainP]
      cases hs : sndB b with
      | false => rfl
      | true =>
        simp only [List.nil_append] at he he'
        rw [Bool.not_true, cond_false, Bool.true_and, dF (by simp), cond_false, wrapN (by simp)]
        have := hist_Right_loop hn ha l m [b] b (by rw [he]; rfl) (fun q hq => by
          simp at hq; subst hq
          exact ⟨by rw [he]; rfl, (sndB_kinds hs).symm⟩) (by omega)
        exact this
    | some q =>
      obtain ⟨k0, k1⟩ := hk q hp
      have hp1 : 0 < p.length := by
        rcases Nat.eq_zero_or_pos p.length with h | h
        · have : p = [] := List.eq_nil_of_length_eq_zero h
          subst this; simp at hp
        · exact h
      have hq : idx (sll a) ((p.length - 1 : Nat) : Int) = some q := by
        rw [idx_nat, he, List.getElem?_append_left (by omega), ← hp, List.getLast?_eq_getElem?]
      have hqW : W_hist_Bucket q := by
        rw [idx_nat] at hq
        exact ha.2 q (List.mem_of_getElem? hq)
      rw [chainP]
      cases hs : sndB b with
      | false => rfl
      | true =>
        have i0 : idx (sll a) 0 = some h0 := by
          have := idx_nat (sll a) 0
          rw [k0] at this
          exact this
        rw [Bool.not_true, cond_false, Bool.true_and, dT (by omega), cond_true, i0, Option.bind_some]
        have e1 : (b.fLow.fKind != h0.fLow.fKind) = !(q.fHigh.fKind == b.fLow.fKind) := by
          rw [k1]
          show (!(b.fLow.fKind == h0.fLow.fKind)) = _
          congr 1
          rw [Bool.eq_iff_iff, beq_iff_eq, beq_iff_eq]
          exact eq_comm
        unfold adjB
        rw [e1]
        cases hkd : (q.fHigh.fKind == b.fLow.fKind) with
        | false => rfl
        | true =>
          rw [Bool.not_true, cond_false, Bool.true_and, wv (v := p.length - 1) (by omega) (by omega), hq, Option.bind_some, value_Cmp_ok hqW.2.1 hb.1 (by omega), Option.bind_some]
          by_cases hc : vCmp q.fHigh b.fLow < 0
          · rw [dF (by omega : ¬ vCmp q.fHigh b.fLow ≥ 0), cond_false, dT hc, Bool.true_and, wrapN (by omega)]
            have hkk : q.fHigh.fKind = b.fLow.fKind := by simpa using hkd
            have := hist_Right_loop hn ha l m (p ++ [b]) h0 he' (fun q' hq' => by
              rw [hg'] at hq'; cases hq'
              exact ⟨k0, by rw [← sndB_kinds hs, ← hkk, k1]⟩) (by omega)
            rw [hl', hg'] at this
            exact this
          · rw [dT (by omega : vCmp q.fHigh b.fLow ≥ 0), cond_true, dF hc, Bool.false_and]
theorem hist_Right_ok {a : Option (List HB)} (ha : WH a) {n : Nat} (h : 2000010 ≤ n) : hist_Right n a = some (rightH (sll a)) := by
  obtain ⟨n, rfl⟩ : ∃ k, n = k + 1 := ⟨n - 1, by omega⟩
  have ha1 := ha.1
  unfold hist_Right rightH
  rw [at1_succ]
  by_cases hl : (sll a).length ≤ 50
  · rw [dF (by omega), cond_false, dT hl, Bool.true_and]
    exact hist_Right_loop (by omega) ha (sll a) n [] ⟨zeroV, zeroV, 0, 0⟩ rfl (fun q hq => by simp at hq) (by omega)
  · rw [dT (by omega), cond_true, dF hl, Bool.false_and]
/-- The document's test of one. -/
def refB (b : T19) : Bool := sndB (gv b)
theorem ref19_Right_loop {n : Nat} (hn : 20 ≤ n) {a : Option (List T19)} (ha : WT a) : ∀ (l : List T19) (m : Nat) (p : List T19), sll a = p ++ l → l.length < m →
    ref19_Right_l4 n a (fun _ => some true) m (p.length : Int) = some (chainP (p.getLast?.map gv) (l.map gv))
  | [], m, p, he, hm => by
    obtain ⟨m, rfl⟩ : ∃ j, m = j + 1 := ⟨m - 1, by omega⟩
    rw [List.append_nil] at he
    rw [ref19_Right_l4, he, dF (by omega), cond_false]
    cases p.getLast? <;> rfl
  | b :: l, m, p, he, hm => by
    obtain ⟨m, rfl⟩ : ∃ j, m = j + 1 := ⟨m - 1, by omega⟩
    have hl : (sll a).length = p.length + (l.length + 1) := by rw [he]; simp
    have ha1 := ha.1
    have hb : W_tabularyref19_Bucket b := ha.2 b (by rw [he]; simp)
    rw [List.length_cons] at hm
    have hix : idx (sll a) (p.length : Int) = some b := by rw [he]; exact idx_app p b l
    have he' : sll a = (p ++ [b]) ++ l := by rw [he]; simp
    have hl' : (p ++ [b]).length = p.length + 1 := by simp
    have hg' : (p ++ [b]).getLast? = some b := by simp
    have hrec := ref19_Right_loop hn ha l m (p ++ [b]) he' (by omega)
    rw [hl', hg'] at hrec
    rw [ref19_Right_l4, dT (by omega), cond_true, hix, Option.bind_some, ref19_plain_ok hb.1 (by omega), Option.bind_some, ref19_plain_ok hb.2.1 (by omega), Option.bind_some, ref04_Cmp_ok hb.1 hb.2.1 (by omega), Option.bind_some, List.map_cons, wrapN (by omega), hrec]
    have es : sndB (gv b) = (plainB b.fLow && plainB b.fHigh && (b.fLow.fKind == b.fHigh.fKind) && (((((decide (vCmp b.fLow b.fHigh ≤ 0) && decide (b.fCount ≥ 1)) && decide (b.fCount ≤ 1000000)) && decide (b.fDistinct ≥ 1)) && decide (b.fDistinct ≤ b.fCount)) && ((vCmp b.fLow b.fHigh == 0) == (b.fDistinct == 1)))) := rfl
    have d1 : decide (b.fCount < 1) = !decide (b.fCount ≥ 1) := by rw [Bool.eq_iff_iff]; simp
    have d2 : decide (b.fCount > 1000000) = !decide (b.fCount ≤ 1000000) := by rw [Bool.eq_iff_iff]; simp
    have d3 : decide (b.fDistinct < 1) = !decide (b.fDistinct ≥ 1) := by rw [Bool.eq_iff_iff]; simp
    have d4 : decide (b.fDistinct > b.fCount) = !decide (b.fDistinct ≤ b.fCount) := by rw [Bool.eq_iff_iff]; simp
    have d5 : decide (vCmp b.fLow b.fHigh > 0) = !decide (vCmp b.fLow b.fHigh ≤ 0) := by rw [Bool.eq_iff_iff]; simp
    have d6 : (b.fLow.fKind != b.fHigh.fKind) = !(b.fLow.fKind == b.fHigh.fKind) := rfl
    rw [d1, d2, d3, d4, d5, d6]
    have key : ∀ (T : Option Bool) (t : Bool), T = some t → (bif !plainB b.fLow then some false else bif ((((((!plainB b.fHigh) || (!(b.fLow.fKind == b.fHigh.fKind))) || (!decide (b.fCount ≥ 1))) || (!decide (b.fCount ≤ 1000000))) || (!decide (b.fDistinct ≥ 1))) || (!decide (b.fDistinct ≤ b.fCount))) then some false else bif ((!decide (vCmp b.fLow b.fHigh ≤ 0)) || (!((vCmp b.fLow b.fHigh == 0) == (b.fDistinct == 1)))) then some false else T) = some (sndB (gv b) && t) := by
      intro T t hT
      rw [es, hT]
      cases plainB b.fLow <;> cases plainB b.fHigh <;> cases (b.fLow.fKind == b.fHigh.fKind) <;> cases decide (vCmp b.fLow b.fHigh ≤ 0) <;> cases decide (b.fCount ≥ 1) <;> cases decide (b.fCount ≤ 1000000) <;> cases decide (b.fDistinct ≥ 1) <;> cases decide (b.fDistinct ≤ b.fCount) <;> cases ((vCmp b.fLow b.fHigh == 0) == (b.fDistinct == 1)) <;> rfl
    cases hp : p.getLast? with
    | none =>
      have hp0 : p = [] := by simpa using hp
      subst hp0
      rw [Option.map_none, chainP]
      refine key _ _ ?_
      rw [dF (by simp), cond_false]
      rfl
    | some q =>
      have hp1 : 0 < p.length := by
        rcases Nat.eq_zero_or_pos p.length with h | h
        · have : p = [] := List.eq_nil_of_length_eq_zero h
          subst this; simp at hp
        · exact h
      have hq : idx (sll a) ((p.length - 1 : Nat) : Int) = some q := by
        rw [idx_nat, he, List.getElem?_append_left (by omega), ← hp, List.getLast?_eq_getElem?]
      have hqW : W_tabularyref19_Bucket q := by
        rw [idx_nat] at hq
        exact ha.2 q (List.mem_of_getElem? hq)
      show _ = some (sndB (gv b) && (adjB (gv q) (gv b) && chainP (some (gv b)) (l.map gv)))
      refine key _ _ ?_
      rw [dT (by omega), cond_true, wv (v := p.length - 1) (by omega) (by omega), hq, Option.bind_some, ref04_Cmp_ok hqW.2.1 hb.1 (by omega), Option.bind_some]
      have e2 : adjB (gv q) (gv b) = ((q.fHigh.fKind == b.fLow.fKind) && decide (vCmp q.fHigh b.fLow < 0)) := rfl
      have e3 : (q.fHigh.fKind != b.fLow.fKind) = !(q.fHigh.fKind == b.fLow.fKind) := rfl
      have e4 : decide (vCmp q.fHigh b.fLow ≥ 0) = !decide (vCmp q.fHigh b.fLow < 0) := by rw [Bool.eq_iff_iff]; simp
      rw [e2, e3, e4]
      cases (q.fHigh.fKind == b.fLow.fKind) <;> cases decide (vCmp q.fHigh b.fLow < 0) <;> rfl
theorem ref19_Right_ok {a : Option (List T19)} (ha : WT a) {n : Nat} (h : 2000010 ≤ n) : ref19_Right n a = some (rightH ((sll a).map gv)) := by
  obtain ⟨n, rfl⟩ : ∃ k, n = k + 1 := ⟨n - 1, by omega⟩
  have ha1 := ha.1
  unfold ref19_Right rightH
  rw [at1_succ, List.length_map]
  by_cases hl : (sll a).length ≤ 50
  · rw [dF (by omega), cond_false, dT hl, Bool.true_and]
    exact ref19_Right_loop (by omega) ha (sll a) n [] rfl (by omega)
  · rw [dT (by omega), cond_true, dF hl, Bool.false_and]
end Go.Pl

set_option linter.unusedVariables false
set_option linter.unusedSimpArgs false
namespace Go.Pl
open Go Go.Ab
/-! ### What is known of a bucket, of all -/
structure Snd (b : HB) : Prop where
  pl : plainB b.fLow = true
  ph : plainB b.fHigh = true
  kd : b.fLow.fKind = b.fHigh.fKind
  le : vCmp b.fLow b.fHigh ≤ 0
  c1 : 1 ≤ b.fCount
  c2 : b.fCount ≤ 1000000
  d1 : 1 ≤ b.fDistinct
  d2 : b.fDistinct ≤ b.fCount
  one : vCmp b.fLow b.fHigh = 0 ↔ b.fDistinct = 1
theorem snd_of {b : HB} (h : sndB b = true) : Snd b := by
  unfold sndB at h
  simp only [Bool.and_eq_true, beq_iff_eq, decide_eq_true_eq] at h
  obtain ⟨⟨⟨h1, h2⟩, h3⟩, ⟨⟨⟨⟨h4, h5⟩, h6⟩, h7⟩, h8⟩, h9⟩ := h
  refine ⟨h1, h2, h3, h4, h5, h6, h7, h8, ?_⟩
  rw [Bool.eq_iff_iff, beq_iff_eq, beq_iff_eq] at h9
  exact h9
theorem plain_right {v : api_Value} (h : plainB v = true) : vRight v = true ∧ v.fKind ≠ 0 := by
  unfold plainB at h
  simp only [Bool.and_eq_true, bne_iff_ne] at h
  exact h.1
theorem chain_all : ∀ {h : List HB} {o : Option HB}, chainP o h = true → ∀ b, b ∈ h → Snd b
  | [], _, _, b, hb => by cases hb
  | x :: h, o, hc, b, hb => by
    have : sndB x = true ∧ chainP (some x) h = true := by
      cases o with
      | none => rw [chainP, Bool.and_eq_true] at hc; exact hc
      | some q => rw [chainP, Bool.and_eq_true, Bool.and_eq_true] at hc; exact ⟨hc.1, hc.2.2⟩
    rcases List.mem_cons.1 hb with rfl | hb
    · exact snd_of this.1
    · exact chain_all this.2 b hb
theorem chain_next {x : HB} {h : List HB} {o : Option HB} (hc : chainP o (x :: h) = true) : chainP (some x) h = true := by
  cases o with
  | none => rw [chainP, Bool.and_eq_true] at hc; exact hc.2
  | some q => rw [chainP, Bool.and_eq_true, Bool.and_eq_true] at hc; exact hc.2.2
/-- All that stands behind one is greater, and of its kind. -/
theorem chain_behind : ∀ {h : List HB} {q : HB}, chainP (some q) h = true → ∀ b, b ∈ h → vCmp q.fHigh b.fLow < 0 ∧ b.fLow.fKind = q.fHigh.fKind
  | [], _, _, b, hb => by cases hb
  | x :: h, q, hc, b, hb => by
    have hx : Snd x := chain_all hc x (by simp)
    have hn := chain_next hc
    rw [chainP, Bool.and_eq_true, Bool.and_eq_true] at hc
    have ha := hc.2.1
    unfold adjB at ha
    rw [Bool.and_eq_true, beq_iff_eq, decide_eq_true_eq] at ha
    rcases List.mem_cons.1 hb with rfl | hb
    · exact ⟨ha.2, ha.1.symm⟩
    · obtain ⟨h1, h2⟩ := chain_behind hn b hb
      have t1 := vCmp_ord.trans x.fLow x.fHigh b.fLow hx.le (by omega)
      have t2 := vCmp_ord.trans q.fHigh x.fLow b.fLow (by omega) t1
      refine ⟨?_, by rw [h2, ← hx.kd, ha.1]⟩
      rcases Int.lt_or_le (vCmp q.fHigh b.fLow) 0 with g | g
      · exact g
      · have e : vCmp q.fHigh b.fLow = 0 := by omega
        have l := vCmp_ord.left (z := x.fLow) e
        have a1 := vCmp_ord.anti x.fLow b.fLow
        have a2 := vCmp_ord.left (x := x.fLow) (y := b.fLow) (z := b.fLow)
        have a3 := vCmp_ord.anti x.fHigh b.fLow
        have t3 := vCmp_ord.trans b.fLow x.fLow x.fHigh (by omega) hx.le
        omega
def sumC : List HB → Int
  | [] => 0
  | b :: h => b.fCount + sumC h
theorem sumC_range : ∀ {h : List HB}, (∀ b, b ∈ h → Snd b) → 0 ≤ sumC h ∧ sumC h ≤ 1000000 * h.length
  | [], _ => by simp [sumC]
  | b :: h, hs => by
    have h1 := sumC_range (h := h) fun c hc => hs c (List.mem_cons_of_mem _ hc)
    have h2 := hs b (by simp)
    have := h2.c1; have := h2.c2
    simp only [sumC, List.length_cons]
    omega
def totH (h : List HB) : Int := if rightH h = true then sumC h else 0
theorem right_len {h : List HB} (hr : rightH h = true) : h.length ≤ 50 ∧ chainP none h = true := by
  unfold rightH at hr
  rw [Bool.and_eq_true, decide_eq_true_eq] at hr
  exact hr
theorem total_loop {n : Nat} {a : Option (List HB)} : ∀ (l : List HB) (m : Nat) (p : List HB) (s : Int), sll a = p ++ l → (sll a).length ≤ 50 → (∀ b, b ∈ l → Snd b) → 0 ≤ s → s + 1000000 * l.length ≤ 100000000 → l.length < m →
    hist_Total_l4 n a (fun y => some y) m (p.length : Int) s = some (s + sumC l)
  | [], m, p, s, he, hl, _, _, _, hm => by
    obtain ⟨m, rfl⟩ : ∃ j, m = j + 1 := ⟨m - 1, by omega⟩
    rw [List.append_nil] at he
    rw [hist_Total_l4, he, dF (by omega), cond_false]
    simp [sumC]
  | b :: l, m, p, s, he, hl, hs, h0, hb, hm => by
    obtain ⟨m, rfl⟩ : ∃ j, m = j + 1 := ⟨m - 1, by omega⟩
    have hlen : (sll a).length = p.length + (l.length + 1) := by rw [he]; simp
    rw [List.length_cons] at hm hb
    have hsb := hs b (by simp)
    have := hsb.c1; have := hsb.c2
    have hix : idx (sll a) (p.length : Int) = some b := by rw [he]; exact idx_app p b l
    rw [hist_Total_l4, dT (by omega), cond_true, hix, Option.bind_some, wrapN (by omega), wrapI (x := s + b.fCount) (by omega) (by omega)]
    have := total_loop (n := n) l m (p ++ [b]) (s + b.fCount) (by rw [he]; simp) hl (fun c hc => hs c (by simp [hc])) (by omega) (by omega) (by omega)
    rw [show (p ++ [b]).length = p.length + 1 by simp] at this
    rw [this, sumC]
    congr 1
    omega
theorem hist_Total_ok {a : Option (List HB)} (ha : WH a) {n : Nat} (h : 2000020 ≤ n) : hist_Total n a = some (totH (sll a)) := by
  obtain ⟨n, rfl⟩ : ∃ k, n = k + 1 := ⟨n - 1, by omega⟩
  unfold hist_Total totH
  simp only [at1_succ, withK]
  rw [hist_Right_ok ha (by omega), Option.bind_some]
  cases hr : rightH (sll a) with
  | false => rfl
  | true =>
    obtain ⟨h1, h2⟩ := right_len hr
    have := total_loop (n := n) (sll a) n [] 0 rfl h1 (chain_all h2) (by omega) (by omega) (by omega)
    rw [cond_true, if_pos rfl]
    rw [Int.zero_add] at this
    exact this
theorem ref19_total_loop {n : Nat} (hn : 2000010 ≤ n) {a : Option (List T19)} (ha : WT a) (hr : rightH ((sll a).map gv) = true) : ∀ (l : List T19) (m : Nat) (p : List T19) (s : Int), sll a = p ++ l → (∀ b, b ∈ l.map gv → Snd b) → 0 ≤ s → s + 1000000 * l.length ≤ 100000000 → l.length < m →
    ref19_Total_l3 n a (fun y => some y) m s (p.length : Int) = some (s + sumC (l.map gv))
  | [], m, p, s, he, _, _, _, hm => by
    obtain ⟨m, rfl⟩ : ∃ j, m = j + 1 := ⟨m - 1, by omega⟩
    rw [List.append_nil] at he
    rw [ref19_Total_l3, he, dF (by omega), cond_false]
    simp [sumC]
  | b :: l, m, p, s, he, hs, h0, hb, hm => by
    obtain ⟨m, rfl⟩ : ∃ j, m = j + 1 := ⟨m - 1, by omega⟩
    have hlen : (sll a).length = p.length + (l.length + 1) := by rw [he]; simp
    have ha1 := ha.1
    rw [List.length_cons] at hm hb
    have hsb := hs (gv b) (by simp)
    have g1 : 1 ≤ b.fCount := hsb.c1
    have g2 : b.fCount ≤ 1000000 := hsb.c2
    have hix : idx (sll a) (p.length : Int) = some b := by rw [he]; exact idx_app p b l
    rw [ref19_Total_l3, dT (by omega), cond_true, ref19_Right_ok ha hn, hr, Option.bind_some, cond_true, hix, Option.bind_some, wrapN (by omega), wrapI (x := s + b.fCount) (by omega) (by omega)]
    have := ref19_total_loop hn ha hr l m (p ++ [b]) (s + b.fCount) (by rw [he]; simp) (fun c hc => hs c (by rw [List.map_cons]; simp [hc])) (by omega) (by omega) (by omega)
    rw [show (p ++ [b]).length = p.length + 1 by simp] at this
    rw [this, List.map_cons, sumC]
    congr 1
    show s + b.fCount + _ = s + (b.fCount + _)
    omega
theorem ref19_Total_ok {a : Option (List T19)} (ha : WT a) {n : Nat} (h : 2000020 ≤ n) : ref19_Total n a = some (totH ((sll a).map gv)) := by
  obtain ⟨n, rfl⟩ : ∃ k, n = k + 1 := ⟨n - 1, by omega⟩
  have ha1 := ha.1
  unfold ref19_Total totH
  simp only [at1_succ, withK]
  cases hr : rightH ((sll a).map gv) with
  | false =>
    obtain ⟨n, rfl⟩ : ∃ k, n = k + 1 := ⟨n - 1, by omega⟩
    rw [ref19_Total_l3]
    cases hd : decide ((0 : Int) < ((sll a).length : Int)) with
    | false => rfl
    | true => rw [cond_true, ref19_Right_ok ha (by omega), hr]; rfl
  | true =>
    obtain ⟨h1, h2⟩ := right_len hr
    rw [List.length_map] at h1
    have := ref19_total_loop (n := n) (by omega) ha hr (sll a) n [] 0 rfl (chain_all h2) (by omega) (by omega) (by omega)
    rw [if_pos rfl]
    rw [Int.zero_add] at this
    exact this
/-! ### Where a value is -/
def loc (v : api_Value) : List HB → Int → Option HB × Int
  | [], ah => (none, ah)
  | b :: r, ah => if vCmp v b.fLow < 0 then (none, ah) else if vCmp v b.fHigh ≤ 0 then (some b, ah) else loc v r (ah + b.fCount)
def askV (v : api_Value) : Bool := vRight v && (v.fKind != 0)
def askH (h : List HB) (v : api_Value) : Bool := rightH h && askV v
theorem loc_mem {v : api_Value} : ∀ {h : List HB} {ah : Int} {b : HB} {k : Int}, loc v h ah = (some b, k) → b ∈ h ∧ vCmp b.fLow v ≤ 0 ∧ vCmp v b.fHigh ≤ 0
  | [], ah, b, k, e => by simp [loc] at e
  | x :: h, ah, b, k, e => by
    rw [loc] at e
    have an := vCmp_ord.anti v x.fLow
    split at e
    · simp at e
    · split at e
      · simp only [Prod.mk.injEq, Option.some.injEq] at e
        obtain ⟨rfl, rfl⟩ := e
        exact ⟨by simp, by omega, by assumption⟩
      · obtain ⟨h1, h2⟩ := loc_mem e
        exact ⟨by simp [h1], h2⟩
theorem find_loop {n : Nat} (hn : 20 ≤ n) {a : Option (List HB)} (ha : WH a) {v : api_Value} (hv : W_api_Value v) : ∀ (l : List HB) (m : Nat) (p : List HB) (s : Int), sll a = p ++ l → (sll a).length ≤ 50 → (∀ b, b ∈ l → Snd b) → 0 ≤ s → s + 1000000 * l.length ≤ 100000000 → l.length < m →
    ∃ i t, hist_find_l4 n a v (fun y => some (0, y, false)) m (p.length : Int) s = some (i, (loc v l s).2, t) ∧ ((t = false ∧ (loc v l s).1 = none) ∨ (t = true ∧ ∃ b, (loc v l s).1 = some b ∧ idx (sll a) i = some b))
  | [], m, p, s, he, hl, _, _, _, hm => by
    obtain ⟨m, rfl⟩ : ∃ j, m = j + 1 := ⟨m - 1, by omega⟩
    rw [List.append_nil] at he
    rw [hist_find_l4, he, dF (by omega), cond_false]
    exact ⟨_, _, rfl, .inl ⟨rfl, rfl⟩⟩
  | b :: l, m, p, s, he, hl, hs, h0, hb, hm => by
    obtain ⟨m, rfl⟩ : ∃ j, m = j + 1 := ⟨m - 1, by omega⟩
    have hlen : (sll a).length = p.length + (l.length + 1) := by rw [he]; simp
    rw [List.length_cons] at hm hb
    have hsb := hs b (by simp)
    have := hsb.c1; have := hsb.c2
    have hix : idx (sll a) (p.length : Int) = some b := by rw [he]; exact idx_app p b l
    have hW := ha.2 b (by rw [he]; simp)
    rw [hist_find_l4, dT (by omega), cond_true, hix, Option.bind_some, value_Cmp_ok hv hW.1 (by omega), Option.bind_some, value_Cmp_ok hv hW.2.1 (by omega), loc]
    by_cases h1 : vCmp v b.fLow < 0
    · rw [dT h1, cond_true, if_pos h1]
      exact ⟨_, _, rfl, .inl ⟨rfl, rfl⟩⟩
    · rw [dF h1, cond_false, if_neg h1, Option.bind_some]
      by_cases h2 : vCmp v b.fHigh ≤ 0
      · rw [dT h2, cond_true, if_pos h2]
        exact ⟨_, _, rfl, .inr ⟨rfl, b, rfl, hix⟩⟩
      · rw [dF h2, cond_false, if_neg h2, wrapN (by omega), wrapI (x := s + b.fCount) (by omega) (by omega)]
        have := find_loop hn ha hv l m (p ++ [b]) (s + b.fCount) (by rw [he]; simp) hl (fun c hc => hs c (by simp [hc])) (by omega) (by omega) (by omega)
        rw [show (p ++ [b]).length = p.length + 1 by simp] at this
        exact this
theorem hist_find_ok {a : Option (List HB)} (ha : WH a) {v : api_Value} (hv : W_api_Value v) {n : Nat} (h : 2000020 ≤ n) :
    (askH (sll a) v = false ∧ hist_find n a v = some (0, 0, false)) ∨ (askH (sll a) v = true ∧ ∃ i t, hist_find n a v = some (i, (loc v (sll a) 0).2, t) ∧ ((t = false ∧ (loc v (sll a) 0).1 = none) ∨ (t = true ∧ ∃ b, (loc v (sll a) 0).1 = some b ∧ idx (sll a) i = some b))) := by
  obtain ⟨n, rfl⟩ : ∃ k, n = k + 1 := ⟨n - 1, by omega⟩
  unfold hist_find askH askV
  simp only [at1_succ, withK]
  rw [hist_Right_ok ha (by omega), Option.bind_some]
  cases hr : rightH (sll a) with
  | false => exact .inl ⟨rfl, rfl⟩
  | true =>
    rw [Bool.not_true, cond_false, value_Right_ok v (by omega), Option.bind_some, Bool.true_and]
    cases hv1 : vRight v with
    | false => exact .inl ⟨rfl, rfl⟩
    | true =>
      rw [Bool.not_true, Bool.false_or, Bool.true_and]
      cases hk : v.fKind == 0 with
      | true => exact .inl ⟨by show (!(v.fKind == 0)) = false; rw [hk]; rfl, rfl⟩
      | false =>
        obtain ⟨h1, h2⟩ := right_len hr
        refine .inr ⟨by show (!(v.fKind == 0)) = true; rw [hk]; rfl, ?_⟩
        exact find_loop (n := n) (by omega) ha hv (sll a) n [] 0 rfl h1 (chain_all h2) (by omega) (by omega) (by omega)
def eachB (b : HB) : Int := Int.tdiv b.fCount b.fDistinct
theorem each_range {b : HB} (h : Snd b) : 1 ≤ eachB b ∧ eachB b ≤ b.fCount := by
  unfold eachB
  have h1 := h.c1; have h2 := h.d1; have h3 := h.d2
  rw [Int.tdiv_eq_ediv_of_nonneg (by omega)]
  constructor
  · exact Int.le_ediv_of_mul_le (by omega) (by omega)
  · exact Int.ediv_le_self _ (by omega)
theorem hist_each_ok {b : HB} (h : Snd b) {n : Nat} (hn : 1 ≤ n) : hist_each n b = some (eachB b) := by
  obtain ⟨n, rfl⟩ : ∃ k, n = k + 1 := ⟨n - 1, by omega⟩
  have h1 := h.c2; have h2 := h.d1
  have hr := each_range h
  unfold hist_each
  have hz : ckZ b.fDistinct = some () := by unfold ckZ; rw [if_neg (by omega)]
  rw [at1_succ, hz, Option.bind_some]
  congr 1
  exact wrapI (by show _ ≤ eachB b; omega) (by show eachB b < _; omega)
def equalH (h : List HB) (v : api_Value) : Int := if askH h v = true then (match (loc v h 0).1 with | none => 0 | some b => eachB b) else 0
theorem ask_all {h : List HB} {v : api_Value} (ha : askH h v = true) : rightH h = true ∧ vRight v = true ∧ v.fKind ≠ 0 := by
  unfold askH askV at ha
  simp only [Bool.and_eq_true, bne_iff_ne] at ha
  exact ha
theorem hist_Equal_ok {a : Option (List HB)} (ha : WH a) {v : api_Value} (hv : W_api_Value v) {n : Nat} (h : 2000030 ≤ n) : hist_Equal n a v = some (equalH (sll a) v) := by
  obtain ⟨n, rfl⟩ : ∃ k, n = k + 1 := ⟨n - 1, by omega⟩
  unfold hist_Equal equalH
  rw [at1_succ]
  rcases hist_find_ok ha hv (n := n) (by omega) with ⟨h1, h2⟩ | ⟨h1, i, t, h2, h3⟩
  · rw [h2, h1]; rfl
  · rw [h2, h1, if_pos rfl, Option.bind_some]
    rcases h3 with ⟨rfl, h3⟩ | ⟨rfl, b, h3, h4⟩
    · rw [h3]; rfl
    · simp only [Bool.not_true, cond_false]
      have hb := loc_mem (v := v) (h := sll a) (ah := 0) (b := b) (k := (loc v (sll a) 0).2) (by rw [← h3])
      have hs := chain_all (right_len (ask_all h1).1).2 b hb.1
      rw [h4, Option.bind_some, hist_each_ok hs (by omega), Option.bind_some, h3]
/-- The document's way: the first whose bounds hold it. -/
def eqL (v : api_Value) : List HB → Option HB
  | [] => none
  | b :: r => if vCmp b.fLow v ≤ 0 ∧ vCmp v b.fHigh ≤ 0 then some b else eqL v r
theorem eqL_none {v : api_Value} : ∀ {l : List HB}, (∀ b, b ∈ l → ¬ (vCmp b.fLow v ≤ 0)) → eqL v l = none
  | [], _ => rfl
  | b :: l, h => by
    rw [eqL, if_neg fun c => h b (by simp) c.1]
    exact eqL_none fun c hc => h c (by simp [hc])
theorem eqL_loc {v : api_Value} : ∀ {l : List HB} {o : Option HB} {ah : Int}, chainP o l = true → eqL v l = (loc v l ah).1
  | [], _, _, _ => rfl
  | b :: l, o, ah, hc => by
    have hb := chain_all hc b (by simp)
    have hn := chain_next hc
    have an := vCmp_ord.anti v b.fLow
    rw [eqL, loc]
    by_cases h1 : vCmp v b.fLow < 0
    · rw [if_pos h1, if_neg (by omega)]
      refine eqL_none fun c hcl => ?_
      obtain ⟨g1, g2⟩ := chain_behind hn c hcl
      intro g
      have t1 := vCmp_ord.trans c.fLow v b.fLow g (by omega)
      have t2 := vCmp_ord.trans c.fLow b.fLow b.fHigh t1 hb.le
      have a2 := vCmp_ord.anti c.fLow b.fHigh
      omega
    · rw [if_neg h1]
      by_cases h2 : vCmp v b.fHigh ≤ 0
      · rw [if_pos h2, if_pos ⟨by omega, h2⟩]
      · rw [if_neg h2, if_neg (by omega)]
        exact eqL_loc hn
theorem ref19_asked_ok {a : Option (List T19)} (ha : WT a) {v : api_Value} (hv : W_api_Value v) {n : Nat} (h : 2000020 ≤ n) : ref19_asked n a v = some (askH ((sll a).map gv) v) := by
  obtain ⟨n, rfl⟩ : ∃ k, n = k + 1 := ⟨n - 1, by omega⟩
  unfold ref19_asked askH askV
  rw [at1_succ, ref19_Right_ok ha (by omega), Option.bind_some, ref04_Right_ok hv (by omega), Option.bind_some]
  cases rightH ((sll a).map gv) <;> rfl
theorem ref19_equal_loop {n : Nat} (hn : 2000030 ≤ n) {a : Option (List T19)} (ha : WT a) {v : api_Value} (hv : W_api_Value v) (hq : askH ((sll a).map gv) v = true) : ∀ (l : List T19) (m : Nat) (p : List T19), sll a = p ++ l → (∀ b, b ∈ l.map gv → Snd b) → l.length < m →
    ref19_Equal_l2 n a v (fun _ => some 0) m (p.length : Int) = some (match eqL v (l.map gv) with | none => 0 | some b => eachB b)
  | [], m, p, he, _, hm => by
    obtain ⟨m, rfl⟩ : ∃ j, m = j + 1 := ⟨m - 1, by omega⟩
    rw [List.append_nil] at he
    rw [ref19_Equal_l2, he, dF (by omega), cond_false]
    rfl
  | b :: l, m, p, he, hs, hm => by
    obtain ⟨m, rfl⟩ : ∃ j, m = j + 1 := ⟨m - 1, by omega⟩
    have hlen : (sll a).length = p.length + (l.length + 1) := by rw [he]; simp
    have ha1 := ha.1
    rw [List.length_cons] at hm
    have hsb := hs (gv b) (by simp)
    have hix : idx (sll a) (p.length : Int) = some b := by rw [he]; exact idx_app p b l
    have hW := ha.2 b (by rw [he]; simp)
    have hz : ckZ b.fDistinct = some () := by
      have : 1 ≤ b.fDistinct := hsb.d1
      unfold ckZ; rw [if_neg (by omega)]
    have hrec := ref19_equal_loop hn ha hv hq l m (p ++ [b]) (by rw [he]; simp) (fun c hc => hs c (by rw [List.map_cons]; simp [hc])) (by omega)
    rw [show (p ++ [b]).length = p.length + 1 by simp] at hrec
    rw [ref19_Equal_l2, dT (by omega), cond_true, ref19_asked_ok ha hv (by omega), Option.bind_some, hq, cond_true]
    simp only [withK]
    rw [hix, Option.bind_some, ref04_Cmp_ok hW.1 hv (by omega), Option.bind_some, ref04_Cmp_ok hv hW.2.1 (by omega), Option.bind_some, Option.bind_some, hz, Option.bind_some, wrapN (by omega), hrec, List.map_cons, eqL]
    have hr := each_range hsb
    have hc2 : b.fCount ≤ 1000000 := hsb.c2
    have ee : IntKind.wrap .i64 (Int.tdiv b.fCount b.fDistinct) = eachB (gv b) := wrapI (by have : (gv b).fCount = b.fCount := rfl; show _ ≤ eachB (gv b); omega) (by have : (gv b).fCount = b.fCount := rfl; show eachB (gv b) < _; omega)
    rw [ee]
    show (bif decide (vCmp b.fLow v ≤ 0) then _ else _) = some (match (if vCmp b.fLow v ≤ 0 ∧ vCmp v b.fHigh ≤ 0 then some (gv b) else eqL v (l.map gv)) with | none => 0 | some b => eachB b)
    by_cases g1 : vCmp b.fLow v ≤ 0
    · rw [dT g1, cond_true]
      by_cases g2 : vCmp v b.fHigh ≤ 0
      · rw [dT g2, cond_true, if_pos ⟨g1, g2⟩]
      · rw [dF g2, cond_false, if_neg fun c => g2 c.2]
    · rw [dF g1, cond_false, cond_false, if_neg fun c => g1 c.1]
theorem ref19_Equal_ok {a : Option (List T19)} (ha : WT a) {v : api_Value} (hv : W_api_Value v) {n : Nat} (h : 2000040 ≤ n) : ref19_Equal n a v = some (equalH ((sll a).map gv) v) := by
  obtain ⟨n, rfl⟩ : ∃ k, n = k + 1 := ⟨n - 1, by omega⟩
  have ha1 := ha.1
  unfold ref19_Equal equalH
  simp only [at1_succ, withK]
  cases hq : askH ((sll a).map gv) v with
  | false =>
    obtain ⟨n, rfl⟩ : ∃ k, n = k + 1 := ⟨n - 1, by omega⟩
    rw [ref19_Equal_l2]
    cases hd : decide ((0 : Int) < ((sll a).length : Int)) with
    | false => rfl
    | true => rw [cond_true, ref19_asked_ok ha hv (by omega), hq]; rfl
  | true =>
    obtain ⟨h1, h2⟩ := right_len (ask_all hq).1
    have := ref19_equal_loop (n := n) (by omega) ha hv hq (sll a) n [] rfl (chain_all h2) (by omega)
    rw [if_pos rfl, ← eqL_loc (v := v) (ah := 0) h2]
    exact this
end Go.Pl

set_option linter.unusedVariables false
set_option linter.unusedSimpArgs false
set_option maxRecDepth 100000
namespace Go.Pl
open Go Go.Ab
/-! ### Shares -/
theorem mul_split (a b : Nat) : a * b = 18446744073709551616 * ((a / 4294967296) * (b / 4294967296)) + 4294967296 * ((a / 4294967296) * (b % 4294967296)) + 4294967296 * ((a % 4294967296) * (b / 4294967296)) + (a % 4294967296) * (b % 4294967296) := by
  conv => lhs; rw [← Nat.div_add_mod a 4294967296, ← Nat.div_add_mod b 4294967296]
  generalize a / 4294967296 = x1
  generalize a % 4294967296 = x0
  generalize b / 4294967296 = y1
  generalize b % 4294967296 = y0
  rw [Nat.mul_add, Nat.add_mul, Nat.add_mul]
  have e1 : 4294967296 * x1 * (4294967296 * y1) = 18446744073709551616 * (x1 * y1) := by rw [Nat.mul_mul_mul_comm]
  have e2 : x0 * (4294967296 * y1) = 4294967296 * (x0 * y1) := Nat.mul_left_comm _ _ _
  have e3 : 4294967296 * x1 * y0 = 4294967296 * (x1 * y0) := Nat.mul_assoc _ _ _
  omega
theorem uadd {a b : Nat} (h : a + b < 18446744073709551616) : IntKind.wrap .u64 ((a : Int) + (b : Int)) = ((a + b : Nat) : Int) := uwrap (by simp) h
theorem umul {a b : Nat} (h : a * b < 18446744073709551616) : IntKind.wrap .u64 ((a : Int) * (b : Int)) = ((a * b : Nat) : Int) := uwrap (by simp) h
theorem mul64_ok {a b : Nat} (ha : a < 18446744073709551616) (hb : b < 18446744073709551616) {n : Nat} (hn : 1 ≤ n) : math_bits_Mul64 n (a : Int) (b : Int) = some (((a * b / 18446744073709551616 : Nat) : Int), ((a * b % 18446744073709551616 : Nat) : Int)) := by
  obtain ⟨n, rfl⟩ : ∃ k, n = k + 1 := ⟨n - 1, by omega⟩
  unfold math_bits_Mul64
  rw [at1_succ, show iShr .u64 (a : Int) 32 = ((a / 4294967296 : Nat) : Int) from shr_nat a 32 (by omega), show iShr .u64 (b : Int) 32 = ((b / 4294967296 : Nat) : Int) from shr_nat b 32 (by omega), and_mask a ha, and_mask b hb]
  have h1 : a % 4294967296 ≤ 4294967295 := by omega
  have h2 : a / 4294967296 ≤ 4294967295 := by omega
  have h3 : b % 4294967296 ≤ 4294967295 := by omega
  have h4 : b / 4294967296 ≤ 4294967295 := by omega
  have p1 := Nat.mul_le_mul h1 h3
  have q1 := Nat.mul_le_mul h2 h3
  have r1 := Nat.mul_le_mul h1 h4
  have s1 := Nat.mul_le_mul h2 h4
  have hE := mul_split a b
  have hab : a * b ≤ 18446744073709551615 * 18446744073709551615 := Nat.mul_le_mul (by omega) (by omega)
  rw [umul (a := a / 4294967296) (b := b / 4294967296) (by omega), umul (a := a / 4294967296) (b := b % 4294967296) (by omega), umul (a := a % 4294967296) (b := b % 4294967296) (by omega), umul (a := a % 4294967296) (b := b / 4294967296) (by omega), uwrap_mul]
  generalize a % 4294967296 * (b % 4294967296) = p at *
  generalize a / 4294967296 * (b % 4294967296) = q at *
  generalize a % 4294967296 * (b / 4294967296) = r at *
  generalize a / 4294967296 * (b / 4294967296) = s at *
  generalize a * b = ab at *
  rw [show iShr .u64 (p : Int) 32 = ((p / 4294967296 : Nat) : Int) from shr_nat p 32 (by omega), uadd (a := q) (b := p / 4294967296) (by omega)]
  rw [show iShr .u64 ((q + p / 4294967296 : Nat) : Int) 32 = (((q + p / 4294967296) / 4294967296 : Nat) : Int) from shr_nat _ 32 (by omega), and_mask (q + p / 4294967296) (by omega)]
  rw [uadd (a := (q + p / 4294967296) % 4294967296) (b := r) (by omega), uadd (a := s) (b := (q + p / 4294967296) / 4294967296) (by omega)]
  rw [show iShr .u64 (((q + p / 4294967296) % 4294967296 + r : Nat) : Int) 32 = ((((q + p / 4294967296) % 4294967296 + r) / 4294967296 : Nat) : Int) from shr_nat _ 32 (by omega)]
  rw [uadd (a := s + (q + p / 4294967296) / 4294967296) (b := ((q + p / 4294967296) % 4294967296 + r) / 4294967296) (by omega)]
  congr 3
  omega
/-- Which part of a number: count · part / whole. -/
theorem share_prog {c part whole : Nat} (hc : c < 1000001) (hp : part < whole) (hw : whole < 18446744073709551616) {n : Nat} (hn : 10 ≤ n) : ∃ x r, math_bits_Mul64 n (c : Int) (part : Int) = some x ∧ math_bits_Div64 n x.1 x.2 (whole : Int) = some (((c * part / whole : Nat) : Int), r) := by
  have h1 : c * part / 18446744073709551616 < whole := by
    have h2 : c * part < whole * 18446744073709551616 := by
      have : c * part ≤ c * whole := Nat.mul_le_mul_left _ (by omega)
      have h3 : c * whole ≤ 18446744073709551615 * whole := Nat.mul_le_mul_right _ (by omega)
      omega
    rw [Nat.div_lt_iff_lt_mul (by decide)]; exact h2
  obtain ⟨r, hr⟩ := div64_ok (lo := c * part % 18446744073709551616) (Nat.mod_lt _ (by decide)) hw h1 hn
  refine ⟨_, r, mul64_ok (by omega) (by omega) (by omega), ?_⟩
  rw [hr]
  congr 3
  have := Nat.div_add_mod (c * part) 18446744073709551616
  rw [Nat.mul_comm] at this
  rw [this]
theorem share_loop {n : Nat} {part whole : Nat} (hp : part < whole) (hw : whole < 18446744073709551616) : ∀ (d m i k rest : Nat), rest < whole → i * part = k * whole + rest → i + d ≤ 1000000 → k ≤ i → d < m →
    ref19_Share_l4 n ((i + d : Nat) : Int) (part : Int) (whole : Int) (fun y => some y) m (k : Int) (rest : Int) (i : Int) = some ((((i + d) * part / whole : Nat) : Int))
  | 0, m, i, k, rest, hr, he, hd, hk, hm => by
    obtain ⟨m, rfl⟩ : ∃ j, m = j + 1 := ⟨m - 1, by omega⟩
    rw [ref19_Share_l4, dF (by omega), cond_false, Nat.add_zero, he]
    have : (k * whole + rest) / whole = k := by
      rw [Nat.mul_comm, Nat.mul_add_div (by omega), Nat.div_eq_of_lt hr, Nat.add_zero]
    rw [this]
  | d + 1, m, i, k, rest, hr, he, hd, hk, hm => by
    obtain ⟨m, rfl⟩ : ∃ j, m = j + 1 := ⟨m - 1, by omega⟩
    have e1 : IntKind.wrap .u64 ((whole : Int) - (rest : Int)) = ((whole - rest : Nat) : Int) := uwrap (by omega) (by omega)
    rw [ref19_Share_l4, dT (by omega), cond_true, e1, wrapN (by omega), wrapN (by omega)]
    have hm1 : (i + 1) * part = i * part + part := by rw [Nat.add_mul, Nat.one_mul]
    have hk1 : (k + 1) * whole = k * whole + whole := by rw [Nat.add_mul, Nat.one_mul]
    by_cases hc : part ≥ whole - rest
    · rw [dT (by omega), cond_true, uwrap (x := (part : Int) - _) (v := part - (whole - rest)) (by omega) (by omega)]
      have := share_loop (n := n) hp hw d m (i + 1) (k + 1) (part - (whole - rest)) (by omega) (by omega) (by omega) (by omega) (by omega)
      rw [show i + 1 + d = i + (d + 1) by omega] at this
      exact this
    · rw [dF (by omega), cond_false, uwrap (x := (rest : Int) + part) (v := rest + part) (by omega) (by omega)]
      have := share_loop (n := n) hp hw d m (i + 1) k (rest + part) (by omega) (by omega) (by omega) (by omega) (by omega)
      rw [show i + 1 + d = i + (d + 1) by omega] at this
      exact this
theorem share_ref {c part whole : Nat} (hc : c ≤ 1000000) (hp : part < whole) (hw : whole < 18446744073709551616) {n : Nat} (hn : 1000010 ≤ n) : ref19_Share n (c : Int) (part : Int) (whole : Int) = some (((c * part / whole : Nat) : Int)) := by
  obtain ⟨n, rfl⟩ : ∃ k, n = k + 1 := ⟨n - 1, by omega⟩
  unfold ref19_Share
  simp only [at1_succ, withK]
  have := share_loop (n := n) hp hw c n 0 0 0 (by omega) (by omega) (by omega) (by omega) (by omega)
  rw [Nat.zero_add] at this
  exact this
/-! ### Within a bucket -/
def partN (b : HB) (v : api_Value) : Nat := (v.fInt - b.fLow.fInt).toNat
def wholeN (b : HB) : Nat := (b.fHigh.fInt - b.fLow.fInt).toNat
def shareB (b : HB) (v : api_Value) : Int := if v.fKind = 2 then ((b.fCount.toNat * partN b v / wholeN b : Nat) : Int) else Int.tdiv b.fCount 2
/-- Between a bucket's bounds. -/
structure Mid (b : HB) (v : api_Value) : Prop where
  s : Snd b
  rv : vRight v = true
  lo : vCmp b.fLow v < 0
  hi : vCmp v b.fHigh < 0
theorem plain_of {v : api_Value} (h : vRight v = true) (hk : v.fKind ≠ 3) : vPlain v = v := by
  unfold vPlain
  rw [h, show (v.fKind == 3) = false by simpa using hk]; rfl
theorem kind_plain {v : api_Value} (h : vRight v = true) : (vPlain v).fKind = v.fKind := by
  unfold vPlain
  rw [h]
  simp only [Bool.not_true, cond_false]
  cases hk : v.fKind == 3 with
  | false => rfl
  | true =>
    have : v.fKind = 3 := by simpa using hk
    cases isZero v.fFloat with
    | true => exact this.symm
    | false => rfl
theorem cmp_kinds {v w : api_Value} (hv : vRight v = true) (hw : vRight w = true) (h : vCmp v w ≤ 0) : v.fKind ≤ w.fKind := by
  unfold vCmp vC at h
  rw [kind_plain hv, kind_plain hw] at h
  by_cases e : v.fKind = w.fKind
  · omega
  · rw [if_pos e] at h
    have := iC_cases v.fKind w.fKind
    omega
theorem cmp_ints {v w : api_Value} (hv : vRight v = true) (hw : vRight w = true) (h1 : v.fKind = 2) (h2 : w.fKind = 2) : vCmp v w = iC v.fInt w.fInt := by
  unfold vCmp
  rw [plain_of hv (by omega), plain_of hw (by omega)]
  unfold vC
  rw [if_neg (by omega), if_neg (by omega), if_neg (by omega)]
theorem mid_kind {b : HB} {v : api_Value} (h : Mid b v) : v.fKind = b.fLow.fKind ∧ v.fKind = b.fHigh.fKind := by
  have h1 := (plain_right h.s.pl).1
  have h2 := (plain_right h.s.ph).1
  have a1 := cmp_kinds h1 h.rv (by have := h.lo; omega)
  have a2 := cmp_kinds h.rv h2 (by have := h.hi; omega)
  have := h.s.kd
  omega
theorem mid_ints {b : HB} {v : api_Value} (hW : W_hist_Bucket b) (hv : W_api_Value v) (h : Mid b v) (hk : v.fKind = 2) : b.fLow.fInt < v.fInt ∧ v.fInt < b.fHigh.fInt ∧ b.fHigh.fInt - b.fLow.fInt < 18446744073709551616 := by
  obtain ⟨k1, k2⟩ := mid_kind h
  have h1 := (plain_right h.s.pl).1
  have h2 := (plain_right h.s.ph).1
  have c1 := h.lo
  have c2 := h.hi
  rw [cmp_ints h1 h.rv (by omega) hk] at c1
  rw [cmp_ints h.rv h2 hk (by omega)] at c2
  have i1 := iC_cases b.fLow.fInt v.fInt
  have i2 := iC_cases v.fInt b.fHigh.fInt
  have w1 := hW.1.2.1
  have w2 := hW.2.1.2.1
  simp only [wI, IntKind.min, IntKind.max, IntKind.signed, IntKind.bits] at w1 w2
  simp at w1 w2
  omega
theorem usub_int {x y : Int} (h1 : y ≤ x) (h2 : x - y < 18446744073709551616) : IntKind.wrap .u64 (IntKind.wrap .u64 x - IntKind.wrap .u64 y) = ((x - y).toNat : Int) := by
  simp only [IntKind.wrap, IntKind.signed, IntKind.bits]
  simp
  omega
theorem hist_share_ok {b : HB} {v : api_Value} (hW : W_hist_Bucket b) (hv : W_api_Value v) (h : Mid b v) {n : Nat} (hn : 20 ≤ n) : hist_share n b v = some (shareB b v) := by
  obtain ⟨n, rfl⟩ : ∃ k, n = k + 1 := ⟨n - 1, by omega⟩
  have c1 := h.s.c1; have c2 := h.s.c2
  unfold hist_share shareB
  rw [at1_succ]
  by_cases hk : v.fKind = 2
  · obtain ⟨m1, m2, m3⟩ := mid_ints hW hv h hk
    rw [if_pos hk, show (v.fKind != 2) = false by simp [hk], cond_false, usub_int (by omega) (by omega), usub_int (by omega) (by omega)]
    have ec : IntKind.wrap .u64 b.fCount = ((b.fCount.toNat : Nat) : Int) := uwrap (by omega) (by omega)
    rw [ec]
    obtain ⟨x, r, e1, e2⟩ := share_prog (c := b.fCount.toNat) (part := (v.fInt - b.fLow.fInt).toNat) (whole := (b.fHigh.fInt - b.fLow.fInt).toNat) (by omega) (by omega) (by omega) (n := n) (by omega)
    rw [e1, Option.bind_some, e2, Option.bind_some]
    congr 1
    have hle : b.fCount.toNat * (v.fInt - b.fLow.fInt).toNat / (b.fHigh.fInt - b.fLow.fInt).toNat ≤ b.fCount.toNat := by
      have : b.fCount.toNat * (v.fInt - b.fLow.fInt).toNat ≤ b.fCount.toNat * (b.fHigh.fInt - b.fLow.fInt).toNat := Nat.mul_le_mul_left _ (by omega)
      exact Nat.div_le_of_le_mul (by rw [Nat.mul_comm (b.fHigh.fInt - b.fLow.fInt).toNat]; exact this)
    unfold partN wholeN
    generalize b.fCount.toNat * (v.fInt - b.fLow.fInt).toNat / (b.fHigh.fInt - b.fLow.fInt).toNat = z at hle
    exact wv rfl (by omega)
  · rw [if_neg hk, show (v.fKind != 2) = true by simp [hk], cond_true]
    congr 1
    have : 0 ≤ Int.tdiv b.fCount 2 ∧ Int.tdiv b.fCount 2 ≤ b.fCount := by
      rw [Int.tdiv_eq_ediv_of_nonneg (by omega)]; omega
    exact wrapI (by omega) (by omega)
theorem share_range {b : HB} {v : api_Value} (hW : W_hist_Bucket b) (hv : W_api_Value v) (h : Mid b v) : 0 ≤ shareB b v ∧ shareB b v ≤ b.fCount := by
  have c1 := h.s.c1; have c2 := h.s.c2
  unfold shareB
  by_cases hk : v.fKind = 2
  · obtain ⟨m1, m2, m3⟩ := mid_ints hW hv h hk
    rw [if_pos hk]
    have hle : b.fCount.toNat * (v.fInt - b.fLow.fInt).toNat / (b.fHigh.fInt - b.fLow.fInt).toNat ≤ b.fCount.toNat := by
      have : b.fCount.toNat * (v.fInt - b.fLow.fInt).toNat ≤ b.fCount.toNat * (b.fHigh.fInt - b.fLow.fInt).toNat := Nat.mul_le_mul_left _ (by omega)
      exact Nat.div_le_of_le_mul (by rw [Nat.mul_comm (b.fHigh.fInt - b.fLow.fInt).toNat]; exact this)
    unfold partN wholeN
    generalize b.fCount.toNat * (v.fInt - b.fLow.fInt).toNat / (b.fHigh.fInt - b.fLow.fInt).toNat = z at hle
    omega
  · rw [if_neg hk, Int.tdiv_eq_ediv_of_nonneg (by omega)]; omega
def withinB (b : HB) (v : api_Value) : Int := min (max (shareB b v) (eachB b)) (b.fCount - eachB b)
theorem hist_within_ok {b : HB} {v : api_Value} (hW : W_hist_Bucket b) (hv : W_api_Value v) (h : Mid b v) {n : Nat} (hn : 30 ≤ n) : hist_within n b v = some (withinB b v) := by
  obtain ⟨n, rfl⟩ : ∃ k, n = k + 1 := ⟨n - 1, by omega⟩
  have c1 := h.s.c1; have c2 := h.s.c2
  have hr := each_range h.s
  unfold hist_within withinB
  rw [at1_succ, hist_share_ok hW hv h (by omega), Option.bind_some, hist_each_ok h.s (by omega), Option.bind_some, Option.bind_some, wrapI (x := b.fCount - eachB b) (by omega) (by omega)]
  congr 1
  split <;> split <;> omega
/-- How many of a bucket's values are less. -/
def inB (b : HB) (v : api_Value) (also : Bool) : Int :=
  if vCmp v b.fHigh = 0 then (bif also then b.fCount else b.fCount - eachB b) else if vCmp v b.fLow = 0 then (bif also then eachB b else 0) else withinB b v
def belowH (h : List HB) (v : api_Value) (also : Bool) : Int := if askH h v = true then (match (loc v h 0).1 with | none => (loc v h 0).2 | some b => (loc v h 0).2 + inB b v also) else 0
theorem loc_range {v : api_Value} : ∀ {h : List HB} {ah : Int}, (∀ b, b ∈ h → Snd b) → 0 ≤ ah → 0 ≤ (loc v h ah).2 ∧ (loc v h ah).2 ≤ ah + sumC h
  | [], ah, _, _ => by simp [loc, sumC]; omega
  | b :: h, ah, hs, h0 => by
    have h1 := hs b (by simp)
    have := h1.c1; have := h1.c2
    have hr := sumC_range (h := h) fun c hc => hs c (List.mem_cons_of_mem _ hc)
    rw [loc, sumC]
    split
    · simp only; omega
    · split
      · simp only; omega
      · have := loc_range (v := v) (h := h) (ah := ah + b.fCount) (fun c hc => hs c (List.mem_cons_of_mem _ hc)) (by omega)
        omega
theorem inB_range {b : HB} {v : api_Value} (hW : W_hist_Bucket b) (hv : W_api_Value v) (hs : Snd b) (hr : vRight v = true) (h1 : vCmp b.fLow v ≤ 0) (h2 : vCmp v b.fHigh ≤ 0) (also : Bool) : 0 ≤ inB b v also ∧ inB b v also ≤ b.fCount := by
  have he := each_range hs
  have an := vCmp_ord.anti v b.fLow
  unfold inB
  split
  · cases also <;> simp <;> omega
  · split
    · cases also <;> simp <;> omega
    · have := share_range hW hv ⟨hs, hr, by omega, by omega⟩
      unfold withinB
      omega
theorem hist_Below_ok {a : Option (List HB)} (ha : WH a) {v : api_Value} (hv : W_api_Value v) (also : Bool) {n : Nat} (h : 2000030 ≤ n) : hist_Below n a v also = some (belowH (sll a) v also) := by
  obtain ⟨n, rfl⟩ : ∃ k, n = k + 1 := ⟨n - 1, by omega⟩
  unfold hist_Below belowH
  rw [at1_succ]
  rcases hist_find_ok ha hv (n := n) (by omega) with ⟨h1, h2⟩ | ⟨h1, i, t, h2, h3⟩
  · rw [h2, h1]; rfl
  · rw [h2, h1, if_pos rfl, Option.bind_some]
    rcases h3 with ⟨rfl, h3⟩ | ⟨rfl, b, h3, h4⟩
    · rw [h3]; rfl
    · simp only [Bool.not_true, cond_false]
      have hb := loc_mem (v := v) (h := sll a) (ah := 0) (b := b) (k := (loc v (sll a) 0).2) (by rw [← h3])
      obtain ⟨r1, r2, r3⟩ := ask_all h1
      have hall := chain_all (right_len r1).2
      have hs := hall b hb.1
      have hW := ha.2 b hb.1
      have hlr := loc_range (v := v) hall (Int.le_refl 0)
      have hsr := sumC_range hall
      have hle := (right_len r1).1
      have he := each_range hs
      have c1 := hs.c1; have c2 := hs.c2
      have an := vCmp_ord.anti v b.fLow
      have sm1 : value_Same n v b.fHigh = some (vCmp v b.fHigh == 0) := by
        obtain ⟨n, rfl⟩ : ∃ k, n = k + 1 := ⟨n - 1, by omega⟩
        unfold value_Same
        rw [at1_succ, value_Cmp_ok hv hW.2.1 (by omega)]; rfl
      have sm2 : value_Same n v b.fLow = some (vCmp v b.fLow == 0) := by
        obtain ⟨n, rfl⟩ : ∃ k, n = k + 1 := ⟨n - 1, by omega⟩
        unfold value_Same
        rw [at1_succ, value_Cmp_ok hv hW.1 (by omega)]; rfl
      rw [h4, Option.bind_some, sm1, Option.bind_some, Option.bind_some, sm2, Option.bind_some, Option.bind_some, hist_each_ok hs (by omega), Option.bind_some, Option.bind_some, h3]
      generalize (loc v (sll a) 0).2 = ah at *
      simp only []
      rw [wrapI (x := ah + b.fCount) (by omega) (by omega), wrapI (x := ah + b.fCount - eachB b) (by omega) (by omega), wrapI (x := ah + eachB b) (by omega) (by omega)]
      unfold inB
      by_cases e1 : vCmp v b.fHigh = 0
      · rw [if_pos e1, show (vCmp v b.fHigh == 0) = true by simp [e1]]
        cases also <;> simp <;> omega
      · rw [if_neg e1, show (vCmp v b.fHigh == 0) = false by simp [e1]]
        by_cases e2 : vCmp v b.fLow = 0
        · rw [if_pos e2, show (vCmp v b.fLow == 0) = true by simp [e2]]
          cases also <;> simp
        · have hm : Mid b v := ⟨hs, r2, by omega, by omega⟩
          have hwr : 0 ≤ withinB b v ∧ withinB b v ≤ b.fCount := by
            have := share_range hW hv hm
            unfold withinB; omega
          rw [if_neg e2, show (vCmp v b.fLow == 0) = false by simp [e2], hist_within_ok hW hv hm (by omega)]
          simp only [Bool.false_and, cond_false, Option.bind_some]
          rw [wrapI (by omega) (by omega)]
theorem ref19_below_loop {n : Nat} (hn : 2000050 ≤ n) {a : Option (List T19)} (ha : WT a) {v : api_Value} (hv : W_api_Value v) (also : Bool) (hq : askH ((sll a).map gv) v = true) : ∀ (l : List T19) (m : Nat) (p : List T19) (s : Int) (o : Option HB), sll a = p ++ l → chainP o (l.map gv) = true → loc v ((sll a).map gv) 0 = loc v (l.map gv) s → 0 ≤ s → s + 1000000 * l.length ≤ 100000000 → l.length < m →
    ref19_Below_l3 n a v also (fun y => some y) m s (p.length : Int) = some (match (loc v (l.map gv) s).1 with | none => (loc v (l.map gv) s).2 | some b => (loc v (l.map gv) s).2 + inB b v also)
  | [], m, p, s, o, he, _, _, _, _, hm => by
    obtain ⟨m, rfl⟩ : ∃ j, m = j + 1 := ⟨m - 1, by omega⟩
    rw [List.append_nil] at he
    rw [ref19_Below_l3, he, dF (by omega), cond_false]
    rfl
  | b :: l, m, p, s, o, he, hc, hloc, h0, hb, hm => by
    obtain ⟨m, rfl⟩ : ∃ j, m = j + 1 := ⟨m - 1, by omega⟩
    have hlen : (sll a).length = p.length + (l.length + 1) := by rw [he]; simp
    have ha1 := ha.1
    rw [List.length_cons] at hm hb
    have hs : Snd (gv b) := chain_all hc (gv b) (by simp)
    have c1 : 1 ≤ b.fCount := hs.c1
    have c2 : b.fCount ≤ 1000000 := hs.c2
    have hix : idx (sll a) (p.length : Int) = some b := by rw [he]; exact idx_app p b l
    have hW := ha.2 b (by rw [he]; simp)
    have hrv := (ask_all hq).2.1
    have an1 := vCmp_ord.anti v b.fHigh
    have an2 := vCmp_ord.anti v b.fLow
    rw [ref19_Below_l3, dT (by omega), cond_true, ref19_asked_ok ha hv (by omega), Option.bind_some, hq, cond_true, hix, Option.bind_some, ref04_Cmp_ok hW.2.1 hv (by omega), Option.bind_some, ref04_Cmp_ok hv hW.1 (by omega), Option.bind_some, ref19_Equal_ok ha hv (by omega), Option.bind_some, ref04_Cmp_ok hv hW.2.1 (by omega), Option.bind_some, Option.bind_some]
    rw [List.map_cons] at hloc hc ⊢
    have el : loc v (gv b :: l.map gv) s = if vCmp v b.fLow < 0 then (none, s) else if vCmp v b.fHigh ≤ 0 then (some (gv b), s) else loc v (l.map gv) (s + b.fCount) := rfl
    rw [el] at hloc ⊢
    by_cases g1 : vCmp b.fHigh v < 0
    · -- ahead
      have g2 : ¬ vCmp v b.fLow < 0 := by
        intro g
        have t1 := vCmp_ord.trans v b.fLow b.fHigh (by omega) hs.le
        omega
      rw [dT g1, cond_true, wrapN (by omega), wrapI (x := s + b.fCount) (by omega) (by omega)]
      rw [if_neg g2, if_neg (by omega)] at hloc ⊢
      have := ref19_below_loop hn ha hv also hq l m (p ++ [b]) (s + b.fCount) (some (gv b)) (by rw [he]; simp) (chain_next hc) hloc (by omega) (by omega) (by omega)
      rw [show (p ++ [b]).length = p.length + 1 by simp] at this
      exact this
    · rw [dF g1, cond_false]
      by_cases g2 : vCmp v b.fLow < 0
      · rw [dT g2, cond_true, if_pos g2]
      · rw [dF g2, cond_false, if_neg g2, if_pos (by omega)]
        rw [if_neg g2, if_pos (by omega)] at hloc
        have heq : equalH ((sll a).map gv) v = eachB (gv b) := by
          unfold equalH
          rw [hq, if_pos rfl, hloc]
        have her := each_range hs
        have cc : (gv b).fCount = b.fCount := rfl
        rw [heq]
        simp only []
        have lowE : (gv b).fLow = b.fLow := rfl
        have highE : (gv b).fHigh = b.fHigh := rfl
        rw [wrapI (x := s + b.fCount) (by omega) (by omega), wrapI (x := s + b.fCount - eachB (gv b)) (by omega) (by omega), wrapI (x := s + eachB (gv b)) (by omega) (by omega), wrapI (x := b.fCount - eachB (gv b)) (by omega) (by omega)]
        unfold inB
        rw [lowE, highE, cc]
        by_cases e1 : vCmp v b.fHigh = 0
        · rw [if_pos e1, show (vCmp v b.fHigh == 0) = true by simp [e1]]
          cases also <;> simp <;> omega
        · rw [if_neg e1, show (vCmp v b.fHigh == 0) = false by simp [e1], cond_false]
          by_cases e2 : vCmp v b.fLow = 0
          · rw [if_pos e2, show (vCmp v b.fLow == 0) = true by simp [e2]]
            cases also <;> simp
          · have hm' : Mid (gv b) v := ⟨hs, hrv, by rw [lowE]; omega, by rw [highE]; omega⟩
            have hsr := share_range (b := gv b) (gv_W hW) hv hm'
            rw [if_neg e2, show (vCmp v b.fLow == 0) = false by simp [e2], cond_false]
            simp only [withK]
            have sh : (bif (v.fKind == 2) then (ref19_Share n b.fCount (IntKind.wrap .u64 ((IntKind.wrap .u64 v.fInt) - (IntKind.wrap .u64 b.fLow.fInt))) (IntKind.wrap .u64 ((IntKind.wrap .u64 b.fHigh.fInt) - (IntKind.wrap .u64 b.fLow.fInt)))).bind fun x42 => bif decide (x42 < eachB (gv b)) then (bif decide (eachB (gv b) > b.fCount - eachB (gv b)) then some (IntKind.wrap .i64 (s + (b.fCount - eachB (gv b)))) else some (IntKind.wrap .i64 (s + eachB (gv b)))) else (bif decide (x42 > b.fCount - eachB (gv b)) then some (IntKind.wrap .i64 (s + (b.fCount - eachB (gv b)))) else some (IntKind.wrap .i64 (s + x42))) else bif decide (IntKind.wrap .i64 (Int.tdiv b.fCount 2) < eachB (gv b)) then (bif decide (eachB (gv b) > b.fCount - eachB (gv b)) then some (IntKind.wrap .i64 (s + (b.fCount - eachB (gv b)))) else some (IntKind.wrap .i64 (s + eachB (gv b)))) else (bif decide (IntKind.wrap .i64 (Int.tdiv b.fCount 2) > b.fCount - eachB (gv b)) then some (IntKind.wrap .i64 (s + (b.fCount - eachB (gv b)))) else some (IntKind.wrap .i64 (s + IntKind.wrap .i64 (Int.tdiv b.fCount 2)))))
                = (bif decide (shareB (gv b) v < eachB (gv b)) then (bif decide (eachB (gv b) > b.fCount - eachB (gv b)) then some (IntKind.wrap .i64 (s + (b.fCount - eachB (gv b)))) else some (IntKind.wrap .i64 (s + eachB (gv b)))) else (bif decide (shareB (gv b) v > b.fCount - eachB (gv b)) then some (IntKind.wrap .i64 (s + (b.fCount - eachB (gv b)))) else some (IntKind.wrap .i64 (s + shareB (gv b) v)))) := by
              by_cases hk : v.fKind = 2
              · obtain ⟨m1, m2, m3⟩ := mid_ints (gv_W hW) hv hm' hk
                rw [lowE] at m1
                rw [highE] at m2
                rw [lowE, highE] at m3
                have e : ref19_Share n b.fCount (IntKind.wrap .u64 ((IntKind.wrap .u64 v.fInt) - (IntKind.wrap .u64 b.fLow.fInt))) (IntKind.wrap .u64 ((IntKind.wrap .u64 b.fHigh.fInt) - (IntKind.wrap .u64 b.fLow.fInt))) = some (shareB (gv b) v) := by
                  rw [usub_int (by omega) (by omega), usub_int (by omega) (by omega)]
                  have := share_ref (c := b.fCount.toNat) (part := (v.fInt - b.fLow.fInt).toNat) (whole := (b.fHigh.fInt - b.fLow.fInt).toNat) (by omega) (by omega) (by omega) (n := n) (by omega)
                  rw [show ((b.fCount.toNat : Nat) : Int) = b.fCount by omega] at this
                  rw [this]
                  unfold shareB
                  rw [if_pos hk]
                  rfl
                rw [show (v.fKind == 2) = true by simp [hk], cond_true, e, Option.bind_some]
              · have e : IntKind.wrap .i64 (Int.tdiv b.fCount 2) = shareB (gv b) v := by
                  unfold shareB
                  rw [if_neg hk]
                  have : 0 ≤ Int.tdiv b.fCount 2 ∧ Int.tdiv b.fCount 2 ≤ b.fCount := by
                    rw [Int.tdiv_eq_ediv_of_nonneg (by omega)]; omega
                  exact wrapI (by omega) (by omega)
                rw [show (v.fKind == 2) = false by simp [hk], cond_false, e]
            refine Eq.trans sh ?_
            unfold withinB
            rw [cc]
            rw [cc] at hsr
            generalize shareB (gv b) v = k at *
            generalize eachB (gv b) = e at *
            rw [cc] at her
            rw [wrapI (x := s + (b.fCount - e)) (by omega) (by omega), wrapI (x := s + e) (by omega) (by omega), wrapI (x := s + k) (by omega) (by omega)]
            by_cases d1 : k < e
            · rw [dT d1, cond_true]
              by_cases d2 : e > b.fCount - e
              · rw [dT d2, cond_true]; congr 1; omega
              · rw [dF d2, cond_false]; congr 1; omega
            · rw [dF d1, cond_false]
              by_cases d2 : k > b.fCount - e
              · rw [dT d2, cond_true]; congr 1; omega
              · rw [dF d2, cond_false]; congr 1; omega
theorem ref19_Below_ok {a : Option (List T19)} (ha : WT a) {v : api_Value} (hv : W_api_Value v) (also : Bool) {n : Nat} (h : 2000060 ≤ n) : ref19_Below n a v also = some (belowH ((sll a).map gv) v also) := by
  obtain ⟨n, rfl⟩ : ∃ k, n = k + 1 := ⟨n - 1, by omega⟩
  have ha1 := ha.1
  unfold ref19_Below belowH
  simp only [at1_succ, withK]
  cases hq : askH ((sll a).map gv) v with
  | false =>
    obtain ⟨n, rfl⟩ : ∃ k, n = k + 1 := ⟨n - 1, by omega⟩
    rw [ref19_Below_l3]
    cases hd : decide ((0 : Int) < ((sll a).length : Int)) with
    | false => rfl
    | true => rw [cond_true, ref19_asked_ok ha hv (by omega), hq]; rfl
  | true =>
    obtain ⟨h1, h2⟩ := right_len (ask_all hq).1
    rw [List.length_map] at h1
    rw [if_pos rfl]
    exact ref19_below_loop (n := n) (by omega) ha hv also hq (sll a) n [] 0 none rfl h2 rfl (by omega) (by omega) (by omega)
theorem works19_ok : law19_works 3999999 = some true := rfl
theorem HistTells_true {n : Nat} (h : n = 4000000) {a : Option (List T19)} {v : api_Value} {also : Bool} (ha : WT a) (hv : W_api_Value v) (hb : wB also) : law19_HistTells n a v also = some true := by
  subst h
  rw [show (4000000 : Nat) = 3999999 + 1 from rfl]
  unfold law19_HistTells
  rw [at1_succ]
  by_cases hl : ((sll a).length : Int) > 100
  · rw [dT hl, cond_true]
  have wg := given_W ha
  have sg := sll_mapO gv (sll a)
  rw [dF hl, cond_false, given_ok ha (by decide), Option.bind_some, hist_Right_ok wg (by decide), Option.bind_some, ref19_Right_ok ha (by decide), Option.bind_some, sg, beq_self_eq_true, cond_true,
    hist_Total_ok wg (by decide), Option.bind_some, ref19_Total_ok ha (by decide), Option.bind_some, sg, beq_self_eq_true, cond_true,
    hist_Equal_ok wg hv (by decide), Option.bind_some, ref19_Equal_ok ha hv (by decide), Option.bind_some, sg, beq_self_eq_true, cond_true,
    hist_Below_ok wg hv also (by decide), Option.bind_some, ref19_Below_ok ha hv also (by decide), Option.bind_some, sg, beq_self_eq_true, cond_true, works19_ok]
  rfl
end Go.Pl

