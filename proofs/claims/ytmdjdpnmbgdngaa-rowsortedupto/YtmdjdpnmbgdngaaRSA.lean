import Derived.Test.YtmdjdpnmbgdngaaR5c
import Derived.Sort.AssemblyPlain
import Derived.Test.YtmdjdpnmbgdngaaPC
import Derived.Sort.Statements
set_option linter.unusedVariables false
set_option linter.unusedSimpArgs false
namespace Go.Pl
open Go Go.Ab

/-! ### Sorting: the plain text's lists are the kit's arrays -/
section
variable {α : Type} [Inhabited α]
theorem idx_arr (d : Array α) {i : Nat} (h : i < d.size) : idx d.toList (i : Int) = some d[i]! := by
  rw [idx_nat, Array.getElem?_toList, Array.getElem?_eq_getElem h, getElem!_pos d i h]
theorem swp_list (d : Array α) (i j : Nat) : (d.toList.set i d[j]!).set j d[i]! = (Sort.swp d i j).toList := by
  simp [Sort.swp, Array.toList_setIfInBounds]
theorem swp_size (d : Array α) (i j : Nat) : (Sort.swp d i j).size = d.size := by simp [Sort.swp]
/-- All that stands in an array. -/
def AllA (W : α → Prop) (d : Array α) : Prop := ∀ i, i < d.size → W d[i]!
theorem AllA.swp {W : α → Prop} {d : Array α} (h : AllA W d) {i j : Nat} (hi : i < d.size) (hj : j < d.size) : AllA W (Sort.swp d i j) := by
  intro k hk
  rw [swp_size] at hk
  unfold Sort.swp
  rw [getElem!_pos _ k (by simpa using hk)]
  rw [Array.getElem_setIfInBounds (by simpa using hk)]
  split
  · exact h i hi
  · rw [Array.getElem_setIfInBounds (by simpa using hk)]
    split
    · exact h j hj
    · have := h k hk
      rwa [getElem!_pos d k hk] at this
end
theorem dT {p : Prop} [Decidable p] (h : p) : decide p = true := decide_eq_true h
theorem dF {p : Prop} [Decidable p] (h : ¬ p) : decide p = false := decide_eq_false h
theorem wrapPred {i : Nat} (h : i < 1000000000000) : IntKind.wrap .i64 (((i + 1 : Nat) : Int) - 1) = (i : Int) := by
  rw [wrapI (by omega) (by omega)]; omega

abbrev Row := Option (List api_Value)
abbrev WRow : Row → Prop := wSl W_api_Value
/-- Is a row less? -/
def rLt (x y : Row) : Bool := decide (rCmp (sll x) (sll y) < 0)
theorem rowCmp_ok {d : Array Row} (h : AllA WRow d) {i j : Nat} (hi : i < d.size) (hj : j < d.size) {n : Nat} (hn : 2000010 ≤ n) : row_Cmp n d[i]! d[j]! = some (rCmp (sll d[i]!) (sll d[j]!)) := row_Cmp_ok (h i hi) (h j hj) hn

/-! #### insertionSort -/
theorem insInner_ok {n : Nat} (hn : 2000010 ≤ n) (a : Nat) {K : List Row → Option (List Row)} : ∀ (j m : Nat) (d : Array Row), j < m → j < d.size → d.size < 1000000000 → AllA WRow d →
    slices_insertionSortCmpFunc_Value_row_Cmp_r_l4 n (a : Int) K m d.toList (j : Int) = K (Sort.insInner rLt a j d).toList
  | 0, m, d, hm, hj, hs, hW => by
    obtain ⟨m, rfl⟩ : ∃ k, m = k + 1 := ⟨m - 1, by omega⟩
    rw [slices_insertionSortCmpFunc_Value_row_Cmp_r_l4, dF (by omega : ¬ (((0 : Nat) : Int) > (a : Int))), cond_false]
    rfl
  | j + 1, m, d, hm, hj, hs, hW => by
    obtain ⟨m, rfl⟩ : ∃ k, m = k + 1 := ⟨m - 1, by omega⟩
    rw [slices_insertionSortCmpFunc_Value_row_Cmp_r_l4, Sort.insInner]
    by_cases ha : j + 1 > a
    · rw [dT (by omega : (((j + 1 : Nat) : Int) > (a : Int))), cond_true, wrapPred (by omega), idx_arr d hj, idx_arr d (by omega : j < d.size), Option.bind_some, Option.bind_some, rowCmp_ok hW hj (by omega) hn, Option.bind_some]
      cases hl : rLt d[j + 1]! d[j]! with
      | false =>
        unfold rLt at hl
        rw [hl, cond_false]
        simp
      | true =>
        have hl' := hl
        unfold rLt at hl
        rw [hl, cond_true, Int.toNat_natCast, Int.toNat_natCast, idx_nat, List.getElem?_eq_getElem (by simp; omega), Option.bind_some, swp_list]
        rw [insInner_ok hn a j m (Sort.swp d (j + 1) j) (by omega) (by rw [swp_size]; omega) (by rw [swp_size]; exact hs) (hW.swp hj (by omega))]
        simp [ha]
    · rw [dF (by omega : ¬ (((j + 1 : Nat) : Int) > (a : Int))), cond_false]
      simp [ha]
theorem insInner_keep (a : Nat) : ∀ (j : Nat) (d : Array Row), j < d.size → AllA WRow d → AllA WRow (Sort.insInner rLt a j d) ∧ (Sort.insInner rLt a j d).size = d.size
  | 0, d, _, h => ⟨h, rfl⟩
  | j + 1, d, hj, h => by
    rw [Sort.insInner]
    split
    · have := insInner_keep a j (Sort.swp d (j + 1) j) (by rw [swp_size]; omega) (h.swp hj (by omega))
      rw [swp_size] at this
      exact this
    · exact ⟨h, rfl⟩
theorem insOuter_ok {n : Nat} (hn : 2000010 ≤ n) (a b : Nat) : ∀ (k m i : Nat) (d : Array Row), b - i ≤ k → k < m → b ≤ d.size → d.size < 1000000 → AllA WRow d →
    slices_insertionSortCmpFunc_Value_row_Cmp_r_l1 n (a : Int) (b : Int) m d.toList (i : Int) = some (Sort.insOuter rLt a b i d).toList ∧ AllA WRow (Sort.insOuter rLt a b i d) ∧ (Sort.insOuter rLt a b i d).size = d.size := by
  intro k
  induction k with
  | zero =>
    intro m i d hk hm hb hs hW
    obtain ⟨m, rfl⟩ : ∃ k, m = k + 1 := ⟨m - 1, by omega⟩
    rw [slices_insertionSortCmpFunc_Value_row_Cmp_r_l1, dF (by omega : ¬ ((i : Int) < (b : Int))), cond_false, Sort.insOuter, if_neg (by omega)]
    exact ⟨rfl, hW, rfl⟩
  | succ k ih =>
    intro m i d hk hm hb hs hW
    obtain ⟨m, rfl⟩ : ∃ k, m = k + 1 := ⟨m - 1, by omega⟩
    rw [slices_insertionSortCmpFunc_Value_row_Cmp_r_l1, Sort.insOuter]
    by_cases hi : i < b
    · rw [dT (by omega : ((i : Int) < (b : Int))), cond_true, if_pos hi]
      simp only [withK]
      have hkeep := insInner_keep a i d (by omega) hW
      rw [insInner_ok hn a i n d (by omega) (by omega) (by omega) hW, wrapN (by omega)]
      have := ih m (i + 1) (Sort.insInner rLt a i d) (by omega) (by omega) (by rw [hkeep.2]; exact hb) (by rw [hkeep.2]; exact hs) hkeep.1
      rw [hkeep.2] at this
      exact this
    · rw [dF (by omega : ¬ ((i : Int) < (b : Int))), cond_false, if_neg hi]
      exact ⟨rfl, hW, rfl⟩
theorem insertionSort_ok {n : Nat} (hn : 2000020 ≤ n) {a b : Nat} {d : Array Row} (hab : a ≤ b) (hb : b ≤ d.size) (hs : d.size < 1000000) (hW : AllA WRow d) : slices_insertionSortCmpFunc_Value_row_Cmp_r n d.toList (a : Int) (b : Int) = some (Sort.insertionSort rLt d a b).toList := by
  obtain ⟨n, rfl⟩ : ∃ k, n = k + 1 := ⟨n - 1, by omega⟩
  unfold slices_insertionSortCmpFunc_Value_row_Cmp_r Sort.insertionSort
  rw [at1_succ, wrapN (by omega)]
  exact (insOuter_ok (by omega) a b b n (a + 1) d (by omega) (by omega) hb hs hW).1
end Go.Pl

set_option linter.unusedVariables false
set_option linter.unusedSimpArgs false
namespace Go.Pl
open Go Go.Ab
theorem wv {x : Int} {v : Nat} (h : x = (v : Int)) (hv : v < 1000000000000) : IntKind.wrap .i64 x = (v : Int) := by
  rw [h, wrapI (by omega) (by omega)]
theorem idx_some_ok {α : Type} {l : List α} {i : Nat} (h : i < l.length) : idx l (i : Int) = some l[i] := by rw [idx_nat, List.getElem?_eq_getElem h]
/-- A swap, as the text has it. -/
theorem swap_bind {R : Type} {d : Array Row} {i j : Nat} (hi : i < d.size) (hj : j < d.size) {K : List Row → Option R} :
    ((idx (d.toList.set (Int.toNat (i : Int)) d[j]!) (j : Int)).bind fun _ => K ((d.toList.set (Int.toNat (i : Int)) d[j]!).set (Int.toNat (j : Int)) d[i]!)) = K (Sort.swp d i j).toList := by
  rw [Int.toNat_natCast, Int.toNat_natCast, idx_some_ok (by simpa using hj), Option.bind_some, swp_list]

/-! #### heapSort -/
/-- A round's end: the greater child is known. -/
theorem sift_end {n : Nat} (hn : 2000010 ≤ n) {hi first root c m : Nat} {d : Array Row} (hc : c < hi) (hrc : root < hi) (hb : first + hi ≤ d.size) (hs : d.size < 1000000) (hW : AllA WRow d) {x : Int} {o : Option Row} (hx : x = ((first + c : Nat) : Int)) (ho : o = some d[first + c]!) :
    ((idx d.toList (IntKind.wrap .i64 ((first : Int) + (root : Int)))).bind fun x16 => o.bind fun x18 => (row_Cmp n x16 x18).bind fun x20 => bif (!(decide (x20 < 0))) then some d.toList else (idx (d.toList.set (Int.toNat (IntKind.wrap .i64 ((first : Int) + (root : Int)))) x18) x).bind fun x23 => slices_siftDownCmpFunc_Value_row_Cmp_r_l1 n (hi : Int) (first : Int) m ((d.toList.set (Int.toNat (IntKind.wrap .i64 ((first : Int) + (root : Int)))) x18).set (Int.toNat x) x16) (c : Int)) =
      bif !rLt d[first + root]! d[first + c]! then some d.toList else slices_siftDownCmpFunc_Value_row_Cmp_r_l1 n (hi : Int) (first : Int) m (Sort.swp d (first + root) (first + c)).toList (c : Int) := by
  subst hx ho
  have e1 : IntKind.wrap .i64 ((first : Int) + (root : Int)) = ((first + root : Nat) : Int) := wv (by omega) (by omega)
  rw [e1, idx_arr d (by omega), Option.bind_some, Option.bind_some, rowCmp_ok hW (by omega) (by omega) hn, Option.bind_some]
  rw [swap_bind (by omega) (by omega) (K := fun l => slices_siftDownCmpFunc_Value_row_Cmp_r_l1 n (hi : Int) (first : Int) m l (c : Int))]
  rfl
theorem siftDown_ok {n : Nat} (hn : 2000010 ≤ n) (hi first : Nat) : ∀ (k m root : Nat) (d : Array Row), hi - root ≤ k → k < m → first + hi ≤ d.size → root ≤ hi → d.size < 1000000 → AllA WRow d →
    slices_siftDownCmpFunc_Value_row_Cmp_r_l1 n (hi : Int) (first : Int) m d.toList (root : Int) = some (Sort.siftDown rLt hi first root d).toList ∧ AllA WRow (Sort.siftDown rLt hi first root d) ∧ (Sort.siftDown rLt hi first root d).size = d.size := by
  intro k
  induction k with
  | zero =>
    intro m root d hk hm hb hr hs hW
    obtain ⟨m, rfl⟩ : ∃ k, m = k + 1 := ⟨m - 1, by omega⟩
    have e1 : IntKind.wrap .i64 (2 * (root : Int)) = ((2 * root : Nat) : Int) := wv (by omega) (by omega)
    have e2 : IntKind.wrap .i64 (((2 * root : Nat) : Int) + 1) = ((2 * root + 1 : Nat) : Int) := wv (by omega) (by omega)
    rw [slices_siftDownCmpFunc_Value_row_Cmp_r_l1, Sort.siftDown, dif_pos (by omega), e1, e2, dT (by omega : ((2 * root + 1 : Nat) : Int) ≥ (hi : Int)), cond_true]
    exact ⟨rfl, hW, rfl⟩
  | succ k ih =>
    intro m root d hk hm hb hr hs hW
    obtain ⟨m, rfl⟩ : ∃ k, m = k + 1 := ⟨m - 1, by omega⟩
    have e1 : IntKind.wrap .i64 (2 * (root : Int)) = ((2 * root : Nat) : Int) := wv (by omega) (by omega)
    have e2 : IntKind.wrap .i64 (((2 * root : Nat) : Int) + 1) = ((2 * root + 1 : Nat) : Int) := wv (by omega) (by omega)
    have e3 : IntKind.wrap .i64 (((2 * root + 1 : Nat) : Int) + 1) = ((2 * root + 2 : Nat) : Int) := wv (by omega) (by omega)
    have e4 : IntKind.wrap .i64 ((first : Int) + ((2 * root + 1 : Nat) : Int)) = ((first + (2 * root + 1) : Nat) : Int) := wv (by omega) (by omega)
    have e5 : IntKind.wrap .i64 (((first + (2 * root + 1) : Nat) : Int) + 1) = ((first + (2 * root + 1) + 1 : Nat) : Int) := wv (by omega) (by omega)
    rw [slices_siftDownCmpFunc_Value_row_Cmp_r_l1, Sort.siftDown]
    simp only [withK, e1, e2, e3, e4, e5]
    by_cases hge : 2 * root + 1 ≥ hi
    · rw [dif_pos hge, dT (by omega : ((2 * root + 1 : Nat) : Int) ≥ (hi : Int)), cond_true]
      exact ⟨rfl, hW, rfl⟩
    · rw [dif_neg hge, dF (by omega : ¬ ((2 * root + 1 : Nat) : Int) ≥ (hi : Int)), cond_false]
      -- one child
      have one : ((bif !rLt d[first + root]! d[first + (2 * root + 1)]! then some d.toList else slices_siftDownCmpFunc_Value_row_Cmp_r_l1 n (hi : Int) (first : Int) m (Sort.swp d (first + root) (first + (2 * root + 1))).toList ((2 * root + 1 : Nat) : Int)) = some (if !rLt d[first + root]! d[first + (2 * root + 1)]! then d else Sort.siftDown rLt hi first (2 * root + 1) (Sort.swp d (first + root) (first + (2 * root + 1)))).toList) ∧ AllA WRow (if !rLt d[first + root]! d[first + (2 * root + 1)]! then d else Sort.siftDown rLt hi first (2 * root + 1) (Sort.swp d (first + root) (first + (2 * root + 1)))) ∧ (if !rLt d[first + root]! d[first + (2 * root + 1)]! then d else Sort.siftDown rLt hi first (2 * root + 1) (Sort.swp d (first + root) (first + (2 * root + 1)))).size = d.size := by
        have := ih m (2 * root + 1) (Sort.swp d (first + root) (first + (2 * root + 1))) (by omega) (by omega) (by rw [swp_size]; exact hb) (by omega) (by rw [swp_size]; exact hs) (hW.swp (by omega) (by omega))
        rw [swp_size] at this
        cases rLt d[first + root]! d[first + (2 * root + 1)]!
        · exact ⟨rfl, hW, rfl⟩
        · exact this
      by_cases h2 : 2 * root + 2 < hi
      · rw [dT (by omega : ((2 * root + 2 : Nat) : Int) < (hi : Int)), cond_true, idx_arr d (by omega), idx_arr d (by omega), Option.bind_some, Option.bind_some, rowCmp_ok hW (by omega) (by omega) hn, Option.bind_some]
        cases hl : rLt d[first + (2 * root + 1)]! d[first + (2 * root + 1) + 1]! with
        | true =>
          have hl' := hl
          unfold rLt at hl'
          rw [hl', cond_true, sift_end hn (c := 2 * root + 2) (by omega) (by omega) hb hs hW (wv (by omega) (by omega)) (by rw [wv (v := first + (2 * root + 2)) (by omega) (by omega), idx_arr d (by omega)])]
          have := ih m (2 * root + 2) (Sort.swp d (first + root) (first + (2 * root + 2))) (by omega) (by omega) (by rw [swp_size]; exact hb) (by omega) (by rw [swp_size]; exact hs) (hW.swp (by omega) (by omega))
          rw [swp_size] at this
          rw [if_pos (by simp; omega)]
          cases rLt d[first + root]! d[first + (2 * root + 2)]!
          · exact ⟨rfl, hW, rfl⟩
          · simp only [Bool.not_true, cond_false, h2, dif_pos]
            exact this
        | false =>
          have hl' := hl
          unfold rLt at hl'
          rw [hl', cond_false, sift_end hn (c := 2 * root + 1) (by omega) (by omega) hb hs hW rfl rfl, if_neg (by simp)]
          exact one
      · rw [dF (by omega : ¬ ((2 * root + 2 : Nat) : Int) < (hi : Int)), cond_false, sift_end hn (c := 2 * root + 1) (by omega) (by omega) hb hs hW rfl (idx_arr d (by omega)), if_neg (by simp; omega)]
        exact one
end Go.Pl

set_option linter.unusedVariables false
set_option linter.unusedSimpArgs false
namespace Go.Pl
open Go Go.Ab
theorem wneg {k : Nat} (h : k < 1000000000000) : IntKind.wrap .i64 ((k : Int) - 1) = (k : Int) - 1 := wrapI (by omega) (by omega)
theorem sift_call {n : Nat} (hn : 2000020 ≤ n) {hi first root : Nat} {d : Array Row} (hb : first + hi ≤ d.size) (hr : root ≤ hi) (hs : d.size < 1000000) (hW : AllA WRow d) :
    slices_siftDownCmpFunc_Value_row_Cmp_r n d.toList (root : Int) (hi : Int) (first : Int) = some (Sort.siftDown rLt hi first root d).toList ∧ AllA WRow (Sort.siftDown rLt hi first root d) ∧ (Sort.siftDown rLt hi first root d).size = d.size := by
  obtain ⟨n, rfl⟩ : ∃ k, n = k + 1 := ⟨n - 1, by omega⟩
  unfold slices_siftDownCmpFunc_Value_row_Cmp_r
  rw [at1_succ]
  exact siftDown_ok (by omega) hi first (hi - root) n root d (by omega) (by omega) hb hr hs hW
theorem heapPop_ok {n : Nat} (hn : 2000020 ≤ n) (first : Nat) : ∀ (k m : Nat) (d : Array Row), k < m → first + k ≤ d.size → d.size < 1000000 → AllA WRow d →
    slices_heapSortCmpFunc_Value_row_Cmp_r_l8 n (first : Int) m d.toList ((k : Int) - 1) = some (Sort.heapPop rLt first k d).toList
  | 0, m, d, hm, hb, hs, hW => by
    obtain ⟨m, rfl⟩ : ∃ k, m = k + 1 := ⟨m - 1, by omega⟩
    rw [slices_heapSortCmpFunc_Value_row_Cmp_r_l8, dF (by omega : ¬ (((0 : Nat) : Int) - 1 ≥ 0)), cond_false]
    rfl
  | k + 1, m, d, hm, hb, hs, hW => by
    obtain ⟨m, rfl⟩ : ∃ k, m = k + 1 := ⟨m - 1, by omega⟩
    have e0 : ((k + 1 : Nat) : Int) - 1 = (k : Int) := by omega
    have e1 : IntKind.wrap .i64 ((first : Int) + (k : Int)) = ((first + k : Nat) : Int) := wv (by omega) (by omega)
    rw [e0, slices_heapSortCmpFunc_Value_row_Cmp_r_l8, dT (by omega : (k : Int) ≥ 0), cond_true, e1, idx_arr d (by omega), idx_arr d (by omega), Option.bind_some, Option.bind_some]
    rw [swap_bind (by omega) (by omega) (K := fun l => (slices_siftDownCmpFunc_Value_row_Cmp_r n l 0 (k : Int) (first : Int)).bind fun x27 => slices_heapSortCmpFunc_Value_row_Cmp_r_l8 n (first : Int) m x27 (IntKind.wrap .i64 ((k : Int) - 1)))]
    obtain ⟨h1, h2, h3⟩ := sift_call hn (hi := k) (first := first) (root := 0) (d := Sort.swp d first (first + k)) (by rw [swp_size]; omega) (by omega) (by rw [swp_size]; exact hs) (hW.swp (by omega) (by omega))
    rw [swp_size] at h3
    rw [show (0 : Int) = ((0 : Nat) : Int) from rfl, h1, Option.bind_some, wneg (by omega), heapPop_ok hn first k m _ (by omega) (by rw [h3]; omega) (by rw [h3]; exact hs) h2]
    rfl
theorem heapBuild_ok {n : Nat} (hn : 2000020 ≤ n) {a b : Nat} (hab : a ≤ b) {K : List Row → Option (List Row)} : ∀ (k m : Nat) (d : Array Row), k < m → k ≤ b - a + 1 → b ≤ d.size → d.size < 1000000 → AllA WRow d →
    slices_heapSortCmpFunc_Value_row_Cmp_r_l4 n (a : Int) (b : Int) K m d.toList ((k : Int) - 1) = K (Sort.heapBuild rLt (b - a) a k d).toList ∧ AllA WRow (Sort.heapBuild rLt (b - a) a k d) ∧ (Sort.heapBuild rLt (b - a) a k d).size = d.size
  | 0, m, d, hm, hk, hb, hs, hW => by
    obtain ⟨m, rfl⟩ : ∃ k, m = k + 1 := ⟨m - 1, by omega⟩
    rw [slices_heapSortCmpFunc_Value_row_Cmp_r_l4, dF (by omega : ¬ (((0 : Nat) : Int) - 1 ≥ 0)), cond_false]
    exact ⟨rfl, hW, rfl⟩
  | k + 1, m, d, hm, hk, hb, hs, hW => by
    obtain ⟨m, rfl⟩ : ∃ k, m = k + 1 := ⟨m - 1, by omega⟩
    have e0 : ((k + 1 : Nat) : Int) - 1 = (k : Int) := by omega
    have e1 : IntKind.wrap .i64 ((b : Int) - (a : Int)) = ((b - a : Nat) : Int) := wv (by omega) (by omega)
    obtain ⟨h1, h2, h3⟩ := sift_call hn (hi := b - a) (first := a) (root := k) (d := d) (by omega) (by omega) hs hW
    rw [e0, slices_heapSortCmpFunc_Value_row_Cmp_r_l4, dT (by omega : (k : Int) ≥ 0), cond_true, e1, h1, Option.bind_some, wneg (by omega)]
    have := heapBuild_ok hn hab (K := K) k m (Sort.siftDown rLt (b - a) a k d) (by omega) (by omega) (by rw [h3]; exact hb) (by rw [h3]; exact hs) h2
    rw [h3] at this
    exact this
theorem heapSort_ok {n : Nat} (hn : 2000030 ≤ n) {a b : Nat} {d : Array Row} (hab : a ≤ b) (hb : b ≤ d.size) (hs : d.size < 1000000) (hW : AllA WRow d) : slices_heapSortCmpFunc_Value_row_Cmp_r n d.toList (a : Int) (b : Int) = some (Sort.heapSort rLt d a b).toList := by
  obtain ⟨n, rfl⟩ : ∃ k, n = k + 1 := ⟨n - 1, by omega⟩
  unfold slices_heapSortCmpFunc_Value_row_Cmp_r Sort.heapSort
  simp only [at1_succ, withK]
  have e1 : IntKind.wrap .i64 ((b : Int) - (a : Int)) = ((b - a : Nat) : Int) := wv (by omega) (by omega)
  have e2 : IntKind.wrap .i64 (Int.tdiv (IntKind.wrap .i64 (((b - a : Nat) : Int) - 1)) 2) = (((b - a - 1) / 2 + 1 : Nat) : Int) - 1 := by
    rw [wneg (by omega)]
    rcases Nat.eq_zero_or_pos (b - a) with h | h
    · rw [h]; decide
    · rw [show ((b - a : Nat) : Int) - 1 = ((b - a - 1 : Nat) : Int) by omega, show Int.tdiv ((b - a - 1 : Nat) : Int) 2 = (((b - a - 1) / 2 : Nat) : Int) from rfl, wrapI (by omega) (by omega)]
      omega
  rw [e1, e2, wneg (by omega)]
  obtain ⟨h1, h2, h3⟩ := heapBuild_ok (n := n) (by omega) hab (K := fun y1 => slices_heapSortCmpFunc_Value_row_Cmp_r_l8 n (a : Int) n y1 (((b - a : Nat) : Int) - 1)) ((b - a - 1) / 2 + 1) n d (by omega) (by omega) hb hs hW
  rw [h1]
  exact heapPop_ok (by omega) a (b - a) n _ (by omega) (by rw [h3]; omega) (by rw [h3]; exact hs) h2

/-! #### reverseRange -/
theorem reverse_loop {n : Nat} : ∀ (k m i j : Nat) (d : Array Row), j - i ≤ k → k < m → j < d.size → d.size < 1000000 → AllA WRow d →
    slices_reverseRangeCmpFunc_Value_row_Cmp_r_l2 n m d.toList (i : Int) (j : Int) = some (Sort.reverseLoop i j d).toList ∧ AllA WRow (Sort.reverseLoop i j d) ∧ (Sort.reverseLoop i j d).size = d.size := by
  intro k
  induction k with
  | zero =>
    intro m i j d hk hm hj hs hW
    obtain ⟨m, rfl⟩ : ∃ k, m = k + 1 := ⟨m - 1, by omega⟩
    rw [slices_reverseRangeCmpFunc_Value_row_Cmp_r_l2, dF (by omega : ¬ (i : Int) < (j : Int)), cond_false, Sort.reverseLoop, if_neg (by omega)]
    exact ⟨rfl, hW, rfl⟩
  | succ k ih =>
    intro m i j d hk hm hj hs hW
    obtain ⟨m, rfl⟩ : ∃ k, m = k + 1 := ⟨m - 1, by omega⟩
    rw [slices_reverseRangeCmpFunc_Value_row_Cmp_r_l2, Sort.reverseLoop]
    by_cases h : i < j
    · rw [dT (by omega : (i : Int) < (j : Int)), cond_true, if_pos h, idx_arr d hj, idx_arr d (by omega), Option.bind_some, Option.bind_some]
      rw [swap_bind (by omega) (by omega) (K := fun l => slices_reverseRangeCmpFunc_Value_row_Cmp_r_l2 n m l (IntKind.wrap .i64 ((i : Int) + 1)) (IntKind.wrap .i64 ((j : Int) - 1))), wrapN (by omega), wv (v := j - 1) (by omega) (by omega)]
      have := ih m (i + 1) (j - 1) (Sort.swp d i j) (by omega) (by omega) (by rw [swp_size]; omega) (by rw [swp_size]; exact hs) (hW.swp (by omega) (by omega))
      rw [swp_size] at this
      exact this
    · rw [dF (by omega : ¬ (i : Int) < (j : Int)), cond_false, if_neg h]
      exact ⟨rfl, hW, rfl⟩
theorem reverseRange_ok {n : Nat} (hn : 2000030 ≤ n) {a b : Nat} {d : Array Row} (hab : a < b) (hb : b ≤ d.size) (hs : d.size < 1000000) (hW : AllA WRow d) : slices_reverseRangeCmpFunc_Value_row_Cmp_r n d.toList (a : Int) (b : Int) = some (Sort.reverseRange d a b).toList ∧ AllA WRow (Sort.reverseRange d a b) ∧ (Sort.reverseRange d a b).size = d.size := by
  obtain ⟨n, rfl⟩ : ∃ k, n = k + 1 := ⟨n - 1, by omega⟩
  unfold slices_reverseRangeCmpFunc_Value_row_Cmp_r Sort.reverseRange
  rw [at1_succ, wv (v := b - 1) (by omega) (by omega)]
  exact reverse_loop (b - 1 - a) n a (b - 1) d (by omega) (by omega) (by omega) hs hW
end Go.Pl

set_option linter.unusedVariables false
set_option linter.unusedSimpArgs false
namespace Go.Pl
open Go Go.Ab
/-! #### choosePivot -/
theorem order2_ok {n : Nat} (hn : 2000020 ≤ n) {d : Array Row} (hW : AllA WRow d) {a b sw : Nat} (ha : a < d.size) (hb : b < d.size) (hs : sw < 1000) :
    slices_order2CmpFunc_Value_row_Cmp n (sw : Int) (some d.toList) (a : Int) (b : Int) = some (((Sort.order2 rLt d a b sw).2.2 : Int), ((Sort.order2 rLt d a b sw).1 : Int), ((Sort.order2 rLt d a b sw).2.1 : Int)) ∧
      (Sort.order2 rLt d a b sw).1 < d.size ∧ (Sort.order2 rLt d a b sw).2.1 < d.size ∧ (Sort.order2 rLt d a b sw).2.2 ≤ sw + 1 := by
  obtain ⟨n, rfl⟩ : ∃ k, n = k + 1 := ⟨n - 1, by omega⟩
  unfold slices_order2CmpFunc_Value_row_Cmp Sort.order2
  rw [at1_succ, show sll (some d.toList) = d.toList from rfl, idx_arr d hb, idx_arr d ha, Option.bind_some, Option.bind_some, rowCmp_ok hW hb ha (by omega), Option.bind_some]
  cases hl : rLt d[b]! d[a]! with
  | true =>
    have hl' := hl
    unfold rLt at hl'
    rw [hl', cond_true, if_pos rfl, wv (v := sw + 1) (by omega) (by omega)]
    exact ⟨rfl, hb, ha, Nat.le_refl _⟩
  | false =>
    have hl' := hl
    unfold rLt at hl'
    rw [hl', cond_false, if_neg (by simp)]
    exact ⟨rfl, ha, hb, by show sw ≤ sw + 1; omega⟩
theorem median_ok {n : Nat} (hn : 2000030 ≤ n) {d : Array Row} (hW : AllA WRow d) {a b c sw : Nat} (ha : a < d.size) (hb : b < d.size) (hc : c < d.size) (hs : sw < 900) :
    slices_medianCmpFunc_Value_row_Cmp n (sw : Int) (some d.toList) (a : Int) (b : Int) (c : Int) = some (((Sort.median rLt d a b c sw).2 : Int), ((Sort.median rLt d a b c sw).1 : Int)) ∧ (Sort.median rLt d a b c sw).1 < d.size ∧ (Sort.median rLt d a b c sw).2 ≤ sw + 3 := by
  obtain ⟨n, rfl⟩ : ∃ k, n = k + 1 := ⟨n - 1, by omega⟩
  unfold slices_medianCmpFunc_Value_row_Cmp Sort.median
  rw [at1_succ]
  obtain ⟨h1, h2, h3, h4⟩ := order2_ok (n := n) (by omega) hW ha hb (sw := sw) (by omega)
  rw [h1, Option.bind_some]
  obtain ⟨g1, g2, g3, g4⟩ := order2_ok (n := n) (by omega) hW h3 hc (sw := (Sort.order2 rLt d a b sw).2.2) (by omega)
  simp only
  rw [g1, Option.bind_some]
  obtain ⟨f1, f2, f3, f4⟩ := order2_ok (n := n) (by omega) hW h2 g2 (sw := (Sort.order2 rLt d (Sort.order2 rLt d a b sw).2.1 c (Sort.order2 rLt d a b sw).2.2).2.2) (by omega)
  simp only
  rw [f1, Option.bind_some]
  exact ⟨rfl, f3, by omega⟩
theorem medianAdjacent_ok {n : Nat} (hn : 2000040 ≤ n) {d : Array Row} (hW : AllA WRow d) {a sw : Nat} (h0 : 1 ≤ a) (ha : a + 1 < d.size) (hs : sw < 900) (hsz : d.size < 1000000) :
    slices_medianAdjacentCmpFunc_Value_row_Cmp n (sw : Int) (some d.toList) (a : Int) = some (((Sort.medianAdjacent rLt d a sw).2 : Int), ((Sort.medianAdjacent rLt d a sw).1 : Int)) ∧ (Sort.medianAdjacent rLt d a sw).1 < d.size ∧ (Sort.medianAdjacent rLt d a sw).2 ≤ sw + 3 := by
  obtain ⟨n, rfl⟩ : ∃ k, n = k + 1 := ⟨n - 1, by omega⟩
  unfold slices_medianAdjacentCmpFunc_Value_row_Cmp Sort.medianAdjacent
  rw [at1_succ, wv (v := a - 1) (by omega) (by omega), wv (v := a + 1) (by omega) (by omega)]
  obtain ⟨h1, h2, h3⟩ := median_ok (n := n) (by omega) hW (a := a - 1) (b := a) (c := a + 1) (by omega) (by omega) ha hs
  rw [h1, Option.bind_some]
  exact ⟨rfl, h2, h3⟩
def hintI : Sort.Hint → Int
  | .unknown => 0
  | .increasing => 1
  | .decreasing => 2
theorem hint_end {r s : Nat} : (bif ((s : Int) == 0) then some ((r : Int), (1 : Int)) else bif ((s : Int) == 12) then some ((r : Int), (2 : Int)) else some ((r : Int), (0 : Int))) = some ((r : Int), hintI (if s = 0 then .increasing else if s = 12 then .decreasing else .unknown)) := by
  by_cases h0 : s = 0
  · subst h0; rfl
  · by_cases h12 : s = 12
    · subst h12; rfl
    · have e0 : ((s : Int) == 0) = false := by simp; omega
      have e1 : ((s : Int) == 12) = false := by simp; omega
      rw [e0, e1, if_neg h0, if_neg h12]; rfl
theorem choosePivot_ok {n : Nat} (hn : 2000050 ≤ n) {d : Array Row} (hW : AllA WRow d) {a b : Nat} (hab : a < b) (hb : b ≤ d.size) (hs : d.size < 1000000) :
    slices_choosePivotCmpFunc_Value_row_Cmp n (some d.toList) (a : Int) (b : Int) = some (((Sort.choosePivot rLt d a b).1 : Int), hintI (Sort.choosePivot rLt d a b).2) := by
  obtain ⟨n, rfl⟩ : ∃ k, n = k + 1 := ⟨n - 1, by omega⟩
  unfold slices_choosePivotCmpFunc_Value_row_Cmp Sort.choosePivot
  simp only [at1_succ, withK]
  have e1 : IntKind.wrap .i64 ((b : Int) - (a : Int)) = ((b - a : Nat) : Int) := wv (by omega) (by omega)
  have e2 : IntKind.wrap .i64 (Int.tdiv ((b - a : Nat) : Int) 4) = (((b - a) / 4 : Nat) : Int) := by
    rw [show Int.tdiv ((b - a : Nat) : Int) 4 = (((b - a) / 4 : Nat) : Int) from rfl]; exact wv rfl (by omega)
  have m1 : IntKind.wrap .i64 ((((b - a) / 4 : Nat) : Int) * 1) = (((b - a) / 4 * 1 : Nat) : Int) := wv (by omega) (by omega)
  have m2 : IntKind.wrap .i64 ((((b - a) / 4 : Nat) : Int) * 2) = (((b - a) / 4 * 2 : Nat) : Int) := wv (by omega) (by omega)
  have m3 : IntKind.wrap .i64 ((((b - a) / 4 : Nat) : Int) * 3) = (((b - a) / 4 * 3 : Nat) : Int) := wv (by omega) (by omega)
  have i1 : IntKind.wrap .i64 ((a : Int) + (((b - a) / 4 * 1 : Nat) : Int)) = ((a + (b - a) / 4 * 1 : Nat) : Int) := wv (by omega) (by omega)
  have i2 : IntKind.wrap .i64 ((a : Int) + (((b - a) / 4 * 2 : Nat) : Int)) = ((a + (b - a) / 4 * 2 : Nat) : Int) := wv (by omega) (by omega)
  have i3 : IntKind.wrap .i64 ((a : Int) + (((b - a) / 4 * 3 : Nat) : Int)) = ((a + (b - a) / 4 * 3 : Nat) : Int) := wv (by omega) (by omega)
  rw [e1, e2, m1, m2, m3, i1, i2, i3]
  by_cases h8 : b - a ≥ 8
  · rw [dT (by omega : ((b - a : Nat) : Int) ≥ 8), cond_true, if_pos h8]
    by_cases h50 : b - a ≥ 50
    · rw [dT (by omega : ((b - a : Nat) : Int) ≥ 50), cond_true, if_pos h50]
      obtain ⟨h1, h2, h3⟩ := medianAdjacent_ok (n := n) (by omega) hW (a := a + (b - a) / 4 * 1) (sw := 0) (by omega) (by omega) (by omega) hs
      rw [show (0 : Int) = ((0 : Nat) : Int) from rfl, h1, Option.bind_some]
      obtain ⟨g1, g2, g3⟩ := medianAdjacent_ok (n := n) (by omega) hW (a := a + (b - a) / 4 * 2) (sw := (Sort.medianAdjacent rLt d (a + (b - a) / 4 * 1) 0).2) (by omega) (by omega) (by omega) hs
      simp only
      rw [g1, Option.bind_some]
      obtain ⟨f1, f2, f3⟩ := medianAdjacent_ok (n := n) (by omega) hW (a := a + (b - a) / 4 * 3) (sw := (Sort.medianAdjacent rLt d (a + (b - a) / 4 * 2) (Sort.medianAdjacent rLt d (a + (b - a) / 4 * 1) 0).2).2) (by omega) (by omega) (by omega) hs
      simp only
      rw [f1, Option.bind_some]
      obtain ⟨c1, c2, c3⟩ := median_ok (n := n) (by omega) hW h2 g2 f2 (sw := (Sort.medianAdjacent rLt d (a + (b - a) / 4 * 3) (Sort.medianAdjacent rLt d (a + (b - a) / 4 * 2) (Sort.medianAdjacent rLt d (a + (b - a) / 4 * 1) 0).2).2).2) (by omega)
      simp only
      rw [c1, Option.bind_some]
      exact hint_end
    · rw [dF (by omega : ¬ ((b - a : Nat) : Int) ≥ 50), cond_false, if_neg h50]
      obtain ⟨c1, c2, c3⟩ := median_ok (n := n) (by omega) hW (a := a + (b - a) / 4 * 1) (b := a + (b - a) / 4 * 2) (c := a + (b - a) / 4 * 3) (sw := 0) (by omega) (by omega) (by omega) (by omega)
      rw [show (0 : Int) = ((0 : Nat) : Int) from rfl, c1, Option.bind_some]
      exact hint_end
  · rw [dF (by omega : ¬ ((b - a : Nat) : Int) ≥ 8), cond_false, if_neg h8]
    exact hint_end (s := 0)
end Go.Pl

set_option linter.unusedVariables false
set_option linter.unusedSimpArgs false
namespace Go.Pl
open Go Go.Ab
/-! #### Scans -/
theorem scanUp_gen {R : Type} {F : Nat → Int → Option R} {K : Int → Option R} {p : Row → Bool} {d : Array Row} {j : Nat} (hj : j < 1000000)
    (h1 : ∀ (m i : Nat), i ≤ j → F (m + 1) (i : Int) = bif p d[i]! then F m (IntKind.wrap .i64 ((i : Int) + 1)) else K (i : Int)) (h2 : ∀ (m i : Nat), j < i → F (m + 1) (i : Int) = K (i : Int)) :
    ∀ (k m i : Nat), j + 1 - i ≤ k → k < m → F m (i : Int) = K (Sort.scanUp p d j i : Int) := by
  intro k
  induction k with
  | zero =>
    intro m i hk hm
    obtain ⟨m, rfl⟩ : ∃ k, m = k + 1 := ⟨m - 1, by omega⟩
    rw [h2 m i (by omega), Sort.scanUp, if_neg (by simp; omega)]
  | succ k ih =>
    intro m i hk hm
    obtain ⟨m, rfl⟩ : ∃ k, m = k + 1 := ⟨m - 1, by omega⟩
    by_cases h : i ≤ j
    · rw [h1 m i h, Sort.scanUp]
      cases hp : p d[i]! with
      | true => rw [cond_true, wrapN (by omega), ih m (i + 1) (by omega) (by omega), if_pos (by simp [h])]
      | false => rw [cond_false, if_neg (by simp)]
    · rw [h2 m i (by omega), Sort.scanUp, if_neg (by simp; omega)]
theorem scanDown_gen {R : Type} {F : Nat → Int → Option R} {K : Int → Option R} {p : Row → Bool} {d : Array Row} {i : Nat} (hi : 1 ≤ i)
    (h1 : ∀ (m j : Nat), i ≤ j → j < d.size → F (m + 1) (j : Int) = bif p d[j]! then F m (IntKind.wrap .i64 ((j : Int) - 1)) else K (j : Int)) (h2 : ∀ (m j : Nat), j < i → F (m + 1) (j : Int) = K (j : Int)) :
    ∀ (j m : Nat), j < m → j < d.size → d.size < 1000000 → F m (j : Int) = K (Sort.scanDown p d i j : Int)
  | 0, m, hm, hj, hs => by
    obtain ⟨m, rfl⟩ : ∃ k, m = k + 1 := ⟨m - 1, by omega⟩
    rw [h2 m 0 (by omega)]; rfl
  | j + 1, m, hm, hj, hs => by
    obtain ⟨m, rfl⟩ : ∃ k, m = k + 1 := ⟨m - 1, by omega⟩
    rw [Sort.scanDown]
    by_cases h : i ≤ j + 1
    · rw [h1 m (j + 1) h hj]
      cases hp : p d[j + 1]! with
      | true => rw [cond_true, wrapPred (by omega), scanDown_gen hi h1 h2 j m (by omega) (by omega) hs, if_pos (by simp [h])]
      | false => rw [cond_false, if_neg (by simp)]
    · rw [h2 m (j + 1) (by omega), if_neg (by simp; omega)]

/-! #### partitionEqual -/
theorem pe_up {n : Nat} (hn : 2000010 ≤ n) {a j : Nat} {d : Array Row} (hW : AllA WRow d) (ha : a < d.size) (hj : j < d.size) (hs : d.size < 1000000) {K : Int → Option (List Row × Int)} (m i : Nat) (hm : j + 1 < m) :
    slices_partitionEqualCmpFunc_Value_row_Cmp_r_l3x n (a : Int) d.toList (j : Int) K m (i : Int) = K (Sort.scanUp (fun x => !rLt d[a]! x) d j i : Int) := by
  refine scanUp_gen (F := fun m y => slices_partitionEqualCmpFunc_Value_row_Cmp_r_l3x n (a : Int) d.toList (j : Int) K m y) (by omega) ?_ ?_ (j + 1) m i (by omega) hm
  · intro m i hi
    show slices_partitionEqualCmpFunc_Value_row_Cmp_r_l3x n (a : Int) d.toList (j : Int) K (m + 1) (i : Int) = _
    rw [slices_partitionEqualCmpFunc_Value_row_Cmp_r_l3x, dT (by omega : (i : Int) ≤ (j : Int)), cond_true, idx_arr d ha, idx_arr d (by omega), Option.bind_some, Option.bind_some, rowCmp_ok hW ha (by omega) hn, Option.bind_some]
    rfl
  · intro m i hi
    show slices_partitionEqualCmpFunc_Value_row_Cmp_r_l3x n (a : Int) d.toList (j : Int) K (m + 1) (i : Int) = _
    rw [slices_partitionEqualCmpFunc_Value_row_Cmp_r_l3x, dF (by omega : ¬ (i : Int) ≤ (j : Int)), cond_false]
theorem pe_down {n : Nat} (hn : 2000010 ≤ n) {a i : Nat} {d : Array Row} (hW : AllA WRow d) (ha : a < d.size) (hi : 1 ≤ i) (hs : d.size < 1000000) {K : Int → Option (List Row × Int)} (m j : Nat) (hj : j < d.size) (hm : j < m) :
    slices_partitionEqualCmpFunc_Value_row_Cmp_r_l5 n (a : Int) d.toList (i : Int) K m (j : Int) = K (Sort.scanDown (fun x => rLt d[a]! x) d i j : Int) := by
  refine scanDown_gen (F := fun m y => slices_partitionEqualCmpFunc_Value_row_Cmp_r_l5 n (a : Int) d.toList (i : Int) K m y) hi ?_ ?_ j m hm hj hs
  · intro m j h1 h2
    show slices_partitionEqualCmpFunc_Value_row_Cmp_r_l5 n (a : Int) d.toList (i : Int) K (m + 1) (j : Int) = _
    rw [slices_partitionEqualCmpFunc_Value_row_Cmp_r_l5, dT (by omega : (i : Int) ≤ (j : Int)), cond_true, idx_arr d ha, idx_arr d (by omega), Option.bind_some, Option.bind_some, rowCmp_ok hW ha (by omega) hn, Option.bind_some]
    rfl
  · intro m j h1
    show slices_partitionEqualCmpFunc_Value_row_Cmp_r_l5 n (a : Int) d.toList (i : Int) K (m + 1) (j : Int) = _
    rw [slices_partitionEqualCmpFunc_Value_row_Cmp_r_l5, dF (by omega : ¬ (i : Int) ≤ (j : Int)), cond_false]
theorem pe_loop {n : Nat} (hn : 2000010 ≤ n) {a : Nat} {K : List Row → Int → Option (List Row × Int)} : ∀ (k m i j : Nat) (d : Array Row), j + 1 - i ≤ k → k < m → a < i → j < d.size → a < d.size → d.size < 1000000 → AllA WRow d →
    slices_partitionEqualCmpFunc_Value_row_Cmp_r_l3 n (a : Int) K m d.toList (i : Int) (j : Int) = K (Sort.partEqLoop rLt a i j d).2.toList ((Sort.partEqLoop rLt a i j d).1 : Int) ∧ AllA WRow (Sort.partEqLoop rLt a i j d).2 ∧ (Sort.partEqLoop rLt a i j d).2.size = d.size := by
  intro k
  induction k with
  | zero =>
    intro m i j d hk hm hai hj ha hs hW
    obtain ⟨m, rfl⟩ : ∃ k, m = k + 1 := ⟨m - 1, by omega⟩
    have hu := Sort.scanUp_ge (fun x => !rLt d[a]! x) d j i
    have hd := Sort.scanDown_le (fun x => rLt d[a]! x) d (Sort.scanUp (fun x => !rLt d[a]! x) d j i) j
    rw [slices_partitionEqualCmpFunc_Value_row_Cmp_r_l3, Sort.partEqLoop_eq, if_pos (by omega)]
    simp only [withK]
    rw [pe_up hn hW ha hj hs n i (by omega), pe_down hn hW ha (by omega) hs n j hj (by omega), dT (by omega : ((Sort.scanUp (fun x => !rLt d[a]! x) d j i : Nat) : Int) > _), cond_true]
    exact ⟨rfl, hW, trivial⟩
  | succ k ih =>
    intro m i j d hk hm hai hj ha hs hW
    obtain ⟨m, rfl⟩ : ∃ k, m = k + 1 := ⟨m - 1, by omega⟩
    have hu := Sort.scanUp_ge (fun x => !rLt d[a]! x) d j i
    have hd := Sort.scanDown_le (fun x => rLt d[a]! x) d (Sort.scanUp (fun x => !rLt d[a]! x) d j i) j
    rw [slices_partitionEqualCmpFunc_Value_row_Cmp_r_l3, Sort.partEqLoop_eq]
    simp only [withK]
    rw [pe_up hn hW ha hj hs n i (by omega), pe_down hn hW ha (by omega) hs n j hj (by omega)]
    revert hu hd
    generalize Sort.scanUp (fun x => !rLt d[a]! x) d j i = i2
    generalize Sort.scanDown (fun x => rLt d[a]! x) d i2 j = j2
    intro hu hd
    by_cases h : i2 > j2
    · rw [if_pos h, dT (by omega : (i2 : Int) > (j2 : Int)), cond_true]
      exact ⟨rfl, hW, rfl⟩
    · rw [if_neg h, dF (by omega : ¬ (i2 : Int) > (j2 : Int)), cond_false, idx_arr d (by omega), idx_arr d (by omega), Option.bind_some, Option.bind_some]
      rw [swap_bind (by omega) (by omega) (K := fun l => slices_partitionEqualCmpFunc_Value_row_Cmp_r_l3 n (a : Int) K m l (IntKind.wrap .i64 ((i2 : Int) + 1)) (IntKind.wrap .i64 ((j2 : Int) - 1))), wrapN (by omega), wv (v := j2 - 1) (by omega) (by omega)]
      have := ih m (i2 + 1) (j2 - 1) (Sort.swp d i2 j2) (by omega) (by omega) (by omega) (by rw [swp_size]; omega) (by rw [swp_size]; omega) (by rw [swp_size]; exact hs) (hW.swp (by omega) (by omega))
      rw [swp_size] at this
      exact this
theorem partitionEqual_ok {n : Nat} (hn : 2000020 ≤ n) {a b p : Nat} {d : Array Row} (hab : a < b) (hp : p < d.size) (hb : b ≤ d.size) (hs : d.size < 1000000) (hW : AllA WRow d) :
    slices_partitionEqualCmpFunc_Value_row_Cmp_r n d.toList (a : Int) (b : Int) (p : Int) = some ((Sort.partitionEqual rLt d a b p).2.toList, ((Sort.partitionEqual rLt d a b p).1 : Int)) ∧ AllA WRow (Sort.partitionEqual rLt d a b p).2 ∧ (Sort.partitionEqual rLt d a b p).2.size = d.size := by
  obtain ⟨n, rfl⟩ : ∃ k, n = k + 1 := ⟨n - 1, by omega⟩
  unfold slices_partitionEqualCmpFunc_Value_row_Cmp_r Sort.partitionEqual
  simp only [at1_succ, withK]
  rw [idx_arr d hp, idx_arr d (by omega), Option.bind_some, Option.bind_some]
  rw [swap_bind (by omega) hp (K := fun l => slices_partitionEqualCmpFunc_Value_row_Cmp_r_l3 n (a : Int) (fun y7 y8 => some (y7, y8)) n l (IntKind.wrap .i64 ((a : Int) + 1)) (IntKind.wrap .i64 ((b : Int) - 1))), wrapN (by omega), wv (v := b - 1) (by omega) (by omega)]
  have := pe_loop (n := n) (by omega) (a := a) (K := fun y7 y8 => some (y7, y8)) b n (a + 1) (b - 1) (Sort.swp d a p) (by omega) (by omega) (by omega) (by rw [swp_size]; omega) (by rw [swp_size]; omega) (by rw [swp_size]; exact hs) (hW.swp (by omega) hp)
  rw [swp_size] at this
  exact this
end Go.Pl

set_option linter.unusedVariables false
set_option linter.unusedSimpArgs false
namespace Go.Pl
open Go Go.Ab
/-! #### partition -/
theorem pt_up {n : Nat} (hn : 2000010 ≤ n) {a j : Nat} {d : Array Row} (hW : AllA WRow d) (ha : a < d.size) (hj : j < d.size) (hs : d.size < 1000000) {K : Int → Option (List Row × Int × Bool)} (m i : Nat) (hm : j + 1 < m) :
    slices_partitionCmpFunc_Value_row_Cmp_r_l13x n (a : Int) d.toList (j : Int) K m (i : Int) = K (Sort.scanUp (fun x => rLt x d[a]!) d j i : Int) := by
  refine scanUp_gen (F := fun m y => slices_partitionCmpFunc_Value_row_Cmp_r_l13x n (a : Int) d.toList (j : Int) K m y) (by omega) ?_ ?_ (j + 1) m i (by omega) hm
  · intro m i hi
    show slices_partitionCmpFunc_Value_row_Cmp_r_l13x n (a : Int) d.toList (j : Int) K (m + 1) (i : Int) = _
    rw [slices_partitionCmpFunc_Value_row_Cmp_r_l13x, dT (by omega : (i : Int) ≤ (j : Int)), cond_true, idx_arr d ha, idx_arr d (by omega), Option.bind_some, Option.bind_some, rowCmp_ok hW (by omega) ha hn, Option.bind_some]
    rfl
  · intro m i hi
    show slices_partitionCmpFunc_Value_row_Cmp_r_l13x n (a : Int) d.toList (j : Int) K (m + 1) (i : Int) = _
    rw [slices_partitionCmpFunc_Value_row_Cmp_r_l13x, dF (by omega : ¬ (i : Int) ≤ (j : Int)), cond_false]
theorem pt_down {n : Nat} (hn : 2000010 ≤ n) {a i : Nat} {d : Array Row} (hW : AllA WRow d) (ha : a < d.size) (hi : 1 ≤ i) (hs : d.size < 1000000) {K : Int → Option (List Row × Int × Bool)} (m j : Nat) (hj : j < d.size) (hm : j < m) :
    slices_partitionCmpFunc_Value_row_Cmp_r_l15 n (a : Int) d.toList (i : Int) K m (j : Int) = K (Sort.scanDown (fun x => !rLt x d[a]!) d i j : Int) := by
  refine scanDown_gen (F := fun m y => slices_partitionCmpFunc_Value_row_Cmp_r_l15 n (a : Int) d.toList (i : Int) K m y) hi ?_ ?_ j m hm hj hs
  · intro m j h1 h2
    show slices_partitionCmpFunc_Value_row_Cmp_r_l15 n (a : Int) d.toList (i : Int) K (m + 1) (j : Int) = _
    rw [slices_partitionCmpFunc_Value_row_Cmp_r_l15, dT (by omega : (i : Int) ≤ (j : Int)), cond_true, idx_arr d ha, idx_arr d (by omega), Option.bind_some, Option.bind_some, rowCmp_ok hW (by omega) ha hn, Option.bind_some]
    rfl
  · intro m j h1
    show slices_partitionCmpFunc_Value_row_Cmp_r_l15 n (a : Int) d.toList (i : Int) K (m + 1) (j : Int) = _
    rw [slices_partitionCmpFunc_Value_row_Cmp_r_l15, dF (by omega : ¬ (i : Int) ≤ (j : Int)), cond_false]
/-- The first two scans, over the swapped list. -/
theorem pt_up0 {n : Nat} (hn : 2000010 ≤ n) {a b p : Nat} {d : Array Row} (hW : AllA WRow d) (ha : a < b) (hp : p < d.size) (hb : b ≤ d.size) (hs : d.size < 1000000) {K : Int → Option (List Row × Int × Bool)} (m i : Nat) (hm : b < m) :
    slices_partitionCmpFunc_Value_row_Cmp_r_l3 n d.toList (a : Int) (b : Int) (p : Int) d[p]! d[a]! K m (i : Int) = K (Sort.scanUp (fun x => rLt x (Sort.swp d a p)[a]!) (Sort.swp d a p) (b - 1) i : Int) := by
  have hsw := swp_size d a p
  have hW2 := hW.swp (i := a) (j := p) (by omega) hp
  have e : IntKind.wrap .i64 ((b : Int) - 1) = ((b - 1 : Nat) : Int) := wv (by omega) (by omega)
  refine scanUp_gen (F := fun m y => slices_partitionCmpFunc_Value_row_Cmp_r_l3 n d.toList (a : Int) (b : Int) (p : Int) d[p]! d[a]! K m y) (by omega) ?_ ?_ b m i (by omega) hm
  · intro m i hi
    show slices_partitionCmpFunc_Value_row_Cmp_r_l3 n d.toList (a : Int) (b : Int) (p : Int) d[p]! d[a]! K (m + 1) (i : Int) = _
    rw [slices_partitionCmpFunc_Value_row_Cmp_r_l3, e, dT (by omega : (i : Int) ≤ ((b - 1 : Nat) : Int)), cond_true, Int.toNat_natCast, Int.toNat_natCast, swp_list, idx_arr _ (by omega : a < (Sort.swp d a p).size), idx_arr _ (by omega : i < (Sort.swp d a p).size), Option.bind_some, Option.bind_some, rowCmp_ok hW2 (by omega) (by omega) hn, Option.bind_some]
    rfl
  · intro m i hi
    show slices_partitionCmpFunc_Value_row_Cmp_r_l3 n d.toList (a : Int) (b : Int) (p : Int) d[p]! d[a]! K (m + 1) (i : Int) = _
    rw [slices_partitionCmpFunc_Value_row_Cmp_r_l3, e, dF (by omega : ¬ (i : Int) ≤ ((b - 1 : Nat) : Int)), cond_false]
theorem pt_down0 {n : Nat} (hn : 2000010 ≤ n) {a p i : Nat} {d : Array Row} (hW : AllA WRow d) (ha : a < d.size) (hp : p < d.size) (hi : 1 ≤ i) (hs : d.size < 1000000) {K : Int → Option (List Row × Int × Bool)} (m j : Nat) (hj : j < d.size) (hm : j < m) :
    slices_partitionCmpFunc_Value_row_Cmp_r_l5 n d.toList (a : Int) (p : Int) d[p]! d[a]! (i : Int) K m (j : Int) = K (Sort.scanDown (fun x => !rLt x (Sort.swp d a p)[a]!) (Sort.swp d a p) i j : Int) := by
  have hsw := swp_size d a p
  have hW2 := hW.swp (i := a) (j := p) ha hp
  refine scanDown_gen (F := fun m y => slices_partitionCmpFunc_Value_row_Cmp_r_l5 n d.toList (a : Int) (p : Int) d[p]! d[a]! (i : Int) K m y) hi ?_ ?_ j m hm (by omega) (by omega)
  · intro m j h1 h2
    show slices_partitionCmpFunc_Value_row_Cmp_r_l5 n d.toList (a : Int) (p : Int) d[p]! d[a]! (i : Int) K (m + 1) (j : Int) = _
    rw [slices_partitionCmpFunc_Value_row_Cmp_r_l5, dT (by omega : (i : Int) ≤ (j : Int)), cond_true, Int.toNat_natCast, Int.toNat_natCast, swp_list, idx_arr _ (by omega : a < (Sort.swp d a p).size), idx_arr _ (by omega : j < (Sort.swp d a p).size), Option.bind_some, Option.bind_some, rowCmp_ok hW2 (by omega) (by omega) hn, Option.bind_some]
    rfl
  · intro m j h1
    show slices_partitionCmpFunc_Value_row_Cmp_r_l5 n d.toList (a : Int) (p : Int) d[p]! d[a]! (i : Int) K (m + 1) (j : Int) = _
    rw [slices_partitionCmpFunc_Value_row_Cmp_r_l5, dF (by omega : ¬ (i : Int) ≤ (j : Int)), cond_false]
theorem pt_loop {n : Nat} (hn : 2000010 ≤ n) {a : Nat} {K : List Row → Int → Option (List Row × Int × Bool)} : ∀ (k m i j : Nat) (d : Array Row), j + 1 - i ≤ k → k < m → a < i → j < d.size → a < d.size → d.size < 1000000 → AllA WRow d →
    slices_partitionCmpFunc_Value_row_Cmp_r_l13 n (a : Int) K m d.toList (i : Int) (j : Int) = K (Sort.partLoop rLt a i j d).2.toList ((Sort.partLoop rLt a i j d).1 : Int) ∧ AllA WRow (Sort.partLoop rLt a i j d).2 ∧ (Sort.partLoop rLt a i j d).2.size = d.size ∧ (Sort.partLoop rLt a i j d).1 ≤ j := by
  intro k
  induction k with
  | zero =>
    intro m i j d hk hm hai hj ha hs hW
    obtain ⟨m, rfl⟩ : ∃ k, m = k + 1 := ⟨m - 1, by omega⟩
    have hu := Sort.scanUp_ge (fun x => rLt x d[a]!) d j i
    have hd := Sort.scanDown_le (fun x => !rLt x d[a]!) d (Sort.scanUp (fun x => rLt x d[a]!) d j i) j
    rw [slices_partitionCmpFunc_Value_row_Cmp_r_l13, Sort.partLoop_eq, if_pos (by omega)]
    unfold withK
    show slices_partitionCmpFunc_Value_row_Cmp_r_l13x _ _ _ _ _ _ _ = _ ∧ _
    rw [pt_up hn hW ha hj hs n i (by omega)]
    show slices_partitionCmpFunc_Value_row_Cmp_r_l15 _ _ _ _ _ _ _ = _ ∧ _
    rw [pt_down hn hW ha (by omega) hs n j hj (by omega)]
    show (bif decide (_ > _) then _ else _) = _ ∧ _
    rw [dT (by omega : ((Sort.scanUp (fun x => rLt x d[a]!) d j i : Nat) : Int) > _), cond_true]
    exact ⟨rfl, hW, rfl, hd⟩
  | succ k ih =>
    intro m i j d hk hm hai hj ha hs hW
    obtain ⟨m, rfl⟩ : ∃ k, m = k + 1 := ⟨m - 1, by omega⟩
    have hu := Sort.scanUp_ge (fun x => rLt x d[a]!) d j i
    have hd := Sort.scanDown_le (fun x => !rLt x d[a]!) d (Sort.scanUp (fun x => rLt x d[a]!) d j i) j
    rw [slices_partitionCmpFunc_Value_row_Cmp_r_l13, Sort.partLoop_eq]
    simp only [withK]
    rw [pt_up hn hW ha hj hs n i (by omega), pt_down hn hW ha (by omega) hs n j hj (by omega)]
    revert hu hd
    generalize Sort.scanUp (fun x => rLt x d[a]!) d j i = i2
    generalize Sort.scanDown (fun x => !rLt x d[a]!) d i2 j = j2
    intro hu hd
    by_cases h : i2 > j2
    · rw [if_pos h, dT (by omega : (i2 : Int) > (j2 : Int)), cond_true]
      exact ⟨rfl, hW, rfl, hd⟩
    · rw [if_neg h, dF (by omega : ¬ (i2 : Int) > (j2 : Int)), cond_false, idx_arr d (by omega), idx_arr d (by omega), Option.bind_some, Option.bind_some]
      rw [swap_bind (by omega) (by omega) (K := fun l => slices_partitionCmpFunc_Value_row_Cmp_r_l13 n (a : Int) K m l (IntKind.wrap .i64 ((i2 : Int) + 1)) (IntKind.wrap .i64 ((j2 : Int) - 1))), wrapN (by omega), wv (v := j2 - 1) (by omega) (by omega)]
      obtain ⟨h1, h2, h3, h4⟩ := ih m (i2 + 1) (j2 - 1) (Sort.swp d i2 j2) (by omega) (by omega) (by omega) (by rw [swp_size]; omega) (by rw [swp_size]; omega) (by rw [swp_size]; exact hs) (hW.swp (by omega) (by omega))
      rw [swp_size] at h3
      exact ⟨h1, h2, h3, by omega⟩
theorem partition_ok {n : Nat} (hn : 2000020 ≤ n) {a b p : Nat} {d : Array Row} (hab : a < b) (hp : p < d.size) (hb : b ≤ d.size) (hs : d.size < 1000000) (hW : AllA WRow d) :
    slices_partitionCmpFunc_Value_row_Cmp_r n d.toList (a : Int) (b : Int) (p : Int) = some ((Sort.partition rLt d a b p).2.2.toList, ((Sort.partition rLt d a b p).1 : Int), (Sort.partition rLt d a b p).2.1) ∧ AllA WRow (Sort.partition rLt d a b p).2.2 ∧ (Sort.partition rLt d a b p).2.2.size = d.size := by
  obtain ⟨n, rfl⟩ : ∃ k, n = k + 1 := ⟨n - 1, by omega⟩
  have hsw := swp_size d a p
  have hW2 := hW.swp (i := a) (j := p) (by omega) hp
  unfold slices_partitionCmpFunc_Value_row_Cmp_r Sort.partition
  simp only [at1_succ, withK]
  rw [idx_arr d hp, idx_arr d (by omega), Option.bind_some, Option.bind_some]
  obtain ⟨z, hz⟩ : ∃ z, idx (d.toList.set (Int.toNat (a : Int)) d[p]!) (p : Int) = some z := ⟨_, idx_some_ok (by simpa using hp)⟩
  have eb : IntKind.wrap .i64 ((b : Int) - 1) = ((b - 1 : Nat) : Int) := wv (by omega) (by omega)
  rw [hz, Option.bind_some, wrapN (by omega), pt_up0 (by omega) hW hab hp hb hs n (a + 1) (by omega), eb]
  have hu := Sort.scanUp_ge (fun x => rLt x (Sort.swp d a p)[a]!) (Sort.swp d a p) (b - 1) (a + 1)
  have hd := Sort.scanDown_le (fun x => !rLt x (Sort.swp d a p)[a]!) (Sort.swp d a p) (Sort.scanUp (fun x => rLt x (Sort.swp d a p)[a]!) (Sort.swp d a p) (b - 1) (a + 1)) (b - 1)
  rw [pt_down0 (by omega) hW (by omega) hp (by omega) hs n (b - 1) (by omega) (by omega)]
  revert hu hd
  generalize Sort.scanUp (fun x => rLt x (Sort.swp d a p)[a]!) (Sort.swp d a p) (b - 1) (a + 1) = i2
  generalize Sort.scanDown (fun x => !rLt x (Sort.swp d a p)[a]!) (Sort.swp d a p) i2 (b - 1) = j2
  intro hu hd
  rw [Int.toNat_natCast, Int.toNat_natCast, swp_list]
  by_cases h : i2 > j2
  · rw [if_pos h, dT (by omega : (i2 : Int) > (j2 : Int)), cond_true, idx_arr _ (by omega : a < (Sort.swp d a p).size), idx_arr _ (by omega : j2 < (Sort.swp d a p).size), Option.bind_some, Option.bind_some]
    have := swap_bind (d := Sort.swp d a p) (i := j2) (j := a) (by omega) (by omega) (K := fun l => some (l, (j2 : Int), true))
    rw [Int.toNat_natCast] at this
    refine ⟨this, hW2.swp (by omega) (by omega), ?_⟩
    rw [swp_size, hsw]
  · rw [if_neg h, dF (by omega : ¬ (i2 : Int) > (j2 : Int)), cond_false, idx_arr _ (by omega : j2 < (Sort.swp d a p).size), idx_arr _ (by omega : i2 < (Sort.swp d a p).size), Option.bind_some, Option.bind_some]
    have hsw2 := swp_size (Sort.swp d a p) i2 j2
    obtain ⟨h1, h2, h3, h4⟩ := pt_loop (n := n) (by omega) (a := a) (K := fun y26 y28 => (idx y26 (a : Int)).bind fun x34 => (idx y26 y28).bind fun x36 => (idx (y26.set (Int.toNat y28) x34) (a : Int)).bind fun x38 => some (((y26.set (Int.toNat y28) x34).set a x36), y28, false)) b n (i2 + 1) (j2 - 1) (Sort.swp (Sort.swp d a p) i2 j2) (by omega) (by omega) (by omega) (by omega) (by omega) (by omega) (hW2.swp (by omega) (by omega))
    have hb2 := swap_bind (d := Sort.swp d a p) (i := i2) (j := j2) (by omega) (by omega) (K := fun l => slices_partitionCmpFunc_Value_row_Cmp_r_l13 n (a : Int) (fun y26 y28 => (idx y26 (a : Int)).bind fun x34 => (idx y26 y28).bind fun x36 => (idx (y26.set (Int.toNat y28) x34) (a : Int)).bind fun x38 => some (((y26.set (Int.toNat y28) x34).set a x36), y28, false)) n l (IntKind.wrap .i64 ((i2 : Int) + 1)) (IntKind.wrap .i64 ((j2 : Int) - 1)))
    refine ⟨Eq.trans hb2 ?_, ?_, ?_⟩
    · show slices_partitionCmpFunc_Value_row_Cmp_r_l13 n (a : Int) _ n _ _ _ = _
      rw [wrapN (by omega), wv (v := j2 - 1) (by omega) (by omega), h1, idx_arr _ (by omega), idx_arr _ (by omega), Option.bind_some, Option.bind_some]
      have := swap_bind (d := (Sort.partLoop rLt a (i2 + 1) (j2 - 1) (Sort.swp (Sort.swp d a p) i2 j2)).2) (i := (Sort.partLoop rLt a (i2 + 1) (j2 - 1) (Sort.swp (Sort.swp d a p) i2 j2)).1) (j := a) (by omega) (by omega) (K := fun l => some (l, ((Sort.partLoop rLt a (i2 + 1) (j2 - 1) (Sort.swp (Sort.swp d a p) i2 j2)).1 : Int), false))
      rw [Int.toNat_natCast] at this ⊢
      exact this
    · exact h2.swp (by omega) (by omega)
    · show (Sort.swp _ _ _).size = _
      rw [swp_size]; omega
end Go.Pl

set_option linter.unusedVariables false
set_option linter.unusedSimpArgs false
namespace Go.Pl
open Go Go.Ab
/-! #### partialInsertionSort -/
theorem pi_scan {n : Nat} (hn : 2000010 ≤ n) {b : Nat} {d : Array Row} (hW : AllA WRow d) (hb : b ≤ d.size) (hs : d.size < 1000000) {K : Int → Option (List Row × Bool)} : ∀ (k m i : Nat), b - i ≤ k → k < m → 1 ≤ i →
    slices_partialInsertionSortCmpFunc_Value_row_Cmp_r_l5 n (b : Int) d.toList K m (i : Int) = K (Sort.scanSorted rLt d b i : Int) := by
  intro k
  induction k with
  | zero =>
    intro m i hk hm hi
    obtain ⟨m, rfl⟩ : ∃ k, m = k + 1 := ⟨m - 1, by omega⟩
    rw [slices_partialInsertionSortCmpFunc_Value_row_Cmp_r_l5, dF (by omega : ¬ (i : Int) < (b : Int)), cond_false, Sort.scanSorted, if_neg (by simp; omega)]
  | succ k ih =>
    intro m i hk hm hi
    obtain ⟨m, rfl⟩ : ∃ k, m = k + 1 := ⟨m - 1, by omega⟩
    rw [slices_partialInsertionSortCmpFunc_Value_row_Cmp_r_l5, Sort.scanSorted]
    by_cases h : i < b
    · rw [dT (by omega : (i : Int) < (b : Int)), cond_true, wv (v := i - 1) (by omega) (by omega), idx_arr d (by omega), idx_arr d (by omega), Option.bind_some, Option.bind_some, rowCmp_ok hW (by omega) (by omega) hn, Option.bind_some]
      cases hl : rLt d[i]! d[i - 1]! with
      | true =>
        have hl' := hl
        unfold rLt at hl'
        rw [hl', Bool.not_true, cond_false, if_neg (by simp)]
      | false =>
        have hl' := hl
        unfold rLt at hl'
        rw [hl', Bool.not_false, cond_true, if_pos (by simp [h]), wrapN (by omega)]
        exact ih m (i + 1) (by omega) (by omega) (by omega)
    · rw [dF (by omega : ¬ (i : Int) < (b : Int)), cond_false, if_neg (by simp [h])]
theorem pi_down {n : Nat} (hn : 2000010 ≤ n) {K : List Row → Option (List Row × Bool)} : ∀ (j m : Nat) (d : Array Row), j < m → j < d.size → d.size < 1000000 → AllA WRow d →
    slices_partialInsertionSortCmpFunc_Value_row_Cmp_r_l14 n K m d.toList (j : Int) = K (Sort.shiftDown rLt j d).toList ∧ AllA WRow (Sort.shiftDown rLt j d) ∧ (Sort.shiftDown rLt j d).size = d.size
  | 0, m, d, hm, hj, hs, hW => by
    obtain ⟨m, rfl⟩ : ∃ k, m = k + 1 := ⟨m - 1, by omega⟩
    rw [slices_partialInsertionSortCmpFunc_Value_row_Cmp_r_l14, dF (by omega : ¬ ((0 : Nat) : Int) ≥ 1), cond_false]
    exact ⟨rfl, hW, rfl⟩
  | j + 1, m, d, hm, hj, hs, hW => by
    obtain ⟨m, rfl⟩ : ∃ k, m = k + 1 := ⟨m - 1, by omega⟩
    rw [slices_partialInsertionSortCmpFunc_Value_row_Cmp_r_l14, Sort.shiftDown, dT (by omega : ((j + 1 : Nat) : Int) ≥ 1), cond_true, wrapPred (by omega), idx_arr d hj, idx_arr d (by omega : j < d.size), Option.bind_some, Option.bind_some, rowCmp_ok hW hj (by omega) hn, Option.bind_some]
    cases hl : rLt d[j + 1]! d[j]! with
    | false =>
      have hl' := hl
      unfold rLt at hl'
      rw [hl', Bool.not_false, cond_true]
      exact ⟨rfl, hW, rfl⟩
    | true =>
      have hl' := hl
      unfold rLt at hl'
      rw [hl', Bool.not_true, cond_false]
      rw [swap_bind hj (by omega) (K := fun l => slices_partialInsertionSortCmpFunc_Value_row_Cmp_r_l14 n K m l (j : Int))]
      have := pi_down hn (K := K) j m (Sort.swp d (j + 1) j) (by omega) (by rw [swp_size]; omega) (by rw [swp_size]; exact hs) (hW.swp hj (by omega))
      rw [swp_size] at this
      exact this
theorem pi_up {n : Nat} (hn : 2000010 ≤ n) {b : Nat} {i : Int} {K : List Row → Int → Option (List Row × Bool)} : ∀ (k m j : Nat) (d : Array Row), b - j ≤ k → k < m → 1 ≤ j → b ≤ d.size → d.size < 1000000 → AllA WRow d →
    slices_partialInsertionSortCmpFunc_Value_row_Cmp_r_l20 n (b : Int) K i m d.toList (j : Int) = K (Sort.shiftUp rLt b j d).toList i ∧ AllA WRow (Sort.shiftUp rLt b j d) ∧ (Sort.shiftUp rLt b j d).size = d.size := by
  intro k
  induction k with
  | zero =>
    intro m j d hk hm hj hb hs hW
    obtain ⟨m, rfl⟩ : ∃ k, m = k + 1 := ⟨m - 1, by omega⟩
    rw [slices_partialInsertionSortCmpFunc_Value_row_Cmp_r_l20, dF (by omega : ¬ (j : Int) < (b : Int)), cond_false, Sort.shiftUp, if_neg (by omega)]
    exact ⟨rfl, hW, rfl⟩
  | succ k ih =>
    intro m j d hk hm hj hb hs hW
    obtain ⟨m, rfl⟩ : ∃ k, m = k + 1 := ⟨m - 1, by omega⟩
    rw [slices_partialInsertionSortCmpFunc_Value_row_Cmp_r_l20, Sort.shiftUp]
    by_cases h : j < b
    · have ej : IntKind.wrap .i64 ((j : Int) - 1) = ((j - 1 : Nat) : Int) := wv (by omega) (by omega)
      rw [dT (by omega : (j : Int) < (b : Int)), cond_true, if_pos h, ej, idx_arr d (by omega), idx_arr d (by omega), Option.bind_some, Option.bind_some, rowCmp_ok hW (by omega) (by omega) hn, Option.bind_some]
      cases hl : rLt d[j]! d[j - 1]! with
      | false =>
        have hl' := hl
        unfold rLt at hl'
        rw [hl', Bool.not_false, cond_true]
        exact ⟨rfl, hW, rfl⟩
      | true =>
        have hl' := hl
        unfold rLt at hl'
        rw [hl', Bool.not_true, cond_false]
        rw [swap_bind (by omega) (by omega) (K := fun l => slices_partialInsertionSortCmpFunc_Value_row_Cmp_r_l20 n (b : Int) K i m l (IntKind.wrap .i64 ((j : Int) + 1))), wrapN (by omega)]
        have := ih m (j + 1) (Sort.swp d j (j - 1)) (by omega) (by omega) (by omega) (by rw [swp_size]; exact hb) (by rw [swp_size]; exact hs) (hW.swp (by omega) (by omega))
        rw [swp_size] at this
        exact this
    · rw [dF (by omega : ¬ (j : Int) < (b : Int)), cond_false, if_neg h]
      exact ⟨rfl, hW, rfl⟩
theorem scanSorted_le (d : Array Row) (b : Nat) : ∀ (k i : Nat), b - i ≤ k → i ≤ b → i ≤ Sort.scanSorted rLt d b i ∧ Sort.scanSorted rLt d b i ≤ b := by
  intro k
  induction k with
  | zero =>
    intro i hk hi
    rw [Sort.scanSorted, if_neg (by simp; omega)]
    omega
  | succ k ih =>
    intro i hk hi
    rw [Sort.scanSorted]
    split
    · rename_i h
      simp at h
      have := ih (i + 1) (by omega) (by omega)
      omega
    · omega
theorem pi_loop {n : Nat} (hn : 2000010 ≤ n) {a b : Nat} (hab : a < b) : ∀ (s m i : Nat) (d : Array Row), s ≤ 5 → s < m → a < i → i ≤ b → b ≤ d.size → d.size < 1000000 → AllA WRow d →
    slices_partialInsertionSortCmpFunc_Value_row_Cmp_r_l3 n (a : Int) (b : Int) (fun y1 => some (y1, false)) m d.toList (5 - (s : Int)) (i : Int) = some ((Sort.partialIns rLt a b s i d).1.toList, (Sort.partialIns rLt a b s i d).2) ∧ AllA WRow (Sort.partialIns rLt a b s i d).1 ∧ (Sort.partialIns rLt a b s i d).1.size = d.size
  | 0, m, i, d, hs5, hm, hai, hib, hb, hs, hW => by
    obtain ⟨m, rfl⟩ : ∃ k, m = k + 1 := ⟨m - 1, by omega⟩
    rw [slices_partialInsertionSortCmpFunc_Value_row_Cmp_r_l3, dF (by omega : ¬ (5 - ((0 : Nat) : Int)) < 5), cond_false]
    exact ⟨rfl, hW, rfl⟩
  | s + 1, m, i, d, hs5, hm, hai, hib, hb, hs, hW => by
    obtain ⟨m, rfl⟩ : ∃ k, m = k + 1 := ⟨m - 1, by omega⟩
    rw [slices_partialInsertionSortCmpFunc_Value_row_Cmp_r_l3, Sort.partialIns, dT (by omega : (5 - ((s + 1 : Nat) : Int)) < 5), cond_true]
    simp only [withK]
    rw [pi_scan hn hW hb hs b n i (by omega) (by omega) (by omega)]
    have hsc := scanSorted_le d b b i (by omega) hib
    revert hsc
    generalize Sort.scanSorted rLt d b i = i2
    intro hsc
    by_cases h : i2 = b
    · subst h
      rw [if_pos rfl, beq_self_eq_true, cond_true]
      exact ⟨rfl, hW, rfl⟩
    · have hne : ((i2 : Int) == (b : Int)) = false := by simp; omega
      have eba : IntKind.wrap .i64 ((b : Int) - (a : Int)) = ((b - a : Nat) : Int) := wv (by omega) (by omega)
      rw [if_neg h, hne, cond_false, eba]
      by_cases h50 : b - a < 50
      · rw [if_pos h50, dT (by omega : ((b - a : Nat) : Int) < 50), cond_true]
        exact ⟨rfl, hW, rfl⟩
      · rw [if_neg h50, dF (by omega : ¬ ((b - a : Nat) : Int) < 50), cond_false]
        have ei : IntKind.wrap .i64 ((i2 : Int) - 1) = ((i2 - 1 : Nat) : Int) := wv (by omega) (by omega)
        have eia : IntKind.wrap .i64 ((i2 : Int) - (a : Int)) = ((i2 - a : Nat) : Int) := wv (by omega) (by omega)
        have ebi : IntKind.wrap .i64 ((b : Int) - (i2 : Int)) = ((b - i2 : Nat) : Int) := wv (by omega) (by omega)
        have ei1 : IntKind.wrap .i64 ((i2 : Int) + 1) = ((i2 + 1 : Nat) : Int) := wrapN (by omega)
        have es : IntKind.wrap .i64 (5 - ((s + 1 : Nat) : Int) + 1) = 5 - (s : Int) := by rw [wrapI (by omega) (by omega)]; omega
        simp only [ei, eia, ebi, ei1, es]
        rw [idx_arr d (by omega), idx_arr d (by omega), Option.bind_some, Option.bind_some, Int.toNat_natCast, Int.toNat_natCast, idx_some_ok (by simp; omega), Option.bind_some, swp_list]
        have hW2 := hW.swp (i := i2) (j := i2 - 1) (by omega) (by omega)
        have hz2 := swp_size d i2 (i2 - 1)
        revert hW2 hz2
        generalize Sort.swp d i2 (i2 - 1) = d2
        intro hW2 hz2
        -- behind the downward shift
        have up : ∀ (d3 : Array Row), AllA WRow d3 → d3.size = d.size →
            (bif decide (((b - i2 : Nat) : Int) ≥ 2) then slices_partialInsertionSortCmpFunc_Value_row_Cmp_r_l20 n (b : Int) (fun y27 y28 => slices_partialInsertionSortCmpFunc_Value_row_Cmp_r_l3 n (a : Int) (b : Int) (fun y1 => some (y1, false)) m y27 (5 - (s : Int)) y28) (i2 : Int) n d3.toList ((i2 + 1 : Nat) : Int) else slices_partialInsertionSortCmpFunc_Value_row_Cmp_r_l3 n (a : Int) (b : Int) (fun y1 => some (y1, false)) m d3.toList (5 - (s : Int)) (i2 : Int)) = some ((Sort.partialIns rLt a b s i2 (if b - i2 ≥ 2 then Sort.shiftUp rLt b (i2 + 1) d3 else d3)).1.toList, (Sort.partialIns rLt a b s i2 (if b - i2 ≥ 2 then Sort.shiftUp rLt b (i2 + 1) d3 else d3)).2) ∧ AllA WRow (Sort.partialIns rLt a b s i2 (if b - i2 ≥ 2 then Sort.shiftUp rLt b (i2 + 1) d3 else d3)).1 ∧ (Sort.partialIns rLt a b s i2 (if b - i2 ≥ 2 then Sort.shiftUp rLt b (i2 + 1) d3 else d3)).1.size = d.size := by
          intro d3 hW3 hz3
          by_cases h2 : b - i2 ≥ 2
          · rw [dT (by omega : ((b - i2 : Nat) : Int) ≥ 2), cond_true, if_pos h2]
            obtain ⟨g1, g2, g3⟩ := pi_up hn (b := b) (i := (i2 : Int)) (K := fun y27 y28 => slices_partialInsertionSortCmpFunc_Value_row_Cmp_r_l3 n (a : Int) (b : Int) (fun y1 => some (y1, false)) m y27 (5 - (s : Int)) y28) b n (i2 + 1) d3 (by omega) (by omega) (by omega) (by omega) (by omega) hW3
            rw [g1]
            have := pi_loop hn hab s m i2 (Sort.shiftUp rLt b (i2 + 1) d3) (by omega) (by omega) (by omega) (by omega) (by omega) (by omega) g2
            rw [g3, hz3] at this
            exact this
          · rw [dF (by omega : ¬ ((b - i2 : Nat) : Int) ≥ 2), cond_false, if_neg h2]
            have := pi_loop hn hab s m i2 d3 (by omega) (by omega) (by omega) (by omega) (by omega) (by omega) hW3
            rw [hz3] at this
            exact this
        by_cases h1 : i2 - a ≥ 2
        · rw [dT (by omega : ((i2 - a : Nat) : Int) ≥ 2), cond_true, if_pos h1]
          obtain ⟨g1, g2, g3⟩ := pi_down hn (K := fun y48 => bif decide (((b - i2 : Nat) : Int) ≥ 2) then slices_partialInsertionSortCmpFunc_Value_row_Cmp_r_l20 n (b : Int) (fun y27 y28 => slices_partialInsertionSortCmpFunc_Value_row_Cmp_r_l3 n (a : Int) (b : Int) (fun y1 => some (y1, false)) m y27 (5 - (s : Int)) y28) (i2 : Int) n y48 ((i2 + 1 : Nat) : Int) else slices_partialInsertionSortCmpFunc_Value_row_Cmp_r_l3 n (a : Int) (b : Int) (fun y1 => some (y1, false)) m y48 (5 - (s : Int)) (i2 : Int)) (i2 - 1) n d2 (by omega) (by omega) (by omega) hW2
          rw [g1]
          exact up _ g2 (by omega)
        · rw [dF (by omega : ¬ ((i2 - a : Nat) : Int) ≥ 2), cond_false, if_neg h1]
          exact up _ hW2 (by omega)
theorem partialInsertionSort_ok {n : Nat} (hn : 2000020 ≤ n) {a b : Nat} {d : Array Row} (hab : a < b) (hb : b ≤ d.size) (hs : d.size < 1000000) (hW : AllA WRow d) :
    slices_partialInsertionSortCmpFunc_Value_row_Cmp_r n d.toList (a : Int) (b : Int) = some ((Sort.partialInsertionSort rLt d a b).1.toList, (Sort.partialInsertionSort rLt d a b).2) ∧ AllA WRow (Sort.partialInsertionSort rLt d a b).1 ∧ (Sort.partialInsertionSort rLt d a b).1.size = d.size := by
  obtain ⟨n, rfl⟩ : ∃ k, n = k + 1 := ⟨n - 1, by omega⟩
  unfold slices_partialInsertionSortCmpFunc_Value_row_Cmp_r Sort.partialInsertionSort
  simp only [at1_succ, withK]
  rw [wrapN (by omega)]
  exact pi_loop (by omega) hab 5 n (a + 1) d (by omega) (by omega) (by omega) (by omega) hb hs hW
end Go.Pl

set_option linter.unusedVariables false
set_option linter.unusedSimpArgs false
namespace Go.Pl
open Go Go.Ab
/-! #### How many bits -/
theorem bitsLen_iff {x k : Nat} (h1 : 2 ^ k ≤ x) (h2 : x < 2 ^ (k + 1)) : Sort.bitsLen x = k + 1 := by
  unfold Sort.bitsLen
  have hp : 0 < 2 ^ k := Nat.pow_pos (by decide)
  rw [if_neg (by omega)]
  have h3 : k ≤ Nat.log2 x := (Nat.le_log2 (by omega)).2 h1
  have h4 : Nat.log2 x < k + 1 := (Nat.log2_lt (by omega)).2 h2
  omega
theorem bitsLen_shift {x s : Nat} (h : 2 ^ s ≤ x) : Sort.bitsLen x = s + Sort.bitsLen (x / 2 ^ s) := by
  have hs : 0 < 2 ^ s := Nat.pow_pos (by decide)
  have hq : 1 ≤ x / 2 ^ s := (Nat.one_le_div_iff hs).2 h
  have h1 := Nat.log2_self_le (n := x / 2 ^ s) (by omega)
  have h2 := Nat.lt_log2_self (n := x / 2 ^ s)
  have e : Sort.bitsLen (x / 2 ^ s) = Nat.log2 (x / 2 ^ s) + 1 := by unfold Sort.bitsLen; rw [if_neg (by omega)]
  rw [e]
  have := bitsLen_iff (x := x) (k := s + Nat.log2 (x / 2 ^ s)) (by
    rw [Nat.pow_add]
    calc 2 ^ s * 2 ^ (x / 2 ^ s).log2 ≤ 2 ^ s * (x / 2 ^ s) := Nat.mul_le_mul_left _ h1
      _ ≤ x := Nat.mul_div_le x (2 ^ s)) (by
    rw [show s + Nat.log2 (x / 2 ^ s) + 1 = s + (Nat.log2 (x / 2 ^ s) + 1) by omega, Nat.pow_add]
    rw [Nat.mul_comm]
    exact (Nat.div_lt_iff_lt_mul hs).1 h2)
  omega
def lenTab : ByteArray := ByteArray.mk #[0, 1, 2, 2, 3, 3, 3, 3, 4, 4, 4, 4, 4, 4, 4, 4, 5, 5, 5, 5, 5, 5, 5, 5, 5, 5, 5, 5, 5, 5, 5, 5, 6, 6, 6, 6, 6, 6, 6, 6, 6, 6, 6, 6, 6, 6, 6, 6, 6, 6, 6, 6, 6, 6, 6, 6, 6, 6, 6, 6, 6, 6, 6, 6, 7, 7, 7, 7, 7, 7, 7, 7, 7, 7, 7, 7, 7, 7, 7, 7, 7, 7, 7, 7, 7, 7, 7, 7, 7, 7, 7, 7, 7, 7, 7, 7, 7, 7, 7, 7, 7, 7, 7, 7, 7, 7, 7, 7, 7, 7, 7, 7, 7, 7, 7, 7, 7, 7, 7, 7, 7, 7, 7, 7, 7, 7, 7, 7, 8, 8, 8, 8, 8, 8, 8, 8, 8, 8, 8, 8, 8, 8, 8, 8, 8, 8, 8, 8, 8, 8, 8, 8, 8, 8, 8, 8, 8, 8, 8, 8, 8, 8, 8, 8, 8, 8, 8, 8, 8, 8, 8, 8, 8, 8, 8, 8, 8, 8, 8, 8, 8, 8, 8, 8, 8, 8, 8, 8, 8, 8, 8, 8, 8, 8, 8, 8, 8, 8, 8, 8, 8, 8, 8, 8, 8, 8, 8, 8, 8, 8, 8, 8, 8, 8, 8, 8, 8, 8, 8, 8, 8, 8, 8, 8, 8, 8, 8, 8, 8, 8, 8, 8, 8, 8, 8, 8, 8, 8, 8, 8, 8, 8, 8, 8, 8, 8, 8, 8, 8, 8, 8, 8, 8, 8, 8, 8]
theorem lenTab_ok : ∀ y : Fin 256, idxS lenTab (y.val : Int) = some ((Sort.bitsLen y.val : Nat) : Int) := by decide +kernel
theorem shr_nat (v s : Nat) (hs : s ≤ 64) : iShr .u64 (v : Int) (s : Int) = ((v / 2 ^ s : Nat) : Int) := by
  unfold iShr
  rw [Int.toNat_natCast, show min s IntKind.u64.bits = s from Nat.min_eq_left hs]
  rw [Int.fdiv_eq_ediv_of_nonneg _ (Int.le_of_lt (Int.pow_pos (by decide)))]
  rw [show ((2 : Int) ^ s) = ((2 ^ s : Nat) : Int) by simp]
  omega
theorem bitsLen_le {y : Nat} (h : y < 256) : Sort.bitsLen y ≤ 8 := by
  unfold Sort.bitsLen
  split
  · omega
  · have : Nat.log2 y < 8 := (Nat.log2_lt (by omega)).2 (by omega)
    omega
def lenBody (T : ByteArray) (a0 : Int) : Option Int :=
  withK (fun k4 => bif (decide (a0 ≥ 4294967296)) then k4 (iShr .u64 a0 32) 32 else k4 a0 0) (fun (y2 : Int) (y3 : Int) => withK (fun k8 => bif (decide (y2 ≥ 65536)) then k8 (iShr .u64 y2 16) (IntKind.wrap .i64 (y3 + 16)) else k8 y2 y3) (fun (y6 : Int) (y7 : Int) => withK (fun k12 => bif (decide (y6 ≥ 256)) then k12 (iShr .u64 y6 8) (IntKind.wrap .i64 (y7 + 8)) else k12 y6 y7) (fun (y10 : Int) (y11 : Int) => (idxS T (IntKind.wrap .u8 y10)).bind fun x13 => some (IntKind.wrap .i64 (y11 + (IntKind.wrap .i64 x13))))))
theorem lenBody_ok {T : ByteArray} (hT : ∀ y : Fin 256, idxS T (y.val : Int) = some ((Sort.bitsLen y.val : Nat) : Int)) {x : Nat} (hx : x < 1000000) : lenBody T (x : Int) = some ((Sort.bitsLen x : Nat) : Int) := by
  unfold lenBody
  simp only [withK]
  have last : ∀ (y add : Nat), y < 256 → add ≤ 24 → ((idxS T (IntKind.wrap .u8 (y : Int))).bind fun x13 => some (IntKind.wrap .i64 ((add : Int) + (IntKind.wrap .i64 x13)))) = some ((add + Sort.bitsLen y : Nat) : Int) := by
    intro y add hy ha
    have hl := bitsLen_le hy
    rw [wrapY (by omega) (by omega), hT ⟨y, hy⟩, Option.bind_some]
    show some (IntKind.wrap .i64 ((add : Int) + (IntKind.wrap .i64 ((Sort.bitsLen y : Nat) : Int)))) = _
    rw [show IntKind.wrap .i64 ((Sort.bitsLen y : Nat) : Int) = ((Sort.bitsLen y : Nat) : Int) from wv rfl (by omega)]
    congr 1
    exact wv (by omega) (by omega)
  rw [dF (by omega : ¬ (x : Int) ≥ 4294967296), cond_false]
  have mid : ∀ (y add : Nat), y < 65536 → add ≤ 16 → (bif (decide ((y : Int) ≥ 256)) then ((idxS T (IntKind.wrap .u8 (iShr .u64 (y : Int) 8))).bind fun x13 => some (IntKind.wrap .i64 ((IntKind.wrap .i64 ((add : Int) + 8)) + (IntKind.wrap .i64 x13)))) else ((idxS T (IntKind.wrap .u8 (y : Int))).bind fun x13 => some (IntKind.wrap .i64 ((add : Int) + (IntKind.wrap .i64 x13))))) = some ((add + Sort.bitsLen y : Nat) : Int) := by
    intro y add hy ha
    by_cases h : 256 ≤ y
    · rw [dT (by omega : (y : Int) ≥ 256), cond_true]
      rw [show iShr .u64 (y : Int) 8 = ((y / 2 ^ 8 : Nat) : Int) from shr_nat y 8 (by omega), show IntKind.wrap .i64 ((add : Int) + 8) = ((add + 8 : Nat) : Int) from wv (by omega) (by omega), last _ _ (by omega) (by omega), bitsLen_shift (s := 8) (x := y) (by omega)]
      congr 2
      omega
    · rw [dF (by omega : ¬ (y : Int) ≥ 256), cond_false]
      exact last y add (by omega) (by omega)
  by_cases h : 65536 ≤ x
  · rw [dT (by omega : (x : Int) ≥ 65536), cond_true]
    rw [show iShr .u64 (x : Int) 16 = ((x / 2 ^ 16 : Nat) : Int) from shr_nat x 16 (by omega), show IntKind.wrap .i64 (0 + 16) = ((16 : Nat) : Int) by decide]
    have := mid (x / 2 ^ 16) 16 (by omega) (by omega)
    rw [← bitsLen_shift (s := 16) (x := x) (by omega)] at this
    exact this
  · rw [dF (by omega : ¬ (x : Int) ≥ 65536), cond_false]
    have := mid x 0 (by omega) (by omega)
    rw [Nat.zero_add] at this
    exact this
theorem len64_ok {x : Nat} (hx : x < 1000000) {n : Nat} (h : 1 ≤ n) : math_bits_Len64 n (x : Int) = some ((Sort.bitsLen x : Nat) : Int) := by
  obtain ⟨n, rfl⟩ : ∃ k, n = k + 1 := ⟨n - 1, by omega⟩
  exact Eq.trans (show math_bits_Len64 (n + 1) (x : Int) = lenBody lenTab (x : Int) from rfl) (lenBody_ok lenTab_ok hx)
theorem len_ok {x : Nat} (hx : x < 1000000) {n : Nat} (h : 2 ≤ n) : math_bits_Len n (x : Int) = some ((Sort.bitsLen x : Nat) : Int) := by
  obtain ⟨n, rfl⟩ : ∃ k, n = k + 1 := ⟨n - 1, by omega⟩
  unfold math_bits_Len
  rw [at1_succ, len64_ok hx (by omega), Option.bind_some]
theorem bitsLen_lt {x : Nat} (hx : x < 1000000) : Sort.bitsLen x ≤ 20 := by
  unfold Sort.bitsLen
  split
  · omega
  · have : Nat.log2 x < 20 := (Nat.log2_lt (by omega)).2 (by omega)
    omega
theorem pow2_ok {x : Nat} (hx : x < 1000000) {n : Nat} (h : 3 ≤ n) : slices_nextPowerOfTwo n (x : Int) = some ((2 ^ Sort.bitsLen x : Nat) : Int) := by
  obtain ⟨n, rfl⟩ : ∃ k, n = k + 1 := ⟨n - 1, by omega⟩
  have hb := bitsLen_lt hx
  unfold slices_nextPowerOfTwo
  rw [at1_succ, wrapU (by omega) (by omega), len_ok hx (by omega), Option.bind_some]
  have hp : 2 ^ Sort.bitsLen x ≤ 2 ^ 20 := Nat.pow_le_pow_right (by decide) hb
  have hc : ckN ((Sort.bitsLen x : Nat) : Int) = some () := by
    unfold ckN
    rw [if_neg (by omega)]
  rw [hc, Option.bind_some]
  congr 1
  unfold iShl
  rw [Int.toNat_natCast, Int.one_mul, show min (Sort.bitsLen x) IntKind.u64.bits = Sort.bitsLen x from Nat.min_eq_left (by show _ ≤ 64; omega)]
  rw [show ((2 : Int) ^ Sort.bitsLen x) = ((2 ^ Sort.bitsLen x : Nat) : Int) by simp]
  generalize 2 ^ Sort.bitsLen x = q at hp
  rw [wrapU (by omega) (by omega)]
end Go.Pl

set_option linter.unusedVariables false
set_option linter.unusedSimpArgs false
namespace Go.Pl
open Go Go.Ab
/-! #### xorshift -/
theorem ofInt_u (u : UInt64) : BitVec.ofInt 64 (u.toNat : Int) = u.toBitVec := by
  apply BitVec.eq_of_toNat_eq
  have := u.toNat_lt
  simp
theorem xor_u (u v : UInt64) : iXor .u64 (u.toNat : Int) (v.toNat : Int) = ((u ^^^ v).toNat : Int) := by
  unfold iXor
  show IntKind.wrap .u64 ((BitVec.ofInt 64 (u.toNat : Int) ^^^ BitVec.ofInt 64 (v.toNat : Int)).toNat : Int) = _
  rw [ofInt_u, ofInt_u]
  have := (u ^^^ v).toNat_lt
  exact wrapU (by omega) (by show ((u ^^^ v).toNat : Int) < _; omega)
theorem and_u (u v : UInt64) : iAnd .u64 (u.toNat : Int) (v.toNat : Int) = ((u.toNat &&& v.toNat : Nat) : Int) := by
  unfold iAnd
  show IntKind.wrap .u64 ((BitVec.ofInt 64 (u.toNat : Int) &&& BitVec.ofInt 64 (v.toNat : Int)).toNat : Int) = _
  rw [ofInt_u, ofInt_u, BitVec.toNat_and]
  have h1 := u.toNat_lt
  have h2 : u.toNat &&& v.toNat ≤ u.toNat := Nat.and_le_left
  exact wrapU (by omega) (by show ((u.toNat &&& v.toNat : Nat) : Int) < _; omega)
theorem shl_u (u : UInt64) {s : Nat} (hs : s < 64) : iShl .u64 (u.toNat : Int) (s : Int) = ((u <<< (UInt64.ofNat s)).toNat : Int) := by
  unfold iShl
  rw [Int.toNat_natCast, show min s IntKind.u64.bits = s from Nat.min_eq_left (by show s ≤ 64; omega)]
  rw [UInt64.toNat_shiftLeft, UInt64.toNat_ofNat_of_lt' (by show s < 18446744073709551616; omega), Nat.mod_eq_of_lt (show s < 64 from hs), Nat.shiftLeft_eq]
  rw [show ((2 : Int) ^ s) = ((2 ^ s : Nat) : Int) by simp]
  simp [IntKind.wrap, IntKind.signed, IntKind.bits]
theorem shr_u (u : UInt64) {s : Nat} (hs : s < 64) : iShr .u64 (u.toNat : Int) (s : Int) = ((u >>> (UInt64.ofNat s)).toNat : Int) := by
  rw [shr_nat _ _ (by omega), UInt64.toNat_shiftRight, UInt64.toNat_ofNat_of_lt' (by show s < 18446744073709551616; omega), Nat.mod_eq_of_lt (show s < 64 from hs), Nat.shiftRight_eq_div_pow]
def xorI (y11 : Int) : Int := iXor .u64 (iXor .u64 (iXor .u64 y11 (iShl .u64 y11 13)) (iShr .u64 (iXor .u64 y11 (iShl .u64 y11 13)) 7)) (iShl .u64 (iXor .u64 (iXor .u64 y11 (iShl .u64 y11 13)) (iShr .u64 (iXor .u64 y11 (iShl .u64 y11 13)) 7)) 17)
theorem xorI_ok (r : UInt64) : xorI (r.toNat : Int) = ((Sort.xorNext r).toNat : Int) := by
  unfold xorI
  rw [show iShl .u64 (r.toNat : Int) 13 = ((r <<< 13).toNat : Int) from shl_u r (s := 13) (by omega), xor_u]
  rw [show iShr .u64 ((r ^^^ r <<< 13).toNat : Int) 7 = (((r ^^^ r <<< 13) >>> 7).toNat : Int) from shr_u _ (s := 7) (by omega), xor_u]
  rw [show iShl .u64 (((r ^^^ r <<< 13) ^^^ (r ^^^ r <<< 13) >>> 7).toNat : Int) 17 = ((((r ^^^ r <<< 13) ^^^ (r ^^^ r <<< 13) >>> 7) <<< 17).toNat : Int) from shl_u _ (s := 17) (by omega), xor_u]
  rfl
end Go.Pl

set_option linter.unusedVariables false
set_option linter.unusedSimpArgs false
namespace Go.Pl
open Go Go.Ab
/-! #### breakPatterns -/
theorem pow_bits {x : Nat} (h : 1 ≤ x) : 2 ^ Sort.bitsLen x ≤ 2 * x := by
  unfold Sort.bitsLen
  rw [if_neg (by omega), Nat.pow_succ]
  have := Nat.log2_self_le (n := x) (by omega)
  omega
def otherN (len M : Nat) (r : UInt64) : Nat := if (Sort.xorNext r).toNat &&& (M - 1) ≥ len then ((Sort.xorNext r).toNat &&& (M - 1)) - len else (Sort.xorNext r).toNat &&& (M - 1)
theorem other_lt {len M : Nat} (hM : M ≤ 2 * len) (h0 : 1 ≤ len) (hM1 : 1 ≤ M) (r : UInt64) : otherN len M r < len := by
  unfold otherN
  have : (Sort.xorNext r).toNat &&& (M - 1) ≤ M - 1 := Nat.and_le_right
  split <;> omega
theorem step_ok {n : Nat} (hn : 1 ≤ n) {a b M : Nat} {d : Array Row} {r : UInt64} {ix m : Nat} (h8 : 8 ≤ b - a) (hb : b ≤ d.size) (hs : d.size < 1000000) (hM : M ≤ 2 * (b - a)) (hM1 : 1 ≤ M) (hix : ix < d.size) (hl : ix ≤ a + (b - a) / 4 * 2 + 1) :
    slices_breakPatternsCmpFunc_Value_row_Cmp_r_l5 n (a : Int) (b : Int) (M : Int) (m + 1) d.toList (r.toNat : Int) (ix : Int) = slices_breakPatternsCmpFunc_Value_row_Cmp_r_l5 n (a : Int) (b : Int) (M : Int) m (Sort.swp d ix (a + otherN (b - a) M r)).toList ((Sort.xorNext r).toNat : Int) ((ix + 1 : Nat) : Int) := by
  have e1 : IntKind.wrap .i64 ((b : Int) - (a : Int)) = ((b - a : Nat) : Int) := wv (by omega) (by omega)
  have e2 : IntKind.wrap .i64 (Int.tdiv ((b - a : Nat) : Int) 4) = (((b - a) / 4 : Nat) : Int) := by
    rw [show Int.tdiv ((b - a : Nat) : Int) 4 = (((b - a) / 4 : Nat) : Int) from rfl]; exact wv rfl (by omega)
  have m2 : IntKind.wrap .i64 ((((b - a) / 4 : Nat) : Int) * 2) = (((b - a) / 4 * 2 : Nat) : Int) := wv (by omega) (by omega)
  have i2 : IntKind.wrap .i64 ((a : Int) + (((b - a) / 4 * 2 : Nat) : Int)) = ((a + (b - a) / 4 * 2 : Nat) : Int) := wv (by omega) (by omega)
  have i3 : IntKind.wrap .i64 (((a + (b - a) / 4 * 2 : Nat) : Int) + 1) = ((a + (b - a) / 4 * 2 + 1 : Nat) : Int) := wv (by omega) (by omega)
  have hor := other_lt hM (by omega) hM1 r
  have hx := xorI_ok r
  have hv : IntKind.wrap .u64 ((M : Int) - 1) = (((UInt64.ofNat (M - 1)).toNat : Nat) : Int) := by
    rw [UInt64.toNat_ofNat_of_lt' (by show M - 1 < 18446744073709551616; omega), wrapU (by omega) (by omega)]; omega
  have ha : IntKind.wrap .i64 (iAnd .u64 (xorI (r.toNat : Int)) (IntKind.wrap .u64 ((M : Int) - 1))) = (((Sort.xorNext r).toNat &&& (M - 1) : Nat) : Int) := by
    have h1 : (Sort.xorNext r).toNat &&& (M - 1) ≤ M - 1 := Nat.and_le_right
    rw [hx, hv, and_u, UInt64.toNat_ofNat_of_lt' (by show M - 1 < 18446744073709551616; omega)]
    exact wv rfl (by omega)
  rw [slices_breakPatternsCmpFunc_Value_row_Cmp_r_l5]
  simp only [withK]
  change (bif decide ((ix : Int) ≤ (IntKind.wrap .i64 ((IntKind.wrap .i64 ((a : Int) + (IntKind.wrap .i64 ((IntKind.wrap .i64 (Int.tdiv (IntKind.wrap .i64 ((b : Int) - (a : Int))) 4)) * 2)))) + 1))) then (slices_xorshift_Next n (r.toNat : Int)).bind fun _ => bif decide (IntKind.wrap .i64 (iAnd .u64 (xorI (r.toNat : Int)) (IntKind.wrap .u64 ((M : Int) - 1))) ≥ IntKind.wrap .i64 ((b : Int) - (a : Int))) then
      (fun y20 => (idx d.toList (IntKind.wrap .i64 ((a : Int) + y20))).bind fun x22 => (idx d.toList (ix : Int)).bind fun x24 => (idx (d.toList.set (Int.toNat (ix : Int)) x22) (IntKind.wrap .i64 ((a : Int) + y20))).bind fun x26 => slices_breakPatternsCmpFunc_Value_row_Cmp_r_l5 n (a : Int) (b : Int) (M : Int) m ((d.toList.set (Int.toNat (ix : Int)) x22).set (Int.toNat (IntKind.wrap .i64 ((a : Int) + y20))) x24) (xorI (r.toNat : Int)) (IntKind.wrap .i64 ((ix : Int) + 1))) (IntKind.wrap .i64 (IntKind.wrap .i64 (iAnd .u64 (xorI (r.toNat : Int)) (IntKind.wrap .u64 ((M : Int) - 1))) - IntKind.wrap .i64 ((b : Int) - (a : Int))))
      else (fun y20 => (idx d.toList (IntKind.wrap .i64 ((a : Int) + y20))).bind fun x22 => (idx d.toList (ix : Int)).bind fun x24 => (idx (d.toList.set (Int.toNat (ix : Int)) x22) (IntKind.wrap .i64 ((a : Int) + y20))).bind fun x26 => slices_breakPatternsCmpFunc_Value_row_Cmp_r_l5 n (a : Int) (b : Int) (M : Int) m ((d.toList.set (Int.toNat (ix : Int)) x22).set (Int.toNat (IntKind.wrap .i64 ((a : Int) + y20))) x24) (xorI (r.toNat : Int)) (IntKind.wrap .i64 ((ix : Int) + 1))) (IntKind.wrap .i64 (iAnd .u64 (xorI (r.toNat : Int)) (IntKind.wrap .u64 ((M : Int) - 1)))) else some d.toList) = _
  rw [e1, e2, m2, i2, i3, dT (by omega : (ix : Int) ≤ ((a + (b - a) / 4 * 2 + 1 : Nat) : Int)), cond_true, ha]
  obtain ⟨n, rfl⟩ : ∃ k, n = k + 1 := ⟨n - 1, by omega⟩
  rw [show slices_xorshift_Next (n + 1) (r.toNat : Int) = some () from rfl, Option.bind_some]
  have fin : ∀ (o : Nat), o = otherN (b - a) M r → ((idx d.toList (IntKind.wrap .i64 ((a : Int) + (o : Int)))).bind fun x22 => (idx d.toList (ix : Int)).bind fun x24 => (idx (d.toList.set (Int.toNat (ix : Int)) x22) (IntKind.wrap .i64 ((a : Int) + (o : Int)))).bind fun x26 => slices_breakPatternsCmpFunc_Value_row_Cmp_r_l5 (n + 1) (a : Int) (b : Int) (M : Int) m ((d.toList.set (Int.toNat (ix : Int)) x22).set (Int.toNat (IntKind.wrap .i64 ((a : Int) + (o : Int)))) x24) (xorI (r.toNat : Int)) (IntKind.wrap .i64 ((ix : Int) + 1))) = slices_breakPatternsCmpFunc_Value_row_Cmp_r_l5 (n + 1) (a : Int) (b : Int) (M : Int) m (Sort.swp d ix (a + otherN (b - a) M r)).toList ((Sort.xorNext r).toNat : Int) ((ix + 1 : Nat) : Int) := by
    intro o ho
    rw [← ho] at hor ⊢
    have eo : IntKind.wrap .i64 ((a : Int) + (o : Int)) = ((a + o : Nat) : Int) := wv (by omega) (by omega)
    rw [eo, idx_arr d (by omega), idx_arr d hix, Option.bind_some, Option.bind_some, hx, wrapN (by omega)]
    exact swap_bind (d := d) (i := ix) (j := a + o) hix (by omega) (K := fun l => slices_breakPatternsCmpFunc_Value_row_Cmp_r_l5 (n + 1) (a : Int) (b : Int) (M : Int) m l ((Sort.xorNext r).toNat : Int) ((ix + 1 : Nat) : Int))
  have hand : (Sort.xorNext r).toNat &&& (M - 1) ≤ M - 1 := Nat.and_le_right
  by_cases hge : (Sort.xorNext r).toNat &&& (M - 1) ≥ b - a
  · rw [dT (by omega : (((Sort.xorNext r).toNat &&& (M - 1) : Nat) : Int) ≥ ((b - a : Nat) : Int)), cond_true]
    have eo2 : IntKind.wrap .i64 ((((Sort.xorNext r).toNat &&& (M - 1) : Nat) : Int) - ((b - a : Nat) : Int)) = ((((Sort.xorNext r).toNat &&& (M - 1)) - (b - a) : Nat) : Int) := wv (by omega) (by omega)
    rw [eo2]
    have f1 := fin (((Sort.xorNext r).toNat &&& (M - 1)) - (b - a)) (by unfold otherN; rw [if_pos hge])
    exact f1
  · rw [dF (by omega : ¬ (((Sort.xorNext r).toNat &&& (M - 1) : Nat) : Int) ≥ ((b - a : Nat) : Int)), cond_false]
    have f1 := fin ((Sort.xorNext r).toNat &&& (M - 1)) (by unfold otherN; rw [if_neg hge])
    exact f1
end Go.Pl

set_option linter.unusedVariables false
set_option linter.unusedSimpArgs false
namespace Go.Pl
open Go Go.Ab
theorem breakStep_eq (a len M : Nat) (r : UInt64) (d : Array Row) (ix : Nat) : Sort.breakStep a len M (r, d) ix = (Sort.xorNext r, Sort.swp d ix (a + otherN len M r)) := rfl
theorem breakPatterns_ok {n : Nat} (hn : 2000030 ≤ n) {a b : Nat} {d : Array Row} (hab : a ≤ b) (hb : b ≤ d.size) (hs : d.size < 1000000) (hW : AllA WRow d) :
    slices_breakPatternsCmpFunc_Value_row_Cmp_r n d.toList (a : Int) (b : Int) = some (Sort.breakPatterns d a b).toList ∧ AllA WRow (Sort.breakPatterns d a b) ∧ (Sort.breakPatterns d a b).size = d.size := by
  obtain ⟨n, rfl⟩ : ∃ k, n = k + 1 := ⟨n - 1, by omega⟩
  have e1 : IntKind.wrap .i64 ((b : Int) - (a : Int)) = ((b - a : Nat) : Int) := wv (by omega) (by omega)
  unfold slices_breakPatternsCmpFunc_Value_row_Cmp_r Sort.breakPatterns
  rw [at1_succ, e1]
  by_cases h8 : b - a ≥ 8
  · have e2 : IntKind.wrap .i64 (Int.tdiv ((b - a : Nat) : Int) 4) = (((b - a) / 4 : Nat) : Int) := by
      rw [show Int.tdiv ((b - a : Nat) : Int) 4 = (((b - a) / 4 : Nat) : Int) from rfl]; exact wv rfl (by omega)
    have m2 : IntKind.wrap .i64 ((((b - a) / 4 : Nat) : Int) * 2) = (((b - a) / 4 * 2 : Nat) : Int) := wv (by omega) (by omega)
    have i2 : IntKind.wrap .i64 ((a : Int) + (((b - a) / 4 * 2 : Nat) : Int)) = ((a + (b - a) / 4 * 2 : Nat) : Int) := wv (by omega) (by omega)
    have i3 : IntKind.wrap .i64 (((a + (b - a) / 4 * 2 : Nat) : Int) + 1) = ((a + (b - a) / 4 * 2 + 1 : Nat) : Int) := wv (by omega) (by omega)
    have i4 : IntKind.wrap .i64 (((a + (b - a) / 4 * 2 : Nat) : Int) - 1) = ((a + (b - a) / 4 * 2 - 1 : Nat) : Int) := wv (by omega) (by omega)
    have eu : IntKind.wrap .u64 ((b - a : Nat) : Int) = (((UInt64.ofNat (b - a)).toNat : Nat) : Int) := by
      rw [UInt64.toNat_ofNat_of_lt' (by show b - a < 18446744073709551616; omega), wrapU (by omega) (by omega)]
    have hM := pow_bits (x := b - a) (by omega)
    have hM1 : 1 ≤ 2 ^ Sort.bitsLen (b - a) := Nat.pow_pos (by decide)
    rw [dT (by omega : ((b - a : Nat) : Int) ≥ 8), cond_true, pow2_ok (by omega) (by omega), Option.bind_some, e2, m2, i2, i4, eu]
    have hd : (if b - a ≥ 8 then (Sort.breakStep a (b - a) (1 <<< Sort.bitsLen (b - a)) (Sort.breakStep a (b - a) (1 <<< Sort.bitsLen (b - a)) (Sort.breakStep a (b - a) (1 <<< Sort.bitsLen (b - a)) (UInt64.ofNat (b - a), d) (a + (b - a) / 4 * 2 - 1)) (a + (b - a) / 4 * 2 - 1 + 1)) (a + (b - a) / 4 * 2 - 1 + 2)).2 else d) = (Sort.breakStep a (b - a) (2 ^ Sort.bitsLen (b - a)) (Sort.breakStep a (b - a) (2 ^ Sort.bitsLen (b - a)) (Sort.breakStep a (b - a) (2 ^ Sort.bitsLen (b - a)) (UInt64.ofNat (b - a), d) (a + (b - a) / 4 * 2 - 1)) (a + (b - a) / 4 * 2 - 1 + 1)) (a + (b - a) / 4 * 2 - 1 + 2)).2 := by
      rw [if_pos h8, Nat.one_shiftLeft]
    show _ = some (if b - a ≥ 8 then (Sort.breakStep a (b - a) (1 <<< Sort.bitsLen (b - a)) (Sort.breakStep a (b - a) (1 <<< Sort.bitsLen (b - a)) (Sort.breakStep a (b - a) (1 <<< Sort.bitsLen (b - a)) (UInt64.ofNat (b - a), d) (a + (b - a) / 4 * 2 - 1)) (a + (b - a) / 4 * 2 - 1 + 1)) (a + (b - a) / 4 * 2 - 1 + 2)).2 else d).toList ∧ AllA WRow (if b - a ≥ 8 then (Sort.breakStep a (b - a) (1 <<< Sort.bitsLen (b - a)) (Sort.breakStep a (b - a) (1 <<< Sort.bitsLen (b - a)) (Sort.breakStep a (b - a) (1 <<< Sort.bitsLen (b - a)) (UInt64.ofNat (b - a), d) (a + (b - a) / 4 * 2 - 1)) (a + (b - a) / 4 * 2 - 1 + 1)) (a + (b - a) / 4 * 2 - 1 + 2)).2 else d) ∧ (if b - a ≥ 8 then (Sort.breakStep a (b - a) (1 <<< Sort.bitsLen (b - a)) (Sort.breakStep a (b - a) (1 <<< Sort.bitsLen (b - a)) (Sort.breakStep a (b - a) (1 <<< Sort.bitsLen (b - a)) (UInt64.ofNat (b - a), d) (a + (b - a) / 4 * 2 - 1)) (a + (b - a) / 4 * 2 - 1 + 1)) (a + (b - a) / 4 * 2 - 1 + 2)).2 else d).size = d.size
    rw [hd, breakStep_eq, breakStep_eq, breakStep_eq]
    have hc : a + (b - a) / 4 * 2 - 1 = a + (b - a) / 4 * 2 - 1 := rfl
    have hix : a + (b - a) / 4 * 2 - 1 + 2 < b := by omega
    have hix2 : a + (b - a) / 4 * 2 - 1 + 2 ≤ a + (b - a) / 4 * 2 + 1 := by omega
    have hstop : a + (b - a) / 4 * 2 + 1 < a + (b - a) / 4 * 2 - 1 + 3 := by omega
    revert hix hix2 hstop
    generalize a + (b - a) / 4 * 2 - 1 = ix
    intro hix hix2 hstop
    generalize hMM : 2 ^ Sort.bitsLen (b - a) = M at hM hM1
    obtain ⟨m, rfl⟩ : ∃ m, n = m + 4 := ⟨n - 4, by omega⟩
    generalize UInt64.ofNat (b - a) = r0
    have o0 := other_lt hM (by omega) hM1 r0
    have w1 := hW.swp (i := ix) (j := a + otherN (b - a) M r0) (by omega) (by omega)
    have z1 := swp_size d ix (a + otherN (b - a) M r0)
    rw [step_ok (by omega) (by omega) hb hs hM hM1 (by omega) (by omega)]
    generalize Sort.swp d ix (a + otherN (b - a) M r0) = d1 at w1 z1
    generalize Sort.xorNext r0 = r1
    have o1 := other_lt hM (by omega) hM1 r1
    have w2 := w1.swp (i := ix + 1) (j := a + otherN (b - a) M r1) (by omega) (by omega)
    have z2 := swp_size d1 (ix + 1) (a + otherN (b - a) M r1)
    rw [step_ok (by omega) (by omega) (by omega) (by omega) hM hM1 (by omega) (by omega)]
    generalize Sort.swp d1 (ix + 1) (a + otherN (b - a) M r1) = d2 at w2 z2
    generalize Sort.xorNext r1 = r2
    have o2 := other_lt hM (by omega) hM1 r2
    have w3 := w2.swp (i := ix + 2) (j := a + otherN (b - a) M r2) (by omega) (by omega)
    have z3 := swp_size d2 (ix + 2) (a + otherN (b - a) M r2)
    rw [step_ok (ix := ix + 1 + 1) (by omega) (by omega) (by omega) (by omega) hM hM1 (by omega) (by omega)]
    refine ⟨?_, w3, by show (Sort.swp d2 (ix + 2) (a + otherN (b - a) M r2)).size = _; omega⟩
    rw [slices_breakPatternsCmpFunc_Value_row_Cmp_r_l5, e1, e2, m2, i2, i3, dF (by omega : ¬ ((ix + 1 + 1 + 1 : Nat) : Int) ≤ ((a + (b - a) / 4 * 2 + 1 : Nat) : Int)), cond_false]
  · rw [dF (by omega : ¬ ((b - a : Nat) : Int) ≥ 8), cond_false]
    simp only [if_neg h8]
    exact ⟨trivial, hW, trivial⟩
end Go.Pl

set_option linter.unusedVariables false
set_option linter.unusedSimpArgs false
namespace Go.Pl
open Go Go.Ab
/-! ### Orders of three answers -/
structure Ord3 {α : Type} (c : α → α → Int) : Prop where
  anti : ∀ x y, c y x = -c x y
  trans : ∀ x y z, c x y ≤ 0 → c y z ≤ 0 → c x z ≤ 0
theorem Ord3.self {α : Type} {c : α → α → Int} (h : Ord3 c) (x : α) : c x x = 0 := by have := h.anti x x; omega
/-- Alike on the left. -/
theorem Ord3.left {α : Type} {c : α → α → Int} (h : Ord3 c) {x y z : α} (e : c x y = 0) : (c x z ≤ 0 ↔ c y z ≤ 0) ∧ (0 ≤ c x z ↔ 0 ≤ c y z) := by
  have a1 := h.anti x y
  have a2 := h.anti x z
  have a3 := h.anti y z
  refine ⟨⟨fun g => h.trans y x z (by omega) g, fun g => h.trans x y z (by omega) g⟩, ⟨fun g => ?_, fun g => ?_⟩⟩
  · have := h.trans z x y (by omega) (by omega); omega
  · have := h.trans z y x (by omega) (by omega); omega
theorem Ord3.swo {α : Type} {c : α → α → Int} (h : Ord3 c) : Sort.SWO fun x y => decide (c x y < 0) where
  irrefl x := by simp [h.self x]
  trans x y z h1 h2 := by
    simp only [decide_eq_true_eq] at *
    have a1 := h.anti x z
    by_cases g : c x z < 0
    · exact g
    · have := h.trans z x y (by omega) (by omega)
      have a2 := h.anti y z
      omega
  ntrans x y z h1 h2 := by
    simp only [decide_eq_false_iff_not] at *
    have a1 := h.anti x y
    have a2 := h.anti y z
    have a3 := h.anti x z
    have := h.trans z y x (by omega) (by omega)
    omega
theorem iC_ord : Ord3 iC where
  anti x y := by unfold iC; repeat' split
                 all_goals omega
  trans x y z := by unfold iC; intro h1 h2; repeat' split
                    all_goals (repeat' split at h1) <;> (repeat' split at h2) <;> omega
theorem lexC_anti {α : Type} {c : α → α → Int} (h : Ord3 c) : ∀ (a b : List α), lexC c b a = -lexC c a b
  | [], [] => rfl
  | [], _ :: _ => rfl
  | _ :: _, [] => rfl
  | x :: a, y :: b => by
    have h1 := h.anti x y
    simp only [lexC]
    rw [lexC_anti h a b]
    by_cases e : c x y = 0
    · rw [if_neg (by omega), if_neg (by omega)]
    · rw [if_pos (by omega), if_pos e, h1]
theorem lexC_trans {α : Type} {c : α → α → Int} (h : Ord3 c) : ∀ (l1 l2 l3 : List α), lexC c l1 l2 ≤ 0 → lexC c l2 l3 ≤ 0 → lexC c l1 l3 ≤ 0
  | [], _, [], _, _ => by simp [lexC]
  | [], _, _ :: _, _, _ => by simp [lexC]
  | _ :: _, [], _, h1, _ => by simp [lexC] at h1
  | _ :: _, _ :: _, [], _, h2 => by simp [lexC] at h2
  | x :: a, y :: b, z :: d, h1, h2 => by
    simp only [lexC] at h1 h2 ⊢
    have t := h.trans x y z
    by_cases e1 : c x y = 0
    · rw [if_neg (by omega)] at h1
      have l := h.left (z := z) e1
      by_cases e2 : c y z = 0
      · rw [if_neg (by omega)] at h2
        have : c x z = 0 := by have := l.1.2; have := l.2.2; omega
        rw [if_neg (by omega)]
        exact lexC_trans h a b d h1 h2
      · rw [if_pos e2] at h2
        have q1 := l.1.2 h2
        have : c x z ≠ 0 := fun g => e2 (by have := l.1.1; have := l.2.1; omega)
        rw [if_pos this]; exact q1
    · rw [if_pos e1] at h1
      have h2' : c y z ≤ 0 := by
        by_cases e2 : c y z = 0
        · omega
        · rw [if_pos e2] at h2; exact h2
      have q := t h1 h2'
      have : c x z ≠ 0 := fun g => by
        have a1 := h.anti x y
        have l := h.left (z := y) g
        have a2 := h.anti y z
        have := l.1.1 h1
        omega
      rw [if_pos this]; exact q
theorem lexC_ord {α : Type} {c : α → α → Int} (h : Ord3 c) : Ord3 (lexC c) := ⟨lexC_anti h, lexC_trans h⟩
end Go.Pl

set_option linter.unusedVariables false
set_option linter.unusedSimpArgs false
namespace Go.Pl
open Go Go.Ab
theorem less_irr : ∀ (l : List UInt8), Op.bytesLess l l = false
  | [] => rfl
  | a :: l => by
    have h : ¬ (a < a) := fun h => absurd (UInt8.lt_iff_toNat_lt.1 h) (by omega)
    simp [Op.bytesLess, less_irr l, h]
/-- Two texts' bytes, by one of three. -/
theorem less_tri : ∀ (a b : List UInt8), (Op.bytesLess a b = true ∧ Op.bytesLess b a = false ∧ a ≠ b) ∨ (Op.bytesLess a b = false ∧ Op.bytesLess b a = true ∧ a ≠ b) ∨ a = b
  | [], [] => .inr (.inr rfl)
  | [], y :: b => .inl ⟨rfl, rfl, by simp⟩
  | x :: a, [] => .inr (.inl ⟨rfl, rfl, by simp⟩)
  | x :: a, y :: b => by
    simp only [Op.bytesLess, Bool.or_eq_true, Bool.and_eq_true, decide_eq_true_eq, Bool.or_eq_false_iff, decide_eq_false_iff_not, Bool.and_eq_false_iff, beq_iff_eq, beq_eq_false_iff_ne, UInt8.lt_iff_toNat_lt]
    rcases Nat.lt_trichotomy x.toNat y.toNat with h | h | h
    · exact .inl ⟨.inl h, ⟨by omega, .inl fun e => by rw [e] at h; omega⟩, fun e => by cases e; omega⟩
    · have e : x = y := UInt8.toNat_inj.1 h
      subst e
      rcases less_tri a b with ⟨h1, h2, h3⟩ | ⟨h1, h2, h3⟩ | h1
      · exact .inl ⟨.inr ⟨rfl, h1⟩, ⟨by omega, .inr h2⟩, fun e => h3 (by cases e; rfl)⟩
      · exact .inr (.inl ⟨⟨by omega, .inr h1⟩, .inr ⟨rfl, h2⟩, fun e => h3 (by cases e; rfl)⟩)
      · exact .inr (.inr (by rw [h1]))
    · exact .inr (.inl ⟨⟨by omega, .inl fun e => by rw [e] at h; omega⟩, .inl h, fun e => by cases e; omega⟩)
theorem less_trans : ∀ (a b d : List UInt8), Op.bytesLess a b = true → Op.bytesLess b d = true → Op.bytesLess a d = true
  | _, [], _, h, _ => by simp [Op.bytesLess] at h
  | _, _ :: _, [], _, h => by simp [Op.bytesLess] at h
  | [], _ :: _, _ :: _, _, _ => rfl
  | x :: a, y :: b, z :: d, h1, h2 => by
    simp only [Op.bytesLess, Bool.or_eq_true, Bool.and_eq_true, decide_eq_true_eq, beq_iff_eq, UInt8.lt_iff_toNat_lt] at h1 h2 ⊢
    rcases h1 with h1 | ⟨rfl, h1⟩
    · rcases h2 with h2 | ⟨rfl, h2⟩
      · left; omega
      · left; omega
    · rcases h2 with h2 | ⟨rfl, h2⟩
      · left; omega
      · exact .inr ⟨rfl, less_trans a b d h1 h2⟩
def lC (a b : List UInt8) : Int := bif Op.bytesLess a b then -1 else bif !(Op.bytesLess a b || a == b) then 1 else 0
theorem lC_val (a b : List UInt8) : (lC a b = -1 ∧ Op.bytesLess a b = true) ∨ (lC a b = 1 ∧ Op.bytesLess b a = true) ∨ (lC a b = 0 ∧ a = b) := by
  rcases less_tri a b with ⟨h1, h2, h3⟩ | ⟨h1, h2, h3⟩ | h1
  · exact .inl ⟨by unfold lC; rw [h1]; rfl, h1⟩
  · exact .inr (.inl ⟨by unfold lC; rw [h1, beq_false_of_ne h3]; rfl, h2⟩)
  · subst h1
    exact .inr (.inr ⟨by unfold lC; rw [less_irr, beq_self_eq_true]; rfl, rfl⟩)
theorem lC_ord : Ord3 lC where
  anti a b := by
    rcases less_tri a b with ⟨h1, h2, h3⟩ | ⟨h1, h2, h3⟩ | h1
    · unfold lC; rw [h1, h2, beq_false_of_ne (Ne.symm h3)]; rfl
    · unfold lC; rw [h1, h2, beq_false_of_ne h3]; rfl
    · subst h1; unfold lC; rw [less_irr, beq_self_eq_true]; rfl
  trans a b d h1 h2 := by
    rcases lC_val a b with ⟨e1, q1⟩ | ⟨e1, q1⟩ | ⟨e1, q1⟩
    · rcases lC_val b d with ⟨e2, q2⟩ | ⟨e2, q2⟩ | ⟨e2, q2⟩
      · have := less_trans a b d q1 q2
        unfold lC; rw [this]; exact (show (-1 : Int) ≤ 0 by decide)
      · omega
      · subst q2; exact h1
    · omega
    · subst q1; exact h2
theorem sC_ord : Ord3 sC := ⟨fun x y => lC_ord.anti x.toList y.toList, fun x y z => lC_ord.trans x.toList y.toList z.toList⟩
end Go.Pl

set_option linter.unusedVariables false
set_option linter.unusedSimpArgs false
namespace Go.Pl
open Go Go.Ab
/-- By a number first, then by an order of each number's own. -/
def lexK {α : Type} (key : α → Int) (c : Int → α → α → Int) (x y : α) : Int := if key x ≠ key y then iC (key x) (key y) else c (key x) x y
theorem iC_cases (a b : Int) : (a < b ∧ iC a b = -1) ∨ (a = b ∧ iC a b = 0) ∨ (b < a ∧ iC a b = 1) := by
  unfold iC
  by_cases h1 : a < b
  · exact .inl ⟨h1, if_pos h1⟩
  · by_cases h2 : a > b
    · exact .inr (.inr ⟨h2, by rw [if_neg h1, if_pos h2]⟩)
    · exact .inr (.inl ⟨by omega, by rw [if_neg h1, if_neg h2]⟩)
theorem lexK_ord {α : Type} {key : α → Int} {c : Int → α → α → Int} (h : ∀ k, Ord3 (c k)) : Ord3 (lexK key c) where
  anti x y := by
    unfold lexK
    by_cases e : key x = key y
    · rw [if_neg (by omega), if_neg (by omega), ← e]; exact (h _).anti x y
    · rw [if_pos (by omega), if_pos e]; exact iC_ord.anti _ _
  trans x y z := by
    unfold lexK
    intro h1 h2
    by_cases e1 : key x = key y
    · rw [if_neg (by omega)] at h1
      by_cases e2 : key y = key z
      · rw [if_neg (by omega)] at h2
        rw [if_neg (by omega)]
        exact (h _).trans x y z h1 (by rw [e1]; exact h2)
      · rw [if_pos e2] at h2
        rw [if_pos (by omega), e1]; exact h2
    · rw [if_pos e1] at h1
      by_cases e2 : key y = key z
      · rw [if_pos (by omega), ← e2]; exact h1
      · rw [if_pos e2] at h2
        have a1 := iC_cases (key x) (key y)
        have a2 := iC_cases (key y) (key z)
        have a3 := iC_cases (key x) (key z)
        rw [if_pos (by omega)]
        omega
theorem ord_map {α β : Type} {c : β → β → Int} (h : Ord3 c) (f : α → β) : Ord3 fun x y => c (f x) (f y) := ⟨fun x y => h.anti _ _, fun x y z => h.trans _ _ _⟩
/-! ### Floats -/
theorem rd_nan {x : Nat} : isNan x = (match FloatKind.f64.format.read x with | .nan .. => true | _ => false) := by
  unfold isNan
  simp only [Ieee.Format.order]
  cases FloatKind.f64.format.read x with
  | nan => rfl
  | infinity s => cases s <;> rfl
  | number s m e => simp [Ieee.Datum.order]
def dR : Ieee.Datum → Int
  | .nan .. => 2
  | .infinity s => if s then -1 else 1
  | .number .. => 0
def dE : Ieee.Datum → Int
  | .number _ _ i => i
  | _ => 0
def dV (B : Int) : Ieee.Datum → Int
  | .number s m i => Ieee.signed s m (i - B).toNat
  | _ => 0
def kC (B : Int) : Ieee.Datum → Ieee.Datum → Int := lexK dR fun _ x y => iC (dV B x) (dV B y)
theorem kC_ord (B : Int) : Ord3 (kC B) := lexK_ord fun _ => ord_map iC_ord (dV B)
theorem signed_add (s : Bool) (m a k : Nat) : Ieee.signed s m (a + k) = Ieee.signed s m a * ((2 ^ k : Nat) : Int) := by
  unfold Ieee.signed
  rw [Nat.shiftLeft_eq, Nat.shiftLeft_eq, Nat.pow_add, ← Nat.mul_assoc]
  cases s
  · simp only [Bool.false_eq_true, if_false]; rw [Int.natCast_mul]
  · simp only [if_true]; rw [Int.natCast_mul, Int.neg_mul]
theorem iC_scale (a b : Int) {q : Nat} (h : 0 < q) : iC (a * (q : Int)) (b * (q : Int)) = iC a b := by
  have hq : (0 : Int) < (q : Int) := by omega
  rcases iC_cases a b with ⟨h1, h2⟩ | ⟨h1, h2⟩ | ⟨h1, h2⟩
  · rw [h2]
    have := Int.mul_lt_mul_of_pos_right h1 hq
    unfold iC; rw [if_pos this]
  · subst h1; rw [h2]; unfold iC; rw [if_neg (by omega), if_neg (by omega)]
  · rw [h2]
    have := Int.mul_lt_mul_of_pos_right h1 hq
    unfold iC; rw [if_neg (by omega), if_pos this]
theorem kC_base {B B' : Int} (x y : Ieee.Datum) (h : B ≤ B') (hx : dR x = 0 → B' ≤ dE x) (hy : dR y = 0 → B' ≤ dE y) : kC B x y = kC B' x y := by
  unfold kC lexK
  by_cases e : dR x = dR y
  · rw [if_neg (by omega), if_neg (by omega)]
    cases x with
    | number s m i =>
      cases y with
      | number t n j =>
        have h1 : B' ≤ i := hx rfl
        have h2 : B' ≤ j := hy rfl
        simp only [dV]
        rw [show (i - B).toNat = (i - B').toNat + (B' - B).toNat by omega, show (j - B).toNat = (j - B').toNat + (B' - B).toNat by omega, signed_add, signed_add, iC_scale _ _ (Nat.pow_pos (by decide))]
      | nan => simp [dR] at e
      | infinity t => exfalso; revert e; cases t <;> simp [dR]
    | nan => cases y with
      | number t n j => simp [dR] at e
      | nan => rfl
      | infinity t => rfl
    | infinity s => cases y with
      | number t n j => exfalso; revert e; cases s <;> simp [dR]
      | nan => rfl
      | infinity t => rfl
  · rw [if_pos e, if_pos e]
theorem cmp_iC (a b : Int) : (compare a b == .lt) = decide (a < b) ∧ (compare a b == .gt) = decide (a > b) := by
  rcases iC_cases a b with ⟨h1, _⟩ | ⟨h1, _⟩ | ⟨h1, _⟩
  · have : compare a b = .lt := Int.compare_eq_lt.2 h1
    rw [this, dT' h1, dF' (by omega)]; exact ⟨rfl, rfl⟩
  · have : compare a b = .eq := Int.compare_eq_eq.2 h1
    rw [this, dF' (by omega), dF' (by omega)]; exact ⟨rfl, rfl⟩
  · have : compare a b = .gt := Int.compare_eq_gt.2 h1
    rw [this, dF' (by omega), dT' h1]; exact ⟨rfl, rfl⟩
where
  dT' {p : Prop} [Decidable p] (h : p) : decide p = true := decide_eq_true h
  dF' {p : Prop} [Decidable p] (h : ¬ p) : decide p = false := decide_eq_false h
theorem fC_key (x y : Nat) : fC x y = kC (min (dE (FloatKind.f64.format.read x)) (dE (FloatKind.f64.format.read y))) (FloatKind.f64.format.read x) (FloatKind.f64.format.read y) := by
  unfold fC fLt fGt
  rw [rd_nan, rd_nan]
  simp only [Ieee.Format.order]
  cases FloatKind.f64.format.read x with
  | nan => cases FloatKind.f64.format.read y with
    | nan => rfl
    | infinity t => cases t <;> rfl
    | number t n j => rfl
  | infinity s => cases FloatKind.f64.format.read y with
    | nan => cases s <;> rfl
    | infinity t => cases s <;> cases t <;> rfl
    | number t n j => cases s <;> rfl
  | number s m i => cases FloatKind.f64.format.read y with
    | nan => rfl
    | infinity t => cases t <;> rfl
    | number t n j =>
      simp only [Ieee.Datum.order, kC, lexK, dR, dE, dV, ne_eq, not_true_eq_false, if_false, Bool.and_false, cond_false]
      have e1 := cmp_iC (Ieee.signed s m (i - min i j).toNat) (Ieee.signed t n (j - min i j).toNat)
      rw [show (some (compare (Ieee.signed s m (i - min i j).toNat) (Ieee.signed t n (j - min i j).toNat)) == some Ordering.lt) = (compare (Ieee.signed s m (i - min i j).toNat) (Ieee.signed t n (j - min i j).toNat) == Ordering.lt) from rfl, show (some (compare (Ieee.signed s m (i - min i j).toNat) (Ieee.signed t n (j - min i j).toNat)) == some Ordering.gt) = (compare (Ieee.signed s m (i - min i j).toNat) (Ieee.signed t n (j - min i j).toNat) == Ordering.gt) from rfl, e1.1, e1.2]
      unfold iC
      generalize Ieee.signed s m (i - min i j).toNat = a
      generalize Ieee.signed t n (j - min i j).toNat = b
      by_cases h1 : a < b
      · rw [if_pos h1, decide_eq_true h1]; rfl
      · rw [if_neg h1, decide_eq_false h1, cond_false]
        by_cases h2 : a > b
        · rw [if_pos h2, decide_eq_true h2]; rfl
        · rw [if_neg h2, decide_eq_false h2]; rfl
theorem fC_at {B : Int} {x y : Nat} (hx : B ≤ dE (FloatKind.f64.format.read x)) (hy : B ≤ dE (FloatKind.f64.format.read y)) : fC x y = kC B (FloatKind.f64.format.read x) (FloatKind.f64.format.read y) := by
  rw [fC_key]
  exact (kC_base _ _ (by omega) (fun _ => by omega) (fun _ => by omega)).symm
theorem fC_ord : Ord3 fC where
  anti x y := by
    rw [fC_at (B := min (dE (FloatKind.f64.format.read x)) (dE (FloatKind.f64.format.read y))) (x := y) (y := x) (by omega) (by omega), fC_key]
    exact (kC_ord _).anti _ _
  trans x y z := by
    rw [fC_at (B := min (min (dE (FloatKind.f64.format.read x)) (dE (FloatKind.f64.format.read y))) (dE (FloatKind.f64.format.read z))) (x := x) (y := y) (by omega) (by omega),
      fC_at (B := min (min (dE (FloatKind.f64.format.read x)) (dE (FloatKind.f64.format.read y))) (dE (FloatKind.f64.format.read z))) (x := y) (y := z) (by omega) (by omega),
      fC_at (B := min (min (dE (FloatKind.f64.format.read x)) (dE (FloatKind.f64.format.read y))) (dE (FloatKind.f64.format.read z))) (x := x) (y := z) (by omega) (by omega)]
    exact (kC_ord _).trans _ _ _
/-! ### Values, rows -/
theorem vC_ord : Ord3 vC := by
  have : Ord3 (lexK (fun v : api_Value => v.fKind) (fun k p q => if k = 3 then fC p.fFloat q.fFloat else if k = 4 then sC p.fText q.fText else iC p.fInt q.fInt)) := by
    refine lexK_ord fun k => ?_
    by_cases h3 : k = 3
    · simp only [h3, if_true]; exact ord_map fC_ord (fun v : api_Value => v.fFloat)
    · by_cases h4 : k = 4
      · simp only [h4, if_true, if_neg (by decide : ¬ (4 : Int) = 3)]; exact ord_map sC_ord (fun v : api_Value => v.fText)
      · simp only [h3, h4, if_false]; exact ord_map iC_ord (fun v : api_Value => v.fInt)
  exact this
theorem vCmp_ord : Ord3 vCmp := ord_map vC_ord vPlain
theorem rCmp_ord : Ord3 rCmp := lexC_ord vCmp_ord
theorem rLt_swo {lt : Option (List api_Value) → Option (List api_Value) → Bool} (h : ∀ x y, lt x y = decide (rCmp (sll x) (sll y) < 0)) : Sort.SWO lt := by
  have e : lt = fun x y => decide (rCmp (sll x) (sll y) < 0) := by funext x y; exact h x y
  rw [e]
  exact (ord_map rCmp_ord sll).swo
end Go.Pl

set_option linter.unusedVariables false
set_option linter.unusedSimpArgs false
namespace Go.Pl
open Go Go.Ab
/-! ### Bags: how often each stands in a list -/
section
variable {α : Type} {c : α → α → Int}
def cnt (c : α → α → Int) (z : α) (l : List α) : Nat := l.countP fun w => decide (c z w = 0)
theorem cnt_nil (z : α) : cnt c z [] = 0 := rfl
theorem cnt_cons (z w : α) (l : List α) : cnt c z (w :: l) = cnt c z l + if c z w = 0 then 1 else 0 := by
  unfold cnt; rw [List.countP_cons]; by_cases h : c z w = 0 <;> simp [h]
theorem cnt_perm {a b : List α} (h : a.Perm b) (z : α) : cnt c z a = cnt c z b := h.countP_eq _
theorem Ord3.eq0 (h : Ord3 c) {x y : α} (e : c x y = 0) (z : α) : c z x = 0 ↔ c z y = 0 := by
  have a0 := h.anti x y
  have l := h.left (z := z) e
  have a1 := h.anti z x
  have a2 := h.anti z y
  omega
/-- One that is alike taken away. -/
def remv (c : α → α → Int) (x : α) : List α → Option (List α)
  | [] => none
  | y :: ys => if c x y = 0 then some ys else (remv c x ys).map (y :: ·)
theorem remv_none {x : α} : ∀ {l : List α}, remv c x l = none ↔ cnt c x l = 0
  | [] => by simp [remv, cnt_nil]
  | y :: l => by
    rw [cnt_cons, remv]
    by_cases e : c x y = 0
    · simp [e]
    · rw [if_neg e, if_neg e, Option.map_eq_none_iff, remv_none]; omega
theorem remv_some (h : Ord3 c) {x : α} : ∀ {l l' : List α}, remv c x l = some l' → l.length = l'.length + 1 ∧ ∀ z, cnt c z l = cnt c z l' + if c z x = 0 then 1 else 0
  | [], _, e => by simp [remv] at e
  | y :: l, l', e => by
    rw [remv] at e
    by_cases g : c x y = 0
    · rw [if_pos g] at e
      cases e
      refine ⟨rfl, fun z => ?_⟩
      rw [cnt_cons]
      by_cases q : c z x = 0
      · rw [if_pos q, if_pos ((h.eq0 g z).1 q)]
      · rw [if_neg q, if_neg fun q' => q ((h.eq0 g z).2 q')]
    · rw [if_neg g, Option.map_eq_some_iff] at e
      obtain ⟨m, e, rfl⟩ := e
      obtain ⟨h1, h2⟩ := remv_some h e
      refine ⟨by simp [h1], fun z => ?_⟩
      rw [cnt_cons, cnt_cons, h2 z]; omega
def wi (c : α → α → Int) : List α → List α → Bool
  | [], _ => true
  | x :: xs, b => match remv c x b with
    | none => false
    | some b' => wi c xs b'
theorem wi_iff (h : Ord3 c) : ∀ (a b : List α), wi c a b = true ↔ ∀ z, cnt c z a ≤ cnt c z b
  | [], b => by simp [wi, cnt_nil]
  | x :: a, b => by
    rw [wi]
    cases e : remv c x b with
    | none =>
      simp only [Bool.false_eq_true, false_iff]
      intro g
      have := g x
      rw [remv_none.1 e, cnt_cons, if_pos (h.self x)] at this
      omega
    | some b' =>
      simp only []
      rw [wi_iff h a b']
      have g := (remv_some h e).2
      constructor
      · intro q z; have := q z; rw [g z, cnt_cons]; omega
      · intro q z; have := q z; rw [g z, cnt_cons] at this; omega
theorem wi_len (h : Ord3 c) : ∀ (a b : List α), wi c a b = true → a.length ≤ b.length
  | [], b, _ => Nat.zero_le _
  | x :: a, b, g => by
    rw [wi] at g
    cases e : remv c x b with
    | none => rw [e] at g; cases g
    | some b' =>
      rw [e] at g
      have := wi_len h a b' g
      rw [(remv_some h e).1, List.length_cons]; omega
theorem cnt_len (h : Ord3 c) {a b : List α} (g : ∀ z, cnt c z a ≤ cnt c z b) : a.length ≤ b.length := wi_len h a b ((wi_iff h a b).2 g)
/-- As many, and each as often at most: each just as often. -/
theorem cnt_same (h : Ord3 c) {a b : List α} (g : ∀ z, cnt c z a ≤ cnt c z b) (hl : a.length = b.length) (z : α) : cnt c z a = cnt c z b := by
  have := g z
  rcases Nat.lt_or_ge (cnt c z a) (cnt c z b) with hlt | hge
  · exfalso
    cases e : remv c z b with
    | none => rw [remv_none.1 e] at hlt; omega
    | some b' =>
      obtain ⟨h1, h2⟩ := remv_some h e
      have : ∀ w, cnt c w a ≤ cnt c w b' := by
        intro w
        have := g w
        have e2 := h2 w
        by_cases q : c w z = 0
        · rw [if_pos q] at e2
          have ew : ∀ l, cnt c w l = cnt c z l := fun l => by
            unfold cnt
            refine List.countP_congr fun x _ => ?_
            simp only [decide_eq_true_eq]
            have l1 := h.left (z := x) q
            omega
          rw [ew, ew] at *
          omega
        · rw [if_neg q] at e2; omega
      have := cnt_len h this
      omega
  · omega
def Srt (c : α → α → Int) (l : List α) : Prop := l.Pairwise fun x y => ¬ c y x < 0
theorem cnt_low (h : Ord3 c) {x : α} : ∀ {l : List α}, (∀ w, w ∈ l → c x w < 0) → cnt c x l = 0
  | [], _ => rfl
  | w :: l, g => by
    rw [cnt_cons, cnt_low h fun v hv => g v (by simp [hv])]
    have := g w (by simp)
    rw [if_neg (by omega)]
theorem lexC_zero_cnt (h : Ord3 c) {x y : List α} (e : lexC c x y = 0) (z : α) : cnt c z x = cnt c z y := by
  induction x generalizing y with
  | nil => cases y with
    | nil => rfl
    | cons => simp [lexC] at e
  | cons a x ih => cases y with
    | nil => simp [lexC] at e
    | cons b y =>
      rw [lexC] at e
      by_cases g : c a b = 0
      · rw [if_neg (by omega)] at e
        rw [cnt_cons, cnt_cons, ih e]
        by_cases q : c z a = 0
        · rw [if_pos q, if_pos ((h.eq0 g z).1 q)]
        · rw [if_neg q, if_neg fun q' => q ((h.eq0 g z).2 q')]
      · rw [if_pos g] at e; exact absurd e g
theorem lexC_sorted (h : Ord3 c) : ∀ {x y : List α}, Srt c x → Srt c y → x.length = y.length → (∀ z, cnt c z x ≤ cnt c z y) → lexC c x y = 0
  | [], [], _, _, _, _ => rfl
  | [], _ :: _, _, _, hl, _ => by simp at hl
  | _ :: _, [], _, _, hl, _ => by simp at hl
  | a :: x, b :: y, hx, hy, hl, g => by
    have hx' := List.pairwise_cons.1 hx
    have hy' := List.pairwise_cons.1 hy
    have gs := cnt_same h g hl
    -- the first of each is in the other
    have hab : ∀ {a b : α} {x y : List α}, Srt c (b :: y) → (∀ z, cnt c z (a :: x) = cnt c z (b :: y)) → c b a ≤ 0 := by
      intro a b x y hs gs
      rcases Int.lt_or_le 0 (c b a) with q | q
      · exfalso
        have e := gs a
        have a1 := h.anti a b
        rw [cnt_cons, if_pos (h.self a), cnt_low h (l := b :: y) fun w hw => ?_] at e
        · omega
        · rcases List.mem_cons.1 hw with rfl | hw
          · omega
          · have b1 := (List.pairwise_cons.1 hs).1 w hw
            have b2 := h.anti b w
            have b3 := h.trans a b w (by omega) (by omega)
            rcases Int.lt_or_le (c a w) 0 with q | q
            · exact q
            · have e : c a w = 0 := by omega
              have l := h.left (z := b) e
              omega
      · exact q
    have e1 := hab hy gs
    have e2 := hab hx fun z => (gs z).symm
    have a1 := h.anti a b
    have e0 : c a b = 0 := by omega
    rw [lexC, if_neg (by omega)]
    refine lexC_sorted h hx'.2 hy'.2 (by simpa using hl) fun z => ?_
    have := gs z
    rw [cnt_cons, cnt_cons] at this
    by_cases q : c z a = 0
    · rw [if_pos q, if_pos ((h.eq0 e0 z).1 q)] at this; omega
    · rw [if_neg q, if_neg fun q' => q ((h.eq0 e0 z).2 q')] at this; omega
end
section
variable {α : Type} [Inhabited α] {lt : α → α → Bool}
theorem sort_perm (h : Sort.SWO lt) (d : Array α) : (Sort.sort lt d).toList.Perm d.toList := by
  obtain ⟨⟨h1, h2, h3⟩, _⟩ := Sort.sort_sorts lt h d
  have e1 : (Sort.sort lt d).extract 0 d.size = Sort.sort lt d := by rw [← h1]; simp
  have e2 : d.extract 0 d.size = d := by simp
  rw [e1, e2] at h3
  exact h3
theorem sort_pair (h : Sort.SWO lt) (d : Array α) : (Sort.sort lt d).toList.Pairwise fun x y => lt y x = false := by
  obtain ⟨⟨h1, _, _⟩, hs⟩ := Sort.sort_sorts lt h d
  rw [List.pairwise_iff_getElem]
  intro i j hi hj hij
  have := hs i j (Nat.zero_le _) hij (by simp at hj; omega)
  rw [getElem!_pos _ j (by simpa using hj), getElem!_pos _ i (by simpa using hi)] at this
  simpa using this
end
end Go.Pl

set_option linter.unusedVariables false
set_option linter.unusedSimpArgs false
namespace Go.Pl
open Go Go.Ab
/-! #### pdqsort -/
theorem AllA.perm {α : Type} [Inhabited α] {W : α → Prop} {d d' : Array α} {a b : Nat} (h : AllA W d) (hb : b ≤ d.size) (hp : Sort.PermIn a b d d') : AllA W d' := by
  intro i hi
  rw [hp.1] at hi
  by_cases hc : a ≤ i ∧ i < b
  · exact Sort.permIn_all d d' a b W hb hp (fun k _ hk => h k (by omega)) i hc.1 hc.2
  · rw [hp.2.1 i (by omega)]; exact h i hi
theorem pdq_eq {α : Type} [Inhabited α] (lt : α → α → Bool) (d : Array α) (a b limit : Nat) (wb wp : Bool) : Sort.pdq lt d a b limit wb wp =
  if b - a ≤ 12 then Sort.insertionSort lt d a b else
  if limit = 0 then Sort.heapSort lt d a b else
  let d1 := if !wb then Sort.breakPatterns d a b else d
  let limit := if !wb then limit - 1 else limit
  let c := Sort.choosePivot lt d1 a b
  let d2 := if c.2 = .decreasing then Sort.reverseRange d1 a b else d1
  let pivot := if c.2 = .decreasing then (b - 1) - (c.1 - a) else c.1
  let hint := if c.2 = .decreasing then Sort.Hint.increasing else c.2
  let pi := if wb && wp && hint = .increasing then Sort.partialInsertionSort lt d2 a b else (d2, false)
  if pi.2 then pi.1 else
  let d3 := pi.1
  if a > 0 && !lt d3[a - 1]! d3[pivot]! then
    if (Sort.partitionEqual lt d3 a b pivot).1 > a ∧ (Sort.partitionEqual lt d3 a b pivot).1 ≤ b then Sort.pdq lt (Sort.partitionEqual lt d3 a b pivot).2 (Sort.partitionEqual lt d3 a b pivot).1 b limit wb wp else (Sort.partitionEqual lt d3 a b pivot).2
  else
      if a ≤ (Sort.partition lt d3 a b pivot).1 ∧ (Sort.partition lt d3 a b pivot).1 < b then
        if (Sort.partition lt d3 a b pivot).1 - a < b - (Sort.partition lt d3 a b pivot).1 then
          Sort.pdq lt (Sort.pdq lt (Sort.partition lt d3 a b pivot).2.2 a (Sort.partition lt d3 a b pivot).1 limit true true) ((Sort.partition lt d3 a b pivot).1 + 1) b limit (decide ((Sort.partition lt d3 a b pivot).1 - a ≥ (b - a) / 8)) (Sort.partition lt d3 a b pivot).2.1
        else
          Sort.pdq lt (Sort.pdq lt (Sort.partition lt d3 a b pivot).2.2 ((Sort.partition lt d3 a b pivot).1 + 1) b limit true true) a (Sort.partition lt d3 a b pivot).1 limit (decide (b - (Sort.partition lt d3 a b pivot).1 ≥ (b - a) / 8)) (Sort.partition lt d3 a b pivot).2.1
      else (Sort.partition lt d3 a b pivot).2.2 := by
  rw [Sort.pdq]
  rfl
section
variable {R : Type} {n : Nat} {a b : Nat} {d : Array Row}
theorem br_step (hn : 2000050 ≤ n) (hab : a ≤ b) (hb : b ≤ d.size) (hs : d.size < 1000000) (hW : AllA WRow d) {limit : Nat} (hl : 1 ≤ limit) (hl2 : limit < 1000000) (wb : Bool) {K : List Row → Int → Option R} :
    withK (fun k => bif (!wb) then (slices_breakPatternsCmpFunc_Value_row_Cmp_r n d.toList (a : Int) (b : Int)).bind fun x => k x (IntKind.wrap .i64 ((limit : Int) - 1)) else k d.toList (limit : Int)) K
      = K (if !wb then Sort.breakPatterns d a b else d).toList ((if !wb then limit - 1 else limit : Nat) : Int) := by
  cases wb with
  | true => rfl
  | false =>
    unfold withK
    show (slices_breakPatternsCmpFunc_Value_row_Cmp_r n d.toList (a : Int) (b : Int)).bind _ = _
    rw [(breakPatterns_ok (by omega) hab hb hs hW).1, Option.bind_some, wv (v := limit - 1) (by omega) (by omega)]
    rfl
theorem rev_step (hn : 2000050 ≤ n) (hab : a < b) (hb : b ≤ d.size) (hs : d.size < 1000000) (hW : AllA WRow d) {p : Nat} (h1 : a ≤ p) (h2 : p < b) (h : Sort.Hint) {K : List Row → Int → Int → Option R} :
    withK (fun k => bif (hintI h == 2) then (slices_reverseRangeCmpFunc_Value_row_Cmp_r n d.toList (a : Int) (b : Int)).bind fun x => k x (IntKind.wrap .i64 ((IntKind.wrap .i64 ((b : Int) - 1)) - (IntKind.wrap .i64 ((p : Int) - (a : Int))))) 1 else k d.toList (p : Int) (hintI h)) K
      = K (if h = .decreasing then Sort.reverseRange d a b else d).toList ((if h = .decreasing then (b - 1) - (p - a) else p : Nat) : Int) (hintI (if h = .decreasing then Sort.Hint.increasing else h)) := by
  cases h with
  | unknown => rfl
  | increasing => rfl
  | decreasing =>
    unfold withK
    show (slices_reverseRangeCmpFunc_Value_row_Cmp_r n d.toList (a : Int) (b : Int)).bind _ = _
    rw [(reverseRange_ok (by omega) hab hb hs hW).1, Option.bind_some, wv (x := (b : Int) - 1) (v := b - 1) (by omega) (by omega), wv (x := (p : Int) - (a : Int)) (v := p - a) (by omega) (by omega), wv (v := (b - 1) - (p - a)) (by omega) (by omega)]
    rfl
theorem hint_eq1 (h : Sort.Hint) : (hintI h == 1) = decide (h = .increasing) := by cases h <;> rfl
theorem pi_step (hn : 2000050 ≤ n) (hab : a < b) (hb : b ≤ d.size) (hs : d.size < 1000000) (hW : AllA WRow d) (wb wp : Bool) (h : Sort.Hint) {F : (List Row → Option (List Row)) → List Row × Bool → Option (List Row)} (hF : ∀ k l t, F k (l, t) = bif t then some l else k l) {K : List Row → Option (List Row)} :
    withK (fun k => bif ((wb && wp) && (hintI h == 1)) then (slices_partialInsertionSortCmpFunc_Value_row_Cmp_r n d.toList (a : Int) (b : Int)).bind (F k) else k d.toList) K
      = bif (if wb && wp && h = .increasing then Sort.partialInsertionSort rLt d a b else (d, false)).2 then some (if wb && wp && h = .increasing then Sort.partialInsertionSort rLt d a b else (d, false)).1.toList else K (if wb && wp && h = .increasing then Sort.partialInsertionSort rLt d a b else (d, false)).1.toList := by
  unfold withK
  show (bif ((wb && wp) && (hintI h == 1)) then (slices_partialInsertionSortCmpFunc_Value_row_Cmp_r n d.toList (a : Int) (b : Int)).bind (F K) else K d.toList) = _
  rw [hint_eq1]
  cases hc : (wb && wp && decide (h = .increasing)) with
  | true => rw [cond_true, if_pos rfl, (partialInsertionSort_ok (by omega) hab hb hs hW).1, Option.bind_some, hF]
  | false => rw [cond_false, if_neg (by simp)]; rfl
theorem test_step (hn : 2000050 ≤ n) (hs : d.size < 1000000) (hW : AllA WRow d) {p : Nat} (ha : a < d.size) (hp : p < d.size) {K : Bool → Option R} :
    withK (fun k => bif (decide ((a : Int) > 0)) then (idx d.toList (IntKind.wrap .i64 ((a : Int) - 1))).bind fun x92 => (idx d.toList (p : Int)).bind fun x94 => (row_Cmp n x92 x94).bind fun x96 => k (!(decide (x96 < 0))) else k false) K
      = K (decide (a > 0) && !rLt d[a - 1]! d[p]!) := by
  unfold withK
  by_cases h0 : a > 0
  · rw [dT h0, dT (by omega : (a : Int) > 0)]
    show (idx d.toList (IntKind.wrap .i64 ((a : Int) - 1))).bind _ = _
    rw [wv (v := a - 1) (by omega) (by omega), idx_arr d (by omega), Option.bind_some, idx_arr d hp, Option.bind_some, rowCmp_ok hW (by omega) hp (by omega), Option.bind_some, Bool.true_and]
    rfl
  · rw [dF h0, dF (by omega : ¬ (a : Int) > 0)]
    rfl
end
def RcOk (rc : Nat → List Row → Int → Int → Int → Option (List Row)) (n k : Nat) : Prop := ∀ (d : Array Row) (a b limit : Nat), b - a < k → a ≤ b → b ≤ d.size → d.size < 1000000 → AllA WRow d → Sort.Below rLt a b d → limit < 1000000 → rc n d.toList (a : Int) (b : Int) (limit : Int) = some (Sort.pdq rLt d a b limit true true).toList
theorem pdqL_ok (hlt : Sort.SWO rLt) {n : Nat} (hn : 2000050 ≤ n) {rc : Nat → List Row → Int → Int → Int → Option (List Row)} : ∀ (k : Nat), RcOk rc n k → ∀ (m : Nat) (d : Array Row) (a b limit : Nat) (wb wp : Bool), b - a ≤ k → k < m → a ≤ b → b ≤ d.size → d.size < 1000000 → AllA WRow d → Sort.Below rLt a b d → limit < 1000000 →
    slices_pdqsortCmpFunc_Value_row_Cmp_r_l2 n rc m d.toList (a : Int) wb wp (b : Int) (limit : Int) = some (Sort.pdq rLt d a b limit wb wp).toList := by
  intro k
  induction k using Nat.strongRecOn with
  | _ k ih =>
  intro hrc m d a b limit wb wp hk hm hab hb hs hW hB hl
  obtain ⟨m, rfl⟩ : ∃ j, m = j + 1 := ⟨m - 1, by omega⟩
  rw [slices_pdqsortCmpFunc_Value_row_Cmp_r_l2, pdq_eq, wv (x := (b : Int) - (a : Int)) (v := b - a) (by omega) (by omega)]
  by_cases h12 : b - a ≤ 12
  · rw [dT (by omega : ((b - a : Nat) : Int) ≤ 12), cond_true, if_pos h12, insertionSort_ok (by omega) hab hb hs hW, Option.bind_some]
  rw [dF (by omega : ¬ ((b - a : Nat) : Int) ≤ 12), cond_false, if_neg h12]
  by_cases h0 : limit = 0
  · rw [if_pos h0, show ((limit : Int) == 0) = true by simp [h0], cond_true, heapSort_ok (by omega) hab hb hs hW, Option.bind_some]
  rw [if_neg h0, show ((limit : Int) == 0) = false by simp [h0], cond_false]
  rw [br_step (by omega) hab hb hs hW (by omega) hl]
  have s1 : Sort.PermIn a b d (if !wb then Sort.breakPatterns d a b else d) := Sort.step_break d hab hb _
  have l1 : (if !wb then limit - 1 else limit) < 1000000 := by split <;> omega
  have e1 := s1.1
  have W1 := hW.perm hb s1
  have B1 := hB.perm hb s1
  simp only []
  generalize (if !wb then Sort.breakPatterns d a b else d) = d1 at *
  generalize (if !wb then limit - 1 else limit) = lm at *
  rw [choosePivot_ok (by omega) W1 (by omega) (by omega) (by omega), Option.bind_some]
  have c0 := Sort.choosePivot_holds rLt d1 a b (by omega)
  generalize Sort.choosePivot rLt d1 a b = c at *
  rw [rev_step (by omega) (by omega) (by omega) (by omega) W1 c0.1 c0.2]
  have s2 : Sort.PermIn a b d1 (if c.2 = .decreasing then Sort.reverseRange d1 a b else d1) := Sort.step_reverse Sort.reverseRange_holds d1 hab (by omega) _
  have p2 : a ≤ (if c.2 = .decreasing then (b - 1) - (c.1 - a) else c.1) ∧ (if c.2 = .decreasing then (b - 1) - (c.1 - a) else c.1) < b := Sort.pivot_range c0.1 c0.2 _
  have e2 := s2.1
  have W2 := W1.perm (by omega) s2
  have B2 := B1.perm (by omega) s2
  generalize (if c.2 = .decreasing then Sort.reverseRange d1 a b else d1) = d2 at *
  generalize (if c.2 = .decreasing then (b - 1) - (c.1 - a) else c.1) = p at *
  generalize (if c.2 = .decreasing then Sort.Hint.increasing else c.2) = h at *
  rw [pi_step (by omega) (by omega) (by omega) (by omega) W2 wb wp h (fun _ _ _ => rfl)]
  have s3 := (Sort.step_partial Sort.partialInsertionSort_holds hlt d2 (a := a) (b := b) (by omega) (by omega) B2 ((wb && wp && decide (h = Sort.Hint.increasing)) = true)).1
  have s3 : Sort.PermIn a b d2 (if wb && wp && h = .increasing then Sort.partialInsertionSort rLt d2 a b else (d2, false)).1 := s3
  have e3 := s3.1
  have W3 := W2.perm (by omega) s3
  have B3 := B2.perm (by omega) s3
  generalize (if wb && wp && h = .increasing then Sort.partialInsertionSort rLt d2 a b else (d2, false)) = pi at *
  obtain ⟨d3, t⟩ := pi
  cases t with
  | true => rfl
  | false =>
  simp only [cond_false] at *
  rw [if_neg (by simp)]
  rw [test_step (by omega) (by omega) W3 (by omega) (by omega)]
  cases ht : (decide (a > 0) && !rLt d3[a - 1]! d3[p]!) with
  | true =>
    rw [cond_true, if_pos rfl, (partitionEqual_ok (by omega) (by omega) (by omega) (by omega) (by omega) W3).1, Option.bind_some]
    simp only [Bool.and_eq_true, decide_eq_true_eq, Bool.not_eq_true'] at ht
    obtain ⟨g1, g2, g3, g4, g5⟩ := Sort.round_eq hlt (Sort.partitionEqual_holds rLt) (mid := (Sort.partitionEqual rLt d3 a b p).1) (d4 := (Sort.partitionEqual rLt d3 a b p).2) ht.1 p2.1 p2.2 (by omega) B3 ht.2 rfl
    rw [if_pos ⟨g1, g2⟩]
    exact ih (b - (Sort.partitionEqual rLt d3 a b p).1) (by omega) (fun d a b l hd => hrc d a b l (by omega)) m (Sort.partitionEqual rLt d3 a b p).2 _ _ _ _ _ (Nat.le_refl _) (by omega) g2 (by omega) (by omega) (partitionEqual_ok (n := n) (by omega) (by omega) (by omega) (by omega) (by omega) W3).2.1 g4 l1
  | false =>
    rw [cond_false, if_neg (by simp), (partition_ok (by omega) (by omega) (by omega) (by omega) (by omega) W3).1, Option.bind_some]
    obtain ⟨g1, g2, g3, g4, g5, g6, g7⟩ := Sort.round_part hlt (Sort.partition_holds rLt) (mid := (Sort.partition rLt d3 a b p).1) (ap := (Sort.partition rLt d3 a b p).2.1) (d4 := (Sort.partition rLt d3 a b p).2.2) p2.1 p2.2 (by omega) B3 rfl
    have W4 := (partition_ok (n := n) (by omega) (by omega) (by omega) (by omega) (by omega) W3 (p := p) (a := a) (b := b)).2.1
    rw [if_pos ⟨g1, g2⟩]
    generalize Sort.partition rLt d3 a b p = q at *
    obtain ⟨mid, ap, d4⟩ := q
    simp only [] at *
    show (bif decide (IntKind.wrap .i64 ((mid : Int) - (a : Int)) < IntKind.wrap .i64 ((b : Int) - (mid : Int))) then _ else _) = _
    have x1 : IntKind.wrap .i64 ((mid : Int) - (a : Int)) = ((mid - a : Nat) : Int) := wv (by omega) (by omega)
    have x2 : IntKind.wrap .i64 ((b : Int) - (mid : Int)) = ((b - mid : Nat) : Int) := wv (by omega) (by omega)
    have x3 : IntKind.wrap .i64 ((mid : Int) + 1) = ((mid + 1 : Nat) : Int) := wv (by omega) (by omega)
    have x4 : IntKind.wrap .i64 (Int.tdiv ((b - a : Nat) : Int) 8) = (((b - a) / 8 : Nat) : Int) := by
      rw [show Int.tdiv ((b - a : Nat) : Int) 8 = (((b - a) / 8 : Nat) : Int) from rfl]; exact wv rfl (by omega)
    have x5 : IntKind.wrap .i64 ((b : Int) - (a : Int)) = ((b - a : Nat) : Int) := wv (by omega) (by omega)
    by_cases hlt2 : mid - a < b - mid
    · rw [if_pos hlt2, x1, x2, dT (by omega : ((mid - a : Nat) : Int) < ((b - mid : Nat) : Int)), cond_true, hrc d4 a mid lm (by omega) g1 (by omega) (by omega) W4 g4 l1, Option.bind_some]
      have hp := Sort.pdq_sorts rLt hlt d4 a mid lm true true g1 (by omega) g4
      have hz := hp.1.1
      have := ih (b - (mid + 1)) (by omega) (fun d a b l hd => hrc d a b l (by omega)) m (Sort.pdq rLt d4 a mid lm true true) (mid + 1) b lm (decide (mid - a ≥ (b - a) / 8)) ap (Nat.le_refl _) (by omega) (by omega) (by omega) (by omega) (W4.perm (by omega) hp.1) (g6 _ hp.1 hp.2).1 l1
      rw [← this, x3]
      have y : decide (((mid - a : Nat) : Int) ≥ (((b - a) / 8 : Nat) : Int)) = decide (mid - a ≥ (b - a) / 8) := by
        rw [decide_eq_decide]; omega
      simp only [x1, x5, x4, y]
    · rw [if_neg hlt2, x1, x2, dF (by omega : ¬ ((mid - a : Nat) : Int) < ((b - mid : Nat) : Int)), cond_false, x3, hrc d4 (mid + 1) b lm (by omega) (by omega) (by omega) (by omega) W4 g5 l1, Option.bind_some]
      have hp := Sort.pdq_sorts rLt hlt d4 (mid + 1) b lm true true (by omega) (by omega) g5
      have hz := hp.1.1
      have := ih (mid - a) (by omega) (fun d a b l hd => hrc d a b l (by omega)) m (Sort.pdq rLt d4 (mid + 1) b lm true true) a mid lm (decide (b - mid ≥ (b - a) / 8)) ap (Nat.le_refl _) (by omega) (by omega) (by omega) (by omega) (W4.perm (by omega) hp.1) (g7 _ hp.1 hp.2).1 l1
      rw [← this]
      have y : decide (((b - mid : Nat) : Int) ≥ (((b - a) / 8 : Nat) : Int)) = decide (b - mid ≥ (b - a) / 8) := by
        rw [decide_eq_decide]; omega
      simp only [x2, x5, x4, y]
theorem pdqT_ok (hlt : Sort.SWO rLt) : ∀ (k m n : Nat), k ≤ m → 2000060 + k ≤ n → RcOk (slices_pdqsortCmpFunc_Value_row_Cmp_r_t m) n k
  | 0, m, n, _, _ => fun d a b limit h => absurd h (by omega)
  | k + 1, m, n, hm, hn => by
    intro d a b limit h hab hb hs hW hB hl
    obtain ⟨m, rfl⟩ : ∃ j, m = j + 1 := ⟨m - 1, by omega⟩
    obtain ⟨n, rfl⟩ : ∃ j, n = j + 1 := ⟨n - 1, by omega⟩
    show slices_pdqsortCmpFunc_Value_row_Cmp_r_f (slices_pdqsortCmpFunc_Value_row_Cmp_r_t m) (n + 1) _ _ _ _ = _
    unfold slices_pdqsortCmpFunc_Value_row_Cmp_r_f
    rw [at1_succ]
    have r := pdqT_ok hlt k m n (by omega) (by omega)
    exact pdqL_ok hlt (by omega) (b - a) (fun d a' b' l hd => r d a' b' l (by omega)) n d a b limit true true (Nat.le_refl _) (by omega) hab hb hs hW hB hl
theorem sortFunc_ok (hlt : Sort.SWO rLt) {n : Nat} (hn : 3000100 ≤ n) {d : Array Row} (hs : d.size < 900000) (hW : AllA WRow d) : slices_SortFunc_Value_row_Cmp_r n d.toList = some (Sort.sort rLt d).toList := by
  obtain ⟨n, rfl⟩ : ∃ k, n = k + 1 := ⟨n - 1, by omega⟩
  unfold slices_SortFunc_Value_row_Cmp_r
  rw [at1_succ, Array.length_toList, wrapU (by omega) (by omega), len_ok (by omega) (by omega), Option.bind_some]
  have hb := bitsLen_lt (x := d.size) (by omega)
  unfold slices_pdqsortCmpFunc_Value_row_Cmp_r
  have := pdqT_ok hlt (d.size + 1) n n (by omega) (by omega) d 0 d.size (Sort.bitsLen d.size) (by omega) (by omega) (by omega) (by omega) hW (.inl rfl) (by omega)
  exact congrArg (fun o => Option.bind o fun x => some x) this
end Go.Pl

set_option linter.unusedVariables false
set_option linter.unusedSimpArgs false
namespace Go.Pl
open Go Go.Ab
/-! ### The program's bags -/
abbrev wc (x y : Row) : Int := rCmp (sll x) (sll y)
theorem wc_ord : Ord3 wc := ord_map rCmp_ord sll
theorem rLt_ok : Sort.SWO rLt := rLt_swo fun _ _ => rfl
abbrev WRows : Option (List Row) → Prop := wSl WRow
theorem ckA_ok {b n : Nat} (h : n ≤ 2000000) (hb : b ≤ 1000) : ckA b n = some () := by
  unfold ckA
  rw [if_pos]
  have := Nat.mul_le_mul h hb
  omega
theorem rowsClone_ok {a : Option (List Row)} (ha : WRows a) {n : Nat} (h : 1 ≤ n) : slices_Clone_Value n a = some a := by
  obtain ⟨n, rfl⟩ : ∃ k, n = k + 1 := ⟨n - 1, by omega⟩
  have h1 := ha.1
  cases a with
  | none => rfl
  | some l =>
    unfold slices_Clone_Value
    cases l with
    | nil => rfl
    | cons x l =>
      show (ckA 24 (x :: l).length).bind (fun _ => some (some (x :: l))) = _
      rw [ckA_ok (by simp only [sll] at h1; omega) (by omega)]
      rfl
def rk (a : Option (List Row)) : Option (List Row) := a.map fun l => (Sort.sort rLt l.toArray).toList
theorem rk_perm (a : Option (List Row)) : (sll (rk a)).Perm (sll a) := by
  cases a with
  | none => exact List.Perm.refl _
  | some l => exact sort_perm rLt_ok l.toArray
theorem rk_srt (a : Option (List Row)) : Srt wc (sll (rk a)) := by
  cases a with
  | none => exact List.Pairwise.nil
  | some l =>
    refine (sort_pair rLt_ok l.toArray).imp fun {x y} h => ?_
    have : decide (wc y x < 0) = false := h
    simpa using this
theorem rk_W {a : Option (List Row)} (ha : WRows a) : WRows (rk a) := by
  have := rk_perm a
  exact ⟨by rw [this.length_eq]; exact ha.1, fun x hx => ha.2 x (this.mem_iff.1 hx)⟩
theorem sortNil_ok {n : Nat} (h : 3000100 ≤ n) : slices_SortFunc_Value_row_Cmp_nil n = some () := by
  obtain ⟨n, rfl⟩ : ∃ k, n = k + 5 := ⟨n - 5, by omega⟩
  rfl
theorem ranked_ok {a : Option (List Row)} (ha : WRows a) (hl : (sll a).length < 900000) {n : Nat} (h : 3000200 ≤ n) : row_ranked n a = some (rk a) := by
  obtain ⟨n, rfl⟩ : ∃ k, n = k + 1 := ⟨n - 1, by omega⟩
  unfold row_ranked
  rw [at1_succ, rowsClone_ok ha (by omega), Option.bind_some]
  cases a with
  | none =>
    show (slices_SortFunc_Value_row_Cmp_nil n).bind (fun _ => some none) = _
    rw [sortNil_ok (by omega)]; rfl
  | some l =>
    show (slices_SortFunc_Value_row_Cmp_r n l).bind (fun x8 => some (some x8)) = _
    have := sortFunc_ok rLt_ok (n := n) (by omega) (d := l.toArray) (by simpa [sll] using hl) (fun i hi => by
      rw [getElem!_pos _ i hi]
      exact ha.2 _ (by simp [sll]))
    rw [show slices_SortFunc_Value_row_Cmp_r n l = _ from this]
    rfl
theorem rowsCmp_ok {a b : Option (List Row)} (ha : WRows a) (hb : WRows b) {n : Nat} (h : 2000020 ≤ n) : row_lists_Value_row_Cmp n a b = some (lexC wc (sll a) (sll b)) := by
  obtain ⟨n, rfl⟩ : ∃ k, n = k + 1 := ⟨n - 1, by omega⟩
  unfold row_lists_Value_row_Cmp
  simp only [at1_succ, withK]
  rw [cmp_int_ok _ _ (by omega), Option.bind_some]
  have hl := ha.1
  have := loop_two (F := fun m i => row_lists_Value_row_Cmp_l2 n a b (fun _ => some (iC (sll a).length (sll b).length)) m i) (la := sll a) (lb := sll b) (cm := fun x y => row_Cmp n x y) (c := wc) (k := fun _ => some (iC (sll a).length (sll b).length)) ha.1
    (fun x y hx hy => row_Cmp_ok (ha.2 x hx) (hb.2 y hy) (by omega)) rfl (fun m i => rfl) n 0 (by omega) (by omega) (by omega)
  rw [List.drop_zero, List.drop_zero] at this
  exact this
/-- Is each as often in the one as in the other, at most? -/
def Inn (a b : List Row) : Prop := ∀ z, cnt wc z a ≤ cnt wc z b
theorem bag_ok {a b : Option (List Row)} (ha : WRows a) (hb : WRows b) (hla : (sll a).length < 900000) (hlb : (sll b).length < 900000) {n : Nat} (h : 3000300 ≤ n) :
    ∃ t, row_Bag n a b = some t ∧ (t = true ↔ (sll a).length = (sll b).length ∧ Inn (sll a) (sll b)) := by
  obtain ⟨n, rfl⟩ : ∃ k, n = k + 1 := ⟨n - 1, by omega⟩
  unfold row_Bag
  rw [at1_succ]
  by_cases hl : (sll a).length = (sll b).length
  · rw [show (((sll a).length : Int) == ((sll b).length : Int)) = true by simp [hl], cond_true, ranked_ok ha hla (by omega), Option.bind_some, ranked_ok hb hlb (by omega), Option.bind_some, rowsCmp_ok (rk_W ha) (rk_W hb) (by omega), Option.bind_some]
    refine ⟨_, rfl, ?_⟩
    rw [beq_iff_eq]
    have pa := rk_perm a
    have pb := rk_perm b
    constructor
    · intro e
      refine ⟨hl, fun z => ?_⟩
      rw [← cnt_perm pa z, ← cnt_perm pb z, lexC_zero_cnt wc_ord e z]
      exact Nat.le_refl _
    · rintro ⟨_, g⟩
      refine lexC_sorted wc_ord (rk_srt a) (rk_srt b) (by rw [pa.length_eq, pb.length_eq, hl]) fun z => ?_
      rw [cnt_perm pa z, cnt_perm pb z]; exact g z
  · rw [show (((sll a).length : Int) == ((sll b).length : Int)) = false by simp; omega, cond_false]
    exact ⟨_, rfl, by simp [hl]⟩
end Go.Pl

set_option linter.unusedVariables false
set_option linter.unusedSimpArgs false
namespace Go.Pl
open Go Go.Ab
/-! ### The document's bags -/
/-- The first that is alike, and is there, is taken. -/
def tk (x : Row) : List Row → List Bool → List Bool × Bool
  | y :: ys, t :: ts => bif !t && (wc x y == 0) then (true :: ts, true) else (t :: (tk x ys ts).1, (tk x ys ts).2)
  | _, ts => (ts, false)
/-! ### Copies, and whether two are alike -/
end Go.Pl

set_option linter.unusedVariables false
set_option linter.unusedSimpArgs false
namespace Go.Pl
open Go Go.Ab
theorem great_len {a : Option (List Row)} (ha : WRows a) {n : Nat} (h : 2000010 ≤ n) (hg : law05_great n a = some false) : (sll a).length ≤ 600 := by
  rcases Nat.lt_or_ge 600 (sll a).length with hl | hl
  · exfalso
    obtain ⟨n, rfl⟩ : ∃ k, n = k + 2 := ⟨n - 2, by omega⟩
    unfold law05_great ref05_Bulk at hg
    rw [at1_succ, at1_succ, dT (by omega : (((sll a).length : Int) > 600)), cond_true, Option.bind_some] at hg
    exact absurd hg (by decide)
  · exact hl
theorem works_ok : law05_works 3999999 = some true := rfl
end Go.Pl

