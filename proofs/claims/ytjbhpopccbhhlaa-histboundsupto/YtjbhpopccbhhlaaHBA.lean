import Derived.Test.YtjbhpopccbhhlaaHKA
import Derived.Sort.AssemblyPlain
set_option linter.unusedVariables false
set_option linter.unusedSimpArgs false
namespace Go.Pl
open Go Go.Ab

/-! ### Sorting: the plain text's lists are the kit's arrays -/
section
variable {α : Type} [Inhabited α]
theorem idx_arr (d : Array α) {i : Nat} (h : i < d.size) : idx d.toList (i : Int) = some d[i]! := by
  rw [idx_nat, Array.getElem?_toList, Array.getElem?_eq_getElem h, getElem!_pos d i h]
theorem swp_list (d : Array α) (i j : Nat) : (d.toList.set i d[j]!).set j d[i]! = (Sort.swp d i j).toList := by
  simp [Sort.swp, Array.toList_setIfInBounds]
theorem swp_size (d : Array α) (i j : Nat) : (Sort.swp d i j).size = d.size := by simp [Sort.swp]
/-- All that stands in an array. -/
def AllA (W : α → Prop) (d : Array α) : Prop := ∀ i, i < d.size → W d[i]!
theorem AllA.swp {W : α → Prop} {d : Array α} (h : AllA W d) {i j : Nat} (hi : i < d.size) (hj : j < d.size) : AllA W (Sort.swp d i j) := by
  intro k hk
  rw [swp_size] at hk
  unfold Sort.swp
  rw [getElem!_pos _ k (by simpa using hk)]
  rw [Array.getElem_setIfInBounds (by simpa using hk)]
  split
  · exact h i hi
  · rw [Array.getElem_setIfInBounds (by simpa using hk)]
    split
    · exact h j hj
    · have := h k hk
      rwa [getElem!_pos d k hk] at this
end
theorem wrapPred {i : Nat} (h : i < 1000000000000) : IntKind.wrap .i64 (((i + 1 : Nat) : Int) - 1) = (i : Int) := by
  rw [wrapI (by omega) (by omega)]; omega

abbrev Row := api_Value
instance : Inhabited api_Value := ⟨zeroV⟩
abbrev WRow : Row → Prop := W_api_Value
/-- Is a row less? -/
def rLt (x y : Row) : Bool := decide (vCmp x y < 0)
theorem rowCmp_ok {d : Array Row} (h : AllA WRow d) {i j : Nat} (hi : i < d.size) (hj : j < d.size) {n : Nat} (hn : 2000010 ≤ n) : value_Cmp n d[i]! d[j]! = some (vCmp d[i]! d[j]!) := value_Cmp_ok (h i hi) (h j hj) (by omega)

/-! #### insertionSort -/
theorem insInner_ok {n : Nat} (hn : 2000010 ≤ n) (a : Nat) {K : List Row → Option (List Row)} : ∀ (j m : Nat) (d : Array Row), j < m → j < d.size → d.size < 1000000000 → AllA WRow d →
    slices_insertionSortCmpFunc_Value_value_Cmp_r_l4 n (a : Int) K m d.toList (j : Int) = K (Sort.insInner rLt a j d).toList
  | 0, m, d, hm, hj, hs, hW => by
    obtain ⟨m, rfl⟩ : ∃ k, m = k + 1 := ⟨m - 1, by omega⟩
    rw [slices_insertionSortCmpFunc_Value_value_Cmp_r_l4, dF (by omega : ¬ (((0 : Nat) : Int) > (a : Int))), cond_false]
    rfl
  | j + 1, m, d, hm, hj, hs, hW => by
    obtain ⟨m, rfl⟩ : ∃ k, m = k + 1 := ⟨m - 1, by omega⟩
    rw [slices_insertionSortCmpFunc_Value_value_Cmp_r_l4, Sort.insInner]
    by_cases ha : j + 1 > a
    · rw [dT (by omega : (((j + 1 : Nat) : Int) > (a : Int))), cond_true, wrapPred (by omega), idx_arr d hj, idx_arr d (by omega : j < d.size), Option.bind_some, Option.bind_some, rowCmp_ok hW hj (by omega) hn, Option.bind_some]
      cases hl : rLt d[j + 1]! d[j]! with
      | false =>
        unfold rLt at hl
        rw [hl, cond_false]
        simp
      | true =>
        have hl' := hl
        unfold rLt at hl
        rw [hl, cond_true, Int.toNat_natCast, Int.toNat_natCast, idx_nat, List.getElem?_eq_getElem (by simp; omega), Option.bind_some, swp_list]
        rw [insInner_ok hn a j m (Sort.swp d (j + 1) j) (by omega) (by rw [swp_size]; omega) (by rw [swp_size]; exact hs) (hW.swp hj (by omega))]
        simp [ha]
    · rw [dF (by omega : ¬ (((j + 1 : Nat) : Int) > (a : Int))), cond_false]
      simp [ha]
theorem insInner_keep (a : Nat) : ∀ (j : Nat) (d : Array Row), j < d.size → AllA WRow d → AllA WRow (Sort.insInner rLt a j d) ∧ (Sort.insInner rLt a j d).size = d.size
  | 0, d, _, h => ⟨h, rfl⟩
  | j + 1, d, hj, h => by
    rw [Sort.insInner]
    split
    · have := insInner_keep a j (Sort.swp d (j + 1) j) (by rw [swp_size]; omega) (h.swp hj (by omega))
      rw [swp_size] at this
      exact this
    · exact ⟨h, rfl⟩
theorem insOuter_ok {n : Nat} (hn : 2000010 ≤ n) (a b : Nat) : ∀ (k m i : Nat) (d : Array Row), b - i ≤ k → k < m → b ≤ d.size → d.size < 1000000 → AllA WRow d →
    slices_insertionSortCmpFunc_Value_value_Cmp_r_l1 n (a : Int) (b : Int) m d.toList (i : Int) = some (Sort.insOuter rLt a b i d).toList ∧ AllA WRow (Sort.insOuter rLt a b i d) ∧ (Sort.insOuter rLt a b i d).size = d.size := by
  intro k
  induction k with
  | zero =>
    intro m i d hk hm hb hs hW
    obtain ⟨m, rfl⟩ : ∃ k, m = k + 1 := ⟨m - 1, by omega⟩
    rw [slices_insertionSortCmpFunc_Value_value_Cmp_r_l1, dF (by omega : ¬ ((i : Int) < (b : Int))), cond_false, Sort.insOuter, if_neg (by omega)]
    exact ⟨rfl, hW, rfl⟩
  | succ k ih =>
    intro m i d hk hm hb hs hW
    obtain ⟨m, rfl⟩ : ∃ k, m = k + 1 := ⟨m - 1, by omega⟩
    rw [slices_insertionSortCmpFunc_Value_value_Cmp_r_l1, Sort.insOuter]
    by_cases hi : i < b
    · rw [dT (by omega : ((i : Int) < (b : Int))), cond_true, if_pos hi]
      simp only [withK]
      have hkeep := insInner_keep a i d (by omega) hW
      rw [insInner_ok hn a i n d (by omega) (by omega) (by omega) hW, wrapN (by omega)]
      have := ih m (i + 1) (Sort.insInner rLt a i d) (by omega) (by omega) (by rw [hkeep.2]; exact hb) (by rw [hkeep.2]; exact hs) hkeep.1
      rw [hkeep.2] at this
      exact this
    · rw [dF (by omega : ¬ ((i : Int) < (b : Int))), cond_false, if_neg hi]
      exact ⟨rfl, hW, rfl⟩
theorem insertionSort_ok {n : Nat} (hn : 2000020 ≤ n) {a b : Nat} {d : Array Row} (hab : a ≤ b) (hb : b ≤ d.size) (hs : d.size < 1000000) (hW : AllA WRow d) : slices_insertionSortCmpFunc_Value_value_Cmp_r n d.toList (a : Int) (b : Int) = some (Sort.insertionSort rLt d a b).toList := by
  obtain ⟨n, rfl⟩ : ∃ k, n = k + 1 := ⟨n - 1, by omega⟩
  unfold slices_insertionSortCmpFunc_Value_value_Cmp_r Sort.insertionSort
  rw [at1_succ, wrapN (by omega)]
  exact (insOuter_ok (by omega) a b b n (a + 1) d (by omega) (by omega) hb hs hW).1
end Go.Pl

set_option linter.unusedVariables false
set_option linter.unusedSimpArgs false
namespace Go.Pl
open Go Go.Ab
theorem idx_some_ok {α : Type} {l : List α} {i : Nat} (h : i < l.length) : idx l (i : Int) = some l[i] := by rw [idx_nat, List.getElem?_eq_getElem h]
/-- A swap, as the text has it. -/
theorem swap_bind {R : Type} {d : Array Row} {i j : Nat} (hi : i < d.size) (hj : j < d.size) {K : List Row → Option R} :
    ((idx (d.toList.set (Int.toNat (i : Int)) d[j]!) (j : Int)).bind fun _ => K ((d.toList.set (Int.toNat (i : Int)) d[j]!).set (Int.toNat (j : Int)) d[i]!)) = K (Sort.swp d i j).toList := by
  rw [Int.toNat_natCast, Int.toNat_natCast, idx_some_ok (by simpa using hj), Option.bind_some, swp_list]

/-! #### heapSort -/
/-- A round's end: the greater child is known. -/
theorem sift_end {n : Nat} (hn : 2000010 ≤ n) {hi first root c m : Nat} {d : Array Row} (hc : c < hi) (hrc : root < hi) (hb : first + hi ≤ d.size) (hs : d.size < 1000000) (hW : AllA WRow d) {x : Int} {o : Option Row} (hx : x = ((first + c : Nat) : Int)) (ho : o = some d[first + c]!) :
    ((idx d.toList (IntKind.wrap .i64 ((first : Int) + (root : Int)))).bind fun x16 => o.bind fun x18 => (value_Cmp n x16 x18).bind fun x20 => bif (!(decide (x20 < 0))) then some d.toList else (idx (d.toList.set (Int.toNat (IntKind.wrap .i64 ((first : Int) + (root : Int)))) x18) x).bind fun x23 => slices_siftDownCmpFunc_Value_value_Cmp_r_l1 n (hi : Int) (first : Int) m ((d.toList.set (Int.toNat (IntKind.wrap .i64 ((first : Int) + (root : Int)))) x18).set (Int.toNat x) x16) (c : Int)) =
      bif !rLt d[first + root]! d[first + c]! then some d.toList else slices_siftDownCmpFunc_Value_value_Cmp_r_l1 n (hi : Int) (first : Int) m (Sort.swp d (first + root) (first + c)).toList (c : Int) := by
  subst hx ho
  have e1 : IntKind.wrap .i64 ((first : Int) + (root : Int)) = ((first + root : Nat) : Int) := wv (by omega) (by omega)
  rw [e1, idx_arr d (by omega), Option.bind_some, Option.bind_some, rowCmp_ok hW (by omega) (by omega) hn, Option.bind_some]
  rw [swap_bind (by omega) (by omega) (K := fun l => slices_siftDownCmpFunc_Value_value_Cmp_r_l1 n (hi : Int) (first : Int) m l (c : Int))]
  rfl
theorem siftDown_ok {n : Nat} (hn : 2000010 ≤ n) (hi first : Nat) : ∀ (k m root : Nat) (d : Array Row), hi - root ≤ k → k < m → first + hi ≤ d.size → root ≤ hi → d.size < 1000000 → AllA WRow d →
    slices_siftDownCmpFunc_Value_value_Cmp_r_l1 n (hi : Int) (first : Int) m d.toList (root : Int) = some (Sort.siftDown rLt hi first root d).toList ∧ AllA WRow (Sort.siftDown rLt hi first root d) ∧ (Sort.siftDown rLt hi first root d).size = d.size := by
  intro k
  induction k with
  | zero =>
    intro m root d hk hm hb hr hs hW
    obtain ⟨m, rfl⟩ : ∃ k, m = k + 1 := ⟨m - 1, by omega⟩
    have e1 : IntKind.wrap .i64 (2 * (root : Int)) = ((2 * root : Nat) : Int) := wv (by omega) (by omega)
    have e2 : IntKind.wrap .i64 (((2 * root : Nat) : Int) + 1) = ((2 * root + 1 : Nat) : Int) := wv (by omega) (by omega)
    rw [slices_siftDownCmpFunc_Value_value_Cmp_r_l1, Sort.siftDown, dif_pos (by omega), e1, e2, dT (by omega : ((2 * root + 1 : Nat) : Int) ≥ (hi : Int)), cond_true]
    exact ⟨rfl, hW, rfl⟩
  | succ k ih =>
    intro m root d hk hm hb hr hs hW
    obtain ⟨m, rfl⟩ : ∃ k, m = k + 1 := ⟨m - 1, by omega⟩
    have e1 : IntKind.wrap .i64 (2 * (root : Int)) = ((2 * root : Nat) : Int) := wv (by omega) (by omega)
    have e2 : IntKind.wrap .i64 (((2 * root : Nat) : Int) + 1) = ((2 * root + 1 : Nat) : Int) := wv (by omega) (by omega)
    have e3 : IntKind.wrap .i64 (((2 * root + 1 : Nat) : Int) + 1) = ((2 * root + 2 : Nat) : Int) := wv (by omega) (by omega)
    have e4 : IntKind.wrap .i64 ((first : Int) + ((2 * root + 1 : Nat) : Int)) = ((first + (2 * root + 1) : Nat) : Int) := wv (by omega) (by omega)
    have e5 : IntKind.wrap .i64 (((first + (2 * root + 1) : Nat) : Int) + 1) = ((first + (2 * root + 1) + 1 : Nat) : Int) := wv (by omega) (by omega)
    rw [slices_siftDownCmpFunc_Value_value_Cmp_r_l1, Sort.siftDown]
    simp only [withK, e1, e2, e3, e4, e5]
    by_cases hge : 2 * root + 1 ≥ hi
    · rw [dif_pos hge, dT (by omega : ((2 * root + 1 : Nat) : Int) ≥ (hi : Int)), cond_true]
      exact ⟨rfl, hW, rfl⟩
    · rw [dif_neg hge, dF (by omega : ¬ ((2 * root + 1 : Nat) : Int) ≥ (hi : Int)), cond_false]
      -- one child
      have one : ((bif !rLt d[first + root]! d[first + (2 * root + 1)]! then some d.toList else slices_siftDownCmpFunc_Value_value_Cmp_r_l1 n (hi : Int) (first : Int) m (Sort.swp d (first + root) (first + (2 * root + 1))).toList ((2 * root + 1 : Nat) : Int)) = some (if !rLt d[first + root]! d[first + (2 * root + 1)]! then d else Sort.siftDown rLt hi first (2 * root + 1) (Sort.swp d (first + root) (first + (2 * root + 1)))).toList) ∧ AllA WRow (if !rLt d[first + root]! d[first + (2 * root + 1)]! then d else Sort.siftDown rLt hi first (2 * root + 1) (Sort.swp d (first + root) (first + (2 * root + 1)))) ∧ (if !rLt d[first + root]! d[first + (2 * root + 1)]! then d else Sort.siftDown rLt hi first (2 * root + 1) (Sort.swp d (first + root) (first + (2 * root + 1)))).size = d.size := by
        have := ih m (2 * root + 1) (Sort.swp d (first + root) (first + (2 * root + 1))) (by omega) (by omega) (by rw [swp_size]; exact hb) (by omega) (by rw [swp_size]; exact hs) (hW.swp (by omega) (by omega))
        rw [swp_size] at this
        cases rLt d[first + root]! d[first + (2 * root + 1)]!
        · exact ⟨rfl, hW, rfl⟩
        · exact this
      by_cases h2 : 2 * root + 2 < hi
      · rw [dT (by omega : ((2 * root + 2 : Nat) : Int) < (hi : Int)), cond_true, idx_arr d (by omega), idx_arr d (by omega), Option.bind_some, Option.bind_some, rowCmp_ok hW (by omega) (by omega) hn, Option.bind_some]
        cases hl : rLt d[first + (2 * root + 1)]! d[first + (2 * root + 1) + 1]! with
        | true =>
          have hl' := hl
          unfold rLt at hl'
          rw [hl', cond_true, sift_end hn (c := 2 * root + 2) (by omega) (by omega) hb hs hW (wv (by omega) (by omega)) (by rw [wv (v := first + (2 * root + 2)) (by omega) (by omega), idx_arr d (by omega)])]
          have := ih m (2 * root + 2) (Sort.swp d (first + root) (first + (2 * root + 2))) (by omega) (by omega) (by rw [swp_size]; exact hb) (by omega) (by rw [swp_size]; exact hs) (hW.swp (by omega) (by omega))
          rw [swp_size] at this
          rw [if_pos (by simp; omega)]
          cases rLt d[first + root]! d[first + (2 * root + 2)]!
          · exact ⟨rfl, hW, rfl⟩
          · simp only [Bool.not_true, cond_false, h2, dif_pos]
            exact this
        | false =>
          have hl' := hl
          unfold rLt at hl'
          rw [hl', cond_false, sift_end hn (c := 2 * root + 1) (by omega) (by omega) hb hs hW rfl rfl, if_neg (by simp)]
          exact one
      · rw [dF (by omega : ¬ ((2 * root + 2 : Nat) : Int) < (hi : Int)), cond_false, sift_end hn (c := 2 * root + 1) (by omega) (by omega) hb hs hW rfl (idx_arr d (by omega)), if_neg (by simp; omega)]
        exact one
end Go.Pl

set_option linter.unusedVariables false
set_option linter.unusedSimpArgs false
namespace Go.Pl
open Go Go.Ab
theorem wneg {k : Nat} (h : k < 1000000000000) : IntKind.wrap .i64 ((k : Int) - 1) = (k : Int) - 1 := wrapI (by omega) (by omega)
theorem sift_call {n : Nat} (hn : 2000020 ≤ n) {hi first root : Nat} {d : Array Row} (hb : first + hi ≤ d.size) (hr : root ≤ hi) (hs : d.size < 1000000) (hW : AllA WRow d) :
    slices_siftDownCmpFunc_Value_value_Cmp_r n d.toList (root : Int) (hi : Int) (first : Int) = some (Sort.siftDown rLt hi first root d).toList ∧ AllA WRow (Sort.siftDown rLt hi first root d) ∧ (Sort.siftDown rLt hi first root d).size = d.size := by
  obtain ⟨n, rfl⟩ : ∃ k, n = k + 1 := ⟨n - 1, by omega⟩
  unfold slices_siftDownCmpFunc_Value_value_Cmp_r
  rw [at1_succ]
  exact siftDown_ok (by omega) hi first (hi - root) n root d (by omega) (by omega) hb hr hs hW
theorem heapPop_ok {n : Nat} (hn : 2000020 ≤ n) (first : Nat) : ∀ (k m : Nat) (d : Array Row), k < m → first + k ≤ d.size → d.size < 1000000 → AllA WRow d →
    slices_heapSortCmpFunc_Value_value_Cmp_r_l8 n (first : Int) m d.toList ((k : Int) - 1) = some (Sort.heapPop rLt first k d).toList
  | 0, m, d, hm, hb, hs, hW => by
    obtain ⟨m, rfl⟩ : ∃ k, m = k + 1 := ⟨m - 1, by omega⟩
    rw [slices_heapSortCmpFunc_Value_value_Cmp_r_l8, dF (by omega : ¬ (((0 : Nat) : Int) - 1 ≥ 0)), cond_false]
    rfl
  | k + 1, m, d, hm, hb, hs, hW => by
    obtain ⟨m, rfl⟩ : ∃ k, m = k + 1 := ⟨m - 1, by omega⟩
    have e0 : ((k + 1 : Nat) : Int) - 1 = (k : Int) := by omega
    have e1 : IntKind.wrap .i64 ((first : Int) + (k : Int)) = ((first + k : Nat) : Int) := wv (by omega) (by omega)
    rw [e0, slices_heapSortCmpFunc_Value_value_Cmp_r_l8, dT (by omega : (k : Int) ≥ 0), cond_true, e1, idx_arr d (by omega), idx_arr d (by omega), Option.bind_some, Option.bind_some]
    rw [swap_bind (by omega) (by omega) (K := fun l => (slices_siftDownCmpFunc_Value_value_Cmp_r n l 0 (k : Int) (first : Int)).bind fun x27 => slices_heapSortCmpFunc_Value_value_Cmp_r_l8 n (first : Int) m x27 (IntKind.wrap .i64 ((k : Int) - 1)))]
    obtain ⟨h1, h2, h3⟩ := sift_call hn (hi := k) (first := first) (root := 0) (d := Sort.swp d first (first + k)) (by rw [swp_size]; omega) (by omega) (by rw [swp_size]; exact hs) (hW.swp (by omega) (by omega))
    rw [swp_size] at h3
    rw [show (0 : Int) = ((0 : Nat) : Int) from rfl, h1, Option.bind_some, wneg (by omega), heapPop_ok hn first k m _ (by omega) (by rw [h3]; omega) (by rw [h3]; exact hs) h2]
    rfl
theorem heapBuild_ok {n : Nat} (hn : 2000020 ≤ n) {a b : Nat} (hab : a ≤ b) {K : List Row → Option (List Row)} : ∀ (k m : Nat) (d : Array Row), k < m → k ≤ b - a + 1 → b ≤ d.size → d.size < 1000000 → AllA WRow d →
    slices_heapSortCmpFunc_Value_value_Cmp_r_l4 n (a : Int) (b : Int) K m d.toList ((k : Int) - 1) = K (Sort.heapBuild rLt (b - a) a k d).toList ∧ AllA WRow (Sort.heapBuild rLt (b - a) a k d) ∧ (Sort.heapBuild rLt (b - a) a k d).size = d.size
  | 0, m, d, hm, hk, hb, hs, hW => by
    obtain ⟨m, rfl⟩ : ∃ k, m = k + 1 := ⟨m - 1, by omega⟩
    rw [slices_heapSortCmpFunc_Value_value_Cmp_r_l4, dF (by omega : ¬ (((0 : Nat) : Int) - 1 ≥ 0)), cond_false]
    exact ⟨rfl, hW, rfl⟩
  | k + 1, m, d, hm, hk, hb, hs, hW => by
    obtain ⟨m, rfl⟩ : ∃ k, m = k + 1 := ⟨m - 1, by omega⟩
    have e0 : ((k + 1 : Nat) : Int) - 1 = (k : Int) := by omega
    have e1 : IntKind.wrap .i64 ((b : Int) - (a : Int)) = ((b - a : Nat) : Int) := wv (by omega) (by omega)
    obtain ⟨h1, h2, h3⟩ := sift_call hn (hi := b - a) (first := a) (root := k) (d := d) (by omega) (by omega) hs hW
    rw [e0, slices_heapSortCmpFunc_Value_value_Cmp_r_l4, dT (by omega : (k : Int) ≥ 0), cond_true, e1, h1, Option.bind_some, wneg (by omega)]
    have := heapBuild_ok hn hab (K := K) k m (Sort.siftDown rLt (b - a) a k d) (by omega) (by omega) (by rw [h3]; exact hb) (by rw [h3]; exact hs) h2
    rw [h3] at this
    exact this
theorem heapSort_ok {n : Nat} (hn : 2000030 ≤ n) {a b : Nat} {d : Array Row} (hab : a ≤ b) (hb : b ≤ d.size) (hs : d.size < 1000000) (hW : AllA WRow d) : slices_heapSortCmpFunc_Value_value_Cmp_r n d.toList (a : Int) (b : Int) = some (Sort.heapSort rLt d a b).toList := by
  obtain ⟨n, rfl⟩ : ∃ k, n = k + 1 := ⟨n - 1, by omega⟩
  unfold slices_heapSortCmpFunc_Value_value_Cmp_r Sort.heapSort
  simp only [at1_succ, withK]
  have e1 : IntKind.wrap .i64 ((b : Int) - (a : Int)) = ((b - a : Nat) : Int) := wv (by omega) (by omega)
  have e2 : IntKind.wrap .i64 (Int.tdiv (IntKind.wrap .i64 (((b - a : Nat) : Int) - 1)) 2) = (((b - a - 1) / 2 + 1 : Nat) : Int) - 1 := by
    rw [wneg (by omega)]
    rcases Nat.eq_zero_or_pos (b - a) with h | h
    · rw [h]; decide
    · rw [show ((b - a : Nat) : Int) - 1 = ((b - a - 1 : Nat) : Int) by omega, show Int.tdiv ((b - a - 1 : Nat) : Int) 2 = (((b - a - 1) / 2 : Nat) : Int) from rfl, wrapI (by omega) (by omega)]
      omega
  rw [e1, e2, wneg (by omega)]
  obtain ⟨h1, h2, h3⟩ := heapBuild_ok (n := n) (by omega) hab (K := fun y1 => slices_heapSortCmpFunc_Value_value_Cmp_r_l8 n (a : Int) n y1 (((b - a : Nat) : Int) - 1)) ((b - a - 1) / 2 + 1) n d (by omega) (by omega) hb hs hW
  rw [h1]
  exact heapPop_ok (by omega) a (b - a) n _ (by omega) (by rw [h3]; omega) (by rw [h3]; exact hs) h2

/-! #### reverseRange -/
theorem reverse_loop {n : Nat} : ∀ (k m i j : Nat) (d : Array Row), j - i ≤ k → k < m → j < d.size → d.size < 1000000 → AllA WRow d →
    slices_reverseRangeCmpFunc_Value_value_Cmp_r_l2 n m d.toList (i : Int) (j : Int) = some (Sort.reverseLoop i j d).toList ∧ AllA WRow (Sort.reverseLoop i j d) ∧ (Sort.reverseLoop i j d).size = d.size := by
  intro k
  induction k with
  | zero =>
    intro m i j d hk hm hj hs hW
    obtain ⟨m, rfl⟩ : ∃ k, m = k + 1 := ⟨m - 1, by omega⟩
    rw [slices_reverseRangeCmpFunc_Value_value_Cmp_r_l2, dF (by omega : ¬ (i : Int) < (j : Int)), cond_false, Sort.reverseLoop, if_neg (by omega)]
    exact ⟨rfl, hW, rfl⟩
  | succ k ih =>
    intro m i j d hk hm hj hs hW
    obtain ⟨m, rfl⟩ : ∃ k, m = k + 1 := ⟨m - 1, by omega⟩
    rw [slices_reverseRangeCmpFunc_Value_value_Cmp_r_l2, Sort.reverseLoop]
    by_cases h : i < j
    · rw [dT (by omega : (i : Int) < (j : Int)), cond_true, if_pos h, idx_arr d hj, idx_arr d (by omega), Option.bind_some, Option.bind_some]
      rw [swap_bind (by omega) (by omega) (K := fun l => slices_reverseRangeCmpFunc_Value_value_Cmp_r_l2 n m l (IntKind.wrap .i64 ((i : Int) + 1)) (IntKind.wrap .i64 ((j : Int) - 1))), wrapN (by omega), wv (v := j - 1) (by omega) (by omega)]
      have := ih m (i + 1) (j - 1) (Sort.swp d i j) (by omega) (by omega) (by rw [swp_size]; omega) (by rw [swp_size]; exact hs) (hW.swp (by omega) (by omega))
      rw [swp_size] at this
      exact this
    · rw [dF (by omega : ¬ (i : Int) < (j : Int)), cond_false, if_neg h]
      exact ⟨rfl, hW, rfl⟩
theorem reverseRange_ok {n : Nat} (hn : 2000030 ≤ n) {a b : Nat} {d : Array Row} (hab : a < b) (hb : b ≤ d.size) (hs : d.size < 1000000) (hW : AllA WRow d) : slices_reverseRangeCmpFunc_Value_value_Cmp_r n d.toList (a : Int) (b : Int) = some (Sort.reverseRange d a b).toList ∧ AllA WRow (Sort.reverseRange d a b) ∧ (Sort.reverseRange d a b).size = d.size := by
  obtain ⟨n, rfl⟩ : ∃ k, n = k + 1 := ⟨n - 1, by omega⟩
  unfold slices_reverseRangeCmpFunc_Value_value_Cmp_r Sort.reverseRange
  rw [at1_succ, wv (v := b - 1) (by omega) (by omega)]
  exact reverse_loop (b - 1 - a) n a (b - 1) d (by omega) (by omega) (by omega) hs hW
end Go.Pl

set_option linter.unusedVariables false
set_option linter.unusedSimpArgs false
namespace Go.Pl
open Go Go.Ab
/-! #### choosePivot -/
theorem order2_ok {n : Nat} (hn : 2000020 ≤ n) {d : Array Row} (hW : AllA WRow d) {a b sw : Nat} (ha : a < d.size) (hb : b < d.size) (hs : sw < 1000) :
    slices_order2CmpFunc_Value_value_Cmp n (sw : Int) (some d.toList) (a : Int) (b : Int) = some (((Sort.order2 rLt d a b sw).2.2 : Int), ((Sort.order2 rLt d a b sw).1 : Int), ((Sort.order2 rLt d a b sw).2.1 : Int)) ∧
      (Sort.order2 rLt d a b sw).1 < d.size ∧ (Sort.order2 rLt d a b sw).2.1 < d.size ∧ (Sort.order2 rLt d a b sw).2.2 ≤ sw + 1 := by
  obtain ⟨n, rfl⟩ : ∃ k, n = k + 1 := ⟨n - 1, by omega⟩
  unfold slices_order2CmpFunc_Value_value_Cmp Sort.order2
  rw [at1_succ, show sll (some d.toList) = d.toList from rfl, idx_arr d hb, idx_arr d ha, Option.bind_some, Option.bind_some, rowCmp_ok hW hb ha (by omega), Option.bind_some]
  cases hl : rLt d[b]! d[a]! with
  | true =>
    have hl' := hl
    unfold rLt at hl'
    rw [hl', cond_true, if_pos rfl, wv (v := sw + 1) (by omega) (by omega)]
    exact ⟨rfl, hb, ha, Nat.le_refl _⟩
  | false =>
    have hl' := hl
    unfold rLt at hl'
    rw [hl', cond_false, if_neg (by simp)]
    exact ⟨rfl, ha, hb, by show sw ≤ sw + 1; omega⟩
theorem median_ok {n : Nat} (hn : 2000030 ≤ n) {d : Array Row} (hW : AllA WRow d) {a b c sw : Nat} (ha : a < d.size) (hb : b < d.size) (hc : c < d.size) (hs : sw < 900) :
    slices_medianCmpFunc_Value_value_Cmp n (sw : Int) (some d.toList) (a : Int) (b : Int) (c : Int) = some (((Sort.median rLt d a b c sw).2 : Int), ((Sort.median rLt d a b c sw).1 : Int)) ∧ (Sort.median rLt d a b c sw).1 < d.size ∧ (Sort.median rLt d a b c sw).2 ≤ sw + 3 := by
  obtain ⟨n, rfl⟩ : ∃ k, n = k + 1 := ⟨n - 1, by omega⟩
  unfold slices_medianCmpFunc_Value_value_Cmp Sort.median
  rw [at1_succ]
  obtain ⟨h1, h2, h3, h4⟩ := order2_ok (n := n) (by omega) hW ha hb (sw := sw) (by omega)
  rw [h1, Option.bind_some]
  obtain ⟨g1, g2, g3, g4⟩ := order2_ok (n := n) (by omega) hW h3 hc (sw := (Sort.order2 rLt d a b sw).2.2) (by omega)
  simp only
  rw [g1, Option.bind_some]
  obtain ⟨f1, f2, f3, f4⟩ := order2_ok (n := n) (by omega) hW h2 g2 (sw := (Sort.order2 rLt d (Sort.order2 rLt d a b sw).2.1 c (Sort.order2 rLt d a b sw).2.2).2.2) (by omega)
  simp only
  rw [f1, Option.bind_some]
  exact ⟨rfl, f3, by omega⟩
theorem medianAdjacent_ok {n : Nat} (hn : 2000040 ≤ n) {d : Array Row} (hW : AllA WRow d) {a sw : Nat} (h0 : 1 ≤ a) (ha : a + 1 < d.size) (hs : sw < 900) (hsz : d.size < 1000000) :
    slices_medianAdjacentCmpFunc_Value_value_Cmp n (sw : Int) (some d.toList) (a : Int) = some (((Sort.medianAdjacent rLt d a sw).2 : Int), ((Sort.medianAdjacent rLt d a sw).1 : Int)) ∧ (Sort.medianAdjacent rLt d a sw).1 < d.size ∧ (Sort.medianAdjacent rLt d a sw).2 ≤ sw + 3 := by
  obtain ⟨n, rfl⟩ : ∃ k, n = k + 1 := ⟨n - 1, by omega⟩
  unfold slices_medianAdjacentCmpFunc_Value_value_Cmp Sort.medianAdjacent
  rw [at1_succ, wv (v := a - 1) (by omega) (by omega), wv (v := a + 1) (by omega) (by omega)]
  obtain ⟨h1, h2, h3⟩ := median_ok (n := n) (by omega) hW (a := a - 1) (b := a) (c := a + 1) (by omega) (by omega) ha hs
  rw [h1, Option.bind_some]
  exact ⟨rfl, h2, h3⟩
def hintI : Sort.Hint → Int
  | .unknown => 0
  | .increasing => 1
  | .decreasing => 2
theorem hint_end {r s : Nat} : (bif ((s : Int) == 0) then some ((r : Int), (1 : Int)) else bif ((s : Int) == 12) then some ((r : Int), (2 : Int)) else some ((r : Int), (0 : Int))) = some ((r : Int), hintI (if s = 0 then .increasing else if s = 12 then .decreasing else .unknown)) := by
  by_cases h0 : s = 0
  · subst h0; rfl
  · by_cases h12 : s = 12
    · subst h12; rfl
    · have e0 : ((s : Int) == 0) = false := by simp; omega
      have e1 : ((s : Int) == 12) = false := by simp; omega
      rw [e0, e1, if_neg h0, if_neg h12]; rfl
theorem choosePivot_ok {n : Nat} (hn : 2000050 ≤ n) {d : Array Row} (hW : AllA WRow d) {a b : Nat} (hab : a < b) (hb : b ≤ d.size) (hs : d.size < 1000000) :
    slices_choosePivotCmpFunc_Value_value_Cmp n (some d.toList) (a : Int) (b : Int) = some (((Sort.choosePivot rLt d a b).1 : Int), hintI (Sort.choosePivot rLt d a b).2) := by
  obtain ⟨n, rfl⟩ : ∃ k, n = k + 1 := ⟨n - 1, by omega⟩
  unfold slices_choosePivotCmpFunc_Value_value_Cmp Sort.choosePivot
  simp only [at1_succ, withK]
  have e1 : IntKind.wrap .i64 ((b : Int) - (a : Int)) = ((b - a : Nat) : Int) := wv (by omega) (by omega)
  have e2 : IntKind.wrap .i64 (Int.tdiv ((b - a : Nat) : Int) 4) = (((b - a) / 4 : Nat) : Int) := by
    rw [show Int.tdiv ((b - a : Nat) : Int) 4 = (((b - a) / 4 : Nat) : Int) from rfl]; exact wv rfl (by omega)
  have m1 : IntKind.wrap .i64 ((((b - a) / 4 : Nat) : Int) * 1) = (((b - a) / 4 * 1 : Nat) : Int) := wv (by omega) (by omega)
  have m2 : IntKind.wrap .i64 ((((b - a) / 4 : Nat) : Int) * 2) = (((b - a) / 4 * 2 : Nat) : Int) := wv (by omega) (by omega)
  have m3 : IntKind.wrap .i64 ((((b - a) / 4 : Nat) : Int) * 3) = (((b - a) / 4 * 3 : Nat) : Int) := wv (by omega) (by omega)
  have i1 : IntKind.wrap .i64 ((a : Int) + (((b - a) / 4 * 1 : Nat) : Int)) = ((a + (b - a) / 4 * 1 : Nat) : Int) := wv (by omega) (by omega)
  have i2 : IntKind.wrap .i64 ((a : Int) + (((b - a) / 4 * 2 : Nat) : Int)) = ((a + (b - a) / 4 * 2 : Nat) : Int) := wv (by omega) (by omega)
  have i3 : IntKind.wrap .i64 ((a : Int) + (((b - a) / 4 * 3 : Nat) : Int)) = ((a + (b - a) / 4 * 3 : Nat) : Int) := wv (by omega) (by omega)
  rw [e1, e2, m1, m2, m3, i1, i2, i3]
  by_cases h8 : b - a ≥ 8
  · rw [dT (by omega : ((b - a : Nat) : Int) ≥ 8), cond_true, if_pos h8]
    by_cases h50 : b - a ≥ 50
    · rw [dT (by omega : ((b - a : Nat) : Int) ≥ 50), cond_true, if_pos h50]
      obtain ⟨h1, h2, h3⟩ := medianAdjacent_ok (n := n) (by omega) hW (a := a + (b - a) / 4 * 1) (sw := 0) (by omega) (by omega) (by omega) hs
      rw [show (0 : Int) = ((0 : Nat) : Int) from rfl, h1, Option.bind_some]
      obtain ⟨g1, g2, g3⟩ := medianAdjacent_ok (n := n) (by omega) hW (a := a + (b - a) / 4 * 2) (sw := (Sort.medianAdjacent rLt d (a + (b - a) / 4 * 1) 0).2) (by omega) (by omega) (by omega) hs
      simp only
      rw [g1, Option.bind_some]
      obtain ⟨f1, f2, f3⟩ := medianAdjacent_ok (n := n) (by omega) hW (a := a + (b - a) / 4 * 3) (sw := (Sort.medianAdjacent rLt d (a + (b - a) / 4 * 2) (Sort.medianAdjacent rLt d (a + (b - a) / 4 * 1) 0).2).2) (by omega) (by omega) (by omega) hs
      simp only
      rw [f1, Option.bind_some]
      obtain ⟨c1, c2, c3⟩ := median_ok (n := n) (by omega) hW h2 g2 f2 (sw := (Sort.medianAdjacent rLt d (a + (b - a) / 4 * 3) (Sort.medianAdjacent rLt d (a + (b - a) / 4 * 2) (Sort.medianAdjacent rLt d (a + (b - a) / 4 * 1) 0).2).2).2) (by omega)
      simp only
      rw [c1, Option.bind_some]
      exact hint_end
    · rw [dF (by omega : ¬ ((b - a : Nat) : Int) ≥ 50), cond_false, if_neg h50]
      obtain ⟨c1, c2, c3⟩ := median_ok (n := n) (by omega) hW (a := a + (b - a) / 4 * 1) (b := a + (b - a) / 4 * 2) (c := a + (b - a) / 4 * 3) (sw := 0) (by omega) (by omega) (by omega) (by omega)
      rw [show (0 : Int) = ((0 : Nat) : Int) from rfl, c1, Option.bind_some]
      exact hint_end
  · rw [dF (by omega : ¬ ((b - a : Nat) : Int) ≥ 8), cond_false, if_neg h8]
    exact hint_end (s := 0)
end Go.Pl

set_option linter.unusedVariables false
set_option linter.unusedSimpArgs false
namespace Go.Pl
open Go Go.Ab
/-! #### Scans -/
theorem scanUp_gen {R : Type} {F : Nat → Int → Option R} {K : Int → Option R} {p : Row → Bool} {d : Array Row} {j : Nat} (hj : j < 1000000)
    (h1 : ∀ (m i : Nat), i ≤ j → F (m + 1) (i : Int) = bif p d[i]! then F m (IntKind.wrap .i64 ((i : Int) + 1)) else K (i : Int)) (h2 : ∀ (m i : Nat), j < i → F (m + 1) (i : Int) = K (i : Int)) :
    ∀ (k m i : Nat), j + 1 - i ≤ k → k < m → F m (i : Int) = K (Sort.scanUp p d j i : Int) := by
  intro k
  induction k with
  | zero =>
    intro m i hk hm
    obtain ⟨m, rfl⟩ : ∃ k, m = k + 1 := ⟨m - 1, by omega⟩
    rw [h2 m i (by omega), Sort.scanUp, if_neg (by simp; omega)]
  | succ k ih =>
    intro m i hk hm
    obtain ⟨m, rfl⟩ : ∃ k, m = k + 1 := ⟨m - 1, by omega⟩
    by_cases h : i ≤ j
    · rw [h1 m i h, Sort.scanUp]
      cases hp : p d[i]! with
      | true => rw [cond_true, wrapN (by omega), ih m (i + 1) (by omega) (by omega), if_pos (by simp [h])]
      | false => rw [cond_false, if_neg (by simp)]
    · rw [h2 m i (by omega), Sort.scanUp, if_neg (by simp; omega)]
theorem scanDown_gen {R : Type} {F : Nat → Int → Option R} {K : Int → Option R} {p : Row → Bool} {d : Array Row} {i : Nat} (hi : 1 ≤ i)
    (h1 : ∀ (m j : Nat), i ≤ j → j < d.size → F (m + 1) (j : Int) = bif p d[j]! then F m (IntKind.wrap .i64 ((j : Int) - 1)) else K (j : Int)) (h2 : ∀ (m j : Nat), j < i → F (m + 1) (j : Int) = K (j : Int)) :
    ∀ (j m : Nat), j < m → j < d.size → d.size < 1000000 → F m (j : Int) = K (Sort.scanDown p d i j : Int)
  | 0, m, hm, hj, hs => by
    obtain ⟨m, rfl⟩ : ∃ k, m = k + 1 := ⟨m - 1, by omega⟩
    rw [h2 m 0 (by omega)]; rfl
  | j + 1, m, hm, hj, hs => by
    obtain ⟨m, rfl⟩ : ∃ k, m = k + 1 := ⟨m - 1, by omega⟩
    rw [Sort.scanDown]
    by_cases h : i ≤ j + 1
    · rw [h1 m (j + 1) h hj]
      cases hp : p d[j + 1]! with
      | true => rw [cond_true, wrapPred (by omega), scanDown_gen hi h1 h2 j m (by omega) (by omega) hs, if_pos (by simp [h])]
      | false => rw [cond_false, if_neg (by simp)]
    · rw [h2 m (j + 1) (by omega), if_neg (by simp; omega)]

/-! #### partitionEqual -/
theorem pe_up {n : Nat} (hn : 2000010 ≤ n) {a j : Nat} {d : Array Row} (hW : AllA WRow d) (ha : a < d.size) (hj : j < d.size) (hs : d.size < 1000000) {K : Int → Option (List Row × Int)} (m i : Nat) (hm : j + 1 < m) :
    slices_partitionEqualCmpFunc_Value_value_Cmp_r_l3x n (a : Int) d.toList (j : Int) K m (i : Int) = K (Sort.scanUp (fun x => !rLt d[a]! x) d j i : Int) := by
  refine scanUp_gen (F := fun m y => slices_partitionEqualCmpFunc_Value_value_Cmp_r_l3x n (a : Int) d.toList (j : Int) K m y) (by omega) ?_ ?_ (j + 1) m i (by omega) hm
  · intro m i hi
    show slices_partitionEqualCmpFunc_Value_value_Cmp_r_l3x n (a : Int) d.toList (j : Int) K (m + 1) (i : Int) = _
    rw [slices_partitionEqualCmpFunc_Value_value_Cmp_r_l3x, dT (by omega : (i : Int) ≤ (j : Int)), cond_true, idx_arr d ha, idx_arr d (by omega), Option.bind_some, Option.bind_some, rowCmp_ok hW ha (by omega) hn, Option.bind_some]
    rfl
  · intro m i hi
    show slices_partitionEqualCmpFunc_Value_value_Cmp_r_l3x n (a : Int) d.toList (j : Int) K (m + 1) (i : Int) = _
    rw [slices_partitionEqualCmpFunc_Value_value_Cmp_r_l3x, dF (by omega : ¬ (i : Int) ≤ (j : Int)), cond_false]
theorem pe_down {n : Nat} (hn : 2000010 ≤ n) {a i : Nat} {d : Array Row} (hW : AllA WRow d) (ha : a < d.size) (hi : 1 ≤ i) (hs : d.size < 1000000) {K : Int → Option (List Row × Int)} (m j : Nat) (hj : j < d.size) (hm : j < m) :
    slices_partitionEqualCmpFunc_Value_value_Cmp_r_l5 n (a : Int) d.toList (i : Int) K m (j : Int) = K (Sort.scanDown (fun x => rLt d[a]! x) d i j : Int) := by
  refine scanDown_gen (F := fun m y => slices_partitionEqualCmpFunc_Value_value_Cmp_r_l5 n (a : Int) d.toList (i : Int) K m y) hi ?_ ?_ j m hm hj hs
  · intro m j h1 h2
    show slices_partitionEqualCmpFunc_Value_value_Cmp_r_l5 n (a : Int) d.toList (i : Int) K (m + 1) (j : Int) = _
    rw [slices_partitionEqualCmpFunc_Value_value_Cmp_r_l5, dT (by omega : (i : Int) ≤ (j : Int)), cond_true, idx_arr d ha, idx_arr d (by omega), Option.bind_some, Option.bind_some, rowCmp_ok hW ha (by omega) hn, Option.bind_some]
    rfl
  · intro m j h1
    show slices_partitionEqualCmpFunc_Value_value_Cmp_r_l5 n (a : Int) d.toList (i : Int) K (m + 1) (j : Int) = _
    rw [slices_partitionEqualCmpFunc_Value_value_Cmp_r_l5, dF (by omega : ¬ (i : Int) ≤ (j : Int)), cond_false]
theorem pe_loop {n : Nat} (hn : 2000010 ≤ n) {a : Nat} {K : List Row → Int → Option (List Row × Int)} : ∀ (k m i j : Nat) (d : Array Row), j + 1 - i ≤ k → k < m → a < i → j < d.size → a < d.size → d.size < 1000000 → AllA WRow d →
    slices_partitionEqualCmpFunc_Value_value_Cmp_r_l3 n (a : Int) K m d.toList (i : Int) (j : Int) = K (Sort.partEqLoop rLt a i j d).2.toList ((Sort.partEqLoop rLt a i j d).1 : Int) ∧ AllA WRow (Sort.partEqLoop rLt a i j d).2 ∧ (Sort.partEqLoop rLt a i j d).2.size = d.size := by
  intro k
  induction k with
  | zero =>
    intro m i j d hk hm hai hj ha hs hW
    obtain ⟨m, rfl⟩ : ∃ k, m = k + 1 := ⟨m - 1, by omega⟩
    have hu := Sort.scanUp_ge (fun x => !rLt d[a]! x) d j i
    have hd := Sort.scanDown_le (fun x => rLt d[a]! x) d (Sort.scanUp (fun x => !rLt d[a]! x) d j i) j
    rw [slices_partitionEqualCmpFunc_Value_value_Cmp_r_l3, Sort.partEqLoop_eq, if_pos (by omega)]
    simp only [withK]
    rw [pe_up hn hW ha hj hs n i (by omega), pe_down hn hW ha (by omega) hs n j hj (by omega), dT (by omega : ((Sort.scanUp (fun x => !rLt d[a]! x) d j i : Nat) : Int) > _), cond_true]
    exact ⟨rfl, hW, trivial⟩
  | succ k ih =>
    intro m i j d hk hm hai hj ha hs hW
    obtain ⟨m, rfl⟩ : ∃ k, m = k + 1 := ⟨m - 1, by omega⟩
    have hu := Sort.scanUp_ge (fun x => !rLt d[a]! x) d j i
    have hd := Sort.scanDown_le (fun x => rLt d[a]! x) d (Sort.scanUp (fun x => !rLt d[a]! x) d j i) j
    rw [slices_partitionEqualCmpFunc_Value_value_Cmp_r_l3, Sort.partEqLoop_eq]
    simp only [withK]
    rw [pe_up hn hW ha hj hs n i (by omega), pe_down hn hW ha (by omega) hs n j hj (by omega)]
    revert hu hd
    generalize Sort.scanUp (fun x => !rLt d[a]! x) d j i = i2
    generalize Sort.scanDown (fun x => rLt d[a]! x) d i2 j = j2
    intro hu hd
    by_cases h : i2 > j2
    · rw [if_pos h, dT (by omega : (i2 : Int) > (j2 : Int)), cond_true]
      exact ⟨rfl, hW, rfl⟩
    · rw [if_neg h, dF (by omega : ¬ (i2 : Int) > (j2 : Int)), cond_false, idx_arr d (by omega), idx_arr d (by omega), Option.bind_some, Option.bind_some]
      rw [swap_bind (by omega) (by omega) (K := fun l => slices_partitionEqualCmpFunc_Value_value_Cmp_r_l3 n (a : Int) K m l (IntKind.wrap .i64 ((i2 : Int) + 1)) (IntKind.wrap .i64 ((j2 : Int) - 1))), wrapN (by omega), wv (v := j2 - 1) (by omega) (by omega)]
      have := ih m (i2 + 1) (j2 - 1) (Sort.swp d i2 j2) (by omega) (by omega) (by omega) (by rw [swp_size]; omega) (by rw [swp_size]; omega) (by rw [swp_size]; exact hs) (hW.swp (by omega) (by omega))
      rw [swp_size] at this
      exact this
theorem partitionEqual_ok {n : Nat} (hn : 2000020 ≤ n) {a b p : Nat} {d : Array Row} (hab : a < b) (hp : p < d.size) (hb : b ≤ d.size) (hs : d.size < 1000000) (hW : AllA WRow d) :
    slices_partitionEqualCmpFunc_Value_value_Cmp_r n d.toList (a : Int) (b : Int) (p : Int) = some ((Sort.partitionEqual rLt d a b p).2.toList, ((Sort.partitionEqual rLt d a b p).1 : Int)) ∧ AllA WRow (Sort.partitionEqual rLt d a b p).2 ∧ (Sort.partitionEqual rLt d a b p).2.size = d.size := by
  obtain ⟨n, rfl⟩ : ∃ k, n = k + 1 := ⟨n - 1, by omega⟩
  unfold slices_partitionEqualCmpFunc_Value_value_Cmp_r Sort.partitionEqual
  simp only [at1_succ, withK]
  rw [idx_arr d hp, idx_arr d (by omega), Option.bind_some, Option.bind_some]
  rw [swap_bind (by omega) hp (K := fun l => slices_partitionEqualCmpFunc_Value_value_Cmp_r_l3 n (a : Int) (fun y7 y8 => some (y7, y8)) n l (IntKind.wrap .i64 ((a : Int) + 1)) (IntKind.wrap .i64 ((b : Int) - 1))), wrapN (by omega), wv (v := b - 1) (by omega) (by omega)]
  have := pe_loop (n := n) (by omega) (a := a) (K := fun y7 y8 => some (y7, y8)) b n (a + 1) (b - 1) (Sort.swp d a p) (by omega) (by omega) (by omega) (by rw [swp_size]; omega) (by rw [swp_size]; omega) (by rw [swp_size]; exact hs) (hW.swp (by omega) hp)
  rw [swp_size] at this
  exact this
end Go.Pl

set_option linter.unusedVariables false
set_option linter.unusedSimpArgs false
namespace Go.Pl
open Go Go.Ab
/-! #### partition -/
theorem pt_up {n : Nat} (hn : 2000010 ≤ n) {a j : Nat} {d : Array Row} (hW : AllA WRow d) (ha : a < d.size) (hj : j < d.size) (hs : d.size < 1000000) {K : Int → Option (List Row × Int × Bool)} (m i : Nat) (hm : j + 1 < m) :
    slices_partitionCmpFunc_Value_value_Cmp_r_l13x n (a : Int) d.toList (j : Int) K m (i : Int) = K (Sort.scanUp (fun x => rLt x d[a]!) d j i : Int) := by
  refine scanUp_gen (F := fun m y => slices_partitionCmpFunc_Value_value_Cmp_r_l13x n (a : Int) d.toList (j : Int) K m y) (by omega) ?_ ?_ (j + 1) m i (by omega) hm
  · intro m i hi
    show slices_partitionCmpFunc_Value_value_Cmp_r_l13x n (a : Int) d.toList (j : Int) K (m + 1) (i : Int) = _
    rw [slices_partitionCmpFunc_Value_value_Cmp_r_l13x, dT (by omega : (i : Int) ≤ (j : Int)), cond_true, idx_arr d ha, idx_arr d (by omega), Option.bind_some, Option.bind_some, rowCmp_ok hW (by omega) ha hn, Option.bind_some]
    rfl
  · intro m i hi
    show slices_partitionCmpFunc_Value_value_Cmp_r_l13x n (a : Int) d.toList (j : Int) K (m + 1) (i : Int) = _
    rw [slices_partitionCmpFunc_Value_value_Cmp_r_l13x, dF (by omega : ¬ (i : Int) ≤ (j : Int)), cond_false]
theorem pt_down {n : Nat} (hn : 2000010 ≤ n) {a i : Nat} {d : Array Row} (hW : AllA WRow d) (ha : a < d.size) (hi : 1 ≤ i) (hs : d.size < 1000000) {K : Int → Option (List Row × Int × Bool)} (m j : Nat) (hj : j < d.size) (hm : j < m) :
    slices_partitionCmpFunc_Value_value_Cmp_r_l15 n (a : Int) d.toList (i : Int) K m (j : Int) = K (Sort.scanDown (fun x => !rLt x d[a]!) d i j : Int) := by
  refine scanDown_gen (F := fun m y => slices_partitionCmpFunc_Value_value_Cmp_r_l15 n (a : Int) d.toList (i : Int) K m y) hi ?_ ?_ j m hm hj hs
  · intro m j h1 h2
    show slices_partitionCmpFunc_Value_value_Cmp_r_l15 n (a : Int) d.toList (i : Int) K (m + 1) (j : Int) = _
    rw [slices_partitionCmpFunc_Value_value_Cmp_r_l15, dT (by omega : (i : Int) ≤ (j : Int)), cond_true, idx_arr d ha, idx_arr d (by omega), Option.bind_some, Option.bind_some, rowCmp_ok hW (by omega) ha hn, Option.bind_some]
    rfl
  · intro m j h1
    show slices_partitionCmpFunc_Value_value_Cmp_r_l15 n (a : Int) d.toList (i : Int) K (m + 1) (j : Int) = _
    rw [slices_partitionCmpFunc_Value_value_Cmp_r_l15, dF (by omega : ¬ (i : Int) ≤ (j : Int)), cond_false]
/-- The first two scans, over the swapped list. -/
theorem pt_up0 {n : Nat} (hn : 2000010 ≤ n) {a b p : Nat} {d : Array Row} (hW : AllA WRow d) (ha : a < b) (hp : p < d.size) (hb : b ≤ d.size) (hs : d.size < 1000000) {K : Int → Option (List Row × Int × Bool)} (m i : Nat) (hm : b < m) :
    slices_partitionCmpFunc_Value_value_Cmp_r_l3 n d.toList (a : Int) (b : Int) (p : Int) d[p]! d[a]! K m (i : Int) = K (Sort.scanUp (fun x => rLt x (Sort.swp d a p)[a]!) (Sort.swp d a p) (b - 1) i : Int) := by
  have hsw := swp_size d a p
  have hW2 := hW.swp (i := a) (j := p) (by omega) hp
  have e : IntKind.wrap .i64 ((b : Int) - 1) = ((b - 1 : Nat) : Int) := wv (by omega) (by omega)
  refine scanUp_gen (F := fun m y => slices_partitionCmpFunc_Value_value_Cmp_r_l3 n d.toList (a : Int) (b : Int) (p : Int) d[p]! d[a]! K m y) (by omega) ?_ ?_ b m i (by omega) hm
  · intro m i hi
    show slices_partitionCmpFunc_Value_value_Cmp_r_l3 n d.toList (a : Int) (b : Int) (p : Int) d[p]! d[a]! K (m + 1) (i : Int) = _
    rw [slices_partitionCmpFunc_Value_value_Cmp_r_l3, e, dT (by omega : (i : Int) ≤ ((b - 1 : Nat) : Int)), cond_true, Int.toNat_natCast, Int.toNat_natCast, swp_list, idx_arr _ (by omega : a < (Sort.swp d a p).size), idx_arr _ (by omega : i < (Sort.swp d a p).size), Option.bind_some, Option.bind_some, rowCmp_ok hW2 (by omega) (by omega) hn, Option.bind_some]
    rfl
  · intro m i hi
    show slices_partitionCmpFunc_Value_value_Cmp_r_l3 n d.toList (a : Int) (b : Int) (p : Int) d[p]! d[a]! K (m + 1) (i : Int) = _
    rw [slices_partitionCmpFunc_Value_value_Cmp_r_l3, e, dF (by omega : ¬ (i : Int) ≤ ((b - 1 : Nat) : Int)), cond_false]
theorem pt_down0 {n : Nat} (hn : 2000010 ≤ n) {a p i : Nat} {d : Array Row} (hW : AllA WRow d) (ha : a < d.size) (hp : p < d.size) (hi : 1 ≤ i) (hs : d.size < 1000000) {K : Int → Option (List Row × Int × Bool)} (m j : Nat) (hj : j < d.size) (hm : j < m) :
    slices_partitionCmpFunc_Value_value_Cmp_r_l5 n d.toList (a : Int) (p : Int) d[p]! d[a]! (i : Int) K m (j : Int) = K (Sort.scanDown (fun x => !rLt x (Sort.swp d a p)[a]!) (Sort.swp d a p) i j : Int) := by
  have hsw := swp_size d a p
  have hW2 := hW.swp (i := a) (j := p) ha hp
  refine scanDown_gen (F := fun m y => slices_partitionCmpFunc_Value_value_Cmp_r_l5 n d.toList (a : Int) (p : Int) d[p]! d[a]! (i : Int) K m y) hi ?_ ?_ j m hm (by omega) (by omega)
  · intro m j h1 h2
    show slices_partitionCmpFunc_Value_value_Cmp_r_l5 n d.toList (a : Int) (p : Int) d[p]! d[a]! (i : Int) K (m + 1) (j : Int) = _
    rw [slices_partitionCmpFunc_Value_value_Cmp_r_l5, dT (by omega : (i : Int) ≤ (j : Int)), cond_true, Int.toNat_natCast, Int.toNat_natCast, swp_list, idx_arr _ (by omega : a < (Sort.swp d a p).size), idx_arr _ (by omega : j < (Sort.swp d a p).size), Option.bind_some, Option.bind_some, rowCmp_ok hW2 (by omega) (by omega) hn, Option.bind_some]
    rfl
  · intro m j h1
    show slices_partitionCmpFunc_Value_value_Cmp_r_l5 n d.toList (a : Int) (p : Int) d[p]! d[a]! (i : Int) K (m + 1) (j : Int) = _
    rw [slices_partitionCmpFunc_Value_value_Cmp_r_l5, dF (by omega : ¬ (i : Int) ≤ (j : Int)), cond_false]
theorem pt_loop {n : Nat} (hn : 2000010 ≤ n) {a : Nat} {K : List Row → Int → Option (List Row × Int × Bool)} : ∀ (k m i j : Nat) (d : Array Row), j + 1 - i ≤ k → k < m → a < i → j < d.size → a < d.size → d.size < 1000000 → AllA WRow d →
    slices_partitionCmpFunc_Value_value_Cmp_r_l13 n (a : Int) K m d.toList (i : Int) (j : Int) = K (Sort.partLoop rLt a i j d).2.toList ((Sort.partLoop rLt a i j d).1 : Int) ∧ AllA WRow (Sort.partLoop rLt a i j d).2 ∧ (Sort.partLoop rLt a i j d).2.size = d.size ∧ (Sort.partLoop rLt a i j d).1 ≤ j := by
  intro k
  induction k with
  | zero =>
    intro m i j d hk hm hai hj ha hs hW
    obtain ⟨m, rfl⟩ : ∃ k, m = k + 1 := ⟨m - 1, by omega⟩
    have hu := Sort.scanUp_ge (fun x => rLt x d[a]!) d j i
    have hd := Sort.scanDown_le (fun x => !rLt x d[a]!) d (Sort.scanUp (fun x => rLt x d[a]!) d j i) j
    rw [slices_partitionCmpFunc_Value_value_Cmp_r_l13, Sort.partLoop_eq, if_pos (by omega)]
    unfold withK
    show slices_partitionCmpFunc_Value_value_Cmp_r_l13x _ _ _ _ _ _ _ = _ ∧ _
    rw [pt_up hn hW ha hj hs n i (by omega)]
    show slices_partitionCmpFunc_Value_value_Cmp_r_l15 _ _ _ _ _ _ _ = _ ∧ _
    rw [pt_down hn hW ha (by omega) hs n j hj (by omega)]
    show (bif decide (_ > _) then _ else _) = _ ∧ _
    rw [dT (by omega : ((Sort.scanUp (fun x => rLt x d[a]!) d j i : Nat) : Int) > _), cond_true]
    exact ⟨rfl, hW, rfl, hd⟩
  | succ k ih =>
    intro m i j d hk hm hai hj ha hs hW
    obtain ⟨m, rfl⟩ : ∃ k, m = k + 1 := ⟨m - 1, by omega⟩
    have hu := Sort.scanUp_ge (fun x => rLt x d[a]!) d j i
    have hd := Sort.scanDown_le (fun x => !rLt x d[a]!) d (Sort.scanUp (fun x => rLt x d[a]!) d j i) j
    rw [slices_partitionCmpFunc_Value_value_Cmp_r_l13, Sort.partLoop_eq]
    simp only [withK]
    rw [pt_up hn hW ha hj hs n i (by omega), pt_down hn hW ha (by omega) hs n j hj (by omega)]
    revert hu hd
    generalize Sort.scanUp (fun x => rLt x d[a]!) d j i = i2
    generalize Sort.scanDown (fun x => !rLt x d[a]!) d i2 j = j2
    intro hu hd
    by_cases h : i2 > j2
    · rw [if_pos h, dT (by omega : (i2 : Int) > (j2 : Int)), cond_true]
      exact ⟨rfl, hW, rfl, hd⟩
    · rw [if_neg h, dF (by omega : ¬ (i2 : Int) > (j2 : Int)), cond_false, idx_arr d (by omega), idx_arr d (by omega), Option.bind_some, Option.bind_some]
      rw [swap_bind (by omega) (by omega) (K := fun l => slices_partitionCmpFunc_Value_value_Cmp_r_l13 n (a : Int) K m l (IntKind.wrap .i64 ((i2 : Int) + 1)) (IntKind.wrap .i64 ((j2 : Int) - 1))), wrapN (by omega), wv (v := j2 - 1) (by omega) (by omega)]
      obtain ⟨h1, h2, h3, h4⟩ := ih m (i2 + 1) (j2 - 1) (Sort.swp d i2 j2) (by omega) (by omega) (by omega) (by rw [swp_size]; omega) (by rw [swp_size]; omega) (by rw [swp_size]; exact hs) (hW.swp (by omega) (by omega))
      rw [swp_size] at h3
      exact ⟨h1, h2, h3, by omega⟩
theorem partition_ok {n : Nat} (hn : 2000020 ≤ n) {a b p : Nat} {d : Array Row} (hab : a < b) (hp : p < d.size) (hb : b ≤ d.size) (hs : d.size < 1000000) (hW : AllA WRow d) :
    slices_partitionCmpFunc_Value_value_Cmp_r n d.toList (a : Int) (b : Int) (p : Int) = some ((Sort.partition rLt d a b p).2.2.toList, ((Sort.partition rLt d a b p).1 : Int), (Sort.partition rLt d a b p).2.1) ∧ AllA WRow (Sort.partition rLt d a b p).2.2 ∧ (Sort.partition rLt d a b p).2.2.size = d.size := by
  obtain ⟨n, rfl⟩ : ∃ k, n = k + 1 := ⟨n - 1, by omega⟩
  have hsw := swp_size d a p
  have hW2 := hW.swp (i := a) (j := p) (by omega) hp
  unfold slices_partitionCmpFunc_Value_value_Cmp_r Sort.partition
  simp only [at1_succ, withK]
  rw [idx_arr d hp, idx_arr d (by omega), Option.bind_some, Option.bind_some]
  obtain ⟨z, hz⟩ : ∃ z, idx (d.toList.set (Int.toNat (a : Int)) d[p]!) (p : Int) = some z := ⟨_, idx_some_ok (by simpa using hp)⟩
  have eb : IntKind.wrap .i64 ((b : Int) - 1) = ((b - 1 : Nat) : Int) := wv (by omega) (by omega)
  rw [hz, Option.bind_some, wrapN (by omega), pt_up0 (by omega) hW hab hp hb hs n (a + 1) (by omega), eb]
  have hu := Sort.scanUp_ge (fun x => rLt x (Sort.swp d a p)[a]!) (Sort.swp d a p) (b - 1) (a + 1)
  have hd := Sort.scanDown_le (fun x => !rLt x (Sort.swp d a p)[a]!) (Sort.swp d a p) (Sort.scanUp (fun x => rLt x (Sort.swp d a p)[a]!) (Sort.swp d a p) (b - 1) (a + 1)) (b - 1)
  rw [pt_down0 (by omega) hW (by omega) hp (by omega) hs n (b - 1) (by omega) (by omega)]
  revert hu hd
  generalize Sort.scanUp (fun x => rLt x (Sort.swp d a p)[a]!) (Sort.swp d a p) (b - 1) (a + 1) = i2
  generalize Sort.scanDown (fun x => !rLt x (Sort.swp d a p)[a]!) (Sort.swp d a p) i2 (b - 1) = j2
  intro hu hd
  rw [Int.toNat_natCast, Int.toNat_natCast, swp_list]
  by_cases h : i2 > j2
  · rw [if_pos h, dT (by omega : (i2 : Int) > (j2 : Int)), cond_true, idx_arr _ (by omega : a < (Sort.swp d a p).size), idx_arr _ (by omega : j2 < (Sort.swp d a p).size), Option.bind_some, Option.bind_some]
    have := swap_bind (d := Sort.swp d a p) (i := j2) (j := a) (by omega) (by omega) (K := fun l => some (l, (j2 : Int), true))
    rw [Int.toNat_natCast] at this
    refine ⟨this, hW2.swp (by omega) (by omega), ?_⟩
    rw [swp_size, hsw]
  · rw [if_neg h, dF (by omega : ¬ (i2 : Int) > (j2 : Int)), cond_false, idx_arr _ (by omega : j2 < (Sort.swp d a p).size), idx_arr _ (by omega : i2 < (Sort.swp d a p).size), Option.bind_some, Option.bind_some]
    have hsw2 := swp_size (Sort.swp d a p) i2 j2
    obtain ⟨h1, h2, h3, h4⟩ := pt_loop (n := n) (by omega) (a := a) (K := fun y26 y28 => (idx y26 (a : Int)).bind fun x34 => (idx y26 y28).bind fun x36 => (idx (y26.set (Int.toNat y28) x34) (a : Int)).bind fun x38 => some (((y26.set (Int.toNat y28) x34).set a x36), y28, false)) b n (i2 + 1) (j2 - 1) (Sort.swp (Sort.swp d a p) i2 j2) (by omega) (by omega) (by omega) (by omega) (by omega) (by omega) (hW2.swp (by omega) (by omega))
    have hb2 := swap_bind (d := Sort.swp d a p) (i := i2) (j := j2) (by omega) (by omega) (K := fun l => slices_partitionCmpFunc_Value_value_Cmp_r_l13 n (a : Int) (fun y26 y28 => (idx y26 (a : Int)).bind fun x34 => (idx y26 y28).bind fun x36 => (idx (y26.set (Int.toNat y28) x34) (a : Int)).bind fun x38 => some (((y26.set (Int.toNat y28) x34).set a x36), y28, false)) n l (IntKind.wrap .i64 ((i2 : Int) + 1)) (IntKind.wrap .i64 ((j2 : Int) - 1)))
    refine ⟨Eq.trans hb2 ?_, ?_, ?_⟩
    · show slices_partitionCmpFunc_Value_value_Cmp_r_l13 n (a : Int) _ n _ _ _ = _
      rw [wrapN (by omega), wv (v := j2 - 1) (by omega) (by omega), h1, idx_arr _ (by omega), idx_arr _ (by omega), Option.bind_some, Option.bind_some]
      have := swap_bind (d := (Sort.partLoop rLt a (i2 + 1) (j2 - 1) (Sort.swp (Sort.swp d a p) i2 j2)).2) (i := (Sort.partLoop rLt a (i2 + 1) (j2 - 1) (Sort.swp (Sort.swp d a p) i2 j2)).1) (j := a) (by omega) (by omega) (K := fun l => some (l, ((Sort.partLoop rLt a (i2 + 1) (j2 - 1) (Sort.swp (Sort.swp d a p) i2 j2)).1 : Int), false))
      rw [Int.toNat_natCast] at this ⊢
      exact this
    · exact h2.swp (by omega) (by omega)
    · show (Sort.swp _ _ _).size = _
      rw [swp_size]; omega
end Go.Pl

set_option linter.unusedVariables false
set_option linter.unusedSimpArgs false
namespace Go.Pl
open Go Go.Ab
/-! #### partialInsertionSort -/
theorem pi_scan {n : Nat} (hn : 2000010 ≤ n) {b : Nat} {d : Array Row} (hW : AllA WRow d) (hb : b ≤ d.size) (hs : d.size < 1000000) {K : Int → Option (List Row × Bool)} : ∀ (k m i : Nat), b - i ≤ k → k < m → 1 ≤ i →
    slices_partialInsertionSortCmpFunc_Value_value_Cmp_r_l5 n (b : Int) d.toList K m (i : Int) = K (Sort.scanSorted rLt d b i : Int) := by
  intro k
  induction k with
  | zero =>
    intro m i hk hm hi
    obtain ⟨m, rfl⟩ : ∃ k, m = k + 1 := ⟨m - 1, by omega⟩
    rw [slices_partialInsertionSortCmpFunc_Value_value_Cmp_r_l5, dF (by omega : ¬ (i : Int) < (b : Int)), cond_false, Sort.scanSorted, if_neg (by simp; omega)]
  | succ k ih =>
    intro m i hk hm hi
    obtain ⟨m, rfl⟩ : ∃ k, m = k + 1 := ⟨m - 1, by omega⟩
    rw [slices_partialInsertionSortCmpFunc_Value_value_Cmp_r_l5, Sort.scanSorted]
    by_cases h : i < b
    · rw [dT (by omega : (i : Int) < (b : Int)), cond_true, wv (v := i - 1) (by omega) (by omega), idx_arr d (by omega), idx_arr d (by omega), Option.bind_some, Option.bind_some, rowCmp_ok hW (by omega) (by omega) hn, Option.bind_some]
      cases hl : rLt d[i]! d[i - 1]! with
      | true =>
        have hl' := hl
        unfold rLt at hl'
        rw [hl', Bool.not_true, cond_false, if_neg (by simp)]
      | false =>
        have hl' := hl
        unfold rLt at hl'
        rw [hl', Bool.not_false, cond_true, if_pos (by simp [h]), wrapN (by omega)]
        exact ih m (i + 1) (by omega) (by omega) (by omega)
    · rw [dF (by omega : ¬ (i : Int) < (b : Int)), cond_false, if_neg (by simp [h])]
theorem pi_down {n : Nat} (hn : 2000010 ≤ n) {K : List Row → Option (List Row × Bool)} : ∀ (j m : Nat) (d : Array Row), j < m → j < d.size → d.size < 1000000 → AllA WRow d →
    slices_partialInsertionSortCmpFunc_Value_value_Cmp_r_l14 n K m d.toList (j : Int) = K (Sort.shiftDown rLt j d).toList ∧ AllA WRow (Sort.shiftDown rLt j d) ∧ (Sort.shiftDown rLt j d).size = d.size
  | 0, m, d, hm, hj, hs, hW => by
    obtain ⟨m, rfl⟩ : ∃ k, m = k + 1 := ⟨m - 1, by omega⟩
    rw [slices_partialInsertionSortCmpFunc_Value_value_Cmp_r_l14, dF (by omega : ¬ ((0 : Nat) : Int) ≥ 1), cond_false]
    exact ⟨rfl, hW, rfl⟩
  | j + 1, m, d, hm, hj, hs, hW => by
    obtain ⟨m, rfl⟩ : ∃ k, m = k + 1 := ⟨m - 1, by omega⟩
    rw [slices_partialInsertionSortCmpFunc_Value_value_Cmp_r_l14, Sort.shiftDown, dT (by omega : ((j + 1 : Nat) : Int) ≥ 1), cond_true, wrapPred (by omega), idx_arr d hj, idx_arr d (by omega : j < d.size), Option.bind_some, Option.bind_some, rowCmp_ok hW hj (by omega) hn, Option.bind_some]
    cases hl : rLt d[j + 1]! d[j]! with
    | false =>
      have hl' := hl
      unfold rLt at hl'
      rw [hl', Bool.not_false, cond_true]
      exact ⟨rfl, hW, rfl⟩
    | true =>
      have hl' := hl
      unfold rLt at hl'
      rw [hl', Bool.not_true, cond_false]
      rw [swap_bind hj (by omega) (K := fun l => slices_partialInsertionSortCmpFunc_Value_value_Cmp_r_l14 n K m l (j : Int))]
      have := pi_down hn (K := K) j m (Sort.swp d (j + 1) j) (by omega) (by rw [swp_size]; omega) (by rw [swp_size]; exact hs) (hW.swp hj (by omega))
      rw [swp_size] at this
      exact this
theorem pi_up {n : Nat} (hn : 2000010 ≤ n) {b : Nat} {i : Int} {K : List Row → Int → Option (List Row × Bool)} : ∀ (k m j : Nat) (d : Array Row), b - j ≤ k → k < m → 1 ≤ j → b ≤ d.size → d.size < 1000000 → AllA WRow d →
    slices_partialInsertionSortCmpFunc_Value_value_Cmp_r_l20 n (b : Int) K i m d.toList (j : Int) = K (Sort.shiftUp rLt b j d).toList i ∧ AllA WRow (Sort.shiftUp rLt b j d) ∧ (Sort.shiftUp rLt b j d).size = d.size := by
  intro k
  induction k with
  | zero =>
    intro m j d hk hm hj hb hs hW
    obtain ⟨m, rfl⟩ : ∃ k, m = k + 1 := ⟨m - 1, by omega⟩
    rw [slices_partialInsertionSortCmpFunc_Value_value_Cmp_r_l20, dF (by omega : ¬ (j : Int) < (b : Int)), cond_false, Sort.shiftUp, if_neg (by omega)]
    exact ⟨rfl, hW, rfl⟩
  | succ k ih =>
    intro m j d hk hm hj hb hs hW
    obtain ⟨m, rfl⟩ : ∃ k, m = k + 1 := ⟨m - 1, by omega⟩
    rw [slices_partialInsertionSortCmpFunc_Value_value_Cmp_r_l20, Sort.shiftUp]
    by_cases h : j < b
    · have ej : IntKind.wrap .i64 ((j : Int) - 1) = ((j - 1 : Nat) : Int) := wv (by omega) (by omega)
      rw [dT (by omega : (j : Int) < (b : Int)), cond_true, if_pos h, ej, idx_arr d (by omega), idx_arr d (by omega), Option.bind_some, Option.bind_some, rowCmp_ok hW (by omega) (by omega) hn, Option.bind_some]
      cases hl : rLt d[j]! d[j - 1]! with
      | false =>
        have hl' := hl
        unfold rLt at hl'
        rw [hl', Bool.not_false, cond_true]
        exact ⟨rfl, hW, rfl⟩
      | true =>
        have hl' := hl
        unfold rLt at hl'
        rw [hl', Bool.not_true, cond_false]
        rw [swap_bind (by omega) (by omega) (K := fun l => slices_partialInsertionSortCmpFunc_Value_value_Cmp_r_l20 n (b : Int) K i m l (IntKind.wrap .i64 ((j : Int) + 1))), wrapN (by omega)]
        have := ih m (j + 1) (Sort.swp d j (j - 1)) (by omega) (by omega) (by omega) (by rw [swp_size]; exact hb) (by rw [swp_size]; exact hs) (hW.swp (by omega) (by omega))
        rw [swp_size] at this
        exact this
    · rw [dF (by omega : ¬ (j : Int) < (b : Int)), cond_false, if_neg h]
      exact ⟨rfl, hW, rfl⟩
theorem scanSorted_le (d : Array Row) (b : Nat) : ∀ (k i : Nat), b - i ≤ k → i ≤ b → i ≤ Sort.scanSorted rLt d b i ∧ Sort.scanSorted rLt d b i ≤ b := by
  intro k
  induction k with
  | zero =>
    intro i hk hi
    rw [Sort.scanSorted, if_neg (by simp; omega)]
    omega
  | succ k ih =>
    intro i hk hi
    rw [Sort.scanSorted]
    split
    · rename_i h
      simp at h
      have := ih (i + 1) (by omega) (by omega)
      omega
    · omega
theorem pi_loop {n : Nat} (hn : 2000010 ≤ n) {a b : Nat} (hab : a < b) : ∀ (s m i : Nat) (d : Array Row), s ≤ 5 → s < m → a < i → i ≤ b → b ≤ d.size → d.size < 1000000 → AllA WRow d →
    slices_partialInsertionSortCmpFunc_Value_value_Cmp_r_l3 n (a : Int) (b : Int) (fun y1 => some (y1, false)) m d.toList (5 - (s : Int)) (i : Int) = some ((Sort.partialIns rLt a b s i d).1.toList, (Sort.partialIns rLt a b s i d).2) ∧ AllA WRow (Sort.partialIns rLt a b s i d).1 ∧ (Sort.partialIns rLt a b s i d).1.size = d.size
  | 0, m, i, d, hs5, hm, hai, hib, hb, hs, hW => by
    obtain ⟨m, rfl⟩ : ∃ k, m = k + 1 := ⟨m - 1, by omega⟩
    rw [slices_partialInsertionSortCmpFunc_Value_value_Cmp_r_l3, dF (by omega : ¬ (5 - ((0 : Nat) : Int)) < 5), cond_false]
    exact ⟨rfl, hW, rfl⟩
  | s + 1, m, i, d, hs5, hm, hai, hib, hb, hs, hW => by
    obtain ⟨m, rfl⟩ : ∃ k, m = k + 1 := ⟨m - 1, by omega⟩
    rw [slices_partialInsertionSortCmpFunc_Value_value_Cmp_r_l3, Sort.partialIns, dT (by omega : (5 - ((s + 1 : Nat) : Int)) < 5), cond_true]
    simp only [withK]
    rw [pi_scan hn hW hb hs b n i (by omega) (by omega) (by omega)]
    have hsc := scanSorted_le d b b i (by omega) hib
    revert hsc
    generalize Sort.scanSorted rLt d b i = i2
    intro hsc
    by_cases h : i2 = b
    · subst h
      rw [if_pos rfl, beq_self_eq_true, cond_true]
      exact ⟨rfl, hW, rfl⟩
    · have hne : ((i2 : Int) == (b : Int)) = false := by simp; omega
      have eba : IntKind.wrap .i64 ((b : Int) - (a : Int)) = ((b - a : Nat) : Int) := wv (by omega) (by omega)
      rw [if_neg h, hne, cond_false, eba]
      by_cases h50 : b - a < 50
      · rw [if_pos h50, dT (by omega : ((b - a : Nat) : Int) < 50), cond_true]
        exact ⟨rfl, hW, rfl⟩
      · rw [if_neg h50, dF (by omega : ¬ ((b - a : Nat) : Int) < 50), cond_false]
        have ei : IntKind.wrap .i64 ((i2 : Int) - 1) = ((i2 - 1 : Nat) : Int) := wv (by omega) (by omega)
        have eia : IntKind.wrap .i64 ((i2 : Int) - (a : Int)) = ((i2 - a : Nat) : Int) := wv (by omega) (by omega)
        have ebi : IntKind.wrap .i64 ((b : Int) - (i2 : Int)) = ((b - i2 : Nat) : Int) := wv (by omega) (by omega)
        have ei1 : IntKind.wrap .i64 ((i2 : Int) + 1) = ((i2 + 1 : Nat) : Int) := wrapN (by omega)
        have es : IntKind.wrap .i64 (5 - ((s + 1 : Nat) : Int) + 1) = 5 - (s : Int) := by rw [wrapI (by omega) (by omega)]; omega
        simp only [ei, eia, ebi, ei1, es]
        rw [idx_arr d (by omega), idx_arr d (by omega), Option.bind_some, Option.bind_some, Int.toNat_natCast, Int.toNat_natCast, idx_some_ok (by simp; omega), Option.bind_some, swp_list]
        have hW2 := hW.swp (i := i2) (j := i2 - 1) (by omega) (by omega)
        have hz2 := swp_size d i2 (i2 - 1)
        revert hW2 hz2
        generalize Sort.swp d i2 (i2 - 1) = d2
        intro hW2 hz2
        -- behind the downward shift
        have up : ∀ (d3 : Array Row), AllA WRow d3 → d3.size = d.size →
            (bif decide (((b - i2 : Nat) : Int) ≥ 2) then slices_partialInsertionSortCmpFunc_Value_value_Cmp_r_l20 n (b : Int) (fun y27 y28 => slices_partialInsertionSortCmpFunc_Value_value_Cmp_r_l3 n (a : Int) (b : Int) (fun y1 => some (y1, false)) m y27 (5 - (s : Int)) y28) (i2 : Int) n d3.toList ((i2 + 1 : Nat) : Int) else slices_partialInsertionSortCmpFunc_Value_value_Cmp_r_l3 n (a : Int) (b : Int) (fun y1 => some (y1, false)) m d3.toList (5 - (s : Int)) (i2 : Int)) = some ((Sort.partialIns rLt a b s i2 (if b - i2 ≥ 2 then Sort.shiftUp rLt b (i2 + 1) d3 else d3)).1.toList, (Sort.partialIns rLt a b s i2 (if b - i2 ≥ 2 then Sort.shiftUp rLt b (i2 + 1) d3 else d3)).2) ∧ AllA WRow (Sort.partialIns rLt a b s i2 (if b - i2 ≥ 2 then Sort.shiftUp rLt b (i2 + 1) d3 else d3)).1 ∧ (Sort.partialIns rLt a b s i2 (if b - i2 ≥ 2 then Sort.shiftUp rLt b (i2 + 1) d3 else d3)).1.size = d.size := by
          intro d3 hW3 hz3
          by_cases h2 : b - i2 ≥ 2
          · rw [dT (by omega : ((b - i2 : Nat) : Int) ≥ 2), cond_true, if_pos h2]
            obtain ⟨g1, g2, g3⟩ := pi_up hn (b := b) (i := (i2 : Int)) (K := fun y27 y28 => slices_partialInsertionSortCmpFunc_Value_value_Cmp_r_l3 n (a : Int) (b : Int) (fun y1 => some (y1, false)) m y27 (5 - (s : Int)) y28) b n (i2 + 1) d3 (by omega) (by omega) (by omega) (by omega) (by omega) hW3
            rw [g1]
            have := pi_loop hn hab s m i2 (Sort.shiftUp rLt b (i2 + 1) d3) (by omega) (by omega) (by omega) (by omega) (by omega) (by omega) g2
            rw [g3, hz3] at this
            exact this
          · rw [dF (by omega : ¬ ((b - i2 : Nat) : Int) ≥ 2), cond_false, if_neg h2]
            have := pi_loop hn hab s m i2 d3 (by omega) (by omega) (by omega) (by omega) (by omega) (by omega) hW3
            rw [hz3] at this
            exact this
        by_cases h1 : i2 - a ≥ 2
        · rw [dT (by omega : ((i2 - a : Nat) : Int) ≥ 2), cond_true, if_pos h1]
          obtain ⟨g1, g2, g3⟩ := pi_down hn (K := fun y48 => bif decide (((b - i2 : Nat) : Int) ≥ 2) then slices_partialInsertionSortCmpFunc_Value_value_Cmp_r_l20 n (b : Int) (fun y27 y28 => slices_partialInsertionSortCmpFunc_Value_value_Cmp_r_l3 n (a : Int) (b : Int) (fun y1 => some (y1, false)) m y27 (5 - (s : Int)) y28) (i2 : Int) n y48 ((i2 + 1 : Nat) : Int) else slices_partialInsertionSortCmpFunc_Value_value_Cmp_r_l3 n (a : Int) (b : Int) (fun y1 => some (y1, false)) m y48 (5 - (s : Int)) (i2 : Int)) (i2 - 1) n d2 (by omega) (by omega) (by omega) hW2
          rw [g1]
          exact up _ g2 (by omega)
        · rw [dF (by omega : ¬ ((i2 - a : Nat) : Int) ≥ 2), cond_false, if_neg h1]
          exact up _ hW2 (by omega)
theorem partialInsertionSort_ok {n : Nat} (hn : 2000020 ≤ n) {a b : Nat} {d : Array Row} (hab : a < b) (hb : b ≤ d.size) (hs : d.size < 1000000) (hW : AllA WRow d) :
    slices_partialInsertionSortCmpFunc_Value_value_Cmp_r n d.toList (a : Int) (b : Int) = some ((Sort.partialInsertionSort rLt d a b).1.toList, (Sort.partialInsertionSort rLt d a b).2) ∧ AllA WRow (Sort.partialInsertionSort rLt d a b).1 ∧ (Sort.partialInsertionSort rLt d a b).1.size = d.size := by
  obtain ⟨n, rfl⟩ : ∃ k, n = k + 1 := ⟨n - 1, by omega⟩
  unfold slices_partialInsertionSortCmpFunc_Value_value_Cmp_r Sort.partialInsertionSort
  simp only [at1_succ, withK]
  rw [wrapN (by omega)]
  exact pi_loop (by omega) hab 5 n (a + 1) d (by omega) (by omega) (by omega) (by omega) hb hs hW
end Go.Pl

set_option linter.unusedVariables false
set_option linter.unusedSimpArgs false
namespace Go.Pl
open Go Go.Ab
/-! #### How many bits -/
theorem lenBody_ok {T : ByteArray} (hT : ∀ y : Fin 256, idxS T (y.val : Int) = some ((Sort.bitsLen y.val : Nat) : Int)) {x : Nat} (hx : x < 1000000) : lenBody T (x : Int) = some ((Sort.bitsLen x : Nat) : Int) := by
  unfold lenBody
  simp only [withK]
  have last : ∀ (y add : Nat), y < 256 → add ≤ 24 → ((idxS T (IntKind.wrap .u8 (y : Int))).bind fun x13 => some (IntKind.wrap .i64 ((add : Int) + (IntKind.wrap .i64 x13)))) = some ((add + Sort.bitsLen y : Nat) : Int) := by
    intro y add hy ha
    have hl := bitsLen_le hy
    rw [wrapY (by omega) (by omega), hT ⟨y, hy⟩, Option.bind_some]
    show some (IntKind.wrap .i64 ((add : Int) + (IntKind.wrap .i64 ((Sort.bitsLen y : Nat) : Int)))) = _
    rw [show IntKind.wrap .i64 ((Sort.bitsLen y : Nat) : Int) = ((Sort.bitsLen y : Nat) : Int) from wv rfl (by omega)]
    congr 1
    exact wv (by omega) (by omega)
  rw [dF (by omega : ¬ (x : Int) ≥ 4294967296), cond_false]
  have mid : ∀ (y add : Nat), y < 65536 → add ≤ 16 → (bif (decide ((y : Int) ≥ 256)) then ((idxS T (IntKind.wrap .u8 (iShr .u64 (y : Int) 8))).bind fun x13 => some (IntKind.wrap .i64 ((IntKind.wrap .i64 ((add : Int) + 8)) + (IntKind.wrap .i64 x13)))) else ((idxS T (IntKind.wrap .u8 (y : Int))).bind fun x13 => some (IntKind.wrap .i64 ((add : Int) + (IntKind.wrap .i64 x13))))) = some ((add + Sort.bitsLen y : Nat) : Int) := by
    intro y add hy ha
    by_cases h : 256 ≤ y
    · rw [dT (by omega : (y : Int) ≥ 256), cond_true]
      rw [show iShr .u64 (y : Int) 8 = ((y / 2 ^ 8 : Nat) : Int) from shr_nat y 8 (by omega), show IntKind.wrap .i64 ((add : Int) + 8) = ((add + 8 : Nat) : Int) from wv (by omega) (by omega), last _ _ (by omega) (by omega), bitsLen_shift (s := 8) (x := y) (by omega)]
      congr 2
      omega
    · rw [dF (by omega : ¬ (y : Int) ≥ 256), cond_false]
      exact last y add (by omega) (by omega)
  by_cases h : 65536 ≤ x
  · rw [dT (by omega : (x : Int) ≥ 65536), cond_true]
    rw [show iShr .u64 (x : Int) 16 = ((x / 2 ^ 16 : Nat) : Int) from shr_nat x 16 (by omega), show IntKind.wrap .i64 (0 + 16) = ((16 : Nat) : Int) by decide]
    have := mid (x / 2 ^ 16) 16 (by omega) (by omega)
    rw [← bitsLen_shift (s := 16) (x := x) (by omega)] at this
    exact this
  · rw [dF (by omega : ¬ (x : Int) ≥ 65536), cond_false]
    have := mid x 0 (by omega) (by omega)
    rw [Nat.zero_add] at this
    exact this
theorem len64_ok {x : Nat} (hx : x < 1000000) {n : Nat} (h : 1 ≤ n) : math_bits_Len64 n (x : Int) = some ((Sort.bitsLen x : Nat) : Int) := by
  obtain ⟨n, rfl⟩ : ∃ k, n = k + 1 := ⟨n - 1, by omega⟩
  exact Eq.trans (show math_bits_Len64 (n + 1) (x : Int) = lenBody lenTab (x : Int) from rfl) (lenBody_ok lenTab_ok hx)
theorem len_ok {x : Nat} (hx : x < 1000000) {n : Nat} (h : 2 ≤ n) : math_bits_Len n (x : Int) = some ((Sort.bitsLen x : Nat) : Int) := by
  obtain ⟨n, rfl⟩ : ∃ k, n = k + 1 := ⟨n - 1, by omega⟩
  unfold math_bits_Len
  rw [at1_succ, len64_ok hx (by omega), Option.bind_some]
theorem bitsLen_lt {x : Nat} (hx : x < 1000000) : Sort.bitsLen x ≤ 20 := by
  unfold Sort.bitsLen
  split
  · omega
  · have : Nat.log2 x < 20 := (Nat.log2_lt (by omega)).2 (by omega)
    omega
theorem pow2_ok {x : Nat} (hx : x < 1000000) {n : Nat} (h : 3 ≤ n) : slices_nextPowerOfTwo n (x : Int) = some ((2 ^ Sort.bitsLen x : Nat) : Int) := by
  obtain ⟨n, rfl⟩ : ∃ k, n = k + 1 := ⟨n - 1, by omega⟩
  have hb := bitsLen_lt hx
  unfold slices_nextPowerOfTwo
  rw [at1_succ, wrapU (by omega) (by omega), len_ok hx (by omega), Option.bind_some]
  have hp : 2 ^ Sort.bitsLen x ≤ 2 ^ 20 := Nat.pow_le_pow_right (by decide) hb
  have hc : ckN ((Sort.bitsLen x : Nat) : Int) = some () := by
    unfold ckN
    rw [if_neg (by omega)]
  rw [hc, Option.bind_some]
  congr 1
  unfold iShl
  rw [Int.toNat_natCast, Int.one_mul, show min (Sort.bitsLen x) IntKind.u64.bits = Sort.bitsLen x from Nat.min_eq_left (by show _ ≤ 64; omega)]
  rw [show ((2 : Int) ^ Sort.bitsLen x) = ((2 ^ Sort.bitsLen x : Nat) : Int) by simp]
  generalize 2 ^ Sort.bitsLen x = q at hp
  rw [wrapU (by omega) (by omega)]
end Go.Pl

set_option linter.unusedVariables false
set_option linter.unusedSimpArgs false
namespace Go.Pl
open Go Go.Ab
/-! #### xorshift -/
theorem ofInt_u (u : UInt64) : BitVec.ofInt 64 (u.toNat : Int) = u.toBitVec := by
  apply BitVec.eq_of_toNat_eq
  have := u.toNat_lt
  simp
theorem xor_u (u v : UInt64) : iXor .u64 (u.toNat : Int) (v.toNat : Int) = ((u ^^^ v).toNat : Int) := by
  unfold iXor
  show IntKind.wrap .u64 ((BitVec.ofInt 64 (u.toNat : Int) ^^^ BitVec.ofInt 64 (v.toNat : Int)).toNat : Int) = _
  rw [ofInt_u, ofInt_u]
  have := (u ^^^ v).toNat_lt
  exact wrapU (by omega) (by show ((u ^^^ v).toNat : Int) < _; omega)
theorem and_u (u v : UInt64) : iAnd .u64 (u.toNat : Int) (v.toNat : Int) = ((u.toNat &&& v.toNat : Nat) : Int) := by
  unfold iAnd
  show IntKind.wrap .u64 ((BitVec.ofInt 64 (u.toNat : Int) &&& BitVec.ofInt 64 (v.toNat : Int)).toNat : Int) = _
  rw [ofInt_u, ofInt_u, BitVec.toNat_and]
  have h1 := u.toNat_lt
  have h2 : u.toNat &&& v.toNat ≤ u.toNat := Nat.and_le_left
  exact wrapU (by omega) (by show ((u.toNat &&& v.toNat : Nat) : Int) < _; omega)
theorem shl_u (u : UInt64) {s : Nat} (hs : s < 64) : iShl .u64 (u.toNat : Int) (s : Int) = ((u <<< (UInt64.ofNat s)).toNat : Int) := by
  unfold iShl
  rw [Int.toNat_natCast, show min s IntKind.u64.bits = s from Nat.min_eq_left (by show s ≤ 64; omega)]
  rw [UInt64.toNat_shiftLeft, UInt64.toNat_ofNat_of_lt' (by show s < 18446744073709551616; omega), Nat.mod_eq_of_lt (show s < 64 from hs), Nat.shiftLeft_eq]
  rw [show ((2 : Int) ^ s) = ((2 ^ s : Nat) : Int) by simp]
  simp [IntKind.wrap, IntKind.signed, IntKind.bits]
theorem shr_u (u : UInt64) {s : Nat} (hs : s < 64) : iShr .u64 (u.toNat : Int) (s : Int) = ((u >>> (UInt64.ofNat s)).toNat : Int) := by
  rw [shr_nat _ _ (by omega), UInt64.toNat_shiftRight, UInt64.toNat_ofNat_of_lt' (by show s < 18446744073709551616; omega), Nat.mod_eq_of_lt (show s < 64 from hs), Nat.shiftRight_eq_div_pow]
def xorI (y11 : Int) : Int := iXor .u64 (iXor .u64 (iXor .u64 y11 (iShl .u64 y11 13)) (iShr .u64 (iXor .u64 y11 (iShl .u64 y11 13)) 7)) (iShl .u64 (iXor .u64 (iXor .u64 y11 (iShl .u64 y11 13)) (iShr .u64 (iXor .u64 y11 (iShl .u64 y11 13)) 7)) 17)
theorem xorI_ok (r : UInt64) : xorI (r.toNat : Int) = ((Sort.xorNext r).toNat : Int) := by
  unfold xorI
  rw [show iShl .u64 (r.toNat : Int) 13 = ((r <<< 13).toNat : Int) from shl_u r (s := 13) (by omega), xor_u]
  rw [show iShr .u64 ((r ^^^ r <<< 13).toNat : Int) 7 = (((r ^^^ r <<< 13) >>> 7).toNat : Int) from shr_u _ (s := 7) (by omega), xor_u]
  rw [show iShl .u64 (((r ^^^ r <<< 13) ^^^ (r ^^^ r <<< 13) >>> 7).toNat : Int) 17 = ((((r ^^^ r <<< 13) ^^^ (r ^^^ r <<< 13) >>> 7) <<< 17).toNat : Int) from shl_u _ (s := 17) (by omega), xor_u]
  rfl
end Go.Pl

set_option linter.unusedVariables false
set_option linter.unusedSimpArgs false
namespace Go.Pl
open Go Go.Ab
/-! #### breakPatterns -/
theorem pow_bits {x : Nat} (h : 1 ≤ x) : 2 ^ Sort.bitsLen x ≤ 2 * x := by
  unfold Sort.bitsLen
  rw [if_neg (by omega), Nat.pow_succ]
  have := Nat.log2_self_le (n := x) (by omega)
  omega
def otherN (len M : Nat) (r : UInt64) : Nat := if (Sort.xorNext r).toNat &&& (M - 1) ≥ len then ((Sort.xorNext r).toNat &&& (M - 1)) - len else (Sort.xorNext r).toNat &&& (M - 1)
theorem other_lt {len M : Nat} (hM : M ≤ 2 * len) (h0 : 1 ≤ len) (hM1 : 1 ≤ M) (r : UInt64) : otherN len M r < len := by
  unfold otherN
  have : (Sort.xorNext r).toNat &&& (M - 1) ≤ M - 1 := Nat.and_le_right
  split <;> omega
theorem step_ok {n : Nat} (hn : 1 ≤ n) {a b M : Nat} {d : Array Row} {r : UInt64} {ix m : Nat} (h8 : 8 ≤ b - a) (hb : b ≤ d.size) (hs : d.size < 1000000) (hM : M ≤ 2 * (b - a)) (hM1 : 1 ≤ M) (hix : ix < d.size) (hl : ix ≤ a + (b - a) / 4 * 2 + 1) :
    slices_breakPatternsCmpFunc_Value_value_Cmp_r_l5 n (a : Int) (b : Int) (M : Int) (m + 1) d.toList (r.toNat : Int) (ix : Int) = slices_breakPatternsCmpFunc_Value_value_Cmp_r_l5 n (a : Int) (b : Int) (M : Int) m (Sort.swp d ix (a + otherN (b - a) M r)).toList ((Sort.xorNext r).toNat : Int) ((ix + 1 : Nat) : Int) := by
  have e1 : IntKind.wrap .i64 ((b : Int) - (a : Int)) = ((b - a : Nat) : Int) := wv (by omega) (by omega)
  have e2 : IntKind.wrap .i64 (Int.tdiv ((b - a : Nat) : Int) 4) = (((b - a) / 4 : Nat) : Int) := by
    rw [show Int.tdiv ((b - a : Nat) : Int) 4 = (((b - a) / 4 : Nat) : Int) from rfl]; exact wv rfl (by omega)
  have m2 : IntKind.wrap .i64 ((((b - a) / 4 : Nat) : Int) * 2) = (((b - a) / 4 * 2 : Nat) : Int) := wv (by omega) (by omega)
  have i2 : IntKind.wrap .i64 ((a : Int) + (((b - a) / 4 * 2 : Nat) : Int)) = ((a + (b - a) / 4 * 2 : Nat) : Int) := wv (by omega) (by omega)
  have i3 : IntKind.wrap .i64 (((a + (b - a) / 4 * 2 : Nat) : Int) + 1) = ((a + (b - a) / 4 * 2 + 1 : Nat) : Int) := wv (by omega) (by omega)
  have hor := other_lt hM (by omega) hM1 r
  have hx := xorI_ok r
  have hv : IntKind.wrap .u64 ((M : Int) - 1) = (((UInt64.ofNat (M - 1)).toNat : Nat) : Int) := by
    rw [UInt64.toNat_ofNat_of_lt' (by show M - 1 < 18446744073709551616; omega), wrapU (by omega) (by omega)]; omega
  have ha : IntKind.wrap .i64 (iAnd .u64 (xorI (r.toNat : Int)) (IntKind.wrap .u64 ((M : Int) - 1))) = (((Sort.xorNext r).toNat &&& (M - 1) : Nat) : Int) := by
    have h1 : (Sort.xorNext r).toNat &&& (M - 1) ≤ M - 1 := Nat.and_le_right
    rw [hx, hv, and_u, UInt64.toNat_ofNat_of_lt' (by show M - 1 < 18446744073709551616; omega)]
    exact wv rfl (by omega)
  rw [slices_breakPatternsCmpFunc_Value_value_Cmp_r_l5]
  simp only [withK]
  change (bif decide ((ix : Int) ≤ (IntKind.wrap .i64 ((IntKind.wrap .i64 ((a : Int) + (IntKind.wrap .i64 ((IntKind.wrap .i64 (Int.tdiv (IntKind.wrap .i64 ((b : Int) - (a : Int))) 4)) * 2)))) + 1))) then (slices_xorshift_Next n (r.toNat : Int)).bind fun _ => bif decide (IntKind.wrap .i64 (iAnd .u64 (xorI (r.toNat : Int)) (IntKind.wrap .u64 ((M : Int) - 1))) ≥ IntKind.wrap .i64 ((b : Int) - (a : Int))) then
      (fun y20 => (idx d.toList (IntKind.wrap .i64 ((a : Int) + y20))).bind fun x22 => (idx d.toList (ix : Int)).bind fun x24 => (idx (d.toList.set (Int.toNat (ix : Int)) x22) (IntKind.wrap .i64 ((a : Int) + y20))).bind fun x26 => slices_breakPatternsCmpFunc_Value_value_Cmp_r_l5 n (a : Int) (b : Int) (M : Int) m ((d.toList.set (Int.toNat (ix : Int)) x22).set (Int.toNat (IntKind.wrap .i64 ((a : Int) + y20))) x24) (xorI (r.toNat : Int)) (IntKind.wrap .i64 ((ix : Int) + 1))) (IntKind.wrap .i64 (IntKind.wrap .i64 (iAnd .u64 (xorI (r.toNat : Int)) (IntKind.wrap .u64 ((M : Int) - 1))) - IntKind.wrap .i64 ((b : Int) - (a : Int))))
      else (fun y20 => (idx d.toList (IntKind.wrap .i64 ((a : Int) + y20))).bind fun x22 => (idx d.toList (ix : Int)).bind fun x24 => (idx (d.toList.set (Int.toNat (ix : Int)) x22) (IntKind.wrap .i64 ((a : Int) + y20))).bind fun x26 => slices_breakPatternsCmpFunc_Value_value_Cmp_r_l5 n (a : Int) (b : Int) (M : Int) m ((d.toList.set (Int.toNat (ix : Int)) x22).set (Int.toNat (IntKind.wrap .i64 ((a : Int) + y20))) x24) (xorI (r.toNat : Int)) (IntKind.wrap .i64 ((ix : Int) + 1))) (IntKind.wrap .i64 (iAnd .u64 (xorI (r.toNat : Int)) (IntKind.wrap .u64 ((M : Int) - 1)))) else some d.toList) = _
  rw [e1, e2, m2, i2, i3, dT (by omega : (ix : Int) ≤ ((a + (b - a) / 4 * 2 + 1 : Nat) : Int)), cond_true, ha]
  obtain ⟨n, rfl⟩ : ∃ k, n = k + 1 := ⟨n - 1, by omega⟩
  rw [show slices_xorshift_Next (n + 1) (r.toNat : Int) = some () from rfl, Option.bind_some]
  have fin : ∀ (o : Nat), o = otherN (b - a) M r → ((idx d.toList (IntKind.wrap .i64 ((a : Int) + (o : Int)))).bind fun x22 => (idx d.toList (ix : Int)).bind fun x24 => (idx (d.toList.set (Int.toNat (ix : Int)) x22) (IntKind.wrap .i64 ((a : Int) + (o : Int)))).bind fun x26 => slices_breakPatternsCmpFunc_Value_value_Cmp_r_l5 (n + 1) (a : Int) (b : Int) (M : Int) m ((d.toList.set (Int.toNat (ix : Int)) x22).set (Int.toNat (IntKind.wrap .i64 ((a : Int) + (o : Int)))) x24) (xorI (r.toNat : Int)) (IntKind.wrap .i64 ((ix : Int) + 1))) = slices_breakPatternsCmpFunc_Value_value_Cmp_r_l5 (n + 1) (a : Int) (b : Int) (M : Int) m (Sort.swp d ix (a + otherN (b - a) M r)).toList ((Sort.xorNext r).toNat : Int) ((ix + 1 : Nat) : Int) := by
    intro o ho
    rw [← ho] at hor ⊢
    have eo : IntKind.wrap .i64 ((a : Int) + (o : Int)) = ((a + o : Nat) : Int) := wv (by omega) (by omega)
    rw [eo, idx_arr d (by omega), idx_arr d hix, Option.bind_some, Option.bind_some, hx, wrapN (by omega)]
    exact swap_bind (d := d) (i := ix) (j := a + o) hix (by omega) (K := fun l => slices_breakPatternsCmpFunc_Value_value_Cmp_r_l5 (n + 1) (a : Int) (b : Int) (M : Int) m l ((Sort.xorNext r).toNat : Int) ((ix + 1 : Nat) : Int))
  have hand : (Sort.xorNext r).toNat &&& (M - 1) ≤ M - 1 := Nat.and_le_right
  by_cases hge : (Sort.xorNext r).toNat &&& (M - 1) ≥ b - a
  · rw [dT (by omega : (((Sort.xorNext r).toNat &&& (M - 1) : Nat) : Int) ≥ ((b - a : Nat) : Int)), cond_true]
    have eo2 : IntKind.wrap .i64 ((((Sort.xorNext r).toNat &&& (M - 1) : Nat) : Int) - ((b - a : Nat) : Int)) = ((((Sort.xorNext r).toNat &&& (M - 1)) - (b - a) : Nat) : Int) := wv (by omega) (by omega)
    rw [eo2]
    have f1 := fin (((Sort.xorNext r).toNat &&& (M - 1)) - (b - a)) (by unfold otherN; rw [if_pos hge])
    exact f1
  · rw [dF (by omega : ¬ (((Sort.xorNext r).toNat &&& (M - 1) : Nat) : Int) ≥ ((b - a : Nat) : Int)), cond_false]
    have f1 := fin ((Sort.xorNext r).toNat &&& (M - 1)) (by unfold otherN; rw [if_neg hge])
    exact f1
end Go.Pl

set_option linter.unusedVariables false
set_option linter.unusedSimpArgs false
namespace Go.Pl
open Go Go.Ab
theorem breakStep_eq (a len M : Nat) (r : UInt64) (d : Array Row) (ix : Nat) : Sort.breakStep a len M (r, d) ix = (Sort.xorNext r, Sort.swp d ix (a + otherN len M r)) := rfl
theorem breakPatterns_ok {n : Nat} (hn : 2000030 ≤ n) {a b : Nat} {d : Array Row} (hab : a ≤ b) (hb : b ≤ d.size) (hs : d.size < 1000000) (hW : AllA WRow d) :
    slices_breakPatternsCmpFunc_Value_value_Cmp_r n d.toList (a : Int) (b : Int) = some (Sort.breakPatterns d a b).toList ∧ AllA WRow (Sort.breakPatterns d a b) ∧ (Sort.breakPatterns d a b).size = d.size := by
  obtain ⟨n, rfl⟩ : ∃ k, n = k + 1 := ⟨n - 1, by omega⟩
  have e1 : IntKind.wrap .i64 ((b : Int) - (a : Int)) = ((b - a : Nat) : Int) := wv (by omega) (by omega)
  unfold slices_breakPatternsCmpFunc_Value_value_Cmp_r Sort.breakPatterns
  rw [at1_succ, e1]
  by_cases h8 : b - a ≥ 8
  · have e2 : IntKind.wrap .i64 (Int.tdiv ((b - a : Nat) : Int) 4) = (((b - a) / 4 : Nat) : Int) := by
      rw [show Int.tdiv ((b - a : Nat) : Int) 4 = (((b - a) / 4 : Nat) : Int) from rfl]; exact wv rfl (by omega)
    have m2 : IntKind.wrap .i64 ((((b - a) / 4 : Nat) : Int) * 2) = (((b - a) / 4 * 2 : Nat) : Int) := wv (by omega) (by omega)
    have i2 : IntKind.wrap .i64 ((a : Int) + (((b - a) / 4 * 2 : Nat) : Int)) = ((a + (b - a) / 4 * 2 : Nat) : Int) := wv (by omega) (by omega)
    have i3 : IntKind.wrap .i64 (((a + (b - a) / 4 * 2 : Nat) : Int) + 1) = ((a + (b - a) / 4 * 2 + 1 : Nat) : Int) := wv (by omega) (by omega)
    have i4 : IntKind.wrap .i64 (((a + (b - a) / 4 * 2 : Nat) : Int) - 1) = ((a + (b - a) / 4 * 2 - 1 : Nat) : Int) := wv (by omega) (by omega)
    have eu : IntKind.wrap .u64 ((b - a : Nat) : Int) = (((UInt64.ofNat (b - a)).toNat : Nat) : Int) := by
      rw [UInt64.toNat_ofNat_of_lt' (by show b - a < 18446744073709551616; omega), wrapU (by omega) (by omega)]
    have hM := pow_bits (x := b - a) (by omega)
    have hM1 : 1 ≤ 2 ^ Sort.bitsLen (b - a) := Nat.pow_pos (by decide)
    rw [dT (by omega : ((b - a : Nat) : Int) ≥ 8), cond_true, pow2_ok (by omega) (by omega), Option.bind_some, e2, m2, i2, i4, eu]
    have hd : (if b - a ≥ 8 then (Sort.breakStep a (b - a) (1 <<< Sort.bitsLen (b - a)) (Sort.breakStep a (b - a) (1 <<< Sort.bitsLen (b - a)) (Sort.breakStep a (b - a) (1 <<< Sort.bitsLen (b - a)) (UInt64.ofNat (b - a), d) (a + (b - a) / 4 * 2 - 1)) (a + (b - a) / 4 * 2 - 1 + 1)) (a + (b - a) / 4 * 2 - 1 + 2)).2 else d) = (Sort.breakStep a (b - a) (2 ^ Sort.bitsLen (b - a)) (Sort.breakStep a (b - a) (2 ^ Sort.bitsLen (b - a)) (Sort.breakStep a (b - a) (2 ^ Sort.bitsLen (b - a)) (UInt64.ofNat (b - a), d) (a + (b - a) / 4 * 2 - 1)) (a + (b - a) / 4 * 2 - 1 + 1)) (a + (b - a) / 4 * 2 - 1 + 2)).2 := by
      rw [if_pos h8, Nat.one_shiftLeft]
    show _ = some (if b - a ≥ 8 then (Sort.breakStep a (b - a) (1 <<< Sort.bitsLen (b - a)) (Sort.breakStep a (b - a) (1 <<< Sort.bitsLen (b - a)) (Sort.breakStep a (b - a) (1 <<< Sort.bitsLen (b - a)) (UInt64.ofNat (b - a), d) (a + (b - a) / 4 * 2 - 1)) (a + (b - a) / 4 * 2 - 1 + 1)) (a + (b - a) / 4 * 2 - 1 + 2)).2 else d).toList ∧ AllA WRow (if b - a ≥ 8 then (Sort.breakStep a (b - a) (1 <<< Sort.bitsLen (b - a)) (Sort.breakStep a (b - a) (1 <<< Sort.bitsLen (b - a)) (Sort.breakStep a (b - a) (1 <<< Sort.bitsLen (b - a)) (UInt64.ofNat (b - a), d) (a + (b - a) / 4 * 2 - 1)) (a + (b - a) / 4 * 2 - 1 + 1)) (a + (b - a) / 4 * 2 - 1 + 2)).2 else d) ∧ (if b - a ≥ 8 then (Sort.breakStep a (b - a) (1 <<< Sort.bitsLen (b - a)) (Sort.breakStep a (b - a) (1 <<< Sort.bitsLen (b - a)) (Sort.breakStep a (b - a) (1 <<< Sort.bitsLen (b - a)) (UInt64.ofNat (b - a), d) (a + (b - a) / 4 * 2 - 1)) (a + (b - a) / 4 * 2 - 1 + 1)) (a + (b - a) / 4 * 2 - 1 + 2)).2 else d).size = d.size
    rw [hd, breakStep_eq, breakStep_eq, breakStep_eq]
    have hc : a + (b - a) / 4 * 2 - 1 = a + (b - a) / 4 * 2 - 1 := rfl
    have hix : a + (b - a) / 4 * 2 - 1 + 2 < b := by omega
    have hix2 : a + (b - a) / 4 * 2 - 1 + 2 ≤ a + (b - a) / 4 * 2 + 1 := by omega
    have hstop : a + (b - a) / 4 * 2 + 1 < a + (b - a) / 4 * 2 - 1 + 3 := by omega
    revert hix hix2 hstop
    generalize a + (b - a) / 4 * 2 - 1 = ix
    intro hix hix2 hstop
    generalize hMM : 2 ^ Sort.bitsLen (b - a) = M at hM hM1
    obtain ⟨m, rfl⟩ : ∃ m, n = m + 4 := ⟨n - 4, by omega⟩
    generalize UInt64.ofNat (b - a) = r0
    have o0 := other_lt hM (by omega) hM1 r0
    have w1 := hW.swp (i := ix) (j := a + otherN (b - a) M r0) (by omega) (by omega)
    have z1 := swp_size d ix (a + otherN (b - a) M r0)
    rw [step_ok (by omega) (by omega) hb hs hM hM1 (by omega) (by omega)]
    generalize Sort.swp d ix (a + otherN (b - a) M r0) = d1 at w1 z1
    generalize Sort.xorNext r0 = r1
    have o1 := other_lt hM (by omega) hM1 r1
    have w2 := w1.swp (i := ix + 1) (j := a + otherN (b - a) M r1) (by omega) (by omega)
    have z2 := swp_size d1 (ix + 1) (a + otherN (b - a) M r1)
    rw [step_ok (by omega) (by omega) (by omega) (by omega) hM hM1 (by omega) (by omega)]
    generalize Sort.swp d1 (ix + 1) (a + otherN (b - a) M r1) = d2 at w2 z2
    generalize Sort.xorNext r1 = r2
    have o2 := other_lt hM (by omega) hM1 r2
    have w3 := w2.swp (i := ix + 2) (j := a + otherN (b - a) M r2) (by omega) (by omega)
    have z3 := swp_size d2 (ix + 2) (a + otherN (b - a) M r2)
    rw [step_ok (ix := ix + 1 + 1) (by omega) (by omega) (by omega) (by omega) hM hM1 (by omega) (by omega)]
    refine ⟨?_, w3, by show (Sort.swp d2 (ix + 2) (a + otherN (b - a) M r2)).size = _; omega⟩
    rw [slices_breakPatternsCmpFunc_Value_value_Cmp_r_l5, e1, e2, m2, i2, i3, dF (by omega : ¬ ((ix + 1 + 1 + 1 : Nat) : Int) ≤ ((a + (b - a) / 4 * 2 + 1 : Nat) : Int)), cond_false]
  · rw [dF (by omega : ¬ ((b - a : Nat) : Int) ≥ 8), cond_false]
    simp only [if_neg h8]
    exact ⟨trivial, hW, trivial⟩
end Go.Pl

set_option linter.unusedVariables false
set_option linter.unusedSimpArgs false
namespace Go.Pl
open Go Go.Ab
/-! #### pdqsort -/
theorem AllA.perm {α : Type} [Inhabited α] {W : α → Prop} {d d' : Array α} {a b : Nat} (h : AllA W d) (hb : b ≤ d.size) (hp : Sort.PermIn a b d d') : AllA W d' := by
  intro i hi
  rw [hp.1] at hi
  by_cases hc : a ≤ i ∧ i < b
  · exact Sort.permIn_all d d' a b W hb hp (fun k _ hk => h k (by omega)) i hc.1 hc.2
  · rw [hp.2.1 i (by omega)]; exact h i hi
theorem pdq_eq {α : Type} [Inhabited α] (lt : α → α → Bool) (d : Array α) (a b limit : Nat) (wb wp : Bool) : Sort.pdq lt d a b limit wb wp =
  if b - a ≤ 12 then Sort.insertionSort lt d a b else
  if limit = 0 then Sort.heapSort lt d a b else
  let d1 := if !wb then Sort.breakPatterns d a b else d
  let limit := if !wb then limit - 1 else limit
  let c := Sort.choosePivot lt d1 a b
  let d2 := if c.2 = .decreasing then Sort.reverseRange d1 a b else d1
  let pivot := if c.2 = .decreasing then (b - 1) - (c.1 - a) else c.1
  let hint := if c.2 = .decreasing then Sort.Hint.increasing else c.2
  let pi := if wb && wp && hint = .increasing then Sort.partialInsertionSort lt d2 a b else (d2, false)
  if pi.2 then pi.1 else
  let d3 := pi.1
  if a > 0 && !lt d3[a - 1]! d3[pivot]! then
    if (Sort.partitionEqual lt d3 a b pivot).1 > a ∧ (Sort.partitionEqual lt d3 a b pivot).1 ≤ b then Sort.pdq lt (Sort.partitionEqual lt d3 a b pivot).2 (Sort.partitionEqual lt d3 a b pivot).1 b limit wb wp else (Sort.partitionEqual lt d3 a b pivot).2
  else
      if a ≤ (Sort.partition lt d3 a b pivot).1 ∧ (Sort.partition lt d3 a b pivot).1 < b then
        if (Sort.partition lt d3 a b pivot).1 - a < b - (Sort.partition lt d3 a b pivot).1 then
          Sort.pdq lt (Sort.pdq lt (Sort.partition lt d3 a b pivot).2.2 a (Sort.partition lt d3 a b pivot).1 limit true true) ((Sort.partition lt d3 a b pivot).1 + 1) b limit (decide ((Sort.partition lt d3 a b pivot).1 - a ≥ (b - a) / 8)) (Sort.partition lt d3 a b pivot).2.1
        else
          Sort.pdq lt (Sort.pdq lt (Sort.partition lt d3 a b pivot).2.2 ((Sort.partition lt d3 a b pivot).1 + 1) b limit true true) a (Sort.partition lt d3 a b pivot).1 limit (decide (b - (Sort.partition lt d3 a b pivot).1 ≥ (b - a) / 8)) (Sort.partition lt d3 a b pivot).2.1
      else (Sort.partition lt d3 a b pivot).2.2 := by
  rw [Sort.pdq]
  rfl
section
variable {R : Type} {n : Nat} {a b : Nat} {d : Array Row}
theorem br_step (hn : 2000050 ≤ n) (hab : a ≤ b) (hb : b ≤ d.size) (hs : d.size < 1000000) (hW : AllA WRow d) {limit : Nat} (hl : 1 ≤ limit) (hl2 : limit < 1000000) (wb : Bool) {K : List Row → Int → Option R} :
    withK (fun k => bif (!wb) then (slices_breakPatternsCmpFunc_Value_value_Cmp_r n d.toList (a : Int) (b : Int)).bind fun x => k x (IntKind.wrap .i64 ((limit : Int) - 1)) else k d.toList (limit : Int)) K
      = K (if !wb then Sort.breakPatterns d a b else d).toList ((if !wb then limit - 1 else limit : Nat) : Int) := by
  cases wb with
  | true => rfl
  | false =>
    unfold withK
    show (slices_breakPatternsCmpFunc_Value_value_Cmp_r n d.toList (a : Int) (b : Int)).bind _ = _
    rw [(breakPatterns_ok (by omega) hab hb hs hW).1, Option.bind_some, wv (v := limit - 1) (by omega) (by omega)]
    rfl
theorem rev_step (hn : 2000050 ≤ n) (hab : a < b) (hb : b ≤ d.size) (hs : d.size < 1000000) (hW : AllA WRow d) {p : Nat} (h1 : a ≤ p) (h2 : p < b) (h : Sort.Hint) {K : List Row → Int → Int → Option R} :
    withK (fun k => bif (hintI h == 2) then (slices_reverseRangeCmpFunc_Value_value_Cmp_r n d.toList (a : Int) (b : Int)).bind fun x => k x (IntKind.wrap .i64 ((IntKind.wrap .i64 ((b : Int) - 1)) - (IntKind.wrap .i64 ((p : Int) - (a : Int))))) 1 else k d.toList (p : Int) (hintI h)) K
      = K (if h = .decreasing then Sort.reverseRange d a b else d).toList ((if h = .decreasing then (b - 1) - (p - a) else p : Nat) : Int) (hintI (if h = .decreasing then Sort.Hint.increasing else h)) := by
  cases h with
  | unknown => rfl
  | increasing => rfl
  | decreasing =>
    unfold withK
    show (slices_reverseRangeCmpFunc_Value_value_Cmp_r n d.toList (a : Int) (b : Int)).bind _ = _
    rw [(reverseRange_ok (by omega) hab hb hs hW).1, Option.bind_some, wv (x := (b : Int) - 1) (v := b - 1) (by omega) (by omega), wv (x := (p : Int) - (a : Int)) (v := p - a) (by omega) (by omega), wv (v := (b - 1) - (p - a)) (by omega) (by omega)]
    rfl
theorem hint_eq1 (h : Sort.Hint) : (hintI h == 1) = decide (h = .increasing) := by cases h <;> rfl
theorem pi_step (hn : 2000050 ≤ n) (hab : a < b) (hb : b ≤ d.size) (hs : d.size < 1000000) (hW : AllA WRow d) (wb wp : Bool) (h : Sort.Hint) {F : (List Row → Option (List Row)) → List Row × Bool → Option (List Row)} (hF : ∀ k l t, F k (l, t) = bif t then some l else k l) {K : List Row → Option (List Row)} :
    withK (fun k => bif ((wb && wp) && (hintI h == 1)) then (slices_partialInsertionSortCmpFunc_Value_value_Cmp_r n d.toList (a : Int) (b : Int)).bind (F k) else k d.toList) K
      = bif (if wb && wp && h = .increasing then Sort.partialInsertionSort rLt d a b else (d, false)).2 then some (if wb && wp && h = .increasing then Sort.partialInsertionSort rLt d a b else (d, false)).1.toList else K (if wb && wp && h = .increasing then Sort.partialInsertionSort rLt d a b else (d, false)).1.toList := by
  unfold withK
  show (bif ((wb && wp) && (hintI h == 1)) then (slices_partialInsertionSortCmpFunc_Value_value_Cmp_r n d.toList (a : Int) (b : Int)).bind (F K) else K d.toList) = _
  rw [hint_eq1]
  cases hc : (wb && wp && decide (h = .increasing)) with
  | true => rw [cond_true, if_pos rfl, (partialInsertionSort_ok (by omega) hab hb hs hW).1, Option.bind_some, hF]
  | false => rw [cond_false, if_neg (by simp)]; rfl
theorem test_step (hn : 2000050 ≤ n) (hs : d.size < 1000000) (hW : AllA WRow d) {p : Nat} (ha : a < d.size) (hp : p < d.size) {K : Bool → Option R} :
    withK (fun k => bif (decide ((a : Int) > 0)) then (idx d.toList (IntKind.wrap .i64 ((a : Int) - 1))).bind fun x92 => (idx d.toList (p : Int)).bind fun x94 => (value_Cmp n x92 x94).bind fun x96 => k (!(decide (x96 < 0))) else k false) K
      = K (decide (a > 0) && !rLt d[a - 1]! d[p]!) := by
  unfold withK
  by_cases h0 : a > 0
  · rw [dT h0, dT (by omega : (a : Int) > 0)]
    show (idx d.toList (IntKind.wrap .i64 ((a : Int) - 1))).bind _ = _
    rw [wv (v := a - 1) (by omega) (by omega), idx_arr d (by omega), Option.bind_some, idx_arr d hp, Option.bind_some, rowCmp_ok hW (by omega) hp (by omega), Option.bind_some, Bool.true_and]
    rfl
  · rw [dF h0, dF (by omega : ¬ (a : Int) > 0)]
    rfl
end
def RcOk (rc : Nat → List Row → Int → Int → Int → Option (List Row)) (n k : Nat) : Prop := ∀ (d : Array Row) (a b limit : Nat), b - a < k → a ≤ b → b ≤ d.size → d.size < 1000000 → AllA WRow d → Sort.Below rLt a b d → limit < 1000000 → rc n d.toList (a : Int) (b : Int) (limit : Int) = some (Sort.pdq rLt d a b limit true true).toList
theorem pdqL_ok (hlt : Sort.SWO rLt) {n : Nat} (hn : 2000050 ≤ n) {rc : Nat → List Row → Int → Int → Int → Option (List Row)} : ∀ (k : Nat), RcOk rc n k → ∀ (m : Nat) (d : Array Row) (a b limit : Nat) (wb wp : Bool), b - a ≤ k → k < m → a ≤ b → b ≤ d.size → d.size < 1000000 → AllA WRow d → Sort.Below rLt a b d → limit < 1000000 →
    slices_pdqsortCmpFunc_Value_value_Cmp_r_l2 n rc m d.toList (a : Int) wb wp (b : Int) (limit : Int) = some (Sort.pdq rLt d a b limit wb wp).toList := by
  intro k
  induction k using Nat.strongRecOn with
  | _ k ih =>
  intro hrc m d a b limit wb wp hk hm hab hb hs hW hB hl
  obtain ⟨m, rfl⟩ : ∃ j, m = j + 1 := ⟨m - 1, by omega⟩
  rw [slices_pdqsortCmpFunc_Value_value_Cmp_r_l2, pdq_eq, wv (x := (b : Int) - (a : Int)) (v := b - a) (by omega) (by omega)]
  by_cases h12 : b - a ≤ 12
  · rw [dT (by omega : ((b - a : Nat) : Int) ≤ 12), cond_true, if_pos h12, insertionSort_ok (by omega) hab hb hs hW, Option.bind_some]
  rw [dF (by omega : ¬ ((b - a : Nat) : Int) ≤ 12), cond_false, if_neg h12]
  by_cases h0 : limit = 0
  · rw [if_pos h0, show ((limit : Int) == 0) = true by simp [h0], cond_true, heapSort_ok (by omega) hab hb hs hW, Option.bind_some]
  rw [if_neg h0, show ((limit : Int) == 0) = false by simp [h0], cond_false]
  rw [br_step (by omega) hab hb hs hW (by omega) hl]
  have s1 : Sort.PermIn a b d (if !wb then Sort.breakPatterns d a b else d) := Sort.step_break d hab hb _
  have l1 : (if !wb then limit - 1 else limit) < 1000000 := by split <;> omega
  have e1 := s1.1
  have W1 := hW.perm hb s1
  have B1 := hB.perm hb s1
  simp only []
  generalize (if !wb then Sort.breakPatterns d a b else d) = d1 at *
  generalize (if !wb then limit - 1 else limit) = lm at *
  rw [choosePivot_ok (by omega) W1 (by omega) (by omega) (by omega), Option.bind_some]
  have c0 := Sort.choosePivot_holds rLt d1 a b (by omega)
  generalize Sort.choosePivot rLt d1 a b = c at *
  rw [rev_step (by omega) (by omega) (by omega) (by omega) W1 c0.1 c0.2]
  have s2 : Sort.PermIn a b d1 (if c.2 = .decreasing then Sort.reverseRange d1 a b else d1) := Sort.step_reverse Sort.reverseRange_holds d1 hab (by omega) _
  have p2 : a ≤ (if c.2 = .decreasing then (b - 1) - (c.1 - a) else c.1) ∧ (if c.2 = .decreasing then (b - 1) - (c.1 - a) else c.1) < b := Sort.pivot_range c0.1 c0.2 _
  have e2 := s2.1
  have W2 := W1.perm (by omega) s2
  have B2 := B1.perm (by omega) s2
  generalize (if c.2 = .decreasing then Sort.reverseRange d1 a b else d1) = d2 at *
  generalize (if c.2 = .decreasing then (b - 1) - (c.1 - a) else c.1) = p at *
  generalize (if c.2 = .decreasing then Sort.Hint.increasing else c.2) = h at *
  rw [pi_step (by omega) (by omega) (by omega) (by omega) W2 wb wp h (fun _ _ _ => rfl)]
  have s3 := (Sort.step_partial Sort.partialInsertionSort_holds hlt d2 (a := a) (b := b) (by omega) (by omega) B2 ((wb && wp && decide (h = Sort.Hint.increasing)) = true)).1
  have s3 : Sort.PermIn a b d2 (if wb && wp && h = .increasing then Sort.partialInsertionSort rLt d2 a b else (d2, false)).1 := s3
  have e3 := s3.1
  have W3 := W2.perm (by omega) s3
  have B3 := B2.perm (by omega) s3
  generalize (if wb && wp && h = .increasing then Sort.partialInsertionSort rLt d2 a b else (d2, false)) = pi at *
  obtain ⟨d3, t⟩ := pi
  cases t with
  | true => rfl
  | false =>
  simp only [cond_false] at *
  rw [if_neg (by simp)]
  rw [test_step (by omega) (by omega) W3 (by omega) (by omega)]
  cases ht : (decide (a > 0) && !rLt d3[a - 1]! d3[p]!) with
  | true =>
    rw [cond_true, if_pos rfl, (partitionEqual_ok (by omega) (by omega) (by omega) (by omega) (by omega) W3).1, Option.bind_some]
    simp only [Bool.and_eq_true, decide_eq_true_eq, Bool.not_eq_true'] at ht
    obtain ⟨g1, g2, g3, g4, g5⟩ := Sort.round_eq hlt (Sort.partitionEqual_holds rLt) (mid := (Sort.partitionEqual rLt d3 a b p).1) (d4 := (Sort.partitionEqual rLt d3 a b p).2) ht.1 p2.1 p2.2 (by omega) B3 ht.2 rfl
    rw [if_pos ⟨g1, g2⟩]
    exact ih (b - (Sort.partitionEqual rLt d3 a b p).1) (by omega) (fun d a b l hd => hrc d a b l (by omega)) m (Sort.partitionEqual rLt d3 a b p).2 _ _ _ _ _ (Nat.le_refl _) (by omega) g2 (by omega) (by omega) (partitionEqual_ok (n := n) (by omega) (by omega) (by omega) (by omega) (by omega) W3).2.1 g4 l1
  | false =>
    rw [cond_false, if_neg (by simp), (partition_ok (by omega) (by omega) (by omega) (by omega) (by omega) W3).1, Option.bind_some]
    obtain ⟨g1, g2, g3, g4, g5, g6, g7⟩ := Sort.round_part hlt (Sort.partition_holds rLt) (mid := (Sort.partition rLt d3 a b p).1) (ap := (Sort.partition rLt d3 a b p).2.1) (d4 := (Sort.partition rLt d3 a b p).2.2) p2.1 p2.2 (by omega) B3 rfl
    have W4 := (partition_ok (n := n) (by omega) (by omega) (by omega) (by omega) (by omega) W3 (p := p) (a := a) (b := b)).2.1
    rw [if_pos ⟨g1, g2⟩]
    generalize Sort.partition rLt d3 a b p = q at *
    obtain ⟨mid, ap, d4⟩ := q
    simp only [] at *
    show (bif decide (IntKind.wrap .i64 ((mid : Int) - (a : Int)) < IntKind.wrap .i64 ((b : Int) - (mid : Int))) then _ else _) = _
    have x1 : IntKind.wrap .i64 ((mid : Int) - (a : Int)) = ((mid - a : Nat) : Int) := wv (by omega) (by omega)
    have x2 : IntKind.wrap .i64 ((b : Int) - (mid : Int)) = ((b - mid : Nat) : Int) := wv (by omega) (by omega)
    have x3 : IntKind.wrap .i64 ((mid : Int) + 1) = ((mid + 1 : Nat) : Int) := wv (by omega) (by omega)
    have x4 : IntKind.wrap .i64 (Int.tdiv ((b - a : Nat) : Int) 8) = (((b - a) / 8 : Nat) : Int) := by
      rw [show Int.tdiv ((b - a : Nat) : Int) 8 = (((b - a) / 8 : Nat) : Int) from rfl]; exact wv rfl (by omega)
    have x5 : IntKind.wrap .i64 ((b : Int) - (a : Int)) = ((b - a : Nat) : Int) := wv (by omega) (by omega)
    by_cases hlt2 : mid - a < b - mid
    · rw [if_pos hlt2, x1, x2, dT (by omega : ((mid - a : Nat) : Int) < ((b - mid : Nat) : Int)), cond_true, hrc d4 a mid lm (by omega) g1 (by omega) (by omega) W4 g4 l1, Option.bind_some]
      have hp := Sort.pdq_sorts rLt hlt d4 a mid lm true true g1 (by omega) g4
      have hz := hp.1.1
      have := ih (b - (mid + 1)) (by omega) (fun d a b l hd => hrc d a b l (by omega)) m (Sort.pdq rLt d4 a mid lm true true) (mid + 1) b lm (decide (mid - a ≥ (b - a) / 8)) ap (Nat.le_refl _) (by omega) (by omega) (by omega) (by omega) (W4.perm (by omega) hp.1) (g6 _ hp.1 hp.2).1 l1
      rw [← this, x3]
      have y : decide (((mid - a : Nat) : Int) ≥ (((b - a) / 8 : Nat) : Int)) = decide (mid - a ≥ (b - a) / 8) := by
        rw [decide_eq_decide]; omega
      simp only [x1, x5, x4, y]
    · rw [if_neg hlt2, x1, x2, dF (by omega : ¬ ((mid - a : Nat) : Int) < ((b - mid : Nat) : Int)), cond_false, x3, hrc d4 (mid + 1) b lm (by omega) (by omega) (by omega) (by omega) W4 g5 l1, Option.bind_some]
      have hp := Sort.pdq_sorts rLt hlt d4 (mid + 1) b lm true true (by omega) (by omega) g5
      have hz := hp.1.1
      have := ih (mid - a) (by omega) (fun d a b l hd => hrc d a b l (by omega)) m (Sort.pdq rLt d4 (mid + 1) b lm true true) a mid lm (decide (b - mid ≥ (b - a) / 8)) ap (Nat.le_refl _) (by omega) (by omega) (by omega) (by omega) (W4.perm (by omega) hp.1) (g7 _ hp.1 hp.2).1 l1
      rw [← this]
      have y : decide (((b - mid : Nat) : Int) ≥ (((b - a) / 8 : Nat) : Int)) = decide (b - mid ≥ (b - a) / 8) := by
        rw [decide_eq_decide]; omega
      simp only [x2, x5, x4, y]
theorem pdqT_ok (hlt : Sort.SWO rLt) : ∀ (k m n : Nat), k ≤ m → 2000060 + k ≤ n → RcOk (slices_pdqsortCmpFunc_Value_value_Cmp_r_t m) n k
  | 0, m, n, _, _ => fun d a b limit h => absurd h (by omega)
  | k + 1, m, n, hm, hn => by
    intro d a b limit h hab hb hs hW hB hl
    obtain ⟨m, rfl⟩ : ∃ j, m = j + 1 := ⟨m - 1, by omega⟩
    obtain ⟨n, rfl⟩ : ∃ j, n = j + 1 := ⟨n - 1, by omega⟩
    show slices_pdqsortCmpFunc_Value_value_Cmp_r_f (slices_pdqsortCmpFunc_Value_value_Cmp_r_t m) (n + 1) _ _ _ _ = _
    unfold slices_pdqsortCmpFunc_Value_value_Cmp_r_f
    rw [at1_succ]
    have r := pdqT_ok hlt k m n (by omega) (by omega)
    exact pdqL_ok hlt (by omega) (b - a) (fun d a' b' l hd => r d a' b' l (by omega)) n d a b limit true true (Nat.le_refl _) (by omega) hab hb hs hW hB hl
theorem sortFunc_ok (hlt : Sort.SWO rLt) {n : Nat} (hn : 3000100 ≤ n) {d : Array Row} (hs : d.size < 900000) (hW : AllA WRow d) : slices_SortFunc_Value_value_Cmp_r n d.toList = some (Sort.sort rLt d).toList := by
  obtain ⟨n, rfl⟩ : ∃ k, n = k + 1 := ⟨n - 1, by omega⟩
  unfold slices_SortFunc_Value_value_Cmp_r
  rw [at1_succ, Array.length_toList, wrapU (by omega) (by omega), len_ok (by omega) (by omega), Option.bind_some]
  have hb := bitsLen_lt (x := d.size) (by omega)
  unfold slices_pdqsortCmpFunc_Value_value_Cmp_r
  have := pdqT_ok hlt (d.size + 1) n n (by omega) (by omega) d 0 d.size (Sort.bitsLen d.size) (by omega) (by omega) (by omega) (by omega) hW (.inl rfl) (by omega)
  exact congrArg (fun o => Option.bind o fun x => some x) this
end Go.Pl


set_option linter.unusedVariables false
set_option linter.unusedSimpArgs false
namespace Go.Pl
open Go Go.Ab
/-! ### Bags: how often each stands in a list -/
section
variable {α : Type} {c : α → α → Int}
def cnt (c : α → α → Int) (z : α) (l : List α) : Nat := l.countP fun w => decide (c z w = 0)
theorem cnt_cons (z w : α) (l : List α) : cnt c z (w :: l) = cnt c z l + if c z w = 0 then 1 else 0 := by
  unfold cnt; rw [List.countP_cons]; by_cases h : c z w = 0 <;> simp [h]
theorem cnt_append (z : α) (a b : List α) : cnt c z (a ++ b) = cnt c z a + cnt c z b := List.countP_append
theorem cnt_perm {a b : List α} (h : a.Perm b) (z : α) : cnt c z a = cnt c z b := h.countP_eq _
theorem Ord3.eq0 (h : Ord3 c) {x y : α} (e : c x y = 0) (z : α) : c z x = 0 ↔ c z y = 0 := by
  have a0 := h.anti x y
  have l := h.left (z := z) e
  have a1 := h.anti z x
  have a2 := h.anti z y
  omega
def Srt (c : α → α → Int) (l : List α) : Prop := l.Pairwise fun x y => ¬ c y x < 0
end
section
variable {α : Type} [Inhabited α] {lt : α → α → Bool}
theorem sort_perm (h : Sort.SWO lt) (d : Array α) : (Sort.sort lt d).toList.Perm d.toList := by
  obtain ⟨⟨h1, h2, h3⟩, _⟩ := Sort.sort_sorts lt h d
  have e1 : (Sort.sort lt d).extract 0 d.size = Sort.sort lt d := by rw [← h1]; simp
  have e2 : d.extract 0 d.size = d := by simp
  rw [e1, e2] at h3
  exact h3
theorem sort_pair (h : Sort.SWO lt) (d : Array α) : (Sort.sort lt d).toList.Pairwise fun x y => lt y x = false := by
  obtain ⟨⟨h1, _, _⟩, hs⟩ := Sort.sort_sorts lt h d
  rw [List.pairwise_iff_getElem]
  intro i j hi hj hij
  have := hs i j (Nat.zero_le _) hij (by simp at hj; omega)
  rw [getElem!_pos _ j (by simpa using hj), getElem!_pos _ i (by simpa using hi)] at this
  simpa using this
end
end Go.Pl

set_option linter.unusedVariables false
set_option linter.unusedSimpArgs false
namespace Go.Pl
open Go Go.Ab
/-! ### Floats that compare the same are the same -/
end Go.Pl

set_option linter.unusedVariables false
set_option linter.unusedSimpArgs false
set_option maxRecDepth 100000
namespace Go.Pl
open Go Go.Ab
abbrev V := api_Value
abbrev WVs : Option (List V) → Prop := wSl W_api_Value
/-! ### Which values are of a column -/
def nn (l : List V) : List V := l.filter fun v => v.fKind != 0
def vldF (k : Int) : List V → Bool
  | [] => true
  | v :: r => vRight v && (bif v.fKind == 0 then vldF k r else (k == 0 || k == v.fKind) && vldF v.fKind r)
theorem vld_right : ∀ {l : List V} {k : Int}, vldF k l = true → ∀ v, v ∈ l → vRight v = true
  | [], _, _, v, hv => by cases hv
  | x :: l, k, h, v, hv => by
    rw [vldF, Bool.and_eq_true] at h
    rcases List.mem_cons.1 hv with rfl | hv
    · exact h.1
    · cases hk : x.fKind == 0 with
      | true => rw [hk, cond_true] at h; exact vld_right h.2 v hv
      | false => rw [hk, cond_false, Bool.and_eq_true] at h; exact vld_right h.2.2 v hv
theorem nn_cons (x : V) (l : List V) : nn (x :: l) = bif x.fKind == 0 then nn l else x :: nn l := by
  unfold nn
  rw [List.filter_cons]
  cases hk : x.fKind == 0 with
  | true => rw [show (x.fKind != 0) = false by simpa using hk]; rfl
  | false => rw [show (x.fKind != 0) = true by simpa using hk]; rfl
def pls (l : List V) : List V := (nn l).map vP
def apO (o : Option (List V)) (xs : List V) : Option (List V) := if xs = [] then o else some (sll o ++ xs)
theorem apO_nil (o : Option (List V)) : apO o [] = o := if_pos rfl
theorem apO_cons (o : Option (List V)) (x : V) (xs : List V) : apO o (x :: xs) = apO (some (sll o ++ [x])) xs := by
  unfold apO
  rw [if_neg (by simp)]
  by_cases h : xs = []
  · subst h; rw [if_pos rfl]
  · rw [if_neg h, sll_some, List.append_assoc]; rfl
/-- Of what was seen: the values, and their kind. -/
def OutK (o : Option (List V)) (k : Int) : Prop := (o = none ∧ k = 0) ∨ ∃ y ys, o = some (y :: ys) ∧ y.fKind = k ∧ k ≠ 0
abbrev SortR := Option (List V) × Bool
theorem sorted_loop {n : Nat} (hn : 10 ≤ n) {a : Option (List V)} (ha : WVs a) {K : Option (List V) → Option SortR} : ∀ (l : List V) (m : Nat) (p : List V) (o : Option (List V)) (k : Int), sll a = p ++ l → OutK o k → (sll o).length ≤ p.length → l.length < m →
    hist_sorted_l3 n a K m o (p.length : Int) = if vldF k l = true then K (apO o (pls l)) else some (none, false)
  | [], m, p, o, k, he, ho, _, hm => by
    obtain ⟨m, rfl⟩ : ∃ j, m = j + 1 := ⟨m - 1, by omega⟩
    rw [List.append_nil] at he
    rw [show vldF k [] = true from rfl, if_pos rfl, show pls [] = [] from rfl, apO_nil]
    cases o <;> rw [hist_sorted_l3, he, dF (by omega), cond_false]
  | x :: l, m, p, o, k, he, ho, hlo, hm => by
    obtain ⟨m, rfl⟩ : ∃ j, m = j + 1 := ⟨m - 1, by omega⟩
    have hlen : (sll a).length = p.length + (l.length + 1) := by rw [he]; simp
    have ha1 := ha.1
    rw [List.length_cons] at hm
    have hx := ha.2 x (by rw [he]; simp)
    have hix : idx (sll a) (p.length : Int) = some x := by rw [he]; exact idx_app p x l
    have he' : sll a = (p ++ [x]) ++ l := by rw [he]; simp
    have hl' : (p ++ [x]).length = p.length + 1 := by simp
    rw [vldF]
    rcases ho with ⟨rfl, rfl⟩ | ⟨y, ys, rfl, hy, hk0⟩
    · rw [hist_sorted_l3, dT (by omega), cond_true, hix, Option.bind_some, value_Right_ok x (by omega), Option.bind_some, wrapN (by omega)]
      cases hr : vRight x with
      | false => simp
      | true =>
        rw [Bool.not_true, cond_false, Bool.true_and]
        cases hk : x.fKind == 0 with
        | true =>
          rw [cond_true, cond_true]
          have := sorted_loop hn ha (K := K) l m (p ++ [x]) none 0 he' (.inl ⟨rfl, rfl⟩) (by show 0 ≤ _; omega) (by omega)
          rw [hl'] at this
          rw [this]
          unfold pls
          rw [nn_cons, hk]; rfl
        | false =>
          have hk' : x.fKind ≠ 0 := by simpa using hk
          rw [cond_false, cond_false, value_Plain_ok hx (by omega), Option.bind_some, ckA_ok (by simp) (by omega), Option.bind_some, show ((0 : Int) == 0 || (0 : Int) == x.fKind) = true by simp, Bool.true_and]
          have := sorted_loop hn ha (K := K) l m (p ++ [x]) (some [vP x]) x.fKind he' (.inr ⟨vP x, [], rfl, vP_kind hr, hk'⟩) (by show 1 ≤ _; rw [hl']; omega) (by omega)
          rw [hl'] at this
          refine Eq.trans this ?_
          have e : pls (x :: l) = vP x :: pls l := by unfold pls; rw [nn_cons, hk]; rfl
          rw [e, apO_cons]
          rfl
    · rw [sll_some] at hlo
      rw [hist_sorted_l3, dT (by omega), cond_true, hix, Option.bind_some, value_Right_ok x (by omega), Option.bind_some, wrapN (by omega)]
      cases hr : vRight x with
      | false => simp
      | true =>
        rw [Bool.not_true, cond_false, Bool.true_and]
        cases hk : x.fKind == 0 with
        | true =>
          rw [cond_true, cond_true]
          have := sorted_loop hn ha (K := K) l m (p ++ [x]) (some (y :: ys)) k he' (.inr ⟨y, ys, rfl, hy, hk0⟩) (by rw [hl', sll_some]; omega) (by omega)
          rw [hl'] at this
          rw [this]
          unfold pls
          rw [nn_cons, hk]; rfl
        | false =>
          have hk' : x.fKind ≠ 0 := by simpa using hk
          rw [cond_false, cond_false, dT (by rw [List.length_cons]; omega), cond_true, show idx (y :: ys) 0 = some y from rfl, Option.bind_some, hy]
          have hkk : (k == 0 || k == x.fKind) = (k == x.fKind) := by
            rw [show (k == 0) = false by simpa using hk0]; rfl
          rw [hkk]
          cases hkx : k == x.fKind with
          | false =>
            rw [show (k != x.fKind) = true by show (!(k == x.fKind)) = true; rw [hkx]; rfl, cond_true]; rfl
          | true =>
            have hkx' : k = x.fKind := by simpa using hkx
            rw [show (k != x.fKind) = false by show (!(k == x.fKind)) = false; rw [hkx]; rfl, cond_false, value_Plain_ok hx (by omega), Option.bind_some, ckA_ok (by rw [List.length_append, List.length_singleton]; omega) (by omega), Option.bind_some, Bool.true_and]
            have := sorted_loop hn ha (K := K) l m (p ++ [x]) (some ((y :: ys) ++ [vP x])) x.fKind he' (.inr ⟨y, ys ++ [vP x], rfl, by rw [hy, hkx'], hk'⟩) (by rw [hl', sll_some, List.length_append, List.length_singleton]; omega) (by omega)
            rw [hl'] at this
            refine Eq.trans this ?_
            have e : pls (x :: l) = vP x :: pls l := by unfold pls; rw [nn_cons, hk]; rfl
            rw [e, apO_cons]
            rfl
def srtL (l : List V) : List V := (Sort.sort rLt l.toArray).toList
def srtO (l : List V) : Option (List V) := if l = [] then none else some (srtL l)
theorem rLtV_ok : Sort.SWO rLt := vCmp_ord.swo
theorem sortNilV_ok {n : Nat} (h : 3000100 ≤ n) : slices_SortFunc_Value_value_Cmp_nil n = some () := by
  obtain ⟨n, rfl⟩ : ∃ k, n = k + 5 := ⟨n - 5, by omega⟩
  rfl
theorem pls_W {l : List V} (hW : ∀ v, v ∈ l → W_api_Value v) (hr : ∀ v, v ∈ l → vRight v = true) : ∀ p, p ∈ pls l → CanV p := by
  intro p hp
  unfold pls nn at hp
  obtain ⟨v, hv, rfl⟩ := List.mem_map.1 hp
  have := (List.mem_filter.1 hv).1
  exact can_vP (hW v this) (hr v this)
theorem pls_len (l : List V) : (pls l).length ≤ l.length := by
  unfold pls nn
  rw [List.length_map]
  exact List.length_filter_le _ _
theorem hist_sorted_ok {a : Option (List V)} (ha : WVs a) (hl : (sll a).length < 900000) {n : Nat} (h : 3000200 ≤ n) : hist_sorted n a = some (if vldF 0 (sll a) = true then (srtO (pls (sll a)), true) else (none, false)) := by
  obtain ⟨n, rfl⟩ : ∃ k, n = k + 1 := ⟨n - 1, by omega⟩
  unfold hist_sorted
  rw [at1_succ]
  unfold withK
  simp only []
  have := fun K => sorted_loop (n := n) (K := K) (by omega) ha (sll a) n [] none 0 rfl (.inl ⟨rfl, rfl⟩) (Nat.le_refl _) (by omega)
  refine Eq.trans (this _) ?_
  cases hv : vldF 0 (sll a) with
  | false => rfl
  | true =>
    rw [if_pos rfl, if_pos rfl]
    by_cases h0 : pls (sll a) = []
    · rw [h0, apO_nil]
      show (slices_SortFunc_Value_value_Cmp_nil n).bind (fun _ => some (none, true)) = _
      rw [sortNilV_ok (by omega)]; rfl
    · unfold apO srtO
      rw [if_neg h0, if_neg h0]
      show (slices_SortFunc_Value_value_Cmp_r n ([] ++ pls (sll a))).bind (fun x7 => some (some x7, true)) = _
      rw [List.nil_append]
      have hc := pls_W ha.2 (vld_right hv)
      have hle := pls_len (sll a)
      have := sortFunc_ok rLtV_ok (n := n) (by omega) (d := (pls (sll a)).toArray) (by simp; omega) (fun i hi => by
        rw [getElem!_pos _ i hi]
        exact can_W (hc _ (by simp)))
      rw [show slices_SortFunc_Value_value_Cmp_r n (pls (sll a)) = _ from this]
      rfl
theorem srt_perm (l : List V) : (srtL l).Perm l := sort_perm rLtV_ok l.toArray
theorem srt_srt (l : List V) : Srt vCmp (srtL l) := by
  refine (sort_pair rLtV_ok l.toArray).imp fun {x y} h => ?_
  have : decide (vCmp y x < 0) = false := h
  simpa using this
/-! ### The document's sorting -/
/-! ### Both are the same, but for a NaN's form -/
end Go.Pl

set_option linter.unusedVariables false
set_option linter.unusedSimpArgs false
set_option maxRecDepth 100000
namespace Go.Pl
open Go Go.Ab
/-! ### The buckets of a sorted list -/
def sm (x y : V) : Bool := vCmp x y == 0
theorem sm_comm (x y : V) : sm x y = sm y x := by
  unfold sm
  have := vCmp_ord.anti x y
  rw [Bool.eq_iff_iff, beq_iff_eq, beq_iff_eq]; omega
/-- How many elements one bucket takes more: of c that it has, behind one. -/
def jmp (N : Nat) : Nat → V → List V → Nat
  | _, _, [] => 0
  | c, p, x :: l => if N ≤ c ∧ sm p x = false then 0 else jmp N (c + 1) x l + 1
theorem jmp_le (N : Nat) : ∀ (l : List V) (c : Nat) (p : V), jmp N c p l ≤ l.length
  | [], _, _ => Nat.le_refl _
  | x :: l, c, p => by
    rw [jmp]
    split
    · exact Nat.zero_le _
    · have := jmp_le N l (c + 1) x; simp; omega
/-- How many unlike ones. -/
def dst : V → List V → Int
  | _, [] => 0
  | p, x :: l => (if sm p x = true then 0 else 1) + dst x l
theorem dst_range : ∀ (l : List V) (p : V), 0 ≤ dst p l ∧ dst p l ≤ l.length
  | [], _ => by simp [dst]
  | x :: l, p => by
    have := dst_range l x
    rw [dst, List.length_cons]
    split <;> omega
def lastD (p : V) : List V → V
  | [] => p
  | x :: l => lastD x l
theorem lastD_eq : ∀ (l : List V) (p : V), (p :: l)[l.length]? = some (lastD p l)
  | [], p => rfl
  | x :: l, p => by
    rw [lastD, ← lastD_eq l x]
    simp
/-- The buckets, with fuel. -/
def bl (N : Nat) : Nat → List V → List HB
  | 0, _ => []
  | _, [] => []
  | f + 1, x :: l => ⟨x, lastD x (l.take (jmp N 1 x l)), ((jmp N 1 x l + 1 : Nat) : Int), 1 + dst x (l.take (jmp N 1 x l))⟩ :: bl N f (l.drop (jmp N 1 x l))
theorem bl_fuel (N : Nat) : ∀ (f g : Nat) (l : List V), l.length ≤ f → l.length ≤ g → bl N f l = bl N g l
  | 0, 0, l, _, _ => rfl
  | 0, g + 1, l, h, _ => by
    have : l = [] := List.eq_nil_of_length_eq_zero (by omega)
    subst this; rfl
  | f + 1, 0, l, _, h => by
    have : l = [] := List.eq_nil_of_length_eq_zero (by omega)
    subst this; rfl
  | f + 1, g + 1, [], _, _ => rfl
  | f + 1, g + 1, x :: l, hf, hg => by
    rw [List.length_cons] at hf hg
    rw [bl, bl, bl_fuel N f g _ (by rw [List.length_drop]; omega) (by rw [List.length_drop]; omega)]
/-! #### The document's way: one by one -/
def blT (N : Nat) (s : List V) : List HB := bl N s.length s
theorem shareN_le {n B : Nat} (hB : 1 ≤ B) : (n + B - 1) / B ≤ n := by
  rcases Nat.eq_zero_or_pos n with h | h
  · subst h; rw [Nat.div_eq_of_lt (by omega)]; exact Nat.le_refl _
  · refine Nat.div_le_of_le_mul ?_
    obtain ⟨t, rfl⟩ : ∃ t, n = t + 1 := ⟨n - 1, by omega⟩
    rw [Nat.mul_add]
    have : t ≤ B * t := Nat.le_mul_of_pos_left t (by omega)
    omega
end Go.Pl

set_option linter.unusedVariables false
set_option linter.unusedSimpArgs false
set_option maxRecDepth 100000
namespace Go.Pl
open Go Go.Ab
def resO {α : Type} (f : HB → α) (N : Nat) (s : List V) : Option (List α) := if s = [] then none else some ((blT N s).map f)
def bad (a : Option (List V)) (B : Int) : Bool := (decide (B < 1) || decide (B > 50)) || decide (((sll a).length : Int) > 400)
/-! ### The program's way -/
theorem jmp_skip (N : Nat) : ∀ (t c : Nat) (p : V) (l : List V), t ≤ l.length → c + t ≤ N → jmp N c p l = t + jmp N (c + t) (lastD p (l.take t)) (l.drop t)
  | 0, c, p, l, _, _ => by simp [lastD]
  | t + 1, c, p, [], h, _ => by simp at h
  | t + 1, c, p, x :: l, h, hN => by
    rw [List.length_cons] at h
    rw [jmp, if_neg (by omega), jmp_skip N t (c + 1) x l (by omega) (by omega), List.take_succ_cons, List.drop_succ_cons, lastD, show c + 1 + t = c + (t + 1) by omega]
    omega
theorem cut_ext {n : Nat} (hn : 10 ≤ n) {s : Option (List V)} (hs : WVs s) (hl : (sll s).length ≤ 1000) {N : Nat} {K : Int → Option HB} : ∀ (l : List V) (m : Nat) (p : List V) (q : V), sll s = p ++ q :: l → (N ≤ p.length + 1 ∨ l = []) → l.length < m →
    hist_cut_l2 n s K m ((p.length + 1 : Nat) : Int) = K ((p.length + 1 + jmp N (p.length + 1) q l : Nat) : Int)
  | [], m, p, q, he, _, hm => by
    obtain ⟨m, rfl⟩ : ∃ j, m = j + 1 := ⟨m - 1, by omega⟩
    have hlen : (sll s).length = p.length + 1 := by rw [he]; simp
    rw [hist_cut_l2, dF (by omega), cond_false, jmp]
  | x :: l, m, p, q, he, hN, hm => by
    obtain ⟨m, rfl⟩ : ∃ j, m = j + 1 := ⟨m - 1, by omega⟩
    have hlen : (sll s).length = p.length + (l.length + 2) := by rw [he]; simp
    rw [List.length_cons] at hm
    have hN' : N ≤ p.length + 1 := by
      rcases hN with h | h
      · exact h
      · cases h
    have he' : sll s = (p ++ [q]) ++ x :: l := by rw [he]; simp
    have hl' : (p ++ [q]).length = p.length + 1 := by simp
    have hq := hs.2 q (by rw [he]; simp)
    have hx := hs.2 x (by rw [he]; simp)
    have i1 : idx (sll s) ((p.length + 1 : Nat) : Int) = some x := by rw [he', ← hl']; exact idx_app _ x l
    have i0 : idx (sll s) ((p.length : Nat) : Int) = some q := by rw [he]; exact idx_app p q (x :: l)
    have sv : value_Same n x q = some (sm q x) := by
      obtain ⟨n, rfl⟩ : ∃ k, n = k + 1 := ⟨n - 1, by omega⟩
      unfold value_Same
      rw [at1_succ, value_Cmp_ok hx hq (by omega), Option.bind_some, sm_comm]; rfl
    rw [hist_cut_l2, dT (by omega), cond_true, i1, Option.bind_some, wv (x := ((p.length + 1 : Nat) : Int) - 1) (v := p.length) (by omega) (by omega), i0, Option.bind_some, sv, Option.bind_some, jmp]
    cases hsm : sm q x with
    | false => rw [cond_false, if_pos ⟨hN', rfl⟩]
    | true =>
      rw [cond_true, if_neg (by simp), wv (x := ((p.length + 1 : Nat) : Int) + 1) (v := p.length + 1 + 1) (by omega) (by omega)]
      have := cut_ext hn hs hl (N := N) (K := K) l m (p ++ [q]) x he' (.inl (by rw [hl']; omega)) (by omega)
      rw [hl'] at this
      rw [this]
      congr 2
      omega
theorem cut_dst {n : Nat} (hn : 10 ≤ n) {s : Option (List V)} (hs : WVs s) (hl : (sll s).length ≤ 1000) {k : Nat} {K : Int → Option HB} : ∀ (r : List V) (m : Nat) (p : List V) (q : V) (t : List V) (d : Int), sll s = p ++ q :: (r ++ t) → k = p.length + 1 + r.length → 0 ≤ d → d ≤ p.length + 1 → r.length < m →
    hist_cut_l6 n s (k : Int) K m d ((p.length + 1 : Nat) : Int) = K (d + dst q r)
  | [], m, p, q, t, d, he, hk, h0, h1, hm => by
    obtain ⟨m, rfl⟩ : ∃ j, m = j + 1 := ⟨m - 1, by omega⟩
    rw [List.length_nil] at hk
    rw [hist_cut_l6, dF (by omega), cond_false, dst, Int.add_zero]
  | x :: r, m, p, q, t, d, he, hk, h0, h1, hm => by
    obtain ⟨m, rfl⟩ : ∃ j, m = j + 1 := ⟨m - 1, by omega⟩
    rw [List.length_cons] at hk hm
    have hlen : (sll s).length = p.length + (r.length + t.length + 2) := by rw [he]; simp
    have he' : sll s = (p ++ [q]) ++ x :: (r ++ t) := by rw [he]; simp
    have hl' : (p ++ [q]).length = p.length + 1 := by simp
    have hq := hs.2 q (by rw [he]; simp)
    have hx := hs.2 x (by rw [he]; simp)
    have i1 : idx (sll s) ((p.length + 1 : Nat) : Int) = some x := by rw [he', ← hl']; exact idx_app _ x (r ++ t)
    have i0 : idx (sll s) ((p.length : Nat) : Int) = some q := by rw [he]; exact idx_app p q (x :: (r ++ t))
    have sv : value_Same n x q = some (sm q x) := by
      obtain ⟨n, rfl⟩ : ∃ k, n = k + 1 := ⟨n - 1, by omega⟩
      unfold value_Same
      rw [at1_succ, value_Cmp_ok hx hq (by omega), Option.bind_some, sm_comm]; rfl
    rw [hist_cut_l6, dT (by omega), cond_true, i1, Option.bind_some, wv (x := ((p.length + 1 : Nat) : Int) - 1) (v := p.length) (by omega) (by omega), i0, Option.bind_some, sv, Option.bind_some, wv (x := ((p.length + 1 : Nat) : Int) + 1) (v := p.length + 1 + 1) (by omega) (by omega), dst]
    have ih := fun d h0 h1 => cut_dst hn hs hl (k := k) (K := K) r m (p ++ [q]) x t d he' (by rw [hl']; omega) h0 h1 (by omega)
    rw [hl'] at ih
    cases hsm : sm q x with
    | true => rw [Bool.not_true, cond_false, if_pos rfl, ih d h0 (by omega), Int.zero_add]
    | false => rw [Bool.not_false, cond_true, if_neg (by simp), wrapI (x := d + 1) (by omega) (by omega), ih (d + 1) (by omega) (by omega), Int.add_assoc]
theorem cut_ok {n : Nat} (hn : 2000 ≤ n) {s : Option (List V)} (hs : WVs s) (hl : (sll s).length ≤ 1000) {N : Nat} (hN : 1 ≤ N) {x : V} {l : List V} (he : sll s = x :: l) (hN2 : N ≤ 100000) :
    hist_cut n s (N : Int) = some ⟨x, lastD x (l.take (jmp N 1 x l)), ((jmp N 1 x l + 1 : Nat) : Int), 1 + dst x (l.take (jmp N 1 x l))⟩ := by
  obtain ⟨n, rfl⟩ : ∃ k, n = k + 1 := ⟨n - 1, by omega⟩
  have hlen : (sll s).length = l.length + 1 := by rw [he]; simp
  have hj := jmp_le N l 1 x
  unfold hist_cut
  simp only [at1_succ, withK]
  -- the first so many
  obtain ⟨t, ht⟩ : ∃ t, t = min N (l.length + 1) - 1 := ⟨_, rfl⟩
  have e0 : (if ((sll s).length : Int) < (N : Int) then ((sll s).length : Int) else (N : Int)) = ((t + 1 : Nat) : Int) := by
    rw [hlen]; split <;> omega
  have htl : t ≤ l.length := by omega
  have hsk := jmp_skip N t 1 x l htl (by omega)
  have hsplit : sll s = ((x :: l).take t) ++ (lastD x (l.take t)) :: l.drop t := by
    rw [he]
    have h1 : (x :: l).take t ++ (x :: l).drop t = x :: l := List.take_append_drop t (x :: l)
    have h2 : (x :: l).drop t = lastD x (l.take t) :: l.drop t := by
      have hlt : t < (x :: l).length := by rw [List.length_cons]; omega
      rw [List.drop_eq_getElem_cons hlt]
      congr 1
      have := lastD_eq (l.take t) x
      rw [List.length_take, Nat.min_eq_left htl] at this
      have e : (x :: l.take t)[t]? = (x :: l)[t]? := by
        cases t with
        | zero => rfl
        | succ t => simp [List.getElem?_take]
      rw [e, List.getElem?_eq_getElem hlt] at this
      exact Option.some.inj this
    rw [h2] at h1
    exact h1.symm
  have hpl : ((x :: l).take t).length = t := by rw [List.length_take, List.length_cons]; omega
  have hext := fun K => cut_ext (n := n) (by omega) hs hl (N := N) (K := K) (l.drop t) n ((x :: l).take t) (lastD x (l.take t)) hsplit (by
    rw [hpl]
    by_cases c : N ≤ t + 1
    · exact .inl c
    · right
      exact List.drop_eq_nil_of_le (by omega)) (by rw [List.length_drop]; omega)
  rw [hpl] at hext
  rw [e0, hext]
  have ek : t + 1 + jmp N (t + 1) (lastD x (l.take t)) (l.drop t) = jmp N 1 x l + 1 := by
    rw [hsk, show 1 + t = t + 1 by omega]; omega
  rw [ek]
  generalize jmp N 1 x l = j at *
  have i0 : idx (sll s) 0 = some x := by rw [he]; rfl
  have i1 : idx (sll s) ((j : Nat) : Int) = some (lastD x (l.take j)) := by
    have hlt : j < (x :: l).length := by rw [List.length_cons]; omega
    rw [he, idx_nat]
    have := lastD_eq (l.take j) x
    rw [List.length_take, Nat.min_eq_left hj] at this
    rw [← this]
    cases j with
    | zero => rfl
    | succ j => simp [List.getElem?_take]
  rw [i0, Option.bind_some, wv (x := ((j + 1 : Nat) : Int) - 1) (v := j) (by omega) (by omega), i1, Option.bind_some]
  have hd := cut_dst (n := n) (by omega) hs hl (k := j + 1) (K := fun y8 => some ⟨x, lastD x (l.take j), ((j + 1 : Nat) : Int), y8⟩) (l.take j) n [] x (l.drop j) 1 (by rw [he, List.take_append_drop]; rfl) (by rw [List.length_take, List.length_nil]; omega) (by omega) (by show (1 : Int) ≤ 0 + 1; omega) (by rw [List.length_take]; omega)
  exact hd
def blO (N : Nat) (o : Option (List HB)) (s : List V) : Option (List HB) := if s = [] then o else some (sll o ++ blT N s)
theorem build_loop {n : Nat} (hn : 2000 ≤ n) {x2 : Option (List V) × Bool} {B N : Nat} (hB1 : 1 ≤ B) (hB : B ≤ 50) (hx2 : (sll x2.1).length ≤ 1000) (hN : N = ((sll x2.1).length + B - 1) / B) (hN1 : (sll x2.1) ≠ [] → 1 ≤ N) {K : Option (List HB) → Option (Option (List HB) × Int)} :
    ∀ (k m : Nat) (y : Option (List V)) (o : Option (List HB)), (sll y).length ≤ k → WVs y → (sll y).length ≤ (sll x2.1).length → (sll o).length + (sll y).length ≤ 1000 → k < m →
      hist_Build_l8 n (B : Int) x2 K m y o = K (blO N o (sll y)) := by
  have hNB : N ≤ 1000 := by rw [hN]; exact Nat.le_trans (shareN_le hB1) hx2
  have eN : IntKind.wrap .i64 (Int.tdiv (IntKind.wrap .i64 ((IntKind.wrap .i64 (((sll x2.1).length : Int) + (B : Int))) - 1)) (B : Int)) = (N : Int) := by
    rw [wv (x := ((sll x2.1).length : Int) + (B : Int)) (v := (sll x2.1).length + B) (by omega) (by omega), wv (x := (((sll x2.1).length + B : Nat) : Int) - 1) (v := (sll x2.1).length + B - 1) (by omega) (by omega)]
    rw [show Int.tdiv (((sll x2.1).length + B - 1 : Nat) : Int) (B : Int) = ((((sll x2.1).length + B - 1) / B : Nat) : Int) from rfl, ← hN]
    exact wv rfl (by omega)
  intro k
  induction k with
  | zero =>
    intro m y o hk hy hle ho hm
    obtain ⟨m, rfl⟩ : ∃ j, m = j + 1 := ⟨m - 1, by omega⟩
    have h0 : sll y = [] := List.eq_nil_of_length_eq_zero (by omega)
    unfold blO
    rw [if_pos h0]
    cases o <;> rw [hist_Build_l8, h0, dF (by simp), cond_false]
  | succ k ih =>
    intro m y o hk hy hle ho hm
    obtain ⟨m, rfl⟩ : ∃ j, m = j + 1 := ⟨m - 1, by omega⟩
    cases hs : sll y with
    | nil =>
      unfold blO
      rw [if_pos rfl]
      cases o <;> rw [hist_Build_l8, hs, dF (by simp), cond_false]
    | cons x l =>
      have hN1' : 1 ≤ N := hN1 (by intro e; rw [e, hs] at hle; simp at hle)
      have hc := cut_ok hn hy (by omega) hN1' hs (by omega)
      have hj := jmp_le N l 1 x
      rw [hs, List.length_cons] at hk hle ho
      have hkb : ckB ((jmp N 1 x l + 1 : Nat) : Int) ((sll y).length : Int) ((sll y).length : Int) = some () := by
        unfold ckB; rw [hs, List.length_cons, if_pos (by omega)]
      have hsub : sll (subSl y ((jmp N 1 x l + 1 : Nat) : Int) ((sll y).length : Int)) = l.drop (jmp N 1 x l) := by
        rw [sll_sub, hs, Int.toNat_natCast, Int.toNat_natCast, List.drop_succ_cons]
        exact List.take_of_length_le (by rw [List.length_drop, List.length_cons]; omega)
      have hW : WVs (subSl y ((jmp N 1 x l + 1 : Nat) : Int) ((sll y).length : Int)) := ⟨by rw [hsub, List.length_drop]; have := hy.1; rw [hs, List.length_cons] at this; omega, fun v hv => by
        rw [hsub] at hv
        exact hy.2 v (by rw [hs]; exact List.mem_cons_of_mem _ (List.mem_of_mem_drop hv))⟩
      have step : hist_Build_l8 n (B : Int) x2 K (m + 1) y o = hist_Build_l8 n (B : Int) x2 K m (subSl y ((jmp N 1 x l + 1 : Nat) : Int) ((sll y).length : Int)) (some (sll o ++ [⟨x, lastD x (l.take (jmp N 1 x l)), ((jmp N 1 x l + 1 : Nat) : Int), 1 + dst x (l.take (jmp N 1 x l))⟩])) := by
        have hpos : ((sll y).length : Int) > 0 := by rw [hs, List.length_cons]; omega
        cases o with
        | none =>
          rw [hist_Build_l8, dT hpos, cond_true, eN, hc, Option.bind_some, ckA_ok (by simp) (by omega), Option.bind_some]
          simp only []
          rw [hkb]; rfl
        | some o =>
          rw [sll_some] at ho
          rw [hist_Build_l8, dT hpos, cond_true, eN, hc, Option.bind_some, ckA_ok (by rw [List.length_append, List.length_singleton]; omega) (by omega), Option.bind_some]
          simp only []
          rw [hkb]; rfl
      rw [step, ih m _ _ (by rw [hsub, List.length_drop]; omega) hW (by rw [hsub, List.length_drop]; omega) (by rw [hsub, List.length_drop, sll_some, List.length_append, List.length_singleton]; omega) (by omega), hsub]
      congr 1
      unfold blO
      rw [if_neg (List.cons_ne_nil x l)]
      have eb : blT N (x :: l) = ⟨x, lastD x (l.take (jmp N 1 x l)), ((jmp N 1 x l + 1 : Nat) : Int), 1 + dst x (l.take (jmp N 1 x l))⟩ :: blT N (l.drop (jmp N 1 x l)) := by
        unfold blT
        rw [List.length_cons, bl]
        congr 1
        exact bl_fuel N _ _ _ (by rw [List.length_drop]; omega) (by rw [List.length_drop]; omega)
      rw [eb]
      by_cases h0 : l.drop (jmp N 1 x l) = []
      · rw [if_pos h0, h0]; rfl
      · rw [if_neg h0, sll_some, List.append_assoc]; rfl
theorem hist_Build_ok {a : Option (List V)} (ha : WVs a) {B : Int} {n : Nat} (h : 3000300 ≤ n) :
    hist_Build n a B = some (if bad a B = true ∨ vldF 0 (sll a) = false then (none, 2) else (resO id (((pls (sll a)).length + B.toNat - 1) / B.toNat) (srtL (pls (sll a))), 0)) := by
  obtain ⟨n, rfl⟩ : ∃ k, n = k + 1 := ⟨n - 1, by omega⟩
  have ha1 := ha.1
  unfold hist_Build
  rw [at1_succ]
  show (bif bad a B then _ else _) = _
  cases hb : bad a B with
  | true => simp
  | false =>
    rw [cond_false]
    have hb' : ¬ B < 1 ∧ ¬ B > 50 ∧ ¬ ((sll a).length : Int) > 400 := by
      unfold bad at hb
      simpa [Bool.or_eq_false_iff, and_assoc] using hb
    rw [hist_sorted_ok ha (by omega) (by omega), Option.bind_some]
    cases hv : vldF 0 (sll a) with
    | false => rfl
    | true =>
      rw [if_pos rfl, if_neg (by simp)]
      simp only [Bool.not_true, cond_false]
      have hz : ckZ B = some () := by unfold ckZ; rw [if_neg (by omega)]
      rw [hz, Option.bind_some]
      obtain ⟨b, rfl⟩ : ∃ b : Nat, B = (b : Int) := ⟨B.toNat, by omega⟩
      rw [Int.toNat_natCast]
      have hpl := pls_len (sll a)
      have hcan := pls_W ha.2 (vld_right hv)
      have hsl : (srtL (pls (sll a))).length = (pls (sll a)).length := (srt_perm _).length_eq
      have so : sll (srtO (pls (sll a))) = srtL (pls (sll a)) := by
        unfold srtO
        split
        · rename_i e
          have : (srtL (pls (sll a))).length = 0 := by rw [hsl, e]; rfl
          rw [List.eq_nil_of_length_eq_zero this]; rfl
        · rfl
      have hW : WVs (srtO (pls (sll a))) := ⟨by rw [so, hsl]; omega, fun v hv => by
        rw [so] at hv
        exact can_W (hcan v ((srt_perm _).mem_iff.1 hv))⟩
      have hl := fun K => build_loop (n := n) (by omega) (x2 := (srtO (pls (sll a)), true)) (B := b) (N := ((pls (sll a)).length + b - 1) / b) (by omega) (by omega) (by rw [so, hsl]; omega) (by rw [so, hsl]) (fun hne => by
        rw [so] at hne
        have : 0 < (srtL (pls (sll a))).length := List.length_pos_iff.2 hne
        rw [Nat.le_div_iff_mul_le (by omega)]
        omega) (K := K) (sll (srtO (pls (sll a)))).length n (srtO (pls (sll a))) none (Nat.le_refl _) hW (Nat.le_refl _) (by show 0 + _ ≤ 1000; rw [so, hsl]; omega) (by rw [so, hsl]; omega)
      unfold withK
      refine Eq.trans (hl _) ?_
      rw [so]
      unfold blO resO
      by_cases h0 : srtL (pls (sll a)) = []
      · rw [if_pos h0, if_pos h0]
      · rw [if_neg h0, if_neg h0, List.map_id]; rfl
/-! ### The law -/
theorem lastD_mem : ∀ (l : List V) (p : V), lastD p l ∈ p :: l
  | [], p => by simp [lastD]
  | x :: l, p => by rw [lastD]; exact List.mem_cons_of_mem _ (lastD_mem l x)
/-- A bucket's parts are parts of the list. -/
theorem bl_mem (N : Nat) : ∀ (k : Nat) (l : List V), ∀ b, b ∈ bl N k l → b.fLow ∈ l ∧ b.fHigh ∈ l ∧ 0 ≤ b.fCount ∧ b.fCount ≤ l.length ∧ 0 ≤ b.fDistinct ∧ b.fDistinct ≤ l.length
  | 0, l, b, h => by simp [bl] at h
  | k + 1, [], b, h => by simp [bl] at h
  | k + 1, x :: l, b, h => by
    have hj := jmp_le N l 1 x
    rw [bl] at h
    rcases List.mem_cons.1 h with rfl | h
    · have hd := dst_range (l.take (jmp N 1 x l)) x
      have hm := lastD_mem (l.take (jmp N 1 x l)) x
      rw [List.length_take] at hd
      refine ⟨by simp, ?_, by simp only; omega, by simp only [List.length_cons]; omega, by simp only; omega, by simp only [List.length_cons]; omega⟩
      rcases List.mem_cons.1 hm with e | e
      · rw [e]; simp
      · exact List.mem_cons_of_mem _ (List.mem_of_mem_take e)
    · obtain ⟨h1, h2, h3, h4, h5, h6⟩ := bl_mem N k _ b h
      rw [List.length_drop] at h4 h6
      rw [List.length_cons]
      exact ⟨List.mem_cons_of_mem _ (List.mem_of_mem_drop h1), List.mem_cons_of_mem _ (List.mem_of_mem_drop h2), h3, by omega, h5, by omega⟩
end Go.Pl

