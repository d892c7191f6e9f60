import Derived.Test.YtjbhpopccbhhlaaSA1
set_option linter.unusedVariables false
set_option linter.unusedSimpArgs false
set_option maxRecDepth 100000
namespace Go.Pl
open Go Go.Ab

/-! #### Is it of a table? -/
theorem range2_all {α β R : Type} {F : Nat → Int → Option R} {la : List α} {lb : List β} {p : α → β → Bool} {kk e : Option R} (he : la.length = lb.length) (hl : la.length ≤ 1048576) {m : Nat} (hm : 2000000 ≤ m)
    (hF : ∀ (m i : Nat) (x : α) (y : β), (hi : i < la.length) → idx la (i : Int) = some x → idx lb (i : Int) = some y → x ∈ la → y ∈ lb → F (m + 1) (i : Int) = bif p x y then F m (IntKind.wrap .i64 ((i : Int) + 1)) else e) (hE : ∀ (m : Nat), F (m + 1) (la.length : Int) = kk) :
    F m 0 = bif (la.zip lb).all (fun q => p q.1 q.2) then kk else e := by
  have hz : (la.zip lb).length = la.length := by rw [List.length_zip]; omega
  refine all_loop0 (l := la.zip lb) (p := fun q => p q.1 q.2) (by omega) hm (fun m i q hi e' => ?_) (fun m => by rw [hz]; exact hE m)
  have hi1 : i < la.length := by omega
  have hi2 : i < lb.length := by omega
  rw [List.getElem_zip] at e'
  subst e'
  exact hF m i _ _ hi1 (idx_at hi1 rfl) (idx_at hi2 rfl) (List.getElem_mem _) (List.getElem_mem _)
def sameLen {α β : Type} (p : α → β → Bool) (a : List α) (b : List β) : Bool := decide (a.length = b.length) && (a.zip b).all fun q => p q.1 q.2
theorem sameLen_ne {α β : Type} {p : α → β → Bool} {a : List α} {b : List β} (h : a.length ≠ b.length) : sameLen p a b = false := by
  unfold sameLen; rw [dF h]; rfl
theorem sameLen_eq {α β : Type} {p : α → β → Bool} {a : List α} {b : List β} (h : a.length = b.length) : sameLen p a b = (a.zip b).all fun q => p q.1 q.2 := by
  unfold sameLen; rw [dT h]; rfl
/-- A loop over two lists of one length, as slices' EqualFunc has it. -/
theorem equal_func {α β : Type} {F : Nat → Int → Option Bool} {la : List α} {lb : List β} {p : α → β → Bool} (hl : la.length ≤ 1048576) {m : Nat} (hm : 2000000 ≤ m)
    (hF : la.length = lb.length → ∀ (m i : Nat) (x : α) (y : β), (hi : i < la.length) → idx la (i : Int) = some x → idx lb (i : Int) = some y → x ∈ la → y ∈ lb → F (m + 1) (i : Int) = bif p x y then F m (IntKind.wrap .i64 ((i : Int) + 1)) else some false) (hE : ∀ (m : Nat), F (m + 1) (la.length : Int) = some true) :
    (bif ((la.length : Int) != (lb.length : Int)) then some false else F m 0) = some (sameLen p la lb) := by
  by_cases h : la.length = lb.length
  · rw [show ((la.length : Int) != (lb.length : Int)) = false by rw [h]; simp, cond_false, range2_all h hl hm (hF h) hE, sameLen_eq h]
    cases (la.zip lb).all fun q => p q.1 q.2 <;> rfl
  · rw [show ((la.length : Int) != (lb.length : Int)) = true by rw [bne_iff_ne]; omega, cond_true, sameLen_ne h]
/-! #### Are two alike? -/
def sameV (x y : api_Value) : Bool := vCmp x y == 0
def sameB (x y : HB) : Bool := sameV x.fLow y.fLow && sameV x.fHigh y.fHigh && (x.fCount == y.fCount) && (x.fDistinct == y.fDistinct)
theorem value_Same_ok {a b : api_Value} (ha : W_api_Value a) (hb : W_api_Value b) {n : Nat} (h : 5 ≤ n) : value_Same n a b = some (sameV a b) := by
  obtain ⟨n, rfl⟩ : ∃ k, n = k + 1 := ⟨n - 1, by omega⟩
  unfold value_Same
  rw [at1_succ, value_Cmp_ok ha hb (by omega)]; rfl
theorem stat_buckets_ok {a b : HB} (ha : W_hist_Bucket a) (hb : W_hist_Bucket b) {n : Nat} (h : 6 ≤ n) : stat_buckets n a b = some (sameB a b) := by
  obtain ⟨n, rfl⟩ : ∃ k, n = k + 1 := ⟨n - 1, by omega⟩
  unfold stat_buckets
  rw [at1_succ, value_Same_ok ha.1 hb.1 (by omega), value_Same_ok ha.2.1 hb.2.1 (by omega), Option.bind_some, Option.bind_some]
  unfold sameB
  cases sameV a.fLow b.fLow <;> cases sameV a.fHigh b.fHigh <;> rfl
theorem eq_buckets_ok {a b : Option (List HB)} (ha : WH a) (hb : WH b) {n : Nat} (h : 2000010 ≤ n) : slices_EqualFunc_Bucket_stat_buckets n a b = some (sameLen sameB (sll a) (sll b)) := by
  obtain ⟨n, rfl⟩ : ∃ k, n = k + 1 := ⟨n - 1, by omega⟩
  unfold slices_EqualFunc_Bucket_stat_buckets withK
  rw [at1_succ]
  refine equal_func (F := fun m i => slices_EqualFunc_Bucket_stat_buckets_l4 n a b (fun _ => some true) m i) ha.1 (by omega) (fun he m i x y hi e1 e2 m1 m2 => ?_) (fun m => ?_)
  · show slices_EqualFunc_Bucket_stat_buckets_l4 _ _ _ _ _ _ = _
    rw [slices_EqualFunc_Bucket_stat_buckets_l4, dT (by omega), cond_true, e1, Option.bind_some, e2, Option.bind_some, stat_buckets_ok (ha.2 x m1) (hb.2 y m2) (by omega), Option.bind_some]
    cases sameB x y <;> rfl
  · show slices_EqualFunc_Bucket_stat_buckets_l4 _ _ _ _ _ _ = _
    rw [slices_EqualFunc_Bucket_stat_buckets_l4, dF (by omega), cond_false]
theorem eq_values_ok {a b : Option (List api_Value)} (ha : wSl W_api_Value a) (hb : wSl W_api_Value b) {n : Nat} (h : 2000010 ≤ n) : slices_EqualFunc_Value_value_Same n a b = some (sameLen sameV (sll a) (sll b)) := by
  obtain ⟨n, rfl⟩ : ∃ k, n = k + 1 := ⟨n - 1, by omega⟩
  unfold slices_EqualFunc_Value_value_Same withK
  rw [at1_succ]
  refine equal_func (F := fun m i => slices_EqualFunc_Value_value_Same_l4 n a b (fun _ => some true) m i) ha.1 (by omega) (fun he m i x y hi e1 e2 m1 m2 => ?_) (fun m => ?_)
  · show slices_EqualFunc_Value_value_Same_l4 _ _ _ _ _ _ = _
    rw [slices_EqualFunc_Value_value_Same_l4, dT (by omega), cond_true, e1, Option.bind_some, e2, Option.bind_some, value_Same_ok (ha.2 x m1) (hb.2 y m2) (by omega), Option.bind_some]
    cases sameV x y <;> rfl
  · show slices_EqualFunc_Value_value_Same_l4 _ _ _ _ _ _ = _
    rw [slices_EqualFunc_Value_value_Same_l4, dF (by omega), cond_false]
theorem stat_columns_ok {x y : stat_Col} (hx : W_stat_Col x) (hy : W_stat_Col y) {n : Nat} (h : 2000020 ≤ n) :
    stat_columns n x y = some ((x.fKind == y.fKind) && (x.fNulls == y.fNulls) && (x.fDistinct == y.fDistinct) && sameLen sameB (sll x.fHist) (sll y.fHist) && sameLen sameV (sll x.fSample) (sll y.fSample) && eqA 64 x.fSketch.fRegs y.fSketch.fRegs) := by
  obtain ⟨n, rfl⟩ : ∃ k, n = k + 1 := ⟨n - 1, by omega⟩
  unfold stat_columns
  rw [at1_succ, eq_buckets_ok hx.2.2.2.1 hy.2.2.2.1 (by omega), eq_values_ok hx.2.2.2.2.1 hy.2.2.2.2.1 (by omega), Option.bind_some, Option.bind_some]
  cases x.fKind == y.fKind <;> cases x.fNulls == y.fNulls <;> cases x.fDistinct == y.fDistinct <;> cases sameLen sameB (sll x.fHist) (sll y.fHist) <;> rfl
def sameSC (x y : stat_Col) : Bool := (x.fKind == y.fKind) && (x.fNulls == y.fNulls) && (x.fDistinct == y.fDistinct) && sameLen sameB (sll x.fHist) (sll y.fHist) && sameLen sameV (sll x.fSample) (sll y.fSample) && eqA 64 x.fSketch.fRegs y.fSketch.fRegs
theorem stat_Same_ok {x y : stat_Stat} (hx : W_stat_Stat x) (hy : W_stat_Stat y) {n : Nat} (h : 2000040 ≤ n) : stat_Same n x y = some ((x.fRows == y.fRows) && sameLen sameSC (sll x.fCols) (sll y.fCols)) := by
  obtain ⟨n, rfl⟩ : ∃ k, n = k + 2 := ⟨n - 2, by omega⟩
  unfold stat_Same
  rw [at1_succ]
  unfold slices_EqualFunc_Col_stat_columns withK
  rw [at1_succ]
  rw [equal_func (F := fun m i => slices_EqualFunc_Col_stat_columns_l4 n x.fCols y.fCols (fun _ => some true) m i) (p := sameSC) hx.2.1 (by omega) (fun he m i c d hi e1 e2 m1 m2 => ?_) (fun m => ?_)]
  · cases x.fRows == y.fRows <;> rfl
  · show slices_EqualFunc_Col_stat_columns_l4 _ _ _ _ _ _ = _
    rw [slices_EqualFunc_Col_stat_columns_l4, dT (by omega), cond_true, e1, Option.bind_some, e2, Option.bind_some, stat_columns_ok (hx.2.2 c m1) (hy.2.2 d m2) (by omega), Option.bind_some]
    show (bif !(sameSC c d) then _ else _) = bif sameSC c d then _ else _
    cases sameSC c d <;> rfl
  · show slices_EqualFunc_Col_stat_columns_l4 _ _ _ _ _ _ = _
    rw [slices_EqualFunc_Col_stat_columns_l4, dF (by omega), cond_false]
/-! #### What is known without a look -/
theorem works20_ok : law20_works 3999999 = some true := rfl
end Go.Pl
