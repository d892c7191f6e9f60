import Derived.Test.YtjbhpopccbhhlaaSA1
set_option linter.unusedVariables false
set_option linter.unusedSimpArgs false
set_option maxRecDepth 100000
namespace Go.Pl
open Go Go.Ab

/-! #### Is it of a table? -/
theorem range2_all {α β R : Type} {F : Nat → Int → Option R} {la : List α} {lb : List β} {p : α → β → Bool} {kk e : Option R} (he : la.length = lb.length) (hl : la.length ≤ 1048576) {m : Nat} (hm : 2000000 ≤ m)
    (hF : ∀ (m i : Nat) (x : α) (y : β), (hi : i < la.length) → idx la (i : Int) = some x → idx lb (i : Int) = some y → x ∈ la → y ∈ lb → F (m + 1) (i : Int) = bif p x y then F m (IntKind.wrap .i64 ((i : Int) + 1)) else e) (hE : ∀ (m : Nat), F (m + 1) (la.length : Int) = kk) :
    F m 0 = bif (la.zip lb).all (fun q => p q.1 q.2) then kk else e := by
  have hz : (la.zip lb).length = la.length := by rw [List.length_zip]; omega
  refine all_loop0 (l := la.zip lb) (p := fun q => p q.1 q.2) (by omega) hm (fun m i q hi e' => ?_) (fun m => by rw [hz]; exact hE m)
  have hi1 : i < la.length := by omega
  have hi2 : i < lb.length := by omega
  rw [List.getElem_zip] at e'
  subst e'
  exact hF m i _ _ hi1 (idx_at hi1 rfl) (idx_at hi2 rfl) (List.getElem_mem _) (List.getElem_mem _)
def sameLen {α β : Type} (p : α → β → Bool) (a : List α) (b : List β) : Bool := decide (a.length = b.length) && (a.zip b).all fun q => p q.1 q.2
theorem sameLen_ne {α β : Type} {p : α → β → Bool} {a : List α} {b : List β} (h : a.length ≠ b.length) : sameLen p a b = false := by
  unfold sameLen; rw [dF h]; rfl
theorem sameLen_eq {α β : Type} {p : α → β → Bool} {a : List α} {b : List β} (h : a.length = b.length) : sameLen p a b = (a.zip b).all fun q => p q.1 q.2 := by
  unfold sameLen; rw [dT h]; rfl
/-- A loop over two lists of one length, as slices' EqualFunc has it. -/
theorem equal_func {α β : Type} {F : Nat → Int → Option Bool} {la : List α} {lb : List β} {p : α → β → Bool} (hl : la.length ≤ 1048576) {m : Nat} (hm : 2000000 ≤ m)
    (hF : la.length = lb.length → ∀ (m i : Nat) (x : α) (y : β), (hi : i < la.length) → idx la (i : Int) = some x → idx lb (i : Int) = some y → x ∈ la → y ∈ lb → F (m + 1) (i : Int) = bif p x y then F m (IntKind.wrap .i64 ((i : Int) + 1)) else some false) (hE : ∀ (m : Nat), F (m + 1) (la.length : Int) = some true) :
    (bif ((la.length : Int) != (lb.length : Int)) then some false else F m 0) = some (sameLen p la lb) := by
  by_cases h : la.length = lb.length
  · rw [show ((la.length : Int) != (lb.length : Int)) = false by rw [h]; simp, cond_false, range2_all h hl hm (hF h) hE, sameLen_eq h]
    cases (la.zip lb).all fun q => p q.1 q.2 <;> rfl
  · rw [show ((la.length : Int) != (lb.length : Int)) = true by rw [bne_iff_ne]; omega, cond_true, sameLen_ne h]
def fitsC (c : C20) (d : api_Column) : Bool := c.fKind == d.fKind
def fitsS (s : S20) (t : api_Table) : Bool := rightS s && sameLen fitsC (sll s.fCols) (sll t.fCols)
theorem sameLen_map {α α' β β' : Type} {p : α' → β' → Bool} {f : α → α'} {g : β → β'} (a : List α) (b : List β) : sameLen p (a.map f) (b.map g) = sameLen (fun x y => p (f x) (g y)) a b := by
  unfold sameLen
  rw [List.length_map, List.length_map, List.zip_map, List.all_map]
  rfl
theorem sameLen_map1 {α α' β : Type} {p : α' → β → Bool} {f : α → α'} (a : List α) (b : List β) : sameLen p (a.map f) b = sameLen (fun x y => p (f x) y) a b := by
  have := sameLen_map (p := p) (f := f) (g := id) a b
  rwa [List.map_id] at this
theorem cols_gs (s : S20) : sll (gs s).fCols = (sll s.fCols).map gc := by show sll (mapO gc _) = _; rw [sll_mapO]
theorem stat_Fits_ok {s : S20} (hs : W_tabularyref20_Stat s) (t : api_Table) {n : Nat} (h : 2000060 ≤ n) : stat_Fits n (gs s) t = some (fitsS s t) := by
  obtain ⟨n, rfl⟩ : ∃ k, n = k + 2 := ⟨n - 2, by omega⟩
  unfold stat_Fits
  rw [at1_succ, stat_Right_ok hs (by omega), Option.bind_some]
  unfold slices_EqualFunc_Column_stat_Fits_1
  rw [at1_succ]
  unfold withK
  rw [equal_func (F := fun m i => slices_EqualFunc_Column_stat_Fits_1_l4 n (gs s).fCols t.fCols (fun _ => some true) m i) (la := sll (gs s).fCols) (lb := sll t.fCols) (p := fun (c : stat_Col) (d : api_Column) => c.fKind == d.fKind) (by rw [cols_gs, List.length_map]; exact hs.2.1) (by omega) (fun he m i x y hi e1 e2 m1 m2 => ?_) (fun m => ?_)]
  · unfold fitsS
    rw [cols_gs, sameLen_map1, Option.bind_some]
    show _ = some (_ && sameLen (fun (x : C20) (y : api_Column) => x.fKind == y.fKind) _ _)
    cases rightS s <;> rfl
  · show slices_EqualFunc_Column_stat_Fits_1_l4 _ _ _ _ _ _ = _
    rw [slices_EqualFunc_Column_stat_Fits_1_l4, dT (by omega), cond_true, e1, Option.bind_some, e2, Option.bind_some]
    obtain ⟨n, rfl⟩ : ∃ k, n = k + 1 := ⟨n - 1, by omega⟩
    unfold stat_Fits_1
    rw [at1_succ, Option.bind_some]
    cases x.fKind == y.fKind <;> rfl
  · show slices_EqualFunc_Column_stat_Fits_1_l4 _ _ _ _ _ _ = _
    rw [slices_EqualFunc_Column_stat_Fits_1_l4, dF (by omega), cond_false]
theorem ref20_Fits_ok {s : S20} (hs : W_tabularyref20_Stat s) (t : api_Table) {n : Nat} (h : 2000060 ≤ n) : ref20_Fits n s t = some (fitsS s t) := by
  obtain ⟨n, rfl⟩ : ∃ k, n = k + 1 := ⟨n - 1, by omega⟩
  unfold ref20_Fits
  rw [at1_succ, ref20_Right_ok hs (by omega), Option.bind_some]
  unfold withK fitsS
  cases hr : rightS s with
  | false => rfl
  | true =>
    rw [Bool.not_true, Bool.false_or, Bool.true_and]
    exact equal_func (F := fun m i => ref20_Fits_l4 n s t (fun _ => some true) m i) (p := fitsC) hs.2.1 (by omega) (fun he m i x y hi e1 e2 m1 m2 => by
      show ref20_Fits_l4 _ _ _ _ _ _ = _
      rw [ref20_Fits_l4, dT (by omega), cond_true, e1, Option.bind_some, e2, Option.bind_some]
      show (bif !(x.fKind == y.fKind) then _ else _) = bif (x.fKind == y.fKind) then _ else _
      cases x.fKind == y.fKind <;> rfl) (fun m => by
      show ref20_Fits_l4 _ _ _ _ _ _ = _
      rw [ref20_Fits_l4, dF (by omega), cond_false])

/-! #### Are two alike? -/
def sameV (x y : api_Value) : Bool := vCmp x y == 0
def sameB (x y : HB) : Bool := sameV x.fLow y.fLow && sameV x.fHigh y.fHigh && (x.fCount == y.fCount) && (x.fDistinct == y.fDistinct)
def sameC (x y : C20) : Bool := (x.fKind == y.fKind) && (x.fNulls == y.fNulls) && (x.fDistinct == y.fDistinct) && sameLen sameB ((sll x.fHist).map gv) ((sll y.fHist).map gv) && sameLen sameV (sll x.fSample) (sll y.fSample) && eqA 64 x.fSketch y.fSketch
def sameS (x y : S20) : Bool := (x.fRows == y.fRows) && sameLen sameC (sll x.fCols) (sll y.fCols)
theorem value_Same_ok {a b : api_Value} (ha : W_api_Value a) (hb : W_api_Value b) {n : Nat} (h : 5 ≤ n) : value_Same n a b = some (sameV a b) := by
  obtain ⟨n, rfl⟩ : ∃ k, n = k + 1 := ⟨n - 1, by omega⟩
  unfold value_Same
  rw [at1_succ, value_Cmp_ok ha hb (by omega)]; rfl
theorem stat_buckets_ok {a b : HB} (ha : W_hist_Bucket a) (hb : W_hist_Bucket b) {n : Nat} (h : 6 ≤ n) : stat_buckets n a b = some (sameB a b) := by
  obtain ⟨n, rfl⟩ : ∃ k, n = k + 1 := ⟨n - 1, by omega⟩
  unfold stat_buckets
  rw [at1_succ, value_Same_ok ha.1 hb.1 (by omega), value_Same_ok ha.2.1 hb.2.1 (by omega), Option.bind_some, Option.bind_some]
  unfold sameB
  cases sameV a.fLow b.fLow <;> cases sameV a.fHigh b.fHigh <;> rfl
theorem eq_buckets_ok {a b : Option (List HB)} (ha : WH a) (hb : WH b) {n : Nat} (h : 2000010 ≤ n) : slices_EqualFunc_Bucket_stat_buckets n a b = some (sameLen sameB (sll a) (sll b)) := by
  obtain ⟨n, rfl⟩ : ∃ k, n = k + 1 := ⟨n - 1, by omega⟩
  unfold slices_EqualFunc_Bucket_stat_buckets withK
  rw [at1_succ]
  refine equal_func (F := fun m i => slices_EqualFunc_Bucket_stat_buckets_l4 n a b (fun _ => some true) m i) ha.1 (by omega) (fun he m i x y hi e1 e2 m1 m2 => ?_) (fun m => ?_)
  · show slices_EqualFunc_Bucket_stat_buckets_l4 _ _ _ _ _ _ = _
    rw [slices_EqualFunc_Bucket_stat_buckets_l4, dT (by omega), cond_true, e1, Option.bind_some, e2, Option.bind_some, stat_buckets_ok (ha.2 x m1) (hb.2 y m2) (by omega), Option.bind_some]
    cases sameB x y <;> rfl
  · show slices_EqualFunc_Bucket_stat_buckets_l4 _ _ _ _ _ _ = _
    rw [slices_EqualFunc_Bucket_stat_buckets_l4, dF (by omega), cond_false]
theorem eq_values_ok {a b : Option (List api_Value)} (ha : wSl W_api_Value a) (hb : wSl W_api_Value b) {n : Nat} (h : 2000010 ≤ n) : slices_EqualFunc_Value_value_Same n a b = some (sameLen sameV (sll a) (sll b)) := by
  obtain ⟨n, rfl⟩ : ∃ k, n = k + 1 := ⟨n - 1, by omega⟩
  unfold slices_EqualFunc_Value_value_Same withK
  rw [at1_succ]
  refine equal_func (F := fun m i => slices_EqualFunc_Value_value_Same_l4 n a b (fun _ => some true) m i) ha.1 (by omega) (fun he m i x y hi e1 e2 m1 m2 => ?_) (fun m => ?_)
  · show slices_EqualFunc_Value_value_Same_l4 _ _ _ _ _ _ = _
    rw [slices_EqualFunc_Value_value_Same_l4, dT (by omega), cond_true, e1, Option.bind_some, e2, Option.bind_some, value_Same_ok (ha.2 x m1) (hb.2 y m2) (by omega), Option.bind_some]
    cases sameV x y <;> rfl
  · show slices_EqualFunc_Value_value_Same_l4 _ _ _ _ _ _ = _
    rw [slices_EqualFunc_Value_value_Same_l4, dF (by omega), cond_false]
theorem stat_columns_ok {x y : stat_Col} (hx : W_stat_Col x) (hy : W_stat_Col y) {n : Nat} (h : 2000020 ≤ n) :
    stat_columns n x y = some ((x.fKind == y.fKind) && (x.fNulls == y.fNulls) && (x.fDistinct == y.fDistinct) && sameLen sameB (sll x.fHist) (sll y.fHist) && sameLen sameV (sll x.fSample) (sll y.fSample) && eqA 64 x.fSketch.fRegs y.fSketch.fRegs) := by
  obtain ⟨n, rfl⟩ : ∃ k, n = k + 1 := ⟨n - 1, by omega⟩
  unfold stat_columns
  rw [at1_succ, eq_buckets_ok hx.2.2.2.1 hy.2.2.2.1 (by omega), eq_values_ok hx.2.2.2.2.1 hy.2.2.2.2.1 (by omega), Option.bind_some, Option.bind_some]
  cases x.fKind == y.fKind <;> cases x.fNulls == y.fNulls <;> cases x.fDistinct == y.fDistinct <;> cases sameLen sameB (sll x.fHist) (sll y.fHist) <;> rfl
def sameSC (x y : stat_Col) : Bool := (x.fKind == y.fKind) && (x.fNulls == y.fNulls) && (x.fDistinct == y.fDistinct) && sameLen sameB (sll x.fHist) (sll y.fHist) && sameLen sameV (sll x.fSample) (sll y.fSample) && eqA 64 x.fSketch.fRegs y.fSketch.fRegs
theorem stat_Same_ok {x y : stat_Stat} (hx : W_stat_Stat x) (hy : W_stat_Stat y) {n : Nat} (h : 2000040 ≤ n) : stat_Same n x y = some ((x.fRows == y.fRows) && sameLen sameSC (sll x.fCols) (sll y.fCols)) := by
  obtain ⟨n, rfl⟩ : ∃ k, n = k + 2 := ⟨n - 2, by omega⟩
  unfold stat_Same
  rw [at1_succ]
  unfold slices_EqualFunc_Col_stat_columns withK
  rw [at1_succ]
  rw [equal_func (F := fun m i => slices_EqualFunc_Col_stat_columns_l4 n x.fCols y.fCols (fun _ => some true) m i) (p := sameSC) hx.2.1 (by omega) (fun he m i c d hi e1 e2 m1 m2 => ?_) (fun m => ?_)]
  · cases x.fRows == y.fRows <;> rfl
  · show slices_EqualFunc_Col_stat_columns_l4 _ _ _ _ _ _ = _
    rw [slices_EqualFunc_Col_stat_columns_l4, dT (by omega), cond_true, e1, Option.bind_some, e2, Option.bind_some, stat_columns_ok (hx.2.2 c m1) (hy.2.2 d m2) (by omega), Option.bind_some]
    show (bif !(sameSC c d) then _ else _) = bif sameSC c d then _ else _
    cases sameSC c d <;> rfl
  · show slices_EqualFunc_Col_stat_columns_l4 _ _ _ _ _ _ = _
    rw [slices_EqualFunc_Col_stat_columns_l4, dF (by omega), cond_false]
theorem sameSC_gc (x y : C20) : sameSC (gc x) (gc y) = sameC x y := by
  unfold sameSC sameC
  show ((x.fKind == y.fKind) && (x.fNulls == y.fNulls) && (x.fDistinct == y.fDistinct) && sameLen sameB (sll (mapO gv (sll x.fHist))) (sll (mapO gv (sll y.fHist))) && sameLen sameV (sll x.fSample) (sll y.fSample) && eqA 64 x.fSketch y.fSketch) = _
  rw [sll_mapO, sll_mapO]
theorem stat_Same_gs {x y : S20} (hx : W_tabularyref20_Stat x) (hy : W_tabularyref20_Stat y) {n : Nat} (h : 2000040 ≤ n) : stat_Same n (gs x) (gs y) = some (sameS x y) := by
  rw [stat_Same_ok (gs_W hx) (gs_W hy) h, cols_gs, cols_gs, sameLen_map]
  simp only [sameSC_gc]
  rfl
theorem lex_zero {α : Type} (c : α → α → Int) : ∀ (a b : List α), (lexC c a b == 0) = sameLen (fun x y => c x y == 0) a b
  | [], [] => rfl
  | [], _ :: _ => rfl
  | _ :: _, [] => rfl
  | x :: a, y :: b => by
    have ih := lex_zero c a b
    unfold sameLen at ih ⊢
    simp only [lexC, List.length_cons, List.zip_cons_cons, List.all_cons, Nat.add_right_cancel_iff]
    by_cases h : c x y = 0
    · rw [if_neg (by simpa using h), ih, h]; simp
    · rw [if_pos h, show (c x y == 0) = false by simpa using h]; simp
theorem ref05_Cmp20_ok {a b : Option (List api_Value)} (ha : wSl W_api_Value a) (hb : wSl W_api_Value b) {n : Nat} (h : 2000010 ≤ n) : ref05_Cmp n a b = some (lexC vCmp (sll a) (sll b)) := by
  obtain ⟨n, rfl⟩ : ∃ k, n = k + 1 := ⟨n - 1, by omega⟩
  unfold ref05_Cmp withK
  rw [at1_succ]
  have := loop_two (F := fun m i => ref05_Cmp_l2 n a b (fun _ => bif (decide (((sll a).length : Int) < ((sll b).length : Int))) then some (-1) else bif (decide (((sll a).length : Int) > ((sll b).length : Int))) then some 1 else some 0) m i) (la := sll a) (lb := sll b) (cm := ref04_Cmp n) (c := vCmp) (k := fun _ => bif (decide (((sll a).length : Int) < ((sll b).length : Int))) then some (-1) else bif (decide (((sll a).length : Int) > ((sll b).length : Int))) then some 1 else some 0) ha.1
    (fun x y h1 h2 => ref04_Cmp_ok (ha.2 x h1) (hb.2 y h2) (by omega)) (by
      unfold lenC
      by_cases h1 : ((sll a).length : Int) < ((sll b).length : Int)
      · simp [h1]
      · by_cases h2 : ((sll a).length : Int) > ((sll b).length : Int)
        · simp [h1, h2]
        · simp [h1, h2]) (fun m i => rfl) n 0 (Nat.zero_le _) (Nat.zero_le _) (by have := ha.1; omega)
  simpa using this
theorem ref20_Same_ok {x y : S20} (hx : W_tabularyref20_Stat x) (hy : W_tabularyref20_Stat y) {n : Nat} (h : 2000040 ≤ n) : ref20_Same n x y = some (sameS x y) := by
  obtain ⟨n, rfl⟩ : ∃ k, n = k + 1 := ⟨n - 1, by omega⟩
  unfold ref20_Same sameS withK
  rw [at1_succ]
  have eR : (x.fRows != y.fRows) = !(x.fRows == y.fRows) := rfl
  rw [eR]
  cases x.fRows == y.fRows with
  | false => rfl
  | true =>
    rw [Bool.not_true, Bool.false_or, Bool.true_and]
    refine equal_func (F := fun m i => ref20_Same_l4 n x y (fun _ => some true) m i) (p := sameC) hx.2.1 (by omega) (fun he m i c d hi e1 e2 m1 m2 => ?_) (fun m => ?_)
    · have hc := hx.2.2 c m1
      have hd := hy.2.2 d m2
      show ref20_Same_l4 _ _ _ _ _ _ = _
      rw [ref20_Same_l4, dT (by omega), cond_true]
      simp only [withK]
      rw [e1, Option.bind_some, e2, Option.bind_some, ref05_Cmp20_ok hc.2.2.2.2.1 hd.2.2.2.2.1 (by omega), Option.bind_some]
      have hz : (lexC vCmp (sll c.fSample) (sll d.fSample) != 0) = !sameLen sameV (sll c.fSample) (sll d.fSample) := by
        show (!(lexC vCmp (sll c.fSample) (sll d.fSample) == 0)) = _
        rw [lex_zero]; rfl
      rw [hz]
      have n1 : (c.fKind != d.fKind) = !(c.fKind == d.fKind) := rfl
      have n2 : (c.fNulls != d.fNulls) = !(c.fNulls == d.fNulls) := rfl
      have n3 : (c.fDistinct != d.fDistinct) = !(c.fDistinct == d.fDistinct) := rfl
      rw [n1, n2, n3]
      unfold sameC
      by_cases hl : (sll c.fHist).length = (sll d.fHist).length
      · have hloop : ∀ (K : Unit → Option Bool), ref20_Same_l11 n K c d n 0 = bif sameLen sameB ((sll c.fHist).map gv) ((sll d.fHist).map gv) then K () else some false := fun K => by
          rw [sameLen_map, sameLen_eq hl]
          refine range2_all (F := fun m i => ref20_Same_l11 n K c d m i) (p := fun p q => sameB (gv p) (gv q)) hl hc.2.2.2.1.1 (by omega) (fun m i p q hi e1 e2 m1 m2 => ?_) (fun m => ?_)
          · have hp := hc.2.2.2.1.2 p m1
            have hq := hd.2.2.2.1.2 q m2
            show ref20_Same_l11 _ _ _ _ _ _ = _
            rw [ref20_Same_l11, dT (by omega), cond_true, e1, Option.bind_some, e2, Option.bind_some, ref04_Cmp_ok hp.1 hq.1 (by omega), Option.bind_some, ref04_Cmp_ok hp.2.1 hq.2.1 (by omega), Option.bind_some]
            show (bif !(sameV p.fLow q.fLow) then some false else bif ((!(sameV p.fHigh q.fHigh)) || (!(p.fCount == q.fCount))) || (!(p.fDistinct == q.fDistinct)) then some false else _) = bif (sameV p.fLow q.fLow && sameV p.fHigh q.fHigh && (p.fCount == q.fCount) && (p.fDistinct == q.fDistinct)) then _ else _
            cases sameV p.fLow q.fLow <;> cases sameV p.fHigh q.fHigh <;> cases p.fCount == q.fCount <;> cases p.fDistinct == q.fDistinct <;> rfl
          · show ref20_Same_l11 _ _ _ _ _ _ = _
            rw [ref20_Same_l11, dF (by omega), cond_false]
        rw [hloop, show (((sll c.fHist).length : Int) != ((sll d.fHist).length : Int)) = false by rw [hl]; simp]
        cases c.fKind == d.fKind <;> cases c.fNulls == d.fNulls <;> cases c.fDistinct == d.fDistinct <;> cases eqA 64 c.fSketch d.fSketch <;> cases sameLen sameV (sll c.fSample) (sll d.fSample) <;> cases sameLen sameB ((sll c.fHist).map gv) ((sll d.fHist).map gv) <;> rfl
      · rw [show (((sll c.fHist).length : Int) != ((sll d.fHist).length : Int)) = true by rw [bne_iff_ne]; omega, sameLen_ne (a := (sll c.fHist).map gv) (b := (sll d.fHist).map gv) (by rw [List.length_map, List.length_map]; exact hl)]
        cases c.fKind == d.fKind <;> cases c.fNulls == d.fNulls <;> cases c.fDistinct == d.fDistinct <;> cases eqA 64 c.fSketch d.fSketch <;> rfl
    · show ref20_Same_l4 _ _ _ _ _ _ = _
      rw [ref20_Same_l4, dF (by omega), cond_false]

/-! #### What is known without a look -/
def rowsP (r : Int) : Int := if 1000000 < (if 0 > r then 0 else r) then 1000000 else (if 0 > r then 0 else r)
def distP (R : Int) : Int := if R < (if 1 > (IntKind.wrap .i64 (Int.tdiv R 10)) then 1 else (IntKind.wrap .i64 (Int.tdiv R 10))) then R else (if 1 > (IntKind.wrap .i64 (Int.tdiv R 10)) then 1 else (IntKind.wrap .i64 (Int.tdiv R 10)))
def pcS (D : Int) (c : api_Column) : stat_Col := ⟨c.fKind, 0, D, none, none, ⟨fun _ => 0⟩⟩
def pc (D : Int) (c : api_Column) : C20 := ⟨c.fKind, 0, D, none, none, fun _ => 0⟩
theorem stat_Plain_l3_ok {t : api_Table} (ht : W_api_Table t) (r : Int) (k : Option (List stat_Col) → Option stat_Stat) {n : Nat} (h : 2000000 ≤ n) : stat_Plain_l3 n t r k n none 0 = k (mapO (pcS (distP (rowsP r))) (sll t.fCols)) := by
  refine map_loop (f := pcS (distP (rowsP r))) (l := sll t.fCols) (l3 := fun m s i => stat_Plain_l3 n t r k m s i) (K := k) (b := 136) (by omega) ht.2.1 h (fun m i s => ?_)
  cases s with
  | none => exact rfl
  | some s => exact rfl
theorem stat_Plain_ok {t : api_Table} (ht : W_api_Table t) (r : Int) {n : Nat} (h : 2000010 ≤ n) : stat_Plain n t r = some ⟨rowsP r, mapO (pcS (distP (rowsP r))) (sll t.fCols)⟩ := by
  obtain ⟨n, rfl⟩ : ∃ k, n = k + 1 := ⟨n - 1, by omega⟩
  unfold stat_Plain withK
  rw [at1_succ]
  refine Eq.trans (stat_Plain_l3_ok ht r _ (by omega)) ?_
  show _ = some (stat_Stat.mk (rowsP r) (mapO _ _))
  unfold mapO
  cases sll t.fCols <;> rfl
theorem rows_range (r : Int) : 0 ≤ rowsP r ∧ rowsP r ≤ 1000000 := by
  unfold rowsP
  repeat' split
  all_goals omega
theorem tdiv10 {R : Int} (h : 0 ≤ R) (h2 : R ≤ 1000000) : IntKind.wrap .i64 (Int.tdiv R 10) = R / 10 := by
  rw [Int.tdiv_eq_ediv_of_nonneg h, wrapI (by omega) (by omega)]
theorem ref20_Plain_l10_ok {t : api_Table} (ht : W_api_Table t) (D : Int) (k : Option (List C20) → Option S20) {n : Nat} (h : 2000000 ≤ n) : ref20_Plain_l10 n t D k n none 0 = k (mapO (pc D) (sll t.fCols)) := by
  refine map_loop (f := pc D) (l := sll t.fCols) (l3 := fun m s i => ref20_Plain_l10 n t D k m s i) (K := k) (b := 136) (by omega) ht.2.1 h (fun m i s => ?_)
  cases s with
  | none => exact rfl
  | some s => exact rfl
theorem ref20_Plain_ok {t : api_Table} (ht : W_api_Table t) (r : Int) {n : Nat} (h : 2000010 ≤ n) : ref20_Plain n t r = some ⟨rowsP r, mapO (pc (distP (rowsP r))) (sll t.fCols)⟩ := by
  obtain ⟨n, rfl⟩ : ∃ k, n = k + 1 := ⟨n - 1, by omega⟩
  unfold ref20_Plain
  rw [at1_succ]
  unfold withK
  have hR := rows_range r
  have main : ∀ D : Int, ref20_Plain_l10 n t D (fun | none => some (tabularyref20_Stat.mk (rowsP r) none) | (some y12) => some (tabularyref20_Stat.mk (rowsP r) (some y12))) n none 0 = some ⟨rowsP r, mapO (pc D) (sll t.fCols)⟩ := fun D => by
    refine Eq.trans (ref20_Plain_l10_ok ht D _ (by omega)) ?_
    unfold mapO
    cases sll t.fCols <;> rfl
  have e1 : ∀ K : Int → Option S20, (bif decide (r < 0) then (bif decide ((0 : Int) > 1000000) then K 1000000 else K 0) else (bif decide (r > 1000000) then K 1000000 else K r)) = K (rowsP r) := fun K => by
    unfold rowsP
    by_cases h1 : r < 0
    · rw [dT h1, cond_true, if_pos (show 0 > r from h1), if_neg (by omega), dF (by omega), cond_false]
    · rw [dF h1, cond_false, if_neg (by omega : ¬ 0 > r)]
      by_cases h2 : r > 1000000
      · rw [dT h2, cond_true, if_pos (by omega)]
      · rw [dF h2, cond_false, if_neg (by omega)]
  refine Eq.trans (e1 (fun y5 => (fun k9 : Int → Option S20 => bif (((IntKind.wrap .i64 (Int.tdiv y5 10)) == 0) && (decide (y5 > 0))) then k9 1 else k9 (IntKind.wrap .i64 (Int.tdiv y5 10))) (fun (y8 : Int) => ref20_Plain_l10 n t y8 (fun | none => some (tabularyref20_Stat.mk y5 none) | (some y12) => some (tabularyref20_Stat.mk y5 (some y12))) n none 0))) ?_
  show (bif _ then _ else _) = _
  have e2 : (bif (((IntKind.wrap .i64 (Int.tdiv (rowsP r) 10)) == 0) && (decide (rowsP r > 0))) then (1 : Int) else IntKind.wrap .i64 (Int.tdiv (rowsP r) 10)) = distP (rowsP r) := by
    unfold distP
    rw [tdiv10 hR.1 hR.2]
    generalize rowsP r = R at hR
    by_cases h1 : R / 10 = 0
    · rw [h1, beq_self_eq_true, Bool.true_and, show (if (1 : Int) > 0 then (1 : Int) else 0) = 1 from rfl]
      by_cases h2 : R > 0
      · rw [dT h2, cond_true, if_neg (by omega)]
      · rw [dF h2, cond_false, if_pos (by omega)]; omega
    · rw [show (R / 10 == 0) = false by simpa using h1, Bool.false_and, cond_false, show (if (1 : Int) > R / 10 then (1 : Int) else R / 10) = R / 10 from if_neg (by omega), if_neg (by omega)]
  rw [← main, ← e2]
  cases ((IntKind.wrap .i64 (Int.tdiv (rowsP r) 10)) == 0) && (decide (rowsP r > 0)) <;> rfl
def tcS (c : stat_Col) : C20 := ⟨c.fKind, c.fNulls, c.fDistinct, mapO tv (sll c.fHist), c.fSample, c.fSketch.fRegs⟩
theorem told20_ok {s : stat_Stat} (hs : W_stat_Stat s) {n : Nat} (h : 2000020 ≤ n) : law20_Told n s = some ⟨s.fRows, mapO tcS (sll s.fCols)⟩ := by
  obtain ⟨n, rfl⟩ : ∃ k, n = k + 1 := ⟨n - 1, by omega⟩
  unfold law20_Told withK
  rw [at1_succ]
  refine Eq.trans (map_loop0 (f := tcS) (l := sll s.fCols) (l3 := fun m st i => law20_Told_l3 n s _ m st i) (K := fun | none => some (tabularyref20_Stat.mk s.fRows none) | (some y3) => some (tabularyref20_Stat.mk s.fRows (some y3))) (b := 136) (by omega) hs.2.1 (m := n) (by omega) (fun m i st x hi e => ?_) (fun m st => ?_)) ?_
  · have hx := hs.2.2 x (by rw [← e]; exact List.getElem_mem hi)
    cases st with
    | none =>
      show law20_Told_l3 _ _ _ _ _ _ = _
      rw [law20_Told_l3, dT (by omega), cond_true, idx_at hi e, Option.bind_some, told_ok hx.2.2.2.1.1 (by omega), Option.bind_some]
      rfl
    | some y =>
      show law20_Told_l3 _ _ _ _ _ _ = _
      rw [law20_Told_l3, dT (by omega), cond_true, idx_at hi e, Option.bind_some, told_ok hx.2.2.2.1.1 (by omega), Option.bind_some]
      rfl
  · cases st with
    | none =>
      show law20_Told_l3 _ _ _ _ _ _ = _
      rw [law20_Told_l3, dF (by omega), cond_false]
    | some y =>
      show law20_Told_l3 _ _ _ _ _ _ = _
      rw [law20_Told_l3, dF (by omega), cond_false]
  · cases mapO tcS (sll s.fCols) <;> rfl
theorem eqAf_self (x : Nat → Int) : ∀ (n i : Nat), eqAf x x i n = true
  | 0, _ => rfl
  | n + 1, i => by rw [eqAf, eqAf_self x n, beq_self_eq_true]; rfl
theorem sameLen_self {α : Type} {p : α → α → Bool} (l : List α) (h : ∀ x, x ∈ l → p x x = true) : sameLen p l l = true := by
  rw [sameLen_eq rfl, List.all_eq_true]
  intro q hq
  obtain ⟨i, hi, rfl⟩ := List.getElem_of_mem hq
  rw [List.getElem_zip]
  exact h _ (List.getElem_mem _)
theorem works20_ok : law20_works 3999999 = some true := rfl
theorem StatAsks_true {n : Nat} (h : n = 4000000) {a b : S20} {t : api_Table} {r : Int} (ha : W_tabularyref20_Stat a) (hb : W_tabularyref20_Stat b) (ht : W_api_Table t) (hr : wI .i64 r) : law20_StatAsks n a b t r = some true := by
  subst h
  rw [show (4000000 : Nat) = 3999999 + 1 from rfl]
  unfold law20_StatAsks
  rw [at1_succ, great_ok ha (by decide), Option.bind_some]
  cases hg : greatS a with
  | true => rfl
  | false =>
    rw [cond_false, great_ok hb (by decide), Option.bind_some]
    cases hc : (greatS b || decide (((sll t.fCols).length : Int) > 100)) with
    | true => rfl
    | false =>
      have hRr := rows_range r
      have hD : wI .i64 (distP (rowsP r)) := by
        unfold distP
        rw [tdiv10 hRr.1 hRr.2]
        show (-9223372036854775808 : Int) ≤ _ ∧ _ ≤ (9223372036854775807 : Int)
        repeat' split
        all_goals omega
      have hRw : wI .i64 (rowsP r) := by
        show (-9223372036854775808 : Int) ≤ _ ∧ _ ≤ (9223372036854775807 : Int)
        omega
      have w0 : wI .i64 0 := ⟨by decide, by decide⟩
      have u0 : wI .u8 0 := ⟨by decide, by decide⟩
      have hPW : W_stat_Stat ⟨rowsP r, mapO (pcS (distP (rowsP r))) (sll t.fCols)⟩ := by
        refine ⟨hRw, by show (sll (mapO _ _)).length ≤ _; rw [sll_mapO, List.length_map]; exact ht.2.1, fun x hx => ?_⟩
        have hx' : x ∈ sll (mapO (pcS (distP (rowsP r))) (sll t.fCols)) := hx
        rw [sll_mapO] at hx'
        obtain ⟨c, hc, rfl⟩ := List.mem_map.1 hx'
        refine ⟨(ht.2.2 c hc).2, w0, hD, ⟨by simp [pcS, sll], by simp [pcS, sll]⟩, ⟨by simp [pcS, sll], by simp [pcS, sll]⟩, fun i _ => u0⟩
      have hQW : W_tabularyref20_Stat ⟨rowsP r, mapO (pc (distP (rowsP r))) (sll t.fCols)⟩ := by
        refine ⟨hRw, by show (sll (mapO _ _)).length ≤ _; rw [sll_mapO, List.length_map]; exact ht.2.1, fun x hx => ?_⟩
        have hx' : x ∈ sll (mapO (pc (distP (rowsP r))) (sll t.fCols)) := hx
        rw [sll_mapO] at hx'
        obtain ⟨c, hc, rfl⟩ := List.mem_map.1 hx'
        refine ⟨(ht.2.2 c hc).2, w0, hD, ⟨by simp [pc, sll], by simp [pc, sll]⟩, ⟨by simp [pc, sll], by simp [pc, sll]⟩, fun i _ => u0⟩
      have eT : mapO tcS (sll (mapO (pcS (distP (rowsP r))) (sll t.fCols))) = mapO (pc (distP (rowsP r))) (sll t.fCols) := by
        rw [sll_mapO]
        unfold mapO
        cases sll t.fCols with
        | nil => rfl
        | cons c l =>
          simp only [List.map_cons, if_neg (List.cons_ne_nil _ _), List.map_map]
          rfl
      rw [cond_false, given20_ok ha (by decide), Option.bind_some, given20_ok hb (by decide), Option.bind_some, stat_Right_ok ha (by decide), Option.bind_some]
      rw [ref20_Right_ok (s := ⟨a.fRows, a.fCols⟩) ha (by decide), Option.bind_some, show rightS ⟨a.fRows, a.fCols⟩ = rightS a from rfl, beq_self_eq_true, cond_true]
      rw [show stat_Stat.mk (gs a).fRows (gs a).fCols = gs a from rfl, show stat_Stat.mk (gs b).fRows (gs b).fCols = gs b from rfl, show tabularyref20_Stat.mk a.fRows a.fCols = a from rfl, show tabularyref20_Stat.mk b.fRows b.fCols = b from rfl]
      rw [stat_Fits_ok ha t (by decide), Option.bind_some, ref20_Fits_ok ha t (by decide), Option.bind_some, beq_self_eq_true, cond_true]
      rw [stat_Same_gs ha hb (by decide), Option.bind_some, ref20_Same_ok ha hb (by decide), Option.bind_some, beq_self_eq_true, cond_true]
      rw [stat_Plain_ok ht r (by decide), Option.bind_some, told20_ok hPW (by decide), Option.bind_some, ref20_Plain_ok ht r (by decide), Option.bind_some]
      show ((ref20_Same 3999999 ⟨rowsP r, mapO tcS (sll (mapO (pcS (distP (rowsP r))) (sll t.fCols)))⟩ _).bind _) = _
      rw [eT, ref20_Same_ok hQW hQW (by decide), Option.bind_some]
      have : sameS ⟨rowsP r, mapO (pc (distP (rowsP r))) (sll t.fCols)⟩ ⟨rowsP r, mapO (pc (distP (rowsP r))) (sll t.fCols)⟩ = true := by
        unfold sameS
        rw [beq_self_eq_true, Bool.true_and, sll_mapO]
        refine sameLen_self _ fun x hx => ?_
        obtain ⟨c, hc, rfl⟩ := List.mem_map.1 hx
        unfold sameC
        simp [pc, sll, sameLen, eqA, eqAf_self]
      rw [this, cond_true, works20_ok]
      rfl
end Go.Pl
