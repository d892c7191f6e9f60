import Derived.Test.YtjbhpopccbhhlaaHKA
set_option linter.unusedVariables false
set_option linter.unusedSimpArgs false
set_option maxRecDepth 100000
/-! ### What is known of a table: whether it may be, whether two are alike -/
namespace Go.Pl
open Go Go.Ab

theorem all_loop {α R : Type} {F : Nat → Int → Option R} {l : List α} {p : α → Bool} {kk e : Option R} (hl : l.length ≤ 1048576)
    (hF : ∀ (m i : Nat) (x : α), (hi : i < l.length) → l[i] = x → F (m + 1) (i : Int) = bif p x then F m (IntKind.wrap .i64 ((i : Int) + 1)) else e) (hE : ∀ (m : Nat), F (m + 1) (l.length : Int) = kk) :
    ∀ (m i : Nat), i ≤ l.length → l.length - i < m → F m (i : Int) = bif (l.drop i).all p then kk else e
  | 0, i, _, h => by omega
  | m + 1, i, h, hm => by
    by_cases hi : i < l.length
    · rw [hF m i _ hi rfl, wrapN (by omega), all_loop hl hF hE m (i + 1) (by omega) (by omega), List.drop_eq_getElem_cons hi, List.all_cons]
      cases p l[i] <;> rfl
    · obtain rfl : i = l.length := by omega
      rw [hE, List.drop_length]; rfl
theorem all_loop0 {α R : Type} {F : Nat → Int → Option R} {l : List α} {p : α → Bool} {kk e : Option R} (hl : l.length ≤ 1048576) {m : Nat} (hm : 2000000 ≤ m)
    (hF : ∀ (m i : Nat) (x : α), (hi : i < l.length) → l[i] = x → F (m + 1) (i : Int) = bif p x then F m (IntKind.wrap .i64 ((i : Int) + 1)) else e) (hE : ∀ (m : Nat), F (m + 1) (l.length : Int) = kk) :
    F m 0 = bif l.all p then kk else e := by
  have := all_loop hl hF hE m 0 (by omega) (by omega)
  simpa using this
/-- A loop that looks for the first. -/
theorem findI_loop {α : Type} {F : Nat → Int → Option Int} {l : List α} {p : α → Bool} (hl : l.length ≤ 1048576)
    (hF : ∀ (m i : Nat) (x : α), (hi : i < l.length) → l[i] = x → F (m + 1) (i : Int) = bif p x then some (i : Int) else F m (IntKind.wrap .i64 ((i : Int) + 1))) (hE : ∀ (m : Nat), F (m + 1) (l.length : Int) = some (-1)) :
    ∀ (m i : Nat), i ≤ l.length → l.length - i < m → ∃ j, F m (i : Int) = some j ∧ decide (j ≥ 0) = (l.drop i).any p
  | 0, i, _, h => by omega
  | m + 1, i, h, hm => by
    by_cases hi : i < l.length
    · rw [hF m i _ hi rfl, wrapN (by omega), List.drop_eq_getElem_cons hi, List.any_cons]
      obtain ⟨j, h1, h2⟩   := findI_loop hl hF hE m (i + 1) (by omega) (by omega)
      cases p l[i] with
      | true => exact ⟨i, rfl, by rw [dT (by omega), Bool.true_or]⟩
      | false => exact ⟨j, h1, by rw [Bool.false_or]; exact h2⟩
    · obtain rfl : i = l.length := by omega
      exact ⟨-1, hE m, by rw [List.drop_length]; rfl⟩
theorem findI_loop0 {α : Type} {F : Nat → Int → Option Int} {l : List α} {p : α → Bool} (hl : l.length ≤ 1048576) {m : Nat} (hm : 2000000 ≤ m)
    (hF : ∀ (m i : Nat) (x : α), (hi : i < l.length) → l[i] = x → F (m + 1) (i : Int) = bif p x then some (i : Int) else F m (IntKind.wrap .i64 ((i : Int) + 1))) (hE : ∀ (m : Nat), F (m + 1) (l.length : Int) = some (-1)) :
    ∃ j, F m 0 = some j ∧ decide (j ≥ 0) = l.any p := by
  have   := findI_loop hl hF hE m 0 (by omega) (by omega)
  simpa using this
/-- A list made out of a list, one by one, where more is to be known of each. -/
theorem map_loopM {α β R : Type} {f : α → β} {l3 : Nat → Option (List β) → Int → Option R} {l : List α} {K : Option (List β) → Option R} {b : Nat} (hb : b ≤ 1000) (hl : l.length ≤ 1048576)
    (hF : ∀ (m i : Nat) (s : Option (List β)) (x : α), (hi : i < l.length) → l[i] = x → l3 (m + 1) s (i : Int) = (ckA b (sll s ++ [f x]).length).bind fun _ => l3 m (some (sll s ++ [f x])) (IntKind.wrap .i64 ((i : Int) + 1)))
    (hE : ∀ (m : Nat) (s : Option (List β)), l3 (m + 1) s (l.length : Int) = K s) : ∀ (m i : Nat) (s : Option (List β)), i ≤ l.length → l.length - i < m → (sll s).length + (l.length - i) ≤ 1048576 → l3 m s (i : Int) = K (if l.drop i = [] then s else some (sll s ++ (l.drop i).map f))
  | 0, i, s, _, h, _ => by omega
  | m + 1, i, s, h, hm, hs => by
    by_cases hi : i < l.length
    · rw [hF m i s _ hi rfl, ckA_ok (by simp; omega) hb, Option.bind_some, wrapN (by omega), map_loopM hb hl hF hE m (i + 1) _ (by omega) (by omega) (by rw [sll_some]; simp; omega), List.drop_eq_getElem_cons hi, if_neg (List.cons_ne_nil _ _), List.map_cons, sll_some, List.append_assoc]
      by_cases hn : l.drop (i + 1) = []
      · rw [if_pos hn, hn]; rfl
      · rw [if_neg hn]; rfl
    · obtain rfl : i = l.length := by omega
      rw [hE, List.drop_length, if_pos rfl]
theorem map_loop0 {α β R : Type} {f : α → β} {l3 : Nat → Option (List β) → Int → Option R} {l : List α} {K : Option (List β) → Option R} {b : Nat} (hb : b ≤ 1000) (hl : l.length ≤ 1048576) {m : Nat} (hm : 2000000 ≤ m)
    (hF : ∀ (m i : Nat) (s : Option (List β)) (x : α), (hi : i < l.length) → l[i] = x → l3 (m + 1) s (i : Int) = (ckA b (sll s ++ [f x]).length).bind fun _ => l3 m (some (sll s ++ [f x])) (IntKind.wrap .i64 ((i : Int) + 1)))
    (hE : ∀ (m : Nat) (s : Option (List β)), l3 (m + 1) s (l.length : Int) = K s) : l3 m none 0 = K (mapO f l) := by
  have := map_loopM hb hl hF hE m 0 none (by omega) (by omega) (by show 0 + _ ≤ _; omega)
  rw [show ((0 : Nat) : Int) = 0 from rfl, List.drop_zero] at this
  rw [this]; rfl
theorem idx_at {α : Type} {l : List α} {i : Nat} {x : α} (hi : i < l.length) (e : l[i] = x) : idx l (i : Int) = some x := by
  rw [idx_nat, List.getElem?_eq_getElem hi, e]

/-! #### What they are -/
abbrev C20 := tabularyref20_Col
abbrev S20 := tabularyref20_Stat
def gc (c : C20) : stat_Col := ⟨c.fKind, c.fNulls, c.fDistinct, mapO gv (sll c.fHist), some (sll c.fSample), ⟨c.fSketch⟩⟩
def gs (s : S20) : stat_Stat := ⟨s.fRows, mapO gc (sll s.fCols)⟩
theorem gc_W {c : C20} (h : W_tabularyref20_Col c) : W_stat_Col (gc c) := ⟨h.1, h.2.1, h.2.2.1, given_W h.2.2.2.1, h.2.2.2.2.1, h.2.2.2.2.2⟩
theorem gs_W {s : S20} (h : W_tabularyref20_Stat s) : W_stat_Stat (gs s) := by
  refine ⟨h.1, by show (sll (mapO gc _)).length ≤ _; rw [sll_mapO, List.length_map]; exact h.2.1, fun x hx => ?_⟩
  have hx' : x ∈ sll (mapO gc (sll s.fCols)) := hx
  rw [sll_mapO] at hx'
  obtain ⟨c, hc, rfl⟩ := List.mem_map.1 hx'
  exact gc_W (h.2.2 c hc)
def greatC (c : C20) : Bool := decide (((sll c.fHist).length : Int) > 60) || decide (((sll c.fSample).length : Int) > 70)
def greatS (s : S20) : Bool := decide (((sll s.fCols).length : Int) > 12) || (sll s.fCols).any greatC
theorem great_ok {s : S20} (hs : W_tabularyref20_Stat s) {n : Nat} (h : 2000010 ≤ n) : law20_Great n s = some (greatS s) := by
  obtain ⟨n, rfl⟩ : ∃ k, n = k + 1 := ⟨n - 1, by omega⟩
  unfold law20_Great greatS
  rw [at1_succ]
  cases hd : decide (((sll s.fCols).length : Int) > 12) with
  | true => rfl
  | false =>
    rw [cond_false, Bool.false_or]
    show law20_Great_l4 n s (fun _ => some false) n 0 = _
    rw [all_loop0 (F := fun m i => law20_Great_l4 n s (fun _ => some false) m i) (l := sll s.fCols) (p := fun c => !greatC c) (kk := some false) (e := some true) hs.2.1 (by omega) (fun m i x hi e => ?_) (fun m => ?_)]
    · have : (sll s.fCols).any greatC = !(sll s.fCols).all fun c => !greatC c := by rw [List.any_eq_not_all_not]
      rw [this]
      cases (sll s.fCols).all fun c => !greatC c <;> rfl
    · show law20_Great_l4 _ _ _ _ _ = _
      rw [law20_Great_l4, dT (by omega), cond_true, idx_at hi e, Option.bind_some]
      show (bif greatC x then _ else _) = _
      cases greatC x <;> rfl
    · show law20_Great_l4 _ _ _ _ _ = _
      rw [law20_Great_l4, dF (by omega), cond_false]
theorem given20_ok {s : S20} (hs : W_tabularyref20_Stat s) {n : Nat} (h : 2000020 ≤ n) : law20_Given n s = some (gs s) := by
  obtain ⟨n, rfl⟩ : ∃ k, n = k + 1 := ⟨n - 1, by omega⟩
  unfold law20_Given
  rw [at1_succ]
  unfold withK
  refine Eq.trans (map_loop0 (f := gc) (l := sll s.fCols) (l3 := fun m st i => law20_Given_l3 n s _ m st i) (K := fun | none => some (stat_Stat.mk s.fRows none) | (some y3) => some (stat_Stat.mk s.fRows (some y3))) (b := 136) (by omega) hs.2.1 (m := n) (by omega) (fun m i st x hi e => ?_) (fun m st => ?_)) ?_
  · · have hx : W_tabularyref20_Col x := hs.2.2 x (by rw [← e]; exact List.getElem_mem hi)
      have key : (x : C20) → W_tabularyref20_Col x → (K : Option (List api_Value) → Option stat_Stat) → (bif (sll x.fSample).isEmpty then (ckA 40 ([] : List api_Value).length).bind fun _ => K (some ([] : List api_Value)) else (ckA 40 (([] : List api_Value) ++ (sll x.fSample)).length).bind fun _ => K (some (([] : List api_Value) ++ (sll x.fSample)))) = K (some (sll x.fSample)) := fun x hx K => by
        cases hs : sll x.fSample with
        | nil => rw [List.isEmpty_nil, cond_true, ckA_ok (by simp) (by omega)]; rfl
        | cons v l =>
          have := hx.2.2.2.2.1.1
          rw [hs] at this
          rw [List.isEmpty_cons, cond_false, ckA_ok (by rw [List.nil_append]; omega) (by omega)]; rfl
      cases st with
      | none =>
        show law20_Given_l3 _ _ _ _ _ _ = _
        rw [law20_Given_l3, dT (by omega), cond_true, idx_at hi e, Option.bind_some, given_ok hx.2.2.2.1 (by omega), Option.bind_some]
        exact key x hx (fun sm => (ckA 136 ([(stat_Col.mk x.fKind x.fNulls x.fDistinct (mapO gv (sll x.fHist)) sm (hll_Sketch.mk x.fSketch))] : List stat_Col).length).bind fun _ => law20_Given_l3 n s _ m (some ([(stat_Col.mk x.fKind x.fNulls x.fDistinct (mapO gv (sll x.fHist)) sm (hll_Sketch.mk x.fSketch))] : List stat_Col)) (IntKind.wrap .i64 ((i : Int) + 1)))
      | some y =>
        show law20_Given_l3 _ _ _ _ _ _ = _
        rw [law20_Given_l3, dT (by omega), cond_true, idx_at hi e, Option.bind_some, given_ok hx.2.2.2.1 (by omega), Option.bind_some]
        exact key x hx (fun sm => (ckA 136 (y ++ ([(stat_Col.mk x.fKind x.fNulls x.fDistinct (mapO gv (sll x.fHist)) sm (hll_Sketch.mk x.fSketch))] : List stat_Col)).length).bind fun _ => law20_Given_l3 n s _ m (some (y ++ ([(stat_Col.mk x.fKind x.fNulls x.fDistinct (mapO gv (sll x.fHist)) sm (hll_Sketch.mk x.fSketch))] : List stat_Col))) (IntKind.wrap .i64 ((i : Int) + 1)))
  · cases st with
    | none =>
      show law20_Given_l3 _ _ _ _ _ _ = _
      rw [law20_Given_l3, dF (by omega), cond_false]
    | some y =>
      show law20_Given_l3 _ _ _ _ _ _ = _
      rw [law20_Given_l3, dF (by omega), cond_false]
  · unfold gs
    cases mapO gc (sll s.fCols) <;> rfl

/-! #### May it be? -/
def rightK (x : Nat → Int) : Bool := (List.range 64).all fun i => !decide (x i > 59)
def sampOk (k : Int) (v : api_Value) : Bool := vRight v && (v.fKind == 0 || v.fKind == k)
def firstOk (k : Int) : List HB → Bool
  | [] => true
  | b :: _ => b.fLow.fKind == k
theorem ckI_ok {n : Nat} {i : Int} (h : 0 ≤ i ∧ i < n) : ckI n i = some () := by unfold ckI; rw [if_pos h]
theorem range_all {R : Type} {F : Nat → Int → Option R} {p : Nat → Bool} {kk e : Option R} {N : Nat} (hN : N ≤ 1048576) {m : Nat} (hm : 2000000 ≤ m)
    (hF : ∀ (m i : Nat), i < N → F (m + 1) (i : Int) = bif p i then F m (IntKind.wrap .i64 ((i : Int) + 1)) else e) (hE : ∀ (m : Nat), F (m + 1) (N : Int) = kk) :
    F m 0 = bif (List.range N).all p then kk else e :=
  all_loop0 (l := List.range N) (by simpa using hN) hm (fun m i x hi e => by
    have : i = x := by simpa using e
    subst this
    exact hF m i (by simpa using hi)) (fun m => by rw [List.length_range]; exact hE m)
theorem hll_Right_ok (x : Nat → Int) {n : Nat} (h : 2000010 ≤ n) : hll_Right n ⟨x⟩ = some (rightK x) := by
  obtain ⟨n, rfl⟩ : ∃ k, n = k + 1 := ⟨n - 1, by omega⟩
  unfold hll_Right
  rw [at1_succ]
  show hll_Right_l2 n ⟨x⟩ (fun _ => some true) n 0 = _
  rw [range_all (F := fun m i => hll_Right_l2 n ⟨x⟩ (fun _ => some true) m i) (N := 64) (p := fun i => !decide (x i > 59)) (kk := some true) (e := some false) (by omega) (by omega) (fun m i hi => ?_) (fun m => ?_)]
  · unfold rightK; cases (List.range 64).all fun i => !decide (x i > 59) <;> rfl
  · show hll_Right_l2 _ _ _ _ _ = _
    rw [hll_Right_l2, dT (by omega), cond_true, ckI_ok (by omega), Option.bind_some, Int.toNat_natCast]
    show (bif decide (x i > 59) then _ else _) = _
    cases decide (x i > 59) <;> rfl
  · show hll_Right_l2 _ _ _ _ _ = _
    rw [hll_Right_l2]; rfl
theorem contains_ok {l : Option (List api_Value)} (hl : (sll l).length ≤ 1048576) {k a b : Int} {h' : Option (List HB)} {s' : Option (List api_Value)} {x' : Nat → Int} {n : Nat} (h : 2000010 ≤ n) :
    slices_ContainsFunc_Value_stat_column_2 n l k a b h' s' x' = some (!(sll l).all (sampOk k)) := by
  obtain ⟨n, rfl⟩ : ∃ k, n = k + 2 := ⟨n - 2, by omega⟩
  unfold slices_ContainsFunc_Value_stat_column_2
  rw [at1_succ]
  unfold slices_IndexFunc_Value_stat_column_2
  rw [at1_succ]
  obtain ⟨j, h1, h2⟩ := findI_loop0 (l := sll l) (p := fun v => !sampOk k v) (F := fun m i => slices_IndexFunc_Value_stat_column_2_l2 n l k a b h' s' x' (fun _ => some (-1)) m i) (m := n) hl (by omega) (fun m i v hi e => by
    show slices_IndexFunc_Value_stat_column_2_l2 _ _ _ _ _ _ _ _ _ _ _ = _
    rw [slices_IndexFunc_Value_stat_column_2_l2, dT (by omega), cond_true, idx_at hi e, Option.bind_some]
    obtain ⟨n, rfl⟩ : ∃ k, n = k + 3 := ⟨n - 3, by omega⟩
    unfold stat_column_2
    rw [at1_succ, value_Right_ok v (by omega), Option.bind_some, Option.bind_some]
    have : ((!vRight v) || ((v.fKind != 0) && (v.fKind != k))) = !sampOk k v := by
      unfold sampOk
      show (_ || (!(v.fKind == 0) && !(v.fKind == k))) = _
      cases vRight v <;> cases v.fKind == 0 <;> cases v.fKind == k <;> rfl
    rw [this]) (fun m => by
    show slices_IndexFunc_Value_stat_column_2_l2 _ _ _ _ _ _ _ _ _ _ _ = _
    rw [slices_IndexFunc_Value_stat_column_2_l2, dF (by omega), cond_false])
  show (slices_IndexFunc_Value_stat_column_2_l2 n l k a b h' s' x' (fun _ => some (-1)) n 0).bind _ = _
  rw [h1, Option.bind_some, h2]
  congr 1
  rw [List.any_eq_not_all_not]
  simp
theorem stat_column_1_ok (a b : Int) {n : Nat} (h : 1 ≤ n) : stat_column_1 n a b = some (decide (a ≥ 0) && decide (a ≤ b)) := by
  obtain ⟨n, rfl⟩ : ∃ k, n = k + 1 := ⟨n - 1, by omega⟩
  rfl
end Go.Pl
