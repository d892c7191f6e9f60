import Derived.Test.YtmdjdpnmbgdngaaRSA
set_option linter.unusedVariables false
set_option linter.unusedSimpArgs false
set_option maxRecDepth 100000
/-! ### Lists that are the same but for the order, and in which what is alike stands in its order -/
namespace Go.Pl
open Go Go.Ab
variable {α : Type}

/-- The same up to order; what is alike keeps its order. -/
structure St (c : α → α → Int) (X Y : List α) : Prop where
  perm : X.Perm Y
  flt : ∀ y, X.filter (fun x => c y x == 0) = Y.filter (fun x => c y x == 0)
theorem St.refl (c : α → α → Int) (X : List α) : St c X X := ⟨.refl _, fun _ => rfl⟩
theorem St.trans {c : α → α → Int} {X Y Z : List α} (h : St c X Y) (k : St c Y Z) : St c X Z := ⟨h.perm.trans k.perm, fun y => (h.flt y).trans (k.flt y)⟩
theorem St.app {c : α → α → Int} {X Y X' Y' : List α} (h : St c X Y) (k : St c X' Y') : St c (X ++ X') (Y ++ Y') := ⟨h.perm.append k.perm, fun y => by rw [List.filter_append, List.filter_append, h.flt, k.flt]⟩
theorem St.len {c : α → α → Int} {X Y : List α} (h : St c X Y) : X.length = Y.length := h.perm.length_eq
theorem St.mem {c : α → α → Int} {X Y : List α} (h : St c X Y) {x : α} : x ∈ X ↔ x ∈ Y := h.perm.mem_iff
/-- Two stretches change places: all of the second is less than all of the first. -/
theorem St.swap {c : α → α → Int} (hc : Ord3 c) {U V : List α} (h : ∀ u, u ∈ U → ∀ v, v ∈ V → c v u < 0) : St c (U ++ V) (V ++ U) := by
  refine ⟨List.perm_append_comm, fun y => ?_⟩
  rw [List.filter_append, List.filter_append]
  by_cases hu : ∃ u, u ∈ U ∧ c y u = 0
  · obtain ⟨u, hu1, hu2⟩ := hu
    have : V.filter (fun x => c y x == 0) = [] := by
      rw [List.filter_eq_nil_iff]
      intro v hv
      have h1 := h u hu1 v hv
      have h2 := (hc.left (z := v) hu2)
      have h3 := hc.anti v u
      simp only [beq_iff_eq]
      omega
    rw [this]; simp
  · have : U.filter (fun x => c y x == 0) = [] := by
      rw [List.filter_eq_nil_iff]
      intro u hu'
      simp only [beq_iff_eq]
      exact fun e => hu ⟨u, hu', e⟩
    rw [this]; simp
/-- Sorted: no later one is less. -/
def Sd (c : α → α → Int) (X : List α) : Prop := X.Pairwise fun x y => c x y ≤ 0
theorem Sd.app {c : α → α → Int} {X Y : List α} : Sd c (X ++ Y) ↔ Sd c X ∧ Sd c Y ∧ ∀ x, x ∈ X → ∀ y, y ∈ Y → c x y ≤ 0 := List.pairwise_append
/-- There is one sorted list of them alone. -/
theorem St.uniq {c : α → α → Int} (hc : Ord3 c) : ∀ {X Y : List α}, St c X Y → Sd c X → Sd c Y → X = Y
  | [], Y, h, _, _ => by have := h.len; exact (List.length_eq_zero_iff.1 this.symm).symm
  | x :: X, [], h, _, _ => by have := h.len; simp at this
  | x :: X, y :: Y, h, hx, hy => by
    have ex := List.pairwise_cons.1 hx
    have ey := List.pairwise_cons.1 hy
    -- the heads are alike
    have hxy : c x y = 0 := by
      have m1 : x ∈ y :: Y := h.mem.1 (by simp)
      have m2 : y ∈ x :: X := h.mem.2 (by simp)
      have a := hc.anti x y
      rcases List.mem_cons.1 m1 with e | m1
      · rw [e, hc.self]
      · rcases List.mem_cons.1 m2 with e | m2
        · rw [← e, hc.self]
        · have := ey.1 x m1
          have := ex.1 y m2
          omega
    have f := h.flt x
    rw [List.filter_cons_of_pos (by simp [hc.self]), List.filter_cons_of_pos (by simp [hxy])] at f
    obtain ⟨rfl, f2⟩ := List.cons.inj f
    congr 1
    refine St.uniq hc ⟨h.perm.cons_inv, fun z => ?_⟩ ex.2 ey.2
    have g := h.flt z
    by_cases hz : c z x = 0
    · rw [List.filter_cons_of_pos (by simp [hz]), List.filter_cons_of_pos (by simp [hz])] at g
      exact (List.cons.inj g).2
    · rwa [List.filter_cons_of_neg (by simpa using hz), List.filter_cons_of_neg (by simpa using hz)] at g
/-- One is put into a sorted list from behind. -/
theorem ins_ok {c : α → α → Int} (hc : Ord3 c) {A B : List α} {x : α} (h : Sd c (A ++ B)) (hB : ∀ b, b ∈ B → c x b < 0) (hA : ∀ a, A.getLast? = some a → c a x ≤ 0) : Sd c (A ++ x :: B) ∧ St c ((A ++ B) ++ [x]) (A ++ x :: B) := by
  obtain ⟨h1, h2, h3⟩ := Sd.app.1 h
  have hall : ∀ a, a ∈ A → c a x ≤ 0 := by
    intro a ha
    rcases List.eq_nil_or_concat A with rfl | ⟨A', l, rfl⟩
    · cases ha
    · have hl := hA l (by simp)
      rw [List.concat_eq_append] at ha h1
      rcases List.mem_append.1 ha with ha | ha
      · exact hc.trans _ _ _ ((Sd.app.1 h1).2.2 a ha l (by simp)) hl
      · simp at ha; subst ha; exact hl
  refine ⟨Sd.app.2 ⟨h1, List.pairwise_cons.2 ⟨fun b hb => by have := hB b hb; omega, h2⟩, fun a ha y hy => ?_⟩, ?_⟩
  · rcases List.mem_cons.1 hy with rfl | hy
    · exact hall a ha
    · exact h3 a ha y hy
  · have := (St.refl c A).app (St.swap hc (U := B) (V := [x]) fun u hu v hv => by simp at hv; subst hv; exact hB u hu)
    rw [List.append_assoc]
    exact this
theorem sd_one {c : α → α → Int} (x : α) : Sd c [x] := List.pairwise_singleton _ _
theorem sd_nil {c : α → α → Int} : Sd c ([] : List α) := List.Pairwise.nil

/-! ### Places in lists -/
theorem idx_pre (p : List α) (x : α) (s : List α) {i : Int} (h : i = (p.length : Int)) : idx (p ++ x :: s) i = some x := by
  subst h; rw [idx_nat]; simp
theorem set_pre (p : List α) (x y : α) (s : List α) {i : Int} (h : i = (p.length : Int)) : (p ++ x :: s).set (Int.toNat i) y = p ++ y :: s := by
  subst h; rw [Int.toNat_natCast]; simp
end Go.Pl

set_option linter.unusedVariables false
set_option linter.unusedSimpArgs false
set_option maxRecDepth 100000
namespace Go.Pl
open Go Go.Ab

/-! ### The order of keys -/
theorem neg_ord {α : Type} {c : α → α → Int} (h : Ord3 c) : Ord3 fun x y => -c x y := ⟨fun x y => by have := h.anti x y; omega, fun x y z h1 h2 => by
  have a1 := h.anti x y
  have a2 := h.anti y z
  have a3 := h.anti x z
  have := h.trans z y x (by omega) (by omega)
  omega⟩
theorem then_ord {α : Type} {c d : α → α → Int} (h : Ord3 c) (k : Ord3 d) : Ord3 fun x y => if c x y ≠ 0 then c x y else d x y := by
  refine ⟨fun x y => ?_, fun x y z h1 h2 => ?_⟩
  · have a := h.anti x y
    have b := k.anti x y
    by_cases e : c x y = 0
    · rw [if_neg (show ¬ c y x ≠ 0 by omega), if_neg (show ¬ c x y ≠ 0 by omega)]; exact b
    · rw [if_pos (show c y x ≠ 0 by omega), if_pos e]; exact a
  · have a1 := h.anti x y
    have a2 := h.anti y z
    have a3 := h.anti x z
    have t1 := h.trans x y z
    have t2 := h.trans y z x
    have t3 := h.trans z x y
    have u := k.trans x y z
    by_cases e1 : c x y = 0
    · by_cases e2 : c y z = 0
      · rw [if_neg (by simpa using e1)] at h1
        rw [if_neg (by simpa using e2)] at h2
        have e3 : c x z = 0 := by
          have := h.left (z := z) e1
          omega
        rw [if_neg (by simpa using e3)]; exact u h1 h2
      · rw [if_pos e2] at h2
        have l := h.left (z := z) e1
        have e3 : c x z ≠ 0 := by omega
        rw [if_pos e3]; omega
    · rw [if_pos e1] at h1
      have q1 : c y z ≤ 0 := by
        by_cases e2 : c y z = 0
        · omega
        · rw [if_pos e2] at h2; exact h2
      have q2 := t1 h1 q1
      have e3 : c x z ≠ 0 := by
        intro e
        have := t2 q1 (by omega)
        omega
      rw [if_pos e3]; exact q2
theorem byC_ord : ∀ (ks : List api_Key), Ord3 fun a b : List api_Value => byC a b ks
  | [] => ⟨fun _ _ => rfl, fun _ _ _ _ _ => Int.le_refl _⟩
  | k :: ks => by
    have h0 : Ord3 fun a b : List api_Value => vCmp (rAt a k.fOut) (rAt b k.fOut) := ord_map vCmp_ord (fun a => rAt a k.fOut)
    have h1 : Ord3 fun a b : List api_Value => if k.fDesc then -vCmp (rAt a k.fOut) (rAt b k.fOut) else vCmp (rAt a k.fOut) (rAt b k.fOut) := by
      cases k.fDesc with
      | true => exact neg_ord h0
      | false => exact h0
    exact then_ord h1 (byC_ord ks)
def cB (o : Option (List api_Key)) (x y : Row) : Int := byC (sll x) (sll y) (sll o)
theorem cB_ord (o : Option (List api_Key)) : Ord3 (cB o) := ord_map (byC_ord (sll o)) sll
theorem sort1_ok {o : Option (List api_Key)} (ho : (sll o).length ≤ 1048576) {x y : Row} (hx : WRow x) (hy : WRow y) {n : Nat} (h : 2000011 ≤ n) : row_Sort_1 n x y o = some (cB o x y) := by
  obtain ⟨n, rfl⟩ : ∃ k, n = k + 1 := ⟨n - 1, by omega⟩
  unfold row_Sort_1
  rw [at1_succ, row_By_ok ho hx hy (by omega)]; rfl
theorem wrapE {x : Int} {v : Nat} (h : x = (v : Int)) (hv : v < 1000000000000) : IntKind.wrap .i64 x = (v : Int) := by
  subst h; exact wrapI (by omega) (by omega)
abbrev WL (l : List Row) : Prop := ∀ x, x ∈ l → WRow x

/-! ### Insertion -/
theorem ins_l4 {n : Nat} (hn : 2000011 ≤ n) {o : Option (List api_Key)} (ho : (sll o).length ≤ 1048576) : ∀ (k : Nat) (A : List Row) (x : Row) (B Q P : List Row) (m : Nat), A.length = k → WRow x → WL A → k < m → P.length + k < 1000000000 →
    ∃ A1 A2, A = A1 ++ A2 ∧ (∀ a, a ∈ A2 → cB o x a < 0) ∧ (∀ a, A1.getLast? = some a → cB o a x ≤ 0) ∧ ∀ (K : List Row → Option (List Row)), slices_insertionSortCmpFunc_Value_row_Sort_1_r_l4 n o (P.length : Int) K m (P ++ (A ++ x :: (B ++ Q))) ((P.length + A.length : Nat) : Int) = K (P ++ (A1 ++ x :: ((A2 ++ B) ++ Q)))
  | 0, A, x, B, Q, P, m, hA, hx, hW, hm, hs => by
    obtain ⟨m, rfl⟩ : ∃ j, m = j + 1 := ⟨m - 1, by omega⟩
    obtain rfl := List.eq_nil_of_length_eq_zero hA
    refine ⟨[], [], rfl, fun a ha => (by cases ha), fun a ha => (by simp at ha), fun K => ?_⟩
    rw [slices_insertionSortCmpFunc_Value_row_Sort_1_r_l4, dF (by simp), cond_false]
    rfl
  | k + 1, A, x, B, Q, P, m, hA, hx, hW, hm, hs => by
    obtain ⟨m, rfl⟩ : ∃ j, m = j + 1 := ⟨m - 1, by omega⟩
    rcases List.eq_nil_or_concat A with rfl | ⟨A', a, rfl⟩
    · simp at hA
    rw [List.concat_eq_append] at hA hW ⊢
    have hA' : A'.length = k := by simpa using hA
    have ha : WRow a := hW a (by simp)
    have e0 : P ++ ((A' ++ [a]) ++ x :: (B ++ Q)) = (P ++ (A' ++ [a])) ++ x :: (B ++ Q) := by simp
    have e1 : P ++ ((A' ++ [a]) ++ x :: (B ++ Q)) = (P ++ A') ++ a :: (x :: (B ++ Q)) := by simp
    have hl : P.length + (A' ++ [a]).length = P.length + A'.length + 1 := by simp; omega
    have i1 : idx (P ++ ((A' ++ [a]) ++ x :: (B ++ Q))) ((P.length + (A' ++ [a]).length : Nat) : Int) = some x := by rw [e0]; exact idx_pre _ _ _ (by simp)
    have w1 : IntKind.wrap .i64 (((P.length + (A' ++ [a]).length : Nat) : Int) - 1) = ((P.length + A'.length : Nat) : Int) := by rw [hl]; exact wrapE (by omega) (by omega)
    have i2 : idx (P ++ ((A' ++ [a]) ++ x :: (B ++ Q))) ((P.length + A'.length : Nat) : Int) = some a := by rw [e1]; exact idx_pre _ _ _ (by simp)
    have s1 : (P ++ ((A' ++ [a]) ++ x :: (B ++ Q))).set (Int.toNat ((P.length + (A' ++ [a]).length : Nat) : Int)) a = (P ++ A') ++ a :: (a :: (B ++ Q)) := by
      rw [e0, set_pre _ _ _ _ (by simp)]; simp
    have i3 : idx ((P ++ A') ++ a :: (a :: (B ++ Q))) ((P.length + A'.length : Nat) : Int) = some a := idx_pre _ _ _ (by simp)
    have s2 : ((P ++ A') ++ a :: (a :: (B ++ Q))).set (Int.toNat ((P.length + A'.length : Nat) : Int)) x = P ++ (A' ++ x :: ((a :: B) ++ Q)) := by
      rw [set_pre _ _ _ _ (by simp)]; simp
    by_cases hc : cB o x a < 0
    · obtain ⟨A1, A2, h1, h2, h3, h4⟩ := ins_l4 hn ho k A' x (a :: B) Q P m hA' hx (fun y hy => hW y (by simp [hy])) (by omega) (by omega)
      refine ⟨A1, A2 ++ [a], by rw [h1]; simp, fun y hy => ?_, h3, fun K => ?_⟩
      · rcases List.mem_append.1 hy with hy | hy
        · exact h2 y hy
        · simp at hy; subst hy; exact hc
      · rw [slices_insertionSortCmpFunc_Value_row_Sort_1_r_l4, dT (by simp; omega), cond_true, i1, Option.bind_some, w1, i2, Option.bind_some, sort1_ok ho hx ha hn, Option.bind_some, dT hc, cond_true, s1, i3, Option.bind_some, s2, h4 K]
        simp
    · refine ⟨A' ++ [a], [], by simp, fun y hy => (by cases hy), fun y hy => ?_, fun K => ?_⟩
      · have : y = a := by simpa using hy.symm
        subst this
        have := (cB_ord o).anti y x
        omega
      · rw [slices_insertionSortCmpFunc_Value_row_Sort_1_r_l4, dT (by simp; omega), cond_true, i1, Option.bind_some, w1, i2, Option.bind_some, sort1_ok ho hx ha hn, Option.bind_some, dF hc, cond_false]
        simp
theorem ins_l1 {n : Nat} (hn : 2000011 ≤ n) (hn2 : n < 100000000) {o : Option (List api_Key)} (ho : (sll o).length ≤ 1048576) : ∀ (T S Q P : List Row) (m : Nat), Sd (cB o) S → WL S → WL T → T.length < m → P.length + S.length + T.length < 1000000 →
    ∃ S', Sd (cB o) S' ∧ St (cB o) (S ++ T) S' ∧ slices_insertionSortCmpFunc_Value_row_Sort_1_r_l1 n o (P.length : Int) ((P.length + S.length + T.length : Nat) : Int) m (P ++ (S ++ (T ++ Q))) ((P.length + S.length : Nat) : Int) = some (P ++ (S' ++ Q))
  | [], S, Q, P, m, hS, hWS, hWT, hm, hs => by
    obtain ⟨m, rfl⟩ : ∃ j, m = j + 1 := ⟨m - 1, by omega⟩
    refine ⟨S, hS, by rw [List.append_nil]; exact St.refl _ _, ?_⟩
    rw [slices_insertionSortCmpFunc_Value_row_Sort_1_r_l1, dF (by simp), cond_false]
    rfl
  | x :: T, S, Q, P, m, hS, hWS, hWT, hm, hs => by
    obtain ⟨m, rfl⟩ : ∃ j, m = j + 1 := ⟨m - 1, by omega⟩
    rw [List.length_cons] at hm hs
    obtain ⟨A1, A2, h1, h2, h3, h4⟩ := ins_l4 hn ho S.length S x [] (T ++ Q) P n rfl (hWT x (by simp)) hWS (by omega) (by omega)
    have hi := ins_ok (cB_ord o) (A := A1) (B := A2) (x := x) (by rw [← h1]; exact hS) h2 h3
    rw [← h1] at hi
    obtain ⟨S', g1, g2, g3⟩ := ins_l1 hn hn2 ho T (A1 ++ x :: A2) Q P m hi.1 (fun y hy => by
      have := (hi.2.mem).2 hy
      rcases List.mem_append.1 this with h | h
      · exact hWS y h
      · simp at h; subst h; exact hWT _ (by simp)) (fun y hy => hWT y (by simp [hy])) (by omega) (by have := hi.2.len; simp at this; simp; omega)
    have hl : (A1 ++ x :: A2).length = S.length + 1 := by have := hi.2.len; simp at this; simp; omega
    refine ⟨S', g1, ?_, ?_⟩
    · have := (hi.2.app (St.refl (cB o) T)).trans g2
      simpa using this
    · rw [slices_insertionSortCmpFunc_Value_row_Sort_1_r_l1, dT (by rw [List.length_cons]; omega), cond_true]
      unfold withK
      refine Eq.trans (h4 _) ?_
      rw [hl] at g3
      rw [wrapE (v := P.length + (S.length + 1)) (by omega) (by omega), show (((P.length + S.length + (x :: T).length : Nat)) : Int) = ((P.length + (S.length + 1) + T.length : Nat) : Int) by rw [List.length_cons]; omega]
      rw [← g3]
      congr 1
      simp
theorem insertion_ok {n : Nat} (hn : 2000020 ≤ n) (hn2 : n < 100000000) {o : Option (List api_Key)} (ho : (sll o).length ≤ 1048576) (X Q P : List Row) (hW : WL X) (hs : P.length + X.length < 1000000) :
    ∃ X', Sd (cB o) X' ∧ St (cB o) X X' ∧ slices_insertionSortCmpFunc_Value_row_Sort_1_r n (P ++ (X ++ Q)) o (P.length : Int) ((P.length + X.length : Nat) : Int) = some (P ++ (X' ++ Q)) := by
  obtain ⟨n, rfl⟩ : ∃ k, n = k + 1 := ⟨n - 1, by omega⟩
  unfold slices_insertionSortCmpFunc_Value_row_Sort_1_r
  rw [at1_succ, wrapE (v := P.length + 1) (by omega) (by omega)]
  cases X with
  | nil =>
    refine ⟨[], sd_nil, St.refl _ _, ?_⟩
    obtain ⟨n, rfl⟩ : ∃ k, n = k + 1 := ⟨n - 1, by omega⟩
    rw [slices_insertionSortCmpFunc_Value_row_Sort_1_r_l1, dF (by simp; omega), cond_false]
  | cons x T =>
    rw [List.length_cons] at hs
    obtain ⟨S', g1, g2, g3⟩ := ins_l1 (n := n) (by omega) (by omega) ho T [x] Q P n (sd_one x) (fun y hy => by simp at hy; subst hy; exact hW _ (by simp)) (fun y hy => hW y (by simp [hy])) (by omega) (by simp; omega)
    refine ⟨S', g1, g2, ?_⟩
    rw [← g3]
    congr 1
    · rw [List.length_cons]; simp; omega

/-! ### Ranges swapped, stretches turned -/
theorem swp_l1 {n : Nat} : ∀ (A B U V M Q P : List Row) (m : Nat), A.length = B.length → U.length = V.length → A.length < m → P.length + U.length + A.length + M.length + V.length + B.length < 1000000 →
    slices_swapRangeCmpFunc_Value_row_Sort_1_r_l1 n (P.length : Int) ((P.length + U.length + A.length + M.length : Nat) : Int) ((U.length + A.length : Nat) : Int) m (P ++ (U ++ (A ++ (M ++ (V ++ (B ++ Q)))))) (U.length : Int) = some (P ++ (U ++ (B ++ (M ++ (V ++ (A ++ Q))))))
  | [], B, U, V, M, Q, P, m, hAB, hUV, hm, hs => by
    obtain ⟨m, rfl⟩ : ∃ j, m = j + 1 := ⟨m - 1, by omega⟩
    obtain rfl : B = [] := List.eq_nil_of_length_eq_zero hAB.symm
    rw [slices_swapRangeCmpFunc_Value_row_Sort_1_r_l1, dF (by simp), cond_false]
  | a :: A, [], U, V, M, Q, P, m, hAB, hUV, hm, hs => by simp at hAB
  | a :: A, b :: B, U, V, M, Q, P, m, hAB, hUV, hm, hs => by
    obtain ⟨m, rfl⟩ : ∃ j, m = j + 1 := ⟨m - 1, by omega⟩
    simp only [List.length_cons] at hAB hm hs ⊢
    have wb : IntKind.wrap .i64 (((P.length + U.length + (A.length + 1) + M.length : Nat) : Int) + (U.length : Int)) = ((P.length + U.length + (A.length + 1) + M.length + V.length : Nat) : Int) := wrapE (by omega) (by omega)
    have wa : IntKind.wrap .i64 ((P.length : Int) + (U.length : Int)) = ((P.length + U.length : Nat) : Int) := wrapE (by omega) (by omega)
    have eb : P ++ (U ++ ((a :: A) ++ (M ++ (V ++ ((b :: B) ++ Q))))) = (P ++ (U ++ ((a :: A) ++ (M ++ V)))) ++ b :: (B ++ Q) := by simp
    have ea : P ++ (U ++ ((a :: A) ++ (M ++ (V ++ ((b :: B) ++ Q))))) = (P ++ U) ++ a :: (A ++ (M ++ (V ++ ((b :: B) ++ Q)))) := by simp
    have i1 : idx (P ++ (U ++ ((a :: A) ++ (M ++ (V ++ ((b :: B) ++ Q)))))) ((P.length + U.length + (A.length + 1) + M.length + V.length : Nat) : Int) = some b := by rw [eb]; exact idx_pre _ _ _ (by simp; omega)
    have i2 : idx (P ++ (U ++ ((a :: A) ++ (M ++ (V ++ ((b :: B) ++ Q)))))) ((P.length + U.length : Nat) : Int) = some a := by rw [ea]; exact idx_pre _ _ _ (by simp)
    have s1 : (P ++ (U ++ ((a :: A) ++ (M ++ (V ++ ((b :: B) ++ Q)))))).set (Int.toNat ((P.length + U.length : Nat) : Int)) b = (P ++ (U ++ ((b :: A) ++ (M ++ V)))) ++ b :: (B ++ Q) := by
      rw [ea, set_pre _ _ _ _ (by simp)]; simp
    have i3 : idx ((P ++ (U ++ ((b :: A) ++ (M ++ V)))) ++ b :: (B ++ Q)) ((P.length + U.length + (A.length + 1) + M.length + V.length : Nat) : Int) = some b := idx_pre _ _ _ (by simp; omega)
    have s2 : ((P ++ (U ++ ((b :: A) ++ (M ++ V)))) ++ b :: (B ++ Q)).set (Int.toNat ((P.length + U.length + (A.length + 1) + M.length + V.length : Nat) : Int)) a = P ++ ((U ++ [b]) ++ (A ++ (M ++ ((V ++ [a]) ++ (B ++ Q))))) := by
      rw [set_pre _ _ _ _ (by simp; omega)]; simp
    have hrec := swp_l1 (n := n) A B (U ++ [b]) (V ++ [a]) M Q P m (by omega) (by simp; omega) (by omega) (by simp; omega)
    rw [slices_swapRangeCmpFunc_Value_row_Sort_1_r_l1, dT (by omega), cond_true, wb, i1, Option.bind_some, wa, i2, Option.bind_some, s1, i3, Option.bind_some, s2, wrapE (v := U.length + 1) (by omega) (by omega)]
    rw [show (U ++ [b]).length = U.length + 1 by simp] at hrec
    rw [show P.length + U.length + (A.length + 1) + M.length = P.length + (U.length + 1) + A.length + M.length by omega, show U.length + (A.length + 1) = U.length + 1 + A.length by omega, hrec]
    simp
end Go.Pl

set_option linter.unusedVariables false
set_option linter.unusedSimpArgs false
set_option maxRecDepth 100000
namespace Go.Pl
open Go Go.Ab

theorem swapR_ok {n : Nat} (hn : 1000001 ≤ n) (A B M Q P : List Row) (o : Option (List api_Key)) (hAB : A.length = B.length) (hs : P.length + A.length + M.length + B.length < 1000000) {a b k : Int} (ea : a = (P.length : Int)) (eb : b = ((P.length + A.length + M.length : Nat) : Int)) (ek : k = (A.length : Int)) :
    slices_swapRangeCmpFunc_Value_row_Sort_1_r n (P ++ (A ++ (M ++ (B ++ Q)))) o a b k = some (P ++ (B ++ (M ++ (A ++ Q)))) := by
  obtain ⟨n, rfl⟩ : ∃ k, n = k + 1 := ⟨n - 1, by omega⟩
  subst ea eb ek
  unfold slices_swapRangeCmpFunc_Value_row_Sort_1_r
  rw [at1_succ]
  have := swp_l1 (n := n) A B [] [] M Q P n hAB rfl (by omega) (by simp; omega)
  simpa using this
theorem rot_l2 {n : Nat} (hn : 1000001 ≤ n) (o : Option (List api_Key)) : ∀ (k : Nat) (U V P Q : List Row) (m : Nat), U.length + V.length ≤ k → 0 < U.length → 0 < V.length → k < m → P.length + U.length + V.length < 1000000 →
    ∃ P1 U0 V0 Q1, U0.length = V0.length ∧ P1 ++ (V0 ++ (U0 ++ Q1)) = P ++ (V ++ (U ++ Q)) ∧ P1.length + U0.length = P.length + U.length ∧ ∀ (K : List Row → Int → Option (List Row)), slices_rotateCmpFunc_Value_row_Sort_1_r_l2 n o ((P.length + U.length : Nat) : Int) K m (P ++ (U ++ (V ++ Q))) (U.length : Int) (V.length : Int) = K (P1 ++ (U0 ++ (V0 ++ Q1))) (U0.length : Int)
  | 0, U, V, P, Q, m, hk, h1, h2, hm, hs => by omega
  | k + 1, U, V, P, Q, m, hk, h1, h2, hm, hs => by
    obtain ⟨m, rfl⟩ : ∃ j, m = j + 1 := ⟨m - 1, by omega⟩
    rcases Nat.lt_trichotomy U.length V.length with hlt | heq | hgt
    · -- the second is longer
      obtain ⟨Va, Vb, rfl, hb⟩ : ∃ Va Vb, V = Va ++ Vb ∧ Vb.length = U.length := ⟨V.take (V.length - U.length), V.drop (V.length - U.length), (List.take_append_drop _ _).symm, by simp; omega⟩
      have hl : (Va ++ Vb).length = Va.length + Vb.length := List.length_append
      rw [hl] at hlt hk h2 hs
      obtain ⟨P1, U0, V0, Q1, g1, g2, g3, g4⟩ := rot_l2 hn o k Vb Va P (U ++ Q) m (by omega) (by omega) (by omega) (by omega) (by omega)
      refine ⟨P1, U0, V0, Q1, g1, by rw [g2]; simp, by omega, fun K => ?_⟩
      rw [slices_rotateCmpFunc_Value_row_Sort_1_r_l2, show ((U.length : Int) != ((Va ++ Vb).length : Int)) = true by rw [bne_iff_ne, hl]; omega, cond_true, dF (by rw [hl]; omega), cond_false]
      rw [show P ++ (U ++ ((Va ++ Vb) ++ Q)) = P ++ (U ++ (Va ++ (Vb ++ Q))) by simp]
      have w2 : IntKind.wrap .i64 (((P.length + U.length : Nat) : Int) + ((Va ++ Vb).length : Int)) = ((P.length + U.length + Va.length + Vb.length : Nat) : Int) := wrapE (by rw [hl]; omega) (by omega)
      have sw := swapR_ok hn U Vb Va Q P o hb.symm (by omega) (a := IntKind.wrap .i64 (((P.length + U.length : Nat) : Int) - (U.length : Int))) (b := IntKind.wrap .i64 (IntKind.wrap .i64 (((P.length + U.length : Nat) : Int) + ((Va ++ Vb).length : Int)) - (U.length : Int))) (k := (U.length : Int)) (wrapE (v := P.length) (by omega) (by omega)) (by rw [w2]; exact wrapE (by omega) (by omega)) rfl
      rw [sw, Option.bind_some]
      have e := g4 K
      rw [wrapE (v := Va.length) (by rw [hl]; omega) (by omega)]
      rw [show ((P.length + U.length : Nat) : Int) = ((P.length + Vb.length : Nat) : Int) by omega, show (U.length : Int) = (Vb.length : Int) by omega]
      exact e
    · refine ⟨P, U, V, Q, heq, rfl, rfl, fun K => ?_⟩
      rw [slices_rotateCmpFunc_Value_row_Sort_1_r_l2, show ((U.length : Int) != (V.length : Int)) = false by rw [heq]; simp, cond_false]
    · obtain ⟨Ua, Ub, rfl, ha⟩ : ∃ Ua Ub, U = Ua ++ Ub ∧ Ua.length = V.length := ⟨U.take V.length, U.drop V.length, (List.take_append_drop _ _).symm, by simp; omega⟩
      have hl : (Ua ++ Ub).length = Ua.length + Ub.length := List.length_append
      rw [hl] at hgt hk h1 hs
      obtain ⟨P1, U0, V0, Q1, g1, g2, g3, g4⟩ := rot_l2 hn o k Ub Ua (P ++ V) Q m (by omega) (by omega) (by omega) (by omega) (by rw [List.length_append]; omega)
      rw [List.length_append] at g3 g4
      refine ⟨P1, U0, V0, Q1, g1, by rw [g2]; simp, by rw [hl]; omega, fun K => ?_⟩
      rw [slices_rotateCmpFunc_Value_row_Sort_1_r_l2, show (((Ua ++ Ub).length : Int) != (V.length : Int)) = true by rw [bne_iff_ne, hl]; omega, cond_true, dT (by rw [hl]; omega), cond_true]
      rw [show P ++ ((Ua ++ Ub) ++ (V ++ Q)) = P ++ (Ua ++ (Ub ++ (V ++ Q))) by simp]
      have sw := swapR_ok hn Ua V Ub Q P o ha (by omega) (a := IntKind.wrap .i64 (((P.length + (Ua ++ Ub).length : Nat) : Int) - ((Ua ++ Ub).length : Int))) (b := ((P.length + (Ua ++ Ub).length : Nat) : Int)) (k := (V.length : Int)) (wrapE (v := P.length) (by rw [hl]; omega) (by omega)) (by rw [hl]; omega) (by omega)
      rw [sw, Option.bind_some]
      have e := g4 K
      rw [wrapE (v := Ub.length) (by rw [hl]; omega) (by omega)]
      rw [show ((P.length + (Ua ++ Ub).length : Nat) : Int) = ((P.length + V.length + Ub.length : Nat) : Int) by rw [hl]; omega, show (V.length : Int) = (Ua.length : Int) by omega, show P ++ (V ++ (Ub ++ (Ua ++ Q))) = (P ++ V) ++ (Ub ++ (Ua ++ Q)) by simp]
      exact e
theorem rotate_ok {n : Nat} (hn : 1000010 ≤ n) (o : Option (List api_Key)) (U V P Q : List Row) (h1 : 0 < U.length) (h2 : 0 < V.length) (hs : P.length + U.length + V.length + Q.length < 1000000) {a m b : Int} (ea : a = (P.length : Int)) (em : m = ((P.length + U.length : Nat) : Int)) (eb : b = ((P.length + U.length + V.length : Nat) : Int)) :
    slices_rotateCmpFunc_Value_row_Sort_1_r n (P ++ (U ++ (V ++ Q))) o a m b = some (P ++ (V ++ (U ++ Q))) := by
  obtain ⟨n, rfl⟩ : ∃ k, n = k + 1 := ⟨n - 1, by omega⟩
  subst ea em eb
  obtain ⟨P1, U0, V0, Q1, g1, g2, g3, g4⟩ := rot_l2 (n := n) (by omega) o (U.length + V.length) U V P Q n (Nat.le_refl _) h1 h2 (by omega) (by omega)
  unfold slices_rotateCmpFunc_Value_row_Sort_1_r
  rw [at1_succ, wrapE (v := U.length) (by omega) (by omega), wrapE (v := V.length) (by omega) (by omega)]
  unfold withK
  refine Eq.trans (g4 _) ?_
  show ((slices_swapRangeCmpFunc_Value_row_Sort_1_r n (P1 ++ (U0 ++ (V0 ++ Q1))) o (IntKind.wrap .i64 (((P.length + U.length : Nat) : Int) - (U0.length : Int))) ((P.length + U.length : Nat) : Int) (U0.length : Int)).bind _) = _
  have := swapR_ok (n := n) (by omega) U0 V0 [] Q1 P1 o g1 (by
    have q := congrArg List.length g2
    simp only [List.length_append] at q
    simp
    omega) (a := IntKind.wrap .i64 (((P.length + U.length : Nat) : Int) - (U0.length : Int))) (b := ((P.length + U.length : Nat) : Int)) (k := (U0.length : Int)) (wrapE (by omega) (by omega)) (by simp; omega) rfl
  simp only [List.nil_append] at this
  rw [this, Option.bind_some, g2]

/-! ### A search by halves -/
theorem bin_loop {R : Type} {F : (Int → Option R) → Nat → Int → Int → Option R} {p : Nat → Bool} {i0 j0 : Nat}
    (hF : ∀ K m i j, i0 ≤ i → i < j → j ≤ j0 → F K (m + 1) ((i : Nat) : Int) ((j : Nat) : Int) = bif p ((i + j) / 2) then F K m (((i + j) / 2 + 1 : Nat) : Int) (j : Int) else F K m (i : Int) (((i + j) / 2 : Nat) : Int))
    (hE : ∀ K m i, F K (m + 1) ((i : Nat) : Int) ((i : Nat) : Int) = K (i : Int)) (mono : ∀ h h', i0 ≤ h → h ≤ h' → h' < j0 → p h' = true → p h = true) :
    ∀ (k m i j : Nat), j - i ≤ k → k < m → i0 ≤ i → i ≤ j → j ≤ j0 → (∀ h, i0 ≤ h → h < i → p h = true) → (∀ h, j ≤ h → h < j0 → p h = false) →
      ∃ s, i ≤ s ∧ s ≤ j ∧ (∀ h, i0 ≤ h → h < s → p h = true) ∧ (∀ h, s ≤ h → h < j0 → p h = false) ∧ ∀ K, F K m (i : Int) (j : Int) = K (s : Int)
  | k, m, i, j, hk, hm, h0, hij, hj, h1, h2 => by
    obtain ⟨m, rfl⟩ : ∃ j, m = j + 1 := ⟨m - 1, by omega⟩
    by_cases e : i = j
    · subst e
      exact ⟨i, Nat.le_refl _, Nat.le_refl _, h1, h2, fun K => hE K m i⟩
    · obtain ⟨k, rfl⟩ : ∃ q, k = q + 1 := ⟨k - 1, by omega⟩
      cases hp : p ((i + j) / 2) with
      | true =>
        obtain ⟨s, g1, g2, g3, g4, g5⟩ := bin_loop hF hE mono k m ((i + j) / 2 + 1) j (by omega) (by omega) (by omega) (by omega) hj (fun h a b => mono h ((i + j) / 2) a (by omega) (by omega) hp) h2
        exact ⟨s, by omega, g2, g3, g4, fun K => by rw [hF K m i j h0 (by omega) hj, hp, cond_true]; exact g5 K⟩
      | false =>
        obtain ⟨s, g1, g2, g3, g4, g5⟩ := bin_loop hF hE mono k m i ((i + j) / 2) (by omega) (by omega) h0 (by omega) (by omega) h1 (fun h a b => by
          cases hh : p h with
          | false => rfl
          | true => have := mono ((i + j) / 2) h (by omega) a b hh; rw [hp] at this; cases this)
        exact ⟨s, g1, by omega, g3, g4, fun K => by rw [hF K m i j h0 (by omega) hj, hp, cond_false]; exact g5 K⟩
theorem mid_ok {i j : Nat} (h : i + j < 1000000000) : IntKind.wrap .i64 (iShr .u64 (IntKind.wrap .u64 (IntKind.wrap .i64 ((i : Int) + (j : Int)))) 1) = (((i + j) / 2 : Nat) : Int) := by
  rw [show IntKind.wrap .i64 ((i : Int) + (j : Int)) = ((i + j : Nat) : Int) from wrapE (by omega) (by omega), wrapU (by omega) (by omega)]
  have := shr_nat (i + j) 1 (by omega)
  rw [show iShr .u64 ((i + j : Nat) : Int) 1 = (((i + j) / 2 : Nat) : Int) from by simpa using this]
  exact wrapE rfl (by omega)
/-- What stands at a place. -/
def fD (D : List Row) (i : Nat) : Row := (D[i]?).getD none
theorem idx_fD (D : List Row) {i : Nat} (h : i < D.length) : idx D (i : Int) = some (fD D i) := by
  rw [idx_nat, fD, List.getElem?_eq_getElem h]; rfl
theorem fD_seg {P X Q : List Row} {i : Nat} (h : i < X.length) : fD (P ++ (X ++ Q)) (P.length + i) = X[i] := by
  unfold fD
  rw [List.getElem?_append_right (by omega), show P.length + i - P.length = i by omega, List.getElem?_append_left h, List.getElem?_eq_getElem h]; rfl
theorem sd_fD {c : Row → Row → Int} (hc : Ord3 c) {P X Q : List Row} (h : Sd c X) {i j : Nat} (h1 : P.length ≤ i) (h2 : i ≤ j) (h3 : j < P.length + X.length) : c (fD (P ++ (X ++ Q)) i) (fD (P ++ (X ++ Q)) j) ≤ 0 := by
  obtain ⟨a, rfl⟩ : ∃ a, i = P.length + a := ⟨i - P.length, by omega⟩
  obtain ⟨b, rfl⟩ : ∃ b, j = P.length + b := ⟨j - P.length, by omega⟩
  rw [fD_seg (by omega), fD_seg (by omega)]
  rcases Nat.lt_or_ge a b with hab | hab
  · exact List.pairwise_iff_getElem.1 h a b (by omega) (by omega) hab
  · obtain rfl : a = b := by omega
    rw [hc.self]; exact Int.le_refl _
theorem mem_fD {P X Q : List Row} {x : Row} (h : x ∈ X) : ∃ i, P.length ≤ i ∧ i < P.length + X.length ∧ fD (P ++ (X ++ Q)) i = x := by
  obtain ⟨i, hi, rfl⟩ := List.getElem_of_mem h
  exact ⟨P.length + i, by omega, by omega, fD_seg hi⟩
theorem w_fD {P X Q : List Row} (h : WL X) {i : Nat} (h1 : P.length ≤ i) (h2 : i < P.length + X.length) : WRow (fD (P ++ (X ++ Q)) i) := by
  obtain ⟨a, rfl⟩ : ∃ a, i = P.length + a := ⟨i - P.length, by omega⟩
  rw [fD_seg (by omega)]
  exact h _ (List.getElem_mem _)

/-! ### One at the head, or at the end, put in its place -/
theorem sym_l9 {n : Nat} : ∀ (Y P Q : List Row) (x : Row) (m : Nat), Y.length < m → P.length + Y.length < 1000000 → ∀ (K : List Row → Option (List Row)),
    slices_symMergeCmpFunc_Value_row_Sort_1_r_l9 n ((P.length + 1 + Y.length : Nat) : Int) K m (P ++ (x :: (Y ++ Q))) (P.length : Int) = K (P ++ (Y ++ (x :: Q)))
  | [], P, Q, x, m, hm, hs, K => by
    obtain ⟨m, rfl⟩ : ∃ j, m = j + 1 := ⟨m - 1, by omega⟩
    rw [slices_symMergeCmpFunc_Value_row_Sort_1_r_l9, wrapE (v := P.length) (by simp) (by simp at hs; omega), dF (by omega), cond_false]
    rfl
  | y :: Y, P, Q, x, m, hm, hs, K => by
    obtain ⟨m, rfl⟩ : ∃ j, m = j + 1 := ⟨m - 1, by omega⟩
    rw [List.length_cons] at hm hs
    have e1 : P ++ (x :: ((y :: Y) ++ Q)) = (P ++ [x]) ++ y :: (Y ++ Q) := by simp
    have i1 : idx (P ++ (x :: ((y :: Y) ++ Q))) ((P.length + 1 : Nat) : Int) = some y := by rw [e1]; exact idx_pre _ _ _ (by simp)
    have i2 : idx (P ++ (x :: ((y :: Y) ++ Q))) (P.length : Int) = some x := idx_pre _ _ _ rfl
    have s1 : (P ++ (x :: ((y :: Y) ++ Q))).set (Int.toNat (P.length : Int)) y = (P ++ [y]) ++ y :: (Y ++ Q) := by rw [set_pre _ _ _ _ rfl]; simp
    have i3 : idx ((P ++ [y]) ++ y :: (Y ++ Q)) ((P.length + 1 : Nat) : Int) = some y := idx_pre _ _ _ (by simp)
    have s2 : ((P ++ [y]) ++ y :: (Y ++ Q)).set (Int.toNat ((P.length + 1 : Nat) : Int)) x = (P ++ [y]) ++ (x :: (Y ++ Q)) := set_pre _ _ _ _ (by simp)
    have hr := sym_l9 (n := n) Y (P ++ [y]) Q x m (by omega) (by simp; omega) K
    rw [slices_symMergeCmpFunc_Value_row_Sort_1_r_l9, wrapE (v := P.length + 1 + Y.length) (by rw [List.length_cons]; omega) (by omega), dT (by omega), cond_true, wrapE (v := P.length + 1) (by omega) (by omega), i1, Option.bind_some, i2, Option.bind_some, s1, i3, Option.bind_some, s2]
    rw [show (P ++ [y]).length = P.length + 1 by simp] at hr
    rw [show P.length + 1 + (y :: Y).length = P.length + 1 + 1 + Y.length by rw [List.length_cons]; omega, hr]
    simp
theorem sym_l21 {n : Nat} : ∀ (k : Nat) (Y P Q : List Row) (x : Row) (m : Nat), Y.length = k → k < m → P.length + k < 1000000 → ∀ (K : List Row → Option (List Row)),
    slices_symMergeCmpFunc_Value_row_Sort_1_r_l21 n (P.length : Int) K m (P ++ (Y ++ (x :: Q))) ((P.length + Y.length : Nat) : Int) = K (P ++ (x :: (Y ++ Q)))
  | 0, Y, P, Q, x, m, hk, hm, hs, K => by
    obtain ⟨m, rfl⟩ : ∃ j, m = j + 1 := ⟨m - 1, by omega⟩
    obtain rfl := List.eq_nil_of_length_eq_zero hk
    rw [slices_symMergeCmpFunc_Value_row_Sort_1_r_l21, dF (by simp), cond_false]
    rfl
  | k + 1, Y, P, Q, x, m, hk, hm, hs, K => by
    obtain ⟨m, rfl⟩ : ∃ j, m = j + 1 := ⟨m - 1, by omega⟩
    rcases List.eq_nil_or_concat Y with rfl | ⟨Y', y, rfl⟩
    · simp at hk
    rw [List.concat_eq_append] at hk ⊢
    have hk' : Y'.length = k := by simpa using hk
    have hl : P.length + (Y' ++ [y]).length = P.length + Y'.length + 1 := by simp; omega
    have e1 : P ++ ((Y' ++ [y]) ++ (x :: Q)) = (P ++ Y') ++ y :: (x :: Q) := by simp
    have e2 : P ++ ((Y' ++ [y]) ++ (x :: Q)) = (P ++ (Y' ++ [y])) ++ x :: Q := by simp
    have i1 : idx (P ++ ((Y' ++ [y]) ++ (x :: Q))) ((P.length + Y'.length : Nat) : Int) = some y := by rw [e1]; exact idx_pre _ _ _ (by simp)
    have i2 : idx (P ++ ((Y' ++ [y]) ++ (x :: Q))) ((P.length + (Y' ++ [y]).length : Nat) : Int) = some x := by rw [e2]; exact idx_pre _ _ _ (by simp)
    have s1 : (P ++ ((Y' ++ [y]) ++ (x :: Q))).set (Int.toNat ((P.length + (Y' ++ [y]).length : Nat) : Int)) y = (P ++ Y') ++ y :: (y :: Q) := by rw [e2, set_pre _ _ _ _ (by simp)]; simp
    have i3 : idx ((P ++ Y') ++ y :: (y :: Q)) ((P.length + Y'.length : Nat) : Int) = some y := idx_pre _ _ _ (by simp)
    have s2 : ((P ++ Y') ++ y :: (y :: Q)).set (Int.toNat ((P.length + Y'.length : Nat) : Int)) x = P ++ (Y' ++ (x :: (y :: Q))) := by rw [set_pre _ _ _ _ (by simp)]; simp
    have w1 : IntKind.wrap .i64 (((P.length + (Y' ++ [y]).length : Nat) : Int) - 1) = ((P.length + Y'.length : Nat) : Int) := by rw [hl]; exact wrapE (by omega) (by omega)
    have hr := sym_l21 (n := n) k Y' P (y :: Q) x m hk' (by omega) (by omega) K
    rw [slices_symMergeCmpFunc_Value_row_Sort_1_r_l21, dT (by rw [hl]; omega), cond_true, w1, i1, Option.bind_some, i2, Option.bind_some, s1, i3, Option.bind_some, s2, hr]
    simp
end Go.Pl

set_option linter.unusedVariables false
set_option linter.unusedSimpArgs false
set_option maxRecDepth 100000
namespace Go.Pl
open Go Go.Ab

theorem Ord3.le_lt {α : Type} {c : α → α → Int} (h : Ord3 c) {x y z : α} (h1 : c x y ≤ 0) (h2 : c y z < 0) : c x z < 0 := by
  have a1 := h.anti x z
  have a2 := h.anti y z
  by_cases q : c x z < 0
  · exact q
  · have := h.trans z x y (by omega) h1
    omega
theorem Ord3.lt_le {α : Type} {c : α → α → Int} (h : Ord3 c) {x y z : α} (h1 : c x y < 0) (h2 : c y z ≤ 0) : c x z < 0 := by
  have a1 := h.anti x z
  have a2 := h.anti x y
  by_cases q : c x z < 0
  · exact q
  · have := h.trans y z x h2 (by omega)
    omega
/-- Case: one at the head. -/
theorem sym_one {o : Option (List api_Key)} (ho : (sll o).length ≤ 1048576) {n : Nat} (hn : 2000011 ≤ n) {X2 P Q : List Row} {x : Row} (hx : WRow x) (h2 : Sd (cB o) X2) (w2 : WL X2) (hs : P.length + 1 + X2.length + Q.length < 1000000) {a m b : Nat} (ha : a = P.length) (hm : m = P.length + 1) (hb : b = P.length + 1 + X2.length) :
    ∃ X', Sd (cB o) X' ∧ St (cB o) ([x] ++ X2) X' ∧ slices_symMergeCmpFunc_Value_row_Sort_1_r_l3 n (P ++ ([x] ++ (X2 ++ Q))) o (a : Int) (fun y101 => slices_symMergeCmpFunc_Value_row_Sort_1_r_l9 n y101 (fun y105 => some y105) n (P ++ ([x] ++ (X2 ++ Q))) (a : Int)) n (m : Int) (b : Int) = some (P ++ (X' ++ Q)) := by
  obtain ⟨D, hD⟩ : ∃ D, D = P ++ ([x] ++ (X2 ++ Q)) := ⟨_, rfl⟩
  have hD2 : D = (P ++ [x]) ++ (X2 ++ Q) := by rw [hD]; simp
  have hlen : D.length = P.length + 1 + X2.length + Q.length := by rw [hD]; simp; omega
  have hpl : (P ++ [x]).length = P.length + 1 := by simp
  have fa : fD D a = x := by
    have := fD_seg (P := P) (X := [x]) (Q := X2 ++ Q) (i := 0) (by simp)
    rw [hD, ha]; exact this
  have hc := cB_ord o
  have s2 : ∀ i j, m ≤ i → i ≤ j → j < b → cB o (fD D i) (fD D j) ≤ 0 := fun i j q1 q2 q3 => by rw [hD2]; exact sd_fD hc h2 (by omega) q2 (by omega)
  have ww : ∀ i, m ≤ i → i < b → WRow (fD D i) := fun i q1 q2 => by rw [hD2]; exact w_fD w2 (by omega) (by omega)
  rw [← hD]
  obtain ⟨s, g1, g2, g3, g4, g5⟩ := bin_loop (F := fun K m' i j => slices_symMergeCmpFunc_Value_row_Sort_1_r_l3 n D o (a : Int) K m' i j) (p := fun h => decide (cB o (fD D h) x < 0)) (i0 := m) (j0 := b)
    (fun K m' i j q1 q2 q3 => by
      show slices_symMergeCmpFunc_Value_row_Sort_1_r_l3 _ _ _ _ _ _ _ _ = _
      rw [slices_symMergeCmpFunc_Value_row_Sort_1_r_l3, dT (by omega), cond_true, mid_ok (by omega), idx_fD D (by omega), Option.bind_some, idx_fD D (by omega), Option.bind_some, fa, sort1_ok ho (ww _ (by omega) (by omega)) hx hn, Option.bind_some, wrapE (v := (i + j) / 2 + 1) (by omega) (by omega)])
    (fun K m' i => by
      show slices_symMergeCmpFunc_Value_row_Sort_1_r_l3 _ _ _ _ _ _ _ _ = _
      rw [slices_symMergeCmpFunc_Value_row_Sort_1_r_l3, dF (by omega), cond_false])
    (fun h h' q1 q2 q3 q4 => decide_eq_true (hc.le_lt (s2 h h' q1 q2 q3) (of_decide_eq_true q4)))
    (b - m) n m b (Nat.le_refl _) (by omega) (Nat.le_refl _) (by omega) (Nat.le_refl _) (fun h q1 q2 => by omega) (fun h q1 q2 => by omega)
  obtain ⟨Y1, Y2, rfl, hy⟩ : ∃ Y1 Y2, X2 = Y1 ++ Y2 ∧ Y1.length = s - m := ⟨X2.take (s - m), X2.drop (s - m), (List.take_append_drop _ _).symm, by simp; omega⟩
  rw [List.length_append] at hb hs hlen
  have y1 : ∀ y, y ∈ Y1 → cB o y x < 0 := fun y q => by
    obtain ⟨i, q1, q2, q3⟩ := mem_fD (P := P ++ [x]) (Q := Y2 ++ Q) q
    rw [hpl] at q1 q2
    have := g3 i (by omega) (by omega)
    rw [hD, show P ++ ([x] ++ ((Y1 ++ Y2) ++ Q)) = (P ++ [x]) ++ (Y1 ++ (Y2 ++ Q)) by simp, q3] at this
    exact of_decide_eq_true this
  have y2 : ∀ y, y ∈ Y2 → cB o x y ≤ 0 := fun y q => by
    obtain ⟨i, q1, q2, q3⟩ := mem_fD (P := P ++ [x] ++ Y1) (Q := Q) q
    rw [List.length_append, hpl] at q1 q2
    have := g4 i (by omega) (by omega)
    rw [hD, show P ++ ([x] ++ ((Y1 ++ Y2) ++ Q)) = (P ++ [x] ++ Y1) ++ (Y2 ++ Q) by simp, q3] at this
    have := of_decide_eq_false this
    have := hc.anti y x
    omega
  obtain ⟨d1, d2, d3⟩ := Sd.app.1 h2
  refine ⟨Y1 ++ x :: Y2, Sd.app.2 ⟨d1, List.pairwise_cons.2 ⟨y2, d2⟩, fun y q z r => ?_⟩, ?_, ?_⟩
  · rcases List.mem_cons.1 r with rfl | r
    · exact Int.le_of_lt (y1 y q)
    · exact d3 y q z r
  · have := (St.swap hc (U := [x]) (V := Y1) fun u hu v hv => by simp at hu; subst hu; exact y1 v hv).app (St.refl (cB o) Y2)
    simpa using this
  · refine Eq.trans (g5 _) ?_
    have := sym_l9 (n := n) Y1 P (Y2 ++ Q) x n (by omega) (by omega) (fun y => some y)
    rw [hD, ha, show (s : Int) = ((P.length + 1 + Y1.length : Nat) : Int) by omega]
    rw [show P ++ ([x] ++ ((Y1 ++ Y2) ++ Q)) = P ++ (x :: (Y1 ++ (Y2 ++ Q))) by simp]
    show slices_symMergeCmpFunc_Value_row_Sort_1_r_l9 n _ (fun y => some y) n _ _ = _
    rw [this]
    simp
/-- Case: one at the end. -/
theorem sym_two {o : Option (List api_Key)} (ho : (sll o).length ≤ 1048576) {n : Nat} (hn : 2000011 ≤ n) {X1 P Q : List Row} {x : Row} (hx : WRow x) (h1 : Sd (cB o) X1) (w1 : WL X1) (hs : P.length + X1.length + 1 + Q.length < 1000000) {a m : Nat} (ha : a = P.length) (hm : m = P.length + X1.length) :
    ∃ X', Sd (cB o) X' ∧ St (cB o) (X1 ++ [x]) X' ∧ slices_symMergeCmpFunc_Value_row_Sort_1_r_l15 n (P ++ (X1 ++ ([x] ++ Q))) o (m : Int) (fun y58 => slices_symMergeCmpFunc_Value_row_Sort_1_r_l21 n y58 (fun y62 => some y62) n (P ++ (X1 ++ ([x] ++ Q))) (m : Int)) n (a : Int) (m : Int) = some (P ++ (X' ++ Q)) := by
  obtain ⟨D, hD⟩ : ∃ D, D = P ++ (X1 ++ ([x] ++ Q)) := ⟨_, rfl⟩
  have hD2 : D = (P ++ X1) ++ ([x] ++ Q) := by rw [hD]; simp
  have hlen : D.length = P.length + X1.length + 1 + Q.length := by rw [hD]; simp; omega
  have fm : fD D m = x := by
    have := fD_seg (P := P ++ X1) (X := [x]) (Q := Q) (i := 0) (by simp)
    rw [hD2, hm]
    rw [List.length_append] at this
    exact this
  have hc := cB_ord o
  have s1 : ∀ i j, a ≤ i → i ≤ j → j < m → cB o (fD D i) (fD D j) ≤ 0 := fun i j q1 q2 q3 => by rw [hD]; exact sd_fD hc h1 (by omega) q2 (by omega)
  have ww : ∀ i, a ≤ i → i < m → WRow (fD D i) := fun i q1 q2 => by rw [hD]; exact w_fD w1 (by omega) (by omega)
  rw [← hD]
  obtain ⟨s, g1, g2, g3, g4, g5⟩ := bin_loop (F := fun K m' i j => slices_symMergeCmpFunc_Value_row_Sort_1_r_l15 n D o (m : Int) K m' i j) (p := fun h => !(decide (cB o x (fD D h) < 0))) (i0 := a) (j0 := m)
    (fun K m' i j q1 q2 q3 => by
      show slices_symMergeCmpFunc_Value_row_Sort_1_r_l15 _ _ _ _ _ _ _ _ = _
      rw [slices_symMergeCmpFunc_Value_row_Sort_1_r_l15, dT (by omega), cond_true, mid_ok (by omega), idx_fD D (by omega), Option.bind_some, idx_fD D (by omega), Option.bind_some, fm, sort1_ok ho hx (ww _ (by omega) (by omega)) hn, Option.bind_some, wrapE (v := (i + j) / 2 + 1) (by omega) (by omega)])
    (fun K m' i => by
      show slices_symMergeCmpFunc_Value_row_Sort_1_r_l15 _ _ _ _ _ _ _ _ = _
      rw [slices_symMergeCmpFunc_Value_row_Sort_1_r_l15, dF (by omega), cond_false])
    (fun h h' q1 q2 q3 q4 => by
      have q5 : ¬ cB o x (fD D h') < 0 := by simpa using q4
      have : ¬ cB o x (fD D h) < 0 := fun q => q5 (hc.lt_le q (s1 h h' q1 q2 q3))
      simpa using this)
    (m - a) n a m (Nat.le_refl _) (by omega) (Nat.le_refl _) (by omega) (Nat.le_refl _) (fun h q1 q2 => by omega) (fun h q1 q2 => by omega)
  obtain ⟨Y1, Y2, rfl, hy⟩ : ∃ Y1 Y2, X1 = Y1 ++ Y2 ∧ Y1.length = s - a := ⟨X1.take (s - a), X1.drop (s - a), (List.take_append_drop _ _).symm, by simp; omega⟩
  rw [List.length_append] at hm hs hlen
  have y2 : ∀ y, y ∈ Y2 → cB o x y < 0 := fun y q => by
    obtain ⟨i, q1, q2, q3⟩ := mem_fD (P := P ++ Y1) (Q := [x] ++ Q) q
    rw [List.length_append] at q1 q2
    have := g4 i (by omega) (by omega)
    rw [hD, show P ++ ((Y1 ++ Y2) ++ ([x] ++ Q)) = (P ++ Y1) ++ (Y2 ++ ([x] ++ Q)) by simp, q3] at this
    simpa using this
  have y1 : ∀ y, y ∈ Y1 → cB o y x ≤ 0 := fun y q => by
    obtain ⟨i, q1, q2, q3⟩ := mem_fD (P := P) (Q := Y2 ++ ([x] ++ Q)) q
    have := g3 i (by omega) (by omega)
    rw [hD, show P ++ ((Y1 ++ Y2) ++ ([x] ++ Q)) = P ++ (Y1 ++ (Y2 ++ ([x] ++ Q))) by simp, q3] at this
    have q4 : ¬ cB o x y < 0 := by simpa using this
    have := hc.anti x y
    omega
  have hi := ins_ok hc (A := Y1) (B := Y2) (x := x) h1 y2 (fun y q => y1 y (List.mem_of_getLast? q))
  refine ⟨_, hi.1, hi.2, ?_⟩
  refine Eq.trans (g5 _) ?_
  have := sym_l21 (n := n) Y2.length Y2 (P ++ Y1) Q x n rfl (by omega) (by rw [List.length_append]; omega) (fun y => some y)
  rw [List.length_append] at this
  rw [hD, show (s : Int) = ((P.length + Y1.length : Nat) : Int) by omega, show (m : Int) = ((P.length + Y1.length + Y2.length : Nat) : Int) by omega]
  rw [show P ++ ((Y1 ++ Y2) ++ ([x] ++ Q)) = (P ++ Y1) ++ (Y2 ++ (x :: Q)) by simp]
  show slices_symMergeCmpFunc_Value_row_Sort_1_r_l21 n _ (fun y => some y) n _ _ = _
  rw [this]
  simp
end Go.Pl

set_option linter.unusedVariables false
set_option linter.unusedSimpArgs false
set_option maxRecDepth 100000
namespace Go.Pl
open Go Go.Ab

theorem WL.st {o : Option (List api_Key)} {X Y : List Row} (h : WL X) (s : St (cB o) X Y) : WL Y := fun y hy => h y (s.mem.2 hy)
theorem sym_ok {o : Option (List api_Key)} (ho : (sll o).length ≤ 1048576) : ∀ (k mm n : Nat) (X1 X2 P Q : List Row) (a m b : Nat), X1.length + X2.length ≤ k → k < mm → 2000020 + k ≤ n → n < 100000000 → 0 < X1.length → 0 < X2.length → Sd (cB o) X1 → Sd (cB o) X2 → WL X1 → WL X2 →
    P.length + X1.length + X2.length + Q.length < 1000000 → a = P.length → m = P.length + X1.length → b = P.length + X1.length + X2.length →
    ∃ X', Sd (cB o) X' ∧ St (cB o) (X1 ++ X2) X' ∧ slices_symMergeCmpFunc_Value_row_Sort_1_r_t mm n (P ++ (X1 ++ (X2 ++ Q))) o (a : Int) (m : Int) (b : Int) = some (P ++ (X' ++ Q))
  | 0, mm, n, X1, X2, P, Q, a, m, b, hk, hmm, hn, hn2, h1, h2, s1, s2, w1, w2, hs, ha, hm, hb => by omega
  | k + 1, mm, n, X1, X2, P, Q, a, m, b, hk, hmm, hn, hn2, h1, h2, s1, s2, w1, w2, hs, ha, hm, hb => by
    obtain ⟨mm, rfl⟩ : ∃ j, mm = j + 1 := ⟨mm - 1, by omega⟩
    obtain ⟨n, rfl⟩ : ∃ j, n = j + 1 := ⟨n - 1, by omega⟩
    have hc := cB_ord o
    show ∃ X', _ ∧ _ ∧ slices_symMergeCmpFunc_Value_row_Sort_1_r_f (slices_symMergeCmpFunc_Value_row_Sort_1_r_t mm) (n + 1) _ _ _ _ _ = _
    unfold slices_symMergeCmpFunc_Value_row_Sort_1_r_f
    rw [at1_succ]
    by_cases c1 : X1.length = 1
    · obtain ⟨x, rfl⟩ := List.length_eq_one_iff.1 c1
      obtain ⟨X', g1, g2, g3⟩ := sym_one ho (n := n) (by omega) (w1 x (by simp)) s2 w2 (P := P) (Q := Q) (by simp at hs; omega) (a := a) (m := m) (b := b) ha (by simpa using hm) (by simpa using hb)
      refine ⟨X', g1, g2, ?_⟩
      rw [withK, show ((IntKind.wrap .i64 ((m : Int) - (a : Int))) == 1) = true by rw [wrapE (v := 1) (by omega) (by omega)]; rfl, cond_true]
      exact g3
    · by_cases c2 : X2.length = 1
      · obtain ⟨x, rfl⟩ := List.length_eq_one_iff.1 c2
        obtain ⟨X', g1, g2, g3⟩ := sym_two ho (n := n) (by omega) (w2 x (by simp)) s1 w1 (P := P) (Q := Q) (by simp at hs; omega) (a := a) (m := m) ha hm
        refine ⟨X', g1, g2, ?_⟩
        rw [withK, show ((IntKind.wrap .i64 ((m : Int) - (a : Int))) == 1) = false by rw [wrapE (v := m - a) (by omega) (by omega), beq_eq_false_iff_ne]; omega, cond_false]
        rw [withK, show ((IntKind.wrap .i64 ((b : Int) - (m : Int))) == 1) = true by rw [wrapE (v := 1) (by simp at hb; omega) (by omega)]; rfl, cond_true]
        exact g3
      · -- both have more than one
        obtain ⟨D, hD⟩ : ∃ D, D = P ++ (X1 ++ (X2 ++ Q)) := ⟨_, rfl⟩
        have hD2 : D = (P ++ X1) ++ (X2 ++ Q) := by rw [hD]; simp
        have hlen : D.length = P.length + X1.length + X2.length + Q.length := by rw [hD]; simp; omega
        have d1 : ∀ i j, a ≤ i → i ≤ j → j < m → cB o (fD D i) (fD D j) ≤ 0 := fun i j q1 q2 q3 => by rw [hD]; exact sd_fD hc s1 (by omega) q2 (by omega)
        have d2 : ∀ i j, m ≤ i → i ≤ j → j < b → cB o (fD D i) (fD D j) ≤ 0 := fun i j q1 q2 q3 => by rw [hD2]; exact sd_fD hc s2 (by rw [List.length_append]; omega) q2 (by rw [List.length_append]; omega)
        have ww : ∀ i, a ≤ i → i < b → WRow (fD D i) := fun i q1 q2 => by
          rcases Nat.lt_or_ge i m with q | q
          · rw [hD]; exact w_fD w1 (by omega) (by omega)
          · rw [hD2]; exact w_fD w2 (by rw [List.length_append]; omega) (by rw [List.length_append]; omega)
        rw [← hD]
        obtain ⟨M, hM⟩ : ∃ M, M = (a + b) / 2 := ⟨_, rfl⟩
        have em : IntKind.wrap .i64 (iShr .u64 (IntKind.wrap .u64 (IntKind.wrap .i64 ((a : Int) + (b : Int)))) 1) = (M : Int) := by rw [hM]; exact mid_ok (by omega)
        have eN : IntKind.wrap .i64 ((M : Int) + (m : Int)) = ((M + m : Nat) : Int) := wrapE (by omega) (by omega)
        -- the search
        obtain ⟨st, r0, hst, hr1, hr2, hr3⟩ : ∃ st r0, (∀ K5 : Int → Int → Option (List Row), withK (fun k5 => bif decide ((m : Int) > (M : Int)) then k5 (IntKind.wrap .i64 (((M + m : Nat) : Int) - (b : Int))) (M : Int) else k5 (a : Int) (m : Int)) K5 = K5 ((st : Nat) : Int) ((r0 : Nat) : Int)) ∧ a ≤ st ∧ st ≤ r0 ∧ ((m > M ∧ st = M + m - b ∧ r0 = M) ∨ (m ≤ M ∧ st = a ∧ r0 = m)) := by
          by_cases q : m > M
          · exact ⟨M + m - b, M, fun K5 => by rw [withK, dT (by omega), cond_true, wrapE (v := M + m - b) (by omega) (by omega)], by omega, by omega, .inl ⟨q, rfl, rfl⟩⟩
          · exact ⟨a, m, fun K5 => by rw [withK, dF (by omega), cond_false], Nat.le_refl _, by omega, .inr ⟨by omega, rfl, rfl⟩⟩
        have pc : ∀ i, st ≤ i → i < r0 → i < m ∧ m ≤ M + m - 1 - i ∧ M + m - 1 - i < b := fun i q1 q2 => by
          rcases hr3 with ⟨q, e1, e2⟩ | ⟨q, e1, e2⟩ <;> omega
        obtain ⟨s, g1, g2, g3, g4, g5⟩ := bin_loop (F := fun K m' i j => slices_symMergeCmpFunc_Value_row_Sort_1_r_l33 n D o (a : Int) (m : Int) (b : Int) K m' i j) (p := fun h => !(decide (cB o (fD D (M + m - 1 - h)) (fD D h) < 0))) (i0 := st) (j0 := r0)
          (fun K m' i j q1 q2 q3 => by
            have qh := pc ((i + j) / 2) (by omega) (by omega)
            show slices_symMergeCmpFunc_Value_row_Sort_1_r_l33 _ _ _ _ _ _ _ _ _ _ = _
            rw [slices_symMergeCmpFunc_Value_row_Sort_1_r_l33, dT (by omega), cond_true, mid_ok (i := i) (j := j) (by omega), em, eN, wrapE (x := ((M + m : Nat) : Int) - 1) (v := M + m - 1) (by omega) (by omega), wrapE (x := ((M + m - 1 : Nat) : Int) - (((i + j) / 2 : Nat) : Int)) (v := M + m - 1 - (i + j) / 2) (by omega) (by omega), idx_fD D (by omega), Option.bind_some, idx_fD D (by omega), Option.bind_some, sort1_ok ho (ww _ (by omega) (by omega)) (ww _ (by omega) (by omega)) (by omega), Option.bind_some, wrapE (v := (i + j) / 2 + 1) (by omega) (by omega)])
          (fun K m' i => by
            show slices_symMergeCmpFunc_Value_row_Sort_1_r_l33 _ _ _ _ _ _ _ _ _ _ = _
            rw [slices_symMergeCmpFunc_Value_row_Sort_1_r_l33, dF (by omega), cond_false])
          (fun h h' q1 q2 q3 q4 => by
            have k1 := pc h q1 (by omega)
            have k2 := pc h' (by omega) q3
            have q5 : ¬ cB o (fD D (M + m - 1 - h')) (fD D h') < 0 := by simpa using q4
            have : ¬ cB o (fD D (M + m - 1 - h)) (fD D h) < 0 := fun q => q5 (hc.le_lt (d2 _ _ (by omega) (by omega) (by omega)) (hc.lt_le q (d1 h h' (by omega) q2 (by omega))))
            simpa using this)
          (r0 - st) n st r0 (Nat.le_refl _) (by omega) (Nat.le_refl _) hr2 (Nat.le_refl _) (fun h q1 q2 => by omega) (fun h q1 q2 => by omega)
        have hsm : s ≤ m ∧ s ≤ M ∧ a ≤ s ∧ M + m - s ≤ b ∧ m ≤ M + m - s := by rcases hr3 with ⟨q, e1, e2⟩ | ⟨q, e1, e2⟩ <;> omega
        obtain ⟨L1, L2, hX1, hL1⟩ : ∃ L1 L2, X1 = L1 ++ L2 ∧ L1.length = s - a := ⟨X1.take (s - a), X1.drop (s - a), (List.take_append_drop _ _).symm, by simp; omega⟩
        obtain ⟨R1, R2, hX2, hR1⟩ : ∃ R1 R2, X2 = R1 ++ R2 ∧ R1.length = M - s := ⟨X2.take (M - s), X2.drop (M - s), (List.take_append_drop _ _).symm, by simp; omega⟩
        have lX1 : X1.length = L1.length + L2.length := by rw [hX1]; simp
        have lX2 : X2.length = R1.length + R2.length := by rw [hX2]; simp
        have D1 : D = P ++ (L1 ++ (L2 ++ (R1 ++ (R2 ++ Q)))) := by rw [hD, hX1, hX2]; simp
        have mL1 : ∀ x, x ∈ L1 → ∃ i, a ≤ i ∧ i < s ∧ fD D i = x := fun x hx => by
          obtain ⟨i, q1, q2, q3⟩ := mem_fD (P := P) (Q := L2 ++ (R1 ++ (R2 ++ Q))) hx
          exact ⟨i, by omega, by omega, by rw [D1]; exact q3⟩
        have mL2 : ∀ x, x ∈ L2 → ∃ i, s ≤ i ∧ i < m ∧ fD D i = x := fun x hx => by
          obtain ⟨i, q1, q2, q3⟩ := mem_fD (P := P ++ L1) (Q := R1 ++ (R2 ++ Q)) hx
          rw [List.length_append] at q1 q2
          exact ⟨i, by omega, by omega, by rw [D1, ← q3]; simp⟩
        have mR1 : ∀ x, x ∈ R1 → ∃ i, m ≤ i ∧ i < M + m - s ∧ fD D i = x := fun x hx => by
          obtain ⟨i, q1, q2, q3⟩ := mem_fD (P := P ++ L1 ++ L2) (Q := R2 ++ Q) hx
          rw [List.length_append, List.length_append] at q1 q2
          exact ⟨i, by omega, by omega, by rw [D1, ← q3]; simp⟩
        have mR2 : ∀ x, x ∈ R2 → ∃ i, M + m - s ≤ i ∧ i < b ∧ fD D i = x := fun x hx => by
          obtain ⟨i, q1, q2, q3⟩ := mem_fD (P := P ++ L1 ++ L2 ++ R1) (Q := Q) hx
          rw [List.length_append, List.length_append, List.length_append] at q1 q2
          exact ⟨i, by omega, by omega, by rw [D1, ← q3]; simp⟩
        -- what is in front is not greater
        have A1 : ∀ x, x ∈ L1 → ∀ y, y ∈ R2 → cB o x y ≤ 0 := fun x hx y hy => by
          obtain ⟨i, q1, q2, rfl⟩ := mL1 x hx
          obtain ⟨j, q3, q4, rfl⟩ := mR2 y hy
          have hs0 : st ≤ s - 1 := by rcases hr3 with ⟨q, e1, e2⟩ | ⟨q, e1, e2⟩ <;> omega
          have pg := g3 (s - 1) hs0 (by omega)
          have pq := pc (s - 1) hs0 (by omega)
          have q5 : ¬ cB o (fD D (M + m - 1 - (s - 1))) (fD D (s - 1)) < 0 := by simpa using pg
          have q6 : cB o (fD D (s - 1)) (fD D (M + m - 1 - (s - 1))) ≤ 0 := by have := hc.anti (fD D (M + m - 1 - (s - 1))) (fD D (s - 1)); omega
          exact hc.trans _ _ _ (d1 i (s - 1) q1 (by omega) (by omega)) (hc.trans _ _ _ q6 (d2 _ j (by omega) (by omega) q4))
        have B1 : ∀ x, x ∈ L2 → ∀ y, y ∈ R1 → cB o y x < 0 := fun x hx y hy => by
          obtain ⟨i, q1, q2, rfl⟩ := mL2 x hx
          obtain ⟨j, q3, q4, rfl⟩ := mR1 y hy
          have hs0 : s < r0 := by rcases hr3 with ⟨q, e1, e2⟩ | ⟨q, e1, e2⟩ <;> omega
          have pg := g4 s (Nat.le_refl _) hs0
          have pq := pc s g1 hs0
          have q5 : cB o (fD D (M + m - 1 - s)) (fD D s) < 0 := by simpa using pg
          exact hc.le_lt (d2 j _ q3 (by omega) (by omega)) (hc.lt_le q5 (d1 s i (by omega) q1 q2))
        have sL := s1
        rw [hX1] at sL
        obtain ⟨sL1, sL2, sL3⟩ := Sd.app.1 sL
        have sR := s2
        rw [hX2] at sR
        obtain ⟨sR1, sR2, sR3⟩ := Sd.app.1 sR
        have wL1 : WL L1 := fun y hy => w1 y (by rw [hX1]; simp [hy])
        have wL2 : WL L2 := fun y hy => w1 y (by rw [hX1]; simp [hy])
        have wR1 : WL R1 := fun y hy => w2 y (by rw [hX2]; simp [hy])
        have wR2 : WL R2 := fun y hy => w2 y (by rw [hX2]; simp [hy])
        have eE : IntKind.wrap .i64 (((M + m : Nat) : Int) - (s : Int)) = ((M + m - s : Nat) : Int) := wrapE (by omega) (by omega)
        -- turned
        have hrot : ∀ K16 : List Row → Option (List Row), withK (fun k16 => bif ((decide ((s : Int) < (m : Int))) && (decide ((m : Int) < ((M + m - s : Nat) : Int)))) then (slices_rotateCmpFunc_Value_row_Sort_1_r n D o (s : Int) (m : Int) ((M + m - s : Nat) : Int)).bind fun x39 => k16 x39 else k16 D) K16 = K16 (P ++ (L1 ++ (R1 ++ (L2 ++ (R2 ++ Q))))) := fun K16 => by
          rw [withK]
          by_cases q : s < m ∧ m < M + m - s
          · rw [dT (by omega), dT (by omega), Bool.and_self, cond_true, show D = (P ++ L1) ++ (L2 ++ (R1 ++ (R2 ++ Q))) by rw [D1]; simp, rotate_ok (by omega) o L2 R1 (P ++ L1) (R2 ++ Q) (by omega) (by omega) (by simp only [List.length_append]; omega) (by rw [List.length_append]; omega) (by rw [List.length_append]; omega) (by rw [List.length_append]; omega), Option.bind_some]
            simp
          · have hz : (decide ((s : Int) < (m : Int)) && decide ((m : Int) < ((M + m - s : Nat) : Int))) = false := by
              rw [Bool.and_eq_false_iff]
              by_cases q1 : s < m
              · exact .inr (dF (by omega))
              · exact .inl (dF (by omega))
            rw [hz, cond_false]
            have : L2 = [] ∨ R1 = [] := by
              by_cases q1 : s < m
              · exact .inr (List.eq_nil_of_length_eq_zero (by omega))
              · exact .inl (List.eq_nil_of_length_eq_zero (by omega))
            rcases this with e | e <;> rw [D1, e] <;> simp
        obtain ⟨Y1, y1s, y1t, y1e⟩ : ∃ Y1, Sd (cB o) Y1 ∧ St (cB o) (L1 ++ R1) Y1 ∧ ∀ K24 : List Row → Option (List Row), withK (fun k24 => bif ((decide ((a : Int) < (s : Int))) && (decide ((s : Int) < (M : Int)))) then (slices_symMergeCmpFunc_Value_row_Sort_1_r_t mm n (P ++ (L1 ++ (R1 ++ (L2 ++ (R2 ++ Q))))) o (a : Int) (s : Int) (M : Int)).bind fun x33 => k24 x33 else k24 (P ++ (L1 ++ (R1 ++ (L2 ++ (R2 ++ Q)))))) K24 = K24 (P ++ (Y1 ++ (L2 ++ (R2 ++ Q)))) := by
          by_cases q : a < s ∧ s < M
          · obtain ⟨Y, q1, q2, q3⟩ := sym_ok ho k mm n L1 R1 P (L2 ++ (R2 ++ Q)) a s M (by omega) (by omega) (by omega) (by omega) (by omega) (by omega) sL1 sR1 wL1 wR1 (by simp only [List.length_append]; omega) ha (by omega) (by omega)
            exact ⟨Y, q1, q2, fun K24 => by rw [withK, dT (by omega), dT (by omega), Bool.and_self, cond_true, q3, Option.bind_some]⟩
          · have hz : (decide ((a : Int) < (s : Int)) && decide ((s : Int) < (M : Int))) = false := by
              rw [Bool.and_eq_false_iff]
              by_cases q1 : a < s
              · exact .inr (dF (by omega))
              · exact .inl (dF (by omega))
            refine ⟨L1 ++ R1, ?_, St.refl _ _, fun K24 => by rw [withK, hz, cond_false]; simp⟩
            have : L1 = [] ∨ R1 = [] := by
              by_cases q1 : a < s
              · exact .inr (List.eq_nil_of_length_eq_zero (by omega))
              · exact .inl (List.eq_nil_of_length_eq_zero (by omega))
            rcases this with e | e <;> rw [e] <;> simp [sL1, sR1]
        have ly1 := y1t.len
        rw [List.length_append] at ly1
        obtain ⟨Y2, y2s, y2t, y2e⟩ : ∃ Y2, Sd (cB o) Y2 ∧ St (cB o) (L2 ++ R2) Y2 ∧ (bif ((decide ((M : Int) < ((M + m - s : Nat) : Int))) && (decide (((M + m - s : Nat) : Int) < (b : Int)))) then (slices_symMergeCmpFunc_Value_row_Sort_1_r_t mm n (P ++ (Y1 ++ (L2 ++ (R2 ++ Q)))) o (M : Int) ((M + m - s : Nat) : Int) (b : Int)).bind fun x27 => some x27 else some (P ++ (Y1 ++ (L2 ++ (R2 ++ Q))))) = some (P ++ (Y1 ++ (Y2 ++ Q))) := by
          by_cases q : M < M + m - s ∧ M + m - s < b
          · obtain ⟨Y, q1, q2, q3⟩ := sym_ok ho k mm n L2 R2 (P ++ Y1) Q M (M + m - s) b (by omega) (by omega) (by omega) (by omega) (by omega) (by omega) sL2 sR2 wL2 wR2 (by simp only [List.length_append]; omega) (by rw [List.length_append]; omega) (by rw [List.length_append]; omega) (by rw [List.length_append]; omega)
            refine ⟨Y, q1, q2, ?_⟩
            rw [dT (by omega), dT (by omega), Bool.and_self, cond_true, show P ++ (Y1 ++ (L2 ++ (R2 ++ Q))) = (P ++ Y1) ++ (L2 ++ (R2 ++ Q)) by simp, q3]
            simp
          · have hz : (decide ((M : Int) < ((M + m - s : Nat) : Int)) && decide (((M + m - s : Nat) : Int) < (b : Int))) = false := by
              rw [Bool.and_eq_false_iff]
              by_cases q1 : M < M + m - s
              · exact .inr (dF (by omega))
              · exact .inl (dF (by omega))
            refine ⟨L2 ++ R2, ?_, St.refl _ _, by rw [hz, cond_false]; simp⟩
            have : L2 = [] ∨ R2 = [] := by
              by_cases q1 : M < M + m - s
              · exact .inr (List.eq_nil_of_length_eq_zero (by omega))
              · exact .inl (List.eq_nil_of_length_eq_zero (by omega))
            rcases this with e | e <;> rw [e] <;> simp [sL2, sR2]
        refine ⟨Y1 ++ Y2, Sd.app.2 ⟨y1s, y2s, fun x hx y hy => ?_⟩, ?_, ?_⟩
        · have hx' := y1t.mem.2 hx
          have hy' := y2t.mem.2 hy
          rcases List.mem_append.1 hx' with hx' | hx' <;> rcases List.mem_append.1 hy' with hy' | hy'
          · exact sL3 x hx' y hy'
          · exact A1 x hx' y hy'
          · exact Int.le_of_lt (B1 y hy' x hx')
          · exact sR3 x hx' y hy'
        · have t1 : St (cB o) (L2 ++ R1) (R1 ++ L2) := St.swap hc fun u hu v hv => B1 u hu v hv
          have t2 := ((St.refl (cB o) L1).app t1).app (St.refl (cB o) R2)
          have t3 := y1t.app y2t
          rw [hX1, hX2]
          have e1 : (L1 ++ L2) ++ (R1 ++ R2) = (L1 ++ (L2 ++ R1)) ++ R2 := by simp
          have e2 : (L1 ++ (R1 ++ L2)) ++ R2 = (L1 ++ R1) ++ (L2 ++ R2) := by simp
          rw [e1]
          rw [e2] at t2
          exact t2.trans t3
        · rw [withK, show ((IntKind.wrap .i64 ((m : Int) - (a : Int))) == 1) = false by rw [wrapE (v := m - a) (by omega) (by omega), beq_eq_false_iff_ne]; omega, cond_false]
          rw [withK, show ((IntKind.wrap .i64 ((b : Int) - (m : Int))) == 1) = false by rw [wrapE (v := b - m) (by omega) (by omega), beq_eq_false_iff_ne]; omega, cond_false]
          rw [em, eN]
          refine Eq.trans (hst _) ?_
          refine Eq.trans (g5 _) ?_
          simp only [eE]
          refine Eq.trans (hrot _) ?_
          refine Eq.trans (y1e _) ?_
          refine Eq.trans y2e ?_
          simp
end Go.Pl

set_option linter.unusedVariables false
set_option linter.unusedSimpArgs false
set_option maxRecDepth 100000
namespace Go.Pl
open Go Go.Ab

/-- Sorted blocks of one size, the last one shorter perhaps. -/
inductive Blocks (c : Row → Row → Int) (s : Nat) : List Row → Prop
  | last {X : List Row} (h : X.length ≤ s) (d : Sd c X) : Blocks c s X
  | cons {X Y : List Row} (h : X.length = s) (d : Sd c X) (t : Blocks c s Y) : Blocks c s (X ++ Y)
theorem bl_le {c : Row → Row → Int} {s : Nat} {T : List Row} (h : Blocks c s T) (hl : T.length ≤ s) : Sd c T := by
  cases h with
  | last _ d => exact d
  | @cons X Y h d t =>
    rw [List.length_append] at hl
    obtain rfl : Y = [] := List.eq_nil_of_length_eq_zero (by omega)
    rw [List.append_nil]; exact d
theorem bl_ge {c : Row → Row → Int} {s : Nat} {T : List Row} (h : Blocks c s T) (hl : s ≤ T.length) : ∃ X Y, T = X ++ Y ∧ X.length = s ∧ Sd c X ∧ Blocks c s Y := by
  cases h with
  | last h d => exact ⟨T, [], by simp, by omega, d, .last (by simp) sd_nil⟩
  | cons h d t => exact ⟨_, _, rfl, h, d, t⟩
theorem stab_l2 {n : Nat} (hn : 2000100 ≤ n) (hn2 : n < 100000000) {o : Option (List api_Key)} (ho : (sll o).length ≤ 1048576) {N : Nat} (hN : N ≤ 1000) : ∀ (k : Nat) (T P : List Row) (m : Nat), T.length ≤ k → k < m → P.length + T.length = N → WL T →
    ∃ T', Blocks (cB o) 20 T' ∧ St (cB o) T T' ∧ ∀ (K : List Row → Option (List Row)), slices_stableCmpFunc_Value_row_Sort_1_r_l2 n o (N : Int) (fun y1 y3 => (slices_insertionSortCmpFunc_Value_row_Sort_1_r n y1 o y3 (N : Int)).bind fun x10 => K x10) m (P ++ T) (P.length : Int) ((P.length + 20 : Nat) : Int) = K (P ++ T')
  | k, T, P, m, hk, hm, hl, hW => by
    obtain ⟨m, rfl⟩ : ∃ j, m = j + 1 := ⟨m - 1, by omega⟩
    by_cases q : 20 ≤ T.length
    · obtain ⟨X, Y, rfl, hX⟩ : ∃ X Y, T = X ++ Y ∧ X.length = 20 := ⟨T.take 20, T.drop 20, (List.take_append_drop _ _).symm, by simp; omega⟩
      rw [List.length_append] at hk hl q
      obtain ⟨k, rfl⟩ : ∃ j, k = j + 1 := ⟨k - 1, by omega⟩
      obtain ⟨X', g1, g2, g3⟩ := insertion_ok (n := n) (by omega) hn2 ho X Y P (fun y hy => hW y (by simp [hy])) (by omega)
      have lX := g2.len
      obtain ⟨T', h1, h2, h3⟩ := stab_l2 hn hn2 ho hN k Y (P ++ X') m (by omega) (by omega) (by rw [List.length_append]; omega) (fun y hy => hW y (by simp [hy]))
      refine ⟨X' ++ T', .cons (by omega) g1 h1, g2.app h2, fun K => ?_⟩
      have e := h3 K
      rw [slices_stableCmpFunc_Value_row_Sort_1_r_l2, dT (by omega), cond_true]
      rw [show ((P.length + 20 : Nat) : Int) = ((P.length + X.length : Nat) : Int) by omega, g3, Option.bind_some, wrapE (v := P.length + X.length + 20) (by omega) (by omega)]
      rw [List.length_append, ← lX] at e
      rw [show P ++ (X' ++ Y) = (P ++ X') ++ Y by simp, e]
      simp
    · obtain ⟨T', g1, g2, g3⟩ := insertion_ok (n := n) (by omega) hn2 ho T [] P hW (by omega)
      have lT := g2.len
      refine ⟨T', .last (by omega) g1, g2, fun K => ?_⟩
      rw [slices_stableCmpFunc_Value_row_Sort_1_r_l2, dF (by omega), cond_false]
      rw [List.append_nil, List.append_nil] at g3
      rw [show (N : Int) = ((P.length + T.length : Nat) : Int) by omega, g3, Option.bind_some]
theorem stab_l9 {n : Nat} (hn : 3000100 ≤ n) (hn2 : n < 100000000) {o : Option (List api_Key)} (ho : (sll o).length ≤ 1048576) {N : Nat} (hN : N ≤ 1000) {bs : Nat} (hb : 20 ≤ bs) (hbN : bs < N) : ∀ (k : Nat) (T P : List Row) (m : Nat), T.length ≤ k → k < m → P.length + T.length = N → WL T → Blocks (cB o) bs T →
    ∃ T', Blocks (cB o) (2 * bs) T' ∧ St (cB o) T T' ∧ ∀ (K : List Row → Option (List Row)), slices_stableCmpFunc_Value_row_Sort_1_r_l9 n o (N : Int) (bs : Int) (fun y26 y28 => bif (decide ((IntKind.wrap .i64 (y28 + (bs : Int))) < (N : Int))) then (slices_symMergeCmpFunc_Value_row_Sort_1_r n y26 o y28 (IntKind.wrap .i64 (y28 + (bs : Int))) (N : Int)).bind fun x36 => K x36 else K y26) m (P ++ T) (P.length : Int) ((P.length + 2 * bs : Nat) : Int) = K (P ++ T')
  | k, T, P, m, hk, hm, hl, hW, hB => by
    obtain ⟨m, rfl⟩ : ∃ j, m = j + 1 := ⟨m - 1, by omega⟩
    by_cases q : 2 * bs ≤ T.length
    · obtain ⟨X, T1, rfl, lX, dX, hB1⟩ := bl_ge hB (by omega)
      rw [List.length_append] at hk hl q
      obtain ⟨Y, T2, rfl, lY, dY, hB2⟩ := bl_ge hB1 (by omega)
      rw [List.length_append] at hk hl q
      obtain ⟨k, rfl⟩ : ∃ j, k = j + 1 := ⟨k - 1, by omega⟩
      obtain ⟨Z, g1, g2, g3⟩ := sym_ok ho (2 * bs) n n X Y P T2 P.length (P.length + bs) (P.length + 2 * bs) (by omega) (by omega) (by omega) hn2 (by omega) (by omega) dX dY (fun y hy => hW y (by simp [hy])) (fun y hy => hW y (by simp [hy])) (by omega) rfl (by omega) (by omega)
      have lZ := g2.len
      rw [List.length_append] at lZ
      obtain ⟨T', h1, h2, h3⟩ := stab_l9 hn hn2 ho hN hb hbN k T2 (P ++ Z) m (by omega) (by omega) (by rw [List.length_append]; omega) (fun y hy => hW y (by simp [hy])) hB2
      refine ⟨Z ++ T', .cons (by omega) g1 h1, by have := g2.app h2; simpa using this, fun K => ?_⟩
      have e := h3 K
      rw [slices_stableCmpFunc_Value_row_Sort_1_r_l9, dT (by omega), cond_true, wrapE (x := (P.length : Int) + (bs : Int)) (v := P.length + bs) (by omega) (by omega)]
      show ((slices_symMergeCmpFunc_Value_row_Sort_1_r_t n n (P ++ (X ++ (Y ++ T2))) o _ _ _).bind _) = _
      rw [g3, Option.bind_some, wrapE (x := 2 * (bs : Int)) (v := 2 * bs) (by omega) (by omega), wrapE (v := P.length + 2 * bs + 2 * bs) (by omega) (by omega)]
      rw [List.length_append, ← lZ] at e
      rw [show P.length + (X.length + Y.length) = P.length + 2 * bs by omega] at e
      rw [show P ++ (Z ++ T2) = (P ++ Z) ++ T2 by simp, e]
      simp
    · by_cases q2 : bs < T.length
      · obtain ⟨X, Y, rfl, lX, dX, hB1⟩ := bl_ge hB (by omega)
        rw [List.length_append] at hk hl q q2
        have dY := bl_le hB1 (by omega)
        obtain ⟨Z, g1, g2, g3⟩ := sym_ok ho (2 * bs) n n X Y P [] P.length (P.length + bs) N (by omega) (by omega) (by omega) hn2 (by omega) (by omega) dX dY (fun y hy => hW y (by simp [hy])) (fun y hy => hW y (by simp [hy])) (by simp; omega) rfl (by omega) (by omega)
        have lZ := g2.len
        rw [List.length_append] at lZ
        refine ⟨Z, .last (by omega) g1, g2, fun K => ?_⟩
        rw [slices_stableCmpFunc_Value_row_Sort_1_r_l9, dF (by rw [show (2 : Nat) * bs = 2 * bs from rfl]; omega), cond_false, wrapE (v := P.length + bs) (by omega) (by omega), dT (by omega), cond_true]
        rw [List.append_nil, List.append_nil] at g3
        show ((slices_symMergeCmpFunc_Value_row_Sort_1_r_t n n (P ++ (X ++ Y)) o _ _ _).bind _) = _
        rw [g3, Option.bind_some]
      · refine ⟨T, .last (by omega) (bl_le hB (by omega)), St.refl _ _, fun K => ?_⟩
        rw [slices_stableCmpFunc_Value_row_Sort_1_r_l9, dF (by omega), cond_false, wrapE (v := P.length + bs) (by omega) (by omega), dF (by omega), cond_false]
theorem stab_l7 {n : Nat} (hn : 3000100 ≤ n) (hn2 : n < 100000000) {o : Option (List api_Key)} (ho : (sll o).length ≤ 1048576) {N : Nat} (hN : N ≤ 1000) : ∀ (k : Nat) (T : List Row) (m bs : Nat), N - bs ≤ k → k < m → T.length = N → WL T → 20 ≤ bs → bs ≤ 4000 → Blocks (cB o) bs T →
    ∃ T', Sd (cB o) T' ∧ St (cB o) T T' ∧ slices_stableCmpFunc_Value_row_Sort_1_r_l7 n o (N : Int) m T (bs : Int) = some T'
  | k, T, m, bs, hk, hm, hl, hW, h20, h4, hB => by
    obtain ⟨m, rfl⟩ : ∃ j, m = j + 1 := ⟨m - 1, by omega⟩
    by_cases q : bs < N
    · obtain ⟨k, rfl⟩ : ∃ j, k = j + 1 := ⟨k - 1, by omega⟩
      obtain ⟨T1, g1, g2, g3⟩ := stab_l9 hn hn2 ho hN h20 q N T [] n (by omega) (by omega) (by simpa using hl) hW hB
      have lT := g2.len
      obtain ⟨T', h1, h2, h3⟩ := stab_l7 hn hn2 ho hN k T1 m (2 * bs) (by omega) (by omega) (by omega) (hW.st g2) (by omega) (by omega) g1
      refine ⟨T', h1, g2.trans h2, ?_⟩
      rw [slices_stableCmpFunc_Value_row_Sort_1_r_l7, dT (by omega), cond_true]
      have e := g3 (fun x => slices_stableCmpFunc_Value_row_Sort_1_r_l7 n o (N : Int) m x ((2 * bs : Nat) : Int))
      rw [withK, wrapE (x := 2 * (bs : Int)) (v := 2 * bs) (by omega) (by omega), wrapE (x := (bs : Int) * 2) (v := 2 * bs) (by omega) (by omega)]
      simp only [List.nil_append, List.length_nil, Nat.zero_add] at e
      refine Eq.trans e ?_
      exact h3
    · refine ⟨T, bl_le hB (by omega), St.refl _ _, ?_⟩
      rw [slices_stableCmpFunc_Value_row_Sort_1_r_l7, dF (by omega), cond_false]
theorem sortStable_ok {n : Nat} (hn : 3000200 ≤ n) (hn2 : n < 100000000) {o : Option (List api_Key)} (ho : (sll o).length ≤ 1048576) {T : List Row} (hN : T.length ≤ 1000) (hW : WL T) :
    ∃ T', Sd (cB o) T' ∧ St (cB o) T T' ∧ slices_SortStableFunc_Value_row_Sort_1_r n T o = some T' := by
  obtain ⟨n, rfl⟩ : ∃ k, n = k + 2 := ⟨n - 2, by omega⟩
  obtain ⟨T1, g1, g2, g3⟩ := stab_l2 (n := n) (by omega) (by omega) ho hN T.length T [] n (Nat.le_refl _) (by omega) (by simp) hW
  have lT := g2.len
  obtain ⟨T', h1, h2, h3⟩ := stab_l7 (n := n) (by omega) (by omega) ho hN T.length T1 n 20 (by omega) (by omega) (by omega) (hW.st g2) (by omega) (by omega) g1
  refine ⟨T', h1, g2.trans h2, ?_⟩
  unfold slices_SortStableFunc_Value_row_Sort_1_r
  rw [at1_succ]
  unfold slices_stableCmpFunc_Value_row_Sort_1_r
  rw [at1_succ, withK]
  have e := g3 (fun x => slices_stableCmpFunc_Value_row_Sort_1_r_l7 n o (T.length : Int) n x 20)
  simp only [List.nil_append, List.length_nil, Nat.zero_add] at e
  rw [show slices_stableCmpFunc_Value_row_Sort_1_r_l2 n o (T.length : Int) _ n T 0 20 = _ from e]
  show ((slices_stableCmpFunc_Value_row_Sort_1_r_l7 n o (T.length : Int) n T1 20).bind _) = _
  rw [show slices_stableCmpFunc_Value_row_Sort_1_r_l7 n o (T.length : Int) n T1 20 = _ from h3]
  rfl
theorem clone2_ok {r : Row} (hr : WRow r) {n : Nat} (h : 1 ≤ n) : slices_Clone_Value_2 n r = some r := by
  obtain ⟨n, rfl⟩ : ∃ k, n = k + 1 := ⟨n - 1, by omega⟩
  have h1 := hr.1
  unfold slices_Clone_Value_2
  rw [at1_succ]
  cases r with
  | none => rfl
  | some l =>
    show (bif l.isEmpty then _ else _) = _
    cases l with
    | nil => rw [List.isEmpty_nil, cond_true, ckA_ok (by simp) (by omega)]; rfl
    | cons x l =>
      rw [List.isEmpty_cons, cond_false, ckA_ok (by rw [List.nil_append]; exact Nat.le_trans h1 (by omega)) (by omega)]; rfl
theorem sort_l3 {n : Nat} (hn : 10 ≤ n) {a : Option (List Row)} (ha : WRows a) {K : Option (List Row) → Option (Option (List Row))} : ∀ (l : List Row) (m : Nat) (p : List Row) (s : Option (List Row)), sll a = p ++ l → (sll s).length ≤ p.length → l.length < m →
    row_Sort_l3 n a K m (p.length : Int) s = K (if l = [] then s else some (sll s ++ l))
  | [], m, p, s, he, _, hm => by
    obtain ⟨m, rfl⟩ : ∃ j, m = j + 1 := ⟨m - 1, by omega⟩
    rw [List.append_nil] at he
    cases s <;> (rw [row_Sort_l3, dF (by rw [he]; omega), cond_false]; rfl)
  | x :: l, m, p, s, he, hs, hm => by
    obtain ⟨m, rfl⟩ : ∃ j, m = j + 1 := ⟨m - 1, by omega⟩
    have ha1 := ha.1
    have hlen : (sll a).length = p.length + (l.length + 1) := by rw [he]; simp
    rw [List.length_cons] at hm
    have hix : idx (sll a) (p.length : Int) = some x := by rw [he]; exact idx_pre _ _ _ rfl
    have hx : WRow x := ha.2 x (by rw [he]; simp)
    have hr := sort_l3 hn ha (K := K) l m (p ++ [x]) (some (sll s ++ [x])) (by rw [he]; simp) (by show (sll s ++ [x]).length ≤ _; simp; omega) (by omega)
    rw [show (p ++ [x]).length = p.length + 1 by simp] at hr
    have fin : K (if l = [] then some (sll s ++ [x]) else some (sll (some (sll s ++ [x])) ++ l)) = K (if x :: l = [] then s else some (sll s ++ x :: l)) := by
      rw [if_neg (List.cons_ne_nil x l)]
      by_cases hl : l = []
      · subst hl; rw [if_pos rfl]
      · rw [if_neg hl]; show K (some ((sll s ++ [x]) ++ l)) = _; simp
    rw [fin] at hr
    cases s with
    | none =>
      rw [row_Sort_l3, dT (by omega), cond_true, hix, Option.bind_some, clone2_ok hx (by omega), Option.bind_some, ckA_ok (by simp) (by omega), Option.bind_some, wrapN (by omega)]
      exact hr
    | some s =>
      have hs' : s.length ≤ p.length := hs
      rw [row_Sort_l3, dT (by omega), cond_true, hix, Option.bind_some, clone2_ok hx (by omega), Option.bind_some, ckA_ok (by simp; omega) (by omega), Option.bind_some, wrapN (by omega)]
      exact hr
end Go.Pl

set_option linter.unusedVariables false
set_option linter.unusedSimpArgs false
set_option maxRecDepth 100000
namespace Go.Pl
open Go Go.Ab

theorem sortStableNil_ok {n : Nat} (h : 10 ≤ n) (o : Option (List api_Key)) : slices_SortStableFunc_Value_row_Sort_1_nil n o = some () := by
  obtain ⟨n, rfl⟩ : ∃ k, n = k + 10 := ⟨n - 10, by omega⟩
  rfl
theorem row_Sort_ok {n : Nat} (hn : 3000300 ≤ n) (hn2 : n < 100000000) {o : Option (List api_Key)} (ho : (sll o).length ≤ 1048576) {a : Option (List Row)} (ha : WRows a) (hl : (sll a).length ≤ 1000) :
    ∃ Y, Sd (cB o) Y ∧ St (cB o) (sll a) Y ∧ row_Sort n a o = some (if sll a = [] then none else some Y) := by
  obtain ⟨n, rfl⟩ : ∃ k, n = k + 1 := ⟨n - 1, by omega⟩
  have hW : WL (sll a) := ha.2
  obtain ⟨Y, g1, g2, g3⟩ := sortStable_ok (n := n) (by omega) (by omega) ho hl hW
  refine ⟨Y, g1, g2, ?_⟩
  unfold row_Sort
  rw [at1_succ]
  unfold withK
  refine Eq.trans (sort_l3 (n := n) (by omega) ha (sll a) n [] none rfl (Nat.le_refl _) (by omega)) ?_
  by_cases hz : sll a = []
  · rw [if_pos hz, if_pos hz]
    show ((slices_SortStableFunc_Value_row_Sort_1_nil n o).bind _) = _
    rw [sortStableNil_ok (by omega)]; rfl
  · rw [if_neg hz, if_neg hz]
    show ((slices_SortStableFunc_Value_row_Sort_1_r n ([] ++ sll a) o).bind _) = _
    rw [List.nil_append, g3]; rfl
theorem sorted_l2 {n : Nat} (hn : 2000020 ≤ n) {o : Option (List api_Key)} (ho : (sll o).length ≤ 1048576) {a : Option (List Row)} (ha : WRows a) {K : Unit → Option Bool} : ∀ (i m : Nat), i < m → i < (sll a).length →
    ((∀ j, 1 ≤ j → j ≤ i → ¬ cB o (fD (sll a) j) (fD (sll a) (j - 1)) < 0) ∧ slices_IsSortedFunc_Value_row_Sorted_1_l2 n a o K m (i : Int) = K ()) ∨
    ((∃ j, 1 ≤ j ∧ j ≤ i ∧ cB o (fD (sll a) j) (fD (sll a) (j - 1)) < 0) ∧ slices_IsSortedFunc_Value_row_Sorted_1_l2 n a o K m (i : Int) = some false)
  | 0, m, hm, hi => by
    obtain ⟨m, rfl⟩ : ∃ j, m = j + 1 := ⟨m - 1, by omega⟩
    exact .inl ⟨fun j h1 h2 => by omega, by rw [slices_IsSortedFunc_Value_row_Sorted_1_l2, dF (by omega), cond_false]⟩
  | i + 1, m, hm, hi => by
    obtain ⟨m, rfl⟩ : ∃ j, m = j + 1 := ⟨m - 1, by omega⟩
    have ha1 := ha.1
    have wf : ∀ j, j < (sll a).length → WRow (fD (sll a) j) := fun j hj => by
      unfold fD; rw [List.getElem?_eq_getElem hj]; exact ha.2 _ (List.getElem_mem hj)
    have e : row_Sorted_1 n (fD (sll a) (i + 1)) (fD (sll a) i) o = some (cB o (fD (sll a) (i + 1)) (fD (sll a) i)) := by
      obtain ⟨n, rfl⟩ : ∃ k, n = k + 1 := ⟨n - 1, by omega⟩
      unfold row_Sorted_1
      rw [at1_succ, row_By_ok ho (wf _ hi) (wf _ (by omega)) (by omega)]; rfl
    have step : slices_IsSortedFunc_Value_row_Sorted_1_l2 n a o K (m + 1) ((i + 1 : Nat) : Int) = bif decide (cB o (fD (sll a) (i + 1)) (fD (sll a) i) < 0) then some false else slices_IsSortedFunc_Value_row_Sorted_1_l2 n a o K m (i : Int) := by
      rw [slices_IsSortedFunc_Value_row_Sorted_1_l2, dT (by omega), cond_true, idx_fD _ hi, Option.bind_some, wrapE (x := ((i + 1 : Nat) : Int) - 1) (v := i) (by omega) (by omega), idx_fD _ (by omega), Option.bind_some, e, Option.bind_some]
    by_cases q : cB o (fD (sll a) (i + 1)) (fD (sll a) i) < 0
    · exact .inr ⟨⟨i + 1, by omega, Nat.le_refl _, q⟩, by rw [step, dT q, cond_true]⟩
    · rcases sorted_l2 hn ho ha (K := K) i m (by omega) (by omega) with ⟨h1, h2⟩ | ⟨⟨j, h1, h2, h3⟩, h4⟩
      · refine .inl ⟨fun j q1 q2 => ?_, by rw [step, dF q, cond_false, h2]⟩
        by_cases e : j = i + 1
        · subst e; exact q
        · exact h1 j q1 (by omega)
      · exact .inr ⟨⟨j, h1, by omega, h3⟩, by rw [step, dF q, cond_false, h4]⟩
theorem adj_sd {c : Row → Row → Int} (hc : Ord3 c) {l : List Row} (h : ∀ j, 1 ≤ j → j < l.length → ¬ c (fD l j) (fD l (j - 1)) < 0) : Sd c l := by
  have key : ∀ d i, i + d < l.length → c (fD l i) (fD l (i + d)) ≤ 0 := by
    intro d
    induction d with
    | zero => intro i hi; rw [Nat.add_zero, hc.self]; exact Int.le_refl _
    | succ d ih =>
      intro i hi
      have h1 := ih i (by omega)
      have h2 := h (i + d + 1) (by omega) (by omega)
      rw [show i + d + 1 - 1 = i + d by omega] at h2
      have := hc.anti (fD l (i + d + 1)) (fD l (i + d))
      exact hc.trans _ _ _ h1 (by rw [show i + (d + 1) = i + d + 1 by omega]; omega)
  rw [Sd, List.pairwise_iff_getElem]
  intro i j hi hj hij
  have := key (j - i) i (by omega)
  rw [show i + (j - i) = j by omega] at this
  unfold fD at this
  rw [List.getElem?_eq_getElem hi, List.getElem?_eq_getElem hj] at this
  exact this
theorem sd_adj {c : Row → Row → Int} (hc : Ord3 c) {l : List Row} (h : Sd c l) {j : Nat} (h1 : 1 ≤ j) (h2 : j < l.length) : ¬ c (fD l j) (fD l (j - 1)) < 0 := by
  have := List.pairwise_iff_getElem.1 h (j - 1) j (by omega) h2 (by omega)
  unfold fD
  rw [List.getElem?_eq_getElem h2, List.getElem?_eq_getElem (show j - 1 < l.length by omega)]
  have a := hc.anti l[j - 1] l[j]
  show ¬ c l[j] l[j - 1] < 0
  omega
theorem row_Sorted_ok {n : Nat} (hn : 2000100 ≤ n) {o : Option (List api_Key)} (ho : (sll o).length ≤ 1048576) {a : Option (List Row)} (ha : WRows a) : ∃ b, row_Sorted n a o = some b ∧ (b = true ↔ Sd (cB o) (sll a)) := by
  obtain ⟨n, rfl⟩ : ∃ k, n = k + 2 := ⟨n - 2, by omega⟩
  have ha1 := ha.1
  have hc := cB_ord o
  unfold row_Sorted
  rw [at1_succ]
  unfold slices_IsSortedFunc_Value_row_Sorted_1
  rw [at1_succ, withK]
  by_cases hz : (sll a).length = 0
  · refine ⟨true, ?_, ⟨fun _ => ?_, fun _ => rfl⟩⟩
    · obtain ⟨n, rfl⟩ : ∃ k, n = k + 1 := ⟨n - 1, by omega⟩
      rw [slices_IsSortedFunc_Value_row_Sorted_1_l2, wrapI (by omega) (by omega), dF (by omega), cond_false]; rfl
    · rw [List.eq_nil_of_length_eq_zero hz]; exact sd_nil
  · rw [wrapE (v := (sll a).length - 1) (by omega) (by omega)]
    rcases sorted_l2 (n := n) (by omega) ho ha (K := fun _ => some true) ((sll a).length - 1) n (by omega) (by omega) with ⟨h1, h2⟩ | ⟨⟨j, h1, h2, h3⟩, h4⟩
    · exact ⟨true, by rw [h2]; rfl, fun _ => adj_sd hc fun j q1 q2 => h1 j q1 (by omega), fun _ => rfl⟩
    · exact ⟨false, by rw [h4]; rfl, fun h => by (cases h), fun h => absurd h3 (sd_adj hc h h1 (by omega))⟩
theorem all_loop {α R : Type} {F : Nat → Int → Option R} {l : List α} {p : α → Bool} {kk e : Option R} (hl : l.length ≤ 1048576)
    (hF : ∀ (m i : Nat) (x : α), (hi : i < l.length) → l[i] = x → F (m + 1) (i : Int) = bif p x then F m (IntKind.wrap .i64 ((i : Int) + 1)) else e) (hE : ∀ (m : Nat), F (m + 1) (l.length : Int) = kk) :
    ∀ (m i : Nat), i ≤ l.length → l.length - i < m → F m (i : Int) = bif (l.drop i).all p then kk else e
  | 0, i, _, h => by omega
  | m + 1, i, h, hm => by
    by_cases hi : i < l.length
    · rw [hF m i _ hi rfl, wrapN (by omega), all_loop hl hF hE m (i + 1) (by omega) (by omega), List.drop_eq_getElem_cons hi, List.all_cons]
      cases p l[i] <;> rfl
    · obtain rfl : i = l.length := by omega
      rw [hE, List.drop_length]; rfl
theorem idx_at {α : Type} {l : List α} {i : Nat} {x : α} (hi : i < l.length) (e : l[i] = x) : idx l (i : Int) = some x := by
  rw [idx_nat, List.getElem?_eq_getElem hi, e]
theorem row_Cmp_self {r : Row} (hr : WRow r) {n : Nat} (h : 2000010 ≤ n) : row_Cmp n r r = some 0 := by
  rw [row_Cmp_ok hr hr h, rCmp_ord.self]
theorem RowSorted_big {n : Nat} (hn : 3900000 ≤ n) (hn2 : n < 100000000) (hwk : law05_works n = some true) {a : Option (List Row)} {o : Option (List api_Key)} (ha : WRows a) (ho : (sll o).length ≤ 1048576) : law05_RowSorted (n + 1) a o = some true := by
  have hc := cB_ord o
  unfold law05_RowSorted
  obtain ⟨g, hg⟩ := great_some ha (n := n) (by omega)
  rw [at1_succ, hwk, Option.bind_some, Bool.not_true, cond_false, hg, Option.bind_some]
  cases hq : (g || decide (((sll o).length : Int) > 40)) with
  | true => rfl
  | false =>
    have g0 : g = false := by cases g <;> simp_all
    subst g0
    have hlen := great_len ha (n := n) (by omega) hg
    rw [cond_false]
    obtain ⟨Y, y1, y2, y3⟩ := row_Sort_ok (n := n) (by omega) hn2 ho ha (by omega)
    have ly := y2.len
    have hWY : WRows (some Y) := ⟨by show Y.length ≤ _; omega, fun y hy => ha.2 y (y2.mem.2 hy)⟩
    unfold withK
    simp only []
    rw [y3, Option.bind_some]
    by_cases hz : sll a = []
    · rw [if_pos hz]
      simp only []
      rw [hz]
      have hWn : WRows (none : Option (List Row)) := ⟨by show 0 ≤ _; omega, fun y hy => by cases hy⟩
      obtain ⟨t, t1, t2⟩ := bag_ok hWn ha (by show 0 < _; omega) (by omega) (n := n) (by omega)
      have tt : t = true := t2.2 ⟨by rw [hz]; rfl, fun z => by rw [hz]; exact Nat.le_refl _⟩
      obtain ⟨b, b1, b2⟩ := row_Sorted_ok (n := n) (by omega) ho hWn
      have bt : b = true := b2.2 sd_nil
      obtain ⟨Z, z1, z2, z3⟩ := row_Sort_ok (n := n) (by omega) hn2 ho hWn (by show 0 ≤ _; omega)
      rw [show ((0 : Int) != (([] : List Row).length : Int)) = false from rfl, cond_false, t1, Option.bind_some, tt, Bool.not_true, cond_false, b1, Option.bind_some, bt, Bool.not_true, cond_false, z3, Option.bind_some, if_pos (show sll (none : Option (List Row)) = [] from rfl)]
      obtain ⟨n, rfl⟩ : ∃ k, n = k + 1 := ⟨n - 1, by omega⟩
      rfl
    · rw [if_neg hz]
      simp only []
      obtain ⟨t, t1, t2⟩ := bag_ok hWY ha (by show Y.length < _; omega) (by omega) (n := n) (by omega)
      have tt : t = true := t2.2 ⟨ly.symm, fun z => Nat.le_of_eq (cnt_perm y2.perm z).symm⟩
      obtain ⟨b, b1, b2⟩ := row_Sorted_ok (n := n) (by omega) ho hWY
      have bt : b = true := b2.2 y1
      obtain ⟨Z, z1, z2, z3⟩ := row_Sort_ok (n := n) (by omega) hn2 ho hWY (by show Y.length ≤ _; omega)
      have hYZ : Y = Z := St.uniq hc z2 y1 z1
      subst hYZ
      have hYn : Y ≠ [] := by
        intro e
        rw [e] at ly
        exact hz (List.eq_nil_of_length_eq_zero ly)
      rw [show ((Y.length : Int) != ((sll a).length : Int)) = false by rw [ly]; simp, cond_false, t1, Option.bind_some, tt, Bool.not_true, cond_false, b1, Option.bind_some, bt, Bool.not_true, cond_false, z3, Option.bind_some, if_neg (show sll (some Y) ≠ [] from hYn)]
      simp only []
      obtain ⟨q, q1, q2⟩ := row_Sorted_ok (n := n) (by omega) ho ha
      have hWy : ∀ (i : Nat) (h : i < Y.length), WRow Y[i] := fun i h => hWY.2 _ (List.getElem_mem h)
      have l1 : ∀ K : Unit → Option Bool, law05_RowSorted_l10xxx n Y Y K n 0 = K () := fun K => by
        have := all_loop (F := fun m i => law05_RowSorted_l10xxx n Y Y K m i) (l := Y) (p := fun _ => true) (kk := K ()) (e := some false) (by omega) (fun m i x hi e => by
          show law05_RowSorted_l10xxx _ _ _ _ _ _ = _
          rw [law05_RowSorted_l10xxx, dT (by omega), cond_true, idx_at hi e, Option.bind_some, Option.bind_some, row_Cmp_self (by rw [← e]; exact hWy i hi) (by omega), Option.bind_some]
          rfl) (fun m => by
          show law05_RowSorted_l10xxx _ _ _ _ _ _ = _
          rw [law05_RowSorted_l10xxx, dF (by omega), cond_false]) n 0 (Nat.zero_le _) (by omega)
        have ht : (Y.drop 0).all (fun _ => true) = true := List.all_eq_true.2 fun _ _ => rfl
        rw [ht] at this
        exact this
      have l2 : ∀ K : Unit → Option Bool, law05_RowSorted_l16xxx n a o Y K n 0 = K () := fun K => by
        have := all_loop (F := fun m i => law05_RowSorted_l16xxx n a o Y K m i) (l := Y) (p := fun _ => true) (kk := K ()) (e := some false) (by omega) (fun m i x hi e => by
          show law05_RowSorted_l16xxx _ _ _ _ _ _ _ = _
          rw [law05_RowSorted_l16xxx, dT (by omega), cond_true, q1, Option.bind_some]
          cases hqq : q with
          | false => rfl
          | true =>
            have hs := q2.1 hqq
            have hYa : sll a = Y := St.uniq hc y2 hs y1
            rw [cond_true, idx_at hi e, Option.bind_some, hYa, idx_at hi e, Option.bind_some, row_Cmp_self (by rw [← e]; exact hWy i hi) (by omega), Option.bind_some]
            rfl) (fun m => by
          show law05_RowSorted_l16xxx _ _ _ _ _ _ _ = _
          rw [law05_RowSorted_l16xxx, dF (by omega), cond_false]) n 0 (Nat.zero_le _) (by omega)
        have ht : (Y.drop 0).all (fun _ => true) = true := List.all_eq_true.2 fun _ _ => rfl
        rw [ht] at this
        exact this
      rw [l1, l2]
      simp
theorem RowSorted_true {n : Nat} (h : n = 4000000) {a : Option (List Row)} {o : Option (List api_Key)} (ha : WRows a) (ho : wSl W_api_Key o) : law05_RowSorted n a o = some true := by
  subst h
  exact RowSorted_big (n := 3999999) (by decide) (by decide) works_ok ha ho.1
end Go.Pl

