import Derived.Test.YtmdjdpnmbgdngaaR5b
set_option linter.unusedVariables false
set_option linter.unusedSimpArgs false
namespace Go.Pl
open Go Go.Ab

/-! ### Two lists -/
def lexC {α : Type} (c : α → α → Int) : List α → List α → Int
  | [], [] => 0
  | [], _ :: _ => -1
  | _ :: _, [] => 1
  | x :: a, y :: b => if c x y ≠ 0 then c x y else lexC c a b
def lenC (a b : Nat) : Int := if (a : Int) < (b : Int) then -1 else if (a : Int) > (b : Int) then 1 else 0
theorem lexC_end {α : Type} (c : α → α → Int) (a b : List α) (h : a = [] ∨ b = []) : lexC c a b = lenC a.length b.length := by
  rcases h with rfl | rfl
  · cases b with
    | nil => rfl
    | cons y b => simp [lexC, lenC]
  · cases a with
    | nil => rfl
    | cons x a =>
      simp only [lexC, lenC, List.length_cons, List.length_nil]
      rw [if_neg (by omega), if_pos (by omega)]
/-- A loop over two lists. -/
theorem loop_two {α : Type} {F : Nat → Int → Option Int} {la lb : List α} {cm : α → α → Option Int} {c : α → α → Int} {k : Unit → Option Int} (hla : la.length ≤ 1048576)
    (hc : ∀ x y, x ∈ la → y ∈ lb → cm x y = some (c x y)) (hk : k () = some (lenC la.length lb.length))
    (hF : ∀ (m i : Nat), F (m + 1) i = bif (decide ((i : Int) < (la.length : Int)) && decide ((i : Int) < (lb.length : Int))) then (idx la i).bind fun x => (idx lb i).bind fun y => (cm x y).bind fun z => bif z != 0 then some z else F m (IntKind.wrap .i64 ((i : Int) + 1)) else k ()) :
    ∀ (m i : Nat), i ≤ la.length → i ≤ lb.length → la.length - i < m → F m i = some (lexC c (la.drop i) (lb.drop i)) := by
  intro m
  induction m with
  | zero => intro i _ _ h; omega
  | succ m ih =>
    intro i hi hj hm
    rw [hF m i]
    by_cases h1 : i < la.length
    · by_cases h2 : i < lb.length
      · have e1 : decide ((i : Int) < (la.length : Int)) = true := by simp; omega
        have e2 : decide ((i : Int) < (lb.length : Int)) = true := by simp; omega
        rw [e1, e2, Bool.true_and, cond_true, idx_nat, idx_nat, List.getElem?_eq_getElem h1, List.getElem?_eq_getElem h2, Option.bind_some, Option.bind_some, hc _ _ (List.getElem_mem _) (List.getElem_mem _), Option.bind_some, List.drop_eq_getElem_cons h1, List.drop_eq_getElem_cons h2, kne]
        simp only [lexC]
        rw [wrapN (by omega), ih (i + 1) (by omega) (by omega) (by omega), some_ite]
      · have e2 : decide ((i : Int) < (lb.length : Int)) = false := by simp; omega
        rw [e2, Bool.and_false, cond_false, hk, lexC_end _ _ _ (.inr (List.drop_eq_nil_of_le (by omega)))]
        congr 1
        rw [List.length_drop, List.length_drop]
        unfold lenC
        repeat' split
        all_goals first | rfl | omega
    · have e1 : decide ((i : Int) < (la.length : Int)) = false := by simp; omega
      rw [e1, Bool.false_and, cond_false, hk, lexC_end _ _ _ (.inl (List.drop_eq_nil_of_le (by omega)))]
      congr 1
      rw [List.length_drop, List.length_drop]
      unfold lenC
      repeat' split
      all_goals first | rfl | omega
abbrev rCmp (a b : List api_Value) : Int := lexC vCmp a b
theorem row_Cmp_ok {a b : Option (List api_Value)} (ha : wSl W_api_Value a) (hb : wSl W_api_Value b) {n : Nat} (h : 2000010 ≤ n) : row_Cmp n a b = some (rCmp (sll a) (sll b)) := by
  obtain ⟨n, rfl⟩ : ∃ k, n = k + 2 := ⟨n - 2, by omega⟩
  unfold row_Cmp row_lists_Value_value_Cmp
  simp only [at1_succ, withK]
  rw [cmp_int_ok _ _ (by omega), Option.bind_some]
  have hl := ha.1
  have := loop_two (F := fun m i => row_lists_Value_value_Cmp_l2 n a b (fun _ => some (iC (sll a).length (sll b).length)) m i) (la := sll a) (lb := sll b) (cm := fun x y => value_Cmp n x y) (c := vCmp) (k := fun _ => some (iC (sll a).length (sll b).length)) ha.1
    (fun x y hx hy => value_Cmp_ok (ha.2 x hx) (hb.2 y hy) (by omega)) rfl (fun m i => rfl) n 0 (by omega) (by omega) (by omega)
  rw [List.drop_zero, List.drop_zero] at this
  rw [show row_lists_Value_value_Cmp_l2 n a b (fun _ => some (iC (sll a).length (sll b).length)) n 0 = _ from this]
  rfl
/-! ### By an order -/
def rAt (l : List api_Value) (i : Int) : api_Value := if i < 0 ∨ i ≥ (l.length : Int) then zeroV else (l[i.toNat]?).getD zeroV
theorem rAt_W {l : List api_Value} (h : ∀ x, x ∈ l → W_api_Value x) (i : Int) : W_api_Value (rAt l i) := by
  unfold rAt
  split
  · exact W_zeroV
  · cases hx : l[i.toNat]? with
    | none => exact W_zeroV
    | some x => exact h x (List.mem_of_getElem? hx)
theorem row_at_ok (a : Option (List api_Value)) (i : Int) {n : Nat} (h : 1 ≤ n) : row_at n a i = some (rAt (sll a) i) := by
  obtain ⟨n, rfl⟩ : ∃ k, n = k + 1 := ⟨n - 1, by omega⟩
  unfold row_at rAt
  rw [at1_succ]
  by_cases h0 : i < 0
  · simp [h0]
  · by_cases h1 : i ≥ ((sll a).length : Int)
    · simp [h1]
    · rw [if_neg (by omega), decide_eq_false h0, decide_eq_false h1]
      have : i = ((i.toNat : Nat) : Int) := by omega
      rw [this, idx_nat, Int.toNat_natCast, List.getElem?_eq_getElem (by omega)]
      rfl
def byC (a b : List api_Value) : List api_Key → Int
  | [] => 0
  | k :: ks =>
    let c := vCmp (rAt a k.fOut) (rAt b k.fOut)
    let d := if k.fDesc then -c else c
    if d ≠ 0 then d else byC a b ks
theorem fC_range (x y : Nat) : fC x y = -1 ∨ fC x y = 0 ∨ fC x y = 1 := by
  unfold fC
  cases isNan x <;> cases isNan y <;> cases fLt x y <;> cases fGt x y <;> simp
theorem iC_range (x y : Int) : iC x y = -1 ∨ iC x y = 0 ∨ iC x y = 1 := by
  unfold iC; repeat' split
  all_goals simp
theorem sC_range (x y : ByteArray) : sC x y = -1 ∨ sC x y = 0 ∨ sC x y = 1 := by
  unfold sC; cases sLt x y <;> cases sEq x y <;> simp
theorem vCmp_range (a b : api_Value) : vCmp a b = -1 ∨ vCmp a b = 0 ∨ vCmp a b = 1 := by
  unfold vCmp vC
  repeat' split
  · exact iC_range _ _
  · exact fC_range _ _
  · exact sC_range _ _
  · exact iC_range _ _
theorem wrap_neg (a b : api_Value) : IntKind.wrap .i64 (0 - vCmp a b) = -vCmp a b := by
  rcases vCmp_range a b with h | h | h <;> rw [h] <;> decide
theorem by_range (a b : List api_Value) (q : api_Key → Option Int) (l : List api_Key) (hq : ∀ k, k ∈ l → q k = some (vCmp (rAt a k.fOut) (rAt b k.fOut))) : ∀ i, rangeS (fun (k : api_Key) i (_ : Unit) rec => (q k).bind fun c => bif k.fDesc then bif (IntKind.wrap .i64 (0 - c) != 0) then some (IntKind.wrap .i64 (0 - c)) else rec () else bif c != 0 then some c else rec ()) (fun _ => some 0) l i () = some (byC a b l) := by
  induction l with
  | nil => intro i; rfl
  | cons k l ih =>
    intro i
    simp only [rangeS, byC]
    rw [hq k (by simp), Option.bind_some, ih (fun k hk => hq k (by simp [hk])), wrap_neg]
    cases k.fDesc with
    | true => simp only [cond_true, kne, some_ite, if_true]
    | false => simp [kne, some_ite]
theorem row_By_ok {o : Option (List api_Key)} {a b : Option (List api_Value)} (ho : (sll o).length ≤ 1048576) (ha : wSl W_api_Value a) (hb : wSl W_api_Value b) {n : Nat} (h : 2000010 ≤ n) : row_By n o a b = some (byC (sll a) (sll b) (sll o)) := by
  obtain ⟨n, rfl⟩ : ∃ k, n = k + 1 := ⟨n - 1, by omega⟩
  unfold row_By
  simp only [at1_succ, withK]
  rw [← by_range (sll a) (sll b) (fun k => (row_at n a k.fOut).bind fun x => (row_at n b k.fOut).bind fun y => value_Cmp n x y) (sll o) (fun k hk => by
    rw [row_at_ok _ _ (by omega), row_at_ok _ _ (by omega), Option.bind_some, Option.bind_some, value_Cmp_ok (rAt_W ha.2 _) (rAt_W hb.2 _) (by omega)]) 0]
  rw [show row_By_l2 n o a b (fun _ => some 0) n 0 = _ from loop_sl (F := fun m (_ : Unit) i => row_By_l2 n o a b (fun _ => some 0) m i) ho (B := fun (k : api_Key) i (_ : Unit) rec => (row_at n a k.fOut).bind fun x => (row_at n b k.fOut).bind fun y => (value_Cmp n x y).bind fun c => bif k.fDesc then bif (IntKind.wrap .i64 (0 - c) != 0) then some (IntKind.wrap .i64 (0 - c)) else rec () else bif c != 0 then some c else rec ()) (k := fun _ => some 0) (fun m i s => rfl) (by omega) ()]
  congr 1
  funext k i u rec
  cases row_at n a k.fOut <;> simp only [Option.bind_some, Option.bind_none]
  cases row_at n b k.fOut <;> simp only [Option.bind_some, Option.bind_none]
/-! ### May a row be? -/
/-! ### Too great? -/
theorem range_some {α S R : Type} {B : α → Nat → S → (S → Option R) → Option R} {k : S → Option R} (hk : ∀ s, ∃ r, k s = some r) : ∀ (l : List α) (i : Nat) (s : S), (∀ x, x ∈ l → ∀ i s rec, (∀ s', ∃ r, rec s' = some r) → ∃ r, B x i s rec = some r) → ∃ r, rangeS B k l i s = some r
  | [], _, s, _ => hk s
  | x :: l, i, s, h => h x (by simp) i s _ fun s' => range_some hk l (i + 1) s' fun y hy => h y (by simp [hy])
theorem great_some {a : Option (List (Option (List api_Value)))} (ha : wSl (wSl W_api_Value) a) {n : Nat} (h : 2000010 ≤ n) : ∃ b, law05_great n a = some b := by
  obtain ⟨n, rfl⟩ : ∃ k, n = k + 2 := ⟨n - 2, by omega⟩
  unfold law05_great ref05_Bulk
  simp only [at1_succ, withK]
  cases hd : decide (((sll a).length : Int) > 600) with
  | true => exact ⟨_, rfl⟩
  | false =>
    rw [cond_false]
    have : ∃ r, ref05_Bulk_l5 n a 600 (fun y => some y) n ((sll a).length : Int) 0 = some r := by
      rw [show ref05_Bulk_l5 n a 600 (fun y => some y) n ((sll a).length : Int) 0 = _ from loop_sl (F := fun m s i => ref05_Bulk_l5 n a 600 (fun y => some y) m s i) ha.1 (B := fun (x16 : Option (List api_Value)) i (y8 : Int) rec => bif (decide (((sll x16).length : Int) > 600)) then some (IntKind.wrap .i64 (600 + 1)) else ref05_Bulk_l10 n 600 rec x16 n y8 0) (k := fun y => some y) (fun m i s => rfl) (by omega) _]
      refine range_some (fun s => ⟨s, rfl⟩) _ _ _ fun x hx i s rec hrec => ?_
      cases decide (((sll x).length : Int) > 600) with
      | true => exact ⟨_, rfl⟩
      | false =>
        rw [cond_false, show ref05_Bulk_l10 n 600 rec x n s 0 = _ from loop_sl (F := fun m s i => ref05_Bulk_l10 n 600 rec x m s i) (ha.2 x hx).1 (B := fun (v : api_Value) i (y21 : Int) rc => bif decide (y21 > 600) then some (IntKind.wrap .i64 (600 + 1)) else bif decide ((v.fText.size : Int) > 600) then some (IntKind.wrap .i64 (600 + 1)) else rc (IntKind.wrap .i64 ((IntKind.wrap .i64 (y21 + 1)) + (v.fText.size : Int)))) (k := rec) (fun m i s => by
          have e : ref05_Bulk_l10 n 600 rec x (m + 1) s i = bif decide ((i : Int) < ((sll x).length : Int)) then bif decide (s > 600) then some (IntKind.wrap .i64 (600 + 1)) else (idx (sll x) i).bind fun x26 => bif (decide ((x26.fText.size : Int) > 600)) then some (IntKind.wrap .i64 (600 + 1)) else ref05_Bulk_l10 n 600 rec x m (IntKind.wrap .i64 ((IntKind.wrap .i64 (s + 1)) + (x26.fText.size : Int))) (IntKind.wrap .i64 ((i : Int) + 1)) else rec s := rfl
          rw [e]
          by_cases hi : i < (sll x).length
          · rw [idx_nat, List.getElem?_eq_getElem hi]; rfl
          · have : decide ((i : Int) < ((sll x).length : Int)) = false := by simp; omega
            rw [this]; rfl) (by omega) _]
        refine range_some hrec _ _ _ fun v hv i s rc hrc => ?_
        cases decide (s > 600) with
        | true => exact ⟨_, rfl⟩
        | false =>
        rw [cond_false]
        cases decide ((v.fText.size : Int) > 600) with
        | true => exact ⟨_, rfl⟩
        | false => exact hrc _
    obtain ⟨r, hr⟩ := this
    rw [hr]
    exact ⟨_, rfl⟩
end Go.Pl
