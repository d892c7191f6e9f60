import Derived.Test.YtejbcaheoloahaaHB
set_option maxRecDepth 100000
namespace Go.Pl
open Go Go.Ab
theorem ex_cond {α : Type} {c : Bool} {A B : Option α} (h1 : c = true → ∃ r, A = some r) (h2 : c = false → ∃ r, B = some r) : ∃ r, (bif c then A else B) = some r := by
  cases c with
  | true => exact h1 rfl
  | false => exact h2 rfl
theorem ex_bind {α β : Type} {A : Option α} {F : α → Option β} (h1 : ∃ a, A = some a) (h2 : ∀ a, ∃ r, F a = some r) : ∃ r, A.bind F = some r := by
  obtain ⟨a, rfl⟩ := h1
  exact h2 a
theorem ex_loop {α S R : Type} {F : Nat → S → Int → Option R} {l : List α} {P : Nat → S → Prop} (hl : l.length ≤ 1048576)
    (hF : ∀ (m i : Nat) (s : S) (x : α), (hi : i < l.length) → l[i] = x → P i s → (∃ r, F (m + 1) s (i : Int) = some r) ∨ ∃ s', P (i + 1) s' ∧ F (m + 1) s (i : Int) = F m s' (IntKind.wrap .i64 ((i : Int) + 1)))
    (hE : ∀ (m : Nat) (s : S), P l.length s → ∃ r, F (m + 1) s (l.length : Int) = some r) : ∀ (m i : Nat) (s : S), i ≤ l.length → l.length - i < m → P i s → ∃ r, F m s (i : Int) = some r
  | 0, i, s, _, h, _ => by omega
  | m + 1, i, s, h, hm, hp => by
    by_cases hi : i < l.length
    · rcases hF m i s _ hi rfl hp with h1 | ⟨s', hp', h1⟩
      · exact h1
      · rw [h1, wrapN (by omega)]
        exact ex_loop hl hF hE m (i + 1) s' (by omega) (by omega) hp'
    · obtain rfl : i = l.length := by omega
      exact hE m s hp
theorem ex_loop0 {α S R : Type} {F : Nat → S → Int → Option R} {l : List α} (P : Nat → S → Prop) (hl : l.length ≤ 1048576) {m : Nat} (hm : 2000000 ≤ m) (s : S) (h0 : P 0 s)
    (hF : ∀ (m i : Nat) (s : S) (x : α), (hi : i < l.length) → l[i] = x → P i s → (∃ r, F (m + 1) s (i : Int) = some r) ∨ ∃ s', P (i + 1) s' ∧ F (m + 1) s (i : Int) = F m s' (IntKind.wrap .i64 ((i : Int) + 1)))
    (hE : ∀ (m : Nat) (s : S), P l.length s → ∃ r, F (m + 1) s (l.length : Int) = some r) : ∃ r, F m s 0 = some r :=
  ex_loop hl hF hE m 0 s (by omega) (by omega) h0
theorem node_rel {x : api_Expr} (h : nodeE x = true) : 0 ≤ x.fRel ∧ 0 ≤ x.fCol ∧ kidsE x.fKind = ((sll x.fKids).length : Int) := by
  unfold nodeE fieldsE inE at h
  simp only [Bool.and_eq_true, beq_iff_eq, decide_eq_true_eq] at h
  obtain ⟨h0, ⟨⟨⟨_, h1⟩, h2⟩, _⟩, _⟩ := h
  exact ⟨h1.1, h2.1, h0⟩
theorem idx_lt {α : Type} {l : List α} {i : Int} (h0 : 0 ≤ i) (h : i < (l.length : Int)) : ∃ x, idx l i = some x ∧ x ∈ l := by
  have hi : i.toNat < l.length := by omega
  refine ⟨l[i.toNat], ?_, List.getElem_mem hi⟩
  unfold idx
  rw [if_pos h0, List.getElem?_eq_getElem hi]
theorem column_any {x : api_Expr} (h : nodeE x = true) (a : Option (List api_Table)) {n : Nat} (hn : 1 ≤ n) : ∃ r, expr_column n x a = some r := by
  obtain ⟨n, rfl⟩ : ∃ j, n = j + 1 := ⟨n - 1, by omega⟩
  obtain ⟨h1, h2, _⟩ := node_rel h
  unfold expr_column
  rw [at1_succ]
  refine ex_cond (fun _ => ⟨_, rfl⟩) fun hc => ?_
  obtain ⟨t, e, _⟩ := idx_lt (l := sll a) (i := x.fRel) h1 (by simpa using hc)
  rw [e, Option.bind_some]
  refine ex_cond (fun _ => ⟨_, rfl⟩) fun hc => ?_
  obtain ⟨c, e, _⟩ := idx_lt (l := sll t.fCols) (i := x.fCol) h2 (by simpa using hc)
  rw [e]
  exact ⟨_, rfl⟩
theorem eta_E (x : api_Expr) : (api_Expr.mk (x.fKind) (x.fRel) (x.fCol) (api_Value.mk ((x.fConst).fKind) ((x.fConst).fInt) ((x.fConst).fFloat) ((x.fConst).fText)) (x.fKids)) = x := rfl
theorem refs_any (a : Option (List api_Table)) : ∀ (r : Nat) (x : api_Expr) (c : Nat), frmE r x = some c → W_api_Expr x → ∀ m n, r ≤ m → 2000010 + r ≤ n → ∃ v, expr_refs_t m n x a = some v
  | 0, x, c, h, _, m, n, _, _ => by cases h
  | r + 1, x, c, h, hw, m, n, hm, hn => by
    obtain ⟨m, rfl⟩ : ∃ j, m = j + 1 := ⟨m - 1, by omega⟩
    obtain ⟨n, rfl⟩ : ∃ j, n = j + 1 := ⟨n - 1, by omega⟩
    obtain ⟨hnode, hk⟩ := frmE_kid h
    rw [expr_refs_t, expr_refs_f, at1_succ]
    have hloop : ∃ v, expr_refs_l4 n (expr_refs_t m) x a n 0 = some v := by
      refine ex_loop0 (F := fun k (_ : Unit) i => expr_refs_l4 n (expr_refs_t m) x a k i) (l := sll x.fKids) (fun _ _ => True) (kids_len hw) (by omega) () trivial (fun k i _ z hi hz _ => ?_) fun k _ _ => ?_
      · skip
        rw [expr_refs_l4, dT (by omega), cond_true, idx_at hi hz, Option.bind_some, eta_E]
        have hmem : z ∈ sll x.fKids := hz ▸ List.getElem_mem hi
        obtain ⟨c', hc', _⟩ := hk z hmem
        obtain ⟨v, hv⟩ := refs_any a r (un_api_Expr z) c' hc' (W_kid hw hmem) m n (by omega) (by omega)
        rw [hv, Option.bind_some]
        cases v with
        | inl e => exact .inl ⟨_, rfl⟩
        | inr u => exact .inr ⟨(), trivial, rfl⟩
      · skip
        rw [expr_refs_l4, dF (by omega), cond_false]
        exact ⟨_, rfl⟩
    simp only [withK]
    refine ex_cond (fun _ => ?_) fun _ => hloop
    obtain ⟨v, hv⟩ := column_any hnode a (n := n) (by omega)
    rw [hv, Option.bind_some]
    cases v with
    | inl e => exact ⟨_, rfl⟩
    | inr u => exact hloop
theorem one_num_any {n : Nat} (hn : 2 ≤ n) (p q : Int) : ∃ v, expr_one_expr_numeric n p q = some v := by
  obtain ⟨n, rfl⟩ : ∃ j, n = j + 2 := ⟨n - 2, by omega⟩
  unfold expr_one_expr_numeric expr_numeric
  simp only [at1_succ, Option.bind_some]
  exact ex_cond (fun _ => ⟨_, rfl⟩) fun _ => ex_cond (fun _ => ⟨_, rfl⟩) fun _ => ⟨_, rfl⟩
theorem one_typ_any {n : Nat} (hn : 2 ≤ n) (p q : Int) : ∃ v, expr_one_expr_typed_1 n p q = some v := by
  obtain ⟨n, rfl⟩ : ∃ j, n = j + 2 := ⟨n - 2, by omega⟩
  unfold expr_one_expr_typed_1 expr_typed_1
  simp only [at1_succ, Option.bind_some]
  exact ex_cond (fun _ => ⟨_, rfl⟩) fun _ => ex_cond (fun _ => ⟨_, rfl⟩) fun _ => ⟨_, rfl⟩
theorem one_tru_any {n : Nat} (hn : 2 ≤ n) (p q : Int) : ∃ v, expr_one_expr_truth n p q = some v := by
  obtain ⟨n, rfl⟩ : ∃ j, n = j + 2 := ⟨n - 2, by omega⟩
  unfold expr_one_expr_truth expr_truth
  simp only [at1_succ, Option.bind_some]
  exact ex_cond (fun _ => ⟨_, rfl⟩) fun _ => ex_cond (fun _ => ⟨_, rfl⟩) fun _ => ⟨_, rfl⟩
theorem ex_sum {α β : Type} {A : Option (Int ⊕ α)} {F : Int ⊕ α → Option β} (h1 : ∃ a, A = some a) (h2 : ∀ e, ∃ r, F (.inl e) = some r) (h3 : ∀ y, ∃ r, F (.inr y) = some r) : ∃ r, A.bind F = some r := by
  obtain ⟨a, rfl⟩ := h1
  cases a with
  | inl e => exact h2 e
  | inr y => exact h3 y
theorem kidsE_cases {k : Int} {l : Nat} (h : kidsE k = (l : Int)) : (l = 0 ∧ (k = 1 ∨ k = 2)) ∨ (l = 1 ∧ (k = 6 ∨ k = 12 ∨ k = 13)) ∨ (l = 2 ∧ (k = 3 ∨ k = 4 ∨ k = 5 ∨ k = 7 ∨ k = 8 ∨ k = 9 ∨ k = 10 ∨ k = 11)) := by
  unfold kidsE at h
  split at h
  · exact .inl ⟨by omega, by assumption⟩
  · split at h
    · exact .inr (.inl ⟨by omega, by assumption⟩)
    · split at h
      · exact .inr (.inr ⟨by omega, by omega⟩)
      · omega
theorem typed_any (a : Option (List api_Table)) : ∀ (r : Nat) (x : api_Expr) (c : Nat), frmE r x = some c → W_api_Expr x → ∀ m n, r ≤ m → 2000010 + r ≤ n → ∃ v, expr_typed_t m n x a = some v
  | 0, x, c, h, _, m, n, _, _ => by cases h
  | r + 1, x, c, h, hw, m, n, hm, hn => by
    obtain ⟨m, rfl⟩ : ∃ j, m = j + 1 := ⟨m - 1, by omega⟩
    obtain ⟨n, rfl⟩ : ∃ j, n = j + 1 := ⟨n - 1, by omega⟩
    obtain ⟨hnode, hk⟩ := frmE_kid h
    obtain ⟨_, _, hlen⟩ := node_rel hnode
    have hl := kids_len hw
    rw [expr_typed_t, expr_typed_f, at1_succ]
    rw [withK]
    refine ex_loop0 (F := fun k (s : Option (List Int)) i => expr_typed_l3 n (expr_typed_t m) x a _ k i s) (l := sll x.fKids) (fun i s => (sll s).length = i ∧ (s = none ↔ i = 0)) hl (by omega) none ⟨rfl, by simp⟩ (fun k i s z hi hz hp => ?_) fun k s hp => ?_
    · skip
      have hmem : z ∈ sll x.fKids := hz ▸ List.getElem_mem hi
      obtain ⟨c', hc', _⟩ := hk z hmem
      obtain ⟨v, hv⟩ := typed_any a r (un_api_Expr z) c' hc' (W_kid hw hmem) m n (by omega) (by omega)
      obtain ⟨p1, p2⟩ := hp
      cases s with
      | none =>
        rw [expr_typed_l3, dT (by omega), cond_true, idx_at hi hz, Option.bind_some, eta_E, hv, Option.bind_some]
        cases v with
        | inl e => exact .inl ⟨_, rfl⟩
        | inr u =>
          simp only []
          rw [ckA_ok (by simp) (by omega), Option.bind_some]
          have : i = 0 := p2.1 rfl
          exact .inr ⟨_, ⟨by subst this; rfl, by simp⟩, rfl⟩
      | some y =>
        rw [expr_typed_l3, dT (by omega), cond_true, idx_at hi hz, Option.bind_some, eta_E, hv, Option.bind_some]
        rw [sll_some] at p1
        cases v with
        | inl e => exact .inl ⟨_, rfl⟩
        | inr u =>
          simp only []
          rw [ckA_ok (by simp; omega) (by omega), Option.bind_some]
          exact .inr ⟨_, ⟨by rw [sll_some, List.length_append, p1]; rfl, by simp⟩, rfl⟩
    · skip
      obtain ⟨p1, p2⟩ := hp
      cases s with
      | none =>
        rw [expr_typed_l3, dF (by omega), cond_false]
        simp only [withK]
        have h0 : (sll x.fKids).length = 0 := p2.1 rfl
        rcases kidsE_cases hlen with ⟨_, h1 | h1⟩ | ⟨h1, _⟩ | ⟨h1, _⟩
        · rw [show (x.fKind == 1) = true by rw [h1]; rfl, cond_true]
          exact ex_sum (column_any hnode a (by omega)) (fun _ => ⟨_, rfl⟩) fun _ => ⟨_, rfl⟩
        · rw [show (x.fKind == 1) = false by rw [h1]; rfl, cond_false, show (x.fKind == 2) = true by rw [h1]; rfl, cond_true]
          exact ⟨_, rfl⟩
        · omega
        · omega
      | some y =>
        rw [expr_typed_l3, dF (by omega), cond_false]
        rw [sll_some] at p1
        rcases kidsE_cases hlen with ⟨h1, _⟩ | ⟨h1, h2⟩ | ⟨h1, h2⟩
        · have := p2.2 h1; cases this
        · obtain ⟨u, rfl⟩ : ∃ u, y = [u] := by
            match y, p1 with
            | [u], _ => exact ⟨u, rfl⟩
            | [], p1 => simp at p1; omega
            | _ :: _ :: _, p1 => simp at p1; omega
          rcases h2 with h2 | h2 | h2 <;> simp (decide := true) only [withK, h2, cond_true, cond_false, idx_nat, Int.reduceBEq, show idx [u] 0 = some u from rfl, Option.bind_some]
          · exact ex_sum (one_num_any (by omega) _ _) (fun _ => ⟨_, rfl⟩) fun _ => ⟨_, rfl⟩
          · exact ex_sum (one_tru_any (by omega) _ _) (fun _ => ⟨_, rfl⟩) fun _ => ⟨_, rfl⟩
          · exact ⟨_, rfl⟩
        · obtain ⟨u, v, rfl⟩ : ∃ u v, y = [u, v] := by
            match y, p1 with
            | [u, v], _ => exact ⟨u, v, rfl⟩
            | [], p1 => simp at p1; omega
            | [_], p1 => simp at p1; omega
            | _ :: _ :: _ :: _, p1 => simp at p1; omega
          rcases h2 with h2 | h2 | h2 | h2 | h2 | h2 | h2 | h2 <;> simp (decide := true) only [withK, h2, cond_true, cond_false, idx_nat, Int.reduceBEq, show idx [u, v] 0 = some u from rfl, show idx [u, v] 1 = some v from rfl, Option.bind_some]
          · exact ex_sum (one_num_any (by omega) _ _) (fun _ => ⟨_, rfl⟩) fun _ => ⟨_, rfl⟩
          · exact ex_sum (one_num_any (by omega) _ _) (fun _ => ⟨_, rfl⟩) fun _ => ⟨_, rfl⟩
          · exact ex_sum (one_num_any (by omega) _ _) (fun _ => ⟨_, rfl⟩) fun _ => ⟨_, rfl⟩
          · exact ex_sum (one_typ_any (by omega) _ _) (fun _ => ⟨_, rfl⟩) fun _ => ⟨_, rfl⟩
          · exact ex_sum (one_typ_any (by omega) _ _) (fun _ => ⟨_, rfl⟩) fun _ => ⟨_, rfl⟩
          · exact ex_sum (one_typ_any (by omega) _ _) (fun _ => ⟨_, rfl⟩) fun _ => ⟨_, rfl⟩
          · exact ex_sum (one_tru_any (by omega) _ _) (fun _ => ⟨_, rfl⟩) fun _ => ⟨_, rfl⟩
          · exact ex_sum (one_tru_any (by omega) _ _) (fun _ => ⟨_, rfl⟩) fun _ => ⟨_, rfl⟩
theorem type_any {x : api_Expr} (hw : W_api_Expr x) (a : Option (List api_Table)) {n : Nat} (hn : 2000200 ≤ n) : ∃ p, expr_Type n x a = some p := by
  obtain ⟨n, rfl⟩ : ∃ j, n = j + 3 := ⟨n - 3, by omega⟩
  unfold expr_Type
  rw [at1_succ, expr_Formed_ok hw (by omega), Option.bind_some]
  refine ex_cond (fun _ => ⟨_, rfl⟩) fun hf => ?_
  obtain ⟨c, hc, _⟩ := formed_frm (x := x) (by simpa using hf)
  have hT : ∃ v, expr_Type_1 (n + 1) x.fKind x.fRel x.fCol x.fConst.fKind x.fConst.fInt x.fConst.fFloat x.fConst.fText x.fKids a 0 = some v := by
    unfold expr_Type_1
    rw [at1_succ, eta_E]
    refine ex_sum (refs_any a 24 x c hc hw n n (by omega) (by omega)) (fun _ => ⟨_, rfl⟩) fun _ => ?_
    exact ex_sum (typed_any a 24 x c hc hw n n (by omega) (by omega)) (fun _ => ⟨_, rfl⟩) fun _ => ⟨_, rfl⟩
  have hg : ∃ v, expr_guarded_expr_Type_1 (n + 2) x.fKind x.fRel x.fCol x.fConst.fKind x.fConst.fInt x.fConst.fFloat x.fConst.fText x.fKids a 0 = some v := by
    unfold expr_guarded_expr_Type_1
    rw [at1_succ]
    exact ex_sum hT (fun _ => ⟨_, rfl⟩) fun _ => ⟨_, rfl⟩
  obtain ⟨v, hv⟩ := hg
  rw [hv, Option.bind_some]
  exact ex_cond (fun _ => ⟨_, rfl⟩) fun _ => ⟨_, rfl⟩
end Go.Pl
set_option maxRecDepth 100000
namespace Go.Pl
open Go Go.Ab
def Is {α : Type} (P : α → Prop) (o : Option α) : Prop := ∃ r, o = some r ∧ P r
theorem is_cond {α : Type} {P : α → Prop} {c : Bool} {A B : Option α} (h1 : c = true → Is P A) (h2 : c = false → Is P B) : Is P (bif c then A else B) := by
  cases c with
  | true => exact h1 rfl
  | false => exact h2 rfl
theorem is_bind {α β : Type} {Q : α → Prop} {P : β → Prop} {A : Option α} {F : α → Option β} (h1 : Is Q A) (h2 : ∀ a, Q a → Is P (F a)) : Is P (A.bind F) := by
  obtain ⟨a, rfl, hq⟩ := h1
  exact h2 a hq
theorem is_ex {α : Type} {o : Option α} (h : ∃ r, o = some r) : Is (fun _ => True) o := by
  obtain ⟨r, h⟩ := h
  exact ⟨r, h, trivial⟩
theorem is_u {α : Type} (x : α) : Is (fun _ => True) (some x) := ⟨x, rfl, trivial⟩
theorem ck8 {l : Nat} (h : l ≤ 2000000) : Is (fun _ => True) (ckA 8 l) := ⟨(), ckA_ok h (by omega), trivial⟩
section
variable {x : api_Expr} (hw : W_api_Expr x) (a : Option (List api_Table)) {n : Nat} (hn : 2000300 ≤ n)
include hw hn
theorem r4_any : Is (fun _ => True) (query_Right_4 n a x) := by
  obtain ⟨n, rfl⟩ : ∃ j, n = j + 3 := ⟨n - 3, by omega⟩
  unfold query_Right_4 query_Right_1_query_Right_4_1_query_Right_4_2 query_Right_4_1 query_Right_4_2
  simp only [at1_succ, Option.bind_some, withK]
  refine is_bind (Q := fun _ => True) (is_bind (is_ex (type_any hw a (n := n + 1) (by omega))) fun p _ => ?_) fun v _ => ⟨_, rfl, trivial⟩
  refine is_cond (fun _ => is_cond (fun _ => is_cond (fun _ => ⟨_, rfl, trivial⟩) fun _ => ⟨_, rfl, trivial⟩) fun _ => is_cond (fun _ => ⟨_, rfl, trivial⟩) fun _ => ⟨_, rfl, trivial⟩) fun _ => is_cond (fun _ => ⟨_, rfl, trivial⟩) fun _ => ⟨_, rfl, trivial⟩
theorem t23_any : Is (fun p => (sll p.1).length ≤ 1) (query_Right_1_query_Right_2_query_Right_3 n a x) := by
  obtain ⟨n, rfl⟩ : ∃ j, n = j + 3 := ⟨n - 3, by omega⟩
  unfold query_Right_1_query_Right_2_query_Right_3 query_Right_2 query_Right_3
  simp only [at1_succ, Option.bind_some, withK]
  refine is_bind (is_ex (type_any hw a (n := n + 2) (by omega))) fun p _ => ?_
  have fin : ∀ y : Int, Is (fun p : (Option (List Int)) × Int => (sll p.1).length ≤ 1) (bif (y == 0) then ((ckA 8 ([p.1] : List Int).length).bind fun _ => some ()).bind fun _ => some ((some ([p.1] : List Int)), y) else some (none, y)) := fun y =>
    is_cond (fun _ => is_bind (is_bind (ck8 (by simp)) fun _ _ => is_u ()) fun _ _ => ⟨_, rfl, by simp [sll]⟩) fun _ => ⟨_, rfl, by simp [sll]⟩
  exact is_cond (fun _ => is_cond (fun _ => fin _) fun _ => fin _) fun _ => fin _
theorem t261_any : Is (fun p => (sll p.1).length ≤ 1) (query_Right_1_query_Right_2_query_Right_6_1 n a x) := by
  obtain ⟨n, rfl⟩ : ∃ j, n = j + 4 := ⟨n - 4, by omega⟩
  unfold query_Right_1_query_Right_2_query_Right_6_1 query_Right_2 query_Right_6_1 query_Right_3
  simp only [at1_succ, Option.bind_some, withK]
  refine is_bind (is_ex (type_any hw a (n := n + 3) (by omega))) fun p _ => ?_
  have fin : ∀ y : Int, Is (fun p : (Option (List Int)) × Int => (sll p.1).length ≤ 1) (bif (y == 0) then (((ckA 8 ([2] : List Int).length).bind fun _ => some ()).bind fun _ => some ()).bind fun _ => some ((some ([2] : List Int)), y) else some (none, y)) := fun y =>
    is_cond (fun _ => is_bind (is_bind (is_bind (ck8 (by simp)) fun _ _ => is_u ()) fun _ _ => is_u ()) fun _ _ => ⟨_, rfl, by simp [sll]⟩) fun _ => ⟨_, rfl, by simp [sll]⟩
  exact is_cond (fun _ => is_cond (fun _ => fin _) fun _ => fin _) fun _ => fin _
theorem t623_any : Is (fun p => (sll p.1).length ≤ 1) (query_Right_1_query_Right_6_2_query_Right_6_3 n a x) := by
  obtain ⟨n, rfl⟩ : ∃ j, n = j + 4 := ⟨n - 4, by omega⟩
  unfold query_Right_1_query_Right_6_2_query_Right_6_3 query_Right_6_2 query_Right_6_3 query_Right_3
  simp only [at1_succ, Option.bind_some, withK]
  refine is_bind (is_ex (type_any hw a (n := n + 3) (by omega))) fun p _ => ?_
  have fin : ∀ y : Int, Is (fun p : (Option (List Int)) × Int => (sll p.1).length ≤ 1) (bif (y == 0) then (((ckA 8 ([2] : List Int).length).bind fun _ => some ()).bind fun _ => some ()).bind fun _ => some ((some ([2] : List Int)), y) else some (none, y)) := fun y =>
    is_cond (fun _ => is_bind (is_bind (is_bind (ck8 (by simp)) fun _ _ => is_u ()) fun _ _ => is_u ()) fun _ _ => ⟨_, rfl, by simp [sll]⟩) fun _ => ⟨_, rfl, by simp [sll]⟩
  exact is_cond (fun _ => is_cond (fun _ => fin _) fun _ => fin _) fun _ => fin _
variable {s : List Int} (hs : s.length ≤ 1900000)
include hs
theorem t23b_any : Is (fun p => p.1.length ≤ s.length + 1) (query_Right_1_query_Right_2_query_Right_3_2 n s a x) := by
  obtain ⟨n, rfl⟩ : ∃ j, n = j + 3 := ⟨n - 3, by omega⟩
  unfold query_Right_1_query_Right_2_query_Right_3_2 query_Right_2 query_Right_3_2
  simp only [at1_succ, Option.bind_some, withK]
  refine is_bind (is_ex (type_any hw a (n := n + 2) (by omega))) fun p _ => ?_
  have fin : ∀ y : Int, Is (fun p : (List Int) × Int => p.1.length ≤ s.length + 1) (bif (y == 0) then ((ckA 8 (s ++ ([p.1] : List Int)).length).bind fun _ => some ()).bind fun _ => some ((s ++ ([p.1] : List Int)), y) else some (s, y)) := fun y =>
    is_cond (fun _ => is_bind (is_bind (ck8 (by simp; omega)) fun _ _ => is_u ()) fun _ _ => ⟨_, rfl, by simp⟩) fun _ => ⟨_, rfl, by simp⟩
  exact is_cond (fun _ => is_cond (fun _ => fin _) fun _ => fin _) fun _ => fin _
theorem t261b_any : Is (fun p => p.1.length ≤ s.length + 1) (query_Right_1_query_Right_2_query_Right_6_1_2 n s a x) := by
  obtain ⟨n, rfl⟩ : ∃ j, n = j + 4 := ⟨n - 4, by omega⟩
  unfold query_Right_1_query_Right_2_query_Right_6_1_2 query_Right_2 query_Right_6_1_2 query_Right_3_2
  simp only [at1_succ, Option.bind_some, withK]
  refine is_bind (is_ex (type_any hw a (n := n + 3) (by omega))) fun p _ => ?_
  have fin : ∀ y : Int, Is (fun p : (List Int) × Int => p.1.length ≤ s.length + 1) (bif (y == 0) then (((ckA 8 (s ++ ([2] : List Int)).length).bind fun _ => some ()).bind fun _ => some ()).bind fun _ => some ((s ++ ([2] : List Int)), y) else some (s, y)) := fun y =>
    is_cond (fun _ => is_bind (is_bind (is_bind (ck8 (by simp; omega)) fun _ _ => is_u ()) fun _ _ => is_u ()) fun _ _ => ⟨_, rfl, by simp⟩) fun _ => ⟨_, rfl, by simp⟩
  exact is_cond (fun _ => is_cond (fun _ => fin _) fun _ => fin _) fun _ => fin _
theorem t623b_any : Is (fun p => p.1.length ≤ s.length + 1) (query_Right_1_query_Right_6_2_query_Right_6_3_2 n s a x) := by
  obtain ⟨n, rfl⟩ : ∃ j, n = j + 4 := ⟨n - 4, by omega⟩
  unfold query_Right_1_query_Right_6_2_query_Right_6_3_2 query_Right_6_2 query_Right_6_3_2 query_Right_3_2
  simp only [at1_succ, Option.bind_some, withK]
  refine is_bind (is_ex (type_any hw a (n := n + 3) (by omega))) fun p _ => ?_
  have fin : ∀ y : Int, Is (fun p : (List Int) × Int => p.1.length ≤ s.length + 1) (bif (y == 0) then (((ckA 8 (s ++ ([2] : List Int)).length).bind fun _ => some ()).bind fun _ => some ()).bind fun _ => some ((s ++ ([2] : List Int)), y) else some (s, y)) := fun y =>
    is_cond (fun _ => is_bind (is_bind (is_bind (ck8 (by simp; omega)) fun _ _ => is_u ()) fun _ _ => is_u ()) fun _ _ => ⟨_, rfl, by simp⟩) fun _ => ⟨_, rfl, by simp⟩
  exact is_cond (fun _ => is_cond (fun _ => fin _) fun _ => fin _) fun _ => fin _
end
theorem each4_any {w : Option (List EX)} (hw : wSl W_E_api_Expr w) (a : Option (List api_Table)) {n : Nat} (hn : 2000310 ≤ n) : Is (fun _ => True) (query_each_Expr_query_Right_4 n a w) := by
  obtain ⟨n, rfl⟩ : ∃ j, n = j + 1 := ⟨n - 1, by omega⟩
  unfold query_each_Expr_query_Right_4
  rw [at1_succ, withK]
  refine is_ex (ex_loop0 (F := fun k (_ : Unit) i => query_each_Expr_query_Right_4_l2 n a w _ k i) (l := sll w) (fun _ _ => True) hw.1 (by omega) () trivial (fun k i _ z hi hz _ => ?_) fun k _ _ => ?_)
  · have hmem : z ∈ sll w := hz ▸ List.getElem_mem hi
    obtain ⟨v, hv, _⟩ := r4_any (W_un (hw.2 z hmem)) a (n := n) (by omega)
    rw [query_each_Expr_query_Right_4_l2, dT (by omega), cond_true, idx_at hi hz, Option.bind_some, eta_E, hv, Option.bind_some]
    cases hb : v != 0 with
    | true => exact .inl ⟨_, rfl⟩
    | false => exact .inr ⟨(), trivial, rfl⟩
  · rw [query_each_Expr_query_Right_4_l2, dF (by omega), cond_false]
    exact ⟨_, rfl⟩
theorem r5_any {x : api_Expr} (hw : W_api_Expr x) (a : Option (List api_Table)) {n : Nat} (hn : 2000310 ≤ n) : Is (fun p => (sll p.1).length ≤ 1) (query_Right_5 n a x) := by
  obtain ⟨n, rfl⟩ : ∃ j, n = j + 1 := ⟨n - 1, by omega⟩
  unfold query_Right_5
  rw [at1_succ]
  refine is_bind (t23_any hw a (by omega)) fun p hp => ?_
  obtain ⟨o, e⟩ := p
  cases o <;> exact ⟨_, rfl, hp⟩
theorem r5b_any {x : api_Expr} (hw : W_api_Expr x) (a : Option (List api_Table)) {s : List Int} (hs : s.length ≤ 1900000) {n : Nat} (hn : 2000310 ≤ n) : Is (fun p => p.1.length ≤ s.length + 1) (query_Right_5_2 n s a x) := by
  obtain ⟨n, rfl⟩ : ∃ j, n = j + 1 := ⟨n - 1, by omega⟩
  unfold query_Right_5_2
  rw [at1_succ]
  exact is_bind (t23b_any hw a (by omega) hs) fun p hp => ⟨_, rfl, hp⟩
theorem is_loop {α S R : Type} {Q : R → Prop} {F : Nat → S → Int → Option R} {l : List α} {P : Nat → S → Prop} (hl : l.length ≤ 1048576)
    (hF : ∀ (m i : Nat) (s : S) (x : α), (hi : i < l.length) → l[i] = x → P i s → Is Q (F (m + 1) s (i : Int)) ∨ ∃ s', P (i + 1) s' ∧ F (m + 1) s (i : Int) = F m s' (IntKind.wrap .i64 ((i : Int) + 1)))
    (hE : ∀ (m : Nat) (s : S), P l.length s → Is Q (F (m + 1) s (l.length : Int))) : ∀ (m i : Nat) (s : S), i ≤ l.length → l.length - i < m → P i s → Is Q (F m s (i : Int))
  | 0, i, s, _, h, _ => by omega
  | m + 1, i, s, h, hm, hp => by
    by_cases hi : i < l.length
    · rcases hF m i s _ hi rfl hp with h1 | ⟨s', hp', h1⟩
      · exact h1
      · rw [h1, wrapN (by omega)]
        exact is_loop hl hF hE m (i + 1) s' (by omega) (by omega) hp'
    · obtain rfl : i = l.length := by omega
      exact hE m s hp
theorem is_loop0 {α S R : Type} {Q : R → Prop} {F : Nat → S → Int → Option R} {l : List α} (P : Nat → S → Prop) (hl : l.length ≤ 1048576) {m : Nat} (hm : 2000000 ≤ m) (s : S) (h0 : P 0 s)
    (hF : ∀ (m i : Nat) (s : S) (x : α), (hi : i < l.length) → l[i] = x → P i s → Is Q (F (m + 1) s (i : Int)) ∨ ∃ s', P (i + 1) s' ∧ F (m + 1) s (i : Int) = F m s' (IntKind.wrap .i64 ((i : Int) + 1)))
    (hE : ∀ (m : Nat) (s : S), P l.length s → Is Q (F (m + 1) s (l.length : Int))) : Is Q (F m s 0) :=
  is_loop hl hF hE m 0 s (by omega) (by omega) h0
theorem each5_any {w : Option (List EX)} (hw : wSl W_E_api_Expr w) (hl : (sll w).length ≤ 20) (a : Option (List api_Table)) {n : Nat} (hn : 2000320 ≤ n) : Is (fun p => (sll p.1).length ≤ 21) (query_each_Expr_query_Right_5 n a w) := by
  obtain ⟨n, rfl⟩ : ∃ j, n = j + 1 := ⟨n - 1, by omega⟩
  unfold query_each_Expr_query_Right_5
  rw [at1_succ, withK]
  refine is_loop0 (F := fun k (s : Option (List Int)) i => query_each_Expr_query_Right_5_l2 n a w _ k s i) (l := sll w) (fun i s => (sll s).length ≤ i) hw.1 (by omega) none (by simp [sll]) (fun k i s z hi hz hp => ?_) fun k s hp => ?_
  · have hmem : z ∈ sll w := hz ▸ List.getElem_mem hi
    cases s with
    | none =>
      obtain ⟨⟨o, v⟩, hv, ho⟩ := r5_any (W_un (hw.2 z hmem)) a (n := n) (by omega)
      rw [query_each_Expr_query_Right_5_l2, dT (by omega), cond_true, idx_at hi hz, Option.bind_some, eta_E, hv, Option.bind_some]
      cases o with
      | none =>
        cases hb : v != 0 with
        | true => exact .inl ⟨(none, v), by simp only [hb, cond_true], by simp [sll]⟩
        | false => exact .inr ⟨none, by simp [sll], by simp only [hb, cond_false]⟩
      | some y =>
        cases hb : v != 0 with
        | true => exact .inl ⟨(some y, v), by simp only [hb, cond_true], by simp [sll] at ho ⊢; omega⟩
        | false => exact .inr ⟨some y, by simp [sll] at ho ⊢; omega, by simp only [hb, cond_false]⟩
    | some y =>
      simp only [sll] at hp
      obtain ⟨⟨o, v⟩, hv, ho⟩ := r5b_any (W_un (hw.2 z hmem)) a (s := y) (by omega) (n := n) (by omega)
      rw [query_each_Expr_query_Right_5_l2, dT (by omega), cond_true, idx_at hi hz, Option.bind_some, eta_E, hv, Option.bind_some]
      simp only at ho
      cases hb : v != 0 with
      | true => exact .inl ⟨(some o, v), by simp only [hb, cond_true], by simp only [sll]; omega⟩
      | false => exact .inr ⟨some o, by simp only [sll]; omega, by simp only [hb, cond_false]⟩
  · cases s with
    | none =>
      rw [query_each_Expr_query_Right_5_l2, dF (by omega), cond_false]
      exact ⟨_, rfl, by simp [sll]⟩
    | some y =>
      rw [query_each_Expr_query_Right_5_l2, dF (by omega), cond_false]
      rw [sll_some] at hp
      exact ⟨_, rfl, by show y.length ≤ 21; omega⟩
theorem r6_any {x : api_Agg} (hw : W_api_Expr x.fOf) (a : Option (List api_Table)) {n : Nat} (hn : 2000310 ≤ n) : Is (fun p => (sll p.1).length ≤ 1) (query_Right_6 n a x) := by
  obtain ⟨n, rfl⟩ : ∃ j, n = j + 1 := ⟨n - 1, by omega⟩
  unfold query_Right_6
  rw [at1_succ]
  have fin : ∀ p : (Option (List Int)) × Int, (sll p.1).length ≤ 1 → Is (fun p : (Option (List Int)) × Int => (sll p.1).length ≤ 1) (match p with | (none, x4) => some (none, x4) | (some x3, x4) => some ((some x3), x4)) := fun p hp => by
    obtain ⟨o, e⟩ := p
    cases o <;> exact ⟨_, rfl, hp⟩
  exact is_cond (fun _ => is_bind (t261_any hw a (by omega)) fin) fun _ => is_cond (fun _ => is_bind (t623_any hw a (by omega)) fin) fun _ => is_bind (t23_any hw a (by omega)) fin
theorem r6b_any {x : api_Agg} (hw : W_api_Expr x.fOf) (a : Option (List api_Table)) {s : List Int} (hs : s.length ≤ 1900000) {n : Nat} (hn : 2000310 ≤ n) : Is (fun p => p.1.length ≤ s.length + 1) (query_Right_6_4 n s a x) := by
  obtain ⟨n, rfl⟩ : ∃ j, n = j + 1 := ⟨n - 1, by omega⟩
  unfold query_Right_6_4
  rw [at1_succ]
  have fin : ∀ p : (List Int) × Int, p.1.length ≤ s.length + 1 → Is (fun p : (List Int) × Int => p.1.length ≤ s.length + 1) (match p with | (x3, x4) => some (x3, x4)) := fun p hp => ⟨_, rfl, hp⟩
  exact is_cond (fun _ => is_bind (t261b_any hw a (by omega) hs) fin) fun _ => is_cond (fun _ => is_bind (t623b_any hw a (by omega) hs) fin) fun _ => is_bind (t23b_any hw a (by omega) hs) fin
theorem each6_any {w : Option (List api_Agg)} (hw : wSl W_api_Agg w) (hl10 : (sll w).length ≤ 10) (a : Option (List api_Table)) {n : Nat} (hn : 2000320 ≤ n) : Is (fun p => (sll p.1).length ≤ 40) (query_each_Agg_query_Right_6 n a w) := by
  obtain ⟨n, rfl⟩ : ∃ j, n = j + 1 := ⟨n - 1, by omega⟩
  unfold query_each_Agg_query_Right_6
  rw [at1_succ, withK]
  have hl := hw.1
  refine is_loop0 (F := fun k (s : Option (List Int)) i => query_each_Agg_query_Right_6_l2 n a w _ k s i) (l := sll w) (fun i s => (sll s).length ≤ i) hw.1 (by omega) none (by simp [sll]) (fun k i s z hi hz hp => ?_) fun k s hp => ?_
  · have hmem : z ∈ sll w := hz ▸ List.getElem_mem hi
    cases s with
    | none =>
      obtain ⟨⟨o, v⟩, hv, ho⟩ := r6_any (hw.2 z hmem).2 a (n := n) (by omega)
      rw [query_each_Agg_query_Right_6_l2, dT (by omega), cond_true, idx_at hi hz, Option.bind_some, hv, Option.bind_some]
      cases o with
      | none =>
        cases hb : v != 0 with
        | true => exact .inl ⟨(none, v), by simp only [hb, cond_true], by simp [sll]⟩
        | false => exact .inr ⟨none, by simp [sll], by simp only [hb, cond_false]⟩
      | some y =>
        cases hb : v != 0 with
        | true => exact .inl ⟨(some y, v), by simp only [hb, cond_true], by simp [sll] at ho ⊢; omega⟩
        | false => exact .inr ⟨some y, by simp [sll] at ho ⊢; omega, by simp only [hb, cond_false]⟩
    | some y =>
      rw [sll_some] at hp
      obtain ⟨⟨o, v⟩, hv, ho⟩ := r6b_any (hw.2 z hmem).2 a (s := y) (by omega) (n := n) (by omega)
      rw [query_each_Agg_query_Right_6_l2, dT (by omega), cond_true, idx_at hi hz, Option.bind_some, hv, Option.bind_some]
      simp only at ho
      cases hb : v != 0 with
      | true => exact .inl ⟨(some o, v), by simp only [hb, cond_true], by show o.length ≤ 40; omega⟩
      | false => exact .inr ⟨some o, by simp only [sll]; omega, by simp only [hb, cond_false]⟩
  · cases s with
    | none =>
      rw [query_each_Agg_query_Right_6_l2, dF (by omega), cond_false]
      exact ⟨_, rfl, by simp [sll]⟩
    | some y =>
      rw [query_each_Agg_query_Right_6_l2, dF (by omega), cond_false]
      rw [sll_some] at hp
      exact ⟨_, rfl, by show y.length ≤ 40; omega⟩
theorem each6b_any {w : Option (List api_Agg)} (hw : wSl W_api_Agg w) (hl10 : (sll w).length ≤ 10) (a : Option (List api_Table)) {s : List Int} (hs : s.length ≤ 21) {n : Nat} (hn : 2000320 ≤ n) : Is (fun p => p.1.length ≤ 40) (query_each_Agg_query_Right_6_2 n s a w) := by
  obtain ⟨n, rfl⟩ : ∃ j, n = j + 1 := ⟨n - 1, by omega⟩
  unfold query_each_Agg_query_Right_6_2
  rw [at1_succ, withK]
  have hl := hw.1
  refine is_loop0 (F := fun k (s : List Int) i => query_each_Agg_query_Right_6_2_l2 n a w _ k s i) (l := sll w) (fun i s => s.length ≤ i + 21) hw.1 (by omega) s (by omega) (fun k i y z hi hz hp => ?_) fun k s hp => ?_
  · have hmem : z ∈ sll w := hz ▸ List.getElem_mem hi
    obtain ⟨⟨o, v⟩, hv, ho⟩ := r6b_any (hw.2 z hmem).2 a (s := y) (by omega) (n := n) (by omega)
    rw [query_each_Agg_query_Right_6_2_l2, dT (by omega), cond_true, idx_at hi hz, Option.bind_some, hv, Option.bind_some]
    simp only at ho
    cases hb : v != 0 with
    | true => exact .inl ⟨(o, v), by simp only [hb, cond_true], by show o.length ≤ 40; omega⟩
    | false => exact .inr ⟨o, by omega, by simp only [hb, cond_false]⟩
  · rw [query_each_Agg_query_Right_6_2_l2, dF (by omega), cond_false]
    exact ⟨_, rfl, by show s.length ≤ 40; omega⟩
end Go.Pl
set_option maxRecDepth 100000
namespace Go.Pl
open Go Go.Ab
theorem bulk23_all {q : api_Query} (h1 : wSl W_E_api_Expr q.fWhere) (h0 : (sll q.fRels).length ≤ 1048576) (h2 : wSl W_E_api_Expr q.fOut) (h3 : wSl W_api_Agg q.fAggs) (most : Int) {n : Nat} (hn : 3048710 ≤ n) : ∃ r, ref23_Bulk n q most = some r := by
  obtain ⟨n, rfl⟩ : ∃ j, n = j + 1 := ⟨n - 1, by omega⟩
  unfold ref23_Bulk
  rw [at1_succ]
  refine ex_cond (fun _ => ⟨_, rfl⟩) fun _ => ?_
  simp only [withK]
  have l15 : ∀ acc : Int, ∃ r, ref23_Bulk_l15 n q most (fun y13 => some y13) n acc 0 = some r := fun acc => by
    refine ex_loop0 (F := fun k s i => ref23_Bulk_l15 n q most (fun y13 => some y13) k s i) (l := sll q.fAggs) (fun _ _ => True) h3.1 (by omega) acc trivial (fun k i s z hi hz _ => ?_) fun k s _ => ?_
    · have hx := h3.2 z (hz ▸ List.getElem_mem hi)
      rw [ref23_Bulk_l15, dT (by omega), Bool.true_and]
      cases decide (s ≤ most) with
      | false => exact .inl ⟨_, rfl⟩
      | true =>
        rw [cond_true, idx_at hi hz, Option.bind_some]
        obtain ⟨r, hr⟩ := bulk22_any (a := some [roll_api_Expr z.fOf]) ⟨by simp [sll], fun y hy => by
          simp only [sll, List.mem_singleton] at hy
          subst hy
          exact hx.2⟩ (IntKind.wrap .i64 (most - s)) (n := n) (by omega)
        rw [hr, Option.bind_some]
        exact .inr ⟨_, trivial, rfl⟩
    · rw [ref23_Bulk_l15, dF (by omega), Bool.false_and, cond_false]
      exact ⟨_, rfl⟩
  have s2 : ∀ acc : Int, ∃ r, (bif decide (acc ≤ most) then (ref22_Bulk n q.fOut (IntKind.wrap .i64 (most - acc))).bind fun x27 => ref23_Bulk_l15 n q most (fun y13 => some y13) n (IntKind.wrap .i64 (acc + x27)) 0 else ref23_Bulk_l15 n q most (fun y13 => some y13) n acc 0) = some r := fun acc =>
    ex_cond (fun _ => ex_bind (bulk22_any h2 _ (by omega)) fun _ => l15 _) fun _ => l15 _
  refine ex_loop0 (F := fun k s i => ref23_Bulk_l5 n q most _ k s i) (l := sll q.fRels) (fun _ _ => True) h0 (by omega) _ trivial (fun k i s z hi hz _ => ?_) fun k s _ => ?_
  · rw [ref23_Bulk_l5, dT (by omega), cond_true]
    cases decide (s > most) with
    | true => exact .inl ⟨_, rfl⟩
    | false =>
      rw [cond_false, idx_at hi hz, Option.bind_some]
      cases decide ((z.size : Int) > most) with
      | true => exact .inl ⟨_, rfl⟩
      | false => exact .inr ⟨_, trivial, rfl⟩
  · rw [ref23_Bulk_l5, dF (by omega), cond_false]
    exact ex_cond (fun _ => ex_bind (bulk22_any h1 _ (by omega)) fun _ => s2 _) fun _ => s2 _
theorem great23_any {q : api_Query} (hq : W_api_Query q) {a : Option (List api_Table)} (ha : wSl W_api_Table a) {n : Nat} (hn : 3048720 ≤ n) : ∃ r, law23_Great n q a = some r := by
  obtain ⟨n, rfl⟩ : ∃ j, n = j + 1 := ⟨n - 1, by omega⟩
  unfold law23_Great
  rw [at1_succ]
  refine ex_bind (bulk23_all hq.2.1 hq.1.1 hq.2.2.2.1 hq.2.2.2.2.1 500 (by omega)) fun b => ?_
  refine ex_cond (fun _ => ⟨_, rfl⟩) fun _ => ?_
  rw [withK]
  refine ex_loop0 (F := fun k (_ : Unit) i => law23_Great_l4 n a _ k i) (l := sll a) (fun _ _ => True) ha.1 (by omega) () trivial (fun k i _ z hi hz _ => ?_) fun k _ _ => ?_
  · rw [law23_Great_l4, dT (by omega), cond_true, idx_at hi hz, Option.bind_some]
    generalize ((decide (((sll z.fCols).length : Int) > 40)) || (decide ((z.fName.size : Int) > 100))) = b
    cases b with
    | true => exact .inl ⟨_, rfl⟩
    | false => exact .inr ⟨(), trivial, rfl⟩
  · rw [law23_Great_l4, dF (by omega), cond_false]
    exact ⟨_, rfl⟩
theorem width_ok (q : api_Query) {n : Nat} (hn : 1 ≤ n) : ∃ r, query_Width n q = some r := by
  obtain ⟨n, rfl⟩ : ∃ j, n = j + 1 := ⟨n - 1, by omega⟩
  exact ⟨_, rfl⟩
theorem aggs_any {a : Option (List api_Agg)} (ha : (sll a).length ≤ 1048576) {n : Nat} (hn : 2000010 ≤ n) : ∃ r, slices_ContainsFunc_Agg_query_shaped_1 n a = some r := by
  obtain ⟨n, rfl⟩ : ∃ j, n = j + 3 := ⟨n - 3, by omega⟩
  unfold slices_ContainsFunc_Agg_query_shaped_1 slices_IndexFunc_Agg_query_shaped_1
  rw [at1_succ, at1_succ]
  refine ex_bind ?_ fun _ => ⟨_, rfl⟩
  rw [withK]
  refine ex_loop0 (F := fun k (_ : Unit) i => slices_IndexFunc_Agg_query_shaped_1_l2 (n + 1) a _ k i) (l := sll a) (fun _ _ => True) ha (by omega) () trivial (fun k i _ z hi hz _ => ?_) fun k _ _ => ?_
  · rw [slices_IndexFunc_Agg_query_shaped_1_l2, dT (by omega), cond_true, idx_at hi hz, Option.bind_some, query_shaped_1, at1_succ, Option.bind_some]
    generalize ((decide (z.fKind < 1)) || (decide (z.fKind > 4))) = b
    cases b with
    | true => exact .inl ⟨_, rfl⟩
    | false => exact .inr ⟨(), trivial, rfl⟩
  · rw [slices_IndexFunc_Agg_query_shaped_1_l2, dF (by omega), cond_false]
    exact ⟨_, rfl⟩
theorem keys_any {a : Option (List api_Key)} (ha : (sll a).length ≤ 1048576) (a1 : (Option (List ByteArray))) (a2 : (Option (List E_api_Expr))) (a3 : Bool) (a4 : (Option (List E_api_Expr))) (a5 : (Option (List api_Agg))) (a6 : (Option (List api_Key))) {n : Nat} (hn : 2000010 ≤ n) : ∃ r, slices_ContainsFunc_Key_query_shaped_2 n a a1 a2 a3 a4 a5 a6 = some r := by
  obtain ⟨n, rfl⟩ : ∃ j, n = j + 4 := ⟨n - 4, by omega⟩
  unfold slices_ContainsFunc_Key_query_shaped_2 slices_IndexFunc_Key_query_shaped_2
  rw [at1_succ, at1_succ]
  refine ex_bind ?_ fun _ => ⟨_, rfl⟩
  rw [withK]
  refine ex_loop0 (F := fun k (_ : Unit) i => slices_IndexFunc_Key_query_shaped_2_l2 (n + 2) a a1 a2 a3 a4 a5 a6 _ k i) (l := sll a) (fun _ _ => True) ha (by omega) () trivial (fun k i _ z hi hz _ => ?_) fun k _ _ => ?_
  · have : ∃ b, query_shaped_2 (n + 2) z a1 a2 a3 a4 a5 a6 = some b := by
      unfold query_shaped_2
      rw [at1_succ]
      exact ex_cond (fun _ => ⟨_, rfl⟩) fun _ => ex_bind (width_ok _ (by omega)) fun _ => ⟨_, rfl⟩
    obtain ⟨b, hb⟩ := this
    rw [slices_IndexFunc_Key_query_shaped_2_l2, dT (by omega), cond_true, idx_at hi hz, Option.bind_some, hb, Option.bind_some]
    cases b with
    | true => exact .inl ⟨_, rfl⟩
    | false => exact .inr ⟨(), trivial, rfl⟩
  · rw [slices_IndexFunc_Key_query_shaped_2_l2, dF (by omega), cond_false]
    exact ⟨_, rfl⟩
theorem shaped_any {q : api_Query} (hq : W_api_Query q) {n : Nat} (hn : 2000020 ≤ n) : Is (fun b => b = true → (sll q.fOut).length ≤ 20 ∧ (sll q.fAggs).length ≤ 10) (query_shaped n q) := by
  obtain ⟨n, rfl⟩ : ∃ j, n = j + 1 := ⟨n - 1, by omega⟩
  unfold query_shaped
  rw [at1_succ]
  refine is_cond (fun _ => ⟨_, rfl, by simp⟩) fun h => ?_
  have hl : (sll q.fOut).length ≤ 20 ∧ (sll q.fAggs).length ≤ 10 := by
    simp only [Bool.or_eq_false_iff, decide_eq_false_iff_not] at h
    omega
  refine is_cond (fun _ => ⟨_, rfl, by simp⟩) fun _ => ?_
  refine is_bind (is_ex (width_ok q (by omega))) fun w _ => ?_
  refine is_cond (fun _ => ⟨_, rfl, by simp⟩) fun _ => ?_
  refine is_bind (is_ex (aggs_any hq.2.2.2.2.1.1 (by omega))) fun w _ => ?_
  refine is_cond (fun _ => ⟨_, rfl, by simp⟩) fun _ => ?_
  refine is_bind (is_ex (keys_any hq.2.2.2.2.2.1 _ _ _ _ _ _ (by omega))) fun w _ => ⟨_, rfl, fun _ => hl⟩
theorem findX_loop {α : Type} {F : Nat → Int → Option Int} {l : List α} {p : α → Bool} (hl : l.length ≤ 1048576)
    (hF : ∀ (m i : Nat) (x : α), (hi : i < l.length) → l[i] = x → F (m + 1) (i : Int) = bif p x then some (i : Int) else F m (IntKind.wrap .i64 ((i : Int) + 1))) (hE : ∀ (m : Nat), F (m + 1) (l.length : Int) = some (-1)) :
    ∀ (m i : Nat), i ≤ l.length → l.length - i < m → ∃ j, F m (i : Int) = some j ∧ (((l.drop i).find? p = none ∧ j = -1) ∨ ∃ t, (l.drop i).find? p = some t ∧ 0 ≤ j ∧ idx l j = some t)
  | 0, i, _, h => by omega
  | m + 1, i, h, hm => by
    by_cases hi : i < l.length
    · rw [hF m i _ hi rfl, wrapN (by omega), List.drop_eq_getElem_cons hi, List.find?_cons]
      obtain ⟨j, h1, h2⟩ := findX_loop hl hF hE m (i + 1) (by omega) (by omega)
      cases hp : p l[i] with
      | true => exact ⟨i, rfl, .inr ⟨l[i], rfl, by omega, idx_at hi rfl⟩⟩
      | false => exact ⟨j, h1, h2⟩
    · obtain rfl : i = l.length := by omega
      exact ⟨-1, hE m, .inl ⟨by rw [List.drop_length]; rfl, rfl⟩⟩
def named (name : ByteArray) (t : api_Table) : Bool := sEq t.fName name
theorem idxT_ok {a : Option (List api_Table)} (ha : (sll a).length ≤ 1048576) (name : ByteArray) {n : Nat} (hn : 2000010 ≤ n) :
    ∃ j, slices_IndexFunc_Table_query_Tables_1_1 n a name = some j ∧ (((sll a).find? (named name) = none ∧ j = -1) ∨ ∃ t, (sll a).find? (named name) = some t ∧ 0 ≤ j ∧ idx (sll a) j = some t) := by
  obtain ⟨n, rfl⟩ : ∃ j, n = j + 2 := ⟨n - 2, by omega⟩
  unfold slices_IndexFunc_Table_query_Tables_1_1
  rw [at1_succ, withK]
  have := findX_loop (F := fun k i => slices_IndexFunc_Table_query_Tables_1_1_l2 (n + 1) a name (fun _ => some (-1)) k i) (l := sll a) (p := named name) ha (fun m i x hi hx => by
    rw [slices_IndexFunc_Table_query_Tables_1_1_l2, dT (by omega), cond_true, idx_at hi hx, Option.bind_some]; rfl) (fun m => by
    rw [slices_IndexFunc_Table_query_Tables_1_1_l2, dF (by omega), cond_false]) (n + 1) 0 (by omega) (by omega)
  rwa [List.drop_zero] at this
theorem clone_ok {c : Option (List api_Column)} (hc : (sll c).length ≤ 1048576) {n : Nat} (hn : 1 ≤ n) : slices_Clone_Column n c = some c := by
  obtain ⟨n, rfl⟩ : ∃ j, n = j + 1 := ⟨n - 1, by omega⟩
  unfold slices_Clone_Column
  rw [at1_succ]
  cases c with
  | none => rfl
  | some l =>
    rw [sll_some] at hc
    simp only [Option.isNone_some, cond_false, sll_some]
    cases l with
    | nil => rw [List.isEmpty_nil, cond_true, ckA_ok (by simp) (by omega)]; rfl
    | cons x l => rw [List.isEmpty_cons, cond_false, ckA_ok (by simpa using (show (x :: l).length ≤ 2000000 by omega)) (by omega)]; rfl
def tabsF (all : List api_Table) : List ByteArray → Option (List api_Table)
  | [] => some []
  | x :: r => match all.find? (named x), tabsF all r with
    | some t, some l => some (⟨x, t.fCols⟩ :: l)
    | _, _ => none
theorem tabsF_app (all : List api_Table) : ∀ (a b : List ByteArray), tabsF all (a ++ b) = match tabsF all a, tabsF all b with
    | some p, some q => some (p ++ q)
    | _, _ => none
  | [], b => by
    rw [List.nil_append, tabsF]
    cases tabsF all b <;> rfl
  | x :: a, b => by
    rw [List.cons_append, tabsF, tabsF, tabsF_app all a b]
    cases all.find? (named x) with
    | none => rfl
    | some t =>
      cases tabsF all a with
      | none => rfl
      | some p =>
        cases tabsF all b with
        | none => rfl
        | some q => rfl
theorem tabsF_mem {all : List api_Table} : ∀ {a : List ByteArray} {x : ByteArray}, x ∈ a → all.find? (named x) = none → tabsF all a = none
  | y :: a, x, h, hf => by
    rw [tabsF]
    rcases List.mem_cons.1 h with rfl | h
    · rw [hf]
    · rw [tabsF_mem h hf]
      cases all.find? (named y) <;> rfl
theorem tabsF_len {all : List api_Table} : ∀ {a : List ByteArray} {l : List api_Table}, tabsF all a = some l → l.length = a.length
  | [], l, h => by cases h; rfl
  | x :: a, l, h => by
    rw [tabsF] at h
    split at h
    · rename_i t l' h1 h2
      cases h
      rw [List.length_cons, List.length_cons, tabsF_len h2]
    · cases h
def tablesF (all : List api_Table) (rels : List ByteArray) : Option (List api_Table) × Int :=
  if rels.length > 12 then (none, 51) else if rels.length = 0 then (none, 2) else match tabsF all rels with
    | none => (none, 40)
    | some l => (some l, 0)
theorem each_tabs {a : Option (List api_Table)} (ha : wSl W_api_Table a) {rels : Option (List ByteArray)} (hr : (sll rels).length ≤ 1048576) {n : Nat} (hn : 2000020 ≤ n) :
    Is (fun (p : Option (List api_Table) × Int) => match tabsF (sll a) (sll rels) with | none => p.2 = 40 | some l => sll p.1 = l ∧ p.2 = 0 ∧ (p.1 = none ↔ sll rels = [])) (query_each_string_query_Tables_1 n a rels) := by
  obtain ⟨n, rfl⟩ : ∃ j, n = j + 2 := ⟨n - 2, by omega⟩
  unfold query_each_string_query_Tables_1
  rw [at1_succ, withK]
  refine is_loop0 (F := fun k (s : Option (List api_Table)) i => query_each_string_query_Tables_1_l2 (n + 1) a rels _ k s i) (l := sll rels) (fun i s => tabsF (sll a) ((sll rels).take i) = some (sll s) ∧ (s = none ↔ i = 0)) hr (by omega) none ⟨rfl, by simp⟩ (fun k i s z hi hz hp => ?_) fun k s hp => ?_
  · have hmem : z ∈ sll rels := hz ▸ List.getElem_mem hi
    obtain ⟨p1, p2⟩ := hp
    have hlen := tabsF_len p1
    rw [List.length_take] at hlen
    have htake : (sll rels).take (i + 1) = (sll rels).take i ++ [z] := by rw [List.take_add_one, List.getElem?_eq_getElem hi, hz]; rfl
    obtain ⟨j, hj, hcase⟩ := idxT_ok ha.1 z (n := n) (by omega)
    rcases hcase with ⟨hf, rfl⟩ | ⟨t, hf, hj0, hidx⟩
    · left
      rw [tabsF_mem hmem hf]
      cases s with
      | none =>
        rw [query_each_string_query_Tables_1_l2, dT (by omega), cond_true, idx_at hi hz, Option.bind_some, query_Tables_1, at1_succ, hj]
        exact ⟨_, rfl, rfl⟩
      | some y =>
        rw [query_each_string_query_Tables_1_l2, dT (by omega), cond_true, idx_at hi hz, Option.bind_some, query_Tables_1_2, at1_succ, hj]
        exact ⟨_, rfl, rfl⟩
    · right
      have ht : W_api_Table t := ha.2 t (List.mem_of_find?_eq_some hf)
      have hcl := clone_ok ht.2.1 (n := n) (by omega)
      have hnew : tabsF (sll a) ((sll rels).take (i + 1)) = some (sll s ++ [⟨z, t.fCols⟩]) := by
        rw [htake, tabsF_app, p1, tabsF, hf]; rfl
      cases s with
      | none =>
        rw [query_each_string_query_Tables_1_l2, dT (by omega), cond_true, idx_at hi hz, Option.bind_some, query_Tables_1, at1_succ, hj, Option.bind_some, dF (by omega), cond_false, hidx, Option.bind_some, hcl, Option.bind_some, ckA_ok (by simp) (by omega), Option.bind_some, Option.bind_some]
        exact ⟨some ([] ++ [api_Table.mk z t.fCols]), ⟨hnew, by simp⟩, rfl⟩
      | some y =>
        rw [sll_some] at hlen
        rw [query_each_string_query_Tables_1_l2, dT (by omega), cond_true, idx_at hi hz, Option.bind_some, query_Tables_1_2, at1_succ, hj, Option.bind_some, dF (by omega), cond_false, hidx, Option.bind_some, hcl, Option.bind_some, ckA_ok (by simp; omega) (by omega), Option.bind_some, Option.bind_some]
        exact ⟨some (y ++ [api_Table.mk z t.fCols]), ⟨hnew, by simp⟩, rfl⟩
  · obtain ⟨p1, p2⟩ := hp
    rw [List.take_length] at p1
    rw [p1]
    cases s with
    | none =>
      rw [query_each_string_query_Tables_1_l2, dF (by omega), cond_false]
      exact ⟨_, rfl, rfl, rfl, by simp only [true_iff]; exact List.eq_nil_of_length_eq_zero (p2.1 rfl)⟩
    | some y =>
      rw [query_each_string_query_Tables_1_l2, dF (by omega), cond_false]
      exact ⟨_, rfl, rfl, rfl, by simp only [reduceCtorEq, false_iff]; intro h; have := p2.2 (by rw [h]; rfl); cases this⟩
theorem tables_ok {q : api_Query} (hq : (sll q.fRels).length ≤ 1048576) {a : Option (List api_Table)} (ha : wSl W_api_Table a) {n : Nat} (hn : 2000030 ≤ n) : query_Tables n q a = some (tablesF (sll a) (sll q.fRels)) := by
  obtain ⟨n, rfl⟩ : ∃ j, n = j + 1 := ⟨n - 1, by omega⟩
  unfold query_Tables tablesF
  rw [at1_succ]
  by_cases h1 : (sll q.fRels).length > 12
  · rw [dT (by omega), cond_true, if_pos h1]
  rw [dF (by omega), cond_false, if_neg h1]
  by_cases h2 : (sll q.fRels).length = 0
  · rw [show (((sll q.fRels).length : Int) == 0) = true by simp [h2], cond_true, if_pos h2]
  rw [show (((sll q.fRels).length : Int) == 0) = false by simpa using h2, cond_false, if_neg h2]
  simp only [withK]
  obtain ⟨⟨o, e⟩, hp, hs⟩ := each_tabs ha hq (n := n) (by omega)
  rw [hp, Option.bind_some]
  cases ht : tabsF (sll a) (sll q.fRels) with
  | none =>
    rw [ht] at hs
    obtain rfl : e = 40 := hs
    cases o <;> rfl
  | some l =>
    rw [ht] at hs
    obtain ⟨s1, s2, s3⟩ := hs
    simp only at s1 s2 s3
    subst s2
    cases o with
    | none => exact absurd (by rw [s3.1 rfl]; rfl) h2
    | some y =>
      rw [sll_some] at s1
      subst s1
      rfl
theorem right_any {q : api_Query} (hq : W_api_Query q) {a : Option (List api_Table)} (ha : wSl W_api_Table a) {n : Nat} (hn : 2000400 ≤ n) : Is (fun p => (sll p.1).length ≤ 40 ∧ (p.2 = 0 → ∃ l, tabsF (sll a) (sll q.fRels) = some l)) (query_Right n q a) := by
  obtain ⟨n, rfl⟩ : ∃ j, n = j + 1 := ⟨n - 1, by omega⟩
  unfold query_Right
  rw [at1_succ]
  rw [show (api_Query.mk q.fRels q.fWhere q.fGrouped q.fOut q.fAggs q.fOrder) = q from rfl, tables_ok hq.1.1 ha (by omega), Option.bind_some]
  have tr : ∀ {o : Option ((Option (List Int)) × Int)}, (∃ l, tabsF (sll a) (sll q.fRels) = some l) → Is (fun p => (sll p.1).length ≤ 40) o → Is (fun p => (sll p.1).length ≤ 40 ∧ (p.2 = 0 → ∃ l, tabsF (sll a) (sll q.fRels) = some l)) o := fun hl h => by
    obtain ⟨r, h, h40⟩ := h
    exact ⟨r, h, h40, fun _ => hl⟩
  refine is_cond (fun h => ⟨_, rfl, by simp [sll], fun h0 => ?_⟩) fun h => ?_
  · simp only at h0
    rw [h0] at h
    cases h
  have hl : ∃ l, tabsF (sll a) (sll q.fRels) = some l := by
    unfold tablesF at h
    split at h
    · cases h
    · split at h
      · cases h
      · split at h
        · cases h
        · exact ⟨_, by assumption⟩
  refine tr hl ?_
  refine is_bind (shaped_any hq (by omega)) fun b hb => ?_
  cases b with
  | false => exact ⟨_, rfl, by simp [sll]⟩
  | true =>
  rw [Bool.not_true, cond_false]
  refine is_bind (each4_any hq.2.1 _ (by omega)) fun x8 _ => ?_
  simp only [withK]
  have z : ∀ e : Int, Is (fun p : (Option (List Int)) × Int => (sll p.1).length ≤ 40) (some (none, e)) := fun e => ⟨_, rfl, by simp [sll]⟩
  have y : ∀ (y : List Int) (e : Int), y.length ≤ 40 → Is (fun p : (Option (List Int)) × Int => (sll p.1).length ≤ 40) (some (some y, e)) := fun y e h => ⟨_, rfl, h⟩
  have nn : ∀ y11 : Int, Is (fun p => (sll p.1).length ≤ 40) (bif (y11 == 0) then (query_each_Agg_query_Right_6 n (tablesF (sll a) (sll q.fRels)).1 q.fAggs).bind fun | (none, x34) => (bif (x34 != 0) then some ((none : Option (List Int)), x34) else some (none, 0)) | (some x33, x34) => (bif (x34 != 0) then some (none, x34) else some ((some x33), 0)) else (bif (y11 != 0) then some ((none : Option (List Int)), y11) else some (none, 0))) := fun y11 =>
    is_cond (fun _ => is_bind (each6_any hq.2.2.2.2.1 (hb rfl).2 _ (by omega)) fun p hp => by
      obtain ⟨o, e⟩ := p
      cases o with
      | none => exact is_cond (fun _ => z _) fun _ => z _
      | some o => exact is_cond (fun _ => z _) fun _ => y _ _ hp) fun _ => is_cond (fun _ => z _) fun _ => z _
  have ss : ∀ (y10 : List Int), y10.length ≤ 21 → ∀ y11 : Int, Is (fun p => (sll p.1).length ≤ 40) (bif (y11 == 0) then (query_each_Agg_query_Right_6_2 n y10 (tablesF (sll a) (sll q.fRels)).1 q.fAggs).bind fun (x55, x56) => (bif (x56 != 0) then some ((none : Option (List Int)), x56) else some ((some x55), 0)) else (bif (y11 != 0) then some ((none : Option (List Int)), y11) else some ((some y10), 0))) := fun y10 h10 y11 =>
    is_cond (fun _ => is_bind (each6b_any hq.2.2.2.2.1 (hb rfl).2 _ h10 (by omega)) fun p hp => is_cond (fun _ => z _) fun _ => y _ _ hp) fun _ => is_cond (fun _ => z _) fun _ => y _ _ (by omega)
  refine is_cond (fun _ => ?_) fun _ => nn _
  refine is_bind (each5_any hq.2.2.2.1 (hb rfl).1 _ (by omega)) fun p hp => ?_
  obtain ⟨o, e⟩ := p
  cases o with
  | none => exact nn e
  | some y => exact ss y (by simpa [sll] using hp) e
theorem right_same {q : api_Query} (hq : W_api_Query q) {a b : Option (List api_Table)} (ha : wSl W_api_Table a) (hb : wSl W_api_Table b) (h : tablesF (sll a) (sll q.fRels) = tablesF (sll b) (sll q.fRels)) {n : Nat} (hn : 2000400 ≤ n) : query_Right n q a = query_Right n q b := by
  obtain ⟨n, rfl⟩ : ∃ j, n = j + 1 := ⟨n - 1, by omega⟩
  unfold query_Right
  rw [at1_succ, at1_succ]
  rw [show (api_Query.mk q.fRels q.fWhere q.fGrouped q.fOut q.fAggs q.fOrder) = q from rfl, tables_ok hq.1.1 ha (by omega), tables_ok hq.1.1 hb (by omega), h]
end Go.Pl
