import Derived.Test.YtejbcaheoloahaaHA
set_option maxRecDepth 100000
namespace Go.Pl
open Go Go.Ab
theorem all_loop {α R : Type} {F : Nat → Int → Option R} {l : List α} {p : α → Bool} {kk e : Option R} (hl : l.length ≤ 1048576)
    (hF : ∀ (m i : Nat) (x : α), (hi : i < l.length) → l[i] = x → F (m + 1) (i : Int) = bif p x then F m (IntKind.wrap .i64 ((i : Int) + 1)) else e) (hE : ∀ (m : Nat), F (m + 1) (l.length : Int) = kk) :
    ∀ (m i : Nat), i ≤ l.length → l.length - i < m → F m (i : Int) = bif (l.drop i).all p then kk else e
  | 0, i, _, h => by omega
  | m + 1, i, h, hm => by
    by_cases hi : i < l.length
    · rw [hF m i _ hi rfl, wrapN (by omega), all_loop hl hF hE m (i + 1) (by omega) (by omega), List.drop_eq_getElem_cons hi, List.all_cons]
      cases p l[i] <;> rfl
    · obtain rfl : i = l.length := by omega
      rw [hE, List.drop_length]; rfl
theorem all_loop0 {α R : Type} {F : Nat → Int → Option R} {l : List α} {p : α → Bool} {kk e : Option R} (hl : l.length ≤ 1048576) {m : Nat} (hm : 2000000 ≤ m)
    (hF : ∀ (m i : Nat) (x : α), (hi : i < l.length) → l[i] = x → F (m + 1) (i : Int) = bif p x then F m (IntKind.wrap .i64 ((i : Int) + 1)) else e) (hE : ∀ (m : Nat), F (m + 1) (l.length : Int) = kk) :
    F m 0 = bif l.all p then kk else e := by
  have := all_loop hl hF hE m 0 (by omega) (by omega)
  simpa using this
theorem idx_at {α : Type} {l : List α} {i : Nat} {x : α} (hi : i < l.length) (e : l[i] = x) : idx l (i : Int) = some x := by
  rw [idx_nat, List.getElem?_eq_getElem hi, e]
end Go.Pl
set_option maxRecDepth 100000
namespace Go.Pl
open Go Go.Ab
abbrev EX := E_api_Expr
def szL (x : api_Expr) : Nat := PV.bulkL (R_api_Expr x)
theorem sz_kid {x : api_Expr} {z : EX} (h : z ∈ sll x.fKids) : szL (un_api_Expr z) < szL x := by
  have e : szL (un_api_Expr z) = PV.bulkL (R_E_api_Expr z) := by rw [R_un_api_Expr z]; rfl
  rw [e]
  unfold szL R_api_Expr
  cases hk : x.fKids with
  | none => rw [hk] at h; cases h
  | some l =>
    rw [hk] at h
    have := bulkL_mem (rows := l.map R_E_api_Expr) (r := R_E_api_Expr z) (List.mem_map_of_mem h)
    simp only [PV.bulkL, PV.bulk, encSl]
    omega
theorem W_kid {x : api_Expr} (hw : W_api_Expr x) {z : EX} (h : z ∈ sll x.fKids) : W_api_Expr (un_api_Expr z) := by
  have hs := sz_kid h
  have h2 := hw.2
  refine ⟨?_, by unfold szL at hs; omega⟩
  have h1 := hw.1
  unfold R_api_Expr at h1
  rw [← R_un_api_Expr z]
  cases hk : x.fKids with
  | none => rw [hk] at h; cases h
  | some l =>
    rw [hk] at h h1
    generalize hp : ([.int .i64 x.fKind, .int .i64 x.fRel, .int .i64 x.fCol, .int .i64 x.fConst.fKind, .int .i64 x.fConst.fInt, .flt .f64 x.fConst.fFloat, .str x.fConst.fText, encSl R_E_api_Expr (some l)] : List PV) = p at h1
    cases h1 with
    | nil a b c v w => simp [encSl] at hp
    | some a b c v rows w hl hr =>
      simp only [List.cons.injEq, and_true, encSl, PV.sl.injEq] at hp
      obtain ⟨_, _, _, _, _, _, _, e⟩ := hp
      subst e
      exact hr _ (List.mem_map_of_mem h)
theorem kids_len {x : api_Expr} (hw : W_api_Expr x) : (sll x.fKids).length ≤ 1048576 := by
  have h1 := hw.1
  unfold R_api_Expr at h1
  cases hk : x.fKids with
  | none => simp [sll]
  | some l =>
    rw [hk] at h1
    generalize hp : ([.int .i64 x.fKind, .int .i64 x.fRel, .int .i64 x.fCol, .int .i64 x.fConst.fKind, .int .i64 x.fConst.fInt, .flt .f64 x.fConst.fFloat, .str x.fConst.fText, encSl R_E_api_Expr (some l)] : List PV) = p at h1
    cases h1 with
    | nil a b c v w => simp [encSl] at hp
    | some a b c v rows w hl hr =>
      simp only [List.cons.injEq, and_true, encSl, PV.sl.injEq] at hp
      obtain ⟨_, _, _, _, _, _, _, e⟩ := hp
      subst e
      show l.length ≤ _
      simpa using hl
end Go.Pl
set_option maxRecDepth 100000
namespace Go.Pl
open Go Go.Ab
end Go.Pl
set_option maxRecDepth 100000
namespace Go.Pl
open Go Go.Ab
def kidsE (k : Int) : Int := if k = 1 ∨ k = 2 then 0 else if k = 6 ∨ k = 12 ∨ k = 13 then 1 else if 3 ≤ k ∧ k ≤ 11 then 2 else -1
theorem expr_kids_ok (k : Int) {n : Nat} (hn : 1 ≤ n) : expr_kids n k = some (kidsE k) := by
  obtain ⟨n, rfl⟩ : ∃ j, n = j + 1 := ⟨n - 1, by omega⟩
  unfold expr_kids
  rw [at1_succ]
  simp only [withK]
  have ne : ∀ {c : Int}, k ≠ c → (k == c) = false := fun h => beq_eq_false_iff_ne.2 h
  by_cases h1 : k = 1
  · subst h1; rfl
  by_cases h2 : k = 2
  · subst h2; rfl
  by_cases h6 : k = 6
  · subst h6; rfl
  by_cases h12 : k = 12
  · subst h12; rfl
  by_cases h13 : k = 13
  · subst h13; rfl
  by_cases h3 : k = 3
  · subst h3; rfl
  by_cases h4 : k = 4
  · subst h4; rfl
  by_cases h5 : k = 5
  · subst h5; rfl
  by_cases h7 : k = 7
  · subst h7; rfl
  by_cases h8 : k = 8
  · subst h8; rfl
  by_cases h9 : k = 9
  · subst h9; rfl
  by_cases h10 : k = 10
  · subst h10; rfl
  by_cases h11 : k = 11
  · subst h11; rfl
  rw [ne h1, ne h2, ne h6, ne h12, ne h13, ne h3, ne h4, ne h5, ne h7, ne h8, ne h9, ne h10, ne h11]
  unfold kidsE
  rw [if_neg (by omega), if_neg (by omega), if_neg (by omega)]
  rfl
def inE (k : Int) : Bool := decide (k ≥ 0) && decide (k ≤ 31)
def fieldsE (x : api_Expr) : Bool := !((x.fKind != 1) && ((x.fRel != 0) || (x.fCol != 0))) && inE x.fRel && inE x.fCol && vRight x.fConst && ((x.fKind == 2) || (x.fConst.fKind == 0))
theorem expr_fields_ok {x : api_Expr} (hc : W_api_Value x.fConst) {n : Nat} (hn : 5 ≤ n) : expr_fields n x = some (fieldsE x) := by
  obtain ⟨n, rfl⟩ : ∃ j, n = j + 1 := ⟨n - 1, by omega⟩
  have e1 : ∀ k, expr_fields_1 n k = some (inE k) := fun k => by
    obtain ⟨n, rfl⟩ : ∃ j, n = j + 1 := ⟨n - 1, by omega⟩
    rfl
  unfold expr_fields fieldsE
  rw [at1_succ, e1, e1, value_Right_ok _ (by omega)]
  cases ((x.fKind != 1) && ((x.fRel != 0) || (x.fCol != 0))) <;> cases inE x.fRel <;> cases inE x.fCol <;> cases vRight x.fConst <;> rfl
def nodeE (x : api_Expr) : Bool := (kidsE x.fKind == ((sll x.fKids).length : Int)) && fieldsE x
def sumO {α : Type} (f : α → Option Nat) : List α → Option Nat
  | [] => some 0
  | z :: l => match f z, sumO f l with
    | some a, some b => some (a + b)
    | _, _ => none
noncomputable def frmE : Nat → api_Expr → Option Nat
  | 0, _ => none
  | r + 1, x => bif nodeE x then (sumO (fun z => frmE r (un_api_Expr z)) (sll x.fKids)).map (· + 1) else none
theorem frmE_pos {r : Nat} {x : api_Expr} {c : Nat} (h : frmE r x = some c) : 1 ≤ c := by
  cases r with
  | zero => cases h
  | succ r =>
    unfold frmE at h
    cases hn : nodeE x with
    | false => rw [hn] at h; cases h
    | true =>
      rw [hn, cond_true, Option.map_eq_some_iff] at h
      obtain ⟨a, _, rfl⟩ := h
      omega
theorem sumO_mem {α : Type} {f : α → Option Nat} : ∀ {l : List α} {c : Nat}, sumO f l = some c → ∀ z, z ∈ l → ∃ a, f z = some a ∧ a ≤ c
  | [], c, h, z, hz => by cases hz
  | y :: l, c, h, z, hz => by
    unfold sumO at h
    split at h
    · rename_i a b e1 e2
      injection h with h; subst h
      rcases List.mem_cons.1 hz with rfl | hz
      · exact ⟨a, e1, by omega⟩
      · obtain ⟨d, q1, q2⟩ := sumO_mem e2 z hz
        exact ⟨d, q1, by omega⟩
    · cases h
theorem frmE_kid {r : Nat} {x : api_Expr} {c : Nat} (h : frmE (r + 1) x = some c) : nodeE x = true ∧ ∀ z, z ∈ sll x.fKids → ∃ a, frmE r (un_api_Expr z) = some a ∧ a < c := by
  unfold frmE at h
  cases hn : nodeE x with
  | false => rw [hn] at h; cases h
  | true =>
    rw [hn, cond_true, Option.map_eq_some_iff] at h
    obtain ⟨a, ha, rfl⟩ := h
    refine ⟨rfl, fun z hz => ?_⟩
    obtain ⟨b, q1, q2⟩ := sumO_mem ha z hz
    exact ⟨b, q1, by omega⟩
def leftI (o : Option Nat) (left : Int) : Int := match o with
  | some c => if (c : Int) ≤ left then left - c else -1
  | none => -1
theorem W_const {x : api_Expr} (hw : W_api_Expr x) : W_api_Value x.fConst := by
  have h1 := hw.1
  unfold R_api_Expr at h1
  generalize hp : ([.int .i64 x.fKind, .int .i64 x.fRel, .int .i64 x.fCol, .int .i64 x.fConst.fKind, .int .i64 x.fConst.fInt, .flt .f64 x.fConst.fFloat, .str x.fConst.fText, encSl R_E_api_Expr x.fKids] : List PV) = p at h1
  cases h1 with
  | nil a b c v w =>
    simp only [List.cons.injEq, PV.int.injEq, PV.flt.injEq, PV.str.injEq, true_and, and_true] at hp
    obtain ⟨_, _, _, e1, e2, e3, e4, _⟩ := hp
    obtain ⟨v1, v2, v3, v4⟩ := v
    simp only at e1 e2 e3 e4
    have : x.fConst = ⟨v1, v2, v3, v4⟩ := by
      cases hx : x.fConst with
      | mk a b c d => rw [hx] at e1 e2 e3 e4; simp only at e1 e2 e3 e4; rw [e1, e2, e3, e4]
    rw [this]; exact w.2.2.2
  | some a b c v rows w hl hr =>
    simp only [List.cons.injEq, PV.int.injEq, PV.flt.injEq, PV.str.injEq, true_and, and_true] at hp
    obtain ⟨_, _, _, e1, e2, e3, e4, _⟩ := hp
    obtain ⟨v1, v2, v3, v4⟩ := v
    simp only at e1 e2 e3 e4
    have : x.fConst = ⟨v1, v2, v3, v4⟩ := by
      cases hx : x.fConst with
      | mk a b c d => rw [hx] at e1 e2 e3 e4; simp only at e1 e2 e3 e4; rw [e1, e2, e3, e4]
    rw [this]; exact w.2.2.2
theorem count_loop {α : Type} {f : α → Option Nat} {K : Int → Option Int} {F : Nat → Int → Int → Option Int} {ks : List α} {C : α → Int → Option Int}
    (hF : ∀ m left i, F (m + 1) left i = bif decide (i < (ks.length : Int)) then (idx ks i).bind fun z => (C z left).bind fun r => bif decide (r < 0) then some (-1) else F m r (IntKind.wrap .i64 (i + 1)) else K left)
    {B : Int} (hB : B ≤ 1000) (hC : ∀ z, z ∈ ks → ∀ left, 0 ≤ left → left ≤ B → C z left = some (leftI (f z) left)) (hks : ks.length ≤ 1048576) :
    ∀ (l : List α) (m : Nat) (p : List α) (left : Int), ks = p ++ l → l.length < m → 0 ≤ left → left ≤ B →
      F m left (p.length : Int) = match sumO f l with
        | some c => if (c : Int) ≤ left then K (left - c) else some (-1)
        | none => some (-1)
  | [], m, p, left, he, hm, h0, h4 => by
    obtain ⟨m, rfl⟩ : ∃ j, m = j + 1 := ⟨m - 1, by omega⟩
    rw [hF, dF (by rw [he]; simp), cond_false]
    simp only [sumO]
    rw [if_pos (by omega)]
    congr 1; omega
  | z :: l, m, p, left, he, hm, h0, h4 => by
    obtain ⟨m, rfl⟩ : ∃ j, m = j + 1 := ⟨m - 1, by omega⟩
    rw [List.length_cons] at hm
    have hz : z ∈ ks := by rw [he]; simp
    have hix : idx ks (p.length : Int) = some z := by rw [he, idx_nat]; simp
    rw [hF, dT (by rw [he]; simp; omega), cond_true, hix, Option.bind_some, hC z hz left h0 h4, Option.bind_some]
    have hlen : ks.length = p.length + (l.length + 1) := by rw [he]; simp
    rw [wrapN (by omega)]
    have e : p.length + 1 = (p ++ [z]).length := by simp
    obtain ⟨v, hv⟩ : ∃ v, v = leftI (f z) left := ⟨_, rfl⟩
    rw [← hv]
    unfold sumO
    cases hf : f z with
    | none =>
      rw [hf] at hv
      rw [show v = -1 from hv]
      rfl
    | some a =>
      rw [hf] at hv
      simp only [leftI] at hv
      by_cases ha : (a : Int) ≤ left
      · rw [if_pos ha] at hv
        subst hv
        rw [dF (by omega), cond_false, e, count_loop hF hB hC hks l m (p ++ [z]) (left - a) (by rw [he]; simp) (by omega) (by omega) (by omega)]
        cases hs : sumO f l with
        | none => rfl
        | some b =>
          simp only
          by_cases hb : (b : Int) ≤ left - a
          · rw [if_pos hb, if_pos (by omega)]; congr 1; omega
          · rw [if_neg hb, if_neg (by omega)]
      · rw [if_neg ha] at hv
        subst hv
        rw [dT (by omega), cond_true]
        cases hs : sumO f l with
        | none => rfl
        | some b => simp only; rw [if_neg (by omega)]
theorem count_ok : ∀ (r : Nat), r ≤ 24 → ∀ (x : api_Expr), W_api_Expr x → ∀ (left : Int), left ≤ 400 → -1 ≤ left → ∀ m n, r + 1 ≤ m → 2000000 + r ≤ n →
    expr_count_t m n x (25 - (r : Int)) left = some (leftI (frmE r x) left) := by
  intro r
  induction r with
  | zero =>
    intro hr x hw left h4 h0 m n hm hn
    obtain ⟨m, rfl⟩ : ∃ j, m = j + 1 := ⟨m - 1, by omega⟩
    obtain ⟨n, rfl⟩ : ∃ j, n = j + 1 := ⟨n - 1, by omega⟩
    show expr_count_f (expr_count_t m) (n + 1) x _ left = _
    unfold expr_count_f
    rw [at1_succ, dT (by omega), cond_true]
    rfl
  | succ r ih =>
    intro hr x hw left h4 h0 m n hm hn
    obtain ⟨m, rfl⟩ : ∃ j, m = j + 1 := ⟨m - 1, by omega⟩
    obtain ⟨n, rfl⟩ : ∃ j, n = j + 1 := ⟨n - 1, by omega⟩
    show expr_count_f (expr_count_t m) (n + 1) x _ left = _
    unfold expr_count_f
    rw [at1_succ, dF (by omega), cond_false]
    by_cases hl : left < 1
    · rw [dT hl, cond_true]
      unfold leftI
      cases hf : frmE (r + 1) x with
      | none => rfl
      | some c =>
        have := frmE_pos hf
        simp only
        rw [if_neg (by omega)]
    · rw [dF hl, cond_false, expr_kids_ok _ (by omega), Option.bind_some]
      rw [frmE]
      unfold nodeE
      by_cases hk : kidsE x.fKind = ((sll x.fKids).length : Int)
      · rw [show (kidsE x.fKind != ((sll x.fKids).length : Int)) = false by simp [hk], cond_false, show (kidsE x.fKind == ((sll x.fKids).length : Int)) = true by simp [hk], Bool.true_and]
        rw [show api_Expr.mk x.fKind x.fRel x.fCol x.fConst x.fKids = x from rfl, expr_fields_ok (W_const hw) (by omega), Option.bind_some]
        cases hfd : fieldsE x with
        | false => rfl
        | true =>
          rw [Bool.not_true, cond_false, cond_true]
          show withK (fun k12 => expr_count_l5 n (expr_count_t m) x (25 - ((r + 1 : Nat) : Int)) k12 n (IntKind.wrap .i64 (left - 1)) 0) (fun (y9 : Int) => some y9) = _
          unfold withK
          rw [wrapI (by omega) (by omega)]
          have key := count_loop (f := fun z => frmE r (un_api_Expr z)) (K := fun y9 => some y9) (F := fun m' left' i => expr_count_l5 n (expr_count_t m) x (25 - ((r + 1 : Nat) : Int)) (fun y9 => some y9) m' left' i) (ks := sll x.fKids)
            (C := fun z left' => expr_count_t m n (un_api_Expr z) (IntKind.wrap .i64 ((25 - ((r + 1 : Nat) : Int)) + 1)) left')
            (fun m' left' i => rfl) (B := 400) (by omega) (fun z hz left' h1 h2 => by
              show expr_count_t m n (un_api_Expr z) (IntKind.wrap .i64 ((25 - ((r + 1 : Nat) : Int)) + 1)) left' = _
              rw [wrapI (by omega) (by omega), show (25 - ((r + 1 : Nat) : Int)) + 1 = 25 - (r : Int) by omega]
              exact ih (by omega) _ (W_kid hw hz) left' h2 (by omega) m n (by omega) (by omega)) (kids_len hw) (sll x.fKids) n [] (left - 1) rfl (by have := kids_len hw; omega) (by omega) (by omega)
          refine Eq.trans key ?_
          cases hs : sumO (fun z => frmE r (un_api_Expr z)) (sll x.fKids) with
          | none => rfl
          | some c =>
            simp only [Option.map_some, leftI]
            by_cases hc : (c : Int) ≤ left - 1
            · rw [if_pos hc, if_pos (by omega)]; congr 1; omega
            · rw [if_neg hc, if_neg (by omega)]
      · rw [show (kidsE x.fKind != ((sll x.fKids).length : Int)) = true by simp [hk], cond_true, show (kidsE x.fKind == ((sll x.fKids).length : Int)) = false by simp [hk], Bool.false_and]
        rfl
noncomputable def formedE (x : api_Expr) : Bool := match frmE 24 x with
  | some c => decide (c ≤ 400)
  | none => false
theorem expr_Formed_ok {x : api_Expr} (hw : W_api_Expr x) {n : Nat} (hn : 2000100 ≤ n) : expr_Formed n x = some (formedE x) := by
  obtain ⟨n, rfl⟩ : ∃ j, n = j + 1 := ⟨n - 1, by omega⟩
  unfold expr_Formed
  rw [at1_succ]
  have := count_ok 24 (by omega) x hw 400 (by omega) (by omega) n n (by omega) (by omega)
  rw [show (25 - ((24 : Nat) : Int)) = 1 from rfl] at this
  rw [show expr_count n x 1 400 = some _ from this, Option.bind_some]
  unfold formedE leftI
  cases frmE 24 x with
  | none => rfl
  | some c => exact congrArg some (decide_eq_decide.2 (by simp only; split <;> omega))
theorem formed_frm {x : api_Expr} (h : formedE x = true) : ∃ c, frmE 24 x = some c ∧ c ≤ 400 := by
  unfold formedE at h
  split at h
  · rename_i c hc; exact ⟨c, hc, by simpa using h⟩
  · cases h
end Go.Pl
set_option maxRecDepth 100000
namespace Go.Pl
open Go Go.Ab
theorem W_un {z : EX} (h : W_E_api_Expr z) : W_api_Expr (un_api_Expr z) := by
  unfold W_E_api_Expr at h
  rw [R_un_api_Expr z] at h
  exact h
theorem bulk_ok : ∀ (s m n : Nat) (a : Option (List EX)) (most : Int), (∀ z, z ∈ sll a → W_api_Expr (un_api_Expr z) ∧ szL (un_api_Expr z) ≤ s) → (sll a).length ≤ 1048576 → s < m → 2000020 + s ≤ n → ∃ r, ref22_Bulk_t m n a most = some r
  | s, m, n, a, most, hz, hl, hm, hn => by
    obtain ⟨m, rfl⟩ : ∃ j, m = j + 1 := ⟨m - 1, by omega⟩
    obtain ⟨n, rfl⟩ : ∃ j, n = j + 1 := ⟨n - 1, by omega⟩
    show ∃ r, ref22_Bulk_f (ref22_Bulk_t m) (n + 1) a most = some r
    unfold ref22_Bulk_f
    rw [at1_succ]
    cases hq : decide (((sll a).length : Int) > most) with
    | true => exact ⟨_, rfl⟩
    | false =>
      rw [cond_false]
      show ∃ r, ref22_Bulk_l5 n (ref22_Bulk_t m) a most (fun y3 => some y3) n ((sll a).length : Int) ((0 : Nat) : Int) = some r
      have key : ∀ (d mm i : Nat) (acc : Int), i + d = (sll a).length → d < mm → ∃ r, ref22_Bulk_l5 n (ref22_Bulk_t m) a most (fun y3 => some y3) mm acc (i : Int) = some r := by
        intro d
        induction d with
        | zero =>
          intro mm i acc hi hmm
          obtain ⟨mm, rfl⟩ : ∃ j, mm = j + 1 := ⟨mm - 1, by omega⟩
          rw [ref22_Bulk_l5, dF (by omega : ¬ (i : Int) < ((sll a).length : Int)), Bool.false_and, cond_false]
          exact ⟨_, rfl⟩
        | succ d ih =>
          intro mm i acc hi hmm
          obtain ⟨mm, rfl⟩ : ∃ j, mm = j + 1 := ⟨mm - 1, by omega⟩
          rw [ref22_Bulk_l5]
          cases hc : (decide ((i : Int) < ((sll a).length : Int)) && decide (acc ≤ most)) with
          | false => exact ⟨_, rfl⟩
          | true =>
            have hi' : i < (sll a).length := by omega
            have hzi := hz _ (List.getElem_mem hi')
            rw [cond_true, idx_nat, List.getElem?_eq_getElem hi', Option.bind_some, wrapN (by omega)]
            cases decide ((((((un_api_Expr (sll a)[i]).fConst).fText).size : Nat) : Int) > most) with
            | true => exact ⟨_, rfl⟩
            | false =>
              rw [cond_false]
              cases decide ((IntKind.wrap .i64 (acc + ((((un_api_Expr (sll a)[i]).fConst).fText).size : Int))) ≤ most) with
              | false => exact ih mm (i + 1) _ (by omega) (by omega)
              | true =>
                rw [cond_true]
                have hs : 0 < s := by
                  have := hzi.2
                  unfold szL R_api_Expr at this
                  simp only [PV.bulkL, PV.bulk] at this
                  omega
                obtain ⟨r, hr⟩ := bulk_ok (s - 1) m n ((un_api_Expr (sll a)[i]).fKids) (IntKind.wrap .i64 (most - (IntKind.wrap .i64 (acc + ((((un_api_Expr (sll a)[i]).fConst).fText).size : Int))))) (fun y hy => ⟨W_kid hzi.1 hy, by have := sz_kid hy; omega⟩) (kids_len hzi.1) (by omega) (by omega)
                rw [hr, Option.bind_some]
                exact ih mm (i + 1) _ (by omega) (by omega)
      exact key (sll a).length n 0 _ (by omega) (by omega)
  termination_by s => s
  decreasing_by omega
end Go.Pl
set_option maxRecDepth 100000
namespace Go.Pl
open Go Go.Ab
theorem bulk_pos {α : Type} (R : α → List PV) (s : Option (List α)) : 1 ≤ (encSl R s).bulk := by
  cases s with
  | none => simp only [encSl, PV.bulk]; omega
  | some l => simp only [encSl, PV.bulk]; omega
theorem wsl_none {α : Type} {W : α → Prop} : wSl W none := ⟨by simp [sll], fun x h => by cases h⟩
theorem bulk22_any {a : Option (List EX)} (ha : wSl W_E_api_Expr a) (most : Int) {n : Nat} (hn : 3048700 ≤ n) : ∃ r, ref22_Bulk n a most = some r :=
  bulk_ok 1048576 n n a most (fun z hz => ⟨W_un (ha.2 z hz), (W_un (ha.2 z hz)).2⟩) ha.1 (by omega) (by omega)
end Go.Pl
