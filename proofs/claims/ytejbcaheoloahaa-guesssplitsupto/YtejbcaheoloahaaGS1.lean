import Derived.Test.YtejbcaheoloahaaPL
import Derived.Test.YtejbcaheoloahaaPA
set_option linter.unusedVariables false
set_option linter.unusedSimpArgs false
set_option maxRecDepth 100000
/-! ### Expressions: which relations they name -/
namespace Go.Pl
open Go Go.Ab

abbrev EX := E_api_Expr
def szL (x : api_Expr) : Nat := PV.bulkL (R_api_Expr x)
theorem dT {p : Prop} [Decidable p] (h : p) : decide p = true := decide_eq_true h
theorem dF {p : Prop} [Decidable p] (h : ¬ p) : decide p = false := decide_eq_false h
theorem sz_kid {x : api_Expr} {z : EX} (h : z ∈ sll x.fKids) : szL (un_api_Expr z) < szL x := by
  have e : szL (un_api_Expr z) = PV.bulkL (R_E_api_Expr z) := by rw [R_un_api_Expr z]; rfl
  rw [e]
  unfold szL R_api_Expr
  cases hk : x.fKids with
  | none => rw [hk] at h; cases h
  | some l =>
    rw [hk] at h
    have := bulkL_mem (rows := l.map R_E_api_Expr) (r := R_E_api_Expr z) (List.mem_map_of_mem h)
    simp only [PV.bulkL, PV.bulk, encSl]
    omega
theorem W_kid {x : api_Expr} (hw : W_api_Expr x) {z : EX} (h : z ∈ sll x.fKids) : W_api_Expr (un_api_Expr z) := by
  have hs := sz_kid h
  have h2 := hw.2
  refine ⟨?_, by unfold szL at hs; omega⟩
  have h1 := hw.1
  unfold R_api_Expr at h1
  rw [← R_un_api_Expr z]
  cases hk : x.fKids with
  | none => rw [hk] at h; cases h
  | some l =>
    rw [hk] at h h1
    generalize hp : ([.int .i64 x.fKind, .int .i64 x.fRel, .int .i64 x.fCol, .int .i64 x.fConst.fKind, .int .i64 x.fConst.fInt, .flt .f64 x.fConst.fFloat, .str x.fConst.fText, encSl R_E_api_Expr (some l)] : List PV) = p at h1
    cases h1 with
    | nil a b c v w => simp [encSl] at hp
    | some a b c v rows w hl hr =>
      simp only [List.cons.injEq, and_true, encSl, PV.sl.injEq] at hp
      obtain ⟨_, _, _, _, _, _, _, e⟩ := hp
      subst e
      exact hr _ (List.mem_map_of_mem h)
theorem kids_len {x : api_Expr} (hw : W_api_Expr x) : (sll x.fKids).length ≤ 1048576 := by
  have h1 := hw.1
  unfold R_api_Expr at h1
  cases hk : x.fKids with
  | none => simp [sll]
  | some l =>
    rw [hk] at h1
    generalize hp : ([.int .i64 x.fKind, .int .i64 x.fRel, .int .i64 x.fCol, .int .i64 x.fConst.fKind, .int .i64 x.fConst.fInt, .flt .f64 x.fConst.fFloat, .str x.fConst.fText, encSl R_E_api_Expr (some l)] : List PV) = p at h1
    cases h1 with
    | nil a b c v w => simp [encSl] at hp
    | some a b c v rows w hl hr =>
      simp only [List.cons.injEq, and_true, encSl, PV.sl.injEq] at hp
      obtain ⟨_, _, _, _, _, _, _, e⟩ := hp
      subst e
      show l.length ≤ _
      simpa using hl
/-- The relations of an expression, so deep. -/
def ownR (x : api_Expr) : Int := bif ((x.fKind == 1) && (decide (x.fRel ≥ 0))) && (decide (x.fRel ≤ 31)) then iShl .u32 1 (IntKind.wrap .u64 x.fRel) else 0
noncomputable def relD : Nat → api_Expr → Int
  | 0, _ => 0
  | k + 1, x => (sll x.fKids).foldl (fun acc z => iOr .u32 acc (relD k (un_api_Expr z))) (ownR x)
theorem rels_ok : ∀ (s : Nat) (x : api_Expr), szL x ≤ s → W_api_Expr x → ∀ k m n, s ≤ k → s < m → 2000020 + s ≤ n → expr_Rels_t m n x = some (relD k x)
  | 0, x, hs, hw, k, m, n, hk, hm, hn => by
    exfalso
    unfold szL R_api_Expr at hs
    simp only [PV.bulkL, PV.bulk] at hs
    omega
  | s + 1, x, hs, hw, k, m, n, hk, hm, hn => by
    obtain ⟨k, rfl⟩ : ∃ j, k = j + 1 := ⟨k - 1, by omega⟩
    obtain ⟨m, rfl⟩ : ∃ j, m = j + 1 := ⟨m - 1, by omega⟩
    obtain ⟨n, rfl⟩ : ∃ j, n = j + 1 := ⟨n - 1, by omega⟩
    show expr_Rels_f (expr_Rels_t m) (n + 1) x = _
    unfold expr_Rels_f
    rw [at1_succ]
    have hown : ∀ K3 : Int → Option Int, withK (fun k3 => bif (((x.fKind == 1) && (decide (x.fRel ≥ 0))) && (decide (x.fRel ≤ 31))) then (ckN (IntKind.wrap .u64 x.fRel)).bind fun _ => k3 (iShl .u32 1 (IntKind.wrap .u64 x.fRel)) else k3 0) K3 = K3 (ownR x) := fun K3 => by
      unfold ownR
      simp only [withK]
      cases hq : (((x.fKind == 1) && (decide (x.fRel ≥ 0))) && (decide (x.fRel ≤ 31))) with
      | false => rfl
      | true =>
        rw [Bool.and_eq_true, Bool.and_eq_true, decide_eq_true_eq, decide_eq_true_eq] at hq
        rw [cond_true, cond_true]
        have : ckN (IntKind.wrap .u64 x.fRel) = some () := by rw [wrapU (by omega) (by omega)]; unfold ckN; split <;> first | rfl | omega
        rw [this, Option.bind_some]
    refine Eq.trans (hown _) ?_
    have hl : ∀ K : Int → Option Int, expr_Rels_l5 n (expr_Rels_t m) x K n 0 (ownR x) = rangeS (fun (z : EX) i (acc : Int) rec => (expr_Rels_t m n (un_api_Expr z)).bind fun r => rec (iOr .u32 acc r)) K (sll x.fKids) 0 (ownR x) := fun K =>
      loop_sl (F := fun m' (acc : Int) i => expr_Rels_l5 n (expr_Rels_t m) x K m' i acc) (x := x.fKids) (kids_len hw) (k := K) (fun m' i s => rfl) (by omega) (ownR x)
    show withK (fun k7 => expr_Rels_l5 n (expr_Rels_t m) x k7 n 0 (ownR x)) (fun y6 => some y6) = _
    unfold withK
    refine Eq.trans (hl _) ?_
    have gen : ∀ (l : List EX) (i : Nat) (acc : Int), (∀ z, z ∈ l → z ∈ sll x.fKids) → rangeS (fun (z : EX) i (acc : Int) rec => (expr_Rels_t m n (un_api_Expr z)).bind fun r => rec (iOr .u32 acc r)) (fun y6 => some y6) l i acc = some (l.foldl (fun acc z => iOr .u32 acc (relD k (un_api_Expr z))) acc) := by
      intro l
      induction l with
      | nil => intro i acc _; rfl
      | cons z l ih =>
        intro i acc hz
        have hz0 := hz z (by simp)
        have := sz_kid hz0
        simp only [rangeS]
        rw [rels_ok s (un_api_Expr z) (by omega) (W_kid hw hz0) k m n (by omega) (by omega) (by omega), Option.bind_some, ih (i + 1) _ (fun y hy => hz y (List.mem_cons_of_mem _ hy))]
        rfl
    exact gen _ 0 _ (fun z hz => hz)
/-- The relations of a condition. -/
noncomputable def relE (z : EX) : Int := relD 1048576 (un_api_Expr z)
theorem relsE_ok {z : EX} (hw : W_E_api_Expr z) {n : Nat} (h : 3048600 ≤ n) : expr_Rels n (un_api_Expr z) = some (relE z) := by
  have hw' : W_api_Expr (un_api_Expr z) := by
    have := hw
    unfold W_E_api_Expr at this
    rw [R_un_api_Expr z] at this
    exact this
  exact rels_ok 1048576 _ hw'.2 hw' _ n n (Nat.le_refl _) (by omega) (by omega)
def okS (S r : Int) : Bool := ((iAndNot .u32 r S) == 0) && ((r != 0) || ((iAnd .u32 S 1) == 1))
/-- Which may be asked. -/
noncomputable def wl (S : Int) : List EX → Nat → List Int
  | [], _ => []
  | z :: l, i => bif okS S (relE z) then (i : Int) :: wl S l (i + 1) else wl S l (i + 1)
theorem ckA_ok {b n : Nat} (h : n ≤ 2000000) (hb : b ≤ 1000) : ckA b n = some () := by
  unfold ckA
  rw [if_pos]
  have := Nat.mul_le_mul h hb
  omega
theorem within_l3 {n : Nat} (hn : 3048600 ≤ n) {a : Option (List EX)} (ha : wSl W_E_api_Expr a) {S : Int} {K : Option (List Int) → Option (Option (List Int))} : ∀ (l : List EX) (m : Nat) (p : List EX) (s : Option (List Int)), sll a = p ++ l → (sll s).length ≤ p.length → l.length < m →
    guess_Within_l3 n a S K m (p.length : Int) s = K (if wl S l p.length = [] then s else some (sll s ++ wl S l p.length))
  | [], m, p, s, he, _, hm => by
    obtain ⟨m, rfl⟩ : ∃ j, m = j + 1 := ⟨m - 1, by omega⟩
    rw [List.append_nil] at he
    cases s <;> (rw [guess_Within_l3, dF (by rw [he]; omega), cond_false]; rfl)
  | z :: l, m, p, s, he, hs, hm => by
    obtain ⟨m, rfl⟩ : ∃ j, m = j + 1 := ⟨m - 1, by omega⟩
    have ha1 := ha.1
    have hlen : (sll a).length = p.length + (l.length + 1) := by rw [he]; simp
    rw [List.length_cons] at hm
    have hix : idx (sll a) (p.length : Int) = some z := by rw [he, idx_nat]; simp
    have hz : W_E_api_Expr z := ha.2 z (by rw [he]; simp)
    have hr := fun s hs => within_l3 hn ha (S := S) (K := K) l m (p ++ [z]) s (by rw [he]; simp) hs (by omega)
    rw [show (p ++ [z]).length = p.length + 1 by simp] at hr
    have hrel := relsE_ok hz (n := n) (by omega)
    cases hok : okS S (relE z) with
    | true =>
      have hok' : (((iAndNot .u32 (relE z) S) == 0) && ((relE z != 0) || ((iAnd .u32 S 1) == 1))) = true := hok
      have e := hr (some (sll s ++ [(p.length : Int)])) (by show (sll s ++ [(p.length : Int)]).length ≤ _; simp; omega)
      have fin : K (if wl S l (p.length + 1) = [] then some (sll s ++ [(p.length : Int)]) else some (sll (some (sll s ++ [(p.length : Int)])) ++ wl S l (p.length + 1))) = K (if wl S (z :: l) p.length = [] then s else some (sll s ++ wl S (z :: l) p.length)) := by
        rw [wl, hok, cond_true, if_neg (List.cons_ne_nil _ _)]
        by_cases hl : wl S l (p.length + 1) = []
        · rw [if_pos hl, hl]
        · rw [if_neg hl]; show K (some ((sll s ++ [(p.length : Int)]) ++ _)) = _; simp
      rw [fin] at e
      cases s with
      | none =>
        rw [guess_Within_l3, dT (by omega), cond_true, hix, Option.bind_some]
        show ((expr_Rels n (un_api_Expr z)).bind _) = _
        rw [hrel, Option.bind_some, hok', cond_true, ckA_ok (by simp) (by omega), Option.bind_some, wrapN (by omega)]
        exact e
      | some s =>
        have hs' : s.length ≤ p.length := hs
        rw [guess_Within_l3, dT (by omega), cond_true, hix, Option.bind_some]
        show ((expr_Rels n (un_api_Expr z)).bind _) = _
        rw [hrel, Option.bind_some, hok', cond_true, ckA_ok (by simp; omega) (by omega), Option.bind_some, wrapN (by omega)]
        exact e
    | false =>
      have hok' : (((iAndNot .u32 (relE z) S) == 0) && ((relE z != 0) || ((iAnd .u32 S 1) == 1))) = false := hok
      have e := hr s (by omega)
      rw [wl, hok, cond_false]
      cases s with
      | none =>
        rw [guess_Within_l3, dT (by omega), cond_true, hix, Option.bind_some]
        show ((expr_Rels n (un_api_Expr z)).bind _) = _
        rw [hrel, Option.bind_some, hok', cond_false, wrapN (by omega)]
        exact e
      | some s =>
        rw [guess_Within_l3, dT (by omega), cond_true, hix, Option.bind_some]
        show ((expr_Rels n (un_api_Expr z)).bind _) = _
        rw [hrel, Option.bind_some, hok', cond_false, wrapN (by omega)]
        exact e
theorem within_ok {n : Nat} (hn : 3048610 ≤ n) {a : Option (List EX)} (ha : wSl W_E_api_Expr a) (S : Int) : ∃ w, guess_Within n a S = some w ∧ sll w = wl S (sll a) 0 := by
  obtain ⟨n, rfl⟩ : ∃ k, n = k + 1 := ⟨n - 1, by omega⟩
  have ha1 := ha.1
  unfold guess_Within
  rw [at1_succ]
  unfold withK
  refine ⟨if wl S (sll a) 0 = [] then none else some (wl S (sll a) 0), ?_, ?_⟩
  · refine Eq.trans (within_l3 (n := n) (by omega) ha (sll a) n [] none rfl (Nat.le_refl _) (by omega)) ?_
    by_cases h : wl S (sll a) 0 = []
    · rw [if_pos (show wl S (sll a) ([] : List EX).length = [] from h), if_pos h]
    · rw [if_neg (show wl S (sll a) ([] : List EX).length ≠ [] from h), if_neg h]; rfl
  · by_cases h : wl S (sll a) 0 = []
    · rw [if_pos h, h]; rfl
    · rw [if_neg h]; rfl
theorem in_ok {n : Nat} (hn : 3048620 ≤ n) {a : Option (List EX)} (ha : wSl W_E_api_Expr a) (S : Int) {i : Nat} (hi : i < (sll a).length) : law31_in n a S (i : Int) = some (okS S (relE (sll a)[i])) := by
  obtain ⟨n, rfl⟩ : ∃ k, n = k + 1 := ⟨n - 1, by omega⟩
  have ha1 := ha.1
  have hsub : sll (subSl a (i : Int) ((i + 1 : Nat) : Int)) = [(sll a)[i]] := by
    cases a with
    | none => simp [sll] at hi
    | some l =>
      show ((l.drop _).take _) = [l[i]]
      have hi' : i < l.length := hi
      rw [Int.toNat_natCast, Int.toNat_natCast, List.drop_eq_getElem_cons hi', show i + 1 - i = 1 by omega]
      rfl
  unfold law31_in
  rw [at1_succ, wrapN (by omega)]
  have : ckB (i : Int) ((i + 1 : Nat) : Int) ((sll a).length : Int) = some () := by unfold ckB; rw [if_pos (by omega)]
  rw [this, Option.bind_some]
  have hW : wSl W_E_api_Expr (subSl a (i : Int) ((i + 1 : Nat) : Int)) := ⟨by rw [hsub]; simp, fun z hz => by rw [hsub] at hz; simp at hz; subst hz; exact ha.2 _ (List.getElem_mem _)⟩
  obtain ⟨w, w1, w2⟩ := within_ok (n := n) (by omega) hW S
  rw [w1, Option.bind_some, w2, hsub]
  simp only [wl]
  cases okS S (relE (sll a)[i]) <;> rfl
end Go.Pl
