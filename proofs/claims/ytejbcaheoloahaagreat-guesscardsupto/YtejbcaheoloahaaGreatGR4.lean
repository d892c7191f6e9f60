import Derived.Test.YtejbcaheoloahaaGreatGRA
set_option maxRecDepth 100000
namespace Go.Pl
open Go Go.Ab
theorem part31_ok {l : L20} (hl : WL20 l) : ∀ (r : Nat), r ≤ 24 → ∀ (x : api_Expr) (c : Nat), W_api_Expr x → frmE r x = some c → ∀ m n, r + 1 ≤ m → 2000400 + r ≤ n →
    ref31_part_t m n x l = some (prtF r x (gL l) : Int)
  | 0, _, x, c, _, h, _, _, _, _ => by cases h
  | r + 1, hr, x, c, hw, h, m, n, hm, hn => by
    obtain ⟨m, rfl⟩ : ∃ j, m = j + 1 := ⟨m - 1, by omega⟩
    obtain ⟨n, rfl⟩ : ∃ j, n = j + 1 := ⟨n - 1, by omega⟩
    have hs : WLS (gL l) := stats_W hl
    obtain ⟨hnode, hkid⟩ := frmE_kid h
    have hlen := node_kids hnode
    have ih : ∀ z, z ∈ sll x.fKids → ref31_part_t m n (api_Expr.mk ((un_api_Expr z).fKind) ((un_api_Expr z).fRel) ((un_api_Expr z).fCol) (api_Value.mk (((un_api_Expr z).fConst).fKind) (((un_api_Expr z).fConst).fInt) (((un_api_Expr z).fConst).fFloat) (((un_api_Expr z).fConst).fText)) ((un_api_Expr z).fKids)) l = some (prtF r (un_api_Expr z) (gL l) : Int) ∧ prtF r (un_api_Expr z) (gL l) ≤ 1048576 := fun z hz => by
      obtain ⟨a, ha, _⟩ := hkid z hz
      exact ⟨part31_ok hl r (by omega) _ a (W_kid hw hz) ha m n (by omega) (by omega), (part_ok hs r (by omega) _ a (W_kid hw hz) ha 2000400 2000400 (by omega) (by omega)).2⟩
    have hpin : ∀ z, z ∈ sll x.fKids → pinE (un_api_Expr z) := fun z hz => by
      obtain ⟨a, ha, _⟩ := hkid z hz
      exact (node_pin (frm_node ha)).1
    show ref31_part_f (ref31_part_t m) (n + 1) x l = _
    unfold ref31_part_f
    rw [at1_succ]
    rw [prtF]
    simp only [withK]
    by_cases h2 : x.fKind = 2
    · rw [beqT h2, cond_true, cond_true]
      have : ref22_True n x.fConst = some ((x.fConst.fKind == 1) && (x.fConst.fInt == 1)) := by
        obtain ⟨n, rfl⟩ : ∃ j, n = j + 1 := ⟨n - 1, by omega⟩
        rfl
      rw [this]
      cases ((x.fConst.fKind == 1) && (x.fConst.fInt == 1)) <;> rfl
    rw [beqF h2, cond_false, cond_false]
    have cmp : x.fKind = 7 ∨ x.fKind = 8 ∨ x.fKind = 9 → ref31_compared n (api_Expr.mk x.fKind x.fRel x.fCol x.fConst x.fKids) l = some (comparedF x.fKind (kidE x 0) (kidE x 1) (gL l) : Int) := fun hq => by
      obtain ⟨a, b, hk⟩ := two_kids (x := x) (by rw [hlen]; rcases hq with h | h | h <;> rw [h] <;> rfl)
      rw [show kidE x 0 = un_api_Expr a by unfold kidE; rw [hk]; rfl, show kidE x 1 = un_api_Expr b by unfold kidE; rw [hk]; rfl]
      have ma : a ∈ sll x.fKids := by rw [hk]; simp
      have mb : b ∈ sll x.fKids := by rw [hk]; simp
      exact ref31_compared_ok (x := x) hq hk (hpin a ma) (hpin b mb) (W_const (W_kid hw ma)) (W_const (W_kid hw mb)) hl (by omega)
    by_cases h7 : x.fKind = 7
    · rw [beqT h7, beqF (show ¬ x.fKind = 10 by omega), beqF (show ¬ x.fKind = 11 by omega), beqF (show ¬ x.fKind = 12 by omega)]
      simp only [cond_true, cond_false, Bool.true_or]
      rw [cmp (.inl h7)]; rfl
    by_cases h8 : x.fKind = 8
    · rw [beqT h8, beqF h7, beqF (show ¬ x.fKind = 10 by omega), beqF (show ¬ x.fKind = 11 by omega), beqF (show ¬ x.fKind = 12 by omega)]
      simp only [cond_true, cond_false, Bool.true_or, Bool.false_or]
      rw [cmp (.inr (.inl h8))]; rfl
    by_cases h9 : x.fKind = 9
    · rw [beqT h9, beqF h7, beqF h8, beqF (show ¬ x.fKind = 10 by omega), beqF (show ¬ x.fKind = 11 by omega), beqF (show ¬ x.fKind = 12 by omega)]
      simp only [cond_true, cond_false, Bool.true_or, Bool.false_or]
      rw [cmp (.inr (.inr h9))]; rfl
    rw [beqF h7, beqF h8, beqF h9]
    simp only [cond_false, Bool.or_self]
    by_cases h10 : x.fKind = 10
    · rw [beqT h10, cond_true, cond_true]
      obtain ⟨a, b, hk⟩ := two_kids (x := x) (by rw [hlen, h10]; rfl)
      have ia := ih a (by rw [hk]; simp)
      have ib := ih b (by rw [hk]; simp)
      rw [show kidE x 0 = un_api_Expr a by unfold kidE; rw [hk]; rfl, show kidE x 1 = un_api_Expr b by unfold kidE; rw [hk]; rfl, hk]
      rw [show idx [a, b] 0 = some a from rfl, Option.bind_some, ia.1, Option.bind_some, show idx [a, b] 1 = some b from rfl, Option.bind_some, ib.1, Option.bind_some]
      have a2 := ia.2; have b2 := ib.2
      rw [ref30_Scale_ok (by omega) (by omega) (by omega)]
      rfl
    rw [beqF h10, cond_false, cond_false]
    by_cases h11 : x.fKind = 11
    · rw [beqT h11, cond_true, cond_true]
      obtain ⟨a, b, hk⟩ := two_kids (x := x) (by rw [hlen, h11]; rfl)
      have ia := ih a (by rw [hk]; simp)
      have ib := ih b (by rw [hk]; simp)
      rw [show kidE x 0 = un_api_Expr a by unfold kidE; rw [hk]; rfl, show kidE x 1 = un_api_Expr b by unfold kidE; rw [hk]; rfl, hk]
      rw [show idx [a, b] 0 = some a from rfl, Option.bind_some, ia.1, Option.bind_some, show idx [a, b] 1 = some b from rfl, Option.bind_some, ib.1, Option.bind_some]
      have a2 := ia.2; have b2 := ib.2
      have ho := or_unit a2 b2
      rw [ref30_Scale_ok (by omega) (by omega) (by omega), Option.bind_some]
      congr 1
      generalize scaleF (prtF r (un_api_Expr a) (gL l)) (prtF r (un_api_Expr b) (gL l)) = q at *
      generalize prtF r (un_api_Expr a) (gL l) = u at *
      generalize prtF r (un_api_Expr b) (gL l) = v at *
      rw [wrapU (x := (u : Int) + (v : Int)) (by omega) (by omega), wrapU (by omega) (by omega)]
      omega
    rw [beqF h11, cond_false, cond_false]
    by_cases h12 : x.fKind = 12
    · rw [beqT h12, cond_true, cond_true]
      obtain ⟨a, hk⟩ := one_kid (x := x) (by rw [hlen, h12]; rfl)
      have ia := ih a (by rw [hk]; simp)
      rw [show kidE x 0 = un_api_Expr a by unfold kidE; rw [hk]; rfl, hk]
      rw [show idx [a] 0 = some a from rfl, Option.bind_some, ia.1, Option.bind_some, ref30_Inverse_ok (by omega)]
      rfl
    rw [beqF h12, cond_false, cond_false]
    by_cases h13 : x.fKind = 13
    · rw [beqT h13, cond_true, cond_true]
      obtain ⟨a, hk⟩ := one_kid (x := x) (by rw [hlen, h13]; rfl)
      have ma : a ∈ sll x.fKids := by rw [hk]; simp
      rw [show kidE x 0 = un_api_Expr a by unfold kidE; rw [hk]; rfl, hk, show idx [a] 0 = some a from rfl, Option.bind_some]
      rcases known_ok (hpin a ma) hl (n := n) (by omega) with ⟨g1, t1, c1, i1, j1, e1, w1, r1⟩ | ⟨g1, e1⟩
      · rw [show ref31_known n (api_Expr.mk ((un_api_Expr a).fKind) ((un_api_Expr a).fRel) ((un_api_Expr a).fCol) (api_Value.mk (((un_api_Expr a).fConst).fKind) (((un_api_Expr a).fConst).fInt) (((un_api_Expr a).fConst).fFloat) (((un_api_Expr a).fConst).fText)) ((un_api_Expr a).fKids)) l = _ from g1, Option.bind_some, e1, cond_true]
        rw [show ref31_nulls n (api_Expr.mk ((un_api_Expr a).fKind) ((un_api_Expr a).fRel) ((un_api_Expr a).fCol) (api_Value.mk (((un_api_Expr a).fConst).fKind) (((un_api_Expr a).fConst).fInt) (((un_api_Expr a).fConst).fFloat) (((un_api_Expr a).fConst).fText)) ((un_api_Expr a).fKids)) l = _ from ref31_nulls_ok (x := un_api_Expr a) i1 j1 w1 r1 (by omega)]
        rfl
      · rw [show ref31_known n (api_Expr.mk ((un_api_Expr a).fKind) ((un_api_Expr a).fRel) ((un_api_Expr a).fCol) (api_Value.mk (((un_api_Expr a).fConst).fKind) (((un_api_Expr a).fConst).fInt) (((un_api_Expr a).fConst).fFloat) (((un_api_Expr a).fConst).fText)) ((un_api_Expr a).fKids)) l = _ from g1, Option.bind_some, e1, cond_false]
        rfl
    rw [beqF h13, cond_false, cond_false]
    rfl
theorem ref31_Part_ok {x : api_Expr} (hw : W_api_Expr x) {l : L20} (hl : WL20 l) {n : Nat} (hn : 2000500 ≤ n) : ref31_Part n x l = some (partF x (gL l) : Int) := by
  obtain ⟨n, rfl⟩ : ∃ j, n = j + 1 := ⟨n - 1, by omega⟩
  unfold ref31_Part partF
  rw [at1_succ, ref22_Formed_ok hw (by omega), Option.bind_some]
  cases hf : formedE x with
  | false => rfl
  | true =>
    obtain ⟨c, hc, _⟩ := formed_frm hf
    rw [Bool.not_true, cond_false, cond_true, show ref31_part n x l = _ from part31_ok hl 24 (by omega) x c hw hc n n (by omega) (by omega)]
    rfl
theorem rows_g (l : L20) (i : Nat) : rowsF (gL l) i = match (sll l)[i]? with | some t => t.fRows.toNat | none => 0 := by
  unfold rowsF
  simp only [sll_mapO, List.getElem?_map]
  cases (sll l)[i]? <;> rfl
theorem ref31_Rows_ok {l : L20} (hl : WL20 l) (i : Nat) {n : Nat} (hn : 10 ≤ n) : ref31_Rows n l (i : Int) = some (rowsF (gL l) i : Int) := by
  obtain ⟨n, rfl⟩ : ∃ j, n = j + 1 := ⟨n - 1, by omega⟩
  rw [rows_g]
  unfold ref31_Rows
  rw [at1_succ, dF (by omega), Bool.false_or]
  by_cases h : i < (sll l).length
  · have hm := wI_lt (hl.2 _ (List.getElem_mem h)).1
    rw [dF (by omega), cond_false, idx_nat, List.getElem?_eq_getElem h, Option.bind_some, ref31_up_ok hm (by omega)]
    rfl
  · rw [dT (by omega), cond_true, List.getElem?_eq_none (by omega)]
    rfl
theorem shr_W {S : Int} (hS : wI .u32 S) (i : Nat) (hi : i < 32) : wI .u32 (iShr .u32 S (i : Int)) := by
  have h1 : 0 ≤ S := hS.1
  have h2 : S ≤ 4294967295 := hS.2
  obtain ⟨v, rfl⟩ : ∃ v : Nat, S = v := ⟨S.toNat, by omega⟩
  have : iShr .u32 (v : Int) (i : Int) = ((v / 2 ^ i : Nat) : Int) := by
    unfold iShr
    rw [Int.toNat_natCast, show min i (IntKind.bits .u32) = i from Nat.min_eq_left (by show i ≤ 32; omega), Int.fdiv_eq_ediv_of_nonneg _ (by exact_mod_cast Nat.zero_le _)]
    norm_cast
  rw [this]
  have hle := Nat.div_le_self v (2 ^ i)
  generalize v / 2 ^ i = z at *
  exact ⟨by show (0 : Int) ≤ _; omega, by show _ ≤ (4294967295 : Int); omega⟩
theorem card31_l3 {l : L20} (hl : WL20 l) {S : Int} (hS : wI .u32 S) {K : Int → Option Int} {n : Nat} (hn : 100 ≤ n) : ∀ (d i acc m : Nat), i + d = 32 → acc ≤ 18446744073709551615 → d < m → ref31_Card_l3 n l S K m (acc : Int) (i : Int) = K (prodF S (gL l) d i acc : Int)
  | 0, i, acc, m, hi, ha, hm => by
    obtain ⟨m, rfl⟩ : ∃ j, m = j + 1 := ⟨m - 1, by omega⟩
    rw [ref31_Card_l3, dF (by omega), cond_false]; rfl
  | d + 1, i, acc, m, hi, ha, hm => by
    obtain ⟨m, rfl⟩ : ∃ j, m = j + 1 := ⟨m - 1, by omega⟩
    have hck : ckN (IntKind.wrap .u64 (i : Int)) = some () := by rw [wrapU (by omega) (by omega)]; unfold ckN; split <;> first | rfl | omega
    rw [ref31_Card_l3, dT (by omega), cond_true, hck, Option.bind_some, wrapU (by omega) (by omega), wrapN (by omega), prodF]
    have hsh := shr_W hS i (by omega)
    have hb : ((Int.tmod (iShr .u32 S (i : Int)) 2) == 1) = bitS S i := by
      unfold bitS
      rw [and_one hsh, Int.tmod_eq_emod_of_nonneg hsh.1]
    rw [hb]
    cases hB : bitS S i with
    | true =>
      have : rowsF (gL l) i ≤ 9223372036854775807 := rowsF_le (stats_W hl) i
      rw [cond_true, cond_true, ref31_Rows_ok hl i (by omega), Option.bind_some, ref30_Mul_ok ha (by omega) (by omega), Option.bind_some]
      exact card31_l3 hl hS hn d (i + 1) _ m (by omega) (capF_le _) (by omega)
    | false =>
      rw [cond_false, cond_false]
      exact card31_l3 hl hS hn d (i + 1) _ m (by omega) ha (by omega)
theorem card31_l8 {a : Option (List EX)} (ha : wSl W_E_api_Expr a) {l : L20} (hl : WL20 l) {S : Int} (hS : wI .u32 S) {K : Int → Option Int} {n : Nat} (hn : 3048700 ≤ n) : ∀ (q p : List EX) (m acc : Nat), sll a = p ++ q → acc ≤ 18446744073709551615 → q.length < m →
    ref31_Card_l8 n a l S K m (acc : Int) (p.length : Int) = K (scalF (sll a) (gL l) (wl S q p.length) acc : Int)
  | [], p, m, acc, he, hacc, hm => by
    obtain ⟨m, rfl⟩ : ∃ j, m = j + 1 := ⟨m - 1, by omega⟩
    rw [ref31_Card_l8, dF (by rw [he]; simp), cond_false]; rfl
  | z :: q, p, m, acc, he, hacc, hm => by
    obtain ⟨m, rfl⟩ : ∃ j, m = j + 1 := ⟨m - 1, by omega⟩
    rw [List.length_cons] at hm
    have hs : WLS (gL l) := stats_W hl
    have hz := ha.2 z (by rw [he]; simp)
    have hlen : (sll a).length = p.length + (q.length + 1) := by rw [he]; simp
    have ha1 := ha.1
    have hpl := partF_le (un_W hz) hs
    have hsl := scaleF_le hacc hpl
    rw [ref31_Card_l8, dT (by rw [he]; simp; omega), cond_true, show idx (sll a) (p.length : Int) = some z by rw [he, idx_nat]; simp, Option.bind_some]
    rw [show ref31_In n (api_Expr.mk ((un_api_Expr z).fKind) ((un_api_Expr z).fRel) ((un_api_Expr z).fCol) (api_Value.mk (((un_api_Expr z).fConst).fKind) (((un_api_Expr z).fConst).fInt) (((un_api_Expr z).fConst).fFloat) (((un_api_Expr z).fConst).fText)) ((un_api_Expr z).fKids)) S = _ from ref31_In_ok hz hS (by omega), Option.bind_some, wl]
    rw [wrapN (by omega), show p.length + 1 = (p ++ [z]).length by simp]
    cases okS S (relE z) with
    | true =>
      rw [cond_true, cond_true]
      rw [show ref31_Part n (api_Expr.mk ((un_api_Expr z).fKind) ((un_api_Expr z).fRel) ((un_api_Expr z).fCol) (api_Value.mk (((un_api_Expr z).fConst).fKind) (((un_api_Expr z).fConst).fInt) (((un_api_Expr z).fConst).fFloat) (((un_api_Expr z).fConst).fText)) ((un_api_Expr z).fKids)) l = _ from ref31_Part_ok (un_W hz) hl (by omega), Option.bind_some]
      rw [ref30_Scale_ok hacc (by omega) (by omega), Option.bind_some, card31_l8 ha hl hS hn q (p ++ [z]) m _ (by rw [he]; simp) (by omega) (by omega), scalF]
      have : (sll a)[((p.length : Int)).toNat]? = some z := by rw [Int.toNat_natCast, he]; simp
      rw [this]
    | false =>
      rw [cond_false, cond_false]
      exact card31_l8 ha hl hS hn q (p ++ [z]) m _ (by rw [he]; simp) hacc (by omega)
theorem ref31_Card_ok {a : Option (List EX)} (ha : wSl W_E_api_Expr a) {l : L20} (hl : WL20 l) {S : Int} (hS : wI .u32 S) {n : Nat} (hn : 3048800 ≤ n) : ref31_Card n a l S = some (cardF (sll a) (gL l) S : Int) := by
  obtain ⟨n, rfl⟩ : ∃ j, n = j + 1 := ⟨n - 1, by omega⟩
  have ha1 := ha.1
  unfold ref31_Card cardF
  rw [at1_succ]
  refine Eq.trans (card31_l3 hl hS (by omega) 32 0 256 n rfl (by omega) (by omega)) ?_
  simp only [withK]
  refine Eq.trans (card31_l8 ha hl hS (by omega) (sll a) [] n _ rfl (prodF_le _ _ _ (by omega)) (by omega)) ?_
  rw [show ([] : List EX).length = 0 from rfl]
  generalize scalF (sll a) (gL l) (wl S (sll a) 0) (prodF S (gL l) 32 0 256) = q
  by_cases h0 : q = 0
  · subst h0; rfl
  · rw [beqF (by omega), cond_false]; congr 1; omega
theorem within31_l3 {n : Nat} (hn : 3048700 ≤ n) {a : Option (List EX)} (ha : wSl W_E_api_Expr a) {S : Int} (hS : wI .u32 S) {K : Option (List Int) → Option (Option (List Int))} : ∀ (l : List EX) (m : Nat) (p : List EX) (s : Option (List Int)), sll a = p ++ l → (sll s).length ≤ p.length → l.length < m →
    ref31_Within_l3 n a S K m s (p.length : Int) = K (if wl S l p.length = [] then s else some (sll s ++ wl S l p.length))
  | [], m, p, s, he, _, hm => by
    obtain ⟨m, rfl⟩ : ∃ j, m = j + 1 := ⟨m - 1, by omega⟩
    rw [List.append_nil] at he
    cases s <;> (rw [ref31_Within_l3, dF (by rw [he]; omega), cond_false]; rfl)
  | z :: l, m, p, s, he, hs, hm => by
    obtain ⟨m, rfl⟩ : ∃ j, m = j + 1 := ⟨m - 1, by omega⟩
    have ha1 := ha.1
    have hlen : (sll a).length = p.length + (l.length + 1) := by rw [he]; simp
    rw [List.length_cons] at hm
    have hix : idx (sll a) (p.length : Int) = some z := by rw [he, idx_nat]; simp
    have hz : W_E_api_Expr z := ha.2 z (by rw [he]; simp)
    have hr := fun s hs => within31_l3 hn ha hS (K := K) l m (p ++ [z]) s (by rw [he]; simp) hs (by omega)
    rw [show (p ++ [z]).length = p.length + 1 by simp] at hr
    have hin := ref31_In_ok hz hS (n := n) (by omega)
    have fin : okS S (relE z) = true → K (if wl S l (p.length + 1) = [] then some (sll s ++ [(p.length : Int)]) else some (sll (some (sll s ++ [(p.length : Int)])) ++ wl S l (p.length + 1))) = K (if wl S (z :: l) p.length = [] then s else some (sll s ++ wl S (z :: l) p.length)) := fun hok => by
      rw [wl, hok, cond_true, if_neg (List.cons_ne_nil _ _)]
      by_cases hl : wl S l (p.length + 1) = []
      · rw [if_pos hl, hl]
      · rw [if_neg hl]; show K (some ((sll s ++ [(p.length : Int)]) ++ _)) = _; simp
    have e1 := hr (some (sll s ++ [(p.length : Int)])) (by show (sll s ++ [(p.length : Int)]).length ≤ _; simp; omega)
    have e0 := hr s (by omega)
    cases hok : okS S (relE z) with
    | true =>
      rw [hok] at hin
      rw [fin hok] at e1
      cases s with
      | none =>
        rw [ref31_Within_l3, dT (by omega), cond_true, hix, Option.bind_some]
        rw [show ref31_In n (api_Expr.mk ((un_api_Expr z).fKind) ((un_api_Expr z).fRel) ((un_api_Expr z).fCol) (api_Value.mk (((un_api_Expr z).fConst).fKind) (((un_api_Expr z).fConst).fInt) (((un_api_Expr z).fConst).fFloat) (((un_api_Expr z).fConst).fText)) ((un_api_Expr z).fKids)) S = _ from hin, Option.bind_some, cond_true, ckA_ok (by simp) (by omega), Option.bind_some, wrapN (by omega)]
        exact e1
      | some y =>
        have hs' : y.length ≤ p.length := hs
        rw [ref31_Within_l3, dT (by omega), cond_true, hix, Option.bind_some]
        rw [show ref31_In n (api_Expr.mk ((un_api_Expr z).fKind) ((un_api_Expr z).fRel) ((un_api_Expr z).fCol) (api_Value.mk (((un_api_Expr z).fConst).fKind) (((un_api_Expr z).fConst).fInt) (((un_api_Expr z).fConst).fFloat) (((un_api_Expr z).fConst).fText)) ((un_api_Expr z).fKids)) S = _ from hin, Option.bind_some, cond_true, ckA_ok (by simp; omega) (by omega), Option.bind_some, wrapN (by omega)]
        exact e1
    | false =>
      rw [hok] at hin
      rw [show wl S (z :: l) p.length = wl S l (p.length + 1) by rw [wl, hok]; rfl]
      cases s with
      | none =>
        rw [ref31_Within_l3, dT (by omega), cond_true, hix, Option.bind_some]
        rw [show ref31_In n (api_Expr.mk ((un_api_Expr z).fKind) ((un_api_Expr z).fRel) ((un_api_Expr z).fCol) (api_Value.mk (((un_api_Expr z).fConst).fKind) (((un_api_Expr z).fConst).fInt) (((un_api_Expr z).fConst).fFloat) (((un_api_Expr z).fConst).fText)) ((un_api_Expr z).fKids)) S = _ from hin, Option.bind_some, cond_false, wrapN (by omega)]
        exact e0
      | some y =>
        rw [ref31_Within_l3, dT (by omega), cond_true, hix, Option.bind_some]
        rw [show ref31_In n (api_Expr.mk ((un_api_Expr z).fKind) ((un_api_Expr z).fRel) ((un_api_Expr z).fCol) (api_Value.mk (((un_api_Expr z).fConst).fKind) (((un_api_Expr z).fConst).fInt) (((un_api_Expr z).fConst).fFloat) (((un_api_Expr z).fConst).fText)) ((un_api_Expr z).fKids)) S = _ from hin, Option.bind_some, cond_false, wrapN (by omega)]
        exact e0
theorem within31_ok {n : Nat} (hn : 3048800 ≤ n) {a : Option (List EX)} (ha : wSl W_E_api_Expr a) {S : Int} (hS : wI .u32 S) : ∃ w, ref31_Within n a S = some w ∧ sll w = wl S (sll a) 0 := by
  obtain ⟨n, rfl⟩ : ∃ k, n = k + 1 := ⟨n - 1, by omega⟩
  have ha1 := ha.1
  unfold ref31_Within
  rw [at1_succ]
  unfold withK
  have := within31_l3 (n := n) (by omega) ha hS (K := fun | none => some none | (some y3) => some (some y3)) (sll a) n [] none rfl (by simp [sll]) (by omega)
  refine ⟨if wl S (sll a) 0 = [] then none else some (sll (none : Option (List Int)) ++ wl S (sll a) 0), Eq.trans this ?_, ?_⟩
  · rw [show ([] : List EX).length = 0 from rfl]
    cases (if wl S (sll a) 0 = [] then none else some (sll (none : Option (List Int)) ++ wl S (sll a) 0)) <;> rfl
  · by_cases h : wl S (sll a) 0 = []
    · rw [if_pos h, h]; rfl
    · rw [if_neg h]; rfl
theorem ints_ok {w v : Option (List Int)} (h : sll w = sll v) (hl : (sll w).length ≤ 1048576) {n : Nat} (hn : 2000100 ≤ n) : ref01_Ints n w v = some true := by
  obtain ⟨n, rfl⟩ : ∃ k, n = k + 1 := ⟨n - 1, by omega⟩
  unfold ref01_Ints
  rw [at1_succ, h, show (((sll v).length : Int) != ((sll v).length : Int)) = false by simp, cond_false]
  simp only [withK]
  have := all_loop0 (F := fun m i => ref01_Ints_l4 n w v (fun _ => some true) m i) (l := sll w) (p := fun _ => true) (kk := some true) (e := some false) hl (m := n) (by omega) (fun m i x hi e => by
    show ref01_Ints_l4 _ _ _ _ _ _ = _
    rw [ref01_Ints_l4, dT (by omega), cond_true, idx_at hi e, Option.bind_some, ← h, idx_at hi e, Option.bind_some, show (x != x) = false by simp]
    rfl) (fun m => by
    show ref01_Ints_l4 _ _ _ _ _ _ = _
    rw [ref01_Ints_l4, dF (by omega), cond_false])
  rw [this, List.all_eq_true.2 (fun _ _ => rfl)]; rfl
theorem rows_any {l : L20} (hl : WL20 l) (rel : Int) {n : Nat} (hn : 20 ≤ n) : ∃ r : Int, guess_Rows n (gL l) rel = some r ∧ ref31_Rows n l rel = some r := by
  by_cases h : 0 ≤ rel
  · obtain ⟨i, rfl⟩ : ∃ i : Nat, rel = i := ⟨rel.toNat, by omega⟩
    exact ⟨_, guess_Rows_ok (stats_W hl) i (by omega), ref31_Rows_ok hl i (by omega)⟩
  · obtain ⟨n, rfl⟩ : ∃ k, n = k + 1 := ⟨n - 1, by omega⟩
    refine ⟨0, ?_, ?_⟩
    · unfold guess_Rows; rw [at1_succ, dT (by omega), Bool.true_or, cond_true]
    · unfold ref31_Rows; rw [at1_succ, dT (by omega), Bool.true_or, cond_true]
theorem GuessCards_big {n : Nat} (hn : 3900000 ≤ n) (hwk : law31_works n = some true) {a0 : Option (List EX)} {a1 : L20} {a2 a3 : Int} (h0 : wSl W_E_api_Expr a0) (h1 : WL20 a1) (h2 : wI .u32 a2) : law31_GuessCards (n + 1) a0 a1 a2 a3 = some true := by
  have h01 := h0.1
  unfold law31_GuessCards
  rw [at1_succ]
  obtain ⟨b, hb, _⟩ := great31_ok (n := n) (by omega) (a := a0) h0.2 h1
  rw [hb, Option.bind_some]
  cases b with
  | true => rw [cond_true, hwk]; rfl
  | false =>
    rw [cond_false, stats_ok h1 (by omega), Option.bind_some, guess_Card_ok h0 (stats_W h1) a2 (by omega), Option.bind_some, ref31_Card_ok h0 h1 h2 (by omega), Option.bind_some]
    rw [show ((((cardF (sll a0) (mapO gs (sll a1)) a2 : Nat) : Int)) == ((cardF (sll a0) (gL a1) a2 : Nat) : Int)) = true from beqT rfl, cond_true]
    obtain ⟨r, r1, r2⟩ := rows_any h1 a3 (n := n) (by omega)
    rw [show guess_Rows n (mapO gs (sll a1)) a3 = some r from r1, Option.bind_some, r2, Option.bind_some, beqT rfl, cond_true]
    obtain ⟨w, e1, q1⟩ := within_ok (n := n) (by omega) h0 a2
    obtain ⟨v, e2, q2⟩ := within31_ok (n := n) (by omega) h0 h2
    have hwl := wl_len a2 (sll a0) 0
    rw [e1, Option.bind_some, e2, Option.bind_some, ints_ok (q1.trans q2.symm) (by rw [q1]; omega) (by omega), Option.bind_some, cond_true, hwk]
    rfl
theorem GuessCards_true {n : Nat} (h : n = 4000000) {a0 : Option (List EX)} {a1 : L20} {a2 a3 : Int} (h0 : wSl W_E_api_Expr a0) (h1 : WL20 a1) (h2 : wI .u32 a2) (h3 : wI .i64 a3) : law31_GuessCards n a0 a1 a2 a3 = some true := by
  subst h
  exact GuessCards_big (n := 3999999) (by decide) works31_ok h0 h1 h2
end Go.Pl
