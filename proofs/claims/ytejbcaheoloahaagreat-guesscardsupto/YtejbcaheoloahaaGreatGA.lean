import Derived.Test.YtejbcaheoloahaaGreatHA
set_option maxRecDepth 100000
namespace Go.Pl
open Go Go.Ab
theorem all_loop {α R : Type} {F : Nat → Int → Option R} {l : List α} {p : α → Bool} {kk e : Option R} (hl : l.length ≤ 1048576)
    (hF : ∀ (m i : Nat) (x : α), (hi : i < l.length) → l[i] = x → F (m + 1) (i : Int) = bif p x then F m (IntKind.wrap .i64 ((i : Int) + 1)) else e) (hE : ∀ (m : Nat), F (m + 1) (l.length : Int) = kk) :
    ∀ (m i : Nat), i ≤ l.length → l.length - i < m → F m (i : Int) = bif (l.drop i).all p then kk else e
  | 0, i, _, h => by omega
  | m + 1, i, h, hm => by
    by_cases hi : i < l.length
    · rw [hF m i _ hi rfl, wrapN (by omega), all_loop hl hF hE m (i + 1) (by omega) (by omega), List.drop_eq_getElem_cons hi, List.all_cons]
      cases p l[i] <;> rfl
    · obtain rfl : i = l.length := by omega
      rw [hE, List.drop_length]; rfl
theorem all_loop0 {α R : Type} {F : Nat → Int → Option R} {l : List α} {p : α → Bool} {kk e : Option R} (hl : l.length ≤ 1048576) {m : Nat} (hm : 2000000 ≤ m)
    (hF : ∀ (m i : Nat) (x : α), (hi : i < l.length) → l[i] = x → F (m + 1) (i : Int) = bif p x then F m (IntKind.wrap .i64 ((i : Int) + 1)) else e) (hE : ∀ (m : Nat), F (m + 1) (l.length : Int) = kk) :
    F m 0 = bif l.all p then kk else e := by
  have := all_loop hl hF hE m 0 (by omega) (by omega)
  simpa using this
theorem map_loopM {α β R : Type} {f : α → β} {l3 : Nat → Option (List β) → Int → Option R} {l : List α} {K : Option (List β) → Option R} {b : Nat} (hb : b ≤ 1000) (hl : l.length ≤ 1048576)
    (hF : ∀ (m i : Nat) (s : Option (List β)) (x : α), (hi : i < l.length) → l[i] = x → l3 (m + 1) s (i : Int) = (ckA b (sll s ++ [f x]).length).bind fun _ => l3 m (some (sll s ++ [f x])) (IntKind.wrap .i64 ((i : Int) + 1)))
    (hE : ∀ (m : Nat) (s : Option (List β)), l3 (m + 1) s (l.length : Int) = K s) : ∀ (m i : Nat) (s : Option (List β)), i ≤ l.length → l.length - i < m → (sll s).length + (l.length - i) ≤ 1048576 → l3 m s (i : Int) = K (if l.drop i = [] then s else some (sll s ++ (l.drop i).map f))
  | 0, i, s, _, h, _ => by omega
  | m + 1, i, s, h, hm, hs => by
    by_cases hi : i < l.length
    · rw [hF m i s _ hi rfl, ckA_ok (by simp; omega) hb, Option.bind_some, wrapN (by omega), map_loopM hb hl hF hE m (i + 1) _ (by omega) (by omega) (by rw [sll_some]; simp; omega), List.drop_eq_getElem_cons hi, if_neg (List.cons_ne_nil _ _), List.map_cons, sll_some, List.append_assoc]
      by_cases hn : l.drop (i + 1) = []
      · rw [if_pos hn, hn]; rfl
      · rw [if_neg hn]; rfl
    · obtain rfl : i = l.length := by omega
      rw [hE, List.drop_length, if_pos rfl]
theorem map_loop0 {α β R : Type} {f : α → β} {l3 : Nat → Option (List β) → Int → Option R} {l : List α} {K : Option (List β) → Option R} {b : Nat} (hb : b ≤ 1000) (hl : l.length ≤ 1048576) {m : Nat} (hm : 2000000 ≤ m)
    (hF : ∀ (m i : Nat) (s : Option (List β)) (x : α), (hi : i < l.length) → l[i] = x → l3 (m + 1) s (i : Int) = (ckA b (sll s ++ [f x]).length).bind fun _ => l3 m (some (sll s ++ [f x])) (IntKind.wrap .i64 ((i : Int) + 1)))
    (hE : ∀ (m : Nat) (s : Option (List β)), l3 (m + 1) s (l.length : Int) = K s) : l3 m none 0 = K (mapO f l) := by
  have := map_loopM hb hl hF hE m 0 none (by omega) (by omega) (by show 0 + _ ≤ _; omega)
  rw [show ((0 : Nat) : Int) = 0 from rfl, List.drop_zero] at this
  rw [this]; rfl
theorem idx_at {α : Type} {l : List α} {i : Nat} {x : α} (hi : i < l.length) (e : l[i] = x) : idx l (i : Int) = some x := by
  rw [idx_nat, List.getElem?_eq_getElem hi, e]
abbrev C20 := tabularyref20_Col
abbrev S20 := tabularyref20_Stat
def gc (c : C20) : stat_Col := ⟨c.fKind, c.fNulls, c.fDistinct, mapO gv (sll c.fHist), some (sll c.fSample), ⟨c.fSketch⟩⟩
def gs (s : S20) : stat_Stat := ⟨s.fRows, mapO gc (sll s.fCols)⟩
theorem gc_W {c : C20} (h : W_tabularyref20_Col c) : W_stat_Col (gc c) := ⟨h.1, h.2.1, h.2.2.1, given_W h.2.2.2.1, h.2.2.2.2.1, h.2.2.2.2.2⟩
theorem gs_W {s : S20} (h : W_tabularyref20_Stat s) : W_stat_Stat (gs s) := by
  refine ⟨h.1, by show (sll (mapO gc _)).length ≤ _; rw [sll_mapO, List.length_map]; exact h.2.1, fun x hx => ?_⟩
  have hx' : x ∈ sll (mapO gc (sll s.fCols)) := hx
  rw [sll_mapO] at hx'
  obtain ⟨c, hc, rfl⟩ := List.mem_map.1 hx'
  exact gc_W (h.2.2 c hc)
def greatC (c : C20) : Bool := decide (((sll c.fHist).length : Int) > 60) || decide (((sll c.fSample).length : Int) > 70)
def greatS (s : S20) : Bool := decide (((sll s.fCols).length : Int) > 12) || (sll s.fCols).any greatC
theorem great_ok {s : S20} (hs : W_tabularyref20_Stat s) {n : Nat} (h : 2000010 ≤ n) : law20_Great n s = some (greatS s) := by
  obtain ⟨n, rfl⟩ : ∃ k, n = k + 1 := ⟨n - 1, by omega⟩
  unfold law20_Great greatS
  rw [at1_succ]
  cases hd : decide (((sll s.fCols).length : Int) > 12) with
  | true => rfl
  | false =>
    rw [cond_false, Bool.false_or]
    show law20_Great_l4 n s (fun _ => some false) n 0 = _
    rw [all_loop0 (F := fun m i => law20_Great_l4 n s (fun _ => some false) m i) (l := sll s.fCols) (p := fun c => !greatC c) (kk := some false) (e := some true) hs.2.1 (by omega) (fun m i x hi e => ?_) (fun m => ?_)]
    · have : (sll s.fCols).any greatC = !(sll s.fCols).all fun c => !greatC c := by rw [List.any_eq_not_all_not]
      rw [this]
      cases (sll s.fCols).all fun c => !greatC c <;> rfl
    · show law20_Great_l4 _ _ _ _ _ = _
      rw [law20_Great_l4, dT (by omega), cond_true, idx_at hi e, Option.bind_some]
      show (bif greatC x then _ else _) = _
      cases greatC x <;> rfl
    · show law20_Great_l4 _ _ _ _ _ = _
      rw [law20_Great_l4, dF (by omega), cond_false]
theorem given20_ok {s : S20} (hs : W_tabularyref20_Stat s) {n : Nat} (h : 2000020 ≤ n) : law20_Given n s = some (gs s) := by
  obtain ⟨n, rfl⟩ : ∃ k, n = k + 1 := ⟨n - 1, by omega⟩
  unfold law20_Given
  rw [at1_succ]
  unfold withK
  refine Eq.trans (map_loop0 (f := gc) (l := sll s.fCols) (l3 := fun m st i => law20_Given_l3 n s _ m st i) (K := fun | none => some (stat_Stat.mk s.fRows none) | (some y3) => some (stat_Stat.mk s.fRows (some y3))) (b := 136) (by omega) hs.2.1 (m := n) (by omega) (fun m i st x hi e => ?_) (fun m st => ?_)) ?_
  · · have hx : W_tabularyref20_Col x := hs.2.2 x (by rw [← e]; exact List.getElem_mem hi)
      have key : (x : C20) → W_tabularyref20_Col x → (K : Option (List api_Value) → Option stat_Stat) → (bif (sll x.fSample).isEmpty then (ckA 40 ([] : List api_Value).length).bind fun _ => K (some ([] : List api_Value)) else (ckA 40 (([] : List api_Value) ++ (sll x.fSample)).length).bind fun _ => K (some (([] : List api_Value) ++ (sll x.fSample)))) = K (some (sll x.fSample)) := fun x hx K => by
        cases hs : sll x.fSample with
        | nil => rw [List.isEmpty_nil, cond_true, ckA_ok (by simp) (by omega)]; rfl
        | cons v l =>
          have := hx.2.2.2.2.1.1
          rw [hs] at this
          rw [List.isEmpty_cons, cond_false, ckA_ok (by rw [List.nil_append]; omega) (by omega)]; rfl
      cases st with
      | none =>
        show law20_Given_l3 _ _ _ _ _ _ = _
        rw [law20_Given_l3, dT (by omega), cond_true, idx_at hi e, Option.bind_some, given_ok hx.2.2.2.1 (by omega), Option.bind_some]
        exact key x hx (fun sm => (ckA 136 ([(stat_Col.mk x.fKind x.fNulls x.fDistinct (mapO gv (sll x.fHist)) sm (hll_Sketch.mk x.fSketch))] : List stat_Col).length).bind fun _ => law20_Given_l3 n s _ m (some ([(stat_Col.mk x.fKind x.fNulls x.fDistinct (mapO gv (sll x.fHist)) sm (hll_Sketch.mk x.fSketch))] : List stat_Col)) (IntKind.wrap .i64 ((i : Int) + 1)))
      | some y =>
        show law20_Given_l3 _ _ _ _ _ _ = _
        rw [law20_Given_l3, dT (by omega), cond_true, idx_at hi e, Option.bind_some, given_ok hx.2.2.2.1 (by omega), Option.bind_some]
        exact key x hx (fun sm => (ckA 136 (y ++ ([(stat_Col.mk x.fKind x.fNulls x.fDistinct (mapO gv (sll x.fHist)) sm (hll_Sketch.mk x.fSketch))] : List stat_Col)).length).bind fun _ => law20_Given_l3 n s _ m (some (y ++ ([(stat_Col.mk x.fKind x.fNulls x.fDistinct (mapO gv (sll x.fHist)) sm (hll_Sketch.mk x.fSketch))] : List stat_Col))) (IntKind.wrap .i64 ((i : Int) + 1)))
  · cases st with
    | none =>
      show law20_Given_l3 _ _ _ _ _ _ = _
      rw [law20_Given_l3, dF (by omega), cond_false]
    | some y =>
      show law20_Given_l3 _ _ _ _ _ _ = _
      rw [law20_Given_l3, dF (by omega), cond_false]
  · unfold gs
    cases mapO gc (sll s.fCols) <;> rfl
theorem ckI_ok {n : Nat} {i : Int} (h : 0 ≤ i ∧ i < n) : ckI n i = some () := by unfold ckI; rw [if_pos h]
end Go.Pl
set_option maxRecDepth 100000
namespace Go.Pl
open Go Go.Ab
abbrev EX := E_api_Expr
def szL (x : api_Expr) : Nat := PV.bulkL (R_api_Expr x)
theorem sz_kid {x : api_Expr} {z : EX} (h : z ∈ sll x.fKids) : szL (un_api_Expr z) < szL x := by
  have e : szL (un_api_Expr z) = PV.bulkL (R_E_api_Expr z) := by rw [R_un_api_Expr z]; rfl
  rw [e]
  unfold szL R_api_Expr
  cases hk : x.fKids with
  | none => rw [hk] at h; cases h
  | some l =>
    rw [hk] at h
    have := bulkL_mem (rows := l.map R_E_api_Expr) (r := R_E_api_Expr z) (List.mem_map_of_mem h)
    simp only [PV.bulkL, PV.bulk, encSl]
    omega
theorem W_kid {x : api_Expr} (hw : W_api_Expr x) {z : EX} (h : z ∈ sll x.fKids) : W_api_Expr (un_api_Expr z) := by
  have hs := sz_kid h
  have h2 := hw.2
  refine ⟨?_, by unfold szL at hs; omega⟩
  have h1 := hw.1
  unfold R_api_Expr at h1
  rw [← R_un_api_Expr z]
  cases hk : x.fKids with
  | none => rw [hk] at h; cases h
  | some l =>
    rw [hk] at h h1
    generalize hp : ([.int .i64 x.fKind, .int .i64 x.fRel, .int .i64 x.fCol, .int .i64 x.fConst.fKind, .int .i64 x.fConst.fInt, .flt .f64 x.fConst.fFloat, .str x.fConst.fText, encSl R_E_api_Expr (some l)] : List PV) = p at h1
    cases h1 with
    | nil a b c v w => simp [encSl] at hp
    | some a b c v rows w hl hr =>
      simp only [List.cons.injEq, and_true, encSl, PV.sl.injEq] at hp
      obtain ⟨_, _, _, _, _, _, _, e⟩ := hp
      subst e
      exact hr _ (List.mem_map_of_mem h)
theorem kids_len {x : api_Expr} (hw : W_api_Expr x) : (sll x.fKids).length ≤ 1048576 := by
  have h1 := hw.1
  unfold R_api_Expr at h1
  cases hk : x.fKids with
  | none => simp [sll]
  | some l =>
    rw [hk] at h1
    generalize hp : ([.int .i64 x.fKind, .int .i64 x.fRel, .int .i64 x.fCol, .int .i64 x.fConst.fKind, .int .i64 x.fConst.fInt, .flt .f64 x.fConst.fFloat, .str x.fConst.fText, encSl R_E_api_Expr (some l)] : List PV) = p at h1
    cases h1 with
    | nil a b c v w => simp [encSl] at hp
    | some a b c v rows w hl hr =>
      simp only [List.cons.injEq, and_true, encSl, PV.sl.injEq] at hp
      obtain ⟨_, _, _, _, _, _, _, e⟩ := hp
      subst e
      show l.length ≤ _
      simpa using hl
def ownR (x : api_Expr) : Int := bif ((x.fKind == 1) && (decide (x.fRel ≥ 0))) && (decide (x.fRel ≤ 31)) then iShl .u32 1 (IntKind.wrap .u64 x.fRel) else 0
noncomputable def relD : Nat → api_Expr → Int
  | 0, _ => 0
  | k + 1, x => (sll x.fKids).foldl (fun acc z => iOr .u32 acc (relD k (un_api_Expr z))) (ownR x)
theorem rels_ok : ∀ (s : Nat) (x : api_Expr), szL x ≤ s → W_api_Expr x → ∀ k m n, s ≤ k → s < m → 2000020 + s ≤ n → expr_Rels_t m n x = some (relD k x)
  | 0, x, hs, hw, k, m, n, hk, hm, hn => by
    exfalso
    unfold szL R_api_Expr at hs
    simp only [PV.bulkL, PV.bulk] at hs
    omega
  | s + 1, x, hs, hw, k, m, n, hk, hm, hn => by
    obtain ⟨k, rfl⟩ : ∃ j, k = j + 1 := ⟨k - 1, by omega⟩
    obtain ⟨m, rfl⟩ : ∃ j, m = j + 1 := ⟨m - 1, by omega⟩
    obtain ⟨n, rfl⟩ : ∃ j, n = j + 1 := ⟨n - 1, by omega⟩
    show expr_Rels_f (expr_Rels_t m) (n + 1) x = _
    unfold expr_Rels_f
    rw [at1_succ]
    have hown : ∀ K3 : Int → Option Int, withK (fun k3 => bif (((x.fKind == 1) && (decide (x.fRel ≥ 0))) && (decide (x.fRel ≤ 31))) then (ckN (IntKind.wrap .u64 x.fRel)).bind fun _ => k3 (iShl .u32 1 (IntKind.wrap .u64 x.fRel)) else k3 0) K3 = K3 (ownR x) := fun K3 => by
      unfold ownR
      simp only [withK]
      cases hq : (((x.fKind == 1) && (decide (x.fRel ≥ 0))) && (decide (x.fRel ≤ 31))) with
      | false => rfl
      | true =>
        rw [Bool.and_eq_true, Bool.and_eq_true, decide_eq_true_eq, decide_eq_true_eq] at hq
        rw [cond_true, cond_true]
        have : ckN (IntKind.wrap .u64 x.fRel) = some () := by rw [wrapU (by omega) (by omega)]; unfold ckN; split <;> first | rfl | omega
        rw [this, Option.bind_some]
    refine Eq.trans (hown _) ?_
    have hl : ∀ K : Int → Option Int, expr_Rels_l5 n (expr_Rels_t m) x K n 0 (ownR x) = rangeS (fun (z : EX) i (acc : Int) rec => (expr_Rels_t m n (un_api_Expr z)).bind fun r => rec (iOr .u32 acc r)) K (sll x.fKids) 0 (ownR x) := fun K =>
      loop_sl (F := fun m' (acc : Int) i => expr_Rels_l5 n (expr_Rels_t m) x K m' i acc) (x := x.fKids) (kids_len hw) (k := K) (fun m' i s => rfl) (by omega) (ownR x)
    show withK (fun k7 => expr_Rels_l5 n (expr_Rels_t m) x k7 n 0 (ownR x)) (fun y6 => some y6) = _
    unfold withK
    refine Eq.trans (hl _) ?_
    have gen : ∀ (l : List EX) (i : Nat) (acc : Int), (∀ z, z ∈ l → z ∈ sll x.fKids) → rangeS (fun (z : EX) i (acc : Int) rec => (expr_Rels_t m n (un_api_Expr z)).bind fun r => rec (iOr .u32 acc r)) (fun y6 => some y6) l i acc = some (l.foldl (fun acc z => iOr .u32 acc (relD k (un_api_Expr z))) acc) := by
      intro l
      induction l with
      | nil => intro i acc _; rfl
      | cons z l ih =>
        intro i acc hz
        have hz0 := hz z (by simp)
        have := sz_kid hz0
        simp only [rangeS]
        rw [rels_ok s (un_api_Expr z) (by omega) (W_kid hw hz0) k m n (by omega) (by omega) (by omega), Option.bind_some, ih (i + 1) _ (fun y hy => hz y (List.mem_cons_of_mem _ hy))]
        rfl
    exact gen _ 0 _ (fun z hz => hz)
noncomputable def relE (z : EX) : Int := relD 1048576 (un_api_Expr z)
theorem relsE_ok {z : EX} (hw : W_E_api_Expr z) {n : Nat} (h : 3048600 ≤ n) : expr_Rels n (un_api_Expr z) = some (relE z) := by
  have hw' : W_api_Expr (un_api_Expr z) := by
    have := hw
    unfold W_E_api_Expr at this
    rw [R_un_api_Expr z] at this
    exact this
  exact rels_ok 1048576 _ hw'.2 hw' _ n n (Nat.le_refl _) (by omega) (by omega)
def okS (S r : Int) : Bool := ((iAndNot .u32 r S) == 0) && ((r != 0) || ((iAnd .u32 S 1) == 1))
noncomputable def wl (S : Int) : List EX → Nat → List Int
  | [], _ => []
  | z :: l, i => bif okS S (relE z) then (i : Int) :: wl S l (i + 1) else wl S l (i + 1)
theorem within_l3 {n : Nat} (hn : 3048600 ≤ n) {a : Option (List EX)} (ha : wSl W_E_api_Expr a) {S : Int} {K : Option (List Int) → Option (Option (List Int))} : ∀ (l : List EX) (m : Nat) (p : List EX) (s : Option (List Int)), sll a = p ++ l → (sll s).length ≤ p.length → l.length < m →
    guess_Within_l3 n a S K m (p.length : Int) s = K (if wl S l p.length = [] then s else some (sll s ++ wl S l p.length))
  | [], m, p, s, he, _, hm => by
    obtain ⟨m, rfl⟩ : ∃ j, m = j + 1 := ⟨m - 1, by omega⟩
    rw [List.append_nil] at he
    cases s <;> (rw [guess_Within_l3, dF (by rw [he]; omega), cond_false]; rfl)
  | z :: l, m, p, s, he, hs, hm => by
    obtain ⟨m, rfl⟩ : ∃ j, m = j + 1 := ⟨m - 1, by omega⟩
    have ha1 := ha.1
    have hlen : (sll a).length = p.length + (l.length + 1) := by rw [he]; simp
    rw [List.length_cons] at hm
    have hix : idx (sll a) (p.length : Int) = some z := by rw [he, idx_nat]; simp
    have hz : W_E_api_Expr z := ha.2 z (by rw [he]; simp)
    have hr := fun s hs => within_l3 hn ha (S := S) (K := K) l m (p ++ [z]) s (by rw [he]; simp) hs (by omega)
    rw [show (p ++ [z]).length = p.length + 1 by simp] at hr
    have hrel := relsE_ok hz (n := n) (by omega)
    cases hok : okS S (relE z) with
    | true =>
      have hok' : (((iAndNot .u32 (relE z) S) == 0) && ((relE z != 0) || ((iAnd .u32 S 1) == 1))) = true := hok
      have e := hr (some (sll s ++ [(p.length : Int)])) (by show (sll s ++ [(p.length : Int)]).length ≤ _; simp; omega)
      have fin : K (if wl S l (p.length + 1) = [] then some (sll s ++ [(p.length : Int)]) else some (sll (some (sll s ++ [(p.length : Int)])) ++ wl S l (p.length + 1))) = K (if wl S (z :: l) p.length = [] then s else some (sll s ++ wl S (z :: l) p.length)) := by
        rw [wl, hok, cond_true, if_neg (List.cons_ne_nil _ _)]
        by_cases hl : wl S l (p.length + 1) = []
        · rw [if_pos hl, hl]
        · rw [if_neg hl]; show K (some ((sll s ++ [(p.length : Int)]) ++ _)) = _; simp
      rw [fin] at e
      cases s with
      | none =>
        rw [guess_Within_l3, dT (by omega), cond_true, hix, Option.bind_some]
        show ((expr_Rels n (un_api_Expr z)).bind _) = _
        rw [hrel, Option.bind_some, hok', cond_true, ckA_ok (by simp) (by omega), Option.bind_some, wrapN (by omega)]
        exact e
      | some s =>
        have hs' : s.length ≤ p.length := hs
        rw [guess_Within_l3, dT (by omega), cond_true, hix, Option.bind_some]
        show ((expr_Rels n (un_api_Expr z)).bind _) = _
        rw [hrel, Option.bind_some, hok', cond_true, ckA_ok (by simp; omega) (by omega), Option.bind_some, wrapN (by omega)]
        exact e
    | false =>
      have hok' : (((iAndNot .u32 (relE z) S) == 0) && ((relE z != 0) || ((iAnd .u32 S 1) == 1))) = false := hok
      have e := hr s (by omega)
      rw [wl, hok, cond_false]
      cases s with
      | none =>
        rw [guess_Within_l3, dT (by omega), cond_true, hix, Option.bind_some]
        show ((expr_Rels n (un_api_Expr z)).bind _) = _
        rw [hrel, Option.bind_some, hok', cond_false, wrapN (by omega)]
        exact e
      | some s =>
        rw [guess_Within_l3, dT (by omega), cond_true, hix, Option.bind_some]
        show ((expr_Rels n (un_api_Expr z)).bind _) = _
        rw [hrel, Option.bind_some, hok', cond_false, wrapN (by omega)]
        exact e
theorem within_ok {n : Nat} (hn : 3048610 ≤ n) {a : Option (List EX)} (ha : wSl W_E_api_Expr a) (S : Int) : ∃ w, guess_Within n a S = some w ∧ sll w = wl S (sll a) 0 := by
  obtain ⟨n, rfl⟩ : ∃ k, n = k + 1 := ⟨n - 1, by omega⟩
  have ha1 := ha.1
  unfold guess_Within
  rw [at1_succ]
  unfold withK
  refine ⟨if wl S (sll a) 0 = [] then none else some (wl S (sll a) 0), ?_, ?_⟩
  · refine Eq.trans (within_l3 (n := n) (by omega) ha (sll a) n [] none rfl (Nat.le_refl _) (by omega)) ?_
    by_cases h : wl S (sll a) 0 = []
    · rw [if_pos (show wl S (sll a) ([] : List EX).length = [] from h), if_pos h]
    · rw [if_neg (show wl S (sll a) ([] : List EX).length ≠ [] from h), if_neg h]; rfl
  · by_cases h : wl S (sll a) 0 = []
    · rw [if_pos h, h]; rfl
    · rw [if_neg h]; rfl
end Go.Pl
set_option maxRecDepth 100000
namespace Go.Pl
open Go Go.Ab
def capF (n : Nat) : Nat := if n ≤ 18446744073709551615 then n else 18446744073709551615
def shareF (a n d : Nat) : Nat := if a * n = 0 then 0 else if d ≤ a * n / 18446744073709551616 then 18446744073709551615 else a * n / d
def scaleF (a f : Nat) : Nat := shareF a f 1048576
theorem capF_le (n : Nat) : capF n ≤ 18446744073709551615 := by unfold capF; split <;> omega
theorem shareF_le (a n d : Nat) : shareF a n d ≤ 18446744073709551615 := by
  unfold shareF
  split
  · omega
  · split
    · omega
    · rename_i h1 h2
      have h3 : a * n < d * 18446744073709551616 := (Nat.div_lt_iff_lt_mul (by decide)).1 (Nat.lt_of_not_le h2)
      have h4 : a * n / d < 18446744073709551616 := Nat.div_lt_of_lt_mul h3
      omega
theorem fixed_Share_ok {a b d : Nat} (ha : a ≤ 18446744073709551615) (hb : b ≤ 18446744073709551615) (hd : d ≤ 18446744073709551615) {n : Nat} (hn : 20 ≤ n) : fixed_Share n (a : Int) (b : Int) (d : Int) = some (shareF a b d : Int) := by
  obtain ⟨n, rfl⟩ : ∃ k, n = k + 1 := ⟨n - 1, by omega⟩
  unfold fixed_Share shareF
  rw [at1_succ, mul64_ok (by omega) (by omega) (by omega), Option.bind_some]
  generalize a * b = p
  by_cases h0 : p = 0
  · subst h0; rfl
  · have e1 : ((((p / 18446744073709551616 : Nat) : Int) == 0) && (((p % 18446744073709551616 : Nat) : Int) == 0)) = false := by
      rw [Bool.and_eq_false_iff]
      by_cases h : p / 18446744073709551616 = 0
      · right
        have : ((p % 18446744073709551616 : Nat) : Int) ≠ 0 := by omega
        exact beq_eq_false_iff_ne.2 this
      · left
        have : ((p / 18446744073709551616 : Nat) : Int) ≠ 0 := by omega
        exact beq_eq_false_iff_ne.2 this
    simp only
    rw [e1, cond_false, if_neg h0]
    by_cases h1 : d ≤ p / 18446744073709551616
    · rw [dT (by exact_mod_cast h1), cond_true, if_pos h1]
      obtain ⟨n, rfl⟩ : ∃ k, n = k + 1 := ⟨n - 1, by omega⟩
      rfl
    · rw [dF (by exact_mod_cast h1), cond_false, if_neg h1]
      obtain ⟨r, hr⟩ := div64_ok (lo := p % 18446744073709551616) (hi := p / 18446744073709551616) (y := d) (Nat.mod_lt _ (by decide)) (by omega) (by omega) (n := n) (by omega)
      rw [hr, Option.bind_some]
      have := Nat.div_add_mod p 18446744073709551616
      rw [Nat.mul_comm] at this
      rw [this]
theorem fixed_Scale_ok {a b : Nat} (ha : a ≤ 18446744073709551615) (hb : b ≤ 18446744073709551615) {n : Nat} (hn : 21 ≤ n) : fixed_Scale n (a : Int) (b : Int) = some (scaleF a b : Int) := by
  obtain ⟨n, rfl⟩ : ∃ k, n = k + 1 := ⟨n - 1, by omega⟩
  unfold fixed_Scale scaleF
  rw [at1_succ, show (1048576 : Int) = ((1048576 : Nat) : Int) from rfl, fixed_Share_ok ha hb (by decide) (by omega)]
  rfl
theorem fixed_Add_ok {a b : Nat} (ha : a ≤ 18446744073709551615) (hb : b ≤ 18446744073709551615) {n : Nat} (hn : 2 ≤ n) : fixed_Add n (a : Int) (b : Int) = some (capF (a + b) : Int) := by
  obtain ⟨n, rfl⟩ : ∃ k, n = k + 2 := ⟨n - 2, by omega⟩
  unfold fixed_Add
  rw [at1_succ]
  unfold fixed_capped_uint64
  rw [at1_succ, Int.toNat_natCast, Int.toNat_natCast]
  unfold capF
  by_cases h : a + b ≤ 18446744073709551615
  · rw [if_pos h, show (a + b) / Extern.MathBitsCarry.m64 = 0 from Nat.div_eq_of_lt (by show a + b < 18446744073709551616; omega), show (a + b) % Extern.MathBitsCarry.m64 = a + b from Nat.mod_eq_of_lt (by show a + b < 18446744073709551616; omega)]
    rfl
  · have : (a + b) / Extern.MathBitsCarry.m64 = 1 := by
      show (a + b) / 18446744073709551616 = 1
      omega
    rw [if_neg h, this]
    rfl
theorem fixed_Mul_ok {a b : Nat} (ha : a ≤ 18446744073709551615) (hb : b ≤ 18446744073709551615) {n : Nat} (hn : 2 ≤ n) : fixed_Mul n (a : Int) (b : Int) = some (capF (a * b) : Int) := by
  obtain ⟨n, rfl⟩ : ∃ k, n = k + 2 := ⟨n - 2, by omega⟩
  unfold fixed_Mul
  rw [at1_succ, mul64_ok (by omega) (by omega) (by omega), Option.bind_some]
  unfold fixed_capped_uint64 capF
  rw [at1_succ]
  generalize a * b = p
  by_cases h : p ≤ 18446744073709551615
  · rw [if_pos h, show p / 18446744073709551616 = 0 from Nat.div_eq_of_lt (by omega), show p % 18446744073709551616 = p from Nat.mod_eq_of_lt (by omega)]
    rfl
  · have : ((p / 18446744073709551616 : Nat) : Int) ≠ 0 := by omega
    rw [if_neg h, show (((p / 18446744073709551616 : Nat) : Int) != 0) = true by simpa using this]
    rfl
theorem fixed_Sub_ok {a b : Nat} (ha : a ≤ 18446744073709551615) {n : Nat} (hn : 1 ≤ n) : fixed_Sub n (a : Int) (b : Int) = some ((a - b : Nat) : Int) := by
  obtain ⟨n, rfl⟩ : ∃ k, n = k + 1 := ⟨n - 1, by omega⟩
  unfold fixed_Sub
  rw [at1_succ]
  by_cases h : b > a
  · rw [dT (by exact_mod_cast h), cond_true, show a - b = 0 by omega]; rfl
  · rw [dF (by simpa using h), cond_false, wrapU (by omega) (by omega), show (a : Int) - b = ((a - b : Nat) : Int) by omega]
theorem fixed_Inverse_ok {a : Nat} {n : Nat} (hn : 2 ≤ n) : fixed_Inverse n (a : Int) = some ((1048576 - a : Nat) : Int) := by
  obtain ⟨n, rfl⟩ : ∃ k, n = k + 1 := ⟨n - 1, by omega⟩
  unfold fixed_Inverse
  rw [at1_succ, show (1048576 : Int) = ((1048576 : Nat) : Int) from rfl, fixed_Sub_ok (by decide) (by omega)]
  rfl
theorem shareF_unit {n d : Nat} (h : n ≤ d) (hd : 0 < d) : shareF 1048576 n d ≤ 1048576 := by
  unfold shareF
  split
  · omega
  · split
    · rename_i h1 h2
      exfalso
      have : 1048576 * n / 18446744073709551616 < d := by
        rw [Nat.div_lt_iff_lt_mul (by decide)]
        omega
      exact absurd h2 (by omega)
    · exact Nat.div_le_of_le_mul (by rw [Nat.mul_comm d]; exact Nat.mul_le_mul_left _ h)
theorem scaleF_eq {a f : Nat} (ha : a ≤ 18446744073709551615) (hf : f ≤ 1048576) : scaleF a f = a * f / 1048576 := by
  unfold scaleF shareF
  have h : a * f ≤ 18446744073709551615 * 1048576 := Nat.mul_le_mul ha hf
  split
  · rename_i h0; rw [h0]
  · rw [if_neg]
    intro h1
    have : a * f / 18446744073709551616 < 1048576 := by
      rw [Nat.div_lt_iff_lt_mul (by decide)]
      have : 18446744073709551615 * 1048576 < 1048576 * 18446744073709551616 := by decide
      omega
    omega
theorem scaleF_le {a f : Nat} (ha : a ≤ 18446744073709551615) (hf : f ≤ 1048576) : scaleF a f ≤ a := by
  rw [scaleF_eq ha hf]
  exact Nat.div_le_of_le_mul (by rw [Nat.mul_comm 1048576]; exact Nat.mul_le_mul_left _ hf)
theorem or_unit {a b : Nat} (ha : a ≤ 1048576) (hb : b ≤ 1048576) : a + b - scaleF a b ≤ 1048576 ∧ scaleF a b ≤ a + b := by
  have e := scaleF_eq (a := a) (f := b) (by omega) hb
  have h1 := scaleF_le (a := a) (f := b) (by omega) hb
  refine ⟨?_, by omega⟩
  rw [e]
  have h2 : (a + b - 1048576) ≤ a * b / 1048576 := by
    rw [Nat.le_div_iff_mul_le (by decide)]
    have h : (0 : Int) ≤ (1048576 - (a : Int)) * (1048576 - (b : Int)) := Int.mul_nonneg (by omega) (by omega)
    rw [Int.sub_mul, Int.mul_sub, Int.mul_sub] at h
    have e2 : ((a * b : Nat) : Int) = (a : Int) * b := Int.natCast_mul a b
    generalize (a : Int) * b = z at h e2
    generalize a * b = y at e2 ⊢
    omega
  omega
end Go.Pl
set_option maxRecDepth 100000
namespace Go.Pl
open Go Go.Ab
def kidsE (k : Int) : Int := if k = 1 ∨ k = 2 then 0 else if k = 6 ∨ k = 12 ∨ k = 13 then 1 else if 3 ≤ k ∧ k ≤ 11 then 2 else -1
theorem expr_kids_ok (k : Int) {n : Nat} (hn : 1 ≤ n) : expr_kids n k = some (kidsE k) := by
  obtain ⟨n, rfl⟩ : ∃ j, n = j + 1 := ⟨n - 1, by omega⟩
  unfold expr_kids
  rw [at1_succ]
  simp only [withK]
  have ne : ∀ {c : Int}, k ≠ c → (k == c) = false := fun h => beq_eq_false_iff_ne.2 h
  by_cases h1 : k = 1
  · subst h1; rfl
  by_cases h2 : k = 2
  · subst h2; rfl
  by_cases h6 : k = 6
  · subst h6; rfl
  by_cases h12 : k = 12
  · subst h12; rfl
  by_cases h13 : k = 13
  · subst h13; rfl
  by_cases h3 : k = 3
  · subst h3; rfl
  by_cases h4 : k = 4
  · subst h4; rfl
  by_cases h5 : k = 5
  · subst h5; rfl
  by_cases h7 : k = 7
  · subst h7; rfl
  by_cases h8 : k = 8
  · subst h8; rfl
  by_cases h9 : k = 9
  · subst h9; rfl
  by_cases h10 : k = 10
  · subst h10; rfl
  by_cases h11 : k = 11
  · subst h11; rfl
  rw [ne h1, ne h2, ne h6, ne h12, ne h13, ne h3, ne h4, ne h5, ne h7, ne h8, ne h9, ne h10, ne h11]
  unfold kidsE
  rw [if_neg (by omega), if_neg (by omega), if_neg (by omega)]
  rfl
def inE (k : Int) : Bool := decide (k ≥ 0) && decide (k ≤ 31)
def fieldsE (x : api_Expr) : Bool := !((x.fKind != 1) && ((x.fRel != 0) || (x.fCol != 0))) && inE x.fRel && inE x.fCol && vRight x.fConst && ((x.fKind == 2) || (x.fConst.fKind == 0))
theorem expr_fields_ok {x : api_Expr} (hc : W_api_Value x.fConst) {n : Nat} (hn : 5 ≤ n) : expr_fields n x = some (fieldsE x) := by
  obtain ⟨n, rfl⟩ : ∃ j, n = j + 1 := ⟨n - 1, by omega⟩
  have e1 : ∀ k, expr_fields_1 n k = some (inE k) := fun k => by
    obtain ⟨n, rfl⟩ : ∃ j, n = j + 1 := ⟨n - 1, by omega⟩
    rfl
  unfold expr_fields fieldsE
  rw [at1_succ, e1, e1, value_Right_ok _ (by omega)]
  cases ((x.fKind != 1) && ((x.fRel != 0) || (x.fCol != 0))) <;> cases inE x.fRel <;> cases inE x.fCol <;> cases vRight x.fConst <;> rfl
def nodeE (x : api_Expr) : Bool := (kidsE x.fKind == ((sll x.fKids).length : Int)) && fieldsE x
def sumO {α : Type} (f : α → Option Nat) : List α → Option Nat
  | [] => some 0
  | z :: l => match f z, sumO f l with
    | some a, some b => some (a + b)
    | _, _ => none
noncomputable def frmE : Nat → api_Expr → Option Nat
  | 0, _ => none
  | r + 1, x => bif nodeE x then (sumO (fun z => frmE r (un_api_Expr z)) (sll x.fKids)).map (· + 1) else none
theorem frmE_pos {r : Nat} {x : api_Expr} {c : Nat} (h : frmE r x = some c) : 1 ≤ c := by
  cases r with
  | zero => cases h
  | succ r =>
    unfold frmE at h
    cases hn : nodeE x with
    | false => rw [hn] at h; cases h
    | true =>
      rw [hn, cond_true, Option.map_eq_some_iff] at h
      obtain ⟨a, _, rfl⟩ := h
      omega
theorem sumO_mem {α : Type} {f : α → Option Nat} : ∀ {l : List α} {c : Nat}, sumO f l = some c → ∀ z, z ∈ l → ∃ a, f z = some a ∧ a ≤ c
  | [], c, h, z, hz => by cases hz
  | y :: l, c, h, z, hz => by
    unfold sumO at h
    split at h
    · rename_i a b e1 e2
      injection h with h; subst h
      rcases List.mem_cons.1 hz with rfl | hz
      · exact ⟨a, e1, by omega⟩
      · obtain ⟨d, q1, q2⟩ := sumO_mem e2 z hz
        exact ⟨d, q1, by omega⟩
    · cases h
theorem frmE_kid {r : Nat} {x : api_Expr} {c : Nat} (h : frmE (r + 1) x = some c) : nodeE x = true ∧ ∀ z, z ∈ sll x.fKids → ∃ a, frmE r (un_api_Expr z) = some a ∧ a < c := by
  unfold frmE at h
  cases hn : nodeE x with
  | false => rw [hn] at h; cases h
  | true =>
    rw [hn, cond_true, Option.map_eq_some_iff] at h
    obtain ⟨a, ha, rfl⟩ := h
    refine ⟨rfl, fun z hz => ?_⟩
    obtain ⟨b, q1, q2⟩ := sumO_mem ha z hz
    exact ⟨b, q1, by omega⟩
def leftI (o : Option Nat) (left : Int) : Int := match o with
  | some c => if (c : Int) ≤ left then left - c else -1
  | none => -1
theorem W_const {x : api_Expr} (hw : W_api_Expr x) : W_api_Value x.fConst := by
  have h1 := hw.1
  unfold R_api_Expr at h1
  generalize hp : ([.int .i64 x.fKind, .int .i64 x.fRel, .int .i64 x.fCol, .int .i64 x.fConst.fKind, .int .i64 x.fConst.fInt, .flt .f64 x.fConst.fFloat, .str x.fConst.fText, encSl R_E_api_Expr x.fKids] : List PV) = p at h1
  cases h1 with
  | nil a b c v w =>
    simp only [List.cons.injEq, PV.int.injEq, PV.flt.injEq, PV.str.injEq, true_and, and_true] at hp
    obtain ⟨_, _, _, e1, e2, e3, e4, _⟩ := hp
    obtain ⟨v1, v2, v3, v4⟩ := v
    simp only at e1 e2 e3 e4
    have : x.fConst = ⟨v1, v2, v3, v4⟩ := by
      cases hx : x.fConst with
      | mk a b c d => rw [hx] at e1 e2 e3 e4; simp only at e1 e2 e3 e4; rw [e1, e2, e3, e4]
    rw [this]; exact w.2.2.2
  | some a b c v rows w hl hr =>
    simp only [List.cons.injEq, PV.int.injEq, PV.flt.injEq, PV.str.injEq, true_and, and_true] at hp
    obtain ⟨_, _, _, e1, e2, e3, e4, _⟩ := hp
    obtain ⟨v1, v2, v3, v4⟩ := v
    simp only at e1 e2 e3 e4
    have : x.fConst = ⟨v1, v2, v3, v4⟩ := by
      cases hx : x.fConst with
      | mk a b c d => rw [hx] at e1 e2 e3 e4; simp only at e1 e2 e3 e4; rw [e1, e2, e3, e4]
    rw [this]; exact w.2.2.2
theorem count_loop {α : Type} {f : α → Option Nat} {K : Int → Option Int} {F : Nat → Int → Int → Option Int} {ks : List α} {C : α → Int → Option Int}
    (hF : ∀ m left i, F (m + 1) left i = bif decide (i < (ks.length : Int)) then (idx ks i).bind fun z => (C z left).bind fun r => bif decide (r < 0) then some (-1) else F m r (IntKind.wrap .i64 (i + 1)) else K left)
    {B : Int} (hB : B ≤ 1000) (hC : ∀ z, z ∈ ks → ∀ left, 0 ≤ left → left ≤ B → C z left = some (leftI (f z) left)) (hks : ks.length ≤ 1048576) :
    ∀ (l : List α) (m : Nat) (p : List α) (left : Int), ks = p ++ l → l.length < m → 0 ≤ left → left ≤ B →
      F m left (p.length : Int) = match sumO f l with
        | some c => if (c : Int) ≤ left then K (left - c) else some (-1)
        | none => some (-1)
  | [], m, p, left, he, hm, h0, h4 => by
    obtain ⟨m, rfl⟩ : ∃ j, m = j + 1 := ⟨m - 1, by omega⟩
    rw [hF, dF (by rw [he]; simp), cond_false]
    simp only [sumO]
    rw [if_pos (by omega)]
    congr 1; omega
  | z :: l, m, p, left, he, hm, h0, h4 => by
    obtain ⟨m, rfl⟩ : ∃ j, m = j + 1 := ⟨m - 1, by omega⟩
    rw [List.length_cons] at hm
    have hz : z ∈ ks := by rw [he]; simp
    have hix : idx ks (p.length : Int) = some z := by rw [he, idx_nat]; simp
    rw [hF, dT (by rw [he]; simp; omega), cond_true, hix, Option.bind_some, hC z hz left h0 h4, Option.bind_some]
    have hlen : ks.length = p.length + (l.length + 1) := by rw [he]; simp
    rw [wrapN (by omega)]
    have e : p.length + 1 = (p ++ [z]).length := by simp
    obtain ⟨v, hv⟩ : ∃ v, v = leftI (f z) left := ⟨_, rfl⟩
    rw [← hv]
    unfold sumO
    cases hf : f z with
    | none =>
      rw [hf] at hv
      rw [show v = -1 from hv]
      rfl
    | some a =>
      rw [hf] at hv
      simp only [leftI] at hv
      by_cases ha : (a : Int) ≤ left
      · rw [if_pos ha] at hv
        subst hv
        rw [dF (by omega), cond_false, e, count_loop hF hB hC hks l m (p ++ [z]) (left - a) (by rw [he]; simp) (by omega) (by omega) (by omega)]
        cases hs : sumO f l with
        | none => rfl
        | some b =>
          simp only
          by_cases hb : (b : Int) ≤ left - a
          · rw [if_pos hb, if_pos (by omega)]; congr 1; omega
          · rw [if_neg hb, if_neg (by omega)]
      · rw [if_neg ha] at hv
        subst hv
        rw [dT (by omega), cond_true]
        cases hs : sumO f l with
        | none => rfl
        | some b => simp only; rw [if_neg (by omega)]
theorem count_ok : ∀ (r : Nat), r ≤ 24 → ∀ (x : api_Expr), W_api_Expr x → ∀ (left : Int), left ≤ 400 → -1 ≤ left → ∀ m n, r + 1 ≤ m → 2000000 + r ≤ n →
    expr_count_t m n x (25 - (r : Int)) left = some (leftI (frmE r x) left) := by
  intro r
  induction r with
  | zero =>
    intro hr x hw left h4 h0 m n hm hn
    obtain ⟨m, rfl⟩ : ∃ j, m = j + 1 := ⟨m - 1, by omega⟩
    obtain ⟨n, rfl⟩ : ∃ j, n = j + 1 := ⟨n - 1, by omega⟩
    show expr_count_f (expr_count_t m) (n + 1) x _ left = _
    unfold expr_count_f
    rw [at1_succ, dT (by omega), cond_true]
    rfl
  | succ r ih =>
    intro hr x hw left h4 h0 m n hm hn
    obtain ⟨m, rfl⟩ : ∃ j, m = j + 1 := ⟨m - 1, by omega⟩
    obtain ⟨n, rfl⟩ : ∃ j, n = j + 1 := ⟨n - 1, by omega⟩
    show expr_count_f (expr_count_t m) (n + 1) x _ left = _
    unfold expr_count_f
    rw [at1_succ, dF (by omega), cond_false]
    by_cases hl : left < 1
    · rw [dT hl, cond_true]
      unfold leftI
      cases hf : frmE (r + 1) x with
      | none => rfl
      | some c =>
        have := frmE_pos hf
        simp only
        rw [if_neg (by omega)]
    · rw [dF hl, cond_false, expr_kids_ok _ (by omega), Option.bind_some]
      rw [frmE]
      unfold nodeE
      by_cases hk : kidsE x.fKind = ((sll x.fKids).length : Int)
      · rw [show (kidsE x.fKind != ((sll x.fKids).length : Int)) = false by simp [hk], cond_false, show (kidsE x.fKind == ((sll x.fKids).length : Int)) = true by simp [hk], Bool.true_and]
        rw [show api_Expr.mk x.fKind x.fRel x.fCol x.fConst x.fKids = x from rfl, expr_fields_ok (W_const hw) (by omega), Option.bind_some]
        cases hfd : fieldsE x with
        | false => rfl
        | true =>
          rw [Bool.not_true, cond_false, cond_true]
          show withK (fun k12 => expr_count_l5 n (expr_count_t m) x (25 - ((r + 1 : Nat) : Int)) k12 n (IntKind.wrap .i64 (left - 1)) 0) (fun (y9 : Int) => some y9) = _
          unfold withK
          rw [wrapI (by omega) (by omega)]
          have key := count_loop (f := fun z => frmE r (un_api_Expr z)) (K := fun y9 => some y9) (F := fun m' left' i => expr_count_l5 n (expr_count_t m) x (25 - ((r + 1 : Nat) : Int)) (fun y9 => some y9) m' left' i) (ks := sll x.fKids)
            (C := fun z left' => expr_count_t m n (un_api_Expr z) (IntKind.wrap .i64 ((25 - ((r + 1 : Nat) : Int)) + 1)) left')
            (fun m' left' i => rfl) (B := 400) (by omega) (fun z hz left' h1 h2 => by
              show expr_count_t m n (un_api_Expr z) (IntKind.wrap .i64 ((25 - ((r + 1 : Nat) : Int)) + 1)) left' = _
              rw [wrapI (by omega) (by omega), show (25 - ((r + 1 : Nat) : Int)) + 1 = 25 - (r : Int) by omega]
              exact ih (by omega) _ (W_kid hw hz) left' h2 (by omega) m n (by omega) (by omega)) (kids_len hw) (sll x.fKids) n [] (left - 1) rfl (by have := kids_len hw; omega) (by omega) (by omega)
          refine Eq.trans key ?_
          cases hs : sumO (fun z => frmE r (un_api_Expr z)) (sll x.fKids) with
          | none => rfl
          | some c =>
            simp only [Option.map_some, leftI]
            by_cases hc : (c : Int) ≤ left - 1
            · rw [if_pos hc, if_pos (by omega)]; congr 1; omega
            · rw [if_neg hc, if_neg (by omega)]
      · rw [show (kidsE x.fKind != ((sll x.fKids).length : Int)) = true by simp [hk], cond_true, show (kidsE x.fKind == ((sll x.fKids).length : Int)) = false by simp [hk], Bool.false_and]
        rfl
noncomputable def formedE (x : api_Expr) : Bool := match frmE 24 x with
  | some c => decide (c ≤ 400)
  | none => false
theorem expr_Formed_ok {x : api_Expr} (hw : W_api_Expr x) {n : Nat} (hn : 2000100 ≤ n) : expr_Formed n x = some (formedE x) := by
  obtain ⟨n, rfl⟩ : ∃ j, n = j + 1 := ⟨n - 1, by omega⟩
  unfold expr_Formed
  rw [at1_succ]
  have := count_ok 24 (by omega) x hw 400 (by omega) (by omega) n n (by omega) (by omega)
  rw [show (25 - ((24 : Nat) : Int)) = 1 from rfl] at this
  rw [show expr_count n x 1 400 = some _ from this, Option.bind_some]
  unfold formedE leftI
  cases frmE 24 x with
  | none => rfl
  | some c => exact congrArg some (decide_eq_decide.2 (by simp only; split <;> omega))
theorem formed_frm {x : api_Expr} (h : formedE x = true) : ∃ c, frmE 24 x = some c ∧ c ≤ 400 := by
  unfold formedE at h
  split at h
  · rename_i c hc; exact ⟨c, hc, by simpa using h⟩
  · cases h
end Go.Pl
set_option maxRecDepth 100000
namespace Go.Pl
open Go Go.Ab
theorem tot_pos {h : List HB} (hr : rightH h = true) (hne : h ≠ []) : 1 ≤ totH h ∧ totH h ≤ 50000000 := by
  unfold totH
  rw [if_pos hr]
  obtain ⟨h1, h2⟩ := right_len hr
  have hall := chain_all h2
  have hr2 := sumC_range hall
  refine ⟨?_, by omega⟩
  cases h with
  | nil => exact absurd rfl hne
  | cons b l =>
    have := (hall b (by simp)).c1
    have := sumC_range (h := l) fun c hc => hall c (List.mem_cons_of_mem _ hc)
    rw [sumC]; omega
theorem mem_sumC {b : HB} : ∀ {h : List HB}, (∀ b, b ∈ h → Snd b) → b ∈ h → b.fCount ≤ sumC h
  | [], _, hb => by cases hb
  | c :: l, hs, hb => by
    have h1 := (hs c (by simp)).c1
    have h2 := sumC_range (h := l) fun c hc => hs c (List.mem_cons_of_mem _ hc)
    rw [sumC]
    rcases List.mem_cons.1 hb with rfl | hb
    · omega
    · have := mem_sumC (h := l) (fun c hc => hs c (List.mem_cons_of_mem _ hc)) hb
      omega
theorem equal_range {h : List HB} (hr : rightH h = true) (v : api_Value) : 0 ≤ equalH h v ∧ equalH h v ≤ totH h := by
  have hall := chain_all (right_len hr).2
  have hs := sumC_range hall
  unfold equalH totH
  rw [if_pos hr]
  split
  · rename_i ha
    cases hl : (loc v h 0).1 with
    | none => simp only; omega
    | some b =>
      simp only
      obtain ⟨h1, _⟩ := loc_mem (v := v) (h := h) (ah := 0) (b := b) (k := (loc v h 0).2) (by rw [← hl])
      have := each_range (hall b h1)
      have := mem_sumC hall h1
      omega
  · omega
theorem below_range {h : List HB} (hW : ∀ b, b ∈ h → W_hist_Bucket b) (hr : rightH h = true) {v : api_Value} (hv : W_api_Value v) (also : Bool) : 0 ≤ belowH h v also ∧ belowH h v also ≤ totH h := by
  have hall := chain_all (right_len hr).2
  have hs := sumC_range hall
  cases ha : askH h v with
  | false =>
    unfold belowH
    rw [ha]
    simp only [Bool.false_eq_true, if_false]
    unfold totH
    rw [if_pos hr]; omega
  | true =>
    rw [below_blw ha]
    have := blw_range hv (ask_all ha).2.1 also (l := h) (ah := 0) hW hall
    unfold totH
    rw [if_pos hr]; omega
theorem wI_lt {k : Int} (h : wI .i64 k) : k ≤ 9223372036854775807 := h.2
theorem guess_natural_ok {k : Int} (h : k ≤ 9223372036854775807) {n : Nat} (hn : 1 ≤ n) : guess_natural n k = some ((k.toNat : Nat) : Int) := by
  obtain ⟨n, rfl⟩ : ∃ j, n = j + 1 := ⟨n - 1, by omega⟩
  unfold guess_natural
  rw [at1_succ]
  congr 1
  by_cases h0 : 0 > k
  · rw [if_pos h0, show k.toNat = 0 by omega]; rfl
  · rw [if_neg h0, wrapU (by omega) (by omega)]; omega
def oneF (d : Int) : Nat := 1048576 / (if 1 > d then 1 else d).toNat
theorem oneF_le (d : Int) : oneF d ≤ 1048576 := Nat.div_le_self _ _
theorem guess_one_ok {d : Int} (h : d ≤ 9223372036854775807) {n : Nat} (hn : 2 ≤ n) : guess_one n d = some (oneF d : Int) := by
  obtain ⟨n, rfl⟩ : ∃ j, n = j + 1 := ⟨n - 1, by omega⟩
  unfold guess_one oneF
  rw [at1_succ, guess_natural_ok (by split <;> omega) (by omega), Option.bind_some]
  have hp : 1 ≤ (if 1 > d then 1 else d).toNat := by split <;> omega
  generalize (if 1 > d then 1 else d).toNat = q at *
  have : ckZ ((q : Nat) : Int) = some () := by unfold ckZ; rw [if_neg (by omega)]
  rw [this, Option.bind_some]
  congr 1
  rw [Int.tdiv_eq_ediv_of_nonneg (by omega)]
  have e : (1048576 : Int) / (q : Int) = ((1048576 / q : Nat) : Int) := by rfl
  have hle := Nat.div_le_self 1048576 q
  rw [e]
  generalize 1048576 / q = z at hle
  rw [wrapU (by omega) (by omega)]
def blindF (kind : Int) (e : Nat) : Nat := bif kind == 7 then e else 349525
theorem guess_blind_ok (kind : Int) (e : Nat) {n : Nat} (hn : 1 ≤ n) : guess_blind n kind (e : Int) = some (blindF kind e : Int) := by
  obtain ⟨n, rfl⟩ : ∃ j, n = j + 1 := ⟨n - 1, by omega⟩
  unfold guess_blind blindF
  rw [at1_succ]
  cases kind == 7 <;> rfl
theorem blindF_le (kind : Int) {e : Nat} (h : e ≤ 1048576) : blindF kind e ≤ 1048576 := by
  unfold blindF; cases kind == 7 <;> simp <;> omega
def badH (v : api_Value) : List HB → Bool
  | [] => true
  | b :: l => !rightH (b :: l) || (b.fLow.fKind != v.fKind)
def askN (kind : Int) (h : List HB) (v : api_Value) (ahead : Bool) : Int :=
  bif kind == 7 then equalH h v else bif ahead then totH h - belowH h v (kind == 8) else belowH h v (kind == 9)
def agF (kind : Int) (h : List HB) (d : Int) (v : api_Value) (ahead : Bool) : Nat :=
  bif badH v h then blindF kind (oneF d) else shareF 1048576 (askN kind h v ahead).toNat (totH h).toNat
theorem ask_range {kind : Int} {h : List HB} (hW : ∀ b, b ∈ h → W_hist_Bucket b) (hr : rightH h = true) {v : api_Value} (hv : W_api_Value v) (ahead : Bool) : 0 ≤ askN kind h v ahead ∧ askN kind h v ahead ≤ totH h := by
  unfold askN
  cases kind == 7 with
  | true => exact equal_range hr v
  | false =>
    cases ahead with
    | true =>
      have := below_range hW hr hv (kind == 8)
      simp only [cond_false, cond_true]; omega
    | false => exact below_range hW hr hv (kind == 9)
theorem bad_not {v : api_Value} {h : List HB} (hb : badH v h = false) : rightH h = true ∧ h ≠ [] := by
  cases h with
  | nil => cases hb
  | cons b l =>
    unfold badH at hb
    rw [Bool.or_eq_false_iff] at hb
    exact ⟨by simpa using hb.1, by simp⟩
theorem agF_le {kind : Int} {h : List HB} (hW : ∀ b, b ∈ h → W_hist_Bucket b) {d : Int} {v : api_Value} (hv : W_api_Value v) (ahead : Bool) : agF kind h d v ahead ≤ 1048576 := by
  unfold agF
  cases hb : badH v h with
  | true => exact blindF_le _ (oneF_le d)
  | false =>
    obtain ⟨h1, h2⟩ := bad_not hb
    have := tot_pos h1 h2
    have := ask_range (kind := kind) hW h1 hv ahead
    rw [cond_false]
    exact shareF_unit (by omega) (by omega)
theorem guess_against_ok {kind : Int} {c : stat_Col} (hc : W_stat_Col c) {v : api_Value} (hv : W_api_Value v) (ahead : Bool) {n : Nat} (hn : 2000100 ≤ n) : guess_against n kind c v ahead = some (agF kind (sll c.fHist) c.fDistinct v ahead : Int) := by
  obtain ⟨n, rfl⟩ : ∃ j, n = j + 1 := ⟨n - 1, by omega⟩
  have hd := wI_lt hc.2.2.1
  have hH : WH c.fHist := hc.2.2.2.1
  unfold guess_against agF
  rw [at1_succ]
  have one : ∀ (K : Int → Option Int), ((guess_one n c.fDistinct).bind fun x2 => (guess_blind n kind x2).bind fun x4 => some x4) = some ((blindF kind (oneF c.fDistinct) : Nat) : Int) := fun K => by
    rw [guess_one_ok hd (by omega), Option.bind_some, guess_blind_ok _ _ (by omega)]; rfl
  cases hl : sll c.fHist with
  | nil =>
    rw [show ((([] : List HB).length : Int) == 0) = true from rfl, cond_true]
    exact one some
  | cons b l =>
    rw [show (((b :: l).length : Int) == 0) = false from beq_eq_false_iff_ne.2 (by rw [List.length_cons]; omega), cond_false, hist_Right_ok hH (by omega), Option.bind_some, hl]
    rw [show badH v (b :: l) = (!rightH (b :: l) || (b.fLow.fKind != v.fKind)) from rfl]
    cases hr : rightH (b :: l) with
    | false =>
      rw [Bool.not_false, cond_true, Bool.true_or, cond_true]
      exact one some
    | true =>
      rw [Bool.not_true, cond_false, Bool.false_or, show idx (b :: l) 0 = some b from rfl, Option.bind_some]
      cases hk : (b.fLow.fKind != v.fKind) with
      | true =>
        rw [cond_true, cond_true]
        exact one some
      | false =>
        have hr' : rightH (sll c.fHist) = true := by rw [hl]; exact hr
        have tp := tot_pos hr' (by rw [hl]; simp)
        have hq := ask_range (kind := kind) hH.2 hr' hv ahead
        rw [cond_false, cond_false, hist_Total_ok hH (by omega), Option.bind_some]
        have fin : ∀ (q : Int), 0 ≤ q → q ≤ totH (sll c.fHist) → ((guess_natural n q).bind fun x25 => (guess_natural n (totH (sll c.fHist))).bind fun x27 => (fixed_Share n 1048576 x25 x27).bind fun x29 => some x29) = some ((shareF 1048576 q.toNat (totH (sll c.fHist)).toNat : Nat) : Int) := fun q h0 h1 => by
          rw [guess_natural_ok (by omega) (by omega), Option.bind_some, guess_natural_ok (by omega) (by omega), Option.bind_some, show (1048576 : Int) = ((1048576 : Nat) : Int) from rfl, fixed_Share_ok (by decide) (by omega) (by omega) (by omega)]
          rfl
        unfold askN at hq ⊢
        rw [← hl]
        cases h7 : kind == 7 with
        | true =>
          rw [h7] at hq
          rw [cond_true, hist_Equal_ok hH hv (by omega), Option.bind_some]
          exact fin _ hq.1 hq.2
        | false =>
          rw [h7] at hq
          rw [cond_false]
          cases ahead with
          | true =>
            rw [cond_true, hist_Below_ok hH hv _ (by omega), Option.bind_some]
            simp only [cond_false, cond_true] at hq ⊢
            rw [wrapI (by omega) (by omega)]
            exact fin _ hq.1 hq.2
          | false =>
            rw [cond_false, hist_Below_ok hH hv _ (by omega), Option.bind_some]
            exact fin _ hq.1 hq.2
def nullsF (c : stat_Col) (rows : Int) : Nat := let x := shareF 1048576 c.fNulls.toNat rows.toNat; if 1048576 < x then 1048576 else x
theorem nullsF_le (c : stat_Col) (rows : Int) : nullsF c rows ≤ 1048576 := by unfold nullsF; simp only; split <;> omega
theorem guess_nulls_ok {c : stat_Col} (hc : W_stat_Col c) {rows : Int} (hr : wI .i64 rows) {n : Nat} (hn : 100 ≤ n) : guess_nulls n c rows = some (nullsF c rows : Int) := by
  obtain ⟨n, rfl⟩ : ∃ j, n = j + 1 := ⟨n - 1, by omega⟩
  have h1 := wI_lt hc.2.1
  have h2 := wI_lt hr
  unfold guess_nulls nullsF
  rw [at1_succ, guess_natural_ok h1 (by omega), Option.bind_some, guess_natural_ok h2 (by omega), Option.bind_some, show (1048576 : Int) = ((1048576 : Nat) : Int) from rfl, fixed_Share_ok (by decide) (by omega) (by omega) (by omega), Option.bind_some]
  congr 1
  simp only
  generalize shareF 1048576 c.fNulls.toNat rows.toNat = q
  split <;> split <;> omega
abbrev LS := Option (List stat_Stat)
abbrev WLS (s : LS) : Prop := wSl W_stat_Stat s
def colE (x : api_Expr) (s : LS) : Option (stat_Col × Int) :=
  if x.fKind = 1 then match (sll s)[x.fRel.toNat]? with
    | some t => match (sll t.fCols)[x.fCol.toNat]? with
      | some c => some (c, t.fRows)
      | none => none
    | none => none
  else none
theorem idx_pos {α : Type} {l : List α} {i : Int} (h : 0 ≤ i) : idx l i = l[i.toNat]? := by unfold idx; rw [if_pos h]
def pinE (x : api_Expr) : Prop := 0 ≤ x.fRel ∧ 0 ≤ x.fCol
theorem colE_W {x : api_Expr} {s : LS} (hs : WLS s) {c : stat_Col} {r : Int} (h : colE x s = some (c, r)) : W_stat_Col c ∧ wI .i64 r := by
  unfold colE at h
  split at h
  · split at h
    · rename_i t ht
      have hm := hs.2 t (List.mem_of_getElem? ht)
      split at h
      · rename_i c' hc'
        simp only [Option.some.injEq, Prod.mk.injEq] at h
        obtain ⟨rfl, rfl⟩ := h
        exact ⟨hm.2.2 _ (List.mem_of_getElem? hc'), hm.1⟩
      · cases h
    · cases h
  · cases h
theorem guess_column_ok {x : api_Expr} (hx : pinE x) (s : LS) {n : Nat} (hn : 1 ≤ n) : (∃ c r, colE x s = some (c, r) ∧ guess_column n x s = some (c, r, true)) ∨ (colE x s = none ∧ ∃ c r, guess_column n x s = some (c, r, false)) := by
  obtain ⟨n, rfl⟩ : ∃ j, n = j + 1 := ⟨n - 1, by omega⟩
  unfold guess_column colE
  rw [at1_succ]
  by_cases h1 : x.fKind = 1
  · rw [if_pos h1, show (x.fKind != 1) = false by simp [h1], cond_false]
    by_cases h2 : x.fRel ≥ ((sll s).length : Int)
    · rw [dT h2, cond_true, List.getElem?_eq_none (by omega)]
      exact .inr ⟨rfl, _, _, rfl⟩
    · rw [dF h2, cond_false, idx_pos hx.1]
      have hlt : x.fRel.toNat < (sll s).length := by have := hx.1; omega
      rw [List.getElem?_eq_getElem hlt, Option.bind_some]
      simp only
      generalize (sll s)[x.fRel.toNat] = t
      by_cases h3 : x.fCol ≥ ((sll t.fCols).length : Int)
      · rw [dT h3, cond_true, List.getElem?_eq_none (by omega)]
        exact .inr ⟨rfl, _, _, rfl⟩
      · rw [dF h3, cond_false, idx_pos hx.2]
        have hlt : x.fCol.toNat < (sll t.fCols).length := by have := hx.2; omega
        rw [List.getElem?_eq_getElem hlt, Option.bind_some]
        exact .inl ⟨_, _, rfl, rfl⟩
  · rw [if_neg h1, show (x.fKind != 1) = true by simp [h1], cond_true]
    exact .inr ⟨rfl, _, _, rfl⟩
def sideF (kind : Int) (c : stat_Col × Int) (e : api_Expr) (ahead : Bool) : Nat :=
  bif e.fKind == 2 then (bif e.fConst.fKind == 0 then 0 else scaleF (agF kind (sll c.1.fHist) c.1.fDistinct e.fConst ahead) (1048576 - nullsF c.1 c.2)) else blindF kind 104857
def comparedF (kind : Int) (a b : api_Expr) (s : LS) : Nat :=
  match colE a s, colE b s with
  | some x, some y => blindF kind (oneF (if y.1.fDistinct > x.1.fDistinct then y.1.fDistinct else x.1.fDistinct))
  | some x, none => sideF kind x b false
  | none, some y => sideF kind y a true
  | none, none => blindF kind 104857
theorem scale_unit {a b : Nat} (ha : a ≤ 1048576) (hb : b ≤ 1048576) : scaleF a b ≤ 1048576 := by
  have := scaleF_le (a := a) (f := b) (by omega) hb; omega
theorem sideF_le {kind : Int} {c : stat_Col × Int} (hc : W_stat_Col c.1) {e : api_Expr} (he : W_api_Value e.fConst) (ahead : Bool) : sideF kind c e ahead ≤ 1048576 := by
  unfold sideF
  cases e.fKind == 2 with
  | false => exact blindF_le _ (by decide)
  | true =>
    rw [cond_true]
    cases e.fConst.fKind == 0 with
    | true => simp
    | false => exact scale_unit (agF_le (hc.2.2.2.1).2 he ahead) (by omega)
theorem comparedF_le {kind : Int} {a b : api_Expr} {s : LS} (hs : WLS s) (ha : W_api_Value a.fConst) (hb : W_api_Value b.fConst) : comparedF kind a b s ≤ 1048576 := by
  unfold comparedF
  split
  · exact blindF_le _ (oneF_le _)
  · rename_i x h1 h2
    exact sideF_le (colE_W hs (c := x.1) (r := x.2) h1).1 hb _
  · rename_i y h1 h2
    exact sideF_le (colE_W hs (c := y.1) (r := y.2) h2).1 ha _
  · exact blindF_le _ (by decide)
theorem guess_compared_ok {x : api_Expr} {za zb : EX} {l : List EX} (hk : sll x.fKids = za :: zb :: l) (ha : pinE (un_api_Expr za)) (hb : pinE (un_api_Expr zb)) (wa : W_api_Value (un_api_Expr za).fConst) (wb : W_api_Value (un_api_Expr zb).fConst) {s : LS} (hs : WLS s) {n : Nat} (hn : 2000200 ≤ n) :
    guess_compared n x s = some (comparedF x.fKind (un_api_Expr za) (un_api_Expr zb) s : Int) := by
  obtain ⟨n, rfl⟩ : ∃ j, n = j + 1 := ⟨n - 1, by omega⟩
  unfold guess_compared
  rw [at1_succ, hk, show idx (za :: zb :: l) 0 = some za from rfl, Option.bind_some, show idx (za :: zb :: l) 1 = some zb from rfl, Option.bind_some]
  generalize un_api_Expr za = a at *
  generalize un_api_Expr zb = b at *
  rw [show api_Expr.mk a.fKind a.fRel a.fCol (api_Value.mk a.fConst.fKind a.fConst.fInt a.fConst.fFloat a.fConst.fText) a.fKids = a from rfl, show api_Expr.mk b.fKind b.fRel b.fCol (api_Value.mk b.fConst.fKind b.fConst.fInt b.fConst.fFloat b.fConst.fText) b.fKids = b from rfl]
  have blind : ((guess_blind n x.fKind 104857).bind fun x35 => some x35) = some ((blindF x.fKind 104857 : Nat) : Int) := by
    rw [show (104857 : Int) = ((104857 : Nat) : Int) from rfl, guess_blind_ok _ _ (by omega)]; rfl
  have side : ∀ (c : stat_Col) (r : Int) (e : api_Expr) (ah : Bool), W_stat_Col c → wI .i64 r → W_api_Value e.fConst → ((guess_against n x.fKind c (api_Value.mk e.fConst.fKind e.fConst.fInt e.fConst.fFloat e.fConst.fText) ah).bind fun x18 => (guess_nulls n c r).bind fun x20 => (fixed_Inverse n x20).bind fun x22 => (fixed_Scale n x18 x22).bind fun x24 => some x24) = some ((scaleF (agF x.fKind (sll c.fHist) c.fDistinct e.fConst ah) (1048576 - nullsF c r) : Nat) : Int) := fun c r e ah hc hr he => by
    have h1 := agF_le (kind := x.fKind) (d := c.fDistinct) (hc.2.2.2.1).2 he ah
    have h2 := nullsF_le c r
    rw [show api_Value.mk e.fConst.fKind e.fConst.fInt e.fConst.fFloat e.fConst.fText = e.fConst from rfl, guess_against_ok hc he ah (by omega), Option.bind_some, guess_nulls_ok hc hr (by omega), Option.bind_some, fixed_Inverse_ok (by omega), Option.bind_some, fixed_Scale_ok (by omega) (by omega) (by omega)]
    rfl
  unfold comparedF
  rcases guess_column_ok ha s (n := n) (by omega) with ⟨c1, r1, e1, g1⟩ | ⟨e1, c1, r1, g1⟩ <;> rcases guess_column_ok hb s (n := n) (by omega) with ⟨c2, r2, e2, g2⟩ | ⟨e2, c2, r2, g2⟩ <;> rw [g1, Option.bind_some, g2, Option.bind_some, e1, e2]
  · simp only [Bool.true_and, cond_true]
    have w1 := wI_lt (colE_W hs e1).1.2.2.1
    have w2 := wI_lt (colE_W hs e2).1.2.2.1
    rw [guess_one_ok (by split <;> omega) (by omega), Option.bind_some, guess_blind_ok _ _ (by omega)]
    rfl
  · simp only [Bool.true_and, Bool.false_and, Bool.and_false, cond_false, withK]
    unfold sideF
    cases hk2 : b.fKind == 2 with
    | false =>
      simp only [Bool.false_and, cond_false]
      exact blind
    | true =>
      simp only [Bool.true_and, cond_true]
      cases hc0 : b.fConst.fKind == 0 with
      | true => rfl
      | false =>
        simp only [cond_false]
        exact side c1 r1 b false (colE_W hs e1).1 (colE_W hs e1).2 wb
  · simp only [Bool.true_and, Bool.false_and, Bool.and_false, cond_false, withK]
    unfold sideF
    cases hk2 : a.fKind == 2 with
    | false =>
      simp only [Bool.false_and, cond_false]
      exact blind
    | true =>
      simp only [Bool.true_and, cond_true]
      cases hc0 : a.fConst.fKind == 0 with
      | true => rfl
      | false =>
        simp only [cond_false]
        exact side c2 r2 a true (colE_W hs e2).1 (colE_W hs e2).2 wa
  · simp only [Bool.true_and, Bool.false_and, Bool.and_false, cond_false, withK]
    exact blind
end Go.Pl
set_option maxRecDepth 100000
namespace Go.Pl
open Go Go.Ab
noncomputable def kidE (x : api_Expr) (i : Nat) : api_Expr := match (sll x.fKids)[i]? with
  | some z => un_api_Expr z
  | none => x
noncomputable def prtF : Nat → api_Expr → LS → Nat
  | 0, _, _ => 0
  | r + 1, x, s =>
    bif x.fKind == 2 then (bif (x.fConst.fKind == 1) && (x.fConst.fInt == 1) then 1048576 else 0)
    else bif x.fKind == 10 then scaleF (prtF r (kidE x 0) s) (prtF r (kidE x 1) s)
    else bif x.fKind == 11 then prtF r (kidE x 0) s + prtF r (kidE x 1) s - scaleF (prtF r (kidE x 0) s) (prtF r (kidE x 1) s)
    else bif x.fKind == 12 then 1048576 - prtF r (kidE x 0) s
    else bif (x.fKind == 7) || (x.fKind == 8) || (x.fKind == 9) then comparedF x.fKind (kidE x 0) (kidE x 1) s
    else bif x.fKind == 13 then (match colE (kidE x 0) s with | some c => nullsF c.1 c.2 | none => 104857)
    else 524288
theorem node_pin {x : api_Expr} (h : nodeE x = true) : pinE x ∧ x.fRel ≤ 31 ∧ x.fCol ≤ 31 := by
  unfold nodeE fieldsE inE at h
  simp only [Bool.and_eq_true, decide_eq_true_eq] at h
  obtain ⟨_, ⟨⟨⟨_, h1⟩, h2⟩, _⟩, _⟩ := h
  exact ⟨⟨by omega, by omega⟩, by omega, by omega⟩
theorem node_kids {x : api_Expr} (h : nodeE x = true) : ((sll x.fKids).length : Int) = kidsE x.fKind := by
  unfold nodeE at h
  rw [Bool.and_eq_true, beq_iff_eq] at h
  exact h.1.symm
theorem frm_node {r : Nat} {x : api_Expr} {c : Nat} (h : frmE r x = some c) : nodeE x = true := by
  cases r with
  | zero => cases h
  | succ r => exact (frmE_kid h).1
theorem two_kids {x : api_Expr} (h : ((sll x.fKids).length : Int) = 2) : ∃ a b, sll x.fKids = [a, b] := by
  match hk : sll x.fKids with
  | [a, b] => exact ⟨a, b, rfl⟩
  | [] => rw [hk] at h; simp at h
  | [a] => rw [hk] at h; simp at h
  | a :: b :: c :: l => rw [hk] at h; simp only [List.length_cons] at h; omega
theorem one_kid {x : api_Expr} (h : ((sll x.fKids).length : Int) = 1) : ∃ a, sll x.fKids = [a] := by
  match hk : sll x.fKids with
  | [a] => exact ⟨a, rfl⟩
  | [] => rw [hk] at h; simp at h
  | a :: b :: l => rw [hk] at h; simp only [List.length_cons] at h; omega
theorem beqT {a b : Int} (h : a = b) : (a == b) = true := beq_iff_eq.2 h
theorem beqF {a b : Int} (h : ¬ a = b) : (a == b) = false := beq_eq_false_iff_ne.2 h
theorem part_ok {s : LS} (hs : WLS s) : ∀ (r : Nat), r ≤ 24 → ∀ (x : api_Expr) (c : Nat), W_api_Expr x → frmE r x = some c → ∀ m n, r + 1 ≤ m → 2000300 + r ≤ n →
    guess_part_t m n x s = some (prtF r x s : Int) ∧ prtF r x s ≤ 1048576
  | 0, _, x, c, _, h, _, _, _, _ => by cases h
  | r + 1, hr, x, c, hw, h, m, n, hm, hn => by
    obtain ⟨m, rfl⟩ : ∃ j, m = j + 1 := ⟨m - 1, by omega⟩
    obtain ⟨n, rfl⟩ : ∃ j, n = j + 1 := ⟨n - 1, by omega⟩
    obtain ⟨hnode, hkid⟩ := frmE_kid h
    have hlen := node_kids hnode
    have ih : ∀ z, z ∈ sll x.fKids → guess_part_t m n (un_api_Expr z) s = some (prtF r (un_api_Expr z) s : Int) ∧ prtF r (un_api_Expr z) s ≤ 1048576 := fun z hz => by
      obtain ⟨a, ha, _⟩ := hkid z hz
      exact part_ok hs r (by omega) _ a (W_kid hw hz) ha m n (by omega) (by omega)
    have hpin : ∀ z, z ∈ sll x.fKids → pinE (un_api_Expr z) := fun z hz => by
      obtain ⟨a, ha, _⟩ := hkid z hz
      exact (node_pin (frm_node ha)).1
    show guess_part_f (guess_part_t m) (n + 1) x s = _ ∧ _
    unfold guess_part_f
    rw [at1_succ]
    rw [prtF]
    simp only [withK]
    by_cases h2 : x.fKind = 2
    · rw [beqT h2, cond_true, cond_true]
      cases hc : ((x.fConst.fKind == 1) && (x.fConst.fInt == 1)) <;> exact ⟨rfl, by simp⟩
    rw [beqF h2, cond_false, cond_false]
    by_cases h10 : x.fKind = 10
    · rw [beqT h10, cond_true, cond_true, cond_true]
      obtain ⟨a, b, hk⟩ := two_kids (x := x) (by rw [hlen, h10]; rfl)
      have ia := ih a (by rw [hk]; simp)
      have ib := ih b (by rw [hk]; simp)
      rw [show kidE x 0 = un_api_Expr a by unfold kidE; rw [hk]; rfl, show kidE x 1 = un_api_Expr b by unfold kidE; rw [hk]; rfl, hk]
      refine ⟨?_, scale_unit ia.2 ib.2⟩
      rw [show idx [a, b] 0 = some a from rfl, Option.bind_some]
      rw [show guess_part_t m n (api_Expr.mk ((un_api_Expr a).fKind) ((un_api_Expr a).fRel) ((un_api_Expr a).fCol) (api_Value.mk (((un_api_Expr a).fConst).fKind) (((un_api_Expr a).fConst).fInt) (((un_api_Expr a).fConst).fFloat) (((un_api_Expr a).fConst).fText)) ((un_api_Expr a).fKids)) s = _ from ia.1, Option.bind_some]
      rw [show idx [a, b] 1 = some b from rfl, Option.bind_some]
      rw [show guess_part_t m n (api_Expr.mk ((un_api_Expr b).fKind) ((un_api_Expr b).fRel) ((un_api_Expr b).fCol) (api_Value.mk (((un_api_Expr b).fConst).fKind) (((un_api_Expr b).fConst).fInt) (((un_api_Expr b).fConst).fFloat) (((un_api_Expr b).fConst).fText)) ((un_api_Expr b).fKids)) s = _ from ib.1, Option.bind_some]
      rw [fixed_Scale_ok (by omega) (by omega) (by omega)]
      rfl
    rw [beqF h10, cond_false, cond_false]
    by_cases h11 : x.fKind = 11
    · rw [beqT h11, cond_true, cond_true]
      obtain ⟨a, b, hk⟩ := two_kids (x := x) (by rw [hlen, h11]; rfl)
      have ia := ih a (by rw [hk]; simp)
      have ib := ih b (by rw [hk]; simp)
      rw [show kidE x 0 = un_api_Expr a by unfold kidE; rw [hk]; rfl, show kidE x 1 = un_api_Expr b by unfold kidE; rw [hk]; rfl, hk]
      have ho := or_unit ia.2 ib.2
      refine ⟨?_, ho.1⟩
      rw [show idx [a, b] 0 = some a from rfl, Option.bind_some]
      rw [show guess_part_t m n (api_Expr.mk ((un_api_Expr a).fKind) ((un_api_Expr a).fRel) ((un_api_Expr a).fCol) (api_Value.mk (((un_api_Expr a).fConst).fKind) (((un_api_Expr a).fConst).fInt) (((un_api_Expr a).fConst).fFloat) (((un_api_Expr a).fConst).fText)) ((un_api_Expr a).fKids)) s = _ from ia.1, Option.bind_some]
      rw [show idx [a, b] 1 = some b from rfl, Option.bind_some]
      rw [show guess_part_t m n (api_Expr.mk ((un_api_Expr b).fKind) ((un_api_Expr b).fRel) ((un_api_Expr b).fCol) (api_Value.mk (((un_api_Expr b).fConst).fKind) (((un_api_Expr b).fConst).fInt) (((un_api_Expr b).fConst).fFloat) (((un_api_Expr b).fConst).fText)) ((un_api_Expr b).fKids)) s = _ from ib.1, Option.bind_some]
      rw [cond_false, fixed_Add_ok (by omega) (by omega) (by omega), Option.bind_some, fixed_Scale_ok (by omega) (by omega) (by omega), Option.bind_some]
      have hcap : capF (prtF r (un_api_Expr a) s + prtF r (un_api_Expr b) s) = prtF r (un_api_Expr a) s + prtF r (un_api_Expr b) s := by unfold capF; rw [if_pos (by omega)]
      rw [hcap, fixed_Sub_ok (by omega) (by omega)]
      rfl
    rw [beqF h11, cond_false, cond_false]
    by_cases h12 : x.fKind = 12
    · rw [beqT h12, cond_true, cond_true]
      obtain ⟨a, hk⟩ := one_kid (x := x) (by rw [hlen, h12]; rfl)
      have ia := ih a (by rw [hk]; simp)
      rw [show kidE x 0 = un_api_Expr a by unfold kidE; rw [hk]; rfl, hk]
      refine ⟨?_, by omega⟩
      rw [show idx [a] 0 = some a from rfl, Option.bind_some]
      rw [show guess_part_t m n (api_Expr.mk ((un_api_Expr a).fKind) ((un_api_Expr a).fRel) ((un_api_Expr a).fCol) (api_Value.mk (((un_api_Expr a).fConst).fKind) (((un_api_Expr a).fConst).fInt) (((un_api_Expr a).fConst).fFloat) (((un_api_Expr a).fConst).fText)) ((un_api_Expr a).fKids)) s = _ from ia.1, Option.bind_some]
      rw [fixed_Inverse_ok (by omega)]
      rfl
    rw [beqF h12, cond_false, cond_false]
    have cmp : x.fKind = 7 ∨ x.fKind = 8 ∨ x.fKind = 9 → guess_compared n x s = some (comparedF x.fKind (kidE x 0) (kidE x 1) s : Int) ∧ comparedF x.fKind (kidE x 0) (kidE x 1) s ≤ 1048576 := fun hq => by
      obtain ⟨a, b, hk⟩ := two_kids (x := x) (by rw [hlen]; rcases hq with h | h | h <;> rw [h] <;> rfl)
      rw [show kidE x 0 = un_api_Expr a by unfold kidE; rw [hk]; rfl, show kidE x 1 = un_api_Expr b by unfold kidE; rw [hk]; rfl]
      have ma : a ∈ sll x.fKids := by rw [hk]; simp
      have mb : b ∈ sll x.fKids := by rw [hk]; simp
      have wa := W_const (W_kid hw ma)
      have wb := W_const (W_kid hw mb)
      exact ⟨guess_compared_ok hk (hpin a ma) (hpin b mb) wa wb hs (by omega), comparedF_le hs wa wb⟩
    by_cases h7 : x.fKind = 7
    · rw [beqT h7, cond_true, Bool.true_or, Bool.true_or, cond_true, (cmp (.inl h7)).1]
      exact ⟨rfl, (cmp (.inl h7)).2⟩
    rw [beqF h7, cond_false, Bool.false_or]
    by_cases h8 : x.fKind = 8
    · rw [beqT h8, cond_true, cond_true, Bool.true_or, cond_true, (cmp (.inr (.inl h8))).1]
      exact ⟨rfl, (cmp (.inr (.inl h8))).2⟩
    rw [beqF h8, cond_false, Bool.false_or]
    by_cases h9 : x.fKind = 9
    · rw [beqT h9, cond_true, cond_true, (cmp (.inr (.inr h9))).1]
      exact ⟨rfl, (cmp (.inr (.inr h9))).2⟩
    rw [beqF h9, cond_false, cond_false]
    by_cases h13 : x.fKind = 13
    · rw [beqT h13, cond_true, cond_true]
      obtain ⟨a, hk⟩ := one_kid (x := x) (by rw [hlen, h13]; rfl)
      have ma : a ∈ sll x.fKids := by rw [hk]; simp
      rw [show kidE x 0 = un_api_Expr a by unfold kidE; rw [hk]; rfl, hk, show idx [a] 0 = some a from rfl, Option.bind_some]
      rcases guess_column_ok (hpin a ma) s (n := n) (by omega) with ⟨c1, r1, e1, g1⟩ | ⟨e1, c1, r1, g1⟩
      · rw [show guess_column n (api_Expr.mk ((un_api_Expr a).fKind) ((un_api_Expr a).fRel) ((un_api_Expr a).fCol) (api_Value.mk (((un_api_Expr a).fConst).fKind) (((un_api_Expr a).fConst).fInt) (((un_api_Expr a).fConst).fFloat) (((un_api_Expr a).fConst).fText)) ((un_api_Expr a).fKids)) s = _ from g1, Option.bind_some, e1]
        have := colE_W hs e1
        simp only [cond_true]
        rw [guess_nulls_ok this.1 this.2 (by omega)]
        exact ⟨rfl, nullsF_le _ _⟩
      · rw [show guess_column n (api_Expr.mk ((un_api_Expr a).fKind) ((un_api_Expr a).fRel) ((un_api_Expr a).fCol) (api_Value.mk (((un_api_Expr a).fConst).fKind) (((un_api_Expr a).fConst).fInt) (((un_api_Expr a).fConst).fFloat) (((un_api_Expr a).fConst).fText)) ((un_api_Expr a).fKids)) s = _ from g1, Option.bind_some, e1]
        exact ⟨rfl, by simp⟩
    rw [beqF h13, cond_false, cond_false]
    exact ⟨rfl, by simp⟩
noncomputable def partF (x : api_Expr) (s : LS) : Nat := bif formedE x then prtF 24 x s else 1048576
theorem guess_Part_ok {x : api_Expr} (hw : W_api_Expr x) {s : LS} (hs : WLS s) {n : Nat} (hn : 2000400 ≤ n) : guess_Part n x s = some (partF x s : Int) ∧ partF x s ≤ 1048576 := by
  obtain ⟨n, rfl⟩ : ∃ j, n = j + 1 := ⟨n - 1, by omega⟩
  unfold guess_Part partF
  rw [at1_succ, expr_Formed_ok hw (by omega), Option.bind_some]
  cases hf : formedE x with
  | false => exact ⟨rfl, by simp⟩
  | true =>
    obtain ⟨c, hc, _⟩ := formed_frm hf
    obtain ⟨h1, h2⟩ := part_ok hs 24 (by omega) x c hw hc n n (by omega) (by omega)
    rw [Bool.not_true, cond_false, cond_true, show guess_part n x s = _ from h1]
    exact ⟨rfl, h2⟩
def rowsF (s : LS) (i : Nat) : Nat := match (sll s)[i]? with
  | some t => t.fRows.toNat
  | none => 0
theorem rowsF_le {s : LS} (hs : WLS s) (i : Nat) : rowsF s i ≤ 9223372036854775807 := by
  unfold rowsF
  split
  · rename_i t ht
    have := wI_lt (hs.2 t (List.mem_of_getElem? ht)).1
    omega
  · omega
theorem guess_Rows_ok {s : LS} (hs : WLS s) (i : Nat) {n : Nat} (hn : 10 ≤ n) : guess_Rows n s (i : Int) = some (rowsF s i : Int) := by
  obtain ⟨n, rfl⟩ : ∃ j, n = j + 1 := ⟨n - 1, by omega⟩
  unfold guess_Rows rowsF
  rw [at1_succ, dF (by omega), Bool.false_or]
  by_cases h : i < (sll s).length
  · have hm := wI_lt (hs.2 _ (List.getElem_mem h)).1
    rw [dF (by omega), cond_false, idx_nat, List.getElem?_eq_getElem h, Option.bind_some, guess_natural_ok hm (by omega)]
    rfl
  · rw [dT (by omega), cond_true, List.getElem?_eq_none (by omega)]
    rfl
def bitS (S : Int) (i : Nat) : Bool := (iAnd .u32 (iShr .u32 S (i : Int)) 1) == 1
def prodF (S : Int) (s : LS) : Nat → Nat → Nat → Nat
  | 0, _, acc => acc
  | d + 1, i, acc => prodF S s d (i + 1) (bif bitS S i then capF (acc * rowsF s i) else acc)
theorem prodF_le {S : Int} {s : LS} : ∀ (d i acc : Nat), acc ≤ 18446744073709551615 → prodF S s d i acc ≤ 18446744073709551615
  | 0, _, _, h => h
  | d + 1, i, acc, h => by
    rw [prodF]
    refine prodF_le d (i + 1) _ ?_
    cases bitS S i
    · exact h
    · exact capF_le _
theorem card_l3 {s : LS} (hs : WLS s) {S : Int} {K : Int → Option Int} {n : Nat} (hn : 100 ≤ n) : ∀ (d i acc m : Nat), i + d = 32 → acc ≤ 18446744073709551615 → d < m → guess_Card_l3 n s S K m (i : Int) (acc : Int) = K (prodF S s d i acc : Int)
  | 0, i, acc, m, hi, ha, hm => by
    obtain ⟨m, rfl⟩ : ∃ j, m = j + 1 := ⟨m - 1, by omega⟩
    rw [guess_Card_l3, dF (by omega), cond_false]; rfl
  | d + 1, i, acc, m, hi, ha, hm => by
    obtain ⟨m, rfl⟩ : ∃ j, m = j + 1 := ⟨m - 1, by omega⟩
    have hck : ckN (IntKind.wrap .u64 (i : Int)) = some () := by rw [wrapU (by omega) (by omega)]; unfold ckN; split <;> first | rfl | omega
    rw [guess_Card_l3, dT (by omega), cond_true, hck, Option.bind_some, wrapU (by omega) (by omega), wrapN (by omega), prodF]
    have hb : ((iAnd .u32 (iShr .u32 S (i : Int)) 1) == 1) = bitS S i := rfl
    rw [hb]
    cases hB : bitS S i with
    | true =>
      have := rowsF_le hs i
      rw [cond_true, cond_true, guess_Rows_ok hs i (by omega), Option.bind_some, fixed_Mul_ok ha (by omega) (by omega), Option.bind_some]
      exact card_l3 hs hn d (i + 1) _ m (by omega) (capF_le _) (by omega)
    | false =>
      rw [cond_false, cond_false]
      exact card_l3 hs hn d (i + 1) _ m (by omega) ha (by omega)
noncomputable def scalF (a : List EX) (s : LS) : List Int → Nat → Nat
  | [], acc => acc
  | j :: l, acc => scalF a s l (match a[j.toNat]? with
    | some z => scaleF acc (partF (un_api_Expr z) s)
    | none => acc)
theorem un_W {z : EX} (hw : W_E_api_Expr z) : W_api_Expr (un_api_Expr z) := by
  have := hw
  unfold W_E_api_Expr at this
  rw [R_un_api_Expr z] at this
  exact this
theorem wl_range (S : Int) : ∀ (l : List EX) (i : Nat) (j : Int), j ∈ wl S l i → (i : Int) ≤ j ∧ j < i + l.length
  | [], i, j, h => by cases h
  | z :: l, i, j, h => by
    rw [wl] at h
    cases ho : okS S (relE z) with
    | true =>
      rw [ho, cond_true] at h
      rcases List.mem_cons.1 h with rfl | h
      · simp only [List.length_cons]; omega
      · have := wl_range S l (i + 1) j h
        simp only [List.length_cons]; omega
    | false =>
      rw [ho, cond_false] at h
      have := wl_range S l (i + 1) j h
      simp only [List.length_cons]; omega
theorem wl_len (S : Int) : ∀ (l : List EX) (i : Nat), (wl S l i).length ≤ l.length
  | [], i => by simp [wl]
  | z :: l, i => by
    rw [wl]
    have := wl_len S l (i + 1)
    cases okS S (relE z) <;> simp <;> omega
theorem card_l9 {a : Option (List EX)} (ha : wSl W_E_api_Expr a) {s : LS} (hs : WLS s) {w : Option (List Int)} {K : Int → Option Int} {n : Nat} (hn : 2000500 ≤ n) (hw : (sll w).length ≤ 1048576) : ∀ (l : List Int) (p : List Int) (m acc : Nat), sll w = p ++ l → (∀ j, j ∈ l → 0 ≤ j ∧ j < (sll a).length) → acc ≤ 18446744073709551615 → l.length < m →
    guess_Card_l9 n a s K w m (p.length : Int) (acc : Int) = K (scalF (sll a) s l acc : Int)
  | [], p, m, acc, he, hj, hacc, hm => by
    obtain ⟨m, rfl⟩ : ∃ j, m = j + 1 := ⟨m - 1, by omega⟩
    rw [guess_Card_l9, dF (by rw [he]; simp), cond_false]; rfl
  | j :: l, p, m, acc, he, hj, hacc, hm => by
    obtain ⟨m, rfl⟩ : ∃ j, m = j + 1 := ⟨m - 1, by omega⟩
    rw [List.length_cons] at hm
    have hix : idx (sll w) (p.length : Int) = some j := by rw [he, idx_nat]; simp
    have h0 := hj j (by simp)
    have hlt : j.toNat < (sll a).length := by omega
    have hz := ha.2 _ (List.getElem_mem hlt)
    obtain ⟨g1, g2⟩ := guess_Part_ok (un_W hz) hs (n := n) (by omega)
    have hlen : (sll w).length = p.length + (l.length + 1) := by rw [he]; simp
    have hsl := scaleF_le hacc g2
    rw [guess_Card_l9, dT (by rw [he]; simp; omega), cond_true, hix, Option.bind_some, idx_pos h0.1, List.getElem?_eq_getElem hlt, Option.bind_some]
    rw [show guess_Part n (api_Expr.mk ((un_api_Expr (sll a)[j.toNat]).fKind) ((un_api_Expr (sll a)[j.toNat]).fRel) ((un_api_Expr (sll a)[j.toNat]).fCol) (api_Value.mk (((un_api_Expr (sll a)[j.toNat]).fConst).fKind) (((un_api_Expr (sll a)[j.toNat]).fConst).fInt) (((un_api_Expr (sll a)[j.toNat]).fConst).fFloat) (((un_api_Expr (sll a)[j.toNat]).fConst).fText)) ((un_api_Expr (sll a)[j.toNat]).fKids)) s = _ from g1, Option.bind_some]
    rw [fixed_Scale_ok hacc (by omega) (by omega), Option.bind_some, wrapN (by omega), show p.length + 1 = (p ++ [j]).length by simp]
    rw [card_l9 ha hs hn hw l (p ++ [j]) m _ (by rw [he]; simp) (fun i hi => hj i (List.mem_cons_of_mem _ hi)) (by omega) (by omega)]
    rw [scalF, List.getElem?_eq_getElem hlt]
noncomputable def cardF (a : List EX) (s : LS) (S : Int) : Nat := max (scalF a s (wl S a 0) (prodF S s 32 0 256)) 1
theorem guess_Card_ok {a : Option (List EX)} (ha : wSl W_E_api_Expr a) {s : LS} (hs : WLS s) (S : Int) {n : Nat} (hn : 3048700 ≤ n) : guess_Card n a s S = some (cardF (sll a) s S : Int) := by
  obtain ⟨n, rfl⟩ : ∃ j, n = j + 1 := ⟨n - 1, by omega⟩
  obtain ⟨w, h1, h2⟩ := within_ok (n := n) (by omega) ha S
  have hl := wl_len S (sll a) 0
  have ha1 := ha.1
  unfold guess_Card cardF
  rw [at1_succ]
  refine Eq.trans (card_l3 hs (by omega) 32 0 256 n rfl (by omega) (by omega)) ?_
  simp only [withK]
  rw [h1, Option.bind_some]
  refine Eq.trans (card_l9 ha hs (by omega) (by rw [h2]; omega) (wl S (sll a) 0) [] n _ (by rw [h2]; rfl) (fun j hj => by have := wl_range S _ _ _ hj; omega) (prodF_le _ _ _ (by omega)) (by omega)) ?_
  congr 1
  generalize scalF (sll a) s (wl S (sll a) 0) (prodF S s 32 0 256) = q
  split <;> omega
end Go.Pl
