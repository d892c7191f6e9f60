import Derived.Test.YtjbhpopccbhhlaaSB1
set_option linter.unusedVariables false
set_option linter.unusedSimpArgs false
set_option maxRecDepth 100000
namespace Go.Pl
open Go Go.Ab

theorem flatMap_same {α β : Type} {f g : α → List β} : ∀ {l : List α}, (∀ x, x ∈ l → f x = g x) → l.flatMap f = l.flatMap g
  | [], _ => rfl
  | x :: l, h => by rw [List.flatMap_cons, List.flatMap_cons, h x (by simp), flatMap_same fun y hy => h y (List.mem_cons_of_mem _ hy)]
theorem join_forms {n : Nat} {P T : List Int} (hP : P.length ≤ 200000) (hT : T.length ≤ 1048576) (hrd : ∀ y, codec_Read n y = some ()) {K : Option (List Int) → Option Bool} (hK : ∀ y, sll y = P ++ T → K y = some true) :
    (bif P.isEmpty then (ckA 1 ([] : List Int).length).bind fun _ => bif T.isEmpty then (ckA 1 ([] : List Int).length).bind fun _ => (codec_Read n (some ([] : List Int))).bind fun _ => K (some ([] : List Int)) else (ckA 1 (([] : List Int) ++ T).length).bind fun _ => (codec_Read n (some (([] : List Int) ++ T))).bind fun _ => K (some (([] : List Int) ++ T)) else (ckA 1 (([] : List Int) ++ P).length).bind fun _ => bif T.isEmpty then (ckA 1 (([] : List Int) ++ P).length).bind fun _ => (codec_Read n (some (([] : List Int) ++ P))).bind fun _ => K (some (([] : List Int) ++ P)) else (ckA 1 ((([] : List Int) ++ P) ++ T).length).bind fun _ => (codec_Read n (some ((([] : List Int) ++ P) ++ T))).bind fun _ => K (some ((([] : List Int) ++ P) ++ T))) = some true := by
  have h1 : ckA 1 ([] : List Int).length = some () := ckA_okQ (by omega) (by simp)
  have h2 : ckA 1 P.length = some () := ckA_okQ (by omega) (by omega)
  have h3 : ckA 1 T.length = some () := ckA_okQ (by omega) (by omega)
  have h4 : ckA 1 (P ++ T).length = some () := ckA_okQ (by omega) (by rw [List.length_append]; omega)
  cases hp : P.isEmpty with
  | true =>
    have hp' := List.isEmpty_iff.1 hp
    cases ht : T.isEmpty with
    | true =>
      have ht' := List.isEmpty_iff.1 ht
      simp only [cond_true, h1, Option.bind_some, hrd]
      exact hK _ (by rw [hp', ht']; rfl)
    | false =>
      simp only [cond_true, cond_false, List.nil_append, h1, h3, Option.bind_some, hrd]
      exact hK _ (by rw [hp']; rfl)
  | false =>
    cases ht : T.isEmpty with
    | true =>
      have ht' := List.isEmpty_iff.1 ht
      simp only [cond_true, cond_false, List.nil_append, h2, Option.bind_some, hrd]
      exact hK _ (by rw [ht', List.append_nil]; rfl)
    | false =>
      simp only [cond_true, cond_false, List.nil_append, h2, h4, Option.bind_some, hrd]
      exact hK _ rfl
/-! #### Taken -/
abbrev TakeS := (Bool × (Option (List Int)) × Int × Int × Int × Int × (Nat → Int) × Int) ⊕ (Bool × (Option (List Int)) × Int × Int × Int × Int × (List api_Value) × (Nat → Int)) ⊕ (Bool × (Option (List Int)) × Int × Int × Int × Int × (List hist_Bucket) × (Nat → Int)) ⊕ (Bool × (Option (List Int)) × Int × Int × Int × Int × (List hist_Bucket) × (List api_Value) × (Nat → Int))
theorem l8x_eq {n : Nat} {K : Bool → Option (List Int) → Int → Option (List api_Value) → Option TakeS} {N : Int} : ∀ (m : Nat) (a : Bool) (b : Option (List Int)) (c : Int) (d : Option (List api_Value)) (e : Int), stat_take_l8x n K N m a b c d e = stat_take_l8 n K N m a b c d e
  | 0, _, _, _, _, _ => rfl
  | m + 1, a, b, c, none, e => by rw [stat_take_l8x, stat_take_l8]; simp only [l8x_eq m]
  | m + 1, a, b, c, some d, e => by rw [stat_take_l8x, stat_take_l8]; simp only [l8x_eq m]
theorem take_l8 {n : Nat} (hn : 2000030 ≤ n) {N : Nat} (hN : N ≤ 60) {rest : List Int} : ∀ (l : List api_Value) (m i : Nat) (b : Option (List Int)) (o : Option (List api_Value)), i + l.length = N → (∀ v, v ∈ l → W_api_Value v ∧ vRight v = true) → Bytes (sll b) → sll b = putVs l ++ rest → (sll o).length ≤ i → l.length < m →
    ∃ b', sll b' = rest ∧ ∀ (K : Bool → Option (List Int) → Int → Option (List api_Value) → Option TakeS), stat_take_l8 n K (N : Int) m true b 0 o (i : Int) = K true b' 0 (oapp o (l.map vP))
  | [], m, i, b, o, hi, _, _, hs, ho, hm => by
    obtain ⟨m, rfl⟩ : ∃ j, m = j + 1 := ⟨m - 1, by omega⟩
    rw [List.length_nil] at hi
    refine ⟨b, by rw [hs]; rfl, fun K => ?_⟩
    cases o <;> (rw [stat_take_l8, dF (by omega), cond_false]; rfl)
  | v :: l, m, i, b, o, hi, hv, hb, hs, ho, hm => by
    obtain ⟨m, rfl⟩ : ∃ j, m = j + 1 := ⟨m - 1, by omega⟩
    rw [List.length_cons] at hi hm
    have hv0 := hv v (by simp)
    have hs' : sll b = putV (vP v) ++ (putVs l ++ rest) := by rw [hs]; unfold putVs; rw [List.flatMap_cons, List.append_assoc]
    obtain ⟨b1, t1, s1⟩ := value_Take_ok (can_vP hv0.1 hv0.2) hb hs' (n := n) (by omega)
    have hb1 : Bytes (sll b1) := by rw [s1]; rw [hs'] at hb; exact hb.tail
    obtain ⟨b', g1, g2⟩ := take_l8 hn hN (rest := rest) l m (i + 1) b1 (some (sll o ++ [vP v])) (by omega) (fun w hw => hv w (List.mem_cons_of_mem _ hw)) hb1 s1 (by rw [sll_some, List.length_append, List.length_singleton]; omega) (by omega)
    refine ⟨b', g1, fun K => ?_⟩
    have e := g2 K
    rw [List.map_cons, oapp, ← e]
    have w : IntKind.wrap .u64 ((i : Int) + 1) = ((i + 1 : Nat) : Int) := uwrap (by omega) (by omega)
    cases o with
    | none =>
      rw [stat_take_l8, dT (by omega), cond_true, t1, Option.bind_some]
      simp only [bne_self_eq_false, cond_false]
      rw [ckA_okQ (by omega) (by simp), Option.bind_some, w]
      rfl
    | some o =>
      rw [stat_take_l8, dT (by omega), cond_true, t1, Option.bind_some]
      simp only [bne_self_eq_false, cond_false]
      rw [sll_some] at ho
      rw [ckA_okQ (by omega) (by simp; omega), Option.bind_some, w]
      rfl
abbrev TakeH := Bool × (Option (List Int)) × Int × (Nat → Int) × Int
theorem take_hl3 {n : Nat} (hn : 2000030 ≤ n) {x : Nat → Int} {rest : List Int} : ∀ (d m i : Nat) (b : Option (List Int)) (r : Nat → Int), i + d = 64 → Bytes (sll b) → sll b = lsAf x i d ++ rest → d < m →
    ∃ b' r', sll b' = rest ∧ (∀ j, (j < i → r' j = r j) ∧ (i ≤ j → j < 64 → r' j = x j)) ∧ ∀ (K : Bool → Option (List Int) → Int → (Nat → Int) → Option TakeH), hll_Take_l3 n K m true b 0 r (i : Int) = K true b' 0 r'
  | 0, m, i, b, r, hi, hb, hs, hm => by
    obtain ⟨m, rfl⟩ : ∃ j, m = j + 1 := ⟨m - 1, by omega⟩
    exact ⟨b, r, by rw [hs]; rfl, fun j => ⟨fun _ => rfl, fun h1 h2 => by omega⟩, fun K => by rw [hll_Take_l3, dF (by omega), cond_false]⟩
  | d + 1, m, i, b, r, hi, hb, hs, hm => by
    obtain ⟨m, rfl⟩ : ∃ j, m = j + 1 := ⟨m - 1, by omega⟩
    have hs' : sll b = x i :: (lsAf x (i + 1) d ++ rest) := by rw [hs, lsAf]; rfl
    obtain ⟨b1, t1, s1⟩ := byte_one hb hs' (n := n) (by omega)
    have hb1 : Bytes (sll b1) := by rw [s1]; rw [hs'] at hb; exact fun y hy => hb y (List.mem_cons_of_mem _ hy)
    obtain ⟨b', r', g1, g2, g3⟩ := take_hl3 hn d m (i + 1) b1 (updA r i (x i)) (by omega) hb1 s1 (by omega)
    refine ⟨b', r', g1, fun j => ⟨fun hj => ?_, fun h1 h2 => ?_⟩, fun K => ?_⟩
    · rw [(g2 j).1 (by omega)]
      unfold updA
      rw [Int.toNat_natCast]
      cases hbq : Nat.beq j i with
      | true => have := Nat.eq_of_beq_eq_true hbq; omega
      | false => rfl
    · by_cases e : j = i
      · subst e
        rw [(g2 j).1 (by omega)]
        unfold updA
        rw [Int.toNat_natCast, Nat.beq_refl]; rfl
      · exact (g2 j).2 (by omega) h2
    · have e := g3 K
      rw [hll_Take_l3, dT (by omega), cond_true, t1, Option.bind_some]
      show ((ckI 64 (i : Int)).bind fun _ => hll_Take_l3 n K m true b1 0 (updA r i (x i)) (IntKind.wrap .i64 ((i : Int) + 1))) = _
      rw [ckI_ok (by omega), Option.bind_some, wrapN (by omega)]
      exact e
theorem rightK_iff (x : Nat → Int) : rightK x = true ↔ ∀ i, i < 64 → x i ≤ 59 := by
  unfold rightK
  rw [List.all_eq_true]
  simp only [List.mem_range, Bool.not_eq_true', decide_eq_false_iff_not]
  exact ⟨fun h i hi => by have := h i hi; omega, fun h i hi => by have := h i hi; omega⟩
theorem hll_Take_ok {n : Nat} (hn : 2000040 ≤ n) {x : Nat → Int} (hx : rightK x = true) {rest : List Int} {b : Option (List Int)} (hb : Bytes (sll b)) (hs : sll b = lsA 64 x ++ rest) :
    ∃ b' r, sll b' = rest ∧ (∀ j, j < 64 → r j = x j) ∧ hll_Take n ⟨true, b, 0⟩ = some (true, b', 0, r, 0) := by
  obtain ⟨n, rfl⟩ : ∃ k, n = k + 1 := ⟨n - 1, by omega⟩
  obtain ⟨b', r, g1, g2, g3⟩ := take_hl3 (n := n) (by omega) (x := x) (rest := rest) 64 n 0 b (fun _ => 0) (by omega) hb hs (by omega)
  have hr : ∀ j, j < 64 → r j = x j := fun j hj => (g2 j).2 (by omega) hj
  refine ⟨b', r, g1, hr, ?_⟩
  unfold hll_Take
  rw [at1_succ]
  unfold withK
  refine Eq.trans (g3 _) ?_
  show ((codec_Reader_Err n ⟨true, b', 0⟩).bind _) = _
  rw [err_ok (by omega), Option.bind_some]
  show ((hll_Right n ⟨r⟩).bind _) = _
  have : rightK r = true := (rightK_iff r).2 fun i hi => by rw [hr i hi]; exact (rightK_iff x).1 hx i hi
  rw [hll_Right_ok _ (by omega), this]
  rfl
def packC (b : Option (List Int)) (k u d : Int) (h : Option (List HB)) (s : Option (List api_Value)) (r : Nat → Int) : TakeS :=
  match h, s with
  | none, none => .inl (true, b, 0, k, u, d, r, 0)
  | none, some s => .inr (.inl (true, b, 0, k, u, d, s, r))
  | some h, none => .inr (.inr (.inl (true, b, 0, k, u, d, h, r)))
  | some h, some s => .inr (.inr (.inr (true, b, 0, k, u, d, h, s, r)))
theorem take_ok20 {n : Nat} (hn : 2000110 ≤ n) {x : stat_Col} (hx : OkC x) {rest : List Int} {b : Option (List Int)} (hb : Bytes (sll b)) (hs : sll b = putC x ++ rest) :
    ∃ b' r, sll b' = rest ∧ (∀ j, j < 64 → r j = x.fSketch.fRegs j) ∧ stat_take n ⟨true, b, 0⟩ = some (packC b' x.fKind x.fNulls x.fDistinct (oapB none (sll x.fHist)) (oapp none ((sll x.fSample).map vP)) r) := by
  obtain ⟨n, rfl⟩ : ∃ k, n = k + 1 := ⟨n - 1, by omega⟩
  have k1 := hx.k1; have k4 := hx.k4; have d0 := hx.d0; have d1 := hx.d1; have n0 := hx.n0; have n1 := hx.n1; have sl := hx.sl
  obtain ⟨a1, bW, c1⟩ := hx.hists
  have hs0 : sll b = x.fKind :: (ubytes x.fNulls.toNat ++ (ubytes x.fDistinct.toNat ++ (ubytes (sll x.fHist).length ++ (putBs (sll x.fHist) ++ (ubytes (sll x.fSample).length ++ (putVs (sll x.fSample) ++ (lsA 64 x.fSketch.fRegs ++ rest))))))) := by
    rw [hs]; unfold putC; simp only [List.append_assoc, List.cons_append]
  obtain ⟨b1, t1, s1⟩ := byte_one hb hs0 (n := n) (by omega)
  have hb1 : Bytes (sll b1) := by rw [s1]; rw [hs0] at hb; exact fun y hy => hb y (List.mem_cons_of_mem _ hy)
  obtain ⟨b2, t2, s2⟩ := uintP (most := 1000000) (v := x.fNulls.toNat) (by omega) (by omega) hb1 s1 (n := n) (by omega)
  have hb2 : Bytes (sll b2) := by rw [s2]; rw [s1] at hb1; exact hb1.tail
  obtain ⟨b3, t3, s3⟩ := uintP (most := 1000000) (v := x.fDistinct.toNat) (by omega) (by omega) hb2 s2 (n := n) (by omega)
  have hb3 : Bytes (sll b3) := by rw [s3]; rw [s2] at hb2; exact hb2.tail
  obtain ⟨b4, s4, t4⟩ := hist_Take_ok hx.hr bW hb3 s3 (n := n) (by omega)
  have hb4 : Bytes (sll b4) := by
    rw [s4]; rw [s3] at hb3; exact hb3.tail.tail
  obtain ⟨b5, t5, s5⟩ := uintP (most := 60) (v := (sll x.fSample).length) (by omega) (by omega) hb4 s4 (n := n) (by omega)
  have hb5 : Bytes (sll b5) := by rw [s5]; rw [s4] at hb4; exact hb4.tail
  obtain ⟨b6, s6, t6⟩ := take_l8 (n := n) (by omega) (N := (sll x.fSample).length) (by omega) (rest := lsA 64 x.fSketch.fRegs ++ rest) (sll x.fSample) n 0 b5 none (by omega) hx.vals hb5 s5 (by show 0 ≤ 0; omega) (by omega)
  have hb6 : Bytes (sll b6) := by rw [s6]; rw [s5] at hb5; exact hb5.tail
  obtain ⟨b7, r, s7, hr, t7⟩ := hll_Take_ok (n := n) (by omega) hx.rk hb6 s6
  refine ⟨b7, r, s7, hr, ?_⟩
  have w1 : IntKind.wrap .i64 x.fKind = x.fKind := wrapI (by omega) (by omega)
  have w2 : IntKind.wrap .i64 ((x.fNulls.toNat : Nat) : Int) = x.fNulls := by rw [wv rfl (by omega)]; omega
  have w3 : IntKind.wrap .i64 ((x.fDistinct.toNat : Nat) : Int) = x.fDistinct := by rw [wv rfl (by omega)]; omega
  have t2' : codec_Reader_Uint n ⟨true, b1, 0⟩ 1000000 = some (true, b2, 0, ((x.fNulls.toNat : Nat) : Int)) := t2
  have t3' : codec_Reader_Uint n ⟨true, b2, 0⟩ 1000000 = some (true, b3, 0, ((x.fDistinct.toNat : Nat) : Int)) := t3
  have t5' : codec_Reader_Uint n ⟨true, b4, 0⟩ 60 = some (true, b5, 0, (((sll x.fSample).length : Nat) : Int)) := t5
  unfold stat_take
  rw [at1_succ, t1, Option.bind_some]
  simp only []
  rw [t2', Option.bind_some]
  simp only []
  rw [t3', Option.bind_some]
  simp only [withK]
  rw [t4, Option.bind_some, w1, w2, w3]
  cases hH : oapB none (sll x.fHist) with
  | none =>
    show ((codec_Reader_Uint n ⟨true, b4, 0⟩ 60).bind _) = _
    rw [t5', Option.bind_some]
    refine Eq.trans (t6 _) ?_
    cases hS : oapp none ((sll x.fSample).map vP) with
    | none =>
      show ((hll_Take n ⟨true, b6, 0⟩).bind _) = _
      rw [t7]; rfl
    | some s =>
      show ((hll_Take n ⟨true, b6, 0⟩).bind _) = _
      rw [t7]; rfl
  | some hh =>
    show ((codec_Reader_Uint n ⟨true, b4, 0⟩ 60).bind _) = _
    rw [t5', Option.bind_some]
    refine Eq.trans (Eq.trans (l8x_eq n true b5 0 none 0) (t6 _)) ?_
    cases hS : oapp none ((sll x.fSample).map vP) with
    | none =>
      show ((hll_Take n ⟨true, b6, 0⟩).bind _) = _
      rw [t7]; rfl
    | some s =>
      show ((hll_Take n ⟨true, b6, 0⟩).bind _) = _
      rw [t7]; rfl
/-- What is taken for a column. -/
def YC (x y : stat_Col) : Prop := ∃ r, (∀ j, j < 64 → r j = x.fSketch.fRegs j) ∧ y = ⟨x.fKind, x.fNulls, x.fDistinct, oapB none (sll x.fHist), oapp none ((sll x.fSample).map vP), ⟨r⟩⟩
inductive All2 {α β : Type} (R : α → β → Prop) : List α → List β → Prop
  | nil : All2 R [] []
  | cons {a b l m} (h : R a b) (t : All2 R l m) : All2 R (a :: l) (b :: m)
theorem All2.len {α β : Type} {R : α → β → Prop} {l : List α} {m : List β} (h : All2 R l m) : l.length = m.length := by
  induction h with
  | nil => rfl
  | cons _ _ ih => simp [ih]
def oapC (o : Option (List stat_Col)) : List stat_Col → Option (List stat_Col)
  | [] => o
  | c :: l => oapC (some (sll o ++ [c])) l
theorem sll_oapC : ∀ (l : List stat_Col) (o : Option (List stat_Col)), sll (oapC o l) = sll o ++ l
  | [], o => by simp [oapC]
  | c :: l, o => by rw [oapC, sll_oapC l]; simp [sll_some]
abbrev TakeT := Bool × (Option (List Int)) × Int × Int × (Option (List stat_Col)) × Int
theorem take_l3 {n : Nat} (hn : 2000110 ≤ n) {N : Nat} (hN : N ≤ 8) {rest : List Int} : ∀ (l : List stat_Col) (m i : Nat) (b : Option (List Int)) (o : Option (List stat_Col)), i + l.length = N → (∀ x, x ∈ l → OkC x) → Bytes (sll b) → sll b = putCs l ++ rest → (sll o).length ≤ i → l.length < m →
    ∃ b' cs, sll b' = rest ∧ All2 YC l cs ∧ ∀ (K : Bool → Option (List Int) → Int → Option (List stat_Col) → Option TakeT), stat_Take_l3 n K (N : Int) m true b 0 o (i : Int) = K true b' 0 (oapC o cs)
  | [], m, i, b, o, hi, _, _, hs, ho, hm => by
    obtain ⟨m, rfl⟩ : ∃ j, m = j + 1 := ⟨m - 1, by omega⟩
    rw [List.length_nil] at hi
    refine ⟨b, [], by rw [hs]; rfl, .nil, fun K => ?_⟩
    cases o <;> (rw [stat_Take_l3, dF (by omega), cond_false]; rfl)
  | x :: l, m, i, b, o, hi, hok, hb, hs, ho, hm => by
    obtain ⟨m, rfl⟩ : ∃ j, m = j + 1 := ⟨m - 1, by omega⟩
    rw [List.length_cons] at hi hm
    have hx := hok x (by simp)
    have hs' : sll b = putC x ++ (putCs l ++ rest) := by rw [hs]; unfold putCs; rw [List.flatMap_cons, List.append_assoc]
    obtain ⟨b1, r, s1, hr, t1⟩ := take_ok20 hn hx hb hs'
    have hb1 : Bytes (sll b1) := by rw [s1]; rw [hs'] at hb; exact hb.tail
    obtain ⟨b', cs, g1, g2, g3⟩ := take_l3 hn hN (rest := rest) l m (i + 1) b1 (some (sll o ++ [⟨x.fKind, x.fNulls, x.fDistinct, oapB none (sll x.fHist), oapp none ((sll x.fSample).map vP), ⟨r⟩⟩])) (by omega) (fun y hy => hok y (List.mem_cons_of_mem _ hy)) hb1 s1 (by rw [sll_some, List.length_append, List.length_singleton]; omega) (by omega)
    refine ⟨b', _ :: cs, g1, .cons ⟨r, hr, rfl⟩ g2, fun K => ?_⟩
    have e := g3 K
    rw [oapC, ← e]
    have w : IntKind.wrap .u64 ((i : Int) + 1) = ((i + 1 : Nat) : Int) := uwrap (by omega) (by omega)
    generalize oapB none (sll x.fHist) = HH at t1
    generalize oapp none ((sll x.fSample).map vP) = SS at t1
    have hck : ∀ c : stat_Col, ckA 136 (sll o ++ [c]).length = some () := fun c => ckA_okQ (by omega) (by simp; omega)
    cases o with
    | none =>
      rw [stat_Take_l3, dT (by omega), cond_true]
      simp only [withK]
      rw [t1, Option.bind_some]
      cases HH <;> cases SS <;>
        (simp only [packC, bne_self_eq_false, cond_false]
         rw [ckA_okQ (by omega) (by simp), Option.bind_some, w]
         rfl)
    | some o =>
      rw [stat_Take_l3, dT (by omega), cond_true]
      simp only [withK]
      rw [t1, Option.bind_some]
      rw [sll_some] at ho
      cases HH <;> cases SS <;>
        (simp only [packC, bne_self_eq_false, cond_false]
         rw [ckA_okQ (by omega) (by simp; omega), Option.bind_some, w]
         rfl)
theorem YC.hist {x y : stat_Col} (h : YC x y) : sll y.fHist = (sll x.fHist).map vpB ∧ sll y.fSample = (sll x.fSample).map vP ∧ y.fKind = x.fKind ∧ y.fNulls = x.fNulls ∧ y.fDistinct = x.fDistinct ∧ ∀ j, j < 64 → y.fSketch.fRegs j = x.fSketch.fRegs j := by
  obtain ⟨r, hr, rfl⟩ := h
  refine ⟨by show sll (oapB none _) = _; rw [sll_oapB]; rfl, by show sll (oapp none _) = _; rw [sll_oapp]; rfl, rfl, rfl, rfl, hr⟩
theorem YC.ok {x y : stat_Col} (h : YC x y) (hx : OkC x) : OkC y := by
  obtain ⟨e1, e2, e3, e4, e5, e6⟩ := h.hist
  obtain ⟨a1, bW, c1⟩ := hx.hists
  refine ⟨⟨by rw [e3]; exact hx.w.1, by rw [e4]; exact hx.w.2.1, by rw [e5]; exact hx.w.2.2.1, ⟨by rw [e1, List.length_map]; omega, fun b hb => ?_⟩, ⟨by rw [e2, List.length_map]; have := hx.sl; omega, fun v hv => ?_⟩, fun i hi => by show wI .u8 _; rw [e6 i hi]; exact hx.w.2.2.2.2.2 i hi⟩,
    by rw [e3]; exact hx.k1, by rw [e3]; exact hx.k4, by rw [e4]; exact hx.n0, by rw [e4]; exact hx.n1, by rw [e5]; exact hx.d0, by rw [e5]; exact hx.d1, by rw [e1]; exact vpB_right hx.hr bW, ?_, by rw [e2, List.length_map]; exact hx.sl, ?_, fun v hv => ?_⟩
  · rw [e1, List.mem_map] at hb
    obtain ⟨c, hc, rfl⟩ := hb
    exact vpB_W (bW c hc) (c1 c hc)
  · rw [e2, List.mem_map] at hv
    obtain ⟨w, hw, rfl⟩ := hv
    exact can_W (can_vP (hx.vals w hw).1 (hx.vals w hw).2)
  · rw [e1, e3]
    have := hx.fst
    cases hl : sll x.fHist with
    | nil => rfl
    | cons b r =>
      rw [hl] at this
      have hs := c1 b (by rw [hl]; simp)
      show ((vP b.fLow).fKind == x.fKind) = true
      rw [vP_kind (plain_right hs.pl).1]
      exact this
  · exact (rightK_iff _).2 fun i hi => by rw [e6 i hi]; exact (rightK_iff _).1 hx.rk i hi
  · rw [e2, List.mem_map] at hv
    obtain ⟨w, hw, rfl⟩ := hv
    have h1 := hx.vals w hw
    have h2 := hx.sm w hw
    unfold sampOk at h2 ⊢
    rw [can_right (can_vP h1.1 h1.2), vP_kind h1.2, e3]
    rw [h1.2] at h2
    exact h2
theorem lsAf_eq {x y : Nat → Int} (h : ∀ j, j < 64 → x j = y j) : ∀ (n i : Nat), i + n ≤ 64 → lsAf x i n = lsAf y i n
  | 0, _, _ => rfl
  | n + 1, i, hi => by rw [lsAf, lsAf, h i (by omega), lsAf_eq h n (i + 1) (by omega)]
theorem YC.put {x y : stat_Col} (h : YC x y) (hx : OkC x) : putC y = putC x := by
  obtain ⟨e1, e2, e3, e4, e5, e6⟩ := h.hist
  obtain ⟨a1, bW, c1⟩ := hx.hists
  unfold putC
  rw [e1, e2, e3, e4, e5, List.length_map, List.length_map]
  have q1 : putBs ((sll x.fHist).map vpB) = putBs (sll x.fHist) := by
    unfold putBs
    rw [List.flatMap_map]
    refine flatMap_same fun b hb => ?_
    have hs := c1 b hb
    unfold putB vpB
    simp only
    rw [vP_vP (bW b hb).1 (plain_right hs.pl).1, vP_vP (bW b hb).2.1 (plain_right hs.ph).1]
  have q2 : putVs ((sll x.fSample).map vP) = putVs (sll x.fSample) := by
    unfold putVs
    rw [List.flatMap_map]
    refine flatMap_same fun v hv => ?_
    rw [vP_vP (hx.vals v hv).1 (hx.vals v hv).2]
  have q3 : lsA 64 y.fSketch.fRegs = lsA 64 x.fSketch.fRegs := lsAf_eq e6 64 0 (by omega)
  rw [q1, q2, q3]
theorem eqAf_of {x y : Nat → Int} (h : ∀ j, j < 64 → x j = y j) : ∀ (n i : Nat), i + n ≤ 64 → eqAf x y i n = true
  | 0, _, _ => rfl
  | n + 1, i, hi => by rw [eqAf, h i (by omega), eqAf_of h n (i + 1) (by omega), beq_self_eq_true]; rfl
theorem sameLen_to {α β : Type} {p : α → β → Bool} {f : α → β} (l : List α) (h : ∀ x, x ∈ l → p x (f x) = true) : sameLen p l (l.map f) = true := by
  rw [sameLen_eq (by rw [List.length_map]), List.all_eq_true]
  intro q hq
  obtain ⟨i, hi, rfl⟩ := List.getElem_of_mem hq
  rw [List.getElem_zip, List.getElem_map]
  exact h _ (List.getElem_mem _)
theorem YC.same {x y : stat_Col} (h : YC x y) (hx : OkC x) : sameSC x y = true := by
  obtain ⟨e1, e2, e3, e4, e5, e6⟩ := h.hist
  obtain ⟨a1, bW, c1⟩ := hx.hists
  unfold sameSC
  rw [e1, e2, e3, e4, e5, beq_self_eq_true, beq_self_eq_true, beq_self_eq_true]
  rw [sameLen_to (p := sameB) _ fun b hb => by
    have hs := c1 b hb
    unfold sameB vpB
    simp only
    rw [sameV_vP (bW b hb).1 (plain_right hs.pl).1, sameV_vP (bW b hb).2.1 (plain_right hs.ph).1]; simp]
  rw [sameLen_to (p := sameV) _ fun v hv => sameV_vP (hx.vals v hv).1 (hx.vals v hv).2]
  rw [show eqA 64 x.fSketch.fRegs y.fSketch.fRegs = true from eqAf_of (fun j hj => (e6 j hj).symm) 64 0 (by omega)]
  rfl
theorem all2_same {l m : List stat_Col} (h : All2 YC l m) (hok : ∀ x, x ∈ l → OkC x) : sameLen sameSC l m = true := by
  rw [sameLen_eq h.len]
  induction h with
  | nil => rfl
  | cons h t ih =>
    rw [List.zip_cons_cons, List.all_cons, ih fun x hx => hok x (List.mem_cons_of_mem _ hx)]
    simp [h.same (hok _ (by simp))]
theorem all2_ok {l m : List stat_Col} (h : All2 YC l m) (hok : ∀ x, x ∈ l → OkC x) : ∀ y, y ∈ m → OkC y := by
  induction h with
  | nil => intro y hy; cases hy
  | cons h t ih =>
    intro y hy
    rcases List.mem_cons.1 hy with rfl | hy
    · exact h.ok (hok _ (by simp))
    · exact ih (fun x hx => hok x (List.mem_cons_of_mem _ hx)) y hy
theorem all2_put {l m : List stat_Col} (h : All2 YC l m) (hok : ∀ x, x ∈ l → OkC x) : putCs m = putCs l := by
  induction h with
  | nil => rfl
  | cons h t ih =>
    unfold putCs at ih ⊢
    rw [List.flatMap_cons, List.flatMap_cons, h.put (hok _ (by simp)), ih fun x hx => hok x (List.mem_cons_of_mem _ hx)]
theorem all2_right {rows : Int} {l m : List stat_Col} (h : All2 YC l m) (hok : ∀ x, x ∈ l → OkC x) (hr : ∀ x, x ∈ l → rightX rows x = true) : ∀ y, y ∈ m → rightX rows y = true := by
  induction h with
  | nil => intro y hy; cases hy
  | @cons a b l m h t ih =>
    intro y hy
    rcases List.mem_cons.1 hy with rfl | hy
    · have o := h.ok (hok _ (by simp))
      obtain ⟨e1, e2, e3, e4, e5, e6⟩ := h.hist
      have q := (rightX_iff rows a).1 (hr a (by simp))
      exact (rightX_iff rows _).2 ⟨⟨o.k1, o.k4⟩, by rw [e4]; exact q.2.1, by rw [e5]; exact q.2.2.1, o.hr, o.fst, o.sl, o.rk, List.all_eq_true.2 o.sm⟩
    · exact ih (fun x hx => hok x (List.mem_cons_of_mem _ hx)) (fun x hx => hr x (List.mem_cons_of_mem _ hx)) y hy
theorem stat_Take_ok {n : Nat} (hn : 2000120 ≤ n) {s : stat_Stat} (hw : W_stat_Stat s) (hr : rightXS s = true) {rest : List Int} {b : Option (List Int)} (hb : Bytes (sll b)) (hs : sll b = putS s ++ rest) :
    ∃ b' cs, sll b' = rest ∧ All2 YC (sll s.fCols) cs ∧ stat_Take n ⟨true, b, 0⟩ = some (true, b', 0, s.fRows, oapC none cs, 0) := by
  obtain ⟨n, rfl⟩ : ∃ k, n = k + 1 := ⟨n - 1, by omega⟩
  obtain ⟨r0, r1, c1, c8, hc⟩ := rightXS_of hr
  have hok : ∀ x, x ∈ sll s.fCols → OkC x := fun x hx => okC_of (hw.2.2 x hx) r1 (hc x hx)
  have hs0 : sll b = ubytes s.fRows.toNat ++ (ubytes (sll s.fCols).length ++ (putCs (sll s.fCols) ++ rest)) := by rw [hs]; unfold putS; simp only [List.append_assoc]
  obtain ⟨b1, t1, s1⟩ := uintP (most := 1000000) (v := s.fRows.toNat) (by omega) (by omega) hb hs0 (n := n) (by omega)
  have hb1 : Bytes (sll b1) := by rw [s1]; rw [hs0] at hb; exact hb.tail
  obtain ⟨b2, t2, s2⟩ := uintP (most := 8) (v := (sll s.fCols).length) (by omega) (by omega) hb1 s1 (n := n) (by omega)
  have hb2 : Bytes (sll b2) := by rw [s2]; rw [s1] at hb1; exact hb1.tail
  obtain ⟨b3, cs, s3, h2, t3⟩ := take_l3 (n := n) (by omega) (N := (sll s.fCols).length) c8 (rest := rest) (sll s.fCols) n 0 b2 none (by omega) hok hb2 s2 (by show 0 ≤ 0; omega) (by omega)
  refine ⟨b3, cs, s3, h2, ?_⟩
  have t1' : codec_Reader_Uint n ⟨true, b, 0⟩ 1000000 = some (true, b1, 0, ((s.fRows.toNat : Nat) : Int)) := t1
  have t2' : codec_Reader_Uint n ⟨true, b1, 0⟩ 8 = some (true, b2, 0, (((sll s.fCols).length : Nat) : Int)) := t2
  have w : IntKind.wrap .i64 ((s.fRows.toNat : Nat) : Int) = s.fRows := by rw [wv rfl (by omega)]; omega
  have e1 : codec_Reader_Err n ⟨true, b3, 0⟩ = some 0 := err_ok (by omega)
  have hcl := h2.len
  have hcs : sll (oapC none cs) = cs := by rw [sll_oapC]; rfl
  have hWy : W_stat_Stat ⟨s.fRows, oapC none cs⟩ := ⟨hw.1, by show (sll (oapC none cs)).length ≤ _; rw [hcs]; omega, fun y hy => by
    have hy' : y ∈ sll (oapC none cs) := hy
    rw [hcs] at hy'
    exact (all2_ok h2 hok y hy').w⟩
  have hRy : rightXS ⟨s.fRows, oapC none cs⟩ = true := by
    unfold rightXS
    show (!(((decide (s.fRows < 0) || decide (s.fRows > 1000000)) || decide (((sll (oapC none cs)).length : Int) < 1)) || decide (((sll (oapC none cs)).length : Int) > 8)) && (sll (oapC none cs)).all (rightX s.fRows)) = true
    rw [hcs, dF (by omega), dF (by omega), dF (by omega), dF (by omega), List.all_eq_true.2 (all2_right h2 hok hc)]
    rfl
  have e2 := stat_RightX_ok hWy (n := n) (by omega)
  rw [hRy] at e2
  unfold stat_Take
  rw [at1_succ, t1', Option.bind_some]
  simp only [withK]
  rw [t2', Option.bind_some]
  refine Eq.trans (t3 _) ?_
  cases ho : oapC none cs with
  | none =>
    rw [ho] at e2
    simp only []
    rw [e1, Option.bind_some, w, e2]
    rfl
  | some y =>
    rw [ho] at e2
    simp only []
    rw [e1, Option.bind_some, w, e2]
    rfl
theorem StatBack_big {n : Nat} (hn : 2000200 ≤ n) (hn2 : n < 100000000) (hwk : law20_works n = some true) {a : S20} {t : Option (List Int)} (ha : W_tabularyref20_Stat a) (ht : wSl (wI .u8) t) : law20_StatBack (n + 1) a t = some true := by
  unfold law20_StatBack
  rw [at1_succ, hwk, Option.bind_some, Bool.not_true, cond_false, given20_ok ha (by omega), Option.bind_some, great_ok (s := ⟨a.fRows, a.fCols⟩) ha (by omega), Option.bind_some]
  cases hq : (greatS ⟨a.fRows, a.fCols⟩ || decide (((sll t).length : Int) > 2000)) with
  | true => rfl
  | false =>
  have wg := gs_W ha
  rw [cond_false, stat_RightX_ok wg (by omega), Option.bind_some]
  cases hr : rightXS (gs a) with
  | false => rfl
  | true =>
  rw [Bool.not_true, cond_false, stat_Put_ok wg hr (by omega) hn2, Option.bind_some]
  obtain ⟨r0, r1, c1, c8, hc⟩ := rightXS_of hr
  have hok : ∀ x, x ∈ sll (gs a).fCols → OkC x := fun x hx => okC_of (wg.2.2 x hx) r1 (hc x hx)
  have hB := bytes_wSl ht
  have htl := ht.1
  obtain ⟨P, hP⟩ : ∃ P, P = putS (gs a) := ⟨_, rfl⟩
  have l1 := ubytes_length (gs a).fRows.toNat 9 (by omega)
  have l2 := ubytes_length (sll (gs a).fCols).length 9 (by omega)
  have lcs : ∀ l : List stat_Col, (∀ x, x ∈ l → OkC x) → (putCs l).length ≤ 15000 * l.length ∧ Bytes (putCs l) := by
    intro l
    induction l with
    | nil => intro _; exact ⟨by simp [putCs], fun y hy => by simp [putCs] at hy⟩
    | cons x l ih =>
      intro h
      obtain ⟨i1, i2⟩ := ih fun y hy => h y (List.mem_cons_of_mem _ hy)
      have := putC_len (h x (by simp))
      unfold putCs at i1 i2 ⊢
      rw [List.flatMap_cons]
      exact ⟨by rw [List.length_append, List.length_cons]; omega, Bytes.app (putC_bytes (h x (by simp))) i2⟩
  obtain ⟨q1, q2⟩ := lcs _ hok
  have hPl : P.length ≤ 200000 := by rw [hP]; unfold putS; simp only [List.length_append]; omega
  have hPb : Bytes P := by rw [hP]; unfold putS; exact Bytes.app (Bytes.app (bytes_ubytes _) (bytes_ubytes _)) q2
  have hPe : P.isEmpty = false ∨ P.isEmpty = true := by cases P.isEmpty <;> simp
  rw [← hP]
  have fin : ∀ y : Option (List Int), sll y = P ++ sll t → withK (fun (k30 : Bool → (Option (List Int)) → Int → Int → (Option (List stat_Col)) → Int → Option (Bool)) => (stat_Take n (codec_Reader.mk true y 0)).bind fun | (x58, x59, x60, x61, none, x63) => k30 x58 x59 x60 x61 none x63 | (x58, x59, x60, x61, some x62, x63) => k30 x58 x59 x60 x61 (some x62) x63) (fun | y24, y25, y26, y27, none, y29 => bif (y29 == 0) then (stat_Same n (gs a) (stat_Stat.mk y27 none)).bind fun x32 => bif x32 then (codec_Reader_Left n (codec_Reader.mk y24 y25 y26)).bind fun x36 => bif (x36 == ((sll t).length : Int)) then (stat_Put_nil n (stat_Stat.mk y27 none)).bind fun x39 => some (sEq (strOf x39) (strOf P)) else some false else some false else some false | y24, y25, y26, y27, (some y28), y29 => bif (y29 == 0) then (stat_Same n (gs a) (stat_Stat.mk y27 (some y28))).bind fun x45 => bif x45 then (codec_Reader_Left n (codec_Reader.mk y24 y25 y26)).bind fun x49 => bif (x49 == ((sll t).length : Int)) then (stat_Put_nil_2 n y28 y27).bind fun x52 => some (sEq (strOf x52) (strOf P)) else some false else some false else some false) = some true := by
    intro y hy
    obtain ⟨b', cs, g1, g2, g3⟩ := stat_Take_ok (n := n) (by omega) wg hr (rest := sll t) (b := y) (by rw [hy]; exact Bytes.app hPb hB) (by rw [hy, hP])
    have hcl := g2.len
    have hcs : sll (oapC none cs) = cs := by rw [sll_oapC]; rfl
    have hWy : W_stat_Stat ⟨(gs a).fRows, oapC none cs⟩ := ⟨wg.1, by show (sll (oapC none cs)).length ≤ _; rw [hcs]; omega, fun y hy => by
      have hy' : y ∈ sll (oapC none cs) := hy
      rw [hcs] at hy'
      exact (all2_ok g2 hok y hy').w⟩
    have hRy : rightXS ⟨(gs a).fRows, oapC none cs⟩ = true := by
      unfold rightXS
      show (!(((decide ((gs a).fRows < 0) || decide ((gs a).fRows > 1000000)) || decide (((sll (oapC none cs)).length : Int) < 1)) || decide (((sll (oapC none cs)).length : Int) > 8)) && (sll (oapC none cs)).all (rightX (gs a).fRows)) = true
      rw [hcs, dF (by omega), dF (by omega), dF (by omega), dF (by omega), List.all_eq_true.2 (all2_right g2 hok hc)]
      rfl
    have hS : stat_Same n (gs a) ⟨(gs a).fRows, oapC none cs⟩ = some true := by
      rw [stat_Same_ok wg hWy (by omega)]
      show some (((gs a).fRows == (gs a).fRows) && sameLen sameSC (sll (gs a).fCols) (sll (oapC none cs))) = _
      rw [hcs, all2_same g2 hok, beq_self_eq_true]; rfl
    have hl : codec_Reader_Left n ⟨true, b', 0⟩ = some ((sll t).length : Int) := by rw [left_ok (by omega), g1]
    have hPy : stat_Put_nil n ⟨(gs a).fRows, oapC none cs⟩ = some P := by
      rw [stat_Put_ok hWy hRy (by omega) hn2, hP]
      unfold putS
      show some ((ubytes (gs a).fRows.toNat ++ ubytes (sll (oapC none cs)).length) ++ putCs (sll (oapC none cs))) = _
      rw [hcs, all2_put g2 hok, ← hcl]
    unfold withK
    simp only []
    rw [g3, Option.bind_some]
    cases ho : oapC none cs with
    | none =>
      rw [ho] at hS hPy
      simp only [beq_self_eq_true, cond_true]
      rw [hS, Option.bind_some, cond_true, hl, Option.bind_some, beq_self_eq_true, cond_true, hPy, Option.bind_some, sEq_self]
    | some o =>
      rw [ho] at hS hPy
      simp only [beq_self_eq_true, cond_true]
      rw [hS, Option.bind_some, cond_true, hl, Option.bind_some, beq_self_eq_true, cond_true, put2_ok, hPy, Option.bind_some, sEq_self]
  have hrd : ∀ y, codec_Read n y = some () := fun y => by
    obtain ⟨n, rfl⟩ : ∃ k, n = k + 1 := ⟨n - 1, by omega⟩
    rfl
  rw [withK]
  exact join_forms hPl htl hrd fin
theorem StatBack_true {n : Nat} (h : n = 4000000) {a : S20} {t : Option (List Int)} (ha : W_tabularyref20_Stat a) (ht : wSl (wI .u8) t) : law20_StatBack n a t = some true := by
  subst h
  exact StatBack_big (n := 3999999) (by decide) (by decide) works20_ok ha ht
end Go.Pl
