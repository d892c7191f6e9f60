import Derived.Test.YtnfgpejdbmakkaaRV
set_option linter.unusedVariables false
set_option linter.unusedSimpArgs false
namespace Go.Pl
open Go Go.Ab
/-! ### A sample -/
abbrev WVals : Option (List api_Value) → Prop := wSl W_api_Value
def one1 (v : api_Value) : Row := some [v]
theorem wc_one (v w : api_Value) : wc (one1 v) (one1 w) = vCmp v w := by
  show lexC vCmp [v] [w] = _
  simp only [lexC]
  by_cases h : vCmp v w = 0 <;> simp [h]
theorem cnt_set_le {c : Row → Row → Int} (z x : Row) : ∀ (l : List Row) (i : Nat), cnt c z (l.set i x) ≤ cnt c z l + if c z x = 0 then 1 else 0
  | [], i => by rw [List.set_nil]; omega
  | y :: l, 0 => by rw [List.set_cons_zero, cnt_cons, cnt_cons]; omega
  | y :: l, i + 1 => by rw [List.set_cons_succ, cnt_cons, cnt_cons]; have := cnt_set_le (c := c) z x l i; omega
/-- What is held behind some values. -/
structure Held (size : Nat) (p held : List api_Value) : Prop where
  W : ∀ v, v ∈ held → W_api_Value v
  len : held.length = min p.length size
  inn : ∀ z, cnt wc z (held.map one1) ≤ cnt wc z (p.map one1)
  all : p.length ≤ size → held = p.map vP
theorem one_same {v : api_Value} (hw : W_api_Value v) (h : vRight v = true) (z : Row) : wc z (one1 (vP v)) = 0 ↔ wc z (one1 v) = 0 :=
  wc_ord.eq0 (by rw [wc_one]; exact vCmp_vP hw h) z
theorem vP_W {v : api_Value} (hw : W_api_Value v) (h : vRight v = true) : W_api_Value (vP v) := can_W (can_vP hw h)
theorem Held.next {size : Nat} {p held : List api_Value} (h : Held size p held) {v : api_Value} (hw : W_api_Value v) (hr : vRight v = true) (hlt : held.length < size) : Held size (p ++ [v]) (held ++ [vP v]) := by
  have hl := h.len
  refine ⟨fun w hw' => ?_, by rw [List.length_append, List.length_append, List.length_singleton, List.length_singleton]; omega, fun z => ?_, fun hs => ?_⟩
  · rw [List.mem_append, List.mem_singleton] at hw'
    rcases hw' with h' | rfl
    · exact h.W w h'
    · exact vP_W hw hr
  · rw [List.map_append, List.map_append, cnt_append, cnt_append]
    have := h.inn z
    have e := one_same hw hr z
    simp only [List.map_cons, List.map_nil]
    rw [cnt_cons, cnt_cons, cnt_nil]
    by_cases q : wc z (one1 v) = 0
    · rw [if_pos q, if_pos (e.2 q)]; omega
    · rw [if_neg q, if_neg fun q' => q (e.1 q')]; omega
  · rw [List.length_append, List.length_singleton] at hs
    rw [h.all (by omega), List.map_append]; rfl
theorem Held.full {size : Nat} {p held : List api_Value} (h : Held size p held) {v : api_Value} (hw : W_api_Value v) (hr : vRight v = true) (hlt : ¬ held.length < size) (k : Nat) : Held size (p ++ [v]) (held.set k (vP v)) := by
  have hl := h.len
  refine ⟨fun w hw' => ?_, by rw [List.length_set, List.length_append, List.length_singleton]; omega, fun z => ?_, fun hs => ?_⟩
  · rcases List.mem_or_eq_of_mem_set hw' with h' | rfl
    · exact h.W w h'
    · exact vP_W hw hr
  · rw [List.map_set, List.map_append, cnt_append]
    have := h.inn z
    have e := one_same hw hr z
    have s := cnt_set_le (c := wc) z (one1 (vP v)) (held.map one1) k
    simp only [List.map_cons, List.map_nil]
    rw [cnt_cons, cnt_nil]
    by_cases q : wc z (one1 v) = 0
    · rw [if_pos (e.2 q)] at s; rw [if_pos q]; omega
    · rw [if_neg fun q' => q (e.1 q')] at s; rw [if_neg q]; omega
  · rw [List.length_append, List.length_singleton] at hs; omega
theorem Held.keep {size : Nat} {p held : List api_Value} (h : Held size p held) {v : api_Value} (hlt : ¬ held.length < size) : Held size (p ++ [v]) held := by
  have hl := h.len
  refine ⟨h.W, by rw [List.length_append, List.length_singleton]; omega, fun z => ?_, fun hs => ?_⟩
  · rw [List.map_append, cnt_append]; have := h.inn z; omega
  · rw [List.length_append, List.length_singleton] at hs; omega
abbrev OfR := Option (List api_Value) × Int
theorem draw_lt {d : Int} {s : Nat} (hd : wI .u64 d) (hs : 1 ≤ s) : ∃ k : Nat, Int.tmod d (s : Int) = (k : Int) ∧ k < s := by
  have h0 : 0 ≤ d := by have := hd.1; simpa [IntKind.min, IntKind.signed] using this
  rw [Int.tmod_eq_emod_of_nonneg h0]
  have h1 := Int.emod_nonneg d (show (s : Int) ≠ 0 by omega)
  have h2 := Int.emod_lt_of_pos d (show (0 : Int) < (s : Int) by omega)
  exact ⟨(d % (s : Int)).toNat, by omega, by omega⟩
theorem feed1_ok {n : Nat} (hn : 10 ≤ n) {size seen : Nat} (h1 : 1 ≤ size) (h2 : size ≤ 400) (hs : seen < 2000000) {p : List api_Value} (hp : Held size p []) (hp0 : p = []) {v : api_Value} (hw : W_api_Value v) {d : Int} (hd : wI .u64 d) :
    (vRight v = false ∧ reservoir_Reservoir_Feed n (size : Int) (seen : Int) v d = some ((seen : Int), none, 2)) ∨
    (vRight v = true ∧ reservoir_Reservoir_Feed n (size : Int) (seen : Int) v d = some (((seen + 1 : Nat) : Int), some [vP v], 0)) := by
  obtain ⟨n, rfl⟩ : ∃ k, n = k + 1 := ⟨n - 1, by omega⟩
  unfold reservoir_Reservoir_Feed
  rw [at1_succ, show ((size : Int) == 0) = false by simp; omega, cond_false, value_Right_ok v (by omega), Option.bind_some]
  cases hr : vRight v with
  | false => exact .inl ⟨rfl, rfl⟩
  | true =>
    refine .inr ⟨rfl, ?_⟩
    rw [Bool.not_true, cond_false, value_Plain_ok hw (by omega), Option.bind_some, dT (by omega : (0 : Int) < (size : Int)), cond_true, ckA_ok (by simp) (by omega), Option.bind_some, wrapN (by omega)]
    rfl
theorem feed2_ok {n : Nat} (hn : 10 ≤ n) {size seen : Nat} (h1 : 1 ≤ size) (h2 : size ≤ 400) (hs : seen < 2000000) {p held : List api_Value} (hp : Held size p held) (hps : p.length = seen) {v : api_Value} (hw : W_api_Value v) {d : Int} (hd : wI .u64 d) :
    (vRight v = false ∧ reservoir_Reservoir_Feed_2 n held (size : Int) (seen : Int) v d = some ((seen : Int), held, 2)) ∨
    (vRight v = true ∧ ∃ held', reservoir_Reservoir_Feed_2 n held (size : Int) (seen : Int) v d = some (((seen + 1 : Nat) : Int), held', 0) ∧ Held size (p ++ [v]) held') := by
  obtain ⟨n, rfl⟩ : ∃ k, n = k + 1 := ⟨n - 1, by omega⟩
  have hl := hp.len
  unfold reservoir_Reservoir_Feed_2
  rw [at1_succ, show ((size : Int) == 0) = false by simp; omega, cond_false, value_Right_ok v (by omega), Option.bind_some]
  cases hr : vRight v with
  | false => exact .inl ⟨rfl, rfl⟩
  | true =>
    refine .inr ⟨rfl, ?_⟩
    rw [Bool.not_true, cond_false, value_Plain_ok hw (by omega), Option.bind_some, wrapN (by omega), wrapU (x := ((seen + 1 : Nat) : Int)) (by omega) (by omega), wrapU (x := (size : Int)) (by omega) (by omega)]
    by_cases hlt : held.length < size
    · rw [dT (by omega : (held.length : Int) < (size : Int)), cond_true, ckA_ok (by rw [List.length_append, List.length_singleton]; omega) (by omega), Option.bind_some]
      exact ⟨_, rfl, hp.next hw hr hlt⟩
    · rw [dF (by omega : ¬ (held.length : Int) < (size : Int)), cond_false]
      have hz : ckZ ((seen + 1 : Nat) : Int) = some () := by
        unfold ckZ
        rw [if_neg]
        omega
      obtain ⟨k, hk1, hk2⟩ := draw_lt hd (show 1 ≤ seen + 1 by omega)
      rw [hz, Option.bind_some, hk1]
      by_cases hks : k < size
      · rw [dT (by omega : (k : Int) < (size : Int)), cond_true, idx_nat, List.getElem?_eq_getElem (by omega), Option.bind_some, Int.toNat_natCast]
        exact ⟨_, rfl, hp.full hw hr hlt k⟩
      · rw [dF (by omega : ¬ (k : Int) < (size : Int)), cond_false]
        exact ⟨_, rfl, hp.keep hlt⟩
/-- What is known of a sample. -/
def OfOk (l : List api_Value) (size : Nat) (r : OfR) : Prop := (r = (none, 2)) ∨ (r.2 = 0 ∧ ∃ held, r.1 = some held ∧ Held size l held ∧ ∀ v, v ∈ l → vRight v = true)
theorem draw_ok {a2 : Option (List Int)} (h2 : wSl (wI .u64) a2) (i : Nat) {R : Type} : ∃ d, wI .u64 d ∧ ∀ (K : Int → Option R), withK (fun k => bif (decide ((i : Int) < ((sll a2).length : Int))) then (idx (sll a2) (i : Int)).bind fun x => k x else k 0) K = K d := by
  by_cases h : i < (sll a2).length
  · refine ⟨(sll a2)[i], h2.2 _ (List.getElem_mem _), fun K => ?_⟩
    rw [dT (by omega : (i : Int) < ((sll a2).length : Int)), idx_nat, List.getElem?_eq_getElem h]; rfl
  · refine ⟨0, ⟨by decide, by decide⟩, fun K => ?_⟩
    rw [dF (by omega : ¬ (i : Int) < ((sll a2).length : Int))]; rfl
theorem Held.nil (size : Nat) : Held size [] [] := ⟨fun v h => absurd h List.not_mem_nil, by simp, fun z => Nat.le_refl _, fun _ => rfl⟩
theorem of_loop {n : Nat} (hn : 2000010 ≤ n) {a0 : Option (List api_Value)} {a2 : Option (List Int)} (ha : WVals a0) (h2 : wSl (wI .u64) a2) {size : Nat} (hs1 : 1 ≤ size) (hs2 : size ≤ 400) {K : Int → Option (List api_Value) → Option OfR}
    (hK : ∀ seen held, Held size (sll a0) (sll held) → (held = none → sll a0 = []) → (∀ v, v ∈ sll a0 → vRight v = true) → ∃ r, K seen held = some r ∧ OfOk (sll a0) size r) :
    ∀ (l : List api_Value) (m : Nat) (p : List api_Value) (held : Option (List api_Value)), sll a0 = p ++ l → Held size p (sll held) → (held = none → p = []) → (∀ v, v ∈ p → vRight v = true) → l.length < m →
      ∃ r, reservoir_Of_l5 n a0 (size : Int) a2 K m (p.length : Int) held (p.length : Int) = some r ∧ OfOk (sll a0) size r := by
  have ha1 := ha.1
  intro l
  induction l with
  | nil =>
    intro m p held he hh h0 hr hm
    obtain ⟨m, rfl⟩ : ∃ j, m = j + 1 := ⟨m - 1, by omega⟩
    rw [List.append_nil] at he
    subst he
    have e : reservoir_Of_l5 n a0 (size : Int) a2 K (m + 1) ((sll a0).length : Int) held ((sll a0).length : Int) = K ((sll a0).length : Int) held := by
      cases held <;> (rw [reservoir_Of_l5, dF (by omega), cond_false])
    rw [e]
    exact hK _ _ hh h0 hr
  | cons v l ih =>
    intro m p held he hh h0 hr hm
    obtain ⟨m, rfl⟩ : ∃ j, m = j + 1 := ⟨m - 1, by omega⟩
    have hlen : (sll a0).length = p.length + (l.length + 1) := by rw [he]; simp
    rw [List.length_cons] at hm
    have hv : W_api_Value v := ha.2 v (by rw [he]; simp)
    have he' : sll a0 = (p ++ [v]) ++ l := by rw [he]; simp
    have hl' : (p ++ [v]).length = p.length + 1 := by simp
    have hpv : ∀ {b : Bool}, vRight v = b → b = true → ∀ w, w ∈ p ++ [v] → vRight w = true := fun e1 e2 w hw => by
      rw [List.mem_append, List.mem_singleton] at hw
      rcases hw with hw | rfl
      · exact hr w hw
      · rw [e1, e2]
    obtain ⟨d, hd, e⟩ := draw_ok h2 p.length (R := OfR)
    cases held with
    | none =>
      have hp0 := h0 rfl
      have hx : idx (sll a0) (p.length : Int) = some v := by rw [he]; exact idx_app p v l
      rcases feed1_ok (n := n) (by omega) hs1 hs2 (show p.length < 2000000 by rw [hp0]; decide) hh hp0 hv hd with ⟨q1, q2⟩ | ⟨q1, q2⟩
      · refine ⟨(none, 2), ?_, .inl rfl⟩
        rw [reservoir_Of_l5, dT (by omega), cond_true, hx, Option.bind_some, e, q2]
        rfl
      · obtain ⟨r, g1, g2⟩ := ih m (p ++ [v]) (some [vP v]) he' (by have := hh.next hv q1 (by simp [sll]; omega); exact this) (fun h => by cases h) (hpv q1 rfl) (by omega)
        refine ⟨r, ?_, g2⟩
        rw [reservoir_Of_l5, dT (by omega), cond_true, hx, Option.bind_some, e, q2, ← g1, hl', wrapN (by omega)]
        rfl
    | some held =>
      have hx : idx (sll a0) (p.length : Int) = some v := by rw [he]; exact idx_app p v l
      rcases feed2_ok (n := n) (by omega) hs1 hs2 (show p.length < 2000000 by omega) hh rfl hv hd with ⟨q1, q2⟩ | ⟨q1, held', q2, q3⟩
      · refine ⟨(none, 2), ?_, .inl rfl⟩
        rw [reservoir_Of_l5, dT (by omega), cond_true, hx, Option.bind_some, e]
        simp only [sll] at q2
        rw [q2]
        rfl
      · obtain ⟨r, g1, g2⟩ := ih m (p ++ [v]) (some held') he' q3 (fun h => by cases h) (hpv q1 rfl) (by omega)
        refine ⟨r, ?_, g2⟩
        simp only [sll] at q2
        rw [reservoir_Of_l5, dT (by omega), cond_true, hx, Option.bind_some, e, q2, ← g1, hl', wrapN (by omega)]
        rfl
theorem of_ok {a0 : Option (List api_Value)} {a1 : Int} {a2 : Option (List Int)} (ha : WVals a0) (h2 : wSl (wI .u64) a2) {n : Nat} (hn : 2000020 ≤ n) :
    ∃ r : OfR, reservoir_Of n a0 a1 a2 = some r ∧ (r = (none, 2) ∨ ∃ size : Nat, a1 = (size : Int) ∧ r.2 = 0 ∧ ∃ held, r.1 = some held ∧ Held size (sll a0) held ∧ ∀ v, v ∈ sll a0 → vRight v = true) := by
  obtain ⟨n, rfl⟩ : ∃ k, n = k + 1 := ⟨n - 1, by omega⟩
  have ha1 := ha.1
  unfold reservoir_Of
  rw [at1_succ]
  obtain ⟨k, rfl⟩ : ∃ k, n = k + 1 := ⟨n - 1, by omega⟩
  by_cases hb : a1 < 1 ∨ a1 > 400
  · have e : reservoir_New (k + 1) a1 = some (.inl ()) := by
      unfold reservoir_New
      rw [at1_succ]
      have : (decide (a1 < 1) || decide (a1 > 400)) = true := by simpa using hb
      rw [this]; rfl
    refine ⟨(none, 2), ?_, .inl rfl⟩
    unfold withK
    simp only []
    rw [e]
    rfl
  · have e : reservoir_New (k + 1) a1 = some (.inr ()) := by
      unfold reservoir_New
      rw [at1_succ]
      have : (decide (a1 < 1) || decide (a1 > 400)) = false := by simpa using hb
      rw [this]; rfl
    obtain ⟨size, rfl⟩ : ∃ s : Nat, a1 = (s : Int) := ⟨a1.toNat, by omega⟩
    have hloop : ∀ K, (∀ seen held, Held size (sll a0) (sll held) → (held = none → sll a0 = []) → (∀ v, v ∈ sll a0 → vRight v = true) → ∃ r, K seen held = some r ∧ OfOk (sll a0) size r) → ∃ r, withK (fun k10 => reservoir_Of_l5 (k + 1) a0 (size : Int) a2 k10 (k + 1) 0 none 0) K = some r ∧ OfOk (sll a0) size r :=
      fun K hK => of_loop (n := k + 1) (by omega) ha h2 (size := size) (by omega) (by omega) (K := K) hK (sll a0) (k + 1) [] none rfl (Held.nil size) (fun _ => rfl) (fun v h => absurd h List.not_mem_nil) (by omega)
    have fin : ∃ r, withK (fun (k1 : (Unit) ⊕ (Unit) → Option OfR) => (reservoir_New (k + 1) (size : Int)).bind fun | .inl _ => k1 (.inl ()) | .inr (_) => k1 (.inr (()))) (fun | (.inl ()) => some (none, 2) | (.inr (())) => withK (fun (k10 : Int → (Option (List api_Value)) → Option OfR) => reservoir_Of_l5 (k + 1) a0 (size : Int) a2 k10 (k + 1) 0 none 0) (fun | y4, none => (reservoir_Reservoir_Sample (k + 1) (size : Int) y4).bind fun _ => some ((some (([] : List api_Value) ++ (List.replicate (Int.toNat 0) (api_Value.mk 0 0 0 ByteArray.empty)).drop ([] : List api_Value).length)), 0) | y4, (some y5) => (reservoir_Reservoir_Sample_2 (k + 1) y5 (size : Int) y4).bind fun _ => some ((some (y5 ++ (List.replicate (Int.toNat (y5.length : Int)) (api_Value.mk 0 0 0 ByteArray.empty)).drop y5.length)), 0))) = some r ∧ OfOk (sll a0) size r := by
      unfold withK
      rw [e]
      refine hloop _ fun seen held hh h0 hr => ?_
      cases held with
      | none => exact ⟨(some [], 0), rfl, .inr ⟨rfl, [], rfl, hh, hr⟩⟩
      | some held =>
        have hl := hh.len
        simp only [sll_some] at hl hh
        refine ⟨(some held, 0), ?_, .inr ⟨rfl, held, rfl, hh, hr⟩⟩
        show (reservoir_Reservoir_Sample_2 (k + 1) held (size : Int) seen).bind (fun _ => some ((some (held ++ (List.replicate (Int.toNat (held.length : Int)) (api_Value.mk 0 0 0 ByteArray.empty)).drop held.length)), (0 : Int))) = _
        unfold reservoir_Reservoir_Sample_2
        have c1 : ckM 40 (held.length : Int) (held.length : Int) = some () := by unfold ckM; rw [if_pos (by omega)]
        have c2 : ckB 0 (held.length : Int) ((List.replicate (Int.toNat (held.length : Int)) (api_Value.mk 0 0 0 ByteArray.empty)).length : Int) = some () := by unfold ckB; rw [if_pos (by simp)]
        rw [at1_succ, c1, c2]
        simp
    obtain ⟨r, g1, g2⟩ := fin
    refine ⟨r, g1, ?_⟩
    rcases g2 with h | ⟨h1, held, h2, h3, h4⟩
    · exact .inl h
    · exact .inr ⟨size, rfl, h1, held, h2, h3, h4⟩
def onesO (l : List api_Value) : Option (List Row) := if l = [] then none else some (l.map one1)
theorem sll_onesO (l : List api_Value) : sll (onesO l) = l.map one1 := by
  unfold onesO; split
  · rename_i h; subst h; rfl
  · rfl
theorem ones_ok {a : Option (List api_Value)} (ha : WVals a) {n : Nat} (h : 2000010 ≤ n) : law18_ones n a = some (onesO (sll a)) := by
  obtain ⟨n, rfl⟩ : ∃ k, n = k + 1 := ⟨n - 1, by omega⟩
  have ha1 := ha.1
  unfold law18_ones
  simp only [at1_succ, withK]
  generalize hk : (fun x : Option (List Row) => (match x with | none => some none | some y3 => some (some y3) : Option (Option (List Row)))) = k
  have hks : ∀ s, k s = some s := fun s => by subst hk; cases s <;> rfl
  have e0 : law18_ones_l3 n a k n none 0 = rangeS (fun (x : api_Value) i (s : Option (List Row)) rec => (ckA 24 (sll s ++ [(some ([x] : List api_Value))]).length).bind fun _ => rec (some (sll s ++ [(some ([x] : List api_Value))]))) k (sll a) 0 none :=
    loop_range0 (l := sll a) (by omega) (F := fun m (s : Option (List Row)) i => law18_ones_l3 n a k m s i) (fun m i s _ => by cases s <;> rfl) (by omega) none
  have hgen : ∀ (l : List api_Value) (i : Nat) (s : Option (List Row)), (sll s).length + l.length ≤ 1048576 → rangeS (fun (x : api_Value) i (s : Option (List Row)) rec => (ckA 24 (sll s ++ [(some ([x] : List api_Value))]).length).bind fun _ => rec (some (sll s ++ [(some ([x] : List api_Value))]))) k l i s = some (if l = [] then s else some (sll s ++ l.map one1)) := by
    intro l
    induction l with
    | nil => intro i s _; rw [if_pos rfl]; exact hks s
    | cons x l ih =>
      intro i s hs
      simp only [List.length_cons] at hs
      simp only [rangeS]
      rw [ckA_ok (b := 24) (by simp; omega) (by omega), Option.bind_some, ih (i + 1) _ (by simp only [sll_some, List.length_append, List.length_singleton]; omega)]
      rw [if_neg (List.cons_ne_nil x l)]
      by_cases hl : l = []
      · subst hl; rw [if_pos rfl]; rfl
      · rw [if_neg hl]
        show some (some ((sll s ++ [some [x]]) ++ l.map one1)) = _
        rw [List.append_assoc]; rfl
  have h1 := hgen (sll a) 0 none (by show 0 + (sll a).length ≤ 1048576; omega)
  refine Eq.trans ?_ (Eq.trans (e0.trans h1) ?_)
  · congr 1
  · unfold onesO; rfl
theorem ones_W {l : List api_Value} (hl : l.length ≤ 1048576) (h : ∀ v, v ∈ l → W_api_Value v) : WRows (onesO l) := by
  refine ⟨by rw [sll_onesO, List.length_map]; exact hl, fun x hx => ?_⟩
  rw [sll_onesO, List.mem_map] at hx
  obtain ⟨v, hv, rfl⟩ := hx
  exact ⟨(show 1 ≤ 1048576 by decide), fun w hw => by
    have hw : w ∈ [v] := hw
    rw [List.mem_singleton] at hw
    rw [hw]; exact h v hv⟩
theorem works18_ok : law18_works 3999999 = some true := rfl
theorem ReservoirWithin_true {n : Nat} (h : n = 4000000) {l : Option (List api_Value)} {size : Int} {draws : Option (List Int)} (hl : WVals l) (hs : wI .i64 size) (hd : wSl (wI .u64) draws) : law18_ReservoirWithin n l size draws = some true := by
  subst h
  rw [show (4000000 : Nat) = 3999999 + 1 from rfl]
  unfold law18_ReservoirWithin
  rw [at1_succ, works18_ok, Option.bind_some]
  simp only [Bool.not_true, cond_false]
  by_cases h3 : ((sll l).length : Int) > 300
  · rw [dT h3, cond_true]
  rw [dF h3, cond_false]
  obtain ⟨r, e, hr⟩ := of_ok (a1 := size) hl hd (n := 3999999) (by decide)
  rw [e, Option.bind_some]
  rcases hr with rfl | ⟨sz, rfl, r2, held, r1, hh, hright⟩
  · rfl
  obtain ⟨s, e2⟩ := r
  simp only at r1 r2
  subst r1; subst r2
  have hlen := hh.len
  have w1 := ones_W (l := held) (by omega) hh.W
  have w2 := ones_W (l := sll l) hl.1 hl.2
  obtain ⟨t, ht, hi⟩ := within_ok w1 w2 (by rw [sll_onesO, List.length_map]; omega) (by rw [sll_onesO, List.length_map]; omega) (n := 3999999) (by decide)
  have htt : t = true := hi.2 (by rw [sll_onesO, sll_onesO]; exact hh.inn)
  subst htt
  have wh : WVals (some held) := ⟨by show held.length ≤ _; omega, hh.W⟩
  have hmin : (((sll (some held)).length : Int) != (if (sz : Int) < ((sll l).length : Int) then (sz : Int) else ((sll l).length : Int))) = false := by
    show ((held.length : Int) != _) = false
    rw [hlen]
    split <;> simp <;> omega
  simp only [bne_self_eq_false, cond_false]
  rw [hmin, cond_false, ones_ok wh (by decide), Option.bind_some, ones_ok hl (by decide), Option.bind_some]
  show (row_Within 3999999 (onesO held) (onesO (sll l))).bind _ = _
  rw [ht, Option.bind_some, Bool.not_true, cond_false]
  by_cases hg : ((sll l).length : Int) > (sz : Int)
  · rw [dT hg, cond_true]
  · rw [dF hg, cond_false, row_Cmp_ok wh hl (by decide), Option.bind_some]
    show some (rCmp held (sll l) == 0) = _
    rw [hh.all (by omega), show rCmp ((sll l).map vP) (sll l) = 0 from lexC_zero _ fun v hv => ⟨hl.2 v hv, hright v hv⟩]
    rfl
end Go.Pl
