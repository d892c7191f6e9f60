import Derived.Test.YtjbhpopccbhhlaaHBA
set_option linter.unusedVariables false
set_option linter.unusedSimpArgs false
set_option maxRecDepth 100000
namespace Go.Pl
open Go Go.Ab
/-! ### What holds of the buckets of a sorted list -/
theorem sm_iff (x y : V) : sm x y = true ↔ vCmp x y = 0 := by unfold sm; rw [beq_iff_eq]
theorem sm_not (x y : V) : sm x y = false ↔ vCmp x y ≠ 0 := by unfold sm; rw [beq_eq_false_iff_ne]
theorem jmp_stop (N : Nat) : ∀ (l : List V) (c : Nat) (p x : V) (r : List V), l.drop (jmp N c p l) = x :: r → sm (lastD p (l.take (jmp N c p l))) x = false ∧ N ≤ c + jmp N c p l
  | [], c, p, x, r, h => by simp at h
  | y :: l, c, p, x, r, h => by
    rw [jmp] at h ⊢
    by_cases hs : N ≤ c ∧ sm p y = false
    · rw [if_pos hs] at h ⊢
      rw [List.drop_zero] at h
      obtain ⟨rfl, rfl⟩ := List.cons.inj h
      exact ⟨hs.2, by omega⟩
    · rw [if_neg hs] at h ⊢
      rw [List.drop_succ_cons] at h
      obtain ⟨h1, h2⟩ := jmp_stop N l (c + 1) y x r h
      rw [List.take_succ_cons, lastD]
      exact ⟨h1, by omega⟩
theorem jmp_same (N : Nat) : ∀ (l : List V) (c : Nat) (p : V), N ≤ c → ∀ v, v ∈ l.take (jmp N c p l) → vCmp p v = 0
  | [], c, p, _, v, hv => by simp at hv
  | y :: l, c, p, hc, v, hv => by
    rw [jmp] at hv
    by_cases hs : N ≤ c ∧ sm p y = false
    · rw [if_pos hs] at hv; simp at hv
    · rw [if_neg hs] at hv
      have hpy : vCmp p y = 0 := by
        rw [← sm_iff]
        cases h : sm p y with
        | true => rfl
        | false => exact absurd ⟨hc, h⟩ hs
      rw [List.take_succ_cons] at hv
      rcases List.mem_cons.1 hv with rfl | hv
      · exact hpy
      · have := jmp_same N l (c + 1) y (by omega) v hv
        exact ((vCmp_ord.eq0 this p).1 hpy)
/-- Sorted: all are between the first and the last. -/
theorem srt_first {x : V} {l : List V} (h : Srt vCmp (x :: l)) : ∀ v, v ∈ x :: l → vCmp x v ≤ 0 := by
  intro v hv
  rcases List.mem_cons.1 hv with rfl | hv
  · rw [vCmp_ord.self]; exact Int.le_refl _
  · have := (List.pairwise_cons.1 h).1 v hv
    have := vCmp_ord.anti x v
    omega
theorem srt_last : ∀ {l : List V} {x : V}, Srt vCmp (x :: l) → ∀ v, v ∈ x :: l → vCmp v (lastD x l) ≤ 0
  | [], x, _, v, hv => by
    rw [List.mem_singleton] at hv
    subst hv
    rw [lastD, vCmp_ord.self]; exact Int.le_refl _
  | y :: l, x, h, v, hv => by
    have h2 := (List.pairwise_cons.1 h).2
    rw [lastD]
    rcases List.mem_cons.1 hv with rfl | hv
    · have e1 := srt_first h y (by simp)
      have e2 := srt_last h2 y (by simp)
      exact vCmp_ord.trans _ _ _ e1 e2
    · exact srt_last h2 v hv
theorem dst_zero : ∀ {l : List V} {x : V}, Srt vCmp (x :: l) → (dst x l = 0 ↔ vCmp x (lastD x l) = 0)
  | [], x, _ => by simp [dst, lastD, vCmp_ord.self]
  | y :: l, x, h => by
    have h2 := (List.pairwise_cons.1 h).2
    have hr := dst_range l y
    have ih := dst_zero h2
    have e1 := srt_first h y (by simp)
    have e2 := srt_last h2 y (by simp)
    rw [dst, lastD]
    by_cases hs : sm x y = true
    · have e : vCmp x y = 0 := (sm_iff _ _).1 hs
      rw [if_pos hs, Int.zero_add, ih]
      have l1 := vCmp_ord.left (z := lastD y l) e
      omega
    · rw [if_neg hs]
      have hne : vCmp x y ≠ 0 := fun e => hs ((sm_iff _ _).2 e)
      constructor
      · intro e; omega
      · intro e
        exfalso
        have a1 := vCmp_ord.anti x (lastD y l)
        have a2 := vCmp_ord.anti x y
        have := vCmp_ord.trans y (lastD y l) x e2 (by omega)
        omega
/-- The head and the rest of a sorted list. -/
theorem srt_parts {N : Nat} {x : V} {l : List V} (h : Srt vCmp (x :: l)) : Srt vCmp (x :: l.take (jmp N 1 x l)) ∧ Srt vCmp (l.drop (jmp N 1 x l)) ∧ ∀ y, y ∈ l.drop (jmp N 1 x l) → ∀ v, v ∈ x :: l.take (jmp N 1 x l) → vCmp v y < 0 := by
  have hcat : ((x :: l.take (jmp N 1 x l)) ++ l.drop (jmp N 1 x l)).Pairwise fun a b => ¬ vCmp b a < 0 := by
    rw [List.cons_append, List.take_append_drop]; exact h
  obtain ⟨c1, c2, c3⟩ := List.pairwise_append.1 hcat
  refine ⟨c1, c2, fun y hy v hv => ?_⟩
  cases hd : l.drop (jmp N 1 x l) with
  | nil => rw [hd] at hy; cases hy
  | cons z r =>
    have hst := (jmp_stop N l 1 x z r hd).1
    have hne : vCmp (lastD x (l.take (jmp N 1 x l))) z ≠ 0 := (sm_not _ _).1 hst
    have hlm := lastD_mem (l.take (jmp N 1 x l)) x
    have g1 := c3 _ hlm z (by rw [hd]; simp)
    have a1 := vCmp_ord.anti (lastD x (l.take (jmp N 1 x l))) z
    have g2 := srt_last c1 v hv
    have g3 := srt_first (x := z) (l := r) (by rw [← hd]; exact c2) y (by rw [← hd]; exact hy)
    have t1 := vCmp_ord.trans v (lastD x (l.take (jmp N 1 x l))) z g2 (by omega)
    have t2 := vCmp_ord.trans v z y t1 g3
    rcases Int.lt_or_le (vCmp v y) 0 with q | q
    · exact q
    · exfalso
      have e : vCmp v y = 0 := by omega
      have a2 := vCmp_ord.anti v y
      have a3 := vCmp_ord.anti v z
      have t3 := vCmp_ord.trans z y v g3 (by omega)
      have t4 := vCmp_ord.trans z v (lastD x (l.take (jmp N 1 x l))) t3 g2
      omega
abbrev bk (N : Nat) (x : V) (l : List V) : HB := ⟨x, lastD x (l.take (jmp N 1 x l)), ((jmp N 1 x l + 1 : Nat) : Int), 1 + dst x (l.take (jmp N 1 x l))⟩
theorem bk_snd {N : Nat} {x : V} {l : List V} (hs : Srt vCmp (x :: l)) (hc : ∀ v, v ∈ x :: l → CanV v ∧ v.fKind = x.fKind) (hk : x.fKind ≠ 0) (hl : l.length < 1000000) : sndB (bk N x l) = true := by
  have hj := jmp_le N l 1 x
  have hp := srt_parts (N := N) hs
  have hm := lastD_mem (l.take (jmp N 1 x l)) x
  have hmem : lastD x (l.take (jmp N 1 x l)) ∈ x :: l := by
    rcases List.mem_cons.1 hm with e | e
    · rw [e]; simp
    · exact List.mem_cons_of_mem _ (List.mem_of_mem_take e)
  have c1 := hc x (by simp)
  have c2 := hc _ hmem
  have p1 := can_plain c1.1 hk
  have p2 := can_plain c2.1 (by rw [c2.2]; exact hk)
  have hd := dst_range (l.take (jmp N 1 x l)) x
  rw [List.length_take] at hd
  have hz := dst_zero hp.1
  have hle := srt_first hp.1 _ hm
  unfold sndB
  have e : ((vCmp x (lastD x (l.take (jmp N 1 x l))) == 0) == (1 + dst x (l.take (jmp N 1 x l)) == 1)) = true := by
    rw [beq_iff_eq, Bool.eq_iff_iff, beq_iff_eq, beq_iff_eq]
    omega
  simp only [p1, p2, c2.2, e, beq_self_eq_true, Bool.and_true, Bool.true_and, Bool.and_eq_true, decide_eq_true_eq]
  omega
theorem bl_chain {N : Nat} {K : Int} (hK : K ≠ 0) : ∀ (k : Nat) (s : List V) (o : Option HB), Srt vCmp s → (∀ v, v ∈ s → CanV v ∧ v.fKind = K) → s.length ≤ k → s.length < 1000000 → (∀ q x l, o = some q → s = x :: l → q.fHigh.fKind = K ∧ vCmp q.fHigh x < 0) → chainP o (bl N k s) = true
  | 0, s, o, _, _, hk, _, _ => by cases o <;> rfl
  | k + 1, [], o, _, _, _, _, _ => by cases o <;> rfl
  | k + 1, x :: l, o, hs, hc, hk, hl, ho => by
    rw [List.length_cons] at hk hl
    have hp := srt_parts (N := N) hs
    have hsnd := bk_snd (N := N) hs (fun v hv => ⟨(hc v hv).1, by rw [(hc v hv).2, (hc x (by simp)).2]⟩) (by rw [(hc x (by simp)).2]; exact hK) (by omega)
    have hm := lastD_mem (l.take (jmp N 1 x l)) x
    have ih := bl_chain (N := N) hK k (l.drop (jmp N 1 x l)) (some (bk N x l)) hp.2.1 (fun v hv => hc v (List.mem_cons_of_mem _ (List.mem_of_mem_drop hv))) (by rw [List.length_drop]; omega) (by rw [List.length_drop]; omega) (fun q y r e1 e2 => by
      cases e1
      refine ⟨?_, hp.2.2 y (by rw [e2]; simp) _ hm⟩
      have : lastD x (l.take (jmp N 1 x l)) ∈ x :: l := by
        rcases List.mem_cons.1 hm with e | e
        · rw [e]; simp
        · exact List.mem_cons_of_mem _ (List.mem_of_mem_take e)
      exact (hc _ this).2)
    rw [bl]
    cases o with
    | none =>
      show (sndB (bk N x l) && chainP (some (bk N x l)) (bl N k (l.drop (jmp N 1 x l)))) = true
      rw [hsnd, ih]; rfl
    | some q =>
      show (sndB (bk N x l) && (adjB q (bk N x l) && chainP (some (bk N x l)) (bl N k (l.drop (jmp N 1 x l))))) = true
      obtain ⟨h1, h2⟩ := ho q x l rfl rfl
      have ha : adjB q (bk N x l) = true := by
        unfold adjB
        rw [Bool.and_eq_true, beq_iff_eq, decide_eq_true_eq]
        exact ⟨by rw [h1]; exact (hc x (by simp)).2.symm, h2⟩
      rw [hsnd, ha, ih]; rfl
theorem bl_sum (N : Nat) : ∀ (k : Nat) (s : List V), s.length ≤ k → sumC (bl N k s) = s.length
  | 0, s, h => by
    have : s = [] := List.eq_nil_of_length_eq_zero (by omega)
    subst this; rfl
  | k + 1, [], _ => rfl
  | k + 1, x :: l, h => by
    have hj := jmp_le N l 1 x
    rw [List.length_cons] at h ⊢
    rw [bl, sumC, bl_sum N k _ (by rw [List.length_drop]; omega), List.length_drop]
    simp only
    omega
theorem bl_few (N : Nat) : ∀ (k : Nat) (s : List V), s.length ≤ k → s ≠ [] → ((bl N k s).length - 1) * N + 1 ≤ s.length
  | 0, s, h, hne => absurd (List.eq_nil_of_length_eq_zero (by omega)) hne
  | k + 1, [], _, hne => absurd rfl hne
  | k + 1, x :: l, h, _ => by
    have hj := jmp_le N l 1 x
    rw [List.length_cons] at h ⊢
    rw [bl, List.length_cons, Nat.add_sub_cancel]
    cases hd : l.drop (jmp N 1 x l) with
    | nil =>
      have : bl N k ([] : List V) = [] := by cases k <;> rfl
      rw [this]; simp
    | cons y r =>
      have hst := (jmp_stop N l 1 x y r hd).2
      have hlen : (l.drop (jmp N 1 x l)).length = l.length - jmp N 1 x l := List.length_drop
      have ih := bl_few N k (y :: r) (by rw [← hd, hlen]; omega) (by simp)
      rw [← hd, hlen] at ih
      rw [hd] at ih
      have hpos : 1 ≤ (bl N k (y :: r)).length := by
        cases k with
        | zero => rw [hd] at hlen; simp at hlen; omega
        | succ k => rw [bl]; simp
      obtain ⟨t, ht⟩ : ∃ t, (bl N k (y :: r)).length = t + 1 := ⟨_, (Nat.sub_add_cancel hpos).symm⟩
      rw [ht] at ih ⊢
      rw [Nat.add_sub_cancel] at ih
      rw [Nat.add_mul, Nat.one_mul]
      have hlt : jmp N 1 x l < l.length := by
        rw [hd] at hlen; simp at hlen; omega
      omega
/-- How many lie between two. -/
def btw (lo hi : V) (s : List V) : Nat := s.countP fun v => decide (vCmp lo v ≤ 0) && decide (vCmp v hi ≤ 0)
theorem btw_append (lo hi : V) (a b : List V) : btw lo hi (a ++ b) = btw lo hi a + btw lo hi b := List.countP_append
theorem btw_all {lo hi : V} {s : List V} (h : ∀ v, v ∈ s → vCmp lo v ≤ 0 ∧ vCmp v hi ≤ 0) : btw lo hi s = s.length := by
  unfold btw
  rw [List.countP_eq_length]
  intro v hv
  have := h v hv
  simp [this.1, this.2]
theorem btw_none {lo hi : V} {s : List V} (h : ∀ v, v ∈ s → ¬ (vCmp lo v ≤ 0 ∧ vCmp v hi ≤ 0)) : btw lo hi s = 0 := by
  unfold btw
  rw [List.countP_eq_zero]
  intro v hv
  have := h v hv
  simpa using this
theorem bl_btw (N : Nat) : ∀ (k : Nat) (s : List V), Srt vCmp s → s.length ≤ k → ∀ b, b ∈ bl N k s → (btw b.fLow b.fHigh s : Int) = b.fCount
  | 0, s, _, _, b, hb => by simp [bl] at hb
  | k + 1, [], _, _, b, hb => by simp [bl] at hb
  | k + 1, x :: l, hs, hk, b, hb => by
    have hj := jmp_le N l 1 x
    have hp := srt_parts (N := N) hs
    have hsplit : x :: l = (x :: l.take (jmp N 1 x l)) ++ l.drop (jmp N 1 x l) := by rw [List.cons_append, List.take_append_drop]
    rw [List.length_cons] at hk
    rw [bl] at hb
    rw [hsplit, btw_append]
    have hm := lastD_mem (l.take (jmp N 1 x l)) x
    rcases List.mem_cons.1 hb with rfl | hb
    · rw [btw_all fun v hv => ⟨srt_first hp.1 v hv, srt_last hp.1 v hv⟩, btw_none fun v hv h => by
        have := hp.2.2 v hv _ hm
        have a1 := vCmp_ord.anti v (lastD x (l.take (jmp N 1 x l)))
        have h2 : vCmp v (lastD x (l.take (jmp N 1 x l))) ≤ 0 := h.2
        omega]
      simp only [List.length_cons, List.length_take]
      omega
    · have ih := bl_btw N k _ hp.2.1 (by rw [List.length_drop]; omega) b hb
      have hbm := bl_mem N k _ b hb
      rw [btw_none fun v hv h => by
        have := hp.2.2 _ hbm.1 v hv
        have a1 := vCmp_ord.anti v b.fLow
        omega, Nat.zero_add]
      exact ih
theorem bl_most {N : Nat} (hN : 1 ≤ N) : ∀ (k : Nat) (s : List V), s.length ≤ k → ∀ b, b ∈ bl N k s → ∃ y, y ∈ s ∧ b.fCount ≤ N - 1 + (cnt vCmp y s : Int)
  | 0, s, _, b, hb => by simp [bl] at hb
  | k + 1, [], _, b, hb => by simp [bl] at hb
  | k + 1, x :: l, hk, b, hb => by
    have hj := jmp_le N l 1 x
    rw [List.length_cons] at hk
    rw [bl] at hb
    rcases List.mem_cons.1 hb with rfl | hb
    · simp only
      by_cases hle : jmp N 1 x l + 1 ≤ N
      · refine ⟨x, by simp, ?_⟩
        rw [cnt_cons, if_pos (vCmp_ord.self x)]
        omega
      · -- the tail behind N - 1
        have hsk := jmp_skip N (N - 1) 1 x l (by omega) (by omega)
        rw [show 1 + (N - 1) = N by omega] at hsk
        have hall := jmp_same N (l.drop (N - 1)) N (lastD x (l.take (N - 1))) (Nat.le_refl _)
        generalize hy : lastD x (l.take (N - 1)) = y at *
        have hym : y ∈ x :: l := by
          have := lastD_mem (l.take (N - 1)) x
          rw [hy] at this
          rcases List.mem_cons.1 this with e | e
          · rw [e]; simp
          · exact List.mem_cons_of_mem _ (List.mem_of_mem_take e)
        refine ⟨y, hym, ?_⟩
        generalize hJ : jmp N N y (l.drop (N - 1)) = J at *
        have h1 : cnt vCmp y ((l.drop (N - 1)).take J) = J := by
          unfold cnt
          have : ((l.drop (N - 1)).take J).length = J := by rw [List.length_take, List.length_drop]; omega
          rw [← this]
          have e : ((l.drop (N - 1)).take ((l.drop (N - 1)).take J).length) = (l.drop (N - 1)).take J := by rw [this]
          rw [e, List.countP_eq_length]
          intro v hv
          simp [hall v hv]
        have h2 : x :: l = ((x :: l).take (N - 1) ++ y :: (l.drop (N - 1)).take J) ++ (l.drop (N - 1)).drop J := by
          rw [List.append_assoc, List.cons_append, List.take_append_drop]
          have h3 : (x :: l).drop (N - 1) = y :: l.drop (N - 1) := by
            have hlt : N - 1 < (x :: l).length := by rw [List.length_cons]; omega
            rw [List.drop_eq_getElem_cons hlt]
            congr 1
            have := lastD_eq (l.take (N - 1)) x
            rw [List.length_take, Nat.min_eq_left (by omega), hy] at this
            have e : (x :: l.take (N - 1))[N - 1]? = (x :: l)[N - 1]? := by
              cases hN' : N - 1 with
              | zero => rfl
              | succ t => simp [List.getElem?_take]
            rw [e, List.getElem?_eq_getElem hlt] at this
            exact Option.some.inj this
          rw [← h3, List.take_append_drop]
        have h4 : J + 1 ≤ cnt vCmp y (x :: l) := by
          rw [h2, cnt_append, cnt_append, cnt_cons, if_pos (vCmp_ord.self y), h1]
          omega
        omega
    · obtain ⟨y, hy, hb'⟩ := bl_most hN k _ (by rw [List.length_drop]; omega) b hb
      refine ⟨y, List.mem_cons_of_mem _ (List.mem_of_mem_drop hy), ?_⟩
      have : cnt vCmp y (l.drop (jmp N 1 x l)) ≤ cnt vCmp y (x :: l) := by
        rw [cnt_cons]
        have : cnt vCmp y l = cnt vCmp y (l.take (jmp N 1 x l)) + cnt vCmp y (l.drop (jmp N 1 x l)) := by rw [← cnt_append, List.take_append_drop]
        omega
      omega
/-- Each is in one. -/
theorem bl_has (N : Nat) : ∀ (k : Nat) (s : List V), Srt vCmp s → s.length ≤ k → ∀ v, v ∈ s → ∃ b, b ∈ bl N k s ∧ vCmp b.fLow v ≤ 0 ∧ vCmp v b.fHigh ≤ 0
  | 0, s, _, h, v, hv => by
    have : s = [] := List.eq_nil_of_length_eq_zero (by omega)
    subst this; cases hv
  | k + 1, [], _, _, v, hv => by cases hv
  | k + 1, x :: l, hs, hk, v, hv => by
    have hj := jmp_le N l 1 x
    have hp := srt_parts (N := N) hs
    have hsplit : x :: l = (x :: l.take (jmp N 1 x l)) ++ l.drop (jmp N 1 x l) := by rw [List.cons_append, List.take_append_drop]
    rw [List.length_cons] at hk
    rw [hsplit, List.mem_append] at hv
    rw [bl]
    rcases hv with hv | hv
    · exact ⟨_, List.mem_cons_self, srt_first hp.1 v hv, srt_last hp.1 v hv⟩
    · obtain ⟨b, h1, h2⟩ := bl_has N k _ hp.2.1 (by rw [List.length_drop]; omega) v hv
      exact ⟨b, List.mem_cons_of_mem _ h1, h2⟩
end Go.Pl

set_option linter.unusedVariables false
set_option linter.unusedSimpArgs false
set_option maxRecDepth 100000
namespace Go.Pl
open Go Go.Ab
theorem cnt_le {c : V → V → Int} (z : V) (l : List V) : cnt c z l ≤ l.length := List.countP_le_length
theorem same_loop {n : Nat} (hn : 10 ≤ n) {a : Option (List V)} (ha : WVs a) (hl : (sll a).length ≤ 1000) {v : V} (hv : W_api_Value v) {K : Int → Option Bool} : ∀ (l : List V) (m : Nat) (p : List V) (s : Nat), sll a = p ++ l → s ≤ p.length → l.length < m →
    law19_HistBounds_l14 n a v K m (s : Int) (p.length : Int) = K ((s + cnt vCmp v l : Nat) : Int)
  | [], m, p, s, he, _, hm => by
    obtain ⟨m, rfl⟩ : ∃ j, m = j + 1 := ⟨m - 1, by omega⟩
    rw [List.append_nil] at he
    rw [law19_HistBounds_l14, he, dF (by omega), cond_false]
    rfl
  | x :: l, m, p, s, he, hs, hm => by
    obtain ⟨m, rfl⟩ : ∃ j, m = j + 1 := ⟨m - 1, by omega⟩
    have hlen : (sll a).length = p.length + (l.length + 1) := by rw [he]; simp
    rw [List.length_cons] at hm
    have hx := ha.2 x (by rw [he]; simp)
    have hix : idx (sll a) (p.length : Int) = some x := by rw [he]; exact idx_app p x l
    have r1 := fun s hs => same_loop hn ha hl hv (K := K) l m (p ++ [x]) s (by rw [he]; simp) hs (by omega)
    rw [show (p ++ [x]).length = p.length + 1 by simp] at r1
    have sv : value_Same n v x = some (sm v x) := by
      obtain ⟨n, rfl⟩ : ∃ k, n = k + 1 := ⟨n - 1, by omega⟩
      unfold value_Same
      rw [at1_succ, value_Cmp_ok hv hx (by omega), Option.bind_some]; rfl
    rw [law19_HistBounds_l14, dT (by omega), cond_true, hix, Option.bind_some, sv, Option.bind_some, wrapN (by omega), wrapN (by omega), cnt_cons]
    cases hsm : sm v x with
    | true =>
      rw [cond_true, r1 (s + 1) (by omega), if_pos ((sm_iff _ _).1 hsm)]
      congr 2; omega
    | false =>
      rw [cond_false, r1 s (by omega), if_neg ((sm_not _ _).1 hsm)]
      rfl
/-- How often the most common one is there. -/
def mostF (a : List V) : List V → Int → Int
  | [], m => m
  | v :: r, m => bif v.fKind == 0 then mostF a r m else mostF a r (if (cnt vCmp v a : Int) > m then (cnt vCmp v a : Int) else m)
theorem mostF_range (a : List V) : ∀ (l : List V) (m : Int), 0 ≤ m → m ≤ a.length → m ≤ mostF a l m ∧ mostF a l m ≤ a.length ∧ ∀ v, v ∈ nn l → (cnt vCmp v a : Int) ≤ mostF a l m
  | [], m, _, h => ⟨Int.le_refl _, h, fun v hv => by simp [nn] at hv⟩
  | x :: l, m, h0, h => by
    have hc := cnt_le (c := vCmp) x a
    rw [mostF, nn_cons]
    cases hk : x.fKind == 0 with
    | true => exact mostF_range a l m h0 h
    | false =>
      rw [cond_false, cond_false]
      have hM : ∃ M', M' = (if (cnt vCmp x a : Int) > m then (cnt vCmp x a : Int) else m) ∧ m ≤ M' ∧ (cnt vCmp x a : Int) ≤ M' ∧ M' ≤ a.length := ⟨_, rfl, by split <;> omega, by split <;> omega, by split <;> omega⟩
      obtain ⟨M', e, g1, g2, g3⟩ := hM
      rw [← e]
      obtain ⟨h1, h2, h3⟩ := mostF_range a l M' (by omega) g3
      refine ⟨by omega, h2, fun v hv => ?_⟩
      rcases List.mem_cons.1 hv with rfl | hv
      · omega
      · exact h3 v hv
theorem outer_loop {n : Nat} (hn : 2000100 ≤ n) {a : Option (List V)} (ha : WVs a) (hl : (sll a).length ≤ 1000) {g : Option (List HB)} {e : Int} (hg : WH g) (hE : ∀ v, v ∈ nn (sll a) → 1 ≤ equalH (sll g) v) {K : Int → Int → Option Bool} : ∀ (l : List V) (m : Nat) (p : List V) (s : Nat) (M : Int), sll a = p ++ l → s ≤ p.length → 0 ≤ M → M ≤ (sll a).length → l.length < m →
    law19_HistBounds_l8 n a (g, e) K m (p.length : Int) (s : Int) M = K ((s + (nn l).length : Nat) : Int) (mostF (sll a) l M)
  | [], m, p, s, M, he, _, _, _, hm => by
    obtain ⟨m, rfl⟩ : ∃ j, m = j + 1 := ⟨m - 1, by omega⟩
    have he' := he
    rw [List.append_nil] at he
    rw [law19_HistBounds_l8, dF (by rw [he]; omega), cond_false]
    rfl
  | x :: l, m, p, s, M, he, hs, hM0, hM, hm => by
    obtain ⟨m, rfl⟩ : ∃ j, m = j + 1 := ⟨m - 1, by omega⟩
    have hlen : (sll a).length = p.length + (l.length + 1) := by rw [he]; simp
    rw [List.length_cons] at hm
    have hx := ha.2 x (by rw [he]; simp)
    have hix : idx (sll a) (p.length : Int) = some x := by rw [he]; exact idx_app p x l
    have r1 := fun s M hs h0 h1 => outer_loop hn ha hl hg (e := e) hE (K := K) l m (p ++ [x]) s M (by rw [he]; simp) hs h0 h1 (by omega)
    rw [show (p ++ [x]).length = p.length + 1 by simp] at r1
    rw [law19_HistBounds_l8, dT (by omega), cond_true]
    simp only [withK]
    rw [hix, Option.bind_some, wrapN (by omega), nn_cons, mostF]
    cases hk : x.fKind == 0 with
    | true => rw [cond_true, cond_true, cond_true]; exact r1 s M (by omega) hM0 hM
    | false =>
      have hmem : x ∈ nn (sll a) := by
        unfold nn
        exact List.mem_filter.2 ⟨by rw [he]; simp, by show (!(x.fKind == 0)) = true; rw [hk]; rfl⟩
      have hsl := same_loop (n := n) (by omega) ha hl hx (K := fun y79 => (hist_Equal n g x).bind fun x83 => bif (decide (x83 < 1)) then some false else law19_HistBounds_l8 n a (g, e) K m ((p.length + 1 : Nat) : Int) (IntKind.wrap .i64 ((s : Int) + 1)) (if y79 > M then y79 else M)) (sll a) n [] 0 rfl (Nat.le_refl _) (by omega)
      have hc := cnt_le (c := vCmp) x (sll a)
      rw [cond_false, cond_false, cond_false]
      refine Eq.trans hsl ?_
      show ((hist_Equal n g x).bind _) = _
      rw [hist_Equal_ok hg hx (by omega), Option.bind_some, dF (by have := hE x hmem; omega), cond_false, wrapN (by omega), Nat.zero_add]
      have := r1 (s + 1) (if (cnt vCmp x (sll a) : Int) > M then (cnt vCmp x (sll a) : Int) else M) (by omega) (by split <;> omega) (by split <;> omega)
      rw [this, List.length_cons]
      congr 2
      omega
theorem btw_loop {n : Nat} (hn : 10 ≤ n) {a : Option (List V)} (ha : WVs a) (hl : (sll a).length ≤ 1000) {b : HB} (hb : W_hist_Bucket b) {K : Int → Option Bool} : ∀ (l : List V) (m : Nat) (p : List V) (s : Nat), sll a = p ++ l → s ≤ p.length → l.length < m →
    law19_HistBounds_l32 n a b K m (p.length : Int) (s : Int) = K ((s + btw b.fLow b.fHigh (nn l) : Nat) : Int)
  | [], m, p, s, he, _, hm => by
    obtain ⟨m, rfl⟩ : ∃ j, m = j + 1 := ⟨m - 1, by omega⟩
    rw [List.append_nil] at he
    rw [law19_HistBounds_l32, he, dF (by omega), cond_false]
    rfl
  | x :: l, m, p, s, he, hs, hm => by
    obtain ⟨m, rfl⟩ : ∃ j, m = j + 1 := ⟨m - 1, by omega⟩
    have hlen : (sll a).length = p.length + (l.length + 1) := by rw [he]; simp
    rw [List.length_cons] at hm
    have hx := ha.2 x (by rw [he]; simp)
    have hix : idx (sll a) (p.length : Int) = some x := by rw [he]; exact idx_app p x l
    have r1 := fun s hs => btw_loop hn ha hl hb (K := K) l m (p ++ [x]) s (by rw [he]; simp) hs (by omega)
    rw [show (p ++ [x]).length = p.length + 1 by simp] at r1
    rw [law19_HistBounds_l32, dT (by omega), cond_true, hix, Option.bind_some, wrapN (by omega), wrapN (by omega), nn_cons]
    have e0 : (x.fKind != 0) = !(x.fKind == 0) := rfl
    rw [e0]
    cases hk : x.fKind == 0 with
    | true => rw [Bool.not_true, cond_false, cond_true, r1 s (by omega)]
    | false =>
      have eb : btw b.fLow b.fHigh (x :: nn l) = btw b.fLow b.fHigh (nn l) + if vCmp b.fLow x ≤ 0 ∧ vCmp x b.fHigh ≤ 0 then 1 else 0 := by
        unfold btw
        rw [List.countP_cons]
        by_cases h1 : vCmp b.fLow x ≤ 0 <;> by_cases h2 : vCmp x b.fHigh ≤ 0 <;> simp [h1, h2]
      rw [Bool.not_false, cond_true, cond_false, eb, value_Cmp_ok hb.1 hx (by omega), Option.bind_some]
      by_cases h1 : vCmp b.fLow x ≤ 0
      · rw [dT h1, cond_true, value_Cmp_ok hx hb.2.1 (by omega), Option.bind_some]
        by_cases h2 : vCmp x b.fHigh ≤ 0
        · rw [dT h2, cond_true, if_pos ⟨h1, h2⟩, r1 (s + 1) (by omega)]
          congr 2; omega
        · rw [dF h2, cond_false, if_neg fun c => h2 c.2, r1 s (by omega)]; rfl
      · rw [dF h1, cond_false, if_neg fun c => h1 c.1, r1 s (by omega)]; rfl
theorem eqL_some {v : V} : ∀ {l : List HB}, (∃ b, b ∈ l ∧ vCmp b.fLow v ≤ 0 ∧ vCmp v b.fHigh ≤ 0) → ∃ b, eqL v l = some b ∧ b ∈ l
  | [], h => by obtain ⟨b, hb, _⟩ := h; cases hb
  | x :: l, h => by
    rw [eqL]
    by_cases c : vCmp x.fLow v ≤ 0 ∧ vCmp v x.fHigh ≤ 0
    · rw [if_pos c]; exact ⟨x, rfl, by simp⟩
    · rw [if_neg c]
      obtain ⟨b, hb, h2⟩ := h
      rcases List.mem_cons.1 hb with rfl | hb
      · exact absurd h2 c
      · obtain ⟨b', h3, h4⟩ := eqL_some ⟨b, hb, h2⟩
        exact ⟨b', h3, List.mem_cons_of_mem _ h4⟩
theorem vP_left {v : V} (hw : W_api_Value v) (hr : vRight v = true) (z : V) : (vCmp z (vP v) ≤ 0 ↔ vCmp z v ≤ 0) ∧ (vCmp (vP v) z ≤ 0 ↔ vCmp v z ≤ 0) ∧ (vCmp z (vP v) = 0 ↔ vCmp z v = 0) := by
  have e := vCmp_vP hw hr
  have l := vCmp_ord.left (z := z) e
  have a1 := vCmp_ord.anti (vP v) z
  have a2 := vCmp_ord.anti v z
  omega
theorem vld_kind : ∀ {l : List V} {k : Int}, vldF k l = true → ∃ K, K ≠ 0 ∧ (k ≠ 0 → K = k) ∧ ∀ v, v ∈ nn l → v.fKind = K
  | [], k, _ => by
    by_cases hk : k = 0
    · exact ⟨1, by decide, fun h => absurd hk h, fun v hv => by simp [nn] at hv⟩
    · exact ⟨k, hk, fun _ => rfl, fun v hv => by simp [nn] at hv⟩
  | x :: l, k, h => by
    rw [vldF, Bool.and_eq_true] at h
    rw [nn_cons]
    cases hk : x.fKind == 0 with
    | true => rw [hk, cond_true] at h; exact vld_kind h.2
    | false =>
      rw [hk, cond_false, Bool.and_eq_true, Bool.or_eq_true, beq_iff_eq, beq_iff_eq] at h
      have hk' : x.fKind ≠ 0 := by simpa using hk
      obtain ⟨K, h1, h2, h3⟩ := vld_kind h.2.2
      have e := h2 hk'
      refine ⟨K, h1, fun hne => ?_, fun v hv => ?_⟩
      · rcases h.2.1 with c | c
        · exact absurd c hne
        · rw [e, c]
      · rw [cond_false] at hv
        rcases List.mem_cons.1 hv with rfl | hv
        · exact e.symm
        · exact h3 v hv
theorem buckets_loop {n : Nat} (hn : 2000100 ≤ n) {a : Option (List V)} (ha : WVs a) (hl : (sll a).length ≤ 1000) {g : Option (List HB)} {e : Int} (hg : WH g) {B : Nat} (hB1 : 1 ≤ B) (hB : B ≤ 50) {all : Nat} {M : Int} (hall : all ≤ 1000) (hM0 : 0 ≤ M) (hM : M ≤ 1000) (hgl : (sll g).length ≤ 1000)
    (h1 : ∀ b, b ∈ sll g → b.fCount ≤ ((all + B - 1) / B : Nat) + M - 1) (h2 : ∀ b, b ∈ sll g → (btw b.fLow b.fHigh (nn (sll a)) : Int) = b.fCount) : ∀ (l : List HB) (m : Nat) (p : List HB), sll g = p ++ l → l.length < m →
    law19_HistBounds_l26 n a (B : Int) (g, e) (all : Int) M (fun _ => some true) m (p.length : Int) = some true
  | [], m, p, he, hm => by
    obtain ⟨m, rfl⟩ : ∃ j, m = j + 1 := ⟨m - 1, by omega⟩
    rw [List.append_nil] at he
    rw [law19_HistBounds_l26, dF (by rw [he]; omega), cond_false]
  | b :: l, m, p, he, hm => by
    obtain ⟨m, rfl⟩ : ∃ j, m = j + 1 := ⟨m - 1, by omega⟩
    have hlen : (sll g).length = p.length + (l.length + 1) := by rw [he]; simp
    rw [List.length_cons] at hm
    have hmem : b ∈ sll g := by rw [he]; simp
    have hb := hg.2 b hmem
    have hix : idx (sll g) (p.length : Int) = some b := by rw [he]; exact idx_app p b l
    have hrec := buckets_loop hn ha hl hg (e := e) hB1 hB hall hM0 hM hgl h1 h2 l m (p ++ [b]) (by rw [he]; simp) (by omega)
    rw [show (p ++ [b]).length = p.length + 1 by simp] at hrec
    have hNB : (all + B - 1) / B ≤ 1000 := Nat.le_trans (shareN_le hB1) hall
    have eN : IntKind.wrap .i64 (Int.tdiv (IntKind.wrap .i64 ((IntKind.wrap .i64 ((all : Int) + (B : Int))) - 1)) (B : Int)) = (((all + B - 1) / B : Nat) : Int) := by
      rw [wv (x := (all : Int) + (B : Int)) (v := all + B) (by omega) (by omega), wv (x := ((all + B : Nat) : Int) - 1) (v := all + B - 1) (by omega) (by omega)]
      rw [show Int.tdiv ((all + B - 1 : Nat) : Int) (B : Int) = (((all + B - 1) / B : Nat) : Int) from rfl]
      exact wv rfl (by omega)
    have hz : ckZ (B : Int) = some () := by unfold ckZ; rw [if_neg (by omega)]
    have c1 := h1 b hmem
    rw [law19_HistBounds_l26]
    rw [dT (show (p.length : Int) < ((sll (g, e).1).length : Int) by show (p.length : Int) < ((sll g).length : Int); omega), cond_true]
    simp only [withK]
    rw [hix, Option.bind_some, hz, Option.bind_some, eN]
    generalize (all + B - 1) / B = N at *
    rw [wrapI (x := (N : Int) + M) (by omega) (by omega), wrapI (x := (N : Int) + M - 1) (by omega) (by omega), dF (by omega), cond_false]
    have hbl := btw_loop (n := n) (by omega) ha hl hb (K := fun y43 => bif (y43 != b.fCount) then some false else law19_HistBounds_l26 n a (B : Int) (g, e) (all : Int) M (fun _ => some true) m (IntKind.wrap .i64 ((p.length : Int) + 1))) (sll a) n [] 0 rfl (Nat.le_refl _) (by omega)
    refine Eq.trans hbl ?_
    rw [Nat.zero_add, h2 b hmem, show (b.fCount != b.fCount) = false by simp, cond_false, wrapN (by omega)]
    exact hrec
theorem HistBounds_big {n : Nat} (hn : 3999999 ≤ n) (hwk : law19_works n = some true) {a : Option (List V)} {B : Int} (ha : WVs a) (hB : wI .i64 B) : law19_HistBounds (n + 1) a B = some true := by
  unfold law19_HistBounds
  rw [at1_succ, hwk, Option.bind_some, Bool.not_true, cond_false, hist_Build_ok ha (by omega), Option.bind_some]
  by_cases hb : bad a B = true ∨ vldF 0 (sll a) = false
  · rw [if_pos hb]; rfl
  · rw [if_neg hb]
    have hv : vldF 0 (sll a) = true := by
      cases h : vldF 0 (sll a) with
      | true => rfl
      | false => exact absurd (.inr h) hb
    have hb' : ¬ B < 1 ∧ ¬ B > 50 ∧ ¬ ((sll a).length : Int) > 400 := by
      have : bad a B = false := by
        cases h : bad a B with
        | false => rfl
        | true => exact absurd (.inl h) hb
      unfold bad at this
      simpa [Bool.or_eq_false_iff, and_assoc] using this
    obtain ⟨b, rfl⟩ : ∃ b : Nat, B = (b : Int) := ⟨B.toNat, by omega⟩
    rw [Int.toNat_natCast]
    have hr := vld_right hv
    obtain ⟨K, hK, _, hkind⟩ := vld_kind hv
    have hWnn : ∀ v, v ∈ nn (sll a) → W_api_Value v := fun v hv => ha.2 v (List.mem_filter.1 hv).1
    have hrnn : ∀ v, v ∈ nn (sll a) → vRight v = true := fun v hv => hr v (List.mem_filter.1 hv).1
    have hpl := pls_len (sll a)
    have hnl : (nn (sll a)).length = (pls (sll a)).length := by unfold pls; simp
    have hperm := srt_perm (pls (sll a))
    have hsrt := srt_srt (pls (sll a))
    have hSl : (srtL (pls (sll a))).length = (pls (sll a)).length := hperm.length_eq
    have hSm : ∀ p, p ∈ srtL (pls (sll a)) → ∃ v, v ∈ nn (sll a) ∧ p = vP v := fun p hp => by
      have := hperm.mem_iff.1 hp
      unfold pls at this
      obtain ⟨v, hv, e⟩ := List.mem_map.1 this
      exact ⟨v, hv, e.symm⟩
    have hSc : ∀ p, p ∈ srtL (pls (sll a)) → CanV p ∧ p.fKind = K := fun p hp => by
      obtain ⟨v, hv, rfl⟩ := hSm p hp
      exact ⟨can_vP (hWnn v hv) (hrnn v hv), by rw [vP_kind (hrnn v hv)]; exact hkind v hv⟩
    obtain ⟨S, hS⟩ : ∃ S, S = srtL (pls (sll a)) := ⟨_, rfl⟩
    obtain ⟨N, hN⟩ : ∃ N, N = ((pls (sll a)).length + b - 1) / b := ⟨_, rfl⟩
    rw [← hN, ← hS]
    rw [← hS] at hperm hsrt hSl hSm hSc
    have hres : sll (resO id N S) = blT N S := by
      unfold resO
      split
      · rename_i e; subst e; rfl
      · rw [sll_some, List.map_id]
    have hmemb := bl_mem N S.length S
    have hlb : (blT N S).length ≤ S.length := by
      have : ∀ (k : Nat) (l : List V), (bl N k l).length ≤ l.length := by
        intro k
        induction k with
        | zero => intro l; simp [bl]
        | succ k ih =>
          intro l
          cases l with
          | nil => simp [bl]
          | cons x l =>
            rw [bl, List.length_cons, List.length_cons]
            have := ih (l.drop (jmp N 1 x l))
            rw [List.length_drop] at this
            omega
      exact this _ _
    have hNp : S ≠ [] → 1 ≤ N := fun hne => by
      have : 0 < S.length := List.length_pos_iff.2 hne
      rw [hN, Nat.le_div_iff_mul_le (by omega)]
      omega
    have hfew : (blT N S).length ≤ b := by
      by_cases hne : S = []
      · subst hne; exact Nat.zero_le _
      · have h1 := bl_few N S.length S (Nat.le_refl _) hne
        have h2 : S.length ≤ N * b := by
          have := Nat.div_add_mod ((pls (sll a)).length + b - 1) b
          have := Nat.mod_lt ((pls (sll a)).length + b - 1) (show 0 < b by omega)
          rw [← hN] at *
          rw [Nat.mul_comm]
          omega
        have hb1 := hNp hne
        rcases Nat.lt_or_ge b (blT N S).length with hlt | hge
        · exfalso
          have : b * N ≤ ((bl N S.length S).length - 1) * N := Nat.mul_le_mul_right _ (by show b ≤ (blT N S).length - 1; omega)
          rw [Nat.mul_comm b N] at this
          omega
        · exact hge
    have hright : rightH (blT N S) = true := by
      unfold rightH
      rw [dT (by omega : (blT N S).length ≤ 50), Bool.true_and]
      exact bl_chain hK S.length S none hsrt hSc (Nat.le_refl _) (by omega) (fun q x l h => by cases h)
    have hsnd := chain_all (right_len hright).2
    have c0 : ∀ i : Int, 0 ≤ i → i ≤ S.length → wI .i64 i := fun i h1 h2 => by
      have : S.length ≤ 500 := by omega
      show (-9223372036854775808 : Int) ≤ i ∧ i ≤ 9223372036854775807
      omega
    have hW : WH (resO id N S) := ⟨by rw [hres]; omega, fun q hq => by
      rw [hres] at hq
      obtain ⟨m1, m2, m3, m4, m5, m6⟩ := hmemb q hq
      exact ⟨can_W (hSc _ m1).1, can_W (hSc _ m2).1, c0 _ m3 m4, c0 _ m5 m6⟩⟩
    have hsum : sumC (blT N S) = S.length := bl_sum N S.length S (Nat.le_refl _)
    -- each value is in one
    have hE : ∀ v, v ∈ nn (sll a) → 1 ≤ equalH (sll (resO id N S)) v := by
      intro v hv
      rw [hres]
      have hvS : vP v ∈ S := by rw [hperm.mem_iff]; unfold pls; exact List.mem_map_of_mem hv
      obtain ⟨q, hq1, hq2, hq3⟩ := bl_has N S.length S hsrt (Nat.le_refl _) (vP v) hvS
      have g := vP_left (hWnn v hv) (hrnn v hv)
      obtain ⟨q', e1, e2⟩ := eqL_some (v := v) (l := blT N S) ⟨q, hq1, (g _).1.1 hq2, (g _).2.1.1 hq3⟩
      have hask : askH (blT N S) v = true := by
        unfold askH askV
        rw [hright, hrnn v hv, Bool.true_and, Bool.true_and]
        have : v.fKind ≠ 0 := by rw [hkind v hv]; exact hK
        simpa using this
      unfold equalH
      rw [hask, if_pos rfl, ← eqL_loc (v := v) (ah := 0) (right_len hright).2, e1]
      exact (each_range (hsnd q' e2)).1
    -- and counted there
    have hcnt : ∀ y, y ∈ S → ∃ v, v ∈ nn (sll a) ∧ (cnt vCmp y S) ≤ cnt vCmp v (sll a) := by
      intro y hy
      obtain ⟨v, hv, rfl⟩ := hSm y hy
      refine ⟨v, hv, ?_⟩
      rw [cnt_perm hperm]
      unfold cnt pls
      rw [List.countP_map]
      refine Nat.le_trans (Nat.le_of_eq (List.countP_congr fun w hw => ?_)) (List.Sublist.countP_le (show (nn (sll a)).Sublist (sll a) from List.filter_sublist))
      simp only [Function.comp, decide_eq_true_eq]
      have g := vP_cmp (hWnn v hv) (hWnn w hw) (hrnn v hv) (hrnn w hw)
      omega
    have hbtw : ∀ q, q ∈ blT N S → (btw q.fLow q.fHigh (nn (sll a)) : Int) = q.fCount := by
      intro q hq
      rw [← bl_btw N S.length S hsrt (Nat.le_refl _) q hq]
      congr 1
      unfold btw
      rw [hperm.countP_eq]
      unfold pls
      rw [List.countP_map]
      refine List.countP_congr fun w hw => ?_
      have g := vP_left (hWnn w hw) (hrnn w hw)
      simp only [Function.comp, Bool.and_eq_true, decide_eq_true_eq, (g _).1, (g _).2.1]
    have hmr := mostF_range (sll a) (sll a) 0 (Int.le_refl _) (by omega)
    have hmost : ∀ q, q ∈ blT N S → q.fCount ≤ (N : Nat) + mostF (sll a) (sll a) 0 - 1 := by
      intro q hq
      have hne : S ≠ [] := by intro e; subst e; simp [blT, bl] at hq
      obtain ⟨y, hy, h1⟩ := bl_most (hNp hne) S.length S (Nat.le_refl _) q hq
      obtain ⟨v, hv, h2⟩ := hcnt y hy
      have h3 := hmr.2.2 v hv
      omega
    have hlen400 : (sll a).length ≤ 400 := by omega
    show withK _ _ = _
    unfold withK
    refine Eq.trans (outer_loop (n := n) (by omega) ha (by omega) (e := 0) hW hE (sll a) n [] 0 0 rfl (Nat.le_refl _) (Int.le_refl _) (by omega) (by omega)) ?_
    rw [Nat.zero_add]
    simp only []
    rw [hist_Right_ok hW (by omega), Option.bind_some, hres, hright, dF (by omega : ¬ ((blT N S).length : Int) > (b : Int))]
    simp only [Bool.not_true, Bool.or_false, cond_false]
    rw [hist_Total_ok hW (by omega), Option.bind_some, hres]
    have et : totH (blT N S) = ((nn (sll a)).length : Int) := by
      unfold totH; rw [hright, if_pos rfl, hsum]; omega
    rw [et, show (((nn (sll a)).length : Int) != ((nn (sll a)).length : Int)) = false by simp, cond_false]
    have hN' : N = ((nn (sll a)).length + b - 1) / b := by rw [hN, hnl]
    have bls := buckets_loop (n := n) (by omega) ha (by omega) (e := 0) hW (B := b) (by omega) (by omega) (all := (nn (sll a)).length) (M := mostF (sll a) (sll a) 0) (by omega) hmr.1 (by omega) (by rw [hres]; omega) (fun q hq => by rw [← hN']; exact hmost q (by rw [← hres]; exact hq)) (fun q hq => hbtw q (by rw [← hres]; exact hq)) (sll (resO id N S)) n [] rfl (by rw [hres]; omega)
    exact bls
theorem HistBounds_true {n : Nat} (h : n = 4000000) {a : Option (List V)} {B : Int} (ha : WVs a) (hB : wI .i64 B) : law19_HistBounds n a B = some true := by
  subst h
  exact HistBounds_big (n := 3999999) (Nat.le_refl _) works19_ok ha hB
end Go.Pl

