import Derived.Test.YtjbhpopccbhhlaaAbSim2
set_option linter.unusedVariables false
set_option linter.unusedSimpArgs false
/-! Words for walks: what a run does, op by op, with what comes after as a predicate. -/
namespace Go.Ab
open Go

/-- An element, by its place. -/
def nth : List AV → Nat → Option AV
  | [], _ => none
  | v :: r, i => match i with
    | 0 => some v
    | i + 1 => nth r i
theorem nth_eq : ∀ (l : List AV) (i : Nat), nth l i = l[i]?
  | [], i => by simp [nth]
  | v :: r, 0 => by simp [nth]
  | v :: r, i + 1 => by simp [nth, nth_eq r i]
def hasN : List Nat → Nat → Bool
  | [], _ => false
  | k :: r, i => match Nat.beq i k with
    | true => true
    | false => hasN r i

/-- A run ends so that. -/
def WP (r : Option (Ex × St)) (Q : Ex → List AV → List Blk → Prop) : Prop := ∃ ex t H, r = some (ex, ⟨t, H⟩) ∧ Q ex t H
def WO (r : Option (Ex × St × List Seen)) (Q : Ex → List AV → List Blk → List Seen → Prop) : Prop := ∃ ex t H s, r = some (ex, ⟨t, H⟩, s) ∧ Q ex t H s

variable {G : Cfg} {C : CallF} {f n : Nat} {Q : Ex → List AV → List Blk → Prop}

theorem WP.mono {r : Option (Ex × St)} {Q' : Ex → List AV → List Blk → Prop} (h : WP r Q) (hq : ∀ ex t H, Q ex t H → Q' ex t H) : WP r Q' := by
  obtain ⟨ex, t, H, e, q⟩ := h
  exact ⟨ex, t, H, e, hq _ _ _ q⟩
theorem WP.of_eq {r : Option (Ex × St)} {ex : Ex} {t : List AV} {H : List Blk} (h : r = some (ex, ⟨t, H⟩)) (q : Q ex t H) : WP r Q := ⟨ex, t, H, h, q⟩

section code
variable {t : List AV} {H : List Blk}
theorem wp_seq {a b : Code} (h : WP (exec G C f n a none ⟨t, H⟩) fun ex t H => match ex with
    | .normal => WP (exec G C f n b none ⟨t, H⟩) Q
    | ex => Q ex t H) : WP (exec G C f n (.seq a b) none ⟨t, H⟩) Q := by
  obtain ⟨ex, t', H', e, q⟩ := h
  unfold WP
  rw [exec_seq, e]
  cases ex with
  | normal => exact q
  | _ => exact ⟨_, _, _, rfl, q⟩
theorem wp_skip (h : Q .normal t H) : WP (exec G C f n .skip none ⟨t, H⟩) Q := ⟨_, _, _, rfl, h⟩
theorem wp_exit {id : Nat} (h : Q (.exit id) t H) : WP (exec G C f n (.exit id) none ⟨t, H⟩) Q := ⟨_, _, _, rfl, h⟩
theorem wp_ret (h : Q .ret t H) : WP (exec G C f n .ret none ⟨t, H⟩) Q := ⟨_, _, _, rfl, h⟩
theorem wp_goto {l : Nat} (h : Q (.goto l) t H) : WP (exec G C f n (.goto l) none ⟨t, H⟩) Q := ⟨_, _, _, rfl, h⟩
theorem wp_label {l : Nat} (h : Q .normal t H) : WP (exec G C f n (.label l) none ⟨t, H⟩) Q := ⟨_, _, _, rfl, h⟩
/-- A condition's value. -/
def evalT (t : List AV) : Operand → AV
  | .tmp i => match nth t i with
    | some v => v
    | none => .undef
  | .const v => ofConst v
  | .func f => .pv (.fn f [] [])
  | .global _ => .any
theorem evalT_eq (t : List AV) : evalT t = evalA t := by
  funext x
  cases x with
  | tmp i => simp only [evalT, evalA, nth_eq]; cases t[i]? <;> rfl
  | _ => rfl
theorem wp_true {c : Operand} {a b : Code} (hc : evalT t c = .pv (.bool true)) (h : WP (exec G C f n a none ⟨t, H⟩) Q) : WP (exec G C f n (.cond c a b) none ⟨t, H⟩) Q := by
  rw [evalT_eq] at hc
  unfold WP
  rw [exec_cond]; simp only [hc, if_true]; exact h
theorem wp_false {c : Operand} {a b : Code} (hc : evalT t c = .pv (.bool false)) (h : WP (exec G C f n b none ⟨t, H⟩) Q) : WP (exec G C f n (.cond c a b) none ⟨t, H⟩) Q := by
  rw [evalT_eq] at hc
  unfold WP
  rw [exec_cond]; simp only [hc, Bool.false_eq_true, if_false]; exact h
theorem wp_split {b : Bool} {c : Operand} {x y : Code} (hc : evalT t c = .pv (.bool b)) (h1 : b = true → WP (exec G C f n x none ⟨t, H⟩) Q) (h2 : b = false → WP (exec G C f n y none ⟨t, H⟩) Q) : WP (exec G C f n (.cond c x y) none ⟨t, H⟩) Q := by
  cases b with
  | true => exact wp_true hc (h1 rfl)
  | false => exact wp_false hc (h2 rfl)
theorem wp_block {id : Nat} {c : Code} (h : WP (exec G C f n c none ⟨t, H⟩) fun ex t H => match ex with
    | .exit j => match Nat.beq j id with
      | true => Q .normal t H
      | false => Q (.exit j) t H
    | ex => Q ex t H) : WP (exec G C f n (.block id c) none ⟨t, H⟩) Q := by
  obtain ⟨ex, t', H', e, q⟩ := h
  unfold WP
  rw [exec_block, e]
  cases ex with
  | exit j =>
    by_cases hj : j = id
    · subst hj
      simp only [if_true]
      have : Nat.beq j j = true := Nat.beq_refl j
      simp only [this] at q
      exact ⟨_, _, _, rfl, q⟩
    · simp only [if_neg hj]
      have : Nat.beq j id = false := by
        cases hb : Nat.beq j id with
        | false => rfl
        | true => exact absurd (Nat.eq_of_beq_eq_true hb) hj
      simp only [this] at q
      exact ⟨_, _, _, rfl, q⟩
  | _ => exact ⟨_, _, _, rfl, q⟩
/-- A scope: what leaves it by a goto goes on at the label. -/
theorem wp_scope {c : Code} (h : WP (exec G C f n c none ⟨t, H⟩) fun ex t H => match ex with
    | .goto l => (findLabel c l).isSome = true ∧ WP (exec G C f n c (some l) ⟨t, H⟩) fun ex' t H => match ex' with
      | .goto _ => False
      | ex' => Q ex' t H
    | ex => Q ex t H) : WP (exec G C f n (.scope c) none ⟨t, H⟩) Q := by
  obtain ⟨ex, t', H', e, q⟩ := h
  have e2 : exec G C f n (.scope c) none ⟨t, H⟩ = match exec G C f n c none ⟨t, H⟩ with
    | some (.goto l, σ') =>
      if (findLabel c l).isSome then
        match exec G C f n c (some l) σ' with
        | some (.goto _, _) => none
        | r => r
      else none
    | r => r := rfl
  unfold WP
  rw [e2, e]
  cases ex with
  | goto l =>
    obtain ⟨hl, ex', t'', H'', e', q'⟩ := q
    simp only [hl, if_true, e']
    cases ex' with
    | goto _ => exact q'.elim
    | _ => exact ⟨_, _, _, rfl, q'⟩
  | _ => exact ⟨_, _, _, rfl, q⟩
theorem wp_seq_l {a b : Code} {l : Nat} (hl : (findLabel a l).isSome = true) (h : WP (exec G C f n a (some l) ⟨t, H⟩) fun ex t H => match ex with
    | .normal => WP (exec G C f n b none ⟨t, H⟩) Q
    | ex => Q ex t H) : WP (exec G C f n (.seq a b) (some l) ⟨t, H⟩) Q := by
  obtain ⟨ex, t', H', e, q⟩ := h
  have e2 : exec G C f n (.seq a b) (some l) ⟨t, H⟩ = if (findLabel a l).isSome then
      match exec G C f n a (some l) ⟨t, H⟩ with
      | some (.normal, σ') => exec G C f n b none σ'
      | r => r
    else exec G C f n b (some l) ⟨t, H⟩ := rfl
  unfold WP
  rw [e2, hl, e]
  cases ex with
  | normal => exact q
  | _ => exact ⟨_, _, _, rfl, q⟩
theorem wp_seq_r {a b : Code} {l : Nat} (hl : (findLabel a l).isSome = false) (h : WP (exec G C f n b (some l) ⟨t, H⟩) Q) : WP (exec G C f n (.seq a b) (some l) ⟨t, H⟩) Q := by
  have e2 : exec G C f n (.seq a b) (some l) ⟨t, H⟩ = if (findLabel a l).isSome then
      match exec G C f n a (some l) ⟨t, H⟩ with
      | some (.normal, σ') => exec G C f n b none σ'
      | r => r
    else exec G C f n b (some l) ⟨t, H⟩ := rfl
  unfold WP
  rw [e2, hl]; exact h
theorem wp_label_l {l : Nat} (h : Q .normal t H) : WP (exec G C f n (.label l) (some l) ⟨t, H⟩) Q := by
  have e2 : exec G C f n (.label l) (some l) ⟨t, H⟩ = if l == l then some (.normal, ⟨t, H⟩) else none := rfl
  unfold WP
  rw [e2]; simp only [beq_self_eq_true, if_true]; exact ⟨_, _, _, rfl, h⟩

/-- A loop: an invariant with a measure. -/
theorem wp_loop {c : Code} (I : Nat → List AV → List Blk → Prop) (m : Nat) (hI : I m t H) (hm : m < n)
    (hs : ∀ k t' H', k ≤ m → I k t' H' → WP (exec G C f n c none ⟨t', H'⟩) fun ex t' H' => match ex with
      | .normal => ∃ t'' H'', tidy H.length (G.K f (2 * firstRegion c + 1)) ⟨t', H'⟩ = some ⟨t'', H''⟩ ∧ ∃ j, j < k ∧ I j t'' H''
      | ex => Q ex t' H') : WP (exec G C f n (.loop c) none ⟨t, H⟩) Q := by
  unfold WP
  rw [exec_loop]
  have key : ∀ (N' k : Nat) (t' : List AV) (H' : List Blk), k ≤ m → k < N' → I k t' H' → WP (iter (exec G C f n c none) (tidy H.length (G.K f (2 * firstRegion c + 1))) N' ⟨t', H'⟩) Q := by
    intro N'
    induction N' with
    | zero => intro k _ _ _ h; omega
    | succ N' ih =>
      intro k t' H' hkm hk hi
      obtain ⟨ex, t1, H1, e, q⟩ := hs k t' H' hkm hi
      unfold WP
      rw [iter_succ, e]
      cases ex with
      | normal =>
        obtain ⟨t2, H2, e', j, hj, q⟩ := q
        simp only [e', Option.bind_some]
        exact ih j t2 H2 (by omega) (by omega) q
      | _ => exact ⟨_, _, _, rfl, q⟩
  exact key n m t H (Nat.le_refl _) hm hI
end code

/-! ### Temporaries, laid over others -/
def ap (base : List AV) : List (Nat × AV) → List AV
  | [] => base
  | (j, v) :: r => (ap base r).set j v
def lk (base : List AV) : List (Nat × AV) → Nat → Option AV
  | [], i => nth base i
  | (j, v) :: r, i => match Nat.beq i j with
    | true => some v
    | false => lk base r i
def evalV (base : List AV) (ov : List (Nat × AV)) : Operand → AV
  | .tmp t => match lk base ov t with
    | some v => v
    | none => .undef
  | .const v => ofConst v
  | .func f => .pv (.fn f [] [])
  | .global _ => .any
theorem ap_length (base : List AV) : ∀ ov, (ap base ov).length = base.length
  | [] => rfl
  | (j, v) :: r => by simp [ap, ap_length base r]
theorem beq_cases (i j : Nat) : (Nat.beq i j = true ∧ i = j) ∨ (Nat.beq i j = false ∧ i ≠ j) := by
  cases hb : Nat.beq i j with
  | true => exact .inl ⟨rfl, Nat.eq_of_beq_eq_true hb⟩
  | false => exact .inr ⟨rfl, fun h => by subst h; rw [Nat.beq_refl] at hb; cases hb⟩
theorem ap_get {m : Nat} {base : List AV} (hb : base.length = m) : ∀ {ov : List (Nat × AV)}, (∀ p, p ∈ ov → p.1 < m) → ∀ i, (ap base ov)[i]? = lk base ov i
  | [], _, i => (nth_eq base i).symm
  | (j, v) :: r, h, i => by
    have ih := ap_get hb (ov := r) (fun p hp => h p (by simp [hp])) i
    have hj : j < m := h (j, v) (by simp)
    simp only [ap, lk]
    rcases beq_cases i j with ⟨e, rfl⟩ | ⟨e, hne⟩
    · rw [e, List.getElem?_set_self (by rw [ap_length, hb]; exact hj)]
    · rw [e, List.getElem?_set_ne (fun h => hne h.symm), ih]
theorem evalV_eq {m : Nat} {base : List AV} {ov : List (Nat × AV)} (hb : base.length = m) (h : ∀ p, p ∈ ov → p.1 < m) : evalA (ap base ov) = evalV base ov := by
  funext x
  cases x with
  | tmp i => simp only [evalV, evalA, ap_get hb h]; cases lk base ov i <;> rfl
  | _ => rfl
def wantedV (ops : Array Oper) (base : List AV) (ov : List (Nat × AV)) (o : Oper) : Option Bool :=
  match o.guard with
  | none => some true
  | some (j, want) =>
    match (ops[j]?).bind (·.dst) with
    | none => some false
    | some d => match lk base ov d with
      | some (.pv (.bool b)) => some (b == want)
      | some .undef => some false
      | _ => none
theorem wantedV_eq {m : Nat} {ops : Array Oper} {base : List AV} {ov : List (Nat × AV)} (hb : base.length = m) (h : ∀ p, p ∈ ov → p.1 < m) (o : Oper) : wantedA ops (ap base ov) o = wantedV ops base ov o := by
  unfold wantedA
  simp only [ap_get hb h]
  rfl
/-- The temporaries at a region's end. -/
def normT (base : List AV) (ov : List (Nat × AV)) (ks : List Nat) : Nat → Nat → List AV
  | 0, _ => []
  | k + 1, i => match hasN ks i with
    | true => .any :: normT base ov ks k (i + 1)
    | false => match lk base ov i with
      | some v => v :: normT base ov ks k (i + 1)
      | none => .any :: normT base ov ks k (i + 1)
theorem hasN_cons (k : Nat) (ks : List Nat) (i : Nat) : hasN (k :: ks) i = (Nat.beq i k || hasN ks i) := by
  simp only [hasN]; cases Nat.beq i k <;> rfl
theorem killAll_get : ∀ (ks : List Nat) (t : List AV) (i : Nat), i < t.length → (killAll t ks)[i]? = if hasN ks i = true then some .any else t[i]?
  | [], t, i, h => rfl
  | k :: ks, t, i, h => by
    simp only [killAll]
    rw [killAll_get ks _ i (by simpa using h), hasN_cons]
    rcases beq_cases i k with ⟨e, rfl⟩ | ⟨e, hne⟩
    · rw [e, List.getElem?_set_self h]; simp
    · rw [e, Bool.false_or, List.getElem?_set_ne (fun h => hne h.symm)]
theorem normT_get {m : Nat} {base : List AV} {ov : List (Nat × AV)} (hb : base.length = m) (h : ∀ p, p ∈ ov → p.1 < m) (ks : List Nat) : ∀ (k i j : Nat), i + k = m → j < k → (normT base ov ks k i)[j]? = (killAll (ap base ov) ks)[i + j]?
  | 0, i, j, _, hj => by omega
  | k + 1, i, j, hi, hj => by
    have hlen : (ap base ov).length = m := by rw [ap_length, hb]
    have ih := normT_get hb h ks k (i + 1)
    have hi' : i < (ap base ov).length := by omega
    have hh : (killAll (ap base ov) ks)[i]? = if hasN ks i then some .any else lk base ov i := by
      rw [killAll_get ks _ i hi', ap_get hb h]
    have hlk : ∃ v, lk base ov i = some v := by
      rw [← ap_get hb h, List.getElem?_eq_getElem hi']; exact ⟨_, rfl⟩
    obtain ⟨v, hv⟩ := hlk
    have e : normT base ov ks (k + 1) i = (if hasN ks i then .any else v) :: normT base ov ks k (i + 1) := by
      simp only [normT]
      cases hasN ks i <;> simp [hv]
    rw [e]
    cases j with
    | zero =>
      rw [List.getElem?_cons_zero, Nat.add_zero, hh, hv]
      cases hasN ks i <;> simp
    | succ j => rw [List.getElem?_cons_succ, ih j (by omega) (by omega)]; congr 1; omega
theorem killAll_length : ∀ (ks : List Nat) (t : List AV), (killAll t ks).length = t.length
  | [], t => rfl
  | k :: ks, t => by simp [killAll, killAll_length ks]
theorem normT_length (base : List AV) (ov : List (Nat × AV)) (ks : List Nat) : ∀ (k i : Nat), (normT base ov ks k i).length = k
  | 0, _ => rfl
  | k + 1, i => by
    simp only [normT]
    cases hasN ks i <;> simp only
    · cases lk base ov i <;> simp [normT_length base ov ks k]
    · simp [normT_length base ov ks k]
theorem normT_eq {m : Nat} {base : List AV} {ov : List (Nat × AV)} (hb : base.length = m) (h : ∀ p, p ∈ ov → p.1 < m) (ks : List Nat) : killAll (ap base ov) ks = normT base ov ks m 0 := by
  apply List.ext_getElem?
  intro j
  by_cases hj : j < m
  · rw [normT_get hb h ks m 0 j (by omega) hj, Nat.zero_add]
  · rw [List.getElem?_eq_none (by rw [killAll_length, ap_length, hb]; omega), List.getElem?_eq_none (by rw [normT_length]; omega)]

/-- A run of operations over such temporaries. -/
def WV (G : Cfg) (C : CallF) (ops : Array Oper) (i : Nat) (l : List Oper) (seen : List Seen) (m : Nat) (base : List AV) (ov : List (Nat × AV)) (H : List Blk) (R : Ex → List AV → List (Nat × AV) → List Blk → List Seen → Prop) : Prop :=
  base.length = m → (∀ p, p ∈ ov → p.1 < m) → ∃ ex t H' s b' o', runOps G C ops i l seen ⟨ap base ov, H⟩ = some (ex, ⟨t, H'⟩, s) ∧ t = ap b' o' ∧ b'.length = m ∧ (∀ p, p ∈ o' → p.1 < m) ∧ R ex b' o' H' s

section regions
variable {t : List AV} {H : List Blk}
/-- A region in text order. -/
theorem wp_region {id m : Nat} {ops : Array Oper} {ks : List Nat} (hK : G.K f (2 * id) = ks) (hm : t.length = m)
    (h : WV G C ops 0 ops.toList [] m t [] H fun ex b o H' _ => ∃ t', normT b o ks m 0 = t' ∧ Q ex t' H') : WP (exec G C f n (.region id ops false) none ⟨t, H⟩) Q := by
  obtain ⟨ex, t1, H', s, b', o', e, ht, hb, ho, t', htn, q⟩ := h hm (by simp)
  unfold WP
  rw [exec_region]
  unfold runRegion
  simp only [ap] at e
  subst ht
  simp only [e, Bool.false_eq_true, if_false, Option.map_some, hK, normT_eq hb ho, htn]
  exact ⟨_, _, _, rfl, q⟩
theorem wp_drawn {id m : Nat} {ops : Array Oper} {ks : List Nat} (hK : G.K f (2 * id) = ks) (hm : t.length = m) (hd : drawOk ops = true)
    (h : WV G C ops 0 ops.toList [] m t [] H fun ex b o H' s => match ex with
      | .normal => noClash (beforeOf ops ops.size []) s = true ∧ ∃ t', normT b o ks m 0 = t' ∧ Q .normal t' H'
      | _ => False) : WP (exec G C f n (.region id ops true) none ⟨t, H⟩) Q := by
  obtain ⟨ex, t1, H', s, b', o', e, ht, hb, ho, q⟩ := h hm (by simp)
  unfold WP
  rw [exec_region]
  unfold runRegion
  simp only [ap] at e
  subst ht
  cases ex with
  | normal =>
    obtain ⟨hn, t', htn, q⟩ := q
    simp only [e, if_true, hd, hn, Bool.and_self, Option.map_some, hK, normT_eq hb ho, htn]
    exact ⟨_, _, _, rfl, q⟩
  | _ => exact q.elim
end regions

/-! ### Operations -/
section ops
variable {ops : Array Oper} {i m d : Nat} {o : Oper} {rest : List Oper} {seen : List Seen} {base : List AV} {ov : List (Nat × AV)} {H : List Blk} {v : AV} {R : Ex → List AV → List (Nat × AV) → List Blk → List Seen → Prop}

theorem wo_nil (h : R .normal base ov H seen) : WV G C ops i [] seen m base ov H R := fun hb ho => ⟨_, _, _, _, _, _, rfl, rfl, hb, ho, h⟩
/-- The temporaries, laid together. -/
theorem wo_norm {l : List Oper} (t' : List AV) (ht : normT base ov [] m 0 = t') (h : WV G C ops i l seen m t' [] H R) : WV G C ops i l seen m base ov H R := by
  intro hb ho
  have e := normT_eq hb ho []
  simp only [killAll] at e
  rw [e, ht]
  exact h (by rw [← ht, normT_length]) (by simp)
theorem blt_lt {d m : Nat} (h : Nat.blt d m = true) : d < m := by
  have : d + 1 ≤ m := by simpa [Nat.blt] using h
  exact this
theorem wo_off (hd : o.dst = some d) (hm : Nat.blt d m = true) (hg : wantedV ops base ov o = some false) (h : WV G C ops (i + 1) rest seen m base ((d, .undef) :: ov) H R) : WV G C ops i (o :: rest) seen m base ov H R := by
  intro hb ho
  obtain ⟨ex, t, H', s, b', o', e, q⟩ := h hb (by intro p hp; rcases List.mem_cons.1 hp with rfl | hp; exact blt_lt hm; exact ho p hp)
  refine ⟨ex, t, H', s, b', o', ?_, q⟩
  rw [← wantedV_eq hb ho] at hg
  simp only [runOps, hg, hd, putA]
  exact e
theorem wo_off0 (hd : o.dst = none) (hg : wantedV ops base ov o = some false) (h : WV G C ops (i + 1) rest seen m base ov H R) : WV G C ops i (o :: rest) seen m base ov H R := by
  intro hb ho
  obtain ⟨ex, t, H', s, b', o', e, q⟩ := h hb ho
  refine ⟨ex, t, H', s, b', o', ?_, q⟩
  rw [← wantedV_eq hb ho] at hg
  simp only [runOps, hg, hd, putA]
  exact e
theorem wo_eff {u : List (Nat × Blk)} {nw H' : List Blk} (hd : o.dst = some d) (hm : Nat.blt d m = true) (hg : wantedV ops base ov o = some true) (ha : aOp G C (evalV base ov) o (lookOf H) H.length = some (.ok ⟨v, u, nw⟩))
    (hu : (u.all fun p => decide (p.1 < H.length)) = true) (hf : footOk H (foot (evalV base ov) o (lookOf H)) = true) (hH : setAll H u ++ nw = H')
    (h : WV G C ops (i + 1) rest (⟨i, foot (evalV base ov) o (lookOf H), u.map (·.1) ++ List.range' H.length nw.length⟩ :: seen) m base ((d, v) :: ov) H' R) : WV G C ops i (o :: rest) seen m base ov H R := by
  intro hb ho
  obtain ⟨ex, t, H2, s, b', o', e, q⟩ := h hb (by intro p hp; rcases List.mem_cons.1 hp with rfl | hp; exact blt_lt hm; exact ho p hp)
  refine ⟨ex, t, H2, s, b', o', ?_, q⟩
  rw [← wantedV_eq hb ho] at hg
  simp only [runOps, hg, evalV_eq hb ho, ha, updOk, hu, hf, Bool.and_self, if_true, applyEff, hH, hd, putA]
  exact e
theorem wo_eff0 {u : List (Nat × Blk)} {nw H' : List Blk} (hd : o.dst = none) (hg : wantedV ops base ov o = some true) (ha : aOp G C (evalV base ov) o (lookOf H) H.length = some (.ok ⟨v, u, nw⟩))
    (hu : (u.all fun p => decide (p.1 < H.length)) = true) (hf : footOk H (foot (evalV base ov) o (lookOf H)) = true) (hH : setAll H u ++ nw = H')
    (h : WV G C ops (i + 1) rest (⟨i, foot (evalV base ov) o (lookOf H), u.map (·.1) ++ List.range' H.length nw.length⟩ :: seen) m base ov H' R) : WV G C ops i (o :: rest) seen m base ov H R := by
  intro hb ho
  obtain ⟨ex, t, H2, s, b', o', e, q⟩ := h hb ho
  refine ⟨ex, t, H2, s, b', o', ?_, q⟩
  rw [← wantedV_eq hb ho] at hg
  simp only [runOps, hg, evalV_eq hb ho, ha, updOk, hu, hf, Bool.and_self, if_true, applyEff, hH, hd, putA]
  exact e
theorem wo_val (hd : o.dst = some d) (hm : Nat.blt d m = true) (hg : wantedV ops base ov o = some true) (ha : aOp G C (evalV base ov) o (lookOf H) H.length = some (.ok ⟨v, [], []⟩)) (hf : footOk H (foot (evalV base ov) o (lookOf H)) = true)
    (h : WV G C ops (i + 1) rest (⟨i, foot (evalV base ov) o (lookOf H), []⟩ :: seen) m base ((d, v) :: ov) H R) : WV G C ops i (o :: rest) seen m base ov H R :=
  wo_eff (u := []) (nw := []) hd hm hg ha rfl hf (by simp [setAll]) h

theorem wo_move {x : Operand} (ho : o.op = .move x) (hd : o.dst = some d) (hm : Nat.blt d m = true) (hg : wantedV ops base ov o = some true) (hx : evalV base ov x = v) (hn : ∀ h : v = .any, False)
    (h : WV G C ops (i + 1) rest (⟨i, [], []⟩ :: seen) m base ((d, v) :: ov) H R) : WV G C ops i (o :: rest) seen m base ov H R := by
  have hf : foot (evalV base ov) o (lookOf H) = [] := by unfold foot; rw [ho]
  refine wo_val hd hm hg ?_ (by rw [hf]; rfl) (by rw [hf]; exact h)
  unfold aOp; rw [ho]; simp only [hx]
  cases v <;> first | rfl | exact (hn rfl).elim
theorem wo_assign {x : Operand} (ho : o.op = .assign x) (hd : o.dst = some d) (hm : Nat.blt d m = true) (hg : wantedV ops base ov o = some true) (hx : evalV base ov x = v) (hn : ∀ h : v = .any, False)
    (h : WV G C ops (i + 1) rest (⟨i, [], []⟩ :: seen) m base ((d, v) :: ov) H R) : WV G C ops i (o :: rest) seen m base ov H R := by
  have hf : foot (evalV base ov) o (lookOf H) = [] := by unfold foot; rw [ho]
  refine wo_val hd hm hg ?_ (by rw [hf]; rfl) (by rw [hf]; exact h)
  unfold aOp; rw [ho]; simp only [hx]
  cases v <;> first | rfl | exact (hn rfl).elim
/-- move or assign of a pure value. -/
theorem wo_mpv {p : PV} {x : Operand} (ho : o.op = .move x) (hd : o.dst = some d) (hm : Nat.blt d m = true) (hg : wantedV ops base ov o = some true) (hx : evalV base ov x = .pv p)
    (h : WV G C ops (i + 1) rest (⟨i, [], []⟩ :: seen) m base ((d, (.pv p)) :: ov) H R) : WV G C ops i (o :: rest) seen m base ov H R :=
  wo_move ho hd hm hg hx (fun h => AV.noConfusion h) h
theorem wo_apv {p : PV} {x : Operand} (ho : o.op = .assign x) (hd : o.dst = some d) (hm : Nat.blt d m = true) (hg : wantedV ops base ov o = some true) (hx : evalV base ov x = .pv p)
    (h : WV G C ops (i + 1) rest (⟨i, [], []⟩ :: seen) m base ((d, (.pv p)) :: ov) H R) : WV G C ops i (o :: rest) seen m base ov H R :=
  wo_assign ho hd hm hg hx (fun h => AV.noConfusion h) h
theorem wo_pick {b : Bool} {c x y : Operand} (ho : o.op = .pick c x y) (hd : o.dst = some d) (hm : Nat.blt d m = true) (hg : wantedV ops base ov o = some true) (hc : evalV base ov c = .pv (.bool b)) (hv : (if b then evalV base ov x else evalV base ov y) = v)
    (h : WV G C ops (i + 1) rest (⟨i, [], []⟩ :: seen) m base ((d, v) :: ov) H R) : WV G C ops i (o :: rest) seen m base ov H R := by
  have hf : foot (evalV base ov) o (lookOf H) = [] := by unfold foot; rw [ho]
  refine wo_val hd hm hg ?_ (by rw [hf]; rfl) (by rw [hf]; exact h)
  unfold aOp; rw [ho]; simp only [hc, hv]; rfl
theorem wo_bin {op : BinOp} {t : Nat} {x y : Operand} {w} (ho : o.op = .binOp op t x y w) (hd : o.dst = some d) (hm : Nat.blt d m = true) (hg : wantedV ops base ov o = some true) (hv : aBin ((G.T t).map (·.desc)) (G.E t) op (evalV base ov x) (evalV base ov y) = some v)
    (h : WV G C ops (i + 1) rest (⟨i, [], []⟩ :: seen) m base ((d, v) :: ov) H R) : WV G C ops i (o :: rest) seen m base ov H R := by
  have hf : foot (evalV base ov) o (lookOf H) = [] := by unfold foot; rw [ho]
  refine wo_val hd hm hg ?_ (by rw [hf]; rfl) (by rw [hf]; exact h)
  unfold aOp; rw [ho]; simp only [hv]; rfl
theorem wo_bint {ti : TI} {op : BinOp} {t : Nat} {x y : Operand} {w} (ht : G.T t = some ti) (ho : o.op = .binOp op t x y w) (hd : o.dst = some d) (hm : Nat.blt d m = true) (hg : wantedV ops base ov o = some true) (hv : aBin (some ti.desc) (G.E t) op (evalV base ov x) (evalV base ov y) = some v)
    (h : WV G C ops (i + 1) rest (⟨i, [], []⟩ :: seen) m base ((d, v) :: ov) H R) : WV G C ops i (o :: rest) seen m base ov H R :=
  wo_bin ho hd hm hg (by rw [ht]; exact hv) h
theorem wo_un {op : UnOp} {t : Nat} {x : Operand} (ho : o.op = .unOp op t x) (hd : o.dst = some d) (hm : Nat.blt d m = true) (hg : wantedV ops base ov o = some true) (hv : aUn op (evalV base ov x) = some v)
    (h : WV G C ops (i + 1) rest (⟨i, [], []⟩ :: seen) m base ((d, v) :: ov) H R) : WV G C ops i (o :: rest) seen m base ov H R := by
  have hf : foot (evalV base ov) o (lookOf H) = [] := by unfold foot; rw [ho]
  refine wo_val hd hm hg ?_ (by rw [hf]; rfl) (by rw [hf]; exact h)
  unfold aOp; rw [ho]; simp only [hv]; rfl
theorem wo_nilCheck {x : Operand} (ho : o.op = .nilCheck x) (hd : o.dst = some d) (hm : Nat.blt d m = true) (hg : wantedV ops base ov o = some true) (hx : evalV base ov x = v) (hv : nilPtr v = some false)
    (h : WV G C ops (i + 1) rest (⟨i, [], []⟩ :: seen) m base ((d, v) :: ov) H R) : WV G C ops i (o :: rest) seen m base ov H R := by
  have hf : foot (evalV base ov) o (lookOf H) = [] := by unfold foot; rw [ho]
  refine wo_val hd hm hg ?_ (by rw [hf]; rfl) (by rw [hf]; exact h)
  unfold aOp; rw [ho]; simp only [hx, hv]; rfl
/-- An address, so many cells on. -/
def shiftP (p : AV) (off : Nat) : Option AV :=
  match p with
  | .pv (.ptr cells k) => some (.pv (.ptr cells (k + off)))
  | .ptr id k => some (.ptr id (k + off))
  | .eptr id g h esz i k => some (.eptr id g h esz i (k + off))
  | _ => none
/-- The address of a field, by the field's place. -/
theorem wo_faddr {s fld off ft : Nat} {fs : List (Nat × Nat)} {sz bs : Nat} {ag : Bool} {z : List PV} {fi : TI} {x : Operand} (ht : G.T s = some ⟨.struct fs, sz, bs, ag, z⟩) (ht2 : G.T ft = some fi) (ho : o.op = .fieldAddr s x fld) (hd : o.dst = some d) (hm : Nat.blt d m = true) (hg : wantedV ops base ov o = some true) (hfs : fs[fld]? = some (off, ft)) (h0 : Nat.beq fi.size 0 = false)
    (hv : shiftP (evalV base ov x) off = some v)
    (h : WV G C ops (i + 1) rest (⟨i, [], []⟩ :: seen) m base ((d, v) :: ov) H R) : WV G C ops i (o :: rest) seen m base ov H R := by
  have hf : foot (evalV base ov) o (lookOf H) = [] := by unfold foot; rw [ho]
  have h0' : (fi.size = 0) = False := by
    apply eq_false; intro h; rw [h] at h0; cases h0
  refine wo_val hd hm hg ?_ (by rw [hf]; rfl) (by rw [hf]; exact h)
  have e : aField G.T s (evalV base ov x) fld = shiftP (evalV base ov x) off := by
    simp only [aField, ht, hfs, ht2, h0', if_false]
    rfl
  unfold aOp; rw [ho]; simp only [e, hv]; rfl
theorem wo_field {s fld off ft : Nat} {fs : List (Nat × Nat)} {sz bs : Nat} {ag : Bool} {z : List PV} {fi : TI} {cs : List AV} {x : Operand} (ht : G.T s = some ⟨.struct fs, sz, bs, ag, z⟩) (ht2 : G.T ft = some fi) (ho : o.op = .field s x fld) (hd : o.dst = some d) (hm : Nat.blt d m = true) (hg : wantedV ops base ov o = some true) (hfs : fs[fld]? = some (off, ft))
    (hx : evalV base ov x = .agg cs) (hv : (cut cs off fi.size).bind (mkVal fi.agg) = some v)
    (h : WV G C ops (i + 1) rest (⟨i, [], []⟩ :: seen) m base ((d, v) :: ov) H R) : WV G C ops i (o :: rest) seen m base ov H R := by
  have hf : foot (evalV base ov) o (lookOf H) = [] := by unfold foot; rw [ho]
  refine wo_val hd hm hg ?_ (by rw [hf]; rfl) (by rw [hf]; exact h)
  unfold aOp; rw [ho]; simp only [aFieldVal, ht, hfs, ht2, hx]
  rw [hv]; rfl

/-- What a load reads. -/
def loadV (ti : TI) (p : AV) (look : Look) : Option AV :=
  match p with
  | .pv (.ptr cells off) => (cut cells off ti.size).bind fun r => mkVal ti.agg (r.map .pv)
  | .ptr id off =>
    match look id with
    | some (.box cells _) => (cut cells off ti.size).bind (mkVal ti.agg)
    | _ => none
  | .eptr id g h esz i off =>
    match look id with
    | some (.row _ esz' r) =>
      if r.valid g h && esz == esz' && decide (i < h) then
        (r.rows[i]?).bind fun c => (cut c off ti.size).bind fun r => mkVal ti.agg (r.map .pv)
      else none
    | _ => none
  | _ => none
theorem aLoad_ti {T : Nat → Option TI} {t : Nat} {ti : TI} {p : AV} {look : Look} (ht : T t = some ti) : aLoad T t p look = loadV ti p look := by
  unfold aLoad; rw [ht]; rfl
theorem wo_load {t : Nat} {ti : TI} {x : Operand} (ht : G.T t = some ti) (ho : o.op = .load t x) (hd : o.dst = some d) (hm : Nat.blt d m = true) (hg : wantedV ops base ov o = some true) (hv : loadV ti (evalV base ov x) (lookOf H) = some v) (hf : footOk H (dirIds (evalV base ov x)) = true)
    (h : WV G C ops (i + 1) rest (⟨i, dirIds (evalV base ov x), []⟩ :: seen) m base ((d, v) :: ov) H R) : WV G C ops i (o :: rest) seen m base ov H R := by
  have hf' : foot (evalV base ov) o (lookOf H) = dirIds (evalV base ov x) := by unfold foot; rw [ho]
  refine wo_val hd hm hg ?_ (by rw [hf']; exact hf) (by rw [hf']; exact h)
  unfold aOp; rw [ho]; simp only [aLoad_ti ht, hv]; rfl
theorem wo_store {t : Nat} {ti : TI} {x a : Operand} {id off : Nat} {cs cs' vs : List AV} {H' : List Blk} (ht : G.T t = some ti) (ho : o.op = .store t a x) (hd : o.dst = none) (hg : wantedV ops base ov o = some true) (ha : evalV base ov a = .ptr id off) (hx : (evalV base ov x).cells = some vs) (hl : vs.length = ti.size)
    (hb : H[id]? = some (.box cs false)) (hs : splice cs off vs = some cs') (hH : H.set id (.box cs' false) = H')
    (h : WV G C ops (i + 1) rest (⟨i, [id], [id]⟩ :: seen) m base ov H' R) : WV G C ops i (o :: rest) seen m base ov H R := by
  have hf' : foot (evalV base ov) o (lookOf H) = [id] := by unfold foot; rw [ho]; simp only [ha]; rfl
  have hid : id < H.length := by
    rcases Nat.lt_or_ge id H.length with h | h
    · exact h
    · rw [List.getElem?_eq_none h] at hb; cases hb
  refine wo_eff0 (v := .undef) (u := [(id, .box cs' false)]) (nw := []) hd hg ?_ (by simpa using hid) (by rw [hf']; simpa [footOk] using hid) (H' := H') (by simp [setAll, hH]) ?_
  · unfold aOp; rw [ho]; simp only [aStore, ht, hx, hl, if_true, ha, lookOf, hb, hs, Option.map_some]; rfl
  · rw [hf']; simpa using h
theorem wo_alloc {e : Nat} {ti : TI} {cs : List AV} {H' : List Blk} (ht : G.T e = some ti) (ho : o.op = .alloc e) (hd : o.dst = some d) (hm : Nat.blt d m = true) (hg : wantedV ops base ov o = some true) (hz : zeroAV ti = cs) (hH : H ++ [.box cs false] = H')
    (h : WV G C ops (i + 1) rest (⟨i, [], [H.length]⟩ :: seen) m base ((d, (.ptr H.length 0)) :: ov) H' R) : WV G C ops i (o :: rest) seen m base ov H R := by
  have hf' : foot (evalV base ov) o (lookOf H) = [] := by unfold foot; rw [ho]
  refine wo_eff (v := .ptr H.length 0) (u := []) (nw := [.box cs false]) hd hm hg ?_ rfl (by rw [hf']; rfl) (H' := H') (by simp [setAll, hH]) ?_
  · unfold aOp; rw [ho]; simp only [ht, Option.bind_some, hz]
  · rw [hf']; exact h
theorem wo_box {e : Nat} {x : Operand} {cs : List AV} {H' : List Blk} (ho : o.op = .box e x) (hd : o.dst = some d) (hm : Nat.blt d m = true) (hg : wantedV ops base ov o = some true) (hx : (evalV base ov x).cells = some cs) (hH : H ++ [.box cs false] = H')
    (h : WV G C ops (i + 1) rest (⟨i, [], [H.length]⟩ :: seen) m base ((d, (.ptr H.length 0)) :: ov) H' R) : WV G C ops i (o :: rest) seen m base ov H R := by
  have hf' : foot (evalV base ov) o (lookOf H) = [] := by unfold foot; rw [ho]
  refine wo_eff (v := .ptr H.length 0) (u := []) (nw := [.box cs false]) hd hm hg ?_ rfl (by rw [hf']; rfl) (H' := H') (by simp [setAll, hH]) ?_
  · unfold aOp; rw [ho]; simp only [hx, Option.bind_some]
  · rw [hf']; exact h
theorem wo_extract {x : Operand} {k : Nat} {vs : List AV} (ho : o.op = .extract x k) (hd : o.dst = some d) (hm : Nat.blt d m = true) (hg : wantedV ops base ov o = some true) (hx : evalV base ov x = .tup vs) (hv : vs[k]? = some v)
    (h : WV G C ops (i + 1) rest (⟨i, [], []⟩ :: seen) m base ((d, v) :: ov) H R) : WV G C ops i (o :: rest) seen m base ov H R := by
  have hf : foot (evalV base ov) o (lookOf H) = [] := by unfold foot; rw [ho]
  refine wo_val hd hm hg ?_ (by rw [hf]; rfl) (by rw [hf]; exact h)
  unfold aOp; rw [ho]; simp only [hx, hv]; rfl
theorem wo_conv {s dt : Nat} {x : Operand} (ho : o.op = .convert s dt x) (hd : o.dst = some d) (hm : Nat.blt d m = true) (hg : wantedV ops base ov o = some true) (hv : aConv G.T s dt (evalV base ov x) (lookOf H) = some v) (hf : footOk H (dirIds (evalV base ov x)) = true)
    (h : WV G C ops (i + 1) rest (⟨i, dirIds (evalV base ov x), []⟩ :: seen) m base ((d, v) :: ov) H R) : WV G C ops i (o :: rest) seen m base ov H R := by
  have hf' : foot (evalV base ov) o (lookOf H) = dirIds (evalV base ov x) := by unfold foot; rw [ho]
  refine wo_val hd hm hg ?_ (by rw [hf']; exact hf) (by rw [hf']; exact h)
  unfold aOp; rw [ho]; simp only [hv]; rfl
/-- Between kinds of whole numbers. -/
theorem wo_convi {s dt : Nat} {x : Operand} {si di : TI} {k k' : IntKind} {a : Int} (hs : G.T s = some si) (hdt : G.T dt = some di) (hk : di.desc = .int k) (ho : o.op = .convert s dt x) (hd : o.dst = some d) (hm : Nat.blt d m = true) (hg : wantedV ops base ov o = some true) (hx : evalV base ov x = .pv (.int k' a))
    (h : WV G C ops (i + 1) rest (⟨i, [], []⟩ :: seen) m base ((d, (.pv (.int k (k.wrap a)))) :: ov) H R) : WV G C ops i (o :: rest) seen m base ov H R := by
  refine wo_conv ho hd hm hg ?_ (by rw [hx]; rfl) (by rw [hx]; exact h)
  unfold aConv; simp only [hs, hdt, hk, hx]
/-- How long. -/
def lenT (d : TD) (x : AV) : Option Nat :=
  match d, x with
  | .str, .pv (.str s) => some s.size
  | .slice _, .pv (.str _) => none
  | .slice _, x => lenA x
  | _, _ => none
theorem wo_len {x : Operand} {c : Call} {t : Nat} {ti : TI} {ln : Nat} (ht : G.T t = some ti) (ho : o.op = .call c) (hc : c.callee = .builtin .len) (ha : c.args.toList = [x]) (hat : c.argTypes.toList = [t]) (hd : o.dst = some d) (hm : Nat.blt d m = true) (hg : wantedV ops base ov o = some true) (hv : lenT ti.desc (evalV base ov x) = some ln) (hf : footOk H (dirIds (evalV base ov x)) = true)
    (h : WV G C ops (i + 1) rest (⟨i, dirIds (evalV base ov x), []⟩ :: seen) m base ((d, (.pv (.int .i64 (ln : Int)))) :: ov) H R) : WV G C ops i (o :: rest) seen m base ov H R := by
  obtain ⟨cal, args, ats⟩ := c
  simp only at hc ha hat
  subst hc
  have hf' : foot (evalV base ov) o (lookOf H) = dirIds (evalV base ov x) := by unfold foot; rw [ho]; simp [ha]
  refine wo_val hd hm hg ?_ (by rw [hf']; exact hf) (by rw [hf']; exact h)
  unfold aOp; rw [ho]; simp only [ha, hat, List.map_cons, List.map_nil, aBuiltin, ht]
  obtain ⟨dd, s1, s2, s3, s4⟩ := ti
  generalize evalV base ov x = y at hv
  simp only at hv
  cases dd <;> (try (cases hv; done)) <;> cases y <;> (try (cases hv; done)) <;> (try (simp only [lenT] at hv; simp only [hv]; rfl))
  all_goals (rename_i p; cases p)
  all_goals first | (cases hv; done) | (simp only [lenT] at hv; simp only [hv]; rfl) | (cases hv; rfl)
def noStr (x : AV) : Bool :=
  match x with
  | .pv (.str _) => false
  | _ => true
theorem wo_slice {t e : Nat} {x : Operand} {lo hi : Option Operand} {sz bs : Nat} {ag : Bool} {z : List PV} {ei : TI} (ht : G.T t = some ⟨.slice e, sz, bs, ag, z⟩) (he : G.T e = some ei) (ho : o.op = .slice t x lo hi none) (hd : o.dst = some d) (hm : Nat.blt d m = true) (hg : wantedV ops base ov o = some true)
    (hn : noStr (evalV base ov x) = true) (hv : aSlice ei.size (evalV base ov x) (lo.map (evalV base ov)) (hi.map (evalV base ov)) = some v)
    (h : WV G C ops (i + 1) rest (⟨i, [], []⟩ :: seen) m base ((d, v) :: ov) H R) : WV G C ops i (o :: rest) seen m base ov H R := by
  have hf : foot (evalV base ov) o (lookOf H) = [] := by unfold foot; rw [ho]
  refine wo_val hd hm hg ?_ (by rw [hf]; rfl) (by rw [hf]; exact h)
  unfold aOp; rw [ho]; simp only [ht, he]
  split
  · rename_i s hs; rw [hs] at hn; cases hn
  · rw [hv]; rfl
/-- A call. -/
theorem wo_call {c : Call} {fv : Operand} {as : List AV} {u : List (Nat × Blk)} {nw H' : List Blk} (ho : o.op = .call c) (hc : c.callee = .value fv) (hd : o.dst = some d) (hm : Nat.blt d m = true) (hg : wantedV ops base ov o = some true) (hargs : c.args.toList.map (evalV base ov) = as)
    (hv : aCall G C (evalV base ov fv) as (lookOf H) H.length = some (.ok ⟨v, u, nw⟩)) (hu : (u.all fun p => decide (p.1 < H.length)) = true)
    (hf : footOk H (match callee (evalV base ov fv) as with
      | some p => reach (lookOf H) REACH (AV.idsL p.2) []
      | none => []) = true) (hH : setAll H u ++ nw = H')
    (h : WV G C ops (i + 1) rest (⟨i, (match callee (evalV base ov fv) as with
      | some p => reach (lookOf H) REACH (AV.idsL p.2) []
      | none => []), u.map (·.1) ++ List.range' H.length nw.length⟩ :: seen) m base ((d, v) :: ov) H' R) : WV G C ops i (o :: rest) seen m base ov H R := by
  obtain ⟨cal, args, ats⟩ := c
  simp only at hc hargs
  subst hc
  have hf' : foot (evalV base ov) o (lookOf H) = (match callee (evalV base ov fv) as with
      | some p => reach (lookOf H) REACH (AV.idsL p.2) []
      | none => []) := by unfold foot; rw [ho]; simp only [hargs]; rfl
  refine wo_eff hd hm hg ?_ hu (by rw [hf']; exact hf) hH (by rw [hf']; exact h)
  unfold aOp; rw [ho]; simp only [hargs]; exact hv
/-- A call without a result. -/
theorem wo_call0 {c : Call} {fv : Operand} {as : List AV} {u : List (Nat × Blk)} {nw H' : List Blk} (ho : o.op = .call c) (hc : c.callee = .value fv) (hd : o.dst = none) (hg : wantedV ops base ov o = some true) (hargs : c.args.toList.map (evalV base ov) = as)
    (hv : aCall G C (evalV base ov fv) as (lookOf H) H.length = some (.ok ⟨v, u, nw⟩)) (hu : (u.all fun p => decide (p.1 < H.length)) = true)
    (hf : footOk H (match callee (evalV base ov fv) as with
      | some p => reach (lookOf H) REACH (AV.idsL p.2) []
      | none => []) = true) (hH : setAll H u ++ nw = H')
    (h : WV G C ops (i + 1) rest (⟨i, (match callee (evalV base ov fv) as with
      | some p => reach (lookOf H) REACH (AV.idsL p.2) []
      | none => []), u.map (·.1) ++ List.range' H.length nw.length⟩ :: seen) m base ov H' R) : WV G C ops i (o :: rest) seen m base ov H R := by
  obtain ⟨cal, args, ats⟩ := c
  simp only at hc hargs
  subst hc
  have hf' : foot (evalV base ov) o (lookOf H) = (match callee (evalV base ov fv) as with
      | some p => reach (lookOf H) REACH (AV.idsL p.2) []
      | none => []) := by unfold foot; rw [ho]; simp only [hargs]; rfl
  refine wo_eff0 (v := v) hd hg ?_ hu (by rw [hf']; exact hf) hH (by rw [hf']; exact h)
  unfold aOp; rw [ho]; simp only [hargs]; exact hv
end ops


theorem bT {p : Prop} [Decidable p] (h : p) : some (AV.pv (.bool (decide p))) = some (AV.pv (.bool true)) := by rw [decide_eq_true h]
theorem bF {p : Prop} [Decidable p] (h : ¬ p) : some (AV.pv (.bool (decide p))) = some (AV.pv (.bool false)) := by rw [decide_eq_false h]
theorem eT {a b : Int} (h : a = b) : some (AV.pv (.bool (a == b))) = some (AV.pv (.bool true)) := by rw [h]; simp
theorem eF {a b : Int} (h : a ≠ b) : some (AV.pv (.bool (a == b))) = some (AV.pv (.bool false)) := by simp [h]
theorem nT {a b : Int} (h : a ≠ b) : some (AV.pv (.bool (a != b))) = some (AV.pv (.bool true)) := by simp [h]
theorem nF {a b : Int} (h : a = b) : some (AV.pv (.bool (a != b))) = some (AV.pv (.bool false)) := by rw [h]; simp
theorem vT {b : Bool} (h : b = true) : some (AV.pv (.bool b)) = some (AV.pv (.bool true)) := by rw [h]
theorem vF {b : Bool} (h : b = false) : some (AV.pv (.bool b)) = some (AV.pv (.bool false)) := by rw [h]
theorem iV {k : IntKind} {a b : Int} (h : a = b) : some (AV.pv (.int k a)) = some (AV.pv (.int k b)) := by rw [h]
theorem pV {p q : PV} (h : p = q) : some (AV.pv p) = some (AV.pv q) := by rw [h]
section split
variable {ops : Array Oper} {i m d : Nat} {o : Oper} {rest : List Oper} {seen : List Seen} {base : List AV} {ov : List (Nat × AV)} {H : List Blk} {v : AV} {R : Ex → List AV → List (Nat × AV) → List Blk → List Seen → Prop}
theorem wo_bsplit {p : Prop} [Decidable p] {op : BinOp} {t : Nat} {x y : Operand} {w} (ho : o.op = .binOp op t x y w) (hd : o.dst = some d) (hm : Nat.blt d m = true) (hg : wantedV ops base ov o = some true) (hv : aBin ((G.T t).map (·.desc)) (G.E t) op (evalV base ov x) (evalV base ov y) = some (.pv (.bool (decide p))))
    (h1 : p → WV G C ops (i + 1) rest (⟨i, [], []⟩ :: seen) m base ((d, (.pv (.bool true))) :: ov) H R) (h2 : ¬ p → WV G C ops (i + 1) rest (⟨i, [], []⟩ :: seen) m base ((d, (.pv (.bool false))) :: ov) H R) : WV G C ops i (o :: rest) seen m base ov H R := by
  by_cases hp : p
  · exact wo_bin ho hd hm hg (hv.trans (bT hp)) (h1 hp)
  · exact wo_bin ho hd hm hg (hv.trans (bF hp)) (h2 hp)
theorem wo_esplit {a b : Int} {op : BinOp} {t : Nat} {x y : Operand} {w} (ho : o.op = .binOp op t x y w) (hd : o.dst = some d) (hm : Nat.blt d m = true) (hg : wantedV ops base ov o = some true) (hv : aBin ((G.T t).map (·.desc)) (G.E t) op (evalV base ov x) (evalV base ov y) = some (.pv (.bool (a == b))))
    (h1 : a = b → WV G C ops (i + 1) rest (⟨i, [], []⟩ :: seen) m base ((d, (.pv (.bool true))) :: ov) H R) (h2 : a ≠ b → WV G C ops (i + 1) rest (⟨i, [], []⟩ :: seen) m base ((d, (.pv (.bool false))) :: ov) H R) : WV G C ops i (o :: rest) seen m base ov H R := by
  by_cases hp : a = b
  · exact wo_bin ho hd hm hg (hv.trans (eT hp)) (h1 hp)
  · exact wo_bin ho hd hm hg (hv.trans (eF hp)) (h2 hp)
theorem wo_nsplit {a b : Int} {op : BinOp} {t : Nat} {x y : Operand} {w} (ho : o.op = .binOp op t x y w) (hd : o.dst = some d) (hm : Nat.blt d m = true) (hg : wantedV ops base ov o = some true) (hv : aBin ((G.T t).map (·.desc)) (G.E t) op (evalV base ov x) (evalV base ov y) = some (.pv (.bool (a != b))))
    (h1 : a ≠ b → WV G C ops (i + 1) rest (⟨i, [], []⟩ :: seen) m base ((d, (.pv (.bool true))) :: ov) H R) (h2 : a = b → WV G C ops (i + 1) rest (⟨i, [], []⟩ :: seen) m base ((d, (.pv (.bool false))) :: ov) H R) : WV G C ops i (o :: rest) seen m base ov H R := by
  by_cases hp : a = b
  · exact wo_bin ho hd hm hg (hv.trans (nF hp)) (h2 hp)
  · exact wo_bin ho hd hm hg (hv.trans (nT hp)) (h1 hp)
end split
/-- An index address into rows that are known. -/
theorem iaddr_pv {T : Nat → Option TI} {t e : Nat} {sz bs : Nat} {ag : Bool} {z : List PV} {ei : TI} {rows : List (List PV)} {c : List PV} {k : IntKind} {ix : Int} {j : Nat} (ht : T t = some ⟨.slice e, sz, bs, ag, z⟩) (he : T e = some ei) (hj : ix = (j : Int)) (hr : rows[j]? = some c) (hl : c.length = ei.size) :
    aIndexAddr T t (.pv (.sl rows)) (.pv (.int k ix)) = some (.pv (.ptr c 0)) := by
  subst hj
  simp only [aIndexAddr, ht, he, Int.natCast_nonneg, if_true, Int.toNat_natCast, hr, hl]
theorem call_eq {f n : Nat} {fn : Func} {c : Code} {args tmps : List AV} {H H' : List Blk} {v : AV} (hf : G.P.funcs[f]? = some fn) (hb : fn.body = some c) (ht : args ++ List.replicate (fn.ntmps - args.length) .any = tmps)
    (h : WP (exec G (call G n) f n c none ⟨tmps, H⟩) fun ex tt HH => (match ex with
      | .normal | .ret => True
      | _ => False) ∧ ∃ vs, resAll G ⟨tt, HH⟩ fn.results.toList = some vs ∧ leave (G.M f) H.length (tupOf vs) HH = some (v, H')) :
    call G (n + 1) f args H = some (.ret v, H') := by
  obtain ⟨ex, tt, HH, e, hex, vs, hr, hl⟩ := h
  simp only [call, hf, hb, ht, e]
  cases ex <;> simp only at hex <;> simp only [hr, Option.bind_some, hl, Option.map_some]
theorem wconv {T : Nat → Option TI} {s d : Nat} {si di : TI} {x : AV} {look : Look} {k : IntKind} {k' : IntKind} {a : Int} (hs : T s = some si) (hd : T d = some di) (hk : di.desc = .int k) (hx : x = .pv (.int k' a)) : aConv T s d x look = some (.pv (.int k (k.wrap a))) := by
  unfold aConv; simp only [hs, hd, hk, hx]
section more
variable {ops : Array Oper} {i m d : Nat} {o : Oper} {rest : List Oper} {seen : List Seen} {base : List AV} {ov : List (Nat × AV)} {H : List Blk} {v : AV} {R : Ex → List AV → List (Nat × AV) → List Blk → List Seen → Prop}
theorem wo_iaddr {t : Nat} {x y : Operand} (ho : o.op = .indexAddr t x y) (hd : o.dst = some d) (hm : Nat.blt d m = true) (hg : wantedV ops base ov o = some true) (hv : aIndexAddr G.T t (evalV base ov x) (evalV base ov y) = some v)
    (h : WV G C ops (i + 1) rest (⟨i, [], []⟩ :: seen) m base ((d, v) :: ov) H R) : WV G C ops i (o :: rest) seen m base ov H R := by
  have hf : foot (evalV base ov) o (lookOf H) = [] := by unfold foot; rw [ho]
  refine wo_val hd hm hg ?_ (by rw [hf]; rfl) (by rw [hf]; exact h)
  unfold aOp; rw [ho]; simp only [hv]; rfl
theorem wo_index {t : Nat} {x y : Operand} {sz bs : Nat} {ag : Bool} {z : List PV} (ht : G.T t = some ⟨.str, sz, bs, ag, z⟩) (ho : o.op = .index t x y) (hd : o.dst = some d) (hm : Nat.blt d m = true) (hg : wantedV ops base ov o = some true) (hv : aIndex (evalV base ov x) (evalV base ov y) = some v)
    (h : WV G C ops (i + 1) rest (⟨i, [], []⟩ :: seen) m base ((d, v) :: ov) H R) : WV G C ops i (o :: rest) seen m base ov H R := by
  have hf : foot (evalV base ov) o (lookOf H) = [] := by unfold foot; rw [ho]
  refine wo_val hd hm hg ?_ (by rw [hf]; rfl) (by rw [hf]; exact h)
  unfold aOp; rw [ho]; simp only [ht, hv]; rfl
/-- min or max of two whole numbers. -/
theorem wo_fold {x : Operand} {xs : List Operand} {c : Call} {b : Builtin} {fo : AV → AV → Option AV} (hb : (b = .min ∧ fo = minA) ∨ (b = .max ∧ fo = maxA)) (ho : o.op = .call c) (hc : c.callee = .builtin b) (ha : c.args.toList = x :: xs) (hd : o.dst = some d) (hm : Nat.blt d m = true) (hg : wantedV ops base ov o = some true) (hv : foldA fo (evalV base ov x) (xs.map (evalV base ov)) = some v) (hf : footOk H ((x :: xs).flatMap fun x => dirIds (evalV base ov x)) = true)
    (h : WV G C ops (i + 1) rest (⟨i, (x :: xs).flatMap fun x => dirIds (evalV base ov x), []⟩ :: seen) m base ((d, v) :: ov) H R) : WV G C ops i (o :: rest) seen m base ov H R := by
  obtain ⟨cal, args, ats⟩ := c
  simp only at hc ha
  subst hc
  have hf' : foot (evalV base ov) o (lookOf H) = (x :: xs).flatMap fun x => dirIds (evalV base ov x) := by unfold foot; rw [ho]; simp [ha]
  refine wo_val hd hm hg ?_ (by rw [hf']; exact hf) (by rw [hf']; exact h)
  unfold aOp; rw [ho]; simp only [ha, List.map_cons]
  rcases hb with ⟨rfl, rfl⟩ | ⟨rfl, rfl⟩ <;> simp only [aBuiltin, hv] <;> rfl
theorem wo_buildSlice {t len : Nat} {parts} {r : AV} {b : Blk} {H' : List Blk} (ho : o.op = .buildSlice t len parts) (hd : o.dst = some d) (hm : Nat.blt d m = true) (hg : wantedV ops base ov o = some true) (hv : aBuildSlice G.T H.length t len (parts.toList.map fun p => (p.1, evalV base ov p.2)) = some ⟨r, [], [b]⟩) (hH : H ++ [b] = H')
    (h : WV G C ops (i + 1) rest (⟨i, [], [H.length]⟩ :: seen) m base ((d, r) :: ov) H' R) (hl : led (parts.toList.map fun p => evalV base ov p.2) = false := by rfl) : WV G C ops i (o :: rest) seen m base ov H R := by
  have hf' : foot (evalV base ov) o (lookOf H) = [] := by unfold foot; rw [ho]; simp only [hl]; rfl
  refine wo_eff (v := r) (u := []) (nw := [b]) hd hm hg ?_ rfl (by rw [hf']; rfl) (H' := H') (by simp [setAll, hH]) ?_
  · unfold aOp; rw [ho]; simp only [hl, hv]; rfl
  · rw [hf']; exact h
theorem wo_build {t : Nat} {parts} (ho : o.op = .build t parts) (hd : o.dst = some d) (hm : Nat.blt d m = true) (hg : wantedV ops base ov o = some true) (hv : aBuild G.T t (parts.toList.map fun p => (p.1, evalV base ov p.2)) = some v)
    (h : WV G C ops (i + 1) rest (⟨i, [], []⟩ :: seen) m base ((d, v) :: ov) H R) : WV G C ops i (o :: rest) seen m base ov H R := by
  have hf : foot (evalV base ov) o (lookOf H) = [] := by unfold foot; rw [ho]
  refine wo_val hd hm hg ?_ (by rw [hf]; rfl) (by rw [hf]; exact h)
  unfold aOp; rw [ho]; simp only [hv]; rfl
theorem wo_append {x y : Operand} {c : Call} {t u : Nat} {ui : TI} {rows : List (List PV)} {up : List (Nat × Blk)} {nw H' : List Blk} (ht : G.T u = some ui) (hdu : (match ui.desc with
      | .str | .slice _ => true
      | _ => false) = true) (ho : o.op = .call c) (hc : c.callee = .builtin .append) (ha : c.args.toList = [x, y]) (hat : c.argTypes.toList = [t, u]) (hd : o.dst = some d) (hm : Nat.blt d m = true) (hg : wantedV ops base ov o = some true)
    (hs : srcRows (evalV base ov y) (lookOf H) = some rows) (hv : aAppend G.T H.length t (evalV base ov x) rows (lookOf H) = some ⟨v, up, nw⟩)
    (hu : (up.all fun p => decide (p.1 < H.length)) = true) (hf : footOk H (dirIds (evalV base ov x) ++ dirIds (evalV base ov y)) = true) (hH : setAll H up ++ nw = H')
    (h : WV G C ops (i + 1) rest (⟨i, dirIds (evalV base ov x) ++ dirIds (evalV base ov y), up.map (·.1) ++ List.range' H.length nw.length⟩ :: seen) m base ((d, v) :: ov) H' R) : WV G C ops i (o :: rest) seen m base ov H R := by
  obtain ⟨cal, args, ats⟩ := c
  simp only at hc ha hat
  subst hc
  have hf' : foot (evalV base ov) o (lookOf H) = dirIds (evalV base ov x) ++ dirIds (evalV base ov y) := by unfold foot; rw [ho]; simp [ha]
  refine wo_eff hd hm hg ?_ hu (by rw [hf']; exact hf) hH (by rw [hf']; exact h)
  unfold aOp; rw [ho]; simp only [ha, hat, List.map_cons, List.map_nil]
  obtain ⟨dd, s1, s2, s3, s4⟩ := ui
  cases dd <;> (try (cases hdu; done)) <;> simp only [aBuiltin, ht, hs, Option.bind_some, hv] <;> rfl
end more

/-! ### Calls -/
theorem call_wp {f n : Nat} {fn : Func} {c : Code} {args tmps : List AV} {H : List Blk} {O : AV → List Blk → Prop} (hf : G.P.funcs[f]? = some fn) (hb : fn.body = some c) (ht : args ++ List.replicate (fn.ntmps - args.length) .any = tmps)
    (h : WP (exec G (call G n) f n c none ⟨tmps, H⟩) fun ex tt HH => (match ex with
      | .normal | .ret => True
      | _ => False) ∧ ∃ vs, resAll G ⟨tt, HH⟩ fn.results.toList = some vs ∧ ∃ v H', leave (G.M f) H.length (tupOf vs) HH = some (v, H') ∧ O v H') :
    ∃ v H', call G (n + 1) f args H = some (.ret v, H') ∧ O v H' := by
  obtain ⟨ex, tt, HH, e, hex, vs, hr, v, H', hl, hO⟩ := h
  refine ⟨v, H', ?_, hO⟩
  simp only [call, hf, hb, ht, e]
  cases ex <;> simp only at hex <;> simp only [hr, Option.bind_some, hl, Option.map_some]
theorem tidy_norm {n0 m : Nat} {ks : List Nat} {t t' : List AV} {H : List Blk} (hH : H.length = n0) (hm : t.length = m) (ht : normT t [] ks m 0 = t') : tidy n0 ks ⟨t, H⟩ = some ⟨t', H⟩ := by
  have e := normT_eq (ov := []) hm (by simp) ks
  simp only [ap] at e
  rw [tidy_same hH, e, ht]
/-- With blocks that are dropped. -/
theorem tidy_norm' {n0 m : Nat} {ks : List Nat} {t t' : List AV} {H H0 rest : List Blk} (hH : H = H0 ++ rest) (hn : H0.length = n0) (hm : t.length = m) (ht : normT t [] ks m 0 = t') (hi : ∀ i ∈ AV.idsL t', i < n0) (hb : ∀ i ∈ H0.flatMap Blk.ids, i < n0) : tidy n0 ks ⟨t, H⟩ = some ⟨t', H0⟩ := by
  have e := normT_eq (ov := []) hm (by simp) ks
  simp only [ap] at e
  rw [← ht, ← e]
  exact tidy_first hH hn (by rw [e, ht]; exact hi) hb
theorem wrapI {x : Int} (h1 : -9223372036854775808 ≤ x) (h2 : x < 9223372036854775808) : IntKind.i64.wrap x = x := by simp [IntKind.wrap, IntKind.signed, IntKind.bits]; omega
theorem wrapU64 {x : Int} (h1 : 0 ≤ x) (h2 : x < 18446744073709551616) : IntKind.u64.wrap x = x := by simp [IntKind.wrap, IntKind.signed, IntKind.bits]; omega
theorem wrapU8 {x : Int} (h1 : 0 ≤ x) (h2 : x < 256) : IntKind.u8.wrap x = x := by simp [IntKind.wrap, IntKind.signed, IntKind.bits]; omega

/-! ### Slices of bytes, nil or not -/
def SL (p : PV) (l : List Int) : Prop := p = .sl (l.map rowB) ∨ (p = .nils ∧ l = [])
theorem SL.len {p : PV} {l : List Int} (h : SL p l) (e : Nat) : lenT (.slice e) (.pv p) = some l.length := by
  rcases h with rfl | ⟨rfl, rfl⟩ <;> simp [lenT, lenA]
theorem SL.noStr {p : PV} {l : List Int} (h : SL p l) : noStr (.pv p) = true := by
  rcases h with rfl | ⟨rfl, rfl⟩ <;> rfl
theorem SL.cons {p : PV} {c : Int} {l : List Int} (h : SL p (c :: l)) : p = .sl (rowB c :: l.map rowB) := by
  rcases h with rfl | ⟨_, h⟩
  · rfl
  · cases h
theorem SL.to {p : PV} {l : List Int} {n : Nat} (h : SL p l) (hn : n ≤ l.length) : ∃ q, aSlice 1 (.pv p) none (some (.pv (.int .i64 n))) = some (.pv q) ∧ SL q (l.take n) := by
  rcases h with rfl | ⟨rfl, rfl⟩
  · refine ⟨_, ?_, .inl rfl⟩
    unfold aSlice
    simp only [lenA, List.length_map, bound, Int.natCast_nonneg, if_true, Int.toNat_natCast]
    rw [if_pos ⟨Nat.zero_le _, hn⟩]
    by_cases h0 : n = 0
    · subst h0; simp
    · rw [if_neg h0]
      have : 0 < l.length := by omega
      rw [if_pos (by simp [this, rowB])]
      simp
  · have : n = 0 := by simpa using hn
    subst this
    exact ⟨_, rfl, .inr ⟨rfl, rfl⟩⟩
theorem SL.from {p : PV} {l : List Int} {n : Nat} (h : SL p l) (hn : n ≤ l.length) : ∃ q, aSlice 1 (.pv p) (some (.pv (.int .i64 n))) none = some (.pv q) ∧ SL q (l.drop n) := by
  rcases h with rfl | ⟨rfl, rfl⟩
  · refine ⟨_, ?_, .inl rfl⟩
    unfold aSlice
    simp only [lenA, List.length_map, bound, Int.natCast_nonneg, if_true, Int.toNat_natCast]
    rw [if_pos ⟨hn, Nat.le_refl _⟩]
    by_cases h0 : l.length = n
    · rw [if_pos h0, List.drop_eq_nil_of_le (by omega)]; rfl
    · rw [if_neg h0]
      have : n < l.length := by omega
      rw [if_pos (by simp [this, rowB])]
      rw [List.map_drop, List.take_of_length_le (by simp)]
  · have : n = 0 := by simpa using hn
    subst this
    exact ⟨_, rfl, .inr ⟨rfl, rfl⟩⟩
theorem SL.get {p : PV} {l : List Int} (h : SL p l) {i : Nat} (hi : i < l.length) {T : Nat → Option TI} {t e : Nat} {sz bs : Nat} {ag : Bool} {z : List PV} {ei : TI} {k : IntKind} {ix : Int} (ht : T t = some ⟨.slice e, sz, bs, ag, z⟩) (he : T e = some ei) (hs : ei.size = 1) (hj : ix = (i : Int)) : aIndexAddr T t (.pv p) (.pv (.int k ix)) = some (.pv (.ptr (rowB l[i]) 0)) := by
  rcases h with rfl | ⟨rfl, rfl⟩
  · exact iaddr_pv ht he hj (by simp [List.getElem?_eq_getElem hi]) (by rw [hs]; rfl)
  · cases hi
/-- One new block, and a pointer to it. -/
theorem leave_newp {md : Mode} {o : Nat} {b : Blk} {rest H : List Blk} (hm : md = .byref ∨ md = .own) (hH : H = b :: rest) (hb : b.ids = []) : leave md 0 (.ptr 0 o) H = some (.ptr 0 o, [b]) := by
  subst hH
  have hr : reach (lookOf ([b] ++ rest)) REACH (AV.idsL [.ptr 0 o] ++ (([b] ++ rest).take 0).flatMap Blk.ids) (List.range 0) = List.range [b].length := by
    show reach (lookOf (b :: rest)) (63 + 1) [0] [] = [0]
    simp only [reach, List.contains_nil, Bool.false_eq_true, if_false, lookOf, List.getElem?_cons_zero, hb, List.nil_append, List.append_nil]
  have := compact_keep (n0 := 0) (tmps := [.ptr 0 o]) (H0 := [b]) (rest := rest) hr (by simp) (by simp [AV.idsL, AV.ids]) (by simp [hb])
  have h2 : compact 0 [.ptr 0 o] (b :: rest) = some ([.ptr 0 o], [b]) := this
  rcases hm with rfl | rfl <;> (unfold leave; simp only; rw [h2]; rfl)
/-- A call that gives one new slice. -/
theorem callRef_new {C : CallF} {f : Nat} {args : List AV} {look : Look} {nid g h e o n : Nat} {b : Blk} (hi : AV.idsL args = []) (hb : ∀ ρ, b.ren ρ = some b)
    (hC : C f args [] = some (.ret (.ref 0 g h e o n), [b])) : callRef C f args look nid = some (.ok ⟨.ref nid g h e o n, [], [b]⟩) := by
  have hR : reach look REACH (AV.idsL args) [] = [] := by rw [hi]; rfl
  unfold callRef
  simp only [hR, renL_same args (by rw [hi]; simp), Option.bind_some, getAll, blksRen, hC, hb, Option.map_some, AV.ren]
  rfl
/-- What is left, with its places renamed. -/
theorem tidy_ren {n0 m : Nat} {ks order : List Nat} {t t' t'' : List AV} {H bs H'' : List Blk} (hm : t.length = m) (ht : normT t [] ks m 0 = t') (hl : Nat.beq H.length n0 = false)
    (ho : reach (lookOf H) REACH (AV.idsL t' ++ (H.take n0).flatMap Blk.ids) (List.range n0) = order) (hr : AV.renL (placeOf order) t' = some t'') (hg : getAll (lookOf H) order = some bs) (hb : blksRen (placeOf order) bs = some H'') :
    tidy n0 ks ⟨t, H⟩ = some ⟨t'', H''⟩ := by
  have e := normT_eq (ov := []) hm (by simp) ks
  simp only [ap] at e
  have hl' : ¬ H.length = n0 := fun h => by rw [h, Nat.beq_refl] at hl; cases hl
  unfold tidy compact
  simp only [e, ht, if_neg hl', ho, hr, hg, hb, Option.bind_some, Option.map_some]
theorem leave_ren {md : Mode} {n0 : Nat} {order : List Nat} {v v' : AV} {H bs H'' : List Blk} (hm : md = .byref ∨ md = .own) (hl : Nat.beq H.length n0 = false)
    (ho : reach (lookOf H) REACH (AV.idsL [v] ++ (H.take n0).flatMap Blk.ids) (List.range n0) = order) (hr : AV.ren (placeOf order) v = some v') (hg : getAll (lookOf H) order = some bs) (hb : blksRen (placeOf order) bs = some H'') :
    leave md n0 v H = some (v', H'') := by
  have hl' : ¬ H.length = n0 := fun h => by rw [h, Nat.beq_refl] at hl; cases hl
  rcases hm with rfl | rfl <;>
  · unfold leave compact
    simp only [if_neg hl', ho, AV.renL, hr, hg, hb, Option.bind_some, Option.map_some]

/-! ### A row of bytes that only grows at its end -/
def RF (k : Nat) (l : List Int) : AV := .ref k 0 l.length 1 0 l.length
def RB (e : Nat) (l : List Int) : Blk := .row e 1 ⟨l.map rowB, 0, 0, 0, 0⟩
theorem RB.app {T : Nat → Option TI} {nid t e k : Nat} {ti ei : TI} {l a : List Int} {look : Look} {n : Nat} (ht : T t = some ti) (hd : ti.desc = .slice e) (he : T e = some ei) (hs : ei.size = 1) (hby : ei.bytes = 1)
    (hn : n = l.length) (hl : look k = some (RB e l)) (hne : a ≠ []) (hb : l.length + a.length ≤ 1000000) :
    aAppend T nid t (.ref k 0 n 1 0 n) (a.map rowB) look = some ⟨RF k (l ++ a), [(k, RB e (l ++ a))], []⟩ := by
  subst hn
  have hc : CanGrow ⟨l.map rowB, 0, 0, 0, 0⟩ 0 l.length := by
    have := canGrow_new (rows := l.map rowB)
    rwa [List.length_map] at this
  rw [aAppend_ref ht hd he hs (by decide) (by simp [rowB]) hl hc (by simp [hby]; omega) (by simp; omega) (by simpa using hne)]
  have e1 : Go.Ab.grow (⟨l.map rowB, 0, 0, 0, 0⟩ : Row) 0 l.length (a.map rowB) = (⟨(l ++ a).map rowB, 0, 0, 0, 0⟩, 0) := by
    simp [Go.Ab.grow]
  rw [e1]
  simp [RF, RB]
theorem RB.app_nil {T : Nat → Option TI} {nid t e : Nat} {ti ei : TI} {a : List Int} {look : Look} (ht : T t = some ti) (hd : ti.desc = .slice e) (he : T e = some ei) (hs : ei.size = 1) (hby : ei.bytes = 1)
    (hne : a ≠ []) (hb : a.length ≤ 1000000) : aAppend T nid t (.pv .nils) (a.map rowB) look = some ⟨RF nid a, [], [RB e a]⟩ := by
  rw [aAppend_nil ht hd he hs (by decide) (by simp [rowB]) (by simp [hby]; omega) (by simp; omega) (by simpa using hne)]
  simp [RF, RB]
theorem RB.app0 {T : Nat → Option TI} {nid t e k : Nat} {ti ei : TI} {l : List Int} {look : Look} {n : Nat} (ht : T t = some ti) (hd : ti.desc = .slice e) (he : T e = some ei) (hs : ei.size = 1) (hby : ei.bytes = 1)
    (hn : n = l.length) (hl : look k = some (RB e l)) (hb : l.length ≤ 1000000) :
    aAppend T nid t (.ref k 0 n 1 0 n) [] look = some ⟨RF k l, [], []⟩ := by
  subst hn
  exact aAppend_empty ht hd he hs (by decide) hl (by simp [Row.valid]) (by simp [hby]; omega) (by omega)
theorem resAll_cell1 {G : Cfg} {t : List AV} {H : List Blk} {a ty : Nat} {ti : TI} {v : AV} (ht : G.T ty = some ti) (hl : loadV ti ((t[a]?).getD .undef) (lookOf H) = some v) : resAll G ⟨t, H⟩ [.cell a ty] = some [v] := by
  simp only [resAll, resA, aLoad_ti ht, hl, Option.bind_some, Option.map_some]
/-- A struct of pure parts leaves. -/
theorem pureL_pv {look : Look} {n : Nat} : ∀ (ps : List PV), pureL (AV.pureOf look n) (ps.map .pv) = some ps
  | [] => rfl
  | p :: r => by
    have : AV.pureOf look n (.pv p) = some p := by cases n <;> rfl
    simp only [List.map_cons, pureL, this, pureL_pv r, Option.bind_some, Option.map_some]
theorem leave_agg {ps : List PV} {H : List Blk} : leave .pure 0 (.agg (ps.map .pv)) H = some (.agg (ps.map .pv), []) := by
  simp only [leave, AV.puriRes, AV.puri, pureL_pv, Option.map_some, Option.bind_some, if_true]
theorem callPure_agg {C : CallF} {f : Nat} {args : List AV} {look : Look} {nid : Nat} {ps : List PV} (hi : AV.idsL args = []) (hp : ∀ lk, puriL lk args = some args) (hfl : (AV.agg (ps.map .pv)).flat = true) (hC : C f args [] = some (.ret (.agg (ps.map .pv)), [])) :
    callPure C f args look nid = some (.ok ⟨.agg (ps.map .pv), [], []⟩) := by
  have hR : reach look REACH (AV.idsL args) [] = [] := by rw [hi]; rfl
  unfold callPure
  simp only [hR, hp, Option.bind_some, hC, hfl, List.isEmpty_nil, Bool.and_self, if_true]
section stores
variable {G : Cfg} {C : CallF} {ops : Array Oper} {i m d : Nat} {o : Oper} {rest : List Oper} {seen : List Seen} {base : List AV} {ov : List (Nat × AV)} {H : List Blk} {v : AV} {R : Ex → List AV → List (Nat × AV) → List Blk → List Seen → Prop}
/-- A store, by what it does. -/
theorem wo_storeB {t : Nat} {x a : Operand} {id : Nat} {b : Blk} {H' : List Blk} (ho : o.op = .store t a x) (hd : o.dst = none) (hg : wantedV ops base ov o = some true) (hs : aStore G.T t (evalV base ov a) (evalV base ov x) (lookOf H) = some ⟨.undef, [(id, b)], []⟩)
    (hid : Nat.blt id H.length = true) (hf : footOk H (dirIds (evalV base ov a)) = true) (hH : H.set id b = H')
    (h : WV G C ops (i + 1) rest (⟨i, dirIds (evalV base ov a), [id]⟩ :: seen) m base ov H' R) : WV G C ops i (o :: rest) seen m base ov H R := by
  have hf' : foot (evalV base ov) o (lookOf H) = dirIds (evalV base ov a) := by unfold foot; rw [ho]
  have hid' := blt_lt hid
  refine wo_eff0 (v := .undef) (u := [(id, b)]) (nw := []) hd hg ?_ (by simpa using hid') (by rw [hf']; exact hf) (H' := H') (by simp [setAll, hH]) ?_
  · unfold aOp; rw [ho]; simp only [hs]; rfl
  · rw [hf']; simpa using h
/-- copy. -/
theorem wo_copy {x y : Operand} {c : Call} {t u : Nat} {ui : TI} {rows : List (List PV)} {id : Nat} {b : Blk} {H' : List Blk} (ht : G.T u = some ui) (hdu : (match ui.desc with
      | .str | .slice _ => true
      | _ => false) = true) (ho : o.op = .call c) (hc : c.callee = .builtin .copy) (ha : c.args.toList = [x, y]) (hat : c.argTypes.toList = [t, u]) (hd : o.dst = some d) (hm : Nat.blt d m = true) (hg : wantedV ops base ov o = some true)
    (hs : srcRows (evalV base ov y) (lookOf H) = some rows) (hv : aCopy G.T t (evalV base ov x) rows (lookOf H) = some ⟨v, [(id, b)], []⟩)
    (hid : Nat.blt id H.length = true) (hf : footOk H (dirIds (evalV base ov x) ++ dirIds (evalV base ov y)) = true) (hH : H.set id b = H')
    (h : WV G C ops (i + 1) rest (⟨i, dirIds (evalV base ov x) ++ dirIds (evalV base ov y), [id]⟩ :: seen) m base ((d, v) :: ov) H' R) : WV G C ops i (o :: rest) seen m base ov H R := by
  obtain ⟨cal, args, ats⟩ := c
  simp only at hc ha hat
  subst hc
  have hid' := blt_lt hid
  have hf' : foot (evalV base ov) o (lookOf H) = dirIds (evalV base ov x) ++ dirIds (evalV base ov y) := by unfold foot; rw [ho]; simp [ha]
  refine wo_eff (u := [(id, b)]) (nw := []) hd hm hg ?_ (by simpa using hid') (by rw [hf']; exact hf) (H' := H') (by simp [setAll, hH]) (by rw [hf']; simpa using h)
  unfold aOp; rw [ho]; simp only [ha, hat, List.map_cons, List.map_nil]
  obtain ⟨dd, s1, s2, s3, s4⟩ := ui
  cases dd <;> (try (cases hdu; done)) <;> simp only [aBuiltin, ht, hs, Option.bind_some, hv] <;> rfl
theorem wo_makeSlice {t : Nat} {l c : Operand} {r : AV} {b : Blk} {H' : List Blk} (ho : o.op = .makeSlice t l c) (hd : o.dst = some d) (hm : Nat.blt d m = true) (hg : wantedV ops base ov o = some true) (hv : aMakeSlice G.T H.length t (evalV base ov l) (evalV base ov c) = some ⟨r, [], [b]⟩) (hH : H ++ [b] = H')
    (h : WV G C ops (i + 1) rest (⟨i, [], [H.length]⟩ :: seen) m base ((d, r) :: ov) H' R) : WV G C ops i (o :: rest) seen m base ov H R := by
  have hf' : foot (evalV base ov) o (lookOf H) = [] := by unfold foot; rw [ho]
  refine wo_eff (v := r) (u := []) (nw := [b]) hd hm hg ?_ rfl (by rw [hf']; rfl) (H' := H') (by simp [setAll, hH]) ?_
  · unfold aOp; rw [ho]; simp only [hv]; rfl
  · rw [hf']; exact h
end stores
/-- The address of an element of a row. -/
theorem iaddr_ref {T : Nat → Option TI} {t e id g h esz off n : Nat} {sz bs : Nat} {ag : Bool} {z : List PV} {ei : TI} {k : IntKind} {ix : Int} {j : Nat} (ht : T t = some ⟨.slice e, sz, bs, ag, z⟩) (he : T e = some ei) (hj : ix = (j : Int)) (hr : j < n) (hl : esz = ei.size) :
    aIndexAddr T t (.ref id g h esz off n) (.pv (.int k ix)) = some (.eptr id g h esz (off + j) 0) := by
  subst hj
  simp only [aIndexAddr, ht, he, Int.natCast_nonneg, if_true, Int.toNat_natCast]
  rw [if_pos ⟨hr, hl⟩]
/-- A whole element is stored. -/
theorem store_elem {T : Nat → Option TI} {t id g h esz j : Nat} {ti : TI} {x : AV} {vs : List AV} {ps c : List PV} {e : Nat} {r : Row} {look : Look} (ht : T t = some ti) (hx : x.cells = some vs) (hvs : pures vs = some ps) (hl : vs.length = ti.size) (hp : ps.length = esz)
    (hlk : look id = some (.row e esz r)) (hg : g = r.gen) (hh : h = r.rows.length) (hfl : r.floor ≤ h) (hj : j < h) (hz : r.frz = 0) (hc : r.rows[j]? = some c) (hcl : c.length = esz) :
    aStore T t (.eptr id g h esz j 0) x look = some ⟨.undef, [(id, .row e esz { r with rows := r.rows.set j ps, floor := h, stable := 0 })], []⟩ := by
  simp only [aStore, ht, hx, hl, if_true, hlk]
  rw [if_pos ⟨hg, hh, hfl, trivial, hj, hz⟩]
  simp only [hvs, hc, splice, hp, hcl, Nat.zero_add, Nat.le_refl, if_true, Option.map_some, List.take_zero, List.nil_append]
  rw [List.drop_of_length_le (by omega), List.append_nil]
/-- Where a block of the callee's is, with the caller. -/
def backOf (R : List Nat) (nid : Nat) : Nat → Option Nat := fun j => match R[j]? with
  | some i => some i
  | none => some (nid + (j - R.length))
/-- A call that is handed some blocks. -/
theorem callRef_gen {C : CallF} {f : Nat} {args as : List AV} {look : Look} {nid : Nat} {R : List Nat} {bs bs1 bs2 bs3 : List Blk} {v v' : AV} {u : List (Nat × Blk)} {nw : List Blk} (hR : reach look REACH (AV.idsL args) [] = R) (h1 : AV.renL (placeOf R) args = some as) (h2 : getAll look R = some bs) (h3 : blksRen (placeOf R) bs = some bs1)
    (hC : C f as bs1 = some (.ret v, bs2)) (h4 : blksRen (backOf R nid) bs2 = some bs3) (h5 : v.ren (backOf R nid) = some v') (hu : zipUpd R bs3 = u) (hn : bs3.drop R.length = nw) : callRef C f args look nid = some (.ok ⟨v', u, nw⟩) := by
  subst hR hu hn
  simp only [callRef, h1, h2, h3, hC, Option.bind_some]
  show Option.bind (blksRen (backOf _ nid) bs2) _ = _
  rw [h4]
  simp only [Option.bind_some]
  show Option.map _ (AV.ren (backOf _ nid) v) = _
  rw [h5]
  rfl
/-- A function that only reads, on pure arguments, with a pure answer. -/
theorem callPure_any {C : CallF} {f : Nat} {args : List AV} {look : Look} {nid : Nat} {v : AV} (hi : AV.idsL args = []) (hp : ∀ lk, puriL lk args = some args) (hv : AV.ids v = []) (hC : C f args [] = some (.ret v, [])) : callPure C f args look nid = some (.ok ⟨v, [], []⟩) := by
  have hR : reach look REACH (AV.idsL args) [] = [] := by rw [hi]; rfl
  unfold callPure
  simp only [hR, hp, Option.bind_some, hC, List.isEmpty_nil, Bool.and_true]
  split
  · rfl
  · simp only [ren_noids hv, blksRen, Option.map_some, Option.bind_some, freezeAll]
end Go.Ab
