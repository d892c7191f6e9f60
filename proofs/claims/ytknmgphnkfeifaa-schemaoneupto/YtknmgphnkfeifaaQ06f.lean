import Derived.Test.YtknmgphnkfeifaaQ06e
set_option linter.unusedVariables false
set_option linter.unusedSimpArgs false
namespace Go.Pl
open Go Go.Ab

/-! ### Puts of a table -/
theorem putCols_length : ∀ (cs : List api_Column), (∀ c ∈ cs, c.fName.size ≤ 1048576) → (cs.flatMap putCol).length ≤ cs.length * 1048600
  | [], _ => by simp
  | c :: cs, h => by
    have h1 := putCols_length cs fun x hx => h x (by simp [hx])
    have h2 := h c (by simp)
    have h3 := putT_length (s := c.fName) (by omega)
    simp only [List.flatMap_cons, List.length_append, List.length_cons, putCol, List.length_singleton]
    simp only [List.length_nil]
    omega
theorem put_cols {n : Nat} (hn : 2000010 ≤ n) (hn2 : n < 100000000) {K : List Int → Option (List Int)} : ∀ (cs : List api_Column) (i : Nat) (acc : List Int), (∀ c ∈ cs, c.fName.size ≤ 1048576) → acc.length + cs.length * 1048600 < 800000000 →
    rangeS (fun (x : api_Column) i (a : List Int) rec => (codec_PutText_r n a x.fName).bind fun x18 => (ckA 1 (x18 ++ ([(IntKind.wrap .u8 x.fKind)] : List Int)).length).bind fun _ => rec (x18 ++ ([(IntKind.wrap .u8 x.fKind)] : List Int))) K cs i acc = K (acc ++ cs.flatMap putCol)
  | [], i, acc, _, _ => by simp [rangeS]
  | c :: cs, i, acc, h, hl => by
    have h2 := h c (by simp)
    have h3 := putT_length (s := c.fName) (by omega)
    simp only [List.length_cons] at hl
    simp only [rangeS]
    rw [putText_r_ok (by omega) (by omega) (by omega) (by omega), Option.bind_some, ckA_ok (by decide) (by simp; omega), Option.bind_some]
    rw [put_cols hn hn2 cs (i + 1) _ (fun x hx => h x (by simp [hx])) (by simp; omega)]
    congr 1
    simp only [List.flatMap_cons, putCol, List.append_assoc]
theorem schema_Put_nil_ok {t : api_Table} (ht : W_api_Table t) (hc : (sll t.fCols).length ≤ 100) {n : Nat} (h : 2000012 ≤ n) (hn : n < 100000000) : schema_Put_nil n t = some (putTab t) := by
  obtain ⟨n, rfl⟩ : ∃ k, n = k + 1 := ⟨n - 1, by omega⟩
  have h1 := ht.1
  unfold wS at h1
  have h3 := putT_length (s := t.fName) (by omega)
  unfold schema_Put_nil
  rw [at1_succ, putText_nil_ok (by omega) (by omega) (by omega), Option.bind_some, wrapU (by omega) (by omega), putUint_r_ok (by omega) (by omega) (by omega) (by omega), Option.bind_some]
  have h4 := ubytes_length (sll t.fCols).length 9 (by omega)
  simp only [withK]
  rw [show schema_Put_nil_l4 n t (fun y5 => some y5) n (putT t.fName ++ ubytes (sll t.fCols).length) 0 = _ from loop_sl (F := fun m (a : List Int) i => schema_Put_nil_l4 n t (fun y5 => some y5) m a i) ht.2.1 (B := fun x i a rec => (codec_PutText_r n a x.fName).bind fun x18 => (ckA 1 (x18 ++ ([(IntKind.wrap .u8 x.fKind)] : List Int)).length).bind fun _ => rec (x18 ++ ([(IntKind.wrap .u8 x.fKind)] : List Int))) (k := fun a => some a) (fun m i s => rfl) (by omega) _]
  rw [put_cols (by omega) (by omega) _ _ _ (fun c hc => (ht.2.2 c hc).1) (by simp; omega)]
  unfold putTab
  simp
theorem schema_Put_nil_2_ok {cs : List api_Column} {nm : ByteArray} (hnm : wS nm) (hw : ∀ c ∈ cs, W_api_Column c) (hc : cs.length ≤ 100) {n : Nat} (h : 2000012 ≤ n) (hn : n < 100000000) : schema_Put_nil_2 n cs nm = some (putTab ⟨nm, some cs⟩) := by
  obtain ⟨n, rfl⟩ : ∃ k, n = k + 1 := ⟨n - 1, by omega⟩
  have h1 := hnm
  unfold wS at h1
  have h3 := putT_length (s := nm) (by omega)
  unfold schema_Put_nil_2
  rw [at1_succ, putText_nil_ok (by omega) (by omega) (by omega), Option.bind_some, wrapU (by omega) (by omega), putUint_r_ok (by omega) (by omega) (by omega) (by omega), Option.bind_some]
  have h4 := ubytes_length cs.length 9 (by omega)
  simp only [withK]
  rw [show schema_Put_nil_2_l4 n cs (fun y5 => some y5) n (putT nm ++ ubytes cs.length) 0 = _ from loop_range0 (l := cs) (F := fun m (a : List Int) i => schema_Put_nil_2_l4 n cs (fun y5 => some y5) m a i) (by omega) (B := fun x i a rec => (codec_PutText_r n a x.fName).bind fun x18 => (ckA 1 (x18 ++ ([(IntKind.wrap .u8 x.fKind)] : List Int)).length).bind fun _ => rec (x18 ++ ([(IntKind.wrap .u8 x.fKind)] : List Int))) (k := fun a => some a) (fun m i s _ => rfl) (by omega) _]
  rw [put_cols (by omega) (by omega) _ _ _ (fun c hc => (hw c hc).1) (by simp; omega)]
  unfold putTab
  simp [sll]

/-! ### Alike -/
theorem schema_Same_self {a b : api_Table} (hn : a.fName = b.fName) (hc : sll a.fCols = sll b.fCols) (hl : (sll a.fCols).length ≤ 1048576) {n : Nat} (h : 2000005 ≤ n) : schema_Same n a b = some true := by
  obtain ⟨n, rfl⟩ : ∃ k, n = k + 2 := ⟨n - 2, by omega⟩
  unfold schema_Same slices_Equal_Column
  simp only [at1_succ]
  rw [hn, sEq_self, cond_true, hc]
  simp only [bne_self_eq_false, cond_false, withK]
  rw [show slices_Equal_Column_l4 n a.fCols b.fCols (fun _ => some true) n 0 = _ from loop_sl (F := fun m (_ : Unit) i => slices_Equal_Column_l4 n a.fCols b.fCols (fun _ => some true) m i) hl (B := fun x i (_ : Unit) rec => (idx (sll b.fCols) (i : Int)).bind fun x11 => bif (!((x.fName == x11.fName) && ((x.fKind == x11.fKind) && true))) then some false else rec ()) (k := fun _ => some true) (fun m i s => rfl) (by omega) ()]
  have key : ∀ (l pre : List api_Column), sll b.fCols = pre ++ l → rangeS (fun x i (_ : Unit) rec => (idx (sll b.fCols) (i : Int)).bind fun x11 => bif (!((x.fName == x11.fName) && ((x.fKind == x11.fKind) && true))) then some false else rec ()) (fun _ => some true) l pre.length () = some true := by
    intro l
    induction l with
    | nil => intro pre _; rfl
    | cons x l ih =>
      intro pre he
      simp only [rangeS]
      rw [idx_nat, he, List.getElem?_append_right (Nat.le_refl _), Nat.sub_self]
      simp only [List.getElem?_cons_zero, Option.bind_some]
      have e1 : (x.fName == x.fName) = true := by rw [beq_sEq]; exact sEq_self _
      rw [e1, beq_self_eq_true]
      simp only [Bool.and_self, Bool.not_true, cond_false]
      have := ih (pre ++ [x]) (by rw [he]; simp)
      rw [List.length_append, List.length_singleton] at this
      rw [← he]
      exact this
  have := key (sll b.fCols) [] rfl
  rw [hc]
  rw [show (0 : Nat) = ([] : List api_Column).length from rfl, this]
  rfl

/-! ### What was put is taken -/
theorem rdCols_put : ∀ (cs : List api_Column) (rest : List Int), (∀ c ∈ cs, c.fName.size ≤ 20 ∧ 0 ≤ c.fKind ∧ c.fKind < 256) → rdCols cs.length (cs.flatMap putCol ++ rest) = some (cs, rest)
  | [], rest, _ => rfl
  | c :: cs, rest, h => by
    obtain ⟨h1, h2, h3⟩ := h c (by simp)
    simp only [List.length_cons, rdCols, List.flatMap_cons, putCol, List.append_assoc]
    rw [rdT_put h1 (by decide), wrapY h2 h3]
    simp only [List.cons_append, List.nil_append]
    rw [rdCols_put cs rest fun x hx => h x (by simp [hx])]
    simp only
    rw [strOf_bytesL]
theorem nameOk_size {s : ByteArray} (h : nameOk s = true) : s.size ≤ 20 := by
  unfold nameOk at h
  simp only [Bool.and_eq_true, decide_eq_true_eq] at h
  omega
theorem tabRight_ok {t : api_Table} (h : tabRight t = 0) : nameOk t.fName = true ∧ 1 ≤ (sll t.fCols).length ∧ (sll t.fCols).length ≤ 8 ∧ (∀ c ∈ sll t.fCols, nameOk c.fName = true ∧ 1 ≤ c.fKind ∧ c.fKind ≤ 4) ∧ dupN [] ((sll t.fCols).map (·.fName)) = false := by
  unfold tabRight at h
  split at h
  · cases h
  · rename_i h1
    split at h
    · cases h
    · rename_i h2
      simp only [Bool.or_eq_true, not_or, Bool.not_eq_true, Bool.not_eq_false', decide_eq_true_eq, Bool.not_eq_true', List.any_eq_true] at h1
      obtain ⟨⟨⟨a1, a2⟩, a3⟩, a4⟩ := h1
      refine ⟨by simpa using a1, by omega, by omega, fun c hc => ?_, by simpa using h2⟩
      have : colBad c = false := by
        cases hb : colBad c with
        | false => rfl
        | true => exact absurd (⟨c, hc, hb⟩ : ∃ x, x ∈ sll t.fCols ∧ colBad x = true) a4
      unfold colBad at this
      simp only [Bool.or_eq_false_iff, Bool.not_eq_false', decide_eq_false_iff_not] at this
      exact ⟨this.1.1, by omega, by omega⟩
theorem rdTab_put {t : api_Table} (ht : tabRight t = 0) (rest : List Int) : rdTab (putTab t ++ rest) = some (t.fName, sll t.fCols, rest) := by
  obtain ⟨h1, h2, h3, h4, _⟩ := tabRight_ok ht
  unfold rdTab putTab
  rw [List.append_assoc, rdT_put (nameOk_size h1) (by decide)]
  simp only
  rw [List.append_assoc, rdU_put (by omega)]
  simp only
  rw [if_pos h3, rdCols_put _ _ fun c hc => ⟨nameOk_size (h4 c hc).1, by have := h4 c hc; omega, by have := h4 c hc; omega⟩]
  simp only
  rw [strOf_bytesL]
theorem rdTab_inv {l : List Int} {nm : ByteArray} {cs : List api_Column} {rest : List Int} (hl : Bytes l) (h : rdTab l = some (nm, cs, rest)) : l = putTab ⟨nm, some cs⟩ ++ rest ∧ wS nm ∧ (∀ c ∈ cs, W_api_Column c) ∧ cs.length ≤ 8 := by
  unfold rdTab at h
  split at h
  · rename_i t r1 hr
    split at h
    · rename_i k r2 hr2
      split at h
      · rename_i hk
        split at h
        · rename_i cs' r3 hc
          simp only [Option.some.injEq, Prod.mk.injEq] at h
          obtain ⟨rfl, rfl, rfl⟩ := h
          obtain ⟨q1, q2, q3⟩ := rdT_inv hl hr
          have hb1 : Bytes r1 := fun x hx => hl x (by rw [q1]; exact List.mem_append_right _ hx)
          obtain ⟨m, p1, p2, _⟩ := rdU_inv 10 0 0 r1 k r2 hb1 hr2
          have p2 : k = m := by rw [p2]; simp
          subst p2
          obtain ⟨w1, w2, w3, w4⟩ := rdCols_W k r2 cs' r3 (fun x hx => hb1 x (by rw [p1]; exact List.mem_append_right _ hx)) hc
          refine ⟨?_, ?_, w2, by omega⟩
          · unfold putTab
            simp only [sll]
            rw [w1, List.append_assoc, List.append_assoc, ← w3, ← p1]
            exact q1
          · show (strOf t).size ≤ 1048576
            rw [strOf_size]; omega
        · cases h
      · cases h
    · cases h
  · cases h
theorem bytes_wSl {s : Option (List Int)} (h : wSl (wI .u8) s) : Bytes (sll s) := by
  intro x hx
  have := h.2 x hx
  simp only [wI, IntKind.min, IntKind.max, IntKind.signed, IntKind.bits] at this
  simp at this
  omega
theorem schemaOne_true {n : Nat} (h : n = 4000000) {b : Option (List Int)} (hb : wSl (wI .u8) b) : law06_SchemaOne n b = some true := by
  obtain ⟨n, rfl⟩ : ∃ k, n = k + 1 := ⟨n - 1, by omega⟩
  have hB := bytes_wSl hb
  unfold law06_SchemaOne
  rw [at1_succ, law06_works_ok (by omega)]
  simp only [Option.bind_some, Bool.not_true, cond_false]
  by_cases hl : (sll b).length ≤ 2000
  · rw [show decide (((sll b).length : Int) > 2000) = false by simp; omega, cond_false]
    rw [show codec_Read n b = some () by
      obtain ⟨m, rfl⟩ : ∃ k, n = k + 1 := ⟨n - 1, by omega⟩
      rfl]
    simp only [Option.bind_some]
    obtain ⟨b', e', nm, cols, err, h1, h2⟩ := schema_Take_ok hB (n := n) (by omega)
    unfold withK
    rw [h1]
    simp only [Option.bind_some]
    -- what follows, for columns of either kind
    have good : ∀ {cs : List api_Column} {rest : List Int}, rdTab (sll b) = some (nm, cs, rest) → sll cols = cs → W_api_Table ⟨nm, cols⟩ ∧ sll b = putTab ⟨nm, cols⟩ ++ rest ∧ (sll cols).length ≤ 8 := by
      intro cs rest hr hc
      obtain ⟨q1, q2, q3, q4⟩ := rdTab_inv hB hr
      refine ⟨W_cols q3 (by omega) nm q2 cols hc, ?_, by rw [hc]; exact q4⟩
      rw [q1]
      have e : putTab ⟨nm, cols⟩ = putTab ⟨nm, some cs⟩ := by
        unfold putTab
        simp only [hc]
        rfl
      rw [e]
    cases hr : rdTab (sll b) with
    | none =>
      rw [hr] at h2
      obtain ⟨rfl, rfl, he⟩ := h2
      simp only
      rw [show (err != 0) = true by simpa using he, cond_true, schema_Same_self rfl rfl (by simp [sll]) (by omega)]
      rfl
    | some p =>
      obtain ⟨nm', cs, rest⟩ := p
      rw [hr] at h2
      unfold TabR at h2
      simp only at h2
      by_cases ht : tabRight ⟨nm', some cs⟩ = 0
      · rw [if_pos ht] at h2
        obtain ⟨h3, rfl, rfl, h4, rfl⟩ := h2
        obtain ⟨g1, g2, g3⟩ := good hr h4
        have ht2 : tabRight ⟨nm, cols⟩ = 0 := by rw [← ht]; exact tabRight_sll h4
        have hlen : (sll b).length = (putTab ⟨nm, cols⟩).length + rest.length := by rw [g2]; simp
        have hsub : strOf (sll (subSl b 0 (IntKind.wrap .i64 (((sll b).length : Int) - ((sll b').length : Int))))) = strOf (putTab ⟨nm, cols⟩) := by
          rw [sll_sub, h3, wrapI (by omega) (by omega)]
          congr 1
          rw [show (((sll b).length : Int) - (rest.length : Int)).toNat - (0 : Int).toNat = (putTab ⟨nm, cols⟩).length by omega, g2]
          simp
        cases cols with
        | none =>
          simp only [bne_self_eq_false, cond_false]
          rw [left_ok (by omega), Option.bind_some, schema_Right_ok g1 (by omega), Option.bind_some, ht2, beq_self_eq_true, cond_true, wrapI (by rw [h3]; omega) (by omega)]
          rw [show decide (((sll b).length : Int) - ((sll b').length : Int) ≥ 0) = true by simp; rw [h3]; omega, cond_true, schema_Put_nil_ok g1 (by simp [sll]) (by omega) (by omega), Option.bind_some, ckB_ok (by rw [h3]; omega), Option.bind_some]
          rw [wrapI (by rw [h3]; omega) (by omega)] at hsub
          rw [hsub, sEq_self]
        | some c =>
          simp only [bne_self_eq_false, cond_false]
          rw [left_ok (by omega), Option.bind_some, schema_Right_ok g1 (by omega), Option.bind_some, ht2, beq_self_eq_true, cond_true, wrapI (by rw [h3]; omega) (by omega)]
          rw [show decide (((sll b).length : Int) - ((sll b').length : Int) ≥ 0) = true by simp; rw [h3]; omega, cond_true, schema_Put_nil_2_ok (cs := c) (nm := nm) g1.1 g1.2.2 (by simp [sll] at g3; omega) (by omega) (by omega), Option.bind_some, ckB_ok (by rw [h3]; omega), Option.bind_some]
          rw [wrapI (by rw [h3]; omega) (by omega)] at hsub
          rw [hsub, sEq_self]
      · rw [if_neg ht] at h2
        obtain ⟨rfl, rfl, he⟩ := h2
        simp only
        rw [show (err != 0) = true by simpa using he, cond_true, schema_Same_self rfl rfl (by simp [sll]) (by omega)]
        rfl
  · rw [show decide (((sll b).length : Int) > 2000) = true by simp; omega, cond_true]
end Go.Pl
