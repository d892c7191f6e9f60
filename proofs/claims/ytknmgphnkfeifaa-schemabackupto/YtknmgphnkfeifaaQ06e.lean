import Derived.Test.YtknmgphnkfeifaaQC
import Derived.Test.YtknmgphnkfeifaaQ06d
set_option linter.unusedVariables false
set_option linter.unusedSimpArgs false
namespace Go.Pl
open Go Go.Ab

/-! ### A table's bytes -/
def putCol (c : api_Column) : List Int := putT c.fName ++ [IntKind.wrap .u8 c.fKind]
def putTab (t : api_Table) : List Int := putT t.fName ++ (ubytes (sll t.fCols).length ++ (sll t.fCols).flatMap putCol)
def rdCols : Nat → List Int → Option (List api_Column × List Int)
  | 0, l => some ([], l)
  | k + 1, l => match rdT 20 l with
    | some (t, c :: rest) => match rdCols k rest with
      | some (cs, r) => some (⟨strOf t, c⟩ :: cs, r)
      | none => none
    | _ => none
def ColsR (x : Option (List api_Column × List Int)) (cols : List api_Column) (b' : Option (List Int)) (e' : Int) (cols' : Option (List api_Column)) : Prop :=
  match x with
  | some (cs, rest) => sll b' = rest ∧ e' = 0 ∧ sll cols' = cols ++ cs
  | none => e' ≠ 0
abbrev TakeK := Bool → Option (List Int) → Int → Option (List api_Column) → Option (Bool × (Option (List Int)) × Int × ByteArray × (Option (List api_Column)) × Int)
theorem l3_step {n m : Nat} {K : TakeK} {x : Int} {mk : Bool} {b : Option (List Int)} {e : Int} {cols : Option (List api_Column)} {i : Int} :
    schema_Take_l3 n K x (m + 1) mk b e cols i = bif decide (i < x) then (codec_Reader_Text n ⟨mk, b, e⟩ 20).bind fun (x51, x52, x53, x54) => (codec_Reader_Byte n (codec_Reader.mk x51 x52 x53)).bind fun (x56, x57, x58) => (ckA 24 (sll cols ++ [api_Column.mk x54 (IntKind.wrap .i64 x58)]).length).bind fun _ => schema_Take_l3 n K x m x51 x56 x57 (some (sll cols ++ [api_Column.mk x54 (IntKind.wrap .i64 x58)])) (IntKind.wrap .u64 (i + 1)) else K mk b e cols := by
  cases cols <;> rfl
theorem l3_err {n : Nat} (hn : 2000010 ≤ n) : ∀ (k m i : Nat) (b : Option (List Int)) (e : Int) (cols : Option (List api_Column)), e ≠ 0 → k < m → i + k < 1000 → (sll cols).length + k < 1000 →
    ∃ cols', ∀ K : TakeK, schema_Take_l3 n K ((i + k : Nat) : Int) m true b e cols (i : Int) = K true b e cols'
  | 0, m, i, b, e, cols, he, hm, hi, hc => by
    obtain ⟨m, rfl⟩ : ∃ j, m = j + 1 := ⟨m - 1, by omega⟩
    refine ⟨cols, fun K => ?_⟩
    rw [l3_step, show decide ((i : Int) < ((i + 0 : Nat) : Int)) = false by simp, cond_false]
  | k + 1, m, i, b, e, cols, he, hm, hi, hc => by
    obtain ⟨m, rfl⟩ : ∃ j, m = j + 1 := ⟨m - 1, by omega⟩
    obtain ⟨c', h⟩ := l3_err hn k m (i + 1) b e (some (sll cols ++ [⟨ByteArray.empty, IntKind.wrap .i64 0⟩])) he (by omega) (by omega) (by simp [sll] at hc ⊢; omega)
    refine ⟨c', fun K => ?_⟩
    have h := h K
    rw [show i + 1 + k = i + (k + 1) by omega] at h
    rw [l3_step, show decide ((i : Int) < ((i + (k + 1) : Nat) : Int)) = true by simp; omega, cond_true, text_err he (by omega)]
    simp only [Option.bind_some]
    rw [byte_err he (by omega)]
    simp only [Option.bind_some]
    rw [ckA_ok (by decide) (by simp; omega), Option.bind_some, wrapU (by omega) (by omega)]
    exact h
theorem l3_ok {n : Nat} (hn : 2000010 ≤ n) : ∀ (k m i : Nat) (b : Option (List Int)) (cols : Option (List api_Column)), Bytes (sll b) → k < m → i + k < 1000 → (sll cols).length + k < 1000 →
    ∃ b' e' cols', (∀ K : TakeK, schema_Take_l3 n K ((i + k : Nat) : Int) m true b 0 cols (i : Int) = K true b' e' cols') ∧ ColsR (rdCols k (sll b)) (sll cols) b' e' cols'
  | 0, m, i, b, cols, hb, hm, hi, hc => by
    obtain ⟨m, rfl⟩ : ∃ j, m = j + 1 := ⟨m - 1, by omega⟩
    refine ⟨b, 0, cols, fun K => ?_, rfl, rfl, by simp⟩
    rw [l3_step, show decide ((i : Int) < ((i + 0 : Nat) : Int)) = false by simp, cond_false]
  | k + 1, m, i, b, cols, hb, hm, hi, hc => by
    obtain ⟨m, rfl⟩ : ∃ j, m = j + 1 := ⟨m - 1, by omega⟩
    have hs : ∀ K : TakeK, schema_Take_l3 n K ((i + (k + 1) : Nat) : Int) (m + 1) true b 0 cols (i : Int) = (codec_Reader_Text n ⟨true, b, 0⟩ 20).bind fun (x51, x52, x53, x54) => (codec_Reader_Byte n (codec_Reader.mk x51 x52 x53)).bind fun (x56, x57, x58) => (ckA 24 (sll cols ++ [api_Column.mk x54 (IntKind.wrap .i64 x58)]).length).bind fun _ => schema_Take_l3 n K ((i + (k + 1) : Nat) : Int) m x51 x56 x57 (some (sll cols ++ [api_Column.mk x54 (IntKind.wrap .i64 x58)])) ((i + 1 : Nat) : Int) := by
      intro K
      rw [l3_step, show decide ((i : Int) < ((i + (k + 1) : Nat) : Int)) = true by simp; omega, cond_true, wrapU (by omega) (by omega)]
      rfl
    obtain ⟨b1, e1, v1, h1, h2⟩ := text_ok (most := 20) (by decide) hb (n := n) (by omega)
    rw [show ((20 : Nat) : Int) = 20 from rfl] at h1
    rw [h1] at hs
    simp only [Option.bind_some] at hs
    unfold rdCols
    cases hr : rdT 20 (sll b) with
    | none =>
      rw [hr] at h2
      obtain ⟨c', h⟩ := l3_err hn k m (i + 1) b1 e1 (some (sll cols ++ [⟨v1, IntKind.wrap .i64 0⟩])) h2.1 (by omega) (by omega) (by simp [sll] at hc ⊢; omega)
      refine ⟨b1, e1, c', fun K => ?_, h2.1⟩
      rw [hs, byte_err h2.1 (by omega)]
      simp only [Option.bind_some]
      rw [ckA_ok (by decide) (by simp; omega), Option.bind_some, ← h K, show i + 1 + k = i + (k + 1) by omega]
    | some p =>
      obtain ⟨t, r⟩ := p
      rw [hr] at h2
      obtain ⟨h3, rfl, rfl⟩ := h2
      have hbr : Bytes (sll b1) := by
        obtain ⟨q1, _, _⟩ := rdT_inv hb hr
        rw [h3]
        intro x hx
        exact hb x (by rw [q1]; exact List.mem_append_right _ hx)
      obtain ⟨b2, e2, v2, h4, h5⟩ := byte_ok hbr (n := n) (by omega)
      rw [h4] at hs
      simp only [Option.bind_some] at hs
      rw [h3] at h5
      cases r with
      | nil =>
        have h5 : e2 ≠ 0 := h5
        obtain ⟨c', h⟩ := l3_err hn k m (i + 1) b2 e2 (some (sll cols ++ [⟨strOf t, IntKind.wrap .i64 v2⟩])) h5 (by omega) (by omega) (by simp [sll] at hc ⊢; omega)
        refine ⟨b2, e2, c', fun K => ?_, h5⟩
        rw [hs, ckA_ok (by decide) (by simp; omega), Option.bind_some, ← h K, show i + 1 + k = i + (k + 1) by omega]
      | cons c rest =>
        obtain ⟨h6, rfl, rfl⟩ := h5
        have hc0 := hbr v2 (by rw [h3]; simp)
        obtain ⟨b', e', c', h, h7⟩ := l3_ok hn k m (i + 1) b2 (some (sll cols ++ [⟨strOf t, v2⟩])) (by rw [h6]; intro x hx; exact hbr x (by rw [h3]; simp [hx])) (by omega) (by omega) (by simp [sll] at hc ⊢; omega)
        refine ⟨b', e', c', fun K => ?_, ?_⟩
        · rw [hs, ckA_ok (by decide) (by simp; omega), Option.bind_some, wrapI (by omega) (by omega), ← h K, show i + 1 + k = i + (k + 1) by omega]
        · rw [h6] at h7
          simp only
          cases hk : rdCols k rest with
          | none => rw [hk] at h7; exact h7
          | some q =>
            obtain ⟨cs, rr⟩ := q
            rw [hk] at h7
            obtain ⟨a1, a2, a3⟩ := h7
            exact ⟨a1, a2, by rw [a3]; simp [sll]⟩
def rdTab (l : List Int) : Option (ByteArray × List api_Column × List Int) :=
  match rdT 20 l with
  | some (t, r1) => match rdU 10 0 0 r1 with
    | some (k, r2) => if k ≤ 8 then match rdCols k r2 with
      | some (cs, r3) => some (strOf t, cs, r3)
      | none => none else none
    | none => none
  | none => none
/-- What taking a table tells. -/
def TabR (x : Option (ByteArray × List api_Column × List Int)) (b' : Option (List Int)) (e' : Int) (name : ByteArray) (cols : Option (List api_Column)) (err : Int) : Prop :=
  match x with
  | some (nm, cs, rest) => if tabRight ⟨nm, some cs⟩ = 0 then sll b' = rest ∧ e' = 0 ∧ name = nm ∧ sll cols = cs ∧ err = 0 else name = ByteArray.empty ∧ cols = none ∧ err ≠ 0
  | none => name = ByteArray.empty ∧ cols = none ∧ err ≠ 0
theorem tabRight_sll {nm : ByteArray} {c c' : Option (List api_Column)} (h : sll c = sll c') : tabRight ⟨nm, c⟩ = tabRight ⟨nm, c'⟩ := by
  unfold tabRight
  simp only [h]
theorem W_cols {cs : List api_Column} (h : ∀ c ∈ cs, W_api_Column c) (hl : cs.length < 1000) (nm : ByteArray) (hn : wS nm) (c : Option (List api_Column)) (hc : sll c = cs) : W_api_Table ⟨nm, c⟩ := ⟨hn, by rw [hc]; omega, by rw [hc]; exact h⟩
theorem rdCols_W : ∀ (k : Nat) (l : List Int) (cs : List api_Column) (rest : List Int), Bytes l → rdCols k l = some (cs, rest) → cs.length = k ∧ (∀ c ∈ cs, W_api_Column c) ∧ l = cs.flatMap putCol ++ rest ∧ Bytes rest
  | 0, l, cs, rest, hl, h => by
    simp only [rdCols, Option.some.injEq, Prod.mk.injEq] at h
    obtain ⟨rfl, rfl⟩ := h
    exact ⟨rfl, by simp, rfl, hl⟩
  | k + 1, l, cs, rest, hl, h => by
    unfold rdCols at h
    split at h
    · rename_i t c r hr
      split at h
      · rename_i cs' r' hk
        simp only [Option.some.injEq, Prod.mk.injEq] at h
        obtain ⟨rfl, rfl⟩ := h
        obtain ⟨q1, q2, q3⟩ := rdT_inv hl hr
        have hbr : Bytes (c :: r) := fun x hx => hl x (by rw [q1]; exact List.mem_append_right _ hx)
        obtain ⟨w1, w2, w3, w4⟩ := rdCols_W k r cs' r' (fun x hx => hbr x (by simp [hx])) hk
        have hc := hbr c (by simp)
        refine ⟨by simp [w1], ?_, ?_, w4⟩
        · intro x hx
          rcases List.mem_cons.1 hx with rfl | hx
          · refine ⟨?_, ?_⟩
            · show (strOf t).size ≤ 1048576
              rw [strOf_size]; omega
            · simp only [wI, IntKind.min, IntKind.max, IntKind.signed, IntKind.bits]
              simp
              omega
          · exact w2 x hx
        · rw [q1]
          simp only [List.flatMap_cons, putCol]
          rw [wrapY hc.1 hc.2]
          simp only [List.append_assoc, List.cons_append, List.nil_append]
          rw [← w3]
      · cases h
    · cases h
/-- What taking a table ends with. -/
def TakeEnd (n : Nat) (v1 : ByteArray) (K : TakeK) : Prop := ∀ (b' : Option (List Int)) (e' : Int) (cols : Option (List api_Column)), (e' = 0 → W_api_Table ⟨v1, cols⟩) →
      ∃ name cols' err, K true b' e' cols = some (true, b', e', name, cols', err) ∧
        (if e' = 0 ∧ tabRight ⟨v1, cols⟩ = 0 then name = v1 ∧ cols' = cols ∧ err = 0 else name = ByteArray.empty ∧ cols' = none ∧ err ≠ 0)
theorem takeEnd_aux {n : Nat} (hn : 2000010 ≤ n) (v1 : ByteArray) (b' : Option (List Int)) (e' : Int) (cols : Option (List api_Column)) (hW : e' = 0 → W_api_Table ⟨v1, cols⟩) : ∃ name cols' err, ((codec_Reader_Err n ⟨true, b', e'⟩).bind fun x15 => withK (fun k18 => bif (x15 == 0) then (schema_Right n (api_Table.mk v1 cols)).bind fun x21 => k18 x21 else k18 x15) (fun (y17 : Int) => bif (y17 != 0) then some (true, b', e', ByteArray.empty, none, y17) else some (true, b', e', v1, cols, 0))) = some (true, b', e', name, cols', err) ∧
        (if e' = 0 ∧ tabRight ⟨v1, cols⟩ = 0 then name = v1 ∧ cols' = cols ∧ err = 0 else name = ByteArray.empty ∧ cols' = none ∧ err ≠ 0) := by
  rw [err_ok (by omega)]
  simp only [Option.bind_some, withK]
  by_cases he : e' = 0
  · subst he
    rw [beq_self_eq_true, cond_true, schema_Right_ok (hW rfl) (by omega), Option.bind_some]
    by_cases ht : tabRight ⟨v1, cols⟩ = 0
    · rw [ht]
      exact ⟨v1, cols, 0, rfl, by simp⟩
    · rw [show (tabRight ⟨v1, cols⟩ != 0) = true by simpa using ht, cond_true]
      exact ⟨_, _, _, rfl, by rw [if_neg (fun h => ht h.2)]; exact ⟨rfl, rfl, ht⟩⟩
  · rw [show (e' == 0) = false by simpa using he, cond_false, show (e' != 0) = true by simpa using he, cond_true]
    exact ⟨_, _, _, rfl, by rw [if_neg (fun h => he h.1)]; exact ⟨rfl, rfl, he⟩⟩
theorem take_rest {n : Nat} (hn : 2000010 ≤ n) {K : TakeK} {v1 : ByteArray} {b1 : Option (List Int)} {e1 : Int} {l : List Int} (hK : TakeEnd n v1 K) (hl : Bytes l) (h2 : TextR (rdT 20 l) b1 e1 v1) :
    ∃ b' e' name cols err, ((codec_Reader_Uint n ⟨true, b1, e1⟩ 8).bind fun (x33, x34, x35, x36) => schema_Take_l3 n K x36 n x33 x34 x35 none 0) = some (true, b', e', name, cols, err) ∧ TabR (rdTab l) b' e' name cols err := by
  have bad : ∀ (b2 : Option (List Int)) (e2 : Int), e2 ≠ 0 → ∃ b' e' name cols err, schema_Take_l3 n K 0 n true b2 e2 none 0 = some (true, b', e', name, cols, err) ∧ (name = ByteArray.empty ∧ cols = none ∧ err ≠ 0) := by
    intro b2 e2 he
    obtain ⟨c', h⟩ := l3_err (n := n) (by omega) 0 n 0 b2 e2 none he (by omega) (by omega) (by simp [sll])
    obtain ⟨name, cols', err, a1, a2⟩ := hK b2 e2 c' (fun h => absurd h he)
    rw [if_neg (fun h => he h.1)] at a2
    exact ⟨b2, e2, name, cols', err, (h K).trans a1, a2⟩
  unfold rdTab
  cases hr : rdT 20 l with
  | none =>
    rw [hr] at h2
    rw [uint_err h2.1 (by omega)]
    exact bad b1 e1 h2.1
  | some p =>
    obtain ⟨t, r1⟩ := p
    rw [hr] at h2
    obtain ⟨h3, rfl, rfl⟩ := h2
    obtain ⟨q1, q2, q3⟩ := rdT_inv hl hr
    have hb1 : Bytes (sll b1) := by
      rw [h3]; intro x hx
      exact hl x (by rw [q1]; exact List.mem_append_right _ hx)
    have hnm : wS (strOf t) := by
      show (strOf t).size ≤ 1048576
      rw [strOf_size]; omega
    obtain ⟨b2, e2, v2, h4, h5⟩ := uint_ok (most := 8) hb1 (n := n) (by omega)
    rw [h4]
    simp only [Option.bind_some]
    rw [h3] at h5
    cases hr2 : rdU 10 0 0 r1 with
    | none =>
      rw [hr2] at h5
      obtain ⟨_, h6, rfl⟩ := h5
      exact bad b2 e2 h6
    | some p =>
      obtain ⟨k, r2⟩ := p
      rw [hr2] at h5
      unfold UintR at h5
      simp only at h5
      by_cases hk : k ≤ 8
      · rw [if_pos (by omega)] at h5
        obtain ⟨h6, rfl, rfl⟩ := h5
        simp only
        rw [if_pos hk]
        have hb2 : Bytes (sll b2) := by
          rw [h6]
          exact (rdU_bound 10 0 0 r1 (by rw [← h3]; exact hb1) (by decide) (by omega) k r2 hr2).2
        obtain ⟨b', e', c', h, h7⟩ := l3_ok (n := n) (by omega) k n 0 b2 none hb2 (by omega) (by omega) (by simp [sll]; omega)
        rw [h6] at h7
        have h := h K
        rw [Nat.zero_add] at h
        cases hc : rdCols k r2 with
        | none =>
          rw [hc] at h7
          have h7 : e' ≠ 0 := h7
          obtain ⟨name, cols', err, a1, a2⟩ := hK b' e' c' (fun h => absurd h h7)
          rw [if_neg (fun h => h7 h.1)] at a2
          exact ⟨b', e', name, cols', err, h.trans a1, a2⟩
        | some q =>
          obtain ⟨cs, r3⟩ := q
          rw [hc] at h7
          obtain ⟨a1, rfl, a3⟩ := h7
          have a3 : sll c' = cs := a3
          obtain ⟨w1, w2, w3, w4⟩ := rdCols_W k r2 cs r3 (by rw [← h6]; exact hb2) hc
          obtain ⟨name, cols', err, b1', b2'⟩ := hK b' 0 c' (fun _ => W_cols w2 (by omega) _ hnm c' a3)
          refine ⟨b', 0, name, cols', err, h.trans b1', ?_⟩
          have ht : tabRight ⟨strOf t, c'⟩ = tabRight ⟨strOf t, some cs⟩ := tabRight_sll a3
          rw [ht] at b2'
          unfold TabR
          simp only
          by_cases h0 : tabRight ⟨strOf t, some cs⟩ = 0
          · rw [if_pos h0]
            rw [if_pos ⟨rfl, h0⟩] at b2'
            obtain ⟨rfl, rfl, rfl⟩ := b2'
            exact ⟨a1, by trivial, by trivial, a3, by trivial⟩
          · rw [if_neg h0]
            rw [if_neg (fun h => h0 h.2)] at b2'
            exact b2'
      · rw [if_neg (by omega)] at h5
        simp only
        rw [if_neg hk]
        obtain ⟨_, h6, rfl⟩ := h5
        exact bad b2 e2 h6
theorem schema_Take_ok {b : Option (List Int)} (hb : Bytes (sll b)) {n : Nat} (h : 2000012 ≤ n) : ∃ b' e' name cols err, schema_Take n ⟨true, b, 0⟩ = some (true, b', e', name, cols, err) ∧ TabR (rdTab (sll b)) b' e' name cols err := by
  obtain ⟨n, rfl⟩ : ∃ k, n = k + 1 := ⟨n - 1, by omega⟩
  unfold schema_Take
  rw [at1_succ]
  obtain ⟨b1, e1, v1, h1, h2⟩ := text_ok (most := 20) (by decide) hb (n := n) (by omega)
  rw [show ((20 : Nat) : Int) = 20 from rfl] at h1
  rw [h1]
  simp only [Option.bind_some]
  unfold withK
  refine take_rest (by omega) (K := _) ?_ hb h2
  intro b' e' cols hW
  cases cols with
  | none => exact takeEnd_aux (by omega) v1 b' e' none hW
  | some c => exact takeEnd_aux (by omega) v1 b' e' (some c) hW
end Go.Pl
