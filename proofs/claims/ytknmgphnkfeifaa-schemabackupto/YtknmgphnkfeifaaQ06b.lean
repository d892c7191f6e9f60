import Derived.Test.YtknmgphnkfeifaaQ06a
set_option linter.unusedVariables false
set_option linter.unusedSimpArgs false
namespace Go.Pl
open Go Go.Ab

/-! ### Where a column stands -/
def firstI {α : Type} (p : α → Bool) (l : List α) : Int := match l.findIdx? p with
  | some j => (j : Int)
  | none => -1
theorem range_find {α : Type} (p : α → Bool) : ∀ (l : List α) (i : Nat), rangeS (fun c i (_ : Unit) rec => bif p c then some (i : Int) else rec ()) (fun _ => some (-1)) l i () = some (match l.findIdx? p with
      | some j => ((i + j : Nat) : Int)
      | none => -1)
  | [], i => rfl
  | x :: r, i => by
    simp only [rangeS, List.findIdx?_cons]
    cases hp : p x with
    | true => simp
    | false =>
      rw [cond_false, range_find p r (i + 1)]
      cases r.findIdx? p with
      | none => rfl
      | some j =>
        simp only [Option.map_some, Option.some.injEq, Bool.false_eq_true, if_false]
        show ((i + 1 + j : Nat) : Int) = ((i + (j + 1) : Nat) : Int)
        rw [show i + 1 + j = i + (j + 1) by omega]
theorem range_find0 {α : Type} (p : α → Bool) (l : List α) : rangeS (fun c i (_ : Unit) rec => bif p c then some (i : Int) else rec ()) (fun _ => some (-1)) l 0 () = some (firstI p l) := by
  rw [range_find p l 0]
  unfold firstI
  cases l.findIdx? p with
  | none => rfl
  | some j => simp
/-- A search, where what is asked of each is what a call answers. -/
theorem range_find_of {α : Type} {q : α → Option Bool} {p : α → Bool} : ∀ (l : List α) (i : Nat), (∀ x, x ∈ l → q x = some (p x)) → rangeS (fun c i (_ : Unit) rec => (q c).bind fun b => bif b then some (i : Int) else rec ()) (fun _ => some (-1)) l i () = rangeS (fun c i (_ : Unit) rec => bif p c then some (i : Int) else rec ()) (fun _ => some (-1)) l i ()
  | [], i, _ => rfl
  | x :: r, i, h => by
    simp only [rangeS]
    rw [h x (by simp), range_find_of r (i + 1) fun y hy => h y (by simp [hy])]
    rfl
theorem firstI_range {α : Type} (p : α → Bool) (l : List α) : -1 ≤ firstI p l ∧ firstI p l < l.length := by
  unfold firstI
  cases h : l.findIdx? p with
  | none => simp; omega
  | some j =>
    have := (List.findIdx?_eq_some_iff_getElem.1 h).1
    simp only
    omega
def colIs (name : ByteArray) (c : api_Column) : Bool := sEq c.fName name
theorem ref06_Column_ok {t : api_Table} (ht : W_api_Table t) (name : ByteArray) {n : Nat} (h : 2000001 ≤ n) : ref06_Column n t name = some (firstI (colIs name) (sll t.fCols)) := by
  obtain ⟨n, rfl⟩ : ∃ k, n = k + 1 := ⟨n - 1, by omega⟩
  unfold ref06_Column
  simp only [at1_succ, withK]
  rw [← range_find0]
  exact loop_sl (F := fun m (_ : Unit) i => ref06_Column_l2 n t name (fun _ => some (-1)) m i) ht.2.1 (fun m i _ => rfl) (by omega) ()
theorem schema_Column_1_ok (c : api_Column) (name : ByteArray) {n : Nat} (h : 1 ≤ n) : schema_Column_1 n c name = some (colIs name c) := by
  obtain ⟨n, rfl⟩ : ∃ k, n = k + 1 := ⟨n - 1, by omega⟩
  rfl
theorem schema_Column_ok {t : api_Table} (ht : W_api_Table t) (name : ByteArray) {n : Nat} (h : 2000002 ≤ n) : schema_Column n t name = some (firstI (colIs name) (sll t.fCols)) := by
  obtain ⟨n, rfl⟩ : ∃ k, n = k + 2 := ⟨n - 2, by omega⟩
  unfold schema_Column slices_IndexFunc_Column_schema_Column_1
  simp only [at1_succ, withK]
  rw [show slices_IndexFunc_Column_schema_Column_1_l2 n t.fCols name (fun _ => some (-1)) n 0 = _ from loop_sl (F := fun m (_ : Unit) i => slices_IndexFunc_Column_schema_Column_1_l2 n t.fCols name (fun _ => some (-1)) m i) ht.2.1 (B := fun c i (_ : Unit) rec => (schema_Column_1 n c name).bind fun b => bif b then some (i : Int) else rec ()) (fun m i _ => rfl) (by omega) ()]
  rw [range_find_of (p := colIs name) _ _ (fun x _ => schema_Column_1_ok x name (by omega)), range_find0]
  rfl

/-! ### What is wrong with a table -/
def colBad (c : api_Column) : Bool := ((!nameOk c.fName) || decide (c.fKind < 1)) || decide (c.fKind > 4)
def dupN : List ByteArray → List ByteArray → Bool
  | _, [] => false
  | seen, x :: r => seen.any (fun p => sEq p x) || dupN (seen ++ [x]) r
def tabRight (t : api_Table) : Int :=
  if (((!nameOk t.fName) || decide (((sll t.fCols).length : Int) < 1)) || decide (((sll t.fCols).length : Int) > 8)) || (sll t.fCols).any colBad then 2
  else if dupN [] ((sll t.fCols).map (·.fName)) then 41 else 0
def inMap (m : List (ByteArray × Bool)) (seen : List ByteArray) : Prop := ∀ y, (mget m y).getD false = seen.any (fun p => sEq p y)
theorem mput_get {m : List (ByteArray × Bool)} (k y : ByteArray) : (mget (mput m k true) y).getD false = ((mget m y).getD false || sEq k y) := by
  induction m with
  | nil =>
    simp only [mput, mget, beq_sEq, sEq_comm y k]
    cases sEq k y <;> rfl
  | cons p m ih =>
    simp only [mput, beq_sEq]
    cases hk : sEq k p.1 with
    | true =>
      simp only [cond_true, mget, beq_sEq]
      have := sEq_iff.1 hk
      subst this
      rw [sEq_comm y p.1]
      cases h : sEq p.1 y <;> simp
    | false =>
      simp only [cond_false, mget, beq_sEq]
      cases hy : sEq y p.1 with
      | true =>
        have := sEq_iff.1 hy
        subst this
        simp [hk]
      | false => simpa using ih
theorem inMap_put {m : List (ByteArray × Bool)} {seen : List ByteArray} (h : inMap m seen) (k : ByteArray) : inMap (mput m k true) (seen ++ [k]) := by
  intro y
  rw [mput_get, h y, List.any_append]
  simp
theorem right_loop {n : Nat} (hn : 2000001 ≤ n) : ∀ (l : List api_Column) (i : Nat) (m : List (ByteArray × Bool)) (seen : List ByteArray) (tw : Bool), (∀ c, c ∈ l → W_api_Column c) → inMap m seen →
    rangeS (fun (x : api_Column) i (s : List (ByteArray × Bool) × Bool) rec => (schema_Name n x.fName).bind fun b => bif (((!b) || (decide (x.fKind < 1))) || (decide (x.fKind > 4))) then some 2 else rec (mput s.1 x.fName true, s.2 || ((mget s.1 x.fName).getD false))) (fun s => bif s.2 then some (41 : Int) else some 0) l i (m, tw)
      = some (if l.any colBad then 2 else if tw || dupN seen (l.map (·.fName)) then 41 else 0)
  | [], i, m, seen, tw, _, _ => by
    simp only [rangeS, List.any_nil, List.map_nil, dupN, Bool.or_false]
    cases tw <;> rfl
  | x :: l, i, m, seen, tw, hl, hm => by
    simp only [rangeS]
    rw [schema_Name_ok (hl x (by simp)).1 hn]
    simp only [Option.bind_some]
    have e : (!nameOk x.fName || decide (x.fKind < 1) || decide (x.fKind > 4)) = colBad x := rfl
    rw [e, List.any_cons]
    cases hb : colBad x with
    | true => simp
    | false =>
      rw [cond_false, right_loop hn l (i + 1) _ (seen ++ [x.fName]) _ (fun c hc => hl c (by simp [hc])) (inMap_put hm _), hm]
      simp only [Bool.false_or, List.map_cons, dupN, Bool.or_assoc]
theorem schema_Right_ok {t : api_Table} (ht : W_api_Table t) {n : Nat} (h : 2000002 ≤ n) : schema_Right n t = some (tabRight t) := by
  obtain ⟨n, rfl⟩ : ∃ k, n = k + 1 := ⟨n - 1, by omega⟩
  unfold schema_Right
  simp only [at1_succ, withK]
  rw [schema_Name_ok ht.1 (by omega)]
  simp only [Option.bind_some]
  unfold tabRight
  cases hc : ((!nameOk t.fName) || decide (((sll t.fCols).length : Int) < 1)) || decide (((sll t.fCols).length : Int) > 8) with
  | true => simp
  | false =>
    rw [cond_false, Bool.false_or]
    rw [show schema_Right_l6 n t (fun y7 => bif y7 then some 41 else some 0) n [] 0 false = _ from loop_sl (F := fun m (s : List (ByteArray × Bool) × Bool) i => schema_Right_l6 n t (fun y7 => bif y7 then some 41 else some 0) m s.1 i s.2) ht.2.1 (B := fun x i s rec => (schema_Name n x.fName).bind fun b => bif (((!b) || (decide (x.fKind < 1))) || (decide (x.fKind > 4))) then some 2 else rec (mput s.1 x.fName true, s.2 || ((mget s.1 x.fName).getD false))) (k := fun s => bif s.2 then some (41 : Int) else some 0) (fun m i _ => rfl) (by omega) ([], false)]
    rw [right_loop (by omega) _ _ _ [] _ ht.2.2 (fun y => rfl)]
    simp
theorem ref_loop1 {n : Nat} (hn : 2000001 ≤ n) {K : Option Int} : ∀ (l : List api_Column) (i : Nat), (∀ c, c ∈ l → W_api_Column c) →
    rangeS (fun (x : api_Column) i (_ : Unit) rec => (ref06_Name n x.fName).bind fun b => bif (((!b) || (decide (x.fKind < 1))) || (decide (x.fKind > 4))) then some 2 else rec ()) (fun _ => K) l i () = if l.any colBad then some 2 else K
  | [], i, _ => by simp [rangeS]
  | x :: l, i, hl => by
    simp only [rangeS]
    rw [ref06_Name_ok (hl x (by simp)).1 hn]
    simp only [Option.bind_some]
    have e : (!nameOk x.fName || decide (x.fKind < 1) || decide (x.fKind > 4)) = colBad x := rfl
    rw [e, List.any_cons]
    cases hb : colBad x with
    | true => simp
    | false => rw [cond_false, ref_loop1 hn l (i + 1) (fun c hc => hl c (by simp [hc]))]; simp
theorem first_at {α : Type} {p : α → Bool} {pre post : List α} {x : α} (hx : p x = true) : (firstI p (pre ++ x :: post) != (pre.length : Int)) = pre.any p := by
  unfold firstI
  rw [List.findIdx?_append]
  cases h : pre.findIdx? p with
  | some j =>
    have h1 := (List.findIdx?_eq_some_iff_getElem.1 h)
    have h2 : pre.any p = true := by rw [List.any_eq_true]; exact ⟨pre[j]'h1.1, List.getElem_mem _, h1.2.1⟩
    have := h1.1
    rw [h2]
    simp
    omega
  | none =>
    have h2 : pre.any p = false := by
      rw [List.any_eq_false]
      intro y hy
      simpa using (List.findIdx?_eq_none_iff.1 h) y hy
    rw [h2]
    simp [List.findIdx?_cons, hx]
theorem ref_loop2 {n : Nat} {t : api_Table} (ht : W_api_Table t) (hn : 2000001 ≤ n) : ∀ (l pre : List api_Column), sll t.fCols = pre ++ l →
    rangeS (fun (x : api_Column) i (_ : Unit) rec => (ref06_Column n t x.fName).bind fun j => bif (j != (i : Int)) then some (41 : Int) else rec ()) (fun _ => some 0) l pre.length () = some (if dupN (pre.map (·.fName)) (l.map (·.fName)) then 41 else 0)
  | [], pre, _ => by simp [rangeS, dupN]
  | x :: l, pre, he => by
    simp only [rangeS]
    rw [ref06_Column_ok ht _ hn]
    simp only [Option.bind_some]
    rw [he, first_at (by unfold colIs; exact sEq_self _)]
    simp only [List.map_cons, dupN]
    have e : (pre.map (·.fName)).any (fun p => sEq p x.fName) = pre.any (colIs x.fName) := by
      rw [List.any_map]; rfl
    rw [e]
    cases pre.any (colIs x.fName) with
    | true => simp
    | false =>
      have := ref_loop2 ht hn l (pre ++ [x]) (by rw [he]; simp)
      rw [List.length_append, List.length_singleton, List.map_append] at this
      rw [cond_false, this, Bool.false_or]
      rfl
theorem ref06_Right_ok {t : api_Table} (ht : W_api_Table t) {n : Nat} (h : 2000002 ≤ n) : ref06_Right n t = some (tabRight t) := by
  obtain ⟨n, rfl⟩ : ∃ k, n = k + 1 := ⟨n - 1, by omega⟩
  unfold ref06_Right
  simp only [at1_succ, withK]
  rw [ref06_Name_ok ht.1 (by omega)]
  simp only [Option.bind_some]
  unfold tabRight
  have e0 : (((sll t.fCols).length : Int) == 0) = decide (((sll t.fCols).length : Int) < 1) := by
    rw [Bool.eq_iff_iff, beq_iff_eq, decide_eq_true_eq]; omega
  rw [e0]
  cases hc : ((!nameOk t.fName) || decide (((sll t.fCols).length : Int) < 1)) || decide (((sll t.fCols).length : Int) > 8) with
  | true => simp
  | false =>
    rw [cond_false, Bool.false_or]
    rw [show ref06_Right_l4 n t (fun _ => ref06_Right_l9 n t (fun _ => some 0) n 0) n 0 = _ from loop_sl (F := fun m (_ : Unit) i => ref06_Right_l4 n t (fun _ => ref06_Right_l9 n t (fun _ => some 0) n 0) m i) ht.2.1 (B := fun x i (_ : Unit) rec => (ref06_Name n x.fName).bind fun b => bif (((!b) || (decide (x.fKind < 1))) || (decide (x.fKind > 4))) then some 2 else rec ()) (k := fun _ => ref06_Right_l9 n t (fun _ => some 0) n 0) (fun m i _ => rfl) (by omega) ()]
    rw [ref_loop1 (by omega) _ _ ht.2.2]
    rw [show ref06_Right_l9 n t (fun _ => some 0) n 0 = _ from loop_sl (F := fun m (_ : Unit) i => ref06_Right_l9 n t (fun _ => some 0) m i) ht.2.1 (B := fun x i (_ : Unit) rec => (ref06_Column n t x.fName).bind fun j => bif (j != (i : Int)) then some (41 : Int) else rec ()) (k := fun _ => some 0) (fun m i _ => rfl) (by omega) ()]
    have := ref_loop2 ht (n := n) (by omega) (sll t.fCols) [] rfl
    rw [show (0 : Nat) = ([] : List api_Column).length from rfl, this]
    cases (sll t.fCols).any colBad <;> simp
end Go.Pl
