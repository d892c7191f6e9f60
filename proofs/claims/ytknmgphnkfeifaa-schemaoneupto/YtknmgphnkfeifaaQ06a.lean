import Derived.Test.YtknmgphnkfeifaaPL
import Derived.Test.YtknmgphnkfeifaaPA
set_option linter.unusedVariables false
set_option linter.unusedSimpArgs false
namespace Go.Pl
open Go Go.Ab

def nameBad (c : Int) (i : Nat) : Bool := (!(((decide (c ≥ 97)) && (decide (c ≤ 122))) || (c == 95))) && ((((i : Int) == 0) || (decide (c < 48))) || (decide (c > 57)))
def nameChk : List Int → Nat → Bool
  | [], _ => true
  | c :: r, i => !nameBad c i && nameChk r (i + 1)
def nameOk (s : ByteArray) : Bool := nameChk (bytesL s) 0 && (decide ((s.size : Int) > 0) && decide ((s.size : Int) ≤ 20))
theorem nameOk_def (l : List Int) (t : Bool) : ∀ i, rangeS (fun c i (_ : Unit) rec => bif nameBad c i then some false else rec ()) (fun _ => some t) l i () = some (nameChk l i && t) := by
  induction l with
  | nil => intro i; simp [rangeS, nameChk]
  | cons c l ih =>
    intro i
    simp only [rangeS, nameChk, ih]
    cases nameBad c i <;> simp
theorem schema_Name_ok {s : ByteArray} (hs : wS s) {n : Nat} (h : 2000001 ≤ n) : schema_Name n s = some (nameOk s) := by
  obtain ⟨n, rfl⟩ : ∃ k, n = k + 1 := ⟨n - 1, by omega⟩
  unfold schema_Name
  rw [at1_succ]
  simp only [withK]
  have := loop_str (F := fun m (_ : Unit) i => schema_Name_l2 n s (fun _ => some (decide ((s.size : Int) > 0) && decide ((s.size : Int) ≤ 20))) m i) hs (B := fun c i (_ : Unit) rec => bif nameBad c i then some false else rec ()) (k := fun _ => some (decide ((s.size : Int) > 0) && decide ((s.size : Int) ≤ 20))) (fun m i _ => rfl) (m := n) (by omega) ()
  rw [this, nameOk_def]
  rfl
theorem nameBad_ref {c : Int} (hc : 0 ≤ c ∧ c < 256) (i : Nat) : ((((!((decide (c ≥ 48)) && (decide (c ≤ 57)))) && (!((decide (c ≥ 97)) && (decide (c ≤ 122))))) && (c != 95)) || (((decide (c ≥ 48)) && (decide (c ≤ 57))) && ((i : Int) == 0))) = nameBad c i := by
  unfold nameBad
  rw [Bool.eq_iff_iff]
  simp only [Bool.or_eq_true, Bool.and_eq_true, Bool.not_eq_true', Bool.and_eq_false_iff, Bool.or_eq_false_iff, decide_eq_true_eq, decide_eq_false_iff_not, bne_iff_ne, beq_iff_eq, beq_eq_false_iff_ne, ne_eq]
  omega
theorem ref06_Name_ok {s : ByteArray} (hs : wS s) {n : Nat} (h : 2000001 ≤ n) : ref06_Name n s = some (nameOk s) := by
  obtain ⟨n, rfl⟩ : ∃ k, n = k + 1 := ⟨n - 1, by omega⟩
  unfold ref06_Name
  rw [at1_succ, sEq_empty]
  unfold nameOk
  cases hz : (s.size == 0) || decide ((s.size : Int) > 20) with
  | true =>
    rw [cond_true]
    have : (decide ((s.size : Int) > 0) && decide ((s.size : Int) ≤ 20)) = false := by
      rw [Bool.and_eq_false_iff, decide_eq_false_iff_not, decide_eq_false_iff_not]
      rw [Bool.or_eq_true, beq_iff_eq, decide_eq_true_eq] at hz
      omega
    rw [this, Bool.and_false]
  | false =>
    rw [cond_false]
    have : (decide ((s.size : Int) > 0) && decide ((s.size : Int) ≤ 20)) = true := by
      rw [Bool.and_eq_true, decide_eq_true_eq, decide_eq_true_eq]
      rw [Bool.or_eq_false_iff, beq_eq_false_iff_ne, decide_eq_false_iff_not] at hz
      omega
    rw [this, ← nameOk_def]
    simp only [withK]
    rw [show ref06_Name_l4 n s (fun _ => some true) n 0 = _ from loop_str (F := fun m (_ : Unit) i => ref06_Name_l4 n s (fun _ => some true) m i) hs (B := fun c i (_ : Unit) rec => bif ((((!((decide (c ≥ 48)) && (decide (c ≤ 57)))) && (!((decide (c ≥ 97)) && (decide (c ≤ 122))))) && (c != 95)) || (((decide (c ≥ 48)) && (decide (c ≤ 57))) && ((i : Int) == 0))) then some false else rec ()) (k := fun _ => some true) (fun m i _ => rfl) (m := n) (by omega) ()]
    have key : ∀ (l : List Int) (i : Nat), (∀ c ∈ l, 0 ≤ c ∧ c < 256) → rangeS (fun c i (_ : Unit) rec => bif ((((!((decide (c ≥ 48)) && (decide (c ≤ 57)))) && (!((decide (c ≥ 97)) && (decide (c ≤ 122))))) && (c != 95)) || (((decide (c ≥ 48)) && (decide (c ≤ 57))) && ((i : Int) == 0))) then some false else rec ()) (fun _ => some true) l i () = rangeS (fun c i (_ : Unit) rec => bif nameBad c i then some false else rec ()) (fun _ => some true) l i () := by
      intro l
      induction l with
      | nil => intro i _; rfl
      | cons c l ih =>
        intro i hl
        simp only [rangeS]
        rw [nameBad_ref (hl c (by simp)), ih (i + 1) (fun x hx => hl x (by simp [hx]))]
    exact key _ _ (bytesL_range s)
end Go.Pl
