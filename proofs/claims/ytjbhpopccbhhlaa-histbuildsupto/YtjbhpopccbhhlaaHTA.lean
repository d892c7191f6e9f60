import Derived.Test.YtjbhpopccbhhlaaHDV
set_option linter.unusedVariables false
set_option linter.unusedSimpArgs false
namespace Go.Pl
open Go Go.Ab
theorem sll_some {α : Type} (l : List α) : sll (some l) = l := rfl
theorem idx_app {α : Type} (p : List α) (x : α) (s : List α) : idx (p ++ x :: s) ((p.length : Nat) : Int) = some x := by
  rw [idx_nat]; simp
theorem ckA_ok {b n : Nat} (h : n ≤ 2000000) (hb : b ≤ 1000) : ckA b n = some () := by
  unfold ckA
  rw [if_pos]
  have := Nat.mul_le_mul h hb
  omega
/-! ### A list made out of a list, one by one -/
theorem map_loop {α β R : Type} {f : α → β} {n : Nat} {l3 : Nat → Option (List β) → Int → Option R} {l : List α} {K : Option (List β) → Option R} {b : Nat} (hb : b ≤ 1000) (hl : l.length ≤ 1048576) (hn : 2000000 ≤ n)
    (hF : ∀ (m i : Nat) (s : Option (List β)), l3 (m + 1) s (i : Int) = bif decide ((i : Int) < (l.length : Int)) then (idx l (i : Int)).bind fun x => (ckA b (sll s ++ [f x]).length).bind fun _ => l3 m (some (sll s ++ [f x])) (IntKind.wrap .i64 ((i : Int) + 1)) else K s) :
    l3 n none 0 = K (if l = [] then none else some (l.map f)) := by
  have e0 : l3 n none 0 = rangeS (fun (x : α) i (s : Option (List β)) rec => (ckA b (sll s ++ [f x]).length).bind fun _ => rec (some (sll s ++ [f x]))) K l 0 none :=
    loop_range0 (l := l) (by omega) (F := fun m (s : Option (List β)) i => l3 m s i) (fun m i s _ => hF m i s) hn none
  have hgen : ∀ (l : List α) (i : Nat) (s : Option (List β)), (sll s).length + l.length ≤ 1048576 → rangeS (fun (x : α) i (s : Option (List β)) rec => (ckA b (sll s ++ [f x]).length).bind fun _ => rec (some (sll s ++ [f x]))) K l i s = K (if l = [] then s else some (sll s ++ l.map f)) := by
    intro l
    induction l with
    | nil => intro i s _; rw [if_pos rfl]; rfl
    | cons x l ih =>
      intro i s hs
      simp only [List.length_cons] at hs
      simp only [rangeS]
      rw [ckA_ok (by simp; omega) hb, Option.bind_some, ih (i + 1) _ (by simp only [sll_some, List.length_append, List.length_singleton]; omega), if_neg (List.cons_ne_nil x l)]
      by_cases hl : l = []
      · subst hl; rw [if_pos rfl]; rfl
      · rw [if_neg hl, sll_some, List.append_assoc]; rfl
  rw [e0, hgen l 0 none (by show 0 + l.length ≤ 1048576; omega)]
  rfl
def mapO {α β : Type} (f : α → β) (l : List α) : Option (List β) := if l = [] then none else some (l.map f)
theorem sll_mapO {α β : Type} (f : α → β) (l : List α) : sll (mapO f l) = l.map f := by
  unfold mapO; split
  · rename_i h; subst h; rfl
  · rfl
/-! ### Buckets -/
abbrev HB := hist_Bucket
abbrev T19 := tabularyref19_Bucket
abbrev WT (a : Option (List T19)) : Prop := wSl W_tabularyref19_Bucket a
def plainB (v : api_Value) : Bool := vRight v && (v.fKind != 0) && (!isZero v.fFloat || !signb v.fFloat)
end Go.Pl

set_option linter.unusedVariables false
set_option linter.unusedSimpArgs false
namespace Go.Pl
open Go Go.Ab
/-! ### What is known of a bucket, of all -/
structure Snd (b : HB) : Prop where
  pl : plainB b.fLow = true
  ph : plainB b.fHigh = true
  kd : b.fLow.fKind = b.fHigh.fKind
  le : vCmp b.fLow b.fHigh ≤ 0
  c1 : 1 ≤ b.fCount
  c2 : b.fCount ≤ 1000000
  d1 : 1 ≤ b.fDistinct
  d2 : b.fDistinct ≤ b.fCount
  one : vCmp b.fLow b.fHigh = 0 ↔ b.fDistinct = 1
/-! ### Where a value is -/
end Go.Pl

set_option linter.unusedVariables false
set_option linter.unusedSimpArgs false
set_option maxRecDepth 100000
namespace Go.Pl
open Go Go.Ab
/-! ### Shares -/
/-! ### Within a bucket -/
/-- Between a bucket's bounds. -/
structure Mid (b : HB) (v : api_Value) : Prop where
  s : Snd b
  rv : vRight v = true
  lo : vCmp b.fLow v < 0
  hi : vCmp v b.fHigh < 0
theorem plain_of {v : api_Value} (h : vRight v = true) (hk : v.fKind ≠ 3) : vPlain v = v := by
  unfold vPlain
  rw [h, show (v.fKind == 3) = false by simpa using hk]; rfl
theorem kind_plain {v : api_Value} (h : vRight v = true) : (vPlain v).fKind = v.fKind := by
  unfold vPlain
  rw [h]
  simp only [Bool.not_true, cond_false]
  cases hk : v.fKind == 3 with
  | false => rfl
  | true =>
    have : v.fKind = 3 := by simpa using hk
    cases isZero v.fFloat with
    | true => exact this.symm
    | false => rfl
theorem works19_ok : law19_works 3999999 = some true := rfl
end Go.Pl

