import Derived.Test.YtjbhpopccbhhlaaAbX
import Derived.Laws.StructEq
set_option linter.unusedVariables false
set_option linter.unusedSimpArgs false
namespace Go.Ab
open Go

def eqT (P : Program) (t k : Nat) : Bool :=
  match P.underlying t with
  | some (.int _) => k == 1
  | some .bool => k == 2
  | some .string => k == 3
  | _ => false

def eqFs (P : Program) : Nat → List Field → List Nat → Bool
  | _, [], [] => true
  | i, f :: r, k :: ks => f.name != "_" && f.offset == i && eqT P f.type k && eqFs P (i + 1) r ks
  | _, _, _ => false

/-- Structs of numbers, bools and strings: compared cell by cell. -/
def eOf (P : Program) (t : Nat) (ks : List Nat) : Bool :=
  match P.underlying t with
  | some (.struct fs) => eqFs P 0 fs.toList ks && !P.stoodInHeld t && !P.eqGuardType P.depth t
  | _ => false

theorem eqFields_ok {P : Program} {w : World} {F : Froz} {m : Mu} {d : Nat} {xs ys : Array Value} {as bs : List AV} (hx : RelL w F m xs.toList as) (hy : RelL w F m ys.toList bs) :
    ∀ (fs : List Field) (i : Nat) (c : Bool), eqFs P i fs ((as.drop i).map cellKind) = true → cellsEq (as.drop i) (bs.drop i) = some c → (Op.eqFields (d + 1) xs ys fs).run P w = .ok c w
  | [], i, c, hf, h => by
    cases ha : as.drop i with
    | cons a r => rw [ha] at hf; simp [eqFs] at hf
    | nil =>
      rw [ha] at h
      cases hb : bs.drop i with
      | nil => rw [hb] at h; simp only [cellsEq, Option.some.injEq] at h; subst h; simp [Op.eqFields]
      | cons b r => rw [hb] at h; simp [cellsEq] at h
  | f :: fs, i, c, hf, h => by
    have hi : i < as.length := by
      rcases Nat.lt_or_ge i as.length with hh | hh
      · exact hh
      · rw [List.drop_eq_nil_of_le hh] at hf; simp [eqFs] at hf
    rw [List.drop_eq_getElem_cons hi] at h hf
    simp only [List.map_cons, eqFs, Bool.and_eq_true, bne_iff_ne, ne_eq, beq_iff_eq] at hf
    obtain ⟨⟨⟨h1, h2⟩, h3⟩, h4⟩ := hf
    have hib : i < bs.length := by
      rcases Nat.lt_or_ge i bs.length with hh | hh
      · exact hh
      · rw [List.drop_eq_nil_of_le hh] at h; simp [cellsEq] at h
    rw [List.drop_eq_getElem_cons hib] at h
    simp only [cellsEq] at h
    split at h
    rotate_left
    · cases h
    rename_i e c' he hc'
    injection h with h
    subst h
    have hxi : i < xs.size := by have := hx.1; simp at this; omega
    have hyi : i < ys.size := by have := hy.1; simp at this; omega
    have ru := hx.2 i (by simpa using hxi) hi
    have rv := hy.2 i (by simpa using hyi) hib
    simp only [Array.getElem_toList] at ru rv
    have ih := eqFields_ok (d := d) hx hy fs (i + 1) c' h4 hc'
    have key : ∃ D, P.underlying f.type = some D ∧ aggOf D = false ∧ (Op.equalIn (d + 1) f.type xs[i] ys[i]).run P w = .ok e w := by
      generalize xs[i] = u at ru
      generalize ys[i] = v at rv
      generalize as[i] = a at ru he h3
      generalize bs[i] = b at rv he
      unfold cellEq at he
      split at he
      · split at he
        · rename_i hk
          injection he with he
          subst hk he
          cases ru with | pv ru =>
          cases rv with | pv rv =>
          cases ru; cases rv
          unfold eqT at h3
          split at h3 <;> first
            | (rename_i hty; exact ⟨_, hty, rfl, run_equalIn_int w d _ _ _ _ _ hty⟩)
            | (simp [cellKind] at h3; done)
        · cases he
      · injection he with he
        subst he
        cases ru with | pv ru =>
        cases rv with | pv rv =>
        cases ru; cases rv
        unfold eqT at h3
        split at h3 <;> first
          | (rename_i hty; exact ⟨_, hty, rfl, run_equalIn_bool w d _ _ _ hty⟩)
          | (simp [cellKind] at h3; done)
      · injection he with he
        subst he
        cases ru with | pv ru =>
        cases rv with | pv rv =>
        cases ru; cases rv
        unfold eqT at h3
        split at h3 <;> first
          | (rename_i hty; refine ⟨_, hty, rfl, ?_⟩; rw [beq_toListBytes]; exact run_equalIn_string w d _ _ _ hty)
          | (simp [cellKind] at h3; done)
      · cases he
    obtain ⟨D, hD, hagg, hrun⟩ := key
    have part1 : ∀ (zs : Array Value) (hz : i < zs.size), (part f.type zs f.offset).run P w = .ok zs[i] w := fun zs hz => by
      unfold part
      rw [h2]
      have : (isAgg f.type).run P w = .ok false w := by
        cases D <;> simp_all [isAgg, run_underlying hD, aggOf]
      simp only [Sem.run_bind, this, Result.andThen_ok, Bool.false_eq_true, if_false]
      rw [show zs[i]? = some zs[i] by simp [hz]]
      rfl
    simp only [Op.eqFields]
    rw [if_pos (by simpa using h1)]
    simp only [Sem.run_bind, part1 xs hxi, part1 ys hyi, Result.andThen_ok, hrun]
    cases e with
    | false => simp
    | true => simpa using ih

theorem eOf_ok (P : Program) : EOk P (eOf P) := ⟨fun t as bs hE w F m xs ys c x y hx hy hc => by
  unfold eOf at hE
  split at hE
  rotate_left
  · cases hE
  rename_i fs hfs
  simp only [Bool.and_eq_true, Bool.not_eq_true'] at hE
  obtain ⟨⟨h1, h2⟩, h3⟩ := hE
  have hfo : P.fieldsOf t = fs := by simp [Program.fieldsOf, hfs]
  have hrun : (Op.equalIn 10000 t (.agg xs) (.agg ys)).run P w = .ok c w := by
    rw [run_equalIn_agg w 9999 t xs ys (by rw [hfo]; exact hfs) h2, hfo]
    exact eqFields_ok (d := 9998) hx hy fs.toList 0 c (by simpa using h1) (by simpa using hc)
  refine ⟨fun op => run_eqGuard_agg w op t x y xs ys h3, ?_, ?_⟩
  · rw [run_eql_struct, hrun]; rfl
  · rw [run_neq_struct, hrun]; rfl⟩

end Go.Ab
