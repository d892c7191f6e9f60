import Derived.Test.YtnfgpejdbmakkaaX4
import Derived.Test.YtnfgpejdbmakkaaAbLaw
namespace Go.Ab.Ytnfgpejdbmakkaa
open Go Go.Ab
open Go.Proofs.Try
set_option maxRecDepth 100000
set_option linter.unusedSimpArgs false
set_option linter.unusedVariables false

def structOf' (P : Program) (t : Nat) : List (Nat × Nat) :=
  match P.underlying t with
  | some (.struct fs) => fs.toList.map fun f => (f.offset, f.type)
  | _ => []
theorem hasT_struct' {P : Program} {n t : Nat} {ps : List PV} {l : List (Nat × Nat)} (hs : structOf' P t = l) (hl : l ≠ []) (h : HasT P (n + 1) t ps) : ps.length = P.cellsOf t ∧ ∀ q ∈ l, HasT P n q.2 ((ps.drop q.1).take (P.cellsOf q.2)) := by
  subst hs
  unfold structOf' at hl ⊢
  simp only [HasT] at h
  cases hu : P.underlying t with
  | none => rw [hu] at hl; exact absurd rfl hl
  | some d =>
    rw [hu] at h hl
    cases d <;> simp only at h hl ⊢ <;> first
      | exact absurd rfl hl
      | (refine ⟨h.1, fun q hq => ?_⟩
         rw [List.mem_map] at hq
         obtain ⟨f, hf, rfl⟩ := hq
         exact h.2 f hf)
theorem hasT_int' {P : Program} {n t : Nat} {k : IntKind} {ps : List PV} (hu : P.underlying t = some (.int k)) (h : HasT P n t ps) : ∃ i, ps = [.int k i] ∧ (Lit.int k i).wf = true := by
  cases n with
  | zero => exact h.elim
  | succ n => simpa only [HasT, hu] using h
theorem y3 : prog.underlying 3 = some (.int .i64) := by kernel_rfl
theorem y22 : prog.underlying 22 = some (.int .u64) := by kernel_rfl
theorem z24 : prog.cellsOf 24 = 6 := by kernel_rfl
theorem s24 : structOf' prog 24 = [(0, 3), (1, 22), (2, 22), (3, 22), (4, 22), (5, 22)] := by kernel_rfl
theorem z3 : prog.cellsOf 3 = 1 := by kernel_rfl
theorem z22 : prog.cellsOf 22 = 1 := by kernel_rfl
theorem u64_of {n : Nat} {ps : List PV} (h : HasT prog n 22 ps) : ∃ m : Nat, ps = [.int .u64 m] ∧ m < 2 ^ 64 := by
  obtain ⟨i, rfl, hw⟩ := hasT_int' y22 h
  simp [Lit.wf, IntKind.min, IntKind.max, IntKind.signed, IntKind.bits] at hw
  exact ⟨i.toNat, by rw [show ((i.toNat : Nat) : Int) = i by omega], by omega⟩
theorem six_of {n : Nat} {ps : List PV} (h : HasT prog n 24 ps) : ∃ (k : Int) (l r a b o : Nat), ps = [.int .i64 k, .int .u64 l, .int .u64 r, .int .u64 a, .int .u64 b, .int .u64 o] ∧ l < 2 ^ 64 ∧ r < 2 ^ 64 ∧ a < 2 ^ 64 ∧ b < 2 ^ 64 ∧ o < 2 ^ 64 := by
  cases n with
  | zero => exact h.elim
  | succ n =>
    obtain ⟨hl, hf⟩ := hasT_struct' s24 (by simp) h
    rw [z24] at hl
    match ps, hl with
    | [p0, p1, p2, p3, p4, p5], _ =>
      have h0 := hf (0, 3) (by simp)
      have h1 := hf (1, 22) (by simp)
      have h2 := hf (2, 22) (by simp)
      have h3 := hf (3, 22) (by simp)
      have h4 := hf (4, 22) (by simp)
      have h5 := hf (5, 22) (by simp)
      simp only [z3, z22, List.drop_zero, List.drop_succ_cons, List.take_succ_cons, List.take_zero] at h0 h1 h2 h3 h4 h5
      obtain ⟨k, e0, _⟩ := hasT_int' y3 h0
      obtain ⟨l, e1, w1⟩ := u64_of h1
      obtain ⟨r, e2, w2⟩ := u64_of h2
      obtain ⟨a, e3, w3⟩ := u64_of h3
      obtain ⟨b, e4, w4⟩ := u64_of h4
      obtain ⟨o, e5, w5⟩ := u64_of h5
      simp only [List.cons.injEq, and_true] at e0 e1 e2 e3 e4 e5
      subst e0 e1 e2 e3 e4 e5
      exact ⟨k, l, r, a, b, o, rfl, w1, w2, w3, w4, w5⟩
end Go.Ab.Ytnfgpejdbmakkaa
