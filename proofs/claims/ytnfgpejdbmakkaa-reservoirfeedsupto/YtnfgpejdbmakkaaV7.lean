import Derived.Test.YtnfgpejdbmakkaaV6
import Derived.Test.YtnfgpejdbmakkaaAbLaw
namespace Go.Ab.Ytnfgpejdbmakkaa
open Go Go.Ab
open Go.Proofs.Try
set_option maxRecDepth 100000
set_option linter.unusedSimpArgs false
set_option linter.unusedVariables false

def structOf (P : Program) (t : Nat) : List (Nat × Nat) :=
  match P.underlying t with
  | some (.struct fs) => fs.toList.map fun f => (f.offset, f.type)
  | _ => []
theorem hasT_struct {P : Program} {n t : Nat} {ps : List PV} {l : List (Nat × Nat)} (hs : structOf P t = l) (hl : l ≠ []) (h : HasT P (n + 1) t ps) : ps.length = P.cellsOf t ∧ ∀ q ∈ l, HasT P n q.2 ((ps.drop q.1).take (P.cellsOf q.2)) := by
  subst hs
  unfold structOf at hl ⊢
  simp only [HasT] at h
  cases hu : P.underlying t with
  | none => rw [hu] at hl; exact absurd rfl hl
  | some d =>
    rw [hu] at h hl
    cases d <;> simp only at h hl ⊢ <;> first
      | exact absurd rfl hl
      | (refine ⟨h.1, fun q hq => ?_⟩
         rw [List.mem_map] at hq
         obtain ⟨f, hf, rfl⟩ := hq
         exact h.2 f hf)
theorem hasT_int {P : Program} {n t : Nat} {k : IntKind} {ps : List PV} (hu : P.underlying t = some (.int k)) (h : HasT P n t ps) : ∃ i, ps = [.int k i] ∧ (Lit.int k i).wf = true := by
  cases n with
  | zero => exact h.elim
  | succ n => simpa only [HasT, hu] using h
theorem hasT_flt {P : Program} {n t : Nat} {k : FloatKind} {ps : List PV} (hu : P.underlying t = some (.float k)) (h : HasT P n t ps) : ∃ b, ps = [.flt k b] ∧ (Lit.float k b).wf = true := by
  cases n with
  | zero => exact h.elim
  | succ n => simpa only [HasT, hu] using h
theorem hasT_str {P : Program} {n t : Nat} {ps : List PV} (hu : P.underlying t = some .string) (h : HasT P n t ps) : ∃ s, ps = [.str s] ∧ s.size ≤ maxLen := by
  cases n with
  | zero => exact h.elim
  | succ n => simpa only [HasT, hu] using h
theorem u3 : prog.underlying 3 = some (.int .i64) := by kernel_rfl
theorem u2 : prog.underlying 2 = some (.int .i64) := by kernel_rfl
theorem u38 : prog.underlying 38 = some (.float .f64) := by kernel_rfl
theorem u9 : prog.underlying 9 = some .string := by kernel_rfl
theorem u22 : prog.underlying 22 = some (.int .u64) := by kernel_rfl
theorem c40 : prog.cellsOf 40 = 4 := by kernel_rfl
theorem s40 : structOf prog 40 = [(0, 3), (1, 2), (2, 38), (3, 9)] := by kernel_rfl
theorem c3 : prog.cellsOf 3 = 1 := by kernel_rfl
theorem c2 : prog.cellsOf 2 = 1 := by kernel_rfl
theorem c38 : prog.cellsOf 38 = 1 := by kernel_rfl
theorem c9 : prog.cellsOf 9 = 1 := by kernel_rfl
theorem v_of {n : Nat} {ps : List PV} (h : HasT prog n 40 ps) : ∃ v : V, ps = v.row ∧ v.Ok := by
  cases n with
  | zero => exact h.elim
  | succ n =>
    obtain ⟨hl, hf⟩ := hasT_struct s40 (by simp) h
    rw [c40] at hl
    match ps, hl with
    | [a, b, c, d], _ =>
      have h0 := hf (0, 3) (by simp)
      have h1 := hf (1, 2) (by simp)
      have h2 := hf (2, 38) (by simp)
      have h3 := hf (3, 9) (by simp)
      simp only [c3, c2, c38, c9, List.drop_zero, List.drop_succ_cons, List.take_succ_cons, List.take_zero] at h0 h1 h2 h3
      obtain ⟨k, e0, w0⟩ := hasT_int u3 h0
      obtain ⟨i, e1, w1⟩ := hasT_int u2 h1
      obtain ⟨f, e2, w2⟩ := hasT_flt u38 h2
      obtain ⟨s, e3, _⟩ := hasT_str u9 h3
      simp only [List.cons.injEq, and_true] at e0 e1 e2 e3
      subst e0 e1 e2 e3
      simp [Lit.wf, IntKind.min, IntKind.max, IntKind.signed, IntKind.bits] at w0 w1
      simp [Lit.wf] at w2
      exact ⟨⟨k, i, f, s⟩, rfl, ⟨(by omega : -9223372036854775808 ≤ k), (by omega : k < 9223372036854775808), (by omega : -9223372036854775808 ≤ i), (by omega : i < 9223372036854775808), (by omega : f < 2 ^ 64)⟩⟩
theorem vals_of {n : Nat} : ∀ (rows : List (List PV)), (∀ r, r ∈ rows → r.length = prog.cellsOf 40 ∧ HasT prog n 40 r) → ∃ l : List V, rows = l.map V.row ∧ OkL l
  | [], _ => ⟨[], rfl, fun v hv => by simp at hv⟩
  | r :: rows, h => by
    obtain ⟨l, rfl, hl⟩ := vals_of rows fun x hx => h x (by simp [hx])
    obtain ⟨v, rfl, hv⟩ := v_of (h r (by simp)).2
    refine ⟨v :: l, rfl, fun x hx => ?_⟩
    rcases List.mem_cons.1 hx with rfl | hx
    · exact hv
    · exact hl x hx
theorem u64s_of {n : Nat} : ∀ (rows : List (List PV)), (∀ r, r ∈ rows → r.length = prog.cellsOf 22 ∧ HasT prog n 22 r) → ∃ l : List Nat, rows = l.map rowU ∧ D64 l
  | [], _ => ⟨[], rfl, fun v hv => by simp at hv⟩
  | r :: rows, h => by
    obtain ⟨l, rfl, hl⟩ := u64s_of rows fun x hx => h x (by simp [hx])
    obtain ⟨i, rfl, hw⟩ := hasT_int u22 (h r (by simp)).2
    simp [Lit.wf, IntKind.min, IntKind.max, IntKind.signed, IntKind.bits] at hw
    refine ⟨i.toNat :: l, ?_, fun x hx => ?_⟩
    · simp only [List.map_cons, rowU]
      rw [show ((i.toNat : Nat) : Int) = i by omega]
    · rcases List.mem_cons.1 hx with rfl | hx
      · omega
      · exact hl x hx
end Go.Ab.Ytnfgpejdbmakkaa
