/- What is put of numbers, texts and floats, one behind the other, and behind other bytes, is read, in order, with what stands behind left: each NaN as a NaN, -0 as 0. It holds for all arguments of the given size. -/
import Derived.Test.YtknmgphnkfeifaaR8
import Derived.Test.YtknmgphnkfeifaaRows
namespace Go.Proofs.Ytknmgphnkfeifaa.codecBack
open Go Go.Ab Go.Ab.Ytknmgphnkfeifaa
open Go.ChangeShapes Go.WideShapes Go.ChangeAt Go.RowKit
set_option linter.unusedVariables false
set_option maxRecDepth 100000
theorem own : ownKnob Try.prog.godebug = none := by kernel_rfl
theorem bulk {H : Type} : Bulk (H := H) Rows.uptoBulk Rows.uptoBulkAll :=
  ⟨fun b => by simp [Rows.uptoBulk], fun l => by cases l <;> simp [Rows.uptoBulk], by simp [Rows.uptoBulk], fun d => by simp [Rows.uptoBulk], fun a b => by simp [Rows.uptoBulk], fun a => by simp [Rows.uptoBulk],
    by simp [Rows.uptoBulkAll], fun d r => by simp [Rows.uptoBulkAll]⟩
theorem u36 : Try.prog.underlying 36 = some (.int .u64) := by kernel_rfl
theorem u2 : Try.prog.underlying 2 = some (.int .i64) := by kernel_rfl
theorem u9 : Try.prog.underlying 9 = some .string := by kernel_rfl
theorem u37 : Try.prog.underlying 37 = some (.float .f64) := by kernel_rfl
theorem u35 : Try.prog.underlying 35 = some (.slice 5) := by kernel_rfl
theorem u5 : Try.prog.underlying 5 = some (.int .u8) := by kernel_rfl
theorem bytes_of5 {n : Nat} : ∀ (rows : List (List PV)), (∀ r, r ∈ rows → r.length = Try.prog.cellsOf 5 ∧ HasT Try.prog n 5 r) → ∃ l : List Int, rows = l.map rowB ∧ (∀ x ∈ l, 0 ≤ x ∧ x < 256)
  | [], _ => ⟨[], rfl, by simp⟩
  | r :: rows, h => by
    obtain ⟨l, rfl, hl⟩ := bytes_of5 rows fun x hx => h x (by simp [hx])
    obtain ⟨_, h1⟩ := h r (by simp)
    cases n with
    | zero => exact h1.elim
    | succ n =>
      simp only [HasT, u5] at h1
      obtain ⟨i, rfl, hw⟩ := h1
      simp [Lit.wf, IntKind.min, IntKind.max, IntKind.signed, IntKind.bits] at hw
      refine ⟨i :: l, rfl, fun x hx => ?_⟩
      rcases List.mem_cons.1 hx with rfl | hx
      · omega
      · exact hl x hx
theorem spec (xs : List AV) (h : ArgsT Try.prog [36, 2, 9, 37, 35] xs 1048576) : ∃ N H', call (cfg Try.prog M K) N 8 xs [] = some (.ret (.pv (.bool true)), H') := by
  have a2 : aggT Try.prog 2 = false := by kernel_rfl
  have a9 : aggT Try.prog 9 = false := by kernel_rfl
  have a35 : aggT Try.prog 35 = false := by kernel_rfl
  have a36 : aggT Try.prog 36 = false := by kernel_rfl
  have a37 : aggT Try.prog 37 = false := by kernel_rfl
  match xs, h with
  | [x0, x1, x2, x3, x4], h =>
    obtain ⟨n0, q0, c0, h0, f0, _, n1, q1, c1, h1, f1, _, n2, q2, c2, h2, f2, _, n3, q3, c3, h3, f3, _, n4, q4, c4, h4, f4, _, _⟩ := h
    rw [a36, if_neg Bool.false_ne_true] at f0
    rw [a2, if_neg Bool.false_ne_true] at f1
    rw [a9, if_neg Bool.false_ne_true] at f2
    rw [a37, if_neg Bool.false_ne_true] at f3
    rw [a35, if_neg Bool.false_ne_true] at f4
    obtain ⟨p0, rfl, rfl⟩ := f0
    obtain ⟨p1, rfl, rfl⟩ := f1
    obtain ⟨p2, rfl, rfl⟩ := f2
    obtain ⟨p3, rfl, rfl⟩ := f3
    obtain ⟨p4, rfl, rfl⟩ := f4
    cases n0 with
    | zero => exact h0.elim
    | succ n0 =>
    cases n1 with
    | zero => exact h1.elim
    | succ n1 =>
    cases n2 with
    | zero => exact h2.elim
    | succ n2 =>
    cases n3 with
    | zero => exact h3.elim
    | succ n3 =>
    cases n4 with
    | zero => exact h4.elim
    | succ n4 =>
    simp only [HasT, u36] at h0
    simp only [HasT, u2] at h1
    simp only [HasT, u9] at h2
    simp only [HasT, u37] at h3
    simp only [HasT, u35] at h4
    obtain ⟨x0, e0, w0⟩ := h0
    simp only [List.cons.injEq, and_true] at e0
    subst e0
    simp [Lit.wf, IntKind.min, IntKind.max, IntKind.signed, IntKind.bits] at w0
    obtain ⟨x1, e1, w1⟩ := h1
    simp only [List.cons.injEq, and_true] at e1
    subst e1
    simp [Lit.wf, IntKind.min, IntKind.max, IntKind.signed, IntKind.bits] at w1
    obtain ⟨x2, e2, w2⟩ := h2
    simp only [List.cons.injEq, and_true] at e2
    subst e2
    obtain ⟨x3, e3, w3⟩ := h3
    simp only [List.cons.injEq, and_true] at e3
    subst e3
    simp [Lit.wf] at w3
    have s4 : ∃ l : List Int, SL p4 l ∧ (∀ x ∈ l, 0 ≤ x ∧ x < 256) := by
      rcases h4 with h4 | ⟨rows, h4, _, hr⟩
      · simp only [List.cons.injEq, and_true] at h4; exact ⟨[], .inr ⟨h4, rfl⟩, by simp⟩
      · simp only [List.cons.injEq, and_true] at h4
        obtain ⟨l, rfl, hl⟩ := bytes_of5 rows hr
        exact ⟨l, .inl h4, hl⟩
    obtain ⟨x4, s4, w4⟩ := s4
    refine ⟨61, [], ?_⟩
    have hu : x0 = ((x0.toNat : Nat) : Int) := by omega
    rw [hu]
    exact back (by omega) (by omega) (by omega) x2 (by omega) s4 w4

theorem contract (H : Type) (enc : TypeId × Value → H) (W : World) (base : Nat) (args : Array Value) (ds gs : List (DataW H)) (before : List MemPlace)
    (hval : ∀ (j : Nat) t v, Try.f8.params[j]? = some t → args[j]? = some v → Value.okWide Try.prog W .any base t v)
    (hW : DataW.Whole enc Try.prog Try.f8.params.toList Rows.codecBackSpec.vars false W args.toList ds gs before) (hk : Rows.uptoBulkAll ds ≤ 1048576) :
    Calls Try.prog 8 args W fun e W' => ∃ v, e = .returned v ∧ Rows.codecBackSpec.post enc Try.prog Try.f8 false true false false W args v W' :=
  law_contract (M := M) (K := K) (t0 := 4) (bound := 1048576) [36, 2, 9, 37, 35, 5] (by kernel_rfl) bulk (by kernel_rfl) (by kernel_rfl) rfl (by kernel_rfl) (by kernel_rfl) (by kernel_rfl) rfl
    (fun ds hds => by
      match ds, hds with
      | [d0, d1, d2, d3, d4], _ => rfl)
    spec W base args ds gs before hval hW hk

theorem lifted (os : Os) (started : os.Started) (H : Type) (enc : TypeId × Value → H) (F : Stop.Interp) :
    ReturnsInHanded {} Try.checked os 8 .any ((Rows.OpenSpec.upto Rows.codecBackSpec).pre6 enc Try.prog Try.f8 Rows.codecBackUptoRow.domain false) (((Rows.OpenSpec.upto Rows.codecBackSpec).at F).post enc Try.prog Try.f8 false true false false) := by
  refine returnsInHanded_of_cond (C := Try.checked) (s := Rows.OpenSpec.upto Rows.codecBackSpec) (k := Rows.uptoSmall) rfl own started (by kernel_rfl) Try.func8
    (OpenSpec.witness (enc := enc) (C := Try.checked) (s := Rows.OpenSpec.upto Rows.codecBackSpec) (k := Rows.uptoSmall) rfl false ⟨#[], #[.int .u64 0, .int .i64 0, .string ByteArray.empty, .float .f64 0, .slice none 0 0], []⟩ 8 (by kernel_rfl) (by kernel_rfl) (by kernel_rfl)
      (x := ([.lit (.int .u64 0), .lit (.int .i64 0), .lit (.string []), .lit (.float .f64 0), .nil], [], [])) (by kernel_rfl) rfl (by kernel_rfl)) ?_
  intro W base args ds gs before hval hW _ hk _
  have hb : Rows.uptoBulkAll ds ≤ 1048576 := by
    have h1 : gs = [] := by
      obtain ⟨p, q, hA, hV, _⟩ := hW
      exact (trodVars_none hV).1
    rw [h1, List.append_nil] at hk
    simpa [Rows.uptoSmall] using hk
  exact contract H enc W base args ds gs before hval hW hb

theorem over : Rows.codecBackUptoRow.holds Try.pinned (Rows.OpenSpec.upto Rows.codecBackSpec) :=
  OpenClaim.holds_of_cond 8 Try.f8 rfl rfl rfl rfl rfl rfl rfl ⟨rfl, rfl, rfl, rfl, rfl⟩ rfl rfl rfl rfl rfl (by kernel_rfl) Try.func8 (by kernel_rfl)
    (of_decide_eq_true (by kernel_rfl)) (by unfold Func.isWrapper; first | (rw [if_pos (by decide +kernel)]; kernel_rfl) | (rw [if_neg (by decide +kernel)]; exact ⟨rfl, rfl⟩))
    (fun os started H enc _ F => lifted os started H enc F)

theorem proved : Rows.CodecBackUptoSaid := over
end Go.Proofs.Ytknmgphnkfeifaa.codecBack
