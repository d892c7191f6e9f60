import Derived.Test.YtknmgphnkfeifaaQ06f
set_option linter.unusedVariables false
set_option linter.unusedSimpArgs false
namespace Go.Pl
open Go Go.Ab

theorem ckM_ok {b : Nat} {n c : Int} (hb : b ≤ 1000) (h0 : 0 ≤ n) (h1 : n ≤ c) (h2 : c ≤ 100000000) : ckM b n c = some () := by
  unfold ckM
  rw [if_pos ⟨h0, h1, by
    have : c * (b : Int) ≤ 100000000 * 1000 := Int.mul_le_mul h2 (by omega) (by omega) (by omega)
    omega, by omega⟩]
theorem sll_some {α : Type} (l : List α) : sll (some l) = l := rfl
abbrev zeroV : api_Value := api_Value.mk 0 0 0 ByteArray.empty
theorem vRight_zero : vRight zeroV = true := by decide +kernel
theorem rowRight_zeros {k : Nat} (hk : k ≤ 200) : rowRight (List.replicate k zeroV) = true := by
  unfold rowRight
  rw [Bool.and_eq_true]
  refine ⟨by simp; omega, ?_⟩
  rw [List.all_eq_true]
  intro x hx
  rw [List.eq_of_mem_replicate hx]
  exact vRight_zero
theorem fitsL_zeros : ∀ (k : Nat) (cs : List api_Column), fitsL (List.replicate k zeroV) cs = true
  | 0, cs => by cases cs <;> rfl
  | k + 1, [] => rfl
  | k + 1, c :: cs => by
    rw [List.replicate_succ]
    simp only [fitsL, fitsL_zeros k cs]
    rfl
theorem back_loop {n : Nat} {t : api_Table} (ht : W_api_Table t) (hn : 2000010 ≤ n) {K : Unit → Option Bool} : ∀ (l pre : List api_Column), sll t.fCols = pre ++ l → (∀ c ∈ l, nameOk c.fName = true) → dupN (pre.map (·.fName)) (l.map (·.fName)) = false →
    rangeS (fun (x : api_Column) i (_ : Unit) rec => (schema_Column n t x.fName).bind fun j => bif (j != (i : Int)) then some false else (schema_Name n x.fName).bind fun ok => bif (!ok) then some false else rec ()) K l pre.length () = K ()
  | [], pre, _, _, _ => rfl
  | x :: l, pre, he, hok, hd => by
    simp only [rangeS]
    have hx : x ∈ sll t.fCols := by rw [he]; simp
    rw [schema_Column_ok ht _ (by omega)]
    simp only [Option.bind_some]
    rw [he, first_at (by unfold colIs; exact sEq_self _)]
    simp only [List.map_cons, dupN, Bool.or_eq_false_iff] at hd
    have e : (pre.map (·.fName)).any (fun p => sEq p x.fName) = pre.any (colIs x.fName) := by
      rw [List.any_map]; rfl
    rw [← e, hd.1, cond_false, schema_Name_ok (ht.2.2 x hx).1 (by omega), Option.bind_some, hok x (by simp)]
    simp only [Bool.not_true, cond_false]
    have := back_loop ht hn (K := K) l (pre ++ [x]) (by rw [he]; simp) (fun c hc => hok c (by simp [hc])) (by rw [List.map_append]; exact hd.2)
    rw [List.length_append, List.length_singleton] at this
    exact this
theorem schemaBack_true {n : Nat} (h : n = 4000000) {t : api_Table} {tl : Option (List Int)} (ht : W_api_Table t) (hb : wSl (wI .u8) tl) : law06_SchemaBack n t tl = some true := by
  obtain ⟨n, rfl⟩ : ∃ k, n = k + 1 := ⟨n - 1, by omega⟩
  have hB := bytes_wSl hb
  unfold law06_SchemaBack
  rw [at1_succ, law06_works_ok (by omega)]
  simp only [Option.bind_some, Bool.not_true, cond_false]
  obtain ⟨g, hg⟩ := law06_great_ok ht (n := n) (by omega)
  rw [hg, Option.bind_some]
  cases hc : g || (decide (((sll tl).length : Int) > 2000)) with
  | true => rfl
  | false =>
    have hl : (sll tl).length ≤ 2000 := by
      simp only [Bool.or_eq_false_iff, decide_eq_false_iff_not] at hc
      omega
    rw [cond_false, schema_Right_ok ht (by omega), Option.bind_some]
    by_cases h0 : tabRight t = 0
    · obtain ⟨k1, k2, k3, k4, k5⟩ := tabRight_ok h0
      rw [h0]
      simp only [bne_self_eq_false, cond_false]
      have hp : (putTab t).length ≤ 20000000 := by
        have h1 := ht.1
        unfold wS at h1
        have h3 := putT_length (s := t.fName) (by omega)
        have h4 := ubytes_length (sll t.fCols).length 9 (by omega)
        have h5 := putCols_length (sll t.fCols) (fun c hc => (ht.2.2 c hc).1)
        have : (sll t.fCols).length * 1048600 ≤ 8 * 1048600 := Nat.mul_le_mul k3 (Nat.le_refl _)
        unfold putTab
        rw [List.length_append, List.length_append]
        omega
      have hread : ∀ x, codec_Read n x = some () := by
        intro x
        obtain ⟨m, rfl⟩ : ∃ k, n = k + 1 := ⟨n - 1, by omega⟩
        rfl
      have hpB : Bytes (putTab t ++ sll tl) := by
        intro x hx
        rcases List.mem_append.1 hx with hx | hx
        · unfold putTab putT at hx
          rcases List.mem_append.1 hx with hx | hx
          · rcases List.mem_append.1 hx with hx | hx
            · exact bytes_ubytes _ x hx
            · exact bytesL_range _ x hx
          · rcases List.mem_append.1 hx with hx | hx
            · exact bytes_ubytes _ x hx
            · obtain ⟨c, hc, hx⟩ := List.mem_flatMap.1 hx
              unfold putCol putT at hx
              rcases List.mem_append.1 hx with hx | hx
              · rcases List.mem_append.1 hx with hx | hx
                · exact bytes_ubytes _ x hx
                · exact bytesL_range _ x hx
              · have := k4 c hc
                rw [wrapY (by omega) (by omega)] at hx
                simp only [List.mem_singleton] at hx
                omega
        · exact hB x hx
      obtain ⟨b', e', nm, cols, err, a1, a2⟩ := schema_Take_ok (b := some (putTab t ++ sll tl)) hpB (n := n) (by omega)
      rw [show sll (some (putTab t ++ sll tl)) = putTab t ++ sll tl from rfl, rdTab_put h0] at a2
      unfold TabR at a2
      simp only at a2
      rw [if_pos (by rw [show tabRight ⟨t.fName, some (sll t.fCols)⟩ = tabRight t from tabRight_sll rfl]; exact h0)] at a2
      obtain ⟨q1, rfl, rfl, q2, rfl⟩ := a2
      have hy : ∀ (Z : Option (List Int) → Option Bool), withK (fun k13 => (schema_Put_nil n (api_Table.mk t.fName t.fCols)).bind fun x88 => bif (sll tl).isEmpty then (ckA 1 x88.length).bind fun _ => (codec_Read n (some x88)).bind fun _ => k13 (some x88) else (ckA 1 (x88 ++ (sll tl)).length).bind fun _ => (codec_Read n (some (x88 ++ (sll tl)))).bind fun _ => k13 (some (x88 ++ (sll tl)))) Z = Z (some (putTab t ++ sll tl)) := by
        intro Z
        unfold withK
        rw [show schema_Put_nil n (api_Table.mk t.fName t.fCols) = _ from schema_Put_nil_ok ht (by omega) (by omega) (by omega)]
        simp only [Option.bind_some]
        cases he : (sll tl).isEmpty with
        | true =>
          have : sll tl = [] := by simpa using he
          rw [cond_true, ckA_ok (by decide) (by omega), Option.bind_some, hread, Option.bind_some, this, List.append_nil]
        | false => rw [cond_false, ckA_ok (by decide) (by rw [List.length_append]; omega), Option.bind_some, hread, Option.bind_some]
      rw [hy]
      simp only [withK]
      rw [a1]
      simp only [Option.bind_some]
      have hsame : schema_Same n (api_Table.mk t.fName cols) t = some true := schema_Same_self (a := api_Table.mk t.fName cols) (b := t) rfl q2 (by show (sll cols).length ≤ _; rw [q2]; omega) (by omega)
      have hF1 : ∀ z, z = (List.replicate (Int.toNat ((sll t.fCols).length : Int)) (api_Value.mk 0 0 0 ByteArray.empty)) → schema_Fits n t (some z) = some true := by
        rintro z rfl
        rw [schema_Fits_ok ht (by simp [sll_some]; omega) (by omega)]
        unfold tabFits
        simp only [sll_some, Int.toNat_natCast]
        rw [rowRight_zeros (by omega), fitsL_zeros]
        simp [sll_some]
      have hF2 : ∀ z, z = (List.replicate (Int.toNat (IntKind.wrap .i64 (((sll t.fCols).length : Int) + 1))) (api_Value.mk 0 0 0 ByteArray.empty)) → schema_Fits n t (some z) = some false := by
        rintro z rfl
        rw [schema_Fits_ok ht (by rw [wrapN (by omega)]; simp [sll_some]; omega) (by omega)]
        unfold tabFits
        have : (((sll (some (List.replicate (Int.toNat (IntKind.wrap .i64 (((sll t.fCols).length : Int) + 1))) (api_Value.mk 0 0 0 ByteArray.empty)))).length : Int) == ((sll t.fCols).length : Int)) = false := by
          rw [wrapN (by omega)]
          simp [sll_some]
          omega
        rw [this]
        rfl
      have hW : ∀ (K : Unit → Option Bool), law06_SchemaBack_l10 n t K n 0 = K () := by
        intro K
        rw [show law06_SchemaBack_l10 n t K n 0 = _ from loop_sl (F := fun m (_ : Unit) i => law06_SchemaBack_l10 n t K m i) ht.2.1 (B := fun x i (_ : Unit) rec => (schema_Column n t x.fName).bind fun j => bif (j != (i : Int)) then some false else (schema_Name n x.fName).bind fun ok => bif (!ok) then some false else rec ()) (k := K) (fun m i s => rfl) (by omega) ()]
        exact back_loop ht (by omega) (sll t.fCols) [] rfl (fun c hc => (k4 c hc).1) k5
      have hWx : ∀ (K : Unit → Option Bool), law06_SchemaBack_l10x n t K n 0 = K () := by
        intro K
        rw [show law06_SchemaBack_l10x n t K n 0 = _ from loop_sl (F := fun m (_ : Unit) i => law06_SchemaBack_l10x n t K m i) ht.2.1 (B := fun x i (_ : Unit) rec => (schema_Column n t x.fName).bind fun j => bif (j != (i : Int)) then some false else (schema_Name n x.fName).bind fun ok => bif (!ok) then some false else rec ()) (k := K) (fun m i s => rfl) (by omega) ()]
        exact back_loop ht (by omega) (sll t.fCols) [] rfl (fun c hc => (k4 c hc).1) k5
      cases cols with
      | none =>
        simp only [bne_self_eq_false, cond_false]
        rw [hsame]
        simp only [Option.bind_some, Bool.not_true, cond_false]
        rw [left_ok (by omega), Option.bind_some, q1]
        simp only [bne_self_eq_false, cond_false]
        rw [hW, ckM_ok (by decide) (by omega) (by omega) (by omega), Option.bind_some, show schema_Fits n t _ = _ from hF1 _ rfl, Option.bind_some, cond_true, ckM_ok (by decide) (by rw [wrapN (by omega)]; omega) (by omega) (by rw [wrapN (by omega)]; omega), Option.bind_some, show schema_Fits n (api_Table.mk t.fName t.fCols) _ = _ from hF2 _ rfl]
        rfl
      | some c =>
        simp only [bne_self_eq_false, cond_false]
        rw [hsame]
        simp only [Option.bind_some, Bool.not_true, cond_false]
        rw [left_ok (by omega), Option.bind_some, q1]
        simp only [bne_self_eq_false, cond_false]
        rw [hWx, ckM_ok (by decide) (by omega) (by omega) (by omega), Option.bind_some, show schema_Fits n t _ = _ from hF1 _ rfl, Option.bind_some, cond_true, ckM_ok (by decide) (by rw [wrapN (by omega)]; omega) (by omega) (by rw [wrapN (by omega)]; omega), Option.bind_some, show schema_Fits n t _ = _ from hF2 _ rfl]
        rfl
    · rw [show (tabRight t != 0) = true by simpa using h0, cond_true]
end Go.Pl
