import Derived.Test.YtmdjdpnmbgdngaaR5f
set_option linter.unusedVariables false
set_option linter.unusedSimpArgs false
namespace Go.Pl
open Go Go.Ab

/-! ### A row, put -/
def putVs (l : List api_Value) : List Int := l.flatMap fun v => putV (vP v)
theorem putVs_length : ∀ (l : List api_Value), (∀ v, v ∈ l → W_api_Value v ∧ vRight v = true) → (putVs l).length ≤ 80 * l.length
  | [], _ => by simp [putVs]
  | v :: l, h => by
    have h1 := putV_length (can_vP (h v (by simp)).1 (h v (by simp)).2)
    have h2 := putVs_length l fun w hw => h w (by simp [hw])
    unfold putVs at h2 ⊢
    rw [List.flatMap_cons, List.length_append, List.length_cons]
    omega
theorem put_range {n : Nat} (hn : 23 ≤ n) (hn2 : n < 100000000) : ∀ (l : List api_Value) (i : Nat) (s : List Int), (∀ v, v ∈ l → W_api_Value v ∧ vRight v = true) → s.length + 80 * l.length < 700000000 →
    rangeS (fun (v : api_Value) i (s : List Int) rec => (value_Put_r n s v).bind rec) (fun y3 => some y3) l i s = some (s ++ putVs l)
  | [], i, s, _, _ => by simp [rangeS, putVs]
  | v :: l, i, s, h, hl => by
    rw [List.length_cons] at hl
    have h1 := putV_length (can_vP (h v (by simp)).1 (h v (by simp)).2)
    simp only [rangeS]
    rw [value_Put_r_ok (h v (by simp)).1 (h v (by simp)).2 (by omega) hn hn2, Option.bind_some]
    rw [put_range hn hn2 l (i + 1) _ (fun w hw => h w (by simp [hw])) (by rw [List.length_append]; omega)]
    simp [putVs]
theorem row_Put_ok {a : Option (List api_Value)} (ha : wSl W_api_Value a) (hr : rowRight (sll a) = true) {n : Nat} (h : 2000030 ≤ n) (hn : n < 100000000) : row_Put_nil n a = some (ubytes (sll a).length ++ putVs (sll a)) := by
  obtain ⟨n, rfl⟩ : ∃ k, n = k + 1 := ⟨n - 1, by omega⟩
  unfold rowRight at hr
  rw [Bool.and_eq_true, decide_eq_true_eq, List.all_eq_true] at hr
  have hl : (sll a).length ≤ 200 := by omega
  unfold row_Put_nil
  rw [at1_succ, wrapU (by omega) (by omega), putUint_nil_ok (by omega) (by omega) (by omega), Option.bind_some]
  simp only [withK]
  rw [show row_Put_nil_l3 n a (fun y3 => some y3) n (ubytes (sll a).length) 0 = _ from loop_sl (F := fun m s i => row_Put_nil_l3 n a (fun y3 => some y3) m s i) ha.1 (B := fun (v : api_Value) i (s : List Int) rec => (value_Put_r n s v).bind rec) (fun m i s => rfl) (by omega) _]
  have := ubytes_length (sll a).length 9 (by omega)
  exact put_range (by omega) (by omega) _ _ _ (fun v hv => ⟨ha.2 v hv, hr.2 v hv⟩) (by omega)
/-! ### and taken -/
def oapp (acc : Option (List api_Value)) : List api_Value → Option (List api_Value)
  | [] => acc
  | p :: r => oapp (some (sll acc ++ [p])) r
theorem sll_oapp : ∀ (ps : List api_Value) (acc : Option (List api_Value)), sll (oapp acc ps) = sll acc ++ ps
  | [], acc => by simp [oapp]
  | p :: r, acc => by
    rw [oapp, sll_oapp r]
    show (sll acc ++ [p]) ++ r = _
    simp
theorem take_loop {n : Nat} (hn : 2000020 ≤ n) {K : Bool → Option (List Int) → Int → Option (List api_Value) → Option (Bool × (Option (List Int)) × Int × (Option (List api_Value)) × Int)} {N : Nat} (hN : N ≤ 200) {rest : List Int} : ∀ (ps : List api_Value) (m i : Nat) (b : Option (List Int)) (acc : Option (List api_Value)),
    i + ps.length = N → (∀ p, p ∈ ps → CanV p) → Bytes (sll b) → sll b = ps.flatMap putV ++ rest → (sll acc).length ≤ i → ∃ b', sll b' = rest ∧ row_Take_l7 n (N : Int) K (m + ps.length + 1) true b 0 (i : Int) acc = K true b' 0 (oapp acc ps)
  | [], m, i, b, acc, hi, hp, hb, hs, ha => by
    rw [List.length_nil] at hi
    refine ⟨b, by simpa using hs, ?_⟩
    cases acc <;> rw [row_Take_l7, show decide ((i : Int) < (N : Int)) = false by simp; omega, cond_false] <;> rfl
  | p :: ps, m, i, b, acc, hi, hp, hb, hs, ha => by
    rw [List.length_cons] at hi
    rw [List.flatMap_cons, List.append_assoc] at hs
    obtain ⟨b1, h1, h2⟩ := value_Take_ok (hp p (by simp)) hb hs hn
    have hb1 : Bytes (sll b1) := fun x hx => hb x (by rw [hs, ← h2]; exact List.mem_append_right _ hx)
    obtain ⟨b', h3, h4⟩ := take_loop hn (K := K) hN ps m (i + 1) b1 (some (sll acc ++ [p])) (by omega) (fun q hq => hp q (by simp [hq])) hb1 h2 (by show (sll acc ++ [p]).length ≤ _; simp; omega)
    refine ⟨b', h3, ?_⟩
    rw [oapp, ← h4, List.length_cons, show m + (ps.length + 1) + 1 = (m + ps.length + 1) + 1 by omega]
    cases acc with
    | none =>
      rw [row_Take_l7, decide_eq_true (by omega : (i : Int) < (N : Int)), cond_true, h1, Option.bind_some]
      simp only
      rw [show ((0 : Int) != 0) = false by decide, cond_false, ckA_ok (by decide) (by simp), Option.bind_some, wrapU (by omega) (by omega)]
      rfl
    | some l =>
      have hl : l.length ≤ i := ha
      rw [row_Take_l7, decide_eq_true (by omega : (i : Int) < (N : Int)), cond_true, h1, Option.bind_some]
      simp only
      rw [show ((0 : Int) != 0) = false by decide, cond_false, ckA_ok (by decide) (by simp; omega), Option.bind_some, wrapU (by omega) (by omega)]
      rfl
theorem row_Take_ok {b : Option (List Int)} {ps : List api_Value} {rest : List Int} (hp : ∀ p, p ∈ ps → CanV p) (hl : ps.length ≤ 200) (hb : Bytes (sll b)) (hs : sll b = ubytes ps.length ++ (ps.flatMap putV ++ rest)) {n : Nat} (h : 2000030 ≤ n) : ∃ b', sll b' = rest ∧ row_Take n ⟨true, b, 0⟩ = some (true, b', 0, oapp none ps, 0) := by
  obtain ⟨n, rfl⟩ : ∃ k, n = k + 1 := ⟨n - 1, by omega⟩
  unfold row_Take
  rw [at1_succ]
  obtain ⟨b1, e1, v1, h1, h2⟩ := uint_ok (most := 200) hb (by omega : 13 ≤ n)
  rw [hs, rdU_put (by omega)] at h2
  unfold UintR at h2
  simp only at h2
  rw [if_pos (by omega)] at h2
  obtain ⟨g1, rfl, rfl⟩ := h2
  have hb1 : Bytes (sll b1) := fun x hx => hb x (by rw [hs, ← g1]; exact List.mem_append_right _ hx)
  rw [h1, Option.bind_some]
  simp only
  rw [err_ok (by omega), Option.bind_some, show ((0 : Int) != 0) = false by decide, cond_false]
  unfold withK
  obtain ⟨m, rfl⟩ : ∃ m, n = m + ps.length + 1 := ⟨n - ps.length - 1, by omega⟩
  obtain ⟨b', h3, h4⟩ := take_loop (n := m + ps.length + 1) (by omega) (K := fun | y9, y10, y11, none => some (y9, y10, y11, none, 0) | y9, y10, y11, (some y14) => some (y9, y10, y11, (some y14), 0)) hl ps m 0 b1 none (by omega) hp hb1 g1 (by show 0 ≤ 0; omega)
  refine ⟨b', h3, ?_⟩
  have h5 : row_Take_l7 (m + ps.length + 1) (ps.length : Int) (fun | y9, y10, y11, none => some (y9, y10, y11, none, 0) | y9, y10, y11, (some y14) => some (y9, y10, y11, (some y14), 0)) (m + ps.length + 1) true b1 0 0 none = some (true, b', 0, oapp none ps, 0) := by
    refine Eq.trans h4 ?_
    cases oapp none ps <;> rfl
  exact h5
/-! ### As it was -/
theorem fC_self (x : Nat) : fC x x = 0 := by
  cases h : isNan x with
  | true => rw [fC_nan h, h]; rfl
  | false =>
    have e : FloatKind.f64.format.order x x = some .eq := by
      unfold isNan at h
      simpa using h
    unfold fC fLt fGt
    rw [h, e]; rfl
theorem bytesLess_self : ∀ (l : List UInt8), Op.bytesLess l l = false
  | [] => rfl
  | a :: l => by
    have h : ¬ (a < a) := by
      intro h
      exact absurd (UInt8.lt_iff_toNat_lt.1 h) (by omega)
    simp [Op.bytesLess, bytesLess_self l, h]
theorem sC_self (x : ByteArray) : sC x x = 0 := by
  unfold sC sLt
  rw [bytesLess_self, sEq_self]; rfl
theorem iC_self (x : Int) : iC x x = 0 := by
  unfold iC
  rw [if_neg (by omega), if_neg (by omega)]
theorem vC_self (p : api_Value) : vC p p = 0 := by
  unfold vC
  rw [if_neg (by simp), fC_self, sC_self, iC_self]
  simp
theorem vCmp_vP {v : api_Value} (hw : W_api_Value v) (h : vRight v = true) : vCmp (vP v) v = 0 := by
  cases hk : v.fKind == 3 with
  | false => rw [vP_other h hk]; exact vC_self _
  | true =>
    rcases right_cases hw h with rfl | ⟨i, hi, rfl⟩ | ⟨i, hi, rfl⟩ | ⟨f, hf, rfl⟩ | ⟨t, ht, rfl⟩
    · cases hk
    · cases hk
    · cases hk
    · rw [vP_float hf]
      unfold bitsF
      cases hn : isNan f with
      | true =>
        rw [cond_true]
        have e : vPlain ⟨3, 0, 9221120237041090561, E0⟩ = ⟨3, 0, 9221120237041090561, E0⟩ := by
          unfold vPlain
          rw [vRight3]
          show (bif isZero 9221120237041090561 then _ else _) = _
          rw [show isZero 9221120237041090561 = false by decide +kernel]; rfl
        have e2 : vPlain ⟨3, 0, f, E0⟩ = ⟨3, 0, f, E0⟩ := by
          unfold vPlain
          rw [vRight3]
          show (bif isZero f then _ else _) = _
          rw [nan_not_zero hf hn]; rfl
        unfold vCmp
        rw [e, e2]
        show fC 9221120237041090561 f = 0
        rw [fC_nan (by decide +kernel), hn]; rfl
      | false =>
        cases hz : isZero f with
        | true =>
          have e2 : vPlain ⟨3, 0, f, E0⟩ = ⟨3, 0, 0, E0⟩ := by
            unfold vPlain
            rw [vRight3]
            show (bif isZero f then _ else _) = _
            rw [hz]; rfl
          have e : vPlain ⟨3, 0, 0, E0⟩ = ⟨3, 0, 0, E0⟩ := by
            unfold vPlain
            rw [vRight3]
            show (bif isZero 0 then (⟨3, 0, 0, E0⟩ : api_Value) else ⟨3, 0, 0, E0⟩) = _
            rw [show isZero 0 = true by decide +kernel]; rfl
          show vC (vPlain ⟨3, 0, 0, E0⟩) (vPlain ⟨3, 0, f, E0⟩) = 0
          rw [e, e2]
          exact vC_self _
        | false => exact vC_self _
    · cases hk
theorem lexC_zero : ∀ (l : List api_Value), (∀ v, v ∈ l → W_api_Value v ∧ vRight v = true) → lexC vCmp (l.map vP) l = 0
  | [], _ => rfl
  | v :: l, h => by
    simp only [List.map_cons, lexC]
    rw [vCmp_vP (h v (by simp)).1 (h v (by simp)).2, lexC_zero l fun w hw => h w (by simp [hw])]
    rfl
theorem can_W {p : api_Value} (h : CanV p) : W_api_Value p := by
  have i0 : wI .i64 0 := ⟨by decide, by decide⟩
  have f0 : wF .f64 0 := W_zeroV.2.2.1
  have s0 : wS E0 := W_zeroV.2.2.2
  have i1 : wI .i64 1 := ⟨by decide, by decide⟩
  have i2 : wI .i64 2 := ⟨by decide, by decide⟩
  have i3 : wI .i64 3 := ⟨by decide, by decide⟩
  have i4 : wI .i64 4 := ⟨by decide, by decide⟩
  rcases h with rfl | ⟨i, hi, rfl⟩ | ⟨i, hi, rfl⟩ | ⟨f, hf, hb, rfl⟩ | ⟨t, ht, rfl⟩
  · exact ⟨i0, i0, f0, s0⟩
  · exact ⟨i1, by rcases hi with rfl | rfl; exact i0; exact i1, f0, s0⟩
  · exact ⟨i2, hi, f0, s0⟩
  · exact ⟨i3, i0, by show (Lit.float .f64 f).wf = true; simp [Lit.wf]; omega, s0⟩
  · exact ⟨i4, i0, f0, by show t.size ≤ 1048576; omega⟩
theorem bytes_wSl {s : Option (List Int)} (h : wSl (wI .u8) s) : Bytes (sll s) := by
  intro x hx
  have := h.2 x hx
  simp only [wI, IntKind.min, IntKind.max, IntKind.signed, IntKind.bits] at this
  simp at this
  omega
theorem works_ok : law05_works 3999999 = some true := rfl
theorem RowBack_true {n : Nat} (h : n = 4000000) {a : Option (List api_Value)} {tl : Option (List Int)} (ha : wSl W_api_Value a) (ht : wSl (wI .u8) tl) : law05_RowBack n a tl = some true := by
  subst h
  rw [show (4000000 : Nat) = 3999999 + 1 from rfl]
  unfold law05_RowBack
  rw [at1_succ, works_ok, Option.bind_some]
  obtain ⟨g, hg⟩ := great_some (a := some [a]) ⟨(show 1 ≤ 1048576 by decide), by
    intro x hx
    have hx : x ∈ [a] := hx
    rw [List.mem_singleton] at hx
    rw [hx]; exact ha⟩ (n := 3999999) (by decide)
  simp only [Bool.not_true, cond_false]
  rw [hg, Option.bind_some]
  cases hq : (g || decide (((sll tl).length : Int) > 2000)) with
  | true => rfl
  | false =>
    rw [cond_false, row_Right_ok ha.1 (by decide), Option.bind_some]
    cases hr : rowRight (sll a) with
    | false => rfl
    | true =>
      have hr' := hr
      unfold rowRight at hr'
      rw [Bool.and_eq_true, decide_eq_true_eq, List.all_eq_true] at hr'
      have hlen : (sll a).length ≤ 200 := by omega
      have hall : ∀ v, v ∈ sll a → W_api_Value v ∧ vRight v = true := fun v hv => ⟨ha.2 v hv, hr'.2 v hv⟩
      simp only [Bool.not_true, cond_false]
      rw [row_Put_ok ha hr (by decide) (by decide)]
      simp only [Option.bind_some, withK]
      have hB := bytes_wSl ht
      have htl := ht.1
      have hpl := putVs_length _ hall
      have hul := ubytes_length (sll a).length 9 (by omega)
      have key : ∀ (y : Option (List Int)), sll y = (ubytes (sll a).length ++ putVs (sll a)) ++ sll tl → ∃ b' s, sll b' = sll tl ∧ sll s = (sll a).map vP ∧ row_Take 3999999 (codec_Reader.mk true y 0) = some (true, b', 0, s, 0) := by
        intro y hy
        have e : putVs (sll a) = ((sll a).map vP).flatMap putV := by unfold putVs; rw [List.flatMap_map]
        obtain ⟨b', h1, h2⟩ := row_Take_ok (b := y) (ps := (sll a).map vP) (rest := sll tl) (by
          intro p hp
          obtain ⟨v, hv, rfl⟩ := List.mem_map.1 hp
          exact can_vP (hall v hv).1 (hall v hv).2) (by rw [List.length_map]; omega) (by
          rw [hy]
          refine Bytes.app (Bytes.app (bytes_ubytes _) ?_) hB
          intro x hx
          unfold putVs at hx
          obtain ⟨v, hv, hx⟩ := List.mem_flatMap.1 hx
          exact putV_bytes (can_vP (hall v hv).1 (hall v hv).2) x hx) (by rw [hy, List.length_map, e, List.append_assoc]) (n := 3999999) (by decide)
        exact ⟨b', _, h1, by rw [sll_oapp]; rfl, h2⟩
      have hcmp : ∀ (s : Option (List api_Value)), sll s = (sll a).map vP → row_Cmp 3999999 s a = some 0 ∧ row_Right 3999999 s = some true := by
        intro s hs
        have hls : (sll s).length = (sll a).length := by rw [hs, List.length_map]
        have hW : wSl W_api_Value s := ⟨by rw [hls]; exact ha.1, by
          intro x hx
          rw [hs] at hx
          obtain ⟨v, hv, rfl⟩ := List.mem_map.1 hx
          exact can_W (can_vP (hall v hv).1 (hall v hv).2)⟩
        constructor
        · rw [row_Cmp_ok hW ha (by decide), hs, rCmp, lexC_zero _ hall]
        · rw [row_Right_ok hW.1 (by decide)]
          congr 1
          unfold rowRight
          rw [Bool.and_eq_true, decide_eq_true_eq, List.all_eq_true]
          refine ⟨by rw [hls]; omega, ?_⟩
          intro x hx
          rw [hs] at hx
          obtain ⟨v, hv, rfl⟩ := List.mem_map.1 hx
          exact can_right (can_vP (hall v hv).1 (hall v hv).2)
      have read : ∀ (y : Option (List Int)), codec_Read 3999999 y = some () := fun _ => rfl
      have fin : ∀ (y : Option (List Int)) (s : Option (List api_Value)) (b' : Option (List Int)), sll b' = sll tl → codec_Reader_Left 3999999 (codec_Reader.mk true b' 0) = some ((sll tl).length : Int) := by
        intro y s b' hb'
        rw [left_ok (by decide), hb']
      cases hem : (sll tl).isEmpty with
      | true =>
        rw [cond_true, ckA_ok (by decide) (by rw [List.length_append]; omega)]
        simp only [Option.bind_some, read]
        obtain ⟨b', s, h1, h2, h3⟩ := key (some (ubytes (sll a).length ++ putVs (sll a))) (by
          rw [List.isEmpty_iff] at hem
          rw [hem]; show _ = _ ++ []; rw [List.append_nil]; rfl)
        rw [h3, Option.bind_some]
        obtain ⟨c1, c2⟩ := hcmp s h2
        have c3 := fin none s b' h1
        have hls : (sll s).length = (sll a).length := by rw [h2, List.length_map]
        cases s with
        | none =>
          have hla : (sll a).length = 0 := hls.symm
          simp only [c1, c2, c3, Option.bind_some, hla, cond_true]
          simp
        | some l =>
          have hla : l.length = (sll a).length := hls
          simp only [c1, c2, c3, Option.bind_some, hla, beq_self_eq_true, Bool.and_self, cond_true]
      | false =>
        rw [cond_false, ckA_ok (by decide) (by rw [List.length_append, List.length_append]; omega)]
        simp only [Option.bind_some, read]
        obtain ⟨b', s, h1, h2, h3⟩ := key (some ((ubytes (sll a).length ++ putVs (sll a)) ++ sll tl)) rfl
        rw [h3, Option.bind_some]
        obtain ⟨c1, c2⟩ := hcmp s h2
        have c3 := fin none s b' h1
        have hls : (sll s).length = (sll a).length := by rw [h2, List.length_map]
        cases s with
        | none =>
          have hla : (sll a).length = 0 := hls.symm
          simp only [c1, c2, c3, Option.bind_some, hla, cond_true]
          simp
        | some l =>
          have hla : l.length = (sll a).length := hls
          simp only [c1, c2, c3, Option.bind_some, hla, beq_self_eq_true, Bool.and_self, cond_true]
end Go.Pl
