import Derived.Test.YtmdjdpnmbgdngaaR5e
set_option linter.unusedVariables false
set_option linter.unusedSimpArgs false
namespace Go.Pl
open Go Go.Ab

/-! ### Values in their one form -/
abbrev E0 : ByteArray := ByteArray.empty
def vP (v : api_Value) : api_Value := vNan (vPlain v)
/-- What may be. -/
def RightV (p : api_Value) : Prop := p = ⟨0, 0, 0, E0⟩ ∨ (∃ i, (i = 0 ∨ i = 1) ∧ p = ⟨1, i, 0, E0⟩) ∨ (∃ i, wI .i64 i ∧ p = ⟨2, i, 0, E0⟩) ∨ (∃ f, f < 2 ^ 64 ∧ p = ⟨3, 0, f, E0⟩) ∨ (∃ t, t.size ≤ 64 ∧ p = ⟨4, 0, 0, t⟩)
def CanV (p : api_Value) : Prop := p = ⟨0, 0, 0, E0⟩ ∨ (∃ i, (i = 0 ∨ i = 1) ∧ p = ⟨1, i, 0, E0⟩) ∨ (∃ i, wI .i64 i ∧ p = ⟨2, i, 0, E0⟩) ∨ (∃ f, f < 2 ^ 64 ∧ bitsF f = f ∧ p = ⟨3, 0, f, E0⟩) ∨ (∃ t, t.size ≤ 64 ∧ p = ⟨4, 0, 0, t⟩)
theorem posZ_zero {f : Nat} (hf : wF .f64 f) (h : posZ f = true) : f = 0 := by
  unfold posZ at h
  rw [Bool.and_eq_true] at h
  rcases isZero_cases (wF_lt hf) h.1 with h1 | h1
  · exact h1
  · subst h1
    have h2 := h.2
    rw [signb_eq (by decide)] at h2
    simp at h2
theorem right_cases {v : api_Value} (hw : W_api_Value v) (h : vRight v = true) : RightV v := by
  obtain ⟨k, i, f, t⟩ := v
  obtain ⟨w1, w2, w3, w4⟩ := hw
  simp only at w1 w2 w3 w4
  unfold vRight at h
  simp only at h
  split at h
  · subst k
    rw [Bool.and_eq_true, Bool.and_eq_true, beq_iff_eq] at h
    obtain ⟨h1, h2, h3⟩ := h
    exact .inl (by rw [h1, posZ_zero w3 h2, sEq_iff.1 h3])
  split at h
  · subst k
    rw [Bool.and_eq_true, Bool.and_eq_true, Bool.or_eq_true, beq_iff_eq, beq_iff_eq] at h
    obtain ⟨h1, h2, h3⟩ := h
    exact .inr (.inl ⟨i, h1, by rw [posZ_zero w3 h2, sEq_iff.1 h3]⟩)
  split at h
  · subst k
    rw [Bool.and_eq_true] at h
    obtain ⟨h2, h3⟩ := h
    exact .inr (.inr (.inl ⟨i, w2, by rw [posZ_zero w3 h2, sEq_iff.1 h3]⟩))
  split at h
  · subst k
    rw [Bool.and_eq_true, beq_iff_eq] at h
    obtain ⟨h1, h3⟩ := h
    exact .inr (.inr (.inr (.inl ⟨f, wF_lt w3, by rw [h1, sEq_iff.1 h3]⟩)))
  split at h
  · subst k
    rw [Bool.and_eq_true, Bool.and_eq_true, beq_iff_eq, decide_eq_true_eq] at h
    obtain ⟨h1, h2, h3⟩ := h
    exact .inr (.inr (.inr (.inr ⟨t, by omega, by rw [h1, posZ_zero w3 h2]⟩)))
  · cases h
theorem bitsF_bitsF (f : Nat) : bitsF (bitsF f) = bitsF f := by
  unfold bitsF
  cases h1 : isNan f
  · cases h2 : isZero f
    · simp only [cond_false]; rw [h1, h2]; rfl
    · exact (show bitsF 0 = 0 by decide +kernel)
  · exact (show bitsF 9221120237041090561 = 9221120237041090561 by decide +kernel)
theorem bitsF_lt {f : Nat} (h : f < 2 ^ 64) : bitsF f < 2 ^ 64 := by
  unfold bitsF
  cases isNan f <;> cases isZero f <;> simp <;> omega
theorem vRight3 (f : Nat) : vRight ⟨3, 0, f, E0⟩ = true := by
  show ((0 : Int) == 0 && empS E0) = true
  rw [show empS E0 = true from sEq_self E0]; rfl
theorem vP_float {f : Nat} (hf : f < 2 ^ 64) : vP ⟨3, 0, f, E0⟩ = ⟨3, 0, bitsF f, E0⟩ := by
  unfold vP vPlain
  rw [vRight3]
  simp only [Bool.not_true, cond_false, beq_self_eq_true, Bool.true_and]
  unfold bitsF
  cases hn : isNan f with
  | true =>
    rw [nan_not_zero hf hn]
    show vNan ⟨3, 0, f, E0⟩ = _
    unfold vNan fNan
    rw [hn]; rfl
  | false =>
    cases hz : isZero f with
    | true =>
      show vNan ⟨3, 0, 0, E0⟩ = ⟨3, 0, 0, E0⟩
      unfold vNan fNan
      rw [show isNan 0 = false by decide]; rfl
    | false =>
      show vNan ⟨3, 0, f, E0⟩ = ⟨3, 0, f, E0⟩
      unfold vNan fNan
      rw [hn]; rfl
theorem vP_other {v : api_Value} (h : vRight v = true) (hk : (v.fKind == 3) = false) : vP v = v := by
  unfold vP vPlain vNan
  rw [h, hk]
  simp only [Bool.not_true, cond_false, Bool.false_and]
  rw [hk]; rfl
theorem can_vP {v : api_Value} (hw : W_api_Value v) (h : vRight v = true) : CanV (vP v) := by
  rcases right_cases hw h with rfl | ⟨i, hi, rfl⟩ | ⟨i, hi, rfl⟩ | ⟨f, hf, rfl⟩ | ⟨t, ht, rfl⟩
  · rw [vP_other h rfl]; exact .inl rfl
  · rw [vP_other h rfl]; exact .inr (.inl ⟨i, hi, rfl⟩)
  · rw [vP_other h rfl]; exact .inr (.inr (.inl ⟨i, hi, rfl⟩))
  · rw [vP_float hf]; exact .inr (.inr (.inr (.inl ⟨_, bitsF_lt hf, bitsF_bitsF f, rfl⟩)))
  · rw [vP_other h rfl]; exact .inr (.inr (.inr (.inr ⟨t, ht, rfl⟩)))
theorem can_right {p : api_Value} (h : CanV p) : vRight p = true := by
  have e : posZ 0 = true := by decide +kernel
  have e2 : empS E0 = true := sEq_self E0
  rcases h with rfl | ⟨i, hi, rfl⟩ | ⟨i, hi, rfl⟩ | ⟨f, hf, hb, rfl⟩ | ⟨t, ht, rfl⟩
  · decide +kernel
  · rcases hi with rfl | rfl <;> decide +kernel
  · show (posZ 0 && empS E0) = true; rw [e, e2]; rfl
  · exact vRight3 f
  · show ((0 : Int) == 0 && (posZ 0 && decide ((t.size : Int) ≤ 64))) = true
    rw [e]; simp; omega
/-! ### Put -/
def putV (p : api_Value) : List Int := p.fKind :: (if p.fKind = 1 then [p.fInt] else if p.fKind = 2 then ubytes (zig p.fInt) else if p.fKind = 3 then be p.fFloat 8 else if p.fKind = 4 then putT p.fText else [])
theorem putV_length {p : api_Value} (h : CanV p) : (putV p).length ≤ 80 := by
  rcases h with rfl | ⟨i, hi, rfl⟩ | ⟨i, hi, rfl⟩ | ⟨f, hf, hb, rfl⟩ | ⟨t, ht, rfl⟩
  · simp [putV]
  · simp [putV]
  · have := ubytes_length (zig i) 9 (by have := zig_lt hi; omega)
    simp [putV]; omega
  · simp [putV, be_length]
  · have := putT_length (s := t) (by omega)
    simp [putV]; omega
theorem putV_bytes {p : api_Value} (h : CanV p) : Bytes (putV p) := by
  have c : ∀ {k : Int} {l : List Int}, 0 ≤ k ∧ k < 256 → Bytes l → Bytes (k :: l) := fun hk hl x hx => by
    rw [List.mem_cons] at hx
    rcases hx with rfl | hx
    · exact hk
    · exact hl x hx
  have n0 : Bytes [] := fun x hx => by cases hx
  rcases h with rfl | ⟨i, hi, rfl⟩ | ⟨i, hi, rfl⟩ | ⟨f, hf, hb, rfl⟩ | ⟨t, ht, rfl⟩
  · exact c (by decide) n0
  · exact c (by show (0 : Int) ≤ 1 ∧ (1 : Int) < 256; decide) (c (by show 0 ≤ i ∧ i < 256; omega) n0)
  · exact c (by show (0 : Int) ≤ 2 ∧ (2 : Int) < 256; decide) (bytes_ubytes _)
  · exact c (by show (0 : Int) ≤ 3 ∧ (3 : Int) < 256; decide) (be_bytes _ _)
  · exact c (by show (0 : Int) ≤ 4 ∧ (4 : Int) < 256; decide) ((bytes_ubytes _).app (bytesL_range t))
theorem value_Put_r_ok {v : api_Value} {l : List Int} (hw : W_api_Value v) (hr : vRight v = true) (hl : l.length < 700000000) {n : Nat} (h : 23 ≤ n) (hn : n < 100000000) : value_Put_r n l v = some (l ++ putV (vP v)) := by
  obtain ⟨n, rfl⟩ : ∃ k, n = k + 1 := ⟨n - 1, by omega⟩
  unfold value_Put_r
  rw [at1_succ, value_Plain_ok hw (by omega), Option.bind_some]
  have hc := can_vP hw hr
  rw [show vNan (vPlain v) = vP v from rfl]
  rw [ckA_ok (by decide) (by simp; omega), Option.bind_some]
  rcases hc with e | ⟨i, hi, e⟩ | ⟨i, hi, e⟩ | ⟨f, hf, hb, e⟩ | ⟨t, ht, e⟩ <;> rw [e]
  · rfl
  · show ((ckA 1 ((l ++ [1]) ++ [IntKind.wrap .u8 i]).length).bind fun _ => some ((l ++ [1]) ++ [IntKind.wrap .u8 i])) = _
    rw [ckA_ok (by decide) (by simp; omega), Option.bind_some, wrapY (by omega) (by omega)]
    simp [putV]
  · show ((codec_PutInt_r n (l ++ [2]) i).bind fun x8 => some x8) = _
    rw [putInt_r_ok hi (by simp; omega) (by omega) (by omega), Option.bind_some]
    simp [putV]
  · show ((codec_PutFloat_r n (l ++ [3]) f).bind fun x8 => some x8) = _
    rw [putFloat_r_ok hb (by simp; omega) (by omega), Option.bind_some]
    simp [putV]
  · show ((codec_PutText_r n (l ++ [4]) t).bind fun x8 => some x8) = _
    rw [putText_r_ok (by omega) (by simp; omega) (by omega) (by omega), Option.bind_some]
    simp [putV]
/-! ### Take -/
theorem byte_one {b : Option (List Int)} {c : Int} {rest : List Int} (hb : Bytes (sll b)) (hs : sll b = c :: rest) {n : Nat} (h : 2000010 ≤ n) : ∃ b', codec_Reader_Byte n ⟨true, b, 0⟩ = some (b', 0, c) ∧ sll b' = rest := by
  obtain ⟨b', e', v, h1, h2⟩ := byte_ok hb h
  rw [hs] at h2
  obtain ⟨h3, rfl, rfl⟩ := h2
  exact ⟨b', h1, h3⟩
theorem value_Take_ok {p : api_Value} {b : Option (List Int)} {rest : List Int} (hc : CanV p) (hb : Bytes (sll b)) (hs : sll b = putV p ++ rest) {n : Nat} (h : 2000020 ≤ n) : ∃ b', value_Take n ⟨true, b, 0⟩ = some (true, b', 0, p.fKind, p.fInt, p.fFloat, p.fText, 0) ∧ sll b' = rest := by
  obtain ⟨n, rfl⟩ : ∃ k, n = k + 1 := ⟨n - 1, by omega⟩
  have hr := can_right hc
  unfold value_Take
  rw [at1_succ]
  have hb2 : ∀ {c : Int} {l : List Int}, sll b = c :: l → Bytes l := fun e x hx => hb x (by rw [e]; exact List.mem_cons_of_mem _ hx)
  have tail : ∀ (b' : Option (List Int)), ((codec_Reader_Err n (codec_Reader.mk true b' 0)).bind fun x14 => bif (x14 != 0) then some (true, b', (0 : Int), (0 : Int), (0 : Int), (0 : Nat), ByteArray.empty, x14) else (value_Right n (api_Value.mk p.fKind p.fInt p.fFloat p.fText)).bind fun x16 => bif (!x16) then some (true, b', (0 : Int), (0 : Int), (0 : Int), (0 : Nat), ByteArray.empty, (22 : Int)) else some (true, b', (0 : Int), p.fKind, p.fInt, p.fFloat, p.fText, (0 : Int))) = some (true, b', 0, p.fKind, p.fInt, p.fFloat, p.fText, 0) := fun b' => by
    rw [err_ok (by omega), Option.bind_some, value_Right_ok _ (by omega), show vRight ⟨p.fKind, p.fInt, p.fFloat, p.fText⟩ = true from hr]
    rfl
  rcases hc with e | ⟨i, hi, e⟩ | ⟨i, hi, e⟩ | ⟨f, hf, hbf, e⟩ | ⟨t, ht, e⟩ <;> subst e
  · obtain ⟨b', h1, h2⟩ := byte_one hb (show sll b = 0 :: rest from hs) (by omega : 2000010 ≤ n)
    rw [h1, Option.bind_some]
    exact ⟨b', tail b', h2⟩
  · obtain ⟨b', h1, h2⟩ := byte_one hb (show sll b = 1 :: (i :: rest) from hs) (by omega : 2000010 ≤ n)
    rw [h1, Option.bind_some]
    obtain ⟨b2, h3, h4⟩ := byte_one (b := b') (by rw [h2]; exact hb2 (show sll b = 1 :: (i :: rest) from hs)) h2 (by omega : 2000010 ≤ n)
    refine ⟨b2, ?_, h4⟩
    simp only [withK]
    rw [show ((IntKind.wrap .i64 1) == 1) = true by decide, cond_true, h3, Option.bind_some]
    simp only
    rw [show IntKind.wrap .i64 i = i from wrapI (by omega) (by omega)]
    exact tail b2
  · obtain ⟨b', h1, h2⟩ := byte_one hb (show sll b = 2 :: (ubytes (zig i) ++ rest) from hs) (by omega : 2000010 ≤ n)
    rw [h1, Option.bind_some]
    obtain ⟨b2, h3, h4⟩ := int_ok (b := b') hi (by rw [h2]; exact hb2 (show sll b = 2 :: (ubytes (zig i) ++ rest) from hs)) h2 (by omega : 14 ≤ n)
    refine ⟨b2, ?_, h4⟩
    simp only [withK]
    rw [show ((IntKind.wrap .i64 2) == 1) = false by decide, cond_false, show ((IntKind.wrap .i64 2) == 2) = true by decide, cond_true, h3, Option.bind_some]
    exact tail b2
  · obtain ⟨b', h1, h2⟩ := byte_one hb (show sll b = 3 :: (be f 8 ++ rest) from hs) (by omega : 2000010 ≤ n)
    rw [h1, Option.bind_some]
    obtain ⟨b2, h3, h4⟩ := float_ok (b := b') hf hbf h2 (by omega : 2000011 ≤ n)
    refine ⟨b2, ?_, h4⟩
    simp only [withK]
    rw [show ((IntKind.wrap .i64 3) == 1) = false by decide, cond_false, show ((IntKind.wrap .i64 3) == 2) = false by decide, cond_false, show ((IntKind.wrap .i64 3) == 3) = true by decide, cond_true, h3, Option.bind_some]
    exact tail b2
  · obtain ⟨b', h1, h2⟩ := byte_one hb (show sll b = 4 :: (putT t ++ rest) from hs) (by omega : 2000010 ≤ n)
    rw [h1, Option.bind_some]
    obtain ⟨b2, e2, v2, h3, h4⟩ := text_ok (b := b') (most := 64) (by omega) (by rw [h2]; exact hb2 (show sll b = 4 :: (putT t ++ rest) from hs)) (by omega : 14 ≤ n)
    rw [h2, rdT_put ht (by omega)] at h4
    obtain ⟨g1, rfl, rfl⟩ := h4
    refine ⟨b2, ?_, g1⟩
    simp only [withK]
    rw [show ((IntKind.wrap .i64 4) == 1) = false by decide, cond_false, show ((IntKind.wrap .i64 4) == 2) = false by decide, cond_false, show ((IntKind.wrap .i64 4) == 3) = false by decide, cond_false, show ((IntKind.wrap .i64 4) == 4) = true by decide, cond_true]
    rw [show ((64 : Int)) = ((64 : Nat) : Int) from rfl, h3, Option.bind_some, strOf_bytesL]
    exact tail b2
end Go.Pl
