import Derived.Test.YtjbhpopccbhhlaaSA2
set_option linter.unusedVariables false
set_option linter.unusedSimpArgs false
set_option maxRecDepth 100000
/-! ### What is known of a table, put and taken -/
namespace Go.Pl
open Go Go.Ab

theorem vP_vP {v : api_Value} (hw : W_api_Value v) (h : vRight v = true) : vP (vP v) = vP v := by
  rcases right_cases hw h with rfl | ⟨i, hi, rfl⟩ | ⟨i, hi, rfl⟩ | ⟨f, hf, rfl⟩ | ⟨t, ht, rfl⟩
  · rw [vP_other h rfl, vP_other h rfl]
  · rw [vP_other h rfl, vP_other h rfl]
  · rw [vP_other h rfl, vP_other h rfl]
  · rw [vP_float hf, vP_float (bitsF_lt hf), bitsF_bitsF]
  · rw [vP_other h rfl, vP_other h rfl]
theorem sameV_vP {v : api_Value} (hw : W_api_Value v) (h : vRight v = true) : sameV v (vP v) = true := by
  unfold sameV
  rw [vCmp_ord.anti (vP v) v, vCmp_vP hw h]; rfl

/-! #### May any be? -/
def rightX (rows : Int) (c : stat_Col) : Bool := !(decide (c.fKind < 1)) && !(decide (c.fKind > 4)) && decide (c.fNulls ≥ 0) && decide (c.fNulls ≤ rows) && decide (c.fDistinct ≥ 0) && decide (c.fDistinct ≤ rows) &&
  rightH (sll c.fHist) && firstOk c.fKind (sll c.fHist) && !(decide (((sll c.fSample).length : Int) > 60)) && rightK c.fSketch.fRegs && (sll c.fSample).all (sampOk c.fKind)
theorem stat_columnX_ok {c : stat_Col} (hc : W_stat_Col c) (rows : Int) {n : Nat} (h : 2000020 ≤ n) : stat_column n c rows = some (rightX rows c) := by
  obtain ⟨n, rfl⟩ : ∃ k, n = k + 1 := ⟨n - 1, by omega⟩
  unfold stat_column
  rw [at1_succ]
  simp only [withK]
  rw [stat_column_1_ok _ _ (by omega), stat_column_1_ok _ _ (by omega)]
  simp only [Option.bind_some]
  rw [hist_Right_ok hc.2.2.2.1 (by omega), show c.fSketch = ⟨c.fSketch.fRegs⟩ from rfl, hll_Right_ok _ (by omega), contains_ok (by exact hc.2.2.2.2.1.1) (by omega)]
  simp only [Option.bind_some, Bool.not_not]
  unfold rightX
  generalize decide (c.fKind < 1) = A1
  generalize decide (c.fKind > 4) = A2
  generalize decide (c.fNulls ≥ 0) = A3
  generalize decide (c.fNulls ≤ rows) = A4
  generalize decide (c.fDistinct ≥ 0) = A5
  generalize decide (c.fDistinct ≤ rows) = A6
  generalize decide (((sll c.fSample).length : Int) > 60) = A7
  generalize rightK c.fSketch.fRegs = A8
  generalize (sll c.fSample).all (sampOk c.fKind) = A9
  generalize rightH (sll c.fHist) = A0
  have e5 : (bif decide ((((sll c.fHist).length : Nat) : Int) > 0) then (idx (sll c.fHist) 0).bind fun x17 => (bif (x17.fLow.fKind != c.fKind) then some false else bif A7 then some false else bif (!A8) then some false else some A9) else (bif A7 then some false else bif (!A8) then some false else some A9)) = (bif firstOk c.fKind (sll c.fHist) then (bif A7 then some false else bif (!A8) then some false else some A9) else some false) := by
    cases hl : sll c.fHist with
    | nil => rfl
    | cons b r =>
      rw [dT (by simp), cond_true, show idx (b :: r) 0 = some b from rfl, Option.bind_some]
      show (bif !(b.fLow.fKind == c.fKind) then _ else _) = bif (b.fLow.fKind == c.fKind) then _ else _
      cases b.fLow.fKind == c.fKind <;> rfl
  simp only [cond_true, cond_false]
  rw [e5]
  generalize firstOk c.fKind (sll c.fHist) = B0
  cases A1 <;> cases A2 <;> cases A3 <;> cases A4 <;> cases A5 <;> cases A6 <;> cases A0 <;> cases B0 <;> cases A7 <;> cases A8 <;> rfl
def rightXS (s : stat_Stat) : Bool := !(((decide (s.fRows < 0) || decide (s.fRows > 1000000)) || decide (((sll s.fCols).length : Int) < 1)) || decide (((sll s.fCols).length : Int) > 8)) && (sll s.fCols).all (rightX s.fRows)
theorem stat_RightX_ok {s : stat_Stat} (hs : W_stat_Stat s) {n : Nat} (h : 2000040 ≤ n) : stat_Right n s = some (rightXS s) := by
  obtain ⟨n, rfl⟩ : ∃ k, n = k + 3 := ⟨n - 3, by omega⟩
  unfold stat_Right
  rw [at1_succ]
  unfold slices_ContainsFunc_Col_stat_Right_1
  rw [at1_succ]
  unfold slices_IndexFunc_Col_stat_Right_1
  rw [at1_succ]
  obtain ⟨j, h1, h2⟩ := findI_loop0 (l := sll s.fCols) (p := fun c => !rightX s.fRows c) (F := fun m i => slices_IndexFunc_Col_stat_Right_1_l2 n s.fCols s.fRows s.fCols (fun _ => some (-1)) m i) (m := n) hs.2.1 (by omega) (fun m i c hi e => by
    show slices_IndexFunc_Col_stat_Right_1_l2 _ _ _ _ _ _ _ = _
    rw [slices_IndexFunc_Col_stat_Right_1_l2, dT (by omega), cond_true, idx_at hi e, Option.bind_some]
    obtain ⟨n, rfl⟩ : ∃ k, n = k + 1 := ⟨n - 1, by omega⟩
    unfold stat_Right_1
    rw [at1_succ, stat_columnX_ok (hs.2.2 c (by rw [← e]; exact List.getElem_mem hi)) _ (by omega), Option.bind_some, Option.bind_some]) (fun m => by
    show slices_IndexFunc_Col_stat_Right_1_l2 _ _ _ _ _ _ _ = _
    rw [slices_IndexFunc_Col_stat_Right_1_l2, dF (by omega), cond_false])
  show (bif _ then some false else ((slices_IndexFunc_Col_stat_Right_1_l2 n s.fCols s.fRows s.fCols (fun _ => some (-1)) n 0).bind _).bind _) = _
  rw [h1, Option.bind_some, Option.bind_some, h2]
  unfold rightXS
  rw [List.any_eq_not_all_not]
  simp only [Bool.not_not]
  generalize (((decide (s.fRows < 0) || decide (s.fRows > 1000000)) || decide (((sll s.fCols).length : Int) < 1)) || decide (((sll s.fCols).length : Int) > 8)) = A
  cases A <;> rfl
structure OkC (x : stat_Col) : Prop where
  w : W_stat_Col x
  k1 : 1 ≤ x.fKind
  k4 : x.fKind ≤ 4
  n0 : 0 ≤ x.fNulls
  n1 : x.fNulls ≤ 1000000
  d0 : 0 ≤ x.fDistinct
  d1 : x.fDistinct ≤ 1000000
  hr : rightH (sll x.fHist) = true
  fst : firstOk x.fKind (sll x.fHist) = true
  sl : (sll x.fSample).length ≤ 60
  rk : rightK x.fSketch.fRegs = true
  sm : ∀ v, v ∈ sll x.fSample → sampOk x.fKind v = true
theorem rightX_iff (rows : Int) (x : stat_Col) : rightX rows x = true ↔ (1 ≤ x.fKind ∧ x.fKind ≤ 4) ∧ (0 ≤ x.fNulls ∧ x.fNulls ≤ rows) ∧ (0 ≤ x.fDistinct ∧ x.fDistinct ≤ rows) ∧ rightH (sll x.fHist) = true ∧ firstOk x.fKind (sll x.fHist) = true ∧ (sll x.fSample).length ≤ 60 ∧ rightK x.fSketch.fRegs = true ∧ (sll x.fSample).all (sampOk x.fKind) = true := by
  unfold rightX
  simp only [Bool.and_eq_true, Bool.not_eq_true', decide_eq_true_eq, decide_eq_false_iff_not, and_assoc]
  constructor
  · rintro ⟨a, b, c, d, e, f, g, h, i, j, k⟩
    exact ⟨by omega, by omega, by omega, by omega, by omega, by omega, g, h, by omega, j, k⟩
  · rintro ⟨a, b, c, d, e, f, g, h, i, j, k⟩
    exact ⟨by omega, by omega, by omega, by omega, by omega, by omega, g, h, by omega, j, k⟩
theorem okC_of {rows : Int} {x : stat_Col} (hw : W_stat_Col x) (hr : rows ≤ 1000000) (h : rightX rows x = true) : OkC x := by
  obtain ⟨⟨a, b⟩, ⟨c, d⟩, ⟨e, f⟩, g, i, j, k, l⟩ := (rightX_iff rows x).1 h
  exact ⟨hw, a, b, c, by omega, e, by omega, g, i, j, k, List.all_eq_true.1 l⟩
theorem samp_right {k : Int} {v : api_Value} (h : sampOk k v = true) : vRight v = true := by
  unfold sampOk at h; exact (Bool.and_eq_true_iff.1 h).1
theorem OkC.vals {x : stat_Col} (h : OkC x) : ∀ v, v ∈ sll x.fSample → W_api_Value v ∧ vRight v = true := fun v hv => ⟨h.w.2.2.2.2.1.2 v hv, samp_right (h.sm v hv)⟩

/-! #### Put -/
def putC (x : stat_Col) : List Int := x.fKind :: (ubytes x.fNulls.toNat ++ (ubytes x.fDistinct.toNat ++ (ubytes (sll x.fHist).length ++ (putBs (sll x.fHist) ++ (ubytes (sll x.fSample).length ++ (putVs (sll x.fSample) ++ lsA 64 x.fSketch.fRegs))))))
def putCs (l : List stat_Col) : List Int := l.flatMap putC
theorem lsAf_len (x : Nat → Int) : ∀ (n i : Nat), (lsAf x i n).length = n
  | 0, _ => rfl
  | n + 1, i => by simp [lsAf, lsAf_len x n]
theorem lsAf_bytes {x : Nat → Int} (h : ∀ i, i < 64 → wI .u8 (x i)) : ∀ (n i : Nat), i + n ≤ 64 → Bytes (lsAf x i n)
  | 0, _, _ => fun y hy => by simp [lsAf] at hy
  | n + 1, i, hi => fun y hy => by
    rw [lsAf] at hy
    rcases List.mem_cons.1 hy with rfl | hy
    · have := h i (by omega)
      have h1 : (0 : Int) ≤ x i := this.1
      have h2 : x i ≤ 255 := this.2
      omega
    · exact lsAf_bytes h n (i + 1) (by omega) y hy
theorem putVs_bytes : ∀ {l : List api_Value}, (∀ v, v ∈ l → W_api_Value v ∧ vRight v = true) → Bytes (putVs l)
  | [], _ => fun y hy => by simp [putVs] at hy
  | v :: l, h => by
    unfold putVs
    rw [List.flatMap_cons]
    exact Bytes.app (putV_bytes (can_vP (h v (by simp)).1 (h v (by simp)).2)) (putVs_bytes fun w hw => h w (by simp [hw]))
theorem OkC.hists {x : stat_Col} (h : OkC x) : (sll x.fHist).length ≤ 50 ∧ (∀ b, b ∈ sll x.fHist → W_hist_Bucket b) ∧ ∀ b, b ∈ sll x.fHist → Snd b := by
  obtain ⟨h1, h2⟩ := right_len h.hr
  exact ⟨h1, h.w.2.2.2.1.2, chain_all h2⟩
theorem putC_len {x : stat_Col} (h : OkC x) : (putC x).length ≤ 15000 := by
  obtain ⟨a, b, c⟩ := h.hists
  have l1 := ubytes_length x.fNulls.toNat 9 (by have := h.n1; omega)
  have l2 := ubytes_length x.fDistinct.toNat 9 (by have := h.d1; omega)
  have l3 := ubytes_length (sll x.fHist).length 9 (by omega)
  have l4 := ubytes_length (sll x.fSample).length 9 (by have := h.sl; omega)
  have l5 := putBs_len b c
  have l6 := putVs_length _ h.vals
  have l7 := lsAf_len x.fSketch.fRegs 64 0
  have l8 := h.sl
  have l7' : (lsA 64 x.fSketch.fRegs).length = 64 := l7
  unfold putC
  simp only [List.length_cons, List.length_append]
  omega
theorem putC_bytes {x : stat_Col} (h : OkC x) : Bytes (putC x) := by
  obtain ⟨a, b, c⟩ := h.hists
  have h1 := h.k1
  have h4 := h.k4
  have : Bytes ([x.fKind] ++ (ubytes x.fNulls.toNat ++ (ubytes x.fDistinct.toNat ++ (ubytes (sll x.fHist).length ++ (putBs (sll x.fHist) ++ (ubytes (sll x.fSample).length ++ (putVs (sll x.fSample) ++ lsA 64 x.fSketch.fRegs))))))) :=
    Bytes.app (fun y hy => by simp at hy; omega) (Bytes.app (bytes_ubytes _) (Bytes.app (bytes_ubytes _) (Bytes.app (bytes_ubytes _) (Bytes.app (putBs_bytes b c) (Bytes.app (bytes_ubytes _) (Bytes.app (putVs_bytes h.vals) (lsAf_bytes h.w.2.2.2.2.2 64 0 (by omega))))))))
  exact this
theorem number_r_ok {l : List Int} {v : Int} (h0 : 0 ≤ v) (h1 : v ≤ 1000000) (hl : l.length < 900000000) {n : Nat} (h : 21 ≤ n) (hn : n < 100000000) : stat_number_r n l v = some (l ++ ubytes v.toNat) := by
  obtain ⟨n, rfl⟩ : ∃ k, n = k + 1 := ⟨n - 1, by omega⟩
  unfold stat_number_r
  rw [at1_succ, show IntKind.wrap .u64 v = ((v.toNat : Nat) : Int) from uwrap (by omega) (by omega), putUint_r_ok (by omega) hl (by omega) (by omega)]
  rfl
theorem number_nil_ok {v : Int} (h0 : 0 ≤ v) (h1 : v ≤ 1000000) {n : Nat} (h : 21 ≤ n) (hn : n < 100000000) : stat_number_nil n v = some (ubytes v.toNat) := by
  obtain ⟨n, rfl⟩ : ∃ k, n = k + 1 := ⟨n - 1, by omega⟩
  unfold stat_number_nil
  rw [at1_succ, show IntKind.wrap .u64 v = ((v.toNat : Nat) : Int) from uwrap (by omega) (by omega), putUint_nil_ok (by omega) (by omega) (by omega)]
  rfl
theorem hist_r_eq {n : Nat} {a : Option (List HB)} {k : List Int → Option (List Int)} : ∀ (m : Nat) (s : List Int) (i : Int), hist_Put_r_l3 n a k m s i = hist_Put_nil_l3 n a k m s i
  | 0, s, i => rfl
  | m + 1, s, i => by rw [hist_Put_r_l3, hist_Put_nil_l3]; simp only [hist_r_eq m]
theorem hist_Put_r_ok {a : Option (List HB)} (ha : WH a) (hr : rightH (sll a) = true) {s : List Int} (hs : s.length < 500000000) {n : Nat} (h : 2000010 ≤ n) (hn2 : n < 100000000) : hist_Put_r n s a = some ((s ++ ubytes (sll a).length) ++ putBs (sll a)) := by
  obtain ⟨n, rfl⟩ : ∃ k, n = k + 1 := ⟨n - 1, by omega⟩
  obtain ⟨h1, h2⟩ := right_len hr
  have hul := ubytes_length (sll a).length 9 (by omega)
  unfold hist_Put_r
  simp only [at1_succ, withK]
  rw [show IntKind.wrap .u64 ((sll a).length : Int) = (((sll a).length : Nat) : Int) from uwrap rfl (by omega), putUint_r_ok (by omega) (by omega) (by omega) (by omega), Option.bind_some]
  show hist_Put_r_l3 n a (fun y => some y) n _ 0 = _
  rw [hist_r_eq]
  exact put_loop (n := n) (K := fun y => some y) (by omega) (by omega) ha (sll a) n [] (s ++ ubytes (sll a).length) rfl (chain_all h2) (by rw [List.length_append]; omega) (by omega)
theorem put_rangeK {n : Nat} (hn : 23 ≤ n) (hn2 : n < 100000000) {K : List Int → Option (List Int)} : ∀ (l : List api_Value) (i : Nat) (s : List Int), (∀ v, v ∈ l → W_api_Value v ∧ vRight v = true) → s.length + 80 * l.length < 700000000 →
    rangeS (fun (v : api_Value) i (s : List Int) rec => (value_Put_r n s v).bind rec) K l i s = K (s ++ putVs l)
  | [], i, s, _, _ => by simp [rangeS, putVs]
  | v :: l, i, s, h, hl => by
    rw [List.length_cons] at hl
    have h1 := putV_length (can_vP (h v (by simp)).1 (h v (by simp)).2)
    simp only [rangeS]
    rw [value_Put_r_ok (h v (by simp)).1 (h v (by simp)).2 (by omega) hn hn2, Option.bind_some]
    rw [put_rangeK hn hn2 l (i + 1) _ (fun w hw => h w (by simp [hw])) (by rw [List.length_append]; omega)]
    simp [putVs]
theorem put_l8 {n : Nat} (hn : 2000000 ≤ n) (hn2 : n < 100000000) {x : stat_Col} (h : OkC x) (K : List Int → Option (List Int)) {s : List Int} (hs : s.length < 600000000) : stat_Put_nil_l8 n x K n s 0 = K (s ++ putVs (sll x.fSample)) := by
  rw [show stat_Put_nil_l8 n x K n s 0 = _ from loop_sl (F := fun m s i => stat_Put_nil_l8 n x K m s i) (x := x.fSample) h.w.2.2.2.2.1.1 (B := fun (v : api_Value) i (s : List Int) rec => (value_Put_r n s v).bind rec) (k := K) (fun m i s => rfl) hn s]
  exact put_rangeK (by omega) hn2 _ _ _ h.vals (by have := h.sl; omega)
theorem hll_Put_r_ok {l : List Int} (r : Nat → Int) (hl : l.length < 900000000) {n : Nat} (h : 1 ≤ n) : hll_Put_r n l ⟨r⟩ = some (l ++ lsA 64 r) := by
  obtain ⟨n, rfl⟩ : ∃ k, n = k + 1 := ⟨n - 1, by omega⟩
  unfold hll_Put_r
  rw [at1_succ, show (lsA 64 r).isEmpty = false from rfl, cond_false, ckA_okQ (by omega) (by rw [List.length_append, show (lsA 64 r).length = 64 from lsAf_len r 64 0]; omega)]
  rfl
theorem put_l3 {n : Nat} (hn : 2000020 ≤ n) (hn2 : n < 100000000) {a : stat_Stat} (hl : (sll a.fCols).length ≤ 8) {K : List Int → Option (List Int)} : ∀ (l : List stat_Col) (m : Nat) (p : List stat_Col) (s : List Int), sll a.fCols = p ++ l → (∀ c, c ∈ l → OkC c) → s.length + 15000 * l.length < 400000000 → l.length < m →
    stat_Put_nil_l3 n a K m s (p.length : Int) = K (s ++ putCs l)
  | [], m, p, s, he, _, _, hm => by
    obtain ⟨m, rfl⟩ : ∃ j, m = j + 1 := ⟨m - 1, by omega⟩
    rw [stat_Put_nil_l3, dF (by rw [he]; simp), cond_false]
    simp [putCs]
  | x :: l, m, p, s, he, hs, hl2, hm => by
    obtain ⟨m, rfl⟩ : ∃ j, m = j + 1 := ⟨m - 1, by omega⟩
    have hlen : (sll a.fCols).length = p.length + (l.length + 1) := by rw [he]; simp
    rw [List.length_cons] at hm hl2
    have hx := hs x (by simp)
    have hix : idx (sll a.fCols) (p.length : Int) = some x := by rw [he]; exact idx_app p x l
    have k1 := hx.k1; have k4 := hx.k4; have d0 := hx.d0; have d1 := hx.d1; have n0 := hx.n0; have n1 := hx.n1; have sl := hx.sl
    obtain ⟨a1, b1, c1⟩ := hx.hists
    have l1 := ubytes_length x.fNulls.toNat 9 (by omega)
    have l2 := ubytes_length x.fDistinct.toNat 9 (by omega)
    have l3 := ubytes_length (sll x.fHist).length 9 (by omega)
    have l4 := ubytes_length (sll x.fSample).length 9 (by omega)
    have l5 := putBs_len b1 c1
    have l6 := putVs_length _ hx.vals
    rw [stat_Put_nil_l3, dT (by omega), cond_true]
    simp only [withK]
    rw [hix, Option.bind_some, wrapY (by omega) (by omega), ckA_okQ (by omega) (by simp; omega), Option.bind_some,
      number_r_ok n0 n1 (by simp; omega) (by omega) hn2, Option.bind_some, number_r_ok d0 d1 (by simp; omega) (by omega) hn2, Option.bind_some,
      hist_Put_r_ok hx.w.2.2.2.1 hx.hr (by simp; omega) (by omega) hn2, Option.bind_some, number_r_ok (by omega) (by omega) (by simp; omega) (by omega) hn2, Option.bind_some, Int.toNat_natCast]
    rw [put_l8 (by omega) hn2 hx _ (by simp; omega), show x.fSketch = ⟨x.fSketch.fRegs⟩ from rfl, hll_Put_r_ok _ (by simp; omega) (by omega), Option.bind_some, wrapN (by omega)]
    have hpc := putC_len hx
    have e3 : (((((((s ++ [x.fKind]) ++ ubytes x.fNulls.toNat) ++ ubytes x.fDistinct.toNat) ++ ubytes (sll x.fHist).length) ++ putBs (sll x.fHist)) ++ ubytes (sll x.fSample).length) ++ putVs (sll x.fSample)) ++ lsA 64 x.fSketch.fRegs = s ++ putC x := by
      unfold putC; simp only [List.append_assoc, List.cons_append, List.nil_append]
    rw [e3]
    have := put_l3 hn hn2 hl (K := K) l m (p ++ [x]) (s ++ putC x) (by rw [he]; simp) (fun c hc => hs c (by simp [hc])) (by rw [List.length_append]; omega) (by omega)
    rw [show (p ++ [x]).length = p.length + 1 by simp] at this
    rw [this]
    unfold putCs
    rw [List.flatMap_cons, List.append_assoc]
def putS (s : stat_Stat) : List Int := (ubytes s.fRows.toNat ++ ubytes (sll s.fCols).length) ++ putCs (sll s.fCols)
theorem rightXS_of {s : stat_Stat} (h : rightXS s = true) : 0 ≤ s.fRows ∧ s.fRows ≤ 1000000 ∧ 1 ≤ (sll s.fCols).length ∧ (sll s.fCols).length ≤ 8 ∧ ∀ c, c ∈ sll s.fCols → rightX s.fRows c = true := by
  unfold rightXS at h
  simp only [Bool.and_eq_true, Bool.not_eq_true', Bool.or_eq_false_iff, decide_eq_false_iff_not] at h
  obtain ⟨⟨⟨⟨a, b⟩, c⟩, d⟩, e⟩ := h
  exact ⟨by omega, by omega, by omega, by omega, List.all_eq_true.1 e⟩
theorem stat_Put_ok {s : stat_Stat} (hw : W_stat_Stat s) (hr : rightXS s = true) {n : Nat} (h : 2000030 ≤ n) (hn2 : n < 100000000) : stat_Put_nil n s = some (putS s) := by
  obtain ⟨n, rfl⟩ : ∃ k, n = k + 1 := ⟨n - 1, by omega⟩
  obtain ⟨r0, r1, c1, c8, hc⟩ := rightXS_of hr
  have l1 := ubytes_length s.fRows.toNat 9 (by omega)
  have l2 := ubytes_length (sll s.fCols).length 9 (by omega)
  unfold stat_Put_nil
  simp only [at1_succ, withK]
  rw [number_nil_ok r0 r1 (by omega) (by omega), Option.bind_some, number_r_ok (by omega) (by omega) (by omega) (by omega) (by omega), Option.bind_some, Int.toNat_natCast]
  exact put_l3 (n := n) (K := fun y => some y) (by omega) (by omega) c8 (sll s.fCols) n [] _ rfl (fun c hcm => okC_of (hw.2.2 c hcm) r1 (hc c hcm)) (by rw [List.length_append]; omega) (by omega)
theorem put2_l8 {n : Nat} {x : stat_Col} {K : List Int → Option (List Int)} : ∀ (m : Nat) (s : List Int) (i : Int), stat_Put_nil_2_l8 n x K m s i = stat_Put_nil_l8 n x K m s i
  | 0, s, i => rfl
  | m + 1, s, i => by rw [stat_Put_nil_2_l8, stat_Put_nil_l8]; simp only [put2_l8 m]
theorem put2_l3 {n : Nat} {l : List stat_Col} {r : Int} {K : List Int → Option (List Int)} : ∀ (m : Nat) (s : List Int) (i : Int), stat_Put_nil_2_l3 n l K m s i = stat_Put_nil_l3 n ⟨r, some l⟩ K m s i
  | 0, s, i => rfl
  | m + 1, s, i => by
    rw [stat_Put_nil_2_l3, stat_Put_nil_l3]
    simp only [put2_l3 (r := r) m, put2_l8]
    rfl
theorem put2_ok {n : Nat} {l : List stat_Col} {r : Int} : stat_Put_nil_2 n l r = stat_Put_nil n ⟨r, some l⟩ := by
  cases n with
  | zero => rfl
  | succ n =>
    unfold stat_Put_nil_2 stat_Put_nil
    simp only [at1_succ, withK, put2_l3 (r := r)]
    rfl
end Go.Pl
