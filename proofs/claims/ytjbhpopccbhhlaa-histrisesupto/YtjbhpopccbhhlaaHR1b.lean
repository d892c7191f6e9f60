import Derived.Test.YtjbhpopccbhhlaaHTA
set_option linter.unusedVariables false
set_option linter.unusedSimpArgs false
set_option maxRecDepth 100000
namespace Go.Pl
open Go Go.Ab
/-! ### How the answers rise -/
theorem share_mono {b : HB} {v w : api_Value} (hW : W_hist_Bucket b) (hv : W_api_Value v) (hw : W_api_Value w) (m1 : Mid b v) (m2 : Mid b w) (h : vCmp v w ≤ 0) : shareB b v ≤ shareB b w := by
  have k1 := (mid_kind m1).1
  have k2 := (mid_kind m2).1
  unfold shareB
  by_cases hk : v.fKind = 2
  · rw [if_pos hk, if_pos (by omega)]
    obtain ⟨a1, a2, a3⟩ := mid_ints hW hv m1 hk
    obtain ⟨b1, b2, b3⟩ := mid_ints hW hw m2 (by omega)
    rw [cmp_ints m1.rv m2.rv hk (by omega)] at h
    have := iC_cases v.fInt w.fInt
    have hp : partN b v ≤ partN b w := by unfold partN; omega
    have := Nat.div_le_div_right (c := wholeN b) (Nat.mul_le_mul_left b.fCount.toNat hp)
    generalize b.fCount.toNat * partN b v / wholeN b = x at *
    generalize b.fCount.toNat * partN b w / wholeN b = y at *
    omega
  · rw [if_neg hk, if_neg (by omega)]
    exact Int.le_refl _
theorem each_two {b : HB} (h : Snd b) (hl : vCmp b.fLow b.fHigh ≠ 0) : eachB b + eachB b ≤ b.fCount := by
  have h1 := h.c1; have h2 := h.d1; have h3 := h.d2
  have hd : 2 ≤ b.fDistinct := by
    have := h.one
    omega
  unfold eachB
  rw [Int.tdiv_eq_ediv_of_nonneg (by omega)]
  have h4 : b.fCount / b.fDistinct * b.fDistinct ≤ b.fCount := Int.ediv_mul_le _ (by omega)
  have h5 : 0 ≤ b.fCount / b.fDistinct := Int.ediv_nonneg (by omega) (by omega)
  have h6 : b.fCount / b.fDistinct * 2 ≤ b.fCount / b.fDistinct * b.fDistinct := Int.mul_le_mul_of_nonneg_left hd h5
  omega
theorem inB_mono {b : HB} {v w : api_Value} (hW : W_hist_Bucket b) (hv : W_api_Value v) (hw : W_api_Value w) (hs : Snd b) (rv : vRight v = true) (rw' : vRight w = true) (h1 : vCmp b.fLow v ≤ 0) (h : vCmp v w ≤ 0) (h2 : vCmp w b.fHigh ≤ 0) (also : Bool) : inB b v also ≤ inB b w also := by
  have he := each_range hs
  have an1 := vCmp_ord.anti v b.fLow
  have an2 := vCmp_ord.anti w b.fLow
  have an3 := vCmp_ord.anti w b.fHigh
  have an4 := vCmp_ord.anti v b.fHigh
  have an5 := vCmp_ord.anti v w
  have t1 := vCmp_ord.trans v w b.fHigh h h2
  have t2 := vCmp_ord.trans b.fLow v w h1 h
  have hin := inB_range hW hv hs rv h1 t1 also
  have hiw := inB_range hW hw hs rw' t2 h2 also
  by_cases e1 : vCmp w b.fHigh = 0
  · have ew : inB b w also = bif also then b.fCount else b.fCount - eachB b := by unfold inB; rw [if_pos e1]
    rw [ew]
    cases also with
    | true => exact hin.2
    | false =>
      show inB b v false ≤ b.fCount - eachB b
      unfold inB
      split
      · simp
      · split
        · simp; omega
        · unfold withinB; omega
  · have hvh : vCmp v b.fHigh ≠ 0 := by
      intro e
      have := vCmp_ord.trans b.fHigh v w (by omega) h
      omega
    by_cases e2 : vCmp w b.fLow = 0
    · have hvl : vCmp v b.fLow = 0 := by
        have := vCmp_ord.trans v w b.fLow h (by omega)
        omega
      unfold inB
      rw [if_neg hvh, if_pos hvl, if_neg e1, if_pos e2]
      exact Int.le_refl _
    · have m2 : Mid b w := ⟨hs, rw', by omega, by omega⟩
      have hl : vCmp b.fLow b.fHigh ≠ 0 := by
        intro e
        have := vCmp_ord.anti b.fLow b.fHigh
        have := vCmp_ord.trans w b.fHigh b.fLow h2 (by omega)
        omega
      have h2e := each_two hs hl
      have ew : inB b w also = withinB b w := by unfold inB; rw [if_neg e1, if_neg e2]
      rw [ew]
      by_cases e3 : vCmp v b.fLow = 0
      · unfold inB
        rw [if_neg hvh, if_pos e3]
        unfold withinB
        cases also <;> simp <;> omega
      · have m1 : Mid b v := ⟨hs, rv, by omega, by omega⟩
        have ev : inB b v also = withinB b v := by unfold inB; rw [if_neg hvh, if_neg e3]
        rw [ev]
        have := share_mono hW hv hw m1 m2 h
        unfold withinB
        omega
/-- How many are less, of a list. -/
def blw (l : List HB) (ah : Int) (v : api_Value) (also : Bool) : Int := match (loc v l ah).1 with | none => (loc v l ah).2 | some b => (loc v l ah).2 + inB b v also
theorem blw_nil (ah : Int) (v : api_Value) (also : Bool) : blw [] ah v also = ah := rfl
theorem blw_cons (b : HB) (l : List HB) (ah : Int) (v : api_Value) (also : Bool) : blw (b :: l) ah v also = if vCmp v b.fLow < 0 then ah else if vCmp v b.fHigh ≤ 0 then ah + inB b v also else blw l (ah + b.fCount) v also := by
  unfold blw
  rw [loc]
  by_cases h1 : vCmp v b.fLow < 0
  · rw [if_pos h1, if_pos h1]
  · rw [if_neg h1, if_neg h1]
    by_cases h2 : vCmp v b.fHigh ≤ 0
    · rw [if_pos h2, if_pos h2]
    · rw [if_neg h2, if_neg h2]
theorem blw_range {v : api_Value} (hv : W_api_Value v) (rv : vRight v = true) (also : Bool) : ∀ {l : List HB} {ah : Int}, (∀ b, b ∈ l → W_hist_Bucket b) → (∀ b, b ∈ l → Snd b) → ah ≤ blw l ah v also ∧ blw l ah v also ≤ ah + sumC l
  | [], ah, _, _ => by rw [blw_nil]; simp [sumC]
  | b :: l, ah, hW, hs => by
    have h1 := hs b (by simp)
    have := h1.c1
    have hr := sumC_range (h := l) fun c hc => hs c (List.mem_cons_of_mem _ hc)
    have ih := blw_range hv rv also (l := l) (ah := ah + b.fCount) (fun c hc => hW c (List.mem_cons_of_mem _ hc)) (fun c hc => hs c (List.mem_cons_of_mem _ hc))
    have an := vCmp_ord.anti v b.fLow
    rw [blw_cons, sumC]
    split
    · omega
    · split
      · have := inB_range (hW b (by simp)) hv h1 rv (by omega) (by assumption) also
        omega
      · omega
theorem blw_mono {v w : api_Value} (hv : W_api_Value v) (hw : W_api_Value w) (rv : vRight v = true) (rw' : vRight w = true) (h : vCmp v w ≤ 0) (also : Bool) : ∀ {l : List HB} {ah : Int}, (∀ b, b ∈ l → W_hist_Bucket b) → (∀ b, b ∈ l → Snd b) → blw l ah v also ≤ blw l ah w also
  | [], ah, _, _ => Int.le_refl _
  | b :: l, ah, hW, hs => by
    have h1 := hs b (by simp)
    have hWb := hW b (by simp)
    have := h1.c1
    have rw2 := blw_range hw rw' also (l := b :: l) (ah := ah) hW hs
    have ih := blw_mono hv hw rv rw' h also (l := l) (ah := ah + b.fCount) (fun c hc => hW c (List.mem_cons_of_mem _ hc)) (fun c hc => hs c (List.mem_cons_of_mem _ hc))
    have an1 := vCmp_ord.anti v b.fLow
    have an2 := vCmp_ord.anti w b.fLow
    rw [blw_cons (v := v)]
    by_cases c1 : vCmp v b.fLow < 0
    · rw [if_pos c1]; exact rw2.1
    · rw [if_neg c1]
      have t1 := vCmp_ord.trans b.fLow v w (by omega) h
      by_cases c2 : vCmp v b.fHigh ≤ 0
      · rw [if_pos c2, blw_cons, if_neg (by omega)]
        by_cases c3 : vCmp w b.fHigh ≤ 0
        · rw [if_pos c3]
          have := inB_mono hWb hv hw h1 rv rw' (by omega) h c3 also
          omega
        · rw [if_neg c3]
          have r1 := inB_range hWb hv h1 rv (by omega) c2 also
          have r2 := blw_range hw rw' also (l := l) (ah := ah + b.fCount) (fun c hc => hW c (List.mem_cons_of_mem _ hc)) (fun c hc => hs c (List.mem_cons_of_mem _ hc))
          omega
      · have c3 : ¬ vCmp w b.fHigh ≤ 0 := fun g => c2 (vCmp_ord.trans v w b.fHigh h g)
        rw [if_neg c2, blw_cons, if_neg (by omega), if_neg c3]
        exact ih
theorem inB_also {b : HB} {v : api_Value} (hs : Snd b) : inB b v false ≤ inB b v true := by
  have he := each_range hs
  unfold inB
  split
  · simp; omega
  · split
    · simp; omega
    · exact Int.le_refl _
theorem blw_also {v : api_Value} : ∀ {l : List HB} {ah : Int}, (∀ b, b ∈ l → Snd b) → blw l ah v false ≤ blw l ah v true
  | [], ah, _ => Int.le_refl _
  | b :: l, ah, hs => by
    have ih := blw_also (v := v) (l := l) (ah := ah + b.fCount) (fun c hc => hs c (List.mem_cons_of_mem _ hc))
    rw [blw_cons, blw_cons]
    split
    · exact Int.le_refl _
    · split
      · have := inB_also (v := v) (hs b (by simp)); omega
      · exact ih
theorem below_blw {h : List HB} {v : api_Value} (ha : askH h v = true) (also : Bool) : belowH h v also = blw h 0 v also := by
  unfold belowH blw; rw [if_pos ha]; rfl
theorem each_one {b : HB} (h : Snd b) (hd : b.fDistinct = 1) : eachB b = b.fCount := by
  unfold eachB; rw [hd, Int.tdiv_one]
/-- A bucket's bounds, behind others. -/
theorem blw_low {c : HB} (hc : Snd c) : ∀ {p l : List HB} {o : Option HB} {ah : Int}, chainP o (p ++ c :: l) = true → loc c.fLow (p ++ c :: l) ah = (some c, ah + sumC p) ∧ loc c.fHigh (p ++ c :: l) ah = (some c, ah + sumC p)
  | [], l, o, ah, hch => by
    have a1 := vCmp_ord.self c.fLow
    have a2 := vCmp_ord.self c.fHigh
    have a3 := hc.le
    have a4 := vCmp_ord.anti c.fLow c.fHigh
    rw [List.nil_append, loc, loc, if_neg (by omega), if_pos a3, if_neg (by omega), if_pos (by omega)]
    simp [sumC]
  | q :: p, l, o, ah, hch => by
    have hq : Snd q := chain_all hch q (by simp)
    have hn := chain_next hch
    have hb := chain_behind hn c (by simp)
    have ih := blw_low hc (p := p) (l := l) (ah := ah + q.fCount) hn
    have a1 := vCmp_ord.anti q.fHigh c.fLow
    have a2 := vCmp_ord.anti q.fLow c.fLow
    have a3 := vCmp_ord.anti q.fLow c.fHigh
    have a4 := vCmp_ord.anti q.fHigh c.fHigh
    have t1 := vCmp_ord.trans q.fLow q.fHigh c.fLow hq.le (by omega)
    have t2 := vCmp_ord.trans q.fHigh c.fLow c.fHigh (by omega) hc.le
    have t3 := vCmp_ord.trans q.fLow q.fHigh c.fHigh hq.le t2
    have t4 : vCmp q.fHigh c.fHigh ≠ 0 := by
      intro e
      have := vCmp_ord.trans c.fLow c.fHigh q.fHigh hc.le (by omega)
      omega
    rw [List.cons_append, loc, loc, if_neg (by omega), if_neg (by omega), if_neg (by omega), if_neg (by omega), sumC]
    rw [ih.1, ih.2]
    constructor <;> (congr 1; omega)
theorem bounds_low {c : HB} (hc : Snd c) : inB c c.fLow false = 0 := by
  unfold inB
  have a1 := vCmp_ord.self c.fLow
  by_cases e : vCmp c.fLow c.fHigh = 0
  · rw [if_pos e]
    have := each_one hc (hc.one.1 e)
    simp; omega
  · rw [if_neg e, if_pos a1]; rfl
theorem bounds_high {c : HB} : inB c c.fHigh true = c.fCount := by
  unfold inB
  rw [if_pos (vCmp_ord.self c.fHigh)]; rfl
theorem rises_loop {n : Nat} (hn : 2000050 ≤ n) {g : Option (List HB)} (hg : WH g) (hr : rightH (sll g) = true) : ∀ (l : List HB) (m : Nat) (p : List HB), sll g = p ++ l → l.length < m →
    law19_HistRises_l13 n g (fun y => (hist_Total n g).bind fun x => some (y == x)) m (sumC p) (p.length : Int) = some true
  | [], m, p, he, hm => by
    obtain ⟨m, rfl⟩ : ∃ j, m = j + 1 := ⟨m - 1, by omega⟩
    rw [List.append_nil] at he
    rw [law19_HistRises_l13, he, dF (by omega), cond_false, hist_Total_ok hg (by omega), Option.bind_some]
    unfold totH
    rw [hr, if_pos rfl, he, beq_self_eq_true]
  | c :: l, m, p, he, hm => by
    obtain ⟨m, rfl⟩ : ∃ j, m = j + 1 := ⟨m - 1, by omega⟩
    have hlen : (sll g).length = p.length + (l.length + 1) := by rw [he]; simp
    have hg1 := hg.1
    rw [List.length_cons] at hm
    obtain ⟨h1, h2⟩ := right_len hr
    have hall := chain_all h2
    have hc : Snd c := hall c (by rw [he]; simp)
    have hW := hg.2 c (by rw [he]; simp)
    have hix : idx (sll g) (p.length : Int) = some c := by rw [he]; exact idx_app p c l
    have pl := plain_right hc.pl
    have ph := plain_right hc.ph
    have a1 : askH (sll g) c.fLow = true := by unfold askH askV; rw [hr, pl.1]; simpa using pl.2
    have a2 : askH (sll g) c.fHigh = true := by unfold askH askV; rw [hr, ph.1]; simpa using ph.2
    have hl := blw_low hc (p := p) (l := l) (o := none) (ah := 0) (by rw [← he]; exact h2)
    rw [← he, Int.zero_add] at hl
    have b1 : belowH (sll g) c.fLow false = sumC p := by
      unfold belowH; rw [a1, if_pos rfl, hl.1]; simp only; rw [bounds_low hc]; omega
    have b2 : belowH (sll g) c.fHigh true = sumC p + c.fCount := by
      unfold belowH; rw [a2, if_pos rfl, hl.2]; simp only; rw [bounds_high]
    have b3 : equalH (sll g) c.fLow = eachB c := by
      unfold equalH; rw [a1, if_pos rfl, hl.1]
    have he1 := each_range hc
    have c1 := hc.c1; have c2 := hc.c2
    have hsp := sumC_range (h := p) fun b hb => hall b (by rw [he]; simp [hb])
    have hsum : sumC (p ++ [c]) = sumC p + c.fCount := by
      have : ∀ p : List HB, sumC (p ++ [c]) = sumC p + c.fCount := by
        intro p
        induction p with
        | nil => simp [sumC]
        | cons q p ih => rw [List.cons_append, sumC, ih, sumC]; omega
      exact this p
    rw [law19_HistRises_l13, dT (by omega), cond_true, hix, Option.bind_some, hist_Below_ok hg hW.1 false (by omega), Option.bind_some, b1, hist_Below_ok hg hW.2.1 true (by omega), Option.bind_some, b2, hist_Equal_ok hg hW.1 (by omega), Option.bind_some, b3, wrapI (x := sumC p + c.fCount) (by omega) (by omega)]
    simp only [bne_self_eq_false, cond_false]
    rw [dF (by omega : ¬ eachB c < 1), cond_false, wrapN (by omega)]
    have := rises_loop hn hg hr l m (p ++ [c]) (by rw [he]; simp) (by omega)
    rw [hsum, show (p ++ [c]).length = p.length + 1 by simp] at this
    exact this
theorem HistRises_true {n : Nat} (h : n = 4000000) {a : Option (List T19)} {v w : api_Value} (ha : WT a) (hv : W_api_Value v) (hw : W_api_Value w) : law19_HistRises n a v w = some true := by
  subst h
  rw [show (4000000 : Nat) = 3999999 + 1 from rfl]
  unfold law19_HistRises
  rw [at1_succ, works19_ok, Option.bind_some, Bool.not_true, cond_false]
  have wg := given_W ha
  have sg := sll_mapO gv (sll a)
  rw [given_ok ha (by decide), Option.bind_some]
  by_cases hl : ((sll a).length : Int) > 60
  · rw [dT hl, cond_true]
  rw [dF hl, cond_false, hist_Right_ok wg (by decide), Option.bind_some]
  cases hr : rightH (sll (mapO gv (sll a))) with
  | false => rfl
  | true =>
  rw [Bool.not_true, cond_false]
  cases h0 : ((sll a).length : Int) == 0 with
  | true => rfl
  | false =>
  rw [cond_false, value_Right_ok v (by decide), Option.bind_some]
  cases rv : vRight v with
  | false => rfl
  | true =>
  rw [Bool.not_true, cond_false, value_Right_ok w (by decide), Option.bind_some]
  cases rw' : vRight w with
  | false => rfl
  | true =>
  rw [Bool.not_true, cond_false]
  have hne : 0 < (sll a).length := by
    rw [beq_eq_false_iff_ne] at h0; omega
  have hi0 : idx (sll a) 0 = some (sll a)[0] := by
    have := idx_nat (sll a) 0
    rw [List.getElem?_eq_getElem hne] at this
    exact this
  rw [hi0, Option.bind_some]
  obtain ⟨h1, h2⟩ := right_len hr
  have hall := chain_all h2
  have hk0 : (sll a)[0].fLow.fKind ≠ 0 := by
    have : Snd (gv (sll a)[0]) := hall _ (by rw [sg]; exact List.mem_map_of_mem (List.getElem_mem hne))
    exact (plain_right this.pl).2
  cases hkv : v.fKind != (sll a)[0].fLow.fKind with
  | true => rfl
  | false =>
  rw [cond_false]
  cases hkw : w.fKind != (sll a)[0].fLow.fKind with
  | true => rfl
  | false =>
  rw [cond_false]
  have kv : v.fKind ≠ 0 := by
    have : v.fKind = (sll a)[0].fLow.fKind := by simpa using hkv
    rw [this]; exact hk0
  have kw : w.fKind ≠ 0 := by
    have : w.fKind = (sll a)[0].fLow.fKind := by simpa using hkw
    rw [this]; exact hk0
  -- the rest, of two in order
  have main : ∀ x y : api_Value, W_api_Value x → W_api_Value y → vRight x = true → vRight y = true → x.fKind ≠ 0 → y.fKind ≠ 0 → vCmp x y ≤ 0 →
      ((hist_Below 3999999 (mapO gv (sll a)) (api_Value.mk x.fKind x.fInt x.fFloat x.fText) false).bind fun x31 => (hist_Below 3999999 (mapO gv (sll a)) (api_Value.mk x.fKind x.fInt x.fFloat x.fText) true).bind fun x33 => (hist_Below 3999999 (mapO gv (sll a)) (api_Value.mk y.fKind y.fInt y.fFloat y.fText) false).bind fun x35 => withK (fun k38 => bif ((decide (x31 < 0)) || (decide (x33 < x31))) then some false else (hist_Below 3999999 (mapO gv (sll a)) (api_Value.mk y.fKind y.fInt y.fFloat y.fText) true).bind fun x63 => (hist_Total 3999999 (mapO gv (sll a))).bind fun x65 => bif ((decide (x63 > x65)) || (decide (x35 < x31))) then some false else (value_Cmp 3999999 (api_Value.mk x.fKind x.fInt x.fFloat x.fText) (api_Value.mk y.fKind y.fInt y.fFloat y.fText)).bind fun x68 => bif (decide (x68 < 0)) then (hist_Below 3999999 (mapO gv (sll a)) (api_Value.mk y.fKind y.fInt y.fFloat y.fText) true).bind fun x71 => bif (decide (x71 < x33)) then some false else k38 () else k38 ()) (fun (_ : Unit) => withK (fun k42 => law19_HistRises_l13 3999999 (mapO gv (sll a)) k42 3999999 0 0) (fun (y39 : Int) => (hist_Total 3999999 (mapO gv (sll a))).bind fun x43 => some (y39 == x43)))) = some true := by
    intro x y hx hy rx ry kx ky hxy
    show ((hist_Below 3999999 (mapO gv (sll a)) x false).bind fun x31 => (hist_Below 3999999 (mapO gv (sll a)) x true).bind fun x33 => (hist_Below 3999999 (mapO gv (sll a)) y false).bind fun x35 => withK (fun k38 => bif ((decide (x31 < 0)) || (decide (x33 < x31))) then some false else (hist_Below 3999999 (mapO gv (sll a)) y true).bind fun x63 => (hist_Total 3999999 (mapO gv (sll a))).bind fun x65 => bif ((decide (x63 > x65)) || (decide (x35 < x31))) then some false else (value_Cmp 3999999 x y).bind fun x68 => bif (decide (x68 < 0)) then (hist_Below 3999999 (mapO gv (sll a)) y true).bind fun x71 => bif (decide (x71 < x33)) then some false else k38 () else k38 ()) (fun (_ : Unit) => withK (fun k42 => law19_HistRises_l13 3999999 (mapO gv (sll a)) k42 3999999 0 0) (fun (y39 : Int) => (hist_Total 3999999 (mapO gv (sll a))).bind fun x43 => some (y39 == x43)))) = some true
    have ax : askH (sll (mapO gv (sll a))) x = true := by unfold askH askV; rw [hr, rx]; simpa using kx
    have ay : askH (sll (mapO gv (sll a))) y = true := by unfold askH askV; rw [hr, ry]; simpa using ky
    simp only [withK]
    rw [hist_Below_ok wg hx false (by decide), Option.bind_some, hist_Below_ok wg hx true (by decide), Option.bind_some, hist_Below_ok wg hy false (by decide), Option.bind_some, hist_Below_ok wg hy true (by decide), Option.bind_some, hist_Total_ok wg (by decide), Option.bind_some, value_Cmp_ok hx hy (by decide), Option.bind_some, Option.bind_some]
    have hW := wg.2
    have r1 := blw_range hx rx false hW hall (ah := 0)
    have r2 := blw_also (v := x) hall (ah := 0)
    have r3 := blw_range hy ry true hW hall (ah := 0)
    have r4 := blw_mono hx hy rx ry hxy false hW hall (ah := 0)
    have r5 := blw_mono hx hy rx ry hxy true hW hall (ah := 0)
    have et : totH (sll (mapO gv (sll a))) = sumC (sll (mapO gv (sll a))) := by unfold totH; rw [hr, if_pos rfl]
    rw [below_blw ax, below_blw ax, below_blw ay, below_blw ay, et]
    rw [dF (by omega : ¬ blw (sll (mapO gv (sll a))) 0 x false < 0), dF (by omega : ¬ blw (sll (mapO gv (sll a))) 0 x true < blw (sll (mapO gv (sll a))) 0 x false), dF (by omega : ¬ blw (sll (mapO gv (sll a))) 0 y true > sumC (sll (mapO gv (sll a)))), dF (by omega : ¬ blw (sll (mapO gv (sll a))) 0 y false < blw (sll (mapO gv (sll a))) 0 x false), dF (by omega : ¬ blw (sll (mapO gv (sll a))) 0 y true < blw (sll (mapO gv (sll a))) 0 x true)]
    simp only [Bool.or_false, cond_false]
    have fin := rises_loop (n := 3999999) (by decide) wg hr (sll (mapO gv (sll a))) 3999999 [] rfl (by omega)
    have fin' : law19_HistRises_l13 3999999 (mapO gv (sll a)) (fun y39 => (hist_Total 3999999 (mapO gv (sll a))).bind fun x43 => some (y39 == x43)) 3999999 0 0 = some true := fin
    rw [hist_Total_ok wg (by decide), et] at fin'
    rw [fin']
    cases decide (vCmp x y < 0) <;> rfl
  show (value_Cmp 3999999 v w).bind _ = _
  rw [value_Cmp_ok hv hw (by decide), Option.bind_some]
  by_cases hc : vCmp v w > 0
  · rw [dT hc, cond_true]
    have := vCmp_ord.anti v w
    exact main w v hw hv rw' rv kw kv (by omega)
  · rw [dF hc, cond_false]
    exact main v w hv hw rv rw' kv kw (by omega)
end Go.Pl
