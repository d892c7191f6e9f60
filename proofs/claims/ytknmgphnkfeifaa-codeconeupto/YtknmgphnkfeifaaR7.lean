import Derived.Test.YtknmgphnkfeifaaR6
namespace Go.Ab.Ytknmgphnkfeifaa
open Go Go.Ab
open Go.Proofs.Try
set_option maxRecDepth 100000
set_option maxHeartbeats 1000000
set_option linter.unusedSimpArgs false
set_option linter.unusedVariables false

theorem rowB_inj : ∀ {a b : List Int}, a.map rowB = b.map rowB → a = b
  | [], [], _ => rfl
  | [], _ :: _, h => by simp at h
  | _ :: _, [], h => by simp at h
  | x :: a, y :: b, h => by
    simp only [List.map_cons, List.cons.injEq, rowB, PV.int.injEq, and_true, true_and] at h
    rw [h.1, rowB_inj (a := a) (b := b) h.2]
theorem SL.inj {p : PV} {a b : List Int} (h : SL p a) (h' : SL p b) : a = b := by
  rcases h with rfl | ⟨rfl, rfl⟩
  · rcases h' with h' | ⟨h', _⟩
    · exact rowB_inj (PV.sl.inj h')
    · cases h'
  · rcases h' with h' | ⟨_, h'⟩
    · cases h'
    · exact h'.symm

/-- What is read as a number is its bytes. -/
theorem rdU_inv : ∀ (k i acc : Nat) (l : List Int) (n : Nat) (rest : List Int), Bytes l → rdU k i acc l = some (n, rest) → ∃ m, l = ubytes m ++ rest ∧ n = acc + m * 2 ^ (7 * i) ∧ (0 < i → 0 < m)
  | 0, i, acc, l, n, rest, _, h => by rw [rdU_zero] at h; cases h
  | k + 1, i, acc, [], n, rest, _, h => by rw [rdU_nil] at h; cases h
  | k + 1, i, acc, c :: l, n, rest, hl, h => by
    have hc := hl c (by simp)
    by_cases hb : (i = 9 ∧ c > 1) ∨ (i > 0 ∧ c = 0)
    · rw [rdU_bad hb] at h; cases h
    · by_cases hc2 : c < 128
      · rw [rdU_last hb hc2] at h
        simp only [Option.some.injEq, Prod.mk.injEq] at h
        obtain ⟨h1, rfl⟩ := h
        refine ⟨c.toNat, ?_, ?_, by omega⟩
        · rw [ubytes_lt (by omega), List.cons_append, List.nil_append, show ((c.toNat : Nat) : Int) = c by omega]
        · rw [← h1, show (c % 128).toNat = c.toNat by omega]
      · rw [rdU_next hb hc2] at h
        obtain ⟨m, rfl, h1, h2⟩ := rdU_inv k (i + 1) _ l n rest (fun x hx => hl x (by simp [hx])) h
        have hm := h2 (by omega)
        refine ⟨(c % 128).toNat + 128 * m, ?_, ?_, by omega⟩
        · rw [ubytes_ge (n := (c % 128).toNat + 128 * m) (by omega), List.cons_append]
          rw [show ((((c % 128).toNat + 128 * m) % 128 + 128 : Nat) : Int) = c by omega, show ((c % 128).toNat + 128 * m) / 128 = m by omega]
        · rw [h1, show 7 * (i + 1) = 7 * i + 7 by omega, Nat.pow_add, show 2 ^ 7 = 128 from rfl, Nat.add_mul, Nat.add_assoc, Nat.mul_comm (2 ^ (7 * i)) 128, Nat.mul_comm 128 m, Nat.mul_assoc]
theorem zz_unz (n : Nat) : zz (unz n) = n := by
  unfold zz
  by_cases h : n % 2 = 1
  · rw [unz_odd h, if_pos (by omega)]; omega
  · rw [unz_even h, if_neg (by omega)]; omega

theorem uint_any {p : PV} {l : List Int} (hp : SL p l) (hl : Bytes l) (N : Nat) (hN : 22 ≤ N) : ∃ (n : Nat) (q : PV) (e : Int), call G N 33 [.ptr 0 0, .pv (.int .u64 18446744073709551615)] [.box (bx p 0) false] = some (.ret (.pv (.int .u64 n)), [.box (bx q e) false]) ∧ n < 2 ^ 64 ∧ (e = 0 → ∃ rest, SL q rest ∧ l = ubytes n ++ rest) := by
  obtain ⟨v, H, h, o⟩ := uint_ok hp hl 18446744073709551615 N hN
  rcases hx : rdU 10 0 0 l with _ | ⟨n, rest⟩
  · rw [hx] at o
    obtain ⟨e', he', rfl, rfl⟩ := o
    exact ⟨0, .nils, e', h, by decide, fun h => absurd h he'⟩
  · rw [hx] at o
    have hb := (rdU_bound 10 0 0 l hl (by decide) (by omega) n rest hx).1
    have o : ite _ _ _ := o
    rw [if_neg (by omega)] at o
    obtain ⟨r, hr, rfl, rfl⟩ := o
    obtain ⟨m, h1, h2, _⟩ := rdU_inv 10 0 0 l n rest hl hx
    have : m = n := by rw [h2]; simp
    subst this
    exact ⟨m, r, 0, h, hb, fun _ => ⟨rest, hr, h1⟩⟩
theorem int_any {p : PV} {l : List Int} (hp : SL p l) (hl : Bytes l) (N : Nat) (hN : 23 ≤ N) : ∃ (i : Int) (q : PV) (e : Int), call G N 39 [.ptr 0 0] [.box (bx p 0) false] = some (.ret (.pv (.int .i64 i)), [.box (bx q e) false]) ∧ -9223372036854775808 ≤ i ∧ i < 9223372036854775808 ∧ (e = 0 → ∃ rest, SL q rest ∧ l = ubytes (zz i) ++ rest) := by
  obtain ⟨v, H, h, o⟩ := int_ok hp hl N hN
  rcases hx : rdU 10 0 0 l with _ | ⟨n, rest⟩
  · rw [hx] at o
    obtain ⟨e', he', rfl, rfl⟩ := o
    exact ⟨0, .nils, e', h, by decide, by decide, fun h => absurd h he'⟩
  · rw [hx] at o
    have hb := (rdU_bound 10 0 0 l hl (by decide) (by omega) n rest hx).1
    obtain ⟨r, hr, rfl, rfl⟩ := o
    obtain ⟨m, h1, h2, _⟩ := rdU_inv 10 0 0 l n rest hl hx
    have : m = n := by rw [h2]; simp
    subst this
    refine ⟨unz m, r, 0, h, ?_, ?_, fun _ => ⟨rest, hr, by rw [zz_unz]; exact h1⟩⟩ <;>
    · by_cases h : m % 2 = 1
      · rw [unz_odd h]; omega
      · rw [unz_even h]; omega
theorem end_any {q : PV} {e : Int} (h : e = 0 → ∃ rest, SL q rest) (N : Nat) (hN : 2 ≤ N) : ∃ x : Int, call G N 38 [.ptr 0 0] [.box (bx q e) false] = some (.ret (.pv (.int .i64 x)), [.box (bx q e) false]) ∧ (x = 0 → e = 0 ∧ SL q []) := by
  by_cases he : e = 0
  · subst he
    obtain ⟨rest, hr⟩ := h rfl
    cases rest with
    | nil => exact ⟨0, end_ok hr N hN, fun _ => ⟨rfl, hr⟩⟩
    | cons c rest => exact ⟨22, end_some hr (by simp) N hN, fun h => absurd h (by decide)⟩
  · exact ⟨e, end_err q he N hN, fun h => absurd h he⟩

theorem fixedB_low : ∀ (k a b : Nat), a % 256 ^ k = b % 256 ^ k → fixedB a k = fixedB b k := by
  intro k
  induction k with
  | zero => intros; rfl
  | succ k ih =>
    intro a b hab
    have hk : 0 < 256 ^ k := Nat.pow_pos (by decide)
    simp only [fixedB]
    have h1 : a % 256 ^ k = b % 256 ^ k := by
      have := congrArg (· % 256 ^ k) hab
      simp only [Nat.pow_succ] at this
      rwa [Nat.mod_mul_right_mod, Nat.mod_mul_right_mod] at this
    have h2 : a / 256 ^ k % 256 = b / 256 ^ k % 256 := by
      have := congrArg (· / 256 ^ k) hab
      simp only [Nat.pow_succ] at this
      rwa [Nat.mod_mul_right_div_self, Nat.mod_mul_right_div_self] at this
    rw [ih a b h1, h2]
theorem beN_fixedB : ∀ (k a m : Nat), a < 256 ^ k → beN m (fixedB a k) = m * 256 ^ k + a := by
  intro k
  induction k with
  | zero => intro a m ha; simp [fixedB, beN] at *; omega
  | succ k ih =>
    intro a m ha
    have hk : 0 < 256 ^ k := Nat.pow_pos (by decide)
    simp only [fixedB, beN, Int.toNat_natCast]
    rw [fixedB_low k a (a % 256 ^ k) (by simp), ih (a % 256 ^ k) _ (Nat.mod_lt _ hk)]
    have hd : a / 256 ^ k < 256 := by rw [Nat.pow_succ] at ha; exact Nat.div_lt_of_lt_mul ha
    rw [Nat.mod_eq_of_lt hd, Nat.pow_succ, Nat.add_mul, Nat.mul_assoc, Nat.mul_comm 256, Nat.add_assoc]
    congr 1
    have := Nat.div_add_mod a (256 ^ k)
    rw [Nat.mul_comm]; exact this
theorem fixedB_beN : ∀ (l : List Int) (n : Nat), Bytes l → ∀ m, beN m l % 256 ^ l.length = n → fixedB n l.length = l
  | [], n, _, m, _ => rfl
  | c :: l, n, hl, m, h => by
    have hc := hl c (by simp)
    have hl2 : Bytes l := fun x hx => hl x (by simp [hx])
    have key : ∀ (l : List Int) (m : Nat), beN m l = m * 256 ^ l.length + beN 0 l := by
      intro l
      induction l with
      | nil => intro m; simp [beN]
      | cons c l ih => intro m; simp only [beN, List.length_cons]; rw [ih (m * 256 + c.toNat), ih (0 * 256 + c.toNat), Nat.pow_succ, Nat.add_mul, Nat.zero_mul, Nat.zero_add, Nat.mul_assoc, Nat.mul_comm 256, Nat.add_assoc]
    have hb : beN 0 l < 256 ^ l.length := by have := beN_lt l 0 0 hl2 (by decide); simpa using this
    have hn : n = c.toNat * 256 ^ l.length + beN 0 l := by
      rw [← h, key (c :: l) m]
      simp only [List.length_cons, beN, Nat.zero_mul, Nat.zero_add]
      rw [key l c.toNat, Nat.add_comm (m * _), Nat.add_mul_mod_self_right]
      refine Nat.mod_eq_of_lt ?_
      have : c.toNat * 256 ^ l.length ≤ 255 * 256 ^ l.length := Nat.mul_le_mul (by omega) (Nat.le_refl _)
      rw [Nat.pow_succ]; omega
    have hp : 0 < 256 ^ l.length := Nat.pow_pos (by decide)
    simp only [List.length_cons, fixedB]
    have e1 : n / 256 ^ l.length = c.toNat := by
      rw [hn, Nat.add_comm, Nat.mul_comm, Nat.add_mul_div_left _ _ hp, Nat.div_eq_of_lt hb, Nat.zero_add]
    rw [e1, show ((c.toNat % 256 : Nat) : Int) = c by omega]
    congr 1
    rw [fixedB_low l.length n (beN 0 l) (by rw [hn, Nat.add_comm, Nat.add_mul_mod_self_right])]
    exact fixedB_beN l (beN 0 l) hl2 0 (Nat.mod_eq_of_lt hb)
theorem fixedB_read {L : List Int} (hL : Bytes L) : fixedB (beN 0 L) L.length = L := fixedB_beN L _ hL 0 (Nat.mod_eq_of_lt (by have := beN_lt L 0 0 hL (by decide); simpa using this))

theorem cl56 (C : CallF) (b : Nat) (look : Look) (nid : Nat) : aCall G C (.pv (.fn 56 [] [])) [.pv (.int .u64 b)] look nid = some (.ok ⟨.pv (.flt .f64 b), [], []⟩) := aCall_x func56 (by kernel_rfl) (by kernel_rfl) (x := fun
    | [.pv (.int .u64 n)] => some (.pv (.flt .f64 n.toNat))
    | _ => none) (by kernel_rfl) rfl

theorem float_any {p : PV} {l : List Int} (hp : SL p l) (hl : Bytes l) (N : Nat) (hN : 14 ≤ N) : ∃ (v : Nat) (q : PV) (e : Int), call G N 40 [.ptr 0 0] [.box (bx p 0) false] = some (.ret (.pv (.flt .f64 v)), [.box (bx q e) false]) ∧ v < 2 ^ 64 ∧ (e = 0 → ∃ rest, SL q rest ∧ l = fixedB v 8 ++ rest ∧ fbits v = v) ∧
    (∀ n rest, n < 2 ^ 64 → fbits n = n → l = fixedB n 8 ++ rest → v = n ∧ e = 0) := by
  obtain ⟨N, rfl⟩ : ∃ M, N = M + 1 := ⟨N - 1, by omega⟩
  by_cases hs : l.length < 8
  · obtain ⟨v1, H1, h1, rfl, rfl⟩ := fixed_short hp 8 (by rw [clip8]; exact hs) N (by omega)
    refine ⟨0, .nils, 21, ?_, by decide, fun h => absurd h (by decide), fun n rest _ _ h => ?_⟩
    · refine call_eq func40 rfl (show _ = [_, _, _, _, _, _, _, _, _, _, _, _, _, _, _, _, _, _, _] from rfl) ?_
      refine wp_seq ?_
      refine wp_region rfl rfl ?_
      refine wo_apv rfl rfl rfl rfl rfl ?_
      refine wo_nil ?_
      refine ⟨[_, _, _, _, _, _, _, _, _, _, _, _, _, _, _, _, _, _, _], rfl, ?_⟩
      refine wp_seq ?_
      refine wp_region rfl rfl ?_
      refine wo_move (v := .ptr _ _) rfl rfl rfl rfl rfl (fun h => AV.noConfusion h) ?_
      refine wo_call (v := .pv _) (H' := [_]) rfl rfl rfl rfl rfl rfl ((cl41 _ _ _ _).trans (callRef_box rfl rfl rfl rfl rfl (h1))) rfl rfl rfl ?_
      refine wo_apv rfl rfl rfl rfl rfl ?_
      refine wo_nil ?_
      refine ⟨[_, _, _, _, _, _, _, _, _, _, _, _, _, _, _, _, _, _, _], rfl, ?_⟩
      refine wp_seq ?_
      refine wp_seq ?_
      refine wp_region rfl rfl ?_
      refine wo_move (v := .ptr _ _) rfl rfl rfl rfl rfl (fun h => AV.noConfusion h) ?_
      refine wo_call (v := .pv (.bool false)) (H' := [_]) rfl rfl rfl rfl rfl rfl ((cl52 _ _ _ _).trans (callRef_box rfl rfl rfl rfl rfl (ready_err (by decide) _ (by omega)))) rfl rfl rfl ?_
      refine wo_un rfl rfl rfl rfl rfl ?_
      refine wo_nil ?_
      refine ⟨[_, _, _, _, _, _, _, _, _, _, _, _, _, _, _, _, _, _, _], rfl, ?_⟩
      refine wp_true rfl ?_
      refine wp_seq ?_
      refine wp_region rfl rfl ?_
      refine wo_apv rfl rfl rfl rfl rfl ?_
      refine wo_nil ?_
      refine ⟨[_, _, _, _, _, _, _, _, _, _, _, _, _, _, _, _, _, _, _], rfl, ?_⟩
      refine wp_ret ?_
      exact ⟨trivial, _, rfl, leave_same (.inl rfl) rfl⟩
    · rw [h] at hs; simp [fixedB_length] at hs; omega
  · obtain ⟨r, v1, H1, h1, hr, rfl, rfl⟩ := fixed_ok hp hl 8 (by rw [clip8]; omega) N (by omega)
    rw [clip8] at h1 hr
    have hB : Bytes (l.take 8) := fun x hx => hl x (List.mem_of_mem_take hx)
    have hlen : (l.take 8).length = 8 := by simp; omega
    have hb := beN_lt (l.take 8) 0 0 hB (by decide)
    rw [hlen] at hb
    have hfx := fixedB_read hB
    rw [hlen] at hfx
    have hinv : ∀ n rest, n < 2 ^ 64 → l = fixedB n 8 ++ rest → n = beN 0 (l.take 8) := by
      intro n rest hn h
      have e1 : l.take 8 = fixedB n 8 := by rw [h]; exact List.take_left' (fixedB_length n 8)
      rw [e1] at hfx ⊢
      have := beN_fixedB 8 n 0 (by omega)
      simpa using this.symm
    by_cases hf : fbits (beN 0 (l.take 8)) = beN 0 (l.take 8)
    · refine ⟨beN 0 (l.take 8), r, 0, ?_, by omega, fun _ => ⟨l.drop 8, hr, by rw [hfx, List.take_append_drop], hf⟩, fun n rest hn hfn h => ⟨(hinv n rest hn h).symm, rfl⟩⟩
      refine call_eq func40 rfl (show _ = [_, _, _, _, _, _, _, _, _, _, _, _, _, _, _, _, _, _, _] from rfl) ?_
      refine wp_seq ?_
      refine wp_region rfl rfl ?_
      refine wo_apv rfl rfl rfl rfl rfl ?_
      refine wo_nil ?_
      refine ⟨[_, _, _, _, _, _, _, _, _, _, _, _, _, _, _, _, _, _, _], rfl, ?_⟩
      refine wp_seq ?_
      refine wp_region rfl rfl ?_
      refine wo_move (v := .ptr _ _) rfl rfl rfl rfl rfl (fun h => AV.noConfusion h) ?_
      refine wo_call (v := .pv _) (H' := [_]) rfl rfl rfl rfl rfl rfl ((cl41 _ _ _ _).trans (callRef_box rfl rfl rfl rfl rfl (h1))) rfl rfl rfl ?_
      refine wo_apv rfl rfl rfl rfl rfl ?_
      refine wo_nil ?_
      refine ⟨[_, _, _, _, _, _, _, _, _, _, _, _, _, _, _, _, _, _, _], rfl, ?_⟩
      refine wp_seq ?_
      refine wp_seq ?_
      refine wp_region rfl rfl ?_
      refine wo_move (v := .ptr _ _) rfl rfl rfl rfl rfl (fun h => AV.noConfusion h) ?_
      refine wo_call (v := .pv (.bool true)) (H' := [_]) rfl rfl rfl rfl rfl rfl ((cl52 _ _ _ _).trans (callRef_box rfl rfl rfl rfl rfl (ready_ok _ 0 _ (by omega)))) rfl rfl rfl ?_
      refine wo_un rfl rfl rfl rfl rfl ?_
      refine wo_nil ?_
      refine ⟨[_, _, _, _, _, _, _, _, _, _, _, _, _, _, _, _, _, _, _], rfl, ?_⟩
      refine wp_false rfl ?_
      refine wp_skip ?_
      refine wp_seq ?_
      refine wp_region rfl rfl ?_
      refine wo_mpv rfl rfl rfl rfl rfl ?_
      refine wo_call (v := .pv (.flt .f64 _)) (H' := [_]) rfl rfl rfl rfl rfl rfl (cl56 _ _ _ _) rfl rfl rfl ?_
      refine wo_apv rfl rfl rfl rfl rfl ?_
      refine wo_nil ?_
      refine ⟨[_, _, _, _, _, _, _, _, _, _, _, _, _, _, _, _, _, _, _], rfl, ?_⟩
      refine wp_seq ?_
      refine wp_seq ?_
      refine wp_region rfl rfl ?_
      refine wo_mpv rfl rfl rfl rfl rfl ?_
      refine wo_call (v := .pv (.int .u64 _)) (H' := [_]) rfl rfl rfl rfl rfl rfl ((cl50 _ _ _ _).trans (callPure_pv rfl (fun _ => rfl) (bits_ok _ _ (by omega)))) rfl rfl rfl ?_
      refine wo_mpv rfl rfl rfl rfl rfl ?_
      refine wo_bin (v := .pv (.bool false)) rfl rfl rfl rfl (nF (by rw [hf])) ?_
      refine wo_nil ?_
      refine ⟨[_, _, _, _, _, _, _, _, _, _, _, _, _, _, _, _, _, _, _], rfl, ?_⟩
      refine wp_false rfl ?_
      refine wp_skip ?_
      refine wp_seq ?_
      refine wp_region rfl rfl ?_
      refine wo_mpv rfl rfl rfl rfl rfl ?_
      refine wo_apv rfl rfl rfl rfl rfl ?_
      refine wo_nil ?_
      refine ⟨[_, _, _, _, _, _, _, _, _, _, _, _, _, _, _, _, _, _, _], rfl, ?_⟩
      refine wp_ret ?_
      exact ⟨trivial, _, rfl, leave_same (.inl rfl) rfl⟩
    · refine ⟨0, .nils, 22, ?_, by decide, fun h => absurd h (by decide), fun n rest hn hfn h => ?_⟩
      · refine call_eq func40 rfl (show _ = [_, _, _, _, _, _, _, _, _, _, _, _, _, _, _, _, _, _, _] from rfl) ?_
        refine wp_seq ?_
        refine wp_region rfl rfl ?_
        refine wo_apv rfl rfl rfl rfl rfl ?_
        refine wo_nil ?_
        refine ⟨[_, _, _, _, _, _, _, _, _, _, _, _, _, _, _, _, _, _, _], rfl, ?_⟩
        refine wp_seq ?_
        refine wp_region rfl rfl ?_
        refine wo_move (v := .ptr _ _) rfl rfl rfl rfl rfl (fun h => AV.noConfusion h) ?_
        refine wo_call (v := .pv _) (H' := [_]) rfl rfl rfl rfl rfl rfl ((cl41 _ _ _ _).trans (callRef_box rfl rfl rfl rfl rfl (h1))) rfl rfl rfl ?_
        refine wo_apv rfl rfl rfl rfl rfl ?_
        refine wo_nil ?_
        refine ⟨[_, _, _, _, _, _, _, _, _, _, _, _, _, _, _, _, _, _, _], rfl, ?_⟩
        refine wp_seq ?_
        refine wp_seq ?_
        refine wp_region rfl rfl ?_
        refine wo_move (v := .ptr _ _) rfl rfl rfl rfl rfl (fun h => AV.noConfusion h) ?_
        refine wo_call (v := .pv (.bool true)) (H' := [_]) rfl rfl rfl rfl rfl rfl ((cl52 _ _ _ _).trans (callRef_box rfl rfl rfl rfl rfl (ready_ok _ 0 _ (by omega)))) rfl rfl rfl ?_
        refine wo_un rfl rfl rfl rfl rfl ?_
        refine wo_nil ?_
        refine ⟨[_, _, _, _, _, _, _, _, _, _, _, _, _, _, _, _, _, _, _], rfl, ?_⟩
        refine wp_false rfl ?_
        refine wp_skip ?_
        refine wp_seq ?_
        refine wp_region rfl rfl ?_
        refine wo_mpv rfl rfl rfl rfl rfl ?_
        refine wo_call (v := .pv (.flt .f64 _)) (H' := [_]) rfl rfl rfl rfl rfl rfl (cl56 _ _ _ _) rfl rfl rfl ?_
        refine wo_apv rfl rfl rfl rfl rfl ?_
        refine wo_nil ?_
        refine ⟨[_, _, _, _, _, _, _, _, _, _, _, _, _, _, _, _, _, _, _], rfl, ?_⟩
        refine wp_seq ?_
        refine wp_seq ?_
        refine wp_region rfl rfl ?_
        refine wo_mpv rfl rfl rfl rfl rfl ?_
        refine wo_call (v := .pv (.int .u64 _)) (H' := [_]) rfl rfl rfl rfl rfl rfl ((cl50 _ _ _ _).trans (callPure_pv rfl (fun _ => rfl) (bits_ok _ _ (by omega)))) rfl rfl rfl ?_
        refine wo_mpv rfl rfl rfl rfl rfl ?_
        refine wo_bin (v := .pv (.bool true)) rfl rfl rfl rfl (nT (by omega)) ?_
        refine wo_nil ?_
        refine ⟨[_, _, _, _, _, _, _, _, _, _, _, _, _, _, _, _, _, _, _], rfl, ?_⟩
        refine wp_true rfl ?_
        refine wp_seq ?_
        refine wp_region rfl rfl ?_
        refine wo_move (v := .ptr _ _) rfl rfl rfl rfl rfl (fun h => AV.noConfusion h) ?_
        refine wo_call (v := _) (H' := [_]) rfl rfl rfl rfl rfl rfl ((cl54 _ _ _ _).trans (callRef_box rfl rfl rfl rfl rfl (fail_ok _ _ _ _ (by omega)))) rfl rfl rfl ?_
        refine wo_nil ?_
        refine ⟨[_, _, _, _, _, _, _, _, _, _, _, _, _, _, _, _, _, _, _], rfl, ?_⟩
        refine wp_seq ?_
        refine wp_region rfl rfl ?_
        refine wo_apv rfl rfl rfl rfl rfl ?_
        refine wo_nil ?_
        refine ⟨[_, _, _, _, _, _, _, _, _, _, _, _, _, _, _, _, _, _, _], rfl, ?_⟩
        refine wp_ret ?_
        exact ⟨trivial, _, rfl, leave_same (.inl rfl) rfl⟩
      · rw [← hinv n rest hn h] at hf; exact absurd hfn hf

theorem rows_rf {look : Look} {k e : Nat} {l : List Int} (hl : look k = some (RB e l)) : rowsOf (RF k l) look = some (l.map rowB) := rows_new hl rfl
theorem fbits_lt {b : Nat} (hb : b < 2 ^ 64) : fbits b < 2 ^ 64 := by unfold fbits; split <;> (try split) <;> omega
theorem putFixed_rf {n : Nat} (size : Int) {l : List Int} (hl : l.length ≤ 100000) (hc : clip size ≠ 0) (N : Nat) (hN : 11 ≤ N) : call G N 29 [RF 0 l, .pv (.int .u64 n), .pv (.int .i64 size)] [RB 5 l] = some (.ret (RF 0 (l ++ fixedB n (clip size))), [RB 5 (l ++ fixedB n (clip size))]) := by
  have h := putFixed_ref n size ⟨l.map rowB, 0, 0, 0, 0⟩ 0 l.length (by have := canGrow_new (rows := l.map rowB); rwa [List.length_map] at this) (by omega) N hN
  have e0 : (fixedB n (clip size)).map rowB ≠ [] := by
    intro h; have := congrArg List.length h; simp [fixedB_length] at this; exact hc this
  have e1 : growO (⟨l.map rowB, 0, 0, 0, 0⟩ : Row) 0 l.length ((fixedB n (clip size)).map rowB) = (⟨(l ++ fixedB n (clip size)).map rowB, 0, 0, 0, 0⟩, 0) := by
    unfold growO; rw [if_neg e0]; simp [Go.Ab.grow]
  rw [e1] at h
  have e2 : l.length + clip size = (l ++ fixedB n (clip size)).length := by simp [fixedB_length]
  rw [e2] at h
  exact h
theorem putFixed_nil {n : Nat} (N : Nat) (hN : 11 ≤ N) : call G N 29 [.pv .nils, .pv (.int .u64 n), .pv (.int .i64 8)] [] = some (.ret (RF 0 (fixedB n 8)), [RB 5 (fixedB n 8)]) := by
  obtain ⟨N, rfl⟩ : ∃ M, N = M + 1 := ⟨N - 1, by omega⟩
  refine call_eq func29 rfl (show _ = [_, _, _, _, _, _, _, _, _, _, _, _, _, _, _, _, _, _, _, _, _, _, _, _, _, _] from rfl) ?_
  refine wp_seq ?_
  refine wp_region rfl rfl ?_
  refine wo_apv rfl rfl rfl rfl rfl ?_
  refine wo_nil ?_
  refine ⟨[_, _, _, _, _, _, _, _, _, _, _, _, _, _, _, _, _, _, _, _, _, _, _, _, _, _], rfl, ?_⟩
  refine wp_seq ?_
  refine wp_seq ?_
  refine wp_region rfl rfl ?_
  refine wo_mpv rfl rfl rfl rfl rfl ?_
  refine wo_fold (v := .pv (.int .i64 8)) (.inr ⟨rfl, rfl⟩) rfl rfl rfl rfl rfl rfl (rfl) rfl ?_
  refine wo_fold (v := .pv (.int .i64 8)) (.inl ⟨rfl, rfl⟩) rfl rfl rfl rfl rfl rfl (rfl) rfl ?_
  refine wo_bin (v := .pv (.int .i64 7)) rfl rfl rfl rfl (rfl) ?_
  refine wo_apv rfl rfl rfl rfl rfl ?_
  refine wo_nil ?_
  refine ⟨[_, _, _, _, _, _, _, _, _, _, _, _, _, _, _, _, _, _, _, _, _, _, _, _, _, _], rfl, ?_⟩
  refine wp_block ?_
  refine wp_loop (fun k t H => ∃ (j : Int) (acc : List Int), k ≤ 8 ∧ j = (k : Int) - 1 ∧ fixedB n 8 = acc ++ fixedB n k ∧ ((t = [.pv .nils, .pv (.int .u64 n), .any, .any, .any, .any, .any, .pv (.int .i64 j), .any, .any, .any, .any, .any, .any, .any, .any, .any, .any, .any, .any, .any, .any, .any, .any, .any, .any] ∧ H = [] ∧ acc = [] ∧ k = 8) ∨ (acc ≠ [] ∧ t = [RF 0 acc, .pv (.int .u64 n), .any, .any, .any, .any, .any, .pv (.int .i64 j), .any, .any, .any, .any, .any, .any, .any, .any, .any, .any, .any, .any, .any, .any, .any, .any, .any, .any] ∧ H = [RB 5 acc]))) 8 ⟨7, [], by omega, by omega, rfl, .inl ⟨rfl, rfl, rfl, rfl⟩⟩ (by omega) ?_
  rintro k _ _ hk ⟨j, acc, hk8, hj, hub, ⟨rfl, rfl, rfl, h8⟩ | ⟨hne, rfl, rfl⟩⟩
  ·
    refine wp_seq ?_
    refine wp_seq ?_
    refine wp_region rfl rfl ?_
    refine wo_mpv rfl rfl rfl rfl rfl ?_
    refine wo_bin (v := .pv (.bool true)) rfl rfl rfl rfl (bT (by omega)) ?_
    refine wo_nil ?_
    refine ⟨[_, _, _, _, _, _, _, _, _, _, _, _, _, _, _, _, _, _, _, _, _, _, _, _, _, _], rfl, ?_⟩
    refine wp_true rfl ?_
    refine wp_skip ?_
    refine wp_seq ?_
    refine wp_block ?_
    refine wp_region rfl rfl ?_
    obtain ⟨k', rfl⟩ : ∃ k' : Nat, j = (k' : Int) := ⟨j.toNat, by omega⟩
    refine wo_mpv rfl rfl rfl rfl rfl ?_
    refine wo_mpv rfl rfl rfl rfl rfl ?_
    refine wo_mpv rfl rfl rfl rfl rfl ?_
    refine wo_bin (v := .pv (.int .i64 (IntKind.i64.wrap (8 * (k' : Int))))) rfl rfl rfl rfl (rfl) ?_
    refine wo_convi t3 t81 rfl rfl rfl rfl rfl rfl ?_
    refine wo_bin (v := .pv (.int .u64 ((n / 256 ^ k' : Nat) : Int))) rfl rfl rfl rfl (shr8 n k' (by omega) _ rfl) ?_
    refine wo_conv (v := .pv (.int .u8 ((n / 256 ^ k' % 256 : Nat) : Int))) rfl rfl rfl rfl ((wconv t36 t5 rfl rfl).trans (iV (wrapB _))) rfl ?_
    refine wo_buildSlice (H' := [_]) rfl rfl rfl rfl (bs35 _ _) rfl ?_
    refine wo_append (v := RF 1 [((n / 256 ^ k' % 256 : Nat) : Int)]) (H' := [_, _]) t35 rfl rfl rfl rfl rfl rfl rfl rfl (show _ = some ([((n / 256 ^ k' % 256 : Nat) : Int)].map rowB) from rfl) (RB.app_nil (e := 5) (a := [((n / 256 ^ k' % 256 : Nat) : Int)]) t35 rfl t5 rfl rfl (by simp) (by simp)) rfl rfl rfl ?_
    refine wo_assign (v := .ref _ _ _ _ _ _) rfl rfl rfl rfl rfl (fun h => AV.noConfusion h) ?_
    refine wo_nil ?_
    refine ⟨[_, _, _, _, _, _, _, _, _, _, _, _, _, _, _, _, _, _, _, _, _, _, _, _, _, _], rfl, ?_⟩
    refine wp_region rfl rfl ?_
    refine wo_mpv rfl rfl rfl rfl rfl ?_
    refine wo_bin (v := .pv (.int .i64 ((k' : Int) - 1))) rfl rfl rfl rfl (iV (wrapI (by omega) (by omega))) ?_
    refine wo_apv rfl rfl rfl rfl rfl ?_
    refine wo_nil ?_
    refine ⟨[_, _, _, _, _, _, _, _, _, _, _, _, _, _, _, _, _, _, _, _, _, _, _, _, _, _], rfl, ?_⟩
    obtain rfl : k = k' + 1 := by omega
    refine ⟨[RF 0 [((n / 256 ^ k' % 256 : Nat) : Int)], .pv (.int .u64 n), .any, .any, .any, .any, .any, .pv (.int .i64 ((k' : Int) - 1)), .any, .any, .any, .any, .any, .any, .any, .any, .any, .any, .any, .any, .any, .any, .any, .any, .any, .any], [RB 5 [((n / 256 ^ k' % 256 : Nat) : Int)]], tidy_ren (t' := [_, _, _, _, _, _, _, _, _, _, _, _, _, _, _, _, _, _, _, _, _, _, _, _, _, _]) (order := [1]) (bs := [_]) rfl rfl rfl (by kernel_rfl) (by kernel_rfl) rfl (by kernel_rfl), k', by omega, _, [((n / 256 ^ k' % 256 : Nat) : Int)], by omega, rfl, by rw [hub]; rfl, .inr ⟨by simp, rfl, rfl⟩⟩
  ·
    have hln : 8 = acc.length + k := by have := congrArg List.length hub; simpa [fixedB_length] using this
    refine wp_seq ?_
    refine wp_seq ?_
    refine wp_region rfl rfl ?_
    refine wo_mpv rfl rfl rfl rfl rfl ?_
    refine wo_bsplit rfl rfl rfl rfl rfl (fun c2_1 => ?_) (fun c2_1 => ?_)
    ·
      refine wo_nil ?_
      refine ⟨[_, _, _, _, _, _, _, _, _, _, _, _, _, _, _, _, _, _, _, _, _, _, _, _, _, _], rfl, ?_⟩
      refine wp_true rfl ?_
      refine wp_skip ?_
      refine wp_seq ?_
      refine wp_block ?_
      refine wp_region rfl rfl ?_
      obtain ⟨k', rfl⟩ : ∃ k' : Nat, j = (k' : Int) := ⟨j.toNat, by omega⟩
      refine wo_move (v := .ref _ _ _ _ _ _) rfl rfl rfl rfl rfl (fun h => AV.noConfusion h) ?_
      refine wo_mpv rfl rfl rfl rfl rfl ?_
      refine wo_mpv rfl rfl rfl rfl rfl ?_
      refine wo_bin (v := .pv (.int .i64 (IntKind.i64.wrap (8 * (k' : Int))))) rfl rfl rfl rfl (rfl) ?_
      refine wo_convi t3 t81 rfl rfl rfl rfl rfl rfl ?_
      refine wo_bin (v := .pv (.int .u64 ((n / 256 ^ k' : Nat) : Int))) rfl rfl rfl rfl (shr8 n k' (by omega) _ rfl) ?_
      refine wo_conv (v := .pv (.int .u8 ((n / 256 ^ k' % 256 : Nat) : Int))) rfl rfl rfl rfl ((wconv t36 t5 rfl rfl).trans (iV (wrapB _))) rfl ?_
      refine wo_buildSlice (H' := [_, _]) rfl rfl rfl rfl (bs35 _ _) rfl ?_
      refine wo_append (v := RF 0 (acc ++ [((n / 256 ^ k' % 256 : Nat) : Int)])) (H' := [_, _]) t35 rfl rfl rfl rfl rfl rfl rfl rfl (show _ = some ([((n / 256 ^ k' % 256 : Nat) : Int)].map rowB) from rfl) (RB.app (e := 5) (a := [((n / 256 ^ k' % 256 : Nat) : Int)]) t35 rfl t5 rfl rfl rfl rfl (by simp) (by simp; omega)) rfl rfl rfl ?_
      refine wo_assign (v := .ref _ _ _ _ _ _) rfl rfl rfl rfl rfl (fun h => AV.noConfusion h) ?_
      refine wo_nil ?_
      refine ⟨[_, _, _, _, _, _, _, _, _, _, _, _, _, _, _, _, _, _, _, _, _, _, _, _, _, _], rfl, ?_⟩
      refine wp_region rfl rfl ?_
      refine wo_mpv rfl rfl rfl rfl rfl ?_
      refine wo_bin (v := .pv (.int .i64 ((k' : Int) - 1))) rfl rfl rfl rfl (iV (wrapI (by omega) (by omega))) ?_
      refine wo_apv rfl rfl rfl rfl rfl ?_
      refine wo_nil ?_
      refine ⟨[_, _, _, _, _, _, _, _, _, _, _, _, _, _, _, _, _, _, _, _, _, _, _, _, _, _], rfl, ?_⟩
      obtain rfl : k = k' + 1 := by omega
      refine ⟨[RF 0 (acc ++ [((n / 256 ^ k' % 256 : Nat) : Int)]), .pv (.int .u64 n), .any, .any, .any, .any, .any, .pv (.int .i64 ((k' : Int) - 1)), .any, .any, .any, .any, .any, .any, .any, .any, .any, .any, .any, .any, .any, .any, .any, .any, .any, .any], [RB 5 (acc ++ [((n / 256 ^ k' % 256 : Nat) : Int)])], tidy_ren (t' := [_, _, _, _, _, _, _, _, _, _, _, _, _, _, _, _, _, _, _, _, _, _, _, _, _, _]) (order := [0]) (bs := [_]) rfl rfl rfl (by kernel_rfl) (by kernel_rfl) rfl (by kernel_rfl), k', by omega, _, acc ++ [((n / 256 ^ k' % 256 : Nat) : Int)], by omega, rfl, by rw [hub]; simp [fixedB], .inr ⟨by simp, rfl, rfl⟩⟩
    ·
      refine wo_nil ?_
      refine ⟨[_, _, _, _, _, _, _, _, _, _, _, _, _, _, _, _, _, _, _, _, _, _, _, _, _, _], rfl, ?_⟩
      refine wp_false rfl ?_
      refine wp_exit ?_
      refine wp_seq ?_
      refine wp_region rfl rfl ?_
      refine wo_move (v := .ref _ _ _ _ _ _) rfl rfl rfl rfl rfl (fun h => AV.noConfusion h) ?_
      refine wo_assign (v := .ref _ _ _ _ _ _) rfl rfl rfl rfl rfl (fun h => AV.noConfusion h) ?_
      refine wo_nil ?_
      refine ⟨[_, _, _, _, _, _, _, _, _, _, _, _, _, _, _, _, _, _, _, _, _, _, _, _, _, _], rfl, ?_⟩
      refine wp_ret ?_
      obtain rfl : k = 0 := by omega
      have hub2 : fixedB n 8 = acc := by rw [hub]; simp [fixedB]
      rw [hub2]
      exact ⟨trivial, _, rfl, leave_new (.inl rfl) rfl rfl⟩
theorem putFloat_nil (b : Nat) (N : Nat) (hN : 12 ≤ N) : call G N 27 [.pv .nils, .pv (.flt .f64 b)] [] = some (.ret (RF 0 (fixedB (fbits b) 8)), [RB 5 (fixedB (fbits b) 8)]) := by
  obtain ⟨N, rfl⟩ : ∃ M, N = M + 1 := ⟨N - 1, by omega⟩
  refine call_eq func27 rfl (show _ = [_, _, _, _, _, _, _, _, _] from rfl) ?_
  refine wp_seq ?_
  refine wp_region rfl rfl ?_
  refine wo_apv rfl rfl rfl rfl rfl ?_
  refine wo_nil ?_
  refine ⟨[_, _, _, _, _, _, _, _, _], rfl, ?_⟩
  refine wp_seq ?_
  refine wp_region rfl rfl ?_
  refine wo_mpv rfl rfl rfl rfl rfl ?_
  refine wo_mpv rfl rfl rfl rfl rfl ?_
  refine wo_call (v := .pv (.int .u64 _)) (H' := []) rfl rfl rfl rfl rfl rfl ((cl50 _ _ _ _).trans (callPure_pv rfl (fun _ => rfl) (bits_ok _ _ (by omega)))) rfl rfl rfl ?_
  refine wo_call (v := RF 0 (fixedB (fbits b) 8)) (H' := [_]) rfl rfl rfl rfl rfl rfl ((cl29 _ _ _ _).trans (callRef_new rfl row_ren (putFixed_nil _ (by omega)))) rfl rfl rfl ?_
  refine wo_assign (v := .ref _ _ _ _ _ _) rfl rfl rfl rfl rfl (fun h => AV.noConfusion h) ?_
  refine wo_nil ?_
  refine ⟨[_, _, _, _, _, _, _, _, _], rfl, ?_⟩
  refine wp_ret ?_
  exact ⟨trivial, _, rfl, leave_new (.inl rfl) rfl rfl⟩
theorem putFloat_rf (b : Nat) {l : List Int} (hl : l.length ≤ 100000) (N : Nat) (hN : 12 ≤ N) : call G N 27 [RF 0 l, .pv (.flt .f64 b)] [RB 5 l] = some (.ret (RF 0 (l ++ fixedB (fbits b) 8)), [RB 5 (l ++ fixedB (fbits b) 8)]) := by
  obtain ⟨N, rfl⟩ : ∃ M, N = M + 1 := ⟨N - 1, by omega⟩
  refine call_eq func27 rfl (show _ = [_, _, _, _, _, _, _, _, _] from rfl) ?_
  refine wp_seq ?_
  refine wp_region rfl rfl ?_
  refine wo_apv rfl rfl rfl rfl rfl ?_
  refine wo_nil ?_
  refine ⟨[_, _, _, _, _, _, _, _, _], rfl, ?_⟩
  refine wp_seq ?_
  refine wp_region rfl rfl ?_
  refine wo_move (v := .ref _ _ _ _ _ _) rfl rfl rfl rfl rfl (fun h => AV.noConfusion h) ?_
  refine wo_mpv rfl rfl rfl rfl rfl ?_
  refine wo_call (v := .pv (.int .u64 _)) (H' := [_]) rfl rfl rfl rfl rfl rfl ((cl50 _ _ _ _).trans (callPure_pv rfl (fun _ => rfl) (bits_ok _ _ (by omega)))) rfl rfl rfl ?_
  refine wo_call (v := RF 0 (l ++ fixedB (fbits b) 8)) (H' := [_]) rfl rfl rfl rfl rfl rfl ((cl29 _ _ _ _).trans (callRef_row rfl rfl rfl row_ren row_ren (putFixed_rf 8 hl (by decide) _ (by omega)))) rfl rfl rfl ?_
  refine wo_assign (v := .ref _ _ _ _ _ _) rfl rfl rfl rfl rfl (fun h => AV.noConfusion h) ?_
  refine wo_nil ?_
  refine ⟨[_, _, _, _, _, _, _, _, _], rfl, ?_⟩
  refine wp_ret ?_
  exact ⟨trivial, _, rfl, leave_same (.inl rfl) rfl⟩

theorem one {p : PV} {l : List Int} (hp : SL p l) (hl : Bytes l) : call G 61 6 [.pv p] [] = some (.ret (.pv (.bool true)), []) := by
  have hw := works31
  obtain ⟨n, q0, e0, h0, hn, k0⟩ := uint_any hp hl 60 (by omega)
  obtain ⟨i, q1, e1, h1, hi1, hi2, k1⟩ := int_any hp hl 60 (by omega)
  obtain ⟨f, q2, e2, h2, hf, k2, _⟩ := float_any hp hl 60 (by omega)
  obtain ⟨x0, g0, r0⟩ := end_any (fun h => (k0 h).imp fun _ h => h.1) 60 (by omega)
  obtain ⟨x1, g1, r1⟩ := end_any (fun h => (k1 h).imp fun _ h => h.1) 60 (by omega)
  obtain ⟨x2, g2, r2⟩ := end_any (fun h => (k2 h).imp fun _ h => h.1) 60 (by omega)
  have j0 : x0 = 0 → ubytes n = l := fun h => by
    obtain ⟨he, hq⟩ := r0 h
    obtain ⟨rest, hr, hl⟩ := k0 he
    rw [hl, SL.inj hr hq, List.append_nil]
  have j1 : x1 = 0 → ubytes (zz i) = l := fun h => by
    obtain ⟨he, hq⟩ := r1 h
    obtain ⟨rest, hr, hl⟩ := k1 he
    rw [hl, SL.inj hr hq, List.append_nil]
  have j2 : x2 = 0 → fixedB (fbits f) 8 = l := fun h => by
    obtain ⟨he, hq⟩ := r2 h
    obtain ⟨rest, hr, hl, hf⟩ := k2 he
    rw [hl, SL.inj hr hq, List.append_nil, hf]
  refine call_eq func6 rfl (show _ = [_, _, _, _, _, _, _, _, _, _, _, _, _, _, _, _, _, _, _, _, _, _, _, _, _, _, _, _, _, _, _, _, _, _, _, _, _, _, _, _, _, _, _, _, _, _, _, _, _, _, _, _, _, _, _, _, _, _, _, _, _, _, _, _, _, _, _, _, _] from rfl) ?_
  refine wp_seq ?_
  refine wp_region rfl rfl ?_
  refine wo_apv rfl rfl rfl rfl rfl ?_
  refine wo_nil ?_
  refine ⟨[_, _, _, _, _, _, _, _, _, _, _, _, _, _, _, _, _, _, _, _, _, _, _, _, _, _, _, _, _, _, _, _, _, _, _, _, _, _, _, _, _, _, _, _, _, _, _, _, _, _, _, _, _, _, _, _, _, _, _, _, _, _, _, _, _, _, _, _, _], rfl, ?_⟩
  refine wp_seq ?_
  refine wp_seq ?_
  refine wp_region rfl rfl ?_
  refine wo_call (v := .pv (.bool true)) (H' := []) rfl rfl rfl rfl rfl rfl ((cl31 _ _ _ _).trans (callPure_pv rfl (fun _ => rfl) hw)) rfl rfl rfl ?_
  refine wo_un rfl rfl rfl rfl rfl ?_
  refine wo_nil ?_
  refine ⟨[_, _, _, _, _, _, _, _, _, _, _, _, _, _, _, _, _, _, _, _, _, _, _, _, _, _, _, _, _, _, _, _, _, _, _, _, _, _, _, _, _, _, _, _, _, _, _, _, _, _, _, _, _, _, _, _, _, _, _, _, _, _, _, _, _, _, _, _, _], rfl, ?_⟩
  refine wp_false rfl ?_
  refine wp_skip ?_
  refine wp_seq ?_
  refine wp_seq ?_
  refine wp_region rfl rfl ?_
  refine wo_mpv rfl rfl rfl rfl rfl ?_
  refine wo_len (ln := l.length) t35 rfl rfl rfl rfl rfl rfl rfl (hp.len 5) rfl ?_
  refine wo_bsplit rfl rfl rfl rfl rfl (fun c3_2 => ?_) (fun c3_2 => ?_)
  ·
    refine wo_nil ?_
    refine ⟨[_, _, _, _, _, _, _, _, _, _, _, _, _, _, _, _, _, _, _, _, _, _, _, _, _, _, _, _, _, _, _, _, _, _, _, _, _, _, _, _, _, _, _, _, _, _, _, _, _, _, _, _, _, _, _, _, _, _, _, _, _, _, _, _, _, _, _, _, _], rfl, ?_⟩
    refine wp_true rfl ?_
    refine wp_seq ?_
    refine wp_region rfl rfl ?_
    refine wo_apv rfl rfl rfl rfl rfl ?_
    refine wo_nil ?_
    refine ⟨[_, _, _, _, _, _, _, _, _, _, _, _, _, _, _, _, _, _, _, _, _, _, _, _, _, _, _, _, _, _, _, _, _, _, _, _, _, _, _, _, _, _, _, _, _, _, _, _, _, _, _, _, _, _, _, _, _, _, _, _, _, _, _, _, _, _, _, _, _], rfl, ?_⟩
    refine wp_ret ?_
    exact ⟨trivial, _, rfl, leave_pure⟩
  ·
    refine wo_nil ?_
    refine ⟨[_, _, _, _, _, _, _, _, _, _, _, _, _, _, _, _, _, _, _, _, _, _, _, _, _, _, _, _, _, _, _, _, _, _, _, _, _, _, _, _, _, _, _, _, _, _, _, _, _, _, _, _, _, _, _, _, _, _, _, _, _, _, _, _, _, _, _, _, _], rfl, ?_⟩
    refine wp_false rfl ?_
    refine wp_skip ?_
    refine wp_seq ?_
    refine wp_region rfl rfl ?_
    refine wo_mpv rfl rfl rfl rfl rfl ?_
    refine wo_call (v := .ptr 0 0) (H' := [_]) rfl rfl rfl rfl rfl rfl ((cl32 _ _ _ _).trans (callPure_pp rfl (read_ok _ _ (by omega)))) rfl rfl rfl ?_
    refine wo_mpv rfl rfl rfl rfl rfl ?_
    refine wo_call (v := .ptr 1 0) (H' := [_, _]) rfl rfl rfl rfl rfl rfl ((cl32 _ _ _ _).trans (callPure_pp rfl (read_ok _ _ (by omega)))) rfl rfl rfl ?_
    refine wo_mpv rfl rfl rfl rfl rfl ?_
    refine wo_call (v := .ptr 2 0) (H' := [_, _, _]) rfl rfl rfl rfl rfl rfl ((cl32 _ _ _ _).trans (callPure_pp rfl (read_ok _ _ (by omega)))) rfl rfl rfl ?_
    refine wo_assign (v := .ptr _ _) rfl rfl rfl rfl rfl (fun h => AV.noConfusion h) ?_
    refine wo_assign (v := .ptr _ _) rfl rfl rfl rfl rfl (fun h => AV.noConfusion h) ?_
    refine wo_assign (v := .ptr _ _) rfl rfl rfl rfl rfl (fun h => AV.noConfusion h) ?_
    refine wo_nil ?_
    refine ⟨[_, _, _, _, _, _, _, _, _, _, _, _, _, _, _, _, _, _, _, _, _, _, _, _, _, _, _, _, _, _, _, _, _, _, _, _, _, _, _, _, _, _, _, _, _, _, _, _, _, _, _, _, _, _, _, _, _, _, _, _, _, _, _, _, _, _, _, _, _], rfl, ?_⟩
    refine wp_seq ?_
    refine wp_seq ?_
    refine wp_region rfl rfl ?_
    refine wo_move (v := .ptr _ _) rfl rfl rfl rfl rfl (fun h => AV.noConfusion h) ?_
    refine wo_bint t49 rfl rfl rfl rfl rfl ?_
    refine wo_mpv rfl rfl rfl rfl rfl ?_
    refine wo_move (v := .ptr _ _) rfl rfl rfl rfl rfl (fun h => AV.noConfusion h) ?_
    refine wo_bint t49 rfl rfl rfl rfl rfl ?_
    refine wo_pick (v := .pv _) rfl rfl rfl rfl rfl rfl ?_
    refine wo_mpv rfl rfl rfl rfl rfl ?_
    refine wo_move (v := .ptr _ _) rfl rfl rfl rfl rfl (fun h => AV.noConfusion h) ?_
    refine wo_bint t49 rfl rfl rfl rfl rfl ?_
    refine wo_pick (v := .pv _) rfl rfl rfl rfl rfl rfl ?_
    refine wo_nil ?_
    refine ⟨[_, _, _, _, _, _, _, _, _, _, _, _, _, _, _, _, _, _, _, _, _, _, _, _, _, _, _, _, _, _, _, _, _, _, _, _, _, _, _, _, _, _, _, _, _, _, _, _, _, _, _, _, _, _, _, _, _, _, _, _, _, _, _, _, _, _, _, _, _], rfl, ?_⟩
    refine wp_false rfl ?_
    refine wp_skip ?_
    refine wp_seq ?_
    refine wp_region rfl rfl ?_
    refine wo_move (v := .ptr _ _) rfl rfl rfl rfl rfl (fun h => AV.noConfusion h) ?_
    refine wo_call (v := .pv (.int .u64 _)) (H' := [_, _, _]) rfl rfl rfl rfl rfl rfl ((cl33 _ _ _ _).trans (callRef_box rfl rfl rfl rfl rfl (h0))) rfl rfl rfl ?_
    refine wo_move (v := .ptr _ _) rfl rfl rfl rfl rfl (fun h => AV.noConfusion h) ?_
    refine wo_call (v := .pv (.int .i64 _)) (H' := [_, _, _]) rfl rfl rfl rfl rfl rfl ((cl39 _ _ _ _).trans (callRef_box rfl rfl rfl rfl rfl (h1))) rfl rfl rfl ?_
    refine wo_move (v := .ptr _ _) rfl rfl rfl rfl rfl (fun h => AV.noConfusion h) ?_
    refine wo_call (v := .pv (.flt .f64 _)) (H' := [_, _, _]) rfl rfl rfl rfl rfl rfl ((cl40 _ _ _ _).trans (callRef_box rfl rfl rfl rfl rfl (h2))) rfl rfl rfl ?_
    refine wo_apv rfl rfl rfl rfl rfl ?_
    refine wo_apv rfl rfl rfl rfl rfl ?_
    refine wo_apv rfl rfl rfl rfl rfl ?_
    refine wo_nil ?_
    refine ⟨[_, _, _, _, _, _, _, _, _, _, _, _, _, _, _, _, _, _, _, _, _, _, _, _, _, _, _, _, _, _, _, _, _, _, _, _, _, _, _, _, _, _, _, _, _, _, _, _, _, _, _, _, _, _, _, _, _, _, _, _, _, _, _, _, _, _, _, _, _], rfl, ?_⟩
    refine wp_seq ?_
    refine wp_seq ?_
    refine wp_drawn rfl rfl (by kernel_rfl) ?_
    refine wo_move (v := .ptr _ _) rfl rfl rfl rfl rfl (fun h => AV.noConfusion h) ?_
    refine wo_call (v := .pv _) (H' := [_, _, _]) rfl rfl rfl rfl rfl rfl ((cl38 _ _ _ _).trans (callRef_box rfl rfl rfl rfl rfl (g0))) rfl rfl rfl ?_
    refine wo_esplit rfl rfl rfl rfl rfl (fun c9_2 => ?_) (fun c9_2 => ?_)
    ·
      refine wo_mpv rfl rfl rfl rfl rfl ?_
      refine wo_mpv rfl rfl rfl rfl rfl ?_
      refine wo_call (v := RF 3 (ubytes n)) (H' := [_, _, _, _]) rfl rfl rfl rfl rfl rfl ((cl21 _ _ _ _).trans (callRef_new rfl row_ren (putUint_nil hn _ (by omega)))) rfl rfl rfl ?_
      refine wo_conv (v := .pv (.str (strOf (ubytes n)))) rfl rfl rfl rfl (conv_rows t35 rfl t9 rfl t5 rfl (rows_rf rfl)) rfl ?_
      refine wo_mpv rfl rfl rfl rfl rfl ?_
      refine wo_conv (v := .pv (.str (strOf l))) rfl rfl rfl rfl (conv_rows t35 rfl t9 rfl t5 hp.noStr (hp.rows _)) rfl ?_
      refine wo_bin (v := .pv (.bool false)) rfl rfl rfl rfl ((by rw [j0 c9_2]; exact strNe _)) ?_
      refine wo_pick (v := .pv _) rfl rfl rfl rfl rfl rfl ?_
      refine wo_nil ?_
      refine ⟨by kernel_rfl, ?_⟩
      refine ⟨[_, _, _, _, _, _, _, _, _, _, _, _, _, _, _, _, _, _, _, _, _, _, _, _, _, _, _, _, _, _, _, _, _, _, _, _, _, _, _, _, _, _, _, _, _, _, _, _, _, _, _, _, _, _, _, _, _, _, _, _, _, _, _, _, _, _, _, _, _], rfl, ?_⟩
      refine wp_false rfl ?_
      refine wp_skip ?_
      refine wp_seq ?_
      refine wp_seq ?_
      refine wp_drawn rfl rfl (by kernel_rfl) ?_
      refine wo_move (v := .ptr _ _) rfl rfl rfl rfl rfl (fun h => AV.noConfusion h) ?_
      refine wo_call (v := .pv _) (H' := [_, _, _, _]) rfl rfl rfl rfl rfl rfl ((cl38 _ _ _ _).trans (callRef_box rfl rfl rfl rfl rfl (g1))) rfl rfl rfl ?_
      refine wo_esplit rfl rfl rfl rfl rfl (fun c11_2 => ?_) (fun c11_2 => ?_)
      ·
        refine wo_mpv rfl rfl rfl rfl rfl ?_
        refine wo_mpv rfl rfl rfl rfl rfl ?_
        refine wo_call (v := RF 4 (ubytes (zz i))) (H' := [_, _, _, _, _]) rfl rfl rfl rfl rfl rfl ((cl23 _ _ _ _).trans (callRef_new rfl row_ren (putInt_nil hi1 hi2 _ (by omega)))) rfl rfl rfl ?_
        refine wo_conv (v := .pv (.str (strOf (ubytes (zz i))))) rfl rfl rfl rfl (conv_rows t35 rfl t9 rfl t5 rfl (rows_rf rfl)) rfl ?_
        refine wo_mpv rfl rfl rfl rfl rfl ?_
        refine wo_conv (v := .pv (.str (strOf l))) rfl rfl rfl rfl (conv_rows t35 rfl t9 rfl t5 hp.noStr (hp.rows _)) rfl ?_
        refine wo_bin (v := .pv (.bool false)) rfl rfl rfl rfl ((by rw [j1 c11_2]; exact strNe _)) ?_
        refine wo_pick (v := .pv _) rfl rfl rfl rfl rfl rfl ?_
        refine wo_nil ?_
        refine ⟨by kernel_rfl, ?_⟩
        refine ⟨[_, _, _, _, _, _, _, _, _, _, _, _, _, _, _, _, _, _, _, _, _, _, _, _, _, _, _, _, _, _, _, _, _, _, _, _, _, _, _, _, _, _, _, _, _, _, _, _, _, _, _, _, _, _, _, _, _, _, _, _, _, _, _, _, _, _, _, _, _], rfl, ?_⟩
        refine wp_false rfl ?_
        refine wp_skip ?_
        refine wp_seq ?_
        refine wp_drawn rfl rfl (by kernel_rfl) ?_
        refine wo_move (v := .ptr _ _) rfl rfl rfl rfl rfl (fun h => AV.noConfusion h) ?_
        refine wo_call (v := .pv _) (H' := [_, _, _, _, _]) rfl rfl rfl rfl rfl rfl ((cl38 _ _ _ _).trans (callRef_box rfl rfl rfl rfl rfl (g2))) rfl rfl rfl ?_
        refine wo_nsplit rfl rfl rfl rfl rfl (fun c13_2 => ?_) (fun c13_2 => ?_)
        ·
          refine wo_mpv rfl rfl rfl rfl rfl ?_
          refine wo_off rfl rfl rfl ?_
          refine wo_off rfl rfl rfl ?_
          refine wo_off rfl rfl rfl ?_
          refine wo_off rfl rfl rfl ?_
          refine wo_off rfl rfl rfl ?_
          refine wo_off rfl rfl rfl ?_
          refine wo_pick (v := .pv _) rfl rfl rfl rfl rfl rfl ?_
          refine wo_norm [_, _, _, _, _, _, _, _, _, _, _, _, _, _, _, _, _, _, _, _, _, _, _, _, _, _, _, _, _, _, _, _, _, _, _, _, _, _, _, _, _, _, _, _, _, _, _, _, _, _, _, _, _, _, _, _, _, _, _, _, _, _, _, _, _, _, _, _, _] rfl ?_
          refine wo_apv rfl rfl rfl rfl rfl ?_
          refine wo_nil ?_
          refine ⟨by kernel_rfl, ?_⟩
          refine ⟨[_, _, _, _, _, _, _, _, _, _, _, _, _, _, _, _, _, _, _, _, _, _, _, _, _, _, _, _, _, _, _, _, _, _, _, _, _, _, _, _, _, _, _, _, _, _, _, _, _, _, _, _, _, _, _, _, _, _, _, _, _, _, _, _, _, _, _, _, _], rfl, ?_⟩
          refine wp_ret ?_
          exact ⟨trivial, _, rfl, leave_pure⟩
        ·
          refine wo_mpv rfl rfl rfl rfl rfl ?_
          refine wo_mpv rfl rfl rfl rfl rfl ?_
          refine wo_call (v := RF 5 (fixedB (fbits f) 8)) (H' := [_, _, _, _, _, _]) rfl rfl rfl rfl rfl rfl ((cl27 _ _ _ _).trans (callRef_new rfl row_ren (putFloat_nil f _ (by omega)))) rfl rfl rfl ?_
          refine wo_conv (v := .pv (.str (strOf (fixedB (fbits f) 8)))) rfl rfl rfl rfl (conv_rows t35 rfl t9 rfl t5 rfl (rows_rf rfl)) rfl ?_
          refine wo_mpv rfl rfl rfl rfl rfl ?_
          refine wo_conv (v := .pv (.str (strOf l))) rfl rfl rfl rfl (conv_rows t35 rfl t9 rfl t5 hp.noStr (hp.rows _)) rfl ?_
          refine wo_bin (v := .pv (.bool true)) rfl rfl rfl rfl ((by rw [j2 c13_2]; exact strEq _)) ?_
          refine wo_pick (v := .pv _) rfl rfl rfl rfl rfl rfl ?_
          refine wo_norm [_, _, _, _, _, _, _, _, _, _, _, _, _, _, _, _, _, _, _, _, _, _, _, _, _, _, _, _, _, _, _, _, _, _, _, _, _, _, _, _, _, _, _, _, _, _, _, _, _, _, _, _, _, _, _, _, _, _, _, _, _, _, _, _, _, _, _, _, _] rfl ?_
          refine wo_apv rfl rfl rfl rfl rfl ?_
          refine wo_nil ?_
          refine ⟨by kernel_rfl, ?_⟩
          refine ⟨[_, _, _, _, _, _, _, _, _, _, _, _, _, _, _, _, _, _, _, _, _, _, _, _, _, _, _, _, _, _, _, _, _, _, _, _, _, _, _, _, _, _, _, _, _, _, _, _, _, _, _, _, _, _, _, _, _, _, _, _, _, _, _, _, _, _, _, _, _], rfl, ?_⟩
          refine wp_ret ?_
          exact ⟨trivial, _, rfl, leave_pure⟩
      ·
        refine wo_mpv rfl rfl rfl rfl rfl ?_
        refine wo_off rfl rfl rfl ?_
        refine wo_off rfl rfl rfl ?_
        refine wo_off rfl rfl rfl ?_
        refine wo_off rfl rfl rfl ?_
        refine wo_off rfl rfl rfl ?_
        refine wo_off rfl rfl rfl ?_
        refine wo_pick (v := .pv _) rfl rfl rfl rfl rfl rfl ?_
        refine wo_nil ?_
        refine ⟨by kernel_rfl, ?_⟩
        refine ⟨[_, _, _, _, _, _, _, _, _, _, _, _, _, _, _, _, _, _, _, _, _, _, _, _, _, _, _, _, _, _, _, _, _, _, _, _, _, _, _, _, _, _, _, _, _, _, _, _, _, _, _, _, _, _, _, _, _, _, _, _, _, _, _, _, _, _, _, _, _], rfl, ?_⟩
        refine wp_false rfl ?_
        refine wp_skip ?_
        refine wp_seq ?_
        refine wp_drawn rfl rfl (by kernel_rfl) ?_
        refine wo_move (v := .ptr _ _) rfl rfl rfl rfl rfl (fun h => AV.noConfusion h) ?_
        refine wo_call (v := .pv _) (H' := [_, _, _, _]) rfl rfl rfl rfl rfl rfl ((cl38 _ _ _ _).trans (callRef_box rfl rfl rfl rfl rfl (g2))) rfl rfl rfl ?_
        refine wo_nsplit rfl rfl rfl rfl rfl (fun c13_2 => ?_) (fun c13_2 => ?_)
        ·
          refine wo_mpv rfl rfl rfl rfl rfl ?_
          refine wo_off rfl rfl rfl ?_
          refine wo_off rfl rfl rfl ?_
          refine wo_off rfl rfl rfl ?_
          refine wo_off rfl rfl rfl ?_
          refine wo_off rfl rfl rfl ?_
          refine wo_off rfl rfl rfl ?_
          refine wo_pick (v := .pv _) rfl rfl rfl rfl rfl rfl ?_
          refine wo_norm [_, _, _, _, _, _, _, _, _, _, _, _, _, _, _, _, _, _, _, _, _, _, _, _, _, _, _, _, _, _, _, _, _, _, _, _, _, _, _, _, _, _, _, _, _, _, _, _, _, _, _, _, _, _, _, _, _, _, _, _, _, _, _, _, _, _, _, _, _] rfl ?_
          refine wo_apv rfl rfl rfl rfl rfl ?_
          refine wo_nil ?_
          refine ⟨by kernel_rfl, ?_⟩
          refine ⟨[_, _, _, _, _, _, _, _, _, _, _, _, _, _, _, _, _, _, _, _, _, _, _, _, _, _, _, _, _, _, _, _, _, _, _, _, _, _, _, _, _, _, _, _, _, _, _, _, _, _, _, _, _, _, _, _, _, _, _, _, _, _, _, _, _, _, _, _, _], rfl, ?_⟩
          refine wp_ret ?_
          exact ⟨trivial, _, rfl, leave_pure⟩
        ·
          refine wo_mpv rfl rfl rfl rfl rfl ?_
          refine wo_mpv rfl rfl rfl rfl rfl ?_
          refine wo_call (v := RF 4 (fixedB (fbits f) 8)) (H' := [_, _, _, _, _]) rfl rfl rfl rfl rfl rfl ((cl27 _ _ _ _).trans (callRef_new rfl row_ren (putFloat_nil f _ (by omega)))) rfl rfl rfl ?_
          refine wo_conv (v := .pv (.str (strOf (fixedB (fbits f) 8)))) rfl rfl rfl rfl (conv_rows t35 rfl t9 rfl t5 rfl (rows_rf rfl)) rfl ?_
          refine wo_mpv rfl rfl rfl rfl rfl ?_
          refine wo_conv (v := .pv (.str (strOf l))) rfl rfl rfl rfl (conv_rows t35 rfl t9 rfl t5 hp.noStr (hp.rows _)) rfl ?_
          refine wo_bin (v := .pv (.bool true)) rfl rfl rfl rfl ((by rw [j2 c13_2]; exact strEq _)) ?_
          refine wo_pick (v := .pv _) rfl rfl rfl rfl rfl rfl ?_
          refine wo_norm [_, _, _, _, _, _, _, _, _, _, _, _, _, _, _, _, _, _, _, _, _, _, _, _, _, _, _, _, _, _, _, _, _, _, _, _, _, _, _, _, _, _, _, _, _, _, _, _, _, _, _, _, _, _, _, _, _, _, _, _, _, _, _, _, _, _, _, _, _] rfl ?_
          refine wo_apv rfl rfl rfl rfl rfl ?_
          refine wo_nil ?_
          refine ⟨by kernel_rfl, ?_⟩
          refine ⟨[_, _, _, _, _, _, _, _, _, _, _, _, _, _, _, _, _, _, _, _, _, _, _, _, _, _, _, _, _, _, _, _, _, _, _, _, _, _, _, _, _, _, _, _, _, _, _, _, _, _, _, _, _, _, _, _, _, _, _, _, _, _, _, _, _, _, _, _, _], rfl, ?_⟩
          refine wp_ret ?_
          exact ⟨trivial, _, rfl, leave_pure⟩
    ·
      refine wo_mpv rfl rfl rfl rfl rfl ?_
      refine wo_off rfl rfl rfl ?_
      refine wo_off rfl rfl rfl ?_
      refine wo_off rfl rfl rfl ?_
      refine wo_off rfl rfl rfl ?_
      refine wo_off rfl rfl rfl ?_
      refine wo_off rfl rfl rfl ?_
      refine wo_pick (v := .pv _) rfl rfl rfl rfl rfl rfl ?_
      refine wo_nil ?_
      refine ⟨by kernel_rfl, ?_⟩
      refine ⟨[_, _, _, _, _, _, _, _, _, _, _, _, _, _, _, _, _, _, _, _, _, _, _, _, _, _, _, _, _, _, _, _, _, _, _, _, _, _, _, _, _, _, _, _, _, _, _, _, _, _, _, _, _, _, _, _, _, _, _, _, _, _, _, _, _, _, _, _, _], rfl, ?_⟩
      refine wp_false rfl ?_
      refine wp_skip ?_
      refine wp_seq ?_
      refine wp_seq ?_
      refine wp_drawn rfl rfl (by kernel_rfl) ?_
      refine wo_move (v := .ptr _ _) rfl rfl rfl rfl rfl (fun h => AV.noConfusion h) ?_
      refine wo_call (v := .pv _) (H' := [_, _, _]) rfl rfl rfl rfl rfl rfl ((cl38 _ _ _ _).trans (callRef_box rfl rfl rfl rfl rfl (g1))) rfl rfl rfl ?_
      refine wo_esplit rfl rfl rfl rfl rfl (fun c11_2 => ?_) (fun c11_2 => ?_)
      ·
        refine wo_mpv rfl rfl rfl rfl rfl ?_
        refine wo_mpv rfl rfl rfl rfl rfl ?_
        refine wo_call (v := RF 3 (ubytes (zz i))) (H' := [_, _, _, _]) rfl rfl rfl rfl rfl rfl ((cl23 _ _ _ _).trans (callRef_new rfl row_ren (putInt_nil hi1 hi2 _ (by omega)))) rfl rfl rfl ?_
        refine wo_conv (v := .pv (.str (strOf (ubytes (zz i))))) rfl rfl rfl rfl (conv_rows t35 rfl t9 rfl t5 rfl (rows_rf rfl)) rfl ?_
        refine wo_mpv rfl rfl rfl rfl rfl ?_
        refine wo_conv (v := .pv (.str (strOf l))) rfl rfl rfl rfl (conv_rows t35 rfl t9 rfl t5 hp.noStr (hp.rows _)) rfl ?_
        refine wo_bin (v := .pv (.bool false)) rfl rfl rfl rfl ((by rw [j1 c11_2]; exact strNe _)) ?_
        refine wo_pick (v := .pv _) rfl rfl rfl rfl rfl rfl ?_
        refine wo_nil ?_
        refine ⟨by kernel_rfl, ?_⟩
        refine ⟨[_, _, _, _, _, _, _, _, _, _, _, _, _, _, _, _, _, _, _, _, _, _, _, _, _, _, _, _, _, _, _, _, _, _, _, _, _, _, _, _, _, _, _, _, _, _, _, _, _, _, _, _, _, _, _, _, _, _, _, _, _, _, _, _, _, _, _, _, _], rfl, ?_⟩
        refine wp_false rfl ?_
        refine wp_skip ?_
        refine wp_seq ?_
        refine wp_drawn rfl rfl (by kernel_rfl) ?_
        refine wo_move (v := .ptr _ _) rfl rfl rfl rfl rfl (fun h => AV.noConfusion h) ?_
        refine wo_call (v := .pv _) (H' := [_, _, _, _]) rfl rfl rfl rfl rfl rfl ((cl38 _ _ _ _).trans (callRef_box rfl rfl rfl rfl rfl (g2))) rfl rfl rfl ?_
        refine wo_nsplit rfl rfl rfl rfl rfl (fun c13_2 => ?_) (fun c13_2 => ?_)
        ·
          refine wo_mpv rfl rfl rfl rfl rfl ?_
          refine wo_off rfl rfl rfl ?_
          refine wo_off rfl rfl rfl ?_
          refine wo_off rfl rfl rfl ?_
          refine wo_off rfl rfl rfl ?_
          refine wo_off rfl rfl rfl ?_
          refine wo_off rfl rfl rfl ?_
          refine wo_pick (v := .pv _) rfl rfl rfl rfl rfl rfl ?_
          refine wo_norm [_, _, _, _, _, _, _, _, _, _, _, _, _, _, _, _, _, _, _, _, _, _, _, _, _, _, _, _, _, _, _, _, _, _, _, _, _, _, _, _, _, _, _, _, _, _, _, _, _, _, _, _, _, _, _, _, _, _, _, _, _, _, _, _, _, _, _, _, _] rfl ?_
          refine wo_apv rfl rfl rfl rfl rfl ?_
          refine wo_nil ?_
          refine ⟨by kernel_rfl, ?_⟩
          refine ⟨[_, _, _, _, _, _, _, _, _, _, _, _, _, _, _, _, _, _, _, _, _, _, _, _, _, _, _, _, _, _, _, _, _, _, _, _, _, _, _, _, _, _, _, _, _, _, _, _, _, _, _, _, _, _, _, _, _, _, _, _, _, _, _, _, _, _, _, _, _], rfl, ?_⟩
          refine wp_ret ?_
          exact ⟨trivial, _, rfl, leave_pure⟩
        ·
          refine wo_mpv rfl rfl rfl rfl rfl ?_
          refine wo_mpv rfl rfl rfl rfl rfl ?_
          refine wo_call (v := RF 4 (fixedB (fbits f) 8)) (H' := [_, _, _, _, _]) rfl rfl rfl rfl rfl rfl ((cl27 _ _ _ _).trans (callRef_new rfl row_ren (putFloat_nil f _ (by omega)))) rfl rfl rfl ?_
          refine wo_conv (v := .pv (.str (strOf (fixedB (fbits f) 8)))) rfl rfl rfl rfl (conv_rows t35 rfl t9 rfl t5 rfl (rows_rf rfl)) rfl ?_
          refine wo_mpv rfl rfl rfl rfl rfl ?_
          refine wo_conv (v := .pv (.str (strOf l))) rfl rfl rfl rfl (conv_rows t35 rfl t9 rfl t5 hp.noStr (hp.rows _)) rfl ?_
          refine wo_bin (v := .pv (.bool true)) rfl rfl rfl rfl ((by rw [j2 c13_2]; exact strEq _)) ?_
          refine wo_pick (v := .pv _) rfl rfl rfl rfl rfl rfl ?_
          refine wo_norm [_, _, _, _, _, _, _, _, _, _, _, _, _, _, _, _, _, _, _, _, _, _, _, _, _, _, _, _, _, _, _, _, _, _, _, _, _, _, _, _, _, _, _, _, _, _, _, _, _, _, _, _, _, _, _, _, _, _, _, _, _, _, _, _, _, _, _, _, _] rfl ?_
          refine wo_apv rfl rfl rfl rfl rfl ?_
          refine wo_nil ?_
          refine ⟨by kernel_rfl, ?_⟩
          refine ⟨[_, _, _, _, _, _, _, _, _, _, _, _, _, _, _, _, _, _, _, _, _, _, _, _, _, _, _, _, _, _, _, _, _, _, _, _, _, _, _, _, _, _, _, _, _, _, _, _, _, _, _, _, _, _, _, _, _, _, _, _, _, _, _, _, _, _, _, _, _], rfl, ?_⟩
          refine wp_ret ?_
          exact ⟨trivial, _, rfl, leave_pure⟩
      ·
        refine wo_mpv rfl rfl rfl rfl rfl ?_
        refine wo_off rfl rfl rfl ?_
        refine wo_off rfl rfl rfl ?_
        refine wo_off rfl rfl rfl ?_
        refine wo_off rfl rfl rfl ?_
        refine wo_off rfl rfl rfl ?_
        refine wo_off rfl rfl rfl ?_
        refine wo_pick (v := .pv _) rfl rfl rfl rfl rfl rfl ?_
        refine wo_nil ?_
        refine ⟨by kernel_rfl, ?_⟩
        refine ⟨[_, _, _, _, _, _, _, _, _, _, _, _, _, _, _, _, _, _, _, _, _, _, _, _, _, _, _, _, _, _, _, _, _, _, _, _, _, _, _, _, _, _, _, _, _, _, _, _, _, _, _, _, _, _, _, _, _, _, _, _, _, _, _, _, _, _, _, _, _], rfl, ?_⟩
        refine wp_false rfl ?_
        refine wp_skip ?_
        refine wp_seq ?_
        refine wp_drawn rfl rfl (by kernel_rfl) ?_
        refine wo_move (v := .ptr _ _) rfl rfl rfl rfl rfl (fun h => AV.noConfusion h) ?_
        refine wo_call (v := .pv _) (H' := [_, _, _]) rfl rfl rfl rfl rfl rfl ((cl38 _ _ _ _).trans (callRef_box rfl rfl rfl rfl rfl (g2))) rfl rfl rfl ?_
        refine wo_nsplit rfl rfl rfl rfl rfl (fun c13_2 => ?_) (fun c13_2 => ?_)
        ·
          refine wo_mpv rfl rfl rfl rfl rfl ?_
          refine wo_off rfl rfl rfl ?_
          refine wo_off rfl rfl rfl ?_
          refine wo_off rfl rfl rfl ?_
          refine wo_off rfl rfl rfl ?_
          refine wo_off rfl rfl rfl ?_
          refine wo_off rfl rfl rfl ?_
          refine wo_pick (v := .pv _) rfl rfl rfl rfl rfl rfl ?_
          refine wo_norm [_, _, _, _, _, _, _, _, _, _, _, _, _, _, _, _, _, _, _, _, _, _, _, _, _, _, _, _, _, _, _, _, _, _, _, _, _, _, _, _, _, _, _, _, _, _, _, _, _, _, _, _, _, _, _, _, _, _, _, _, _, _, _, _, _, _, _, _, _] rfl ?_
          refine wo_apv rfl rfl rfl rfl rfl ?_
          refine wo_nil ?_
          refine ⟨by kernel_rfl, ?_⟩
          refine ⟨[_, _, _, _, _, _, _, _, _, _, _, _, _, _, _, _, _, _, _, _, _, _, _, _, _, _, _, _, _, _, _, _, _, _, _, _, _, _, _, _, _, _, _, _, _, _, _, _, _, _, _, _, _, _, _, _, _, _, _, _, _, _, _, _, _, _, _, _, _], rfl, ?_⟩
          refine wp_ret ?_
          exact ⟨trivial, _, rfl, leave_pure⟩
        ·
          refine wo_mpv rfl rfl rfl rfl rfl ?_
          refine wo_mpv rfl rfl rfl rfl rfl ?_
          refine wo_call (v := RF 3 (fixedB (fbits f) 8)) (H' := [_, _, _, _]) rfl rfl rfl rfl rfl rfl ((cl27 _ _ _ _).trans (callRef_new rfl row_ren (putFloat_nil f _ (by omega)))) rfl rfl rfl ?_
          refine wo_conv (v := .pv (.str (strOf (fixedB (fbits f) 8)))) rfl rfl rfl rfl (conv_rows t35 rfl t9 rfl t5 rfl (rows_rf rfl)) rfl ?_
          refine wo_mpv rfl rfl rfl rfl rfl ?_
          refine wo_conv (v := .pv (.str (strOf l))) rfl rfl rfl rfl (conv_rows t35 rfl t9 rfl t5 hp.noStr (hp.rows _)) rfl ?_
          refine wo_bin (v := .pv (.bool true)) rfl rfl rfl rfl ((by rw [j2 c13_2]; exact strEq _)) ?_
          refine wo_pick (v := .pv _) rfl rfl rfl rfl rfl rfl ?_
          refine wo_norm [_, _, _, _, _, _, _, _, _, _, _, _, _, _, _, _, _, _, _, _, _, _, _, _, _, _, _, _, _, _, _, _, _, _, _, _, _, _, _, _, _, _, _, _, _, _, _, _, _, _, _, _, _, _, _, _, _, _, _, _, _, _, _, _, _, _, _, _, _] rfl ?_
          refine wo_apv rfl rfl rfl rfl rfl ?_
          refine wo_nil ?_
          refine ⟨by kernel_rfl, ?_⟩
          refine ⟨[_, _, _, _, _, _, _, _, _, _, _, _, _, _, _, _, _, _, _, _, _, _, _, _, _, _, _, _, _, _, _, _, _, _, _, _, _, _, _, _, _, _, _, _, _, _, _, _, _, _, _, _, _, _, _, _, _, _, _, _, _, _, _, _, _, _, _, _, _], rfl, ?_⟩
          refine wp_ret ?_
          exact ⟨trivial, _, rfl, leave_pure⟩
end Go.Ab.Ytknmgphnkfeifaa
