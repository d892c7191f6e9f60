import Derived.Test.YtjbhpopccbhhlaaAbLaw
set_option linter.unusedVariables false
namespace Go.Ab
open Go

def Code.sub : List Nat → Code → Code
  | [], c => c
  | 0 :: p, .seq a _ => Code.sub p a
  | 1 :: p, .seq _ b => Code.sub p b
  | 0 :: p, .cond _ a _ => Code.sub p a
  | 1 :: p, .cond _ _ b => Code.sub p b
  | _ :: p, .block _ c => Code.sub p c
  | _ :: p, .loop c => Code.sub p c
  | _ :: p, .scope c => Code.sub p c
  | _ :: _, c => c

section
variable {G : Cfg} {C : CallF} {f n : Nat} {σ : St}
theorem exec_region (id : Nat) (ops : Array Oper) (d : Bool) : exec G C f n (.region id ops d) none σ = (runRegion G C ops d σ).map fun p => (p.1, ⟨killAll p.2.tmps (G.K f (2 * id)), p.2.heap⟩) := rfl
theorem exec_seq (a b : Code) : exec G C f n (.seq a b) none σ = match exec G C f n a none σ with
    | some (.normal, σ') => exec G C f n b none σ'
    | r => r := rfl
theorem exec_cond (c : Operand) (a b : Code) : exec G C f n (.cond c a b) none σ = match evalA σ.tmps c with
    | .pv (.bool t) => if t then exec G C f n a none σ else exec G C f n b none σ
    | _ => none := rfl
theorem exec_block (id : Nat) (c : Code) : exec G C f n (.block id c) none σ = match exec G C f n c none σ with
    | some (.exit id', σ') => if id' = id then some (.normal, σ') else some (.exit id', σ')
    | r => r := rfl
theorem exec_loop (c : Code) : exec G C f n (.loop c) none σ = iter (exec G C f n c none) (tidy σ.heap.length (G.K f (2 * firstRegion c + 1))) n σ := rfl
theorem exec_skip : exec G C f n .skip none σ = some (.normal, σ) := rfl
theorem exec_exit (id : Nat) : exec G C f n (.exit id) none σ = some (.exit id, σ) := rfl
theorem exec_ret : exec G C f n .ret none σ = some (.ret, σ) := rfl
theorem exec_goto (l : Nat) : exec G C f n (.goto l) none σ = some (.goto l, σ) := rfl
theorem exec_label (l : Nat) : exec G C f n (.label l) none σ = some (.normal, σ) := rfl
theorem iter_succ (step : St → Option (Ex × St)) (fin : St → Option St) (n : Nat) : iter step fin (n + 1) σ = match step σ with
    | some (.normal, σ') => (fin σ').bind (iter step fin n)
    | r => r := rfl
theorem tidy_same {n0 : Nat} {k : List Nat} (h : σ.heap.length = n0) : tidy n0 k σ = some ⟨killAll σ.tmps k, σ.heap⟩ := by
  unfold tidy compact
  rw [if_pos h]
  rfl
end

/-! ### Rows that grow -/

def grow (r : Row) (g h : Nat) (news : List (List PV)) : Row × Nat :=
  if g = r.gen ∧ h = r.rows.length then ({ r with rows := r.rows ++ news }, g)
  else (⟨r.rows.take h ++ news, r.gen + 1, 0, if r.gen = 0 then h else min r.stable h, r.frz⟩, r.gen + 1)

structure CanGrow (r : Row) (g h : Nat) : Prop where
  valid : r.valid g h = true
  free : (g = r.gen ∧ h = r.rows.length) ∨ (r.floor = 0 ∧ r.frz ≤ h)

theorem valid_le {r : Row} {g h : Nat} (hv : r.valid g h = true) : h ≤ r.rows.length := by
  simp only [Row.valid, Bool.or_eq_true, Bool.and_eq_true, decide_eq_true_eq] at hv
  omega

theorem grow_length {r : Row} {g h : Nat} {news : List (List PV)} (hh : h ≤ r.rows.length) : (grow r g h news).1.rows.length = h + news.length := by
  unfold grow
  split
  · rename_i hc; simp [hc.2]
  · simp; omega

theorem grow_gen {r : Row} {g h : Nat} {news : List (List PV)} : (grow r g h news).1.gen = (grow r g h news).2 := by
  unfold grow
  split
  · rename_i hc; exact hc.1.symm
  · rfl

theorem grow_grow {r : Row} {g h : Nat} {a b : List (List PV)} (hh : h ≤ r.rows.length) : grow (grow r g h a).1 (grow r g h a).2 (h + a.length) b = grow r g h (a ++ b) := by
  have hl := grow_length (g := g) (news := a) hh
  have hg := grow_gen (r := r) (g := g) (h := h) (news := a)
  unfold grow at hl hg ⊢
  split
  · rename_i hc
    rw [if_pos hc] at hl hg
    rw [if_pos ⟨hc.1, by simp [hc.2]⟩]
    simp
  · rename_i hc
    rw [if_neg hc] at hl hg
    rw [if_pos ⟨rfl, by simp; omega⟩]
    simp

theorem CanGrow.grow {r : Row} {g h : Nat} {a : List (List PV)} (hc : CanGrow r g h) : CanGrow (grow r g h a).1 (grow r g h a).2 (h + a.length) := by
  have hl := grow_length (g := g) (news := a) (valid_le hc.valid)
  have hg := grow_gen (r := r) (g := g) (h := h) (news := a)
  refine ⟨?_, .inl ⟨hg.symm, hl.symm⟩⟩
  have hf : (Ab.grow r g h a).1.floor ≤ h + a.length := by
    have hv := hc.valid
    simp only [Row.valid, Bool.or_eq_true, Bool.and_eq_true, decide_eq_true_eq, beq_iff_eq] at hv
    unfold Ab.grow
    split
    · rename_i hh; simp only; omega
    · simp
  simp only [Row.valid, hg, hl]
  simp [hf]

theorem aAppend_ref {T : Nat → Option TI} {nid t e id g h esz : Nat} {ti ei : TI} {r : Row} {news : List (List PV)} {look : Look} (ht : T t = some ti) (hd : ti.desc = .slice e) (he : T e = some ei) (hs : ei.size = esz) (h0 : esz ≠ 0)
    (hn : news.all (fun c => c.length == esz) = true) (hl : look id = some (.row e esz r)) (hc : CanGrow r g h) (hb : (h + news.length) * ei.bytes ≤ 140737488355328) (hm : h + news.length ≤ 9223372036854775807) (hne : news ≠ []) :
    aAppend T nid t (.ref id g h esz 0 h) news look = some ⟨.ref id (grow r g h news).2 (h + news.length) esz 0 (h + news.length), [(id, .row e esz (grow r g h news).1)], []⟩ := by
  obtain ⟨d, s1, s2, s3, s4⟩ := ti
  simp only at hd
  subst hd
  subst hs
  unfold aAppend
  simp only [ht, he]
  rw [if_pos ⟨h0, hn⟩]
  simp only [hl]
  rw [if_pos (by simp only [hc.valid, true_and]; exact ⟨hb, hm⟩)]
  have : news.isEmpty = false := by cases news <;> simp_all
  rw [this]
  simp only [Bool.false_eq_true, if_false]
  unfold grow
  split
  · rfl
  · rename_i hh
    rw [if_pos (hc.free.resolve_left hh)]

theorem aAppend_nil {T : Nat → Option TI} {nid t e esz : Nat} {ti ei : TI} {news : List (List PV)} {look : Look} (ht : T t = some ti) (hd : ti.desc = .slice e) (he : T e = some ei) (hs : ei.size = esz) (h0 : esz ≠ 0)
    (hn : news.all (fun c => c.length == esz) = true) (hb : news.length * ei.bytes ≤ 140737488355328) (hm : news.length ≤ 9223372036854775807) (hne : news ≠ []) :
    aAppend T nid t (.pv .nils) news look = some ⟨.ref nid 0 news.length esz 0 news.length, [], [.row e esz ⟨news, 0, 0, 0, 0⟩]⟩ := by
  obtain ⟨d, s1, s2, s3, s4⟩ := ti
  simp only at hd
  subst hd
  subst hs
  unfold aAppend
  simp only [ht, he]
  rw [if_pos ⟨h0, hn⟩]
  have : news.isEmpty = false := by cases news <;> simp_all
  rw [this]
  simp only [Bool.false_eq_true, if_false]
  rw [if_pos ⟨hb, hm⟩]

theorem aAppend_empty {T : Nat → Option TI} {nid t e id g h esz : Nat} {ti ei : TI} {r : Row} {look : Look} (ht : T t = some ti) (hd : ti.desc = .slice e) (he : T e = some ei) (hs : ei.size = esz) (h0 : esz ≠ 0)
    (hl : look id = some (.row e esz r)) (hc : r.valid g h = true) (hb : h * ei.bytes ≤ 140737488355328) (hm : h ≤ 9223372036854775807) :
    aAppend T nid t (.ref id g h esz 0 h) [] look = some ⟨.ref id g h esz 0 h, [], []⟩ := by
  obtain ⟨d, s1, s2, s3, s4⟩ := ti
  simp only at hd
  subst hd
  subst hs
  unfold aAppend
  simp only [ht, he]
  rw [if_pos ⟨h0, rfl⟩]
  simp only [hl]
  rw [if_pos (by simp only [hc, true_and]; exact ⟨by simpa using hb, by simpa using hm⟩)]
  rfl
theorem grow_end {r : Row} {g h : Nat} (hg : g = r.gen) (hh : h = r.rows.length) : grow r g h [] = (r, g) := by
  unfold grow
  rw [if_pos ⟨hg, hh⟩]
  simp
theorem grow_at_end {r : Row} {g h : Nat} {a : List (List PV)} (hh : h ≤ r.rows.length) : grow (grow r g h a).1 (grow r g h a).2 (h + a.length) [] = grow r g h a := by
  rw [grow_grow hh, List.append_nil]

theorem canGrow_new {rows : List (List PV)} : CanGrow ⟨rows, 0, 0, 0, 0⟩ 0 rows.length := ⟨by simp [Row.valid], .inl ⟨rfl, rfl⟩⟩


/-! ### Nothing is lost by dropping what is not led to -/

theorem reach_all {look : Look} : ∀ (n : Nat) (todo acc : List Nat), (∀ i ∈ todo, i ∈ acc) → reach look n todo acc = acc
  | 0, _, _, _ => rfl
  | n + 1, [], _, _ => rfl
  | n + 1, i :: todo, acc, h => by
    simp only [reach]
    rw [if_pos (by simpa using h i (by simp))]
    exact reach_all n todo acc fun j hj => h j (by simp [hj])

mutual
theorem ren_same {f : Nat → Option Nat} : ∀ (v : AV), (∀ i ∈ AV.ids v, f i = some i) → AV.ren f v = some v
  | .pv _, _ => rfl
  | .ptr i o, h => by simp [AV.ren, h i (by simp [AV.ids])]
  | .eptr i _ _ _ _ _, h => by simp [AV.ren, h i (by simp [AV.ids])]
  | .ref i _ _ _ _ _, h => by simp [AV.ren, h i (by simp [AV.ids])]
  | .map i, h => by simp [AV.ren, h i (by simp [AV.ids])]
  | .fn x a b, h => by
    simp only [AV.ren]
    rw [renL_same a fun i hi => h i (by simp [AV.ids, hi]), renL_same b fun i hi => h i (by simp [AV.ids, hi])]
    rfl
  | .agg cs, h => by
    simp only [AV.ren]
    rw [renL_same cs fun i hi => h i (by simpa [AV.ids] using hi)]
    rfl
  | .tup vs, h => by
    simp only [AV.ren]
    rw [renL_same vs fun i hi => h i (by simpa [AV.ids] using hi)]
    rfl
  | .undef, _ => rfl
  | .any, _ => rfl
theorem renL_same {f : Nat → Option Nat} : ∀ (vs : List AV), (∀ i ∈ AV.idsL vs, f i = some i) → AV.renL f vs = some vs
  | [], _ => rfl
  | v :: r, h => by
    simp only [AV.renL]
    rw [ren_same v fun i hi => h i (by simp [AV.idsL, hi]), renL_same r fun i hi => h i (by simp [AV.idsL, hi])]
    rfl
end
theorem blk_ren_same {f : Nat → Option Nat} : ∀ (b : Blk), (∀ i ∈ b.ids, f i = some i) → b.ren f = some b
  | .box cs z, h => by simp only [Blk.ren]; rw [renL_same cs (by simpa [Blk.ids] using h)]; rfl
  | .row .., _ => rfl
  | .map .., _ => rfl
  | .dead, _ => rfl
theorem blksRen_same {f : Nat → Option Nat} : ∀ (bs : List Blk), (∀ i ∈ bs.flatMap Blk.ids, f i = some i) → blksRen f bs = some bs
  | [], _ => rfl
  | b :: r, h => by
    simp only [blksRen]
    rw [blk_ren_same b fun i hi => h i (by simp [hi]), blksRen_same r fun i hi => h i (by simp only [List.flatMap_cons, List.mem_append]; exact .inr hi)]
    rfl
theorem placeOf_range {k i : Nat} (h : i < k) : placeOf (List.range k) i = some i := by
  unfold placeOf
  rw [List.idxOf?, List.findIdx?_eq_some_iff_getElem]
  refine ⟨by simpa using h, by simp, fun j hj => ?_⟩
  simp; omega
theorem getAll_range (H0 rest : List Blk) : ∀ (m i : Nat), i + m = H0.length → getAll (lookOf (H0 ++ rest)) (List.range' i m) = some (H0.drop i)
  | 0, i, h => by simp [getAll, List.drop_eq_nil_of_le (show H0.length ≤ i by omega)]
  | m + 1, i, h => by
    simp only [List.range', getAll]
    have : lookOf (H0 ++ rest) i = some H0[i] := by
      simp only [lookOf]
      rw [List.getElem?_append_left (by omega)]
      simp [show i < H0.length by omega]
    rw [this, getAll_range H0 rest m (i + 1) (by omega)]
    simp

theorem compact_keep {n0 : Nat} {tmps : List AV} {H0 rest : List Blk} (hr : reach (lookOf (H0 ++ rest)) REACH (AV.idsL tmps ++ ((H0 ++ rest).take n0).flatMap Blk.ids) (List.range n0) = List.range H0.length)
    (hn : (H0 ++ rest).length = n0 → rest = []) (ht : ∀ i ∈ AV.idsL tmps, i < H0.length) (hb : ∀ i ∈ H0.flatMap Blk.ids, i < H0.length) : compact n0 tmps (H0 ++ rest) = some (tmps, H0) := by
  unfold compact
  split
  · rename_i h; rw [hn h]; simp
  · simp only [hr]
    rw [renL_same tmps fun i hi => placeOf_range (ht i hi)]
    simp only [Option.bind_some]
    rw [List.range_eq_range', getAll_range H0 rest H0.length 0 (by omega), List.drop_zero]
    simp only [Option.bind_some]
    rw [← List.range_eq_range', blksRen_same H0 fun i hi => placeOf_range (hb i hi)]
    rfl

theorem compact_first {tmps : List AV} {H0 rest : List Blk} (ht : ∀ i ∈ AV.idsL tmps, i < H0.length) (hb : ∀ i ∈ H0.flatMap Blk.ids, i < H0.length) : compact H0.length tmps (H0 ++ rest) = some (tmps, H0) := by
  refine compact_keep (reach_all _ _ _ fun i hi => ?_) (fun h => ?_) ht hb
  · rw [List.take_left', List.mem_append] at hi
    · rw [List.mem_range]
      exact hi.elim (ht i) (hb i)
    · rfl
  · simp at h; exact h

theorem tidy_first {n0 : Nat} {kill : List Nat} {tmps : List AV} {H H0 rest : List Blk} (hH : H = H0 ++ rest) (hn : H0.length = n0) (ht : ∀ i ∈ AV.idsL (killAll tmps kill), i < n0) (hb : ∀ i ∈ H0.flatMap Blk.ids, i < n0) :
    tidy n0 kill ⟨tmps, H⟩ = some ⟨killAll tmps kill, H0⟩ := by
  subst hH hn
  unfold tidy
  rw [compact_first ht hb]
  rfl
theorem leave_first {md : Mode} {n0 : Nat} {v : AV} {H H0 rest : List Blk} (hm : md = .byref ∨ md = .own) (hH : H = H0 ++ rest) (hn : H0.length = n0) (ht : ∀ i ∈ AV.ids v, i < n0) (hb : ∀ i ∈ H0.flatMap Blk.ids, i < n0) :
    leave md n0 v H = some (v, H0) := by
  subst hH hn
  have := compact_first (tmps := [v]) (H0 := H0) (rest := rest) (by simpa [AV.idsL] using ht) hb
  rcases hm with rfl | rfl <;> (unfold leave; simp only; rw [this]; rfl)

theorem leave_same {md : Mode} {n0 : Nat} {v : AV} {H : List Blk} (hm : md = .byref ∨ md = .own) (hH : H.length = n0) : leave md n0 v H = some (v, H) := by
  rcases hm with rfl | rfl <;> (unfold leave compact; simp only; rw [if_pos hH]; rfl)
theorem leave_pure {v : PV} {H : List Blk} : leave .pure 0 (.pv v) H = some (.pv v, []) := by
  simp [leave, AV.puriRes, AV.puri, AV.pureOf]

def growO (r : Row) (g h : Nat) (l : List (List PV)) : Row × Nat := if l = [] then (r, g) else grow r g h l
theorem growO_cons {r : Row} {g h : Nat} {x : List PV} {l : List (List PV)} (hh : h ≤ r.rows.length) : growO (grow r g h [x]).1 (grow r g h [x]).2 (h + 1) l = grow r g h (x :: l) := by
  unfold growO
  split
  · rename_i h1; rw [h1]
  · have := grow_grow (r := r) (g := g) (h := h) (a := [x]) (b := l) hh
    simpa using this
theorem growO_snoc {r : Row} {g h : Nat} {x : List PV} {l : List (List PV)} (hh : h ≤ r.rows.length) : grow (growO r g h l).1 (growO r g h l).2 (h + l.length) [x] = grow r g h (l ++ [x]) := by
  unfold growO
  split
  · rename_i h1; rw [h1]; rfl
  · exact grow_grow hh
theorem CanGrow.growO {r : Row} {g h : Nat} {l : List (List PV)} (hc : CanGrow r g h) : CanGrow (growO r g h l).1 (growO r g h l).2 (h + l.length) := by
  unfold Ab.growO
  split
  · rename_i h1; rw [h1]; exact hc
  · exact hc.grow

/-- Bytes as elements. -/
def rowB (b : Int) : List PV := [.int .u8 b]

/-- A number's bytes: all but the last; the last. -/
def uinit (n : Nat) : List Int := if n < 128 then [] else ((n % 128 + 128 : Nat) : Int) :: uinit (n / 128)
termination_by n
decreasing_by omega
def ulast (n : Nat) : Nat := if n < 128 then n else ulast (n / 128)
termination_by n
decreasing_by omega
def ubytes (n : Nat) : List Int := uinit n ++ [(ulast n : Int)]

/-! ### Calls -/

theorem aCall_fn {G : Cfg} {C : CallF} {f : Nat} {args : List AV} {look : Look} {nid : Nat} {fn : Func} (hf : G.P.funcs[f]? = some fn) (hn : (fn.name == "runtime.NumGoroutine") = false) (hb : fn.body.isNone = false) :
    aCall G C (.pv (.fn f [] [])) args look nid = match G.M f with
      | .byref => callRef C f args look nid
      | _ => callPure C f args look nid := by
  unfold aCall callee
  simp only [List.map_nil, List.nil_append, List.append_nil, hf, hn, hb, Bool.false_eq_true, if_false]
  generalize G.M f = md
  cases md <;> rfl
theorem aCall_x {G : Cfg} {C : CallF} {f : Nat} {args : List AV} {look : Look} {nid : Nat} {fn : Func} {x : List AV → Option AV} {v : AV} (hf : G.P.funcs[f]? = some fn) (hn : (fn.name == "runtime.NumGoroutine") = false) (hb : fn.body.isNone = true) (hx : G.X f = some x) (hv : x args = some v) :
    aCall G C (.pv (.fn f [] [])) args look nid = some (.ok ⟨v, [], []⟩) := by
  unfold aCall callee
  simp only [List.map_nil, List.nil_append, List.append_nil, hf, hn, hb, Bool.false_eq_true, if_false, if_true, hx, Option.bind_some, hv, Option.map_some]

theorem callPure_pv {C : CallF} {f : Nat} {args : List AV} {look : Look} {nid : Nat} {p : PV} (hi : AV.idsL args = []) (hp : ∀ lk, puriL lk args = some args) (hC : C f args [] = some (.ret (.pv p), [])) :
    callPure C f args look nid = some (.ok ⟨.pv p, [], []⟩) := by
  unfold callPure
  simp only [hp, Option.bind_some, hC, hi]
  split
  · rfl
  · simp only [AV.ren, Option.bind_some, blksRen, Option.map_some]
    rfl
theorem callPure_own {C : CallF} {f : Nat} {args : List AV} {look : Look} {nid g h e o n : Nat} {b : Blk} (hi : AV.idsL args = []) (hp : ∀ lk, puriL lk args = some args) (hb : ∀ ρ, b.ren ρ = some b) (hC : C f args [] = some (.ret (.ref 0 g h e o n), [b])) :
    callPure C f args look nid = some (.ok ⟨.ref nid g h e o n, [], [b]⟩) := by
  unfold callPure
  simp only [hp, Option.bind_some, hC, hi]
  rw [if_neg (by simp [AV.flat, AV.flat2, AV.flat1])]
  simp only [AV.ren, Option.bind_some, blksRen, Option.map_some, hb, Nat.add_zero]
  rfl
theorem callRef_row {C : CallF} {f k g h e o n g' h' e' o' n' : Nat} {rest : List AV} {look : Look} {nid : Nat} {b b' : Blk} (hi : AV.idsL rest = []) (hl : look k = some b) (hb : b.ids = []) (hr : ∀ ρ, b.ren ρ = some b) (hr' : ∀ ρ, b'.ren ρ = some b')
    (hC : C f (.ref 0 g h e o n :: rest) [b] = some (.ret (.ref 0 g' h' e' o' n'), [b'])) :
    callRef C f (.ref k g h e o n :: rest) look nid = some (.ok ⟨.ref k g' h' e' o' n', [(k, b')], []⟩) := by
  have hR : reach look REACH (AV.idsL (.ref k g h e o n :: rest)) [] = [k] := by
    simp only [AV.idsL, AV.ids, hi, List.append_nil]
    show reach look (63 + 1) [k] [] = [k]
    simp only [reach, List.contains_nil, Bool.false_eq_true, if_false, hl, hb, List.nil_append, List.append_nil]
  have hren : AV.renL (placeOf [k]) (.ref k g h e o n :: rest) = some (.ref 0 g h e o n :: rest) := by
    simp only [AV.renL, AV.ren]
    rw [show placeOf [k] k = some 0 by simp [placeOf, List.idxOf?, List.findIdx?, List.findIdx?.go], renL_same rest (by rw [hi]; simp)]
    rfl
  unfold callRef
  simp only [hR, hren, Option.bind_some, getAll, hl, Option.map_some, blksRen, hr, hC, hr', AV.ren, List.getElem?_cons_zero]
  rfl

theorem row_ren {e esz : Nat} {r : Row} (ρ : Nat → Option Nat) : (Blk.row e esz r).ren ρ = some (.row e esz r) := rfl

theorem aAppend_new {T : Nat → Option TI} {nid t e id n k esz : Nat} {ti ei : TI} {rows news : List (List PV)} {look : Look} (ht : T t = some ti) (hd : ti.desc = .slice e) (he : T e = some ei) (hs : ei.size = esz) (h0 : esz ≠ 0)
    (hn : news.all (fun c => c.length == esz) = true) (hl : look id = some (.row e esz ⟨rows, 0, 0, 0, 0⟩)) (hrl : rows.length = n) (hk : news.length = k) (hb : (n + k) * ei.bytes ≤ 140737488355328) (hm : n + k ≤ 9223372036854775807) (hne : news ≠ []) :
    aAppend T nid t (.ref id 0 n esz 0 n) news look = some ⟨.ref id 0 (n + k) esz 0 (n + k), [(id, .row e esz ⟨rows ++ news, 0, 0, 0, 0⟩)], []⟩ := by
  subst hrl hk
  have := aAppend_ref (nid := nid) ht hd he hs h0 hn hl canGrow_new hb hm hne
  rw [this]
  simp [grow]

/-! ### Long regions, piece by piece -/

def Code.ops : Code → Array Oper
  | .region _ o _ => o
  | _ => #[]

theorem runOps_append {G : Cfg} {C : CallF} {ops : Array Oper} : ∀ (l1 l2 : List Oper) (i : Nat) (seen : List Seen) (σ : St),
    runOps G C ops i (l1 ++ l2) seen σ = match runOps G C ops i l1 seen σ with
      | some (.normal, σ', seen') => runOps G C ops (i + l1.length) l2 seen' σ'
      | r => r
  | [], l2, i, seen, σ => rfl
  | o :: l1, l2, i, seen, σ => by
    simp only [List.cons_append, runOps, List.length_cons]
    split
    · rfl
    · rw [runOps_append l1 l2, show i + 1 + l1.length = i + (l1.length + 1) by omega]
    · split
      · split
        · rw [runOps_append l1 l2, show i + 1 + l1.length = i + (l1.length + 1) by omega]
        · rfl
      · split <;> rfl
      · rfl

theorem runOps_take {G : Cfg} {C : CallF} {ops : Array Oper} (k : Nat) (l : List Oper) (i : Nat) (seen : List Seen) (σ : St) (hk : k ≤ l.length) :
    runOps G C ops i l seen σ = match runOps G C ops i (l.take k) seen σ with
      | some (.normal, σ', seen') => runOps G C ops (i + k) (l.drop k) seen' σ'
      | r => r := by
  have := runOps_append (G := G) (C := C) (ops := ops) (l.take k) (l.drop k) i seen σ
  rw [List.take_append_drop] at this
  rw [this, List.length_take, Nat.min_eq_left hk]

end Go.Ab
