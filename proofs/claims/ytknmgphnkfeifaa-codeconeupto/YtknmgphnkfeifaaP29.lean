import Derived.Test.YtknmgphnkfeifaaP23
namespace Go.Ab.Ytknmgphnkfeifaa
open Go Go.Ab
open Go.Proofs.Try
set_option maxRecDepth 100000
set_option linter.unusedSimpArgs false
set_option linter.unusedVariables false

noncomputable def loop29 : Code := Code.sub [1, 0, 1, 0] (f29.body.getD .skip)
noncomputable def last29 : Code := Code.sub [1, 1] (f29.body.getD .skip)

/-- A number in so many bytes, the greatest first. -/
def fixedB (n : Nat) : Nat → List Int
  | 0 => []
  | k + 1 => ((n / 256 ^ k % 256 : Nat) : Int) :: fixedB n k
theorem fixedB_length (n : Nat) : ∀ k, (fixedB n k).length = k
  | 0 => rfl
  | k + 1 => by simp [fixedB, fixedB_length n k]

def st29 (x : AV) (g h : Nat) (n i : Int) : List AV := [.ref 0 g h 1 0 h, .pv (.int .u64 n), .any, .any, .any, .any, .any, .pv (.int .i64 i), .any, .any, .any, .any, .any, x, .any, .any, .any, .any, .any, .any, .any, .any, .any, .any, .any, .any]

theorem shr8 (n k : Nat) (hk : k < 8) (v : Int) (hv : v = IntKind.u64.wrap (IntKind.i64.wrap (8 * (k : Int)))) : shiftBin .shr .u64 n v = some (.pv (.int .u64 ((n / 256 ^ k : Nat) : Int))) := by
  have e : v = 8 * k := by rw [hv]; simp [IntKind.wrap, IntKind.signed, IntKind.bits]; omega
  rw [e]
  unfold shiftBin
  rw [if_neg (by omega)]
  simp only
  have e2 : min (8 * (k : Int)).toNat IntKind.u64.bits = 8 * k := by simp [IntKind.bits]; omega
  rw [e2, Int.fdiv_eq_ediv_of_nonneg _ (by exact Int.le_of_lt (Int.pow_pos (by decide)))]
  have e3 : (2 : Int) ^ (8 * k) = ((256 ^ k : Nat) : Int) := by
    rw [show (256 : Nat) = 2 ^ 8 from rfl, ← Nat.pow_mul]; simp
  rw [e3]; rfl
theorem wrapB (n : Nat) : IntKind.u8.wrap (n : Int) = ((n % 256 : Nat) : Int) := by simp [IntKind.wrap, IntKind.signed, IntKind.bits]

theorem step29 (C : CallF) (N n k : Nat) (hk : k < 8) (r : Row) (g h : Nat) (hc : CanGrow r g h) (hh : h < 1000000000) :
    exec G C 29 N (Code.sub [0] loop29) none ⟨st29 .any g h n k, [.row 5 1 r]⟩ =
      some (.normal, ⟨st29 .any (grow r g h [rowB ((n / 256 ^ k % 256 : Nat) : Int)]).2 (h + 1) n ((k : Int) - 1), [.row 5 1 (grow r g h [rowB ((n / 256 ^ k % 256 : Nat) : Int)]).1, .row 5 1 ⟨[rowB ((n / 256 ^ k % 256 : Nat) : Int)], 0, 0, 0, 0⟩]⟩) := by
  have hv' : decide ((k : Int) ≥ 0) = true := by simp
  have hw : IntKind.i64.wrap ((k : Int) - 1) = (k : Int) - 1 := by simp [IntKind.wrap, IntKind.signed, IntKind.bits]; omega
  have hs := shr8 n k hk _ rfl
  have ha := fun x look (hl : look 0 = some (.row 5 1 r)) => aAppend_ref (T := tiOf prog) (nid := 2) (t := 35) (e := 5) (id := 0) (esz := 1) (news := [[PV.int .u8 x]]) (look := look) T35 rfl T5 rfl (by decide) (by simp) hl hc (by simp; omega) (by simp; omega) (by simp)
  simp only [Option.getD_some, Code.sub, List.replicate, List.cons_append, List.nil_append, exec_region, exec_seq, exec_cond, exec_block, exec_skip, exec_exit, exec_ret, runRegion, runOps, wantedA, aOp, evalA, ofConst, okV, okE, Option.map_some, Option.map_none, updOk, footOk, foot, List.all_nil, List.all_cons, Bool.and_self, Bool.and_true, Bool.true_and, if_true, if_false, putA, List.set_cons_zero, List.set_cons_succ, GP, GT, GK, T2, T3, T4, T5, T9, T35, T36, T37, T81, K, killAll, List.getElem?_cons_succ, List.getElem?_cons_zero, Option.getD_some, aBin, intBin, boolsOf, applyEff, setAll, lookOf, dirIds, List.flatMap_cons, List.flatMap_nil, aConv, Option.bind_some, Option.bind_none, Bool.false_eq_true, reduceIte, List.append_nil, reduceCtorEq, aBuiltin, srcRows, rowsOf, pures, AV.cells, List.map_cons, List.map_nil, chunk, splice, List.length_cons, List.length_nil, decide_true, decide_false, Option.map_some, Option.some.injEq, List.toArray, Nat.reduceAdd, Nat.reduceMul, Nat.reduceLT, Nat.reduceLeDiff, Nat.reduceSub, Nat.reduceMod, Nat.reduceGT, Nat.zero_add, Nat.zero_mul, bs35, List.length_map, Nat.zero_le, Int.reduceEq, Int.reduceLT, Int.reduceGT, Int.reduceNeg, Int.reduceMul, Int.reduceAdd, Int.reduceSub, reach, REACH, AV.idsL, AV.ids, Blk.ids, List.contains_nil, List.contains_cons, call, resAll, resA, tupOf, callee, Option.map_some, GX, GE, Nat.reduceEqDiff, BEq.rfl, beq_self_eq_true, decide_true, Row.valid, Nat.le_refl, Nat.reduceBEq, List.drop_zero, List.take_succ_cons, List.take_zero, List.drop_succ_cons, Bool.true_or, Bool.or_true, Bool.or_false, List.take_nil, List.drop_nil, f29, st29, rowB, loop29, K29, hv', hs, wrapB]
  rw [ha _ _ rfl]
  simp only [Option.getD_some, Code.sub, List.replicate, List.cons_append, List.nil_append, exec_region, exec_seq, exec_cond, exec_block, exec_skip, exec_exit, exec_ret, runRegion, runOps, wantedA, aOp, evalA, ofConst, okV, okE, Option.map_some, Option.map_none, updOk, footOk, foot, List.all_nil, List.all_cons, Bool.and_self, Bool.and_true, Bool.true_and, if_true, if_false, putA, List.set_cons_zero, List.set_cons_succ, GP, GT, GK, T2, T3, T4, T5, T9, T35, T36, T37, T81, K, killAll, List.getElem?_cons_succ, List.getElem?_cons_zero, Option.getD_some, aBin, intBin, boolsOf, applyEff, setAll, lookOf, dirIds, List.flatMap_cons, List.flatMap_nil, aConv, Option.bind_some, Option.bind_none, Bool.false_eq_true, reduceIte, List.append_nil, reduceCtorEq, aBuiltin, srcRows, rowsOf, pures, AV.cells, List.map_cons, List.map_nil, chunk, splice, List.length_cons, List.length_nil, decide_true, decide_false, Option.map_some, Option.some.injEq, List.toArray, Nat.reduceAdd, Nat.reduceMul, Nat.reduceLT, Nat.reduceLeDiff, Nat.reduceSub, Nat.reduceMod, Nat.reduceGT, Nat.zero_add, Nat.zero_mul, bs35, List.length_map, Nat.zero_le, Int.reduceEq, Int.reduceLT, Int.reduceGT, Int.reduceNeg, Int.reduceMul, Int.reduceAdd, Int.reduceSub, reach, REACH, AV.idsL, AV.ids, Blk.ids, List.contains_nil, List.contains_cons, call, resAll, resA, tupOf, callee, Option.map_some, GX, GE, Nat.reduceEqDiff, BEq.rfl, beq_self_eq_true, decide_true, Row.valid, Nat.le_refl, Nat.reduceBEq, List.drop_zero, List.take_succ_cons, List.take_zero, List.drop_succ_cons, Bool.true_or, Bool.or_true, Bool.or_false, List.take_nil, List.drop_nil, f29, loop29, K29, hw]

theorem step29' (C : CallF) (N : Nat) (n i : Int) (hi : i < 0) (H : List Blk) (g h : Nat) :
    exec G C 29 N (Code.sub [0] loop29) none ⟨st29 .any g h n i, H⟩ = some (.exit 0, ⟨st29 (.pv (.bool false)) g h n i, H⟩) := by
  have hv' : decide (i ≥ 0) = false := by simpa using hi
  simp only [Option.getD_some, Code.sub, List.replicate, List.cons_append, List.nil_append, exec_region, exec_seq, exec_cond, exec_block, exec_skip, exec_exit, exec_ret, runRegion, runOps, wantedA, aOp, evalA, ofConst, okV, okE, Option.map_some, Option.map_none, updOk, footOk, foot, List.all_nil, List.all_cons, Bool.and_self, Bool.and_true, Bool.true_and, if_true, if_false, putA, List.set_cons_zero, List.set_cons_succ, GP, GT, GK, T2, T3, T4, T5, T9, T35, T36, T37, T81, K, killAll, List.getElem?_cons_succ, List.getElem?_cons_zero, Option.getD_some, aBin, intBin, boolsOf, applyEff, setAll, lookOf, dirIds, List.flatMap_cons, List.flatMap_nil, aConv, Option.bind_some, Option.bind_none, Bool.false_eq_true, reduceIte, List.append_nil, reduceCtorEq, aBuiltin, srcRows, rowsOf, pures, AV.cells, List.map_cons, List.map_nil, chunk, splice, List.length_cons, List.length_nil, decide_true, decide_false, Option.map_some, Option.some.injEq, List.toArray, Nat.reduceAdd, Nat.reduceMul, Nat.reduceLT, Nat.reduceLeDiff, Nat.reduceSub, Nat.reduceMod, Nat.reduceGT, Nat.zero_add, Nat.zero_mul, bs35, List.length_map, Nat.zero_le, Int.reduceEq, Int.reduceLT, Int.reduceGT, Int.reduceNeg, Int.reduceMul, Int.reduceAdd, Int.reduceSub, reach, REACH, AV.idsL, AV.ids, Blk.ids, List.contains_nil, List.contains_cons, call, resAll, resA, tupOf, callee, Option.map_some, GX, GE, Nat.reduceEqDiff, BEq.rfl, beq_self_eq_true, decide_true, Row.valid, Nat.le_refl, Nat.reduceBEq, List.drop_zero, List.take_succ_cons, List.take_zero, List.drop_succ_cons, Bool.true_or, Bool.or_true, Bool.or_false, List.take_nil, List.drop_nil, f29, st29, loop29, K29, hv']

theorem loop29_ok (C : CallF) (M n : Nat) : ∀ (k : Nat) (r : Row) (g h N : Nat), k ≤ 8 → CanGrow r g h → h + k < 1000000000 → k < N →
    iter (exec G C 29 M (Code.sub [0] loop29) none) (tidy 1 (K 29 5)) N ⟨st29 .any g h n ((k : Int) - 1), [.row 5 1 r]⟩ =
      some (.exit 0, ⟨st29 (.pv (.bool false)) (growO r g h ((fixedB n k).map rowB)).2 (h + k) n (-1), [.row 5 1 (growO r g h ((fixedB n k).map rowB)).1]⟩) := by
  intro k
  induction k with
  | zero =>
    intro r g h N hk hc hh hN
    obtain ⟨N, rfl⟩ : ∃ M, N = M + 1 := ⟨N - 1, by omega⟩
    rw [iter_succ, step29' C M n _ (by omega)]
    rfl
  | succ k ih =>
    intro r g h N hk hc hh hN
    obtain ⟨N, rfl⟩ : ∃ M, N = M + 1 := ⟨N - 1, by omega⟩
    have e0 : ((k + 1 : Nat) : Int) - 1 = k := by omega
    rw [iter_succ, e0, step29 C M n k (by omega) r g h hc (by omega)]
    simp only
    generalize hb : ((n / 256 ^ k % 256 : Nat) : Int) = b
    have hle := valid_le hc.valid
    have hc' : CanGrow (grow r g h [rowB b]).1 (grow r g h [rowB b]).2 (h + 1) := hc.grow (a := [rowB b])
    have e : tidy 1 (K 29 5) ⟨st29 .any (grow r g h [rowB b]).2 (h + 1) n ((k : Int) - 1), [.row 5 1 (grow r g h [rowB b]).1, .row 5 1 ⟨[rowB b], 0, 0, 0, 0⟩]⟩
        = some ⟨st29 .any (grow r g h [rowB b]).2 (h + 1) n ((k : Int) - 1), [.row 5 1 (grow r g h [rowB b]).1]⟩ :=
      tidy_first (H0 := [_]) (rest := [_]) rfl rfl (by simp [K, K29, killAll, st29, AV.idsL, AV.ids]) (by simp [Blk.ids])
    rw [e]
    simp only [Option.bind_some]
    rw [ih _ _ _ N (by omega) hc' (by omega) (by omega), growO_cons hle]
    have e4 : growO r g h (List.map rowB (fixedB n (k + 1))) = grow r g h (rowB b :: List.map rowB (fixedB n k)) := by
      unfold growO; simp [fixedB, hb]
    rw [e4, show h + 1 + k = h + (k + 1) by omega]

/-- How many bytes. -/
def clip (size : Int) : Nat := (min (max size 0) 8).toNat
theorem clip_le (size : Int) : clip size ≤ 8 := by unfold clip; omega

/-- codec.PutFixed -/
theorem putFixed_ref (n : Nat) (size : Int) (r : Row) (g h : Nat) (hc : CanGrow r g h) (hh : h < 900000000) (N : Nat) (hN : 11 ≤ N) :
    call G N 29 [.ref 0 g h 1 0 h, .pv (.int .u64 n), .pv (.int .i64 size)] [.row 5 1 r] =
      some (.ret (.ref 0 (growO r g h ((fixedB n (clip size)).map rowB)).2 (h + clip size) 1 0 (h + clip size)), [.row 5 1 (growO r g h ((fixedB n (clip size)).map rowB)).1]) := by
  obtain ⟨N, rfl⟩ : ∃ M, N = M + 1 := ⟨N - 1, by omega⟩
  have hcl := clip_le size
  have hb : f29.body = some (Code.seq (Code.sub [0] (f29.body.getD .skip)) (.seq (.seq (Code.sub [1, 0, 0] (f29.body.getD .skip)) (.block 0 (.loop (Code.sub [0] loop29)))) last29)) := rfl
  have hl : exec G (call G N) 29 N (.loop (Code.sub [0] loop29)) none ⟨st29 .any g h n ((clip size : Int) - 1), [.row 5 1 r]⟩ = _ := loop29_ok (call G N) N n (clip size) r g h N hcl hc (by omega) (by omega)
  have e1 : (if (8 : Int) < (if (0 : Int) > size then 0 else size) then (8 : Int) else (if (0 : Int) > size then 0 else size)) = clip size := by unfold clip; split <;> split <;> omega
  have e2 : IntKind.i64.wrap ((clip size : Int) - 1) = (clip size : Int) - 1 := by simp [IntKind.wrap, IntKind.signed, IntKind.bits]; omega
  have h0 : exec G (call G N) 29 N (Code.sub [0] (f29.body.getD .skip)) none ⟨[.ref 0 g h 1 0 h, .pv (.int .u64 n), .pv (.int .i64 size)] ++ List.replicate 23 .any, [.row 5 1 r]⟩ = some (.normal, ⟨[.ref 0 g h 1 0 h, .pv (.int .u64 n), .pv (.int .i64 size)] ++ List.replicate 23 .any, [.row 5 1 r]⟩) := by
    simp only [Option.getD_some, Code.sub, List.replicate, List.cons_append, List.nil_append, exec_region, exec_seq, exec_cond, exec_block, exec_skip, exec_exit, exec_ret, runRegion, runOps, wantedA, aOp, evalA, ofConst, okV, okE, Option.map_some, Option.map_none, updOk, footOk, foot, List.all_nil, List.all_cons, Bool.and_self, Bool.and_true, Bool.true_and, if_true, if_false, putA, List.set_cons_zero, List.set_cons_succ, GP, GT, GK, T2, T3, T4, T5, T9, T35, T36, T37, T81, K, killAll, List.getElem?_cons_succ, List.getElem?_cons_zero, Option.getD_some, aBin, intBin, boolsOf, applyEff, setAll, lookOf, dirIds, List.flatMap_cons, List.flatMap_nil, aConv, Option.bind_some, Option.bind_none, Bool.false_eq_true, reduceIte, List.append_nil, reduceCtorEq, aBuiltin, srcRows, rowsOf, pures, AV.cells, List.map_cons, List.map_nil, chunk, splice, List.length_cons, List.length_nil, decide_true, decide_false, Option.map_some, Option.some.injEq, List.toArray, Nat.reduceAdd, Nat.reduceMul, Nat.reduceLT, Nat.reduceLeDiff, Nat.reduceSub, Nat.reduceMod, Nat.reduceGT, Nat.zero_add, Nat.zero_mul, bs35, List.length_map, Nat.zero_le, Int.reduceEq, Int.reduceLT, Int.reduceGT, Int.reduceNeg, Int.reduceMul, Int.reduceAdd, Int.reduceSub, reach, REACH, AV.idsL, AV.ids, Blk.ids, List.contains_nil, List.contains_cons, call, resAll, resA, tupOf, callee, Option.map_some, GX, GE, Nat.reduceEqDiff, BEq.rfl, beq_self_eq_true, decide_true, Row.valid, Nat.le_refl, Nat.reduceBEq, List.drop_zero, List.take_succ_cons, List.take_zero, List.drop_succ_cons, Bool.true_or, Bool.or_true, Bool.or_false, List.take_nil, List.drop_nil, f29, K29]
  have h1 : exec G (call G N) 29 N (Code.sub [1, 0, 0] (f29.body.getD .skip)) none ⟨[.ref 0 g h 1 0 h, .pv (.int .u64 n), .pv (.int .i64 size)] ++ List.replicate 23 .any, [.row 5 1 r]⟩ = some (.normal, ⟨st29 .any g h n ((clip size : Int) - 1), [.row 5 1 r]⟩) := by
    simp only [Option.getD_some, Code.sub, List.replicate, List.cons_append, List.nil_append, exec_region, exec_seq, exec_cond, exec_block, exec_skip, exec_exit, exec_ret, runRegion, runOps, wantedA, aOp, evalA, ofConst, okV, okE, Option.map_some, Option.map_none, updOk, footOk, foot, List.all_nil, List.all_cons, Bool.and_self, Bool.and_true, Bool.true_and, if_true, if_false, putA, List.set_cons_zero, List.set_cons_succ, GP, GT, GK, T2, T3, T4, T5, T9, T35, T36, T37, T81, K, killAll, List.getElem?_cons_succ, List.getElem?_cons_zero, Option.getD_some, aBin, intBin, boolsOf, applyEff, setAll, lookOf, dirIds, List.flatMap_cons, List.flatMap_nil, aConv, Option.bind_some, Option.bind_none, Bool.false_eq_true, reduceIte, List.append_nil, reduceCtorEq, aBuiltin, srcRows, rowsOf, pures, AV.cells, List.map_cons, List.map_nil, chunk, splice, List.length_cons, List.length_nil, decide_true, decide_false, Option.map_some, Option.some.injEq, List.toArray, Nat.reduceAdd, Nat.reduceMul, Nat.reduceLT, Nat.reduceLeDiff, Nat.reduceSub, Nat.reduceMod, Nat.reduceGT, Nat.zero_add, Nat.zero_mul, bs35, List.length_map, Nat.zero_le, Int.reduceEq, Int.reduceLT, Int.reduceGT, Int.reduceNeg, Int.reduceMul, Int.reduceAdd, Int.reduceSub, reach, REACH, AV.idsL, AV.ids, Blk.ids, List.contains_nil, List.contains_cons, call, resAll, resA, tupOf, callee, Option.map_some, GX, GE, Nat.reduceEqDiff, BEq.rfl, beq_self_eq_true, decide_true, Row.valid, Nat.le_refl, Nat.reduceBEq, List.drop_zero, List.take_succ_cons, List.take_zero, List.drop_succ_cons, Bool.true_or, Bool.or_true, Bool.or_false, List.take_nil, List.drop_nil, f29, K29, st29, foldA, maxA, minA, e1, e2]
  have hlast : ∀ (rr : Row) gg hh, exec G (call G N) 29 N last29 none ⟨st29 (.pv (.bool false)) gg hh n (-1), [.row 5 1 rr]⟩ = some (.ret, ⟨[.any, .any, .any, .any, .any, .any, .ref 0 gg hh 1 0 hh] ++ List.replicate 19 .any, [.row 5 1 rr]⟩) := fun rr gg hh => by
    simp only [Option.getD_some, Code.sub, List.replicate, List.cons_append, List.nil_append, exec_region, exec_seq, exec_cond, exec_block, exec_skip, exec_exit, exec_ret, runRegion, runOps, wantedA, aOp, evalA, ofConst, okV, okE, Option.map_some, Option.map_none, updOk, footOk, foot, List.all_nil, List.all_cons, Bool.and_self, Bool.and_true, Bool.true_and, if_true, if_false, putA, List.set_cons_zero, List.set_cons_succ, GP, GT, GK, T2, T3, T4, T5, T9, T35, T36, T37, T81, K, killAll, List.getElem?_cons_succ, List.getElem?_cons_zero, Option.getD_some, aBin, intBin, boolsOf, applyEff, setAll, lookOf, dirIds, List.flatMap_cons, List.flatMap_nil, aConv, Option.bind_some, Option.bind_none, Bool.false_eq_true, reduceIte, List.append_nil, reduceCtorEq, aBuiltin, srcRows, rowsOf, pures, AV.cells, List.map_cons, List.map_nil, chunk, splice, List.length_cons, List.length_nil, decide_true, decide_false, Option.map_some, Option.some.injEq, List.toArray, Nat.reduceAdd, Nat.reduceMul, Nat.reduceLT, Nat.reduceLeDiff, Nat.reduceSub, Nat.reduceMod, Nat.reduceGT, Nat.zero_add, Nat.zero_mul, bs35, List.length_map, Nat.zero_le, Int.reduceEq, Int.reduceLT, Int.reduceGT, Int.reduceNeg, Int.reduceMul, Int.reduceAdd, Int.reduceSub, reach, REACH, AV.idsL, AV.ids, Blk.ids, List.contains_nil, List.contains_cons, call, resAll, resA, tupOf, callee, Option.map_some, GX, GE, Nat.reduceEqDiff, BEq.rfl, beq_self_eq_true, decide_true, Row.valid, Nat.le_refl, Nat.reduceBEq, List.drop_zero, List.take_succ_cons, List.take_zero, List.drop_succ_cons, Bool.true_or, Bool.or_true, Bool.or_false, List.take_nil, List.drop_nil, f29, K29, st29, last29]
  simp only [call, GP, func29]
  rw [hb]
  simp only
  have hrep : List.replicate (f29.ntmps - [AV.ref 0 g h 1 0 h, AV.pv (.int .u64 n), .pv (.int .i64 size)].length) AV.any = List.replicate 23 AV.any := rfl
  rw [hrep, exec_seq, h0]
  simp only
  rw [exec_seq, exec_seq, h1]
  simp only
  rw [exec_block, hl]
  simp only [if_true]
  rw [hlast]
  have hres : f29.results.toList = [.tmp 6] := rfl
  simp only [Option.getD_some, Code.sub, List.replicate, List.cons_append, List.nil_append, exec_region, exec_seq, exec_cond, exec_block, exec_skip, exec_exit, exec_ret, runRegion, runOps, wantedA, aOp, evalA, ofConst, okV, okE, Option.map_some, Option.map_none, updOk, footOk, foot, List.all_nil, List.all_cons, Bool.and_self, Bool.and_true, Bool.true_and, if_true, if_false, putA, List.set_cons_zero, List.set_cons_succ, GP, GT, GK, T2, T3, T4, T5, T9, T35, T36, T37, T81, K, killAll, List.getElem?_cons_succ, List.getElem?_cons_zero, Option.getD_some, aBin, intBin, boolsOf, applyEff, setAll, lookOf, dirIds, List.flatMap_cons, List.flatMap_nil, aConv, Option.bind_some, Option.bind_none, Bool.false_eq_true, reduceIte, List.append_nil, reduceCtorEq, aBuiltin, srcRows, rowsOf, pures, AV.cells, List.map_cons, List.map_nil, chunk, splice, List.length_cons, List.length_nil, decide_true, decide_false, Option.map_some, Option.some.injEq, List.toArray, Nat.reduceAdd, Nat.reduceMul, Nat.reduceLT, Nat.reduceLeDiff, Nat.reduceSub, Nat.reduceMod, Nat.reduceGT, Nat.zero_add, Nat.zero_mul, bs35, List.length_map, Nat.zero_le, Int.reduceEq, Int.reduceLT, Int.reduceGT, Int.reduceNeg, Int.reduceMul, Int.reduceAdd, Int.reduceSub, reach, REACH, AV.idsL, AV.ids, Blk.ids, List.contains_nil, List.contains_cons, call, resAll, resA, tupOf, callee, Option.map_some, GX, GE, Nat.reduceEqDiff, BEq.rfl, beq_self_eq_true, decide_true, Row.valid, Nat.le_refl, Nat.reduceBEq, List.drop_zero, List.take_succ_cons, List.take_zero, List.drop_succ_cons, Bool.true_or, Bool.or_true, Bool.or_false, List.take_nil, List.drop_nil, hres]
  exact congrArg (Option.map fun p => (Out.ret p.1, p.2)) (leave_same (md := G.M 29) (.inl rfl) rfl)
end Go.Ab.Ytknmgphnkfeifaa
