import Derived.Test.YtknmgphnkfeifaaP30
import Derived.Test.YtknmgphnkfeifaaAbSim2
namespace Go.Ab.Ytknmgphnkfeifaa
open Go Go.Ab
open Go.Proofs.Try
set_option maxRecDepth 100000
set_option linter.unusedSimpArgs false
set_option linter.unusedVariables false

/-- A reader that was made. -/
def bx (p : PV) (e : Int) : List AV := [.pv (.bool true), .pv p, .pv (.int .i64 e)]

noncomputable def ops52_1 : Array Oper := Code.ops (Code.sub [1, 0] (f52.body.getD .skip))
noncomputable def o52_1 (k : Nat) : List Oper := ops52_1.toList.drop k

theorem g52_1_2 : (ops52_1[2]?).bind (·.dst) = some 5 := by kernel_rfl
theorem g52_1_8 : (ops52_1[8]?).bind (·.dst) = some 11 := by kernel_rfl
noncomputable def c52_1_0 : List Oper := List.take 5 (List.drop 0 (Code.ops (Code.sub [1, 0] (f52.body.getD .skip))).toList)
theorem o52_1_0 (C : CallF) (seen : List Seen) (σ : St) : runOps G C ops52_1 0 (o52_1 0) seen σ = match runOps G C ops52_1 0 c52_1_0 seen σ with
    | some (.normal, σ', seen') => runOps G C ops52_1 5 (o52_1 5) seen' σ'
    | r => r := by
  have h := runOps_take (G := G) (C := C) (ops := ops52_1) 5 (o52_1 0) 0 seen σ (of_decide_eq_true (by kernel_rfl))
  rw [h]; rfl
noncomputable def c52_1_5 : List Oper := List.take 6 (List.drop 5 (Code.ops (Code.sub [1, 0] (f52.body.getD .skip))).toList)
theorem o52_1_5 (C : CallF) (seen : List Seen) (σ : St) : runOps G C ops52_1 5 (o52_1 5) seen σ = match runOps G C ops52_1 5 c52_1_5 seen σ with
    | some (.normal, σ', seen') => runOps G C ops52_1 11 (o52_1 11) seen' σ'
    | r => r := by
  have h := runOps_take (G := G) (C := C) (ops := ops52_1) 6 (o52_1 5) 5 seen σ (of_decide_eq_true (by kernel_rfl))
  rw [h]; rfl
noncomputable def c52_1_11 : List Oper := List.take 5 (List.drop 11 (Code.ops (Code.sub [1, 0] (f52.body.getD .skip))).toList)
theorem o52_1_11 (C : CallF) (seen : List Seen) (σ : St) : runOps G C ops52_1 11 (o52_1 11) seen σ = match runOps G C ops52_1 11 c52_1_11 seen σ with
    | some (.normal, σ', seen') => runOps G C ops52_1 16 (o52_1 16) seen' σ'
    | r => r := by
  have h := runOps_take (G := G) (C := C) (ops := ops52_1) 5 (o52_1 11) 11 seen σ (of_decide_eq_true (by kernel_rfl))
  rw [h]; rfl
theorem e52_1 (C : CallF) (seen : List Seen) (σ : St) : runOps G C ops52_1 16 (o52_1 16) seen σ = some (.normal, σ, seen) := by
  have h : o52_1 16 = [] := by kernel_rfl
  rw [h]; rfl

theorem ready_ok (p : PV) (e : Int) (N : Nat) (hN : 1 ≤ N) : call G N 52 [.ptr 0 0] [.box (bx p e) false] = some (.ret (.pv (.bool (e == 0))), [.box (bx p e) false]) := by
  obtain ⟨N, rfl⟩ : ∃ M, N = M + 1 := ⟨N - 1, by omega⟩
  have hb : f52.body = some (.seq (Code.sub [0] (f52.body.getD .skip)) (.seq (Code.sub [1, 0] (f52.body.getD .skip)) .ret)) := rfl
  have h0 : exec G (call G N) 52 N (Code.sub [0] (f52.body.getD .skip)) none ⟨.ptr 0 0 :: List.replicate 17 .any, [.box (bx p e) false]⟩ = some (.normal, ⟨.ptr 0 0 :: List.replicate 17 .any, [.box (bx p e) false]⟩) := by
    simp only [Option.getD_some, Code.sub, List.replicate, List.cons_append, List.nil_append, exec_region, exec_seq, exec_cond, exec_block, exec_skip, exec_exit, exec_ret, runRegion, runOps, wantedA, aOp, evalA, ofConst, okV, okE, Option.map_some, Option.map_none, updOk, footOk, foot, List.all_nil, List.all_cons, Bool.and_self, Bool.and_true, Bool.true_and, if_true, if_false, putA, List.set_cons_zero, List.set_cons_succ, GP, GT, GK, T2, T3, T4, T5, T9, T35, T36, T37, T81, K, killAll, List.getElem?_cons_succ, List.getElem?_cons_zero, Option.getD_some, aBin, intBin, boolsOf, applyEff, setAll, lookOf, dirIds, List.flatMap_cons, List.flatMap_nil, Option.bind_some, Option.bind_none, Bool.false_eq_true, reduceIte, List.append_nil, reduceCtorEq, aBuiltin, srcRows, rowsOf, pures, AV.cells, List.map_cons, List.map_nil, chunk, splice, List.length_cons, List.length_nil, decide_true, decide_false, Option.map_some, Option.some.injEq, List.getElem?_toArray, List.toList_toArray, List.map_toArray, Nat.reduceAdd, Nat.reduceMul, Nat.reduceLT, Nat.reduceLeDiff, Nat.reduceSub, Nat.reduceMod, Nat.reduceGT, Nat.zero_add, Nat.zero_mul, bs35, Bool.not_false, Bool.not_true, aField, aLoad, aStore, cut, mkVal, nilPtr, eqBin, T61, T28, T49, Nat.add_zero, AV.one, eq_self, List.length_map, Nat.zero_le, Int.reduceEq, Int.reduceLT, Int.reduceGT, Int.reduceNeg, Int.reduceMul, Int.reduceAdd, Int.reduceSub, reach, REACH, AV.idsL, AV.ids, Blk.ids, List.contains_nil, List.contains_cons, call, resAll, resA, tupOf, callee, Option.map_some, GX, GE, Nat.reduceEqDiff, BEq.rfl, beq_self_eq_true, decide_true, Row.valid, Nat.le_refl, Nat.reduceBEq, List.drop_zero, List.take_succ_cons, List.take_zero, List.drop_succ_cons, Bool.true_or, Bool.or_true, Bool.or_false, List.take_nil, List.drop_nil, f52, K52]
  have h1 : exec G (call G N) 52 N (Code.sub [1, 0] (f52.body.getD .skip)) none ⟨.ptr 0 0 :: List.replicate 17 .any, [.box (bx p e) false]⟩ = some (.normal, ⟨[.any, .any, .pv (.bool (e == 0))] ++ List.replicate 15 .any, [.box (bx p e) false]⟩) := by
    have hr : ∀ σ, exec G (call G N) 52 N (Code.sub [1, 0] (f52.body.getD .skip)) none σ = (runRegion G (call G N) ops52_1 false σ).map fun p => (p.1, ⟨killAll p.2.tmps (G.K 52 (2 * 1)), p.2.heap⟩) := fun _ => rfl
    rw [hr]
    unfold runRegion
    rw [show ops52_1.toList = o52_1 0 from rfl, o52_1_0]
    simp only [Option.getD_some, Code.sub, List.replicate, List.cons_append, List.nil_append, exec_region, exec_seq, exec_cond, exec_block, exec_skip, exec_exit, exec_ret, runRegion, runOps, wantedA, aOp, evalA, ofConst, okV, okE, Option.map_some, Option.map_none, updOk, footOk, foot, List.all_nil, List.all_cons, Bool.and_self, Bool.and_true, Bool.true_and, if_true, if_false, putA, List.set_cons_zero, List.set_cons_succ, GP, GT, GK, T2, T3, T4, T5, T9, T35, T36, T37, T81, K, killAll, List.getElem?_cons_succ, List.getElem?_cons_zero, Option.getD_some, aBin, intBin, boolsOf, applyEff, setAll, lookOf, dirIds, List.flatMap_cons, List.flatMap_nil, Option.bind_some, Option.bind_none, Bool.false_eq_true, reduceIte, List.append_nil, reduceCtorEq, aBuiltin, srcRows, rowsOf, pures, AV.cells, List.map_cons, List.map_nil, chunk, splice, List.length_cons, List.length_nil, decide_true, decide_false, Option.map_some, Option.some.injEq, List.getElem?_toArray, List.toList_toArray, List.map_toArray, Nat.reduceAdd, Nat.reduceMul, Nat.reduceLT, Nat.reduceLeDiff, Nat.reduceSub, Nat.reduceMod, Nat.reduceGT, Nat.zero_add, Nat.zero_mul, bs35, Bool.not_false, Bool.not_true, aField, aLoad, aStore, cut, mkVal, nilPtr, eqBin, T61, T28, T49, Nat.add_zero, AV.one, eq_self, List.length_map, Nat.zero_le, Int.reduceEq, Int.reduceLT, Int.reduceGT, Int.reduceNeg, Int.reduceMul, Int.reduceAdd, Int.reduceSub, reach, REACH, AV.idsL, AV.ids, Blk.ids, List.contains_nil, List.contains_cons, call, resAll, resA, tupOf, callee, Option.map_some, GX, GE, Nat.reduceEqDiff, BEq.rfl, beq_self_eq_true, decide_true, Row.valid, Nat.le_refl, Nat.reduceBEq, List.drop_zero, List.take_succ_cons, List.take_zero, List.drop_succ_cons, Bool.true_or, Bool.or_true, Bool.or_false, List.take_nil, List.drop_nil, c52_1_0, Code.ops, f52, bx, g52_1_2]
    rw [o52_1_5]
    simp only [Option.getD_some, Code.sub, List.replicate, List.cons_append, List.nil_append, exec_region, exec_seq, exec_cond, exec_block, exec_skip, exec_exit, exec_ret, runRegion, runOps, wantedA, aOp, evalA, ofConst, okV, okE, Option.map_some, Option.map_none, updOk, footOk, foot, List.all_nil, List.all_cons, Bool.and_self, Bool.and_true, Bool.true_and, if_true, if_false, putA, List.set_cons_zero, List.set_cons_succ, GP, GT, GK, T2, T3, T4, T5, T9, T35, T36, T37, T81, K, killAll, List.getElem?_cons_succ, List.getElem?_cons_zero, Option.getD_some, aBin, intBin, boolsOf, applyEff, setAll, lookOf, dirIds, List.flatMap_cons, List.flatMap_nil, Option.bind_some, Option.bind_none, Bool.false_eq_true, reduceIte, List.append_nil, reduceCtorEq, aBuiltin, srcRows, rowsOf, pures, AV.cells, List.map_cons, List.map_nil, chunk, splice, List.length_cons, List.length_nil, decide_true, decide_false, Option.map_some, Option.some.injEq, List.getElem?_toArray, List.toList_toArray, List.map_toArray, Nat.reduceAdd, Nat.reduceMul, Nat.reduceLT, Nat.reduceLeDiff, Nat.reduceSub, Nat.reduceMod, Nat.reduceGT, Nat.zero_add, Nat.zero_mul, bs35, Bool.not_false, Bool.not_true, aField, aLoad, aStore, cut, mkVal, nilPtr, eqBin, T61, T28, T49, Nat.add_zero, AV.one, eq_self, List.length_map, Nat.zero_le, Int.reduceEq, Int.reduceLT, Int.reduceGT, Int.reduceNeg, Int.reduceMul, Int.reduceAdd, Int.reduceSub, reach, REACH, AV.idsL, AV.ids, Blk.ids, List.contains_nil, List.contains_cons, call, resAll, resA, tupOf, callee, Option.map_some, GX, GE, Nat.reduceEqDiff, BEq.rfl, beq_self_eq_true, decide_true, Row.valid, Nat.le_refl, Nat.reduceBEq, List.drop_zero, List.take_succ_cons, List.take_zero, List.drop_succ_cons, Bool.true_or, Bool.or_true, Bool.or_false, List.take_nil, List.drop_nil, c52_1_5, Code.ops, f52, g52_1_2, g52_1_8]
    rw [o52_1_11]
    simp only [Option.getD_some, Code.sub, List.replicate, List.cons_append, List.nil_append, exec_region, exec_seq, exec_cond, exec_block, exec_skip, exec_exit, exec_ret, runRegion, runOps, wantedA, aOp, evalA, ofConst, okV, okE, Option.map_some, Option.map_none, updOk, footOk, foot, List.all_nil, List.all_cons, Bool.and_self, Bool.and_true, Bool.true_and, if_true, if_false, putA, List.set_cons_zero, List.set_cons_succ, GP, GT, GK, T2, T3, T4, T5, T9, T35, T36, T37, T81, K, killAll, List.getElem?_cons_succ, List.getElem?_cons_zero, Option.getD_some, aBin, intBin, boolsOf, applyEff, setAll, lookOf, dirIds, List.flatMap_cons, List.flatMap_nil, Option.bind_some, Option.bind_none, Bool.false_eq_true, reduceIte, List.append_nil, reduceCtorEq, aBuiltin, srcRows, rowsOf, pures, AV.cells, List.map_cons, List.map_nil, chunk, splice, List.length_cons, List.length_nil, decide_true, decide_false, Option.map_some, Option.some.injEq, List.getElem?_toArray, List.toList_toArray, List.map_toArray, Nat.reduceAdd, Nat.reduceMul, Nat.reduceLT, Nat.reduceLeDiff, Nat.reduceSub, Nat.reduceMod, Nat.reduceGT, Nat.zero_add, Nat.zero_mul, bs35, Bool.not_false, Bool.not_true, aField, aLoad, aStore, cut, mkVal, nilPtr, eqBin, T61, T28, T49, Nat.add_zero, AV.one, eq_self, List.length_map, Nat.zero_le, Int.reduceEq, Int.reduceLT, Int.reduceGT, Int.reduceNeg, Int.reduceMul, Int.reduceAdd, Int.reduceSub, reach, REACH, AV.idsL, AV.ids, Blk.ids, List.contains_nil, List.contains_cons, call, resAll, resA, tupOf, callee, Option.map_some, GX, GE, Nat.reduceEqDiff, BEq.rfl, beq_self_eq_true, decide_true, Row.valid, Nat.le_refl, Nat.reduceBEq, List.drop_zero, List.take_succ_cons, List.take_zero, List.drop_succ_cons, Bool.true_or, Bool.or_true, Bool.or_false, List.take_nil, List.drop_nil, c52_1_11, Code.ops, f52, g52_1_8]
    rw [e52_1]
    simp only [Option.getD_some, Code.sub, List.replicate, List.cons_append, List.nil_append, exec_region, exec_seq, exec_cond, exec_block, exec_skip, exec_exit, exec_ret, runRegion, runOps, wantedA, aOp, evalA, ofConst, okV, okE, Option.map_some, Option.map_none, updOk, footOk, foot, List.all_nil, List.all_cons, Bool.and_self, Bool.and_true, Bool.true_and, if_true, if_false, putA, List.set_cons_zero, List.set_cons_succ, GP, GT, GK, T2, T3, T4, T5, T9, T35, T36, T37, T81, K, killAll, List.getElem?_cons_succ, List.getElem?_cons_zero, Option.getD_some, aBin, intBin, boolsOf, applyEff, setAll, lookOf, dirIds, List.flatMap_cons, List.flatMap_nil, Option.bind_some, Option.bind_none, Bool.false_eq_true, reduceIte, List.append_nil, reduceCtorEq, aBuiltin, srcRows, rowsOf, pures, AV.cells, List.map_cons, List.map_nil, chunk, splice, List.length_cons, List.length_nil, decide_true, decide_false, Option.map_some, Option.some.injEq, List.getElem?_toArray, List.toList_toArray, List.map_toArray, Nat.reduceAdd, Nat.reduceMul, Nat.reduceLT, Nat.reduceLeDiff, Nat.reduceSub, Nat.reduceMod, Nat.reduceGT, Nat.zero_add, Nat.zero_mul, bs35, Bool.not_false, Bool.not_true, aField, aLoad, aStore, cut, mkVal, nilPtr, eqBin, T61, T28, T49, Nat.add_zero, AV.one, eq_self, List.length_map, Nat.zero_le, Int.reduceEq, Int.reduceLT, Int.reduceGT, Int.reduceNeg, Int.reduceMul, Int.reduceAdd, Int.reduceSub, reach, REACH, AV.idsL, AV.ids, Blk.ids, List.contains_nil, List.contains_cons, call, resAll, resA, tupOf, callee, Option.map_some, GX, GE, Nat.reduceEqDiff, BEq.rfl, beq_self_eq_true, decide_true, Row.valid, Nat.le_refl, Nat.reduceBEq, List.drop_zero, List.take_succ_cons, List.take_zero, List.drop_succ_cons, Bool.true_or, Bool.or_true, Bool.or_false, List.take_nil, List.drop_nil, K52]
    all_goals rfl
  have hrep : [AV.ptr 0 0] ++ List.replicate (f52.ntmps - [AV.ptr 0 0].length) AV.any = AV.ptr 0 0 :: List.replicate 17 .any := rfl
  have hres : f52.results.toList = [.tmp 2] := rfl
  simp only [call, GP, func52]
  rw [hb]
  simp only
  rw [hrep, exec_seq, h0]
  simp only
  rw [exec_seq, h1]
  simp only [exec_ret, hres, resAll, resA]
  show Option.map (fun p => (Out.ret p.1, p.2)) (leave (G.M 52) 1 (.pv (.bool (e == 0))) [.box (bx p e) false]) = _
  rw [leave_same (md := G.M 52) (n0 := 1) (H := [.box (bx p e) false]) (.inl rfl) rfl]
  rfl
end Go.Ab.Ytknmgphnkfeifaa
