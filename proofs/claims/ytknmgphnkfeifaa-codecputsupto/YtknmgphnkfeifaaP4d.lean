import Derived.Test.YtknmgphnkfeifaaP4c
namespace Go.Ab.Ytknmgphnkfeifaa
open Go Go.Ab
open Go.Proofs.Try
set_option maxRecDepth 100000
set_option maxHeartbeats 4000000
set_option linter.unusedSimpArgs false
set_option linter.unusedVariables false

/-- CodecPuts answers true. -/
theorem puts (a : AV) (l : List Int) (ha : (a = .pv .nils ∧ l = []) ∨ a = .pv (.sl (l.map rowB))) (u : Nat) (hu : u < 18446744073709551616) (i : Int) (hi : -9223372036854775808 ≤ i) (hi2 : i < 9223372036854775808) (s : ByteArray) (f : Nat) (hf : f < 18446744073709551616) (z : Int) :
    call G 61 4 (s4a a u i s f z) [] = some (.ret (.pv (.bool true)), []) := by
  have hb : f4.body = some (.seq (Code.sub [0] (f4.body.getD .skip)) (.seq (Code.sub [1, 0] (f4.body.getD .skip)) (.seq (Code.sub [1, 1, 0] (f4.body.getD .skip)) (.seq (Code.sub [1, 1, 1, 0] (f4.body.getD .skip)) (.seq r5 (.seq r6 .ret)))))) := rfl
  have hrep : s4a a u i s f z ++ List.replicate (f4.ntmps - (s4a a u i s f z).length) AV.any = s4a a u i s f z ++ List.replicate 93 .any := rfl
  have hres : f4.results.toList = [.tmp 12] := rfl
  have h0 : exec G (call G 60) 4 60 (Code.sub [0] (f4.body.getD .skip)) none ⟨s4a a u i s f z ++ List.replicate 93 .any, []⟩ = some (.normal, ⟨s4a a u i s f z ++ List.replicate 93 .any, []⟩) := by
    simp only [Option.getD_some, Code.sub, List.replicate, List.cons_append, List.nil_append, exec_region, exec_seq, exec_cond, exec_block, exec_skip, exec_exit, exec_ret, runRegion, runOps, wantedA, aOp, evalA, ofConst, okV, okE, Option.map_some, Option.map_none, updOk, footOk, foot, List.all_nil, List.all_cons, Bool.and_self, Bool.and_true, Bool.true_and, if_true, if_false, putA, List.set_cons_zero, List.set_cons_succ, GP, GT, GK, T2, T3, T4, T5, T9, T35, T36, T37, T81, K, killAll, List.getElem?_cons_succ, List.getElem?_cons_zero, Option.getD_some, aBin, intBin, boolsOf, applyEff, setAll, lookOf, dirIds, List.flatMap_cons, List.flatMap_nil, Option.bind_some, Option.bind_none, Bool.false_eq_true, reduceIte, List.append_nil, reduceCtorEq, aBuiltin, srcRows, rowsOf, pures, AV.cells, List.map_cons, List.map_nil, chunk, splice, List.length_cons, List.length_nil, decide_true, decide_false, Option.map_some, Option.some.injEq, List.getElem?_toArray, List.toList_toArray, List.map_toArray, Nat.reduceAdd, Nat.reduceMul, Nat.reduceLT, Nat.reduceLeDiff, Nat.reduceSub, Nat.reduceMod, Nat.reduceGT, Nat.zero_add, Nat.zero_mul, bs35, List.length_map, Nat.zero_le, Int.reduceEq, Int.reduceLT, Int.reduceGT, Int.reduceNeg, Int.reduceMul, Int.reduceAdd, Int.reduceSub, reach, REACH, AV.idsL, AV.ids, Blk.ids, List.contains_nil, List.contains_cons, call, resAll, resA, tupOf, callee, Option.map_some, GX, GE, Nat.reduceEqDiff, BEq.rfl, beq_self_eq_true, decide_true, Row.valid, Nat.le_refl, Nat.reduceBEq, List.drop_zero, List.take_succ_cons, List.take_zero, List.drop_succ_cons, Bool.true_or, Bool.or_true, Bool.or_false, List.take_nil, List.drop_nil, f4, s4a, K4]
  unfold call
  simp only [GP, func4]
  rw [hb]
  simp only
  rw [hrep, exec_seq, h0]
  simp only
  rw [exec_seq, reg1 _ _ a l ha]
  by_cases hbig : l.length > 2000 ∨ s.size > 2000
  · rw [if_pos hbig]
    simp only [hres, resAll, resA]
    exact congrArg (Option.map fun p => (Out.ret p.1, p.2)) (leave_pure (H := []))
  · rw [if_neg hbig]
    simp only
    rw [exec_seq, reg3 _ _ a l ha _ _ _ _ _ l.length rfl (by omega)]
    simp only
    rw [exec_seq, reg4 _ _ a l ha]
    simp only
    rw [exec_seq, reg5 60 (by omega) 60 u hu i hi hi2 s (by omega) f z l l.length rfl (by omega)]
    simp only
    obtain ⟨H, h6⟩ := reg6 60 (by omega) works31 60 u hu f hf z l (ubytes s.size ++ bytesI s) (by simp [ubytes]) l.length rfl (by omega) _ _ _
    rw [exec_seq, h6]
    simp only [exec_ret, hres, resAll, resA]
    exact congrArg (Option.map fun p => (Out.ret p.1, p.2)) (leave_pure (H := H))
end Go.Ab.Ytknmgphnkfeifaa
