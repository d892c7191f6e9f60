import Derived.Test.YtknmgphnkfeifaaW1
namespace Go.Ab.Ytknmgphnkfeifaa
open Go Go.Ab
open Go.Proofs.Try
set_option maxRecDepth 100000
set_option linter.unusedSimpArgs false
set_option linter.unusedVariables false
noncomputable def loop21 : Code := Code.sub [1, 0, 0] (f21.body.getD .skip)
noncomputable def last21 : Code := Code.sub [1, 1] (f21.body.getD .skip)

theorem bs35 (nid : Nat) (p : PV) : aBuildSlice (tiOf prog) nid 35 1 [(0, .pv p)] = some ⟨.ref nid 0 1 1 0 1, [], [.row 5 1 ⟨[[p]], 0, 0, 0, 0⟩]⟩ := by
  simp [aBuildSlice, T35, T5, aBuildParts, AV.cells, splice, List.range, List.range.loop, pures, chunk]

theorem orByte (v : Int) : IntKind.u8.wrap ((BitVec.ofInt IntKind.u8.bits (IntKind.u8.wrap v) ||| BitVec.ofInt IntKind.u8.bits 128).toNat : Int) = v % 128 + 128 := by
  have h : ∀ x : BitVec 8, (x ||| 128#8).toNat = x.toNat % 128 + 128 := by decide
  have e : (BitVec.ofInt IntKind.u8.bits (IntKind.u8.wrap v) ||| BitVec.ofInt IntKind.u8.bits 128).toNat = (BitVec.ofInt 8 (IntKind.u8.wrap v)).toNat % 128 + 128 := h _
  rw [e, BitVec.toNat_ofInt]
  simp [IntKind.wrap, IntKind.signed, IntKind.bits]
  omega
theorem shr7 (v : Int) : shiftBin .shr .u64 v 7 = some (.pv (.int .u64 (v / 128))) := by
  simp [shiftBin, IntKind.bits]
  rw [Int.fdiv_eq_ediv_of_nonneg _ (by decide)]

def st21 (x : AV) (g h : Nat) (v : Int) : List AV := [.ref 0 g h 1 0 h, .pv (.int .u64 v), .any, .any, .any, .any, x, .any, .any, .any, .any, .any, .any, .any, .any, .any, .any, .any, .any, .any]

theorem step21 (C : CallF) (n : Nat) (v : Int) (hv : 128 ≤ v) (r : Row) (g h : Nat) (hc : CanGrow r g h) (hh : h < 1000000000) :
    exec G C 21 n (Code.sub [0] loop21) none ⟨st21 .any g h v, [.row 5 1 r]⟩ =
      some (.normal, ⟨st21 .any (grow r g h [rowB (v % 128 + 128)]).2 (h + 1) (v / 128), [.row 5 1 (grow r g h [rowB (v % 128 + 128)]).1, .row 5 1 ⟨[rowB (v % 128 + 128)], 0, 0, 0, 0⟩]⟩) := by
  have hv' : decide (v ≥ 128) = true := by simpa using hv
  have ha := fun x look (hl : look 0 = some (.row 5 1 r)) => aAppend_ref (T := tiOf prog) (nid := 2) (t := 35) (e := 5) (id := 0) (esz := 1) (news := [[PV.int .u8 x]]) (look := look) T35 rfl T5 rfl (by decide) (by simp) hl hc (by simp; omega) (by simp; omega) (by simp)
  simp only [Option.getD_some, Code.sub, List.replicate, List.cons_append, List.nil_append, exec_region, exec_seq, exec_cond, exec_block, exec_skip, exec_exit, exec_ret, runRegion, runOps, wantedA, aOp, evalA, ofConst, okV, okE, Option.map_some, Option.map_none, updOk, footOk, foot, List.all_nil, List.all_cons, Bool.and_self, Bool.and_true, Bool.true_and, if_true, if_false, putA, List.set_cons_zero, List.set_cons_succ, GP, GT, GK, T2, T3, T4, T5, T9, T35, T36, T37, T81, K, killAll, List.getElem?_cons_succ, List.getElem?_cons_zero, Option.getD_some, aBin, intBin, boolsOf, applyEff, setAll, lookOf, dirIds, List.flatMap_cons, List.flatMap_nil, aConv, Option.bind_some, Option.bind_none, Bool.false_eq_true, reduceIte, List.append_nil, reduceCtorEq, aBuiltin, srcRows, rowsOf, pures, AV.cells, List.map_cons, List.map_nil, chunk, splice, List.length_cons, List.length_nil, decide_true, decide_false, Option.map_some, Option.some.injEq, List.toArray, Nat.reduceAdd, Nat.reduceMul, Nat.reduceLT, Nat.reduceLeDiff, Nat.reduceSub, Nat.reduceMod, Nat.reduceGT, Nat.zero_add, Nat.zero_mul, bs35, List.length_map, Nat.zero_le, Int.reduceEq, Int.reduceLT, Int.reduceGT, Int.reduceNeg, Int.reduceMul, Int.reduceAdd, Int.reduceSub, reach, REACH, AV.idsL, AV.ids, Blk.ids, List.contains_nil, List.contains_cons, call, resAll, resA, tupOf, callee, Option.map_some, GX, GE, Nat.reduceEqDiff, BEq.rfl, beq_self_eq_true, decide_true, Row.valid, Nat.le_refl, Nat.reduceBEq, List.drop_zero, List.take_succ_cons, List.take_zero, List.drop_succ_cons, Bool.true_or, Bool.or_true, Bool.or_false, List.take_nil, List.drop_nil, f21, st21, rowB, loop21, K21, hv', ha, orByte]
  rw [ha _ _ rfl]
  simp only [Option.getD_some, Code.sub, List.replicate, List.cons_append, List.nil_append, exec_region, exec_seq, exec_cond, exec_block, exec_skip, exec_exit, exec_ret, runRegion, runOps, wantedA, aOp, evalA, ofConst, okV, okE, Option.map_some, Option.map_none, updOk, footOk, foot, List.all_nil, List.all_cons, Bool.and_self, Bool.and_true, Bool.true_and, if_true, if_false, putA, List.set_cons_zero, List.set_cons_succ, GP, GT, GK, T2, T3, T4, T5, T9, T35, T36, T37, T81, K, killAll, List.getElem?_cons_succ, List.getElem?_cons_zero, Option.getD_some, aBin, intBin, boolsOf, applyEff, setAll, lookOf, dirIds, List.flatMap_cons, List.flatMap_nil, aConv, Option.bind_some, Option.bind_none, Bool.false_eq_true, reduceIte, List.append_nil, reduceCtorEq, aBuiltin, srcRows, rowsOf, pures, AV.cells, List.map_cons, List.map_nil, chunk, splice, List.length_cons, List.length_nil, decide_true, decide_false, Option.map_some, Option.some.injEq, List.toArray, Nat.reduceAdd, Nat.reduceMul, Nat.reduceLT, Nat.reduceLeDiff, Nat.reduceSub, Nat.reduceMod, Nat.reduceGT, Nat.zero_add, Nat.zero_mul, bs35, List.length_map, Nat.zero_le, Int.reduceEq, Int.reduceLT, Int.reduceGT, Int.reduceNeg, Int.reduceMul, Int.reduceAdd, Int.reduceSub, reach, REACH, AV.idsL, AV.ids, Blk.ids, List.contains_nil, List.contains_cons, call, resAll, resA, tupOf, callee, Option.map_some, GX, GE, Nat.reduceEqDiff, BEq.rfl, beq_self_eq_true, decide_true, Row.valid, Nat.le_refl, Nat.reduceBEq, List.drop_zero, List.take_succ_cons, List.take_zero, List.drop_succ_cons, Bool.true_or, Bool.or_true, Bool.or_false, List.take_nil, List.drop_nil, f21, loop21, K21, hv', ha, shr7]

theorem step21' (C : CallF) (n : Nat) (v : Int) (hv : ¬ 128 ≤ v) (H : List Blk) (g h : Nat) :
    exec G C 21 n (Code.sub [0] loop21) none ⟨st21 .any g h v, H⟩ = some (.exit 0, ⟨st21 (.pv (.bool false)) g h v, H⟩) := by
  have hv' : decide (v ≥ 128) = false := by simpa using hv
  simp only [Option.getD_some, Code.sub, List.replicate, List.cons_append, List.nil_append, exec_region, exec_seq, exec_cond, exec_block, exec_skip, exec_exit, exec_ret, runRegion, runOps, wantedA, aOp, evalA, ofConst, okV, okE, Option.map_some, Option.map_none, updOk, footOk, foot, List.all_nil, List.all_cons, Bool.and_self, Bool.and_true, Bool.true_and, if_true, if_false, putA, List.set_cons_zero, List.set_cons_succ, GP, GT, GK, T2, T3, T4, T5, T9, T35, T36, T37, T81, K, killAll, List.getElem?_cons_succ, List.getElem?_cons_zero, Option.getD_some, aBin, intBin, boolsOf, applyEff, setAll, lookOf, dirIds, List.flatMap_cons, List.flatMap_nil, aConv, Option.bind_some, Option.bind_none, Bool.false_eq_true, reduceIte, List.append_nil, reduceCtorEq, aBuiltin, srcRows, rowsOf, pures, AV.cells, List.map_cons, List.map_nil, chunk, splice, List.length_cons, List.length_nil, decide_true, decide_false, Option.map_some, Option.some.injEq, List.toArray, Nat.reduceAdd, Nat.reduceMul, Nat.reduceLT, Nat.reduceLeDiff, Nat.reduceSub, Nat.reduceMod, Nat.reduceGT, Nat.zero_add, Nat.zero_mul, bs35, List.length_map, Nat.zero_le, Int.reduceEq, Int.reduceLT, Int.reduceGT, Int.reduceNeg, Int.reduceMul, Int.reduceAdd, Int.reduceSub, reach, REACH, AV.idsL, AV.ids, Blk.ids, List.contains_nil, List.contains_cons, call, resAll, resA, tupOf, callee, Option.map_some, GX, GE, Nat.reduceEqDiff, BEq.rfl, beq_self_eq_true, decide_true, Row.valid, Nat.le_refl, Nat.reduceBEq, List.drop_zero, List.take_succ_cons, List.take_zero, List.drop_succ_cons, Bool.true_or, Bool.or_true, Bool.or_false, List.take_nil, List.drop_nil, f21, st21, loop21, K21, hv']

theorem loop21_ok (C : CallF) (n : Nat) : ∀ (k v : Nat) (r : Row) (g h N : Nat), v < 128 ^ (k + 1) → CanGrow r g h → h + k < 1000000000 → k < N →
    iter (exec G C 21 n (Code.sub [0] loop21) none) (tidy 1 (K 21 3)) N ⟨st21 .any g h v, [.row 5 1 r]⟩ =
      some (.exit 0, ⟨st21 (.pv (.bool false)) (growO r g h ((uinit v).map rowB)).2 (h + (uinit v).length) (ulast v), [.row 5 1 (growO r g h ((uinit v).map rowB)).1]⟩) := by
  intro k
  induction k with
  | zero =>
    intro v r g h N hv hc hh hN
    obtain ⟨N, rfl⟩ : ∃ M, N = M + 1 := ⟨N - 1, by omega⟩
    rw [iter_succ, step21' C n v (by omega)]
    rw [show uinit v = [] by rw [uinit, if_pos (by omega)], show ulast v = v by rw [ulast, if_pos (by omega)]]
    rfl
  | succ k ih =>
    intro v r g h N hv hc hh hN
    obtain ⟨N, rfl⟩ : ∃ M, N = M + 1 := ⟨N - 1, by omega⟩
    by_cases hlt : v < 128
    · rw [iter_succ, step21' C n v (by omega)]
      rw [show uinit v = [] by rw [uinit, if_pos (by omega)], show ulast v = v by rw [ulast, if_pos (by omega)]]
      rfl
    · rw [iter_succ, step21 C n v (by omega) r g h hc (by omega)]
      simp only
      have e : tidy 1 (K 21 3) ⟨st21 .any (grow r g h [rowB ((v : Int) % 128 + 128)]).2 (h + 1) ((v : Int) / 128), [.row 5 1 (grow r g h [rowB ((v : Int) % 128 + 128)]).1, .row 5 1 ⟨[rowB ((v : Int) % 128 + 128)], 0, 0, 0, 0⟩]⟩
          = some ⟨st21 .any (grow r g h [rowB ((v : Int) % 128 + 128)]).2 (h + 1) ((v : Int) / 128), [.row 5 1 (grow r g h [rowB ((v : Int) % 128 + 128)]).1]⟩ := by
        exact tidy_first (H0 := [_]) (rest := [_]) rfl rfl (by simp [K, K21, killAll, st21, AV.idsL, AV.ids]) (by simp [Blk.ids])
      rw [e]
      simp only [Option.bind_some]
      have e2 : ((v : Int) / 128) = ((v / 128 : Nat) : Int) := by omega
      have hle := valid_le hc.valid
      have hc' : CanGrow (grow r g h [rowB ((v : Int) % 128 + 128)]).1 (grow r g h [rowB ((v : Int) % 128 + 128)]).2 (h + 1) := hc.grow (a := [rowB ((v : Int) % 128 + 128)])
      rw [e2, ih (v / 128) _ _ _ N (by rw [Nat.pow_succ] at hv; omega) hc' (by omega) (by omega)]
      rw [growO_cons hle, show uinit v = ((v % 128 + 128 : Nat) : Int) :: uinit (v / 128) by rw [uinit, if_neg hlt], show ulast v = ulast (v / 128) by rw [ulast, if_neg hlt]]
      have e3 : ((v : Int) % 128 + 128) = ((v % 128 + 128 : Nat) : Int) := by omega
      rw [e3]
      have e4 : growO r g h (List.map rowB (((v % 128 + 128 : Nat) : Int) :: uinit (v / 128))) = grow r g h (rowB ((v % 128 + 128 : Nat) : Int) :: List.map rowB (uinit (v / 128))) := by
        unfold growO; simp
      rw [e4, List.length_cons, show h + 1 + (uinit (v / 128)).length = h + ((uinit (v / 128)).length + 1) by omega]

theorem last21_ok (C : CallF) (n : Nat) (x : AV) (v : Int) (hv : 0 ≤ v) (hv2 : v < 128) (r : Row) (g h : Nat) (hc : CanGrow r g h) (hh : h < 1000000000) :
    exec G C 21 n last21 none ⟨st21 x g h v, [.row 5 1 r]⟩ =
      some (.ret, ⟨[.any, .any, .any, .any, .ref 0 (grow r g h [rowB v]).2 (h + 1) 1 0 (h + 1), .any, .any, .any, .any, .any, .any, .any, .any, .any, .any, .any, .any, .any, .any, .any], [.row 5 1 (grow r g h [rowB v]).1, .row 5 1 ⟨[rowB v], 0, 0, 0, 0⟩]⟩) := by
  have hw : IntKind.u8.wrap v = v := by simp [IntKind.wrap, IntKind.signed, IntKind.bits]; omega
  have ha := fun x look (hl : look 0 = some (.row 5 1 r)) => aAppend_ref (T := tiOf prog) (nid := 2) (t := 35) (e := 5) (id := 0) (esz := 1) (news := [[PV.int .u8 x]]) (look := look) T35 rfl T5 rfl (by decide) (by simp) hl hc (by simp; omega) (by simp; omega) (by simp)
  simp only [Option.getD_some, Code.sub, List.replicate, List.cons_append, List.nil_append, exec_region, exec_seq, exec_cond, exec_block, exec_skip, exec_exit, exec_ret, runRegion, runOps, wantedA, aOp, evalA, ofConst, okV, okE, Option.map_some, Option.map_none, updOk, footOk, foot, List.all_nil, List.all_cons, Bool.and_self, Bool.and_true, Bool.true_and, if_true, if_false, putA, List.set_cons_zero, List.set_cons_succ, GP, GT, GK, T2, T3, T4, T5, T9, T35, T36, T37, T81, K, killAll, List.getElem?_cons_succ, List.getElem?_cons_zero, Option.getD_some, aBin, intBin, boolsOf, applyEff, setAll, lookOf, dirIds, List.flatMap_cons, List.flatMap_nil, aConv, Option.bind_some, Option.bind_none, Bool.false_eq_true, reduceIte, List.append_nil, reduceCtorEq, aBuiltin, srcRows, rowsOf, pures, AV.cells, List.map_cons, List.map_nil, chunk, splice, List.length_cons, List.length_nil, decide_true, decide_false, Option.map_some, Option.some.injEq, List.toArray, Nat.reduceAdd, Nat.reduceMul, Nat.reduceLT, Nat.reduceLeDiff, Nat.reduceSub, Nat.reduceMod, Nat.reduceGT, Nat.zero_add, Nat.zero_mul, bs35, List.length_map, Nat.zero_le, Int.reduceEq, Int.reduceLT, Int.reduceGT, Int.reduceNeg, Int.reduceMul, Int.reduceAdd, Int.reduceSub, reach, REACH, AV.idsL, AV.ids, Blk.ids, List.contains_nil, List.contains_cons, call, resAll, resA, tupOf, callee, Option.map_some, GX, GE, Nat.reduceEqDiff, BEq.rfl, beq_self_eq_true, decide_true, Row.valid, Nat.le_refl, Nat.reduceBEq, List.drop_zero, List.take_succ_cons, List.take_zero, List.drop_succ_cons, Bool.true_or, Bool.or_true, Bool.or_false, List.take_nil, List.drop_nil, f21, st21, rowB, last21, K21, ha, hw]
  rw [ha _ _ rfl]
  simp only [Option.getD_some, Code.sub, List.replicate, List.cons_append, List.nil_append, exec_region, exec_seq, exec_cond, exec_block, exec_skip, exec_exit, exec_ret, runRegion, runOps, wantedA, aOp, evalA, ofConst, okV, okE, Option.map_some, Option.map_none, updOk, footOk, foot, List.all_nil, List.all_cons, Bool.and_self, Bool.and_true, Bool.true_and, if_true, if_false, putA, List.set_cons_zero, List.set_cons_succ, GP, GT, GK, T2, T3, T4, T5, T9, T35, T36, T37, T81, K, killAll, List.getElem?_cons_succ, List.getElem?_cons_zero, Option.getD_some, aBin, intBin, boolsOf, applyEff, setAll, lookOf, dirIds, List.flatMap_cons, List.flatMap_nil, aConv, Option.bind_some, Option.bind_none, Bool.false_eq_true, reduceIte, List.append_nil, reduceCtorEq, aBuiltin, srcRows, rowsOf, pures, AV.cells, List.map_cons, List.map_nil, chunk, splice, List.length_cons, List.length_nil, decide_true, decide_false, Option.map_some, Option.some.injEq, List.toArray, Nat.reduceAdd, Nat.reduceMul, Nat.reduceLT, Nat.reduceLeDiff, Nat.reduceSub, Nat.reduceMod, Nat.reduceGT, Nat.zero_add, Nat.zero_mul, bs35, List.length_map, Nat.zero_le, Int.reduceEq, Int.reduceLT, Int.reduceGT, Int.reduceNeg, Int.reduceMul, Int.reduceAdd, Int.reduceSub, reach, REACH, AV.idsL, AV.ids, Blk.ids, List.contains_nil, List.contains_cons, call, resAll, resA, tupOf, callee, Option.map_some, GX, GE, Nat.reduceEqDiff, BEq.rfl, beq_self_eq_true, decide_true, Row.valid, Nat.le_refl, Nat.reduceBEq, List.drop_zero, List.take_succ_cons, List.take_zero, List.drop_succ_cons, Bool.true_or, Bool.or_true, Bool.or_false, List.take_nil, List.drop_nil, f21, K21]

theorem ulast_lt : ∀ (v : Nat), ulast v < 128 := by
  intro v
  induction v using Nat.strongRecOn with
  | ind v ih =>
    rw [ulast]
    split
    · assumption
    · exact ih _ (by omega)

theorem uinit_length : ∀ (k v : Nat), v < 128 ^ (k + 1) → (uinit v).length ≤ k := by
  intro k
  induction k with
  | zero => intro v hv; rw [uinit, if_pos (by omega)]; simp
  | succ k ih =>
    intro v hv
    rw [uinit]
    split
    · simp
    · rw [List.length_cons]
      have := ih (v / 128) (by rw [Nat.pow_succ] at hv; omega)
      omega

/-- codec.PutUint, on a slice that may grow. -/
theorem putUint_ref (v : Nat) (hv : v < 18446744073709551616) (r : Row) (g h : Nat) (hc : CanGrow r g h) (hh : h < 900000000) (N : Nat) (hN : 12 ≤ N) :
    call G N 21 [.ref 0 g h 1 0 h, .pv (.int .u64 v)] [.row 5 1 r] =
      some (.ret (.ref 0 (grow r g h ((ubytes v).map rowB)).2 (h + (ubytes v).length) 1 0 (h + (ubytes v).length)), [.row 5 1 (grow r g h ((ubytes v).map rowB)).1]) := by
  obtain ⟨N, rfl⟩ : ∃ M, N = M + 1 := ⟨N - 1, by omega⟩
  have hb : f21.body = some (Code.seq (Code.sub [0] (f21.body.getD .skip)) (.seq (.block 0 (.loop (Code.sub [0] loop21))) last21)) := rfl
  have hle := valid_le hc.valid
  have hul := uinit_length 9 v (by omega)
  have h0 : exec G (call G N) 21 N (Code.sub [0] (f21.body.getD .skip)) none ⟨[.ref 0 g h 1 0 h, .pv (.int .u64 v)] ++ List.replicate 18 .any, [.row 5 1 r]⟩ = some (.normal, ⟨st21 .any g h v, [.row 5 1 r]⟩) := by
    simp only [Option.getD_some, Code.sub, List.replicate, List.cons_append, List.nil_append, exec_region, exec_seq, exec_cond, exec_block, exec_skip, exec_exit, exec_ret, runRegion, runOps, wantedA, aOp, evalA, ofConst, okV, okE, Option.map_some, Option.map_none, updOk, footOk, foot, List.all_nil, List.all_cons, Bool.and_self, Bool.and_true, Bool.true_and, if_true, if_false, putA, List.set_cons_zero, List.set_cons_succ, GP, GT, GK, T2, T3, T4, T5, T9, T35, T36, T37, T81, K, killAll, List.getElem?_cons_succ, List.getElem?_cons_zero, Option.getD_some, aBin, intBin, boolsOf, applyEff, setAll, lookOf, dirIds, List.flatMap_cons, List.flatMap_nil, aConv, Option.bind_some, Option.bind_none, Bool.false_eq_true, reduceIte, List.append_nil, reduceCtorEq, aBuiltin, srcRows, rowsOf, pures, AV.cells, List.map_cons, List.map_nil, chunk, splice, List.length_cons, List.length_nil, decide_true, decide_false, Option.map_some, Option.some.injEq, List.toArray, Nat.reduceAdd, Nat.reduceMul, Nat.reduceLT, Nat.reduceLeDiff, Nat.reduceSub, Nat.reduceMod, Nat.reduceGT, Nat.zero_add, Nat.zero_mul, bs35, List.length_map, Nat.zero_le, Int.reduceEq, Int.reduceLT, Int.reduceGT, Int.reduceNeg, Int.reduceMul, Int.reduceAdd, Int.reduceSub, reach, REACH, AV.idsL, AV.ids, Blk.ids, List.contains_nil, List.contains_cons, call, resAll, resA, tupOf, callee, Option.map_some, GX, GE, Nat.reduceEqDiff, BEq.rfl, beq_self_eq_true, decide_true, Row.valid, Nat.le_refl, Nat.reduceBEq, List.drop_zero, List.take_succ_cons, List.take_zero, List.drop_succ_cons, Bool.true_or, Bool.or_true, Bool.or_false, List.take_nil, List.drop_nil, f21, K21, st21]
  have hl : exec G (call G N) 21 N (.loop (Code.sub [0] loop21)) none ⟨st21 .any g h v, [.row 5 1 r]⟩ = _ := loop21_ok (call G N) N 9 v r g h N (by omega) hc (by omega) (by omega)
  have hlast := last21_ok (call G N) N (.pv (.bool false)) (ulast v : Int) (by omega) (by have := ulast_lt v; omega) _ _ _ (hc.growO (l := (uinit v).map rowB)) (by simp; omega)
  simp only [call, GP, func21]
  rw [hb]
  simp only
  rw [exec_seq]
  have hrep : List.replicate (f21.ntmps - [AV.ref 0 g h 1 0 h, AV.pv (.int .u64 v)].length) AV.any = List.replicate 18 AV.any := rfl
  rw [hrep, h0]
  simp only
  rw [exec_seq, exec_block, hl]
  simp only [if_true, List.length_map] at hlast ⊢
  rw [hlast]
  have e1 := growO_snoc (r := r) (g := g) (h := h) (x := rowB (ulast v)) (l := (uinit v).map rowB) hle
  rw [List.length_map] at e1
  rw [e1]
  have e2 : (ubytes v).map rowB = (uinit v).map rowB ++ [rowB (ulast v)] := by simp [ubytes]
  have e3 : h + (ubytes v).length = h + (uinit v).length + 1 := by simp [ubytes]; omega
  rw [e2, e3]
  have hres : f21.results.toList = [.tmp 4] := rfl
  simp only [hres, resAll, resA, List.getElem?_cons_succ, List.getElem?_cons_zero, Option.getD_some, Option.bind_some, Option.map_some, tupOf]
  have hlv := leave_first (md := G.M 21) (n0 := 1) (v := AV.ref 0 (grow r g h (List.map rowB (uinit v) ++ [rowB ↑(ulast v)])).2 (h + (uinit v).length + 1) 1 0 (h + (uinit v).length + 1))
    (H := [Blk.row 5 1 (grow r g h (List.map rowB (uinit v) ++ [rowB ↑(ulast v)])).1, Blk.row 5 1 ⟨[rowB ↑(ulast v)], 0, 0, 0, 0⟩]) (H0 := [_]) (rest := [_]) (.inl rfl) rfl rfl (by simp [AV.ids]) (by simp [Blk.ids])
  exact congrArg (Option.map fun p => (Out.ret p.1, p.2)) hlv

end Go.Ab.Ytknmgphnkfeifaa
