import Derived.Test.YtejbcaheoloahaaAbExec
import Derived.Orders
namespace Go.Ab
open Go
variable {w w' : World} {F : Froz} {Pr : Nat → Prop} {m m' : Mu} {look : Look} {nid : Nat}
theorem aOp_congr_rho {G : Cfg} {C : CallF} {ρ ρ' : Operand → AV} (o : Oper) (look : Look) (nid : Nat) (h : ∀ x ∈ o.op.operands, ρ x = ρ' x) :
    aOp G C ρ o look nid = aOp G C ρ' o look nid ∧ foot ρ o look = foot ρ' o look := by
  obtain ⟨dst, op, type, pos, after, guard⟩ := o
  have pairs : ∀ ps : Array (Nat × Operand), (∀ x ∈ ps.map (·.2), ρ x = ρ' x) → (ps.toList.map fun p => (p.1, ρ p.2)) = (ps.toList.map fun p => (p.1, ρ' p.2)) := fun ps hp =>
    List.map_congr_left fun p hm => by
      obtain ⟨i, x⟩ := p
      simp only [hp x (Array.mem_map.2 ⟨(i, x), by simpa using hm, rfl⟩)]
  have arr : ∀ ps : Array Operand, (∀ x ∈ ps, ρ x = ρ' x) → ps.toList.map ρ = ps.toList.map ρ' := fun ps hp =>
    List.map_congr_left fun x hx => hp x (by simpa using hx)
  have lst : ∀ (ps : Array Operand), (∀ x ∈ ps, ρ x = ρ' x) → (ps.toList.map ρ) = (ps.toList.map ρ') := arr
  cases op <;> simp only [Op.operands] at h
  case build t ps => simp only [aOp, foot, pairs ps fun x hx => h x (by simpa using hx), and_self]
  case buildSlice t n ps =>
    have e2 : (ps.toList.map fun p => ρ p.2) = ps.toList.map fun p => ρ' p.2 := List.map_congr_left fun p hm => h p.2 (by simpa using ⟨p.1, by simpa using hm⟩)
    simp only [aOp, foot, pairs ps fun x hx => h x (by simpa using hx), e2, and_self]
  case makeFunc fn first captured =>
    cases fn <;> simp only [aOp, foot, arr first fun x hx => h x (by simp [hx]), arr captured fun x hx => h x (by simp [hx]), and_self]
  case call c =>
    obtain ⟨cal, args, ts⟩ := c
    have ha : ∀ x ∈ args, ρ x = ρ' x := fun x hx => h x (by simp [Call.operands, hx])
    cases cal with
    | value f =>
      have hf : ρ f = ρ' f := h f (by simp [Call.operands])
      simp only [aOp, foot, hf, arr args ha, and_self]
    | invoke r mm => exact ⟨rfl, rfl⟩
    | builtin b =>
      have : (args.toList.flatMap fun x => dirIds (ρ x)) = args.toList.flatMap fun x => dirIds (ρ' x) := by
        have := congrArg (List.flatMap dirIds) (arr args ha)
        simpa [List.flatMap_map] using this
      simp only [aOp, foot, arr args ha, this, and_self]
  case makeMap t r => cases r <;> exact ⟨rfl, rfl⟩
  case slice t x lo hi mx =>
    cases mx with
    | some m => exact ⟨by simp only [aOp], by simp only [foot]; rw [h x (by simp)]⟩
    | none => cases lo <;> cases hi <;> simp_all [aOp, foot]
  all_goals first
    | exact ⟨rfl, rfl⟩
    | (simp_all [aOp, foot]; done)
theorem rowsOf_congr {look look' : Look} (x : AV) (h : ∀ i ∈ dirIds x, look i = look' i) : rowsOf x look = rowsOf x look' := by
  cases x with
  | pv p => cases p <;> rfl
  | ref i g h' e o n => simp only [rowsOf, h i (List.mem_singleton.2 rfl)]
  | _ => rfl
theorem srcRows_congr {look look' : Look} (x : AV) (h : ∀ i ∈ dirIds x, look i = look' i) : srcRows x look = srcRows x look' := by
  unfold srcRows
  split
  · rfl
  · exact rowsOf_congr x h
theorem aLoad_congr {T : Nat → Option TI} {look look' : Look} (t : Nat) (x : AV) (h : ∀ i ∈ dirIds x, look i = look' i) : aLoad T t x look = aLoad T t x look' := by
  cases x with
  | pv p => cases p <;> rfl
  | ref i g h' e o n => simp only [aLoad, h i (List.mem_singleton.2 rfl)]
  | ptr i o => simp only [aLoad, h i (List.mem_singleton.2 rfl)]
  | eptr i g h' e o n => simp only [aLoad, h i (List.mem_singleton.2 rfl)]
  | _ => rfl
theorem aStore_congr {T : Nat → Option TI} {look look' : Look} (t : Nat) (x v : AV) (h : ∀ i ∈ dirIds x, look i = look' i) : aStore T t x v look = aStore T t x v look' := by
  cases x with
  | pv p => cases p <;> rfl
  | ref i g h' e o n => simp only [aStore, h i (List.mem_singleton.2 rfl)]
  | ptr i o => simp only [aStore, h i (List.mem_singleton.2 rfl)]
  | eptr i g h' e o n => simp only [aStore, h i (List.mem_singleton.2 rfl)]
  | _ => rfl
theorem aConv_congr {T : Nat → Option TI} {look look' : Look} (s d : Nat) (x : AV) (h : ∀ i ∈ dirIds x, look i = look' i) : aConv T s d x look = aConv T s d x look' := by
  unfold aConv
  cases T s with
  | none => rfl
  | some si =>
    cases T d with
    | none => rfl
    | some di =>
      simp only
      split <;> first | rfl | rw [rowsOf_congr _ h]
theorem aAppend_congr {T : Nat → Option TI} {look look' : Look} (nid t : Nat) (x : AV) (rows : List (List PV)) (h : ∀ i ∈ dirIds x, look i = look' i) : aAppend T nid t x rows look = aAppend T nid t x rows look' := by
  cases x with
  | pv p => cases p <;> rfl
  | ref i g h' e o n => simp only [aAppend, h i (List.mem_singleton.2 rfl)]
  | ptr i o => simp only [aAppend, h i (List.mem_singleton.2 rfl)]
  | eptr i g h' e o n => simp only [aAppend, h i (List.mem_singleton.2 rfl)]
  | _ => rfl
theorem getAll_congr {look look' : Look} : ∀ (l : List Nat), (∀ i ∈ l, look i = look' i) → getAll look l = getAll look' l
  | [], _ => rfl
  | i :: r, h => by simp only [getAll, h i (by simp), getAll_congr r fun j hj => h j (by simp [hj])]
theorem freezeAll_congr {look look' : Look} : ∀ (l : List Nat), (∀ i ∈ l, look i = look' i) → freezeAll look l = freezeAll look' l
  | [], _ => rfl
  | i :: r, h => by simp only [freezeAll, h i (by simp), freezeAll_congr r fun j hj => h j (by simp [hj])]
theorem callPure_congr {C : CallF} {look look' : Look} (f : Nat) (args : List AV) (nid : Nat) (h : ∀ i ∈ reach look REACH (AV.idsL args) [], look i = look' i) :
    callPure C f args look nid = callPure C f args look' nid := by
  unfold callPure
  have hr := reach_congr REACH (AV.idsL args) [] h
  rw [hr]
  have : (fun i => if (reach look REACH (AV.idsL args) []).contains i then look i else none) = fun i => if (reach look REACH (AV.idsL args) []).contains i then look' i else none := by
    funext i
    split
    · rename_i hc; exact h i (by simpa using hc)
    · rfl
  simp only [this, freezeAll_congr _ h]
theorem callRef_congr {C : CallF} {look look' : Look} (f : Nat) (args : List AV) (nid : Nat) (h : ∀ i ∈ reach look REACH (AV.idsL args) [], look i = look' i) :
    callRef C f args look nid = callRef C f args look' nid := by
  unfold callRef
  have hr := reach_congr REACH (AV.idsL args) [] h
  rw [hr]
  simp only [getAll_congr _ h]
theorem aCopy_congr {T : Nat → Option TI} {look look' : Look} (t : Nat) (x : AV) (rows : List (List PV)) (h : ∀ i ∈ dirIds x, look i = look' i) : aCopy T t x rows look = aCopy T t x rows look' := by
  unfold aCopy
  cases x with
  | ref id g hh esz off n => simp only [h id (by simp [dirIds])]
  | _ => rfl
theorem aBuiltin_congr {G : Cfg} {look look' : Look} (b : Builtin) (ts : List Nat) (args : List AV) (nid : Nat) (h : ∀ i ∈ args.flatMap dirIds, look i = look' i) :
    aBuiltin G b ts args look nid = aBuiltin G b ts args look' nid := by
  unfold aBuiltin
  split <;> first
    | rfl
    | (rename_i t u x y
       have hx : ∀ i ∈ dirIds x, look i = look' i := fun i hi => h i (by simp [hi])
       have hy : ∀ i ∈ dirIds y, look i = look' i := fun i hi => h i (by simp [hi])
       first
         | (simp only [srcRows_congr y hy, fun rows => aAppend_congr (T := G.T) nid t x rows hx]; done)
         | simp only [srcRows_congr y hy, fun rows => aCopy_congr (T := G.T) t x rows hx])
theorem entsOf_congr {look look' : Look} (x : AV) (h : ∀ i ∈ dirIds x, look i = look' i) : entsOf x look = entsOf x look' := by
  cases x with
  | map id => simp only [entsOf, h id (List.mem_singleton.2 rfl)]
  | pv p => cases p <;> rfl
  | _ => rfl
theorem aLookup_congr {T : Nat → Option TI} {look look' : Look} (t : Nat) (x k : AV) (ok : Bool) (h : ∀ i ∈ dirIds x, look i = look' i) : aLookup T t x k ok look = aLookup T t x k ok look' := by
  unfold aLookup; rw [entsOf_congr x h]
theorem aMapUpdate_congr {T : Nat → Option TI} {look look' : Look} (t : Nat) (x k v : AV) (h : ∀ i ∈ dirIds x, look i = look' i) : aMapUpdate T t x k v look = aMapUpdate T t x k v look' := by
  unfold aMapUpdate
  split
  · rename_i id _ _ _
    rw [h _ (List.mem_singleton.2 rfl)]
  · rfl
theorem aBuildPure_congr {T : Nat → Option TI} {look look' : Look} (nid t len : Nat) (is : List Nat) (vs : List AV) (h : ∀ i ∈ reach look REACH (AV.idsL vs) [], look i = look' i) :
    aBuildPure T nid t len is vs look = aBuildPure T nid t len is vs look' := by
  unfold aBuildPure
  have hr := reach_congr REACH (AV.idsL vs) [] h
  rw [hr]
  have : (fun i => if (reach look REACH (AV.idsL vs) []).contains i then look i else none) = fun i => if (reach look REACH (AV.idsL vs) []).contains i then look' i else none := by
    funext i
    split
    · rename_i hc; exact h i (by simpa using hc)
    · rfl
  simp only [this, freezeAll_congr _ h]
theorem aSliceArr_congr {T : Nat → Option TI} {look look' : Look} (n e : Nat) (x : AV) (h : ∀ i ∈ (match x with | .ptr id _ => reach look REACH [id] [] | _ => []), look i = look' i) :
    aSliceArr T n e x look = aSliceArr T n e x look' := by
  unfold aSliceArr
  split
  · rename_i ei id off he
    simp only at h
    have hr := reach_congr REACH [id] [] h
    simp only [hr]
    have : (fun i => if (reach look REACH [id] []).contains i then look i else none) = fun i => if (reach look REACH [id] []).contains i then look' i else none := by
      funext i
      split
      · rename_i hc; exact h i (by simpa using hc)
      · rfl
    simp only [this, freezeAll_congr _ h]
  · rfl
theorem aOp_congr_look {G : Cfg} {C : CallF} {ρ : Operand → AV} (o : Oper) {look look' : Look} (nid : Nat) (h : ∀ i ∈ foot ρ o look, look i = look' i) :
    aOp G C ρ o look nid = aOp G C ρ o look' nid := by
  obtain ⟨dst, op, type, pos, after, guard⟩ := o
  cases op
  case load t a => simp only [aOp, aLoad_congr t (ρ a) h]
  case store t a x => simp only [aOp, aStore_congr t (ρ a) (ρ x) h]
  case convert s d x => simp only [aOp]; rw [aConv_congr s d (ρ x) h]
  case lookup t x k ok => simp only [aOp, aLookup_congr t (ρ x) (ρ k) ok h]
  case mapUpdate t x k v => simp only [aOp, aMapUpdate_congr t (ρ x) (ρ k) (ρ v) h]
  case makeMap t r => cases r <;> rfl
  case buildSlice t n ps =>
    simp only [foot] at h
    simp only [aOp]
    split
    · rename_i hl
      rw [if_pos hl] at h
      rw [aBuildPure_congr nid t n _ _ h]
    · rfl
  case call c =>
    obtain ⟨cal, args, ts⟩ := c
    cases cal with
    | value f =>
      simp only [foot] at h
      simp only [aOp, aCall]
      cases hc : callee (ρ f) (args.toList.map ρ) with
      | none => rfl
      | some p =>
        simp only [hc] at h
        simp only [callPure_congr p.1 p.2 nid h, callRef_congr p.1 p.2 nid h]
    | invoke r mm => rfl
    | builtin b =>
      simp only [foot] at h
      simp only [aOp]
      exact aBuiltin_congr b _ _ nid (by simpa [List.flatMap_map] using h)
  case slice t x lo hi mx =>
    cases mx with
    | some _ => rfl
    | none =>
      simp only [foot] at h
      simp only [aOp]
      split
      · rfl
      · rfl
      · rename_i n e _ _ _ _ _
        rw [aSliceArr_congr (T := G.T) n e (ρ x) h]
      · rfl
  case makeFunc f a b => cases f <;> rfl
  all_goals rfl
theorem foot_congr_look {ρ : Operand → AV} (o : Oper) {look look' : Look} (h : ∀ i ∈ foot ρ o look, look i = look' i) : foot ρ o look' = foot ρ o look := by
  obtain ⟨dst, op, type, pos, after, guard⟩ := o
  cases op
  case call c =>
    obtain ⟨cal, args, ts⟩ := c
    cases cal with
    | value f =>
      simp only [foot] at h ⊢
      cases hc : callee (ρ f) (args.toList.map ρ) with
      | none => rfl
      | some p => simp only [hc] at h; exact reach_congr _ _ _ h
    | invoke r mm => rfl
    | builtin b => rfl
  case slice t x lo hi mx =>
    simp only [foot] at h ⊢
    split
    · rename_i id off hx
      simp only [hx] at h
      exact reach_congr _ _ _ h
    · rfl
  case buildSlice t n ps =>
    simp only [foot] at h ⊢
    split
    · rename_i hl
      rw [if_pos hl] at h
      exact reach_congr _ _ _ h
    · rfl
  all_goals rfl
end Go.Ab
