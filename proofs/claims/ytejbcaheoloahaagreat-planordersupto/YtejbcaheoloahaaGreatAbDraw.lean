import Derived.Test.YtejbcaheoloahaaGreatAbExec
import Derived.Orders
set_option linter.unusedVariables false
set_option linter.unusedSimpArgs false
namespace Go.Ab
open Go
variable {w w':World} {F:Froz} {Pr:Nat→Prop} {m m':Mu} {look:Look} {nid:Nat}
theorem acN {G:Cfg} {C:Z2} {ρ ρ':Operand→AV} (o:Oper) (look:Look) (nid:Nat) (h:∀ x∈o.op.operands,ρ x=ρ' x):
    aOp G C ρ o look nid=aOp G C ρ' o look nid∧foot ρ o look=foot ρ' o look:=by
  obtain ⟨dst,op,type,pos,after,guard⟩:=o
  have pairs:∀ ps:Array (Nat × Operand),(∀ x∈ps.map (·.2),ρ x=ρ' x)→(ps.toList.map fun p=>(p.1,ρ p.2))=(ps.toList.map fun p=>(p.1,ρ' p.2)):=fun ps hp=>
    List.map_congr_left fun p hm=>by
      obtain ⟨i,x⟩:=p
      simp only [hp x (Array.mem_map.2 ⟨(i,x),by simpa using hm,rfl⟩)]
  have arr:∀ ps:Array Operand,(∀ x∈ps,ρ x=ρ' x)→ps.toList.map ρ=ps.toList.map ρ':=fun ps hp=>
    List.map_congr_left fun x hx=>hp x (by simpa using hx)
  have lst:∀ (ps:Array Operand),(∀ x∈ps,ρ x=ρ' x)→(ps.toList.map ρ)=(ps.toList.map ρ'):=arr
  cases op <;> simp only [Op.operands] at h
  case build t ps=>simp only [aOp,foot,pairs ps fun x hx=>h x (by simpa using hx),and_self]
  case buildSlice t n ps=>
    have e2:(ps.toList.map fun p=>ρ p.2)=ps.toList.map fun p=>ρ' p.2:=List.map_congr_left fun p hm=>h p.2 (by simpa using ⟨p.1,by simpa using hm⟩)
    simp only [aOp,foot,pairs ps fun x hx=>h x (by simpa using hx),e2,and_self]
  case makeFunc fn first captured=>
    cases fn <;> simp only [aOp,foot,arr first fun x hx=>h x (by simp [hx]),arr captured fun x hx=>h x (by simp [hx]),and_self]
  case call c=>
    obtain ⟨cal,args,ts⟩:=c
    have ha:∀ x∈args,ρ x=ρ' x:=fun x hx=>h x (by simp [Call.operands,hx])
    cases cal with
    | value f=>
      have hf:ρ f=ρ' f:=h f (by simp [Call.operands])
      simp only [aOp,foot,hf,arr args ha,and_self]
    | invoke r mm=>exact ⟨rfl,rfl⟩
    | builtin b=>
      have:(args.toList.flatMap fun x=>Qa (ρ x))=args.toList.flatMap fun x=>Qa (ρ' x):=by
        have:=congrArg (List.flatMap Qa) (arr args ha)
        simpa [List.flatMap_map] using this
      simp only [aOp,foot,arr args ha,this,and_self]
  case makeMap t r=>cases r <;> exact ⟨rfl,rfl⟩
  case slice t x lo hi mx=>
    cases mx with
    | some m=>exact ⟨by cases lo <;> cases hi <;> simp_all [aOp],by simp only [foot]; rw [h x (by simp)]⟩
    | none=>cases lo <;> cases hi <;> simp_all [aOp,foot]
  all_goals first
    | exact ⟨rfl,rfl⟩
    | (simp_all [aOp,foot]; done)
theorem agD {look look':Look} (x:AV) (h:∀ i∈Qa x,look i=look' i):rowsOf x look=rowsOf x look':=by
  cases x with
  | pv p=>cases p <;> rfl
  | ref i g h' e o n=>simp only [rowsOf,h i (List.mem_singleton.2 rfl)]
  | _=>rfl
theorem af9 {look look':Look} (x:AV) (h:∀ i∈Qa x,look i=look' i):ZE x look=ZE x look':=by
  unfold ZE
  split
  · rfl
  · exact agD x h
theorem alY {T:Nat→Option TI} {look look':Look} (t:Nat) (x:AV) (h:∀ i∈Qa x,look i=look' i):afd T t x look=afd T t x look':=by
  cases x with
  | pv p=>cases p <;> rfl
  | ref i g h' e o n=>simp only [afd,h i (List.mem_singleton.2 rfl)]
  | ptr i o=>simp only [afd,h i (List.mem_singleton.2 rfl)]
  | eptr i g h' e o n=>simp only [afd,h i (List.mem_singleton.2 rfl)]
  | _=>rfl
theorem alb {T:Nat→Option TI} {look look':Look} (s d:Nat) (x:AV) (h:∀ i∈Qa x,look i=look' i):akc T s d x look=akc T s d x look':=by
  unfold akc
  cases T s with
  | none=>rfl
  | some si=>
    cases T d with
    | none=>rfl
    | some di=>
      simp only
      split <;> first | rfl | rw [agD _ h]
theorem ajC {T:Nat→Option TI} {look look':Look} (nid t:Nat) (x:AV) (rows:List (List PV)) (h:∀ i∈Qa x,look i=look' i):qD T nid t x rows look=qD T nid t x rows look':=by
  cases x with
  | pv p=>cases p <;> rfl
  | ref i g h' e o n=>simp only [qD,h i (List.mem_singleton.2 rfl)]
  | ptr i o=>simp only [qD,h i (List.mem_singleton.2 rfl)]
  | eptr i g h' e o n=>simp only [qD,h i (List.mem_singleton.2 rfl)]
  | _=>rfl
theorem agS {look look':Look}:∀ (l:List Nat),(∀ i∈l,look i=look' i)→getAll look l=getAll look' l
  | [],_=>rfl
  | i :: r,h=>by simp only [getAll,h i (by simp),agS r fun j hj=>h j (by simp [hj])]
theorem aaN {look look':Look}:∀ (l:List Nat),(∀ i∈l,look i=look' i)→ZC look l=ZC look' l
  | [],_=>rfl
  | i :: r,h=>by simp only [ZC,h i (by simp),aaN r fun j hj=>h j (by simp [hj])]
theorem ai7 {C:Z2} {look look':Look} (f:Nat) (args:List AV) (nid:Nat) (h:∀ i∈reach look ZX (AV.idsL args) [],look i=look' i):
    Qd C f args look nid=Qd C f args look' nid:=by
  unfold Qd
  have hr:=qY ZX (AV.idsL args) [] h
  rw [hr]
  have:(fun i=>if (reach look ZX (AV.idsL args) []).contains i then look i else none)=fun i=>if (reach look ZX (AV.idsL args) []).contains i then look' i else none:=by
    funext i
    split
    · rename_i hc; exact h i (by simpa using hc)
    · rfl
  simp only [this,aaN _ h]
theorem ajo {C:Z2} {look look':Look} (f:Nat) (args:List AV) (nid:Nat) (h:∀ i∈reach look ZX (AV.idsL args) [],look i=look' i):
    acn C f args look nid=acn C f args look' nid:=by
  unfold acn
  have hr:=qY ZX (AV.idsL args) [] h
  rw [hr]
  simp only [agS _ h]
theorem alh {T:Nat→Option TI} {look look':Look} (t:Nat) (x:AV) (rows:List (List PV)) (h:∀ i∈Qa x,look i=look' i):aiM T t x rows look=aiM T t x rows look':=by
  unfold aiM
  cases x with
  | ref id g hh esz off n=>simp only [h id (by simp [Qa])]
  | _=>rfl
theorem akR {T:Nat→Option TI} {look look':Look} (t:Nat) (x:AV) (h:∀ i∈Qa x,look i=look' i):aeJ T t x look=aeJ T t x look':=by
  unfold aeJ
  cases x with
  | ref id g hh esz off n=>simp only [h id (by simp [Qa])]
  | pv p=>cases p <;> rfl
  | _=>rfl
theorem ail {G:Cfg} {look look':Look} (b:Builtin) (ts:List Nat) (args:List AV) (nid:Nat) (h:∀ i∈args.flatMap Qa,look i=look' i):
    Qv G b ts args look nid=Qv G b ts args look' nid:=by
  unfold Qv
  split <;> first
    | rfl
    | (rename_i t x
       have hx:∀ i∈Qa x,look i=look' i:=fun i hi=>h i (by simp [hi])
       simp only [akR (T:=G.T) t x hx]; done)
    | (rename_i t u x y
       have hx:∀ i∈Qa x,look i=look' i:=fun i hi=>h i (by simp [hi])
       have hy:∀ i∈Qa y,look i=look' i:=fun i hi=>h i (by simp [hi])
       first
         | (simp only [af9 y hy,fun rows=>ajC (T:=G.T) nid t x rows hx]; done)
         | simp only [af9 y hy,fun rows=>alh (T:=G.T) t x rows hx])
theorem ak0 {look look':Look} (x:AV) (h:∀ i∈Qa x,look i=look' i):ahv x look=ahv x look':=by
  cases x with
  | map id=>simp only [ahv,h id (List.mem_singleton.2 rfl)]
  | pv p=>cases p <;> rfl
  | _=>rfl
theorem ajM {T:Nat→Option TI} {look look':Look} (t:Nat) (x k:AV) (ok:Bool) (h:∀ i∈Qa x,look i=look' i):afU T t x k ok look=afU T t x k ok look':=by
  unfold afU; rw [ak0 x h]
theorem ag9 {T:Nat→Option TI} {look look':Look} (t:Nat) (x k v:AV) (h:∀ i∈Qa x,look i=look' i):acy T t x k v look=acy T t x k v look':=by
  unfold acy
  split
  · rename_i id _ _ _
    rw [h _ (List.mem_singleton.2 rfl)]
  · rfl
theorem ahs {T:Nat→Option TI} {look look':Look} (nid t len:Nat) (is:List Nat) (vs:List AV) (h:∀ i∈reach look ZX (AV.idsL vs) [],look i=look' i):
    aa8 T nid t len is vs look=aa8 T nid t len is vs look':=by
  unfold aa8
  have hr:=qY ZX (AV.idsL vs) [] h
  rw [hr]
  have:(fun i=>if (reach look ZX (AV.idsL vs) []).contains i then look i else none)=fun i=>if (reach look ZX (AV.idsL vs) []).contains i then look' i else none:=by
    funext i
    split
    · rename_i hc; exact h i (by simpa using hc)
    · rfl
  simp only [this,aaN _ h]
theorem ah7 {T:Nat→Option TI} {look look':Look} (n e:Nat) (x:AV) (h:∀ i∈(match x with | .ptr id _=>reach look ZX [id] [] | _=>[]),look i=look' i):
    adt T n e x look=adt T n e x look':=by
  unfold adt
  split
  · rename_i ei id off he
    simp only at h
    have hr:=qY ZX [id] [] h
    simp only [hr]
    have:(fun i=>if (reach look ZX [id] []).contains i then look i else none)=fun i=>if (reach look ZX [id] []).contains i then look' i else none:=by
      funext i
      split
      · rename_i hc; exact h i (by simpa using hc)
      · rfl
    simp only [this,aaN _ h]
  · rfl
theorem ajw {T:Nat→Option TI} {look look':Look} (t:Nat) (p v:AV) (h:∀ i∈Qa p++reach look ZX (AV.idsL [v]) [],look i=look' i):
    ad4 T t p v look=ad4 T t p v look':=by
  unfold ad4
  have h2:∀ i∈reach look ZX (AV.idsL [v]) [],look i=look' i:=fun i hi=>h i (List.mem_append_right _ hi)
  have hr:=qY ZX (AV.idsL [v]) [] h2
  rw [hr]
  have:(fun i=>if (reach look ZX (AV.idsL [v]) []).contains i then look i else none)=fun i=>if (reach look ZX (AV.idsL [v]) []).contains i then look' i else none:=by
    funext i
    split
    · rename_i hc; exact h2 i (by simpa using hc)
    · rfl
  simp only [this,aaN _ h2,fun v'=>aeK (T:=T) t p v' (fun i hi=>h i (List.mem_append_left _ hi))]
theorem afi {G:Cfg} {C:Z2} {ρ:Operand→AV} (o:Oper) {look look':Look} (nid:Nat) (h:∀ i∈foot ρ o look,look i=look' i):
    aOp G C ρ o look nid=aOp G C ρ o look' nid:=by
  obtain ⟨dst,op,type,pos,after,guard⟩:=o
  cases op
  case load t a=>simp only [aOp,alY t (ρ a) h]
  case store t a x=>
    simp only [foot] at h
    simp only [aOp]
    split
    · rename_i hl
      rw [if_pos hl] at h
      rw [ajw t _ _ h]
    · rename_i hl
      rw [if_neg hl] at h
      rw [aeK t _ _ h]
  case convert s d x=>simp only [aOp]; rw [alb s d (ρ x) h]
  case lookup t x k ok=>simp only [aOp,ajM t (ρ x) (ρ k) ok h]
  case mapUpdate t x k v=>simp only [aOp,ag9 t (ρ x) (ρ k) (ρ v) h]
  case makeMap t r=>cases r <;> rfl
  case buildSlice t n ps=>
    simp only [foot] at h
    simp only [aOp]
    split
    · rename_i hl
      rw [if_pos hl] at h
      rw [ahs nid t n _ _ h]
    · rfl
  case call c=>
    obtain ⟨cal,args,ts⟩:=c
    cases cal with
    | value f=>
      simp only [foot] at h
      simp only [aOp,ajn]
      cases hc:callee (ρ f) (args.toList.map ρ) with
      | none=>rfl
      | some p=>
        simp only [hc] at h
        simp only [ai7 p.1 p.2 nid h,ajo p.1 p.2 nid h]
    | invoke r mm=>rfl
    | builtin b=>
      simp only [foot] at h
      simp only [aOp]
      exact ail b _ _ nid (by simpa [List.flatMap_map] using h)
  case slice t x lo hi mx=>
    cases mx with
    | some _=>rfl
    | none=>
      simp only [foot] at h
      simp only [aOp]
      split
      · rfl
      · rfl
      · rename_i n e _ _ _ _ _
        rw [ah7 (T:=G.T) n e (ρ x) h]
      · rfl
  case makeFunc f a b=>cases f <;> rfl
  all_goals rfl
theorem aeW {ρ:Operand→AV} (o:Oper) {look look':Look} (h:∀ i∈foot ρ o look,look i=look' i):foot ρ o look'=foot ρ o look:=by
  obtain ⟨dst,op,type,pos,after,guard⟩:=o
  cases op
  case call c=>
    obtain ⟨cal,args,ts⟩:=c
    cases cal with
    | value f=>
      simp only [foot] at h ⊢
      cases hc:callee (ρ f) (args.toList.map ρ) with
      | none=>rfl
      | some p=>simp only [hc] at h; exact qY _ _ _ h
    | invoke r mm=>rfl
    | builtin b=>rfl
  case slice t x lo hi mx=>
    simp only [foot] at h ⊢
    split
    · rename_i id off hx
      simp only [hx] at h
      exact qY _ _ _ h
    · rfl
  case store t a x=>
    simp only [foot] at h ⊢
    split
    · rename_i hl
      rw [if_pos hl] at h
      rw [qY _ _ _ (fun i hi=>h i (List.mem_append_right _ hi))]
    · rfl
  case buildSlice t n ps=>
    simp only [foot] at h ⊢
    split
    · rename_i hl
      rw [if_pos hl] at h
      exact qY _ _ _ h
    · rfl
  all_goals rfl
end Go.Ab
