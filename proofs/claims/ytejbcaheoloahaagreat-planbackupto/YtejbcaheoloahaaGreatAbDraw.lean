import Derived.Test.YtejbcaheoloahaaGreatAbExec
import Derived.Orders
set_option linter.unusedVariables false
set_option linter.unusedSimpArgs false
namespace Go.Ab
open Go
variable {w w':World} {F:Froz} {Pr:Nat→Prop} {m m':Mu} {look:Look} {nid:Nat}
theorem aaa {G:Cfg} {C:ZH} {ρ ρ':Operand→AV} (o:Oper) (look:Look) (nid:Nat) (h:∀ x∈o.op.operands,ρ x=ρ' x):
    aOp G C ρ o look nid=aOp G C ρ' o look nid∧foot ρ o look=foot ρ' o look:=by
  obtain ⟨dst,op,type,pos,after,guard⟩:=o
  have pairs:∀ ps:Array (Nat × Operand),(∀ x∈ps.map (·.2),ρ x=ρ' x)→(ps.toList.map fun p=>(p.1,ρ p.2))=(ps.toList.map fun p=>(p.1,ρ' p.2)):=fun ps hp=>
    List.map_congr_left fun p hm=>by
      obtain ⟨i,x⟩:=p
      simp only [hp x (Array.mem_map.2 ⟨(i,x),by simpa using hm,rfl⟩)]
  have arr:∀ ps:Array Operand,(∀ x∈ps,ρ x=ρ' x)→ps.toList.map ρ=ps.toList.map ρ':=fun ps hp=>
    List.map_congr_left fun x hx=>hp x (by simpa using hx)
  have lst:∀ (ps:Array Operand),(∀ x∈ps,ρ x=ρ' x)→(ps.toList.map ρ)=(ps.toList.map ρ'):=arr
  cases op <;> simp only [Op.operands] at h
  case build t ps=>simp only [aOp,foot,pairs ps fun x hx=>h x (by simpa using hx),and_self]
  case buildSlice t n ps=>
    have e2:(ps.toList.map fun p=>ρ p.2)=ps.toList.map fun p=>ρ' p.2:=List.map_congr_left fun p hm=>h p.2 (by simpa using ⟨p.1,by simpa using hm⟩)
    simp only [aOp,foot,pairs ps fun x hx=>h x (by simpa using hx),e2,and_self]
  case makeFunc fn first captured=>
    cases fn <;> simp only [aOp,foot,arr first fun x hx=>h x (by simp [hx]),arr captured fun x hx=>h x (by simp [hx]),and_self]
  case call c=>
    obtain ⟨cal,args,ts⟩:=c
    have ha:∀ x∈args,ρ x=ρ' x:=fun x hx=>h x (by simp [Call.operands,hx])
    cases cal with
    | value f=>
      have hf:ρ f=ρ' f:=h f (by simp [Call.operands])
      simp only [aOp,foot,hf,arr args ha,and_self]
    | invoke r mm=>exact ⟨rfl,rfl⟩
    | builtin b=>
      have:(args.toList.flatMap fun x=>qB (ρ x))=args.toList.flatMap fun x=>qB (ρ' x):=by
        have:=congrArg (List.flatMap qB) (arr args ha)
        simpa [List.flatMap_map] using this
      simp only [aOp,foot,arr args ha,this,and_self]
  case makeMap t r=>cases r <;> exact ⟨rfl,rfl⟩
  case slice t x lo hi mx=>
    cases mx with
    | some m=>exact ⟨by cases lo <;> cases hi <;> simp_all [aOp],by simp only [foot]; rw [h x (by simp)]⟩
    | none=>cases lo <;> cases hi <;> simp_all [aOp,foot]
  all_goals first
    | exact ⟨rfl,rfl⟩
    | (simp_all [aOp,foot]; done)
theorem af5 {look look':Look} (x:AV) (h:∀ i∈qB x,look i=look' i):rowsOf x look=rowsOf x look':=by
  cases x with
  | pv p=>cases p <;> rfl
  | ref i g h' e o n=>simp only [rowsOf,h i (List.mem_singleton.2 rfl)]
  | _=>rfl
theorem afA {look look':Look} (x:AV) (h:∀ i∈qB x,look i=look' i):zP x look=zP x look':=by
  unfold zP
  split
  · rfl
  · exact af5 x h
theorem al4 {T:Nat→Option TI} {look look':Look} (t:Nat) (x:AV) (h:∀ i∈qB x,look i=look' i):aee T t x look=aee T t x look':=by
  cases x with
  | pv p=>cases p <;> rfl
  | ref i g h' e o n=>simp only [aee,h i (List.mem_singleton.2 rfl)]
  | ptr i o=>simp only [aee,h i (List.mem_singleton.2 rfl)]
  | eptr i g h' e o n=>simp only [aee,h i (List.mem_singleton.2 rfl)]
  | _=>rfl
theorem al5 {T:Nat→Option TI} {look look':Look} (s d:Nat) (x:AV) (h:∀ i∈qB x,look i=look' i):agC T s d x look=agC T s d x look':=by
  unfold agC
  cases T s with
  | none=>rfl
  | some si=>
    cases T d with
    | none=>rfl
    | some di=>
      simp only
      split <;> first | rfl | rw [af5 _ h]
theorem ajx {T:Nat→Option TI} {look look':Look} (nid t:Nat) (x:AV) (rows:List (List PV)) (h:∀ i∈qB x,look i=look' i):qT T nid t x rows look=qT T nid t x rows look':=by
  cases x with
  | pv p=>cases p <;> rfl
  | ref i g h' e o n=>simp only [qT,h i (List.mem_singleton.2 rfl)]
  | ptr i o=>simp only [qT,h i (List.mem_singleton.2 rfl)]
  | eptr i g h' e o n=>simp only [qT,h i (List.mem_singleton.2 rfl)]
  | _=>rfl
theorem agE {look look':Look}:∀ (l:List Nat),(∀ i∈l,look i=look' i)→getAll look l=getAll look' l
  | [],_=>rfl
  | i :: r,h=>by simp only [getAll,h i (by simp),agE r fun j hj=>h j (by simp [hj])]
theorem Q6 {look look':Look}:∀ (l:List Nat),(∀ i∈l,look i=look' i)→Zk look l=Zk look' l
  | [],_=>rfl
  | i :: r,h=>by simp only [Zk,h i (by simp),Q6 r fun j hj=>h j (by simp [hj])]
theorem aiP {C:ZH} {look look':Look} (f:Nat) (args:List AV) (nid:Nat) (h:∀ i∈reach look Zl (AV.idsL args) [],look i=look' i):
    qz C f args look nid=qz C f args look' nid:=by
  unfold qz
  have hr:=qx Zl (AV.idsL args) [] h
  rw [hr]
  have:(fun i=>if (reach look Zl (AV.idsL args) []).contains i then look i else none)=fun i=>if (reach look Zl (AV.idsL args) []).contains i then look' i else none:=by
    funext i
    split
    · rename_i hc; exact h i (by simpa using hc)
    · rfl
  simp only [this,Q6 _ h]
theorem ajt {C:ZH} {look look':Look} (f:Nat) (args:List AV) (nid:Nat) (h:∀ i∈reach look Zl (AV.idsL args) [],look i=look' i):
    QC C f args look nid=QC C f args look' nid:=by
  unfold QC
  have hr:=qx Zl (AV.idsL args) [] h
  rw [hr]
  simp only [agE _ h]
theorem alQ {T:Nat→Option TI} {look look':Look} (t:Nat) (x:AV) (rows:List (List PV)) (h:∀ i∈qB x,look i=look' i):aiY T t x rows look=aiY T t x rows look':=by
  unfold aiY
  cases x with
  | ref id g hh esz off n=>simp only [h id (by simp [qB])]
  | _=>rfl
theorem alb {T:Nat→Option TI} {look look':Look} (t:Nat) (x:AV) (h:∀ i∈qB x,look i=look' i):ag8 T t x look=ag8 T t x look':=by
  unfold ag8
  cases x with
  | ref id g hh esz off n=>simp only [h id (by simp [qB])]
  | pv p=>cases p <;> rfl
  | _=>rfl
theorem aix {G:Cfg} {look look':Look} (b:Builtin) (ts:List Nat) (args:List AV) (nid:Nat) (h:∀ i∈args.flatMap qB,look i=look' i):
    aaT G b ts args look nid=aaT G b ts args look' nid:=by
  unfold aaT
  split <;> first
    | rfl
    | (rename_i t x
       have hx:∀ i∈qB x,look i=look' i:=fun i hi=>h i (by simp [hi])
       simp only [alb (T:=G.T) t x hx]; done)
    | (rename_i t u x y
       have hx:∀ i∈qB x,look i=look' i:=fun i hi=>h i (by simp [hi])
       have hy:∀ i∈qB y,look i=look' i:=fun i hi=>h i (by simp [hi])
       first
         | (simp only [afA y hy,fun rows=>ajx (T:=G.T) nid t x rows hx]; done)
         | simp only [afA y hy,fun rows=>alQ (T:=G.T) t x rows hx])
theorem ak5 {look look':Look} (x:AV) (h:∀ i∈qB x,look i=look' i):ag5 x look=ag5 x look':=by
  cases x with
  | map id=>simp only [ag5,h id (List.mem_singleton.2 rfl)]
  | pv p=>cases p <;> rfl
  | _=>rfl
theorem ajy {T:Nat→Option TI} {look look':Look} (t:Nat) (x k:AV) (ok:Bool) (h:∀ i∈qB x,look i=look' i):afa T t x k ok look=afa T t x k ok look':=by
  unfold afa; rw [ak5 x h]
theorem ahh {T:Nat→Option TI} {look look':Look} (t:Nat) (x k v:AV) (h:∀ i∈qB x,look i=look' i):abF T t x k v look=abF T t x k v look':=by
  unfold abF
  split
  · rename_i id _ _ _
    rw [h _ (List.mem_singleton.2 rfl)]
  · rfl
theorem ag3 {T:Nat→Option TI} {look look':Look} (nid t len:Nat) (is:List Nat) (vs:List AV) (h:∀ i∈reach look Zl (AV.idsL vs) [],look i=look' i):
    Qw T nid t len is vs look=Qw T nid t len is vs look':=by
  unfold Qw
  have hr:=qx Zl (AV.idsL vs) [] h
  rw [hr]
  have:(fun i=>if (reach look Zl (AV.idsL vs) []).contains i then look i else none)=fun i=>if (reach look Zl (AV.idsL vs) []).contains i then look' i else none:=by
    funext i
    split
    · rename_i hc; exact h i (by simpa using hc)
    · rfl
  simp only [this,Q6 _ h]
theorem ah1 {T:Nat→Option TI} {look look':Look} (n e:Nat) (x:AV) (h:∀ i∈(match x with | .ptr id _=>reach look Zl [id] [] | _=>[]),look i=look' i):
    acs T n e x look=acs T n e x look':=by
  unfold acs
  split
  · rename_i ei id off he
    simp only at h
    have hr:=qx Zl [id] [] h
    simp only [hr]
    have:(fun i=>if (reach look Zl [id] []).contains i then look i else none)=fun i=>if (reach look Zl [id] []).contains i then look' i else none:=by
      funext i
      split
      · rename_i hc; exact h i (by simpa using hc)
      · rfl
    simp only [this,Q6 _ h]
  · rfl
theorem ajV {T:Nat→Option TI} {look look':Look} (t:Nat) (p v:AV) (h:∀ i∈qB p++reach look Zl (AV.idsL [v]) [],look i=look' i):
    ae3 T t p v look=ae3 T t p v look':=by
  unfold ae3
  have h2:∀ i∈reach look Zl (AV.idsL [v]) [],look i=look' i:=fun i hi=>h i (List.mem_append_right _ hi)
  have hr:=qx Zl (AV.idsL [v]) [] h2
  rw [hr]
  have:(fun i=>if (reach look Zl (AV.idsL [v]) []).contains i then look i else none)=fun i=>if (reach look Zl (AV.idsL [v]) []).contains i then look' i else none:=by
    funext i
    split
    · rename_i hc; exact h2 i (by simpa using hc)
    · rfl
  simp only [this,Q6 _ h2,fun v'=>adO (T:=T) t p v' (fun i hi=>h i (List.mem_append_left _ hi))]
theorem aea {G:Cfg} {C:ZH} {ρ:Operand→AV} (o:Oper) {look look':Look} (nid:Nat) (h:∀ i∈foot ρ o look,look i=look' i):
    aOp G C ρ o look nid=aOp G C ρ o look' nid:=by
  obtain ⟨dst,op,type,pos,after,guard⟩:=o
  cases op
  case load t a=>simp only [aOp,al4 t (ρ a) h]
  case store t a x=>
    simp only [foot] at h
    simp only [aOp]
    split
    · rename_i hl
      rw [if_pos hl] at h
      rw [ajV t _ _ h]
    · rename_i hl
      rw [if_neg hl] at h
      rw [adO t _ _ h]
  case convert s d x=>simp only [aOp]; rw [al5 s d (ρ x) h]
  case lookup t x k ok=>simp only [aOp,ajy t (ρ x) (ρ k) ok h]
  case mapUpdate t x k v=>simp only [aOp,ahh t (ρ x) (ρ k) (ρ v) h]
  case makeMap t r=>cases r <;> rfl
  case buildSlice t n ps=>
    simp only [foot] at h
    simp only [aOp]
    split
    · rename_i hl
      rw [if_pos (by rw [Bool.and_eq_true] at hl; exact hl.1)] at h
      rw [ag3 nid t n _ _ h]
    · rfl
  case call c=>
    obtain ⟨cal,args,ts⟩:=c
    cases cal with
    | value f=>
      simp only [foot] at h
      simp only [aOp,ajk]
      cases hc:callee (ρ f) (args.toList.map ρ) with
      | none=>rfl
      | some p=>
        simp only [hc] at h
        simp only [aiP p.1 p.2 nid h,ajt p.1 p.2 nid h]
    | invoke r mm=>rfl
    | builtin b=>
      simp only [foot] at h
      simp only [aOp]
      exact aix b _ _ nid (by simpa [List.flatMap_map] using h)
  case slice t x lo hi mx=>
    cases mx with
    | some _=>rfl
    | none=>
      simp only [foot] at h
      simp only [aOp]
      split
      · rfl
      · rfl
      · rename_i n e _ _ _ _ _
        rw [ah1 (T:=G.T) n e (ρ x) h]
      · rfl
  case makeFunc f a b=>cases f <;> rfl
  all_goals rfl
theorem ad4 {ρ:Operand→AV} (o:Oper) {look look':Look} (h:∀ i∈foot ρ o look,look i=look' i):foot ρ o look'=foot ρ o look:=by
  obtain ⟨dst,op,type,pos,after,guard⟩:=o
  cases op
  case call c=>
    obtain ⟨cal,args,ts⟩:=c
    cases cal with
    | value f=>
      simp only [foot] at h ⊢
      cases hc:callee (ρ f) (args.toList.map ρ) with
      | none=>rfl
      | some p=>simp only [hc] at h; exact qx _ _ _ h
    | invoke r mm=>rfl
    | builtin b=>rfl
  case slice t x lo hi mx=>
    simp only [foot] at h ⊢
    split
    · rename_i id off hx
      simp only [hx] at h
      exact qx _ _ _ h
    · rfl
  case store t a x=>
    simp only [foot] at h ⊢
    split
    · rename_i hl
      rw [if_pos hl] at h
      rw [qx _ _ _ (fun i hi=>h i (List.mem_append_right _ hi))]
    · rfl
  case buildSlice t n ps=>
    simp only [foot] at h ⊢
    split
    · rename_i hl
      rw [if_pos hl] at h
      exact qx _ _ _ h
    · rfl
  all_goals rfl
end Go.Ab
