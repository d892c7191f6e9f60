import Derived.Test.YtejbcaheoloahaaGreatAbExec
import Derived.Orders
namespace Go.Ab
open Go
variable {w w':World} {F:Froz} {Pr:Nat→Prop} {m m':Mu} {look:Look} {nid:Nat}
theorem abx {G:Cfg} {C:ZL} {ρ ρ':Operand→AV} (o:Oper) (look:Look) (nid:Nat) (h:∀ x∈o.op.operands,ρ x=ρ' x):
    aOp G C ρ o look nid=aOp G C ρ' o look nid∧foot ρ o look=foot ρ' o look:=by
  obtain ⟨dst,op,type,pos,after,guard⟩:=o
  have pairs:∀ ps:Array (Nat × Operand),(∀ x∈ps.map (·.2),ρ x=ρ' x)→(ps.toList.map fun p=>(p.1,ρ p.2))=(ps.toList.map fun p=>(p.1,ρ' p.2)):=fun ps hp=>
    List.map_congr_left fun p hm=>by
      obtain ⟨i,x⟩:=p
      simp only [hp x (Array.mem_map.2 ⟨(i,x),by simpa using hm,rfl⟩)]
  have arr:∀ ps:Array Operand,(∀ x∈ps,ρ x=ρ' x)→ps.toList.map ρ=ps.toList.map ρ':=fun ps hp=>
    List.map_congr_left fun x hx=>hp x (by simpa using hx)
  have lst:∀ (ps:Array Operand),(∀ x∈ps,ρ x=ρ' x)→(ps.toList.map ρ)=(ps.toList.map ρ'):=arr
  cases op <;> simp only [Op.operands] at h
  case build t ps=>simp only [aOp,foot,pairs ps fun x hx=>h x (by simpa using hx),and_self]
  case buildSlice t n ps=>
    have e2:(ps.toList.map fun p=>ρ p.2)=ps.toList.map fun p=>ρ' p.2:=List.map_congr_left fun p hm=>h p.2 (by simpa using ⟨p.1,by simpa using hm⟩)
    simp only [aOp,foot,pairs ps fun x hx=>h x (by simpa using hx),e2,and_self]
  case makeFunc fn first captured=>
    cases fn <;> simp only [aOp,foot,arr first fun x hx=>h x (by simp [hx]),arr captured fun x hx=>h x (by simp [hx]),and_self]
  case call c=>
    obtain ⟨cal,args,ts⟩:=c
    have ha:∀ x∈args,ρ x=ρ' x:=fun x hx=>h x (by simp [Call.operands,hx])
    cases cal with
    | value f=>
      have hf:ρ f=ρ' f:=h f (by simp [Call.operands])
      simp only [aOp,foot,hf,arr args ha,and_self]
    | invoke r mm=>exact ⟨rfl,rfl⟩
    | builtin b=>
      have:(args.toList.flatMap fun x=>qw (ρ x))=args.toList.flatMap fun x=>qw (ρ' x):=by
        have:=congrArg (List.flatMap qw) (arr args ha)
        simpa [List.flatMap_map] using this
      simp only [aOp,foot,arr args ha,this,and_self]
  case makeMap t r=>cases r <;> exact ⟨rfl,rfl⟩
  case slice t x lo hi mx=>
    cases mx with
    | some m=>exact ⟨by cases lo <;> cases hi <;> simp_all [aOp],by simp only [foot]; rw [h x (by simp)]⟩
    | none=>cases lo <;> cases hi <;> simp_all [aOp,foot]
  all_goals first
    | exact ⟨rfl,rfl⟩
    | (simp_all [aOp,foot]; done)
theorem afF {look look':Look} (x:AV) (h:∀ i∈qw x,look i=look' i):rowsOf x look=rowsOf x look':=by
  cases x with
  | pv p=>cases p <;> rfl
  | ref i g h' e o n=>simp only [rowsOf,h i (List.mem_singleton.2 rfl)]
  | _=>rfl
theorem aeS {look look':Look} (x:AV) (h:∀ i∈qw x,look i=look' i):zT x look=zT x look':=by
  unfold zT
  split
  · rfl
  · exact afF x h
theorem akl {T:Nat→Option TI} {look look':Look} (t:Nat) (x:AV) (h:∀ i∈qw x,look i=look' i):ac8 T t x look=ac8 T t x look':=by
  cases x with
  | pv p=>cases p <;> rfl
  | ref i g h' e o n=>simp only [ac8,h i (List.mem_singleton.2 rfl)]
  | ptr i o=>simp only [ac8,h i (List.mem_singleton.2 rfl)]
  | eptr i g h' e o n=>simp only [ac8,h i (List.mem_singleton.2 rfl)]
  | _=>rfl
theorem aj2 {T:Nat→Option TI} {look look':Look} (s d:Nat) (x:AV) (h:∀ i∈qw x,look i=look' i):ai2 T s d x look=ai2 T s d x look':=by
  unfold ai2
  cases T s with
  | none=>rfl
  | some si=>
    cases T d with
    | none=>rfl
    | some di=>
      simp only
      split <;> first | rfl | rw [afF _ h]
theorem ait {T:Nat→Option TI} {look look':Look} (nid t:Nat) (x:AV) (rows:List (List PV)) (h:∀ i∈qw x,look i=look' i):qJ T nid t x rows look=qJ T nid t x rows look':=by
  cases x with
  | pv p=>cases p <;> rfl
  | ref i g h' e o n=>simp only [qJ,h i (List.mem_singleton.2 rfl)]
  | ptr i o=>simp only [qJ,h i (List.mem_singleton.2 rfl)]
  | eptr i g h' e o n=>simp only [qJ,h i (List.mem_singleton.2 rfl)]
  | _=>rfl
theorem afr {look look':Look}:∀ (l:List Nat),(∀ i∈l,look i=look' i)→getAll look l=getAll look' l
  | [],_=>rfl
  | i :: r,h=>by simp only [getAll,h i (by simp),afr r fun j hj=>h j (by simp [hj])]
theorem QT {look look':Look}:∀ (l:List Nat),(∀ i∈l,look i=look' i)→Zj look l=Zj look' l
  | [],_=>rfl
  | i :: r,h=>by simp only [Zj,h i (by simp),QT r fun j hj=>h j (by simp [hj])]
theorem ahD {C:ZL} {look look':Look} (f:Nat) (args:List AV) (nid:Nat) (h:∀ i∈reach look ZE (AV.idsL args) [],look i=look' i):
    qR C f args look nid=qR C f args look' nid:=by
  unfold qR
  have hr:=qv ZE (AV.idsL args) [] h
  rw [hr]
  have:(fun i=>if (reach look ZE (AV.idsL args) []).contains i then look i else none)=fun i=>if (reach look ZE (AV.idsL args) []).contains i then look' i else none:=by
    funext i
    split
    · rename_i hc; exact h i (by simpa using hc)
    · rfl
  simp only [this,QT _ h]
theorem aiu {C:ZL} {look look':Look} (f:Nat) (args:List AV) (nid:Nat) (h:∀ i∈reach look ZE (AV.idsL args) [],look i=look' i):
    abg C f args look nid=abg C f args look' nid:=by
  unfold abg
  have hr:=qv ZE (AV.idsL args) [] h
  rw [hr]
  simp only [afr _ h]
theorem akv {T:Nat→Option TI} {look look':Look} (t:Nat) (x:AV) (rows:List (List PV)) (h:∀ i∈qw x,look i=look' i):ag3 T t x rows look=ag3 T t x rows look':=by
  unfold ag3
  cases x with
  | ref id g hh esz off n=>simp only [h id (by simp [qw])]
  | _=>rfl
theorem aji {T:Nat→Option TI} {look look':Look} (t:Nat) (x:AV) (h:∀ i∈qw x,look i=look' i):af7 T t x look=af7 T t x look':=by
  unfold af7
  cases x with
  | ref id g hh esz off n=>simp only [h id (by simp [qw])]
  | pv p=>cases p <;> rfl
  | _=>rfl
theorem ahf {G:Cfg} {look look':Look} (b:Builtin) (ts:List Nat) (args:List AV) (nid:Nat) (h:∀ i∈args.flatMap qw,look i=look' i):
    aaD G b ts args look nid=aaD G b ts args look' nid:=by
  unfold aaD
  split <;> first
    | rfl
    | (rename_i t x
       have hx:∀ i∈qw x,look i=look' i:=fun i hi=>h i (by simp [hi])
       simp only [aji (T:=G.T) t x hx]; done)
    | (rename_i t u x y
       have hx:∀ i∈qw x,look i=look' i:=fun i hi=>h i (by simp [hi])
       have hy:∀ i∈qw y,look i=look' i:=fun i hi=>h i (by simp [hi])
       first
         | (simp only [aeS y hy,fun rows=>ait (T:=G.T) nid t x rows hx]; done)
         | simp only [aeS y hy,fun rows=>akv (T:=G.T) t x rows hx])
theorem ajz {look look':Look} (x:AV) (h:∀ i∈qw x,look i=look' i):age x look=age x look':=by
  cases x with
  | map id=>simp only [age,h id (List.mem_singleton.2 rfl)]
  | pv p=>cases p <;> rfl
  | _=>rfl
theorem aip {T:Nat→Option TI} {look look':Look} (t:Nat) (x k:AV) (ok:Bool) (h:∀ i∈qw x,look i=look' i):aeJ T t x k ok look=aeJ T t x k ok look':=by
  unfold aeJ; rw [ajz x h]
theorem agf {T:Nat→Option TI} {look look':Look} (t:Nat) (x k v:AV) (h:∀ i∈qw x,look i=look' i):abm T t x k v look=abm T t x k v look':=by
  unfold abm
  split
  · rename_i id _ _ _
    rw [h _ (List.mem_singleton.2 rfl)]
  · rfl
theorem agd {T:Nat→Option TI} {look look':Look} (nid t len:Nat) (is:List Nat) (vs:List AV) (h:∀ i∈reach look ZE (AV.idsL vs) [],look i=look' i):
    Ql T nid t len is vs look=Ql T nid t len is vs look':=by
  unfold Ql
  have hr:=qv ZE (AV.idsL vs) [] h
  rw [hr]
  have:(fun i=>if (reach look ZE (AV.idsL vs) []).contains i then look i else none)=fun i=>if (reach look ZE (AV.idsL vs) []).contains i then look' i else none:=by
    funext i
    split
    · rename_i hc; exact h i (by simpa using hc)
    · rfl
  simp only [this,QT _ h]
theorem agJ {T:Nat→Option TI} {look look':Look} (n e:Nat) (x:AV) (h:∀ i∈(match x with | .ptr id _=>reach look ZE [id] [] | _=>[]),look i=look' i):
    aca T n e x look=aca T n e x look':=by
  unfold aca
  split
  · rename_i ei id off he
    simp only at h
    have hr:=qv ZE [id] [] h
    simp only [hr]
    have:(fun i=>if (reach look ZE [id] []).contains i then look i else none)=fun i=>if (reach look ZE [id] []).contains i then look' i else none:=by
      funext i
      split
      · rename_i hc; exact h i (by simpa using hc)
      · rfl
    simp only [this,QT _ h]
  · rfl
theorem aiE {T:Nat→Option TI} {look look':Look} (t:Nat) (p v:AV) (h:∀ i∈qw p++reach look ZE (AV.idsL [v]) [],look i=look' i):
    acC T t p v look=acC T t p v look':=by
  unfold acC
  have h2:∀ i∈reach look ZE (AV.idsL [v]) [],look i=look' i:=fun i hi=>h i (List.mem_append_right _ hi)
  have hr:=qv ZE (AV.idsL [v]) [] h2
  rw [hr]
  have:(fun i=>if (reach look ZE (AV.idsL [v]) []).contains i then look i else none)=fun i=>if (reach look ZE (AV.idsL [v]) []).contains i then look' i else none:=by
    funext i
    split
    · rename_i hc; exact h2 i (by simpa using hc)
    · rfl
  simp only [this,QT _ h2,fun v'=>adt (T:=T) t p v' (fun i hi=>h i (List.mem_append_left _ hi))]
theorem adM {G:Cfg} {C:ZL} {ρ:Operand→AV} (o:Oper) {look look':Look} (nid:Nat) (h:∀ i∈foot ρ o look,look i=look' i):
    aOp G C ρ o look nid=aOp G C ρ o look' nid:=by
  obtain ⟨dst,op,type,pos,after,guard⟩:=o
  cases op
  case load t a=>simp only [aOp,akl t (ρ a) h]
  case store t a x=>
    simp only [foot] at h
    simp only [aOp]
    split
    · rename_i hl
      rw [if_pos hl] at h
      rw [aiE t _ _ h]
    · rename_i hl
      rw [if_neg hl] at h
      rw [adt t _ _ h]
  case convert s d x=>simp only [aOp]; rw [aj2 s d (ρ x) h]
  case lookup t x k ok=>simp only [aOp,aip t (ρ x) (ρ k) ok h]
  case mapUpdate t x k v=>simp only [aOp,agf t (ρ x) (ρ k) (ρ v) h]
  case makeMap t r=>cases r <;> rfl
  case buildSlice t n ps=>
    simp only [foot] at h
    simp only [aOp]
    split
    · rename_i hl
      rw [if_pos hl] at h
      rw [agd nid t n _ _ h]
    · rfl
  case call c=>
    obtain ⟨cal,args,ts⟩:=c
    cases cal with
    | value f=>
      simp only [foot] at h
      simp only [aOp,ag8]
      cases hc:callee (ρ f) (args.toList.map ρ) with
      | none=>rfl
      | some p=>
        simp only [hc] at h
        simp only [ahD p.1 p.2 nid h,aiu p.1 p.2 nid h]
    | invoke r mm=>rfl
    | builtin b=>
      simp only [foot] at h
      simp only [aOp]
      exact ahf b _ _ nid (by simpa [List.flatMap_map] using h)
  case slice t x lo hi mx=>
    cases mx with
    | some _=>rfl
    | none=>
      simp only [foot] at h
      simp only [aOp]
      split
      · rfl
      · rfl
      · rename_i n e _ _ _ _ _
        rw [agJ (T:=G.T) n e (ρ x) h]
      · rfl
  case makeFunc f a b=>cases f <;> rfl
  all_goals rfl
theorem adA {ρ:Operand→AV} (o:Oper) {look look':Look} (h:∀ i∈foot ρ o look,look i=look' i):foot ρ o look'=foot ρ o look:=by
  obtain ⟨dst,op,type,pos,after,guard⟩:=o
  cases op
  case call c=>
    obtain ⟨cal,args,ts⟩:=c
    cases cal with
    | value f=>
      simp only [foot] at h ⊢
      cases hc:callee (ρ f) (args.toList.map ρ) with
      | none=>rfl
      | some p=>simp only [hc] at h; exact qv _ _ _ h
    | invoke r mm=>rfl
    | builtin b=>rfl
  case slice t x lo hi mx=>
    simp only [foot] at h ⊢
    split
    · rename_i id off hx
      simp only [hx] at h
      exact qv _ _ _ h
    · rfl
  case store t a x=>
    simp only [foot] at h ⊢
    split
    · rename_i hl
      rw [if_pos hl] at h
      rw [qv _ _ _ (fun i hi=>h i (List.mem_append_right _ hi))]
    · rfl
  case buildSlice t n ps=>
    simp only [foot] at h ⊢
    split
    · rename_i hl
      rw [if_pos hl] at h
      exact qv _ _ _ h
    · rfl
  all_goals rfl
end Go.Ab
