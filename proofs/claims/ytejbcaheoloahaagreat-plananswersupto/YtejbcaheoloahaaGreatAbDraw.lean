import Derived.Test.YtejbcaheoloahaaGreatAbExec
import Derived.Orders
set_option linter.all false
namespace Go.Ab
open Go
variable {w w':World}{F:Froz}{Pr:Nat→Prop}{m m':Mu}{look:Look}{nid:Nat}
theorem aeN {G:Cfg}{C:qi}{ρ ρ':Operand→AV}(o:Oper) (look:Look) (nid:Nat) (h:∀ x∈o.op.operands,ρ x=ρ' x):
  aOp G C ρ o look nid=aOp G C ρ' o look nid∧foot ρ o look=foot ρ' o look:=by
 obtain ⟨dst,op,type,pos,after,guard⟩:=o
 have pairs:∀ ps:Array (Nat×Operand),(∀ x∈ps.map (·.2),ρ x=ρ' x)→(ps.toList.map fun p=>(p.1,ρ p.2))=(ps.toList.map fun p=>(p.1,ρ' p.2)):=fun ps hp=>
  List.map_congr_left fun p hm=>by
   obtain ⟨i,x⟩:=p
   simp only [hp x (Array.mem_map.2 ⟨(i,x),by simpa using hm,rfl⟩)]
 have arr:∀ ps:Array Operand,(∀ x∈ps,ρ x=ρ' x)→ps.toList.map ρ=ps.toList.map ρ':=fun ps hp=>
  List.map_congr_left fun x hx=>hp x (by simpa using hx)
 have lst:∀ (ps:Array Operand),(∀ x∈ps,ρ x=ρ' x)→(ps.toList.map ρ)=(ps.toList.map ρ'):=arr
 cases op<;>simp only [Op.operands] at h
 case build t ps=>simp only [aOp,foot,pairs ps fun x hx=>h x (by simpa using hx),and_self]
 case buildSlice t n ps=>
  have e2:(ps.toList.map fun p=>ρ p.2)=ps.toList.map fun p=>ρ' p.2:=List.map_congr_left fun p hm=>h p.2 (by simpa using ⟨p.1,by simpa using hm⟩)
  simp only [aOp,foot,pairs ps fun x hx=>h x (by simpa using hx),e2,and_self]
 case makeFunc fn first captured=>
  cases fn<;>simp only [aOp,foot,arr first fun x hx=>h x (by simp [hx]),arr captured fun x hx=>h x (by simp [hx]),and_self]
 case call c=>
  obtain ⟨cal,args,ts⟩:=c
  have ha:∀ x∈args,ρ x=ρ' x:=fun x hx=>h x (by simp [Call.operands,hx])
  cases cal with
  |value f=>
   have hf:ρ f=ρ' f:=h f (by simp [Call.operands])
   simp only [aOp,foot,hf,arr args ha,and_self]
  |invoke r mm=>exact ⟨rfl,rfl⟩
  |builtin b=>
   have:(args.toList.flatMap fun x=>QG (ρ x))=args.toList.flatMap fun x=>QG (ρ' x):=by
    have:=congrArg (List.flatMap QG) (arr args ha)
    simpa [List.flatMap_map] using this
   simp only [aOp,foot,arr args ha,this,and_self]
 case makeMap t r=>cases r<;>exact ⟨rfl,rfl⟩
 case slice t x lo hi mx=>
  cases mx with
  |some m=>exact ⟨by cases lo<;>cases hi<;>simp_all [aOp],by simp only [foot];rw [h x (by simp)]⟩
  |none=>cases lo<;>cases hi<;>simp_all [aOp,foot]
 all_goals first
  |exact ⟨rfl,rfl⟩
  |(simp_all [aOp,foot];done)
theorem akv {look look':Look}(x:AV) (h:∀ i∈QG x,look i=look' i):rowsOf x look=rowsOf x look':=by
 cases x with
 |pv p=>cases p<;>rfl
 |ref i g h' e o n=>simp only [rowsOf,h i (List.mem_singleton.2 rfl)]
 |_=>rfl
theorem ajf {look look':Look}(x:AV) (h:∀ i∈QG x,look i=look' i):Zm x look=Zm x look':=by
 unfold Zm
 split
 ·rfl
 exact akv x h
theorem aqU {T:Nat→Option TI}{look look':Look}(t:Nat) (x:AV) (h:∀ i∈QG x,look i=look' i):agQ T t x look=agQ T t x look':=by
 cases x with
 |pv p=>cases p<;>rfl
 |ref i g h' e o n=>simp only [agQ,h i (List.mem_singleton.2 rfl)]
 |ptr i o=>simp only [agQ,h i (List.mem_singleton.2 rfl)]
 |eptr i g h' e o n=>simp only [agQ,h i (List.mem_singleton.2 rfl)]
 |_=>rfl
theorem arE {T:Nat→Option TI}{look look':Look}(s d:Nat) (x:AV) (h:∀ i∈QG x,look i=look' i):apb T s d x look=apb T s d x look':=by
 unfold apb
 cases T s with
 |none=>rfl
 |some si=>
  cases T d with
  |none=>rfl
  |some di=>
   simp only
   split<;>first|rfl|rw [akv _ h]
theorem aoG {T:Nat→Option TI}{look look':Look}(nid t:Nat) (x:AV) (rows:List (List PV)) (h:∀ i∈QG x,look i=look' i):Qe T nid t x rows look=Qe T nid t x rows look':=by
 cases x with
 |pv p=>cases p<;>rfl
 |ref i g h' e o n=>simp only [Qe,h i (List.mem_singleton.2 rfl)]
 |ptr i o=>simp only [Qe,h i (List.mem_singleton.2 rfl)]
 |eptr i g h' e o n=>simp only [Qe,h i (List.mem_singleton.2 rfl)]
 |_=>rfl
theorem akT {look look':Look}:∀ (l:List Nat),(∀ i∈l,look i=look' i)→getAll look l=getAll look' l
 |[],_=>rfl
 |i::r,h=>by simp only [getAll,h i (by simp),akT r fun j hj=>h j (by simp [hj])]
theorem abN {look look':Look}:∀ (l:List Nat),(∀ i∈l,look i=look' i)→ZI look l=ZI look' l
 |[],_=>rfl
 |i::r,h=>by simp only [ZI,h i (by simp),abN r fun j hj=>h j (by simp [hj])]
theorem anT {C:qi}{look look':Look}(f:Nat) (args:List AV) (nid:Nat) (h:∀ i∈reach look qd (AV.idsL args) [],look i=look' i):
  QH C f args look nid=QH C f args look' nid:=by
 unfold QH
 have hr:=QC qd (AV.idsL args) [] h
 rw [hr]
 have:(fun i=>if (reach look qd (AV.idsL args) []).contains i then look i else none)=fun i=>if (reach look qd (AV.idsL args) []).contains i then look' i else none:=by
  funext i
  split
  ·rename_i hc;exact h i (by simpa using hc)
  rfl
 simp only [this,abN _ h]
theorem aoh {C:qi}{look look':Look}(f:Nat) (args:List AV) (nid:Nat) (h:∀ i∈reach look qd (AV.idsL args) [],look i=look' i):
  ad6 C f args look nid=ad6 C f args look' nid:=by
 unfold ad6
 have hr:=QC qd (AV.idsL args) [] h
 rw [hr]
 simp only [akT _ h]
theorem aq9 {T:Nat→Option TI}{look look':Look}(t:Nat) (x:AV) (rows:List (List PV)) (h:∀ i∈QG x,look i=look' i):amP T t x rows look=amP T t x rows look':=by
 unfold amP
 cases x with
 |ref id g hh esz off n=>simp only [h id (by simp [QG])]
 |_=>rfl
theorem aql {T:Nat→Option TI}{look look':Look}(t:Nat) (x:AV) (h:∀ i∈QG x,look i=look' i):ahm T t x look=ahm T t x look':=by
 unfold ahm
 cases x with
 |ref id g hh esz off n=>simp only [h id (by simp [QG])]
 |pv p=>cases p<;>rfl
 |_=>rfl
theorem amZ {G:Cfg}{look look':Look}(b:Builtin) (ts:List Nat) (args:List AV) (nid:Nat) (h:∀ i∈args.flatMap QG,look i=look' i):
  Q7 G b ts args look nid=Q7 G b ts args look' nid:=by
 unfold Q7
 split<;>first
  |rfl
  |(
   rename_i t x
   have hx:∀ i∈QG x,look i=look' i:=fun i hi=>h i (by simp [hi])
   simp only [aql (T:=G.T) t x hx];done)
  |(
   rename_i t u x y
   have hx:∀ i∈QG x,look i=look' i:=fun i hi=>h i (by simp [hi])
   have hy:∀ i∈QG y,look i=look' i:=fun i hi=>h i (by simp [hi])
   first
    |(simp only [ajf y hy,fun rows=>aoG (T:=G.T) nid t x rows hx];done)
    |simp only [ajf y hy,fun rows=>aq9 (T:=G.T) t x rows hx])
theorem aqc {look look':Look}(x:AV) (h:∀ i∈QG x,look i=look' i):alp x look=alp x look':=by
 cases x with
 |map id=>simp only [alp,h id (List.mem_singleton.2 rfl)]
 |pv p=>cases p<;>rfl
 |_=>rfl
theorem aoy {T:Nat→Option TI}{look look':Look}(t:Nat) (x k:AV) (ok:Bool) (h:∀ i∈QG x,look i=look' i):ai8 T t x k ok look=ai8 T t x k ok look':=by
 unfold ai8;rw [aqc x h]
theorem ak0 {T:Nat→Option TI}{look look':Look}(t:Nat) (x k v:AV) (h:∀ i∈QG x,look i=look' i):aeA T t x k v look=aeA T t x k v look':=by
 unfold aeA
 split
 ·rename_i id _ _ _
  rw [h _ (List.mem_singleton.2 rfl)]
 rfl
theorem ak8 {T:Nat→Option TI}{look look':Look}(nid t len:Nat) (is:List Nat) (vs:List AV) (h:∀ i∈reach look qd (AV.idsL vs) [],look i=look' i):
  aaQ T nid t len is vs look=aaQ T nid t len is vs look':=by
 unfold aaQ
 have hr:=QC qd (AV.idsL vs) [] h
 rw [hr]
 have:(fun i=>if (reach look qd (AV.idsL vs) []).contains i then look i else none)=fun i=>if (reach look qd (AV.idsL vs) []).contains i then look' i else none:=by
  funext i
  split
  ·rename_i hc;exact h i (by simpa using hc)
  rfl
 simp only [this,abN _ h]
theorem aml {T:Nat→Option TI}{look look':Look}(n e:Nat) (x:AV) (h:∀ i∈(match x with|.ptr id _=>reach look qd [id] []|_=>[]),look i=look' i):
  afF T n e x look=afF T n e x look':=by
 unfold afF
 split
 ·rename_i ei id off he
  simp only at h
  have hr:=QC qd [id] [] h
  simp only [hr]
  have:(fun i=>if (reach look qd [id] []).contains i then look i else none)=fun i=>if (reach look qd [id] []).contains i then look' i else none:=by
   funext i
   split
   ·rename_i hc;exact h i (by simpa using hc)
   rfl
  simp only [this,abN _ h]
 rfl
theorem aoH {T:Nat→Option TI}{look look':Look}(t:Nat) (p v:AV) (h:∀ i∈QG p++reach look qd (AV.idsL [v]) [],look i=look' i):
  aga T t p v look=aga T t p v look':=by
 unfold aga
 have h2:∀ i∈reach look qd (AV.idsL [v]) [],look i=look' i:=fun i hi=>h i (List.mem_append_right _ hi)
 have hr:=QC qd (AV.idsL [v]) [] h2
 rw [hr]
 have:(fun i=>if (reach look qd (AV.idsL [v]) []).contains i then look i else none)=fun i=>if (reach look qd (AV.idsL [v]) []).contains i then look' i else none:=by
  funext i
  split
  ·rename_i hc;exact h2 i (by simpa using hc)
  rfl
 simp only [this,abN _ h2,fun v'=>ahe (T:=T) t p v' (fun i hi=>h i (List.mem_append_left _ hi))]
theorem ahT {G:Cfg}{C:qi}{ρ:Operand→AV}(o:Oper) {look look':Look}(nid:Nat) (h:∀ i∈foot ρ o look,look i=look' i):
  aOp G C ρ o look nid=aOp G C ρ o look' nid:=by
 obtain ⟨dst,op,type,pos,after,guard⟩:=o
 cases op
 case load t a=>simp only [aOp,aqU t (ρ a) h]
 case store t a x=>
  simp only [foot] at h
  simp only [aOp]
  split
  ·rename_i hl
   rw [if_pos hl] at h
   rw [aoH t _ _ h]
  rename_i hl
  rw [if_neg hl] at h
  rw [ahe t _ _ h]
 case convert s d x=>simp only [aOp];rw [arE s d (ρ x) h]
 case lookup t x k ok=>simp only [aOp,aoy t (ρ x) (ρ k) ok h]
 case mapUpdate t x k v=>simp only [aOp,ak0 t (ρ x) (ρ k) (ρ v) h]
 case makeMap t r=>cases r<;>rfl
 case buildSlice t n ps=>
  simp only [foot] at h
  simp only [aOp]
  split
  ·rename_i hl
   rw [if_pos hl] at h
   rw [ak8 nid t n _ _ h]
  rfl
 case call c=>
  obtain ⟨cal,args,ts⟩:=c
  cases cal with
  |value f=>
   simp only [foot] at h
   simp only [aOp,amL]
   cases hc:callee (ρ f) (args.toList.map ρ) with
   |none=>rfl
   |some p=>
    simp only [hc] at h
    simp only [anT p.1 p.2 nid h,aoh p.1 p.2 nid h]
  |invoke r mm=>rfl
  |builtin b=>
   simp only [foot] at h
   simp only [aOp]
   exact amZ b _ _ nid (by simpa [List.flatMap_map] using h)
 case slice t x lo hi mx=>
  cases mx with
  |some _=>rfl
  |none=>
   simp only [foot] at h
   simp only [aOp]
   split
   ·rfl
   ·rfl
   ·rename_i n e _ _ _ _ _
    rw [aml (T:=G.T) n e (ρ x) h]
   rfl
 case makeFunc f a b=>cases f<;>rfl
 all_goals rfl
theorem ahn {ρ:Operand→AV}(o:Oper) {look look':Look}(h:∀ i∈foot ρ o look,look i=look' i):foot ρ o look'=foot ρ o look:=by
 obtain ⟨dst,op,type,pos,after,guard⟩:=o
 cases op
 case call c=>
  obtain ⟨cal,args,ts⟩:=c
  cases cal with
  |value f=>
   simp only [foot] at h ⊢
   cases hc:callee (ρ f) (args.toList.map ρ) with
   |none=>rfl
   |some p=>simp only [hc] at h;exact QC _ _ _ h
  |invoke r mm=>rfl
  |builtin b=>rfl
 case slice t x lo hi mx=>
  simp only [foot] at h ⊢
  split
  ·rename_i id off hx
   simp only [hx] at h
   exact QC _ _ _ h
  rfl
 case store t a x=>
  simp only [foot] at h ⊢
  split
  ·rename_i hl
   rw [if_pos hl] at h
   rw [QC _ _ _ (fun i hi=>h i (List.mem_append_right _ hi))]
  rfl
 case buildSlice t n ps=>
  simp only [foot] at h ⊢
  split
  ·rename_i hl
   rw [if_pos hl] at h
   exact QC _ _ _ h
  rfl
 all_goals rfl
end Go.Ab
