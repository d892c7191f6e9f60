import Derived.Test.YtejbcaheoloahaaGreatAbExec
import Derived.Orders
set_option linter.all false
namespace Go.Ab
open Go
variable {w w':World}{F:Froz}{Pr:Nat→Prop}{m m':Mu}{look:Look}{nid:Nat}
theorem abk {G:Cfg}{C:Z3}{ρ ρ':Operand→AV}(o:Oper) (look:Look) (nid:Nat) (h:∀ x∈o.op.operands,ρ x=ρ' x):
  aOp G C ρ o look nid=aOp G C ρ' o look nid∧foot ρ o look=foot ρ' o look:=by
 obtain ⟨dst,op,type,pos,after,guard⟩:=o
 have pairs:∀ ps:Array (Nat×Operand),(∀ x∈ps.map (·.2),ρ x=ρ' x)→(ps.toList.map fun p=>(p.1,ρ p.2))=(ps.toList.map fun p=>(p.1,ρ' p.2)):=fun ps hp=>
  List.map_congr_left fun p hm=>by
   obtain ⟨i,x⟩:=p
   simp only [hp x (Array.mem_map.2 ⟨(i,x),by simpa using hm,rfl⟩)]
 have arr:∀ ps:Array Operand,(∀ x∈ps,ρ x=ρ' x)→ps.toList.map ρ=ps.toList.map ρ':=fun ps hp=>
  List.map_congr_left fun x hx=>hp x (by simpa using hx)
 have lst:∀ (ps:Array Operand),(∀ x∈ps,ρ x=ρ' x)→(ps.toList.map ρ)=(ps.toList.map ρ'):=arr
 cases op<;>simp only [Op.operands] at h
 case build t ps=>simp only [aOp,foot,pairs ps fun x hx=>h x (by simpa using hx),and_self]
 case buildSlice t n ps=>
  have e2:(ps.toList.map fun p=>ρ p.2)=ps.toList.map fun p=>ρ' p.2:=List.map_congr_left fun p hm=>h p.2 (by simpa using ⟨p.1,by simpa using hm⟩)
  simp only [aOp,foot,pairs ps fun x hx=>h x (by simpa using hx),e2,and_self]
 case makeFunc fn first captured=>
  cases fn<;>simp only [aOp,foot,arr first fun x hx=>h x (by simp [hx]),arr captured fun x hx=>h x (by simp [hx]),and_self]
 case call c=>
  obtain ⟨cal,args,ts⟩:=c
  have ha:∀ x∈args,ρ x=ρ' x:=fun x hx=>h x (by simp [Call.operands,hx])
  cases cal with
  |value f=>
   have hf:ρ f=ρ' f:=h f (by simp [Call.operands])
   simp only [aOp,foot,hf,arr args ha,and_self]
  |invoke r mm=>exact ⟨rfl,rfl⟩
  |builtin b=>
   have:(args.toList.flatMap fun x=>Qr (ρ x))=args.toList.flatMap fun x=>Qr (ρ' x):=by
    have:=congrArg (List.flatMap Qr) (arr args ha)
    simpa [List.flatMap_map] using this
   simp only [aOp,foot,arr args ha,this,and_self]
 case makeMap t r=>cases r<;>exact ⟨rfl,rfl⟩
 case slice t x lo hi mx=>
  cases mx with
  |some m=>exact ⟨by cases lo<;>cases hi<;>simp_all [aOp],by simp only [foot];rw [h x (by simp)]⟩
  |none=>cases lo<;>cases hi<;>simp_all [aOp,foot]
 all_goals first
  |exact ⟨rfl,rfl⟩
  |(simp_all [aOp,foot];done)
theorem ajb {look look':Look}(x:AV) (h:∀ i∈Qr x,look i=look' i):rowsOf x look=rowsOf x look':=by
 cases x with
 |pv p=>cases p<;>rfl
 |ref i g h' e o n=>simp only [rowsOf,h i (List.mem_singleton.2 rfl)]
 |_=>rfl
theorem ahS {look look':Look}(x:AV) (h:∀ i∈Qr x,look i=look' i):zT x look=zT x look':=by
 unfold zT
 split
 ·rfl
 exact ajb x h
theorem aoW {T:Nat→Option TI}{look look':Look}(t:Nat) (x:AV) (h:∀ i∈Qr x,look i=look' i):ag3 T t x look=ag3 T t x look':=by
 cases x with
 |pv p=>cases p<;>rfl
 |ref i g h' e o n=>simp only [ag3,h i (List.mem_singleton.2 rfl)]
 |ptr i o=>simp only [ag3,h i (List.mem_singleton.2 rfl)]
 |eptr i g h' e o n=>simp only [ag3,h i (List.mem_singleton.2 rfl)]
 |_=>rfl
theorem aoD {T:Nat→Option TI}{look look':Look}(s d:Nat) (x:AV) (h:∀ i∈Qr x,look i=look' i):ajg T s d x look=ajg T s d x look':=by
 unfold ajg
 cases T s with
 |none=>rfl
 |some si=>
  cases T d with
  |none=>rfl
  |some di=>
   simp only
   split<;>first|rfl|rw [ajb _ h]
theorem amv {T:Nat→Option TI}{look look':Look}(nid t:Nat) (x:AV) (rows:List (List PV)) (h:∀ i∈Qr x,look i=look' i):QQ T nid t x rows look=QQ T nid t x rows look':=by
 cases x with
 |pv p=>cases p<;>rfl
 |ref i g h' e o n=>simp only [QQ,h i (List.mem_singleton.2 rfl)]
 |ptr i o=>simp only [QQ,h i (List.mem_singleton.2 rfl)]
 |eptr i g h' e o n=>simp only [QQ,h i (List.mem_singleton.2 rfl)]
 |_=>rfl
theorem aiT {look look':Look}:∀ (l:List Nat),(∀ i∈l,look i=look' i)→getAll look l=getAll look' l
 |[],_=>rfl
 |i::r,h=>by simp only [getAll,h i (by simp),aiT r fun j hj=>h j (by simp [hj])]
theorem abc {look look':Look}:∀ (l:List Nat),(∀ i∈l,look i=look' i)→Zx look l=Zx look' l
 |[],_=>rfl
 |i::r,h=>by simp only [Zx,h i (by simp),abc r fun j hj=>h j (by simp [hj])]
theorem alr {C:Z3}{look look':Look}(f:Nat) (args:List AV) (nid:Nat) (h:∀ i∈reach look Zv (AV.idsL args) [],look i=look' i):
  Qp C f args look nid=Qp C f args look' nid:=by
 unfold Qp
 have hr:=Qg Zv (AV.idsL args) [] h
 rw [hr]
 have:(fun i=>if (reach look Zv (AV.idsL args) []).contains i then look i else none)=fun i=>if (reach look Zv (AV.idsL args) []).contains i then look' i else none:=by
  funext i
  split
  ·rename_i hc;exact h i (by simpa using hc)
  rfl
 simp only [this,abc _ h]
theorem amk {C:Z3}{look look':Look}(f:Nat) (args:List AV) (nid:Nat) (h:∀ i∈reach look Zv (AV.idsL args) [],look i=look' i):
  aaF C f args look nid=aaF C f args look' nid:=by
 unfold aaF
 have hr:=Qg Zv (AV.idsL args) [] h
 rw [hr]
 simp only [aiT _ h]
theorem aoO {T:Nat→Option TI}{look look':Look}(t:Nat) (x:AV) (rows:List (List PV)) (h:∀ i∈Qr x,look i=look' i):ak6 T t x rows look=ak6 T t x rows look':=by
 unfold ak6
 cases x with
 |ref id g hh esz off n=>simp only [h id (by simp [Qr])]
 |_=>rfl
theorem an6 {T:Nat→Option TI}{look look':Look}(t:Nat) (x:AV) (h:∀ i∈Qr x,look i=look' i):ajD T t x look=ajD T t x look':=by
 unfold ajD
 cases x with
 |ref id g hh esz off n=>simp only [h id (by simp [Qr])]
 |pv p=>cases p<;>rfl
 |_=>rfl
theorem alH {G:Cfg}{look look':Look}(b:Builtin) (ts:List Nat) (args:List AV) (nid:Nat) (h:∀ i∈args.flatMap Qr,look i=look' i):
  aca G b ts args look nid=aca G b ts args look' nid:=by
 unfold aca
 split<;>first
  |rfl
  |(
   rename_i t x
   have hx:∀ i∈Qr x,look i=look' i:=fun i hi=>h i (by simp [hi])
   simp only [an6 (T:=G.T) t x hx];done)
  |(
   rename_i t u x y
   have hx:∀ i∈Qr x,look i=look' i:=fun i hi=>h i (by simp [hi])
   have hy:∀ i∈Qr y,look i=look' i:=fun i hi=>h i (by simp [hi])
   first
    |(simp only [ahS y hy,fun rows=>amv (T:=G.T) nid t x rows hx];done)
    |simp only [ahS y hy,fun rows=>aoO (T:=G.T) t x rows hx])
theorem anU {look look':Look}(x:AV) (h:∀ i∈Qr x,look i=look' i):ajM x look=ajM x look':=by
 cases x with
 |map id=>simp only [ajM,h id (List.mem_singleton.2 rfl)]
 |pv p=>cases p<;>rfl
 |_=>rfl
theorem amm {T:Nat→Option TI}{look look':Look}(t:Nat) (x k:AV) (ok:Bool) (h:∀ i∈Qr x,look i=look' i):ahB T t x k ok look=ahB T t x k ok look':=by
 unfold ahB;rw [anU x h]
theorem ajI {T:Nat→Option TI}{look look':Look}(t:Nat) (x k v:AV) (h:∀ i∈Qr x,look i=look' i):adp T t x k v look=adp T t x k v look':=by
 unfold adp
 split
 ·rename_i id _ _ _
  rw [h _ (List.mem_singleton.2 rfl)]
 rfl
theorem aju {T:Nat→Option TI}{look look':Look}(nid t len:Nat) (is:List Nat) (vs:List AV) (h:∀ i∈reach look Zv (AV.idsL vs) [],look i=look' i):
  aaC T nid t len is vs look=aaC T nid t len is vs look':=by
 unfold aaC
 have hr:=Qg Zv (AV.idsL vs) [] h
 rw [hr]
 have:(fun i=>if (reach look Zv (AV.idsL vs) []).contains i then look i else none)=fun i=>if (reach look Zv (AV.idsL vs) []).contains i then look' i else none:=by
  funext i
  split
  ·rename_i hc;exact h i (by simpa using hc)
  rfl
 simp only [this,abc _ h]
theorem akF {T:Nat→Option TI}{look look':Look}(n e:Nat) (x:AV) (h:∀ i∈(match x with|.ptr id _=>reach look Zv [id] []|_=>[]),look i=look' i):
  aek T n e x look=aek T n e x look':=by
 unfold aek
 split
 ·rename_i ei id off he
  simp only at h
  have hr:=Qg Zv [id] [] h
  simp only [hr]
  have:(fun i=>if (reach look Zv [id] []).contains i then look i else none)=fun i=>if (reach look Zv [id] []).contains i then look' i else none:=by
   funext i
   split
   ·rename_i hc;exact h i (by simpa using hc)
   rfl
  simp only [this,abc _ h]
 rfl
theorem amg {T:Nat→Option TI}{look look':Look}(t:Nat) (p v:AV) (h:∀ i∈Qr p++reach look Zv (AV.idsL [v]) [],look i=look' i):
  ahD T t p v look=ahD T t p v look':=by
 unfold ahD
 have h2:∀ i∈reach look Zv (AV.idsL [v]) [],look i=look' i:=fun i hi=>h i (List.mem_append_right _ hi)
 have hr:=Qg Zv (AV.idsL [v]) [] h2
 rw [hr]
 have:(fun i=>if (reach look Zv (AV.idsL [v]) []).contains i then look i else none)=fun i=>if (reach look Zv (AV.idsL [v]) []).contains i then look' i else none:=by
  funext i
  split
  ·rename_i hc;exact h2 i (by simpa using hc)
  rfl
 simp only [this,abc _ h2,fun v'=>afZ (T:=T) t p v' (fun i hi=>h i (List.mem_append_left _ hi))]
theorem agC {G:Cfg}{C:Z3}{ρ:Operand→AV}(o:Oper) {look look':Look}(nid:Nat) (h:∀ i∈foot ρ o look,look i=look' i):
  aOp G C ρ o look nid=aOp G C ρ o look' nid:=by
 obtain ⟨dst,op,type,pos,after,guard⟩:=o
 cases op
 case load t a=>simp only [aOp,aoW t (ρ a) h]
 case store t a x=>
  simp only [foot] at h
  simp only [aOp]
  split
  ·rename_i hl
   rw [if_pos hl] at h
   rw [amg t _ _ h]
  rename_i hl
  rw [if_neg hl] at h
  rw [afZ t _ _ h]
 case convert s d x=>simp only [aOp];rw [aoD s d (ρ x) h]
 case lookup t x k ok=>simp only [aOp,amm t (ρ x) (ρ k) ok h]
 case mapUpdate t x k v=>simp only [aOp,ajI t (ρ x) (ρ k) (ρ v) h]
 case makeMap t r=>cases r<;>rfl
 case buildSlice t n ps=>
  simp only [foot] at h
  simp only [aOp]
  split
  ·rename_i hl
   rw [if_pos hl] at h
   rw [aju nid t n _ _ h]
  rfl
 case call c=>
  obtain ⟨cal,args,ts⟩:=c
  cases cal with
  |value f=>
   simp only [foot] at h
   simp only [aOp,alP]
   cases hc:callee (ρ f) (args.toList.map ρ) with
   |none=>rfl
   |some p=>
    simp only [hc] at h
    simp only [alr p.1 p.2 nid h,amk p.1 p.2 nid h]
  |invoke r mm=>rfl
  |builtin b=>
   simp only [foot] at h
   simp only [aOp]
   exact alH b _ _ nid (by simpa [List.flatMap_map] using h)
 case slice t x lo hi mx=>
  cases mx with
  |some _=>rfl
  |none=>
   simp only [foot] at h
   simp only [aOp]
   split
   ·rfl
   ·rfl
   ·rename_i n e _ _ _ _ _
    rw [akF (T:=G.T) n e (ρ x) h]
   rfl
 case makeFunc f a b=>cases f<;>rfl
 all_goals rfl
theorem af2 {ρ:Operand→AV}(o:Oper) {look look':Look}(h:∀ i∈foot ρ o look,look i=look' i):foot ρ o look'=foot ρ o look:=by
 obtain ⟨dst,op,type,pos,after,guard⟩:=o
 cases op
 case call c=>
  obtain ⟨cal,args,ts⟩:=c
  cases cal with
  |value f=>
   simp only [foot] at h ⊢
   cases hc:callee (ρ f) (args.toList.map ρ) with
   |none=>rfl
   |some p=>simp only [hc] at h;exact Qg _ _ _ h
  |invoke r mm=>rfl
  |builtin b=>rfl
 case slice t x lo hi mx=>
  simp only [foot] at h ⊢
  split
  ·rename_i id off hx
   simp only [hx] at h
   exact Qg _ _ _ h
  rfl
 case store t a x=>
  simp only [foot] at h ⊢
  split
  ·rename_i hl
   rw [if_pos hl] at h
   rw [Qg _ _ _ (fun i hi=>h i (List.mem_append_right _ hi))]
  rfl
 case buildSlice t n ps=>
  simp only [foot] at h ⊢
  split
  ·rename_i hl
   rw [if_pos hl] at h
   exact Qg _ _ _ h
  rfl
 all_goals rfl
end Go.Ab
