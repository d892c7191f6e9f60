import Derived.Test.YtejbcaheoloahaaGreatAbData
import Derived.WalkKit
import Derived.ProofKit
import Derived.OpenShut
import Derived.JoinedCond
import Derived.Carry
import Derived.RowKit
set_option linter.unusedVariables false
set_option linter.unusedSimpArgs false
namespace Go.Ab
open Go Go.ChangeShapes Go.WideShapes Go.ChangeAt Go.RowKit
section
variable {H:Type} {enc:TypeId × Value→H} {P:Program} {w:World} {base:Nat} {spare:Nat→Bool} {held:Bool} {U:DataW H→Nat} {UA:List (DataW H)→Nat}
def aggT (P:Program) (t:Nat):Bool:=
  match P.underlying t with
  | some (.struct _) | some (.array _ _)=>true
  | _=>false
def aj3 (P:Program):List Nat→List AV→Nat→Prop
  | [],[],_=>True
  | t :: ts,a :: as,b=>∃ n qs b',HasT P n t qs∧(if aggT P t then a=.agg (qs.map .pv) else ∃ q,qs=[q]∧a=.pv q)∧PV.bulkL qs+b'≤b∧aj3 P ts as b'
  | _,_,_=>False
theorem aoB (S:List Nat) (hS:akJ P S=true) (hU:Bulk U UA) {t:Nat} {v:Value} {d:DataW H} {ps:List MemPlace} {r:Reach} {b0:Nat} (ht:t∈S) (hval:Value.okWide P w r b0 t v)
    (hd:DataW.Trod enc P w base spare held t v d ps):∃ a n qs,RelV w (allF w) (fun _ _ _=>none) v a∧HasT P n t qs∧(if aggT P t then a=.agg (qs.map .pv) else ∃ q,qs=[q]∧a=.pv q)∧PV.bulkL qs≤U d:=by
  obtain ⟨fuel,hf⟩:=hd
  obtain ⟨qs,h1,h2,h3,h4⟩:=amm S hS hU fuel t _ d ps ht hf
  have hp:=List.all_eq_true.1 hS t ht
  cases hagg:aggT P t with
  | true=>
    have:∃ cs,v=.agg cs:=by
      unfold aggT at hagg
      unfold Value.okWide at hval
      split at hagg
      · rename_i hu; rw [hu] at hval; obtain ⟨cs,e,_⟩:=hval; exact ⟨cs,e⟩
      · rename_i hu; rw [hu] at hval; obtain ⟨cs,e,_⟩:=hval; exact ⟨cs,e⟩
      · cases hagg
    obtain ⟨cs,rfl⟩:=this
    refine ⟨.agg (qs.map .pv),fuel,qs,?_,h3,by simp,h4⟩
    have:=RelV.agg (w:=w) (F:=allF w) (m:=fun _ _ _=>none) cs.toList (qs.map .pv) (by simpa [Value.cells] using h1.symm) (fun j hj hj'=>by
      have:=h2 j (by simpa [Value.cells] using hj) (by simpa using hj')
      rw [List.getElem_map]
      exact .pv (by simpa [Value.cells] using this))
    simpa using this
  | false=>
    have hone:v.cells=#[v]:=by
      cases v <;> first
        | rfl
        | (exfalso
           unfold aggT at hagg
           unfold Value.okWide at hval
           split at hagg
           · cases hagg
           · cases hagg
           · rename_i hn1 hn2
             split at hp <;> rename_i hu <;> first
               | (simp [hu,Cell.okWide,Cell.ok] at hval; done)
               | exact absurd hu (hn1 _)
               | exact absurd hu (hn2 _ _)
               | (simp at hp; done))
    rw [hone] at h1 h2
    match qs,h1 with
    | [q],_=>
      refine ⟨.pv q,fuel,[q],.pv ?_,h3,by simp,h4⟩
      have:=h2 0 (by simp) (by simp)
      simpa using this
theorem akn (S:List Nat) (hS:akJ P S=true) (hU:Bulk U UA) {r:Reach} {b0:Nat}:∀ (ts:List Nat) (vs:List Value) (ds:List (DataW H)) (ps:List MemPlace),(∀ t∈ts,t∈S)→
    (∀ (j:Nat) t v,ts[j]?=some t→vs[j]?=some v→Value.okWide P w r b0 t v)→DataW.TrodAll enc P w base spare held ts vs ds ps→
    ∃ as,RelL w (allF w) (fun _ _ _=>none) vs as∧aj3 P ts as (UA ds)∧ds.length=ts.length
  | [],[],[],ps,_,_,_=>⟨[],RelL.nil,trivial,rfl⟩
  | t :: ts,v :: vs,d :: ds,ps,hts,hv,h=>by
    obtain ⟨p,q,h1,h2,rfl⟩:=h
    obtain ⟨a,n,qs,k1,k2,k3,k4⟩:=aoB S hS hU (hts t (by simp)) (hv 0 t v rfl rfl) h1
    obtain ⟨as,e1,e2,e3⟩:=akn S hS hU ts vs ds q (fun t ht=>hts t (by simp [ht])) (fun j t' v' a b=>hv (j+1) t' v' (by simpa using a) (by simpa using b)) h2
    exact ⟨a :: as,RelL.cons k1 e1,⟨n,qs,UA ds,k2,k3,by rw [hU.cons]; omega,e2⟩,by simp [e3]⟩
  | [],_ :: _,_,_,_,_,h=>h.elim
  | [],[],_ :: _,_,_,_,h=>h.elim
  | _ :: _,[],_,_,_,_,h=>h.elim
  | _ :: _,_ :: _,[],_,_,_,h=>h.elim
theorem ajQ {ts:List Nat} (hl:laidOutB P=true) (hr:ts.all (fun t=>P.readableRec t && decide (t < P.types.size))=true) {W W':World} (hb:Below W.heap.size W W') (sp:Nat→Bool):
    ∀ (vs:List Value) (ds:List (DataW H)) (ps:List MemPlace),DataW.TrodAll enc P W 0 (fun _=>true) true ts vs ds ps→(∀ x∈ps,x.block < W.heap.size)→(∀ x∈ps,sp x.block=true)→
    DataW.TrodAll enc P W' 0 sp true ts vs ds ps:=by
  induction ts with
  | nil=>
    intro vs ds ps h _ _
    match vs,ds,h with
    | [],[],h=>exact h
  | cons t ts ih=>
    intro vs ds ps h hlt hsp
    match vs,ds,h with
    | v :: vs,d :: ds,h=>
      obtain ⟨p,q,h1,h2,rfl⟩:=h
      simp only [List.all_cons,Bool.and_eq_true,decide_eq_true_eq] at hr
      exact ⟨p,q,WideElems.Trod_stays hl hr.1.1 hr.1.2 h1 (fun x hx=>hb.same (hlt x (by simp [hx]))) (fun x hx=>hsp x (by simp [hx])),ih hr.2 vs ds q h2 (fun x hx=>hlt x (by simp [hx])) (fun x hx=>hsp x (by simp [hx])),rfl⟩
theorem ajU {f:Func} {s:ChangeSpec} {apart fresh handsOn again:Bool} {W W':World} {args:Array Value} {v:Value} {ds gs:List (DataW H)} {before pa pv:List MemPlace}
    (hW:DataW.Whole enc P f.params.toList s.vars apart W args.toList ds gs before)
    (hres:∀ (b:Nat) (sp:Nat→Bool) (hd:Bool),DataW.TrodAll enc P W' b sp hd f.resultTypes.toList (v.resultList f.resultTypes.size) (s.fn H (ds++gs)).results [])
    (hargs:∀ sp:Nat→Bool,(∀ p∈before,sp p.block=true)→DataW.TrodAll enc P W' 0 sp true f.params.toList args.toList (s.fn H (ds++gs)).args pa)
    (hvars:∀ sp:Nat→Bool,(∀ p∈before,sp p.block=true)→DataW.TrodVars enc P W' sp s.vars (s.fn H (ds++gs)).vars pv)
    (hps:before=pa++pv) (hb:Below W.heap.size W W')
    (hok:∀ (j:Nat) (t:TypeId) (r:Value),f.resultTypes[j]?=some t→(v.resultList f.resultTypes.size)[j]?=some r→Value.okWide P W' .any 0 t r):
    s.post enc P f apart fresh handsOn again W args v W':=by
  have hold:∀ p∈before,(fun b=>decide (b < W.heap.size)) p.block=true:=fun p hp=>by simpa using hW.lt p hp
  refine ⟨ds,gs,before,[],pa,pv,hW,hres _ _ _,hargs _ hold,hvars _ hold,World.keptBut_mono (fun p hp=>⟨hp,?_⟩) (hb.frame (·∈before)),fun _=>?_⟩
  · rw [hps,List.mem_append] at hp
    exact Or.inr hp
  · obtain ⟨_,_,_,_,_,hz,hn⟩:=hW
    refine ⟨hok,_,_,([]++pa)++pv,⟨[]++pa,pv,trodAll_append (hargs _ (fun _ _=>rfl)) (hres _ _ _),hvars _ (fun _ _=>rfl),rfl,?_,?_⟩,?_⟩
    · intro b off hp
      have hp':MemPlace.cell b off∈before:=by rw [hps]; simpa using hp
      have hlt:b < W.heap.size:=of_decide_eq_true (hold _ hp')
      rw [hb.frozen hlt]
      exact hz b off hp'
    · intro ha
      have:=hn ha
      rw [hps] at this
      simpa using this
    · intro p hp _
      rw [hps]
      simpa using hp
end
end Go.Ab
