import Derived.Test.YtejbcaheoloahaaGreatAbLawG
import Derived.Test.YtejbcaheoloahaaGreatAbLift
set_option linter.unusedVariables false
set_option linter.unusedSimpArgs false
namespace Go.Ab
open Go
def RdT {α:Type} (P:Program) (t:Nat) (R:α→List PV) (W:α→Prop):Prop:=∀ n qs,HasT P n t qs→PV.bulkL qs≤1048576→∃ x,qs=R x∧W x
theorem amI {P:Program} {t:Nat} {k:IntKind} (h:P.underlying t=some (.int k)):RdT P t (rI k) (wI k):=by
  intro n qs hq _
  cases n with
  | zero=>exact hq.elim
  | succ n=>
    simp only [HasT,h] at hq
    obtain ⟨i,rfl,hw⟩:=hq
    simp only [Lit.wf,Bool.and_eq_true,decide_eq_true_eq] at hw
    exact ⟨i,rfl,hw⟩
theorem apq {P:Program} {t:Nat} (h:P.underlying t=some .bool):RdT P t rB wB:=by
  intro n qs hq _
  cases n with
  | zero=>exact hq.elim
  | succ n=>
    simp only [HasT,h] at hq
    obtain ⟨i,rfl⟩:=hq
    exact ⟨i,rfl,trivial⟩
theorem ap2 {P:Program} {t:Nat} {k:FloatKind} (h:P.underlying t=some (.float k)):RdT P t (rF k) (wF k):=by
  intro n qs hq _
  cases n with
  | zero=>exact hq.elim
  | succ n=>
    simp only [HasT,h] at hq
    obtain ⟨i,rfl,hw⟩:=hq
    exact ⟨i,rfl,hw⟩
theorem ap5 {P:Program} {t:Nat} (h:P.underlying t=some .string):RdT P t rS wS:=by
  intro n qs hq hb
  cases n with
  | zero=>exact hq.elim
  | succ n=>
    simp only [HasT,h] at hq
    obtain ⟨i,rfl,hw⟩:=hq
    simp only [PV.bulkL,PV.bulk] at hb
    exact ⟨i,rfl,by unfold wS; omega⟩
theorem ab0 (p:PV):1≤PV.bulk p:=by cases p <;> simp [PV.bulk]
theorem acw:∀ {rows:List (List PV)} {r:List PV},r∈rows→PV.bulkL r≤PV.bulkLL rows
  | [],_,h=>by simp at h
  | a :: rows,r,h=>by
    simp only [PV.bulkLL]
    rcases List.mem_cons.1 h with rfl | h
    · omega
    · have:=acw h; omega
theorem ade:∀ {rows:List (List PV)},(∀ r,r∈rows→r≠[])→rows.length≤PV.bulkLL rows
  | [],_=>by simp
  | r :: rows,h=>by
    have h1:=ade (rows:=rows) fun x hx=>h x (by simp [hx])
    have h2:=h r (by simp)
    cases r with
    | nil=>exact absurd rfl h2
    | cons p r=>
      have:=ab0 p
      simp only [PV.bulkLL,PV.bulkL,List.length_cons]
      omega
theorem ang {α:Type} {R:α→List PV} {W:α→Prop}:∀ {rows:List (List PV)},(∀ r,r∈rows→∃ x,r=R x∧W x)→∃ l:List α,rows=l.map R∧∀ x,x∈l→W x
  | [],_=>⟨[],rfl,by simp⟩
  | r :: rows,h=>by
    obtain ⟨l,rfl,hl⟩:=ang (rows:=rows) fun x hx=>h x (by simp [hx])
    obtain ⟨x,rfl,hx⟩:=h r (by simp)
    refine ⟨x :: l,rfl,fun y hy=>?_⟩
    rcases List.mem_cons.1 hy with rfl | hy
    · exact hx
    · exact hl y hy
theorem agB {α:Type} {P:Program} {t e:Nat} {R:α→List PV} {W:α→Prop} (h:P.underlying t=some (.slice e)) (hR:∀ x,R x≠[]) (he:RdT P e R W):RdT P t (rSl R) (wSl W):=by
  intro n qs hq hb
  cases n with
  | zero=>exact hq.elim
  | succ n=>
    simp only [HasT,h] at hq
    rcases hq with rfl | ⟨rows,rfl,_,hr⟩
    · exact ⟨none,rfl,by simp [wSl,sll]⟩
    · simp only [PV.bulkL,PV.bulk] at hb
      obtain ⟨l,rfl,hl⟩:=ang (R:=R) (W:=W) (rows:=rows) fun r hm=>he n r (hr r hm).2 (by have:=acw hm; omega)
      refine ⟨some l,rfl,?_,hl⟩
      have:=ade (rows:=l.map R) (by intro r hr; obtain ⟨x,_,rfl⟩:=List.mem_map.1 hr; exact hR x)
      rw [List.length_map] at this
      simp only [sll]
      omega
theorem aiW (l:List PV) (a b:Nat):PV.bulkL ((l.drop a).take b)≤PV.bulkL l:=by
  have h1:PV.bulkL l=PV.bulkL (l.take a)+(PV.bulkL ((l.drop a).take b)+PV.bulkL ((l.drop a).drop b)):=by
    rw [← acj,← acj,List.take_append_drop,List.take_append_drop]
  omega
theorem qP {α:Type} {P:Program} {t e n off sz i:Nat} {fs:Array Field} {qs:List PV} {R:α→List PV} {W:α→Prop} (h:P.underlying t=some (.struct fs)) (hf:(fs.toList.map fun f=>(f.offset,f.type))[i]?=some (off,e)) (hc:P.cellsOf e=sz) (he:RdT P e R W) (hq:HasT P (n+1) t qs) (hb:PV.bulkL qs≤1048576):
    ∃ x,(qs.drop off).take sz=R x∧W x:=by
  subst hc
  rw [List.getElem?_map,Option.map_eq_some_iff] at hf
  obtain ⟨f,hf,e'⟩:=hf
  simp only [Prod.mk.injEq] at e'
  obtain ⟨rfl,rfl⟩:=e'
  simp only [HasT,h] at hq
  exact he n _ (hq.2 f (List.mem_of_getElem? hf)) (by have:=aiW qs f.offset (P.cellsOf f.type); omega)
theorem aiX {P:Program} {t n sz:Nat} {fs:Array Field} {qs:List PV} (h:P.underlying t=some (.struct fs)) (hc:P.cellsOf t=sz) (hq:HasT P (n+1) t qs):qs.length=sz:=by
  simp only [HasT,h] at hq
  rw [← hc]; exact hq.1
def aeb (P:Program) (t:Nat):Array Field:=match P.underlying t with
  | some (.struct fs)=>fs
  | _=>#[]
theorem apH {α:Type} {P:Program} {t n b:Nat} {qs:List PV} {a:AV} {R:α→List PV} {W:α→Prop} (hR:RdT P t R W) (ha:aggT P t=true) (h:HasT P n t qs) (hb:PV.bulkL qs≤1048576) (he:if aggT P t then a=.agg (qs.map .pv) else ∃ q,qs=[q]∧a=.pv q):∃ x,a=.agg ((R x).map .pv)∧W x:=by
  obtain ⟨x,rfl,hx⟩:=hR n qs h hb
  rw [if_pos ha] at he
  exact ⟨x,he,hx⟩
theorem apA {α:Type} {P:Program} {t n b:Nat} {qs:List PV} {a:AV} {R:α→List PV} {W:α→Prop} (hR:RdT P t R W) (ha:aggT P t=false) (h:HasT P n t qs) (hb:PV.bulkL qs≤1048576) (he:if aggT P t then a=.agg (qs.map .pv) else ∃ q,qs=[q]∧a=.pv q):∃ x,(∃ q,R x=[q]∧a=.pv q)∧W x:=by
  obtain ⟨x,rfl,hx⟩:=hR n qs h hb
  rw [ha] at he
  exact ⟨x,by simpa using he,hx⟩
end Go.Ab
