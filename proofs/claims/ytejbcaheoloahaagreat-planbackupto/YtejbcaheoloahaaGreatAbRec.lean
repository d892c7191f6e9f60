import Derived.Test.YtejbcaheoloahaaGreatAbArr
set_option linter.unusedVariables false
set_option linter.unusedSimpArgs false
namespace Go.Ab
open Go
theorem ag6 {Good:List PV→Prop}:∀ (rows:List (List PV)),(∀ p,p∈rows→Good p)→∃ l:List {p:List PV // Good p},l.map (fun y=>y.1)=rows
  | [],_=>⟨[],rfl⟩
  | r :: rows,h=>by
    obtain ⟨l,hl⟩:=ag6 rows fun p hp=>h p (List.mem_cons_of_mem _ hp)
    exact ⟨⟨r,h r (by simp)⟩ :: l,by simp [hl]⟩
section
variable {G:Cfg} {C:ZH} {m:Nat} {ops:Array Oper} {i:Nat} {ov:List (Nat × AV)} {H:List Blk}
theorem aaK {α:Type} (R:α→List PV) (s:Option (List α)) (k:IntKind) {x:α} {c:List PV} {j:Int} {t e sz b:Nat} {ag:Bool} {z:List PV} {ei:TI} (ht:G.T t=some ⟨.slice e,sz,b,ag,z⟩) (he:G.T e=some ei) (h:idx (sll s) j=some x) (hc:R x=c) (hl:c.length=ei.size) (ho:opL G C m ops i ov H=okV (qv G.T t (.pv (zg R s)) (.pv (.int k j)))):
    opL G C m ops i ov H=some (.ok ⟨.pv (.ptr c 0),[],[]⟩):=by
  subst hc; exact aaL R s k ht he h hl ho
end
theorem aoD {P:Program} {t st n off i:Nat} {fs:Array Field} {qs:List PV} (h:P.underlying t=some (.struct fs)) (hf:(fs.toList.map fun f=>(f.offset,f.type))[i]?=some (off,st)) (hc:P.cellsOf st=1) (hs:P.underlying st=some (.slice t)) (hz:Nat.blt 0 (P.cellsOf t)=true) (hq:HasT P (n+1) t qs) (hb:PV.bulkL qs≤1048576):
    (qs.drop off).take 1=[.nils]∨∃ rows,(qs.drop off).take 1=[.sl rows]∧rows.length≤1048576∧∀ r,r∈rows→(∃ m,m < n+1∧HasT P m t r)∧PV.bulkL r≤1048576:=by
  rw [List.getElem?_map,Option.map_eq_some_iff] at hf
  obtain ⟨f,hf,e'⟩:=hf
  simp only [Prod.mk.injEq] at e'
  obtain ⟨rfl,rfl⟩:=e'
  simp only [HasT,h] at hq
  have hk:=hq.2 f (List.mem_of_getElem? hf)
  have hb2:=aiW qs f.offset (P.cellsOf f.type)
  rw [hc] at hk hb2
  generalize (qs.drop f.offset).take 1=cs at hk hb2
  cases n with
  | zero=>exact hk.elim
  | succ n=>
    simp only [HasT,hs] at hk
    rcases hk with rfl | ⟨rows,rfl,_,hr⟩
    · exact .inl rfl
    · simp only [PV.bulkL,PV.bulk] at hb2
      have hl:=ade (rows:=rows) (fun r hm e=>by
        have:=(hr r hm).1
        rw [e] at this
        have hz':=Nat.blt_eq.mp hz
        simp at this
        omega)
      exact .inr ⟨rows,rfl,by omega,fun r hm=>⟨⟨n,by omega,(hr r hm).2⟩,by have:=acw hm; omega⟩⟩
end Go.Ab
