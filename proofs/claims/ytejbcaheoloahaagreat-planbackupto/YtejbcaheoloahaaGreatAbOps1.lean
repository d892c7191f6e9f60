import Derived.Test.YtejbcaheoloahaaGreatAbInv
set_option linter.unusedVariables false
set_option linter.unusedSimpArgs false
namespace Go.Ab
open Go
def tdOf:TypeDesc→TD
  | .bool=>.bool
  | .int k=>.int k
  | .float k=>.flt k
  | .string=>.str
  | .pointer e=>.ptr e
  | .slice e=>.slice e
  | .array n e=>.array n e
  | .map k e=>.map k e
  | .struct fs=>.struct (fs.toList.map fun f=>(f.offset,f.type))
  | .func ..=>.func
  | .interface _=>.ifc
  | _=>.scalar
def afH:TypeDesc→Bool
  | .struct _ | .array ..=>true
  | _=>false
structure TOk (P:Program) (T:Nat→Option TI):Prop where
  ok:∀ t ti,T t=some ti→∃ i d z,P.info? t=some i∧P.underlying t=some d∧tdOf d=ti.desc∧afH d=ti.agg∧i.size=ti.size∧i.bytes=ti.bytes∧
    i.zero=some z∧z.cells.size=ti.size∧ti.zero.length=ti.size∧(ti.agg=true→z=.agg z.cells)∧(ti.agg=false→ti.size=1∧z.oneCell'=true)∧
    ∀ w F j (h:j < z.cells.size) (h':j < ti.zero.length),Rep w F z.cells[j] ti.zero[j]
variable {P:Program} {T:Nat→Option TI} {w w':World} {F:Froz} {Pr:Nat→Prop} {m:Mu} {look:Look} {nid:Nat}
theorem Qd (g o j:Nat):(⟨g,o,none⟩:Addr).add j=⟨g,o+j,none⟩:=by unfold Addr.add; split <;> simp_all
theorem amD (v:Value):RelV w F m v (ofConst v):=by
  cases v with
  | int k n=>exact .pv (.int k n)
  | bool b=>exact .pv (.bool b)
  | float k n=>exact .pv (.flt k n)
  | string s=>exact .pv (.str s)
  | pointer a=>cases a with
    | none=>exact .pv .nilp
    | some a=>exact .any
  | slice a n c=>cases a with
    | none=>cases n with
      | zero=>cases c with
        | zero=>exact .pv .nils
        | succ c=>exact .any
      | succ n=>exact .any
    | some a=>exact .any
  | nilFunc=>exact .pv .nilf
  | nilIface=>exact .pv .nili
  | map r=>cases r with
    | none=>exact .pv .nilm
    | some r=>exact .any
  | agg cs=>
    have h:=RelV.agg (w:=w) (F:=F) (m:=m) cs.toList (cs.toList.map fun
      | .int k n=>.pv (.int k n)
      | .bool b=>.pv (.bool b)
      | .float k n=>.pv (.flt k n)
      | .string s=>.pv (.str s)
      | .pointer none=>.pv .nilp
      | .slice none 0 0=>.pv .nils
      | .nilFunc=>.pv .nilf
      | .nilIface=>.pv .nili
      | .map none=>.pv .nilm
      | _=>.any) (by simp) (fun j hj hj'=>by
        rw [List.getElem_map]
        generalize cs.toList[j]=x
        split <;> first
          | exact .pv (.int _ _)
          | exact .pv (.bool _)
          | exact .pv (.flt _ _)
          | exact .pv (.str _)
          | exact .pv .nilp
          | exact .pv .nils
          | exact .pv .nilf
          | exact .pv .nili
          | exact .pv .nilm
          | exact .any)
    rw [Array.toArray_toList] at h
    exact h
  | _=>exact .any
def RelT (w:World) (F:Froz) (m:Mu) (tmps:Array Value) (as:List AV):Prop:=
  tmps.size=as.length∧∀ (t:Nat) (v:Value),tmps[t]?=some v→∀ (x:AV),as[t]?=some x→RelV w F m v x
theorem RelT.keep {F':Froz} {m':Mu} (hc:∀ g o,F g o→w'.cell? ⟨g,o,none⟩=w.cell? ⟨g,o,none⟩) (hF:∀ g o,F g o→F' g o)
    (hm:qi m m') {tmps:Array Value} {as:List AV} (h:RelT w F m tmps as):RelT w' F' m' tmps as:=⟨h.1,fun t v a x b=>(h.2 t v a x b).keep hc hF hm⟩
theorem RelT.eval {a:Act} {as:List AV} (h:RelT w F m a.tmps as) (x:Operand):RelV w F m (a.eval x) (qc as x):=by
  cases x with
  | tmp t=>
    simp only [Act.eval,qc]
    by_cases ht:t < as.length
    · have h1:t < a.tmps.size:=by rw [h.1]; exact ht
      have:=h.2 t a.tmps[t] (by simp [h1]) as[t] (by simp [ht])
      simpa [Array.getD,h1,ht] using this
    · have h1:¬ t < a.tmps.size:=by rw [h.1]; exact ht
      simp only [Array.getD,h1,dite_false,List.getElem?_eq_none (Nat.le_of_not_lt ht),Option.getD_none]
      exact .undef
  | const v=>exact amD v
  | func f=>
    exact .pv (.fn f [] [] [] [] rfl rfl (fun j h=>by simp at h) (fun j h=>by simp at h))
  | global g=>exact .any
theorem RelT.put {a:Act} {as:List AV} (h:RelT w F m a.tmps as) (dst:Option Nat) {v:Value} {x:AV} (hv:RelV w F m v x):RelT w F m (a.put dst v).tmps (putA as dst x):=by
  cases dst with
  | none=>exact h
  | some d=>
    refine ⟨by simp [Act.put,putA,h.1],fun t u hu y hy=>?_⟩
    simp only [Act.put,putA] at hu hy
    rw [Array.getElem?_setIfInBounds] at hu
    rw [List.getElem?_set] at hy
    by_cases e:d=t
    · subst e
      by_cases hd:d < a.tmps.size
      · have hd':d < as.length:=by rw [← h.1]; exact hd
        simp [hd] at hu
        simp [hd'] at hy
        subst hu; subst hy
        exact hv
      · simp [hd] at hu
    · simp [e] at hu hy
      exact h.2 t u hu y hy
theorem put_defers (a:Act) (dst:Option Nat) (v:Value):(a.put dst v).defers=a.defers:=by cases dst <;> rfl
theorem Qp {t:Nat} {ti:TI} (hT:TOk P T) (ht:T t=some ti) (g o:Nat) (vs:List Value) (hl:vs.length=ti.size)
    (hc:∀ j (h:j < vs.length),w.cell? ⟨g,o+j,none⟩=some vs[j]):
    (loadVar t ⟨g,o,none⟩).run P w=.ok (if ti.agg then .agg vs.toArray else vs.headD undef) w:=by
  obtain ⟨i,d,z,h1,h2,h3,h4,h5,h6,h7,h8,h9,h10,h11,h12⟩:=hT.ok t ti ht
  have hcs:∀ j v,vs[j]?=some v→w.cell? ((⟨g,o,none⟩:Addr).add j)=some v:=fun j v hv=>by
    obtain ⟨hj,rfl⟩:=List.getElem?_eq_some_iff.1 hv
    rw [Qd]; exact hc j hj
  cases ha:ti.agg with
  | true=>
    have hagg:afH d=true:=h4.trans ha
    have hl':=run_loadCells_list (P:=P) w ⟨g,o,none⟩ vs hcs
    cases d <;> simp [afH] at hagg <;> simp [loadVar,isAgg,run_underlying h2,sizeOf,typeInfo,h1,h5,← hl,hl']
  | false=>
    have hagg:afH d=false:=h4.trans ha
    have h1':=(h11 ha).1
    have hone:vs.length=1:=by omega
    obtain ⟨v,rfl⟩:∃ v,vs=[v]:=by
      cases vs with
      | nil=>simp at hone
      | cons v r=>cases r with
        | nil=>exact ⟨v,rfl⟩
        | cons _ _=>simp at hone
    have h0:=hc 0 (by simp)
    simp only [Nat.add_zero,List.getElem_cons_zero] at h0
    cases d <;> simp [afH] at hagg <;> simp [loadVar,isAgg,run_underlying h2,h0]
theorem aez {agg:Bool} {vs:List Value} {cs:List AV} {x:AV} (h:ae2 agg cs=some x) (hr:RelL w F m vs cs):
    RelV w F m (if agg then .agg vs.toArray else vs.headD undef) x:=by
  cases agg with
  | true=>
    simp only [ae2,if_true,Option.some.injEq] at h
    subst h
    exact .agg vs cs hr.1 hr.2
  | false=>
    simp only [ae2,Bool.false_eq_true,if_false] at h
    split at h
    · rename_i c
      injection h with h
      subst h
      have hl:=hr.1
      cases vs with
      | nil=>simp at hl
      | cons v r=>exact hr.2 0 (by simp) (by simp)
    · cases h
theorem aes {α:Type} {cs r:List α} {off n:Nat} (h:cut cs off n=some r):off+n≤cs.length∧r=(cs.drop off).take n∧r.length=n:=by
  unfold cut at h
  split at h
  · rename_i hl
    injection h with h
    subst h
    exact ⟨hl,rfl,by simp; omega⟩
  · cases h
theorem ac3 {v:Value} {cells:List PV} {off:Nat} (h:Rep w F v (.ptr cells off)):∃ (g o:Nat) (us:Nat→Value),v=.pointer (some ⟨g,o+off,none⟩)∧
    (∀ j,j < cells.length→w.cell? ⟨g,o+j,none⟩=some (us j))∧(∀ j,j < cells.length→F g (o+j))∧∀ j (h:j < cells.length),Rep w F (us j) cells[j]:=by
  cases h with
  | ptr g o off cells us h1 h2 h3=>exact ⟨g,o,us,rfl,h1,h2,h3⟩
theorem adF {t:Nat} {a:Addr} {r:Result Value} (h:(loadVar t a).run P w=r):(Instr.loadAt t (.pointer (some a))).run P w=r:=by
  unfold Instr.loadAt
  simp only [Instr.sureAddr,Sem.run_bind,Sem.run_pure,Result.andThen_ok]
  exact h
theorem anh {t:Nat} {pv:Value} {p x:AV} (hT:TOk P T) (hI:Inv w F Pr m look) (hv:RelV w F m pv p) (h:aee T t p look=some x):
    ∃ v,(Instr.loadAt t pv).run P w=.ok v w∧RelV w F m v x:=by
  unfold aee at h
  split at h
  · cases h
  rename_i ti ht
  split at h
  · -- a pure pointer
    rename_i cells off
    obtain ⟨r,hr,hx⟩:=Option.bind_eq_some_iff.1 h
    obtain ⟨hle,hr',hrl⟩:=aes hr
    cases hv with
    | pv hp=>
    obtain ⟨g,o,us,rfl,h1,h2,h3⟩:=ac3 hp
    let vs:=(List.range ti.size).map fun j=>us (off+j)
    have hvl:vs.length=ti.size:=by simp [vs]
    have hrun:=Qp (w:=w) hT ht g (o+off) vs hvl (fun j hj=>by
      have hj':j < ti.size:=by rw [← hvl]; exact hj
      have:=h1 (off+j) (by omega)
      simpa [vs,Nat.add_assoc] using this)
    refine ⟨_,adF hrun,aez hx (RelL.aaO (by rw [hvl,hrl]) (fun j hj hj'=>?_))⟩
    have hj0:j < ti.size:=by rw [← hvl]; exact hj
    have:=h3 (off+j) (by omega)
    simpa [vs,hr',List.getElem_take,List.getElem_drop] using this
  · -- a variable of the call's own
    rename_i id off
    split at h
    · rename_i cells z hl
      obtain ⟨r,hr,hx⟩:=Option.bind_eq_some_iff.1 h
      obtain ⟨hle,hr',hrl⟩:=aes hr
      obtain ⟨g,c,vs,e,k1,k2,k3,k4,k5,k6,k7⟩:=hI.blk id _ hl
      cases hv with
      | ptr hp=>
      rename_i g' c'
      have hg:(g',c')=(g,c):=k2 0 0 _ hp
      have hg1:g'=g:=congrArg Prod.fst hg
      subst hg1
      have hcell:∀ j,w.cell? ⟨g',j,none⟩=vs[j]?:=fun j=>by rw [cell_of_row w g' j _ e (0,0) k3]; simp
      have hrun:=Qp (w:=w) hT ht g' off ((vs.drop off).take ti.size) (by have:=k4.1; simp; omega) (fun j hj=>by
        rw [hcell]
        have:off+j < vs.length:=by simp at hj; omega
        simp [List.getElem_take,List.getElem_drop,this])
      refine ⟨_,adF hrun,?_⟩
      refine aez (cs:=r) hx ?_
      rw [hr']
      exact (k4.drop off).take ti.size
    · cases h
  · -- an element of a row
    rename_i id γ hd esz i off
    split at h
    · rename_i e esz' r hl
      split at h
      · rename_i hc
        simp only [Bool.and_eq_true,beq_iff_eq,decide_eq_true_eq] at hc
        obtain ⟨⟨hval,hes⟩,hi⟩:=hc
        subst hes
        obtain ⟨cc,hcc,h⟩:=Option.bind_eq_some_iff.1 h
        obtain ⟨r',hr,hx⟩:=Option.bind_eq_some_iff.1 h
        obtain ⟨hle,hr',hrl⟩:=aes hr
        obtain ⟨h0,h1,h2⟩:=hI.blk id _ hl
        cases hv with
        | eptr hm=>
        rename_i g c
        obtain ⟨k1,k2,k3,k4⟩:=h2 γ hd g c hm
        obtain ⟨l1,l2,cur,l3,l4,l5⟩:=k4 hval
        have hcl:cc.length=esz:=h1 cc (List.mem_of_getElem? hcc)
        have hcell:∀ j,w.cell? ⟨g,j,none⟩=cur[j]?:=fun j=>cell_of_row w g j _ e (0,0) l3
        have hex:∀ j,j < esz→∃ u,cur[i * esz+j]?=some u∧∃ p,cc[j]?=some p∧Rep w F u p:=fun j hj=>by
          obtain ⟨u,p,a,b,c⟩:=l5 i hi j hj
          rw [hcc] at b
          exact ⟨u,a,p,by simpa using b,c⟩
        let us:Nat→Value:=fun j=>(cur[i * esz+j]?).getD undef
        let vs:=(List.range ti.size).map fun j=>us (off+j)
        have hvl:vs.length=ti.size:=by simp [vs]
        have hrun:=Qp (w:=w) hT ht g (i * esz+off) vs hvl (fun j hj=>by
          have hj0:j < ti.size:=by rw [← hvl]; exact hj
          obtain ⟨u,hu,_⟩:=hex (off+j) (by omega)
          rw [hcell,Nat.add_assoc,hu]
          simp [vs,us,hu])
        refine ⟨_,adF hrun,aez hx (RelL.aaO (by rw [hvl,hrl]) (fun j hj hj'=>?_))⟩
        have hj0:j < ti.size:=by rw [← hvl]; exact hj
        obtain ⟨u,hu,p,hp,hrep⟩:=hex (off+j) (by omega)
        have e1:vs[j]=u:=by simp [vs,us,hu]
        have e2:r'[j]=p:=by
          obtain ⟨hlt,e⟩:=List.getElem?_eq_some_iff.1 hp
          subst hr'
          simp [List.getElem_take,List.getElem_drop,e]
        rw [e1,e2]; exact hrep
      · cases h
    · -- a slice's literal of pointers
      rename_i cells z hl
      obtain ⟨r,hr,hx⟩:=Option.bind_eq_some_iff.1 h
      obtain ⟨hle,hr',hrl⟩:=aes hr
      obtain ⟨g,c,vs,e,k1,k2,k3,k4,k5,k6,k7⟩:=hI.blk id _ hl
      cases hv with
      | eptr hp=>
      rename_i g' c'
      have hg:(g',c')=(g,c):=k2 _ _ _ hp
      have hg1:g'=g:=congrArg Prod.fst hg
      subst hg1
      have hcell:∀ j,w.cell? ⟨g',j,none⟩=vs[j]?:=fun j=>by rw [cell_of_row w g' j _ e (0,0) k3]; simp
      have hrun:=Qp (w:=w) hT ht g' (i * esz+off) ((vs.drop (i * esz+off)).take ti.size) (by have:=k4.1; simp; omega) (fun j hj=>by
        rw [hcell]
        have:i * esz+off+j < vs.length:=by simp at hj; omega
        simp [List.getElem_take,List.getElem_drop,this])
      refine ⟨_,adF hrun,?_⟩
      refine aez (cs:=r) hx ?_
      rw [hr']
      exact (k4.drop (i * esz+off)).take ti.size
    · cases h
  · cases h
end Go.Ab
