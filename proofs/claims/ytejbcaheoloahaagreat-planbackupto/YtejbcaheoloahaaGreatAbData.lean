import Derived.Test.YtejbcaheoloahaaGreatAbE
import GoSem.ClaimChange
set_option linter.unusedVariables false
set_option linter.unusedSimpArgs false
namespace Go.Ab
open Go
mutual
def PV.bulk:PV→Nat
  | .str s=>s.size+1
  | .ptr cells _=>PV.bulkL cells+1
  | .sl rows=>PV.bulkLL rows+1
  | _=>1
def PV.bulkL:List PV→Nat
  | []=>0
  | p :: r=>PV.bulk p+PV.bulkL r
def PV.bulkLL:List (List PV)→Nat
  | []=>0
  | p :: r=>PV.bulkL p+PV.bulkLL r
end
theorem acj:∀ (a b:List PV),PV.bulkL (a++b)=PV.bulkL a+PV.bulkL b
  | [],b=>by simp [PV.bulkL]
  | p :: a,b=>by simp only [List.cons_append,PV.bulkL,acj a b]; omega
def HasT (P:Program):Nat→Nat→List PV→Prop
  | 0,_,_=>False
  | n+1,t,ps=>
    match P.underlying t with
    | some .bool=>∃ b,ps=[.bool b]
    | some (.int k)=>∃ i,ps=[.int k i]∧(Lit.int k i).wf=true
    | some (.float k)=>∃ b,ps=[.flt k b]∧(Lit.float k b).wf=true
    | some .string=>∃ s,ps=[.str s]∧s.size≤maxLen
    | some (.pointer e)=>ps=[.nilp]∨∃ cs,ps=[.ptr cs 0]∧cs.length=P.cellsOf e∧HasT P n e cs
    | some (.slice e)=>ps=[.nils]∨∃ rows,ps=[.sl rows]∧rows.length≤maxLen∧∀ r,r∈rows→r.length=P.cellsOf e∧HasT P n e r
    | some (.struct fs)=>ps.length=P.cellsOf t∧∀ f,f∈fs.toList→HasT P n f.type ((ps.drop f.offset).take (P.cellsOf f.type))
    | some (.array k e)=>ps.length=P.cellsOf t∧∀ i,i < k→HasT P n e ((ps.drop (i * P.cellsOf e)).take (P.cellsOf e))
    | _=>False
def ahR (P:Program):Nat→List (Nat × Nat)→Nat→Bool
  | i,[],n=>i == n
  | i,f :: r,n=>f.1 == i && ahR P (i+P.cellsOf f.2) r n
def akJ (P:Program) (S:List Nat):Bool:=S.all fun t=>
  match P.underlying t with
  | some .bool | some (.int _) | some (.float _) | some .string=>true
  | some (.pointer e)=>decide (0 < P.cellsOf e) && S.contains e
  | some (.slice e)=>decide (0 < P.cellsOf e) && S.contains e
  | some (.struct fs)=>ahR P 0 (fs.toList.map fun f=>(f.offset,f.type)) (P.cellsOf t) && fs.toList.all fun f=>S.contains f.type
  | some (.array k e)=>P.cellsOf t == k * P.cellsOf e && S.contains e
  | _=>false
structure Bulk {H:Type} (U:DataW H→Nat) (UA:List (DataW H)→Nat):Prop where
  str:∀ b,U (.lit (.string b))=b.length+1
  lit:∀ l,1≤U (.lit l)
  nil:U .nil=1
  ptr:∀ d,U (.ptr d)=U d+1
  slice:∀ a b,U (.slice a b)=UA a+UA b+1
  agg:∀ a,U (.agg a)=UA a+1
  nil':UA []=0
  cons:∀ d r,UA (d :: r)=U d+UA r
theorem aeq {α β:Type} {f:α→Option β}:∀ {l:List α} {r:List β},l.mapM f=some r→r.length=l.length∧∀ (i:Nat) (h:i < l.length) (h':i < r.length),f l[i]=some r[i]
  | [],r,h=>by
    simp only [List.mapM_nil,Option.pure_def,Option.some.injEq] at h
    subst h
    exact ⟨rfl,fun i h=>by simp at h⟩
  | a :: l,r,h=>by
    rw [List.mapM_cons] at h
    simp only [Option.bind_eq_bind,Option.pure_def] at h
    obtain ⟨b,hb,h⟩:=Option.bind_eq_some_iff.1 h
    obtain ⟨bs,hbs,h⟩:=Option.bind_eq_some_iff.1 h
    injection h with h
    subst h
    obtain ⟨e,k⟩:=aeq hbs
    refine ⟨by simp [e],fun i hi hi'=>?_⟩
    cases i with
    | zero=>exact hb
    | succ i=>exact k i (by simpa using hi) (by simpa using hi')
def allF (w:World):Froz:=fun g o=>∃ v,w.cell? ⟨g,o,none⟩=some v
theorem ae8 {w:World} {base:Nat} {a:Addr} {n:Nat} {cs:List Value} (h:w.cells? base a n=some cs):cs.length=n∧∀ i (h:i < cs.length),w.cell? (a.add i)=some cs[i]:=by
  unfold World.cells? at h
  split at h
  rotate_left
  · cases h
  obtain ⟨e,k⟩:=aeq h
  simp only [List.length_range] at e
  exact ⟨e,fun i hi=>by have:=k i (by simpa [e] using hi) hi; simpa using this⟩
theorem ape {w:World} {a:Addr} {v:Value} (h:w.cell? a=some v):a.spot=none:=by
  unfold World.cell? at h
  split at h
  · split at h
    · cases h
    · rename_i hs; simpa using hs
  · cases h
theorem amY {w:World} {a:Addr} {v:Value} (h:w.cell? a=some v):a=⟨a.block,a.off,none⟩:=by
  have:=ape h
  cases a; simp_all
section
variable {H:Type} {enc:TypeId × Value→H} {P:Program} {w:World} {base:Nat} {spare:Nat→Bool} {held:Bool} {U:DataW H→Nat} {UA:List (DataW H)→Nat}
def Reads (P:Program) (w:World) (U:DataW H→Nat) (n t:Nat) (cs:List Value) (d:DataW H):Prop:=
  ∃ qs:List PV,qs.length=cs.length∧(∀ j (h:j < cs.length) (h':j < qs.length),Rep w (allF w) cs[j] qs[j])∧HasT P n t qs∧PV.bulkL qs≤U d
theorem aki {n t:Nat} (hU:Bulk U UA):∀ (css:List (List Value)) (ds:List (DataW H)),css.length=ds.length→(∀ i (h:i < css.length) (h':i < ds.length),Reads P w U n t css[i] ds[i])→
    ∃ rows:List (List PV),rows.length=css.length∧(∀ i (h:i < css.length) (h':i < rows.length),rows[i].length=css[i].length∧(∀ j (a:j < css[i].length) (b:j < rows[i].length),Rep w (allF w) css[i][j] rows[i][j])∧HasT P n t rows[i])∧PV.bulkLL rows≤UA ds
  | [],ds,h,_=>⟨[],rfl,fun i h=>by simp at h,by simp [PV.bulkLL]⟩
  | cs :: css,[],h,_=>by simp at h
  | cs :: css,d :: ds,h,hr=>by
    obtain ⟨rows,h1,h2,h3⟩:=aki hU css ds (by simpa using h) fun i hi hi'=>by
      have:=hr (i+1) (by simpa using hi) (by simpa using hi')
      simpa using this
    obtain ⟨qs,k1,k2,k3,k4⟩:=hr 0 (by simp) (by simp)
    refine ⟨qs :: rows,by simp [h1],fun i hi hi'=>?_,?_⟩
    · cases i with
      | zero=>exact ⟨k1,k2,k3⟩
      | succ i=>exact h2 i (by simpa using hi) (by simpa using hi')
    · simp only [PV.bulkLL,hU.cons]
      simp only [List.getElem_cons_zero] at k4
      omega
theorem aeA {n:Nat} (hU:Bulk U UA) (cs:List Value):∀ (fs:List (Nat × Nat)) (ds:List (DataW H)) (i:Nat),ahR P i fs cs.length=true→fs.length=ds.length→
    (∀ j (h:j < fs.length) (h':j < ds.length),Reads P w U n fs[j].2 ((cs.drop fs[j].1).take (P.cellsOf fs[j].2)) ds[j])→
    ∃ qs:List PV,qs.length=cs.length - i∧i≤cs.length∧(∀ j (h:i+j < cs.length) (h':j < qs.length),Rep w (allF w) cs[i+j] qs[j])∧
      (∀ f,f∈fs→i≤f.1∧f.1+P.cellsOf f.2≤cs.length∧HasT P n f.2 ((qs.drop (f.1 - i)).take (P.cellsOf f.2)))∧PV.bulkL qs≤UA ds
  | [],ds,i,hl,he,hr=>by
    simp only [ahR,beq_iff_eq] at hl
    subst hl
    exact ⟨[],by simp,by omega,fun j h h'=>by simp at h',fun f hf=>by simp at hf,by simp [PV.bulkL]⟩
  | f :: fs,[],i,hl,he,hr=>by simp at he
  | (o,t) :: fs,d :: ds,i,hl,he,hr=>by
    simp only [ahR,Bool.and_eq_true,beq_iff_eq] at hl
    obtain ⟨rfl,hl⟩:=hl
    obtain ⟨qs,h1,h2,h3,h4,h5⟩:=aeA hU cs fs ds (o+P.cellsOf t) hl (by simpa using he) (fun j hj hj'=>by
      have:=hr (j+1) (by simpa using hj) (by simpa using hj'); simpa using this)
    obtain ⟨ps,k1,k2,k3,k4⟩:=hr 0 (by simp) (by simp)
    simp only [List.getElem_cons_zero] at k1 k2 k3 k4
    have k1:ps.length=P.cellsOf t:=by rw [k1,List.length_take,List.length_drop]; omega
    refine ⟨ps++qs,by simp [k1,h1]; omega,by omega,fun j hj hj'=>?_,fun g hg=>?_,?_⟩
    · by_cases hlt:j < ps.length
      · rw [List.getElem_append_left hlt]
        have hlen:j < ((cs.drop o).take (P.cellsOf t)).length:=by rw [List.length_take,List.length_drop]; omega
        have:=k2 j hlen hlt
        rw [List.getElem_take,List.getElem_drop] at this
        exact this
      · rw [List.getElem_append_right (by omega)]
        have:=h3 (j - ps.length) (by omega) (by simp at hj'; omega)
        have e:o+P.cellsOf t+(j - ps.length)=o+j:=by omega
        simp only [e] at this
        exact this
    · rcases List.mem_cons.1 hg with rfl | hg
      · refine ⟨Nat.le_refl _,h2,?_⟩
        simp only
        rw [Nat.sub_self,List.drop_zero,List.take_append_of_le_length (by omega),List.take_of_length_le (by omega)]
        exact k3
      · obtain ⟨a1,a2,a3⟩:=h4 g hg
        refine ⟨by omega,a2,?_⟩
        rw [List.drop_append,List.drop_eq_nil_of_le (by omega),List.nil_append]
        have e:g.1 - o - ps.length=g.1 - (o+P.cellsOf t):=by omega
        rw [e]; exact a3
    · rw [acj,hU.cons]; omega
theorem amm (S:List Nat) (hS:akJ P S=true) (hU:Bulk U UA):∀ (fuel t:Nat) (cs:List Value) (d:DataW H) (ps:List MemPlace),t∈S→
    DataW.trod enc P w base spare held fuel t cs=some (d,ps)→Reads P w U fuel t cs d:=by
  intro fuel
  induction fuel with
  | zero=>intro t cs d ps _ h; simp [DataW.trod] at h
  | succ n ih=>
    intro t cs d ps ht h
    have hp:=List.all_eq_true.1 hS t ht
    have one:∀ {v:Value} {q:PV},cs=[v]→Rep w (allF w) v q→HasT P (n+1) t [q]→PV.bulk q≤U d→Reads P w U (n+1) t cs d:=fun {v q} hcs hr hh hb=>by
      subst hcs
      refine ⟨[q],rfl,fun j hj hj'=>?_,hh,by simpa [PV.bulkL] using hb⟩
      have:j=0:=by simpa using hj
      subst this
      exact hr
    unfold DataW.trod at h
    split at h
    · -- bool
      rename_i b hu
      injection h with h; injection h with h1 h2; subst h1
      exact one rfl (.bool b) (by simp only [HasT,hu]; exact ⟨b,rfl⟩) (by have:=hU.lit (.bool b); simpa [PV.bulk] using this)
    · rename_i k k' i hu
      split at h
      rotate_left
      · cases h
      rename_i hc
      obtain ⟨rfl,hw⟩:=hc
      injection h with h; injection h with h1 h2; subst h1
      exact one rfl (.int _ i) (by simp only [HasT,hu]; exact ⟨i,rfl,hw⟩) (by have:=hU.lit (.int k' i); simpa [PV.bulk] using this)
    · rename_i k k' i hu
      split at h
      rotate_left
      · cases h
      rename_i hc
      obtain ⟨rfl,hw⟩:=hc
      injection h with h; injection h with h1 h2; subst h1
      exact one rfl (.flt _ i) (by simp only [HasT,hu]; exact ⟨i,rfl,hw⟩) (by have:=hU.lit (.float k' i); simpa [PV.bulk] using this)
    · rename_i s hu
      split at h
      rotate_left
      · cases h
      rename_i hc
      injection h with h; injection h with h1 h2; subst h1
      exact one rfl (.str s) (by simp only [HasT,hu]; exact ⟨s,rfl,hc⟩) (by rw [hU.str]; simp [PV.bulk])
    · rename_i e hu
      injection h with h; injection h with h1 h2; subst h1
      exact one rfl .nilp (by simp [HasT,hu]) (by rw [hU.nil]; simp [PV.bulk])
    · rename_i e a hu
      rw [Option.map_eq_some_iff] at h
      obtain ⟨⟨d',ps'⟩,h,hx⟩:=h
      obtain ⟨cs',hcs',h⟩:=Option.bind_eq_some_iff.1 h
      injection hx with h1 h2
      subst h1
      simp only [hu,Bool.and_eq_true,decide_eq_true_eq,List.contains_eq_mem] at hp
      obtain ⟨hl,hg⟩:=ae8 hcs'
      obtain ⟨qs,k1,k2,k3,k4⟩:=ih e cs' d' ps' hp.2 h
      have h0:0 < cs'.length:=by omega
      have ha:a=⟨a.block,a.off,none⟩:=amY (by have:=hg 0 h0; simpa [Addr.add] using this)
      have hcell:∀ j (hj:j < cs'.length),w.cell? ⟨a.block,a.off+j,none⟩=some cs'[j]:=fun j hj=>by
        have:=hg j hj
        rw [ha,Qd] at this
        exact this
      refine one rfl (q:=.ptr qs 0) ?_ (by simp only [HasT,hu]; exact .inr ⟨qs,rfl,by omega,k3⟩) (by rw [hU.ptr]; simp only [PV.bulk]; omega)
      rw [ha]
      have:=Rep.ptr (w:=w) (F:=allF w) a.block a.off 0 qs (fun j=>(cs'[j]?).getD undef) (fun j hj=>by rw [hcell j (by omega)]; simp [show j < cs'.length by omega])
        (fun j hj=>⟨_,hcell j (by omega)⟩) (fun j hj=>by
          have:=k2 j (by omega) hj
          simpa [show j < cs'.length by omega] using this)
      exact this
    · rename_i e hu
      injection h with h; injection h with h1 h2; subst h1
      exact one rfl .nils (by simp [HasT,hu]) (by rw [hU.nil]; simp [PV.bulk])
    · rename_i e a len cap hu
      simp only at h
      split at h
      rotate_left
      · cases h
      rename_i hc
      obtain ⟨elems,hel,h⟩:=Option.bind_eq_some_iff.1 h
      rw [Option.map_eq_some_iff] at h
      obtain ⟨rest,_,hx⟩:=h
      injection hx with h1 h2
      subst h1
      simp only [hu,Bool.and_eq_true,decide_eq_true_eq,List.contains_eq_mem] at hp
      obtain ⟨hlen,hget⟩:=aeq hel
      simp only [List.length_range] at hlen
      have hrow:∀ i (hi:i < elems.length),∃ cs',w.cells? base (a.add (i * P.cellsOf e)) (P.cellsOf e)=some cs'∧DataW.trod enc P w base spare held n e cs'=some elems[i]:=fun i hi=>by
        have:=hget i (by simpa using (by omega:i < len)) hi
        simp only [List.getElem_range] at this
        exact Option.bind_eq_some_iff.1 this
      let css:List (List Value):=(List.range elems.length).map fun i=>(w.cells? base (a.add (i * P.cellsOf e)) (P.cellsOf e)).getD []
      have hcss:∀ i (hi:i < elems.length) (hi':i < css.length),w.cells? base (a.add (i * P.cellsOf e)) (P.cellsOf e)=some css[i]∧DataW.trod enc P w base spare held n e css[i]=some elems[i]:=fun i hi hi'=>by
        obtain ⟨cs',e1,e2⟩:=hrow i hi
        have:css[i]=cs':=by simp [css,e1]
        rw [this]; exact ⟨e1,e2⟩
      have hcl:css.length=elems.length:=by simp [css]
      obtain ⟨rows,r1,r2,r3⟩:=aki (P:=P) (w:=w) (n:=n) (t:=e) hU css (elems.map (·.1)) (by simp [css]) (fun i hi hi'=>by
        obtain ⟨e1,e2⟩:=hcss i (by omega) hi
        have:=ih e css[i] (elems[i]'(by omega)).1 (elems[i]'(by omega)).2 hp.2 e2
        simpa using this)
      have hrl:∀ i (hi:i < css.length),css[i].length=P.cellsOf e:=fun i hi=>(ae8 (hcss i (by omega) hi).1).1
      have hb:PV.bulk (.sl rows)≤U (.slice (elems.map (·.1)) (rest.map (·.1))):=by rw [hU.slice]; simp only [PV.bulk]; omega
      have hh:HasT P (n+1) t [.sl rows]:=by
        simp only [HasT,hu]
        refine .inr ⟨rows,rfl,by omega,fun r hr=>?_⟩
        obtain ⟨i,hi,rfl⟩:=List.getElem_of_mem hr
        obtain ⟨a1,_,a3⟩:=r2 i (by omega) hi
        exact ⟨by rw [a1]; exact hrl i (by omega),a3⟩
      rcases Nat.eq_zero_or_pos len with h0 | h0
      · have:rows=[]:=List.eq_nil_of_length_eq_zero (by omega)
        subst this
        subst h0
        exact one rfl (.sl0 _ _) hh hb
      · have hc0:=hcss 0 (by omega) (by omega)
        have hsp:a=⟨a.block,a.off,none⟩:=amY (by
          have:=(ae8 hc0.1).2 0 (by rw [hrl 0 (by omega)]; exact hp.1)
          simpa [Addr.add] using this)
        have hcell:∀ i (hi:i < css.length) j (hj:j < css[i].length),w.cell? ⟨a.block,a.off+i * P.cellsOf e+j,none⟩=some css[i][j]:=fun i hi j hj=>by
          have:=(ae8 (hcss i (by omega) hi).1).2 j hj
          rw [hsp,Qd,Qd] at this
          exact this
        have hlr:len=rows.length:=by omega
        subst hlr
        refine one rfl (q:=.sl rows) ?_ hh hb
        rw [hsp]
        exact Rep.sl (w:=w) (F:=allF w) a.block a.off (P.cellsOf e) cap rows (fun i j=>((css[i]?).bind (·[j]?)).getD undef) hc.2.1
          (fun i hi=>by rw [(r2 i (by omega) hi).1]; exact hrl i (by omega))
          (fun i hi j hj=>by
            have hi':i < css.length:=by omega
            have hj':j < css[i].length:=by rw [hrl i hi']; exact hj
            rw [hcell i hi' j hj']; simp [hi',hj'])
          (fun i hi j hj=>⟨_,hcell i (by omega) j (by rw [hrl i (by omega)]; exact hj)⟩)
          (fun i hi j hj=>by
            have hi':i < css.length:=by omega
            obtain ⟨a1,a2,_⟩:=r2 i hi' hi
            have hj':j < css[i].length:=by omega
            have:=a2 j hj' hj
            simpa [hi',hj'] using this)
    · rename_i cs _ _ fs hu
      split at h
      rotate_left
      · cases h
      rename_i hc
      rw [Option.map_eq_some_iff] at h
      obtain ⟨xs,hxs,hx⟩:=h
      injection hx with h1 h2
      subst h1
      simp only [hu,Bool.and_eq_true,List.all_eq_true,List.contains_eq_mem,decide_eq_true_eq] at hp
      obtain ⟨hlen,hget⟩:=aeq hxs
      obtain ⟨qs,q1,q2,q3,q4,q5⟩:=aeA (P:=P) (w:=w) (n:=n) hU cs (fs.toList.map fun f=>(f.offset,f.type)) (xs.map (·.1)) 0 (by rw [hc]; exact hp.1) (by simp [hlen]) (fun j hj hj'=>by
        have hj1:j < fs.toList.length:=by simpa using hj
        have:=hget j hj1 (by omega)
        have:=ih _ _ (xs[j]'(by omega)).1 (xs[j]'(by omega)).2 (hp.2 _ (List.getElem_mem hj1)) this
        simpa using this)
      refine ⟨qs,by omega,fun j hj hj'=>by have:=q3 j (by omega) hj'; simpa using this,?_,by rw [hU.agg]; omega⟩
      simp only [HasT,hu]
      refine ⟨by omega,fun f hf=>?_⟩
      have:=(q4 (f.offset,f.type) (List.mem_map.2 ⟨f,hf,rfl⟩)).2.2
      simpa using this
    · rename_i cs _ _ k e hu
      split at h
      rotate_left
      · cases h
      rename_i hc
      rw [Option.map_eq_some_iff] at h
      obtain ⟨xs,hxs,hx⟩:=h
      injection hx with h1 h2
      subst h1
      simp only [hu,Bool.and_eq_true,beq_iff_eq,List.contains_eq_mem,decide_eq_true_eq] at hp
      obtain ⟨hlen,hget⟩:=aeq hxs
      simp only [List.length_range] at hlen
      have hlaid:∀ m i,i+m=k→ahR P (i * P.cellsOf e) ((List.range' i m).map fun j=>(j * P.cellsOf e,e)) cs.length=true:=by
        intro m
        induction m with
        | zero=>intro i hi; simp only [List.range',List.map_nil,ahR,beq_iff_eq]; rw [hc,hp.1]; congr 1
        | succ m ihm=>
          intro i hi
          simp only [List.range',List.map_cons,ahR,Bool.and_eq_true,beq_self_eq_true,true_and]
          have:=ihm (i+1) (by omega)
          rw [Nat.succ_mul] at this
          exact this
      obtain ⟨qs,q1,q2,q3,q4,q5⟩:=aeA (P:=P) (w:=w) (n:=n) hU cs ((List.range' 0 k).map fun j=>(j * P.cellsOf e,e)) (xs.map (·.1)) 0 (by have:=hlaid k 0 (by omega); simpa using this) (by simp [hlen]) (fun j hj hj'=>by
        have hj1:j < k:=by simpa using hj
        have:=hget j (by simpa using hj1) (by omega)
        have:=ih _ _ (xs[j]'(by omega)).1 (xs[j]'(by omega)).2 hp.2 this
        simpa using this)
      refine ⟨qs,by omega,fun j hj hj'=>by have:=q3 j (by omega) hj'; simpa using this,?_,by rw [hU.agg]; omega⟩
      simp only [HasT,hu]
      refine ⟨by omega,fun i hi=>?_⟩
      have:=(q4 (i * P.cellsOf e,e) (List.mem_map.2 ⟨i,by simp [hi],rfl⟩)).2.2
      simpa using this
    all_goals first
      | (exfalso; simp_all; done)
      | (cases h; done)
end
end Go.Ab
