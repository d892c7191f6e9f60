import Derived.Test.YtejbcaheoloahaaGreatAbRen
set_option linter.unusedVariables false
set_option linter.unusedSimpArgs false
namespace Go.Ab
open Go
variable {P:Program} {T:Nat→Option TI} {w w':World} {F:Froz} {Pr:Nat→Prop} {m m':Mu} {look:Look} {nid:Nat}
def amo (w:World) (F:Froz) (m:Mu):Out→Ending→Prop
  | .ret v,e=>∃ u,e=.returned u∧RelV w F m u v
  | .pan v,e=>∃ u,e=.panicked [{ v:=u,recovered:=false }]∧RelV w F m u v
def acM (P:Program) (C:ZH):Prop:=∀ f args H o H',C f args H=some (o,H')→∀ (w:World) (F:Froz) (Pr:Nat→Prop) (m:Mu) (vs:List Value),
  Inv w F Pr m (zp H)→(∀ i,H.length≤i→∀ γ h,m i γ h=none)→RelL w F m vs args→
  Calls P f vs.toArray w fun e w'=>∃ F' m',Ext w F Pr w' F'∧(∀ i,i < H.length→∀ γ h x,m i γ h=some x→m' i γ h=some x)∧
    Inv w' F' Pr m' (zp H')∧(∀ i,H'.length≤i→∀ γ h,m' i γ h=none)∧H.length≤H'.length∧amo w' F' m' o e
theorem QO {H:List Blk} {i:Nat} {b:Blk} (h:zp H i=some b):∃ hi:i < H.length,H[i]=b:=List.getElem?_eq_some_iff.1 h
theorem adP {n0:Nat} {us:List Value} {vs vs':List AV} {H H':List Blk} (hI:Inv w F Pr m (zp H)) (hm:∀ i,H.length≤i→∀ γ h,m i γ h=none) (hr:RelL w F m us vs) (hn0:n0≤H.length)
    (h:adG n0 vs H=some (vs',H')):∃ m',RelL w F m' us vs'∧Inv w F Pr m' (zp H')∧(∀ i,i < n0→∀ γ h,m' i γ h=m i γ h)∧(∀ i,H'.length≤i→∀ γ h,m' i γ h=none)∧n0≤H'.length:=by
  unfold adG at h
  split at h
  · injection h with h
    injection h with h1 h2
    subst h1; subst h2
    exact ⟨m,hr,hI,fun _ _ _ _=>rfl,hm,hn0⟩
  · rename_i hne
    simp only at h
    obtain ⟨vs1,hvs,h⟩:=Option.bind_eq_some_iff.1 h
    obtain ⟨bs,hbs,h⟩:=Option.bind_eq_some_iff.1 h
    rw [Option.map_eq_some_iff] at h
    obtain ⟨bs',hbs',h⟩:=h
    injection h with h1 h2
    subst h1; subst h2
    obtain ⟨⟨l,hl⟩,hnd⟩:=aaZ (zp H) Zl (AV.idsL vs++(H.take n0).flatMap Blk.ids) (List.range n0) List.nodup_range
    generalize reach (zp H) Zl (AV.idsL vs++(H.take n0).flatMap Blk.ids) (List.range n0)=order at hl hnd hvs hbs hbs'
    let m':Mu:=fun j γ h=>match order[j]? with
      | some i=>m i γ h
      | none=>none
    have hren:ai2 (placeOf order) m m':=fun i j hij γ h x hx=>by
      have:=acg hij
      simp only [m',this]; exact hx
    obtain ⟨g1,g2⟩:=afT hbs
    obtain ⟨r1,r2⟩:=abO hbs'
    have hblk:∀ j (hj:j < bs'.length),∃ (ho:j < order.length) (hb:j < bs.length),zp H order[j]=some bs[j]∧bs[j].ren (placeOf order)=some bs'[j]:=fun j hj=>
      ⟨by omega,by omega,g2 j (by omega) (by omega),r2 j (by omega) hj⟩
    have hmj:∀ j (hj:j < order.length) γ h,m' j γ h=m order[j] γ h:=fun j hj γ h=>by simp only [m',List.getElem?_eq_getElem hj]
    have hm0:∀ j,order.length≤j→∀ γ h,m' j γ h=none:=fun j hj γ h=>by simp only [m',List.getElem?_eq_none hj]
    refine ⟨m',hr.ren hren hvs,⟨fun id b hl'=>?_,fun i j b1 b2 h1 h2 hne' γ1 k1 γ2 k2 g c1 c2 e1 e2=>?_,hI.szF,hI.szP,fun i b γ k g c hl' e=>?_⟩,fun i hi γ h=>?_,fun i hi γ h=>?_,?_⟩
    · obtain ⟨hi,rfl⟩:=QO hl'
      obtain ⟨ho,hb,q1,q2⟩:=hblk id hi
      have hb0:=hI.blk _ _ q1
      exact hb0.ren q2 hren (hmj id ho) (fun γ h g c hx=>hb0.notPr hx)
    · obtain ⟨hi,rfl⟩:=QO h1
      obtain ⟨hj,rfl⟩:=QO h2
      obtain ⟨oi,bi,p1,p2⟩:=hblk i hi
      obtain ⟨oj,bj,q1,q2⟩:=hblk j hj
      rw [hmj i oi] at e1
      rw [hmj j oj] at e2
      exact hI.apart order[i] order[j] _ _ p1 q1 (fun e=>hne' ((List.getElem_inj hnd).1 e)) γ1 k1 γ2 k2 g c1 c2 e1 e2
    · obtain ⟨hi,rfl⟩:=QO hl'
      obtain ⟨oi,bi,p1,p2⟩:=hblk i hi
      rw [hmj i oi] at e
      exact hI.sz _ _ γ k g c p1 e
    · have ho:order[i]?=some i:=by rw [hl,List.getElem?_append_left (by simpa using hi)]; simp [hi]
      simp only [m',ho]
    · exact hm0 i (by omega) γ h
    · have:n0≤order.length:=by rw [hl]; simp
      omega
theorem abx {look:Look} {nid i:Nat} {e:Eff} (h:nid≤i∧i < nid+e.new.length):ZF look nid e i=e.new[i - nid]?:=by
  unfold ZF; rw [if_pos h]
theorem QQ {look:Look} {nid i:Nat} {e:Eff} (h:¬ (nid≤i∧i < nid+e.new.length)):ZF look nid e i=match e.upd.reverse.find? (·.1 == i) with
    | some p=>some p.2
    | none=>look i:=by
  unfold ZF; rw [if_neg h]; rfl
theorem Q7 {l:List (Nat × Blk)} {i:Nat} (h:∀ p,p∈l→p.1≠i):l.reverse.find? (·.1 == i)=none:=by
  rw [List.find?_eq_none]
  intro p hp
  simpa using h p (List.mem_reverse.1 hp)
theorem aeO {l:List (Nat × Blk)} {i:Nat} {b:Blk} (h1:(i,b)∈l) (h2:∀ p,p∈l→p.1=i→p.2=b):l.reverse.find? (·.1 == i)=some (i,b):=by
  cases hf:l.reverse.find? (·.1 == i) with
  | none=>
    rw [List.find?_eq_none] at hf
    have:=hf (i,b) (List.mem_reverse.2 h1)
    simp at this
  | some p=>
    have e1:p.1=i:=by have:=List.find?_some hf; simpa using this
    have e2:=h2 p (List.mem_reverse.1 (List.mem_of_find?_eq_some hf)) e1
    obtain ⟨a,b'⟩:=p
    simp only at e1 e2
    subst e1; subst e2; rfl
theorem ZM {look:Look}:∀ {R:List Nat} {p:Nat × Blk},p∈Zk look R→p.1∈R∧∃ b,look p.1=some b∧p.2=b.freeze
  | [],p,h=>by simp [Zk] at h
  | i :: R,p,h=>by
    simp only [Zk] at h
    split at h
    · rename_i b hb
      rcases List.mem_cons.1 h with rfl | h
      · exact ⟨by simp,b,hb,rfl⟩
      · obtain ⟨a,b⟩:=ZM h
        exact ⟨by simp [a],b⟩
    · obtain ⟨a,b⟩:=ZM h
      exact ⟨by simp [a],b⟩
theorem abl {look:Look}:∀ {R:List Nat} {i:Nat} {b:Blk},i∈R→look i=some b→(i,b.freeze)∈Zk look R
  | [],_,_,h,_=>by simp at h
  | j :: R,i,b,h,hb=>by
    simp only [Zk]
    rcases List.mem_cons.1 h with rfl | h
    · rw [hb]; simp
    · have:=abl h hb
      split <;> simp [this]
theorem afR:∀ {R:List Nat} {bs:List Blk} {p:Nat × Blk},p∈aap R bs→∃ (j:Nat) (h:j < R.length) (h':j < bs.length),p=(R[j],bs[j])
  | [],_,p,h=>by simp [aap] at h
  | _ :: _,[],p,h=>by simp [aap] at h
  | i :: R,b :: bs,p,h=>by
    simp only [aap] at h
    rcases List.mem_cons.1 h with rfl | h
    · exact ⟨0,by simp,by simp,rfl⟩
    · obtain ⟨j,a,b,e⟩:=afR h
      exact ⟨j+1,by simpa using a,by simpa using b,by simpa using e⟩
theorem ahd:∀ {R:List Nat} {bs:List Blk} (j:Nat) (h:j < R.length) (h':j < bs.length),(R[j],bs[j])∈aap R bs
  | [],_,j,h,_=>by simp at h
  | _ :: _,[],j,_,h=>by simp at h
  | i :: R,b :: bs,j,h,h'=>by
    simp only [aap]
    cases j with
    | zero=>simp
    | succ j=>simp [ahd j (by simpa using h) (by simpa using h')]
theorem alI {v:Value} {x:AV} (hx:x.flat=true) (h:RelV w F m v x) (w2:World) (F2:Froz) (m2:Mu):RelV w2 F2 m2 v x:=by
  have f0:∀ {v:Value} {p:PV},p.flat=true→Rep w F v p→Rep w2 F2 v p:=fun hp h=>by
    cases h <;> first | (simp [PV.flat] at hp; done) | (constructor; done) | (rename_i t v p hv; refine .ifc _ _ _ ?_; cases p <;> first | (simp [PV.flat] at hp; done) | (cases hv; exact .int _ _))
  have f1:∀ {v:Value} {x:AV},x.flat1=true→RelV w F m v x→RelV w2 F2 m2 v x:=fun hx h=>by
    cases h <;> first | (simp [AV.flat1] at hx; done) | (rename_i hp; exact .pv (f0 (by simpa [AV.flat1] using hx) hp))
  have f2:∀ {v:Value} {x:AV},x.flat2=true→RelV w F m v x→RelV w2 F2 m2 v x:=fun {v x} hx h=>by
    by_cases hag:∃ cs,x=.agg cs
    · obtain ⟨cs,rfl⟩:=hag
      cases h with
      | agg vs _ hl hr=>
      simp only [AV.flat2] at hx
      exact .agg vs cs hl (fun j a b=>f1 (List.all_eq_true.1 hx _ (List.getElem_mem b)) (hr j a b))
    · exact f1 (by unfold AV.flat2 at hx; split at hx; · rename_i cs; exact absurd ⟨cs,rfl⟩ hag
                   · exact hx) h
  by_cases htu:∃ vs,x=.tup vs
  · obtain ⟨vs,rfl⟩:=htu
    cases h with
    | tup us _ hl hr=>
    simp only [AV.flat] at hx
    exact .tup us vs hl (fun j a b=>f2 (List.all_eq_true.1 hx _ (List.getElem_mem b)) (hr j a b))
  · exact f2 (by unfold AV.flat at hx; split at hx; · rename_i vs; exact absurd ⟨vs,rfl⟩ htu
                 · exact hx) h
def amu (w:World) (F:Froz) (Pr:Nat→Prop) (m:Mu) (look:Look) (nid:Nat) (w':World):Res→Ending→Prop
  | .ok e,x=>∃ u,x=.returned u∧Post w F Pr m look nid e u w'
  | .pan e,x=>∃ u,x=.panicked [{ v:=u,recovered:=false }]∧Post w F Pr m look nid e u w'
def Res.new:Res→Nat
  | .ok e=>e.new.length
  | .pan e=>e.new.length
theorem acB {t len:Nat} {ps:List (Nat × AV)} {e:Eff} (h:aaC T nid t len ps=some e):e.upd=[]∧∃ b,e.new=[b]:=by
  unfold aaC at h
  split at h
  · split at h
    · split at h
      · cases h
      · obtain ⟨_,_,h⟩:=Option.bind_eq_some_iff.1 h
        split at h
        · injection h with h; subst h; exact ⟨rfl,_,rfl⟩
        · injection h with h; subst h; exact ⟨rfl,_,rfl⟩
    · cases h
  · cases h
theorem ajs {t len:Nat} {is:List Nat} {vs:List AV} {e:Eff} (h:Qw T nid t len is vs look=some e):e.new.length=1:=by
  unfold Qw at h
  obtain ⟨ps,_,h⟩:=Option.bind_eq_some_iff.1 h
  rw [Option.map_eq_some_iff] at h
  obtain ⟨e1,h1,rfl⟩:=h
  obtain ⟨_,b,hb⟩:=acB h1
  simp only [hb,List.length_singleton]
theorem Inv.freeze (hI:Inv w F Pr m look) (R:List Nat):
    Inv w (fun g o=>F g o∨cellsOf w m (fun i=>if R.contains i then look i else none) g o) Pr m (fun i=>if i∈R then (look i).map Blk.freeze else look i):=by
  let lk:Look:=fun i=>if R.contains i then look i else none
  have hlk:∀ id b,lk id=some b→id∈R∧look id=some b:=fun id b hl=>by
    simp only [lk] at hl
    split at hl
    · rename_i hc; exact ⟨by simpa using hc,hl⟩
    · cases hl
  have hcell:∀ g o,cellsOf w m lk g o→∃ v,w.cell? ⟨g,o,none⟩=some v:=fun g o hc=>by
    obtain ⟨id,b,γ,h,c,_,_,hb⟩:=hc
    cases b with
    | box _ _=>exact hb
    | row _ _ _=>exact hb.2
    | _=>exact hb.elim
  have hcl:∀ g o,cellsOf w m lk g o→∀ id b γ h c,look id=some b→m id γ h=some (g,c)→id∈R∧match b with
      | .box _ _=>True
      | .row _ esz r=>o < r.rows.length * esz
      | _=>False:=fun g o hco id b γ h c hl hx=>by
    obtain ⟨id',b',γ',h',c',hl',hx',hb'⟩:=hco
    obtain ⟨hRm,hl''⟩:=hlk _ _ hl'
    by_cases he:id'=id
    · subst he
      rw [hl] at hl''
      injection hl'' with hl''
      subst hl''
      refine ⟨hRm,?_⟩
      cases b with
      | box _ _=>trivial
      | row _ _ _=>exact hb'.1
      | _=>exact hb'.elim
    · exact (hI.apart id' id b' b hl'' hl he γ' h' γ h g c' c hx' hx).elim
  have hold:∀ i b,(if i∈R then (look i).map Blk.freeze else look i)=some b→∃ b0,look i=some b0∧((i∈R∧b=b0.freeze)∨(i ∉ R∧b=b0)):=fun i b hl=>by
    split at hl
    · rename_i hiR
      rw [Option.map_eq_some_iff] at hl
      obtain ⟨b0,hb0,rfl⟩:=hl
      exact ⟨b0,hb0,.inl ⟨hiR,rfl⟩⟩
    · rename_i hiR
      exact ⟨b,hl,.inr ⟨hiR,rfl⟩⟩
  refine ⟨fun id b hl=>?_,fun i j b1 b2 h1 h2 hne γ1 k1 γ2 k2 g c1 c2 e1 e2=>?_,fun g o hF=>hF.elim (hI.szF g o) (hcell g o),hI.szP,fun i b γ h g c hl e=>?_⟩
  · obtain ⟨b0,hb0,hcase⟩:=hold id b hl
    have hbk:=hI.blk _ _ hb0
    cases b0 with
    | dead=>exact hbk.elim
    | map mk me ents=>
      obtain ⟨g,c,es,clock,k1,k2,k3,k4,k5⟩:=hbk
      have hb':b=.map mk me ents:=by
        rcases hcase with ⟨_,rfl⟩ | ⟨_,rfl⟩ <;> rfl
      subst hb'
      exact ⟨g,c,es,clock,k1,k2,k3,k4.keep (fun _ _ _=>rfl) (fun g o h=>.inl h),k5⟩
    | box cells z=>
      obtain ⟨g,c,us,el,k1,k2,k3,k4,k5,k6,k7⟩:=hbk
      have hrel':=k4.keep (w':=w) (F':=fun g o=>F g o∨cellsOf w m lk g o) (m':=m) (fun _ _ _=>rfl) (fun g o h=>.inl h) (qi.refl m)
      rcases hcase with ⟨hiR,rfl⟩ | ⟨hiR,rfl⟩
      · exact ⟨g,c,us,el,k1,k2,k3,hrel',k5,(fun h=>by cases h),fun _ o ho=>.inr ⟨id,.box cells z,0,0,c,by simp [hiR,hb0],k1,by
          rw [cell_of_row w g o _ el (0,0) k3]; simp [ho]⟩⟩
      · refine ⟨g,c,us,el,k1,k2,k3,hrel',k5,fun hz o hF=>?_,fun hz o ho=>.inl (k7 hz o ho)⟩
        rcases hF with h | h
        · exact k6 hz o h
        · exact hiR (hcl g o h id _ 0 0 c hb0 k1).1
    | row el esz r=>
      obtain ⟨k0,k1,k2⟩:=hbk
      have hgen:∀ r':Row,r'.rows=r.rows→r'.gen=r.gen→r'.floor=r.floor→r'.stable=r.stable→r'.frz≤r.rows.length→r.frz≤r'.frz→(id∈R→r.rows.length≤r'.frz)→
          ab1 w (fun g o=>F g o∨cellsOf w m lk g o) Pr m id (.row el esz r'):=by
        intro r' q1 q2 q3 q4 q5 q6 q7
        refine ⟨⟨k0.1,by rw [q4,q1]; exact k0.2.1,by rw [q1]; exact q5⟩,by rw [q1]; exact k1,fun γ h g c hx=>?_⟩
        obtain ⟨p1,p2,p3,p4⟩:=k2 γ h g c hx
        refine ⟨p1,fun o ho hF=>?_,by rw [q1,q2]; exact p3,fun hv=>?_⟩
        · have hle:r.frz * esz≤r'.frz * esz:=Nat.mul_le_mul_right _ q6
          rcases hF with h | h
          · exact p2 o (by omega) h
          · obtain ⟨hiR,hlt⟩:=hcl g o h id _ _ _ c hb0 hx
            simp only at hlt
            have:r.rows.length * esz≤r'.frz * esz:=Nat.mul_le_mul_right _ (q7 hiR)
            omega
        · have hv':r.valid γ h=true:=by simpa [Row.valid,q1,q2,q3,q4] using hv
          obtain ⟨l1,l2,cur,l3,l4,l5⟩:=p4 hv'
          refine ⟨l1,l2,cur,l3,l4,fun i hi j hj=>?_⟩
          obtain ⟨u,p,a,b,c⟩:=l5 i hi j hj
          exact ⟨u,p,a,by rw [q1]; exact b,c.keep (fun _ _ _=>rfl) (fun g o h=>.inl h)⟩
      rcases hcase with ⟨hiR,rfl⟩ | ⟨hiR,rfl⟩
      · exact hgen _ rfl rfl rfl rfl (by simp only; omega) (by simp only; omega) (fun _=>by simp only; omega)
      · exact hgen r rfl rfl rfl rfl k0.2.2 (Nat.le_refl _) (fun h=>absurd h hiR)
  · obtain ⟨b0,hb0,_⟩:=hold i b1 h1
    obtain ⟨b0',hb0',_⟩:=hold j b2 h2
    exact hI.apart i j _ _ hb0 hb0' hne γ1 k1 γ2 k2 g c1 c2 e1 e2
  · obtain ⟨b0,hb0,_⟩:=hold i b hl
    exact hI.sz i _ _ _ g c hb0 e
theorem akG {t len:Nat} {parts:Array (Nat × Value)} {is:List Nat} {vs:List AV} {e:Eff} (hT:TOk P T) (hI:Inv w F Pr m look) (hf:∀ γ h,m nid γ h=none) (hRlt:∀ i,i∈reach look Zl (AV.idsL vs) []→i < nid)
    (hi:parts.toList.map (·.1)=is) (hr:RelL w F m (parts.toList.map (·.2)) vs) (h:Qw T nid t len is vs look=some e):
    ∃ v w',(Instr.buildSlice t len parts).run P w=.ok v w'∧Post w F Pr m look nid e v w':=by
  unfold Qw at h
  simp only at h
  obtain ⟨⟨l0,hR0⟩,hnd⟩:=aaZ look Zl (AV.idsL vs) [] List.nodup_nil
  generalize reach look Zl (AV.idsL vs) []=R at hR0 hnd h hRlt
  obtain ⟨ps,hps,h⟩:=Option.bind_eq_some_iff.1 h
  rw [Option.map_eq_some_iff] at h
  obtain ⟨e1,he1,rfl⟩:=h
  have hIc:=hI.freeze R
  have hlk:∀ id b,(if R.contains id then look id else none)=some b→look id=some b:=fun id b hl=>by
    split at hl
    · exact hl
    · cases hl
  have hrel:=af6 (m':=m) hI hlk (F':=fun g o=>F g o∨cellsOf w m (fun i=>if R.contains i then look i else none) g o) (fun g o h=>.inl h) (fun g o h=>.inr h) hr hps
  have hlen:is.length=ps.length:=by rw [← hi,List.length_map,← hrel.1,List.length_map]
  obtain ⟨hu,b,hn⟩:=acB he1
  have hpl:parts.toList.length=is.length:=by rw [← hi]; simp
  obtain ⟨v,w',hrun,F',m',x1,x2,x3,x4,x5⟩:=afE (parts:=parts) (aparts:=is.zip ps) hT hIc hf (by simp [hlen]; have:=hrel.1; simp at this; omega) (fun j h h'=>by
    have hj:j < is.length:=by simp at h'; omega
    have hj2:j < ps.length:=by omega
    have k1:=hrel.2 j (by simp; simpa using h) hj2
    refine ⟨?_,?_⟩
    · subst hi; simp
    · simpa using k1) he1
  have hcell:∀ g o,cellsOf w m (fun i=>if R.contains i then look i else none) g o→¬ Pr g:=fun g o hc=>by
    obtain ⟨id,b,γ,h,c,hl,hx,_⟩:=hc
    exact (hI.blk id b (hlk _ _ hl)).notPr hx
  refine ⟨v,w',hrun,F',m',⟨x1.os,x1.tape,x1.output,x1.size,fun g o h=>x1.fz g o (.inl h),x1.pr,fun g o h=>x1.mono g o (.inl h),fun g o hF=>?_⟩,x2,x3,?_,fun i hi' hout γ h=>?_⟩
  · rcases x1.new g o hF with (h | h) | h
    · exact .inl h
    · exact .inr (hcell g o h)
    · exact .inr h
  · have:ZF look nid ⟨e1.val,Zk look R,e1.new⟩=ZF (fun i=>if i∈R then (look i).map Blk.freeze else look i) nid e1:=by
      funext i
      by_cases hin:nid≤i∧i < nid+e1.new.length
      · rw [abx (e:=⟨e1.val,Zk look R,e1.new⟩) hin,abx hin]
      · rw [QQ (e:=⟨e1.val,Zk look R,e1.new⟩) hin,QQ hin,hu]
        simp only [List.reverse_nil,List.find?_nil]
        by_cases hiR:i∈R
        · rw [if_pos hiR]
          cases hli:look i with
          | none=>
            rw [Q7 (fun p hp e=>by
              obtain ⟨_,b,hb,_⟩:=ZM hp
              rw [e,hli] at hb; cases hb)]
            simp
          | some b=>
            rw [aeO (abl hiR hli) (fun p hp e=>by
              obtain ⟨_,b',hb',e'⟩:=ZM hp
              rw [e,hli] at hb'; injection hb' with hb'; subst hb'; exact e')]
            simp
        · rw [if_neg hiR,Q7 (fun p hp e=>hiR (by obtain ⟨a,_⟩:=ZM hp; rw [← e]; exact a))]
    rw [this]
    exact x4
  · exact x5 i (by rw [hu]; simp) hout γ h
theorem adO {T:Nat→Option TI} {look look':Look} (t:Nat) (x v:AV) (h:∀ i∈qB x,look i=look' i):abw T t x v look=abw T t x v look':=by
  cases x with
  | pv p=>cases p <;> rfl
  | ref i g h' e o n=>simp only [abw,h i (List.mem_singleton.2 rfl)]
  | ptr i o=>simp only [abw,h i (List.mem_singleton.2 rfl)]
  | eptr i g h' e o n=>simp only [abw,h i (List.mem_singleton.2 rfl)]
  | _=>rfl
theorem anP {t:Nat} {pv xv:Value} {p x:AV} {e:Eff} (hT:TOk P T) (hI:Inv w F Pr m look) (hp:RelV w F m pv p) (hx:RelV w F m xv x)
    (h:ae3 T t p x look=some e):∃ w',(Instr.storeAt t pv xv).run P w=.ok () w'∧Post w F Pr m look nid e undef w':=by
  unfold ae3 at h
  simp only at h
  generalize reach look Zl (AV.idsL [x]) []=R at h
  split at h
  · cases h
  rename_i hdis
  obtain ⟨x',hx',h⟩:=Option.bind_eq_some_iff.1 h
  rw [Option.map_eq_some_iff] at h
  obtain ⟨e1,he1,rfl⟩:=h
  have hIc:=hI.freeze R
  have hlk:∀ id b,(if R.contains id then look id else none)=some b→look id=some b:=fun id b hl=>by
    split at hl
    · exact hl
    · cases hl
  have hrel:=aid (m':=m) hI hlk (F':=fun g o=>F g o∨cellsOf w m (fun i=>if R.contains i then look i else none) g o) (fun g o h=>.inl h) (fun g o h=>.inr h) hx hx'
  have hpc:=hp.keep (w':=w) (F':=fun g o=>F g o∨cellsOf w m (fun i=>if R.contains i then look i else none) g o) (m':=m) (fun _ _ _=>rfl) (fun g o h=>.inl h) (qi.refl m)
  have he1':abw T t p x' (fun i=>if i∈R then (look i).map Blk.freeze else look i)=some e1:=by
    rw [← he1]
    refine adO t p x' fun i hi=>?_
    have:i ∉ R:=fun hR=>hdis (by rw [List.any_eq_true]; exact ⟨i,hi,by simpa using hR⟩)
    rw [if_neg this]
  obtain ⟨w',hrun,F',m',x1,x2,x3,x4,x5⟩:=alB (nid:=nid) hT hIc hpc hrel he1'
  have hcell:∀ g o,cellsOf w m (fun i=>if R.contains i then look i else none) g o→¬ Pr g:=fun g o hc=>by
    obtain ⟨id,b,γ,h,c,hl,hx,_⟩:=hc
    exact (hI.blk id b (hlk _ _ hl)).notPr hx
  refine ⟨w',hrun,F',m',⟨x1.os,x1.tape,x1.output,x1.size,fun g o h=>x1.fz g o (.inl h),x1.pr,fun g o h=>x1.mono g o (.inl h),fun g o hF=>?_⟩,x2,x3,?_,fun i hi' hout γ h=>?_⟩
  · rcases x1.new g o hF with (h | h) | h
    · exact .inl h
    · exact .inr (hcell g o h)
    · exact .inr h
  · have:ZF look nid ⟨e1.val,Zk look R++e1.upd,e1.new⟩=ZF (fun i=>if i∈R then (look i).map Blk.freeze else look i) nid e1:=by
      funext i
      by_cases hin:nid≤i∧i < nid+e1.new.length
      · rw [abx (e:=⟨e1.val,Zk look R++e1.upd,e1.new⟩) hin,abx hin]
      · rw [QQ (e:=⟨e1.val,Zk look R++e1.upd,e1.new⟩) hin,QQ hin]
        simp only [List.reverse_append,List.find?_append]
        cases e1.upd.reverse.find? (·.1 == i) with
        | some q=>rfl
        | none=>
          simp only [Option.none_or]
          by_cases hiR:i∈R
          · rw [if_pos hiR]
            cases hli:look i with
            | none=>
              rw [Q7 (fun p hp e=>by
                obtain ⟨_,b,hb,_⟩:=ZM hp
                rw [e,hli] at hb; cases hb)]
              simp
            | some b=>
              rw [aeO (abl hiR hli) (fun p hp e=>by
                obtain ⟨_,b',hb',e'⟩:=ZM hp
                rw [e,hli] at hb'; injection hb' with hb'; subst hb'; exact e')]
              simp
          · rw [if_neg hiR,Q7 (fun p hp e=>hiR (by obtain ⟨a,_⟩:=ZM hp; rw [← e]; exact a))]
    rw [this]
    exact x4
  · exact x5 i (fun q hq=>hi' q (List.mem_append_right _ hq)) hout γ h
theorem alh {t n e:Nat} {pv:Value} {x:AV} {ef:Eff} (hT:TOk P T) (hu:P.underlying t=some (.array n e)) (hI:Inv w F Pr m look)
    (hRlt:∀ i,i∈(match x with | .ptr id _=>reach look Zl [id] [] | _=>[])→i < nid)
    (hv:RelV w F m pv x) (h:acs T n e x look=some ef):
    ∃ v,(Instr.sliceAt t pv none none none).run P w=.ok v w∧Post w F Pr m look nid ef v w:=by
  unfold acs at h
  split at h
  rotate_left
  · cases h
  rename_i ei id off he
  simp only at h hRlt
  generalize reach look Zl [id] []=R at h hRlt
  split at h
  rotate_left
  · cases h
  rename_i cells o hpu
  split at h
  rotate_left
  · cases h
  rename_i hb
  injection h with h
  subst h
  have hIc:=hI.freeze R
  have hlk:∀ id b,(if R.contains id then look id else none)=some b→look id=some b:=fun id b hl=>by
    split at hl
    · exact hl
    · cases hl
  have hrel:=aid (m':=m) hI hlk (F':=fun g o=>F g o∨cellsOf w m (fun i=>if R.contains i then look i else none) g o) (fun g o h=>.inl h) (fun g o h=>.inr h) hv hpu
  have hcell:∀ g o,cellsOf w m (fun i=>if R.contains i then look i else none) g o→¬ Pr g:=fun g o hc=>by
    obtain ⟨id,b,γ,h,c,hl,hx,_⟩:=hc
    exact (hI.blk id b (hlk _ _ hl)).notPr hx
  cases hrel with
  | pv hp=>
  obtain ⟨g,a,us,rfl,h1,h2,h3⟩:=ac3 hp
  have hlen:n * ei.size≤(cells.drop o).length:=by rw [List.length_drop]; omega
  have hcl:(chunk ei.size n (cells.drop o)).length=n:=abj _ _ _
  have pos:∀ i,i < n→∀ j,j < ei.size→o+(i * ei.size+j) < cells.length:=fun i hi j hj=>by
    have:(i+1) * ei.size≤n * ei.size:=Nat.mul_le_mul_right _ hi
    rw [Nat.succ_mul] at this
    omega
  refine ⟨.slice (some ⟨g,a+o,none⟩) n n,?_,(fun g o=>F g o∨cellsOf w m (fun i=>if R.contains i then look i else none) g o),m,⟨rfl,rfl,rfl,Nat.le_refl _,fun _ _ _=>rfl,fun _ _=>rfl,fun _ _ h=>.inl h,fun g o hF=>?_⟩,qi.refl m,?_,?_,fun _ _ _ _ _=>rfl⟩
  · have hn0:n≠0:=by omega
    simp [Instr.sliceAt,Instr.sliceBounds,Instr.sureAddr,run_underlying hu,run_sizeOf hT he,hn0,Qd]
  · rcases hF with h | h
    · exact .inl h
    · exact .inr (hcell g o h)
  · have:=Rep.sl (w:=w) (F:=fun g o=>F g o∨cellsOf w m (fun i=>if R.contains i then look i else none) g o) g (a+o) ei.size n (chunk ei.size n (cells.drop o)) (fun i j=>us (o+(i * ei.size+j)))
      (by rw [hcl]; exact Nat.le_refl _) (fun i hi=>afk _ _ _ hlen _ (List.getElem_mem hi))
      (fun i hi j hj=>by rw [hcl] at hi; have:=h1 _ (pos i hi j hj); rw [← this]; congr 2; omega)
      (fun i hi j hj=>by rw [hcl] at hi; have:=h2 _ (pos i hi j hj); rw [show a+o+i * ei.size+j=a+(o+(i * ei.size+j)) by omega]; exact this)
      (fun i hi j hj=>by
        have hi':=hi
        rw [hcl] at hi'
        have hj':j < ei.size:=by rw [afk _ _ _ hlen _ (List.getElem_mem hi)] at hj; exact hj
        have hg:=agY ei.size n (cells.drop o) i j hi' hj'
        rw [List.getElem?_eq_getElem hi,Option.bind_some,List.getElem?_eq_getElem hj,List.getElem?_drop,List.getElem?_eq_getElem (pos i hi' j hj')] at hg
        rw [Option.some.inj hg]
        exact h3 _ (pos i hi' j hj'))
    rw [hcl] at this
    exact .pv this
  · have:ZF look nid ⟨.pv (.sl (chunk ei.size n (cells.drop o))),Zk look R,[]⟩=fun i=>if i∈R then (look i).map Blk.freeze else look i:=by
      funext i
      rw [QQ (e:=⟨_,Zk look R,[]⟩) (by simp)]
      by_cases hiR:i∈R
      · rw [if_pos hiR]
        cases hli:look i with
        | none=>
          rw [Q7 (fun p hp e=>by
            obtain ⟨_,b,hb,_⟩:=ZM hp
            rw [e,hli] at hb; cases hb)]
          simp
        | some b=>
          rw [aeO (abl hiR hli) (fun p hp e=>by
            obtain ⟨_,b',hb',e'⟩:=ZM hp
            rw [e,hli] at hb'; injection hb' with hb'; subst hb'; exact e')]
          simp
      · rw [if_neg hiR,Q7 (fun p hp e=>hiR (by obtain ⟨a,_⟩:=ZM hp; rw [← e]; exact a))]
    rw [this]
    exact hIc
theorem alu {C:ZH} {f:Nat} {args:List AV} {vs:List Value} {r:Res} (hC:acM P C) (hI:Inv w F Pr m look) (hr:RelL w F m vs args)
    (hf:∀ i,nid≤i→i < nid+r.new→∀ γ h,m i γ h=none) (h:qz C f args look nid=some r):
    Calls P f vs.toArray w fun e w'=>amu w F Pr m look nid w' r e:=by
  unfold qz at h
  simp only at h
  obtain ⟨⟨l0,hR0⟩,hnd⟩:=aaZ look Zl (AV.idsL args) [] List.nodup_nil
  generalize reach look Zl (AV.idsL args) []=R at hR0 hnd h
  obtain ⟨ps,hps,h⟩:=Option.bind_eq_some_iff.1 h
  let lk:Look:=fun i=>if R.contains i then look i else none
  have hlk:∀ id b,lk id=some b→id∈R∧look id=some b:=fun id b hl=>by
    simp only [lk] at hl
    split at hl
    · rename_i hc; exact ⟨by simpa using hc,hl⟩
    · cases hl
  let Fc:Froz:=fun g o=>F g o∨cellsOf w m lk g o
  let Prc:Nat→Prop:=fun g=>g < w.heap.size
  have hcell:∀ g o,cellsOf w m lk g o→∃ v,w.cell? ⟨g,o,none⟩=some v:=fun g o hc=>by
    obtain ⟨id,b,γ,h,c,_,_,hb⟩:=hc
    cases b with
    | box _ _=>exact hb
    | row _ _ _=>exact hb.2
    | _=>exact hb.elim
  have hIc:Inv w Fc Prc (fun _ _ _=>none) (zp []):=⟨fun id b hl=>by simp [zp] at hl,fun id id' b b' hl=>by simp [zp] at hl,
    fun g o hF=>hF.elim (hI.szF g o) (hcell g o),fun g hg=>hg,fun id b γ h g c hl=>by simp [zp] at hl⟩
  have hrel:RelL w Fc (fun _ _ _=>none) vs ps:=af6 hI (fun id b hl=>(hlk id b hl).2) (fun g o h=>.inl h) (fun g o h=>.inr h) _ hr hps
  cases hc:C f ps [] with
  | none=>rw [hc] at h; cases h
  | some ob=>
  obtain ⟨o,bs⟩:=ob
  rw [hc] at h
  refine (hC f ps [] o bs hc w Fc Prc _ vs hIc (fun _ _ _ _=>rfl) hrel).mono fun e w' he=>?_
  obtain ⟨F',m',hext,_,hI',hm0,_,hout⟩:=he
  have hsz:=hext.size
  have hold:∀ g,g < w.heap.size→w'.heap[g]?=w.heap[g]?:=fun g hg=>hext.pr g hg
  have hFcell:∀ g o,F g o→w'.cell? ⟨g,o,none⟩=w.cell? ⟨g,o,none⟩:=fun g o hF=>ZR (hold g (hI.ltF hF))
  cases o with
  | ret v=>
    simp only at h
    obtain ⟨u,rfl,hu⟩:=hout
    split at h
    · rename_i hflat
      simp only [Bool.and_eq_true] at hflat
      injection h with h
      subst h
      exact ⟨u,rfl,Post.wide (F':=F) hI hsz hold hext.os hext.tape hext.output (fun _ _ h=>h) (fun _ _ h=>.inl h) (alI hflat.1 hu w' F m)⟩
    · obtain ⟨v',hv',h⟩:=Option.bind_eq_some_iff.1 h
      rw [Option.map_eq_some_iff] at h
      obtain ⟨bs',hbs',rfl⟩:=h
      simp only [Res.new] at hf
      obtain ⟨r1,r2⟩:=abO hbs'
      let m'':Mu:=fun i γ h=>if nid≤i∧i < nid+bs'.length then m' (i - nid) γ h else m i γ h
      have hmext:qi m m'':=fun i γ h x hx=>by
        simp only [m'']
        split
        · rename_i hin; rw [hf i hin.1 hin.2] at hx; cases hx
        · exact hx
      have hren:ai2 (fun i=>some (nid+i)) m' m'':=fun i i' hi γ h x hx=>by
        simp only [Option.some.injEq] at hi
        subst hi
        have hlt:i < bs'.length:=by
          rcases Nat.lt_or_ge i bs'.length with h1 | h1
          · exact h1
          · rw [hm0 i (by omega)] at hx; cases hx
        simp only [m'',Nat.add_sub_cancel_left]
        rw [if_pos (by omega)]; exact hx
      have hFlow:∀ g o,F' g o→g < w.heap.size→F g o∨cellsOf w m lk g o:=fun g o hF hg=>(hext.new g o hF).elim (fun h=>h) (fun hn=>absurd hg hn)
      have hcl:∀ g o,cellsOf w m lk g o→∀ id b γ h c,look id=some b→m id γ h=some (g,c)→id∈R∧match b with
          | .box _ _=>True
          | .row _ esz r=>o < r.rows.length * esz
          | _=>False:=fun g o hco id b γ h c hl hx=>by
        obtain ⟨id',b',γ',h',c',hl',hx',hb'⟩:=hco
        obtain ⟨hRm,hl''⟩:=hlk _ _ hl'
        by_cases he:id'=id
        · subst he
          rw [hl] at hl''
          injection hl'' with hl''
          subst hl''
          refine ⟨hRm,?_⟩
          cases b with
          | box _ _=>trivial
          | row _ _ _=>exact hb'.1
          | _=>exact hb'.elim
        · exact (hI.apart id' id b' b hl'' hl he γ' h' γ h g c' c hx' hx).elim
      have hlook:∀ i,¬ (nid≤i∧i < nid+bs'.length)→ZF look nid ⟨v',Zk look R,bs'⟩ i=if i∈R then (look i).map Blk.freeze else look i:=fun i hi=>by
        rw [QQ hi]
        by_cases hiR:i∈R
        · rw [if_pos hiR]
          cases hli:look i with
          | none=>
            rw [Q7 (fun p hp e=>by
              obtain ⟨_,b,hb,_⟩:=ZM hp
              rw [e,hli] at hb; cases hb)]
            simp
          | some b=>
            rw [aeO (abl hiR hli) (fun p hp e=>by
              obtain ⟨_,b',hb',e'⟩:=ZM hp
              rw [e,hli] at hb'; injection hb' with hb'; subst hb'; exact e')]
            simp
        · rw [if_neg hiR,Q7 (fun p hp e=>hiR (by obtain ⟨a,_⟩:=ZM hp; rw [← e]; exact a))]
      have hmm:∀ i,¬ (nid≤i∧i < nid+bs'.length)→∀ γ h,m'' i γ h=m i γ h:=fun i hi γ h=>by simp only [m'']; rw [if_neg hi]
      have hmn:∀ i,(nid≤i∧i < nid+bs'.length)→∀ γ h,m'' i γ h=m' (i - nid) γ h:=fun i hi γ h=>by simp only [m'']; rw [if_pos hi]
      have hnewb:∀ i b,(nid≤i∧i < nid+bs'.length)→ZF look nid ⟨v',Zk look R,bs'⟩ i=some b→∃ b0,zp bs (i - nid)=some b0∧b0.ren (fun i=>some (nid+i))=some b:=fun i b hi hl=>by
        rw [abx hi] at hl
        obtain ⟨hj,rfl⟩:=List.getElem?_eq_some_iff.1 hl
        exact ⟨bs[i - nid]'(by omega),by simp [zp,show i - nid < bs.length by omega],r2 _ (by omega) hj⟩
      have holdb:∀ i b,¬ (nid≤i∧i < nid+bs'.length)→ZF look nid ⟨v',Zk look R,bs'⟩ i=some b→∃ b0,look i=some b0∧(b=b0∨(i∈R∧b=b0.freeze))∧(i∈R→b=b0.freeze):=fun i b hi hl=>by
        rw [hlook i hi] at hl
        split at hl
        · rename_i hiR
          rw [Option.map_eq_some_iff] at hl
          obtain ⟨b0,hb0,rfl⟩:=hl
          exact ⟨b0,hb0,.inr ⟨hiR,rfl⟩,fun _=>rfl⟩
        · rename_i hiR
          exact ⟨b,hl,.inl rfl,fun h=>absurd h hiR⟩
      refine ⟨u,rfl,F',m'',⟨hext.os,hext.tape,hext.output,hsz,hFcell,fun g hg=>hold g (hI.szP g hg),fun g o h=>hext.mono g o (.inl h),fun g o hF=>?_⟩,hmext,hu.ren hren hv',?_,fun i hi hout γ h=>?_⟩
      · rcases hext.new g o hF with (h | h) | h
        · exact .inl h
        · obtain ⟨id,b,γ,hh,c,hl,hx,_⟩:=h
          exact .inr ((hI.blk id b (hlk _ _ hl).2).notPr hx)
        · exact .inr (fun hp=>h (hI.szP g hp))
      · refine ⟨fun id b hl=>?_,fun i j b1 b2 h1 h2 hne γ1 k1 γ2 k2 g c1 c2 e1 e2=>?_,hI'.szF,fun g hg=>Nat.lt_of_lt_of_le (hI.szP g hg) hsz,fun i b γ h g c hl e=>?_⟩
        · by_cases hin:nid≤id∧id < nid+bs'.length
          · obtain ⟨b0,hb0,hren0⟩:=hnewb id b hin hl
            have hbk:=hI'.blk _ _ hb0
            refine hbk.ren hren0 hren (fun γ h=>hmn id hin γ h) (fun γ h g c hx hp=>?_)
            exact hbk.notPr hx (hI.szP g hp)
          · obtain ⟨b0,hb0,hcase,hfz⟩:=holdb id b hin hl
            have hbk:=hI.blk _ _ hb0
            cases b0 with
            | dead=>exact hbk.elim
            | map mk me ents=>
              obtain ⟨g,c,es,clock,k1,k2,k3,k4,k5⟩:=hbk
              have hg:=hI.sz id _ _ _ g c hb0 k1
              have hb':b=.map mk me ents:=by
                rcases hcase with rfl | ⟨_,rfl⟩ <;> rfl
              subst hb'
              exact ⟨g,c,es,clock,hmext _ _ _ _ k1,fun γ h x hx=>k2 γ h x (by rwa [hmm id hin] at hx),(hold g hg).trans k3,k4.keep hFcell (fun g o h=>hext.mono g o (.inl h)),k5⟩
            | box cells z=>
              obtain ⟨g,c,us,el,k1,k2,k3,k4,k5,k6,k7⟩:=hbk
              have hg:=hI.sz id _ _ _ g c hb0 k1
              have hrel':RelL w' F' m'' us cells:=k4.keep hFcell (fun g o h=>hext.mono g o (.inl h)) hmext
              have hfr:id∈R→∀ o,o < us.length→F' g o:=fun hiR o ho=>hext.mono g o (.inr ⟨id,.box cells z,0,0,c,by simp [lk,hiR,hb0],k1,by
                rw [cell_of_row w g o _ el (0,0) k3]; simp [ho]⟩)
              rcases hcase with rfl | ⟨hiR,rfl⟩
              · by_cases hiR:id∈R
                · have:=hfz hiR
                  simp only [Blk.freeze,Blk.box.injEq,true_and] at this
                  subst this
                  exact ⟨g,c,us,el,hmext _ _ _ _ k1,fun γ h x hx=>k2 γ h x (by rwa [hmm id hin] at hx),(hold g hg).trans k3,hrel',k5,(fun h=>by cases h),fun _=>hfr hiR⟩
                · refine ⟨g,c,us,el,hmext _ _ _ _ k1,fun γ h x hx=>k2 γ h x (by rwa [hmm id hin] at hx),(hold g hg).trans k3,hrel',k5,fun hz o hF=>?_,fun hz o ho=>hext.mono g o (.inl (k7 hz o ho))⟩
                  rcases hFlow g o hF hg with h | h
                  · exact k6 hz o h
                  · exact hiR (hcl g o h id _ 0 0 c hb0 k1).1
              · exact ⟨g,c,us,el,hmext _ _ _ _ k1,fun γ h x hx=>k2 γ h x (by rwa [hmm id hin] at hx),(hold g hg).trans k3,hrel',k5,(fun h=>by cases h),fun _=>hfr hiR⟩
            | row el esz r=>
              obtain ⟨k0,k1,k2⟩:=hbk
              -- of whatever frozen part
              have hgen:∀ r':Row,r'.rows=r.rows→r'.gen=r.gen→r'.floor=r.floor→r'.stable=r.stable→r'.frz≤r.rows.length→r.frz≤r'.frz→(id∈R→r.rows.length≤r'.frz)→ab1 w' F' Pr m'' id (.row el esz r'):=by
                intro r' q1 q2 q3 q4 q5 q6 q7
                refine ⟨⟨k0.1,by rw [q4,q1]; exact k0.2.1,by rw [q1]; exact q5⟩,by rw [q1]; exact k1,fun γ h g c hx=>?_⟩
                rw [hmm id hin] at hx
                have hg:=hI.sz id _ _ _ g c hb0 hx
                obtain ⟨p1,p2,p3,p4⟩:=k2 γ h g c hx
                refine ⟨p1,fun o ho hF=>?_,by rw [q1,q2]; exact p3,fun hv=>?_⟩
                · have hle:r.frz * esz≤r'.frz * esz:=Nat.mul_le_mul_right _ q6
                  rcases hFlow g o hF hg with h | h
                  · exact p2 o (by omega) h
                  · obtain ⟨hiR,hlt⟩:=hcl g o h id _ _ _ c hb0 hx
                    simp only at hlt
                    have:r.rows.length * esz≤r'.frz * esz:=Nat.mul_le_mul_right _ (q7 hiR)
                    omega
                · have hv':r.valid γ h=true:=by simpa [Row.valid,q1,q2,q3,q4] using hv
                  obtain ⟨l1,l2,cur,l3,l4,l5⟩:=p4 hv'
                  refine ⟨l1,l2,cur,(hold g hg).trans l3,l4,fun i hi j hj=>?_⟩
                  obtain ⟨u,p,a,b,c⟩:=l5 i hi j hj
                  exact ⟨u,p,a,by rw [q1]; exact b,c.keep hFcell (fun g o h=>hext.mono g o (.inl h))⟩
              rcases hcase with rfl | ⟨hiR,rfl⟩
              · refine hgen r rfl rfl rfl rfl k0.2.2 (Nat.le_refl _) (fun hiR=>?_)
                have:=hfz hiR
                simp only [Blk.freeze,Blk.row.injEq,true_and] at this
                have:=congrArg Row.frz this
                simp only at this
                omega
              · exact hgen _ rfl rfl rfl rfl (by simp only; omega) (by simp only; omega) (fun _=>by simp only; omega)
        · by_cases hi:nid≤i∧i < nid+bs'.length
          · obtain ⟨b0,hb0,_⟩:=hnewb i b1 hi h1
            rw [hmn i hi] at e1
            by_cases hj:nid≤j∧j < nid+bs'.length
            · obtain ⟨b0',hb0',_⟩:=hnewb j b2 hj h2
              rw [hmn j hj] at e2
              exact hI'.apart (i - nid) (j - nid) _ _ hb0 hb0' (by omega) γ1 k1 γ2 k2 g c1 c2 e1 e2
            · obtain ⟨b0',hb0',_⟩:=holdb j b2 hj h2
              rw [hmm j hj] at e2
              exact (hI'.blk _ _ hb0).notPr e1 (hI.sz j _ _ _ g c2 hb0' e2)
          · obtain ⟨b0,hb0,_⟩:=holdb i b1 hi h1
            rw [hmm i hi] at e1
            by_cases hj:nid≤j∧j < nid+bs'.length
            · obtain ⟨b0',hb0',_⟩:=hnewb j b2 hj h2
              rw [hmn j hj] at e2
              exact (hI'.blk _ _ hb0').notPr e2 (hI.sz i _ _ _ g c1 hb0 e1)
            · obtain ⟨b0',hb0',_⟩:=holdb j b2 hj h2
              rw [hmm j hj] at e2
              exact hI.apart i j _ _ hb0 hb0' hne γ1 k1 γ2 k2 g c1 c2 e1 e2
        · by_cases hi:nid≤i∧i < nid+bs'.length
          · obtain ⟨b0,hb0,_⟩:=hnewb i b hi hl
            rw [hmn i hi] at e
            exact hI'.sz _ _ _ _ g c hb0 e
          · obtain ⟨b0,hb0,_⟩:=holdb i b hi hl
            rw [hmm i hi] at e
            have:=hI.sz i _ _ _ g c hb0 e; omega
      · exact hmm i (by simp only at hout; omega) γ h
  | pan v=>
    simp only at h
    obtain ⟨u,rfl,hu⟩:=hout
    split at h
    · rename_i hflat
      simp only [Bool.and_eq_true] at hflat
      injection h with h
      subst h
      exact ⟨u,rfl,Post.wide (F':=F) hI hsz hold hext.os hext.tape hext.output (fun _ _ h=>h) (fun _ _ h=>.inl h) (alI hflat.1 hu w' F m)⟩
    · cases h
end Go.Ab
