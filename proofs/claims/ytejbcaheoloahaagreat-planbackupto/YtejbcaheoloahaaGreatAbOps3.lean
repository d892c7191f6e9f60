import Derived.Test.YtejbcaheoloahaaGreatAbOps2
set_option linter.unusedVariables false
set_option linter.unusedSimpArgs false
namespace Go.Ab
open Go
variable {P:Program} {T:Nat→Option TI} {w w':World} {F:Froz} {Pr:Nat→Prop} {m:Mu} {look:Look} {nid:Nat}
theorem aiu {v:Value} {x:AV} {cs:List AV} (hv:RelV w F m v x) (h:x.cells=some cs):
    RelL w F m v.cells.toList cs∧∀ u,u∈v.cells.toList→u.oneCell'=true:=by
  have single:∀ {v:Value} {x:AV},RelV w F m v x→x.one=true→cs=[x]→RelL w F m v.cells.toList cs∧∀ u,u∈v.cells.toList→u.oneCell'=true:=by
    intro v x hv h1 he
    have ho:=hv.one h1
    rw [afF ho]
    subst he
    exact ⟨RelL.cons hv RelL.nil,fun u hu=>by simp at hu; subst hu; exact ho⟩
  unfold AV.cells at h
  split at h
  · rename_i cs'
    split at h
    · rename_i hall
      injection h with h
      subst h
      cases hv with
      | agg vs cs hl hr=>
        refine ⟨⟨by simpa [Value.cells] using hl,fun j a b=>?_⟩,fun u hu=>?_⟩
        · simp only [Value.cells] at a ⊢
          exact hr j (by simpa using a) b
        · simp only [Value.cells] at hu
          obtain ⟨j,hj,rfl⟩:=List.getElem_of_mem hu
          have hj':j < cs'.length:=by rw [← hl]; simpa using hj
          exact (hr j (by simpa using hj) hj').one (by have:=List.all_eq_true.1 hall _ (List.getElem_mem hj'); exact this)
    · cases h
  · injection h with h; exact single hv rfl h.symm
  · injection h with h; exact single hv rfl h.symm
  · injection h with h; exact single hv rfl h.symm
  · injection h with h; exact single hv rfl h.symm
  · injection h with h; exact single hv rfl h.symm
  · injection h with h; exact single hv rfl h.symm
  · cases h
theorem aeH {α:Type} {cs vs r:List α} {off:Nat} (h:adf cs off vs=some r):off+vs.length≤cs.length∧r=cs.take off++vs++cs.drop (off+vs.length):=by
  unfold adf at h
  split at h
  · rename_i hl
    injection h with h
    exact ⟨hl,h.symm⟩
  · cases h
theorem RelL.adf {vs us:List Value} {cs xs:List AV} (h:RelL w F m vs cs) (k:RelL w F m us xs) (off:Nat):
    RelL w F m (vs.take off++us++vs.drop (off+us.length)) (cs.take off++xs++cs.drop (off+xs.length)):=by
  rw [← k.1]
  exact ((h.take off).append k).append (h.drop _)
theorem aew {t g o:Nat} {ti:TI} {e:Nat} {cur:Array Value} {v:Value} (hT:TOk P T) (ht:T t=some ti) (hg:w.heap[g]?=some (.cells cur e (0,0)))
    (hs:v.cells.size=ti.size) (hfit:o+v.cells.size≤cur.size) (h1:∀ u,u∈v.cells.toList→u.oneCell'=true):
    (Instr.storeAt t (.pointer (some ⟨g,o,none⟩)) v).run P w=.ok () (w.setRow g (cur.toList.take o++v.cells.toList++cur.toList.drop (o+v.cells.toList.length)).toArray):=by
  have:=run_storeCells_at P g o e v.cells.toList 0 cur w hg (by simpa using hfit) h1
  simp only [Nat.add_zero] at this
  unfold Instr.storeAt storeVar
  simp only [Instr.sureAddr,Sem.run_bind,Sem.run_pure,Result.andThen_ok,run_sizeOf hT ht,hs,ne_eq,not_true,if_false]
  exact this
theorem abf {r:Row} {γ h:Nat} (hv:r.valid γ h=true):h≤r.rows.length:=by
  simp only [Row.valid,Bool.or_eq_true,Bool.and_eq_true,decide_eq_true_eq] at hv
  rcases hv with ⟨_,h⟩ | ⟨_,h⟩ <;> exact h
theorem ql {i j h esz c:Nat} (hi:i < h) (hj:j < esz) (hc:h≤c):i * esz+j < c * esz:=by
  have:(i+1) * esz≤c * esz:=Nat.mul_le_mul_right _ (by omega)
  rw [Nat.add_mul] at this
  omega
theorem alB {t:Nat} {pv xv:Value} {p x:AV} {e:Eff} (hT:TOk P T) (hI:Inv w F Pr m look) (hp:RelV w F m pv p) (hx:RelV w F m xv x)
    (h:abw T t p x look=some e):∃ w',(Instr.storeAt t pv xv).run P w=.ok () w'∧Post w F Pr m look nid e undef w':=by
  unfold abw at h
  split at h
  rotate_left
  · cases h
  rename_i ti vs ht hvs
  obtain ⟨hrel,hone⟩:=aiu hx hvs
  split at h
  rotate_left
  · cases h
  rename_i hlen
  have hsz:xv.cells.size=ti.size:=by rw [← hlen,← hrel.1]; simp
  split at h
  · -- a variable
    rename_i id off
    split at h
    rotate_left
    · cases h
    rename_i cells hl
    rw [Option.map_eq_some_iff] at h
    obtain ⟨cs,hcs,rfl⟩:=h
    obtain ⟨hfit,hcs⟩:=aeH hcs
    obtain ⟨g,c,us,el,k1,k2,k3,k4,k5,k6,k7⟩:=hI.blk id _ hl
    cases hp with
    | ptr hm=>
    rename_i g' c'
    have hg1:g'=g:=congrArg Prod.fst (k2 0 0 _ hm)
    subst hg1
    have hus:us.length=cells.length:=k4.1
    have hrun:=aew (w:=w) (o:=off) hT ht k3 hsz (by rw [hsz,← hlen]; simp; omega) hone
    have hF:∀ o,¬ F g' o:=k6 rfl
    have hcell:∀ g o,F g o→(w.setRow g' ((us.take off++xv.cells.toList++us.drop (off+xv.cells.toList.length)).toArray)).cell? ⟨g,o,none⟩=w.cell? ⟨g,o,none⟩:=fun g o hf=>
      ZR (setRow_other w g' g _ (fun e=>hF o (e ▸ hf)))
    simp only [List.toList_toArray] at hrun
    refine ⟨_,hrun,F,m,⟨rfl,rfl,rfl,by simp,hcell,fun g hg=>setRow_other w g' g _ (fun e=>k5 (e ▸ hg)),fun _ _ h=>h,fun _ _ h=>.inl h⟩,qi.refl m,.undef,?_,fun i hi _ _ _=>rfl⟩
    rw [aaw]
    refine hI.write hl (by simp) (fun g hg hne=>setRow_other w g' g _ (fun e=>hne 0 0 c' (e ▸ hm))) hcell (qi.refl m) (fun _ _ _ _=>rfl)
      (fun γ h g c hx=>.inl ⟨γ,h,c,hx⟩) ?_
    refine ⟨g',c,_,el,k1,k2,setRow_heap w g' _ _ el _ k3,?_,k5,k6,fun h=>by cases h⟩
    rw [hcs]
    exact (k4.adf hrel off).keep hcell (fun _ _ h=>h) (qi.refl m)
  · -- an element
    rename_i id γ hd esz i off
    split at h
    rotate_left
    · cases h
    rename_i el esz' r hl
    split at h
    rotate_left
    · cases h
    rename_i hcond
    obtain ⟨hγ,hlen',hfl,hes,hi,hfrz⟩:=hcond
    subst hes
    split at h
    rotate_left
    · cases h
    rename_i ps c hps hc
    rw [Option.map_eq_some_iff] at h
    obtain ⟨cs,hcs,rfl⟩:=h
    obtain ⟨hfit,hcs⟩:=aeH hcs
    obtain ⟨h0,h1,h2⟩:=hI.blk id _ hl
    cases hp with
    | eptr hm=>
    rename_i g cp
    obtain ⟨k1,k2,k3,k4⟩:=h2 γ hd g cp hm
    have hval:r.valid γ hd=true:=by simp [Row.valid,hγ,hlen',show r.floor≤r.rows.length by omega]
    obtain ⟨l1,l2,cur,l3,l4,l5⟩:=k4 hval
    have hcl:c.length=esz:=h1 c (List.mem_of_getElem? hc)
    -- the cells that are stored are pure
    have hpp:∀ (us:List Value) (xs:List AV) (qs:List PV),RelL w F m us xs→aaO xs=some qs→us.length=qs.length∧∀ j (h:j < us.length) (h':j < qs.length),Rep w F us[j] qs[j]:=by
      intro us
      induction us with
      | nil=>
        intro xs qs hr hq
        have:xs=[]:=List.eq_nil_of_length_eq_zero hr.1.symm
        subst this
        simp [aaO] at hq
        subst hq
        exact ⟨rfl,fun j h=>by simp at h⟩
      | cons u us ih=>
        intro xs qs hr hq
        cases xs with
        | nil=>have:=hr.1; simp at this
        | cons a as=>
          have ha:=hr.head
          cases a with
          | pv p0=>
            simp only [aaO,Option.map_eq_some_iff] at hq
            obtain ⟨qs',hq',rfl⟩:=hq
            obtain ⟨e1,e2⟩:=ih as qs' hr.tail hq'
            refine ⟨by simp [e1],fun j hj hj'=>?_⟩
            cases j with
            | zero=>cases ha with | pv hh=>exact hh
            | succ j=>exact e2 j (by simpa using hj) (by simpa using hj')
          | _=>simp [aaO] at hq
    obtain ⟨q1,q2⟩:=hpp _ _ _ hrel hps
    have hle:i * esz+esz≤cur.size:=by
      rw [l4]
      have:(i+1) * esz≤cp * esz:=Nat.mul_le_mul_right _ (by omega)
      rw [Nat.add_mul] at this; omega
    have hrun:=aew (w:=w) (o:=i * esz+off) hT ht l3 hsz (by
      have:xv.cells.size=ps.length:=by rw [← q1]; simp
      omega) hone
    have hF:∀ o,¬ F g o:=fun o=>k2 o (by rw [hfrz]; simp)
    let arr:Array Value:=(cur.toList.take (i * esz+off)++xv.cells.toList++cur.toList.drop (i * esz+off+xv.cells.toList.length)).toArray
    have hcell:∀ g1 o,F g1 o→(w.setRow g arr).cell? ⟨g1,o,none⟩=w.cell? ⟨g1,o,none⟩:=fun g1 o hf=>
      ZR (setRow_other w g g1 _ (fun e=>hF o (e ▸ hf)))
    refine ⟨w.setRow g arr,hrun,F,m,⟨rfl,rfl,rfl,by simp,hcell,fun g1 hg=>setRow_other w g g1 _ (fun e=>k1 (e ▸ hg)),fun _ _ h=>h,fun _ _ h=>.inl h⟩,qi.refl m,.undef,?_,fun i hi _ _ _=>rfl⟩
    rw [aaw]
    refine hI.write hl (by simp) (fun g1 hg hne=>setRow_other w g g1 _ (fun e=>hne γ hd cp (e ▸ hm))) hcell (qi.refl m) (fun _ _ _ _=>rfl)
      (fun γ h g c hx=>.inl ⟨γ,h,c,hx⟩) ?_
    have hxl:xv.cells.toList.length=ps.length:=q1
    have hxs:xv.cells.size=ps.length:=by simpa using hxl
    have hcsl:cs.length=esz:=by rw [hcs]; simp; omega
    refine ⟨⟨h0.1,Nat.zero_le _,by simpa using h0.2.2⟩,fun c' hc'=>?_,fun γ' h' g' c' hm'=>?_⟩
    · rcases List.mem_or_eq_of_mem_set hc' with h | rfl
      · exact h1 c' h
      · exact hcsl
    · obtain ⟨n1,n2,n3,n4⟩:=h2 γ' h' g' c' hm'
      refine ⟨n1,n2,by simpa using n3,fun hv'=>?_⟩
      have hsize:arr.size=cur.size:=by simp [arr]; omega
      simp only [Row.valid,Bool.or_eq_true,Bool.and_eq_true,decide_eq_true_eq,beq_iff_eq,List.length_set] at hv'
      rcases hv' with ⟨⟨hg1,hg2⟩,hg3⟩ | ⟨⟨hg1,hg2⟩,hg3⟩
      · have e1:γ'=γ:=by omega
        have e2:h'=hd:=by omega
        subst e1; subst e2
        rw [hm] at hm'
        injection hm' with hm'
        have e3:g=g':=congrArg Prod.fst hm'
        have e4:cp=c':=congrArg Prod.snd hm'
        subst e3; subst e4
        refine ⟨l1,l2,arr,setRow_heap w g _ _ el _ l3,by rw [hsize]; exact l4,fun a ha b hb=>?_⟩
        have hin:a * esz+b < cur.size:=by rw [l4]; exact ql ha hb l1
        have harr:arr[a * esz+b]?=(cur.toList.take (i * esz+off)++xv.cells.toList++cur.toList.drop (i * esz+off+xv.cells.toList.length))[a * esz+b]?:=by simp [arr]
        by_cases hai:a=i
        · subst hai
          rw [List.getElem?_set_self (by omega)]
          by_cases hbo:b < off
          · obtain ⟨u,p0,x1,x2,x3⟩:=l5 a ha b hb
            refine ⟨u,p0,?_,?_,x3.keep hcell (fun _ _ h=>h)⟩
            · rw [harr,List.append_assoc,List.getElem?_append_left (by simp; omega),List.getElem?_take_of_lt (by omega)]
              simpa using x1
            · rw [hc] at x2
              simp only [Option.bind_some] at x2 ⊢
              rw [hcs,List.append_assoc,List.getElem?_append_left (by simp; omega),List.getElem?_take_of_lt hbo]
              exact x2
          · by_cases hbo2:b < off+ps.length
            · have hj:b - off < xv.cells.toList.length:=by omega
              refine ⟨xv.cells.toList[b - off],ps[b - off]'(by omega),?_,?_,(q2 (b - off) hj (by omega)).keep hcell (fun _ _ h=>h)⟩
              · rw [harr,List.append_assoc,List.getElem?_append_right (by simp; omega)]
                have e:a * esz+b - (cur.toList.take (a * esz+off)).length=b - off:=by simp; omega
                rw [e,List.getElem?_append_left hj,List.getElem?_eq_getElem hj]
              · simp only [Option.bind_some]
                rw [hcs,List.append_assoc,List.getElem?_append_right (by simp; omega)]
                have e:b - (c.take off).length=b - off:=by simp; omega
                rw [e,List.getElem?_append_left (by omega),List.getElem?_eq_getElem (by omega)]
            · obtain ⟨u,p0,x1,x2,x3⟩:=l5 a ha b hb
              refine ⟨u,p0,?_,?_,x3.keep hcell (fun _ _ h=>h)⟩
              · rw [harr,List.getElem?_append_right (by simp; omega),List.getElem?_drop]
                have e:a * esz+off+xv.cells.toList.length+(a * esz+b - (cur.toList.take (a * esz+off)++xv.cells.toList).length)=a * esz+b:=by simp at hxl ⊢; omega
                rw [e]; simpa using x1
              · rw [hc] at x2
                simp only [Option.bind_some] at x2 ⊢
                rw [hcs,List.getElem?_append_right (by simp; omega),List.getElem?_drop]
                have e:off+ps.length+(b - (c.take off++ps).length)=b:=by simp; omega
                rw [e]; exact x2
        · rw [List.getElem?_set_ne (fun e=>hai e.symm)]
          obtain ⟨u,p0,x1,x2,x3⟩:=l5 a ha b hb
          refine ⟨u,p0,?_,x2,x3.keep hcell (fun _ _ h=>h)⟩
          rw [harr]
          rcases Nat.lt_or_gt_of_ne hai with hlt | hgt
          · have:(a+1) * esz≤i * esz:=Nat.mul_le_mul_right _ (by omega)
            rw [Nat.add_mul] at this
            rw [List.append_assoc,List.getElem?_append_left (by simp; omega),List.getElem?_take_of_lt (by omega)]
            simpa using x1
          · have:(i+1) * esz≤a * esz:=Nat.mul_le_mul_right _ (by omega)
            rw [Nat.add_mul] at this
            rw [List.getElem?_append_right (by simp; simp at hxl; omega),List.getElem?_drop]
            have e:i * esz+off+xv.cells.toList.length+(a * esz+b - (cur.toList.take (i * esz+off)++xv.cells.toList).length)=a * esz+b:=by simp at hxl ⊢; omega
            rw [e]; simpa using x1
      · have e2:h'=0:=by omega
        subst e2
        have hvo:r.valid γ' 0=true:=by simp [Row.valid,hg1]
        obtain ⟨o1,o2,cur',o3,o4,o5⟩:=n4 hvo
        by_cases hgg:g'=g
        · subst hgg
          rw [l3] at o3
          injection o3 with o3
          injection o3 with o3
          subst o3
          exact ⟨o1,o2,arr,setRow_heap w g' _ _ el _ l3,by rw [hsize]; exact o4,fun a ha=>absurd ha (by omega)⟩
        · exact ⟨o1,o2,cur',(setRow_other w g g' _ hgg).trans o3,o4,fun a ha=>absurd ha (by omega)⟩
  · cases h
end Go.Ab
