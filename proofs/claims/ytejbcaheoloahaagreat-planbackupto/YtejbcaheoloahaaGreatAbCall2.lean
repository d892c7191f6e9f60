import Derived.Test.YtejbcaheoloahaaGreatAbCall
set_option linter.unusedVariables false
set_option linter.unusedSimpArgs false
namespace Go.Ab
open Go
variable {P:Program} {T:Nat→Option TI} {w w':World} {F:Froz} {Pr:Nat→Prop} {m m':Mu} {look:Look} {nid:Nat}
theorem amb {C:ZH} {f:Nat} {args:List AV} {vs:List Value} {r:Res} (hC:acM P C) (hI:Inv w F Pr m look) (hr:RelL w F m vs args)
    (hf:∀ i,nid≤i→i < nid+r.new→∀ γ h,m i γ h=none) (hlt:∀ i,i∈reach look Zl (AV.idsL args) []→i < nid) (h:QC C f args look nid=some r):
    Calls P f vs.toArray w fun e w'=>amu w F Pr m look nid w' r e:=by
  unfold QC at h
  simp only at h
  obtain ⟨⟨l0,hR0⟩,hnd⟩:=aaZ look Zl (AV.idsL args) [] List.nodup_nil
  generalize reach look Zl (AV.idsL args) []=R at hR0 hnd h hlt
  obtain ⟨as,has,h⟩:=Option.bind_eq_some_iff.1 h
  obtain ⟨bs0,hbs0,h⟩:=Option.bind_eq_some_iff.1 h
  obtain ⟨bs,hbs,h⟩:=Option.bind_eq_some_iff.1 h
  obtain ⟨g1,g2⟩:=afT hbs0
  have hR:∀ i,i∈R→(look i).isSome=true:=fun i hi=>by
    obtain ⟨j,hj,rfl⟩:=List.getElem_of_mem hi
    rw [g2 j hj (by omega)]; rfl
  obtain ⟨r1,r2⟩:=abO hbs
  -- the callee's names
  let mc:Mu:=fun j γ h=>match R[j]? with
    | some i=>m i γ h
    | none=>none
  have hmc:∀ j (hj:j < R.length) γ h,mc j γ h=m R[j] γ h:=fun j hj γ h=>by simp only [mc,List.getElem?_eq_getElem hj]
  have hmc0:∀ j,R.length≤j→∀ γ h,mc j γ h=none:=fun j hj γ h=>by simp only [mc,List.getElem?_eq_none hj]
  have hren:ai2 (placeOf R) m mc:=fun i j hij γ h x hx=>by
    have:=acg hij
    simp only [mc,this]; exact hx
  let Prc:Nat→Prop:=fun g=>g < w.heap.size∧∀ i,i∈R→∀ γ h c,m i γ h≠some (g,c)
  have hbk:∀ j (hj:j < bs.length),∃ (ho:j < R.length) (hb:j < bs0.length),look R[j]=some bs0[j]∧bs0[j].ren (placeOf R)=some bs[j]:=fun j hj=>
    ⟨by omega,by omega,g2 j (by omega) (by omega),r2 j (by omega) hj⟩
  have hIc:Inv w F Prc mc (zp bs):=by
    refine ⟨fun j b hl=>?_,fun i j b1 b2 h1 h2 hne γ1 k1 γ2 k2 g c1 c2 e1 e2=>?_,hI.szF,fun g hg=>hg.1,fun i b γ k g c hl e=>?_⟩
    · obtain ⟨hj,rfl⟩:=QO hl
      obtain ⟨ho,hb,q1,q2⟩:=hbk j hj
      exact (hI.blk _ _ q1).ren q2 hren (hmc j ho) (fun γ h g c hx hp=>hp.2 _ (List.getElem_mem ho) γ h c hx)
    · obtain ⟨hi,rfl⟩:=QO h1
      obtain ⟨hj,rfl⟩:=QO h2
      obtain ⟨oi,bi,p1,p2⟩:=hbk i hi
      obtain ⟨oj,bj,q1,q2⟩:=hbk j hj
      rw [hmc i oi] at e1
      rw [hmc j oj] at e2
      exact hI.apart R[i] R[j] _ _ p1 q1 (fun e=>hne ((List.getElem_inj hnd).1 e)) γ1 k1 γ2 k2 g c1 c2 e1 e2
    · obtain ⟨hi,rfl⟩:=QO hl
      obtain ⟨oi,bi,p1,p2⟩:=hbk i hi
      rw [hmc i oi] at e
      exact hI.sz _ _ γ k g c p1 e
  cases hc:C f as bs with
  | none=>rw [hc] at h; cases h
  | some ob=>
  obtain ⟨o,bs'⟩:=ob
  rw [hc] at h
  simp only at h
  obtain ⟨bs2,hbs2,h⟩:=Option.bind_eq_some_iff.1 h
  obtain ⟨t1,t2⟩:=abO hbs2
  have hRl:R.length=bs.length:=by omega
  refine (hC f as bs o bs' hc w F Prc mc vs hIc (fun i hi γ h=>hmc0 i (by omega) γ h) (hr.ren hren has)).mono fun e w' he=>?_
  obtain ⟨F',m',hext,hkeep,hI',hm0,hle,hout⟩:=he
  let back:Nat→Option Nat:=fun j=>match R[j]? with
    | some i=>some i
    | none=>some (nid+(j - R.length))
  have hback1:∀ j (hj:j < R.length),back j=some R[j]:=fun j hj=>by simp only [back,List.getElem?_eq_getElem hj]
  have hback2:∀ j,R.length≤j→back j=some (nid+(j - R.length)):=fun j hj=>by simp only [back,List.getElem?_eq_none hj]
  -- the caller's names,behind the call
  let m'':Mu:=fun i γ h=>match placeOf R i with
    | some j=>m' j γ h
    | none=>if nid≤i∧i < nid+(bs2.length - R.length) then m' (i - nid+R.length) γ h else m i γ h
  have hplace:∀ j (hj:j < R.length),placeOf R R[j]=some j:=fun j hj=>by
    have hmem:R[j]∈R:=List.getElem_mem hj
    cases hp:placeOf R R[j] with
    | none=>
      unfold placeOf at hp
      rw [List.idxOf?,List.findIdx?_eq_none_iff] at hp
      have:=hp _ hmem
      simp at this
    | some k=>
      have:=acg hp
      obtain ⟨hk,e⟩:=List.getElem?_eq_some_iff.1 this
      rw [(List.getElem_inj hnd).1 e]
  have hplace0:∀ i,i ∉ R→placeOf R i=none:=fun i hi=>by
    cases hp:placeOf R i with
    | none=>rfl
    | some k=>exact absurd (List.mem_of_getElem? (acg hp)) hi
  have hnR:∀ i,nid≤i→i ∉ R:=fun i hi hm=>by have:=hlt i hm; omega
  have hmR:∀ j (hj:j < R.length) γ h,m'' R[j] γ h=m' j γ h:=fun j hj γ h=>by simp only [m'',hplace j hj]
  have hmN:∀ i,nid≤i→i < nid+(bs2.length - R.length)→∀ γ h,m'' i γ h=m' (i - nid+R.length) γ h:=fun i h1 h2 γ h=>by
    simp only [m'',hplace0 i (hnR i h1)]; rw [if_pos ⟨h1,h2⟩]
  have hmO:∀ i,i ∉ R→¬ (nid≤i∧i < nid+(bs2.length - R.length))→∀ γ h,m'' i γ h=m i γ h:=fun i h1 h2 γ h=>by
    simp only [m'',hplace0 i h1]; rw [if_neg h2]
  have hren':ai2 back m' m'':=fun j i hji γ h x hx=>by
    rcases Nat.lt_or_ge j R.length with hj | hj
    · rw [hback1 j hj] at hji
      injection hji with hji
      subst hji
      rw [hmR j hj]; exact hx
    · rw [hback2 j hj] at hji
      injection hji with hji
      subst hji
      have hlt2:j < bs'.length:=by
        rcases Nat.lt_or_ge j bs'.length with h1 | h1
        · exact h1
        · rw [hm0 j h1] at hx; cases hx
      rw [hmN _ (by omega) (by omega)]
      rw [show nid+(j - R.length) - nid+R.length=j by omega]; exact hx
  have hsz:=hext.size
  have hprc:∀ g,Pr g→Prc g:=fun g hg=>⟨hI.szP g hg,fun i hi γ h c hx=>by
    obtain ⟨b,hb⟩:=Option.isSome_iff_exists.1 (hR i hi)
    exact (hI.blk i b hb).notPr hx hg⟩
  -- blocks of the caller that were not handed on
  have hfar:∀ i b,i ∉ R→look i=some b→∀ γ h g c,m i γ h=some (g,c)→Prc g:=fun i b hiR hl γ h g c hx=>⟨hI.sz i b γ h g c hl hx,fun i' hi' γ' h' c' hx'=>by
    obtain ⟨b',hb'⟩:=Option.isSome_iff_exists.1 (hR i' hi')
    exact hI.apart i i' b b' hl hb' (fun e=>hiR (e ▸ hi')) γ h γ' h' g c c' hx hx'⟩
  have post:∀ (u:Value) (v v':AV) ,RelV w' F' m' u v→v.ren back=some v'→(∀ i,nid≤i→i < nid+(bs2.length - R.length)→∀ γ h,m i γ h=none)→
      Post w F Pr m look nid ⟨v',aap R bs2,bs2.drop R.length⟩ u w':=by
    intro u v v' hu hv' hfr
    have hnl:(bs2.drop R.length).length=bs2.length - R.length:=by simp
    have hmext:qi m m'':=fun i γ h x hx=>by
      by_cases hiR:i∈R
      · obtain ⟨j,hj,rfl⟩:=List.getElem_of_mem hiR
        rw [hmR j hj]
        exact hkeep j (by omega) γ h x (by rw [hmc j hj]; exact hx)
      · by_cases hin:nid≤i∧i < nid+(bs2.length - R.length)
        · rw [hfr i hin.1 hin.2] at hx; cases hx
        · rw [hmO i hiR hin]; exact hx
    -- what is looked up
    have hlR:∀ j (hj:j < R.length),ZF look nid ⟨v',aap R bs2,bs2.drop R.length⟩ R[j]=some (bs2[j]'(by omega)):=fun j hj=>by
      rw [QQ (by simp only [hnl]; intro hh; exact hnR _ hh.1 (List.getElem_mem hj))]
      rw [aeO (ahd j hj (by omega)) (fun p hp e=>by
        obtain ⟨k,hk,hk',rfl⟩:=afR hp
        simp only at e ⊢
        have:=(List.getElem_inj hnd).1 e
        subst this; rfl)]
    have hlN:∀ i,(h1:nid≤i)→(hi:i < nid+(bs2.length - R.length))→ZF look nid ⟨v',aap R bs2,bs2.drop R.length⟩ i=some (bs2[i - nid+R.length]'(by omega)):=fun i h1 h2=>by
      rw [abx (by simp only [hnl]; exact ⟨h1,h2⟩)]
      simp only [List.getElem?_drop]
      rw [List.getElem?_eq_getElem (by omega)]
      congr 2; omega
    have hlO:∀ i,i ∉ R→¬ (nid≤i∧i < nid+(bs2.length - R.length))→ZF look nid ⟨v',aap R bs2,bs2.drop R.length⟩ i=look i:=fun i h1 h2=>by
      rw [QQ (by simp only [hnl]; exact h2)]
      rw [Q7 (fun p hp e=>by
        obtain ⟨k,hk,hk',rfl⟩:=afR hp
        simp only at e
        exact h1 (e ▸ List.getElem_mem hk))]
    -- the three kinds of ids
    have hkinds:∀ i b,ZF look nid ⟨v',aap R bs2,bs2.drop R.length⟩ i=some b→(∃ j b',zp bs' j=some b'∧b'.ren back=some b∧(∀ γ h,m'' i γ h=m' j γ h)∧(j < R.length→R[j]?=some i)∧(R.length≤j→i=nid+(j - R.length)))∨
        (i ∉ R∧look i=some b∧∀ γ h,m'' i γ h=m i γ h):=fun i b hl=>by
      by_cases hiR:i∈R
      · obtain ⟨j,hj,rfl⟩:=List.getElem_of_mem hiR
        rw [hlR j hj] at hl
        injection hl with hl
        exact .inl ⟨j,bs'[j]'(by omega),by simp [zp,show j < bs'.length by omega],by rw [← hl]; exact t2 j (by omega) (by omega),hmR j hj,fun _=>List.getElem?_eq_getElem hj,fun h=>by omega⟩
      · by_cases hin:nid≤i∧i < nid+(bs2.length - R.length)
        · rw [hlN i hin.1 hin.2] at hl
          injection hl with hl
          exact .inl ⟨i - nid+R.length,bs'[i - nid+R.length]'(by omega),by simp [zp,show i - nid+R.length < bs'.length by omega],by rw [← hl]; exact t2 _ (by omega) (by omega),hmN i hin.1 hin.2,fun h=>by omega,fun _=>by omega⟩
        · rw [hlO i hiR hin] at hl
          exact .inr ⟨hiR,hl,hmO i hiR hin⟩
    refine ⟨F',m'',⟨hext.os,hext.tape,hext.output,hsz,hext.fz,fun g hg=>hext.pr g (hprc g hg),hext.mono,fun g o hF=>(hext.new g o hF).imp (fun h=>h) (fun h hp=>h (hprc g hp))⟩,hmext,hu.ren hren' hv',?_,fun i hi hout γ h=>?_⟩
    · refine ⟨fun i b hl=>?_,fun i j b1 b2 h1 h2 hne γ1 k1 γ2 k2 g c1 c2 e1 e2=>?_,hI'.szF,fun g hg=>Nat.lt_of_lt_of_le (hI.szP g hg) hsz,fun i b γ k g c hl e=>?_⟩
      · rcases hkinds i b hl with ⟨j,b',q1,q2,q3,_,_⟩ | ⟨q1,q2,q3⟩
        · have hbj:=hI'.blk _ _ q1
          exact hbj.ren q2 hren' q3 (fun γ h g c hx hp=>hbj.notPr hx (hprc g hp))
        · have hb:=hI.blk i b q2
          have hF:∀ γ h g c,m i γ h=some (g,c)→∀ o,F' g o→F g o:=fun γ h g c hx o hFo=>(hext.new g o hFo).resolve_right (fun hn=>hn (hfar i b q1 q2 γ h g c hx))
          have hh:∀ γ h g c,m i γ h=some (g,c)→w'.heap[g]?=w.heap[g]?:=fun γ h g c hx=>hext.pr g (hfar i b q1 q2 γ h g c hx)
          cases b with
          | dead=>exact hb.elim
          | map _ _ ents=>
            obtain ⟨g,c,es,clock,k1,k2,k3,k4,k5⟩:=hb
            exact ⟨g,c,es,clock,by rw [q3]; exact k1,fun γ h x hx=>k2 γ h x (by rw [← q3]; exact hx),(hh _ _ _ _ k1).trans k3,k4.keep hext.fz hext.mono,k5⟩
          | box cells z=>
            obtain ⟨g,c,us,el,k1,k2,k3,k4,k5,k6,k7⟩:=hb
            exact ⟨g,c,us,el,by rw [q3]; exact k1,fun γ h x hx=>k2 γ h x (by rw [← q3]; exact hx),(hh _ _ _ _ k1).trans k3,hext.keepL hmext k4,k5,fun hz o ho=>k6 hz o (hF _ _ _ _ k1 o ho),fun hz o ho=>hext.mono g o (k7 hz o ho)⟩
          | row el esz r=>
            obtain ⟨k0,k1,k2⟩:=hb
            refine ⟨k0,k1,fun γ h g c hx=>?_⟩
            rw [q3] at hx
            obtain ⟨p1,p2,p3,p4⟩:=k2 γ h g c hx
            refine ⟨p1,fun o ho hFo=>p2 o ho (hF _ _ _ _ hx o hFo),p3,fun hv=>?_⟩
            obtain ⟨l1,l2,cur,l3,l4,l5⟩:=p4 hv
            refine ⟨l1,l2,cur,(hh _ _ _ _ hx).trans l3,l4,fun i hi j hj=>?_⟩
            obtain ⟨u,p,a,b,c⟩:=l5 i hi j hj
            exact ⟨u,p,a,b,c.keep hext.fz hext.mono⟩
      · rcases hkinds i b1 h1 with ⟨i',b1',q1,q2,q3,q4,q5⟩ | ⟨q1,q2,q3⟩ <;> rcases hkinds j b2 h2 with ⟨j',b2',s1,s2,s3,s4,s5⟩ | ⟨s1,s2,s3⟩
        · rw [q3] at e1
          rw [s3] at e2
          refine hI'.apart i' j' _ _ q1 s1 (fun e=>hne ?_) γ1 k1 γ2 k2 g c1 c2 e1 e2
          subst e
          rcases Nat.lt_or_ge i' R.length with hlt1 | hge1
          · have:=(q4 hlt1).symm.trans (s4 hlt1); injection this
          · rw [q5 hge1,s5 hge1]
        · rw [q3] at e1
          rw [s3] at e2
          exact (hI'.blk _ _ q1).notPr e1 (hfar j b2 s1 s2 _ _ _ _ e2)
        · rw [q3] at e1
          rw [s3] at e2
          exact (hI'.blk _ _ s1).notPr e2 (hfar i b1 q1 q2 _ _ _ _ e1)
        · rw [q3] at e1
          rw [s3] at e2
          exact hI.apart i j _ _ q2 s2 hne γ1 k1 γ2 k2 g c1 c2 e1 e2
      · rcases hkinds i b hl with ⟨j,b',q1,q2,q3,_,_⟩ | ⟨q1,q2,q3⟩
        · rw [q3] at e
          exact hI'.sz _ _ _ _ g c q1 e
        · rw [q3] at e
          have:=hI.sz i _ _ _ g c q2 e; omega
    · refine hmO i (fun hiR=>?_) (by simp only [hnl] at hout; omega) γ h
      obtain ⟨j,hj,rfl⟩:=List.getElem_of_mem hiR
      exact hi _ (ahd j hj (by omega)) rfl
  cases o with
  | ret v=>
    simp only [Option.map_eq_some_iff] at h
    obtain ⟨v',hv',rfl⟩:=h
    obtain ⟨u,rfl,hu⟩:=hout
    exact ⟨u,rfl,post u v v' hu hv' (fun i h1 h2=>hf i h1 (by simp only [Res.new,List.length_drop]; exact h2))⟩
  | pan v=>
    simp only [Option.map_eq_some_iff] at h
    obtain ⟨v',hv',rfl⟩:=h
    obtain ⟨u,rfl,hu⟩:=hout
    exact ⟨u,rfl,post u v v' hu hv' (fun i h1 h2=>hf i h1 (by simp only [Res.new,List.length_drop]; exact h2))⟩
end Go.Ab
