import Derived.Test.YtejbcaheoloahaaGreatAbDraw3
set_option linter.unusedVariables false
set_option linter.unusedSimpArgs false
namespace Go.Ab
open Go
variable {w w':World} {F:Froz} {Pr:Nat→Prop} {m m':Mu} {look:Look} {nid:Nat}
def zR (listed:Array Bool):Nat→Bool:=fun i=>listed.getD i false
def ahb (ops:Array Oper) (S:Nat→Bool):Prop:=∀ i o,ops[i]?=some o→S i=true→∀ e∈o.after,Region.binds .any e=true→S e.on=true
structure DInv (B:ab5) (x:TL) (tr:List Stp) (N:Nat) (S:Nat→Bool) (a:Act) (w:World) (F:Froz) (m:Mu):Prop where
  ext:Ext B.w B.F B.Pr w F
  keep:amj B.n0 B.m m
  t:RelT w F m a.tmps x.1
  I:Inv w F B.Pr m x.2
  d:a.defers=B.d
  f:∀ k s,tr[k]?=some s→S k=false→∀ i,s.base≤i→i < s.base+s.eff.new.length→∀ γ h,m i γ h=none
  g:∀ i,N≤i→∀ γ h,m i γ h=none
theorem agx {ops:Array Oper} (h:aby ops=true) {i:Nat} {o:Oper} (hi:ops[i]?=some o) {e:Edge} (he:e∈o.after) (hb:Region.binds .any e=true):e.on < i:=by
  have hlt:i < ops.size:=(Array.getElem?_eq_some_iff.1 hi).1
  have:=List.all_eq_true.1 h i (List.mem_range.2 hlt)
  simp only [hi,Bool.and_eq_true] at this
  have:=Array.all_eq_true_iff_forall_mem.1 this.1 e he
  simpa [hb] using this
theorem ach {ops:Array Oper} (h:aby ops=true) {i j:Nat} {x y:Oper} (hi:ops[i]?=some x) (hj:ops[j]?=some y) (hlt:j < i):
    hasB (Zy ops ops.size []) i j=true∨x.apart ops y=true:=by
  have hl:i < ops.size:=(Array.getElem?_eq_some_iff.1 hi).1
  have:=List.all_eq_true.1 h i (List.mem_range.2 hl)
  simp only [hi,Bool.and_eq_true] at this
  have:=List.all_eq_true.1 this.2 j (List.mem_range.2 hlt)
  simp only [hj,Bool.or_eq_true] at this
  simpa using this
theorem aaN {ops:Array Oper} {t t':List AV} {o:Oper} (h:∀ d∈o.looksAt ops,t[d]?=t'[d]?):aaH ops t o=aaH ops t' o:=by
  unfold aaH
  cases hg:o.guard with
  | none=>rfl
  | some p=>
    obtain ⟨j,want⟩:=p
    simp only
    cases hd:(ops[j]?).bind (·.dst) with
    | none=>rfl
    | some d=>
      simp only
      rw [h d (by unfold Oper.looksAt; rw [hg]; simp [hd])]
theorem aa2 {ops:Array Oper} {t t':List AV} {o:Oper} (h:∀ d∈o.looksAt ops,t[d]?=t'[d]?):∀ x∈o.op.operands,qc t x=qc t' x:=fun x hx=>by
  cases x with
  | tmp d=>
    simp only [qc]
    rw [h d (by
      unfold Oper.looksAt
      exact List.mem_append_left _ (List.mem_filterMap.2 ⟨.tmp d,by simpa using hx,rfl⟩))]
  | _=>rfl
theorem afc {G:Cfg} {C:ZH} {ops:Array Oper} {tr:List Stp} {tmps:List AV} {H:List Blk} (hd:aby ops=true)
    (hc:QB (Zy ops ops.size []) (qu 0 tr).reverse=true) (htr:QX G C ops ops.toList tmps H tr) {S:Nat→Bool} (hS:ahb ops S)
    {j k:Nat} {oj ok:Oper} {sj sk:Stp} (hj:ops[j]?=some oj) (hk:ops[k]?=some ok) (tj:tr[j]?=some sj) (tk:tr[k]?=some sk)
    (hr:S j=false) (he:∀ e∈oj.after,Region.binds .any e=true→S e.on=true) (hne:(S k=true∧j < k)∨(S k=false∧k < j)):
    (∀ d,ok.dst=some d→d ∉ oj.looksAt ops)∧(∀ d,oj.dst=some d→ok.dst≠some d)∧
    (sj.want=true→∀ i,sk.wr i→i ∉ sj.reads)∧(∀ i,sj.wr i→¬ sk.wr i):=by
  have hbs:=fun (j:Nat) (l:Nat)=>abM hS ops.size [] (by simp) (fun j l h=>by simp at h) j l
  have wk:∀ {s:Stp} {q:Nat} {i:Nat},tr[q]?=some s→s.want=false→¬ s.wr i:=fun {s q i} hs hw=>by
    have hq:q < tr.length:=(List.getElem?_eq_some_iff.1 hs).1
    have hl:=htr.length
    have:ops.toList[q]?=some ops.toList[q]:=by simp [show q < ops.size by simpa [hl] using hq]
    obtain ⟨s',t',H',g1,_,_,g4⟩:=htr.get _ 0 _ _ _ q _ this
    rw [hs] at g1
    injection g1 with g1
    subst g1
    rcases g4.2.2 with h | h
    · unfold Stp.wr; rw [h.2.2]; rintro (⟨p,hp,_⟩ | hh)
      · cases hp
      · simp at hh; omega
    · rw [hw] at h; simp at h
  rcases hne with ⟨hSk,hjk⟩ | ⟨hSk,hkj⟩
  · have hnb:¬ hasB (Zy ops ops.size []) k j=true:=fun hm=>by
      unfold hasB at hm
      cases hb:(Zy ops ops.size [])[k]? with
      | none=>rw [hb] at hm; simp at hm
      | some l=>
        rw [hb] at hm
        have:=hbs k l hb ok hk (hS k ok hk hSk) j hm
        rw [hr] at this; cases this
    have ap:=Oper.apart_spec ((ach hd hk hj hjk).resolve_left hnb)
    refine ⟨ap.1,fun d h1 h2=>ap.2.1 d h2 h1,?_,?_⟩
    · intro hw i hi
      rcases aaz hc hjk tj tk with h | h | h
      · exact absurd h hnb
      · exact h.1 i hi hw
      · exact absurd hi (wk tk h)
    · intro i h1 h2
      rcases aaz hc hjk tj tk with h | h | h
      · exact absurd h hnb
      · cases w1:sj.want with
        | false=>exact wk tj w1 h1
        | true=>
          cases w2:sk.want with
          | false=>exact wk tk w2 h2
          | true=>exact h.2.1 i h2 w2 w1 h1
      · exact wk tk h h2
  · have hnb:¬ hasB (Zy ops ops.size []) j k=true:=fun hm=>by
      unfold hasB at hm
      cases hb:(Zy ops ops.size [])[j]? with
      | none=>rw [hb] at hm; simp at hm
      | some l=>
        rw [hb] at hm
        have:=hbs j l hb oj hj he k hm
        rw [hSk] at this; cases this
    have ap:=Oper.apart_spec ((ach hd hj hk hkj).resolve_left hnb)
    refine ⟨ap.2.2,ap.2.1,?_,?_⟩
    · intro hw i hi hm
      rcases aaz hc hkj tk tj with h | h | h
      · exact absurd h hnb
      · cases w1:sk.want with
        | false=>exact wk tk w1 hi
        | true=>exact h.2.2 i hw w1 hm hi
      · rw [hw] at h; cases h
    · intro i h1 h2
      rcases aaz hc hkj tk tj with h | h | h
      · exact absurd h hnb
      · cases w1:sk.want with
        | false=>exact wk tk w1 h2
        | true=>
          cases w2:sj.want with
          | false=>exact wk tj w2 h1
          | true=>exact h.2.1 i h1 w2 w1 h2
      · exact wk tj h h1
theorem apI {G:Cfg} {C:ZH} {B:ab5} (hG:GOk G) (hC:acM G.P C) {ops:Array Oper} {tr:List Stp} {σ σ':St}
    (hd:aby ops=true) (hc:QB (Zy ops ops.size []) (qu 0 tr).reverse=true) (htr:QX G C ops ops.toList σ.tmps σ.heap tr)
    (hfin:Zq (fun _=>true) (σ.tmps,zp σ.heap) 0 tr=(σ'.tmps,zp σ'.heap)) (hlen:∀ s∈tr,s.base+s.eff.new.length≤σ'.heap.length) (hn0:B.n0≤σ.heap.length) (hn1:B.n0≤σ'.heap.length):
    ∀ (fuel:Nat) (listed:Array Bool),listed.size=ops.size→listed.count false≤fuel→ahb ops (zR listed)→∀ (a:Act) (w:World) (F:Froz) (m:Mu),
      DInv B (Zq (zR listed) (σ.tmps,zp σ.heap) 0 tr) tr σ'.heap.length (zR listed) a w F m→
      wpAny G.P .any ops (ac6 B .normal σ') fuel listed a w:=by
  have htl:tr.length=ops.size:=by simpa using htr.length
  have hend:∀ (listed:Array Bool),listed.size=ops.size→Region.ready .any ops listed=[]→∀ j,j < ops.size→zR listed j=true:=by
    intro listed hsz hr j
    induction j using Nat.strongRecOn with
    | ind j ih=>
      intro hj
      have ho:ops[j]?=some ops[j]:=by simp [hj]
      cases hl:zR listed j with
      | true=>rfl
      | false=>
        have:j∈Region.ready .any ops listed:=by
          rw [mem_ready]
          refine ⟨?_,_,ho,fun e he hb=>?_⟩
          · unfold zR at hl; simp [show j < listed.size by omega] at hl ⊢; exact hl
          · have hlt:=agx hd ho he hb
            exact ih e.on hlt (by omega)
        rw [hr] at this; cases this
  have hpost:∀ (listed:Array Bool),listed.size=ops.size→Region.ready .any ops listed=[]→∀ (a:Act) (w:World) (F:Froz) (m:Mu),
      DInv B (Zq (zR listed) (σ.tmps,zp σ.heap) 0 tr) tr σ'.heap.length (zR listed) a w F m→ac6 B .normal σ' .normal a w:=by
    intro listed hsz hr a w F m hI
    have:Zq (zR listed) (σ.tmps,zp σ.heap) 0 tr=(σ'.tmps,zp σ'.heap):=by
      rw [← hfin]
      exact aeG tr 0 _ fun k hk=>by rw [Nat.zero_add]; exact hend listed hsz hr k (by omega)
    rw [this] at hI
    exact ⟨F,m,⟨hI.ext,hI.keep,⟨hI.t,hI.I,hI.g⟩,hI.d,hn1⟩,trivial⟩
  intro fuel
  induction fuel with
  | zero=>
    intro listed hsz hcnt hS a w F m hI
    have hr:Region.ready .any ops listed=[]:=by
      rw [List.eq_nil_iff_forall_not_mem]
      intro j hj
      rw [mem_ready] at hj
      obtain ⟨h0,o,ho,_⟩:=hj
      have hlt:j < listed.size:=by rw [hsz]; exact (Array.getElem?_eq_some_iff.1 ho).1
      have:false∈listed:=by
        have:listed[j]=false:=by simpa [hlt] using h0
        rw [← this]; exact Array.getElem_mem hlt
      have:=Array.count_pos_iff.2 this
      omega
    exact ⟨hr,hpost listed hsz hr a w F m hI⟩
  | succ fuel ih=>
    intro listed hsz hcnt hS a w F m hI
    refine ⟨fun hr=>hpost listed hsz hr a w F m hI,fun j hj=>?_⟩
    obtain ⟨h0,o,ho,he⟩:=mem_ready.1 hj
    have hjs:j < ops.size:=(Array.getElem?_eq_some_iff.1 ho).1
    have hlt:j < listed.size:=by omega
    have hlj:listed[j]=false:=by simpa [hlt] using h0
    have hSj:zR listed j=false:=by unfold zR; simp [hlt,hlj]
    have hel:∀ e∈o.after,Region.binds .any e=true→zR listed e.on=true:=he
    obtain ⟨s,τt,τH,ts,hτ,hτl,hst⟩:=htr.get _ 0 _ _ _ j o (by simpa using ho)
    -- what the listed have brought is what stood at j
    have hagree:∀ d∈o.looksAt ops,(Zq (zR listed) (σ.tmps,zp σ.heap) 0 tr).1[d]?=τt[d]?:=fun d hdm=>by
      have h1:(Zq (fun k=>decide (k < j)) (σ.tmps,zp σ.heap) 0 tr)=(τt,zp τH):=by
        rw [aed tr 0 j _ (Nat.zero_le _),Nat.sub_zero]; exact hτ
      rw [show τt=(τt,zp τH).1 from rfl,← h1]
      refine ae5 tr 0 _ _ rfl rfl fun k t hk hne hdst=>?_
      rw [Nat.zero_add] at hne
      have hks:k < ops.size:=by have:=(List.getElem?_eq_some_iff.1 hk).1; omega
      have hok:ops[k]?=some ops[k]:=by simp [hks]
      obtain ⟨s',_,_,g1,_,_,g4⟩:=htr.get _ 0 _ _ _ k ops[k] (by simp [hks])
      rw [hk] at g1; injection g1 with g1; subst g1
      have hkj:k≠j:=fun e=>by subst e; simp [hSj] at hne
      have hpf:=afc hd hc htr hS ho hok ts hk hSj hel (by
        by_cases hlt':k < j
        · simp only [hlt',decide_true] at hne; exact .inr ⟨by simpa using hne,hlt'⟩
        · simp only [hlt',decide_false] at hne; exact .inl ⟨by simpa using hne,by omega⟩)
      exact hpf.1 d (by rw [← g4.1]; exact hdst) hdm
    have hlook:s.want=true→∀ i∈s.reads,(Zq (zR listed) (σ.tmps,zp σ.heap) 0 tr).2 i=zp τH i:=fun hw i him=>by
      have h1:(Zq (fun k=>decide (k < j)) (σ.tmps,zp σ.heap) 0 tr)=(τt,zp τH):=by
        rw [aed tr 0 j _ (Nat.zero_le _),Nat.sub_zero]; exact hτ
      rw [show zp τH=(τt,zp τH).2 from rfl,← h1]
      refine adR tr 0 _ _ rfl fun k t hk hne hwr=>?_
      rw [Nat.zero_add] at hne
      have hks:k < ops.size:=by have:=(List.getElem?_eq_some_iff.1 hk).1; omega
      have hok:ops[k]?=some ops[k]:=by simp [hks]
      have hkj:k≠j:=fun e=>by subst e; simp [hSj] at hne
      have hpf:=afc hd hc htr hS ho hok ts hk hSj hel (by
        by_cases hlt':k < j
        · simp only [hlt',decide_true] at hne; exact .inr ⟨by simpa using hne,hlt'⟩
        · simp only [hlt',decide_false] at hne; exact .inl ⟨by simpa using hne,by omega⟩)
      exact hpf.2.2.1 hw i hwr him
    -- the listed,and j
    have hsz':(listed.setIfInBounds j true).size=ops.size:=by simp [hsz]
    have hL:∀ i,zR (listed.setIfInBounds j true) i=upd1 (zR listed) j i:=fun i=>by
      unfold zR upd1
      by_cases hij:i=j
      · subst hij; simp [hlt]
      · rw [getD_set_ne false (Ne.symm hij)]
        have:(i == j)=false:=by simpa using hij
        rw [this]; rfl
    have hLf:zR (listed.setIfInBounds j true)=upd1 (zR listed) j:=funext hL
    have hcnt':(listed.setIfInBounds j true).count false≤fuel:=by
      have:listed.setIfInBounds j true=listed.set j true hlt:=by simp [Array.setIfInBounds,hlt]
      rw [this,Array.count_set]
      simp [hlj]
      omega
    have hS':ahb ops (zR (listed.setIfInBounds j true)):=fun i x hi hx e hem hb=>by
      rw [hL] at hx ⊢
      unfold upd1 at hx ⊢
      by_cases hij:i=j
      · subst hij
        rw [ho] at hi; injection hi with hi; subst hi
        rw [hel e hem hb]; simp
      · have:(i == j)=false:=by simpa using hij
        rw [this,Bool.false_or] at hx
        rw [hS i x hi hx e hem hb]; simp
    have hfold:Zq (zR (listed.setIfInBounds j true)) (σ.tmps,zp σ.heap) 0 tr=s.app (Zq (zR listed) (σ.tmps,zp σ.heap) 0 tr):=by
      rw [hLf]
      have:=ahe (S:=zR listed) tr 0 j (σ.tmps,zp σ.heap) ts (by rw [Nat.zero_add]; exact hSj) (fun k t hk hjk hSk=>by
        rw [Nat.zero_add] at hSk
        have hks:k < ops.size:=by have:=(List.getElem?_eq_some_iff.1 hk).1; omega
        have hok:ops[k]?=some ops[k]:=by simp [hks]
        obtain ⟨s',_,_,g1,_,_,g4⟩:=htr.get _ 0 _ _ _ k ops[k] (by simp [hks])
        rw [hk] at g1; injection g1 with g1; subst g1
        have hpf:=afc hd hc htr hS ho hok ts hk hSj hel (.inl ⟨hSk,hjk⟩)
        refine ⟨fun d hd=>?_,hpf.2.2.2⟩
        rw [hst.1] at hd; rw [g4.1]
        exact hpf.2.1 d hd)
      rw [Nat.zero_add] at this
      exact this
    unfold wpOp
    simp only [ho]
    generalize hx:Zq (zR listed) (σ.tmps,zp σ.heap) 0 tr=x at hI hagree hlook hfold
    have hbase:s.base=τH.length:=hst.2.1
    rcases hst.2.2 with ⟨hw0,hwA,heff⟩ | ⟨hw1,hwA,hop,hup,hrd,hfoot⟩
    · rw [if_neg (by rw [aa5 hI.t (by rw [aaN hagree]; exact hwA)]; exact Bool.false_ne_true)]
      refine ih _ hsz' hcnt' hS' _ w F m ?_
      rw [hfold]
      refine ⟨hI.ext,hI.keep,?_,?_,by rw [put_defers]; exact hI.d,fun k t hk hSk=>?_,hI.g⟩
      · simp only [Stp.app,heff]; rw [hst.1]; exact hI.t.put o.dst .undef
      · simp only [Stp.app,heff,Qk]; exact hI.I
      · refine hI.f k t hk ?_
        rw [hL] at hSk
        unfold upd1 at hSk
        cases h:zR listed k
        · rfl
        · rw [h] at hSk; simp at hSk
    · rw [if_pos (aa5 hI.t (by rw [aaN hagree]; exact hwA))]
      refine .inl ?_
      have hρ:=aaa (G:=G) (C:=C) (ρ:=qc x.1) (ρ':=qc τt) o x.2 s.base (aa2 hagree)
      have hρ':=aaa (G:=G) (C:=C) (ρ:=qc x.1) (ρ':=qc τt) o (zp τH) s.base (aa2 hagree)
      rw [hrd] at hlook
      have hlk:=aea (G:=G) (C:=C) (ρ:=qc τt) o (look:=zp τH) (look':=x.2) s.base (fun i hi=>(hlook hw1 i hi).symm)
      have hop':aOp G C (qc x.1) o x.2 s.base=some (.ok s.eff):=by
        rw [hρ.1,← hlk,hbase]; exact hop
      have hfoot':∀ i,i∈foot (qc x.1) o x.2→i < s.base:=fun i hi=>by
        rw [hρ.2,ad4 o (fun i hi=>(hlook hw1 i hi).symm),← hrd] at hi
        have:=List.all_eq_true.1 hfoot i hi
        rw [hbase]; simpa using this
      refine akx (nid:=s.base) (r:=.ok s.eff) hG hC hI.I hI.t.eval (fun i h1 h2=>hI.f j s ts hSj i h1 h2) hfoot' hop' _ _ (fun v w' hg=>?_) (fun v w' hb=>?_)
      · obtain ⟨e',he',hp⟩:=hg
        injection he' with he'
        subst he'
        obtain ⟨F',m',p1,p2,p3,p4,p5⟩:=hp
        have hupl:∀ p,p∈s.eff.upd→p.1 < s.base:=fun p hp=>by
          have:=List.all_eq_true.1 hup p hp
          rw [hbase]; simpa using this
        refine ih _ hsz' hcnt' hS' _ w' F' m' ?_
        rw [hfold]
        refine ⟨hI.ext.trans p1,fun i hi γ h y hy=>p2 _ _ _ _ (hI.keep i hi γ h y hy),?_,p4,by rw [put_defers]; exact hI.d,fun k t hk hSk i hi1 hi2 γ h=>?_,fun i hi γ h=>?_⟩
        · simp only [Stp.app]; rw [hst.1]; exact (hI.t.keep p1.fz p1.mono p2).put o.dst p3
        · have hSk':zR listed k=false∧k≠j:=by
            rw [hL] at hSk
            unfold upd1 at hSk
            rw [Bool.or_eq_false_iff] at hSk
            exact ⟨hSk.2,by simpa using hSk.1⟩
          have hb:=(htr.base _ _ _ _).2
          have q1:∀ p,p∈s.eff.upd→p.1≠i:=fun p hp e=>by
            by_cases hkj:k < j
            · have hks:k < ops.size:=by have:=(List.getElem?_eq_some_iff.1 hk).1; omega
              have hok:ops[k]?=some ops[k]:=by simp [hks]
              have hpf:=afc hd hc htr hS ho hok ts hk hSj hel (.inr ⟨hSk'.1,hkj⟩)
              exact hpf.2.2.2 i (.inl ⟨p,hp,e⟩) (.inr ⟨hi1,hi2⟩)
            · have:=hb j k s t (by omega) ts hk
              have:=hupl p hp
              omega
          have q2:i < s.base∨s.base+s.eff.new.length≤i:=by
            by_cases hkj:k < j
            · have:=hb k j t s hkj hk ts
              left; omega
            · have:=hb j k s t (by omega) ts hk
              right; omega
          rw [p5 i q1 q2]
          exact hI.f k t hk hSk'.1 i hi1 hi2 γ h
        · have:=hlen s (List.mem_of_getElem? ts)
          rw [p5 i (fun p hp e=>by have:=hupl p hp; omega) (.inr (by omega))]
          exact hI.g i hi γ h
      · obtain ⟨e',he',_⟩:=hb; cases he'
end Go.Ab
