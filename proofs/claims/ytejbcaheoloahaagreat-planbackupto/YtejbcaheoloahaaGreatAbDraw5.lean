import Derived.Test.YtejbcaheoloahaaGreatAbDraw4
set_option linter.unusedVariables false
set_option linter.unusedSimpArgs false
namespace Go.Ab
open Go
variable {w w':World} {F:Froz} {Pr:Nat→Prop} {m m':Mu} {look:Look} {nid:Nat}
theorem ahg {G:Cfg} {C:ZH} {ops:Array Oper}:∀ (l:List Oper) (i:Nat) (seen seen':List Seen) (σ σ':St) (v:AV),
    aav G C ops i l seen σ=some (.panic v,σ',seen')→∃ (k:Nat) (σp:St) (tr:List Stp) (o:Oper) (e:Eff),seen'=⟨i+k,[],[]⟩ :: ((qu i tr).reverse++seen)∧l[k]?=some o∧QX G C ops (l.take k) σ.tmps σ.heap tr∧
      Zq (fun _=>true) (σ.tmps,zp σ.heap) i tr=(σp.tmps,zp σp.heap)∧σ.heap.length≤σp.heap.length∧(∀ s∈tr,s.base+s.eff.new.length≤σp.heap.length)∧
      aaH ops σp.tmps o=some true∧aOp G C (qc σp.tmps) o (zp σp.heap) σp.heap.length=some (.pan e)∧abt σp.heap e=true∧ab3 σp.heap (foot (qc σp.tmps) o (zp σp.heap))=true∧v=e.val∧σ'=⟨σp.tmps,qy σp.heap e⟩
  | [],i,seen,seen',σ,σ',v,h=>by simp [aav] at h
  | o :: l,i,seen,seen',σ,σ',v,h=>by
    simp only [aav] at h
    split at h
    · cases h
    · rename_i hw
      obtain ⟨k,σp,tr,o',e,h0,h1,h2,h3,h4,h5,h6⟩:=ahg l _ _ _ _ _ _ h
      refine ⟨k+1,σp,⟨o.dst,σ.heap.length,⟨.undef,[],[]⟩,false,[]⟩ :: tr,o',e,?_,by simpa using h1,⟨_,_,rfl,⟨rfl,rfl,.inl ⟨rfl,hw,rfl⟩⟩,?_⟩,?_,h4,fun s hs=>?_,h6⟩
      · simp only [qu,Bool.false_eq_true,if_false,List.nil_append]
        rw [h0,show i+1+k=i+(k+1) by omega]
      · simp only [agk]; exact h2
      · simp only [Zq,if_true,Stp.app,Qk]; exact h3
      · cases hs with
        | head=>simpa using h4
        | tail _ hs=>exact h5 s hs
    · rename_i hw
      split at h
      · rename_i e he
        split at h
        rotate_left
        · cases h
        rename_i hc
        simp only [Bool.and_eq_true] at hc
        obtain ⟨k,σp,tr,o',e',h0,h1,h2,h3,h4,h5,h6⟩:=ahg l _ _ _ _ _ _ h
        simp only [qw] at h4
        refine ⟨k+1,σp,⟨o.dst,σ.heap.length,e,true,foot (qc σ.tmps) o (zp σ.heap)⟩ :: tr,o',e',?_,by simpa using h1,⟨_,_,rfl,⟨rfl,rfl,.inr ⟨rfl,hw,he,hc.1,rfl,hc.2⟩⟩,h2⟩,?_,by omega,fun s hs=>?_,h6⟩
        · rw [h0,show i+1+k=i+(k+1) by omega]
          simp only [qu,if_true,List.cons_append,List.nil_append,List.reverse_cons,List.append_assoc]
          rfl
        · simp only [Zq,if_true,Stp.app]
          rw [← abd hc.1]; exact h3
        · cases hs with
          | head=>exact h4
          | tail _ hs=>exact h5 s hs
      · rename_i e he
        split at h
        rotate_left
        · cases h
        rename_i hc
        simp only [Bool.and_eq_true] at hc
        simp only [Option.some.injEq,Prod.mk.injEq,Ex.panic.injEq] at h
        obtain ⟨rfl,rfl,rfl⟩:=h
        exact ⟨0,σ,[],o,e,rfl,rfl,rfl,rfl,Nat.le_refl _,(fun s hs=>by cases hs),hw,he,hc.1,hc.2,rfl,rfl⟩
      · cases h
theorem adI {ops:Array Oper} {tr:List Stp} (hd:aby ops=true)
    (hc:QB (Zy ops ops.size []) (qu 0 tr).reverse=true) (hq:∀ (q:Nat) (s:Stp),tr[q]?=some s→s.want=false→∀ i,¬ s.wr i) {S:Nat→Bool} (hS:ahb ops S)
    {j k:Nat} {oj ok:Oper} {sj sk:Stp} (hj:ops[j]?=some oj) (hk:ops[k]?=some ok) (tj:tr[j]?=some sj) (tk:tr[k]?=some sk)
    (hr:S j=false) (he:∀ e∈oj.after,Region.binds .any e=true→S e.on=true) (hne:(S k=true∧j < k)∨(S k=false∧k < j)):
    (∀ d,ok.dst=some d→d ∉ oj.looksAt ops)∧(∀ d,oj.dst=some d→ok.dst≠some d)∧
    (sj.want=true→∀ i,sk.wr i→i ∉ sj.reads)∧(∀ i,sj.wr i→¬ sk.wr i):=by
  have hbs:=fun (j:Nat) (l:Nat)=>abM hS ops.size [] (by simp) (fun j l h=>by simp at h) j l
  have wk:∀ {s:Stp} {q:Nat} {i:Nat},tr[q]?=some s→s.want=false→¬ s.wr i:=fun {s q i} hs hw=>hq q s hs hw i
  rcases hne with ⟨hSk,hjk⟩ | ⟨hSk,hkj⟩
  · have hnb:¬ hasB (Zy ops ops.size []) k j=true:=fun hm=>by
      unfold hasB at hm
      cases hb:(Zy ops ops.size [])[k]? with
      | none=>rw [hb] at hm; simp at hm
      | some l=>
        rw [hb] at hm
        have:=hbs k l hb ok hk (hS k ok hk hSk) j hm
        rw [hr] at this; cases this
    have ap:=Oper.apart_spec ((ach hd hk hj hjk).resolve_left hnb)
    refine ⟨ap.1,fun d h1 h2=>ap.2.1 d h2 h1,?_,?_⟩
    · intro hw i hi
      rcases aaz hc hjk tj tk with h | h | h
      · exact absurd h hnb
      · exact h.1 i hi hw
      · exact absurd hi (wk tk h)
    · intro i h1 h2
      rcases aaz hc hjk tj tk with h | h | h
      · exact absurd h hnb
      · cases w1:sj.want with
        | false=>exact wk tj w1 h1
        | true=>
          cases w2:sk.want with
          | false=>exact wk tk w2 h2
          | true=>exact h.2.1 i h2 w2 w1 h1
      · exact wk tk h h2
  · have hnb:¬ hasB (Zy ops ops.size []) j k=true:=fun hm=>by
      unfold hasB at hm
      cases hb:(Zy ops ops.size [])[j]? with
      | none=>rw [hb] at hm; simp at hm
      | some l=>
        rw [hb] at hm
        have:=hbs j l hb oj hj he k hm
        rw [hSk] at this; cases this
    have ap:=Oper.apart_spec ((ach hd hj hk hkj).resolve_left hnb)
    refine ⟨ap.2.2,ap.2.1,?_,?_⟩
    · intro hw i hi hm
      rcases aaz hc hkj tk tj with h | h | h
      · exact absurd h hnb
      · cases w1:sk.want with
        | false=>exact wk tk w1 hi
        | true=>exact h.2.2 i hw w1 hm hi
      · rw [hw] at h; cases h
    · intro i h1 h2
      rcases aaz hc hkj tk tj with h | h | h
      · exact absurd h hnb
      · cases w1:sk.want with
        | false=>exact wk tk w1 h2
        | true=>
          cases w2:sj.want with
          | false=>exact wk tj w2 h1
          | true=>exact h.2.1 i h1 w2 w1 h2
      · exact wk tj h h1
def abo (ops:Array Oper) (n p:Nat):List Stp:=(ops.toList.drop p).map fun o=>⟨o.dst,n,⟨.any,[],[]⟩,false,[]⟩
theorem aiT:∀ (l r:List Stp) (i:Nat),qu i (l++r)=qu i l++qu (i+l.length) r
  | [],r,i=>by simp [qu]
  | t :: l,r,i=>by
    simp only [List.cons_append,qu,List.length_cons,List.append_assoc]
    rw [aiT l r (i+1),show i+1+l.length=i+(l.length+1) by omega]
theorem agb:∀ (l:List Stp) (i:Nat),(∀ s∈l,s.want=false)→qu i l=[]
  | [],i,_=>rfl
  | t :: l,i,h=>by simp only [qu,h t (by simp),Bool.false_eq_true,if_false,List.nil_append]; exact agb l _ fun s hs=>h s (by simp [hs])
theorem akQ {ops:Array Oper} {n p:Nat} (tr:List Stp):qu 0 (tr++abo ops n p)=qu 0 tr:=by
  rw [aiT,agb (abo ops n p) _ (fun s hs=>by
    obtain ⟨o,_,rfl⟩:=List.mem_map.1 hs
    rfl),List.append_nil]
theorem ahr {ops:Array Oper} {n p:Nat} {tr:List Stp} (hl:tr.length=p) (hp:p≤ops.size) {k:Nat} (hk:p≤k) (s:Stp):(tr++abo ops n p)[k]?=some s↔∃ o,ops[k]?=some o∧s=⟨o.dst,n,⟨.any,[],[]⟩,false,[]⟩:=by
  rw [List.getElem?_append_right (by omega)]
  unfold abo
  rw [List.getElem?_map,List.getElem?_drop,hl,show p+(k - p)=k by omega]
  rw [Option.map_eq_some_iff]
  simp only [Array.getElem?_toList]
  constructor
  · rintro ⟨o,h,rfl⟩; exact ⟨o,h,rfl⟩
  · rintro ⟨o,h,rfl⟩; exact ⟨o,h,rfl⟩
theorem ah2 {x:TL} (l r:List Stp):Zq (fun k=>decide (k < l.length)) x 0 (l++r)=Zq (fun _=>true) x 0 l:=by
  rw [aed _ 0 _ _ (Nat.zero_le _),Nat.sub_zero,List.take_left]
theorem RelT.anys {tmps:Array Value} {as bs:List AV} (h:RelT w F m tmps as) (hl:as.length=bs.length):RelT w F m tmps (bs.map fun _=>.any):=by
  refine ⟨by rw [h.1,List.length_map,hl],fun t v hv x hx=>?_⟩
  rw [List.getElem?_map] at hx
  cases hb:bs[t]? with
  | none=>rw [hb] at hx; cases hx
  | some b=>rw [hb] at hx; injection hx with hx; subst hx; exact .any
theorem aoo {G:Cfg} {C:ZH} {B:ab5} (hG:GOk G) (hC:acM G.P C) {ops:Array Oper} {tr:List Stp} {σ σp:St} {p:Nat} {op:Oper} {ep:Eff}
    (hd:aby ops=true) (hc:QB (Zy ops ops.size []) (qu 0 tr).reverse=true) (htr:QX G C ops (ops.toList.take p) σ.tmps σ.heap tr)
    (hfin:Zq (fun _=>true) (σ.tmps,zp σ.heap) 0 tr=(σp.tmps,zp σp.heap)) (hlen:∀ s∈tr,s.base+s.eff.new.length≤σp.heap.length) (hn0:B.n0≤σ.heap.length) (hn1:B.n0≤σp.heap.length)
    (hp:ops[p]?=some op) (hpo:alZ G ops (qu 0 tr).reverse σp.tmps p=true) (hwp:aaH ops σp.tmps op=some true) (hap:aOp G C (qc σp.tmps) op (zp σp.heap) σp.heap.length=some (.pan ep))
    (hup:abt σp.heap ep=true) (hfp:ab3 σp.heap (foot (qc σp.tmps) op (zp σp.heap))=true):
    ∀ (fuel:Nat) (listed:Array Bool),listed.size=ops.size→listed.count false≤fuel→zR listed p=false→ahb ops (zR listed)→∀ (a:Act) (w:World) (F:Froz) (m:Mu),
      DInv B (Zq (zR listed) (σ.tmps,zp σ.heap) 0 (tr++abo ops σp.heap.length p)) (tr++abo ops σp.heap.length p) σp.heap.length (zR listed) a w F m→
      wpAny G.P .any ops (ac6 B (.panic ep.val) ⟨σp.tmps.map fun _=>.any,qy σp.heap ep⟩) fuel listed a w:=by
  have hpl:p < ops.size:=(Array.getElem?_eq_some_iff.1 hp).1
  have htl:tr.length=p:=by have:=htr.length; simp at this; omega
  have hLk:∀ k,k < p→∀ hk:k < ops.size,(ops.toList.take p)[k]?=some ops[k]:=fun k h hk=>by rw [List.getElem?_take_of_lt h]; simp [hk]
  have hlt1:∀ k,k < p→(tr++abo ops σp.heap.length p)[k]?=tr[k]?:=fun k hk=>List.getElem?_append_left (by omega)
  have hge1:∀ (k:Nat) (s:Stp),p≤k→(tr++abo ops σp.heap.length p)[k]?=some s→∃ o:Oper,ops[k]?=some o∧s=⟨o.dst,σp.heap.length,⟨.any,[],[]⟩,false,[]⟩:=fun k s hk h=>(ahr htl (Nat.le_of_lt hpl) hk s).1 h
  have hge2:∀ (k:Nat) (o:Oper),p≤k→ops[k]?=some o→(tr++abo ops σp.heap.length p)[k]?=some ⟨o.dst,σp.heap.length,⟨.any,[],[]⟩,false,[]⟩:=fun k o hk h=>(ahr htl (Nat.le_of_lt hpl) hk _).2 ⟨o,h,rfl⟩
  have hnw:∀ (n:Nat) (d:Option Nat) (i:Nat),¬ (⟨d,n,⟨.any,[],[]⟩,false,[]⟩:Stp).wr i:=fun n d i=>by
    unfold Stp.wr; rintro (⟨q,hq,_⟩ | hh)
    · cases hq
    · simp at hh; omega
  have hlen':∀ (k:Nat) (s:Stp),(tr++abo ops σp.heap.length p)[k]?=some s→∃ o:Oper,ops[k]?=some o∧s.dst=o.dst:=fun k s hk=>by
    by_cases h:k < p
    · rw [hlt1 k h] at hk
      have hks:k < ops.size:=by omega
      obtain ⟨s',_,_,g1,_,_,g4⟩:=htr.get _ 0 _ _ _ k ops[k] (hLk k h hks)
      rw [hk] at g1; injection g1 with g1; subst g1
      exact ⟨_,by simp [hks],g4.1⟩
    · obtain ⟨o,ho,rfl⟩:=hge1 k s (by omega) hk
      exact ⟨o,ho,rfl⟩
  have hq:∀ (q:Nat) (s:Stp),(tr++abo ops σp.heap.length p)[q]?=some s→s.want=false→∀ i,¬ s.wr i:=fun q s hs hw i=>by
    by_cases h:q < p
    · rw [hlt1 q h] at hs
      have hks:q < ops.size:=by omega
      obtain ⟨s',_,_,g1,_,_,g4⟩:=htr.get _ 0 _ _ _ q ops[q] (hLk q h hks)
      rw [hs] at g1; injection g1 with g1; subst g1
      rcases g4.2.2 with h | h
      · unfold Stp.wr; rw [h.2.2]; rintro (⟨p,hp,_⟩ | hh)
        · cases hp
        · simp at hh; omega
      · rw [hw] at h; simp at h
    · obtain ⟨o,ho,rfl⟩:=hge1 q s (by omega) hs
      exact hnw _ _ _
  have hcX:QB (Zy ops ops.size []) (qu 0 (tr++abo ops σp.heap.length p)).reverse=true:=by rw [akQ]; exact hc
  have hbX:∀ (k1 k2:Nat) (s1 s2:Stp),k1 < k2→(tr++abo ops σp.heap.length p)[k1]?=some s1→(tr++abo ops σp.heap.length p)[k2]?=some s2→s1.base+s1.eff.new.length≤s2.base:=fun k1 k2 s1 s2 hk e1 e2=>by
    by_cases h2:k2 < p
    · rw [hlt1 _ h2] at e2; rw [hlt1 _ (by omega)] at e1
      exact (htr.base _ _ _ _).2 k1 k2 s1 s2 hk e1 e2
    · obtain ⟨o,ho,rfl⟩:=hge1 k2 s2 (by omega) e2
      by_cases h1:k1 < p
      · rw [hlt1 _ h1] at e1
        exact hlen s1 (List.mem_of_getElem? e1)
      · obtain ⟨o1,ho1,rfl⟩:=hge1 k1 s1 (by omega) e1
        simp
  have hlenX:∀ (k:Nat) (s:Stp),(tr++abo ops σp.heap.length p)[k]?=some s→s.base+s.eff.new.length≤σp.heap.length:=fun k s hk=>by
    by_cases h:k < p
    · rw [hlt1 k h] at hk; exact hlen s (List.mem_of_getElem? hk)
    · obtain ⟨o,ho,rfl⟩:=hge1 k s (by omega) hk
      simp
  have hfinX:Zq (fun k=>decide (k < p)) (σ.tmps,zp σ.heap) 0 (tr++abo ops σp.heap.length p)=(σp.tmps,zp σp.heap):=by
    have:=ah2 (x:=(σ.tmps,zp σ.heap)) tr (abo ops σp.heap.length p)
    rw [htl] at this
    rw [this,hfin]
  revert hfinX hbX hcX hq hlen' hlt1 hge1 hge2 hlenX
  generalize tr++abo ops σp.heap.length p=trX
  intro hlt1 hge1 hge2 hlen' hq hcX hbX hlenX hfinX
  have hend:∀ (listed:Array Bool),listed.size=ops.size→Region.ready .any ops listed=[]→∀ j,j < ops.size→zR listed j=true:=by
    intro listed hsz hr j
    induction j using Nat.strongRecOn with
    | ind j ih=>
      intro hj
      have ho:ops[j]?=some ops[j]:=by simp [hj]
      cases hl:zR listed j with
      | true=>rfl
      | false=>
        have:j∈Region.ready .any ops listed:=by
          rw [mem_ready]
          refine ⟨?_,_,ho,fun e he hb=>?_⟩
          · unfold zR at hl; simp [show j < listed.size by omega] at hl ⊢; exact hl
          · have hlt:=agx hd ho he hb
            exact ih e.on hlt (by omega)
        rw [hr] at this; cases this
  have hno:∀ (listed:Array Bool),listed.size=ops.size→zR listed p=false→Region.ready .any ops listed=[]→False:=fun listed hsz hl hr=>by
    rw [hend listed hsz hr p hpl] at hl; cases hl
  intro fuel
  induction fuel with
  | zero=>
    intro listed hsz hcnt hsub hS a w F m hI
    have hr:Region.ready .any ops listed=[]:=by
      rw [List.eq_nil_iff_forall_not_mem]
      intro j hj
      rw [mem_ready] at hj
      obtain ⟨h0,o,ho,_⟩:=hj
      have hlt:j < listed.size:=by rw [hsz]; exact (Array.getElem?_eq_some_iff.1 ho).1
      have:false∈listed:=by
        have:listed[j]=false:=by simpa [hlt] using h0
        rw [← this]; exact Array.getElem_mem hlt
      have:=Array.count_pos_iff.2 this
      omega
    exact (hno listed hsz hsub hr).elim
  | succ fuel ih=>
    intro listed hsz hcnt hsub hS a w F m hI
    refine ⟨fun hr=>(hno listed hsz hsub hr).elim,fun j hj=>?_⟩
    obtain ⟨h0,o,ho,he⟩:=mem_ready.1 hj
    have hjs:j < ops.size:=(Array.getElem?_eq_some_iff.1 ho).1
    have hlt:j < listed.size:=by omega
    have hlj:listed[j]=false:=by simpa [hlt] using h0
    have hSj:zR listed j=false:=by unfold zR; simp [hlt,hlj]
    have hel:∀ e∈o.after,Region.binds .any e=true→zR listed e.on=true:=he
    have hbs:=fun (j l:Nat)=>abM hS ops.size [] (by simp) (fun j l h=>by simp at h) j l
    have hB:∀ k,hasB (Zy ops ops.size []) j k=true→zR listed k=true:=fun k hk=>by
      unfold hasB at hk
      cases hb:(Zy ops ops.size [])[j]? with
      | none=>rw [hb] at hk; simp at hk
      | some l=>rw [hb] at hk; exact hbs j l hb o ho hel k hk
    have hBl:∀ q,q < ops.size→zR listed q=true→∀ k,hasB (Zy ops ops.size []) q k=true→zR listed k=true:=fun q hq hlq k hk=>by
      have hoq:ops[q]?=some ops[q]:=by simp [hq]
      unfold hasB at hk
      cases hb:(Zy ops ops.size [])[q]? with
      | none=>rw [hb] at hk; simp at hk
      | some l=>rw [hb] at hk; exact hbs q l hb _ hoq (hS q _ hoq hlq) k hk
    -- the listed,and j
    have hsz':(listed.setIfInBounds j true).size=ops.size:=by simp [hsz]
    have hL:∀ i,zR (listed.setIfInBounds j true) i=upd1 (zR listed) j i:=fun i=>by
      unfold zR upd1
      by_cases hij:i=j
      · subst hij; simp [hlt]
      · rw [getD_set_ne false (Ne.symm hij)]
        have:(i == j)=false:=by simpa using hij
        rw [this]; rfl
    have hLf:zR (listed.setIfInBounds j true)=upd1 (zR listed) j:=funext hL
    have hcnt':(listed.setIfInBounds j true).count false≤fuel:=by
      have:listed.setIfInBounds j true=listed.set j true hlt:=by simp [Array.setIfInBounds,hlt]
      rw [this,Array.count_set]
      simp [hlj]
      omega
    have hS':ahb ops (zR (listed.setIfInBounds j true)):=fun i x hi hx e hem hb=>by
      rw [hL] at hx ⊢
      unfold upd1 at hx ⊢
      by_cases hij:i=j
      · subst hij
        rw [ho] at hi; injection hi with hi; subst hi
        rw [hel e hem hb]; simp
      · have:(i == j)=false:=by simpa using hij
        rw [this,Bool.false_or] at hx
        rw [hS i x hi hx e hem hb]; simp
    have hsub':j≠p→zR (listed.setIfInBounds j true) p=false:=fun hne=>by
      rw [hL]
      unfold upd1
      have:(p == j)=false:=by simpa using fun e=>hne e.symm
      rw [this,hsub]; rfl
    -- what stands at j,as listed
    have hagr:∀ (D:List Nat),(∀ d∈D,d∈o.looksAt ops)→∀ d∈D,(Zq (zR listed) (σ.tmps,zp σ.heap) 0 trX).1[d]?=(Zq (fun k=>decide (k < j)) (σ.tmps,zp σ.heap) 0 trX).1[d]?:=fun D hD d hdm=>by
      refine ae5 trX 0 _ _ rfl rfl fun k t hk hne hdst=>?_
      rw [Nat.zero_add] at hne
      obtain ⟨ok,hok,hdk⟩:=hlen' k t hk
      have hks:k < ops.size:=(Array.getElem?_eq_some_iff.1 hok).1
      have hkj:k≠j:=fun e=>by subst e; simp [hSj] at hne
      obtain ⟨sj,hsj⟩:∃ sj,trX[j]?=some sj:=by
        by_cases hjp:j < p
        · have hjs':j < tr.length:=by omega
          exact ⟨tr[j],by rw [hlt1 j hjp]; simp [hjs']⟩
        · exact ⟨_,hge2 j o (by omega) ho⟩
      have hpf:=adI hd hcX hq hS ho hok hsj hk hSj hel (by
        by_cases hlt':k < j
        · simp only [hlt',decide_true] at hne; exact .inr ⟨by simpa using hne,hlt'⟩
        · simp only [hlt',decide_false] at hne; exact .inl ⟨by simpa using hne,by omega⟩)
      exact hpf.1 d (by rw [← hdk]; exact hdst) (hD d hdm)
    by_cases hjp2:j=p
    · subst hjp2
      rw [hp] at ho; injection ho with ho; subst ho
      have hag:=hagr _ (fun d h=>h)
      rw [hfinX] at hag
      have hlk:(Zq (zR listed) (σ.tmps,zp σ.heap) 0 trX).2=zp σp.heap:=by
        rw [show zp σp.heap=(σp.tmps,zp σp.heap).2 from rfl,← hfinX]
        funext i
        refine adR trX 0 _ _ rfl fun k t hk hne=>?_
        rw [Nat.zero_add] at hne
        by_cases hkp:k < j
        · simp only [hkp,decide_true] at hne
          have hnl:zR listed k=false:=by simpa using hne
          have hks:k < ops.size:=by omega
          have:=List.all_eq_true.1 hpo k (List.mem_range.2 hks)
          rw [Bool.or_eq_true] at this
          rcases this with h | h
          · have:k=j:=by simpa using h
            omega
          · rw [if_pos hkp,Bool.or_eq_true] at h
            rcases h with h | h
            · rw [hB k h] at hnl; cases hnl
            · cases hw:t.want with
              | false=>exact hq k t hk hw i
              | true=>
                rw [hlt1 k hkp] at hk
                have:=List.all_eq_true.1 h ⟨0+k,t.reads,t.writes⟩ (by simpa using af1 tr 0 k t hk hw)
                simp only [Nat.zero_add,bne_self_eq_false,Bool.false_or,List.isEmpty_iff] at this
                rw [← Stp.mem_writes,this]
                simp
        · obtain ⟨o',ho',rfl⟩:=hge1 k t (by omega) hk
          exact hnw _ _ _
      have hln:(Zq (zR listed) (σ.tmps,zp σ.heap) 0 trX).1.length=σp.tmps.length:=by
        rw [aho]
        have:=aho (S:=fun _=>true) tr 0 (σ.tmps,zp σ.heap)
        rw [hfin] at this
        exact this.symm
      revert hI hag hlk hln
      generalize Zq (zR listed) (σ.tmps,zp σ.heap) 0 trX=x
      obtain ⟨xt,xl⟩:=x
      intro hI hag hlk hln
      simp only at hlk hag hln
      subst hlk
      unfold wpOp
      simp only [hp]
      rw [if_pos (aa5 hI.t (by rw [aaN hag]; exact hwp))]
      refine .inl ?_
      have hρ:=aaa (G:=G) (C:=C) (ρ:=qc xt) (ρ':=qc σp.tmps) op (zp σp.heap) σp.heap.length (aa2 hag)
      refine akx (nid:=σp.heap.length) (r:=.pan ep) hG hC hI.I hI.t.eval (fun i h1 _=>hI.g i h1) (fun i hi=>by
        rw [hρ.2] at hi
        have:=List.all_eq_true.1 hfp i hi; simpa using this) (by rw [hρ.1]; exact hap) _ _ (fun v w' hg=>?_) (fun v w' hb=>?_)
      · obtain ⟨e',he',_⟩:=hg; cases he'
      · obtain ⟨e',he',hpp⟩:=hb
        injection he' with he'
        subst he'
        have hs:Q5 B w F m ⟨xt,σp.heap⟩ a:=⟨hI.ext,hI.keep,⟨hI.t,hI.I,hI.g⟩,hI.d,hn1⟩
        obtain ⟨F',m',hs',hv⟩:=hs.postPan hpp hup
        exact ⟨F',m',⟨hs'.1,hs'.2.1,⟨hs'.2.2.1.t.anys hln,hs'.2.2.1.I,hs'.2.2.1.f⟩,hs'.2.2.2.1,hs'.2.2.2.2⟩,v,rfl,hv⟩
    have hfold:∀ s,trX[j]?=some s→Zq (zR (listed.setIfInBounds j true)) (σ.tmps,zp σ.heap) 0 trX=s.app (Zq (zR listed) (σ.tmps,zp σ.heap) 0 trX):=fun s ts=>by
      rw [hLf]
      have:=ahe (S:=zR listed) trX 0 j (σ.tmps,zp σ.heap) ts (by rw [Nat.zero_add]; exact hSj) (fun k t hk hjk hSk=>by
        rw [Nat.zero_add] at hSk
        obtain ⟨ok,hok,hdk⟩:=hlen' k t hk
        obtain ⟨oj,hoj,hdj⟩:=hlen' j s ts
        rw [ho] at hoj; injection hoj with hoj; subst hoj
        have hpf:=adI hd hcX hq hS ho hok ts hk hSj hel (.inl ⟨hSk,hjk⟩)
        refine ⟨fun d hd=>?_,hpf.2.2.2⟩
        rw [hdj] at hd; rw [hdk]
        exact hpf.2.1 d hd)
      rw [Nat.zero_add] at this
      exact this
    by_cases hjp:¬ j < p
    · -- one that stands behind,and is free
      have hfr:amR G ops σp.tmps j=true:=by
        have:=List.all_eq_true.1 hpo j (List.mem_range.2 hjs)
        rw [Bool.or_eq_true] at this
        rcases this with h | h
        · exact absurd (by simpa using h) hjp2
        · rw [if_neg hjp,Bool.or_eq_true] at h
          rcases h with h | h
          · rw [hB p h] at hsub; cases hsub
          · exact h
      unfold amR at hfr
      rw [ho] at hfr
      simp only [Bool.and_eq_true] at hfr
      obtain ⟨hfr1,hfr2⟩:=hfr
      split at hfr1
      rotate_left
      · cases hfr1
      rename_i s x f hop hgd
      obtain ⟨v,hv⟩:=Option.isSome_iff_exists.1 hfr1
      have hag:∀ d∈o.looksAt ops,(Zq (zR listed) (σ.tmps,zp σ.heap) 0 trX).1[d]?=σp.tmps[d]?:=fun d hdm=>by
        rw [show σp.tmps=(σp.tmps,zp σp.heap).1 from rfl,← hfinX]
        refine ae5 trX 0 _ _ rfl rfl fun k t hk hne hdst=>?_
        obtain ⟨ok,hok,hdk⟩:=hlen' k t hk
        have:=List.all_eq_true.1 hfr2 d hdm
        rw [Array.all_eq_true_iff_forall_mem] at this
        have:=this ok (Array.mem_of_getElem? hok)
        rw [← hdk,hdst] at this
        simp at this
      have hs:=hge2 j o (by omega) ho
      have hfo:=hfold _ hs
      revert hI hag hfo
      generalize Zq (zR listed) (σ.tmps,zp σ.heap) 0 trX=x
      obtain ⟨xt,xl⟩:=x
      intro hI hag hfo
      simp only at hag
      have hop':aOp G C (qc xt) o xl σp.heap.length=some (.ok ⟨v,[],[]⟩):=by
        have:=(aaa (G:=G) (C:=C) (ρ:=qc xt) (ρ':=qc σp.tmps) o xl σp.heap.length (aa2 hag)).1
        rw [this]
        unfold aOp
        rw [hop]
        simp only [hv]
        rfl
      have hft:foot (qc xt) o xl=[]:=by unfold foot; rw [hop]
      unfold wpOp
      simp only [ho]
      rw [if_pos (aa5 (b:=true) hI.t (by unfold aaH; rw [hgd]))]
      refine .inl ?_
      refine akx (nid:=σp.heap.length) (r:=.ok ⟨v,[],[]⟩) hG hC hI.I hI.t.eval (fun i h1 _=>hI.g i h1) (fun i hi=>by rw [hft] at hi; cases hi) hop' _ _ (fun v' w' hg=>?_) (fun v' w' hb=>?_)
      · obtain ⟨e',he',hp'⟩:=hg
        injection he' with he'
        subst he'
        obtain ⟨F',m',p1,p2,p3,p4,p5⟩:=hp'
        refine ih _ hsz' hcnt' (hsub' hjp2) hS' _ w' F' m' ?_
        rw [hfo]
        refine ⟨hI.ext.trans p1,fun i hi γ h y hy=>p2 _ _ _ _ (hI.keep i hi γ h y hy),?_,?_,by rw [put_defers]; exact hI.d,fun k t hk hSk i hi1 hi2 γ h=>?_,fun i hi γ h=>?_⟩
        · simp only [Stp.app]; exact (hI.t.keep p1.fz p1.mono p2).put o.dst .any
        · simp only [Stp.app,Qk]; simp only [Qk] at p4; exact p4
        · rw [p5 i (fun p hp=>by cases hp) (by simp; omega)]
          refine hI.f k t hk ?_ i hi1 hi2 γ h
          rw [hL] at hSk
          unfold upd1 at hSk
          rw [Bool.or_eq_false_iff] at hSk
          exact hSk.2
        · rw [p5 i (fun p hp=>by cases hp) (by simp; omega)]
          exact hI.g i hi γ h
      · obtain ⟨e',he',_⟩:=hb; cases he'
    replace hjp:j < p:=Nat.lt_of_not_le (fun h=>hjp (Nat.not_lt.2 h))
    obtain ⟨s,τt,τH,ts0,hτ,hτl,hst⟩:=htr.get _ 0 _ _ _ j o (by rw [List.getElem?_take_of_lt hjp]; simpa using ho)
    have ts:trX[j]?=some s:=by rw [hlt1 j hjp]; exact ts0
    have h1:(Zq (fun k=>decide (k < j)) (σ.tmps,zp σ.heap) 0 trX)=(τt,zp τH):=by
      rw [aed trX 0 j _ (Nat.zero_le _),Nat.sub_zero,← hτ]
      congr 1
      refine List.ext_getElem? fun k=>?_
      by_cases hk:k < j
      · rw [List.getElem?_take_of_lt hk,List.getElem?_take_of_lt hk,hlt1 k (by omega)]
      · rw [List.getElem?_eq_none (by rw [List.length_take]; omega),List.getElem?_eq_none (by rw [List.length_take]; omega)]
    -- what the listed have brought is what stood at j
    have hagree:∀ d∈o.looksAt ops,(Zq (zR listed) (σ.tmps,zp σ.heap) 0 trX).1[d]?=τt[d]?:=fun d hdm=>by
      rw [hagr _ (fun d h=>h) d hdm,h1]
    have hlook:s.want=true→∀ i∈s.reads,(Zq (zR listed) (σ.tmps,zp σ.heap) 0 trX).2 i=zp τH i:=fun hw i him=>by
      rw [show zp τH=(τt,zp τH).2 from rfl,← h1]
      refine adR trX 0 _ _ rfl fun k t hk hne hwr=>?_
      rw [Nat.zero_add] at hne
      obtain ⟨ok,hok,hdk⟩:=hlen' k t hk
      have hkj:k≠j:=fun e=>by subst e; simp [hSj] at hne
      have hpf:=adI hd hcX hq hS ho hok ts hk hSj hel (by
        by_cases hlt':k < j
        · simp only [hlt',decide_true] at hne; exact .inr ⟨by simpa using hne,hlt'⟩
        · simp only [hlt',decide_false] at hne; exact .inl ⟨by simpa using hne,by omega⟩)
      exact hpf.2.2.1 hw i hwr him
    have hfold:=hfold s ts
    unfold wpOp
    simp only [ho]
    generalize hx:Zq (zR listed) (σ.tmps,zp σ.heap) 0 trX=x at hI hagree hlook hfold
    have hbase:s.base=τH.length:=hst.2.1
    rcases hst.2.2 with ⟨hw0,hwA,heff⟩ | ⟨hw1,hwA,hop,hup,hrd,hfoot⟩
    · rw [if_neg (by rw [aa5 hI.t (by rw [aaN hagree]; exact hwA)]; exact Bool.false_ne_true)]
      refine ih _ hsz' hcnt' (hsub' hjp2) hS' _ w F m ?_
      rw [hfold]
      refine ⟨hI.ext,hI.keep,?_,?_,by rw [put_defers]; exact hI.d,fun k t hk hSk=>?_,hI.g⟩
      · simp only [Stp.app,heff]; rw [hst.1]; exact hI.t.put o.dst .undef
      · simp only [Stp.app,heff,Qk]; exact hI.I
      · refine hI.f k t hk ?_
        rw [hL] at hSk
        unfold upd1 at hSk
        cases h:zR listed k
        · rfl
        · rw [h] at hSk; simp at hSk
    · rw [if_pos (aa5 hI.t (by rw [aaN hagree]; exact hwA))]
      refine .inl ?_
      have hρ:=aaa (G:=G) (C:=C) (ρ:=qc x.1) (ρ':=qc τt) o x.2 s.base (aa2 hagree)
      have hρ':=aaa (G:=G) (C:=C) (ρ:=qc x.1) (ρ':=qc τt) o (zp τH) s.base (aa2 hagree)
      rw [hrd] at hlook
      have hlk:=aea (G:=G) (C:=C) (ρ:=qc τt) o (look:=zp τH) (look':=x.2) s.base (fun i hi=>(hlook hw1 i hi).symm)
      have hop':aOp G C (qc x.1) o x.2 s.base=some (.ok s.eff):=by
        rw [hρ.1,← hlk,hbase]; exact hop
      have hfoot':∀ i,i∈foot (qc x.1) o x.2→i < s.base:=fun i hi=>by
        rw [hρ.2,ad4 o (fun i hi=>(hlook hw1 i hi).symm),← hrd] at hi
        have:=List.all_eq_true.1 hfoot i hi
        rw [hbase]; simpa using this
      refine akx (nid:=s.base) (r:=.ok s.eff) hG hC hI.I hI.t.eval (fun i h1 h2=>hI.f j s ts hSj i h1 h2) hfoot' hop' _ _ (fun v w' hg=>?_) (fun v w' hb=>?_)
      · obtain ⟨e',he',hp⟩:=hg
        injection he' with he'
        subst he'
        obtain ⟨F',m',p1,p2,p3,p4,p5⟩:=hp
        have hupl:∀ p,p∈s.eff.upd→p.1 < s.base:=fun p hp=>by
          have:=List.all_eq_true.1 hup p hp
          rw [hbase]; simpa using this
        refine ih _ hsz' hcnt' (hsub' hjp2) hS' _ w' F' m' ?_
        rw [hfold]
        refine ⟨hI.ext.trans p1,fun i hi γ h y hy=>p2 _ _ _ _ (hI.keep i hi γ h y hy),?_,p4,by rw [put_defers]; exact hI.d,fun k t hk hSk i hi1 hi2 γ h=>?_,fun i hi γ h=>?_⟩
        · simp only [Stp.app]; rw [hst.1]; exact (hI.t.keep p1.fz p1.mono p2).put o.dst p3
        · have hSk':zR listed k=false∧k≠j:=by
            rw [hL] at hSk
            unfold upd1 at hSk
            rw [Bool.or_eq_false_iff] at hSk
            exact ⟨hSk.2,by simpa using hSk.1⟩
          have q1:∀ p,p∈s.eff.upd→p.1≠i:=fun p hp e=>by
            by_cases hkj:k < j
            · obtain ⟨ok,hok,hdk⟩:=hlen' k t hk
              have hpf:=adI hd hcX hq hS ho hok ts hk hSj hel (.inr ⟨hSk'.1,hkj⟩)
              exact hpf.2.2.2 i (.inl ⟨p,hp,e⟩) (.inr ⟨hi1,hi2⟩)
            · have:=hbX j k s t (by omega) ts hk
              have:=hupl p hp
              omega
          have q2:i < s.base∨s.base+s.eff.new.length≤i:=by
            by_cases hkj:k < j
            · have:=hbX k j t s hkj hk ts
              left; omega
            · have:=hbX j k s t (by omega) ts hk
              right; omega
          rw [p5 i q1 q2]
          exact hI.f k t hk hSk'.1 i hi1 hi2 γ h
        · have:=hlenX j s ts
          rw [p5 i (fun p hp e=>by have:=hupl p hp; omega) (.inr (by omega))]
          exact hI.g i hi γ h
      · obtain ⟨e',he',_⟩:=hb; cases he'
end Go.Ab
