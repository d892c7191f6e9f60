import Derived.Test.YtejbcaheoloahaaGreatAbDraw4
set_option linter.all false
namespace Go.Ab
open Go
variable {w w':World}{F:Froz}{Pr:Nat→Prop}{m m':Mu}{look:Look}{nid:Nat}
theorem ak9 {G:Cfg}{C:qi}{ops:Array Oper}:∀ (l:List Oper) (i:Nat) (seen seen':List Seen) (σ σ':St) (v:AV),
  acy G C ops i l seen σ=some (.panic v,σ',seen')→∃ (k:Nat) (σp:St) (tr:List Stp) (o:Oper) (e:Eff),seen'=⟨i+k,[],[]⟩::((ab0 i tr).reverse++seen)∧l[k]?=some o∧aaZ G C ops (l.take k) σ.tmps σ.heap tr∧
   qf (fun _=>true) (σ.tmps,zw σ.heap) i tr=(σp.tmps,zw σp.heap)∧σ.heap.length≤σp.heap.length∧(∀ s∈tr,s.base+s.eff.new.length≤σp.heap.length)∧
   adi ops σp.tmps o=some true∧aOp G C (QL σp.tmps) o (zw σp.heap) σp.heap.length=some (.pan e)∧aep σp.heap e=true∧afe σp.heap (foot (QL σp.tmps) o (zw σp.heap))=true∧v=e.val∧σ'=⟨σp.tmps,QI σp.heap e⟩
 |[],i,seen,seen',σ,σ',v,h=>by simp [acy] at h
 |o::l,i,seen,seen',σ,σ',v,h=>by
  simp only [acy] at h
  split at h
  ·cases h
  ·rename_i hw
   obtain ⟨k,σp,tr,o',e,h0,h1,h2,h3,h4,h5,h6⟩:=ak9 l _ _ _ _ _ _ h
   refine ⟨k+1,σp,⟨o.dst,σ.heap.length,⟨.undef,[],[]⟩,false,[]⟩::tr,o',e,?_,by simpa using h1,⟨_,_,rfl,⟨rfl,rfl,.inl ⟨rfl,hw,rfl⟩⟩,?_⟩,?_,h4,fun s hs=>?_,h6⟩
   ·simp only [ab0,Bool.false_eq_true,if_false,List.nil_append]
    rw [h0,show i+1+k=i+(k+1) by omega]
   ·simp only [aki];exact h2
   ·simp only [qf,if_true,Stp.app,acH];exact h3
   cases hs with
   |head=>simpa using h4
   |tail _ hs=>exact h5 s hs
  rename_i hw
  split at h
  ·rename_i e he
   split at h
   rotate_left
   ·cases h
   rename_i hc
   simp only [jj] at hc
   obtain ⟨k,σp,tr,o',e',h0,h1,h2,h3,h4,h5,h6⟩:=ak9 l _ _ _ _ _ _ h
   simp only [QF] at h4
   refine ⟨k+1,σp,⟨o.dst,σ.heap.length,e,true,foot (QL σ.tmps) o (zw σ.heap)⟩::tr,o',e',?_,by simpa using h1,⟨_,_,rfl,⟨rfl,rfl,.inr ⟨rfl,hw,he,hc.1,rfl,hc.2⟩⟩,h2⟩,?_,hO,fun s hs=>?_,h6⟩
   ·rw [h0,show i+1+k=i+(k+1) by omega]
    simp only [ab0,if_true,List.cons_append,List.nil_append,List.reverse_cons,List.append_assoc]
    rfl
   ·simp only [qf,if_true,Stp.app]
    rw [←ad2 hc.1];exact h3
   cases hs with
   |head=>exact h4
   |tail _ hs=>exact h5 s hs
  ·rename_i e he
   split at h
   rotate_left
   ·cases h
   rename_i hc
   simp only [jj] at hc
   simp only [Option.some.injEq,Prod.mk.injEq,Ex.panic.injEq] at h
   obtain ⟨rfl,rfl,rfl⟩:=h
   exact ⟨0,σ,[],o,e,rfl,rfl,rfl,rfl,Nat.le_refl _,(fun s hs=>by cases hs),hw,he,hc.1,hc.2,rfl,rfl⟩
  cases h
theorem ag9 {G:Cfg}{C:qi}{ops:Array Oper}{tr:List Stp}{tmps:List AV}{H:List Blk}(hd:aeD ops=true)
  (hc:abA (Z2 ops ops.size []) (ab0 0 tr).reverse=true) {p:Nat}(htr:aaZ G C ops (ops.toList.take p) tmps H tr) {S:Nat→Bool}(hS:ak2 ops S)
  {j k:Nat}{oj ok:Oper}{sj sk:Stp}(hj:ops[j]?=some oj) (hk:ops[k]?=some ok) (tj:tr[j]?=some sj) (tk:tr[k]?=some sk)
  (hr:S j=false) (he:∀ e∈oj.after,Region.binds .any e=true→S e.on=true) (hne:(S k=true∧j<k)∨(S k=false∧k<j)):
  (∀ d,ok.dst=some d→d ∉ oj.looksAt ops)∧(∀ d,oj.dst=some d→ok.dst≠some d)∧
  (sj.want=true→∀ i,sk.wr i→i ∉ sj.reads)∧(∀ i,sj.wr i→¬ sk.wr i):=by
 have hbs:=fun (j:Nat) (l:Nat)=>aeK hS ops.size [] (by simp) (fun j l h=>by simp at h) j l
 have wk:∀ {s:Stp}{q:Nat}{i:Nat},tr[q]?=some s→s.want=false→¬ s.wr i:=fun {s q i} hs hw=>by
  have hq:q<tr.length:=(List.getElem?_eq_some_iff.1 hs).1
  have hl:=htr.length
  have hq2:q<(ops.toList.take p).length:=by omega
  have:(ops.toList.take p)[q]?=some (ops.toList.take p)[q]:=List.getElem?_eq_getElem hq2
  obtain ⟨s',t',H',g1,_,_,g4⟩:=htr.get _ 0 _ _ _ q _ this
  rw [hs] at g1
  injection g1 with g1
  subst g1
  rcases g4.2.2 with h|h
  ·unfold Stp.wr;rw [h.2.2];rintro (⟨p,hp,_⟩|hh)
   ·cases hp
   simp at hh;omega
  rw [hw] at h;simp at h
 rcases hne with ⟨hSk,hjk⟩|⟨hSk,hkj⟩
 ·have hnb:¬ hasB (Z2 ops ops.size []) k j=true:=fun hm=>by
   unfold hasB at hm
   cases hb:(Z2 ops ops.size [])[k]? with
   |none=>rw [hb] at hm;simp at hm
   |some l=>
    rw [hb] at hm
    have:=hbs k l hb ok hk (hS k ok hk hSk) j hm
    rw [hr] at this;cases this
  have ap:=Oper.apart_spec ((afx hd hk hj hjk).resolve_left hnb)
  refine ⟨ap.1,fun d h1 h2=>ap.2.1 d h2 h1,?_,?_⟩
  ·intro hw i hi
   rcases ack hc hjk tj tk with h|h|h
   ·exact absurd h hnb
   ·exact h.1 i hi hw
   exact absurd hi (wk tk h)
  intro i h1 h2
  rcases ack hc hjk tj tk with h|h|h
  ·exact absurd h hnb
  ·cases w1:sj.want with
   |false=>exact wk tj w1 h1
   |true=>
    cases w2:sk.want with
    |false=>exact wk tk w2 h2
    |true=>exact h.2.1 i h2 w2 w1 h1
  exact wk tk h h2
 have hnb:¬ hasB (Z2 ops ops.size []) j k=true:=fun hm=>by
  unfold hasB at hm
  cases hb:(Z2 ops ops.size [])[j]? with
  |none=>rw [hb] at hm;simp at hm
  |some l=>
   rw [hb] at hm
   have:=hbs j l hb oj hj he k hm
   rw [hSk] at this;cases this
 have ap:=Oper.apart_spec ((afx hd hj hk hkj).resolve_left hnb)
 refine ⟨ap.2.2,ap.2.1,?_,?_⟩
 ·intro hw i hi hm
  rcases ack hc hkj tk tj with h|h|h
  ·exact absurd h hnb
  ·cases w1:sk.want with
   |false=>exact wk tk w1 hi
   |true=>exact h.2.2 i hw w1 hm hi
  rw [hw] at h;cases h
 intro i h1 h2
 rcases ack hc hkj tk tj with h|h|h
 ·exact absurd h hnb
 ·cases w1:sk.want with
  |false=>exact wk tk w1 h2
  |true=>
   cases w2:sj.want with
   |false=>exact wk tj w2 h1
   |true=>exact h.2.1 i h1 w2 w1 h2
 exact wk tj h h1
theorem aut {G:Cfg}{C:qi}{B:afn}(hG:GOk G) (hC:afO G.P C) {ops:Array Oper}{tr:List Stp}{σ σp:St}{p:Nat}{op:Oper}{ep:Eff}
  (hd:aeD ops=true) (hc:abA (Z2 ops ops.size []) (ab0 0 tr).reverse=true) (htr:aaZ G C ops (ops.toList.take p) σ.tmps σ.heap tr)
  (hfin:qf (fun _=>true) (σ.tmps,zw σ.heap) 0 tr=(σp.tmps,zw σp.heap)) (hlen:∀ s∈tr,s.base+s.eff.new.length≤σp.heap.length) (hn0:B.n0≤σ.heap.length) (hn1:B.n0≤σp.heap.length)
  (hp:ops[p]?=some op) (hpo:aqR (Z2 ops ops.size []) ops.size p=true) (hwp:adi ops σp.tmps op=some true) (hap:aOp G C (QL σp.tmps) op (zw σp.heap) σp.heap.length=some (.pan ep))
  (hup:aep σp.heap ep=true) (hfp:afe σp.heap (foot (QL σp.tmps) op (zw σp.heap))=true):
  ∀ (fuel:Nat) (listed:Array Bool),listed.size=ops.size→listed.count false≤fuel→(∀ i,Zy listed i=true→i<p)→ak2 ops (Zy listed)→∀ (a:Act) (w:World) (F:Froz) (m:Mu),
   DInv B (qf (Zy listed) (σ.tmps,zw σ.heap) 0 tr) tr σp.heap.length (Zy listed) a w F m→
   wpAny G.P .any ops (agl B (.panic ep.val) ⟨σp.tmps,QI σp.heap ep⟩) fuel listed a w:=by
 have hpl:p<ops.size:=(Array.getElem?_eq_some_iff.1 hp).1
 have htl:tr.length=p:=by have:=htr.length;simp at this;omega
 have hLk:∀ k,k<p→∀ hk:k<ops.size,(ops.toList.take p)[k]?=some ops[k]:=fun k h hk=>by rw [List.getElem?_take_of_lt h];simp [hk]
 have hend:∀ (listed:Array Bool),listed.size=ops.size→Region.ready .any ops listed=[]→∀ j,j<ops.size→Zy listed j=true:=by
  intro listed hsz hr j
  induction j using Nat.strongRecOn with
  |ind j ih=>
   intro hj
   have ho:ops[j]?=some ops[j]:=by simp [hj]
   cases hl:Zy listed j with
   |true=>rfl
   |false=>
    have:j∈Region.ready .any ops listed:=by
     rw [mem_ready]
     refine ⟨?_,_,ho,fun e he hb=>?_⟩
     ·unfold Zy at hl;simp [show j<listed.size by omega] at hl ⊢;exact hl
     have hlt:=akD hd ho he hb
     exact ih e.on hlt hO
    rw [hr] at this;cases this
 have hno:∀ (listed:Array Bool),listed.size=ops.size→(∀ i,Zy listed i=true→i<p)→Region.ready .any ops listed=[]→False:=fun listed hsz hl hr=>
  Nat.lt_irrefl p (hl p (hend listed hsz hr p hpl))
 intro fuel
 induction fuel with
 |zero=>
  intro listed hsz hcnt hsub hS a w F m hI
  have hr:Region.ready .any ops listed=[]:=by
   rw [List.eq_nil_iff_forall_not_mem]
   intro j hj
   rw [mem_ready] at hj
   obtain ⟨h0,o,ho,_⟩:=hj
   have hlt:j<listed.size:=by rw [hsz];exact (Array.getElem?_eq_some_iff.1 ho).1
   have:false∈listed:=by
    have:listed[j]=false:=by simpa [hlt] using h0
    rw [←this];exact Array.getElem_mem hlt
   have:=Array.count_pos_iff.2 this
   omega
  exact (hno listed hsz hsub hr).elim
 |succ fuel ih=>
  intro listed hsz hcnt hsub hS a w F m hI
  refine ⟨fun hr=>(hno listed hsz hsub hr).elim,fun j hj=>?_⟩
  obtain ⟨h0,o,ho,he⟩:=mem_ready.1 hj
  have hjs:j<ops.size:=(Array.getElem?_eq_some_iff.1 ho).1
  have hlt:j<listed.size:=by omega
  have hlj:listed[j]=false:=by simpa [hlt] using h0
  have hSj:Zy listed j=false:=by unfold Zy;simp [hlt,hlj]
  have hel:∀ e∈o.after,Region.binds .any e=true→Zy listed e.on=true:=he
  by_cases hjp:¬ j<p
  ·have hbs:=aeK hS ops.size [] (by simp) (fun j l h=>by simp at h) j
   have hB:∀ k,hasB (Z2 ops ops.size []) j k=true→Zy listed k=true:=fun k hk=>by
    unfold hasB at hk
    cases hb:(Z2 ops ops.size [])[j]? with
    |none=>rw [hb] at hk;simp at hk
    |some l=>rw [hb] at hk;exact hbs l hb o ho hel k hk
   by_cases hjp2:j=p
   ·subst hjp2
    rw [hp] at ho;injection ho with ho;subst ho
    have hall:∀ k,k<j→Zy listed k=true:=fun k hk=>hB k (by
     have:=List.all_eq_true.1 hpo k (List.mem_range.2 hO)
     rw [Bool.or_eq_true] at this
     rcases this with h|h
     ·have:k=j:=by simpa using h
      omega
     rw [if_pos hk] at h;exact h)
    have:qf (Zy listed) (σ.tmps,zw σ.heap) 0 tr=(σp.tmps,zw σp.heap):=by
     rw [←hfin]
     exact agp tr 0 _ fun k hk=>by rw [Nat.zero_add];exact hall k hO
    rw [this] at hI
    unfold wpOp
    simp only [hp]
    rw [if_pos (aeE hI.t hwp)]
    refine .inl ?_
    refine arq (nid:=σp.heap.length) (r:=.pan ep) hG hC hI.I hI.t.eval (fun i h1 _=>hI.g i h1) (fun i hi=>by have:=List.all_eq_true.1 hfp i hi;simpa using this) hap _ _ (fun v w' hg=>?_) (fun v w' hb=>?_)
    ·obtain ⟨e',he',_⟩:=hg;cases he'
    obtain ⟨e',he',hpp⟩:=hb
    injection he' with he'
    subst he'
    have hs:abK B w F m σp a:=⟨hI.ext,hI.keep,⟨hI.t,hI.I,hI.g⟩,hI.d,hn1⟩
    obtain ⟨F',m',hs',hv⟩:=hs.postPan hpp hup
    exact ⟨F',m',hs',v,rfl,hv⟩
   exfalso
   have:=List.all_eq_true.1 hpo j (List.mem_range.2 hjs)
   rw [Bool.or_eq_true] at this
   rcases this with h|h
   ·exact hjp2 (by simpa using h)
   rw [if_neg hjp] at h
   exact Nat.lt_irrefl p (hsub p (hB p h))
  replace hjp:j<p:=Nat.lt_of_not_le (fun h=>hjp (Nat.not_lt.2 h))
  obtain ⟨s,τt,τH,ts,hτ,hτl,hst⟩:=htr.get _ 0 _ _ _ j o (by rw [List.getElem?_take_of_lt hjp];simpa using ho)
  -- what the listed have brought is what stood at j
  have hagree:∀ d∈o.looksAt ops,(qf (Zy listed) (σ.tmps,zw σ.heap) 0 tr).1[d]?=τt[d]?:=fun d hdm=>by
   have h1:(qf (fun k=>decide (k<j)) (σ.tmps,zw σ.heap) 0 tr)=(τt,zw τH):=by
    rw [ah1 tr 0 j _ (Nat.zero_le _),Nat.sub_zero];exact hτ
   rw [show τt=(τt,zw τH).1 from rfl,←h1]
   refine alg tr 0 _ _ rfl rfl fun k t hk hne hdst=>?_
   rw [Nat.zero_add] at hne
   have hks:k<ops.size:=by have:=(List.getElem?_eq_some_iff.1 hk).1;omega
   have hok:ops[k]?=some ops[k]:=by simp [hks]
   obtain ⟨s',_,_,g1,_,_,g4⟩:=htr.get _ 0 _ _ _ k ops[k] (hLk k (by have:=(List.getElem?_eq_some_iff.1 hk).1;omega) hks)
   rw [hk] at g1;injection g1 with g1;subst g1
   have hkj:k≠j:=fun e=>by subst e;simp [hSj] at hne
   have hpf:=ag9 hd hc htr hS ho hok ts hk hSj hel (by
    by_cases hlt':k<j
    ·simp only [hlt',decide_true] at hne;exact .inr ⟨by simpa using hne,hlt'⟩
    simp only [hlt',decide_false] at hne;exact .inl ⟨by simpa using hne,hO⟩)
   exact hpf.1 d (by rw [←g4.1];exact hdst) hdm
  have hlook:s.want=true→∀ i∈s.reads,(qf (Zy listed) (σ.tmps,zw σ.heap) 0 tr).2 i=zw τH i:=fun hw i him=>by
   have h1:(qf (fun k=>decide (k<j)) (σ.tmps,zw σ.heap) 0 tr)=(τt,zw τH):=by
    rw [ah1 tr 0 j _ (Nat.zero_le _),Nat.sub_zero];exact hτ
   rw [show zw τH=(τt,zw τH).2 from rfl,←h1]
   refine ajK tr 0 _ _ rfl fun k t hk hne hwr=>?_
   rw [Nat.zero_add] at hne
   have hks:k<ops.size:=by have:=(List.getElem?_eq_some_iff.1 hk).1;omega
   have hok:ops[k]?=some ops[k]:=by simp [hks]
   have hkj:k≠j:=fun e=>by subst e;simp [hSj] at hne
   have hpf:=ag9 hd hc htr hS ho hok ts hk hSj hel (by
    by_cases hlt':k<j
    ·simp only [hlt',decide_true] at hne;exact .inr ⟨by simpa using hne,hlt'⟩
    simp only [hlt',decide_false] at hne;exact .inl ⟨by simpa using hne,hO⟩)
   exact hpf.2.2.1 hw i hwr him
  -- the listed,and j
  have hsz':(listed.setIfInBounds j true).size=ops.size:=by simp [hsz]
  have hL:∀ i,Zy (listed.setIfInBounds j true) i=upd1 (Zy listed) j i:=fun i=>by
   unfold Zy upd1
   by_cases hij:i=j
   ·subst hij;simp [hlt]
   rw [getD_set_ne false (Ne.symm hij)]
   have:(i==j)=false:=by simpa using hij
   rw [this];rfl
  have hLf:Zy (listed.setIfInBounds j true)=upd1 (Zy listed) j:=funext hL
  have hcnt':(listed.setIfInBounds j true).count false≤fuel:=by
   have:listed.setIfInBounds j true=listed.set j true hlt:=by simp [Array.setIfInBounds,hlt]
   rw [this,Array.count_set]
   simp [hlj]
   omega
  have hsub':∀ i,Zy (listed.setIfInBounds j true) i=true→i<p:=fun i hi=>by
   rw [hL] at hi
   unfold upd1 at hi
   rw [Bool.or_eq_true] at hi
   rcases hi with h|h
   ·have:i=j:=by simpa using h
    omega
   exact hsub i h
  have hS':ak2 ops (Zy (listed.setIfInBounds j true)):=fun i x hi hx e hem hb=>by
   rw [hL] at hx ⊢
   unfold upd1 at hx ⊢
   by_cases hij:i=j
   ·subst hij
    rw [ho] at hi;injection hi with hi;subst hi
    rw [hel e hem hb];simp
   have:(i==j)=false:=by simpa using hij
   rw [this,Bool.false_or] at hx
   rw [hS i x hi hx e hem hb];simp
  have hfold:qf (Zy (listed.setIfInBounds j true)) (σ.tmps,zw σ.heap) 0 tr=s.app (qf (Zy listed) (σ.tmps,zw σ.heap) 0 tr):=by
   rw [hLf]
   have:=als (S:=Zy listed) tr 0 j (σ.tmps,zw σ.heap) ts (by rw [Nat.zero_add];exact hSj) (fun k t hk hjk hSk=>by
    rw [Nat.zero_add] at hSk
    have hks:k<ops.size:=by have:=(List.getElem?_eq_some_iff.1 hk).1;omega
    have hok:ops[k]?=some ops[k]:=by simp [hks]
    obtain ⟨s',_,_,g1,_,_,g4⟩:=htr.get _ 0 _ _ _ k ops[k] (hLk k (by have:=(List.getElem?_eq_some_iff.1 hk).1;omega) hks)
    rw [hk] at g1;injection g1 with g1;subst g1
    have hpf:=ag9 hd hc htr hS ho hok ts hk hSj hel (.inl ⟨hSk,hjk⟩)
    refine ⟨fun d hd=>?_,hpf.2.2.2⟩
    rw [hst.1] at hd;rw [g4.1]
    exact hpf.2.1 d hd)
   rw [Nat.zero_add] at this
   exact this
  unfold wpOp
  simp only [ho]
  generalize hx:qf (Zy listed) (σ.tmps,zw σ.heap) 0 tr=x at hI hagree hlook hfold
  have hbase:s.base=τH.length:=hst.2.1
  rcases hst.2.2 with ⟨hw0,hwA,heff⟩|⟨hw1,hwA,hop,hup,hrd,hfoot⟩
  ·rw [if_neg (by rw [aeE hI.t (by rw [aeR hagree];exact hwA)];exact Bool.false_ne_true)]
   refine ih _ hsz' hcnt' hsub' hS' _ w F m ?_
   rw [hfold]
   refine ⟨hI.ext,hI.keep,?_,?_,by rw [put_defers];exact hI.d,fun k t hk hSk=>?_,hI.g⟩
   ·simp only [Stp.app,heff];rw [hst.1];exact hI.t.put o.dst .undef
   ·simp only [Stp.app,heff,acH];exact hI.I
   refine hI.f k t hk ?_
   rw [hL] at hSk
   unfold upd1 at hSk
   cases h:Zy listed k
   ·rfl
   rw [h] at hSk;simp at hSk
  rw [if_pos (aeE hI.t (by rw [aeR hagree];exact hwA))]
  refine .inl ?_
  have hρ:=aeN (G:=G) (C:=C) (ρ:=QL x.1) (ρ':=QL τt) o x.2 s.base (agd hagree)
  have hρ':=aeN (G:=G) (C:=C) (ρ:=QL x.1) (ρ':=QL τt) o (zw τH) s.base (agd hagree)
  rw [hrd] at hlook
  have hlk:=ahT (G:=G) (C:=C) (ρ:=QL τt) o (look:=zw τH) (look':=x.2) s.base (fun i hi=>(hlook hw1 i hi).symm)
  have hop':aOp G C (QL x.1) o x.2 s.base=some (.ok s.eff):=by
   rw [hρ.1,←hlk,hbase];exact hop
  have hfoot':∀ i,i∈foot (QL x.1) o x.2→i<s.base:=fun i hi=>by
   rw [hρ.2,ahn o (fun i hi=>(hlook hw1 i hi).symm),←hrd] at hi
   have:=List.all_eq_true.1 hfoot i hi
   rw [hbase];simpa using this
  refine arq (nid:=s.base) (r:=.ok s.eff) hG hC hI.I hI.t.eval (fun i h1 h2=>hI.f j s ts hSj i h1 h2) hfoot' hop' _ _ (fun v w' hg=>?_) (fun v w' hb=>?_)
  ·obtain ⟨e',he',hp⟩:=hg
   injection he' with he'
   subst he'
   obtain ⟨F',m',p1,p2,p3,p4,p5⟩:=hp
   have hupl:∀ p,p∈s.eff.upd→p.1<s.base:=fun p hp=>by
    have:=List.all_eq_true.1 hup p hp
    rw [hbase];simpa using this
   refine ih _ hsz' hcnt' hsub' hS' _ w' F' m' ?_
   rw [hfold]
   refine ⟨hI.ext.trans p1,fun i hi γ h y hy=>p2 _ _ _ _ (hI.keep i hi γ h y hy),?_,p4,by rw [put_defers];exact hI.d,fun k t hk hSk i hi1 hi2 γ h=>?_,fun i hi γ h=>?_⟩
   ·simp only [Stp.app];rw [hst.1];exact (hI.t.keep p1.fz p1.mono p2).put o.dst p3
   ·have hSk':Zy listed k=false∧k≠j:=by
     rw [hL] at hSk
     unfold upd1 at hSk
     rw [Bool.or_eq_false_iff] at hSk
     exact ⟨hSk.2,by simpa using hSk.1⟩
    have hb:=(htr.base _ _ _ _).2
    have q1:∀ p,p∈s.eff.upd→p.1≠i:=fun p hp e=>by
     by_cases hkj:k<j
     ·have hks:k<ops.size:=by have:=(List.getElem?_eq_some_iff.1 hk).1;omega
      have hok:ops[k]?=some ops[k]:=by simp [hks]
      have hpf:=ag9 hd hc htr hS ho hok ts hk hSj hel (.inr ⟨hSk'.1,hkj⟩)
      exact hpf.2.2.2 i (.inl ⟨p,hp,e⟩) (.inr ⟨hi1,hi2⟩)
     have:=hb j k s t hO ts hk
     have:=hupl p hp
     omega
    have q2:i<s.base∨s.base+s.eff.new.length≤i:=by
     by_cases hkj:k<j
     ·have:=hb k j t s hkj hk ts
      left;omega
     have:=hb j k s t hO ts hk
     right;omega
    rw [p5 i q1 q2]
    exact hI.f k t hk hSk'.1 i hi1 hi2 γ h
   have:=hlen s (List.mem_of_getElem? ts)
   rw [p5 i (fun p hp e=>by have:=hupl p hp;omega) (.inr hO)]
   exact hI.g i hi γ h
  obtain ⟨e',he',_⟩:=hb;cases he'
end Go.Ab
