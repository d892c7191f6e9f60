import Derived.Test.YtejbcaheoloahaaGreatAbDraw2
set_option linter.unusedVariables false
set_option linter.unusedSimpArgs false
namespace Go.Ab
open Go
variable {w w':World} {F:Froz} {Pr:Nat→Prop} {m m':Mu} {look:Look} {nid:Nat}
def Stp.writes (s:Stp):List Nat:=s.eff.upd.map (·.1)++List.range' s.base s.eff.new.length
theorem Stp.mem_writes {s:Stp} {i:Nat}:i∈s.writes↔s.wr i:=by
  unfold Stp.writes Stp.wr
  rw [List.mem_append,List.mem_map,List.mem_range'_1]
def qu:Nat→List Stp→List Seen
  | _,[]=>[]
  | i,s :: r=>(if s.want then [⟨i,s.reads,s.writes⟩] else [])++qu (i+1) r
def akH (G:Cfg) (C:ZH) (ops:Array Oper) (o:Oper) (s:Stp) (tmps:List AV) (H:List Blk):Prop:=
  s.dst=o.dst∧s.base=H.length∧
  ((s.want=false∧aaH ops tmps o=some false∧s.eff=⟨.undef,[],[]⟩)∨
   (s.want=true∧aaH ops tmps o=some true∧aOp G C (qc tmps) o (zp H) H.length=some (.ok s.eff)∧abt H s.eff=true∧
      s.reads=foot (qc tmps) o (zp H)∧ab3 H s.reads=true))
def QX (G:Cfg) (C:ZH) (ops:Array Oper):List Oper→List AV→List Blk→List Stp→Prop
  | [],_,_,tr=>tr=[]
  | o :: l,tmps,H,tr=>∃ s r,tr=s :: r∧akH G C ops o s tmps H∧QX G C ops l (putA tmps s.dst s.eff.val) (qy H s.eff) r
theorem agk (H:List Blk) (v:AV):qy H ⟨v,[],[]⟩=H:=by simp [qy,aev]
theorem akH.abt {G:Cfg} {C:ZH} {ops:Array Oper} {o:Oper} {s:Stp} {tmps:List AV} {H:List Blk} (h:akH G C ops o s tmps H):abt H s.eff=true:=by
  obtain ⟨_,_,h | h⟩:=h
  · rw [h.2.2]; rfl
  · exact h.2.2.2.1
theorem ajf {G:Cfg} {C:ZH} {ops:Array Oper}:∀ (l:List Oper) (i:Nat) (seen seen':List Seen) (σ σ':St),
    aav G C ops i l seen σ=some (.normal,σ',seen')→∃ tr,QX G C ops l σ.tmps σ.heap tr∧seen'=(qu i tr).reverse++seen∧
      Zq (fun _=>true) (σ.tmps,zp σ.heap) i tr=(σ'.tmps,zp σ'.heap)∧σ.heap.length≤σ'.heap.length∧∀ s∈tr,s.base+s.eff.new.length≤σ'.heap.length
  | [],i,seen,seen',σ,σ',h=>by
    simp only [aav,Option.some.injEq,Prod.mk.injEq] at h
    obtain ⟨_,rfl,rfl⟩:=h
    exact ⟨[],rfl,rfl,rfl,Nat.le_refl _,fun _ h=>by cases h⟩
  | o :: l,i,seen,seen',σ,σ',h=>by
    simp only [aav] at h
    split at h
    · cases h
    · rename_i hw
      obtain ⟨tr,h1,h2,h3,h4,h5⟩:=ajf l _ _ _ _ _ h
      refine ⟨⟨o.dst,σ.heap.length,⟨.undef,[],[]⟩,false,[]⟩ :: tr,⟨_,_,rfl,⟨rfl,rfl,.inl ⟨rfl,hw,rfl⟩⟩,?_⟩,?_,?_,h4,fun s hs=>?_⟩
      · simp only [agk]; exact h1
      · simp only [qu,Bool.false_eq_true,if_false,List.nil_append]; exact h2
      · simp only [Zq,if_true,Stp.app,Qk]; exact h3
      · cases hs with
        | head=>simpa using h4
        | tail _ hs=>exact h5 s hs
    · rename_i hw
      split at h
      · rename_i e he
        split at h
        rotate_left
        · cases h
        rename_i hc
        simp only [Bool.and_eq_true] at hc
        obtain ⟨tr,h1,h2,h3,h4,h5⟩:=ajf l _ _ _ _ _ h
        simp only [qw] at h4
        refine ⟨⟨o.dst,σ.heap.length,e,true,foot (qc σ.tmps) o (zp σ.heap)⟩ :: tr,⟨_,_,rfl,⟨rfl,rfl,.inr ⟨rfl,hw,he,hc.1,rfl,hc.2⟩⟩,h1⟩,?_,?_,by omega,fun s hs=>?_⟩
        · simp only [qu,if_true,List.cons_append,List.nil_append,List.reverse_cons,List.append_assoc]; exact h2
        · simp only [Zq,if_true,Stp.app]
          rw [← abd hc.1]; exact h3
        · cases hs with
          | head=>exact h4
          | tail _ hs=>exact h5 s hs
      · split at h <;> cases h
      · cases h
theorem QX.length {G:Cfg} {C:ZH} {ops:Array Oper}:∀ (l:List Oper) (tmps:List AV) (H:List Blk) (tr:List Stp),QX G C ops l tmps H tr→tr.length=l.length
  | [],tmps,H,tr,h=>by rw [show tr=[] from h]; rfl
  | o :: l,tmps,H,tr,h=>by
    obtain ⟨s,r,e,h1,h2⟩:=h
    rw [e]; simp [QX.length l _ _ r h2]
theorem QX.get {G:Cfg} {C:ZH} {ops:Array Oper}:∀ (l:List Oper) (i:Nat) (tmps:List AV) (H:List Blk) (tr:List Stp),QX G C ops l tmps H tr→
    ∀ k o,l[k]?=some o→∃ s tmps' H',tr[k]?=some s∧Zq (fun _=>true) (tmps,zp H) i (tr.take k)=(tmps',zp H')∧H.length≤H'.length∧akH G C ops o s tmps' H'
  | [],i,tmps,H,tr,h,k,o',hk=>by simp at hk
  | o :: l,i,tmps,H,tr,h,0,o',hk=>by
    obtain ⟨s,r,e,h1,h2⟩:=h
    simp only [List.getElem?_cons_zero,Option.some.injEq] at hk
    subst hk e
    exact ⟨s,tmps,H,rfl,rfl,Nat.le_refl _,h1⟩
  | o :: l,i,tmps,H,tr,h,k+1,o',hk=>by
    obtain ⟨s,r,e,h1,h2⟩:=h
    simp only [List.getElem?_cons_succ] at hk
    subst e
    obtain ⟨s',t',H',g1,g2,g3,g4⟩:=QX.get l (i+1) _ _ r h2 k o' hk
    refine ⟨s',t',H',by simpa using g1,?_,?_,g4⟩
    · rw [List.take_succ_cons]
      simp only [Zq,if_true,Stp.app]
      rw [h1.2.1,← abd h1.abt]
      exact g2
    · rw [qw] at g3; omega
theorem QX.base {G:Cfg} {C:ZH} {ops:Array Oper}:∀ (l:List Oper) (tmps:List AV) (H:List Blk) (tr:List Stp),QX G C ops l tmps H tr→
    (∀ s∈tr,H.length≤s.base)∧∀ (k1 k2:Nat) (s1 s2:Stp),k1 < k2→tr[k1]?=some s1→tr[k2]?=some s2→s1.base+s1.eff.new.length≤s2.base
  | [],tmps,H,tr,h=>by
    rw [show tr=[] from h]
    exact ⟨fun _ h=>(by cases h),fun k1 k2 s1 s2 _ h=>(by simp at h)⟩
  | o :: l,tmps,H,tr,h=>by
    obtain ⟨s,r,e,h1,h2⟩:=h
    obtain ⟨g1,g2⟩:=QX.base l _ _ r h2
    simp only [qw] at g1
    subst e
    refine ⟨fun s' hs=>?_,fun k1 k2 s1 s2 hk e1 e2=>?_⟩
    · cases hs with
      | head=>rw [h1.2.1]; exact Nat.le_refl _
      | tail _ hs=>have:=g1 s' hs; omega
    · cases k2 with
      | zero=>omega
      | succ k2=>
        simp only [List.getElem?_cons_succ] at e2
        cases k1 with
        | zero=>
          simp only [List.getElem?_cons_zero,Option.some.injEq] at e1
          subst e1
          rw [h1.2.1]
          exact g1 s2 (List.mem_of_getElem? e2)
        | succ k1=>
          simp only [List.getElem?_cons_succ] at e1
          exact g2 k1 k2 s1 s2 (by omega) e1 e2
def NoC (bs:List Nat) (s t:Seen):Prop:=hasB bs s.i t.i=true∨((∀ i∈s.writes,i ∉ t.reads)∧(∀ i∈s.writes,i ∉ t.writes)∧∀ i∈s.reads,i ∉ t.writes)
theorem ant {a b:List Nat}:disj a b=true↔∀ i∈a,i ∉ b:=by
  unfold disj
  rw [List.all_eq_true]
  simp
theorem agh (bs:List Nat):∀ (l:List Seen),QB bs l=true→l.Pairwise (NoC bs)
  | [],_=>.nil
  | s :: r,h=>by
    simp only [QB,Bool.and_eq_true,List.all_eq_true,Bool.or_eq_true,ant] at h
    refine .cons (fun t ht=>?_) (agh bs r h.2)
    rcases h.1 t ht with h | h
    · exact .inl h
    · exact .inr ⟨h.1.1,h.1.2,h.2⟩
theorem af1:∀ (tr:List Stp) (i k:Nat) (s:Stp),tr[k]?=some s→s.want=true→⟨i+k,s.reads,s.writes⟩∈qu i tr
  | t :: r,i,0,s,h,hw=>by
    simp only [List.getElem?_cons_zero,Option.some.injEq] at h
    subst h
    simp [qu,hw]
  | t :: r,i,k+1,s,h,hw=>by
    simp only [List.getElem?_cons_succ] at h
    simp only [qu]
    rw [List.mem_append,show i+(k+1)=i+1+k by omega]
    exact .inr (af1 r (i+1) k s h hw)
theorem ahL {R:Seen→Seen→Prop}:∀ (tr:List Stp) (i:Nat),(qu i tr).Pairwise R→∀ (k1 k2:Nat) (s1 s2:Stp),k1 < k2→tr[k1]?=some s1→tr[k2]?=some s2→s1.want=true→s2.want=true→
    R ⟨i+k1,s1.reads,s1.writes⟩ ⟨i+k2,s2.reads,s2.writes⟩
  | [],i,h,k1,k2,s1,s2,_,h1,_,_,_=>by simp at h1
  | t :: r,i,h,k1,0,s1,s2,hk,_,_,_,_=>by omega
  | t :: r,i,h,0,k2+1,s1,s2,hk,h1,h2,w1,w2=>by
    simp only [List.getElem?_cons_zero,Option.some.injEq] at h1
    subst h1
    simp only [List.getElem?_cons_succ] at h2
    simp only [qu,w1,if_true,List.cons_append,List.nil_append,List.pairwise_cons] at h
    have:=h.1 _ (af1 r (i+1) k2 s2 h2 w2)
    rw [show i+(k2+1)=i+1+k2 by omega]
    exact this
  | t :: r,i,h,k1+1,k2+1,s1,s2,hk,h1,h2,w1,w2=>by
    simp only [List.getElem?_cons_succ] at h1 h2
    simp only [qu] at h
    have:=ahL r (i+1) (List.pairwise_append.1 h).2.1 k1 k2 s1 s2 (by omega) h1 h2 w1 w2
    rw [show i+(k1+1)=i+1+k1 by omega,show i+(k2+1)=i+1+k2 by omega]
    exact this
theorem aaz {bs:List Nat} {tr:List Stp} (h:QB bs (qu 0 tr).reverse=true) {k1 k2:Nat} {s1 s2:Stp} (hk:k1 < k2) (h1:tr[k1]?=some s1) (h2:tr[k2]?=some s2):
    hasB bs k2 k1=true∨((∀ i,s2.wr i→s1.want=true→i ∉ s1.reads)∧(∀ i,s2.wr i→s2.want=true→s1.want=true→¬ s1.wr i)∧∀ i,s2.want=true→s1.want=true→i∈s2.reads→¬ s1.wr i)∨s2.want=false:=by
  cases w2:s2.want with
  | false=>exact .inr (.inr rfl)
  | true=>
    cases w1:s1.want with
    | false=>exact .inr (.inl ⟨fun _ _ h=>by simp at h,fun _ _ _ h=>by simp at h,fun _ _ h=>by simp at h⟩)
    | true=>
      have:=ahL tr 0 (List.pairwise_reverse.1 (agh bs _ h)) k1 k2 s1 s2 hk h1 h2 w1 w2
      simp only [Nat.zero_add] at this
      rcases this with h | ⟨a,b,c⟩
      · exact .inl h
      · simp only [Stp.mem_writes] at a b c
        exact .inr (.inl ⟨fun i hi _=>a i hi,fun i hi _ _=>b i hi,fun i _ _ hi=>c i hi⟩)
theorem akv (acc:List Nat) (k:Nat):∀ (es:List Nat),(alN acc es).testBit k=true→k∈es∨∃ e∈es,((acc[e]?).getD 0).testBit k=true
  | [],h=>by simp [alN] at h
  | e :: es,h=>by
    simp only [alN,Nat.testBit_or,Bool.or_eq_true] at h
    rcases h with h | h | h
    · rcases akv acc k es h with h | ⟨x,h1,h2⟩
      · exact .inl (List.mem_cons_of_mem _ h)
      · exact .inr ⟨x,List.mem_cons_of_mem _ h1,h2⟩
    · rw [Nat.one_shiftLeft,Nat.testBit_two_pow] at h
      exact .inl (by simp at h; simp [h])
    · exact .inr ⟨e,List.mem_cons_self,h⟩
theorem abM {ops:Array Oper} {S:Nat→Bool} (hS:∀ i o,ops[i]?=some o→S i=true→∀ e∈o.after,Region.binds .any e=true→S e.on=true):
    ∀ (n:Nat) (acc:List Nat),acc.length+n=ops.size→
    (∀ (j:Nat) (l:Nat),acc[j]?=some l→∀ (o:Oper),ops[j]?=some o→(∀ e∈o.after,Region.binds .any e=true→S e.on=true)→∀ k,l.testBit k=true→S k=true)→
    ∀ (j:Nat) (l:Nat),(Zy ops n acc)[j]?=some l→∀ (o:Oper),ops[j]?=some o→(∀ e∈o.after,Region.binds .any e=true→S e.on=true)→∀ k,l.testBit k=true→S k=true
  | 0,acc,_,h=>h
  | n+1,acc,hn,h=>by
    simp only [Zy]
    refine abM hS n _ (by simp; omega) fun j l hj o ho he k hk=>?_
    by_cases hlt:j < acc.length
    · rw [List.getElem?_append_left hlt] at hj
      exact h j l hj o ho he k hk
    · have hj':j=acc.length:=by
        have:=(List.getElem?_eq_some_iff.1 hj).1
        simp at this; omega
      subst hj'
      have hi:ops.size - (n+1)=acc.length:=by omega
      rw [List.getElem?_append_right (Nat.le_refl _),Nat.sub_self,hi,ho] at hj
      simp only [Option.map_some,Option.getD_some,List.getElem?_cons_zero,Option.some.injEq] at hj
      subst hj
      have es:∀ e,e∈((o.after.toList.filter (Region.binds .any)).map (·.on)).filter (· < acc.length)→S e=true:=fun e hm=>by
        rw [List.mem_filter,List.mem_map] at hm
        obtain ⟨⟨d,hd,rfl⟩,_⟩:=hm
        rw [List.mem_filter] at hd
        exact he d (by simpa using hd.1) hd.2
      rcases akv acc k _ hk with hk | ⟨e,hm,hk⟩
      · exact es k hk
      · cases ha:acc[e]? with
        | none=>rw [ha] at hk; simp at hk
        | some l'=>
          rw [ha] at hk
          have hlt':e < ops.size:=by have:=(List.getElem?_eq_some_iff.1 ha).1; omega
          have hoe:ops[e]?=some ops[e]:=by simp [hlt']
          exact h e l' ha _ hoe (hS e _ hoe (es e hm)) k hk
end Go.Ab
