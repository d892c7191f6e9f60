import Derived.Test.YtejbcaheoloahaaGreatAbSim2
set_option linter.unusedVariables false
set_option linter.unusedSimpArgs false
namespace Go.Ab
open Go
def nth:List AV→Nat→Option AV
  | [],_=>none
  | v :: r,i=>match i with
    | 0=>some v
    | i+1=>nth r i
theorem ao3:∀ (l:List AV) (i:Nat),nth l i=l[i]?
  | [],i=>by simp [nth]
  | v :: r,0=>by simp [nth]
  | v :: r,i+1=>by simp [nth,ao3 r i]
def hasN:List Nat→Nat→Bool
  | [],_=>false
  | k :: r,i=>match Nat.beq i k with
    | true=>true
    | false=>hasN r i
def WP (r:Option (Ex × St)) (Q:Ex→List AV→List Blk→Prop):Prop:=∃ ex t H,r=some (ex,⟨t,H⟩)∧Q ex t H
variable {G:Cfg} {C:ZH} {f n:Nat} {Q:Ex→List AV→List Blk→Prop}
theorem WP.mono {r:Option (Ex × St)} {Q':Ex→List AV→List Blk→Prop} (h:WP r Q) (hq:∀ ex t H,Q ex t H→Q' ex t H):WP r Q':=by
  obtain ⟨ex,t,H,e,q⟩:=h
  exact ⟨ex,t,H,e,hq _ _ _ q⟩
section code
variable {t:List AV} {H:List Blk}
theorem wp_seq {a b:Code} (h:WP (exec G C f n a none ⟨t,H⟩) fun ex t H=>match ex with
    | .normal=>WP (exec G C f n b none ⟨t,H⟩) Q
    | ex=>Q ex t H):WP (exec G C f n (.seq a b) none ⟨t,H⟩) Q:=by
  obtain ⟨ex,t',H',e,q⟩:=h
  unfold WP
  rw [aoN,e]
  cases ex with
  | normal=>exact q
  | _=>exact ⟨_,_,_,rfl,q⟩
theorem wp_skip (h:Q .normal t H):WP (exec G C f n .skip none ⟨t,H⟩) Q:=⟨_,_,_,rfl,h⟩
theorem wp_exit {id:Nat} (h:Q (.exit id) t H):WP (exec G C f n (.exit id) none ⟨t,H⟩) Q:=⟨_,_,_,rfl,h⟩
theorem wp_ret (h:Q .ret t H):WP (exec G C f n .ret none ⟨t,H⟩) Q:=⟨_,_,_,rfl,h⟩
theorem wp_goto {l:Nat} (h:Q (.goto l) t H):WP (exec G C f n (.goto l) none ⟨t,H⟩) Q:=⟨_,_,_,rfl,h⟩
theorem wp_label {l:Nat} (h:Q .normal t H):WP (exec G C f n (.label l) none ⟨t,H⟩) Q:=⟨_,_,_,rfl,h⟩
theorem wp_block {id:Nat} {c:Code} (h:WP (exec G C f n c none ⟨t,H⟩) fun ex t H=>match ex with
    | .exit j=>match Nat.beq j id with
      | true=>Q .normal t H
      | false=>Q (.exit j) t H
    | ex=>Q ex t H):WP (exec G C f n (.block id c) none ⟨t,H⟩) Q:=by
  obtain ⟨ex,t',H',e,q⟩:=h
  unfold WP
  rw [amg,e]
  cases ex with
  | exit j=>
    by_cases hj:j=id
    · subst hj
      simp only [if_true]
      have:Nat.beq j j=true:=Nat.beq_refl j
      simp only [this] at q
      exact ⟨_,_,_,rfl,q⟩
    · simp only [if_neg hj]
      have:Nat.beq j id=false:=by
        cases hb:Nat.beq j id with
        | false=>rfl
        | true=>exact absurd (Nat.eq_of_beq_eq_true hb) hj
      simp only [this] at q
      exact ⟨_,_,_,rfl,q⟩
  | _=>exact ⟨_,_,_,rfl,q⟩
theorem aok {c:Code} (h:WP (exec G C f n c none ⟨t,H⟩) fun ex t H=>match ex with
    | .goto l=>(findLabel c l).isSome=true∧WP (exec G C f n c (some l) ⟨t,H⟩) fun ex' t H=>match ex' with
      | .goto _=>False
      | ex'=>Q ex' t H
    | ex=>Q ex t H):WP (exec G C f n (.scope c) none ⟨t,H⟩) Q:=by
  obtain ⟨ex,t',H',e,q⟩:=h
  have e2:exec G C f n (.scope c) none ⟨t,H⟩=match exec G C f n c none ⟨t,H⟩ with
    | some (.goto l,σ')=>
      if (findLabel c l).isSome then
        match exec G C f n c (some l) σ' with
        | some (.goto _,_)=>none
        | r=>r
      else none
    | r=>r:=rfl
  unfold WP
  rw [e2,e]
  cases ex with
  | goto l=>
    obtain ⟨hl,ex',t'',H'',e',q'⟩:=q
    simp only [hl,if_true,e']
    cases ex' with
    | goto _=>exact q'.elim
    | _=>exact ⟨_,_,_,rfl,q'⟩
  | _=>exact ⟨_,_,_,rfl,q⟩
theorem aof {a b:Code} {l:Nat} (hl:(findLabel a l).isSome=true) (h:WP (exec G C f n a (some l) ⟨t,H⟩) fun ex t H=>match ex with
    | .normal=>WP (exec G C f n b none ⟨t,H⟩) Q
    | ex=>Q ex t H):WP (exec G C f n (.seq a b) (some l) ⟨t,H⟩) Q:=by
  obtain ⟨ex,t',H',e,q⟩:=h
  have e2:exec G C f n (.seq a b) (some l) ⟨t,H⟩=if (findLabel a l).isSome then
      match exec G C f n a (some l) ⟨t,H⟩ with
      | some (.normal,σ')=>exec G C f n b none σ'
      | r=>r
    else exec G C f n b (some l) ⟨t,H⟩:=rfl
  unfold WP
  rw [e2,hl,e]
  cases ex with
  | normal=>exact q
  | _=>exact ⟨_,_,_,rfl,q⟩
theorem age {a b:Code} {l:Nat} (hl:(findLabel a l).isSome=false) (h:WP (exec G C f n b (some l) ⟨t,H⟩) Q):WP (exec G C f n (.seq a b) (some l) ⟨t,H⟩) Q:=by
  have e2:exec G C f n (.seq a b) (some l) ⟨t,H⟩=if (findLabel a l).isSome then
      match exec G C f n a (some l) ⟨t,H⟩ with
      | some (.normal,σ')=>exec G C f n b none σ'
      | r=>r
    else exec G C f n b (some l) ⟨t,H⟩:=rfl
  unfold WP
  rw [e2,hl]; exact h
theorem ai1 {l:Nat} (h:Q .normal t H):WP (exec G C f n (.label l) (some l) ⟨t,H⟩) Q:=by
  have e2:exec G C f n (.label l) (some l) ⟨t,H⟩=if l == l then some (.normal,⟨t,H⟩) else none:=rfl
  unfold WP
  rw [e2]; simp only [beq_self_eq_true,if_true]; exact ⟨_,_,_,rfl,h⟩
end code
def ap (base:List AV):List (Nat × AV)→List AV
  | []=>base
  | (j,v) :: r=>(ap base r).set j v
def lk (base:List AV):List (Nat × AV)→Nat→Option AV
  | [],i=>nth base i
  | (j,v) :: r,i=>match Nat.beq i j with
    | true=>some v
    | false=>lk base r i
theorem adm (base:List AV):∀ ov,(ap base ov).length=base.length
  | []=>rfl
  | (j,v) :: r=>by simp [ap,adm base r]
theorem ag4 (i j:Nat):(Nat.beq i j=true∧i=j)∨(Nat.beq i j=false∧i≠j):=by
  cases hb:Nat.beq i j with
  | true=>exact .inl ⟨rfl,Nat.eq_of_beq_eq_true hb⟩
  | false=>exact .inr ⟨rfl,fun h=>by subst h; rw [Nat.beq_refl] at hb; cases hb⟩
theorem al7 {m:Nat} {base:List AV} (hb:base.length=m):∀ {ov:List (Nat × AV)},(∀ p,p∈ov→p.1 < m)→∀ i,(ap base ov)[i]?=lk base ov i
  | [],_,i=>(ao3 base i).symm
  | (j,v) :: r,h,i=>by
    have ih:=al7 hb (ov:=r) (fun p hp=>h p (by simp [hp])) i
    have hj:j < m:=h (j,v) (by simp)
    simp only [ap,lk]
    rcases ag4 i j with ⟨e,rfl⟩ | ⟨e,hne⟩
    · rw [e,List.getElem?_set_self (by rw [adm,hb]; exact hj)]
    · rw [e,List.getElem?_set_ne (fun h=>hne h.symm),ih]
def aeP (base:List AV) (ov:List (Nat × AV)) (ks:List Nat):Nat→Nat→List AV
  | 0,_=>[]
  | k+1,i=>match hasN ks i with
    | true=>.any :: aeP base ov ks k (i+1)
    | false=>match lk base ov i with
      | some v=>v :: aeP base ov ks k (i+1)
      | none=>.any :: aeP base ov ks k (i+1)
theorem an3 (k:Nat) (ks:List Nat) (i:Nat):hasN (k :: ks) i=(Nat.beq i k || hasN ks i):=by
  simp only [hasN]; cases Nat.beq i k <;> rfl
theorem aej:∀ (ks:List Nat) (t:List AV) (i:Nat),i < t.length→(qS t ks)[i]?=if hasN ks i=true then some .any else t[i]?
  | [],t,i,h=>rfl
  | k :: ks,t,i,h=>by
    simp only [qS]
    rw [aej ks _ i (by simpa using h),an3]
    rcases ag4 i k with ⟨e,rfl⟩ | ⟨e,hne⟩
    · rw [e,List.getElem?_set_self h]; simp
    · rw [e,Bool.false_or,List.getElem?_set_ne (fun h=>hne h.symm)]
theorem ako {m:Nat} {base:List AV} {ov:List (Nat × AV)} (hb:base.length=m) (h:∀ p,p∈ov→p.1 < m) (ks:List Nat):∀ (k i j:Nat),i+k=m→j < k→(aeP base ov ks k i)[j]?=(qS (ap base ov) ks)[i+j]?
  | 0,i,j,_,hj=>by omega
  | k+1,i,j,hi,hj=>by
    have hlen:(ap base ov).length=m:=by rw [adm,hb]
    have ih:=ako hb h ks k (i+1)
    have hi':i < (ap base ov).length:=by omega
    have hh:(qS (ap base ov) ks)[i]?=if hasN ks i then some .any else lk base ov i:=by
      rw [aej ks _ i hi',al7 hb h]
    have hlk:∃ v,lk base ov i=some v:=by
      rw [← al7 hb h,List.getElem?_eq_getElem hi']; exact ⟨_,rfl⟩
    obtain ⟨v,hv⟩:=hlk
    have e:aeP base ov ks (k+1) i=(if hasN ks i then .any else v) :: aeP base ov ks k (i+1):=by
      simp only [aeP]
      cases hasN ks i <;> simp [hv]
    rw [e]
    cases j with
    | zero=>
      rw [List.getElem?_cons_zero,Nat.add_zero,hh,hv]
      cases hasN ks i <;> simp
    | succ j=>rw [List.getElem?_cons_succ,ih j (by omega) (by omega)]; congr 1; omega
theorem acC:∀ (ks:List Nat) (t:List AV),(qS t ks).length=t.length
  | [],t=>rfl
  | k :: ks,t=>by simp [qS,acC ks]
theorem adH (base:List AV) (ov:List (Nat × AV)) (ks:List Nat):∀ (k i:Nat),(aeP base ov ks k i).length=k
  | 0,_=>rfl
  | k+1,i=>by
    simp only [aeP]
    cases hasN ks i <;> simp only
    · cases lk base ov i <;> simp [adH base ov ks k]
    · simp [adH base ov ks k]
theorem aoI {m:Nat} {base:List AV} {ov:List (Nat × AV)} (hb:base.length=m) (h:∀ p,p∈ov→p.1 < m) (ks:List Nat):qS (ap base ov) ks=aeP base ov ks m 0:=by
  apply List.ext_getElem?
  intro j
  by_cases hj:j < m
  · rw [ako hb h ks m 0 j (by omega) hj,Nat.zero_add]
  · rw [List.getElem?_eq_none (by rw [acC,adm,hb]; omega),List.getElem?_eq_none (by rw [adH]; omega)]
def WV (G:Cfg) (C:ZH) (ops:Array Oper) (i:Nat) (l:List Oper) (seen:List Seen) (m:Nat) (base:List AV) (ov:List (Nat × AV)) (H:List Blk) (R:Ex→List AV→List (Nat × AV)→List Blk→List Seen→Prop):Prop:=
  base.length=m→(∀ p,p∈ov→p.1 < m)→∃ ex t H' s b' o',aav G C ops i l seen ⟨ap base ov,H⟩=some (ex,⟨t,H'⟩,s)∧t=ap b' o'∧b'.length=m∧(∀ p,p∈o'→p.1 < m)∧R ex b' o' H' s
section regions
variable {t:List AV} {H:List Blk}
theorem wp_region {id m:Nat} {ops:Array Oper} {ks:List Nat} (hK:G.K f (2 * id)=ks) (hm:t.length=m)
    (h:WV G C ops 0 ops.toList [] m t [] H fun ex b o H' _=>∃ t',aeP b o ks m 0=t'∧Q ex t' H'):WP (exec G C f n (.region id ops false) none ⟨t,H⟩) Q:=by
  obtain ⟨ex,t1,H',s,b',o',e,ht,hb,ho,t',htn,q⟩:=h hm (by simp)
  unfold WP
  rw [aep]
  unfold abB
  simp only [ap] at e
  subst ht
  simp only [e,Bool.false_eq_true,if_false,Option.map_some,hK,aoI hb ho,htn]
  exact ⟨_,_,_,rfl,q⟩
end regions
section ops
variable {ops:Array Oper} {i m d:Nat} {o:Oper} {rest:List Oper} {seen:List Seen} {base:List AV} {ov:List (Nat × AV)} {H:List Blk} {v:AV} {R:Ex→List AV→List (Nat × AV)→List Blk→List Seen→Prop}
theorem ap8 {d m:Nat} (h:Nat.blt d m=true):d < m:=by
  have:d+1≤m:=by simpa [Nat.blt] using h
  exact this
def lenT (d:TD) (x:AV):Option Nat:=
  match d,x with
  | .str,.pv (.str s)=>some s.size
  | .slice _,.pv (.str _)=>none
  | .slice _,x=>lenA x
  | _,_=>none
def alJ (x:AV):Bool:=
  match x with
  | .pv (.str _)=>false
  | _=>true
end ops
section split
variable {ops:Array Oper} {i m d:Nat} {o:Oper} {rest:List Oper} {seen:List Seen} {base:List AV} {ov:List (Nat × AV)} {H:List Blk} {v:AV} {R:Ex→List AV→List (Nat × AV)→List Blk→List Seen→Prop}
end split
theorem aoz {T:Nat→Option TI} {t e:Nat} {sz bs:Nat} {ag:Bool} {z:List PV} {ei:TI} {rows:List (List PV)} {c:List PV} {k:IntKind} {ix:Int} {j:Nat} (ht:T t=some ⟨.slice e,sz,bs,ag,z⟩) (he:T e=some ei) (hj:ix=(j:Int)) (hr:rows[j]?=some c) (hl:c.length=ei.size):
    qv T t (.pv (.sl rows)) (.pv (.int k ix))=some (.pv (.ptr c 0)):=by
  subst hj
  simp only [qv,ht,he,Int.natCast_nonneg,if_true,Int.toNat_natCast,hr,hl]
section more
variable {ops:Array Oper} {i m d:Nat} {o:Oper} {rest:List Oper} {seen:List Seen} {base:List AV} {ov:List (Nat × AV)} {H:List Blk} {v:AV} {R:Ex→List AV→List (Nat × AV)→List Blk→List Seen→Prop}
end more
theorem abv {x:Int} (h1:-9223372036854775808≤x) (h2:x < 9223372036854775808):IntKind.i64.wrap x=x:=by simp [IntKind.wrap,IntKind.signed,IntKind.bits]; omega
theorem akK {x:Int} (h1:0≤x) (h2:x < 18446744073709551616):IntKind.u64.wrap x=x:=by simp [IntKind.wrap,IntKind.signed,IntKind.bits]; omega
def SL (p:PV) (l:List Int):Prop:=p=.sl (l.map rowB)∨(p=.nils∧l=[])
theorem SL.len {p:PV} {l:List Int} (h:SL p l) (e:Nat):lenT (.slice e) (.pv p)=some l.length:=by
  rcases h with rfl | ⟨rfl,rfl⟩ <;> simp [lenT,lenA]
theorem SL.alJ {p:PV} {l:List Int} (h:SL p l):alJ (.pv p)=true:=by
  rcases h with rfl | ⟨rfl,rfl⟩ <;> rfl
theorem SL.cons {p:PV} {c:Int} {l:List Int} (h:SL p (c :: l)):p=.sl (rowB c :: l.map rowB):=by
  rcases h with rfl | ⟨_,h⟩
  · rfl
  · cases h
theorem SL.to {p:PV} {l:List Int} {n:Nat} (h:SL p l) (hn:n≤l.length):∃ q,abE 1 (.pv p) none (some (.pv (.int .i64 n)))=some (.pv q)∧SL q (l.take n):=by
  rcases h with rfl | ⟨rfl,rfl⟩
  · refine ⟨_,?_,.inl rfl⟩
    unfold abE
    simp only [lenA,List.length_map,bound,Int.natCast_nonneg,if_true,Int.toNat_natCast]
    rw [if_pos ⟨Nat.zero_le _,hn⟩]
    by_cases h0:n=0
    · subst h0; simp
    · rw [if_neg h0]
      have:0 < l.length:=by omega
      rw [if_pos (by simp [this,rowB])]
      simp
  · have:n=0:=by simpa using hn
    subst this
    exact ⟨_,rfl,.inr ⟨rfl,rfl⟩⟩
theorem SL.from {p:PV} {l:List Int} {n:Nat} (h:SL p l) (hn:n≤l.length):∃ q,abE 1 (.pv p) (some (.pv (.int .i64 n))) none=some (.pv q)∧SL q (l.drop n):=by
  rcases h with rfl | ⟨rfl,rfl⟩
  · refine ⟨_,?_,.inl rfl⟩
    unfold abE
    simp only [lenA,List.length_map,bound,Int.natCast_nonneg,if_true,Int.toNat_natCast]
    rw [if_pos ⟨hn,Nat.le_refl _⟩]
    by_cases h0:l.length=n
    · rw [if_pos h0,List.drop_eq_nil_of_le (by omega)]; rfl
    · rw [if_neg h0]
      have:n < l.length:=by omega
      rw [if_pos (by simp [this,rowB])]
      rw [List.map_drop,List.take_of_length_le (by simp)]
  · have:n=0:=by simpa using hn
    subst this
    exact ⟨_,rfl,.inr ⟨rfl,rfl⟩⟩
theorem SL.get {p:PV} {l:List Int} (h:SL p l) {i:Nat} (hi:i < l.length) {T:Nat→Option TI} {t e:Nat} {sz bs:Nat} {ag:Bool} {z:List PV} {ei:TI} {k:IntKind} {ix:Int} (ht:T t=some ⟨.slice e,sz,bs,ag,z⟩) (he:T e=some ei) (hs:ei.size=1) (hj:ix=(i:Int)):qv T t (.pv p) (.pv (.int k ix))=some (.pv (.ptr (rowB l[i]) 0)):=by
  rcases h with rfl | ⟨rfl,rfl⟩
  · exact aoz ht he hj (by simp [List.getElem?_eq_getElem hi]) (by rw [hs]; rfl)
  · cases hi
def RF (k:Nat) (l:List Int):AV:=.ref k 0 l.length 1 0 l.length
def RB (e:Nat) (l:List Int):Blk:=.row e 1 ⟨l.map rowB,0,0,0,0⟩
theorem RB.app {T:Nat→Option TI} {nid t e k:Nat} {ti ei:TI} {l a:List Int} {look:Look} {n:Nat} (ht:T t=some ti) (hd:ti.desc=.slice e) (he:T e=some ei) (hs:ei.size=1) (hby:ei.bytes=1)
    (hn:n=l.length) (hl:look k=some (RB e l)) (hne:a≠[]) (hb:l.length+a.length≤1000000):
    qT T nid t (.ref k 0 n 1 0 n) (a.map rowB) look=some ⟨RF k (l++a),[(k,RB e (l++a))],[]⟩:=by
  subst hn
  have hc:adJ ⟨l.map rowB,0,0,0,0⟩ 0 l.length:=by
    have:=alO (rows:=l.map rowB)
    rwa [List.length_map] at this
  rw [ahx ht hd he hs (by decide) (by simp [rowB]) hl hc (by simp [hby]; omega) (by simp; omega) (by simpa using hne)]
  have e1:Go.Ab.grow (⟨l.map rowB,0,0,0,0⟩:Row) 0 l.length (a.map rowB)=(⟨(l++a).map rowB,0,0,0,0⟩,0):=by
    simp [Go.Ab.grow]
  rw [e1]
  simp [RF,RB]
section stores
variable {G:Cfg} {C:ZH} {ops:Array Oper} {i m d:Nat} {o:Oper} {rest:List Oper} {seen:List Seen} {base:List AV} {ov:List (Nat × AV)} {H:List Blk} {v:AV} {R:Ex→List AV→List (Nat × AV)→List Blk→List Seen→Prop}
end stores
def aeJ (R:List Nat) (nid:Nat):Nat→Option Nat:=fun j=>match R[j]? with
  | some i=>some i
  | none=>some (nid+(j - R.length))
theorem alW {C:ZH} {f:Nat} {args as:List AV} {look:Look} {nid:Nat} {R:List Nat} {bs bs1 bs2 bs3:List Blk} {v v':AV} {u:List (Nat × Blk)} {nw:List Blk} (hR:reach look Zl (AV.idsL args) []=R) (h1:AV.renL (placeOf R) args=some as) (h2:getAll look R=some bs) (h3:qQ (placeOf R) bs=some bs1)
    (hC:C f as bs1=some (.ret v,bs2)) (h4:qQ (aeJ R nid) bs2=some bs3) (h5:v.ren (aeJ R nid)=some v') (hu:aap R bs3=u) (hn:bs3.drop R.length=nw):QC C f args look nid=some (.ok ⟨v',u,nw⟩):=by
  subst hR hu hn
  simp only [QC,h1,h2,h3,hC,Option.bind_some]
  show Option.bind (qQ (aeJ _ nid) bs2) _=_
  rw [h4]
  simp only [Option.bind_some]
  show Option.map _ (AV.ren (aeJ _ nid) v)=_
  rw [h5]
  rfl
end Go.Ab
