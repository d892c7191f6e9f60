import Derived.Test.YtejbcaheoloahaaGreatFB
set_option linter.unusedVariables false
set_option linter.unusedSimpArgs false
set_option maxRecDepth 100000
namespace Go.Pl
open Go Go.Ab
theorem qt {α:Type} {c:Bool} {A B:Option α} (h1:c=true→∃ r,A=some r) (h2:c=false→∃ r,B=some r):∃ r,(bif c then A else B)=some r:=by
  cases c with
  | true=>exact h1 rfl
  | false=>exact h2 rfl
theorem aae {α β:Type} {A:Option α} {F:α→Option β} (h1:∃ a,A=some a) (h2:∀ a,∃ r,F a=some r):∃ r,A.bind F=some r:=by
  obtain ⟨a,rfl⟩:=h1
  exact h2 a
theorem ann {α S R:Type} {F:Nat→S→Int→Option R} {l:List α} {P:Nat→S→Prop} (hl:l.length≤1048576)
    (hF:∀ (m i:Nat) (s:S) (x:α),(hi:i < l.length)→l[i]=x→P i s→(∃ r,F (m+1) s (i:Int)=some r)∨∃ s',P (i+1) s'∧F (m+1) s (i:Int)=F m s' (IntKind.wrap .i64 ((i:Int)+1)))
    (hE:∀ (m:Nat) (s:S),P l.length s→∃ r,F (m+1) s (l.length:Int)=some r):∀ (m i:Nat) (s:S),i≤l.length→l.length - i < m→P i s→∃ r,F m s (i:Int)=some r
  | 0,i,s,_,h,_=>by omega
  | m+1,i,s,h,hm,hp=>by
    by_cases hi:i < l.length
    · rcases hF m i s _ hi rfl hp with h1 | ⟨s',hp',h1⟩
      · exact h1
      · rw [h1,acv (by omega)]
        exact ann hl hF hE m (i+1) s' (by omega) (by omega) hp'
    · obtain rfl:i=l.length:=by omega
      exact hE m s hp
theorem abJ {α S R:Type} {F:Nat→S→Int→Option R} {l:List α} (P:Nat→S→Prop) (hl:l.length≤1048576) {m:Nat} (hm:2000000≤m) (s:S) (h0:P 0 s)
    (hF:∀ (m i:Nat) (s:S) (x:α),(hi:i < l.length)→l[i]=x→P i s→(∃ r,F (m+1) s (i:Int)=some r)∨∃ s',P (i+1) s'∧F (m+1) s (i:Int)=F m s' (IntKind.wrap .i64 ((i:Int)+1)))
    (hE:∀ (m:Nat) (s:S),P l.length s→∃ r,F (m+1) s (l.length:Int)=some r):∃ r,F m s 0=some r:=
  ann hl hF hE m 0 s (by omega) (by omega) h0
theorem alN {x:zh} (h:agQ x=true):0≤x.fRel∧0≤x.fCol∧afq x.fKind=((sll x.fKids).length:Int):=by
  unfold agQ afR inE at h
  simp only [Bool.and_eq_true,beq_iff_eq,decide_eq_true_eq] at h
  obtain ⟨h0,⟨⟨⟨_,h1⟩,h2⟩,_⟩,_⟩:=h
  exact ⟨h1.1,h2.1,h0⟩
theorem aoO {α:Type} {l:List α} {i:Int} (h0:0≤i) (h:i < (l.length:Int)):∃ x,idx l i=some x∧x∈l:=by
  have hi:i.toNat < l.length:=by omega
  refine ⟨l[i.toNat],?_,List.getElem_mem hi⟩
  unfold idx
  rw [if_pos h0,List.getElem?_eq_getElem hi]
theorem aiR {x:zh} (h:agQ x=true) (a:Option (List zk)) {n:Nat} (hn:1≤n):∃ r,abb n x a=some r:=by
  obtain ⟨n,rfl⟩:∃ j,n=j+1:=⟨n - 1,by omega⟩
  obtain ⟨h1,h2,_⟩:=alN h
  unfold abb
  rw [zt]
  refine qt (fun _=>⟨_,rfl⟩) fun hc=>?_
  obtain ⟨t,e,_⟩:=aoO (l:=sll a) (i:=x.fRel) h1 (by simpa using hc)
  rw [e,Option.bind_some]
  refine qt (fun _=>⟨_,rfl⟩) fun hc=>?_
  obtain ⟨c,e,_⟩:=aoO (l:=sll t.fCols) (i:=x.fCol) h2 (by simpa using hc)
  rw [e]
  exact ⟨_,rfl⟩
theorem aly (a:Option (List zk)):∀ (r:Nat) (x:zh) (c:Nat),frmE r x=some c→Zx x→∀ m n,r≤m→2000010+r≤n→∃ v,aa6 m n x a=some v
  | 0,x,c,h,_,m,n,_,_=>by cases h
  | r+1,x,c,h,hw,m,n,hm,hn=>by
    obtain ⟨m,rfl⟩:∃ j,m=j+1:=⟨m - 1,by omega⟩
    obtain ⟨n,rfl⟩:∃ j,n=j+1:=⟨n - 1,by omega⟩
    obtain ⟨hnode,hk⟩:=aiQ h
    rw [aa6,ad5,zt]
    have hloop:∃ v,Q1 n (aa6 m) x a n 0=some v:=by
      refine abJ (F:=fun k (_:Unit) i=>Q1 n (aa6 m) x a k i) (l:=sll x.fKids) (fun _ _=>True) (adH hw) (by omega) () trivial (fun k i _ z hi hz _=>?_) fun k _ _=>?_
      · skip
        rw [Q1,dT (by omega),cond_true,Z8 hi hz,Option.bind_some]
        have hmem:z∈sll x.fKids:=hz ▸ List.getElem_mem hi
        obtain ⟨c',hc',_⟩:=hk z hmem
        obtain ⟨v,hv⟩:=aly a r (zg z) c' hc' (akq hw hmem) m n (by omega) (by omega)
        rw [hv,Option.bind_some]
        cases v with
        | inl e=>exact .inl ⟨_,rfl⟩
        | inr u=>exact .inr ⟨(),trivial,rfl⟩
      · skip
        rw [Q1,dF (by omega),cond_false]
        exact ⟨_,rfl⟩
    simp only [zD]
    refine qt (fun _=>?_) fun _=>hloop
    obtain ⟨v,hv⟩:=aiR hnode a (n:=n) (by omega)
    rw [hv,Option.bind_some]
    cases v with
    | inl e=>exact ⟨_,rfl⟩
    | inr u=>exact hloop
theorem ad1 {n:Nat} (hn:2≤n) (p q:Int):∃ v,qx n p q=some v:=by
  obtain ⟨n,rfl⟩:∃ j,n=j+2:=⟨n - 2,by omega⟩
  unfold qx ab5
  simp only [zt,Option.bind_some]
  exact qt (fun _=>⟨_,rfl⟩) fun _=>qt (fun _=>⟨_,rfl⟩) fun _=>⟨_,rfl⟩
theorem ae4 {n:Nat} (hn:2≤n) (p q:Int):∃ v,Qb n p q=some v:=by
  obtain ⟨n,rfl⟩:∃ j,n=j+2:=⟨n - 2,by omega⟩
  unfold Qb acm
  simp only [zt,Option.bind_some]
  exact qt (fun _=>⟨_,rfl⟩) fun _=>qt (fun _=>⟨_,rfl⟩) fun _=>⟨_,rfl⟩
theorem afw {n:Nat} (hn:2≤n) (p q:Int):∃ v,qU n p q=some v:=by
  obtain ⟨n,rfl⟩:∃ j,n=j+2:=⟨n - 2,by omega⟩
  unfold qU adS
  simp only [zt,Option.bind_some]
  exact qt (fun _=>⟨_,rfl⟩) fun _=>qt (fun _=>⟨_,rfl⟩) fun _=>⟨_,rfl⟩
theorem aco {α β:Type} {A:Option (Int ⊕ α)} {F:Int ⊕ α→Option β} (h1:∃ a,A=some a) (h2:∀ e,∃ r,F (.inl e)=some r) (h3:∀ y,∃ r,F (.inr y)=some r):∃ r,A.bind F=some r:=by
  obtain ⟨a,rfl⟩:=h1
  cases a with
  | inl e=>exact h2 e
  | inr y=>exact h3 y
theorem ahR {k:Int} {l:Nat} (h:afq k=(l:Int)):(l=0∧(k=1∨k=2))∨(l=1∧(k=6∨k=12∨k=13))∨(l=2∧(k=3∨k=4∨k=5∨k=7∨k=8∨k=9∨k=10∨k=11)):=by
  unfold afq at h
  split at h
  · exact .inl ⟨by omega,by assumption⟩
  · split at h
    · exact .inr (.inl ⟨by omega,by assumption⟩)
    · split at h
      · exact .inr (.inr ⟨by omega,by omega⟩)
      · omega
theorem aj0 (a:Option (List zk)):∀ (r:Nat) (x:zh) (c:Nat),frmE r x=some c→Zx x→∀ m n,r≤m→2000010+r≤n→∃ v,abr m n x a=some v
  | 0,x,c,h,_,m,n,_,_=>by cases h
  | r+1,x,c,h,hw,m,n,hm,hn=>by
    obtain ⟨m,rfl⟩:∃ j,m=j+1:=⟨m - 1,by omega⟩
    obtain ⟨n,rfl⟩:∃ j,n=j+1:=⟨n - 1,by omega⟩
    obtain ⟨hnode,hk⟩:=aiQ h
    obtain ⟨_,_,hlen⟩:=alN hnode
    have hl:=adH hw
    rw [abr,adq,zt]
    rw [zD]
    refine abJ (F:=fun k (s:Option (List Int)) i=>qo n (abr m) x a _ k i s) (l:=sll x.fKids) (fun i s=>(sll s).length=i∧(s=none↔i=0)) hl (by omega) none ⟨rfl,by simp⟩ (fun k i s z hi hz hp=>?_) fun k s hp=>?_
    · skip
      have hmem:z∈sll x.fKids:=hz ▸ List.getElem_mem hi
      obtain ⟨c',hc',_⟩:=hk z hmem
      obtain ⟨v,hv⟩:=aj0 a r (zg z) c' hc' (akq hw hmem) m n (by omega) (by omega)
      obtain ⟨p1,p2⟩:=hp
      cases s with
      | none=>
        rw [qo,dT (by omega),cond_true,Z8 hi hz,Option.bind_some,hv,Option.bind_some]
        cases v with
        | inl e=>exact .inl ⟨_,rfl⟩
        | inr u=>
          simp only []
          rw [Qw (by simp) (by omega),Option.bind_some]
          have:i=0:=p2.1 rfl
          exact .inr ⟨_,⟨by subst this; rfl,by simp⟩,rfl⟩
      | some y=>
        rw [qo,dT (by omega),cond_true,Z8 hi hz,Option.bind_some,hv,Option.bind_some]
        rw [qA] at p1
        cases v with
        | inl e=>exact .inl ⟨_,rfl⟩
        | inr u=>
          simp only []
          rw [Qw (by simp; omega) (by omega),Option.bind_some]
          exact .inr ⟨_,⟨by rw [qA,List.length_append,p1]; rfl,by simp⟩,rfl⟩
    · skip
      obtain ⟨p1,p2⟩:=hp
      cases s with
      | none=>
        rw [qo,dF (by omega),cond_false]
        simp only [zD]
        have h0:(sll x.fKids).length=0:=p2.1 rfl
        rcases ahR hlen with ⟨_,h1 | h1⟩ | ⟨h1,_⟩ | ⟨h1,_⟩
        · rw [show (x.fKind == 1)=true by rw [h1]; rfl,cond_true]
          exact aco (aiR hnode a (by omega)) (fun _=>⟨_,rfl⟩) fun _=>⟨_,rfl⟩
        · rw [show (x.fKind == 1)=false by rw [h1]; rfl,cond_false,show (x.fKind == 2)=true by rw [h1]; rfl,cond_true]
          exact ⟨_,rfl⟩
        · omega
        · omega
      | some y=>
        rw [qo,dF (by omega),cond_false]
        rw [qA] at p1
        rcases ahR hlen with ⟨h1,_⟩ | ⟨h1,h2⟩ | ⟨h1,h2⟩
        · have:=p2.2 h1; cases this
        · obtain ⟨u,rfl⟩:∃ u,y=[u]:=by
            match y,p1 with
            | [u],_=>exact ⟨u,rfl⟩
            | [],p1=>simp at p1; omega
            | _ :: _ :: _,p1=>simp at p1; omega
          rcases h2 with h2 | h2 | h2 <;> simp (decide:=true) only [zD,h2,cond_true,cond_false,acQ,Int.reduceBEq,show idx [u] 0=some u from rfl,Option.bind_some]
          · exact aco (ad1 (by omega) _ _) (fun _=>⟨_,rfl⟩) fun _=>⟨_,rfl⟩
          · exact aco (afw (by omega) _ _) (fun _=>⟨_,rfl⟩) fun _=>⟨_,rfl⟩
          · exact ⟨_,rfl⟩
        · obtain ⟨u,v,rfl⟩:∃ u v,y=[u,v]:=by
            match y,p1 with
            | [u,v],_=>exact ⟨u,v,rfl⟩
            | [],p1=>simp at p1; omega
            | [_],p1=>simp at p1; omega
            | _ :: _ :: _ :: _,p1=>simp at p1; omega
          rcases h2 with h2 | h2 | h2 | h2 | h2 | h2 | h2 | h2 <;> simp (decide:=true) only [zD,h2,cond_true,cond_false,acQ,Int.reduceBEq,show idx [u,v] 0=some u from rfl,show idx [u,v] 1=some v from rfl,Option.bind_some]
          · exact aco (ad1 (by omega) _ _) (fun _=>⟨_,rfl⟩) fun _=>⟨_,rfl⟩
          · exact aco (ad1 (by omega) _ _) (fun _=>⟨_,rfl⟩) fun _=>⟨_,rfl⟩
          · exact aco (ad1 (by omega) _ _) (fun _=>⟨_,rfl⟩) fun _=>⟨_,rfl⟩
          · exact aco (ae4 (by omega) _ _) (fun _=>⟨_,rfl⟩) fun _=>⟨_,rfl⟩
          · exact aco (ae4 (by omega) _ _) (fun _=>⟨_,rfl⟩) fun _=>⟨_,rfl⟩
          · exact aco (ae4 (by omega) _ _) (fun _=>⟨_,rfl⟩) fun _=>⟨_,rfl⟩
          · exact aco (afw (by omega) _ _) (fun _=>⟨_,rfl⟩) fun _=>⟨_,rfl⟩
          · exact aco (afw (by omega) _ _) (fun _=>⟨_,rfl⟩) fun _=>⟨_,rfl⟩
theorem adR {x:zh} (hw:Zx x) (a:Option (List zk)) {n:Nat} (hn:2000200≤n):∃ p,QZ n x a=some p:=by
  obtain ⟨n,rfl⟩:∃ j,n=j+3:=⟨n - 3,by omega⟩
  unfold QZ
  rw [zt,acg hw (by omega),Option.bind_some]
  refine qt (fun _=>⟨_,rfl⟩) fun hf=>?_
  obtain ⟨c,hc,_⟩:=aiI (x:=x) (by simpa using hf)
  have hT:∃ v,acV (n+1) x.fKind x.fRel x.fCol x.fConst.fKind x.fConst.fInt x.fConst.fFloat x.fConst.fText x.fKids a 0=some v:=by
    unfold acV
    rw [zt]
    refine aco (aly a 24 x c hc hw n n (by omega) (by omega)) (fun _=>⟨_,rfl⟩) fun _=>?_
    exact aco (aj0 a 24 x c hc hw n n (by omega) (by omega)) (fun _=>⟨_,rfl⟩) fun _=>⟨_,rfl⟩
  have hg:∃ v,qz (n+2) x.fKind x.fRel x.fCol x.fConst.fKind x.fConst.fInt x.fConst.fFloat x.fConst.fText x.fKids a 0=some v:=by
    unfold qz
    rw [zt]
    exact aco hT (fun _=>⟨_,rfl⟩) fun _=>⟨_,rfl⟩
  obtain ⟨v,hv⟩:=hg
  rw [hv,Option.bind_some]
  exact qt (fun _=>⟨_,rfl⟩) fun _=>⟨_,rfl⟩
end Go.Pl
set_option linter.unusedVariables false
set_option linter.unusedSimpArgs false
set_option maxRecDepth 100000
namespace Go.Pl
open Go Go.Ab
def Is {α:Type} (P:α→Prop) (o:Option α):Prop:=∃ r,o=some r∧P r
theorem ZH {α:Type} {P:α→Prop} {c:Bool} {A B:Option α} (h1:c=true→Is P A) (h2:c=false→Is P B):Is P (bif c then A else B):=by
  cases c with
  | true=>exact h1 rfl
  | false=>exact h2 rfl
theorem ZI {α β:Type} {Q:α→Prop} {P:β→Prop} {A:Option α} {F:α→Option β} (h1:Is Q A) (h2:∀ a,Q a→Is P (F a)):Is P (A.bind F):=by
  obtain ⟨a,rfl,hq⟩:=h1
  exact h2 a hq
theorem afe {α:Type} {o:Option α} (h:∃ r,o=some r):Is (fun _=>True) o:=by
  obtain ⟨r,h⟩:=h
  exact ⟨r,h,trivial⟩
theorem is_u {α:Type} (x:α):Is (fun _=>True) (some x):=⟨x,rfl,trivial⟩
theorem ck8 {l:Nat} (h:l≤2000000):Is (fun _=>True) (ckA 8 l):=⟨(),Qw h (by omega),trivial⟩
section
variable {x:zh} (hw:Zx x) (a:Option (List zk)) {n:Nat} (hn:2000300≤n)
include hw hn
theorem ap3:Is (fun _=>True) (qL n a x):=by
  obtain ⟨n,rfl⟩:∃ j,n=j+3:=⟨n - 3,by omega⟩
  unfold qL Zi abQ abN
  simp only [zt,Option.bind_some,zD]
  refine ZI (Q:=fun _=>True) (ZI (afe (adR hw a (n:=n+1) (by omega))) fun p _=>?_) fun v _=>⟨_,rfl,trivial⟩
  refine ZH (fun _=>ZH (fun _=>ZH (fun _=>⟨_,rfl,trivial⟩) fun _=>⟨_,rfl,trivial⟩) fun _=>ZH (fun _=>⟨_,rfl,trivial⟩) fun _=>⟨_,rfl,trivial⟩) fun _=>ZH (fun _=>⟨_,rfl,trivial⟩) fun _=>⟨_,rfl,trivial⟩
theorem ang:Is (fun p=>(sll p.1).length≤1) (Zd n a x):=by
  obtain ⟨n,rfl⟩:∃ j,n=j+3:=⟨n - 3,by omega⟩
  unfold Zd qK QD
  simp only [zt,Option.bind_some,zD]
  refine ZI (afe (adR hw a (n:=n+2) (by omega))) fun p _=>?_
  have fin:∀ y:Int,Is (fun p:(Option (List Int)) × Int=>(sll p.1).length≤1) (bif (y == 0) then ((ckA 8 ([p.1]:List Int).length).bind fun _=>some ()).bind fun _=>some ((some ([p.1]:List Int)),y) else some (none,y)):=fun y=>
    ZH (fun _=>ZI (ZI (ck8 (by simp)) fun _ _=>is_u ()) fun _ _=>⟨_,rfl,by simp [sll]⟩) fun _=>⟨_,rfl,by simp [sll]⟩
  exact ZH (fun _=>ZH (fun _=>fin _) fun _=>fin _) fun _=>fin _
theorem aod:Is (fun p=>(sll p.1).length≤1) (Zq n a x):=by
  obtain ⟨n,rfl⟩:∃ j,n=j+4:=⟨n - 4,by omega⟩
  unfold Zq qK abM QD
  simp only [zt,Option.bind_some,zD]
  refine ZI (afe (adR hw a (n:=n+3) (by omega))) fun p _=>?_
  have fin:∀ y:Int,Is (fun p:(Option (List Int)) × Int=>(sll p.1).length≤1) (bif (y == 0) then (((ckA 8 ([2]:List Int).length).bind fun _=>some ()).bind fun _=>some ()).bind fun _=>some ((some ([2]:List Int)),y) else some (none,y)):=fun y=>
    ZH (fun _=>ZI (ZI (ZI (ck8 (by simp)) fun _ _=>is_u ()) fun _ _=>is_u ()) fun _ _=>⟨_,rfl,by simp [sll]⟩) fun _=>⟨_,rfl,by simp [sll]⟩
  exact ZH (fun _=>ZH (fun _=>fin _) fun _=>fin _) fun _=>fin _
theorem aog:Is (fun p=>(sll p.1).length≤1) (Zk n a x):=by
  obtain ⟨n,rfl⟩:∃ j,n=j+4:=⟨n - 4,by omega⟩
  unfold Zk QX abR QD
  simp only [zt,Option.bind_some,zD]
  refine ZI (afe (adR hw a (n:=n+3) (by omega))) fun p _=>?_
  have fin:∀ y:Int,Is (fun p:(Option (List Int)) × Int=>(sll p.1).length≤1) (bif (y == 0) then (((ckA 8 ([2]:List Int).length).bind fun _=>some ()).bind fun _=>some ()).bind fun _=>some ((some ([2]:List Int)),y) else some (none,y)):=fun y=>
    ZH (fun _=>ZI (ZI (ZI (ck8 (by simp)) fun _ _=>is_u ()) fun _ _=>is_u ()) fun _ _=>⟨_,rfl,by simp [sll]⟩) fun _=>⟨_,rfl,by simp [sll]⟩
  exact ZH (fun _=>ZH (fun _=>fin _) fun _=>fin _) fun _=>fin _
variable {s:List Int} (hs:s.length≤1900000)
include hs
theorem al3:Is (fun p=>p.1.length≤s.length+1) (Zb n s a x):=by
  obtain ⟨n,rfl⟩:∃ j,n=j+3:=⟨n - 3,by omega⟩
  unfold Zb qK qX
  simp only [zt,Option.bind_some,zD]
  refine ZI (afe (adR hw a (n:=n+2) (by omega))) fun p _=>?_
  have fin:∀ y:Int,Is (fun p:(List Int) × Int=>p.1.length≤s.length+1) (bif (y == 0) then ((ckA 8 (s++([p.1]:List Int)).length).bind fun _=>some ()).bind fun _=>some ((s++([p.1]:List Int)),y) else some (s,y)):=fun y=>
    ZH (fun _=>ZI (ZI (ck8 (by simp; omega)) fun _ _=>is_u ()) fun _ _=>⟨_,rfl,by simp⟩) fun _=>⟨_,rfl,by simp⟩
  exact ZH (fun _=>ZH (fun _=>fin _) fun _=>fin _) fun _=>fin _
theorem anW:Is (fun p=>p.1.length≤s.length+1) (Zj n s a x):=by
  obtain ⟨n,rfl⟩:∃ j,n=j+4:=⟨n - 4,by omega⟩
  unfold Zj qK aaX qX
  simp only [zt,Option.bind_some,zD]
  refine ZI (afe (adR hw a (n:=n+3) (by omega))) fun p _=>?_
  have fin:∀ y:Int,Is (fun p:(List Int) × Int=>p.1.length≤s.length+1) (bif (y == 0) then (((ckA 8 (s++([2]:List Int)).length).bind fun _=>some ()).bind fun _=>some ()).bind fun _=>some ((s++([2]:List Int)),y) else some (s,y)):=fun y=>
    ZH (fun _=>ZI (ZI (ZI (ck8 (by simp; omega)) fun _ _=>is_u ()) fun _ _=>is_u ()) fun _ _=>⟨_,rfl,by simp⟩) fun _=>⟨_,rfl,by simp⟩
  exact ZH (fun _=>ZH (fun _=>fin _) fun _=>fin _) fun _=>fin _
theorem an9:Is (fun p=>p.1.length≤s.length+1) (Ze n s a x):=by
  obtain ⟨n,rfl⟩:∃ j,n=j+4:=⟨n - 4,by omega⟩
  unfold Ze QX aa1 qX
  simp only [zt,Option.bind_some,zD]
  refine ZI (afe (adR hw a (n:=n+3) (by omega))) fun p _=>?_
  have fin:∀ y:Int,Is (fun p:(List Int) × Int=>p.1.length≤s.length+1) (bif (y == 0) then (((ckA 8 (s++([2]:List Int)).length).bind fun _=>some ()).bind fun _=>some ()).bind fun _=>some ((s++([2]:List Int)),y) else some (s,y)):=fun y=>
    ZH (fun _=>ZI (ZI (ZI (ck8 (by simp; omega)) fun _ _=>is_u ()) fun _ _=>is_u ()) fun _ _=>⟨_,rfl,by simp⟩) fun _=>⟨_,rfl,by simp⟩
  exact ZH (fun _=>ZH (fun _=>fin _) fun _=>fin _) fun _=>fin _
end
theorem anP {w:Option (List EX)} (hw:wSl zI w) (a:Option (List zk)) {n:Nat} (hn:2000310≤n):Is (fun _=>True) (Zs n a w):=by
  obtain ⟨n,rfl⟩:∃ j,n=j+1:=⟨n - 1,by omega⟩
  unfold Zs
  rw [zt,zD]
  refine afe (abJ (F:=fun k (_:Unit) i=>zR n a w _ k i) (l:=sll w) (fun _ _=>True) hw.1 (by omega) () trivial (fun k i _ z hi hz _=>?_) fun k _ _=>?_)
  · have hmem:z∈sll w:=hz ▸ List.getElem_mem hi
    obtain ⟨v,hv,_⟩:=ap3 (W_un (hw.2 z hmem)) a (n:=n) (by omega)
    rw [zR,dT (by omega),cond_true,Z8 hi hz,Option.bind_some,hv,Option.bind_some]
    cases hb:v != 0 with
    | true=>exact .inl ⟨_,rfl⟩
    | false=>exact .inr ⟨(),trivial,rfl⟩
  · rw [zR,dF (by omega),cond_false]
    exact ⟨_,rfl⟩
theorem aqa {x:zh} (hw:Zx x) (a:Option (List zk)) {n:Nat} (hn:2000310≤n):Is (fun p=>(sll p.1).length≤1) (abI n a x):=by
  obtain ⟨n,rfl⟩:∃ j,n=j+1:=⟨n - 1,by omega⟩
  unfold abI
  rw [zt]
  refine ZI (ang hw a (by omega)) fun p hp=>?_
  obtain ⟨o,e⟩:=p
  cases o <;> exact ⟨_,rfl,hp⟩
theorem apu {x:zh} (hw:Zx x) (a:Option (List zk)) {s:List Int} (hs:s.length≤1900000) {n:Nat} (hn:2000310≤n):Is (fun p=>p.1.length≤s.length+1) (aaI n s a x):=by
  obtain ⟨n,rfl⟩:∃ j,n=j+1:=⟨n - 1,by omega⟩
  unfold aaI
  rw [zt]
  exact ZI (al3 hw a (by omega) hs) fun p hp=>⟨_,rfl,hp⟩
theorem amW {α S R:Type} {Q:R→Prop} {F:Nat→S→Int→Option R} {l:List α} {P:Nat→S→Prop} (hl:l.length≤1048576)
    (hF:∀ (m i:Nat) (s:S) (x:α),(hi:i < l.length)→l[i]=x→P i s→Is Q (F (m+1) s (i:Int))∨∃ s',P (i+1) s'∧F (m+1) s (i:Int)=F m s' (IntKind.wrap .i64 ((i:Int)+1)))
    (hE:∀ (m:Nat) (s:S),P l.length s→Is Q (F (m+1) s (l.length:Int))):∀ (m i:Nat) (s:S),i≤l.length→l.length - i < m→P i s→Is Q (F m s (i:Int))
  | 0,i,s,_,h,_=>by omega
  | m+1,i,s,h,hm,hp=>by
    by_cases hi:i < l.length
    · rcases hF m i s _ hi rfl hp with h1 | ⟨s',hp',h1⟩
      · exact h1
      · rw [h1,acv (by omega)]
        exact amW hl hF hE m (i+1) s' (by omega) (by omega) hp'
    · obtain rfl:i=l.length:=by omega
      exact hE m s hp
theorem ag1 {α S R:Type} {Q:R→Prop} {F:Nat→S→Int→Option R} {l:List α} (P:Nat→S→Prop) (hl:l.length≤1048576) {m:Nat} (hm:2000000≤m) (s:S) (h0:P 0 s)
    (hF:∀ (m i:Nat) (s:S) (x:α),(hi:i < l.length)→l[i]=x→P i s→Is Q (F (m+1) s (i:Int))∨∃ s',P (i+1) s'∧F (m+1) s (i:Int)=F m s' (IntKind.wrap .i64 ((i:Int)+1)))
    (hE:∀ (m:Nat) (s:S),P l.length s→Is Q (F (m+1) s (l.length:Int))):Is Q (F m s 0):=
  amW hl hF hE m 0 s (by omega) (by omega) h0
theorem anL {w:Option (List EX)} (hw:wSl zI w) (hl:(sll w).length≤20) (a:Option (List zk)) {n:Nat} (hn:2000320≤n):Is (fun p=>(sll p.1).length≤21) (Z9 n a w):=by
  obtain ⟨n,rfl⟩:∃ j,n=j+1:=⟨n - 1,by omega⟩
  unfold Z9
  rw [zt,zD]
  refine ag1 (F:=fun k (s:Option (List Int)) i=>zG n a w _ k s i) (l:=sll w) (fun i s=>(sll s).length≤i) hw.1 (by omega) none (by simp [sll]) (fun k i s z hi hz hp=>?_) fun k s hp=>?_
  · have hmem:z∈sll w:=hz ▸ List.getElem_mem hi
    cases s with
    | none=>
      obtain ⟨⟨o,v⟩,hv,ho⟩:=aqa (W_un (hw.2 z hmem)) a (n:=n) (by omega)
      rw [zG,dT (by omega),cond_true,Z8 hi hz,Option.bind_some,hv,Option.bind_some]
      cases o with
      | none=>
        cases hb:v != 0 with
        | true=>exact .inl ⟨(none,v),by simp only [hb,cond_true],by simp [sll]⟩
        | false=>exact .inr ⟨none,by simp [sll],by simp only [hb,cond_false]⟩
      | some y=>
        cases hb:v != 0 with
        | true=>exact .inl ⟨(some y,v),by simp only [hb,cond_true],by simp [sll] at ho ⊢; omega⟩
        | false=>exact .inr ⟨some y,by simp [sll] at ho ⊢; omega,by simp only [hb,cond_false]⟩
    | some y=>
      simp only [sll] at hp
      obtain ⟨⟨o,v⟩,hv,ho⟩:=apu (W_un (hw.2 z hmem)) a (s:=y) (by omega) (n:=n) (by omega)
      rw [zG,dT (by omega),cond_true,Z8 hi hz,Option.bind_some,hv,Option.bind_some]
      simp only at ho
      cases hb:v != 0 with
      | true=>exact .inl ⟨(some o,v),by simp only [hb,cond_true],by simp only [sll]; omega⟩
      | false=>exact .inr ⟨some o,by simp only [sll]; omega,by simp only [hb,cond_false]⟩
  · cases s with
    | none=>
      rw [zG,dF (by omega),cond_false]
      exact ⟨_,rfl,by simp [sll]⟩
    | some y=>
      rw [zG,dF (by omega),cond_false]
      rw [qA] at hp
      exact ⟨_,rfl,by show y.length≤21; omega⟩
theorem aqf {x:zK} (hw:Zx x.fOf) (a:Option (List zk)) {n:Nat} (hn:2000310≤n):Is (fun p=>(sll p.1).length≤1) (abG n a x):=by
  obtain ⟨n,rfl⟩:∃ j,n=j+1:=⟨n - 1,by omega⟩
  unfold abG
  rw [zt]
  have fin:∀ p:(Option (List Int)) × Int,(sll p.1).length≤1→Is (fun p:(Option (List Int)) × Int=>(sll p.1).length≤1) (match p with | (none,x4)=>some (none,x4) | (some x3,x4)=>some ((some x3),x4)):=fun p hp=>by
    obtain ⟨o,e⟩:=p
    cases o <;> exact ⟨_,rfl,hp⟩
  exact ZH (fun _=>ZI (aod hw a (by omega)) fin) fun _=>ZH (fun _=>ZI (aog hw a (by omega)) fin) fun _=>ZI (ang hw a (by omega)) fin
theorem anc {x:zK} (hw:Zx x.fOf) (a:Option (List zk)) {s:List Int} (hs:s.length≤1900000) {n:Nat} (hn:2000310≤n):Is (fun p=>p.1.length≤s.length+1) (QY n s a x):=by
  obtain ⟨n,rfl⟩:∃ j,n=j+1:=⟨n - 1,by omega⟩
  unfold QY
  rw [zt]
  have fin:∀ p:(List Int) × Int,p.1.length≤s.length+1→Is (fun p:(List Int) × Int=>p.1.length≤s.length+1) (match p with | (x3,x4)=>some (x3,x4)):=fun p hp=>⟨_,rfl,hp⟩
  exact ZH (fun _=>ZI (anW hw a (by omega) hs) fin) fun _=>ZH (fun _=>ZI (an9 hw a (by omega) hs) fin) fun _=>ZI (al3 hw a (by omega) hs) fin
theorem anu {w:Option (List zK)} (hw:wSl Qr w) (hl10:(sll w).length≤10) (a:Option (List zk)) {n:Nat} (hn:2000320≤n):Is (fun p=>(sll p.1).length≤40) (ZU n a w):=by
  obtain ⟨n,rfl⟩:∃ j,n=j+1:=⟨n - 1,by omega⟩
  unfold ZU
  rw [zt,zD]
  have hl:=hw.1
  refine ag1 (F:=fun k (s:Option (List Int)) i=>zH n a w _ k s i) (l:=sll w) (fun i s=>(sll s).length≤i) hw.1 (by omega) none (by simp [sll]) (fun k i s z hi hz hp=>?_) fun k s hp=>?_
  · have hmem:z∈sll w:=hz ▸ List.getElem_mem hi
    cases s with
    | none=>
      obtain ⟨⟨o,v⟩,hv,ho⟩:=aqf (hw.2 z hmem).2 a (n:=n) (by omega)
      rw [zH,dT (by omega),cond_true,Z8 hi hz,Option.bind_some,hv,Option.bind_some]
      cases o with
      | none=>
        cases hb:v != 0 with
        | true=>exact .inl ⟨(none,v),by simp only [hb,cond_true],by simp [sll]⟩
        | false=>exact .inr ⟨none,by simp [sll],by simp only [hb,cond_false]⟩
      | some y=>
        cases hb:v != 0 with
        | true=>exact .inl ⟨(some y,v),by simp only [hb,cond_true],by simp [sll] at ho ⊢; omega⟩
        | false=>exact .inr ⟨some y,by simp [sll] at ho ⊢; omega,by simp only [hb,cond_false]⟩
    | some y=>
      rw [qA] at hp
      obtain ⟨⟨o,v⟩,hv,ho⟩:=anc (hw.2 z hmem).2 a (s:=y) (by omega) (n:=n) (by omega)
      rw [zH,dT (by omega),cond_true,Z8 hi hz,Option.bind_some,hv,Option.bind_some]
      simp only at ho
      cases hb:v != 0 with
      | true=>exact .inl ⟨(some o,v),by simp only [hb,cond_true],by show o.length≤40; omega⟩
      | false=>exact .inr ⟨some o,by simp only [sll]; omega,by simp only [hb,cond_false]⟩
  · cases s with
    | none=>
      rw [zH,dF (by omega),cond_false]
      exact ⟨_,rfl,by simp [sll]⟩
    | some y=>
      rw [zH,dF (by omega),cond_false]
      rw [qA] at hp
      exact ⟨_,rfl,by show y.length≤40; omega⟩
theorem amQ {w:Option (List zK)} (hw:wSl Qr w) (hl10:(sll w).length≤10) (a:Option (List zk)) {s:List Int} (hs:s.length≤21) {n:Nat} (hn:2000320≤n):Is (fun p=>p.1.length≤40) (ZL n s a w):=by
  obtain ⟨n,rfl⟩:∃ j,n=j+1:=⟨n - 1,by omega⟩
  unfold ZL
  rw [zt,zD]
  have hl:=hw.1
  refine ag1 (F:=fun k (s:List Int) i=>Zp n a w _ k s i) (l:=sll w) (fun i s=>s.length≤i+21) hw.1 (by omega) s (by omega) (fun k i y z hi hz hp=>?_) fun k s hp=>?_
  · have hmem:z∈sll w:=hz ▸ List.getElem_mem hi
    obtain ⟨⟨o,v⟩,hv,ho⟩:=anc (hw.2 z hmem).2 a (s:=y) (by omega) (n:=n) (by omega)
    rw [Zp,dT (by omega),cond_true,Z8 hi hz,Option.bind_some,hv,Option.bind_some]
    simp only at ho
    cases hb:v != 0 with
    | true=>exact .inl ⟨(o,v),by simp only [hb,cond_true],by show o.length≤40; omega⟩
    | false=>exact .inr ⟨o,by omega,by simp only [hb,cond_false]⟩
  · rw [Zp,dF (by omega),cond_false]
    exact ⟨_,rfl,by show s.length≤40; omega⟩
end Go.Pl
set_option linter.unusedVariables false
set_option linter.unusedSimpArgs false
set_option maxRecDepth 100000
namespace Go.Pl
open Go Go.Ab
theorem alD (q:zx) {n:Nat} (hn:1≤n):∃ r,aa4 n q=some r:=by
  obtain ⟨n,rfl⟩:∃ j,n=j+1:=⟨n - 1,by omega⟩
  exact ⟨_,rfl⟩
theorem aoa {a:Option (List zK)} (ha:(sll a).length≤1048576) {n:Nat} (hn:2000010≤n):∃ r,ZD n a=some r:=by
  obtain ⟨n,rfl⟩:∃ j,n=j+3:=⟨n - 3,by omega⟩
  unfold ZD Z5
  rw [zt,zt]
  refine aae ?_ fun _=>⟨_,rfl⟩
  rw [zD]
  refine abJ (F:=fun k (_:Unit) i=>Za (n+1) a _ k i) (l:=sll a) (fun _ _=>True) ha (by omega) () trivial (fun k i _ z hi hz _=>?_) fun k _ _=>?_
  · rw [Za,dT (by omega),cond_true,Z8 hi hz,Option.bind_some,acd,zt,Option.bind_some]
    generalize ((decide (z.fKind < 1)) || (decide (z.fKind > 4)))=b
    cases b with
    | true=>exact .inl ⟨_,rfl⟩
    | false=>exact .inr ⟨(),trivial,rfl⟩
  · rw [Za,dF (by omega),cond_false]
    exact ⟨_,rfl⟩
theorem aoB {a:Option (List Zn)} (ha:(sll a).length≤1048576) (a1:(Option (List ByteArray))) (a2:(Option (List zd))) (a3:Bool) (a4:(Option (List zd))) (a5:(Option (List zK))) (a6:(Option (List Zn))) {n:Nat} (hn:2000010≤n):∃ r,zS n a a1 a2 a3 a4 a5 a6=some r:=by
  obtain ⟨n,rfl⟩:∃ j,n=j+4:=⟨n - 4,by omega⟩
  unfold zS Zg
  rw [zt,zt]
  refine aae ?_ fun _=>⟨_,rfl⟩
  rw [zD]
  refine abJ (F:=fun k (_:Unit) i=>zE (n+2) a a1 a2 a3 a4 a5 a6 _ k i) (l:=sll a) (fun _ _=>True) ha (by omega) () trivial (fun k i _ z hi hz _=>?_) fun k _ _=>?_
  · have:∃ b,QK (n+2) z a1 a2 a3 a4 a5 a6=some b:=by
      unfold QK
      rw [zt]
      exact qt (fun _=>⟨_,rfl⟩) fun _=>aae (alD _ (by omega)) fun _=>⟨_,rfl⟩
    obtain ⟨b,hb⟩:=this
    rw [zE,dT (by omega),cond_true,Z8 hi hz,Option.bind_some,hb,Option.bind_some]
    cases b with
    | true=>exact .inl ⟨_,rfl⟩
    | false=>exact .inr ⟨(),trivial,rfl⟩
  · rw [zE,dF (by omega),cond_false]
    exact ⟨_,rfl⟩
theorem amt {q:zx} (hq:abm q) {n:Nat} (hn:2000020≤n):Is (fun b=>b=true→(sll q.fOut).length≤20∧(sll q.fAggs).length≤10) (Q5 n q):=by
  obtain ⟨n,rfl⟩:∃ j,n=j+1:=⟨n - 1,by omega⟩
  unfold Q5
  rw [zt]
  refine ZH (fun _=>⟨_,rfl,by simp⟩) fun h=>?_
  have hl:(sll q.fOut).length≤20∧(sll q.fAggs).length≤10:=by
    simp only [Bool.or_eq_false_iff,decide_eq_false_iff_not] at h
    omega
  refine ZH (fun _=>⟨_,rfl,by simp⟩) fun _=>?_
  refine ZI (afe (alD q (by omega))) fun w _=>?_
  refine ZH (fun _=>⟨_,rfl,by simp⟩) fun _=>?_
  refine ZI (afe (aoa hq.2.2.2.2.1.1 (by omega))) fun w _=>?_
  refine ZH (fun _=>⟨_,rfl,by simp⟩) fun _=>?_
  refine ZI (afe (aoB hq.2.2.2.2.2.1 _ _ _ _ _ _ (by omega))) fun w _=>⟨_,rfl,fun _=>hl⟩
theorem aiX {α:Type} {F:Nat→Int→Option Int} {l:List α} {p:α→Bool} (hl:l.length≤1048576)
    (hF:∀ (m i:Nat) (x:α),(hi:i < l.length)→l[i]=x→F (m+1) (i:Int)=bif p x then some (i:Int) else F m (IntKind.wrap .i64 ((i:Int)+1))) (hE:∀ (m:Nat),F (m+1) (l.length:Int)=some (-1)):
    ∀ (m i:Nat),i≤l.length→l.length - i < m→∃ j,F m (i:Int)=some j∧(((l.drop i).find? p=none∧j=-1)∨∃ t,(l.drop i).find? p=some t∧0≤j∧idx l j=some t)
  | 0,i,_,h=>by omega
  | m+1,i,h,hm=>by
    by_cases hi:i < l.length
    · rw [hF m i _ hi rfl,acv (by omega),List.drop_eq_getElem_cons hi,List.find?_cons]
      obtain ⟨j,h1,h2⟩:=aiX hl hF hE m (i+1) (by omega) (by omega)
      cases hp:p l[i] with
      | true=>exact ⟨i,rfl,.inr ⟨l[i],rfl,by omega,Z8 hi rfl⟩⟩
      | false=>exact ⟨j,h1,h2⟩
    · obtain rfl:i=l.length:=by omega
      exact ⟨-1,hE m,.inl ⟨by rw [List.drop_length]; rfl,rfl⟩⟩
def named (name:ByteArray) (t:zk):Bool:=sEq t.fName name
theorem aps {a:Option (List zk)} (ha:(sll a).length≤1048576) (name:ByteArray) {n:Nat} (hn:2000010≤n):
    ∃ j,Zh n a name=some j∧(((sll a).find? (named name)=none∧j=-1)∨∃ t,(sll a).find? (named name)=some t∧0≤j∧idx (sll a) j=some t):=by
  obtain ⟨n,rfl⟩:∃ j,n=j+2:=⟨n - 2,by omega⟩
  unfold Zh
  rw [zt,zD]
  have:=aiX (F:=fun k i=>zU (n+1) a name (fun _=>some (-1)) k i) (l:=sll a) (p:=named name) ha (fun m i x hi hx=>by
    rw [zU,dT (by omega),cond_true,Z8 hi hx,Option.bind_some]; rfl) (fun m=>by
    rw [zU,dF (by omega),cond_false]) (n+1) 0 (by omega) (by omega)
  rwa [List.drop_zero] at this
theorem ao7 {c:Option (List ZT)} (hc:(sll c).length≤1048576) {n:Nat} (hn:1≤n):qV n c=some c:=by
  obtain ⟨n,rfl⟩:∃ j,n=j+1:=⟨n - 1,by omega⟩
  unfold qV
  rw [zt]
  cases c with
  | none=>rfl
  | some l=>
    rw [qA] at hc
    simp only [Option.isNone_some,cond_false,qA]
    cases l with
    | nil=>rw [List.isEmpty_nil,cond_true,Qw (by simp) (by omega)]; rfl
    | cons x l=>rw [List.isEmpty_cons,cond_false,Qw (by simpa using (show (x :: l).length≤2000000 by omega)) (by omega)]; rfl
def aaY (all:List zk):List ByteArray→Option (List zk)
  | []=>some []
  | x :: r=>match all.find? (named x),aaY all r with
    | some t,some l=>some (⟨x,t.fCols⟩ :: l)
    | _,_=>none
theorem aj1 (all:List zk):∀ (a b:List ByteArray),aaY all (a++b)=match aaY all a,aaY all b with
    | some p,some q=>some (p++q)
    | _,_=>none
  | [],b=>by
    rw [List.nil_append,aaY]
    cases aaY all b <;> rfl
  | x :: a,b=>by
    rw [List.cons_append,aaY,aaY,aj1 all a b]
    cases all.find? (named x) with
    | none=>rfl
    | some t=>
      cases aaY all a with
      | none=>rfl
      | some p=>
        cases aaY all b with
        | none=>rfl
        | some q=>rfl
theorem aku {all:List zk}:∀ {a:List ByteArray} {x:ByteArray},x∈a→all.find? (named x)=none→aaY all a=none
  | y :: a,x,h,hf=>by
    rw [aaY]
    rcases List.mem_cons.1 h with rfl | h
    · rw [hf]
    · rw [aku h hf]
      cases all.find? (named y) <;> rfl
theorem aka {all:List zk}:∀ {a:List ByteArray} {l:List zk},aaY all a=some l→l.length=a.length
  | [],l,h=>by cases h; rfl
  | x :: a,l,h=>by
    rw [aaY] at h
    split at h
    · rename_i t l' h1 h2
      cases h
      rw [List.length_cons,List.length_cons,aka h2]
    · cases h
def agY (all:List zk) (rels:List ByteArray):Option (List zk) × Int:=
  if rels.length > 12 then (none,51) else if rels.length=0 then (none,2) else match aaY all rels with
    | none=>(none,40)
    | some l=>(some l,0)
theorem anC {a:Option (List zk)} (ha:wSl QA a) {rels:Option (List ByteArray)} (hr:(sll rels).length≤1048576) {n:Nat} (hn:2000020≤n):
    Is (fun (p:Option (List zk) × Int)=>match aaY (sll a) (sll rels) with | none=>p.2=40 | some l=>sll p.1=l∧p.2=0∧(p.1=none↔sll rels=[])) (ZW n a rels):=by
  obtain ⟨n,rfl⟩:∃ j,n=j+2:=⟨n - 2,by omega⟩
  unfold ZW
  rw [zt,zD]
  refine ag1 (F:=fun k (s:Option (List zk)) i=>zy (n+1) a rels _ k s i) (l:=sll rels) (fun i s=>aaY (sll a) ((sll rels).take i)=some (sll s)∧(s=none↔i=0)) hr (by omega) none ⟨rfl,by simp⟩ (fun k i s z hi hz hp=>?_) fun k s hp=>?_
  · have hmem:z∈sll rels:=hz ▸ List.getElem_mem hi
    obtain ⟨p1,p2⟩:=hp
    have hlen:=aka p1
    rw [List.length_take] at hlen
    have htake:(sll rels).take (i+1)=(sll rels).take i++[z]:=by rw [List.take_add_one,List.getElem?_eq_getElem hi,hz]; rfl
    obtain ⟨j,hj,hcase⟩:=aps ha.1 z (n:=n) (by omega)
    rcases hcase with ⟨hf,rfl⟩ | ⟨t,hf,hj0,hidx⟩
    · left
      rw [aku hmem hf]
      cases s with
      | none=>
        rw [zy,dT (by omega),cond_true,Z8 hi hz,Option.bind_some,abc,zt,hj]
        exact ⟨_,rfl,rfl⟩
      | some y=>
        rw [zy,dT (by omega),cond_true,Z8 hi hz,Option.bind_some,aak,zt,hj]
        exact ⟨_,rfl,rfl⟩
    · right
      have ht:QA t:=ha.2 t (List.mem_of_find?_eq_some hf)
      have hcl:=ao7 ht.2.1 (n:=n) (by omega)
      have hnew:aaY (sll a) ((sll rels).take (i+1))=some (sll s++[⟨z,t.fCols⟩]):=by
        rw [htake,aj1,p1,aaY,hf]; rfl
      cases s with
      | none=>
        rw [zy,dT (by omega),cond_true,Z8 hi hz,Option.bind_some,abc,zt,hj,Option.bind_some,dF (by omega),cond_false,hidx,Option.bind_some,hcl,Option.bind_some,Qw (by simp) (by omega),Option.bind_some,Option.bind_some]
        exact ⟨some ([]++[zk.mk z t.fCols]),⟨hnew,by simp⟩,rfl⟩
      | some y=>
        rw [qA] at hlen
        rw [zy,dT (by omega),cond_true,Z8 hi hz,Option.bind_some,aak,zt,hj,Option.bind_some,dF (by omega),cond_false,hidx,Option.bind_some,hcl,Option.bind_some,Qw (by simp; omega) (by omega),Option.bind_some,Option.bind_some]
        exact ⟨some (y++[zk.mk z t.fCols]),⟨hnew,by simp⟩,rfl⟩
  · obtain ⟨p1,p2⟩:=hp
    rw [List.take_length] at p1
    rw [p1]
    cases s with
    | none=>
      rw [zy,dF (by omega),cond_false]
      exact ⟨_,rfl,rfl,rfl,by simp only [true_iff]; exact List.eq_nil_of_length_eq_zero (p2.1 rfl)⟩
    | some y=>
      rw [zy,dF (by omega),cond_false]
      exact ⟨_,rfl,rfl,rfl,by simp only [reduceCtorEq,false_iff]; intro h; have:=p2.2 (by rw [h]; rfl); cases this⟩
theorem anK {q:zx} (hq:(sll q.fRels).length≤1048576) {a:Option (List zk)} (ha:wSl QA a) {n:Nat} (hn:2000030≤n):aaw n q a=some (agY (sll a) (sll q.fRels)):=by
  obtain ⟨n,rfl⟩:∃ j,n=j+1:=⟨n - 1,by omega⟩
  unfold aaw agY
  rw [zt]
  by_cases h1:(sll q.fRels).length > 12
  · rw [dT (by omega),cond_true,if_pos h1]
  rw [dF (by omega),cond_false,if_neg h1]
  by_cases h2:(sll q.fRels).length=0
  · rw [show (((sll q.fRels).length:Int) == 0)=true by simp [h2],cond_true,if_pos h2]
  rw [show (((sll q.fRels).length:Int) == 0)=false by simpa using h2,cond_false,if_neg h2]
  simp only [zD]
  obtain ⟨⟨o,e⟩,hp,hs⟩:=anC ha hq (n:=n) (by omega)
  rw [hp,Option.bind_some]
  cases ht:aaY (sll a) (sll q.fRels) with
  | none=>
    rw [ht] at hs
    obtain rfl:e=40:=hs
    cases o <;> rfl
  | some l=>
    rw [ht] at hs
    obtain ⟨s1,s2,s3⟩:=hs
    simp only at s1 s2 s3
    subst s2
    cases o with
    | none=>exact absurd (by rw [s3.1 rfl]; rfl) h2
    | some y=>
      rw [qA] at s1
      subst s1
      rfl
theorem an5 {q:zx} (hq:abm q) {a:Option (List zk)} (ha:wSl QA a) {n:Nat} (hn:2000400≤n):Is (fun p=>(sll p.1).length≤40∧(p.2=0→∃ l,aaY (sll a) (sll q.fRels)=some l)) (qH n q a):=by
  obtain ⟨n,rfl⟩:∃ j,n=j+1:=⟨n - 1,by omega⟩
  unfold qH
  rw [zt]
  rw [show (zx.mk q.fRels q.fWhere q.fGrouped q.fOut q.fAggs q.fOrder)=q from rfl,anK hq.1.1 ha (by omega),Option.bind_some]
  have tr:∀ {o:Option ((Option (List Int)) × Int)},(∃ l,aaY (sll a) (sll q.fRels)=some l)→Is (fun p=>(sll p.1).length≤40) o→Is (fun p=>(sll p.1).length≤40∧(p.2=0→∃ l,aaY (sll a) (sll q.fRels)=some l)) o:=fun hl h=>by
    obtain ⟨r,h,h40⟩:=h
    exact ⟨r,h,h40,fun _=>hl⟩
  refine ZH (fun h=>⟨_,rfl,by simp [sll],fun h0=>?_⟩) fun h=>?_
  · simp only at h0
    rw [h0] at h
    cases h
  have hl:∃ l,aaY (sll a) (sll q.fRels)=some l:=by
    unfold agY at h
    split at h
    · cases h
    · split at h
      · cases h
      · split at h
        · cases h
        · exact ⟨_,by assumption⟩
  refine tr hl ?_
  refine ZI (amt hq (by omega)) fun b hb=>?_
  cases b with
  | false=>exact ⟨_,rfl,by simp [sll]⟩
  | true=>
  rw [Bool.not_true,cond_false]
  refine ZI (anP hq.2.1 _ (by omega)) fun x8 _=>?_
  simp only [zD]
  have z:∀ e:Int,Is (fun p:(Option (List Int)) × Int=>(sll p.1).length≤40) (some (none,e)):=fun e=>⟨_,rfl,by simp [sll]⟩
  have y:∀ (y:List Int) (e:Int),y.length≤40→Is (fun p:(Option (List Int)) × Int=>(sll p.1).length≤40) (some (some y,e)):=fun y e h=>⟨_,rfl,h⟩
  have nn:∀ y11:Int,Is (fun p=>(sll p.1).length≤40) (bif (y11 == 0) then (ZU n (agY (sll a) (sll q.fRels)).1 q.fAggs).bind fun | (none,x34)=>(bif (x34 != 0) then some ((none:Option (List Int)),x34) else some (none,0)) | (some x33,x34)=>(bif (x34 != 0) then some (none,x34) else some ((some x33),0)) else (bif (y11 != 0) then some ((none:Option (List Int)),y11) else some (none,0))):=fun y11=>
    ZH (fun _=>ZI (anu hq.2.2.2.2.1 (hb rfl).2 _ (by omega)) fun p hp=>by
      obtain ⟨o,e⟩:=p
      cases o with
      | none=>exact ZH (fun _=>z _) fun _=>z _
      | some o=>exact ZH (fun _=>z _) fun _=>y _ _ hp) fun _=>ZH (fun _=>z _) fun _=>z _
  have ss:∀ (y10:List Int),y10.length≤21→∀ y11:Int,Is (fun p=>(sll p.1).length≤40) (bif (y11 == 0) then (ZL n y10 (agY (sll a) (sll q.fRels)).1 q.fAggs).bind fun (x55,x56)=>(bif (x56 != 0) then some ((none:Option (List Int)),x56) else some ((some x55),0)) else (bif (y11 != 0) then some ((none:Option (List Int)),y11) else some ((some y10),0))):=fun y10 h10 y11=>
    ZH (fun _=>ZI (amQ hq.2.2.2.2.1 (hb rfl).2 _ h10 (by omega)) fun p hp=>ZH (fun _=>z _) fun _=>y _ _ hp) fun _=>ZH (fun _=>z _) fun _=>y _ _ (by omega)
  refine ZH (fun _=>?_) fun _=>nn _
  refine ZI (anL hq.2.2.2.1 (hb rfl).1 _ (by omega)) fun p hp=>?_
  obtain ⟨o,e⟩:=p
  cases o with
  | none=>exact nn e
  | some y=>exact ss y (by simpa [sll] using hp) e
end Go.Pl
