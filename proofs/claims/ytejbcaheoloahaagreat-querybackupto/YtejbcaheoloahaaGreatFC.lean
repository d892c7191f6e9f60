import Derived.Test.YtejbcaheoloahaaGreatFA
import Derived.Test.YtejbcaheoloahaaGreatPA
import Derived.Test.YtejbcaheoloahaaGreatPL
import Derived.Test.YtejbcaheoloahaaGreatPL
set_option linter.all false
set_option maxRecDepth 100000
namespace Go.Pl
open Go Go.Ab
def colK (a:List zn) (x:zk):Option Int:=(idx a x.K).bind fun t=>(idx (sll t.Q) x.M).bind fun c=>some c.A
theorem arH {α:Type}{l:List α}{i:Int}(h:i≥(l.length:Int)):idx l i=none:=by
 unfold idx
 split
 ·rw [List.getElem?_eq_none_iff];omega
 rfl
theorem am0 {x:zk}(h0:0≤x.K) (h1:0≤x.M) (a:Option jx) {n:Nat}(hn:1≤n):abE n x a=some (match colK (sll a) x with|none=>.inl 40|some k=>.inr k):=by
 obtain ⟨n,rfl⟩:=ja n 1
 unfold abE colK
 rw [zx]
 by_cases h:x.K≥((sll a).length:Int)
 ·rw [dT h,je,arH h];rfl
 obtain ⟨t,ht,_⟩:=arp h0 (Int.lt_of_not_ge h)
 rw [dF h,jd,ht,jc,jc]
 by_cases h':x.M≥((sll t.Q).length:Int)
 ·rw [dT h',je,arH h'];rfl
 obtain ⟨c,hc,_⟩:=arp h1 (Int.lt_of_not_ge h')
 rw [dF h',jd,hc,jc,jc]
noncomputable def refB (a:List zn):Nat→zk→Bool
 |0,_=>false
 |r+1,x=>(bif x.A==1 then (colK a x).isSome else true)&&(sll x.I).all fun z=>refB a r (zh z)
def toR (b:Bool):Int ⊕ Unit:=bif b then .inr () else .inl 40
theorem amO {n m r:Nat}{x:zk}{a:Option jx}(hl:(sll x.I).length≤1048576) (hC:∀ z,z∈sll x.I→aa1 m n (zh z) a=some (toR (refB (sll a) r (zh z)))):
  ∀ (l p:List EX) (k:Nat),sll x.I=p++l→l.length<k→aap n (aa1 m) x a k (p.length:Int)=some (toR (l.all fun z=>refB (sll a) r (zh z)))
 |[],p,k,he,hk=>by
  obtain ⟨k,rfl⟩:=ja k 1
  rw [aap,dF (by rw [he];simp),jd];rfl
 |z::l,p,k,he,hk=>by
  obtain ⟨k,rfl⟩:=ja k 1
  rw [List.length_cons] at hk
  have hlen:(sll x.I).length=p.length+(l.length+1):=by rw [he];simp
  have hix:idx (sll x.I) (p.length:Int)=some z:=by rw [he,ai9];simp
  rw [aap,dT hZ,je,hix,jc,hC z (by rw [he];simp),jc,List.all_cons,adZ hZ,show p.length+1=(p++[z]).length by simp]
  cases refB (sll a) r (zh z) with
  |false=>rfl
  |true=>exact amO hl hC l (p++[z]) k (by rw [he];simp) hZ
theorem aqf (a:Option jx):∀ (r:Nat) (x:zk) (c:Nat),frmE r x=some c→zQ x→∀ m n,r≤m→2000010+r≤n→aa1 m n x a=some (toR (refB (sll a) r x))
 |0,x,c,h,_,m,n,_,_=>by cases h
 |r+1,x,c,h,hw,m,n,hm,hn=>by
  obtain ⟨m,rfl⟩:=ja m 1
  obtain ⟨n,rfl⟩:=ja n 1
  obtain ⟨hnode,hk⟩:=afr h
  obtain ⟨h0,h1,_⟩:=aoS hnode
  have hl:=afl hw
  have loop:=amO (n:=n) (m:=m) (r:=r) (x:=x) (a:=a) hl (fun z hz=>by
   obtain ⟨c',hc',_⟩:=hk z hz
   exact aqf a r _ c' hc' (ahe hw hz) m n hZ hZ) (sll x.I) [] n rfl hZ
  show adI (aa1 m) (n+1) x a=_
  unfold adI
  rw [zx,refB]
  simp only [zE]
  have loop':aap n (aa1 m) x a n 0=_:=loop
  cases (x.A==1) with
  |false=>rw [jd,jd,jn];exact loop'
  |true=>
   rw [je,je,am0 h0 h1 a hZ,jc]
   cases colK (sll a) x with
   |none=>rfl
   |some k=>rw [Option.isSome_some,jn];exact loop'
def numB (a:Int):Bool:=((a==0)||(a==2))||(a==3)
def truB (a:Int):Bool:=(a==0)||(a==1)
def difB (a b:Int):Bool:=((a !=0)&&(b !=0))&&(a !=b)
def tyC (k:Int) (col:Option Int) (const:Int):List Int→Option Int
 |[]=>if k=1 then col else some const
 |[a]=>if k=6 then (bif numB a then some a else none) else if k=12 then (bif truB a then some 1 else none) else some 1
 |[a,b]=>if k=3∨k=4∨k=5 then (bif (numB a&&numB b)&&!difB a b then some (if b>a then b else a) else none)
  else if k=7∨k=8∨k=9 then (bif !difB a b then some 1 else none)
  else (bif (truB a&&truB b)&&!difB a b then some 1 else none)
 |_=>some 1
def aoU {α:Type}(f:α→Option Int):List α→Option (List Int)
 |[]=>some []
 |z::l=>match f z,aoU f l with
  |some a,some b=>some (a::b)
  |_,_=>none
noncomputable def tyP (a:List zn):Nat→zk→Option Int
 |0,_=>none
 |r+1,x=>(aoU (fun z=>tyP a r (zh z)) (sll x.I)).bind (tyC x.A (colK a x) x.D.A)
def toS (o:Option Int):Int ⊕ Int:=match o with
 |none=>.inl 50
 |some t=>.inr t
theorem akT (p q:Int) {n:Nat}(hn:2≤n):qH n p q=some (toS (bif (numB p&&numB q)&&!difB p q then some (if q>p then q else p) else none)):=by
 obtain ⟨n,rfl⟩:=ja n 2
 unfold qH adb
 rw [zx,zx,jc,zx,jc]
 unfold difB numB
 cases (((p==0)||(p==2))||(p==3))<;>cases (((q==0)||(q==2))||(q==3))<;>cases (((p !=0)&&(q !=0))&&(p !=q))<;>rfl
theorem an0 (p q:Int) {n:Nat}(hn:2≤n):Qq n p q=some (bif !difB p q then .inr (if q>p then q else p) else .inl 50):=by
 obtain ⟨n,rfl⟩:=ja n 2
 unfold Qq acV
 rw [zx,zx,jc,Bool.not_true,jd,jc]
 unfold difB
 cases (((p !=0)&&(q !=0))&&(p !=q))<;>rfl
theorem anC (p q:Int) {n:Nat}(hn:2≤n):Qd n p q=some (bif (truB p&&truB q)&&!difB p q then .inr (if q>p then q else p) else .inl 50):=by
 obtain ⟨n,rfl⟩:=ja n 2
 unfold Qd aeG
 rw [zx,zx,jc,zx,jc]
 unfold difB truB
 cases ((p==0)||(p==1))<;>cases ((q==0)||(q==1))<;>cases (((p !=0)&&(q !=0))&&(p !=q))<;>rfl
theorem aoL (p:Int):difB p p=false:=by unfold difB;simp
theorem len0 {α:Type}{l:List α}(h:l.length=0):l=[]:=List.eq_nil_of_length_eq_zero h
theorem len1 {α:Type}{l:List α}(h:l.length=1):∃ p,l=[p]:=by
 match l,h with
 |[p],_=>exact ⟨p,rfl⟩
theorem len2 {α:Type}{l:List α}(h:l.length=2):∃ p q,l=[p,q]:=by
 match l,h with
 |[p,q],_=>exact ⟨p,q,rfl⟩
theorem aoo (a:Option jx):∀ (r:Nat) (x:zk) (c:Nat),frmE r x=some c→zQ x→refB (sll a) r x=true→∀ m n,r≤m→2000010+r≤n→ab1 m n x a=some (toS (tyP (sll a) r x))
 |0,x,c,h,_,_,m,n,_,_=>by cases h
 |r+1,x,c,h,hw,hr,m,n,hm,hn=>by
  obtain ⟨m,rfl⟩:=ja m 1
  obtain ⟨n,rfl⟩:=ja n 4
  obtain ⟨hnode,hk⟩:=afr h
  obtain ⟨h0,h1,hlen⟩:=aoS hnode
  rw [refB,jm] at hr
  have ih:∀ z,z∈sll x.I→ab1 m (n+3) (zh z) a=some (toS (tyP (sll a) r (zh z))):=fun z hz=>by
   obtain ⟨c',hc',_⟩:=hk z hz
   exact aoo a r _ c' hc' (ahe hw hz) (List.all_eq_true.1 hr.2 z hz) m (n+3) hZ hZ
  show ac3 (ab1 m) (n+4) x a=_
  unfold ac3
  rw [zx,tyP]
  rw [zE]
  rcases ajV hlen with ⟨hl,hc⟩|⟨hl,hc⟩|⟨hl,hc⟩
  ·have e:=len0 hl
   rw [qu,dF (by rw [e];simp),jd,e]
   simp only [aoU,jc,tyC]
   rcases hc with hc|hc
   ·rw [hc] at hr ⊢
    rw [show ((1:Int)==1)=true from rfl,je,am0 h0 h1 a hZ,jc,if_pos rfl]
    have:=hr.1
    rw [show ((1:Int)==1)=true from rfl,je] at this
    cases hcol:colK (sll a) x with
    |none=>rw [hcol] at this;cases this
    |some k=>rfl
   rw [hc];rfl
  ·obtain ⟨p,e⟩:=len1 hl
   have hp:=ih p (by rw [e];simp)
   rw [qu,dT (by rw [e];simp),je,e,show idx [p] 0=some p from rfl,jc,hp,jc]
   simp only [aoU]
   cases tyP (sll a) r (zh p) with
   |none=>rfl
   |some t=>
    simp only [toS]
    rw [ab6 (by simp) (by decide),jc,qu,show IntKind.wrap .i64 ((0:Int)+1)=1 from rfl,dF (by rw [e];simp),jd,jc]
    simp only [tyC]
    rcases hc with hc|hc|hc<;>simp (decide:=true) only [zE,hc,je,jd,Int.reduceBEq,show idx [t] 0=some t from rfl,jc,if_true,if_false]
    ·rw [akT t t hZ,aoL]
     cases hn:numB t with
     |false=>rfl
     |true=>simp [toS]
    rw [anC t t hZ,aoL]
    cases hn:truB t<;>rfl
  obtain ⟨p,q,e⟩:=len2 hl
  have hp:=ih p (by rw [e];simp)
  have hq:=ih q (by rw [e];simp)
  rw [qu,dT (by rw [e];simp),je,e,show idx [p,q] 0=some p from rfl,jc,hp,jc]
  simp only [aoU]
  cases tyP (sll a) r (zh p) with
  |none=>rfl
  |some t=>
   simp only [toS]
   rw [ab6 (by simp) (by decide),jc,qu,show IntKind.wrap .i64 ((0:Int)+1)=1 from rfl,dT (by rw [e];simp),je,e,show idx [p,q] 1=some q from rfl,jc,hq,jc]
   cases tyP (sll a) r (zh q) with
   |none=>rfl
   |some u=>
    simp only [toS]
    rw [ab6 (by simp) (by decide),jc,qu,show IntKind.wrap .i64 ((1:Int)+1)=2 from rfl,dF (by rw [e];simp),jd,jc]
    simp only [tyC,List.cons_append,List.nil_append]
    rcases hc with hc|hc|hc|hc|hc|hc|hc|hc<;>simp (decide:=true) only [zE,hc,je,jd,Int.reduceBEq,show idx [t,u] 0=some t from rfl,show idx [t,u] 1=some u from rfl,jc,if_true,if_false]
    ·rw [akT t u hZ];cases (numB t&&numB u)&&!difB t u<;>rfl
    ·rw [akT t u hZ];cases (numB t&&numB u)&&!difB t u<;>rfl
    ·rw [akT t u hZ];cases (numB t&&numB u)&&!difB t u<;>rfl
    ·rw [an0 t u hZ];cases difB t u<;>rfl
    ·rw [an0 t u hZ];cases difB t u<;>rfl
    ·rw [an0 t u hZ];cases difB t u<;>rfl
    ·rw [anC t u hZ];cases (truB t&&truB u)&&!difB t u<;>rfl
    rw [anC t u hZ];cases (truB t&&truB u)&&!difB t u<;>rfl
noncomputable def Qt (a:List zn) (x:zk):Int×Int:=bif !qZ x then (0,2) else bif !refB a 24 x then (0,40) else match tyP a 24 x with
 |none=>(0,50)
 |some t=>(t,0)
theorem afM {x:zk}(hw:zQ x) (a:Option jx) {n:Nat}(hn:2000200≤n):aaM n x a=some (Qt (sll a) x):=by
 obtain ⟨n,rfl⟩:=ja n 3
 unfold aaM Qt
 rw [zx,al2 hw hZ,jc]
 cases hf:qZ x with
 |false=>rfl
 |true=>
 rw [Bool.not_true,jd,jd]
 obtain ⟨c,hc,_⟩:=adm hf
 have hr:=aqf a 24 x c hc hw n n hZ hZ
 have hg:qK (n+2) x.A x.K x.M x.D.A x.D.J x.D.O x.D.L x.I a 0=some (bif !refB (sll a) 24 x then ((0,40):Int×Int) else match tyP (sll a) 24 x with|none=>(0,50)|some t=>(t,0)):=by
  unfold qK ae2
  rw [zx,zx,show ajL n _ a=_ from hr]
  cases hb:refB (sll a) 24 x with
  |false=>rfl
  |true=>
   rw [jc]
   show ((((afJ n x a).bind _).bind _))=_
   rw [show afJ n x a=_ from aoo a 24 x c hc hw hb n n hZ hZ,jc]
   cases tyP (sll a) 24 x<;>rfl
 rw [hg,jc]
 cases refB (sll a) 24 x with
 |false=>rfl
 |true=>
  cases tyP (sll a) 24 x with
  |none=>rfl
  |some t=>rfl
theorem asd {α:Type}{F:Nat→Int→Option Int}{l:List α}{p:α→Bool}(hl:l.length≤1048576) {m:Nat}(hm:2000000≤m)
  (hF:∀ (m i:Nat) (x:α),(hi:i<l.length)→l[i]=x→F (m+1) (i:Int)=bif p x then some (i:Int) else F m (IntKind.wrap .i64 ((i:Int)+1))) (hE:∀ (m:Nat),F (m+1) (l.length:Int)=some (-1)):
  ((F m 0).bind fun x1=>some (decide (x1≥0)))=some (l.any p):=by
 have key:∀ (q:List α) (i m:Nat),l.drop i=q→i≤l.length→l.length-i<m→((F m (i:Int)).bind fun x1=>some (decide (x1≥0)))=some (q.any p):=by
  intro q
  induction q with
  |nil=>
   intro i m hd hi hm
   obtain ⟨m,rfl⟩:=ja m 1
   have:i=l.length:=by
    have:=congrArg List.length hd
    simp at this;omega
   subst this
   rw [hE];rfl
  |cons x q ih=>
   intro i m hd hi hm
   obtain ⟨m,rfl⟩:=ja m 1
   have hlt:i<l.length:=by
    have:=congrArg List.length hd
    simp at this;omega
   rw [List.drop_eq_getElem_cons hlt] at hd
   injection hd with h1 h2
   rw [hF m i x hlt h1,List.any_cons]
   cases p x with
   |true=>rw [je,jc,dT hZ];rfl
   |false=>rw [jd,adZ hZ,ih (i+1) m h2 hZ hZ];rfl
 exact key l 0 m rfl hZ hZ
def apX (g:zm):Bool:=decide (g.A<1)||decide (g.A>4)
def badO (w:Int) (k:zo):Bool:=decide (k.B<0)||decide (k.B≥w)
def aeY (q:zb):Bool:=
 !((((decide (((sll q.H).length:Int)>40))||(decide (((sll q.B).length:Int)>20)))||(decide (((sll q.C).length:Int)>10)))||(decide (((sll q.G).length:Int)>10))) &&
 (!(((((sll q.B).length:Int)+((sll q.C).length:Int))==0)||((!q.F)&&(decide (((sll q.C).length:Int)>0))))&&((sll q.C).all (fun g=>!apX g)&&(sll q.G).all (fun k=>!badO (((sll q.B).length:Int)+((sll q.C).length:Int)) k)))
theorem aoF (q:zb) (h1:(sll q.B).length≤1048576) (h2:(sll q.C).length≤1048576) {n:Nat}(hn:1≤n):acI n q=some (((sll q.B).length:Int)+((sll q.C).length:Int)):=by
 obtain ⟨n,rfl⟩:=ja n 1
 unfold acI
 rw [zx,agi hZ hZ]
theorem anb {α:Type}{F:Nat→Int→Option Int}{l:List α}{p:α→Bool}(hl:l.length≤1048576) {m:Nat}(hm:2000000≤m)
 (hF:∀ (m i:Nat) (x:α),(hi:i<l.length)→l[i]=x→F (m+1) (i:Int)=bif p x then some (i:Int) else F m (IntKind.wrap .i64 ((i:Int)+1))) (hE:∀ (m:Nat),F (m+1) (l.length:Int)=some (-1)):
 ((F m 0).bind fun x1=>some (decide (x1≥0)))=some (l.any p):=asd hl hm hF hE
theorem ao8 {q:zb}(h1:(sll q.B).length≤1048576) (h2:(sll q.C).length≤1048576) (h3:(sll q.G).length≤1048576) {n:Nat}(hn:2000040≤n):acR n q=some (aeY q):=by
 obtain ⟨n,rfl⟩:=ja n 4
 unfold acR aeY
 rw [zx,aoF q h1 h2 hZ]
 cases ((((decide (((sll q.H).length:Int)>40))||(decide (((sll q.B).length:Int)>20)))||(decide (((sll q.C).length:Int)>10)))||(decide (((sll q.G).length:Int)>10))) with
 |true=>rfl
 |false=>
 rw [jd,Bool.not_false,jn]
 have ea:Zo (n+3) q.C=some ((sll q.C).any apX):=by
  unfold Zo qe
  rw [zx,zx]
  simp only [zE]
  exact anb (F:=fun m i=>Ze (n+1) q.C (fun _=>some (-1)) m i) h2 hZ (fun m i g hi e=>by
   rw [Ze,dT hZ,je,Z7 hi e,jc,ac8,zx,jc];rfl) (fun m=>by rw [Ze,dF hZ,jd])
 have ek:Zm (n+3) q.G q.E q.H q.F q.B q.C q.G=some ((sll q.G).any (badO (((sll q.B).length:Int)+((sll q.C).length:Int)))):=by
  unfold Zm qd
  rw [zx,zx]
  simp only [zE]
  exact anb (F:=fun m i=>Zf (n+1) q.G q.E q.H q.F q.B q.C q.G (fun _=>some (-1)) m i) h3 hZ (fun m i g hi e=>by
   rw [Zf,dT hZ,je,Z7 hi e,jc,acZ,zx,aoF ⟨q.E,q.H,q.F,q.B,q.C,q.G⟩ h1 h2 hZ]
   unfold badO
   cases decide (g.B<0)<;>rfl) (fun m=>by rw [Zf,dF hZ,jd])
 rw [show Zo (n+3) q.C=_ from ea,show Zm (n+3) q.G q.E q.H q.F q.B q.C q.G=_ from ek]
 simp only [jc]
 rw [←List.not_any_eq_all_not,←List.not_any_eq_all_not]
 have e0:(((sll q.B).length:Int)==0)=decide ((sll q.B).length=0):=by rw [Bool.eq_iff_iff];simp
 have e1:((((sll q.B).length:Int)+((sll q.C).length:Int))==0)=(decide ((sll q.B).length=0)&&decide ((sll q.C).length=0)):=by
  rw [Bool.eq_iff_iff,beq_iff_eq,jm,decide_eq_true_eq,decide_eq_true_eq];omega
 have e2:decide (((sll q.C).length:Int)>0)=!decide ((sll q.C).length=0):=by
  rw [Bool.eq_iff_iff,Bool.not_eq_true',decide_eq_true_eq,decide_eq_false_iff_not];omega
 rw [e0,e1,e2]
 cases q.F<;>cases decide ((sll q.B).length=0)<;>cases decide ((sll q.C).length=0)<;>cases (sll q.C).any apX<;>cases (sll q.G).any (badO (((sll q.B).length:Int)+((sll q.C).length:Int)))<;>rfl
def errL {α:Type}(f:α→Int):List α→Int
 |[]=>0
 |z::l=>if f z≠0 then f z else errL f l
theorem afp {α S R:Type}{F:Nat→S→Int→Option R}{l:List α}{f:α→Int}{v:S→Nat}{K:S→Option R}{Res:Int→R→Prop}
  (hF:∀ (m i:Nat) (s:S) (z:α),(hi:i<l.length)→l[i]=z→v s≤1000→(f z≠0→∃ r,F (m+1) s (i:Int)=some r∧Res (f z) r)∧(f z=0→∃ s',v s'≤v s+1∧F (m+1) s (i:Int)=F m s' (IntKind.wrap .i64 ((i:Int)+1))))
  (hE:∀ (m:Nat) (s:S),F (m+1) s (l.length:Int)=K s) (hl:l.length≤1000):
  ∀ (q p:List α) (m:Nat) (s:S),l=p++q→q.length<m→v s+q.length≤1000→(errL f q≠0→∃ r,F m s (p.length:Int)=some r∧Res (errL f q) r)∧(errL f q=0→∃ s',v s'≤v s+q.length∧F m s (p.length:Int)=K s')
 |[],p,m,s,he,hm,hv=>by
  obtain ⟨m,rfl⟩:=ja m 1
  have:l.length=p.length:=by rw [he];simp
  exact ⟨fun h=>absurd rfl h,fun _=>⟨s,hZ,by rw [←this,hE]⟩⟩
 |z::q,p,m,s,he,hm,hv=>by
  obtain ⟨m,rfl⟩:=ja m 1
  rw [List.length_cons] at hm hv
  have hlen:l.length=p.length+(q.length+1):=by rw [he];simp
  obtain ⟨h1,h2⟩:=hF m p.length s z hZ (by simp [he]) hZ
  unfold errL
  by_cases hz:f z=0
  ·rw [if_neg (by simpa using hz)]
   obtain ⟨s',a1,a2⟩:=h2 hz
   obtain ⟨g1,g2⟩:=afp hF hE hl q (p++[z]) m s' (by rw [he];simp) hZ hZ
   rw [a2,adZ hZ,show p.length+1=(p++[z]).length by simp]
   exact ⟨g1,fun h=>by obtain ⟨s2,b1,b2⟩:=g2 h;exact ⟨s2,by rw [List.length_cons];omega,b2⟩⟩
  rw [if_pos hz]
  exact ⟨fun _=>h1 hz,fun h=>absurd h hz⟩
def eM (p:Int×Int) (may:Bool):Int:=if p.2≠0 then p.2 else bif may then 0 else 50
theorem abL {R:Type}(p:Int×Int) (may:Bool) (T E:Int→Option R):zE (fun k5=>bif (p.2==0) then (some may).bind fun x9=>bif (!x9) then k5 50 else k5 p.2 else k5 p.2) (fun (y4:Int)=>bif (y4==0) then T y4 else E y4)=if eM p may=0 then T 0 else E (eM p may):=by
 simp only [zE,jc]
 by_cases h:p.2=0
 ·have e:eM p may=bif may then 0 else 50:=by unfold eM;rw [if_neg (by rw [h];simp)]
  rw [e,show (p.2==0)=true by simpa using h,je,h]
  cases may with
  |true=>rfl
  |false=>rfl
 have e:eM p may=p.2:=by unfold eM;rw [if_pos h]
 rw [e,show (p.2==0)=false by simpa using h,jd,jd,if_neg h]
def mayW (k:Int):Bool:=(k==0)||(k==1)
def mayS (k:Int):Bool:=(k==0)||(k==2)
noncomputable def wE (a:List zn) (x:zk):Int:=eM (Qt a x) (mayW (Qt a x).1)
noncomputable def oE (a:List zn) (x:zk):Int:=eM (Qt a x) true
noncomputable def aE (a:List zn) (g:zm):Int:=bif g.A==2 then eM (Qt a g.N) (mayS (Qt a g.N).1) else oE a g.N
noncomputable def apH (a:List zn) (q:zb):Int:=
 if errL (fun z=>wE a (zh z)) (sll q.H)≠0 then errL (fun z=>wE a (zh z)) (sll q.H)
 else if errL (fun z=>oE a (zh z)) (sll q.B)≠0 then errL (fun z=>oE a (zh z)) (sll q.B)
 else errL (aE a) (sll q.C)
noncomputable def air (all:List zn) (q:zb):Int:=
 if (adw all (sll q.E)).2≠0 then (adw all (sll q.E)).2 else bif !aeY q then 2 else apH (sll (adw all (sll q.E)).1) q
theorem r4_ok {x:zk}(hw:zQ x) (a:Option jx) {n:Nat}(hn:2000300≤n):ab9 n a x=some (wE (sll a) x):=by
 obtain ⟨n,rfl⟩:=ja n 3
 unfold ab9 ZB acs aco
 rw [zx,zx,afM hw a hZ,jc]
 have:=abL (R:=Int) (Qt (sll a) x) (mayW (Qt (sll a) x).1) (fun y4=>some y4) (fun y4=>some y4)
 unfold mayW at this
 simp only [zx,jc]
 simp only [jc] at this
 rw [this]
 unfold wE mayW
 by_cases h:eM (Qt (sll a) x) (((Qt (sll a) x).1==0)||((Qt (sll a) x).1==1))=0
 ·rw [if_pos h,h];rfl
 rw [if_neg h];rfl
theorem as7 {x:zk}(hw:zQ x) (a:Option jx) {n:Nat}(hn:2000300≤n):∃ o,abo n a x=some (o,oE (sll a) x)∧(oE (sll a) x=0→∃ k,o=some [k])∧(oE (sll a) x≠0→o=none):=by
 obtain ⟨n,rfl⟩:=ja n 4
 unfold abo Zb qU QT
 rw [zx,zx,afM hw a hZ,jc]
 have:=abL (R:=Option (List Int)×Int) (Qt (sll a) x) true (fun y4=>some (some [(Qt (sll a) x).1],y4)) (fun y4=>some (none,y4))
 have e:((ckA 8 ([(Qt (sll a) x).1]:List Int).length).bind fun _=>some ())=some ():=by rw [ab6 (by simp) (by decide)];rfl
 simp only [zx,e,jc]
 simp only [jc] at this
 rw [this]
 unfold oE
 by_cases h:eM (Qt (sll a) x) true=0
 ·rw [if_pos h,h];exact ⟨_,rfl,fun _=>⟨_,rfl⟩,fun h=>absurd rfl h⟩
 rw [if_neg h];exact ⟨_,rfl,fun h'=>absurd h' h,fun _=>rfl⟩
theorem aq8 {x:zk}(hw:zQ x) (a:Option jx) {n:Nat}(hn:2000300≤n) {s:List Int}(hs:s.length≤1000):∃ o,aaj n s a x=some (o,oE (sll a) x)∧o.length≤s.length+1:=by
 obtain ⟨n,rfl⟩:=ja n 4
 unfold aaj zY qU Qj
 rw [zx,zx,afM hw a hZ,jc]
 have:=abL (R:=List Int×Int) (Qt (sll a) x) true (fun y4=>some (s++[(Qt (sll a) x).1],y4)) (fun y4=>some (s,y4))
 have e:((ckA 8 (s++([(Qt (sll a) x).1]:List Int)).length).bind fun _=>some ())=some ():=by rw [ab6 (by simp;omega) (by decide)];rfl
 simp only [zx,e,jc]
 simp only [jc] at this
 rw [this]
 unfold oE
 by_cases h:eM (Qt (sll a) x) true=0
 ·rw [if_pos h,h];exact ⟨_,rfl,by simp⟩
 rw [if_neg h];exact ⟨s,rfl,hZ⟩
theorem r6_ok {g:zm}(hw:zQ g.N) (a:Option jx) {n:Nat}(hn:2000310≤n):∃ o,acb n a g=some (o,aE (sll a) g)∧(sll o).length≤1:=by
 obtain ⟨n,rfl⟩:=ja n 6
 unfold acb
 rw [zx]
 unfold aE
 have e2:((ckA 8 ([2]:List Int).length).bind fun _=>some ())=some ():=by rw [ab6 (by simp) (by decide)];rfl
 by_cases h1:g.A=1
 ·rw [h1,show ((1:Int)==1)=true from rfl,je,show ((1:Int)==2)=false from rfl,jd]
  unfold ZH qU acw QT
  rw [zx,afM hw a hZ,jc]
  have:=abL (R:=Option (List Int)×Int) (Qt (sll a) g.N) true (fun y4=>some (some [2],y4)) (fun y4=>some (none,y4))
  simp only [zx,e2,jc]
  simp only [jc] at this
  rw [this]
  unfold oE
  by_cases h:eM (Qt (sll a) g.N) true=0
  ·rw [if_pos h,h];exact ⟨_,rfl,by simp [sll]⟩
  rw [if_neg h];exact ⟨_,rfl,by simp [sll]⟩
 rw [beqF h1,jd]
 by_cases h2:g.A=2
 ·rw [h2,show ((2:Int)==2)=true from rfl,je,je]
  unfold ZC aal acr QT
  rw [zx,afM hw a hZ,jc]
  have:=abL (R:=Option (List Int)×Int) (Qt (sll a) g.N) (mayS (Qt (sll a) g.N).1) (fun y4=>some (some [2],y4)) (fun y4=>some (none,y4))
  unfold mayS at this
  simp only [zx,e2,jc]
  simp only [jc] at this
  rw [this]
  unfold mayS
  by_cases h:eM (Qt (sll a) g.N) (((Qt (sll a) g.N).1==0)||((Qt (sll a) g.N).1==2))=0
  ·rw [if_pos h,h];exact ⟨_,rfl,by simp [sll]⟩
  rw [if_neg h];exact ⟨_,rfl,by simp [sll]⟩
 rw [beqF h2,jd,jd]
 obtain ⟨o,ho,h3,h4⟩:=as7 hw a (n:=n+6) hZ
 unfold abo at ho
 rw [zx] at ho
 have hsh:(Zb (n+5) a g.N)=some (o,oE (sll a) g.N):=by
  cases hq:Zb (n+5) a g.N with
  |none=>rw [hq] at ho;cases ho
  |some p=>
   obtain ⟨p1,p2⟩:=p
   rw [hq] at ho
   cases p1<;>exact ho
 rw [hsh]
 refine ⟨o,by cases o<;>rfl,?_⟩
 by_cases h:oE (sll a) g.N=0
 ·obtain ⟨k,rfl⟩:=h3 h;simp [sll]
 rw [h4 h];simp [sll]
theorem arL {g:zm}(hw:zQ g.N) (a:Option jx) {s:List Int}(hs:s.length≤1000) {n:Nat}(hn:2000310≤n):∃ o,aak n s a g=some (o,aE (sll a) g)∧o.length≤s.length+1:=by
 obtain ⟨n,rfl⟩:=ja n 6
 unfold aak
 rw [zx]
 unfold aE
 have e2:((ckA 8 (s++([2]:List Int)).length).bind fun _=>some ())=some ():=by rw [ab6 (by simp;omega) (by decide)];rfl
 by_cases h1:g.A=1
 ·rw [h1,show ((1:Int)==1)=true from rfl,je,show ((1:Int)==2)=false from rfl,jd]
  unfold ZA qU abt Qj
  rw [zx,afM hw a hZ,jc]
  have:=abL (R:=List Int×Int) (Qt (sll a) g.N) true (fun y4=>some (s++[2],y4)) (fun y4=>some (s,y4))
  simp only [zx,e2,jc]
  simp only [jc] at this
  rw [this]
  unfold oE
  by_cases h:eM (Qt (sll a) g.N) true=0
  ·rw [if_pos h,h];exact ⟨_,rfl,by simp⟩
  rw [if_neg h];exact ⟨s,rfl,hZ⟩
 rw [beqF h1,jd]
 by_cases h2:g.A=2
 ·rw [h2,show ((2:Int)==2)=true from rfl,je,je]
  unfold Zt aal abz Qj
  rw [zx,afM hw a hZ,jc]
  have:=abL (R:=List Int×Int) (Qt (sll a) g.N) (mayS (Qt (sll a) g.N).1) (fun y4=>some (s++[2],y4)) (fun y4=>some (s,y4))
  unfold mayS at this
  simp only [zx,e2,jc]
  simp only [jc] at this
  rw [this]
  unfold mayS
  by_cases h:eM (Qt (sll a) g.N) (((Qt (sll a) g.N).1==0)||((Qt (sll a) g.N).1==2))=0
  ·rw [if_pos h,h];exact ⟨_,rfl,by simp⟩
  rw [if_neg h];exact ⟨s,rfl,hZ⟩
 rw [beqF h2,jd,jd]
 obtain ⟨o,ho,h3⟩:=aq8 hw a (n:=n+6) hZ hs
 unfold aaj at ho
 rw [zx] at ho
 have hsh:(zY (n+5) s a g.N)=some (o,oE (sll a) g.N):=by
  cases hq:zY (n+5) s a g.N with
  |none=>rw [hq] at ho;cases ho
  |some p=>rw [hq] at ho;exact ho
 rw [hsh]
 exact ⟨o,rfl,h3⟩
theorem arC {w:Option (List EX)}(hw:wSl qw w) (hl:(sll w).length≤100) (a:Option jx) {n:Nat}(hn:2000310≤n):qf n a w=some (errL (fun z=>wE (sll a) (zh z)) (sll w)):=by
 obtain ⟨n,rfl⟩:=ja n 1
 unfold qf
 rw [zx]
 simp only [zE]
 obtain ⟨h1,h2⟩:=afp (F:=fun m (_:Unit) i=>Zj n a w (fun _=>some 0) m i) (l:=sll w) (f:=fun z=>wE (sll a) (zh z)) (v:=fun _=>0) (K:=fun _=>some 0) (Res:=fun e r=>r=e) (fun m i s z hi e _=>by
  have hz:=r4_ok (W_un (hw.2 z (by rw [←e];exact List.getElem_mem hi))) a (n:=n) hZ
  constructor
  ·intro h
   rw [Zj,dT hZ,je,Z7 hi e,jc,hz,jc,show (wE (sll a) (zh z)!=0)=true by simpa using h]
   exact ⟨_,rfl,rfl⟩
  intro h
  rw [Zj,dT hZ,je,Z7 hi e,jc,hz,jc,show (wE (sll a) (zh z)!=0)=false by simpa using h]
  exact ⟨(),hZ,rfl⟩) (fun m s=>by rw [Zj,dF hZ,jd]) hZ (sll w) [] n () rfl hZ hZ
 by_cases h:errL (fun z=>wE (sll a) (zh z)) (sll w)=0
 ·obtain ⟨_,_,h3⟩:=h2 h
  rw [h];exact h3
 obtain ⟨r,h3,rfl⟩:=h1 h
 exact h3
theorem ar2 {w:Option (List EX)}(hw:wSl qw w) (hl:(sll w).length≤100) (a:Option jx) {n:Nat}(hn:2000310≤n):∃ o,qg n a w=some (o,errL (fun z=>oE (sll a) (zh z)) (sll w))∧(errL (fun z=>oE (sll a) (zh z)) (sll w)=0→(sll o).length≤100):=by
 obtain ⟨n,rfl⟩:=ja n 1
 unfold qg
 rw [zx]
 simp only [zE]
 obtain ⟨h1,h2⟩:=afp (F:=fun m (s:Option (List Int)) i=>zI n a w (fun|none=>some (none,0)|(some y3)=>some ((some y3),0)) m s i) (l:=sll w) (f:=fun z=>oE (sll a) (zh z)) (v:=fun s=>(sll s).length) (K:=fun s=>some (s,0)) (Res:=fun e (r:Option (List Int)×Int)=>r.2=e) (fun m i s z hi e hv=>by
  have hx:=W_un (hw.2 z (by rw [←e];exact List.getElem_mem hi))
  cases s with
  |none=>
   obtain ⟨o,ho,k1,k2⟩:=as7 hx a (n:=n) hZ
   constructor
   ·intro h
    have:=k2 h
    subst this
    rw [zI,dT hZ,je,Z7 hi e,jc,ho]
    simp only [jc]
    rw [show (oE (sll a) (zh z)!=0)=true by simpa using h]
    exact ⟨_,rfl,rfl⟩
   intro h
   obtain ⟨k,rfl⟩:=k1 h
   rw [zI,dT hZ,je,Z7 hi e,jc,ho]
   simp only [jc]
   rw [show (oE (sll a) (zh z)!=0)=false by simpa using h]
   exact ⟨some [k],by simp [sll],rfl⟩
  |some s=>
   obtain ⟨o,ho,k1⟩:=aq8 hx a (n:=n) hZ (s:=s) hv
   constructor
   ·intro h
    rw [zI,dT hZ,je,Z7 hi e,jc,ho]
    simp only [jc]
    rw [show (oE (sll a) (zh z)!=0)=true by simpa using h]
    exact ⟨_,rfl,rfl⟩
   intro h
   rw [zI,dT hZ,je,Z7 hi e,jc,ho]
   simp only [jc]
   rw [show (oE (sll a) (zh z)!=0)=false by simpa using h]
   exact ⟨some o,k1,rfl⟩) (fun m s=>by
  cases s with
  |none=>rw [zI,dF hZ,jd]
  |some s=>rw [zI,dF hZ,jd]) hZ (sll w) [] n none rfl hZ (by show 0+_≤_;omega)
 by_cases h:errL (fun z=>oE (sll a) (zh z)) (sll w)=0
 ·obtain ⟨s',v',h3⟩:=h2 h
  exact ⟨s',by rw [h];exact h3,fun _=>by have:(sll (none:Option (List Int))).length=0:=rfl;omega⟩
 obtain ⟨r,h3,h4⟩:=h1 h
 exact ⟨r.1,by rw [←h4];exact h3,fun h'=>absurd h' h⟩
theorem ark {w:Option js}(hw:wSl acN w) (hl:(sll w).length≤100) (a:Option jx) {n:Nat}(hn:2000320≤n):∃ o,qq n a w=some (o,errL (aE (sll a)) (sll w)):=by
 obtain ⟨n,rfl⟩:=ja n 1
 unfold qq
 rw [zx]
 simp only [zE]
 obtain ⟨h1,h2⟩:=afp (F:=fun m (s:Option (List Int)) i=>zJ n a w (fun|none=>some (none,0)|(some y3)=>some ((some y3),0)) m s i) (l:=sll w) (f:=aE (sll a)) (v:=fun s=>(sll s).length) (K:=fun s=>some (s,0)) (Res:=fun e (r:Option (List Int)×Int)=>r.2=e) (fun m i s z hi e hv=>by
  have hx:=aqa (hw.2 z (by rw [←e];exact List.getElem_mem hi))
  cases s with
  |none=>
   obtain ⟨o,ho,k1⟩:=r6_ok hx a (n:=n) hZ
   constructor
   ·intro h
    rw [zJ,dT hZ,je,Z7 hi e,jc,ho]
    cases o<;>simp only [jc]<;>rw [show (aE (sll a) z !=0)=true by simpa using h]<;>exact ⟨_,rfl,rfl⟩
   intro h
   rw [zJ,dT hZ,je,Z7 hi e,jc,ho]
   cases o with
   |none=>
    simp only [jc]
    rw [show (aE (sll a) z !=0)=false by simpa using h]
    exact ⟨none,by simp [sll],rfl⟩
   |some o=>
    simp only [jc]
    rw [show (aE (sll a) z !=0)=false by simpa using h]
    exact ⟨some o,by rw [abP] at k1 ⊢;have:(sll (none:Option (List Int))).length=0:=rfl;omega,rfl⟩
  |some s=>
   obtain ⟨o,ho,k1⟩:=arL hx a (n:=n) (s:=s) hv hZ
   constructor
   ·intro h
    rw [zJ,dT hZ,je,Z7 hi e,jc,ho]
    simp only [jc]
    rw [show (aE (sll a) z !=0)=true by simpa using h]
    exact ⟨_,rfl,rfl⟩
   intro h
   rw [zJ,dT hZ,je,Z7 hi e,jc,ho]
   simp only [jc]
   rw [show (aE (sll a) z !=0)=false by simpa using h]
   exact ⟨some o,k1,rfl⟩) (fun m s=>by
  cases s with
  |none=>rw [zJ,dF hZ,jd]
  |some s=>rw [zJ,dF hZ,jd]) hZ (sll w) [] n none rfl hZ (by show 0+_≤_;omega)
 by_cases h:errL (aE (sll a)) (sll w)=0
 ·obtain ⟨s',v',h3⟩:=h2 h
  exact ⟨s',by rw [h];exact h3⟩
 obtain ⟨r,h3,h4⟩:=h1 h
 exact ⟨r.1,by rw [←h4];exact h3⟩
theorem aqI {w:Option js}(hw:wSl acN w) (hl:(sll w).length≤100) (a:Option jx) {s0:List Int}(hs0:s0.length≤100) {n:Nat}(hn:2000320≤n):∃ o,Z9 n s0 a w=some (o,errL (aE (sll a)) (sll w)):=by
 obtain ⟨n,rfl⟩:=ja n 1
 unfold Z9
 rw [zx]
 simp only [zE]
 obtain ⟨h1,h2⟩:=afp (F:=fun m (s:List Int) i=>Zg n a w (fun y1=>some (y1,0)) m s i) (l:=sll w) (f:=aE (sll a)) (v:=fun s=>s.length) (K:=fun s=>some (s,0)) (Res:=fun e (r:List Int×Int)=>r.2=e) (fun m i s z hi e hv=>by
  have hx:=aqa (hw.2 z (by rw [←e];exact List.getElem_mem hi))
  obtain ⟨o,ho,k1⟩:=arL hx a (n:=n) (s:=s) hv hZ
  constructor
  ·intro h
   rw [Zg,dT hZ,je,Z7 hi e,jc,ho]
   simp only [jc]
   rw [show (aE (sll a) z !=0)=true by simpa using h]
   exact ⟨_,rfl,rfl⟩
  intro h
  rw [Zg,dT hZ,je,Z7 hi e,jc,ho]
  simp only [jc]
  rw [show (aE (sll a) z !=0)=false by simpa using h]
  exact ⟨o,k1,rfl⟩) (fun m s=>by rw [Zg,dF hZ,jd]) hZ (sll w) [] n s0 rfl hZ hZ
 by_cases h:errL (aE (sll a)) (sll w)=0
 ·obtain ⟨s',v',h3⟩:=h2 h
  exact ⟨s',by rw [h];exact h3⟩
 obtain ⟨r,h3,h4⟩:=h1 h
 exact ⟨r.1,by rw [←h4];exact h3⟩
theorem aj6 {q:zb}(h:aeY q=true):(sll q.H).length≤40∧(sll q.B).length≤20∧(sll q.C).length≤10∧(sll q.G).length≤10:=by
 unfold aeY at h
 rw [jm] at h
 have:=h.1
 simp only [Bool.not_eq_true',Bool.or_eq_false_iff,decide_eq_false_iff_not] at this
 omega
theorem aq5 {q:zb}(hq:aaV q) {a:Option jx}(ha:wSl aao a) {n:Nat}(hn:2000400≤n):∃ o,adz n q a=some (o,air (sll a) q):=by
 obtain ⟨n,rfl⟩:=ja n 1
 unfold adz air
 rw [zx]
 rw [show (zb.mk q.E q.H q.F q.B q.C q.G)=q from rfl,aqN hq.1.1 ha hZ,jc,ao8 hq.2.2.2.1.1 hq.2.2.2.2.1.1 hq.2.2.2.2.2.1 hZ]
 generalize adw (sll a) (sll q.E)=x1
 by_cases h1:x1.2=0
 ·rw [show (x1.2 !=0)=false by simpa using h1,jd,if_neg (by simpa using h1),jc]
  cases hs:aeY q with
  |false=>exact ⟨none,rfl⟩
  |true=>
   obtain ⟨l1,l2,l3,l4⟩:=aj6 hs
   rw [Bool.not_true,jd,jd,arC hq.2.1 hZ x1.1 hZ,jc]
   unfold apH
   generalize hw:errL (fun z=>wE (sll x1.1) (zh z)) (sll q.H)=e1
   simp only [zE]
   by_cases h2:e1=0
   ·rw [if_neg (by simpa using h2),show (e1==0)=true by simpa using h2,je]
    obtain ⟨o,ho,hol⟩:=ar2 hq.2.2.2.1 hZ x1.1 (n:=n) hZ
    rw [ho]
    generalize hw2:errL (fun z=>oE (sll x1.1) (zh z)) (sll q.B)=e2 at hol ⊢
    by_cases h3:e2=0
    ·rw [if_neg (by simpa using h3)]
     subst h3
     obtain ⟨o6,ho6⟩:=ark hq.2.2.2.2.1 hZ x1.1 (n:=n) hZ
     cases o with
     |none=>
      simp only [jc]
      rw [show ((0:Int)==0)=true from rfl,je,ho6]
      generalize errL (aE (sll x1.1)) (sll q.C)=e3
      cases o6 with
      |none=>
       simp only [jc]
       by_cases h4:e3=0
       ·subst h4;exact ⟨none,rfl⟩
       rw [show (e3 !=0)=true by simpa using h4];exact ⟨none,rfl⟩
      |some o6=>
       simp only [jc]
       by_cases h4:e3=0
       ·subst h4;exact ⟨_,rfl⟩
       rw [show (e3 !=0)=true by simpa using h4];exact ⟨none,rfl⟩
     |some y=>
      simp only [jc]
      obtain ⟨o7,ho7⟩:=aqI hq.2.2.2.2.1 hZ x1.1 (s0:=y) (hol rfl) (n:=n) hZ
      rw [show ((0:Int)==0)=true from rfl,je,ho7]
      generalize errL (aE (sll x1.1)) (sll q.C)=e3
      simp only [jc]
      by_cases h4:e3=0
      ·subst h4;exact ⟨_,rfl⟩
      rw [show (e3 !=0)=true by simpa using h4];exact ⟨none,rfl⟩
    rw [if_pos h3]
    cases o with
    |none=>
     simp only [jc]
     rw [show (e2==0)=false by simpa using h3,jd,show (e2 !=0)=true by simpa using h3]
     exact ⟨none,rfl⟩
    |some y=>
     simp only [jc]
     rw [show (e2==0)=false by simpa using h3,jd,show (e2 !=0)=true by simpa using h3]
     exact ⟨none,rfl⟩
   rw [if_pos h2,show (e1==0)=false by simpa using h2]
   simp only [jd]
   rw [show (e1 !=0)=true by simpa using h2]
   exact ⟨none,rfl⟩
 rw [show (x1.2 !=0)=true by simpa using h1,je,if_pos h1]
 exact ⟨none,rfl⟩
theorem atF {p:Int×Int}{b:Bool}(h:p.2≠0):eM p b=p.2:=by unfold eM;rw [if_pos h]
theorem ae5 {α:Type}(s:Option (List α)) (lo hi:Int):sll (aaJ s lo hi)=((sll s).drop lo.toNat).take (hi.toNat-lo.toNat):=by
 cases s<;>simp [aaJ,sll,subL]
theorem arZ {lo hi n:Int}(h:0≤lo∧lo≤hi∧hi≤n):ckB lo hi n=some ():=by
 unfold ckB;rw [if_pos h]
theorem qy {b n:Nat}(hb:b≤1000) (h:n≤100000000000):ckA b n=some ():=by
 unfold ckA
 rw [if_pos ⟨by have:=Nat.mul_le_mul h hb;omega,hZ⟩]
theorem asa {b:Int}(h:0≤b):ckN b=some ():=by
 unfold ckN;rw [if_neg hZ]
theorem akP {r:zi}{e:Int}{n:Nat}(h:1≤n):qG n r e=some ():=by
 obtain ⟨n,rfl⟩:∃ k,n=k+1:=⟨n-1,hZ⟩
 rfl
theorem afB {r:zi}{n:Nat}(h:1≤n):qA n r=some ():=by
 obtain ⟨n,rfl⟩:∃ k,n=k+1:=⟨n-1,hZ⟩
 rfl
theorem akS {m:Bool}{b:Option (List Int)}{e:Int}{k:Nat}(hk:k≤(sll b).length) {n:Nat}(h:2≤n):qv n ⟨m,b,e⟩ (k:Int)=some (aaJ b k ((sll b).length:Int),e,aaJ b 0 k,true):=by
 obtain ⟨n,rfl⟩:∃ k,n=k+1:=⟨n-1,hZ⟩
 unfold qv
 rw [zx,show decide ((k:Int)>((sll b).length:Int))=false by simp;omega,jd]
 simp only
 rw [arZ hZ,jc,arZ hZ,jc]
theorem anH {m:Bool}{b:Option (List Int)}{e:Int}{k:Nat}(hk:¬ k≤(sll b).length) {n:Nat}(h:2≤n):qv n ⟨m,b,e⟩ (k:Int)=some (none,21,none,false):=by
 obtain ⟨n,rfl⟩:∃ k,n=k+1:=⟨n-1,hZ⟩
 unfold qv
 rw [zx,show decide ((k:Int)>((sll b).length:Int))=true by simp;omega,je,akP hZ,jc]
def NumR (x:Option (Nat×List Int)) (e:Int) (b':Option (List Int)) (e' v:Int) (ok:Bool):Prop:=
 match x with
 |some (n,rest)=>sll b'=rest∧e'=e∧v=n∧ok=true
 |none=>b'=none∧e'≠0∧v=0∧ok=false
theorem akr {n:Nat}(hn:2≤n) (mk:Bool):∀ (k m i acc:Nat) (b:Option (List Int)) (e:Int),k+i=10→k<m→Bytes (sll b)→acc<2^(7*i)→
  ∃ b' e' v ok,ql n m mk b e (acc:Int) (i:Int)=some (mk,b',e',v,ok)∧NumR (rdU k i acc (sll b)) e b' e' v ok
 |0,m,i,acc,b,e,hk,hm,hb,ha=>by
  obtain ⟨m,rfl⟩:=ja m 1
  refine ⟨none,22,0,false,?_,rfl,by decide,rfl,rfl⟩
  rw [ql,show ((i:Int)==10)=true by simp;omega,je,akP hZ,jc]
 |k+1,m,i,acc,b,e,hk,hm,hb,ha=>by
  obtain ⟨m,rfl⟩:=ja m 1
  rw [ql,show ((i:Int)==10)=false by simp;omega,jd]
  cases hl:sll b with
  |nil=>
   refine ⟨none,21,0,false,?_,?_⟩
   ·have:=anH (m:=mk) (b:=b) (e:=e) (k:=1) (by rw [hl];decide) hn
    rw [show ((1:Nat):Int)=1 from rfl] at this
    rw [this];rfl
   rw [asC];exact ⟨rfl,by decide,rfl,rfl⟩
  |cons c l=>
   have:=akS (m:=mk) (b:=b) (e:=e) (k:=1) (by rw [hl];simp) hn
   rw [show ((1:Nat):Int)=1 from rfl] at this
   rw [this]
   simp only [jc,Bool.not_true,jd]
   have h1:sll (aaJ b 0 1)=[c]:=by rw [ae5,hl];rfl
   have h2:sll (aaJ b 1 ((sll b).length:Int))=l:=by
    rw [ae5,hl]
    simp
   rw [h1,show idx [c] 0=some c from rfl,jc]
   have hc:=hb c (by rw [hl];simp)
   by_cases hbad:(i=9∧c>1)∨(i>0∧c=0)
   ·rw [show (((i:Int)==9)&&(decide (c>1))||((decide ((i:Int)>0))&&(c==0)))=true by
     rw [Bool.or_eq_true,jm,jm,beq_iff_eq,beq_iff_eq,decide_eq_true_eq,decide_eq_true_eq];omega]
    rw [je,akP hZ,jc]
    exact ⟨none,22,0,false,rfl,by rw [asJ hbad];exact ⟨rfl,by decide,rfl,rfl⟩⟩
   rw [show (((i:Int)==9)&&(decide (c>1))||((decide ((i:Int)>0))&&(c==0)))=false by
    rw [Bool.or_eq_false_iff,Bool.and_eq_false_iff,Bool.and_eq_false_iff,beq_eq_false_iff_ne,beq_eq_false_iff_ne,decide_eq_false_iff_not,decide_eq_false_iff_not];omega]
   rw [jd,agi hZ hZ,acG hZ hZ,asa hZ,jc,atj hc.1 hc.2,acG hZ hZ]
   have h9:i=9→c≤1:=by omega
   have e1:(c%128:Int)=(((c%128).toNat:Nat):Int):=by omega
   rw [e1,shl7 hZ hZ hZ,orU ha (as1 ha hc hZ h9)]
   by_cases hc2:c<128
   ·rw [show decide (c<128)=true by simpa using hc2,je]
    refine ⟨_,_,_,_,rfl,?_⟩
    rw [aoK hbad hc2]
    exact ⟨h2,rfl,rfl,rfl⟩
   rw [show decide (c<128)=false by simpa using hc2,jd,adZ hZ]
   obtain ⟨b',e',v,ok,h3,h4⟩:=akr hn mk k m (i+1) (acc+(c%128).toNat * 2^(7*i)) (aaJ b 1 ((sll b).length:Int)) e hZ hZ (by rw [h2];intro x hx;exact hb x (by rw [hl];simp [hx])) (att ha hc)
   refine ⟨b',e',v,ok,h3,?_⟩
   rw [ao3 hbad hc2,←h2]
   exact h4
theorem aqG {mk:Bool}{b:Option (List Int)}{e:Int}(hb:Bytes (sll b)) {n:Nat}(h:12≤n):∃ b' e' v ok,aaE n ⟨mk,b,e⟩=some (mk,b',e',v,ok)∧NumR (rdU 10 0 0 (sll b)) e b' e' v ok:=by
 obtain ⟨n,rfl⟩:∃ k,n=k+1:=⟨n-1,hZ⟩
 exact akr hZ mk 10 n 0 0 b e hZ hZ hb (by decide)
def aoi (x:Option (Nat×List Int)) (most:Int) (b':Option (List Int)) (e' v:Int):Prop:=
 match x with
 |some (n,rest)=>if (n:Int)≤most then sll b'=rest∧e'=0∧v=n else b'=none∧e'≠0∧v=0
 |none=>b'=none∧e'≠0∧v=0
theorem anE {b:Option (List Int)}{most:Int}(hb:Bytes (sll b)) {n:Nat}(h:13≤n):∃ b' e' v,Zu n ⟨true,b,0⟩ most=some (true,b',e',v)∧aoi (rdU 10 0 0 (sll b)) most b' e' v:=by
 obtain ⟨n,rfl⟩:∃ k,n=k+1:=⟨n-1,hZ⟩
 unfold Zu
 rw [zx,afB hZ]
 obtain ⟨b',e',v,ok,h1,h2⟩:=aqG (mk:=true) (e:=0) hb (n:=n) hZ
 rw [h1]
 simp only [jc,beq_self_eq_true,Bool.and_self,Bool.not_true,jd]
 cases hr:rdU 10 0 0 (sll b) with
 |none=>
  rw [hr] at h2
  obtain ⟨rfl,he,rfl,rfl⟩:=h2
  exact ⟨none,e',0,rfl,rfl,he,rfl⟩
 |some p=>
  rw [hr] at h2
  obtain ⟨v0,rest⟩:=p
  obtain ⟨h3,rfl,rfl,rfl⟩:=h2
  unfold aoi
  by_cases hm:(v0:Int)≤most
  ·rw [show decide ((v0:Int)>most)=false by simp;omega]
   simp only [Bool.and_false,jd]
   exact ⟨b',0,v0,rfl,by rw [if_pos hm];exact ⟨h3,rfl,rfl⟩⟩
  rw [show decide ((v0:Int)>most)=true by simp;omega,akP hZ]
  simp only [Bool.and_self,je,jc]
  exact ⟨none,3,0,rfl,by rw [if_neg hm];exact ⟨rfl,by decide,rfl⟩⟩
def rdT (most:Nat) (l:List Int):Option (List Int×List Int):=
 match rdU 10 0 0 l with
 |some (k,rest)=>if k≤most∧k≤rest.length then some (rest.take k,rest.drop k) else none
 |none=>none
def TextR (x:Option (List Int×List Int)) (b':Option (List Int)) (e':Int) (v:ByteArray):Prop:=
 match x with
 |some (t,rest)=>sll b'=rest∧e'=0∧v=strOf t
 |none=>e'≠0∧v=ByteArray.empty
theorem apQ {b:Option (List Int)}{most:Nat}(hm:most<1000000) (hb:Bytes (sll b)) {n:Nat}(h:14≤n):∃ b' e' v,qV n ⟨true,b,0⟩ (most:Int)=some (true,b',e',v)∧TextR (rdT most (sll b)) b' e' v:=by
 obtain ⟨n,rfl⟩:∃ k,n=k+1:=⟨n-1,hZ⟩
 unfold qV
 rw [zx,if_neg hZ,acG hZ hZ]
 obtain ⟨b',e',v,h1,h2⟩:=anE (most:=(most:Int)) hb (n:=n) hZ
 rw [h1]
 simp only [jc]
 rw [afB hZ,jc]
 unfold rdT
 cases hr:rdU 10 0 0 (sll b) with
 |none=>
  rw [hr] at h2
  obtain ⟨rfl,he,rfl⟩:=h2
  rw [show (e'==0)=false by simpa using he]
  exact ⟨none,e',_,rfl,he,rfl⟩
 |some p=>
  rw [hr] at h2
  obtain ⟨k,rest⟩:=p
  unfold aoi at h2
  simp only at h2
  by_cases hk:(k:Int)≤most
  ·rw [if_pos hk] at h2
   obtain ⟨h3,rfl,rfl⟩:=h2
   simp only [beq_self_eq_true,Bool.and_self,Bool.not_true,jd]
   rw [agi hZ hZ]
   by_cases hlen:k≤rest.length
   ·rw [akS (by rw [h3];exact hlen) hZ]
    simp only [jc]
    rw [if_pos ⟨hZ,hlen⟩]
    refine ⟨_,_,_,rfl,?_,rfl,?_⟩
    ·rw [ae5,h3,List.take_of_length_le (by simp)]
     simp
    rw [ae5,h3]
    simp
   rw [anH (by rw [h3];exact hlen) hZ]
   simp only [jc]
   rw [if_neg hZ]
   exact ⟨_,_,_,rfl,by decide,rfl⟩
  rw [if_neg hk] at h2
  obtain ⟨rfl,he,rfl⟩:=h2
  simp only [show (e'==0)=false by simpa using he]
  rw [if_neg hZ]
  exact ⟨none,e',_,rfl,he,rfl⟩
theorem asY {b:Option (List Int)}{n:Nat}(h:2≤n):aar n ⟨true,b,0⟩=some ((sll b).length:Int):=by
 obtain ⟨n,rfl⟩:∃ k,n=k+1:=⟨n-1,hZ⟩
 unfold aar
 rw [zx,afB hZ]
 rfl
theorem afQ {b:Option (List Int)}{e:Int}{n:Nat}(h:1≤n):Zn n ⟨true,b,e⟩=some e:=by
 obtain ⟨n,rfl⟩:∃ k,n=k+1:=⟨n-1,hZ⟩
 rfl
theorem iOr0 {x:Int}(h0:0≤x) (h1:x<256):iOr .u64 (iShl .u64 0 8) (IntKind.wrap .u64 x)=x:=by
 have e:iShl .u64 0 8=0:=by decide
 rw [e,acG h0 hZ]
 unfold iOr
 rw [BitVec.toNat_or]
 have e1:(BitVec.ofInt IntKind.u64.bits 0).toNat=0:=by decide
 have:(BitVec.ofInt IntKind.u64.bits x).toNat=x.toNat:=by simp [IntKind.bits];omega
 rw [e1,this,Nat.zero_or,acG hZ hZ]
 omega
def ByteR (l:List Int) (b':Option (List Int)) (e' v:Int):Prop:=
 match l with
 |c::rest=>sll b'=rest∧e'=0∧v=c
 |[]=>e'≠0
theorem asW {b:Option (List Int)}(hb:Bytes (sll b)) {n:Nat}(h:2000010≤n):∃ b' e' v,qb n ⟨true,b,0⟩=some (b',e',v)∧ByteR (sll b) b' e' v:=by
 obtain ⟨n,rfl⟩:∃ k,n=k+2:=⟨n-2,hZ⟩
 unfold qb qP
 simp only [zx]
 rw [afB hZ]
 simp only [jc,beq_self_eq_true,Bool.and_self,Bool.not_true,jd]
 rw [show (if (8:Int)<(if (0:Int)>1 then 0 else 1) then (8:Int) else (if (0:Int)>1 then 0 else 1))=((1:Nat):Int) from rfl]
 cases hl:sll b with
 |nil=>
  rw [anH (by rw [hl];decide) hZ]
  simp only [jc,zE]
  obtain ⟨m,rfl⟩:∃ j,n=j+1:=⟨n-1,hZ⟩
  exact ⟨none,21,_,by rw [ZQ];rfl,by show (21:Int)≠0;decide⟩
 |cons c l=>
  have hc:=hb c (by rw [hl];simp)
  rw [akS (by rw [hl];simp) hZ]
  simp only [jc,zE]
  have h1:sll (aaJ b 0 ((1:Nat):Int))=[c]:=by rw [ae5,hl];rfl
  obtain ⟨m,rfl⟩:∃ j,n=j+2:=⟨n-2,hZ⟩
  rw [ZQ,h1,show decide ((0:Int)<(([c]:List Int).length:Int))=true by simp,je,show idx [c] 0=some c from rfl,jc,iOr0 hc.1 hc.2]
  rw [show IntKind.wrap .i64 (0+1)=1 by decide,ZQ,h1,show decide ((1:Int)<(([c]:List Int).length:Int))=false by simp,jd]
  refine ⟨_,_,_,rfl,?_,rfl,ald hc.1 hc.2⟩
  rw [ae5,hl];simp
theorem api (v:Int):iOr .u8 (IntKind.wrap .u8 v) 128=v%128+128:=by
 unfold iOr
 have h:∀ x:BitVec 8,(x ||| 128#8).toNat=x.toNat%128+128:=by decide
 have e:(BitVec.ofInt IntKind.u8.bits (IntKind.u8.wrap v) ||| BitVec.ofInt IntKind.u8.bits 128).toNat=(BitVec.ofInt 8 (IntKind.u8.wrap v)).toNat%128+128:=h _
 rw [e,BitVec.toNat_ofInt]
 simp [IntKind.wrap,IntKind.signed,IntKind.bits]
 omega
theorem shr7 (v:Int):iShr .u64 v 7=v / 128:=by
 unfold iShr
 rw [Int.fdiv_eq_ediv_of_nonneg _ (by decide)]
 rfl
theorem pow7 (m:Nat):2^(7*(m+1))=128*2^(7*m):=by rw [show 7*(m+1)=7*m+7 by omega,Nat.pow_add];omega
theorem alq {n:Nat}{K:List Int→Int→Option (List Int)}(hK:∀ (l:List Int) (v:Nat),v<128→l.length<1000000000→K l v=some (l++[(v:Int)])):∀ (v:Nat) (m:Nat) (l:List Int),v<2^(7*(m+1))→l.length+m<1000000000→Qs n K (m+1) l (v:Int)=some (l++Ql v):=by
 intro v
 induction v using Nat.strongRecOn with
 |ind v ih=>
  intro m l hv hl
  rw [Qs]
  by_cases h:v<128
  ·rw [show decide ((v:Int)≥128)=false by simp;omega,jd,aej h]
   exact hK l v hZ hZ
  rw [show decide ((v:Int)≥128)=true by simp;omega,je,api,shr7]
  obtain ⟨m,rfl⟩:∃ j,m=j+1:=by
   cases m with
   |zero=>rw [pow7] at hv;omega
   |succ m=>exact ⟨m,rfl⟩
  rw [qy (by decide) (by simp;omega),jc]
  rw [show ((v:Int) / 128)=((v / 128:Nat):Int) by omega,show ((v:Int)%128+128)=((v%128+128:Nat):Int) by omega]
  rw [ih (v / 128) hZ m _ (by rw [pow7] at hv;omega) (by simp;omega),aeg h]
  simp
theorem qa:∀ (v:Nat) (m:Nat),v<2^(7*(m+1))→(Ql v).length≤m+1:=by
 intro v
 induction v using Nat.strongRecOn with
 |ind v ih=>
  intro m hv
  by_cases h:v<128
  ·rw [aej h];simp
  rw [aeg h]
  obtain ⟨m,rfl⟩:∃ j,m=j+1:=by
   cases m with
   |zero=>rw [pow7] at hv;omega
   |succ m=>exact ⟨m,rfl⟩
  have:=ih (v / 128) hZ m (by rw [pow7] at hv;omega)
  simp;omega
theorem QR {l:List Int}{v:Nat}(hv:v<2^64) (hl:l.length<900000000) {n:Nat}(h:20≤n) (hn:n<100000000):ZV n l (v:Int)=some (l++Ql v):=by
 obtain ⟨n,rfl⟩:∃ k,n=k+2:=⟨n-2,hZ⟩
 unfold ZV
 rw [zx]
 unfold zE
 have hp:2^64≤2^(7*(n+1)):=Nat.pow_le_pow_right hZ hZ
 exact alq (fun l v hv hl=>by
  rw [ald hZ hZ,qy (by decide) (by simp;omega),jc]) v n l hZ hZ
theorem alw {v:Nat}(hv:v<2^64) {n:Nat}(h:20≤n) (hn:n<100000000):aat n (v:Int)=some (Ql v):=by
 obtain ⟨n,rfl⟩:∃ k,n=k+2:=⟨n-2,hZ⟩
 unfold aat
 rw [zx]
 unfold zE
 have hp:2^64≤2^(7*n):=Nat.pow_le_pow_right hZ hZ
 have key:∀ (K:Option (List Int)→Int→Option (List Int)),(∀ (l:List Int) (v:Nat),v<128→l.length<1000000000→K (some l) v=some (l++[(v:Int)]))→∀ (v:Nat) (m:Nat) (l:List Int),v<2^(7*(m+1))→l.length+m<1000000000→Zy (n+1) K (m+1) (some l) (v:Int)=some (l++Ql v):=by
  intro K hK
  intro v
  induction v using Nat.strongRecOn with
  |ind v ih=>
   intro m l hv hl
   rw [Zy]
   by_cases h:v<128
   ·rw [show decide ((v:Int)≥128)=false by simp;omega,jd,aej h]
    exact hK l v hZ hZ
   rw [show decide ((v:Int)≥128)=true by simp;omega,je,api,shr7]
   obtain ⟨m,rfl⟩:∃ j,m=j+1:=by
    cases m with
    |zero=>rw [pow7] at hv;omega
    |succ m=>exact ⟨m,rfl⟩
   rw [qy (by decide) (by simp;omega),jc]
   rw [show ((v:Int) / 128)=((v / 128:Nat):Int) by omega,show ((v:Int)%128+128)=((v%128+128:Nat):Int) by omega]
   rw [ih (v / 128) hZ m _ (by rw [pow7] at hv;omega) (by simp;omega),aeg h]
   simp
 show Zy _ _ _ none _=_
 rw [Zy]
 by_cases h:v<128
 ·rw [show decide ((v:Int)≥128)=false by simp;omega,jd,aej h]
  simp only
  rw [ald hZ hZ,qy (by decide) (by simp),jc]
 rw [show decide ((v:Int)≥128)=true by simp;omega,je,api,shr7,qy (by decide) (by simp),jc]
 rw [show ((v:Int) / 128)=((v / 128:Nat):Int) by omega,show ((v:Int)%128+128)=((v%128+128:Nat):Int) by omega]
 obtain ⟨n,rfl⟩:=ja n 1
 rw [key _ (fun l v hv hl=>by
  simp only
  rw [ald hZ hZ,qy (by decide) (by simp;omega),jc]) (v / 128) n _ hZ (by simp;omega),aeg ‹¬ v<128›]
 rfl
theorem amz {s:ByteArray}:(Qk s).isEmpty=true→Qk s=[]:=by
 intro h;simpa using h
def putT (s:ByteArray):List Int:=Ql s.size++Qk s
theorem ai3 {l:List Int}{s:ByteArray}(hs:s.size<10000000) (hl:l.length<800000000) {n:Nat}(h:21≤n) (hn:n<100000000):Qh n l s=some (l++putT s):=by
 obtain ⟨n,rfl⟩:∃ k,n=k+1:=⟨n-1,hZ⟩
 unfold Qh
 rw [zx,acG hZ hZ,QR hZ hZ hZ hZ,jc]
 have:=qa s.size 9 hZ
 have h2:=ach s
 unfold putT
 cases he:(Qk s).isEmpty with
 |true=>rw [je,qy (by decide) (by simp;omega),jc,amz he];simp
 |false=>rw [jd,qy (by decide) (by simp;omega),jc];simp
theorem ag6 {s:ByteArray}(hs:s.size<10000000):(putT s).length≤s.size+10:=by
 have:=qa s.size 9 hZ
 have h2:=ach s
 unfold putT
 simp;omega
theorem ap4 {s:ByteArray}{most:Nat}(hs:s.size≤most) (hm:most<1000000) (rest:List Int):rdT most (putT s++rest)=some (Qk s,rest):=by
 unfold rdT putT
 rw [List.append_assoc,anG hZ]
 simp only
 have h2:=ach s
 rw [if_pos ⟨hs,by simp;omega⟩,←h2]
 simp
def zig (x:Int):Nat:=if x<0 then (-2*x-1).toNat else (2*x).toNat
theorem notU {u:Nat}(h:u<18446744073709551616):notI .u64 (u:Int)=((18446744073709551615-u:Nat):Int):=by
 show IntKind.wrap .u64 ((BitVec.ofInt 64 18446744073709551615 ^^^ BitVec.ofInt 64 (u:Int)).toNat:Int)=_
 have e:BitVec.ofInt 64 18446744073709551615=BitVec.allOnes 64:=by decide
 have e2:(BitVec.allOnes 64 ^^^ BitVec.ofInt 64 (u:Int)).toNat=18446744073709551615-u:=by
  rw [BitVec.allOnes_xor,BitVec.toNat_not]
  simp
  omega
 rw [e,e2,acG hZ hZ]
theorem shl1 (x:Int):iShl .u64 (IntKind.wrap .u64 x) 1=(2*x)%18446744073709551616:=by
 unfold iShl
 simp [IntKind.wrap,IntKind.signed,IntKind.bits]
 omega
theorem wI_i {x:Int}(h:wI .i64 x):-9223372036854775808≤x∧x≤9223372036854775807:=h
theorem aox {l:List Int}{x:Int}(hx:wI .i64 x) (hl:l.length<900000000) {n:Nat}(h:21≤n) (hn:n<100000000):aaO n l x=some (l++Ql (zig x)):=by
 obtain ⟨n,rfl⟩:∃ k,n=k+1:=⟨n-1,hZ⟩
 obtain ⟨h1,h2⟩:=wI_i hx
 unfold aaO
 rw [zx,shl1]
 unfold zig
 by_cases h0:x<0
 ·rw [decide_eq_true h0,je,if_pos h0]
  rw [show (2*x)%18446744073709551616=(((18446744073709551616+2*x).toNat:Nat):Int) by omega,notU hZ]
  rw [QR hZ hl hZ hZ,jc]
  congr 4
  omega
 rw [decide_eq_false h0,jd,if_neg h0]
 rw [show (2*x)%18446744073709551616=(((2*x).toNat:Nat):Int) by omega]
 rw [QR hZ hl hZ hZ,jc]
theorem arP {x:Int}(hx:wI .i64 x):zig x<18446744073709551616:=by
 obtain ⟨h1,h2⟩:=wI_i hx
 unfold zig;split<;>omega
theorem shr1 (v:Nat):iShr .u64 (v:Int) 1=((v / 2:Nat):Int):=by
 unfold iShr
 show Int.fdiv (v:Int) (2^1)=_
 rw [Int.fdiv_eq_ediv_of_nonneg _ (by decide)]
 omega
theorem and1 (v:Nat) (h:v<18446744073709551616):iAnd .u64 (v:Int) 1=((v%2:Nat):Int):=by
 unfold iAnd
 have e:(BitVec.ofInt 64 (v:Int) &&& BitVec.ofInt 64 1).toNat=v%2:=by
  rw [BitVec.toNat_and]
  rw [show (BitVec.ofInt 64 1).toNat=1 by decide,Nat.and_one_is_mod]
  simp
  try omega
 rw [show (BitVec.ofInt IntKind.u64.bits (v:Int) &&& BitVec.ofInt IntKind.u64.bits 1).toNat=v%2 from e,acG hZ hZ]
theorem atx {b:Option (List Int)}{x:Int}{rest:List Int}(hx:wI .i64 x) (hb:Bytes (sll b)) (hs:sll b=Ql (zig x)++rest) {n:Nat}(h:14≤n):∃ b',aaN n ⟨true,b,0⟩=some (true,b',0,x)∧sll b'=rest:=by
 obtain ⟨n,rfl⟩:∃ k,n=k+1:=⟨n-1,hZ⟩
 unfold aaN
 rw [zx]
 obtain ⟨b',e',v,h1,h2⟩:=anE (most:=18446744073709551615) hb (by omega:13≤n)
 rw [h1,jc]
 have hz:=arP hx
 rw [hs,anG hZ] at h2
 unfold aoi at h2
 simp only at h2
 rw [if_pos hZ] at h2
 obtain ⟨g1,g2,g3⟩:=h2
 refine ⟨b',?_,g1⟩
 subst g2 g3
 simp only
 rw [and1 _ hz,shr1,notU hZ]
 obtain ⟨h1,h2⟩:=wI_i hx
 unfold zig
 by_cases h0:x<0
 ·simp only [if_pos h0]
  rw [show ((((-2*x-1).toNat%2:Nat):Int)==1)=true by simp;omega,je]
  simp only [IntKind.wrap,IntKind.signed,IntKind.bits]
  congr 4
  simp
  omega
 simp only [if_neg h0]
 rw [show ((((2*x).toNat%2:Nat):Int)==1)=false by simp;omega,jd]
 rw [agi hZ hZ]
 congr 4
 omega
def be (x:Nat):Nat→List Int
 |0=>[]
 |j+1=>((x / 2^(8*j)%256:Nat):Int)::be x j
theorem adq (x:Nat):∀ j,(be x j).length=j
 |0=>rfl
 |j+1=>by rw [be,List.length_cons,adq x j]
theorem aoJ (x:Nat):∀ j,Bytes (be x j)
 |0=>fun y hy=>by cases hy
 |j+1=>fun y hy=>by
  rw [be,List.mem_cons] at hy
  rcases hy with rfl|hy
  ·omega
  exact aoJ x j y hy
theorem atz {x j:Nat}(hj:j≤7):iShr .u64 (x:Int) ((8*j:Nat):Int)=((x / 2^(8*j):Nat):Int):=by
 unfold iShr
 rw [Int.toNat_natCast,show min (8*j) IntKind.u64.bits=8*j from Nat.min_eq_left (by show 8*j≤64;omega)]
 rw [Int.fdiv_eq_ediv_of_nonneg _ (Int.le_of_lt (Int.pow_pos (by decide)))]
 rw [show ((2:Int)^(8*j))=((2^(8*j):Nat):Int) by simp]
 omega
theorem aqJ (v:Nat):IntKind.wrap .u8 (v:Int)=((v%256:Nat):Int):=by simp [IntKind.wrap,IntKind.signed,IntKind.bits]
theorem aml {n:Nat}{x:Nat}{K:List Int→Option (List Int)}(m:Nat):∀ (j:Nat) (l:List Int),j≤8→l.length+j<1000000000→qF n (x:Int) K (m+j+1) l ((j:Int)-1)=K (l++be x j):=by
 intro j
 induction j with
 |zero=>
  intro l _ _
  rw [qF,show decide (((0:Nat):Int)-1≥0)=false by decide,jd,be,List.append_nil]
 |succ j ih=>
  intro l hj hl
  rw [qF,show (((j+1:Nat):Int)-1)=(j:Int) by omega,decide_eq_true (by omega:(j:Int)≥0),je]
  rw [agi (by omega:-9223372036854775808≤8*(j:Int)) hZ,acG hZ hZ,asa hZ,jc]
  rw [show (8*(j:Int))=((8*j:Nat):Int) by omega,atz hZ,aqJ,qy (by decide) (by simp;omega),jc]
  rw [agi hZ hZ,show m+(j+1)=m+j+1 by omega,ih _ hZ (by simp;omega),be]
  simp
theorem amH {l:List Int}{x:Nat}(hl:l.length<900000000) {n:Nat}(h:20≤n):aaR n l (x:Int) 8=some (l++be x 8):=by
 obtain ⟨n,rfl⟩:∃ k,n=k+10:=⟨n-10,hZ⟩
 unfold aaR
 rw [zx]
 unfold zE
 have:=aml (n:=n+9) (x:=x) (K:=fun y=>some y) n 8 l hZ hZ
 exact this
theorem arf {a b:Nat}(ha:a<2^56) (hb:b<256):iOr .u64 (iShl .u64 (a:Int) 8) (IntKind.wrap .u64 (b:Int))=((a*256+b:Nat):Int):=by
 have e:iShl .u64 (a:Int) 8=((a*2^8:Nat):Int):=by
  unfold iShl
  show IntKind.wrap .u64 ((a:Int)*2^8)=_
  rw [acG hZ hZ];omega
 rw [e,acG hZ hZ]
 have c:iOr .u64 ((a*2^8:Nat):Int) (b:Int)=iOr .u64 (b:Int) ((a*2^8:Nat):Int):=by
  unfold iOr;rw [BitVec.or_comm]
 rw [c,orU (s:=8) hZ hZ]
 omega
theorem asm (x j:Nat):x / 2^(8*j)=x / 2^(8*(j+1))*256+x / 2^(8*j)%256:=by
 rw [show 8*(j+1)=8*j+8 by omega,Nat.pow_add,←Nat.div_div_eq_div_mul]
 omega
theorem aj3 {R:Type}{K:Int→Option R}{x:Nat}(hx:x<2^64):∀ (j i:Nat),j≤8→aeN (fun (c:Int) i (acc:Int) rec=>rec (iOr .u64 (iShl .u64 acc 8) (IntKind.wrap .u64 c))) K (be x j) i ((x / 2^(8*j):Nat):Int)=K (x:Int)
 |0,i,_=>by simp [be,aeN]
 |j+1,i,hj=>by
  simp only [be,aeN]
  rw [arf (by
   apply Nat.div_lt_of_lt_mul
   have:2^8≤2^(8*(j+1)):=Nat.pow_le_pow_right hZ hZ
   calc x<2^8*2^56:=by omega
    _≤2^(8*(j+1))*2^56:=Nat.mul_le_mul_right _ this) hZ,←asm]
  exact aj3 hx j (i+1) hZ
theorem arq {b:Option (List Int)}{x:Nat}{rest:List Int}(hx:x<2^64) (hs:sll b=be x 8++rest) {n:Nat}(h:2000010≤n):∃ b',qP n ⟨true,b,0⟩ 8=some (b',0,(x:Int))∧sll b'=rest:=by
 obtain ⟨n,rfl⟩:∃ k,n=k+1:=⟨n-1,hZ⟩
 unfold qP
 rw [zx,afB hZ]
 simp only [jc,beq_self_eq_true,Bool.and_self,Bool.not_true,jd]
 rw [show (if (8:Int)<(if (0:Int)>8 then 0 else 8) then (8:Int) else (if (0:Int)>8 then 0 else 8))=((8:Nat):Int) from rfl]
 have h8:8≤(sll b).length:=by rw [hs,List.length_append,adq];omega
 rw [akS h8 hZ]
 simp only [jc,zE]
 have e1:sll (aaJ b 0 ((8:Nat):Int))=be x 8:=by
  rw [ae5,hs]
  show ((be x 8++rest).drop 0).take 8=_
  rw [List.drop_zero]
  exact List.take_left' (adq x 8)
 have e2:sll (aaJ b ((8:Nat):Int) ((sll b).length:Int))=rest:=by
  rw [ae5,hs]
  show ((be x 8++rest).drop 8).take _=_
  rw [List.drop_left' (adq x 8),List.take_of_length_le]
  rw [List.length_append,adq]
  show _≤(((8+rest.length:Nat):Int)).toNat-8
  omega
 refine ⟨_,?_,e2⟩
 rw [show ZQ n (aaJ b 0 ((8:Nat):Int)) (fun y10=>some (aaJ b ((8:Nat):Int) ((sll b).length:Int),0,y10)) n 0 0=_ from asq (F:=fun m s i=>ZQ n (aaJ b 0 ((8:Nat):Int)) (fun y10=>some (aaJ b ((8:Nat):Int) ((sll b).length:Int),0,y10)) m i s) (by rw [e1,adq];omega) (B:=fun (c:Int) i (acc:Int) rec=>rec (iOr .u64 (iShl .u64 acc 8) (IntKind.wrap .u64 c))) (fun m i s=>rfl) hZ 0]
 rw [e1]
 have:=aj3 (K:=fun y10=>some (aaJ b ((8:Nat):Int) ((sll b).length:Int),(0:Int),y10)) hx 8 0 hZ
 rw [show x / 2^(8*8)=0 from Nat.div_eq_of_lt hx] at this
 exact this
def adX (f:Nat):Nat:=bif Qu f then 9221120237041090561 else bif isZero f then 0 else f
theorem apU (f:Nat) {n:Nat}(h:1≤n):aeU n f=some (adX f:Int):=by
 obtain ⟨n,rfl⟩:∃ k,n=k+1:=⟨n-1,hZ⟩
 show (bif Qu f then some 9221120237041090561 else bif isZero f then some 0 else some (f:Int))=_
 unfold adX
 cases Qu f<;>cases isZero f<;>rfl
theorem amw {l:List Int}{f:Nat}(hf:adX f=f) (hl:l.length<900000000) {n:Nat}(h:21≤n):Q4 n l f=some (l++be f 8):=by
 obtain ⟨n,rfl⟩:∃ k,n=k+1:=⟨n-1,hZ⟩
 unfold Q4
 rw [zx,apU _ hZ,jc,hf,amH hl hZ,jc]
theorem arK {b:Option (List Int)}{f:Nat}{rest:List Int}(hx:f<2^64) (hf:adX f=f) (hs:sll b=be f 8++rest) {n:Nat}(h:2000011≤n):∃ b',Q6 n ⟨true,b,0⟩=some (true,b',0,f)∧sll b'=rest:=by
 obtain ⟨n,rfl⟩:∃ k,n=k+1:=⟨n-1,hZ⟩
 unfold Q6
 rw [zx]
 obtain ⟨b',h1,h2⟩:=arq hx hs (by omega:2000010≤n)
 rw [h1,jc]
 refine ⟨b',?_,h2⟩
 simp only
 rw [afB hZ]
 simp only [jc,beq_self_eq_true,Bool.and_self,Bool.not_true,jd]
 rw [Int.toNat_natCast,apU _ hZ,jc,hf]
 simp
abbrev E0:ByteArray:=ByteArray.empty
def vP (v:zp):zp:=vNan (Q9 v)
def atG (p:zp):Prop:=p=⟨0,0,0,E0⟩∨(∃ i,(i=0∨i=1)∧p=⟨1,i,0,E0⟩)∨(∃ i,wI .i64 i∧p=⟨2,i,0,E0⟩)∨(∃ f,f<2^64∧p=⟨3,0,f,E0⟩)∨(∃ t,t.size≤64∧p=⟨4,0,0,t⟩)
def CanV (p:zp):Prop:=p=⟨0,0,0,E0⟩∨(∃ i,(i=0∨i=1)∧p=⟨1,i,0,E0⟩)∨(∃ i,wI .i64 i∧p=⟨2,i,0,E0⟩)∨(∃ f,f<2^64∧adX f=f∧p=⟨3,0,f,E0⟩)∨(∃ t,t.size≤64∧p=⟨4,0,0,t⟩)
theorem ahw {f:Nat}(hf:wF .f64 f) (h:posZ f=true):f=0:=by
 unfold posZ at h
 rw [jm] at h
 rcases aiN (ard hf) h.1 with h1|h1
 ·exact h1
 subst h1
 have h2:=h.2
 rw [arw (by decide)] at h2
 simp at h2
theorem ae3 {v:zp}(hw:ZN v) (h:abr v=true):atG v:=by
 obtain ⟨k,i,f,t⟩:=v
 obtain ⟨w1,w2,w3,w4⟩:=hw
 simp only at w1 w2 w3 w4
 unfold abr at h
 simp only at h
 split at h
 ·subst k
  rw [jm,jm,beq_iff_eq] at h
  obtain ⟨h1,h2,h3⟩:=h
  exact .inl (by rw [h1,ahw w3 h2,ahu.1 h3])
 split at h
 ·subst k
  rw [jm,jm,Bool.or_eq_true,beq_iff_eq,beq_iff_eq] at h
  obtain ⟨h1,h2,h3⟩:=h
  exact .inr (.inl ⟨i,h1,by rw [ahw w3 h2,ahu.1 h3]⟩)
 split at h
 ·subst k
  rw [jm] at h
  obtain ⟨h2,h3⟩:=h
  exact .inr (.inr (.inl ⟨i,w2,by rw [ahw w3 h2,ahu.1 h3]⟩))
 split at h
 ·subst k
  rw [jm,beq_iff_eq] at h
  obtain ⟨h1,h3⟩:=h
  exact .inr (.inr (.inr (.inl ⟨f,ard w3,by rw [h1,ahu.1 h3]⟩)))
 split at h
 ·subst k
  rw [jm,jm,beq_iff_eq,decide_eq_true_eq] at h
  obtain ⟨h1,h2,h3⟩:=h
  exact .inr (.inr (.inr (.inr ⟨t,hZ,by rw [h1,ahw w3 h2]⟩)))
 cases h
theorem aoc (f:Nat):adX (adX f)=adX f:=by
 unfold adX
 cases h1:Qu f
 ·cases h2:isZero f
  ·simp only [jd];rw [h1,h2];rfl
  exact (show adX 0=0 by decide +kernel)
 exact (show adX 9221120237041090561=9221120237041090561 by decide +kernel)
theorem arx {f:Nat}(h:f<2^64):adX f<2^64:=by
 unfold adX
 cases Qu f<;>cases isZero f<;>simp<;>omega
theorem ahz (f:Nat):abr ⟨3,0,f,E0⟩=true:=by
 show ((0:Int)==0&&empS E0)=true
 rw [show empS E0=true from agS E0];rfl
theorem ak3 {f:Nat}(hf:f<2^64):vP ⟨3,0,f,E0⟩=⟨3,0,adX f,E0⟩:=by
 unfold vP Q9
 rw [ahz]
 simp only [Bool.not_true,jd,beq_self_eq_true,jn]
 unfold adX
 cases hn:Qu f with
 |true=>
  rw [afK hf hn]
  show vNan ⟨3,0,f,E0⟩=_
  unfold vNan fNan
  rw [hn];rfl
 |false=>
  cases hz:isZero f with
  |true=>
   show vNan ⟨3,0,0,E0⟩=⟨3,0,0,E0⟩
   unfold vNan fNan
   rw [show Qu 0=false by decide];rfl
  |false=>
   show vNan ⟨3,0,f,E0⟩=⟨3,0,f,E0⟩
   unfold vNan fNan
   rw [hn];rfl
theorem ab7 {v:zp}(h:abr v=true) (hk:(v.A==3)=false):vP v=v:=by
 unfold vP Q9 vNan
 rw [h,hk]
 simp only [Bool.not_true,jd,Bool.false_and]
 rw [hk];rfl
theorem alv {v:zp}(hw:ZN v) (h:abr v=true):CanV (vP v):=by
 rcases ae3 hw h with rfl|⟨i,hi,rfl⟩|⟨i,hi,rfl⟩|⟨f,hf,rfl⟩|⟨t,ht,rfl⟩
 ·rw [ab7 h rfl];exact .inl rfl
 ·rw [ab7 h rfl];exact .inr (.inl ⟨i,hi,rfl⟩)
 ·rw [ab7 h rfl];exact .inr (.inr (.inl ⟨i,hi,rfl⟩))
 ·rw [ak3 hf];exact .inr (.inr (.inr (.inl ⟨_,arx hf,aoc f,rfl⟩)))
 rw [ab7 h rfl];exact .inr (.inr (.inr (.inr ⟨t,ht,rfl⟩)))
theorem aqH {p:zp}(h:CanV p):abr p=true:=by
 have e:posZ 0=true:=by decide +kernel
 have e2:empS E0=true:=agS E0
 rcases h with rfl|⟨i,hi,rfl⟩|⟨i,hi,rfl⟩|⟨f,hf,hb,rfl⟩|⟨t,ht,rfl⟩
 ·decide +kernel
 ·rcases hi with rfl|rfl<;>decide +kernel
 ·show (posZ 0&&empS E0)=true;rw [e,e2];rfl
 ·exact ahz f
 show ((0:Int)==0&&(posZ 0&&decide ((t.size:Int)≤64)))=true
 rw [e];simp;omega
def putV (p:zp):List Int:=p.A::(if p.A=1 then [p.J] else if p.A=2 then Ql (zig p.J) else if p.A=3 then be p.O 8 else if p.A=4 then putT p.L else [])
theorem aoE {p:zp}(h:CanV p):(putV p).length≤80:=by
 rcases h with rfl|⟨i,hi,rfl⟩|⟨i,hi,rfl⟩|⟨f,hf,hb,rfl⟩|⟨t,ht,rfl⟩
 ·simp [putV]
 ·simp [putV]
 ·have:=qa (zig i) 9 (by have:=arP hi;omega)
  simp [putV];omega
 ·simp [putV,adq]
 have:=ag6 (s:=t) hZ
 simp [putV];omega
theorem apn {p:zp}(h:CanV p):Bytes (putV p):=by
 have c:∀ {k:Int}{l:List Int},0≤k∧k<256→Bytes l→Bytes (k::l):=fun hk hl x hx=>by
  rw [List.mem_cons] at hx
  rcases hx with rfl|hx
  ·exact hk
  exact hl x hx
 have n0:Bytes []:=fun x hx=>by cases hx
 rcases h with rfl|⟨i,hi,rfl⟩|⟨i,hi,rfl⟩|⟨f,hf,hb,rfl⟩|⟨t,ht,rfl⟩
 ·exact c (by decide) n0
 ·exact c (by show (0:Int)≤1∧(1:Int)<256;decide) (c (by show 0≤i∧i<256;omega) n0)
 ·exact c (by show (0:Int)≤2∧(2:Int)<256;decide) (aa4 _)
 ·exact c (by show (0:Int)≤3∧(3:Int)<256;decide) (aoJ _ _)
 exact c (by show (0:Int)≤4∧(4:Int)<256;decide) ((aa4 _).app (aiR t))
theorem akY {v:zp}{l:List Int}(hw:ZN v) (hr:abr v=true) (hl:l.length<700000000) {n:Nat}(h:23≤n) (hn:n<100000000):adL n l v=some (l++putV (vP v)):=by
 obtain ⟨n,rfl⟩:∃ k,n=k+1:=⟨n-1,hZ⟩
 unfold adL
 rw [zx,aeI hw hZ,jc]
 have hc:=alv hw hr
 rw [show vNan (Q9 v)=vP v from rfl]
 rw [qy (by decide) (by simp;omega),jc]
 rcases hc with e|⟨i,hi,e⟩|⟨i,hi,e⟩|⟨f,hf,hb,e⟩|⟨t,ht,e⟩<;>rw [e]
 ·rfl
 ·show ((ckA 1 ((l++[1])++[IntKind.wrap .u8 i]).length).bind fun _=>some ((l++[1])++[IntKind.wrap .u8 i]))=_
  rw [qy (by decide) (by simp;omega),jc,ald hZ hZ]
  simp [putV]
 ·show ((aaO n (l++[2]) i).bind fun x8=>some x8)=_
  rw [aox hi (by simp;omega) hZ hZ,jc]
  simp [putV]
 ·show ((Q4 n (l++[3]) f).bind fun x8=>some x8)=_
  rw [amw hb (by simp;omega) hZ,jc]
  simp [putV]
 show ((Qh n (l++[4]) t).bind fun x8=>some x8)=_
 rw [ai3 hZ (by simp;omega) hZ hZ,jc]
 simp [putV]
theorem ac6 {b:Option (List Int)}{c:Int}{rest:List Int}(hb:Bytes (sll b)) (hs:sll b=c::rest) {n:Nat}(h:2000010≤n):∃ b',qb n ⟨true,b,0⟩=some (b',0,c)∧sll b'=rest:=by
 obtain ⟨b',e',v,h1,h2⟩:=asW hb h
 rw [hs] at h2
 obtain ⟨h3,rfl,rfl⟩:=h2
 exact ⟨b',h1,h3⟩
theorem amF {p:zp}{b:Option (List Int)}{rest:List Int}(hc:CanV p) (hb:Bytes (sll b)) (hs:sll b=putV p++rest) {n:Nat}(h:2000020≤n):∃ b',aex n ⟨true,b,0⟩=some (true,b',0,p.A,p.J,p.O,p.L,0)∧sll b'=rest:=by
 obtain ⟨n,rfl⟩:∃ k,n=k+1:=⟨n-1,hZ⟩
 have hr:=aqH hc
 unfold aex
 rw [zx]
 have hb2:∀ {c:Int}{l:List Int},sll b=c::l→Bytes l:=fun e x hx=>hb x (by rw [e];exact List.mem_cons_of_mem _ hx)
 have tail:∀ (b':Option (List Int)),((Zn n (zi.mk true b' 0)).bind fun x14=>bif (x14 !=0) then some (true,b',(0:Int),(0:Int),(0:Int),(0:Nat),ByteArray.empty,x14) else (aaY n (zp.mk p.A p.J p.O p.L)).bind fun x16=>bif (!x16) then some (true,b',(0:Int),(0:Int),(0:Int),(0:Nat),ByteArray.empty,(22:Int)) else some (true,b',(0:Int),p.A,p.J,p.O,p.L,(0:Int)))=some (true,b',0,p.A,p.J,p.O,p.L,0):=fun b'=>by
  rw [afQ hZ,jc,aes _ hZ,show abr ⟨p.A,p.J,p.O,p.L⟩=true from hr]
  rfl
 rcases hc with e|⟨i,hi,e⟩|⟨i,hi,e⟩|⟨f,hf,hbf,e⟩|⟨t,ht,e⟩<;>subst e
 ·obtain ⟨b',h1,h2⟩:=ac6 hb (show sll b=0::rest from hs) (by omega:2000010≤n)
  rw [h1,jc]
  exact ⟨b',tail b',h2⟩
 ·obtain ⟨b',h1,h2⟩:=ac6 hb (show sll b=1::(i::rest) from hs) (by omega:2000010≤n)
  rw [h1,jc]
  obtain ⟨b2,h3,h4⟩:=ac6 (b:=b') (by rw [h2];exact hb2 (show sll b=1::(i::rest) from hs)) h2 (by omega:2000010≤n)
  refine ⟨b2,?_,h4⟩
  simp only [zE]
  rw [show ((IntKind.wrap .i64 1)==1)=true by decide,je,h3,jc]
  simp only
  rw [show IntKind.wrap .i64 i=i from agi hZ hZ]
  exact tail b2
 ·obtain ⟨b',h1,h2⟩:=ac6 hb (show sll b=2::(Ql (zig i)++rest) from hs) (by omega:2000010≤n)
  rw [h1,jc]
  obtain ⟨b2,h3,h4⟩:=atx (b:=b') hi (by rw [h2];exact hb2 (show sll b=2::(Ql (zig i)++rest) from hs)) h2 (by omega:14≤n)
  refine ⟨b2,?_,h4⟩
  simp only [zE]
  rw [show ((IntKind.wrap .i64 2)==1)=false by decide,jd,show ((IntKind.wrap .i64 2)==2)=true by decide,je,h3,jc]
  exact tail b2
 ·obtain ⟨b',h1,h2⟩:=ac6 hb (show sll b=3::(be f 8++rest) from hs) (by omega:2000010≤n)
  rw [h1,jc]
  obtain ⟨b2,h3,h4⟩:=arK (b:=b') hf hbf h2 (by omega:2000011≤n)
  refine ⟨b2,?_,h4⟩
  simp only [zE]
  rw [show ((IntKind.wrap .i64 3)==1)=false by decide,jd,show ((IntKind.wrap .i64 3)==2)=false by decide,jd,show ((IntKind.wrap .i64 3)==3)=true by decide,je,h3,jc]
  exact tail b2
 obtain ⟨b',h1,h2⟩:=ac6 hb (show sll b=4::(putT t++rest) from hs) (by omega:2000010≤n)
 rw [h1,jc]
 obtain ⟨b2,e2,v2,h3,h4⟩:=apQ (b:=b') (most:=64) hZ (by rw [h2];exact hb2 (show sll b=4::(putT t++rest) from hs)) (by omega:14≤n)
 rw [h2,ap4 ht hZ] at h4
 obtain ⟨g1,rfl,rfl⟩:=h4
 refine ⟨b2,?_,g1⟩
 simp only [zE]
 rw [show ((IntKind.wrap .i64 4)==1)=false by decide,jd,show ((IntKind.wrap .i64 4)==2)=false by decide,jd,show ((IntKind.wrap .i64 4)==3)=false by decide,jd,show ((IntKind.wrap .i64 4)==4)=true by decide,je]
 rw [show ((64:Int))=((64:Nat):Int) from rfl,h3,jc,aiv]
 exact tail b2
theorem asR {v:zp}(hw:ZN v) (h:abr v=true):vCmp (vP v) v=0:=by
 cases hk:v.A==3 with
 |false=>rw [ab7 h hk];exact anB _
 |true=>
  rcases ae3 hw h with rfl|⟨i,hi,rfl⟩|⟨i,hi,rfl⟩|⟨f,hf,rfl⟩|⟨t,ht,rfl⟩
  ·cases hk
  ·cases hk
  ·cases hk
  ·rw [ak3 hf]
   unfold adX
   cases hn:Qu f with
   |true=>
    rw [je]
    have e:Q9 ⟨3,0,9221120237041090561,E0⟩=⟨3,0,9221120237041090561,E0⟩:=by
     unfold Q9
     rw [ahz]
     show (bif isZero 9221120237041090561 then _ else _)=_
     rw [show isZero 9221120237041090561=false by decide +kernel];rfl
    have e2:Q9 ⟨3,0,f,E0⟩=⟨3,0,f,E0⟩:=by
     unfold Q9
     rw [ahz]
     show (bif isZero f then _ else _)=_
     rw [afK hf hn];rfl
    unfold vCmp
    rw [e,e2]
    show fC 9221120237041090561 f=0
    rw [anz (by decide +kernel),hn];rfl
   |false=>
    cases hz:isZero f with
    |true=>
     have e2:Q9 ⟨3,0,f,E0⟩=⟨3,0,0,E0⟩:=by
      unfold Q9
      rw [ahz]
      show (bif isZero f then _ else _)=_
      rw [hz];rfl
     have e:Q9 ⟨3,0,0,E0⟩=⟨3,0,0,E0⟩:=by
      unfold Q9
      rw [ahz]
      show (bif isZero 0 then (⟨3,0,0,E0⟩:zp) else ⟨3,0,0,E0⟩)=_
      rw [show isZero 0=true by decide +kernel];rfl
     show vC (Q9 ⟨3,0,0,E0⟩) (Q9 ⟨3,0,f,E0⟩)=0
     rw [e,e2]
     exact anB _
    |false=>exact anB _
  cases hk
theorem can_W {p:zp}(h:CanV p):ZN p:=by
 have i0:wI .i64 0:=⟨by decide,by decide⟩
 have f0:wF .f64 0:=apV.2.2.1
 have s0:wS E0:=apV.2.2.2
 have i1:wI .i64 1:=⟨by decide,by decide⟩
 have i2:wI .i64 2:=⟨by decide,by decide⟩
 have i3:wI .i64 3:=⟨by decide,by decide⟩
 have i4:wI .i64 4:=⟨by decide,by decide⟩
 rcases h with rfl|⟨i,hi,rfl⟩|⟨i,hi,rfl⟩|⟨f,hf,hb,rfl⟩|⟨t,ht,rfl⟩
 ·exact ⟨i0,i0,f0,s0⟩
 ·exact ⟨i1,by rcases hi with rfl|rfl;exact i0;exact i1,f0,s0⟩
 ·exact ⟨i2,hi,f0,s0⟩
 ·exact ⟨i3,i0,by show (Lit.float .f64 f).wf=true;simp [Lit.wf];omega,s0⟩
 exact ⟨i4,i0,f0,by show t.size≤1048576;omega⟩
theorem aq0 {s:Option (List Int)}(h:wSl (wI .u8) s):Bytes (sll s):=by
 intro x hx
 have:=h.2 x hx
 simp only [wI,IntKind.min,IntKind.max,IntKind.signed,IntKind.bits] at this
 simp at this
 omega
def akU (c:Int) (i:Nat):Bool:=(!(((decide (c≥97))&&(decide (c≤122)))||(c==95)))&&((((i:Int)==0)||(decide (c<48)))||(decide (c>57)))
def aiU:List Int→Nat→Bool
 |[],_=>true
 |c::r,i=>!akU c i&&aiU r (i+1)
def ajP (s:ByteArray):Bool:=aiU (Qk s) 0&&(decide ((s.size:Int)>0)&&decide ((s.size:Int)≤20))
theorem ao5 (l:List Int) (t:Bool):∀ i,aeN (fun c i (_:Unit) rec=>bif akU c i then some false else rec ()) (fun _=>some t) l i ()=some (aiU l i&&t):=by
 induction l with
 |nil=>intro i;simp [aeN,aiU]
 |cons c l ih=>
  intro i
  simp only [aeN,aiU,ih]
  cases akU c i<;>simp
theorem alY {s:ByteArray}(hs:wS s) {n:Nat}(h:2000001≤n):adG n s=some (ajP s):=by
 obtain ⟨n,rfl⟩:∃ k,n=k+1:=⟨n-1,hZ⟩
 unfold adG
 rw [zx]
 simp only [zE]
 have:=aso (F:=fun m (_:Unit) i=>abO n s (fun _=>some (decide ((s.size:Int)>0)&&decide ((s.size:Int)≤20))) m i) hs (B:=fun c i (_:Unit) rec=>bif akU c i then some false else rec ()) (k:=fun _=>some (decide ((s.size:Int)>0)&&decide ((s.size:Int)≤20))) (fun m i _=>rfl) (m:=n) hZ ()
 rw [this,ao5]
 rfl
end Go.Pl
