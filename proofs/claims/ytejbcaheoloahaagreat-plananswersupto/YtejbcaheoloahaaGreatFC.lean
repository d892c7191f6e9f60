import Derived.Test.YtejbcaheoloahaaGreatFB
set_option linter.all false
set_option maxRecDepth 100000
namespace Go.Pl
open Go Go.Ab
theorem amv {α:Type}{c:Bool}{A B:Option α}(h1:c=true→∃ r,A=some r) (h2:c=false→∃ r,B=some r):∃ r,(bif c then A else B)=some r:=by
 cases c with
 |true=>exact h1 rfl
 |false=>exact h2 rfl
theorem ap4 {α β:Type}{A:Option α}{F:α→Option β}(h1:∃ a,A=some a) (h2:∀ a,∃ r,F a=some r):∃ r,A.bind F=some r:=by
 obtain ⟨a,rfl⟩:=h1
 exact h2 a
theorem atn {α S R:Type}{F:Nat→S→Int→Option R}{l:List α}{P:Nat→S→Prop}(hl:l.length≤1048576)
  (hF:∀ (m i:Nat) (s:S) (x:α),(hi:i<l.length)→l[i]=x→P i s→(∃ r,F (m+1) s (i:Int)=some r)∨∃ s',P (i+1) s'∧F (m+1) s (i:Int)=F m s' (IntKind.wrap .i64 ((i:Int)+1)))
  (hE:∀ (m:Nat) (s:S),P l.length s→∃ r,F (m+1) s (l.length:Int)=some r):∀ (m i:Nat) (s:S),i≤l.length→l.length-i<m→P i s→∃ r,F m s (i:Int)=some r
 |0,i,s,_,h,_=>by omega
 |m+1,i,s,h,hm,hp=>by
  by_cases hi:i<l.length
  ·rcases hF m i s _ hi rfl hp with h1|⟨s',hp',h1⟩
   ·exact h1
   rw [h1,abE hO]
   exact atn hl hF hE m (i+1) s' hO hO hp'
  obtain rfl:i=l.length:=by omega
  exact hE m s hp
theorem anQ {α S R:Type}{F:Nat→S→Int→Option R}{l:List α}(P:Nat→S→Prop) (hl:l.length≤1048576) {m:Nat}(hm:2000000≤m) (s:S) (h0:P 0 s)
  (hF:∀ (m i:Nat) (s:S) (x:α),(hi:i<l.length)→l[i]=x→P i s→(∃ r,F (m+1) s (i:Int)=some r)∨∃ s',P (i+1) s'∧F (m+1) s (i:Int)=F m s' (IntKind.wrap .i64 ((i:Int)+1)))
  (hE:∀ (m:Nat) (s:S),P l.length s→∃ r,F (m+1) s (l.length:Int)=some r):∃ r,F m s 0=some r:=
 atn hl hF hE m 0 s hO hO h0
theorem akN {x:zf}(h:ako x=true):0≤x.C∧0≤x.M∧aeq x.A=((sll x.B).length:Int):=by
 unfold ako ahh inE at h
 simp only [jj,beq_iff_eq,decide_eq_true_eq] at h
 obtain ⟨h0,⟨⟨⟨_,h1⟩,h2⟩,_⟩,_⟩:=h
 exact ⟨h1.1,h2.1,h0⟩
theorem ap1 {α:Type}{l:List α}{i:Int}(h0:0≤i) (h:i<(l.length:Int)):∃ x,idx l i=some x∧x∈l:=by
 have hi:i.toNat<l.length:=by omega
 refine ⟨l[i.toNat],?_,List.getElem_mem hi⟩
 unfold idx
 rw [if_pos h0,List.getElem?_eq_getElem hi]
theorem alH {k:Int}{l:Nat}(h:aeq k=(l:Int)):(l=0∧(k=1∨k=2))∨(l=1∧(k=6∨k=12∨k=13))∨(l=2∧(k=3∨k=4∨k=5∨k=7∨k=8∨k=9∨k=10∨k=11)):=by
 unfold aeq at h
 split at h
 ·exact .inl ⟨hO,by assumption⟩
 split at h
 ·exact .inr (.inl ⟨hO,by assumption⟩)
 split at h
 ·exact .inr (.inr ⟨hO,hO⟩)
 omega
def Is {α:Type}(P:α→Prop) (o:Option α):Prop:=∃ r,o=some r∧P r
section
variable {x:zf}(hw:Zt x) (a:Option jo) {n:Nat}(hn:2000300≤n)
include hw hn
variable {s:List Int}(hs:s.length≤1900000)
include hs
end
theorem as4 {α S R:Type}{Q:R→Prop}{F:Nat→S→Int→Option R}{l:List α}{P:Nat→S→Prop}(hl:l.length≤1048576)
  (hF:∀ (m i:Nat) (s:S) (x:α),(hi:i<l.length)→l[i]=x→P i s→Is Q (F (m+1) s (i:Int))∨∃ s',P (i+1) s'∧F (m+1) s (i:Int)=F m s' (IntKind.wrap .i64 ((i:Int)+1)))
  (hE:∀ (m:Nat) (s:S),P l.length s→Is Q (F (m+1) s (l.length:Int))):∀ (m i:Nat) (s:S),i≤l.length→l.length-i<m→P i s→Is Q (F m s (i:Int))
 |0,i,s,_,h,_=>by omega
 |m+1,i,s,h,hm,hp=>by
  by_cases hi:i<l.length
  ·rcases hF m i s _ hi rfl hp with h1|⟨s',hp',h1⟩
   ·exact h1
   rw [h1,abE hO]
   exact as4 hl hF hE m (i+1) s' hO hO hp'
  obtain rfl:i=l.length:=by omega
  exact hE m s hp
theorem aum {α S R:Type}{Q:R→Prop}{F:Nat→S→Int→Option R}{l:List α}(P:Nat→S→Prop) (hl:l.length≤1048576) {m:Nat}(hm:2000000≤m) (s:S) (h0:P 0 s)
  (hF:∀ (m i:Nat) (s:S) (x:α),(hi:i<l.length)→l[i]=x→P i s→Is Q (F (m+1) s (i:Int))∨∃ s',P (i+1) s'∧F (m+1) s (i:Int)=F m s' (IntKind.wrap .i64 ((i:Int)+1)))
  (hE:∀ (m:Nat) (s:S),P l.length s→Is Q (F (m+1) s (l.length:Int))):Is Q (F m s 0):=
 as4 hl hF hE m 0 s hO hO h0
theorem ase {q:zr}(h1:wSl zJ q.H) (h0:(sll q.O).length≤1048576) (h2:wSl zJ q.E) (h3:wSl QK q.D) (most:Int) {n:Nat}(hn:3048710≤n):∃ r,abz n q most=some r:=by
 obtain ⟨n,rfl⟩:=hX n 1
 unfold abz
 rw [zq]
 refine amv (fun _=>⟨_,rfl⟩) fun _=>?_
 simp only [zB]
 have l15:∀ acc:Int,∃ r,ZY n q most (fun y13=>some y13) n acc 0=some r:=fun acc=>by
  refine anQ (F:=fun k s i=>ZY n q most (fun y13=>some y13) k s i) (l:=sll q.D) (fun _ _=>True) h3.1 hO acc trivial (fun k i s z hi hz _=>?_) fun k s _=>?_
  ·have hx:=h3.2 z (hz▸List.getElem_mem hi)
   rw [ZY,dT hO,jk]
   cases decide (s≤most) with
   |false=>exact .inl ⟨_,rfl⟩
   |true=>
    rw [jb,ZB hi hz,hZ]
    obtain ⟨r,hr⟩:=aeH (a:=some [zi z.Q]) ⟨by simp [sll],fun y hy=>by
     simp only [sll,List.mem_singleton] at hy
     subst hy
     exact hx.2⟩ (IntKind.wrap .i64 (most-s)) (n:=n) hO
    rw [hr,hZ]
    exact .inr ⟨_,trivial,rfl⟩
  rw [ZY,dF hO,Bool.false_and,ja]
  exact ⟨_,rfl⟩
 have s2:∀ acc:Int,∃ r,(bif decide (acc≤most) then (ado n q.E (IntKind.wrap .i64 (most-acc))).bind fun x27=>ZY n q most (fun y13=>some y13) n (IntKind.wrap .i64 (acc+x27)) 0 else ZY n q most (fun y13=>some y13) n acc 0)=some r:=fun acc=>
  amv (fun _=>ap4 (aeH h2 _ hO) fun _=>l15 _) fun _=>l15 _
 refine anQ (F:=fun k s i=>QQ n q most _ k s i) (l:=sll q.O) (fun _ _=>True) h0 hO _ trivial (fun k i s z hi hz _=>?_) fun k s _=>?_
 ·rw [QQ,dT hO,jb]
  cases decide (s>most) with
  |true=>exact .inl ⟨_,rfl⟩
  |false=>
   rw [ja,ZB hi hz,hZ]
   cases decide ((z.size:Int)>most) with
   |true=>exact .inl ⟨_,rfl⟩
   |false=>exact .inr ⟨_,trivial,rfl⟩
 rw [QQ,dF hO,ja]
 exact amv (fun _=>ap4 (aeH h1 _ hO) fun _=>s2 _) fun _=>s2 _
theorem arn {q:zr}(hq:Qg q) {a:Option jo}(ha:wSl QD a) {n:Nat}(hn:3048720≤n):∃ r,afa n q a=some r:=by
 obtain ⟨n,rfl⟩:=hX n 1
 unfold afa
 rw [zq]
 refine ap4 (ase hq.2.1 hq.1.1 hq.2.2.2.1 hq.2.2.2.2.1 500 hO) fun b=>?_
 refine amv (fun _=>⟨_,rfl⟩) fun _=>?_
 rw [zB]
 refine anQ (F:=fun k (_:Unit) i=>aal n a _ k i) (l:=sll a) (fun _ _=>True) ha.1 hO () trivial (fun k i _ z hi hz _=>?_) fun k _ _=>?_
 ·rw [aal,dT hO,jb,ZB hi hz,hZ]
  generalize ((decide (((sll z.R).length:Int)>40))||(decide ((z.T.size:Int)>100)))=b
  cases b with
  |true=>exact .inl ⟨_,rfl⟩
  |false=>exact .inr ⟨(),trivial,rfl⟩
 rw [aal,dF hO,ja]
 exact ⟨_,rfl⟩
theorem ans {α:Type}{F:Nat→Int→Option Int}{l:List α}{p:α→Bool}(hl:l.length≤1048576)
  (hF:∀ (m i:Nat) (x:α),(hi:i<l.length)→l[i]=x→F (m+1) (i:Int)=bif p x then some (i:Int) else F m (IntKind.wrap .i64 ((i:Int)+1))) (hE:∀ (m:Nat),F (m+1) (l.length:Int)=some (-1)):
  ∀ (m i:Nat),i≤l.length→l.length-i<m→∃ j,F m (i:Int)=some j∧(((l.drop i).find? p=none∧j=-1)∨∃ t,(l.drop i).find? p=some t∧0≤j∧idx l j=some t)
 |0,i,_,h=>by omega
 |m+1,i,h,hm=>by
  by_cases hi:i<l.length
  ·rw [hF m i _ hi rfl,abE hO,List.drop_eq_getElem_cons hi,List.find?_cons]
   obtain ⟨j,h1,h2⟩:=ans hl hF hE m (i+1) hO hO
   cases hp:p l[i] with
   |true=>exact ⟨i,rfl,.inr ⟨l[i],rfl,hO,ZB hi rfl⟩⟩
   |false=>exact ⟨j,h1,h2⟩
  obtain rfl:i=l.length:=by omega
  exact ⟨-1,hE m,.inl ⟨by rw [List.drop_length];rfl,rfl⟩⟩
def named (name:ByteArray) (t:zg):Bool:=sEq t.T name
theorem avQ {a:Option jo}(ha:(sll a).length≤1048576) (name:ByteArray) {n:Nat}(hn:2000010≤n):
  ∃ j,Zs n a name=some j∧(((sll a).find? (named name)=none∧j=-1)∨∃ t,(sll a).find? (named name)=some t∧0≤j∧idx (sll a) j=some t):=by
 obtain ⟨n,rfl⟩:=hX n 2
 unfold Zs
 rw [zq,zB]
 have:=ans (F:=fun k i=>zX (n+1) a name (fun _=>some (-1)) k i) (l:=sll a) (p:=named name) ha (fun m i x hi hx=>by
  rw [zX,dT hO,jb,ZB hi hx,hZ];rfl) (fun m=>by
  rw [zX,dF hO,ja]) (n+1) 0 hO hO
 rwa [List.drop_zero] at this
theorem auL {c:Option (List Z6)}(hc:(sll c).length≤1048576) {n:Nat}(hn:1≤n):QB n c=some c:=by
 obtain ⟨n,rfl⟩:=hX n 1
 unfold QB
 rw [zq]
 cases c with
 |none=>rfl
 |some l=>
  rw [Q8] at hc
  simp only [Option.isNone_some,ja,Q8]
  cases l with
  |nil=>rw [List.isEmpty_nil,jb,qF (by simp) hO];rfl
  |cons x l=>rw [List.isEmpty_cons,ja,qF (by simpa using (show (x::l).length≤2000000 by omega)) hO];rfl
def abj (all:List zg):List ByteArray→Option jo
 |[]=>some []
 |x::r=>match all.find? (named x),abj all r with
  |some t,some l=>some (⟨x,t.R⟩::l)
  |_,_=>none
theorem apH (all:List zg):∀ (a b:List ByteArray),abj all (a++b)=match abj all a,abj all b with
  |some p,some q=>some (p++q)
  |_,_=>none
 |[],b=>by
  rw [List.nil_append,abj]
  cases abj all b<;>rfl
 |x::a,b=>by
  rw [List.cons_append,abj,abj,apH all a b]
  cases all.find? (named x) with
  |none=>rfl
  |some t=>
   cases abj all a with
   |none=>rfl
   |some p=>
    cases abj all b with
    |none=>rfl
    |some q=>rfl
theorem apw {all:List zg}:∀ {a:List ByteArray}{x:ByteArray},x∈a→all.find? (named x)=none→abj all a=none
 |y::a,x,h,hf=>by
  rw [abj]
  rcases List.mem_cons.1 h with rfl|h
  ·rw [hf]
  rw [apw h hf]
  cases all.find? (named y)<;>rfl
theorem ak7 {all:List zg}:∀ {a:List ByteArray}{l:List zg},abj all a=some l→l.length=a.length
 |[],l,h=>by cases h;rfl
 |x::a,l,h=>by
  rw [abj] at h
  split at h
  ·rename_i t l' h1 h2
   cases h
   rw [List.length_cons,List.length_cons,ak7 h2]
  cases h
def adX (all:List zg) (rels:List ByteArray):Option jo×Int:=
 if rels.length>12 then (none,51) else if rels.length=0 then (none,2) else match abj all rels with
  |none=>(none,40)
  |some l=>(some l,0)
theorem atC {a:Option jo}(ha:wSl QD a) {rels:Option (List ByteArray)}(hr:(sll rels).length≤1048576) {n:Nat}(hn:2000020≤n):
  Is (fun (p:Option jo×Int)=>match abj (sll a) (sll rels) with|none=>p.2=40|some l=>sll p.1=l∧p.2=0∧(p.1=none↔sll rels=[])) (qa n a rels):=by
 obtain ⟨n,rfl⟩:=hX n 2
 unfold qa
 rw [zq,zB]
 refine aum (F:=fun k (s:Option jo) i=>zE (n+1) a rels _ k s i) (l:=sll rels) (fun i s=>abj (sll a) ((sll rels).take i)=some (sll s)∧(s=none↔i=0)) hr hO none ⟨rfl,by simp⟩ (fun k i s z hi hz hp=>?_) fun k s hp=>?_
 ·have hmem:z∈sll rels:=hz▸List.getElem_mem hi
  obtain ⟨p1,p2⟩:=hp
  have hlen:=ak7 p1
  rw [List.length_take] at hlen
  have htake:(sll rels).take (i+1)=(sll rels).take i++[z]:=by rw [List.take_add_one,List.getElem?_eq_getElem hi,hz];rfl
  obtain ⟨j,hj,hcase⟩:=avQ ha.1 z (n:=n) hO
  rcases hcase with ⟨hf,rfl⟩|⟨t,hf,hj0,hidx⟩
  ·left
   rw [apw hmem hf]
   cases s with
   |none=>
    rw [zE,dT hO,jb,ZB hi hz,hZ,acA,zq,hj]
    exact ⟨_,rfl,rfl⟩
   |some y=>
    rw [zE,dT hO,jb,ZB hi hz,hZ,abc,zq,hj]
    exact ⟨_,rfl,rfl⟩
  right
  have ht:QD t:=ha.2 t (List.mem_of_find?_eq_some hf)
  have hcl:=auL ht.2.1 (n:=n) hO
  have hnew:abj (sll a) ((sll rels).take (i+1))=some (sll s++[⟨z,t.R⟩]):=by
   rw [htake,apH,p1,abj,hf];rfl
  cases s with
  |none=>
   rw [zE,dT hO,jb,ZB hi hz,hZ,acA,zq,hj,hZ,dF hO,ja,hidx,hZ,hcl,hZ,qF (by simp) hO,hZ,hZ]
   exact ⟨some ([]++[zg.mk z t.R]),⟨hnew,by simp⟩,rfl⟩
  |some y=>
   rw [Q8] at hlen
   rw [zE,dT hO,jb,ZB hi hz,hZ,abc,zq,hj,hZ,dF hO,ja,hidx,hZ,hcl,hZ,qF (by simp;omega) hO,hZ,hZ]
   exact ⟨some (y++[zg.mk z t.R]),⟨hnew,by simp⟩,rfl⟩
 obtain ⟨p1,p2⟩:=hp
 rw [List.take_length] at p1
 rw [p1]
 cases s with
 |none=>
  rw [zE,dF hO,ja]
  exact ⟨_,rfl,rfl,rfl,by simp only [true_iff];exact List.eq_nil_of_length_eq_zero (p2.1 rfl)⟩
 |some y=>
  rw [zE,dF hO,ja]
  exact ⟨_,rfl,rfl,rfl,by simp only [reduceCtorEq,false_iff];intro h;have:=p2.2 (by rw [h];rfl);cases this⟩
theorem aue {q:zr}(hq:(sll q.O).length≤1048576) {a:Option jo}(ha:wSl QD a) {n:Nat}(hn:2000030≤n):ad8 n q a=some (adX (sll a) (sll q.O)):=by
 obtain ⟨n,rfl⟩:=hX n 1
 unfold ad8 adX
 rw [zq]
 by_cases h1:(sll q.O).length>12
 ·rw [dT hO,jb,if_pos h1]
 rw [dF hO,ja,if_neg h1]
 by_cases h2:(sll q.O).length=0
 ·rw [show (((sll q.O).length:Int)==0)=true by simp [h2],jb,if_pos h2]
 rw [show (((sll q.O).length:Int)==0)=false by simpa using h2,ja,if_neg h2]
 simp only [zB]
 obtain ⟨⟨o,e⟩,hp,hs⟩:=atC ha hq (n:=n) hO
 rw [hp,hZ]
 cases ht:abj (sll a) (sll q.O) with
 |none=>
  rw [ht] at hs
  obtain rfl:e=40:=hs
  cases o<;>rfl
 |some l=>
  rw [ht] at hs
  obtain ⟨s1,s2,s3⟩:=hs
  simp only at s1 s2 s3
  subst s2
  cases o with
  |none=>exact absurd (by rw [s3.1 rfl];rfl) h2
  |some y=>
   rw [Q8] at s1
   subst s1
   rfl
theorem ak5 {x y:zf}{d e:Nat}(hx:WX d x) (hy:WX e y) (hd:d≤140000) {n:Nat}(hn:2280110≤n):qZ zP n x y=some (ZW 140000 x y):=by
 obtain ⟨n,rfl⟩:=hX n 1
 have:=akM (m:=n) (n:=n+1) hx hy hd hO hO
 unfold qZ at this ⊢
 exact this
noncomputable def akh (x y:zf):Bool:=match sll x.B,sll y.B with
 |[a,b],[c,d]=>ZW 140000 (zc a) (zc d)&&ZW 140000 (zc b) (zc c)
 |_,_=>false
noncomputable def tF (x y:zf):Bool:=ZW 140000 x y||((x.A==7)&&((y.A==7)&&akh x y))
theorem aqp {d:Nat}{x:zf}(h:WX d x) {z:EX}(hz:z∈sll x.B):WX d (zc z):=by
 cases d with
 |zero=>exact h.elim
 |succ d=>exact ai9 hO (h.2.2 z hz)
theorem atE {x y:zf}{d e:Nat}(hx:WX d x) (hy:WX e y) (hd:d≤140000) {n:Nat}(hn:2280120≤n):adG n x y=some (tF x y):=by
 obtain ⟨n,rfl⟩:=hX n 1
 unfold adG tF akh
 rw [zq,ak5 hx hy hd hO,hZ]
 cases ZW 140000 x y with
 |true=>rfl
 |false=>
 rw [ja,Bool.false_or]
 cases (x.A==7) with
 |false=>rfl
 |true=>
 cases (y.A==7) with
 |false=>rfl
 |true=>
 rw [jb,jb,jk,jk]
 match hk:sll x.B,hl:sll y.B with
 |[],_=>rfl
 |[_],_=>rfl
 |_::_::_::q,_=>rw [show ((((_::_::_::q:List EX).length:Nat):Int)==2)=false from by simp;omega];rfl
 |[a,b],[]=>rfl
 |[a,b],[_]=>rfl
 |[a,b],_::_::_::q=>rw [show ((((_::_::_::q:List EX).length:Nat):Int)==2)=false from by simp;omega];rfl
 |[a,b],[c,d']=>
  have ha:=aqp hx (z:=a) (by rw [hk];simp);have hb:=aqp hx (z:=b) (by rw [hk];simp)
  have hc:=aqp hy (z:=c) (by rw [hl];simp);have hd':=aqp hy (z:=d') (by rw [hl];simp)
  show ((qZ _ n (zc a) (zc d')).bind _)=some (ZW 140000 (zc a) (zc d')&&ZW 140000 (zc b) (zc c))
  rw [ak5 ha hd' hd hO,hZ]
  cases ZW 140000 (zc a) (zc d') with
  |false=>rfl
  |true=>
   show ((qZ _ n (zc b) (zc c)).bind _)=some (true&&ZW 140000 (zc b) (zc c))
   rw [ak5 hb hc hd hO];rfl
def fI {α:Type}(p:α→Bool):List α→Nat→Int
 |[],_=>-1
 |x::r,i=>bif p x then (i:Int) else fI p r (i+1)
def aaE {α:Type}(p:α→Bool):List α→Option (List α)
 |[]=>none
 |x::r=>bif p x then some r else (aaE p r).map (x::·)
theorem ard {α:Type}(p:α→Bool):∀ (l:List α) (i:Nat),(fI p l i=-1∧aaE p l=none)∨∃ j,fI p l i=((i+j:Nat):Int)∧j<l.length∧aaE p l=some (l.eraseIdx j)
 |[],i=>.inl ⟨rfl,rfl⟩
 |x::r,i=>by
  unfold fI aaE
  cases p x with
  |true=>exact .inr ⟨0,by simp,by simp,by simp⟩
  |false=>
   simp only [ja]
   rcases ard p r (i+1) with ⟨h1,h2⟩|⟨j,h1,h2,h3⟩
   ·exact .inl ⟨h1,by rw [h2];rfl⟩
   exact .inr ⟨j+1,by rw [h1];congr 1;omega,by simp;omega,by rw [h3];rfl⟩
theorem aqu {α:Type}{F:Nat→Int→Option Int}{l:List α}{p:α→Bool}(hl:l.length≤1100000)
  (hF:∀ (m i:Nat) (x:α),(hi:i<l.length)→l[i]=x→F (m+1) (i:Int)=bif p x then some (i:Int) else F m (IntKind.wrap .i64 ((i:Int)+1))) (hE:∀ (m:Nat),F (m+1) (l.length:Int)=some (-1)):
  ∀ (q:List α) (i m:Nat),l.drop i=q→i≤l.length→q.length<m→F m (i:Int)=some (fI p q i)
 |[],i,m,hq,hi,hm=>by
  obtain ⟨m,rfl⟩:=hX m 1
  have:l.length≤i:=by
   have:=congrArg List.length hq
   simp at this;omega
  obtain rfl:i=l.length:=by omega
  exact hE m
 |x::q,i,m,hq,hi,hm=>by
  obtain ⟨m,rfl⟩:=hX m 1
  have hlt:i<l.length:=by
   have:=congrArg List.length hq
   simp at this;omega
  have hx:l[i]=x∧l.drop (i+1)=q:=by
   rw [List.drop_eq_getElem_cons hlt] at hq
   simp only [List.cons.injEq] at hq
   exact hq
  rw [hF m i x hlt hx.1,fI]
  cases p x with
  |true=>rfl
  |false=>
   rw [ja,ja,abE hO]
   exact aqu hl hF hE q (i+1) m hx.2 hO (by rw [List.length_cons] at hm;omega)
theorem aph {w:Option (List EX)}{x:zf}{d e:Nat}(hw:WXs e (sll w)) (hl:(sll w).length≤1100000) (hx:WX d x) (hd:d≤140000) {n:Nat}(hn:2280140≤n):
  ZD n w x.A x.C x.M x.F.A x.F.K x.F.I x.F.N x.B=some (fI (fun y=>tF x (zc y)) (sll w) 0):=by
 obtain ⟨n,rfl⟩:=hX n 1
 unfold ZD
 rw [zq]
 unfold zB
 refine aqu (F:=fun m i=>zL n w x.A x.C x.M x.F.A x.F.K x.F.I x.F.N x.B (fun _=>some (-1)) m i) (l:=sll w) hl (fun m i z hi e'=>?_) (fun m=>?_) (sll w) 0 n rfl hO hO
 ·have hz:=hw z (by rw [←e'];exact List.getElem_mem hi)
  show zL _ _ _ _ _ _ _ _ _ _ _ _ _=_
  rw [zL,dT hO,jb,ZB hi e',hZ]
  obtain ⟨n,rfl⟩:=hX n 1
  unfold ad1
  rw [zq,show adG n _ (zc z)=some (tF x (zc z)) from atE hx hz hd hO]
  rfl
 show zL _ _ _ _ _ _ _ _ _ _ _ _ _=_
 rw [zL,dF hO,ja]
theorem ahf {a b c:Int}(h:0≤a∧a≤b∧b≤c):ckB a b c=some ():=by unfold ckB;rw [if_pos h]
theorem aoA {α:Type}(l:List α) (j k:Nat) (hj:j<k) (hk:k≤l.length):(l.take k).eraseIdx j=l.take j++(l.drop (j+1)).take (k-(j+1)):=by
 rw [List.eraseIdx_eq_take_drop_succ,List.take_take,Nat.min_eq_left hO,List.drop_take]
theorem aty {l:List EX}{j k:Nat}(hj:j<k) (hk:k≤l.length) (hl:l.length≤1100000) {n:Nat}(hn:1≤n):
  ∃ l',Qw n l k (j:Int) (IntKind.wrap .i64 ((j:Int)+1))=some (l',k-1)∧l'.length=l.length∧l'.take (k-1)=(l.take k).eraseIdx j:=by
 obtain ⟨n,rfl⟩:∃ q,n=q+1:=⟨n-1,hO⟩
 rw [abE hO,aoA l j k hj hk]
 unfold Qw
 rw [zq,ahf hO,hZ,ahf hO,hZ,show ((j:Int)==((j+1:Nat):Int))=false by rw [beq_eq_false_iff_ne];omega,ja]
 simp only [zB]
 rw [ahf hO,hZ,ahf hO,hZ]
 have hs:subL l ((j+1:Nat):Int) (k:Int)=(l.drop (j+1)).take (k-(j+1)):=by unfold subL;simp
 have hsl:((l.drop (j+1)).take (k-(j+1))).length=k-(j+1):=by rw [List.length_take,List.length_drop];omega
 rw [hs]
 simp only [Int.toNat_natCast]
 rw [hsl]
 by_cases he:k=j+1
 ·have h0:(l.drop (j+1)).take (k-(j+1))=[]:=by rw [he];simp
  rw [h0,List.isEmpty_nil,jb,qF hO (by decide),hZ,ahf hO,hZ,show Nat.beq (k-j) 0=false by rw [he];simp;rfl,ja,ahf hO,hZ]
  refine ⟨_,by rw [show k-1=j by omega],?_,?_⟩
  ·simp only [List.length_append,List.length_take,List.length_replicate,List.length_drop];omega
  rw [show k-1=j by omega,List.take_append_of_le_length (by rw [List.length_take];omega),List.take_take,Nat.min_self,List.append_nil]
 have h0:((l.drop (j+1)).take (k-(j+1))).isEmpty=false:=by
  cases hc:(l.drop (j+1)).take (k-(j+1)) with
  |nil=>rw [hc] at hsl;simp at hsl;omega
  |cons=>rfl
 rw [h0,ja,ahf hO,hZ]
 have hy:(l.take j++((l.drop (j+1)).take (k-(j+1))++l.drop (j+(k-(j+1))))).length=l.length:=by
  simp only [List.length_append,List.length_take,List.length_drop];omega
 rw [hy,ahf hO,hZ]
 have hb:Nat.beq (k-(j+(k-(j+1)))) 0=false:=by rw [show k-(j+(k-(j+1)))=1 by omega];rfl
 rw [hb,ja,ahf hO,hZ]
 refine ⟨_,by rw [show j+(k-(j+1))=k-1 by omega],?_,?_⟩
 ·rw [show j+(k-(j+1))=k-1 by omega] at hy
  rw [List.length_append,List.length_append,List.length_take,List.length_drop,List.length_replicate,hy];omega
 rw [show j+(k-(j+1))=k-1 by omega] at hy
 rw [List.take_append_of_le_length (by rw [List.length_take,hy];omega),List.take_take,Nat.min_self,←List.append_assoc,List.take_append_of_le_length (by rw [List.length_append,hsl,List.length_take];omega),List.take_of_length_le (by rw [List.length_append,hsl,List.length_take];omega)]
noncomputable def adZ:List EX→List EX→Bool
 |[],l=>l.isEmpty
 |x::a,l=>match aaE (fun y=>tF (zc x) (zc y)) l with
  |none=>false
  |some l'=>adZ a l'
theorem ap0 {a:Option (List EX)}(h:(sll a).length≤1100000) {n:Nat}(hn:1≤n):aaL n a=some a:=by
 obtain ⟨n,rfl⟩:=hX n 1
 unfold aaL
 rw [zq]
 cases a with
 |none=>rfl
 |some l=>
  cases l with
  |nil=>rfl
  |cons z l=>
   have h':(z::l).length≤1100000:=h
   show (ckA 88 (z::l).length).bind _=_
   rw [qF hO (by decide)];rfl
theorem arX:∀ (a:List EX),adZ a []=a.isEmpty
 |[]=>rfl
 |x::a=>rfl
theorem arW {a b:Option (List EX)}{d e:Nat}(ha:WXs d (sll a)) (hla:(sll a).length≤1100000) (hb:WXs e (sll b)) (hlb:(sll b).length≤1100000) (hd:d≤140000) {n:Nat}(hn:2280150≤n):
  abl n a b=some (adZ (sll a) (sll b)):=by
 obtain ⟨n,rfl⟩:=hX n 1
 unfold abl
 rw [zq,ap0 hlb hO]
 cases b with
 |none=>
  simp only [zB,hZ]
  show _=some (adZ (sll a) [])
  rw [arX]
  have e3:Q5 n a (fun _=>some true) n 0=Q5 n a (fun _=>some true) (n-1+1) 0:=by rw [show n-1+1=n by omega]
  refine Eq.trans e3 ?_
  rw [Q5]
  cases hk:sll a with
  |nil=>rw [dF (by simp),ja];rfl
  |cons z q=>
   have hz:=ha z (by rw [hk];simp)
   rw [dT (by rw [List.length_cons];omega),jb,show idx (z::q) 0=some z from rfl,hZ,aph (w:=none) (e:=0) (fun y hy=>by cases hy) (by simp [sll]) hz hd hO,hZ]
   rfl
 |some l=>
  simp only [zB,hZ]
  have key:∀ (q:List EX) (i m:Nat) (s:List EX) (k:Nat),(sll a).drop i=q→i≤(sll a).length→q.length<m→s.length≤1100000→k≤s.length→WXs e (s.take k)→
    Qj n a (fun (y21:Nat)=>some (((y21:Nat):Int)==0)) m s (i:Int) k=some (adZ q (s.take k)):=by
   intro q
   induction q with
   |nil=>
    intro i m s k hq hi hm hs hk hw
    obtain ⟨m,rfl⟩:=hX m 1
    have:(sll a).length≤i:=by
     have:=congrArg List.length hq
     simp at this;omega
    rw [Qj,dF hO,ja,adZ]
    congr 1
    cases hc:s.take k with
    |nil=>
     have:=congrArg List.length hc
     rw [List.length_take] at this
     simp only [List.length_nil] at this
     have:k=0:=by omega
     subst this;rfl
    |cons x y=>
     have:=congrArg List.length hc
     rw [List.length_take,List.length_cons] at this
     show ((k:Int)==0)=false
     rw [beq_eq_false_iff_ne];omega
   |cons x q ih=>
    intro i m s k hq hi hm hs hk hw
    obtain ⟨m,rfl⟩:=hX m 1
    have hlt:i<(sll a).length:=by
     have:=congrArg List.length hq
     simp at this;omega
    have hx:(sll a)[i]=x∧(sll a).drop (i+1)=q:=by
     rw [List.drop_eq_getElem_cons hlt] at hq
     simp only [List.cons.injEq] at hq
     exact hq
    have hxw:=ha x (by rw [←hx.1];exact List.getElem_mem hlt)
    rw [Qj,dT hO,jb,ZB hlt hx.1,hZ,aph (w:=some (s.take k)) (e:=e) hw (by rw [Q8,List.length_take];omega) hxw hd hO,hZ,adZ]
    rw [List.length_cons] at hm
    rcases ard (fun y=>tF (zc x) (zc y)) (s.take k) 0 with ⟨h1,h2⟩|⟨j,h1,h2,h3⟩
    ·rw [Q8,h1,h2,dT hO,jb]
    rw [List.length_take] at h2
    rw [Q8,h1,h3,Nat.zero_add,dF hO,ja]
    obtain ⟨s',e1,e2,e3⟩:=aty (l:=s) (j:=j) (k:=k) hO hk hs (n:=n) hO
    rw [e1,hZ,abE hO]
    show Qj n a _ m s' ((i+1:Nat):Int) (k-1)=some (adZ q ((s.take k).eraseIdx j))
    rw [ih (i+1) m s' (k-1) hx.2 hO hO hO hO (fun z hz=>by rw [e3] at hz;exact hw z (List.mem_of_mem_eraseIdx hz)),e3]
  have:=key (sll a) 0 n l l.length rfl hO hO hlb (Nat.le_refl _) (by rw [List.take_of_length_le (Nat.le_refl _)];exact hb)
  rw [List.take_of_length_le (Nat.le_refl _)] at this
  exact this
def colK (a:List zg) (x:zf):Option Int:=(idx a x.C).bind fun t=>(idx (sll t.R) x.M).bind fun c=>some c.A
theorem aqH {α:Type}{l:List α}{i:Int}(h:i≥(l.length:Int)):idx l i=none:=by
 unfold idx
 split
 ·rw [List.getElem?_eq_none_iff];omega
 rfl
theorem apE {x:zf}(h0:0≤x.C) (h1:0≤x.M) (a:Option jo) {n:Nat}(hn:1≤n):acD n x a=some (match colK (sll a) x with|none=>.inl 40|some k=>.inr k):=by
 obtain ⟨n,rfl⟩:=hX n 1
 unfold acD colK
 rw [zq]
 by_cases h:x.C≥((sll a).length:Int)
 ·rw [dT h,jb,aqH h];rfl
 obtain ⟨t,ht,_⟩:=ap1 h0 (Int.lt_of_not_ge h)
 rw [dF h,ja,ht,hZ,hZ]
 by_cases h':x.M≥((sll t.R).length:Int)
 ·rw [dT h',jb,aqH h'];rfl
 obtain ⟨c,hc,_⟩:=ap1 h1 (Int.lt_of_not_ge h')
 rw [dF h',ja,hc,hZ,hZ]
noncomputable def refB (a:List zg):Nat→zf→Bool
 |0,_=>false
 |r+1,x=>(bif x.A==1 then (colK a x).isSome else true)&&(sll x.B).all fun z=>refB a r (zc z)
def toR (b:Bool):Int ⊕ Unit:=bif b then .inr () else .inl 40
theorem ao4 {n m r:Nat}{x:zf}{a:Option jo}(hl:(sll x.B).length≤1048576) (hC:∀ z,z∈sll x.B→abh m n (zc z) a=some (toR (refB (sll a) r (zc z)))):
  ∀ (l p:List EX) (k:Nat),sll x.B=p++l→l.length<k→aaK n (abh m) x a k (p.length:Int)=some (toR (l.all fun z=>refB (sll a) r (zc z)))
 |[],p,k,he,hk=>by
  obtain ⟨k,rfl⟩:=hX k 1
  rw [aaK,dF (by rw [he];simp),ja];rfl
 |z::l,p,k,he,hk=>by
  obtain ⟨k,rfl⟩:=hX k 1
  rw [List.length_cons] at hk
  have hlen:(sll x.B).length=p.length+(l.length+1):=by rw [he];simp
  have hix:idx (sll x.B) (p.length:Int)=some z:=by rw [he,aaY];simp
  rw [aaK,dT hO,jb,hix,hZ,hC z (by rw [he];simp),hZ,List.all_cons,abE hO,show p.length+1=(p++[z]).length by simp]
  cases refB (sll a) r (zc z) with
  |false=>rfl
  |true=>exact ao4 hl hC l (p++[z]) k (by rw [he];simp) hO
theorem as5 (a:Option jo):∀ (r:Nat) (x:zf) (c:Nat),frmE r x=some c→Zt x→∀ m n,r≤m→2000010+r≤n→abh m n x a=some (toR (refB (sll a) r x))
 |0,x,c,h,_,m,n,_,_=>by cases h
 |r+1,x,c,h,hw,m,n,hm,hn=>by
  obtain ⟨m,rfl⟩:=hX m 1
  obtain ⟨n,rfl⟩:=hX n 1
  obtain ⟨hnode,hk⟩:=aiz h
  obtain ⟨h0,h1,_⟩:=akN hnode
  have hl:=ac8 hw
  have loop:=ao4 (n:=n) (m:=m) (r:=r) (x:=x) (a:=a) hl (fun z hz=>by
   obtain ⟨c',hc',_⟩:=hk z hz
   exact as5 a r _ c' hc' (ajx hw hz) m n hO hO) (sll x.B) [] n rfl hO
  show aeZ (abh m) (n+1) x a=_
  unfold aeZ
  rw [zq,refB]
  simp only [zB]
  have loop':aaK n (abh m) x a n 0=_:=loop
  cases (x.A==1) with
  |false=>rw [ja,ja,jk];exact loop'
  |true=>
   rw [jb,jb,apE h0 h1 a hO,hZ]
   cases colK (sll a) x with
   |none=>rfl
   |some k=>rw [Option.isSome_some,jk];exact loop'
theorem apA (a:Option jo):∀ (r:Nat) (x:zf) (c:Nat),frmE r x=some c→Zt x→∀ m n,r≤m→2000010+r≤n→abq m n x a=some (refB (sll a) r x)
 |0,x,c,h,_,m,n,_,_=>by cases h
 |r+1,x,c,h,hw,m,n,hm,hn=>by
  obtain ⟨m,rfl⟩:=hX m 1
  obtain ⟨n,rfl⟩:=hX n 1
  obtain ⟨hnode,hk⟩:=aiz h
  obtain ⟨h0,h1,_⟩:=akN hnode
  have hl:=ac8 hw
  show ad7 (abq m) (n+1) x a=_
  unfold ad7
  rw [zq,refB]
  simp only [zB]
  have loop:Qr n (abq m) x a (fun _=>some true) n 0=some ((sll x.B).all fun z=>refB (sll a) r (zc z)):=by
   have:=aez (F:=fun k i=>Qr n (abq m) x a (fun _=>some true) k i) (l:=sll x.B) (p:=fun z=>refB (sll a) r (zc z)) (kk:=some true) (e:=some false) hl (m:=n) hO (fun k i z hi e=>by
    have hz:z∈sll x.B:=by rw [←e];exact List.getElem_mem hi
    obtain ⟨c',hc',_⟩:=hk z hz
    show Qr _ _ _ _ _ _ _=_
    rw [Qr,dT hO,jb,ZB hi e,hZ,apA a r _ c' hc' (ajx hw hz) m n hO hO,hZ]
    cases refB (sll a) r (zc z)<;>rfl) (fun k=>by
    show Qr _ _ _ _ _ _ _=_
    rw [Qr,dF hO,ja])
   refine Eq.trans this ?_
   cases (sll x.B).all fun z=>refB (sll a) r (zc z)<;>rfl
  cases (x.A==1) with
  |false=>rw [ja,ja,jk];exact loop
  |true=>
   rw [jb,jb]
   unfold colK
   by_cases h:x.C≥((sll a).length:Int)
   ·rw [dT h,jb,aqH h];rfl
   obtain ⟨t,ht,_⟩:=ap1 h0 (Int.lt_of_not_ge h)
   rw [dF h,ja,ht,hZ,hZ]
   by_cases h':x.M≥((sll t.R).length:Int)
   ·rw [dT h',jb,aqH h'];rfl
   obtain ⟨c,hc,_⟩:=ap1 h1 (Int.lt_of_not_ge h')
   rw [dF h',ja,hc,hZ,Option.isSome_some,jk]
   exact loop
def numB (a:Int):Bool:=((a==0)||(a==2))||(a==3)
def truB (a:Int):Bool:=(a==0)||(a==1)
def difB (a b:Int):Bool:=((a !=0)&&(b !=0))&&(a !=b)
def tyC (k:Int) (col:Option Int) (const:Int):List Int→Option Int
 |[]=>if k=1 then col else some const
 |[a]=>if k=6 then (bif numB a then some a else none) else if k=12 then (bif truB a then some 1 else none) else some 1
 |[a,b]=>if k=3∨k=4∨k=5 then (bif (numB a&&numB b)&&!difB a b then some (if b>a then b else a) else none)
  else if k=7∨k=8∨k=9 then (bif !difB a b then some 1 else none)
  else (bif (truB a&&truB b)&&!difB a b then some 1 else none)
 |_=>some 1
def al0 {α:Type}(f:α→Option Int):List α→Option (List Int)
 |[]=>some []
 |z::l=>match f z,al0 f l with
  |some a,some b=>some (a::b)
  |_,_=>none
noncomputable def tyP (a:List zg):Nat→zf→Option Int
 |0,_=>none
 |r+1,x=>(al0 (fun z=>tyP a r (zc z)) (sll x.B)).bind (tyC x.A (colK a x) x.F.A)
def toS (o:Option Int):Int ⊕ Int:=match o with
 |none=>.inl 50
 |some t=>.inr t
theorem amD (p q:Int) {n:Nat}(hn:2≤n):qY n p q=some (toS (bif (numB p&&numB q)&&!difB p q then some (if q>p then q else p) else none)):=by
 obtain ⟨n,rfl⟩:=hX n 2
 unfold qY ad3
 rw [zq,zq,hZ,zq,hZ]
 unfold difB numB
 cases (((p==0)||(p==2))||(p==3))<;>cases (((q==0)||(q==2))||(q==3))<;>cases (((p !=0)&&(q !=0))&&(p !=q))<;>rfl
theorem aqa (p q:Int) {n:Nat}(hn:2≤n):QJ n p q=some (bif !difB p q then .inr (if q>p then q else p) else .inl 50):=by
 obtain ⟨n,rfl⟩:=hX n 2
 unfold QJ ad9
 rw [zq,zq,hZ,Bool.not_true,ja,hZ]
 unfold difB
 cases (((p !=0)&&(q !=0))&&(p !=q))<;>rfl
theorem ap5 (p q:Int) {n:Nat}(hn:2≤n):QA n p q=some (bif (truB p&&truB q)&&!difB p q then .inr (if q>p then q else p) else .inl 50):=by
 obtain ⟨n,rfl⟩:=hX n 2
 unfold QA afY
 rw [zq,zq,hZ,zq,hZ]
 unfold difB truB
 cases ((p==0)||(p==1))<;>cases ((q==0)||(q==1))<;>cases (((p !=0)&&(q !=0))&&(p !=q))<;>rfl
theorem arI (p:Int):difB p p=false:=by unfold difB;simp
theorem len0 {α:Type}{l:List α}(h:l.length=0):l=[]:=List.eq_nil_of_length_eq_zero h
theorem len1 {α:Type}{l:List α}(h:l.length=1):∃ p,l=[p]:=by
 match l,h with
 |[p],_=>exact ⟨p,rfl⟩
theorem len2 {α:Type}{l:List α}(h:l.length=2):∃ p q,l=[p,q]:=by
 match l,h with
 |[p,q],_=>exact ⟨p,q,rfl⟩
theorem arj (a:Option jo):∀ (r:Nat) (x:zf) (c:Nat),frmE r x=some c→Zt x→refB (sll a) r x=true→∀ m n,r≤m→2000010+r≤n→acG m n x a=some (toS (tyP (sll a) r x))
 |0,x,c,h,_,_,m,n,_,_=>by cases h
 |r+1,x,c,h,hw,hr,m,n,hm,hn=>by
  obtain ⟨m,rfl⟩:=hX m 1
  obtain ⟨n,rfl⟩:=hX n 4
  obtain ⟨hnode,hk⟩:=aiz h
  obtain ⟨h0,h1,hlen⟩:=akN hnode
  rw [refB,jj] at hr
  have ih:∀ z,z∈sll x.B→acG m (n+3) (zc z) a=some (toS (tyP (sll a) r (zc z))):=fun z hz=>by
   obtain ⟨c',hc',_⟩:=hk z hz
   exact arj a r _ c' hc' (ajx hw hz) (List.all_eq_true.1 hr.2 z hz) m (n+3) hO hO
  show adT (acG m) (n+4) x a=_
  unfold adT
  rw [zq,tyP]
  rw [zB]
  rcases alH hlen with ⟨hl,hc⟩|⟨hl,hc⟩|⟨hl,hc⟩
  ·have e:=len0 hl
   rw [qJ,dF (by rw [e];simp),ja,e]
   simp only [al0,hZ,tyC]
   rcases hc with hc|hc
   ·rw [hc] at hr ⊢
    rw [show ((1:Int)==1)=true from rfl,jb,apE h0 h1 a hO,hZ,if_pos rfl]
    have:=hr.1
    rw [show ((1:Int)==1)=true from rfl,jb] at this
    cases hcol:colK (sll a) x with
    |none=>rw [hcol] at this;cases this
    |some k=>rfl
   rw [hc];rfl
  ·obtain ⟨p,e⟩:=len1 hl
   have hp:=ih p (by rw [e];simp)
   rw [qJ,dT (by rw [e];simp),jb,e,show idx [p] 0=some p from rfl,hZ,hp,hZ]
   simp only [al0]
   cases tyP (sll a) r (zc p) with
   |none=>rfl
   |some t=>
    simp only [toS]
    rw [qF (by simp) (by decide),hZ,qJ,show IntKind.wrap .i64 ((0:Int)+1)=1 from rfl,dF (by rw [e];simp),ja,hZ]
    simp only [tyC]
    rcases hc with hc|hc|hc<;>simp (decide:=true) only [zB,hc,jb,ja,Int.reduceBEq,show idx [t] 0=some t from rfl,hZ,if_true,if_false]
    ·rw [amD t t hO,arI]
     cases hn:numB t with
     |false=>rfl
     |true=>simp [toS]
    rw [ap5 t t hO,arI]
    cases hn:truB t<;>rfl
  obtain ⟨p,q,e⟩:=len2 hl
  have hp:=ih p (by rw [e];simp)
  have hq:=ih q (by rw [e];simp)
  rw [qJ,dT (by rw [e];simp),jb,e,show idx [p,q] 0=some p from rfl,hZ,hp,hZ]
  simp only [al0]
  cases tyP (sll a) r (zc p) with
  |none=>rfl
  |some t=>
   simp only [toS]
   rw [qF (by simp) (by decide),hZ,qJ,show IntKind.wrap .i64 ((0:Int)+1)=1 from rfl,dT (by rw [e];simp),jb,e,show idx [p,q] 1=some q from rfl,hZ,hq,hZ]
   cases tyP (sll a) r (zc q) with
   |none=>rfl
   |some u=>
    simp only [toS]
    rw [qF (by simp) (by decide),hZ,qJ,show IntKind.wrap .i64 ((1:Int)+1)=2 from rfl,dF (by rw [e];simp),ja,hZ]
    simp only [tyC,List.cons_append,List.nil_append]
    rcases hc with hc|hc|hc|hc|hc|hc|hc|hc<;>simp (decide:=true) only [zB,hc,jb,ja,Int.reduceBEq,show idx [t,u] 0=some t from rfl,show idx [t,u] 1=some u from rfl,hZ,if_true,if_false]
    ·rw [amD t u hO];cases (numB t&&numB u)&&!difB t u<;>rfl
    ·rw [amD t u hO];cases (numB t&&numB u)&&!difB t u<;>rfl
    ·rw [amD t u hO];cases (numB t&&numB u)&&!difB t u<;>rfl
    ·rw [aqa t u hO];cases difB t u<;>rfl
    ·rw [aqa t u hO];cases difB t u<;>rfl
    ·rw [aqa t u hO];cases difB t u<;>rfl
    ·rw [ap5 t u hO];cases (truB t&&truB u)&&!difB t u<;>rfl
    rw [ap5 t u hO];cases (truB t&&truB u)&&!difB t u<;>rfl
def TyR (o:Option Int) (p:Int×Bool):Prop:=match o with
 |none=>p.2=false
 |some t=>p.1=t∧p.2=true
theorem alb (x:Nat→Int) (i:Int) (v:Int) (j:Nat) (h:Int.toNat i=j):updA x i v j=v:=by
 show (bif Nat.beq j (Int.toNat i) then v else x j)=v
 rw [show Nat.beq j (Int.toNat i)=true from by rw [h];exact Nat.beq_refl j];rfl
theorem ani (x:Nat→Int) (i:Int) (v:Int) (j:Nat) (h:Int.toNat i≠j):updA x i v j=x j:=by
 show (bif Nat.beq j (Int.toNat i) then v else x j)=x j
 have:Nat.beq j (Int.toNat i)=false:=by
  cases hb:Nat.beq j (Int.toNat i) with
  |false=>rfl
  |true=>exact absurd (Nat.eq_of_beq_eq_true hb).symm h
 rw [this];rfl
theorem ckI2 {i:Int}(h:0≤i∧i<2):ckI 2 i=some ():=by unfold ckI;rw [if_pos hO]
def endT (k:Int) (a:Option jo) (x:zf) (y:Nat→Int) (ok:Bool):Option (Int×Bool):=(ckI 2 0).bind fun _=>zB (fun k9=>bif ((y (Int.toNat 0))==0) then (ckI 2 1).bind fun _=>k9 (y (Int.toNat 1)) else k9 (y (Int.toNat 0))) (fun (y8:Int)=>zB (fun k12=>bif (k !=13) then (ckI 2 1).bind fun _=>bif (((y (Int.toNat 1))!=0)&&((y (Int.toNat 1))!=y8)) then k12 false else k12 ok else k12 ok) (fun (y11:Bool)=>bif (k==1) then (idx (sll a) x.C).bind fun x14=>(idx (sll x14.R) x.M).bind fun x16=>some (x16.A,true) else bif (k==2) then some (x.F.A,true) else zB (fun k20=>bif (k==3) then k20 (k==3) else bif (k==4) then k20 (k==4) else bif (k==5) then k20 (k==5) else k20 (k==6)) (fun (y19:Bool)=>bif y19 then some (y8,(y11&&(((y8==0)||(y8==2))||(y8==3)))) else zB (fun k24=>bif (k==10) then k24 (k==10) else bif (k==11) then k24 (k==11) else k24 (k==12)) (fun (y23:Bool)=>bif y23 then some (1,(y11&&((y8==0)||(y8==1)))) else some (1,y11)))))
theorem ajU {k:Int}(hk:k≠1∧k≠2) (a:Option jo) (x:zf) (y:Nat→Int):∃ v,endT k a x y false=some v∧v.2=false:=by
 unfold endT
 rw [ckI2 hO,ckI2 hO]
 simp only [hZ,zB]
 have e1:(k==1)=false:=beqF hk.1
 have e2:(k==2)=false:=beqF hk.2
 rw [e1,e2]
 simp only [ja,Bool.false_and]
 cases (y (Int.toNat 0)==0)<;>cases (k !=13)<;>cases (k==3)<;>cases (k==4)<;>cases (k==5)<;>cases (k==6)<;>cases (k==10)<;>cases (k==11)<;>cases (k==12)<;>simp only [jb,ja] <;>
  first
   |exact ⟨_,rfl,rfl⟩
   |(cases ((y (Int.toNat 1)!=0)&&(y (Int.toNat 1)!=y (Int.toNat 1)))<;>exact ⟨_,rfl,rfl⟩)
   |(cases ((y (Int.toNat 1)!=0)&&(y (Int.toNat 1)!=y (Int.toNat 0)))<;>exact ⟨_,rfl,rfl⟩)
theorem auW {k:Int}(hk:k=6∨k=12∨k=13) (a:Option jo) (x:zf) {y:Nat→Int}{t:Int}(h0:y 0=t) (h1:y 1=0) (col:Option Int) (c:Int):∃ v,endT k a x y true=some v∧TyR (tyC k col c [t]) v:=by
 unfold endT
 rw [ckI2 hO,ckI2 hO]
 simp only [hZ,zB]
 rw [show y (Int.toNat 0)=t from h0,show y (Int.toNat 1)=0 from h1]
 have e0:((0:Int)!=0)=false:=rfl
 rw [e0]
 simp only [Bool.false_and,ja]
 by_cases h:t=0
 ·subst h
  rcases hk with rfl|rfl|rfl<;>exact ⟨_,rfl,rfl,rfl⟩
 rw [beqF h]
 rcases hk with rfl|rfl|rfl
 ·refine ⟨(t,(t==2)||(t==3)),?_,?_⟩
  ·rfl
  show TyR (bif (((t==0)||(t==2))||(t==3)) then some t else none) _
  rw [beqF h]
  cases hb:((t==2)||(t==3)) with
  |false=>rw [Bool.false_or,hb];rfl
  |true=>rw [Bool.false_or,hb];exact ⟨rfl,rfl⟩
 ·refine ⟨(1,(t==1)),?_,?_⟩
  ·rfl
  show TyR (bif ((t==0)||(t==1)) then some 1 else none) _
  rw [beqF h]
  cases hb:(t==1) with
  |false=>rfl
  |true=>exact ⟨rfl,rfl⟩
 exact ⟨_,rfl,rfl,rfl⟩
theorem avz {k:Int}(hk:k=3∨k=4∨k=5∨k=7∨k=8∨k=9∨k=10∨k=11) (a:Option jo) (x:zf) {y:Nat→Int}{t u:Int}(h0:y 0=t) (h1:y 1=u) (col:Option Int) (c:Int):∃ v,endT k a x y true=some v∧TyR (tyC k col c [t,u]) v:=by
 have main:∃ w:Int,endT k a x y true=(bif (k==1) then (idx (sll a) x.C).bind fun x14=>(idx (sll x14.R) x.M).bind fun x16=>some (x16.A,true) else bif (k==2) then some (x.F.A,true) else bif (k==3)||((k==4)||((k==5)||(k==6))) then some (w,(!difB t u&&(((w==0)||(w==2))||(w==3)))) else bif (k==10)||((k==11)||(k==12)) then some (1,(!difB t u&&((w==0)||(w==1)))) else some (1,!difB t u))∧(difB t u=false→(w=t∨w=u)∧(t=0→w=u)∧(t≠0→w=t∧(u=0∨u=t))):=by
  refine ⟨if t=0 then u else t,?_,?_⟩
  ·unfold endT
   rw [ckI2 hO,ckI2 hO]
   simp only [hZ,zB]
   rw [show y (Int.toNat 0)=t from h0,show y (Int.toNat 1)=u from h1]
   have hk13:(k !=13)=true:=by rcases hk with h|h|h|h|h|h|h|h<;>rw [h]<;>rfl
   rw [hk13]
   simp only [jb]
   unfold difB
   by_cases ht:t=0
   ·subst ht
    rw [if_pos rfl,show ((u !=0)&&(u !=u))=false by simp,show ((0:Int)==0)=true from rfl,show ((0:Int)!=0)=false from rfl]
    simp only [jb,ja,Bool.false_and,Bool.not_false,jk]
    cases (k==1)<;>cases (k==2)<;>cases (k==3)<;>cases (k==4)<;>cases (k==5)<;>cases (k==6)<;>cases (k==10)<;>cases (k==11)<;>cases (k==12)<;>rfl
   rw [if_neg ht,beqF ht,show (t !=0)=true by simpa using ht,show (u !=t)=(t !=u) from by rw [Bool.eq_iff_iff];simp;exact ⟨fun h e=>h e.symm,fun h e=>h e.symm⟩]
   simp only [ja,jk]
   cases ((u !=0)&&(t !=u))<;>cases (k==1)<;>cases (k==2)<;>cases (k==3)<;>cases (k==4)<;>cases (k==5)<;>cases (k==6)<;>cases (k==10)<;>cases (k==11)<;>cases (k==12)<;>rfl
  intro hd
  unfold difB at hd
  by_cases ht:t=0
  ·rw [if_pos ht]
   exact ⟨.inr rfl,fun _=>rfl,fun h=>absurd ht h⟩
  rw [if_neg ht]
  refine ⟨.inl rfl,fun h=>absurd h ht,fun _=>⟨rfl,?_⟩⟩
  simp only [Bool.and_eq_false_iff,bne_eq_false_iff_eq] at hd
  rcases hd with (h|h)|h
  ·exact absurd h ht
  ·exact .inl h
  exact .inr h.symm
 obtain ⟨w,hw,hd⟩:=main
 rw [hw]
 cases hdif:difB t u with
 |true=>
  rcases hk with rfl|rfl|rfl|rfl|rfl|rfl|rfl|rfl<;>refine ⟨_,rfl,?_⟩<;>simp (decide:=true) [tyC,hdif,TyR]
 |false=>
  obtain ⟨d1,d2,d3⟩:=hd hdif
  have hn:numB w=(numB t&&numB u):=by
   by_cases ht:t=0
   ·rw [d2 ht,ht];simp [numB]
   obtain ⟨e,hu⟩:=d3 ht
   rw [e]
   rcases hu with hu|hu
   ·rw [hu];simp [numB]
   rw [hu];simp
  have hb:truB w=(truB t&&truB u):=by
   by_cases ht:t=0
   ·rw [d2 ht,ht];simp [truB]
   obtain ⟨e,hu⟩:=d3 ht
   rw [e]
   rcases hu with hu|hu
   ·rw [hu];simp [truB]
   rw [hu];simp
  have hmax:numB w=true→w=if u>t then u else t:=fun h=>by
   unfold numB at h
   simp only [Bool.or_eq_true,beq_iff_eq] at h
   by_cases ht:t=0
   ·have:=d2 ht;split<;>omega
   obtain ⟨e,hu⟩:=d3 ht
   split<;>rcases hu with hu|hu<;>omega
  have num:TyR (bif (numB t&&numB u)&&!false then some (if u>t then u else t) else none) (w,!false&&numB w):=by
   rw [hn]
   cases hq:numB t&&numB u with
   |false=>rfl
   |true=>exact ⟨hmax (by rw [hn,hq]),rfl⟩
  have tru:TyR (bif (truB t&&truB u)&&!false then some 1 else none) (1,!false&&truB w):=by
   rw [hb]
   cases hq:truB t&&truB u with
   |false=>rfl
   |true=>exact ⟨rfl,rfl⟩
  rcases hk with rfl|rfl|rfl|rfl|rfl|rfl|rfl|rfl
  ·exact ⟨_,rfl,by rw [tyC,if_pos (by simp),hdif];exact num⟩
  ·exact ⟨_,rfl,by rw [tyC,if_pos (by simp),hdif];exact num⟩
  ·exact ⟨_,rfl,by rw [tyC,if_pos (by simp),hdif];exact num⟩
  ·exact ⟨_,rfl,by rw [tyC,if_neg (by simp),if_pos (by simp),hdif];exact ⟨rfl,rfl⟩⟩
  ·exact ⟨_,rfl,by rw [tyC,if_neg (by simp),if_pos (by simp),hdif];exact ⟨rfl,rfl⟩⟩
  ·exact ⟨_,rfl,by rw [tyC,if_neg (by simp),if_pos (by simp),hdif];exact ⟨rfl,rfl⟩⟩
  ·exact ⟨_,rfl,by rw [tyC,if_neg (by simp),if_neg (by simp),hdif];exact tru⟩
  exact ⟨_,rfl,by rw [tyC,if_neg (by simp),if_neg (by simp),hdif];exact tru⟩
theorem anx (a:Option jo):∀ (r:Nat) (x:zf) (c:Nat),frmE r x=some c→Zt x→refB (sll a) r x=true→∀ m n,r≤m→2000010+r≤n→∃ v,aaS m n x a=some v∧TyR (tyP (sll a) r x) v
 |0,x,c,h,_,_,m,n,_,_=>by cases h
 |r+1,x,c,h,hw,hr,m,n,hm,hn=>by
  obtain ⟨m,rfl⟩:=hX m 1
  obtain ⟨n,rfl⟩:=hX n 4
  obtain ⟨hnode,hk⟩:=aiz h
  obtain ⟨h0,h1,hlen⟩:=akN hnode
  rw [refB,jj] at hr
  have ih:∀ z,z∈sll x.B→∃ v,aaS m (n+3) (zc z) a=some v∧TyR (tyP (sll a) r (zc z)) v:=fun z hz=>by
   obtain ⟨c',hc',_⟩:=hk z hz
   exact anx a r _ c' hc' (ajx hw hz) (List.all_eq_true.1 hr.2 z hz) m (n+3) hO hO
  have hf:aaS (m+1) (n+4) x a=qR (n+3) (aaS m) x a (fun y ok=>endT x.A a x y ok) (n+3) (fun _=>0) true 0:=rfl
  rw [hf,tyP]
  rcases alH hlen with ⟨hl,hc⟩|⟨hl,hc⟩|⟨hl,hc⟩
  ·have e:=len0 hl
   rw [qR,dF (by rw [e];simp),ja,e]
   simp only [al0,hZ,tyC]
   unfold endT
   rw [ckI2 hO,ckI2 hO]
   simp only [hZ,zB]
   rcases hc with hc|hc
   ·rw [hc] at hr ⊢
    have:=hr.1
    rw [show ((1:Int)==1)=true from rfl,jb] at this
    rw [if_pos rfl]
    unfold colK at this ⊢
    cases hi:idx (sll a) x.C with
    |none=>rw [hi] at this;cases this
    |some t=>
     rw [hi,hZ] at this
     cases hj:idx (sll t.R) x.M with
     |none=>rw [hj] at this;cases this
     |some q=>
      refine ⟨(q.A,true),?_,?_⟩
      ·rw [hZ,hj];rfl
      rw [hZ,hj];exact ⟨rfl,rfl⟩
   rw [hc]
   exact ⟨(x.F.A,true),rfl,rfl,rfl⟩
  ·obtain ⟨p,e⟩:=len1 hl
   obtain ⟨v,hv,hT⟩:=ih p (by rw [e];simp)
   rw [qR,dT (by rw [e];simp),jb,e,show idx [p] 0=some p from rfl,hZ,hv,hZ,ckI2 hO,hZ,qR,show IntKind.wrap .i64 ((0:Int)+1)=1 from rfl,dF (by rw [e];simp),ja]
   simp only [al0]
   have hk12:x.A≠1∧x.A≠2:=by rcases hc with h|h|h<;>rw [h]<;>decide
   cases ht:tyP (sll a) r (zc p) with
   |none=>
    rw [ht] at hT
    rw [show v.2=false from hT,Bool.and_false]
    exact ajU hk12 a x _
   |some t=>
    rw [ht] at hT
    rw [hT.2,Bool.and_self,hT.1]
    exact auW hc a x (alb _ _ _ _ rfl) (by rw [ani _ _ _ _ (by decide)]) (colK (sll a) x) x.F.A
  obtain ⟨p,q,e⟩:=len2 hl
  obtain ⟨v,hv,hT⟩:=ih p (by rw [e];simp)
  obtain ⟨w,hw',hU⟩:=ih q (by rw [e];simp)
  rw [qR,dT (by rw [e];simp),jb,e,show idx [p,q] 0=some p from rfl,hZ,hv,hZ,ckI2 hO,hZ,qR,show IntKind.wrap .i64 ((0:Int)+1)=1 from rfl,dT (by rw [e];simp),jb,e,show idx [p,q] 1=some q from rfl,hZ,hw',hZ,ckI2 hO,hZ,qR,show IntKind.wrap .i64 ((1:Int)+1)=2 from rfl,dF (by rw [e];simp),ja]
  simp only [al0]
  have hk12:x.A≠1∧x.A≠2:=by rcases hc with h|h|h|h|h|h|h|h<;>rw [h]<;>decide
  cases ht:tyP (sll a) r (zc p) with
  |none=>
   rw [ht] at hT
   rw [show v.2=false from hT,Bool.and_false,Bool.false_and]
   exact ajU hk12 a x _
  |some t=>
   rw [ht] at hT
   cases hu:tyP (sll a) r (zc q) with
   |none=>
    rw [hu] at hU
    rw [show w.2=false from hU,Bool.and_false]
    exact ajU hk12 a x _
   |some u=>
    rw [hu] at hU
    rw [hT.2,hU.2,Bool.and_self,Bool.and_self,hT.1,hU.1]
    exact avz hc a x (by rw [ani _ _ _ _ (by decide)];exact alb _ _ _ _ rfl) (alb _ _ _ _ rfl) (colK (sll a) x) x.F.A
noncomputable def qm (a:List zg) (x:zf):Int×Int:=bif !qO x then (0,2) else bif !refB a 24 x then (0,40) else match tyP a 24 x with
 |none=>(0,50)
 |some t=>(t,0)
theorem ag6 {x:zf}(hw:Zt x) (a:Option jo) {n:Nat}(hn:2000200≤n):aa8 n x a=some (qm (sll a) x):=by
 obtain ⟨n,rfl⟩:=hX n 3
 unfold aa8 qm
 rw [zq,afQ hw hO,hZ]
 cases hf:qO x with
 |false=>rfl
 |true=>
 rw [Bool.not_true,ja,ja]
 obtain ⟨c,hc,_⟩:=aj1 hf
 have hr:=as5 a 24 x c hc hw n n hO hO
 have hg:Qb (n+2) x.A x.C x.M x.F.A x.F.K x.F.I x.F.N x.B a 0=some (bif !refB (sll a) 24 x then ((0,40):Int×Int) else match tyP (sll a) 24 x with|none=>(0,50)|some t=>(t,0)):=by
  unfold Qb ago
  rw [zq,zq,show ak3 n _ a=_ from hr]
  cases hb:refB (sll a) 24 x with
  |false=>rfl
  |true=>
   rw [hZ]
   show ((((aha n x a).bind _).bind _))=_
   rw [show aha n x a=_ from arj a 24 x c hc hw hb n n hO hO,hZ]
   cases tyP (sll a) 24 x<;>rfl
 rw [hg,hZ]
 cases refB (sll a) 24 x with
 |false=>rfl
 |true=>
  cases tyP (sll a) 24 x with
  |none=>rfl
  |some t=>rfl
theorem ai3 {x:zf}(hw:Zt x) (a:Option jo) {n:Nat}(hn:2000200≤n):aaN n x a=some (qm (sll a) x):=by
 obtain ⟨n,rfl⟩:=hX n 1
 unfold aaN qm
 rw [zq,aff hw hO,hZ]
 cases hf:qO x with
 |false=>rfl
 |true=>
 rw [Bool.not_true,ja,ja]
 obtain ⟨c,hc,_⟩:=aj1 hf
 rw [show ajN n x a=_ from apA a 24 x c hc hw n n hO hO,hZ]
 cases hb:refB (sll a) 24 x with
 |false=>rfl
 |true=>
  rw [Bool.not_true,ja,ja]
  obtain ⟨v,hv,hT⟩:=anx a 24 x c hc hw hb n n hO hO
  rw [show ah0 n x a=some v from hv,hZ]
  cases ht:tyP (sll a) 24 x with
  |none=>rw [ht] at hT;rw [show v.2=false from hT];rfl
  |some t=>rw [ht] at hT;rw [hT.2,hT.1];rfl
def fN {α:Type}(p:α→Bool):List α→Option Nat
 |[]=>none
 |x::r=>bif p x then some 0 else (fN p r).map (·+1)
theorem as6 {α:Type}(p:α→Bool) (z:α):∀ (l:List α),fN p (l++[z])=match fN p l with|some j=>some j|none=>bif p z then some l.length else none
 |[]=>by
  show (bif p z then some 0 else (fN p []).map (·+1))=_
  cases p z<;>rfl
 |x::l=>by
  rw [List.cons_append,fN,fN]
  cases p x with
  |true=>rfl
  |false=>
   rw [ja,ja,as6 p z l]
   cases fN p l with
   |some j=>rfl
   |none=>cases p z<;>rfl
theorem atx {α:Type}(p:α→Bool):∀ (l:List α),(fN p l=none∧l.find? p=none)∨∃ j t,fN p l=some j∧j<l.length∧idx l (j:Int)=some t∧l.find? p=some t
 |[]=>.inl ⟨rfl,rfl⟩
 |x::l=>by
  rw [fN,List.find?_cons]
  cases hp:p x with
  |true=>exact .inr ⟨0,x,rfl,by simp,rfl,rfl⟩
  |false=>
   rcases atx p l with ⟨h1,h2⟩|⟨j,t,h1,h2,h3,h4⟩
   ·exact .inl ⟨by rw [h1];rfl,h2⟩
   refine .inr ⟨j+1,t,by rw [h1];rfl,by simp;omega,?_,h4⟩
   rw [aaY] at h3 ⊢
   simpa using h3
theorem awj {i:Nat}(h:i<1000000000):IntKind.wrap .i64 ((i:Int)-1)=(i:Int)-1:=ab4 hO hO
theorem ajb {F:Nat→Int→Int→Option (Option jo×Int)}{all:List zg}{name:ByteArray}{K:Int→Option (Option jo×Int)}(hall:all.length≤1048576)
  (hF:∀ (m:Nat) (acc:Int) (i:Nat) (t:zg),idx all (i:Int)=some t→F (m+1) acc (i:Int)=bif named name t then F m (i:Int) (IntKind.wrap .i64 ((i:Int)-1)) else F m acc (IntKind.wrap .i64 ((i:Int)-1)))
  (hE:∀ (m:Nat) (acc:Int),F (m+1) acc (-1)=K acc):
  ∀ (i m:Nat) (acc:Int),i≤all.length→i<m→F m acc ((i:Int)-1)=K (match fN (named name) (all.take i) with|some j=>(j:Int)|none=>acc)
 |0,m,acc,hi,hm=>by
  obtain ⟨m,rfl⟩:=hX m 1
  exact hE m acc
 |i+1,m,acc,hi,hm=>by
  obtain ⟨m,rfl⟩:=hX m 1
  have hlt:i<all.length:=by omega
  have hix:idx all (i:Int)=some all[i]:=ZB hlt rfl
  rw [show ((i+1:Nat):Int)-1=(i:Int) by omega,hF m acc i _ hix,awj hO]
  have htk:all.take (i+1)=all.take i++[all[i]]:=by rw [List.take_add_one,List.getElem?_eq_getElem hlt];rfl
  have hln:(all.take i).length=i:=by rw [List.length_take];omega
  rw [htk,as6]
  cases hp:named name all[i] with
  |true=>
   rw [jb,ajb hall hF hE i m (i:Int) hO hO,hln]
   cases fN (named name) (all.take i)<;>rfl
  |false=>
   rw [ja,ajb hall hF hE i m acc hO hO]
   cases fN (named name) (all.take i)<;>rfl
def stT (s:Option jo) (t:List zg):Option jo:=if t=[] then s else some (sll s++t)
theorem avs {all:List zg}{x:ByteArray}{t:zg}(h:all.find? (named x)=some t):(⟨x,t.R⟩:zg)=t:=by
 have:=List.find?_some h
 unfold named at this
 rw [aqh] at this
 rw [←this]
theorem apf {n:Nat}{q:zr}{a:Option jo}{K:Option jo→Option (Option jo×Int)}(hn:1048580≤n) (ha:(sll a).length≤1048576) (hr:(sll q.O).length≤12):
  ∀ (l p:List ByteArray) (m:Nat) (s:Option jo),sll q.O=p++l→l.length<m→(sll s).length+l.length≤100→ZT n q a K m s (p.length:Int)=match abj (sll a) l with|none=>some (none,40)|some t=>K (stT s t)
 |[],p,m,s,he,hm,hs=>by
  obtain ⟨m,rfl⟩:=hX m 1
  cases s with
  |none=>rw [ZT,dF (by rw [he];simp),ja];rfl
  |some s=>rw [ZT,dF (by rw [he];simp),ja];rfl
 |x::l,p,m,s,he,hm,hs=>by
  obtain ⟨m,rfl⟩:=hX m 1
  rw [List.length_cons] at hm hs
  have hlen:(sll q.O).length=p.length+(l.length+1):=by rw [he];simp
  have hix:idx (sll q.O) (p.length:Int)=some x:=by rw [he,aaY];simp
  have ih:=apf (K:=K) hn ha hr l (p++[x]) m
  have hst:IntKind.wrap .i64 (((sll a).length:Int)-1)=((sll a).length:Int)-1:=awj hO
  have fin:∀ (s':Option jo) (t:zg),(sll a).find? (named x)=some t→sll s'=sll s++[t]→s'≠none→ZT n q a K m s' (IntKind.wrap .i64 ((p.length:Int)+1))=match abj (sll a) (x::l) with|none=>some (none,40)|some t=>K (stT s t):=fun s' t h4 hs' hn'=>by
   rw [abj,h4]
   rw [abE hO,show p.length+1=(p++[x]).length by simp,ih s' (by rw [he];simp) hO (by rw [hs',List.length_append,List.length_singleton];omega)]
   cases abj (sll a) l with
   |none=>rfl
   |some t'=>
    simp only
    rw [avs h4]
    congr 1
    unfold stT
    rw [show (if t::t'=[] then s else some (sll s++t::t'))=some (sll s++t::t') from if_neg (by simp)]
    by_cases h0:t'=[]
    ·rw [if_pos h0]
     cases s' with
     |none=>exact absurd rfl hn'
     |some s'=>rw [Q8] at hs';rw [hs',h0]
    rw [if_neg h0,hs',List.append_assoc];rfl
  rcases atx (named x) (sll a) with ⟨h1,h2⟩|⟨j,t,h1,h2,h3,h4⟩
  ·rw [abj,h2]
   cases s with
   |none=>
    rw [ZT,dT hO,jb]
    simp only [zB]
    rw [hst,ajb (F:=fun m acc i=>qo n q a (p.length:Int) _ m acc i) (name:=x) ha (fun m acc i t ht=>by
     rw [qo,dT hO,jb,ht,hZ,hix,hZ];rfl) (fun m acc=>by rw [qo,dF hO,ja]) (sll a).length n (-1) (Nat.le_refl _) hO,List.take_of_length_le (Nat.le_refl _),h1]
    rfl
   |some s=>
    rw [ZT,dT hO,jb]
    simp only [zB]
    rw [hst,ajb (F:=fun m acc i=>qe n q a (p.length:Int) _ m acc i) (name:=x) ha (fun m acc i t ht=>by
     rw [qe,dT hO,jb,ht,hZ,hix,hZ];rfl) (fun m acc=>by rw [qe,dF hO,ja]) (sll a).length n (-1) (Nat.le_refl _) hO,List.take_of_length_le (Nat.le_refl _),h1]
    rfl
  cases s with
  |none=>
   rw [ZT,dT hO,jb]
   simp only [zB]
   rw [hst,ajb (F:=fun m acc i=>qo n q a (p.length:Int) _ m acc i) (name:=x) ha (fun m acc i t ht=>by
    rw [qo,dT hO,jb,ht,hZ,hix,hZ];rfl) (fun m acc=>by rw [qo,dF hO,ja]) (sll a).length n (-1) (Nat.le_refl _) hO,List.take_of_length_le (Nat.le_refl _),h1]
   simp only
   rw [dF hO,ja,h3,hZ,qF (by simp) (by decide),hZ]
   exact fin (some [t]) t h4 rfl (by simp)
  |some s=>
   rw [ZT,dT hO,jb]
   simp only [zB]
   rw [hst,ajb (F:=fun m acc i=>qe n q a (p.length:Int) _ m acc i) (name:=x) ha (fun m acc i t ht=>by
    rw [qe,dT hO,jb,ht,hZ,hix,hZ];rfl) (fun m acc=>by rw [qe,dF hO,ja]) (sll a).length n (-1) (Nat.le_refl _) hO,List.take_of_length_le (Nat.le_refl _),h1]
   simp only
   rw [Q8] at hs
   rw [dF hO,ja,h3,hZ,qF (by rw [List.length_append];simp only [List.length_cons,List.length_nil];omega) (by decide),hZ]
   exact fin (some (s++[t])) t h4 rfl (by simp)
theorem aq2 {q:zr}{a:Option jo}(ha:(sll a).length≤1048576) {n:Nat}(hn:2000030≤n):adV n q a=some (adX (sll a) (sll q.O)):=by
 obtain ⟨n,rfl⟩:=hX n 1
 unfold adV adX
 rw [zq]
 by_cases h1:(sll q.O).length>12
 ·rw [dT hO,jb,if_pos h1]
 rw [dF hO,ja,if_neg h1]
 by_cases h2:(sll q.O).length=0
 ·rw [show (((sll q.O).length:Int)==0)=true by simp [h2],jb,if_pos h2]
 rw [show (((sll q.O).length:Int)==0)=false by simpa using h2,ja,if_neg h2]
 simp only [zB]
 refine Eq.trans (apf hO ha hO (sll q.O) [] n none rfl hO (by show 0+_≤_;omega)) ?_
 cases ht:abj (sll a) (sll q.O) with
 |none=>rfl
 |some l=>
  have:=ak7 ht
  simp only
  unfold stT
  rw [if_neg (by intro h;rw [h] at this;simp at this;omega)]
  rfl
def aps (g:zI):Bool:=decide (g.A<1)||decide (g.A>4)
def badO (w:Int) (k:Zr):Bool:=decide (k.E<0)||decide (k.E≥w)
def aeJ (q:zr):Bool:=
 !((((decide (((sll q.H).length:Int)>40))||(decide (((sll q.E).length:Int)>20)))||(decide (((sll q.D).length:Int)>10)))||(decide (((sll q.G).length:Int)>10))) &&
 (!(((((sll q.E).length:Int)+((sll q.D).length:Int))==0)||((!q.P)&&(decide (((sll q.D).length:Int)>0))))&&((sll q.D).all (fun g=>!aps g)&&(sll q.G).all (fun k=>!badO (((sll q.E).length:Int)+((sll q.D).length:Int)) k)))
theorem arc {q:zr}(h1:(sll q.E).length≤1048576) (h2:(sll q.D).length≤1048576) (h3:(sll q.G).length≤1048576) {n:Nat}(hn:2000030≤n):aeg n q=some (aeJ q):=by
 obtain ⟨n,rfl⟩:=hX n 1
 unfold aeg aeJ
 rw [zq,ab4 hO hO]
 cases ((((decide (((sll q.H).length:Int)>40))||(decide (((sll q.E).length:Int)>20)))||(decide (((sll q.D).length:Int)>10)))||(decide (((sll q.G).length:Int)>10))) with
 |true=>rfl
 |false=>
 rw [ja,Bool.not_false,jk]
 cases (((((sll q.E).length:Int)+((sll q.D).length:Int))==0)||((!q.P)&&(decide (((sll q.D).length:Int)>0)))) with
 |true=>rfl
 |false=>
 rw [ja,Bool.not_false,jk]
 simp only [zB]
 rw [aez (F:=fun m i=>Q6 n q (fun _=>qU n q (fun _=>some true) n 0) m i) (l:=sll q.D) (p:=fun g=>!aps g) (kk:=qU n q (fun _=>some true) n 0) (e:=some false) h2 hO (fun m i g hi e=>by
  rw [Q6,dT hO,jb,ZB hi e,hZ]
  unfold aps
  cases (decide (g.A<1)||decide (g.A>4))<;>rfl) (fun m=>by rw [Q6,dF hO,ja])]
 cases (sll q.D).all (fun g=>!aps g) with
 |false=>rfl
 |true=>
 rw [jb,jk]
 rw [aez (F:=fun m i=>qU n q (fun _=>some true) m i) (l:=sll q.G) (p:=fun k=>!badO (((sll q.E).length:Int)+((sll q.D).length:Int)) k) (kk:=some true) (e:=some false) h3 hO (fun m i g hi e=>by
  rw [qU,dT hO,jb,ZB hi e,hZ,ab4 hO hO]
  unfold badO
  cases (decide (g.E<0)||decide (g.E≥((sll q.E).length:Int)+((sll q.D).length:Int)))<;>rfl) (fun m=>by rw [qU,dF hO,ja])]
 cases (sll q.G).all (fun k=>!badO (((sll q.E).length:Int)+((sll q.D).length:Int)) k)<;>rfl
theorem arJ (q:zr) (h1:(sll q.E).length≤1048576) (h2:(sll q.D).length≤1048576) {n:Nat}(hn:1≤n):adK n q=some (((sll q.E).length:Int)+((sll q.D).length:Int)):=by
 obtain ⟨n,rfl⟩:=hX n 1
 unfold adK
 rw [zq,ab4 hO hO]
theorem apm {α:Type}{F:Nat→Int→Option Int}{l:List α}{p:α→Bool}(hl:l.length≤1048576) {m:Nat}(hm:2000000≤m)
 (hF:∀ (m i:Nat) (x:α),(hi:i<l.length)→l[i]=x→F (m+1) (i:Int)=bif p x then some (i:Int) else F m (IntKind.wrap .i64 ((i:Int)+1))) (hE:∀ (m:Nat),F (m+1) (l.length:Int)=some (-1)):
 ((F m 0).bind fun x1=>some (decide (x1≥0)))=some (l.any p):=akr hl hm hF hE
theorem asp {q:zr}(h1:(sll q.E).length≤1048576) (h2:(sll q.D).length≤1048576) (h3:(sll q.G).length≤1048576) {n:Nat}(hn:2000040≤n):aea n q=some (aeJ q):=by
 obtain ⟨n,rfl⟩:=hX n 4
 unfold aea aeJ
 rw [zq,arJ q h1 h2 hO]
 cases ((((decide (((sll q.H).length:Int)>40))||(decide (((sll q.E).length:Int)>20)))||(decide (((sll q.D).length:Int)>10)))||(decide (((sll q.G).length:Int)>10))) with
 |true=>rfl
 |false=>
 rw [ja,Bool.not_false,jk]
 have ea:Zx (n+3) q.D=some ((sll q.D).any aps):=by
  unfold Zx qv
  rw [zq,zq]
  simp only [zB]
  exact apm (F:=fun m i=>Zh (n+1) q.D (fun _=>some (-1)) m i) h2 hO (fun m i g hi e=>by
   rw [Zh,dT hO,jb,ZB hi e,hZ,ael,zq,hZ];rfl) (fun m=>by rw [Zh,dF hO,ja])
 have ek:Zw (n+3) q.G q.O q.H q.P q.E q.D q.G=some ((sll q.G).any (badO (((sll q.E).length:Int)+((sll q.D).length:Int)))):=by
  unfold Zw qt
  rw [zq,zq]
  simp only [zB]
  exact apm (F:=fun m i=>Zj (n+1) q.G q.O q.H q.P q.E q.D q.G (fun _=>some (-1)) m i) h3 hO (fun m i g hi e=>by
   rw [Zj,dT hO,jb,ZB hi e,hZ,adN,zq,arJ ⟨q.O,q.H,q.P,q.E,q.D,q.G⟩ h1 h2 hO]
   unfold badO
   cases decide (g.E<0)<;>rfl) (fun m=>by rw [Zj,dF hO,ja])
 rw [show Zx (n+3) q.D=_ from ea,show Zw (n+3) q.G q.O q.H q.P q.E q.D q.G=_ from ek]
 simp only [hZ]
 rw [←List.not_any_eq_all_not,←List.not_any_eq_all_not]
 have e0:(((sll q.E).length:Int)==0)=decide ((sll q.E).length=0):=by rw [Bool.eq_iff_iff];simp
 have e1:((((sll q.E).length:Int)+((sll q.D).length:Int))==0)=(decide ((sll q.E).length=0)&&decide ((sll q.D).length=0)):=by
  rw [Bool.eq_iff_iff,beq_iff_eq,jj,decide_eq_true_eq,decide_eq_true_eq];omega
 have e2:decide (((sll q.D).length:Int)>0)=!decide ((sll q.D).length=0):=by
  rw [Bool.eq_iff_iff,Bool.not_eq_true',decide_eq_true_eq,decide_eq_false_iff_not];omega
 rw [e0,e1,e2]
 cases q.P<;>cases decide ((sll q.E).length=0)<;>cases decide ((sll q.D).length=0)<;>cases (sll q.D).any aps<;>cases (sll q.G).any (badO (((sll q.E).length:Int)+((sll q.D).length:Int)))<;>rfl
end Go.Pl
