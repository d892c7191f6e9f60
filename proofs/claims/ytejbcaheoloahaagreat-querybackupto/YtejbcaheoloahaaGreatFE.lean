import Derived.Test.YtejbcaheoloahaaGreatFC
set_option linter.all false
set_option maxRecDepth 100000
namespace Go.Pl
open Go Go.Ab
theorem ag0 {α R:Type}{F:Nat→List Int→Int→Option R}{l:List α}{A:List Int→α→Option (List Int)}{f:α→List Int}{K:List Int→Option R}{B:Nat}(hl:l.length≤1048576)
  (hF:∀ (m:Nat) (s:List Int) (i:Nat) (x:α) (hi:i<l.length),l[i]=x→F (m+1) s (i:Int)=(A s x).bind fun s'=>F m s' (IntKind.wrap .i64 ((i:Int)+1)))
  (hE:∀ (m:Nat) (s:List Int),F (m+1) s (l.length:Int)=K s)
  (hA:∀ (s:List Int) (x:α),x∈l→s.length+(f x).length≤B→A s x=some (s++f x)) {m:Nat}(hm:1048577≤m) (s:List Int) (hs:s.length+(l.flatMap f).length≤B):F m s 0=K (s++l.flatMap f):=by
 have key:∀ (q:List α) (i m:Nat) (s:List Int),l.drop i=q→i≤l.length→l.length-i<m→s.length+(q.flatMap f).length≤B→F m s (i:Int)=K (s++q.flatMap f):=by
  intro q
  induction q with
  |nil=>
   intro i m s hd hi hm hs
   obtain ⟨m,rfl⟩:=ja m 1
   have:i=l.length:=by
    have:=congrArg List.length hd
    simp at this;omega
   subst this
   rw [hE];simp
  |cons x q ih=>
   intro i m s hd hi hm hs
   obtain ⟨m,rfl⟩:=ja m 1
   have hlt:i<l.length:=by
    have:=congrArg List.length hd
    simp at this;omega
   rw [List.drop_eq_getElem_cons hlt] at hd
   injection hd with h1 h2
   rw [List.flatMap_cons,List.length_append] at hs
   rw [hF m s i x hlt h1,hA s x (by rw [←h1];exact List.getElem_mem hlt) hZ,jc,adZ hZ,ih (i+1) m _ h2 hZ hZ (by rw [List.length_append];omega),List.flatMap_cons,List.append_assoc]
 exact key l 0 m s rfl hZ hZ hs
def adK (x:zk):List Int:=if x.A=1 then Ql x.K.toNat++Ql x.M.toNat else if x.A=2 then putV (vP x.D) else []
noncomputable def putE:Nat→zk→List Int
 |0,_=>[]
 |d+1,x=>x.A::(adK x++(sll x.I).flatMap fun z=>putE d (zh z))
theorem amW {α:Type}{f:α→Option Nat}{z:α}{l:List α}{c:Nat}(h:sumO f (z::l)=some c):∃ a b,f z=some a∧sumO f l=some b∧c=a+b:=by
 simp only [sumO] at h
 split at h
 ·rename_i a b h1 h2
  exact ⟨a,b,h1,h2,(Option.some.inj h).symm⟩
 cases h
theorem anx {r:Nat}{x:zk}{c:Nat}(h:frmE (r+1) x=some c):agW x=true∧∃ a,sumO (fun z=>frmE r (zh z)) (sll x.I)=some a∧c=a+1:=by
 simp only [frmE] at h
 cases hn:agW x with
 |false=>rw [hn] at h;cases h
 |true=>
  rw [hn,je,jk] at h
  obtain ⟨a,h1,h2⟩:=h
  exact ⟨rfl,a,h1,h2.symm⟩
theorem abR {x:zk}(h:agW x=true):aa3 x=true∧afu x.A=((sll x.I).length:Int):=by
 unfold agW at h
 rw [jm,beq_iff_eq] at h
 exact ⟨h.2,h.1⟩
theorem aa8 {x:zk}(h:aa3 x=true):abr x.D=true∧(x.A=2∨x.D.A=0):=by
 unfold aa3 at h
 simp only [jm,Bool.or_eq_true,beq_iff_eq] at h
 exact ⟨h.1.2,h.2⟩
theorem ajq {x:zk}(h:aa3 x=true):(0≤x.K∧x.K≤31)∧(0≤x.M∧x.M≤31):=by
 unfold aa3 inE at h
 simp only [jm,decide_eq_true_eq] at h
 exact ⟨h.1.1.1.2,h.1.1.2⟩
theorem aoa {x:zk}(h:aa3 x=true):x.A=1∨(x.K=0∧x.M=0):=by
 unfold aa3 at h
 simp only [jm,Bool.not_eq_true',Bool.and_eq_false_iff,Bool.or_eq_false_iff,bne_eq_false_iff_eq] at h
 exact h.1.1.1.1
theorem ahc {k:Int}{l:Nat}(h:afu k=(l:Int)):1≤k∧k≤13∧l≤2:=by
 rcases ajV h with ⟨h1,h2⟩|⟨h1,h2⟩|⟨h1,h2⟩<;>omega
theorem anW {x:zk}(hw:ZN x.D) (h:aa3 x=true):(adK x).length≤80:=by
 unfold adK
 obtain ⟨h1,h2⟩:=ajq h
 split
 ·have:=qa x.K.toNat 9 hZ
  have:=qa x.M.toNat 9 hZ
  rw [List.length_append];omega
 split
 ·exact aoE (alv hw (aa8 h).1)
 simp
theorem aop {x:zk}(hw:ZN x.D) (h:aa3 x=true):Bytes (adK x):=by
 unfold adK
 split
 ·exact (aa4 _).app (aa4 _)
 split
 ·exact apn (alv hw (aa8 h).1)
 intro y hy;cases hy
theorem alO {α:Type}{f:α→List Int}{g:α→Option Nat}:∀ {l:List α}{c:Nat},sumO g l=some c→(∀ z a,z∈l→g z=some a→(f z).length≤81*a)→(l.flatMap f).length≤81*c
 |[],c,h,_=>by simp
 |z::l,c,h,hh=>by
  obtain ⟨a,b,h1,h2,rfl⟩:=amW h
  have:=hh z a (by simp) h1
  have:=alO h2 fun y a hy=>hh y a (by simp [hy])
  rw [List.flatMap_cons,List.length_append];omega
theorem ag4:∀ (r:Nat) (x:zk) (c:Nat),frmE r x=some c→zQ x→(putE r x).length≤81*c
 |0,x,c,h,_=>by cases h
 |r+1,x,c,h,hw=>by
  obtain ⟨hn,a,hs,rfl⟩:=anx h
  have h1:=anW (acY hw) (abR hn).1
  have h2:=alO (f:=fun z=>putE r (zh z)) hs fun z a hz ha=>ag4 r _ a ha (ahe hw hz)
  rw [putE,List.length_cons,List.length_append];omega
theorem akZ:∀ (r:Nat) (x:zk) (c:Nat),frmE r x=some c→zQ x→Bytes (putE r x)
 |0,x,c,h,_=>by cases h
 |r+1,x,c,h,hw=>by
  obtain ⟨hn,hk⟩:=afr h
  have hr:=ahc (abR hn).2
  intro y hy
  rw [putE,List.mem_cons,List.mem_append] at hy
  rcases hy with rfl|hy|hy
  ·omega
  ·exact aop (acY hw) (abR hn).1 y hy
  obtain ⟨z,hz,hy⟩:=List.mem_flatMap.1 hy
  obtain ⟨a,ha,_⟩:=hk z hz
  exact akZ r _ a ha (ahe hw hz) y hy
theorem alf:∀ (r:Nat) (x:zk) (c:Nat),frmE r x=some c→zQ x→∀ (m n:Nat) (l:List Int),r≤m→2000010+r≤n→n<100000000→l.length+(putE r x).length≤600000000→aax m n l x=some (l++putE r x)
 |0,x,c,h,_,_,_,_,_,_,_,_=>by cases h
 |r+1,x,c,h,hw,m,n,l,hm,hn,hn2,hl=>by
  obtain ⟨m,rfl⟩:∃ k,m=k+1:=⟨m-1,hZ⟩
  obtain ⟨n,rfl⟩:∃ k,n=k+1:=⟨n-1,hZ⟩
  obtain ⟨hnd,hk⟩:=afr h
  obtain ⟨hf,hkk⟩:=abR hnd
  have hr:=ahc hkk
  obtain ⟨hi1,hi2⟩:=ajq hf
  rw [putE,List.length_cons,List.length_append] at hl
  show acW (aax m) (n+1) l x=_
  unfold acW
  rw [zx,qy (by decide) (by simp only [List.length_append,List.length_cons,List.length_nil];omega),jc,ald hZ hZ]
  have tail:∀ (s:List Int),s.length+((sll x.I).flatMap fun z=>putE r (zh z)).length≤600000000→zE (fun k16=>QU n (aax m) x k16 n s 0) (fun (y9:(List Int))=>some y9)=some (s++(sll x.I).flatMap fun z=>putE r (zh z)):=fun s hs=>by
   unfold zE
   exact ag0 (l:=sll x.I) (f:=fun z=>putE r (zh z)) (A:=fun s z=>aax m n s (zh z)) (F:=fun m' s i=>QU n (aax m) x (fun y=>some y) m' s i) (K:=fun y=>some y) hZ
    (fun m' s i z hi e=>by
     rw [QU,dT hZ,je,Z7 hi e,jc])
    (fun m' s=>by rw [QU,dF hZ,jd])
    (fun s z hz hb=>by
     obtain ⟨a,ha,_⟩:=hk z hz
     exact alf r _ a ha (ahe hw hz) m n s hZ hZ hZ hb) hZ s hs
  simp only [zE] at tail ⊢
  by_cases h1:x.A=1
  ·have hh:adK x=Ql x.K.toNat++Ql x.M.toNat:=by unfold adK;rw [if_pos h1]
   have:=qa x.K.toNat 9 hZ
   have:=qa x.M.toNat 9 hZ
   rw [hh] at hl
   rw [List.length_append] at hl
   rw [beqT h1,je,acG hZ hZ,acG hZ hZ,show x.K=((x.K.toNat:Nat):Int) by omega,show x.M=((x.M.toNat:Nat):Int) by omega,QR hZ (by simp only [List.length_append,List.length_cons,List.length_nil];omega) hZ hZ,jc,QR hZ (by simp only [List.length_append,List.length_cons,List.length_nil];omega) hZ hZ,jc,tail _ (by simp only [List.length_append,List.length_cons,List.length_nil];omega),putE,hh]
   simp
  rw [beqF h1,jd]
  by_cases h2:x.A=2
  ·have hh:adK x=putV (vP x.D):=by unfold adK;rw [if_neg h1,if_pos h2]
   rw [hh] at hl
   rw [beqT h2,je,akY (acY hw) (aa8 hf).1 (by simp only [List.length_append,List.length_cons,List.length_nil];omega) hZ hZ,jc,tail _ (by simp only [List.length_append,List.length_cons,List.length_nil];omega),putE,hh]
   simp
  have hh:adK x=[]:=by unfold adK;rw [if_neg h1,if_neg h2]
  rw [hh] at hl
  rw [beqF h2,jd,tail _ (by simp only [List.length_append,List.length_cons,List.length_nil] at hl ⊢;omega),putE,hh]
  simp
theorem ako {x:zk}(h:qZ x=true) (hw:zQ x) {n:Nat}(hn:2000100≤n) (hn2:n<100000000) {l:List Int}(hl:l.length≤500000000):aeH n l x=some (l++putE 24 x):=by
 obtain ⟨c,h1,h2⟩:=adm h
 have:=ag4 24 x c h1 hw
 exact alf 24 x c h1 hw n n l hZ hZ hn2 hZ
theorem aeE {κ ρ:Type}{A:κ→Option ρ}{k:κ}{Q:Option ρ→Prop}(P:κ→Prop) (hk:P k) (hA:∀ k',P k'→Q (A k')):Q (zE A k):=hA k hk
def oapG {α:Type}(acc:Option (List α)) (l:List α):Option (List α):=if l=[] then acc else some (sll acc++l)
theorem aoZ {α:Type}(acc:Option (List α)):oapG acc []=acc:=rfl
theorem ani {α:Type}(acc:Option (List α)) (x:α) (l:List α):oapG (some (sll acc++[x])) l=oapG acc (x::l):=by
 unfold oapG
 rw [if_neg (List.cons_ne_nil _ _)]
 split
 ·rename_i h;subst h;rfl
 show some ((sll acc++[x])++l)=_
 simp
theorem afs {α β:Type}(f:α→β) (l:List α):oapG none (l.map f)=mapO f l:=by
 unfold oapG mapO
 cases l<;>simp [sll]
noncomputable def canE:Nat→zk→zk
 |0,x=>x
 |d+1,x=>⟨x.A,x.K,x.M,vP x.D,mapO (fun z=>zy (canE d (zh z))) (sll x.I)⟩
abbrev atc:=(Int×Bool×(Option (List Int))×Int×Int) ⊕ (Int×Bool×(Option (List Int))×Int×Int×Int×Int×Int×Int×Nat×ByteArray) ⊕ (Int×Bool×(Option (List Int))×Int×Int×Int×Int×Int×Int×Nat×ByteArray×jq)
def resX (left:Int) (b:Option (List Int)) (y:zk):atc:=match y.I with
 |none=>.inr (.inl (left,true,b,0,y.A,y.K,y.M,y.D.A,y.D.J,y.D.O,y.D.L))
 |some l=>.inr (.inr (left,true,b,0,y.A,y.K,y.M,y.D.A,y.D.J,y.D.O,y.D.L,l))
theorem QE {b:Option (List Int)}{l rest:List Int}(hb:Bytes (sll b)) (h:sll b=l++rest) {b':Option (List Int)}(h':sll b'=rest):Bytes (sll b'):=fun x hx=>hb x (by rw [h,←h'];exact List.mem_append_right _ hx)
theorem aew {b:Option (List Int)}{v most:Nat}{rest:List Int}(hv:v≤most) (hm:most<2^63) (hb:Bytes (sll b)) (hs:sll b=Ql v++rest) {n:Nat}(hn:13≤n):∃ b',sll b'=rest∧Zu n ⟨true,b,0⟩ (most:Int)=some (true,b',0,(v:Int)):=by
 obtain ⟨b1,e1,v1,h1,h2⟩:=anE (most:=(most:Int)) hb hn
 rw [hs,anG hZ] at h2
 unfold aoi at h2
 simp only at h2
 rw [if_pos hZ] at h2
 obtain ⟨g1,rfl,rfl⟩:=h2
 exact ⟨b1,g1,h1⟩
theorem as3 (v:zp) {n:Nat}(hn:1≤n):aht n v 0=some (.inr v):=by
 obtain ⟨n,rfl⟩:∃ k,n=k+1:=⟨n-1,hZ⟩
 rfl
theorem alc {x:zk}(hw:ZN x.D) (h:aa3 x=true) (h2:x.A≠2):vP x.D=⟨0,0,0,E0⟩:=by
 obtain ⟨h3,h4⟩:=aa8 h
 have h5:=h4.resolve_left h2
 rcases ae3 hw h3 with e|⟨i,hi,e⟩|⟨i,hi,e⟩|⟨f,hf,e⟩|⟨t,ht,e⟩<;>rw [e] at h5<;>first|(rw [e,ab7 (by rw [←e];exact h3) rfl];done)|(simp at h5;done)
theorem am7 {r m n:Nat}{depth:Int}{N:Nat}{K:Int→Bool→Option (List Int)→Int→Option jq→Option atc}(hN:N≤2) (hd:depth+1<1000) (hd0:0≤depth) {rest:List Int}
  (ih:∀ (x:zk) (c:Nat),frmE r x=some c→zQ x→∀ (left:Int) (b:Option (List Int)) (rest:List Int),(c:Int)≤left→left≤400→Bytes (sll b)→sll b=putE r x++rest→∃ b',sll b'=rest∧qY m n left true b 0 (depth+1)=some (resX (left-c) b' (canE r x))):
  ∀ (ks:List EX) (c:Nat),sumO (fun z=>frmE r (zh z)) ks=some c→(∀ z,z∈ks→zQ (zh z))→∀ (left:Int) (i:Nat) (b:Option (List Int)) (acc:Option jq) (m':Nat),i+ks.length=N→(sll acc).length≤i→(c:Int)≤left→left≤400→Bytes (sll b)→sll b=(ks.flatMap fun z=>putE r (zh z))++rest→
   ∃ b',sll b'=rest∧Zq n (qY m) depth (N:Int) K (m'+ks.length+1) left true b 0 acc (i:Int)=K (left-c) true b' 0 (oapG acc (ks.map fun z=>zy (canE r (zh z))))
 |[],c,hc,_,left,i,b,acc,m',hi,ha,hl,hl4,hb,hs=>by
  have:c=0:=(Option.some.inj hc).symm
  subst this
  rw [List.length_nil] at hi
  refine ⟨b,by simpa using hs,?_⟩
  cases acc<;>rw [Zq,dF hZ,jd,List.map_nil,aoZ]<;>simp
 |z::ks,c,hc,hw,left,i,b,acc,m',hi,ha,hl,hl4,hb,hs=>by
  obtain ⟨a,c',h1,h2,rfl⟩:=amW hc
  rw [List.length_cons] at hi
  rw [List.flatMap_cons,List.append_assoc] at hs
  obtain ⟨b1,g1,g2⟩:=ih _ a h1 (hw z (by simp)) left b _ hZ hl4 hb hs
  obtain ⟨b',g3,g4⟩:=am7 (K:=K) hN hd hd0 ih ks c' h2 (fun y hy=>hw y (by simp [hy])) (left-a) (i+1) b1 (some (sll acc++[zy (canE r (zh z))])) m' hZ (by show (sll acc++[_]).length≤_;rw [List.length_append,List.length_singleton];omega) hZ hZ (QE hb hs g1) g1
  refine ⟨b',g3,?_⟩
  rw [List.map_cons,←ani,show left-((a+c':Nat):Int)=left-(a:Int)-(c':Int) by omega,←g4,List.length_cons,show m'+(ks.length+1)+1=(m'+ks.length+1)+1 by omega]
  generalize canE r (zh z)=y at g2
  obtain ⟨k1,k2,k3,⟨v1,v2,v3,v4⟩,kk⟩:=y
  cases acc with
  |none=>
   rw [Zq,dT hZ,je,wv hZ hZ,g2,jc]
   cases kk<;>(simp only [resX];rw [qy (by decide) (by simp),jc,adZ hZ];rfl)
  |some l=>
   have ha':l.length≤i:=ha
   rw [Zq,dT hZ,je,wv hZ hZ,g2,jc]
   cases kk<;>(simp only [resX];rw [qy (by decide) (by rw [List.length_append];simp;omega),jc,adZ hZ];rfl)
theorem aku:∀ (r:Nat) (x:zk) (c:Nat),frmE r x=some c→zQ x→∀ (m n:Nat) (depth:Int),r≤m→2000050+r≤n→1≤depth→depth+r≤25→∀ (left:Int) (b:Option (List Int)) (rest:List Int),(c:Int)≤left→left≤400→Bytes (sll b)→sll b=putE r x++rest→
  ∃ b',sll b'=rest∧qY m n left true b 0 depth=some (resX (left-c) b' (canE r x))
 |0,x,c,h,_,_,_,_,_,_,_,_,_,_,_,_,_,_,_=>by cases h
 |r+1,x,c,h,hw,m,n,depth,hm,hn,hd1,hd2,left,b,rest,hl,hl4,hb,hs=>by
  obtain ⟨m,rfl⟩:∃ k,m=k+1:=⟨m-1,hZ⟩
  obtain ⟨n,rfl⟩:∃ k,n=k+1:=⟨n-1,hZ⟩
  obtain ⟨hnd,a,hsum,rfl⟩:=anx h
  obtain ⟨hf,hkk⟩:=abR hnd
  have hr:=ahc hkk
  obtain ⟨hi1,hi2⟩:=ajq hf
  rw [putE,List.cons_append,List.append_assoc] at hs
  obtain ⟨b1,g1,g2⟩:=ac6 hb hs (by omega:2000010≤n)
  have hb1:Bytes (sll b1):=QE (l:=[x.A]) hb hs g2
  show ∃ b',sll b'=rest∧aan (qY m) (n+1) left true b 0 depth=some (resX (left-((a+1:Nat):Int)) b' (canE (r+1) x))
  unfold aan
  rw [zx,g1,jc]
  dsimp only
  rw [wv (by omega:-9223372036854775808≤x.A) hZ,aiD _ hZ,jc,afQ hZ,jc,show ((0:Int)!=0)=false by decide,jd,hkk,dF (by omega:¬ (((sll x.I).length:Int)<0)),dF (by omega:¬ depth>24),wv (by omega:-9223372036854775808≤left-1) hZ,dF (by omega:¬ (left-1<0)),Bool.or_self,Bool.or_self,jd]
  refine aeE (Q:=fun o=>∃ b',sll b'=rest∧o=some (resX (left-((a+1:Nat):Int)) b' (canE (r+1) x))) (fun k=>∀ b2,Bytes (sll b2)→sll b2=((sll x.I).flatMap fun z=>putE r (zh z))++rest→∃ b',sll b'=rest∧k true b2 0 x.K x.M (vP x.D).A (vP x.D).J (vP x.D).O (vP x.D).L=some (resX (left-((a+1:Nat):Int)) b' (canE (r+1) x))) ?_ ?_
  ·intro b2 hb2 hs2
   try dsimp only
   rw [afQ hZ,jc,show ((0:Int)!=0)=false by decide,jd]
   unfold zE
   obtain ⟨m',hm'⟩:∃ m',n=m'+(sll x.I).length+1:=⟨n-(sll x.I).length-1,hZ⟩
   have:=am7 (r:=r) (m:=m) (n:=n) (depth:=depth) (N:=(sll x.I).length) (rest:=rest) (K:=fun|y27,y28,y29,y30,none=>some (.inr (.inl (y27,y28,y29,y30,x.A,x.K,x.M,(vP x.D).A,(vP x.D).J,(vP x.D).O,(vP x.D).L)))|y27,y28,y29,y30,(some y31)=>some (.inr (.inr ((y27,y28,y29,y30,x.A,x.K,x.M,(vP x.D).A,(vP x.D).J,(vP x.D).O,(vP x.D).L,y31))))) hr.2.2 hZ hZ
    (fun x c hc hw left b rest h1 h2 h3 h4=>aku r x c hc hw m n (depth+1) hZ hZ hZ hZ left b rest h1 h2 h3 h4) (sll x.I) a hsum (fun z hz=>ahe hw hz) (left-1) 0 b2 none m' hZ (by simp [sll]) hZ hZ hb2 hs2
   obtain ⟨b',g3,g4⟩:=this
   refine ⟨b',g3,?_⟩
   rw [←hm',afs] at g4
   refine Eq.trans g4 ?_
   rw [show left-1-(a:Int)=left-((a+1:Nat):Int) by omega]
   show _=some (resX _ b' ⟨x.A,x.K,x.M,vP x.D,mapO (fun z=>zy (canE r (zh z))) (sll x.I)⟩)
   generalize mapO (fun z=>zy (canE r (zh z))) (sll x.I)=o
   cases o<;>rfl
  intro k hk
  try dsimp only
  by_cases h1:x.A=1
  ·have hh:adK x=Ql x.K.toNat++Ql x.M.toNat:=by unfold adK;rw [if_pos h1]
   rw [hh,List.append_assoc] at g2
   obtain ⟨b2,q1,q2⟩:=aew (most:=31) hZ (by decide) hb1 g2 (by omega:13≤n)
   have hb2:=QE hb1 g2 q1
   obtain ⟨b3,q3,q4⟩:=aew (most:=31) hZ (by decide) hb2 q1 (by omega:13≤n)
   obtain ⟨b',p1,p2⟩:=hk b3 (QE hb2 q1 q3) q3
   refine ⟨b',p1,?_⟩
   rw [beqT h1,je,show ((31:Int))=((31:Nat):Int) from rfl,q2,jc]
   dsimp only
   rw [q4,jc]
   dsimp only
   rw [wv hZ hZ,wv hZ hZ,show ((x.K.toNat:Nat):Int)=x.K by omega,show ((x.M.toNat:Nat):Int)=x.M by omega,←p2,alc (acY hw) hf hZ]
  obtain ⟨z1,z2⟩:=(aoa hf).resolve_left h1
  by_cases h2:x.A=2
  ·have hh:adK x=putV (vP x.D):=by unfold adK;rw [if_neg h1,if_pos h2]
   rw [hh] at g2
   obtain ⟨b2,q1,q2⟩:=amF (alv (acY hw) (aa8 hf).1) hb1 g2 (by omega:2000020≤n)
   obtain ⟨b',p1,p2⟩:=hk b2 (QE hb1 g2 q2) q2
   refine ⟨b',p1,?_⟩
   rw [beqF h1,jd,beqT h2,je,q1,jc]
   dsimp only
   rw [as3 _ hZ,jc,←p2,z1,z2]
  have hh:adK x=[]:=by unfold adK;rw [if_neg h1,if_neg h2]
  rw [hh,List.nil_append] at g2
  obtain ⟨b',p1,p2⟩:=hk b1 hb1 g2
  refine ⟨b',p1,?_⟩
  rw [beqF h1,jd,beqF h2,jd,←p2,alc (acY hw) hf h2,z1,z2]
theorem asU {v:zp}(hw:ZN v) (h:abr v=true):(vP v).A=v.A:=by
 rcases ae3 hw h with e|⟨i,hi,e⟩|⟨i,hi,e⟩|⟨f,hf,e⟩|⟨t,ht,e⟩
 ·rw [e,ab7 (by rw [←e];exact h) rfl]
 ·rw [e,ab7 (by rw [←e];exact h) rfl]
 ·rw [e,ab7 (by rw [←e];exact h) rfl]
 ·rw [e,ak3 hf]
 rw [e,ab7 (by rw [←e];exact h) rfl]
theorem aoG:∀ (r:Nat) (x:zk) (c:Nat),frmE r x=some c→zQ x→∀ s,r≤s→afA s (canE r x) x=true
 |0,x,c,h,_,_,_=>by cases h
 |r+1,x,c,h,hw,s,hs=>by
  obtain ⟨s,rfl⟩:=ja s 1
  obtain ⟨hnd,hk⟩:=afr h
  have hf:=aa8 (abR hnd).1
  rw [afA,canE]
  simp only [beq_self_eq_true,jn,jm,asU (acY hw) hf.1]
  refine ⟨by unfold apZ;rw [asR (acY hw) hf.1];rfl,?_⟩
  rw [aaP]
  exact afW _ _ fun z hz=>by
   rw [ahx]
   obtain ⟨a,ha,_⟩:=hk z hz
   exact aoG r _ a ha (ahe hw hz) s hZ
theorem arB:∀ (r:Nat) (x:zk) (c:Nat),frmE r x=some c→zQ x→WX r (canE r x)
 |0,x,c,h,_=>by cases h
 |r+1,x,c,h,hw=>by
  obtain ⟨hnd,hk⟩:=afr h
  have hf:=aa8 (abR hnd).1
  refine ⟨can_W (alv (acY hw) hf.1),?_,?_⟩
  ·rw [canE,aaP,List.length_map];exact afl hw
  intro z hz
  rw [canE,aaP] at hz
  obtain ⟨y,hy,rfl⟩:=List.mem_map.1 hz
  rw [ahx]
  obtain ⟨a,ha,_⟩:=hk y hy
  exact arB r _ a ha (ahe hw hy)
theorem akl {x:zk}(h:qZ x=true) (hw:zQ x):afA 140000 (canE 24 x) x=true:=by
 obtain ⟨c,h1,_⟩:=adm h
 exact aoG 24 x c h1 hw 140000 hZ
theorem ak2 {x:zk}(h:qZ x=true) (hw:zQ x):WX 24 (canE 24 x):=by
 obtain ⟨c,h1,_⟩:=adm h
 exact arB 24 x c h1 hw
theorem ab0 {x:zk}(h:qZ x=true) (hw:zQ x):Bytes (putE 24 x)∧(putE 24 x).length≤32400:=by
 obtain ⟨c,h1,h2⟩:=adm h
 have:=ag4 24 x c h1 hw
 exact ⟨akZ 24 x c h1 hw,hZ⟩
theorem ai7 {x:zk}(h:qZ x=true) (hw:zQ x) {b:Option (List Int)}{rest:List Int}(hb:Bytes (sll b)) (hs:sll b=putE 24 x++rest) {n:Nat}(hn:2000200≤n):
  ∃ b',sll b'=rest∧aeh n ⟨true,b,0⟩=some (true,b',0,(canE 24 x).A,(canE 24 x).K,(canE 24 x).M,(canE 24 x).D.A,(canE 24 x).D.J,(canE 24 x).D.O,(canE 24 x).D.L,(canE 24 x).I,0):=by
 obtain ⟨c,h1,h2⟩:=adm h
 obtain ⟨n,rfl⟩:∃ k,n=k+3:=⟨n-3,hZ⟩
 obtain ⟨b',g1,g2⟩:=aku 24 x c h1 hw n n 1 hZ hZ hZ hZ 400 b rest hZ hZ hb hs
 refine ⟨b',g1,?_⟩
 unfold aeh
 rw [zx]
 unfold Qx
 rw [zx]
 unfold ae7
 rw [zx]
 unfold adQ
 rw [g2]
 generalize canE 24 x=y
 obtain ⟨k1,k2,k3,⟨v1,v2,v3,v4⟩,kk⟩:=y
 cases kk<;>rfl
theorem aeP {P T R:Type}{F:Nat→Bool→Option (List Int)→Int→Int→Option (List T)→Option R}{K:Bool→Option (List Int)→Int→Option (List T)→Option R}{f:P→List Int}{g:P→T}{N:Nat}(hN:N≤1000) {rest0:List Int}
  (hE:∀ (m:Nat) (b:Option (List Int)) (acc:Option (List T)),F (m+1) true b 0 (N:Int) acc=K true b 0 acc):
  ∀ (ps:List P),(∀ p,p∈ps→∀ (m i:Nat) (b:Option (List Int)) (acc:Option (List T)) (rest:List Int),i<N→(sll acc).length≤i→Bytes (sll b)→sll b=f p++rest→∃ b',sll b'=rest∧F (m+1) true b 0 (i:Int) acc=F m true b' 0 ((i+1:Nat):Int) (some (sll acc++[g p])))→
  ∀ (i m:Nat) (b:Option (List Int)) (acc:Option (List T)),i+ps.length=N→(sll acc).length≤i→Bytes (sll b)→sll b=ps.flatMap f++rest0→∃ b',sll b'=rest0∧F (m+ps.length+1) true b 0 (i:Int) acc=K true b' 0 (oapG acc (ps.map g))
 |[],_,i,m,b,acc,hi,ha,hb,hs=>by
  rw [List.length_nil] at hi
  refine ⟨b,by simpa using hs,?_⟩
  rw [List.map_nil,aoZ,show i=N by omega]
  exact hE _ _ _
 |p::ps,hS,i,m,b,acc,hi,ha,hb,hs=>by
  rw [List.length_cons] at hi
  rw [List.flatMap_cons,List.append_assoc] at hs
  obtain ⟨b1,g1,g2⟩:=hS p (by simp) (m+ps.length+1) i b acc _ hZ ha hb hs
  obtain ⟨b',g3,g4⟩:=aeP hN hE ps (fun q hq=>hS q (by simp [hq])) (i+1) m b1 (some (sll acc++[g p])) hZ (by show (sll acc++[g p]).length≤_;rw [List.length_append,List.length_singleton];omega) (QE hb hs g1) g1
  refine ⟨b',g3,?_⟩
  rw [List.map_cons,←ani,←g4,List.length_cons,show m+(ps.length+1)+1=(m+ps.length+1)+1 by omega,g2]
theorem agy {i:Nat}(h:i<1000000000000):IntKind.wrap .u64 ((i:Int)+1)=((i+1:Nat):Int):=by
 rw [acG hZ hZ];omega
def putL {α:Type}(f:α→List Int) (l:List α):List Int:=Ql l.length++l.flatMap f
theorem asb {b:Option (List Int)}{t:ByteArray}{most:Nat}{rest:List Int}(ht:t.size≤most) (hm:most<1000000) (hb:Bytes (sll b)) (hs:sll b=putT t++rest) {n:Nat}(hn:14≤n):∃ b',sll b'=rest∧qV n ⟨true,b,0⟩ (most:Int)=some (true,b',0,t):=by
 obtain ⟨b2,e2,v2,h3,h4⟩:=apQ (b:=b) (most:=most) hm hb hn
 rw [hs,ap4 ht hm] at h4
 obtain ⟨g1,rfl,rfl⟩:=h4
 exact ⟨b2,g1,by rw [h3,aiv]⟩
theorem aq3 {l:List ByteArray}(hl:l.length≤12) (ht:∀ t,t∈l→t.size≤20) {b:Option (List Int)}{rest:List Int}(hb:Bytes (sll b)) (hs:sll b=putL putT l++rest) {n:Nat}(hn:2000300≤n):
  ∃ b',sll b'=rest∧Z1 n ⟨true,b,0⟩ 12=some (true,b',0,mapO (fun t=>t) l,0):=by
 obtain ⟨n,rfl⟩:∃ k,n=k+1:=⟨n-1,hZ⟩
 unfold putL at hs
 rw [List.append_assoc] at hs
 obtain ⟨b1,g1,g2⟩:=aew (most:=12) hZ (by decide) hb hs (by omega:13≤n)
 unfold Z1
 rw [zx]
 refine aeE (Q:=fun o=>∃ b',sll b'=rest∧o=some (true,b',0,mapO (fun t=>t) l,0)) (fun k=>∀ b',k true b' 0 (mapO (fun t=>t) l)=some (true,b',0,mapO (fun t=>t) l,0)) ?_ ?_
 ·intro b'
  cases mapO (fun t=>t) l<;>(dsimp only;rw [afQ hZ,jc])
 intro k hk
 rw [show (12:Int)=((12:Nat):Int) from rfl,g2,jc]
 dsimp only
 obtain ⟨m,hm⟩:∃ m,n=m+l.length+1:=⟨n-l.length-1,hZ⟩
 obtain ⟨b',q1,q2⟩:=aeP (f:=putT) (g:=(fun t=>t)) (N:=l.length) (rest0:=rest) (F:=fun m a b c i acc=>zO n k (l.length:Int) m a b c i acc) (K:=k) hZ
  (fun m b acc=>by cases acc<;>(rw [zO,dF hZ,jd])) l
  (fun t htl m i b acc rest hi ha hb hs=>by
   obtain ⟨b',w1,w2⟩:=asb (most:=20) (ht t htl) (by decide) hb hs (by omega:14≤n-1)
   have w3:abZ n true b 0=some (true,b',0,t,0):=by
    obtain ⟨n,rfl⟩:∃ k,n=k+1:=⟨n-1,hZ⟩
    unfold abZ
    rw [zx]
    rw [Nat.add_sub_cancel] at w2
    rw [show (20:Int)=((20:Nat):Int) from rfl,w2,jc]
    dsimp only
    rw [afQ hZ,jc]
   refine ⟨b',w1,?_⟩
   cases acc with
   |none=>
    rw [zO,dT hZ,je,w3,jc]
    dsimp only
    rw [show ((0:Int)!=0)=false by decide,jd,qy (by decide) (by simp),jc,agy hZ]
    rfl
   |some la=>
    have ha':la.length≤i:=ha
    rw [zO,dT hZ,je,w3,jc]
    dsimp only
    rw [show ((0:Int)!=0)=false by decide,jd,qy (by decide) (by rw [List.length_append,List.length_singleton];omega),jc,agy hZ]
    rfl) 0 m b1 none hZ (by simp [sll]) (QE hb hs g1) g1
 refine ⟨b',q1,?_⟩
 rw [afs,←hm] at q2
 exact q2.trans (hk b')
theorem am1 {l:List EX}{most:Nat}(hl:l.length≤most) (hm:most≤100) (ht:∀ z,z∈l→qZ (zh z)=true∧zQ (zh z)) {b:Option (List Int)}{rest:List Int}(hb:Bytes (sll b)) (hs:sll b=putL (fun z=>putE 24 (zh z)) l++rest) {n:Nat}(hn:2000300≤n):
  ∃ b',sll b'=rest∧Zc n ⟨true,b,0⟩ (most:Int)=some (true,b',0,mapO (fun z=>zy (canE 24 (zh z))) l,0):=by
 obtain ⟨n,rfl⟩:∃ k,n=k+1:=⟨n-1,hZ⟩
 unfold putL at hs
 rw [List.append_assoc] at hs
 obtain ⟨b1,g1,g2⟩:=aew (most:=most) hZ hZ hb hs (by omega:13≤n)
 unfold Zc
 rw [zx]
 refine aeE (Q:=fun o=>∃ b',sll b'=rest∧o=some (true,b',0,mapO (fun z=>zy (canE 24 (zh z))) l,0)) (fun k=>∀ b',k true b' 0 (mapO (fun z=>zy (canE 24 (zh z))) l)=some (true,b',0,mapO (fun z=>zy (canE 24 (zh z))) l,0)) ?_ ?_
 ·intro b'
  cases mapO (fun z=>zy (canE 24 (zh z))) l<;>(dsimp only;rw [afQ hZ,jc])
 intro k hk
 rw [g2,jc]
 dsimp only
 obtain ⟨m,hm⟩:∃ m,n=m+l.length+1:=⟨n-l.length-1,hZ⟩
 obtain ⟨b',q1,q2⟩:=aeP (f:=(fun z=>putE 24 (zh z))) (g:=(fun z=>zy (canE 24 (zh z)))) (N:=l.length) (rest0:=rest) (F:=fun m a b c i acc=>zL n k (l.length:Int) m a b c i acc) (K:=k) hZ
  (fun m b acc=>by cases acc<;>(rw [zL,dF hZ,jd])) l
  (fun t htl m i b acc rest hi ha hb hs=>by
   obtain ⟨b',w1,w2⟩:=ai7 (ht t htl).1 (ht t htl).2 hb hs (by omega:2000200≤n-1)
   have w3:abV n true b 0=some (true,b',0,(canE 24 (zh t)).A,(canE 24 (zh t)).K,(canE 24 (zh t)).M,(canE 24 (zh t)).D.A,(canE 24 (zh t)).D.J,(canE 24 (zh t)).D.O,(canE 24 (zh t)).D.L,(canE 24 (zh t)).I,0):=by
    obtain ⟨n,rfl⟩:∃ k,n=k+1:=⟨n-1,hZ⟩
    unfold abV
    rw [zx]
    rw [Nat.add_sub_cancel] at w2
    rw [w2,jc]
    cases (canE 24 (zh t)).I<;>rfl
   refine ⟨b',w1,?_⟩
   generalize canE 24 (zh t)=y at w3
   obtain ⟨k1,k2,k3,⟨v1,v2,v3,v4⟩,kk⟩:=y
   cases acc with
   |none=>
    rw [zL,dT hZ,je]
    simp only [zE]
    rw [w3,jc]
    cases kk<;>(dsimp only;rw [show ((0:Int)!=0)=false by decide,jd,qy (by decide) (by simp),jc,agy hZ];rfl)
   |some la=>
    have ha':la.length≤i:=ha
    rw [zL,dT hZ,je]
    simp only [zE]
    rw [w3,jc]
    cases kk<;>(dsimp only;rw [show ((0:Int)!=0)=false by decide,jd,qy (by decide) (by rw [List.length_append,List.length_singleton];omega),jc,agy hZ];rfl)) 0 m b1 none hZ (by simp [sll]) (QE hb hs g1) g1
 refine ⟨b',q1,?_⟩
 rw [afs,←hm] at q2
 exact q2.trans (hk b')
theorem aof {b:Option (List Int)}{d:Bool}{rest:List Int}(hb:Bytes (sll b)) (hs:sll b=(bif d then (1:Int) else 0)::rest) {n:Nat}(hn:2000100≤n):∃ b',sll b'=rest∧aaq n ⟨true,b,0⟩=some (b',0,d,0):=by
 obtain ⟨n,rfl⟩:∃ k,n=k+1:=⟨n-1,hZ⟩
 obtain ⟨b',h1,h2⟩:=ac6 hb hs (by omega:2000010≤n)
 refine ⟨b',h2,?_⟩
 unfold aaq
 rw [zx,h1,jc]
 dsimp only
 rw [afQ hZ,jc]
 cases d<;>rfl
def putK (k:zo):List Int:=Ql k.B.toNat++[bif k.P then (1:Int) else 0]
theorem aqP {l:List zo}(hl:l.length≤10) (ht:∀ k,k∈l→0≤k.B∧k.B≤29) {b:Option (List Int)}{rest:List Int}(hb:Bytes (sll b)) (hs:sll b=putL putK l++rest) {n:Nat}(hn:2000300≤n):
  ∃ b',sll b'=rest∧zD n ⟨true,b,0⟩ 10=some (true,b',0,mapO (fun k=>k) l,0):=by
 obtain ⟨n,rfl⟩:∃ k,n=k+1:=⟨n-1,hZ⟩
 unfold putL at hs
 rw [List.append_assoc] at hs
 obtain ⟨b1,g1,g2⟩:=aew (most:=10) hZ (by decide) hb hs (by omega:13≤n)
 unfold zD
 rw [zx]
 refine aeE (Q:=fun o=>∃ b',sll b'=rest∧o=some (true,b',0,mapO (fun k=>k) l,0)) (fun k=>∀ b',k true b' 0 (mapO (fun k=>k) l)=some (true,b',0,mapO (fun k=>k) l,0)) ?_ ?_
 ·intro b'
  cases mapO (fun k=>k) l<;>(dsimp only;rw [afQ hZ,jc])
 intro k hk
 rw [show (10:Int)=((10:Nat):Int) from rfl,g2,jc]
 dsimp only
 obtain ⟨m,hm⟩:∃ m,n=m+l.length+1:=⟨n-l.length-1,hZ⟩
 obtain ⟨b',q1,q2⟩:=aeP (f:=putK) (g:=(fun k=>k)) (N:=l.length) (rest0:=rest) (F:=fun m a b c i acc=>zS n k (l.length:Int) m a b c i acc) (K:=k) hZ
  (fun m b acc=>by cases acc<;>(rw [zS,dF hZ,jd])) l
  (fun t htl m i b acc rest hi ha hb hs=>by
   unfold putK at hs
   rw [List.append_assoc] at hs
   obtain ⟨ho1,ho2⟩:=ht t htl
   obtain ⟨b2,w1,w2⟩:=aew (most:=29) hZ (by decide) hb hs (by omega:13≤n-1)
   obtain ⟨b',w4,w5⟩:=aof (b:=b2) (d:=t.P) (rest:=rest) (QE hb hs w1) w1 (by omega:2000100≤n-1)
   have w3:ab3 n true b 0=some (true,b',0,t.B,t.P,0):=by
    obtain ⟨n,rfl⟩:∃ k,n=k+1:=⟨n-1,hZ⟩
    unfold ab3
    rw [zx]
    rw [Nat.add_sub_cancel] at w2 w5
    rw [show (29:Int)=((29:Nat):Int) from rfl,w2,jc]
    dsimp only
    rw [w5,jc]
    dsimp only
    rw [wv hZ hZ,show ((t.B.toNat:Nat):Int)=t.B by omega]
   refine ⟨b',w4,?_⟩
   cases acc with
   |none=>
    rw [zS,dT hZ,je,w3,jc]
    dsimp only
    rw [show ((0:Int)!=0)=false by decide,jd,qy (by decide) (by simp),jc,agy hZ]
    rfl
   |some la=>
    have ha':la.length≤i:=ha
    rw [zS,dT hZ,je,w3,jc]
    dsimp only
    rw [show ((0:Int)!=0)=false by decide,jd,qy (by decide) (by rw [List.length_append,List.length_singleton];omega),jc,agy hZ]
    rfl) 0 m b1 none hZ (by simp [sll]) (QE hb hs g1) g1
 refine ⟨b',q1,?_⟩
 rw [afs,←hm] at q2
 exact q2.trans (hk b')
noncomputable def putA (g:zm):List Int:=g.A::putE 24 g.N
noncomputable def canA (g:zm):zm:=⟨g.A,canE 24 g.N⟩
theorem aqs {l:List zm}(hl:l.length≤10) (ht:∀ g,g∈l→(1≤g.A∧g.A≤4)∧qZ g.N=true∧zQ g.N) {b:Option (List Int)}{rest:List Int}(hb:Bytes (sll b)) (hs:sll b=putL putA l++rest) {n:Nat}(hn:2000300≤n):
  ∃ b',sll b'=rest∧zW n ⟨true,b,0⟩ 10=some (true,b',0,mapO canA l,0):=by
 obtain ⟨n,rfl⟩:∃ k,n=k+1:=⟨n-1,hZ⟩
 unfold putL at hs
 rw [List.append_assoc] at hs
 obtain ⟨b1,g1,g2⟩:=aew (most:=10) hZ (by decide) hb hs (by omega:13≤n)
 unfold zW
 rw [zx]
 refine aeE (Q:=fun o=>∃ b',sll b'=rest∧o=some (true,b',0,mapO canA l,0)) (fun k=>∀ b',k true b' 0 (mapO canA l)=some (true,b',0,mapO canA l,0)) ?_ ?_
 ·intro b'
  cases mapO canA l<;>(dsimp only;rw [afQ hZ,jc])
 intro k hk
 rw [show (10:Int)=((10:Nat):Int) from rfl,g2,jc]
 dsimp only
 obtain ⟨m,hm⟩:∃ m,n=m+l.length+1:=⟨n-l.length-1,hZ⟩
 obtain ⟨b',q1,q2⟩:=aeP (f:=putA) (g:=canA) (N:=l.length) (rest0:=rest) (F:=fun m a b c i acc=>zM n k (l.length:Int) m a b c i acc) (K:=k) hZ
  (fun m b acc=>by cases acc<;>(rw [zM,dF hZ,jd])) l
  (fun t htl m i b acc rest hi ha hb hs=>by
   unfold putA at hs
   rw [List.cons_append] at hs
   obtain ⟨⟨hk1,hk2⟩,hf,hw⟩:=ht t htl
   obtain ⟨b2,v1,v2⟩:=ac6 hb hs (by omega:2000010≤n-1)
   obtain ⟨b',w1,w2⟩:=ai7 hf hw (QE (l:=[t.A]) hb hs v2) v2 (by omega:2000200≤n-1)
   have w3:ab4 n true b 0=some (true,b',0,t.A,(canE 24 t.N).A,(canE 24 t.N).K,(canE 24 t.N).M,(canE 24 t.N).D.A,(canE 24 t.N).D.J,(canE 24 t.N).D.O,(canE 24 t.N).D.L,(canE 24 t.N).I,0):=by
    obtain ⟨n,rfl⟩:∃ k,n=k+1:=⟨n-1,hZ⟩
    unfold ab4
    rw [zx]
    rw [Nat.add_sub_cancel] at w2 v1
    rw [v1,jc]
    dsimp only
    rw [w2,jc,wv hZ hZ]
    cases (canE 24 t.N).I<;>rfl
   refine ⟨b',w1,?_⟩
   unfold canA
   generalize canE 24 t.N=y at w3
   obtain ⟨k1,k2,k3,⟨v1,v2,v3,v4⟩,kk⟩:=y
   cases acc with
   |none=>
    rw [zM,dT hZ,je]
    simp only [zE]
    rw [w3,jc]
    cases kk<;>(dsimp only;rw [show ((0:Int)!=0)=false by decide,jd,qy (by decide) (by simp),jc,agy hZ];rfl)
   |some la=>
    have ha':la.length≤i:=ha
    rw [zM,dT hZ,je]
    simp only [zE]
    rw [w3,jc]
    cases kk<;>(dsimp only;rw [show ((0:Int)!=0)=false by decide,jd,qy (by decide) (by rw [List.length_append,List.length_singleton];omega),jc,agy hZ];rfl)) 0 m b1 none hZ (by simp [sll]) (QE hb hs g1) g1
 refine ⟨b',q1,?_⟩
 rw [afs,←hm] at q2
 exact q2.trans (hk b')
structure QF (q:zb):Prop where
 rels:(sll q.E).length≤12
 names:∀ t,t∈sll q.E→t.size≤20
 wh:(sll q.H).length≤40∧∀ z,z∈sll q.H→qZ (zh z)=true∧zQ (zh z)
 out:(sll q.B).length≤20∧∀ z,z∈sll q.B→qZ (zh z)=true∧zQ (zh z)
 aggs:(sll q.C).length≤10∧∀ g,g∈sll q.C→(1≤g.A∧g.A≤4)∧qZ g.N=true∧zQ g.N
 order:(sll q.G).length≤10∧∀ k,k∈sll q.G→0≤k.B∧k.B≤29
noncomputable abbrev putZ:EX→List Int:=fun z=>putE 24 (zh z)
noncomputable abbrev canZ:EX→EX:=fun z=>zy (canE 24 (zh z))
noncomputable def putQ (q:zb):List Int:=putL putT (sll q.E)++(putL putZ (sll q.H)++((bif q.F then (1:Int) else 0)::(putL putZ (sll q.B)++(putL putA (sll q.C)++putL putK (sll q.G)))))
theorem afx {α:Type}{f:α→List Int}{c:Nat}:∀ {l:List α},(∀ x,x∈l→(f x).length≤c)→(l.flatMap f).length≤c*l.length
 |[],_=>by simp
 |x::l,h=>by
  have h1:=h x (by simp)
  have h2:=afx (l:=l) fun y hy=>h y (by simp [hy])
  rw [List.flatMap_cons,List.length_append,List.length_cons,Nat.mul_succ];omega
theorem agt {α:Type}{f:α→List Int}{c:Nat}{l:List α}(hl:l.length≤1000000) (h:∀ x,x∈l→(f x).length≤c):(putL f l).length≤10+c*l.length:=by
 have h1:=afx h
 have h2:=qa l.length 9 hZ
 unfold putL;rw [List.length_append];omega
theorem aeD {α:Type}{f:α→List Int}{l:List α}(h:∀ x,x∈l→Bytes (f x)):Bytes (putL f l):=by
 unfold putL
 refine (aa4 _).app fun y hy=>?_
 obtain ⟨x,hx,hy⟩:=List.mem_flatMap.1 hy
 exact h x hx y hy
theorem apw (t:ByteArray):Bytes (putT t):=(aa4 _).app (aiR t)
theorem apq (k:zo):Bytes (putK k):=by
 unfold putK
 refine (aa4 _).app fun y hy=>?_
 rw [List.mem_singleton] at hy
 subst hy
 cases k.P<;>decide
theorem aib {g:zm}(h:(1≤g.A∧g.A≤4)∧qZ g.N=true∧zQ g.N):Bytes (putA g)∧(putA g).length≤32500:=by
 obtain ⟨h1,h2⟩:=ab0 h.2.1 h.2.2
 refine ⟨fun y hy=>?_,?_⟩
 ·unfold putA at hy
  rcases List.mem_cons.1 hy with rfl|hy
  ·have:=h.1;omega
  exact h1 y hy
 unfold putA;rw [List.length_cons];omega
theorem aov {k:zo}(h:0≤k.B∧k.B≤29):(putK k).length≤11:=by
 have:=qa k.B.toNat 9 hZ
 unfold putK;rw [List.length_append,List.length_singleton];omega
theorem alW {q:zb}(h:QF q):(putL putT (sll q.E)).length≤400∧(putL putZ (sll q.H)).length≤1296100∧(putL putZ (sll q.B)).length≤700000∧(putL putA (sll q.C)).length≤330000∧(putL putK (sll q.G)).length≤200:=by
 obtain ⟨a1,a2,a3,a4,a5,a6⟩:=h
 refine ⟨?_,?_,?_,?_,?_⟩
 ·have:=agt (f:=putT) (l:=sll q.E) (c:=30) hZ fun t ht=>by have:=ag6 (s:=t) (by have:=a2 t ht;omega);have:=a2 t ht;omega
  omega
 ·have:=agt (f:=putZ) (l:=sll q.H) (c:=32400) hZ fun z hz=>(ab0 (a3.2 z hz).1 (a3.2 z hz).2).2
  omega
 ·have:=agt (f:=putZ) (l:=sll q.B) (c:=32400) hZ fun z hz=>(ab0 (a4.2 z hz).1 (a4.2 z hz).2).2
  omega
 ·have:=agt (f:=putA) (l:=sll q.C) (c:=32500) hZ fun z hz=>(aib (a5.2 z hz)).2
  omega
 have:=agt (f:=putK) (l:=sll q.G) (c:=11) hZ fun z hz=>aov (a6.2 z hz)
 omega
theorem apv {q:zb}(h:QF q):Bytes (putQ q):=by
 obtain ⟨a1,a2,a3,a4,a5,a6⟩:=h
 unfold putQ
 refine Bytes.app (aeD fun t _=>apw t) (Bytes.app (aeD fun z hz=>(ab0 (a3.2 z hz).1 (a3.2 z hz).2).1) (fun y hy=>?_))
 rcases List.mem_cons.1 hy with rfl|hy
 ·cases q.F<;>decide
 exact Bytes.app (aeD fun z hz=>(ab0 (a4.2 z hz).1 (a4.2 z hz).2).1) (Bytes.app (aeD fun z hz=>(aib (a5.2 z hz)).1) (aeD fun z _=>apq z)) y hy
theorem aoj {q:zb}(h:QF q):(putQ q).length≤3000000:=by
 have:=alW h
 unfold putQ
 simp only [List.length_append,List.length_cons]
 omega
section puts
variable {n:Nat}(hn:2000200≤n) (hn2:n<100000000)
include hn hn2
theorem arj {a:Option (List ByteArray)}(hl:(sll a).length≤12) (ht:∀ t,t∈sll a→t.size≤20):ZM n a=some (putL putT (sll a)):=by
 obtain ⟨n,rfl⟩:∃ k,n=k+1:=⟨n-1,hZ⟩
 have hf:=afx (f:=putT) (l:=sll a) (c:=30) fun t h=>by have:=ag6 (s:=t) (by have:=ht t h;omega);have:=ht t h;omega
 have hu:=qa (sll a).length 9 hZ
 unfold ZM
 rw [zx,acG hZ hZ,alw hZ hZ hZ,jc]
 unfold zE
 exact ag0 (l:=sll a) (f:=putT) (A:=fun s t=>Qh n s t) (F:=fun m s i=>Zd n a (fun y=>some y) m s i) (K:=fun y=>some y) (B:=600000000) hZ
  (fun m s i z hi e=>by rw [Zd,dT hZ,je,Z7 hi e,jc])
  (fun m s=>by rw [Zd,dF hZ,jd])
  (fun s z hz hb=>ai3 (by have:=ht z hz;omega) hZ hZ hZ) hZ _ hZ
theorem aos {a:Option (List EX)}(hl:(sll a).length≤100) (ht:∀ z,z∈sll a→qZ (zh z)=true∧zQ (zh z)) {l:List Int}(hs:l.length≤100000000):Z8 n l a=some (l++putL putZ (sll a)):=by
 obtain ⟨n,rfl⟩:∃ k,n=k+1:=⟨n-1,hZ⟩
 have hf:=afx (f:=putZ) (l:=sll a) (c:=32400) fun z h=>(ab0 (ht z h).1 (ht z h).2).2
 have hu:=qa (sll a).length 9 hZ
 unfold Z8
 rw [zx,acG hZ hZ,QR hZ hZ hZ hZ,jc]
 unfold zE
 unfold putL
 rw [←List.append_assoc]
 exact ag0 (l:=sll a) (f:=putZ) (A:=fun s t=>aeH n s (zh t)) (F:=fun m s i=>Zz n a (fun y=>some y) m s i) (K:=fun y=>some y) (B:=500000000) hZ
  (fun m s i z hi e=>by rw [Zz,dT hZ,je,Z7 hi e,jc])
  (fun m s=>by rw [Zz,dF hZ,jd])
  (fun s z hz hb=>ako (ht z hz).1 (ht z hz).2 hZ hZ hZ) hZ _ (by rw [List.length_append];omega)
theorem aro {a:Option js}(hl:(sll a).length≤10) (ht:∀ g,g∈sll a→(1≤g.A∧g.A≤4)∧qZ g.N=true∧zQ g.N) {l:List Int}(hs:l.length≤100000000):qp n l a=some (l++putL putA (sll a)):=by
 obtain ⟨n,rfl⟩:∃ k,n=k+1:=⟨n-1,hZ⟩
 have hf:=afx (f:=putA) (l:=sll a) (c:=32500) fun z h=>(aib (ht z h)).2
 have hu:=qa (sll a).length 9 hZ
 unfold qp
 rw [zx,acG hZ hZ,QR hZ hZ hZ hZ,jc]
 unfold zE
 unfold putL
 rw [←List.append_assoc]
 exact ag0 (l:=sll a) (f:=putA) (A:=fun s t=>abp n s t) (F:=fun m s i=>Zs n a (fun y=>some y) m s i) (K:=fun y=>some y) (B:=400000000) hZ
  (fun m s i z hi e=>by rw [Zs,dT hZ,je,Z7 hi e,jc])
  (fun m s=>by rw [Zs,dF hZ,jd])
  (fun s z hz hb=>by
   obtain ⟨n,rfl⟩:∃ k,n=k+1:=⟨n-1,hZ⟩
   obtain ⟨h1,h2,h3⟩:=ht z hz
   show abp (n+1) s z=_
   unfold abp
   rw [zx,qy (by decide) (by rw [List.length_append,List.length_singleton];omega),jc,ald hZ hZ,ako h2 h3 hZ hZ (by rw [List.length_append,List.length_singleton];omega),jc]
   unfold putA;simp) hZ _ (by rw [List.length_append];omega)
theorem arR {a:Option ju}(hl:(sll a).length≤10) (ht:∀ k,k∈sll a→0≤k.B∧k.B≤29) {l:List Int}(hs:l.length≤100000000):qt n l a=some (l++putL putK (sll a)):=by
 obtain ⟨n,rfl⟩:∃ k,n=k+1:=⟨n-1,hZ⟩
 have hf:=afx (f:=putK) (l:=sll a) (c:=11) fun z h=>aov (ht z h)
 have hu:=qa (sll a).length 9 hZ
 unfold qt
 rw [zx,acG hZ hZ,QR hZ hZ hZ hZ,jc]
 unfold zE
 unfold putL
 rw [←List.append_assoc]
 exact ag0 (l:=sll a) (f:=putK) (A:=fun s t=>abq n s t) (F:=fun m s i=>Zr n a (fun y=>some y) m s i) (K:=fun y=>some y) (B:=400000000) hZ
  (fun m s i z hi e=>by rw [Zr,dT hZ,je,Z7 hi e,jc])
  (fun m s=>by rw [Zr,dF hZ,jd])
  (fun s z hz hb=>by
   obtain ⟨n,rfl⟩:∃ k,n=k+1:=⟨n-1,hZ⟩
   obtain ⟨h1,h2⟩:=ht z hz
   have hz2:=qa z.B.toNat 9 hZ
   show abq (n+1) s z=_
   unfold abq
   rw [zx,acG hZ hZ,show z.B=((z.B.toNat:Nat):Int) by omega,QR hZ hZ hZ hZ,jc]
   have hfl:ado n z.P=some (bif z.P then (1:Int) else 0):=by
    obtain ⟨n,rfl⟩:∃ k,n=k+1:=⟨n-1,hZ⟩
    cases z.P<;>rfl
   rw [hfl,jc,qy (by decide) (by rw [List.length_append,List.length_append,List.length_singleton];omega),jc]
   unfold putK;simp) hZ _ (by rw [List.length_append];omega)
omit hn in
theorem anK (hn:2000300≤n) {q:zb}(h:QF q):acg n q=some (putQ q):=by
 obtain ⟨n,rfl⟩:∃ k,n=k+1:=⟨n-1,hZ⟩
 obtain ⟨p1,p2,p3,p4,p5⟩:=alW h
 obtain ⟨a1,a2,a3,a4,a5,a6⟩:=h
 have hfl:ado n q.F=some (bif q.F then (1:Int) else 0):=by
  obtain ⟨n,rfl⟩:∃ k,n=k+1:=⟨n-1,hZ⟩
  cases q.F<;>rfl
 unfold acg
 rw [zx,arj hZ hZ a1 a2,jc,aos hZ hZ hZ a3.2 hZ,jc,hfl,jc,qy (by decide) (by simp only [List.length_append,List.length_singleton];omega),jc]
 rw [aos hZ hZ hZ a4.2 (by simp only [List.length_append,List.length_singleton];omega),jc,aro hZ hZ hZ a5.2 (by simp only [List.length_append,List.length_singleton];omega),jc,arR hZ hZ hZ a6.2 (by simp only [List.length_append,List.length_singleton];omega),jc]
 unfold putQ
 simp
end puts
set_option maxHeartbeats 8000000 in
theorem amr {q:zb}(h:QF q) {b:Option (List Int)}{rest:List Int}(hb:Bytes (sll b)) (hs:sll b=putQ q++rest) {n:Nat}(hn:2000400≤n):
  ∃ b',sll b'=rest∧aeq n ⟨true,b,0⟩=some (true,b',0,mapO (fun t=>t) (sll q.E),mapO canZ (sll q.H),q.F,mapO canZ (sll q.B),mapO canA (sll q.C),mapO (fun k=>k) (sll q.G),0):=by
 obtain ⟨n,rfl⟩:∃ k,n=k+1:=⟨n-1,hZ⟩
 obtain ⟨a1,a2,a3,a4,a5,a6⟩:=h
 unfold putQ at hs
 rw [List.append_assoc,List.append_assoc,List.cons_append,List.append_assoc,List.append_assoc] at hs
 obtain ⟨b1,e1,f1⟩:=aq3 a1 a2 hb hs (by omega:2000300≤n)
 have hb1:=QE hb hs e1
 obtain ⟨b2,e2,f2⟩:=am1 a3.1 hZ a3.2 hb1 e1 (by omega:2000300≤n)
 have hb2:=QE hb1 e1 e2
 obtain ⟨b3,e3,f3⟩:=aof hb2 e2 (by omega:2000100≤n)
 have hb3:=QE (l:=[_]) hb2 e2 e3
 obtain ⟨b4,e4,f4⟩:=am1 a4.1 hZ a4.2 hb3 e3 (by omega:2000300≤n)
 have hb4:=QE hb3 e3 e4
 obtain ⟨b5,e5,f5⟩:=aqs a5.1 a5.2 hb4 e4 (by omega:2000300≤n)
 have hb5:=QE hb4 e4 e5
 obtain ⟨b6,e6,f6⟩:=aqP a6.1 a6.2 hb5 e5 (by omega:2000300≤n)
 refine ⟨b6,e6,?_⟩
 unfold aeq
 rw [zx]
 have z0:((0:Int)!=0)=false:=by decide
 rw [show ((40:Nat):Int)=40 from rfl] at f2
 rw [show ((20:Nat):Int)=20 from rfl] at f4
 have canZe:canZ=fun z=>zy (canE 24 (zh z)):=rfl
 rw [canZe]
 generalize mapO (fun t=>t) (sll q.E)=o1 at *
 generalize mapO (fun z=>zy (canE 24 (zh z))) (sll q.H)=o2 at *
 generalize mapO (fun z=>zy (canE 24 (zh z))) (sll q.B)=o3 at *
 generalize mapO canA (sll q.C)=o4 at *
 generalize mapO (fun k=>k) (sll q.G)=o5 at *
 cases o1<;>cases o2<;>cases o3<;>cases o4<;>cases o5<;>simp only [zE,f1,f2,f3,f4,f5,f6,jc,z0,jd]
theorem aoB {a b:Option (List ByteArray)}(ha:(sll a).length≤1048576) {n:Nat}(hn:2000010≤n):QN n a b=some (acv sEq (sll a) (sll b)):=by
 obtain ⟨n,rfl⟩:=ja n 1
 unfold QN
 rw [zx]
 unfold zE
 refine afL (F:=fun m i=>ZL n a b (fun _=>some true) m i) ha hZ (fun he m i x y hi e1 e2 m1 m2=>?_) (fun m=>?_)
 ·show ZL _ _ _ _ _ _=_
  rw [ZL,dT hZ,je,e1,jc,e2,jc]
  cases sEq x y<;>rfl
 show ZL _ _ _ _ _ _=_
 rw [ZL,dF hZ,jd]
theorem aoV {a b:Option js}{d e:Nat}(ha:LAs d a) (hb:LAs e b) (hd:d≤140000) {n:Nat}(hn:2280300≤n):ZS n a b=some (acv ar3 (sll a) (sll b)):=by
 obtain ⟨n,rfl⟩:=ja n 1
 unfold ZS
 rw [zx]
 unfold zE
 refine afL (F:=fun m i=>zV n a b (fun _=>some true) m i) ha.1 hZ (fun he m i x y hi e1 e2 m1 m2=>?_) (fun m=>?_)
 ·show zV _ _ _ _ _ _=_
  rw [zV,dT hZ,je,e1,jc,e2,jc]
  obtain ⟨n,rfl⟩:=ja n 1
  unfold ad9 ar3
  rw [zx]
  cases (x.A==y.A) with
  |false=>rfl
  |true=>
   rw [je,show aaQ ZK n x.N y.N=some (afA 140000 x.N y.N) from ?_]
   ·cases afA 140000 x.N y.N<;>rfl
   have hx:=ha.2 x m1;have hy:=hb.2 y m2
   cases d with
   |zero=>exact hx.elim
   |succ d=>
    cases e with
    |zero=>exact hy.elim
    |succ e=>
     obtain ⟨n,rfl⟩:=ja n 1
     have:=anZ (m:=n) (n:=n+1) hx hy hd hZ hZ
     unfold aaQ at this ⊢
     exact this
 show zV _ _ _ _ _ _=_
 rw [zV,dF hZ,jd]
theorem amy {q:zb}(h:QF q) (hq:aaV q) {n:Nat}(hn:2280400≤n):
  aet n (zb.mk (mapO (fun t=>t) (sll q.E)) (mapO canZ (sll q.H)) q.F (mapO canZ (sll q.B)) (mapO canA (sll q.C)) (mapO (fun k=>k) (sll q.G))) q=some true:=by
 obtain ⟨n,rfl⟩:=ja n 1
 obtain ⟨a1,a2,a3,a4,a5,a6⟩:=h
 have cX:∀ {a:List EX},(∀ z,z∈a→qZ (zh z)=true∧zQ (zh z))→WXs 24 (sll (mapO canZ a)):=fun ha z hz=>by
  rw [aaP] at hz
  obtain ⟨y,hy,rfl⟩:=List.mem_map.1 hz
  rw [ahx]
  exact ak2 (ha y hy).1 (ha y hy).2
 have sX:∀ {a:List EX},(∀ z,z∈a→qZ (zh z)=true∧zQ (zh z))→apt 140000 (sll (mapO canZ a)) a=true:=fun ha=>by
  rw [aaP]
  exact afW _ _ fun z hz=>by rw [ahx];exact akl (ha z hz).1 (ha z hz).2
 have lX:∀ {a:List EX}{k:Nat},a.length≤k→(sll (mapO canZ a)).length≤k:=fun h=>by rw [aaP,List.length_map];exact h
 unfold aet
 rw [zx]
 dsimp only
 rw [aoB (by rw [aaP,List.length_map];omega) hZ,jc,aaP,List.map_id',ajn _ (fun x _=>agS x),je]
 rw [aiL (cX a3.2) (by have:=lX a3.1;omega) (ar9 hq.2.1) hZ hZ,jc,sX a3.2]
 simp only [beq_self_eq_true,Bool.and_self,je]
 rw [aiL (cX a4.2) (by have:=lX a4.1;omega) (ar9 hq.2.2.2.1) hZ hZ,jc,sX a4.2,je]
 rw [aoV (d:=24) (e:=131072) ⟨by rw [aaP,List.length_map];omega,fun g hg=>by
  rw [aaP] at hg
  obtain ⟨y,hy,rfl⟩:=List.mem_map.1 hg
  exact ak2 (a5.2 y hy).2.1 (a5.2 y hy).2.2⟩ (atf hq.2.2.2.2.1) hZ hZ,jc,aaP]
 rw [afW canA (sll q.C) (fun g hg=>by
  unfold ar3 canA
  simp only [beq_self_eq_true,jn]
  exact akl (a5.2 g hg).2.1 (a5.2 g hg).2.2),je]
 rw [aoq (by rw [aaP,List.length_map];omega) hZ,jc,aaP,List.map_id',ajn _ (fun x _=>ao4 x)]
theorem ahA {α:Type}{f:α→Int}:∀ {l:List α},errL f l=0→∀ z,z∈l→f z=0
 |[],_,z,hz=>by cases hz
 |x::l,h,z,hz=>by
  unfold errL at h
  by_cases hx:f x=0
  ·rw [if_neg (by simpa using hx)] at h
   rcases List.mem_cons.1 hz with rfl|hz
   ·exact hx
   exact ahA h z hz
  rw [if_pos hx] at h;exact absurd h hx
theorem akW {p:Int×Int}{b:Bool}(h:eM p b=0):p.2=0:=by
 by_cases h2:p.2=0
 ·exact h2
 rw [atF h2] at h;exact absurd h h2
theorem aeW {a:List zn}{x:zk}(h:(Qt a x).2=0):qZ x=true:=by
 unfold Qt at h
 cases hf:qZ x with
 |true=>rfl
 |false=>rw [hf,Bool.not_false,je] at h;exact absurd h (by decide)
theorem arv {q:zb}(hq:aaV q) {all:List zn}(h:air all q=0) (hn:∀ t,t∈sll q.E→t.size≤20):QF q:=by
 unfold air at h
 by_cases h1:(adw all (sll q.E)).2≠0
 ·rw [if_pos h1] at h;exact absurd h h1
 rw [if_neg h1] at h
 cases hs:aeY q with
 |false=>rw [hs,Bool.not_false,je] at h;exact absurd h (by decide)
 |true=>
  rw [hs,Bool.not_true,jd] at h
  unfold apH at h
  by_cases h2:errL (fun z=>wE (sll (adw all (sll q.E)).1) (zh z)) (sll q.H)≠0
  ·rw [if_pos h2] at h;exact absurd h h2
  rw [if_neg h2] at h
  by_cases h3:errL (fun z=>oE (sll (adw all (sll q.E)).1) (zh z)) (sll q.B)≠0
  ·rw [if_pos h3] at h;exact absurd h h3
  rw [if_neg h3] at h
  obtain ⟨l1,l2,l3,l4⟩:=aj6 hs
  unfold aeY at hs
  simp only [jm,List.all_eq_true] at hs
  refine ⟨?_,hn,⟨l1,fun z hz=>⟨aeW (akW (ahA (Classical.not_not.1 h2) z hz)),W_un (hq.2.1.2 z hz)⟩⟩,⟨l2,fun z hz=>⟨aeW (akW (ahA (Classical.not_not.1 h3) z hz)),W_un (hq.2.2.2.1.2 z hz)⟩⟩,⟨l3,fun g hg=>⟨?_,?_,aqa (hq.2.2.2.2.1.2 g hg)⟩⟩,⟨l4,fun k hk=>?_⟩⟩
  ·by_cases hl:(sll q.E).length≤12
   ·exact hl
   unfold adw at h1
   rw [if_pos hZ] at h1
   exact absurd h1 (by simp)
  ·have:=hs.2.2.1 g hg
   unfold apX at this
   simp only [Bool.not_eq_true',Bool.or_eq_false_iff,decide_eq_false_iff_not] at this
   omega
  ·have:=ahA h g hg
   unfold aE oE at this
   cases hk:(g.A==2) with
   |true=>rw [hk,je] at this;exact aeW (akW this)
   |false=>rw [hk,jd] at this;exact aeW (akW this)
  have:=hs.2.2.2 k hk
  unfold badO at this
  simp only [Bool.not_eq_true',Bool.or_eq_false_iff,decide_eq_false_iff_not] at this
  omega
noncomputable abbrev cpZ:EX→EX:=fun z=>zy (als 140000 (zh z))
theorem af7 {a:Option (List EX)}(h:LXs 131072 a) {n:Nat}(hn:2140200≤n):aa7 n a=some (mapO cpZ (sll a)):=by
 obtain ⟨n,rfl⟩:=ja n 1
 unfold aa7
 rw [zx]
 unfold zE
 refine Eq.trans (ajw (f:=cpZ) (l3:=fun m' s i=>Zw n a (fun|none=>some none|(some y3)=>some (some y3)) m' s i) (l:=sll a) (K:=fun s=>some s) (b:=88) (by decide) h.1 hZ (fun m' i s z hi e=>?_) (fun m' s=>?_)) rfl
 ·have hz:=ai0 (h.2 z (by rw [←e];exact List.getElem_mem hi)) hZ (n:=n) hZ
  cases s with
  |none=>
   show Zw _ _ _ _ _ _=_
   rw [Zw,dT hZ,je,Z7 hi e,jc]
   rw [show Qc n _=_ from hz];rfl
  |some s=>
   show Zw _ _ _ _ _ _=_
   rw [Zw,dT hZ,je,Z7 hi e,jc]
   rw [show Qc n _=_ from hz];rfl
 cases s with
 |none=>show Zw _ _ _ _ _ _=_;rw [Zw,dF hZ,jd]
 |some s=>show Zw _ _ _ _ _ _=_;rw [Zw,dF hZ,jd]
theorem aqT {c:Option (List ByteArray)}(hc:(sll c).length≤1048576) {n:Nat}(hn:1≤n):QM n c=some c:=by
 obtain ⟨n,rfl⟩:=ja n 1
 unfold QM
 rw [zx]
 cases c with
 |none=>rfl
 |some l=>
  rw [abP] at hc
  simp only [Option.isNone_some,jd,abP]
  cases l with
  |nil=>rw [List.isEmpty_nil,je,ab6 (by simp) hZ];rfl
  |cons x l=>rw [List.isEmpty_cons,jd,ab6 (by simpa using (show (x::l).length≤2000000 by omega)) hZ];rfl
theorem aqy {c:Option ju}(hc:(sll c).length≤1048576) {n:Nat}(hn:1≤n):qS n c=some c:=by
 obtain ⟨n,rfl⟩:=ja n 1
 unfold qS
 rw [zx]
 cases c with
 |none=>rfl
 |some l=>
  rw [abP] at hc
  simp only [Option.isNone_some,jd,abP]
  cases l with
  |nil=>rw [List.isEmpty_nil,je,ab6 (by simp) hZ];rfl
  |cons x l=>rw [List.isEmpty_cons,jd,ab6 (by simpa using (show (x::l).length≤2000000 by omega)) hZ];rfl
abbrev as5:=(Option (List ByteArray))×jo×jo×jr×jt
noncomputable abbrev cpA:zm→zm:=fun g=>⟨g.A,als 140000 g.N⟩
theorem ai5 {n:Nat}{q:zb}(h:LAs 131072 q.C) (hn:2140200≤n) {F:Nat→Option js→Int→Option as5}{K:Option js→Option as5}
  (h0:∀ m i,F (m+1) none i=bif (decide (i<((sll q.C).length:Int))) then (idx (sll q.C) i).bind fun x17=>(Qc n x17.N).bind fun x19=>(ckA 96 ([(zm.mk x17.A x19)]:List zm).length).bind fun _=>F m (some ([(zm.mk x17.A x19)]:List zm)) (IntKind.wrap .i64 (i+1)) else K none)
  (h1:∀ m i s,F (m+1) (some s) i=bif (decide (i<((sll q.C).length:Int))) then (idx (sll q.C) i).bind fun x17=>(Qc n x17.N).bind fun x19=>(ckA 96 (s++([(zm.mk x17.A x19)]:List zm)).length).bind fun _=>F m (some (s++([(zm.mk x17.A x19)]:List zm))) (IntKind.wrap .i64 (i+1)) else K (some s)):F n none 0=K (mapO cpA (sll q.C)):=by
 refine ajw (f:=cpA) (l3:=F) (l:=sll q.C) (K:=K) (b:=96) (by decide) h.1 hZ (fun m' i s z hi e=>?_) (fun m' s=>?_)
 ·have hz:=ai0 (h.2 z (by rw [←e];exact List.getElem_mem hi)) hZ (n:=n) hZ
  cases s with
  |none=>rw [h0,dT hZ,je,Z7 hi e,jc,hz];rfl
  |some s=>rw [h1,dT hZ,je,Z7 hi e,jc,hz];rfl
 cases s with
 |none=>rw [h0,dF hZ,jd]
 |some s=>rw [h1,dF hZ,jd]
theorem amC {q:zb}(hq:aaV q) {n:Nat}(hn:2140300≤n):aeo n q=some (q.E,mapO cpZ (sll q.H),mapO cpZ (sll q.B),mapO cpA (sll q.C),q.G):=by
 obtain ⟨n,rfl⟩:=ja n 1
 unfold aeo
 rw [zx]
 have hA:=atf hq.2.2.2.2.1
 simp only [zE]
 rw [aqT hq.1.1 hZ,jc,af7 (ate hq.2.1) hZ,jc]
 generalize mapO cpZ (sll q.H)=o1
 have hO:=af7 (ate hq.2.2.2.1) (n:=n) hZ
 generalize mapO cpZ (sll q.B)=o2 at hO ⊢
 have hK:=aqy hq.2.2.2.2.2.1 (n:=n) hZ
 cases o1<;>cases o2<;>simp only [hO,hK,jc]
 ·refine Eq.trans (ai5 (F:=fun m s i=>QY n q _ m s i) (K:=fun o=>some (q.E,none,none,o,q.G)) hA hZ (fun m i=>rfl) (fun m i s=>rfl)) rfl
 ·refine Eq.trans (ai5 (F:=fun m s i=>QC n q _ m s i) (K:=fun o=>some (q.E,none,_,o,q.G)) hA hZ (fun m i=>rfl) (fun m i s=>rfl)) rfl
 ·refine Eq.trans (ai5 (F:=fun m s i=>Qf n q _ m s i) (K:=fun o=>some (q.E,_,none,o,q.G)) hA hZ (fun m i=>rfl) (fun m i s=>rfl)) rfl
 refine Eq.trans (ai5 (F:=fun m s i=>qR n q _ m s i) (K:=fun o=>some (q.E,_,_,o,q.G)) hA hZ (fun m i=>rfl) (fun m i s=>rfl)) rfl
noncomputable def ahk (z:EX):Int:=(zh z).A
theorem ank {n:Nat}{q:zb}{y:List EX}{K:List Int→Option Bool}(hy:y.length=(sll q.B).length) (hl:(sll q.B).length≤1048576):∀ (j i m:Nat) (s:List EX),i+j=(sll q.B).length→j<m→s.length=(sll q.B).length→
  qz n q y K m s (((sll q.B).take i).map ahk) (i:Int)=K ((sll q.B).map ahk)
 |0,i,m,s,hi,hm,hs=>by
  obtain ⟨m,rfl⟩:∃ k,m=k+1:=⟨m-1,hZ⟩
  rw [qz,dF hZ,jd,List.take_of_length_le hZ]
 |j+1,i,m,s,hi,hm,hs=>by
  obtain ⟨m,rfl⟩:∃ k,m=k+1:=⟨m-1,hZ⟩
  have hlt:i<(sll q.B).length:=by omega
  have hlt2:i<s.length:=by omega
  have e:((sll q.B).take i).map ahk++[(zh (sll q.B)[i]).A]=((sll q.B).take (i+1)).map ahk:=by
   rw [List.take_succ_eq_append_getElem hlt,List.map_append];rfl
  rw [qz,dT hZ,je,Z7 hlt rfl,jc,qy (by decide) (by rw [List.length_append,List.length_map,List.length_take,List.length_singleton];omega),jc,Z7 hlt2 rfl,jc,e,adZ hZ]
  exact ank hy hl j (i+1) m _ hZ hZ (by rw [List.length_set];exact hs)
theorem amM {n:Nat}(hn:3100000≤n) (hn2:n<10000000) (hw:adN n=some true) {q:zb}{a:Option jx}{tl:Option (List Int)}(hq:aaV q) (ha:wSl aao a) (ht:wSl (wI .u8) tl):abg (n+1) q a tl=some true:=by
 unfold abg
 rw [zx,hw,jc,Bool.not_true,jd]
 obtain ⟨g,hg⟩:=aou hq ha (n:=n) hZ
 rw [hg,jc]
 cases hgt:(g||decide (((sll tl).length:Int)>1000)) with
 |true=>rfl
 |false=>
  rw [jd]
  have htl:(sll tl).length≤1000:=by
   rw [Bool.or_eq_false_iff,decide_eq_false_iff_not] at hgt
   omega
  have hB:=aq0 ht
  refine aeE (Q:=fun o=>o=some true) (fun k=>(∀ t,t∈sll q.E→ajP t=true)→k ()=some true) (fun hn1=>?_) (fun k hk=>?_)
  rotate_left
  ·have:=ajC (F:=fun m i=>qj n q k m i) (l:=sll q.E) (p:=ajP) (kk:=k ()) (e:=some true) hq.1.1 (m:=n) hZ (fun m i x hi e=>by
     show qj _ _ _ _ _=_
     rw [qj,dT hZ,je,Z7 hi e,jc,alY (hq.1.2 x (by rw [←e];exact List.getElem_mem hi)) hZ,jc]
     cases ajP x<;>rfl) (fun m=>by
     show qj _ _ _ _ _=_
     rw [qj,dF hZ,jd])
   refine this.trans ?_
   cases hall:(sll q.E).all ajP with
   |false=>rfl
   |true=>rw [je];exact hk (List.all_eq_true.1 hall)
  have hsz:∀ t,t∈sll q.E→t.size≤20:=fun t h=>by
   have:=hn1 t h
   unfold ajP at this
   rw [jm,jm,decide_eq_true_eq,decide_eq_true_eq] at this
   omega
  obtain ⟨o,ho⟩:=aq5 hq ha (n:=n) hZ
  rw [show (zb.mk q.E q.H q.F q.B q.C q.G)=q from rfl,ho,jc]
  dsimp only
  by_cases hr:air (sll a) q=0
  rotate_left
  ·rw [show (air (sll a) q !=0)=true by simpa using hr];rfl
  rw [show (air (sll a) q !=0)=false by simpa using hr,jd]
  have hQ:=arv hq hr hsz
  have hPl:=aoj hQ
  have hPb:=apv hQ
  refine aeE (Q:=fun o=>o=some true) (fun k=>∀ y,sll y=putQ q++sll tl→k y=some true) (fun y hy=>?_) (fun k hk=>?_)
  rotate_left
  ·rw [anK hZ hZ hQ,jc]
   have read:∀ (y:Option (List Int)),aeM n y=some ():=fun y=>by
    obtain ⟨n,rfl⟩:=ja n 1
    rfl
   cases hem:(sll tl).isEmpty with
   |true=>
    rw [je,qy (by decide) hZ,jc,read,jc]
    refine hk _ ?_
    rw [List.isEmpty_iff] at hem
    rw [hem,List.append_nil];rfl
   |false=>
    rw [jd,qy (by decide) (by rw [List.length_append];omega),jc,read,jc]
    exact hk _ rfl
  obtain ⟨b',e1,e2⟩:=amr hQ (b:=y) (rest:=sll tl) (by rw [hy];exact hPb.app hB) hy (n:=n) hZ
  rw [e2,jc]
  dsimp only
  rw [show ((0:Int)!=0)=false by decide,jd,amy hQ hq hZ,jc,Bool.not_true,jd,asY hZ,jc,e1,show (((sll tl).length:Int)!=((sll tl).length:Int))=false by simp,jd]
  simp only [zE]
  rw [amC hq hZ,jc]
  have hlo:=hq.2.2.2.1.1
  by_cases hno:sll q.B=[]
  ·rw [show mapO cpZ (sll q.B)=none by rw [hno];rfl]
   dsimp only
   obtain ⟨n,rfl⟩:=ja n 1
   rw [aaG,QL,hno]
   rfl
  rw [show mapO cpZ (sll q.B)=some ((sll q.B).map cpZ) by unfold mapO;rw [if_neg hno]]
  dsimp only
  refine Eq.trans (ank (n:=n) (q:=q) (y:=(sll q.B).map cpZ) (by rw [List.length_map]) hlo (sll q.B).length 0 n ((sll q.B).map cpZ) hZ hZ (by rw [List.length_map])) ?_
  try dsimp only
  have:=ajC (F:=fun m i=>ZX n q ((sll q.B).map ahk) (fun _=>some true) m i) (l:=sll q.B) (p:=fun _=>true) (kk:=some true) (e:=some false) hlo (m:=n) hZ (fun m i x hi e=>by
    show ZX _ _ _ _ _ _=_
    have e2:idx ((sll q.B).map ahk) (i:Int)=some (ahk x):=Z7 (by rw [List.length_map];exact hi) (by rw [List.getElem_map,e])
    rw [ZX,dT hZ,je,Z7 hi e,jc,e2,jc]
    show (bif (ahk x !=ahk x) then _ else _)=_
    rw [show (ahk x !=ahk x)=false by simp]
    rfl) (fun m=>by
    show ZX _ _ _ _ _ _=_
    rw [ZX,dF hZ,jd])
  refine Eq.trans this ?_
  rw [show (sll q.B).all (fun _=>true)=true from List.all_eq_true.2 fun _ _=>rfl]
  rfl
theorem apJ:adN 3999999=some true:=rfl
theorem alA {n:Nat}(h:n=4000000) {q:zb}{a:Option jx}{tl:Option (List Int)}(hq:aaV q) (ha:wSl aao a) (ht:wSl (wI .u8) tl):abg n q a tl=some true:=by
 subst h
 exact amM (n:=3999999) (by decide) (by decide) apJ hq ha ht
end Go.Pl
