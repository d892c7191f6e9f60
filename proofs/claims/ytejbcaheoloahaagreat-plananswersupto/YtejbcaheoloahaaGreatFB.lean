import Derived.Test.YtejbcaheoloahaaGreatFA
set_option linter.all false
set_option maxRecDepth 100000
namespace Go.Pl
open Go Go.Ab
theorem avJ {x:zf}{z:EX}(h:z∈sll x.B):szL (zc z)+8≤szL x:=by
 have e:szL (zc z)=PV.bulkL (za z):=by rw [zt z];rfl
 rw [e]
 unfold szL Z7
 cases hk:x.B with
 |none=>rw [hk] at h;cases h
 |some l=>
  rw [hk] at h
  have:=afG (rows:=l.map za) (r:=za z) (List.mem_map_of_mem h)
  rw [show zk za (some l)=.sl (l.map za) from rfl]
  simp only [PV.bulkL,PV.bulk]
  omega
def WX:Nat→zf→Prop
 |0,_=>False
 |s+1,x=>qK x.F∧(sll x.B).length≤1048576∧∀ z,z∈sll x.B→WX s (zc z)
theorem awr:∀ (s:Nat) (x:zf),szL x≤8*s→Zt x→WX s x
 |0,x,h,_=>by
  unfold szL Z7 at h
  simp only [PV.bulkL,PV.bulk] at h
  omega
 |s+1,x,h,hw=>⟨ap6 hw,ac8 hw,fun z hz=>awr s _ (by have:=avJ hz;omega) (ajx hw hz)⟩
theorem W_WX {x:zf}(hw:Zt x):WX 131072 x:=awr _ x hw.2 hw
theorem ai9:∀ {s t:Nat}{x:zf},s≤t→WX s x→WX t x
 |0,_,_,_,h=>h.elim
 |s+1,t,x,hl,h=>by
  obtain ⟨t,rfl⟩:=hX t 1
  exact ⟨h.1,h.2.1,fun z hz=>ai9 hO (h.2.2 z hz)⟩
noncomputable def ZW:Nat→zf→zf→Bool
 |0,_,_=>false
 |s+1,x,y=>((((x.A==y.A)&&(x.C==y.C))&&(x.M==y.M))&&(x.F.A==y.F.A))&&(ac3 x.F y.F&&ZM (fun a b=>ZW s (zc a) (zc b)) (sll x.B) (sll y.B))
noncomputable def abp (s:Nat) (a b:List EX):Bool:=ZM (fun x y=>ZW s (zc x) (zc y)) a b
theorem apD {d m n k:Nat}{rc:Nat→Option (List EX)→Option (List EX)→Option Bool}{a b:Option (List EX)}(ha:(sll a).length≤1048576) (hn:2000000≤n)
  (h:∀ x,x∈sll a→∀ y,y∈sll b→qZ rc n (zc x) (zc y)=some (ZW k (zc x) (zc y))):
  Z4 rc (n+1) a b=some (abp k (sll a) (sll b)):=by
 unfold Z4
 rw [zq]
 unfold zB
 refine afU (F:=fun m i=>zY n rc a b (fun _=>some true) m i) ha hn (fun he m i x y hi e1 e2 m1 m2=>?_) (fun m=>?_)
 ·show zY _ _ _ _ _ _ _=_
  rw [zY,dT hO,jb,e1,hZ,e2,hZ]
  rw [show qZ rc n _ _=_ from h x m1 y m2,hZ]
  cases ZW k (zc x) (zc y)<;>rfl
 show zY _ _ _ _ _ _ _=_
 rw [zY,dF hO,ja]
theorem ah2:∀ (d:Nat) (x:zf),WX d x→∀ (e:Nat) (y:zf),WX e y→∀ k m n,d≤k→d≤m→2000010+2*d≤n→
  qZ (Zl m) n x y=some (ZW k x y)
 |0,x,h,_,_,_,_,_,_,_,_,_=>h.elim
 |d+1,x,h,0,y,h',_,_,_,_,_,_=>h'.elim
 |d+1,x,h,e+1,y,h',k,m,n,hk,hm,hn=>by
  obtain ⟨k,rfl⟩:=hX k 1
  obtain ⟨m,rfl⟩:=hX m 1
  obtain ⟨n,rfl⟩:=hX n 2
  unfold qZ
  rw [zq,ZW]
  cases (((x.A==y.A)&&(x.C==y.C))&&(x.M==y.M))&&(x.F.A==y.F.A) with
  |false=>rfl
  |true=>
   rw [jb,aoF h.1 h'.1 hO,hZ]
   cases ac3 x.F y.F with
   |false=>rfl
   |true=>
    rw [jb,show Zl (m+1) (n+1) x.B y.B=_ from apD (rc:=Zl m) (k:=k) (d:=d) (m:=m) h.2.1 hO (fun z hz w hw=>ah2 d _ (h.2.2 z hz) e _ (h'.2.2 w hw) k m n hO hO hO)]
    rfl
theorem akl:∀ (d:Nat) (x:zf),WX d x→∀ (e:Nat) (y:zf),WX e y→∀ k m n,d≤k→d≤m→2000010+d≤n→
  abw m n x y=some (ZW k x y)
 |0,x,h,_,_,_,_,_,_,_,_,_=>h.elim
 |d+1,x,h,0,y,h',_,_,_,_,_,_=>h'.elim
 |d+1,x,h,e+1,y,h',k,m,n,hk,hm,hn=>by
  obtain ⟨k,rfl⟩:=hX k 1
  obtain ⟨m,rfl⟩:=hX m 1
  obtain ⟨n,rfl⟩:=hX n 1
  show ad0 (abw m) (n+1) x y=_
  unfold ad0
  rw [zq,ZW]
  have e0:((((x.A !=y.A)||(x.C !=y.C))||(x.M !=y.M))||(x.F.A !=y.F.A))=!((((x.A==y.A)&&(x.C==y.C))&&(x.M==y.M))&&(x.F.A==y.F.A)):=by
   rw [Bool.not_and,Bool.not_and,Bool.not_and];rfl
  rw [e0]
  cases (((x.A==y.A)&&(x.C==y.C))&&(x.M==y.M))&&(x.F.A==y.F.A) with
  |false=>rfl
  |true=>
   rw [Bool.not_true,ja,ap2 h.1 h'.1 hO,hZ,jk]
   have e1:(vCmp x.F y.F !=0)=!ac3 x.F y.F:=rfl
   rw [e1]
   cases ac3 x.F y.F with
   |false=>rfl
   |true=>
    rw [Bool.not_true,Bool.false_or,jk]
    unfold zB
    refine afU (F:=fun m' i=>QX n (abw m) x y (fun _=>some true) m' i) h.2.1 hO (fun he m' i z w hi e1 e2 m1 m2=>?_) (fun m'=>?_)
    ·show QX _ _ _ _ _ _ _=_
     rw [QX,dT hO,jb,e1,hZ,e2,hZ]
     rw [show abw m n _ _=_ from akl d _ (h.2.2 z m1) e _ (h'.2.2 w m2) k m n hO hO hO,hZ]
     cases ZW k (zc z) (zc w)<;>rfl
    show QX _ _ _ _ _ _ _=_
    rw [QX,dF hO,ja]
def WXs (d:Nat) (a:List EX):Prop:=∀ z,z∈a→WX d (zc z)
theorem asW {a:Option (List EX)}(h:wSl zJ a):WXs 131072 (sll a):=fun z hz=>W_WX (W_un (h.2 z hz))
theorem ap8 {a b:Option (List EX)}{d e:Nat}(ha:WXs d (sll a)) (hl:(sll a).length≤1048576) (hb:WXs e (sll b)) (hd:d≤140000) {n:Nat}(hn:2280100≤n):
  zP n a b=some (abp 140000 (sll a) (sll b)):=by
 obtain ⟨n,rfl⟩:=hX n 1
 exact apD (rc:=Zl n) (d:=d) (m:=0) hl hO (fun x hx y hy=>ah2 d _ (ha x hx) e _ (hb y hy) 140000 n n hd hO hO)
theorem akM {x y:zf}{d e:Nat}(hx:WX d x) (hy:WX e y) (hd:d≤140000) {n m:Nat}(hn:2280100≤n) (hm:140000≤m):
 qZ (Zl m) n x y=some (ZW 140000 x y):=ah2 d x hx e y hy 140000 m n hd hO hO
theorem aeI {x y:zf}{d e:Nat}(hx:WX d x) (hy:WX e y) (hd:d≤140000) {n:Nat}(hn:2280100≤n):acz n x y=some (ZW 140000 x y):=akl d x hx e y hy 140000 n n hd hO hO
theorem aiB {a b:Option (List EX)}{d e:Nat}(ha:WXs d (sll a)) (hl:(sll a).length≤1048576) (hb:WXs e (sll b)) (hd:d≤140000) {n:Nat}(hn:2280200≤n):
  adI n a b=some (abp 140000 (sll a) (sll b)):=by
 obtain ⟨n,rfl⟩:=hX n 1
 unfold adI
 rw [zq]
 unfold zB
 refine afU (F:=fun m i=>Qu n a b (fun _=>some true) m i) hl hO (fun he m i x y hi e1 e2 m1 m2=>?_) (fun m=>?_)
 ·show Qu _ _ _ _ _ _=_
  rw [Qu,dT hO,jb,e1,hZ,e2,hZ]
  rw [show acz n _ _=_ from aeI (ha x m1) (hb y m2) hd hO,hZ]
  cases ZW 140000 (zc x) (zc y)<;>rfl
 show Qu _ _ _ _ _ _=_
 rw [Qu,dF hO,ja]
theorem anA:∀ (d:Nat) (x:zf),WX d x→∀ k,d≤k→ZW k x x=true
 |0,x,h,_,_=>h.elim
 |d+1,x,h,k,hk=>by
  obtain ⟨k,rfl⟩:=hX k 1
  rw [ZW]
  simp only [beq_self_eq_true,jk,jj]
  exact ⟨by unfold ac3;rw [acq.self];rfl,aqj _ fun z hz=>anA d _ (h.2.2 z hz) k hO⟩
noncomputable def afs:Nat→zf→zf
 |0,x=>x
 |s+1,x=>⟨x.A,x.C,x.M,x.F,mapO (fun z=>zi (afs s (zc z))) (sll x.B)⟩
theorem alB:∀ (d:Nat) (x:zf),WX d x→∀ k m n,d≤k→d≤m→2000010+d≤n→abd m n x=some (afs k x)
 |0,x,h,_,_,_,_,_,_=>h.elim
 |d+1,x,h,k,m,n,hk,hm,hn=>by
  obtain ⟨k,rfl⟩:=hX k 1
  obtain ⟨m,rfl⟩:=hX m 1
  obtain ⟨n,rfl⟩:=hX n 1
  show ae3 (abd m) (n+1) x=_
  unfold ae3
  rw [zq,afs]
  unfold zB
  refine Eq.trans (aua (f:=fun z=>zi (afs k (zc z))) (l3:=fun m' s i=>qj n (abd m) x (fun|none=>some (zf.mk x.A x.C x.M x.F none)|(some y3)=>some (zf.mk x.A x.C x.M x.F (some y3))) m' s i) (l:=sll x.B) (K:=fun s=>some (zf.mk x.A x.C x.M x.F s)) (b:=88) (by decide) h.2.1 hO (fun m' i s z hi e=>?_) (fun m' s=>?_)) rfl
  ·have hz:=alB d _ (h.2.2 z (by rw [←e];exact List.getElem_mem hi)) k m n hO hO hO
   cases s with
   |none=>
    show qj _ _ _ _ _ _ _=_
    rw [qj,dT hO,jb,ZB hi e,hZ]
    rw [show abd m n _=_ from hz];rfl
   |some s=>
    show qj _ _ _ _ _ _ _=_
    rw [qj,dT hO,jb,ZB hi e,hZ]
    rw [show abd m n _=_ from hz];rfl
  cases s with
  |none=>
   show qj _ _ _ _ _ _ _=_
   rw [qj,dF hO,ja]
  |some s=>
   show qj _ _ _ _ _ _ _=_
   rw [qj,dF hO,ja]
noncomputable def cpE (z:EX):EX:=zi (afs 140000 (zc z))
theorem aaH {x:zf}{d:Nat}(hx:WX d x) (hd:d≤140000) {n:Nat}(hn:2140100≤n):qg n x=some (afs 140000 x):=alB d x hx 140000 n n hd hO hO
theorem ag4:∀ (d:Nat) (x:zf),WX d x→∀ k,WX d (afs k x)
 |0,x,h,_=>h.elim
 |d+1,x,h,0=>h
 |d+1,x,h,k+1=>by
  refine ⟨h.1,?_,fun z hz=>?_⟩
  ·show (sll (mapO _ _)).length≤_
   rw [amV,List.length_map];exact h.2.1
  have hz':z∈sll (mapO (fun z=>zi (afs k (zc z))) (sll x.B)):=hz
  rw [amV] at hz'
  obtain ⟨w,hw,rfl⟩:=List.mem_map.1 hz'
  rw [Z8]
  exact ag4 d _ (h.2.2 w hw) k
theorem akw {α β:Type}{p:β→α→Bool}(f:α→β) (l:List α) (h:∀ x,x∈l→p (f x) x=true):ZM p (l.map f) l=true:=by
 rw [akb (by rw [List.length_map]),List.all_eq_true]
 intro q hq
 obtain ⟨i,hi,rfl⟩:=List.getElem_of_mem hq
 rw [List.getElem_zip,List.getElem_map]
 exact h _ (List.getElem_mem _)
theorem ai0:∀ (d:Nat) (x:zf),WX d x→∀ k s,d≤s→ZW s (afs k x) x=true
 |0,x,h,_,_,_=>h.elim
 |d+1,x,h,0,s,hs=>anA (d+1) x h s hs
 |d+1,x,h,k+1,s,hs=>by
  obtain ⟨s,rfl⟩:=hX s 1
  rw [ZW,afs]
  simp only [beq_self_eq_true,jk,jj]
  refine ⟨by unfold ac3;rw [acq.self];rfl,?_⟩
  rw [amV]
  exact akw _ _ fun z hz=>by rw [Z8];exact ai0 d _ (h.2.2 z hz) k s hO
noncomputable def ahM (x y:zI):Bool:=(x.A==y.A)&&ZW 140000 x.Q y.Q
def ajk (x y:Zr):Bool:=(x.E==y.E)&&(x.S==y.S)
noncomputable def auw (a b:zr):Bool:=
 ZM sEq (sll a.O) (sll b.O)&&(abp 140000 (sll a.H) (sll b.H)&&((a.P==b.P)&&(abp 140000 (sll a.E) (sll b.E)&&(ZM ahM (sll a.D) (sll b.D)&&ZM ajk (sll a.G) (sll b.G)))))
def LXs (d:Nat) (a:Option (List EX)):Prop:=(sll a).length≤1048576∧WXs d (sll a)
def LAs (d:Nat) (a:Option (List zI)):Prop:=(sll a).length≤1048576∧∀ g,g∈sll a→WX d g.Q
theorem ai5 (d:Nat):LXs d none:=⟨by simp [sll],fun z hz=>by cases hz⟩
theorem as1 (d:Nat):LAs d none:=⟨by simp [sll],fun z hz=>by cases hz⟩
theorem apl {a:Option (List EX)}(h:wSl zJ a):LXs 131072 a:=⟨h.1,asW h⟩
theorem apg {g:zI}(h:QK g):Zt g.Q:=h.2
theorem au9 {a:Option (List zI)}(h:wSl QK a):LAs 131072 a:=⟨h.1,fun g hg=>W_WX (apg (h.2 g hg))⟩
structure QW (d:Nat) (q:zr):Prop where
 rels:(sll q.O).length≤1048576
 wher:LXs d q.H
 out:LXs d q.E
 aggs:LAs d q.D
 order:(sll q.G).length≤1048576
theorem arZ {α β:Type}{a:List α}{b:List β}:(((a.length:Int)!=(b.length:Int)))=!decide (a.length=b.length):=by
 by_cases h:a.length=b.length
 ·rw [dT h,h];simp
 rw [dF h];simp;omega
theorem agz {α β:Type}{p:α→β→Bool}{a:List α}{b:List β}(h:decide (a.length=b.length)=false):ZM p a b=false:=by unfold ZM;rw [h];rfl
theorem ahg {α β:Type}{p:α→β→Bool}{a:List α}{b:List β}(h:decide (a.length=b.length)=true):ZM p a b=(a.zip b).all fun q=>p q.1 q.2:=by unfold ZM;rw [h];rfl
theorem ajq {a b:zr}{d e:Nat}(ha:QW d a) (hb:QW e b) (hd:d≤140000) {n:Nat}(hn:2280300≤n):adk n a b=some (auw a b):=by
 obtain ⟨n,rfl⟩:=hX n 1
 unfold adk
 rw [zq]
 unfold auw
 rw [arZ,arZ,arZ,aiB ha.wher.2 ha.wher.1 hb.wher.2 hd hO,aiB ha.out.2 ha.out.1 hb.out.2 hd hO]
 simp only [hZ]
 cases h1:decide ((sll a.O).length=(sll b.O).length) with
 |false=>rw [agz h1];rfl
 |true=>
  rw [ahg h1,Bool.not_true,ja]
  cases abp 140000 (sll a.H) (sll b.H) with
  |false=>rw [Bool.false_and,Bool.and_false];rfl
  |true=>
   rw [jk,Bool.not_true,Bool.false_or]
   cases (a.P==b.P) with
   |false=>rw [Bool.false_and,Bool.and_false];rfl
   |true=>
    rw [jk,Bool.not_true,ja]
    cases abp 140000 (sll a.E) (sll b.E) with
    |false=>rw [Bool.false_and,Bool.and_false];rfl
    |true=>
     rw [jk,Bool.not_true,Bool.false_or]
     cases h2:decide ((sll a.D).length=(sll b.D).length) with
     |false=>rw [agz h2,Bool.false_and,Bool.and_false];rfl
     |true=>
      rw [ahg h2,Bool.not_true,Bool.false_or]
      cases h3:decide ((sll a.G).length=(sll b.G).length) with
      |false=>rw [agz h3,Bool.and_false,Bool.and_false];rfl
      |true=>
       rw [ahg h3,Bool.not_true,ja]
       simp only [zB]
       rw [ag5 (F:=fun m i=>QO n a b (fun _=>Qc n a b (fun _=>qn n a b (fun _=>some true) n 0) n 0) m i) (p:=sEq) (kk:=Qc n a b (fun _=>qn n a b (fun _=>some true) n 0) n 0) (e:=some false) (of_decide_eq_true h1) ha.rels hO (fun m i x y hi e1 e2 m1 m2=>by
        show QO _ _ _ _ _ _=_
        rw [QO,dT hO,jb,e1,hZ,e2,hZ]
        cases sEq x y<;>rfl) (fun m=>by
        show QO _ _ _ _ _ _=_
        rw [QO,dF hO,ja])]
       cases ((sll a.O).zip (sll b.O)).all (fun q=>sEq q.1 q.2) with
       |false=>rfl
       |true=>
        rw [jb,jk]
        rw [ag5 (F:=fun m i=>Qc n a b (fun _=>qn n a b (fun _=>some true) n 0) m i) (p:=ahM) (kk:=qn n a b (fun _=>some true) n 0) (e:=some false) (of_decide_eq_true h2) ha.aggs.1 hO (fun m i x y hi e1 e2 m1 m2=>by
         show Qc _ _ _ _ _ _=_
         rw [Qc,dT hO,jb,e1,hZ,e2,hZ,aeI (ha.aggs.2 x m1) (hb.aggs.2 y m2) hd hO,hZ]
         unfold ahM
         rw [show (x.A !=y.A)=!(x.A==y.A) from rfl]
         cases (x.A==y.A)<;>cases ZW 140000 x.Q y.Q<;>rfl) (fun m=>by
         show Qc _ _ _ _ _ _=_
         rw [Qc,dF hO,ja])]
        cases ((sll a.D).zip (sll b.D)).all (fun q=>ahM q.1 q.2) with
        |false=>rfl
        |true=>
         rw [jb,jk]
         rw [ag5 (F:=fun m i=>qn n a b (fun _=>some true) m i) (p:=ajk) (kk:=some true) (e:=some false) (of_decide_eq_true h3) ha.order hO (fun m i x y hi e1 e2 m1 m2=>by
          show qn _ _ _ _ _ _=_
          rw [qn,dT hO,jb,e1,hZ,e2,hZ]
          unfold ajk
          rw [show (x.E !=y.E)=!(x.E==y.E) from rfl]
          cases (x.E==y.E)<;>cases (x.S==y.S)<;>rfl) (fun m=>by
          show qn _ _ _ _ _ _=_
          rw [qn,dF hO,ja])]
         cases ((sll a.G).zip (sll b.G)).all (fun q=>ajk q.1 q.2)<;>rfl
structure PX1 (x:zh):Prop where
 wher:LXs 131072 x.H
 left:LXs 131072 x.J
 right:LXs 131072 x.L
 out:LXs 131072 x.E
 aggs:LAs 131072 x.D
 order:(sll x.G).length≤1048576
def WPl:Nat→zh→Prop
 |0,_=>False
 |s+1,x=>PX1 x∧(sll x.B).length≤1048576∧∀ z,z∈sll x.B→WPl s (zj z)
theorem aj4 {x:zh}(h:PW x):PX1 x:=⟨apl h.2.2.1,apl h.2.2.2.1,apl h.2.2.2.2.1,apl h.2.2.2.2.2.1,au9 h.2.2.2.2.2.2.1,h.2.2.2.2.2.2.2.1⟩
theorem ar4:∀ (s:Nat) (x:zh),WD s x→WPl s x
 |0,x,h=>h.elim
 |s+1,x,h=>⟨aj4 h.1,h.2.1,fun z hz=>ar4 s _ (h.2.2 z hz)⟩
theorem aq1 {a b:Option (List zI)}{d e:Nat}(ha:LAs d a) (hb:LAs e b) (hd:d≤140000) {n:Nat}(hn:2280300≤n):ZK n a b=some (ZM ahM (sll a) (sll b)):=by
 obtain ⟨n,rfl⟩:=hX n 1
 unfold ZK
 rw [zq]
 unfold zB
 refine afU (F:=fun m i=>Zc n a b (fun _=>some true) m i) ha.1 hO (fun he m i x y hi e1 e2 m1 m2=>?_) (fun m=>?_)
 ·show Zc _ _ _ _ _ _=_
  rw [Zc,dT hO,jb,e1,hZ,e2,hZ]
  obtain ⟨n,rfl⟩:=hX n 1
  unfold ai7 ahM
  rw [zq]
  cases (x.A==y.A) with
  |false=>rfl
  |true=>
   rw [jb,show qZ zP n x.Q y.Q=some (ZW 140000 x.Q y.Q) from ?_]
   ·cases ZW 140000 x.Q y.Q<;>rfl
   have hx:=ha.2 x m1;have hy:=hb.2 y m2
   cases d with
   |zero=>exact hx.elim
   |succ d=>
    cases e with
    |zero=>exact hy.elim
    |succ e=>
     obtain ⟨n,rfl⟩:=hX n 1
     have:=akM (m:=n) (n:=n+1) hx hy hd hO hO
     unfold qZ at this ⊢
     exact this
 show Zc _ _ _ _ _ _=_
 rw [Zc,dF hO,ja]
theorem arP {a b:Option (List Zr)}(ha:(sll a).length≤1048576) {n:Nat}(hn:2000010≤n):aba n a b=some (ZM ajk (sll a) (sll b)):=by
 obtain ⟨n,rfl⟩:=hX n 1
 unfold aba
 rw [zq]
 unfold zB
 refine afU (F:=fun m i=>qk n a b (fun _=>some true) m i) ha hO (fun he m i x y hi e1 e2 m1 m2=>?_) (fun m=>?_)
 ·show qk _ _ _ _ _ _=_
  rw [qk,dT hO,jb,e1,hZ,e2,hZ]
  unfold ajk
  cases (x.E==y.E)<;>cases (x.S==y.S)<;>rfl
 show qk _ _ _ _ _ _=_
 rw [qk,dF hO,ja]
theorem arB {S α β R:Type}{F:Nat→S→Int→Option R}{ks:List α}{f:α→List β}{v:S→List β}{K:S→Option R}
  (hF:∀ (m i:Nat) (s:S) (z:α),(hi:i<ks.length)→ks[i]=z→(v s).length+(f z).length≤1100000→∃ s',v s'=v s++f z∧F (m+1) s (i:Int)=F m s' (IntKind.wrap .i64 ((i:Int)+1)))
  (hE:∀ (m:Nat) (s:S),F (m+1) s (ks.length:Int)=K s) (hks:ks.length≤1048576):
  ∀ (l p:List α) (m:Nat) (s:S),ks=p++l→l.length<m→(v s).length+(l.flatMap f).length≤1100000→∃ s',v s'=v s++l.flatMap f∧F m s (p.length:Int)=K s'
 |[],p,m,s,he,hm,_=>by
  obtain ⟨m,rfl⟩:=hX m 1
  have:ks.length=p.length:=by rw [he];simp
  exact ⟨s,by simp,by rw [←this,hE]⟩
 |z::l,p,m,s,he,hm,hb=>by
  obtain ⟨m,rfl⟩:=hX m 1
  rw [List.length_cons] at hm
  rw [List.flatMap_cons,List.length_append] at hb
  have hlen:ks.length=p.length+(l.length+1):=by rw [he];simp
  obtain ⟨s1,h1,h2⟩:=hF m p.length s z hO (by simp [he]) hO
  obtain ⟨s2,h3,h4⟩:=arB hF hE hks l (p++[z]) m s1 (by rw [he];simp) hO (by rw [h1,List.length_append];omega)
  refine ⟨s2,by rw [h3,h1,List.flatMap_cons,List.append_assoc],?_⟩
  rw [h2,abE hO,show p.length+1=(p++[z]).length by simp,h4]
theorem aa4 {S α β R:Type}{F:Nat→S→Int→Option R}{ks:List α}{f:α→List β}(v:S→List β) {K:S→Option R}{m:Nat}(hm:2000000≤m) (s:S) (hks:ks.length≤1048576) (hb:(v s).length+(ks.flatMap f).length≤1100000)
  (hF:∀ (m i:Nat) (s:S) (z:α),(hi:i<ks.length)→ks[i]=z→(v s).length+(f z).length≤1100000→∃ s',v s'=v s++f z∧F (m+1) s (i:Int)=F m s' (IntKind.wrap .i64 ((i:Int)+1)))
  (hE:∀ (m:Nat) (s:S),F (m+1) s (ks.length:Int)=K s):∃ s',v s'=v s++ks.flatMap f∧F m s 0=K s':=
 arB hF hE hks ks [] m s rfl hO hb
theorem aiI {α:Type}(l:List α) (z:α):idx (l++[z]) (l.length:Int)=some z:=by rw [aaY];simp
theorem ahU {α:Type}(l:List α) (z w:α):(l++[z]).set (Int.toNat (l.length:Int)) w=l++[w]:=by
 rw [show Int.toNat (l.length:Int)=l.length by simp];simp
abbrev V0:zn:=⟨0,0,0,ByteArray.empty⟩
noncomputable def eqC (q:EX×EX):EX:=zi ⟨7,0,0,V0,some [cpE q.1,cpE q.2]⟩
noncomputable def eqR (q:EX×EX):EX:=zi ⟨7,0,0,V0,some [zi (zc q.1),zi (zc q.2)]⟩
def ahA (x:zh):Bool:=(x.A==3)||(x.A==4)
noncomputable def zipP (x:zh):List (EX×EX):=bif ahA x then (sll x.J).zip (sll x.L) else []
noncomputable def ownA (x:zh):List EX:=(sll x.H).flatMap (fun z=>[cpE z])++(zipP x).flatMap (fun q=>[eqC q])
noncomputable def ownB (x:zh):List EX:=sll x.H++(zipP x).flatMap (fun q=>[eqR q])
noncomputable def appC:Nat→zh→List EX
 |0,_=>[]
 |k+1,x=>(sll x.B).flatMap (fun z=>appC k (zj z))++ownA x
noncomputable def appR:Nat→zh→List EX
 |0,_=>[]
 |k+1,x=>(sll x.B).flatMap (fun z=>appR k (zj z))++ownB x
theorem avR (z:EX):1≤PV.bulkL (za z):=by
 rw [zt z]
 unfold Z7
 simp only [PV.bulkL,PV.bulk];omega
theorem amM {α:Type}{R:α→List PV}(h:∀ z,1≤PV.bulkL (R z)):∀ (l:List α),l.length≤PV.bulkLL (l.map R)
 |[]=>Nat.zero_le _
 |z::l=>by
  have:=h z;have:=amM h l
  simp only [List.map_cons,PV.bulkLL,List.length_cons];omega
theorem ati (s:Option (List EX)):(sll s).length≤(zk za s).bulk:=by
 cases s with
 |none=>exact Nat.zero_le _
 |some l=>
  have:=amM avR l
  show l.length≤PV.bulk (.sl (l.map za))
  simp only [PV.bulk];omega
theorem qD {α β:Type}(f:α→β) (l:List α):l.flatMap (fun z=>[f z])=l.map f:=by
 induction l with
 |nil=>rfl
 |cons z l ih=>rw [List.flatMap_cons,ih];rfl
theorem arC (x:zh):(zipP x).length≤(sll x.J).length:=by
 unfold zipP
 cases ahA x with
 |false=>exact Nat.zero_le _
 |true=>rw [jb,List.length_zip];omega
theorem amz (x:zh):(ownA x).length≤(zk za x.H).bulk+(zk za x.J).bulk∧(ownB x).length=(ownA x).length:=by
 have h1:=ati x.H;have h2:=ati x.J;have h3:=arC x
 unfold ownA ownB
 rw [qD,qD,qD,List.length_append,List.length_append,List.length_map,List.length_map,List.length_map]
 exact ⟨hO,rfl⟩
theorem apQ (f:zh→List EX) (h:∀ x,(f x).length≤szP x):∀ (l:List PX),(l.flatMap fun z=>f (zj z)).length≤PV.bulkLL (l.map zA)
 |[]=>Nat.zero_le _
 |z::l=>by
  have h1:=h (zj z);have h2:=apQ f h l
  rw [List.flatMap_cons,List.length_append,List.map_cons,PV.bulkLL]
  have:szP (zj z)=PV.bulkL (zA z):=by rw [Zd z];rfl
  omega
theorem arK (x:zh):(zk za x.H).bulk+(zk za x.J).bulk+(match x.B with|none=>0|some l=>PV.bulkLL (l.map zA))≤szP x:=by
 unfold szP aaM
 cases x.B with
 |none=>simp only [PV.bulkL];omega
 |some l=>
  rw [show zk zA (some l)=.sl (l.map zA) from rfl]
  simp only [PV.bulkL,PV.bulk];omega
theorem atw (f:zh→List EX) (own:zh→List EX) (h:∀ x,(f x).length≤szP x) (ho:∀ x,(own x).length≤(zk za x.H).bulk+(zk za x.J).bulk) (x:zh):
  ((sll x.B).flatMap (fun z=>f (zj z))++own x).length≤szP x:=by
 have h1:=arK x;have h2:=ho x
 rw [List.length_append]
 cases hk:x.B with
 |none=>rw [hk] at h1;simp only [sll,List.flatMap_nil,List.length_nil] at h1 ⊢;omega
 |some l=>
  have h3:=apQ f h l
  rw [hk] at h1
  simp only [sll] at h1 ⊢;omega
theorem am4:∀ (k:Nat) (x:zh),(appC k x).length≤szP x
 |0,x=>Nat.zero_le _
 |k+1,x=>atw (appC k) ownA (am4 k) (fun x=>(amz x).1) x
theorem ane:∀ (k:Nat) (x:zh),(appR k x).length≤szP x
 |0,x=>Nat.zero_le _
 |k+1,x=>atw (appR k) ownB (ane k) (fun x=>by rw [(amz x).2];exact (amz x).1) x
theorem agk (x:zh):(if ((sll x.L).length:Int)<((sll x.J).length:Int) then ((sll x.L).length:Int) else ((sll x.J).length:Int))=((((sll x.J).zip (sll x.L)).length:Nat):Int):=by
 rw [List.length_zip];split<;>omega
theorem aqo {α β:Type}{a:List α}{b:List β}{i:Nat}{z:α×β}(hi:i<(a.zip b).length) (e:(a.zip b)[i]=z):idx a (i:Int)=some z.1∧idx b (i:Int)=some z.2:=by
 have h:=hi
 rw [List.length_zip] at h
 rw [List.getElem_zip] at e
 subst e
 exact ⟨ZB hO rfl,ZB hO rfl⟩
theorem asZ (x:zh):((x.A !=3)&&(x.A !=4))=!ahA x:=by
 unfold ahA;rw [Bool.not_or];rfl
theorem apZ {α β:Type}{a:List α}{b:List β}{i:Nat}{z:α×β}(hi:i<(a.zip b).length) (e:(a.zip b)[i]=z):z.1∈a∧z.2∈b:=by
 have h:=List.getElem_mem hi
 rw [e] at h
 obtain ⟨z1,z2⟩:=z
 exact ⟨(List.of_mem_zip h).1,(List.of_mem_zip h).2⟩
theorem aro {x:zh}(h:PX1 x) {n:Nat}(hn:2140200≤n) (hs:szP x≤1048576):∃ o,Qx n x=some o∧sll o=ownA x:=by
 obtain ⟨n,rfl⟩:=hX n 1
 unfold Qx
 rw [zq]
 unfold zB
 have hlen:=(amz x).1
 have hsz:=arK x
 unfold ownA at hlen
 rw [List.length_append,qD,qD,List.length_map,List.length_map] at hlen
 obtain ⟨s,h1,h2⟩:=aa4 (F:=fun m s i=>Zp n x (fun|none=>bif ((x.A !=3)&&(x.A !=4)) then some none else zZ n x n none 0|(some y3)=>bif ((x.A !=3)&&(x.A !=4)) then some (some y3) else ZJ n x n y3 0) m s i) (ks:=sll x.H) (f:=fun z=>[cpE z]) sll (K:=fun s=>match s with|none=>bif ((x.A !=3)&&(x.A !=4)) then some none else zZ n x n none 0|(some y3)=>bif ((x.A !=3)&&(x.A !=4)) then some (some y3) else ZJ n x n y3 0) (m:=n) hO none h.wher.1 (by show 0+_≤_;rw [qD,List.length_map];omega) (fun m i s z hi e hb=>by
  have hz:=aaH (h.wher.2 z (by rw [←e];exact List.getElem_mem hi)) hO (n:=n) hO
  refine ⟨some (sll s++[cpE z]),rfl,?_⟩
  simp only [List.length_cons,List.length_nil] at hb
  cases s with
  |none=>
   show Zp _ _ _ _ _ _=_
   rw [Zp,dT hO,jb,ZB hi e,hZ]
   rw [show qg n _=_ from hz];rfl
  |some s=>
   show Zp _ _ _ _ _ _=_
   rw [Zp,dT hO,jb,ZB hi e,hZ]
   rw [show qg n _=_ from hz,hZ,qF (by have hb':s.length+1≤1100000:=hb;rw [List.length_append];simp only [List.length_cons,List.length_nil];omega) (by decide),hZ,aiI,hZ,ahU]
   rfl) (fun m s=>by
  cases s with
  |none=>show Zp _ _ _ _ _ _=_;rw [Zp,dF hO,ja]
  |some s=>show Zp _ _ _ _ _ _=_;rw [Zp,dF hO,ja])
 have hg:Zp n x (fun|none=>bif ((x.A !=3)&&(x.A !=4)) then some none else zZ n x n none 0|(some y3)=>bif ((x.A !=3)&&(x.A !=4)) then some (some y3) else ZJ n x n y3 0) n none 0=_:=h2
 have hgoal:∃ o,(match s with|none=>bif ((x.A !=3)&&(x.A !=4)) then some none else zZ n x n none 0|(some y3)=>bif ((x.A !=3)&&(x.A !=4)) then some (some y3) else ZJ n x n y3 0)=some o∧sll o=ownA x:=by
  rw [asZ]
  unfold ownA zipP
  unfold zipP at hlen
  have h1':sll s=(sll x.H).flatMap (fun z=>[cpE z]):=h1
  cases hk:ahA x with
  |false=>
   cases s with
   |none=>exact ⟨none,rfl,by rw [h1'];simp⟩
   |some s=>exact ⟨some s,rfl,by rw [h1'];simp⟩
  |true=>
   rw [hk] at hlen
   rw [Bool.not_true,jb]
   simp only [ja]
   rw [jb] at hlen
   have hl2:((sll x.J).zip (sll x.L)).length≤1048576:=by rw [List.length_zip];have:=h.left.1;omega
   cases s with
   |none=>
    obtain ⟨s2,h3,h4⟩:=aa4 (F:=fun m s i=>zZ n x m s i) (ks:=(sll x.J).zip (sll x.L)) (f:=fun q=>[eqC q]) sll (K:=fun s=>some s) (m:=n) hO none hl2 (by show 0+_≤_;rw [qD,List.length_map];omega) (fun m i s z hi e hb=>by
     obtain ⟨e1,e2⟩:=aqo hi e
     obtain ⟨m1,m2⟩:=apZ hi e
     have hz1:=aaH (h.left.2 z.1 m1) hO (n:=n) hO
     have hz2:=aaH (h.right.2 z.2 m2) hO (n:=n) hO
     refine ⟨some (sll s++[eqC z]),rfl,?_⟩
     simp only [List.length_cons,List.length_nil] at hb
     cases s with
     |none=>
      show zZ _ _ _ _ _=_
      rw [zZ,agk,dT hO,jb,e1,hZ]
      rw [show qg n _=_ from hz1,hZ,e2,hZ,show qg n _=_ from hz2];rfl
     |some s=>
      show zZ _ _ _ _ _=_
      rw [zZ,agk,dT hO,jb,e1,hZ]
      rw [show qg n _=_ from hz1,hZ,e2,hZ,show qg n _=_ from hz2,hZ,qF (by have hb':s.length+1≤1100000:=hb;rw [List.length_append];simp only [List.length_cons,List.length_nil];omega) (by decide),hZ,aiI,hZ,ahU]
      rfl) (fun m s=>by
     cases s with
     |none=>show zZ _ _ _ _ _=_;rw [zZ,agk,dF hO,ja]
     |some s=>show zZ _ _ _ _ _=_;rw [zZ,agk,dF hO,ja])
    exact ⟨s2,h4,by rw [h3,←h1']⟩
   |some s=>
    obtain ⟨s2,h3,h4⟩:=aa4 (F:=fun m s i=>ZJ n x m s i) (ks:=(sll x.J).zip (sll x.L)) (f:=fun q=>[eqC q]) (fun s=>s) (K:=fun s=>some (some s)) (m:=n) hO s hl2 (by have h1s:s=_:=h1';rw [h1s,qD,qD,List.length_map,List.length_map];omega) (fun m i s z hi e hb=>by
     obtain ⟨e1,e2⟩:=aqo hi e
     obtain ⟨m1,m2⟩:=apZ hi e
     have hz1:=aaH (h.left.2 z.1 m1) hO (n:=n) hO
     have hz2:=aaH (h.right.2 z.2 m2) hO (n:=n) hO
     refine ⟨s++[eqC z],rfl,?_⟩
     simp only [List.length_cons,List.length_nil] at hb
     show ZJ _ _ _ _ _=_
     rw [ZJ,agk,dT hO,jb,e1,hZ]
     rw [show qg n _=_ from hz1,hZ,e2,hZ,show qg n _=_ from hz2,hZ,qF (by rw [List.length_append];simp only [List.length_cons,List.length_nil];omega) (by decide),hZ,aiI,hZ,ahU]
     rfl) (fun m s=>by
     show ZJ _ _ _ _ _=_;rw [ZJ,agk,dF hO,ja])
    exact ⟨some s2,h4,by show s2=_;rw [h3,←h1'];rfl⟩
 obtain ⟨o,ho,hs⟩:=hgoal
 exact ⟨o,by refine Eq.trans hg ?_;exact ho,hs⟩
theorem alE {x:zh}(h:PX1 x) {n:Nat}(hn:2140200≤n) {a:List EX}(hb:a.length+(ownA x).length≤1100000):ZZ n a x=some (a++ownA x):=by
 obtain ⟨n,rfl⟩:=hX n 1
 unfold ZZ
 rw [zq]
 unfold zB
 unfold ownA at hb
 rw [List.length_append,qD,qD,List.length_map,List.length_map] at hb
 obtain ⟨s,h1,h2⟩:=aa4 (F:=fun m s i=>Z3 n x (fun (y1:jm)=>bif ((x.A !=3)&&(x.A !=4)) then some y1 else Zu n x n y1 0) m s i) (ks:=sll x.H) (f:=fun z=>[cpE z]) (fun s=>s) (K:=fun y1=>bif ((x.A !=3)&&(x.A !=4)) then some y1 else Zu n x n y1 0) (m:=n) hO a h.wher.1 (by rw [qD,List.length_map];omega) (fun m i s z hi e hb=>by
  have hz:=aaH (h.wher.2 z (by rw [←e];exact List.getElem_mem hi)) hO (n:=n) hO
  refine ⟨s++[cpE z],rfl,?_⟩
  simp only [List.length_cons,List.length_nil] at hb
  show Z3 _ _ _ _ _ _=_
  rw [Z3,dT hO,jb,ZB hi e,hZ]
  rw [show qg n _=_ from hz,hZ,qF (by rw [List.length_append];simp only [List.length_cons,List.length_nil];omega) (by decide),hZ,aiI,hZ,ahU]
  rfl) (fun m s=>by
  show Z3 _ _ _ _ _ _=_;rw [Z3,dF hO,ja])
 have hg:Z3 n x (fun (y1:jm)=>bif ((x.A !=3)&&(x.A !=4)) then some y1 else Zu n x n y1 0) n a 0=_:=h2
 refine Eq.trans hg ?_
 rw [asZ]
 unfold ownA
 unfold zipP at hb ⊢
 cases hk:ahA x with
 |false=>show some s=_;rw [h1];simp
 |true=>
  rw [hk] at hb
  rw [Bool.not_true]
  show Zu n x n s 0=_
  rw [jb] at hb ⊢
  have hl2:((sll x.J).zip (sll x.L)).length≤1048576:=by rw [List.length_zip];have:=h.left.1;omega
  have hs:s.length=a.length+(sll x.H).length:=by rw [h1,List.length_append,qD,List.length_map]
  obtain ⟨s2,h3,h4⟩:=aa4 (F:=fun m s i=>Zu n x m s i) (ks:=(sll x.J).zip (sll x.L)) (f:=fun q=>[eqC q]) (fun s=>s) (K:=fun s=>some s) (m:=n) hO s hl2 (by rw [qD,List.length_map];omega) (fun m i s z hi e hb=>by
   obtain ⟨e1,e2⟩:=aqo hi e
   obtain ⟨m1,m2⟩:=apZ hi e
   have hz1:=aaH (h.left.2 z.1 m1) hO (n:=n) hO
   have hz2:=aaH (h.right.2 z.2 m2) hO (n:=n) hO
   refine ⟨s++[eqC z],rfl,?_⟩
   simp only [List.length_cons,List.length_nil] at hb
   show Zu _ _ _ _ _=_
   rw [Zu,agk,dT hO,jb,e1,hZ]
   rw [show qg n _=_ from hz1,hZ,e2,hZ,show qg n _=_ from hz2,hZ,qF (by rw [List.length_append];simp only [List.length_cons,List.length_nil];omega) (by decide),hZ,aiI,hZ,ahU]
   rfl) (fun m s=>by
   show Zu _ _ _ _ _=_;rw [Zu,agk,dF hO,ja])
  have hg2:Zu n x n s 0=some s2:=h4
  rw [hg2,h3,h1,List.append_assoc]
theorem amJ (k:Nat) (x:zh):(appC (k+1) x).length=((sll x.B).flatMap (fun z=>appC k (zj z))).length+(ownA x).length:=by rw [appC,List.length_append]
theorem arL:∀ (d:Nat) (x:zh),WPl d x→∀ (k m n:Nat) (a:List EX),d≤k→d≤m→2140300+d≤n→a.length+(appC k x).length≤1100000→ZU m n a x=some (a++appC k x)
 |0,x,h,_,_,_,_,_,_,_,_=>h.elim
 |d+1,x,h,k,m,n,a,hk,hm,hn,hb=>by
  obtain ⟨k,rfl⟩:=hX k 1
  obtain ⟨m,rfl⟩:=hX m 1
  obtain ⟨n,rfl⟩:=hX n 1
  obtain ⟨hp,hl,hk1⟩:=h
  rw [amJ] at hb
  show qA (ZU m) (n+1) a x=_
  unfold qA
  rw [zq]
  unfold zB
  obtain ⟨s,h1,h2⟩:=aa4 (F:=fun m' s i=>Zf n (ZU m) x (fun (y1:jm)=>(ZZ n y1 x).bind fun x10=>some x10) m' s i) (ks:=sll x.B) (f:=fun z=>appC k (zj z)) (fun s=>s) (K:=fun y1=>(ZZ n y1 x).bind fun x10=>some x10) (m:=n) hO a hl hO (fun m' i s z hi e hb'=>by
   refine ⟨s++appC k (zj z),rfl,?_⟩
   show Zf _ _ _ _ _ _ _=_
   rw [Zf,dT hO,jb,ZB hi e,hZ,arL d _ (hk1 z (by rw [←e];exact List.getElem_mem hi)) k m n s hO hO hO hb',hZ]) (fun m' s=>by
   show Zf _ _ _ _ _ _ _=_
   rw [Zf,dF hO,ja])
  have hg:Zf n (ZU m) x (fun (y1:jm)=>(ZZ n y1 x).bind fun x10=>some x10) n a 0=_:=h2
  refine Eq.trans hg ?_
  rw [alE hp hO (by rw [h1,List.length_append];omega),hZ,h1,appC,List.append_assoc]
theorem ara:∀ (d:Nat) (x:zh),WPl d x→szP x≤1048576→∀ (k m n:Nat),d≤k→d≤m→2280000+d≤n→k≤131073→∃ o,Z1 m n x=some o∧sll o=appC k x
 |0,x,h,_,_,_,_,_,_,_,_=>h.elim
 |d+1,x,h,hsz,k,m,n,hk,hm,hn,hk'=>by
  obtain ⟨k,rfl⟩:=hX k 1
  obtain ⟨m,rfl⟩:=hX m 1
  obtain ⟨n,rfl⟩:=hX n 1
  obtain ⟨hp,hl,hk1⟩:=h
  have hb:=am4 (k+1) x
  rw [amJ] at hb
  show ∃ o,qQ (Z1 m) (n+1) x=some o∧_
  unfold qQ
  rw [zq]
  unfold zB
  obtain ⟨s,h1,h2⟩:=aa4 (F:=fun m' s i=>zG n (Z1 m) x (fun|none=>(Qx n x).bind (fun|none=>some none|some x10=>some (some x10))|(some y3)=>(ZZ n y3 x).bind fun x17=>some (some x17)) m' s i) (ks:=sll x.B) (f:=fun z=>appC k (zj z)) sll (K:=fun s=>match s with|none=>(Qx n x).bind (fun|none=>some none|some x10=>some (some x10))|(some y3)=>(ZZ n y3 x).bind fun x17=>some (some x17)) (m:=n) hO none hl (by show 0+_≤_;omega) (fun m' i s z hi e hb'=>by
   have hm':z∈sll x.B:=by rw [←e];exact List.getElem_mem hi
   cases s with
   |none=>
    obtain ⟨o,ho,hs⟩:=ara d _ (hk1 z hm') (by have:=agi hm';omega) k m n hO hO hO hO
    refine ⟨o,by rw [hs];rfl,?_⟩
    show zG _ _ _ _ _ _ _=_
    rw [zG,dT hO,jb,ZB hi e,hZ,ho,hZ]
    cases o<;>rfl
   |some s=>
    refine ⟨some (s++appC k (zj z)),rfl,?_⟩
    show zG _ _ _ _ _ _ _=_
    rw [zG,dT hO,jb,ZB hi e,hZ,show aap n s (zj z)=some (s++appC k (zj z)) from arL d _ (hk1 z hm') k n n s hO hO hO hb',hZ]) (fun m' s=>by
   cases s with
   |none=>show zG _ _ _ _ _ _ _=_;rw [zG,dF hO,ja]
   |some s=>show zG _ _ _ _ _ _ _=_;rw [zG,dF hO,ja])
  have hg:zG n (Z1 m) x (fun|none=>(Qx n x).bind (fun|none=>some none|some x10=>some (some x10))|(some y3)=>(ZZ n y3 x).bind fun x17=>some (some x17)) n none 0=_:=h2
  have h1':sll s=(sll x.B).flatMap (fun z=>appC k (zj z)):=h1
  rw [appC]
  cases s with
  |none=>
   obtain ⟨o,ho,hs⟩:=aro hp (n:=n) hO hsz
   refine ⟨o,?_,by rw [hs,←h1'];rfl⟩
   refine Eq.trans hg ?_
   show (Qx n x).bind _=_
   rw [ho,hZ]
   cases o<;>rfl
  |some s=>
   have hs:s=_:=h1'
   refine ⟨some (s++ownA x),?_,by rw [←hs];rfl⟩
   refine Eq.trans hg ?_
   show (ZZ n s x).bind _=_
   rw [alE hp hO (by rw [hs];omega),hZ]
theorem amj {x:zh}{d:Nat}(h:WPl d x) (hd:d≤131073) (hsz:szP x≤1048576) {n:Nat}(hn:2412000≤n):∃ o,abo n x=some o∧sll o=appC 131073 x:=by
 obtain ⟨n,rfl⟩:=hX n 1
 obtain ⟨o,ho,hs⟩:=ara d x h hsz 131073 n n hd hO hO hO
 refine ⟨o,?_,hs⟩
 unfold abo
 rw [zq,show aaR n x=_ from ho,hZ]
 cases o<;>rfl
theorem apY {x:zh}{i:Nat}{z:EX×EX}(hi:i<(zipP x).length) (e:(zipP x)[i]=z):idx (sll x.J) (i:Int)=some z.1∧idx (sll x.L) (i:Int)=some z.2:=by
 unfold zipP at hi e
 cases hk:ahA x with
 |false=>simp only [hk,ja,List.length_nil] at hi;omega
 |true=>
  simp only [hk,jb] at hi e
  exact aqo hi e
theorem aeX (x:zh) (i:Nat):((((x.A==3)||(x.A==4))&&(decide ((i:Int)<((sll x.J).length:Int))))&&(decide ((i:Int)<((sll x.L).length:Int))))=decide (i<(zipP x).length):=by
 rw [show ((x.A==3)||(x.A==4))=ahA x from rfl]
 unfold zipP
 cases ahA x with
 |false=>simp
 |true=>
  rw [jb,List.length_zip,jk]
  by_cases h:i<(sll x.J).length
  ·rw [dT hO,jk];exact decide_eq_decide.2 hO
  rw [dF (p:=(i:Int)<((sll x.J).length:Int)) hO,Bool.false_and];exact (dF hO).symm
theorem auI {n:Nat}{x:zh}{K:Option (List EX)→Option (Option (List EX))}(s:Option (List EX)) {m:Nat}(hm:2000000≤m) (hz:(zipP x).length≤1048576) (hb:(sll s).length+(zipP x).length≤1100000):
  ∃ s',sll s'=sll s++(zipP x).flatMap (fun q=>[eqR q])∧Zq n x K m s 0=K s':=
 aa4 (F:=fun m s i=>Zq n x K m s i) (ks:=zipP x) (f:=fun q=>[eqR q]) sll (K:=K) (m:=m) hm s hz (by rw [qD,List.length_map];omega) (fun m i s z hi e hb=>by
  obtain ⟨e1,e2⟩:=apY hi e
  refine ⟨some (sll s++[eqR z]),rfl,?_⟩
  simp only [List.length_cons,List.length_nil] at hb
  cases s with
  |none=>
   show Zq _ _ _ _ _ _=_
   rw [Zq,aeX,dT hi,jb,e1,hZ,e2,hZ];rfl
  |some s=>
   show Zq _ _ _ _ _ _=_
   rw [Zq,aeX,dT hi,jb,e1,hZ,e2,hZ,qF (by have hb':s.length+1≤1100000:=hb;rw [List.length_append];simp only [List.length_cons,List.length_nil];omega) (by decide)]
   rfl) (fun m s=>by
  cases s with
  |none=>show Zq _ _ _ _ _ _=_;rw [Zq,aeX,dF hO,ja]
  |some s=>show Zq _ _ _ _ _ _=_;rw [Zq,aeX,dF hO,ja])
theorem aub {n:Nat}{x:zh}{K:List EX→Option (Option (List EX))}(s:List EX) {m:Nat}(hm:2000000≤m) (hz:(zipP x).length≤1048576) (hb:s.length+(zipP x).length≤1100000):
  ∃ s',s'=s++(zipP x).flatMap (fun q=>[eqR q])∧qb n x K m s 0=K s':=
 aa4 (F:=fun m s i=>qb n x K m s i) (ks:=zipP x) (f:=fun q=>[eqR q]) (fun s=>s) (K:=K) (m:=m) hm s hz (by rw [qD,List.length_map];omega) (fun m i s z hi e hb=>by
  obtain ⟨e1,e2⟩:=apY hi e
  refine ⟨s++[eqR z],rfl,?_⟩
  simp only [List.length_cons,List.length_nil] at hb
  show qb _ _ _ _ _ _=_
  rw [qb,aeX,dT hi,jb,e1,hZ,e2,hZ,qF (by rw [List.length_append];simp only [List.length_cons,List.length_nil];omega) (by decide)]
  rfl) (fun m s=>by
  show qb _ _ _ _ _ _=_;rw [qb,aeX,dF hO,ja])
theorem amY {n:Nat}{x:zh}{K:List EX→Option (Option (List EX))}(s:List EX) {m:Nat}(hm:2000000≤m) (hz:(zipP x).length≤1048576) (hb:s.length+(zipP x).length≤1100000):
  ∃ s',s'=s++(zipP x).flatMap (fun q=>[eqR q])∧ZV n x K m s 0=K s':=
 aa4 (F:=fun m s i=>ZV n x K m s i) (ks:=zipP x) (f:=fun q=>[eqR q]) (fun s=>s) (K:=K) (m:=m) hm s hz (by rw [qD,List.length_map];omega) (fun m i s z hi e hb=>by
  obtain ⟨e1,e2⟩:=apY hi e
  refine ⟨s++[eqR z],rfl,?_⟩
  simp only [List.length_cons,List.length_nil] at hb
  show ZV _ _ _ _ _ _=_
  rw [ZV,aeX,dT hi,jb,e1,hZ,e2,hZ,qF (by rw [List.length_append];simp only [List.length_cons,List.length_nil];omega) (by decide)]
  rfl) (fun m s=>by
  show ZV _ _ _ _ _ _=_;rw [ZV,aeX,dF hO,ja])
theorem aiW {α:Type}{l:List α}:(l.isEmpty=true)↔l=[]:=by cases l<;>simp
theorem ajm:∀ (d:Nat) (x:zh),WPl d x→szP x≤1048576→∀ (k m n:Nat),d≤k→d≤m→2000010+d≤n→∃ o,aaz m n x=some o∧sll o=appR k x
 |0,x,h,_,_,_,_,_,_,_=>h.elim
 |d+1,x,h,hsz,k,m,n,hk,hm,hn=>by
  obtain ⟨k,rfl⟩:=hX k 1
  obtain ⟨m,rfl⟩:=hX m 1
  obtain ⟨n,rfl⟩:=hX n 1
  obtain ⟨hp,hl,hk1⟩:=h
  have hb:=ane (k+1) x
  rw [appR,List.length_append] at hb
  have hz:=arC x
  have hz1:=hp.left.1
  show ∃ o,abH (aaz m) (n+1) x=some o∧_
  unfold abH
  rw [zq]
  simp only [zB]
  generalize hK:(fun (s:Option jm)=>(match s with
   |none=>bif (sll x.H).isEmpty then Zq n x (fun|none=>some none|(some y10)=>some (some y10)) n none 0 else (ckA 88 (sll x.H).length).bind fun _=>qb n x (fun (y30:jm)=>some (some y30)) n (sll x.H) 0
   |(some y3)=>bif (sll x.H).isEmpty then (ckA 88 y3.length).bind fun _=>ZV n x (fun (y55:jm)=>some (some y55)) n y3 0 else (ckA 88 (y3++(sll x.H)).length).bind fun _=>ZV n x (fun (y55:jm)=>some (some y55)) n (y3++(sll x.H)) 0:Option jl))=K
  have hk0:∀ s,(sll s).length+(ownB x).length≤1048576→∃ o,K s=some o∧sll o=sll s++ownB x:=by
   intro s hs
   have hob:(ownB x).length=(sll x.H).length+(zipP x).length:=by unfold ownB;rw [List.length_append,qD,List.length_map]
   subst hK
   cases s with
   |none=>
    show ∃ o,(bif (sll x.H).isEmpty then _ else _)=some o∧_
    cases he:(sll x.H).isEmpty with
    |true=>
     rw [jb]
     obtain ⟨s',h1,h2⟩:=auI (n:=n) (x:=x) (K:=fun|none=>some none|(some y10)=>some (some y10)) none (m:=n) hO hO (by show 0+_≤_;omega)
     refine ⟨s',Eq.trans h2 (by cases s'<;>rfl),?_⟩
     rw [h1];unfold ownB;rw [aiW.1 he];rfl
    |false=>
     rw [ja,qF (by have:=hp.wher.1;omega) (by decide),hZ]
     obtain ⟨s',h1,h2⟩:=aub (n:=n) (x:=x) (K:=fun (y30:jm)=>some (some y30)) (sll x.H) (m:=n) hO hO hO
     refine ⟨some s',h2,?_⟩
     show s'=_
     rw [h1];rfl
   |some s=>
    have hs':s.length+(ownB x).length≤1048576:=hs
    show ∃ o,(bif (sll x.H).isEmpty then _ else _)=some o∧_
    cases he:(sll x.H).isEmpty with
    |true=>
     rw [jb,qF hO (by decide),hZ]
     obtain ⟨s',h1,h2⟩:=amY (n:=n) (x:=x) (K:=fun (y55:jm)=>some (some y55)) s (m:=n) hO hO hO
     refine ⟨some s',h2,?_⟩
     show s'=s++_
     rw [h1];unfold ownB;rw [aiW.1 he];rfl
    |false=>
     rw [ja,qF (by rw [List.length_append];omega) (by decide),hZ]
     obtain ⟨s',h1,h2⟩:=amY (n:=n) (x:=x) (K:=fun (y55:jm)=>some (some y55)) (s++sll x.H) (m:=n) hO hO (by rw [List.length_append];omega)
     refine ⟨some s',h2,?_⟩
     show s'=s++_
     rw [h1];unfold ownB;rw [List.append_assoc]
  obtain ⟨s,h1,h2⟩:=aa4 (F:=fun m' s i=>zW n (aaz m) x K m' s i) (ks:=sll x.B) (f:=fun z=>appR k (zj z)) sll (K:=K) (m:=n) hO none hl (by show 0+_≤_;omega) (fun m' i s z hi e hb'=>by
   have hm':z∈sll x.B:=by rw [←e];exact List.getElem_mem hi
   obtain ⟨o,ho,hs⟩:=ajm d _ (hk1 z hm') (by have:=agi hm';omega) k m n hO hO hO
   rw [←hs] at hb' ⊢
   cases s with
   |none=>
    cases he:(sll o).isEmpty with
    |true=>
     refine ⟨none,by rw [aiW.1 he];rfl,?_⟩
     show zW _ _ _ _ _ _ _=_
     rw [zW,dT hO,jb,ZB hi e,hZ,ho,hZ,he,jb]
    |false=>
     refine ⟨some (sll o),rfl,?_⟩
     show zW _ _ _ _ _ _ _=_
     rw [zW,dT hO,jb,ZB hi e,hZ,ho,hZ,he,ja,qF hO (by decide),hZ]
   |some s=>
    have hb2:s.length+(sll o).length≤1100000:=hb'
    cases he:(sll o).isEmpty with
    |true=>
     refine ⟨some s,by rw [aiW.1 he,List.append_nil],?_⟩
     show zW _ _ _ _ _ _ _=_
     rw [zW,dT hO,jb,ZB hi e,hZ,ho,hZ,he,jb,qF hO (by decide),hZ]
    |false=>
     refine ⟨some (s++sll o),rfl,?_⟩
     show zW _ _ _ _ _ _ _=_
     rw [zW,dT hO,jb,ZB hi e,hZ,ho,hZ,he,ja,qF (by rw [List.length_append];omega) (by decide),hZ]) (fun m' s=>by
   cases s with
   |none=>show zW _ _ _ _ _ _ _=_;rw [zW,dF hO,ja]
   |some s=>show zW _ _ _ _ _ _ _=_;rw [zW,dF hO,ja])
  have h1':sll s=(sll x.B).flatMap (fun z=>appR k (zj z)):=h1
  obtain ⟨o,ho,hs⟩:=hk0 s (by rw [h1'];omega)
  refine ⟨o,?_,by rw [hs,h1',appR]⟩
  rw [←ho,←h2]
theorem ak6 {x:zh}{d:Nat}(h:WPl d x) (hd:d≤131073) (hsz:szP x≤1048576) {n:Nat}(hn:2140000≤n):∃ o,aeL n x=some o∧sll o=appR 131073 x:=
 ajm d x h hsz 131073 n n hd hO hO
theorem ah9 {α β:Type}{p:α→β→Bool}{a c:List α}{b d:List β}(h1:ZM p a b=true) (h2:ZM p c d=true):ZM p (a++c) (b++d)=true:=by
 unfold ZM at h1 h2 ⊢
 simp only [jj,decide_eq_true_eq] at h1 h2 ⊢
 refine ⟨by rw [List.length_append,List.length_append];omega,?_⟩
 rw [List.zip_append h1.1,List.all_append,h1.2,h2.2];rfl
theorem ahj {α β γ:Type}{p:β→γ→Bool}{f:α→List β}{g:α→List γ}:∀ (l:List α),(∀ z,z∈l→ZM p (f z) (g z)=true)→ZM p (l.flatMap f) (l.flatMap g)=true
 |[],_=>rfl
 |z::l,h=>by
  rw [List.flatMap_cons,List.flatMap_cons]
  exact ah9 (h z (by simp)) (ahj l fun w hw=>h w (by simp [hw]))
theorem atL {d:Nat}{z:EX}(h:WX d (zc z)) (hd:d≤140000):ZW 140000 (zc (cpE z)) (zc z)=true:=by
 unfold cpE;rw [Z8];exact ai0 d _ h _ _ hd
theorem avM {d:Nat}{q:EX×EX}(h1:WX d (zc q.1)) (h2:WX d (zc q.2)) (hd:d≤139999):ZW 140000 (zc (eqC q)) (zc (eqR q))=true:=by
 unfold eqC eqR
 rw [Z8,Z8,ZW]
 have e1:ZW 139999 (zc (cpE q.1)) (zc (zi (zc q.1)))=true:=by unfold cpE;rw [Z8,Z8];exact ai0 d _ h1 _ _ hd
 have e2:ZW 139999 (zc (cpE q.2)) (zc (zi (zc q.2)))=true:=by unfold cpE;rw [Z8,Z8];exact ai0 d _ h2 _ _ hd
 have e3:ac3 V0 V0=true:=by unfold ac3;rw [acq.self];rfl
 rw [e3]
 simp only [beq_self_eq_true,jk,sll]
 unfold ZM
 simp [e1,e2]
theorem avC {x:zh}(h:PX1 x):abp 140000 (ownA x) (ownB x)=true:=by
 unfold abp ownA ownB
 refine ah9 ?_ (ahj _ fun q hq=>?_)
 ·rw [qD];exact akw cpE _ fun z hz=>atL (h.wher.2 z hz) hO
 unfold zipP at hq
 have hm:q.1∈sll x.J∧q.2∈sll x.L:=by
  cases hk:ahA x with
  |false=>rw [hk] at hq;cases hq
  |true=>rw [hk] at hq;obtain ⟨q1,q2⟩:=q;exact ⟨(List.of_mem_zip hq).1,(List.of_mem_zip hq).2⟩
 unfold ZM
 simp [avM (h.left.2 _ hm.1) (h.right.2 _ hm.2) hO]
theorem aq3:∀ (d:Nat) (x:zh),WPl d x→∀ k,abp 140000 (appC k x) (appR k x)=true
 |0,x,h,_=>h.elim
 |d+1,x,h,0=>rfl
 |d+1,x,h,k+1=>by
  rw [appC,appR]
  exact ah9 (ahj _ fun z hz=>aq3 d _ (h.2.2 z hz) k) (avC h.1)
theorem V0_W:qK V0:=⟨⟨by decide,by decide⟩,⟨by decide,by decide⟩,by show (Lit.float _ _).wf=true;rfl,by show ByteArray.empty.size≤_;decide⟩
theorem wI0:wI .u32 0:=⟨by decide,by decide⟩
theorem own_W {x:zh}(h:PX1 x):WXs 131073 (ownA x)∧WXs 131073 (ownB x):=by
 have hq:∀ q,q∈zipP x→WX 131072 (zc q.1)∧WX 131072 (zc q.2):=fun q hq=>by
  unfold zipP at hq
  cases hk:ahA x with
  |false=>rw [hk] at hq;cases hq
  |true=>rw [hk] at hq;obtain ⟨q1,q2⟩:=q;exact ⟨h.left.2 _ (List.of_mem_zip hq).1,h.right.2 _ (List.of_mem_zip hq).2⟩
 have h2:∀ a b:EX,WX 131072 (zc a)→WX 131072 (zc b)→WX 131073 ⟨7,0,0,V0,some [a,b]⟩:=fun a b ha hb=>by
  rw [show 131073=131072+1 from rfl,WX]
  refine ⟨V0_W,by simp [sll],fun z hz=>?_⟩
  have hz':z∈[a,b]:=hz
  simp only [List.mem_cons,List.mem_nil_iff,or_false] at hz'
  rcases hz' with rfl|rfl
  ·exact ha
  exact hb
 unfold ownA ownB
 rw [qD,qD,qD]
 constructor
 ·intro z hz
  rcases List.mem_append.1 hz with hz|hz
  ·obtain ⟨w,hw,rfl⟩:=List.mem_map.1 hz
   unfold cpE;rw [Z8];exact ai9 hO (ag4 _ _ (h.wher.2 w hw) _)
  obtain ⟨q,hw,rfl⟩:=List.mem_map.1 hz
  unfold eqC;rw [Z8]
  exact h2 _ _ (by unfold cpE;rw [Z8];exact ag4 _ _ (hq q hw).1 _) (by unfold cpE;rw [Z8];exact ag4 _ _ (hq q hw).2 _)
 intro z hz
 rcases List.mem_append.1 hz with hz|hz
 ·exact ai9 hO (h.wher.2 z hz)
 obtain ⟨q,hw,rfl⟩:=List.mem_map.1 hz
 unfold eqR;rw [Z8]
 exact h2 _ _ (by rw [Z8];exact (hq q hw).1) (by rw [Z8];exact (hq q hw).2)
theorem akm (a b:Int):iOr .u32 a b=iOr .u32 b a:=by rw [akf,akf,BitVec.or_comm]
theorem apy (a b c:Int):iOr .u32 (iOr .u32 a b) c=iOr .u32 a (iOr .u32 b c):=by
 rw [akf a b,akf b c,akf,akf,avr,avr,BitVec.or_assoc]
theorem anM {a:Int}(h:wI .u32 a):iOr .u32 a 0=a:=by
 rw [akf]
 have e0:BitVec.ofInt 32 0=0#32:=rfl
 have e:BitVec.ofInt 32 a ||| BitVec.ofInt 32 0=BitVec.ofInt 32 a:=by rw [e0];exact BitVec.or_zero
 rw [e,aqi h]
def ownS (x:zh):Int:=bif ((x.A==1)&&(decide (x.C≥0)))&&(decide (x.C<32)) then iShl .u32 1 (IntKind.wrap .u64 x.C) else 0
noncomputable def setD:Nat→zh→Int
 |0,_=>0
 |k+1,x=>(sll x.B).foldl (fun acc z=>iOr .u32 acc (setD k (zj z))) (ownS x)
theorem asw {α:Type}(f:α→Int):∀ (l:List α) (a:Int),wI .u32 a→wI .u32 (l.foldl (fun acc z=>iOr .u32 acc (f z)) a)
 |[],a,h=>h
 |z::l,a,h=>asw f l _ (wIor _ _)
theorem aqD {α:Type}(f:α→Int) (c:Int):∀ (l:List α) (a:Int),l.foldl (fun acc z=>iOr .u32 acc (f z)) (iOr .u32 a c)=iOr .u32 (l.foldl (fun acc z=>iOr .u32 acc (f z)) a) c
 |[],a=>rfl
 |z::l,a=>by
  rw [List.foldl_cons,List.foldl_cons,←aqD f c l,apy,akm c,←apy]
theorem awT (x:zh):wI .u32 (ownS x):=by
 unfold ownS
 cases ((x.A==1)&&(decide (x.C≥0)))&&(decide (x.C<32)) with
 |false=>exact wI0
 |true=>exact avN _
theorem avD:∀ (k:Nat) (x:zh),wI .u32 (setD k x)
 |0,x=>by rw [setD];exact wI0
 |k+1,x=>asw _ _ _ (awT x)
theorem auE (x:zh) {a:Int}(h:wI .u32 a):seeF x a=iOr .u32 a (ownS x):=by
 unfold seeF ownS
 cases ((x.A==1)&&(decide (x.C≥0)))&&(decide (x.C<32)) with
 |false=>exact (anM h).symm
 |true=>rfl
theorem ao7:∀ (k:Nat) (x:zh) (a:Int),wI .u32 a→agE k x a=iOr .u32 a (setD k x)
 |0,x,a,h=>by rw [agE,setD,anM h]
 |k+1,x,a,h=>by
  have hf:∀ (l:List PX) (b:Int),wI .u32 b→l.foldl (fun acc z=>agE k (zj z) acc) b=l.foldl (fun acc z=>iOr .u32 acc (setD k (zj z))) b:=by
   intro l
   induction l with
   |nil=>intro b _;rfl
   |cons z l ih=>intro b hb;rw [List.foldl_cons,List.foldl_cons,ao7 k _ b hb,ih _ (wIor _ _)]
  rw [agE,setD,hf _ _ h,auE x (asw _ _ _ h),←aqD,akm a,aqD,akm]
theorem apj (x:zh):ads x=setD 131073 x:=by
 unfold ads
 rw [ao7 _ _ _ wI0,akm,anM (avD _ _)]
theorem aoV:∀ (d:Nat) (x:zh),WPl d x→∀ (k m n:Nat),d≤k→d≤m→2000010+d≤n→ace m n x=some (setD k x)
 |0,x,h,_,_,_,_,_,_=>h.elim
 |d+1,x,h,k,m,n,hk,hm,hn=>by
  obtain ⟨k,rfl⟩:=hX k 1
  obtain ⟨m,rfl⟩:=hX m 1
  obtain ⟨n,rfl⟩:=hX n 1
  obtain ⟨hp,hl,hk1⟩:=h
  show ae9 (ace m) (n+1) x=_
  unfold ae9
  rw [zq]
  simp only [zB]
  have key:∀ a,QU n (ace m) x (fun y5=>some y5) n a 0=some ((sll x.B).foldl (fun acc z=>iOr .u32 acc (setD k (zj z))) a):=fun a=>
   alc (F:=fun m' acc i=>QU n (ace m) x (fun y5=>some y5) m' acc i) (ks:=sll x.B) (f:=fun acc z=>iOr .u32 acc (setD k (zj z))) (K:=fun y5=>some y5) (fun m' i acc z hi e=>by
    show QU _ _ _ _ _ _ _=_
    rw [QU,dT hO,jb,ZB hi e,hZ,aoV d _ (hk1 z (by rw [←e];exact List.getElem_mem hi)) k m n hO hO hO,hZ]) (fun m' acc=>by
    show QU _ _ _ _ _ _ _=_
    rw [QU,dF hO,ja]) hl (sll x.B) [] n a rfl hO
  rw [setD]
  unfold ownS
  cases hc:((x.A==1)&&(decide (x.C≥0)))&&(decide (x.C<32)) with
  |false=>rw [ja,ja];exact key 0
  |true=>
   rw [jb,jb]
   simp only [jj,decide_eq_true_eq] at hc
   have:ckN (IntKind.wrap .u64 x.C)=some ():=by
    rw [anR hO hO];unfold ckN;split<;>first|rfl|omega
   rw [this,hZ]
   exact key _
theorem afw {x:zh}{d:Nat}(h:WPl d x) (hd:d≤131073) {n:Nat}(hn:2140000≤n):ady n x=some (ads x):=by
 rw [apj]
 exact aoV d x h 131073 n n hd hO hO
theorem aot (k:Int) {n:Nat}(hn:1≤n):af3 n k=some (ach k):=by
 obtain ⟨n,rfl⟩:=hX n 1
 unfold af3
 rw [zq]
 simp only [zB]
 by_cases h1:k=1
 ·subst h1;rfl
 by_cases h2:k=2
 ·subst h2;rfl
 by_cases h3:k=3
 ·subst h3;rfl
 by_cases h4:k=4
 ·subst h4;rfl
 by_cases h5:k=5
 ·subst h5;rfl
 by_cases h6:k=6
 ·subst h6;rfl
 by_cases h7:k=7
 ·subst h7;rfl
 rw [beqF h1,beqF h2,beqF h3,beqF h4,beqF h5,beqF h6,beqF h7]
 unfold ach
 rw [if_neg h1,if_neg hO,if_neg hO]
 rfl
theorem afz {a:Option (List EX)}(ha:wSl zJ a) {n:Nat}(hn:2000200≤n):aax n a=some (okEs a):=by
 obtain ⟨n,rfl⟩:=hX n 1
 unfold aax okEs
 rw [zq]
 by_cases h:(sll a).length≤60
 ·rw [dF (p:=((sll a).length:Int)>60) hO,ja,dT h,jk]
  simp only [zB]
  rw [aez (F:=fun m i=>aaa n a (fun _=>some true) m i) (p:=fun z=>qO (zc z)) (kk:=some true) (e:=some false) ha.1 hO (fun m i z hi e=>by
   show aaa _ _ _ _ _=_
   rw [aaa,dT hO,jb,ZB hi e,hZ]
   rw [show aaC n _=_ from aff (W_un (ha.2 z (by rw [←e];exact List.getElem_mem hi))) hO,hZ]
   cases qO (zc z)<;>rfl) (fun m=>by
   show aaa _ _ _ _ _=_
   rw [aaa,dF hO,ja])]
  cases (sll a).all fun z=>qO (zc z)<;>rfl
 rw [dT (p:=((sll a).length:Int)>60) hO,jb,dF h];rfl
theorem at9 {k:Int}(hk:1≤k∧k≤7) (w l r o a d:Nat):
  (bif ((((decide ((w:Int)>0))&&(decide (k>4)))||((l:Int)!=(r:Int)))||(!(((k==3)||(k==4))==(decide ((l:Int)>0))))) then some false else bif (((((decide ((o:Int)>0))&&(k !=5))&&(k !=6))||((k==6)&&((o:Int)==0)))||((decide ((a:Int)>0))&&(k !=5))) then some false else some ((k==7)==(decide ((d:Int)>0))))=some (ahP k w l r o a d):=by
 have z:∀ q:Nat,decide ((q:Int)>0)=!(q==0):=fun q=>by cases q<;>simp
 have e:((l:Int)!=(r:Int))=!(l==r):=by rw [Bool.eq_iff_iff];simp;omega
 have z0:((o:Int)==0)=(o==0):=by rw [Bool.eq_iff_iff];simp
 rw [z,z,z,z,z,e,z0]
 unfold ahP nulL
 simp only [List.all_cons,List.all_nil,Bool.and_true]
 have h:k=1∨k=2∨k=3∨k=4∨k=5∨k=6∨k=7:=by omega
 have hlr:(l==r)=true→(l==0)=(r==0):=fun h=>by rw [beq_iff_eq] at h;rw [h]
 have hlr2:(l==0)=true→(r==0)=true→(l==r)=true:=fun h1 h2=>by rw [beq_iff_eq] at h1 h2 ⊢;omega
 rcases h with rfl|rfl|rfl|rfl|rfl|rfl|rfl<;>revert hlr hlr2<;>cases (w==0)<;>cases (l==0)<;>cases (r==0)<;>cases (o==0)<;>cases (a==0)<;>cases (d==0)<;>cases (l==r)<;>decide
def agw (o:Option Nat):Int:=match o with
 |some c=>if c≤40 then (c:Int) else 41
 |none=>41
theorem alQ {α:Type}{f:α→Option Nat}{F:Nat→Int→Int→Option Int}{ks:List α}{C:α→Option Int}
  (hF:∀ m acc i,F (m+1) acc i=bif decide (i<(ks.length:Int)) then (idx ks i).bind fun z=>(C z).bind fun r=>bif decide (IntKind.wrap .i64 (acc+r)>40) then some 41 else F m (IntKind.wrap .i64 (acc+r)) (IntKind.wrap .i64 (i+1)) else some acc)
  (hC:∀ z,z∈ks→C z=some (agw (f z))) (hks:ks.length≤1048576):
  ∀ (l:List α) (m:Nat) (p:List α) (acc:Nat),ks=p++l→l.length<m→acc≤40→
   F m (acc:Int) (p.length:Int)=some (agw ((sumO f l).map (·+acc)))
 |[],m,p,acc,he,hm,h0=>by
  obtain ⟨m,rfl⟩:=hX m 1
  rw [hF,dF (by rw [he];simp),ja]
  simp only [sumO,Option.map_some,agw,Nat.zero_add]
  rw [if_pos h0]
 |z::l,m,p,acc,he,hm,h0=>by
  obtain ⟨m,rfl⟩:=hX m 1
  rw [List.length_cons] at hm
  have hz:z∈ks:=by rw [he];simp
  have hix:idx ks (p.length:Int)=some z:=by rw [he,aaY];simp
  rw [hF,dT (by rw [he];simp;omega),jb,hix,hZ,hC z hz,hZ]
  have hlen:ks.length=p.length+(l.length+1):=by rw [he];simp
  rw [abE hO]
  have e:p.length+1=(p++[z]).length:=by simp
  obtain ⟨v,hv⟩:∃ v,v=agw (f z):=⟨_,rfl⟩
  rw [←hv]
  have bad:∀ o:Option Nat,(∀ c,o=some c→40<c)→some (41:Int)=some (agw o):=fun o ho=>by
   cases o with
   |none=>rfl
   |some c=>have:=ho c rfl;simp only [agw];rw [if_neg hO]
  cases hf:f z with
  |none=>
   rw [hf] at hv
   rw [show v=41 from hv,ab4 hO hO,dT hO,jb]
   unfold sumO
   rw [hf];rfl
  |some a=>
   rw [hf] at hv
   simp only [agw] at hv
   unfold sumO
   rw [hf]
   by_cases ha:a≤40
   ·rw [if_pos ha] at hv
    subst hv
    rw [ab4 hO hO]
    by_cases hs:acc+a≤40
    ·rw [dF hO,ja,e,show (acc:Int)+(a:Int)=((acc+a:Nat):Int) by omega,alQ hF hC hks l m (p++[z]) (acc+a) (by rw [he];simp) hO hs]
     cases hso:sumO f l with
     |none=>rfl
     |some b=>
      simp only [Option.map_some]
      rw [show b+(acc+a)=a+b+acc by omega]
    rw [dT hO,jb]
    refine bad _ fun c hc=>?_
    cases hso:sumO f l with
    |none=>rw [hso] at hc;cases hc
    |some b=>rw [hso] at hc;simp only [Option.map_some,Option.some.injEq] at hc;omega
   rw [if_neg ha] at hv
   subst hv
   rw [ab4 hO hO,dT hO,jb]
   refine bad _ fun c hc=>?_
   cases hso:sumO f l with
   |none=>rw [hso] at hc;cases hc
   |some b=>rw [hso] at hc;simp only [Option.map_some,Option.some.injEq] at hc;omega
theorem anw {k:Int}{n:Nat}(h:ach k=(n:Int)):1≤k∧k≤7:=by
 unfold ach at h
 split at h
 ·omega
 split at h
 ·omega
 split at h<;>omega
theorem atZ {x:zh}(hx:PW x) (hk:1≤x.A∧x.A≤7) {n:Nat}(hn:2000300≤n):
  ((
   aax n x.H).bind fun x3=>bif (!x3) then some false else (aax n x.J).bind fun x6=>bif (!x6) then some false else (aax n x.L).bind fun x9=>bif (!x9) then some false else (aax n x.E).bind fun x12=>bif (((!x12)||(decide (((sll x.D).length:Int)>60)))||(decide (((sll x.G).length:Int)>60))) then some false else
   Qp n x (fun (_:Unit)=>qE n x (fun (_:Unit)=>bif ((((decide (((sll x.H).length:Int)>0))&&(decide (x.A>4)))||(((sll x.J).length:Int)!=((sll x.L).length:Int)))||(!(((x.A==3)||(x.A==4))==(decide (((sll x.J).length:Int)>0))))) then some false else bif (((((decide (((sll x.E).length:Int)>0))&&(x.A !=5))&&(x.A !=6))||((x.A==6)&&(((sll x.E).length:Int)==0)))||((decide (((sll x.D).length:Int)>0))&&(x.A !=5))) then some false else some ((x.A==7)==(decide (((sll x.G).length:Int)>0)))) n 0) n 0)
  = some (okEs x.H&&(okEs x.J&&(okEs x.L&&(okEs x.E&&(decide ((sll x.D).length≤60)&&(decide ((sll x.G).length≤60)&&((!(sll x.D).any badA)&&((!(sll x.G).any badK)&&afN x)))))))):=by
 obtain ⟨_,_,w3,w4,w5,w6,w7,w8⟩:=hx
 rw [at9 hk]
 rw [afz w3 hO,hZ,afz w4 hO,afz w5 hO,afz w6 hO]
 simp only [hZ]
 cases okEs x.H with
 |false=>rfl
 |true=>
 cases okEs x.J with
 |false=>rfl
 |true=>
 cases okEs x.L with
 |false=>rfl
 |true=>
 cases okEs x.E with
 |false=>rfl
 |true=>
 by_cases ha:(sll x.D).length≤60
 ·by_cases ho:(sll x.G).length≤60
  ·rw [dF (p:=((sll x.D).length:Int)>60) hO,dF (p:=((sll x.G).length:Int)>60) hO,dT ha,dT ho]
   simp only [Bool.not_true,Bool.or_false,ja,jk]
   rw [aez (F:=fun m i=>Qp n x (fun (_:Unit)=>qE n x (fun (_:Unit)=>some (ahP x.A (sll x.H).length (sll x.J).length (sll x.L).length (sll x.E).length (sll x.D).length (sll x.G).length)) n 0) m i) (p:=fun g=>!badA g) (kk:=qE n x (fun (_:Unit)=>some (ahP x.A (sll x.H).length (sll x.J).length (sll x.L).length (sll x.E).length (sll x.D).length (sll x.G).length)) n 0) (e:=some false) w7.1 hO (fun m i g hi e=>by
    show Qp _ _ _ _ _=_
    have hg:=w7.2 g (by rw [←e];exact List.getElem_mem hi)
    rw [Qp,dT hO,jb,ZB hi e,hZ,aff (apg hg) hO]
    unfold badA
    cases (decide (g.A<1)||decide (g.A>4)) with
    |true=>rfl
    |false=>cases qO g.Q<;>rfl) (fun m=>by
    show Qp _ _ _ _ _=_
    rw [Qp,dF hO,ja]),←List.not_any_eq_all_not]
   cases (sll x.D).any badA with
   |true=>rfl
   |false=>
    rw [Bool.not_false,jb,jk]
    rw [aez (F:=fun m i=>qE n x (fun (_:Unit)=>some (ahP x.A (sll x.H).length (sll x.J).length (sll x.L).length (sll x.E).length (sll x.D).length (sll x.G).length)) m i) (p:=fun g=>!badK g) (kk:=some (afN x)) (e:=some false) w8.1 hO (fun m i g hi e=>by
     show qE _ _ _ _ _=_
     rw [qE,dT hO,jb,ZB hi e,hZ]
     unfold badK
     cases (decide (g.E<0)||decide (g.E>29))<;>rfl) (fun m=>by
     show qE _ _ _ _ _=_
     rw [qE,dF hO,ja];rfl),←List.not_any_eq_all_not]
    cases (sll x.G).any badK<;>rfl
  rw [dT (p:=((sll x.G).length:Int)>60) hO,dF ho,Bool.or_true,jb,Bool.false_and,Bool.and_false];rfl
 rw [dT (p:=((sll x.D).length:Int)>60) hO,dF ha,Bool.or_true,Bool.true_or,jb,Bool.false_and];rfl
theorem aoM {x:zh}(hx:PW x) {n:Nat}(hn:2000400≤n):af2 n x=some (acg x):=by
 obtain ⟨n,rfl⟩:=hX n 1
 unfold af2 acg
 rw [zq]
 simp only [zB]
 rw [aot _ hO,hZ]
 by_cases hk:ach x.A=((sll x.B).length:Int)
 ·rw [show (ach x.A !=((sll x.B).length:Int))=false by simp [hk],ja,show (ach x.A==((sll x.B).length:Int))=true by simp [hk],jk]
  have tail:=atZ hx (anw hk) (n:=n) hO
  rw [tail]
  unfold ajR
  by_cases h1:x.C<0
  ·rw [dT h1,jb,dF (p:=x.C≥0) hO];simp
  rw [dF h1,ja,dT (p:=x.C≥0) hO,jk]
  by_cases h2:x.C≥12
  ·rw [dT h2,jb,dF (p:=x.C<12) hO];simp
  rw [dF h2,ja,dT (p:=x.C<12) hO,jk]
  have e:(bif (x.C !=0) then bif (x.A !=1) then some false else some (okEs x.H&&(okEs x.J&&(okEs x.L&&(okEs x.E&&(decide ((sll x.D).length≤60)&&(decide ((sll x.G).length≤60)&&((!(sll x.D).any badA)&&((!(sll x.G).any badK)&&afN x)))))))) else some (okEs x.H&&(okEs x.J&&(okEs x.L&&(okEs x.E&&(decide ((sll x.D).length≤60)&&(decide ((sll x.G).length≤60)&&((!(sll x.D).any badA)&&((!(sll x.G).any badK)&&afN x)))))))))=some (((x.A==1)||(x.C==0))&&(okEs x.H&&(okEs x.J&&(okEs x.L&&(okEs x.E&&(decide ((sll x.D).length≤60)&&(decide ((sll x.G).length≤60)&&((!(sll x.D).any badA)&&((!(sll x.G).any badK)&&afN x))))))))):=by
   rw [show (x.C !=0)=!(x.C==0) from rfl,show (x.A !=1)=!(x.A==1) from rfl]
   cases (x.C==0)<;>cases (x.A==1)<;>rfl
  rw [e]
  congr 1
  cases okEs x.H<;>cases okEs x.J<;>cases okEs x.L<;>cases okEs x.E<;>cases decide ((sll x.D).length≤60)<;>cases decide ((sll x.G).length≤60)<;>cases (sll x.D).any badA<;>cases (sll x.G).any badK<;>cases afN x<;>simp
 rw [show (ach x.A !=((sll x.B).length:Int))=true by simp [hk],jb,show (ach x.A==((sll x.B).length:Int))=false by simp [hk]];rfl
theorem asx:∀ (r:Nat),r≤24→∀ (s:Nat) (x:zh),WD s x→∀ m n,r+1≤m→2000500+r≤n→
  QY m n x (25-(r:Int))=some (agw (frmP r x)):=by
 intro r
 induction r with
 |zero=>
  intro hr s x hw m n hm hn
  obtain ⟨m,rfl⟩:=hX m 1
  obtain ⟨n,rfl⟩:=hX n 1
  show aaT (QY m) (n+1) x _=_
  unfold aaT
  rw [zq,dT hO,jb]
  rfl
 |succ r ih=>
  intro hr s x hw m n hm hn
  obtain ⟨m,rfl⟩:=hX m 1
  obtain ⟨n,rfl⟩:=hX n 1
  cases s with
  |zero=>exact hw.elim
  |succ s=>
  obtain ⟨hp,hl,hk1⟩:=hw
  show aaT (QY m) (n+1) x _=_
  unfold aaT
  rw [zq,dF hO,ja,aoM hp hO,hZ,frmP]
  cases acg x with
  |false=>rfl
  |true=>
   rw [Bool.not_true,ja,jb]
   simp only [zB]
   exact alQ (f:=fun z=>frmP r (zj z)) (F:=fun m' acc i=>acn n (QY m) x (25-((r+1:Nat):Int)) (fun y6=>some y6) m' acc i) (ks:=sll x.B)
    (C:=fun z=>QY m n (zj z) (IntKind.wrap .i64 ((25-((r+1:Nat):Int))+1)))
    (fun m' acc i=>rfl) (fun z hz=>by
     show QY m n (zj z) (IntKind.wrap .i64 ((25-((r+1:Nat):Int))+1))=_
     rw [ab4 hO hO,show (25-((r+1:Nat):Int))+1=25-(r:Int) by omega]
     exact ih hO s _ (hk1 z hz) m n hO hO) hl (sll x.B) n [] 1 rfl hO hO
theorem amf {s:Nat}{x:zh}(hw:WD s x) {n:Nat}(hn:2000600≤n):aef n x=some (aee x):=by
 obtain ⟨n,rfl⟩:=hX n 1
 unfold aef aee
 rw [zq,show aiw n x 1=_ from asx 24 (Nat.le_refl _) s x hw n n hO hO,hZ]
 cases frmP 24 x with
 |none=>rfl
 |some c=>
  have e:agw (some c)=if c≤40 then (c:Int) else 41:=rfl
  show some (decide (agw (some c)≤40))=_
  congr 1
  refine decide_eq_decide.2 ?_
  rw [e]
  split<;>omega
end Go.Pl
