import Derived.Test.YtejbcaheoloahaaGreatFA
set_option maxRecDepth 100000
namespace Go.Pl
open Go Go.Ab
theorem anA {x:zj} {z:EX} (h:z∈sll x.fKids):szL (za z)+8≤szL x:=by
  have e:szL (za z)=PV.bulkL (zb z):=by rw [zx z]; rfl
  rw [e]
  unfold szL zC
  cases hk:x.fKids with
  | none=>rw [hk] at h; cases h
  | some l=>
    rw [hk] at h
    have:=ab8 (rows:=l.map zb) (r:=zb z) (List.mem_map_of_mem h)
    rw [show zh zb (some l)=.sl (l.map zb) from rfl]
    simp only [PV.bulkL,PV.bulk]
    omega
def WX:Nat→zj→Prop
  | 0,_=>False
  | s+1,x=>Z4 x.fConst∧(sll x.fKids).length≤1048576∧∀ z,z∈sll x.fKids→WX s (za z)
theorem anQ:∀ (s:Nat) (x:zj),szL x≤8 * s→qb x→WX s x
  | 0,x,h,_=>by
    unfold szL zC at h
    simp only [PV.bulkL,PV.bulk] at h
    omega
  | s+1,x,h,hw=>⟨ajG hw,ac3 hw,fun z hz=>anQ s _ (by have:=anA hz; omega) (alw hw hz)⟩
theorem W_WX {x:zj} (hw:qb x):WX 131072 x:=anQ _ x hw.2 hw
theorem ajN:∀ {s t:Nat} {x:zj},s≤t→WX s x→WX t x
  | 0,_,_,_,h=>h.elim
  | s+1,t,x,hl,h=>by
    obtain ⟨t,rfl⟩:∃ j,t=j+1:=⟨t - 1,by omega⟩
    exact ⟨h.1,h.2.1,fun z hz=>ajN (by omega) (h.2.2 z hz)⟩
noncomputable def QR:Nat→zj→zj→Bool
  | 0,_,_=>false
  | s+1,x,y=>((((x.fKind == y.fKind) && (x.fRel == y.fRel)) && (x.fCol == y.fCol)) && (x.fConst.fKind == y.fConst.fKind)) && (afM x.fConst y.fConst && ZA (fun a b=>QR s (za a) (za b)) (sll x.fKids) (sll y.fKids))
noncomputable def qB (s:Nat) (a b:List EX):Bool:=ZA (fun x y=>QR s (za x) (za y)) a b
theorem aiP {d m n k:Nat} {rc:Nat→Option (List EX)→Option (List EX)→Option Bool} {a b:Option (List EX)} (ha:(sll a).length≤1048576) (hn:2000000≤n)
    (h:∀ x,x∈sll a→∀ y,y∈sll b→Qy rc n (za x) (za y)=some (QR k (za x) (za y))):
    Zz rc (n+1) a b=some (qB k (sll a) (sll b)):=by
  unfold Zz
  rw [zD]
  unfold zK
  refine abu (F:=fun m i=>zN n rc a b (fun _=>some true) m i) ha hn (fun he m i x y hi e1 e2 m1 m2=>?_) (fun m=>?_)
  · show zN _ _ _ _ _ _ _=_
    rw [zN,dT (by omega),cond_true,e1,Option.bind_some,e2,Option.bind_some]
    rw [show Qy rc n _ _=_ from h x m1 y m2,Option.bind_some]
    cases QR k (za x) (za y) <;> rfl
  · show zN _ _ _ _ _ _ _=_
    rw [zN,dF (by omega),cond_false]
theorem aem:∀ (d:Nat) (x:zj),WX d x→∀ (e:Nat) (y:zj),WX e y→∀ k m n,d≤k→d≤m→2000010+2 * d≤n→
    Qy (zU m) n x y=some (QR k x y)
  | 0,x,h,_,_,_,_,_,_,_,_,_=>h.elim
  | d+1,x,h,0,y,h',_,_,_,_,_,_=>h'.elim
  | d+1,x,h,e+1,y,h',k,m,n,hk,hm,hn=>by
    obtain ⟨k,rfl⟩:∃ j,k=j+1:=⟨k - 1,by omega⟩
    obtain ⟨m,rfl⟩:∃ j,m=j+1:=⟨m - 1,by omega⟩
    obtain ⟨n,rfl⟩:∃ j,n=j+2:=⟨n - 2,by omega⟩
    unfold Qy
    rw [zD,QR]
    cases (((x.fKind == y.fKind) && (x.fRel == y.fRel)) && (x.fCol == y.fCol)) && (x.fConst.fKind == y.fConst.fKind) with
    | false=>rfl
    | true=>
      rw [cond_true,ais h.1 h'.1 (by omega),Option.bind_some]
      cases afM x.fConst y.fConst with
      | false=>rfl
      | true=>
        rw [cond_true,show zU (m+1) (n+1) x.fKids y.fKids=_ from aiP (rc:=zU m) (k:=k) (d:=d) (m:=m) h.2.1 (by omega) (fun z hz w hw=>aem d _ (h.2.2 z hz) e _ (h'.2.2 w hw) k m n (by omega) (by omega) (by omega))]
        rfl
theorem afD:∀ (d:Nat) (x:zj),WX d x→∀ (e:Nat) (y:zj),WX e y→∀ k m n,d≤k→d≤m→2000010+d≤n→
    QL m n x y=some (QR k x y)
  | 0,x,h,_,_,_,_,_,_,_,_,_=>h.elim
  | d+1,x,h,0,y,h',_,_,_,_,_,_=>h'.elim
  | d+1,x,h,e+1,y,h',k,m,n,hk,hm,hn=>by
    obtain ⟨k,rfl⟩:∃ j,k=j+1:=⟨k - 1,by omega⟩
    obtain ⟨m,rfl⟩:∃ j,m=j+1:=⟨m - 1,by omega⟩
    obtain ⟨n,rfl⟩:∃ j,n=j+1:=⟨n - 1,by omega⟩
    show abj (QL m) (n+1) x y=_
    unfold abj
    rw [zD,QR]
    have e0:((((x.fKind != y.fKind) || (x.fRel != y.fRel)) || (x.fCol != y.fCol)) || (x.fConst.fKind != y.fConst.fKind))=!((((x.fKind == y.fKind) && (x.fRel == y.fRel)) && (x.fCol == y.fCol)) && (x.fConst.fKind == y.fConst.fKind)):=by
      rw [Bool.not_and,Bool.not_and,Bool.not_and]; rfl
    rw [e0]
    cases (((x.fKind == y.fKind) && (x.fRel == y.fRel)) && (x.fCol == y.fCol)) && (x.fConst.fKind == y.fConst.fKind) with
    | false=>rfl
    | true=>
      rw [Bool.not_true,cond_false,ajR h.1 h'.1 (by omega),Option.bind_some,Bool.true_and]
      have e1:(vCmp x.fConst y.fConst != 0)=!afM x.fConst y.fConst:=rfl
      rw [e1]
      cases afM x.fConst y.fConst with
      | false=>rfl
      | true=>
        rw [Bool.not_true,Bool.false_or,Bool.true_and]
        unfold zK
        refine abu (F:=fun m' i=>qM n (QL m) x y (fun _=>some true) m' i) h.2.1 (by omega) (fun he m' i z w hi e1 e2 m1 m2=>?_) (fun m'=>?_)
        · show qM _ _ _ _ _ _ _=_
          rw [qM,dT (by omega),cond_true,e1,Option.bind_some,e2,Option.bind_some]
          rw [show QL m n _ _=_ from afD d _ (h.2.2 z m1) e _ (h'.2.2 w m2) k m n (by omega) (by omega) (by omega),Option.bind_some]
          cases QR k (za z) (za w) <;> rfl
        · show qM _ _ _ _ _ _ _=_
          rw [qM,dF (by omega),cond_false]
def WXs (d:Nat) (a:List EX):Prop:=∀ z,z∈a→WX d (za z)
theorem W_WXs {a:Option (List EX)} (h:wSl zS a):WXs 131072 (sll a):=fun z hz=>W_WX (W_un (h.2 z hz))
theorem ab4 {a b:Option (List EX)} {d e:Nat} (ha:WXs d (sll a)) (hl:(sll a).length≤1048576) (hb:WXs e (sll b)) (hd:d≤140000) {n:Nat} (hn:2280100≤n):
    zX n a b=some (qB 140000 (sll a) (sll b)):=by
  obtain ⟨n,rfl⟩:∃ j,n=j+1:=⟨n - 1,by omega⟩
  exact aiP (rc:=zU n) (d:=d) (m:=0) hl (by omega) (fun x hx y hy=>aem d _ (ha x hx) e _ (hb y hy) 140000 n n hd (by omega) (by omega))
theorem ajC {x y:zj} {d e:Nat} (hx:WX d x) (hy:WX e y) (hd:d≤140000) {n m:Nat} (hn:2280100≤n) (hm:140000≤m):
    Qy (zU m) n x y=some (QR 140000 x y):=aem d x hx e y hy 140000 m n hd (by omega) (by omega)
theorem aeR {x y:zj} {d e:Nat} (hx:WX d x) (hy:WX e y) (hd:d≤140000) {n:Nat} (hn:2280100≤n):acw n x y=some (QR 140000 x y):=afD d x hx e y hy 140000 n n hd (by omega) (by omega)
theorem adX {a b:Option (List EX)} {d e:Nat} (ha:WXs d (sll a)) (hl:(sll a).length≤1048576) (hb:WXs e (sll b)) (hd:d≤140000) {n:Nat} (hn:2280200≤n):
    aaW n a b=some (qB 140000 (sll a) (sll b)):=by
  obtain ⟨n,rfl⟩:∃ j,n=j+1:=⟨n - 1,by omega⟩
  unfold aaW
  rw [zD]
  unfold zK
  refine abu (F:=fun m i=>qp n a b (fun _=>some true) m i) hl (by omega) (fun he m i x y hi e1 e2 m1 m2=>?_) (fun m=>?_)
  · show qp _ _ _ _ _ _=_
    rw [qp,dT (by omega),cond_true,e1,Option.bind_some,e2,Option.bind_some]
    rw [show acw n _ _=_ from aeR (ha x m1) (hb y m2) hd (by omega),Option.bind_some]
    cases QR 140000 (za x) (za y) <;> rfl
  · show qp _ _ _ _ _ _=_
    rw [qp,dF (by omega),cond_false]
theorem adx:∀ (d:Nat) (x:zj),WX d x→∀ k,d≤k→QR k x x=true
  | 0,x,h,_,_=>h.elim
  | d+1,x,h,k,hk=>by
    obtain ⟨k,rfl⟩:∃ j,k=j+1:=⟨k - 1,by omega⟩
    rw [QR]
    simp only [beq_self_eq_true,Bool.true_and,Bool.and_eq_true]
    exact ⟨by unfold afM; rw [ahA.self]; rfl,aav _ fun z hz=>adx d _ (h.2.2 z hz) k (by omega)⟩
theorem acE {d:Nat} {a:List EX} (h:WXs d a) (hd:d≤140000):qB 140000 a a=true:=aav _ fun z hz=>adx d _ (h z hz) _ hd
noncomputable def ad3:Nat→zj→zj
  | 0,x=>x
  | s+1,x=>⟨x.fKind,x.fRel,x.fCol,x.fConst,mapO (fun z=>zf (ad3 s (za z))) (sll x.fKids)⟩
theorem agl:∀ (d:Nat) (x:zj),WX d x→∀ k m n,d≤k→d≤m→2000010+d≤n→QC m n x=some (ad3 k x)
  | 0,x,h,_,_,_,_,_,_=>h.elim
  | d+1,x,h,k,m,n,hk,hm,hn=>by
    obtain ⟨k,rfl⟩:∃ j,k=j+1:=⟨k - 1,by omega⟩
    obtain ⟨m,rfl⟩:∃ j,m=j+1:=⟨m - 1,by omega⟩
    obtain ⟨n,rfl⟩:∃ j,n=j+1:=⟨n - 1,by omega⟩
    show abC (QC m) (n+1) x=_
    unfold abC
    rw [zD,ad3]
    unfold zK
    refine Eq.trans (adn (f:=fun z=>zf (ad3 k (za z))) (l3:=fun m' s i=>ZK n (QC m) x (fun | none=>some (zj.mk x.fKind x.fRel x.fCol x.fConst none) | (some y3)=>some (zj.mk x.fKind x.fRel x.fCol x.fConst (some y3))) m' s i) (l:=sll x.fKids) (K:=fun s=>some (zj.mk x.fKind x.fRel x.fCol x.fConst s)) (b:=88) (by decide) h.2.1 (by omega) (fun m' i s z hi e=>?_) (fun m' s=>?_)) rfl
    · have hz:=agl d _ (h.2.2 z (by rw [← e]; exact List.getElem_mem hi)) k m n (by omega) (by omega) (by omega)
      cases s with
      | none=>
        show ZK _ _ _ _ _ _ _=_
        rw [ZK,dT (by omega),cond_true,Z6 hi e,Option.bind_some]
        rw [show QC m n _=_ from hz]; rfl
      | some s=>
        show ZK _ _ _ _ _ _ _=_
        rw [ZK,dT (by omega),cond_true,Z6 hi e,Option.bind_some]
        rw [show QC m n _=_ from hz]; rfl
    · cases s with
      | none=>
        show ZK _ _ _ _ _ _ _=_
        rw [ZK,dF (by omega),cond_false]
      | some s=>
        show ZK _ _ _ _ _ _ _=_
        rw [ZK,dF (by omega),cond_false]
noncomputable def cpE (z:EX):EX:=zf (ad3 140000 (za z))
theorem qH {x:zj} {d:Nat} (hx:WX d x) (hd:d≤140000) {n:Nat} (hn:2140100≤n):Zm n x=some (ad3 140000 x):=agl d x hx 140000 n n hd (by omega) (by omega)
theorem aeF:∀ (d:Nat) (x:zj),WX d x→∀ k,WX d (ad3 k x)
  | 0,x,h,_=>h.elim
  | d+1,x,h,0=>h
  | d+1,x,h,k+1=>by
    refine ⟨h.1,?_,fun z hz=>?_⟩
    · show (sll (mapO _ _)).length≤_
      rw [Qu,List.length_map]; exact h.2.1
    · have hz':z∈sll (mapO (fun z=>zf (ad3 k (za z))) (sll x.fKids)):=hz
      rw [Qu] at hz'
      obtain ⟨w,hw,rfl⟩:=List.mem_map.1 hz'
      rw [qi]
      exact aeF d _ (h.2.2 w hw) k
theorem abe {α β:Type} {p:β→α→Bool} (f:α→β) (l:List α) (h:∀ x,x∈l→p (f x) x=true):ZA p (l.map f) l=true:=by
  rw [ae5 (by rw [List.length_map]),List.all_eq_true]
  intro q hq
  obtain ⟨i,hi,rfl⟩:=List.getElem_of_mem hq
  rw [List.getElem_zip,List.getElem_map]
  exact h _ (List.getElem_mem _)
theorem adh:∀ (d:Nat) (x:zj),WX d x→∀ k s,d≤s→QR s (ad3 k x) x=true
  | 0,x,h,_,_,_=>h.elim
  | d+1,x,h,0,s,hs=>adx (d+1) x h s hs
  | d+1,x,h,k+1,s,hs=>by
    obtain ⟨s,rfl⟩:∃ j,s=j+1:=⟨s - 1,by omega⟩
    rw [QR,ad3]
    simp only [beq_self_eq_true,Bool.true_and,Bool.and_eq_true]
    refine ⟨by unfold afM; rw [ahA.self]; rfl,?_⟩
    rw [Qu]
    exact abe _ _ fun z hz=>by rw [qi]; exact adh d _ (h.2.2 z hz) k s (by omega)
end Go.Pl
set_option maxRecDepth 100000
namespace Go.Pl
open Go Go.Ab
noncomputable def adf (x y:zr):Bool:=(x.fKind == y.fKind) && QR 140000 x.fOf y.fOf
def adI (x y:zt):Bool:=(x.fOut == y.fOut) && (x.fDesc == y.fDesc)
noncomputable def aky (a b:Zo):Bool:=
  ZA sEq (sll a.fRels) (sll b.fRels) && (qB 140000 (sll a.fWhere) (sll b.fWhere) && ((a.fGrouped == b.fGrouped) && (qB 140000 (sll a.fOut) (sll b.fOut) && (ZA adf (sll a.fAggs) (sll b.fAggs) && ZA adI (sll a.fOrder) (sll b.fOrder)))))
def LXs (d:Nat) (a:Option (List EX)):Prop:=(sll a).length≤1048576∧WXs d (sll a)
def LAs (d:Nat) (a:Option (List zr)):Prop:=(sll a).length≤1048576∧∀ g,g∈sll a→WX d g.fOf
theorem aeE (d:Nat):LXs d none:=⟨by simp [sll],fun z hz=>by cases hz⟩
theorem agW (d:Nat):LAs d none:=⟨by simp [sll],fun z hz=>by cases hz⟩
theorem als {a:Option (List EX)} (h:wSl zS a):LXs 131072 a:=⟨h.1,W_WXs h⟩
theorem anL {g:zr} (h:aar g):qb g.fOf:=h.2
theorem W_LAs {a:Option (List zr)} (h:wSl aar a):LAs 131072 a:=⟨h.1,fun g hg=>W_WX (anL (h.2 g hg))⟩
structure QW (d:Nat) (q:Zo):Prop where
  rels:(sll q.fRels).length≤1048576
  wher:LXs d q.fWhere
  out:LXs d q.fOut
  aggs:LAs d q.fAggs
  order:(sll q.fOrder).length≤1048576
theorem ajS {α β:Type} {a:List α} {b:List β}:(((a.length:Int) != (b.length:Int)))=!decide (a.length=b.length):=by
  by_cases h:a.length=b.length
  · rw [dT h,h]; simp
  · rw [dF h]; simp; omega
theorem aby {α β:Type} {p:α→β→Bool} {a:List α} {b:List β} (h:decide (a.length=b.length)=false):ZA p a b=false:=by unfold ZA; rw [h]; rfl
theorem ab5 {α β:Type} {p:α→β→Bool} {a:List α} {b:List β} (h:decide (a.length=b.length)=true):ZA p a b=(a.zip b).all fun q=>p q.1 q.2:=by unfold ZA; rw [h]; rfl
theorem acU {a b:Zo} {d e:Nat} (ha:QW d a) (hb:QW e b) (hd:d≤140000) {n:Nat} (hn:2280300≤n):aae n a b=some (aky a b):=by
  obtain ⟨n,rfl⟩:∃ j,n=j+1:=⟨n - 1,by omega⟩
  unfold aae
  rw [zD]
  unfold aky
  rw [ajS,ajS,ajS,adX ha.wher.2 ha.wher.1 hb.wher.2 hd (by omega),adX ha.out.2 ha.out.1 hb.out.2 hd (by omega)]
  simp only [Option.bind_some]
  cases h1:decide ((sll a.fRels).length=(sll b.fRels).length) with
  | false=>rw [aby h1]; rfl
  | true=>
    rw [ab5 h1,Bool.not_true,cond_false]
    cases qB 140000 (sll a.fWhere) (sll b.fWhere) with
    | false=>rw [Bool.false_and,Bool.and_false]; rfl
    | true=>
      rw [Bool.true_and,Bool.not_true,Bool.false_or]
      cases (a.fGrouped == b.fGrouped) with
      | false=>rw [Bool.false_and,Bool.and_false]; rfl
      | true=>
        rw [Bool.true_and,Bool.not_true,cond_false]
        cases qB 140000 (sll a.fOut) (sll b.fOut) with
        | false=>rw [Bool.false_and,Bool.and_false]; rfl
        | true=>
          rw [Bool.true_and,Bool.not_true,Bool.false_or]
          cases h2:decide ((sll a.fAggs).length=(sll b.fAggs).length) with
          | false=>rw [aby h2,Bool.false_and,Bool.and_false]; rfl
          | true=>
            rw [ab5 h2,Bool.not_true,Bool.false_or]
            cases h3:decide ((sll a.fOrder).length=(sll b.fOrder).length) with
            | false=>rw [aby h3,Bool.and_false,Bool.and_false]; rfl
            | true=>
              rw [ab5 h3,Bool.not_true,cond_false]
              simp only [zK]
              rw [acx (F:=fun m i=>qI n a b (fun _=>qf n a b (fun _=>ZN n a b (fun _=>some true) n 0) n 0) m i) (p:=sEq) (kk:=qf n a b (fun _=>ZN n a b (fun _=>some true) n 0) n 0) (e:=some false) (of_decide_eq_true h1) ha.rels (by omega) (fun m i x y hi e1 e2 m1 m2=>by
                show qI _ _ _ _ _ _=_
                rw [qI,dT (by omega),cond_true,e1,Option.bind_some,e2,Option.bind_some]
                cases sEq x y <;> rfl) (fun m=>by
                show qI _ _ _ _ _ _=_
                rw [qI,dF (by omega),cond_false])]
              cases ((sll a.fRels).zip (sll b.fRels)).all (fun q=>sEq q.1 q.2) with
              | false=>rfl
              | true=>
                rw [cond_true,Bool.true_and]
                rw [acx (F:=fun m i=>qf n a b (fun _=>ZN n a b (fun _=>some true) n 0) m i) (p:=adf) (kk:=ZN n a b (fun _=>some true) n 0) (e:=some false) (of_decide_eq_true h2) ha.aggs.1 (by omega) (fun m i x y hi e1 e2 m1 m2=>by
                  show qf _ _ _ _ _ _=_
                  rw [qf,dT (by omega),cond_true,e1,Option.bind_some,e2,Option.bind_some,aeR (ha.aggs.2 x m1) (hb.aggs.2 y m2) hd (by omega),Option.bind_some]
                  unfold adf
                  rw [show (x.fKind != y.fKind)=!(x.fKind == y.fKind) from rfl]
                  cases (x.fKind == y.fKind) <;> cases QR 140000 x.fOf y.fOf <;> rfl) (fun m=>by
                  show qf _ _ _ _ _ _=_
                  rw [qf,dF (by omega),cond_false])]
                cases ((sll a.fAggs).zip (sll b.fAggs)).all (fun q=>adf q.1 q.2) with
                | false=>rfl
                | true=>
                  rw [cond_true,Bool.true_and]
                  rw [acx (F:=fun m i=>ZN n a b (fun _=>some true) m i) (p:=adI) (kk:=some true) (e:=some false) (of_decide_eq_true h3) ha.order (by omega) (fun m i x y hi e1 e2 m1 m2=>by
                    show ZN _ _ _ _ _ _=_
                    rw [ZN,dT (by omega),cond_true,e1,Option.bind_some,e2,Option.bind_some]
                    unfold adI
                    rw [show (x.fOut != y.fOut)=!(x.fOut == y.fOut) from rfl]
                    cases (x.fOut == y.fOut) <;> cases (x.fDesc == y.fDesc) <;> rfl) (fun m=>by
                    show ZN _ _ _ _ _ _=_
                    rw [ZN,dF (by omega),cond_false])]
                  cases ((sll a.fOrder).zip (sll b.fOrder)).all (fun q=>adI q.1 q.2) <;> rfl
structure PX1 (x:zk):Prop where
  wher:LXs 131072 x.fWhere
  left:LXs 131072 x.fLeft
  right:LXs 131072 x.fRight
  out:LXs 131072 x.fOut
  aggs:LAs 131072 x.fAggs
  order:(sll x.fOrder).length≤1048576
def WPl:Nat→zk→Prop
  | 0,_=>False
  | s+1,x=>PX1 x∧(sll x.fKids).length≤1048576∧∀ z,z∈sll x.fKids→WPl s (zd z)
theorem an9 {x:zk} (h:PW x):PX1 x:=⟨als h.2.2.1,als h.2.2.2.1,als h.2.2.2.2.1,als h.2.2.2.2.2.1,W_LAs h.2.2.2.2.2.2.1,h.2.2.2.2.2.2.2.1⟩
theorem ak9:∀ (s:Nat) (x:zk),WD s x→WPl s x
  | 0,x,h=>h.elim
  | s+1,x,h=>⟨an9 h.1,h.2.1,fun z hz=>ak9 s _ (h.2.2 z hz)⟩
noncomputable def abB:Nat→zk→zk→Bool
  | 0,_,_=>false
  | s+1,x,y=>((x.fKind == y.fKind) && (x.fRel == y.fRel)) && (qB 140000 (sll x.fWhere) (sll y.fWhere) && (qB 140000 (sll x.fLeft) (sll y.fLeft) && (qB 140000 (sll x.fRight) (sll y.fRight) && (qB 140000 (sll x.fOut) (sll y.fOut) &&
    (ZA adf (sll x.fAggs) (sll y.fAggs) && (ZA adI (sll x.fOrder) (sll y.fOrder) && ZA (fun a b=>abB s (zd a) (zd b)) (sll x.fKids) (sll y.fKids)))))))
theorem akm {a b:Option (List zr)} {d e:Nat} (ha:LAs d a) (hb:LAs e b) (hd:d≤140000) {n:Nat} (hn:2280300≤n):ZM n a b=some (ZA adf (sll a) (sll b)):=by
  obtain ⟨n,rfl⟩:∃ j,n=j+1:=⟨n - 1,by omega⟩
  unfold ZM
  rw [zD]
  unfold zK
  refine abu (F:=fun m i=>zP n a b (fun _=>some true) m i) ha.1 (by omega) (fun he m i x y hi e1 e2 m1 m2=>?_) (fun m=>?_)
  · show zP _ _ _ _ _ _=_
    rw [zP,dT (by omega),cond_true,e1,Option.bind_some,e2,Option.bind_some]
    obtain ⟨n,rfl⟩:∃ j,n=j+1:=⟨n - 1,by omega⟩
    unfold aeL adf
    rw [zD]
    cases (x.fKind == y.fKind) with
    | false=>rfl
    | true=>
      rw [cond_true,show Qy zX n x.fOf y.fOf=some (QR 140000 x.fOf y.fOf) from ?_]
      · cases QR 140000 x.fOf y.fOf <;> rfl
      · have hx:=ha.2 x m1; have hy:=hb.2 y m2
        cases d with
        | zero=>exact hx.elim
        | succ d=>
          cases e with
          | zero=>exact hy.elim
          | succ e=>
            obtain ⟨n,rfl⟩:∃ j,n=j+1:=⟨n - 1,by omega⟩
            have:=ajC (m:=n) (n:=n+1) hx hy hd (by omega) (by omega)
            unfold Qy at this ⊢
            exact this
  · show zP _ _ _ _ _ _=_
    rw [zP,dF (by omega),cond_false]
theorem akc {a b:Option (List zt)} (ha:(sll a).length≤1048576) {n:Nat} (hn:2000010≤n):Qr n a b=some (ZA adI (sll a) (sll b)):=by
  obtain ⟨n,rfl⟩:∃ j,n=j+1:=⟨n - 1,by omega⟩
  unfold Qr
  rw [zD]
  unfold zK
  refine abu (F:=fun m i=>ZI n a b (fun _=>some true) m i) ha (by omega) (fun he m i x y hi e1 e2 m1 m2=>?_) (fun m=>?_)
  · show ZI _ _ _ _ _ _=_
    rw [ZI,dT (by omega),cond_true,e1,Option.bind_some,e2,Option.bind_some]
    unfold adI
    cases (x.fOut == y.fOut) <;> cases (x.fDesc == y.fDesc) <;> rfl
  · show ZI _ _ _ _ _ _=_
    rw [ZI,dF (by omega),cond_false]
theorem adQ:∀ (d:Nat) (x:zk),WPl d x→∀ (e:Nat) (y:zk),WPl e y→∀ k m n,d≤k→d≤m→2290000+2 * d≤n→
    aac m n x y=some (abB k x y)
  | 0,x,h,_,_,_,_,_,_,_,_,_=>h.elim
  | d+1,x,h,0,y,h',_,_,_,_,_,_=>h'.elim
  | d+1,x,h,e+1,y,h',k,m,n,hk,hm,hn=>by
    obtain ⟨k,rfl⟩:∃ j,k=j+1:=⟨k - 1,by omega⟩
    obtain ⟨m,rfl⟩:∃ j,m=j+1:=⟨m - 1,by omega⟩
    obtain ⟨n,rfl⟩:∃ j,n=j+2:=⟨n - 2,by omega⟩
    show abD (aac m) (n+2) x y=_
    unfold abD
    rw [zD,abB]
    obtain ⟨hp,hl,hk1⟩:=h
    obtain ⟨hp',hl',hk2⟩:=h'
    rw [ab4 hp.wher.2 hp.wher.1 hp'.wher.2 (by omega) (by omega),ab4 hp.left.2 hp.left.1 hp'.left.2 (by omega) (by omega),ab4 hp.right.2 hp.right.1 hp'.right.2 (by omega) (by omega),ab4 hp.out.2 hp.out.1 hp'.out.2 (by omega) (by omega),akm hp.aggs hp'.aggs (by omega) (by omega),akc hp.order (by omega)]
    simp only [Option.bind_some]
    have key:ZH (aac m) (n+1) x.fKids y.fKids=some (ZA (fun a b=>abB k (zd a) (zd b)) (sll x.fKids) (sll y.fKids)):=by
      unfold ZH
      rw [zD]
      unfold zK
      refine abu (F:=fun m' i=>zM n (aac m) x.fKids y.fKids (fun _=>some true) m' i) hl (by omega) (fun he m' i z w hi e1 e2 m1 m2=>?_) (fun m'=>?_)
      · show zM _ _ _ _ _ _ _=_
        rw [zM,dT (by omega),cond_true,e1,Option.bind_some,e2,Option.bind_some,adQ d _ (hk1 z m1) e _ (hk2 w m2) k m n (by omega) (by omega) (by omega),Option.bind_some]
        cases abB k (zd z) (zd w) <;> rfl
      · show zM _ _ _ _ _ _ _=_
        rw [zM,dF (by omega),cond_false]
    rw [key]
    cases (x.fKind == y.fKind) && (x.fRel == y.fRel) with
    | false=>rfl
    | true=>
    cases qB 140000 (sll x.fWhere) (sll y.fWhere) with
    | false=>rfl
    | true=>
    cases qB 140000 (sll x.fLeft) (sll y.fLeft) with
    | false=>rfl
    | true=>
    cases qB 140000 (sll x.fRight) (sll y.fRight) with
    | false=>rfl
    | true=>
    cases qB 140000 (sll x.fOut) (sll y.fOut) with
    | false=>rfl
    | true=>
    cases ZA adf (sll x.fAggs) (sll y.fAggs) with
    | false=>rfl
    | true=>
    cases ZA adI (sll x.fOrder) (sll y.fOrder) <;> rfl
theorem acr {a b:Option (List EX)} {d e:Nat} (ha:LXs d a) (hb:LXs e b) (hd:d≤140000) {n:Nat} (hn:2280400≤n):aam n a b=some (qB 140000 (sll a) (sll b)):=by
  obtain ⟨n,rfl⟩:∃ j,n=j+1:=⟨n - 1,by omega⟩
  unfold aam
  rw [zD,acU (a:=⟨none,none,false,a,none,none⟩) (b:=⟨none,none,false,b,none,none⟩) ⟨by simp [sll],aeE d,ha,agW d,by simp [sll]⟩ ⟨by simp [sll],aeE e,hb,agW e,by simp [sll]⟩ hd (by omega)]
  unfold aky
  show some (true && (true && (true && (_ && (true && true)))))=_
  simp
theorem adq:∀ (d:Nat) (x:zk),WPl d x→∀ (e:Nat) (y:zk),WPl e y→∀ k m n,d≤k→d≤m→2290000+d≤n→
    QM m n x y=some (abB k x y)
  | 0,x,h,_,_,_,_,_,_,_,_,_=>h.elim
  | d+1,x,h,0,y,h',_,_,_,_,_,_=>h'.elim
  | d+1,x,h,e+1,y,h',k,m,n,hk,hm,hn=>by
    obtain ⟨k,rfl⟩:∃ j,k=j+1:=⟨k - 1,by omega⟩
    obtain ⟨m,rfl⟩:∃ j,m=j+1:=⟨m - 1,by omega⟩
    obtain ⟨n,rfl⟩:∃ j,n=j+1:=⟨n - 1,by omega⟩
    show abc (QM m) (n+1) x y=_
    unfold abc
    rw [zD,abB]
    obtain ⟨hp,hl,hk1⟩:=h
    obtain ⟨hp',hl',hk2⟩:=h'
    rw [acr hp.wher hp'.wher (by omega) (by omega),acr hp.left hp'.left (by omega) (by omega),acr hp.right hp'.right (by omega) (by omega),
      acU (a:=⟨none,none,false,x.fOut,x.fAggs,x.fOrder⟩) (b:=⟨none,none,false,y.fOut,y.fAggs,y.fOrder⟩) ⟨by simp [sll],aeE _,hp.out,hp.aggs,hp.order⟩ ⟨by simp [sll],aeE _,hp'.out,hp'.aggs,hp'.order⟩ (by omega) (by omega)]
    simp only [Option.bind_some]
    rw [show aky ⟨none,none,false,x.fOut,x.fAggs,x.fOrder⟩ ⟨none,none,false,y.fOut,y.fAggs,y.fOrder⟩=(qB 140000 (sll x.fOut) (sll y.fOut) && (ZA adf (sll x.fAggs) (sll y.fAggs) && ZA adI (sll x.fOrder) (sll y.fOrder))) from rfl]
    rw [ajS,show (x.fKind != y.fKind)=!(x.fKind == y.fKind) from rfl,show (x.fRel != y.fRel)=!(x.fRel == y.fRel) from rfl]
    cases h1:decide ((sll x.fKids).length=(sll y.fKids).length) with
    | false=>
      rw [aby h1]; simp
    | true=>
      rw [ab5 h1]
      have key:zK (fun k16=>qn n (QM m) x y k16 n 0) (fun (_:Unit)=>some true)=some (((sll x.fKids).zip (sll y.fKids)).all fun q=>abB k (zd q.1) (zd q.2)):=by
        simp only [zK]
        rw [acx (F:=fun m' i=>qn n (QM m) x y (fun _=>some true) m' i) (p:=fun a b=>abB k (zd a) (zd b)) (kk:=some true) (e:=some false) (of_decide_eq_true h1) hl (by omega) (fun m' i z w hi e1 e2 m1 m2=>by
          show qn _ _ _ _ _ _ _=_
          rw [qn,dT (by omega),cond_true,e1,Option.bind_some,e2,Option.bind_some,adq d _ (hk1 z m1) e _ (hk2 w m2) k m n (by omega) (by omega) (by omega),Option.bind_some]
          cases abB k (zd z) (zd w) <;> rfl) (fun m'=>by
          show qn _ _ _ _ _ _ _=_
          rw [qn,dF (by omega),cond_false])]
        cases ((sll x.fKids).zip (sll y.fKids)).all (fun q=>abB k (zd q.1) (zd q.2)) <;> rfl
      rw [key]
      cases (x.fKind == y.fKind) with
      | false=>rfl
      | true=>
      cases (x.fRel == y.fRel) with
      | false=>rfl
      | true=>
      cases qB 140000 (sll x.fWhere) (sll y.fWhere) with
      | false=>rfl
      | true=>
      cases qB 140000 (sll x.fLeft) (sll y.fLeft) with
      | false=>rfl
      | true=>
      cases qB 140000 (sll x.fRight) (sll y.fRight) with
      | false=>rfl
      | true=>
      cases qB 140000 (sll x.fOut) (sll y.fOut) with
      | false=>rfl
      | true=>
      cases ZA adf (sll x.fAggs) (sll y.fAggs) with
      | false=>rfl
      | true=>
      cases ZA adI (sll x.fOrder) (sll y.fOrder) <;> rfl
theorem ag4 (x:zt):adI x x=true:=by unfold adI; simp
theorem akH {d:Nat} {x:zr} (h:WX d x.fOf) (hd:d≤140000):adf x x=true:=by unfold adf; rw [adx d _ h _ hd]; simp
theorem afd:∀ (d:Nat) (x:zk),WPl d x→∀ k,d≤k→abB k x x=true
  | 0,x,h,_,_=>h.elim
  | d+1,x,h,k,hk=>by
    obtain ⟨k,rfl⟩:∃ j,k=j+1:=⟨k - 1,by omega⟩
    obtain ⟨hp,hl,hk1⟩:=h
    rw [abB,acE hp.wher.2 (by omega),acE hp.left.2 (by omega),acE hp.right.2 (by omega),acE hp.out.2 (by omega),aav _ (fun g hg=>akH (hp.aggs.2 g hg) (by omega)),aav _ (fun g _=>ag4 g),aav _ (fun z hz=>afd d _ (hk1 z hz) k (by omega))]
    simp
end Go.Pl
set_option maxRecDepth 100000
namespace Go.Pl
open Go Go.Ab
theorem aki {S α β R:Type} {F:Nat→S→Int→Option R} {ks:List α} {f:α→List β} {v:S→List β} {K:S→Option R}
    (hF:∀ (m i:Nat) (s:S) (z:α),(hi:i < ks.length)→ks[i]=z→(v s).length+(f z).length≤1100000→∃ s',v s'=v s++f z∧F (m+1) s (i:Int)=F m s' (IntKind.wrap .i64 ((i:Int)+1)))
    (hE:∀ (m:Nat) (s:S),F (m+1) s (ks.length:Int)=K s) (hks:ks.length≤1048576):
    ∀ (l p:List α) (m:Nat) (s:S),ks=p++l→l.length < m→(v s).length+(l.flatMap f).length≤1100000→∃ s',v s'=v s++l.flatMap f∧F m s (p.length:Int)=K s'
  | [],p,m,s,he,hm,_=>by
    obtain ⟨m,rfl⟩:∃ j,m=j+1:=⟨m - 1,by omega⟩
    have:ks.length=p.length:=by rw [he]; simp
    exact ⟨s,by simp,by rw [← this,hE]⟩
  | z :: l,p,m,s,he,hm,hb=>by
    obtain ⟨m,rfl⟩:∃ j,m=j+1:=⟨m - 1,by omega⟩
    rw [List.length_cons] at hm
    rw [List.flatMap_cons,List.length_append] at hb
    have hlen:ks.length=p.length+(l.length+1):=by rw [he]; simp
    obtain ⟨s1,h1,h2⟩:=hF m p.length s z (by omega) (by simp [he]) (by omega)
    obtain ⟨s2,h3,h4⟩:=aki hF hE hks l (p++[z]) m s1 (by rw [he]; simp) (by omega) (by rw [h1,List.length_append]; omega)
    refine ⟨s2,by rw [h3,h1,List.flatMap_cons,List.append_assoc],?_⟩
    rw [h2,ado (by omega),show p.length+1=(p++[z]).length by simp,h4]
theorem Qv {S α β R:Type} {F:Nat→S→Int→Option R} {ks:List α} {f:α→List β} (v:S→List β) {K:S→Option R} {m:Nat} (hm:2000000≤m) (s:S) (hks:ks.length≤1048576) (hb:(v s).length+(ks.flatMap f).length≤1100000)
    (hF:∀ (m i:Nat) (s:S) (z:α),(hi:i < ks.length)→ks[i]=z→(v s).length+(f z).length≤1100000→∃ s',v s'=v s++f z∧F (m+1) s (i:Int)=F m s' (IntKind.wrap .i64 ((i:Int)+1)))
    (hE:∀ (m:Nat) (s:S),F (m+1) s (ks.length:Int)=K s):∃ s',v s'=v s++ks.flatMap f∧F m s 0=K s':=
  aki hF hE hks ks [] m s rfl (by omega) hb
theorem aet {α:Type} (l:List α) (z:α):idx (l++[z]) (l.length:Int)=some z:=by rw [aaK]; simp
theorem aee {α:Type} (l:List α) (z w:α):(l++[z]).set (Int.toNat (l.length:Int)) w=l++[w]:=by
  rw [show Int.toNat (l.length:Int)=l.length by simp]; simp
abbrev V0:zi:=⟨0,0,0,ByteArray.empty⟩
noncomputable def eqC (q:EX × EX):EX:=zf ⟨7,0,0,V0,some [cpE q.1,cpE q.2]⟩
noncomputable def eqR (q:EX × EX):EX:=zf ⟨7,0,0,V0,some [zf (za q.1),zf (za q.2)]⟩
def adZ (x:zk):Bool:=(x.fKind == 3) || (x.fKind == 4)
noncomputable def zipP (x:zk):List (EX × EX):=bif adZ x then (sll x.fLeft).zip (sll x.fRight) else []
noncomputable def ownA (x:zk):List EX:=(sll x.fWhere).flatMap (fun z=>[cpE z])++(zipP x).flatMap (fun q=>[eqC q])
noncomputable def ownB (x:zk):List EX:=sll x.fWhere++(zipP x).flatMap (fun q=>[eqR q])
noncomputable def appC:Nat→zk→List EX
  | 0,_=>[]
  | k+1,x=>(sll x.fKids).flatMap (fun z=>appC k (zd z))++ownA x
noncomputable def appR:Nat→zk→List EX
  | 0,_=>[]
  | k+1,x=>(sll x.fKids).flatMap (fun z=>appR k (zd z))++ownB x
theorem anr (z:EX):1≤PV.bulkL (zb z):=by
  rw [zx z]
  unfold zC
  simp only [PV.bulkL,PV.bulk]; omega
theorem ahR {α:Type} {R:α→List PV} (h:∀ z,1≤PV.bulkL (R z)):∀ (l:List α),l.length≤PV.bulkLL (l.map R)
  | []=>Nat.zero_le _
  | z :: l=>by
    have:=h z; have:=ahR h l
    simp only [List.map_cons,PV.bulkLL,List.length_cons]; omega
theorem alv (s:Option (List EX)):(sll s).length≤(zh zb s).bulk:=by
  cases s with
  | none=>exact Nat.zero_le _
  | some l=>
    have:=ahR anr l
    show l.length≤PV.bulk (.sl (l.map zb))
    simp only [PV.bulk]; omega
theorem qa {α β:Type} (f:α→β) (l:List α):l.flatMap (fun z=>[f z])=l.map f:=by
  induction l with
  | nil=>rfl
  | cons z l ih=>rw [List.flatMap_cons,ih]; rfl
theorem akh (x:zk):(zipP x).length≤(sll x.fLeft).length:=by
  unfold zipP
  cases adZ x with
  | false=>exact Nat.zero_le _
  | true=>rw [cond_true,List.length_zip]; omega
theorem agU (x:zk):(ownA x).length≤(zh zb x.fWhere).bulk+(zh zb x.fLeft).bulk∧(ownB x).length=(ownA x).length:=by
  have h1:=alv x.fWhere; have h2:=alv x.fLeft; have h3:=akh x
  unfold ownA ownB
  rw [qa,qa,qa,List.length_append,List.length_append,List.length_map,List.length_map,List.length_map]
  exact ⟨by omega,rfl⟩
theorem aiK (f:zk→List EX) (h:∀ x,(f x).length≤szP x):∀ (l:List PX),(l.flatMap fun z=>f (zd z)).length≤PV.bulkLL (l.map zg)
  | []=>Nat.zero_le _
  | z :: l=>by
    have h1:=h (zd z); have h2:=aiK f h l
    rw [List.flatMap_cons,List.length_append,List.map_cons,PV.bulkLL]
    have:szP (zd z)=PV.bulkL (zg z):=by rw [zF z]; rfl
    omega
theorem akC (x:zk):(zh zb x.fWhere).bulk+(zh zb x.fLeft).bulk+(match x.fKids with | none=>0 | some l=>PV.bulkLL (l.map zg))≤szP x:=by
  unfold szP zG
  cases x.fKids with
  | none=>simp only [PV.bulkL]; omega
  | some l=>
    rw [show zh zg (some l)=.sl (l.map zg) from rfl]
    simp only [PV.bulkL,PV.bulk]; omega
theorem alQ (f:zk→List EX) (own:zk→List EX) (h:∀ x,(f x).length≤szP x) (ho:∀ x,(own x).length≤(zh zb x.fWhere).bulk+(zh zb x.fLeft).bulk) (x:zk):
    ((sll x.fKids).flatMap (fun z=>f (zd z))++own x).length≤szP x:=by
  have h1:=akC x; have h2:=ho x
  rw [List.length_append]
  cases hk:x.fKids with
  | none=>rw [hk] at h1; simp only [sll,List.flatMap_nil,List.length_nil] at h1 ⊢; omega
  | some l=>
    have h3:=aiK f h l
    rw [hk] at h1
    simp only [sll] at h1 ⊢; omega
theorem ahQ:∀ (k:Nat) (x:zk),(appC k x).length≤szP x
  | 0,x=>Nat.zero_le _
  | k+1,x=>alQ (appC k) ownA (ahQ k) (fun x=>(agU x).1) x
theorem ahd:∀ (k:Nat) (x:zk),(appR k x).length≤szP x
  | 0,x=>Nat.zero_le _
  | k+1,x=>alQ (appR k) ownB (ahd k) (fun x=>by rw [(agU x).2]; exact (agU x).1) x
theorem acI (x:zk):(if ((sll x.fRight).length:Int) < ((sll x.fLeft).length:Int) then ((sll x.fRight).length:Int) else ((sll x.fLeft).length:Int))=((((sll x.fLeft).zip (sll x.fRight)).length:Nat):Int):=by
  rw [List.length_zip]; split <;> omega
theorem ajA {α β:Type} {a:List α} {b:List β} {i:Nat} {z:α × β} (hi:i < (a.zip b).length) (e:(a.zip b)[i]=z):idx a (i:Int)=some z.1∧idx b (i:Int)=some z.2:=by
  have h:=hi
  rw [List.length_zip] at h
  rw [List.getElem_zip] at e
  subst e
  exact ⟨Z6 (by omega) rfl,Z6 (by omega) rfl⟩
theorem alO (x:zk):((x.fKind != 3) && (x.fKind != 4))=!adZ x:=by
  unfold adZ; rw [Bool.not_or]; rfl
theorem ajf {α β:Type} {a:List α} {b:List β} {i:Nat} {z:α × β} (hi:i < (a.zip b).length) (e:(a.zip b)[i]=z):z.1∈a∧z.2∈b:=by
  have h:=List.getElem_mem hi
  rw [e] at h
  obtain ⟨z1,z2⟩:=z
  exact ⟨(List.of_mem_zip h).1,(List.of_mem_zip h).2⟩
theorem aj9 {x:zk} (h:PX1 x) {n:Nat} (hn:2140200≤n) (hs:szP x≤1048576):∃ o,qq n x=some o∧sll o=ownA x:=by
  obtain ⟨n,rfl⟩:∃ j,n=j+1:=⟨n - 1,by omega⟩
  unfold qq
  rw [zD]
  unfold zK
  have hlen:=(agU x).1
  have hsz:=akC x
  unfold ownA at hlen
  rw [List.length_append,qa,qa,List.length_map,List.length_map] at hlen
  obtain ⟨s,h1,h2⟩:=Qv (F:=fun m s i=>zV n x (fun | none=>bif ((x.fKind != 3) && (x.fKind != 4)) then some none else zO n x n none 0 | (some y3)=>bif ((x.fKind != 3) && (x.fKind != 4)) then some (some y3) else Zi n x n y3 0) m s i) (ks:=sll x.fWhere) (f:=fun z=>[cpE z]) sll (K:=fun s=>match s with | none=>bif ((x.fKind != 3) && (x.fKind != 4)) then some none else zO n x n none 0 | (some y3)=>bif ((x.fKind != 3) && (x.fKind != 4)) then some (some y3) else Zi n x n y3 0) (m:=n) (by omega) none h.wher.1 (by show 0+_≤_; rw [qa,List.length_map]; omega) (fun m i s z hi e hb=>by
    have hz:=qH (h.wher.2 z (by rw [← e]; exact List.getElem_mem hi)) (by omega) (n:=n) (by omega)
    refine ⟨some (sll s++[cpE z]),rfl,?_⟩
    simp only [List.length_cons,List.length_nil] at hb
    cases s with
    | none=>
      show zV _ _ _ _ _ _=_
      rw [zV,dT (by omega),cond_true,Z6 hi e,Option.bind_some]
      rw [show Zm n _=_ from hz]; rfl
    | some s=>
      show zV _ _ _ _ _ _=_
      rw [zV,dT (by omega),cond_true,Z6 hi e,Option.bind_some]
      rw [show Zm n _=_ from hz,Option.bind_some,Q1 (by have hb':s.length+1≤1100000:=hb; rw [List.length_append]; simp only [List.length_cons,List.length_nil]; omega) (by decide),Option.bind_some,aet,Option.bind_some,aee]
      rfl) (fun m s=>by
    cases s with
    | none=>show zV _ _ _ _ _ _=_; rw [zV,dF (by omega),cond_false]
    | some s=>show zV _ _ _ _ _ _=_; rw [zV,dF (by omega),cond_false])
  have hg:zV n x (fun | none=>bif ((x.fKind != 3) && (x.fKind != 4)) then some none else zO n x n none 0 | (some y3)=>bif ((x.fKind != 3) && (x.fKind != 4)) then some (some y3) else Zi n x n y3 0) n none 0=_:=h2
  have hgoal:∃ o,(match s with | none=>bif ((x.fKind != 3) && (x.fKind != 4)) then some none else zO n x n none 0 | (some y3)=>bif ((x.fKind != 3) && (x.fKind != 4)) then some (some y3) else Zi n x n y3 0)=some o∧sll o=ownA x:=by
    rw [alO]
    unfold ownA zipP
    unfold zipP at hlen
    have h1':sll s=(sll x.fWhere).flatMap (fun z=>[cpE z]):=h1
    cases hk:adZ x with
    | false=>
      cases s with
      | none=>exact ⟨none,rfl,by rw [h1']; simp⟩
      | some s=>exact ⟨some s,rfl,by rw [h1']; simp⟩
    | true=>
      rw [hk] at hlen
      rw [Bool.not_true,cond_true]
      simp only [cond_false]
      rw [cond_true] at hlen
      have hl2:((sll x.fLeft).zip (sll x.fRight)).length≤1048576:=by rw [List.length_zip]; have:=h.left.1; omega
      cases s with
      | none=>
        obtain ⟨s2,h3,h4⟩:=Qv (F:=fun m s i=>zO n x m s i) (ks:=(sll x.fLeft).zip (sll x.fRight)) (f:=fun q=>[eqC q]) sll (K:=fun s=>some s) (m:=n) (by omega) none hl2 (by show 0+_≤_; rw [qa,List.length_map]; omega) (fun m i s z hi e hb=>by
          obtain ⟨e1,e2⟩:=ajA hi e
          obtain ⟨m1,m2⟩:=ajf hi e
          have hz1:=qH (h.left.2 z.1 m1) (by omega) (n:=n) (by omega)
          have hz2:=qH (h.right.2 z.2 m2) (by omega) (n:=n) (by omega)
          refine ⟨some (sll s++[eqC z]),rfl,?_⟩
          simp only [List.length_cons,List.length_nil] at hb
          cases s with
          | none=>
            show zO _ _ _ _ _=_
            rw [zO,acI,dT (by omega),cond_true,e1,Option.bind_some]
            rw [show Zm n _=_ from hz1,Option.bind_some,e2,Option.bind_some,show Zm n _=_ from hz2]; rfl
          | some s=>
            show zO _ _ _ _ _=_
            rw [zO,acI,dT (by omega),cond_true,e1,Option.bind_some]
            rw [show Zm n _=_ from hz1,Option.bind_some,e2,Option.bind_some,show Zm n _=_ from hz2,Option.bind_some,Q1 (by have hb':s.length+1≤1100000:=hb; rw [List.length_append]; simp only [List.length_cons,List.length_nil]; omega) (by decide),Option.bind_some,aet,Option.bind_some,aee]
            rfl) (fun m s=>by
          cases s with
          | none=>show zO _ _ _ _ _=_; rw [zO,acI,dF (by omega),cond_false]
          | some s=>show zO _ _ _ _ _=_; rw [zO,acI,dF (by omega),cond_false])
        exact ⟨s2,h4,by rw [h3,← h1']⟩
      | some s=>
        obtain ⟨s2,h3,h4⟩:=Qv (F:=fun m s i=>Zi n x m s i) (ks:=(sll x.fLeft).zip (sll x.fRight)) (f:=fun q=>[eqC q]) (fun s=>s) (K:=fun s=>some (some s)) (m:=n) (by omega) s hl2 (by have h1s:s=_:=h1'; rw [h1s,qa,qa,List.length_map,List.length_map]; omega) (fun m i s z hi e hb=>by
          obtain ⟨e1,e2⟩:=ajA hi e
          obtain ⟨m1,m2⟩:=ajf hi e
          have hz1:=qH (h.left.2 z.1 m1) (by omega) (n:=n) (by omega)
          have hz2:=qH (h.right.2 z.2 m2) (by omega) (n:=n) (by omega)
          refine ⟨s++[eqC z],rfl,?_⟩
          simp only [List.length_cons,List.length_nil] at hb
          show Zi _ _ _ _ _=_
          rw [Zi,acI,dT (by omega),cond_true,e1,Option.bind_some]
          rw [show Zm n _=_ from hz1,Option.bind_some,e2,Option.bind_some,show Zm n _=_ from hz2,Option.bind_some,Q1 (by rw [List.length_append]; simp only [List.length_cons,List.length_nil]; omega) (by decide),Option.bind_some,aet,Option.bind_some,aee]
          rfl) (fun m s=>by
          show Zi _ _ _ _ _=_; rw [Zi,acI,dF (by omega),cond_false])
        exact ⟨some s2,h4,by show s2=_; rw [h3,← h1']; rfl⟩
  obtain ⟨o,ho,hs⟩:=hgoal
  exact ⟨o,by refine Eq.trans hg ?_; exact ho,hs⟩
end Go.Pl
set_option maxRecDepth 100000
namespace Go.Pl
open Go Go.Ab
theorem agn {x:zk} (h:PX1 x) {n:Nat} (hn:2140200≤n) {a:List EX} (hb:a.length+(ownA x).length≤1100000):Zv n a x=some (a++ownA x):=by
  obtain ⟨n,rfl⟩:∃ j,n=j+1:=⟨n - 1,by omega⟩
  unfold Zv
  rw [zD]
  unfold zK
  unfold ownA at hb
  rw [List.length_append,qa,qa,List.length_map,List.length_map] at hb
  obtain ⟨s,h1,h2⟩:=Qv (F:=fun m s i=>Zy n x (fun (y1:(List zc))=>bif ((x.fKind != 3) && (x.fKind != 4)) then some y1 else zZ n x n y1 0) m s i) (ks:=sll x.fWhere) (f:=fun z=>[cpE z]) (fun s=>s) (K:=fun y1=>bif ((x.fKind != 3) && (x.fKind != 4)) then some y1 else zZ n x n y1 0) (m:=n) (by omega) a h.wher.1 (by rw [qa,List.length_map]; omega) (fun m i s z hi e hb=>by
    have hz:=qH (h.wher.2 z (by rw [← e]; exact List.getElem_mem hi)) (by omega) (n:=n) (by omega)
    refine ⟨s++[cpE z],rfl,?_⟩
    simp only [List.length_cons,List.length_nil] at hb
    show Zy _ _ _ _ _ _=_
    rw [Zy,dT (by omega),cond_true,Z6 hi e,Option.bind_some]
    rw [show Zm n _=_ from hz,Option.bind_some,Q1 (by rw [List.length_append]; simp only [List.length_cons,List.length_nil]; omega) (by decide),Option.bind_some,aet,Option.bind_some,aee]
    rfl) (fun m s=>by
    show Zy _ _ _ _ _ _=_; rw [Zy,dF (by omega),cond_false])
  have hg:Zy n x (fun (y1:(List zc))=>bif ((x.fKind != 3) && (x.fKind != 4)) then some y1 else zZ n x n y1 0) n a 0=_:=h2
  refine Eq.trans hg ?_
  rw [alO]
  unfold ownA
  unfold zipP at hb ⊢
  cases hk:adZ x with
  | false=>show some s=_; rw [h1]; simp
  | true=>
    rw [hk] at hb
    rw [Bool.not_true]
    show zZ n x n s 0=_
    rw [cond_true] at hb ⊢
    have hl2:((sll x.fLeft).zip (sll x.fRight)).length≤1048576:=by rw [List.length_zip]; have:=h.left.1; omega
    have hs:s.length=a.length+(sll x.fWhere).length:=by rw [h1,List.length_append,qa,List.length_map]
    obtain ⟨s2,h3,h4⟩:=Qv (F:=fun m s i=>zZ n x m s i) (ks:=(sll x.fLeft).zip (sll x.fRight)) (f:=fun q=>[eqC q]) (fun s=>s) (K:=fun s=>some s) (m:=n) (by omega) s hl2 (by rw [qa,List.length_map]; omega) (fun m i s z hi e hb=>by
      obtain ⟨e1,e2⟩:=ajA hi e
      obtain ⟨m1,m2⟩:=ajf hi e
      have hz1:=qH (h.left.2 z.1 m1) (by omega) (n:=n) (by omega)
      have hz2:=qH (h.right.2 z.2 m2) (by omega) (n:=n) (by omega)
      refine ⟨s++[eqC z],rfl,?_⟩
      simp only [List.length_cons,List.length_nil] at hb
      show zZ _ _ _ _ _=_
      rw [zZ,acI,dT (by omega),cond_true,e1,Option.bind_some]
      rw [show Zm n _=_ from hz1,Option.bind_some,e2,Option.bind_some,show Zm n _=_ from hz2,Option.bind_some,Q1 (by rw [List.length_append]; simp only [List.length_cons,List.length_nil]; omega) (by decide),Option.bind_some,aet,Option.bind_some,aee]
      rfl) (fun m s=>by
      show zZ _ _ _ _ _=_; rw [zZ,acI,dF (by omega),cond_false])
    have hg2:zZ n x n s 0=some s2:=h4
    rw [hg2,h3,h1,List.append_assoc]
theorem ahK (k:Nat) (x:zk):(appC (k+1) x).length=((sll x.fKids).flatMap (fun z=>appC k (zd z))).length+(ownA x).length:=by rw [appC,List.length_append]
theorem aj3:∀ (d:Nat) (x:zk),WPl d x→∀ (k m n:Nat) (a:List EX),d≤k→d≤m→2140300+d≤n→a.length+(appC k x).length≤1100000→Zp m n a x=some (a++appC k x)
  | 0,x,h,_,_,_,_,_,_,_,_=>h.elim
  | d+1,x,h,k,m,n,a,hk,hm,hn,hb=>by
    obtain ⟨k,rfl⟩:∃ j,k=j+1:=⟨k - 1,by omega⟩
    obtain ⟨m,rfl⟩:∃ j,m=j+1:=⟨m - 1,by omega⟩
    obtain ⟨n,rfl⟩:∃ j,n=j+1:=⟨n - 1,by omega⟩
    obtain ⟨hp,hl,hk1⟩:=h
    rw [ahK] at hb
    show ZV (Zp m) (n+1) a x=_
    unfold ZV
    rw [zD]
    unfold zK
    obtain ⟨s,h1,h2⟩:=Qv (F:=fun m' s i=>zQ n (Zp m) x (fun (y1:(List zc))=>(Zv n y1 x).bind fun x10=>some x10) m' s i) (ks:=sll x.fKids) (f:=fun z=>appC k (zd z)) (fun s=>s) (K:=fun y1=>(Zv n y1 x).bind fun x10=>some x10) (m:=n) (by omega) a hl (by omega) (fun m' i s z hi e hb'=>by
      refine ⟨s++appC k (zd z),rfl,?_⟩
      show zQ _ _ _ _ _ _ _=_
      rw [zQ,dT (by omega),cond_true,Z6 hi e,Option.bind_some,aj3 d _ (hk1 z (by rw [← e]; exact List.getElem_mem hi)) k m n s (by omega) (by omega) (by omega) hb',Option.bind_some]) (fun m' s=>by
      show zQ _ _ _ _ _ _ _=_
      rw [zQ,dF (by omega),cond_false])
    have hg:zQ n (Zp m) x (fun (y1:(List zc))=>(Zv n y1 x).bind fun x10=>some x10) n a 0=_:=h2
    refine Eq.trans hg ?_
    rw [agn hp (by omega) (by rw [h1,List.length_append]; omega),Option.bind_some,h1,appC,List.append_assoc]
theorem aku:∀ (d:Nat) (x:zk),WPl d x→szP x≤1048576→∀ (k m n:Nat),d≤k→d≤m→2280000+d≤n→k≤131073→∃ o,Zw m n x=some o∧sll o=appC k x
  | 0,x,h,_,_,_,_,_,_,_,_=>h.elim
  | d+1,x,h,hsz,k,m,n,hk,hm,hn,hk'=>by
    obtain ⟨k,rfl⟩:∃ j,k=j+1:=⟨k - 1,by omega⟩
    obtain ⟨m,rfl⟩:∃ j,m=j+1:=⟨m - 1,by omega⟩
    obtain ⟨n,rfl⟩:∃ j,n=j+1:=⟨n - 1,by omega⟩
    obtain ⟨hp,hl,hk1⟩:=h
    have hb:=ahQ (k+1) x
    rw [ahK] at hb
    show ∃ o,Z8 (Zw m) (n+1) x=some o∧_
    unfold Z8
    rw [zD]
    unfold zK
    obtain ⟨s,h1,h2⟩:=Qv (F:=fun m' s i=>zA n (Zw m) x (fun | none=>(qq n x).bind (fun | none=>some none | some x10=>some (some x10)) | (some y3)=>(Zv n y3 x).bind fun x17=>some (some x17)) m' s i) (ks:=sll x.fKids) (f:=fun z=>appC k (zd z)) sll (K:=fun s=>match s with | none=>(qq n x).bind (fun | none=>some none | some x10=>some (some x10)) | (some y3)=>(Zv n y3 x).bind fun x17=>some (some x17)) (m:=n) (by omega) none hl (by show 0+_≤_; omega) (fun m' i s z hi e hb'=>by
      have hm':z∈sll x.fKids:=by rw [← e]; exact List.getElem_mem hi
      cases s with
      | none=>
        obtain ⟨o,ho,hs⟩:=aku d _ (hk1 z hm') (by have:=agZ hm'; omega) k m n (by omega) (by omega) (by omega) (by omega)
        refine ⟨o,by rw [hs]; rfl,?_⟩
        show zA _ _ _ _ _ _ _=_
        rw [zA,dT (by omega),cond_true,Z6 hi e,Option.bind_some,ho,Option.bind_some]
        cases o <;> rfl
      | some s=>
        refine ⟨some (s++appC k (zd z)),rfl,?_⟩
        show zA _ _ _ _ _ _ _=_
        rw [zA,dT (by omega),cond_true,Z6 hi e,Option.bind_some,show q9 n s (zd z)=some (s++appC k (zd z)) from aj3 d _ (hk1 z hm') k n n s (by omega) (by omega) (by omega) hb',Option.bind_some]) (fun m' s=>by
      cases s with
      | none=>show zA _ _ _ _ _ _ _=_; rw [zA,dF (by omega),cond_false]
      | some s=>show zA _ _ _ _ _ _ _=_; rw [zA,dF (by omega),cond_false])
    have hg:zA n (Zw m) x (fun | none=>(qq n x).bind (fun | none=>some none | some x10=>some (some x10)) | (some y3)=>(Zv n y3 x).bind fun x17=>some (some x17)) n none 0=_:=h2
    have h1':sll s=(sll x.fKids).flatMap (fun z=>appC k (zd z)):=h1
    rw [appC]
    cases s with
    | none=>
      obtain ⟨o,ho,hs⟩:=aj9 hp (n:=n) (by omega) hsz
      refine ⟨o,?_,by rw [hs,← h1']; rfl⟩
      refine Eq.trans hg ?_
      show (qq n x).bind _=_
      rw [ho,Option.bind_some]
      cases o <;> rfl
    | some s=>
      have hs:s=_:=h1'
      refine ⟨some (s++ownA x),?_,by rw [← hs]; rfl⟩
      refine Eq.trans hg ?_
      show (Zv n s x).bind _=_
      rw [agn hp (by omega) (by rw [hs]; omega),Option.bind_some]
theorem agC {x:zk} {d:Nat} (h:WPl d x) (hd:d≤131073) (hsz:szP x≤1048576) {n:Nat} (hn:2412000≤n):∃ o,aap n x=some o∧sll o=appC 131073 x:=by
  obtain ⟨n,rfl⟩:∃ j,n=j+1:=⟨n - 1,by omega⟩
  obtain ⟨o,ho,hs⟩:=aku d x h hsz 131073 n n hd (by omega) (by omega) (by omega)
  refine ⟨o,?_,hs⟩
  unfold aap
  rw [zD,show Qm n x=_ from ho,Option.bind_some]
  cases o <;> rfl
theorem ajM {x:zk} {i:Nat} {z:EX × EX} (hi:i < (zipP x).length) (e:(zipP x)[i]=z):idx (sll x.fLeft) (i:Int)=some z.1∧idx (sll x.fRight) (i:Int)=some z.2:=by
  unfold zipP at hi e
  cases hk:adZ x with
  | false=>simp only [hk,cond_false,List.length_nil] at hi; omega
  | true=>
    simp only [hk,cond_true] at hi e
    exact ajA hi e
theorem abI (x:zk) (i:Nat):((((x.fKind == 3) || (x.fKind == 4)) && (decide ((i:Int) < ((sll x.fLeft).length:Int)))) && (decide ((i:Int) < ((sll x.fRight).length:Int))))=decide (i < (zipP x).length):=by
  rw [show ((x.fKind == 3) || (x.fKind == 4))=adZ x from rfl]
  unfold zipP
  cases adZ x with
  | false=>simp
  | true=>
    rw [cond_true,List.length_zip,Bool.true_and]
    by_cases h:i < (sll x.fLeft).length
    · rw [dT (by omega),Bool.true_and]; exact decide_eq_decide.2 (by omega)
    · rw [dF (p:=(i:Int) < ((sll x.fLeft).length:Int)) (by omega),Bool.false_and]; exact (dF (by omega)).symm
theorem amV {n:Nat} {x:zk} {K:Option (List EX)→Option (Option (List EX))} (s:Option (List EX)) {m:Nat} (hm:2000000≤m) (hz:(zipP x).length≤1048576) (hb:(sll s).length+(zipP x).length≤1100000):
    ∃ s',sll s'=sll s++(zipP x).flatMap (fun q=>[eqR q])∧zW n x K m s 0=K s':=
  Qv (F:=fun m s i=>zW n x K m s i) (ks:=zipP x) (f:=fun q=>[eqR q]) sll (K:=K) (m:=m) hm s hz (by rw [qa,List.length_map]; omega) (fun m i s z hi e hb=>by
    obtain ⟨e1,e2⟩:=ajM hi e
    refine ⟨some (sll s++[eqR z]),rfl,?_⟩
    simp only [List.length_cons,List.length_nil] at hb
    cases s with
    | none=>
      show zW _ _ _ _ _ _=_
      rw [zW,abI,dT hi,cond_true,e1,Option.bind_some,e2,Option.bind_some]; rfl
    | some s=>
      show zW _ _ _ _ _ _=_
      rw [zW,abI,dT hi,cond_true,e1,Option.bind_some,e2,Option.bind_some,Q1 (by have hb':s.length+1≤1100000:=hb; rw [List.length_append]; simp only [List.length_cons,List.length_nil]; omega) (by decide)]
      rfl) (fun m s=>by
    cases s with
    | none=>show zW _ _ _ _ _ _=_; rw [zW,abI,dF (by omega),cond_false]
    | some s=>show zW _ _ _ _ _ _=_; rw [zW,abI,dF (by omega),cond_false])
theorem al9 {n:Nat} {x:zk} {K:List EX→Option (Option (List EX))} (s:List EX) {m:Nat} (hm:2000000≤m) (hz:(zipP x).length≤1048576) (hb:s.length+(zipP x).length≤1100000):
    ∃ s',s'=s++(zipP x).flatMap (fun q=>[eqR q])∧ZC n x K m s 0=K s':=
  Qv (F:=fun m s i=>ZC n x K m s i) (ks:=zipP x) (f:=fun q=>[eqR q]) (fun s=>s) (K:=K) (m:=m) hm s hz (by rw [qa,List.length_map]; omega) (fun m i s z hi e hb=>by
    obtain ⟨e1,e2⟩:=ajM hi e
    refine ⟨s++[eqR z],rfl,?_⟩
    simp only [List.length_cons,List.length_nil] at hb
    show ZC _ _ _ _ _ _=_
    rw [ZC,abI,dT hi,cond_true,e1,Option.bind_some,e2,Option.bind_some,Q1 (by rw [List.length_append]; simp only [List.length_cons,List.length_nil]; omega) (by decide)]
    rfl) (fun m s=>by
    show ZC _ _ _ _ _ _=_; rw [ZC,abI,dF (by omega),cond_false])
theorem ah2 {n:Nat} {x:zk} {K:List EX→Option (Option (List EX))} (s:List EX) {m:Nat} (hm:2000000≤m) (hz:(zipP x).length≤1048576) (hb:s.length+(zipP x).length≤1100000):
    ∃ s',s'=s++(zipP x).flatMap (fun q=>[eqR q])∧Zq n x K m s 0=K s':=
  Qv (F:=fun m s i=>Zq n x K m s i) (ks:=zipP x) (f:=fun q=>[eqR q]) (fun s=>s) (K:=K) (m:=m) hm s hz (by rw [qa,List.length_map]; omega) (fun m i s z hi e hb=>by
    obtain ⟨e1,e2⟩:=ajM hi e
    refine ⟨s++[eqR z],rfl,?_⟩
    simp only [List.length_cons,List.length_nil] at hb
    show Zq _ _ _ _ _ _=_
    rw [Zq,abI,dT hi,cond_true,e1,Option.bind_some,e2,Option.bind_some,Q1 (by rw [List.length_append]; simp only [List.length_cons,List.length_nil]; omega) (by decide)]
    rfl) (fun m s=>by
    show Zq _ _ _ _ _ _=_; rw [Zq,abI,dF (by omega),cond_false])
theorem aeG {α:Type} {l:List α}:(l.isEmpty=true)↔l=[]:=by cases l <;> simp
theorem ae1:∀ (d:Nat) (x:zk),WPl d x→szP x≤1048576→∀ (k m n:Nat),d≤k→d≤m→2000010+d≤n→∃ o,Qg m n x=some o∧sll o=appR k x
  | 0,x,h,_,_,_,_,_,_,_=>h.elim
  | d+1,x,h,hsz,k,m,n,hk,hm,hn=>by
    obtain ⟨k,rfl⟩:∃ j,k=j+1:=⟨k - 1,by omega⟩
    obtain ⟨m,rfl⟩:∃ j,m=j+1:=⟨m - 1,by omega⟩
    obtain ⟨n,rfl⟩:∃ j,n=j+1:=⟨n - 1,by omega⟩
    obtain ⟨hp,hl,hk1⟩:=h
    have hb:=ahd (k+1) x
    rw [appR,List.length_append] at hb
    have hz:=akh x
    have hz1:=hp.left.1
    show ∃ o,QQ (Qg m) (n+1) x=some o∧_
    unfold QQ
    rw [zD]
    simp only [zK]
    generalize hK:(fun (s:Option (List zc))=>(match s with
      | none=>bif (sll x.fWhere).isEmpty then zW n x (fun | none=>some none | (some y10)=>some (some y10)) n none 0 else (ckA 88 (sll x.fWhere).length).bind fun _=>ZC n x (fun (y30:(List zc))=>some (some y30)) n (sll x.fWhere) 0
      | (some y3)=>bif (sll x.fWhere).isEmpty then (ckA 88 y3.length).bind fun _=>Zq n x (fun (y55:(List zc))=>some (some y55)) n y3 0 else (ckA 88 (y3++(sll x.fWhere)).length).bind fun _=>Zq n x (fun (y55:(List zc))=>some (some y55)) n (y3++(sll x.fWhere)) 0:Option (Option (List zc))))=K
    have hk0:∀ s,(sll s).length+(ownB x).length≤1048576→∃ o,K s=some o∧sll o=sll s++ownB x:=by
      intro s hs
      have hob:(ownB x).length=(sll x.fWhere).length+(zipP x).length:=by unfold ownB; rw [List.length_append,qa,List.length_map]
      subst hK
      cases s with
      | none=>
        show ∃ o,(bif (sll x.fWhere).isEmpty then _ else _)=some o∧_
        cases he:(sll x.fWhere).isEmpty with
        | true=>
          rw [cond_true]
          obtain ⟨s',h1,h2⟩:=amV (n:=n) (x:=x) (K:=fun | none=>some none | (some y10)=>some (some y10)) none (m:=n) (by omega) (by omega) (by show 0+_≤_; omega)
          refine ⟨s',Eq.trans h2 (by cases s' <;> rfl),?_⟩
          rw [h1]; unfold ownB; rw [aeG.1 he]; rfl
        | false=>
          rw [cond_false,Q1 (by have:=hp.wher.1; omega) (by decide),Option.bind_some]
          obtain ⟨s',h1,h2⟩:=al9 (n:=n) (x:=x) (K:=fun (y30:(List zc))=>some (some y30)) (sll x.fWhere) (m:=n) (by omega) (by omega) (by omega)
          refine ⟨some s',h2,?_⟩
          show s'=_
          rw [h1]; rfl
      | some s=>
        have hs':s.length+(ownB x).length≤1048576:=hs
        show ∃ o,(bif (sll x.fWhere).isEmpty then _ else _)=some o∧_
        cases he:(sll x.fWhere).isEmpty with
        | true=>
          rw [cond_true,Q1 (by omega) (by decide),Option.bind_some]
          obtain ⟨s',h1,h2⟩:=ah2 (n:=n) (x:=x) (K:=fun (y55:(List zc))=>some (some y55)) s (m:=n) (by omega) (by omega) (by omega)
          refine ⟨some s',h2,?_⟩
          show s'=s++_
          rw [h1]; unfold ownB; rw [aeG.1 he]; rfl
        | false=>
          rw [cond_false,Q1 (by rw [List.length_append]; omega) (by decide),Option.bind_some]
          obtain ⟨s',h1,h2⟩:=ah2 (n:=n) (x:=x) (K:=fun (y55:(List zc))=>some (some y55)) (s++sll x.fWhere) (m:=n) (by omega) (by omega) (by rw [List.length_append]; omega)
          refine ⟨some s',h2,?_⟩
          show s'=s++_
          rw [h1]; unfold ownB; rw [List.append_assoc]
    obtain ⟨s,h1,h2⟩:=Qv (F:=fun m' s i=>zL n (Qg m) x K m' s i) (ks:=sll x.fKids) (f:=fun z=>appR k (zd z)) sll (K:=K) (m:=n) (by omega) none hl (by show 0+_≤_; omega) (fun m' i s z hi e hb'=>by
      have hm':z∈sll x.fKids:=by rw [← e]; exact List.getElem_mem hi
      obtain ⟨o,ho,hs⟩:=ae1 d _ (hk1 z hm') (by have:=agZ hm'; omega) k m n (by omega) (by omega) (by omega)
      rw [← hs] at hb' ⊢
      cases s with
      | none=>
        cases he:(sll o).isEmpty with
        | true=>
          refine ⟨none,by rw [aeG.1 he]; rfl,?_⟩
          show zL _ _ _ _ _ _ _=_
          rw [zL,dT (by omega),cond_true,Z6 hi e,Option.bind_some,ho,Option.bind_some,he,cond_true]
        | false=>
          refine ⟨some (sll o),rfl,?_⟩
          show zL _ _ _ _ _ _ _=_
          rw [zL,dT (by omega),cond_true,Z6 hi e,Option.bind_some,ho,Option.bind_some,he,cond_false,Q1 (by omega) (by decide),Option.bind_some]
      | some s=>
        have hb2:s.length+(sll o).length≤1100000:=hb'
        cases he:(sll o).isEmpty with
        | true=>
          refine ⟨some s,by rw [aeG.1 he,List.append_nil],?_⟩
          show zL _ _ _ _ _ _ _=_
          rw [zL,dT (by omega),cond_true,Z6 hi e,Option.bind_some,ho,Option.bind_some,he,cond_true,Q1 (by omega) (by decide),Option.bind_some]
        | false=>
          refine ⟨some (s++sll o),rfl,?_⟩
          show zL _ _ _ _ _ _ _=_
          rw [zL,dT (by omega),cond_true,Z6 hi e,Option.bind_some,ho,Option.bind_some,he,cond_false,Q1 (by rw [List.length_append]; omega) (by decide),Option.bind_some]) (fun m' s=>by
      cases s with
      | none=>show zL _ _ _ _ _ _ _=_; rw [zL,dF (by omega),cond_false]
      | some s=>show zL _ _ _ _ _ _ _=_; rw [zL,dF (by omega),cond_false])
    have h1':sll s=(sll x.fKids).flatMap (fun z=>appR k (zd z)):=h1
    obtain ⟨o,ho,hs⟩:=hk0 s (by rw [h1']; omega)
    refine ⟨o,?_,by rw [hs,h1',appR]⟩
    rw [← ho,← h2]
end Go.Pl
set_option maxRecDepth 100000
namespace Go.Pl
open Go Go.Ab
theorem af9 {x:zk} {d:Nat} (h:WPl d x) (hd:d≤131073) (hsz:szP x≤1048576) {n:Nat} (hn:2140000≤n):∃ o,acR n x=some o∧sll o=appR 131073 x:=
  ae1 d x h hsz 131073 n n hd (by omega) (by omega)
theorem adW {α β:Type} {p:α→β→Bool} {a c:List α} {b d:List β} (h1:ZA p a b=true) (h2:ZA p c d=true):ZA p (a++c) (b++d)=true:=by
  unfold ZA at h1 h2 ⊢
  simp only [Bool.and_eq_true,decide_eq_true_eq] at h1 h2 ⊢
  refine ⟨by rw [List.length_append,List.length_append]; omega,?_⟩
  rw [List.zip_append h1.1,List.all_append,h1.2,h2.2]; rfl
theorem ady {α β γ:Type} {p:β→γ→Bool} {f:α→List β} {g:α→List γ}:∀ (l:List α),(∀ z,z∈l→ZA p (f z) (g z)=true)→ZA p (l.flatMap f) (l.flatMap g)=true
  | [],_=>rfl
  | z :: l,h=>by
    rw [List.flatMap_cons,List.flatMap_cons]
    exact adW (h z (by simp)) (ady l fun w hw=>h w (by simp [hw]))
theorem ai9 {d:Nat} {z:EX} (h:WX d (za z)) (hd:d≤140000):QR 140000 (za (cpE z)) (za z)=true:=by
  unfold cpE; rw [qi]; exact adh d _ h _ _ hd
theorem ann {d:Nat} {q:EX × EX} (h1:WX d (za q.1)) (h2:WX d (za q.2)) (hd:d≤139999):QR 140000 (za (eqC q)) (za (eqR q))=true:=by
  unfold eqC eqR
  rw [qi,qi,QR]
  have e1:QR 139999 (za (cpE q.1)) (za (zf (za q.1)))=true:=by unfold cpE; rw [qi,qi]; exact adh d _ h1 _ _ hd
  have e2:QR 139999 (za (cpE q.2)) (za (zf (za q.2)))=true:=by unfold cpE; rw [qi,qi]; exact adh d _ h2 _ _ hd
  have e3:afM V0 V0=true:=by unfold afM; rw [ahA.self]; rfl
  rw [e3]
  simp only [beq_self_eq_true,Bool.true_and,sll]
  unfold ZA
  simp [e1,e2]
theorem amQ {x:zk} (h:PX1 x):qB 140000 (ownA x) (ownB x)=true:=by
  unfold qB ownA ownB
  refine adW ?_ (ady _ fun q hq=>?_)
  · rw [qa]; exact abe cpE _ fun z hz=>ai9 (h.wher.2 z hz) (by omega)
  · unfold zipP at hq
    have hm:q.1∈sll x.fLeft∧q.2∈sll x.fRight:=by
      cases hk:adZ x with
      | false=>rw [hk] at hq; cases hq
      | true=>rw [hk] at hq; obtain ⟨q1,q2⟩:=q; exact ⟨(List.of_mem_zip hq).1,(List.of_mem_zip hq).2⟩
    unfold ZA
    simp [ann (h.left.2 _ hm.1) (h.right.2 _ hm.2) (by omega)]
theorem aj7:∀ (d:Nat) (x:zk),WPl d x→∀ k,qB 140000 (appC k x) (appR k x)=true
  | 0,x,h,_=>h.elim
  | d+1,x,h,0=>rfl
  | d+1,x,h,k+1=>by
    rw [appC,appR]
    exact adW (ady _ fun z hz=>aj7 d _ (h.2.2 z hz) k) (amQ h.1)
theorem V0_W:Z4 V0:=⟨⟨by decide,by decide⟩,⟨by decide,by decide⟩,by show (Lit.float _ _).wf=true; rfl,by show ByteArray.empty.size≤_; decide⟩
theorem wI0:wI .u32 0:=⟨by decide,by decide⟩
theorem anJ {x:zk} (h:PX1 x):WXs 131073 (ownA x)∧WXs 131073 (ownB x):=by
  have hq:∀ q,q∈zipP x→WX 131072 (za q.1)∧WX 131072 (za q.2):=fun q hq=>by
    unfold zipP at hq
    cases hk:adZ x with
    | false=>rw [hk] at hq; cases hq
    | true=>rw [hk] at hq; obtain ⟨q1,q2⟩:=q; exact ⟨h.left.2 _ (List.of_mem_zip hq).1,h.right.2 _ (List.of_mem_zip hq).2⟩
  have h2:∀ a b:EX,WX 131072 (za a)→WX 131072 (za b)→WX 131073 ⟨7,0,0,V0,some [a,b]⟩:=fun a b ha hb=>by
    rw [show 131073=131072+1 from rfl,WX]
    refine ⟨V0_W,by simp [sll],fun z hz=>?_⟩
    have hz':z∈[a,b]:=hz
    simp only [List.mem_cons,List.mem_nil_iff,or_false] at hz'
    rcases hz' with rfl | rfl
    · exact ha
    · exact hb
  unfold ownA ownB
  rw [qa,qa,qa]
  constructor
  · intro z hz
    rcases List.mem_append.1 hz with hz | hz
    · obtain ⟨w,hw,rfl⟩:=List.mem_map.1 hz
      unfold cpE; rw [qi]; exact ajN (by omega) (aeF _ _ (h.wher.2 w hw) _)
    · obtain ⟨q,hw,rfl⟩:=List.mem_map.1 hz
      unfold eqC; rw [qi]
      exact h2 _ _ (by unfold cpE; rw [qi]; exact aeF _ _ (hq q hw).1 _) (by unfold cpE; rw [qi]; exact aeF _ _ (hq q hw).2 _)
  · intro z hz
    rcases List.mem_append.1 hz with hz | hz
    · exact ajN (by omega) (h.wher.2 z hz)
    · obtain ⟨q,hw,rfl⟩:=List.mem_map.1 hz
      unfold eqR; rw [qi]
      exact h2 _ _ (by rw [qi]; exact (hq q hw).1) (by rw [qi]; exact (hq q hw).2)
theorem amZ:∀ (d:Nat) (x:zk),WPl d x→∀ k,WXs 131073 (appC k x)∧WXs 131073 (appR k x)
  | 0,x,h,_=>h.elim
  | d+1,x,h,0=>⟨fun z hz=>absurd hz (by simp [appC]),fun z hz=>absurd hz (by simp [appR])⟩
  | d+1,x,h,k+1=>by
    rw [appC,appR]
    constructor <;> intro z hz <;> rcases List.mem_append.1 hz with hz | hz
    · obtain ⟨w,hw,hz⟩:=List.mem_flatMap.1 hz; exact (amZ d _ (h.2.2 w hw) k).1 z hz
    · exact (anJ h.1).1 z hz
    · obtain ⟨w,hw,hz⟩:=List.mem_flatMap.1 hz; exact (amZ d _ (h.2.2 w hw) k).2 z hz
    · exact (anJ h.1).2 z hz
theorem afp (a b:Int):iOr .u32 a b=iOr .u32 b a:=by rw [agj,agj,BitVec.or_comm]
theorem ai7 (a b c:Int):iOr .u32 (iOr .u32 a b) c=iOr .u32 a (iOr .u32 b c):=by
  rw [agj a b,agj b c,agj,agj,anN,anN,BitVec.or_assoc]
theorem ah5 {a:Int} (h:wI .u32 a):iOr .u32 a 0=a:=by
  rw [agj]
  have e0:BitVec.ofInt 32 0=0#32:=rfl
  have e:BitVec.ofInt 32 a ||| BitVec.ofInt 32 0=BitVec.ofInt 32 a:=by rw [e0]; exact BitVec.or_zero
  rw [e,anq h]
def ownS (x:zk):Int:=bif ((x.fKind == 1) && (decide (x.fRel≥0))) && (decide (x.fRel < 32)) then iShl .u32 1 (IntKind.wrap .u64 x.fRel) else 0
noncomputable def setD:Nat→zk→Int
  | 0,_=>0
  | k+1,x=>(sll x.fKids).foldl (fun acc z=>iOr .u32 acc (setD k (zd z))) (ownS x)
theorem alm {α:Type} (f:α→Int):∀ (l:List α) (a:Int),wI .u32 a→wI .u32 (l.foldl (fun acc z=>iOr .u32 acc (f z)) a)
  | [],a,h=>h
  | z :: l,a,h=>alm f l _ (wIor _ _)
theorem ajK {α:Type} (f:α→Int) (c:Int):∀ (l:List α) (a:Int),l.foldl (fun acc z=>iOr .u32 acc (f z)) (iOr .u32 a c)=iOr .u32 (l.foldl (fun acc z=>iOr .u32 acc (f z)) a) c
  | [],a=>rfl
  | z :: l,a=>by
    rw [List.foldl_cons,List.foldl_cons,← ajK f c l,ai7,afp c,← ai7]
theorem anT (x:zk):wI .u32 (ownS x):=by
  unfold ownS
  cases ((x.fKind == 1) && (decide (x.fRel≥0))) && (decide (x.fRel < 32)) with
  | false=>exact wI0
  | true=>exact anz _
theorem anW:∀ (k:Nat) (x:zk),wI .u32 (setD k x)
  | 0,x=>by rw [setD]; exact wI0
  | k+1,x=>alm _ _ _ (anT x)
theorem amA (x:zk) {a:Int} (h:wI .u32 a):seeF x a=iOr .u32 a (ownS x):=by
  unfold seeF ownS
  cases ((x.fKind == 1) && (decide (x.fRel≥0))) && (decide (x.fRel < 32)) with
  | false=>exact (ah5 h).symm
  | true=>rfl
theorem aiL:∀ (k:Nat) (x:zk) (a:Int),wI .u32 a→aft k x a=iOr .u32 a (setD k x)
  | 0,x,a,h=>by rw [aft,setD,ah5 h]
  | k+1,x,a,h=>by
    have hf:∀ (l:List PX) (b:Int),wI .u32 b→l.foldl (fun acc z=>aft k (zd z) acc) b=l.foldl (fun acc z=>iOr .u32 acc (setD k (zd z))) b:=by
      intro l
      induction l with
      | nil=>intro b _; rfl
      | cons z l ih=>intro b hb; rw [List.foldl_cons,List.foldl_cons,aiL k _ b hb,ih _ (wIor _ _)]
    rw [aft,setD,hf _ _ h,amA x (alm _ _ _ h),← ajK,afp a,ajK,afp]
theorem ami (x:zk):ahY x=setD 131073 x:=by
  unfold ahY
  rw [aiL _ _ _ wI0,afp,ah5 (anW _ _)]
theorem aiZ:∀ (d:Nat) (x:zk),WPl d x→∀ (k m n:Nat),d≤k→d≤m→2000010+d≤n→aan m n x=some (setD k x)
  | 0,x,h,_,_,_,_,_,_=>h.elim
  | d+1,x,h,k,m,n,hk,hm,hn=>by
    obtain ⟨k,rfl⟩:∃ j,k=j+1:=⟨k - 1,by omega⟩
    obtain ⟨m,rfl⟩:∃ j,m=j+1:=⟨m - 1,by omega⟩
    obtain ⟨n,rfl⟩:∃ j,n=j+1:=⟨n - 1,by omega⟩
    obtain ⟨hp,hl,hk1⟩:=h
    show abQ (aan m) (n+1) x=_
    unfold abQ
    rw [zD]
    simp only [zK]
    have key:∀ a,qG n (aan m) x (fun y5=>some y5) n a 0=some ((sll x.fKids).foldl (fun acc z=>iOr .u32 acc (setD k (zd z))) a):=fun a=>
      afV (F:=fun m' acc i=>qG n (aan m) x (fun y5=>some y5) m' acc i) (ks:=sll x.fKids) (f:=fun acc z=>iOr .u32 acc (setD k (zd z))) (K:=fun y5=>some y5) (fun m' i acc z hi e=>by
        show qG _ _ _ _ _ _ _=_
        rw [qG,dT (by omega),cond_true,Z6 hi e,Option.bind_some,aiZ d _ (hk1 z (by rw [← e]; exact List.getElem_mem hi)) k m n (by omega) (by omega) (by omega),Option.bind_some]) (fun m' acc=>by
        show qG _ _ _ _ _ _ _=_
        rw [qG,dF (by omega),cond_false]) hl (sll x.fKids) [] n a rfl (by omega)
    rw [setD]
    unfold ownS
    cases hc:((x.fKind == 1) && (decide (x.fRel≥0))) && (decide (x.fRel < 32)) with
    | false=>rw [cond_false,cond_false]; exact key 0
    | true=>
      rw [cond_true,cond_true]
      simp only [Bool.and_eq_true,decide_eq_true_eq] at hc
      have:ckN (IntKind.wrap .u64 x.fRel)=some ():=by
        rw [anR (by omega) (by omega)]; unfold ckN; split <;> first | rfl | omega
      rw [this,Option.bind_some]
      exact key _
theorem ajy {x:zk} {d:Nat} (h:WPl d x) (hd:d≤131073) {n:Nat} (hn:2140000≤n):af1 n x=some (ahY x):=by
  rw [ami]
  exact aiZ d x h 131073 n n hd (by omega) (by omega)
theorem aib (k:Int) {n:Nat} (hn:1≤n):ace n k=some (abF k):=by
  obtain ⟨n,rfl⟩:∃ j,n=j+1:=⟨n - 1,by omega⟩
  unfold ace
  rw [zD]
  simp only [zK]
  by_cases h1:k=1
  · subst h1; rfl
  by_cases h2:k=2
  · subst h2; rfl
  by_cases h3:k=3
  · subst h3; rfl
  by_cases h4:k=4
  · subst h4; rfl
  by_cases h5:k=5
  · subst h5; rfl
  by_cases h6:k=6
  · subst h6; rfl
  by_cases h7:k=7
  · subst h7; rfl
  rw [beqF h1,beqF h2,beqF h3,beqF h4,beqF h5,beqF h6,beqF h7]
  unfold abF
  rw [if_neg h1,if_neg (by omega),if_neg (by omega)]
  rfl
theorem ab0 {a:Option (List EX)} (ha:wSl zS a) {n:Nat} (hn:2000200≤n):Qf n a=some (okEs a):=by
  obtain ⟨n,rfl⟩:∃ j,n=j+1:=⟨n - 1,by omega⟩
  unfold Qf okEs
  rw [zD]
  by_cases h:(sll a).length≤60
  · rw [dF (p:=((sll a).length:Int) > 60) (by omega),cond_false,dT h,Bool.true_and]
    simp only [zK]
    rw [ab9 (F:=fun m i=>qV n a (fun _=>some true) m i) (p:=fun z=>Qp (za z)) (kk:=some true) (e:=some false) ha.1 (by omega) (fun m i z hi e=>by
      show qV _ _ _ _ _=_
      rw [qV,dT (by omega),cond_true,Z6 hi e,Option.bind_some]
      rw [show QJ n _=_ from adJ (W_un (ha.2 z (by rw [← e]; exact List.getElem_mem hi))) (by omega),Option.bind_some]
      cases Qp (za z) <;> rfl) (fun m=>by
      show qV _ _ _ _ _=_
      rw [qV,dF (by omega),cond_false])]
    cases (sll a).all fun z=>Qp (za z) <;> rfl
  · rw [dT (p:=((sll a).length:Int) > 60) (by omega),cond_true,dF h]; rfl
theorem amk {k:Int} (hk:1≤k∧k≤7) (w l r o a d:Nat):
    (bif ((((decide ((w:Int) > 0)) && (decide (k > 4))) || ((l:Int) != (r:Int))) || (!(((k == 3) || (k == 4)) == (decide ((l:Int) > 0))))) then some false else bif (((((decide ((o:Int) > 0)) && (k != 5)) && (k != 6)) || ((k == 6) && ((o:Int) == 0))) || ((decide ((a:Int) > 0)) && (k != 5))) then some false else some ((k == 7) == (decide ((d:Int) > 0))))=some (afa k w l r o a d):=by
  have z:∀ q:Nat,decide ((q:Int) > 0)=!(q == 0):=fun q=>by cases q <;> simp
  have e:((l:Int) != (r:Int))=!(l == r):=by rw [Bool.eq_iff_iff]; simp; omega
  have z0:((o:Int) == 0)=(o == 0):=by rw [Bool.eq_iff_iff]; simp
  rw [z,z,z,z,z,e,z0]
  unfold afa nulL
  simp only [List.all_cons,List.all_nil,Bool.and_true]
  have h:k=1∨k=2∨k=3∨k=4∨k=5∨k=6∨k=7:=by omega
  have hlr:(l == r)=true→(l == 0)=(r == 0):=fun h=>by rw [beq_iff_eq] at h; rw [h]
  have hlr2:(l == 0)=true→(r == 0)=true→(l == r)=true:=fun h1 h2=>by rw [beq_iff_eq] at h1 h2 ⊢; omega
  rcases h with rfl | rfl | rfl | rfl | rfl | rfl | rfl <;> revert hlr hlr2 <;> cases (w == 0) <;> cases (l == 0) <;> cases (r == 0) <;> cases (o == 0) <;> cases (a == 0) <;> cases (d == 0) <;> cases (l == r) <;> decide
end Go.Pl
set_option maxRecDepth 100000
namespace Go.Pl
open Go Go.Ab
def acN (o:Option Nat):Int:=match o with
  | some c=>if c≤40 then (c:Int) else 41
  | none=>41
theorem agi {α:Type} {f:α→Option Nat} {F:Nat→Int→Int→Option Int} {ks:List α} {C:α→Option Int}
    (hF:∀ m acc i,F (m+1) acc i=bif decide (i < (ks.length:Int)) then (idx ks i).bind fun z=>(C z).bind fun r=>bif decide (IntKind.wrap .i64 (acc+r) > 40) then some 41 else F m (IntKind.wrap .i64 (acc+r)) (IntKind.wrap .i64 (i+1)) else some acc)
    (hC:∀ z,z∈ks→C z=some (acN (f z))) (hks:ks.length≤1048576):
    ∀ (l:List α) (m:Nat) (p:List α) (acc:Nat),ks=p++l→l.length < m→acc≤40→
      F m (acc:Int) (p.length:Int)=some (acN ((sumO f l).map (·+acc)))
  | [],m,p,acc,he,hm,h0=>by
    obtain ⟨m,rfl⟩:∃ j,m=j+1:=⟨m - 1,by omega⟩
    rw [hF,dF (by rw [he]; simp),cond_false]
    simp only [sumO,Option.map_some,acN,Nat.zero_add]
    rw [if_pos h0]
  | z :: l,m,p,acc,he,hm,h0=>by
    obtain ⟨m,rfl⟩:∃ j,m=j+1:=⟨m - 1,by omega⟩
    rw [List.length_cons] at hm
    have hz:z∈ks:=by rw [he]; simp
    have hix:idx ks (p.length:Int)=some z:=by rw [he,aaK]; simp
    rw [hF,dT (by rw [he]; simp; omega),cond_true,hix,Option.bind_some,hC z hz,Option.bind_some]
    have hlen:ks.length=p.length+(l.length+1):=by rw [he]; simp
    rw [ado (by omega)]
    have e:p.length+1=(p++[z]).length:=by simp
    obtain ⟨v,hv⟩:∃ v,v=acN (f z):=⟨_,rfl⟩
    rw [← hv]
    have bad:∀ o:Option Nat,(∀ c,o=some c→40 < c)→some (41:Int)=some (acN o):=fun o ho=>by
      cases o with
      | none=>rfl
      | some c=>have:=ho c rfl; simp only [acN]; rw [if_neg (by omega)]
    cases hf:f z with
    | none=>
      rw [hf] at hv
      rw [show v=41 from hv,aa7 (by omega) (by omega),dT (by omega),cond_true]
      unfold sumO
      rw [hf]; rfl
    | some a=>
      rw [hf] at hv
      simp only [acN] at hv
      unfold sumO
      rw [hf]
      by_cases ha:a≤40
      · rw [if_pos ha] at hv
        subst hv
        rw [aa7 (by omega) (by omega)]
        by_cases hs:acc+a≤40
        · rw [dF (by omega),cond_false,e,show (acc:Int)+(a:Int)=((acc+a:Nat):Int) by omega,agi hF hC hks l m (p++[z]) (acc+a) (by rw [he]; simp) (by omega) hs]
          cases hso:sumO f l with
          | none=>rfl
          | some b=>
            simp only [Option.map_some]
            rw [show b+(acc+a)=a+b+acc by omega]
        · rw [dT (by omega),cond_true]
          refine bad _ fun c hc=>?_
          cases hso:sumO f l with
          | none=>rw [hso] at hc; cases hc
          | some b=>rw [hso] at hc; simp only [Option.map_some,Option.some.injEq] at hc; omega
      · rw [if_neg ha] at hv
        subst hv
        rw [aa7 (by omega) (by omega),dT (by omega),cond_true]
        refine bad _ fun c hc=>?_
        cases hso:sumO f l with
        | none=>rw [hso] at hc; cases hc
        | some b=>rw [hso] at hc; simp only [Option.map_some,Option.some.injEq] at hc; omega
theorem akX {k:Int} {n:Nat} (h:abF k=(n:Int)):1≤k∧k≤7:=by
  unfold abF at h
  split at h
  · omega
  · split at h
    · omega
    · split at h <;> omega
theorem ame {x:zk} (hx:PW x) (hk:1≤x.fKind∧x.fKind≤7) {n:Nat} (hn:2000300≤n):
    ((Qf n x.fWhere).bind fun x3=>bif (!x3) then some false else (Qf n x.fLeft).bind fun x6=>bif (!x6) then some false else (Qf n x.fRight).bind fun x9=>bif (!x9) then some false else (Qf n x.fOut).bind fun x12=>bif (((!x12) || (decide (((sll x.fAggs).length:Int) > 60))) || (decide (((sll x.fOrder).length:Int) > 60))) then some false else
      qo n x (fun (_:Unit)=>ZX n x (fun (_:Unit)=>bif ((((decide (((sll x.fWhere).length:Int) > 0)) && (decide (x.fKind > 4))) || (((sll x.fLeft).length:Int) != ((sll x.fRight).length:Int))) || (!(((x.fKind == 3) || (x.fKind == 4)) == (decide (((sll x.fLeft).length:Int) > 0))))) then some false else bif (((((decide (((sll x.fOut).length:Int) > 0)) && (x.fKind != 5)) && (x.fKind != 6)) || ((x.fKind == 6) && (((sll x.fOut).length:Int) == 0))) || ((decide (((sll x.fAggs).length:Int) > 0)) && (x.fKind != 5))) then some false else some ((x.fKind == 7) == (decide (((sll x.fOrder).length:Int) > 0)))) n 0) n 0)
    = some (okEs x.fWhere && (okEs x.fLeft && (okEs x.fRight && (okEs x.fOut && (decide ((sll x.fAggs).length≤60) && (decide ((sll x.fOrder).length≤60) && ((!(sll x.fAggs).any badA) && ((!(sll x.fOrder).any badK) && acS x)))))))):=by
  obtain ⟨_,_,w3,w4,w5,w6,w7,w8⟩:=hx
  rw [amk hk]
  rw [ab0 w3 (by omega),Option.bind_some,ab0 w4 (by omega),ab0 w5 (by omega),ab0 w6 (by omega)]
  simp only [Option.bind_some]
  cases okEs x.fWhere with
  | false=>rfl
  | true=>
  cases okEs x.fLeft with
  | false=>rfl
  | true=>
  cases okEs x.fRight with
  | false=>rfl
  | true=>
  cases okEs x.fOut with
  | false=>rfl
  | true=>
  by_cases ha:(sll x.fAggs).length≤60
  · by_cases ho:(sll x.fOrder).length≤60
    · rw [dF (p:=((sll x.fAggs).length:Int) > 60) (by omega),dF (p:=((sll x.fOrder).length:Int) > 60) (by omega),dT ha,dT ho]
      simp only [Bool.not_true,Bool.or_false,cond_false,Bool.true_and]
      rw [ab9 (F:=fun m i=>qo n x (fun (_:Unit)=>ZX n x (fun (_:Unit)=>some (afa x.fKind (sll x.fWhere).length (sll x.fLeft).length (sll x.fRight).length (sll x.fOut).length (sll x.fAggs).length (sll x.fOrder).length)) n 0) m i) (p:=fun g=>!badA g) (kk:=ZX n x (fun (_:Unit)=>some (afa x.fKind (sll x.fWhere).length (sll x.fLeft).length (sll x.fRight).length (sll x.fOut).length (sll x.fAggs).length (sll x.fOrder).length)) n 0) (e:=some false) w7.1 (by omega) (fun m i g hi e=>by
        show qo _ _ _ _ _=_
        have hg:=w7.2 g (by rw [← e]; exact List.getElem_mem hi)
        rw [qo,dT (by omega),cond_true,Z6 hi e,Option.bind_some,adJ (anL hg) (by omega)]
        unfold badA
        cases (decide (g.fKind < 1) || decide (g.fKind > 4)) with
        | true=>rfl
        | false=>cases Qp g.fOf <;> rfl) (fun m=>by
        show qo _ _ _ _ _=_
        rw [qo,dF (by omega),cond_false]),← List.not_any_eq_all_not]
      cases (sll x.fAggs).any badA with
      | true=>rfl
      | false=>
        rw [Bool.not_false,cond_true,Bool.true_and]
        rw [ab9 (F:=fun m i=>ZX n x (fun (_:Unit)=>some (afa x.fKind (sll x.fWhere).length (sll x.fLeft).length (sll x.fRight).length (sll x.fOut).length (sll x.fAggs).length (sll x.fOrder).length)) m i) (p:=fun g=>!badK g) (kk:=some (acS x)) (e:=some false) w8.1 (by omega) (fun m i g hi e=>by
          show ZX _ _ _ _ _=_
          rw [ZX,dT (by omega),cond_true,Z6 hi e,Option.bind_some]
          unfold badK
          cases (decide (g.fOut < 0) || decide (g.fOut > 29)) <;> rfl) (fun m=>by
          show ZX _ _ _ _ _=_
          rw [ZX,dF (by omega),cond_false]; rfl),← List.not_any_eq_all_not]
        cases (sll x.fOrder).any badK <;> rfl
    · rw [dT (p:=((sll x.fOrder).length:Int) > 60) (by omega),dF ho,Bool.or_true,cond_true,Bool.false_and,Bool.and_false]; rfl
  · rw [dT (p:=((sll x.fAggs).length:Int) > 60) (by omega),dF ha,Bool.or_true,Bool.true_or,cond_true,Bool.false_and]; rfl
theorem air {x:zk} (hx:PW x) {n:Nat} (hn:2000400≤n):acs n x=some (aiV x):=by
  obtain ⟨n,rfl⟩:∃ j,n=j+1:=⟨n - 1,by omega⟩
  unfold acs aiV
  rw [zD]
  simp only [zK]
  rw [aib _ (by omega),Option.bind_some]
  by_cases hk:abF x.fKind=((sll x.fKids).length:Int)
  · rw [show (abF x.fKind != ((sll x.fKids).length:Int))=false by simp [hk],cond_false,show (abF x.fKind == ((sll x.fKids).length:Int))=true by simp [hk],Bool.true_and]
    have tail:=ame hx (akX hk) (n:=n) (by omega)
    rw [tail]
    unfold ag7
    by_cases h1:x.fRel < 0
    · rw [dT h1,cond_true,dF (p:=x.fRel≥0) (by omega)]; simp
    rw [dF h1,cond_false,dT (p:=x.fRel≥0) (by omega),Bool.true_and]
    by_cases h2:x.fRel≥12
    · rw [dT h2,cond_true,dF (p:=x.fRel < 12) (by omega)]; simp
    rw [dF h2,cond_false,dT (p:=x.fRel < 12) (by omega),Bool.true_and]
    have e:(bif (x.fRel != 0) then bif (x.fKind != 1) then some false else some (okEs x.fWhere && (okEs x.fLeft && (okEs x.fRight && (okEs x.fOut && (decide ((sll x.fAggs).length≤60) && (decide ((sll x.fOrder).length≤60) && ((!(sll x.fAggs).any badA) && ((!(sll x.fOrder).any badK) && acS x)))))))) else some (okEs x.fWhere && (okEs x.fLeft && (okEs x.fRight && (okEs x.fOut && (decide ((sll x.fAggs).length≤60) && (decide ((sll x.fOrder).length≤60) && ((!(sll x.fAggs).any badA) && ((!(sll x.fOrder).any badK) && acS x)))))))))=some (((x.fKind == 1) || (x.fRel == 0)) && (okEs x.fWhere && (okEs x.fLeft && (okEs x.fRight && (okEs x.fOut && (decide ((sll x.fAggs).length≤60) && (decide ((sll x.fOrder).length≤60) && ((!(sll x.fAggs).any badA) && ((!(sll x.fOrder).any badK) && acS x))))))))):=by
      rw [show (x.fRel != 0)=!(x.fRel == 0) from rfl,show (x.fKind != 1)=!(x.fKind == 1) from rfl]
      cases (x.fRel == 0) <;> cases (x.fKind == 1) <;> rfl
    rw [e]
    congr 1
    cases okEs x.fWhere <;> cases okEs x.fLeft <;> cases okEs x.fRight <;> cases okEs x.fOut <;> cases decide ((sll x.fAggs).length≤60) <;> cases decide ((sll x.fOrder).length≤60) <;> cases (sll x.fAggs).any badA <;> cases (sll x.fOrder).any badK <;> cases acS x <;> simp
  · rw [show (abF x.fKind != ((sll x.fKids).length:Int))=true by simp [hk],cond_true,show (abF x.fKind == ((sll x.fKids).length:Int))=false by simp [hk]]; rfl
theorem ald:∀ (r:Nat),r≤24→∀ (s:Nat) (x:zk),WD s x→∀ m n,r+1≤m→2000500+r≤n→
    qE m n x (25 - (r:Int))=some (acN (frmP r x)):=by
  intro r
  induction r with
  | zero=>
    intro hr s x hw m n hm hn
    obtain ⟨m,rfl⟩:∃ j,m=j+1:=⟨m - 1,by omega⟩
    obtain ⟨n,rfl⟩:∃ j,n=j+1:=⟨n - 1,by omega⟩
    show Qn (qE m) (n+1) x _=_
    unfold Qn
    rw [zD,dT (by omega),cond_true]
    rfl
  | succ r ih=>
    intro hr s x hw m n hm hn
    obtain ⟨m,rfl⟩:∃ j,m=j+1:=⟨m - 1,by omega⟩
    obtain ⟨n,rfl⟩:∃ j,n=j+1:=⟨n - 1,by omega⟩
    cases s with
    | zero=>exact hw.elim
    | succ s=>
    obtain ⟨hp,hl,hk1⟩:=hw
    show Qn (qE m) (n+1) x _=_
    unfold Qn
    rw [zD,dF (by omega),cond_false,air hp (by omega),Option.bind_some,frmP]
    cases aiV x with
    | false=>rfl
    | true=>
      rw [Bool.not_true,cond_false,cond_true]
      simp only [zK]
      exact agi (f:=fun z=>frmP r (zd z)) (F:=fun m' acc i=>aaj n (qE m) x (25 - ((r+1:Nat):Int)) (fun y6=>some y6) m' acc i) (ks:=sll x.fKids)
            (C:=fun z=>qE m n (zd z) (IntKind.wrap .i64 ((25 - ((r+1:Nat):Int))+1)))
            (fun m' acc i=>rfl) (fun z hz=>by
              show qE m n (zd z) (IntKind.wrap .i64 ((25 - ((r+1:Nat):Int))+1))=_
              rw [aa7 (by omega) (by omega),show (25 - ((r+1:Nat):Int))+1=25 - (r:Int) by omega]
              exact ih (by omega) s _ (hk1 z hz) m n (by omega) (by omega)) hl (sll x.fKids) n [] 1 rfl (by omega) (by omega)
theorem agF {s:Nat} {x:zk} (hw:WD s x) {n:Nat} (hn:2000600≤n):abh n x=some (aeK x):=by
  obtain ⟨n,rfl⟩:∃ j,n=j+1:=⟨n - 1,by omega⟩
  unfold abh aeK
  rw [zD,show adO n x 1=_ from ald 24 (Nat.le_refl _) s x hw n n (by omega) (by omega),Option.bind_some]
  cases frmP 24 x with
  | none=>rfl
  | some c=>
    have e:acN (some c)=if c≤40 then (c:Int) else 41:=rfl
    show some (decide (acN (some c)≤40))=_
    congr 1
    refine decide_eq_decide.2 ?_
    rw [e]
    split <;> omega
end Go.Pl
set_option maxRecDepth 100000
namespace Go.Pl
open Go Go.Ab
theorem aa5 {a:Option (List EX)} (h:LXs 131072 a) {n:Nat} (hn:2140200≤n):QB n a=some (mapO cpE (sll a)):=by
  obtain ⟨n,rfl⟩:∃ j,n=j+1:=⟨n - 1,by omega⟩
  unfold QB
  rw [zD]
  unfold zK
  refine Eq.trans (adn (f:=cpE) (l3:=fun m' s i=>Zu n a (fun | none=>some none | (some y3)=>some (some y3)) m' s i) (l:=sll a) (K:=fun s=>some s) (b:=88) (by decide) h.1 (by omega) (fun m' i s z hi e=>?_) (fun m' s=>?_)) rfl
  · have hz:=qH (h.2 z (by rw [← e]; exact List.getElem_mem hi)) (by omega) (n:=n) (by omega)
    cases s with
    | none=>
      show Zu _ _ _ _ _ _=_
      rw [Zu,dT (by omega),cond_true,Z6 hi e,Option.bind_some]
      rw [show Zm n _=_ from hz]; rfl
    | some s=>
      show Zu _ _ _ _ _ _=_
      rw [Zu,dT (by omega),cond_true,Z6 hi e,Option.bind_some]
      rw [show Zm n _=_ from hz]; rfl
  · cases s with
    | none=>show Zu _ _ _ _ _ _=_; rw [Zu,dF (by omega),cond_false]
    | some s=>show Zu _ _ _ _ _ _=_; rw [Zu,dF (by omega),cond_false]
theorem akt {a:Option (List zt)} (h:(sll a).length≤1048576) {n:Nat} (hn:1≤n):Qw n a=some a:=by
  obtain ⟨n,rfl⟩:∃ j,n=j+1:=⟨n - 1,by omega⟩
  unfold Qw
  rw [zD]
  cases a with
  | none=>rfl
  | some l=>
    cases l with
    | nil=>rfl
    | cons z l=>
      have h':(z :: l).length≤1048576:=h
      show (ckA 16 (z :: l).length).bind _=_
      rw [Q1 (by omega) (by decide)]; rfl
noncomputable def cpA (g:zr):zr:=⟨g.fKind,ad3 140000 g.fOf⟩
noncomputable def Qs:Nat→zk→zk
  | 0,x=>x
  | s+1,x=>⟨x.fKind,x.fRel,mapO cpE (sll x.fWhere),mapO cpE (sll x.fLeft),mapO cpE (sll x.fRight),mapO cpE (sll x.fOut),mapO cpA (sll x.fAggs),x.fOrder,mapO (fun z=>zl (Qs s (zd z))) (sll x.fKids)⟩
theorem ahe (k:Nat) (x:zk):(Qs k x).fKind=x.fKind∧(Qs k x).fRel=x.fRel:=by
  cases k with
  | zero=>exact ⟨rfl,rfl⟩
  | succ k=>rw [Qs]; exact ⟨rfl,rfl⟩
abbrev LX:=Option (List zc)
abbrev TP:=(LX × LX × LX × LX × (Option (List zt))) ⊕ (LX × LX × LX × LX × (Option (List zt)) × (List zm)) ⊕ (LX × LX × LX × LX × (List zr) × (Option (List zt))) ⊕ (LX × LX × LX × LX × (List zr) × (Option (List zt)) × (List zm))
def encP (w l r o:LX) (g:Option (List zr)) (d:Option (List zt)) (k:Option (List zm)):TP:=match g,k with
  | none,none=>.inl (w,l,r,o,d)
  | none,some k=>.inr (.inl (w,l,r,o,d,k))
  | some g,none=>.inr (.inr (.inl (w,l,r,o,g,d)))
  | some g,some k=>.inr (.inr (.inr (w,l,r,o,g,d,k)))
def encQ (y:zk):TP:=encP y.fWhere y.fLeft y.fRight y.fOut y.fAggs y.fOrder y.fKids
theorem alf {n m k d:Nat} {x:zk} (hn:2000000≤n) (hl:(sll x.fKids).length≤1048576) (K:Option (List zm)→Option TP)
    (ih:∀ z,z∈sll x.fKids→Z3 m n (zd z)=some (encQ (Qs k (zd z)))):
    zY n (Z3 m) x K n none 0=K (mapO (fun z=>zl (Qs k (zd z))) (sll x.fKids)):=
  adn (f:=fun z=>zl (Qs k (zd z))) (l3:=fun m' s i=>zY n (Z3 m) x K m' s i) (l:=sll x.fKids) (K:=K) (b:=184) (by decide) hl (by omega) (fun m' i s z hi e=>by
    have hz:=ih z (by rw [← e]; exact List.getElem_mem hi)
    obtain ⟨hk,hr⟩:=ahe k (zd z)
    generalize Qs k (zd z)=y at hz hk hr
    obtain ⟨k0,r0,w,l,r,o,g,od,kd⟩:=y
    simp only at hk hr
    subst hk; subst hr
    unfold encQ at hz
    simp only at hz
    cases s with
    | none=>
      show zY _ _ _ _ _ _ _=_
      rw [zY,dT (by omega),cond_true,Z6 hi e,Option.bind_some,hz,Option.bind_some]
      cases g <;> cases kd <;> rfl
    | some s=>
      show zY _ _ _ _ _ _ _=_
      rw [zY,dT (by omega),cond_true,Z6 hi e,Option.bind_some,hz,Option.bind_some]
      cases g <;> cases kd <;> rfl) (fun m' s=>by
    cases s with
    | none=>show zY _ _ _ _ _ _ _=_; rw [zY,dF (by omega),cond_false]
    | some s=>show zY _ _ _ _ _ _ _=_; rw [zY,dF (by omega),cond_false])
theorem aj4 {n m k d:Nat} {x:zk} (hn:2000000≤n) (hl:(sll x.fKids).length≤1048576) (K:Option (List zm)→Option TP)
    (ih:∀ z,z∈sll x.fKids→Z3 m n (zd z)=some (encQ (Qs k (zd z)))):
    zR n (Z3 m) x K n none 0=K (mapO (fun z=>zl (Qs k (zd z))) (sll x.fKids)):=
  adn (f:=fun z=>zl (Qs k (zd z))) (l3:=fun m' s i=>zR n (Z3 m) x K m' s i) (l:=sll x.fKids) (K:=K) (b:=184) (by decide) hl (by omega) (fun m' i s z hi e=>by
    have hz:=ih z (by rw [← e]; exact List.getElem_mem hi)
    obtain ⟨hk,hr⟩:=ahe k (zd z)
    generalize Qs k (zd z)=y at hz hk hr
    obtain ⟨k0,r0,w,l,r,o,g,od,kd⟩:=y
    simp only at hk hr
    subst hk; subst hr
    unfold encQ at hz
    simp only at hz
    cases s with
    | none=>
      show zR _ _ _ _ _ _ _=_
      rw [zR,dT (by omega),cond_true,Z6 hi e,Option.bind_some,hz,Option.bind_some]
      cases g <;> cases kd <;> rfl
    | some s=>
      show zR _ _ _ _ _ _ _=_
      rw [zR,dT (by omega),cond_true,Z6 hi e,Option.bind_some,hz,Option.bind_some]
      cases g <;> cases kd <;> rfl) (fun m' s=>by
    cases s with
    | none=>show zR _ _ _ _ _ _ _=_; rw [zR,dF (by omega),cond_false]
    | some s=>show zR _ _ _ _ _ _ _=_; rw [zR,dF (by omega),cond_false])
theorem agp:∀ (d:Nat) (x:zk),WPl d x→∀ (k m n:Nat),d≤k→d≤m→2140300+d≤n→Z3 m n x=some (encQ (Qs k x))
  | 0,x,h,_,_,_,_,_,_=>h.elim
  | d+1,x,h,k,m,n,hk,hm,hn=>by
    obtain ⟨k,rfl⟩:∃ j,k=j+1:=⟨k - 1,by omega⟩
    obtain ⟨m,rfl⟩:∃ j,m=j+1:=⟨m - 1,by omega⟩
    obtain ⟨n,rfl⟩:∃ j,n=j+1:=⟨n - 1,by omega⟩
    obtain ⟨hp,hl,hk1⟩:=h
    show abG (Z3 m) (n+1) x=_
    unfold abG
    rw [zD,aa5 hp.wher (by omega),aa5 hp.left (by omega),aa5 hp.right (by omega),aa5 hp.out (by omega),akt hp.order (by omega)]
    simp only [Option.bind_some]
    unfold encQ
    rw [Qs]
    simp only
    have ih:∀ z,z∈sll x.fKids→Z3 m n (zd z)=some (encQ (Qs k (zd z))):=fun z hz=>agp d _ (hk1 z hz) k m n (by omega) (by omega) (by omega)
    refine Eq.trans (adn (f:=cpA) (l3:=fun m' s i=>ZJ n x (fun s=>match s with | none=>zY n (Z3 m) x (fun | none=>some (.inl (mapO cpE (sll x.fWhere),mapO cpE (sll x.fLeft),mapO cpE (sll x.fRight),mapO cpE (sll x.fOut),x.fOrder)) | (some y17)=>some (.inr (.inl (mapO cpE (sll x.fWhere),mapO cpE (sll x.fLeft),mapO cpE (sll x.fRight),mapO cpE (sll x.fOut),x.fOrder,y17)))) n none 0 | (some y13)=>zR n (Z3 m) x (fun | none=>some (.inr (.inr (.inl (mapO cpE (sll x.fWhere),mapO cpE (sll x.fLeft),mapO cpE (sll x.fRight),mapO cpE (sll x.fOut),y13,x.fOrder)))) | (some y93)=>some (.inr (.inr (.inr (mapO cpE (sll x.fWhere),mapO cpE (sll x.fLeft),mapO cpE (sll x.fRight),mapO cpE (sll x.fOut),y13,x.fOrder,y93))))) n none 0) m' s i) (l:=sll x.fAggs) (K:=fun s=>match s with | none=>zY n (Z3 m) x (fun | none=>some (.inl (mapO cpE (sll x.fWhere),mapO cpE (sll x.fLeft),mapO cpE (sll x.fRight),mapO cpE (sll x.fOut),x.fOrder)) | (some y17)=>some (.inr (.inl (mapO cpE (sll x.fWhere),mapO cpE (sll x.fLeft),mapO cpE (sll x.fRight),mapO cpE (sll x.fOut),x.fOrder,y17)))) n none 0 | (some y13)=>zR n (Z3 m) x (fun | none=>some (.inr (.inr (.inl (mapO cpE (sll x.fWhere),mapO cpE (sll x.fLeft),mapO cpE (sll x.fRight),mapO cpE (sll x.fOut),y13,x.fOrder)))) | (some y93)=>some (.inr (.inr (.inr (mapO cpE (sll x.fWhere),mapO cpE (sll x.fLeft),mapO cpE (sll x.fRight),mapO cpE (sll x.fOut),y13,x.fOrder,y93))))) n none 0) (b:=96) (by decide) hp.aggs.1 (by omega) (fun m' i s z hi e=>?_) (fun m' s=>?_)) ?_
    · have hz:=qH (hp.aggs.2 z (by rw [← e]; exact List.getElem_mem hi)) (by omega) (n:=n) (by omega)
      cases s with
      | none=>
        show ZJ _ _ _ _ _ _=_
        rw [ZJ,dT (by omega),cond_true,Z6 hi e,Option.bind_some,hz]; rfl
      | some s=>
        show ZJ _ _ _ _ _ _=_
        rw [ZJ,dT (by omega),cond_true,Z6 hi e,Option.bind_some,hz]; rfl
    · cases s with
      | none=>show ZJ _ _ _ _ _ _=_; rw [ZJ,dF (by omega),cond_false]
      | some s=>show ZJ _ _ _ _ _ _=_; rw [ZJ,dF (by omega),cond_false]
    · cases mapO cpA (sll x.fAggs) with
      | none=>
        refine Eq.trans (alf (d:=d) (by omega) hl _ ih) ?_
        cases mapO (fun z=>zl (Qs k (zd z))) (sll x.fKids) <;> rfl
      | some g=>
        refine Eq.trans (aj4 (d:=d) (by omega) hl _ ih) ?_
        cases mapO (fun z=>zl (Qs k (zd z))) (sll x.fKids) <;> rfl
theorem afy {a:Option (List EX)} (h:LXs 131072 a):LXs 131072 (mapO cpE (sll a)):=by
  refine ⟨by rw [Qu,List.length_map]; exact h.1,fun z hz=>?_⟩
  rw [Qu] at hz
  obtain ⟨w,hw,rfl⟩:=List.mem_map.1 hz
  unfold cpE; rw [qi]; exact aeF _ _ (h.2 w hw) _
theorem alK:∀ (d:Nat) (x:zk),WPl d x→∀ k,WPl d (Qs k x)
  | 0,x,h,_=>h.elim
  | d+1,x,h,0=>h
  | d+1,x,h,k+1=>by
    obtain ⟨hp,hl,hk1⟩:=h
    rw [Qs]
    refine ⟨⟨afy hp.wher,afy hp.left,afy hp.right,afy hp.out,⟨?_,fun g hg=>?_⟩,hp.order⟩,?_,fun z hz=>?_⟩
    · show (sll (mapO _ _)).length≤_
      rw [Qu,List.length_map]; exact hp.aggs.1
    · have hg':g∈sll (mapO cpA (sll x.fAggs)):=hg
      rw [Qu] at hg'
      obtain ⟨w,hw,rfl⟩:=List.mem_map.1 hg'
      exact aeF _ _ (hp.aggs.2 w hw) _
    · show (sll (mapO _ _)).length≤_
      rw [Qu,List.length_map]; exact hl
    · have hz':z∈sll (mapO (fun z=>zl (Qs k (zd z))) (sll x.fKids)):=hz
      rw [Qu] at hz'
      obtain ⟨w,hw,rfl⟩:=List.mem_map.1 hz'
      rw [ai5]
      exact alK d _ (hk1 w hw) k
theorem acL {a:Option (List EX)} (h:LXs 131072 a):qB 140000 (sll (mapO cpE (sll a))) (sll a)=true:=by
  rw [Qu]
  exact abe cpE _ fun z hz=>ai9 (h.2 z hz) (by omega)
theorem ahC:∀ (d:Nat) (x:zk),WPl d x→∀ k s,d≤s→abB s (Qs k x) x=true
  | 0,x,h,_,_,_=>h.elim
  | d+1,x,h,0,s,hs=>afd (d+1) x h s hs
  | d+1,x,h,k+1,s,hs=>by
    obtain ⟨s,rfl⟩:∃ j,s=j+1:=⟨s - 1,by omega⟩
    obtain ⟨hp,hl,hk1⟩:=h
    rw [abB,Qs]
    simp only
    rw [acL hp.wher,acL hp.left,acL hp.right,acL hp.out,Qu,Qu,abe cpA _ (fun g hg=>by
      unfold adf cpA
      simp only [beq_self_eq_true,Bool.true_and]
      exact adh _ _ (hp.aggs.2 g hg) _ _ (by omega)),aav _ (fun g _=>ag4 g),abe _ _ (fun z hz=>by rw [ai5]; exact ahC d _ (hk1 z hz) k s (by omega))]
    simp
noncomputable def kdP (z:PX):Int:=(zd z).fKind
theorem ago {n:Nat} {x:zk} {y:List zm} {K:List Int→Option Bool} (hy:y.length=(sll x.fKids).length) (hl:(sll x.fKids).length≤1048576):
    ∀ (l p:List PX) (m:Nat) (s:List zm),sll x.fKids=p++l→l.length < m→s.length=y.length→ZR n x y K m s (p.map kdP) (p.length:Int)=K ((sll x.fKids).map kdP)
  | [],p,m,s,he,hm,hs=>by
    obtain ⟨m,rfl⟩:∃ j,m=j+1:=⟨m - 1,by omega⟩
    have hp:(sll x.fKids).length=p.length:=by rw [he]; simp
    rw [ZR,dF (by omega),cond_false,he,List.append_nil]
  | z :: l,p,m,s,he,hm,hs=>by
    obtain ⟨m,rfl⟩:∃ j,m=j+1:=⟨m - 1,by omega⟩
    rw [List.length_cons] at hm
    have hlen:(sll x.fKids).length=p.length+(l.length+1):=by rw [he]; simp
    have hix:idx (sll x.fKids) (p.length:Int)=some z:=by rw [he,aaK]; simp
    have hs2:∃ w,idx s (p.length:Int)=some w:=⟨s[p.length]'(by omega),by rw [aaK]; exact List.getElem?_eq_getElem _⟩
    obtain ⟨w,hw⟩:=hs2
    rw [ZR,dT (by omega),cond_true,hix,Option.bind_some,Q1 (by simp; omega) (by decide),Option.bind_some,hw,Option.bind_some,ado (by omega),show p.length+1=(p++[z]).length by simp]
    have e:p.map kdP++[(zd z).fKind]=(p++[z]).map kdP:=by rw [List.map_append]; rfl
    rw [e]
    exact ago hy hl l (p++[z]) m _ (by rw [he]; simp) (by omega) (by rw [List.length_set]; exact hs)
theorem aks {n:Nat} {x:zk} {K:Unit→Option Bool} (hl:(sll x.fKids).length≤1048576) {m:Nat} (hm:2000000≤m):Zn n x ((sll x.fKids).map kdP) K m 0=K ():=by
  have:=ab9 (F:=fun m i=>Zn n x ((sll x.fKids).map kdP) K m i) (l:=sll x.fKids) (p:=fun _=>true) (kk:=K ()) (e:=some false) hl hm (fun m i z hi e=>by
    show Zn _ _ _ _ _ _=_
    have h2:idx ((sll x.fKids).map kdP) (i:Int)=some (kdP z):=Z6 (by rw [List.length_map]; exact hi) (by rw [List.getElem_map,e])
    rw [Zn,dT (by omega),cond_true,Z6 hi e,Option.bind_some,h2,Option.bind_some]
    unfold kdP
    rw [show ((zd z).fKind != (zd z).fKind)=false by simp]
    rfl) (fun m=>by
    show Zn _ _ _ _ _ _=_
    rw [Zn,dF (by omega),cond_false])
  rw [show Zn n x ((sll x.fKids).map kdP) K m 0=_ from this,show (sll x.fKids).all (fun _=>true)=true from List.all_eq_true.2 fun _ _=>rfl]; rfl
theorem ae0 {n:Nat} {x:zk} {y:List zm} {K:List Int→Option Bool} (hy:y.length=(sll x.fKids).length) (hl:(sll x.fKids).length≤1048576):
    ∀ (l p:List PX) (m:Nat) (s:List zm),sll x.fKids=p++l→l.length < m→s.length=y.length→ZD n x y K m s (p.map kdP) (p.length:Int)=K ((sll x.fKids).map kdP)
  | [],p,m,s,he,hm,hs=>by
    obtain ⟨m,rfl⟩:∃ j,m=j+1:=⟨m - 1,by omega⟩
    have hp:(sll x.fKids).length=p.length:=by rw [he]; simp
    rw [ZD,dF (by omega),cond_false,he,List.append_nil]
  | z :: l,p,m,s,he,hm,hs=>by
    obtain ⟨m,rfl⟩:∃ j,m=j+1:=⟨m - 1,by omega⟩
    rw [List.length_cons] at hm
    have hlen:(sll x.fKids).length=p.length+(l.length+1):=by rw [he]; simp
    have hix:idx (sll x.fKids) (p.length:Int)=some z:=by rw [he,aaK]; simp
    have hs2:∃ w,idx s (p.length:Int)=some w:=⟨s[p.length]'(by omega),by rw [aaK]; exact List.getElem?_eq_getElem _⟩
    obtain ⟨w,hw⟩:=hs2
    rw [ZD,dT (by omega),cond_true,hix,Option.bind_some,Q1 (by simp; omega) (by decide),Option.bind_some,hw,Option.bind_some,ado (by omega),show p.length+1=(p++[z]).length by simp]
    have e:p.map kdP++[(zd z).fKind]=(p++[z]).map kdP:=by rw [List.map_append]; rfl
    rw [e]
    exact ae0 hy hl l (p++[z]) m _ (by rw [he]; simp) (by omega) (by rw [List.length_set]; exact hs)
theorem aiv {n:Nat} {x:zk} {K:Unit→Option Bool} (hl:(sll x.fKids).length≤1048576) {m:Nat} (hm:2000000≤m):Ze n x ((sll x.fKids).map kdP) K m 0=K ():=by
  have:=ab9 (F:=fun m i=>Ze n x ((sll x.fKids).map kdP) K m i) (l:=sll x.fKids) (p:=fun _=>true) (kk:=K ()) (e:=some false) hl hm (fun m i z hi e=>by
    show Ze _ _ _ _ _ _=_
    have h2:idx ((sll x.fKids).map kdP) (i:Int)=some (kdP z):=Z6 (by rw [List.length_map]; exact hi) (by rw [List.getElem_map,e])
    rw [Ze,dT (by omega),cond_true,Z6 hi e,Option.bind_some,h2,Option.bind_some]
    unfold kdP
    rw [show ((zd z).fKind != (zd z).fKind)=false by simp]
    rfl) (fun m=>by
    show Ze _ _ _ _ _ _=_
    rw [Ze,dF (by omega),cond_false])
  rw [show Ze n x ((sll x.fKids).map kdP) K m 0=_ from this,show (sll x.fKids).all (fun _=>true)=true from List.all_eq_true.2 fun _ _=>rfl]; rfl
theorem aln {n:Nat} {x:zk} {K:Unit→Option Bool} (h:sll x.fKids=[]) {m:Nat} (hm:1≤m):qt n x K m 0=K ():=by
  obtain ⟨m,rfl⟩:∃ j,m=j+1:=⟨m - 1,by omega⟩
  rw [qt,dF (by rw [h]; simp),cond_false]
theorem ak6 {n:Nat} {K:Unit→Option Bool} {m:Nat} (hm:1≤m):qQ n K m=K ():=by
  obtain ⟨m,rfl⟩:∃ j,m=j+1:=⟨m - 1,by omega⟩
  rw [qQ]
theorem ajP {n:Nat} {x:zk} {K:Unit→Option Bool} (h:sll x.fKids=[]) {m:Nat} (hm:1≤m):qd n x K m 0=K ():=by
  obtain ⟨m,rfl⟩:∃ j,m=j+1:=⟨m - 1,by omega⟩
  rw [qd,dF (by rw [h]; simp),cond_false]
theorem ajw {n:Nat} {K:Unit→Option Bool} {m:Nat} (hm:1≤m):qx n K m=K ():=by
  obtain ⟨m,rfl⟩:∃ j,m=j+1:=⟨m - 1,by omega⟩
  rw [qx]
theorem aij {n:Nat} (hn:3900000≤n) (hwk:qZ n=some true) {a0 a1:zk} (h0:Qb a0) (h1:Qb a1):QP (n+1) a0 a1=some true:=by
  have d0:=W_WD h0
  have d1:=W_WD h1
  have p0:=ak9 _ _ d0
  have p1:=ak9 _ _ d1
  have hsz:szP a0≤1048576:=h0.2
  unfold QP
  rw [zD]
  obtain ⟨b0,g0⟩:=agu d0 (n:=n) (by omega)
  rw [g0,Option.bind_some]
  cases b0 with
  | true=>rw [cond_true,hwk]; rfl
  | false=>
  rw [cond_false]
  obtain ⟨b1,g1⟩:=agu d1 (n:=n) (by omega)
  rw [g1,Option.bind_some]
  cases b1 with
  | true=>rw [cond_true,hwk]; rfl
  | false=>
  rw [cond_false]
  obtain ⟨o,ho,hos⟩:=agC p0 (by omega) hsz (n:=n) (by omega)
  obtain ⟨q,hq,hqs⟩:=af9 p0 (by omega) hsz (n:=n) (by omega)
  have w:=amZ _ _ p0 131073
  have lo:LXs 131073 o:=⟨by rw [hos]; have:=ahQ 131073 a0; omega,by rw [hos]; exact w.1⟩
  have lq:LXs 131073 q:=⟨by rw [hqs]; have:=ahd 131073 a0; omega,by rw [hqs]; exact w.2⟩
  have hs:aae n ⟨none,none,false,o,none,none⟩ ⟨none,none,false,q,none,none⟩=some true:=by
    rw [acU (a:=⟨none,none,false,o,none,none⟩) (b:=⟨none,none,false,q,none,none⟩) ⟨by simp [sll],aeE 131073,lo,agW 131073,by simp [sll]⟩ ⟨by simp [sll],aeE 131073,lq,agW 131073,by simp [sll]⟩ (by omega) (by omega)]
    unfold aky
    show some (true && (true && (true && (qB 140000 (sll o) (sll q) && (true && true)))))=_
    rw [hos,hqs,aj7 _ _ p0]; rfl
  rw [show aap n _=_ from ho,Option.bind_some,hq,Option.bind_some,hs,Option.bind_some,ah3 d0 (by omega),Option.bind_some,agF d0 (by omega),Option.bind_some]
  rw [show (!(aeK a0 == aeK a0))=false by simp,cond_false,ajB d0 (by omega) (by omega),Option.bind_some,ajy p0 (by omega) (by omega),Option.bind_some,show (ahY a0 != ahY a0)=false by simp,cond_false,Bool.not_true,cond_false]
  rw [show adg n a0 a1=_ from adQ _ _ p0 _ _ p1 131073 n n (by omega) (by omega) (by omega),Option.bind_some,show qz n a0 a1=_ from adq _ _ p0 _ _ p1 131073 n n (by omega) (by omega) (by omega),Option.bind_some]
  rw [show (!(abB 131073 a0 a1 == abB 131073 a0 a1))=false by simp,cond_false,show adg n a0 a0=_ from adQ _ _ p0 _ _ p0 131073 n n (by omega) (by omega) (by omega),Option.bind_some,afd _ _ p0 _ (by omega),Bool.not_true,cond_false]
  rw [show af3 n a0=_ from agp _ _ p0 131073 n n (by omega) (by omega) (by omega)]
  simp only [zK,Option.bind_some]
  have hc:qz n (Qs 131073 a0) a0=some true:=by
    rw [show qz n (Qs 131073 a0) a0=_ from adq _ _ (alK _ _ p0 _) _ _ p0 131073 n n (by omega) (by omega) (by omega),ahC _ _ p0 _ _ (by omega)]
  rw [show 131073=131072+1 from rfl,Qs] at hc
  rw [show 131073=131072+1 from rfl,Qs]
  have hl:(sll a0.fKids).length≤1048576:=by
    have:WPl (131071+1) a0:=p0
    exact this.2.1
  generalize mapO cpE (sll a0.fWhere)=w1 at hc ⊢
  generalize mapO cpE (sll a0.fLeft)=w2 at hc ⊢
  generalize mapO cpE (sll a0.fRight)=w3 at hc ⊢
  generalize mapO cpE (sll a0.fOut)=w4 at hc ⊢
  generalize hkd:mapO (fun z=>zl (Qs 131072 (zd z))) (sll a0.fKids)=kd at hc ⊢
  have hkn:kd=none→sll a0.fKids=[]:=fun e=>by
    rw [e] at hkd
    unfold mapO at hkd
    split at hkd
    · assumption
    · cases hkd
  have hks:∀ y,kd=some y→y.length=(sll a0.fKids).length:=fun y e=>by
    have:=congrArg (fun s=>(sll s).length) hkd
    simp only [Qu,List.length_map] at this
    rw [e] at this
    exact this.symm
  have hl0:∀ (y:List zm),y.length=(sll a0.fKids).length→(sll a0.fKids).length < n:=fun y _=>by omega
  generalize mapO cpA (sll a0.fAggs)=ag at hc ⊢
  cases ag with
  | none=>
    cases kd with
    | none=>
      show ((qz n ⟨a0.fKind,a0.fRel,w1,w2,w3,w4,none,a0.fOrder,none⟩ a0).bind _)=_
      rw [hc,Option.bind_some,Bool.not_true,cond_false,ak6 (by omega),aln (hkn rfl) (by omega),hwk]; rfl
    | some y=>
      show ((qz n ⟨a0.fKind,a0.fRel,w1,w2,w3,w4,none,a0.fOrder,some y⟩ a0).bind _)=_
      rw [hc,Option.bind_some,Bool.not_true,cond_false]
      rw [show ZR n a0 y _ n y [] 0=_ from ago (hks y rfl) hl (sll a0.fKids) [] n y rfl (by omega) rfl]
      rw [aks hl (by omega),hwk]; rfl
  | some g=>
    cases kd with
    | none=>
      show ((qz n ⟨a0.fKind,a0.fRel,w1,w2,w3,w4,some g,a0.fOrder,none⟩ a0).bind _)=_
      rw [hc,Option.bind_some,Bool.not_true,cond_false,ajw (by omega),ajP (hkn rfl) (by omega),hwk]; rfl
    | some y=>
      show ((qz n ⟨a0.fKind,a0.fRel,w1,w2,w3,w4,some g,a0.fOrder,some y⟩ a0).bind _)=_
      rw [hc,Option.bind_some,Bool.not_true,cond_false]
      rw [show ZD n a0 y _ n y [] 0=_ from ae0 (hks y rfl) hl (sll a0.fKids) [] n y rfl (by omega) rfl]
      rw [aiv hl (by omega),hwk]; rfl
theorem alb:qZ 3999999=some true:=rfl
theorem aho {n:Nat} (h:n=4000000) {a0 a1:zk} (h0:Qb a0) (h1:Qb a1):QP n a0 a1=some true:=by
  subst h
  exact aij (n:=3999999) (by decide) alb h0 h1
end Go.Pl
