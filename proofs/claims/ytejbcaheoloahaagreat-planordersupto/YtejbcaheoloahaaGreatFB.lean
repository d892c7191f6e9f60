import Derived.Test.YtejbcaheoloahaaGreatFA
set_option linter.unusedVariables false
set_option linter.unusedSimpArgs false
set_option maxRecDepth 100000
namespace Go.Pl
open Go Go.Ab
theorem apf {x:zh} {z:EX} (h:z∈sll x.fKids):szL (zg z)+8≤szL x:=by
  have e:szL (zg z)=PV.bulkL (za z):=by rw [zu z]; rfl
  rw [e]
  unfold szL Zy
  cases hk:x.fKids with
  | none=>rw [hk] at h; cases h
  | some l=>
    rw [hk] at h
    have:=ads (rows:=l.map za) (r:=za z) (List.mem_map_of_mem h)
    rw [show zc za (some l)=.sl (l.map za) from rfl]
    simp only [PV.bulkL,PV.bulk]
    omega
def WX:Nat→zh→Prop
  | 0,_=>False
  | s+1,x=>qW x.fConst∧(sll x.fKids).length≤1048576∧∀ z,z∈sll x.fKids→WX s (zg z)
theorem apL:∀ (s:Nat) (x:zh),szL x≤8 * s→Zx x→WX s x
  | 0,x,h,_=>by
    unfold szL Zy at h
    simp only [PV.bulkL,PV.bulk] at h
    omega
  | s+1,x,h,hw=>⟨amZ hw,adH hw,fun z hz=>apL s _ (by have:=apf hz; omega) (akq hw hz)⟩
theorem W_WX {x:zh} (hw:Zx x):WX 131072 x:=apL _ x hw.2 hw
theorem agR:∀ {s t:Nat} {x:zh},s≤t→WX s x→WX t x
  | 0,_,_,_,h=>h.elim
  | s+1,t,x,hl,h=>by
    obtain ⟨t,rfl⟩:∃ j,t=j+1:=⟨t - 1,by omega⟩
    exact ⟨h.1,h.2.1,fun z hz=>agR (by omega) (h.2.2 z hz)⟩
noncomputable def qp:Nat→zh→zh→Bool
  | 0,_,_=>false
  | s+1,x,y=>((((x.fKind == y.fKind) && (x.fRel == y.fRel)) && (x.fCol == y.fCol)) && (x.fConst.fKind == y.fConst.fKind)) && (adK x.fConst y.fConst && aaB (fun a b=>qp s (zg a) (zg b)) (sll x.fKids) (sll y.fKids))
noncomputable def amz (s:Nat) (a b:List EX):Bool:=aaB (fun x y=>qp s (zg x) (zg y)) a b
theorem akg {d m n k:Nat} {rc:Nat→Option (List EX)→Option (List EX)→Option Bool} {a b:Option (List EX)} (ha:(sll a).length≤1048576) (hn:2000000≤n)
    (h:∀ x,x∈sll a→∀ y,y∈sll b→qy rc n (zg x) (zg y)=some (qp k (zg x) (zg y))):
    ZS rc (n+1) a b=some (amz k (sll a) (sll b)):=by
  unfold ZS
  rw [zt]
  unfold zD
  refine agx (F:=fun m i=>zT n rc a b (fun _=>some true) m i) ha hn (fun he m i x y hi e1 e2 m1 m2=>?_) (fun m=>?_)
  · show zT _ _ _ _ _ _ _=_
    rw [zT,dT (by omega),cond_true,e1,Option.bind_some,e2,Option.bind_some]
    rw [show qy rc n _ _=_ from h x m1 y m2,Option.bind_some]
    cases qp k (zg x) (zg y) <;> rfl
  · show zT _ _ _ _ _ _ _=_
    rw [zT,dF (by omega),cond_false]
theorem afc:∀ (d:Nat) (x:zh),WX d x→∀ (e:Nat) (y:zh),WX e y→∀ k m n,d≤k→d≤m→2000010+2 * d≤n→
    qy (Zc m) n x y=some (qp k x y)
  | 0,x,h,_,_,_,_,_,_,_,_,_=>h.elim
  | d+1,x,h,0,y,h',_,_,_,_,_,_=>h'.elim
  | d+1,x,h,e+1,y,h',k,m,n,hk,hm,hn=>by
    obtain ⟨k,rfl⟩:∃ j,k=j+1:=⟨k - 1,by omega⟩
    obtain ⟨m,rfl⟩:∃ j,m=j+1:=⟨m - 1,by omega⟩
    obtain ⟨n,rfl⟩:∃ j,n=j+2:=⟨n - 2,by omega⟩
    unfold qy
    rw [zt,qp]
    cases (((x.fKind == y.fKind) && (x.fRel == y.fRel)) && (x.fCol == y.fCol)) && (x.fConst.fKind == y.fConst.fKind) with
    | false=>rfl
    | true=>
      rw [cond_true,ajD h.1 h'.1 (by omega),Option.bind_some]
      cases adK x.fConst y.fConst with
      | false=>rfl
      | true=>
        rw [cond_true,show Zc (m+1) (n+1) x.fKids y.fKids=_ from akg (rc:=Zc m) (k:=k) (d:=d) (m:=m) h.2.1 (by omega) (fun z hz w hw=>afc d _ (h.2.2 z hz) e _ (h'.2.2 w hw) k m n (by omega) (by omega) (by omega))]
        rfl
def WXs (d:Nat) (a:List EX):Prop:=∀ z,z∈a→WX d (zg z)
theorem ahP {a:Option (List EX)} (h:wSl zI a):WXs 131072 (sll a):=fun z hz=>W_WX (W_un (h.2 z hz))
theorem ak1 {a b:Option (List EX)} {d e:Nat} (ha:WXs d (sll a)) (hl:(sll a).length≤1048576) (hb:WXs e (sll b)) (hd:d≤140000) {n:Nat} (hn:2280100≤n):
    zN n a b=some (amz 140000 (sll a) (sll b)):=by
  obtain ⟨n,rfl⟩:∃ j,n=j+1:=⟨n - 1,by omega⟩
  exact akg (rc:=Zc n) (d:=d) (m:=0) hl (by omega) (fun x hx y hy=>afc d _ (ha x hx) e _ (hb y hy) 140000 n n hd (by omega) (by omega))
theorem agO {x y:zh} {d e:Nat} (hx:WX d x) (hy:WX e y) (hd:d≤140000) {n m:Nat} (hn:2280100≤n) (hm:140000≤m):
    qy (Zc m) n x y=some (qp 140000 x y):=afc d x hx e y hy 140000 m n hd (by omega) (by omega)
theorem aiG:∀ (d:Nat) (x:zh),WX d x→∀ k,d≤k→qp k x x=true
  | 0,x,h,_,_=>h.elim
  | d+1,x,h,k,hk=>by
    obtain ⟨k,rfl⟩:∃ j,k=j+1:=⟨k - 1,by omega⟩
    rw [qp]
    simp only [beq_self_eq_true,Bool.true_and,Bool.and_eq_true]
    exact ⟨by unfold adK; rw [acZ.self]; rfl,akF _ fun z hz=>aiG d _ (h.2.2 z hz) k (by omega)⟩
noncomputable def ad9:Nat→zh→zh
  | 0,x=>x
  | s+1,x=>⟨x.fKind,x.fRel,x.fCol,x.fConst,mapO (fun z=>zi (ad9 s (zg z))) (sll x.fKids)⟩
theorem ahM:∀ (d:Nat) (x:zh),WX d x→∀ k m n,d≤k→d≤m→2000010+d≤n→aar m n x=some (ad9 k x)
  | 0,x,h,_,_,_,_,_,_=>h.elim
  | d+1,x,h,k,m,n,hk,hm,hn=>by
    obtain ⟨k,rfl⟩:∃ j,k=j+1:=⟨k - 1,by omega⟩
    obtain ⟨m,rfl⟩:∃ j,m=j+1:=⟨m - 1,by omega⟩
    obtain ⟨n,rfl⟩:∃ j,n=j+1:=⟨n - 1,by omega⟩
    show ac2 (aar m) (n+1) x=_
    unfold ac2
    rw [zt,ad9]
    unfold zD
    refine Eq.trans (an1 (f:=fun z=>zi (ad9 k (zg z))) (l3:=fun m' s i=>Z4 n (aar m) x (fun | none=>some (zh.mk x.fKind x.fRel x.fCol x.fConst none) | (some y3)=>some (zh.mk x.fKind x.fRel x.fCol x.fConst (some y3))) m' s i) (l:=sll x.fKids) (K:=fun s=>some (zh.mk x.fKind x.fRel x.fCol x.fConst s)) (b:=88) (by decide) h.2.1 (by omega) (fun m' i s z hi e=>?_) (fun m' s=>?_)) rfl
    · have hz:=ahM d _ (h.2.2 z (by rw [← e]; exact List.getElem_mem hi)) k m n (by omega) (by omega) (by omega)
      cases s with
      | none=>
        show Z4 _ _ _ _ _ _ _=_
        rw [Z4,dT (by omega),cond_true,Z8 hi e,Option.bind_some]
        rw [show aar m n _=_ from hz]; rfl
      | some s=>
        show Z4 _ _ _ _ _ _ _=_
        rw [Z4,dT (by omega),cond_true,Z8 hi e,Option.bind_some]
        rw [show aar m n _=_ from hz]; rfl
    · cases s with
      | none=>
        show Z4 _ _ _ _ _ _ _=_
        rw [Z4,dF (by omega),cond_false]
      | some s=>
        show Z4 _ _ _ _ _ _ _=_
        rw [Z4,dF (by omega),cond_false]
noncomputable def cpE (z:EX):EX:=zi (ad9 140000 (zg z))
theorem Q3 {x:zh} {d:Nat} (hx:WX d x) (hd:d≤140000) {n:Nat} (hn:2140100≤n):Z1 n x=some (ad9 140000 x):=ahM d x hx 140000 n n hd (by omega) (by omega)
theorem ah9:∀ (d:Nat) (x:zh),WX d x→∀ k,WX d (ad9 k x)
  | 0,x,h,_=>h.elim
  | d+1,x,h,0=>h
  | d+1,x,h,k+1=>by
    refine ⟨h.1,?_,fun z hz=>?_⟩
    · show (sll (mapO _ _)).length≤_
      rw [als,List.length_map]; exact h.2.1
    · have hz':z∈sll (mapO (fun z=>zi (ad9 k (zg z))) (sll x.fKids)):=hz
      rw [als] at hz'
      obtain ⟨w,hw,rfl⟩:=List.mem_map.1 hz'
      rw [aew]
      exact ah9 d _ (h.2.2 w hw) k
end Go.Pl
set_option linter.unusedVariables false
set_option linter.unusedSimpArgs false
set_option maxRecDepth 100000
namespace Go.Pl
open Go Go.Ab
noncomputable def aoV (x y:zK):Bool:=(x.fKind == y.fKind) && qp 140000 x.fOf y.fOf
def ao0 (x y:Zn):Bool:=(x.fOut == y.fOut) && (x.fDesc == y.fDesc)
def LXs (d:Nat) (a:Option (List EX)):Prop:=(sll a).length≤1048576∧WXs d (sll a)
def LAs (d:Nat) (a:Option (List zK)):Prop:=(sll a).length≤1048576∧∀ g,g∈sll a→WX d g.fOf
theorem akk {a:Option (List EX)} (h:wSl zI a):LXs 131072 a:=⟨h.1,ahP h⟩
theorem W_agg {g:zK} (h:Qr g):Zx g.fOf:=h.2
theorem aon {a:Option (List zK)} (h:wSl Qr a):LAs 131072 a:=⟨h.1,fun g hg=>W_WX (W_agg (h.2 g hg))⟩
structure QW (d:Nat) (q:zx):Prop where
  rels:(sll q.fRels).length≤1048576
  wher:LXs d q.fWhere
  out:LXs d q.fOut
  aggs:LAs d q.fAggs
  order:(sll q.fOrder).length≤1048576
structure PX1 (x:zl):Prop where
  wher:LXs 131072 x.fWhere
  left:LXs 131072 x.fLeft
  right:LXs 131072 x.fRight
  out:LXs 131072 x.fOut
  aggs:LAs 131072 x.fAggs
  order:(sll x.fOrder).length≤1048576
def WPl:Nat→zl→Prop
  | 0,_=>False
  | s+1,x=>PX1 x∧(sll x.fKids).length≤1048576∧∀ z,z∈sll x.fKids→WPl s (zr z)
theorem ak2 {x:zl} (h:PW x):PX1 x:=⟨akk h.2.2.1,akk h.2.2.2.1,akk h.2.2.2.2.1,akk h.2.2.2.2.2.1,aon h.2.2.2.2.2.2.1,h.2.2.2.2.2.2.2.1⟩
theorem aow:∀ (s:Nat) (x:zl),WD s x→WPl s x
  | 0,x,h=>h.elim
  | s+1,x,h=>⟨ak2 h.1,h.2.1,fun z hz=>aow s _ (h.2.2 z hz)⟩
theorem al1 {a b:Option (List zK)} {d e:Nat} (ha:LAs d a) (hb:LAs e b) (hd:d≤140000) {n:Nat} (hn:2280300≤n):Zz n a b=some (aaB aoV (sll a) (sll b)):=by
  obtain ⟨n,rfl⟩:∃ j,n=j+1:=⟨n - 1,by omega⟩
  unfold Zz
  rw [zt]
  unfold zD
  refine agx (F:=fun m i=>zW n a b (fun _=>some true) m i) ha.1 (by omega) (fun he m i x y hi e1 e2 m1 m2=>?_) (fun m=>?_)
  · show zW _ _ _ _ _ _=_
    rw [zW,dT (by omega),cond_true,e1,Option.bind_some,e2,Option.bind_some]
    obtain ⟨n,rfl⟩:∃ j,n=j+1:=⟨n - 1,by omega⟩
    unfold afN aoV
    rw [zt]
    cases (x.fKind == y.fKind) with
    | false=>rfl
    | true=>
      rw [cond_true,show qy zN n x.fOf y.fOf=some (qp 140000 x.fOf y.fOf) from ?_]
      · cases qp 140000 x.fOf y.fOf <;> rfl
      · have hx:=ha.2 x m1; have hy:=hb.2 y m2
        cases d with
        | zero=>exact hx.elim
        | succ d=>
          cases e with
          | zero=>exact hy.elim
          | succ e=>
            obtain ⟨n,rfl⟩:∃ j,n=j+1:=⟨n - 1,by omega⟩
            have:=agO (m:=n) (n:=n+1) hx hy hd (by omega) (by omega)
            unfold qy at this ⊢
            exact this
  · show zW _ _ _ _ _ _=_
    rw [zW,dF (by omega),cond_false]
theorem alw {a b:Option (List Zn)} (ha:(sll a).length≤1048576) {n:Nat} (hn:2000010≤n):aag n a b=some (aaB ao0 (sll a) (sll b)):=by
  obtain ⟨n,rfl⟩:∃ j,n=j+1:=⟨n - 1,by omega⟩
  unfold aag
  rw [zt]
  unfold zD
  refine agx (F:=fun m i=>Z3 n a b (fun _=>some true) m i) ha (by omega) (fun he m i x y hi e1 e2 m1 m2=>?_) (fun m=>?_)
  · show Z3 _ _ _ _ _ _=_
    rw [Z3,dT (by omega),cond_true,e1,Option.bind_some,e2,Option.bind_some]
    unfold ao0
    cases (x.fOut == y.fOut) <;> cases (x.fDesc == y.fDesc) <;> rfl
  · show Z3 _ _ _ _ _ _=_
    rw [Z3,dF (by omega),cond_false]
end Go.Pl
set_option linter.unusedVariables false
set_option linter.unusedSimpArgs false
set_option maxRecDepth 100000
namespace Go.Pl
open Go Go.Ab
theorem aln {S α β R:Type} {F:Nat→S→Int→Option R} {ks:List α} {f:α→List β} {v:S→List β} {K:S→Option R}
    (hF:∀ (m i:Nat) (s:S) (z:α),(hi:i < ks.length)→ks[i]=z→(v s).length+(f z).length≤1100000→∃ s',v s'=v s++f z∧F (m+1) s (i:Int)=F m s' (IntKind.wrap .i64 ((i:Int)+1)))
    (hE:∀ (m:Nat) (s:S),F (m+1) s (ks.length:Int)=K s) (hks:ks.length≤1048576):
    ∀ (l p:List α) (m:Nat) (s:S),ks=p++l→l.length < m→(v s).length+(l.flatMap f).length≤1100000→∃ s',v s'=v s++l.flatMap f∧F m s (p.length:Int)=K s'
  | [],p,m,s,he,hm,_=>by
    obtain ⟨m,rfl⟩:∃ j,m=j+1:=⟨m - 1,by omega⟩
    have:ks.length=p.length:=by rw [he]; simp
    exact ⟨s,by simp,by rw [← this,hE]⟩
  | z :: l,p,m,s,he,hm,hb=>by
    obtain ⟨m,rfl⟩:∃ j,m=j+1:=⟨m - 1,by omega⟩
    rw [List.length_cons] at hm
    rw [List.flatMap_cons,List.length_append] at hb
    have hlen:ks.length=p.length+(l.length+1):=by rw [he]; simp
    obtain ⟨s1,h1,h2⟩:=hF m p.length s z (by omega) (by simp [he]) (by omega)
    obtain ⟨s2,h3,h4⟩:=aln hF hE hks l (p++[z]) m s1 (by rw [he]; simp) (by omega) (by rw [h1,List.length_append]; omega)
    refine ⟨s2,by rw [h3,h1,List.flatMap_cons,List.append_assoc],?_⟩
    rw [h2,acv (by omega),show p.length+1=(p++[z]).length by simp,h4]
theorem acI {S α β R:Type} {F:Nat→S→Int→Option R} {ks:List α} {f:α→List β} (v:S→List β) {K:S→Option R} {m:Nat} (hm:2000000≤m) (s:S) (hks:ks.length≤1048576) (hb:(v s).length+(ks.flatMap f).length≤1100000)
    (hF:∀ (m i:Nat) (s:S) (z:α),(hi:i < ks.length)→ks[i]=z→(v s).length+(f z).length≤1100000→∃ s',v s'=v s++f z∧F (m+1) s (i:Int)=F m s' (IntKind.wrap .i64 ((i:Int)+1)))
    (hE:∀ (m:Nat) (s:S),F (m+1) s (ks.length:Int)=K s):∃ s',v s'=v s++ks.flatMap f∧F m s 0=K s':=
  aln hF hE hks ks [] m s rfl (by omega) hb
theorem afk {α:Type} (l:List α) (z:α):idx (l++[z]) (l.length:Int)=some z:=by rw [acQ]; simp
theorem afz {α:Type} (l:List α) (z w:α):(l++[z]).set (Int.toNat (l.length:Int)) w=l++[w]:=by
  rw [show Int.toNat (l.length:Int)=l.length by simp]; simp
abbrev V0:zq:=⟨0,0,0,ByteArray.empty⟩
noncomputable def eqC (q:EX × EX):EX:=zi ⟨7,0,0,V0,some [cpE q.1,cpE q.2]⟩
noncomputable def eqR (q:EX × EX):EX:=zi ⟨7,0,0,V0,some [zi (zg q.1),zi (zg q.2)]⟩
def aiB (x:zl):Bool:=(x.fKind == 3) || (x.fKind == 4)
noncomputable def zipP (x:zl):List (EX × EX):=bif aiB x then (sll x.fLeft).zip (sll x.fRight) else []
noncomputable def ownA (x:zl):List EX:=(sll x.fWhere).flatMap (fun z=>[cpE z])++(zipP x).flatMap (fun q=>[eqC q])
noncomputable def ownB (x:zl):List EX:=sll x.fWhere++(zipP x).flatMap (fun q=>[eqR q])
noncomputable def appC:Nat→zl→List EX
  | 0,_=>[]
  | k+1,x=>(sll x.fKids).flatMap (fun z=>appC k (zr z))++ownA x
theorem ape (z:EX):1≤PV.bulkL (za z):=by
  rw [zu z]
  unfold Zy
  simp only [PV.bulkL,PV.bulk]; omega
theorem aiv {α:Type} {R:α→List PV} (h:∀ z,1≤PV.bulkL (R z)):∀ (l:List α),l.length≤PV.bulkLL (l.map R)
  | []=>Nat.zero_le _
  | z :: l=>by
    have:=h z; have:=aiv h l
    simp only [List.map_cons,PV.bulkLL,List.length_cons]; omega
theorem am1 (s:Option (List EX)):(sll s).length≤(zc za s).bulk:=by
  cases s with
  | none=>exact Nat.zero_le _
  | some l=>
    have:=aiv ape l
    show l.length≤PV.bulk (.sl (l.map za))
    simp only [PV.bulk]; omega
theorem Qu {α β:Type} (f:α→β) (l:List α):l.flatMap (fun z=>[f z])=l.map f:=by
  induction l with
  | nil=>rfl
  | cons z l ih=>rw [List.flatMap_cons,ih]; rfl
theorem aok (x:zl):(zipP x).length≤(sll x.fLeft).length:=by
  unfold zipP
  cases aiB x with
  | false=>exact Nat.zero_le _
  | true=>rw [cond_true,List.length_zip]; omega
theorem am2 (x:zl):(ownA x).length≤(zc za x.fWhere).bulk+(zc za x.fLeft).bulk∧(ownB x).length=(ownA x).length:=by
  have h1:=am1 x.fWhere; have h2:=am1 x.fLeft; have h3:=aok x
  unfold ownA ownB
  rw [Qu,Qu,Qu,List.length_append,List.length_append,List.length_map,List.length_map,List.length_map]
  exact ⟨by omega,rfl⟩
theorem aj7 (f:zl→List EX) (h:∀ x,(f x).length≤szP x):∀ (l:List PX),(l.flatMap fun z=>f (zr z)).length≤PV.bulkLL (l.map zm)
  | []=>Nat.zero_le _
  | z :: l=>by
    have h1:=h (zr z); have h2:=aj7 f h l
    rw [List.flatMap_cons,List.length_append,List.map_cons,PV.bulkLL]
    have:szP (zr z)=PV.bulkL (zm z):=by rw [ZK z]; rfl
    omega
theorem alF (x:zl):(zc za x.fWhere).bulk+(zc za x.fLeft).bulk+(match x.fKids with | none=>0 | some l=>PV.bulkLL (l.map zm))≤szP x:=by
  unfold szP aab
  cases x.fKids with
  | none=>simp only [PV.bulkL]; omega
  | some l=>
    rw [show zc zm (some l)=.sl (l.map zm) from rfl]
    simp only [PV.bulkL,PV.bulk]; omega
theorem apx (f:zl→List EX) (own:zl→List EX) (h:∀ x,(f x).length≤szP x) (ho:∀ x,(own x).length≤(zc za x.fWhere).bulk+(zc za x.fLeft).bulk) (x:zl):
    ((sll x.fKids).flatMap (fun z=>f (zr z))++own x).length≤szP x:=by
  have h1:=alF x; have h2:=ho x
  rw [List.length_append]
  cases hk:x.fKids with
  | none=>rw [hk] at h1; simp only [sll,List.flatMap_nil,List.length_nil] at h1 ⊢; omega
  | some l=>
    have h3:=aj7 f h l
    rw [hk] at h1
    simp only [sll] at h1 ⊢; omega
theorem aif:∀ (k:Nat) (x:zl),(appC k x).length≤szP x
  | 0,x=>Nat.zero_le _
  | k+1,x=>apx (appC k) ownA (aif k) (fun x=>(am2 x).1) x
theorem ad3 (x:zl):(if ((sll x.fRight).length:Int) < ((sll x.fLeft).length:Int) then ((sll x.fRight).length:Int) else ((sll x.fLeft).length:Int))=((((sll x.fLeft).zip (sll x.fRight)).length:Nat):Int):=by
  rw [List.length_zip]; split <;> omega
theorem amr {α β:Type} {a:List α} {b:List β} {i:Nat} {z:α × β} (hi:i < (a.zip b).length) (e:(a.zip b)[i]=z):idx a (i:Int)=some z.1∧idx b (i:Int)=some z.2:=by
  have h:=hi
  rw [List.length_zip] at h
  rw [List.getElem_zip] at e
  subst e
  exact ⟨Z8 (by omega) rfl,Z8 (by omega) rfl⟩
theorem anh (x:zl):((x.fKind != 3) && (x.fKind != 4))=!aiB x:=by
  unfold aiB; rw [Bool.not_or]; rfl
theorem akV {α β:Type} {a:List α} {b:List β} {i:Nat} {z:α × β} (hi:i < (a.zip b).length) (e:(a.zip b)[i]=z):z.1∈a∧z.2∈b:=by
  have h:=List.getElem_mem hi
  rw [e] at h
  obtain ⟨z1,z2⟩:=z
  exact ⟨(List.of_mem_zip h).1,(List.of_mem_zip h).2⟩
theorem alU {x:zl} (h:PX1 x) {n:Nat} (hn:2140200≤n) (hs:szP x≤1048576):∃ o,qQ n x=some o∧sll o=ownA x:=by
  obtain ⟨n,rfl⟩:∃ j,n=j+1:=⟨n - 1,by omega⟩
  unfold qQ
  rw [zt]
  unfold zD
  have hlen:=(am2 x).1
  have hsz:=alF x
  unfold ownA at hlen
  rw [List.length_append,Qu,Qu,List.length_map,List.length_map] at hlen
  obtain ⟨s,h1,h2⟩:=acI (F:=fun m s i=>Zf n x (fun | none=>bif ((x.fKind != 3) && (x.fKind != 4)) then some none else zV n x n none 0 | (some y3)=>bif ((x.fKind != 3) && (x.fKind != 4)) then some (some y3) else ZA n x n y3 0) m s i) (ks:=sll x.fWhere) (f:=fun z=>[cpE z]) sll (K:=fun s=>match s with | none=>bif ((x.fKind != 3) && (x.fKind != 4)) then some none else zV n x n none 0 | (some y3)=>bif ((x.fKind != 3) && (x.fKind != 4)) then some (some y3) else ZA n x n y3 0) (m:=n) (by omega) none h.wher.1 (by show 0+_≤_; rw [Qu,List.length_map]; omega) (fun m i s z hi e hb=>by
    have hz:=Q3 (h.wher.2 z (by rw [← e]; exact List.getElem_mem hi)) (by omega) (n:=n) (by omega)
    refine ⟨some (sll s++[cpE z]),rfl,?_⟩
    simp only [List.length_cons,List.length_nil] at hb
    cases s with
    | none=>
      show Zf _ _ _ _ _ _=_
      rw [Zf,dT (by omega),cond_true,Z8 hi e,Option.bind_some]
      rw [show Z1 n _=_ from hz]; rfl
    | some s=>
      show Zf _ _ _ _ _ _=_
      rw [Zf,dT (by omega),cond_true,Z8 hi e,Option.bind_some]
      rw [show Z1 n _=_ from hz,Option.bind_some,Qw (by have hb':s.length+1≤1100000:=hb; rw [List.length_append]; simp only [List.length_cons,List.length_nil]; omega) (by decide),Option.bind_some,afk,Option.bind_some,afz]
      rfl) (fun m s=>by
    cases s with
    | none=>show Zf _ _ _ _ _ _=_; rw [Zf,dF (by omega),cond_false]
    | some s=>show Zf _ _ _ _ _ _=_; rw [Zf,dF (by omega),cond_false])
  have hg:Zf n x (fun | none=>bif ((x.fKind != 3) && (x.fKind != 4)) then some none else zV n x n none 0 | (some y3)=>bif ((x.fKind != 3) && (x.fKind != 4)) then some (some y3) else ZA n x n y3 0) n none 0=_:=h2
  have hgoal:∃ o,(match s with | none=>bif ((x.fKind != 3) && (x.fKind != 4)) then some none else zV n x n none 0 | (some y3)=>bif ((x.fKind != 3) && (x.fKind != 4)) then some (some y3) else ZA n x n y3 0)=some o∧sll o=ownA x:=by
    rw [anh]
    unfold ownA zipP
    unfold zipP at hlen
    have h1':sll s=(sll x.fWhere).flatMap (fun z=>[cpE z]):=h1
    cases hk:aiB x with
    | false=>
      cases s with
      | none=>exact ⟨none,rfl,by rw [h1']; simp⟩
      | some s=>exact ⟨some s,rfl,by rw [h1']; simp⟩
    | true=>
      rw [hk] at hlen
      rw [Bool.not_true,cond_true]
      simp only [cond_false]
      rw [cond_true] at hlen
      have hl2:((sll x.fLeft).zip (sll x.fRight)).length≤1048576:=by rw [List.length_zip]; have:=h.left.1; omega
      cases s with
      | none=>
        obtain ⟨s2,h3,h4⟩:=acI (F:=fun m s i=>zV n x m s i) (ks:=(sll x.fLeft).zip (sll x.fRight)) (f:=fun q=>[eqC q]) sll (K:=fun s=>some s) (m:=n) (by omega) none hl2 (by show 0+_≤_; rw [Qu,List.length_map]; omega) (fun m i s z hi e hb=>by
          obtain ⟨e1,e2⟩:=amr hi e
          obtain ⟨m1,m2⟩:=akV hi e
          have hz1:=Q3 (h.left.2 z.1 m1) (by omega) (n:=n) (by omega)
          have hz2:=Q3 (h.right.2 z.2 m2) (by omega) (n:=n) (by omega)
          refine ⟨some (sll s++[eqC z]),rfl,?_⟩
          simp only [List.length_cons,List.length_nil] at hb
          cases s with
          | none=>
            show zV _ _ _ _ _=_
            rw [zV,ad3,dT (by omega),cond_true,e1,Option.bind_some]
            rw [show Z1 n _=_ from hz1,Option.bind_some,e2,Option.bind_some,show Z1 n _=_ from hz2]; rfl
          | some s=>
            show zV _ _ _ _ _=_
            rw [zV,ad3,dT (by omega),cond_true,e1,Option.bind_some]
            rw [show Z1 n _=_ from hz1,Option.bind_some,e2,Option.bind_some,show Z1 n _=_ from hz2,Option.bind_some,Qw (by have hb':s.length+1≤1100000:=hb; rw [List.length_append]; simp only [List.length_cons,List.length_nil]; omega) (by decide),Option.bind_some,afk,Option.bind_some,afz]
            rfl) (fun m s=>by
          cases s with
          | none=>show zV _ _ _ _ _=_; rw [zV,ad3,dF (by omega),cond_false]
          | some s=>show zV _ _ _ _ _=_; rw [zV,ad3,dF (by omega),cond_false])
        exact ⟨s2,h4,by rw [h3,← h1']⟩
      | some s=>
        obtain ⟨s2,h3,h4⟩:=acI (F:=fun m s i=>ZA n x m s i) (ks:=(sll x.fLeft).zip (sll x.fRight)) (f:=fun q=>[eqC q]) (fun s=>s) (K:=fun s=>some (some s)) (m:=n) (by omega) s hl2 (by have h1s:s=_:=h1'; rw [h1s,Qu,Qu,List.length_map,List.length_map]; omega) (fun m i s z hi e hb=>by
          obtain ⟨e1,e2⟩:=amr hi e
          obtain ⟨m1,m2⟩:=akV hi e
          have hz1:=Q3 (h.left.2 z.1 m1) (by omega) (n:=n) (by omega)
          have hz2:=Q3 (h.right.2 z.2 m2) (by omega) (n:=n) (by omega)
          refine ⟨s++[eqC z],rfl,?_⟩
          simp only [List.length_cons,List.length_nil] at hb
          show ZA _ _ _ _ _=_
          rw [ZA,ad3,dT (by omega),cond_true,e1,Option.bind_some]
          rw [show Z1 n _=_ from hz1,Option.bind_some,e2,Option.bind_some,show Z1 n _=_ from hz2,Option.bind_some,Qw (by rw [List.length_append]; simp only [List.length_cons,List.length_nil]; omega) (by decide),Option.bind_some,afk,Option.bind_some,afz]
          rfl) (fun m s=>by
          show ZA _ _ _ _ _=_; rw [ZA,ad3,dF (by omega),cond_false])
        exact ⟨some s2,h4,by show s2=_; rw [h3,← h1']; rfl⟩
  obtain ⟨o,ho,hs⟩:=hgoal
  exact ⟨o,by refine Eq.trans hg ?_; exact ho,hs⟩
end Go.Pl
set_option linter.unusedVariables false
set_option linter.unusedSimpArgs false
set_option maxRecDepth 100000
namespace Go.Pl
open Go Go.Ab
theorem ahG {x:zl} (h:PX1 x) {n:Nat} (hn:2140200≤n) {a:List EX} (hb:a.length+(ownA x).length≤1100000):ZM n a x=some (a++ownA x):=by
  obtain ⟨n,rfl⟩:∃ j,n=j+1:=⟨n - 1,by omega⟩
  unfold ZM
  rw [zt]
  unfold zD
  unfold ownA at hb
  rw [List.length_append,Qu,Qu,List.length_map,List.length_map] at hb
  obtain ⟨s,h1,h2⟩:=acI (F:=fun m s i=>ZR n x (fun (y1:(List zd))=>bif ((x.fKind != 3) && (x.fKind != 4)) then some y1 else Zl n x n y1 0) m s i) (ks:=sll x.fWhere) (f:=fun z=>[cpE z]) (fun s=>s) (K:=fun y1=>bif ((x.fKind != 3) && (x.fKind != 4)) then some y1 else Zl n x n y1 0) (m:=n) (by omega) a h.wher.1 (by rw [Qu,List.length_map]; omega) (fun m i s z hi e hb=>by
    have hz:=Q3 (h.wher.2 z (by rw [← e]; exact List.getElem_mem hi)) (by omega) (n:=n) (by omega)
    refine ⟨s++[cpE z],rfl,?_⟩
    simp only [List.length_cons,List.length_nil] at hb
    show ZR _ _ _ _ _ _=_
    rw [ZR,dT (by omega),cond_true,Z8 hi e,Option.bind_some]
    rw [show Z1 n _=_ from hz,Option.bind_some,Qw (by rw [List.length_append]; simp only [List.length_cons,List.length_nil]; omega) (by decide),Option.bind_some,afk,Option.bind_some,afz]
    rfl) (fun m s=>by
    show ZR _ _ _ _ _ _=_; rw [ZR,dF (by omega),cond_false])
  have hg:ZR n x (fun (y1:(List zd))=>bif ((x.fKind != 3) && (x.fKind != 4)) then some y1 else Zl n x n y1 0) n a 0=_:=h2
  refine Eq.trans hg ?_
  rw [anh]
  unfold ownA
  unfold zipP at hb ⊢
  cases hk:aiB x with
  | false=>show some s=_; rw [h1]; simp
  | true=>
    rw [hk] at hb
    rw [Bool.not_true]
    show Zl n x n s 0=_
    rw [cond_true] at hb ⊢
    have hl2:((sll x.fLeft).zip (sll x.fRight)).length≤1048576:=by rw [List.length_zip]; have:=h.left.1; omega
    have hs:s.length=a.length+(sll x.fWhere).length:=by rw [h1,List.length_append,Qu,List.length_map]
    obtain ⟨s2,h3,h4⟩:=acI (F:=fun m s i=>Zl n x m s i) (ks:=(sll x.fLeft).zip (sll x.fRight)) (f:=fun q=>[eqC q]) (fun s=>s) (K:=fun s=>some s) (m:=n) (by omega) s hl2 (by rw [Qu,List.length_map]; omega) (fun m i s z hi e hb=>by
      obtain ⟨e1,e2⟩:=amr hi e
      obtain ⟨m1,m2⟩:=akV hi e
      have hz1:=Q3 (h.left.2 z.1 m1) (by omega) (n:=n) (by omega)
      have hz2:=Q3 (h.right.2 z.2 m2) (by omega) (n:=n) (by omega)
      refine ⟨s++[eqC z],rfl,?_⟩
      simp only [List.length_cons,List.length_nil] at hb
      show Zl _ _ _ _ _=_
      rw [Zl,ad3,dT (by omega),cond_true,e1,Option.bind_some]
      rw [show Z1 n _=_ from hz1,Option.bind_some,e2,Option.bind_some,show Z1 n _=_ from hz2,Option.bind_some,Qw (by rw [List.length_append]; simp only [List.length_cons,List.length_nil]; omega) (by decide),Option.bind_some,afk,Option.bind_some,afz]
      rfl) (fun m s=>by
      show Zl _ _ _ _ _=_; rw [Zl,ad3,dF (by omega),cond_false])
    have hg2:Zl n x n s 0=some s2:=h4
    rw [hg2,h3,h1,List.append_assoc]
theorem aiU (k:Nat) (x:zl):(appC (k+1) x).length=((sll x.fKids).flatMap (fun z=>appC k (zr z))).length+(ownA x).length:=by rw [appC,List.length_append]
theorem alk:∀ (d:Nat) (x:zl),WPl d x→∀ (k m n:Nat) (a:List EX),d≤k→d≤m→2140300+d≤n→a.length+(appC k x).length≤1100000→ZG m n a x=some (a++appC k x)
  | 0,x,h,_,_,_,_,_,_,_,_=>h.elim
  | d+1,x,h,k,m,n,a,hk,hm,hn,hb=>by
    obtain ⟨k,rfl⟩:∃ j,k=j+1:=⟨k - 1,by omega⟩
    obtain ⟨m,rfl⟩:∃ j,m=j+1:=⟨m - 1,by omega⟩
    obtain ⟨n,rfl⟩:∃ j,n=j+1:=⟨n - 1,by omega⟩
    obtain ⟨hp,hl,hk1⟩:=h
    rw [aiU] at hb
    show qe (ZG m) (n+1) a x=_
    unfold qe
    rw [zt]
    unfold zD
    obtain ⟨s,h1,h2⟩:=acI (F:=fun m' s i=>zY n (ZG m) x (fun (y1:(List zd))=>(ZM n y1 x).bind fun x10=>some x10) m' s i) (ks:=sll x.fKids) (f:=fun z=>appC k (zr z)) (fun s=>s) (K:=fun y1=>(ZM n y1 x).bind fun x10=>some x10) (m:=n) (by omega) a hl (by omega) (fun m' i s z hi e hb'=>by
      refine ⟨s++appC k (zr z),rfl,?_⟩
      show zY _ _ _ _ _ _ _=_
      rw [zY,dT (by omega),cond_true,Z8 hi e,Option.bind_some,alk d _ (hk1 z (by rw [← e]; exact List.getElem_mem hi)) k m n s (by omega) (by omega) (by omega) hb',Option.bind_some]) (fun m' s=>by
      show zY _ _ _ _ _ _ _=_
      rw [zY,dF (by omega),cond_false])
    have hg:zY n (ZG m) x (fun (y1:(List zd))=>(ZM n y1 x).bind fun x10=>some x10) n a 0=_:=h2
    refine Eq.trans hg ?_
    rw [ahG hp (by omega) (by rw [h1,List.length_append]; omega),Option.bind_some,h1,appC,List.append_assoc]
theorem alc:∀ (d:Nat) (x:zl),WPl d x→szP x≤1048576→∀ (k m n:Nat),d≤k→d≤m→2280000+d≤n→k≤131073→∃ o,ZP m n x=some o∧sll o=appC k x
  | 0,x,h,_,_,_,_,_,_,_,_=>h.elim
  | d+1,x,h,hsz,k,m,n,hk,hm,hn,hk'=>by
    obtain ⟨k,rfl⟩:∃ j,k=j+1:=⟨k - 1,by omega⟩
    obtain ⟨m,rfl⟩:∃ j,m=j+1:=⟨m - 1,by omega⟩
    obtain ⟨n,rfl⟩:∃ j,n=j+1:=⟨n - 1,by omega⟩
    obtain ⟨hp,hl,hk1⟩:=h
    have hb:=aif (k+1) x
    rw [aiU] at hb
    show ∃ o,qn (ZP m) (n+1) x=some o∧_
    unfold qn
    rw [zt]
    unfold zD
    obtain ⟨s,h1,h2⟩:=acI (F:=fun m' s i=>zB n (ZP m) x (fun | none=>(qQ n x).bind (fun | none=>some none | some x10=>some (some x10)) | (some y3)=>(ZM n y3 x).bind fun x17=>some (some x17)) m' s i) (ks:=sll x.fKids) (f:=fun z=>appC k (zr z)) sll (K:=fun s=>match s with | none=>(qQ n x).bind (fun | none=>some none | some x10=>some (some x10)) | (some y3)=>(ZM n y3 x).bind fun x17=>some (some x17)) (m:=n) (by omega) none hl (by show 0+_≤_; omega) (fun m' i s z hi e hb'=>by
      have hm':z∈sll x.fKids:=by rw [← e]; exact List.getElem_mem hi
      cases s with
      | none=>
        obtain ⟨o,ho,hs⟩:=alc d _ (hk1 z hm') (by have:=agM hm'; omega) k m n (by omega) (by omega) (by omega) (by omega)
        refine ⟨o,by rw [hs]; rfl,?_⟩
        show zB _ _ _ _ _ _ _=_
        rw [zB,dT (by omega),cond_true,Z8 hi e,Option.bind_some,ho,Option.bind_some]
        cases o <;> rfl
      | some s=>
        refine ⟨some (s++appC k (zr z)),rfl,?_⟩
        show zB _ _ _ _ _ _ _=_
        rw [zB,dT (by omega),cond_true,Z8 hi e,Option.bind_some,show QJ n s (zr z)=some (s++appC k (zr z)) from alk d _ (hk1 z hm') k n n s (by omega) (by omega) (by omega) hb',Option.bind_some]) (fun m' s=>by
      cases s with
      | none=>show zB _ _ _ _ _ _ _=_; rw [zB,dF (by omega),cond_false]
      | some s=>show zB _ _ _ _ _ _ _=_; rw [zB,dF (by omega),cond_false])
    have hg:zB n (ZP m) x (fun | none=>(qQ n x).bind (fun | none=>some none | some x10=>some (some x10)) | (some y3)=>(ZM n y3 x).bind fun x17=>some (some x17)) n none 0=_:=h2
    have h1':sll s=(sll x.fKids).flatMap (fun z=>appC k (zr z)):=h1
    rw [appC]
    cases s with
    | none=>
      obtain ⟨o,ho,hs⟩:=alU hp (n:=n) (by omega) hsz
      refine ⟨o,?_,by rw [hs,← h1']; rfl⟩
      refine Eq.trans hg ?_
      show (qQ n x).bind _=_
      rw [ho,Option.bind_some]
      cases o <;> rfl
    | some s=>
      have hs:s=_:=h1'
      refine ⟨some (s++ownA x),?_,by rw [← hs]; rfl⟩
      refine Eq.trans hg ?_
      show (ZM n s x).bind _=_
      rw [ahG hp (by omega) (by rw [hs]; omega),Option.bind_some]
theorem ahU {x:zl} {d:Nat} (h:WPl d x) (hd:d≤131073) (hsz:szP x≤1048576) {n:Nat} (hn:2412000≤n):∃ o,aas n x=some o∧sll o=appC 131073 x:=by
  obtain ⟨n,rfl⟩:∃ j,n=j+1:=⟨n - 1,by omega⟩
  obtain ⟨o,ho,hs⟩:=alc d x h hsz 131073 n n hd (by omega) (by omega) (by omega)
  refine ⟨o,?_,hs⟩
  unfold aas
  rw [zt,show Q9 n x=_ from ho,Option.bind_some]
  cases o <;> rfl
theorem aeu {α:Type} {l:List α}:(l.isEmpty=true)↔l=[]:=by cases l <;> simp
end Go.Pl
