import Derived.Test.YtejbcaheoloahaaGreatFC
set_option linter.unusedVariables false
set_option linter.unusedSimpArgs false
set_option maxRecDepth 100000
namespace Go.Pl
open Go Go.Ab
theorem ahe {x y:zh} {d e:Nat} (hx:WX d x) (hy:WX e y) (hd:d≤140000) {n:Nat} (hn:2280110≤n):qy zN n x y=some (qp 140000 x y):=by
  obtain ⟨n,rfl⟩:∃ j,n=j+1:=⟨n - 1,by omega⟩
  have:=agO (m:=n) (n:=n+1) hx hy hd (by omega) (by omega)
  unfold qy at this ⊢
  exact this
noncomputable def akb (x y:zh):Bool:=match sll x.fKids,sll y.fKids with
  | [a,b],[c,d]=>qp 140000 (zg a) (zg d) && qp 140000 (zg b) (zg c)
  | _,_=>false
noncomputable def tF (x y:zh):Bool:=qp 140000 x y || ((x.fKind == 7) && ((y.fKind == 7) && akb x y))
theorem ak6 {d:Nat} {x:zh} (h:WX d x) {z:EX} (hz:z∈sll x.fKids):WX d (zg z):=by
  cases d with
  | zero=>exact h.elim
  | succ d=>exact agR (by omega) (h.2.2 z hz)
theorem an6 {x y:zh} {d e:Nat} (hx:WX d x) (hy:WX e y) (hd:d≤140000) {n:Nat} (hn:2280120≤n):abY n x y=some (tF x y):=by
  obtain ⟨n,rfl⟩:∃ j,n=j+1:=⟨n - 1,by omega⟩
  unfold abY tF akb
  rw [zt,ahe hx hy hd (by omega),Option.bind_some]
  cases qp 140000 x y with
  | true=>rfl
  | false=>
  rw [cond_false,Bool.false_or]
  cases (x.fKind == 7) with
  | false=>rfl
  | true=>
  cases (y.fKind == 7) with
  | false=>rfl
  | true=>
  rw [cond_true,cond_true,Bool.true_and,Bool.true_and]
  match hk:sll x.fKids,hl:sll y.fKids with
  | [],_=>rfl
  | [_],_=>rfl
  | _ :: _ :: _ :: q,_=>rw [show ((((_ :: _ :: _ :: q:List EX).length:Nat):Int) == 2)=false from by simp; omega]; rfl
  | [a,b],[]=>rfl
  | [a,b],[_]=>rfl
  | [a,b],_ :: _ :: _ :: q=>rw [show ((((_ :: _ :: _ :: q:List EX).length:Nat):Int) == 2)=false from by simp; omega]; rfl
  | [a,b],[c,d']=>
    have ha:=ak6 hx (z:=a) (by rw [hk]; simp); have hb:=ak6 hx (z:=b) (by rw [hk]; simp)
    have hc:=ak6 hy (z:=c) (by rw [hl]; simp); have hd':=ak6 hy (z:=d') (by rw [hl]; simp)
    show ((qy _ n (zg a) (zg d')).bind _)=some (qp 140000 (zg a) (zg d') && qp 140000 (zg b) (zg c))
    rw [ahe ha hd' hd (by omega),Option.bind_some]
    cases qp 140000 (zg a) (zg d') with
    | false=>rfl
    | true=>
      show ((qy _ n (zg b) (zg c)).bind _)=some (true && qp 140000 (zg b) (zg c))
      rw [ahe hb hc hd (by omega)]; rfl
def fI {α:Type} (p:α→Bool):List α→Nat→Int
  | [],_=>-1
  | x :: r,i=>bif p x then (i:Int) else fI p r (i+1)
def ab8 {α:Type} (p:α→Bool):List α→Option (List α)
  | []=>none
  | x :: r=>bif p x then some r else (ab8 p r).map (x :: ·)
theorem alT {α:Type} (p:α→Bool):∀ (l:List α) (i:Nat),(fI p l i=-1∧ab8 p l=none)∨∃ j,fI p l i=((i+j:Nat):Int)∧j < l.length∧ab8 p l=some (l.eraseIdx j)
  | [],i=>.inl ⟨rfl,rfl⟩
  | x :: r,i=>by
    unfold fI ab8
    cases p x with
    | true=>exact .inr ⟨0,by simp,by simp,by simp⟩
    | false=>
      simp only [cond_false]
      rcases alT p r (i+1) with ⟨h1,h2⟩ | ⟨j,h1,h2,h3⟩
      · exact .inl ⟨h1,by rw [h2]; rfl⟩
      · exact .inr ⟨j+1,by rw [h1]; congr 1; omega,by simp; omega,by rw [h3]; rfl⟩
theorem ane {α:Type} {F:Nat→Int→Option Int} {l:List α} {p:α→Bool} (hl:l.length≤1100000)
    (hF:∀ (m i:Nat) (x:α),(hi:i < l.length)→l[i]=x→F (m+1) (i:Int)=bif p x then some (i:Int) else F m (IntKind.wrap .i64 ((i:Int)+1))) (hE:∀ (m:Nat),F (m+1) (l.length:Int)=some (-1)):
    ∀ (q:List α) (i m:Nat),l.drop i=q→i≤l.length→q.length < m→F m (i:Int)=some (fI p q i)
  | [],i,m,hq,hi,hm=>by
    obtain ⟨m,rfl⟩:∃ j,m=j+1:=⟨m - 1,by omega⟩
    have:l.length≤i:=by
      have:=congrArg List.length hq
      simp at this; omega
    obtain rfl:i=l.length:=by omega
    exact hE m
  | x :: q,i,m,hq,hi,hm=>by
    obtain ⟨m,rfl⟩:∃ j,m=j+1:=⟨m - 1,by omega⟩
    have hlt:i < l.length:=by
      have:=congrArg List.length hq
      simp at this; omega
    have hx:l[i]=x∧l.drop (i+1)=q:=by
      rw [List.drop_eq_getElem_cons hlt] at hq
      simp only [List.cons.injEq] at hq
      exact hq
    rw [hF m i x hlt hx.1,fI]
    cases p x with
    | true=>rfl
    | false=>
      rw [cond_false,cond_false,acv (by omega)]
      exact ane hl hF hE q (i+1) m hx.2 (by omega) (by rw [List.length_cons] at hm; omega)
theorem aki {w:Option (List EX)} {x:zh} {d e:Nat} (hw:WXs e (sll w)) (hl:(sll w).length≤1100000) (hx:WX d x) (hd:d≤140000) {n:Nat} (hn:2280140≤n):
    Zw n w x.fKind x.fRel x.fCol x.fConst.fKind x.fConst.fInt x.fConst.fFloat x.fConst.fText x.fKids=some (fI (fun y=>tF x (zg y)) (sll w) 0):=by
  obtain ⟨n,rfl⟩:∃ j,n=j+1:=⟨n - 1,by omega⟩
  unfold Zw
  rw [zt]
  unfold zD
  refine ane (F:=fun m i=>zL n w x.fKind x.fRel x.fCol x.fConst.fKind x.fConst.fInt x.fConst.fFloat x.fConst.fText x.fKids (fun _=>some (-1)) m i) (l:=sll w) hl (fun m i z hi e'=>?_) (fun m=>?_) (sll w) 0 n rfl (by omega) (by omega)
  · have hz:=hw z (by rw [← e']; exact List.getElem_mem hi)
    show zL _ _ _ _ _ _ _ _ _ _ _ _ _=_
    rw [zL,dT (by omega),cond_true,Z8 hi e',Option.bind_some]
    obtain ⟨n,rfl⟩:∃ j,n=j+1:=⟨n - 1,by omega⟩
    unfold ach
    rw [zt,show abY n _ (zg z)=some (tF x (zg z)) from an6 hx hz hd (by omega)]
    rfl
  · show zL _ _ _ _ _ _ _ _ _ _ _ _ _=_
    rw [zL,dF (by omega),cond_false]
theorem adb {a b c:Int} (h:0≤a∧a≤b∧b≤c):ckB a b c=some ():=by unfold ckB; rw [if_pos h]
theorem ajy {α:Type} (l:List α) (j k:Nat) (hj:j < k) (hk:k≤l.length):(l.take k).eraseIdx j=l.take j++(l.drop (j+1)).take (k - (j+1)):=by
  rw [List.eraseIdx_eq_take_drop_succ,List.take_take,Nat.min_eq_left (by omega),List.drop_take]
theorem anw {l:List EX} {j k:Nat} (hj:j < k) (hk:k≤l.length) (hl:l.length≤1100000) {n:Nat} (hn:1≤n):
    ∃ l',qS n l k (j:Int) (IntKind.wrap .i64 ((j:Int)+1))=some (l',k - 1)∧l'.length=l.length∧l'.take (k - 1)=(l.take k).eraseIdx j:=by
  obtain ⟨n,rfl⟩:∃ q,n=q+1:=⟨n - 1,by omega⟩
  rw [acv (by omega),ajy l j k hj hk]
  unfold qS
  rw [zt,adb (by omega),Option.bind_some,adb (by omega),Option.bind_some,show ((j:Int) == ((j+1:Nat):Int))=false by rw [beq_eq_false_iff_ne]; omega,cond_false]
  simp only [zD]
  rw [adb (by omega),Option.bind_some,adb (by omega),Option.bind_some]
  have hs:subL l ((j+1:Nat):Int) (k:Int)=(l.drop (j+1)).take (k - (j+1)):=by unfold subL; simp
  have hsl:((l.drop (j+1)).take (k - (j+1))).length=k - (j+1):=by rw [List.length_take,List.length_drop]; omega
  rw [hs]
  simp only [Int.toNat_natCast]
  rw [hsl]
  by_cases he:k=j+1
  · have h0:(l.drop (j+1)).take (k - (j+1))=[]:=by rw [he]; simp
    rw [h0,List.isEmpty_nil,cond_true,Qw (by omega) (by decide),Option.bind_some,adb (by omega),Option.bind_some,show Nat.beq (k - j) 0=false by rw [he]; simp; rfl,cond_false,adb (by omega),Option.bind_some]
    refine ⟨_,by rw [show k - 1=j by omega],?_,?_⟩
    · simp only [List.length_append,List.length_take,List.length_replicate,List.length_drop]; omega
    · rw [show k - 1=j by omega,List.take_append_of_le_length (by rw [List.length_take]; omega),List.take_take,Nat.min_self,List.append_nil]
  · have h0:((l.drop (j+1)).take (k - (j+1))).isEmpty=false:=by
      cases hc:(l.drop (j+1)).take (k - (j+1)) with
      | nil=>rw [hc] at hsl; simp at hsl; omega
      | cons=>rfl
    rw [h0,cond_false,adb (by omega),Option.bind_some]
    have hy:(l.take j++((l.drop (j+1)).take (k - (j+1))++l.drop (j+(k - (j+1))))).length=l.length:=by
      simp only [List.length_append,List.length_take,List.length_drop]; omega
    rw [hy,adb (by omega),Option.bind_some]
    have hb:Nat.beq (k - (j+(k - (j+1)))) 0=false:=by rw [show k - (j+(k - (j+1)))=1 by omega]; rfl
    rw [hb,cond_false,adb (by omega),Option.bind_some]
    refine ⟨_,by rw [show j+(k - (j+1))=k - 1 by omega],?_,?_⟩
    · rw [show j+(k - (j+1))=k - 1 by omega] at hy
      rw [List.length_append,List.length_append,List.length_take,List.length_drop,List.length_replicate,hy]; omega
    · rw [show j+(k - (j+1))=k - 1 by omega] at hy
      rw [List.take_append_of_le_length (by rw [List.length_take,hy]; omega),List.take_take,Nat.min_self,← List.append_assoc,List.take_append_of_le_length (by rw [List.length_append,hsl,List.length_take]; omega),List.take_of_length_le (by rw [List.length_append,hsl,List.length_take]; omega)]
noncomputable def QT:List EX→List EX→Bool
  | [],l=>l.isEmpty
  | x :: a,l=>match ab8 (fun y=>tF (zg x) (zg y)) l with
    | none=>false
    | some l'=>QT a l'
theorem akK {a:Option (List EX)} (h:(sll a).length≤1100000) {n:Nat} (hn:1≤n):Q7 n a=some a:=by
  obtain ⟨n,rfl⟩:∃ j,n=j+1:=⟨n - 1,by omega⟩
  unfold Q7
  rw [zt]
  cases a with
  | none=>rfl
  | some l=>
    cases l with
    | nil=>rfl
    | cons z l=>
      have h':(z :: l).length≤1100000:=h
      show (ckA 88 (z :: l).length).bind _=_
      rw [Qw (by omega) (by decide)]; rfl
theorem amd:∀ (a:List EX),QT a []=a.isEmpty
  | []=>rfl
  | x :: a=>rfl
theorem amb {a b:Option (List EX)} {d e:Nat} (ha:WXs d (sll a)) (hla:(sll a).length≤1100000) (hb:WXs e (sll b)) (hlb:(sll b).length≤1100000) (hd:d≤140000) {n:Nat} (hn:2280150≤n):
    aax n a b=some (QT (sll a) (sll b)):=by
  obtain ⟨n,rfl⟩:∃ j,n=j+1:=⟨n - 1,by omega⟩
  unfold aax
  rw [zt,akK hlb (by omega)]
  cases b with
  | none=>
    simp only [zD,Option.bind_some]
    show _=some (QT (sll a) [])
    rw [amd]
    have e3:Qt n a (fun _=>some true) n 0=Qt n a (fun _=>some true) (n - 1+1) 0:=by rw [show n - 1+1=n by omega]
    refine Eq.trans e3 ?_
    rw [Qt]
    cases hk:sll a with
    | nil=>rw [dF (by simp),cond_false]; rfl
    | cons z q=>
      have hz:=ha z (by rw [hk]; simp)
      rw [dT (by rw [List.length_cons]; omega),cond_true,show idx (z :: q) 0=some z from rfl,Option.bind_some,aki (w:=none) (e:=0) (fun y hy=>by cases hy) (by simp [sll]) hz hd (by omega),Option.bind_some]
      rfl
  | some l=>
    simp only [zD,Option.bind_some]
    have key:∀ (q:List EX) (i m:Nat) (s:List EX) (k:Nat),(sll a).drop i=q→i≤(sll a).length→q.length < m→s.length≤1100000→k≤s.length→WXs e (s.take k)→
        qF n a (fun (y21:Nat)=>some (((y21:Nat):Int) == 0)) m s (i:Int) k=some (QT q (s.take k)):=by
      intro q
      induction q with
      | nil=>
        intro i m s k hq hi hm hs hk hw
        obtain ⟨m,rfl⟩:∃ j,m=j+1:=⟨m - 1,by omega⟩
        have:(sll a).length≤i:=by
          have:=congrArg List.length hq
          simp at this; omega
        rw [qF,dF (by omega),cond_false,QT]
        congr 1
        cases hc:s.take k with
        | nil=>
          have:=congrArg List.length hc
          rw [List.length_take] at this
          simp only [List.length_nil] at this
          have:k=0:=by omega
          subst this; rfl
        | cons x y=>
          have:=congrArg List.length hc
          rw [List.length_take,List.length_cons] at this
          show ((k:Int) == 0)=false
          rw [beq_eq_false_iff_ne]; omega
      | cons x q ih=>
        intro i m s k hq hi hm hs hk hw
        obtain ⟨m,rfl⟩:∃ j,m=j+1:=⟨m - 1,by omega⟩
        have hlt:i < (sll a).length:=by
          have:=congrArg List.length hq
          simp at this; omega
        have hx:(sll a)[i]=x∧(sll a).drop (i+1)=q:=by
          rw [List.drop_eq_getElem_cons hlt] at hq
          simp only [List.cons.injEq] at hq
          exact hq
        have hxw:=ha x (by rw [← hx.1]; exact List.getElem_mem hlt)
        rw [qF,dT (by omega),cond_true,Z8 hlt hx.1,Option.bind_some,aki (w:=some (s.take k)) (e:=e) hw (by rw [qA,List.length_take]; omega) hxw hd (by omega),Option.bind_some,QT]
        rw [List.length_cons] at hm
        rcases alT (fun y=>tF (zg x) (zg y)) (s.take k) 0 with ⟨h1,h2⟩ | ⟨j,h1,h2,h3⟩
        · rw [qA,h1,h2,dT (by omega),cond_true]
        · rw [List.length_take] at h2
          rw [qA,h1,h3,Nat.zero_add,dF (by omega),cond_false]
          obtain ⟨s',e1,e2,e3⟩:=anw (l:=s) (j:=j) (k:=k) (by omega) hk hs (n:=n) (by omega)
          rw [e1,Option.bind_some,acv (by omega)]
          show qF n a _ m s' ((i+1:Nat):Int) (k - 1)=some (QT q ((s.take k).eraseIdx j))
          rw [ih (i+1) m s' (k - 1) hx.2 (by omega) (by omega) (by omega) (by omega) (fun z hz=>by rw [e3] at hz; exact hw z (List.mem_of_mem_eraseIdx hz)),e3]
    have:=key (sll a) 0 n l l.length rfl (by omega) (by omega) hlb (Nat.le_refl _) (by rw [List.take_of_length_le (Nat.le_refl _)]; exact hb)
    rw [List.take_of_length_le (Nat.le_refl _)] at this
    exact this
end Go.Pl
set_option linter.unusedVariables false
set_option linter.unusedSimpArgs false
set_option maxRecDepth 100000
namespace Go.Pl
open Go Go.Ab
theorem acR {α β:Type} {p:α→β→Bool} {a:List α} {b:List β}:aaB p a b=true↔a.length=b.length∧∀ (i:Nat) (ha:i < a.length) (hb:i < b.length),p a[i] b[i]=true:=by
  unfold aaB
  rw [Bool.and_eq_true,decide_eq_true_eq,List.all_eq_true]
  constructor
  · rintro ⟨h1,h2⟩
    refine ⟨h1,fun i ha hb=>?_⟩
    have hz:i < (a.zip b).length:=by rw [List.length_zip]; omega
    have:=h2 _ (List.getElem_mem hz)
    rwa [List.getElem_zip] at this
  · rintro ⟨h1,h2⟩
    refine ⟨h1,fun q hq=>?_⟩
    obtain ⟨i,hi,rfl⟩:=List.getElem_of_mem hq
    rw [List.getElem_zip]
    exact h2 i _ _
theorem aiu {x y:zq} (h:adK x y=true):adK y x=true:=by
  unfold adK at h ⊢
  rw [beq_iff_eq] at h ⊢
  have:=acZ.anti x y
  omega
theorem ahz {x y z:zq} (h:adK x y=true) (k:adK y z=true):adK x z=true:=by
  unfold adK at h k ⊢
  rw [beq_iff_eq] at h k ⊢
  have a1:=acZ.anti x y; have a2:=acZ.anti y z; have a3:=acZ.anti x z
  have t1:=acZ.trans x y z (by omega) (by omega)
  have t2:=acZ.trans z y x (by omega) (by omega)
  omega
theorem abV:∀ (k:Nat) (x y:zh),qp k x y=true→qp k y x=true
  | 0,x,y,h=>by rw [qp] at h; cases h
  | k+1,x,y,h=>by
    rw [qp] at h ⊢
    simp only [Bool.and_eq_true,beq_iff_eq] at h ⊢
    obtain ⟨⟨⟨⟨h1,h2⟩,h3⟩,h4⟩,h5,h6⟩:=h
    refine ⟨⟨⟨⟨h1.symm,h2.symm⟩,h3.symm⟩,h4.symm⟩,aiu h5,?_⟩
    rw [acR] at h6 ⊢
    exact ⟨h6.1.symm,fun i ha hb=>abV k _ _ (h6.2 i hb ha)⟩
theorem aaq:∀ (k:Nat) (x y z:zh),qp k x y=true→qp k y z=true→qp k x z=true
  | 0,x,y,z,h,_=>by rw [qp] at h; cases h
  | k+1,x,y,z,h,h'=>by
    rw [qp] at h h' ⊢
    simp only [Bool.and_eq_true,beq_iff_eq] at h h' ⊢
    obtain ⟨⟨⟨⟨h1,h2⟩,h3⟩,h4⟩,h5,h6⟩:=h
    obtain ⟨⟨⟨⟨k1,k2⟩,k3⟩,k4⟩,k5,k6⟩:=h'
    refine ⟨⟨⟨⟨h1.trans k1,h2.trans k2⟩,h3.trans k3⟩,h4.trans k4⟩,ahz h5 k5,?_⟩
    rw [acR] at h6 k6 ⊢
    exact ⟨h6.1.trans k6.1,fun i ha hb=>aaq k _ _ _ (h6.2 i ha (by omega)) (k6.2 i (by omega) hb)⟩
theorem acF:∀ (d:Nat) (x:zh),WX d x→∀ (y:zh) (k l:Nat),d≤k→d≤l→qp k x y=qp l x y
  | 0,x,h,_,_,_,_,_=>h.elim
  | d+1,x,h,y,k,l,hk,hl=>by
    obtain ⟨k,rfl⟩:∃ j,k=j+1:=⟨k - 1,by omega⟩
    obtain ⟨l,rfl⟩:∃ j,l=j+1:=⟨l - 1,by omega⟩
    rw [qp,qp]
    congr 2
    rw [Bool.eq_iff_iff,acR,acR]
    constructor <;> rintro ⟨h1,h2⟩ <;> refine ⟨h1,fun i ha hb=>?_⟩
    · rw [acF d _ (h.2.2 _ (List.getElem_mem ha)) _ l k (by omega) (by omega)]; exact h2 i ha hb
    · rw [acF d _ (h.2.2 _ (List.getElem_mem ha)) _ k l (by omega) (by omega)]; exact h2 i ha hb
def FE (x:zh):Prop:=x.fKind=7→x.fRel=0∧x.fCol=0∧x.fConst.fKind=0∧adK x.fConst V0=true
def PE (x:zh):Prop:=WX 131073 x∧FE x
theorem aeq {x y:zh} (h:akb x y=true):∃ a b c d,sll x.fKids=[a,b]∧sll y.fKids=[c,d]∧qp 140000 (zg a) (zg d)=true∧qp 140000 (zg b) (zg c)=true:=by
  unfold akb at h
  split at h
  · rename_i a b c d h1 h2
    rw [Bool.and_eq_true] at h
    exact ⟨a,b,c,d,h1,h2,h.1,h.2⟩
  · cases h
theorem akz {x y:zh} {a b c d:EX} (h1:sll x.fKids=[a,b]) (h2:sll y.fKids=[c,d]) (h3:qp 140000 (zg a) (zg d)=true) (h4:qp 140000 (zg b) (zg c)=true):akb x y=true:=by
  unfold akb
  rw [h1,h2]
  simp only [h3,h4,Bool.and_self]
theorem akn {x y:zh} {c d:EX} (hx:WX 131073 x) (h:qp 140000 x y=true) (hy:sll y.fKids=[c,d]):∃ a b,sll x.fKids=[a,b]∧qp 140000 (zg a) (zg c)=true∧qp 140000 (zg b) (zg d)=true:=by
  rw [qp] at h
  simp only [Bool.and_eq_true,beq_iff_eq] at h
  obtain ⟨_,_,h6⟩:=h
  rw [acR,hy] at h6
  obtain ⟨h1,h2⟩:=h6
  match hk:sll x.fKids with
  | []=>rw [hk] at h1; cases h1
  | [_]=>rw [hk] at h1; cases h1
  | _ :: _ :: _ :: q=>rw [hk] at h1; simp at h1
  | [a,b]=>
    have g1:=h2 0 (by rw [hk]; simp) (by simp)
    have g2:=h2 1 (by rw [hk]; simp) (by simp)
    simp only [hk,List.getElem_cons_zero,List.getElem_cons_succ] at g1 g2
    have wa:WX 131072 (zg a):=hx.2.2 a (by rw [hk]; simp)
    have wb:WX 131072 (zg b):=hx.2.2 b (by rw [hk]; simp)
    exact ⟨a,b,rfl,by rw [acF _ _ wa _ 140000 139999 (by omega) (by omega)]; exact g1,by rw [acF _ _ wb _ 140000 139999 (by omega) (by omega)]; exact g2⟩
theorem ako {k:Nat} {x y:zh} (h:qp k x y=true):x.fKind=y.fKind:=by
  cases k with
  | zero=>rw [qp] at h; cases h
  | succ k=>
    rw [qp] at h
    simp only [Bool.and_eq_true,beq_iff_eq] at h
    exact h.1.1.1.1
theorem apa {x:zh} (h:PE x):tF x x=true:=by
  unfold tF; rw [aiG _ _ h.1 _ (by omega)]; rfl
theorem apl {x y:zh} (h:tF x y=true):tF y x=true:=by
  unfold tF at h ⊢
  rw [Bool.or_eq_true] at h ⊢
  rcases h with h | h
  · exact .inl (abV _ _ _ h)
  · simp only [Bool.and_eq_true,beq_iff_eq] at h ⊢
    obtain ⟨h1,h2,h3⟩:=h
    obtain ⟨a,b,c,d,e1,e2,e3,e4⟩:=aeq h3
    exact .inr ⟨h2,h1,akz e2 e1 (abV _ _ _ e4) (abV _ _ _ e3)⟩
theorem alu {x y z:zh} (hx:PE x) (hy:PE y) (hz:PE z) (h:tF x y=true) (k:tF y z=true):tF x z=true:=by
  unfold tF at h k ⊢
  rw [Bool.or_eq_true] at h k ⊢
  rcases h with h | h <;> rcases k with k | k
  · exact .inl (aaq _ _ _ _ h k)
  · simp only [Bool.and_eq_true,beq_iff_eq] at k ⊢
    obtain ⟨k1,k2,k3⟩:=k
    obtain ⟨a,b,c,d,e1,e2,e3,e4⟩:=aeq k3
    obtain ⟨p,q,f1,f2,f3⟩:=akn hx.1 h e1
    exact .inr ⟨(ako h).trans k1,k2,akz f1 e2 (aaq _ _ _ _ f2 e3) (aaq _ _ _ _ f3 e4)⟩
  · simp only [Bool.and_eq_true,beq_iff_eq] at h ⊢
    obtain ⟨k1,k2,k3⟩:=h
    obtain ⟨a,b,c,d,e1,e2,e3,e4⟩:=aeq k3
    obtain ⟨p,q,f1,f2,f3⟩:=akn hz.1 (abV _ _ _ k) e2
    exact .inr ⟨k1,(ako k).symm.trans k2,akz e1 f1 (aaq _ _ _ _ e3 (abV _ _ _ f3)) (aaq _ _ _ _ e4 (abV _ _ _ f2))⟩
  · simp only [Bool.and_eq_true,beq_iff_eq] at h k
    obtain ⟨h1,h2,h3⟩:=h
    obtain ⟨k1,k2,k3⟩:=k
    obtain ⟨a,b,c,d,e1,e2,e3,e4⟩:=aeq h3
    obtain ⟨c',d',u,v,f1,f2,f3,f4⟩:=aeq k3
    rw [e2] at f1
    simp only [List.cons.injEq,and_true] at f1
    obtain ⟨rfl,rfl⟩:=f1
    left
    obtain ⟨r1,r2,r3,r4⟩:=hx.2 h1
    obtain ⟨s1,s2,s3,s4⟩:=hz.2 k2
    rw [qp]
    simp only [Bool.and_eq_true,beq_iff_eq]
    refine ⟨⟨⟨⟨h1.trans k2.symm,r1.trans s1.symm⟩,r2.trans s2.symm⟩,r3.trans s3.symm⟩,ahz r4 (aiu s4),?_⟩
    have wa:WX 131072 (zg a):=hx.1.2.2 a (by rw [e1]; simp)
    have wb:WX 131072 (zg b):=hx.1.2.2 b (by rw [e1]; simp)
    have g1:=aaq _ _ _ _ e3 f4
    have g2:=aaq _ _ _ _ e4 f3
    rw [acF _ _ wa _ 140000 139999 (by omega) (by omega)] at g1
    rw [acF _ _ wb _ 140000 139999 (by omega) (by omega)] at g2
    rw [e1,f2]
    unfold aaB
    simp [g1,g2]
theorem aeP {α:Type} {p:α→Bool}:∀ {l l':List α},ab8 p l=some l'→∃ z,z∈l∧p z=true∧l'.length+1=l.length∧(∀ w,w∈l'→w∈l)∧∀ q:α→Bool,l.countP q=(bif q z then 1 else 0)+l'.countP q
  | [],l',h=>by cases h
  | x :: r,l',h=>by
    unfold ab8 at h
    cases hp:p x with
    | true=>
      rw [hp,cond_true] at h
      cases h
      refine ⟨x,by simp,hp,rfl,fun w hw=>by simp [hw],fun q=>?_⟩
      rw [List.countP_cons]
      cases q x <;> simp <;> omega
    | false=>
      rw [hp,cond_false] at h
      obtain ⟨l2,h1,rfl⟩:=Option.map_eq_some_iff.1 h
      obtain ⟨z,a1,a2,a3,a4,a5⟩:=aeP h1
      refine ⟨z,by simp [a1],a2,by simp [a3],fun w hw=>?_,fun q=>?_⟩
      · rcases List.mem_cons.1 hw with rfl | hw
        · simp
        · exact List.mem_cons_of_mem _ (a4 w hw)
      · rw [List.countP_cons,List.countP_cons,a5 q]; omega
theorem ag2 {α:Type} {p:α→Bool}:∀ {l:List α},ab8 p l=none→∀ z,z∈l→p z=false
  | [],_,z,hz=>by cases hz
  | x :: r,h,z,hz=>by
    unfold ab8 at h
    cases hp:p x with
    | true=>rw [hp,cond_true] at h; cases h
    | false=>
      rw [hp,cond_false,Option.map_eq_none_iff] at h
      rcases List.mem_cons.1 hz with rfl | hz
      · exact hp
      · exact ag2 h z hz
noncomputable abbrev rT (t:EX):EX→Bool:=fun y=>tF (zg t) (zg y)
def AllP (l:List EX):Prop:=∀ z,z∈l→PE (zg z)
theorem apI {t x z:EX} (ht:PE (zg t)) (hx:PE (zg x)) (hz:PE (zg z)) (h:tF (zg x) (zg z)=true):rT t x=rT t z:=by
  rw [Bool.eq_iff_iff]
  exact ⟨fun k=>alu ht hx hz k h,fun k=>alu ht hz hx k (apl h)⟩
theorem adk:∀ (a b:List EX),AllP a→AllP b→QT a b=true→a.length=b.length∧∀ t,PE (zg t)→a.countP (rT t)=b.countP (rT t)
  | [],b,_,_,h=>by
    rw [QT] at h
    cases b with
    | nil=>exact ⟨rfl,fun _ _=>rfl⟩
    | cons x b=>cases h
  | x :: a,b,ha,hb,h=>by
    rw [QT] at h
    cases ht:ab8 (fun y=>tF (zg x) (zg y)) b with
    | none=>rw [ht] at h; cases h
    | some l'=>
      rw [ht] at h
      obtain ⟨z,a1,a2,a3,a4,a5⟩:=aeP ht
      obtain ⟨g1,g2⟩:=adk a l' (fun w hw=>ha w (by simp [hw])) (fun w hw=>hb w (a4 w hw)) h
      refine ⟨by rw [List.length_cons]; omega,fun t hp=>?_⟩
      rw [List.countP_cons,a5 (rT t),g2 t hp,apI hp (ha x (by simp)) (hb z a1) a2]
      cases rT t z <;> simp <;> omega
theorem ake:∀ (a b:List EX),AllP a→AllP b→a.length=b.length→(∀ t,PE (zg t)→a.countP (rT t)=b.countP (rT t))→QT a b=true
  | [],b,_,_,h,_=>by
    cases b with
    | nil=>rfl
    | cons x b=>cases h
  | x :: a,b,ha,hb,h,hc=>by
    rw [QT]
    have hx:=ha x (by simp)
    cases ht:ab8 (fun y=>tF (zg x) (zg y)) b with
    | none=>
      have h0:b.countP (rT x)=0:=by
        rw [List.countP_eq_zero]
        intro z hz
        rw [show rT x z=false from ag2 ht z hz]; simp
      have:=hc x hx
      rw [List.countP_cons,h0,show rT x x=true from apa hx] at this
      simp at this
    | some l'=>
      obtain ⟨z,a1,a2,a3,a4,a5⟩:=aeP ht
      rw [List.length_cons] at h
      refine ake a l' (fun w hw=>ha w (by simp [hw])) (fun w hw=>hb w (a4 w hw)) (by omega) fun t hp=>?_
      have:=hc t hp
      rw [List.countP_cons,a5 (rT t),apI hp hx (hb z a1) a2] at this
      cases hr:rT t z with
      | true=>rw [hr] at this; simp at this; omega
      | false=>rw [hr] at this; simp at this; omega
end Go.Pl
set_option linter.unusedVariables false
set_option linter.unusedSimpArgs false
set_option maxRecDepth 100000
namespace Go.Pl
open Go Go.Ab
theorem am6:∀ (s:Nat) (x:zh),szL x≤s→Zx x→∀ k m n,s≤k→s < m→2000020+s≤n→QE m n x=some (relD k x)
  | 0,x,hs,hw,k,m,n,hk,hm,hn=>by
    exfalso
    unfold szL Zy at hs
    simp only [PV.bulkL,PV.bulk] at hs
    omega
  | s+1,x,hs,hw,k,m,n,hk,hm,hn=>by
    obtain ⟨k,rfl⟩:∃ j,k=j+1:=⟨k - 1,by omega⟩
    obtain ⟨m,rfl⟩:∃ j,m=j+1:=⟨m - 1,by omega⟩
    obtain ⟨n,rfl⟩:∃ j,n=j+1:=⟨n - 1,by omega⟩
    show acY (QE m) (n+1) x=_
    unfold acY
    rw [zt]
    have hown:∀ K3:Int→Option Int,zD (fun k3=>bif (((x.fKind == 1) && (decide (x.fRel≥0))) && (decide (x.fRel≤31))) then (ckN (IntKind.wrap .u64 x.fRel)).bind fun _=>k3 (iShl .u32 1 (IntKind.wrap .u64 x.fRel)) else k3 0) K3=K3 (ownR x):=fun K3=>by
      unfold ownR
      simp only [zD]
      cases hq:(((x.fKind == 1) && (decide (x.fRel≥0))) && (decide (x.fRel≤31))) with
      | false=>rfl
      | true=>
        rw [Bool.and_eq_true,Bool.and_eq_true,decide_eq_true_eq,decide_eq_true_eq] at hq
        rw [cond_true,cond_true]
        have:ckN (IntKind.wrap .u64 x.fRel)=some ():=by rw [alz (by omega) (by omega)]; unfold ckN; split <;> first | rfl | omega
        rw [this,Option.bind_some]
    refine Eq.trans (hown _) ?_
    have hl:∀ K:Int→Option Int,aau n (QE m) x K n 0 (ownR x)=agl (fun (z:EX) i (acc:Int) rec=>(QE m n (zg z)).bind fun r=>rec (iOr .u32 acc r)) K (sll x.fKids) 0 (ownR x):=fun K=>
      api (F:=fun m' (acc:Int) i=>aau n (QE m) x K m' i acc) (x:=x.fKids) (adH hw) (k:=K) (fun m' i s=>rfl) (by omega) (ownR x)
    show zD (fun k7=>aau n (QE m) x k7 n 0 (ownR x)) (fun y6=>some y6)=_
    unfold zD
    refine Eq.trans (hl _) ?_
    have gen:∀ (l:List EX) (i:Nat) (acc:Int),(∀ z,z∈l→z∈sll x.fKids)→agl (fun (z:EX) i (acc:Int) rec=>(QE m n (zg z)).bind fun r=>rec (iOr .u32 acc r)) (fun y6=>some y6) l i acc=some (l.foldl (fun acc z=>iOr .u32 acc (relD k (zg z))) acc):=by
      intro l
      induction l with
      | nil=>intro i acc _; rfl
      | cons z l ih=>
        intro i acc hz
        have hz0:=hz z (by simp)
        have:=amo hz0
        simp only [agl]
        rw [am6 s (zg z) (by omega) (akq hw hz0) k m n (by omega) (by omega) (by omega),Option.bind_some,ih (i+1) _ (fun y hy=>hz y (List.mem_cons_of_mem _ hy))]
        rfl
    exact gen _ 0 _ (fun z hz=>hz)
theorem aor {z:EX} (hw:zI z) {n:Nat} (h:3048600≤n):ahb n (zg z)=some (relE z):=by
  have hw':Zx (zg z):=by
    have:=hw
    unfold zI at this
    rw [zu z] at this
    exact this
  exact am6 1048576 _ hw'.2 hw' _ n n (Nat.le_refl _) (by omega) (by omega)
theorem aob {v:zq} (h:aea v=true) (hk:v.fKind=0):adK v V0=true:=by
  unfold adK vCmp
  have e1:abU v=v:=by
    unfold abU
    rw [h,hk]; rfl
  have e2:v.fInt=0:=by
    unfold aea at h
    rw [if_pos hk] at h
    simp only [Bool.and_eq_true,beq_iff_eq] at h
    exact h.1
  have e3:(abU V0).fKind=0∧(abU V0).fInt=0:=by
    unfold abU
    cases hr:aea V0 with
    | true=>exact ⟨rfl,rfl⟩
    | false=>exact ⟨rfl,rfl⟩
  unfold vC
  rw [e1,hk,e3.1,if_neg (by simp),if_neg (by decide),if_neg (by decide),e2,e3.2]
  rfl
theorem ahm {x:zh} (h:QR x=true):FE x:=by
  intro hk
  obtain ⟨c,hc,_⟩:=aiI h
  have hn:=(aiQ hc).1
  unfold agQ afR at hn
  rw [hk] at hn
  simp only [Bool.and_eq_true,Bool.not_eq_true',Bool.and_eq_false_iff,Bool.or_eq_false_iff,bne_eq_false_iff_eq,Bool.or_eq_true,beq_iff_eq] at hn
  obtain ⟨_,⟨⟨⟨h1,_⟩,_⟩,h4⟩,h5⟩:=hn
  have h0:x.fRel=0∧x.fCol=0:=by
    rcases h1 with h1 | h1
    · exact absurd h1 (by decide)
    · exact h1
  have hc0:x.fConst.fKind=0:=by
    rcases h5 with h5 | h5
    · exact absurd h5 (by decide)
    · exact h5
  exact ⟨h0.1,h0.2,hc0,aob h4 hc0⟩
theorem V0_W:qW V0:=⟨⟨by decide,by decide⟩,⟨by decide,by decide⟩,by show (Lit.float _ _).wf=true; rfl,by show ByteArray.empty.size≤_; decide⟩
theorem aml (k:Nat) (x:zh):(ad9 k x).fKind=x.fKind∧(ad9 k x).fRel=x.fRel∧(ad9 k x).fCol=x.fCol∧(ad9 k x).fConst=x.fConst:=by
  cases k with
  | zero=>exact ⟨rfl,rfl,rfl,rfl⟩
  | succ k=>rw [ad9]; exact ⟨rfl,rfl,rfl,rfl⟩
theorem apE {k:Nat} {x:zh} (h:FE x):FE (ad9 k x):=by
  obtain ⟨h1,h2,h3,h4⟩:=aml k x
  unfold FE
  rw [h1,h2,h3,h4]
  exact h
theorem own_P {x:zl} (h:PX1 x) (hf:∀ z,z∈sll x.fWhere→QR (zg z)=true):AllP (ownA x):=by
  have hq:∀ q,q∈zipP x→WX 131072 (zg q.1)∧WX 131072 (zg q.2):=fun q hq=>by
    unfold zipP at hq
    cases hk:aiB x with
    | false=>rw [hk] at hq; cases hq
    | true=>rw [hk] at hq; obtain ⟨q1,q2⟩:=q; exact ⟨h.left.2 _ (List.of_mem_zip hq).1,h.right.2 _ (List.of_mem_zip hq).2⟩
  unfold ownA
  rw [Qu,Qu]
  intro z hz
  rcases List.mem_append.1 hz with hz | hz
  · obtain ⟨w,hw,rfl⟩:=List.mem_map.1 hz
    unfold cpE PE; rw [aew]
    exact ⟨agR (by omega) (ah9 _ _ (h.wher.2 w hw) _),apE (ahm (hf w hw))⟩
  · obtain ⟨q,hw,rfl⟩:=List.mem_map.1 hz
    unfold eqC PE; rw [aew]
    refine ⟨?_,fun _=>⟨rfl,rfl,rfl,by unfold adK; rw [acZ.self]; rfl⟩⟩
    rw [show 131073=131072+1 from rfl,WX]
    refine ⟨V0_W,by simp [sll],fun z hz=>?_⟩
    have hz':z∈[cpE q.1,cpE q.2]:=hz
    simp only [List.mem_cons,List.mem_nil_iff,or_false] at hz'
    rcases hz' with rfl | rfl
    · unfold cpE; rw [aew]; exact ah9 _ _ (hq q hw).1 _
    · unfold cpE; rw [aew]; exact ah9 _ _ (hq q hw).2 _
theorem amM {x:zl} (h:adY x=true):∀ z,z∈sll x.fWhere→QR (zg z)=true:=by
  unfold adY ahn okEs at h
  simp only [Bool.and_eq_true] at h
  have:=h.2.2.1.1.1.1.1.1.2
  exact List.all_eq_true.1 this
theorem apG:∀ (k r:Nat) (s:Nat) (x:zl) (c:Nat),WD s x→frmP r x=some c→AllP (appC k x)
  | 0,_,_,x,c,_,_=>fun z hz=>absurd hz (by simp [appC])
  | k+1,0,_,x,c,_,h=>by cases h
  | k+1,r+1,0,x,c,hw,_=>hw.elim
  | k+1,r+1,s+1,x,c,hw,h=>by
    obtain ⟨hn,hk⟩:=ag7 h
    rw [appC]
    intro z hz
    rcases List.mem_append.1 hz with hz | hz
    · obtain ⟨w,hw',hz⟩:=List.mem_flatMap.1 hz
      obtain ⟨c',h1,_⟩:=hk w hw'
      exact apG k r s _ c' (hw.2.2 w hw') h1 z hz
    · exact own_P (ak2 hw.1) (amM hn) z hz
theorem agz {a:Option (List EX)} (ha:wSl zI a) (S:Int) {n:Nat} (hn:3048700≤n):∃ b,qm n a S=some b:=by
  obtain ⟨n,rfl⟩:∃ j,n=j+3:=⟨n - 3,by omega⟩
  unfold qm ZV Z7
  rw [zt,zt,zt]
  refine aae (aae ?_ fun _=>⟨_,rfl⟩) fun _=>⟨_,rfl⟩
  rw [zD]
  refine abJ (F:=fun k (_:Unit) i=>zZ n a S _ k i) (l:=sll a) (fun _ _=>True) ha.1 (by omega) () trivial (fun k i _ z hi hz _=>?_) fun k _ _=>?_
  · have hx:=ha.2 z (hz ▸ List.getElem_mem hi)
    have:∃ b,abF n (zg z) S=some b:=by
      obtain ⟨n,rfl⟩:∃ j,n=j+1:=⟨n - 1,by omega⟩
      unfold abF
      rw [zt,aor hx (by omega)]
      exact ⟨_,rfl⟩
    obtain ⟨b,hb⟩:=this
    rw [zZ,dT (by omega),cond_true,Z8 hi hz,Option.bind_some,hb,Option.bind_some]
    cases b with
    | true=>exact .inl ⟨_,rfl⟩
    | false=>exact .inr ⟨(),trivial,rfl⟩
  · rw [zZ,dF (by omega),cond_false]
    exact ⟨_,rfl⟩
theorem aoU {x:zl} (h:adY x=true) (hk:x.fKind=2∨x.fKind=3∨x.fKind=4):∃ p q,sll x.fKids=[p,q]:=by
  have hl:aeS x.fKind=((sll x.fKids).length:Int):=by
    unfold adY at h
    rw [Bool.and_eq_true,beq_iff_eq] at h
    exact h.1
  have:aeS x.fKind=2:=by rcases hk with h | h | h <;> rw [h] <;> rfl
  rw [this] at hl
  match hk:sll x.fKids with
  | [p,q]=>exact ⟨p,q,rfl⟩
  | []=>rw [hk] at hl; simp at hl
  | [_]=>rw [hk] at hl; simp at hl
  | _ :: _ :: _ :: r=>rw [hk] at hl; simp at hl; omega
theorem al5 {x:zl} (h:adY x=true) (hk:x.fKind=5∨x.fKind=6∨x.fKind=7):∃ p,sll x.fKids=[p]:=by
  have hl:aeS x.fKind=((sll x.fKids).length:Int):=by
    unfold adY at h
    rw [Bool.and_eq_true,beq_iff_eq] at h
    exact h.1
  have:aeS x.fKind=1:=by rcases hk with h | h | h <;> rw [h] <;> rfl
  rw [this] at hl
  match hk:sll x.fKids with
  | [p]=>exact ⟨p,rfl⟩
  | []=>rw [hk] at hl; simp at hl
  | _ :: _ :: r=>rw [hk] at hl; simp at hl; omega
theorem an4 {x:zl} (h:adY x=true):0≤x.fRel∧x.fRel < 12:=by
  unfold adY ahn at h
  simp only [Bool.and_eq_true,decide_eq_true_eq] at h
  exact ⟨h.2.2.2.1.1,h.2.2.2.1.2⟩
theorem ap7 {k:Int} (h1:0≤k) (h2:k < 1000000):ckN (IntKind.wrap .u64 k)=some ():=by
  rw [alz (by omega) (by omega)]; unfold ckN; split <;> first | rfl | omega
theorem anN {s:Nat} {x:zl} (hw:WD (s+1) x) (hs:s≤131072) (h:adY x=true) (a0 a1:Int) (a2:Bool) {n:Nat} (hn:3048800≤n):∃ r,ac1 n a0 a1 a2 x=some r:=by
  obtain ⟨n,rfl⟩:∃ j,n=j+1:=⟨n - 1,by omega⟩
  unfold ac1
  rw [zt]
  simp only [zD]
  have tail:∀ (y2 y3:Int) (y4:Bool),∃ r,(bif y4 then (Qe n x).bind fun x7=>(qm n x.fWhere x7).bind fun x9=>some (y2,y3,x9) else some (y2,y3,false))=some r:=fun y2 y3 y4=>
    qt (fun _=>aae ⟨_,aeM hw (by omega) (by omega)⟩ fun S=>aae (agz hw.1.2.2.1 S (by omega)) fun _=>⟨_,rfl⟩) fun _=>⟨_,rfl⟩
  refine qt (fun _=>?_) fun _=>?_
  · have hr:=an4 h
    rw [ap7 hr.1 (by omega),Option.bind_some]
    exact tail _ _ _
  · have mid:∀ y13:Bool,(y13=true→x.fKind=3∨x.fKind=4)→∃ r,(bif y13 then bif a2 then (idx (sll x.fKids) 0).bind fun x17=>(Qe n (zr x17)).bind fun x19=>(qm n x.fLeft x19).bind fun x21=>bif x21 then (idx (sll x.fKids) 1).bind fun x24=>(Qe n (zr x24)).bind fun x26=>(qm n x.fRight x26).bind fun x28=>(bif x28 then (Qe n x).bind fun x7=>(qm n x.fWhere x7).bind fun x9=>some (a0,a1,x9) else some (a0,a1,false)) else (bif false then (Qe n x).bind fun x7=>(qm n x.fWhere x7).bind fun x9=>some (a0,a1,x9) else some (a0,a1,false)) else (bif false then (Qe n x).bind fun x7=>(qm n x.fWhere x7).bind fun x9=>some (a0,a1,x9) else some (a0,a1,false)) else bif (x.fKind == 2) then (bif a2 then (Qe n x).bind fun x7=>(qm n x.fWhere x7).bind fun x9=>some (a0,a1,x9) else some (a0,a1,false)) else (bif false then (Qe n x).bind fun x7=>(qm n x.fWhere x7).bind fun x9=>some (a0,a1,x9) else some (a0,a1,false)))=some r:=fun y13 hy=>by
      refine qt (fun hy1=>?_) fun _=>qt (fun _=>tail _ _ _) fun _=>tail _ _ _
      refine qt (fun _=>?_) fun _=>tail _ _ _
      obtain ⟨p,q,hpq⟩:=aoU h (.inr (hy hy1))
      have wp:=hw.2.2 p (by rw [hpq]; simp)
      have wq:=hw.2.2 q (by rw [hpq]; simp)
      rw [hpq]
      rw [show idx [p,q] 0=some p from rfl,Option.bind_some]
      refine aae ⟨_,aeM wp (by omega) (by omega)⟩ fun S=>aae (agz hw.1.2.2.2.1 S (by omega)) fun b=>?_
      refine qt (fun _=>?_) fun _=>tail _ _ _
      rw [show idx [p,q] 1=some q from rfl,Option.bind_some]
      exact aae ⟨_,aeM wq (by omega) (by omega)⟩ fun S=>aae (agz hw.1.2.2.2.2.1 S (by omega)) fun b=>tail _ _ _
    exact qt (fun _=>mid _ fun h=>.inl (by simpa using h)) fun _=>mid _ fun h=>.inr (by simpa using h)
theorem akl:∀ (r:Nat) (s:Nat) (x:zl) (c:Nat),WD s x→s≤131072→frmP r x=some c→∀ (a0 a1:Int) (a2:Bool) (m n:Nat),r≤m→3048900+r≤n→∃ v,ql m n a0 a1 a2 x=some v
  | 0,_,x,c,_,_,h,_,_,_,_,_,_,_=>by cases h
  | r+1,0,x,c,hw,_,_,_,_,_,_,_,_,_=>hw.elim
  | r+1,s+1,x,c,hw,hs,h,a0,a1,a2,m,n,hm,hn=>by
    obtain ⟨m,rfl⟩:∃ j,m=j+1:=⟨m - 1,by omega⟩
    obtain ⟨n,rfl⟩:∃ j,n=j+1:=⟨n - 1,by omega⟩
    obtain ⟨hnode,hk⟩:=ag7 h
    show ∃ v,qI (ql m) (n+1) a0 a1 a2 x=some v
    unfold qI
    rw [zt]
    simp only [zD]
    refine abJ (F:=fun k (q:Int × Int × Bool) i=>ZZ n (ql m) x _ k q.1 q.2.1 q.2.2 i) (l:=sll x.fKids) (fun _ _=>True) hw.2.1 (by omega) (a0,a1,a2) trivial (fun k i q z hi hz _=>?_) fun k q _=>?_
    · have hmem:z∈sll x.fKids:=hz ▸ List.getElem_mem hi
      obtain ⟨c',h1,_⟩:=hk z hmem
      obtain ⟨v,hv⟩:=akl r s _ c' (hw.2.2 z hmem) (by omega) h1 q.1 q.2.1 q.2.2 m n (by omega) (by omega)
      rw [ZZ,dT (by omega),cond_true,Z8 hi hz,Option.bind_some,hv,Option.bind_some]
      exact .inr ⟨v,trivial,rfl⟩
    · rw [ZZ,dF (by omega),cond_false]
      exact aae (anN hw (by omega) hnode _ _ _ (by omega)) fun _=>⟨_,rfl⟩
theorem ao5 {r s:Nat} {x:zl} {c:Nat} (hw:WD s x) (hs:s≤131072) (h:frmP r x=some c) (hr:r≤24) {k:Int} (hk:0≤k∧k≤1048576) {n:Nat} (hn:3049000≤n):∃ b,acH n x k=some b:=by
  obtain ⟨n,rfl⟩:∃ j,n=j+1:=⟨n - 1,by omega⟩
  unfold acH
  rw [zt]
  refine aae (akl r s x c hw hs h 0 0 true n n (by omega) (by omega)) fun v=>?_
  refine qt (fun _=>?_) fun _=>⟨_,rfl⟩
  have:ckN (IntKind.wrap .u64 k)=some ():=by
    rw [alz (by omega) (by omega)]; unfold ckN; split <;> first | rfl | omega
  rw [this]
  exact ⟨_,rfl⟩
end Go.Pl
set_option linter.unusedVariables false
set_option linter.unusedSimpArgs false
set_option maxRecDepth 100000
namespace Go.Pl
open Go Go.Ab
theorem aiz {s r:Nat} {u:zl} {c:Nat} (hw:WD s u) (hs:s≤131072) (h:frmP r u=some c) (hr:r≤24) (hsz:szP u≤1048576) {out:Option (List EX)} (ho:LXs 131072 out) {aggs:Option (List zK)} (hg:LAs 131072 aggs) {rels:Option (List ByteArray)} (hrl:(sll rels).length≤1048576) (grouped:Bool) {n:Nat} (hn:3049100≤n):
    ∃ (A:Bool) (o:List EX),AllP o∧o.length≤1048576∧∀ w:Option (List EX),WXs 131072 (sll w)→(sll w).length≤1100000→
      (zD (fun k14=>bif grouped then k14 5 else k14 6) (fun (y13:Int)=>bif (u.fKind != y13) then some false else (zN n u.fOut out).bind fun x16=>bif (!x16) then some false else (Zz n u.fAggs aggs).bind fun x19=>bif (!x19) then some false else (idx (sll u.fKids) 0).bind fun x22=>(acH n (zr x22) ((sll rels).length:Int)).bind fun x24=>bif x24 then (aas n (zr x22)).bind fun x27=>(aax n x27 w).bind fun x29=>some x29 else some false))=some (A && QT o (sll w)):=by
  have hnil:AllP []:=fun z hz=>by cases hz
  have fl:∀ {X:Option Bool},X=some false→∃ (A:Bool) (o:List EX),AllP o∧o.length≤1048576∧∀ w:Option (List EX),WXs 131072 (sll w)→(sll w).length≤1100000→X=some (A && QT o (sll w)):=fun h=>⟨false,[],hnil,by simp,fun w _ _=>by rw [h]; rfl⟩
  cases s with
  | zero=>exact hw.elim
  | succ s=>
  cases r with
  | zero=>cases h
  | succ r=>
  obtain ⟨hnode,hkid⟩:=ag7 h
  have hp:=ak2 hw.1
  have main:∀ y13:Int,(y13=5∨y13=6)→∃ (A:Bool) (o:List EX),AllP o∧o.length≤1048576∧∀ w:Option (List EX),WXs 131072 (sll w)→(sll w).length≤1100000→
      (bif (u.fKind != y13) then some false else (zN n u.fOut out).bind fun x16=>bif (!x16) then some false else (Zz n u.fAggs aggs).bind fun x19=>bif (!x19) then some false else (idx (sll u.fKids) 0).bind fun x22=>(acH n (zr x22) ((sll rels).length:Int)).bind fun x24=>bif x24 then (aas n (zr x22)).bind fun x27=>(aax n x27 w).bind fun x29=>some x29 else some false)=some (A && QT o (sll w)):=by
    intro y13 hy
    cases hk:(u.fKind != y13) with
    | true=>exact ⟨false,[],hnil,by simp,fun w _ _=>rfl⟩
    | false=>
    have hk':u.fKind=y13:=by simpa using hk
    simp only [cond_false]
    rw [ak1 hp.out.2 hp.out.1 ho.2 (by omega) (by omega)]
    simp only [Option.bind_some]
    cases amz 140000 (sll u.fOut) (sll out) with
    | false=>exact ⟨false,[],hnil,by simp,fun w _ _=>rfl⟩
    | true=>
    simp only [Bool.not_true,cond_false]
    rw [al1 hp.aggs hg (by omega) (by omega)]
    simp only [Option.bind_some]
    cases aaB aoV (sll u.fAggs) (sll aggs) with
    | false=>exact ⟨false,[],hnil,by simp,fun w _ _=>rfl⟩
    | true=>
    simp only [Bool.not_true,cond_false]
    obtain ⟨p,hpk⟩:=al5 hnode (by rcases hy with h | h <;> rw [h] at hk' <;> simp [hk'])
    have hmem:p∈sll u.fKids:=by rw [hpk]; simp
    have wp:=hw.2.2 p hmem
    obtain ⟨c',hf,_⟩:=hkid p hmem
    rw [hpk,show idx [p] 0=some p from rfl]
    simp only [Option.bind_some]
    obtain ⟨b,hb⟩:=ao5 wp (by omega) hf (by omega) (k:=((sll rels).length:Int)) ⟨by omega,by omega⟩ (n:=n) (by omega)
    rw [hb]
    simp only [Option.bind_some]
    cases b with
    | false=>exact ⟨false,[],hnil,by simp,fun w _ _=>rfl⟩
    | true=>
    have hsz':szP (zr p)≤1048576:=by have:=agM hmem; omega
    obtain ⟨o,ho1,ho2⟩:=ahU (aow _ _ wp) (by omega) hsz' (n:=n) (by omega)
    have hP:AllP (appC 131073 (zr p)):=apG _ _ _ _ _ wp hf
    have hl:=aif 131073 (zr p)
    refine ⟨true,appC 131073 (zr p),hP,by omega,fun w ww wl=>?_⟩
    rw [cond_true,ho1,Option.bind_some,amb (d:=131073) (e:=131072) (by rw [ho2]; exact fun z hz=>(hP z hz).1) (by rw [ho2]; omega) ww wl (by omega) (by omega),ho2]
    rfl
  simp only [zD]
  cases grouped with
  | true=>exact main 5 (.inl rfl)
  | false=>exact main 6 (.inr rfl)
theorem af4 {s:Nat} {x:zl} (hw:WD s x) (hs:s≤131072) (h:aa0 x=true) (hsz:szP x≤1048576) {rels:Option (List ByteArray)} (hrl:(sll rels).length≤1048576) (grouped:Bool) {out:Option (List EX)} (ho:LXs 131072 out) {aggs:Option (List zK)} (hg:LAs 131072 aggs) (order:Option (List Zn)) {n:Nat} (hn:3049200≤n):
    ∃ (A:Bool) (o:List EX),AllP o∧o.length≤1048576∧∀ w:Option (List EX),WXs 131072 (sll w)→(sll w).length≤1100000→Qj n x ⟨rels,w,grouped,out,aggs,order⟩=some (A && QT o (sll w)):=by
  obtain ⟨n,rfl⟩:∃ j,n=j+1:=⟨n - 1,by omega⟩
  obtain ⟨c,hc,_⟩:=ak8 h
  have hnil:AllP []:=fun z hz=>by cases hz
  unfold Qj
  simp only [zt,zD]
  cases s with
  | zero=>exact hw.elim
  | succ s=>
  obtain ⟨hnode,hkid⟩:=ag7 hc
  have hp:=ak2 hw.1
  cases hord:decide (((sll order).length:Int) > 0) with
  | false=>
    simp only [hord,cond_false]
    have:=aiz hw hs hc (by omega) hsz ho hg hrl grouped (n:=n) (by omega)
    simp only [zD] at this
    exact this
  | true=>
    simp only [hord,cond_true]
    cases hk:(x.fKind != 7) with
    | true=>exact ⟨false,[],hnil,by simp,fun w _ _=>rfl⟩
    | false=>
    have hk':x.fKind=7:=by simpa using hk
    simp only [cond_false]
    rw [alw hp.order (by omega)]
    simp only [Option.bind_some]
    cases aaB ao0 (sll x.fOrder) (sll order) with
    | false=>exact ⟨false,[],hnil,by simp,fun w _ _=>rfl⟩
    | true=>
    simp only [Bool.not_true,cond_false]
    obtain ⟨p,hpk⟩:=al5 hnode (by simp [hk'])
    have hmem:p∈sll x.fKids:=by rw [hpk]; simp
    have wp:=hw.2.2 p hmem
    obtain ⟨c',hf,_⟩:=hkid p hmem
    rw [hpk,show idx [p] 0=some p from rfl]
    simp only [Option.bind_some]
    have:=aiz wp (by omega) hf (by omega) (by have:=agM hmem; omega) ho hg hrl grouped (n:=n) (by omega)
    simp only [zD] at this
    exact this
theorem aiZ {n:Nat} {rels:Option (List zk)} {w:Option (List EX)} (hl:(sll w).length≤1100000):∀ (l p:List EX) (m:Nat),sll w=p++l→l.length < m→
    (zR n rels w (fun _=>some 0) m (p.length:Int)=some 0↔∀ z,z∈l→qL n rels (zg z)=some 0)
  | [],p,m,he,hm=>by
    obtain ⟨m,rfl⟩:∃ j,m=j+1:=⟨m - 1,by omega⟩
    rw [zR,dF (by rw [he]; simp),cond_false]
    simp
  | z :: l,p,m,he,hm=>by
    obtain ⟨m,rfl⟩:∃ j,m=j+1:=⟨m - 1,by omega⟩
    rw [List.length_cons] at hm
    have hlen:(sll w).length=p.length+(l.length+1):=by rw [he]; simp
    have hix:idx (sll w) (p.length:Int)=some z:=by rw [he,acQ]; simp
    have ih:=aiZ (n:=n) (rels:=rels) hl l (p++[z]) m (by rw [he]; simp) (by omega)
    rw [zR,dT (by omega),cond_true,hix,Option.bind_some,acv (by omega),show p.length+1=(p++[z]).length by simp]
    cases hr:qL n rels (zg z) with
    | none=>
      simp only [Option.bind_none,List.mem_cons,forall_eq_or_imp,hr]
      simp
    | some e=>
      rw [Option.bind_some]
      by_cases h0:e=0
      · subst h0
        rw [show ((0:Int) != 0)=false from rfl,cond_false,ih]
        simp only [List.mem_cons,forall_eq_or_imp,hr,true_and]
      · rw [show (e != 0)=true by simpa using h0,cond_true]
        simp only [List.mem_cons,forall_eq_or_imp,hr]
        constructor
        · intro q; cases q; exact absurd rfl h0
        · intro q; exact q.1
theorem ai8 {n:Nat} {rels:Option (List zk)} {w:Option (List EX)} (hl:(sll w).length≤1100000) (hn:1100002≤n):Zs (n+1) rels w=some 0↔∀ z,z∈sll w→qL n rels (zg z)=some 0:=by
  unfold Zs
  rw [zt]
  simp only [zD]
  exact aiZ hl (sll w) [] n rfl (by omega)
theorem ajq {n:Nat} (hn:2000300≤n) {rels:Option (List zk)} {x:zh} (hx:Zx x) (h:qL n rels x=some 0):QR x=true:=by
  obtain ⟨n,rfl⟩:∃ j,n=j+3:=⟨n - 3,by omega⟩
  unfold qL Zi QZ at h
  rw [zt,zt,zt,acg hx (by omega),Option.bind_some] at h
  cases hf:QR x with
  | true=>rfl
  | false=>
    rw [hf] at h
    simp only [zD,Bool.not_false,cond_true,Option.bind_some] at h
    have h':some (2:Int)=some 0:=h
    exact absurd h' (by decide)
theorem amJ {n:Nat} (a:Option (List Zn)) (r:Option (List ByteArray)) (w w':Option (List EX)) (g:Bool) (o:Option (List EX)) (ag:Option (List zK)) (od:Option (List Zn)):zS n a r w g o ag od=zS n a r w' g o ag od:=by
  have hl:∀ (n:Nat) (K:Unit→Option Int) (m:Nat) (i:Int),zE n a r w g o ag od K m i=zE n a r w' g o ag od K m i:=by
    intro n K m
    induction m with
    | zero=>intro i; rfl
    | succ m ih=>
      intro i
      rw [zE,zE]
      have hs:∀ z,QK n z r w g o ag od=QK n z r w' g o ag od:=fun z=>rfl
      simp only [hs,ih]
  have hi:∀ n,Zg n a r w g o ag od=Zg n a r w' g o ag od:=by
    intro n
    unfold Zg
    simp only [hl]
  unfold zS
  simp only [hi]
theorem amK {n:Nat} {r:Option (List ByteArray)} {w w':Option (List EX)} {g:Bool} {o:Option (List EX)} {ag:Option (List zK)} {od:Option (List Zn)} (h:Q5 (n+1) ⟨r,w,g,o,ag,od⟩=some true):(sll w).length≤40∧((sll w').length≤40→Q5 (n+1) ⟨r,w',g,o,ag,od⟩=some true):=by
  unfold Q5 at h ⊢
  rw [zt] at h ⊢
  simp only at h ⊢
  rw [amJ od r w w' g o ag od] at h
  rw [show aa4 n ⟨r,w,g,o,ag,od⟩=aa4 n ⟨r,w',g,o,ag,od⟩ from rfl] at h
  cases h1:decide (((sll w).length:Int) > 40) with
  | true=>rw [h1,Bool.true_or,Bool.true_or,Bool.true_or,cond_true] at h; cases h
  | false=>
    rw [h1] at h
    have:(sll w).length≤40:=by simp at h1; omega
    refine ⟨this,fun hw=>?_⟩
    rw [show decide (((sll w').length:Int) > 40)=false from dF (by omega)]
    exact h
theorem aj3 {n:Nat} (hn:2000500≤n) {rels:Option (List ByteArray)} {w w':Option (List EX)} (hw:wSl zI w) {g:Bool} {o:Option (List EX)} {ag:Option (List zK)} {od:Option (List Zn)} {a:Option (List zk)} {r:Option (List Int)}
    (h:qH n ⟨rels,w,g,o,ag,od⟩ a=some (r,0)):(sll w).length≤40∧(∀ z,z∈sll w→QR (zg z)=true)∧((sll w').length≤40→(∀ z,z∈sll w'→z∈sll w)→qH n ⟨rels,w',g,o,ag,od⟩ a=some (r,0)):=by
  obtain ⟨n,rfl⟩:∃ j,n=j+3:=⟨n - 3,by omega⟩
  unfold qH at h ⊢
  rw [zt] at h ⊢
  have hT:aaw (n+2) ⟨rels,w',g,o,ag,od⟩ a=aaw (n+2) ⟨rels,w,g,o,ag,od⟩ a:=rfl
  simp only [] at h ⊢
  rw [hT]
  obtain ⟨x1,ht,h⟩:=Option.bind_eq_some_iff.1 h
  rw [ht,Option.bind_some]
  cases h1:(x1.2 != 0) with
  | true=>
    rw [h1,cond_true] at h
    simp only [Option.some.injEq,Prod.mk.injEq] at h
    rw [h.2] at h1; cases h1
  | false=>
  rw [h1,cond_false] at h
  rw [cond_false]
  obtain ⟨x4,hs,h⟩:=Option.bind_eq_some_iff.1 h
  cases x4 with
  | false=>
    rw [Bool.not_false,cond_true] at h
    simp only [Option.some.injEq,Prod.mk.injEq] at h
    exact absurd h.2 (by decide)
  | true=>
  rw [Bool.not_true,cond_false] at h
  obtain ⟨s1,s2⟩:=amK (w':=w') hs
  obtain ⟨x8,he,h⟩:=Option.bind_eq_some_iff.1 h
  by_cases h8:x8=0
  · subst h8
    rw [ai8 (n:=n+1) (by omega) (by omega)] at he
    refine ⟨s1,fun z hz=>ajq (by omega) (W_un (hw.2 z hz)) (he z hz),fun q1 q2=>?_⟩
    rw [s2 q1,Option.bind_some,Bool.not_true,cond_false]
    have he':Zs (n+1+1) x1.1 w'=some 0:=by
      rw [ai8 (n:=n+1) (by omega) (by omega)]
      exact fun z hz=>he z (q2 z hz)
    rw [he',Option.bind_some]
    exact h
  · exfalso
    simp only [zD] at h
    rw [show (x8 == 0)=false by simpa using h8] at h
    simp only [cond_false] at h
    rw [show (x8 != 0)=true by simpa using h8] at h
    simp only [cond_true,Option.some.injEq,Prod.mk.injEq] at h
    exact h8 h.2
end Go.Pl
set_option linter.unusedVariables false
set_option linter.unusedSimpArgs false
set_option maxRecDepth 100000
namespace Go.Pl
open Go Go.Ab
theorem alm {q:zx} (h1:∀ (n:Nat),3048700≤n→∀ most:Int,∃ r,aaa n q.fWhere most=some r) (h0:(sll q.fRels).length≤1048576) (h2:wSl zI q.fOut) (h3:wSl Qr q.fAggs) (most:Int) {n:Nat} (hn:3048710≤n):∃ r,aat n q most=some r:=by
  obtain ⟨n,rfl⟩:∃ j,n=j+1:=⟨n - 1,by omega⟩
  unfold aat
  rw [zt]
  refine qt (fun _=>⟨_,rfl⟩) fun _=>?_
  simp only [zD]
  have l15:∀ acc:Int,∃ r,ZJ n q most (fun y13=>some y13) n acc 0=some r:=fun acc=>by
    refine abJ (F:=fun k s i=>ZJ n q most (fun y13=>some y13) k s i) (l:=sll q.fAggs) (fun _ _=>True) h3.1 (by omega) acc trivial (fun k i s z hi hz _=>?_) fun k s _=>?_
    · have hx:=h3.2 z (hz ▸ List.getElem_mem hi)
      rw [ZJ,dT (by omega),Bool.true_and]
      cases decide (s≤most) with
      | false=>exact .inl ⟨_,rfl⟩
      | true=>
        rw [cond_true,Z8 hi hz,Option.bind_some]
        obtain ⟨r,hr⟩:=adL (a:=some [zi z.fOf]) ⟨by simp [sll],fun y hy=>by
          simp only [sll,List.mem_singleton] at hy
          subst hy
          exact hx.2⟩ (IntKind.wrap .i64 (most - s)) (n:=n) (by omega)
        rw [hr,Option.bind_some]
        exact .inr ⟨_,trivial,rfl⟩
    · rw [ZJ,dF (by omega),Bool.false_and,cond_false]
      exact ⟨_,rfl⟩
  have s2:∀ acc:Int,∃ r,(bif decide (acc≤most) then (aaa n q.fOut (IntKind.wrap .i64 (most - acc))).bind fun x27=>ZJ n q most (fun y13=>some y13) n (IntKind.wrap .i64 (acc+x27)) 0 else ZJ n q most (fun y13=>some y13) n acc 0)=some r:=fun acc=>
    qt (fun _=>aae (adL h2 _ (by omega)) fun _=>l15 _) fun _=>l15 _
  refine abJ (F:=fun k s i=>Qo n q most _ k s i) (l:=sll q.fRels) (fun _ _=>True) h0 (by omega) _ trivial (fun k i s z hi hz _=>?_) fun k s _=>?_
  · rw [Qo,dT (by omega),cond_true]
    cases decide (s > most) with
    | true=>exact .inl ⟨_,rfl⟩
    | false=>
      rw [cond_false,Z8 hi hz,Option.bind_some]
      cases decide ((z.size:Int) > most) with
      | true=>exact .inl ⟨_,rfl⟩
      | false=>exact .inr ⟨_,trivial,rfl⟩
  · rw [Qo,dF (by omega),cond_false]
    exact qt (fun _=>aae (h1 _ (by omega) _) fun _=>s2 _) fun _=>s2 _
theorem akP {q:zx} (h1:∀ (n:Nat),3048700≤n→∀ most:Int,∃ r,aaa n q.fWhere most=some r) (h0:(sll q.fRels).length≤1048576) (h2:wSl zI q.fOut) (h3:wSl Qr q.fAggs) {a:Option (List zk)} (ha:wSl QA a) {n:Nat} (hn:3048720≤n):∃ r,acW n q a=some r:=by
  obtain ⟨n,rfl⟩:∃ j,n=j+1:=⟨n - 1,by omega⟩
  unfold acW
  rw [zt]
  refine aae (alm h1 h0 h2 h3 500 (by omega)) fun b=>?_
  refine qt (fun _=>⟨_,rfl⟩) fun _=>?_
  rw [zD]
  refine abJ (F:=fun k (_:Unit) i=>QH n a _ k i) (l:=sll a) (fun _ _=>True) ha.1 (by omega) () trivial (fun k i _ z hi hz _=>?_) fun k _ _=>?_
  · rw [QH,dT (by omega),cond_true,Z8 hi hz,Option.bind_some]
    generalize ((decide (((sll z.fCols).length:Int) > 40)) || (decide ((z.fName.size:Int) > 100)))=b
    cases b with
    | true=>exact .inl ⟨_,rfl⟩
    | false=>exact .inr ⟨(),trivial,rfl⟩
  · rw [QH,dF (by omega),cond_false]
    exact ⟨_,rfl⟩
theorem alS {a:List EX} (ha:∀ z,z∈a→zI z) (hl:a.length≤1048600) (n:Nat) (hn:3048700≤n) (most:Int):∃ r,aaa n (some a) most=some r:=
  akw 1048576 n n (some a) most (fun z hz=>⟨W_un (ha z hz),(W_un (ha z hz)).2⟩) hl (by omega) (by omega)
theorem ai2 {n:Nat} {p:zl} {q:zx} {a:Option (List zk)} {r:Option (List Int)} (hr:qH n q a=some (r,0)) {s:Nat} (hp:WD s p) (hn:2000500≤n) {b:Bool} (hb:aa0 p=true→Qj n p q=some b):
    qq (n+1) p q a=some (if (aa0 p && b)=true then 0 else 22):=by
  unfold qq
  rw [zt,show qH n ⟨q.fRels,q.fWhere,q.fGrouped,q.fOut,q.fAggs,q.fOrder⟩ a=some (r,0) from hr,Option.bind_some]
  rw [show (((r,(0:Int)):Option (List Int) × Int).2 != 0)=false from rfl,cond_false,show aan n ⟨p.fKind,p.fRel,p.fWhere,p.fLeft,p.fRight,p.fOut,p.fAggs,p.fOrder,p.fKids⟩=some (aa0 p) from adw hp hn,Option.bind_some]
  cases hf:aa0 p with
  | false=>rfl
  | true=>
    rw [Bool.not_true,cond_false,show Qj n ⟨p.fKind,p.fRel,p.fWhere,p.fLeft,p.fRight,p.fOut,p.fAggs,p.fOrder,p.fKids⟩ ⟨q.fRels,q.fWhere,q.fGrouped,q.fOut,q.fAggs,q.fOrder⟩=some b from hb hf,Option.bind_some]
    cases b <;> rfl
theorem ahD {n:Nat} {p:zl} {q:zx} (hq:abm q) {a:Option (List zk)} (ha:wSl QA a) {s:Nat} (hp:WD s p) (hs:s≤131072) (hsz:szP p≤1048576) (hn:3049300≤n):∃ e,qq (n+1) p q a=some e:=by
  obtain ⟨⟨r,e⟩,hr,_⟩:=an5 hq ha (n:=n) (by omega)
  unfold qq
  rw [zt,show qH n ⟨q.fRels,q.fWhere,q.fGrouped,q.fOut,q.fAggs,q.fOrder⟩ a=some (r,e) from hr,Option.bind_some]
  refine qt (fun _=>⟨_,rfl⟩) fun _=>?_
  rw [show aan n ⟨p.fKind,p.fRel,p.fWhere,p.fLeft,p.fRight,p.fOut,p.fAggs,p.fOrder,p.fKids⟩=some (aa0 p) from adw hp (by omega),Option.bind_some]
  refine qt (fun _=>⟨_,rfl⟩) fun hf=>?_
  have hf':aa0 p=true:=by simpa using hf
  obtain ⟨A,o,h1,h2,h3⟩:=af4 hp hs hf' hsz hq.1.1 q.fGrouped (akk hq.2.2.2.1) (aon hq.2.2.2.2.1) q.fOrder (n:=n) (by omega)
  have:=h3 q.fWhere (ahP hq.2.1) (by have:=hq.2.1.1; omega)
  rw [show Qj n ⟨p.fKind,p.fRel,p.fWhere,p.fLeft,p.fRight,p.fOut,p.fAggs,p.fOrder,p.fKids⟩ ⟨q.fRels,q.fWhere,q.fGrouped,q.fOut,q.fAggs,q.fOrder⟩=_ from this,Option.bind_some]
  exact qt (fun _=>⟨_,rfl⟩) fun _=>⟨_,rfl⟩
theorem agA {n:Nat} {p:zl} {q:zx} {a:Option (List zk)} {s:Nat} (hp:WD s p) (hn:2000500≤n) (h:qq (n+1) p q a=some 0):(∃ r,qH n q a=some (r,0))∧aa0 p=true∧Qj n p q=some true:=by
  unfold qq at h
  rw [zt] at h
  obtain ⟨⟨r,e⟩,hr,h⟩:=Option.bind_eq_some_iff.1 h
  cases he:(e != 0) with
  | true=>
    simp only [he,cond_true,Option.some.injEq] at h
    rw [h] at he; cases he
  | false=>
  have he':e=0:=by simpa using he
  subst he'
  simp only [he,cond_false] at h
  rw [show aan n p=some (aa0 p) from adw hp hn,Option.bind_some] at h
  cases hf:aa0 p with
  | false=>
    rw [hf] at h
    have h':some (22:Int)=some 0:=h
    exact absurd h' (by decide)
  | true=>
    rw [hf,Bool.not_true,cond_false] at h
    obtain ⟨b,hb,h⟩:=Option.bind_eq_some_iff.1 h
    cases b with
    | false=>
      have h':some (22:Int)=some 0:=h
      exact absurd h' (by decide)
    | true=>exact ⟨⟨r,hr⟩,rfl,hb⟩
theorem apD {α:Type} (l k:List α):l.isEmpty=true→l++k=k:=fun h=>by rw [aeu.1 h]; rfl
theorem ajc {n:Nat} (hn:3900000≤n) (hwk:ac4 n=some true) {a0:zl} {a1:zx} {a2:Option (List zk)} {a3:zh} {a4:Int} (h0:abh a0) (h1:abm a1) (h2:wSl QA a2) (h3:Zx a3):aah (n+1) a0 a1 a2 a3 a4=some true:=by
  have d0:=W_WD h0
  have hsz:szP a0≤1048576:=h0.2
  have hwl:=h1.2.1.1
  have hzW:zI (zi a3):=h3
  unfold aah
  rw [zt,hwk,Option.bind_some,Bool.not_true,cond_false]
  have enter:∀ (K:List zd→Option Bool),zD (fun (k5:List zd→Option Bool)=>bif (sll a1.fWhere).isEmpty then (ckA 88 ([]:List zd).length).bind fun _=>(ckA 88 (([]:List zd)++([zi a3]:List zd)).length).bind fun _=>k5 (([]:List zd)++([zi a3]:List zd)) else (ckA 88 (([]:List zd)++(sll a1.fWhere)).length).bind fun _=>(ckA 88 ((([]:List zd)++(sll a1.fWhere))++([zi a3]:List zd)).length).bind fun _=>k5 ((([]:List zd)++(sll a1.fWhere))++([zi a3]:List zd))) K=K (sll a1.fWhere++[zi a3]):=fun K=>by
    simp only [zD]
    cases he:(sll a1.fWhere).isEmpty with
    | true=>rw [cond_true,Qw (by simp) (by decide),Option.bind_some,Qw (by simp) (by decide),Option.bind_some,apD _ _ he]; rfl
    | false=>rw [cond_false,Qw (by simp; omega) (by decide),Option.bind_some,Qw (by simp; omega) (by decide),Option.bind_some]; rfl
  refine Eq.trans (enter _) ?_
  obtain ⟨b0,g0⟩:=alW d0 (n:=n) (by omega)
  rw [g0,Option.bind_some]
  cases b0 with
  | true=>rfl
  | false=>
  rw [cond_false]
  obtain ⟨b1,g1⟩:=akP (q:=⟨a1.fRels,some (sll a1.fWhere++[zi a3]),a1.fGrouped,a1.fOut,a1.fAggs,a1.fOrder⟩) (fun n hn most=>alS (fun z hz=>by
    rcases List.mem_append.1 hz with hz | hz
    · exact h1.2.1.2 z hz
    · rw [List.mem_singleton] at hz; subst hz; exact hzW) (by simp; omega) n hn most) h1.1.1 h1.2.2.2.1 h1.2.2.2.2.1 h2 (n:=n) (by omega)
  rw [g1,Option.bind_some]
  cases b1 with
  | true=>rfl
  | false=>
  rw [cond_false]
  obtain ⟨k,rfl⟩:∃ j,n=j+1:=⟨n - 1,by omega⟩
  obtain ⟨e,he⟩:=ahD h1 h2 d0 (by omega) hsz (n:=k) (by omega)
  rw [he,Option.bind_some]
  by_cases h00:e=0
  · subst h00
    rw [show ((0:Int) != 0)=false from rfl,cond_false]
    obtain ⟨⟨r,hr⟩,hf,hb⟩:=agA d0 (by omega) he
    obtain ⟨A,o,o1,o2,o3⟩:=af4 d0 (by omega) hf hsz h1.1.1 a1.fGrouped (akk h1.2.2.2.1) (aon h1.2.2.2.2.1) a1.fOrder (n:=k) (by omega)
    have hb':=o3 a1.fWhere (ahP h1.2.1) (by omega)
    rw [show Qj k a0 ⟨a1.fRels,a1.fWhere,a1.fGrouped,a1.fOut,a1.fAggs,a1.fOrder⟩=some true from hb] at hb'
    simp only [Option.some.injEq] at hb'
    have hA:A=true∧QT o (sll a1.fWhere)=true:=by
      have:=hb'.symm
      rw [Bool.and_eq_true] at this
      exact this
    have sub:=fun (w':Option (List EX))=>aj3 (w':=w') (by omega) h1.2.1 (show qH k ⟨a1.fRels,a1.fWhere,a1.fGrouped,a1.fOut,a1.fAggs,a1.fOrder⟩ a2=some (r,0) from hr)
    have hq40:=(sub none).1
    have hPw:AllP (sll a1.fWhere):=fun z hz=>⟨agR (by omega) (ahP h1.2.1 z hz),ahm ((sub none).2.1 z hz)⟩
    obtain ⟨c1,c2⟩:=adk o (sll a1.fWhere) o1 hPw hA.2
    -- with one condition more
    have hmore:∃ e,qq (k+1) a0 ⟨a1.fRels,some (sll a1.fWhere++[zi a3]),a1.fGrouped,a1.fOut,a1.fAggs,a1.fOrder⟩ a2=some e∧e≠0:=by
      have hx:abm ⟨a1.fRels,some (sll a1.fWhere++[zi a3]),a1.fGrouped,a1.fOut,a1.fAggs,a1.fOrder⟩:=⟨h1.1,⟨(by show (sll a1.fWhere++[zi a3]).length≤_; rw [List.length_append,List.length_singleton]; omega),fun z hz=>by
        rcases List.mem_append.1 hz with hz | hz
        · exact h1.2.1.2 z hz
        · rw [List.mem_singleton] at hz; subst hz; exact hzW⟩,h1.2.2⟩
      obtain ⟨e,he2⟩:=ahD hx h2 d0 (by omega) hsz (n:=k) (by omega)
      refine ⟨e,he2,fun h=>?_⟩
      subst h
      obtain ⟨⟨r2,hr2⟩,_,hb2⟩:=agA d0 (by omega) he2
      have hb3:=o3 (some (sll a1.fWhere++[zi a3])) (ahP hx.2.1) (by show (sll a1.fWhere++[zi a3]).length≤_; rw [List.length_append,List.length_singleton]; omega)
      rw [hb2] at hb3
      simp only [Option.some.injEq] at hb3
      have hg:QT o (sll a1.fWhere++[zi a3])=true:=by
        have:=hb3.symm
        rw [Bool.and_eq_true] at this
        exact this.2
      have hPx:AllP (sll a1.fWhere++[zi a3]):=fun z hz=>⟨agR (by omega) (ahP hx.2.1 z hz),ahm ((aj3 (w':=none) (by omega) hx.2.1 hr2).2.1 z hz)⟩
      have:=(adk o _ o1 hPx hg).1
      rw [List.length_append,List.length_singleton] at this
      omega
    obtain ⟨e2,he2,hne⟩:=hmore
    rw [he2,Option.bind_some,show (e2 == 0)=false by simpa using hne,cond_false]
    -- the conditions turned
    have hu:IntKind.wrap .i64 (((sll a1.fWhere).length:Int)+1)=(((sll a1.fWhere).length+1:Nat):Int):=acv (by omega)
    rw [hu]
    rw [show IntKind.wrap .u64 (((sll a1.fWhere).length+1:Nat):Int)=(((sll a1.fWhere).length+1:Nat):Int) from alz (by omega) (by omega)]
    have hck:ckZ (((sll a1.fWhere).length+1:Nat):Int)=some ():=by unfold ckZ; rw [if_neg (by omega)]
    rw [hck,Option.bind_some]
    obtain ⟨kk,hkk,hkl⟩:∃ kk:Nat,IntKind.wrap .i64 (Int.tmod (IntKind.wrap .u64 a4) (((sll a1.fWhere).length+1:Nat):Int))=(kk:Int)∧kk≤(sll a1.fWhere).length:=by
      have hw0:0≤IntKind.wrap .u64 a4:=by simp [IntKind.wrap,IntKind.signed,IntKind.bits]; omega
      have t0:=Int.tmod_nonneg (((sll a1.fWhere).length+1:Nat):Int) hw0
      have t1:=Int.tmod_lt_of_pos (IntKind.wrap .u64 a4) (show (0:Int) < (((sll a1.fWhere).length+1:Nat):Int) by omega)
      refine ⟨(Int.tmod (IntKind.wrap .u64 a4) (((sll a1.fWhere).length+1:Nat):Int)).toNat,?_,by omega⟩
      rw [aeT (by omega) (by omega)]; omega
    rw [hkk]
    have s1:sll (qw a1.fWhere (kk:Int) ((sll a1.fWhere).length:Int))=(sll a1.fWhere).drop kk:=by
      unfold qw
      cases a1.fWhere with
      | none=>simp [sll]
      | some l=>
        show (l.drop (Int.toNat (kk:Int))).take (Int.toNat (l.length:Int) - Int.toNat (kk:Int))=l.drop kk
        rw [Int.toNat_natCast,Int.toNat_natCast,List.take_of_length_le (by rw [List.length_drop]; omega)]
    have s2:sll (qw a1.fWhere 0 (kk:Int))=(sll a1.fWhere).take kk:=by
      unfold qw
      cases a1.fWhere with
      | none=>simp [sll]
      | some l=>show subL l _ _=_; unfold subL; simp [sll]
    have hdl:((sll a1.fWhere).drop kk).length+((sll a1.fWhere).take kk).length=(sll a1.fWhere).length:=by rw [List.length_drop,List.length_take]; omega
    have turn:∀ K:List zd→Option Bool,zD (fun (k22:List zd→Option Bool)=>(ckB (kk:Int) ((sll a1.fWhere).length:Int) ((sll a1.fWhere).length:Int)).bind fun _=>bif (sll (qw a1.fWhere (kk:Int) ((sll a1.fWhere).length:Int))).isEmpty then (ckA 88 ([]:List zd).length).bind fun _=>(ckB 0 (kk:Int) ((sll a1.fWhere).length:Int)).bind fun _=>bif (sll (qw a1.fWhere 0 (kk:Int))).isEmpty then (ckA 88 ([]:List zd).length).bind fun _=>k22 ([]:List zd) else (ckA 88 (([]:List zd)++(sll (qw a1.fWhere 0 (kk:Int)))).length).bind fun _=>k22 (([]:List zd)++(sll (qw a1.fWhere 0 (kk:Int)))) else (ckA 88 (([]:List zd)++(sll (qw a1.fWhere (kk:Int) ((sll a1.fWhere).length:Int)))).length).bind fun _=>(ckB 0 (kk:Int) ((sll a1.fWhere).length:Int)).bind fun _=>bif (sll (qw a1.fWhere 0 (kk:Int))).isEmpty then (ckA 88 (([]:List zd)++(sll (qw a1.fWhere (kk:Int) ((sll a1.fWhere).length:Int)))).length).bind fun _=>k22 (([]:List zd)++(sll (qw a1.fWhere (kk:Int) ((sll a1.fWhere).length:Int)))) else (ckA 88 ((([]:List zd)++(sll (qw a1.fWhere (kk:Int) ((sll a1.fWhere).length:Int))))++(sll (qw a1.fWhere 0 (kk:Int)))).length).bind fun _=>k22 ((([]:List zd)++(sll (qw a1.fWhere (kk:Int) ((sll a1.fWhere).length:Int))))++(sll (qw a1.fWhere 0 (kk:Int))))) K=K ((sll a1.fWhere).drop kk++(sll a1.fWhere).take kk):=fun K=>by
      simp only [zD]
      rw [s1,s2,adb (by omega),Option.bind_some,adb (a:=0) (by omega)]
      simp only [Option.bind_some,List.nil_append]
      generalize (sll a1.fWhere).drop kk=u at hdl ⊢
      generalize (sll a1.fWhere).take kk=v at hdl ⊢
      cases hu:u.isEmpty with
      | true=>
        rw [cond_true,Qw (by simp) (by decide),Option.bind_some,aeu.1 hu]
        cases hv:v.isEmpty with
        | true=>rw [cond_true,Option.bind_some,aeu.1 hv]; rfl
        | false=>rw [cond_false,Qw (by omega) (by decide),Option.bind_some]; rfl
      | false=>
        rw [cond_false,Qw (by omega) (by decide),Option.bind_some]
        cases hv:v.isEmpty with
        | true=>first | (rw [cond_true,Qw (by omega) (by decide),Option.bind_some,aeu.1 hv,List.append_nil]) | (rw [cond_true,Option.bind_some,aeu.1 hv,List.append_nil])
        | false=>rw [cond_false,Qw (by rw [List.length_append]; omega) (by decide),Option.bind_some]
    refine Eq.trans (turn _) ?_
    generalize hy:(sll a1.fWhere).drop kk++(sll a1.fWhere).take kk=y
    have hyl:y.length=(sll a1.fWhere).length:=by rw [← hy,List.length_append]; omega
    have hym:∀ z,z∈y→z∈sll a1.fWhere:=fun z hz=>by
      rw [← hy] at hz
      rcases List.mem_append.1 hz with hz | hz
      · exact List.mem_of_mem_drop hz
      · exact List.mem_of_mem_take hz
    have hyc:∀ p:EX→Bool,y.countP p=(sll a1.fWhere).countP p:=fun p=>by
      rw [← hy,List.countP_append,Nat.add_comm,← List.countP_append,List.take_append_drop]
    have gy:QT o y=true:=ake o y o1 (fun z hz=>hPw z (hym z hz)) (by omega) (fun t ht=>by rw [c2 t ht,hyc])
    have ry:=(sub (some y)).2.2 (by rw [qA]; omega) hym
    have ay:=ai2 ry d0 (by omega) (b:=true) (fun _=>by
      rw [o3 (some y) (fun z hz=>ahP h1.2.1 z (hym z hz)) (by rw [qA]; omega),hA.1,qA,gy]; rfl)
    rw [hf] at ay
    rw [ay]
    simp only [Bool.and_self,if_true,Option.bind_some]
    rw [show ((0:Int) != 0)=false from rfl,cond_false]
    cases hpos:decide ((y.length:Int) > 0) with
    | false=>rfl
    | true=>
      simp only [decide_eq_true_eq] at hpos
      rw [cond_true,adb (by omega),Option.bind_some]
      have hs:subL y 1 (y.length:Int)=y.drop 1:=by
        show (y.drop 1).take (Int.toNat (y.length:Int) - 1)=y.drop 1
        rw [Int.toNat_natCast,List.take_of_length_le (by rw [List.length_drop]; omega)]
      rw [hs]
      have hm1:∀ z,z∈y.drop 1→z∈sll a1.fWhere:=fun z hz=>hym z (List.mem_of_mem_drop hz)
      have rz:=(sub (some (y.drop 1))).2.2 (by rw [qA,List.length_drop]; omega) hm1
      have gz:QT o (y.drop 1)=false:=by
        cases hg:QT o (y.drop 1) with
        | false=>rfl
        | true=>
          have:=(adk o _ o1 (fun z hz=>hPw z (hm1 z hz)) hg).1
          rw [List.length_drop] at this
          omega
      have az:=ai2 rz d0 (by omega) (b:=false) (fun _=>by
        rw [o3 (some (y.drop 1)) (fun z hz=>ahP h1.2.1 z (hm1 z hz)) (by rw [qA,List.length_drop]; omega),hA.1,qA,gz]; rfl)
      rw [az]
      simp
  · rw [show (e != 0)=true by simpa using h00,cond_true]
theorem al8:ac4 3999999=some true:=rfl
theorem ah3 {n:Nat} (h:n=4000000) {a0:zl} {a1:zx} {a2:Option (List zk)} {a3:zh} {a4:Int} (h0:abh a0) (h1:abm a1) (h2:wSl QA a2) (h3:Zx a3) (h4:wI .i64 a4):aah n a0 a1 a2 a3 a4=some true:=by
  subst h
  exact ajc (n:=3999999) (by decide) al8 h0 h1 h2 h3
end Go.Pl
