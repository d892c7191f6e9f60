import Derived.Test.YtejbcaheoloahaaGreatAbWP
set_option linter.unusedVariables false
set_option linter.unusedSimpArgs false
namespace Go.Ab
open Go
abbrev aI (x:Int):AV:=.pv (.int .i64 x)
abbrev aU (x:Int):AV:=.pv (.int .u64 x)
abbrev aY (x:Int):AV:=.pv (.int .u8 x)
abbrev aB (x:Bool):AV:=.pv (.bool x)
abbrev aF (x:Nat):AV:=.pv (.flt .f64 x)
abbrev aS (x:ByteArray):AV:=.pv (.str x)
def anys (m:Nat):List AV:=List.replicate m .any
def mk (m:Nat) (ov:List (Nat × AV)):List AV:=ap (anys m) ov
def lkA:List (Nat × AV)→Nat→AV
  | [],_=>.any
  | (j,v) :: r,i=>match Nat.beq i j with
    | true=>v
    | false=>lkA r i
theorem adw (m:Nat) (ov):(mk m ov).length=m:=by
  unfold mk; rw [adm]; simp [anys]
theorem ail (m:Nat):∀ (ov:List (Nat × AV)) (i:Nat),i < m→(mk m ov)[i]?=some (lkA ov i)
  | [],i,h=>by
    show (anys m)[i]?=some .any
    unfold anys
    rw [List.getElem?_replicate,if_pos h]
  | (j,v) :: r,i,h=>by
    have ih:=ail m r i h
    show ((mk m r).set j v)[i]?=_
    simp only [lkA]
    rcases ag4 i j with ⟨e,rfl⟩ | ⟨e,hne⟩
    · rw [e,List.getElem?_set_self (by rw [adw]; exact h)]
    · rw [e,List.getElem?_set_ne (fun h=>hne h.symm),ih]
theorem apK (m:Nat) (ov:List (Nat × AV)) (i:Nat) (h:¬ i < m):(mk m ov)[i]?=none:=List.getElem?_eq_none (by rw [adw]; omega)
def aal (m:Nat) (ov:List (Nat × AV)):Operand→AV
  | .tmp t=>match Nat.blt t m with
    | true=>lkA ov t
    | false=>.undef
  | .const v=>ofConst v
  | .func f=>.pv (.fn f [] [])
  | .global _=>.any
theorem aii {a b:Nat}:Nat.blt a b=true↔a < b:=by
  constructor
  · intro h; exact ap8 h
  · intro h; simp [Nat.blt]; omega
theorem agd (m:Nat) (ov):qc (mk m ov)=aal m ov:=by
  funext x
  cases x with
  | tmp i=>
    simp only [aal,qc]
    by_cases h:i < m
    · rw [ail m ov i h,aii.2 h]; rfl
    · rw [apK m ov i h]
      have:Nat.blt i m=false:=by
        cases hb:Nat.blt i m with
        | false=>rfl
        | true=>exact absurd (aii.1 hb) h
      rw [this]; rfl
  | _=>rfl
def abe (ops:Array Oper) (m:Nat) (ov:List (Nat × AV)) (o:Oper):Option Bool:=
  match o.guard with
  | none=>some true
  | some (j,want)=>
    match (ops[j]?).bind (·.dst) with
    | none=>some false
    | some d=>match Nat.blt d m with
      | true=>match lkA ov d with
        | .pv (.bool b)=>some (b == want)
        | .undef=>some false
        | _=>none
      | false=>none
theorem af2 {ops:Array Oper} {m:Nat} {ov} {o:Oper} {b:Bool} (h:abe ops m ov o=some b):aaH ops (mk m ov) o=some b:=by
  unfold abe at h
  unfold aaH
  cases hg:o.guard with
  | none=>rw [hg] at h; exact h
  | some jw=>
    obtain ⟨j,want⟩:=jw
    rw [hg] at h
    simp only at h ⊢
    cases hd:(ops[j]?).bind (·.dst) with
    | none=>rw [hd] at h; exact h
    | some d=>
      rw [hd] at h
      simp only at h ⊢
      cases hb:Nat.blt d m with
      | false=>rw [hb] at h; cases h
      | true=>
        rw [hb] at h
        simp only at h
        rw [ail m ov d (aii.1 hb)]
        cases hv:lkA ov d <;> rw [hv] at h <;> first | exact h | (cases h; done) | skip
        all_goals (rename_i p; cases p <;> first | exact h | cases h)
def Qb (ks:List Nat) (ov:List (Nat × AV)):Nat→Nat→List AV
  | 0,_=>[]
  | k+1,i=>(match hasN ks i with
    | true=>.any
    | false=>lkA ov i) :: Qb ks ov k (i+1)
theorem agD (ks ov):∀ k i,(Qb ks ov k i).length=k
  | 0,_=>rfl
  | k+1,i=>by simp [Qb,agD ks ov k]
theorem aj4 (ks ov):∀ (k i j:Nat),j < k→(Qb ks ov k i)[j]?=some (match hasN ks (i+j) with
    | true=>.any
    | false=>lkA ov (i+j))
  | 0,_,_,h=>by omega
  | k+1,i,0,h=>rfl
  | k+1,i,j+1,h=>by
    show (Qb ks ov k (i+1))[j]?=_
    rw [aj4 ks ov k (i+1) j (by omega),show i+1+j=i+(j+1) by omega]
theorem agU (ks:List Nat) (m:Nat) (ov):qS (mk m ov) ks=Qb ks ov m 0:=by
  apply List.ext_getElem?
  intro j
  by_cases hj:j < m
  · rw [aj4 ks ov m 0 j hj,aej ks _ j (by rw [adw]; exact hj),ail m ov j hj,Nat.zero_add]
    cases hasN ks j <;> rfl
  · rw [List.getElem?_eq_none (by rw [acC,adw]; omega),List.getElem?_eq_none (by rw [agD]; omega)]
theorem akZ {ks:List Nat} {m:Nat} {ov ov':List (Nat × AV)} (h:Qb ks ov m 0=Qb [] ov' m 0):qS (mk m ov) ks=mk m ov':=by
  rw [agU,h,← agU]; rfl
theorem zT {m:Nat} {ov ov':List (Nat × AV)} (h:Qb [] ov m 0=Qb [] ov' m 0):mk m ov=mk m ov':=akZ (ks:=[]) h
def noC:ZH:=fun _ _ _=>none
def putL (dst:Option Nat) (v:AV) (ov:List (Nat × AV)):List (Nat × AV):=
  match dst with
  | some d=>(d,v) :: ov
  | none=>ov
theorem am8 (m:Nat) (dst:Option Nat) (v:AV) (ov):putA (mk m ov) dst v=mk m (putL dst v ov):=by
  cases dst <;> rfl
def sn1 (sn:Option (List Seen)) (s:Seen):Option (List Seen):=sn.map (s :: ·)
def al2 (G:Cfg) (m:Nat) (ops:Array Oper) (i:Nat) (ov:List (Nat × AV)) (H:List Blk):Option (List (Nat × AV) × List Blk):=
  match ops[i]? with
  | none=>none
  | some o=>
    match abe ops m ov o with
    | none=>none
    | some false=>some (putL o.dst .undef ov,H)
    | some true=>
      match aOp G noC (aal m ov) o (zp H) H.length with
      | some (.ok e)=>match abt H e && ab3 H (foot (aal m ov) o (zp H)) with
        | true=>some (putL o.dst e.val ov,qy H e)
        | false=>none
      | _=>none
def ait (G:Cfg) (m:Nat) (ops:Array Oper) (i:Nat) (ov:List (Nat × AV)) (H:List Blk) (l:List Seen):List Seen:=
  match ops[i]? with
  | none=>l
  | some o=>
    match abe ops m ov o with
    | some true=>
      match aOp G noC (aal m ov) o (zp H) H.length with
      | some (.ok e)=>⟨i,foot (aal m ov) o (zp H),e.upd.map (·.1)++List.range' H.length e.new.length⟩ :: l
      | _=>l
    | _=>l
theorem anJ {G:Cfg} {C:ZH} {f:AV} {as:List AV} {look:Look} {nid:Nat} {r:Res} (h:ajk G noC f as look nid=some r):ajk G C f as look nid=some r:=by
  unfold ajk at h ⊢
  split at h
  · cases h
  rename_i f' as' hc
  split at h
  · cases h
  rename_i fn hfn
  split at h
  · cases h
  rename_i hn
  simp only [hn]
  split at h
  · rename_i hb
    simp only [hb]
    exact h
  · exfalso
    split at h
    · unfold QC noC at h
      simp only at h
      cases h1:AV.renL (placeOf (reach look Zl (AV.idsL as') [])) as' with
      | none=>rw [h1] at h; cases h
      | some a1=>
        rw [h1,Option.bind_some] at h
        cases h2:getAll look (reach look Zl (AV.idsL as') []) with
        | none=>rw [h2] at h; cases h
        | some a2=>
          rw [h2,Option.bind_some] at h
          cases h3:qQ (placeOf (reach look Zl (AV.idsL as') [])) a2 with
          | none=>rw [h3] at h; cases h
          | some a3=>rw [h3,Option.bind_some] at h; cases h
    · unfold qz noC at h
      simp only at h
      cases h1:aa6 (fun i=>if (reach look Zl (AV.idsL as') []).contains i then look i else none) as' with
      | none=>rw [h1] at h; cases h
      | some a1=>rw [h1,Option.bind_some] at h; cases h
theorem ao6 {G:Cfg} {C:ZH} {ρ:Operand→AV} {o:Oper} {look:Look} {nid:Nat} {r:Res} (h:aOp G noC ρ o look nid=some r):aOp G C ρ o look nid=some r:=by
  obtain ⟨dst,op,ty,line,af,gd⟩:=o
  cases op with
  | call c=>
    obtain ⟨cal,args,ats⟩:=c
    cases cal with
    | value f=>exact anJ h
    | _=>exact h
  | makeFunc f a b=>cases f <;> exact h
  | makeMap t r=>cases r <;> exact h
  | slice a b c d e=>cases e <;> exact h
  | _=>exact h
def RV (G:Cfg) (C:ZH) (m:Nat) (ops:Array Oper) (i:Nat) (ov:List (Nat × AV)) (H:List Blk) (sn:Option (List Seen)) (Q:Ex→List AV→List Blk→List Seen→Prop):Prop:=
  ∀ seen,(∀ l,sn=some l→seen=l)→∃ ex t H' s,aav G C ops i (ops.toList.drop i) seen ⟨mk m ov,H⟩=some (ex,⟨t,H'⟩,s)∧Q ex t H' s
section steps
variable {G:Cfg} {C:ZH} {m:Nat} {ops:Array Oper} {i:Nat} {ov ov':List (Nat × AV)} {H H':List Blk} {sn:Option (List Seen)} {Q:Ex→List AV→List Blk→List Seen→Prop}
theorem aiE {o:Oper} (h:ops[i]?=some o):ops.toList.drop i=o :: ops.toList.drop (i+1):=by
  have h1:ops.toList[i]?=some o:=by rw [Array.getElem?_toList]; exact h
  obtain ⟨hi,e⟩:=List.getElem?_eq_some_iff.1 h1
  rw [List.drop_eq_getElem_cons hi,e]
theorem ap6 {o:Oper} (ho:ops[i]?=some o) (hw:abe ops m ov o=some false) (h:RV G C m ops (i+1) (putL o.dst .undef ov) H sn Q):RV G C m ops i ov H sn Q:=by
  intro seen hs
  obtain ⟨ex,t,H',s,e,q⟩:=h seen hs
  refine ⟨ex,t,H',s,?_,q⟩
  rw [aiE ho]
  simp only [aav,af2 hw,am8]
  exact e
theorem aov {o:Oper} {e:Eff} (ho:ops[i]?=some o) (hw:abe ops m ov o=some true) (ha:aOp G C (aal m ov) o (zp H) H.length=some (.ok e)) (hu:(abt H e && ab3 H (foot (aal m ov) o (zp H)))=true)
    (h:RV G C m ops (i+1) (putL o.dst e.val ov) (qy H e) (sn1 sn ⟨i,foot (aal m ov) o (zp H),e.upd.map (·.1)++List.range' H.length e.new.length⟩) Q):RV G C m ops i ov H sn Q:=by
  intro seen hs
  obtain ⟨ex,t,H',s,e',q⟩:=h (⟨i,foot (aal m ov) o (zp H),e.upd.map (·.1)++List.range' H.length e.new.length⟩ :: seen) (by
    intro l hl
    cases sn with
    | none=>cases hl
    | some l0=>rw [hs l0 rfl]; simp only [sn1,Option.map_some,Option.some.injEq] at hl; exact hl)
  refine ⟨ex,t,H',s,?_,q⟩
  rw [aiE ho]
  simp only [aav,af2 hw,agd,ha,hu,if_true,am8]
  exact e'
theorem apl (hs:al2 G m ops i ov H=some (ov',H')) (h:RV G C m ops (i+1) ov' H' (sn.map (ait G m ops i ov H)) Q):RV G C m ops i ov H sn Q:=by
  unfold al2 at hs
  cases ho:ops[i]? with
  | none=>rw [ho] at hs; cases hs
  | some o=>
    rw [ho] at hs
    simp only at hs
    cases hw:abe ops m ov o with
    | none=>rw [hw] at hs; cases hs
    | some b=>
      rw [hw] at hs
      cases b with
      | false=>
        simp only [Option.some.injEq,Prod.mk.injEq] at hs
        obtain ⟨rfl,rfl⟩:=hs
        refine ap6 ho hw ?_
        have:sn.map (ait G m ops i ov H)=sn:=by
          cases sn with
          | none=>rfl
          | some l=>simp only [Option.map_some,ait,ho,hw]
        rw [this] at h
        exact h
      | true=>
        simp only at hs
        cases ha:aOp G noC (aal m ov) o (zp H) H.length with
        | none=>rw [ha] at hs; cases hs
        | some r=>
          rw [ha] at hs
          cases r with
          | pan e=>cases hs
          | ok e=>
            simp only at hs
            cases hu:abt H e && ab3 H (foot (aal m ov) o (zp H)) with
            | false=>rw [hu] at hs; cases hs
            | true=>
              rw [hu] at hs
              simp only [Option.some.injEq,Prod.mk.injEq] at hs
              obtain ⟨rfl,rfl⟩:=hs
              refine aov ho hw (ao6 ha) hu ?_
              have:sn.map (ait G m ops i ov H)=sn1 sn ⟨i,foot (aal m ov) o (zp H),e.upd.map (·.1)++List.range' H.length e.new.length⟩:=by
                cases sn with
                | none=>rfl
                | some l=>simp only [Option.map_some,ait,ho,hw,ha,sn1]
              rw [this] at h
              exact h
def abg (G:Cfg) (m:Nat) (ops:Array Oper):Nat→Nat→List (Nat × AV)→List Blk→Option (List (Nat × AV) × List Blk)
  | 0,_,ov,H=>some (ov,H)
  | k+1,i,ov,H=>match al2 G m ops i ov H with
    | some (ov',H')=>abg G m ops k (i+1) ov' H'
    | none=>none
def aeN (G:Cfg) (m:Nat) (ops:Array Oper):Nat→Nat→List (Nat × AV)→List Blk→List Seen→List Seen
  | 0,_,_,_,l=>l
  | k+1,i,ov,H,l=>match al2 G m ops i ov H with
    | some (ov',H')=>aeN G m ops k (i+1) ov' H' (ait G m ops i ov H l)
    | none=>l
theorem acA (k:Nat):∀ {i:Nat} {ov:List (Nat × AV)} {H:List Blk} {sn:Option (List Seen)},abg G m ops k i ov H=some (ov',H')→RV G C m ops (i+k) ov' H' (sn.map (aeN G m ops k i ov H)) Q→RV G C m ops i ov H sn Q:=by
  induction k with
  | zero=>
    intro i ov H sn hs h
    simp only [abg,Option.some.injEq,Prod.mk.injEq] at hs
    obtain ⟨rfl,rfl⟩:=hs
    have:sn.map (aeN G m ops 0 i ov H)=sn:=by cases sn <;> rfl
    rw [this] at h
    exact h
  | succ k ih=>
    intro i ov H sn hs h
    simp only [abg] at hs
    cases h1:al2 G m ops i ov H with
    | none=>rw [h1] at hs; cases hs
    | some p=>
      obtain ⟨ov1,H1⟩:=p
      rw [h1] at hs
      refine apl h1 (ih hs ?_)
      have e:(sn.map (ait G m ops i ov H)).map (aeN G m ops k (i+1) ov1 H1)=sn.map (aeN G m ops (k+1) i ov H):=by
        cases sn with
        | none=>rfl
        | some l=>simp only [Option.map_some,aeN,h1]
      rw [e,show i+1+k=i+(k+1) by omega]
      exact h
theorem st (k:Nat) (nw:List (Nat × AV)) (H':List Blk) (hs:abg G m ops k i ov H=some (nw++ov,H')) (h:RV G C m ops (i+k) (nw++ov) H' none Q):RV G C m ops i ov H none Q:=acA k hs h
theorem std (k:Nat) (nw:List (Nat × AV)) (H':List Blk) {l:List Seen} (hs:abg G m ops k i ov H=some (nw++ov,H')) (h:RV G C m ops (i+k) (nw++ov) H' (some (aeN G m ops k i ov H l)) Q):RV G C m ops i ov H (some l) Q:=acA k hs h
theorem shd (k:Nat) (nw:List (Nat × AV)) {l:List Seen} (hs:abg G m ops k i ov H=some (nw++ov,H)) (h:RV G C m ops (i+k) (nw++ov) H (some (aeN G m ops k i ov H l)) Q):RV G C m ops i ov H (some l) Q:=acA k hs h
def opL (G:Cfg) (C:ZH) (m:Nat) (ops:Array Oper) (i:Nat) (ov:List (Nat × AV)) (H:List Blk):Option Res:=
  match ops[i]? with
  | some o=>aOp G C (aal m ov) o (zp H) H.length
  | none=>none
def ai3 (m:Nat) (ops:Array Oper) (i:Nat) (ov:List (Nat × AV)) (H:List Blk) (e:Eff):Option (List (Nat × AV) × List Blk):=
  match ops[i]? with
  | none=>none
  | some o=>match abe ops m ov o with
    | some true=>match abt H e && ab3 H (foot (aal m ov) o (zp H)) with
      | true=>some (putL o.dst e.val ov,qy H e)
      | false=>none
    | _=>none
def alE (m:Nat) (ops:Array Oper) (i:Nat) (ov:List (Nat × AV)) (H:List Blk):List Nat:=
  match ops[i]? with
  | some o=>foot (aal m ov) o (zp H)
  | none=>[]
theorem aj5 {e:Eff} (ha:opL G C m ops i ov H=some (.ok e)) (hp:ai3 m ops i ov H e=some (ov',H'))
    (h:RV G C m ops (i+1) ov' H' (sn1 sn ⟨i,alE m ops i ov H,e.upd.map (·.1)++List.range' H.length e.new.length⟩) Q):RV G C m ops i ov H sn Q:=by
  unfold opL at ha
  unfold ai3 at hp
  unfold alE at h
  cases ho:ops[i]? with
  | none=>rw [ho] at ha; cases ha
  | some o=>
    rw [ho] at ha hp h
    simp only at ha hp h
    cases hw:abe ops m ov o with
    | none=>rw [hw] at hp; cases hp
    | some b=>
      rw [hw] at hp
      cases b with
      | false=>cases hp
      | true=>
        simp only at hp
        cases hu:abt H e && ab3 H (foot (aal m ov) o (zp H)) with
        | false=>rw [hu] at hp; cases hp
        | true=>
          rw [hu] at hp
          simp only [Option.some.injEq,Prod.mk.injEq] at hp
          obtain ⟨rfl,rfl⟩:=hp
          exact aov ho hw ha hu h
theorem dO (nw:List (Nat × AV)) (H':List Blk) {e:Eff} (ha:opL G C m ops i ov H=some (.ok e)) (hp:ai3 m ops i ov H e=some (nw++ov,H')) (h:RV G C m ops (i+1) (nw++ov) H' none Q):RV G C m ops i ov H none Q:=aj5 ha hp h
theorem dOd (nw:List (Nat × AV)) (H':List Blk) {e:Eff} {l:List Seen} (ha:opL G C m ops i ov H=some (.ok e)) (hp:ai3 m ops i ov H e=some (nw++ov,H')) (h:RV G C m ops (i+1) (nw++ov) H' (some (⟨i,alE m ops i ov H,e.upd.map (·.1)++List.range' H.length e.new.length⟩ :: l)) Q):RV G C m ops i ov H (some l) Q:=aj5 ha hp h
theorem dv (d:Nat) {v:AV} (ha:opL G C m ops i ov H=some (.ok ⟨v,[],[]⟩)) (hp:ai3 m ops i ov H ⟨v,[],[]⟩=some ((d,v) :: ov,H)) (h:RV G C m ops (i+1) ((d,v) :: ov) H none Q):RV G C m ops i ov H none Q:=aj5 ha hp h
theorem dvd (d:Nat) {v:AV} {l:List Seen} (ha:opL G C m ops i ov H=some (.ok ⟨v,[],[]⟩)) (hp:ai3 m ops i ov H ⟨v,[],[]⟩=some ((d,v) :: ov,H)) (h:RV G C m ops (i+1) ((d,v) :: ov) H (some (⟨i,alE m ops i ov H,[]⟩ :: l)) Q):RV G C m ops i ov H (some l) Q:=by
  refine aj5 ha hp ?_
  simpa [sn1] using h
def over (b:Bool):List Nat→List (Nat × AV)
  | []=>[]
  | d :: r=>(d,.pv (.bool b)) :: over b r
def holds (g:Bool) (m:Nat) (ov:List (Nat × AV)):List Nat→List AV
  | []=>[]
  | d :: r=>(match Nat.blt d m with
    | true=>lkA ov d
    | false=>.undef) :: holds g m ov r
def ahM (g:Bool):List Nat→List AV
  | []=>[]
  | _ :: r=>.pv (.bool g) :: ahM g r
theorem ani (g:Bool) (m:Nat) (ov:List (Nat × AV)):∀ (ds:List Nat),holds g m ov ds=ahM g ds→mk m (over g ds++ov)=mk m ov
  | [],_=>rfl
  | d :: r,h=>by
    simp only [holds,ahM,List.cons.injEq] at h
    obtain ⟨h1,h2⟩:=h
    have ih:=ani g m ov r h2
    show (mk m (over g r++ov)).set d (.pv (.bool g))=_
    rw [ih]
    cases hb:Nat.blt d m with
    | false=>rw [hb] at h1; cases h1
    | true=>
      rw [hb] at h1
      simp only at h1
      have hd:d < m:=aii.1 hb
      apply List.ext_getElem?
      intro j
      by_cases hj:d=j
      · subst hj
        rw [List.getElem?_set_self (by rw [adw]; exact hd),ail m ov d hd,h1]
      · rw [List.getElem?_set_ne hj]
theorem aib {g:Bool} (ds:List Nat) (hl:holds g m ov ds=ahM g ds) (h:RV G C m ops i (over g ds++ov) H sn Q):RV G C m ops i ov H sn Q:=by
  intro seen hs
  obtain ⟨ex,t,H',s,e,q⟩:=h seen hs
  rw [ani g m ov ds hl] at e
  exact ⟨ex,t,H',s,e,q⟩
theorem seg (g:Bool) (ds:List Nat) (J:Bool→List (Nat × AV)) (k:Nat) (hl:holds g m ov ds=ahM g ds)
    (h1:∀ Q,RV G C m ops k (J true++(over true ds++ov)) H none Q→RV G C m ops i (over true ds++ov) H none Q) (h0:∀ Q,RV G C m ops k (J false++(over false ds++ov)) H none Q→RV G C m ops i (over false ds++ov) H none Q)
    (h:RV G C m ops k (J g++(over g ds++ov)) H none Q):RV G C m ops i ov H none Q:=by
  refine aib ds hl ?_
  cases g with
  | true=>exact h1 Q h
  | false=>exact h0 Q h
def segE (G:Cfg) (m:Nat) (ops:Array Oper) (j i:Nat) (ks:List Nat) (ov:List (Nat × AV)) (H:List Blk):Option (List AV × List Blk):=match abg G m ops j i ov H with
  | some p=>some (Qb ks p.1 m 0,p.2)
  | none=>none
theorem aj8 {j:Nat} {ks:List Nat} {t:List AV} {H':List Blk} (h:segE G m ops j i ks ov H=some (t,H')):∃ ov1,abg G m ops j i ov H=some (ov1,H')∧Qb ks ov1 m 0=t:=by
  unfold segE at h
  cases hs:abg G m ops j i ov H with
  | none=>rw [hs] at h; cases h
  | some p=>
    rw [hs] at h
    simp only [Option.some.injEq,Prod.mk.injEq] at h
    obtain ⟨h1,rfl⟩:=h
    exact ⟨p.1,rfl,h1⟩
theorem anb {j:Nat} (h:segE G m ops j i [] ov H=some (Qb [] ov' m 0,H')) (hk:RV G C m ops (i+j) ov' H' none Q):RV G C m ops i ov H none Q:=by
  obtain ⟨ov1,h1,h2⟩:=aj8 h
  refine acA j h1 ?_
  intro seen hs
  obtain ⟨ex,t,H2,s,e,q⟩:=hk seen hs
  rw [← zT h2] at e
  exact ⟨ex,t,H2,s,e,q⟩
theorem segP (g:Bool) (ds:List Nat) (J:Bool→List (Nat × AV)) (j:Nat) (hl:holds g m ov ds=ahM g ds)
    (h1:segE G m ops j i [] (over true ds++ov) H=some (Qb [] (J true++(over true ds++ov)) m 0,H)) (h0:segE G m ops j i [] (over false ds++ov) H=some (Qb [] (J false++(over false ds++ov)) m 0,H))
    (h:RV G C m ops (i+j) (J g++(over g ds++ov)) H none Q):RV G C m ops i ov H none Q:=by
  refine aib ds hl ?_
  cases g with
  | true=>exact anb h1 h
  | false=>exact anb h0 h
theorem ab9 {k:Nat} (e:i=k) (he:Qb [] ov m 0=Qb [] ov' m 0) (h:RV G C m ops k ov' H none Q):RV G C m ops i ov H none Q:=by
  subst e
  intro seen hs
  obtain ⟨ex,t,H',s,e,q⟩:=h seen hs
  rw [← zT he] at e
  exact ⟨ex,t,H',s,e,q⟩
theorem same {k:Nat} (e:(i,ov,H)=(k,ov',H')) (h:RV G C m ops k ov' H' none Q):RV G C m ops i ov H none Q:=by
  simp only [Prod.mk.injEq] at e
  obtain ⟨rfl,rfl,rfl⟩:=e
  exact h
end steps
def ifA (b:Bool) (x y:AV):AV:=match b with
  | true=>x
  | false=>y
section code
variable {G:Cfg} {C:ZH} {f n m:Nat} {ops:Array Oper} {i:Nat} {ov ov':List (Nat × AV)} {H H':List Blk} {Q:Ex→List AV→List Blk→Prop}
def KQ (Q:Ex→List AV→List Blk→Prop) (ks:List Nat):Ex→List AV→List Blk→List Seen→Prop:=fun ex t H _=>Q ex (qS t ks) H
def KD (G:Cfg) (Q:Ex→List AV→List Blk→Prop) (ks:List Nat) (ops:Array Oper):Ex→List AV→List Blk→List Seen→Prop:=fun ex t H s=>match ex with
  | .normal=>(aby ops && QB (Zy ops ops.size []) s)=true∧Q .normal (qS t ks) H
  | .panic v=>∃ s0 r,s=s0 :: r∧(aby ops && QB (Zy ops ops.size []) r && alZ G ops r t s0.i)=true∧Q (.panic v) (qS (t.map fun _=>.any) ks) H
  | _=>False
theorem rg {id:Nat} (h:RV G C m ops 0 ov H none (KQ Q (G.K f (2 * id)))):WP (exec G C f n (.region id ops false) none ⟨mk m ov,H⟩) Q:=by
  obtain ⟨ex,t,H',s,e,q⟩:=h [] (by simp)
  unfold WP
  rw [aep]
  unfold abB
  rw [List.drop_zero] at e
  simp only [e,Bool.false_eq_true,if_false,Option.map_some]
  exact ⟨_,_,_,rfl,q⟩
theorem rgd {id:Nat} (h:RV G C m ops 0 ov H (some []) (KD G Q (G.K f (2 * id)) ops)):WP (exec G C f n (.region id ops true) none ⟨mk m ov,H⟩) Q:=by
  obtain ⟨ex,t,H',s,e,q⟩:=h [] (by simp)
  unfold WP
  rw [aep]
  unfold abB
  rw [List.drop_zero] at e
  cases ex with
  | normal=>
    obtain ⟨hn,q⟩:=q
    simp only [e,if_true,hn,Option.map_some]
    exact ⟨_,_,_,rfl,q⟩
  | panic v=>
    obtain ⟨s0,r,rfl,hn,q⟩:=q
    simp only [e,if_true,hn,Option.map_some]
    exact ⟨_,_,_,rfl,q⟩
  | _=>exact q.elim
theorem fin {ks:List Nat} (ov':List (Nat × AV)) (hi:Nat.ble ops.size i=true) (hk:Qb ks ov m 0=Qb [] ov' m 0) (h:Q .normal (mk m ov') H):RV G C m ops i ov H none (KQ Q ks):=by
  intro seen _
  refine ⟨.normal,mk m ov,H,seen,?_,?_⟩
  · rw [List.drop_eq_nil_of_le (by rw [Array.length_toList]; exact Nat.le_of_ble_eq_true hi)]; rfl
  · show Q .normal (qS (mk m ov) ks) H
    rw [akZ hk]; exact h
theorem stf {ks:List Nat} (k:Nat) (ov':List (Nat × AV)) (H':List Blk) (hs:(bif Nat.ble ops.size (i+k) then segE G m ops k i ks ov H else none)=some (Qb [] ov' m 0,H')) (h:Q .normal (mk m ov') H'):RV G C m ops i ov H none (KQ Q ks):=by
  cases hi:Nat.ble ops.size (i+k) with
  | false=>rw [hi] at hs; cases hs
  | true=>
    rw [hi,cond_true] at hs
    obtain ⟨ov1,h1,h2⟩:=aj8 hs
    exact acA k h1 (fin ov' hi h2 h)
theorem find {ks:List Nat} {l:List Seen} (ov':List (Nat × AV)) (hi:Nat.ble ops.size i=true) (hk:Qb ks ov m 0=Qb [] ov' m 0) (hd:(aby ops && QB (Zy ops ops.size []) l)=true) (h:Q .normal (mk m ov') H):RV G C m ops i ov H (some l) (KD G Q ks ops):=by
  intro seen hs
  refine ⟨.normal,mk m ov,H,seen,?_,?_⟩
  · rw [List.drop_eq_nil_of_le (by rw [Array.length_toList]; exact Nat.le_of_ble_eq_true hi)]; rfl
  · show _∧Q .normal (qS (mk m ov) ks) H
    rw [akZ hk,hs l rfl]; exact ⟨hd,h⟩
theorem rdet {id:Nat} (ov':List (Nat × AV)) (H':List Blk) {ov1:List (Nat × AV)} (hs:abg G m ops ops.size 0 ov H=some (ov1,H')) (hk:Qb (G.K f (2 * id)) ov1 m 0=Qb [] ov' m 0) (h:Q .normal (mk m ov') H'):WP (exec G C f n (.region id ops false) none ⟨mk m ov,H⟩) Q:=
  rg (acA ops.size hs (fin ov' (by rw [Nat.zero_add]; exact Nat.ble_self_eq_true _) hk h))
def detR (G:Cfg) (m:Nat) (ops:Array Oper) (ks:List Nat) (ov:List (Nat × AV)) (H:List Blk):Option (List AV × List Blk):=
  match abg G m ops ops.size 0 ov H with
  | some (ov1,H')=>some (Qb ks ov1 m 0,H')
  | none=>none
theorem det {id:Nat} (ov':List (Nat × AV)) (H':List Blk) (hs:detR G m ops (G.K f (2 * id)) ov H=some (Qb [] ov' m 0,H')) (h:Q .normal (mk m ov') H'):WP (exec G C f n (.region id ops false) none ⟨mk m ov,H⟩) Q:=by
  unfold detR at hs
  cases h1:abg G m ops ops.size 0 ov H with
  | none=>rw [h1] at hs; cases hs
  | some p=>
    obtain ⟨ov1,H1⟩:=p
    rw [h1] at hs
    simp only [Option.some.injEq,Prod.mk.injEq] at hs
    obtain ⟨hk,rfl⟩:=hs
    exact rdet ov' _ h1 hk h
theorem dn {id:Nat} (ov':List (Nat × AV)) (h:Q .normal (mk m ov') H) (hs:detR G m ops (G.K f (2 * id)) ov H=some (Qb [] ov' m 0,H):=by kernel_rfl):WP (exec G C f n (.region id ops false) none ⟨mk m ov,H⟩) Q:=det ov' H hs h
theorem s1 {Q:Ex→List AV→List Blk→List Seen→Prop} (k:Nat) (nw:List (Nat × AV)) (h:RV G C m ops (i+k) (nw++ov) H none Q) (hs:abg G m ops k i ov H=some (nw++ov,H):=by kernel_rfl):RV G C m ops i ov H none Q:=acA k hs h
theorem fq {ks:List Nat} (k:Nat) (ov':List (Nat × AV)) (h:Q .normal (mk m ov') H) (hs:(bif Nat.ble ops.size (i+k) then segE G m ops k i ks ov H else none)=some (Qb [] ov' m 0,H):=by kernel_rfl):RV G C m ops i ov H none (KQ Q ks):=stf k ov' H hs h
theorem cT {c:Operand} {a b:Code} (hc:aal m ov c=.pv (.bool true)) (h:WP (exec G C f n a none ⟨mk m ov,H⟩) Q):WP (exec G C f n (.cond c a b) none ⟨mk m ov,H⟩) Q:=by
  unfold WP
  rw [akm]; rw [← agd] at hc; simp only [hc,if_true]; exact h
theorem cF {c:Operand} {a b:Code} (hc:aal m ov c=.pv (.bool false)) (h:WP (exec G C f n b none ⟨mk m ov,H⟩) Q):WP (exec G C f n (.cond c a b) none ⟨mk m ov,H⟩) Q:=by
  unfold WP
  rw [akm]; rw [← agd] at hc; simp only [hc,Bool.false_eq_true,if_false]; exact h
theorem c1 {c:Operand} {a b:Code} {g:Bool} (hg:g=true) (h:WP (exec G C f n a none ⟨mk m ov,H⟩) Q) (hc:aal m ov c=.pv (.bool g):=by kernel_rfl):WP (exec G C f n (.cond c a b) none ⟨mk m ov,H⟩) Q:=cT (by rw [hc,hg]) h
theorem c0 {c:Operand} {a b:Code} {g:Bool} (hg:g=false) (h:WP (exec G C f n b none ⟨mk m ov,H⟩) Q) (hc:aal m ov c=.pv (.bool g):=by kernel_rfl):WP (exec G C f n (.cond c a b) none ⟨mk m ov,H⟩) Q:=cF (by rw [hc,hg]) h
def SeqQ (G:Cfg) (C:ZH) (f n:Nat) (b:Code) (Q:Ex→List AV→List Blk→Prop):Ex→List AV→List Blk→Prop:=fun ex t H=>match ex with
  | .normal=>WP (exec G C f n b none ⟨t,H⟩) Q
  | ex=>Q ex t H
theorem sq {t:List AV} {a b:Code} (h:WP (exec G C f n a none ⟨t,H⟩) (SeqQ G C f n b Q)):WP (exec G C f n (.seq a b) none ⟨t,H⟩) Q:=by
  refine wp_seq (h.mono ?_)
  intro ex t H h
  cases ex <;> exact h
def apZ (id:Nat) (Q:Ex→List AV→List Blk→Prop):Ex→List AV→List Blk→Prop:=fun ex t H=>match ex with
  | .exit j=>match Nat.beq j id with
    | true=>Q .normal t H
    | false=>Q (.exit j) t H
  | ex=>Q ex t H
theorem bq {t:List AV} {id:Nat} {c:Code} (h:WP (exec G C f n c none ⟨t,H⟩) (apZ id Q)):WP (exec G C f n (.block id c) none ⟨t,H⟩) Q:=by
  refine wp_block (h.mono ?_)
  intro ex t H h
  cases ex <;> exact h
def MidQ (I:List AV→List Blk→Prop) (Q:Ex→List AV→List Blk→Prop):Ex→List AV→List Blk→Prop:=fun ex t H=>match ex with
  | .normal=>I t H
  | ex=>Q ex t H
theorem mid {a b:Code} (I:List AV→List Blk→Prop) (hb:∀ t H,I t H→WP (exec G C f n b none ⟨t,H⟩) Q) (ha:WP (exec G C f n a none ⟨mk m ov,H⟩) (MidQ I Q)):WP (exec G C f n (.seq a b) none ⟨mk m ov,H⟩) Q:=by
  refine wp_seq (ha.mono ?_)
  intro ex t H h
  cases ex with
  | normal=>exact hb t H h
  | _=>exact h
theorem ZC {n0:Nat} {ks:List Nat} (ov':List (Nat × AV)) (H':List Blk) (h:adG n0 (Qb ks ov m 0) H=some (Qb [] ov' m 0,H')):tidy n0 ks ⟨mk m ov,H⟩=some ⟨mk m ov',H'⟩:=by
  unfold tidy
  simp only [agU,h,Option.map_some]
  have:mk m ov'=Qb [] ov' m 0:=by rw [← agU]; rfl
  rw [this]
def LoopQ (G:Cfg) (f:Nat) (c:Code) (n0:Nat) (J:List AV→List Blk→Prop) (Q:Ex→List AV→List Blk→Prop):Ex→List AV→List Blk→Prop:=fun ex t' H'=>match ex with
  | .normal=>∃ t'' H'',tidy n0 (G.K f (2 * Qr c+1)) ⟨t',H'⟩=some ⟨t'',H''⟩∧J t'' H''
  | ex=>Q ex t' H'
theorem qq {c:Code} (I:Nat→List AV→List Blk→Prop) {t:List AV} {H:List Blk} (hI:I n t H) (h0:∀ t H,¬ I 0 t H)
    (hs:∀ k t' H',I (k+1) t' H'→WP (exec G C f n c none ⟨t',H'⟩) (LoopQ G f c H.length (I k) Q)):WP (exec G C f n (.loop c) none ⟨t,H⟩) Q:=by
  unfold WP
  rw [anG]
  have key:∀ (N':Nat) (t':List AV) (H':List Blk),I N' t' H'→WP (iter (exec G C f n c none) (tidy H.length (G.K f (2 * Qr c+1))) N' ⟨t',H'⟩) Q:=by
    intro N'
    induction N' with
    | zero=>intro t' H' hi; exact (h0 _ _ hi).elim
    | succ N' ih=>
      intro t' H' hi
      obtain ⟨ex,t1,H1,e,q⟩:=hs N' t' H' hi
      unfold WP
      rw [anK,e]
      cases ex with
      | normal=>
        obtain ⟨t2,H2,e',q⟩:=q
        simp only [e',Option.bind_some]
        exact ih t2 H2 q
      | _=>exact ⟨_,_,_,rfl,q⟩
  exact key n t H hI
def RetQ (G:Cfg) (f:Nat) (fn:Func) (n0:Nat) (v:AV) (H':List Blk):Ex→List AV→List Blk→Prop:=fun ex t HH=>(match ex with
      | .normal | .ret=>True
      | _=>False)∧((ab2 G ⟨t,HH⟩ fn.results.toList).bind fun vs=>leave (G.M f) n0 (agr vs) HH)=some (v,H')
theorem Z4 {fn:Func} {c:Code} {args:List AV} {v:AV} (m:Nat) (ov:List (Nat × AV)) (hf:G.P.funcs[f]?=some fn) (hb:fn.body=some c) (ht:args++List.replicate (fn.ntmps - args.length) .any=mk m ov)
    (h:WP (exec G (call G n) f n c none ⟨mk m ov,H⟩) (RetQ G f fn H.length v H')):
    call G (n+1) f args H=some (.ret v,H'):=by
  obtain ⟨ex,tt,HH,e,hex,hr⟩:=h
  obtain ⟨vs,h1,h2⟩:=Option.bind_eq_some_iff.1 hr
  simp only [call,hf,hb,ht,e]
  cases ex <;> simp only at hex <;> simp only [h1,Option.bind_some,h2,Option.map_some]
end code
def at1 {α:Type} (n:Nat) (F:Nat→Option α):Option α:=match n with
  | 0=>none
  | n+1=>F n
theorem zy {α:Type} {n:Nat} {F:Nat→Option α} {r:α} (h:at1 n F=some r):∃ k,n=k+1∧F k=some r:=by
  cases n with
  | zero=>cases h
  | succ n=>exact ⟨n,rfl,h⟩
theorem zh {α:Type} {c:Bool} {a b:Option α} {r:α} (h:(bif c then a else b)=some r):(c=true∧a=some r)∨(c=false∧b=some r):=by
  cases c with
  | true=>exact .inl ⟨rfl,h⟩
  | false=>exact .inr ⟨rfl,h⟩
theorem bs {α β:Type} {x:Option α} {F:α→Option β} {r:β} (h:(x.bind F)=some r):∃ a,x=some a∧F a=some r:=Option.bind_eq_some_iff.1 h
def zM {α β:Type} (F:α→β) (K:α):β:=F K
theorem zx {α β:Type} {F:α→Option β} {K:α} {r:β} (h:zM F K=some r):∃ k,k=K∧F k=some r:=⟨K,rfl,h⟩
def sll {α:Type}:Option (List α)→List α
  | none=>[]
  | some l=>l
def zg {α:Type} (R:α→List PV):Option (List α)→PV
  | none=>.nils
  | some l=>.sl (l.map R)
def idx {α:Type} (l:List α) (i:Int):Option α:=if 0≤i then l[i.toNat]? else none
section answers
variable {G:Cfg} {C:ZH} {look:Look} {nid:Nat}
theorem aqf {α:Type} {R:α→List PV} {s:Option (List α)} {t e sz b:Nat} {ag:Bool} {z:List PV} (ht:G.T t=some ⟨.slice e,sz,b,ag,z⟩):aaT G .len [t] [.pv (zg R s)] look nid=some (.ok ⟨.pv (.int .i64 ((sll s).length:Int)),[],[]⟩):=by
  cases s <;> simp [aaT,ht,zg,lenA,okV,sll]
theorem apJ {rows:List (List PV)} {c:List PV} {k:IntKind} {i:Int} {t e sz b:Nat} {ag:Bool} {z:List PV} {ei:TI} (ht:G.T t=some ⟨.slice e,sz,b,ag,z⟩) (he:G.T e=some ei) (h0:0≤i) (hr:rows[i.toNat]?=some c) (hl:c.length=ei.size):
    okV (qv G.T t (.pv (.sl rows)) (.pv (.int k i)))=some (.ok ⟨.pv (.ptr c 0),[],[]⟩):=by
  unfold qv
  simp only [ht,he]
  rw [if_pos h0,hr]
  simp only
  rw [if_pos hl]; rfl
theorem aeS {α:Type} {l:List α} {i:Int} {x:α} (h:idx l i=some x):0≤i∧l[i.toNat]?=some x:=by
  unfold idx at h
  split at h
  · rename_i h0; exact ⟨h0,h⟩
  · cases h
theorem apX {α:Type} {R:α→List PV} {l:List α} {x:α} {k:IntKind} {i:Int} {t e sz b:Nat} {ag:Bool} {z:List PV} {ei:TI} (ht:G.T t=some ⟨.slice e,sz,b,ag,z⟩) (he:G.T e=some ei) (h:idx l i=some x) (hl:(R x).length=ei.size):
    okV (qv G.T t (.pv (.sl (l.map R))) (.pv (.int k i)))=some (.ok ⟨.pv (.ptr (R x) 0),[],[]⟩):=by
  obtain ⟨h0,h⟩:=aeS h
  exact apJ ht he h0 (by rw [List.getElem?_map,h]; rfl) hl
theorem ia_sl {α:Type} {R:α→List PV} {s:Option (List α)} {x:α} {k:IntKind} {i:Int} {t e sz b:Nat} {ag:Bool} {z:List PV} {ei:TI} (ht:G.T t=some ⟨.slice e,sz,b,ag,z⟩) (he:G.T e=some ei) (h:idx (sll s) i=some x) (hl:(R x).length=ei.size):
    okV (qv G.T t (.pv (zg R s)) (.pv (.int k i)))=some (.ok ⟨.pv (.ptr (R x) 0),[],[]⟩):=by
  cases s with
  | none=>obtain ⟨_,h⟩:=aeS h; simp [sll] at h
  | some l=>exact apX ht he h hl
theorem cp0 {f:Nat} {args:List AV} {v:AV} (hC:C f args []=some (.ret v,[])) (hi:AV.idsL args=[]) (hp:aa6 (fun _=>none) args=some args) (hv:AV.ids v=[]):qz C f args look nid=some (.ok ⟨v,[],[]⟩):=by
  have hR:reach look Zl (AV.idsL args) []=[]:=by rw [hi]; rfl
  have e:(fun i=>if (([]:List Nat)).contains i then look i else none)=fun _=>none:=by funext i; simp
  unfold qz
  simp only [hR,e,hp,Option.bind_some,hC,List.isEmpty_nil,Bool.and_true]
  split
  · rfl
  · simp only [akl hv,qQ,Option.map_some,Option.bind_some,Zk]
end answers
def rI (k:IntKind) (n:Int):List PV:=[.int k n]
def rF (k:FloatKind) (n:Nat):List PV:=[.flt k n]
def rB (b:Bool):List PV:=[.bool b]
def rS (s:ByteArray):List PV:=[.str s]
def rSl {α:Type} (R:α→List PV) (s:Option (List α)):List PV:=[zg R s]
def wB (b:Bool):Prop:=True
def wI (k:IntKind) (n:Int):Prop:=k.min≤n∧n≤k.max
def wF (k:FloatKind) (n:Nat):Prop:=(Lit.float k n).wf=true
def wS (s:ByteArray):Prop:=s.size≤1048576
def wSl {α:Type} (W:α→Prop) (s:Option (List α)):Prop:=(sll s).length≤1048576∧∀ x,x∈sll s→W x
def sEq (x y:ByteArray):Bool:=x.toList == y.toList
def sLt (x y:ByteArray):Bool:=Op.bytesLess x.toList y.toList
def iAnd (k:IntKind) (a b:Int):Int:=k.wrap (BitVec.ofInt k.bits a &&& BitVec.ofInt k.bits b).toNat
def iOr (k:IntKind) (a b:Int):Int:=k.wrap (BitVec.ofInt k.bits a ||| BitVec.ofInt k.bits b).toNat
def apB (k:IntKind) (a b:Int):Int:=k.wrap (BitVec.ofInt k.bits a &&& ~~~BitVec.ofInt k.bits b).toNat
def iShl (k:IntKind) (a b:Int):Int:=k.wrap (a * 2 ^ (min b.toNat k.bits))
def iShr (k:IntKind) (a b:Int):Int:=a.fdiv (2 ^ (min b.toNat k.bits))
section answersO
variable {G:Cfg} {C:ZH} {m:Nat} {ops:Array Oper} {i:Nat} {ov:List (Nat × AV)} {H:List Blk} {sn:Option (List Seen)} {Q:Ex→List AV→List Blk→List Seen→Prop}
theorem known {g b:Bool} (ds:List Nat) (hg:g=b) (hl:holds g m ov ds=ahM g ds) (h:RV G C m ops i (over b ds++ov) H none Q):RV G C m ops i ov H none Q:=by subst hg; exact aib ds hl h
theorem abc {g b:Bool} {l:List Seen} (ds:List Nat) (hg:g=b) (hl:holds g m ov ds=ahM g ds) (h:RV G C m ops i (over b ds++ov) H (some l) Q):RV G C m ops i ov H (some l) Q:=by subst hg; exact aib ds hl h
theorem zI {α:Type} (R:α→List PV) (s:Option (List α)) {t e sz b:Nat} {ag:Bool} {z:List PV} (ht:G.T t=some ⟨.slice e,sz,b,ag,z⟩) (ho:opL G C m ops i ov H=aaT G .len [t] [.pv (zg R s)] (zp H) H.length):opL G C m ops i ov H=some (.ok ⟨.pv (.int .i64 ((sll s).length:Int)),[],[]⟩):=ho.trans (aqf ht)
theorem aaL {α:Type} (R:α→List PV) (s:Option (List α)) (k:IntKind) {x:α} {j:Int} {t e sz b:Nat} {ag:Bool} {z:List PV} {ei:TI} (ht:G.T t=some ⟨.slice e,sz,b,ag,z⟩) (he:G.T e=some ei) (h:idx (sll s) j=some x) (hl:(R x).length=ei.size) (ho:opL G C m ops i ov H=okV (qv G.T t (.pv (zg R s)) (.pv (.int k j)))):
    opL G C m ops i ov H=some (.ok ⟨.pv (.ptr (R x) 0),[],[]⟩):=ho.trans (ia_sl ht he h hl)
theorem Zh {f:Nat} {args:List AV} {v:AV} (ho:opL G C m ops i ov H=qz C f args (zp H) H.length) (hC:C f args []=some (.ret v,[])) (hi:AV.idsL args=[]) (hp:aa6 (fun _=>none) args=some args) (hv:AV.ids v=[]):opL G C m ops i ov H=some (.ok ⟨v,[],[]⟩):=ho.trans (cp0 hC hi hp hv)
end answersO
def nthD {α:Type} (d:α):List α→Nat→α
  | [],_=>d
  | x :: r,i=>match i with
    | 0=>x
    | i+1=>nthD d r i
theorem am4 {α:Type} (d:α):∀ (l:List α) (i:Nat),nthD d l i=(l[i]?).getD d
  | [],i=>by simp [nthD]
  | x :: r,0=>by simp [nthD]
  | x :: r,i+1=>by simp [nthD,am4 d r i]
def alv (L:List (Option TI)):Nat→Option TI:=nthD none L
theorem aqd {P:Program} {L:List (Option TI)} (h:(List.range L.length).map (tiOf P)=L):TOk P (alv L):=⟨fun t ti ht=>(ao9 P).1 t ti (by
  unfold alv at ht
  rw [am4] at ht
  by_cases hl:t < L.length
  · have h1:((List.range L.length).map (tiOf P))[t]?=some (tiOf P t):=by
      rw [List.getElem?_map,List.getElem?_range hl]; rfl
    rw [h] at h1
    rw [h1] at ht
    exact ht
  · rw [List.getElem?_eq_none (by omega)] at ht
    cases ht)⟩
def cfgT (P:Program) (T:Nat→Option TI) (M:Nat→Mode) (K:Nat→Nat→List Nat) (D:Nat→Option (Nat × IntKind)):Cfg:=⟨P,T,xOf P,eOf P,M,K,D⟩
theorem apg (P:Program) {T:Nat→Option TI} (hT:TOk P T) (M:Nat→Mode) (K:Nat→Nat→List Nat) (D:Nat→Option (Nat × IntKind)) (hD:∀ f te k,D f=some (te,k)→af9 P T f te k):GOk (cfgT P T M K D):=
  ⟨hD,hT,aqk P,fun f x hx args v hv w F m vs hr=>ap1 hx hv w F m vs hr⟩
section pure
variable {look:Look} {n:Nat}
theorem zC {p:PV}:AV.pureOf look n (.pv p)=some p:=by cases n <;> rfl
theorem zt {f:AV→Option PV} {v:AV} {r:List AV} {p:PV} {ps:List PV} (h:f v=some p) (h':adB f r=some ps):adB f (v :: r)=some (p :: ps):=by
  simp only [adB,h,h',Option.bind_some,Option.map_some]
theorem afO {cs:List AV} {ps:List PV} (h:adB (AV.pureOf look 4) cs=some ps):AV.puri look (.agg cs)=some (.agg (ps.map .pv)):=by
  simp only [AV.puri,h,Option.map_some]
theorem amh {id g h s o k:Nat} {p:PV} (h1:AV.pureOf look 4 (.ref id g h s o k)=some p):AV.puri look (.ref id g h s o k)=some (.pv p):=by
  simp only [AV.puri,h1,Option.map_some]
theorem ahz {p:PV}:AV.puri look (.pv p)=some (.pv p):=rfl
theorem ZZ {v v':AV} {r r':List AV} (h:AV.puri look v=some v') (h':aa6 look r=some r'):aa6 look (v :: r)=some (v' :: r'):=by
  simp only [aa6,h,h',Option.bind_some,Option.map_some]
end pure
section answersP
variable {G:Cfg} {C:ZH} {m:Nat} {ops:Array Oper} {i:Nat} {ov:List (Nat × AV)} {H:List Blk}
def apR (fl:Bool) (look:Look) (R:List Nat):List (Nat × Blk):=match fl with
  | true=>[]
  | false=>Zk look R
theorem cp1 {f:Nat} {args ps:List AV} {v:AV} {look:Look} {nid:Nat} {R:List Nat} {fl:Bool} (hR:reach look Zl (AV.idsL args) []=R) (hp:aa6 (fun i=>if R.contains i then look i else none) args=some ps) (hC:C f ps []=some (.ret v,[])) (hv:AV.ids v=[]) (hf:v.flat=fl):
    qz C f args look nid=some (.ok ⟨v,apR fl look R,[]⟩):=by
  subst hR hf
  unfold qz
  simp only [hp,Option.bind_some,hC,List.isEmpty_nil,Bool.and_true]
  cases h:v.flat with
  | true=>rfl
  | false=>
    simp only [Bool.false_eq_true,if_false,akl hv,qQ,Option.map_some,Option.bind_some]
    rfl
theorem aql {f:Nat} (R:List Nat) (args:List AV) {ps:List AV} {v:AV} {fl:Bool} (ho:opL G C m ops i ov H=qz C f args (zp H) H.length) (hR:reach (zp H) Zl (AV.idsL args) []=R) (hp:aa6 (fun i=>if R.contains i then zp H i else none) args=some ps) (hC:C f ps []=some (.ret v,[])) (hv:AV.ids v=[]) (hf:v.flat=fl):
    opL G C m ops i ov H=some (.ok ⟨v,apR fl (zp H) R,[]⟩):=ho.trans (cp1 hR hp hC hv hf)
end answersP
end Go.Ab
