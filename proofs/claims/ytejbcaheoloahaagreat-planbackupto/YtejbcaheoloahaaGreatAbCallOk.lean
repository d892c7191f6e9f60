import Derived.Test.YtejbcaheoloahaaGreatAbCode
set_option linter.unusedVariables false
set_option linter.unusedSimpArgs false
namespace Go.Ab
open Go
variable {P:Program} {w w':World} {F:Froz} {Pr:Nat→Prop} {m m':Mu} {look:Look} {nid:Nat}
theorem aps {G:Cfg} (hG:GOk G) {σ:St} {tmps:Array Value} (hI:Inv w F Pr m (zp σ.heap)) (ht:RelT w F m tmps σ.tmps) {r:ResultVar} {x:AV} (h:resA G σ r=some x):
    ∃ v,(match r with
      | .tmp t=>pure (tmps.getD t undef)
      | .cell a t=>do loadVar t (← asAddr (tmps.getD a undef)):Sem Value).run G.P w=.ok v w∧RelV w F m v x:=by
  have hev:=fun t=>ht.eval (a:={ tmps:=tmps,defers:=[] }) (.tmp t)
  simp only [Act.eval,qc] at hev
  cases r with
  | tmp t=>
    simp only [resA,Option.some.injEq] at h
    subst h
    exact ⟨_,rfl,hev t⟩
  | cell a t=>
    simp only [resA] at h
    obtain ⟨v,hv,hr⟩:=anh hG.T hI (hev a) h
    refine ⟨v,?_,hr⟩
    simp only
    generalize tmps.getD a undef=p at hv
    unfold Instr.loadAt at hv
    cases p with
    | pointer o=>
      cases o with
      | none=>simp [Instr.sureAddr,stuck] at hv
      | some A=>simpa [Instr.sureAddr,asAddr] using hv
    | _=>simp [Instr.sureAddr,stuck] at hv
theorem akr {G:Cfg} (hG:GOk G) {σ:St} {tmps:Array Value} (hI:Inv w F Pr m (zp σ.heap)) (ht:RelT w F m tmps σ.tmps):∀ (rs:List ResultVar) (xs:List AV),ab2 G σ rs=some xs→
    ∃ us,(rs.mapM (fun
      | .tmp t=>pure (tmps.getD t undef)
      | .cell a t=>do loadVar t (← asAddr (tmps.getD a undef)):ResultVar→Sem Value)).run G.P w=.ok us w∧RelL w F m us xs
  | [],xs,h=>by
    simp only [ab2,Option.some.injEq] at h
    subst h
    exact ⟨[],rfl,RelL.nil⟩
  | r :: rs,xs,h=>by
    simp only [ab2] at h
    obtain ⟨x,hx,h⟩:=Option.bind_eq_some_iff.1 h
    rw [Option.map_eq_some_iff] at h
    obtain ⟨ys,hys,rfl⟩:=h
    obtain ⟨v,hv,hr⟩:=aps hG hI ht hx
    obtain ⟨us,hus,hl⟩:=akr hG hI ht rs ys hys
    refine ⟨v :: us,?_,RelL.cons hr hl⟩
    rw [List.mapM_cons]
    simp only [Sem.run_bind]
    rw [hv]
    simp only [Result.andThen_ok,hus]
    rfl
theorem amH {G:Cfg} (hG:GOk G) {σ:St} {tmps:Array Value} {fn:Func} {xs:List AV} (hI:Inv w F Pr m (zp σ.heap)) (ht:RelT w F m tmps σ.tmps) (h:ab2 G σ fn.results.toList=some xs):
    ∃ v,(results fn tmps).run G.P w=.ok v w∧RelV w F m v (agr xs):=by
  obtain ⟨us,h1,h2⟩:=akr hG hI ht _ _ h
  have hrun:(results fn tmps).run G.P w=.ok (if h:us.toArray.size=1 then us.toArray[0] else .tuple us.toArray) w:=by
    unfold results
    simp only [Sem.run_bind]
    rw [Array.mapM_eq_mapM_toList,Sem.run_map]
    erw [h1]
    rfl
  refine ⟨_,hrun,?_⟩
  unfold agr
  match us,xs,h2 with
  | [],[],h2=>exact .tup [] [] rfl (fun j h=>by simp at h)
  | [u],[x],h2=>exact h2.head
  | u :: u' :: us,x :: x' :: xs,h2=>
    simp
    exact .tup (u :: u' :: us) (x :: x' :: xs) h2.1 h2.2
  | [],x :: xs,h2=>have:=h2.1; simp at this
  | u :: us,[],h2=>have:=h2.1; simp at this
  | [u],x :: x' :: xs,h2=>have:=h2.1; simp at this
  | u :: u' :: us,[x],h2=>have:=h2.1; simp at this
theorem aer (R:List Nat):∀ (H:List Blk) (j:Nat),(aaV R j H).length=H.length
  | [],_=>rfl
  | b :: H,j=>by simp [aaV,aer R H (j+1)]
theorem ahA (R:List Nat):∀ (H:List Blk) (j i:Nat),(aaV R j H)[i]?=if j+i∈R then (H[i]?).map Blk.freeze else H[i]?
  | [],j,i=>by simp [aaV]
  | b :: H,j,0=>by
    simp only [aaV,List.getElem?_cons_zero,Nat.add_zero,List.contains_iff_mem,Option.map_some]
    split <;> rfl
  | b :: H,j,i+1=>by
    simp only [aaV,List.getElem?_cons_succ]
    rw [ahA R H (j+1) i,show j+1+i=j+(i+1) by omega]
theorem agl (R:List Nat) (H:List Blk):zp (aaV R 0 H)=fun i=>if i∈R then (zp H i).map Blk.freeze else zp H i:=by
  funext i
  simp only [zp,ahA,Nat.zero_add]
theorem alG {lk:Look} {ks:List Nat}:∀ {cs cs':List AV} {j:Nat},purC lk ks j cs=some cs'→cs'.length=cs.length∧∀ i (h:i < cs.length) (h':i < cs'.length),cs'[i]=cs[i]∨∃ p,AV.pureOf lk 4 cs[i]=some p∧cs'[i]=.pv p
  | [],cs',j,h=>by
    simp only [purC,Option.some.injEq] at h
    subst h
    exact ⟨rfl,fun i h=>by simp at h⟩
  | v :: r,cs',j,h=>by
    simp only [purC] at h
    obtain ⟨v',hv,h⟩:=Option.bind_eq_some_iff.1 h
    rw [Option.map_eq_some_iff] at h
    obtain ⟨r',hr,rfl⟩:=h
    obtain ⟨e1,e2⟩:=alG hr
    refine ⟨by simp [e1],fun i h h'=>?_⟩
    cases i with
    | zero=>
      split at hv
      · injection hv with hv; exact .inl hv.symm
      · rw [Option.map_eq_some_iff] at hv
        obtain ⟨p,hp,rfl⟩:=hv
        exact .inr ⟨p,hp,rfl⟩
    | succ i=>exact e2 i (by simpa using h) (by simpa using h')
theorem aom {ks:List Nat} {u:Value} {x x':AV} {H H':List Blk} (hI:Inv w F Pr m (zp H)) (hu:RelV w F m u x) (h:ao2 ks x H=some (x',H')):
    ∃ F',(∀ g o,F g o→F' g o)∧(∀ g o,F' g o→F g o∨¬ Pr g)∧Inv w F' Pr m (zp H')∧H'.length=H.length∧RelV w F' m u x':=by
  unfold ao2 at h
  split at h
  rotate_left
  · cases h
  rename_i cs
  simp only at h
  generalize reach (zp H) Zl (AV.idsL (outC ks 0 cs)) []=R at h
  rw [Option.map_eq_some_iff] at h
  obtain ⟨cs',hc,h⟩:=h
  simp only [Prod.mk.injEq] at h
  obtain ⟨rfl,rfl⟩:=h
  obtain ⟨e1,e2⟩:=alG hc
  have hlk:∀ id b,(if R.contains id then zp H id else none)=some b→zp H id=some b:=fun id b hl=>by
    split at hl
    · exact hl
    · cases hl
  refine ⟨fun g o=>F g o∨cellsOf w m (fun i=>if R.contains i then zp H i else none) g o,fun g o h=>.inl h,fun g o h=>?_,by rw [agl]; exact hI.freeze R,aer _ _ _,?_⟩
  · rcases h with h | ⟨id,b,γ,k,c,hl,hx,_⟩
    · exact .inl h
    · exact .inr ((hI.blk id b (hlk _ _ hl)).notPr hx)
  · cases hu with
    | agg vs _ hl hr=>
    refine .agg vs _ (by omega) (fun j a b=>?_)
    have hj:=hr j a (by omega)
    rcases e2 j (by omega) b with e | ⟨p,hp,e⟩
    · rw [e]; exact hj.keep (fun _ _ _=>rfl) (fun g o h=>.inl h) (qi.refl m)
    · rw [e]; exact .pv (ag7 hI hlk (fun g o h=>.inl h) (fun g o h=>.inr h) 4 _ _ _ hj hp)
theorem an1 {u:Value} {x x':AV} {H H':List Blk} (hI:Inv w F Pr m (zp H)) (hu:RelV w F m u x) (h:akI x H=some (x',H')):
    ∃ F',(∀ g o,F g o→F' g o)∧(∀ g o,F' g o→F g o∨¬ Pr g)∧Inv w F' Pr m (zp H')∧H'.length=H.length∧RelV w F' m u x':=by
  unfold akI at h
  simp only at h
  generalize reach (zp H) Zl (AV.ids x) []=R at h
  rw [Option.map_eq_some_iff] at h
  obtain ⟨z,hz,h⟩:=h
  simp only [Prod.mk.injEq] at h
  obtain ⟨rfl,rfl⟩:=h
  have hlk:∀ id b,(if R.contains id then zp H id else none)=some b→zp H id=some b:=fun id b hl=>by
    split at hl
    · exact hl
    · cases hl
  refine ⟨fun g o=>F g o∨cellsOf w m (fun i=>if R.contains i then zp H i else none) g o,fun g o h=>.inl h,fun g o h=>?_,by rw [agl]; exact hI.freeze R,aer _ _ _,ajp hI hlk (fun g o h=>.inl h) (fun g o h=>.inr h) hu hz _⟩
  rcases h with h | ⟨id,b,γ,k,c,hl,hx,_⟩
  · exact .inl h
  · exact .inr ((hI.blk id b (hlk _ _ hl)).notPr hx)
theorem alH {B:ab5} {σ:St} {a:Act} {u:Value} {x y:AV} {md:Mode} {H':List Blk} (hs:Q5 B w F m σ a) (hu:RelV w F m u x) (h:leave md B.n0 x σ.heap=some (y,H')):
    ∃ F' m',Ext B.w B.F B.Pr w F'∧amj B.n0 B.m m'∧Inv w F' B.Pr m' (zp H')∧(∀ i,H'.length≤i→∀ γ h,m' i γ h=none)∧B.n0≤H'.length∧RelV w F' m' u y:=by
  obtain ⟨h1,h2,h3,h4,h5⟩:=hs
  unfold leave at h
  split at h
  · obtain ⟨⟨x1,H1⟩,hp,h⟩:=Option.bind_eq_some_iff.1 h
    obtain ⟨F1,p1,p2,p3,p4,p5⟩:=aom h3.I hu hp
    obtain ⟨⟨vs,H2⟩,hc,h⟩:=Option.bind_eq_some_iff.1 h
    simp only at h
    split at h
    rotate_left
    · cases h
    rename_i v1
    simp only [Option.some.injEq,Prod.mk.injEq] at h
    obtain ⟨rfl,rfl⟩:=h
    obtain ⟨m',k1,k2,k3,k4,k5⟩:=adP p3 (by rw [p4]; exact h3.f) (RelL.cons p5 RelL.nil) (by rw [p4]; exact h5) hc
    exact ⟨F1,m',⟨h1.os,h1.tape,h1.output,h1.size,h1.fz,h1.pr,fun g o h=>p1 g o (h1.mono g o h),fun g o hF=>(p2 g o hF).elim (fun h=>h1.new g o h) .inr⟩,fun i hi γ h x hx=>by rw [k3 i hi]; exact h2 i hi γ h x hx,k2,k4,k5,k1.head⟩
  · obtain ⟨⟨x1,H1⟩,hp,h⟩:=Option.bind_eq_some_iff.1 h
    obtain ⟨F1,p1,p2,p3,p4,p5⟩:=an1 h3.I hu hp
    obtain ⟨⟨vs,H2⟩,hc,h⟩:=Option.bind_eq_some_iff.1 h
    simp only at h
    split at h
    rotate_left
    · cases h
    rename_i v1
    simp only [Option.some.injEq,Prod.mk.injEq] at h
    obtain ⟨rfl,rfl⟩:=h
    obtain ⟨m',k1,k2,k3,k4,k5⟩:=adP p3 (by rw [p4]; exact h3.f) (RelL.cons p5 RelL.nil) (by rw [p4]; exact h5) hc
    exact ⟨F1,m',⟨h1.os,h1.tape,h1.output,h1.size,h1.fz,h1.pr,fun g o h=>p1 g o (h1.mono g o h),fun g o hF=>(p2 g o hF).elim (fun h=>h1.new g o h) .inr⟩,fun i hi γ h x hx=>by rw [k3 i hi]; exact h2 i hi γ h x hx,k2,k4,k5,k1.head⟩
  · obtain ⟨z,hz,h⟩:=Option.bind_eq_some_iff.1 h
    split at h
    rotate_left
    · cases h
    rename_i h0
    simp only [Option.some.injEq,Prod.mk.injEq] at h
    obtain ⟨rfl,rfl⟩:=h
    let F':Froz:=fun g o=>F g o∨cellsOf w m (zp σ.heap) g o
    have hcell:∀ g o,cellsOf w m (zp σ.heap) g o→∃ v,w.cell? ⟨g,o,none⟩=some v:=fun g o hc=>by
      obtain ⟨id,b,γ,h,c,_,_,hb⟩:=hc
      cases b with
      | box _ _=>exact hb
      | row _ _ _=>exact hb.2
      | _=>exact hb.elim
    refine ⟨F',fun _ _ _=>none,⟨h1.os,h1.tape,h1.output,h1.size,h1.fz,h1.pr,fun g o h=>.inl (h1.mono g o h),fun g o hF=>?_⟩,fun i hi=>by omega,
      ⟨fun id b hl=>by simp [zp] at hl,fun id id' b b' hl=>by simp [zp] at hl,fun g o hF=>hF.elim (h3.I.szF g o) (hcell g o),h3.I.szP,fun id b γ h g c hl=>by simp [zp] at hl⟩,
      fun _ _ _ _=>rfl,by omega,ajp h3.I (fun _ _ h=>h) (fun g o h=>.inl h) (fun g o h=>.inr h) hu hz _⟩
    rcases hF with hF | ⟨id,b,γ,k,c,hl,hx,_⟩
    · exact h1.new g o hF
    · exact .inr ((h3.I.blk id b hl).notPr hx)
  · obtain ⟨⟨vs,H1⟩,hc,h⟩:=Option.bind_eq_some_iff.1 h
    simp only at h
    split at h
    rotate_left
    · cases h
    rename_i v1
    simp only [Option.some.injEq,Prod.mk.injEq] at h
    obtain ⟨rfl,rfl⟩:=h
    obtain ⟨m',k1,k2,k3,k4,k5⟩:=adP h3.I h3.f (RelL.cons hu RelL.nil) h5 hc
    exact ⟨F,m',h1,fun i hi γ h x hx=>by rw [k3 i hi]; exact h2 i hi γ h x hx,k2,k4,k5,k1.head⟩
theorem sound {G:Cfg} (hG:GOk G) (hm:G.P.follows .mixedOrders=true):∀ n,acM G.P (call G n):=by
  intro n
  induction n with
  | zero=>intro f args H o H' h; cases h
  | succ n ih=>
    intro f args H o H' h w F Pr m vs hI hm0 hr
    simp only [call] at h
    split at h
    · cases h
    rename_i fn hf
    split at h
    · cases h
    rename_i c hb
    let B:ab5:=⟨w,F,Pr,m,H.length,[]⟩
    let σ0:St:=⟨args++List.replicate (fn.ntmps - args.length) .any,H⟩
    have hs0:Q5 B w F m σ0 { tmps:=vs.toArray++Array.replicate (fn.ntmps - vs.toArray.size) undef,defers:=[] }:=by
      refine ⟨Ext.refl _ _ _,fun _ _ _ _ _ h=>h,⟨?_,hI,hm0⟩,rfl,Nat.le_refl _⟩
      refine RelL.toT ?_
      simp only [Array.toList_append,Array.toList_replicate,List.size_toArray]
      refine RelL.append hr ⟨by simp [hr.1],fun j h1 h2=>?_⟩
      simp only [List.getElem_replicate]
      exact .any
    have hwp:∀ {ex:Ex} {σ:St},exec G (call G n) f n c none σ0=some (ex,σ)→c.wp G.P (ac6 B ex σ) { tmps:=vs.toArray++Array.replicate (fn.ntmps - vs.toArray.size) undef,defers:=[] } w:=fun he=>
      (apD hG hm ih f n c B).1 _ _ _ he _ w F m hs0
    have ret:∀ (σ:St) (a:Act) (w1:World) (F1:Froz) (m1:Mu),Q5 B w1 F1 m1 σ a→((ab2 G σ fn.results.toList).bind fun xs=>(leave (G.M f) H.length (agr xs) σ.heap).map fun p=>(Out.ret p.1,p.2))=some (o,H')→
        a.defers=[]∧∃ v,(results fn a.tmps).run G.P w1=.ok v w1∧(∃ F' m',Ext w F Pr w1 F'∧(∀ i,i < H.length→∀ γ h x,m i γ h=some x→m' i γ h=some x)∧
          Inv w1 F' Pr m' (zp H')∧(∀ i,H'.length≤i→∀ γ h,m' i γ h=none)∧H.length≤H'.length∧amo w1 F' m' o (.returned v)):=fun σ a w1 F1 m1 hs h=>by
      obtain ⟨xs,hxs,h⟩:=Option.bind_eq_some_iff.1 h
      rw [Option.map_eq_some_iff] at h
      obtain ⟨⟨y,H1⟩,hl,h⟩:=h
      simp only [Prod.mk.injEq] at h
      obtain ⟨rfl,rfl⟩:=h
      obtain ⟨v,hv,hrel⟩:=amH hG hs.2.2.1.I hs.2.2.1.t hxs
      obtain ⟨F',m',k1,k2,k3,k4,k5,k6⟩:=alH (B:=B) hs hrel hl
      exact ⟨hs.2.2.2.1,v,hv,F',m',k1,k2,k3,k4,k5,v,rfl,k6⟩
    split at h
    · rename_i σ he
      refine calls_of_wp hf hb (wp_mono (hwp he) fun e a w1 hq=>?_)
      obtain ⟨F1,m1,hs,hx⟩:=hq
      cases e <;> try exact hx.elim
      exact ret σ a w1 F1 m1 hs h
    · rename_i σ he
      refine calls_of_wp hf hb (wp_mono (hwp he) fun e a w1 hq=>?_)
      obtain ⟨F1,m1,hs,hx⟩:=hq
      cases e <;> try exact hx.elim
      exact ret σ a w1 F1 m1 hs h
    · rename_i x σ he
      rw [Option.map_eq_some_iff] at h
      obtain ⟨⟨y,H1⟩,hl,h⟩:=h
      simp only [Prod.mk.injEq] at h
      obtain ⟨rfl,rfl⟩:=h
      refine calls_of_wp hf hb (wp_mono (hwp he) fun e a w1 hq=>?_)
      obtain ⟨F1,m1,hs,hx⟩:=hq
      cases e <;> try exact hx.elim
      obtain ⟨u,rfl,hu⟩:=hx
      obtain ⟨F',m',k1,k2,k3,k4,k5,k6⟩:=alH (B:=B) hs hu hl
      exact ⟨hs.2.2.2.1,F',m',k1,k2,k3,k4,k5,u,rfl,k6⟩
    · split at h
      · rename_i d hd
        obtain ⟨te,k⟩:=d
        exact an6 hG.T ih (hG.D f te k hd) h hI hm0 hr
      · cases h
end Go.Ab
