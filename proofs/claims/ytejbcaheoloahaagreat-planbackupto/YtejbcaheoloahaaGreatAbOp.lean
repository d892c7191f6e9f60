import Derived.Test.YtejbcaheoloahaaGreatAbGuard
set_option linter.unusedVariables false
set_option linter.unusedSimpArgs false
namespace Go.Ab
open Go
variable {w w':World} {F:Froz} {Pr:Nat→Prop} {m m':Mu} {look:Look} {nid:Nat}
structure GOk (G:Cfg):Prop where
  D:∀ f te k,G.D f=some (te,k)→af9 G.P G.T f te k
  T:TOk G.P G.T
  E:EOk G.P G.E
  X:∀ f x,G.X f=some x→∀ args v,x args=some v→∀ (w:World) (F:Froz) (m:Mu) (vs:List Value),RelL w F m vs args→
    ∃ u,(callFunc f vs.toArray).run G.P w=.ok (.value u) w∧RelV w F m u v
def Good (w:World) (F:Froz) (Pr:Nat→Prop) (m:Mu) (look:Look) (nid:Nat) (r:Res) (v:Value) (w':World):Prop:=∃ e,r=.ok e∧Post w F Pr m look nid e v w'
def Bad (w:World) (F:Froz) (Pr:Nat→Prop) (m:Mu) (look:Look) (nid:Nat) (r:Res) (v:Value) (w':World):Prop:=∃ e,r=.pan e∧Post w F Pr m look nid e v w'
theorem Z6.calls {P:Program} {o:Oper} {a:Act} {f:Nat} {args:Array Value} {r:Res}
    (h:(execOp a.eval o).run P w=.ok (.enter f args) w) (hc:Calls P f args w fun e w'=>amu w F Pr m look nid w' r e):
    Z6 P o a w (Good w F Pr m look nid r) (Bad w F Pr m look nid r):=fun K Q hk hq=>by
  unfold Oper.wp
  rw [h]
  refine Calls.mono hc (fun e w' he=>?_)
  cases r with
  | ok eff=>
    obtain ⟨u,rfl,hp⟩:=he
    exact hk u w' ⟨eff,rfl,hp⟩
  | pan eff=>
    obtain ⟨u,rfl,hp⟩:=he
    exact hq u w' ⟨eff,rfl,hp⟩
theorem RelL.map {a:Act} {ρ:Operand→AV} (hρ:∀ x,RelV w F m (a.eval x) (ρ x)) (l:List Operand):RelL w F m (l.map a.eval) (l.map ρ):=
  ⟨by simp,fun j h h'=>by simp only [List.getElem_map]; exact hρ _⟩
theorem ZS {v:Option AV} {r:Res} (h:okV v=some r):∃ x,v=some x∧r=.ok ⟨x,[],[]⟩:=by
  simp only [okV,Option.map_eq_some_iff] at h
  obtain ⟨x,hx,rfl⟩:=h
  exact ⟨x,hx,rfl⟩
theorem aax {e:Option Eff} {r:Res} (h:okE e=some r):∃ x,e=some x∧r=.ok x:=by
  simp only [okE,Option.map_eq_some_iff] at h
  obtain ⟨x,hx,rfl⟩:=h
  exact ⟨x,hx,rfl⟩
theorem RelO.map {a:Act} {ρ:Operand→AV} (hρ:∀ x,RelV w F m (a.eval x) (ρ x)) (o:Option Operand):RelO w F m (o.map a.eval) (o.map ρ):=by
  cases o with
  | none=>exact .none
  | some x=>exact .some (hρ x)
theorem apj {G:Cfg} {C:ZH} {o:Oper} {a:Act} {ρ:Operand→AV} {r:Res} {f:Operand} {args:Array Operand} {ts:Array Nat} (hG:GOk G) (hC:acM G.P C) (hI:Inv w F Pr m look)
    (hρ:∀ x,RelV w F m (a.eval x) (ρ x)) (hf:∀ i,nid≤i→i < nid+r.new→∀ γ h,m i γ h=none) 
    (hlt':∀ as,callee (ρ f) (args.toList.map ρ)=some as→∀ i,i∈reach look Zl (AV.idsL as.2) []→i < nid)
    (ho:o.op=.call { callee:=.value f,args,argTypes:=ts }) (h:ajk G C (ρ f) (args.toList.map ρ) look nid=some r):
    Z6 G.P o a w (Good w F Pr m look nid r) (Bad w F Pr m look nid r):=by
  unfold ajk at h
  split at h
  · cases h
  rename_i fid as hcallee
  have hcal:∃ first caps:Array Value,a.eval f=.func (.func fid) first caps∧RelL w F m (first.toList++args.toList.map a.eval++caps.toList) as:=by
    have hfv:=hρ f
    generalize a.eval f=fv at hfv
    unfold callee at hcallee
    split at hcallee
    · rename_i f' x y heq
      injection hcallee with hcallee
      injection hcallee with e1 e2
      subst e1; subst e2
      rw [heq] at hfv
      cases hfv with | pv hp=>
      cases hp with
      | fn _ _ _ va vb ha hb q1 q2=>
      exact ⟨_,_,rfl,((RelL.aaO (by simpa using ha) (by simpa using q1)).append (RelL.map hρ _)).append (RelL.aaO (by simpa using hb) (by simpa using q2))⟩
    · rename_i f' x y heq
      injection hcallee with hcallee
      injection hcallee with e1 e2
      subst e1; subst e2
      rw [heq] at hfv
      cases hfv with
      | fn _ _ _ va vb ha hb q1 q2=>
      exact ⟨_,_,rfl,(RelL.append ⟨by simpa using ha,by simpa using q1⟩ (RelL.map hρ _)).append ⟨by simpa using hb,by simpa using q2⟩⟩
    · cases hcallee
  obtain ⟨first,caps,hev,hrel⟩:=hcal
  split at h
  · cases h
  rename_i fn hfn
  split at h
  · cases h
  rename_i hname
  have hres:(execOp a.eval o).run G.P w=(callFunc fid (first.toList++args.toList.map a.eval++caps.toList).toArray).run G.P w:=by
    unfold execOp
    simp only [ho,resolve,hev,Deferred.ofValue,Sem.run_bind,Sem.run_pure,Result.andThen_ok,invoke]
    congr 2
    apply Array.ext'
    simp
  split at h
  · obtain ⟨x,hx,h⟩:=Option.bind_eq_some_iff.1 h
    rw [Option.map_eq_some_iff] at h
    obtain ⟨v,hv,rfl⟩:=h
    obtain ⟨u,hu,hr⟩:=hG.X fid x hx as v hv w F m _ hrel
    exact Z6.value (by rw [hres]; exact hu) ⟨_,rfl,Post.same hI hr⟩
  · rename_i hbody
    have henter:(execOp a.eval o).run G.P w=.ok (.enter fid (first.toList++args.toList.map a.eval++caps.toList).toArray) w:=by
      rw [hres]
      unfold callFunc
      simp only [Sem.run_bind,run_program,Result.andThen_ok,hfn]
      rw [if_neg hname,if_neg hbody]
      rfl
    split at h
    · exact Z6.calls henter (amb hC hI hrel hf (hlt' _ hcallee) h)
    · exact Z6.calls henter (alu hC hI hrel hf h)
theorem akx {G:Cfg} {C:ZH} {o:Oper} {a:Act} {ρ:Operand→AV} {r:Res} (hG:GOk G) (hC:acM G.P C) (hI:Inv w F Pr m look)
    (hρ:∀ x,RelV w F m (a.eval x) (ρ x)) (hf:∀ i,nid≤i→i < nid+r.new→∀ γ h,m i γ h=none)
    (hlt:∀ i,i∈foot ρ o look→i < nid)
    (h:aOp G C ρ o look nid=some r):Z6 G.P o a w (Good w F Pr m look nid r) (Bad w F Pr m look nid r):=by
  have hT:=hG.T
  have value:∀ {v:Value} {x:AV},r=.ok ⟨x,[],[]⟩→(execOp a.eval o).run G.P w=.ok (.value v) w→RelV w F m v x→Z6 G.P o a w (Good w F Pr m look nid r) (Bad w F Pr m look nid r):=fun hr hrun hv=>
    Z6.value hrun ⟨_,hr,Post.same hI hv⟩
  have vrun:∀ {s:Sem Value} {v:Value} {w':World},s.run G.P w=.ok v w'→(do pure (Next.value (← s)):Sem Next).run G.P w=.ok (.value v) w':=fun hs=>by
    simp only [Sem.run_bind,hs,Result.andThen_ok,Sem.run_pure]
  have urun:∀ {s:Sem Unit} {w':World},s.run G.P w=.ok () w'→(do s; pure Next.skip:Sem Next).run G.P w=.ok .skip w':=fun hs=>by
    simp only [Sem.run_bind,hs,Result.andThen_ok,Sem.run_pure]
  unfold aOp at h
  split at h
  · -- move
    rename_i x ho
    split at h
    · cases h
    · obtain ⟨v,hv,hr⟩:=ZS h
      injection hv with hv
      subst hv
      exact value hr (by unfold execOp; rw [ho]; rfl) (hρ x)
  · rename_i x ho
    split at h
    · cases h
    · obtain ⟨v,hv,hr⟩:=ZS h
      injection hv with hv
      subst hv
      exact value hr (by unfold execOp; rw [ho]; rfl) (hρ x)
  · -- pick
    rename_i c x y ho
    split at h
    rotate_left
    · cases h
    rename_i t hc
    obtain ⟨v,hv,hr⟩:=ZS h
    injection hv with hv
    have hcv:=hρ c
    rw [hc] at hcv
    cases hcv':a.eval c with
    | bool b=>
      rw [hcv'] at hcv
      cases hcv with | pv hp=>
      cases hp
      refine value hr (v:=if t then a.eval x else a.eval y) (by unfold execOp; simp only [ho,hcv',asBool,Sem.run_bind,Sem.run_pure,Result.andThen_ok]) ?_
      subst hv
      cases t
      · exact hρ y
      · exact hρ x
    | _=>rw [hcv'] at hcv; cases hcv with | pv hp=>cases hp
  · -- alloc
    rename_i e ho
    obtain ⟨ti,hti,h⟩:=Option.bind_eq_some_iff.1 h
    injection h with h
    subst h
    obtain ⟨v,w1,hrun,hp⟩:=aoj (nid:=nid) (old:=.tuple #[]) hT hti hI (hf nid (Nat.le_refl _) (by simp [Res.new]))
    exact Z6.value (by unfold execOp; simp only [ho]; exact vrun hrun) ⟨_,rfl,hp⟩
  · -- box
    rename_i e x ho
    obtain ⟨cs,hcs,h⟩:=Option.bind_eq_some_iff.1 h
    injection h with h
    subst h
    obtain ⟨v,w1,hrun,hp⟩:=ap7 (P:=G.P) (nid:=nid) (t:=e) (hρ x) hcs hI (hf nid (Nat.le_refl _) (by simp [Res.new]))
    exact Z6.value (by unfold execOp; simp only [ho]; exact vrun hrun) ⟨_,rfl,hp⟩
  · -- build
    rename_i t parts ho
    obtain ⟨x,hx,hr⟩:=ZS h
    obtain ⟨v,hrun,hv⟩:=aoe (parts:=parts.map fun p=>(p.1,a.eval p.2)) hT (by simp) (fun j h h'=>by simp; exact hρ _) hx
    exact value hr (by unfold execOp; simp only [ho]; exact vrun hrun) hv
  · -- a slice's literal
    rename_i t len parts ho
    split at h
    · rename_i hled
      obtain ⟨e,he,rfl⟩:=aax h
      have hnew:nid < nid+e.new.length:=by rw [ajs he]; omega
      obtain ⟨v,w1,hrun,hp⟩:=akG (nid:=nid) (parts:=parts.map fun p=>(p.1,a.eval p.2)) hT hI (hf nid (Nat.le_refl _) (by simpa [Res.new] using hnew))
        (fun i hi=>hlt i (by unfold foot; simp only [ho]; rw [if_pos (by rw [Bool.and_eq_true] at hled; exact hled.1)]; exact hi)) (by simp) (by
          have:=RelL.map (a:=a) hρ (parts.toList.map (·.2))
          simpa [List.map_map,Function.comp_def] using this) he
      exact Z6.value (by unfold execOp; simp only [ho]; exact vrun hrun) ⟨_,rfl,hp⟩
    obtain ⟨e,he,rfl⟩:=aax h
    have hne:e.new.length=1:=by
      obtain ⟨_,b,hb⟩:=acB he
      rw [hb]; rfl
    obtain ⟨v,w1,hrun,hp⟩:=afE (nid:=nid) (parts:=parts.map fun p=>(p.1,a.eval p.2)) hT hI (hf nid (Nat.le_refl _) (by simp [Res.new,hne])) (by simp) (fun j h h'=>by simp; exact hρ _) he
    exact Z6.value (by unfold execOp; simp only [ho]; exact vrun hrun) ⟨_,rfl,hp⟩
  · -- load
    rename_i t x ho
    obtain ⟨y,hy,hr⟩:=ZS h
    obtain ⟨v,hrun,hv⟩:=anh hT hI (hρ x) hy
    exact value hr (by unfold execOp; simp only [ho]; exact vrun hrun) hv
  · -- store
    rename_i t p x ho
    split at h
    · obtain ⟨e,he,rfl⟩:=aax h
      obtain ⟨w1,hrun,hp⟩:=anP (nid:=nid) hT hI (hρ p) (hρ x) he
      exact Z6.skip (by unfold execOp; simp only [ho]; exact urun hrun) ⟨_,rfl,hp⟩
    obtain ⟨e,he,rfl⟩:=aax h
    obtain ⟨w1,hrun,hp⟩:=alB (nid:=nid) hT hI (hρ p) (hρ x) he
    exact Z6.skip (by unfold execOp; simp only [ho]; exact urun hrun) ⟨_,rfl,hp⟩
  · -- nilCheck
    rename_i x ho
    split at h
    rotate_left
    · cases h
    rename_i hn
    obtain ⟨y,hy,hr⟩:=ZS h
    injection hy with hy
    subst hy
    obtain ⟨p,hp,hb⟩:=aj7 (hρ x) hn
    cases p with
    | none=>simp at hb
    | some ad=>exact value hr (v:=a.eval x) (by unfold execOp; simp only [ho,hp]; rfl) (hρ x)
  · -- binOp
    rename_i op t x y yt ho
    obtain ⟨z,hz,hr⟩:=ZS h
    obtain ⟨v,hrun,hv⟩:=aqb (w:=w) (F:=F) (m:=m) (ox:=x) (oy:=y) hT hG.E (hρ x) (hρ y) hz
    exact value hr (by unfold execOp; simp only [ho]; exact vrun hrun) hv
  · rename_i op t x ho
    obtain ⟨z,hz,hr⟩:=ZS h
    obtain ⟨v,hrun,hv⟩:=un_ok (P:=G.P) (hρ x) hz
    exact value hr (by unfold execOp; simp only [ho]; exact vrun hrun) hv
  · -- convert
    rename_i src dst x ho
    obtain ⟨y,hy,rfl⟩:=ZS h
    obtain ⟨v,w1,hrun,hp⟩:=apz (nid:=nid) hT hI (hρ x) hy
    exact Z6.value (by unfold execOp; simp only [ho]; exact vrun hrun) ⟨_,rfl,hp⟩
  · -- makeFunc
    rename_i f first caps ho
    obtain ⟨y,hy,hr⟩:=ZS h
    injection hy with hy
    subst hy
    have h1:=RelL.map (a:=a) hρ first.toList
    have h2:=RelL.map (a:=a) hρ caps.toList
    refine value hr (v:=.func (.func f) (first.map a.eval) (caps.map a.eval)) (by unfold execOp; simp only [ho]; exact vrun rfl) ?_
    have:=RelV.fn f (first.toList.map ρ) (caps.toList.map ρ) (first.toList.map a.eval) (caps.toList.map a.eval) h1.1 h2.1 h1.2 h2.2
    have e1:(first.toList.map a.eval).toArray=first.map a.eval:=by apply Array.ext'; simp
    have e2:(caps.toList.map a.eval).toArray=caps.map a.eval:=by apply Array.ext'; simp
    rw [e1,e2] at this
    exact this
  · -- makeSlice
    rename_i t l c ho
    obtain ⟨e,he,rfl⟩:=aax h
    have hne:e.new.length=1:=by
      unfold adK at he
      split at he
      · split at he
        · split at he
          · injection he with he; subst he; rfl
          · cases he
        · cases he
      · cases he
    obtain ⟨v,w1,hrun,hp⟩:=akz (nid:=nid) hT hI (hf nid (Nat.le_refl _) (by simp [Res.new,hne])) (hρ l) (hρ c) he
    exact Z6.value (by unfold execOp; simp only [ho]; exact vrun hrun) ⟨_,rfl,hp⟩
  · -- slice
    rename_i t x lo hi ho
    split at h
    · rename_i e sz by_ ag ze ht
      split at h
      rotate_left
      · cases h
      rename_i ei he
      split at h
      · cases h
      rename_i hns
      obtain ⟨y,hy,hr⟩:=ZS h
      obtain ⟨v,hrun,hv⟩:=an7 hT (hT.slice ht rfl) he (hρ x) (fun s hs=>hns s hs) (RelO.map hρ lo) (RelO.map hρ hi) hy
      exact value hr (by unfold execOp; simp only [ho]; exact vrun hrun) hv
    · rename_i sz by_ ag ze ht
      split at h
      rotate_left
      · cases h
      rename_i s hs
      obtain ⟨y,hy,hr⟩:=ZS h
      have hxv:=hρ x
      rw [hs] at hxv
      obtain ⟨v,hrun,hv⟩:=alk (hT.str ht rfl) hxv (RelO.map hρ lo) (RelO.map hρ hi) hy
      exact value hr (by unfold execOp; simp only [ho]; exact vrun hrun) hv
    · rename_i n e sz by_ ag ze ht
      split at h
      rotate_left
      · cases h
      rename_i hno
      rw [Bool.and_eq_true,Option.isNone_iff_eq_none,Option.isNone_iff_eq_none] at hno
      obtain ⟨rfl,rfl⟩:=hno
      obtain ⟨e1,he1,rfl⟩:=aax h
      obtain ⟨v,hrun,hp⟩:=alh (nid:=nid) hT (hT.array ht rfl) hI (fun i hi=>hlt i (by
        unfold foot; simp only [ho]; exact hi)) (hρ x) he1
      exact Z6.value (by unfold execOp; simp only [ho,Option.map_none]; exact vrun hrun) ⟨_,rfl,hp⟩
    · cases h
  · -- slice,with its room told
    rename_i t x lo hi mx ho
    split at h
    rotate_left
    · cases h
    rename_i e sz by_ ag ze ht
    split at h
    rotate_left
    · cases h
    rename_i ei he
    obtain ⟨y,hy,hr⟩:=ZS h
    cases hi with
    | none=>
      unfold aih at hy
      split at hy
      · cases hy
      · simp at hy
    | some hi=>
      obtain ⟨v,hrun,hv⟩:=anv hT (hT.slice ht rfl) he (hρ x) (RelO.map hρ lo) (hρ hi) (hρ mx) hy
      exact value hr (by unfold execOp; simp only [ho]; exact vrun hrun) hv
  · rename_i s x f ho
    obtain ⟨y,hy,hr⟩:=ZS h
    obtain ⟨v,hrun,hv⟩:=aox hT (hρ x) hy
    exact value hr (by unfold execOp; simp only [ho]; exact vrun hrun) hv
  · rename_i s x f ho
    obtain ⟨y,hy,hr⟩:=ZS h
    obtain ⟨v,hrun,hv⟩:=alx hT (hρ x) hy
    exact value hr (by unfold execOp; simp only [ho]; exact vrun hrun) hv
  · rename_i t x ix ho
    obtain ⟨y,hy,hr⟩:=ZS h
    obtain ⟨v,hrun,hv⟩:=akS hT (hρ x) (hρ ix) hy
    exact value hr (by unfold execOp; simp only [ho]; exact vrun hrun) hv
  · rename_i t x ix ho
    split at h
    · rename_i sz by_ ag ze ht
      obtain ⟨y,hy,hr⟩:=ZS h
      obtain ⟨v,hrun,hv⟩:=aoQ (hρ x) (hρ ix) hy (hT.str ht rfl)
      exact value hr (by unfold execOp; simp only [ho]; exact vrun hrun) hv
    · rename_i n e sz by_ ag ze ht
      obtain ⟨y,hy,hr⟩:=ZS h
      obtain ⟨v,hrun,hv⟩:=anM hT (hT.array ht rfl) (hρ x) (hρ ix) hy
      exact value hr (by unfold execOp; simp only [ho]; exact vrun hrun) hv
    · cases h
  · -- extract
    rename_i x i ho
    split at h
    rotate_left
    · cases h
    rename_i vs hvs
    obtain ⟨y,hy,hr⟩:=ZS h
    have hxv:=hρ x
    rw [hvs] at hxv
    generalize hev:a.eval x=xv at hxv
    cases hxv with
    | tup us _ hl hrel=>
    obtain ⟨hi,rfl⟩:=List.getElem?_eq_some_iff.1 hy
    have hi':i < us.length:=by omega
    refine value hr (v:=us[i]) (by unfold execOp; simp only [ho,hev]; exact vrun (by simp [Instr.extract,hi'])) (hrel i hi' hi)
  · -- a builtin
    rename_i b args ts ho
    have hbi:∃ consts,(execOp a.eval o).run G.P w=(builtin b ts o.type consts (args.map a.eval)).run G.P w:=by
      refine ⟨args.map fun | .const _=>true | _=>false,?_⟩
      unfold execOp
      simp only [ho,resolve,Sem.run_bind,Sem.run_pure,Result.andThen_ok,invoke]
      rfl
    obtain ⟨consts,hbi⟩:=hbi
    have hargs:∀ {l:List AV},args.toList.map ρ=l→∃ us,args.map a.eval=us.toArray∧RelL w F m us l:=fun he=>by
      subst he
      exact ⟨args.toList.map a.eval,by apply Array.ext'; simp,RelL.map hρ _⟩
    have hts:∀ {l:List Nat},ts.toList=l→ts=l.toArray:=fun he=>by subst he; simp
    unfold aaT at h
    split at h
    · -- len
      rename_i t x htl hal
      obtain ⟨us,hus,hrel⟩:=hargs hal
      have htse:=hts htl
      subst htse
      obtain ⟨u,rfl⟩:∃ u,us=[u]:=by
        have hl:=hrel.1
        cases us with
        | nil=>simp at hl
        | cons u r=>cases r with
          | nil=>exact ⟨u,rfl⟩
          | cons _ _=>simp at hl
      have hu:=hrel.head
      have fin:∀ n:Nat,(Builtin.len_ #[t] o.type #[u]).run G.P w=.ok (goInt n) w→r=.ok ⟨.pv (.int .i64 n),[],[]⟩→Z6 G.P o a w (Good w F Pr m look nid r) (Bad w F Pr m look nid r):=fun n hl hr=>
        value hr (v:=goInt n) (by rw [hbi,hus]; unfold builtin; exact vrun hl) (.pv (.int _ _))
      split at h
      · rename_i sz by_ ag ze s ht
        obtain ⟨y,hy,hr⟩:=ZS h
        injection hy with hy
        subst hy
        cases hu with | pv hp=>
        cases hp
        have hu':=hT.str ht rfl
        exact fin _ (by simp [Builtin.len_,run_underlying hu']) hr
      · cases h
      · rename_i e sz by_ ag ze ht hns
        obtain ⟨y,hy,hr⟩:=ZS h
        rw [Option.map_eq_some_iff] at hy
        obtain ⟨n,hn,rfl⟩:=hy
        have hu':=hT.slice ht rfl
        rcases aqn hu hn with ⟨A,c,rfl⟩ | ⟨s,rfl,rfl⟩
        · exact fin n (by cases A <;> simp [Builtin.len_,run_underlying hu']) hr
        · unfold lenA at hn
          split at hn <;> (try cases hn) <;> cases hu <;> (try (rename_i hp; cases hp))
          exact absurd rfl (hns _)
      · cases h
    · -- append
      rename_i t u x y htl hal
      obtain ⟨us,hus,hrel⟩:=hargs hal
      have htse:=hts htl
      subst htse
      obtain ⟨u1,u2,rfl⟩:∃ u v,us=[u,v]:=by
        have hl:=hrel.1
        cases us with
        | nil=>simp at hl
        | cons u r=>cases r with
          | nil=>simp at hl
          | cons v r'=>cases r' with
            | nil=>exact ⟨u,v,rfl⟩
            | cons _ _=>simp at hl
      have fin:∀ d,G.P.underlying u=some d→(d=.string∨∃ e',d=.slice e')→((zP y look).bind fun rows=>okE (qT G.T nid t x rows look))=some r→Z6 G.P o a w (Good w F Pr m look nid r) (Bad w F Pr m look nid r):=fun d hd hk hh=>by
        obtain ⟨rows,hrows,hh⟩:=Option.bind_eq_some_iff.1 hh
        obtain ⟨e,he,rfl⟩:=aax hh
        obtain ⟨v,w1,hrun,hp⟩:=anU (ty:=o.type) (nid:=nid) hT hI (fun hne γ h=>hf nid (Nat.le_refl _) (by
          have:=List.length_pos_iff.2 hne
          simp only [Res.new]; omega) γ h) hrel.head hrel.tail.head hd hk hrows he
        exact Z6.value (by rw [hbi,hus]; unfold builtin; exact vrun hrun) ⟨_,rfl,hp⟩
      split at h
      · rename_i sz by_ ag ze ht
        exact fin _ (hT.str ht rfl) (.inl rfl) h
      · rename_i e sz by_ ag ze ht
        exact fin _ (hT.slice ht rfl) (.inr ⟨_,rfl⟩) h
      · cases h
    · -- copy
      rename_i t u x y htl hal
      obtain ⟨us,hus,hrel⟩:=hargs hal
      have htse:=hts htl
      subst htse
      obtain ⟨u1,u2,rfl⟩:∃ u v,us=[u,v]:=by
        have hl:=hrel.1
        cases us with
        | nil=>simp at hl
        | cons u r=>cases r with
          | nil=>simp at hl
          | cons v r'=>cases r' with
            | nil=>exact ⟨u,v,rfl⟩
            | cons _ _=>simp at hl
      have fin:∀ d,G.P.underlying u=some d→(d=.string∨∃ e',d=.slice e')→((zP y look).bind fun rows=>okE (aiY G.T t x rows look))=some r→Z6 G.P o a w (Good w F Pr m look nid r) (Bad w F Pr m look nid r):=fun d hd hk hh=>by
        obtain ⟨rows,hrows,hh⟩:=Option.bind_eq_some_iff.1 hh
        obtain ⟨e,he,rfl⟩:=aax hh
        obtain ⟨v,w1,hrun,hp⟩:=apv (u:=u) (ty:=o.type) (nid:=nid) hT hI hrel.head hrel.tail.head hrows he
        exact Z6.value (by rw [hbi,hus]; unfold builtin; exact vrun hrun) ⟨_,rfl,hp⟩
      split at h
      · rename_i sz by_ ag ze ht
        exact fin _ (hT.str ht rfl) (.inl rfl) h
      · rename_i e sz by_ ag ze ht
        exact fin _ (hT.slice ht rfl) (.inr ⟨_,rfl⟩) h
      · cases h
    · -- clear
      rename_i t x htl hal
      obtain ⟨us,hus,hrel⟩:=hargs hal
      have htse:=hts htl
      subst htse
      obtain ⟨u,rfl⟩:∃ u,us=[u]:=by
        have hl:=hrel.1
        cases us with
        | nil=>simp at hl
        | cons u r=>cases r with
          | nil=>exact ⟨u,rfl⟩
          | cons _ _=>simp at hl
      obtain ⟨e,he,rfl⟩:=aax h
      obtain ⟨v,w1,hrun,hp⟩:=aoE (ty:=o.type) (nid:=nid) hT hI hrel.head he
      exact Z6.value (by rw [hbi,hus]; unfold builtin; exact vrun hrun) ⟨_,rfl,hp⟩
    · rename_i x r' hal
      obtain ⟨us,hus,hrel⟩:=hargs hal
      cases us with
      | nil=>have:=hrel.1; simp at this
      | cons u us=>
      obtain ⟨y,hy,hr⟩:=ZS h
      obtain ⟨v,hrun,hv⟩:=ald (P:=G.P) (w:=w) (F:=F) (m:=m) (f:=minA) (g:=Builtin.min2) (fun a b c=>ap0 a b c) us r' u x y hrel.head hrel.tail hy
      exact value hr (by rw [hbi,hus]; unfold builtin; exact vrun (by simpa [Builtin.min_] using hrun)) hv
    · rename_i x r' hal
      obtain ⟨us,hus,hrel⟩:=hargs hal
      cases us with
      | nil=>have:=hrel.1; simp at this
      | cons u us=>
      obtain ⟨y,hy,hr⟩:=ZS h
      obtain ⟨v,hrun,hv⟩:=ald (P:=G.P) (w:=w) (F:=F) (m:=m) (f:=maxA) (g:=Builtin.max2) (fun a b c=>aqc a b c) us r' u x y hrel.head hrel.tail hy
      exact value hr (by rw [hbi,hus]; unfold builtin; exact vrun (by simpa [Builtin.max_] using hrun)) hv
    · cases h
  · rename_i f args ts ho
    refine apj hG hC hI hρ hf (fun as has i hi=>hlt i ?_) ho h
    unfold foot
    simp only [ho,has]; exact hi
  · -- panic
    rename_i x ho
    split at h
    rotate_left
    · cases h
    rename_i t p hx
    injection h with h
    subst h
    have hxv:=hρ x
    rw [hx] at hxv
    generalize hev:a.eval x=xv at hxv
    cases hxv with | pv hp=>
    cases hp with
    | ifc _ v _ hv=>
    exact Z6.panic (v:=.iface t v) (w':=w) (by unfold execOp; simp only [ho,hev,Instr.panic]; rfl) ⟨_,rfl,Post.same hI (.pv (.ifc _ _ _ hv))⟩
  · -- makeInterface
    rename_i t x ho
    have fin:∀ (d:TypeDesc) (p:PV),G.P.underlying t=some d→(∀ ms,d≠.interface ms)→ρ x=.pv p→okV (some (.pv (.ifc t p)))=some r→Z6 G.P o a w (Good w F Pr m look nid r) (Bad w F Pr m look nid r):=fun d p hd hni hx hh=>by
      obtain ⟨y,hy,hr⟩:=ZS hh
      injection hy with hy
      subst hy
      have hxv:=hρ x
      rw [hx] at hxv
      generalize hev:a.eval x=xv at hxv
      cases hxv with | pv hp=>
      refine value hr (v:=.iface t xv) ?_ (.pv (.ifc _ _ _ hp))
      unfold execOp
      simp only [ho,hev]
      refine vrun ?_
      cases d <;> first | exact absurd rfl (hni _) | simp [Instr.makeInterface,run_underlying hd]
    split at h
    · rename_i k sz by_ ag ze p ht hx
      exact fin _ p (hT.int ht rfl) (fun ms e=>by cases e) hx h
    · rename_i sz by_ ag ze p ht hx
      exact fin _ p (hT.str ht rfl) (fun ms e=>by cases e) hx h
    · cases h
  · -- a new map
    rename_i t ho
    obtain ⟨e,he,rfl⟩:=aax h
    have hnew:nid < nid+e.new.length:=by
      unfold agF at he
      split at he
      · injection he with he; subst he; simp
      · cases he
    obtain ⟨v,w1,hrun,hp⟩:=ama (nid:=nid) hT hI (hf nid (Nat.le_refl _) (by simpa [Res.new] using hnew)) he
    exact Z6.value (by unfold execOp; simp only [ho]; exact vrun hrun) ⟨_,rfl,hp⟩
  · rename_i t x k ok ho
    obtain ⟨y,hy,hr⟩:=ZS h
    obtain ⟨v,hrun,hv⟩:=anE hT hI (hρ x) (hρ k) hy
    exact value hr (by unfold execOp; simp only [ho]; exact vrun hrun) hv
  · rename_i t x k v ho
    obtain ⟨e,he,rfl⟩:=aax h
    obtain ⟨w1,hrun,hp⟩:=ala (nid:=nid) hT hI (hρ x) (hρ k) (hρ v) he
    exact Z6.skip (by unfold execOp; simp only [ho]; exact urun hrun) ⟨_,rfl,hp⟩
  · cases h
end Go.Ab
