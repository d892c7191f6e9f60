import Derived.Test.YtejbcaheoloahaaGreatAbOps8
import Derived.MapKept
import Derived.Carry
set_option linter.unusedVariables false
set_option linter.unusedSimpArgs false
namespace Go.Ab
open Go Go.MapKept
variable {P:Program} {T:Nat→Option TI} {w w':World} {F:Froz} {Pr:Nat→Prop} {m:Mu} {look:Look} {nid:Nat}
theorem TOk.map (hT:TOk P T) {t:Nat} {ti:TI} {k e:Nat} (h:T t=some ti) (hd:ti.desc=.map k e):P.underlying t=some (.map k e):=by
  obtain ⟨i,d,z,h1,h2,h3,_⟩:=hT.ok t ti h
  rw [hd] at h3
  cases d <;> simp [tdOf] at h3
  obtain ⟨rfl,rfl⟩:=h3
  exact h2
theorem aow {a b:ByteArray} (e:(a == b)=true):a=b:=by
  first
  | exact eq_of_beq e
  | (obtain ⟨x⟩:=a; obtain ⟨y⟩:=b
     have:(x == y)=true:=e
     rw [eq_of_beq this])
theorem amp (a:ByteArray):(a == a)=true:=by
  first
  | exact beq_self_eq_true a
  | (obtain ⟨x⟩:=a
     show (x == x)=true
     simp)
theorem run_checkKey {k:Nat} {ki:TI} (hT:TOk P T) (h:T k=some ki) (hk:am2 ki.desc=true) (b:Bool) (n:Nat) (v:Value) (w:World):(Instr.checkKey b (n+1) k v).run P w=.ok () w:=by
  obtain ⟨i,d,z,h1,h2,h3,_⟩:=hT.ok k ki h
  rw [← h3] at hk
  cases d <;> simp [tdOf,am2] at hk <;> simp [Instr.checkKey,run_underlying h2]
theorem apo {d:TD} {desc:TypeDesc} (hd:tdOf desc=d) {kv ev:Value} {k p:PV} (hk:Rep w F kv k) (hp:Rep w F ev p) {b:Bool} (h:akB d k p=some b):
    Instr.sameNow desc kv ev=some b∧(b=true→Instr.sameBits 10000 ev kv=true):=by
  unfold akB at h
  split at h
  · split at h
    · rename_i q k1 a k2 c e
      subst e
      injection h with h
      subst h
      cases hk; cases hp
      cases desc <;> simp [tdOf] at hd
      refine ⟨by simp [Instr.sameNow],fun e=>?_⟩
      simp only [Instr.sameBits,beq_self_eq_true,Bool.true_and]
      simp at e ⊢
      exact e.symm
    · cases h
  · injection h with h
    subst h
    cases hk; cases hp
    cases desc <;> simp [tdOf] at hd
    refine ⟨by simp [Instr.sameNow],fun e=>?_⟩
    simp only [Instr.sameBits]
    rw [aow e]
    exact amp _
  · injection h with h
    subst h
    cases hk; cases hp
    cases desc <;> simp [tdOf] at hd
    refine ⟨by simp [Instr.sameNow],fun e=>?_⟩
    simp only [Instr.sameBits]
    have:=eq_of_beq e
    subst this
    simp
  · cases h
theorem acK.tail {e:MapEntry} {es:List MapEntry} {x:PV × List PV} {xs:List (PV × List PV)} (h:acK w F (e :: es) (x :: xs)):acK w F es xs:=
  ⟨by simpa using h.1,fun j a b=>h.2 (j+1) (by simpa using a) (by simpa using b)⟩
def Found (es:List MapEntry) (xs:List (PV × List PV)) (kv:Value) (i:Nat):Option (Nat × List PV)→Option (Nat × Value)→Prop
  | none,r=>r=none
  | some v,r=>∃ n,∃ (h:n < es.length) (h':n < xs.length),v=(i+n,xs[n].2)∧r=some (i+n,es[n].val)∧Instr.sameBits 10000 es[n].key kv=true
theorem aiS {d:TD} {desc:TypeDesc} (hd:tdOf desc=d) {kv:Value} {k:PV} (hk:Rep w F kv k):∀ (es:List MapEntry) (xs:List (PV × List PV)) (i:Nat) (r:Option (Nat × List PV)),acK w F es xs→afS d k xs i=some r→
    ∃ r',Instr.findNow desc kv es i=some r'∧Found es xs kv i r r'
  | [],[],i,r,_,h=>by
    simp only [afS,Option.some.injEq] at h
    subst h
    exact ⟨none,rfl,rfl⟩
  | [],x :: xs,i,r,hE,h=>by have:=hE.1; simp at this
  | e :: es,[],i,r,hE,h=>by have:=hE.1; simp at this
  | e :: es,x :: xs,i,r,hE,h=>by
    have h0:=hE.2 0 (by simp) (by simp)
    simp only [List.getElem_cons_zero] at h0
    simp only [afS] at h
    cases hs:akB d k x.1 with
    | none=>rw [hs] at h; cases h
    | some b=>
      obtain ⟨q1,q2⟩:=apo hd hk h0.1 hs
      rw [hs] at h
      cases b with
      | true=>
        simp only [Option.some.injEq] at h
        subst h
        refine ⟨some (i,e.val),by simp [Instr.findNow,q1],0,by simp,by simp,by simp,by simp,?_⟩
        simpa using q2 rfl
      | false=>
        simp only at h
        obtain ⟨r',a,b⟩:=aiS hd hk es xs (i+1) r hE.tail h
        refine ⟨r',by simp [Instr.findNow,q1,a],?_⟩
        cases r with
        | none=>exact b
        | some v=>
          obtain ⟨n,g1,g2,g3,g4,g5⟩:=b
          refine ⟨n+1,by simpa using g1,by simpa using g2,?_,?_,by simpa using g5⟩
          · rw [g3]; simp only [List.getElem_cons_succ]; congr 1; omega
          · rw [g4]; simp only [List.getElem_cons_succ]; congr 2; omega
theorem run_findKey {kt:Nat} {ki:TI} (hT:TOk P T) (hkt:T kt=some ki) {kv:Value} {k:PV} (hk:Rep w F kv k) {es:List MapEntry} {xs:List (PV × List PV)} {r:Option (Nat × List PV)} (hE:acK w F es xs) (h:afS ki.desc k xs 0=some r):
    ∃ r',(∀ w1:World,(Instr.findKey kt kv es).run P w1=.ok r' w1)∧Found es xs kv 0 r r':=by
  obtain ⟨i,d,z,h1,h2,h3,_⟩:=hT.ok kt ki hkt
  obtain ⟨r',a,b⟩:=aiS h3 hk es xs 0 r hE h
  exact ⟨r',fun w1=>by simp [Instr.findKey,run_underlying h2,a],b⟩
theorem ao8 {xv:Value} {x:AV} {xs:List (PV × List PV)} (hI:Inv w F Pr m look) (hx:RelV w F m xv x) (h:ag5 x look=some xs):
    ∃ es:Array MapEntry,acK w F es.toList xs∧((xv=.map none∧es=#[])∨∃ g clock,xv=.map (some g)∧w.heap[g]?=some (.map es clock)):=by
  unfold ag5 at h
  split at h
  · injection h with h
    subst h
    cases hx with | pv hp=>
    cases hp
    exact ⟨#[],⟨rfl,fun j h=>by simp at h⟩,.inl ⟨rfl,rfl⟩⟩
  · rename_i id
    split at h
    · rename_i a b es he
      injection h with h
      subst h
      cases hx with | map hm=>
      rename_i g c
      obtain ⟨g',c',es,clock,k1,k2,k3,k4,k5⟩:=hI.blk _ _ he
      rw [hm] at k1
      injection k1 with k1
      injection k1 with k1 k1'
      subst k1
      exact ⟨es,k4,.inr ⟨_,clock,rfl,k3⟩⟩
    · cases h
  · cases h
theorem anE {t:Nat} {xv kv:Value} {x k y:AV} {ok:Bool} (hT:TOk P T) (hI:Inv w F Pr m look) (hx:RelV w F m xv x) (hk:RelV w F m kv k) (h:afa T t x k ok look=some y):
    ∃ v,(Instr.lookup t xv kv ok).run P w=.ok v w∧RelV w F m v y:=by
  unfold afa at h
  split at h
  rotate_left
  · cases h
  rename_i kt e sz by_ ag ze key ht
  split at h
  rotate_left
  · cases h
  rename_i ki ei hki hei
  split at h
  rotate_left
  · cases h
  rename_i hc
  obtain ⟨xs,hxs,h⟩:=Option.bind_eq_some_iff.1 h
  obtain ⟨r,hr,h⟩:=Option.bind_eq_some_iff.1 h
  obtain ⟨es,hE,hes⟩:=ao8 hI hx hxs
  cases hk with | pv hk=>
  obtain ⟨r',hf,hF⟩:=run_findKey hT hki hk hE hr
  have hu:=hT.map ht rfl
  obtain ⟨i,d,z,z1,z2,z3,z4,z5,z6,z7,z8,z9,z10,z11,z12⟩:=hT.ok e ei hei
  obtain ⟨z13,z14⟩:=z11 hc.2
  have hz:∀ w1:World,(zeroValue e).run P w1=.ok z w1:=fun w1=>by simp [zeroValue,typeInfo,z1,z7]
  have fin:∀ (v:Value) (q:List PV × Bool),(q.1.length=1→∀ p,q.1=[p]→Rep w F v p)→looked ok q=some y→RelV w F m (if ok then .tuple #[v,.bool q.2] else v) y:=by
    intro v q hq hy
    obtain ⟨ps,b⟩:=q
    unfold looked at hy
    split at hy
    · rename_i p b' he
      injection he with e1 e2
      subst e1; subst e2
      injection hy with hy
      subst hy
      have hp:=hq rfl p rfl
      cases ok
      · exact .pv hp
      · exact .tup [v,.bool b] [.pv p,.pv (.bool b)] rfl (fun j h h'=>by
          match j,h with
          | 0,_=>exact .pv hp
          | 1,_=>exact .pv (.bool b))
    · cases hy
  have hck:=fun b=>run_checkKey hT hki hc.1 b 9999 kv w
  simp only [Nat.reduceAdd] at hck
  have hrun:(Instr.lookup t xv kv ok).run P w=(do
      let (v,o) ← match r' with
        | some (_,v)=>pure (v,true)
        | none=>pure (← zeroValue e,false)
      pure (if ok then .tuple #[v,.bool o] else v):Sem Value).run P w:=by
    rcases hes with ⟨rfl,rfl⟩ | ⟨g,clock,rfl,hg⟩
    · simp only [Instr.lookup,Sem.run_bind,run_underlying hu,Result.andThen_ok,Sem.run_pure,hck,hf]
      cases r' <;> rfl
    · simp only [Instr.lookup,Sem.run_bind,run_underlying hu,Result.andThen_ok,Sem.run_pure,MapKept.run_getObj_map hg,hck,hf]
      cases r' <;> rfl
  rw [hrun]
  cases r with
  | none=>
    have hF:r'=none:=hF
    subst hF
    refine ⟨_,by simp only [Sem.run_bind,hz,Result.andThen_ok,Sem.run_pure],fin z (ei.zero,false) (fun hl p hp=>?_) h⟩
    have:=z12 w F 0 (by omega) (by omega)
    simp only at hp
    have e1:z.cells[0]'(by omega)=z:=by
      have:=afF z14
      simp [this]
    simp only [hp,List.getElem_cons_zero,e1] at this
    exact this
  | some v=>
    obtain ⟨n,g1,g2,rfl,rfl,_⟩:=hF
    refine ⟨_,by simp only [Sem.run_bind,Result.andThen_ok,Sem.run_pure],fin es.toList[n].val (xs[n].2,true) (fun _ p hp=>?_) h⟩
    obtain ⟨p',e1,e2⟩:=(hE.2 n g1 g2).2
    simp only [e1,List.cons.injEq,and_true] at hp
    subst hp
    exact e2
theorem ama {t:Nat} {e:Eff} (hT:TOk P T) (hI:Inv w F Pr m look) (hf:∀ γ h,m nid γ h=none) (h:agF T nid t=some e):
    ∃ v w',(Instr.makeMap t none).run P w=.ok v w'∧Post w F Pr m look nid e v w':=by
  unfold agF at h
  split at h
  rotate_left
  · cases h
  rename_i kt et sz by_ ag ze ht
  injection h with h
  subst h
  have hh:(w.alloc (.map #[] 0)).heap=w.heap.push (.map #[] 0):=rfl
  have hx:=Ext.push (w':=w.alloc (.map #[] 0)) hI hh rfl rfl rfl
  refine ⟨_,_,RowKit.run_makeMap t w,F,QN m nid 0 0 (w.heap.size,0),hx,Qa (hf _ _),.map (Qx _ _ _ _ _),?_,fun i _ hi γ h=>?_⟩
  · rw [ac7]
    refine hI.push hh hf ⟨w.heap.size,0,#[],0,Qx _ _ _ _ _,fun γ h x hx=>(acv hf hx).2.2,aa1 hh,⟨rfl,fun j h=>by simp at h⟩,fun hp=>?_⟩
    have:=hI.szP _ hp; omega
  · have:i≠nid:=by simp at hi; omega
    exact qa this _ _
theorem ala {t:Nat} {xv kv vv:Value} {x k v:AV} {e:Eff} (hT:TOk P T) (hI:Inv w F Pr m look) (hx:RelV w F m xv x) (hk:RelV w F m kv k) (hv:RelV w F m vv v)
    (h:abF T t x k v look=some e):∃ w',(Instr.mapUpdate t xv kv vv).run P w=.ok () w'∧Post w F Pr m look nid e undef w':=by
  unfold abF at h
  split at h
  rotate_left
  · cases h
  rename_i kt et sz by_ ag ze id key p ht
  split at h
  rotate_left
  · cases h
  rename_i ki a b xs hki hl
  split at h
  rotate_left
  · cases h
  rename_i hc
  rw [Option.map_eq_some_iff] at h
  obtain ⟨r,hr,rfl⟩:=h
  cases hk with | pv hk=>
  cases hv with | pv hv=>
  cases hx with | map hm=>
  rename_i g c
  have hblk:=hI.blk _ _ hl
  obtain ⟨g',c',es,clock,k1,k2,k3,k4,k5⟩:=hblk
  rw [hm] at k1
  injection k1 with k1
  injection k1 with k1 k1'
  subst k1; subst k1'
  obtain ⟨r',hf,hF⟩:=run_findKey hT hki hk k4 hr
  have hu:=hT.map ht rfl
  have hck:=fun b=>run_checkKey hT hki hc b 9999 kv w
  simp only [Nat.reduceAdd] at hck
  have main:∃ es' clock',(Instr.mapUpdate t (.map (some g)) kv vv).run P w=.ok () { w with heap:=w.heap.setIfInBounds g (.map es' clock') }∧acK w F es'.toList (anc key p xs r):=by
    cases r with
    | none=>
      have hF:r'=none:=hF
      subst hF
      refine ⟨es.push ⟨kv,vv,clock⟩,clock+1,?_,?_⟩
      · simp only [Instr.mapUpdate,Sem.run_bind,run_underlying hu,Result.andThen_ok,MapKept.run_getObj_map k3,hck,hf,MapKept.run_setObj_map _ k3]
      · simp only [anc,Array.toList_push]
        refine ⟨by simp [k4.1],fun j h h'=>?_⟩
        by_cases hj:j < es.toList.length
        · rw [List.getElem_append_left hj,List.getElem_append_left (k4.1 ▸ hj)]
          exact k4.2 j hj _
        · have e1:j=es.toList.length:=by simp at h hj ⊢; omega
          subst e1
          have e2:=k4.1
          rw [List.getElem_append_right (Nat.le_refl _),List.getElem_append_right (by omega)]
          simp only [e2,Nat.sub_self,List.getElem_cons_zero]
          exact ⟨hk,p,rfl,hv⟩
    | some q=>
      obtain ⟨n,g1,g2,rfl,rfl,g3⟩:=hF
      have g1':n < es.size:=by simpa using g1
      refine ⟨es.modify n fun e=>{ e with key:=kv,val:=vv },clock,?_,?_⟩
      · have hkey:((es[n]?).map (·.key)).getD kv=es.toList[n].key:=by simp [g1']
        simp only [Instr.mapUpdate,Sem.run_bind,run_underlying hu,Result.andThen_ok,MapKept.run_getObj_map k3,hck,hf,Nat.zero_add,hkey,Instr.keyThatStays,g3,if_true,Sem.run_pure,MapKept.run_setObj_map _ k3]
      · simp only [anc,Nat.zero_add]
        refine ⟨by simp [k4.1],fun j h h'=>?_⟩
        have hj:j < es.toList.length:=by simpa using h
        have hj':j < xs.length:=by simpa using h'
        simp only [Array.toList_modify,List.getElem_modify,List.getElem_set]
        by_cases e:n=j
        · subst e
          simp only [if_true]
          exact ⟨hk,p,rfl,hv⟩
        · rw [if_neg e,if_neg e]
          exact k4.2 j hj hj'
  obtain ⟨es',clock',hrun,hE⟩:=main
  have hlt:g < w.heap.size:=by
    have:=hI.sz id _ 0 0 g c hl hm; exact this
  have hnF:∀ o,¬ F g o:=fun o hF=>by
    obtain ⟨u,hu⟩:=hI.szF g o hF
    simp [World.cell?,k3] at hu
  let w1:World:={ w with heap:=w.heap.setIfInBounds g (.map es' clock') }
  have hother:∀ q,q≠g→w1.heap[q]?=w.heap[q]?:=fun q hq=>by
    simp only [w1,Array.getElem?_setIfInBounds]
    rw [if_neg (fun e=>hq e.symm)]
  have hsz:w1.heap.size=w.heap.size:=by simp [w1]
  have hcell:∀ q o,F q o→w1.cell? ⟨q,o,none⟩=w.cell? ⟨q,o,none⟩:=fun q o hF=>ZR (hother q fun e=>hnF o (e ▸ hF))
  refine ⟨w1,hrun,F,m,⟨rfl,rfl,rfl,by omega,hcell,fun q hq=>hother q fun e=>k5 (e ▸ hq),fun _ _ h=>h,fun _ _ h=>.inl h⟩,qi.refl m,.undef,?_,fun _ _ _ _ _=>rfl⟩
  rw [aaw]
  refine hI.write hl (by omega) (fun q hq hn=>hother q fun e=>hn 0 0 c (e ▸ hm)) hcell (qi.refl m) (fun _ _ _ _=>rfl) (fun γ h q c' hx=>.inl ⟨γ,h,c',hx⟩) ?_
  refine ⟨g,c,es',clock',hm,k2,?_,hE.keep hcell (fun _ _ h=>h),k5⟩
  simp only [w1,Array.getElem?_setIfInBounds]
  simp [hlt]
end Go.Ab
