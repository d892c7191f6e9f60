import Derived.Test.YtejbcaheoloahaaGreatAbOp
import Derived.ScopeJumps
set_option linter.unusedVariables false
set_option linter.unusedSimpArgs false
namespace Go.Ab
open Go
variable {w w':World} {F:Froz} {Pr:Nat→Prop} {m m':Mu} {look:Look} {nid:Nat}
structure RelSt (w:World) (F:Froz) (Pr:Nat→Prop) (m:Mu) (σ:St) (a:Act):Prop where
  t:RelT w F m a.tmps σ.tmps
  I:Inv w F Pr m (zp σ.heap)
  f:∀ i,σ.heap.length≤i→∀ γ h,m i γ h=none
def amj (n0:Nat) (m m':Mu):Prop:=∀ i,i < n0→∀ γ h x,m i γ h=some x→m' i γ h=some x
def aoW (w:World) (F:Froz) (m:Mu):Ex→Exit→Prop
  | .normal,.normal=>True
  | .exit i,.exit j=>i=j
  | .goto i,.goto j=>i=j
  | .ret,.ret=>True
  | .panic v,.panic ch=>∃ u,ch=[{ v:=u,recovered:=false }]∧RelV w F m u v
  | _,_=>False
structure ab5 where
  w:World
  F:Froz
  Pr:Nat→Prop
  m:Mu
  n0:Nat
  d:List Deferred
def Q5 (B:ab5) (w:World) (F:Froz) (m:Mu) (σ:St) (a:Act):Prop:=
  Ext B.w B.F B.Pr w F∧amj B.n0 B.m m∧RelSt w F B.Pr m σ a∧a.defers=B.d∧B.n0≤σ.heap.length
def ac6 (B:ab5) (ex:Ex) (σ:St):Exit→Act→World→Prop:=fun e a w=>∃ F m,Q5 B w F m σ a∧aoW w F m ex e
theorem adh:∀ (l:List (Nat × Blk)) (H:List Blk),(aev H l).length=H.length
  | [],H=>rfl
  | p :: l,H=>by simp [aev,adh l]
theorem aiA:∀ (l:List (Nat × Blk)) (H:List Blk) (i:Nat),(∀ p,p∈l→p.1 < H.length)→(aev H l)[i]?=match l.reverse.find? (·.1 == i) with
    | some p=>some p.2
    | none=>H[i]?
  | [],H,i,_=>by simp [aev]
  | (k,b) :: l,H,i,h=>by
    simp only [aev]
    rw [aiA l (H.set k b) i (fun p hp=>by have:=h p (by simp [hp]); simpa using this)]
    rw [List.reverse_cons,List.find?_append]
    cases hf:l.reverse.find? (·.1 == i) with
    | some p=>simp
    | none=>
      simp only [Option.none_or,List.find?_cons,List.find?_nil]
      have hk:=h (k,b) (by simp)
      by_cases e:k=i
      · subst e
        simp only [beq_self_eq_true]
        rw [List.getElem?_set_self hk]
      · have:(k == i)=false:=by simpa using e
        simp only [this]
        rw [List.getElem?_set_ne e]
theorem abd {H:List Blk} {e:Eff} (h:abt H e=true):zp (qy H e)=ZF (zp H) H.length e:=by
  have hu:∀ p,p∈e.upd→p.1 < H.length:=fun p hp=>by
    have:=List.all_eq_true.1 h p hp
    simpa using this
  funext i
  unfold zp qy ZF
  have hl:=adh e.upd H
  by_cases hi:H.length≤i∧i < H.length+e.new.length
  · rw [if_pos hi,List.getElem?_append_right (by omega),hl]
  · rw [if_neg hi]
    by_cases h2:i < H.length
    · rw [List.getElem?_append_left (by omega),aiA _ _ _ hu]
      rfl
    · rw [List.getElem?_append_right (by omega),hl,List.getElem?_eq_none (by omega)]
      rw [Q7 (fun p hp e=>by have:=hu p hp; omega)]
      simp [List.getElem?_eq_none (show H.length≤i by omega)]
theorem qw (H:List Blk) (e:Eff):(qy H e).length=H.length+e.new.length:=by simp [qy,adh]
theorem Q5.post {B:ab5} {σ:St} {a:Act} {e:Eff} {u:Value} (h:Q5 B w F m σ a) (hp:Post w F B.Pr m (zp σ.heap) σ.heap.length e u w') (hu:abt σ.heap e=true) (dst:Option Nat):
    ∃ F' m',Q5 B w' F' m' ⟨putA σ.tmps dst e.val,qy σ.heap e⟩ (a.put dst u):=by
  obtain ⟨h1,h2,h3,h4,h5⟩:=h
  obtain ⟨F',m',p1,p2,p3,p4,p5⟩:=hp
  refine ⟨F',m',h1.trans p1,fun i hi γ h x hx=>p2 _ _ _ _ (h2 i hi γ h x hx),⟨(h3.t.keep p1.fz p1.mono p2).put dst p3,by rw [abd hu]; exact p4,fun i hi γ h=>?_⟩,by rw [put_defers]; exact h4,by simp only [qw]; omega⟩
  simp only [qw] at hi
  rw [p5 i (fun p hp e=>by have:=List.all_eq_true.1 hu p hp; simp at this; omega) (.inr hi)]
  exact h3.f i (by omega) γ h
theorem Q5.postPan {B:ab5} {σ:St} {a:Act} {e:Eff} {u:Value} (h:Q5 B w F m σ a) (hp:Post w F B.Pr m (zp σ.heap) σ.heap.length e u w') (hu:abt σ.heap e=true):
    ∃ F' m',Q5 B w' F' m' ⟨σ.tmps,qy σ.heap e⟩ a∧RelV w' F' m' u e.val:=by
  obtain ⟨h1,h2,h3,h4,h5⟩:=h
  obtain ⟨F',m',p1,p2,p3,p4,p5⟩:=hp
  refine ⟨F',m',⟨h1.trans p1,fun i hi γ h x hx=>p2 _ _ _ _ (h2 i hi γ h x hx),⟨h3.t.keep p1.fz p1.mono p2,by rw [abd hu]; exact p4,fun i hi γ h=>?_⟩,h4,by simp only [qw]; omega⟩,p3⟩
  simp only [qw] at hi
  rw [p5 i (fun p hp e=>by have:=List.all_eq_true.1 hu p hp; simp at this; omega) (.inr hi)]
  exact h3.f i (by omega) γ h
theorem aa5 {ops:Array Oper} {tmps:Array Value} {as:List AV} {o:Oper} {b:Bool} (h:RelT w F m tmps as) (hw:aaH ops as o=some b):Region.wanted o (yielded ops tmps)=b:=by
  unfold aaH at hw
  unfold Region.wanted
  split at hw
  · rename_i hg
    injection hw with hw
    simp only [hg]; exact hw
  · rename_i j want hg
    simp only [hg]
    unfold yielded
    split at hw
    · rename_i hd
      injection hw with hw
      simp only [hd,Option.bind_none]
      rw [← hw]; rfl
    · rename_i d hd
      simp only [hd,Option.bind_some]
      split at hw
      · rename_i b' hb
        injection hw with hw
        have hlt:d < as.length:=(List.getElem?_eq_some_iff.1 hb).1
        have hlt':d < tmps.size:=by rw [h.1]; exact hlt
        have:=h.2 d tmps[d] (by simp [hlt']) _ hb
        rw [show tmps[d]?=some tmps[d] by simp [hlt']]
        generalize tmps[d]=v at this
        cases this with | pv hp=>
        cases hp
        simp only [← hw]
        cases b' <;> cases want <;> rfl
      · rename_i hb
        injection hw with hw
        have hlt:d < as.length:=(List.getElem?_eq_some_iff.1 hb).1
        have hlt':d < tmps.size:=by rw [h.1]; exact hlt
        have:=h.2 d tmps[d] (by simp [hlt']) _ hb
        rw [show tmps[d]?=some tmps[d] by simp [hlt']]
        generalize hv:tmps[d]=v at this
        cases this
        rw [← hw]; rfl
      · cases hw
theorem agX {G:Cfg} {C:ZH} {B:ab5} (hG:GOk G) (hC:acM G.P C) (ops:Array Oper):∀ (l:List Oper) (i:Nat) (seen seen':List Seen) (σ σ':St) (ex:Ex),
    aav G C ops i l seen σ=some (ex,σ',seen')→∀ (a:Act) (w:World) (F:Froz) (m:Mu),Q5 B w F m σ a→wpList G.P ops (ac6 B ex σ') l a w
  | [],i,seen,seen',σ,σ',ex,h,a,w,F,m,hs=>by
    simp only [aav,Option.some.injEq,Prod.mk.injEq] at h
    obtain ⟨rfl,rfl,rfl⟩:=h
    exact ⟨F,m,hs,trivial⟩
  | o :: l,i,seen,seen',σ,σ',ex,h,a,w,F,m,hs=>by
    simp only [aav] at h
    unfold wpList
    split at h
    · cases h
    · rename_i hw
      rw [if_neg (by rw [aa5 hs.2.2.1.t hw]; exact Bool.false_ne_true)]
      refine agX hG hC ops l _ _ _ _ _ _ h _ w F m ⟨hs.1,hs.2.1,⟨hs.2.2.1.t.put o.dst .undef,hs.2.2.1.I,hs.2.2.1.f⟩,by rw [put_defers]; exact hs.2.2.2.1,hs.2.2.2.2⟩
    · rename_i hw
      rw [if_pos (aa5 hs.2.2.1.t hw)]
      refine .inl ?_
      split at h
      · rename_i e he
        split at h
        rotate_left
        · cases h
        rename_i hc
        simp only [Bool.and_eq_true] at hc
        refine akx (nid:=σ.heap.length) hG hC hs.2.2.1.I hs.2.2.1.t.eval (fun i hi _=>hs.2.2.1.f i hi) (fun i hi=>by have:=List.all_eq_true.1 hc.2 i hi; simpa using this) he _ _ (fun v w' hg=>?_) (fun v w' hb=>?_)
        · obtain ⟨e',he',hp⟩:=hg
          injection he' with he'
          subst he'
          obtain ⟨F',m',hs'⟩:=hs.post hp hc.1 o.dst
          exact agX hG hC ops l _ _ _ _ _ _ h _ w' F' m' hs'
        · obtain ⟨e',he',_⟩:=hb; cases he'
      · rename_i e he
        split at h
        rotate_left
        · cases h
        rename_i hc
        simp only [Bool.and_eq_true] at hc
        simp only [Option.some.injEq,Prod.mk.injEq] at h
        obtain ⟨rfl,rfl,rfl⟩:=h
        refine akx (nid:=σ.heap.length) hG hC hs.2.2.1.I hs.2.2.1.t.eval (fun i hi _=>hs.2.2.1.f i hi) (fun i hi=>by have:=List.all_eq_true.1 hc.2 i hi; simpa using this) he _ _ (fun v w' hg=>?_) (fun v w' hb=>?_)
        · obtain ⟨e',he',_⟩:=hg; cases he'
        · obtain ⟨e',he',hp⟩:=hb
          injection he' with he'
          subst he'
          obtain ⟨F',m',hs',hv⟩:=hs.postPan hp hc.1
          exact ⟨F',m',hs',v,rfl,hv⟩
      · cases h
end Go.Ab
