import Derived.Test.YtejbcaheoloahaaGreatAbDraw5
import Derived.LoopN
set_option linter.unusedVariables false
set_option linter.unusedSimpArgs false
namespace Go.Ab
open Go
variable {w w':World} {F:Froz} {Pr:Nat→Prop} {m m':Mu} {look:Look} {nid:Nat}
theorem Q5.drawn {B:ab5} {σ:St} {a:Act} (h:Q5 B w F m σ a) (n:Nat):Q5 B { w with drawn:=n } F m σ a:=by
  obtain ⟨h1,h2,⟨t1,t2,t3⟩,h4,h5⟩:=h
  have hc:∀ g o,F g o→({ w with drawn:=n }:World).cell? ⟨g,o,none⟩=w.cell? ⟨g,o,none⟩:=fun _ _ _=>rfl
  exact ⟨⟨h1.os,h1.tape,h1.output,h1.size,h1.fz,h1.pr,h1.mono,h1.new⟩,h2,
    ⟨t1.keep hc (fun _ _ h=>h) (qi.refl _),⟨fun id b hb=>(t2.blk id b hb).keep hc (qi.refl _) (fun _ _ _ h=>h) (fun _ _ _ _ _=>rfl),t2.apart,t2.szF,t2.szP,t2.sz⟩,t3⟩,h4,h5⟩
theorem anX {G:Cfg} {C:ZH} {B:ab5} (hG:GOk G) (hm:G.P.follows .mixedOrders=true) (hC:acM G.P C) {id:Nat} {ops:Array Oper} {draw:Bool} {σ σ':St} {ex:Ex}
    (h:abB G C ops draw σ=some (ex,σ')) {a:Act} (hs:Q5 B w F m σ a):(Code.region id ops draw).wp G.P (ac6 B ex σ') a w:=by
  unfold abB at h
  split at h
  rotate_left
  · cases h
  rename_i ex1 σ1 seen hrun
  cases draw with
  | false=>
    simp only [Bool.false_eq_true,if_false,Option.some.injEq,Prod.mk.injEq] at h
    obtain ⟨rfl,rfl⟩:=h
    exact wp_region_list (agX hG hC ops _ _ _ _ _ _ _ hrun a w F m hs)
  | true=>
    simp only [if_true] at h
    have hemp:∀ i,zR (Array.replicate ops.size false) i=false:=fun i=>by
      unfold zR
      by_cases hi:i < ops.size <;> simp [Array.getD,hi]
    split at h
    rotate_left
    · rename_i v
      split at h
      rotate_left
      · cases h
      rename_i s0 r0
      split at h
      rotate_left
      · cases h
      rename_i hc
      simp only [Option.some.injEq,Prod.mk.injEq] at h
      obtain ⟨rfl,rfl⟩:=h
      simp only [Bool.and_eq_true] at hc
      obtain ⟨p,σp,tr,o,e,h0,hp,h1,h3,h4,h5,hw,ha,hu,hf,rfl,rfl⟩:=ahg _ _ _ _ _ _ _ hrun
      rw [List.append_nil,Nat.zero_add] at h0
      simp only [List.cons.injEq] at h0
      obtain ⟨rfl,rfl⟩:=h0
      have hpl:p < ops.size:=by
        have:=(List.getElem?_eq_some_iff.1 hp).1
        simpa using this
      have htl:tr.length=p:=by have:=h1.length; simp at this; omega
      refine wp_region_any hm ?_
      refine aoo hG hC hc.1.1 hc.1.2 h1 h3 h5 hs.2.2.2.2 (Nat.le_trans hs.2.2.2.2 h4) (by simpa using hp) hc.2 hw ha hu hf ops.size _ (by simp) ?_ (hemp p) (fun i o hi hx=>by rw [hemp] at hx; cases hx) a _ F m ?_
      · simp
      · have:Zq (zR (Array.replicate ops.size false)) (σ.tmps,zp σ.heap) 0 (tr++abo ops σp.heap.length p)=(σ.tmps,zp σ.heap):=by
          have:∀ (l:List Stp) (i:Nat) (x:TL),Zq (zR (Array.replicate ops.size false)) x i l=x:=by
            intro l
            induction l with
            | nil=>intro i x; rfl
            | cons t l ih=>intro i x; simp only [Zq,hemp,Bool.false_eq_true,if_false]; exact ih _ _
          exact this _ _ _
        rw [this]
        obtain ⟨g1,g2,g3,g4,g5⟩:=hs.drawn (w.drawn+1)
        refine ⟨g1,g2,g3.t,g3.I,g4,fun k s hk _ i hi1 hi2 γ h=>?_,fun i hi γ h=>g3.f i (by omega) γ h⟩
        by_cases hk':k < p
        · rw [List.getElem?_append_left (by omega)] at hk
          have:=(h1.base _ _ _ _).1 s (List.mem_of_getElem? hk)
          exact g3.f i (by omega) γ h
        · obtain ⟨o',_,rfl⟩:=(ahr htl (Nat.le_of_lt hpl) (by omega) s).1 hk
          simp only [List.length_nil,Nat.add_zero] at hi1 hi2
          omega
    · cases h
    split at h
    rotate_left
    · cases h
    rename_i hc
    simp only [Option.some.injEq,Prod.mk.injEq] at h
    obtain ⟨rfl,rfl⟩:=h
    simp only [Bool.and_eq_true] at hc
    obtain ⟨tr,h1,h2,h3,h4,h5⟩:=ajf _ _ _ _ _ _ hrun
    rw [List.append_nil] at h2
    rw [h2] at hc
    refine wp_region_any hm ?_
    refine apI hG hC hc.1 hc.2 h1 h3 h5 hs.2.2.2.2 (Nat.le_trans hs.2.2.2.2 h4) ops.size _ (by simp) ?_ (fun i o hi hx=>by rw [hemp] at hx; cases hx) a _ F m ?_
    · simp
    · have:Zq (zR (Array.replicate ops.size false)) (σ.tmps,zp σ.heap) 0 tr=(σ.tmps,zp σ.heap):=by
        have:∀ (l:List Stp) (i:Nat) (x:TL),Zq (zR (Array.replicate ops.size false)) x i l=x:=by
          intro l
          induction l with
          | nil=>intro i x; rfl
          | cons t l ih=>intro i x; simp only [Zq,hemp,Bool.false_eq_true,if_false]; exact ih _ _
        exact this _ _ _
      rw [this]
      obtain ⟨g1,g2,g3,g4,g5⟩:=hs.drawn (w.drawn+1)
      refine ⟨g1,g2,g3.t,g3.I,g4,fun k s hk _ i hi1 hi2 γ h=>?_,fun i hi γ h=>g3.f i (by omega) γ h⟩
      have:=(h1.base _ _ _ _).1 s (List.mem_of_getElem? hk)
      exact g3.f i (by omega) γ h
theorem RelT.toL {tmps:Array Value} {as:List AV} (h:RelT w F m tmps as):RelL w F m tmps.toList as:=
  ⟨by simpa using h.1,fun j h1 h2=>h.2 j _ (by simp at h1; simp [h1]) _ (by simp [h2])⟩
theorem RelL.toT {tmps:Array Value} {as:List AV} (h:RelL w F m tmps.toList as):RelT w F m tmps as:=by
  refine ⟨by simpa using h.1,fun t v hv x hx=>?_⟩
  obtain ⟨h1,e1⟩:=Array.getElem?_eq_some_iff.1 hv
  obtain ⟨h2,e2⟩:=List.getElem?_eq_some_iff.1 hx
  have:=h.2 t (by simpa using h1) h2
  subst e1 e2
  simpa using this
theorem afM:∀ (k:List Nat) {tmps:Array Value} {as:List AV},RelT w F m tmps as→RelT w F m tmps (qS as k)
  | [],_,_,h=>h
  | t :: r,tmps,as,h=>by
    refine afM r ⟨by simpa using h.1,fun d v hv x hx=>?_⟩
    by_cases e:t=d
    · subst e
      rw [List.getElem?_set] at hx
      simp only [if_true] at hx
      split at hx
      · injection hx with hx; subst hx; exact .any
      · cases hx
    · rw [List.getElem?_set_ne e] at hx
      exact h.2 d v hv x hx
theorem Q5.tidy {B:ab5} {σ σ':St} {a:Act} {n0:Nat} {kill:List Nat} (h:Q5 B w F m σ a) (hB:B.n0≤n0) (hn:n0≤σ.heap.length) (ht:tidy n0 kill σ=some σ'):
    ∃ m',Q5 B w F m' σ' a∧n0≤σ'.heap.length:=by
  unfold Ab.tidy at ht
  rw [Option.map_eq_some_iff] at ht
  obtain ⟨⟨ts,H'⟩,hc,rfl⟩:=ht
  obtain ⟨h1,h2,h3,h4,h5⟩:=h
  obtain ⟨m',k1,k2,k3,k4,k5⟩:=adP h3.I h3.f (afM kill h3.t).toL hn hc
  exact ⟨m',⟨h1,fun i hi γ h x hx=>by rw [k3 i (by omega)]; exact h2 i hi γ h x hx,⟨k1.toT,k2,k4⟩,h4,by simp only; omega⟩,k5⟩
theorem apD {G:Cfg} {C:ZH} (hG:GOk G) (hm:G.P.follows .mixedOrders=true) (hC:acM G.P C) (f n:Nat):
    ∀ (c:Code) (B:ab5),
    (∀ (σ σ':St) (ex:Ex),exec G C f n c none σ=some (ex,σ')→∀ (a:Act) (w:World) (F:Froz) (m:Mu),Q5 B w F m σ a→c.wp G.P (ac6 B ex σ') a w)∧
    (∀ (l:Nat) (σ σ':St) (ex:Ex),exec G C f n c (some l) σ=some (ex,σ')→∀ rest,findLabel c l=some rest→∀ (a:Act) (w:World) (F:Froz) (m:Mu),Q5 B w F m σ a→rest.wp G.P (ac6 B ex σ') a w):=by
  have hseq:∀ {B:ab5} {x y:Code} {σ':St} {ex:Ex} {a:Act} {w:World} {r:Option (Ex × St)},
      (match r with
        | some (.normal,σ')=>exec G C f n y none σ'
        | r=>r)=some (ex,σ')→
      (∀ ex1 σ1,r=some (ex1,σ1)→x.wp G.P (ac6 B ex1 σ1) a w)→
      (∀ (σ σ':St) (ex:Ex),exec G C f n y none σ=some (ex,σ')→∀ (a:Act) (w:World) (F:Froz) (m:Mu),Q5 B w F m σ a→y.wp G.P (ac6 B ex σ') a w)→
      (Code.seq x y).wp G.P (ac6 B ex σ') a w:=fun {B x y σ' ex a w r} h hx hy=>by
    refine wp_seq ?_
    split at h
    · rename_i σ1
      refine wp_mono (hx _ _ rfl) fun e a1 w1 hq=>?_
      cases e <;> try exact hq.elim (fun _ h=>h.elim (fun _ h=>h.2.elim))
      obtain ⟨F1,m1,hs,_⟩:=hq
      exact hy _ _ _ h a1 w1 F1 m1 hs
    · rename_i hnn
      subst h
      refine wp_mono (hx _ _ rfl) fun e a1 w1 hq=>?_
      cases e <;> try exact hq
      obtain ⟨F1,m1,hs,he⟩:=hq
      cases ex <;> first | exact he.elim | exact absurd rfl (hnn _)
  intro c
  induction c with
  | region id ops draw=>
    intro B
    refine ⟨fun σ σ' ex h a w F m hs=>?_,fun l σ σ' ex h rest hf=>by simp [findLabel] at hf⟩
    simp only [exec] at h
    rw [Option.map_eq_some_iff] at h
    obtain ⟨⟨ex1,σ1⟩,h1,h2⟩:=h
    simp only [Prod.mk.injEq] at h2
    obtain ⟨rfl,rfl⟩:=h2
    refine wp_mono (anX hG hm hC h1 hs) fun e a1 w1 hq=>?_
    obtain ⟨F1,m1,hs1,he⟩:=hq
    exact ⟨F1,m1,⟨hs1.1,hs1.2.1,⟨afM _ hs1.2.2.1.t,hs1.2.2.1.I,hs1.2.2.1.f⟩,hs1.2.2.2.1,hs1.2.2.2.2⟩,he⟩
  | seq x y ihx ihy=>
    intro B
    refine ⟨fun σ σ' ex h a w F m hs=>?_,fun l σ σ' ex h rest hf a w F m hs=>?_⟩
    · simp only [exec] at h
      exact hseq h (fun ex1 σ1 h1=>(ihx B).1 _ _ _ h1 a w F m hs) (ihy B).1
    · simp only [exec] at h
      simp only [findLabel] at hf
      split at hf
      · rename_i r hr
        injection hf with hf
        subst hf
        rw [hr] at h
        simp only [Option.isSome_some,if_true] at h
        exact hseq h (fun ex1 σ1 h1=>(ihx B).2 l _ _ _ h1 r hr a w F m hs) (ihy B).1
      · rename_i hr
        rw [hr] at h
        simp only [Option.isSome_none,Bool.false_eq_true,if_false] at h
        exact (ihy B).2 l _ _ _ h rest hf a w F m hs
  | cond c x y ihx ihy=>
    intro B
    refine ⟨fun σ σ' ex h a w F m hs=>?_,fun l σ σ' ex h rest hf=>by simp [findLabel] at hf⟩
    simp only [exec] at h
    split at h
    · rename_i t ht
      have hv:=hs.2.2.1.t.eval c
      rw [ht] at hv
      have hev:a.eval c=.bool t:=by
        generalize a.eval c=v at hv
        cases hv with | pv hp=>cases hp; rfl
      refine wp_cond hev ?_
      cases t
      · exact (ihy B).1 _ _ _ h a w F m hs
      · exact (ihx B).1 _ _ _ h a w F m hs
    · cases h
  | block id c ih=>
    intro B
    refine ⟨fun σ σ' ex h a w F m hs=>?_,fun l σ σ' ex h rest hf=>by simp [findLabel] at hf⟩
    simp only [exec] at h
    refine wp_block ?_
    split at h
    · rename_i id' σ1 h1
      refine wp_mono ((ih B).1 _ _ _ h1 a w F m hs) fun e a1 w1 hq=>?_
      obtain ⟨F1,m1,hs1,he⟩:=hq
      cases e <;> try exact he.elim
      simp only [aoW] at he
      subst he
      simp only [Exit.inBlock]
      split at h
      · rename_i hid
        simp only [Option.some.injEq,Prod.mk.injEq] at h
        obtain ⟨rfl,rfl⟩:=h
        rw [if_pos hid]
        exact ⟨F1,m1,hs1,trivial⟩
      · rename_i hid
        simp only [Option.some.injEq,Prod.mk.injEq] at h
        obtain ⟨rfl,rfl⟩:=h
        rw [if_neg hid]
        exact ⟨F1,m1,hs1,rfl⟩
    · rename_i hnn
      refine wp_mono ((ih B).1 _ _ _ h a w F m hs) fun e a1 w1 hq=>?_
      cases e <;> try exact hq
      obtain ⟨F1,m1,hs1,he⟩:=hq
      cases ex <;> first | exact he.elim | exact absurd h (hnn _ _)
  | loop c ih=>
    intro B
    refine ⟨fun σ σ' ex h a w F m hs=>?_,fun l σ σ' ex h rest hf=>by simp [findLabel] at hf⟩
    simp only [exec] at h
    refine wp_loop_rounds n ?_
    let B':ab5:=⟨B.w,B.F,B.Pr,m,σ.heap.length,B.d⟩
    have hs':Q5 B' w F m σ a:=⟨hs.1,fun _ _ _ _ _ h=>h,hs.2.2.1,hs.2.2.2.1,Nat.le_refl _⟩
    have down:∀ (e:Exit) (a1:Act) (w1:World),ac6 B' ex σ' e a1 w1→ac6 B ex σ' e a1 w1:=fun e a1 w1 hq=>by
      obtain ⟨F1,m1,h1,he⟩:=hq
      exact ⟨F1,m1,⟨h1.1,fun i hi γ h x hx=>h1.2.1 i (Nat.lt_of_lt_of_le hi hs.2.2.2.2) γ h x (hs.2.1 i hi γ h x hx),h1.2.2.1,h1.2.2.2.1,Nat.le_trans hs.2.2.2.2 h1.2.2.2.2⟩,he⟩
    have key:∀ (k:Nat) (σ1:St) (a:Act) (w:World) (F:Froz) (m:Mu),
        iter (exec G C f n c none) (Ab.tidy σ.heap.length (G.K f (2 * Qr c+1))) k σ1=some (ex,σ')→Q5 B' w F m σ1 a→Code.rounds G.P c (ac6 B ex σ') k a w:=by
      intro k
      induction k with
      | zero=>intro σ1 a w F m h; cases h
      | succ k ihk=>
        intro σ1 a w F m h hs1
        simp only [iter] at h
        simp only [Code.rounds]
        split at h
        · rename_i σ2 h1
          obtain ⟨σ3,h2,h3⟩:=Option.bind_eq_some_iff.1 h
          refine wp_mono ((ih B').1 _ _ _ h1 a w F m hs1) fun e a1 w1 hq=>?_
          obtain ⟨F1,m1,hs2,he⟩:=hq
          cases e <;> try exact he.elim
          obtain ⟨m2,hs3,hn2⟩:=hs2.tidy (Nat.le_refl _) hs2.2.2.2.2 h2
          exact ihk σ3 a1 w1 F1 m2 h3 hs3
        · rename_i hnn
          refine wp_mono ((ih B').1 _ _ _ h a w F m hs1) fun e a1 w1 hq=>?_
          cases e <;> try exact down _ _ _ hq
          obtain ⟨F1,m1,hs1,he⟩:=hq
          cases ex <;> first | exact he.elim | exact absurd h (hnn _)
    exact key n σ a w F m h hs'
  | scope c ih=>
    intro B
    refine ⟨fun σ σ' ex h a w F m hs=>?_,fun l σ σ' ex h rest hf=>by simp [findLabel] at hf⟩
    simp only [exec] at h
    split at h
    · rename_i l σ1 h1
      split at h
      rotate_left
      · cases h
      rename_i hl
      obtain ⟨rest,hr⟩:=Option.isSome_iff_exists.1 hl
      split at h
      · cases h
      rename_i hng
      refine wp_scope_jumps l (fun a w=>∃ F m,Q5 B w F m σ1 a) (fun _ _=>0) hr ?_ ?_
      · refine wp_mono ((ih B).1 _ _ _ h1 a w F m hs) fun e a1 w1 hq=>?_
        obtain ⟨F1,m1,hs1,he⟩:=hq
        cases e <;> try exact he.elim
        simp only [aoW] at he
        exact ⟨he.symm,F1,m1,hs1⟩
      · rintro a1 w1 ⟨F1,m1,hs1⟩
        refine wp_mono ((ih B).2 l _ _ _ h rest hr a1 w1 F1 m1 hs1) fun e a2 w2 hq=>?_
        cases e <;> try exact hq
        obtain ⟨F2,m2,hs2,he⟩:=hq
        cases ex <;> first | exact he.elim | exact absurd h (hng _ _)
    · rename_i hng
      refine wp_scope_straight (wp_mono ((ih B).1 _ _ _ h a w F m hs) fun e a1 w1 hq=>?_)
      cases e <;> try exact hq
      obtain ⟨F2,m2,hs2,he⟩:=hq
      cases ex <;> first | exact he.elim | exact absurd h (hng _ _)
  | skip=>
    intro B
    refine ⟨fun σ σ' ex h a w F m hs=>?_,fun l σ σ' ex h rest hf=>by simp [findLabel] at hf⟩
    simp only [exec,Option.some.injEq,Prod.mk.injEq] at h
    obtain ⟨rfl,rfl⟩:=h
    exact wp_skip ⟨F,m,hs,trivial⟩
  | label l'=>
    intro B
    refine ⟨fun σ σ' ex h a w F m hs=>?_,fun l σ σ' ex h rest hf a w F m hs=>?_⟩
    · simp only [exec,Option.some.injEq,Prod.mk.injEq] at h
      obtain ⟨rfl,rfl⟩:=h
      exact wp_label ⟨F,m,hs,trivial⟩
    · simp only [findLabel] at hf
      simp only [exec] at h
      split at hf
      · rename_i he
        injection hf with hf
        subst hf
        rw [if_pos he] at h
        simp only [Option.some.injEq,Prod.mk.injEq] at h
        obtain ⟨rfl,rfl⟩:=h
        exact wp_skip ⟨F,m,hs,trivial⟩
      · cases hf
  | exit id=>
    intro B
    refine ⟨fun σ σ' ex h a w F m hs=>?_,fun l σ σ' ex h rest hf=>by simp [findLabel] at hf⟩
    simp only [exec,Option.some.injEq,Prod.mk.injEq] at h
    obtain ⟨rfl,rfl⟩:=h
    exact wp_exit ⟨F,m,hs,rfl⟩
  | goto l=>
    intro B
    refine ⟨fun σ σ' ex h a w F m hs=>?_,fun l σ σ' ex h rest hf=>by simp [findLabel] at hf⟩
    simp only [exec,Option.some.injEq,Prod.mk.injEq] at h
    obtain ⟨rfl,rfl⟩:=h
    exact wp_goto ⟨F,m,hs,rfl⟩
  | ret=>
    intro B
    refine ⟨fun σ σ' ex h a w F m hs=>?_,fun l σ σ' ex h rest hf=>by simp [findLabel] at hf⟩
    simp only [exec,Option.some.injEq,Prod.mk.injEq] at h
    obtain ⟨rfl,rfl⟩:=h
    exact wp_ret ⟨F,m,hs,trivial⟩
  | rangeFunc _ _ _ _=>
    intro B
    refine ⟨fun σ σ' ex h=>by simp [exec] at h,fun l σ σ' ex h rest hf=>by simp [findLabel] at hf⟩
  | refuse _=>
    intro B
    refine ⟨fun σ σ' ex h=>by simp [exec] at h,fun l σ σ' ex h rest hf=>by simp [findLabel] at hf⟩
end Go.Ab
