import Derived.Test.YtejbcaheoloahaaGreatAbRel
set_option linter.unusedVariables false
set_option linter.unusedSimpArgs false
namespace Go.Ab
open Go
def QN (m:Mu) (id γ h:Nat) (x:Nat × Nat):Mu:=fun i g k=>if i=id∧g=γ∧k=h then some x else m i g k
theorem Qx (m:Mu) (id γ h:Nat) (x:Nat × Nat):QN m id γ h x id γ h=some x:=by simp [QN]
theorem Qa {m:Mu} {id γ h:Nat} {x:Nat × Nat} (hn:m id γ h=none):qi m (QN m id γ h x):=fun i g k y hy=>by
  unfold QN
  split
  · rename_i e; obtain ⟨rfl,rfl,rfl⟩:=e; rw [hn] at hy; cases hy
  · exact hy
theorem qa {m:Mu} {id γ h:Nat} {x:Nat × Nat} {i:Nat} (hi:i≠id) (g k:Nat):QN m id γ h x i g k=m i g k:=by simp [QN,hi]
theorem acv {m:Mu} {id γ h:Nat} {x y:Nat × Nat} {g k:Nat} (hn:∀ g k,m id g k=none) (h':QN m id γ h x id g k=some y):g=γ∧k=h∧y=x:=by
  unfold QN at h'
  split at h'
  · rename_i e; exact ⟨e.2.1,e.2.2,by simpa using h'.symm⟩
  · rw [hn] at h'; cases h'
theorem aeF {m:Mu} {id γ h:Nat} {x y:Nat × Nat} {i g k:Nat} (h':QN m id γ h x i g k=some y):(i=id∧g=γ∧k=h∧y=x)∨m i g k=some y:=by
  unfold QN at h'
  split at h'
  · rename_i e; exact .inl ⟨e.1,e.2.1,e.2.2,by simpa using h'.symm⟩
  · exact .inr h'
theorem ZR {w w':World} {g o:Nat} (h:w'.heap[g]?=w.heap[g]?):w'.cell? ⟨g,o,none⟩=w.cell? ⟨g,o,none⟩:=by simp [World.cell?,h]
theorem amr {w:World} {g o:Nat} {v:Value} (h:w.cell? ⟨g,o,none⟩=some v):g < w.heap.size:=by
  have:=World.block_lt_of_cell? w ⟨g,o,none⟩ h; exact this
theorem Inv.ltF {w:World} {F:Froz} {Pr:Nat→Prop} {m:Mu} {look:Look} (hI:Inv w F Pr m look) {g o:Nat} (h:F g o):g < w.heap.size:=by
  obtain ⟨v,hv⟩:=hI.szF g o h; exact amr hv
def Post (w:World) (F:Froz) (Pr:Nat→Prop) (m:Mu) (look:Look) (nid:Nat) (e:Eff) (v:Value) (w':World):Prop:=
  ∃ F' m',Ext w F Pr w' F'∧qi m m'∧RelV w' F' m' v e.val∧Inv w' F' Pr m' (ZF look nid e)∧
    ∀ i,(∀ p,p∈e.upd→p.1≠i)→(i < nid∨nid+e.new.length≤i)→∀ γ h,m' i γ h=m i γ h
theorem Qk (look:Look) (nid:Nat) (v:AV):ZF look nid ⟨v,[],[]⟩=look:=by
  funext i
  simp [ZF,show ¬ (nid≤i∧i < nid) by omega]
theorem ac7 (look:Look) (nid:Nat) (v:AV) (b:Blk):ZF look nid ⟨v,[],[b]⟩=fun i=>if i=nid then some b else look i:=by
  funext i
  unfold ZF
  by_cases h:i=nid
  · subst h; simp
  · simp [h,show ¬ (nid≤i∧i < nid+1) by omega]
theorem aaw (look:Look) (nid:Nat) (v:AV) (id:Nat) (b:Blk):ZF look nid ⟨v,[(id,b)],[]⟩=fun i=>if i=id then some b else look i:=by
  funext i
  unfold ZF
  simp only [List.length_nil,Nat.add_zero,show ¬ (nid≤i∧i < nid) by omega,if_false,List.reverse_cons,List.reverse_nil,List.nil_append,List.find?_cons]
  by_cases h:i=id
  · subst h; simp
  · have:(id == i)=false:=by simp; exact fun e=>h e.symm
    simp [this,h]
variable {w w':World} {F:Froz} {Pr:Nat→Prop} {m:Mu} {look:Look} {nid:Nat}
theorem Post.same {v:Value} {x:AV} (hI:Inv w F Pr m look) (hv:RelV w F m v x):Post w F Pr m look nid ⟨x,[],[]⟩ v w:=
  ⟨F,m,Ext.refl _ _ _,qi.refl _,hv,by rw [Qk]; exact hI,fun _ _ _ _ _=>rfl⟩
theorem aab {w w':World} {o:Obj} (hh:w'.heap=w.heap.push o) {g:Nat} (h:g < w.heap.size):w'.heap[g]?=w.heap[g]?:=by
  rw [hh,Array.getElem?_push,if_neg (by omega)]
theorem aa1 {w w':World} {o:Obj} (hh:w'.heap=w.heap.push o):w'.heap[w.heap.size]?=some o:=by
  rw [hh,Array.getElem?_push,if_pos rfl]
theorem Inv.push {o:Obj} {b:Blk} {γ h c:Nat} (hI:Inv w F Pr m look) (hh:w'.heap=w.heap.push o) (hf:∀ γ h,m nid γ h=none)
    (hb:ab1 w' F Pr (QN m nid γ h (w.heap.size,c)) nid b):Inv w' F Pr (QN m nid γ h (w.heap.size,c)) (fun i=>if i=nid then some b else look i):=by
  have hext:qi m (QN m nid γ h (w.heap.size,c)):=Qa (hf _ _)
  have hcell:∀ g o,F g o→w'.cell? ⟨g,o,none⟩=w.cell? ⟨g,o,none⟩:=fun g o hF=>ZR (aab hh (hI.ltF hF))
  have hsz:w'.heap.size=w.heap.size+1:=by rw [hh]; simp
  refine ⟨fun id b' hl=>?_,fun id id' b1 b2 h1 h2 hne γ1 k1 γ2 k2 g c1 c2 e1 e2=>?_,fun g o hF=>?_,fun g hg=>?_,fun id b' γ1 k1 g c1 hl e=>?_⟩
  · skip
    split at hl
    · rename_i e; subst e; injection hl with hl; subst hl; exact hb
    · rename_i e
      exact (hI.blk id b' hl).keep hcell hext (fun γ h x hx=>by rwa [qa e] at hx) (fun γ h g c hx=>aab hh (hI.sz id b' γ h g c hl hx))
  · skip
    by_cases a1:id=nid
    · by_cases a2:id'=nid
      · exact hne (a1.trans a2.symm)
      · rw [if_neg a2] at h2
        rw [qa a2] at e2
        subst a1
        have:=(acv hf e1).2.2
        have hg:g=w.heap.size:=congrArg Prod.fst this
        have:=hI.sz id' b2 γ2 k2 g c2 h2 e2
        omega
    · rw [if_neg a1] at h1
      rw [qa a1] at e1
      by_cases a2:id'=nid
      · subst a2
        have:=(acv hf e2).2.2
        have hg:g=w.heap.size:=congrArg Prod.fst this
        have:=hI.sz id b1 γ1 k1 g c1 h1 e1
        omega
      · rw [if_neg a2] at h2
        rw [qa a2] at e2
        exact hI.apart id id' b1 b2 h1 h2 hne γ1 k1 γ2 k2 g c1 c2 e1 e2
  · obtain ⟨v,hv⟩:=hI.szF g o hF
    exact ⟨v,(hcell g o hF).trans hv⟩
  · have:=hI.szP g hg; omega
  · rcases aeF e with ⟨_,_,_,hx⟩ | e2
    · have:g=w.heap.size:=congrArg Prod.fst hx
      omega
    · split at hl
      · rename_i a; subst a; rw [hf] at e2; cases e2
      · have:=hI.sz id b' γ1 k1 g c1 hl e2; omega
theorem Ext.push {o:Obj} (hI:Inv w F Pr m look) (hh:w'.heap=w.heap.push o) (ho:w'.os=w.os) (ht:w'.tape=w.tape) (hu:w'.output=w.output):Ext w F Pr w' F:=
  ⟨ho,ht,hu,by rw [hh]; simp,fun g o h=>ZR (aab hh (hI.ltF h)),fun g h=>aab hh (hI.szP g h),fun _ _ h=>h,fun _ _ h=>.inl h⟩
theorem Inv.write {b0 b:Blk} {id:Nat} {m':Mu} (hI:Inv w F Pr m look) (hl0:look id=some b0) (hsz:w.heap.size≤w'.heap.size)
    (hchg:∀ g,g < w.heap.size→(∀ γ h c,m id γ h≠some (g,c))→w'.heap[g]?=w.heap[g]?)
    (hcell:∀ g o,F g o→w'.cell? ⟨g,o,none⟩=w.cell? ⟨g,o,none⟩) (hext:qi m m') (hoth:∀ i,i≠id→∀ γ h,m' i γ h=m i γ h)
    (hnew:∀ γ h g c,m' id γ h=some (g,c)→(∃ γ h c,m id γ h=some (g,c))∨(w.heap.size≤g∧g < w'.heap.size))
    (hb:ab1 w' F Pr m' id b):Inv w' F Pr m' (fun i=>if i=id then some b else look i):=by
  have hid:∀ γ h g c,m' id γ h=some (g,c)→∀ id' b',look id'=some b'→id'≠id→∀ γ' h' c',m id' γ' h'=some (g,c')→False:=by
    intro γ h g c e id' b' hl' hne γ' h' c' e'
    rcases hnew γ h g c e with ⟨γ1,h1,c1,e1⟩ | ⟨hge,_⟩
    · exact hI.apart id' id b' b0 hl' hl0 hne γ' h' γ1 h1 g c' c1 e' e1
    · have:=hI.sz id' b' γ' h' g c' hl' e'; omega
  refine ⟨fun i b' hl=>?_,fun i j b1 b2 h1 h2 hne γ1 k1 γ2 k2 g c1 c2 e1 e2=>?_,fun g o hF=>?_,fun g hg=>?_,fun i b' γ1 k1 g c1 hl e=>?_⟩
  · skip
    split at hl
    · rename_i e; subst e; injection hl with hl; subst hl; exact hb
    · rename_i e
      refine (hI.blk i b' hl).keep hcell hext (fun γ h x hx=>by rwa [hoth i e] at hx) (fun γ h g c hx=>?_)
      exact hchg g (hI.sz i b' γ h g c hl hx) (fun γ' h' c' e'=>hI.apart i id b' b0 hl hl0 e γ h γ' h' g c c' hx e')
  · skip
    by_cases a1:i=id
    · subst a1
      rw [if_neg (fun e=>hne e.symm)] at h2
      rw [hoth j (fun e=>hne e.symm)] at e2
      exact hid γ1 k1 g c1 e1 j b2 h2 (fun e=>hne e.symm) γ2 k2 c2 e2
    · rw [if_neg a1] at h1
      rw [hoth i a1] at e1
      by_cases a2:j=id
      · subst a2
        exact hid γ2 k2 g c2 e2 i b1 h1 a1 γ1 k1 c1 e1
      · rw [if_neg a2] at h2
        rw [hoth j a2] at e2
        exact hI.apart i j b1 b2 h1 h2 hne γ1 k1 γ2 k2 g c1 c2 e1 e2
  · obtain ⟨v,hv⟩:=hI.szF g o hF
    exact ⟨v,(hcell g o hF).trans hv⟩
  · have:=hI.szP g hg; omega
  · skip
    by_cases a1:i=id
    · subst a1
      rcases hnew γ1 k1 g c1 e with ⟨γ2,h2,c2,e2⟩ | ⟨_,hlt⟩
      · have:=hI.sz i b0 γ2 h2 g c2 hl0 e2; omega
      · exact hlt
    · rw [if_neg a1] at hl
      rw [hoth i a1] at e
      have:=hI.sz i b' γ1 k1 g c1 hl e; omega
def Z6 (P:Program) (o:Oper) (a:Act) (w:World) (Good:Value→World→Prop) (Bad:Value→World→Prop):Prop:=
  ∀ (K:Act→World→Prop) (Q:Exit→Act→World→Prop),(∀ v w',Good v w'→K (a.put o.dst v) w')→
    (∀ v w',Bad v w'→Q (.panic [{ v,recovered:=false }]) a w')→o.wp P a w K Q
theorem Z6.value {P:Program} {o:Oper} {a:Act} {w w':World} {Good Bad:Value→World→Prop} {v:Value}
    (h:(execOp a.eval o).run P w=.ok (.value v) w') (hg:Good v w'):Z6 P o a w Good Bad:=fun K Q hk _=>by
  unfold Oper.wp; rw [h]; exact hk v w' hg
theorem Z6.skip {P:Program} {o:Oper} {a:Act} {w w':World} {Good Bad:Value→World→Prop}
    (h:(execOp a.eval o).run P w=.ok .skip w') (hg:Good undef w'):Z6 P o a w Good Bad:=fun K Q hk _=>by
  unfold Oper.wp; rw [h]; exact hk undef w' hg
theorem Z6.panic {P:Program} {o:Oper} {a:Act} {w w':World} {Good Bad:Value→World→Prop} {v:Value}
    (h:(execOp a.eval o).run P w=.halt (.panic v) w') (hg:Bad v w'):Z6 P o a w Good Bad:=fun K Q _ hq=>by
  unfold Oper.wp; rw [h]; exact hq v w' hg
end Go.Ab
