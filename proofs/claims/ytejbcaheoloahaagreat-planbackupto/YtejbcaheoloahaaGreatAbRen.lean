import Derived.Test.YtejbcaheoloahaaGreatAbMap
set_option linter.unusedVariables false
set_option linter.unusedSimpArgs false
namespace Go.Ab
open Go
variable {P:Program} {T:Nat→Option TI} {w w':World} {F:Froz} {Pr:Nat→Prop} {m m':Mu} {look:Look} {nid:Nat}
def ai2 (f:Nat→Option Nat) (m m':Mu):Prop:=∀ i i',f i=some i'→∀ γ h x,m i γ h=some x→m' i' γ h=some x
theorem adn {f:Nat→Option Nat}:∀ {xs ys:List AV},AV.renL f xs=some ys→xs.length=ys.length∧∀ (j:Nat) (h:j < xs.length) (h':j < ys.length),xs[j].ren f=some ys[j]
  | [],ys,h=>by
    simp only [AV.renL,Option.some.injEq] at h
    subst h
    exact ⟨rfl,fun j h=>by simp at h⟩
  | x :: xs,ys,h=>by
    simp only [AV.renL] at h
    obtain ⟨y,hy,h⟩:=Option.bind_eq_some_iff.1 h
    rw [Option.map_eq_some_iff] at h
    obtain ⟨ys',hys,rfl⟩:=h
    obtain ⟨e1,e2⟩:=adn hys
    refine ⟨by simp [e1],fun j hj hj'=>?_⟩
    cases j with
    | zero=>exact hy
    | succ j=>exact e2 j (by simpa using hj) (by simpa using hj')
theorem RelV.ren {f:Nat→Option Nat} (hf:ai2 f m m') {v:Value} {x:AV} (h:RelV w F m v x):∀ {y:AV},x.ren f=some y→RelV w F m' v y:=by
  induction h with
  | pv h=>intro y hy; simp only [AV.ren,Option.some.injEq] at hy; subst hy; exact .pv h
  | ptr h=>
    intro y hy
    simp only [AV.ren,Option.map_eq_some_iff] at hy
    obtain ⟨i,hi,rfl⟩:=hy
    exact .ptr (hf _ _ hi _ _ _ h)
  | eptr h=>
    intro y hy
    simp only [AV.ren,Option.map_eq_some_iff] at hy
    obtain ⟨i,hi,rfl⟩:=hy
    exact .eptr (hf _ _ hi _ _ _ h)
  | ref0 h a b=>
    intro y hy
    simp only [AV.ren,Option.map_eq_some_iff] at hy
    obtain ⟨i,hi,rfl⟩:=hy
    exact .ref0 (hf _ _ hi _ _ _ h) a b
  | ref h a b c d=>
    intro y hy
    simp only [AV.ren,Option.map_eq_some_iff] at hy
    obtain ⟨i,hi,rfl⟩:=hy
    exact .ref (hf _ _ hi _ _ _ h) a b c d
  | refE h=>
    intro y hy
    simp only [AV.ren,Option.map_eq_some_iff] at hy
    obtain ⟨i,hi,rfl⟩:=hy
    exact .refE h
  | map h=>
    intro y hy
    simp only [AV.ren,Option.map_eq_some_iff] at hy
    obtain ⟨i,hi,rfl⟩:=hy
    exact .map (hf _ _ hi _ _ _ h)
  | fn x a b va vb ha hb _ _ i1 i2=>
    intro y hy
    simp only [AV.ren] at hy
    obtain ⟨a',ha',hy⟩:=Option.bind_eq_some_iff.1 hy
    rw [Option.map_eq_some_iff] at hy
    obtain ⟨b',hb',rfl⟩:=hy
    obtain ⟨e1,e2⟩:=adn ha'
    obtain ⟨e3,e4⟩:=adn hb'
    exact .fn x a' b' va vb (ha.trans e1) (hb.trans e3) (fun j h h'=>i1 j h (by omega) (e2 j (by omega) h')) (fun j h h'=>i2 j h (by omega) (e4 j (by omega) h'))
  | agg vs cs hl _ ih=>
    intro y hy
    simp only [AV.ren,Option.map_eq_some_iff] at hy
    obtain ⟨cs',hcs,rfl⟩:=hy
    obtain ⟨e1,e2⟩:=adn hcs
    exact .agg vs cs' (hl.trans e1) (fun j h h'=>ih j h (by omega) (e2 j (by omega) h'))
  | tup vs cs hl _ ih=>
    intro y hy
    simp only [AV.ren,Option.map_eq_some_iff] at hy
    obtain ⟨cs',hcs,rfl⟩:=hy
    obtain ⟨e1,e2⟩:=adn hcs
    exact .tup vs cs' (hl.trans e1) (fun j h h'=>ih j h (by omega) (e2 j (by omega) h'))
  | undef=>intro y hy; simp only [AV.ren,Option.some.injEq] at hy; subst hy; exact .undef
  | any=>intro y hy; exact (by simp only [AV.ren,Option.some.injEq] at hy; subst hy; exact .any)
theorem RelL.ren {f:Nat→Option Nat} (hf:ai2 f m m') {vs:List Value} {xs ys:List AV} (h:RelL w F m vs xs) (hy:AV.renL f xs=some ys):RelL w F m' vs ys:=by
  obtain ⟨e1,e2⟩:=adn hy
  exact ⟨h.1.trans e1,fun j a b=>(h.2 j a (by omega)).ren hf (e2 j (by omega) b)⟩
theorem ab1.ren {f:Nat→Option Nat} {Pr':Nat→Prop} {id id':Nat} {b b':Blk} (h:ab1 w F Pr m id b) (hb:b.ren f=some b') (hf:ai2 f m m')
    (hid:∀ γ h,m' id' γ h=m id γ h) (hPr:∀ γ h g c,m id γ h=some (g,c)→¬ Pr' g):ab1 w F Pr' m' id' b':=by
  cases b with
  | dead=>exact h.elim
  | map _ _ ents=>
    simp only [Blk.ren,Option.some.injEq] at hb
    subst hb
    obtain ⟨g,c,es,clock,h1,h2,h3,h4,h5⟩:=h
    exact ⟨g,c,es,clock,by rw [hid]; exact h1,fun γ h x hx=>h2 γ h x (by rw [← hid]; exact hx),h3,h4,hPr _ _ _ _ h1⟩
  | box cells z=>
    simp only [Blk.ren,Option.map_eq_some_iff] at hb
    obtain ⟨cs,hcs,rfl⟩:=hb
    obtain ⟨g,c,vs,e,h1,h2,h3,h4,h5,h6,h7⟩:=h
    exact ⟨g,c,vs,e,by rw [hid]; exact h1,fun γ h x hx=>h2 γ h x (by rw [← hid]; exact hx),h3,h4.ren hf hcs,hPr _ _ _ _ h1,h6,h7⟩
  | row e esz r=>
    simp only [Blk.ren,Option.some.injEq] at hb
    subst hb
    obtain ⟨h1,h2,h3⟩:=h
    refine ⟨h1,h2,fun γ h g c hx=>?_⟩
    rw [hid] at hx
    obtain ⟨k1,k2,k3,k4⟩:=h3 γ h g c hx
    exact ⟨hPr _ _ _ _ hx,k2,k3,k4⟩
theorem abO {f:Nat→Option Nat}:∀ {bs cs:List Blk},qQ f bs=some cs→bs.length=cs.length∧∀ (j:Nat) (h:j < bs.length) (h':j < cs.length),bs[j].ren f=some cs[j]
  | [],cs,h=>by
    simp only [qQ,Option.some.injEq] at h
    subst h
    exact ⟨rfl,fun j h=>by simp at h⟩
  | b :: bs,cs,h=>by
    simp only [qQ] at h
    obtain ⟨y,hy,h⟩:=Option.bind_eq_some_iff.1 h
    rw [Option.map_eq_some_iff] at h
    obtain ⟨ys',hys,rfl⟩:=h
    obtain ⟨e1,e2⟩:=abO hys
    refine ⟨by simp [e1],fun j hj hj'=>?_⟩
    cases j with
    | zero=>exact hy
    | succ j=>exact e2 j (by simpa using hj) (by simpa using hj')
theorem afT {look:Look}:∀ {l:List Nat} {bs:List Blk},getAll look l=some bs→l.length=bs.length∧∀ (j:Nat) (h:j < l.length) (h':j < bs.length),look l[j]=some bs[j]
  | [],bs,h=>by
    simp only [getAll,Option.some.injEq] at h
    subst h
    exact ⟨rfl,fun j h=>by simp at h⟩
  | i :: l,bs,h=>by
    simp only [getAll] at h
    obtain ⟨y,hy,h⟩:=Option.bind_eq_some_iff.1 h
    rw [Option.map_eq_some_iff] at h
    obtain ⟨ys',hys,rfl⟩:=h
    obtain ⟨e1,e2⟩:=afT hys
    refine ⟨by simp [e1],fun j hj hj'=>?_⟩
    cases j with
    | zero=>exact hy
    | succ j=>exact e2 j (by simpa using hj) (by simpa using hj')
theorem aaZ (look:Look):∀ (n:Nat) (todo acc:List Nat),acc.Nodup→(∃ l,reach look n todo acc=acc++l)∧(reach look n todo acc).Nodup
  | 0,todo,acc,h=>⟨⟨[],by simp [reach]⟩,h⟩
  | n+1,[],acc,h=>⟨⟨[],by simp [reach]⟩,h⟩
  | n+1,i :: todo,acc,h=>by
    simp only [reach]
    split
    · exact aaZ look n todo acc h
    · rename_i hc
      have hc':i ∉ acc:=by simpa using hc
      have hnd:(acc++[i]).Nodup:=by
        rw [List.nodup_append]; exact ⟨h,by simp,fun a ha b hb'=>by simp at hb'; subst hb'; exact fun e=>hc' (e ▸ ha)⟩
      split
      · rename_i b hb
        obtain ⟨⟨l,hl⟩,h2⟩:=aaZ look n (b.ids++todo) (acc++[i]) hnd
        exact ⟨⟨i :: l,by rw [hl]; simp⟩,h2⟩
      · obtain ⟨⟨l,hl⟩,h2⟩:=aaZ look n todo (acc++[i]) hnd
        exact ⟨⟨i :: l,by rw [hl]; simp⟩,h2⟩
theorem qx {look look':Look}:∀ (n:Nat) (todo acc:List Nat),(∀ i,i∈reach look n todo acc→look i=look' i)→reach look' n todo acc=reach look n todo acc
  | 0,todo,acc,h=>rfl
  | n+1,[],acc,h=>rfl
  | n+1,i :: todo,acc,h=>by
    simp only [reach] at h ⊢
    split
    · rename_i hc; rw [if_pos hc] at h; exact qx n todo acc h
    · rename_i hc
      rw [if_neg hc] at h
      have hin:∀ t,i∈reach look n t (acc++[i]):=fun t=>by
        have:∀ (n:Nat) (t a:List Nat),i∈a→i∈reach look n t a:=by
          intro n
          induction n with
          | zero=>intro t a ha; exact ha
          | succ n ih=>
            intro t a ha
            cases t with
            | nil=>exact ha
            | cons j t=>
              simp only [reach]
              split
              · exact ih _ _ ha
              · split
                · exact ih _ _ (by simp [ha])
                · exact ih _ _ (by simp [ha])
        exact this n t _ (by simp)
      cases hl:look i with
      | some b=>
        rw [hl] at h
        simp only at h
        have hl':look' i=some b:=by rw [← h i (hin _)]; exact hl
        rw [hl']
        exact qx n _ _ h
      | none=>
        rw [hl] at h
        simp only at h
        have hl':look' i=none:=by rw [← h i (hin _)]; exact hl
        rw [hl']
        exact qx n _ _ h
theorem acg {l:List Nat} {i j:Nat} (h:placeOf l i=some j):l[j]?=some i:=by
  unfold placeOf at h
  rw [List.idxOf?,List.findIdx?_eq_some_iff_getElem] at h
  obtain ⟨h1,h2,_⟩:=h
  simp only [beq_iff_eq] at h2
  rw [List.getElem?_eq_getElem h1,h2]
def cellsOf (w:World) (m:Mu) (look:Look) (g o:Nat):Prop:=
  ∃ id b γ h c,look id=some b∧m id γ h=some (g,c)∧match b with
    | .box _ _=>∃ v,w.cell? ⟨g,o,none⟩=some v
    | .row _ esz r=>o < r.rows.length * esz∧∃ v,w.cell? ⟨g,o,none⟩=some v
    | _=>False
theorem adi {f:AV→Option PV}:∀ {xs:List AV} {ps:List PV},adB f xs=some ps→xs.length=ps.length∧∀ (j:Nat) (h:j < xs.length) (h':j < ps.length),f xs[j]=some ps[j]
  | [],ps,h=>by
    simp only [adB,Option.some.injEq] at h
    subst h
    exact ⟨rfl,fun j h=>by simp at h⟩
  | x :: xs,ps,h=>by
    simp only [adB] at h
    obtain ⟨y,hy,h⟩:=Option.bind_eq_some_iff.1 h
    rw [Option.map_eq_some_iff] at h
    obtain ⟨ys',hys,rfl⟩:=h
    obtain ⟨e1,e2⟩:=adi hys
    refine ⟨by simp [e1],fun j hj hj'=>?_⟩
    cases j with
    | zero=>exact hy
    | succ j=>exact e2 j (by simpa using hj) (by simpa using hj')
theorem ag7 {lk:Look} {F':Froz} (hI:Inv w F Pr m look) (hlk:∀ id b,lk id=some b→look id=some b) (hF1:∀ g o,F g o→F' g o) (hF2:∀ g o,cellsOf w m lk g o→F' g o):
    ∀ (n:Nat) (v:Value) (x:AV) (p:PV),RelV w F m v x→AV.pureOf lk n x=some p→Rep w F' v p:=by
  intro n
  induction n with
  | zero=>
    intro v x p hv h
    simp only [AV.pureOf] at h
    split at h
    · injection h with h
      subst h
      cases hv with | pv hp=>exact hp.keep (fun _ _ _=>rfl) hF1
    · cases h
  | succ n ih=>
    intro v x p hv h
    simp only [AV.pureOf] at h
    split at h
    · injection h with h
      subst h
      cases hv with | pv hp=>exact hp.keep (fun _ _ _=>rfl) hF1
    · rename_i id off
      split at h
      rotate_left
      · cases h
      rename_i cells z hl
      rw [Option.map_eq_some_iff] at h
      obtain ⟨cs,hcs,rfl⟩:=h
      obtain ⟨e1,e2⟩:=adi hcs
      obtain ⟨g,c,vs,e,h1,h2,h3,h4,h5,h6,h7⟩:=hI.blk id _ (hlk _ _ hl)
      cases hv with
      | ptr hm=>
      rename_i g' c'
      have hg1:g'=g:=congrArg Prod.fst (h2 0 0 _ hm)
      subst hg1
      have hcell:∀ j,w.cell? ⟨g',j,none⟩=vs[j]?:=fun j=>by rw [cell_of_row w g' j _ e (0,0) h3]; simp
      have hlen:vs.length=cs.length:=h4.1.trans e1
      have:=Rep.ptr (w:=w) (F:=F') g' 0 off cs (fun j=>(vs[j]?).getD Go.undef) (fun j hj=>by
        rw [Nat.zero_add,hcell,List.getElem?_eq_getElem (by omega)]; rfl) (fun j hj=>hF2 _ _ ⟨id,_,0,0,c',hl,hm,_,by
        rw [Nat.zero_add,hcell,List.getElem?_eq_getElem (by omega)]⟩) (fun j hj=>by
        rw [List.getElem?_eq_getElem (by omega),Option.getD_some]
        exact ih _ _ _ (h4.2 j (by omega) (by omega)) (e2 j (by omega) hj))
      simpa using this
    · rename_i id γ hd esz i off
      split at h
      rotate_left
      · cases h
      rename_i e esz' r hl
      split at h
      rotate_left
      · cases h
      rename_i hc
      simp only [Bool.and_eq_true,beq_iff_eq,decide_eq_true_eq] at hc
      obtain ⟨⟨hval,rfl⟩,hi⟩:=hc
      rw [Option.map_eq_some_iff] at h
      obtain ⟨cc,hcc,rfl⟩:=h
      obtain ⟨h0,h1,h2⟩:=hI.blk id _ (hlk _ _ hl)
      cases hv with
      | eptr hm=>
      rename_i g c
      obtain ⟨k1,k2,k3,k4⟩:=h2 γ hd g c hm
      obtain ⟨l1,l2,cur,l3,l4,l5⟩:=k4 hval
      have hdl:=abf hval
      have hcl:cc.length=esz:=h1 cc (List.mem_of_getElem? hcc)
      have hcell:∀ j,w.cell? ⟨g,j,none⟩=cur[j]?:=fun j=>cell_of_row w g j _ e (0,0) l3
      have hex:∀ j,j < esz→∃ u p,cur[i * esz+j]?=some u∧cc[j]?=some p∧Rep w F u p:=fun j hj=>by
        obtain ⟨u,p,a,b,c⟩:=l5 i hi j hj
        rw [hcc] at b
        exact ⟨u,p,a,by simpa using b,c⟩
      refine .ptr g (i * esz) off cc (fun j=>(cur[i * esz+j]?).getD Go.undef) (fun j hj=>?_) (fun j hj=>?_) (fun j hj=>?_)
      · obtain ⟨u,p,a,b,c⟩:=hex j (by omega)
        rw [hcell,a]; rfl
      · obtain ⟨u,p,a,b,_⟩:=hex j (by omega)
        have:=ql (show i < r.rows.length by omega) (show j < esz by omega) (Nat.le_refl _)
        exact hF2 _ _ ⟨id,_,γ,hd,c,hl,hm,this,_,(hcell _).trans a⟩
      · obtain ⟨u,p,a,b,c⟩:=hex j (by omega)
        rw [a,Option.getD_some]
        obtain ⟨_,e⟩:=List.getElem?_eq_some_iff.1 b
        rw [e]
        exact c.keep (fun _ _ _=>rfl) hF1
    · rename_i id γ hd esz off k
      split at h
      rotate_left
      · cases h
      rename_i e esz' r hl
      split at h
      rotate_left
      · cases h
      rename_i hc
      simp only [Bool.and_eq_true,beq_iff_eq,decide_eq_true_eq] at hc
      obtain ⟨⟨hval,rfl⟩,hk⟩:=hc
      injection h with h
      subst h
      obtain ⟨h0,h1,h2⟩:=hI.blk id _ (hlk _ _ hl)
      have hdl:=abf hval
      have hrl:((r.rows.drop off).take k).length=k:=by simp; omega
      have key:∀ g c cc,m id γ hd=some (g,c)→k≤cc→Rep w F' (.slice (some ⟨g,off * esz,none⟩) k cc) (.sl ((r.rows.drop off).take k)):=by
        intro g c cc hm hkc
        obtain ⟨k1,k2,k3,k4⟩:=h2 γ hd g c hm
        obtain ⟨l1,l2,cur,l3,l4,l5⟩:=k4 hval
        have hcell:∀ j,w.cell? ⟨g,j,none⟩=cur[j]?:=fun j=>cell_of_row w g j _ e (0,0) l3
        have hget:∀ i (hi:i < k),((r.rows.drop off).take k)[i]'(by omega)=r.rows[off+i]'(by omega):=fun i hi=>by simp
        have:=Rep.sl (w:=w) (F:=F') g (off * esz) esz cc ((r.rows.drop off).take k) (fun i j=>(cur[(off+i) * esz+j]?).getD Go.undef) (by omega) (fun i hi=>?_) (fun i hi j hj=>?_) (fun i hi j hj=>?_) (fun i hi j hj=>?_)
        · rw [hrl] at this; exact this
        · rw [hget i (by omega)]; exact h1 _ (List.getElem_mem _)
        · obtain ⟨u,p,a,b,_⟩:=l5 (off+i) (by omega) j hj
          rw [← Nat.add_mul,hcell,a]; rfl
        · obtain ⟨u,p,a,b,_⟩:=l5 (off+i) (by omega) j hj
          have:=ql (show off+i < r.rows.length by omega) hj (Nat.le_refl _)
          rw [← Nat.add_mul]
          exact hF2 _ _ ⟨id,_,γ,hd,c,hl,hm,this,_,(hcell _).trans a⟩
        · have hi':i < k:=by omega
          have hj0:j < esz:=by rw [hget i hi'] at hj; rw [← h1 _ (List.getElem_mem (show off+i < r.rows.length by omega))]; exact hj
          obtain ⟨u,p,a,b,c⟩:=l5 (off+i) (by omega) j hj0
          rw [a,Option.getD_some]
          rw [List.getElem?_eq_getElem (show off+i < r.rows.length by omega),Option.bind_some] at b
          obtain ⟨_,e⟩:=List.getElem?_eq_some_iff.1 b
          have:((r.rows.drop off).take k)[i][j]=p:=by
            rw [← e]
            congr 1
            exact hget i hi'
          rw [this]
          exact c.keep (fun _ _ _=>rfl) hF1
      cases hv with
      | ref0 hm hn hcc=>
        rename_i g c
        have:=key g c c hm (by omega); simpa using this
      | ref hm hn hcc hpos ho=>exact key _ _ _ hm (by omega)
      | refE ho=>
        have:(r.rows.drop off).take 0=[]:=by simp
        rw [this]
        exact .sl0 _ _
    · rename_i f a b
      obtain ⟨pa,hpa,h⟩:=Option.bind_eq_some_iff.1 h
      rw [Option.map_eq_some_iff] at h
      obtain ⟨pb,hpb,rfl⟩:=h
      obtain ⟨e1,e2⟩:=adi hpa
      obtain ⟨e3,e4⟩:=adi hpb
      cases hv with
      | fn _ _ _ va vb ha hb h1 h2=>
      exact .fn f pa pb va vb (ha.trans e1) (hb.trans e3) (fun j h h'=>ih _ _ _ (h1 j h (by omega)) (e2 j (by omega) h')) (fun j h h'=>ih _ _ _ (h2 j h (by omega)) (e4 j (by omega) h'))
    · cases h
theorem aid {lk:Look} {F':Froz} (hI:Inv w F Pr m look) (hlk:∀ id b,lk id=some b→look id=some b) (hF1:∀ g o,F g o→F' g o) (hF2:∀ g o,cellsOf w m lk g o→F' g o)
    {v:Value} {x y:AV} (hv:RelV w F m v x) (h:x.puri lk=some y) (m':Mu):RelV w F' m' v y:=by
  have single:∀ {x y:AV} {v:Value},RelV w F m v x→(AV.pureOf lk 4 x).map AV.pv=some y→RelV w F' m' v y:=fun hv h=>by
    rw [Option.map_eq_some_iff] at h
    obtain ⟨p,hp,rfl⟩:=h
    exact .pv (ag7 hI hlk hF1 hF2 4 _ _ _ hv hp)
  unfold AV.puri at h
  split at h
  · rw [Option.map_eq_some_iff] at h
    obtain ⟨ps,hps,rfl⟩:=h
    obtain ⟨e1,e2⟩:=adi hps
    cases hv with
    | agg vs _ hl hr=>
    refine .agg vs _ (by simp [hl,e1]) (fun j a b=>?_)
    rw [List.getElem_map]
    exact .pv (ag7 hI hlk hF1 hF2 4 _ _ _ (hr j a (by omega)) (e2 j (by omega) (by simpa using b)))
  · exact single hv h
theorem af6 {lk:Look} {F':Froz} (hI:Inv w F Pr m look) (hlk:∀ id b,lk id=some b→look id=some b) (hF1:∀ g o,F g o→F' g o) (hF2:∀ g o,cellsOf w m lk g o→F' g o) (m':Mu):
    ∀ {vs:List Value} {xs ys:List AV},RelL w F m vs xs→aa6 lk xs=some ys→RelL w F' m' vs ys
  | [],[],ys,_,h=>by
    simp only [aa6,Option.some.injEq] at h
    subst h
    exact RelL.nil
  | [],_ :: _,_,hr,_=>by have:=hr.1; simp at this
  | _ :: _,[],_,hr,_=>by have:=hr.1; simp at this
  | v :: vs,x :: xs,ys,hr,h=>by
    simp only [aa6] at h
    obtain ⟨y,hy,h⟩:=Option.bind_eq_some_iff.1 h
    rw [Option.map_eq_some_iff] at h
    obtain ⟨ys',hys,rfl⟩:=h
    exact RelL.cons (aid hI hlk hF1 hF2 hr.head hy m') (af6 hI hlk hF1 hF2 m' hr.tail hys)
theorem ajp {lk:Look} {F':Froz} (hI:Inv w F Pr m look) (hlk:∀ id b,lk id=some b→look id=some b) (hF1:∀ g o,F g o→F' g o) (hF2:∀ g o,cellsOf w m lk g o→F' g o)
    {v:Value} {x y:AV} (hv:RelV w F m v x) (h:x.puriRes lk=some y) (m':Mu):RelV w F' m' v y:=by
  unfold AV.puriRes at h
  split at h
  · rw [Option.map_eq_some_iff] at h
    obtain ⟨ps,hps,rfl⟩:=h
    cases hv with
    | tup vs cs hl hr=>
    have:=af6 hI hlk hF1 hF2 m' ⟨hl,hr⟩ hps
    exact .tup vs ps this.1 this.2
  · exact aid hI hlk hF1 hF2 hv h m'
end Go.Ab
