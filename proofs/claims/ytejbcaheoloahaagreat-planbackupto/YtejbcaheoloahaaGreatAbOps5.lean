import Derived.Test.YtejbcaheoloahaaGreatAbOps4
set_option linter.unusedVariables false
set_option linter.unusedSimpArgs false
namespace Go.Ab
open Go
variable {P:Program} {T:Nat→Option TI} {w w':World} {F:Froz} {Pr:Nat→Prop} {m:Mu} {look:Look} {nid:Nat}
theorem akg:∀ (us:List Value) (xs:List AV) (qs:List PV),RelL w F m us xs→aaO xs=some qs→us.length=qs.length∧∀ j (h:j < us.length) (h':j < qs.length),Rep w F us[j] qs[j]
  | [],xs,qs,hr,hq=>by
    have:xs=[]:=List.eq_nil_of_length_eq_zero hr.1.symm
    subst this
    simp [aaO] at hq
    subst hq
    exact ⟨rfl,fun j h=>by simp at h⟩
  | u :: us,xs,qs,hr,hq=>by
    cases xs with
    | nil=>have:=hr.1; simp at this
    | cons a as=>
      have ha:=hr.head
      cases a with
      | pv p0=>
        simp only [aaO,Option.map_eq_some_iff] at hq
        obtain ⟨qs',hq',rfl⟩:=hq
        obtain ⟨e1,e2⟩:=akg us as qs' hr.tail hq'
        refine ⟨by simp [e1],fun j hj hj'=>?_⟩
        cases j with
        | zero=>cases ha with | pv hh=>exact hh
        | succ j=>exact e2 j (by simpa using hj) (by simpa using hj')
      | _=>simp [aaO] at hq
theorem abj (esz:Nat):∀ (n:Nat) (cs:List PV),(chunk esz n cs).length=n
  | 0,_=>rfl
  | n+1,cs=>by simp [chunk,abj esz n]
theorem afk (esz:Nat):∀ (n:Nat) (cs:List PV),n * esz≤cs.length→∀ c,c∈chunk esz n cs→c.length=esz
  | 0,_,_,c,h=>by simp [chunk] at h
  | n+1,cs,hl,c,h=>by
    rw [Nat.add_mul] at hl
    simp only [chunk,List.mem_cons] at h
    rcases h with rfl | h
    · simp; omega
    · exact afk esz n _ (by simp; omega) c h
theorem agY (esz:Nat):∀ (n:Nat) (cs:List PV) (i j:Nat),i < n→j < esz→((chunk esz n cs)[i]?).bind (·[j]?)=cs[i * esz+j]?
  | 0,_,i,_,hi,_=>by omega
  | n+1,cs,i,j,hi,hj=>by
    cases i with
    | zero=>simp [chunk,List.getElem?_take_of_lt hj]
    | succ i=>
      have:=agY esz n (cs.drop esz) i j (by omega) hj
      simp only [chunk,List.getElem?_cons_succ]
      rw [this,List.getElem?_drop]
      congr 1
      rw [Nat.add_mul]; omega
theorem afE {t len:Nat} {parts:Array (Nat × Value)} {aparts:List (Nat × AV)} {e:Eff} (hT:TOk P T) (hI:Inv w F Pr m look) (hf:∀ γ h,m nid γ h=none)
    (hl:parts.toList.length=aparts.length) (hp:∀ j (h:j < parts.toList.length) (h':j < aparts.length),parts.toList[j].1=aparts[j].1∧RelV w F m parts.toList[j].2 aparts[j].2)
    (h:aaC T nid t len aparts=some e):∃ v w',(Instr.buildSlice t len parts).run P w=.ok v w'∧Post w F Pr m look nid e v w':=by
  unfold aaC at h
  split at h
  rotate_left
  · cases h
  rename_i el sz by_ ag ze ht
  split at h
  rotate_left
  · cases h
  rename_i ei he
  split at h
  · cases h
  rename_i hsz
  obtain ⟨cs,hcs,h⟩:=Option.bind_eq_some_iff.1 h
  have hu:=hT.slice ht rfl
  obtain ⟨i,d,z,h1,h2,h3,h4,h5,h6,h7,h8,h9,h10,h11,h12⟩:=hT.ok el ei he
  have hpos:0 < ei.size:=by omega
  let arr:Array Value:=(Array.range (len * ei.size)).map (z.cells[· % z.cells.size]!)
  have harr:RelL w F m arr.toList ((List.range (len * ei.size)).map fun i=>.pv ((ei.zero[i % ei.size]?).getD .nilp)):=by
    refine ⟨by simp [arr],fun j hj hj'=>?_⟩
    have hj0:j < len * ei.size:=by simpa using hj'
    have hm:=Nat.mod_lt j hpos
    have e1:arr.toList[j]=z.cells[j % ei.size]'(by omega):=by
      simp [arr,h8,getElem!_pos,hm]
    rw [e1]
    simp only [List.getElem_map,List.getElem_range]
    rw [List.getElem?_eq_getElem (by omega),Option.getD_some]
    exact .pv (h12 w F _ (by omega) (by omega))
  obtain ⟨arr',ha,hrel⟩:=aif (w:=w) (F:=F) (m:=m) (fun i=>some (i * ei.size,ei.size)) parts.toList aparts arr _ cs hl hp harr hcs
  have hsz':len * ei.size≤16777216:=by omega
  have hal:arr'.size=len * ei.size:=by
    have h0:∀ (parts:List (Nat × Value)) (a b:Array Value),Instr.fill (fun i=>some (i * ei.size,ei.size)) a parts=some b→b.size=a.size:=by
      intro parts
      induction parts with
      | nil=>intro a b hh; simp [Instr.fill] at hh; rw [hh]
      | cons p parts ih=>
        intro a b hh
        obtain ⟨x,y⟩:=p
        simp only [Instr.fill] at hh
        split at hh
        · cases hh
        · have:=ih _ _ hh
          rw [this]
          have hs:∀ (l:List (Value × Nat)) (a:Array Value),(l.foldl (fun cs (p:Value × Nat)=>cs.setIfInBounds (x * ei.size+p.2) p.1) a).size=a.size:=by
            intro l
            induction l with
            | nil=>intro a; rfl
            | cons q l ih=>intro a; simp [ih]
          rw [← Array.foldl_toList]
          exact hs _ _
    rw [h0 _ _ _ ha]; simp [arr]
  have hrun:(Instr.buildSlice t len parts).run P w=.ok (.slice (some ⟨w.heap.size,0,none⟩) len len) (w.alloc (.cells arr' el)):=by
    unfold Instr.buildSlice
    simp only [Sem.run_bind,run_underlying hu,Result.andThen_ok,run_sizeOf hT he]
    rw [if_neg (by omega)]
    by_cases hz:len * ei.size=0
    · simp only [hz,if_true,Sem.run_bind,Sem.run_pure,Result.andThen_ok]
      have:arr=(Array.range 0).map (fun x=>(#[]:Array Value)[x % (#[]:Array Value).size]!):=by simp [arr,hz]
      rw [this] at ha
      rw [ha]
      simp [newRow]
    · simp only [hz,if_false,Sem.run_bind,zeroValue,typeInfo,run_program,h1,Result.andThen_ok,Sem.run_pure,h7]
      have:(Array.range (len * ei.size)).map (fun x=>z.cells[x % z.cells.size]!)=arr:=rfl
      rw [this,ha]
      simp [newRow]
  have hle:len≤maxLen:=by
    have:len * 1≤len * ei.size:=Nat.mul_le_mul_left _ hpos
    simp only [maxLen]; omega
  split at h
  rotate_left
  · rename_i hps
    injection h with h
    subst h
    have h0:0 < len:=by
      rcases Nat.eq_zero_or_pos len with h0 | h0
      · subst h0
        have:cs=[]:=by
          have:=hrel.1
          simp [hal] at this
          exact List.eq_nil_of_length_eq_zero this.symm
        subst this
        cases hps
      · exact h0
    exact ⟨_,_,hrun,alF (us:=arr'.toList) (e:=el) h0 hI hf hrel (by rw [Array.toArray_toList]; rfl) rfl rfl rfl⟩
  rename_i ps hps
  injection h with h
  subst h
  obtain ⟨q1,q2⟩:=akg _ _ _ hrel hps
  have hpl:ps.length=len * ei.size:=by rw [← q1]; simpa using hal
  have:=ahf (w':=w.alloc (.cells arr' el)) (rows:=chunk ei.size len ps) (e:=el) (esz:=ei.size) (cap:=len) (nid:=nid) (cur:=arr') hI hf hpos
    (afk _ _ _ (by omega)) (by rw [abj]; exact Nat.le_refl _) hle hal (fun i hi j hj=>?_) rfl rfl rfl rfl
  · rw [abj] at this
    exact ⟨_,_,hrun,this⟩
  · rw [abj] at hi
    have hlt:i * ei.size+j < len * ei.size:=ql hi hj (Nat.le_refl _)
    refine ⟨arr'[i * ei.size+j]'(by omega),ps[i * ei.size+j]'(by omega),by simp [hal,hlt],?_,by have:=q2 (i * ei.size+j) (by simp; omega) (by omega); rwa [Array.getElem_toList] at this⟩
    rw [agY _ _ _ _ _ hi hj,List.getElem?_eq_getElem (by omega)]
theorem akz {t:Nat} {lv cv:Value} {l c:AV} {e:Eff} (hT:TOk P T) (hI:Inv w F Pr m look) (hf:∀ γ h,m nid γ h=none) (hl:RelV w F m lv l) (hc:RelV w F m cv c)
    (h:adK T nid t l c=some e):∃ v w',(Instr.makeSlice t lv cv).run P w=.ok v w'∧Post w F Pr m look nid e v w':=by
  unfold adK at h
  split at h
  rotate_left
  · cases h
  rename_i el sz by_ ag ze k1 n k2 cc ht
  split at h
  rotate_left
  · cases h
  rename_i ei he
  split at h
  rotate_left
  · cases h
  rename_i hcond
  obtain ⟨hs0,hn0,hnc,hby,h63⟩:=hcond
  injection h with h
  subst h
  have hu:=hT.slice ht rfl
  obtain ⟨i,d,z,h1,h2,h3,h4,h5,h6,h7,h8,h9,h10,h11,h12⟩:=hT.ok el ei he
  cases hl with
  | pv hl=>
  cases hc with
  | pv hc=>
  cases hl
  cases hc
  have hrun:=run_make (P:=P) w t el i z hu h1 h7 k1 k2 n cc hn0 hnc (by rw [h6,Int.mul_comm]; omega) h63
  have hnl:(List.replicate n.toNat ei.zero).length=n.toNat:=by simp
  have hpos:0 < ei.size:=by omega
  have:=ahf (w':=w.alloc (.cells (madeCells z.cells (cc.toNat * i.size)) el)) (rows:=List.replicate n.toNat ei.zero) (e:=el) (esz:=ei.size) (cap:=cc.toNat) (nid:=nid)
    (cur:=madeCells z.cells (cc.toNat * i.size)) hI hf hpos (fun x hx=>by rw [List.eq_of_mem_replicate hx]; exact h9) (by rw [hnl]; omega) (by simp only [maxLen]; omega)
    (by rw [size_madeCells,h5]) (fun a ha b hb=>?_) rfl rfl rfl rfl
  · rw [hnl] at this
    exact ⟨_,_,hrun,this⟩
  · rw [hnl] at ha
    have hlt:a * ei.size+b < cc.toNat * ei.size:=ql ha hb (by omega)
    have hmod:(a * ei.size+b) % ei.size=b:=by rw [Nat.add_comm,Nat.add_mul_mod_self_right,Nat.mod_eq_of_lt hb]
    refine ⟨z.cells[b]'(by omega),ei.zero[b]'(by omega),?_,?_,h12 w F b (by omega) (by omega)⟩
    · simp only [madeCells]
      rw [Array.getElem?_map,Array.getElem?_range,if_pos (by rw [h5]; exact hlt)]
      simp only [Option.map_some,h8,hmod]
      rw [getElem!_pos _ _ (by omega)]
    · rw [List.getElem?_replicate,if_pos (by omega)]
      simp only [Option.bind_some]
      rw [List.getElem?_eq_getElem (by omega)]
theorem amU {v:Value} {x:AV} {rows:List (List PV)} (hI:Inv w F Pr m look) (hv:RelV w F m v x) (h:rowsOf x look=some rows):
    ∃ A c esz,v=.slice A rows.length c∧(0 < rows.length→∃ g o,A=some ⟨g,o,none⟩∧∀ i,i < rows.length→(∀ r,rows[i]?=some r→r.length=esz)∧
      ∀ j,j < esz→∃ u p,w.cell? ⟨g,o+i * esz+j,none⟩=some u∧(rows[i]?).bind (·[j]?)=some p∧Rep w F u p):=by
  unfold rowsOf at h
  split at h
  · injection h with h
    subst h
    cases hv with
    | pv hp=>cases hp; exact ⟨none,0,0,rfl,fun h=>by simp at h⟩
  · rename_i rows'
    have h:rows'=rows:=by injection h
    subst h
    cases hv with
    | pv hp=>
    cases hp with
    | sl0 a c=>exact ⟨a,c,0,rfl,fun h=>by simp at h⟩
    | sl g o esz c _ us hl hs h1 h2 h3=>
      refine ⟨_,c,esz,rfl,fun _=>⟨g,o,rfl,fun i hi=>⟨fun r hr=>?_,fun j hj=>?_⟩⟩⟩
      · obtain ⟨_,e⟩:=List.getElem?_eq_some_iff.1 hr
        rw [← e]; exact hs i hi
      · have hj':j < rows'[i].length:=by rw [hs i hi]; exact hj
        exact ⟨us i j,rows'[i][j],h1 i hi j hj,by simp [hi,hj'],h3 i hi j hj'⟩
  · rename_i id γ hd esz off n
    split at h
    rotate_left
    · cases h
    rename_i e esz' r hl
    split at h
    rotate_left
    · cases h
    rename_i hc
    simp only [Bool.and_eq_true,beq_iff_eq,decide_eq_true_eq] at hc
    obtain ⟨⟨hval,hes⟩,hn⟩:=hc
    subst hes
    injection h with h
    subst h
    obtain ⟨h0,h1,h2⟩:=hI.blk id _ hl
    have hlen:=abf hval
    have hrl:((r.rows.drop off).take n).length=n:=by simp; omega
    have key:∀ g c,m id γ hd=some (g,c)→∀ i,i < n→(∀ r',((r.rows.drop off).take n)[i]?=some r'→r'.length=esz)∧
        ∀ j,j < esz→∃ u p,w.cell? ⟨g,off * esz+i * esz+j,none⟩=some u∧(((r.rows.drop off).take n)[i]?).bind (·[j]?)=some p∧Rep w F u p:=by
      intro g c hm i hi
      obtain ⟨k1,k2,k3,k4⟩:=h2 γ hd g c hm
      obtain ⟨l1,l2,cur,l3,l4,l5⟩:=k4 hval
      have hge:((r.rows.drop off).take n)[i]?=r.rows[off+i]?:=by
        rw [List.getElem?_take_of_lt hi,List.getElem?_drop]
      refine ⟨fun r' hr'=>h1 r' (by rw [hge] at hr'; exact List.mem_of_getElem? hr'),fun j hj=>?_⟩
      obtain ⟨u,p,a,b,c⟩:=l5 (off+i) (by omega) j hj
      refine ⟨u,p,?_,by rw [hge]; exact b,c⟩
      rw [cell_of_row w g _ _ e (0,0) l3,← Nat.add_mul]; exact a
    cases hv with
    | ref0 hm hn' hcc=>
      refine ⟨_,_,esz,by rw [hrl],fun _=>⟨_,_,rfl,fun i hi=>?_⟩⟩
      rw [hrl] at hi
      simpa using key _ _ hm i hi
    | ref hm hn' hcc hpos ho=>
      refine ⟨_,_,esz,by rw [hrl],fun _=>⟨_,_,rfl,fun i hi=>?_⟩⟩
      rw [hrl] at hi
      exact key _ _ hm i hi
    | refE ho=>exact ⟨_,_,0,by rw [hrl],fun h=>by rw [hrl] at h; omega⟩
  · cases h
theorem aqn {v:Value} {x:AV} {n:Nat} (hv:RelV w F m v x) (h:lenA x=some n):(∃ A c,v=.slice A n c)∨(∃ s,v=.string s∧n=s.size):=by
  unfold lenA at h
  split at h
  · injection h with h; subst h
    cases hv with | pv hp=>cases hp; exact .inl ⟨_,_,rfl⟩
  · injection h with h; subst h
    cases hv with
    | pv hp=>cases hp with
      | sl0=>exact .inl ⟨_,_,rfl⟩
      | sl=>exact .inl ⟨_,_,rfl⟩
  · injection h with h; subst h
    cases hv with
    | ref0=>exact .inl ⟨_,_,rfl⟩
    | ref=>exact .inl ⟨_,_,rfl⟩
    | refE=>exact .inl ⟨_,_,rfl⟩
  · injection h with h; subst h
    cases hv with | pv hp=>cases hp; exact .inr ⟨_,rfl,rfl⟩
  · cases h
end Go.Ab
