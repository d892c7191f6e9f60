import Derived.Test.YtejbcaheoloahaaGreatAbOps3
set_option linter.unusedVariables false
set_option linter.unusedSimpArgs false
namespace Go.Ab
open Go
variable {P:Program} {T:Nat→Option TI} {w w':World} {F:Froz} {Pr:Nat→Prop} {m:Mu} {look:Look} {nid:Nat}
theorem aj6 {us:List Value} {cells:List AV} {e:Nat} (hI:Inv w F Pr m look) (hf:∀ γ h,m nid γ h=none) (hr:RelL w F m us cells)
    (hh:w'.heap=w.heap.push (.cells us.toArray e (0,0))) (ho:w'.os=w.os) (ht:w'.tape=w.tape) (hu:w'.output=w.output):
    Post w F Pr m look nid ⟨.ptr nid 0,[],[.box cells false]⟩ (.pointer (some ⟨w.heap.size,0,none⟩)) w':=by
  have hx:=Ext.push hI hh ho ht hu
  refine ⟨F,QN m nid 0 0 (w.heap.size,0),hx,Qa (hf _ _),.ptr (Qx _ _ _ _ _),?_,fun i _ hi γ h=>?_⟩
  · rw [ac7]
    refine hI.push hh hf ?_
    refine ⟨w.heap.size,0,us,e,Qx _ _ _ _ _,fun γ h x hx=>(acv hf hx).2.2,aa1 hh,hx.keepL (Qa (hf _ _)) hr,fun hp=>?_,fun _ o hF=>?_,fun h=>by cases h⟩
    · have:=hI.szP _ hp; omega
    · have:=hI.ltF hF; omega
  · have:i≠nid:=by simp at hi; omega
    exact qa this _ _
theorem Inv.alias {cells:List AV} {z:Bool} {id γ h:Nat} {x:Nat × Nat} (hI:Inv w F Pr m look) (hl:look id=some (.box cells z)) (h0:m id 0 0=some x) (hn:m id γ h=none):Inv w F Pr (QN m id γ h x) look:=by
  have hext:qi m (QN m id γ h x):=Qa hn
  have back:∀ {i γ1 k1 y},QN m id γ h x i γ1 k1=some y→∃ γ2 k2,m i γ2 k2=some y:=fun {i γ1 k1 y} e=>by
    rcases aeF e with ⟨rfl,_,_,rfl⟩ | e2
    · exact ⟨0,0,h0⟩
    · exact ⟨_,_,e2⟩
  refine ⟨fun i b hb=>?_,fun i j b1 b2 h1 h2 hne γ1 k1 γ2 k2 g c1 c2 e1 e2=>?_,hI.szF,hI.szP,fun i b γ1 k1 g c1 hb e=>?_⟩
  · by_cases hi:i=id
    · subst hi
      rw [hl] at hb
      injection hb with hb
      subst hb
      obtain ⟨g,c,vs,e,k1,k2,k3,k4,k5,k6,k7⟩:=hI.blk i _ hl
      refine ⟨g,c,vs,e,hext _ _ _ _ k1,fun γ1 h1 y hy=>?_,k3,k4.keep (fun _ _ _=>rfl) (fun _ _ h=>h) hext,k5,k6,k7⟩
      obtain ⟨γ2,h2,e2⟩:=back hy
      exact k2 _ _ _ e2
    · exact (hI.blk i b hb).keep (fun _ _ _=>rfl) hext (fun γ1 h1 y hy=>by rwa [qa hi] at hy) (fun _ _ _ _ _=>rfl)
  · obtain ⟨γ3,k3,e3⟩:=back e1
    obtain ⟨γ4,k4,e4⟩:=back e2
    exact hI.apart i j b1 b2 h1 h2 hne _ _ _ _ g c1 c2 e3 e4
  · obtain ⟨γ3,k3,e3⟩:=back e
    exact hI.sz i b _ _ g c1 hb e3
theorem alF {us:List Value} {cells:List AV} {e esz len:Nat} (h0:0 < len) (hI:Inv w F Pr m look) (hf:∀ γ h,m nid γ h=none) (hr:RelL w F m us cells)
    (hh:w'.heap=w.heap.push (.cells us.toArray e (0,0))) (ho:w'.os=w.os) (ht:w'.tape=w.tape) (hu:w'.output=w.output):
    Post w F Pr m look nid ⟨.ref nid 0 len esz 0 len,[],[.box cells false]⟩ (.slice (some ⟨w.heap.size,0,none⟩) len len) w':=by
  have hx:=Ext.push hI hh ho ht hu
  have hn:QN m nid 0 0 (w.heap.size,len) nid 0 len=none:=by
    unfold QN; rw [if_neg (by omega)]; exact hf _ _
  refine ⟨F,QN (QN m nid 0 0 (w.heap.size,len)) nid 0 len (w.heap.size,len),hx,(Qa (hf _ _)).trans (Qa hn),.ref0 (Qx _ _ _ _ _) (Nat.le_refl _) (Nat.le_refl _),?_,fun i _ hi γ h=>?_⟩
  · rw [ac7]
    refine Inv.alias (cells:=cells) (z:=false) (hI.push hh hf ?_) (by rw [if_pos rfl]) (Qx _ _ _ _ _) hn
    refine ⟨w.heap.size,len,us,e,Qx _ _ _ _ _,fun γ h x hx=>(acv hf hx).2.2,aa1 hh,hx.keepL (Qa (hf _ _)) hr,fun hp=>?_,fun _ o hF=>?_,fun h=>by cases h⟩
    · have:=hI.szP _ hp; omega
    · have:=hI.ltF hF; omega
  · have:i≠nid:=by simp at hi; omega
    rw [qa this,qa this]
theorem ahf {cur:Array Value} {rows:List (List PV)} {e esz cap:Nat} (hI:Inv w F Pr m look) (hf:∀ γ h,m nid γ h=none) (h0:0 < esz)
    (hl:∀ c,c∈rows→c.length=esz) (hn:rows.length≤cap) (hm:cap≤maxLen) (hs:cur.size=cap * esz)
    (hr:∀ i,i < rows.length→∀ j,j < esz→∃ u p,cur[i * esz+j]?=some u∧(rows[i]?).bind (·[j]?)=some p∧Rep w F u p)
    (hh:w'.heap=w.heap.push (.cells cur e (0,0))) (ho:w'.os=w.os) (ht:w'.tape=w.tape) (hu:w'.output=w.output):
    Post w F Pr m look nid ⟨.ref nid 0 rows.length esz 0 rows.length,[],[.row e esz ⟨rows,0,0,0,0⟩]⟩ (.slice (some ⟨w.heap.size,0,none⟩) rows.length cap) w':=by
  have hx:=Ext.push hI hh ho ht hu
  refine ⟨F,QN m nid 0 rows.length (w.heap.size,cap),hx,Qa (hf _ _),.ref0 (Qx _ _ _ _ _) (Nat.le_refl _) hn,?_,fun i _ hi γ h=>?_⟩
  · rw [ac7]
    refine hI.push hh hf ⟨⟨h0,Nat.zero_le _,Nat.zero_le _⟩,hl,fun γ h g c hx'=>?_⟩
    obtain ⟨rfl,rfl,hgc⟩:=acv hf hx'
    have hg:g=w.heap.size:=congrArg Prod.fst hgc
    have hc:c=cap:=congrArg Prod.snd hgc
    subst hg; subst hc
    refine ⟨fun hp=>?_,fun o _ hF=>?_,.inr ⟨rfl,Nat.le_refl _⟩,fun _=>⟨hn,hm,cur,aa1 hh,hs,fun i hi j hj=>?_⟩⟩
    · have:=hI.szP _ hp; omega
    · have:=hI.ltF hF; omega
    · obtain ⟨u,p,a,b,c⟩:=hr i hi j hj
      exact ⟨u,p,a,b,c.keep hx.fz hx.mono⟩
  · have:i≠nid:=by simp at hi; omega
    exact qa this _ _
theorem TOk.zero (hT:TOk P T) {t:Nat} {ti:TI} (h:T t=some ti) (w:World) (F:Froz):∃ i z,P.info? t=some i∧i.size=ti.size∧i.bytes=ti.bytes∧i.zero=some z∧
    z.cells.size=ti.size∧ti.zero.length=ti.size∧(ti.agg=true→z=.agg z.cells)∧∀ m,RelL w F m z.cells.toList (aeY ti):=by
  obtain ⟨i,d,z,h1,h2,h3,h4,h5,h6,h7,h8,h9,h10,h11,h12⟩:=hT.ok t ti h
  exact ⟨i,z,h1,h5,h6,h7,h8,h9,h10,fun m=>RelL.aaO (by simp [h8,h9]) (fun j hj hj'=>by simpa using h12 w F j (by simpa using hj) hj')⟩
theorem adb (hT:TOk P T) {t:Nat} {ti:TI} (h:T t=some ti) (w:World) (F:Froz):∃ z,(zeroValue t).run P w=.ok z w∧z.cells.size=ti.size∧(ti.agg=true→z=.agg z.cells)∧∀ m,RelL w F m z.cells.toList (aeY ti):=by
  obtain ⟨i,z,h1,h2,h3,h4,h5,h6,h7,h8⟩:=hT.zero h w F
  exact ⟨z,by simp [zeroValue,typeInfo,h1,h4],h5,h7,h8⟩
theorem aoj {t:Nat} {ti:TI} {old:Value} (hT:TOk P T) (ht:T t=some ti) (hI:Inv w F Pr m look) (hf:∀ γ h,m nid γ h=none):
    ∃ v w',(Instr.alloc t true old).run P w=.ok v w'∧Post w F Pr m look nid ⟨.ptr nid 0,[],[.box (aeY ti) false]⟩ v w':=by
  obtain ⟨z,hz,h1,h2,h3⟩:=adb (P:=P) hT ht w F
  refine ⟨_,w.alloc (.cells z.cells t),?_,aj6 (us:=z.cells.toList) (e:=t) hI hf (h3 m) (by rw [Array.toArray_toList]; rfl) rfl rfl rfl⟩
  cases old <;> simp [Instr.alloc,hz,newVar,newRow]
theorem ap7 {t:Nat} {xv:Value} {x:AV} {cs:List AV} (hx:RelV w F m xv x) (hc:x.cells=some cs) (hI:Inv w F Pr m look) (hf:∀ γ h,m nid γ h=none):
    ∃ v w',(Instr.box t xv).run P w=.ok v w'∧Post w F Pr m look nid ⟨.ptr nid 0,[],[.box cs false]⟩ v w':=by
  obtain ⟨h1,h2⟩:=aiu hx hc
  refine ⟨_,w.alloc (.cells xv.cells t),?_,aj6 (us:=xv.cells.toList) (e:=t) hI hf h1 (by rw [Array.toArray_toList]; rfl) rfl rfl rfl⟩
  simp [Instr.box,newVar,newRow]
theorem anN (vs:List Value):∀ (k off:Nat) (cs:Array Value),off+k+vs.length≤cs.size→
    ((vs.zipIdx k).foldl (fun cs (p:Value × Nat)=>cs.setIfInBounds (off+p.2) p.1) cs).toList=cs.toList.take (off+k)++vs++cs.toList.drop (off+k+vs.length):=by
  induction vs with
  | nil=>intro k off cs h; simp
  | cons v vs ih=>
    intro k off cs h
    simp only [List.zipIdx_cons,List.foldl_cons]
    simp only [List.length_cons] at h
    rw [ih (k+1) off _ (by simp; omega)]
    have e:=list_seg_step cs.toList (off+k) v vs (by simp; omega)
    simpa [Array.toList_setIfInBounds,Nat.add_assoc] using e
theorem aif (place:Nat→Option (Nat × Nat)):∀ (parts:List (Nat × Value)) (aparts:List (Nat × AV)) (arr:Array Value) (cells r:List AV),
    parts.length=aparts.length→(∀ j (h:j < parts.length) (h':j < aparts.length),parts[j].1=aparts[j].1∧RelV w F m parts[j].2 aparts[j].2)→
    RelL w F m arr.toList cells→aan cells place aparts=some r→∃ arr',Instr.fill place arr parts=some arr'∧RelL w F m arr'.toList r
  | [],[],arr,cells,r,_,_,hr,h=>by
    simp only [aan,Option.some.injEq] at h
    subst h
    exact ⟨arr,rfl,hr⟩
  | [],_ :: _,_,_,_,hl,_,_,_=>by simp at hl
  | _ :: _,[],_,_,_,hl,_,_,_=>by simp at hl
  | (i,v) :: parts,(i',x) :: aparts,arr,cells,r,hl,hp,hr,h=>by
    obtain ⟨e1,e2⟩:=hp 0 (by simp) (by simp)
    simp only [List.getElem_cons_zero] at e1 e2
    subst e1
    simp only [aan] at h
    split at h
    rotate_left
    · cases h
    rename_i off size vs hpl hvs
    split at h
    rotate_left
    · cases h
    rename_i hsz
    obtain ⟨cs,hcs,h⟩:=Option.bind_eq_some_iff.1 h
    obtain ⟨hfit,hcs⟩:=aeH hcs
    obtain ⟨hv,_⟩:=aiu e2 hvs
    have hvl:v.cells.size=vs.length:=by have:=hv.1; simpa using this
    have hal:arr.size=cells.length:=by have:=hr.1; simpa using this
    have hfold:=anN v.cells.toList 0 off arr (by simp; omega)
    have hfe:v.cells.zipIdx.foldl (fun cs (p:Value × Nat)=>cs.setIfInBounds (off+p.2) p.1) arr=(arr.toList.take off++v.cells.toList++arr.toList.drop (off+v.cells.toList.length)).toArray:=by
      apply Array.ext'
      rw [← Array.foldl_toList,Array.toList_zipIdx,hfold]
      simp
    obtain ⟨arr',h1,h2⟩:=aif place parts aparts (arr.toList.take off++v.cells.toList++arr.toList.drop (off+v.cells.toList.length)).toArray cs r (by simpa using hl)
      (fun j a b=>by have:=hp (j+1) (by simpa using a) (by simpa using b); simpa using this)
      (by rw [hcs]; simpa using hr.adf hv off) h
    refine ⟨arr',?_,h2⟩
    simp only [Instr.fill,hpl]
    rw [if_neg (by simp; omega)]
    rw [← h1,← hfe]
theorem run_places (hT:TOk P T):∀ (l:List Field),(∀ f,f∈l→(T f.type).isSome=true)→∀ w:World,
    (l.mapM (m:=Sem) fun f=>do pure (f.offset,← sizeOf f.type)).run P w=.ok (l.map fun f=>(f.offset,((T f.type).map (·.size)).getD 0)) w
  | [],_,w=>by simp
  | f :: l,h,w=>by
    obtain ⟨ti,hti⟩:=Option.isSome_iff_exists.1 (h f (by simp))
    have ih:=run_places hT l (fun f hf=>h f (by simp [hf])) w
    simp only [List.mapM_cons,Sem.run_bind,run_sizeOf hT hti,Result.andThen_ok,Sem.run_pure,ih,List.map_cons,hti,Option.map_some,Option.getD_some]
theorem aoe {t:Nat} {parts:Array (Nat × Value)} {aparts:List (Nat × AV)} {x:AV} (hT:TOk P T)
    (hl:parts.toList.length=aparts.length) (hp:∀ j (h:j < parts.toList.length) (h':j < aparts.length),parts.toList[j].1=aparts[j].1∧RelV w F m parts.toList[j].2 aparts[j].2)
    (h:ame T t aparts=some x):∃ v,(Instr.build t parts).run P w=.ok v w∧RelV w F m v x:=by
  unfold ame at h
  split at h
  rotate_left
  · cases h
  rename_i ti ht
  obtain ⟨z,hz,h1,h2,h3⟩:=adb (P:=P) hT ht w F
  split at h
  · rename_i fs hd
    split at h
    rotate_left
    · cases h
    rename_i hall
    rw [Option.map_eq_some_iff] at h
    obtain ⟨r,hr,rfl⟩:=h
    obtain ⟨fields,hu,hfs⟩:=hT.struct ht hd
    subst hfs
    have hpl:=run_places hT fields.toList (fun f hf=>by
      have:=List.all_eq_true.1 hall (f.offset,f.type) (List.mem_map.2 ⟨f,hf,rfl⟩)
      exact this) w
    have heq:(fun i=>((fields.toList.map fun f=>(f.offset,((T f.type).map (·.size)).getD 0)).toArray)[i]?)=acZ T (fields.toList.map fun f=>(f.offset,f.type)):=by
      funext i
      simp only [acZ,List.getElem?_toArray,List.getElem?_map]
      cases hfi:fields.toList[i]? with
      | none=>simp
      | some f=>
        have:=List.all_eq_true.1 hall (f.offset,f.type) (List.mem_map.2 ⟨f,List.mem_of_getElem? hfi,rfl⟩)
        obtain ⟨ti,hti⟩:=Option.isSome_iff_exists.1 this
        simp only at hti
        simp [hti]
    obtain ⟨arr,ha,hrel⟩:=aif (w:=w) (F:=F) (m:=m) (acZ T (fields.toList.map fun f=>(f.offset,f.type))) parts.toList aparts z.cells (aeY ti) r hl hp (h3 m) hr
    refine ⟨.agg arr,?_,?_⟩
    · have hm:(fields.mapM (m:=Sem) fun f=>do pure (f.offset,← sizeOf f.type)).run P w=.ok ((fields.toList.map fun f=>(f.offset,((T f.type).map (·.size)).getD 0)).toArray) w:=by
        rw [Array.mapM_eq_mapM_toList]
        simp only [Sem.run_map,hpl,Result.andThen_ok]
      unfold Instr.build
      simp only [Sem.run_bind,hz,Result.andThen_ok,run_underlying hu,hm]
      rw [heq,ha]
      simp
    · have:=RelV.agg (w:=w) (F:=F) (m:=m) arr.toList r hrel.1 hrel.2
      simpa using this
  · rename_i n e hd
    obtain ⟨ei,he,h⟩:=Option.bind_eq_some_iff.1 h
    rw [Option.map_eq_some_iff] at h
    obtain ⟨r,hr,rfl⟩:=h
    have hu:=hT.array ht hd
    obtain ⟨arr,ha,hrel⟩:=aif (w:=w) (F:=F) (m:=m) (fun i=>some (i * ei.size,ei.size)) parts.toList aparts z.cells (aeY ti) r hl hp (h3 m) hr
    refine ⟨.agg arr,?_,?_⟩
    · unfold Instr.build
      simp only [Sem.run_bind,hz,Result.andThen_ok,run_underlying hu,run_sizeOf hT he]
      rw [ha]
      simp
    · have:=RelV.agg (w:=w) (F:=F) (m:=m) arr.toList r hrel.1 hrel.2
      simpa using this
  · cases h
end Go.Ab
