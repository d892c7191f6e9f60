import Derived.Test.YtejbcaheoloahaaGreatAbOps3
set_option linter.all false
namespace Go.Ab
open Go
variable {P:Program}{T:Nat→Option TI}{w w':World}{F:Froz}{Pr:Nat→Prop}{m:Mu}{look:Look}{nid:Nat}
theorem amY {us:List Value}{cells:List AV}{e:Nat}(hI:Inv w F Pr m look) (hf:∀ γ h,m nid γ h=none) (hr:RelL w F m us cells)
  (hh:w'.heap=w.heap.push (.cells us.toArray e (0,0))) (ho:w'.os=w.os) (ht:w'.tape=w.tape) (hu:w'.output=w.output):
  Post w F Pr m look nid ⟨.ptr nid 0,[],[.box cells false]⟩ (.pointer (some ⟨w.heap.size,0,none⟩)) w':=by
 have hx:=Ext.push hI hh ho ht hu
 refine ⟨F,acT m nid 0 0 (w.heap.size,0),hx,ab2 (hf _ _),.ptr (acx _ _ _ _ _),?_,fun i _ hi γ h=>?_⟩
 ·rw [ag7]
  refine hI.push hh hf ?_
  refine ⟨w.heap.size,0,us,e,acx _ _ _ _ _,fun γ h x hx=>(afo hf hx).2.2,adE hh,hx.keepL (ab2 (hf _ _)) hr,fun hp=>?_,fun _ o hF=>?_,fun h=>by cases h⟩
  ·have:=hI.szP _ hp;omega
  have:=hI.ltF hF;omega
 have:i≠nid:=by simp at hi;omega
 exact QD this _ _
theorem ajG {cur:Array Value}{rows:List (List PV)}{e esz cap:Nat}(hI:Inv w F Pr m look) (hf:∀ γ h,m nid γ h=none) (h0:0<esz)
  (hl:∀ c,c∈rows→c.length=esz) (hn:rows.length≤cap) (hm:cap≤maxLen) (hs:cur.size=cap*esz)
  (hr:∀ i,i<rows.length→∀ j,j<esz→∃ u p,cur[i*esz+j]?=some u∧(rows[i]?).bind (·[j]?)=some p∧Rep w F u p)
  (hh:w'.heap=w.heap.push (.cells cur e (0,0))) (ho:w'.os=w.os) (ht:w'.tape=w.tape) (hu:w'.output=w.output):
  Post w F Pr m look nid ⟨.ref nid 0 rows.length esz 0 rows.length,[],[.row e esz ⟨rows,0,0,0,0⟩]⟩ (.slice (some ⟨w.heap.size,0,none⟩) rows.length cap) w':=by
 have hx:=Ext.push hI hh ho ht hu
 refine ⟨F,acT m nid 0 rows.length (w.heap.size,cap),hx,ab2 (hf _ _),.ref0 (acx _ _ _ _ _) (Nat.le_refl _) hn,?_,fun i _ hi γ h=>?_⟩
 ·rw [ag7]
  refine hI.push hh hf ⟨⟨h0,Nat.zero_le _,Nat.zero_le _⟩,hl,fun γ h g c hx'=>?_⟩
  obtain ⟨rfl,rfl,hgc⟩:=afo hf hx'
  have hg:g=w.heap.size:=congrArg Prod.fst hgc
  have hc:c=cap:=congrArg Prod.snd hgc
  subst hg;subst hc
  refine ⟨fun hp=>?_,fun o _ hF=>?_,.inr ⟨rfl,Nat.le_refl _⟩,fun _=>⟨hn,hm,cur,adE hh,hs,fun i hi j hj=>?_⟩⟩
  ·have:=hI.szP _ hp;omega
  ·have:=hI.ltF hF;omega
  obtain ⟨u,p,a,b,c⟩:=hr i hi j hj
  exact ⟨u,p,a,b,c.keep hx.fz hx.mono⟩
 have:i≠nid:=by simp at hi;omega
 exact QD this _ _
theorem TOk.zero (hT:TOk P T) {t:Nat}{ti:TI}(h:T t=some ti) (w:World) (F:Froz):∃ i z,P.info? t=some i∧i.size=ti.size∧i.bytes=ti.bytes∧i.zero=some z∧
  z.cells.size=ti.size∧ti.zero.length=ti.size∧(ti.agg=true→z=.agg z.cells)∧∀ m,RelL w F m z.cells.toList (ahh ti):=by
 obtain ⟨i,d,z,h1,h2,h3,h4,h5,h6,h7,h8,h9,h10,h11,h12⟩:=hT.ok t ti h
 exact ⟨i,z,h1,h5,h6,h7,h8,h9,h10,fun m=>RelL.acf (by simp [h8,h9]) (fun j hj hj'=>by simpa using h12 w F j (by simpa using hj) hj')⟩
theorem afd (hT:TOk P T) {t:Nat}{ti:TI}(h:T t=some ti) (w:World) (F:Froz):∃ z,(zeroValue t).run P w=.ok z w∧z.cells.size=ti.size∧(ti.agg=true→z=.agg z.cells)∧∀ m,RelL w F m z.cells.toList (ahh ti):=by
 obtain ⟨i,z,h1,h2,h3,h4,h5,h6,h7,h8⟩:=hT.zero h w F
 exact ⟨z,by simp [zeroValue,typeInfo,h1,h4],h5,h7,h8⟩
theorem arN {t:Nat}{ti:TI}{old:Value}(hT:TOk P T) (ht:T t=some ti) (hI:Inv w F Pr m look) (hf:∀ γ h,m nid γ h=none):
  ∃ v w',(Instr.alloc t true old).run P w=.ok v w'∧Post w F Pr m look nid ⟨.ptr nid 0,[],[.box (ahh ti) false]⟩ v w':=by
 obtain ⟨z,hz,h1,h2,h3⟩:=afd (P:=P) hT ht w F
 refine ⟨_,w.alloc (.cells z.cells t),?_,amY (us:=z.cells.toList) (e:=t) hI hf (h3 m) (by rw [Array.toArray_toList];rfl) rfl rfl rfl⟩
 cases old<;>simp [Instr.alloc,hz,newVar,newRow]
theorem ati {t:Nat}{xv:Value}{x:AV}{cs:List AV}(hx:RelV w F m xv x) (hc:x.cells=some cs) (hI:Inv w F Pr m look) (hf:∀ γ h,m nid γ h=none):
  ∃ v w',(Instr.box t xv).run P w=.ok v w'∧Post w F Pr m look nid ⟨.ptr nid 0,[],[.box cs false]⟩ v w':=by
 obtain ⟨h1,h2⟩:=akX hx hc
 refine ⟨_,w.alloc (.cells xv.cells t),?_,amY (us:=xv.cells.toList) (e:=t) hI hf h1 (by rw [Array.toArray_toList];rfl) rfl rfl rfl⟩
 simp [Instr.box,newVar,newRow]
theorem aqt (vs:List Value):∀ (k off:Nat) (cs:Array Value),off+k+vs.length≤cs.size→
  ((vs.zipIdx k).foldl (fun cs (p:Value×Nat)=>cs.setIfInBounds (off+p.2) p.1) cs).toList=cs.toList.take (off+k)++vs++cs.toList.drop (off+k+vs.length):=by
 induction vs with
 |nil=>intro k off cs h;simp
 |cons v vs ih=>
  intro k off cs h
  simp only [List.zipIdx_cons,List.foldl_cons]
  simp only [List.length_cons] at h
  rw [ih (k+1) off _ (by simp;omega)]
  have e:=list_seg_step cs.toList (off+k) v vs (by simp;omega)
  simpa [Array.toList_setIfInBounds,Nat.add_assoc] using e
theorem akM (place:Nat→Option (Nat×Nat)):∀ (parts:List (Nat×Value)) (aparts:List (Nat×AV)) (arr:Array Value) (cells r:List AV),
  parts.length=aparts.length→(∀ j (h:j<parts.length) (h':j<aparts.length),parts[j].1=aparts[j].1∧RelV w F m parts[j].2 aparts[j].2)→
  RelL w F m arr.toList cells→abU cells place aparts=some r→∃ arr',Instr.fill place arr parts=some arr'∧RelL w F m arr'.toList r
 |[],[],arr,cells,r,_,_,hr,h=>by
  simp only [abU,Option.some.injEq] at h
  subst h
  exact ⟨arr,rfl,hr⟩
 |[],_::_,_,_,_,hl,_,_,_=>by simp at hl
 |_::_,[],_,_,_,hl,_,_,_=>by simp at hl
 |(i,v)::parts,(i',x)::aparts,arr,cells,r,hl,hp,hr,h=>by
  obtain ⟨e1,e2⟩:=hp 0 (by simp) (by simp)
  simp only [List.getElem_cons_zero] at e1 e2
  subst e1
  simp only [abU] at h
  split at h
  rotate_left
  ·cases h
  rename_i off size vs hpl hvs
  split at h
  rotate_left
  ·cases h
  rename_i hsz
  obtain ⟨cs,hcs,h⟩:=jl.1 h
  obtain ⟨hfit,hcs⟩:=agv hcs
  obtain ⟨hv,_⟩:=akX e2 hvs
  have hvl:v.cells.size=vs.length:=by have:=hv.1;simpa using this
  have hal:arr.size=cells.length:=by have:=hr.1;simpa using this
  have hfold:=aqt v.cells.toList 0 off arr (by simp;omega)
  have hfe:v.cells.zipIdx.foldl (fun cs (p:Value×Nat)=>cs.setIfInBounds (off+p.2) p.1) arr=(arr.toList.take off++v.cells.toList++arr.toList.drop (off+v.cells.toList.length)).toArray:=by
   apply Array.ext'
   rw [←Array.foldl_toList,Array.toList_zipIdx,hfold]
   simp
  obtain ⟨arr',h1,h2⟩:=akM place parts aparts (arr.toList.take off++v.cells.toList++arr.toList.drop (off+v.cells.toList.length)).toArray cs r (by simpa using hl)
   (fun j a b=>by have:=hp (j+1) (by simpa using a) (by simpa using b);simpa using this)
   (by rw [hcs];simpa using hr.afg hv off) h
  refine ⟨arr',?_,h2⟩
  simp only [Instr.fill,hpl]
  rw [if_neg (by simp;omega)]
  rw [←h1,←hfe]
theorem run_places (hT:TOk P T):∀ (l:List Field),(∀ f,f∈l→(T f.type).isSome=true)→∀ w:World,
  (l.mapM (m:=Sem) fun f=>do pure (f.offset,←sizeOf f.type)).run P w=.ok (l.map fun f=>(f.offset,((T f.type).map (·.size)).getD 0)) w
 |[],_,w=>by simp
 |f::l,h,w=>by
  obtain ⟨ti,hti⟩:=Option.isSome_iff_exists.1 (h f (by simp))
  have ih:=run_places hT l (fun f hf=>h f (by simp [hf])) w
  simp only [List.mapM_cons,Sem.run_bind,run_sizeOf hT hti,Result.andThen_ok,Sem.run_pure,ih,List.map_cons,hti,Option.map_some,Option.getD_some]
theorem ar1 {t:Nat}{parts:Array (Nat×Value)}{aparts:List (Nat×AV)}{x:AV}(hT:TOk P T)
  (hl:parts.toList.length=aparts.length) (hp:∀ j (h:j<parts.toList.length) (h':j<aparts.length),parts.toList[j].1=aparts[j].1∧RelV w F m parts.toList[j].2 aparts[j].2)
  (h:apf T t aparts=some x):∃ v,(Instr.build t parts).run P w=.ok v w∧RelV w F m v x:=by
 unfold apf at h
 split at h
 rotate_left
 ·cases h
 rename_i ti ht
 obtain ⟨z,hz,h1,h2,h3⟩:=afd (P:=P) hT ht w F
 split at h
 ·rename_i fs hd
  split at h
  rotate_left
  ·cases h
  rename_i hall
  rw [jk] at h
  obtain ⟨r,hr,rfl⟩:=h
  obtain ⟨fields,hu,hfs⟩:=hT.struct ht hd
  subst hfs
  have hpl:=run_places hT fields.toList (fun f hf=>by
   have:=List.all_eq_true.1 hall (f.offset,f.type) (List.mem_map.2 ⟨f,hf,rfl⟩)
   exact this) w
  have heq:(fun i=>((fields.toList.map fun f=>(f.offset,((T f.type).map (·.size)).getD 0)).toArray)[i]?)=ae9 T (fields.toList.map fun f=>(f.offset,f.type)):=by
   funext i
   simp only [ae9,List.getElem?_toArray,List.getElem?_map]
   cases hfi:fields.toList[i]? with
   |none=>simp
   |some f=>
    have:=List.all_eq_true.1 hall (f.offset,f.type) (List.mem_map.2 ⟨f,List.mem_of_getElem? hfi,rfl⟩)
    obtain ⟨ti,hti⟩:=Option.isSome_iff_exists.1 this
    simp only at hti
    simp [hti]
  obtain ⟨arr,ha,hrel⟩:=akM (w:=w) (F:=F) (m:=m) (ae9 T (fields.toList.map fun f=>(f.offset,f.type))) parts.toList aparts z.cells (ahh ti) r hl hp (h3 m) hr
  refine ⟨.agg arr,?_,?_⟩
  ·have hm:(fields.mapM (m:=Sem) fun f=>do pure (f.offset,←sizeOf f.type)).run P w=.ok ((fields.toList.map fun f=>(f.offset,((T f.type).map (·.size)).getD 0)).toArray) w:=by
    rw [Array.mapM_eq_mapM_toList]
    simp only [Sem.run_map,hpl,Result.andThen_ok]
   unfold Instr.build
   simp only [Sem.run_bind,hz,Result.andThen_ok,run_underlying hu,hm]
   rw [heq,ha]
   simp
  have:=RelV.agg (w:=w) (F:=F) (m:=m) arr.toList r hrel.1 hrel.2
  simpa using this
 ·rename_i n e hd
  obtain ⟨ei,he,h⟩:=jl.1 h
  rw [jk] at h
  obtain ⟨r,hr,rfl⟩:=h
  have hu:=hT.array ht hd
  obtain ⟨arr,ha,hrel⟩:=akM (w:=w) (F:=F) (m:=m) (fun i=>some (i*ei.size,ei.size)) parts.toList aparts z.cells (ahh ti) r hl hp (h3 m) hr
  refine ⟨.agg arr,?_,?_⟩
  ·unfold Instr.build
   simp only [Sem.run_bind,hz,Result.andThen_ok,run_underlying hu,run_sizeOf hT he]
   rw [ha]
   simp
  have:=RelV.agg (w:=w) (F:=F) (m:=m) arr.toList r hrel.1 hrel.2
  simpa using this
 cases h
end Go.Ab
