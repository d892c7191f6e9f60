import Derived.Test.YtejbcaheoloahaaGreatAbOps5
import Derived.Laws.Strings2
set_option linter.unusedVariables false
set_option linter.unusedSimpArgs false
namespace Go.Ab
open Go
variable {P:Program} {T:Nat→Option TI} {w w':World} {F:Froz} {Pr:Nat→Prop} {m:Mu} {look:Look} {nid:Nat}
theorem Inv.widen {F':Froz} (hI:Inv w F Pr m look) (hsz:w.heap.size≤w'.heap.size) (hh:∀ g,g < w.heap.size→w'.heap[g]?=w.heap[g]?)
    (hm:∀ g o,F g o→F' g o) (hn:∀ g o,F' g o→F g o∨(w.heap.size≤g∧∃ v,w'.cell? ⟨g,o,none⟩=some v)):Inv w' F' Pr m look:=by
  have hcell:∀ g o,F g o→w'.cell? ⟨g,o,none⟩=w.cell? ⟨g,o,none⟩:=fun g o h=>ZR (hh g (hI.ltF h))
  refine ⟨fun id b hl=>?_,hI.apart,fun g o h=>?_,fun g h=>Nat.lt_of_lt_of_le (hI.szP g h) hsz,fun id b γ h g c hl e=>Nat.lt_of_lt_of_le (hI.sz id b γ h g c hl e) hsz⟩
  · have hb:=hI.blk id b hl
    have hF:∀ g,g < w.heap.size→∀ o,F' g o→F g o:=fun g hg o h=>(hn g o h).elim (fun h=>h) (fun e=>by omega)
    cases b with
    | dead=>exact hb
    | map _ _ ents=>
      obtain ⟨g,c,es,clock,h1,h2,h3,h4,h5⟩:=hb
      have hg:=hI.sz id _ _ _ g c hl h1
      exact ⟨g,c,es,clock,h1,h2,(hh g hg).trans h3,h4.keep hcell hm,h5⟩
    | box cells z=>
      obtain ⟨g,c,vs,e,h1,h2,h3,h4,h5,h6,h7⟩:=hb
      have hg:=hI.sz id _ _ _ g c hl h1
      exact ⟨g,c,vs,e,h1,h2,(hh g hg).trans h3,h4.keep hcell hm (qi.refl m),h5,fun hz o h=>h6 hz o (hF g hg o h),fun hz o ho=>hm _ _ (h7 hz o ho)⟩
    | row e esz r=>
      obtain ⟨h1,h2,h3⟩:=hb
      refine ⟨h1,h2,fun γ h g c hx=>?_⟩
      have hg:=hI.sz id _ _ _ g c hl hx
      obtain ⟨k1,k2,k3,k4⟩:=h3 γ h g c hx
      refine ⟨k1,fun o ho h=>k2 o ho (hF g hg o h),k3,fun hv=>?_⟩
      obtain ⟨l1,l2,cur,l3,l4,l5⟩:=k4 hv
      exact ⟨l1,l2,cur,(hh g hg).trans l3,l4,fun i hi j hj=>by
        obtain ⟨u,p,a,b,c⟩:=l5 i hi j hj
        exact ⟨u,p,a,b,c.keep hcell hm⟩⟩
  · rcases hn g o h with h | ⟨_,h⟩
    · obtain ⟨v,hv⟩:=hI.szF g o h
      exact ⟨v,(hcell g o h).trans hv⟩
    · exact h
theorem Post.wide {F':Froz} {v:Value} {x:AV} (hI:Inv w F Pr m look) (hsz:w.heap.size≤w'.heap.size) (hh:∀ g,g < w.heap.size→w'.heap[g]?=w.heap[g]?)
    (ho:w'.os=w.os) (ht:w'.tape=w.tape) (hu:w'.output=w.output)
    (hm:∀ g o,F g o→F' g o) (hn:∀ g o,F' g o→F g o∨(w.heap.size≤g∧∃ v,w'.cell? ⟨g,o,none⟩=some v)) (hv:RelV w' F' m v x):Post w F Pr m look nid ⟨x,[],[]⟩ v w':=
  ⟨F',m,⟨ho,ht,hu,hsz,fun g o h=>ZR (hh g (hI.ltF h)),fun g h=>hh g (hI.szP g h),hm,fun g o h=>(hn g o h).imp id (fun e hp=>by have:=hI.szP g hp; omega)⟩,
    qi.refl m,hv,by rw [Qk]; exact hI.widen hsz hh hm hn,fun _ _ _ _ _=>rfl⟩
theorem ad7:∀ (rows:List (List PV)) (l:List UInt8),qX rows=some l→∃ ns:List Int,rows=ns.map (fun n=>[PV.int .u8 n])∧l=ns.map fun n=>UInt8.ofNat n.toNat
  | [],l,h=>by simp [qX] at h; exact ⟨[],by simp,by simp [h]⟩
  | c :: r,l,h=>by
    unfold qX at h
    split at h
    · rename_i heq; cases heq
    · rename_i n r' heq
      injection heq with h1 h2
      subst h1; subst h2
      rw [Option.map_eq_some_iff] at h
      obtain ⟨l',hl',rfl⟩:=h
      obtain ⟨ns,e1,e2⟩:=ad7 r l' hl'
      exact ⟨n :: ns,by simp [← e1],by simp [e2]⟩
    · cases h
theorem an0 (ns:List Int):∀ (s:ByteArray),ns.foldl (fun r n=>r.push (UInt8.ofNat n.toNat)) s=⟨(s.data.toList++ns.map fun n=>UInt8.ofNat n.toNat).toArray⟩:=by
  induction ns with
  | nil=>intro s; simp
  | cons n ns ih=>intro s; rw [List.foldl_cons,ih]; simp [ByteArray.push]
theorem apz {src dst:Nat} {xv:Value} {x y:AV} (hT:TOk P T) (hI:Inv w F Pr m look) (hx:RelV w F m xv x) (h:agC T src dst x look=some y):
    ∃ v w',(convert src dst xv).run P w=.ok v w'∧Post w F Pr m look nid ⟨y,[],[]⟩ v w':=by
  unfold agC at h
  split at h
  rotate_left
  · cases h
  rename_i s d hs hd
  obtain ⟨i1,d1,z1,a1,a2,a3,_⟩:=hT.ok src s hs
  obtain ⟨i2,d2,z2,b1,b2,b3,_⟩:=hT.ok dst d hd
  split at h
  · -- numbers
    rename_i k k' n hk
    injection h with h
    subst h
    have hu:=hT.int hd hk
    cases hx with | pv hp=>
    cases hp
    exact ⟨_,w,by simp [convert,run_underlying a2,run_underlying hu,Conv.intToInt],Post.same hI (.pv (.int _ _))⟩
  · -- a string's kinds
    rename_i str hk
    injection h with h
    subst h
    have hu:=hT.str hd hk
    cases hx with | pv hp=>
    cases hp
    exact ⟨_,w,by cases d1 <;> simp [convert,run_underlying a2,run_underlying hu],Post.same hI (.pv (.str _))⟩
  · -- bytes of a string
    rename_i e str hk
    split at h
    rotate_left
    · cases h
    rename_i s1 s2 s3 s4 he
    injection h with h
    subst h
    have hu:=hT.slice hd hk
    have hue:=hT.int he rfl
    cases hx with | pv hp=>
    cases hp
    let cap:=Question.cut (.appendCap str.size 0 e) (w.tape w.drawn (.appendCap str.size 0 e))
    let arr:Array Value:=(str.data.map fun b=>Value.int .u8 b.toNat)++Array.replicate (cap - str.size) (.int .u8 0)
    let w0:World:=w.drew.alloc (.cells arr e)
    let w1:World:=w0.freeze { block:=w.heap.size,off:=arr.size } 1
    have h0n:w0.heap[w.heap.size]?=some (.cells arr e (0,0)):=heap_alloc_new w.drew _
    have hrun:(convert src dst (.string str)).run P w=.ok (.slice (some ⟨w.heap.size,0,none⟩) str.size cap) w1:=by
      have hshape:w0.shape? w.heap.size=some (e,arr.size):=by simp only [World.shape?,h0n]
      have:(Conv.stringToBytes e str).run P w=.ok (.slice (some ⟨w.heap.size,0,none⟩) str.size cap) w1:=by
        unfold Conv.stringToBytes
        simp only [Sem.run_bind,run_choose,Question.forced,Bool.false_eq_true,if_false,Result.andThen_ok,newRow,run_newObj,Sem.run_pure,markStringish,run_shape]
        rw [show (World.shape? { heap:=w.heap.push (.cells (Array.map (fun b=>Value.int .u8 b.toNat) str.data++Array.replicate (Question.cut (.appendCap str.size 0 e) (w.tape w.drawn (.appendCap str.size 0 e)) - str.size) (Value.int .u8 0)) e),tape:=w.tape,drawn:=w.drawn+1,os:=w.os,output:=w.output } w.heap.size)=some (e,arr.size) from hshape]
        rfl
      cases d1 <;> simp [convert,run_underlying a2,run_underlying hu,run_underlying hue,this]
    have hsize:w1.heap.size=w.heap.size+1:=by simp [w1,w0,World.freeze]
    have hold:∀ g,g < w.heap.size→w1.heap[g]?=w.heap[g]?:=fun g hg=>by
      have h1:w0.heap[g]?=w.heap[g]?:=heap_alloc_old w.drew _ g hg
      simp only [w1,World.freeze,Nat.one_ne_zero,if_false,Array.getElem?_modify]
      rw [if_neg (by omega)]; exact h1
    have hn1:w1.heap[w.heap.size]?=some (.cells arr e (arr.size,arr.size+1)):=by
      simp only [w1,World.freeze,Nat.one_ne_zero,if_false,Array.getElem?_modify,if_true,h0n,Option.map_some]
      rfl
    have hnew:∀ j,w1.cell? ⟨w.heap.size,j,none⟩=arr[j]?:=fun j=>cell_of_row w1 _ j _ e _ hn1
    have hcap:str.size≤cap:=by simp [cap,Question.cut]
    have hsz:∀ j,j < str.size→arr[j]?=some (.int .u8 (str.data.toList[j]?.getD 0).toNat):=fun j hj=>by
      have hj':j < str.data.size:=hj
      simp only [arr]
      rw [Array.getElem?_append_left (by rw [Array.size_map]; exact hj'),Array.getElem?_map,Array.getElem?_toList,Array.getElem?_eq_getElem hj']
      rfl
    have hlen:(ZA str).length=str.size:=by simp [ZA]
    have hn:∀ g o,(F g o∨(g=w.heap.size∧o < str.size))→F g o∨(w.heap.size≤g∧∃ v,w1.cell? ⟨g,o,none⟩=some v):=by
      rintro g o (h | ⟨rfl,b⟩)
      · exact .inl h
      · exact .inr ⟨Nat.le_refl _,_,(hnew o).trans (hsz o b)⟩
    refine ⟨_,w1,hrun,Post.wide (F':=fun g o=>F g o∨(g=w.heap.size∧o < str.size)) hI (by omega) hold rfl rfl rfl (fun g o h=>.inl h) hn ?_⟩
    · rw [← hlen]
      refine .pv (.sl w.heap.size 0 1 cap (ZA str) (fun i j=>.int .u8 (str.data.toList[i]?.getD 0).toNat) (by omega) (fun i hi=>by simp [ZA]) (fun i hi j hj=>?_) (fun i hi j hj=>.inr ⟨rfl,by omega⟩) (fun i hi j hj=>?_))
      · have:j=0:=by omega
        subst this
        rw [hnew,hsz _ (by omega)]
        simp
      · have hi':i < str.data.toList.length:=by rw [hlen] at hi; exact hi
        have hj0:j=0:=by simp [ZA] at hj; exact hj
        subst hj0
        simp only [ZA,List.getElem_map,List.getElem_cons_zero,List.getElem?_eq_getElem hi',Option.getD_some]
        exact .int _ _
  · -- a string of bytes
    rename_i hk hnot
    split at h
    rotate_left
    · cases h
    rename_i e hse
    split at h
    rotate_left
    · cases h
    rename_i s1 s2 s3 s4 he
    rw [Option.map_eq_some_iff] at h
    obtain ⟨l,hl,rfl⟩:=h
    obtain ⟨rows,hrows,hl⟩:=Option.bind_eq_some_iff.1 hl
    obtain ⟨ns,hns,rfl⟩:=ad7 rows l hl
    have hus:=hT.slice hs hse
    have hue:=hT.int he rfl
    have hud:=hT.str hd hk
    obtain ⟨A,c,esz,rfl,hA⟩:=amU hI hx hrows
    have hrun:(Conv.bytesToString (.slice A rows.length c)).run P w=.ok (.string ⟨(ns.map fun n=>UInt8.ofNat n.toNat).toArray⟩) w:=by
      by_cases h0:0 < rows.length
      · obtain ⟨g,o,rfl,hg⟩:=hA h0
        have hlen:rows.length=ns.length:=by rw [hns]; simp
        have hesz:esz=1:=by
          have:=(hg 0 h0).1 (rows[0]) (by simp [h0])
          rw [← this]
          simp [hns]
        subst hesz
        have hload:(loadCells ⟨g,o,none⟩ rows.length).run P w=.ok (ns.map (Value.int .u8)).toArray w:=by
          rw [hlen]
          have:=run_loadCells_list (P:=P) w ⟨g,o,none⟩ (ns.map (Value.int .u8)) (fun j v hv=>by
            obtain ⟨hj,rfl⟩:=List.getElem?_eq_some_iff.1 hv
            have hj':j < ns.length:=by simpa using hj
            obtain ⟨u,p,q1,q2,q3⟩:=(hg j (by omega)).2 0 (by omega)
            rw [Qd]
            simp only [Nat.mul_one,Nat.add_zero] at q1
            rw [q1]
            rw [hns] at q2
            simp only [List.getElem?_map,List.getElem?_eq_getElem hj',Option.map_some,Option.bind_some,List.getElem?_cons_zero,Option.some.injEq] at q2
            subst q2
            cases q3
            simp)
          simpa using this
        rw [run_bytesToString w _ _ c ns hload,an0]
        simp
      · have hl0:rows.length=0:=by omega
        have hns0:ns=[]:=by
          have:ns.length=0:=by rw [← hl0,hns]; simp
          exact List.eq_nil_of_length_eq_zero this
        subst hns0
        rw [hl0]
        cases A with
        | none=>simp [Conv.bytesToString]; rfl
        | some a=>
          have:=run_bytesToString (P:=P) w a 0 c [] (by simp [loadCells,loadCellsFrom])
          rw [this]; rfl
    refine ⟨_,w,?_,Post.same hI (.pv (.str _))⟩
    rw [run_convert_bytes_string w src dst e A rows.length c hus hue hud]
    exact hrun
  · cases h
end Go.Ab
