import Derived.Test.YtejbcaheoloahaaGreatAbOps7
set_option linter.unusedVariables false
set_option linter.unusedSimpArgs false
namespace Go.Ab
open Go
variable {P:Program} {T:Nat→Option TI} {w w':World} {F:Froz} {Pr:Nat→Prop} {m:Mu} {look:Look} {nid:Nat}
theorem ai7 {k n esz:Nat} (h:k < n * esz):k / esz < n∧k % esz < esz∧k / esz * esz+k % esz=k:=by
  have h0:0 < esz:=by
    rcases Nat.eq_zero_or_pos esz with rfl | h0
    · simp at h
    · exact h0
  exact ⟨Nat.div_lt_of_lt_mul (by rw [Nat.mul_comm]; exact h),Nat.mod_lt _ h0,by rw [Nat.mul_comm]; exact Nat.div_add_mod k esz⟩
theorem aoS {yv:Value} {y:AV} {rows:List (List PV)} {esz:Nat} (hI:Inv w F Pr m look) (hy:RelV w F m yv y) (h:zP y look=some rows) (hall:∀ c,c∈rows→c.length=esz) (h0:0 < esz):
    ∃ news:List Value,(∀ w1:World,(Builtin.lenOf yv).run P w1=.ok rows.length w1)∧news.length=rows.length * esz∧
      (∀ w1:World,w1.heap=w.heap→(Builtin.firstCells esz rows.length yv).run P w1=.ok news.toArray w1)∧
      (∀ i,i < rows.length→∀ j,j < esz→∃ u p,news[i * esz+j]?=some u∧(rows[i]?).bind (·[j]?)=some p∧Rep w F u p)∧∀ u,u∈news→u.oneCell'=true:=by
  have slices:∀ A c esz',(0 < rows.length→∃ g o,A=some ⟨g,o,none⟩∧∀ i,i < rows.length→(∀ r,rows[i]?=some r→r.length=esz')∧
      ∀ j,j < esz'→∃ u p,w.cell? ⟨g,o+i * esz'+j,none⟩=some u∧(rows[i]?).bind (·[j]?)=some p∧Rep w F u p)→yv=.slice A rows.length c→
      ∃ news:List Value,(∀ w1:World,(Builtin.lenOf yv).run P w1=.ok rows.length w1)∧news.length=rows.length * esz∧
      (∀ w1:World,w1.heap=w.heap→(Builtin.firstCells esz rows.length yv).run P w1=.ok news.toArray w1)∧
      (∀ i,i < rows.length→∀ j,j < esz→∃ u p,news[i * esz+j]?=some u∧(rows[i]?).bind (·[j]?)=some p∧Rep w F u p)∧∀ u,u∈news→u.oneCell'=true:=by
    intro A c esz' hA he
    subst he
    by_cases hn:0 < rows.length
    · obtain ⟨g,o,rfl,hg⟩:=hA hn
      have hesz:esz'=esz:=by
        have h1:=(hg 0 hn).1 rows[0] (by simp [hn])
        have h2:=hall rows[0] (List.getElem_mem hn)
        omega
      subst hesz
      have hcell:∀ k,k < rows.length * esz'→∃ u p,w.cell? ⟨g,o+k,none⟩=some u∧Rep w F u p:=fun k hk=>by
        obtain ⟨a,b,c⟩:=ai7 hk
        obtain ⟨u,p,q1,q2,q3⟩:=(hg _ a).2 _ b
        rw [Nat.add_assoc,c] at q1
        exact ⟨u,p,q1,q3⟩
      refine ⟨(List.range (rows.length * esz')).map fun k=>(w.cell? ⟨g,o+k,none⟩).getD undef,fun w1=>by simp [Builtin.lenOf],by simp,fun w1 hw=>?_,fun i hi j hj=>?_,fun u hu=>?_⟩
      · simp only [Builtin.firstCells]
        exact run_loadCells w1 _ _ _ (fun j hj=>by
          obtain ⟨u,p,q1,_⟩:=hcell j hj
          rw [Qd]
          have:w1.cell? ⟨g,o+j,none⟩=w.cell? ⟨g,o+j,none⟩:=by simp [World.cell?,hw]
          rw [this,q1]; simp)
      · obtain ⟨u,p,q1,q2,q3⟩:=(hg i hi).2 j hj
        refine ⟨u,p,?_,q2,q3⟩
        have hlt:=ql hi hj (Nat.le_refl _)
        rw [List.getElem?_map,List.getElem?_range hlt,Option.map_some,← Nat.add_assoc,q1]
        rfl
      · obtain ⟨k,hk,rfl⟩:=List.mem_map.1 hu
        obtain ⟨u,p,q1,q3⟩:=hcell k (by simpa using hk)
        rw [q1]; exact q3.one
    · have hl:rows.length=0:=by omega
      refine ⟨[],fun w1=>by simp [Builtin.lenOf],by simp [hl],fun w1 hw=>?_,fun i hi=>by omega,fun u hu=>by simp at hu⟩
      cases A <;> simp [Builtin.firstCells,hl,loadCells,loadCellsFrom]
  unfold zP at h
  split at h
  · rename_i s
    injection h with h
    subst h
    cases hy with | pv hp=>
    cases hp
    have hlen:(ZA s).length=s.size:=by simp [ZA]
    refine ⟨s.data.toList.map fun b=>.int .u8 b.toNat,fun w1=>by simp [Builtin.lenOf,hlen],?_,fun w1 hw=>?_,fun i hi j hj=>?_,fun u hu=>?_⟩
    · by_cases hn:0 < s.size
      · have h1:=hall (ZA s)[0] (List.getElem_mem (by omega))
        have:esz=1:=by rw [← h1]; simp [ZA]
        rw [hlen,this]; simp
      · have:s.size=0:=by omega
        rw [hlen,this]
        have h2:s.data.toList.length=0:=by rw [Array.length_toList]; exact this
        simp at h2
        simp [h2]
    · simp only [Builtin.firstCells,hlen,Sem.run_pure]
      congr 1
      apply Array.ext'
      simp [ByteArray.data_extract]
    · have hi':i < s.data.toList.length:=by simpa [ZA] using hi
      have h1:=hall (ZA s)[i] (List.getElem_mem hi)
      have hesz:esz=1:=by rw [← h1]; simp [ZA]
      subst hesz
      have hj0:j=0:=by omega
      subst hj0
      refine ⟨.int .u8 (s.data.toList[i]).toNat,.int .u8 (s.data.toList[i]).toNat,?_,?_,.int _ _⟩
      · simp only [Nat.mul_one,Nat.add_zero,List.getElem?_map,List.getElem?_eq_getElem hi',Option.map_some]
      · simp only [ZA,List.getElem?_map,List.getElem?_eq_getElem hi',Option.map_some,Option.bind_some,List.getElem?_cons_zero]
    · obtain ⟨b,_,rfl⟩:=List.mem_map.1 hu
      rfl
  · obtain ⟨A,c,esz',rfl,hA⟩:=amU hI hy h
    exact slices A c esz' hA rfl
section runs
variable {t u ty e n:Nat} {i:TypeInfo} {d:TypeDesc} {z:Value} {yv:Value} {news:List Value}
theorem abG (ht:P.underlying t=some (.slice e)) (hu:P.underlying u=some d) (hd:d=.string∨∃ e',d=.slice e') (hi:P.info? e=some i)
    (hlen:(Builtin.lenOf yv).run P w=.ok 0 w) (hf:(Builtin.firstCells i.size 0 yv).run P w=.ok #[] w) (base:Option Addr) (sLen sCap:Nat) (hc:sLen≤sCap):
    (Builtin.append_ #[t,u] ty #[.slice base sLen sCap,yv]).run P w=.ok (.slice base sLen sCap) w:=by
  rcases hd with rfl | ⟨e',rfl⟩ <;> cases base <;> simp [Builtin.append_,run_underlying ht,run_underlying hu,sizeOf,typeInfo,hi,hlen,hf,hc,storeCells]
theorem afw (ht:P.underlying t=some (.slice e)) (hu:P.underlying u=some d) (hd:d=.string∨∃ e',d=.slice e') (hi:P.info? e=some i)
    (hlen:(Builtin.lenOf yv).run P w=.ok n w) (hf:(Builtin.firstCells i.size n yv).run P w=.ok news.toArray w)
    (g sLen sCap:Nat) (cur:Array Value) (hg:w.heap[g]?=some (.cells cur e (0,0))) (h1:∀ u∈news,u.oneCell'=true)
    (hroom:sLen+n≤sCap) (hfit:sLen * i.size+news.length≤cur.size):
    (Builtin.append_ #[t,u] ty #[.slice (some ⟨g,0,none⟩) sLen sCap,yv]).run P w=
      .ok (.slice (some ⟨g,0,none⟩) (sLen+n) sCap) (w.setRow g (cur.toList.take (sLen * i.size)++news++cur.toList.drop (sLen * i.size+news.length)).toArray):=by
  have hst:=run_storeCells_at P g (sLen * i.size) e news 0 cur w hg (by simpa using hfit) h1
  simp only [Nat.add_zero] at hst
  rcases hd with rfl | ⟨e',rfl⟩ <;> simp [Builtin.append_,run_underlying ht,run_underlying hu,sizeOf,typeInfo,hi,hlen,hroom,hf,Addr.add_lit,hst]
theorem aeK (ht:P.underlying t=some (.slice e)) (hu:P.underlying u=some d) (hd:d=.string∨∃ e',d=.slice e') (hi:P.info? e=some i) (hz:i.zero=some z)
    (hlen:(Builtin.lenOf yv).run P w=.ok n w) (hf:(Builtin.firstCells i.size n yv).run P w.drew=.ok news.toArray w.drew)
    (base:Option Addr) (sLen sCap:Nat) (olds:List Value) (hfo:(Builtin.firstCells i.size sLen (.slice base sLen sCap)).run P w.drew=.ok olds.toArray w.drew)
    (hg:sCap < sLen+n) (h63:((sLen+n:Nat):Int)≤9223372036854775807) (hfit:Builtin.nextslicecap (sLen+n) sCap * i.bytes≤281474976710656):
    (Builtin.append_ #[t,u] ty #[.slice base sLen sCap,yv]).run P w=
      .ok (.slice (some ⟨w.heap.size,0,none⟩) (sLen+n) (grownCap w (sLen+n) sCap e))
        (w.drew.alloc (.cells (olds.toArray++news.toArray++Builtin.zeroCells z.cells (grownCap w (sLen+n) sCap e - (sLen+n))) e)):=by
  have hn:¬ (sLen+n≤sCap):=by omega
  have h63':¬ (9223372036854775807 < ((sLen:Int)+(n:Int))):=by omega
  have h48':¬ (281474976710656 < Builtin.nextslicecap (sLen+n) sCap * i.bytes):=by omega
  rcases hd with rfl | ⟨e',rfl⟩ <;> (simp [Builtin.append_,run_underlying ht,run_underlying hu,sizeOf,typeInfo,zeroValue,hi,hz,hlen,hn,h63',h48',Question.forced,hf,hfo,newRow,grownCap]; congr 2; apply Array.ext'; simp [List.append_assoc])
end runs
theorem ahW {need old:Nat} (e:Nat) (h:need≤9223372036854775807):need≤grownCap w need old e∧grownCap w need old e≤maxLen:=
  ⟨grownCap_ge w need old e,grownCap_le_maxLen w need old e (by simp only [maxLen]; omega)⟩
theorem acO (z:Array Value) (n:Nat):(Builtin.zeroCells z n).size=n * z.size:=size_zeroCells z n
theorem aiQ {e esz:Nat} {r r':Row} {id γ hd g cap γ' g' cap':Nat} {rows:List (List PV)} {news:List Value} {cur':Array Value}
    (hI:Inv w F Pr m look) (hl:look id=some (.row e esz r)) (hm:m id γ hd=some (g,cap)) (hval:r.valid γ hd=true) (hall:∀ c,c∈rows→c.length=esz) (hne:rows≠[])
    (hnews:∀ i,i < rows.length→∀ j,j < esz→∃ u p,news[i * esz+j]?=some u∧(rows[i]?).bind (·[j]?)=some p∧Rep w F u p)
    (hrow:r'.rows=r.rows.take hd++rows) (hfrz:r'.frz=r.frz) (hfl:r.frz≤hd) (hst:r'.stable≤r'.rows.length)
    (hgen:γ'=r'.gen) (hnew:r'.valid γ' (hd+rows.length)=true) (hge:r.gen≤r'.gen)
    (hfresh:m id γ' (hd+rows.length)=none)
    (hold:∀ γ1 h1,(γ1 < r.gen∨(γ1=r.gen∧h1≤r.rows.length))→r'.valid γ1 h1=true→r.valid γ1 h1=true∧h1≤hd)
    (hk3:∀ γ1 h1,(γ1 < r.gen∨(γ1=r.gen∧h1≤r.rows.length))→(γ1 < r'.gen∨(γ1=r'.gen∧h1≤r'.rows.length)))
    (hPr:¬ Pr g') (hF':∀ o,r.frz * esz≤o→¬ F g' o) (hcap:hd+rows.length≤cap') (hmax:cap'≤maxLen)
    (hcur:w'.heap[g']?=some (.cells cur' e (0,0))) (hsz:cur'.size=cap' * esz)
    (hpre:∀ i,i < hd→∀ j,j < esz→∃ u p,cur'[i * esz+j]?=some u∧(r.rows[i]?).bind (·[j]?)=some p∧Rep w F u p)
    (hpost:∀ k,k < news.length→cur'[hd * esz+k]?=news[k]?) (hnl:news.length=rows.length * esz)
    (hoth:∀ g1,g1≠g'→g1 < w.heap.size→w'.heap[g1]?=w.heap[g1]?)
    (hsame:g' < w.heap.size→∀ γ1 h1 c1 cur,m id γ1 h1=some (g',c1)→r.valid γ1 h1=true→w.heap[g']?=some (.cells cur e (0,0))→cur'.size=cur.size∧∀ k,k < hd * esz→cur'[k]?=cur[k]?)
    (hcell:∀ g o,F g o→w'.cell? ⟨g,o,none⟩=w.cell? ⟨g,o,none⟩):
    ab1 w' F Pr (QN m id γ' (hd+rows.length) (g',cap')) id (.row e esz r'):=by
  obtain ⟨⟨h0,hs1,hs2⟩,h1,h2⟩:=hI.blk id _ hl
  have hdl:=abf hval
  have htl:(r.rows.take hd).length=hd:=by simp; omega
  have hrl:r'.rows.length=hd+rows.length:=by rw [hrow,List.length_append,htl]
  refine ⟨⟨h0,hst,by omega⟩,fun c hc=>?_,fun γ1 k1 g1 c1 hx=>?_⟩
  · rw [hrow] at hc
    rcases List.mem_append.1 hc with hc | hc
    · exact h1 c (List.mem_of_mem_take hc)
    · exact hall c hc
  rcases aeF hx with ⟨_,rfl,rfl,hgc⟩ | hx2
  · injection hgc with e1 e2
    subst e1; subst e2
    refine ⟨hPr,fun o ho=>hF' o (by rw [← hfrz]; exact ho),.inr ⟨hgen,by omega⟩,fun _=>⟨hcap,hmax,cur',hcur,hsz,fun i hi j hj=>?_⟩⟩
    by_cases hid:i < hd
    · obtain ⟨u,p,a,b,c⟩:=hpre i hid j hj
      refine ⟨u,p,a,?_,c.keep hcell (fun _ _ h=>h)⟩
      rw [hrow,List.getElem?_append_left (by omega),List.getElem?_take_of_lt hid]; exact b
    · obtain ⟨u,p,a,b,c⟩:=hnews (i - hd) (by omega) j hj
      refine ⟨u,p,?_,?_,c.keep hcell (fun _ _ h=>h)⟩
      · have hlt:(i - hd) * esz+j < news.length:=by rw [hnl]; exact ql (by omega) hj (Nat.le_refl _)
        have:=hpost _ hlt
        rw [← a,← this]
        congr 1
        have:i * esz=hd * esz+(i - hd) * esz:=by rw [← Nat.add_mul]; congr 1; omega
        omega
      · rw [hrow,List.getElem?_append_right (by omega),htl]; exact b
  · obtain ⟨k2,k3,k4,k5⟩:=h2 γ1 k1 g1 c1 hx2
    refine ⟨k2,fun o ho=>k3 o (by rw [← hfrz]; exact ho),hk3 γ1 k1 k4,fun hv=>?_⟩
    obtain ⟨hv1,hv2⟩:=hold γ1 k1 k4 hv
    obtain ⟨l1,l2,cur,l3,l4,l5⟩:=k5 hv1
    have hg1:=hI.sz id _ _ _ _ _ hl hx2
    by_cases hgg:g1=g'
    · subst hgg
      obtain ⟨q1,q2⟩:=hsame hg1 γ1 k1 c1 cur hx2 hv1 l3
      refine ⟨l1,l2,cur',hcur,by rw [q1]; exact l4,fun i hi j hj=>?_⟩
      obtain ⟨u,p,a,b,c⟩:=l5 i hi j hj
      refine ⟨u,p,?_,?_,c.keep hcell (fun _ _ h=>h)⟩
      · rw [q2 _ (ql (show i < hd by omega) hj (Nat.le_refl _))]; exact a
      · rw [hrow,List.getElem?_append_left (by omega),List.getElem?_take_of_lt (by omega)]; exact b
    · refine ⟨l1,l2,cur,(hoth g1 hgg hg1).trans l3,l4,fun i hi j hj=>?_⟩
      obtain ⟨u,p,a,b,c⟩:=l5 i hi j hj
      refine ⟨u,p,a,?_,c.keep hcell (fun _ _ h=>h)⟩
      rw [hrow,List.getElem?_append_left (by omega),List.getElem?_take_of_lt (by omega)]; exact b
theorem akj {el esz id γ hd g cap k:Nat} {r:Row} {rows:List (List PV)} {news:List Value} {v:AV} (hI:Inv w F Pr m look) (hl:look id=some (.row el esz r)) (hm:m id γ hd=some (g,cap))
    (hγ:γ=r.gen) (hlen:hd=r.rows.length) (hfl:r.floor≤hd) (hfrz:r.frz=0) (hall:∀ c,c∈rows→c.length=esz) (hk:k+rows.length≤hd) (n2:news.length=rows.length * esz)
    (n4:∀ i,i < rows.length→∀ j,j < esz→∃ u p,news[i * esz+j]?=some u∧(rows[i]?).bind (·[j]?)=some p∧Rep w F u p):
    ∃ cur:Array Value,w.heap[g]?=some (.cells cur el (0,0))∧k * esz+news.length≤cur.size∧hd≤cap∧
      ∀ arr:Array Value,arr=(cur.toList.take (k * esz)++news++cur.toList.drop (k * esz+news.length)).toArray→
        Ext w F Pr (w.setRow g arr) F∧Inv (w.setRow g arr) F Pr m (ZF look nid ⟨v,[(id,.row el esz { r with rows:=r.rows.take k++(rows++r.rows.drop (k+rows.length)),floor:=hd,stable:=0 })],[]⟩):=by
  obtain ⟨h0,h1,h2⟩:=hI.blk id _ hl
  obtain ⟨k1,k2,k3,k4⟩:=h2 γ hd g cap hm
  have hval:r.valid γ hd=true:=by simp [Row.valid,hγ,hlen,show r.floor≤r.rows.length by omega]
  obtain ⟨l1,l2,cur,l3,l4,l5⟩:=k4 hval
  have hfit:k * esz+news.length≤cur.size:=by
    rw [n2,l4,← Nat.add_mul]; exact Nat.mul_le_mul_right _ (by omega)
  refine ⟨cur,l3,hfit,l1,fun arr harr0=>?_⟩
  have hF:∀ o,¬ F g o:=fun o=>k2 o (by rw [hfrz]; simp)
  have hcell:∀ g1 o,F g1 o→(w.setRow g arr).cell? ⟨g1,o,none⟩=w.cell? ⟨g1,o,none⟩:=fun g1 o hf=>
    ZR (setRow_other w g g1 _ (fun e=>hF o (e ▸ hf)))
  refine ⟨⟨rfl,rfl,rfl,by simp,hcell,fun g1 hg=>setRow_other w g g1 _ (fun e=>k1 (e ▸ hg)),fun _ _ h=>h,fun _ _ h=>.inl h⟩,?_⟩
  rw [aaw]
  refine hI.write hl (by simp) (fun g1 hg hne=>setRow_other w g g1 _ (fun e=>hne γ hd cap (e ▸ hm))) hcell (qi.refl m) (fun _ _ _ _=>rfl)
    (fun γ h g c hx=>.inl ⟨γ,h,c,hx⟩) ?_
  have hrl:(r.rows.take k++(rows++r.rows.drop (k+rows.length))).length=r.rows.length:=by simp; omega
  have hkl:(r.rows.take k).length=k:=by simp; omega
  refine ⟨⟨h0.1,Nat.zero_le _,by simp only [hrl]; exact h0.2.2⟩,fun c' hc'=>?_,fun γ' h' g' c' hm'=>?_⟩
  · rcases List.mem_append.1 hc' with hc' | hc'
    · exact h1 c' (List.mem_of_mem_take hc')
    · rcases List.mem_append.1 hc' with hc' | hc'
      · exact hall c' hc'
      · exact h1 c' (List.mem_of_mem_drop hc')
  · obtain ⟨m1,m2,m3,m4⟩:=h2 γ' h' g' c' hm'
    refine ⟨m1,m2,by simpa only [hrl] using m3,fun hv'=>?_⟩
    have hsize:arr.size=cur.size:=by rw [harr0]; simp; omega
    simp only [Row.valid,Bool.or_eq_true,Bool.and_eq_true,decide_eq_true_eq,beq_iff_eq,hrl] at hv'
    rcases hv' with ⟨⟨hg1,hg2⟩,hg3⟩ | ⟨⟨hg1,hg2⟩,hg3⟩
    · have e1:γ'=γ:=by omega
      have e2:h'=hd:=by omega
      subst e1; subst e2
      rw [hm] at hm'
      injection hm' with hm'
      have e3:g=g':=congrArg Prod.fst hm'
      have e4:cap=c':=congrArg Prod.snd hm'
      subst e3; subst e4
      refine ⟨l1,l2,arr,setRow_heap w g _ _ el _ l3,by rw [hsize]; exact l4,fun a ha b hb=>?_⟩
      have hin:a * esz+b < cur.size:=by rw [l4]; exact ql ha hb l1
      have harr:arr[a * esz+b]?=(cur.toList.take (k * esz)++(news++cur.toList.drop (k * esz+news.length)))[a * esz+b]?:=by rw [harr0]; simp
      have htl:(cur.toList.take (k * esz)).length=k * esz:=by simp; omega
      by_cases hak:a < k
      · obtain ⟨u,p0,x1,x2,x3⟩:=l5 a ha b hb
        have hlt:=ql hak hb (Nat.le_refl k)
        refine ⟨u,p0,?_,?_,x3.keep hcell (fun _ _ h=>h)⟩
        · rw [harr,List.getElem?_append_left (by omega),List.getElem?_take_of_lt hlt]; simpa using x1
        · rw [List.getElem?_append_left (by omega),List.getElem?_take_of_lt hak]; exact x2
      · have hge:k * esz≤a * esz+b:=by
          have:k * esz≤a * esz:=Nat.mul_le_mul_right _ (by omega)
          omega
        have hsub:a * esz+b - k * esz=(a - k) * esz+b:=by
          have:a * esz=k * esz+(a - k) * esz:=by rw [← Nat.add_mul]; congr 1; omega
          omega
        by_cases hak2:a - k < rows.length
        · obtain ⟨u,p0,x1,x2,x3⟩:=n4 (a - k) hak2 b hb
          refine ⟨u,p0,?_,?_,x3.keep hcell (fun _ _ h=>h)⟩
          · rw [harr,List.getElem?_append_right (by omega),htl,hsub,List.getElem?_append_left (by rw [n2]; exact ql hak2 hb (Nat.le_refl _))]; exact x1
          · rw [List.getElem?_append_right (by omega),hkl,List.getElem?_append_left hak2]; exact x2
        · obtain ⟨u,p0,x1,x2,x3⟩:=l5 a ha b hb
          have hge2:news.length≤(a - k) * esz+b:=by
            rw [n2]
            have:rows.length * esz≤(a - k) * esz:=Nat.mul_le_mul_right _ (by omega)
            omega
          refine ⟨u,p0,?_,?_,x3.keep hcell (fun _ _ h=>h)⟩
          · rw [harr,List.getElem?_append_right (by omega),htl,hsub,List.getElem?_append_right hge2,List.getElem?_drop]
            rw [show k * esz+news.length+((a - k) * esz+b - news.length)=a * esz+b by omega]; simpa using x1
          · rw [List.getElem?_append_right (by omega),hkl,List.getElem?_append_right (by omega),List.getElem?_drop,show k+rows.length+(a - k - rows.length)=a by omega]; exact x2
    · have e2:h'=0:=by omega
      subst e2
      have hvo:r.valid γ' 0=true:=by simp [Row.valid,hg1]
      obtain ⟨o1,o2,cur',o3,o4,o5⟩:=m4 hvo
      by_cases hgg:g'=g
      · subst hgg
        rw [l3] at o3
        injection o3 with o3
        injection o3 with o3
        subst o3
        exact ⟨o1,o2,arr,setRow_heap w g' _ _ el _ l3,by rw [hsize]; exact o4,fun a ha=>absurd ha (by omega)⟩
      · exact ⟨o1,o2,cur',(setRow_other w g g' _ hgg).trans o3,o4,fun a ha=>absurd ha (by omega)⟩
theorem anU {t u ty:Nat} {xv yv:Value} {x y:AV} {rows:List (List PV)} {d:TypeDesc} {e:Eff} (hT:TOk P T) (hI:Inv w F Pr m look) (hf:e.new≠[]→∀ γ h,m nid γ h=none)
    (hx:RelV w F m xv x) (hy:RelV w F m yv y) (hu:P.underlying u=some d) (hd:d=.string∨∃ e',d=.slice e') (hsrc:zP y look=some rows) (h:qT T nid t x rows look=some e):
    ∃ v w',(Builtin.append_ #[t,u] ty #[xv,yv]).run P w=.ok v w'∧Post w F Pr m look nid e v w':=by
  unfold qT at h
  split at h
  rotate_left
  · cases h
  rename_i el sz by_ ag ze ht
  split at h
  rotate_left
  · cases h
  rename_i ei he
  split at h
  rotate_left
  · cases h
  rename_i hc0
  obtain ⟨hes0,hall⟩:=hc0
  have hall:∀ c,c∈rows→c.length=ei.size:=fun c hc=>by have:=List.all_eq_true.1 hall c hc; simpa using this
  have hpos:0 < ei.size:=by omega
  have hut:=hT.slice ht rfl
  obtain ⟨i,dd,z,a1,a2,a3,a4,a5,a6,a7,a8,a9,a10,a11,a12⟩:=hT.ok el ei he
  obtain ⟨news,n1,n2,n3,n4,n5⟩:=aoS (P:=P) hI hy hsrc hall hpos
  split at h
  · -- onto nil
    cases hx with | pv hp=>
    cases hp
    split at h
    · rename_i hemp
      injection h with h
      subst h
      have hr0:rows=[]:=by simpa using hemp
      subst hr0
      have hn0:news=[]:=List.eq_nil_of_length_eq_zero (by rw [n2]; simp)
      subst hn0
      exact ⟨_,w,abG hut hu hd a1 (n1 w) (by rw [a5]; exact n3 w rfl) none 0 0 (Nat.le_refl _),Post.same hI (.pv .nils)⟩
    · rename_i hemp
      split at h
      rotate_left
      · cases h
      rename_i hb
      injection h with h
      subst h
      have hrl:0 < rows.length:=by
        rcases Nat.eq_zero_or_pos rows.length with h0 | h0
        · exact absurd (by simpa using List.eq_nil_of_length_eq_zero h0) hemp
        · exact h0
      have hrun:=aeK (ty:=ty) (w:=w) hut hu hd a1 a7 (n1 w) (by rw [a5]; exact n3 w.drew rfl) none 0 0 [] (by simp [Builtin.firstCells]) (by omega) (by omega)
        (growslice_fits (by omega) (by rw [a6]; simpa using hb.1))
      simp only [Nat.zero_add] at hrun
      obtain ⟨c1,c2⟩:=ahW (w:=w) (old:=0) el hb.2
      refine ⟨_,_,hrun,ahf (w':=_) (cur:=_) hI (hf (by simp)) hpos hall c1 c2 ?_ (fun i hi j hj=>?_) rfl rfl rfl rfl⟩
      · simp only [Array.size_append,List.size_toArray,acO,a8,n2,List.length_nil,Nat.zero_add,← Nat.add_mul]
        congr 1; omega
      · obtain ⟨u,p,q1,q2,q3⟩:=n4 i hi j hj
        refine ⟨u,p,?_,q2,q3⟩
        have hlt:i * ei.size+j < news.length:=by rw [n2]; exact ql hi hj (Nat.le_refl _)
        rw [Array.getElem?_append_left (by simp; exact hlt)]
        simpa using q1
  · -- onto a row
    have hd0:=hd
    rename_i id γ hd esz off n
    split at h
    rotate_left
    · cases h
    rename_i e' esz' r hl
    split at h
    rotate_left
    · -- onto a part of it
      split at h
      rotate_left
      · cases h
      rename_i hc
      obtain ⟨hγ,hlen,hfl,rfl,hle,rfl,rfl,hel,hfrz⟩:=hc
      obtain rfl:el=e':=hel.symm
      cases hx with
      | ref hm _ _ _ ho=>omega
      | refE ho=>omega
      | ref0 hm hn hcc=>
      rename_i g cap
      split at h
      · rename_i hemp
        injection h with h
        subst h
        have hr0:rows=[]:=by simpa using hemp
        subst hr0
        have hn0:news=[]:=List.eq_nil_of_length_eq_zero (by rw [n2]; simp)
        subst hn0
        exact ⟨_,w,abG hut hu hd0 a1 (n1 w) (by rw [a5]; exact n3 w rfl) _ _ _ (by omega),Post.same hI (.ref0 hm hn hcc)⟩
      · injection h with h
        subst h
        obtain ⟨cur,l3,hfit,l1,hw'⟩:=akj (nid:=nid) (v:=.ref id γ hd ei.size 0 (n+rows.length)) hI hl hm hγ hlen hfl hfrz hall hle n2 n4
        have hrun:=afw (ty:=ty) hut hu hd0 a1 (n1 w) (by rw [a5]; exact n3 w rfl) g n cap cur l3 n5 (by omega) (by rw [a5]; exact hfit)
        rw [a5] at hrun
        obtain ⟨q1,q2⟩:=hw' _ rfl
        exact ⟨_,_,hrun,F,m,q1,qi.refl m,.ref0 hm hle hcc,q2,fun i hi _ _ _=>rfl⟩
    rename_i hc
    obtain ⟨hval,rfl,rfl,rfl,rfl,hel,hby,h63⟩:=hc
    obtain rfl:el=e':=hel.symm
    have hblk:=hI.blk id _ hl
    obtain ⟨⟨h0,hs1,hs2⟩,h1,h2⟩:=hblk
    have hdl:=abf hval
    cases hx with
    | ref hm _ _ _ ho=>omega
    | refE ho=>omega
    | ref0 hm hn hcc=>
    rename_i g cap
    obtain ⟨k1,k2,k3,k4⟩:=h2 γ n g cap hm
    obtain ⟨l1,l2,cur,l3,l4,l5⟩:=k4 hval
    have hg:=hI.sz id _ _ _ _ _ hl hm
    split at h
    · rename_i hemp
      injection h with h
      subst h
      have hr0:rows=[]:=by simpa using hemp
      subst hr0
      have hn0:news=[]:=List.eq_nil_of_length_eq_zero (by rw [n2]; simp)
      subst hn0
      exact ⟨_,w,abG hut hu hd a1 (n1 w) (by rw [a5]; exact n3 w rfl) _ _ _ hcc,Post.same hI (.ref0 hm (Nat.le_refl _) hcc)⟩
    rename_i hemp
    have hne:rows≠[]:=fun e=>hemp (by simp [e])
    have hrl:0 < rows.length:=List.length_pos_iff.2 hne
    -- both ways of appending,of whatever row is written down for it
    have main:∀ (r':Row) (γ':Nat),r'.rows=r.rows.take n++rows→r'.frz=r.frz→r.frz≤n→r'.stable≤r'.rows.length→γ'=r'.gen→r'.valid γ' (n+rows.length)=true→
        r.gen≤r'.gen→m id γ' (n+rows.length)=none→
        (∀ γ1 h1,(γ1 < r.gen∨(γ1=r.gen∧h1≤r.rows.length))→r'.valid γ1 h1=true→r.valid γ1 h1=true∧h1≤n)→
        (∀ γ1 h1,(γ1 < r.gen∨(γ1=r.gen∧h1≤r.rows.length))→(γ1 < r'.gen∨(γ1=r'.gen∧h1≤r'.rows.length)))→
        ∃ v w',(Builtin.append_ #[t,u] ty #[.slice (some ⟨g,0,none⟩) n cap,yv]).run P w=.ok v w'∧
          Post w F Pr m look nid ⟨.ref id γ' (n+rows.length) ei.size 0 (n+rows.length),[(id,.row el ei.size r')],[]⟩ v w':=by
      intro r' γ' hrow hfrz hfl hst hgen hnew hge hfresh hold hk3
      by_cases hroom:n+rows.length≤cap
      · -- there is room
        have hfit:n * i.size+news.length≤cur.size:=by rw [a5,n2,l4,← Nat.add_mul]; exact Nat.mul_le_mul_right _ hroom
        have hrun:=afw (ty:=ty) hut hu hd a1 (n1 w) (by rw [a5]; exact n3 w rfl) g n cap cur l3 n5 hroom hfit
        rw [a5] at hrun hfit
        let cur':Array Value:=(cur.toList.take (n * ei.size)++news++cur.toList.drop (n * ei.size+news.length)).toArray
        have hcs:cur'.size=cur.size:=by simp [cur']; omega
        have hlow:∀ k,k < n * ei.size→cur'[k]?=cur[k]?:=fun k hk=>by
          simp only [cur',List.getElem?_toArray]
          rw [List.append_assoc,List.getElem?_append_left (by simp; omega),List.getElem?_take_of_lt hk]; simp
        have hcell:∀ g1 o,F g1 o→(w.setRow g cur').cell? ⟨g1,o,none⟩=w.cell? ⟨g1,o,none⟩:=fun g1 o hF=>by
          by_cases hgg:g1=g
          · subst hgg
            have ho:o < r.frz * ei.size:=by
              rcases Nat.lt_or_ge o (r.frz * ei.size) with h | h
              · exact h
              · exact absurd hF (k2 o h)
            have:r.frz * ei.size≤n * ei.size:=Nat.mul_le_mul_right _ hfl
            rw [cell_of_row _ _ _ _ _ _ (setRow_heap w g1 cur cur' el _ l3),cell_of_row _ _ _ _ _ _ l3]
            exact hlow o (by omega)
          · exact ZR (setRow_other w g g1 _ hgg)
        refine ⟨_,w.setRow g cur',hrun,F,QN m id γ' (n+rows.length) (g,cap),⟨rfl,rfl,rfl,by simp,hcell,fun g1 hg1=>setRow_other w g g1 _ (fun e=>k1 (e ▸ hg1)),fun _ _ h=>h,fun _ _ h=>.inl h⟩,
          Qa hfresh,.ref0 (Qx _ _ _ _ _) (Nat.le_refl _) hroom,?_,fun i hi _ γ h=>qa (by have:=hi (id,.row el ei.size r') (by simp); exact fun e=>this e.symm) _ _⟩
        rw [aaw]
        refine hI.write hl (by simp) (fun g1 hg1 hne1=>setRow_other w g g1 _ (fun e=>hne1 γ n cap (e ▸ hm))) hcell (Qa hfresh) (fun i hi γ h=>qa hi _ _)
          (fun γ1 h1 g1 c1 hx=>?_) ?_
        · rcases aeF hx with ⟨_,_,_,hgc⟩ | hx
          · injection hgc with e1 e2
            subst e1
            exact .inl ⟨γ,n,cap,hm⟩
          · exact .inl ⟨_,_,_,hx⟩
        · refine aiQ (cur':=cur') hI hl hm hval hall hne n4 hrow hfrz hfl hst hgen hnew hge hfresh hold hk3 k1 k2 hroom l2 (setRow_heap w g cur cur' el _ l3) (by rw [hcs]; exact l4)
            (fun i hi j hj=>?_) (fun k hk=>?_) n2 (fun g1 h _=>setRow_other w g g1 _ h) (fun _ γ1 h1 c1 cur1 _ _ hc1=>?_) hcell
          · obtain ⟨u,p,q1,q2,q3⟩:=l5 i hi j hj
            exact ⟨u,p,by rw [hlow _ (ql hi hj (Nat.le_refl _))]; exact q1,q2,q3⟩
          · simp only [cur',List.getElem?_toArray]
            have htl:(cur.toList.take (n * ei.size)).length=n * ei.size:=by simp; omega
            rw [List.append_assoc,List.getElem?_append_right (by omega),htl,List.getElem?_append_left (by omega)]
            congr 1; omega
          · rw [l3] at hc1
            injection hc1 with hc1
            injection hc1 with hc1
            subst hc1
            exact ⟨hcs,hlow⟩
      · -- a new array
        have holds:∀ w1:World,w1.heap=w.heap→(Builtin.firstCells i.size n (.slice (some ⟨g,0,none⟩) n cap)).run P w1=.ok (cur.toList.take (n * ei.size)).toArray w1:=fun w1 hw=>by
          have hle:n * ei.size≤cur.size:=by rw [l4]; exact Nat.mul_le_mul_right _ l1
          have:=run_loadCells_list (P:=P) w1 ⟨g,0,none⟩ (cur.toList.take (n * ei.size)) (fun j v hv=>by
            obtain ⟨hj,rfl⟩:=List.getElem?_eq_some_iff.1 hv
            rw [Qd,Nat.zero_add,cell_of_row w1 g j cur el (0,0) (by rw [hw]; exact l3)]
            have hj':j < cur.size:=by simp at hj; omega
            simp [hj'])
          have hlen:(cur.toList.take (n * ei.size)).length=n * i.size:=by rw [a5]; simp; omega
          rw [hlen] at this
          exact this
        have hrun:=aeK (ty:=ty) (w:=w) hut hu hd a1 a7 (n1 w) (by rw [a5]; exact n3 w.drew rfl) (some ⟨g,0,none⟩) n cap (cur.toList.take (n * ei.size)) (holds w.drew rfl) (by omega) (by omega)
          (growslice_fits (by omega) (by rw [a6]; exact hby))
        obtain ⟨c1,c2⟩:=ahW (w:=w) (old:=cap) el h63
        have hle:n * ei.size≤cur.size:=by rw [l4]; exact Nat.mul_le_mul_right _ l1
        let cur':Array Value:=(cur.toList.take (n * ei.size)).toArray++news.toArray++Builtin.zeroCells z.cells (grownCap w (n+rows.length) cap el - (n+rows.length))
        let w1:World:=w.drew.alloc (.cells cur' el)
        have hh:w1.heap=w.heap.push (.cells cur' el (0,0)):=rfl
        have hcell:∀ g1 o,F g1 o→w1.cell? ⟨g1,o,none⟩=w.cell? ⟨g1,o,none⟩:=fun g1 o hF=>ZR (aab hh (hI.ltF hF))
        refine ⟨_,w1,hrun,F,QN m id γ' (n+rows.length) (w.heap.size,grownCap w (n+rows.length) cap el),Ext.push hI hh rfl rfl rfl,
          Qa hfresh,.ref0 (Qx _ _ _ _ _) (Nat.le_refl _) c1,?_,fun i hi _ γ h=>qa (by have:=hi (id,.row el ei.size r') (by simp); exact fun e=>this e.symm) _ _⟩
        rw [aaw]
        refine hI.write hl (by rw [hh]; simp) (fun g1 hg1 _=>aab hh hg1) hcell (Qa hfresh) (fun i hi γ h=>qa hi _ _)
          (fun γ1 h1 g1 c1 hx=>?_) ?_
        · rcases aeF hx with ⟨_,_,_,hgc⟩ | hx
          · injection hgc with e1 e2
            subst e1
            exact .inr ⟨Nat.le_refl _,by rw [hh]; simp⟩
          · exact .inl ⟨_,_,_,hx⟩
        · have htl:(cur.toList.take (n * ei.size)).length=n * ei.size:=by simp; omega
          refine aiQ (cur':=cur') hI hl hm hval hall hne n4 hrow hfrz hfl hst hgen hnew hge hfresh hold hk3 (fun hp=>by have:=hI.szP _ hp; omega) (fun o _ hF=>by have:=hI.ltF hF; omega) c1 c2 (aa1 hh) ?_
            (fun i hi j hj=>?_) (fun k hk=>?_) n2 (fun g1 h hlt=>aab hh hlt) (fun hlt=>by omega) hcell
          · simp only [cur',Array.size_append,List.size_toArray,acO,a8,n2,htl,← Nat.add_mul]
            congr 1; omega
          · obtain ⟨u,p,q1,q2,q3⟩:=l5 i hi j hj
            refine ⟨u,p,?_,q2,q3⟩
            have hlt:=ql hi hj (Nat.le_refl n)
            simp only [cur']
            rw [Array.append_assoc,Array.getElem?_append_left (by simp; omega)]
            simp only [List.getElem?_toArray]
            rw [List.getElem?_take_of_lt hlt]; simpa using q1
          · simp only [cur']
            rw [Array.getElem?_append_left (by simp; omega),Array.getElem?_append_right (by simp; omega)]
            simp only [List.getElem?_toArray,List.size_toArray,htl]
            congr 1; omega
    split at h
    · -- the row as it stands
      rename_i hgr
      obtain ⟨rfl,rfl⟩:=hgr
      injection h with h
      subst h
      refine main { r with rows:=r.rows++rows } r.gen (by simp) rfl hs2 (by simp; omega) rfl ?_ (Nat.le_refl _) ?_ (fun γ1 h1 hk hv=>?_) (fun γ1 h1 hk=>?_)
      · simp only [Row.valid,Bool.or_eq_true,Bool.and_eq_true,decide_eq_true_eq,beq_iff_eq,List.length_append] at hval ⊢
        rcases hval with ⟨⟨_,q⟩,_⟩ | ⟨⟨q,_⟩,_⟩
        · exact .inl ⟨⟨by trivial,by omega⟩,Nat.le_refl _⟩
        · omega
      · cases hmm:m id r.gen (r.rows.length+rows.length) with
        | none=>rfl
        | some x=>have:=(h2 _ _ x.1 x.2 hmm).2.2.1; omega
      · simp only [Row.valid,Bool.or_eq_true,Bool.and_eq_true,decide_eq_true_eq,beq_iff_eq,List.length_append] at hv ⊢
        rcases hk with hk | ⟨hk1,hk2⟩
        · rcases hv with ⟨⟨q,_⟩,_⟩ | ⟨⟨q1,q2⟩,q3⟩
          · omega
          · exact ⟨.inr ⟨⟨q1,q2⟩,by omega⟩,by omega⟩
        · rcases hv with ⟨⟨q,q2⟩,_⟩ | ⟨⟨q1,q2⟩,q3⟩
          · exact ⟨.inl ⟨⟨q,q2⟩,hk2⟩,hk2⟩
          · omega
      · simp only [List.length_append]
        rcases hk with hk | ⟨hk1,hk2⟩
        · exact .inl hk
        · exact .inr ⟨hk1,by omega⟩
    · rename_i hgr
      split at h
      rotate_left
      · cases h
      rename_i hst
      obtain ⟨hfl0,hfz⟩:=hst
      injection h with h
      subst h
      have htl:(r.rows.take n++rows).length=n+rows.length:=by simp; omega
      refine main ⟨r.rows.take n++rows,r.gen+1,0,if r.gen=0 then n else min r.stable n,r.frz⟩ (r.gen+1) rfl rfl hfz ?_ rfl ?_ (by simp) ?_ (fun γ1 h1 hk hv=>?_) (fun γ1 h1 hk=>?_)
      · simp only [htl]; split <;> omega
      · simp [Row.valid]; omega
      · cases hmm:m id (r.gen+1) (n+rows.length) with
        | none=>rfl
        | some x=>have:=(h2 _ _ x.1 x.2 hmm).2.2.1; omega
      · simp only [Row.valid,Bool.or_eq_true,Bool.and_eq_true,decide_eq_true_eq,beq_iff_eq,htl] at hv ⊢
        rcases hv with ⟨⟨q,_⟩,_⟩ | ⟨⟨q1,q2⟩,q3⟩
        · omega
        · by_cases hg0:r.gen=0
          · simp only [hg0,if_true] at q2
            exact ⟨.inl ⟨⟨by omega,by omega⟩,by omega⟩,q2⟩
          · simp only [hg0,if_false] at q2
            rcases hk with hk | ⟨hk1,hk2⟩
            · exact ⟨.inr ⟨⟨hk,by omega⟩,by omega⟩,by omega⟩
            · exact ⟨.inl ⟨⟨hk1,by omega⟩,hk2⟩,by omega⟩
      · simp only
        exact .inl (by omega)
  · cases h
theorem apv {t u ty:Nat} {xv yv:Value} {x y:AV} {rows:List (List PV)} {e:Eff} (hT:TOk P T) (hI:Inv w F Pr m look)
    (hx:RelV w F m xv x) (hy:RelV w F m yv y) (hsrc:zP y look=some rows) (h:aiY T t x rows look=some e):
    ∃ v w',(Builtin.copy_ #[t,u] ty #[xv,yv]).run P w=.ok v w'∧Post w F Pr m look nid e v w':=by
  unfold aiY at h
  split at h
  rotate_left
  · cases h
  rename_i el sz by_ ag ze ht
  split at h
  rotate_left
  · cases h
  rename_i ei he
  split at h
  rotate_left
  · cases h
  rename_i id γ hd esz off n
  split at h
  rotate_left
  · cases h
  rename_i e' esz' r hl
  split at h
  rotate_left
  · cases h
  rename_i hc
  obtain ⟨hγ,hlen,hfl,rfl,rfl,rfl,rfl,hfrz,hpos,hle,hall⟩:=hc
  injection h with h
  subst h
  have hall:∀ c,c∈rows→c.length=ei.size:=fun c hc=>by have:=List.all_eq_true.1 hall c hc; simpa using this
  have hpos:0 < ei.size:=by omega
  have hut:=hT.slice ht rfl
  obtain ⟨i,dd,z,a1,a2,a3,a4,a5,a6,a7,a8,a9,a10,a11,a12⟩:=hT.ok el ei he
  obtain ⟨news,n1,n2,n3,n4,n5⟩:=aoS (P:=P) hI hy hsrc hall hpos
  obtain ⟨h0,h1,h2⟩:=hI.blk id _ hl
  cases hx with
  | ref hm _ _ _ ho=>omega
  | refE ho=>omega
  | ref0 hm hn hcc=>
  rename_i g cap
  obtain ⟨k1,k2,k3,k4⟩:=h2 γ n g cap hm
  have hval:r.valid γ n=true:=by simp [Row.valid,hγ,hlen,show r.floor≤r.rows.length by omega]
  obtain ⟨l1,l2,cur,l3,l4,l5⟩:=k4 hval
  have hfit:news.length≤cur.size:=by
    rw [n2,l4]; exact Nat.mul_le_mul_right _ (by omega)
  have hst:=run_storeCells_at P g 0 e' news 0 cur w l3 (by simpa using hfit) n5
  simp only [Nat.add_zero,List.take_zero,List.nil_append,Nat.zero_add] at hst
  have hF:∀ o,¬ F g o:=fun o=>k2 o (by rw [hfrz]; simp)
  let arr:Array Value:=(news++cur.toList.drop news.length).toArray
  have hcell:∀ g1 o,F g1 o→(w.setRow g arr).cell? ⟨g1,o,none⟩=w.cell? ⟨g1,o,none⟩:=fun g1 o hf=>
    ZR (setRow_other w g g1 _ (fun e=>hF o (e ▸ hf)))
  have hmin:Nat.min rows.length n=rows.length:=Nat.min_eq_left hle
  refine ⟨goInt rows.length,w.setRow g arr,?_,F,m,⟨rfl,rfl,rfl,by simp,hcell,fun g1 hg=>setRow_other w g g1 _ (fun e=>k1 (e ▸ hg)),fun _ _ h=>h,fun _ _ h=>.inl h⟩,qi.refl m,.pv (.int _ _),?_,fun i hi _ _ _=>?_⟩
  · have n3':=n3 w rfl
    rw [← a5] at n3'
    simp [Builtin.copy_,run_underlying hut,sizeOf,typeInfo,a1,n1 w,hmin,n3',hst,arr]
  rotate_left
  · rfl
  rw [aaw]
  refine hI.write hl (by simp) (fun g1 hg hne=>setRow_other w g g1 _ (fun e=>hne γ n cap (e ▸ hm))) hcell (qi.refl m) (fun _ _ _ _=>rfl)
    (fun γ h g c hx=>.inl ⟨γ,h,c,hx⟩) ?_
  have hrl:(rows++r.rows.drop rows.length).length=r.rows.length:=by simp; omega
  refine ⟨⟨h0.1,Nat.zero_le _,by simp only [hrl]; exact h0.2.2⟩,fun c' hc'=>?_,fun γ' h' g' c' hm'=>?_⟩
  · rcases List.mem_append.1 hc' with hc' | hc'
    · exact hall c' hc'
    · exact h1 c' (List.mem_of_mem_drop hc')
  · obtain ⟨m1,m2,m3,m4⟩:=h2 γ' h' g' c' hm'
    refine ⟨m1,m2,by simpa only [hrl] using m3,fun hv'=>?_⟩
    have hsize:arr.size=cur.size:=by simp [arr]; omega
    simp only [Row.valid,Bool.or_eq_true,Bool.and_eq_true,decide_eq_true_eq,beq_iff_eq,hrl] at hv'
    rcases hv' with ⟨⟨hg1,hg2⟩,hg3⟩ | ⟨⟨hg1,hg2⟩,hg3⟩
    · have e1:γ'=γ:=by omega
      have e2:h'=n:=by omega
      subst e1; subst e2
      rw [hm] at hm'
      injection hm' with hm'
      have e3:g=g':=congrArg Prod.fst hm'
      have e4:cap=c':=congrArg Prod.snd hm'
      subst e3; subst e4
      refine ⟨l1,l2,arr,setRow_heap w g _ _ e' _ l3,by rw [hsize]; exact l4,fun a ha b hb=>?_⟩
      have hin:a * ei.size+b < cur.size:=by rw [l4]; exact ql ha hb l1
      have harr:arr[a * ei.size+b]?=(news++cur.toList.drop news.length)[a * ei.size+b]?:=by simp [arr]
      by_cases hak:a < rows.length
      · obtain ⟨u,p0,x1,x2,x3⟩:=n4 a hak b hb
        refine ⟨u,p0,?_,?_,x3.keep hcell (fun _ _ h=>h)⟩
        · rw [harr,List.getElem?_append_left (by rw [n2]; exact ql hak hb (Nat.le_refl _))]; exact x1
        · rw [List.getElem?_append_left hak]; exact x2
      · obtain ⟨u,p0,x1,x2,x3⟩:=l5 a ha b hb
        have hge:news.length≤a * ei.size+b:=by
          rw [n2]
          have:rows.length * ei.size≤a * ei.size:=Nat.mul_le_mul_right _ (by omega)
          omega
        refine ⟨u,p0,?_,?_,x3.keep hcell (fun _ _ h=>h)⟩
        · rw [harr,List.getElem?_append_right hge,List.getElem?_drop]
          rw [show news.length+(a * ei.size+b - news.length)=a * ei.size+b by omega]; simpa using x1
        · rw [List.getElem?_append_right (by omega),List.getElem?_drop,show rows.length+(a - rows.length)=a by omega]; exact x2
    · have e2:h'=0:=by omega
      subst e2
      have hvo:r.valid γ' 0=true:=by simp [Row.valid,hg1]
      obtain ⟨o1,o2,cur',o3,o4,o5⟩:=m4 hvo
      by_cases hgg:g'=g
      · subst hgg
        rw [l3] at o3
        injection o3 with o3
        injection o3 with o3
        subst o3
        exact ⟨o1,o2,arr,setRow_heap w g' _ _ e' _ l3,by rw [hsize]; exact o4,fun a ha=>absurd ha (by omega)⟩
      · exact ⟨o1,o2,cur',(setRow_other w g g' _ hgg).trans o3,o4,fun a ha=>absurd ha (by omega)⟩
theorem aoE {t ty:Nat} {xv:Value} {x:AV} {e:Eff} (hT:TOk P T) (hI:Inv w F Pr m look) (hx:RelV w F m xv x) (h:ag8 T t x look=some e):
    ∃ v w',(Builtin.clear_ #[t] ty #[xv]).run P w=.ok v w'∧Post w F Pr m look nid e v w':=by
  unfold ag8 at h
  split at h
  rotate_left
  · cases h
  rename_i el sz by_ ag ze ht
  split at h
  rotate_left
  · cases h
  rename_i ei he
  have hut:=hT.slice ht rfl
  obtain ⟨i,dd,z,a1,a2,a3,a4,a5,a6,a7,a8,a9,a10,a11,a12⟩:=hT.ok el ei he
  have done:RelV w F m (.tuple #[]) (.tup []):=.tup [] [] rfl (fun j h=>absurd h (by simp))
  split at h
  · injection h with h
    subst h
    cases hx with | pv hp=>
    cases hp
    exact ⟨_,w,by simp [Builtin.clear_,run_underlying hut],Post.same hI done⟩
  · rename_i id γ hd esz off n
    split at h
    · rename_i hn0
      injection h with h
      subst h
      subst hn0
      cases hx with
      | ref0 hm hn hcc=>exact ⟨_,w,by simp [Builtin.clear_,run_underlying hut],Post.same hI done⟩
      | ref hm _ _ hp ho=>omega
      | refE ho=>exact ⟨_,w,by simp [Builtin.clear_,run_underlying hut],Post.same hI done⟩
    rename_i hn0
    split at h
    rotate_left
    · cases h
    rename_i e' esz' r hl
    split at h
    rotate_left
    · cases h
    rename_i hc
    obtain ⟨hγ,hlen,hfl,hle,rfl,rfl,hel,hfrz,hpos⟩:=hc
    obtain rfl:el=e':=hel.symm
    injection h with h
    subst h
    have hzs:(Builtin.zeroCells z.cells n).size=n * ei.size:=by rw [acO,a8]
    have n2:(Builtin.zeroCells z.cells n).toList.length=(List.replicate n ei.zero).length * ei.size:=by simpa using hzs
    have n4:∀ i,i < (List.replicate n ei.zero).length→∀ j,j < ei.size→∃ u p,(Builtin.zeroCells z.cells n).toList[i * ei.size+j]?=some u∧((List.replicate n ei.zero)[i]?).bind (·[j]?)=some p∧Rep w F u p:=fun a ha b hb=>by
      rw [List.length_replicate] at ha
      have hlt:a * ei.size+b < n * ei.size:=ql ha hb (Nat.le_refl _)
      have hmod:(a * ei.size+b) % ei.size=b:=by rw [Nat.add_comm,Nat.add_mul_mod_self_right,Nat.mod_eq_of_lt hb]
      refine ⟨z.cells[b]'(by omega),ei.zero[b]'(by omega),?_,?_,a12 w F b (by omega) (by omega)⟩
      · simp only [Builtin.zeroCells]
        rw [Array.getElem?_toList,Array.getElem?_map,Array.getElem?_range,if_pos (by rw [a8]; exact hlt)]
        simp only [Option.map_some,a8,hmod]
        rw [getElem!_pos _ _ (by omega)]
      · rw [List.getElem?_replicate,if_pos (by omega)]
        simp only [Option.bind_some]
        rw [List.getElem?_eq_getElem (by omega)]
    have n5:∀ u,u∈(Builtin.zeroCells z.cells n).toList→u.oneCell'=true:=fun u hu=>by
      obtain ⟨q,hq,rfl⟩:=List.getElem_of_mem hu
      have hq':q < n * ei.size:=by simpa [hzs] using hq
      obtain ⟨d1,d2,d3⟩:=ai7 hq'
      obtain ⟨u,p,e1,_,e3⟩:=n4 (q / ei.size) (by simpa using d1) (q % ei.size) d2
      rw [d3,List.getElem?_eq_getElem hq] at e1
      injection e1 with e1
      rw [e1]
      exact e3.one
    have go:∀ (g cap:Nat) (c:Nat),m id γ hd=some (g,cap)→∃ v w',(Builtin.clear_ #[t] ty #[.slice (some ⟨g,off * ei.size,none⟩) n c]).run P w=.ok v w'∧
        Post w F Pr m look nid ⟨.tup [],[(id,.row el ei.size { r with rows:=r.rows.take off++(List.replicate n ei.zero++r.rows.drop (off+n)),floor:=hd,stable:=0 })],[]⟩ v w':=fun g cap c hm=>by
      obtain ⟨cur,l3,hfit,l1,hw'⟩:=akj (nid:=nid) (v:=.tup []) (k:=off) hI hl hm hγ hlen hfl hfrz (fun c hc=>by rw [List.eq_of_mem_replicate hc]; exact a9) (by rw [List.length_replicate]; exact hle) n2 n4
      have hst:=run_storeCells_at P g (off * ei.size) el (Builtin.zeroCells z.cells n).toList 0 cur w l3 (by simpa using hfit) n5
      simp only [Nat.add_zero] at hst
      obtain ⟨q1,q2⟩:=hw' _ rfl
      rw [List.length_replicate] at q2
      refine ⟨.tuple #[],_,?_,F,m,q1,qi.refl m,.tup [] [] rfl (fun j h=>absurd h (by simp)),q2,fun i hi _ _ _=>rfl⟩
      obtain ⟨n',rfl⟩:∃ n',n=n'+1:=⟨n - 1,by omega⟩
      simp [Builtin.clear_,run_underlying hut,zeroValue,typeInfo,a1,a7,hst]
    cases hx with
    | ref0 hm hn hcc=>
      rename_i g c
      have:=go g c c hm
      rw [Nat.zero_mul] at this
      exact this
    | ref hm _ _ hp ho=>exact go _ _ _ hm
    | refE ho=>omega
  · cases h
end Go.Ab
