import Derived.Test.YtejbcaheoloahaaGreatAbOps1
set_option linter.unusedVariables false
set_option linter.unusedSimpArgs false
namespace Go.Ab
open Go
variable {P:Program} {T:Nat→Option TI} {w w':World} {F:Froz} {Pr:Nat→Prop} {m:Mu} {look:Look} {nid:Nat}
theorem TOk.struct (hT:TOk P T) {t:Nat} {ti:TI} {fs:List (Nat × Nat)} (h:T t=some ti) (hd:ti.desc=.struct fs):
    ∃ fields:Array Field,P.underlying t=some (.struct fields)∧fs=fields.toList.map fun f=>(f.offset,f.type):=by
  obtain ⟨i,d,z,h1,h2,h3,_⟩:=hT.ok t ti h
  rw [hd] at h3
  cases d <;> simp [tdOf] at h3
  exact ⟨_,h2,h3.symm⟩
theorem TOk.slice (hT:TOk P T) {t:Nat} {ti:TI} {e:Nat} (h:T t=some ti) (hd:ti.desc=.slice e):P.underlying t=some (.slice e):=by
  obtain ⟨i,d,z,h1,h2,h3,_⟩:=hT.ok t ti h
  rw [hd] at h3
  cases d <;> simp [tdOf] at h3
  subst h3; exact h2
theorem TOk.array (hT:TOk P T) {t:Nat} {ti:TI} {n e:Nat} (h:T t=some ti) (hd:ti.desc=.array n e):P.underlying t=some (.array n e):=by
  obtain ⟨i,d,z,h1,h2,h3,_⟩:=hT.ok t ti h
  rw [hd] at h3
  cases d <;> simp [tdOf] at h3
  obtain ⟨rfl,rfl⟩:=h3; exact h2
theorem TOk.int (hT:TOk P T) {t:Nat} {ti:TI} {k:IntKind} (h:T t=some ti) (hd:ti.desc=.int k):P.underlying t=some (.int k):=by
  obtain ⟨i,d,z,h1,h2,h3,_⟩:=hT.ok t ti h
  rw [hd] at h3
  cases d <;> simp [tdOf] at h3
  subst h3; exact h2
theorem TOk.str (hT:TOk P T) {t:Nat} {ti:TI} (h:T t=some ti) (hd:ti.desc=.str):P.underlying t=some .string:=by
  obtain ⟨i,d,z,h1,h2,h3,_⟩:=hT.ok t ti h
  rw [hd] at h3
  cases d <;> simp [tdOf] at h3
  exact h2
theorem TOk.size (hT:TOk P T) {t:Nat} {ti:TI} (h:T t=some ti):∃ i,P.info? t=some i∧i.size=ti.size:=by
  obtain ⟨i,d,z,h1,h2,h3,h4,h5,_⟩:=hT.ok t ti h
  exact ⟨i,h1,h5⟩
theorem run_sizeOf (hT:TOk P T) {t:Nat} {ti:TI} (h:T t=some ti) (w:World):(sizeOf t).run P w=.ok ti.size w:=by
  obtain ⟨i,h1,h2⟩:=hT.size h
  simp [sizeOf,typeInfo,h1,h2]
theorem anQ (hT:TOk P T) {t:Nat} {ti:TI} (h:T t=some ti) (w:World):(isAgg t).run P w=.ok ti.agg w:=by
  obtain ⟨i,d,z,h1,h2,h3,h4,_⟩:=hT.ok t ti h
  rw [← h4]
  cases d <;> simp [isAgg,run_underlying h2,afH]
theorem aox {s f:Nat} {pv:Value} {p x:AV} (hT:TOk P T) (hv:RelV w F m pv p) (h:akY T s p f=some x):
    ∃ v,(Instr.fieldAt s pv f).run P w=.ok v w∧RelV w F m v x:=by
  unfold akY at h
  split at h
  rotate_left
  · cases h
  rename_i fs sz by_ ag ze ht
  split at h
  rotate_left
  · cases h
  rename_i o ft hf
  split at h
  rotate_left
  · cases h
  rename_i fi hft
  split at h
  · cases h
  rename_i hsz
  obtain ⟨fields,hu,hfs⟩:=hT.struct ht rfl
  subst hfs
  rw [List.getElem?_map,Option.map_eq_some_iff] at hf
  obtain ⟨fl,hfl,he⟩:=hf
  have he1:fl.offset=o:=congrArg Prod.fst he
  have he2:fl.type=ft:=congrArg Prod.snd he
  subst he1; subst he2
  have hfa:fields[f]?=some fl:=by simpa using hfl
  have run:∀ g off:Nat,(Instr.fieldAt s (.pointer (some ⟨g,off,none⟩)) f).run P w=.ok (.pointer (some ⟨g,off+fl.offset,none⟩)) w:=fun g off=>by
    simp [Instr.fieldAt,run_underlying hu,hfa,Instr.sureAddr,fieldPlace,run_sizeOf hT hft,hsz,Qd]
  split at h
  · rename_i cells off
    injection h with h
    subst h
    cases hv with
    | pv hp=>
    obtain ⟨g,a,us,rfl,h1,h2,h3⟩:=ac3 hp
    exact ⟨_,run _ _,.pv (by rw [Nat.add_assoc]; exact .ptr g a (off+fl.offset) cells us h1 h2 h3)⟩
  · injection h with h
    subst h
    cases hv with
    | ptr hp=>exact ⟨_,run _ _,.ptr hp⟩
  · injection h with h
    subst h
    cases hv with
    | eptr hm=>exact ⟨_,run _ _,by rw [Nat.add_assoc]; exact .eptr hm⟩
  · cases h
theorem run_indexAt_slice {t e:Nat} {kd:IntKind} {ei:TI} (hT:TOk P T) (hu:P.underlying t=some (.slice e)) (he:T e=some ei) (g o n c:Nat) (i:Int) (h0:0≤i) (hi:i.toNat < n):
    (Instr.indexAt t (.slice (some ⟨g,o,none⟩) n c) (.int kd i)).run P w=.ok (.pointer (some ⟨g,o+i.toNat * ei.size,none⟩)) w:=by
  have h1:i < (n:Int):=by omega
  simp [Instr.indexAt,asIntOf,run_underlying hu,run_sizeOf hT he,h0,h1,Qd]
theorem akS {t:Nat} {pv iv:Value} {p ix x:AV} (hT:TOk P T) (hv:RelV w F m pv p) (hi:RelV w F m iv ix) (h:qv T t p ix=some x):
    ∃ v,(Instr.indexAt t pv iv).run P w=.ok v w∧RelV w F m v x:=by
  unfold qv at h
  split at h
  · -- a slice
    rename_i e sz by_ ag ze kd i ht
    split at h
    rotate_left
    · cases h
    rename_i ei he
    split at h
    rotate_left
    · cases h
    rename_i h0
    have hu:=hT.slice ht rfl
    cases hi with
    | pv hi=>
    cases hi
    split at h
    · rename_i rows
      split at h
      rotate_left
      · cases h
      rename_i c hc
      split at h
      rotate_left
      · cases h
      rename_i hcl
      injection h with h
      subst h
      cases hv with
      | pv hp=>
      obtain ⟨hlt,hce⟩:=List.getElem?_eq_some_iff.1 hc
      cases hp with
      | sl0=>simp at hlt
      | sl g o esz cap rows us hl hs h1 h2 h3=>
        have hesz:esz=ei.size:=by rw [← hs _ hlt,hce]; exact hcl
        refine ⟨_,run_indexAt_slice hT hu he g o _ cap i h0 hlt,?_⟩
        have:=Rep.ptr (w:=w) (F:=F) g (o+i.toNat * ei.size) 0 c (us i.toNat) (fun j hj=>?_) (fun j hj=>?_) (fun j hj=>?_)
        · exact .pv this
        · rw [← hesz]; exact h1 _ hlt j (by omega)
        · rw [← hesz]; exact h2 _ hlt j (by omega)
        · have:=h3 _ hlt j (by rw [hce]; exact hj)
          simpa [hce] using this
    · rename_i id γ hd esz off n
      split at h
      rotate_left
      · cases h
      rename_i hc
      obtain ⟨hlt,hes⟩:=hc
      injection h with h
      subst h
      cases hv with
      | ref0 hm hn hcc=>
        refine ⟨_,run_indexAt_slice hT hu he _ _ _ _ i h0 hlt,?_⟩
        have:=RelV.eptr (w:=w) (F:=F) (esz:=esz) (i:=0+i.toNat) (off:=0) hm
        rw [← hes]
        simpa using this
      | ref hm hn hcc hpos ho=>
        refine ⟨_,run_indexAt_slice hT hu he _ _ _ _ i h0 hlt,?_⟩
        have:=RelV.eptr (w:=w) (F:=F) (esz:=esz) (i:=off+i.toNat) (off:=0) hm
        rw [← hes,← Nat.add_mul]
        simpa using this
      | refE ho=>exact absurd hlt (by omega)
    · cases h
  · -- an array
    rename_i n e sz by_ ag ze kd i ht
    split at h
    rotate_left
    · cases h
    rename_i ei he
    split at h
    rotate_left
    · cases h
    rename_i hin
    have hu:=hT.array ht rfl
    cases hi with
    | pv hi=>
    cases hi
    have run:∀ g o:Nat,(Instr.indexAt t (.pointer (some ⟨g,o,none⟩)) (.int kd i)).run P w=.ok (.pointer (some ⟨g,o+i.toNat * ei.size,none⟩)) w:=fun g o=>by
      simp [Instr.indexAt,asIntOf,Instr.sureAddr,run_underlying hu,run_sizeOf hT he,hin.1,hin.2,Qd]
    split at h
    · rename_i cells off
      injection h with h
      subst h
      cases hv with
      | pv hp=>
      obtain ⟨g,a,us,rfl,h1,h2,h3⟩:=ac3 hp
      exact ⟨_,run _ _,.pv (by rw [Nat.add_assoc]; exact .ptr g a _ cells us h1 h2 h3)⟩
    · injection h with h
      subst h
      cases hv with
      | ptr hp=>exact ⟨_,run _ _,.ptr hp⟩
    · injection h with h
      subst h
      cases hv with
      | eptr hm=>exact ⟨_,run _ _,by rw [Nat.add_assoc]; exact .eptr hm⟩
    · cases h
  · cases h
theorem aoQ {t:Nat} {pv iv:Value} {p ix x:AV} (hv:RelV w F m pv p) (hi:RelV w F m iv ix) (h:amn p ix=some x) (hu:P.underlying t=some .string):
    ∃ v,(Instr.index t pv iv).run P w=.ok v w∧RelV w F m v x:=by
  unfold amn at h
  split at h
  rotate_left
  · cases h
  rename_i s k i
  split at h
  rotate_left
  · cases h
  rename_i h0
  rw [Option.map_eq_some_iff] at h
  obtain ⟨b,hb,rfl⟩:=h
  cases hv with
  | pv hv=>
  cases hi with
  | pv hi=>
  cases hv
  cases hi
  obtain ⟨hlt,he⟩:=List.getElem?_eq_some_iff.1 hb
  have hlt':i < (s.size:Int):=by
    have:i.toNat < s.size:=by rw [Array.length_toList] at hlt; exact hlt
    omega
  refine ⟨.int .u8 b.toNat,?_,.pv (.int _ _)⟩
  rw [run_index_string _ t s k i hu,dif_pos ⟨h0,hlt'⟩]
  subst he
  rfl
theorem anp {t o:Nat} {ti:TI} {vs:List Value} {cs:List AV} {x:AV} (hT:TOk P T) (ht:T t=some ti) (hr:RelL w F m vs cs) (h:((cut cs o ti.size).bind (ae2 ti.agg))=some x):
    ∃ v,(part t vs.toArray o).run P w=.ok v w∧RelV w F m v x:=by
  obtain ⟨r,hc,hx⟩:=Option.bind_eq_some_iff.1 h
  obtain ⟨hle,hr',hrl⟩:=aes hc
  have hm:=aez hx (by rw [hr']; exact (hr.drop o).take ti.size)
  refine ⟨_,?_,hm⟩
  unfold part
  simp only [Sem.run_bind,anQ hT ht,Result.andThen_ok]
  cases ha:ti.agg with
  | true=>
    simp only [if_true,Sem.run_bind,run_sizeOf hT ht,Result.andThen_ok,Sem.run_pure]
    congr 2
    apply Array.ext'
    simp [List.extract_eq_take_drop]
  | false=>
    obtain ⟨i,d,z,h1,h2,h3,h4,h5,h6,h7,h8,h9,h10,h11,h12⟩:=hT.ok t ti ht
    have hone:=(h11 ha).1
    have hlt:o < vs.length:=by have:=hr.1; omega
    simp only [Bool.false_eq_true,if_false]
    rw [show (vs.toArray[o]?:Option Value)=some vs[o] by simp [hlt]]
    simp only [Sem.run_pure,hone]
    congr 1
    rw [List.drop_eq_getElem_cons hlt]
    rfl
theorem anM {t n e:Nat} {pv iv:Value} {p ix x:AV} (hT:TOk P T) (hu:P.underlying t=some (.array n e)) (hv:RelV w F m pv p) (hi:RelV w F m iv ix) (h:akN T n e p ix=some x):
    ∃ v,(Instr.index t pv iv).run P w=.ok v w∧RelV w F m v x:=by
  unfold akN at h
  split at h
  rotate_left
  · cases h
  rename_i ei cs k i he
  split at h
  rotate_left
  · cases h
  rename_i h0
  cases hi with
  | pv hi=>
  cases hi
  cases hv with
  | agg vs cs hl hr=>
  obtain ⟨v,hrun,hrel⟩:=anp (w:=w) hT he ⟨hl,hr⟩ h
  exact ⟨v,by simp [Instr.index,asIntOf,run_underlying hu,run_sizeOf hT he,h0.1,h0.2,hrun],hrel⟩
theorem alx {s f:Nat} {pv:Value} {p x:AV} (hT:TOk P T) (hv:RelV w F m pv p) (h:ahc T s p f=some x):
    ∃ v,(Instr.field s pv f).run P w=.ok v w∧RelV w F m v x:=by
  unfold ahc at h
  split at h
  rotate_left
  · cases h
  rename_i fs sz by_ ag ze cs ht
  split at h
  rotate_left
  · cases h
  rename_i o ft hf
  split at h
  rotate_left
  · cases h
  rename_i fi hft
  obtain ⟨fields,hu,hfs⟩:=hT.struct ht rfl
  subst hfs
  rw [List.getElem?_map,Option.map_eq_some_iff] at hf
  obtain ⟨fl,hfl,he⟩:=hf
  have he1:fl.offset=o:=congrArg Prod.fst he
  have he2:fl.type=ft:=congrArg Prod.snd he
  subst he1; subst he2
  have hfa:fields[f]?=some fl:=by simpa using hfl
  cases hv with
  | agg vs cs hl hr=>
  obtain ⟨v,hrun,hrel⟩:=anp (w:=w) hT hft ⟨hl,hr⟩ h
  exact ⟨v,by simp [Instr.field,run_underlying hu,hfa,asAgg,hrun],hrel⟩
end Go.Ab
