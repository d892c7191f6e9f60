import Derived.Test.YtejbcaheoloahaaGreatAbX
import Derived.Laws.StructEq
import Derived.ChangeKeysEq
set_option linter.unusedVariables false
set_option linter.unusedSimpArgs false
namespace Go.Ab
open Go
def eqT (P:Program) (t k:Nat):Bool:=
  match P.underlying t with
  | some (.int _)=>k == 1
  | some .bool=>k == 2
  | some .string=>k == 3
  | _=>false
def eqFs (P:Program):Nat→List Field→List Nat→Bool
  | _,[],[]=>true
  | i,f :: r,k :: ks=>f.name != "_" && f.offset == i && eqT P f.type k && eqFs P (i+1) r ks
  | _,_,_=>false
def intT (P:Program) (e:Nat):Bool:=
  match P.underlying e with
  | some (.int _)=>true
  | _=>false
def ain (P:Program) (t:Nat) (ks:List Nat):Bool:=
  match P.underlying t with
  | some (.array n e)=>intT P e && P.cellsOf e == 1 && P.cellsOf t == n && ks.length == n && ks.all (· == 1)
  | _=>false
def apS (P:Program) (fs:List Field) (ks:List Nat):Bool:=
  match fs with
  | [f]=>f.name != "_" && f.offset == 0 && ain P f.type ks
  | _=>false
def eOf (P:Program) (t:Nat) (ks:List Nat):Bool:=
  match P.underlying t with
  | some (.struct fs)=>(eqFs P 0 fs.toList ks || apS P fs.toList ks) && !P.stoodInHeld t && !P.eqGuardType P.depth t
  | some (.array _ _)=>ain P t ks && !P.eqGuardType P.depth t
  | _=>false
theorem aje {P:Program} {w:World} {F:Froz} {m:Mu} {d e:Nat} {kd:IntKind} {xs ys:Array Value} {as bs:List AV} (he:P.underlying e=some (.int kd)) (hx:RelL w F m xs.toList as) (hy:RelL w F m ys.toList bs) (hk:∀ a,a∈as→aau a=1):
    ∀ (n i:Nat) (c:Bool),i+n=as.length→Qg (as.drop i) (bs.drop i)=some c→(Op.eqItems (d+1) e 1 xs ys (List.range' i n)).run P w=.ok c w
  | 0,i,c,hn,h=>by
    rw [List.drop_eq_nil_of_le (by omega)] at h
    cases hb:bs.drop i with
    | nil=>rw [hb] at h; simp only [Qg,Option.some.injEq] at h; subst h; simp [Op.eqItems]
    | cons b r=>rw [hb] at h; simp [Qg] at h
  | n+1,i,c,hn,h=>by
    have hi:i < as.length:=by omega
    rw [List.drop_eq_getElem_cons hi] at h
    have hib:i < bs.length:=by
      rcases Nat.lt_or_ge i bs.length with hh | hh
      · exact hh
      · rw [List.drop_eq_nil_of_le hh] at h; simp [Qg] at h
    rw [List.drop_eq_getElem_cons hib] at h
    simp only [Qg] at h
    split at h
    rotate_left
    · cases h
    rename_i e1 c' he1 hc'
    injection h with h
    subst h
    have hxi:i < xs.size:=by have:=hx.1; simp at this; omega
    have hyi:i < ys.size:=by have:=hy.1; simp at this; omega
    have ru:=hx.2 i (by simpa using hxi) hi
    have rv:=hy.2 i (by simpa using hyi) hib
    simp only [Array.getElem_toList] at ru rv
    have ih:=aje (d:=d) he hx hy hk n (i+1) c' (by omega) hc'
    have h3:=hk as[i] (List.getElem_mem hi)
    have key:(Op.equalIn (d+1) e xs[i] ys[i]).run P w=.ok e1 w:=by
      generalize xs[i]=u at ru
      generalize ys[i]=v at rv
      generalize as[i]=a at ru he1 h3
      generalize bs[i]=b at rv he1
      unfold amA at he1
      split at he1
      · split at he1
        · rename_i hk'
          injection he1 with he1
          subst hk' he1
          cases ru with | pv ru=>
          cases rv with | pv rv=>
          cases ru; cases rv
          exact run_equalIn_int w d _ _ _ _ _ he
        · cases he1
      · simp [aau] at h3
      · simp [aau] at h3
      · cases he1
    have part1:∀ (zs:Array Value) (hz:i < zs.size),(part e zs (i * 1)).run P w=.ok zs[i] w:=fun zs hz=>by
      unfold part
      have:(isAgg e).run P w=.ok false w:=by simp [isAgg,run_underlying he]
      simp only [Sem.run_bind,this,Result.andThen_ok,Bool.false_eq_true,if_false,Nat.mul_one]
      rw [show zs[i]?=some zs[i] by simp [hz]]
      rfl
    rw [List.range'_succ]
    simp only [Op.eqItems,Sem.run_bind,part1 xs hxi,part1 ys hyi,Result.andThen_ok,key]
    cases e1 with
    | false=>simp
    | true=>simpa using ih
theorem alq {P:Program} {w:World} {F:Froz} {m:Mu} {d t:Nat} {xs ys:Array Value} {as bs:List AV} {c:Bool} (hx:RelL w F m xs.toList as) (hy:RelL w F m ys.toList bs) (hE:ain P t (as.map aau)=true) (hc:Qg as bs=some c):
    (Op.equalIn (d+2) t (.agg xs) (.agg ys)).run P w=.ok c w:=by
  unfold ain at hE
  split at hE
  rotate_left
  · cases hE
  rename_i n e hu
  simp only [Bool.and_eq_true,beq_iff_eq,List.length_map] at hE
  obtain ⟨⟨⟨⟨h1,h2⟩,h3⟩,h4⟩,h5⟩:=hE
  unfold intT at h1
  split at h1
  rotate_left
  · cases h1
  rename_i kd he
  obtain ⟨i,hi⟩:=info_of_underlying he
  rw [run_equalIn_array w (d+1) xs ys hu hi,h2,List.range_eq_range']
  refine aje he hx hy (fun a ha=>?_) n 0 c (by omega) (by simpa using hc)
  have:=List.all_eq_true.1 h5 (aau a) (List.mem_map.2 ⟨a,ha,rfl⟩)
  simpa using this
theorem ahC {P:Program} {w:World} {F:Froz} {m:Mu} {d:Nat} {xs ys:Array Value} {as bs:List AV} (hx:RelL w F m xs.toList as) (hy:RelL w F m ys.toList bs):
    ∀ (fs:List Field) (i:Nat) (c:Bool),eqFs P i fs ((as.drop i).map aau)=true→Qg (as.drop i) (bs.drop i)=some c→(Op.eqFields (d+1) xs ys fs).run P w=.ok c w
  | [],i,c,hf,h=>by
    cases ha:as.drop i with
    | cons a r=>rw [ha] at hf; simp [eqFs] at hf
    | nil=>
      rw [ha] at h
      cases hb:bs.drop i with
      | nil=>rw [hb] at h; simp only [Qg,Option.some.injEq] at h; subst h; simp [Op.eqFields]
      | cons b r=>rw [hb] at h; simp [Qg] at h
  | f :: fs,i,c,hf,h=>by
    have hi:i < as.length:=by
      rcases Nat.lt_or_ge i as.length with hh | hh
      · exact hh
      · rw [List.drop_eq_nil_of_le hh] at hf; simp [eqFs] at hf
    rw [List.drop_eq_getElem_cons hi] at h hf
    simp only [List.map_cons,eqFs,Bool.and_eq_true,bne_iff_ne,ne_eq,beq_iff_eq] at hf
    obtain ⟨⟨⟨h1,h2⟩,h3⟩,h4⟩:=hf
    have hib:i < bs.length:=by
      rcases Nat.lt_or_ge i bs.length with hh | hh
      · exact hh
      · rw [List.drop_eq_nil_of_le hh] at h; simp [Qg] at h
    rw [List.drop_eq_getElem_cons hib] at h
    simp only [Qg] at h
    split at h
    rotate_left
    · cases h
    rename_i e c' he hc'
    injection h with h
    subst h
    have hxi:i < xs.size:=by have:=hx.1; simp at this; omega
    have hyi:i < ys.size:=by have:=hy.1; simp at this; omega
    have ru:=hx.2 i (by simpa using hxi) hi
    have rv:=hy.2 i (by simpa using hyi) hib
    simp only [Array.getElem_toList] at ru rv
    have ih:=ahC (d:=d) hx hy fs (i+1) c' h4 hc'
    have key:∃ D,P.underlying f.type=some D∧afH D=false∧(Op.equalIn (d+1) f.type xs[i] ys[i]).run P w=.ok e w:=by
      generalize xs[i]=u at ru
      generalize ys[i]=v at rv
      generalize as[i]=a at ru he h3
      generalize bs[i]=b at rv he
      unfold amA at he
      split at he
      · split at he
        · rename_i hk
          injection he with he
          subst hk he
          cases ru with | pv ru=>
          cases rv with | pv rv=>
          cases ru; cases rv
          unfold eqT at h3
          split at h3 <;> first
            | (rename_i hty; exact ⟨_,hty,rfl,run_equalIn_int w d _ _ _ _ _ hty⟩)
            | (simp [aau] at h3; done)
        · cases he
      · injection he with he
        subst he
        cases ru with | pv ru=>
        cases rv with | pv rv=>
        cases ru; cases rv
        unfold eqT at h3
        split at h3 <;> first
          | (rename_i hty; exact ⟨_,hty,rfl,run_equalIn_bool w d _ _ _ hty⟩)
          | (simp [aau] at h3; done)
      · injection he with he
        subst he
        cases ru with | pv ru=>
        cases rv with | pv rv=>
        cases ru; cases rv
        unfold eqT at h3
        split at h3 <;> first
          | (rename_i hty; refine ⟨_,hty,rfl,?_⟩; rw [beq_toListBytes]; exact run_equalIn_string w d _ _ _ hty)
          | (simp [aau] at h3; done)
      · cases he
    obtain ⟨D,hD,hagg,hrun⟩:=key
    have part1:∀ (zs:Array Value) (hz:i < zs.size),(part f.type zs f.offset).run P w=.ok zs[i] w:=fun zs hz=>by
      unfold part
      rw [h2]
      have:(isAgg f.type).run P w=.ok false w:=by
        cases D <;> simp_all [isAgg,run_underlying hD,afH]
      simp only [Sem.run_bind,this,Result.andThen_ok,Bool.false_eq_true,if_false]
      rw [show zs[i]?=some zs[i] by simp [hz]]
      rfl
    simp only [Op.eqFields]
    rw [if_pos (by simpa using h1)]
    simp only [Sem.run_bind,part1 xs hxi,part1 ys hyi,Result.andThen_ok,hrun]
    cases e with
    | false=>simp
    | true=>simpa using ih
theorem ahS:∀ {as bs:List AV} {c:Bool},Qg as bs=some c→as.length=bs.length
  | [],[],_,_=>rfl
  | [],_ :: _,_,h=>by simp [Qg] at h
  | _ :: _,[],_,h=>by simp [Qg] at h
  | a :: as,b :: bs,c,h=>by
    simp only [Qg] at h
    split at h
    · rename_i h1; simp [ahS h1]
    · cases h
theorem aqk (P:Program):EOk P (eOf P):=⟨fun t as bs hE w F m xs ys c x y hx hy hc=>by
  unfold eOf at hE
  split at hE
  · rename_i fs hfs
    simp only [Bool.and_eq_true,Bool.not_eq_true'] at hE
    obtain ⟨⟨h1,h2⟩,h3⟩:=hE
    have hfo:P.fieldsOf t=fs:=by simp [Program.fieldsOf,hfs]
    have hrun:(Op.equalIn 10000 t (.agg xs) (.agg ys)).run P w=.ok c w:=by
      rw [run_equalIn_agg w 9999 t xs ys (by rw [hfo]; exact hfs) h2,hfo]
      rcases Bool.or_eq_true_iff.1 h1 with h1 | h1
      · exact ahC (d:=9998) hx hy fs.toList 0 c (by simpa using h1) (by simpa using hc)
      · unfold apS at h1
        split at h1
        rotate_left
        · cases h1
        rename_i f hf
        rw [hf]
        simp only [Bool.and_eq_true,bne_iff_ne,ne_eq,beq_iff_eq] at h1
        obtain ⟨⟨g1,g2⟩,g3⟩:=h1
        have hg3:=g3
        unfold ain at g3
        split at g3
        rotate_left
        · cases g3
        rename_i n e hu
        simp only [Bool.and_eq_true,beq_iff_eq,List.length_map] at g3
        obtain ⟨⟨⟨⟨_,_⟩,k3⟩,k4⟩,_⟩:=g3
        obtain ⟨i,hi⟩:=info_of_underlying hu
        have whole:∀ (zs:Array Value),zs.size=n→(part f.type zs f.offset).run P w=.ok (.agg zs) w:=fun zs hz=>by
          unfold part
          have:(isAgg f.type).run P w=.ok true w:=by simp [isAgg,run_underlying hu]
          simp only [Sem.run_bind,this,Result.andThen_ok,if_true,_root_.Go.run_sizeOf w hi,Sem.run_pure,k3,g2,Nat.zero_add]
          subst hz
          rw [Array.extract_size]
        have hxs:xs.size=n:=by have:=hx.1; simp at this; omega
        have hys:ys.size=n:=by have:=hy.1; have:=ahS hc; simp at *; omega
        simp only [Op.eqFields]
        rw [if_pos (by simpa using g1)]
        simp only [Sem.run_bind,whole xs hxs,whole ys hys,Result.andThen_ok,alq (d:=9997) hx hy hg3 hc]
        cases c <;> simp
    refine ⟨fun op=>run_eqGuard_agg w op t x y xs ys h3,?_,?_⟩
    · rw [run_eql_struct,hrun]; rfl
    · rw [run_neq_struct,hrun]; rfl
  · simp only [Bool.and_eq_true,Bool.not_eq_true'] at hE
    obtain ⟨h1,h3⟩:=hE
    have hrun:(Op.equalIn 10000 t (.agg xs) (.agg ys)).run P w=.ok c w:=alq (d:=9998) hx hy h1 hc
    refine ⟨fun op=>run_eqGuard_agg w op t x y xs ys h3,?_,?_⟩
    · rw [run_eql_struct,hrun]; rfl
    · rw [run_neq_struct,hrun]; rfl
  · cases hE⟩
end Go.Ab
