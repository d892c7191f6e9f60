import Derived.Test.YtejbcaheoloahaaGreatAbOps6
set_option linter.unusedVariables false
set_option linter.unusedSimpArgs false
namespace Go.Ab
open Go
variable {P:Program} {T:Nat→Option TI} {w w':World} {F:Froz} {Pr:Nat→Prop} {m:Mu} {look:Look} {nid:Nat}
inductive RelO (w:World) (F:Froz) (m:Mu):Option Value→Option AV→Prop
  | none:RelO w F m none none
  | some {v:Value} {x:AV} (h:RelV w F m v x):RelO w F m (some v) (some x)
theorem adx {w:World} {F:Froz} {m:Mu} {v:Option Value} {x:Option AV} {d n:Nat} (hr:RelO w F m v x) (h:bound x d=some n):
    (v=none∧n=d)∨∃ k i,v=some (.int k i)∧0≤i∧n=i.toNat:=by
  cases hr with
  | none=>simp [bound] at h; exact .inl ⟨rfl,h.symm⟩
  | some hv=>
    unfold bound at h
    split at h
    · rename_i he; cases he
    · rename_i k i he
      injection he with he
      subst he
      split at h
      · rename_i h0
        injection h with h
        cases hv with | pv hp=>
        cases hp
        exact .inr ⟨_,_,rfl,h0,h.symm⟩
      · cases h
    · cases h
theorem adA {w:World} {F:Froz} {m:Mu} {isS:Bool} {n c:Nat} {lo hi:Option Value} {alo ahi:Option AV} {l h:Nat} (hlo:RelO w F m lo alo) (hhi:RelO w F m hi ahi)
    (h1:bound alo 0=some l) (h2:bound ahi n=some h) (hlh:l≤h) (hn:h≤c):(Instr.sliceBounds isS n c lo hi none).run P w=.ok (l,h,c) w:=by
  rcases adx hlo h1 with ⟨rfl,rfl⟩ | ⟨k1,i1,rfl,p1,rfl⟩ <;> rcases adx hhi h2 with ⟨rfl,rfl⟩ | ⟨k2,i2,rfl,p2,rfl⟩
  · simp [Instr.sliceBounds]
  · have:i2≤(c:Int):=by omega
    simp [Instr.sliceBounds,Instr.sliceBound,asIntOf,p2,this]
  · have:i1≤(h:Int):=by omega
    simp [Instr.sliceBounds,Instr.sliceBound,asIntOf,p1,this]
  · have e1:i2≤(c:Int):=by omega
    have e2:i1≤max i2 0:=by omega
    simp [Instr.sliceBounds,Instr.sliceBound,asIntOf,p1,p2,e1,e2]
theorem adU {w:World} {F:Froz} {m:Mu} {isS:Bool} {n c:Nat} {lo hi:Option Value} {alo ahi:Option AV} {l h:Nat} (hlo:RelO w F m lo alo) (hhi:RelO w F m hi ahi)
    (h1:bound alo 0=some l) (h2:bound ahi n=some h) (hlh:l≤h) (hn:h≤n) (hc:n≤c):(Instr.sliceBounds isS n c lo hi none).run P w=.ok (l,h,c) w:=
  adA hlo hhi h1 h2 hlh (Nat.le_trans hn hc)
theorem agZ {w:World} {F:Froz} {m:Mu} {n c:Nat} {lo:Option Value} {hv mv:Value} {alo:Option AV} {ahi amx:AV} {l h k:Nat} (hlo:RelO w F m lo alo) (hhi:RelV w F m hv ahi) (hmx:RelV w F m mv amx)
    (h1:bound alo 0=some l) (h2:bound (some ahi) n=some h) (h3:bound (some amx) n=some k) (hlh:l≤h) (hhk:h≤k) (hn:k≤c):(Instr.sliceBounds true n c lo (some hv) (some mv)).run P w=.ok (l,h,k) w:=by
  rcases adx (.some hhi) h2 with ⟨e,_⟩ | ⟨k2,i2,e2,p2,rfl⟩
  · cases e
  rcases adx (.some hmx) h3 with ⟨e,_⟩ | ⟨k3,i3,e3,p3,rfl⟩
  · cases e
  cases e2; cases e3
  have q1:i3≤(c:Int):=by omega
  have q2:i2≤max i3 0:=by omega
  rcases adx hlo h1 with ⟨rfl,rfl⟩ | ⟨k1,i1,rfl,p1,rfl⟩
  · simp [Instr.sliceBounds,Instr.sliceBound,asIntOf,p2,p3,q1,q2]
  · have q3:i1≤max i2 0:=by omega
    simp [Instr.sliceBounds,Instr.sliceBound,asIntOf,p1,p2,p3,q1,q2,q3]
theorem ajo (A:Addr) (c l k:Nat):∃ b,(if c=l then some A else (some A).map (·.add k))=some b:=by
  split
  · exact ⟨_,rfl⟩
  · exact ⟨_,rfl⟩
theorem an7 {t e:Nat} {ei:TI} {xv:Value} {x y:AV} {lo hi:Option Value} {alo ahi:Option AV} (hT:TOk P T) (hu:P.underlying t=some (.slice e)) (he:T e=some ei)
    (hx:RelV w F m xv x) (hns:∀ s,x≠.pv (.str s)) (hlo:RelO w F m lo alo) (hhi:RelO w F m hi ahi) (h:abE ei.size x alo ahi=some y):
    ∃ v,(Instr.sliceAt t xv lo hi none).run P w=.ok v w∧RelV w F m v y:=by
  have run:∀ A n c l h,n≤c→bound alo 0=some l→bound ahi n=some h→l≤h→h≤n→
      (Instr.sliceAt t (.slice A n c) lo hi none).run P w=.ok (.slice (if c=l then A else A.map (·.add (l * ei.size))) (h - l) (c - l)) w:=by
    intro A n c l h hc h1 h2 hlh hn
    have hb:=adU (P:=P) (w:=w) (isS:=true) hlo hhi h1 h2 hlh hn hc
    simp only [Instr.sliceAt,Sem.run_bind,run_underlying hu,Result.andThen_ok,Instr.slice,hb,run_sizeOf hT he,Sem.run_pure]
  unfold abE at h
  split at h
  · cases h
  rename_i n hn
  split at h
  rotate_left
  · cases h
  rename_i l hh h1 h2
  split at h
  rotate_left
  · -- beyond the length
    split at h
    rotate_left
    · cases h
    rename_i id γ hd esz' n'
    split at h
    rotate_left
    · cases h
    rename_i hc3
    obtain ⟨hlh,hhd,rfl⟩:=hc3
    injection h with h
    subst h
    simp only [lenA,Option.some.injEq] at hn
    subst hn
    cases hx with
    | ref _ _ _ _ ho=>omega
    | refE ho=>omega
    | ref0 hm hn hc=>
    rename_i g c
    have hb:=adA (P:=P) (w:=w) (c:=c) (isS:=true) hlo hhi h1 h2 hlh (by omega)
    refine ⟨_,(by simp only [Instr.sliceAt,Sem.run_bind,run_underlying hu,Result.andThen_ok,Instr.slice,hb,run_sizeOf hT he,Sem.run_pure]; rfl),?_⟩
    by_cases hl0:l=0
    · subst hl0
      simp only [Nat.zero_mul,Nat.sub_zero]
      have:(if c=0 then some (⟨g,0,none⟩:Addr) else (some (⟨g,0,none⟩:Addr)).map (·.add 0))=some ⟨g,0,none⟩:=by split <;> rfl
      rw [this]
      exact .ref0 hm (by omega) hc
    · by_cases hz:hh - l=0
      · rw [hz]
        obtain ⟨b,hb⟩:=ajo ⟨g,0,none⟩ c l (l * ei.size)
        rw [hb]
        exact .refE (by omega)
      · rw [if_neg (by omega)]
        simp only [Option.map_some,Qd,Nat.zero_add]
        exact .ref hm (by omega) hc (by omega) (by omega)
  rename_i hle
  obtain ⟨hlh,hhn⟩:=hle
  split at h
  · exact absurd rfl (hns _)
  · -- pure rows
    rename_i rows
    simp only [lenA,Option.some.injEq] at hn
    subst hn
    cases hx with | pv hp=>
    split at h
    · rename_i heq
      injection h with h
      subst h; subst heq
      have key:∀ A c,rows.length≤c→∃ v,(Instr.sliceAt t (.slice (some A) rows.length c) lo hi none).run P w=.ok v w∧RelV w F m v (.pv (.sl [])):=fun A c hc=>
        ⟨_,run (some A) _ c _ _ hc h1 h2 hlh hhn,by
          obtain ⟨b,hb⟩:=ajo A c hh (hh * ei.size)
          simp only [Nat.sub_self]
          rw [hb]
          exact .pv (.sl0 _ _)⟩
      cases hp with
      | sl0 a c=>exact key _ _ (Nat.zero_le _)
      | sl g o esz c _ us hl hs q1 q2 q3=>exact key _ _ hl
    · rename_i hne
      split at h
      rotate_left
      · cases h
      rename_i hlen
      injection h with h
      subst h
      cases hp with
      | sl0 a c=>simp at hhn; omega
      | sl g o esz c _ us hl hs q1 q2 q3=>
        have hll:l < rows.length:=by omega
        have hesz:esz=ei.size:=by
          rw [List.getElem?_eq_getElem hll] at hlen
          simp only [Option.map_some,Option.some.injEq] at hlen
          rw [← hs l hll]; exact hlen
        refine ⟨_,run _ _ c l hh hl h1 h2 hlh hhn,?_⟩
        rw [if_neg (by omega)]
        simp only [Option.map_some,Qd,← hesz]
        have hlen':((rows.drop l).take (hh - l)).length=hh - l:=by simp; omega
        have hrep:Rep w F (.slice (some ⟨g,o+l * esz,none⟩) ((rows.drop l).take (hh - l)).length (c - l)) (.sl ((rows.drop l).take (hh - l))):=by
          refine .sl g (o+l * esz) esz (c - l) _ (fun i j=>us (l+i) j) (by rw [hlen']; omega) (fun i hi=>?_) (fun i hi j hj=>?_) (fun i hi j hj=>?_) (fun i hi j hj=>?_)
          · simp only [List.getElem_take,List.getElem_drop]; exact hs _ _
          · rw [hlen'] at hi
            have:=q1 (l+i) (by omega) j hj
            rw [Nat.add_mul] at this
            rw [show o+l * esz+i * esz+j=o+(l * esz+i * esz)+j by omega]; exact this
          · rw [hlen'] at hi
            have:=q2 (l+i) (by omega) j hj
            rw [Nat.add_mul] at this
            rw [show o+l * esz+i * esz+j=o+(l * esz+i * esz)+j by omega]; exact this
          · simp only [List.getElem_take,List.getElem_drop] at hj ⊢
            exact q3 _ _ _ hj
        rw [hlen'] at hrep
        exact .pv hrep
  · -- nil
    injection h with h
    subst h
    simp only [lenA,Option.some.injEq] at hn
    subst hn
    cases hx with | pv hp=>
    cases hp
    refine ⟨_,run none 0 0 l hh (Nat.le_refl _) h1 h2 hlh hhn,?_⟩
    have e1:l=0:=by omega
    have e2:hh=0:=by omega
    subst e1; subst e2
    exact .pv .nils
  · -- a slice of a row
    rename_i id γ hd esz' off n'
    simp only [lenA,Option.some.injEq] at hn
    subst hn
    split at h
    rotate_left
    · cases h
    rename_i hesz
    subst hesz
    injection h with h
    subst h
    cases hx with
    | ref0 hm hn hc=>
      rename_i g c
      refine ⟨_,run _ _ c l hh (by omega) h1 h2 hlh hhn,?_⟩
      simp only [Nat.zero_add]
      by_cases hl0:l=0
      · subst hl0
        simp only [Nat.zero_mul,Nat.sub_zero]
        have:(if c=0 then some (⟨g,0,none⟩:Addr) else (some (⟨g,0,none⟩:Addr)).map (·.add 0))=some ⟨g,0,none⟩:=by split <;> rfl
        rw [this]
        exact .ref0 hm (by omega) hc
      · by_cases hz:hh - l=0
        · rw [hz]
          obtain ⟨b,hb⟩:=ajo ⟨g,0,none⟩ c l (l * ei.size)
          rw [hb]
          exact .refE (by omega)
        · rw [if_neg (by omega)]
          simp only [Option.map_some,Qd,Nat.zero_add]
          exact .ref hm (by omega) hc (by omega) (by omega)
    | ref hm hn hc hpos ho=>
      rename_i g c
      refine ⟨_,run _ _ (c - off) l hh (by omega) h1 h2 hlh hhn,?_⟩
      by_cases hz:hh - l=0
      · rw [hz]
        obtain ⟨b,hb⟩:=ajo ⟨g,off * ei.size,none⟩ (c - off) l (l * ei.size)
        rw [hb]
        exact .refE (by omega)
      · rw [if_neg (by omega)]
        simp only [Option.map_some,Qd]
        have:=RelV.ref (w:=w) (F:=F) (esz:=ei.size) (off:=off+l) (n:=hh - l) hm (by omega) hc (by omega) (by omega)
        rw [Nat.add_mul] at this
        rw [Nat.sub_sub]; exact this
    | refE ho=>
      rename_i A c
      have e1:l=0:=by omega
      have e2:hh=0:=by omega
      subst e1; subst e2
      refine ⟨_,run _ _ c 0 0 (Nat.zero_le _) h1 h2 hlh hhn,?_⟩
      obtain ⟨b,hb⟩:=ajo A c 0 (0 * ei.size)
      rw [hb]
      exact .refE (by omega)
  · cases h
theorem alk {t:Nat} {s:ByteArray} {xv:Value} {y:AV} {lo hi:Option Value} {alo ahi:Option AV} (hu:P.underlying t=some .string)
    (hx:RelV w F m xv (.pv (.str s))) (hlo:RelO w F m lo alo) (hhi:RelO w F m hi ahi) (h:abE 0 (.pv (.str s)) alo ahi=some y):
    ∃ v,(Instr.sliceAt t xv lo hi none).run P w=.ok v w∧RelV w F m v y:=by
  simp only [abE,lenA] at h
  split at h
  rotate_left
  · cases h
  rename_i l hh h1 h2
  split at h
  rotate_left
  · cases h
  rename_i hle
  injection h with h
  subst h
  cases hx with | pv hp=>
  cases hp
  have hb:=adU (P:=P) (w:=w) (isS:=false) hlo hhi h1 h2 hle.1 hle.2 (Nat.le_refl _)
  refine ⟨.string (s.extract l hh),?_,.pv (.str _)⟩
  simp only [Instr.sliceAt,Sem.run_bind,run_underlying hu,Result.andThen_ok,Instr.slice,Option.isSome_none,Bool.false_eq_true,if_false,hb,Sem.run_pure]
theorem anL {t:Nat} {op:BinOp} {k:IntKind} {a b:Int} {y:AV} (h:amw op k a b=some y):
    ∃ v,(binOp op t (.int k a) (.int k b)).run P w=.ok v w∧RelV w F m v y:=by
  cases op <;> simp only [amw,qL,Option.some.injEq] at h <;> first
    | (cases h; done)
    | (subst h; exact ⟨_,by simp [binOp,Op.intArith,Op.intBits,Op.intCmp],.pv (.int _ _)⟩)
    | (subst h; exact ⟨_,by simp [binOp,Op.intArith,Op.intBits,Op.intCmp],.pv (.bool _)⟩)
    | (split at h
       · cases h
       · rename_i hb
         injection h with h
         subst h
         exact ⟨_,by simp [binOp,Op.intDiv,hb],.pv (.int _ _)⟩)
theorem ahE {t:Nat} {op:BinOp} {k k':IntKind} {a b:Int} {y:AV} (hop:op=.shl∨op=.shr) (h:abV op k a b=some y):
    ∃ v,(binOp op t (.int k a) (.int k' b)).run P w=.ok v w∧RelV w F m v y:=by
  unfold abV at h
  split at h
  · cases h
  rename_i hb
  rcases hop with rfl | rfl <;> simp only [Option.some.injEq] at h <;> subst h
  · exact ⟨_,by simp [binOp,Op.shift,hb],.pv (.int _ _)⟩
  · exact ⟨_,by simp [binOp,Op.shift,hb],.pv (.int _ _)⟩
theorem anT {t:Nat} {op:BinOp} {k:FloatKind} {a b:Nat} {y:AV} (h:amS op k a b=some y):
    ∃ v,(binOp op t (.float k a) (.float k b)).run P w=.ok v w∧RelV w F m v y:=by
  cases op <;> simp only [amS,qL,Option.some.injEq] at h <;> first
    | (cases h; done)
    | (subst h; exact ⟨_,by simp [binOp,Op.floatCmp],.pv (.bool _)⟩)
    | (rw [Option.map_eq_some_iff] at h
       obtain ⟨r,hr,rfl⟩:=h
       exact ⟨.float k r,by simp [binOp,Op.floatArith,hr],.pv (.flt _ _)⟩)
theorem anV {t:Nat} {op:BinOp} {a b:ByteArray} {y:AV} (h:amG op a b=some y):
    ∃ v,(binOp op t (.string a) (.string b)).run P w=.ok v w∧RelV w F m v y:=by
  cases op <;> simp only [amG,qL,Option.some.injEq] at h <;> first
    | (cases h; done)
    | (subst h; exact ⟨_,by simp [binOp,Op.stringOp],.pv (.bool _)⟩)
    | (split at h
       · rename_i hs
         injection h with h
         subst h
         have:¬ (9223372036854775807 < ((a.size:Int)+(b.size:Int))):=by omega
         exact ⟨_,by simp [binOp,Op.stringOp,this],.pv (.str _)⟩
       · cases h)
theorem agj {op:BinOp} {b:Option Bool} {y:AV} (h:akf op b=some y):∃ c,b=some c∧((op=.eql∧y=.pv (.bool c))∨(op=.neq∧y=.pv (.bool (!c)))):=by
  cases op <;> simp only [akf,Option.map_eq_some_iff] at h <;> first
    | (cases h; done)
    | (obtain ⟨c,rfl,rfl⟩:=h; exact ⟨c,rfl,by simp⟩)
theorem aj7 {v:Value} {x:AV} {b:Bool} (hv:RelV w F m v x) (h:akX x=some b):∃ p,v=.pointer p∧p.isNone=b:=by
  unfold akX at h
  split at h <;> (try cases h) <;> cases hv <;> (try (rename_i hp; cases hp)) <;> exact ⟨_,rfl,rfl⟩
theorem agP (w:World) (d:Nat) (t e:TypeId) (a:Option Addr) (l c:Nat) (h:P.underlying t=some (.slice e)):(Op.equalIn (d+1) t (.slice a l c) (.slice none 0 0)).run P w=.ok a.isNone w:=by
  cases a <;> simp [Op.equalIn,run_underlying h]
theorem ad2 (w:World) (t e:TypeId) (a:Option Addr) (l c:Nat) (h:P.underlying t=some (.slice e)):(Op.equal t (.slice a l c) (.slice none 0 0)).run P w=.ok a.isNone w:=agP w 9999 t e a l c h
theorem ajX (w:World) (t e:TypeId) (a:Option Addr) (l c:Nat) (h:P.underlying t=some (.slice e)):(binOp .eql t (.slice a l c) (.slice none 0 0)).run P w=.ok (.bool a.isNone) w:=by
  simp only [binOp]
  simp [ad2 w t e a l c h]
theorem ajC (w:World) (t e:TypeId) (a:Option Addr) (l c:Nat) (h:P.underlying t=some (.slice e)):(binOp .neq t (.slice a l c) (.slice none 0 0)).run P w=.ok (.bool (!a.isNone)) w:=by
  simp only [binOp]
  simp [ad2 w t e a l c h]
theorem aol {v:Value} {x:AV} {b:Bool} (hv:RelV w F m v x) (h:aob x=some b):∃ a n c,v=.slice a n c∧a.isNone=b:=by
  unfold aob at h
  split at h <;> (try cases h) <;> cases hv <;> (try (rename_i hp; cases hp)) <;> exact ⟨_,_,_,rfl,rfl⟩
structure EOk (P:Program) (E:Nat→List Nat→Bool):Prop where
  eq:∀ (t:Nat) (as bs:List AV),E t (as.map aau)=true→∀ (w:World) (F:Froz) (m:Mu) (xs ys:Array Value) (c:Bool) (x y:Operand),RelL w F m xs.toList as→RelL w F m ys.toList bs→Qg as bs=some c→
    (∀ op,(eqGuard op t x y (.agg xs) (.agg ys)).run P w=.ok () w)∧(binOp .eql t (.agg xs) (.agg ys)).run P w=.ok (.bool c) w∧(binOp .neq t (.agg xs) (.agg ys)).run P w=.ok (.bool (!c)) w
theorem aa7 {op:BinOp} {t:Nat} {x y:Operand} {a b:Value} (h:¬ (a=.nilIface∧b=.nilIface)) (h2:a.oneCell'=true):(eqGuard op t x y a b).run P w=.ok () w:=by
  unfold eqGuard
  cases op <;> simp <;> cases a <;> simp_all [Value.oneCell'] <;> cases b <;> simp_all
theorem aqb {E:Nat→List Nat→Bool} {t:Nat} {op:BinOp} {xv yv:Value} {x y z:AV} {ox oy:Operand} (hT:TOk P T) (hE:EOk P E) (hx:RelV w F m xv x) (hy:RelV w F m yv y)
    (h:aBin ((T t).map (·.desc)) (E t) op x y=some z):
    ∃ v,(do eqGuard op t ox oy xv yv; binOp op t xv yv).run P w=.ok v w∧RelV w F m v z:=by
  unfold aBin at h
  split at h
  · -- numbers
    rename_i k a k' b
    cases hx with | pv hx=>
    cases hy with | pv hy=>
    cases hx; cases hy
    have hg:(eqGuard op t ox oy (.int k a) (.int k' b)).run P w=.ok () w:=aa7 (by simp) rfl
    simp only [Sem.run_bind,hg,Result.andThen_ok]
    split at h
    · exact ahE (.inl rfl) h
    · exact ahE (.inr rfl) h
    · split at h
      · rename_i hk; subst hk; exact anL h
      · cases h
  · rename_i k a k' b
    cases hx with | pv hx=>
    cases hy with | pv hy=>
    cases hx; cases hy
    have hg:(eqGuard op t ox oy (.float k a) (.float k' b)).run P w=.ok () w:=aa7 (by simp) rfl
    simp only [Sem.run_bind,hg,Result.andThen_ok]
    split at h
    · rename_i hk; subst hk; exact anT h
    · cases h
  · rename_i a b
    cases hx with | pv hx=>
    cases hy with | pv hy=>
    cases hx; cases hy
    have hg:(eqGuard op t ox oy (.string a) (.string b)).run P w=.ok () w:=aa7 (by simp) rfl
    simp only [Sem.run_bind,hg,Result.andThen_ok]
    exact anV h
  · rename_i a b
    cases hx with | pv hx=>
    cases hy with | pv hy=>
    cases hx; cases hy
    have hg:(eqGuard op t ox oy (.bool a) (.bool b)).run P w=.ok () w:=aa7 (by simp) rfl
    simp only [Sem.run_bind,hg,Result.andThen_ok]
    split at h
    rotate_left
    · cases h
    rename_i hd
    rw [Option.map_eq_some_iff] at hd
    obtain ⟨ti,ht,hd⟩:=hd
    have hu:P.underlying t=some .bool:=by
      obtain ⟨i,d,z,h1,h2,h3,_⟩:=hT.ok t ti ht
      rw [hd] at h3
      cases d <;> simp [tdOf] at h3
      exact h2
    obtain ⟨c,hc,hh⟩:=agj h
    injection hc with hc
    subst hc
    rcases hh with ⟨rfl,rfl⟩ | ⟨rfl,rfl⟩
    · exact ⟨_,run_eql_bool w t a b hu,.pv (.bool _)⟩
    · exact ⟨_,run_neq_bool w t a b hu,.pv (.bool _)⟩
  · rename_i as bs
    split at h
    rotate_left
    · cases h
    rename_i hEt
    obtain ⟨c,hc,hh⟩:=agj h
    cases hx with | agg vs _ hl hr=>
    cases hy with | agg us _ hl' hr'=>
    obtain ⟨g1,g2,g3⟩:=hE.eq t as bs hEt w F m vs.toArray us.toArray c ox oy ⟨hl,hr⟩ ⟨hl',hr'⟩ hc
    simp only [Sem.run_bind,g1,Result.andThen_ok]
    rcases hh with ⟨rfl,rfl⟩ | ⟨rfl,rfl⟩
    · exact ⟨_,g2,.pv (.bool _)⟩
    · exact ⟨_,g3,.pv (.bool _)⟩
  · split at h
    rotate_left
    · cases h
    rename_i el hd
    rw [Option.map_eq_some_iff] at hd
    obtain ⟨ti,ht,hd⟩:=hd
    have hu:P.underlying t=some (.pointer (P.pointee t)):=by
      obtain ⟨i,d,z,h1,h2,h3,_⟩:=hT.ok t ti ht
      rw [hd] at h3
      cases d <;> simp [tdOf] at h3
      rw [h2]; simp [Program.pointee,h2]
    obtain ⟨c,hc,hh⟩:=agj h
    obtain ⟨p,rfl,hp⟩:=aj7 hx hc
    subst hp
    cases hy with | pv hy=>
    cases hy
    have hg:(eqGuard op t ox oy (.pointer p) (.pointer none)).run P w=.ok () w:=aa7 (by simp) rfl
    simp only [Sem.run_bind,hg,Result.andThen_ok]
    rcases hh with ⟨rfl,rfl⟩ | ⟨rfl,rfl⟩
    · exact ⟨_,run_eql_pointer_nil w t p hu,.pv (.bool _)⟩
    · exact ⟨_,run_neq_pointer_nil w t p hu,.pv (.bool _)⟩
  · split at h
    rotate_left
    · cases h
    rename_i el hd
    rw [Option.map_eq_some_iff] at hd
    obtain ⟨ti,ht,hd⟩:=hd
    have hu:P.underlying t=some (.slice el):=hT.slice ht hd
    obtain ⟨c,hc,hh⟩:=agj h
    obtain ⟨a,n,k,rfl,hp⟩:=aol hx hc
    subst hp
    cases hy with | pv hy=>
    cases hy
    have hg:(eqGuard op t ox oy (.slice a n k) (.slice none 0 0)).run P w=.ok () w:=aa7 (by simp) rfl
    simp only [Sem.run_bind,hg,Result.andThen_ok]
    rcases hh with ⟨rfl,rfl⟩ | ⟨rfl,rfl⟩
    · exact ⟨_,ajX w t _ a n k hu,.pv (.bool _)⟩
    · exact ⟨_,ajC w t _ a n k hu,.pv (.bool _)⟩
  · cases h
theorem un_ok {op:UnOp} {xv:Value} {x y:AV} (hx:RelV w F m xv x) (h:aUn op x=some y):∃ v,(Op.unary op xv).run P w=.ok v w∧RelV w F m v y:=by
  unfold aUn at h
  split at h <;> (try cases h) <;> cases hx <;> rename_i hp <;> cases hp
  · exact ⟨_,by simp [Op.unary,Op.intArith],.pv (.int _ _)⟩
  · exact ⟨_,by simp [Op.unary,Op.intBits],.pv (.int _ _)⟩
  · exact ⟨_,by simp [Op.unary],.pv (.flt _ _)⟩
  · exact ⟨_,by simp [Op.unary],.pv (.bool _)⟩
theorem ap0 {xv yv:Value} {x y z:AV} (hx:RelV w F m xv x) (hy:RelV w F m yv y) (h:minA x y=some z):∃ v,(Builtin.min2 xv yv).run P w=.ok v w∧RelV w F m v z:=by
  unfold minA at h
  split at h
  rotate_left
  · cases h
  split at h
  rotate_left
  · cases h
  injection h with h
  subst h
  cases hx with | pv hx=>
  cases hy with | pv hy=>
  cases hx; cases hy
  exact ⟨_,by simp [Builtin.min2],.pv (.int _ _)⟩
theorem aqc {xv yv:Value} {x y z:AV} (hx:RelV w F m xv x) (hy:RelV w F m yv y) (h:maxA x y=some z):∃ v,(Builtin.max2 xv yv).run P w=.ok v w∧RelV w F m v z:=by
  unfold maxA at h
  split at h
  rotate_left
  · cases h
  split at h
  rotate_left
  · cases h
  injection h with h
  subst h
  cases hx with | pv hx=>
  cases hy with | pv hy=>
  cases hx; cases hy
  exact ⟨_,by simp [Builtin.max2],.pv (.int _ _)⟩
theorem ald {f:AV→AV→Option AV} {g:Value→Value→Sem Value} (hfg:∀ {xv yv x y z},RelV w F m xv x→RelV w F m yv y→f x y=some z→∃ v,(g xv yv).run P w=.ok v w∧RelV w F m v z):
    ∀ (vs:List Value) (as:List AV) (xv:Value) (x z:AV),RelV w F m xv x→RelL w F m vs as→alj f x as=some z→∃ v,(vs.foldlM g xv).run P w=.ok v w∧RelV w F m v z
  | [],[],xv,x,z,hx,_,h=>by
    simp only [alj,Option.some.injEq] at h
    subst h
    exact ⟨xv,by simp,hx⟩
  | [],_ :: _,_,_,_,_,hl,_=>by have:=hl.1; simp at this
  | _ :: _,[],_,_,_,_,hl,_=>by have:=hl.1; simp at this
  | v :: vs,a :: as,xv,x,z,hx,hl,h=>by
    obtain ⟨y,hy,h⟩:=Option.bind_eq_some_iff.1 h
    obtain ⟨u,hu,hr⟩:=hfg hx hl.head hy
    obtain ⟨v',hv',hr'⟩:=ald hfg vs as u y z hr hl.tail h
    exact ⟨v',by simp only [List.foldlM_cons,Sem.run_bind,hu,Result.andThen_ok,hv'],hr'⟩
theorem anv {t e:Nat} {ei:TI} {xv hv mv:Value} {x y ahi amx:AV} {lo:Option Value} {alo:Option AV} (hT:TOk P T) (hu:P.underlying t=some (.slice e)) (he:T e=some ei)
    (hx:RelV w F m xv x) (hlo:RelO w F m lo alo) (hhi:RelV w F m hv ahi) (hmx:RelV w F m mv amx) (h:aih x alo (some ahi) (some amx)=some y):
    ∃ v,(Instr.sliceAt t xv lo (some hv) (some mv)).run P w=.ok v w∧RelV w F m v y:=by
  unfold aih at h
  split at h
  · cases h
  rename_i n hn
  split at h
  rotate_left
  · cases h
  rename_i l hh k e1 e2 h1 h2 h3
  split at h
  rotate_left
  · cases h
  rename_i hc
  obtain ⟨hlh,hhk,hkn⟩:=hc
  have run:∀ A c,n≤c→∃ v,(Instr.sliceAt t (.slice A n c) lo (some hv) (some mv)).run P w=.ok v w∧RelV w F m v .any:=fun A c hc=>by
    have hb:=agZ (P:=P) (c:=c) hlo hhi hmx h1 h2 h3 hlh hhk (by omega)
    exact ⟨_,by simp only [Instr.sliceAt,Sem.run_bind,run_underlying hu,Result.andThen_ok,Instr.slice,hb,run_sizeOf hT he,Sem.run_pure]; rfl,.any⟩
  split at h
  · injection h with h
    subst h
    simp only [lenA,Option.some.injEq] at hn
    subst hn
    cases hx with | pv hp=>
    cases hp with
    | sl0 a c=>exact run _ _ (Nat.zero_le _)
    | sl g o esz c _ us hl hs q1 q2 q3=>exact run _ _ hl
  · injection h with h
    subst h
    simp only [lenA,Option.some.injEq] at hn
    subst hn
    cases hx with | pv hp=>
    cases hp
    exact run none 0 (Nat.le_refl _)
  · injection h with h
    subst h
    simp only [lenA,Option.some.injEq] at hn
    subst hn
    cases hx with
    | ref0 hm hn hc=>exact run _ _ (by omega)
    | ref hm hn hc hpos ho=>exact run _ _ (by omega)
    | refE ho=>exact run _ _ (by omega)
  · cases h
end Go.Ab
