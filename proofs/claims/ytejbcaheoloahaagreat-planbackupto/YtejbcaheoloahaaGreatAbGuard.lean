import Derived.Test.YtejbcaheoloahaaGreatAbCall2
import Derived.Test.YtejbcaheoloahaaGreatAbOps4
import Derived.Recover
set_option linter.unusedVariables false
set_option linter.unusedSimpArgs false
namespace Go.Ab
open Go
variable {P:Program} {T:Nat→Option TI} {w w':World} {F:Froz} {Pr:Nat→Prop} {m m':Mu} {look:Look} {nid:Nat}
def aky (te tf fc:Nat) (k:IntKind) (p1 p2 p3 p4:String):Code:=
  .seq (.region 0 #[⟨some 2,.alloc te,0,p1,#[],none⟩] false)
  (.seq (.region 1 #[⟨some 3,.makeFunc (.func fc) #[] #[.tmp 2],tf,p2,#[],none⟩,⟨none,.defer ⟨.value (.tmp 3),#[],#[]⟩,0,p2,#[⟨0,.data⟩],none⟩] false)
  (.seq (.region 2 #[⟨some 4,.move (.tmp 0),tf,p3,#[],none⟩,⟨some 5,.call ⟨.value (.tmp 4),#[],#[]⟩,0,p3,#[⟨0,.data⟩],none⟩] false)
  (.seq (.region 3 #[⟨none,.store te (.tmp 2) (.const (.int k 0)),0,p4,#[],none⟩] false) .ret)))
def aeW (te ta tb tt:Nat) (k:IntKind) (bad:Int) (p1 p2 p3 p4:String) (e1 e2 e3 e4 e5 e6 e7 e8 e9 e10:Array Edge):Code:=
  .seq (.region 0 #[⟨some 4,.call ⟨.builtin .recover,#[],#[]⟩,ta,p1,#[],none⟩,⟨some 1,.assign (.tmp 4),ta,p1,e1,none⟩] false)
  (.seq (.region 1 #[⟨some 5,.move (.tmp 1),ta,p1,#[],none⟩,⟨some 6,.binOp .neq ta (.tmp 5) (.const .nilIface) ta,tb,p1,e2,none⟩] false)
  (.cond (.tmp 6)
    (.seq (.region 2 #[⟨none,.store te (.tmp 0) (.const (.int k bad)),0,p2,#[],none⟩] false)
    (.seq (.region 3 #[⟨some 8,.move (.tmp 1),ta,p3,#[],none⟩,⟨some 9,.typeAssert (.tmp 8) ta te true,tt,p3,e3,none⟩,⟨some 7,.move (.tmp 9),tt,p3,e4,none⟩,
        ⟨some 10,.extract (.tmp 7) 0,te,p3,e5,none⟩,⟨some 11,.extract (.tmp 7) 1,tb,p3,e6,none⟩,⟨some 2,.assign (.tmp 10),te,p3,e7,none⟩,⟨some 3,.assign (.tmp 11),tb,p3,e8,none⟩] false)
    (.seq (.region 4 #[⟨some 12,.move (.tmp 3),tb,p3,#[],none⟩] false)
    (.cond (.tmp 12) (.region 5 #[⟨some 13,.move (.tmp 2),te,p4,e9,none⟩,⟨none,.store te (.tmp 0) (.tmp 13),0,p4,e10,none⟩] false) .skip))))
    .skip))
theorem afg {Q:Exit→Act→World→Prop} {a:Act} {ops:Array Oper} {i:Nat} {rest:List Nat} {o:Oper} (ho:ops[i]?=some o) (hg:o.guard=none) (h:o.wp P a w (wpOps P ops Q rest) Q):wpOps P ops Q (i :: rest) a w:=by
  unfold wpOps
  rw [ho]
  simp only
  have hw:Region.wanted o (yielded ops a.tmps)=true:=by unfold Region.wanted; rw [hg]
  rw [hw]
  exact .inl h
theorem amT {Q:Exit→Act→World→Prop} {K:Act→World→Prop} {a:Act} {o:Oper} {v:Value} (h:(execOp a.eval o).run P w=.ok (.value v) w') (hk:K (a.put o.dst v) w'):o.wp P a w K Q:=by
  unfold Oper.wp; rw [h]; exact hk
theorem ao5 {Q:Exit→Act→World→Prop} {K:Act→World→Prop} {a:Act} {o:Oper} (h:(execOp a.eval o).run P w=.ok .skip w') (hk:K (a.put o.dst undef) w'):o.wp P a w K Q:=by
  unfold Oper.wp; rw [h]; exact hk
theorem aoJ {Q:Exit→Act→World→Prop} {K:Act→World→Prop} {a:Act} {o:Oper} {d:Deferred} (h:(execOp a.eval o).run P w=.ok (.defer d) w') (hk:K ({ a with defers:=d :: a.defers }.put o.dst undef) w'):o.wp P a w K Q:=by
  unfold Oper.wp; rw [h]; exact hk
theorem agv {Q:Exit→Act→List Frame→World→Prop} {a:Act} {cs:List Frame} {ops:Array Oper} {i:Nat} {rest:List Nat} {o:Oper} {v:Value} (ho:ops[i]?=some o) (hg:o.guard=none) (h:(execOp a.eval o).run P w=.ok (.value v) w')
    (hk:wpOpsS P ops Q rest (a.put o.dst v) cs w'):wpOpsS P ops Q (i :: rest) a cs w:=by
  unfold wpOpsS
  rw [ho]
  simp only
  have hw:Region.wanted o (yielded ops a.tmps)=true:=by unfold Region.wanted; rw [hg]
  rw [hw,h]
  exact hk
theorem akp {Q:Exit→Act→List Frame→World→Prop} {a:Act} {cs:List Frame} {ops:Array Oper} {i:Nat} {rest:List Nat} {o:Oper} (ho:ops[i]?=some o) (hg:o.guard=none) (h:(execOp a.eval o).run P w=.ok .skip w')
    (hk:wpOpsS P ops Q rest (a.put o.dst undef) cs w'):wpOpsS P ops Q (i :: rest) a cs w:=by
  unfold wpOpsS
  rw [ho]
  simp only
  have hw:Region.wanted o (yielded ops a.tmps)=true:=by unfold Region.wanted; rw [hg]
  rw [hw,h]
  exact hk
theorem alV {Q:Exit→Act→List Frame→World→Prop} {a:Act} {cs:List Frame} {ops:Array Oper} {i:Nat} {rest:List Nat} {o:Oper} (ho:ops[i]?=some o) (hg:o.guard=none) (h:(execOp a.eval o).run P w=.ok .recover w')
    (hk:match recoverD cs with
      | some (v,cs')=>wpOpsS P ops Q rest (a.put o.dst v) cs' w'
      | none=>wpOpsS P ops Q rest (a.put o.dst .nilIface) cs w'):wpOpsS P ops Q (i :: rest) a cs w:=by
  unfold wpOpsS
  rw [ho]
  simp only
  have hw:Region.wanted o (yielded ops a.tmps)=true:=by unfold Region.wanted; rw [hg]
  rw [hw,h]
  exact hk
theorem aaW {Q:Exit→Act→List Frame→World→Prop} {a:Act} {cs:List Frame} {ops:Array Oper} {i:Nat} {rest:List Nat} {o:Oper} (v:Value) (a':Act) (ho:ops[i]?=some o) (hg:o.guard=none) (h:(execOp a.eval o).run P w=.ok (.value v) w) (hp:a.put o.dst v=a')
    (hk:wpOpsS P ops Q rest a' cs w):wpOpsS P ops Q (i :: rest) a cs w:=agv ho hg h (hp ▸ hk)
structure amO (P:Program) (T:Nat→Option TI) (te ta:Nat) (k:IntKind):Prop where
  b:∃ b z,T te=some ⟨.int k,1,b,false,z⟩
  u:∃ d,P.underlying te=some d∧∀ i,d≠.interface i
  a:∃ i,P.underlying ta=some (.interface i)
theorem al8 {ta:Nat} (h:∃ i,P.underlying ta=some (.interface i)) (v:Value) (hv:v=.nilIface∨∃ t u,v=.iface t u):
    (Op.equal ta v .nilIface).run P w=.ok (match v with | .nilIface=>true | _=>false) w:=by
  obtain ⟨i,hi⟩:=h
  unfold Op.equal
  obtain ⟨d,hd⟩:∃ d,Op.maxDepth=d+1:=⟨_,rfl⟩
  rw [hd]
  rcases hv with rfl | ⟨t,u,rfl⟩
  · unfold Op.equalIn; simp [underlying,hi]
  · unfold Op.equalIn; simp [underlying,hi]
theorem ahP {ta:Nat} (h:∃ i,P.underlying ta=some (.interface i)) (v:Value) (hv:v=.nilIface∨∃ t u,v=.iface t u) (o1:Operand) (te:Nat):
    (do eqGuard .neq ta o1 (.const .nilIface) v .nilIface; binOp .neq ta v .nilIface:Sem Value).run P w=.ok (.bool (match v with | .nilIface=>false | _=>true)) w:=by
  have he:=al8 (w:=w) h v hv
  have hg:(eqGuard .neq ta o1 (.const .nilIface) v .nilIface).run P w=.ok () w:=by
    unfold eqGuard
    rcases hv with rfl | ⟨t,u,rfl⟩ <;> simp
  simp only [Sem.run_bind,hg,Result.andThen_ok]
  rcases hv with rfl | ⟨t,u,rfl⟩
  · simp only [binOp,Sem.run_bind,he,Result.andThen_ok]; rfl
  · simp only [binOp,Sem.run_bind,he,Result.andThen_ok]; rfl
theorem amM {te ta:Nat} {n:Int} {k:IntKind} (h:∃ d,P.underlying te=some d∧∀ i,d≠.interface i):(Instr.typeAssert (.iface te (.int k n)) ta te true).run P w=.ok (.tuple #[.int k n,.bool true]) w:=by
  obtain ⟨d,hd,hi⟩:=h
  unfold Instr.typeAssert
  simp only [underlying,Sem.run_bind,run_program,Result.andThen_ok,hd]
  cases d <;> first | exact absurd rfl (hi _) | simp
theorem afW {te g e:Nat} {b:Nat} {z:List PV} {k:IntKind} {n:Int} {x:Value} (hT:TOk P T) (ht:T te=some ⟨.int k,1,b,false,z⟩) (hg:w.heap[g]?=some (.cells #[x] e (0,0))):
    (Instr.storeAt te (.pointer (some ⟨g,0,none⟩)) (.int k n)).run P w=.ok () (w.setRow g #[.int k n]):=by
  have:=aew (o:=0) (v:=.int k n) hT ht hg rfl (by simp [Value.cells]) (by intro u hu; simp [Value.cells] at hu; subst hu; rfl)
  simpa [Value.cells] using this
theorem anF {te g e:Nat} {b:Nat} {z:List PV} {k:IntKind} {n:Int} (hT:TOk P T) (ht:T te=some ⟨.int k,1,b,false,z⟩) (hg:w.heap[g]?=some (.cells #[.int k n] e (0,0))):
    (loadVar te ⟨g,0,none⟩).run P w=.ok (.int k n) w:=by
  have:=Qp (w:=w) hT ht g 0 [.int k n] rfl (fun j hj=>by
    simp at hj; subst hj
    simp [World.cell?,hg])
  simpa using this
section ex
variable {a:Act} {o:Oper} {v vx vy:Value} {x y:Operand} {t r:Nat}
theorem ex_v {s:Sem Value} (he:execOp a.eval o=(do pure (Next.value (← s)):Sem Next)) (h:s.run P w=.ok v w'):(execOp a.eval o).run P w=.ok (.value v) w':=by
  rw [he,Sem.run_bind,h]; rfl
theorem ex_u {s:Sem Unit} (he:execOp a.eval o=(do s; pure .skip:Sem Next)) (h:s.run P w=.ok () w'):(execOp a.eval o).run P w=.ok .skip w':=by
  rw [he,Sem.run_bind,h]; rfl
theorem aoR {op:BinOp} (ho:o.op=.binOp op t x y r) (hx:a.eval x=vx) (hy:a.eval y=vy) (h:(do eqGuard op t x y vx vy; binOp op t vx vy:Sem Value).run P w=.ok v w'):(execOp a.eval o).run P w=.ok (.value v) w':=by
  refine ex_v ?_ h
  unfold execOp; rw [ho]; simp only [hx,hy]
theorem aiK (ho:o.op=.store t x y) (hx:a.eval x=vx) (hy:a.eval y=vy) (h:(Instr.storeAt t vx vy).run P w=.ok () w'):(execOp a.eval o).run P w=.ok .skip w':=by
  refine ex_u ?_ h
  unfold execOp; rw [ho]; simp only [hx,hy]
theorem anu {q:Nat} {c:Bool} (ho:o.op=.typeAssert x t q c) (hx:a.eval x=vx) (h:(Instr.typeAssert vx t q c).run P w=.ok v w'):(execOp a.eval o).run P w=.ok (.value v) w':=by
  refine ex_v ?_ h
  unfold execOp; rw [ho]; simp only [hx]
end ex
theorem anA {te ta tb tt fc:Nat} {k:IntKind} {bad:Int} {p1 p2 p3 p4:String} {e1 e2 e3 e4 e5 e6 e7 e8 e9 e10:Array Edge} {fn':Func} {A:Value} (hG:amO P T te ta k)
    (hf:P.funcs[fc]?=some fn') (hb:fn'.body=some (aeW te ta tb tt k bad p1 p2 p3 p4 e1 e2 e3 e4 e5 e6 e7 e8 e9 e10)) (hn:fn'.ntmps=14) (hr:fn'.results=#[]):
    CallsD P fc #[A] .returning w fun e u w'=>(∃ v,e=.returned v)∧u=.returning∧w'=w:=by
  refine callsD_of_wpS hf hb fun c₀ cs hu=>?_
  rw [show ({ tmps:=#[A]++Array.replicate (fn'.ntmps - #[A].size) undef,defers:=[] }:Act)=⟨#[A,undef,undef,undef,undef,undef,undef,undef,undef,undef,undef,undef,undef,undef],[]⟩ by rw [hn]; rfl]
  unfold aeW
  refine wpS_seq (wpS_region ?_)
  show wpOpsS P _ _ [0,1] _ _ _
  refine alV (w':=w) rfl rfl rfl ?_
  have hrec:recoverD (c₀ :: cs)=none:=by simp [recoverD,hu]
  rw [hrec]
  refine agv (w':=w) (v:=.nilIface) rfl rfl rfl ?_
  refine wpS_seq (wpS_region ?_)
  show wpOpsS P _ _ [0,1] _ _ _
  refine agv (w':=w) (v:=.nilIface) rfl rfl rfl ?_
  refine agv (w':=w) (v:=.bool false) rfl rfl (aoR rfl rfl rfl (ahP (w:=w) hG.a .nilIface (.inl rfl) (.tmp 5) te)) ?_
  refine wpS_cond (t:=false) rfl ?_
  refine wpS_of_wp (wp_skip ?_)
  refine ⟨rfl,.returning,by rw [← hu],.tuple #[],?_,⟨_,rfl⟩,rfl,rfl⟩
  unfold results
  simp [hr]
theorem alp {te ta tb tt fc:Nat} {k:IntKind} {bad:Int} {p1 p2 p3 p4:String} {e1 e2 e3 e4 e5 e6 e7 e8 e9 e10:Array Edge} {fn':Func} {g e:Nat} {x:Value} {n:Int} (hT:TOk P T) (hG:amO P T te ta k)
    (hf:P.funcs[fc]?=some fn') (hb:fn'.body=some (aeW te ta tb tt k bad p1 p2 p3 p4 e1 e2 e3 e4 e5 e6 e7 e8 e9 e10)) (hn:fn'.ntmps=14) (hr:fn'.results=#[]) (hg:w.heap[g]?=some (.cells #[x] e (0,0))):
    CallsD P fc #[.pointer (some ⟨g,0,none⟩)] (.panicking [{ v:=.iface te (.int k n),recovered:=false }]) w fun e' u w'=>(∃ v,e'=.returned v)∧u=.panicking [{ v:=.iface te (.int k n),recovered:=true }]∧w'=(w.setRow g #[.int k bad]).setRow g #[.int k n]:=by
  obtain ⟨b,z,hte⟩:=hG.b
  refine callsD_of_wpS hf hb fun c₀ cs hu=>?_
  rw [show ({ tmps:=#[Value.pointer (some ⟨g,0,none⟩)]++Array.replicate (fn'.ntmps - #[Value.pointer (some ⟨g,0,none⟩)].size) undef,defers:=[] }:Act)=⟨#[.pointer (some ⟨g,0,none⟩),undef,undef,undef,undef,undef,undef,undef,undef,undef,undef,undef,undef,undef],[]⟩ by rw [hn]; rfl]
  unfold aeW
  refine wpS_seq (wpS_region ?_)
  show wpOpsS P _ _ [0,1] _ _ _
  refine alV (w':=w) rfl rfl rfl ?_
  have hrec:recoverD (c₀ :: cs)=some (.iface te (.int k n),{ c₀ with mode:=.panicking [{ v:=.iface te (.int k n),recovered:=true }] } :: cs):=by simp [recoverD,hu]
  rw [hrec]
  refine (show wpOpsS P _ _ [1] ⟨#[.pointer (some ⟨g,0,none⟩),undef,undef,undef,.iface te (.int k n),undef,undef,undef,undef,undef,undef,undef,undef,undef],[]⟩ _ _ from ?_:_)
  refine aaW (.iface te (.int k n)) ⟨#[.pointer (some ⟨g,0,none⟩),.iface te (.int k n),undef,undef,.iface te (.int k n),undef,undef,undef,undef,undef,undef,undef,undef,undef],[]⟩ rfl rfl rfl rfl ?_
  refine wpS_seq (wpS_region ?_)
  show wpOpsS P _ _ [0,1] _ _ _
  refine aaW (.iface te (.int k n)) ⟨#[.pointer (some ⟨g,0,none⟩),.iface te (.int k n),undef,undef,.iface te (.int k n),.iface te (.int k n),undef,undef,undef,undef,undef,undef,undef,undef],[]⟩ rfl rfl rfl rfl ?_
  refine aaW (.bool true) ⟨#[.pointer (some ⟨g,0,none⟩),.iface te (.int k n),undef,undef,.iface te (.int k n),.iface te (.int k n),.bool true,undef,undef,undef,undef,undef,undef,undef],[]⟩ rfl rfl (aoR rfl rfl rfl (ahP (w:=w) hG.a _ (.inr ⟨_,_,rfl⟩) (.tmp 5) te)) rfl ?_
  refine wpS_cond (t:=true) rfl ?_
  refine wpS_seq (wpS_region ?_)
  show wpOpsS P _ _ [0] _ _ _
  have h1:=setRow_heap w g _ #[.int k bad] _ _ hg
  refine akp rfl rfl (aiK rfl rfl rfl (afW (n:=bad) hT hte hg)) ?_
  refine wpS_seq (wpS_region ?_)
  show wpOpsS P _ _ [0,1,2,3,4,5,6] _ _ _
  refine aaW (.iface te (.int k n)) ⟨#[.pointer (some ⟨g,0,none⟩),.iface te (.int k n),undef,undef,.iface te (.int k n),.iface te (.int k n),.bool true,undef,.iface te (.int k n),undef,undef,undef,undef,undef],[]⟩ rfl rfl rfl rfl ?_
  refine aaW (.tuple #[.int k n,.bool true]) ⟨#[.pointer (some ⟨g,0,none⟩),.iface te (.int k n),undef,undef,.iface te (.int k n),.iface te (.int k n),.bool true,undef,.iface te (.int k n),.tuple #[.int k n,.bool true],undef,undef,undef,undef],[]⟩ rfl rfl (anu rfl rfl (amM hG.u)) rfl ?_
  refine aaW (.tuple #[.int k n,.bool true]) ⟨#[.pointer (some ⟨g,0,none⟩),.iface te (.int k n),undef,undef,.iface te (.int k n),.iface te (.int k n),.bool true,.tuple #[.int k n,.bool true],.iface te (.int k n),.tuple #[.int k n,.bool true],undef,undef,undef,undef],[]⟩ rfl rfl rfl rfl ?_
  refine aaW (.int k n) ⟨#[.pointer (some ⟨g,0,none⟩),.iface te (.int k n),undef,undef,.iface te (.int k n),.iface te (.int k n),.bool true,.tuple #[.int k n,.bool true],.iface te (.int k n),.tuple #[.int k n,.bool true],.int k n,undef,undef,undef],[]⟩ rfl rfl rfl rfl ?_
  refine aaW (.bool true) ⟨#[.pointer (some ⟨g,0,none⟩),.iface te (.int k n),undef,undef,.iface te (.int k n),.iface te (.int k n),.bool true,.tuple #[.int k n,.bool true],.iface te (.int k n),.tuple #[.int k n,.bool true],.int k n,.bool true,undef,undef],[]⟩ rfl rfl rfl rfl ?_
  refine aaW (.int k n) ⟨#[.pointer (some ⟨g,0,none⟩),.iface te (.int k n),.int k n,undef,.iface te (.int k n),.iface te (.int k n),.bool true,.tuple #[.int k n,.bool true],.iface te (.int k n),.tuple #[.int k n,.bool true],.int k n,.bool true,undef,undef],[]⟩ rfl rfl rfl rfl ?_
  refine aaW (.bool true) ⟨#[.pointer (some ⟨g,0,none⟩),.iface te (.int k n),.int k n,.bool true,.iface te (.int k n),.iface te (.int k n),.bool true,.tuple #[.int k n,.bool true],.iface te (.int k n),.tuple #[.int k n,.bool true],.int k n,.bool true,undef,undef],[]⟩ rfl rfl rfl rfl ?_
  refine wpS_seq (wpS_region ?_)
  show wpOpsS P _ _ [0] _ _ _
  refine aaW (.bool true) ⟨#[.pointer (some ⟨g,0,none⟩),.iface te (.int k n),.int k n,.bool true,.iface te (.int k n),.iface te (.int k n),.bool true,.tuple #[.int k n,.bool true],.iface te (.int k n),.tuple #[.int k n,.bool true],.int k n,.bool true,.bool true,undef],[]⟩ rfl rfl rfl rfl ?_
  refine wpS_cond (t:=true) rfl ?_
  refine wpS_region ?_
  show wpOpsS P _ _ [0,1] _ _ _
  refine aaW (.int k n) ⟨#[.pointer (some ⟨g,0,none⟩),.iface te (.int k n),.int k n,.bool true,.iface te (.int k n),.iface te (.int k n),.bool true,.tuple #[.int k n,.bool true],.iface te (.int k n),.tuple #[.int k n,.bool true],.int k n,.bool true,.bool true,.int k n],[]⟩ rfl rfl rfl rfl ?_
  refine akp rfl rfl (aiK rfl rfl rfl (afW (n:=n) hT hte h1)) ?_
  refine ⟨rfl,_,rfl,.tuple #[],?_,⟨_,rfl⟩,rfl,rfl⟩
  unfold results
  simp [hr]
theorem ams {te:Nat} {k:IntKind} {v r:AV} (h:ajd te k (.pan v)=some r):∃ n,v=.pv (.ifc te (.int k n))∧r=.pv (.int k n):=by
  unfold ajd at h
  split at h
  · rename_i heq; cases heq
  · rename_i t k' n heq
    cases heq
    split at h
    · rename_i hq
      obtain ⟨rfl,rfl⟩:=hq
      injection h with h
      exact ⟨n,rfl,h.symm⟩
    · cases h
  · cases h
def af9 (P:Program) (T:Nat→Option TI) (f te:Nat) (k:IntKind):Prop:=
  ∃ (fn fn':Func) (fc ta tb tt tf:Nat) (bad:Int) (p1 p2 p3 p4 q1 q2 q3 q4:String) (e1 e2 e3 e4 e5 e6 e7 e8 e9 e10:Array Edge),
    amO P T te ta k∧P.funcs[f]?=some fn∧fn.body=some (aky te tf fc k p1 p2 p3 p4)∧fn.ntmps=6∧fn.results=#[.cell 2 te]∧
    P.funcs[fc]?=some fn'∧fn'.body=some (aeW te ta tb tt k bad q1 q2 q3 q4 e1 e2 e3 e4 e5 e6 e7 e8 e9 e10)∧fn'.ntmps=14∧fn'.results=#[]∧fn'.name≠"runtime.NumGoroutine"
theorem anz {fv:AV} {dv:Value} {g:Nat} {as:List AV} (hfv:RelV w F m dv fv) (h:callee fv []=some (g,as)):
    ∃ first caps:Array Value,dv=.func (.func g) first caps∧RelL w F m (first.toList++caps.toList) as:=by
  unfold callee at h
  split at h
  · rename_i f' x y
    injection h with h
    injection h with e1 e2
    subst e1; subst e2
    cases hfv with | pv hp=>
    cases hp with
    | fn _ _ _ va vb ha hb q1 q2=>
    refine ⟨_,_,rfl,?_⟩
    rw [List.append_nil]
    exact (RelL.aaO (by simpa using ha) (by simpa using q1)).append (RelL.aaO (by simpa using hb) (by simpa using q2))
  · rename_i f' x y
    injection h with h
    injection h with e1 e2
    subst e1; subst e2
    cases hfv with
    | fn _ _ _ va vb ha hb q1 q2=>
    refine ⟨_,_,rfl,?_⟩
    rw [List.append_nil]
    exact RelL.append ⟨by simpa using ha,by simpa using q1⟩ ⟨by simpa using hb,by simpa using q2⟩
  · cases h
theorem ab1.more {Pr':Nat→Prop} {id:Nat} {b:Blk} (h:ab1 w F Pr m id b) (hn:∀ γ k g c,m id γ k=some (g,c)→¬ Pr' g):ab1 w F Pr' m id b:=by
  cases b with
  | dead=>exact h
  | box cells z=>
    obtain ⟨g,c,vs,e,h1,h2,h3,h4,h5,h6,h7⟩:=h
    exact ⟨g,c,vs,e,h1,h2,h3,h4,hn _ _ _ _ h1,h6,h7⟩
  | row e esz r=>
    obtain ⟨h1,h2,h3⟩:=h
    exact ⟨h1,h2,fun γ h g c hx=>⟨hn _ _ _ _ hx,(h3 γ h g c hx).2⟩⟩
  | map _ _ ents=>
    obtain ⟨g,c,es,clock,h1,h2,h3,h4,h5⟩:=h
    exact ⟨g,c,es,clock,h1,h2,h3,h4,hn _ _ _ _ h1⟩
theorem Inv.aside {o:Obj} (hI:Inv w F Pr m look) (hh:w'.heap=w.heap.push o):Inv w' F (fun g=>Pr g∨g=w.heap.size) m look:=by
  have hcell:∀ g o,F g o→w'.cell? ⟨g,o,none⟩=w.cell? ⟨g,o,none⟩:=fun g o hF=>ZR (aab hh (hI.ltF hF))
  have hsz:w'.heap.size=w.heap.size+1:=by rw [hh]; simp
  refine ⟨fun id b hl=>?_,hI.apart,fun g o hF=>?_,fun g hg=>?_,fun id b γ h g c hl e=>?_⟩
  · refine ((hI.blk id b hl).keep hcell (qi.refl m) (fun _ _ _ h=>h) (fun γ h g c hx=>aab hh (hI.sz id b γ h g c hl hx))).more fun γ k g c hx hp=>?_
    rcases hp with hp | rfl
    · exact (hI.blk id b hl).notPr hx hp
    · have:=hI.sz id b γ k _ c hl hx; omega
  · obtain ⟨v,hv⟩:=hI.szF g o hF
    exact ⟨v,(hcell g o hF).trans hv⟩
  · rcases hg with hg | rfl
    · have:=hI.szP g hg; omega
    · omega
  · have:=hI.sz id b γ h g c hl e; omega
theorem Inv.asideW {Pr':Nat→Prop} {g0 e:Nat} {x y:Array Value} (hI:Inv w F Pr' m look) (hg:w.heap[g0]?=some (.cells x e (0,0))) (h0:Pr' g0) (hF0:∀ o,¬ F g0 o) (hsub:∀ g,Pr g→Pr' g):
    Inv (w.setRow g0 y) F Pr m look∧(∀ g o,F g o→(w.setRow g0 y).cell? ⟨g,o,none⟩=w.cell? ⟨g,o,none⟩):=by
  have hcell:∀ g o,F g o→(w.setRow g0 y).cell? ⟨g,o,none⟩=w.cell? ⟨g,o,none⟩:=fun g o hf=>ZR (setRow_other w g0 g _ (fun e=>hF0 o (e ▸ hf)))
  refine ⟨⟨fun id b hl=>?_,hI.apart,fun g o hF=>?_,fun g hg=>?_,fun id b γ h g c hl e=>?_⟩,hcell⟩
  · have hnp:∀ γ k g c,m id γ k=some (g,c)→¬ Pr' g:=fun γ k g c hx=>(hI.blk id b hl).notPr hx
    exact ((hI.blk id b hl).keep hcell (qi.refl m) (fun _ _ _ h=>h) (fun γ h g c hx=>setRow_other w g0 g _ (fun e=>hnp _ _ _ _ hx (e ▸ h0)))).more fun γ k g c hx hp=>hnp _ _ _ _ hx (hsub g hp)
  · obtain ⟨v,hv⟩:=hI.szF g o hF
    exact ⟨v,(hcell g o hF).trans hv⟩
  · have:=hI.szP g (hsub g hg); simpa using this
  · have:=hI.sz id b γ h g c hl e; simpa using this
theorem an6 {C:ZH} {f te:Nat} {k:IntKind} (hT:TOk P T) (hC:acM P C) (hGd:af9 P T f te k) {args:List AV} {H H':List Blk} {o:Out} (h:akE te k P C args H=some (o,H'))
    {vs:List Value} (hI:Inv w F Pr m (zp H)) (hm:∀ i,H.length≤i→∀ γ h,m i γ h=none) (hr:RelL w F m vs args):
    Calls P f vs.toArray w fun e w'=>∃ F' m',Ext w F Pr w' F'∧(∀ i,i < H.length→∀ γ h x,m i γ h=some x→m' i γ h=some x)∧
      Inv w' F' Pr m' (zp H')∧(∀ i,H'.length≤i→∀ γ h,m' i γ h=none)∧H.length≤H'.length∧amo w' F' m' o e:=by
  obtain ⟨fn,fn',fc,ta,tb,tt,tf,bad,p1,p2,p3,p4,q1,q2,q3,q4,e1,e2,e3,e4,e5,e6,e7,e8,e9,e10,hG,hf,hb,hn,hres,hf',hb',hn',hres',hname'⟩:=hGd
  obtain ⟨b,z,hte⟩:=hG.b
  unfold akE at h
  split at h
  rotate_left
  · cases h
  rename_i fv
  split at h
  rotate_left
  · cases h
  rename_i g as hcal
  split at h
  rotate_left
  · cases h
  rename_i fg hfg
  split at h
  · cases h
  rename_i hng
  split at h
  · cases h
  rename_i hnb
  match vs,hr with
  | [],hr=>have:=hr.1; simp at this
  | _ :: _ :: _,hr=>have:=hr.1; simp at this
  | [dv],hr=>
  obtain ⟨first,caps,rfl,hrel⟩:=anz hr.head hcal
  obtain ⟨zv,hz,hz1,_,hz3⟩:=adb (P:=P) hT hte w F
  have hz1':zv.cells.toList.length=1:=by simpa using hz1
  obtain ⟨x0,hx0⟩:∃ x0,zv.cells=#[x0]:=by
    match hq:zv.cells.toList,hz1' with
    | [x0],_=>exact ⟨x0,by apply Array.ext'; rw [hq]⟩
  let w1:=w.alloc (.cells #[x0] te)
  let g0:=w.heap.size
  let A:Value:=.pointer (some ⟨g0,0,none⟩)
  let D:Deferred:={ target:=.fn (.func fc) #[A],args:=#[] }
  have hh1:w1.heap=w.heap.push (.cells #[x0] te):=rfl
  have hal:(Instr.alloc te true (.tuple #[])).run P w=.ok A w1:=by
    simp [Instr.alloc,hz,newVar,newRow,hx0,A,w1,g0]
  have hI1:=hI.aside hh1
  have hrel1:RelL w1 F m (first.toList++caps.toList) as:=hrel.keep (fun g o hF=>ZR (aab hh1 (hI.ltF hF))) (fun _ _ h=>h) (qi.refl m)
  have hE1:Ext w F Pr w1 F:=Ext.push hI hh1 rfl rfl rfl
  have hg1:w1.heap[g0]?=some (.cells #[x0] te (0,0)):=aa1 hh1
  refine calls_of_wp_defers hf hb ?_
  rw [show ({ tmps:=[Value.func (.func g) first caps].toArray++Array.replicate (fn.ntmps - [Value.func (.func g) first caps].toArray.size) undef,defers:=[] }:Act)=⟨#[.func (.func g) first caps,undef,undef,undef,undef,undef],[]⟩ by rw [hn]; rfl]
  unfold aky
  refine wp_seq (wp_region ?_)
  show wpOps P _ _ [0] _ _
  refine afg rfl rfl (amT (w':=w1) (v:=A) (ex_v rfl hal) ?_)
  refine wp_seq (wp_region ?_)
  show wpOps P _ _ [0,1] ⟨#[.func (.func g) first caps,undef,A,undef,undef,undef],[]⟩ _
  refine afg rfl rfl (amT (w':=w1) (v:=.func (.func fc) #[] #[A]) (ex_v rfl (by simp [Instr.makeFunc]; rfl)) ?_)
  show wpOps P _ _ [1] ⟨#[.func (.func g) first caps,undef,A,.func (.func fc) #[] #[A],undef,undef],[]⟩ _
  have hdf:∀ (o:Oper) (hop:o.op=.defer ⟨.value (.tmp 3),#[],#[]⟩),(execOp (Act.eval ⟨#[.func (.func g) first caps,undef,A,.func (.func fc) #[] #[A],undef,undef],[]⟩) o).run P w1=.ok (.defer D) w1:=fun o hop=>by
    unfold execOp
    rw [hop]
    have hev:Act.eval ⟨#[.func (.func g) first caps,undef,A,.func (.func fc) #[] #[A],undef,undef],[]⟩ (.tmp 3)=.func (.func fc) #[] #[A]:=rfl
    simp only [resolve,hev,Deferred.ofValue,Sem.run_bind,Sem.run_pure,Result.andThen_ok]
    simp [D]
  refine afg rfl rfl (aoJ (w':=w1) (d:=D) (hdf _ rfl) ?_)
  refine wp_seq (wp_region ?_)
  show wpOps P _ _ [0,1] ⟨#[.func (.func g) first caps,undef,A,.func (.func fc) #[] #[A],undef,undef],[D]⟩ _
  refine afg rfl rfl (amT (w':=w1) (v:=.func (.func g) first caps) rfl ?_)
  show wpOps P _ _ [1] ⟨#[.func (.func g) first caps,undef,A,.func (.func fc) #[] #[A],.func (.func g) first caps,undef],[D]⟩ _
  refine afg rfl rfl ?_
  have hent:∀ (o:Oper) (hop:o.op=.call ⟨.value (.tmp 4),#[],#[]⟩),(execOp (Act.eval ⟨#[.func (.func g) first caps,undef,A,.func (.func fc) #[] #[A],.func (.func g) first caps,undef],[D]⟩) o).run P w1=.ok (.enter g (first.toList++caps.toList).toArray) w1:=fun o hop=>by
    unfold execOp
    rw [hop]
    have hev:Act.eval ⟨#[.func (.func g) first caps,undef,A,.func (.func fc) #[] #[A],.func (.func g) first caps,undef],[D]⟩ (.tmp 4)=.func (.func g) first caps:=rfl
    simp only [resolve,hev,Deferred.ofValue,Sem.run_bind,Sem.run_pure,Result.andThen_ok,invoke]
    rw [show (first++Array.map (Act.eval ⟨#[.func (.func g) first caps,undef,A,.func (.func fc) #[] #[A],.func (.func g) first caps,undef],[D]⟩) #[]++caps)=(first.toList++caps.toList).toArray by apply Array.ext'; simp]
    unfold callFunc
    simp only [Sem.run_bind,run_program,Result.andThen_ok,hfg]
    rw [if_neg hng,if_neg hnb]
    rfl
  unfold Oper.wp
  rw [hent _ rfl]
  -- the deferred call
  have hinv:∀ w:World,(invoke D.target D.args).run P w=.ok (.enter fc #[A]) w:=fun w=>by
    simp only [D,invoke]
    rw [show (#[]++#[A]:Array Value)=#[A] by simp]
    unfold callFunc
    simp only [Sem.run_bind,run_program,Result.andThen_ok,hf']
    rw [if_neg (by simpa using hname'),if_neg (by rw [hb']; simp)]
    rfl
  -- how it ends,in a world where the cell holds a number
  have hend:∀ (w2:World) (F2:Froz) (m2:Mu) (x:Value) (y:Int) (tm:Array Value),tm[2]?=some A→Ext w1 F (fun g=>Pr g∨g=w.heap.size) w2 F2→(∀ i,i < H.length→∀ γ h x,m i γ h=some x→m2 i γ h=some x)→Inv w2 F2 (fun g=>Pr g∨g=w.heap.size) m2 (zp H')→
      (∀ i,H'.length≤i→∀ γ h,m2 i γ h=none)→H.length≤H'.length→∀ w3:World,(w3=w2.setRow g0 #[.int k y]∨∃ y',w3=(w2.setRow g0 #[.int k y']).setRow g0 #[.int k y])→
      (∃ v,(results fn tm).run P w3=.ok v w3∧(v=.int k y))∧∃ F' m',Ext w F Pr w3 F'∧(∀ i,i < H.length→∀ γ h x,m i γ h=some x→m' i γ h=some x)∧
        Inv w3 F' Pr m' (zp H')∧(∀ i,H'.length≤i→∀ γ h,m' i γ h=none)∧H.length≤H'.length:=fun w2 F2 m2 x y tm htm hx hk2 hI2 hm2 hle w3 hw3=>by
    have hg2:w2.heap[g0]?=some (.cells #[x0] te (0,0)):=(hx.pr g0 (.inr rfl)).trans hg1
    have hF0:∀ o,¬ F2 g0 o:=fun o hF=>by
      rcases hx.new g0 o hF with h | h
      · exact absurd (hI.ltF h) (Nat.lt_irrefl _)
      · exact h (.inr rfl)
    have hsz:∀ (y:Array Value) (w:World),(w.setRow g0 y).heap.size=w.heap.size:=fun y w=>by simp
    have main:∀ w3:World,w3.heap[g0]?=some (.cells #[.int k y] te (0,0))→(∀ g,g≠g0→w3.heap[g]?=w2.heap[g]?)→w3.heap.size=w2.heap.size→w3.os=w2.os→w3.tape=w2.tape→w3.output=w2.output→Inv w3 F2 Pr m2 (zp H')→(∀ g o,F2 g o→w3.cell? ⟨g,o,none⟩=w2.cell? ⟨g,o,none⟩)→
        (∃ v,(results fn tm).run P w3=.ok v w3∧(v=.int k y))∧∃ F' m',Ext w F Pr w3 F'∧(∀ i,i < H.length→∀ γ h x,m i γ h=some x→m' i γ h=some x)∧
          Inv w3 F' Pr m' (zp H')∧(∀ i,H'.length≤i→∀ γ h,m' i γ h=none)∧H.length≤H'.length:=fun w3 hc ho hs h1 h2 h3 hI3 hfz=>by
      refine ⟨⟨.int k y,?_,rfl⟩,F2,m2,?_,hk2,hI3,hm2,hle⟩
      · have hl:=anF (w:=w3) (n:=y) hT hte hc
        unfold results
        simp [hres,htm,A,asAddr,hl]
      · refine ⟨h1.trans (hx.os.trans hE1.os),h2.trans (hx.tape.trans hE1.tape),h3.trans (hx.output.trans hE1.output),?_,fun g o hF=>?_,fun g hg=>?_,fun g o hF=>hx.mono g o hF,fun g o hF=>?_⟩
        · have:=hx.size; have:=hE1.size; omega
        · exact (hfz g o (hx.mono g o hF)).trans ((hx.fz g o hF).trans (hE1.fz g o hF))
        · have hne:g≠g0:=fun e=>by subst e; exact absurd (hI.szP _ hg) (Nat.lt_irrefl _)
          exact (ho g hne).trans ((hx.pr g (.inl hg)).trans (hE1.pr g hg))
        · rcases hx.new g o hF with h | h
          · exact .inl h
          · exact .inr fun hp=>h (.inl hp)
    obtain ⟨i1,z1⟩:=hI2.asideW (Pr:=fun g=>Pr g∨g=w.heap.size) (y:=#[.int k y]) hg2 (.inr rfl) hF0 (fun _ h=>h)
    rcases hw3 with rfl | ⟨y',rfl⟩
    · obtain ⟨i1,z1⟩:=hI2.asideW (Pr:=Pr) (y:=#[.int k y]) hg2 (.inr rfl) hF0 (fun _ h=>.inl h)
      exact main _ (setRow_heap w2 g0 _ _ _ _ hg2) (fun g hne=>setRow_other w2 g0 g _ hne) (by simp) rfl rfl rfl i1 z1
    · obtain ⟨i1,z1⟩:=hI2.asideW (Pr:=fun g=>Pr g∨g=w.heap.size) (y:=#[.int k y']) hg2 (.inr rfl) hF0 (fun _ h=>h)
      have hg3:=setRow_heap w2 g0 _ #[.int k y'] _ _ hg2
      obtain ⟨i2,z2⟩:=i1.asideW (Pr:=Pr) (y:=#[.int k y]) hg3 (.inr rfl) hF0 (fun _ h=>.inl h)
      exact main _ (setRow_heap _ g0 _ _ _ _ hg3) (fun g hne=>(setRow_other _ g0 g _ hne).trans (setRow_other w2 g0 g _ hne)) (by simp) rfl rfl rfl i2 (fun g o hF=>(z2 g o hF).trans (z1 g o hF))
  cases hc:C g as H with
  | none=>rw [hc] at h; cases h
  | some ob=>
  obtain ⟨oc,Hc⟩:=ob
  rw [hc] at h
  refine (hC g as H oc Hc hc w1 F _ m _ hI1 hm hrel1).mono fun e w2 he=>?_
  obtain ⟨F2,m2,hx,hk2,hI2,hm2,hle,hout⟩:=he
  have hg2:w2.heap[g0]?=some (.cells #[x0] te (0,0)):=(hx.pr g0 (.inr rfl)).trans hg1
  cases oc with
  | ret v=>
    simp only [ajd,Option.map_some,Option.some.injEq,Prod.mk.injEq] at h
    obtain ⟨rfl,rfl⟩:=h
    obtain ⟨u,rfl,hu⟩:=hout
    show wpOps P _ _ [] ⟨#[.func (.func g) first caps,undef,A,.func (.func fc) #[] #[A],.func (.func g) first caps,u],[D]⟩ w2
    refine wp_seq (wp_region ?_)
    show wpOps P _ _ [0] _ _
    refine afg rfl rfl (ao5 (w':=w2.setRow g0 #[.int k 0]) (aiK rfl rfl rfl (afW (n:=0) hT hte hg2)) ?_)
    refine wp_ret ?_
    have hfin:=hend w2 F2 m2 x0 0 #[.func (.func g) first caps,undef,A,.func (.func fc) #[] #[A],.func (.func g) first caps,u] rfl hx hk2 hI2 hm2 hle _ (.inl rfl)
    refine leaves_cons (by simp) (hinv _) ((anA hG hf' hb' hn' hres').mono fun e' u' w' he'=>?_)
    obtain ⟨⟨v',rfl⟩,rfl,rfl⟩:=he'
    obtain ⟨⟨vv,r1,rfl⟩,F',m',x1,x2,x3,x4,x5⟩:=hfin
    exact ⟨_,r1,F',m',x1,x2,x3,x4,x5,_,rfl,.pv (.int k 0)⟩
  | pan v=>
      simp only [Option.map_eq_some_iff] at h
      obtain ⟨r,hr2,h⟩:=h
      obtain ⟨n,rfl,rfl⟩:=ams hr2
      simp only [Prod.mk.injEq] at h
      obtain ⟨rfl,rfl⟩:=h
      obtain ⟨u,rfl,hu⟩:=hout
      cases hu with | pv hu=>
      cases hu with | ifc _ v0 _ hv0=>
      cases hv0
      have hfin:=hend w2 F2 m2 x0 n #[.func (.func g) first caps,undef,A,.func (.func fc) #[] #[A],.func (.func g) first caps,undef] rfl hx hk2 hI2 hm2 hle _ (.inr ⟨bad,rfl⟩)
      show bodyPostD P fn _ (.panic _) ⟨#[.func (.func g) first caps,undef,A,.func (.func fc) #[] #[A],.func (.func g) first caps,undef],[D]⟩ w2
      refine leaves_cons (by simp) (hinv _) ((alp hT hG hf' hb' hn' hres' hg2).mono fun e' u' w' he'=>?_)
      obtain ⟨⟨v',rfl⟩,rfl,rfl⟩:=he'
      obtain ⟨⟨vv,r1,rfl⟩,F',m',x1,x2,x3,x4,x5⟩:=hfin
      exact ⟨_,r1,F',m',x1,x2,x3,x4,x5,_,rfl,.pv (.int _ n)⟩
end Go.Ab
