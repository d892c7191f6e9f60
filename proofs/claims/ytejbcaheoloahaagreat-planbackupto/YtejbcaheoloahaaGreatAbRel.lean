import Derived.Test.YtejbcaheoloahaaGreatAbDefs
import Derived.Laws.OwnMore
import Derived.Laws.MakeOwn
import Derived.Laws.BytesString
import Derived.Laws.StructEq
import Derived.Laws.Pointers
set_option linter.unusedVariables false
set_option linter.unusedSimpArgs false
namespace Go.Ab
open Go
abbrev Mu:=Nat→Nat→Nat→Option (Nat × Nat)
abbrev Froz:=Nat→Nat→Prop
inductive Rep (w:World) (F:Froz):Value→PV→Prop
  | int (k:IntKind) (n:Int):Rep w F (.int k n) (.int k n)
  | bool (b:Bool):Rep w F (.bool b) (.bool b)
  | flt (k:FloatKind) (n:Nat):Rep w F (.float k n) (.flt k n)
  | str (s:ByteArray):Rep w F (.string s) (.str s)
  | nilp:Rep w F (.pointer none) .nilp
  | ptr (g o off:Nat) (cells:List PV) (us:Nat→Value)
      (hc:∀ j,j < cells.length→w.cell? ⟨g,o+j,none⟩=some (us j)) (hF:∀ j,j < cells.length→F g (o+j))
      (hr:∀ j (h:j < cells.length),Rep w F (us j) cells[j]):Rep w F (.pointer (some ⟨g,o+off,none⟩)) (.ptr cells off)
  | nils:Rep w F (.slice none 0 0) .nils
  | sl0 (a:Addr) (c:Nat):Rep w F (.slice (some a) 0 c) (.sl [])
  | sl (g o esz c:Nat) (rows:List (List PV)) (us:Nat→Nat→Value) (hl:rows.length≤c)
      (hs:∀ i (h:i < rows.length),rows[i].length=esz)
      (hc:∀ i,i < rows.length→∀ j,j < esz→w.cell? ⟨g,o+i * esz+j,none⟩=some (us i j))
      (hF:∀ i,i < rows.length→∀ j,j < esz→F g (o+i * esz+j))
      (hr:∀ i (h:i < rows.length) j (h':j < rows[i].length),Rep w F (us i j) rows[i][j]):
      Rep w F (.slice (some ⟨g,o,none⟩) rows.length c) (.sl rows)
  | fn (f:Nat) (a b:List PV) (va vb:List Value) (ha:va.length=a.length) (hb:vb.length=b.length)
      (h1:∀ j (h:j < va.length) (h':j < a.length),Rep w F va[j] a[j]) (h2:∀ j (h:j < vb.length) (h':j < b.length),Rep w F vb[j] b[j]):
      Rep w F (.func (.func f) va.toArray vb.toArray) (.fn f a b)
  | nilf:Rep w F .nilFunc .nilf
  | ifc (t:Nat) (v:Value) (p:PV) (h:Rep w F v p):Rep w F (.iface t v) (.ifc t p)
  | nili:Rep w F .nilIface .nili
  | nilm:Rep w F (.map none) .nilm
theorem Rep.one {w:World} {F:Froz} {v:Value} {p:PV} (h:Rep w F v p):v.oneCell'=true:=by cases h <;> rfl
theorem afF {v:Value} (h:v.oneCell'=true):v.cells=#[v]:=by cases v <;> first | rfl | (simp [Value.oneCell'] at h)
theorem Rep.keep {w w':World} {F F':Froz} (hc:∀ g o,F g o→w'.cell? ⟨g,o,none⟩=w.cell? ⟨g,o,none⟩) (hF:∀ g o,F g o→F' g o)
    {v:Value} {p:PV} (h:Rep w F v p):Rep w' F' v p:=by
  induction h with
  | int k n=>exact .int k n
  | bool b=>exact .bool b
  | flt k n=>exact .flt k n
  | str s=>exact .str s
  | nilp=>exact .nilp
  | ptr g o off cells us h1 h2 _ ih=>exact .ptr g o off cells us (fun j hj=>(hc _ _ (h2 j hj)).trans (h1 j hj)) (fun j hj=>hF _ _ (h2 j hj)) ih
  | nils=>exact .nils
  | sl0 a c=>exact .sl0 a c
  | sl g o esz c rows us hl hs h1 h2 _ ih=>exact .sl g o esz c rows us hl hs (fun i hi j hj=>(hc _ _ (h2 i hi j hj)).trans (h1 i hi j hj)) (fun i hi j hj=>hF _ _ (h2 i hi j hj)) ih
  | fn f a b va vb ha hb _ _ i1 i2=>exact .fn f a b va vb ha hb i1 i2
  | nilf=>exact .nilf
  | ifc t v p _ ih=>exact .ifc t v p ih
  | nili=>exact .nili
  | nilm=>exact .nilm
inductive RelV (w:World) (F:Froz) (m:Mu):Value→AV→Prop
  | pv {v:Value} {p:PV} (h:Rep w F v p):RelV w F m v (.pv p)
  | ptr {id off g c:Nat} (h:m id 0 0=some (g,c)):RelV w F m (.pointer (some ⟨g,off,none⟩)) (.ptr id off)
  | eptr {id γ h esz i off g c:Nat} (hm:m id γ h=some (g,c)):RelV w F m (.pointer (some ⟨g,i * esz+off,none⟩)) (.eptr id γ h esz i off)
  | ref0 {id γ h esz n g c:Nat} (hm:m id γ h=some (g,c)) (hn:n≤h) (hc:h≤c):RelV w F m (.slice (some ⟨g,0,none⟩) n c) (.ref id γ h esz 0 n)
  | ref {id γ h esz off n g c:Nat} (hm:m id γ h=some (g,c)) (hn:off+n≤h) (hc:h≤c) (h0:0 < n) (ho:0 < off):
      RelV w F m (.slice (some ⟨g,off * esz,none⟩) n (c - off)) (.ref id γ h esz off n)
  | refE {id γ h esz off:Nat} {A:Addr} {c:Nat} (ho:0 < off):RelV w F m (.slice (some A) 0 c) (.ref id γ h esz off 0)
  | map {id g c:Nat} (h:m id 0 0=some (g,c)):RelV w F m (.map (some g)) (.map id)
  | fn (f:Nat) (a b:List AV) (va vb:List Value) (ha:va.length=a.length) (hb:vb.length=b.length)
      (h1:∀ j (h:j < va.length) (h':j < a.length),RelV w F m va[j] a[j]) (h2:∀ j (h:j < vb.length) (h':j < b.length),RelV w F m vb[j] b[j]):
      RelV w F m (.func (.func f) va.toArray vb.toArray) (.fn f a b)
  | agg (vs:List Value) (cs:List AV) (hl:vs.length=cs.length) (hr:∀ j (h:j < vs.length) (h':j < cs.length),RelV w F m vs[j] cs[j]):
      RelV w F m (.agg vs.toArray) (.agg cs)
  | tup (vs:List Value) (cs:List AV) (hl:vs.length=cs.length) (hr:∀ j (h:j < vs.length) (h':j < cs.length),RelV w F m vs[j] cs[j]):
      RelV w F m (.tuple vs.toArray) (.tup cs)
  | undef:RelV w F m undef .undef
  | any {v:Value}:RelV w F m v .any
def qi (m m':Mu):Prop:=∀ id γ h x,m id γ h=some x→m' id γ h=some x
theorem qi.refl (m:Mu):qi m m:=fun _ _ _ _ h=>h
theorem qi.trans {a b c:Mu} (h:qi a b) (k:qi b c):qi a c:=fun _ _ _ _ e=>k _ _ _ _ (h _ _ _ _ e)
theorem RelV.keep {w w':World} {F F':Froz} {m m':Mu} (hc:∀ g o,F g o→w'.cell? ⟨g,o,none⟩=w.cell? ⟨g,o,none⟩) (hF:∀ g o,F g o→F' g o)
    (hm:qi m m') {v:Value} {x:AV} (h:RelV w F m v x):RelV w' F' m' v x:=by
  induction h with
  | pv h=>exact .pv (h.keep hc hF)
  | ptr h=>exact .ptr (hm _ _ _ _ h)
  | eptr h=>exact .eptr (hm _ _ _ _ h)
  | ref0 h a b=>exact .ref0 (hm _ _ _ _ h) a b
  | ref h a b c d=>exact .ref (hm _ _ _ _ h) a b c d
  | refE h=>exact .refE h
  | map h=>exact .map (hm _ _ _ _ h)
  | fn f a b va vb ha hb _ _ i1 i2=>exact .fn f a b va vb ha hb i1 i2
  | agg vs cs hl _ ih=>exact .agg vs cs hl ih
  | tup vs cs hl _ ih=>exact .tup vs cs hl ih
  | undef=>exact .undef
  | any=>exact .any
theorem RelV.one {w:World} {F:Froz} {m:Mu} {v:Value} {x:AV} (h:RelV w F m v x) (hx:x.one=true):v.oneCell'=true:=by
  cases h with
  | pv h=>exact h.one
  | _=>first | rfl | (simp [AV.one] at hx)
def RelL (w:World) (F:Froz) (m:Mu) (vs:List Value) (xs:List AV):Prop:=
  vs.length=xs.length∧∀ j (h:j < vs.length) (h':j < xs.length),RelV w F m vs[j] xs[j]
theorem RelL.nil {w:World} {F:Froz} {m:Mu}:RelL w F m [] []:=⟨rfl,fun j h=>by simp at h⟩
theorem RelL.cons {w:World} {F:Froz} {m:Mu} {v:Value} {x:AV} {vs:List Value} {xs:List AV} (h:RelV w F m v x) (k:RelL w F m vs xs):RelL w F m (v :: vs) (x :: xs):=
  ⟨by simp [k.1],fun j hj hj'=>by
    cases j with
    | zero=>exact h
    | succ j=>exact k.2 j (by simpa using hj) (by simpa using hj')⟩
theorem RelL.head {w:World} {F:Froz} {m:Mu} {v:Value} {x:AV} {vs:List Value} {xs:List AV} (h:RelL w F m (v :: vs) (x :: xs)):RelV w F m v x:=h.2 0 (by simp) (by simp)
theorem RelL.tail {w:World} {F:Froz} {m:Mu} {v:Value} {x:AV} {vs:List Value} {xs:List AV} (h:RelL w F m (v :: vs) (x :: xs)):RelL w F m vs xs:=
  ⟨by simpa using h.1,fun j hj hj'=>h.2 (j+1) (by simpa using hj) (by simpa using hj')⟩
theorem RelL.keep {w w':World} {F F':Froz} {m m':Mu} (hc:∀ g o,F g o→w'.cell? ⟨g,o,none⟩=w.cell? ⟨g,o,none⟩) (hF:∀ g o,F g o→F' g o)
    (hm:qi m m') {vs:List Value} {xs:List AV} (h:RelL w F m vs xs):RelL w' F' m' vs xs:=⟨h.1,fun j a b=>(h.2 j a b).keep hc hF hm⟩
theorem RelL.append {w:World} {F:Froz} {m:Mu} {vs us:List Value} {xs ys:List AV} (h:RelL w F m vs xs) (k:RelL w F m us ys):RelL w F m (vs++us) (xs++ys):=by
  refine ⟨by simp [h.1,k.1],fun j hj hj'=>?_⟩
  by_cases hlt:j < vs.length
  · rw [List.getElem_append_left hlt,List.getElem_append_left (h.1 ▸ hlt)]; exact h.2 j hlt _
  · rw [List.getElem_append_right (by omega),List.getElem_append_right (by have:=h.1; omega)]
    have e:j - vs.length=j - xs.length:=by rw [h.1]
    simp only [← e]
    exact k.2 _ (by simp at hj; omega) (by have:=h.1; have:=k.1; simp at hj; omega)
theorem RelL.drop {w:World} {F:Froz} {m:Mu} {vs:List Value} {xs:List AV} (h:RelL w F m vs xs) (n:Nat):RelL w F m (vs.drop n) (xs.drop n):=
  ⟨by simp [h.1],fun j hj hj'=>by
    rw [List.getElem_drop,List.getElem_drop]; exact h.2 _ _ _⟩
theorem RelL.take {w:World} {F:Froz} {m:Mu} {vs:List Value} {xs:List AV} (h:RelL w F m vs xs) (n:Nat):RelL w F m (vs.take n) (xs.take n):=
  ⟨by simp [h.1],fun j hj hj'=>by
    rw [List.getElem_take,List.getElem_take]; exact h.2 _ _ _⟩
theorem RelL.aaO {w:World} {F:Froz} {m:Mu} {vs:List Value} {ps:List PV} (hl:vs.length=ps.length) (h:∀ j (h:j < vs.length) (h':j < ps.length),Rep w F vs[j] ps[j]):
    RelL w F m vs (ps.map .pv):=⟨by simpa using hl,fun j hj hj'=>by rw [List.getElem_map]; exact .pv (h j hj (by simpa using hj'))⟩
def acK (w:World) (F:Froz) (es:List MapEntry) (xs:List (PV × List PV)):Prop:=
  es.length=xs.length∧∀ j (h:j < es.length) (h':j < xs.length),Rep w F es[j].key xs[j].1∧∃ p,xs[j].2=[p]∧Rep w F es[j].val p
theorem acK.keep {w w':World} {F F':Froz} (hc:∀ g o,F g o→w'.cell? ⟨g,o,none⟩=w.cell? ⟨g,o,none⟩) (hF:∀ g o,F g o→F' g o)
    {es:List MapEntry} {xs:List (PV × List PV)} (h:acK w F es xs):acK w' F' es xs:=
  ⟨h.1,fun j a b=>⟨(h.2 j a b).1.keep hc hF,by
    obtain ⟨p,e,k⟩:=(h.2 j a b).2
    exact ⟨p,e,k.keep hc hF⟩⟩⟩
def ab1 (w:World) (F:Froz) (Pr:Nat→Prop) (m:Mu) (id:Nat):Blk→Prop
  | .dead=>False
  | .box cells z=>∃ g c vs e,m id 0 0=some (g,c)∧(∀ γ h x,m id γ h=some x→x=(g,c))∧w.heap[g]?=some (.cells vs.toArray e (0,0))∧
      RelL w F m vs cells∧¬ Pr g∧(z=false→∀ o,¬ F g o)∧(z=true→∀ o,o < vs.length→F g o)
  | .row e esz r=>(0 < esz∧r.stable≤r.rows.length∧r.frz≤r.rows.length)∧(∀ c,c∈r.rows→c.length=esz)∧∀ γ h g c,m id γ h=some (g,c)→
      ¬ Pr g∧(∀ o,r.frz * esz≤o→¬ F g o)∧(γ < r.gen∨(γ=r.gen∧h≤r.rows.length))∧
      (r.valid γ h=true→h≤c∧c≤maxLen∧∃ cur:Array Value,w.heap[g]?=some (.cells cur e (0,0))∧cur.size=c * esz∧
        ∀ i,i < h→∀ j,j < esz→∃ u p,cur[i * esz+j]?=some u∧(r.rows[i]?).bind (·[j]?)=some p∧Rep w F u p)
  | .map _ _ ents=>∃ g c es clock,m id 0 0=some (g,c)∧(∀ γ h x,m id γ h=some x→x=(g,c))∧w.heap[g]?=some (.map es clock)∧acK w F es.toList ents∧¬ Pr g
structure Inv (w:World) (F:Froz) (Pr:Nat→Prop) (m:Mu) (look:Look):Prop where
  blk:∀ id b,look id=some b→ab1 w F Pr m id b
  apart:∀ id id' b b',look id=some b→look id'=some b'→id≠id'→∀ γ h γ' h' g c c',m id γ h=some (g,c)→m id' γ' h'=some (g,c')→False
  szF:∀ g o,F g o→∃ v,w.cell? ⟨g,o,none⟩=some v
  szP:∀ g,Pr g→g < w.heap.size
  sz:∀ id b γ h g c,look id=some b→m id γ h=some (g,c)→g < w.heap.size
structure Ext (w:World) (F:Froz) (Pr:Nat→Prop) (w':World) (F':Froz):Prop where
  os:w'.os=w.os
  tape:w'.tape=w.tape
  output:w'.output=w.output
  size:w.heap.size≤w'.heap.size
  fz:∀ g o,F g o→w'.cell? ⟨g,o,none⟩=w.cell? ⟨g,o,none⟩
  pr:∀ g,Pr g→w'.heap[g]?=w.heap[g]?
  mono:∀ g o,F g o→F' g o
  new:∀ g o,F' g o→F g o∨¬ Pr g
theorem Ext.refl (w:World) (F:Froz) (Pr:Nat→Prop):Ext w F Pr w F:=
  ⟨rfl,rfl,rfl,Nat.le_refl _,fun _ _ _=>rfl,fun _ _=>rfl,fun _ _ h=>h,fun _ _ h=>.inl h⟩
theorem Ext.trans {w w1 w2:World} {F F1 F2:Froz} {Pr:Nat→Prop} (h:Ext w F Pr w1 F1) (k:Ext w1 F1 Pr w2 F2):Ext w F Pr w2 F2:=
  ⟨k.os.trans h.os,k.tape.trans h.tape,k.output.trans h.output,Nat.le_trans h.size k.size,fun g o e=>(k.fz g o (h.mono g o e)).trans (h.fz g o e),
    fun g e=>(k.pr g e).trans (h.pr g e),fun g o e=>k.mono g o (h.mono g o e),fun g o e=>(k.new g o e).elim (h.new g o) .inr⟩
theorem Ext.keepL {w w':World} {F F':Froz} {Pr:Nat→Prop} (h:Ext w F Pr w' F') {m m':Mu} (hm:qi m m') {v:List Value} {x:List AV} (k:RelL w F m v x):RelL w' F' m' v x:=k.keep h.fz h.mono hm
theorem ab1.keep {w w':World} {F:Froz} {Pr:Nat→Prop} {m m':Mu} {id:Nat} {b:Blk} (h:ab1 w F Pr m id b)
    (hF:∀ g o,F g o→w'.cell? ⟨g,o,none⟩=w.cell? ⟨g,o,none⟩) (hm:qi m m')
    (hid:∀ γ h x,m' id γ h=some x→m id γ h=some x) (hg:∀ γ h g c,m id γ h=some (g,c)→w'.heap[g]?=w.heap[g]?):ab1 w' F Pr m' id b:=by
  cases b with
  | dead=>exact h
  | box cells z=>
    obtain ⟨g,c,vs,e,h1,h2,h3,h4,h5,h6,h7⟩:=h
    exact ⟨g,c,vs,e,hm _ _ _ _ h1,fun γ h x hx=>h2 γ h x (hid _ _ _ hx),(hg _ _ _ _ h1).trans h3,h4.keep hF (fun _ _ h=>h) hm,h5,h6,h7⟩
  | row e esz r=>
    obtain ⟨h1,h2,h3⟩:=h
    refine ⟨h1,h2,fun γ h g c hx=>?_⟩
    have hx:=hid _ _ _ hx
    obtain ⟨k1,k2,k3,k4⟩:=h3 γ h g c hx
    refine ⟨k1,k2,k3,fun hv=>?_⟩
    obtain ⟨l1,l2,cur,l3,l4,l5⟩:=k4 hv
    exact ⟨l1,l2,cur,(hg _ _ _ _ hx).trans l3,l4,fun i hi j hj=>by
      obtain ⟨u,p,a,b,c⟩:=l5 i hi j hj
      exact ⟨u,p,a,b,c.keep hF (fun _ _ h=>h)⟩⟩
  | map _ _ ents=>
    obtain ⟨g,c,es,clock,h1,h2,h3,h4,h5⟩:=h
    exact ⟨g,c,es,clock,hm _ _ _ _ h1,fun γ h x hx=>h2 γ h x (hid _ _ _ hx),(hg _ _ _ _ h1).trans h3,h4.keep hF (fun _ _ h=>h),h5⟩
theorem ab1.notPr {w:World} {F:Froz} {Pr:Nat→Prop} {m:Mu} {id:Nat} {b:Blk} (h:ab1 w F Pr m id b) {γ k g c:Nat} (hx:m id γ k=some (g,c)):¬ Pr g:=by
  cases b with
  | dead=>exact h.elim
  | map _ _ ents=>
    obtain ⟨g',c',es',cl',k1,k2,k3,k4,k5⟩:=h
    have:=congrArg Prod.fst (k2 _ _ _ hx)
    simp only at this
    subst this; exact k5
  | box cells z=>
    obtain ⟨g',c',us',e',k1,k2,k3,k4,k5,k6,k7⟩:=h
    have:=congrArg Prod.fst (k2 _ _ _ hx)
    simp only at this
    subst this; exact k5
  | row e' esz r=>exact (h.2.2 _ _ g c hx).1
def ZF (look:Look) (nid:Nat) (e:Eff):Look:=fun i=>
  if nid≤i∧i < nid+e.new.length then e.new[i - nid]?
  else match e.upd.reverse.find? (·.1 == i) with
    | some p=>some p.2
    | none=>look i
end Go.Ab
