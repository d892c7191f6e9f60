import Derived.Test.YtejbcaheoloahaaGreatAbConf
import Derived.KernelRfl
set_option linter.unusedVariables false
set_option linter.unusedSimpArgs false
namespace Go.Ab
open Go
def xTab:List (String × (List AV→Option AV)):=[
  ("math.Float64bits",fun
    | [.pv (.flt .f64 b)]=>some (.pv (.int .u64 b))
    | _=>none),
  ("math.Float64frombits",fun
    | [.pv (.int .u64 n)]=>some (.pv (.flt .f64 n.toNat))
    | _=>none),
  ("math/bits.Add64",fun
    | [.pv (.int .u64 x),.pv (.int .u64 y),.pv (.int .u64 (.ofNat 0))]=>
        some (.tup [.pv (.int .u64 (Int.ofNat ((x.toNat+y.toNat) % Extern.MathBitsCarry.m64))),.pv (.int .u64 (Int.ofNat ((x.toNat+y.toNat) / Extern.MathBitsCarry.m64)))])
    | _=>none)]
def xOf (P:Program) (f:Nat):Option (List AV→Option AV):=
  match P.funcs[f]? with
  | some fn=>if fn.body.isNone && fn.origin == "" then xTab.lookup fn.name else none
  | none=>none
theorem afU {P:Program} {w:World} {f:Nat} {fn:Func} {e:Array Value→Sem Value} {vs:Array Value} {u:Value} (hf:P.funcs[f]?=some fn) (hb:fn.body.isNone=true) (hn:(fn.name == "runtime.NumGoroutine")=false)
    (h1:Extern.findNext fn=none) (h2:Extern.find fn=some e) (he:(e vs).run P w=.ok u w):(callFunc f vs).run P w=.ok (.value u) w:=by
  unfold callFunc
  have hb':fn.body=none:=by simpa using hb
  have hn':¬ fn.name="runtime.NumGoroutine" := by simpa using hn
  simp [hf,hb',hn',h1,h2,he]
theorem anI {fn:Func} (h:fn.name="math.Float64bits") (hb:fn.origin=""):Extern.findNext fn=none∧Extern.find fn=some Extern.MathFloatBits.float64bits:=by
  constructor
  · unfold Extern.findNext
    rw [h,hb]
    simp only
    kernel_rfl
  · unfold Extern.find
    rw [h,hb]
    simp only
    kernel_rfl
theorem ajI {fn:Func} (h:fn.name="math.Float64frombits") (hb:fn.origin=""):Extern.findNext fn=none∧Extern.find fn=some Extern.MathFloatBits.float64frombits:=by
  constructor
  · unfold Extern.findNext
    rw [h,hb]
    simp only
    kernel_rfl
  · unfold Extern.find
    rw [h,hb]
    simp only
    kernel_rfl
def ap9 (args:Array Value):Sem Value:=(Extern.MathBitsCarry.three "Add64" args).bind fun p=>pure (Extern.MathBitsCarry.pair ((p.1+p.2.1+p.2.2) % Extern.MathBitsCarry.m64) ((p.1+p.2.1+p.2.2) / Extern.MathBitsCarry.m64))
theorem amk {fn:Func} (h:fn.name="math/bits.Add64") (hb:fn.origin=""):Extern.findNext fn=none∧Extern.find fn=some ap9:=by
  constructor
  · unfold Extern.findNext
    rw [h,hb]
    simp only
    kernel_rfl
  · unfold Extern.find
    rw [h,hb]
    simp only
    kernel_rfl
theorem ap1 {P:Program} {f:Nat} {x:List AV→Option AV} (hx:xOf P f=some x) {args:List AV} {v:AV} (hv:x args=some v) (w:World) (F:Froz) (m:Mu) (vs:List Value) (hr:RelL w F m vs args):
    ∃ u,(callFunc f vs.toArray).run P w=.ok (.value u) w∧RelV w F m u v:=by
  unfold xOf at hx
  split at hx
  rotate_left
  · cases hx
  rename_i fn hf
  split at hx
  rotate_left
  · cases hx
  rename_i hb
  simp only [Bool.and_eq_true,beq_iff_eq] at hb
  simp only [xTab,List.lookup] at hx
  split at hx
  · rename_i hn
    have hn:fn.name="math.Float64bits" := by simpa using hn
    injection hx with hx
    subst hx
    simp only at hv
    split at hv
    · rename_i b
      injection hv with hv
      subst hv
      match vs,hr with
      | [u],hr=>
        have h1:=hr.head
        cases h1 with | pv h1=>
        cases h1
        obtain ⟨e1,e2⟩:=anI hn hb.2
        exact ⟨_,afU hf hb.1 (by rw [hn]; decide) e1 e2 rfl,.pv (.int _ _)⟩
      | [],hr=>have:=hr.1; simp at this
      | _ :: _ :: _,hr=>have:=hr.1; simp at this
    · cases hv
  split at hx
  · rename_i hn
    have hn:fn.name="math.Float64frombits" := by simpa using hn
    injection hx with hx
    subst hx
    simp only at hv
    split at hv
    · rename_i b
      injection hv with hv
      subst hv
      match vs,hr with
      | [u],hr=>
        have h1:=hr.head
        cases h1 with | pv h1=>
        cases h1
        obtain ⟨e1,e2⟩:=ajI hn hb.2
        exact ⟨_,afU hf hb.1 (by rw [hn]; decide) e1 e2 rfl,.pv (.flt _ _)⟩
      | [],hr=>have:=hr.1; simp at this
      | _ :: _ :: _,hr=>have:=hr.1; simp at this
    · cases hv
  split at hx
  · rename_i hn
    have hn:fn.name="math/bits.Add64" := by simpa using hn
    injection hx with hx
    subst hx
    simp only at hv
    split at hv
    · rename_i a b
      injection hv with hv
      subst hv
      match vs,hr with
      | [u1,u2,u3],hr=>
        have h1:=hr.head
        have h2:=hr.tail.head
        have h3:=hr.tail.tail.head
        cases h1 with | pv h1=>
        cases h1
        cases h2 with | pv h2=>
        cases h2
        cases h3 with | pv h3=>
        cases h3
        obtain ⟨e1,e2⟩:=amk hn hb.2
        refine ⟨_,afU hf hb.1 (by rw [hn]; decide) e1 e2 (u:=Extern.MathBitsCarry.pair ((a.toNat+b.toNat) % Extern.MathBitsCarry.m64) ((a.toNat+b.toNat) / Extern.MathBitsCarry.m64)) rfl,?_⟩
        refine .tup [_,_] _ rfl fun j h h'=>?_
        match j with
        | 0=>exact .pv (.int _ _)
        | 1=>exact .pv (.int _ _)
        | j+2=>simp at h; omega
      | [],hr=>have:=hr.1; simp at this
      | [_],hr=>have:=hr.1; simp at this
      | [_,_],hr=>have:=hr.1; simp at this
      | _ :: _ :: _ :: _ :: _,hr=>have:=hr.1; simp at this
    · cases hv
  · cases hx
end Go.Ab
