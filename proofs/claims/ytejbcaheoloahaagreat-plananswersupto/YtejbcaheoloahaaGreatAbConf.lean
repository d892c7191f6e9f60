import Derived.Test.YtejbcaheoloahaaGreatAbCallOk
set_option linter.all false
namespace Go.Ab
open Go
def pvOf:Value→Option PV
 |.int k n=>some (.int k n)
 |.bool b=>some (.bool b)
 |.float k n=>some (.flt k n)
 |.string s=>some (.str s)
 |.pointer none=>some .nilp
 |.slice none 0 0=>some .nils
 |.nilFunc=>some .nilf
 |.nilIface=>some .nili
 |.map none=>some .nilm
 |_=>none
def arA:List Value→Option (List PV)
 |[]=>some []
 |v::r=>(pvOf v).bind fun p=>(arA r).map fun ps=>p::ps
theorem av6 {v:Value}{p:PV}(h:pvOf v=some p) (w:World) (F:Froz):Rep w F v p:=by
 unfold pvOf at h
 split at h<;>cases h<;>first|exact .int _ _|exact .bool _|exact .flt _ _|exact .str _|exact .nilp|exact .nils|exact .nilf|exact .nili|exact .nilm
theorem ark:∀ {vs:List Value}{ps:List PV},arA vs=some ps→vs.length=ps.length∧∀ w F j (h:j<vs.length) (h':j<ps.length),Rep w F vs[j] ps[j]
 |[],ps,h=>by
  simp only [arA,Option.some.injEq] at h
  subst h
  exact ⟨rfl,fun w F j h=>by simp at h⟩
 |v::r,ps,h=>by
  simp only [arA] at h
  obtain ⟨p,hp,h⟩:=ji.1 h
  rw [jh] at h
  obtain ⟨qs,hq,rfl⟩:=h
  obtain ⟨e,k⟩:=ark hq
  refine ⟨by simp [e],fun w F j h h'=>?_⟩
  cases j with
  |zero=>exact av6 hp w F
  |succ j=>exact k w F j (by simpa using h) (by simpa using h')
def au0:Value→Bool
 |.agg _=>true
 |_=>false
def zOk (a:Bool) (n:Nat) (z:Value):Bool:=decide (z.cells.size=n)&&(match a with
 |true=>au0 z
 |false=>n==1&&z.oneCell')
def tiOf (P:Program) (t:Nat):Option TI:=
 match P.info? t,P.underlying t with
 |some i,some d=>
  match i.zero with
  |some z=>
   match arA z.cells.toList with
   |some ps=>
    if zOk (ajg d) i.size z=true then some ⟨tdOf d,i.size,i.bytes,ajg d,ps⟩ else none
   |none=>none
  |none=>none
 |_,_=>none
theorem awe (P:Program):TOk P (tiOf P):=⟨fun t ti h=>by
 unfold tiOf at h
 split at h
 rotate_left
 ·cases h
 rename_i i d hi hd
 split at h
 rotate_left
 ·cases h
 rename_i z hz
 split at h
 rotate_left
 ·cases h
 rename_i ps hps
 split at h
 rotate_left
 ·cases h
 rename_i hc
 injection h with h
 subst h
 simp only [zOk,jj,decide_eq_true_eq] at hc
 obtain ⟨h1,h2⟩:=hc
 obtain ⟨e,k⟩:=ark hps
 refine ⟨i,d,z,hi,hd,rfl,rfl,rfl,rfl,hz,h1,by simp only;rw [←e,←h1];simp,fun ha=>?_,fun ha=>?_,fun w F j hj hj'=>?_⟩
 ·simp only at ha
  rw [ha] at h2
  cases z<;>first|rfl|(simp [au0] at h2)
 ·simp only at ha
  rw [ha] at h2
  simpa using h2
 have:=k w F j (by simpa using hj) hj'
 simpa using this⟩
end Go.Ab
