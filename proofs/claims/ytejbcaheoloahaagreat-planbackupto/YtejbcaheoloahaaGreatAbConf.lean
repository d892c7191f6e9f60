import Derived.Test.YtejbcaheoloahaaGreatAbCallOk
set_option linter.unusedVariables false
set_option linter.unusedSimpArgs false
namespace Go.Ab
open Go
def pvOf:Value→Option PV
  | .int k n=>some (.int k n)
  | .bool b=>some (.bool b)
  | .float k n=>some (.flt k n)
  | .string s=>some (.str s)
  | .pointer none=>some .nilp
  | .slice none 0 0=>some .nils
  | .nilFunc=>some .nilf
  | .nilIface=>some .nili
  | .map none=>some .nilm
  | _=>none
def al6:List Value→Option (List PV)
  | []=>some []
  | v :: r=>(pvOf v).bind fun p=>(al6 r).map fun ps=>p :: ps
theorem apE {v:Value} {p:PV} (h:pvOf v=some p) (w:World) (F:Froz):Rep w F v p:=by
  unfold pvOf at h
  split at h <;> cases h <;> first | exact .int _ _ | exact .bool _ | exact .flt _ _ | exact .str _ | exact .nilp | exact .nils | exact .nilf | exact .nili | exact .nilm
theorem als:∀ {vs:List Value} {ps:List PV},al6 vs=some ps→vs.length=ps.length∧∀ w F j (h:j < vs.length) (h':j < ps.length),Rep w F vs[j] ps[j]
  | [],ps,h=>by
    simp only [al6,Option.some.injEq] at h
    subst h
    exact ⟨rfl,fun w F j h=>by simp at h⟩
  | v :: r,ps,h=>by
    simp only [al6] at h
    obtain ⟨p,hp,h⟩:=Option.bind_eq_some_iff.1 h
    rw [Option.map_eq_some_iff] at h
    obtain ⟨qs,hq,rfl⟩:=h
    obtain ⟨e,k⟩:=als hq
    refine ⟨by simp [e],fun w F j h h'=>?_⟩
    cases j with
    | zero=>exact apE hp w F
    | succ j=>exact k w F j (by simpa using h) (by simpa using h')
def aoi:Value→Bool
  | .agg _=>true
  | _=>false
def zOk (a:Bool) (n:Nat) (z:Value):Bool:=decide (z.cells.size=n) && (match a with
  | true=>aoi z
  | false=>n == 1 && z.oneCell')
def tiOf (P:Program) (t:Nat):Option TI:=
  match P.info? t,P.underlying t with
  | some i,some d=>
    match i.zero with
    | some z=>
      match al6 z.cells.toList with
      | some ps=>
        if zOk (afH d) i.size z=true then some ⟨tdOf d,i.size,i.bytes,afH d,ps⟩ else none
      | none=>none
    | none=>none
  | _,_=>none
theorem ao9 (P:Program):TOk P (tiOf P):=⟨fun t ti h=>by
  unfold tiOf at h
  split at h
  rotate_left
  · cases h
  rename_i i d hi hd
  split at h
  rotate_left
  · cases h
  rename_i z hz
  split at h
  rotate_left
  · cases h
  rename_i ps hps
  split at h
  rotate_left
  · cases h
  rename_i hc
  injection h with h
  subst h
  simp only [zOk,Bool.and_eq_true,decide_eq_true_eq] at hc
  obtain ⟨h1,h2⟩:=hc
  obtain ⟨e,k⟩:=als hps
  refine ⟨i,d,z,hi,hd,rfl,rfl,rfl,rfl,hz,h1,by simp only; rw [← e,← h1]; simp,fun ha=>?_,fun ha=>?_,fun w F j hj hj'=>?_⟩
  · simp only at ha
    rw [ha] at h2
    cases z <;> first | rfl | (simp [aoi] at h2)
  · simp only at ha
    rw [ha] at h2
    simpa using h2
  · have:=k w F j (by simpa using hj) hj'
    simpa using this⟩
end Go.Ab
