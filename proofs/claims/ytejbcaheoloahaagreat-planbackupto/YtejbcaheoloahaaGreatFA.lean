import Derived.Test.YtejbcaheoloahaaGreatPL
import Derived.Test.YtejbcaheoloahaaGreatPA
import Derived.Test.YtejbcaheoloahaaGreatAbFlt
import Derived.Test.YtejbcaheoloahaaGreatPC
set_option linter.unusedVariables false
set_option linter.unusedSimpArgs false
namespace Go.Pl
open Go Go.Ab
theorem aoq {f:Nat} (h:wF .f64 f):f < 2 ^ 64:=by
  unfold wF at h
  simpa [Lit.wf] using h
def posZ (f:Nat):Bool:=isZero f && !ane f
def empS (s:ByteArray):Bool:=sEq s ByteArray.empty
def QU (v:zl):Bool:=
  if v.fKind=0 then v.fInt == 0 && (posZ v.fFloat && empS v.fText)
  else if v.fKind=1 then (v.fInt == 0 || v.fInt == 1) && (posZ v.fFloat && empS v.fText)
  else if v.fKind=2 then posZ v.fFloat && empS v.fText
  else if v.fKind=3 then v.fInt == 0 && empS v.fText
  else if v.fKind=4 then v.fInt == 0 && (posZ v.fFloat && decide ((v.fText.size:Int)≤64))
  else false
theorem ah0 (f:Nat) {n:Nat} (h:1≤n):acn n f=some (ane f):=by
  obtain ⟨n,rfl⟩:∃ k,n=k+1:=⟨n - 1,by omega⟩
  rfl
theorem apU {α:Type} {a b:Int} {x y:α}:(bif a == b then x else y)=if a=b then x else y:=by
  by_cases h:a=b
  · simp [h]
  · have:(a == b)=false:=by simpa using h
    rw [this]; simp [h]
def vR (y:Bool) (v:zl):Bool:=
  if v.fKind=0 then v.fInt == 0 && (y && empS v.fText)
  else if v.fKind=1 then (v.fInt == 0 || v.fInt == 1) && (y && empS v.fText)
  else if v.fKind=2 then y && empS v.fText
  else if v.fKind=3 then v.fInt == 0 && empS v.fText
  else if v.fKind=4 then v.fInt == 0 && (y && decide ((v.fText.size:Int)≤64))
  else false
theorem aon (y:Bool) (v:zl):(bif (v.fKind == 0) then some (((v.fInt == 0) && y) && (sEq v.fText ByteArray.empty)) else bif (v.fKind == 1) then bif ((v.fInt != 0) && (v.fInt != 1)) then some false else some (y && (sEq v.fText ByteArray.empty)) else bif (v.fKind == 2) then some (y && (sEq v.fText ByteArray.empty)) else bif (v.fKind == 3) then some ((v.fInt == 0) && (sEq v.fText ByteArray.empty)) else bif (v.fKind == 4) then some (((v.fInt == 0) && y) && (decide ((v.fText.size:Int)≤64))) else some false)=some (vR y v):=by
  simp only [apU]
  unfold vR
  split
  · simp [empS,Bool.and_assoc]
  · split
    · unfold empS
      by_cases h0:v.fInt=0
      · simp [h0]
      · by_cases h1:v.fInt=1
        · simp [h1]
        · have e0:(v.fInt == 0)=false:=by simpa using h0
          have e1:(v.fInt == 1)=false:=by simpa using h1
          have e2:(v.fInt != 0)=true:=by simp [bne,e0]
          have e3:(v.fInt != 1)=true:=by simp [bne,e1]
          rw [e0,e1,e2,e3]; simp
    · split
      · rfl
      · split
        · rfl
        · split
          · simp [Bool.and_assoc]
          · rfl
theorem acz (v:zl) {n:Nat} (h:2≤n):QP n v=some (QU v):=by
  obtain ⟨n,rfl⟩:∃ k,n=k+1:=⟨n - 1,by omega⟩
  unfold QP
  simp only [zB,zM]
  rw [ah0 _ (by omega)]
  simp only [Option.bind_some]
  rw [aon,aon]
  show _=some (vR (posZ v.fFloat) v)
  unfold posZ isZero
  cases FloatKind.f64.format.order v.fFloat 0 == some .eq <;> rfl
end Go.Pl
set_option linter.unusedVariables false
set_option linter.unusedSimpArgs false
namespace Go.Pl
open Go Go.Ab
abbrev zeroV:zl:=zl.mk 0 0 0 ByteArray.empty
theorem ana:Zp zeroV:=by
  refine ⟨⟨?_,?_⟩,⟨?_,?_⟩,?_,?_⟩
  · show (-9223372036854775808:Int)≤0; decide
  · show (0:Int)≤9223372036854775807; decide
  · show (-9223372036854775808:Int)≤0; decide
  · show (0:Int)≤9223372036854775807; decide
  · show (Lit.float .f64 0).wf=true; decide
  · show (0:Nat)≤1048576; decide
def fLt (x y:Nat):Bool:=FloatKind.f64.format.order x y == some .lt
def fGt (x y:Nat):Bool:=FloatKind.f64.format.order x y == some .gt
def fC (x y:Nat):Int:=
  bif qE x && qE y then 0 else bif qE x then 1 else bif qE y then -1 else bif fLt x y then -1 else bif fGt x y then 1 else 0
theorem ah6 (x y:Nat) {n:Nat} (h:2≤n):acp n x y=some (fC x y):=by
  obtain ⟨n,rfl⟩:∃ k,n=k+2:=⟨n - 2,by omega⟩
  show (bif (qE x && qE y) then some 0 else bif qE x then some 1 else bif qE y then some (-1) else bif fLt x y then some (-1) else bif fGt x y then some 1 else some 0)=some (fC x y)
  unfold fC
  cases qE x <;> cases qE y <;> cases fLt x y <;> cases fGt x y <;> rfl
theorem ak0 {x y:Nat} (hx:qE x=true):fC x y=bif qE y then 0 else 1:=by
  unfold fC; rw [hx]; cases qE y <;> rfl
theorem anl {x y:Nat} (hy:qE y=true):fC x y=bif qE x then 0 else -1:=by
  unfold fC; rw [hy]; cases qE x <;> rfl
def fNan (f:Nat):Nat:=bif qE f then 9221120237041090561 else f
theorem adC (f:Nat):qE (fNan f)=qE f:=by
  unfold fNan
  cases h:qE f with
  | true=>exact (show qE 9221120237041090561=true by decide)
  | false=>exact h
theorem apt (x y:Nat):fC (fNan x) (fNan y)=fC x y:=by
  cases hx:qE x with
  | true=>rw [ak0 (by rw [adC,hx]),ak0 hx,adC]
  | false=>
    cases hy:qE y with
    | true=>rw [anl (by rw [adC,hy]),anl hy,adC]
    | false=>unfold fNan; rw [hx,hy]; rfl
def Qf (v:zl):zl:=
  bif !QU v then zeroV else bif (v.fKind == 3) && isZero v.fFloat then zl.mk 3 0 0 ByteArray.empty else v
def iC (a b:Int):Int:=if a < b then -1 else if a > b then 1 else 0
def sC (a b:ByteArray):Int:=bif sLt a b then -1 else bif !(sLt a b || sEq a b) then 1 else 0
def vC (p q:zl):Int:=if p.fKind≠q.fKind then iC p.fKind q.fKind else if p.fKind=3 then fC p.fFloat q.fFloat else if p.fKind=4 then sC p.fText q.fText else iC p.fInt q.fInt
def vCmp (a b:zl):Int:=vC (Qf a) (Qf b)
def vNan (p:zl):zl:=bif p.fKind == 3 then zl.mk p.fKind p.fInt (fNan p.fFloat) p.fText else p
theorem aqg {v:zl} (h:QU v=true) (hk:v.fKind=3):v.fInt=0∧v.fText=ByteArray.empty:=by
  unfold QU at h
  rw [hk] at h
  simp at h
  exact ⟨h.1,afi.1 h.2⟩
theorem acJ {v:zl} (hv:Zp v) {n:Nat} (h:3≤n):aaA n v=some (vNan (Qf v)):=by
  obtain ⟨n,rfl⟩:∃ k,n=k+2:=⟨n - 2,by omega⟩
  unfold aaA
  rw [zB,acz v (by omega),Option.bind_some]
  unfold Qf
  cases hr:QU v with
  | false=>rfl
  | true=>
    simp only [Bool.not_true,cond_false,zM]
    cases hk:v.fKind == 3 with
    | false=>
      simp only [cond_false,Bool.false_and]
      unfold vNan; rw [hk]; rfl
    | true=>
      have h3:v.fKind=3:=by simpa using hk
      obtain ⟨h1,h2⟩:=aqg hr h3
      simp only [cond_true,Bool.true_and]
      have e0:abH (n+1) v.fFloat=some (qE v.fFloat):=rfl
      rw [e0,Option.bind_some]
      have e1:((FloatKind.format .f64).order v.fFloat 0 == some .eq)=isZero v.fFloat:=rfl
      rw [e1]
      cases hn:qE v.fFloat with
      | true=>
        rw [adN (aoq hv.2.2.1) hn]
        simp only [cond_true,cond_false]
        unfold vNan
        rw [hk,cond_true]
        unfold fNan
        rw [hn]; rfl
      | false=>
        cases hz:isZero v.fFloat with
        | true=>
          simp only [cond_true,cond_false]
          rw [h3,h1,h2]
          rfl
        | false=>
          simp only [cond_false]
          unfold vNan fNan
          rw [hk,hn]; rfl
theorem anS (p:zl):(vNan p).fKind=p.fKind:=by unfold vNan; cases p.fKind == 3 <;> rfl
theorem aoF (p:zl):(vNan p).fInt=p.fInt:=by unfold vNan; cases p.fKind == 3 <;> rfl
theorem anO (p:zl):(vNan p).fText=p.fText:=by unfold vNan; cases p.fKind == 3 <;> rfl
theorem ajm {p:zl} (h:p.fKind=3):(vNan p).fFloat=fNan p.fFloat:=by unfold vNan; rw [h]; rfl
theorem amz (a b:Int) {n:Nat} (h:2≤n):Q4 n a b=some (iC a b):=by
  obtain ⟨n,rfl⟩:∃ k,n=k+2:=⟨n - 2,by omega⟩
  unfold Q4 aaR
  simp only [zB,Option.bind_some,bne_self_eq_false,cond_false]
  unfold iC
  by_cases h1:a < b
  · simp [h1]
  · by_cases h2:b < a <;> simp [h1,h2]
theorem akA (a b:Int) {n:Nat} (h:2≤n):Qt n a b=some (iC a b):=by
  obtain ⟨n,rfl⟩:∃ k,n=k+2:=⟨n - 2,by omega⟩
  unfold Qt Q3
  simp only [zB,Option.bind_some,bne_self_eq_false,cond_false]
  unfold iC
  by_cases h1:a < b
  · simp [h1]
  · by_cases h2:b < a <;> simp [h1,h2]
theorem ajF (a b:ByteArray) {n:Nat} (h:2≤n):Qc n a b=some (sC a b):=by
  obtain ⟨n,rfl⟩:∃ k,n=k+2:=⟨n - 2,by omega⟩
  unfold Qc QJ
  simp only [zB,Option.bind_some,agp,Bool.not_true,cond_false]
  unfold sC
  cases sLt a b <;> cases sEq a b <;> rfl
theorem kne {α:Type} {a b:Int} {x y:α}:(bif a != b then x else y)=if a≠b then x else y:=by
  by_cases h:a=b
  · simp [h]
  · have:(a != b)=true:=by simpa using h
    rw [this]; simp [h]
theorem aoc {α:Type} {p:Prop} [Decidable p] {x y:α}:(if p then some x else some y)=some (if p then x else y):=by split <;> rfl
theorem akL {a b:zl} (ha:Zp a) (hb:Zp b) {n:Nat} (h:4≤n):adu n a b=some (vCmp a b):=by
  obtain ⟨n,rfl⟩:∃ k,n=k+1:=⟨n - 1,by omega⟩
  unfold adu
  rw [zB,acJ ha (by omega),Option.bind_some,acJ hb (by omega),Option.bind_some,amz _ _ (by omega),ah6 _ _ (by omega),ajF _ _ (by omega),akA _ _ (by omega)]
  simp only [Option.bind_some,kne,apU,aoc,anS,aoF,anO]
  unfold vCmp vC
  congr 1
  by_cases hk:(Qf a).fKind=(Qf b).fKind
  · have hk':¬ ((Qf a).fKind≠(Qf b).fKind):=fun c=>c hk
    rw [if_neg hk',if_neg hk']
    by_cases h3:(Qf a).fKind=3
    · rw [if_pos h3,if_pos h3,ajm h3,ajm (hk ▸ h3),apt]
    · rw [if_neg h3,if_neg h3]
  · rw [if_pos hk,if_pos hk]
end Go.Pl
set_option linter.unusedVariables false
set_option linter.unusedSimpArgs false
namespace Go.Pl
open Go Go.Ab
end Go.Pl
set_option linter.unusedVariables false
set_option linter.unusedSimpArgs false
namespace Go.Pl
open Go Go.Ab
theorem apF (x:Nat):fC x x=0:=by
  cases h:qE x with
  | true=>rw [ak0 h,h]; rfl
  | false=>
    have e:FloatKind.f64.format.order x x=some .eq:=by
      unfold qE at h
      simpa using h
    unfold fC fLt fGt
    rw [h,e]; rfl
theorem aex:∀ (l:List UInt8),Op.bytesLess l l=false
  | []=>rfl
  | a :: l=>by
    have h:¬ (a < a):=by
      intro h
      exact absurd (UInt8.lt_iff_toNat_lt.1 h) (by omega)
    simp [Op.bytesLess,aex l,h]
theorem apk (x:ByteArray):sC x x=0:=by
  unfold sC sLt
  rw [aex,agp]; rfl
theorem apm (x:Int):iC x x=0:=by
  unfold iC
  rw [if_neg (by omega),if_neg (by omega)]
theorem akT (p:zl):vC p p=0:=by
  unfold vC
  rw [if_neg (by simp),apF,apk,apm]
  simp
end Go.Pl
set_option linter.unusedVariables false
set_option linter.unusedSimpArgs false
namespace Go.Pl
open Go Go.Ab
theorem aoU {α:Type} (l:List α):sll (some l)=l:=rfl
theorem dT {p:Prop} [Decidable p] (h:p):decide p=true:=decide_eq_true h
theorem dF {p:Prop} [Decidable p] (h:¬ p):decide p=false:=decide_eq_false h
theorem wv {x:Int} (h1:-9223372036854775808≤x) (h2:x < 9223372036854775808):IntKind.wrap .i64 x=x:=abv h1 h2
def mapO {α β:Type} (f:α→β) (l:List α):Option (List β):=if l=[] then none else some (l.map f)
theorem Z2 {α β:Type} (f:α→β) (l:List α):sll (mapO f l)=l.map f:=by
  unfold mapO; split
  · rename_i h; subst h; rfl
  · rfl
theorem beqT {a b:Int} (h:a=b):(a == b)=true:=beq_iff_eq.2 h
theorem beqF {a b:Int} (h:¬ a=b):(a == b)=false:=beq_eq_false_iff_ne.2 h
end Go.Pl
set_option linter.unusedVariables false
set_option linter.unusedSimpArgs false
set_option maxRecDepth 100000
namespace Go.Pl
open Go Go.Ab
theorem alU {α R:Type} {F:Nat→Int→Option R} {l:List α} {p:α→Bool} {kk e:Option R} (hl:l.length≤1048576)
    (hF:∀ (m i:Nat) (x:α),(hi:i < l.length)→l[i]=x→F (m+1) (i:Int)=bif p x then F m (IntKind.wrap .i64 ((i:Int)+1)) else e) (hE:∀ (m:Nat),F (m+1) (l.length:Int)=kk):
    ∀ (m i:Nat),i≤l.length→l.length - i < m→F m (i:Int)=bif (l.drop i).all p then kk else e
  | 0,i,_,h=>by omega
  | m+1,i,h,hm=>by
    by_cases hi:i < l.length
    · rw [hF m i _ hi rfl,aa3 (by omega),alU hl hF hE m (i+1) (by omega) (by omega),List.drop_eq_getElem_cons hi,List.all_cons]
      cases p l[i] <;> rfl
    · obtain rfl:i=l.length:=by omega
      rw [hE,List.drop_length]; rfl
theorem anx {α R:Type} {F:Nat→Int→Option R} {l:List α} {p:α→Bool} {kk e:Option R} (hl:l.length≤1048576) {m:Nat} (hm:2000000≤m)
    (hF:∀ (m i:Nat) (x:α),(hi:i < l.length)→l[i]=x→F (m+1) (i:Int)=bif p x then F m (IntKind.wrap .i64 ((i:Int)+1)) else e) (hE:∀ (m:Nat),F (m+1) (l.length:Int)=kk):
    F m 0=bif l.all p then kk else e:=by
  have:=alU hl hF hE m 0 (by omega) (by omega)
  simpa using this
theorem aaX {α:Type} {l:List α} {i:Nat} {x:α} (hi:i < l.length) (e:l[i]=x):idx l (i:Int)=some x:=by
  rw [afn,List.getElem?_eq_getElem hi,e]
end Go.Pl
set_option linter.unusedVariables false
set_option linter.unusedSimpArgs false
set_option maxRecDepth 100000
namespace Go.Pl
open Go Go.Ab
theorem amC {α β R:Type} {F:Nat→Int→Option R} {la:List α} {lb:List β} {p:α→β→Bool} {kk e:Option R} (he:la.length=lb.length) (hl:la.length≤1048576) {m:Nat} (hm:2000000≤m)
    (hF:∀ (m i:Nat) (x:α) (y:β),(hi:i < la.length)→idx la (i:Int)=some x→idx lb (i:Int)=some y→x∈la→y∈lb→F (m+1) (i:Int)=bif p x y then F m (IntKind.wrap .i64 ((i:Int)+1)) else e) (hE:∀ (m:Nat),F (m+1) (la.length:Int)=kk):
    F m 0=bif (la.zip lb).all (fun q=>p q.1 q.2) then kk else e:=by
  have hz:(la.zip lb).length=la.length:=by rw [List.length_zip]; omega
  refine anx (l:=la.zip lb) (p:=fun q=>p q.1 q.2) (by omega) hm (fun m i q hi e'=>?_) (fun m=>by rw [hz]; exact hE m)
  have hi1:i < la.length:=by omega
  have hi2:i < lb.length:=by omega
  rw [List.getElem_zip] at e'
  subst e'
  exact hF m i _ _ hi1 (aaX hi1 rfl) (aaX hi2 rfl) (List.getElem_mem _) (List.getElem_mem _)
def Qm {α β:Type} (p:α→β→Bool) (a:List α) (b:List β):Bool:=decide (a.length=b.length) && (a.zip b).all fun q=>p q.1 q.2
theorem amf {α β:Type} {p:α→β→Bool} {a:List α} {b:List β} (h:a.length≠b.length):Qm p a b=false:=by
  unfold Qm; rw [dF h]; rfl
theorem afY {α β:Type} {p:α→β→Bool} {a:List α} {b:List β} (h:a.length=b.length):Qm p a b=(a.zip b).all fun q=>p q.1 q.2:=by
  unfold Qm; rw [dT h]; rfl
theorem adM {α β:Type} {F:Nat→Int→Option Bool} {la:List α} {lb:List β} {p:α→β→Bool} (hl:la.length≤1048576) {m:Nat} (hm:2000000≤m)
    (hF:la.length=lb.length→∀ (m i:Nat) (x:α) (y:β),(hi:i < la.length)→idx la (i:Int)=some x→idx lb (i:Int)=some y→x∈la→y∈lb→F (m+1) (i:Int)=bif p x y then F m (IntKind.wrap .i64 ((i:Int)+1)) else some false) (hE:∀ (m:Nat),F (m+1) (la.length:Int)=some true):
    (bif ((la.length:Int) != (lb.length:Int)) then some false else F m 0)=some (Qm p la lb):=by
  by_cases h:la.length=lb.length
  · rw [show ((la.length:Int) != (lb.length:Int))=false by rw [h]; simp,cond_false,amC h hl hm (hF h) hE,afY h]
    cases (la.zip lb).all fun q=>p q.1 q.2 <;> rfl
  · rw [show ((la.length:Int) != (lb.length:Int))=true by rw [bne_iff_ne]; omega,cond_true,amf h]
def amW (x y:zl):Bool:=vCmp x y == 0
theorem ajZ {a b:zl} (ha:Zp a) (hb:Zp b) {n:Nat} (h:5≤n):acI n a b=some (amW a b):=by
  obtain ⟨n,rfl⟩:∃ k,n=k+1:=⟨n - 1,by omega⟩
  unfold acI
  rw [zB,akL ha hb (by omega)]; rfl
theorem akC {α:Type} {p:α→α→Bool} (l:List α) (h:∀ x,x∈l→p x x=true):Qm p l l=true:=by
  rw [afY rfl,List.all_eq_true]
  intro q hq
  obtain ⟨i,hi,rfl⟩:=List.getElem_of_mem hq
  rw [List.getElem_zip]
  exact h _ (List.getElem_mem _)
end Go.Pl
set_option linter.unusedVariables false
set_option linter.unusedSimpArgs false
set_option maxRecDepth 100000
namespace Go.Pl
open Go Go.Ab
abbrev EX:=zc
def szL (x:zm):Nat:=PV.bulkL (Zu x)
theorem aoC {x:zm} {z:EX} (h:z∈sll x.fKids):szL (zk z) < szL x:=by
  have e:szL (zk z)=PV.bulkL (za z):=by rw [Zj z]; rfl
  rw [e]
  unfold szL Zu
  cases hk:x.fKids with
  | none=>rw [hk] at h; cases h
  | some l=>
    rw [hk] at h
    have:=acw (rows:=l.map za) (r:=za z) (List.mem_map_of_mem h)
    simp only [PV.bulkL,PV.bulk,zg]
    omega
theorem aey {x:zm} (hw:zA x) {z:EX} (h:z∈sll x.fKids):zA (zk z):=by
  have hs:=aoC h
  have h2:=hw.2
  refine ⟨?_,by unfold szL at hs; omega⟩
  have h1:=hw.1
  unfold Zu at h1
  rw [← Zj z]
  cases hk:x.fKids with
  | none=>rw [hk] at h; cases h
  | some l=>
    rw [hk] at h h1
    generalize hp:([.int .i64 x.fKind,.int .i64 x.fRel,.int .i64 x.fCol,.int .i64 x.fConst.fKind,.int .i64 x.fConst.fInt,.flt .f64 x.fConst.fFloat,.str x.fConst.fText,zg za (some l)]:List PV)=p at h1
    cases h1 with
    | nil a b c v w=>simp [zg] at hp
    | some a b c v rows w hl hr=>
      simp only [List.cons.injEq,and_true,zg,PV.sl.injEq] at hp
      obtain ⟨_,_,_,_,_,_,_,e⟩:=hp
      subst e
      exact hr _ (List.mem_map_of_mem h)
theorem aem {x:zm} (hw:zA x):(sll x.fKids).length≤1048576:=by
  have h1:=hw.1
  unfold Zu at h1
  cases hk:x.fKids with
  | none=>simp [sll]
  | some l=>
    rw [hk] at h1
    generalize hp:([.int .i64 x.fKind,.int .i64 x.fRel,.int .i64 x.fCol,.int .i64 x.fConst.fKind,.int .i64 x.fConst.fInt,.flt .f64 x.fConst.fFloat,.str x.fConst.fText,zg za (some l)]:List PV)=p at h1
    cases h1 with
    | nil a b c v w=>simp [zg] at hp
    | some a b c v rows w hl hr=>
      simp only [List.cons.injEq,and_true,zg,PV.sl.injEq] at hp
      obtain ⟨_,_,_,_,_,_,_,e⟩:=hp
      subst e
      show l.length≤_
      simpa using hl
def ownR (x:zm):Int:=bif ((x.fKind == 1) && (decide (x.fRel≥0))) && (decide (x.fRel≤31)) then iShl .u32 1 (IntKind.wrap .u64 x.fRel) else 0
noncomputable def relD:Nat→zm→Int
  | 0,_=>0
  | k+1,x=>(sll x.fKids).foldl (fun acc z=>iOr .u32 acc (relD k (zk z))) (ownR x)
noncomputable def relE (z:EX):Int:=relD 1048576 (zk z)
def okS (S r:Int):Bool:=((apB .u32 r S) == 0) && ((r != 0) || ((iAnd .u32 S 1) == 1))
noncomputable def wl (S:Int):List EX→Nat→List Int
  | [],_=>[]
  | z :: l,i=>bif okS S (relE z) then (i:Int) :: wl S l (i+1) else wl S l (i+1)
end Go.Pl
set_option linter.unusedVariables false
set_option linter.unusedSimpArgs false
set_option maxRecDepth 100000
namespace Go.Pl
open Go Go.Ab
def adZ (k:Int):Int:=if k=1∨k=2 then 0 else if k=6∨k=12∨k=13 then 1 else if 3≤k∧k≤11 then 2 else -1
theorem agw (k:Int) {n:Nat} (hn:1≤n):acq n k=some (adZ k):=by
  obtain ⟨n,rfl⟩:∃ j,n=j+1:=⟨n - 1,by omega⟩
  unfold acq
  rw [zB]
  simp only [zM]
  have ne:∀ {c:Int},k≠c→(k == c)=false:=fun h=>beq_eq_false_iff_ne.2 h
  by_cases h1:k=1
  · subst h1; rfl
  by_cases h2:k=2
  · subst h2; rfl
  by_cases h6:k=6
  · subst h6; rfl
  by_cases h12:k=12
  · subst h12; rfl
  by_cases h13:k=13
  · subst h13; rfl
  by_cases h3:k=3
  · subst h3; rfl
  by_cases h4:k=4
  · subst h4; rfl
  by_cases h5:k=5
  · subst h5; rfl
  by_cases h7:k=7
  · subst h7; rfl
  by_cases h8:k=8
  · subst h8; rfl
  by_cases h9:k=9
  · subst h9; rfl
  by_cases h10:k=10
  · subst h10; rfl
  by_cases h11:k=11
  · subst h11; rfl
  rw [ne h1,ne h2,ne h6,ne h12,ne h13,ne h3,ne h4,ne h5,ne h7,ne h8,ne h9,ne h10,ne h11]
  unfold adZ
  rw [if_neg (by omega),if_neg (by omega),if_neg (by omega)]
  rfl
def inE (k:Int):Bool:=decide (k≥0) && decide (k≤31)
def QT (x:zm):Bool:=!((x.fKind != 1) && ((x.fRel != 0) || (x.fCol != 0))) && inE x.fRel && inE x.fCol && QU x.fConst && ((x.fKind == 2) || (x.fConst.fKind == 0))
theorem aip {x:zm} (hc:Zp x.fConst) {n:Nat} (hn:5≤n):abQ n x=some (QT x):=by
  obtain ⟨n,rfl⟩:∃ j,n=j+1:=⟨n - 1,by omega⟩
  have e1:∀ k,aaS n k=some (inE k):=fun k=>by
    obtain ⟨n,rfl⟩:∃ j,n=j+1:=⟨n - 1,by omega⟩
    rfl
  unfold abQ QT
  rw [zB,e1,e1,acz _ (by omega)]
  cases ((x.fKind != 1) && ((x.fRel != 0) || (x.fCol != 0))) <;> cases inE x.fRel <;> cases inE x.fCol <;> cases QU x.fConst <;> rfl
def ad5 (x:zm):Bool:=(adZ x.fKind == ((sll x.fKids).length:Int)) && QT x
def sumO {α:Type} (f:α→Option Nat):List α→Option Nat
  | []=>some 0
  | z :: l=>match f z,sumO f l with
    | some a,some b=>some (a+b)
    | _,_=>none
noncomputable def frmE:Nat→zm→Option Nat
  | 0,_=>none
  | r+1,x=>bif ad5 x then (sumO (fun z=>frmE r (zk z)) (sll x.fKids)).map (·+1) else none
theorem aos {r:Nat} {x:zm} {c:Nat} (h:frmE r x=some c):1≤c:=by
  cases r with
  | zero=>cases h
  | succ r=>
    unfold frmE at h
    cases hn:ad5 x with
    | false=>rw [hn] at h; cases h
    | true=>
      rw [hn,cond_true,Option.map_eq_some_iff] at h
      obtain ⟨a,_,rfl⟩:=h
      omega
theorem aiF {α:Type} {f:α→Option Nat}:∀ {l:List α} {c:Nat},sumO f l=some c→∀ z,z∈l→∃ a,f z=some a∧a≤c
  | [],c,h,z,hz=>by cases hz
  | y :: l,c,h,z,hz=>by
    unfold sumO at h
    split at h
    · rename_i a b e1 e2
      injection h with h; subst h
      rcases List.mem_cons.1 hz with rfl | hz
      · exact ⟨a,e1,by omega⟩
      · obtain ⟨d,q1,q2⟩:=aiF e2 z hz
        exact ⟨d,q1,by omega⟩
    · cases h
theorem aek {r:Nat} {x:zm} {c:Nat} (h:frmE (r+1) x=some c):ad5 x=true∧∀ z,z∈sll x.fKids→∃ a,frmE r (zk z)=some a∧a < c:=by
  unfold frmE at h
  cases hn:ad5 x with
  | false=>rw [hn] at h; cases h
  | true=>
    rw [hn,cond_true,Option.map_eq_some_iff] at h
    obtain ⟨a,ha,rfl⟩:=h
    refine ⟨rfl,fun z hz=>?_⟩
    obtain ⟨b,q1,q2⟩:=aiF ha z hz
    exact ⟨b,q1,by omega⟩
def aeD (o:Option Nat) (left:Int):Int:=match o with
  | some c=>if (c:Int)≤left then left - c else -1
  | none=>-1
theorem aag {x:zm} (hw:zA x):Zp x.fConst:=by
  have h1:=hw.1
  unfold Zu at h1
  generalize hp:([.int .i64 x.fKind,.int .i64 x.fRel,.int .i64 x.fCol,.int .i64 x.fConst.fKind,.int .i64 x.fConst.fInt,.flt .f64 x.fConst.fFloat,.str x.fConst.fText,zg za x.fKids]:List PV)=p at h1
  cases h1 with
  | nil a b c v w=>
    simp only [List.cons.injEq,PV.int.injEq,PV.flt.injEq,PV.str.injEq,true_and,and_true] at hp
    obtain ⟨_,_,_,e1,e2,e3,e4,_⟩:=hp
    obtain ⟨v1,v2,v3,v4⟩:=v
    simp only at e1 e2 e3 e4
    have:x.fConst=⟨v1,v2,v3,v4⟩:=by
      cases hx:x.fConst with
      | mk a b c d=>rw [hx] at e1 e2 e3 e4; simp only at e1 e2 e3 e4; rw [e1,e2,e3,e4]
    rw [this]; exact w.2.2.2
  | some a b c v rows w hl hr=>
    simp only [List.cons.injEq,PV.int.injEq,PV.flt.injEq,PV.str.injEq,true_and,and_true] at hp
    obtain ⟨_,_,_,e1,e2,e3,e4,_⟩:=hp
    obtain ⟨v1,v2,v3,v4⟩:=v
    simp only at e1 e2 e3 e4
    have:x.fConst=⟨v1,v2,v3,v4⟩:=by
      cases hx:x.fConst with
      | mk a b c d=>rw [hx] at e1 e2 e3 e4; simp only at e1 e2 e3 e4; rw [e1,e2,e3,e4]
    rw [this]; exact w.2.2.2
theorem afI {α:Type} {f:α→Option Nat} {K:Int→Option Int} {F:Nat→Int→Int→Option Int} {ks:List α} {C:α→Int→Option Int}
    (hF:∀ m left i,F (m+1) left i=bif decide (i < (ks.length:Int)) then (idx ks i).bind fun z=>(C z left).bind fun r=>bif decide (r < 0) then some (-1) else F m r (IntKind.wrap .i64 (i+1)) else K left)
    {B:Int} (hB:B≤1000) (hC:∀ z,z∈ks→∀ left,0≤left→left≤B→C z left=some (aeD (f z) left)) (hks:ks.length≤1048576):
    ∀ (l:List α) (m:Nat) (p:List α) (left:Int),ks=p++l→l.length < m→0≤left→left≤B→
      F m left (p.length:Int)=match sumO f l with
        | some c=>if (c:Int)≤left then K (left - c) else some (-1)
        | none=>some (-1)
  | [],m,p,left,he,hm,h0,h4=>by
    obtain ⟨m,rfl⟩:∃ j,m=j+1:=⟨m - 1,by omega⟩
    rw [hF,dF (by rw [he]; simp),cond_false]
    simp only [sumO]
    rw [if_pos (by omega)]
    congr 1; omega
  | z :: l,m,p,left,he,hm,h0,h4=>by
    obtain ⟨m,rfl⟩:∃ j,m=j+1:=⟨m - 1,by omega⟩
    rw [List.length_cons] at hm
    have hz:z∈ks:=by rw [he]; simp
    have hix:idx ks (p.length:Int)=some z:=by rw [he,afn]; simp
    rw [hF,dT (by rw [he]; simp; omega),cond_true,hix,Option.bind_some,hC z hz left h0 h4,Option.bind_some]
    have hlen:ks.length=p.length+(l.length+1):=by rw [he]; simp
    rw [aa3 (by omega)]
    have e:p.length+1=(p++[z]).length:=by simp
    obtain ⟨v,hv⟩:∃ v,v=aeD (f z) left:=⟨_,rfl⟩
    rw [← hv]
    unfold sumO
    cases hf:f z with
    | none=>
      rw [hf] at hv
      rw [show v=-1 from hv]
      rfl
    | some a=>
      rw [hf] at hv
      simp only [aeD] at hv
      by_cases ha:(a:Int)≤left
      · rw [if_pos ha] at hv
        subst hv
        rw [dF (by omega),cond_false,e,afI hF hB hC hks l m (p++[z]) (left - a) (by rw [he]; simp) (by omega) (by omega) (by omega)]
        cases hs:sumO f l with
        | none=>rfl
        | some b=>
          simp only
          by_cases hb:(b:Int)≤left - a
          · rw [if_pos hb,if_pos (by omega)]; congr 1; omega
          · rw [if_neg hb,if_neg (by omega)]
      · rw [if_neg ha] at hv
        subst hv
        rw [dT (by omega),cond_true]
        cases hs:sumO f l with
        | none=>rfl
        | some b=>simp only; rw [if_neg (by omega)]
theorem aop:∀ (r:Nat),r≤24→∀ (x:zm),zA x→∀ (left:Int),left≤400→-1≤left→∀ m n,r+1≤m→2000000+r≤n→
    qJ m n x (25 - (r:Int)) left=some (aeD (frmE r x) left):=by
  intro r
  induction r with
  | zero=>
    intro hr x hw left h4 h0 m n hm hn
    obtain ⟨m,rfl⟩:∃ j,m=j+1:=⟨m - 1,by omega⟩
    obtain ⟨n,rfl⟩:∃ j,n=j+1:=⟨n - 1,by omega⟩
    show QS (qJ m) (n+1) x _ left=_
    unfold QS
    rw [zB,dT (by omega),cond_true]
    rfl
  | succ r ih=>
    intro hr x hw left h4 h0 m n hm hn
    obtain ⟨m,rfl⟩:∃ j,m=j+1:=⟨m - 1,by omega⟩
    obtain ⟨n,rfl⟩:∃ j,n=j+1:=⟨n - 1,by omega⟩
    show QS (qJ m) (n+1) x _ left=_
    unfold QS
    rw [zB,dF (by omega),cond_false]
    by_cases hl:left < 1
    · rw [dT hl,cond_true]
      unfold aeD
      cases hf:frmE (r+1) x with
      | none=>rfl
      | some c=>
        have:=aos hf
        simp only
        rw [if_neg (by omega)]
    · rw [dF hl,cond_false,agw _ (by omega),Option.bind_some]
      rw [frmE]
      unfold ad5
      by_cases hk:adZ x.fKind=((sll x.fKids).length:Int)
      · rw [show (adZ x.fKind != ((sll x.fKids).length:Int))=false by simp [hk],cond_false,show (adZ x.fKind == ((sll x.fKids).length:Int))=true by simp [hk],Bool.true_and]
        rw [show zm.mk x.fKind x.fRel x.fCol x.fConst x.fKids=x from rfl,aip (aag hw) (by omega),Option.bind_some]
        cases hfd:QT x with
        | false=>rfl
        | true=>
          rw [Bool.not_true,cond_false,cond_true]
          show zM (fun k12=>Q9 n (qJ m) x (25 - ((r+1:Nat):Int)) k12 n (IntKind.wrap .i64 (left - 1)) 0) (fun (y9:Int)=>some y9)=_
          unfold zM
          rw [abv (by omega) (by omega)]
          have key:=afI (f:=fun z=>frmE r (zk z)) (K:=fun y9=>some y9) (F:=fun m' left' i=>Q9 n (qJ m) x (25 - ((r+1:Nat):Int)) (fun y9=>some y9) m' left' i) (ks:=sll x.fKids)
            (C:=fun z left'=>qJ m n (zk z) (IntKind.wrap .i64 ((25 - ((r+1:Nat):Int))+1)) left')
            (fun m' left' i=>rfl) (B:=400) (by omega) (fun z hz left' h1 h2=>by
              show qJ m n (zk z) (IntKind.wrap .i64 ((25 - ((r+1:Nat):Int))+1)) left'=_
              rw [abv (by omega) (by omega),show (25 - ((r+1:Nat):Int))+1=25 - (r:Int) by omega]
              exact ih (by omega) _ (aey hw hz) left' h2 (by omega) m n (by omega) (by omega)) (aem hw) (sll x.fKids) n [] (left - 1) rfl (by have:=aem hw; omega) (by omega) (by omega)
          refine Eq.trans key ?_
          cases hs:sumO (fun z=>frmE r (zk z)) (sll x.fKids) with
          | none=>rfl
          | some c=>
            simp only [Option.map_some,aeD]
            by_cases hc:(c:Int)≤left - 1
            · rw [if_pos hc,if_pos (by omega)]; congr 1; omega
            · rw [if_neg hc,if_neg (by omega)]
      · rw [show (adZ x.fKind != ((sll x.fKids).length:Int))=true by simp [hk],cond_true,show (adZ x.fKind == ((sll x.fKids).length:Int))=false by simp [hk],Bool.false_and]
        rfl
noncomputable def ZB (x:zm):Bool:=match frmE 24 x with
  | some c=>decide (c≤400)
  | none=>false
theorem aeB {x:zm} (hw:zA x) {n:Nat} (hn:2000100≤n):aa4 n x=some (ZB x):=by
  obtain ⟨n,rfl⟩:∃ j,n=j+1:=⟨n - 1,by omega⟩
  unfold aa4
  rw [zB]
  have:=aop 24 (by omega) x hw 400 (by omega) (by omega) n n (by omega) (by omega)
  rw [show (25 - ((24:Nat):Int))=1 from rfl] at this
  rw [show afQ n x 1 400=some _ from this,Option.bind_some]
  unfold ZB aeD
  cases frmE 24 x with
  | none=>rfl
  | some c=>exact congrArg some (decide_eq_decide.2 (by simp only; split <;> omega))
theorem abA {x:zm} (h:ZB x=true):∃ c,frmE 24 x=some c∧c≤400:=by
  unfold ZB at h
  split at h
  · rename_i c hc; exact ⟨c,hc,by simpa using h⟩
  · cases h
end Go.Pl
set_option linter.unusedVariables false
set_option linter.unusedSimpArgs false
set_option maxRecDepth 100000
namespace Go.Pl
open Go Go.Ab
theorem W_un {z:EX} (h:zN z):zA (zk z):=by
  unfold zN at h
  rw [Zj z] at h
  exact h
theorem W_ok {z:EX} (h:zA (zk z)):zN z:=by
  unfold zN
  rw [Zj z]
  exact h
theorem anf:∀ (s m n:Nat) (a:Option (List EX)) (most:Int),(∀ z,z∈sll a→zA (zk z)∧szL (zk z)≤s)→(sll a).length≤1048576→s < m→2000020+s≤n→∃ r,QZ m n a most=some r
  | s,m,n,a,most,hz,hl,hm,hn=>by
    obtain ⟨m,rfl⟩:∃ j,m=j+1:=⟨m - 1,by omega⟩
    obtain ⟨n,rfl⟩:∃ j,n=j+1:=⟨n - 1,by omega⟩
    show ∃ r,abb (QZ m) (n+1) a most=some r
    unfold abb
    rw [zB]
    cases hq:decide (((sll a).length:Int) > most) with
    | true=>exact ⟨_,rfl⟩
    | false=>
      rw [cond_false]
      show ∃ r,qK n (QZ m) a most (fun y3=>some y3) n ((sll a).length:Int) ((0:Nat):Int)=some r
      have key:∀ (d mm i:Nat) (acc:Int),i+d=(sll a).length→d < mm→∃ r,qK n (QZ m) a most (fun y3=>some y3) mm acc (i:Int)=some r:=by
        intro d
        induction d with
        | zero=>
          intro mm i acc hi hmm
          obtain ⟨mm,rfl⟩:∃ j,mm=j+1:=⟨mm - 1,by omega⟩
          rw [qK,dF (by omega:¬ (i:Int) < ((sll a).length:Int)),Bool.false_and,cond_false]
          exact ⟨_,rfl⟩
        | succ d ih=>
          intro mm i acc hi hmm
          obtain ⟨mm,rfl⟩:∃ j,mm=j+1:=⟨mm - 1,by omega⟩
          rw [qK]
          cases hc:(decide ((i:Int) < ((sll a).length:Int)) && decide (acc≤most)) with
          | false=>exact ⟨_,rfl⟩
          | true=>
            have hi':i < (sll a).length:=by omega
            have hzi:=hz _ (List.getElem_mem hi')
            rw [cond_true,afn,List.getElem?_eq_getElem hi',Option.bind_some,aa3 (by omega)]
            cases decide ((((((zk (sll a)[i]).fConst).fText).size:Nat):Int) > most) with
            | true=>exact ⟨_,rfl⟩
            | false=>
              rw [cond_false]
              cases decide ((IntKind.wrap .i64 (acc+((((zk (sll a)[i]).fConst).fText).size:Int)))≤most) with
              | false=>exact ih mm (i+1) _ (by omega) (by omega)
              | true=>
                rw [cond_true]
                have hs:0 < s:=by
                  have:=hzi.2
                  unfold szL Zu at this
                  simp only [PV.bulkL,PV.bulk] at this
                  omega
                obtain ⟨r,hr⟩:=anf (s - 1) m n ((zk (sll a)[i]).fKids) (IntKind.wrap .i64 (most - (IntKind.wrap .i64 (acc+((((zk (sll a)[i]).fConst).fText).size:Int))))) (fun y hy=>⟨aey hzi.1 hy,by have:=aoC hy; omega⟩) (aem hzi.1) (by omega) (by omega)
                rw [hr,Option.bind_some]
                exact ih mm (i+1) _ (by omega) (by omega)
      exact key (sll a).length n 0 _ (by omega) (by omega)
  termination_by s=>s
  decreasing_by omega
end Go.Pl
set_option linter.unusedVariables false
set_option linter.unusedSimpArgs false
set_option maxRecDepth 100000
namespace Go.Pl
open Go Go.Ab
theorem map_inj {α β:Type} {R:α→β} (hR:∀ x y,R x=R y→x=y):∀ (a b:List α),a.map R=b.map R→a=b
  | [],[],_=>rfl
  | [],y :: b,h=>by cases h
  | x :: a,[],h=>by cases h
  | x :: a,y :: b,h=>by
    simp only [List.map_cons,List.cons.injEq] at h
    rw [hR x y h.1,map_inj hR a b h.2]
theorem ZY {α:Type} {R:α→List PV} (hR:∀ x y,R x=R y→x=y) {a b:Option (List α)} (h:zg R a=zg R b):a=b:=by
  cases a with
  | none=>
    cases b with
    | none=>rfl
    | some b=>cases h
  | some a=>
    cases b with
    | none=>cases h
    | some b=>
      simp only [zg,PV.sl.injEq] at h
      rw [map_inj hR a b h]
theorem aah (x y:zc) (h:za x=za y):x=y:=Subtype.ext h
theorem an5 (x y:zn) (h:zd x=zd y):x=y:=Subtype.ext h
theorem aml (x y:zm) (h:Zu x=Zu y):x=y:=by
  obtain ⟨a1,a2,a3,⟨v1,v2,v3,v4⟩,a5⟩:=x
  obtain ⟨b1,b2,b3,⟨w1,w2,w3,w4⟩,b5⟩:=y
  unfold Zu at h
  simp only [List.cons.injEq,PV.int.injEq,PV.flt.injEq,PV.str.injEq,true_and,and_true] at h
  obtain ⟨rfl,rfl,rfl,rfl,rfl,rfl,rfl,h5⟩:=h
  rw [ZY aah h5]
theorem ag0 (x y:zo) (h:zi x=zi y):x=y:=by
  obtain ⟨k,a1,a2,a3,⟨v1,v2,v3,v4⟩,a5⟩:=x
  obtain ⟨k',b1,b2,b3,⟨w1,w2,w3,w4⟩,b5⟩:=y
  unfold zi at h
  simp only [List.cons.injEq,PV.int.injEq,PV.flt.injEq,PV.str.injEq,true_and,and_true] at h
  obtain ⟨rfl,rfl,rfl,rfl,rfl,rfl,rfl,rfl,h5⟩:=h
  rw [ZY aah h5]
theorem ag9 (x y:zu) (h:zj x=zj y):x=y:=by
  obtain ⟨k,a1⟩:=x
  obtain ⟨k',b1⟩:=y
  unfold zj at h
  simp only [List.cons.injEq,PV.int.injEq,PV.bool.injEq,true_and,and_true] at h
  obtain ⟨rfl,rfl⟩:=h
  rfl
theorem amE (x y:zb) (h:ZN x=ZN y):x=y:=by
  obtain ⟨a1,a2,a3,a4,a5,a6,a7,a8,a9⟩:=x
  obtain ⟨b1,b2,b3,b4,b5,b6,b7,b8,b9⟩:=y
  unfold ZN at h
  simp only [List.cons.injEq,PV.int.injEq,true_and,and_true] at h
  obtain ⟨rfl,rfl,h3,h4,h5,h6,h7,h8,h9⟩:=h
  rw [ZY aah h3,ZY aah h4,ZY aah h5,ZY aah h6,ZY ag0 h7,ZY ag9 h8,ZY an5 h9]
theorem adl (x:zm):zk (zz x)=x:=(aml _ _ ((Zj (zz x)).symm.trans rfl))
theorem ahp (x:zb):zq (zr x)=x:=(amE _ _ ((Zg (zr x)).symm.trans rfl))
abbrev PX:=zn
def szP (x:zb):Nat:=PV.bulkL (ZN x)
theorem ab0 {α:Type} (R:α→List PV) (s:Option (List α)):1≤(zg R s).bulk:=by
  cases s with
  | none=>simp only [zg,PV.bulk]; omega
  | some l=>simp only [zg,PV.bulk]; omega
theorem amZ {x:zb} {z:PX} (h:z∈sll x.fKids):szP (zq z)+8≤szP x:=by
  have e:szP (zq z)=PV.bulkL (zd z):=by rw [Zg z]; rfl
  rw [e]
  unfold szP ZN
  cases hk:x.fKids with
  | none=>rw [hk] at h; cases h
  | some l=>
    rw [hk] at h
    have:=acw (rows:=l.map zd) (r:=zd z) (List.mem_map_of_mem h)
    have b1:=ab0 za x.fWhere
    have b2:=ab0 za x.fLeft
    have b3:=ab0 za x.fRight
    have b4:=ab0 za x.fOut
    have b5:=ab0 zi x.fAggs
    have b6:=ab0 zj x.fOrder
    rw [show zg zd (some l)=.sl (l.map zd) from rfl]
    simp only [PV.bulkL,PV.bulk]
    omega
def PW (x:zb):Prop:=wI .i64 x.fKind∧wI .i64 x.fRel∧wSl zN x.fWhere∧wSl zN x.fLeft∧wSl zN x.fRight∧wSl zN x.fOut∧wSl aaD x.fAggs∧wSl acx x.fOrder
theorem ap3 {x:zb} (hw:aaq x):PW x∧(sll x.fKids).length≤1048576∧∀ z,z∈sll x.fKids→aaq (zq z):=by
  have h1:=hw.1
  have hb:=hw.2
  have hkid:∀ z,z∈sll x.fKids→aat (zd z)→aaq (zq z):=fun z hz hg=>by
    have:=amZ hz
    unfold szP at this
    rw [Zg z] at hg
    exact ⟨hg,by omega⟩
  unfold ZN at h1
  generalize hp:([.int .i64 x.fKind,.int .i64 x.fRel,zg za x.fWhere,zg za x.fLeft,zg za x.fRight,zg za x.fOut,zg zi x.fAggs,zg zj x.fOrder,zg zd x.fKids]:List PV)=p at h1
  cases h1 with
  | nil a b c d e f g h w=>
    simp only [List.cons.injEq,PV.int.injEq,true_and,and_true] at hp
    obtain ⟨e1,e2,e3,e4,e5,e6,e7,e8,e9⟩:=hp
    have k9:x.fKids=none:=by
      cases hk:x.fKids with
      | none=>rfl
      | some l=>rw [hk] at e9; cases e9
    rw [← e1,← e2,← ZY aah e3,← ZY aah e4,← ZY aah e5,← ZY aah e6,← ZY ag0 e7,← ZY ag9 e8] at w
    refine ⟨w,by rw [k9]; simp [sll],fun z hz=>by rw [k9] at hz; cases hz⟩
  | some a b c d e f g h rows w hl hr=>
    simp only [List.cons.injEq,PV.int.injEq,true_and,and_true] at hp
    obtain ⟨e1,e2,e3,e4,e5,e6,e7,e8,e9⟩:=hp
    rw [← e1,← e2,← ZY aah e3,← ZY aah e4,← ZY aah e5,← ZY aah e6,← ZY ag0 e7,← ZY ag9 e8] at w
    cases hk:x.fKids with
    | none=>rw [hk] at e9; cases e9
    | some l=>
      rw [hk] at e9 hkid
      simp only [zg,PV.sl.injEq] at e9
      subst e9
      refine ⟨w,by simpa [sll] using hl,fun z hz=>hkid z hz (hr _ (List.mem_map_of_mem hz))⟩
def WD:Nat→zb→Prop
  | 0,_=>False
  | s+1,x=>PW x∧(sll x.fKids).length≤1048576∧∀ z,z∈sll x.fKids→WD s (zq z)
theorem apP:∀ (s:Nat) (x:zb),szP x≤8 * s→aaq x→WD s x
  | 0,x,h,_=>by
    unfold szP ZN at h
    simp only [PV.bulkL,PV.bulk] at h
    omega
  | s+1,x,h,hw=>by
    obtain ⟨h1,h2,h3⟩:=ap3 hw
    exact ⟨h1,h2,fun z hz=>apP s _ (by have:=amZ hz; omega) (h3 z hz)⟩
theorem W_WD {x:zb} (hw:aaq x):WD 131072 x:=apP _ x hw.2 hw
theorem ao1 {α:Type} {W:α→Prop}:wSl W none:=⟨by simp [sll],fun x h=>by cases h⟩
theorem afV {a:Option (List EX)} (ha:wSl zN a) (most:Int) {n:Nat} (hn:3048700≤n):∃ r,abI n a most=some r:=
  anf 1048576 n n a most (fun z hz=>⟨W_un (ha.2 z hz),(W_un (ha.2 z hz)).2⟩) ha.1 (by omega) (by omega)
theorem ai8 {q:Qi} (h0:q.fRels=none) (h1:wSl zN q.fWhere) (h2:wSl zN q.fOut) (h3:wSl aaD q.fAggs) (most:Int) {n:Nat} (hn:3048710≤n):∃ r,abD n q most=some r:=by
  obtain ⟨n,rfl⟩:∃ j,n=j+1:=⟨n - 1,by omega⟩
  unfold abD
  rw [zB]
  cases ((decide (((sll q.fRels).length:Int) > most)) || (decide (((sll q.fAggs).length:Int) > most))) || (decide (((sll q.fOrder).length:Int) > most)) with
  | true=>exact ⟨_,rfl⟩
  | false=>
    rw [cond_false]
    simp only [zM]
    generalize IntKind.wrap .i64 ((IntKind.wrap .i64 (((sll q.fRels).length:Int)+((sll q.fAggs).length:Int)))+((sll q.fOrder).length:Int))=y
    have l5:∀ (K:Int→Option Int),Q8 n q most K n y 0=K y:=fun K=>by
      obtain ⟨n,rfl⟩:∃ j,n=j+1:=⟨n - 1,by omega⟩
      rw [Q8,h0]
      rfl
    have l15:∀ (l:List zo) (p:List zo) (m:Nat) (acc:Int),sll q.fAggs=p++l→l.length < m→∃ r,qf n q most (fun y13=>some y13) m acc (p.length:Int)=some r:=by
      intro l
      induction l with
      | nil=>
        intro p m acc he hm
        obtain ⟨m,rfl⟩:∃ j,m=j+1:=⟨m - 1,by omega⟩
        rw [qf,dF (by rw [he]; simp),Bool.false_and,cond_false]
        exact ⟨_,rfl⟩
      | cons x l ih=>
        intro p m acc he hm
        rw [List.length_cons] at hm
        obtain ⟨m,rfl⟩:∃ j,m=j+1:=⟨m - 1,by omega⟩
        have hx:=h3.2 x (by rw [he]; simp)
        have hlen:=h3.1
        rw [he] at hlen
        simp only [List.length_append,List.length_cons] at hlen
        rw [qf,dT (by rw [he]; simp; omega),Bool.true_and]
        cases decide (acc≤most) with
        | false=>exact ⟨_,rfl⟩
        | true=>
          rw [cond_true,show idx (sll q.fAggs) (p.length:Int)=some x by rw [he,afn]; simp,Option.bind_some]
          obtain ⟨r,hr⟩:=afV (a:=some [zz x.fOf]) ⟨by simp [sll],fun z hz=>by
            simp only [sll,List.mem_singleton] at hz
            subst hz
            exact hx.2⟩ (IntKind.wrap .i64 (most - acc)) (n:=n) (by omega)
          rw [hr,Option.bind_some,aa3 (by omega),show p.length+1=(p++[x]).length by simp]
          exact ih (p++[x]) m _ (by rw [he]; simp) (by omega)
    have fin:∀ acc:Int,∃ r,qf n q most (fun y13=>some y13) n acc 0=some r:=fun acc=>l15 (sll q.fAggs) [] n acc rfl (by have:=h3.1; omega)
    have s2:∀ acc:Int,∃ r,(bif decide (acc≤most) then (abI n q.fOut (IntKind.wrap .i64 (most - acc))).bind fun x27=>qf n q most (fun y13=>some y13) n (IntKind.wrap .i64 (acc+x27)) 0 else qf n q most (fun y13=>some y13) n acc 0)=some r:=fun acc=>by
      cases decide (acc≤most) with
      | false=>exact fin acc
      | true=>
        obtain ⟨r,hr⟩:=afV h2 (IntKind.wrap .i64 (most - acc)) (n:=n) (by omega)
        rw [cond_true,hr,Option.bind_some]
        exact fin _
    rw [l5]
    cases hy:decide (y≤most) with
    | false=>
      have:=s2 y
      rw [hy] at this
      exact this
    | true=>
      obtain ⟨r,hr⟩:=afV h1 (IntKind.wrap .i64 (most - y)) (n:=n) (by omega)
      rw [cond_true,hr,Option.bind_some]
      exact s2 _
theorem aiN:∀ (s:Nat) (x:zb),WD s x→∀ (most:Int) (m n:Nat),s≤m→3048720+s≤n→∃ r,QY m n x most=some r
  | 0,x,h,_,_,_,_,_=>h.elim
  | s+1,x,h,most,m,n,hm,hn=>by
    obtain ⟨m,rfl⟩:∃ j,m=j+1:=⟨m - 1,by omega⟩
    obtain ⟨n,rfl⟩:∃ j,n=j+1:=⟨n - 1,by omega⟩
    show ∃ r,abr (QY m) (n+1) x most=some r
    obtain ⟨⟨w1,w2,w3,w4,w5,w6,w7,w8⟩,hk,hz⟩:=h
    unfold abr
    rw [zB]
    obtain ⟨r,hr⟩:=ai8 (q:=Qi.mk none x.fWhere false x.fOut x.fAggs x.fOrder) rfl w3 w6 w7 most (n:=n) (by omega)
    rw [hr,Option.bind_some]
    simp only [zM]
    have l5:∀ (l:List PX) (p:List PX) (mm:Nat) (acc:Int),sll x.fKids=p++l→l.length < mm→∃ r,qV n (QY m) x most (fun y7=>some y7) mm acc (p.length:Int)=some r:=by
      intro l
      induction l with
      | nil=>
        intro p mm acc he hm
        obtain ⟨mm,rfl⟩:∃ j,mm=j+1:=⟨mm - 1,by omega⟩
        rw [qV,dF (by rw [he]; simp),Bool.false_and,cond_false]
        exact ⟨_,rfl⟩
      | cons z l ih=>
        intro p mm acc he hmm
        rw [List.length_cons] at hmm
        obtain ⟨mm,rfl⟩:∃ j,mm=j+1:=⟨mm - 1,by omega⟩
        have hlen:=hk
        rw [he] at hlen
        simp only [List.length_append,List.length_cons] at hlen
        rw [qV,dT (by rw [he]; simp; omega),Bool.true_and]
        cases decide (acc≤most) with
        | false=>exact ⟨_,rfl⟩
        | true=>
          rw [cond_true,show idx (sll x.fKids) (p.length:Int)=some z by rw [he,afn]; simp,Option.bind_some]
          obtain ⟨r,hr⟩:=aiN s (zq z) (hz z (by rw [he]; simp)) (IntKind.wrap .i64 (most - acc)) m n (by omega) (by omega)
          rw [hr,Option.bind_some,aa3 (by omega),show p.length+1=(p++[z]).length by simp]
          exact ih (p++[z]) mm _ (by rw [he]; simp) (by omega)
    have fin:∀ acc:Int,∃ r,qV n (QY m) x most (fun y7=>some y7) n acc 0=some r:=fun acc=>l5 (sll x.fKids) [] n acc rfl (by omega)
    cases decide (IntKind.wrap .i64 (1+r)≤most) with
    | false=>exact fin _
    | true=>
      obtain ⟨r',hr'⟩:=ai8 (q:=Qi.mk none x.fLeft false x.fRight none none) rfl w4 w5 ao1 most (n:=n) (by omega)
      rw [cond_true,hr',Option.bind_some]
      exact fin _
theorem ale {s:Nat} {x:zb} (h:WD s x) {n:Nat} (hn:3048730+s≤n):∃ b,abP n x=some b:=by
  obtain ⟨n,rfl⟩:∃ j,n=j+1:=⟨n - 1,by omega⟩
  unfold abP
  rw [zB]
  obtain ⟨r,hr⟩:=aiN s x h 800 n n (by omega) (by omega)
  rw [show afN n x 800=_ from hr,Option.bind_some]
  exact ⟨_,rfl⟩
end Go.Pl
set_option linter.unusedVariables false
set_option linter.unusedSimpArgs false
set_option maxRecDepth 100000
namespace Go.Pl
open Go Go.Ab
def adT (k:Int):Int:=if k=1 then 0 else if 5≤k∧k≤7 then 1 else if 2≤k∧k≤4 then 2 else -1
theorem agN (k:Int) {n:Nat} (hn:1≤n):acu n k=some (adT k):=by
  obtain ⟨n,rfl⟩:∃ j,n=j+1:=⟨n - 1,by omega⟩
  unfold acu
  rw [zB]
  simp only [zM]
  by_cases h1:k=1
  · subst h1; rfl
  by_cases h2:k=2
  · subst h2; rfl
  by_cases h3:k=3
  · subst h3; rfl
  by_cases h4:k=4
  · subst h4; rfl
  by_cases h5:k=5
  · subst h5; rfl
  by_cases h6:k=6
  · subst h6; rfl
  by_cases h7:k=7
  · subst h7; rfl
  rw [beqF h1,beqF h2,beqF h3,beqF h4,beqF h5,beqF h6,beqF h7]
  unfold adT
  rw [if_neg (by omega),if_neg (by omega),if_neg (by omega)]
  rfl
def nulL (l:List Nat):Bool:=l.all (· == 0)
def amF (k:Int) (w l r o a d:Nat):Bool:=
  bif (k == 3) || (k == 4) then (l == r) && !(l == 0) && nulL [o,a,d]
  else bif (k == 1) || (k == 2) then nulL [l,r,o,a,d]
  else bif k == 6 then !(o == 0) && nulL [w,l,r,a,d]
  else bif k == 5 then nulL [w,l,r,d]
  else bif k == 7 then !(d == 0) && nulL [w,l,r,o,a]
  else nulL [w,l,r,o,a,d]
def ajj (x:zb):Bool:=amF x.fKind (sll x.fWhere).length (sll x.fLeft).length (sll x.fRight).length (sll x.fOut).length (sll x.fAggs).length (sll x.fOrder).length
theorem sum5 {a b c d e:Int} {l:List Nat} (h:l.length≤20) (hl:∀ z,z∈l→z≤1048576) (hs:a+b+c+d+e=((l.sum:Nat):Int)) (p1:0≤a) (p2:0≤b) (p3:0≤c) (p4:0≤d) (p5:0≤e) (hb:a+b+c+d+e≤100000000):
    (IntKind.wrap .i64 ((IntKind.wrap .i64 ((IntKind.wrap .i64 ((IntKind.wrap .i64 (a+b))+c))+d))+e) == 0)=nulL l:=by
  rw [abv (x:=a+b) (by omega) (by omega),abv (x:=a+b+c) (by omega) (by omega),abv (x:=a+b+c+d) (by omega) (by omega),abv (by omega) (by omega),hs]
  unfold nulL
  have:∀ (l:List Nat),(((l.sum:Nat):Int) == 0)=l.all (· == 0):=by
    intro l
    induction l with
    | nil=>rfl
    | cons x l ih=>
      rw [List.sum_cons,List.all_cons,← ih]
      by_cases hx:x=0
      · subst hx; simp
      · rw [show (x == 0)=false by simpa using hx,Bool.false_and]
        exact beqF (by omega)
  exact this l
theorem ajw {x:zb} (hx:PW x) {n:Nat} (hn:1≤n):acE n x=some (ajj x):=by
  obtain ⟨n,rfl⟩:∃ j,n=j+1:=⟨n - 1,by omega⟩
  obtain ⟨_,_,w3,w4,w5,w6,w7,w8⟩:=hx
  have h3:=w3.1; have h4:=w4.1; have h5:=w5.1; have h6:=w6.1; have h7:=w7.1; have h8:=w8.1
  unfold acE ajj
  rw [zB]
  simp only [zM]
  generalize (sll x.fWhere).length=w at *
  generalize (sll x.fLeft).length=l at *
  generalize (sll x.fRight).length=r at *
  generalize (sll x.fOut).length=o at *
  generalize (sll x.fAggs).length=a at *
  generalize (sll x.fOrder).length=d at *
  have c0:∀ z:Nat,(((z:Nat):Int) == 0)=(z == 0):=fun z=>by
    by_cases h:z=0
    · subst h; rfl
    · rw [beqF (by omega)]; simp [h]
  have lr:(((l:Int) != (r:Int)) || ((l:Int) == 0))=!((l == r) && !(l == 0)):=by
    rw [c0,Bool.not_and,Bool.not_not]
    by_cases h:l=r
    · subst h; simp
    · rw [show ((l:Int) != (r:Int))=true by simp; omega]; simp [h]
  have wl:IntKind.wrap .i64 ((l:Int)+(r:Int))=(l:Int)+r:=abv (by omega) (by omega)
  have s5:∀ (A B C D E:Int) (q:List Nat),q.length≤20→(∀ z,z∈q→z≤1048576)→A+B+C+D+E=((q.sum:Nat):Int)→0≤A→0≤B→0≤C→0≤D→0≤E→A+B+C+D+E≤100000000→(IntKind.wrap .i64 ((IntKind.wrap .i64 ((IntKind.wrap .i64 ((IntKind.wrap .i64 (A+B))+C))+D))+E) == 0)=nulL q:=fun A B C D E q h1 h2 h3 h4 h5 h6 h7 h8 h9=>sum5 h1 h2 h3 h4 h5 h6 h7 h8 h9
  have hq:∀ z,z∈[w,l,r,o,a,d]→z≤1048576:=fun z hz=>by
    simp only [List.mem_cons,List.not_mem_nil,or_false] at hz
    rcases hz with rfl | rfl | rfl | rfl | rfl | rfl <;> assumption
  have hsub:∀ (q:List Nat),(∀ z,z∈q→z∈[w,l,r,o,a,d])→∀ z,z∈q→z≤1048576:=fun q h z hz=>hq z (h z hz)
  rw [wl]
  unfold amF
  by_cases k3:x.fKind=3
  · rw [beqT k3,cond_true,cond_true,Bool.true_or,cond_true,lr]
    cases hh:((l == r) && !(l == 0)) with
    | false=>rfl
    | true=>
      rw [Bool.not_true,cond_false,Bool.true_and,s5 _ _ _ _ _ [o,a,d] (by simp) (hsub _ (by simp)) (by simp; omega) (by omega) (by omega) (by omega) (by omega) (by omega) (by omega)]
  rw [beqF k3,cond_false,Bool.false_or]
  by_cases k4:x.fKind=4
  · rw [beqT k4,cond_true,cond_true,lr]
    cases hh:((l == r) && !(l == 0)) with
    | false=>rfl
    | true=>
      rw [Bool.not_true,cond_false,Bool.true_and,s5 _ _ _ _ _ [o,a,d] (by simp) (hsub _ (by simp)) (by simp; omega) (by omega) (by omega) (by omega) (by omega) (by omega) (by omega)]
  rw [beqF k4,cond_false,cond_false]
  by_cases k1:x.fKind=1
  · rw [beqT k1,cond_true,cond_true,Bool.true_or,cond_true,s5 _ _ _ _ _ [l,r,o,a,d] (by simp) (hsub _ (by simp)) (by simp; omega) (by omega) (by omega) (by omega) (by omega) (by omega) (by omega)]
  rw [beqF k1,cond_false,Bool.false_or]
  by_cases k2:x.fKind=2
  · rw [beqT k2,beqF (show ¬ x.fKind=6 by omega),beqF (show ¬ x.fKind=5 by omega),beqF (show ¬ x.fKind=7 by omega)]
    simp only [cond_true,cond_false]
    rw [s5 _ _ _ _ _ [l,r,o,a,d] (by simp) (hsub _ (by simp)) (by simp; omega) (by omega) (by omega) (by omega) (by omega) (by omega) (by omega)]
  rw [beqF k2,cond_false,cond_false]
  by_cases k6:x.fKind=6
  · rw [beqT k6,cond_true,cond_true,c0]
    cases hh:(o == 0) with
    | true=>rfl
    | false=>
      rw [cond_false,Bool.not_false,Bool.true_and,s5 _ _ _ _ _ [w,l,r,a,d] (by simp) (hsub _ (by simp)) (by simp; omega) (by omega) (by omega) (by omega) (by omega) (by omega) (by omega)]
  rw [beqF k6,cond_false,cond_false]
  by_cases k5:x.fKind=5
  · rw [beqT k5,cond_true,cond_true,s5 _ _ _ _ _ [w,l,r,d] (by simp) (hsub _ (by simp)) (by simp; omega) (by omega) (by omega) (by omega) (by omega) (by omega) (by omega)]
  rw [beqF k5,cond_false,cond_false]
  by_cases k7:x.fKind=7
  · rw [beqT k7,cond_true,cond_true,c0]
    cases hh:(d == 0) with
    | true=>rfl
    | false=>
      rw [cond_false,Bool.not_false,Bool.true_and,s5 _ _ _ _ _ [w,l,r,o,a] (by simp) (hsub _ (by simp)) (by simp; omega) (by omega) (by omega) (by omega) (by omega) (by omega) (by omega)]
  rw [beqF k7,cond_false,cond_false,s5 _ _ _ _ _ [w,l,r,o,a,d] (by simp) (hsub _ (by simp)) (by simp; omega) (by omega) (by omega) (by omega) (by omega) (by omega) (by omega)]
theorem aiV {α:Type} {F:Nat→Int→Option Int} {l:List α} {p:α→Bool} (hl:l.length≤1048576) {m:Nat} (hm:2000000≤m)
    (hF:∀ (m i:Nat) (x:α),(hi:i < l.length)→l[i]=x→F (m+1) (i:Int)=bif p x then some (i:Int) else F m (IntKind.wrap .i64 ((i:Int)+1))) (hE:∀ (m:Nat),F (m+1) (l.length:Int)=some (-1)):
    ((F m 0).bind fun x1=>some (decide (x1≥0)))=some (l.any p):=by
  have key:∀ (q:List α) (i m:Nat),l.drop i=q→i≤l.length→l.length - i < m→((F m (i:Int)).bind fun x1=>some (decide (x1≥0)))=some (q.any p):=by
    intro q
    induction q with
    | nil=>
      intro i m hd hi hm
      obtain ⟨m,rfl⟩:∃ j,m=j+1:=⟨m - 1,by omega⟩
      have:i=l.length:=by
        have:=congrArg List.length hd
        simp at this; omega
      subst this
      rw [hE]; rfl
    | cons x q ih=>
      intro i m hd hi hm
      obtain ⟨m,rfl⟩:∃ j,m=j+1:=⟨m - 1,by omega⟩
      have hlt:i < l.length:=by
        have:=congrArg List.length hd
        simp at this; omega
      rw [List.drop_eq_getElem_cons hlt] at hd
      injection hd with h1 h2
      rw [hF m i x hlt h1,List.any_cons]
      cases p x with
      | true=>rw [cond_true,Option.bind_some,dT (by omega)]; rfl
      | false=>rw [cond_false,aa3 (by omega),ih (i+1) m h2 (by omega) (by omega)]; rfl
  exact key l 0 m rfl (by omega) (by omega)
theorem un_W {z:EX} (h:zN z):zA (zk z):=W_un h
theorem aiC {a:Option (List EX)} (ha:wSl zN a) {n:Nat} (hn:2000200≤n):zZ n a=some ((sll a).any fun z=>!ZB (zk z)):=by
  obtain ⟨n,rfl⟩:∃ j,n=j+2:=⟨n - 2,by omega⟩
  unfold zZ ZQ
  rw [zB,zB]
  simp only [zM]
  exact aiV (F:=fun m i=>zD n a (fun _=>some (-1)) m i) (l:=sll a) (p:=fun z=>!ZB (zk z)) ha.1 (m:=n) (by omega) (fun m i z hi e=>by
    have hz:=ha.2 z (by rw [← e]; exact List.getElem_mem hi)
    show zD _ _ _ _ _=_
    rw [zD,dT (by omega),cond_true,aaX hi e,Option.bind_some]
    have:aaI n (zk z)=some (!ZB (zk z)):=by
      obtain ⟨n,rfl⟩:∃ j,n=j+1:=⟨n - 1,by omega⟩
      unfold aaI
      rw [zB,aeB (un_W hz) (by omega)]; rfl
    rw [show aaI n (zm.mk ((zk z).fKind) ((zk z).fRel) ((zk z).fCol) (zl.mk (((zk z).fConst).fKind) (((zk z).fConst).fInt) (((zk z).fConst).fFloat) (((zk z).fConst).fText)) ((zk z).fKids))=_ from this,Option.bind_some]) (fun m=>by
    show zD _ _ _ _ _=_
    rw [zD,dF (by omega),cond_false])
noncomputable def badA (a:zo):Bool:=decide (a.fKind < 1) || decide (a.fKind > 4) || !ZB a.fOf
theorem ajA {a:Option (List zo)} (ha:wSl aaD a) {n:Nat} (hn:2000200≤n):Zc n a=some ((sll a).any badA):=by
  obtain ⟨n,rfl⟩:∃ j,n=j+2:=⟨n - 2,by omega⟩
  unfold Zc ZW
  rw [zB,zB]
  simp only [zM]
  exact aiV (F:=fun m i=>zF n a (fun _=>some (-1)) m i) (l:=sll a) (p:=badA) ha.1 (m:=n) (by omega) (fun m i z hi e=>by
    have hz:=ha.2 z (by rw [← e]; exact List.getElem_mem hi)
    show zF _ _ _ _ _=_
    rw [zF,dT (by omega),cond_true,aaX hi e,Option.bind_some]
    have:abh n z=some (badA z):=by
      obtain ⟨n,rfl⟩:∃ j,n=j+1:=⟨n - 1,by omega⟩
      unfold abh badA
      rw [zB,aeB hz.2 (by omega)]
      cases (decide (z.fKind < 1) || decide (z.fKind > 4)) <;> rfl
    rw [this,Option.bind_some]) (fun m=>by
    show zF _ _ _ _ _=_
    rw [zF,dF (by omega),cond_false])
def badK (k:zu):Bool:=decide (k.fOut < 0) || decide (k.fOut > 29)
theorem contains_keys {a:Option (List zu)} (ha:wSl acx a) {n:Nat} (hn:2000200≤n):Ze n a=some ((sll a).any badK):=by
  obtain ⟨n,rfl⟩:∃ j,n=j+2:=⟨n - 2,by omega⟩
  unfold Ze ZX
  rw [zB,zB]
  simp only [zM]
  exact aiV (F:=fun m i=>zE n a (fun _=>some (-1)) m i) (l:=sll a) (p:=badK) ha.1 (m:=n) (by omega) (fun m i z hi e=>by
    show zE _ _ _ _ _=_
    rw [zE,dT (by omega),cond_true,aaX hi e,Option.bind_some]
    have:aci n z=some (badK z):=by
      obtain ⟨n,rfl⟩:∃ j,n=j+1:=⟨n - 1,by omega⟩
      rfl
    rw [this,Option.bind_some]) (fun m=>by
    show zE _ _ _ _ _=_
    rw [zE,dF (by omega),cond_false])
noncomputable def okEs (a:Option (List EX)):Bool:=decide ((sll a).length≤60) && (sll a).all fun z=>ZB (zk z)
noncomputable def agV (x:zb):Bool:=okEs x.fWhere && okEs x.fLeft && okEs x.fRight && okEs x.fOut && (decide ((sll x.fAggs).length≤60) && !(sll x.fAggs).any badA) && (decide ((sll x.fOrder).length≤60) && !(sll x.fOrder).any badK) && ((decide (x.fRel≥0) && decide (x.fRel < 12)) && ((x.fKind == 1) || (x.fRel == 0)))
theorem ajK {x:zb} (hx:PW x) {n:Nat} (hn:2000300≤n):acV n x=some (agV x):=by
  obtain ⟨n,rfl⟩:∃ j,n=j+1:=⟨n - 1,by omega⟩
  obtain ⟨_,_,w3,w4,w5,w6,w7,w8⟩:=hx
  unfold acV
  rw [zB]
  simp only [zM]
  generalize hK:(fun (_:Unit)=>bif (decide (((sll x.fAggs).length:Int) > 60)) then some false else (Zc n x.fAggs).bind fun x5=>bif x5 then some false else bif (decide (((sll x.fOrder).length:Int) > 60)) then some false else (Ze n x.fOrder).bind fun x9=>bif x9 then some false else some (((decide (x.fRel≥0)) && (decide (x.fRel < 12))) && ((x.fKind == 1) || (x.fRel == 0))))=K
  have one:∀ (a:Option (List EX)) (rest:Option Bool),wSl zN a→(bif (decide (((sll a).length:Int) > 60)) then some false else (zZ n a).bind fun x19=>bif x19 then some false else rest)=bif okEs a then rest else some false:=fun a rest ha=>by
    unfold okEs
    by_cases h:(sll a).length≤60
    · rw [dF (by omega),cond_false,dT h,Bool.true_and,aiC ha (by omega),Option.bind_some]
      have:((sll a).any fun z=>!ZB (zk z))=!((sll a).all fun z=>ZB (zk z)):=by rw [List.not_all_eq_any_not]
      rw [this]
      cases (sll a).all fun z=>ZB (zk z) <;> rfl
    · rw [dT (by omega),cond_true,dF h,Bool.false_and,cond_false]
  have hK0:K ()=some ((decide ((sll x.fAggs).length≤60) && !(sll x.fAggs).any badA) && (decide ((sll x.fOrder).length≤60) && !(sll x.fOrder).any badK) && ((decide (x.fRel≥0) && decide (x.fRel < 12)) && ((x.fKind == 1) || (x.fRel == 0)))):=by
    rw [← hK]
    simp only
    by_cases h:(sll x.fAggs).length≤60
    · rw [dF (by omega),cond_false,dT h,Bool.true_and,ajA w7 (by omega),Option.bind_some]
      cases (sll x.fAggs).any badA with
      | true=>rfl
      | false=>
        rw [cond_false,Bool.not_false,Bool.true_and]
        by_cases h:(sll x.fOrder).length≤60
        · rw [dF (by omega),cond_false,dT h,Bool.true_and,contains_keys w8 (by omega),Option.bind_some]
          cases (sll x.fOrder).any badK <;> rfl
        · rw [dT (by omega),cond_true,dF h,Bool.false_and,Bool.false_and]
    · rw [dT (by omega),cond_true,dF h,Bool.false_and,Bool.false_and,Bool.false_and]
  obtain ⟨n',e'⟩:∃ j,n=j+5:=⟨n - 5,by omega⟩
  have step:∀ (m:Nat) (i:Int) (a:Option (List EX)),wSl zN a→i < 4→idx ([x.fWhere,x.fLeft,x.fRight,x.fOut]:List (Option (List zc))) i=some a→qm n x K (m+1) i=bif okEs a then qm n x K m (IntKind.wrap .i64 (i+1)) else some false:=fun m i a ha hi he=>by
    rw [qm,dT hi,cond_true,he,Option.bind_some]
    exact one a _ ha
  have s1:qm n x K n 0=qm n x K (n'+5) 0:=by rw [← e']
  rw [s1,step _ 0 _ w3 (by omega) rfl,step _ (IntKind.wrap .i64 (0+1)) _ w4 (by decide) rfl,step _ (IntKind.wrap .i64 ((IntKind.wrap .i64 (0+1))+1)) _ w5 (by decide) rfl,step _ (IntKind.wrap .i64 ((IntKind.wrap .i64 ((IntKind.wrap .i64 (0+1))+1))+1)) _ w6 (by decide) rfl]
  rw [show qm n x K (n'+1) (IntKind.wrap .i64 ((IntKind.wrap .i64 ((IntKind.wrap .i64 ((IntKind.wrap .i64 (0+1))+1))+1))+1))=K () from rfl,hK0]
  unfold agV
  cases okEs x.fWhere <;> cases okEs x.fLeft <;> cases okEs x.fRight <;> cases okEs x.fOut <;> rfl
noncomputable def adX (x:zb):Bool:=(adT x.fKind == ((sll x.fKids).length:Int)) && (ajj x && agV x)
noncomputable def frmP:Nat→zb→Option Nat
  | 0,_=>none
  | r+1,x=>bif adX x then (sumO (fun z=>frmP r (zq z)) (sll x.fKids)).map (·+1) else none
theorem aoK {r:Nat} {x:zb} {c:Nat} (h:frmP r x=some c):1≤c:=by
  cases r with
  | zero=>cases h
  | succ r=>
    unfold frmP at h
    cases hn:adX x with
    | false=>rw [hn] at h; cases h
    | true=>
      rw [hn,cond_true,Option.map_eq_some_iff] at h
      obtain ⟨a,_,rfl⟩:=h
      omega
theorem aec {r:Nat} {x:zb} {c:Nat} (h:frmP (r+1) x=some c):adX x=true∧∀ z,z∈sll x.fKids→∃ a,frmP r (zq z)=some a∧a < c:=by
  unfold frmP at h
  cases hn:adX x with
  | false=>rw [hn] at h; cases h
  | true=>
    rw [hn,cond_true,Option.map_eq_some_iff] at h
    obtain ⟨a,ha,rfl⟩:=h
    refine ⟨rfl,fun z hz=>?_⟩
    obtain ⟨b,q1,q2⟩:=aiF ha z hz
    exact ⟨b,q1,by omega⟩
theorem anZ:∀ (r:Nat),r≤24→∀ (s:Nat) (x:zb),WD s x→∀ (left:Int),left≤40→-1≤left→∀ m n,r+1≤m→2000400+r≤n→
    qI m n x (25 - (r:Int)) left=some (aeD (frmP r x) left):=by
  intro r
  induction r with
  | zero=>
    intro hr s x hw left h4 h0 m n hm hn
    obtain ⟨m,rfl⟩:∃ j,m=j+1:=⟨m - 1,by omega⟩
    obtain ⟨n,rfl⟩:∃ j,n=j+1:=⟨n - 1,by omega⟩
    show QV (qI m) (n+1) x _ left=_
    unfold QV
    rw [zB,dT (by omega),cond_true]
    rfl
  | succ r ih=>
    intro hr s x hw left h4 h0 m n hm hn
    obtain ⟨m,rfl⟩:∃ j,m=j+1:=⟨m - 1,by omega⟩
    obtain ⟨n,rfl⟩:∃ j,n=j+1:=⟨n - 1,by omega⟩
    cases s with
    | zero=>exact hw.elim
    | succ s=>
    obtain ⟨hPW,hklen,hkW⟩:=hw
    show QV (qI m) (n+1) x _ left=_
    unfold QV
    rw [zB,dF (by omega),cond_false]
    by_cases hl:left < 1
    · rw [dT hl,cond_true]
      unfold aeD
      cases hf:frmP (r+1) x with
      | none=>rfl
      | some c=>
        have:=aoK hf
        simp only
        rw [if_neg (by omega)]
    · rw [dF hl,cond_false,agN _ (by omega),Option.bind_some]
      rw [frmP]
      unfold adX
      by_cases hk:adT x.fKind=((sll x.fKids).length:Int)
      · rw [show (adT x.fKind != ((sll x.fKids).length:Int))=false by simp [hk],cond_false,show (adT x.fKind == ((sll x.fKids).length:Int))=true by simp [hk],Bool.true_and]
        rw [show zb.mk x.fKind x.fRel x.fWhere x.fLeft x.fRight x.fOut x.fAggs x.fOrder x.fKids=x from rfl,ajw hPW (by omega),Option.bind_some]
        cases hfd:ajj x with
        | false=>rfl
        | true=>
          rw [Bool.not_true,cond_false,Bool.true_and,ajK hPW (by omega),Option.bind_some]
          cases hpd:agV x with
          | false=>rfl
          | true=>
          rw [Bool.not_true,cond_false,cond_true]
          show zM (fun k15=>aac n (qI m) x (25 - ((r+1:Nat):Int)) k15 n (IntKind.wrap .i64 (left - 1)) 0) (fun (y9:Int)=>some y9)=_
          unfold zM
          rw [abv (by omega) (by omega)]
          have key:=afI (f:=fun z=>frmP r (zq z)) (K:=fun y9=>some y9) (F:=fun m' left' i=>aac n (qI m) x (25 - ((r+1:Nat):Int)) (fun y9=>some y9) m' left' i) (ks:=sll x.fKids)
            (C:=fun z left'=>qI m n (zq z) (IntKind.wrap .i64 ((25 - ((r+1:Nat):Int))+1)) left')
            (fun m' left' i=>rfl) (B:=40) (by omega) (fun z hz left' h1 h2=>by
              show qI m n (zq z) (IntKind.wrap .i64 ((25 - ((r+1:Nat):Int))+1)) left'=_
              rw [abv (by omega) (by omega),show (25 - ((r+1:Nat):Int))+1=25 - (r:Int) by omega]
              exact ih (by omega) s _ (hkW z hz) left' h2 (by omega) m n (by omega) (by omega)) hklen (sll x.fKids) n [] (left - 1) rfl (by omega) (by omega) (by omega)
          refine Eq.trans key ?_
          cases hs:sumO (fun z=>frmP r (zq z)) (sll x.fKids) with
          | none=>rfl
          | some c=>
            simp only [Option.map_some,aeD]
            by_cases hc:(c:Int)≤left - 1
            · rw [if_pos hc,if_pos (by omega)]; congr 1; omega
            · rw [if_neg hc,if_neg (by omega)]
      · rw [show (adT x.fKind != ((sll x.fKids).length:Int))=true by simp [hk],cond_true,show (adT x.fKind == ((sll x.fKids).length:Int))=false by simp [hk],Bool.false_and]
        rfl
noncomputable def abN (x:zb):Bool:=match frmP 24 x with
  | some c=>decide (c≤40)
  | none=>false
theorem acQ {s:Nat} {x:zb} (hw:WD s x) {n:Nat} (hn:2000500≤n):aaB n x=some (abN x):=by
  obtain ⟨n,rfl⟩:∃ j,n=j+1:=⟨n - 1,by omega⟩
  unfold aaB
  rw [zB]
  have:=anZ 24 (by omega) s x hw 40 (by omega) (by omega) n n (by omega) (by omega)
  rw [show (25 - ((24:Nat):Int))=1 from rfl] at this
  rw [show af0 n x 1 40=some _ from this,Option.bind_some]
  unfold abN aeD
  cases frmP 24 x with
  | none=>rfl
  | some c=>exact congrArg some (decide_eq_decide.2 (by simp only; split <;> omega))
theorem ac5 {x:zb} (h:abN x=true):∃ c,frmP 24 x=some c∧c≤40:=by
  unfold abN at h
  split at h
  · rename_i c hc; exact ⟨c,hc,by simpa using h⟩
  · cases h
end Go.Pl
set_option linter.unusedVariables false
set_option linter.unusedSimpArgs false
set_option maxRecDepth 100000
namespace Go.Pl
open Go Go.Ab
end Go.Pl
set_option linter.unusedVariables false
set_option linter.unusedSimpArgs false
set_option maxRecDepth 100000
namespace Go.Pl
open Go Go.Ab
theorem apu {x:zm} {z:EX} (h:z∈sll x.fKids):szL (zk z)+8≤szL x:=by
  have e:szL (zk z)=PV.bulkL (za z):=by rw [Zj z]; rfl
  rw [e]
  unfold szL Zu
  cases hk:x.fKids with
  | none=>rw [hk] at h; cases h
  | some l=>
    rw [hk] at h
    have:=acw (rows:=l.map za) (r:=za z) (List.mem_map_of_mem h)
    rw [show zg za (some l)=.sl (l.map za) from rfl]
    simp only [PV.bulkL,PV.bulk]
    omega
def WX:Nat→zm→Prop
  | 0,_=>False
  | s+1,x=>Zp x.fConst∧(sll x.fKids).length≤1048576∧∀ z,z∈sll x.fKids→WX s (zk z)
theorem apN:∀ (s:Nat) (x:zm),szL x≤8 * s→zA x→WX s x
  | 0,x,h,_=>by
    unfold szL Zu at h
    simp only [PV.bulkL,PV.bulk] at h
    omega
  | s+1,x,h,hw=>⟨aag hw,aem hw,fun z hz=>apN s _ (by have:=apu hz; omega) (aey hw hz)⟩
theorem W_WX {x:zm} (hw:zA x):WX 131072 x:=apN _ x hw.2 hw
noncomputable def adk:Nat→zm→zm→Bool
  | 0,_,_=>false
  | s+1,x,y=>((((x.fKind == y.fKind) && (x.fRel == y.fRel)) && (x.fCol == y.fCol)) && (x.fConst.fKind == y.fConst.fKind)) && (amW x.fConst y.fConst && Qm (fun a b=>adk s (zk a) (zk b)) (sll x.fKids) (sll y.fKids))
noncomputable def acN (s:Nat) (a b:List EX):Bool:=Qm (fun x y=>adk s (zk x) (zk y)) a b
theorem akq {d m n k:Nat} {rc:Nat→Option (List EX)→Option (List EX)→Option Bool} {a b:Option (List EX)} (ha:(sll a).length≤1048576) (hn:2000000≤n)
    (h:∀ x,x∈sll a→∀ y,y∈sll b→QL rc n (zk x) (zk y)=some (adk k (zk x) (zk y))):
    Zz rc (n+1) a b=some (acN k (sll a) (sll b)):=by
  unfold Zz
  rw [zB]
  unfold zM
  refine adM (F:=fun m i=>zJ n rc a b (fun _=>some true) m i) ha hn (fun he m i x y hi e1 e2 m1 m2=>?_) (fun m=>?_)
  · show zJ _ _ _ _ _ _ _=_
    rw [zJ,dT (by omega),cond_true,e1,Option.bind_some,e2,Option.bind_some]
    rw [show QL rc n _ _=_ from h x m1 y m2,Option.bind_some]
    cases adk k (zk x) (zk y) <;> rfl
  · show zJ _ _ _ _ _ _ _=_
    rw [zJ,dF (by omega),cond_false]
theorem aeu:∀ (d:Nat) (x:zm),WX d x→∀ (e:Nat) (y:zm),WX e y→∀ k m n,d≤k→d≤m→2000010+2 * d≤n→
    QL (zQ m) n x y=some (adk k x y)
  | 0,x,h,_,_,_,_,_,_,_,_,_=>h.elim
  | d+1,x,h,0,y,h',_,_,_,_,_,_=>h'.elim
  | d+1,x,h,e+1,y,h',k,m,n,hk,hm,hn=>by
    obtain ⟨k,rfl⟩:∃ j,k=j+1:=⟨k - 1,by omega⟩
    obtain ⟨m,rfl⟩:∃ j,m=j+1:=⟨m - 1,by omega⟩
    obtain ⟨n,rfl⟩:∃ j,n=j+2:=⟨n - 2,by omega⟩
    unfold QL
    rw [zB,adk]
    cases (((x.fKind == y.fKind) && (x.fRel == y.fRel)) && (x.fCol == y.fCol)) && (x.fConst.fKind == y.fConst.fKind) with
    | false=>rfl
    | true=>
      rw [cond_true,ajZ h.1 h'.1 (by omega),Option.bind_some]
      cases amW x.fConst y.fConst with
      | false=>rfl
      | true=>
        rw [cond_true,show zQ (m+1) (n+1) x.fKids y.fKids=_ from akq (rc:=zQ m) (k:=k) (d:=d) (m:=m) h.2.1 (by omega) (fun z hz w hw=>aeu d _ (h.2.2 z hz) e _ (h'.2.2 w hw) k m n (by omega) (by omega) (by omega))]
        rfl
def WXs (d:Nat) (a:List EX):Prop:=∀ z,z∈a→WX d (zk z)
theorem W_WXs {a:Option (List EX)} (h:wSl zN a):WXs 131072 (sll a):=fun z hz=>W_WX (W_un (h.2 z hz))
theorem ack {a b:Option (List EX)} {d e:Nat} (ha:WXs d (sll a)) (hl:(sll a).length≤1048576) (hb:WXs e (sll b)) (hd:d≤140000) {n:Nat} (hn:2280100≤n):
    zV n a b=some (acN 140000 (sll a) (sll b)):=by
  obtain ⟨n,rfl⟩:∃ j,n=j+1:=⟨n - 1,by omega⟩
  exact akq (rc:=zQ n) (d:=d) (m:=0) hl (by omega) (fun x hx y hy=>aeu d _ (ha x hx) e _ (hb y hy) 140000 n n hd (by omega) (by omega))
theorem akV {x y:zm} {d e:Nat} (hx:WX d x) (hy:WX e y) (hd:d≤140000) {n m:Nat} (hn:2280100≤n) (hm:140000≤m):
    QL (zQ m) n x y=some (adk 140000 x y):=aeu d x hx e y hy 140000 m n hd (by omega) (by omega)
theorem acm {α β:Type} {p:β→α→Bool} (f:α→β) (l:List α) (h:∀ x,x∈l→p (f x) x=true):Qm p (l.map f) l=true:=by
  rw [afY (by rw [List.length_map]),List.all_eq_true]
  intro q hq
  obtain ⟨i,hi,rfl⟩:=List.getElem_of_mem hq
  rw [List.getElem_zip,List.getElem_map]
  exact h _ (List.getElem_mem _)
end Go.Pl
set_option linter.unusedVariables false
set_option linter.unusedSimpArgs false
set_option maxRecDepth 100000
namespace Go.Pl
open Go Go.Ab
noncomputable def alw (x y:zo):Bool:=(x.fKind == y.fKind) && adk 140000 x.fOf y.fOf
def akw (x y:zu):Bool:=(x.fOut == y.fOut) && (x.fDesc == y.fDesc)
def LXs (d:Nat) (a:Option (List EX)):Prop:=(sll a).length≤1048576∧WXs d (sll a)
def LAs (d:Nat) (a:Option (List zo)):Prop:=(sll a).length≤1048576∧∀ g,g∈sll a→WX d g.fOf
theorem anr {a:Option (List EX)} (h:wSl zN a):LXs 131072 a:=⟨h.1,W_WXs h⟩
theorem W_agg {g:zo} (h:aaD g):zA g.fOf:=h.2
theorem W_LAs {a:Option (List zo)} (h:wSl aaD a):LAs 131072 a:=⟨h.1,fun g hg=>W_WX (W_agg (h.2 g hg))⟩
structure QW (d:Nat) (q:Qi):Prop where
  rels:(sll q.fRels).length≤1048576
  wher:LXs d q.fWhere
  out:LXs d q.fOut
  aggs:LAs d q.fAggs
  order:(sll q.fOrder).length≤1048576
structure PX1 (x:zb):Prop where
  wher:LXs 131072 x.fWhere
  left:LXs 131072 x.fLeft
  right:LXs 131072 x.fRight
  out:LXs 131072 x.fOut
  aggs:LAs 131072 x.fAggs
  order:(sll x.fOrder).length≤1048576
def WPl:Nat→zb→Prop
  | 0,_=>False
  | s+1,x=>PX1 x∧(sll x.fKids).length≤1048576∧∀ z,z∈sll x.fKids→WPl s (zq z)
theorem aqo {x:zb} (h:PW x):PX1 x:=⟨anr h.2.2.1,anr h.2.2.2.1,anr h.2.2.2.2.1,anr h.2.2.2.2.2.1,W_LAs h.2.2.2.2.2.2.1,h.2.2.2.2.2.2.2.1⟩
theorem amt:∀ (s:Nat) (x:zb),WD s x→WPl s x
  | 0,x,h=>h.elim
  | s+1,x,h=>⟨aqo h.1,h.2.1,fun z hz=>amt s _ (h.2.2 z hz)⟩
noncomputable def aht:Nat→zb→zb→Bool
  | 0,_,_=>false
  | s+1,x,y=>((x.fKind == y.fKind) && (x.fRel == y.fRel)) && (acN 140000 (sll x.fWhere) (sll y.fWhere) && (acN 140000 (sll x.fLeft) (sll y.fLeft) && (acN 140000 (sll x.fRight) (sll y.fRight) && (acN 140000 (sll x.fOut) (sll y.fOut) &&
    (Qm alw (sll x.fAggs) (sll y.fAggs) && (Qm akw (sll x.fOrder) (sll y.fOrder) && Qm (fun a b=>aht s (zq a) (zq b)) (sll x.fKids) (sll y.fKids)))))))
theorem alr {a b:Option (List zo)} {d e:Nat} (ha:LAs d a) (hb:LAs e b) (hd:d≤140000) {n:Nat} (hn:2280300≤n):ZL n a b=some (Qm alw (sll a) (sll b)):=by
  obtain ⟨n,rfl⟩:∃ j,n=j+1:=⟨n - 1,by omega⟩
  unfold ZL
  rw [zB]
  unfold zM
  refine adM (F:=fun m i=>zO n a b (fun _=>some true) m i) ha.1 (by omega) (fun he m i x y hi e1 e2 m1 m2=>?_) (fun m=>?_)
  · show zO _ _ _ _ _ _=_
    rw [zO,dT (by omega),cond_true,e1,Option.bind_some,e2,Option.bind_some]
    obtain ⟨n,rfl⟩:∃ j,n=j+1:=⟨n - 1,by omega⟩
    unfold afl alw
    rw [zB]
    cases (x.fKind == y.fKind) with
    | false=>rfl
    | true=>
      rw [cond_true,show QL zV n x.fOf y.fOf=some (adk 140000 x.fOf y.fOf) from ?_]
      · cases adk 140000 x.fOf y.fOf <;> rfl
      · have hx:=ha.2 x m1; have hy:=hb.2 y m2
        cases d with
        | zero=>exact hx.elim
        | succ d=>
          cases e with
          | zero=>exact hy.elim
          | succ e=>
            obtain ⟨n,rfl⟩:∃ j,n=j+1:=⟨n - 1,by omega⟩
            have:=akV (m:=n) (n:=n+1) hx hy hd (by omega) (by omega)
            unfold QL at this ⊢
            exact this
  · show zO _ _ _ _ _ _=_
    rw [zO,dF (by omega),cond_false]
theorem ali {a b:Option (List zu)} (ha:(sll a).length≤1048576) {n:Nat} (hn:2000010≤n):QI n a b=some (Qm akw (sll a) (sll b)):=by
  obtain ⟨n,rfl⟩:∃ j,n=j+1:=⟨n - 1,by omega⟩
  unfold QI
  rw [zB]
  unfold zM
  refine adM (F:=fun m i=>ZJ n a b (fun _=>some true) m i) ha (by omega) (fun he m i x y hi e1 e2 m1 m2=>?_) (fun m=>?_)
  · show ZJ _ _ _ _ _ _=_
    rw [ZJ,dT (by omega),cond_true,e1,Option.bind_some,e2,Option.bind_some]
    unfold akw
    cases (x.fOut == y.fOut) <;> cases (x.fDesc == y.fDesc) <;> rfl
  · show ZJ _ _ _ _ _ _=_
    rw [ZJ,dF (by omega),cond_false]
theorem ahG:∀ (d:Nat) (x:zb),WPl d x→∀ (e:Nat) (y:zb),WPl e y→∀ k m n,d≤k→d≤m→2290000+2 * d≤n→
    aay m n x y=some (aht k x y)
  | 0,x,h,_,_,_,_,_,_,_,_,_=>h.elim
  | d+1,x,h,0,y,h',_,_,_,_,_,_=>h'.elim
  | d+1,x,h,e+1,y,h',k,m,n,hk,hm,hn=>by
    obtain ⟨k,rfl⟩:∃ j,k=j+1:=⟨k - 1,by omega⟩
    obtain ⟨m,rfl⟩:∃ j,m=j+1:=⟨m - 1,by omega⟩
    obtain ⟨n,rfl⟩:∃ j,n=j+2:=⟨n - 2,by omega⟩
    show abZ (aay m) (n+2) x y=_
    unfold abZ
    rw [zB,aht]
    obtain ⟨hp,hl,hk1⟩:=h
    obtain ⟨hp',hl',hk2⟩:=h'
    rw [ack hp.wher.2 hp.wher.1 hp'.wher.2 (by omega) (by omega),ack hp.left.2 hp.left.1 hp'.left.2 (by omega) (by omega),ack hp.right.2 hp.right.1 hp'.right.2 (by omega) (by omega),ack hp.out.2 hp.out.1 hp'.out.2 (by omega) (by omega),alr hp.aggs hp'.aggs (by omega) (by omega),ali hp.order (by omega)]
    simp only [Option.bind_some]
    have key:ZG (aay m) (n+1) x.fKids y.fKids=some (Qm (fun a b=>aht k (zq a) (zq b)) (sll x.fKids) (sll y.fKids)):=by
      unfold ZG
      rw [zB]
      unfold zM
      refine adM (F:=fun m' i=>zK n (aay m) x.fKids y.fKids (fun _=>some true) m' i) hl (by omega) (fun he m' i z w hi e1 e2 m1 m2=>?_) (fun m'=>?_)
      · show zK _ _ _ _ _ _ _=_
        rw [zK,dT (by omega),cond_true,e1,Option.bind_some,e2,Option.bind_some,ahG d _ (hk1 z m1) e _ (hk2 w m2) k m n (by omega) (by omega) (by omega),Option.bind_some]
        cases aht k (zq z) (zq w) <;> rfl
      · show zK _ _ _ _ _ _ _=_
        rw [zK,dF (by omega),cond_false]
    rw [key]
    cases (x.fKind == y.fKind) && (x.fRel == y.fRel) with
    | false=>rfl
    | true=>
    cases acN 140000 (sll x.fWhere) (sll y.fWhere) with
    | false=>rfl
    | true=>
    cases acN 140000 (sll x.fLeft) (sll y.fLeft) with
    | false=>rfl
    | true=>
    cases acN 140000 (sll x.fRight) (sll y.fRight) with
    | false=>rfl
    | true=>
    cases acN 140000 (sll x.fOut) (sll y.fOut) with
    | false=>rfl
    | true=>
    cases Qm alw (sll x.fAggs) (sll y.fAggs) with
    | false=>rfl
    | true=>
    cases Qm akw (sll x.fOrder) (sll y.fOrder) <;> rfl
theorem ami (x:zu):akw x x=true:=by unfold akw; simp
end Go.Pl
set_option linter.unusedVariables false
set_option linter.unusedSimpArgs false
set_option maxRecDepth 100000
namespace Go.Pl
open Go Go.Ab
theorem al0 {k:Int} {l:Nat} (h:adZ k=(l:Int)):(l=0∧(k=1∨k=2))∨(l=1∧(k=6∨k=12∨k=13))∨(l=2∧(k=3∨k=4∨k=5∨k=7∨k=8∨k=9∨k=10∨k=11)):=by
  unfold adZ at h
  split at h
  · exact .inl ⟨by omega,by assumption⟩
  · split at h
    · exact .inr (.inl ⟨by omega,by assumption⟩)
    · split at h
      · exact .inr (.inr ⟨by omega,by omega⟩)
      · omega
end Go.Pl
