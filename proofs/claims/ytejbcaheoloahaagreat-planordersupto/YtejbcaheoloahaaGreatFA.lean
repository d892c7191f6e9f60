import Derived.Test.YtejbcaheoloahaaGreatPL
import Derived.Test.YtejbcaheoloahaaGreatPA
import Derived.Test.YtejbcaheoloahaaGreatAbFlt
import Derived.Sort.Statements
import Derived.Test.YtejbcaheoloahaaGreatPC
set_option linter.unusedVariables false
set_option linter.unusedSimpArgs false
namespace Go.Pl
open Go Go.Ab
theorem wF_lt {f:Nat} (h:wF .f64 f):f < 2 ^ 64:=by
  unfold wF at h
  simpa [Lit.wf] using h
def posZ (f:Nat):Bool:=isZero f && !apN f
def empS (s:ByteArray):Bool:=sEq s ByteArray.empty
def aea (v:zq):Bool:=
  if v.fKind=0 then v.fInt == 0 && (posZ v.fFloat && empS v.fText)
  else if v.fKind=1 then (v.fInt == 0 || v.fInt == 1) && (posZ v.fFloat && empS v.fText)
  else if v.fKind=2 then posZ v.fFloat && empS v.fText
  else if v.fKind=3 then v.fInt == 0 && empS v.fText
  else if v.fKind=4 then v.fInt == 0 && (posZ v.fFloat && decide ((v.fText.size:Int)≤64))
  else false
theorem ah0 (f:Nat) {n:Nat} (h:1≤n):ado n f=some (apN f):=by
  obtain ⟨n,rfl⟩:∃ k,n=k+1:=⟨n - 1,by omega⟩
  rfl
theorem apM {α:Type} {a b:Int} {x y:α}:(bif a == b then x else y)=if a=b then x else y:=by
  by_cases h:a=b
  · simp [h]
  · have:(a == b)=false:=by simpa using h
    rw [this]; simp [h]
def vR (y:Bool) (v:zq):Bool:=
  if v.fKind=0 then v.fInt == 0 && (y && empS v.fText)
  else if v.fKind=1 then (v.fInt == 0 || v.fInt == 1) && (y && empS v.fText)
  else if v.fKind=2 then y && empS v.fText
  else if v.fKind=3 then v.fInt == 0 && empS v.fText
  else if v.fKind=4 then v.fInt == 0 && (y && decide ((v.fText.size:Int)≤64))
  else false
theorem aoJ (y:Bool) (v:zq):(bif (v.fKind == 0) then some (((v.fInt == 0) && y) && (sEq v.fText ByteArray.empty)) else bif (v.fKind == 1) then bif ((v.fInt != 0) && (v.fInt != 1)) then some false else some (y && (sEq v.fText ByteArray.empty)) else bif (v.fKind == 2) then some (y && (sEq v.fText ByteArray.empty)) else bif (v.fKind == 3) then some ((v.fInt == 0) && (sEq v.fText ByteArray.empty)) else bif (v.fKind == 4) then some (((v.fInt == 0) && y) && (decide ((v.fText.size:Int)≤64))) else some false)=some (vR y v):=by
  simp only [apM]
  unfold vR
  split
  · simp [empS,Bool.and_assoc]
  · split
    · unfold empS
      by_cases h0:v.fInt=0
      · simp [h0]
      · by_cases h1:v.fInt=1
        · simp [h1]
        · have e0:(v.fInt == 0)=false:=by simpa using h0
          have e1:(v.fInt == 1)=false:=by simpa using h1
          have e2:(v.fInt != 0)=true:=by simp [bne,e0]
          have e3:(v.fInt != 1)=true:=by simp [bne,e1]
          rw [e0,e1,e2,e3]; simp
    · split
      · rfl
      · split
        · rfl
        · split
          · simp [Bool.and_assoc]
          · rfl
theorem afr (v:zq) {n:Nat} (h:2≤n):ab2 n v=some (aea v):=by
  obtain ⟨n,rfl⟩:∃ k,n=k+1:=⟨n - 1,by omega⟩
  unfold ab2
  simp only [zt,zD]
  rw [ah0 _ (by omega)]
  simp only [Option.bind_some]
  rw [aoJ,aoJ]
  show _=some (vR (posZ v.fFloat) v)
  unfold posZ isZero
  cases FloatKind.f64.format.order v.fFloat 0 == some .eq <;> rfl
end Go.Pl
set_option linter.unusedVariables false
set_option linter.unusedSimpArgs false
namespace Go.Pl
open Go Go.Ab
abbrev zeroV:zq:=zq.mk 0 0 0 ByteArray.empty
def fLt (x y:Nat):Bool:=FloatKind.f64.format.order x y == some .lt
def fGt (x y:Nat):Bool:=FloatKind.f64.format.order x y == some .gt
def fC (x y:Nat):Int:=
  bif aad x && aad y then 0 else bif aad x then 1 else bif aad y then -1 else bif fLt x y then -1 else bif fGt x y then 1 else 0
theorem ah2 (x y:Nat) {n:Nat} (h:2≤n):adp n x y=some (fC x y):=by
  obtain ⟨n,rfl⟩:∃ k,n=k+2:=⟨n - 2,by omega⟩
  show (bif (aad x && aad y) then some 0 else bif aad x then some 1 else bif aad y then some (-1) else bif fLt x y then some (-1) else bif fGt x y then some 1 else some 0)=some (fC x y)
  unfold fC
  cases aad x <;> cases aad y <;> cases fLt x y <;> cases fGt x y <;> rfl
theorem aoq {x y:Nat} (hx:aad x=true):fC x y=bif aad y then 0 else 1:=by
  unfold fC; rw [hx]; cases aad y <;> rfl
theorem amX {x y:Nat} (hy:aad y=true):fC x y=bif aad x then 0 else -1:=by
  unfold fC; rw [hy]; cases aad x <;> rfl
def fNan (f:Nat):Nat:=bif aad f then 9221120237041090561 else f
theorem aeL (f:Nat):aad (fNan f)=aad f:=by
  unfold fNan
  cases h:aad f with
  | true=>exact (show aad 9221120237041090561=true by decide)
  | false=>exact h
theorem apF (x y:Nat):fC (fNan x) (fNan y)=fC x y:=by
  cases hx:aad x with
  | true=>rw [aoq (by rw [aeL,hx]),aoq hx,aeL]
  | false=>
    cases hy:aad y with
    | true=>rw [amX (by rw [aeL,hy]),amX hy,aeL]
    | false=>unfold fNan; rw [hx,hy]; rfl
def abU (v:zq):zq:=
  bif !aea v then zeroV else bif (v.fKind == 3) && isZero v.fFloat then zq.mk 3 0 0 ByteArray.empty else v
def iC (a b:Int):Int:=if a < b then -1 else if a > b then 1 else 0
def sC (a b:ByteArray):Int:=bif sLt a b then -1 else bif !(sLt a b || sEq a b) then 1 else 0
def vC (p q:zq):Int:=if p.fKind≠q.fKind then iC p.fKind q.fKind else if p.fKind=3 then fC p.fFloat q.fFloat else if p.fKind=4 then sC p.fText q.fText else iC p.fInt q.fInt
def vCmp (a b:zq):Int:=vC (abU a) (abU b)
def vNan (p:zq):zq:=bif p.fKind == 3 then zq.mk p.fKind p.fInt (fNan p.fFloat) p.fText else p
theorem apY {v:zq} (h:aea v=true) (hk:v.fKind=3):v.fInt=0∧v.fText=ByteArray.empty:=by
  unfold aea at h
  rw [hk] at h
  simp at h
  exact ⟨h.1,amV.1 h.2⟩
theorem afx {v:zq} (hv:qW v) {n:Nat} (h:3≤n):ab1 n v=some (vNan (abU v)):=by
  obtain ⟨n,rfl⟩:∃ k,n=k+2:=⟨n - 2,by omega⟩
  unfold ab1
  rw [zt,afr v (by omega),Option.bind_some]
  unfold abU
  cases hr:aea v with
  | false=>rfl
  | true=>
    simp only [Bool.not_true,cond_false,zD]
    cases hk:v.fKind == 3 with
    | false=>
      simp only [cond_false,Bool.false_and]
      unfold vNan; rw [hk]; rfl
    | true=>
      have h3:v.fKind=3:=by simpa using hk
      obtain ⟨h1,h2⟩:=apY hr h3
      simp only [cond_true,Bool.true_and]
      have e0:acE (n+1) v.fFloat=some (aad v.fFloat):=rfl
      rw [e0,Option.bind_some]
      have e1:((FloatKind.format .f64).order v.fFloat 0 == some .eq)=isZero v.fFloat:=rfl
      rw [e1]
      cases hn:aad v.fFloat with
      | true=>
        rw [akN (wF_lt hv.2.2.1) hn]
        simp only [cond_true,cond_false]
        unfold vNan
        rw [hk,cond_true]
        unfold fNan
        rw [hn]; rfl
      | false=>
        cases hz:isZero v.fFloat with
        | true=>
          simp only [cond_true,cond_false]
          rw [h3,h1,h2]
          rfl
        | false=>
          simp only [cond_false]
          unfold vNan fNan
          rw [hk,hn]; rfl
theorem anR (p:zq):(vNan p).fKind=p.fKind:=by unfold vNan; cases p.fKind == 3 <;> rfl
theorem aoR (p:zq):(vNan p).fInt=p.fInt:=by unfold vNan; cases p.fKind == 3 <;> rfl
theorem an2 (p:zq):(vNan p).fText=p.fText:=by unfold vNan; cases p.fKind == 3 <;> rfl
theorem ai3 {p:zq} (h:p.fKind=3):(vNan p).fFloat=fNan p.fFloat:=by unfold vNan; rw [h]; rfl
theorem amy (a b:Int) {n:Nat} (h:2≤n):aaO n a b=some (iC a b):=by
  obtain ⟨n,rfl⟩:∃ k,n=k+2:=⟨n - 2,by omega⟩
  unfold aaO abK
  simp only [zt,Option.bind_some,bne_self_eq_false,cond_false]
  unfold iC
  by_cases h1:a < b
  · simp [h1]
  · by_cases h2:b < a <;> simp [h1,h2]
theorem akC (a b:Int) {n:Nat} (h:2≤n):Q6 n a b=some (iC a b):=by
  obtain ⟨n,rfl⟩:∃ k,n=k+2:=⟨n - 2,by omega⟩
  unfold Q6 aaL
  simp only [zt,Option.bind_some,bne_self_eq_false,cond_false]
  unfold iC
  by_cases h1:a < b
  · simp [h1]
  · by_cases h2:b < a <;> simp [h1,h2]
theorem ajz (a b:ByteArray) {n:Nat} (h:2≤n):QN n a b=some (sC a b):=by
  obtain ⟨n,rfl⟩:∃ k,n=k+2:=⟨n - 2,by omega⟩
  unfold QN aaj
  simp only [zt,Option.bind_some,aoH,Bool.not_true,cond_false]
  unfold sC
  cases sLt a b <;> cases sEq a b <;> rfl
theorem kne {α:Type} {a b:Int} {x y:α}:(bif a != b then x else y)=if a≠b then x else y:=by
  by_cases h:a=b
  · simp [h]
  · have:(a != b)=true:=by simpa using h
    rw [this]; simp [h]
theorem aot {α:Type} {p:Prop} [Decidable p] {x y:α}:(if p then some x else some y)=some (if p then x else y):=by split <;> rfl
theorem akH {a b:zq} (ha:qW a) (hb:qW b) {n:Nat} (h:4≤n):aeD n a b=some (vCmp a b):=by
  obtain ⟨n,rfl⟩:∃ k,n=k+1:=⟨n - 1,by omega⟩
  unfold aeD
  rw [zt,afx ha (by omega),Option.bind_some,afx hb (by omega),Option.bind_some,amy _ _ (by omega),ah2 _ _ (by omega),ajz _ _ (by omega),akC _ _ (by omega)]
  simp only [Option.bind_some,kne,apM,aot,anR,aoR,an2]
  unfold vCmp vC
  congr 1
  by_cases hk:(abU a).fKind=(abU b).fKind
  · have hk':¬ ((abU a).fKind≠(abU b).fKind):=fun c=>c hk
    rw [if_neg hk',if_neg hk']
    by_cases h3:(abU a).fKind=3
    · rw [if_pos h3,if_pos h3,ai3 h3,ai3 (hk ▸ h3),apF]
    · rw [if_neg h3,if_neg h3]
  · rw [if_pos hk,if_pos hk]
end Go.Pl
set_option linter.unusedVariables false
set_option linter.unusedSimpArgs false
namespace Go.Pl
open Go Go.Ab
end Go.Pl
set_option linter.unusedVariables false
set_option linter.unusedSimpArgs false
namespace Go.Pl
open Go Go.Ab
structure Ord3 {α:Type} (c:α→α→Int):Prop where
  anti:∀ x y,c y x=-c x y
  trans:∀ x y z,c x y≤0→c y z≤0→c x z≤0
theorem Ord3.self {α:Type} {c:α→α→Int} (h:Ord3 c) (x:α):c x x=0:=by have:=h.anti x x; omega
theorem Ord3.left {α:Type} {c:α→α→Int} (h:Ord3 c) {x y z:α} (e:c x y=0):(c x z≤0↔c y z≤0)∧(0≤c x z↔0≤c y z):=by
  have a1:=h.anti x y
  have a2:=h.anti x z
  have a3:=h.anti y z
  refine ⟨⟨fun g=>h.trans y x z (by omega) g,fun g=>h.trans x y z (by omega) g⟩,⟨fun g=>?_,fun g=>?_⟩⟩
  · have:=h.trans z x y (by omega) (by omega); omega
  · have:=h.trans z y x (by omega) (by omega); omega
theorem amA:Ord3 iC where
  anti x y:=by
    unfold iC
    repeat' split
    all_goals omega
  trans x y z:=by
    unfold iC
    intro h1 h2
    repeat' split
    all_goals (repeat' split at h1) <;> (repeat' split at h2) <;> omega
end Go.Pl
set_option linter.unusedVariables false
set_option linter.unusedSimpArgs false
namespace Go.Pl
open Go Go.Ab
theorem aiA:∀ (l:List UInt8),Op.bytesLess l l=false
  | []=>rfl
  | a :: l=>by
    have h:¬ (a < a):=fun h=>absurd (UInt8.lt_iff_toNat_lt.1 h) (by omega)
    simp [Op.bytesLess,aiA l,h]
theorem aip:∀ (a b:List UInt8),(Op.bytesLess a b=true∧Op.bytesLess b a=false∧a≠b)∨(Op.bytesLess a b=false∧Op.bytesLess b a=true∧a≠b)∨a=b
  | [],[]=>.inr (.inr rfl)
  | [],y :: b=>.inl ⟨rfl,rfl,by simp⟩
  | x :: a,[]=>.inr (.inl ⟨rfl,rfl,by simp⟩)
  | x :: a,y :: b=>by
    simp only [Op.bytesLess,Bool.or_eq_true,Bool.and_eq_true,decide_eq_true_eq,Bool.or_eq_false_iff,decide_eq_false_iff_not,Bool.and_eq_false_iff,beq_iff_eq,beq_eq_false_iff_ne,UInt8.lt_iff_toNat_lt]
    rcases Nat.lt_trichotomy x.toNat y.toNat with h | h | h
    · exact .inl ⟨.inl h,⟨by omega,.inl fun e=>by rw [e] at h; omega⟩,fun e=>by cases e; omega⟩
    · have e:x=y:=UInt8.toNat_inj.1 h
      subst e
      rcases aip a b with ⟨h1,h2,h3⟩ | ⟨h1,h2,h3⟩ | h1
      · exact .inl ⟨.inr ⟨rfl,h1⟩,⟨by omega,.inr h2⟩,fun e=>h3 (by cases e; rfl)⟩
      · exact .inr (.inl ⟨⟨by omega,.inr h1⟩,.inr ⟨rfl,h2⟩,fun e=>h3 (by cases e; rfl)⟩)
      · exact .inr (.inr (by rw [h1]))
    · exact .inr (.inl ⟨⟨by omega,.inl fun e=>by rw [e] at h; omega⟩,.inl h,fun e=>by cases e; omega⟩)
theorem aiH:∀ (a b d:List UInt8),Op.bytesLess a b=true→Op.bytesLess b d=true→Op.bytesLess a d=true
  | _,[],_,h,_=>by simp [Op.bytesLess] at h
  | _,_ :: _,[],_,h=>by simp [Op.bytesLess] at h
  | [],_ :: _,_ :: _,_,_=>rfl
  | x :: a,y :: b,z :: d,h1,h2=>by
    simp only [Op.bytesLess,Bool.or_eq_true,Bool.and_eq_true,decide_eq_true_eq,beq_iff_eq,UInt8.lt_iff_toNat_lt] at h1 h2 ⊢
    rcases h1 with h1 | ⟨rfl,h1⟩
    · rcases h2 with h2 | ⟨rfl,h2⟩
      · left; omega
      · left; omega
    · rcases h2 with h2 | ⟨rfl,h2⟩
      · left; omega
      · exact .inr ⟨rfl,aiH a b d h1 h2⟩
def lC (a b:List UInt8):Int:=bif Op.bytesLess a b then -1 else bif !(Op.bytesLess a b || a == b) then 1 else 0
theorem aoe (a b:List UInt8):(lC a b=-1∧Op.bytesLess a b=true)∨(lC a b=1∧Op.bytesLess b a=true)∨(lC a b=0∧a=b):=by
  rcases aip a b with ⟨h1,h2,h3⟩ | ⟨h1,h2,h3⟩ | h1
  · exact .inl ⟨by unfold lC; rw [h1]; rfl,h1⟩
  · exact .inr (.inl ⟨by unfold lC; rw [h1,beq_false_of_ne h3]; rfl,h2⟩)
  · subst h1
    exact .inr (.inr ⟨by unfold lC; rw [aiA,beq_self_eq_true]; rfl,rfl⟩)
theorem aoM:Ord3 lC where
  anti a b:=by
    rcases aip a b with ⟨h1,h2,h3⟩ | ⟨h1,h2,h3⟩ | h1
    · unfold lC; rw [h1,h2,beq_false_of_ne (Ne.symm h3)]; rfl
    · unfold lC; rw [h1,h2,beq_false_of_ne h3]; rfl
    · subst h1; unfold lC; rw [aiA,beq_self_eq_true]; rfl
  trans a b d h1 h2:=by
    rcases aoe a b with ⟨e1,q1⟩ | ⟨e1,q1⟩ | ⟨e1,q1⟩
    · rcases aoe b d with ⟨e2,q2⟩ | ⟨e2,q2⟩ | ⟨e2,q2⟩
      · have:=aiH a b d q1 q2
        unfold lC; rw [this]; exact (show (-1:Int)≤0 by decide)
      · omega
      · subst q2; exact h1
    · omega
    · subst q1; exact h2
theorem apU:Ord3 sC:=⟨fun x y=>aoM.anti x.toList y.toList,fun x y z=>aoM.trans x.toList y.toList z.toList⟩
end Go.Pl
set_option linter.unusedVariables false
set_option linter.unusedSimpArgs false
namespace Go.Pl
open Go Go.Ab
def lexK {α:Type} (key:α→Int) (c:Int→α→α→Int) (x y:α):Int:=if key x≠key y then iC (key x) (key y) else c (key x) x y
theorem afC (a b:Int):(a < b∧iC a b=-1)∨(a=b∧iC a b=0)∨(b < a∧iC a b=1):=by
  unfold iC
  by_cases h1:a < b
  · exact .inl ⟨h1,if_pos h1⟩
  · by_cases h2:a > b
    · exact .inr (.inr ⟨h2,by rw [if_neg h1,if_pos h2]⟩)
    · exact .inr (.inl ⟨by omega,by rw [if_neg h1,if_neg h2]⟩)
theorem alr {α:Type} {key:α→Int} {c:Int→α→α→Int} (h:∀ k,Ord3 (c k)):Ord3 (lexK key c) where
  anti x y:=by
    unfold lexK
    by_cases e:key x=key y
    · rw [if_neg (by omega),if_neg (by omega),← e]; exact (h _).anti x y
    · rw [if_pos (by omega),if_pos e]; exact amA.anti _ _
  trans x y z:=by
    unfold lexK
    intro h1 h2
    by_cases e1:key x=key y
    · rw [if_neg (by omega)] at h1
      by_cases e2:key y=key z
      · rw [if_neg (by omega)] at h2
        rw [if_neg (by omega)]
        exact (h _).trans x y z h1 (by rw [e1]; exact h2)
      · rw [if_pos e2] at h2
        rw [if_pos (by omega),e1]; exact h2
    · rw [if_pos e1] at h1
      by_cases e2:key y=key z
      · rw [if_pos (by omega),← e2]; exact h1
      · rw [if_pos e2] at h2
        have a1:=afC (key x) (key y)
        have a2:=afC (key y) (key z)
        have a3:=afC (key x) (key z)
        rw [if_pos (by omega)]
        omega
theorem ag0 {α β:Type} {c:β→β→Int} (h:Ord3 c) (f:α→β):Ord3 fun x y=>c (f x) (f y):=⟨fun x y=>h.anti _ _,fun x y z=>h.trans _ _ _⟩
theorem aoo {x:Nat}:aad x=(match FloatKind.f64.format.read x with | .nan ..=>true | _=>false):=by
  unfold aad
  simp only [Ieee.Format.order]
  cases FloatKind.f64.format.read x with
  | nan=>rfl
  | infinity s=>cases s <;> rfl
  | number s m e=>simp [Ieee.Datum.order]
def dR:Ieee.Datum→Int
  | .nan ..=>2
  | .infinity s=>if s then -1 else 1
  | .number ..=>0
def dE:Ieee.Datum→Int
  | .number _ _ i=>i
  | _=>0
def dV (B:Int):Ieee.Datum→Int
  | .number s m i=>Ieee.signed s m (i - B).toNat
  | _=>0
def kC (B:Int):Ieee.Datum→Ieee.Datum→Int:=lexK dR fun _ x y=>iC (dV B x) (dV B y)
theorem aoC (B:Int):Ord3 (kC B):=alr fun _=>ag0 amA (dV B)
theorem aiw (s:Bool) (m a k:Nat):Ieee.signed s m (a+k)=Ieee.signed s m a * ((2 ^ k:Nat):Int):=by
  unfold Ieee.signed
  rw [Nat.shiftLeft_eq,Nat.shiftLeft_eq,Nat.pow_add,← Nat.mul_assoc]
  cases s
  · simp only [Bool.false_eq_true,if_false]; rw [Int.natCast_mul]
  · simp only [if_true]; rw [Int.natCast_mul,Int.neg_mul]
theorem aoD (a b:Int) {q:Nat} (h:0 < q):iC (a * (q:Int)) (b * (q:Int))=iC a b:=by
  have hq:(0:Int) < (q:Int):=by omega
  rcases afC a b with ⟨h1,h2⟩ | ⟨h1,h2⟩ | ⟨h1,h2⟩
  · rw [h2]
    have:=Int.mul_lt_mul_of_pos_right h1 hq
    unfold iC; rw [if_pos this]
  · subst h1; rw [h2]; unfold iC; rw [if_neg (by omega),if_neg (by omega)]
  · rw [h2]
    have:=Int.mul_lt_mul_of_pos_right h1 hq
    unfold iC; rw [if_neg (by omega),if_pos this]
theorem apt {B B':Int} (x y:Ieee.Datum) (h:B≤B') (hx:dR x=0→B'≤dE x) (hy:dR y=0→B'≤dE y):kC B x y=kC B' x y:=by
  unfold kC lexK
  by_cases e:dR x=dR y
  · rw [if_neg (by omega),if_neg (by omega)]
    cases x with
    | number s m i=>
      cases y with
      | number t n j=>
        have h1:B'≤i:=hx rfl
        have h2:B'≤j:=hy rfl
        simp only [dV]
        rw [show (i - B).toNat=(i - B').toNat+(B' - B).toNat by omega,show (j - B).toNat=(j - B').toNat+(B' - B).toNat by omega,aiw,aiw,aoD _ _ (Nat.pow_pos (by decide))]
      | nan=>simp [dR] at e
      | infinity t=>exfalso; revert e; cases t <;> simp [dR]
    | nan=>cases y with
      | number t n j=>simp [dR] at e
      | nan=>rfl
      | infinity t=>rfl
    | infinity s=>cases y with
      | number t n j=>exfalso; revert e; cases s <;> simp [dR]
      | nan=>rfl
      | infinity t=>rfl
  · rw [if_pos e,if_pos e]
theorem apS (a b:Int):(compare a b == .lt)=decide (a < b)∧(compare a b == .gt)=decide (a > b):=by
  rcases afC a b with ⟨h1,_⟩ | ⟨h1,_⟩ | ⟨h1,_⟩
  · have:compare a b=.lt:=Int.compare_eq_lt.2 h1
    rw [this,dT' h1,dF' (by omega)]; exact ⟨rfl,rfl⟩
  · have:compare a b=.eq:=Int.compare_eq_eq.2 h1
    rw [this,dF' (by omega),dF' (by omega)]; exact ⟨rfl,rfl⟩
  · have:compare a b=.gt:=Int.compare_eq_gt.2 h1
    rw [this,dF' (by omega),dT' h1]; exact ⟨rfl,rfl⟩
where
  dT' {p:Prop} [Decidable p] (h:p):decide p=true:=decide_eq_true h
  dF' {p:Prop} [Decidable p] (h:¬ p):decide p=false:=decide_eq_false h
theorem ao4 (x y:Nat):fC x y=kC (min (dE (FloatKind.f64.format.read x)) (dE (FloatKind.f64.format.read y))) (FloatKind.f64.format.read x) (FloatKind.f64.format.read y):=by
  unfold fC fLt fGt
  rw [aoo,aoo]
  simp only [Ieee.Format.order]
  cases FloatKind.f64.format.read x with
  | nan=>cases FloatKind.f64.format.read y with
    | nan=>rfl
    | infinity t=>cases t <;> rfl
    | number t n j=>rfl
  | infinity s=>cases FloatKind.f64.format.read y with
    | nan=>cases s <;> rfl
    | infinity t=>cases s <;> cases t <;> rfl
    | number t n j=>cases s <;> rfl
  | number s m i=>cases FloatKind.f64.format.read y with
    | nan=>rfl
    | infinity t=>cases t <;> rfl
    | number t n j=>
      simp only [Ieee.Datum.order,kC,lexK,dR,dE,dV,ne_eq,not_true_eq_false,if_false,Bool.and_false,cond_false]
      have e1:=apS (Ieee.signed s m (i - min i j).toNat) (Ieee.signed t n (j - min i j).toNat)
      rw [show (some (compare (Ieee.signed s m (i - min i j).toNat) (Ieee.signed t n (j - min i j).toNat)) == some Ordering.lt)=(compare (Ieee.signed s m (i - min i j).toNat) (Ieee.signed t n (j - min i j).toNat) == Ordering.lt) from rfl,show (some (compare (Ieee.signed s m (i - min i j).toNat) (Ieee.signed t n (j - min i j).toNat)) == some Ordering.gt)=(compare (Ieee.signed s m (i - min i j).toNat) (Ieee.signed t n (j - min i j).toNat) == Ordering.gt) from rfl,e1.1,e1.2]
      unfold iC
      generalize Ieee.signed s m (i - min i j).toNat=a
      generalize Ieee.signed t n (j - min i j).toNat=b
      by_cases h1:a < b
      · rw [if_pos h1,decide_eq_true h1]; rfl
      · rw [if_neg h1,decide_eq_false h1,cond_false]
        by_cases h2:a > b
        · rw [if_pos h2,decide_eq_true h2]; rfl
        · rw [if_neg h2,decide_eq_false h2]; rfl
theorem anj {B:Int} {x y:Nat} (hx:B≤dE (FloatKind.f64.format.read x)) (hy:B≤dE (FloatKind.f64.format.read y)):fC x y=kC B (FloatKind.f64.format.read x) (FloatKind.f64.format.read y):=by
  rw [ao4]
  exact (apt _ _ (by omega) (fun _=>by omega) (fun _=>by omega)).symm
theorem aqg:Ord3 fC where
  anti x y:=by
    rw [anj (B:=min (dE (FloatKind.f64.format.read x)) (dE (FloatKind.f64.format.read y))) (x:=y) (y:=x) (by omega) (by omega),ao4]
    exact (aoC _).anti _ _
  trans x y z:=by
    rw [anj (B:=min (min (dE (FloatKind.f64.format.read x)) (dE (FloatKind.f64.format.read y))) (dE (FloatKind.f64.format.read z))) (x:=x) (y:=y) (by omega) (by omega),
      anj (B:=min (min (dE (FloatKind.f64.format.read x)) (dE (FloatKind.f64.format.read y))) (dE (FloatKind.f64.format.read z))) (x:=y) (y:=z) (by omega) (by omega),
      anj (B:=min (min (dE (FloatKind.f64.format.read x)) (dE (FloatKind.f64.format.read y))) (dE (FloatKind.f64.format.read z))) (x:=x) (y:=z) (by omega) (by omega)]
    exact (aoC _).trans _ _ _
theorem apR:Ord3 vC:=by
  have:Ord3 (lexK (fun v:zq=>v.fKind) (fun k p q=>if k=3 then fC p.fFloat q.fFloat else if k=4 then sC p.fText q.fText else iC p.fInt q.fInt)):=by
    refine alr fun k=>?_
    by_cases h3:k=3
    · simp only [h3,if_true]; exact ag0 aqg (fun v:zq=>v.fFloat)
    · by_cases h4:k=4
      · simp only [h4,if_true,if_neg (by decide:¬ (4:Int)=3)]; exact ag0 apU (fun v:zq=>v.fText)
      · simp only [h3,h4,if_false]; exact ag0 amA (fun v:zq=>v.fInt)
  exact this
theorem acZ:Ord3 vCmp:=ag0 apR abU
end Go.Pl
set_option linter.unusedVariables false
set_option linter.unusedSimpArgs false
namespace Go.Pl
open Go Go.Ab
theorem qA {α:Type} (l:List α):sll (some l)=l:=rfl
theorem dT {p:Prop} [Decidable p] (h:p):decide p=true:=decide_eq_true h
theorem dF {p:Prop} [Decidable p] (h:¬ p):decide p=false:=decide_eq_false h
theorem Qw {b n:Nat} (h:n≤2000000) (hb:b≤1000):ckA b n=some ():=by
  unfold ckA
  rw [if_pos]
  have:=Nat.mul_le_mul h hb
  omega
def mapO {α β:Type} (f:α→β) (l:List α):Option (List β):=if l=[] then none else some (l.map f)
theorem als {α β:Type} (f:α→β) (l:List α):sll (mapO f l)=l.map f:=by
  unfold mapO; split
  · rename_i h; subst h; rfl
  · rfl
theorem beqT {a b:Int} (h:a=b):(a == b)=true:=beq_iff_eq.2 h
theorem beqF {a b:Int} (h:¬ a=b):(a == b)=false:=beq_eq_false_iff_ne.2 h
end Go.Pl
set_option linter.unusedVariables false
set_option linter.unusedSimpArgs false
set_option maxRecDepth 100000
namespace Go.Pl
open Go Go.Ab
theorem alQ {α R:Type} {F:Nat→Int→Option R} {l:List α} {p:α→Bool} {kk e:Option R} (hl:l.length≤1048576)
    (hF:∀ (m i:Nat) (x:α),(hi:i < l.length)→l[i]=x→F (m+1) (i:Int)=bif p x then F m (IntKind.wrap .i64 ((i:Int)+1)) else e) (hE:∀ (m:Nat),F (m+1) (l.length:Int)=kk):
    ∀ (m i:Nat),i≤l.length→l.length - i < m→F m (i:Int)=bif (l.drop i).all p then kk else e
  | 0,i,_,h=>by omega
  | m+1,i,h,hm=>by
    by_cases hi:i < l.length
    · rw [hF m i _ hi rfl,acv (by omega),alQ hl hF hE m (i+1) (by omega) (by omega),List.drop_eq_getElem_cons hi,List.all_cons]
      cases p l[i] <;> rfl
    · obtain rfl:i=l.length:=by omega
      rw [hE,List.drop_length]; rfl
theorem an8 {α R:Type} {F:Nat→Int→Option R} {l:List α} {p:α→Bool} {kk e:Option R} (hl:l.length≤1048576) {m:Nat} (hm:2000000≤m)
    (hF:∀ (m i:Nat) (x:α),(hi:i < l.length)→l[i]=x→F (m+1) (i:Int)=bif p x then F m (IntKind.wrap .i64 ((i:Int)+1)) else e) (hE:∀ (m:Nat),F (m+1) (l.length:Int)=kk):
    F m 0=bif l.all p then kk else e:=by
  have:=alQ hl hF hE m 0 (by omega) (by omega)
  simpa using this
theorem ajX {α β R:Type} {f:α→β} {l3:Nat→Option (List β)→Int→Option R} {l:List α} {K:Option (List β)→Option R} {b:Nat} (hb:b≤1000) (hl:l.length≤1048576)
    (hF:∀ (m i:Nat) (s:Option (List β)) (x:α),(hi:i < l.length)→l[i]=x→l3 (m+1) s (i:Int)=(ckA b (sll s++[f x]).length).bind fun _=>l3 m (some (sll s++[f x])) (IntKind.wrap .i64 ((i:Int)+1)))
    (hE:∀ (m:Nat) (s:Option (List β)),l3 (m+1) s (l.length:Int)=K s):∀ (m i:Nat) (s:Option (List β)),i≤l.length→l.length - i < m→(sll s).length+(l.length - i)≤1048576→l3 m s (i:Int)=K (if l.drop i=[] then s else some (sll s++(l.drop i).map f))
  | 0,i,s,_,h,_=>by omega
  | m+1,i,s,h,hm,hs=>by
    by_cases hi:i < l.length
    · rw [hF m i s _ hi rfl,Qw (by simp; omega) hb,Option.bind_some,acv (by omega),ajX hb hl hF hE m (i+1) _ (by omega) (by omega) (by rw [qA]; simp; omega),List.drop_eq_getElem_cons hi,if_neg (List.cons_ne_nil _ _),List.map_cons,qA,List.append_assoc]
      by_cases hn:l.drop (i+1)=[]
      · rw [if_pos hn,hn]; rfl
      · rw [if_neg hn]; rfl
    · obtain rfl:i=l.length:=by omega
      rw [hE,List.drop_length,if_pos rfl]
theorem an1 {α β R:Type} {f:α→β} {l3:Nat→Option (List β)→Int→Option R} {l:List α} {K:Option (List β)→Option R} {b:Nat} (hb:b≤1000) (hl:l.length≤1048576) {m:Nat} (hm:2000000≤m)
    (hF:∀ (m i:Nat) (s:Option (List β)) (x:α),(hi:i < l.length)→l[i]=x→l3 (m+1) s (i:Int)=(ckA b (sll s++[f x]).length).bind fun _=>l3 m (some (sll s++[f x])) (IntKind.wrap .i64 ((i:Int)+1)))
    (hE:∀ (m:Nat) (s:Option (List β)),l3 (m+1) s (l.length:Int)=K s):l3 m none 0=K (mapO f l):=by
  have:=ajX hb hl hF hE m 0 none (by omega) (by omega) (by show 0+_≤_; omega)
  rw [show ((0:Nat):Int)=0 from rfl,List.drop_zero] at this
  rw [this]; rfl
theorem Z8 {α:Type} {l:List α} {i:Nat} {x:α} (hi:i < l.length) (e:l[i]=x):idx l (i:Int)=some x:=by
  rw [acQ,List.getElem?_eq_getElem hi,e]
end Go.Pl
set_option linter.unusedVariables false
set_option linter.unusedSimpArgs false
set_option maxRecDepth 100000
namespace Go.Pl
open Go Go.Ab
theorem amg {α β R:Type} {F:Nat→Int→Option R} {la:List α} {lb:List β} {p:α→β→Bool} {kk e:Option R} (he:la.length=lb.length) (hl:la.length≤1048576) {m:Nat} (hm:2000000≤m)
    (hF:∀ (m i:Nat) (x:α) (y:β),(hi:i < la.length)→idx la (i:Int)=some x→idx lb (i:Int)=some y→x∈la→y∈lb→F (m+1) (i:Int)=bif p x y then F m (IntKind.wrap .i64 ((i:Int)+1)) else e) (hE:∀ (m:Nat),F (m+1) (la.length:Int)=kk):
    F m 0=bif (la.zip lb).all (fun q=>p q.1 q.2) then kk else e:=by
  have hz:(la.zip lb).length=la.length:=by rw [List.length_zip]; omega
  refine an8 (l:=la.zip lb) (p:=fun q=>p q.1 q.2) (by omega) hm (fun m i q hi e'=>?_) (fun m=>by rw [hz]; exact hE m)
  have hi1:i < la.length:=by omega
  have hi2:i < lb.length:=by omega
  rw [List.getElem_zip] at e'
  subst e'
  exact hF m i _ _ hi1 (Z8 hi1 rfl) (Z8 hi2 rfl) (List.getElem_mem _) (List.getElem_mem _)
def aaB {α β:Type} (p:α→β→Bool) (a:List α) (b:List β):Bool:=decide (a.length=b.length) && (a.zip b).all fun q=>p q.1 q.2
theorem amC {α β:Type} {p:α→β→Bool} {a:List α} {b:List β} (h:a.length≠b.length):aaB p a b=false:=by
  unfold aaB; rw [dF h]; rfl
theorem aik {α β:Type} {p:α→β→Bool} {a:List α} {b:List β} (h:a.length=b.length):aaB p a b=(a.zip b).all fun q=>p q.1 q.2:=by
  unfold aaB; rw [dT h]; rfl
theorem agx {α β:Type} {F:Nat→Int→Option Bool} {la:List α} {lb:List β} {p:α→β→Bool} (hl:la.length≤1048576) {m:Nat} (hm:2000000≤m)
    (hF:la.length=lb.length→∀ (m i:Nat) (x:α) (y:β),(hi:i < la.length)→idx la (i:Int)=some x→idx lb (i:Int)=some y→x∈la→y∈lb→F (m+1) (i:Int)=bif p x y then F m (IntKind.wrap .i64 ((i:Int)+1)) else some false) (hE:∀ (m:Nat),F (m+1) (la.length:Int)=some true):
    (bif ((la.length:Int) != (lb.length:Int)) then some false else F m 0)=some (aaB p la lb):=by
  by_cases h:la.length=lb.length
  · rw [show ((la.length:Int) != (lb.length:Int))=false by rw [h]; simp,cond_false,amg h hl hm (hF h) hE,aik h]
    cases (la.zip lb).all fun q=>p q.1 q.2 <;> rfl
  · rw [show ((la.length:Int) != (lb.length:Int))=true by rw [bne_iff_ne]; omega,cond_true,amC h]
def adK (x y:zq):Bool:=vCmp x y == 0
theorem ajD {a b:zq} (ha:qW a) (hb:qW b) {n:Nat} (h:5≤n):adI n a b=some (adK a b):=by
  obtain ⟨n,rfl⟩:∃ k,n=k+1:=⟨n - 1,by omega⟩
  unfold adI
  rw [zt,akH ha hb (by omega)]; rfl
theorem akF {α:Type} {p:α→α→Bool} (l:List α) (h:∀ x,x∈l→p x x=true):aaB p l l=true:=by
  rw [aik rfl,List.all_eq_true]
  intro q hq
  obtain ⟨i,hi,rfl⟩:=List.getElem_of_mem hq
  rw [List.getElem_zip]
  exact h _ (List.getElem_mem _)
end Go.Pl
set_option linter.unusedVariables false
set_option linter.unusedSimpArgs false
set_option maxRecDepth 100000
namespace Go.Pl
open Go Go.Ab
abbrev EX:=zd
def szL (x:zh):Nat:=PV.bulkL (Zy x)
theorem amo {x:zh} {z:EX} (h:z∈sll x.fKids):szL (zg z) < szL x:=by
  have e:szL (zg z)=PV.bulkL (za z):=by rw [zu z]; rfl
  rw [e]
  unfold szL Zy
  cases hk:x.fKids with
  | none=>rw [hk] at h; cases h
  | some l=>
    rw [hk] at h
    have:=ads (rows:=l.map za) (r:=za z) (List.mem_map_of_mem h)
    simp only [PV.bulkL,PV.bulk,zc]
    omega
theorem akq {x:zh} (hw:Zx x) {z:EX} (h:z∈sll x.fKids):Zx (zg z):=by
  have hs:=amo h
  have h2:=hw.2
  refine ⟨?_,by unfold szL at hs; omega⟩
  have h1:=hw.1
  unfold Zy at h1
  rw [← zu z]
  cases hk:x.fKids with
  | none=>rw [hk] at h; cases h
  | some l=>
    rw [hk] at h h1
    generalize hp:([.int .i64 x.fKind,.int .i64 x.fRel,.int .i64 x.fCol,.int .i64 x.fConst.fKind,.int .i64 x.fConst.fInt,.flt .f64 x.fConst.fFloat,.str x.fConst.fText,zc za (some l)]:List PV)=p at h1
    cases h1 with
    | nil a b c v w=>simp [zc] at hp
    | some a b c v rows w hl hr=>
      simp only [List.cons.injEq,and_true,zc,PV.sl.injEq] at hp
      obtain ⟨_,_,_,_,_,_,_,e⟩:=hp
      subst e
      exact hr _ (List.mem_map_of_mem h)
theorem adH {x:zh} (hw:Zx x):(sll x.fKids).length≤1048576:=by
  have h1:=hw.1
  unfold Zy at h1
  cases hk:x.fKids with
  | none=>simp [sll]
  | some l=>
    rw [hk] at h1
    generalize hp:([.int .i64 x.fKind,.int .i64 x.fRel,.int .i64 x.fCol,.int .i64 x.fConst.fKind,.int .i64 x.fConst.fInt,.flt .f64 x.fConst.fFloat,.str x.fConst.fText,zc za (some l)]:List PV)=p at h1
    cases h1 with
    | nil a b c v w=>simp [zc] at hp
    | some a b c v rows w hl hr=>
      simp only [List.cons.injEq,and_true,zc,PV.sl.injEq] at hp
      obtain ⟨_,_,_,_,_,_,_,e⟩:=hp
      subst e
      show l.length≤_
      simpa using hl
def ownR (x:zh):Int:=bif ((x.fKind == 1) && (decide (x.fRel≥0))) && (decide (x.fRel≤31)) then iShl .u32 1 (IntKind.wrap .u64 x.fRel) else 0
noncomputable def relD:Nat→zh→Int
  | 0,_=>0
  | k+1,x=>(sll x.fKids).foldl (fun acc z=>iOr .u32 acc (relD k (zg z))) (ownR x)
noncomputable def relE (z:EX):Int:=relD 1048576 (zg z)
def okS (S r:Int):Bool:=((afL .u32 r S) == 0) && ((r != 0) || ((iAnd .u32 S 1) == 1))
noncomputable def wl (S:Int):List EX→Nat→List Int
  | [],_=>[]
  | z :: l,i=>bif okS S (relE z) then (i:Int) :: wl S l (i+1) else wl S l (i+1)
end Go.Pl
set_option linter.unusedVariables false
set_option linter.unusedSimpArgs false
set_option maxRecDepth 100000
namespace Go.Pl
open Go Go.Ab
def afq (k:Int):Int:=if k=1∨k=2 then 0 else if k=6∨k=12∨k=13 then 1 else if 3≤k∧k≤11 then 2 else -1
theorem ak5 (k:Int) {n:Nat} (hn:1≤n):aek n k=some (afq k):=by
  obtain ⟨n,rfl⟩:∃ j,n=j+1:=⟨n - 1,by omega⟩
  unfold aek
  rw [zt]
  simp only [zD]
  have ne:∀ {c:Int},k≠c→(k == c)=false:=fun h=>beq_eq_false_iff_ne.2 h
  by_cases h1:k=1
  · subst h1; rfl
  by_cases h2:k=2
  · subst h2; rfl
  by_cases h6:k=6
  · subst h6; rfl
  by_cases h12:k=12
  · subst h12; rfl
  by_cases h13:k=13
  · subst h13; rfl
  by_cases h3:k=3
  · subst h3; rfl
  by_cases h4:k=4
  · subst h4; rfl
  by_cases h5:k=5
  · subst h5; rfl
  by_cases h7:k=7
  · subst h7; rfl
  by_cases h8:k=8
  · subst h8; rfl
  by_cases h9:k=9
  · subst h9; rfl
  by_cases h10:k=10
  · subst h10; rfl
  by_cases h11:k=11
  · subst h11; rfl
  rw [ne h1,ne h2,ne h6,ne h12,ne h13,ne h3,ne h4,ne h5,ne h7,ne h8,ne h9,ne h10,ne h11]
  unfold afq
  rw [if_neg (by omega),if_neg (by omega),if_neg (by omega)]
  rfl
def inE (k:Int):Bool:=decide (k≥0) && decide (k≤31)
def afR (x:zh):Bool:=!((x.fKind != 1) && ((x.fRel != 0) || (x.fCol != 0))) && inE x.fRel && inE x.fCol && aea x.fConst && ((x.fKind == 2) || (x.fConst.fKind == 0))
theorem aja {x:zh} (hc:qW x.fConst) {n:Nat} (hn:5≤n):acS n x=some (afR x):=by
  obtain ⟨n,rfl⟩:∃ j,n=j+1:=⟨n - 1,by omega⟩
  have e1:∀ k,abE n k=some (inE k):=fun k=>by
    obtain ⟨n,rfl⟩:∃ j,n=j+1:=⟨n - 1,by omega⟩
    rfl
  unfold acS afR
  rw [zt,e1,e1,afr _ (by omega)]
  cases ((x.fKind != 1) && ((x.fRel != 0) || (x.fCol != 0))) <;> cases inE x.fRel <;> cases inE x.fCol <;> cases aea x.fConst <;> rfl
def agQ (x:zh):Bool:=(afq x.fKind == ((sll x.fKids).length:Int)) && afR x
def sumO {α:Type} (f:α→Option Nat):List α→Option Nat
  | []=>some 0
  | z :: l=>match f z,sumO f l with
    | some a,some b=>some (a+b)
    | _,_=>none
noncomputable def frmE:Nat→zh→Option Nat
  | 0,_=>none
  | r+1,x=>bif agQ x then (sumO (fun z=>frmE r (zg z)) (sll x.fKids)).map (·+1) else none
theorem aoc {r:Nat} {x:zh} {c:Nat} (h:frmE r x=some c):1≤c:=by
  cases r with
  | zero=>cases h
  | succ r=>
    unfold frmE at h
    cases hn:agQ x with
    | false=>rw [hn] at h; cases h
    | true=>
      rw [hn,cond_true,Option.map_eq_some_iff] at h
      obtain ⟨a,_,rfl⟩:=h
      omega
theorem ai5 {α:Type} {f:α→Option Nat}:∀ {l:List α} {c:Nat},sumO f l=some c→∀ z,z∈l→∃ a,f z=some a∧a≤c
  | [],c,h,z,hz=>by cases hz
  | y :: l,c,h,z,hz=>by
    unfold sumO at h
    split at h
    · rename_i a b e1 e2
      injection h with h; subst h
      rcases List.mem_cons.1 hz with rfl | hz
      · exact ⟨a,e1,by omega⟩
      · obtain ⟨d,q1,q2⟩:=ai5 e2 z hz
        exact ⟨d,q1,by omega⟩
    · cases h
theorem aiQ {r:Nat} {x:zh} {c:Nat} (h:frmE (r+1) x=some c):agQ x=true∧∀ z,z∈sll x.fKids→∃ a,frmE r (zg z)=some a∧a < c:=by
  unfold frmE at h
  cases hn:agQ x with
  | false=>rw [hn] at h; cases h
  | true=>
    rw [hn,cond_true,Option.map_eq_some_iff] at h
    obtain ⟨a,ha,rfl⟩:=h
    refine ⟨rfl,fun z hz=>?_⟩
    obtain ⟨b,q1,q2⟩:=ai5 ha z hz
    exact ⟨b,q1,by omega⟩
def afE (o:Option Nat) (left:Int):Int:=match o with
  | some c=>if (c:Int)≤left then left - c else -1
  | none=>-1
theorem amZ {x:zh} (hw:Zx x):qW x.fConst:=by
  have h1:=hw.1
  unfold Zy at h1
  generalize hp:([.int .i64 x.fKind,.int .i64 x.fRel,.int .i64 x.fCol,.int .i64 x.fConst.fKind,.int .i64 x.fConst.fInt,.flt .f64 x.fConst.fFloat,.str x.fConst.fText,zc za x.fKids]:List PV)=p at h1
  cases h1 with
  | nil a b c v w=>
    simp only [List.cons.injEq,PV.int.injEq,PV.flt.injEq,PV.str.injEq,true_and,and_true] at hp
    obtain ⟨_,_,_,e1,e2,e3,e4,_⟩:=hp
    obtain ⟨v1,v2,v3,v4⟩:=v
    simp only at e1 e2 e3 e4
    have:x.fConst=⟨v1,v2,v3,v4⟩:=by
      cases hx:x.fConst with
      | mk a b c d=>rw [hx] at e1 e2 e3 e4; simp only at e1 e2 e3 e4; rw [e1,e2,e3,e4]
    rw [this]; exact w.2.2.2
  | some a b c v rows w hl hr=>
    simp only [List.cons.injEq,PV.int.injEq,PV.flt.injEq,PV.str.injEq,true_and,and_true] at hp
    obtain ⟨_,_,_,e1,e2,e3,e4,_⟩:=hp
    obtain ⟨v1,v2,v3,v4⟩:=v
    simp only at e1 e2 e3 e4
    have:x.fConst=⟨v1,v2,v3,v4⟩:=by
      cases hx:x.fConst with
      | mk a b c d=>rw [hx] at e1 e2 e3 e4; simp only at e1 e2 e3 e4; rw [e1,e2,e3,e4]
    rw [this]; exact w.2.2.2
theorem agu {α:Type} {f:α→Option Nat} {K:Int→Option Int} {F:Nat→Int→Int→Option Int} {ks:List α} {C:α→Int→Option Int}
    (hF:∀ m left i,F (m+1) left i=bif decide (i < (ks.length:Int)) then (idx ks i).bind fun z=>(C z left).bind fun r=>bif decide (r < 0) then some (-1) else F m r (IntKind.wrap .i64 (i+1)) else K left)
    {B:Int} (hB:B≤1000) (hC:∀ z,z∈ks→∀ left,0≤left→left≤B→C z left=some (afE (f z) left)) (hks:ks.length≤1048576):
    ∀ (l:List α) (m:Nat) (p:List α) (left:Int),ks=p++l→l.length < m→0≤left→left≤B→
      F m left (p.length:Int)=match sumO f l with
        | some c=>if (c:Int)≤left then K (left - c) else some (-1)
        | none=>some (-1)
  | [],m,p,left,he,hm,h0,h4=>by
    obtain ⟨m,rfl⟩:∃ j,m=j+1:=⟨m - 1,by omega⟩
    rw [hF,dF (by rw [he]; simp),cond_false]
    simp only [sumO]
    rw [if_pos (by omega)]
    congr 1; omega
  | z :: l,m,p,left,he,hm,h0,h4=>by
    obtain ⟨m,rfl⟩:∃ j,m=j+1:=⟨m - 1,by omega⟩
    rw [List.length_cons] at hm
    have hz:z∈ks:=by rw [he]; simp
    have hix:idx ks (p.length:Int)=some z:=by rw [he,acQ]; simp
    rw [hF,dT (by rw [he]; simp; omega),cond_true,hix,Option.bind_some,hC z hz left h0 h4,Option.bind_some]
    have hlen:ks.length=p.length+(l.length+1):=by rw [he]; simp
    rw [acv (by omega)]
    have e:p.length+1=(p++[z]).length:=by simp
    obtain ⟨v,hv⟩:∃ v,v=afE (f z) left:=⟨_,rfl⟩
    rw [← hv]
    unfold sumO
    cases hf:f z with
    | none=>
      rw [hf] at hv
      rw [show v=-1 from hv]
      rfl
    | some a=>
      rw [hf] at hv
      simp only [afE] at hv
      by_cases ha:(a:Int)≤left
      · rw [if_pos ha] at hv
        subst hv
        rw [dF (by omega),cond_false,e,agu hF hB hC hks l m (p++[z]) (left - a) (by rw [he]; simp) (by omega) (by omega) (by omega)]
        cases hs:sumO f l with
        | none=>rfl
        | some b=>
          simp only
          by_cases hb:(b:Int)≤left - a
          · rw [if_pos hb,if_pos (by omega)]; congr 1; omega
          · rw [if_neg hb,if_neg (by omega)]
      · rw [if_neg ha] at hv
        subst hv
        rw [dT (by omega),cond_true]
        cases hs:sumO f l with
        | none=>rfl
        | some b=>simp only; rw [if_neg (by omega)]
theorem ao8:∀ (r:Nat),r≤24→∀ (x:zh),Zx x→∀ (left:Int),left≤400→-1≤left→∀ m n,r+1≤m→2000000+r≤n→
    Qi m n x (25 - (r:Int)) left=some (afE (frmE r x) left):=by
  intro r
  induction r with
  | zero=>
    intro hr x hw left h4 h0 m n hm hn
    obtain ⟨m,rfl⟩:∃ j,m=j+1:=⟨m - 1,by omega⟩
    obtain ⟨n,rfl⟩:∃ j,n=j+1:=⟨n - 1,by omega⟩
    show aav (Qi m) (n+1) x _ left=_
    unfold aav
    rw [zt,dT (by omega),cond_true]
    rfl
  | succ r ih=>
    intro hr x hw left h4 h0 m n hm hn
    obtain ⟨m,rfl⟩:∃ j,m=j+1:=⟨m - 1,by omega⟩
    obtain ⟨n,rfl⟩:∃ j,n=j+1:=⟨n - 1,by omega⟩
    show aav (Qi m) (n+1) x _ left=_
    unfold aav
    rw [zt,dF (by omega),cond_false]
    by_cases hl:left < 1
    · rw [dT hl,cond_true]
      unfold afE
      cases hf:frmE (r+1) x with
      | none=>rfl
      | some c=>
        have:=aoc hf
        simp only
        rw [if_neg (by omega)]
    · rw [dF hl,cond_false,ak5 _ (by omega),Option.bind_some]
      rw [frmE]
      unfold agQ
      by_cases hk:afq x.fKind=((sll x.fKids).length:Int)
      · rw [show (afq x.fKind != ((sll x.fKids).length:Int))=false by simp [hk],cond_false,show (afq x.fKind == ((sll x.fKids).length:Int))=true by simp [hk],Bool.true_and]
        rw [show zh.mk x.fKind x.fRel x.fCol x.fConst x.fKids=x from rfl,aja (amZ hw) (by omega),Option.bind_some]
        cases hfd:afR x with
        | false=>rfl
        | true=>
          rw [Bool.not_true,cond_false,cond_true]
          show zD (fun k12=>aaQ n (Qi m) x (25 - ((r+1:Nat):Int)) k12 n (IntKind.wrap .i64 (left - 1)) 0) (fun (y9:Int)=>some y9)=_
          unfold zD
          rw [aeT (by omega) (by omega)]
          have key:=agu (f:=fun z=>frmE r (zg z)) (K:=fun y9=>some y9) (F:=fun m' left' i=>aaQ n (Qi m) x (25 - ((r+1:Nat):Int)) (fun y9=>some y9) m' left' i) (ks:=sll x.fKids)
            (C:=fun z left'=>Qi m n (zg z) (IntKind.wrap .i64 ((25 - ((r+1:Nat):Int))+1)) left')
            (fun m' left' i=>rfl) (B:=400) (by omega) (fun z hz left' h1 h2=>by
              show Qi m n (zg z) (IntKind.wrap .i64 ((25 - ((r+1:Nat):Int))+1)) left'=_
              rw [aeT (by omega) (by omega),show (25 - ((r+1:Nat):Int))+1=25 - (r:Int) by omega]
              exact ih (by omega) _ (akq hw hz) left' h2 (by omega) m n (by omega) (by omega)) (adH hw) (sll x.fKids) n [] (left - 1) rfl (by have:=adH hw; omega) (by omega) (by omega)
          refine Eq.trans key ?_
          cases hs:sumO (fun z=>frmE r (zg z)) (sll x.fKids) with
          | none=>rfl
          | some c=>
            simp only [Option.map_some,afE]
            by_cases hc:(c:Int)≤left - 1
            · rw [if_pos hc,if_pos (by omega)]; congr 1; omega
            · rw [if_neg hc,if_neg (by omega)]
      · rw [show (afq x.fKind != ((sll x.fKids).length:Int))=true by simp [hk],cond_true,show (afq x.fKind == ((sll x.fKids).length:Int))=false by simp [hk],Bool.false_and]
        rfl
noncomputable def QR (x:zh):Bool:=match frmE 24 x with
  | some c=>decide (c≤400)
  | none=>false
theorem acg {x:zh} (hw:Zx x) {n:Nat} (hn:2000100≤n):abo n x=some (QR x):=by
  obtain ⟨n,rfl⟩:∃ j,n=j+1:=⟨n - 1,by omega⟩
  unfold abo
  rw [zt]
  have:=ao8 24 (by omega) x hw 400 (by omega) (by omega) n n (by omega) (by omega)
  rw [show (25 - ((24:Nat):Int))=1 from rfl] at this
  rw [show agh n x 1 400=some _ from this,Option.bind_some]
  unfold QR afE
  cases frmE 24 x with
  | none=>rfl
  | some c=>exact congrArg some (decide_eq_decide.2 (by simp only; split <;> omega))
theorem aiI {x:zh} (h:QR x=true):∃ c,frmE 24 x=some c∧c≤400:=by
  unfold QR at h
  split at h
  · rename_i c hc; exact ⟨c,hc,by simpa using h⟩
  · cases h
end Go.Pl
set_option linter.unusedVariables false
set_option linter.unusedSimpArgs false
set_option maxRecDepth 100000
namespace Go.Pl
open Go Go.Ab
theorem W_un {z:EX} (h:zI z):Zx (zg z):=by
  unfold zI at h
  rw [zu z] at h
  exact h
theorem akw:∀ (s m n:Nat) (a:Option (List EX)) (most:Int),(∀ z,z∈sll a→Zx (zg z)∧szL (zg z)≤s)→(sll a).length≤1048600→s < m→2000020+s≤n→∃ r,aaA m n a most=some r
  | s,m,n,a,most,hz,hl,hm,hn=>by
    obtain ⟨m,rfl⟩:∃ j,m=j+1:=⟨m - 1,by omega⟩
    obtain ⟨n,rfl⟩:∃ j,n=j+1:=⟨n - 1,by omega⟩
    show ∃ r,acr (aaA m) (n+1) a most=some r
    unfold acr
    rw [zt]
    cases hq:decide (((sll a).length:Int) > most) with
    | true=>exact ⟨_,rfl⟩
    | false=>
      rw [cond_false]
      show ∃ r,Qk n (aaA m) a most (fun y3=>some y3) n ((sll a).length:Int) ((0:Nat):Int)=some r
      have key:∀ (d mm i:Nat) (acc:Int),i+d=(sll a).length→d < mm→∃ r,Qk n (aaA m) a most (fun y3=>some y3) mm acc (i:Int)=some r:=by
        intro d
        induction d with
        | zero=>
          intro mm i acc hi hmm
          obtain ⟨mm,rfl⟩:∃ j,mm=j+1:=⟨mm - 1,by omega⟩
          rw [Qk,dF (by omega:¬ (i:Int) < ((sll a).length:Int)),Bool.false_and,cond_false]
          exact ⟨_,rfl⟩
        | succ d ih=>
          intro mm i acc hi hmm
          obtain ⟨mm,rfl⟩:∃ j,mm=j+1:=⟨mm - 1,by omega⟩
          rw [Qk]
          cases hc:(decide ((i:Int) < ((sll a).length:Int)) && decide (acc≤most)) with
          | false=>exact ⟨_,rfl⟩
          | true=>
            have hi':i < (sll a).length:=by omega
            have hzi:=hz _ (List.getElem_mem hi')
            rw [cond_true,acQ,List.getElem?_eq_getElem hi',Option.bind_some,acv (by omega)]
            cases decide ((((((zg (sll a)[i]).fConst).fText).size:Nat):Int) > most) with
            | true=>exact ⟨_,rfl⟩
            | false=>
              rw [cond_false]
              cases decide ((IntKind.wrap .i64 (acc+((((zg (sll a)[i]).fConst).fText).size:Int)))≤most) with
              | false=>exact ih mm (i+1) _ (by omega) (by omega)
              | true=>
                rw [cond_true]
                have hs:0 < s:=by
                  have:=hzi.2
                  unfold szL Zy at this
                  simp only [PV.bulkL,PV.bulk] at this
                  omega
                obtain ⟨r,hr⟩:=akw (s - 1) m n ((zg (sll a)[i]).fKids) (IntKind.wrap .i64 (most - (IntKind.wrap .i64 (acc+((((zg (sll a)[i]).fConst).fText).size:Int))))) (fun y hy=>⟨akq hzi.1 hy,by have:=amo hy; omega⟩) (by have:=adH hzi.1; omega) (by omega) (by omega)
                rw [hr,Option.bind_some]
                exact ih mm (i+1) _ (by omega) (by omega)
      exact key (sll a).length n 0 _ (by omega) (by omega)
  termination_by s=>s
  decreasing_by omega
end Go.Pl
set_option linter.unusedVariables false
set_option linter.unusedSimpArgs false
set_option maxRecDepth 100000
namespace Go.Pl
open Go Go.Ab
theorem map_inj {α β:Type} {R:α→β} (hR:∀ x y,R x=R y→x=y):∀ (a b:List α),a.map R=b.map R→a=b
  | [],[],_=>rfl
  | [],y :: b,h=>by cases h
  | x :: a,[],h=>by cases h
  | x :: a,y :: b,h=>by
    simp only [List.map_cons,List.cons.injEq] at h
    rw [hR x y h.1,map_inj hR a b h.2]
theorem Qs {α:Type} {R:α→List PV} (hR:∀ x y,R x=R y→x=y) {a b:Option (List α)} (h:zc R a=zc R b):a=b:=by
  cases a with
  | none=>
    cases b with
    | none=>rfl
    | some b=>cases h
  | some a=>
    cases b with
    | none=>cases h
    | some b=>
      simp only [zc,PV.sl.injEq] at h
      rw [map_inj hR a b h]
theorem acM (x y:zd) (h:za x=za y):x=y:=Subtype.ext h
theorem amw (x y:zh) (h:Zy x=Zy y):x=y:=by
  obtain ⟨a1,a2,a3,⟨v1,v2,v3,v4⟩,a5⟩:=x
  obtain ⟨b1,b2,b3,⟨w1,w2,w3,w4⟩,b5⟩:=y
  unfold Zy at h
  simp only [List.cons.injEq,PV.int.injEq,PV.flt.injEq,PV.str.injEq,true_and,and_true] at h
  obtain ⟨rfl,rfl,rfl,rfl,rfl,rfl,rfl,h5⟩:=h
  rw [Qs acM h5]
theorem akj (x y:zK) (h:zj x=zj y):x=y:=by
  obtain ⟨k,a1,a2,a3,⟨v1,v2,v3,v4⟩,a5⟩:=x
  obtain ⟨k',b1,b2,b3,⟨w1,w2,w3,w4⟩,b5⟩:=y
  unfold zj at h
  simp only [List.cons.injEq,PV.int.injEq,PV.flt.injEq,PV.str.injEq,true_and,and_true] at h
  obtain ⟨rfl,rfl,rfl,rfl,rfl,rfl,rfl,rfl,h5⟩:=h
  rw [Qs acM h5]
theorem aj6 (x y:Zn) (h:zn x=zn y):x=y:=by
  obtain ⟨k,a1⟩:=x
  obtain ⟨k',b1⟩:=y
  unfold zn at h
  simp only [List.cons.injEq,PV.int.injEq,PV.bool.injEq,true_and,and_true] at h
  obtain ⟨rfl,rfl⟩:=h
  rfl
theorem aew (x:zh):zg (zi x)=x:=(amw _ _ ((zu (zi x)).symm.trans rfl))
abbrev PX:=QL
def szP (x:zl):Nat:=PV.bulkL (aab x)
theorem ac8 {α:Type} (R:α→List PV) (s:Option (List α)):1≤(zc R s).bulk:=by
  cases s with
  | none=>simp only [zc,PV.bulk]; omega
  | some l=>simp only [zc,PV.bulk]; omega
theorem agM {x:zl} {z:PX} (h:z∈sll x.fKids):szP (zr z)+8≤szP x:=by
  have e:szP (zr z)=PV.bulkL (zm z):=by rw [ZK z]; rfl
  rw [e]
  unfold szP aab
  cases hk:x.fKids with
  | none=>rw [hk] at h; cases h
  | some l=>
    rw [hk] at h
    have:=ads (rows:=l.map zm) (r:=zm z) (List.mem_map_of_mem h)
    have b1:=ac8 za x.fWhere
    have b2:=ac8 za x.fLeft
    have b3:=ac8 za x.fRight
    have b4:=ac8 za x.fOut
    have b5:=ac8 zj x.fAggs
    have b6:=ac8 zn x.fOrder
    rw [show zc zm (some l)=.sl (l.map zm) from rfl]
    simp only [PV.bulkL,PV.bulk]
    omega
def PW (x:zl):Prop:=wI .i64 x.fKind∧wI .i64 x.fRel∧wSl zI x.fWhere∧wSl zI x.fLeft∧wSl zI x.fRight∧wSl zI x.fOut∧wSl Qr x.fAggs∧wSl acA x.fOrder
theorem ap6 {x:zl} (hw:abh x):PW x∧(sll x.fKids).length≤1048576∧∀ z,z∈sll x.fKids→abh (zr z):=by
  have h1:=hw.1
  have hb:=hw.2
  have hkid:∀ z,z∈sll x.fKids→abi (zm z)→abh (zr z):=fun z hz hg=>by
    have:=agM hz
    unfold szP at this
    rw [ZK z] at hg
    exact ⟨hg,by omega⟩
  unfold aab at h1
  generalize hp:([.int .i64 x.fKind,.int .i64 x.fRel,zc za x.fWhere,zc za x.fLeft,zc za x.fRight,zc za x.fOut,zc zj x.fAggs,zc zn x.fOrder,zc zm x.fKids]:List PV)=p at h1
  cases h1 with
  | nil a b c d e f g h w=>
    simp only [List.cons.injEq,PV.int.injEq,true_and,and_true] at hp
    obtain ⟨e1,e2,e3,e4,e5,e6,e7,e8,e9⟩:=hp
    have k9:x.fKids=none:=by
      cases hk:x.fKids with
      | none=>rfl
      | some l=>rw [hk] at e9; cases e9
    rw [← e1,← e2,← Qs acM e3,← Qs acM e4,← Qs acM e5,← Qs acM e6,← Qs akj e7,← Qs aj6 e8] at w
    refine ⟨w,by rw [k9]; simp [sll],fun z hz=>by rw [k9] at hz; cases hz⟩
  | some a b c d e f g h rows w hl hr=>
    simp only [List.cons.injEq,PV.int.injEq,true_and,and_true] at hp
    obtain ⟨e1,e2,e3,e4,e5,e6,e7,e8,e9⟩:=hp
    rw [← e1,← e2,← Qs acM e3,← Qs acM e4,← Qs acM e5,← Qs acM e6,← Qs akj e7,← Qs aj6 e8] at w
    cases hk:x.fKids with
    | none=>rw [hk] at e9; cases e9
    | some l=>
      rw [hk] at e9 hkid
      simp only [zc,PV.sl.injEq] at e9
      subst e9
      refine ⟨w,by simpa [sll] using hl,fun z hz=>hkid z hz (hr _ (List.mem_map_of_mem hz))⟩
def WD:Nat→zl→Prop
  | 0,_=>False
  | s+1,x=>PW x∧(sll x.fKids).length≤1048576∧∀ z,z∈sll x.fKids→WD s (zr z)
theorem apK:∀ (s:Nat) (x:zl),szP x≤8 * s→abh x→WD s x
  | 0,x,h,_=>by
    unfold szP aab at h
    simp only [PV.bulkL,PV.bulk] at h
    omega
  | s+1,x,h,hw=>by
    obtain ⟨h1,h2,h3⟩:=ap6 hw
    exact ⟨h1,h2,fun z hz=>apK s _ (by have:=agM hz; omega) (h3 z hz)⟩
theorem W_WD {x:zl} (hw:abh x):WD 131072 x:=apK _ x hw.2 hw
theorem ao9 {α:Type} {W:α→Prop}:wSl W none:=⟨by simp [sll],fun x h=>by cases h⟩
theorem adL {a:Option (List EX)} (ha:wSl zI a) (most:Int) {n:Nat} (hn:3048700≤n):∃ r,aaa n a most=some r:=
  akw 1048576 n n a most (fun z hz=>⟨W_un (ha.2 z hz),(W_un (ha.2 z hz)).2⟩) (by have:=ha.1; omega) (by omega) (by omega)
theorem air {q:zx} (h0:q.fRels=none) (h1:wSl zI q.fWhere) (h2:wSl zI q.fOut) (h3:wSl Qr q.fAggs) (most:Int) {n:Nat} (hn:3048710≤n):∃ r,aat n q most=some r:=by
  obtain ⟨n,rfl⟩:∃ j,n=j+1:=⟨n - 1,by omega⟩
  unfold aat
  rw [zt]
  cases ((decide (((sll q.fRels).length:Int) > most)) || (decide (((sll q.fAggs).length:Int) > most))) || (decide (((sll q.fOrder).length:Int) > most)) with
  | true=>exact ⟨_,rfl⟩
  | false=>
    rw [cond_false]
    simp only [zD]
    generalize IntKind.wrap .i64 ((IntKind.wrap .i64 (((sll q.fRels).length:Int)+((sll q.fAggs).length:Int)))+((sll q.fOrder).length:Int))=y
    have l5:∀ (K:Int→Option Int),Qo n q most K n y 0=K y:=fun K=>by
      obtain ⟨n,rfl⟩:∃ j,n=j+1:=⟨n - 1,by omega⟩
      rw [Qo,h0]
      rfl
    have l15:∀ (l:List zK) (p:List zK) (m:Nat) (acc:Int),sll q.fAggs=p++l→l.length < m→∃ r,ZJ n q most (fun y13=>some y13) m acc (p.length:Int)=some r:=by
      intro l
      induction l with
      | nil=>
        intro p m acc he hm
        obtain ⟨m,rfl⟩:∃ j,m=j+1:=⟨m - 1,by omega⟩
        rw [ZJ,dF (by rw [he]; simp),Bool.false_and,cond_false]
        exact ⟨_,rfl⟩
      | cons x l ih=>
        intro p m acc he hm
        rw [List.length_cons] at hm
        obtain ⟨m,rfl⟩:∃ j,m=j+1:=⟨m - 1,by omega⟩
        have hx:=h3.2 x (by rw [he]; simp)
        have hlen:=h3.1
        rw [he] at hlen
        simp only [List.length_append,List.length_cons] at hlen
        rw [ZJ,dT (by rw [he]; simp; omega),Bool.true_and]
        cases decide (acc≤most) with
        | false=>exact ⟨_,rfl⟩
        | true=>
          rw [cond_true,show idx (sll q.fAggs) (p.length:Int)=some x by rw [he,acQ]; simp,Option.bind_some]
          obtain ⟨r,hr⟩:=adL (a:=some [zi x.fOf]) ⟨by simp [sll],fun z hz=>by
            simp only [sll,List.mem_singleton] at hz
            subst hz
            exact hx.2⟩ (IntKind.wrap .i64 (most - acc)) (n:=n) (by omega)
          rw [hr,Option.bind_some,acv (by omega),show p.length+1=(p++[x]).length by simp]
          exact ih (p++[x]) m _ (by rw [he]; simp) (by omega)
    have fin:∀ acc:Int,∃ r,ZJ n q most (fun y13=>some y13) n acc 0=some r:=fun acc=>l15 (sll q.fAggs) [] n acc rfl (by have:=h3.1; omega)
    have s2:∀ acc:Int,∃ r,(bif decide (acc≤most) then (aaa n q.fOut (IntKind.wrap .i64 (most - acc))).bind fun x27=>ZJ n q most (fun y13=>some y13) n (IntKind.wrap .i64 (acc+x27)) 0 else ZJ n q most (fun y13=>some y13) n acc 0)=some r:=fun acc=>by
      cases decide (acc≤most) with
      | false=>exact fin acc
      | true=>
        obtain ⟨r,hr⟩:=adL h2 (IntKind.wrap .i64 (most - acc)) (n:=n) (by omega)
        rw [cond_true,hr,Option.bind_some]
        exact fin _
    rw [l5]
    cases hy:decide (y≤most) with
    | false=>
      have:=s2 y
      rw [hy] at this
      exact this
    | true=>
      obtain ⟨r,hr⟩:=adL h1 (IntKind.wrap .i64 (most - y)) (n:=n) (by omega)
      rw [cond_true,hr,Option.bind_some]
      exact s2 _
theorem ajl:∀ (s:Nat) (x:zl),WD s x→∀ (most:Int) (m n:Nat),s≤m→3048720+s≤n→∃ r,aaD m n x most=some r
  | 0,x,h,_,_,_,_,_=>h.elim
  | s+1,x,h,most,m,n,hm,hn=>by
    obtain ⟨m,rfl⟩:∃ j,m=j+1:=⟨m - 1,by omega⟩
    obtain ⟨n,rfl⟩:∃ j,n=j+1:=⟨n - 1,by omega⟩
    show ∃ r,acq (aaD m) (n+1) x most=some r
    obtain ⟨⟨w1,w2,w3,w4,w5,w6,w7,w8⟩,hk,hz⟩:=h
    unfold acq
    rw [zt]
    obtain ⟨r,hr⟩:=air (q:=zx.mk none x.fWhere false x.fOut x.fAggs x.fOrder) rfl w3 w6 w7 most (n:=n) (by omega)
    rw [hr,Option.bind_some]
    simp only [zD]
    have l5:∀ (l:List PX) (p:List PX) (mm:Nat) (acc:Int),sll x.fKids=p++l→l.length < mm→∃ r,QB n (aaD m) x most (fun y7=>some y7) mm acc (p.length:Int)=some r:=by
      intro l
      induction l with
      | nil=>
        intro p mm acc he hm
        obtain ⟨mm,rfl⟩:∃ j,mm=j+1:=⟨mm - 1,by omega⟩
        rw [QB,dF (by rw [he]; simp),Bool.false_and,cond_false]
        exact ⟨_,rfl⟩
      | cons z l ih=>
        intro p mm acc he hmm
        rw [List.length_cons] at hmm
        obtain ⟨mm,rfl⟩:∃ j,mm=j+1:=⟨mm - 1,by omega⟩
        have hlen:=hk
        rw [he] at hlen
        simp only [List.length_append,List.length_cons] at hlen
        rw [QB,dT (by rw [he]; simp; omega),Bool.true_and]
        cases decide (acc≤most) with
        | false=>exact ⟨_,rfl⟩
        | true=>
          rw [cond_true,show idx (sll x.fKids) (p.length:Int)=some z by rw [he,acQ]; simp,Option.bind_some]
          obtain ⟨r,hr⟩:=ajl s (zr z) (hz z (by rw [he]; simp)) (IntKind.wrap .i64 (most - acc)) m n (by omega) (by omega)
          rw [hr,Option.bind_some,acv (by omega),show p.length+1=(p++[z]).length by simp]
          exact ih (p++[z]) mm _ (by rw [he]; simp) (by omega)
    have fin:∀ acc:Int,∃ r,QB n (aaD m) x most (fun y7=>some y7) n acc 0=some r:=fun acc=>l5 (sll x.fKids) [] n acc rfl (by omega)
    cases decide (IntKind.wrap .i64 (1+r)≤most) with
    | false=>exact fin _
    | true=>
      obtain ⟨r',hr'⟩:=air (q:=zx.mk none x.fLeft false x.fRight none none) rfl w4 w5 ao9 most (n:=n) (by omega)
      rw [cond_true,hr',Option.bind_some]
      exact fin _
theorem alW {s:Nat} {x:zl} (h:WD s x) {n:Nat} (hn:3048730+s≤n):∃ b,ac7 n x=some b:=by
  obtain ⟨n,rfl⟩:∃ j,n=j+1:=⟨n - 1,by omega⟩
  unfold ac7
  rw [zt]
  obtain ⟨r,hr⟩:=ajl s x h 800 n n (by omega) (by omega)
  rw [show agv n x 800=_ from hr,Option.bind_some]
  exact ⟨_,rfl⟩
end Go.Pl
set_option linter.unusedVariables false
set_option linter.unusedSimpArgs false
set_option maxRecDepth 100000
namespace Go.Pl
open Go Go.Ab
def aeS (k:Int):Int:=if k=1 then 0 else if 5≤k∧k≤7 then 1 else if 2≤k∧k≤4 then 2 else -1
theorem akS (k:Int) {n:Nat} (hn:1≤n):aer n k=some (aeS k):=by
  obtain ⟨n,rfl⟩:∃ j,n=j+1:=⟨n - 1,by omega⟩
  unfold aer
  rw [zt]
  simp only [zD]
  by_cases h1:k=1
  · subst h1; rfl
  by_cases h2:k=2
  · subst h2; rfl
  by_cases h3:k=3
  · subst h3; rfl
  by_cases h4:k=4
  · subst h4; rfl
  by_cases h5:k=5
  · subst h5; rfl
  by_cases h6:k=6
  · subst h6; rfl
  by_cases h7:k=7
  · subst h7; rfl
  rw [beqF h1,beqF h2,beqF h3,beqF h4,beqF h5,beqF h6,beqF h7]
  unfold aeS
  rw [if_neg (by omega),if_neg (by omega),if_neg (by omega)]
  rfl
def nulL (l:List Nat):Bool:=l.all (· == 0)
def aoI (k:Int) (w l r o a d:Nat):Bool:=
  bif (k == 3) || (k == 4) then (l == r) && !(l == 0) && nulL [o,a,d]
  else bif (k == 1) || (k == 2) then nulL [l,r,o,a,d]
  else bif k == 6 then !(o == 0) && nulL [w,l,r,a,d]
  else bif k == 5 then nulL [w,l,r,d]
  else bif k == 7 then !(d == 0) && nulL [w,l,r,o,a]
  else nulL [w,l,r,o,a,d]
def akL (x:zl):Bool:=aoI x.fKind (sll x.fWhere).length (sll x.fLeft).length (sll x.fRight).length (sll x.fOut).length (sll x.fAggs).length (sll x.fOrder).length
theorem sum5 {a b c d e:Int} {l:List Nat} (h:l.length≤20) (hl:∀ z,z∈l→z≤1048576) (hs:a+b+c+d+e=((l.sum:Nat):Int)) (p1:0≤a) (p2:0≤b) (p3:0≤c) (p4:0≤d) (p5:0≤e) (hb:a+b+c+d+e≤100000000):
    (IntKind.wrap .i64 ((IntKind.wrap .i64 ((IntKind.wrap .i64 ((IntKind.wrap .i64 (a+b))+c))+d))+e) == 0)=nulL l:=by
  rw [aeT (x:=a+b) (by omega) (by omega),aeT (x:=a+b+c) (by omega) (by omega),aeT (x:=a+b+c+d) (by omega) (by omega),aeT (by omega) (by omega),hs]
  unfold nulL
  have:∀ (l:List Nat),(((l.sum:Nat):Int) == 0)=l.all (· == 0):=by
    intro l
    induction l with
    | nil=>rfl
    | cons x l ih=>
      rw [List.sum_cons,List.all_cons,← ih]
      by_cases hx:x=0
      · subst hx; simp
      · rw [show (x == 0)=false by simpa using hx,Bool.false_and]
        exact beqF (by omega)
  exact this l
theorem ajr {x:zl} (hx:PW x) {n:Nat} (hn:1≤n):adF n x=some (akL x):=by
  obtain ⟨n,rfl⟩:∃ j,n=j+1:=⟨n - 1,by omega⟩
  obtain ⟨_,_,w3,w4,w5,w6,w7,w8⟩:=hx
  have h3:=w3.1; have h4:=w4.1; have h5:=w5.1; have h6:=w6.1; have h7:=w7.1; have h8:=w8.1
  unfold adF akL
  rw [zt]
  simp only [zD]
  generalize (sll x.fWhere).length=w at *
  generalize (sll x.fLeft).length=l at *
  generalize (sll x.fRight).length=r at *
  generalize (sll x.fOut).length=o at *
  generalize (sll x.fAggs).length=a at *
  generalize (sll x.fOrder).length=d at *
  have c0:∀ z:Nat,(((z:Nat):Int) == 0)=(z == 0):=fun z=>by
    by_cases h:z=0
    · subst h; rfl
    · rw [beqF (by omega)]; simp [h]
  have lr:(((l:Int) != (r:Int)) || ((l:Int) == 0))=!((l == r) && !(l == 0)):=by
    rw [c0,Bool.not_and,Bool.not_not]
    by_cases h:l=r
    · subst h; simp
    · rw [show ((l:Int) != (r:Int))=true by simp; omega]; simp [h]
  have wl:IntKind.wrap .i64 ((l:Int)+(r:Int))=(l:Int)+r:=aeT (by omega) (by omega)
  have s5:∀ (A B C D E:Int) (q:List Nat),q.length≤20→(∀ z,z∈q→z≤1048576)→A+B+C+D+E=((q.sum:Nat):Int)→0≤A→0≤B→0≤C→0≤D→0≤E→A+B+C+D+E≤100000000→(IntKind.wrap .i64 ((IntKind.wrap .i64 ((IntKind.wrap .i64 ((IntKind.wrap .i64 (A+B))+C))+D))+E) == 0)=nulL q:=fun A B C D E q h1 h2 h3 h4 h5 h6 h7 h8 h9=>sum5 h1 h2 h3 h4 h5 h6 h7 h8 h9
  have hq:∀ z,z∈[w,l,r,o,a,d]→z≤1048576:=fun z hz=>by
    simp only [List.mem_cons,List.not_mem_nil,or_false] at hz
    rcases hz with rfl | rfl | rfl | rfl | rfl | rfl <;> assumption
  have hsub:∀ (q:List Nat),(∀ z,z∈q→z∈[w,l,r,o,a,d])→∀ z,z∈q→z≤1048576:=fun q h z hz=>hq z (h z hz)
  rw [wl]
  unfold aoI
  by_cases k3:x.fKind=3
  · rw [beqT k3,cond_true,cond_true,Bool.true_or,cond_true,lr]
    cases hh:((l == r) && !(l == 0)) with
    | false=>rfl
    | true=>
      rw [Bool.not_true,cond_false,Bool.true_and,s5 _ _ _ _ _ [o,a,d] (by simp) (hsub _ (by simp)) (by simp; omega) (by omega) (by omega) (by omega) (by omega) (by omega) (by omega)]
  rw [beqF k3,cond_false,Bool.false_or]
  by_cases k4:x.fKind=4
  · rw [beqT k4,cond_true,cond_true,lr]
    cases hh:((l == r) && !(l == 0)) with
    | false=>rfl
    | true=>
      rw [Bool.not_true,cond_false,Bool.true_and,s5 _ _ _ _ _ [o,a,d] (by simp) (hsub _ (by simp)) (by simp; omega) (by omega) (by omega) (by omega) (by omega) (by omega) (by omega)]
  rw [beqF k4,cond_false,cond_false]
  by_cases k1:x.fKind=1
  · rw [beqT k1,cond_true,cond_true,Bool.true_or,cond_true,s5 _ _ _ _ _ [l,r,o,a,d] (by simp) (hsub _ (by simp)) (by simp; omega) (by omega) (by omega) (by omega) (by omega) (by omega) (by omega)]
  rw [beqF k1,cond_false,Bool.false_or]
  by_cases k2:x.fKind=2
  · rw [beqT k2,beqF (show ¬ x.fKind=6 by omega),beqF (show ¬ x.fKind=5 by omega),beqF (show ¬ x.fKind=7 by omega)]
    simp only [cond_true,cond_false]
    rw [s5 _ _ _ _ _ [l,r,o,a,d] (by simp) (hsub _ (by simp)) (by simp; omega) (by omega) (by omega) (by omega) (by omega) (by omega) (by omega)]
  rw [beqF k2,cond_false,cond_false]
  by_cases k6:x.fKind=6
  · rw [beqT k6,cond_true,cond_true,c0]
    cases hh:(o == 0) with
    | true=>rfl
    | false=>
      rw [cond_false,Bool.not_false,Bool.true_and,s5 _ _ _ _ _ [w,l,r,a,d] (by simp) (hsub _ (by simp)) (by simp; omega) (by omega) (by omega) (by omega) (by omega) (by omega) (by omega)]
  rw [beqF k6,cond_false,cond_false]
  by_cases k5:x.fKind=5
  · rw [beqT k5,cond_true,cond_true,s5 _ _ _ _ _ [w,l,r,d] (by simp) (hsub _ (by simp)) (by simp; omega) (by omega) (by omega) (by omega) (by omega) (by omega) (by omega)]
  rw [beqF k5,cond_false,cond_false]
  by_cases k7:x.fKind=7
  · rw [beqT k7,cond_true,cond_true,c0]
    cases hh:(d == 0) with
    | true=>rfl
    | false=>
      rw [cond_false,Bool.not_false,Bool.true_and,s5 _ _ _ _ _ [w,l,r,o,a] (by simp) (hsub _ (by simp)) (by simp; omega) (by omega) (by omega) (by omega) (by omega) (by omega) (by omega)]
  rw [beqF k7,cond_false,cond_false,s5 _ _ _ _ _ [w,l,r,o,a,d] (by simp) (hsub _ (by simp)) (by simp; omega) (by omega) (by omega) (by omega) (by omega) (by omega) (by omega)]
theorem ai1 {α:Type} {F:Nat→Int→Option Int} {l:List α} {p:α→Bool} (hl:l.length≤1048576) {m:Nat} (hm:2000000≤m)
    (hF:∀ (m i:Nat) (x:α),(hi:i < l.length)→l[i]=x→F (m+1) (i:Int)=bif p x then some (i:Int) else F m (IntKind.wrap .i64 ((i:Int)+1))) (hE:∀ (m:Nat),F (m+1) (l.length:Int)=some (-1)):
    ((F m 0).bind fun x1=>some (decide (x1≥0)))=some (l.any p):=by
  have key:∀ (q:List α) (i m:Nat),l.drop i=q→i≤l.length→l.length - i < m→((F m (i:Int)).bind fun x1=>some (decide (x1≥0)))=some (q.any p):=by
    intro q
    induction q with
    | nil=>
      intro i m hd hi hm
      obtain ⟨m,rfl⟩:∃ j,m=j+1:=⟨m - 1,by omega⟩
      have:i=l.length:=by
        have:=congrArg List.length hd
        simp at this; omega
      subst this
      rw [hE]; rfl
    | cons x q ih=>
      intro i m hd hi hm
      obtain ⟨m,rfl⟩:∃ j,m=j+1:=⟨m - 1,by omega⟩
      have hlt:i < l.length:=by
        have:=congrArg List.length hd
        simp at this; omega
      rw [List.drop_eq_getElem_cons hlt] at hd
      injection hd with h1 h2
      rw [hF m i x hlt h1,List.any_cons]
      cases p x with
      | true=>rw [cond_true,Option.bind_some,dT (by omega)]; rfl
      | false=>rw [cond_false,acv (by omega),ih (i+1) m h2 (by omega) (by omega)]; rfl
  exact key l 0 m rfl (by omega) (by omega)
theorem un_W {z:EX} (h:zI z):Zx (zg z):=W_un h
theorem ajk {a:Option (List EX)} (ha:wSl zI a) {n:Nat} (hn:2000200≤n):Zr n a=some ((sll a).any fun z=>!QR (zg z)):=by
  obtain ⟨n,rfl⟩:∃ j,n=j+2:=⟨n - 2,by omega⟩
  unfold Zr qa
  rw [zt,zt]
  simp only [zD]
  exact ai1 (F:=fun m i=>zM n a (fun _=>some (-1)) m i) (l:=sll a) (p:=fun z=>!QR (zg z)) ha.1 (m:=n) (by omega) (fun m i z hi e=>by
    have hz:=ha.2 z (by rw [← e]; exact List.getElem_mem hi)
    show zM _ _ _ _ _=_
    rw [zM,dT (by omega),cond_true,Z8 hi e,Option.bind_some]
    have:abq n (zg z)=some (!QR (zg z)):=by
      obtain ⟨n,rfl⟩:∃ j,n=j+1:=⟨n - 1,by omega⟩
      unfold abq
      rw [zt,acg (un_W hz) (by omega)]; rfl
    rw [show abq n (zh.mk ((zg z).fKind) ((zg z).fRel) ((zg z).fCol) (zq.mk (((zg z).fConst).fKind) (((zg z).fConst).fInt) (((zg z).fConst).fFloat) (((zg z).fConst).fText)) ((zg z).fKids))=_ from this,Option.bind_some]) (fun m=>by
    show zM _ _ _ _ _=_
    rw [zM,dF (by omega),cond_false])
noncomputable def badA (a:zK):Bool:=decide (a.fKind < 1) || decide (a.fKind > 4) || !QR a.fOf
theorem ajO {a:Option (List zK)} (ha:wSl Qr a) {n:Nat} (hn:2000200≤n):Zv n a=some ((sll a).any badA):=by
  obtain ⟨n,rfl⟩:∃ j,n=j+2:=⟨n - 2,by omega⟩
  unfold Zv qg
  rw [zt,zt]
  simp only [zD]
  exact ai1 (F:=fun m i=>zO n a (fun _=>some (-1)) m i) (l:=sll a) (p:=badA) ha.1 (m:=n) (by omega) (fun m i z hi e=>by
    have hz:=ha.2 z (by rw [← e]; exact List.getElem_mem hi)
    show zO _ _ _ _ _=_
    rw [zO,dT (by omega),cond_true,Z8 hi e,Option.bind_some]
    have:aci n z=some (badA z):=by
      obtain ⟨n,rfl⟩:∃ j,n=j+1:=⟨n - 1,by omega⟩
      unfold aci badA
      rw [zt,acg hz.2 (by omega)]
      cases (decide (z.fKind < 1) || decide (z.fKind > 4)) <;> rfl
    rw [this,Option.bind_some]) (fun m=>by
    show zO _ _ _ _ _=_
    rw [zO,dF (by omega),cond_false])
def badK (k:Zn):Bool:=decide (k.fOut < 0) || decide (k.fOut > 29)
theorem contains_keys {a:Option (List Zn)} (ha:wSl acA a) {n:Nat} (hn:2000200≤n):Zu n a=some ((sll a).any badK):=by
  obtain ⟨n,rfl⟩:∃ j,n=j+2:=⟨n - 2,by omega⟩
  unfold Zu qh
  rw [zt,zt]
  simp only [zD]
  exact ai1 (F:=fun m i=>zP n a (fun _=>some (-1)) m i) (l:=sll a) (p:=badK) ha.1 (m:=n) (by omega) (fun m i z hi e=>by
    show zP _ _ _ _ _=_
    rw [zP,dT (by omega),cond_true,Z8 hi e,Option.bind_some]
    have:adr n z=some (badK z):=by
      obtain ⟨n,rfl⟩:∃ j,n=j+1:=⟨n - 1,by omega⟩
      rfl
    rw [this,Option.bind_some]) (fun m=>by
    show zP _ _ _ _ _=_
    rw [zP,dF (by omega),cond_false])
noncomputable def okEs (a:Option (List EX)):Bool:=decide ((sll a).length≤60) && (sll a).all fun z=>QR (zg z)
noncomputable def ahn (x:zl):Bool:=okEs x.fWhere && okEs x.fLeft && okEs x.fRight && okEs x.fOut && (decide ((sll x.fAggs).length≤60) && !(sll x.fAggs).any badA) && (decide ((sll x.fOrder).length≤60) && !(sll x.fOrder).any badK) && ((decide (x.fRel≥0) && decide (x.fRel < 12)) && ((x.fKind == 1) || (x.fRel == 0)))
theorem aju {x:zl} (hx:PW x) {n:Nat} (hn:2000300≤n):adN n x=some (ahn x):=by
  obtain ⟨n,rfl⟩:∃ j,n=j+1:=⟨n - 1,by omega⟩
  obtain ⟨_,_,w3,w4,w5,w6,w7,w8⟩:=hx
  unfold adN
  rw [zt]
  simp only [zD]
  generalize hK:(fun (_:Unit)=>bif (decide (((sll x.fAggs).length:Int) > 60)) then some false else (Zv n x.fAggs).bind fun x5=>bif x5 then some false else bif (decide (((sll x.fOrder).length:Int) > 60)) then some false else (Zu n x.fOrder).bind fun x9=>bif x9 then some false else some (((decide (x.fRel≥0)) && (decide (x.fRel < 12))) && ((x.fKind == 1) || (x.fRel == 0))))=K
  have one:∀ (a:Option (List EX)) (rest:Option Bool),wSl zI a→(bif (decide (((sll a).length:Int) > 60)) then some false else (Zr n a).bind fun x19=>bif x19 then some false else rest)=bif okEs a then rest else some false:=fun a rest ha=>by
    unfold okEs
    by_cases h:(sll a).length≤60
    · rw [dF (by omega),cond_false,dT h,Bool.true_and,ajk ha (by omega),Option.bind_some]
      have:((sll a).any fun z=>!QR (zg z))=!((sll a).all fun z=>QR (zg z)):=by rw [List.not_all_eq_any_not]
      rw [this]
      cases (sll a).all fun z=>QR (zg z) <;> rfl
    · rw [dT (by omega),cond_true,dF h,Bool.false_and,cond_false]
  have hK0:K ()=some ((decide ((sll x.fAggs).length≤60) && !(sll x.fAggs).any badA) && (decide ((sll x.fOrder).length≤60) && !(sll x.fOrder).any badK) && ((decide (x.fRel≥0) && decide (x.fRel < 12)) && ((x.fKind == 1) || (x.fRel == 0)))):=by
    rw [← hK]
    simp only
    by_cases h:(sll x.fAggs).length≤60
    · rw [dF (by omega),cond_false,dT h,Bool.true_and,ajO w7 (by omega),Option.bind_some]
      cases (sll x.fAggs).any badA with
      | true=>rfl
      | false=>
        rw [cond_false,Bool.not_false,Bool.true_and]
        by_cases h:(sll x.fOrder).length≤60
        · rw [dF (by omega),cond_false,dT h,Bool.true_and,contains_keys w8 (by omega),Option.bind_some]
          cases (sll x.fOrder).any badK <;> rfl
        · rw [dT (by omega),cond_true,dF h,Bool.false_and,Bool.false_and]
    · rw [dT (by omega),cond_true,dF h,Bool.false_and,Bool.false_and,Bool.false_and]
  obtain ⟨n',e'⟩:∃ j,n=j+5:=⟨n - 5,by omega⟩
  have step:∀ (m:Nat) (i:Int) (a:Option (List EX)),wSl zI a→i < 4→idx ([x.fWhere,x.fLeft,x.fRight,x.fOut]:List (Option (List zd))) i=some a→qM n x K (m+1) i=bif okEs a then qM n x K m (IntKind.wrap .i64 (i+1)) else some false:=fun m i a ha hi he=>by
    rw [qM,dT hi,cond_true,he,Option.bind_some]
    exact one a _ ha
  have s1:qM n x K n 0=qM n x K (n'+5) 0:=by rw [← e']
  rw [s1,step _ 0 _ w3 (by omega) rfl,step _ (IntKind.wrap .i64 (0+1)) _ w4 (by decide) rfl,step _ (IntKind.wrap .i64 ((IntKind.wrap .i64 (0+1))+1)) _ w5 (by decide) rfl,step _ (IntKind.wrap .i64 ((IntKind.wrap .i64 ((IntKind.wrap .i64 (0+1))+1))+1)) _ w6 (by decide) rfl]
  rw [show qM n x K (n'+1) (IntKind.wrap .i64 ((IntKind.wrap .i64 ((IntKind.wrap .i64 ((IntKind.wrap .i64 (0+1))+1))+1))+1))=K () from rfl,hK0]
  unfold ahn
  cases okEs x.fWhere <;> cases okEs x.fLeft <;> cases okEs x.fRight <;> cases okEs x.fOut <;> rfl
noncomputable def adY (x:zl):Bool:=(aeS x.fKind == ((sll x.fKids).length:Int)) && (akL x && ahn x)
noncomputable def frmP:Nat→zl→Option Nat
  | 0,_=>none
  | r+1,x=>bif adY x then (sumO (fun z=>frmP r (zr z)) (sll x.fKids)).map (·+1) else none
theorem aoY {r:Nat} {x:zl} {c:Nat} (h:frmP r x=some c):1≤c:=by
  cases r with
  | zero=>cases h
  | succ r=>
    unfold frmP at h
    cases hn:adY x with
    | false=>rw [hn] at h; cases h
    | true=>
      rw [hn,cond_true,Option.map_eq_some_iff] at h
      obtain ⟨a,_,rfl⟩:=h
      omega
theorem ag7 {r:Nat} {x:zl} {c:Nat} (h:frmP (r+1) x=some c):adY x=true∧∀ z,z∈sll x.fKids→∃ a,frmP r (zr z)=some a∧a < c:=by
  unfold frmP at h
  cases hn:adY x with
  | false=>rw [hn] at h; cases h
  | true=>
    rw [hn,cond_true,Option.map_eq_some_iff] at h
    obtain ⟨a,ha,rfl⟩:=h
    refine ⟨rfl,fun z hz=>?_⟩
    obtain ⟨b,q1,q2⟩:=ai5 ha z hz
    exact ⟨b,q1,by omega⟩
theorem anJ:∀ (r:Nat),r≤24→∀ (s:Nat) (x:zl),WD s x→∀ (left:Int),left≤40→-1≤left→∀ m n,r+1≤m→2000400+r≤n→
    Qm m n x (25 - (r:Int)) left=some (afE (frmP r x) left):=by
  intro r
  induction r with
  | zero=>
    intro hr s x hw left h4 h0 m n hm hn
    obtain ⟨m,rfl⟩:∃ j,m=j+1:=⟨m - 1,by omega⟩
    obtain ⟨n,rfl⟩:∃ j,n=j+1:=⟨n - 1,by omega⟩
    show aay (Qm m) (n+1) x _ left=_
    unfold aay
    rw [zt,dT (by omega),cond_true]
    rfl
  | succ r ih=>
    intro hr s x hw left h4 h0 m n hm hn
    obtain ⟨m,rfl⟩:∃ j,m=j+1:=⟨m - 1,by omega⟩
    obtain ⟨n,rfl⟩:∃ j,n=j+1:=⟨n - 1,by omega⟩
    cases s with
    | zero=>exact hw.elim
    | succ s=>
    obtain ⟨hPW,hklen,hkW⟩:=hw
    show aay (Qm m) (n+1) x _ left=_
    unfold aay
    rw [zt,dF (by omega),cond_false]
    by_cases hl:left < 1
    · rw [dT hl,cond_true]
      unfold afE
      cases hf:frmP (r+1) x with
      | none=>rfl
      | some c=>
        have:=aoY hf
        simp only
        rw [if_neg (by omega)]
    · rw [dF hl,cond_false,akS _ (by omega),Option.bind_some]
      rw [frmP]
      unfold adY
      by_cases hk:aeS x.fKind=((sll x.fKids).length:Int)
      · rw [show (aeS x.fKind != ((sll x.fKids).length:Int))=false by simp [hk],cond_false,show (aeS x.fKind == ((sll x.fKids).length:Int))=true by simp [hk],Bool.true_and]
        rw [show zl.mk x.fKind x.fRel x.fWhere x.fLeft x.fRight x.fOut x.fAggs x.fOrder x.fKids=x from rfl,ajr hPW (by omega),Option.bind_some]
        cases hfd:akL x with
        | false=>rfl
        | true=>
          rw [Bool.not_true,cond_false,Bool.true_and,aju hPW (by omega),Option.bind_some]
          cases hpd:ahn x with
          | false=>rfl
          | true=>
          rw [Bool.not_true,cond_false,cond_true]
          show zD (fun k15=>aaP n (Qm m) x (25 - ((r+1:Nat):Int)) k15 n (IntKind.wrap .i64 (left - 1)) 0) (fun (y9:Int)=>some y9)=_
          unfold zD
          rw [aeT (by omega) (by omega)]
          have key:=agu (f:=fun z=>frmP r (zr z)) (K:=fun y9=>some y9) (F:=fun m' left' i=>aaP n (Qm m) x (25 - ((r+1:Nat):Int)) (fun y9=>some y9) m' left' i) (ks:=sll x.fKids)
            (C:=fun z left'=>Qm m n (zr z) (IntKind.wrap .i64 ((25 - ((r+1:Nat):Int))+1)) left')
            (fun m' left' i=>rfl) (B:=40) (by omega) (fun z hz left' h1 h2=>by
              show Qm m n (zr z) (IntKind.wrap .i64 ((25 - ((r+1:Nat):Int))+1)) left'=_
              rw [aeT (by omega) (by omega),show (25 - ((r+1:Nat):Int))+1=25 - (r:Int) by omega]
              exact ih (by omega) s _ (hkW z hz) left' h2 (by omega) m n (by omega) (by omega)) hklen (sll x.fKids) n [] (left - 1) rfl (by omega) (by omega) (by omega)
          refine Eq.trans key ?_
          cases hs:sumO (fun z=>frmP r (zr z)) (sll x.fKids) with
          | none=>rfl
          | some c=>
            simp only [Option.map_some,afE]
            by_cases hc:(c:Int)≤left - 1
            · rw [if_pos hc,if_pos (by omega)]; congr 1; omega
            · rw [if_neg hc,if_neg (by omega)]
      · rw [show (aeS x.fKind != ((sll x.fKids).length:Int))=true by simp [hk],cond_true,show (aeS x.fKind == ((sll x.fKids).length:Int))=false by simp [hk],Bool.false_and]
        rfl
noncomputable def aa0 (x:zl):Bool:=match frmP 24 x with
  | some c=>decide (c≤40)
  | none=>false
theorem adw {s:Nat} {x:zl} (hw:WD s x) {n:Nat} (hn:2000500≤n):aan n x=some (aa0 x):=by
  obtain ⟨n,rfl⟩:∃ j,n=j+1:=⟨n - 1,by omega⟩
  unfold aan
  rw [zt]
  have:=anJ 24 (by omega) s x hw 40 (by omega) (by omega) n n (by omega) (by omega)
  rw [show (25 - ((24:Nat):Int))=1 from rfl] at this
  rw [show agp n x 1 40=some _ from this,Option.bind_some]
  unfold aa0 afE
  cases frmP 24 x with
  | none=>rfl
  | some c=>exact congrArg some (decide_eq_decide.2 (by simp only; split <;> omega))
theorem ak8 {x:zl} (h:aa0 x=true):∃ c,frmP 24 x=some c∧c≤40:=by
  unfold aa0 at h
  split at h
  · rename_i c hc; exact ⟨c,hc,by simpa using h⟩
  · cases h
end Go.Pl
set_option linter.unusedVariables false
set_option linter.unusedSimpArgs false
set_option maxRecDepth 100000
namespace Go.Pl
open Go Go.Ab
def seeF (x:zl) (a:Int):Int:=bif ((x.fKind == 1) && (decide (x.fRel≥0))) && (decide (x.fRel < 32)) then iOr .u32 a (iShl .u32 1 (IntKind.wrap .u64 x.fRel)) else a
noncomputable def alJ:Nat→zl→Int→Int
  | 0,_,a=>a
  | s+1,x,a=>seeF x ((sll x.fKids).foldl (fun acc z=>alJ s (zr z) acc) a)
theorem aiP (a:Int) (x:zl) {n:Nat} (hn:1≤n):aap n a x=some (seeF x a):=by
  obtain ⟨n,rfl⟩:∃ j,n=j+1:=⟨n - 1,by omega⟩
  unfold aap seeF
  rw [zt]
  cases hq:((x.fKind == 1) && (decide (x.fRel≥0))) && (decide (x.fRel < 32)) with
  | false=>rfl
  | true=>
    rw [Bool.and_eq_true,Bool.and_eq_true,decide_eq_true_eq,decide_eq_true_eq] at hq
    have:ckN (IntKind.wrap .u64 x.fRel)=some ():=by rw [alz (by omega) (by omega)]; unfold ckN; split <;> first | rfl | omega
    rw [cond_true,cond_true,this]; rfl
theorem ajY {α S R:Type} {F:Nat→S→Int→Option R} {ks:List α} {f:S→α→S} {K:S→Option R}
    (hF:∀ (m i:Nat) (s:S) (z:α),(hi:i < ks.length)→ks[i]=z→F (m+1) s (i:Int)=F m (f s z) (IntKind.wrap .i64 ((i:Int)+1)))
    (hE:∀ (m:Nat) (s:S),F (m+1) s (ks.length:Int)=K s) (hks:ks.length≤1048576):
    ∀ (l p:List α) (m:Nat) (s:S),ks=p++l→l.length < m→F m s (p.length:Int)=K (l.foldl f s)
  | [],p,m,s,he,hm=>by
    obtain ⟨m,rfl⟩:∃ j,m=j+1:=⟨m - 1,by omega⟩
    have:ks.length=p.length:=by rw [he]; simp
    rw [← this,hE]; rfl
  | z :: l,p,m,s,he,hm=>by
    obtain ⟨m,rfl⟩:∃ j,m=j+1:=⟨m - 1,by omega⟩
    rw [List.length_cons] at hm
    have hlen:ks.length=p.length+(l.length+1):=by rw [he]; simp
    rw [hF m p.length s z (by omega) (by simp [he]),acv (by omega),show p.length+1=(p++[z]).length by simp,ajY hF hE hks l (p++[z]) m _ (by rw [he]; simp) (by omega)]
    rfl
theorem anb:∀ (s:Nat) (x:zl),WD s x→∀ (k m n:Nat) (a:Int),s≤k→s≤m→2000000+s≤n→qk m n a x=some (alJ k x a)
  | 0,x,h,_,_,_,_,_,_,_=>h.elim
  | s+1,x,h,k,m,n,a,hk,hm,hn=>by
    obtain ⟨k,rfl⟩:∃ j,k=j+1:=⟨k - 1,by omega⟩
    obtain ⟨m,rfl⟩:∃ j,m=j+1:=⟨m - 1,by omega⟩
    obtain ⟨n,rfl⟩:∃ j,n=j+1:=⟨n - 1,by omega⟩
    obtain ⟨_,h1,h2⟩:=h
    show qG (qk m) (n+1) a x=_
    unfold qG
    rw [zt,alJ]
    unfold zD
    refine Eq.trans (ajY (F:=fun m' acc i=>ZB n (qk m) x (fun (y1:Int)=>(aap n y1 x).bind fun x6=>some x6) m' acc i) (ks:=sll x.fKids) (f:=fun acc z=>alJ k (zr z) acc) (K:=fun (y1:Int)=>(aap n y1 x).bind fun x6=>some x6) (fun m' i acc z hi e=>?_) (fun m' acc=>?_) h1 (sll x.fKids) [] n a rfl (by omega)) ?_
    · show ZB _ _ _ _ _ _ _=_
      rw [ZB,dT (by omega),cond_true,Z8 hi e,Option.bind_some,anb s (zr z) (h2 z (by rw [← e]; exact List.getElem_mem hi)) k m n acc (by omega) (by omega) (by omega),Option.bind_some]
    · show ZB _ _ _ _ _ _ _=_
      rw [ZB,dF (by omega),cond_false]
    · show (aap n _ x).bind _=_
      rw [aiP _ _ (by omega)]; rfl
noncomputable def apJ (x:zl):Int:=alJ 131073 x 0
theorem aeM {s:Nat} {x:zl} (h:WD s x) (hs:s≤131073) {n:Nat} (hn:2000010+s≤n):Qe n x=some (apJ x):=by
  obtain ⟨n,rfl⟩:∃ j,n=j+1:=⟨n - 1,by omega⟩
  unfold Qe apJ
  rw [zt,show aaT n 0 x=_ from anb s x h 131073 n n 0 hs (by omega) (by omega)]
  rfl
end Go.Pl
set_option linter.unusedVariables false
set_option linter.unusedSimpArgs false
set_option maxRecDepth 100000
namespace Go.Pl
open Go Go.Ab
end Go.Pl
