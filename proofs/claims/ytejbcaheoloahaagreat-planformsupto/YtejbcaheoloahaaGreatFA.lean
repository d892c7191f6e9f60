import Derived.Test.YtejbcaheoloahaaGreatPL
import Derived.Test.YtejbcaheoloahaaGreatPA
import Derived.Test.YtejbcaheoloahaaGreatAbFlt
import Derived.Sort.Statements
import Derived.Test.YtejbcaheoloahaaGreatPC
namespace Go.Pl
open Go Go.Ab
theorem anM {f:Nat} (h:wF .f64 f):f < 2 ^ 64:=by
  unfold wF at h
  simpa [Lit.wf] using h
def posZ (f:Nat):Bool:=isZero f && !akf f
def empS (s:ByteArray):Bool:=sEq s ByteArray.empty
def abb (v:zi):Bool:=
  if v.fKind=0 then v.fInt == 0 && (posZ v.fFloat && empS v.fText)
  else if v.fKind=1 then (v.fInt == 0 || v.fInt == 1) && (posZ v.fFloat && empS v.fText)
  else if v.fKind=2 then posZ v.fFloat && empS v.fText
  else if v.fKind=3 then v.fInt == 0 && empS v.fText
  else if v.fKind=4 then v.fInt == 0 && (posZ v.fFloat && decide ((v.fText.size:Int)≤64))
  else false
theorem agL (f:Nat) {n:Nat} (h:1≤n):ab2 n f=some (akf f):=by
  obtain ⟨n,rfl⟩:∃ k,n=k+1:=⟨n - 1,by omega⟩
  rfl
theorem alP {α:Type} {a b:Int} {x y:α}:(bif a == b then x else y)=if a=b then x else y:=by
  by_cases h:a=b
  · simp [h]
  · have:(a == b)=false:=by simpa using h
    rw [this]; simp [h]
def vR (y:Bool) (v:zi):Bool:=
  if v.fKind=0 then v.fInt == 0 && (y && empS v.fText)
  else if v.fKind=1 then (v.fInt == 0 || v.fInt == 1) && (y && empS v.fText)
  else if v.fKind=2 then y && empS v.fText
  else if v.fKind=3 then v.fInt == 0 && empS v.fText
  else if v.fKind=4 then v.fInt == 0 && (y && decide ((v.fText.size:Int)≤64))
  else false
theorem amP (y:Bool) (v:zi):(bif (v.fKind == 0) then some (((v.fInt == 0) && y) && (sEq v.fText ByteArray.empty)) else bif (v.fKind == 1) then bif ((v.fInt != 0) && (v.fInt != 1)) then some false else some (y && (sEq v.fText ByteArray.empty)) else bif (v.fKind == 2) then some (y && (sEq v.fText ByteArray.empty)) else bif (v.fKind == 3) then some ((v.fInt == 0) && (sEq v.fText ByteArray.empty)) else bif (v.fKind == 4) then some (((v.fInt == 0) && y) && (decide ((v.fText.size:Int)≤64))) else some false)=some (vR y v):=by
  simp only [alP]
  unfold vR
  split
  · simp [empS,Bool.and_assoc]
  · split
    · unfold empS
      by_cases h0:v.fInt=0
      · simp [h0]
      · by_cases h1:v.fInt=1
        · simp [h1]
        · have e0:(v.fInt == 0)=false:=by simpa using h0
          have e1:(v.fInt == 1)=false:=by simpa using h1
          have e2:(v.fInt != 0)=true:=by simp [bne,e0]
          have e3:(v.fInt != 1)=true:=by simp [bne,e1]
          rw [e0,e1,e2,e3]; simp
    · split
      · rfl
      · split
        · rfl
        · split
          · simp [Bool.and_assoc]
          · rfl
theorem aei (v:zi) {n:Nat} (h:2≤n):aaQ n v=some (abb v):=by
  obtain ⟨n,rfl⟩:∃ k,n=k+1:=⟨n - 1,by omega⟩
  unfold aaQ
  simp only [zD,zK]
  rw [agL _ (by omega)]
  simp only [Option.bind_some]
  rw [amP,amP]
  show _=some (vR (posZ v.fFloat) v)
  unfold posZ isZero
  cases FloatKind.f64.format.order v.fFloat 0 == some .eq <;> rfl
theorem aiB {f:Nat} (hf:wF .f64 f) {n:Nat} (h:1≤n):aab n f=some (posZ f):=by
  obtain ⟨n,rfl⟩:∃ k,n=k+1:=⟨n - 1,by omega⟩
  unfold aab
  simp only [zD]
  unfold posZ
  cases hz:isZero f with
  | false=>
    have:((FloatKind.format .f64).order f 0 == some .eq)=false:=hz
    rw [this]; rfl
  | true=>
    have:((FloatKind.format .f64).order f 0 == some .eq)=true:=hz
    rw [this]
    obtain ⟨r,h1,h2⟩:=inv_zero (anM hf) hz
    rw [cond_true,h1,Option.bind_some,h2]
    simp
theorem adY {v:zi} (hv:Z4 v) {n:Nat} (h:2≤n):aal n v=some (abb v):=by
  obtain ⟨n,rfl⟩:∃ k,n=k+1:=⟨n - 1,by omega⟩
  unfold aal
  simp only [zD]
  rw [aiB hv.2.2.1 (by omega)]
  simp only [Option.bind_some,alP]
  unfold abb empS
  split
  · split <;> simp [*]
  · split
    · cases h0:(v.fInt == 0 || v.fInt == 1) <;> simp
    · split
      · rfl
      · split
        · rfl
        · split
          · split <;> simp [*]
          · rfl
end Go.Pl
namespace Go.Pl
open Go Go.Ab
abbrev zeroV:zi:=zi.mk 0 0 0 ByteArray.empty
theorem ai3 {x:Nat} (h:qh x=true) (y:Nat):FloatKind.f64.format.order x y=none∧FloatKind.f64.format.order y x=none:=by
  unfold qh at h
  simp only [Ieee.Format.order] at h ⊢
  cases hx:FloatKind.f64.format.read x with
  | nan=>cases FloatKind.f64.format.read y <;> exact ⟨rfl,rfl⟩
  | infinity s=>rw [hx] at h; exfalso; revert h; cases s <;> simp [Ieee.Datum.order]
  | number s m e=>rw [hx] at h; exfalso; revert h; simp [Ieee.Datum.order]
def fLt (x y:Nat):Bool:=FloatKind.f64.format.order x y == some .lt
def fGt (x y:Nat):Bool:=FloatKind.f64.format.order x y == some .gt
def fC (x y:Nat):Int:=
  bif qh x && qh y then 0 else bif qh x then 1 else bif qh y then -1 else bif fLt x y then -1 else bif fGt x y then 1 else 0
theorem agN (x y:Nat) {n:Nat} (h:2≤n):abW n x y=some (fC x y):=by
  obtain ⟨n,rfl⟩:∃ k,n=k+2:=⟨n - 2,by omega⟩
  show (bif (qh x && qh y) then some 0 else bif qh x then some 1 else bif qh y then some (-1) else bif fLt x y then some (-1) else bif fGt x y then some 1 else some 0)=some (fC x y)
  unfold fC
  cases qh x <;> cases qh y <;> cases fLt x y <;> cases fGt x y <;> rfl
theorem ala {x y:Nat} (hx:qh x=true):fC x y=bif qh y then 0 else 1:=by
  unfold fC; rw [hx]; cases qh y <;> rfl
theorem ajO {x y:Nat} (hy:qh y=true):fC x y=bif qh x then 0 else -1:=by
  unfold fC; rw [hy]; cases qh x <;> rfl
def fNan (f:Nat):Nat:=bif qh f then 9221120237041090561 else f
theorem adw (f:Nat):qh (fNan f)=qh f:=by
  unfold fNan
  cases h:qh f with
  | true=>exact (show qh 9221120237041090561=true by decide)
  | false=>exact h
theorem anB (x y:Nat):fC (fNan x) (fNan y)=fC x y:=by
  cases hx:qh x with
  | true=>rw [ala (by rw [adw,hx]),ala hx,adw]
  | false=>
    cases hy:qh y with
    | true=>rw [ajO (by rw [adw,hy]),ajO hy,adw]
    | false=>unfold fNan; rw [hx,hy]; rfl
theorem aob (x y:Nat):(bif (fLt x y || (!qh x && qh y)) then (-1:Int) else bif (fGt x y || (qh x && !qh y)) then 1 else 0)=fC x y:=by
  cases hx:qh x with
  | true=>
    rw [ala hx]
    unfold fLt fGt
    rw [(ai3 hx y).1]
    cases qh y <;> rfl
  | false=>
    cases hy:qh y with
    | true=>
      rw [ajO hy,hx]
      unfold fLt fGt
      rw [(ai3 hy x).2]
      rfl
    | false=>
      unfold fC; rw [hx,hy]; simp
def aba (v:zi):zi:=
  bif !abb v then zeroV else bif (v.fKind == 3) && isZero v.fFloat then zi.mk 3 0 0 ByteArray.empty else v
def iC (a b:Int):Int:=if a < b then -1 else if a > b then 1 else 0
def sC (a b:ByteArray):Int:=bif sLt a b then -1 else bif !(sLt a b || sEq a b) then 1 else 0
def vC (p q:zi):Int:=if p.fKind≠q.fKind then iC p.fKind q.fKind else if p.fKind=3 then fC p.fFloat q.fFloat else if p.fKind=4 then sC p.fText q.fText else iC p.fInt q.fInt
def vCmp (a b:zi):Int:=vC (aba a) (aba b)
theorem ad5 {v:zi} (hv:Z4 v) {n:Nat} (h:3≤n):aaY n v=some (aba v):=by
  obtain ⟨n,rfl⟩:∃ k,n=k+1:=⟨n - 1,by omega⟩
  unfold aaY
  rw [zD,adY hv (by omega),Option.bind_some]
  unfold aba isZero
  cases abb v
  · rfl
  · cases (v.fKind == 3) && ((FloatKind.format .f64).order v.fFloat 0 == some .eq) <;> rfl
def vNan (p:zi):zi:=bif p.fKind == 3 then zi.mk p.fKind p.fInt (fNan p.fFloat) p.fText else p
theorem anV {v:zi} (h:abb v=true) (hk:v.fKind=3):v.fInt=0∧v.fText=ByteArray.empty:=by
  unfold abb at h
  rw [hk] at h
  simp at h
  exact ⟨h.1,alF.1 h.2⟩
theorem ad6 {v:zi} (hv:Z4 v) {n:Nat} (h:3≤n):aaX n v=some (vNan (aba v)):=by
  obtain ⟨n,rfl⟩:∃ k,n=k+2:=⟨n - 2,by omega⟩
  unfold aaX
  rw [zD,aei v (by omega),Option.bind_some]
  unfold aba
  cases hr:abb v with
  | false=>rfl
  | true=>
    simp only [Bool.not_true,cond_false,zK]
    cases hk:v.fKind == 3 with
    | false=>
      simp only [cond_false,Bool.false_and]
      unfold vNan; rw [hk]; rfl
    | true=>
      have h3:v.fKind=3:=by simpa using hk
      obtain ⟨h1,h2⟩:=anV hr h3
      simp only [cond_true,Bool.true_and]
      have e0:abq (n+1) v.fFloat=some (qh v.fFloat):=rfl
      rw [e0,Option.bind_some]
      have e1:((FloatKind.format .f64).order v.fFloat 0 == some .eq)=isZero v.fFloat:=rfl
      rw [e1]
      cases hn:qh v.fFloat with
      | true=>
        rw [ajF (anM hv.2.2.1) hn]
        simp only [cond_true,cond_false]
        unfold vNan
        rw [hk,cond_true]
        unfold fNan
        rw [hn]; rfl
      | false=>
        cases hz:isZero v.fFloat with
        | true=>
          simp only [cond_true,cond_false]
          rw [h3,h1,h2]
          rfl
        | false=>
          simp only [cond_false]
          unfold vNan fNan
          rw [hk,hn]; rfl
theorem amd (p:zi):(vNan p).fKind=p.fKind:=by unfold vNan; cases p.fKind == 3 <;> rfl
theorem ana (p:zi):(vNan p).fInt=p.fInt:=by unfold vNan; cases p.fKind == 3 <;> rfl
theorem alS (p:zi):(vNan p).fText=p.fText:=by unfold vNan; cases p.fKind == 3 <;> rfl
theorem ahM {p:zi} (h:p.fKind=3):(vNan p).fFloat=fNan p.fFloat:=by unfold vNan; rw [h]; rfl
theorem ak3 (a b:Int) {n:Nat} (h:2≤n):QO n a b=some (iC a b):=by
  obtain ⟨n,rfl⟩:∃ k,n=k+2:=⟨n - 2,by omega⟩
  unfold QO aaH
  simp only [zD,Option.bind_some,bne_self_eq_false,cond_false]
  unfold iC
  by_cases h1:a < b
  · simp [h1]
  · by_cases h2:b < a <;> simp [h1,h2]
theorem ajH (a b:Int) {n:Nat} (h:2≤n):Qj n a b=some (iC a b):=by
  obtain ⟨n,rfl⟩:∃ k,n=k+2:=⟨n - 2,by omega⟩
  unfold Qj QS
  simp only [zD,Option.bind_some,bne_self_eq_false,cond_false]
  unfold iC
  by_cases h1:a < b
  · simp [h1]
  · by_cases h2:b < a <;> simp [h1,h2]
theorem aim (a b:ByteArray) {n:Nat} (h:2≤n):Qc n a b=some (sC a b):=by
  obtain ⟨n,rfl⟩:∃ k,n=k+2:=⟨n - 2,by omega⟩
  unfold Qc Qq
  simp only [zD,Option.bind_some,amX,Bool.not_true,cond_false]
  unfold sC
  cases sLt a b <;> cases sEq a b <;> rfl
theorem kne {α:Type} {a b:Int} {x y:α}:(bif a != b then x else y)=if a≠b then x else y:=by
  by_cases h:a=b
  · simp [h]
  · have:(a != b)=true:=by simpa using h
    rw [this]; simp [h]
theorem amI {α:Type} {p:Prop} [Decidable p] {x y:α}:(if p then some x else some y)=some (if p then x else y):=by split <;> rfl
theorem ajg {a b:zi} (ha:Z4 a) (hb:Z4 b) {n:Nat} (h:4≤n):ac4 n a b=some (vCmp a b):=by
  obtain ⟨n,rfl⟩:∃ k,n=k+1:=⟨n - 1,by omega⟩
  unfold ac4
  rw [zD,ad6 ha (by omega),Option.bind_some,ad6 hb (by omega),Option.bind_some,ak3 _ _ (by omega),agN _ _ (by omega),aim _ _ (by omega),ajH _ _ (by omega)]
  simp only [Option.bind_some,kne,alP,amI,amd,ana,alS]
  unfold vCmp vC
  congr 1
  by_cases hk:(aba a).fKind=(aba b).fKind
  · have hk':¬ ((aba a).fKind≠(aba b).fKind):=fun c=>c hk
    rw [if_neg hk',if_neg hk']
    by_cases h3:(aba a).fKind=3
    · rw [if_pos h3,if_pos h3,ahM h3,ahM (hk ▸ h3),anB]
    · rw [if_neg h3,if_neg h3]
  · rw [if_pos hk,if_pos hk]
theorem ajR {a b:zi} (ha:Z4 a) (hb:Z4 b) {n:Nat} (h:4≤n):adm n a b=some (vCmp a b):=by
  obtain ⟨n,rfl⟩:∃ k,n=k+1:=⟨n - 1,by omega⟩
  unfold adm
  rw [zD,ad5 ha (by omega),Option.bind_some,ad5 hb (by omega),Option.bind_some]
  unfold vCmp
  generalize aba a=p
  generalize aba b=q
  unfold vC
  simp only [kne,alP,zK]
  by_cases hk:p.fKind=q.fKind
  · have hk':¬ (p.fKind≠q.fKind):=fun c=>c hk
    rw [if_neg hk',if_neg hk']
    by_cases h3:p.fKind=3
    · rw [if_pos h3,if_pos h3,if_neg (by omega),← aob]
      have e1:(FloatKind.f64.format.order p.fFloat p.fFloat != some .eq)=qh p.fFloat:=rfl
      have e2:(FloatKind.f64.format.order q.fFloat q.fFloat != some .eq)=qh q.fFloat:=rfl
      have e3:(FloatKind.f64.format.order p.fFloat q.fFloat == some .lt)=fLt p.fFloat q.fFloat:=rfl
      have e4:(FloatKind.f64.format.order p.fFloat q.fFloat == some .gt)=fGt p.fFloat q.fFloat:=rfl
      rw [e1,e2,e3,e4]
      cases fLt p.fFloat q.fFloat <;> cases fGt p.fFloat q.fFloat <;> cases qh p.fFloat <;> cases qh q.fFloat <;> rfl
    · rw [if_neg h3,if_neg h3]
      by_cases h4:p.fKind=4
      · rw [if_pos h4,if_pos h4]
        unfold sC
        cases sLt p.fText q.fText <;> cases sEq p.fText q.fText <;> rfl
      · rw [if_neg h4,if_neg h4]
        unfold iC
        by_cases h1:p.fInt < q.fInt
        · simp [h1]
        · by_cases h2:q.fInt < p.fInt <;> simp [h1,h2]
  · rw [if_pos hk,if_pos hk]
    unfold iC
    by_cases h1:p.fKind < q.fKind
    · simp [h1]
    · have h2:p.fKind > q.fKind:=by omega
      simp [h1,h2]
end Go.Pl
namespace Go.Pl
open Go Go.Ab
end Go.Pl
namespace Go.Pl
open Go Go.Ab
structure Ord3 {α:Type} (c:α→α→Int):Prop where
  anti:∀ x y,c y x=-c x y
  trans:∀ x y z,c x y≤0→c y z≤0→c x z≤0
theorem Ord3.self {α:Type} {c:α→α→Int} (h:Ord3 c) (x:α):c x x=0:=by have:=h.anti x x; omega
theorem Ord3.left {α:Type} {c:α→α→Int} (h:Ord3 c) {x y z:α} (e:c x y=0):(c x z≤0↔c y z≤0)∧(0≤c x z↔0≤c y z):=by
  have a1:=h.anti x y
  have a2:=h.anti x z
  have a3:=h.anti y z
  refine ⟨⟨fun g=>h.trans y x z (by omega) g,fun g=>h.trans x y z (by omega) g⟩,⟨fun g=>?_,fun g=>?_⟩⟩
  · have:=h.trans z x y (by omega) (by omega); omega
  · have:=h.trans z y x (by omega) (by omega); omega
theorem alg:Ord3 iC where
  anti x y:=by
    unfold iC
    repeat' split
    all_goals omega
  trans x y z:=by
    unfold iC
    intro h1 h2
    repeat' split
    all_goals (repeat' split at h1) <;> (repeat' split at h2) <;> omega
end Go.Pl
namespace Go.Pl
open Go Go.Ab
theorem ahq:∀ (l:List UInt8),Op.bytesLess l l=false
  | []=>rfl
  | a :: l=>by
    have h:¬ (a < a):=fun h=>absurd (UInt8.lt_iff_toNat_lt.1 h) (by omega)
    simp [Op.bytesLess,ahq l,h]
theorem ag9:∀ (a b:List UInt8),(Op.bytesLess a b=true∧Op.bytesLess b a=false∧a≠b)∨(Op.bytesLess a b=false∧Op.bytesLess b a=true∧a≠b)∨a=b
  | [],[]=>.inr (.inr rfl)
  | [],y :: b=>.inl ⟨rfl,rfl,by simp⟩
  | x :: a,[]=>.inr (.inl ⟨rfl,rfl,by simp⟩)
  | x :: a,y :: b=>by
    simp only [Op.bytesLess,Bool.or_eq_true,Bool.and_eq_true,decide_eq_true_eq,Bool.or_eq_false_iff,decide_eq_false_iff_not,Bool.and_eq_false_iff,beq_iff_eq,beq_eq_false_iff_ne,UInt8.lt_iff_toNat_lt]
    rcases Nat.lt_trichotomy x.toNat y.toNat with h | h | h
    · exact .inl ⟨.inl h,⟨by omega,.inl fun e=>by rw [e] at h; omega⟩,fun e=>by cases e; omega⟩
    · have e:x=y:=UInt8.toNat_inj.1 h
      subst e
      rcases ag9 a b with ⟨h1,h2,h3⟩ | ⟨h1,h2,h3⟩ | h1
      · exact .inl ⟨.inr ⟨rfl,h1⟩,⟨by omega,.inr h2⟩,fun e=>h3 (by cases e; rfl)⟩
      · exact .inr (.inl ⟨⟨by omega,.inr h1⟩,.inr ⟨rfl,h2⟩,fun e=>h3 (by cases e; rfl)⟩)
      · exact .inr (.inr (by rw [h1]))
    · exact .inr (.inl ⟨⟨by omega,.inl fun e=>by rw [e] at h; omega⟩,.inl h,fun e=>by cases e; omega⟩)
theorem ahJ:∀ (a b d:List UInt8),Op.bytesLess a b=true→Op.bytesLess b d=true→Op.bytesLess a d=true
  | _,[],_,h,_=>by simp [Op.bytesLess] at h
  | _,_ :: _,[],_,h=>by simp [Op.bytesLess] at h
  | [],_ :: _,_ :: _,_,_=>rfl
  | x :: a,y :: b,z :: d,h1,h2=>by
    simp only [Op.bytesLess,Bool.or_eq_true,Bool.and_eq_true,decide_eq_true_eq,beq_iff_eq,UInt8.lt_iff_toNat_lt] at h1 h2 ⊢
    rcases h1 with h1 | ⟨rfl,h1⟩
    · rcases h2 with h2 | ⟨rfl,h2⟩
      · left; omega
      · left; omega
    · rcases h2 with h2 | ⟨rfl,h2⟩
      · left; omega
      · exact .inr ⟨rfl,ahJ a b d h1 h2⟩
def lC (a b:List UInt8):Int:=bif Op.bytesLess a b then -1 else bif !(Op.bytesLess a b || a == b) then 1 else 0
theorem am8 (a b:List UInt8):(lC a b=-1∧Op.bytesLess a b=true)∨(lC a b=1∧Op.bytesLess b a=true)∨(lC a b=0∧a=b):=by
  rcases ag9 a b with ⟨h1,h2,h3⟩ | ⟨h1,h2,h3⟩ | h1
  · exact .inl ⟨by unfold lC; rw [h1]; rfl,h1⟩
  · exact .inr (.inl ⟨by unfold lC; rw [h1,beq_false_of_ne h3]; rfl,h2⟩)
  · subst h1
    exact .inr (.inr ⟨by unfold lC; rw [ahq,beq_self_eq_true]; rfl,rfl⟩)
theorem amS:Ord3 lC where
  anti a b:=by
    rcases ag9 a b with ⟨h1,h2,h3⟩ | ⟨h1,h2,h3⟩ | h1
    · unfold lC; rw [h1,h2,beq_false_of_ne (Ne.symm h3)]; rfl
    · unfold lC; rw [h1,h2,beq_false_of_ne h3]; rfl
    · subst h1; unfold lC; rw [ahq,beq_self_eq_true]; rfl
  trans a b d h1 h2:=by
    rcases am8 a b with ⟨e1,q1⟩ | ⟨e1,q1⟩ | ⟨e1,q1⟩
    · rcases am8 b d with ⟨e2,q2⟩ | ⟨e2,q2⟩ | ⟨e2,q2⟩
      · have:=ahJ a b d q1 q2
        unfold lC; rw [this]; exact (show (-1:Int)≤0 by decide)
      · omega
      · subst q2; exact h1
    · omega
    · subst q1; exact h2
theorem aoe:Ord3 sC:=⟨fun x y=>amS.anti x.toList y.toList,fun x y z=>amS.trans x.toList y.toList z.toList⟩
end Go.Pl
namespace Go.Pl
open Go Go.Ab
def lexK {α:Type} (key:α→Int) (c:Int→α→α→Int) (x y:α):Int:=if key x≠key y then iC (key x) (key y) else c (key x) x y
theorem ad8 (a b:Int):(a < b∧iC a b=-1)∨(a=b∧iC a b=0)∨(b < a∧iC a b=1):=by
  unfold iC
  by_cases h1:a < b
  · exact .inl ⟨h1,if_pos h1⟩
  · by_cases h2:a > b
    · exact .inr (.inr ⟨h2,by rw [if_neg h1,if_pos h2]⟩)
    · exact .inr (.inl ⟨by omega,by rw [if_neg h1,if_neg h2]⟩)
theorem akd {α:Type} {key:α→Int} {c:Int→α→α→Int} (h:∀ k,Ord3 (c k)):Ord3 (lexK key c) where
  anti x y:=by
    unfold lexK
    by_cases e:key x=key y
    · rw [if_neg (by omega),if_neg (by omega),← e]; exact (h _).anti x y
    · rw [if_pos (by omega),if_pos e]; exact alg.anti _ _
  trans x y z:=by
    unfold lexK
    intro h1 h2
    by_cases e1:key x=key y
    · rw [if_neg (by omega)] at h1
      by_cases e2:key y=key z
      · rw [if_neg (by omega)] at h2
        rw [if_neg (by omega)]
        exact (h _).trans x y z h1 (by rw [e1]; exact h2)
      · rw [if_pos e2] at h2
        rw [if_pos (by omega),e1]; exact h2
    · rw [if_pos e1] at h1
      by_cases e2:key y=key z
      · rw [if_pos (by omega),← e2]; exact h1
      · rw [if_pos e2] at h2
        have a1:=ad8 (key x) (key y)
        have a2:=ad8 (key y) (key z)
        have a3:=ad8 (key x) (key z)
        rw [if_pos (by omega)]
        omega
theorem afz {α β:Type} {c:β→β→Int} (h:Ord3 c) (f:α→β):Ord3 fun x y=>c (f x) (f y):=⟨fun x y=>h.anti _ _,fun x y z=>h.trans _ _ _⟩
theorem amn {x:Nat}:qh x=(match FloatKind.f64.format.read x with | .nan ..=>true | _=>false):=by
  unfold qh
  simp only [Ieee.Format.order]
  cases FloatKind.f64.format.read x with
  | nan=>rfl
  | infinity s=>cases s <;> rfl
  | number s m e=>simp [Ieee.Datum.order]
def dR:Ieee.Datum→Int
  | .nan ..=>2
  | .infinity s=>if s then -1 else 1
  | .number ..=>0
def dE:Ieee.Datum→Int
  | .number _ _ i=>i
  | _=>0
def dV (B:Int):Ieee.Datum→Int
  | .number s m i=>Ieee.signed s m (i - B).toNat
  | _=>0
def kC (B:Int):Ieee.Datum→Ieee.Datum→Int:=lexK dR fun _ x y=>iC (dV B x) (dV B y)
theorem amE (B:Int):Ord3 (kC B):=akd fun _=>afz alg (dV B)
theorem ahZ (s:Bool) (m a k:Nat):Ieee.signed s m (a+k)=Ieee.signed s m a * ((2 ^ k:Nat):Int):=by
  unfold Ieee.signed
  rw [Nat.shiftLeft_eq,Nat.shiftLeft_eq,Nat.pow_add,← Nat.mul_assoc]
  cases s
  · simp only [Bool.false_eq_true,if_false]; rw [Int.natCast_mul]
  · simp only [if_true]; rw [Int.natCast_mul,Int.neg_mul]
theorem am0 (a b:Int) {q:Nat} (h:0 < q):iC (a * (q:Int)) (b * (q:Int))=iC a b:=by
  have hq:(0:Int) < (q:Int):=by omega
  rcases ad8 a b with ⟨h1,h2⟩ | ⟨h1,h2⟩ | ⟨h1,h2⟩
  · rw [h2]
    have:=Int.mul_lt_mul_of_pos_right h1 hq
    unfold iC; rw [if_pos this]
  · subst h1; rw [h2]; unfold iC; rw [if_neg (by omega),if_neg (by omega)]
  · rw [h2]
    have:=Int.mul_lt_mul_of_pos_right h1 hq
    unfold iC; rw [if_neg (by omega),if_pos this]
theorem anH {B B':Int} (x y:Ieee.Datum) (h:B≤B') (hx:dR x=0→B'≤dE x) (hy:dR y=0→B'≤dE y):kC B x y=kC B' x y:=by
  unfold kC lexK
  by_cases e:dR x=dR y
  · rw [if_neg (by omega),if_neg (by omega)]
    cases x with
    | number s m i=>
      cases y with
      | number t n j=>
        have h1:B'≤i:=hx rfl
        have h2:B'≤j:=hy rfl
        simp only [dV]
        rw [show (i - B).toNat=(i - B').toNat+(B' - B).toNat by omega,show (j - B).toNat=(j - B').toNat+(B' - B).toNat by omega,ahZ,ahZ,am0 _ _ (Nat.pow_pos (by decide))]
      | nan=>simp [dR] at e
      | infinity t=>exfalso; revert e; cases t <;> simp [dR]
    | nan=>cases y with
      | number t n j=>simp [dR] at e
      | nan=>rfl
      | infinity t=>rfl
    | infinity s=>cases y with
      | number t n j=>exfalso; revert e; cases s <;> simp [dR]
      | nan=>rfl
      | infinity t=>rfl
  · rw [if_pos e,if_pos e]
theorem aoc (a b:Int):(compare a b == .lt)=decide (a < b)∧(compare a b == .gt)=decide (a > b):=by
  rcases ad8 a b with ⟨h1,_⟩ | ⟨h1,_⟩ | ⟨h1,_⟩
  · have:compare a b=.lt:=Int.compare_eq_lt.2 h1
    rw [this,dT' h1,dF' (by omega)]; exact ⟨rfl,rfl⟩
  · have:compare a b=.eq:=Int.compare_eq_eq.2 h1
    rw [this,dF' (by omega),dF' (by omega)]; exact ⟨rfl,rfl⟩
  · have:compare a b=.gt:=Int.compare_eq_gt.2 h1
    rw [this,dF' (by omega),dT' h1]; exact ⟨rfl,rfl⟩
where
  dT' {p:Prop} [Decidable p] (h:p):decide p=true:=decide_eq_true h
  dF' {p:Prop} [Decidable p] (h:¬ p):decide p=false:=decide_eq_false h
theorem amo (x y:Nat):fC x y=kC (min (dE (FloatKind.f64.format.read x)) (dE (FloatKind.f64.format.read y))) (FloatKind.f64.format.read x) (FloatKind.f64.format.read y):=by
  unfold fC fLt fGt
  rw [amn,amn]
  simp only [Ieee.Format.order]
  cases FloatKind.f64.format.read x with
  | nan=>cases FloatKind.f64.format.read y with
    | nan=>rfl
    | infinity t=>cases t <;> rfl
    | number t n j=>rfl
  | infinity s=>cases FloatKind.f64.format.read y with
    | nan=>cases s <;> rfl
    | infinity t=>cases s <;> cases t <;> rfl
    | number t n j=>cases s <;> rfl
  | number s m i=>cases FloatKind.f64.format.read y with
    | nan=>rfl
    | infinity t=>cases t <;> rfl
    | number t n j=>
      simp only [Ieee.Datum.order,kC,lexK,dR,dE,dV,ne_eq,not_true_eq_false,if_false,Bool.and_false,cond_false]
      have e1:=aoc (Ieee.signed s m (i - min i j).toNat) (Ieee.signed t n (j - min i j).toNat)
      rw [show (some (compare (Ieee.signed s m (i - min i j).toNat) (Ieee.signed t n (j - min i j).toNat)) == some Ordering.lt)=(compare (Ieee.signed s m (i - min i j).toNat) (Ieee.signed t n (j - min i j).toNat) == Ordering.lt) from rfl,show (some (compare (Ieee.signed s m (i - min i j).toNat) (Ieee.signed t n (j - min i j).toNat)) == some Ordering.gt)=(compare (Ieee.signed s m (i - min i j).toNat) (Ieee.signed t n (j - min i j).toNat) == Ordering.gt) from rfl,e1.1,e1.2]
      unfold iC
      generalize Ieee.signed s m (i - min i j).toNat=a
      generalize Ieee.signed t n (j - min i j).toNat=b
      by_cases h1:a < b
      · rw [if_pos h1,decide_eq_true h1]; rfl
      · rw [if_neg h1,decide_eq_false h1,cond_false]
        by_cases h2:a > b
        · rw [if_pos h2,decide_eq_true h2]; rfl
        · rw [if_neg h2,decide_eq_false h2]; rfl
theorem alz {B:Int} {x y:Nat} (hx:B≤dE (FloatKind.f64.format.read x)) (hy:B≤dE (FloatKind.f64.format.read y)):fC x y=kC B (FloatKind.f64.format.read x) (FloatKind.f64.format.read y):=by
  rw [amo]
  exact (anH _ _ (by omega) (fun _=>by omega) (fun _=>by omega)).symm
theorem anS:Ord3 fC where
  anti x y:=by
    rw [alz (B:=min (dE (FloatKind.f64.format.read x)) (dE (FloatKind.f64.format.read y))) (x:=y) (y:=x) (by omega) (by omega),amo]
    exact (amE _).anti _ _
  trans x y z:=by
    rw [alz (B:=min (min (dE (FloatKind.f64.format.read x)) (dE (FloatKind.f64.format.read y))) (dE (FloatKind.f64.format.read z))) (x:=x) (y:=y) (by omega) (by omega),
      alz (B:=min (min (dE (FloatKind.f64.format.read x)) (dE (FloatKind.f64.format.read y))) (dE (FloatKind.f64.format.read z))) (x:=y) (y:=z) (by omega) (by omega),
      alz (B:=min (min (dE (FloatKind.f64.format.read x)) (dE (FloatKind.f64.format.read y))) (dE (FloatKind.f64.format.read z))) (x:=x) (y:=z) (by omega) (by omega)]
    exact (amE _).trans _ _ _
theorem aof:Ord3 vC:=by
  have:Ord3 (lexK (fun v:zi=>v.fKind) (fun k p q=>if k=3 then fC p.fFloat q.fFloat else if k=4 then sC p.fText q.fText else iC p.fInt q.fInt)):=by
    refine akd fun k=>?_
    by_cases h3:k=3
    · simp only [h3,if_true]; exact afz anS (fun v:zi=>v.fFloat)
    · by_cases h4:k=4
      · simp only [h4,if_true,if_neg (by decide:¬ (4:Int)=3)]; exact afz aoe (fun v:zi=>v.fText)
      · simp only [h3,h4,if_false]; exact afz alg (fun v:zi=>v.fInt)
  exact this
theorem ahA:Ord3 vCmp:=afz aof aba
end Go.Pl
namespace Go.Pl
open Go Go.Ab
theorem akk {α:Type} (l:List α):sll (some l)=l:=rfl
theorem dT {p:Prop} [Decidable p] (h:p):decide p=true:=decide_eq_true h
theorem dF {p:Prop} [Decidable p] (h:¬ p):decide p=false:=decide_eq_false h
theorem Q1 {b n:Nat} (h:n≤2000000) (hb:b≤1000):ckA b n=some ():=by
  unfold ckA
  rw [if_pos]
  have:=Nat.mul_le_mul h hb
  omega
def mapO {α β:Type} (f:α→β) (l:List α):Option (List β):=if l=[] then none else some (l.map f)
theorem Qu {α β:Type} (f:α→β) (l:List α):sll (mapO f l)=l.map f:=by
  unfold mapO; split
  · rename_i h; subst h; rfl
  · rfl
theorem beqT {a b:Int} (h:a=b):(a == b)=true:=beq_iff_eq.2 h
theorem beqF {a b:Int} (h:¬ a=b):(a == b)=false:=beq_eq_false_iff_ne.2 h
end Go.Pl
set_option maxRecDepth 100000
namespace Go.Pl
open Go Go.Ab
theorem akA {α R:Type} {F:Nat→Int→Option R} {l:List α} {p:α→Bool} {kk e:Option R} (hl:l.length≤1048576)
    (hF:∀ (m i:Nat) (x:α),(hi:i < l.length)→l[i]=x→F (m+1) (i:Int)=bif p x then F m (IntKind.wrap .i64 ((i:Int)+1)) else e) (hE:∀ (m:Nat),F (m+1) (l.length:Int)=kk):
    ∀ (m i:Nat),i≤l.length→l.length - i < m→F m (i:Int)=bif (l.drop i).all p then kk else e
  | 0,i,_,h=>by omega
  | m+1,i,h,hm=>by
    by_cases hi:i < l.length
    · rw [hF m i _ hi rfl,ado (by omega),akA hl hF hE m (i+1) (by omega) (by omega),List.drop_eq_getElem_cons hi,List.all_cons]
      cases p l[i] <;> rfl
    · obtain rfl:i=l.length:=by omega
      rw [hE,List.drop_length]; rfl
theorem ab9 {α R:Type} {F:Nat→Int→Option R} {l:List α} {p:α→Bool} {kk e:Option R} (hl:l.length≤1048576) {m:Nat} (hm:2000000≤m)
    (hF:∀ (m i:Nat) (x:α),(hi:i < l.length)→l[i]=x→F (m+1) (i:Int)=bif p x then F m (IntKind.wrap .i64 ((i:Int)+1)) else e) (hE:∀ (m:Nat),F (m+1) (l.length:Int)=kk):
    F m 0=bif l.all p then kk else e:=by
  have:=akA hl hF hE m 0 (by omega) (by omega)
  simpa using this
theorem aiQ {α β R:Type} {f:α→β} {l3:Nat→Option (List β)→Int→Option R} {l:List α} {K:Option (List β)→Option R} {b:Nat} (hb:b≤1000) (hl:l.length≤1048576)
    (hF:∀ (m i:Nat) (s:Option (List β)) (x:α),(hi:i < l.length)→l[i]=x→l3 (m+1) s (i:Int)=(ckA b (sll s++[f x]).length).bind fun _=>l3 m (some (sll s++[f x])) (IntKind.wrap .i64 ((i:Int)+1)))
    (hE:∀ (m:Nat) (s:Option (List β)),l3 (m+1) s (l.length:Int)=K s):∀ (m i:Nat) (s:Option (List β)),i≤l.length→l.length - i < m→(sll s).length+(l.length - i)≤1048576→l3 m s (i:Int)=K (if l.drop i=[] then s else some (sll s++(l.drop i).map f))
  | 0,i,s,_,h,_=>by omega
  | m+1,i,s,h,hm,hs=>by
    by_cases hi:i < l.length
    · rw [hF m i s _ hi rfl,Q1 (by simp; omega) hb,Option.bind_some,ado (by omega),aiQ hb hl hF hE m (i+1) _ (by omega) (by omega) (by rw [akk]; simp; omega),List.drop_eq_getElem_cons hi,if_neg (List.cons_ne_nil _ _),List.map_cons,akk,List.append_assoc]
      by_cases hn:l.drop (i+1)=[]
      · rw [if_pos hn,hn]; rfl
      · rw [if_neg hn]; rfl
    · obtain rfl:i=l.length:=by omega
      rw [hE,List.drop_length,if_pos rfl]
theorem adn {α β R:Type} {f:α→β} {l3:Nat→Option (List β)→Int→Option R} {l:List α} {K:Option (List β)→Option R} {b:Nat} (hb:b≤1000) (hl:l.length≤1048576) {m:Nat} (hm:2000000≤m)
    (hF:∀ (m i:Nat) (s:Option (List β)) (x:α),(hi:i < l.length)→l[i]=x→l3 (m+1) s (i:Int)=(ckA b (sll s++[f x]).length).bind fun _=>l3 m (some (sll s++[f x])) (IntKind.wrap .i64 ((i:Int)+1)))
    (hE:∀ (m:Nat) (s:Option (List β)),l3 (m+1) s (l.length:Int)=K s):l3 m none 0=K (mapO f l):=by
  have:=aiQ hb hl hF hE m 0 none (by omega) (by omega) (by show 0+_≤_; omega)
  rw [show ((0:Nat):Int)=0 from rfl,List.drop_zero] at this
  rw [this]; rfl
theorem Z6 {α:Type} {l:List α} {i:Nat} {x:α} (hi:i < l.length) (e:l[i]=x):idx l (i:Int)=some x:=by
  rw [aaK,List.getElem?_eq_getElem hi,e]
theorem an0 {n:Nat} {i:Int} (h:0≤i∧i < n):ckI n i=some ():=by unfold ckI; rw [if_pos h]
end Go.Pl
set_option maxRecDepth 100000
namespace Go.Pl
open Go Go.Ab
theorem acx {α β R:Type} {F:Nat→Int→Option R} {la:List α} {lb:List β} {p:α→β→Bool} {kk e:Option R} (he:la.length=lb.length) (hl:la.length≤1048576) {m:Nat} (hm:2000000≤m)
    (hF:∀ (m i:Nat) (x:α) (y:β),(hi:i < la.length)→idx la (i:Int)=some x→idx lb (i:Int)=some y→x∈la→y∈lb→F (m+1) (i:Int)=bif p x y then F m (IntKind.wrap .i64 ((i:Int)+1)) else e) (hE:∀ (m:Nat),F (m+1) (la.length:Int)=kk):
    F m 0=bif (la.zip lb).all (fun q=>p q.1 q.2) then kk else e:=by
  have hz:(la.zip lb).length=la.length:=by rw [List.length_zip]; omega
  refine ab9 (l:=la.zip lb) (p:=fun q=>p q.1 q.2) (by omega) hm (fun m i q hi e'=>?_) (fun m=>by rw [hz]; exact hE m)
  have hi1:i < la.length:=by omega
  have hi2:i < lb.length:=by omega
  rw [List.getElem_zip] at e'
  subst e'
  exact hF m i _ _ hi1 (Z6 hi1 rfl) (Z6 hi2 rfl) (List.getElem_mem _) (List.getElem_mem _)
def ZA {α β:Type} (p:α→β→Bool) (a:List α) (b:List β):Bool:=decide (a.length=b.length) && (a.zip b).all fun q=>p q.1 q.2
theorem akQ {α β:Type} {p:α→β→Bool} {a:List α} {b:List β} (h:a.length≠b.length):ZA p a b=false:=by
  unfold ZA; rw [dF h]; rfl
theorem ae5 {α β:Type} {p:α→β→Bool} {a:List α} {b:List β} (h:a.length=b.length):ZA p a b=(a.zip b).all fun q=>p q.1 q.2:=by
  unfold ZA; rw [dT h]; rfl
theorem abu {α β:Type} {F:Nat→Int→Option Bool} {la:List α} {lb:List β} {p:α→β→Bool} (hl:la.length≤1048576) {m:Nat} (hm:2000000≤m)
    (hF:la.length=lb.length→∀ (m i:Nat) (x:α) (y:β),(hi:i < la.length)→idx la (i:Int)=some x→idx lb (i:Int)=some y→x∈la→y∈lb→F (m+1) (i:Int)=bif p x y then F m (IntKind.wrap .i64 ((i:Int)+1)) else some false) (hE:∀ (m:Nat),F (m+1) (la.length:Int)=some true):
    (bif ((la.length:Int) != (lb.length:Int)) then some false else F m 0)=some (ZA p la lb):=by
  by_cases h:la.length=lb.length
  · rw [show ((la.length:Int) != (lb.length:Int))=false by rw [h]; simp,cond_false,acx h hl hm (hF h) hE,ae5 h]
    cases (la.zip lb).all fun q=>p q.1 q.2 <;> rfl
  · rw [show ((la.length:Int) != (lb.length:Int))=true by rw [bne_iff_ne]; omega,cond_true,akQ h]
def afM (x y:zi):Bool:=vCmp x y == 0
theorem ais {a b:zi} (ha:Z4 a) (hb:Z4 b) {n:Nat} (h:5≤n):aco n a b=some (afM a b):=by
  obtain ⟨n,rfl⟩:∃ k,n=k+1:=⟨n - 1,by omega⟩
  unfold aco
  rw [zD,ajg ha hb (by omega)]; rfl
theorem aav {α:Type} {p:α→α→Bool} (l:List α) (h:∀ x,x∈l→p x x=true):ZA p l l=true:=by
  rw [ae5 rfl,List.all_eq_true]
  intro q hq
  obtain ⟨i,hi,rfl⟩:=List.getElem_of_mem hq
  rw [List.getElem_zip]
  exact h _ (List.getElem_mem _)
end Go.Pl
set_option maxRecDepth 100000
namespace Go.Pl
open Go Go.Ab
abbrev EX:=zc
def szL (x:zj):Nat:=PV.bulkL (zC x)
theorem amM {x:zj} {z:EX} (h:z∈sll x.fKids):szL (za z) < szL x:=by
  have e:szL (za z)=PV.bulkL (zb z):=by rw [zx z]; rfl
  rw [e]
  unfold szL zC
  cases hk:x.fKids with
  | none=>rw [hk] at h; cases h
  | some l=>
    rw [hk] at h
    have:=ab8 (rows:=l.map zb) (r:=zb z) (List.mem_map_of_mem h)
    simp only [PV.bulkL,PV.bulk,zh]
    omega
theorem alw {x:zj} (hw:qb x) {z:EX} (h:z∈sll x.fKids):qb (za z):=by
  have hs:=amM h
  have h2:=hw.2
  refine ⟨?_,by unfold szL at hs; omega⟩
  have h1:=hw.1
  unfold zC at h1
  rw [← zx z]
  cases hk:x.fKids with
  | none=>rw [hk] at h; cases h
  | some l=>
    rw [hk] at h h1
    generalize hp:([.int .i64 x.fKind,.int .i64 x.fRel,.int .i64 x.fCol,.int .i64 x.fConst.fKind,.int .i64 x.fConst.fInt,.flt .f64 x.fConst.fFloat,.str x.fConst.fText,zh zb (some l)]:List PV)=p at h1
    cases h1 with
    | nil a b c v w=>simp [zh] at hp
    | some a b c v rows w hl hr=>
      simp only [List.cons.injEq,and_true,zh,PV.sl.injEq] at hp
      obtain ⟨_,_,_,_,_,_,_,e⟩:=hp
      subst e
      exact hr _ (List.mem_map_of_mem h)
theorem ac3 {x:zj} (hw:qb x):(sll x.fKids).length≤1048576:=by
  have h1:=hw.1
  unfold zC at h1
  cases hk:x.fKids with
  | none=>simp [sll]
  | some l=>
    rw [hk] at h1
    generalize hp:([.int .i64 x.fKind,.int .i64 x.fRel,.int .i64 x.fCol,.int .i64 x.fConst.fKind,.int .i64 x.fConst.fInt,.flt .f64 x.fConst.fFloat,.str x.fConst.fText,zh zb (some l)]:List PV)=p at h1
    cases h1 with
    | nil a b c v w=>simp [zh] at hp
    | some a b c v rows w hl hr=>
      simp only [List.cons.injEq,and_true,zh,PV.sl.injEq] at hp
      obtain ⟨_,_,_,_,_,_,_,e⟩:=hp
      subst e
      show l.length≤_
      simpa using hl
def ownR (x:zj):Int:=bif ((x.fKind == 1) && (decide (x.fRel≥0))) && (decide (x.fRel≤31)) then iShl .u32 1 (IntKind.wrap .u64 x.fRel) else 0
noncomputable def relD:Nat→zj→Int
  | 0,_=>0
  | k+1,x=>(sll x.fKids).foldl (fun acc z=>iOr .u32 acc (relD k (za z))) (ownR x)
noncomputable def relE (z:EX):Int:=relD 1048576 (za z)
def okS (S r:Int):Bool:=((ant .u32 r S) == 0) && ((r != 0) || ((iAnd .u32 S 1) == 1))
noncomputable def wl (S:Int):List EX→Nat→List Int
  | [],_=>[]
  | z :: l,i=>bif okS S (relE z) then (i:Int) :: wl S l (i+1) else wl S l (i+1)
end Go.Pl
set_option maxRecDepth 100000
namespace Go.Pl
open Go Go.Ab
def acy (k:Int):Int:=if k=1∨k=2 then 0 else if k=6∨k=12∨k=13 then 1 else if 3≤k∧k≤11 then 2 else -1
theorem ajn (k:Int) {n:Nat} (hn:1≤n):ac2 n k=some (acy k):=by
  obtain ⟨n,rfl⟩:∃ j,n=j+1:=⟨n - 1,by omega⟩
  unfold ac2
  rw [zD]
  simp only [zK]
  have ne:∀ {c:Int},k≠c→(k == c)=false:=fun h=>beq_eq_false_iff_ne.2 h
  by_cases h1:k=1
  · subst h1; rfl
  by_cases h2:k=2
  · subst h2; rfl
  by_cases h6:k=6
  · subst h6; rfl
  by_cases h12:k=12
  · subst h12; rfl
  by_cases h13:k=13
  · subst h13; rfl
  by_cases h3:k=3
  · subst h3; rfl
  by_cases h4:k=4
  · subst h4; rfl
  by_cases h5:k=5
  · subst h5; rfl
  by_cases h7:k=7
  · subst h7; rfl
  by_cases h8:k=8
  · subst h8; rfl
  by_cases h9:k=9
  · subst h9; rfl
  by_cases h10:k=10
  · subst h10; rfl
  by_cases h11:k=11
  · subst h11; rfl
  rw [ne h1,ne h2,ne h6,ne h12,ne h13,ne h3,ne h4,ne h5,ne h7,ne h8,ne h9,ne h10,ne h11]
  unfold acy
  rw [if_neg (by omega),if_neg (by omega),if_neg (by omega)]
  rfl
def inE (k:Int):Bool:=decide (k≥0) && decide (k≤31)
def afK (x:zj):Bool:=!((x.fKind != 1) && ((x.fRel != 0) || (x.fCol != 0))) && inE x.fRel && inE x.fCol && abb x.fConst && ((x.fKind == 2) || (x.fConst.fKind == 0))
theorem ah4 {x:zj} (hc:Z4 x.fConst) {n:Nat} (hn:5≤n):abM n x=some (afK x):=by
  obtain ⟨n,rfl⟩:∃ j,n=j+1:=⟨n - 1,by omega⟩
  have e1:∀ k,aaI n k=some (inE k):=fun k=>by
    obtain ⟨n,rfl⟩:∃ j,n=j+1:=⟨n - 1,by omega⟩
    rfl
  unfold abM afK
  rw [zD,e1,e1,aei _ (by omega)]
  cases ((x.fKind != 1) && ((x.fRel != 0) || (x.fCol != 0))) <;> cases inE x.fRel <;> cases inE x.fCol <;> cases abb x.fConst <;> rfl
def alG (x:zj):Bool:=(acy x.fKind == ((sll x.fKids).length:Int)) && afK x
def sumO {α:Type} (f:α→Option Nat):List α→Option Nat
  | []=>some 0
  | z :: l=>match f z,sumO f l with
    | some a,some b=>some (a+b)
    | _,_=>none
noncomputable def frmE:Nat→zj→Option Nat
  | 0,_=>none
  | r+1,x=>bif alG x then (sumO (fun z=>frmE r (za z)) (sll x.fKids)).map (·+1) else none
theorem am2 {r:Nat} {x:zj} {c:Nat} (h:frmE r x=some c):1≤c:=by
  cases r with
  | zero=>cases h
  | succ r=>
    unfold frmE at h
    cases hn:alG x with
    | false=>rw [hn] at h; cases h
    | true=>
      rw [hn,cond_true,Option.map_eq_some_iff] at h
      obtain ⟨a,_,rfl⟩:=h
      omega
def aeb (o:Option Nat) (left:Int):Int:=match o with
  | some c=>if (c:Int)≤left then left - c else -1
  | none=>-1
theorem ajG {x:zj} (hw:qb x):Z4 x.fConst:=by
  have h1:=hw.1
  unfold zC at h1
  generalize hp:([.int .i64 x.fKind,.int .i64 x.fRel,.int .i64 x.fCol,.int .i64 x.fConst.fKind,.int .i64 x.fConst.fInt,.flt .f64 x.fConst.fFloat,.str x.fConst.fText,zh zb x.fKids]:List PV)=p at h1
  cases h1 with
  | nil a b c v w=>
    simp only [List.cons.injEq,PV.int.injEq,PV.flt.injEq,PV.str.injEq,true_and,and_true] at hp
    obtain ⟨_,_,_,e1,e2,e3,e4,_⟩:=hp
    obtain ⟨v1,v2,v3,v4⟩:=v
    simp only at e1 e2 e3 e4
    have:x.fConst=⟨v1,v2,v3,v4⟩:=by
      cases hx:x.fConst with
      | mk a b c d=>rw [hx] at e1 e2 e3 e4; simp only at e1 e2 e3 e4; rw [e1,e2,e3,e4]
    rw [this]; exact w.2.2.2
  | some a b c v rows w hl hr=>
    simp only [List.cons.injEq,PV.int.injEq,PV.flt.injEq,PV.str.injEq,true_and,and_true] at hp
    obtain ⟨_,_,_,e1,e2,e3,e4,_⟩:=hp
    obtain ⟨v1,v2,v3,v4⟩:=v
    simp only at e1 e2 e3 e4
    have:x.fConst=⟨v1,v2,v3,v4⟩:=by
      cases hx:x.fConst with
      | mk a b c d=>rw [hx] at e1 e2 e3 e4; simp only at e1 e2 e3 e4; rw [e1,e2,e3,e4]
    rw [this]; exact w.2.2.2
theorem aff {α:Type} {f:α→Option Nat} {K:Int→Option Int} {F:Nat→Int→Int→Option Int} {ks:List α} {C:α→Int→Option Int}
    (hF:∀ m left i,F (m+1) left i=bif decide (i < (ks.length:Int)) then (idx ks i).bind fun z=>(C z left).bind fun r=>bif decide (r < 0) then some (-1) else F m r (IntKind.wrap .i64 (i+1)) else K left)
    {B:Int} (hB:B≤1000) (hC:∀ z,z∈ks→∀ left,0≤left→left≤B→C z left=some (aeb (f z) left)) (hks:ks.length≤1048576):
    ∀ (l:List α) (m:Nat) (p:List α) (left:Int),ks=p++l→l.length < m→0≤left→left≤B→
      F m left (p.length:Int)=match sumO f l with
        | some c=>if (c:Int)≤left then K (left - c) else some (-1)
        | none=>some (-1)
  | [],m,p,left,he,hm,h0,h4=>by
    obtain ⟨m,rfl⟩:∃ j,m=j+1:=⟨m - 1,by omega⟩
    rw [hF,dF (by rw [he]; simp),cond_false]
    simp only [sumO]
    rw [if_pos (by omega)]
    congr 1; omega
  | z :: l,m,p,left,he,hm,h0,h4=>by
    obtain ⟨m,rfl⟩:∃ j,m=j+1:=⟨m - 1,by omega⟩
    rw [List.length_cons] at hm
    have hz:z∈ks:=by rw [he]; simp
    have hix:idx ks (p.length:Int)=some z:=by rw [he,aaK]; simp
    rw [hF,dT (by rw [he]; simp; omega),cond_true,hix,Option.bind_some,hC z hz left h0 h4,Option.bind_some]
    have hlen:ks.length=p.length+(l.length+1):=by rw [he]; simp
    rw [ado (by omega)]
    have e:p.length+1=(p++[z]).length:=by simp
    obtain ⟨v,hv⟩:∃ v,v=aeb (f z) left:=⟨_,rfl⟩
    rw [← hv]
    unfold sumO
    cases hf:f z with
    | none=>
      rw [hf] at hv
      rw [show v=-1 from hv]
      rfl
    | some a=>
      rw [hf] at hv
      simp only [aeb] at hv
      by_cases ha:(a:Int)≤left
      · rw [if_pos ha] at hv
        subst hv
        rw [dF (by omega),cond_false,e,aff hF hB hC hks l m (p++[z]) (left - a) (by rw [he]; simp) (by omega) (by omega) (by omega)]
        cases hs:sumO f l with
        | none=>rfl
        | some b=>
          simp only
          by_cases hb:(b:Int)≤left - a
          · rw [if_pos hb,if_pos (by omega)]; congr 1; omega
          · rw [if_neg hb,if_neg (by omega)]
      · rw [if_neg ha] at hv
        subst hv
        rw [dT (by omega),cond_true]
        cases hs:sumO f l with
        | none=>rfl
        | some b=>simp only; rw [if_neg (by omega)]
theorem amz:∀ (r:Nat),r≤24→∀ (x:zj),qb x→∀ (left:Int),left≤400→-1≤left→∀ m n,r+1≤m→2000000+r≤n→
    qL m n x (25 - (r:Int)) left=some (aeb (frmE r x) left):=by
  intro r
  induction r with
  | zero=>
    intro hr x hw left h4 h0 m n hm hn
    obtain ⟨m,rfl⟩:∃ j,m=j+1:=⟨m - 1,by omega⟩
    obtain ⟨n,rfl⟩:∃ j,n=j+1:=⟨n - 1,by omega⟩
    show QH (qL m) (n+1) x _ left=_
    unfold QH
    rw [zD,dT (by omega),cond_true]
    rfl
  | succ r ih=>
    intro hr x hw left h4 h0 m n hm hn
    obtain ⟨m,rfl⟩:∃ j,m=j+1:=⟨m - 1,by omega⟩
    obtain ⟨n,rfl⟩:∃ j,n=j+1:=⟨n - 1,by omega⟩
    show QH (qL m) (n+1) x _ left=_
    unfold QH
    rw [zD,dF (by omega),cond_false]
    by_cases hl:left < 1
    · rw [dT hl,cond_true]
      unfold aeb
      cases hf:frmE (r+1) x with
      | none=>rfl
      | some c=>
        have:=am2 hf
        simp only
        rw [if_neg (by omega)]
    · rw [dF hl,cond_false,ajn _ (by omega),Option.bind_some]
      rw [frmE]
      unfold alG
      by_cases hk:acy x.fKind=((sll x.fKids).length:Int)
      · rw [show (acy x.fKind != ((sll x.fKids).length:Int))=false by simp [hk],cond_false,show (acy x.fKind == ((sll x.fKids).length:Int))=true by simp [hk],Bool.true_and]
        rw [show zj.mk x.fKind x.fRel x.fCol x.fConst x.fKids=x from rfl,ah4 (ajG hw) (by omega),Option.bind_some]
        cases hfd:afK x with
        | false=>rfl
        | true=>
          rw [Bool.not_true,cond_false,cond_true]
          show zK (fun k12=>QX n (qL m) x (25 - ((r+1:Nat):Int)) k12 n (IntKind.wrap .i64 (left - 1)) 0) (fun (y9:Int)=>some y9)=_
          unfold zK
          rw [aa7 (by omega) (by omega)]
          have key:=aff (f:=fun z=>frmE r (za z)) (K:=fun y9=>some y9) (F:=fun m' left' i=>QX n (qL m) x (25 - ((r+1:Nat):Int)) (fun y9=>some y9) m' left' i) (ks:=sll x.fKids)
            (C:=fun z left'=>qL m n (za z) (IntKind.wrap .i64 ((25 - ((r+1:Nat):Int))+1)) left')
            (fun m' left' i=>rfl) (B:=400) (by omega) (fun z hz left' h1 h2=>by
              show qL m n (za z) (IntKind.wrap .i64 ((25 - ((r+1:Nat):Int))+1)) left'=_
              rw [aa7 (by omega) (by omega),show (25 - ((r+1:Nat):Int))+1=25 - (r:Int) by omega]
              exact ih (by omega) _ (alw hw hz) left' h2 (by omega) m n (by omega) (by omega)) (ac3 hw) (sll x.fKids) n [] (left - 1) rfl (by have:=ac3 hw; omega) (by omega) (by omega)
          refine Eq.trans key ?_
          cases hs:sumO (fun z=>frmE r (za z)) (sll x.fKids) with
          | none=>rfl
          | some c=>
            simp only [Option.map_some,aeb]
            by_cases hc:(c:Int)≤left - 1
            · rw [if_pos hc,if_pos (by omega)]; congr 1; omega
            · rw [if_neg hc,if_neg (by omega)]
      · rw [show (acy x.fKind != ((sll x.fKids).length:Int))=true by simp [hk],cond_true,show (acy x.fKind == ((sll x.fKids).length:Int))=false by simp [hk],Bool.false_and]
        rfl
noncomputable def Qp (x:zj):Bool:=match frmE 24 x with
  | some c=>decide (c≤400)
  | none=>false
theorem aeA {x:zj} (hw:qb x) {n:Nat} (hn:2000100≤n):aaT n x=some (Qp x):=by
  obtain ⟨n,rfl⟩:∃ j,n=j+1:=⟨n - 1,by omega⟩
  unfold aaT
  rw [zD]
  have:=amz 24 (by omega) x hw 400 (by omega) (by omega) n n (by omega) (by omega)
  rw [show (25 - ((24:Nat):Int))=1 from rfl] at this
  rw [show afm n x 1 400=some _ from this,Option.bind_some]
  unfold Qp aeb
  cases frmE 24 x with
  | none=>rfl
  | some c=>exact congrArg some (decide_eq_decide.2 (by simp only; split <;> omega))
end Go.Pl
set_option maxRecDepth 100000
namespace Go.Pl
open Go Go.Ab
theorem W_un {z:EX} (h:zS z):qb (za z):=by
  unfold zS at h
  rw [zx z] at h
  exact h
theorem alD:∀ (s m n:Nat) (a:Option (List EX)) (most:Int),(∀ z,z∈sll a→qb (za z)∧szL (za z)≤s)→(sll a).length≤1048576→s < m→2000020+s≤n→∃ r,QI m n a most=some r
  | s,m,n,a,most,hz,hl,hm,hn=>by
    obtain ⟨m,rfl⟩:∃ j,m=j+1:=⟨m - 1,by omega⟩
    obtain ⟨n,rfl⟩:∃ j,n=j+1:=⟨n - 1,by omega⟩
    show ∃ r,aa8 (QI m) (n+1) a most=some r
    unfold aa8
    rw [zD]
    cases hq:decide (((sll a).length:Int) > most) with
    | true=>exact ⟨_,rfl⟩
    | false=>
      rw [cond_false]
      show ∃ r,qD n (QI m) a most (fun y3=>some y3) n ((sll a).length:Int) ((0:Nat):Int)=some r
      have key:∀ (d mm i:Nat) (acc:Int),i+d=(sll a).length→d < mm→∃ r,qD n (QI m) a most (fun y3=>some y3) mm acc (i:Int)=some r:=by
        intro d
        induction d with
        | zero=>
          intro mm i acc hi hmm
          obtain ⟨mm,rfl⟩:∃ j,mm=j+1:=⟨mm - 1,by omega⟩
          rw [qD,dF (by omega:¬ (i:Int) < ((sll a).length:Int)),Bool.false_and,cond_false]
          exact ⟨_,rfl⟩
        | succ d ih=>
          intro mm i acc hi hmm
          obtain ⟨mm,rfl⟩:∃ j,mm=j+1:=⟨mm - 1,by omega⟩
          rw [qD]
          cases hc:(decide ((i:Int) < ((sll a).length:Int)) && decide (acc≤most)) with
          | false=>exact ⟨_,rfl⟩
          | true=>
            have hi':i < (sll a).length:=by omega
            have hzi:=hz _ (List.getElem_mem hi')
            rw [cond_true,aaK,List.getElem?_eq_getElem hi',Option.bind_some,ado (by omega)]
            cases decide ((((((za (sll a)[i]).fConst).fText).size:Nat):Int) > most) with
            | true=>exact ⟨_,rfl⟩
            | false=>
              rw [cond_false]
              cases decide ((IntKind.wrap .i64 (acc+((((za (sll a)[i]).fConst).fText).size:Int)))≤most) with
              | false=>exact ih mm (i+1) _ (by omega) (by omega)
              | true=>
                rw [cond_true]
                have hs:0 < s:=by
                  have:=hzi.2
                  unfold szL zC at this
                  simp only [PV.bulkL,PV.bulk] at this
                  omega
                obtain ⟨r,hr⟩:=alD (s - 1) m n ((za (sll a)[i]).fKids) (IntKind.wrap .i64 (most - (IntKind.wrap .i64 (acc+((((za (sll a)[i]).fConst).fText).size:Int))))) (fun y hy=>⟨alw hzi.1 hy,by have:=amM hy; omega⟩) (ac3 hzi.1) (by omega) (by omega)
                rw [hr,Option.bind_some]
                exact ih mm (i+1) _ (by omega) (by omega)
      exact key (sll a).length n 0 _ (by omega) (by omega)
  termination_by s=>s
  decreasing_by omega
end Go.Pl
set_option maxRecDepth 100000
namespace Go.Pl
open Go Go.Ab
theorem map_inj {α β:Type} {R:α→β} (hR:∀ x y,R x=R y→x=y):∀ (a b:List α),a.map R=b.map R→a=b
  | [],[],_=>rfl
  | [],y :: b,h=>by cases h
  | x :: a,[],h=>by cases h
  | x :: a,y :: b,h=>by
    simp only [List.map_cons,List.cons.injEq] at h
    rw [hR x y h.1,map_inj hR a b h.2]
theorem Z1 {α:Type} {R:α→List PV} (hR:∀ x y,R x=R y→x=y) {a b:Option (List α)} (h:zh R a=zh R b):a=b:=by
  cases a with
  | none=>
    cases b with
    | none=>rfl
    | some b=>cases h
  | some a=>
    cases b with
    | none=>cases h
    | some b=>
      simp only [zh,PV.sl.injEq] at h
      rw [map_inj hR a b h]
theorem Q8 (x y:zc) (h:zb x=zb y):x=y:=Subtype.ext h
theorem anb (x y:zm) (h:zg x=zg y):x=y:=Subtype.ext h
theorem ak1 (x y:zj) (h:zC x=zC y):x=y:=by
  obtain ⟨a1,a2,a3,⟨v1,v2,v3,v4⟩,a5⟩:=x
  obtain ⟨b1,b2,b3,⟨w1,w2,w3,w4⟩,b5⟩:=y
  unfold zC at h
  simp only [List.cons.injEq,PV.int.injEq,PV.flt.injEq,PV.str.injEq,true_and,and_true] at h
  obtain ⟨rfl,rfl,rfl,rfl,rfl,rfl,rfl,h5⟩:=h
  rw [Z1 Q8 h5]
theorem afX (x y:zr) (h:zn x=zn y):x=y:=by
  obtain ⟨k,a1,a2,a3,⟨v1,v2,v3,v4⟩,a5⟩:=x
  obtain ⟨k',b1,b2,b3,⟨w1,w2,w3,w4⟩,b5⟩:=y
  unfold zn at h
  simp only [List.cons.injEq,PV.int.injEq,PV.flt.injEq,PV.str.injEq,true_and,and_true] at h
  obtain ⟨rfl,rfl,rfl,rfl,rfl,rfl,rfl,rfl,h5⟩:=h
  rw [Z1 Q8 h5]
theorem agb (x y:zt) (h:zp x=zp y):x=y:=by
  obtain ⟨k,a1⟩:=x
  obtain ⟨k',b1⟩:=y
  unfold zp at h
  simp only [List.cons.injEq,PV.int.injEq,PV.bool.injEq,true_and,and_true] at h
  obtain ⟨rfl,rfl⟩:=h
  rfl
theorem akV (x y:zk) (h:zG x=zG y):x=y:=by
  obtain ⟨a1,a2,a3,a4,a5,a6,a7,a8,a9⟩:=x
  obtain ⟨b1,b2,b3,b4,b5,b6,b7,b8,b9⟩:=y
  unfold zG at h
  simp only [List.cons.injEq,PV.int.injEq,true_and,and_true] at h
  obtain ⟨rfl,rfl,h3,h4,h5,h6,h7,h8,h9⟩:=h
  rw [Z1 Q8 h3,Z1 Q8 h4,Z1 Q8 h5,Z1 Q8 h6,Z1 afX h7,Z1 agb h8,Z1 anb h9]
theorem qi (x:zj):za (zf x)=x:=(ak1 _ _ ((zx (zf x)).symm.trans rfl))
theorem ai5 (x:zk):zd (zl x)=x:=(akV _ _ ((zF (zl x)).symm.trans rfl))
abbrev PX:=zm
def szP (x:zk):Nat:=PV.bulkL (zG x)
theorem abL {α:Type} (R:α→List PV) (s:Option (List α)):1≤(zh R s).bulk:=by
  cases s with
  | none=>simp only [zh,PV.bulk]; omega
  | some l=>simp only [zh,PV.bulk]; omega
theorem agZ {x:zk} {z:PX} (h:z∈sll x.fKids):szP (zd z)+8≤szP x:=by
  have e:szP (zd z)=PV.bulkL (zg z):=by rw [zF z]; rfl
  rw [e]
  unfold szP zG
  cases hk:x.fKids with
  | none=>rw [hk] at h; cases h
  | some l=>
    rw [hk] at h
    have:=ab8 (rows:=l.map zg) (r:=zg z) (List.mem_map_of_mem h)
    have b1:=abL zb x.fWhere
    have b2:=abL zb x.fLeft
    have b3:=abL zb x.fRight
    have b4:=abL zb x.fOut
    have b5:=abL zn x.fAggs
    have b6:=abL zp x.fOrder
    rw [show zh zg (some l)=.sl (l.map zg) from rfl]
    simp only [PV.bulkL,PV.bulk]
    omega
def PW (x:zk):Prop:=wI .i64 x.fKind∧wI .i64 x.fRel∧wSl zS x.fWhere∧wSl zS x.fLeft∧wSl zS x.fRight∧wSl zS x.fOut∧wSl aar x.fAggs∧wSl acb x.fOrder
theorem an4 {x:zk} (hw:Qb x):PW x∧(sll x.fKids).length≤1048576∧∀ z,z∈sll x.fKids→Qb (zd z):=by
  have h1:=hw.1
  have hb:=hw.2
  have hkid:∀ z,z∈sll x.fKids→aag (zg z)→Qb (zd z):=fun z hz hg=>by
    have:=agZ hz
    unfold szP at this
    rw [zF z] at hg
    exact ⟨hg,by omega⟩
  unfold zG at h1
  generalize hp:([.int .i64 x.fKind,.int .i64 x.fRel,zh zb x.fWhere,zh zb x.fLeft,zh zb x.fRight,zh zb x.fOut,zh zn x.fAggs,zh zp x.fOrder,zh zg x.fKids]:List PV)=p at h1
  cases h1 with
  | nil a b c d e f g h w=>
    simp only [List.cons.injEq,PV.int.injEq,true_and,and_true] at hp
    obtain ⟨e1,e2,e3,e4,e5,e6,e7,e8,e9⟩:=hp
    have k9:x.fKids=none:=by
      cases hk:x.fKids with
      | none=>rfl
      | some l=>rw [hk] at e9; cases e9
    rw [← e1,← e2,← Z1 Q8 e3,← Z1 Q8 e4,← Z1 Q8 e5,← Z1 Q8 e6,← Z1 afX e7,← Z1 agb e8] at w
    refine ⟨w,by rw [k9]; simp [sll],fun z hz=>by rw [k9] at hz; cases hz⟩
  | some a b c d e f g h rows w hl hr=>
    simp only [List.cons.injEq,PV.int.injEq,true_and,and_true] at hp
    obtain ⟨e1,e2,e3,e4,e5,e6,e7,e8,e9⟩:=hp
    rw [← e1,← e2,← Z1 Q8 e3,← Z1 Q8 e4,← Z1 Q8 e5,← Z1 Q8 e6,← Z1 afX e7,← Z1 agb e8] at w
    cases hk:x.fKids with
    | none=>rw [hk] at e9; cases e9
    | some l=>
      rw [hk] at e9 hkid
      simp only [zh,PV.sl.injEq] at e9
      subst e9
      refine ⟨w,by simpa [sll] using hl,fun z hz=>hkid z hz (hr _ (List.mem_map_of_mem hz))⟩
def WD:Nat→zk→Prop
  | 0,_=>False
  | s+1,x=>PW x∧(sll x.fKids).length≤1048576∧∀ z,z∈sll x.fKids→WD s (zd z)
theorem anK:∀ (s:Nat) (x:zk),szP x≤8 * s→Qb x→WD s x
  | 0,x,h,_=>by
    unfold szP zG at h
    simp only [PV.bulkL,PV.bulk] at h
    omega
  | s+1,x,h,hw=>by
    obtain ⟨h1,h2,h3⟩:=an4 hw
    exact ⟨h1,h2,fun z hz=>anK s _ (by have:=agZ hz; omega) (h3 z hz)⟩
theorem W_WD {x:zk} (hw:Qb x):WD 131072 x:=anK _ x hw.2 hw
theorem am6 {α:Type} {W:α→Prop}:wSl W none:=⟨by simp [sll],fun x h=>by cases h⟩
theorem afc {a:Option (List EX)} (ha:wSl zS a) (most:Int) {n:Nat} (hn:3048700≤n):∃ r,abo n a most=some r:=
  alD 1048576 n n a most (fun z hz=>⟨W_un (ha.2 z hz),(W_un (ha.2 z hz)).2⟩) ha.1 (by omega) (by omega)
theorem ahu {q:Zo} (h0:q.fRels=none) (h1:wSl zS q.fWhere) (h2:wSl zS q.fOut) (h3:wSl aar q.fAggs) (most:Int) {n:Nat} (hn:3048710≤n):∃ r,abk n q most=some r:=by
  obtain ⟨n,rfl⟩:∃ j,n=j+1:=⟨n - 1,by omega⟩
  unfold abk
  rw [zD]
  cases ((decide (((sll q.fRels).length:Int) > most)) || (decide (((sll q.fAggs).length:Int) > most))) || (decide (((sll q.fOrder).length:Int) > most)) with
  | true=>exact ⟨_,rfl⟩
  | false=>
    rw [cond_false]
    simp only [zK]
    generalize IntKind.wrap .i64 ((IntKind.wrap .i64 (((sll q.fRels).length:Int)+((sll q.fAggs).length:Int)))+((sll q.fOrder).length:Int))=y
    have l5:∀ (K:Int→Option Int),QV n q most K n y 0=K y:=fun K=>by
      obtain ⟨n,rfl⟩:∃ j,n=j+1:=⟨n - 1,by omega⟩
      rw [QV,h0]
      rfl
    have l15:∀ (l:List zr) (p:List zr) (m:Nat) (acc:Int),sll q.fAggs=p++l→l.length < m→∃ r,qe n q most (fun y13=>some y13) m acc (p.length:Int)=some r:=by
      intro l
      induction l with
      | nil=>
        intro p m acc he hm
        obtain ⟨m,rfl⟩:∃ j,m=j+1:=⟨m - 1,by omega⟩
        rw [qe,dF (by rw [he]; simp),Bool.false_and,cond_false]
        exact ⟨_,rfl⟩
      | cons x l ih=>
        intro p m acc he hm
        rw [List.length_cons] at hm
        obtain ⟨m,rfl⟩:∃ j,m=j+1:=⟨m - 1,by omega⟩
        have hx:=h3.2 x (by rw [he]; simp)
        have hlen:=h3.1
        rw [he] at hlen
        simp only [List.length_append,List.length_cons] at hlen
        rw [qe,dT (by rw [he]; simp; omega),Bool.true_and]
        cases decide (acc≤most) with
        | false=>exact ⟨_,rfl⟩
        | true=>
          rw [cond_true,show idx (sll q.fAggs) (p.length:Int)=some x by rw [he,aaK]; simp,Option.bind_some]
          obtain ⟨r,hr⟩:=afc (a:=some [zf x.fOf]) ⟨by simp [sll],fun z hz=>by
            simp only [sll,List.mem_singleton] at hz
            subst hz
            exact hx.2⟩ (IntKind.wrap .i64 (most - acc)) (n:=n) (by omega)
          rw [hr,Option.bind_some,ado (by omega),show p.length+1=(p++[x]).length by simp]
          exact ih (p++[x]) m _ (by rw [he]; simp) (by omega)
    have fin:∀ acc:Int,∃ r,qe n q most (fun y13=>some y13) n acc 0=some r:=fun acc=>l15 (sll q.fAggs) [] n acc rfl (by have:=h3.1; omega)
    have s2:∀ acc:Int,∃ r,(bif decide (acc≤most) then (abo n q.fOut (IntKind.wrap .i64 (most - acc))).bind fun x27=>qe n q most (fun y13=>some y13) n (IntKind.wrap .i64 (acc+x27)) 0 else qe n q most (fun y13=>some y13) n acc 0)=some r:=fun acc=>by
      cases decide (acc≤most) with
      | false=>exact fin acc
      | true=>
        obtain ⟨r,hr⟩:=afc h2 (IntKind.wrap .i64 (most - acc)) (n:=n) (by omega)
        rw [cond_true,hr,Option.bind_some]
        exact fin _
    rw [l5]
    cases hy:decide (y≤most) with
    | false=>
      have:=s2 y
      rw [hy] at this
      exact this
    | true=>
      obtain ⟨r,hr⟩:=afc h1 (IntKind.wrap .i64 (most - y)) (n:=n) (by omega)
      rw [cond_true,hr,Option.bind_some]
      exact s2 _
theorem ahG:∀ (s:Nat) (x:zk),WD s x→∀ (most:Int) (m n:Nat),s≤m→3048720+s≤n→∃ r,QG m n x most=some r
  | 0,x,h,_,_,_,_,_=>h.elim
  | s+1,x,h,most,m,n,hm,hn=>by
    obtain ⟨m,rfl⟩:∃ j,m=j+1:=⟨m - 1,by omega⟩
    obtain ⟨n,rfl⟩:∃ j,n=j+1:=⟨n - 1,by omega⟩
    show ∃ r,aa1 (QG m) (n+1) x most=some r
    obtain ⟨⟨w1,w2,w3,w4,w5,w6,w7,w8⟩,hk,hz⟩:=h
    unfold aa1
    rw [zD]
    obtain ⟨r,hr⟩:=ahu (q:=Zo.mk none x.fWhere false x.fOut x.fAggs x.fOrder) rfl w3 w6 w7 most (n:=n) (by omega)
    rw [hr,Option.bind_some]
    simp only [zK]
    have l5:∀ (l:List PX) (p:List PX) (mm:Nat) (acc:Int),sll x.fKids=p++l→l.length < mm→∃ r,qY n (QG m) x most (fun y7=>some y7) mm acc (p.length:Int)=some r:=by
      intro l
      induction l with
      | nil=>
        intro p mm acc he hm
        obtain ⟨mm,rfl⟩:∃ j,mm=j+1:=⟨mm - 1,by omega⟩
        rw [qY,dF (by rw [he]; simp),Bool.false_and,cond_false]
        exact ⟨_,rfl⟩
      | cons z l ih=>
        intro p mm acc he hmm
        rw [List.length_cons] at hmm
        obtain ⟨mm,rfl⟩:∃ j,mm=j+1:=⟨mm - 1,by omega⟩
        have hlen:=hk
        rw [he] at hlen
        simp only [List.length_append,List.length_cons] at hlen
        rw [qY,dT (by rw [he]; simp; omega),Bool.true_and]
        cases decide (acc≤most) with
        | false=>exact ⟨_,rfl⟩
        | true=>
          rw [cond_true,show idx (sll x.fKids) (p.length:Int)=some z by rw [he,aaK]; simp,Option.bind_some]
          obtain ⟨r,hr⟩:=ahG s (zd z) (hz z (by rw [he]; simp)) (IntKind.wrap .i64 (most - acc)) m n (by omega) (by omega)
          rw [hr,Option.bind_some,ado (by omega),show p.length+1=(p++[z]).length by simp]
          exact ih (p++[z]) mm _ (by rw [he]; simp) (by omega)
    have fin:∀ acc:Int,∃ r,qY n (QG m) x most (fun y7=>some y7) n acc 0=some r:=fun acc=>l5 (sll x.fKids) [] n acc rfl (by omega)
    cases decide (IntKind.wrap .i64 (1+r)≤most) with
    | false=>exact fin _
    | true=>
      obtain ⟨r',hr'⟩:=ahu (q:=Zo.mk none x.fLeft false x.fRight none none) rfl w4 w5 am6 most (n:=n) (by omega)
      rw [cond_true,hr',Option.bind_some]
      exact fin _
theorem agu {s:Nat} {x:zk} (h:WD s x) {n:Nat} (hn:3048730+s≤n):∃ b,aaV n x=some b:=by
  obtain ⟨n,rfl⟩:∃ j,n=j+1:=⟨n - 1,by omega⟩
  unfold aaV
  rw [zD]
  obtain ⟨r,hr⟩:=ahG s x h 800 n n (by omega) (by omega)
  rw [show ae7 n x 800=_ from hr,Option.bind_some]
  exact ⟨_,rfl⟩
end Go.Pl
set_option maxRecDepth 100000
namespace Go.Pl
open Go Go.Ab
def abF (k:Int):Int:=if k=1 then 0 else if 5≤k∧k≤7 then 1 else if 2≤k∧k≤4 then 2 else -1
theorem ajL (k:Int) {n:Nat} (hn:1≤n):ade n k=some (abF k):=by
  obtain ⟨n,rfl⟩:∃ j,n=j+1:=⟨n - 1,by omega⟩
  unfold ade
  rw [zD]
  simp only [zK]
  by_cases h1:k=1
  · subst h1; rfl
  by_cases h2:k=2
  · subst h2; rfl
  by_cases h3:k=3
  · subst h3; rfl
  by_cases h4:k=4
  · subst h4; rfl
  by_cases h5:k=5
  · subst h5; rfl
  by_cases h6:k=6
  · subst h6; rfl
  by_cases h7:k=7
  · subst h7; rfl
  rw [beqF h1,beqF h2,beqF h3,beqF h4,beqF h5,beqF h6,beqF h7]
  unfold abF
  rw [if_neg (by omega),if_neg (by omega),if_neg (by omega)]
  rfl
def nulL (l:List Nat):Bool:=l.all (· == 0)
def afa (k:Int) (w l r o a d:Nat):Bool:=
  bif (k == 3) || (k == 4) then (l == r) && !(l == 0) && nulL [o,a,d]
  else bif (k == 1) || (k == 2) then nulL [l,r,o,a,d]
  else bif k == 6 then !(o == 0) && nulL [w,l,r,a,d]
  else bif k == 5 then nulL [w,l,r,d]
  else bif k == 7 then !(d == 0) && nulL [w,l,r,o,a]
  else nulL [w,l,r,o,a,d]
def acS (x:zk):Bool:=afa x.fKind (sll x.fWhere).length (sll x.fLeft).length (sll x.fRight).length (sll x.fOut).length (sll x.fAggs).length (sll x.fOrder).length
theorem sum5 {a b c d e:Int} {l:List Nat} (h:l.length≤20) (hl:∀ z,z∈l→z≤1048576) (hs:a+b+c+d+e=((l.sum:Nat):Int)) (p1:0≤a) (p2:0≤b) (p3:0≤c) (p4:0≤d) (p5:0≤e) (hb:a+b+c+d+e≤100000000):
    (IntKind.wrap .i64 ((IntKind.wrap .i64 ((IntKind.wrap .i64 ((IntKind.wrap .i64 (a+b))+c))+d))+e) == 0)=nulL l:=by
  rw [aa7 (x:=a+b) (by omega) (by omega),aa7 (x:=a+b+c) (by omega) (by omega),aa7 (x:=a+b+c+d) (by omega) (by omega),aa7 (by omega) (by omega),hs]
  unfold nulL
  have:∀ (l:List Nat),(((l.sum:Nat):Int) == 0)=l.all (· == 0):=by
    intro l
    induction l with
    | nil=>rfl
    | cons x l ih=>
      rw [List.sum_cons,List.all_cons,← ih]
      by_cases hx:x=0
      · subst hx; simp
      · rw [show (x == 0)=false by simpa using hx,Bool.false_and]
        exact beqF (by omega)
  exact this l
theorem aik {x:zk} (hx:PW x) {n:Nat} (hn:1≤n):acf n x=some (acS x):=by
  obtain ⟨n,rfl⟩:∃ j,n=j+1:=⟨n - 1,by omega⟩
  obtain ⟨_,_,w3,w4,w5,w6,w7,w8⟩:=hx
  have h3:=w3.1; have h4:=w4.1; have h5:=w5.1; have h6:=w6.1; have h7:=w7.1; have h8:=w8.1
  unfold acf acS
  rw [zD]
  simp only [zK]
  generalize (sll x.fWhere).length=w at *
  generalize (sll x.fLeft).length=l at *
  generalize (sll x.fRight).length=r at *
  generalize (sll x.fOut).length=o at *
  generalize (sll x.fAggs).length=a at *
  generalize (sll x.fOrder).length=d at *
  have c0:∀ z:Nat,(((z:Nat):Int) == 0)=(z == 0):=fun z=>by
    by_cases h:z=0
    · subst h; rfl
    · rw [beqF (by omega)]; simp [h]
  have lr:(((l:Int) != (r:Int)) || ((l:Int) == 0))=!((l == r) && !(l == 0)):=by
    rw [c0,Bool.not_and,Bool.not_not]
    by_cases h:l=r
    · subst h; simp
    · rw [show ((l:Int) != (r:Int))=true by simp; omega]; simp [h]
  have wl:IntKind.wrap .i64 ((l:Int)+(r:Int))=(l:Int)+r:=aa7 (by omega) (by omega)
  have s5:∀ (A B C D E:Int) (q:List Nat),q.length≤20→(∀ z,z∈q→z≤1048576)→A+B+C+D+E=((q.sum:Nat):Int)→0≤A→0≤B→0≤C→0≤D→0≤E→A+B+C+D+E≤100000000→(IntKind.wrap .i64 ((IntKind.wrap .i64 ((IntKind.wrap .i64 ((IntKind.wrap .i64 (A+B))+C))+D))+E) == 0)=nulL q:=fun A B C D E q h1 h2 h3 h4 h5 h6 h7 h8 h9=>sum5 h1 h2 h3 h4 h5 h6 h7 h8 h9
  have hq:∀ z,z∈[w,l,r,o,a,d]→z≤1048576:=fun z hz=>by
    simp only [List.mem_cons,List.not_mem_nil,or_false] at hz
    rcases hz with rfl | rfl | rfl | rfl | rfl | rfl <;> assumption
  have hsub:∀ (q:List Nat),(∀ z,z∈q→z∈[w,l,r,o,a,d])→∀ z,z∈q→z≤1048576:=fun q h z hz=>hq z (h z hz)
  rw [wl]
  unfold afa
  by_cases k3:x.fKind=3
  · rw [beqT k3,cond_true,cond_true,Bool.true_or,cond_true,lr]
    cases hh:((l == r) && !(l == 0)) with
    | false=>rfl
    | true=>
      rw [Bool.not_true,cond_false,Bool.true_and,s5 _ _ _ _ _ [o,a,d] (by simp) (hsub _ (by simp)) (by simp; omega) (by omega) (by omega) (by omega) (by omega) (by omega) (by omega)]
  rw [beqF k3,cond_false,Bool.false_or]
  by_cases k4:x.fKind=4
  · rw [beqT k4,cond_true,cond_true,lr]
    cases hh:((l == r) && !(l == 0)) with
    | false=>rfl
    | true=>
      rw [Bool.not_true,cond_false,Bool.true_and,s5 _ _ _ _ _ [o,a,d] (by simp) (hsub _ (by simp)) (by simp; omega) (by omega) (by omega) (by omega) (by omega) (by omega) (by omega)]
  rw [beqF k4,cond_false,cond_false]
  by_cases k1:x.fKind=1
  · rw [beqT k1,cond_true,cond_true,Bool.true_or,cond_true,s5 _ _ _ _ _ [l,r,o,a,d] (by simp) (hsub _ (by simp)) (by simp; omega) (by omega) (by omega) (by omega) (by omega) (by omega) (by omega)]
  rw [beqF k1,cond_false,Bool.false_or]
  by_cases k2:x.fKind=2
  · rw [beqT k2,beqF (show ¬ x.fKind=6 by omega),beqF (show ¬ x.fKind=5 by omega),beqF (show ¬ x.fKind=7 by omega)]
    simp only [cond_true,cond_false]
    rw [s5 _ _ _ _ _ [l,r,o,a,d] (by simp) (hsub _ (by simp)) (by simp; omega) (by omega) (by omega) (by omega) (by omega) (by omega) (by omega)]
  rw [beqF k2,cond_false,cond_false]
  by_cases k6:x.fKind=6
  · rw [beqT k6,cond_true,cond_true,c0]
    cases hh:(o == 0) with
    | true=>rfl
    | false=>
      rw [cond_false,Bool.not_false,Bool.true_and,s5 _ _ _ _ _ [w,l,r,a,d] (by simp) (hsub _ (by simp)) (by simp; omega) (by omega) (by omega) (by omega) (by omega) (by omega) (by omega)]
  rw [beqF k6,cond_false,cond_false]
  by_cases k5:x.fKind=5
  · rw [beqT k5,cond_true,cond_true,s5 _ _ _ _ _ [w,l,r,d] (by simp) (hsub _ (by simp)) (by simp; omega) (by omega) (by omega) (by omega) (by omega) (by omega) (by omega)]
  rw [beqF k5,cond_false,cond_false]
  by_cases k7:x.fKind=7
  · rw [beqT k7,cond_true,cond_true,c0]
    cases hh:(d == 0) with
    | true=>rfl
    | false=>
      rw [cond_false,Bool.not_false,Bool.true_and,s5 _ _ _ _ _ [w,l,r,o,a] (by simp) (hsub _ (by simp)) (by simp; omega) (by omega) (by omega) (by omega) (by omega) (by omega) (by omega)]
  rw [beqF k7,cond_false,cond_false,s5 _ _ _ _ _ [w,l,r,o,a,d] (by simp) (hsub _ (by simp)) (by simp; omega) (by omega) (by omega) (by omega) (by omega) (by omega) (by omega)]
theorem ag1 {α:Type} {F:Nat→Int→Option Int} {l:List α} {p:α→Bool} (hl:l.length≤1048576) {m:Nat} (hm:2000000≤m)
    (hF:∀ (m i:Nat) (x:α),(hi:i < l.length)→l[i]=x→F (m+1) (i:Int)=bif p x then some (i:Int) else F m (IntKind.wrap .i64 ((i:Int)+1))) (hE:∀ (m:Nat),F (m+1) (l.length:Int)=some (-1)):
    ((F m 0).bind fun x1=>some (decide (x1≥0)))=some (l.any p):=by
  have key:∀ (q:List α) (i m:Nat),l.drop i=q→i≤l.length→l.length - i < m→((F m (i:Int)).bind fun x1=>some (decide (x1≥0)))=some (q.any p):=by
    intro q
    induction q with
    | nil=>
      intro i m hd hi hm
      obtain ⟨m,rfl⟩:∃ j,m=j+1:=⟨m - 1,by omega⟩
      have:i=l.length:=by
        have:=congrArg List.length hd
        simp at this; omega
      subst this
      rw [hE]; rfl
    | cons x q ih=>
      intro i m hd hi hm
      obtain ⟨m,rfl⟩:∃ j,m=j+1:=⟨m - 1,by omega⟩
      have hlt:i < l.length:=by
        have:=congrArg List.length hd
        simp at this; omega
      rw [List.drop_eq_getElem_cons hlt] at hd
      injection hd with h1 h2
      rw [hF m i x hlt h1,List.any_cons]
      cases p x with
      | true=>rw [cond_true,Option.bind_some,dT (by omega)]; rfl
      | false=>rw [cond_false,ado (by omega),ih (i+1) m h2 (by omega) (by omega)]; rfl
  exact key l 0 m rfl (by omega) (by omega)
theorem un_W {z:EX} (h:zS z):qb (za z):=W_un h
theorem ahr {a:Option (List EX)} (ha:wSl zS a) {n:Nat} (hn:2000200≤n):Zc n a=some ((sll a).any fun z=>!Qp (za z)):=by
  obtain ⟨n,rfl⟩:∃ j,n=j+2:=⟨n - 2,by omega⟩
  unfold Zc ZS
  rw [zD,zD]
  simp only [zK]
  exact ag1 (F:=fun m i=>zH n a (fun _=>some (-1)) m i) (l:=sll a) (p:=fun z=>!Qp (za z)) ha.1 (m:=n) (by omega) (fun m i z hi e=>by
    have hz:=ha.2 z (by rw [← e]; exact List.getElem_mem hi)
    show zH _ _ _ _ _=_
    rw [zH,dT (by omega),cond_true,Z6 hi e,Option.bind_some]
    have:aaq n (za z)=some (!Qp (za z)):=by
      obtain ⟨n,rfl⟩:∃ j,n=j+1:=⟨n - 1,by omega⟩
      unfold aaq
      rw [zD,aeA (un_W hz) (by omega)]; rfl
    rw [show aaq n (zj.mk ((za z).fKind) ((za z).fRel) ((za z).fCol) (zi.mk (((za z).fConst).fKind) (((za z).fConst).fInt) (((za z).fConst).fFloat) (((za z).fConst).fText)) ((za z).fKids))=_ from this,Option.bind_some]) (fun m=>by
    show zH _ _ _ _ _=_
    rw [zH,dF (by omega),cond_false])
noncomputable def badA (a:zr):Bool:=decide (a.fKind < 1) || decide (a.fKind > 4) || !Qp a.fOf
theorem aix {a:Option (List zr)} (ha:wSl aar a) {n:Nat} (hn:2000200≤n):Zg n a=some ((sll a).any badA):=by
  obtain ⟨n,rfl⟩:∃ j,n=j+2:=⟨n - 2,by omega⟩
  unfold Zg ZZ
  rw [zD,zD]
  simp only [zK]
  exact ag1 (F:=fun m i=>zJ n a (fun _=>some (-1)) m i) (l:=sll a) (p:=badA) ha.1 (m:=n) (by omega) (fun m i z hi e=>by
    have hz:=ha.2 z (by rw [← e]; exact List.getElem_mem hi)
    show zJ _ _ _ _ _=_
    rw [zJ,dT (by omega),cond_true,Z6 hi e,Option.bind_some]
    have:aa9 n z=some (badA z):=by
      obtain ⟨n,rfl⟩:∃ j,n=j+1:=⟨n - 1,by omega⟩
      unfold aa9 badA
      rw [zD,aeA hz.2 (by omega)]
      cases (decide (z.fKind < 1) || decide (z.fKind > 4)) <;> rfl
    rw [this,Option.bind_some]) (fun m=>by
    show zJ _ _ _ _ _=_
    rw [zJ,dF (by omega),cond_false])
def badK (k:zt):Bool:=decide (k.fOut < 0) || decide (k.fOut > 29)
theorem contains_keys {a:Option (List zt)} (ha:wSl acb a) {n:Nat} (hn:2000200≤n):Zf n a=some ((sll a).any badK):=by
  obtain ⟨n,rfl⟩:∃ j,n=j+2:=⟨n - 2,by omega⟩
  unfold Zf Z0
  rw [zD,zD]
  simp only [zK]
  exact ag1 (F:=fun m i=>zI n a (fun _=>some (-1)) m i) (l:=sll a) (p:=badK) ha.1 (m:=n) (by omega) (fun m i z hi e=>by
    show zI _ _ _ _ _=_
    rw [zI,dT (by omega),cond_true,Z6 hi e,Option.bind_some]
    have:ab3 n z=some (badK z):=by
      obtain ⟨n,rfl⟩:∃ j,n=j+1:=⟨n - 1,by omega⟩
      rfl
    rw [this,Option.bind_some]) (fun m=>by
    show zI _ _ _ _ _=_
    rw [zI,dF (by omega),cond_false])
noncomputable def okEs (a:Option (List EX)):Bool:=decide ((sll a).length≤60) && (sll a).all fun z=>Qp (za z)
noncomputable def ag7 (x:zk):Bool:=okEs x.fWhere && okEs x.fLeft && okEs x.fRight && okEs x.fOut && (decide ((sll x.fAggs).length≤60) && !(sll x.fAggs).any badA) && (decide ((sll x.fOrder).length≤60) && !(sll x.fOrder).any badK) && ((decide (x.fRel≥0) && decide (x.fRel < 12)) && ((x.fKind == 1) || (x.fRel == 0)))
theorem ah8 {x:zk} (hx:PW x) {n:Nat} (hn:2000300≤n):acd n x=some (ag7 x):=by
  obtain ⟨n,rfl⟩:∃ j,n=j+1:=⟨n - 1,by omega⟩
  obtain ⟨_,_,w3,w4,w5,w6,w7,w8⟩:=hx
  unfold acd
  rw [zD]
  simp only [zK]
  generalize hK:(fun (_:Unit)=>bif (decide (((sll x.fAggs).length:Int) > 60)) then some false else (Zg n x.fAggs).bind fun x5=>bif x5 then some false else bif (decide (((sll x.fOrder).length:Int) > 60)) then some false else (Zf n x.fOrder).bind fun x9=>bif x9 then some false else some (((decide (x.fRel≥0)) && (decide (x.fRel < 12))) && ((x.fKind == 1) || (x.fRel == 0))))=K
  have one:∀ (a:Option (List EX)) (rest:Option Bool),wSl zS a→(bif (decide (((sll a).length:Int) > 60)) then some false else (Zc n a).bind fun x19=>bif x19 then some false else rest)=bif okEs a then rest else some false:=fun a rest ha=>by
    unfold okEs
    by_cases h:(sll a).length≤60
    · rw [dF (by omega),cond_false,dT h,Bool.true_and,ahr ha (by omega),Option.bind_some]
      have:((sll a).any fun z=>!Qp (za z))=!((sll a).all fun z=>Qp (za z)):=by rw [List.not_all_eq_any_not]
      rw [this]
      cases (sll a).all fun z=>Qp (za z) <;> rfl
    · rw [dT (by omega),cond_true,dF h,Bool.false_and,cond_false]
  have hK0:K ()=some ((decide ((sll x.fAggs).length≤60) && !(sll x.fAggs).any badA) && (decide ((sll x.fOrder).length≤60) && !(sll x.fOrder).any badK) && ((decide (x.fRel≥0) && decide (x.fRel < 12)) && ((x.fKind == 1) || (x.fRel == 0)))):=by
    rw [← hK]
    simp only
    by_cases h:(sll x.fAggs).length≤60
    · rw [dF (by omega),cond_false,dT h,Bool.true_and,aix w7 (by omega),Option.bind_some]
      cases (sll x.fAggs).any badA with
      | true=>rfl
      | false=>
        rw [cond_false,Bool.not_false,Bool.true_and]
        by_cases h:(sll x.fOrder).length≤60
        · rw [dF (by omega),cond_false,dT h,Bool.true_and,contains_keys w8 (by omega),Option.bind_some]
          cases (sll x.fOrder).any badK <;> rfl
        · rw [dT (by omega),cond_true,dF h,Bool.false_and,Bool.false_and]
    · rw [dT (by omega),cond_true,dF h,Bool.false_and,Bool.false_and,Bool.false_and]
  obtain ⟨n',e'⟩:∃ j,n=j+5:=⟨n - 5,by omega⟩
  have step:∀ (m:Nat) (i:Int) (a:Option (List EX)),wSl zS a→i < 4→idx ([x.fWhere,x.fLeft,x.fRight,x.fOut]:List (Option (List zc))) i=some a→qm n x K (m+1) i=bif okEs a then qm n x K m (IntKind.wrap .i64 (i+1)) else some false:=fun m i a ha hi he=>by
    rw [qm,dT hi,cond_true,he,Option.bind_some]
    exact one a _ ha
  have s1:qm n x K n 0=qm n x K (n'+5) 0:=by rw [← e']
  rw [s1,step _ 0 _ w3 (by omega) rfl,step _ (IntKind.wrap .i64 (0+1)) _ w4 (by decide) rfl,step _ (IntKind.wrap .i64 ((IntKind.wrap .i64 (0+1))+1)) _ w5 (by decide) rfl,step _ (IntKind.wrap .i64 ((IntKind.wrap .i64 ((IntKind.wrap .i64 (0+1))+1))+1)) _ w6 (by decide) rfl]
  rw [show qm n x K (n'+1) (IntKind.wrap .i64 ((IntKind.wrap .i64 ((IntKind.wrap .i64 ((IntKind.wrap .i64 (0+1))+1))+1))+1))=K () from rfl,hK0]
  unfold ag7
  cases okEs x.fWhere <;> cases okEs x.fLeft <;> cases okEs x.fRight <;> cases okEs x.fOut <;> rfl
noncomputable def aiV (x:zk):Bool:=(abF x.fKind == ((sll x.fKids).length:Int)) && (acS x && ag7 x)
noncomputable def frmP:Nat→zk→Option Nat
  | 0,_=>none
  | r+1,x=>bif aiV x then (sumO (fun z=>frmP r (zd z)) (sll x.fKids)).map (·+1) else none
theorem amD {r:Nat} {x:zk} {c:Nat} (h:frmP r x=some c):1≤c:=by
  cases r with
  | zero=>cases h
  | succ r=>
    unfold frmP at h
    cases hn:aiV x with
    | false=>rw [hn] at h; cases h
    | true=>
      rw [hn,cond_true,Option.map_eq_some_iff] at h
      obtain ⟨a,_,rfl⟩:=h
      omega
theorem amf:∀ (r:Nat),r≤24→∀ (s:Nat) (x:zk),WD s x→∀ (left:Int),left≤40→-1≤left→∀ m n,r+1≤m→2000400+r≤n→
    qK m n x (25 - (r:Int)) left=some (aeb (frmP r x) left):=by
  intro r
  induction r with
  | zero=>
    intro hr s x hw left h4 h0 m n hm hn
    obtain ⟨m,rfl⟩:∃ j,m=j+1:=⟨m - 1,by omega⟩
    obtain ⟨n,rfl⟩:∃ j,n=j+1:=⟨n - 1,by omega⟩
    show QK (qK m) (n+1) x _ left=_
    unfold QK
    rw [zD,dT (by omega),cond_true]
    rfl
  | succ r ih=>
    intro hr s x hw left h4 h0 m n hm hn
    obtain ⟨m,rfl⟩:∃ j,m=j+1:=⟨m - 1,by omega⟩
    obtain ⟨n,rfl⟩:∃ j,n=j+1:=⟨n - 1,by omega⟩
    cases s with
    | zero=>exact hw.elim
    | succ s=>
    obtain ⟨hPW,hklen,hkW⟩:=hw
    show QK (qK m) (n+1) x _ left=_
    unfold QK
    rw [zD,dF (by omega),cond_false]
    by_cases hl:left < 1
    · rw [dT hl,cond_true]
      unfold aeb
      cases hf:frmP (r+1) x with
      | none=>rfl
      | some c=>
        have:=amD hf
        simp only
        rw [if_neg (by omega)]
    · rw [dF hl,cond_false,ajL _ (by omega),Option.bind_some]
      rw [frmP]
      unfold aiV
      by_cases hk:abF x.fKind=((sll x.fKids).length:Int)
      · rw [show (abF x.fKind != ((sll x.fKids).length:Int))=false by simp [hk],cond_false,show (abF x.fKind == ((sll x.fKids).length:Int))=true by simp [hk],Bool.true_and]
        rw [show zk.mk x.fKind x.fRel x.fWhere x.fLeft x.fRight x.fOut x.fAggs x.fOrder x.fKids=x from rfl,aik hPW (by omega),Option.bind_some]
        cases hfd:acS x with
        | false=>rfl
        | true=>
          rw [Bool.not_true,cond_false,Bool.true_and,ah8 hPW (by omega),Option.bind_some]
          cases hpd:ag7 x with
          | false=>rfl
          | true=>
          rw [Bool.not_true,cond_false,cond_true]
          show zK (fun k15=>QZ n (qK m) x (25 - ((r+1:Nat):Int)) k15 n (IntKind.wrap .i64 (left - 1)) 0) (fun (y9:Int)=>some y9)=_
          unfold zK
          rw [aa7 (by omega) (by omega)]
          have key:=aff (f:=fun z=>frmP r (zd z)) (K:=fun y9=>some y9) (F:=fun m' left' i=>QZ n (qK m) x (25 - ((r+1:Nat):Int)) (fun y9=>some y9) m' left' i) (ks:=sll x.fKids)
            (C:=fun z left'=>qK m n (zd z) (IntKind.wrap .i64 ((25 - ((r+1:Nat):Int))+1)) left')
            (fun m' left' i=>rfl) (B:=40) (by omega) (fun z hz left' h1 h2=>by
              show qK m n (zd z) (IntKind.wrap .i64 ((25 - ((r+1:Nat):Int))+1)) left'=_
              rw [aa7 (by omega) (by omega),show (25 - ((r+1:Nat):Int))+1=25 - (r:Int) by omega]
              exact ih (by omega) s _ (hkW z hz) left' h2 (by omega) m n (by omega) (by omega)) hklen (sll x.fKids) n [] (left - 1) rfl (by omega) (by omega) (by omega)
          refine Eq.trans key ?_
          cases hs:sumO (fun z=>frmP r (zd z)) (sll x.fKids) with
          | none=>rfl
          | some c=>
            simp only [Option.map_some,aeb]
            by_cases hc:(c:Int)≤left - 1
            · rw [if_pos hc,if_pos (by omega)]; congr 1; omega
            · rw [if_neg hc,if_neg (by omega)]
      · rw [show (abF x.fKind != ((sll x.fKids).length:Int))=true by simp [hk],cond_true,show (abF x.fKind == ((sll x.fKids).length:Int))=false by simp [hk],Bool.false_and]
        rfl
noncomputable def aeK (x:zk):Bool:=match frmP 24 x with
  | some c=>decide (c≤40)
  | none=>false
theorem ah3 {s:Nat} {x:zk} (hw:WD s x) {n:Nat} (hn:2000500≤n):abJ n x=some (aeK x):=by
  obtain ⟨n,rfl⟩:∃ j,n=j+1:=⟨n - 1,by omega⟩
  unfold abJ
  rw [zD]
  have:=amf 24 (by omega) s x hw 40 (by omega) (by omega) n n (by omega) (by omega)
  rw [show (25 - ((24:Nat):Int))=1 from rfl] at this
  rw [show ae9 n x 1 40=some _ from this,Option.bind_some]
  unfold aeK aeb
  cases frmP 24 x with
  | none=>rfl
  | some c=>exact congrArg some (decide_eq_decide.2 (by simp only; split <;> omega))
end Go.Pl
set_option maxRecDepth 100000
namespace Go.Pl
open Go Go.Ab
def seeF (x:zk) (a:Int):Int:=bif ((x.fKind == 1) && (decide (x.fRel≥0))) && (decide (x.fRel < 32)) then iOr .u32 a (iShl .u32 1 (IntKind.wrap .u64 x.fRel)) else a
noncomputable def aft:Nat→zk→Int→Int
  | 0,_,a=>a
  | s+1,x,a=>seeF x ((sll x.fKids).foldl (fun acc z=>aft s (zd z) acc) a)
theorem ahv (a:Int) (x:zk) {n:Nat} (hn:1≤n):QE n a x=some (seeF x a):=by
  obtain ⟨n,rfl⟩:∃ j,n=j+1:=⟨n - 1,by omega⟩
  unfold QE seeF
  rw [zD]
  cases hq:((x.fKind == 1) && (decide (x.fRel≥0))) && (decide (x.fRel < 32)) with
  | false=>rfl
  | true=>
    rw [Bool.and_eq_true,Bool.and_eq_true,decide_eq_true_eq,decide_eq_true_eq] at hq
    have:ckN (IntKind.wrap .u64 x.fRel)=some ():=by rw [anR (by omega) (by omega)]; unfold ckN; split <;> first | rfl | omega
    rw [cond_true,cond_true,this]; rfl
theorem afV {α S R:Type} {F:Nat→S→Int→Option R} {ks:List α} {f:S→α→S} {K:S→Option R}
    (hF:∀ (m i:Nat) (s:S) (z:α),(hi:i < ks.length)→ks[i]=z→F (m+1) s (i:Int)=F m (f s z) (IntKind.wrap .i64 ((i:Int)+1)))
    (hE:∀ (m:Nat) (s:S),F (m+1) s (ks.length:Int)=K s) (hks:ks.length≤1048576):
    ∀ (l p:List α) (m:Nat) (s:S),ks=p++l→l.length < m→F m s (p.length:Int)=K (l.foldl f s)
  | [],p,m,s,he,hm=>by
    obtain ⟨m,rfl⟩:∃ j,m=j+1:=⟨m - 1,by omega⟩
    have:ks.length=p.length:=by rw [he]; simp
    rw [← this,hE]; rfl
  | z :: l,p,m,s,he,hm=>by
    obtain ⟨m,rfl⟩:∃ j,m=j+1:=⟨m - 1,by omega⟩
    rw [List.length_cons] at hm
    have hlen:ks.length=p.length+(l.length+1):=by rw [he]; simp
    rw [hF m p.length s z (by omega) (by simp [he]),ado (by omega),show p.length+1=(p++[z]).length by simp,afV hF hE hks l (p++[z]) m _ (by rw [he]; simp) (by omega)]
    rfl
theorem alu:∀ (s:Nat) (x:zk),WD s x→∀ (k m n:Nat) (a:Int),s≤k→s≤m→2000000+s≤n→Z7 m n a x=some (aft k x a)
  | 0,x,h,_,_,_,_,_,_,_=>h.elim
  | s+1,x,h,k,m,n,a,hk,hm,hn=>by
    obtain ⟨k,rfl⟩:∃ j,k=j+1:=⟨k - 1,by omega⟩
    obtain ⟨m,rfl⟩:∃ j,m=j+1:=⟨m - 1,by omega⟩
    obtain ⟨n,rfl⟩:∃ j,n=j+1:=⟨n - 1,by omega⟩
    obtain ⟨_,h1,h2⟩:=h
    show qg (Z7 m) (n+1) a x=_
    unfold qg
    rw [zD,aft]
    unfold zK
    refine Eq.trans (afV (F:=fun m' acc i=>Zl n (Z7 m) x (fun (y1:Int)=>(QE n y1 x).bind fun x6=>some x6) m' acc i) (ks:=sll x.fKids) (f:=fun acc z=>aft k (zd z) acc) (K:=fun (y1:Int)=>(QE n y1 x).bind fun x6=>some x6) (fun m' i acc z hi e=>?_) (fun m' acc=>?_) h1 (sll x.fKids) [] n a rfl (by omega)) ?_
    · show Zl _ _ _ _ _ _ _=_
      rw [Zl,dT (by omega),cond_true,Z6 hi e,Option.bind_some,alu s (zd z) (h2 z (by rw [← e]; exact List.getElem_mem hi)) k m n acc (by omega) (by omega) (by omega),Option.bind_some]
    · show Zl _ _ _ _ _ _ _=_
      rw [Zl,dF (by omega),cond_false]
    · show (QE n _ x).bind _=_
      rw [ahv _ _ (by omega)]; rfl
noncomputable def ahY (x:zk):Int:=aft 131073 x 0
theorem ajB {s:Nat} {x:zk} (h:WD s x) (hs:s≤131073) {n:Nat} (hn:2000010+s≤n):adb n x=some (ahY x):=by
  obtain ⟨n,rfl⟩:∃ j,n=j+1:=⟨n - 1,by omega⟩
  unfold adb ahY
  rw [zD,show Q2 n 0 x=_ from alu s x h 131073 n n 0 hs (by omega) (by omega)]
  rfl
end Go.Pl
set_option maxRecDepth 100000
namespace Go.Pl
open Go Go.Ab
theorem anE (x:BitVec 32):IntKind.wrap .u32 (x.toNat:Int)=(x.toNat:Int):=by
  have:=x.isLt
  simp [IntKind.wrap,IntKind.signed,IntKind.bits]
  omega
theorem agj (r S:Int):iOr .u32 r S=((BitVec.ofInt 32 r ||| BitVec.ofInt 32 S).toNat:Int):=anE _
theorem anN (x:BitVec 32):BitVec.ofInt 32 (x.toNat:Int)=x:=by simp
theorem anq {S:Int} (h:wI .u32 S):((BitVec.ofInt 32 S).toNat:Int)=S:=by
  have h1:0≤S:=h.1
  have h2:S≤4294967295:=h.2
  rw [BitVec.toNat_ofInt]; omega
theorem wIor (a b:Int):wI .u32 (iOr .u32 a b):=by
  rw [agj]
  generalize BitVec.ofInt 32 a ||| BitVec.ofInt 32 b=x
  have h:=x.isLt
  exact ⟨by show (0:Int)≤_; omega,by show _≤(4294967295:Int); omega⟩
theorem anz (x:Int):wI .u32 (IntKind.wrap .u32 x):=by
  constructor
  · show (0:Int)≤_
    simp only [IntKind.wrap,IntKind.signed,IntKind.bits]; simp; omega
  · show _≤(4294967295:Int)
    simp only [IntKind.wrap,IntKind.signed,IntKind.bits]; simp; omega
theorem aiD (k:Int) {n:Nat} (hn:1≤n):acm n k=some (acy k):=by
  obtain ⟨n,rfl⟩:∃ j,n=j+1:=⟨n - 1,by omega⟩
  unfold acm
  rw [zD]
  by_cases h:k < 1∨k > 13
  · have:(decide (k < 1) || decide (k > 13))=true:=by
      rcases h with h | h
      · rw [dT h,Bool.true_or]
      · rw [dT (p:=k > 13) h,Bool.or_true]
    rw [this,cond_true]
    unfold acy
    rw [if_neg (by omega),if_neg (by omega),if_neg (by omega)]
  · rw [dF (by omega),dF (by omega),Bool.or_self,cond_false,an0 (by omega),Option.bind_some]
    have:k=1∨k=2∨k=3∨k=4∨k=5∨k=6∨k=7∨k=8∨k=9∨k=10∨k=11∨k=12∨k=13:=by omega
    rcases this with rfl | rfl | rfl | rfl | rfl | rfl | rfl | rfl | rfl | rfl | rfl | rfl | rfl <;> rfl
def aay (o:Option Nat):Int:=match o with
  | some c=>if c≤400 then (c:Int) else 401
  | none=>401
theorem ah0 {α:Type} {f:α→Option Nat} {F:Nat→Int→Int→Option Int} {ks:List α} {C:α→Option Int}
    (hF:∀ m acc i,F (m+1) acc i=bif decide (i < (ks.length:Int)) then (idx ks i).bind fun z=>(C z).bind fun r=>bif decide (IntKind.wrap .i64 (acc+r) > 400) then some 401 else F m (IntKind.wrap .i64 (acc+r)) (IntKind.wrap .i64 (i+1)) else some acc)
    (hC:∀ z,z∈ks→C z=some (aay (f z))) (hks:ks.length≤1048576):
    ∀ (l:List α) (m:Nat) (p:List α) (acc:Nat),ks=p++l→l.length < m→acc≤400→
      F m (acc:Int) (p.length:Int)=some (aay ((sumO f l).map (·+acc)))
  | [],m,p,acc,he,hm,h0=>by
    obtain ⟨m,rfl⟩:∃ j,m=j+1:=⟨m - 1,by omega⟩
    rw [hF,dF (by rw [he]; simp),cond_false]
    simp only [sumO,Option.map_some,aay,Nat.zero_add]
    rw [if_pos h0]
  | z :: l,m,p,acc,he,hm,h0=>by
    obtain ⟨m,rfl⟩:∃ j,m=j+1:=⟨m - 1,by omega⟩
    rw [List.length_cons] at hm
    have hz:z∈ks:=by rw [he]; simp
    have hix:idx ks (p.length:Int)=some z:=by rw [he,aaK]; simp
    rw [hF,dT (by rw [he]; simp; omega),cond_true,hix,Option.bind_some,hC z hz,Option.bind_some]
    have hlen:ks.length=p.length+(l.length+1):=by rw [he]; simp
    rw [ado (by omega)]
    have e:p.length+1=(p++[z]).length:=by simp
    obtain ⟨v,hv⟩:∃ v,v=aay (f z):=⟨_,rfl⟩
    rw [← hv]
    have bad:∀ o:Option Nat,(∀ c,o=some c→400 < c)→some (401:Int)=some (aay o):=fun o ho=>by
      cases o with
      | none=>rfl
      | some c=>have:=ho c rfl; simp only [aay]; rw [if_neg (by omega)]
    cases hf:f z with
    | none=>
      rw [hf] at hv
      rw [show v=401 from hv,aa7 (by omega) (by omega),dT (by omega),cond_true]
      unfold sumO
      rw [hf]; rfl
    | some a=>
      rw [hf] at hv
      simp only [aay] at hv
      unfold sumO
      rw [hf]
      by_cases ha:a≤400
      · rw [if_pos ha] at hv
        subst hv
        rw [aa7 (by omega) (by omega)]
        by_cases hs:acc+a≤400
        · rw [dF (by omega),cond_false,e,show (acc:Int)+(a:Int)=((acc+a:Nat):Int) by omega,ah0 hF hC hks l m (p++[z]) (acc+a) (by rw [he]; simp) (by omega) hs]
          cases hso:sumO f l with
          | none=>rfl
          | some b=>
            simp only [Option.map_some]
            rw [show b+(acc+a)=a+b+acc by omega]
        · rw [dT (by omega),cond_true]
          refine bad _ fun c hc=>?_
          cases hso:sumO f l with
          | none=>rw [hso] at hc; cases hc
          | some b=>rw [hso] at hc; simp only [Option.map_some,Option.some.injEq] at hc; omega
      · rw [if_neg ha] at hv
        subst hv
        rw [aa7 (by omega) (by omega),dT (by omega),cond_true]
        refine bad _ fun c hc=>?_
        cases hso:sumO f l with
        | none=>rw [hso] at hc; cases hc
        | some b=>rw [hso] at hc; simp only [Option.map_some,Option.some.injEq] at hc; omega
theorem akI:∀ (r:Nat),r≤24→∀ (x:zj),qb x→∀ m n,r+1≤m→2000010+r≤n→
    ql m n x (25 - (r:Int))=some (aay (frmE r x)):=by
  intro r
  induction r with
  | zero=>
    intro hr x hw m n hm hn
    obtain ⟨m,rfl⟩:∃ j,m=j+1:=⟨m - 1,by omega⟩
    obtain ⟨n,rfl⟩:∃ j,n=j+1:=⟨n - 1,by omega⟩
    show Qk (ql m) (n+1) x _=_
    unfold Qk
    rw [zD]
    simp only [zK]
    rw [dT (by omega),cond_true]
    rfl
  | succ r ih=>
    intro hr x hw m n hm hn
    obtain ⟨m,rfl⟩:∃ j,m=j+1:=⟨m - 1,by omega⟩
    obtain ⟨n,rfl⟩:∃ j,n=j+1:=⟨n - 1,by omega⟩
    show Qk (ql m) (n+1) x _=_
    unfold Qk
    rw [zD]
    simp only [zK]
    rw [dF (by omega),cond_false,aiD _ (by omega),Option.bind_some,frmE]
    unfold alG
    by_cases hk:acy x.fKind=((sll x.fKids).length:Int)
    · rw [show (acy x.fKind != ((sll x.fKids).length:Int))=false by simp [hk],cond_false,show (acy x.fKind == ((sll x.fKids).length:Int))=true by simp [hk],Bool.true_and]
      have key:=ah0 (f:=fun z=>frmE r (za z)) (F:=fun m' acc i=>Qt n (ql m) x (25 - ((r+1:Nat):Int)) (fun y9=>some y9) m' acc i) (ks:=sll x.fKids)
            (C:=fun z=>ql m n (za z) (IntKind.wrap .i64 ((25 - ((r+1:Nat):Int))+1)))
            (fun m' acc i=>rfl) (fun z hz=>by
              show ql m n (za z) (IntKind.wrap .i64 ((25 - ((r+1:Nat):Int))+1))=_
              rw [aa7 (by omega) (by omega),show (25 - ((r+1:Nat):Int))+1=25 - (r:Int) by omega]
              exact ih (by omega) _ (alw hw hz) m n (by omega) (by omega)) (ac3 hw) (sll x.fKids) n [] 1 rfl (by have:=ac3 hw; omega) (by omega)
      have tail:((aal n x.fConst).bind fun x3=>bif ((!x3) || ((x.fKind != 2) && (x.fConst.fKind != 0))) then some 401 else Qt n (ql m) x (25 - ((r+1:Nat):Int)) (fun y9=>some y9) n 1 0)=some (aay (bif abb x.fConst && ((x.fKind == 2) || (x.fConst.fKind == 0)) then (sumO (fun z=>frmE r (za z)) (sll x.fKids)).map (·+1) else none)):=by
        rw [adY (ajG hw) (by omega),Option.bind_some]
        have hb:((!abb x.fConst) || ((x.fKind != 2) && (x.fConst.fKind != 0)))=!(abb x.fConst && ((x.fKind == 2) || (x.fConst.fKind == 0))):=by
          rw [Bool.not_and,Bool.not_or]; rfl
        rw [hb]
        cases (abb x.fConst && ((x.fKind == 2) || (x.fConst.fKind == 0))) with
        | false=>rfl
        | true=>exact key
      unfold afK inE
      by_cases h1:x.fRel < 0
      · rw [dT h1,cond_true,dF (p:=x.fRel≥0) (by omega)]; simp [aay]
      rw [dF h1,cond_false,dT (p:=x.fRel≥0) (by omega),Bool.true_and]
      by_cases h2:x.fRel > 31
      · rw [dT h2,cond_true,dF (p:=x.fRel≤31) (by omega)]; simp [aay]
      rw [dF h2,cond_false,dT (p:=x.fRel≤31) (by omega),Bool.and_true]
      by_cases h3:x.fCol < 0
      · rw [dT h3,cond_true,dF (p:=x.fCol≥0) (by omega)]; simp [aay]
      rw [dF h3,cond_false,dT (p:=x.fCol≥0) (by omega),Bool.true_and]
      by_cases h4:x.fCol > 31
      · rw [dT h4,cond_true,dF (p:=x.fCol≤31) (by omega)]; simp [aay]
      rw [dF h4,cond_false,dT (p:=x.fCol≤31) (by omega),Bool.and_true]
      cases hk1:(x.fKind != 1) with
      | false=>
        rw [cond_false,Bool.false_and,Bool.not_false,Bool.true_and]
        exact tail
      | true=>
        rw [cond_true,Bool.true_and]
        cases (x.fRel != 0) with
        | true=>simp [aay]
        | false=>
          cases (x.fCol != 0) with
          | true=>simp [aay]
          | false=>exact tail
    · rw [show (acy x.fKind != ((sll x.fKids).length:Int))=true by simp [hk],cond_true,show (acy x.fKind == ((sll x.fKids).length:Int))=false by simp [hk],Bool.false_and]
      rfl
theorem adJ {x:zj} (hw:qb x) {n:Nat} (hn:2000100≤n):QJ n x=some (Qp x):=by
  obtain ⟨n,rfl⟩:∃ j,n=j+1:=⟨n - 1,by omega⟩
  unfold QJ
  rw [zD]
  have:=akI 24 (by omega) x hw n n (by omega) (by omega)
  rw [show (25 - ((24:Nat):Int))=1 from rfl] at this
  rw [show aeC n x 1=some _ from this,Option.bind_some]
  unfold Qp aay
  cases frmE 24 x with
  | none=>rfl
  | some c=>exact congrArg some (decide_eq_decide.2 (by simp only; split <;> omega))
end Go.Pl
