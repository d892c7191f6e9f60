import Derived.Test.YtejbcaheoloahaaGreatPL
import Derived.Test.YtejbcaheoloahaaGreatPA
import Derived.Test.YtejbcaheoloahaaGreatAbFlt
import Derived.Sort.Statements
import Derived.Test.YtejbcaheoloahaaGreatPC
set_option linter.all false
namespace Go.Pl
open Go Go.Ab
theorem awf {f:Nat}(h:wF .f64 f):f<2^64:=by
 unfold wF at h
 simpa [Lit.wf] using h
def posZ (f:Nat):Bool:=isZero f&&!arN f
def empS (s:ByteArray):Bool:=sEq s ByteArray.empty
def acf (v:zn):Bool:=
 if v.A=0 then v.K==0&&(posZ v.I&&empS v.N)
 else if v.A=1 then (v.K==0||v.K==1)&&(posZ v.I&&empS v.N)
 else if v.A=2 then posZ v.I&&empS v.N
 else if v.A=3 then v.K==0&&empS v.N
 else if v.A=4 then v.K==0&&(posZ v.I&&decide ((v.N.size:Int)≤64))
 else false
theorem al8 (f:Nat) {n:Nat}(h:1≤n):afy n f=some (arN f):=by
 obtain ⟨n,rfl⟩:∃ k,n=k+1:=⟨n-1,hO⟩
 rfl
theorem as0 {α:Type}{a b:Int}{x y:α}:(bif a==b then x else y)=if a=b then x else y:=by
 by_cases h:a=b
 ·simp [h]
 have:(a==b)=false:=by simpa using h
 rw [this];simp [h]
def vR (y:Bool) (v:zn):Bool:=
 if v.A=0 then v.K==0&&(y&&empS v.N)
 else if v.A=1 then (v.K==0||v.K==1)&&(y&&empS v.N)
 else if v.A=2 then y&&empS v.N
 else if v.A=3 then v.K==0&&empS v.N
 else if v.A=4 then v.K==0&&(y&&decide ((v.N.size:Int)≤64))
 else false
theorem avg (y:Bool) (v:zn):(bif (v.A==0) then some (((v.K==0)&&y)&&(sEq v.N ByteArray.empty)) else bif (v.A==1) then bif ((v.K !=0)&&(v.K !=1)) then some false else some (y&&(sEq v.N ByteArray.empty)) else bif (v.A==2) then some (y&&(sEq v.N ByteArray.empty)) else bif (v.A==3) then some ((v.K==0)&&(sEq v.N ByteArray.empty)) else bif (v.A==4) then some (((v.K==0)&&y)&&(decide ((v.N.size:Int)≤64))) else some false)=some (vR y v):=by
 simp only [as0]
 unfold vR
 split
 ·simp [empS,Bool.and_assoc]
 split
 ·unfold empS
  by_cases h0:v.K=0
  ·simp [h0]
  by_cases h1:v.K=1
  ·simp [h1]
  have e0:(v.K==0)=false:=by simpa using h0
  have e1:(v.K==1)=false:=by simpa using h1
  have e2:(v.K !=0)=true:=by simp [bne,e0]
  have e3:(v.K !=1)=true:=by simp [bne,e1]
  rw [e0,e1,e2,e3];simp
 split
 ·rfl
 split
 ·rfl
 split
 ·simp [Bool.and_assoc]
 rfl
theorem aiP (v:zn) {n:Nat}(h:2≤n):adJ n v=some (acf v):=by
 obtain ⟨n,rfl⟩:∃ k,n=k+1:=⟨n-1,hO⟩
 unfold adJ
 simp only [zq,zB]
 rw [al8 _ hO]
 simp only [hZ]
 rw [avg,avg]
 show _=some (vR (posZ v.I) v)
 unfold posZ isZero
 cases FloatKind.f64.format.order v.I 0==some .eq<;>rfl
theorem aoE {f:Nat}(hf:wF .f64 f) {n:Nat}(h:1≤n):acm n f=some (posZ f):=by
 obtain ⟨n,rfl⟩:∃ k,n=k+1:=⟨n-1,hO⟩
 unfold acm
 simp only [zq]
 unfold posZ
 cases hz:isZero f with
 |false=>
  have:((FloatKind.format .f64).order f 0==some .eq)=false:=hz
  rw [this];rfl
 |true=>
  have:((FloatKind.format .f64).order f 0==some .eq)=true:=hz
  rw [this]
  obtain ⟨r,h1,h2⟩:=inv_zero (awf hf) hz
  rw [jb,h1,hZ,h2]
  simp
theorem aij {v:zn}(hv:qK v) {n:Nat}(h:2≤n):acb n v=some (acf v):=by
 obtain ⟨n,rfl⟩:∃ k,n=k+1:=⟨n-1,hO⟩
 unfold acb
 simp only [zq]
 rw [aoE hv.2.2.1 hO]
 simp only [hZ,as0]
 unfold acf empS
 split
 ·split<;>simp [*]
 split
 ·cases h0:(v.K==0||v.K==1)<;>simp
 split
 ·rfl
 split
 ·rfl
 split
 ·split<;>simp [*]
 rfl
abbrev zeroV:zn:=zn.mk 0 0 0 ByteArray.empty
theorem apU {x:Nat}(h:Qh x=true) (y:Nat):FloatKind.f64.format.order x y=none∧FloatKind.f64.format.order y x=none:=by
 unfold Qh at h
 simp only [Ieee.Format.order] at h ⊢
 cases hx:FloatKind.f64.format.read x with
 |nan=>cases FloatKind.f64.format.read y<;>exact ⟨rfl,rfl⟩
 |infinity s=>rw [hx] at h;exfalso;revert h;cases s<;>simp [Ieee.Datum.order]
 |number s m e=>rw [hx] at h;exfalso;revert h;simp [Ieee.Datum.order]
def fLt (x y:Nat):Bool:=FloatKind.f64.format.order x y==some .lt
def fGt (x y:Nat):Bool:=FloatKind.f64.format.order x y==some .gt
def fC (x y:Nat):Int:=
 bif Qh x&&Qh y then 0 else bif Qh x then 1 else bif Qh y then -1 else bif fLt x y then -1 else bif fGt x y then 1 else 0
theorem amk (x y:Nat) {n:Nat}(h:2≤n):aft n x y=some (fC x y):=by
 obtain ⟨n,rfl⟩:∃ k,n=k+2:=⟨n-2,hO⟩
 show (bif (Qh x&&Qh y) then some 0 else bif Qh x then some 1 else bif Qh y then some (-1) else bif fLt x y then some (-1) else bif fGt x y then some 1 else some 0)=some (fC x y)
 unfold fC
 cases Qh x<;>cases Qh y<;>cases fLt x y<;>cases fGt x y<;>rfl
theorem ar8 {x y:Nat}(hx:Qh x=true):fC x y=bif Qh y then 0 else 1:=by
 unfold fC;rw [hx];cases Qh y<;>rfl
theorem aqm {x y:Nat}(hy:Qh y=true):fC x y=bif Qh x then 0 else -1:=by
 unfold fC;rw [hy];cases Qh x<;>rfl
def fNan (f:Nat):Nat:=bif Qh f then 9221120237041090561 else f
theorem ag8 (f:Nat):Qh (fNan f)=Qh f:=by
 unfold fNan
 cases h:Qh f with
 |true=>exact (show Qh 9221120237041090561=true by decide)
 |false=>exact h
theorem av9 (x y:Nat):fC (fNan x) (fNan y)=fC x y:=by
 cases hx:Qh x with
 |true=>rw [ar8 (by rw [ag8,hx]),ar8 hx,ag8]
 |false=>
  cases hy:Qh y with
  |true=>rw [aqm (by rw [ag8,hy]),aqm hy,ag8]
  |false=>unfold fNan;rw [hx,hy];rfl
theorem awG (x y:Nat):(bif (fLt x y||(!Qh x&&Qh y)) then (-1:Int) else bif (fGt x y||(Qh x&&!Qh y)) then 1 else 0)=fC x y:=by
 cases hx:Qh x with
 |true=>
  rw [ar8 hx]
  unfold fLt fGt
  rw [(apU hx y).1]
  cases Qh y<;>rfl
 |false=>
  cases hy:Qh y with
  |true=>
   rw [aqm hy,hx]
   unfold fLt fGt
   rw [(apU hy x).2]
   rfl
  |false=>
   unfold fC;rw [hx,hy];simp
def abu (v:zn):zn:=
 bif !acf v then zeroV else bif (v.A==3)&&isZero v.I then zn.mk 3 0 0 ByteArray.empty else v
def iC (a b:Int):Int:=if a<b then -1 else if a>b then 1 else 0
def sC (a b:ByteArray):Int:=bif sLt a b then -1 else bif !(sLt a b||sEq a b) then 1 else 0
def vC (p q:zn):Int:=if p.A≠q.A then iC p.A q.A else if p.A=3 then fC p.I q.I else if p.A=4 then sC p.N q.N else iC p.K q.K
def vCmp (a b:zn):Int:=vC (abu a) (abu b)
theorem aiG {v:zn}(hv:qK v) {n:Nat}(h:3≤n):adA n v=some (abu v):=by
 obtain ⟨n,rfl⟩:∃ k,n=k+1:=⟨n-1,hO⟩
 unfold adA
 rw [zq,aij hv hO,hZ]
 unfold abu isZero
 cases acf v
 ·rfl
 cases (v.A==3)&&((FloatKind.format .f64).order v.I 0==some .eq)<;>rfl
def vNan (p:zn):zn:=bif p.A==3 then zn.mk p.A p.K (fNan p.I) p.N else p
theorem aw3 {v:zn}(h:acf v=true) (hk:v.A=3):v.K=0∧v.N=ByteArray.empty:=by
 unfold acf at h
 rw [hk] at h
 simp at h
 exact ⟨h.1,aqh.1 h.2⟩
theorem ail {v:zn}(hv:qK v) {n:Nat}(h:3≤n):adE n v=some (vNan (abu v)):=by
 obtain ⟨n,rfl⟩:∃ k,n=k+2:=⟨n-2,hO⟩
 unfold adE
 rw [zq,aiP v hO,hZ]
 unfold abu
 cases hr:acf v with
 |false=>rfl
 |true=>
  simp only [Bool.not_true,ja,zB]
  cases hk:v.A==3 with
  |false=>
   simp only [ja,Bool.false_and]
   unfold vNan;rw [hk];rfl
  |true=>
   have h3:v.A=3:=by simpa using hk
   obtain ⟨h1,h2⟩:=aw3 hr h3
   simp only [jb,jk]
   have e0:aev (n+1) v.I=some (Qh v.I):=rfl
   rw [e0,hZ]
   have e1:((FloatKind.format .f64).order v.I 0==some .eq)=isZero v.I:=rfl
   rw [e1]
   cases hn:Qh v.I with
   |true=>
    rw [apX (awf hv.2.2.1) hn]
    simp only [jb,ja]
    unfold vNan
    rw [hk,jb]
    unfold fNan
    rw [hn];rfl
   |false=>
    cases hz:isZero v.I with
    |true=>
     simp only [jb,ja]
     rw [h3,h1,h2]
     rfl
    |false=>
     simp only [ja]
     unfold vNan fNan
     rw [hk,hn];rfl
theorem auc (p:zn):(vNan p).A=p.A:=by unfold vNan;cases p.A==3<;>rfl
theorem auT (p:zn):(vNan p).K=p.K:=by unfold vNan;cases p.A==3<;>rfl
theorem atz (p:zn):(vNan p).N=p.N:=by unfold vNan;cases p.A==3<;>rfl
theorem ana {p:zn}(h:p.A=3):(vNan p).I=fNan p.I:=by unfold vNan;rw [h];rfl
theorem asf (a b:Int) {n:Nat}(h:2≤n):abC n a b=some (iC a b):=by
 obtain ⟨n,rfl⟩:∃ k,n=k+2:=⟨n-2,hO⟩
 unfold abC ac0
 simp only [zq,hZ,bne_self_eq_false,ja]
 unfold iC
 by_cases h1:a<b
 ·simp [h1]
 by_cases h2:b<a<;>simp [h1,h2]
theorem aqq (a b:Int) {n:Nat}(h:2≤n):aaI n a b=some (iC a b):=by
 obtain ⟨n,rfl⟩:∃ k,n=k+2:=⟨n-2,hO⟩
 unfold aaI abM
 simp only [zq,hZ,bne_self_eq_false,ja]
 unfold iC
 by_cases h1:a<b
 ·simp [h1]
 by_cases h2:b<a<;>simp [h1,h2]
theorem aoI (a b:ByteArray) {n:Nat}(h:2≤n):aam n a b=some (sC a b):=by
 obtain ⟨n,rfl⟩:∃ k,n=k+2:=⟨n-2,hO⟩
 unfold aam aa5
 simp only [zq,hZ,avw,Bool.not_true,ja]
 unfold sC
 cases sLt a b<;>cases sEq a b<;>rfl
theorem kne {α:Type}{a b:Int}{x y:α}:(bif a !=b then x else y)=if a≠b then x else y:=by
 by_cases h:a=b
 ·simp [h]
 have:(a !=b)=true:=by simpa using h
 rw [this];simp [h]
theorem avt {α:Type}{p:Prop}[Decidable p] {x y:α}:(if p then some x else some y)=some (if p then x else y):=by split<;>rfl
theorem aqE {a b:zn}(ha:qK a) (hb:qK b) {n:Nat}(h:4≤n):agM n a b=some (vCmp a b):=by
 obtain ⟨n,rfl⟩:∃ k,n=k+1:=⟨n-1,hO⟩
 unfold agM
 rw [zq,ail ha hO,hZ,ail hb hO,hZ,asf _ _ hO,amk _ _ hO,aoI _ _ hO,aqq _ _ hO]
 simp only [hZ,kne,as0,avt,auc,auT,atz]
 unfold vCmp vC
 congr 1
 by_cases hk:(abu a).A=(abu b).A
 ·have hk':¬ ((abu a).A≠(abu b).A):=fun c=>c hk
  rw [if_neg hk',if_neg hk']
  by_cases h3:(abu a).A=3
  ·rw [if_pos h3,if_pos h3,ana h3,ana (hk▸h3),av9]
  rw [if_neg h3,if_neg h3]
 rw [if_pos hk,if_pos hk]
theorem ap2 {a b:zn}(ha:qK a) (hb:qK b) {n:Nat}(h:4≤n):agN n a b=some (vCmp a b):=by
 obtain ⟨n,rfl⟩:∃ k,n=k+1:=⟨n-1,hO⟩
 unfold agN
 rw [zq,aiG ha hO,hZ,aiG hb hO,hZ]
 unfold vCmp
 generalize abu a=p
 generalize abu b=q
 unfold vC
 simp only [kne,as0,zB]
 by_cases hk:p.A=q.A
 ·have hk':¬ (p.A≠q.A):=fun c=>c hk
  rw [if_neg hk',if_neg hk']
  by_cases h3:p.A=3
  ·rw [if_pos h3,if_pos h3,if_neg hO,←awG]
   have e1:(FloatKind.f64.format.order p.I p.I !=some .eq)=Qh p.I:=rfl
   have e2:(FloatKind.f64.format.order q.I q.I !=some .eq)=Qh q.I:=rfl
   have e3:(FloatKind.f64.format.order p.I q.I==some .lt)=fLt p.I q.I:=rfl
   have e4:(FloatKind.f64.format.order p.I q.I==some .gt)=fGt p.I q.I:=rfl
   rw [e1,e2,e3,e4]
   cases fLt p.I q.I<;>cases fGt p.I q.I<;>cases Qh p.I<;>cases Qh q.I<;>rfl
  rw [if_neg h3,if_neg h3]
  by_cases h4:p.A=4
  ·rw [if_pos h4,if_pos h4]
   unfold sC
   cases sLt p.N q.N<;>cases sEq p.N q.N<;>rfl
  rw [if_neg h4,if_neg h4]
  unfold iC
  by_cases h1:p.K<q.K
  ·simp [h1]
  by_cases h2:q.K<p.K<;>simp [h1,h2]
 rw [if_pos hk,if_pos hk]
 unfold iC
 by_cases h1:p.A<q.A
 ·simp [h1]
 have h2:p.A>q.A:=by omega
 simp [h1,h2]
structure Ord3 {α:Type}(c:α→α→Int):Prop where
 anti:∀ x y,c y x=-c x y
 trans:∀ x y z,c x y≤0→c y z≤0→c x z≤0
theorem Ord3.self {α:Type}{c:α→α→Int}(h:Ord3 c) (x:α):c x x=0:=by have:=h.anti x x;omega
theorem Ord3.left {α:Type}{c:α→α→Int}(h:Ord3 c) {x y z:α}(e:c x y=0):(c x z≤0↔c y z≤0)∧(0≤c x z↔0≤c y z):=by
 have a1:=h.anti x y
 have a2:=h.anti x z
 have a3:=h.anti y z
 refine ⟨⟨fun g=>h.trans y x z hO g,fun g=>h.trans x y z hO g⟩,⟨fun g=>?_,fun g=>?_⟩⟩
 ·have:=h.trans z x y hO hO;omega
 have:=h.trans z y x hO hO;omega
theorem arS:Ord3 iC where
 anti x y:=by
  unfold iC
  repeat' split
  all_goals omega
 trans x y z:=by
  unfold iC
  intro h1 h2
  repeat' split
  all_goals (repeat' split at h1)<;>(repeat' split at h2)<;>omega
theorem am5:∀ (l:List UInt8),Op.bytesLess l l=false
 |[]=>rfl
 |a::l=>by
  have h:¬ (a<a):=fun h=>absurd (UInt8.lt_iff_toNat_lt.1 h) hO
  simp [Op.bytesLess,am5 l,h]
theorem ano:∀ (a b:List UInt8),(Op.bytesLess a b=true∧Op.bytesLess b a=false∧a≠b)∨(Op.bytesLess a b=false∧Op.bytesLess b a=true∧a≠b)∨a=b
 |[],[]=>.inr (.inr rfl)
 |[],y::b=>.inl ⟨rfl,rfl,by simp⟩
 |x::a,[]=>.inr (.inl ⟨rfl,rfl,by simp⟩)
 |x::a,y::b=>by
  simp only [Op.bytesLess,Bool.or_eq_true,jj,decide_eq_true_eq,Bool.or_eq_false_iff,decide_eq_false_iff_not,Bool.and_eq_false_iff,beq_iff_eq,beq_eq_false_iff_ne,UInt8.lt_iff_toNat_lt]
  rcases Nat.lt_trichotomy x.toNat y.toNat with h|h|h
  ·exact .inl ⟨.inl h,⟨hO,.inl fun e=>by rw [e] at h;omega⟩,fun e=>by cases e;omega⟩
  ·have e:x=y:=UInt8.toNat_inj.1 h
   subst e
   rcases ano a b with ⟨h1,h2,h3⟩|⟨h1,h2,h3⟩|h1
   ·exact .inl ⟨.inr ⟨rfl,h1⟩,⟨hO,.inr h2⟩,fun e=>h3 (by cases e;rfl)⟩
   ·exact .inr (.inl ⟨⟨hO,.inr h1⟩,.inr ⟨rfl,h2⟩,fun e=>h3 (by cases e;rfl)⟩)
   exact .inr (.inr (by rw [h1]))
  exact .inr (.inl ⟨⟨hO,.inl fun e=>by rw [e] at h;omega⟩,.inl h,fun e=>by cases e;omega⟩)
theorem anq:∀ (a b d:List UInt8),Op.bytesLess a b=true→Op.bytesLess b d=true→Op.bytesLess a d=true
 |_,[],_,h,_=>by simp [Op.bytesLess] at h
 |_,_::_,[],_,h=>by simp [Op.bytesLess] at h
 |[],_::_,_::_,_,_=>rfl
 |x::a,y::b,z::d,h1,h2=>by
  simp only [Op.bytesLess,Bool.or_eq_true,jj,decide_eq_true_eq,beq_iff_eq,UInt8.lt_iff_toNat_lt] at h1 h2 ⊢
  rcases h1 with h1|⟨rfl,h1⟩
  ·rcases h2 with h2|⟨rfl,h2⟩
   ·left;omega
   left;omega
  rcases h2 with h2|⟨rfl,h2⟩
  ·left;omega
  exact .inr ⟨rfl,anq a b d h1 h2⟩
def lC (a b:List UInt8):Int:=bif Op.bytesLess a b then -1 else bif !(Op.bytesLess a b||a==b) then 1 else 0
theorem avf (a b:List UInt8):(lC a b=-1∧Op.bytesLess a b=true)∨(lC a b=1∧Op.bytesLess b a=true)∨(lC a b=0∧a=b):=by
 rcases ano a b with ⟨h1,h2,h3⟩|⟨h1,h2,h3⟩|h1
 ·exact .inl ⟨by unfold lC;rw [h1];rfl,h1⟩
 ·exact .inr (.inl ⟨by unfold lC;rw [h1,beq_false_of_ne h3];rfl,h2⟩)
 subst h1
 exact .inr (.inr ⟨by unfold lC;rw [am5,beq_self_eq_true];rfl,rfl⟩)
theorem auo:Ord3 lC where
 anti a b:=by
  rcases ano a b with ⟨h1,h2,h3⟩|⟨h1,h2,h3⟩|h1
  ·unfold lC;rw [h1,h2,beq_false_of_ne (Ne.symm h3)];rfl
  ·unfold lC;rw [h1,h2,beq_false_of_ne h3];rfl
  subst h1;unfold lC;rw [am5,beq_self_eq_true];rfl
 trans a b d h1 h2:=by
  rcases avf a b with ⟨e1,q1⟩|⟨e1,q1⟩|⟨e1,q1⟩
  ·rcases avf b d with ⟨e2,q2⟩|⟨e2,q2⟩|⟨e2,q2⟩
   ·have:=anq a b d q1 q2
    unfold lC;rw [this];exact (show (-1:Int)≤0 by decide)
   ·omega
   subst q2;exact h1
  ·omega
  subst q1;exact h2
theorem awJ:Ord3 sC:=⟨fun x y=>auo.anti x.toList y.toList,fun x y z=>auo.trans x.toList y.toList z.toList⟩
def lexK {α:Type}(key:α→Int) (c:Int→α→α→Int) (x y:α):Int:=if key x≠key y then iC (key x) (key y) else c (key x) x y
theorem aiO (a b:Int):(a<b∧iC a b=-1)∨(a=b∧iC a b=0)∨(b<a∧iC a b=1):=by
 unfold iC
 by_cases h1:a<b
 ·exact .inl ⟨h1,if_pos h1⟩
 by_cases h2:a>b
 ·exact .inr (.inr ⟨h2,by rw [if_neg h1,if_pos h2]⟩)
 exact .inr (.inl ⟨hO,by rw [if_neg h1,if_neg h2]⟩)
theorem arh {α:Type}{key:α→Int}{c:Int→α→α→Int}(h:∀ k,Ord3 (c k)):Ord3 (lexK key c) where
 anti x y:=by
  unfold lexK
  by_cases e:key x=key y
  ·rw [if_neg hO,if_neg hO,←e];exact (h _).anti x y
  rw [if_pos hO,if_pos e];exact arS.anti _ _
 trans x y z:=by
  unfold lexK
  intro h1 h2
  by_cases e1:key x=key y
  ·rw [if_neg hO] at h1
   by_cases e2:key y=key z
   ·rw [if_neg hO] at h2
    rw [if_neg hO]
    exact (h _).trans x y z h1 (by rw [e1];exact h2)
   rw [if_pos e2] at h2
   rw [if_pos hO,e1];exact h2
  rw [if_pos e1] at h1
  by_cases e2:key y=key z
  ·rw [if_pos hO,←e2];exact h1
  rw [if_pos e2] at h2
  have a1:=aiO (key x) (key y)
  have a2:=aiO (key y) (key z)
  have a3:=aiO (key x) (key z)
  rw [if_pos hO]
  omega
theorem aky {α β:Type}{c:β→β→Int}(h:Ord3 c) (f:α→β):Ord3 fun x y=>c (f x) (f y):=⟨fun x y=>h.anti _ _,fun x y z=>h.trans _ _ _⟩
theorem aup {x:Nat}:Qh x=(match FloatKind.f64.format.read x with|.nan ..=>true|_=>false):=by
 unfold Qh
 simp only [Ieee.Format.order]
 cases FloatKind.f64.format.read x with
 |nan=>rfl
 |infinity s=>cases s<;>rfl
 |number s m e=>simp [Ieee.Datum.order]
def dR:Ieee.Datum→Int
 |.nan ..=>2
 |.infinity s=>if s then -1 else 1
 |.number ..=>0
def dE:Ieee.Datum→Int
 |.number _ _ i=>i
 |_=>0
def dV (B:Int):Ieee.Datum→Int
 |.number s m i=>Ieee.signed s m (i-B).toNat
 |_=>0
def kC (B:Int):Ieee.Datum→Ieee.Datum→Int:=lexK dR fun _ x y=>iC (dV B x) (dV B y)
theorem auG (B:Int):Ord3 (kC B):=arh fun _=>aky arS (dV B)
theorem anF (s:Bool) (m a k:Nat):Ieee.signed s m (a+k)=Ieee.signed s m a*((2^k:Nat):Int):=by
 unfold Ieee.signed
 rw [Nat.shiftLeft_eq,Nat.shiftLeft_eq,Nat.pow_add,←Nat.mul_assoc]
 cases s
 ·simp only [Bool.false_eq_true,if_false];rw [Int.natCast_mul]
 simp only [if_true];rw [Int.natCast_mul,Int.neg_mul]
theorem auK (a b:Int) {q:Nat}(h:0<q):iC (a*(q:Int)) (b*(q:Int))=iC a b:=by
 have hq:(0:Int)<(q:Int):=by omega
 rcases aiO a b with ⟨h1,h2⟩|⟨h1,h2⟩|⟨h1,h2⟩
 ·rw [h2]
  have:=Int.mul_lt_mul_of_pos_right h1 hq
  unfold iC;rw [if_pos this]
 ·subst h1;rw [h2];unfold iC;rw [if_neg hO,if_neg hO]
 rw [h2]
 have:=Int.mul_lt_mul_of_pos_right h1 hq
 unfold iC;rw [if_neg hO,if_pos this]
theorem avS {B B':Int}(x y:Ieee.Datum) (h:B≤B') (hx:dR x=0→B'≤dE x) (hy:dR y=0→B'≤dE y):kC B x y=kC B' x y:=by
 unfold kC lexK
 by_cases e:dR x=dR y
 ·rw [if_neg hO,if_neg hO]
  cases x with
  |number s m i=>
   cases y with
   |number t n j=>
    have h1:B'≤i:=hx rfl
    have h2:B'≤j:=hy rfl
    simp only [dV]
    rw [show (i-B).toNat=(i-B').toNat+(B'-B).toNat by omega,show (j-B).toNat=(j-B').toNat+(B'-B).toNat by omega,anF,anF,auK _ _ (Nat.pow_pos (by decide))]
   |nan=>simp [dR] at e
   |infinity t=>exfalso;revert e;cases t<;>simp [dR]
  |nan=>cases y with
   |number t n j=>simp [dR] at e
   |nan=>rfl
   |infinity t=>rfl
  |infinity s=>cases y with
   |number t n j=>exfalso;revert e;cases s<;>simp [dR]
   |nan=>rfl
   |infinity t=>rfl
 rw [if_pos e,if_pos e]
theorem awL (a b:Int):(compare a b==.lt)=decide (a<b)∧(compare a b==.gt)=decide (a>b):=by
 rcases aiO a b with ⟨h1,_⟩|⟨h1,_⟩|⟨h1,_⟩
 ·have:compare a b=.lt:=Int.compare_eq_lt.2 h1
  rw [this,dT' h1,dF' hO];exact ⟨rfl,rfl⟩
 ·have:compare a b=.eq:=Int.compare_eq_eq.2 h1
  rw [this,dF' hO,dF' hO];exact ⟨rfl,rfl⟩
 have:compare a b=.gt:=Int.compare_eq_gt.2 h1
 rw [this,dF' hO,dT' h1];exact ⟨rfl,rfl⟩
where
 dT' {p:Prop}[Decidable p] (h:p):decide p=true:=decide_eq_true h
 dF' {p:Prop}[Decidable p] (h:¬ p):decide p=false:=decide_eq_false h
theorem aur (x y:Nat):fC x y=kC (min (dE (FloatKind.f64.format.read x)) (dE (FloatKind.f64.format.read y))) (FloatKind.f64.format.read x) (FloatKind.f64.format.read y):=by
 unfold fC fLt fGt
 rw [aup,aup]
 simp only [Ieee.Format.order]
 cases FloatKind.f64.format.read x with
 |nan=>cases FloatKind.f64.format.read y with
  |nan=>rfl
  |infinity t=>cases t<;>rfl
  |number t n j=>rfl
 |infinity s=>cases FloatKind.f64.format.read y with
  |nan=>cases s<;>rfl
  |infinity t=>cases s<;>cases t<;>rfl
  |number t n j=>cases s<;>rfl
 |number s m i=>cases FloatKind.f64.format.read y with
  |nan=>rfl
  |infinity t=>cases t<;>rfl
  |number t n j=>
   simp only [Ieee.Datum.order,kC,lexK,dR,dE,dV,ne_eq,not_true_eq_false,if_false,Bool.and_false,ja]
   have e1:=awL (Ieee.signed s m (i-min i j).toNat) (Ieee.signed t n (j-min i j).toNat)
   rw [show (some (compare (Ieee.signed s m (i-min i j).toNat) (Ieee.signed t n (j-min i j).toNat))==some Ordering.lt)=(compare (Ieee.signed s m (i-min i j).toNat) (Ieee.signed t n (j-min i j).toNat)==Ordering.lt) from rfl,show (some (compare (Ieee.signed s m (i-min i j).toNat) (Ieee.signed t n (j-min i j).toNat))==some Ordering.gt)=(compare (Ieee.signed s m (i-min i j).toNat) (Ieee.signed t n (j-min i j).toNat)==Ordering.gt) from rfl,e1.1,e1.2]
   unfold iC
   generalize Ieee.signed s m (i-min i j).toNat=a
   generalize Ieee.signed t n (j-min i j).toNat=b
   by_cases h1:a<b
   ·rw [if_pos h1,decide_eq_true h1];rfl
   rw [if_neg h1,decide_eq_false h1,ja]
   by_cases h2:a>b
   ·rw [if_pos h2,decide_eq_true h2];rfl
   rw [if_neg h2,decide_eq_false h2];rfl
theorem asX {B:Int}{x y:Nat}(hx:B≤dE (FloatKind.f64.format.read x)) (hy:B≤dE (FloatKind.f64.format.read y)):fC x y=kC B (FloatKind.f64.format.read x) (FloatKind.f64.format.read y):=by
 rw [aur]
 exact (avS _ _ hO (fun _=>by omega) (fun _=>by omega)).symm
theorem awV:Ord3 fC where
 anti x y:=by
  rw [asX (B:=min (dE (FloatKind.f64.format.read x)) (dE (FloatKind.f64.format.read y))) (x:=y) (y:=x) hO hO,aur]
  exact (auG _).anti _ _
 trans x y z:=by
  rw [asX (B:=min (min (dE (FloatKind.f64.format.read x)) (dE (FloatKind.f64.format.read y))) (dE (FloatKind.f64.format.read z))) (x:=x) (y:=y) hO hO,
   asX (B:=min (min (dE (FloatKind.f64.format.read x)) (dE (FloatKind.f64.format.read y))) (dE (FloatKind.f64.format.read z))) (x:=y) (y:=z) hO hO,
   asX (B:=min (min (dE (FloatKind.f64.format.read x)) (dE (FloatKind.f64.format.read y))) (dE (FloatKind.f64.format.read z))) (x:=x) (y:=z) hO hO]
  exact (auG _).trans _ _ _
theorem aw0:Ord3 vC:=by
 have:Ord3 (lexK (fun v:zn=>v.A) (fun k p q=>if k=3 then fC p.I q.I else if k=4 then sC p.N q.N else iC p.K q.K)):=by
  refine arh fun k=>?_
  by_cases h3:k=3
  ·simp only [h3,if_true];exact aky awV (fun v:zn=>v.I)
  by_cases h4:k=4
  ·simp only [h4,if_true,if_neg (by decide:¬ (4:Int)=3)];exact aky awJ (fun v:zn=>v.N)
  simp only [h3,h4,if_false];exact aky arS (fun v:zn=>v.K)
 exact this
theorem acq:Ord3 vCmp:=aky aw0 abu
theorem Q8 {α:Type}(l:List α):sll (some l)=l:=rfl
theorem dT {p:Prop}[Decidable p] (h:p):decide p=true:=decide_eq_true h
theorem dF {p:Prop}[Decidable p] (h:¬ p):decide p=false:=decide_eq_false h
theorem qF {b n:Nat}(h:n≤2000000) (hb:b≤1000):ckA b n=some ():=by
 unfold ckA
 rw [if_pos]
 have:=Nat.mul_le_mul h hb
 omega
def mapO {α β:Type}(f:α→β) (l:List α):Option (List β):=if l=[] then none else some (l.map f)
theorem amV {α β:Type}(f:α→β) (l:List α):sll (mapO f l)=l.map f:=by
 unfold mapO;split
 ·rename_i h;subst h;rfl
 rfl
theorem beqT {a b:Int}(h:a=b):(a==b)=true:=beq_iff_eq.2 h
theorem beqF {a b:Int}(h:¬ a=b):(a==b)=false:=beq_eq_false_iff_ne.2 h
theorem aqT {α R:Type}{F:Nat→Int→Option R}{l:List α}{p:α→Bool}{kk e:Option R}(hl:l.length≤1048576)
  (hF:∀ (m i:Nat) (x:α),(hi:i<l.length)→l[i]=x→F (m+1) (i:Int)=bif p x then F m (IntKind.wrap .i64 ((i:Int)+1)) else e) (hE:∀ (m:Nat),F (m+1) (l.length:Int)=kk):
  ∀ (m i:Nat),i≤l.length→l.length-i<m→F m (i:Int)=bif (l.drop i).all p then kk else e
 |0,i,_,h=>by omega
 |m+1,i,h,hm=>by
  by_cases hi:i<l.length
  ·rw [hF m i _ hi rfl,abE hO,aqT hl hF hE m (i+1) hO hO,List.drop_eq_getElem_cons hi,List.all_cons]
   cases p l[i]<;>rfl
  obtain rfl:i=l.length:=by omega
  rw [hE,List.drop_length];rfl
theorem aez {α R:Type}{F:Nat→Int→Option R}{l:List α}{p:α→Bool}{kk e:Option R}(hl:l.length≤1048576) {m:Nat}(hm:2000000≤m)
  (hF:∀ (m i:Nat) (x:α),(hi:i<l.length)→l[i]=x→F (m+1) (i:Int)=bif p x then F m (IntKind.wrap .i64 ((i:Int)+1)) else e) (hE:∀ (m:Nat),F (m+1) (l.length:Int)=kk):
  F m 0=bif l.all p then kk else e:=by
 have:=aqT hl hF hE m 0 hO hO
 simpa using this
theorem apN {α β R:Type}{f:α→β}{l3:Nat→Option (List β)→Int→Option R}{l:List α}{K:Option (List β)→Option R}{b:Nat}(hb:b≤1000) (hl:l.length≤1048576)
  (hF:∀ (m i:Nat) (s:Option (List β)) (x:α),(hi:i<l.length)→l[i]=x→l3 (m+1) s (i:Int)=(ckA b (sll s++[f x]).length).bind fun _=>l3 m (some (sll s++[f x])) (IntKind.wrap .i64 ((i:Int)+1)))
  (hE:∀ (m:Nat) (s:Option (List β)),l3 (m+1) s (l.length:Int)=K s):∀ (m i:Nat) (s:Option (List β)),i≤l.length→l.length-i<m→(sll s).length+(l.length-i)≤1048576→l3 m s (i:Int)=K (if l.drop i=[] then s else some (sll s++(l.drop i).map f))
 |0,i,s,_,h,_=>by omega
 |m+1,i,s,h,hm,hs=>by
  by_cases hi:i<l.length
  ·rw [hF m i s _ hi rfl,qF (by simp;omega) hb,hZ,abE hO,apN hb hl hF hE m (i+1) _ hO hO (by rw [Q8];simp;omega),List.drop_eq_getElem_cons hi,if_neg (List.cons_ne_nil _ _),List.map_cons,Q8,List.append_assoc]
   by_cases hn:l.drop (i+1)=[]
   ·rw [if_pos hn,hn];rfl
   rw [if_neg hn];rfl
  obtain rfl:i=l.length:=by omega
  rw [hE,List.drop_length,if_pos rfl]
theorem aua {α β R:Type}{f:α→β}{l3:Nat→Option (List β)→Int→Option R}{l:List α}{K:Option (List β)→Option R}{b:Nat}(hb:b≤1000) (hl:l.length≤1048576) {m:Nat}(hm:2000000≤m)
  (hF:∀ (m i:Nat) (s:Option (List β)) (x:α),(hi:i<l.length)→l[i]=x→l3 (m+1) s (i:Int)=(ckA b (sll s++[f x]).length).bind fun _=>l3 m (some (sll s++[f x])) (IntKind.wrap .i64 ((i:Int)+1)))
  (hE:∀ (m:Nat) (s:Option (List β)),l3 (m+1) s (l.length:Int)=K s):l3 m none 0=K (mapO f l):=by
 have:=apN hb hl hF hE m 0 none hO hO (by show 0+_≤_;omega)
 rw [show ((0:Nat):Int)=0 from rfl,List.drop_zero] at this
 rw [this];rfl
theorem ZB {α:Type}{l:List α}{i:Nat}{x:α}(hi:i<l.length) (e:l[i]=x):idx l (i:Int)=some x:=by
 rw [aaY,List.getElem?_eq_getElem hi,e]
theorem awU {n:Nat}{i:Int}(h:0≤i∧i<n):ckI n i=some ():=by unfold ckI;rw [if_pos h]
theorem ag5 {α β R:Type}{F:Nat→Int→Option R}{la:List α}{lb:List β}{p:α→β→Bool}{kk e:Option R}(he:la.length=lb.length) (hl:la.length≤1048576) {m:Nat}(hm:2000000≤m)
  (hF:∀ (m i:Nat) (x:α) (y:β),(hi:i<la.length)→idx la (i:Int)=some x→idx lb (i:Int)=some y→x∈la→y∈lb→F (m+1) (i:Int)=bif p x y then F m (IntKind.wrap .i64 ((i:Int)+1)) else e) (hE:∀ (m:Nat),F (m+1) (la.length:Int)=kk):
  F m 0=bif (la.zip lb).all (fun q=>p q.1 q.2) then kk else e:=by
 have hz:(la.zip lb).length=la.length:=by rw [List.length_zip];omega
 refine aez (l:=la.zip lb) (p:=fun q=>p q.1 q.2) hO hm (fun m i q hi e'=>?_) (fun m=>by rw [hz];exact hE m)
 have hi1:i<la.length:=by omega
 have hi2:i<lb.length:=by omega
 rw [List.getElem_zip] at e'
 subst e'
 exact hF m i _ _ hi1 (ZB hi1 rfl) (ZB hi2 rfl) (List.getElem_mem _) (List.getElem_mem _)
def ZM {α β:Type}(p:α→β→Bool) (a:List α) (b:List β):Bool:=decide (a.length=b.length)&&(a.zip b).all fun q=>p q.1 q.2
theorem ajS {α β:Type}{p:α→β→Bool}{a:List α}{b:List β}(h:a.length≠b.length):ZM p a b=false:=by
 unfold ZM;rw [dF h];rfl
theorem akb {α β:Type}{p:α→β→Bool}{a:List α}{b:List β}(h:a.length=b.length):ZM p a b=(a.zip b).all fun q=>p q.1 q.2:=by
 unfold ZM;rw [dT h];rfl
theorem afU {α β:Type}{F:Nat→Int→Option Bool}{la:List α}{lb:List β}{p:α→β→Bool}(hl:la.length≤1048576) {m:Nat}(hm:2000000≤m)
  (hF:la.length=lb.length→∀ (m i:Nat) (x:α) (y:β),(hi:i<la.length)→idx la (i:Int)=some x→idx lb (i:Int)=some y→x∈la→y∈lb→F (m+1) (i:Int)=bif p x y then F m (IntKind.wrap .i64 ((i:Int)+1)) else some false) (hE:∀ (m:Nat),F (m+1) (la.length:Int)=some true):
  (bif ((la.length:Int)!=(lb.length:Int)) then some false else F m 0)=some (ZM p la lb):=by
 by_cases h:la.length=lb.length
 ·rw [show ((la.length:Int)!=(lb.length:Int))=false by rw [h];simp,ja,ag5 h hl hm (hF h) hE,akb h]
  cases (la.zip lb).all fun q=>p q.1 q.2<;>rfl
 rw [show ((la.length:Int)!=(lb.length:Int))=true by rw [bne_iff_ne];omega,jb,ajS h]
def ac3 (x y:zn):Bool:=vCmp x y==0
theorem aoF {a b:zn}(ha:qK a) (hb:qK b) {n:Nat}(h:5≤n):afM n a b=some (ac3 a b):=by
 obtain ⟨n,rfl⟩:∃ k,n=k+1:=⟨n-1,hO⟩
 unfold afM
 rw [zq,aqE ha hb hO];rfl
theorem aqj {α:Type}{p:α→α→Bool}(l:List α) (h:∀ x,x∈l→p x x=true):ZM p l l=true:=by
 rw [akb rfl,List.all_eq_true]
 intro q hq
 obtain ⟨i,hi,rfl⟩:=List.getElem_of_mem hq
 rw [List.getElem_zip]
 exact h _ (List.getElem_mem _)
abbrev EX:=zb
def szL (x:zf):Nat:=PV.bulkL (Z7 x)
theorem aqe {x:zf}{z:EX}(h:z∈sll x.B):szL (zc z)<szL x:=by
 have e:szL (zc z)=PV.bulkL (za z):=by rw [zt z];rfl
 rw [e]
 unfold szL Z7
 cases hk:x.B with
 |none=>rw [hk] at h;cases h
 |some l=>
  rw [hk] at h
  have:=afG (rows:=l.map za) (r:=za z) (List.mem_map_of_mem h)
  simp only [PV.bulkL,PV.bulk,zk]
  omega
theorem ajx {x:zf}(hw:Zt x) {z:EX}(h:z∈sll x.B):Zt (zc z):=by
 have hs:=aqe h
 have h2:=hw.2
 refine ⟨?_,by unfold szL at hs;omega⟩
 have h1:=hw.1
 unfold Z7 at h1
 rw [←zt z]
 cases hk:x.B with
 |none=>rw [hk] at h;cases h
 |some l=>
  rw [hk] at h h1
  generalize hp:([.int .i64 x.A,.int .i64 x.C,.int .i64 x.M,.int .i64 x.F.A,.int .i64 x.F.K,.flt .f64 x.F.I,.str x.F.N,zk za (some l)]:List PV)=p at h1
  cases h1 with
  |nil a b c v w=>simp [zk] at hp
  |some a b c v rows w hl hr=>
   simp only [List.cons.injEq,and_true,zk,PV.sl.injEq] at hp
   obtain ⟨_,_,_,_,_,_,_,e⟩:=hp
   subst e
   exact hr _ (List.mem_map_of_mem h)
theorem ac8 {x:zf}(hw:Zt x):(sll x.B).length≤1048576:=by
 have h1:=hw.1
 unfold Z7 at h1
 cases hk:x.B with
 |none=>simp [sll]
 |some l=>
  rw [hk] at h1
  generalize hp:([.int .i64 x.A,.int .i64 x.C,.int .i64 x.M,.int .i64 x.F.A,.int .i64 x.F.K,.flt .f64 x.F.I,.str x.F.N,zk za (some l)]:List PV)=p at h1
  cases h1 with
  |nil a b c v w=>simp [zk] at hp
  |some a b c v rows w hl hr=>
   simp only [List.cons.injEq,and_true,zk,PV.sl.injEq] at hp
   obtain ⟨_,_,_,_,_,_,_,e⟩:=hp
   subst e
   show l.length≤_
   simpa using hl
def ownR (x:zf):Int:=bif ((x.A==1)&&(decide (x.C≥0)))&&(decide (x.C≤31)) then iShl .u32 1 (IntKind.wrap .u64 x.C) else 0
noncomputable def relD:Nat→zf→Int
 |0,_=>0
 |k+1,x=>(sll x.B).foldl (fun acc z=>iOr .u32 acc (relD k (zc z))) (ownR x)
noncomputable def relE (z:EX):Int:=relD 1048576 (zc z)
def okS (S r:Int):Bool:=((aeM .u32 r S)==0)&&((r !=0)||((iAnd .u32 S 1)==1))
noncomputable def wl (S:Int):List EX→Nat→List Int
 |[],_=>[]
 |z::l,i=>bif okS S (relE z) then (i:Int)::wl S l (i+1) else wl S l (i+1)
def aeq (k:Int):Int:=if k=1∨k=2 then 0 else if k=6∨k=12∨k=13 then 1 else if 3≤k∧k≤11 then 2 else -1
theorem aqt (k:Int) {n:Nat}(hn:1≤n):agV n k=some (aeq k):=by
 obtain ⟨n,rfl⟩:=hX n 1
 unfold agV
 rw [zq]
 simp only [zB]
 have ne:∀ {c:Int},k≠c→(k==c)=false:=fun h=>beq_eq_false_iff_ne.2 h
 by_cases h1:k=1
 ·subst h1;rfl
 by_cases h2:k=2
 ·subst h2;rfl
 by_cases h6:k=6
 ·subst h6;rfl
 by_cases h12:k=12
 ·subst h12;rfl
 by_cases h13:k=13
 ·subst h13;rfl
 by_cases h3:k=3
 ·subst h3;rfl
 by_cases h4:k=4
 ·subst h4;rfl
 by_cases h5:k=5
 ·subst h5;rfl
 by_cases h7:k=7
 ·subst h7;rfl
 by_cases h8:k=8
 ·subst h8;rfl
 by_cases h9:k=9
 ·subst h9;rfl
 by_cases h10:k=10
 ·subst h10;rfl
 by_cases h11:k=11
 ·subst h11;rfl
 rw [ne h1,ne h2,ne h6,ne h12,ne h13,ne h3,ne h4,ne h5,ne h7,ne h8,ne h9,ne h10,ne h11]
 unfold aeq
 rw [if_neg hO,if_neg hO,if_neg hO]
 rfl
def inE (k:Int):Bool:=decide (k≥0)&&decide (k≤31)
def ahh (x:zf):Bool:=!((x.A !=1)&&((x.C !=0)||(x.M !=0)))&&inE x.C&&inE x.M&&acf x.F&&((x.A==2)||(x.F.A==0))
theorem aoa {x:zf}(hc:qK x.F) {n:Nat}(hn:5≤n):aeT n x=some (ahh x):=by
 obtain ⟨n,rfl⟩:=hX n 1
 have e1:∀ k,ac2 n k=some (inE k):=fun k=>by
  obtain ⟨n,rfl⟩:=hX n 1
  rfl
 unfold aeT ahh
 rw [zq,e1,e1,aiP _ hO]
 cases ((x.A !=1)&&((x.C !=0)||(x.M !=0)))<;>cases inE x.C<;>cases inE x.M<;>cases acf x.F<;>rfl
def ako (x:zf):Bool:=(aeq x.A==((sll x.B).length:Int))&&ahh x
def sumO {α:Type}(f:α→Option Nat):List α→Option Nat
 |[]=>some 0
 |z::l=>match f z,sumO f l with
  |some a,some b=>some (a+b)
  |_,_=>none
noncomputable def frmE:Nat→zf→Option Nat
 |0,_=>none
 |r+1,x=>bif ako x then (sumO (fun z=>frmE r (zc z)) (sll x.B)).map (·+1) else none
theorem auB {r:Nat}{x:zf}{c:Nat}(h:frmE r x=some c):1≤c:=by
 cases r with
 |zero=>cases h
 |succ r=>
  unfold frmE at h
  cases hn:ako x with
  |false=>rw [hn] at h;cases h
  |true=>
   rw [hn,jb,jh] at h
   obtain ⟨a,_,rfl⟩:=h
   omega
theorem anN {α:Type}{f:α→Option Nat}:∀ {l:List α}{c:Nat},sumO f l=some c→∀ z,z∈l→∃ a,f z=some a∧a≤c
 |[],c,h,z,hz=>by cases hz
 |y::l,c,h,z,hz=>by
  unfold sumO at h
  split at h
  ·rename_i a b e1 e2
   injection h with h;subst h
   rcases List.mem_cons.1 hz with rfl|hz
   ·exact ⟨a,e1,hO⟩
   obtain ⟨d,q1,q2⟩:=anN e2 z hz
   exact ⟨d,q1,hO⟩
  cases h
theorem aiz {r:Nat}{x:zf}{c:Nat}(h:frmE (r+1) x=some c):ako x=true∧∀ z,z∈sll x.B→∃ a,frmE r (zc z)=some a∧a<c:=by
 unfold frmE at h
 cases hn:ako x with
 |false=>rw [hn] at h;cases h
 |true=>
  rw [hn,jb,jh] at h
  obtain ⟨a,ha,rfl⟩:=h
  refine ⟨rfl,fun z hz=>?_⟩
  obtain ⟨b,q1,q2⟩:=anN ha z hz
  exact ⟨b,q1,hO⟩
def ain (o:Option Nat) (left:Int):Int:=match o with
 |some c=>if (c:Int)≤left then left-c else -1
 |none=>-1
theorem ap6 {x:zf}(hw:Zt x):qK x.F:=by
 have h1:=hw.1
 unfold Z7 at h1
 generalize hp:([.int .i64 x.A,.int .i64 x.C,.int .i64 x.M,.int .i64 x.F.A,.int .i64 x.F.K,.flt .f64 x.F.I,.str x.F.N,zk za x.B]:List PV)=p at h1
 cases h1 with
 |nil a b c v w=>
  simp only [List.cons.injEq,PV.int.injEq,PV.flt.injEq,PV.str.injEq,true_and,and_true] at hp
  obtain ⟨_,_,_,e1,e2,e3,e4,_⟩:=hp
  obtain ⟨v1,v2,v3,v4⟩:=v
  simp only at e1 e2 e3 e4
  have:x.F=⟨v1,v2,v3,v4⟩:=by
   cases hx:x.F with
   |mk a b c d=>rw [hx] at e1 e2 e3 e4;simp only at e1 e2 e3 e4;rw [e1,e2,e3,e4]
  rw [this];exact w.2.2.2
 |some a b c v rows w hl hr=>
  simp only [List.cons.injEq,PV.int.injEq,PV.flt.injEq,PV.str.injEq,true_and,and_true] at hp
  obtain ⟨_,_,_,e1,e2,e3,e4,_⟩:=hp
  obtain ⟨v1,v2,v3,v4⟩:=v
  simp only at e1 e2 e3 e4
  have:x.F=⟨v1,v2,v3,v4⟩:=by
   cases hx:x.F with
   |mk a b c d=>rw [hx] at e1 e2 e3 e4;simp only at e1 e2 e3 e4;rw [e1,e2,e3,e4]
  rw [this];exact w.2.2.2
theorem ajY {α:Type}{f:α→Option Nat}{K:Int→Option Int}{F:Nat→Int→Int→Option Int}{ks:List α}{C:α→Int→Option Int}
  (hF:∀ m left i,F (m+1) left i=bif decide (i<(ks.length:Int)) then (idx ks i).bind fun z=>(C z left).bind fun r=>bif decide (r<0) then some (-1) else F m r (IntKind.wrap .i64 (i+1)) else K left)
  {B:Int}(hB:B≤1000) (hC:∀ z,z∈ks→∀ left,0≤left→left≤B→C z left=some (ain (f z) left)) (hks:ks.length≤1048576):
  ∀ (l:List α) (m:Nat) (p:List α) (left:Int),ks=p++l→l.length<m→0≤left→left≤B→
   F m left (p.length:Int)=match sumO f l with
    |some c=>if (c:Int)≤left then K (left-c) else some (-1)
    |none=>some (-1)
 |[],m,p,left,he,hm,h0,h4=>by
  obtain ⟨m,rfl⟩:=hX m 1
  rw [hF,dF (by rw [he];simp),ja]
  simp only [sumO]
  rw [if_pos hO]
  congr 1;omega
 |z::l,m,p,left,he,hm,h0,h4=>by
  obtain ⟨m,rfl⟩:=hX m 1
  rw [List.length_cons] at hm
  have hz:z∈ks:=by rw [he];simp
  have hix:idx ks (p.length:Int)=some z:=by rw [he,aaY];simp
  rw [hF,dT (by rw [he];simp;omega),jb,hix,hZ,hC z hz left h0 h4,hZ]
  have hlen:ks.length=p.length+(l.length+1):=by rw [he];simp
  rw [abE hO]
  have e:p.length+1=(p++[z]).length:=by simp
  obtain ⟨v,hv⟩:∃ v,v=ain (f z) left:=⟨_,rfl⟩
  rw [←hv]
  unfold sumO
  cases hf:f z with
  |none=>
   rw [hf] at hv
   rw [show v=-1 from hv]
   rfl
  |some a=>
   rw [hf] at hv
   simp only [ain] at hv
   by_cases ha:(a:Int)≤left
   ·rw [if_pos ha] at hv
    subst hv
    rw [dF hO,ja,e,ajY hF hB hC hks l m (p++[z]) (left-a) (by rw [he];simp) hO hO hO]
    cases hs:sumO f l with
    |none=>rfl
    |some b=>
     simp only
     by_cases hb:(b:Int)≤left-a
     ·rw [if_pos hb,if_pos hO];congr 1;omega
     rw [if_neg hb,if_neg hO]
   rw [if_neg ha] at hv
   subst hv
   rw [dT hO,jb]
   cases hs:sumO f l with
   |none=>rfl
   |some b=>simp only;rw [if_neg hO]
theorem auM:∀ (r:Nat),r≤24→∀ (x:zf),Zt x→∀ (left:Int),left≤400→-1≤left→∀ m n,r+1≤m→2000000+r≤n→
  QZ m n x (25-(r:Int)) left=some (ain (frmE r x) left):=by
 intro r
 induction r with
 |zero=>
  intro hr x hw left h4 h0 m n hm hn
  obtain ⟨m,rfl⟩:=hX m 1
  obtain ⟨n,rfl⟩:=hX n 1
  show abB (QZ m) (n+1) x _ left=_
  unfold abB
  rw [zq,dT hO,jb]
  rfl
 |succ r ih=>
  intro hr x hw left h4 h0 m n hm hn
  obtain ⟨m,rfl⟩:=hX m 1
  obtain ⟨n,rfl⟩:=hX n 1
  show abB (QZ m) (n+1) x _ left=_
  unfold abB
  rw [zq,dF hO,ja]
  by_cases hl:left<1
  ·rw [dT hl,jb]
   unfold ain
   cases hf:frmE (r+1) x with
   |none=>rfl
   |some c=>
    have:=auB hf
    simp only
    rw [if_neg hO]
  rw [dF hl,ja,aqt _ hO,hZ]
  rw [frmE]
  unfold ako
  by_cases hk:aeq x.A=((sll x.B).length:Int)
  ·rw [show (aeq x.A !=((sll x.B).length:Int))=false by simp [hk],ja,show (aeq x.A==((sll x.B).length:Int))=true by simp [hk],jk]
   rw [show zf.mk x.A x.C x.M x.F x.B=x from rfl,aoa (ap6 hw) hO,hZ]
   cases hfd:ahh x with
   |false=>rfl
   |true=>
    rw [Bool.not_true,ja,jb]
    show zB (fun k12=>abQ n (QZ m) x (25-((r+1:Nat):Int)) k12 n (IntKind.wrap .i64 (left-1)) 0) (fun (y9:Int)=>some y9)=_
    unfold zB
    rw [ab4 hO hO]
    have key:=ajY (f:=fun z=>frmE r (zc z)) (K:=fun y9=>some y9) (F:=fun m' left' i=>abQ n (QZ m) x (25-((r+1:Nat):Int)) (fun y9=>some y9) m' left' i) (ks:=sll x.B)
     (C:=fun z left'=>QZ m n (zc z) (IntKind.wrap .i64 ((25-((r+1:Nat):Int))+1)) left')
     (fun m' left' i=>rfl) (B:=400) hO (fun z hz left' h1 h2=>by
      show QZ m n (zc z) (IntKind.wrap .i64 ((25-((r+1:Nat):Int))+1)) left'=_
      rw [ab4 hO hO,show (25-((r+1:Nat):Int))+1=25-(r:Int) by omega]
      exact ih hO _ (ajx hw hz) left' h2 hO m n hO hO) (ac8 hw) (sll x.B) n [] (left-1) rfl (by have:=ac8 hw;omega) hO hO
    refine Eq.trans key ?_
    cases hs:sumO (fun z=>frmE r (zc z)) (sll x.B) with
    |none=>rfl
    |some c=>
     simp only [Option.map_some,ain]
     by_cases hc:(c:Int)≤left-1
     ·rw [if_pos hc,if_pos hO];congr 1;omega
     rw [if_neg hc,if_neg hO]
  rw [show (aeq x.A !=((sll x.B).length:Int))=true by simp [hk],jb,show (aeq x.A==((sll x.B).length:Int))=false by simp [hk],Bool.false_and]
  rfl
noncomputable def qO (x:zf):Bool:=match frmE 24 x with
 |some c=>decide (c≤400)
 |none=>false
theorem afQ {x:zf}(hw:Zt x) {n:Nat}(hn:2000100≤n):acE n x=some (qO x):=by
 obtain ⟨n,rfl⟩:=hX n 1
 unfold acE
 rw [zq]
 have:=auM 24 hO x hw 400 hO hO n n hO hO
 rw [show (25-((24:Nat):Int))=1 from rfl] at this
 rw [show ajJ n x 1 400=some _ from this,hZ]
 unfold qO ain
 cases frmE 24 x with
 |none=>rfl
 |some c=>exact congrArg some (decide_eq_decide.2 (by simp only;split<;>omega))
theorem aj1 {x:zf}(h:qO x=true):∃ c,frmE 24 x=some c∧c≤400:=by
 unfold qO at h
 split at h
 ·rename_i c hc;exact ⟨c,hc,by simpa using h⟩
 cases h
theorem W_un {z:EX}(h:zJ z):Zt (zc z):=by
 unfold zJ at h
 rw [zt z] at h
 exact h
theorem asT:∀ (s m n:Nat) (a:Option (List EX)) (most:Int),(∀ z,z∈sll a→Zt (zc z)∧szL (zc z)≤s)→(sll a).length≤1048600→s<m→2000020+s≤n→∃ r,abm m n a most=some r
 |s,m,n,a,most,hz,hl,hm,hn=>by
  obtain ⟨m,rfl⟩:=hX m 1
  obtain ⟨n,rfl⟩:=hX n 1
  show ∃ r,aej (abm m) (n+1) a most=some r
  unfold aej
  rw [zq]
  cases hq:decide (((sll a).length:Int)>most) with
  |true=>exact ⟨_,rfl⟩
  |false=>
   rw [ja]
   show ∃ r,QS n (abm m) a most (fun y3=>some y3) n ((sll a).length:Int) ((0:Nat):Int)=some r
   have key:∀ (d mm i:Nat) (acc:Int),i+d=(sll a).length→d<mm→∃ r,QS n (abm m) a most (fun y3=>some y3) mm acc (i:Int)=some r:=by
    intro d
    induction d with
    |zero=>
     intro mm i acc hi hmm
     obtain ⟨mm,rfl⟩:=hX mm 1
     rw [QS,dF (by omega:¬ (i:Int)<((sll a).length:Int)),Bool.false_and,ja]
     exact ⟨_,rfl⟩
    |succ d ih=>
     intro mm i acc hi hmm
     obtain ⟨mm,rfl⟩:=hX mm 1
     rw [QS]
     cases hc:(decide ((i:Int)<((sll a).length:Int))&&decide (acc≤most)) with
     |false=>exact ⟨_,rfl⟩
     |true=>
      have hi':i<(sll a).length:=by omega
      have hzi:=hz _ (List.getElem_mem hi')
      rw [jb,aaY,List.getElem?_eq_getElem hi',hZ,abE hO]
      cases decide ((((((zc (sll a)[i]).F).N).size:Nat):Int)>most) with
      |true=>exact ⟨_,rfl⟩
      |false=>
       rw [ja]
       cases decide ((IntKind.wrap .i64 (acc+((((zc (sll a)[i]).F).N).size:Int)))≤most) with
       |false=>exact ih mm (i+1) _ hO hO
       |true=>
        rw [jb]
        have hs:0<s:=by
         have:=hzi.2
         unfold szL Z7 at this
         simp only [PV.bulkL,PV.bulk] at this
         omega
        obtain ⟨r,hr⟩:=asT (s-1) m n ((zc (sll a)[i]).B) (IntKind.wrap .i64 (most-(IntKind.wrap .i64 (acc+((((zc (sll a)[i]).F).N).size:Int))))) (fun y hy=>⟨ajx hzi.1 hy,by have:=aqe hy;omega⟩) (by have:=ac8 hzi.1;omega) hO hO
        rw [hr,hZ]
        exact ih mm (i+1) _ hO hO
   exact key (sll a).length n 0 _ hO hO
 termination_by s=>s
 decreasing_by omega
theorem map_inj {α β:Type}{R:α→β}(hR:∀ x y,R x=R y→x=y):∀ (a b:List α),a.map R=b.map R→a=b
 |[],[],_=>rfl
 |[],y::b,h=>by cases h
 |x::a,[],h=>by cases h
 |x::a,y::b,h=>by
  simp only [List.map_cons,List.cons.injEq] at h
  rw [hR x y h.1,map_inj hR a b h.2]
theorem Q3 {α:Type}{R:α→List PV}(hR:∀ x y,R x=R y→x=y) {a b:Option (List α)}(h:zk R a=zk R b):a=b:=by
 cases a with
 |none=>
  cases b with
  |none=>rfl
  |some b=>cases h
 |some a=>
  cases b with
  |none=>cases h
  |some b=>
   simp only [zk,PV.sl.injEq] at h
   rw [map_inj hR a b h]
theorem aeP (x y:zb) (h:za x=za y):x=y:=Subtype.ext h
theorem asA (x y:zf) (h:Z7 x=Z7 y):x=y:=by
 obtain ⟨a1,a2,a3,⟨v1,v2,v3,v4⟩,a5⟩:=x
 obtain ⟨b1,b2,b3,⟨w1,w2,w3,w4⟩,b5⟩:=y
 unfold Z7 at h
 simp only [List.cons.injEq,PV.int.injEq,PV.flt.injEq,PV.str.injEq,true_and,and_true] at h
 obtain ⟨rfl,rfl,rfl,rfl,rfl,rfl,rfl,h5⟩:=h
 rw [Q3 aeP h5]
theorem apF (x y:zI) (h:zl x=zl y):x=y:=by
 obtain ⟨k,a1,a2,a3,⟨v1,v2,v3,v4⟩,a5⟩:=x
 obtain ⟨k',b1,b2,b3,⟨w1,w2,w3,w4⟩,b5⟩:=y
 unfold zl at h
 simp only [List.cons.injEq,PV.int.injEq,PV.flt.injEq,PV.str.injEq,true_and,and_true] at h
 obtain ⟨rfl,rfl,rfl,rfl,rfl,rfl,rfl,rfl,h5⟩:=h
 rw [Q3 aeP h5]
theorem aoX (x y:Zr) (h:zx x=zx y):x=y:=by
 obtain ⟨k,a1⟩:=x
 obtain ⟨k',b1⟩:=y
 unfold zx at h
 simp only [List.cons.injEq,PV.int.injEq,PV.bool.injEq,true_and,and_true] at h
 obtain ⟨rfl,rfl⟩:=h
 rfl
theorem Z8 (x:zf):zc (zi x)=x:=(asA _ _ ((zt (zi x)).symm.trans rfl))
abbrev PX:=Qv
def szP (x:zh):Nat:=PV.bulkL (aaM x)
theorem ae4 {α:Type}(R:α→List PV) (s:Option (List α)):1≤(zk R s).bulk:=by
 cases s with
 |none=>simp only [zk,PV.bulk];omega
 |some l=>simp only [zk,PV.bulk];omega
theorem agi {x:zh}{z:PX}(h:z∈sll x.B):szP (zj z)+8≤szP x:=by
 have e:szP (zj z)=PV.bulkL (zA z):=by rw [Zd z];rfl
 rw [e]
 unfold szP aaM
 cases hk:x.B with
 |none=>rw [hk] at h;cases h
 |some l=>
  rw [hk] at h
  have:=afG (rows:=l.map zA) (r:=zA z) (List.mem_map_of_mem h)
  have b1:=ae4 za x.H
  have b2:=ae4 za x.J
  have b3:=ae4 za x.L
  have b4:=ae4 za x.E
  have b5:=ae4 zl x.D
  have b6:=ae4 zx x.G
  rw [show zk zA (some l)=.sl (l.map zA) from rfl]
  simp only [PV.bulkL,PV.bulk]
  omega
def PW (x:zh):Prop:=wI .i64 x.A∧wI .i64 x.C∧wSl zJ x.H∧wSl zJ x.J∧wSl zJ x.L∧wSl zJ x.E∧wSl QK x.D∧wSl aey x.G
theorem awC {x:zh}(hw:aaU x):PW x∧(sll x.B).length≤1048576∧∀ z,z∈sll x.B→aaU (zj z):=by
 have h1:=hw.1
 have hb:=hw.2
 have hkid:∀ z,z∈sll x.B→acv (zA z)→aaU (zj z):=fun z hz hg=>by
  have:=agi hz
  unfold szP at this
  rw [Zd z] at hg
  exact ⟨hg,hO⟩
 unfold aaM at h1
 generalize hp:([.int .i64 x.A,.int .i64 x.C,zk za x.H,zk za x.J,zk za x.L,zk za x.E,zk zl x.D,zk zx x.G,zk zA x.B]:List PV)=p at h1
 cases h1 with
 |nil a b c d e f g h w=>
  simp only [List.cons.injEq,PV.int.injEq,true_and,and_true] at hp
  obtain ⟨e1,e2,e3,e4,e5,e6,e7,e8,e9⟩:=hp
  have k9:x.B=none:=by
   cases hk:x.B with
   |none=>rfl
   |some l=>rw [hk] at e9;cases e9
  rw [←e1,←e2,←Q3 aeP e3,←Q3 aeP e4,←Q3 aeP e5,←Q3 aeP e6,←Q3 apF e7,←Q3 aoX e8] at w
  refine ⟨w,by rw [k9];simp [sll],fun z hz=>by rw [k9] at hz;cases hz⟩
 |some a b c d e f g h rows w hl hr=>
  simp only [List.cons.injEq,PV.int.injEq,true_and,and_true] at hp
  obtain ⟨e1,e2,e3,e4,e5,e6,e7,e8,e9⟩:=hp
  rw [←e1,←e2,←Q3 aeP e3,←Q3 aeP e4,←Q3 aeP e5,←Q3 aeP e6,←Q3 apF e7,←Q3 aoX e8] at w
  cases hk:x.B with
  |none=>rw [hk] at e9;cases e9
  |some l=>
   rw [hk] at e9 hkid
   simp only [zk,PV.sl.injEq] at e9
   subst e9
   refine ⟨w,by simpa [sll] using hl,fun z hz=>hkid z hz (hr _ (List.mem_map_of_mem hz))⟩
def WD:Nat→zh→Prop
 |0,_=>False
 |s+1,x=>PW x∧(sll x.B).length≤1048576∧∀ z,z∈sll x.B→WD s (zj z)
theorem awk:∀ (s:Nat) (x:zh),szP x≤8*s→aaU x→WD s x
 |0,x,h,_=>by
  unfold szP aaM at h
  simp only [PV.bulkL,PV.bulk] at h
  omega
 |s+1,x,h,hw=>by
  obtain ⟨h1,h2,h3⟩:=awC hw
  exact ⟨h1,h2,fun z hz=>awk s _ (by have:=agi hz;omega) (h3 z hz)⟩
theorem W_WD {x:zh}(hw:aaU x):WD 131072 x:=awk _ x hw.2 hw
theorem avc {α:Type}{W:α→Prop}:wSl W none:=⟨by simp [sll],fun x h=>by cases h⟩
theorem aeH {a:Option (List EX)}(ha:wSl zJ a) (most:Int) {n:Nat}(hn:3048700≤n):∃ r,ado n a most=some r:=
 asT 1048576 n n a most (fun z hz=>⟨W_un (ha.2 z hz),(W_un (ha.2 z hz)).2⟩) (by have:=ha.1;omega) hO hO
theorem amI {q:zr}(h0:q.O=none) (h1:wSl zJ q.H) (h2:wSl zJ q.E) (h3:wSl QK q.D) (most:Int) {n:Nat}(hn:3048710≤n):∃ r,abz n q most=some r:=by
 obtain ⟨n,rfl⟩:=hX n 1
 unfold abz
 rw [zq]
 cases ((decide (((sll q.O).length:Int)>most))||(decide (((sll q.D).length:Int)>most)))||(decide (((sll q.G).length:Int)>most)) with
 |true=>exact ⟨_,rfl⟩
 |false=>
  rw [ja]
  simp only [zB]
  generalize IntKind.wrap .i64 ((IntKind.wrap .i64 (((sll q.O).length:Int)+((sll q.D).length:Int)))+((sll q.G).length:Int))=y
  have l5:∀ (K:Int→Option Int),QQ n q most K n y 0=K y:=fun K=>by
   obtain ⟨n,rfl⟩:=hX n 1
   rw [QQ,h0]
   rfl
  have l15:∀ (l:List zI) (p:List zI) (m:Nat) (acc:Int),sll q.D=p++l→l.length<m→∃ r,ZY n q most (fun y13=>some y13) m acc (p.length:Int)=some r:=by
   intro l
   induction l with
   |nil=>
    intro p m acc he hm
    obtain ⟨m,rfl⟩:=hX m 1
    rw [ZY,dF (by rw [he];simp),Bool.false_and,ja]
    exact ⟨_,rfl⟩
   |cons x l ih=>
    intro p m acc he hm
    rw [List.length_cons] at hm
    obtain ⟨m,rfl⟩:=hX m 1
    have hx:=h3.2 x (by rw [he];simp)
    have hlen:=h3.1
    rw [he] at hlen
    simp only [List.length_append,List.length_cons] at hlen
    rw [ZY,dT (by rw [he];simp;omega),jk]
    cases decide (acc≤most) with
    |false=>exact ⟨_,rfl⟩
    |true=>
     rw [jb,show idx (sll q.D) (p.length:Int)=some x by rw [he,aaY];simp,hZ]
     obtain ⟨r,hr⟩:=aeH (a:=some [zi x.Q]) ⟨by simp [sll],fun z hz=>by
      simp only [sll,List.mem_singleton] at hz
      subst hz
      exact hx.2⟩ (IntKind.wrap .i64 (most-acc)) (n:=n) hO
     rw [hr,hZ,abE hO,show p.length+1=(p++[x]).length by simp]
     exact ih (p++[x]) m _ (by rw [he];simp) hO
  have fin:∀ acc:Int,∃ r,ZY n q most (fun y13=>some y13) n acc 0=some r:=fun acc=>l15 (sll q.D) [] n acc rfl (by have:=h3.1;omega)
  have s2:∀ acc:Int,∃ r,(bif decide (acc≤most) then (ado n q.E (IntKind.wrap .i64 (most-acc))).bind fun x27=>ZY n q most (fun y13=>some y13) n (IntKind.wrap .i64 (acc+x27)) 0 else ZY n q most (fun y13=>some y13) n acc 0)=some r:=fun acc=>by
   cases decide (acc≤most) with
   |false=>exact fin acc
   |true=>
    obtain ⟨r,hr⟩:=aeH h2 (IntKind.wrap .i64 (most-acc)) (n:=n) hO
    rw [jb,hr,hZ]
    exact fin _
  rw [l5]
  cases hy:decide (y≤most) with
  |false=>
   have:=s2 y
   rw [hy] at this
   exact this
  |true=>
   obtain ⟨r,hr⟩:=aeH h1 (IntKind.wrap .i64 (most-y)) (n:=n) hO
   rw [jb,hr,hZ]
   exact s2 _
theorem anv:∀ (s:Nat) (x:zh),WD s x→∀ (most:Int) (m n:Nat),s≤m→3048720+s≤n→∃ r,abt m n x most=some r
 |0,x,h,_,_,_,_,_=>h.elim
 |s+1,x,h,most,m,n,hm,hn=>by
  obtain ⟨m,rfl⟩:=hX m 1
  obtain ⟨n,rfl⟩:=hX n 1
  show ∃ r,aem (abt m) (n+1) x most=some r
  obtain ⟨⟨w1,w2,w3,w4,w5,w6,w7,w8⟩,hk,hz⟩:=h
  unfold aem
  rw [zq]
  obtain ⟨r,hr⟩:=amI (q:=zr.mk none x.H false x.E x.D x.G) rfl w3 w6 w7 most (n:=n) hO
  rw [hr,hZ]
  simp only [zB]
  have l5:∀ (l:List PX) (p:List PX) (mm:Nat) (acc:Int),sll x.B=p++l→l.length<mm→∃ r,aad n (abt m) x most (fun y7=>some y7) mm acc (p.length:Int)=some r:=by
   intro l
   induction l with
   |nil=>
    intro p mm acc he hm
    obtain ⟨mm,rfl⟩:=hX mm 1
    rw [aad,dF (by rw [he];simp),Bool.false_and,ja]
    exact ⟨_,rfl⟩
   |cons z l ih=>
    intro p mm acc he hmm
    rw [List.length_cons] at hmm
    obtain ⟨mm,rfl⟩:=hX mm 1
    have hlen:=hk
    rw [he] at hlen
    simp only [List.length_append,List.length_cons] at hlen
    rw [aad,dT (by rw [he];simp;omega),jk]
    cases decide (acc≤most) with
    |false=>exact ⟨_,rfl⟩
    |true=>
     rw [jb,show idx (sll x.B) (p.length:Int)=some z by rw [he,aaY];simp,hZ]
     obtain ⟨r,hr⟩:=anv s (zj z) (hz z (by rw [he];simp)) (IntKind.wrap .i64 (most-acc)) m n hO hO
     rw [hr,hZ,abE hO,show p.length+1=(p++[z]).length by simp]
     exact ih (p++[z]) mm _ (by rw [he];simp) hO
  have fin:∀ acc:Int,∃ r,aad n (abt m) x most (fun y7=>some y7) n acc 0=some r:=fun acc=>l5 (sll x.B) [] n acc rfl hO
  cases decide (IntKind.wrap .i64 (1+r)≤most) with
  |false=>exact fin _
  |true=>
   obtain ⟨r',hr'⟩:=amI (q:=zr.mk none x.J false x.L none none) rfl w4 w5 avc most (n:=n) hO
   rw [jb,hr',hZ]
   exact fin _
theorem arv {s:Nat}{x:zh}(h:WD s x) {n:Nat}(hn:3048730+s≤n):∃ b,ae2 n x=some b:=by
 obtain ⟨n,rfl⟩:=hX n 1
 unfold ae2
 rw [zq]
 obtain ⟨r,hr⟩:=anv s x h 800 n n hO hO
 rw [show ajX n x 800=_ from hr,hZ]
 exact ⟨_,rfl⟩
def ach (k:Int):Int:=if k=1 then 0 else if 5≤k∧k≤7 then 1 else if 2≤k∧k≤4 then 2 else -1
theorem aqx (k:Int) {n:Nat}(hn:1≤n):agR n k=some (ach k):=by
 obtain ⟨n,rfl⟩:=hX n 1
 unfold agR
 rw [zq]
 simp only [zB]
 by_cases h1:k=1
 ·subst h1;rfl
 by_cases h2:k=2
 ·subst h2;rfl
 by_cases h3:k=3
 ·subst h3;rfl
 by_cases h4:k=4
 ·subst h4;rfl
 by_cases h5:k=5
 ·subst h5;rfl
 by_cases h6:k=6
 ·subst h6;rfl
 by_cases h7:k=7
 ·subst h7;rfl
 rw [beqF h1,beqF h2,beqF h3,beqF h4,beqF h5,beqF h6,beqF h7]
 unfold ach
 rw [if_neg hO,if_neg hO,if_neg hO]
 rfl
def nulL (l:List Nat):Bool:=l.all (·==0)
def ahP (k:Int) (w l r o a d:Nat):Bool:=
 bif (k==3)||(k==4) then (l==r)&&!(l==0)&&nulL [o,a,d]
 else bif (k==1)||(k==2) then nulL [l,r,o,a,d]
 else bif k==6 then !(o==0)&&nulL [w,l,r,a,d]
 else bif k==5 then nulL [w,l,r,d]
 else bif k==7 then !(d==0)&&nulL [w,l,r,o,a]
 else nulL [w,l,r,o,a,d]
def afN (x:zh):Bool:=ahP x.A (sll x.H).length (sll x.J).length (sll x.L).length (sll x.E).length (sll x.D).length (sll x.G).length
theorem sum5 {a b c d e:Int}{l:List Nat}(h:l.length≤20) (hl:∀ z,z∈l→z≤1048576) (hs:a+b+c+d+e=((l.sum:Nat):Int)) (p1:0≤a) (p2:0≤b) (p3:0≤c) (p4:0≤d) (p5:0≤e) (hb:a+b+c+d+e≤100000000):
  (IntKind.wrap .i64 ((IntKind.wrap .i64 ((IntKind.wrap .i64 ((IntKind.wrap .i64 (a+b))+c))+d))+e)==0)=nulL l:=by
 rw [ab4 (x:=a+b) hO hO,ab4 (x:=a+b+c) hO hO,ab4 (x:=a+b+c+d) hO hO,ab4 hO hO,hs]
 unfold nulL
 have:∀ (l:List Nat),(((l.sum:Nat):Int)==0)=l.all (·==0):=by
  intro l
  induction l with
  |nil=>rfl
  |cons x l ih=>
   rw [List.sum_cons,List.all_cons,←ih]
   by_cases hx:x=0
   ·subst hx;simp
   rw [show (x==0)=false by simpa using hx,Bool.false_and]
   exact beqF hO
 exact this l
theorem aox {x:zh}(hx:PW x) {n:Nat}(hn:1≤n):afT n x=some (afN x):=by
 obtain ⟨n,rfl⟩:=hX n 1
 obtain ⟨_,_,w3,w4,w5,w6,w7,w8⟩:=hx
 have h3:=w3.1;have h4:=w4.1;have h5:=w5.1;have h6:=w6.1;have h7:=w7.1;have h8:=w8.1
 unfold afT afN
 rw [zq]
 simp only [zB]
 generalize (sll x.H).length=w at *
 generalize (sll x.J).length=l at *
 generalize (sll x.L).length=r at *
 generalize (sll x.E).length=o at *
 generalize (sll x.D).length=a at *
 generalize (sll x.G).length=d at *
 have c0:∀ z:Nat,(((z:Nat):Int)==0)=(z==0):=fun z=>by
  by_cases h:z=0
  ·subst h;rfl
  rw [beqF hO];simp [h]
 have lr:(((l:Int)!=(r:Int))||((l:Int)==0))=!((l==r)&&!(l==0)):=by
  rw [c0,Bool.not_and,Bool.not_not]
  by_cases h:l=r
  ·subst h;simp
  rw [show ((l:Int)!=(r:Int))=true by simp;omega];simp [h]
 have wl:IntKind.wrap .i64 ((l:Int)+(r:Int))=(l:Int)+r:=ab4 hO hO
 have s5:∀ (A B C D E:Int) (q:List Nat),q.length≤20→(∀ z,z∈q→z≤1048576)→A+B+C+D+E=((q.sum:Nat):Int)→0≤A→0≤B→0≤C→0≤D→0≤E→A+B+C+D+E≤100000000→(IntKind.wrap .i64 ((IntKind.wrap .i64 ((IntKind.wrap .i64 ((IntKind.wrap .i64 (A+B))+C))+D))+E)==0)=nulL q:=fun A B C D E q h1 h2 h3 h4 h5 h6 h7 h8 h9=>sum5 h1 h2 h3 h4 h5 h6 h7 h8 h9
 have hq:∀ z,z∈[w,l,r,o,a,d]→z≤1048576:=fun z hz=>by
  simp only [List.mem_cons,List.not_mem_nil,or_false] at hz
  rcases hz with rfl|rfl|rfl|rfl|rfl|rfl<;>assumption
 have hsub:∀ (q:List Nat),(∀ z,z∈q→z∈[w,l,r,o,a,d])→∀ z,z∈q→z≤1048576:=fun q h z hz=>hq z (h z hz)
 rw [wl]
 unfold ahP
 by_cases k3:x.A=3
 ·rw [beqT k3,jb,jb,Bool.true_or,jb,lr]
  cases hh:((l==r)&&!(l==0)) with
  |false=>rfl
  |true=>
   rw [Bool.not_true,ja,jk,s5 _ _ _ _ _ [o,a,d] (by simp) (hsub _ (by simp)) (by simp;omega) hO hO hO hO hO hO]
 rw [beqF k3,ja,Bool.false_or]
 by_cases k4:x.A=4
 ·rw [beqT k4,jb,jb,lr]
  cases hh:((l==r)&&!(l==0)) with
  |false=>rfl
  |true=>
   rw [Bool.not_true,ja,jk,s5 _ _ _ _ _ [o,a,d] (by simp) (hsub _ (by simp)) (by simp;omega) hO hO hO hO hO hO]
 rw [beqF k4,ja,ja]
 by_cases k1:x.A=1
 ·rw [beqT k1,jb,jb,Bool.true_or,jb,s5 _ _ _ _ _ [l,r,o,a,d] (by simp) (hsub _ (by simp)) (by simp;omega) hO hO hO hO hO hO]
 rw [beqF k1,ja,Bool.false_or]
 by_cases k2:x.A=2
 ·rw [beqT k2,beqF (show ¬ x.A=6 by omega),beqF (show ¬ x.A=5 by omega),beqF (show ¬ x.A=7 by omega)]
  simp only [jb,ja]
  rw [s5 _ _ _ _ _ [l,r,o,a,d] (by simp) (hsub _ (by simp)) (by simp;omega) hO hO hO hO hO hO]
 rw [beqF k2,ja,ja]
 by_cases k6:x.A=6
 ·rw [beqT k6,jb,jb,c0]
  cases hh:(o==0) with
  |true=>rfl
  |false=>
   rw [ja,Bool.not_false,jk,s5 _ _ _ _ _ [w,l,r,a,d] (by simp) (hsub _ (by simp)) (by simp;omega) hO hO hO hO hO hO]
 rw [beqF k6,ja,ja]
 by_cases k5:x.A=5
 ·rw [beqT k5,jb,jb,s5 _ _ _ _ _ [w,l,r,d] (by simp) (hsub _ (by simp)) (by simp;omega) hO hO hO hO hO hO]
 rw [beqF k5,ja,ja]
 by_cases k7:x.A=7
 ·rw [beqT k7,jb,jb,c0]
  cases hh:(d==0) with
  |true=>rfl
  |false=>
   rw [ja,Bool.not_false,jk,s5 _ _ _ _ _ [w,l,r,o,a] (by simp) (hsub _ (by simp)) (by simp;omega) hO hO hO hO hO hO]
 rw [beqF k7,ja,ja,s5 _ _ _ _ _ [w,l,r,o,a,d] (by simp) (hsub _ (by simp)) (by simp;omega) hO hO hO hO hO hO]
theorem akr {α:Type}{F:Nat→Int→Option Int}{l:List α}{p:α→Bool}(hl:l.length≤1048576) {m:Nat}(hm:2000000≤m)
  (hF:∀ (m i:Nat) (x:α),(hi:i<l.length)→l[i]=x→F (m+1) (i:Int)=bif p x then some (i:Int) else F m (IntKind.wrap .i64 ((i:Int)+1))) (hE:∀ (m:Nat),F (m+1) (l.length:Int)=some (-1)):
  ((F m 0).bind fun x1=>some (decide (x1≥0)))=some (l.any p):=by
 have key:∀ (q:List α) (i m:Nat),l.drop i=q→i≤l.length→l.length-i<m→((F m (i:Int)).bind fun x1=>some (decide (x1≥0)))=some (q.any p):=by
  intro q
  induction q with
  |nil=>
   intro i m hd hi hm
   obtain ⟨m,rfl⟩:=hX m 1
   have:i=l.length:=by
    have:=congrArg List.length hd
    simp at this;omega
   subst this
   rw [hE];rfl
  |cons x q ih=>
   intro i m hd hi hm
   obtain ⟨m,rfl⟩:=hX m 1
   have hlt:i<l.length:=by
    have:=congrArg List.length hd
    simp at this;omega
   rw [List.drop_eq_getElem_cons hlt] at hd
   injection hd with h1 h2
   rw [hF m i x hlt h1,List.any_cons]
   cases p x with
   |true=>rw [jb,hZ,dT hO];rfl
   |false=>rw [ja,abE hO,ih (i+1) m h2 hO hO];rfl
 exact key l 0 m rfl hO hO
theorem un_W {z:EX}(h:zJ z):Zt (zc z):=W_un h
theorem amK {a:Option (List EX)}(ha:wSl zJ a) {n:Nat}(hn:2000200≤n):ZA n a=some ((sll a).any fun z=>!qO (zc z)):=by
 obtain ⟨n,rfl⟩:=hX n 2
 unfold ZA qy
 rw [zq,zq]
 simp only [zB]
 exact akr (F:=fun m i=>zO n a (fun _=>some (-1)) m i) (l:=sll a) (p:=fun z=>!qO (zc z)) ha.1 (m:=n) hO (fun m i z hi e=>by
  have hz:=ha.2 z (by rw [←e];exact List.getElem_mem hi)
  show zO _ _ _ _ _=_
  rw [zO,dT hO,jb,ZB hi e,hZ]
  have:acN n (zc z)=some (!qO (zc z)):=by
   obtain ⟨n,rfl⟩:=hX n 1
   unfold acN
   rw [zq,afQ (un_W hz) hO];rfl
  rw [show acN n (zf.mk ((zc z).A) ((zc z).C) ((zc z).M) (zn.mk (((zc z).F).A) (((zc z).F).K) (((zc z).F).I) (((zc z).F).N)) ((zc z).B))=_ from this,hZ]) (fun m=>by
  show zO _ _ _ _ _=_
  rw [zO,dF hO,ja])
noncomputable def badA (a:zI):Bool:=decide (a.A<1)||decide (a.A>4)||!qO a.Q
theorem aoz {a:Option (List zI)}(ha:wSl QK a) {n:Nat}(hn:2000200≤n):ZE n a=some ((sll a).any badA):=by
 obtain ⟨n,rfl⟩:=hX n 2
 unfold ZE qG
 rw [zq,zq]
 simp only [zB]
 exact akr (F:=fun m i=>zR n a (fun _=>some (-1)) m i) (l:=sll a) (p:=badA) ha.1 (m:=n) hO (fun m i z hi e=>by
  have hz:=ha.2 z (by rw [←e];exact List.getElem_mem hi)
  show zR _ _ _ _ _=_
  rw [zR,dT hO,jb,ZB hi e,hZ]
  have:adW n z=some (badA z):=by
   obtain ⟨n,rfl⟩:=hX n 1
   unfold adW badA
   rw [zq,afQ hz.2 hO]
   cases (decide (z.A<1)||decide (z.A>4))<;>rfl
  rw [this,hZ]) (fun m=>by
  show zR _ _ _ _ _=_
  rw [zR,dF hO,ja])
def badK (k:Zr):Bool:=decide (k.E<0)||decide (k.E>29)
theorem contains_keys {a:Option (List Zr)}(ha:wSl aey a) {n:Nat}(hn:2000200≤n):ZF n a=some ((sll a).any badK):=by
 obtain ⟨n,rfl⟩:=hX n 2
 unfold ZF qH
 rw [zq,zq]
 simp only [zB]
 exact akr (F:=fun m i=>zQ n a (fun _=>some (-1)) m i) (l:=sll a) (p:=badK) ha.1 (m:=n) hO (fun m i z hi e=>by
  show zQ _ _ _ _ _=_
  rw [zQ,dT hO,jb,ZB hi e,hZ]
  have:afu n z=some (badK z):=by
   obtain ⟨n,rfl⟩:=hX n 1
   rfl
  rw [this,hZ]) (fun m=>by
  show zQ _ _ _ _ _=_
  rw [zQ,dF hO,ja])
noncomputable def okEs (a:Option (List EX)):Bool:=decide ((sll a).length≤60)&&(sll a).all fun z=>qO (zc z)
noncomputable def ajR (x:zh):Bool:=okEs x.H&&okEs x.J&&okEs x.L&&okEs x.E&&(decide ((sll x.D).length≤60)&&!(sll x.D).any badA)&&(decide ((sll x.G).length≤60)&&!(sll x.G).any badK)&&((decide (x.C≥0)&&decide (x.C<12))&&((x.A==1)||(x.C==0)))
theorem aoP {x:zh}(hx:PW x) {n:Nat}(hn:2000300≤n):afL n x=some (ajR x):=by
 obtain ⟨n,rfl⟩:=hX n 1
 obtain ⟨_,_,w3,w4,w5,w6,w7,w8⟩:=hx
 unfold afL
 rw [zq]
 simp only [zB]
 generalize hK:(fun (_:Unit)=>bif (decide (((sll x.D).length:Int)>60)) then some false else (ZE n x.D).bind fun x5=>bif x5 then some false else bif (decide (((sll x.G).length:Int)>60)) then some false else (ZF n x.G).bind fun x9=>bif x9 then some false else some (((decide (x.C≥0))&&(decide (x.C<12)))&&((x.A==1)||(x.C==0))))=K
 have one:∀ (a:Option (List EX)) (rest:Option Bool),wSl zJ a→(bif (decide (((sll a).length:Int)>60)) then some false else (ZA n a).bind fun x19=>bif x19 then some false else rest)=bif okEs a then rest else some false:=fun a rest ha=>by
  unfold okEs
  by_cases h:(sll a).length≤60
  ·rw [dF hO,ja,dT h,jk,amK ha hO,hZ]
   have:((sll a).any fun z=>!qO (zc z))=!((sll a).all fun z=>qO (zc z)):=by rw [List.not_all_eq_any_not]
   rw [this]
   cases (sll a).all fun z=>qO (zc z)<;>rfl
  rw [dT hO,jb,dF h,Bool.false_and,ja]
 have hK0:K ()=some ((decide ((sll x.D).length≤60)&&!(sll x.D).any badA)&&(decide ((sll x.G).length≤60)&&!(sll x.G).any badK)&&((decide (x.C≥0)&&decide (x.C<12))&&((x.A==1)||(x.C==0)))):=by
  rw [←hK]
  simp only
  by_cases h:(sll x.D).length≤60
  ·rw [dF hO,ja,dT h,jk,aoz w7 hO,hZ]
   cases (sll x.D).any badA with
   |true=>rfl
   |false=>
    rw [ja,Bool.not_false,jk]
    by_cases h:(sll x.G).length≤60
    ·rw [dF hO,ja,dT h,jk,contains_keys w8 hO,hZ]
     cases (sll x.G).any badK<;>rfl
    rw [dT hO,jb,dF h,Bool.false_and,Bool.false_and]
  rw [dT hO,jb,dF h,Bool.false_and,Bool.false_and,Bool.false_and]
 obtain ⟨n',e'⟩:∃ j,n=j+5:=⟨n-5,hO⟩
 have step:∀ (m:Nat) (i:Int) (a:Option (List EX)),wSl zJ a→i<4→idx ([x.H,x.J,x.L,x.E]:List jl) i=some a→Qq n x K (m+1) i=bif okEs a then Qq n x K m (IntKind.wrap .i64 (i+1)) else some false:=fun m i a ha hi he=>by
  rw [Qq,dT hi,jb,he,hZ]
  exact one a _ ha
 have s1:Qq n x K n 0=Qq n x K (n'+5) 0:=by rw [←e']
 rw [s1,step _ 0 _ w3 hO rfl,step _ (IntKind.wrap .i64 (0+1)) _ w4 (by decide) rfl,step _ (IntKind.wrap .i64 ((IntKind.wrap .i64 (0+1))+1)) _ w5 (by decide) rfl,step _ (IntKind.wrap .i64 ((IntKind.wrap .i64 ((IntKind.wrap .i64 (0+1))+1))+1)) _ w6 (by decide) rfl]
 rw [show Qq n x K (n'+1) (IntKind.wrap .i64 ((IntKind.wrap .i64 ((IntKind.wrap .i64 ((IntKind.wrap .i64 (0+1))+1))+1))+1))=K () from rfl,hK0]
 unfold ajR
 cases okEs x.H<;>cases okEs x.J<;>cases okEs x.L<;>cases okEs x.E<;>rfl
noncomputable def acg (x:zh):Bool:=(ach x.A==((sll x.B).length:Int))&&(afN x&&ajR x)
noncomputable def frmP:Nat→zh→Option Nat
 |0,_=>none
 |r+1,x=>bif acg x then (sumO (fun z=>frmP r (zj z)) (sll x.B)).map (·+1) else none
theorem aus {r:Nat}{x:zh}{c:Nat}(h:frmP r x=some c):1≤c:=by
 cases r with
 |zero=>cases h
 |succ r=>
  unfold frmP at h
  cases hn:acg x with
  |false=>rw [hn] at h;cases h
  |true=>
   rw [hn,jb,jh] at h
   obtain ⟨a,_,rfl⟩:=h
   omega
theorem aec {r:Nat}{x:zh}{c:Nat}(h:frmP (r+1) x=some c):acg x=true∧∀ z,z∈sll x.B→∃ a,frmP r (zj z)=some a∧a<c:=by
 unfold frmP at h
 cases hn:acg x with
 |false=>rw [hn] at h;cases h
 |true=>
  rw [hn,jb,jh] at h
  obtain ⟨a,ha,rfl⟩:=h
  refine ⟨rfl,fun z hz=>?_⟩
  obtain ⟨b,q1,q2⟩:=anN ha z hz
  exact ⟨b,q1,hO⟩
theorem apn {α:Type}{f g:α→Option Nat}(h:∀ z c,f z=some c→g z=some c):∀ (l:List α) (c:Nat),sumO f l=some c→sumO g l=some c
 |[],c,e=>e
 |z::l,c,e=>by
  unfold sumO at e ⊢
  split at e
  ·rename_i a b e1 e2
   rw [h z a e1,apn h l b e2];exact e
  cases e
theorem apq:∀ (r:Nat) (x:zh) (c:Nat),frmP r x=some c→frmP (r+1) x=some c
 |0,x,c,h=>by cases h
 |r+1,x,c,h=>by
  unfold frmP at h ⊢
  cases hn:acg x with
  |false=>rw [hn] at h;cases h
  |true=>
   rw [hn,jb] at h
   rw [jb]
   rw [jh] at h ⊢
   obtain ⟨a,ha,e⟩:=h
   exact ⟨a,apn (fun z c hz=>apq r _ c hz) _ _ ha,e⟩
theorem atN:∀ (r:Nat),r≤24→∀ (s:Nat) (x:zh),WD s x→∀ (left:Int),left≤40→-1≤left→∀ m n,r+1≤m→2000400+r≤n→
  QR m n x (25-(r:Int)) left=some (ain (frmP r x) left):=by
 intro r
 induction r with
 |zero=>
  intro hr s x hw left h4 h0 m n hm hn
  obtain ⟨m,rfl⟩:=hX m 1
  obtain ⟨n,rfl⟩:=hX n 1
  show abx (QR m) (n+1) x _ left=_
  unfold abx
  rw [zq,dT hO,jb]
  rfl
 |succ r ih=>
  intro hr s x hw left h4 h0 m n hm hn
  obtain ⟨m,rfl⟩:=hX m 1
  obtain ⟨n,rfl⟩:=hX n 1
  cases s with
  |zero=>exact hw.elim
  |succ s=>
  obtain ⟨hPW,hklen,hkW⟩:=hw
  show abx (QR m) (n+1) x _ left=_
  unfold abx
  rw [zq,dF hO,ja]
  by_cases hl:left<1
  ·rw [dT hl,jb]
   unfold ain
   cases hf:frmP (r+1) x with
   |none=>rfl
   |some c=>
    have:=aus hf
    simp only
    rw [if_neg hO]
  rw [dF hl,ja,aqx _ hO,hZ]
  rw [frmP]
  unfold acg
  by_cases hk:ach x.A=((sll x.B).length:Int)
  ·rw [show (ach x.A !=((sll x.B).length:Int))=false by simp [hk],ja,show (ach x.A==((sll x.B).length:Int))=true by simp [hk],jk]
   rw [show zh.mk x.A x.C x.H x.J x.L x.E x.D x.G x.B=x from rfl,aox hPW hO,hZ]
   cases hfd:afN x with
   |false=>rfl
   |true=>
    rw [Bool.not_true,ja,jk,aoP hPW hO,hZ]
    cases hpd:ajR x with
    |false=>rfl
    |true=>
    rw [Bool.not_true,ja,jb]
    show zB (fun k15=>abR n (QR m) x (25-((r+1:Nat):Int)) k15 n (IntKind.wrap .i64 (left-1)) 0) (fun (y9:Int)=>some y9)=_
    unfold zB
    rw [ab4 hO hO]
    have key:=ajY (f:=fun z=>frmP r (zj z)) (K:=fun y9=>some y9) (F:=fun m' left' i=>abR n (QR m) x (25-((r+1:Nat):Int)) (fun y9=>some y9) m' left' i) (ks:=sll x.B)
     (C:=fun z left'=>QR m n (zj z) (IntKind.wrap .i64 ((25-((r+1:Nat):Int))+1)) left')
     (fun m' left' i=>rfl) (B:=40) hO (fun z hz left' h1 h2=>by
      show QR m n (zj z) (IntKind.wrap .i64 ((25-((r+1:Nat):Int))+1)) left'=_
      rw [ab4 hO hO,show (25-((r+1:Nat):Int))+1=25-(r:Int) by omega]
      exact ih hO s _ (hkW z hz) left' h2 hO m n hO hO) hklen (sll x.B) n [] (left-1) rfl hO hO hO
    refine Eq.trans key ?_
    cases hs:sumO (fun z=>frmP r (zj z)) (sll x.B) with
    |none=>rfl
    |some c=>
     simp only [Option.map_some,ain]
     by_cases hc:(c:Int)≤left-1
     ·rw [if_pos hc,if_pos hO];congr 1;omega
     rw [if_neg hc,if_neg hO]
  rw [show (ach x.A !=((sll x.B).length:Int))=true by simp [hk],jb,show (ach x.A==((sll x.B).length:Int))=false by simp [hk],Bool.false_and]
  rfl
noncomputable def aee (x:zh):Bool:=match frmP 24 x with
 |some c=>decide (c≤40)
 |none=>false
theorem an0 {s:Nat}{x:zh}(hw:WD s x) {n:Nat}(hn:2000500≤n):adH n x=some (aee x):=by
 obtain ⟨n,rfl⟩:=hX n 1
 unfold adH
 rw [zq]
 have:=atN 24 hO s x hw 40 hO hO n n hO hO
 rw [show (25-((24:Nat):Int))=1 from rfl] at this
 rw [show aka n x 1 40=some _ from this,hZ]
 unfold aee ain
 cases frmP 24 x with
 |none=>rfl
 |some c=>exact congrArg some (decide_eq_decide.2 (by simp only;split<;>omega))
theorem alJ {x:zh}(h:aee x=true):∃ c,frmP 24 x=some c∧c≤40:=by
 unfold aee at h
 split at h
 ·rename_i c hc;exact ⟨c,hc,by simpa using h⟩
 cases h
def seeF (x:zh) (a:Int):Int:=bif ((x.A==1)&&(decide (x.C≥0)))&&(decide (x.C<32)) then iOr .u32 a (iShl .u32 1 (IntKind.wrap .u64 x.C)) else a
noncomputable def agE:Nat→zh→Int→Int
 |0,_,a=>a
 |s+1,x,a=>seeF x ((sll x.B).foldl (fun acc z=>agE s (zj z) acc) a)
theorem ann (a:Int) (x:zh) {n:Nat}(hn:1≤n):abk n a x=some (seeF x a):=by
 obtain ⟨n,rfl⟩:=hX n 1
 unfold abk seeF
 rw [zq]
 cases hq:((x.A==1)&&(decide (x.C≥0)))&&(decide (x.C<32)) with
 |false=>rfl
 |true=>
  rw [jj,jj,decide_eq_true_eq,decide_eq_true_eq] at hq
  have:ckN (IntKind.wrap .u64 x.C)=some ():=by rw [anR hO hO];unfold ckN;split<;>first|rfl|omega
  rw [jb,jb,this];rfl
theorem alc {α S R:Type}{F:Nat→S→Int→Option R}{ks:List α}{f:S→α→S}{K:S→Option R}
  (hF:∀ (m i:Nat) (s:S) (z:α),(hi:i<ks.length)→ks[i]=z→F (m+1) s (i:Int)=F m (f s z) (IntKind.wrap .i64 ((i:Int)+1)))
  (hE:∀ (m:Nat) (s:S),F (m+1) s (ks.length:Int)=K s) (hks:ks.length≤1048576):
  ∀ (l p:List α) (m:Nat) (s:S),ks=p++l→l.length<m→F m s (p.length:Int)=K (l.foldl f s)
 |[],p,m,s,he,hm=>by
  obtain ⟨m,rfl⟩:=hX m 1
  have:ks.length=p.length:=by rw [he];simp
  rw [←this,hE];rfl
 |z::l,p,m,s,he,hm=>by
  obtain ⟨m,rfl⟩:=hX m 1
  rw [List.length_cons] at hm
  have hlen:ks.length=p.length+(l.length+1):=by rw [he];simp
  rw [hF m p.length s z hO (by simp [he]),abE hO,show p.length+1=(p++[z]).length by simp,alc hF hE hks l (p++[z]) m _ (by rw [he];simp) hO]
  rfl
theorem as2:∀ (s:Nat) (x:zh),WD s x→∀ (k m n:Nat) (a:Int),s≤k→s≤m→2000000+s≤n→qP m n a x=some (agE k x a)
 |0,x,h,_,_,_,_,_,_,_=>h.elim
 |s+1,x,h,k,m,n,a,hk,hm,hn=>by
  obtain ⟨k,rfl⟩:=hX k 1
  obtain ⟨m,rfl⟩:=hX m 1
  obtain ⟨n,rfl⟩:=hX n 1
  obtain ⟨_,h1,h2⟩:=h
  show Ql (qP m) (n+1) a x=_
  unfold Ql
  rw [zq,agE]
  unfold zB
  refine Eq.trans (alc (F:=fun m' acc i=>ZL n (qP m) x (fun (y1:Int)=>(abk n y1 x).bind fun x6=>some x6) m' acc i) (ks:=sll x.B) (f:=fun acc z=>agE k (zj z) acc) (K:=fun (y1:Int)=>(abk n y1 x).bind fun x6=>some x6) (fun m' i acc z hi e=>?_) (fun m' acc=>?_) h1 (sll x.B) [] n a rfl hO) ?_
  ·show ZL _ _ _ _ _ _ _=_
   rw [ZL,dT hO,jb,ZB hi e,hZ,as2 s (zj z) (h2 z (by rw [←e];exact List.getElem_mem hi)) k m n acc hO hO hO,hZ]
  ·show ZL _ _ _ _ _ _ _=_
   rw [ZL,dF hO,ja]
  show (abk n _ x).bind _=_
  rw [ann _ _ hO];rfl
noncomputable def ads (x:zh):Int:=agE 131073 x 0
theorem ahc {s:Nat}{x:zh}(h:WD s x) (hs:s≤131073) {n:Nat}(hn:2000010+s≤n):aaj n x=some (ads x):=by
 obtain ⟨n,rfl⟩:=hX n 1
 unfold aaj ads
 rw [zq,show abY n 0 x=_ from as2 s x h 131073 n n 0 hs hO hO]
 rfl
theorem asR (x:BitVec 32):IntKind.wrap .u32 (x.toNat:Int)=(x.toNat:Int):=by
 have:=x.isLt
 simp [IntKind.wrap,IntKind.signed,IntKind.bits]
 omega
theorem atI (r S:Int):aeM .u32 r S=((BitVec.ofInt 32 r &&& ~~~BitVec.ofInt 32 S).toNat:Int):=asR _
theorem akf (r S:Int):iOr .u32 r S=((BitVec.ofInt 32 r ||| BitVec.ofInt 32 S).toNat:Int):=asR _
theorem nat0 (x:BitVec 32):(((x.toNat:Nat):Int)==0)=true↔x=0#32:=by
 rw [beq_iff_eq]
 constructor
 ·intro h;apply BitVec.eq_of_toNat_eq;simp;omega
 rintro rfl;simp
theorem avr (x:BitVec 32):BitVec.ofInt 32 (x.toNat:Int)=x:=by simp
theorem aqi {S:Int}(h:wI .u32 S):((BitVec.ofInt 32 S).toNat:Int)=S:=by
 have h1:0≤S:=h.1
 have h2:S≤4294967295:=h.2
 rw [BitVec.toNat_ofInt];omega
theorem awN (r s:BitVec 32):r ||| s=s↔r &&& ~~~s=0#32:=by
 constructor
 ·intro h
  apply BitVec.eq_of_getLsbD_eq
  intro i hi
  have:=congrArg (fun x=>x.getLsbD i) h
  simp only [BitVec.getLsbD_or] at this
  simp only [BitVec.getLsbD_and,BitVec.getLsbD_not,BitVec.getLsbD_zero,hi,decide_true,jk]
  cases hr:r.getLsbD i<;>cases hs:s.getLsbD i<;>rw [hr,hs] at this<;>simp at this ⊢
 intro h
 apply BitVec.eq_of_getLsbD_eq
 intro i hi
 have:=congrArg (fun x=>x.getLsbD i) h
 simp only [BitVec.getLsbD_and,BitVec.getLsbD_not,BitVec.getLsbD_zero,hi,decide_true,jk] at this
 simp only [BitVec.getLsbD_or]
 cases hr:r.getLsbD i<;>cases hs:s.getLsbD i<;>rw [hr,hs] at this<;>simp at this ⊢
theorem wIor (a b:Int):wI .u32 (iOr .u32 a b):=by
 rw [akf]
 generalize BitVec.ofInt 32 a ||| BitVec.ofInt 32 b=x
 have h:=x.isLt
 exact ⟨by show (0:Int)≤_;omega,by show _≤(4294967295:Int);omega⟩
theorem avN (x:Int):wI .u32 (IntKind.wrap .u32 x):=by
 constructor
 ·show (0:Int)≤_
  simp only [IntKind.wrap,IntKind.signed,IntKind.bits];simp;omega
 show _≤(4294967295:Int)
 simp only [IntKind.wrap,IntKind.signed,IntKind.bits];simp;omega
theorem aof (k:Int) {n:Nat}(hn:1≤n):af4 n k=some (aeq k):=by
 obtain ⟨n,rfl⟩:=hX n 1
 unfold af4
 rw [zq]
 by_cases h:k<1∨k>13
 ·have:(decide (k<1)||decide (k>13))=true:=by
   rcases h with h|h
   ·rw [dT h,Bool.true_or]
   rw [dT (p:=k>13) h,Bool.or_true]
  rw [this,jb]
  unfold aeq
  rw [if_neg hO,if_neg hO,if_neg hO]
 rw [dF hO,dF hO,Bool.or_self,ja,awU hO,hZ]
 have:k=1∨k=2∨k=3∨k=4∨k=5∨k=6∨k=7∨k=8∨k=9∨k=10∨k=11∨k=12∨k=13:=by omega
 rcases this with rfl|rfl|rfl|rfl|rfl|rfl|rfl|rfl|rfl|rfl|rfl|rfl|rfl<;>rfl
def acV (o:Option Nat):Int:=match o with
 |some c=>if c≤400 then (c:Int) else 401
 |none=>401
theorem am2 {α:Type}{f:α→Option Nat}{F:Nat→Int→Int→Option Int}{ks:List α}{C:α→Option Int}
  (hF:∀ m acc i,F (m+1) acc i=bif decide (i<(ks.length:Int)) then (idx ks i).bind fun z=>(C z).bind fun r=>bif decide (IntKind.wrap .i64 (acc+r)>400) then some 401 else F m (IntKind.wrap .i64 (acc+r)) (IntKind.wrap .i64 (i+1)) else some acc)
  (hC:∀ z,z∈ks→C z=some (acV (f z))) (hks:ks.length≤1048576):
  ∀ (l:List α) (m:Nat) (p:List α) (acc:Nat),ks=p++l→l.length<m→acc≤400→
   F m (acc:Int) (p.length:Int)=some (acV ((sumO f l).map (·+acc)))
 |[],m,p,acc,he,hm,h0=>by
  obtain ⟨m,rfl⟩:=hX m 1
  rw [hF,dF (by rw [he];simp),ja]
  simp only [sumO,Option.map_some,acV,Nat.zero_add]
  rw [if_pos h0]
 |z::l,m,p,acc,he,hm,h0=>by
  obtain ⟨m,rfl⟩:=hX m 1
  rw [List.length_cons] at hm
  have hz:z∈ks:=by rw [he];simp
  have hix:idx ks (p.length:Int)=some z:=by rw [he,aaY];simp
  rw [hF,dT (by rw [he];simp;omega),jb,hix,hZ,hC z hz,hZ]
  have hlen:ks.length=p.length+(l.length+1):=by rw [he];simp
  rw [abE hO]
  have e:p.length+1=(p++[z]).length:=by simp
  obtain ⟨v,hv⟩:∃ v,v=acV (f z):=⟨_,rfl⟩
  rw [←hv]
  have bad:∀ o:Option Nat,(∀ c,o=some c→400<c)→some (401:Int)=some (acV o):=fun o ho=>by
   cases o with
   |none=>rfl
   |some c=>have:=ho c rfl;simp only [acV];rw [if_neg hO]
  cases hf:f z with
  |none=>
   rw [hf] at hv
   rw [show v=401 from hv,ab4 hO hO,dT hO,jb]
   unfold sumO
   rw [hf];rfl
  |some a=>
   rw [hf] at hv
   simp only [acV] at hv
   unfold sumO
   rw [hf]
   by_cases ha:a≤400
   ·rw [if_pos ha] at hv
    subst hv
    rw [ab4 hO hO]
    by_cases hs:acc+a≤400
    ·rw [dF hO,ja,e,show (acc:Int)+(a:Int)=((acc+a:Nat):Int) by omega,am2 hF hC hks l m (p++[z]) (acc+a) (by rw [he];simp) hO hs]
     cases hso:sumO f l with
     |none=>rfl
     |some b=>
      simp only [Option.map_some]
      rw [show b+(acc+a)=a+b+acc by omega]
    rw [dT hO,jb]
    refine bad _ fun c hc=>?_
    cases hso:sumO f l with
    |none=>rw [hso] at hc;cases hc
    |some b=>rw [hso] at hc;simp only [Option.map_some,Option.some.injEq] at hc;omega
   rw [if_neg ha] at hv
   subst hv
   rw [ab4 hO hO,dT hO,jb]
   refine bad _ fun c hc=>?_
   cases hso:sumO f l with
   |none=>rw [hso] at hc;cases hc
   |some b=>rw [hso] at hc;simp only [Option.map_some,Option.some.injEq] at hc;omega
theorem ar3:∀ (r:Nat),r≤24→∀ (x:zf),Zt x→∀ m n,r+1≤m→2000010+r≤n→
  Qt m n x (25-(r:Int))=some (acV (frmE r x)):=by
 intro r
 induction r with
 |zero=>
  intro hr x hw m n hm hn
  obtain ⟨m,rfl⟩:=hX m 1
  obtain ⟨n,rfl⟩:=hX n 1
  show aaO (Qt m) (n+1) x _=_
  unfold aaO
  rw [zq]
  simp only [zB]
  rw [dT hO,jb]
  rfl
 |succ r ih=>
  intro hr x hw m n hm hn
  obtain ⟨m,rfl⟩:=hX m 1
  obtain ⟨n,rfl⟩:=hX n 1
  show aaO (Qt m) (n+1) x _=_
  unfold aaO
  rw [zq]
  simp only [zB]
  rw [dF hO,ja,aof _ hO,hZ,frmE]
  unfold ako
  by_cases hk:aeq x.A=((sll x.B).length:Int)
  ·rw [show (aeq x.A !=((sll x.B).length:Int))=false by simp [hk],ja,show (aeq x.A==((sll x.B).length:Int))=true by simp [hk],jk]
   have key:=am2 (f:=fun z=>frmE r (zc z)) (F:=fun m' acc i=>aa0 n (Qt m) x (25-((r+1:Nat):Int)) (fun y9=>some y9) m' acc i) (ks:=sll x.B)
      (C:=fun z=>Qt m n (zc z) (IntKind.wrap .i64 ((25-((r+1:Nat):Int))+1)))
      (fun m' acc i=>rfl) (fun z hz=>by
       show Qt m n (zc z) (IntKind.wrap .i64 ((25-((r+1:Nat):Int))+1))=_
       rw [ab4 hO hO,show (25-((r+1:Nat):Int))+1=25-(r:Int) by omega]
       exact ih hO _ (ajx hw hz) m n hO hO) (ac8 hw) (sll x.B) n [] 1 rfl (by have:=ac8 hw;omega) hO
   have tail:((acb n x.F).bind fun x3=>bif ((!x3)||((x.A !=2)&&(x.F.A !=0))) then some 401 else aa0 n (Qt m) x (25-((r+1:Nat):Int)) (fun y9=>some y9) n 1 0)=some (acV (bif acf x.F&&((x.A==2)||(x.F.A==0)) then (sumO (fun z=>frmE r (zc z)) (sll x.B)).map (·+1) else none)):=by
    rw [aij (ap6 hw) hO,hZ]
    have hb:((!acf x.F)||((x.A !=2)&&(x.F.A !=0)))=!(acf x.F&&((x.A==2)||(x.F.A==0))):=by
     rw [Bool.not_and,Bool.not_or];rfl
    rw [hb]
    cases (acf x.F&&((x.A==2)||(x.F.A==0))) with
    |false=>rfl
    |true=>exact key
   unfold ahh inE
   by_cases h1:x.C<0
   ·rw [dT h1,jb,dF (p:=x.C≥0) hO];simp [acV]
   rw [dF h1,ja,dT (p:=x.C≥0) hO,jk]
   by_cases h2:x.C>31
   ·rw [dT h2,jb,dF (p:=x.C≤31) hO];simp [acV]
   rw [dF h2,ja,dT (p:=x.C≤31) hO,Bool.and_true]
   by_cases h3:x.M<0
   ·rw [dT h3,jb,dF (p:=x.M≥0) hO];simp [acV]
   rw [dF h3,ja,dT (p:=x.M≥0) hO,jk]
   by_cases h4:x.M>31
   ·rw [dT h4,jb,dF (p:=x.M≤31) hO];simp [acV]
   rw [dF h4,ja,dT (p:=x.M≤31) hO,Bool.and_true]
   cases hk1:(x.A !=1) with
   |false=>
    rw [ja,Bool.false_and,Bool.not_false,jk]
    exact tail
   |true=>
    rw [jb,jk]
    cases (x.C !=0) with
    |true=>simp [acV]
    |false=>
     cases (x.M !=0) with
     |true=>simp [acV]
     |false=>exact tail
  rw [show (aeq x.A !=((sll x.B).length:Int))=true by simp [hk],jb,show (aeq x.A==((sll x.B).length:Int))=false by simp [hk],Bool.false_and]
  rfl
theorem aff {x:zf}(hw:Zt x) {n:Nat}(hn:2000100≤n):aaC n x=some (qO x):=by
 obtain ⟨n,rfl⟩:=hX n 1
 unfold aaC
 rw [zq]
 have:=ar3 24 hO x hw n n hO hO
 rw [show (25-((24:Nat):Int))=1 from rfl] at this
 rw [show aiT n x 1=some _ from this,hZ]
 unfold qO acV
 cases frmE 24 x with
 |none=>rfl
 |some c=>exact congrArg some (decide_eq_decide.2 (by simp only;split<;>omega))
end Go.Pl
