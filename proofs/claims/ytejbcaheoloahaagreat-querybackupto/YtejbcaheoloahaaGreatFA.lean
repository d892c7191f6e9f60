import Derived.Test.YtejbcaheoloahaaGreatPL
import Derived.Test.YtejbcaheoloahaaGreatPA
import Derived.Test.YtejbcaheoloahaaGreatAbFlt
import Derived.Test.YtejbcaheoloahaaGreatPL
set_option linter.all false
namespace Go.Pl
open Go Go.Ab
theorem ard {f:Nat}(h:wF .f64 f):f<2^64:=by
 unfold wF at h
 simpa [Lit.wf] using h
def posZ (f:Nat):Bool:=isZero f&&!aqn f
def empS (s:ByteArray):Bool:=sEq s ByteArray.empty
def abr (v:zp):Bool:=
 if v.A=0 then v.J==0&&(posZ v.O&&empS v.L)
 else if v.A=1 then (v.J==0||v.J==1)&&(posZ v.O&&empS v.L)
 else if v.A=2 then posZ v.O&&empS v.L
 else if v.A=3 then v.J==0&&empS v.L
 else if v.A=4 then v.J==0&&(posZ v.O&&decide ((v.L.size:Int)≤64))
 else false
theorem akL (f:Nat) {n:Nat}(h:1≤n):aef n f=some (aqn f):=by
 obtain ⟨n,rfl⟩:∃ k,n=k+1:=⟨n-1,hZ⟩
 rfl
theorem atd {α:Type}{a b:Int}{x y:α}:(bif a==b then x else y)=if a=b then x else y:=by
 by_cases h:a=b
 ·simp [h]
 have:(a==b)=false:=by simpa using h
 rw [this];simp [h]
def vR (y:Bool) (v:zp):Bool:=
 if v.A=0 then v.J==0&&(y&&empS v.L)
 else if v.A=1 then (v.J==0||v.J==1)&&(y&&empS v.L)
 else if v.A=2 then y&&empS v.L
 else if v.A=3 then v.J==0&&empS v.L
 else if v.A=4 then v.J==0&&(y&&decide ((v.L.size:Int)≤64))
 else false
theorem asn (y:Bool) (v:zp):(bif (v.A==0) then some (((v.J==0)&&y)&&(sEq v.L ByteArray.empty)) else bif (v.A==1) then bif ((v.J !=0)&&(v.J !=1)) then some false else some (y&&(sEq v.L ByteArray.empty)) else bif (v.A==2) then some (y&&(sEq v.L ByteArray.empty)) else bif (v.A==3) then some ((v.J==0)&&(sEq v.L ByteArray.empty)) else bif (v.A==4) then some (((v.J==0)&&y)&&(decide ((v.L.size:Int)≤64))) else some false)=some (vR y v):=by
 simp only [atd]
 unfold vR
 split
 ·simp [empS,Bool.and_assoc]
 split
 ·unfold empS
  by_cases h0:v.J=0
  ·simp [h0]
  by_cases h1:v.J=1
  ·simp [h1]
  have e0:(v.J==0)=false:=by simpa using h0
  have e1:(v.J==1)=false:=by simpa using h1
  have e2:(v.J !=0)=true:=by simp [bne,e0]
  have e3:(v.J !=1)=true:=by simp [bne,e1]
  rw [e0,e1,e2,e3];simp
 split
 ·rfl
 split
 ·rfl
 split
 ·simp [Bool.and_assoc]
 rfl
theorem aes (v:zp) {n:Nat}(h:2≤n):aaY n v=some (abr v):=by
 obtain ⟨n,rfl⟩:∃ k,n=k+1:=⟨n-1,hZ⟩
 unfold aaY
 simp only [zx,zE]
 rw [akL _ hZ]
 simp only [jc]
 rw [asn,asn]
 show _=some (vR (posZ v.O) v)
 unfold posZ isZero
 cases FloatKind.f64.format.order v.O 0==some .eq<;>rfl
abbrev zeroV:zp:=zp.mk 0 0 0 ByteArray.empty
theorem apV:ZN zeroV:=by
 refine ⟨⟨?_,?_⟩,⟨?_,?_⟩,?_,?_⟩
 ·show (-9223372036854775808:Int)≤0;decide
 ·show (0:Int)≤9223372036854775807;decide
 ·show (-9223372036854775808:Int)≤0;decide
 ·show (0:Int)≤9223372036854775807;decide
 ·show (Lit.float .f64 0).wf=true;decide
 show (0:Nat)≤1048576;decide
def fLt (x y:Nat):Bool:=FloatKind.f64.format.order x y==some .lt
def fGt (x y:Nat):Bool:=FloatKind.f64.format.order x y==some .gt
def fC (x y:Nat):Int:=
 bif Qu x&&Qu y then 0 else bif Qu x then 1 else bif Qu y then -1 else bif fLt x y then -1 else bif fGt x y then 1 else 0
theorem akJ (x y:Nat) {n:Nat}(h:2≤n):aea n x y=some (fC x y):=by
 obtain ⟨n,rfl⟩:∃ k,n=k+2:=⟨n-2,hZ⟩
 show (bif (Qu x&&Qu y) then some 0 else bif Qu x then some 1 else bif Qu y then some (-1) else bif fLt x y then some (-1) else bif fGt x y then some 1 else some 0)=some (fC x y)
 unfold fC
 cases Qu x<;>cases Qu y<;>cases fLt x y<;>cases fGt x y<;>rfl
theorem anz {x y:Nat}(hx:Qu x=true):fC x y=bif Qu y then 0 else 1:=by
 unfold fC;rw [hx];cases Qu y<;>rfl
theorem aqd {x y:Nat}(hy:Qu y=true):fC x y=bif Qu x then 0 else -1:=by
 unfold fC;rw [hy];cases Qu x<;>rfl
def fNan (f:Nat):Nat:=bif Qu f then 9221120237041090561 else f
theorem afO (f:Nat):Qu (fNan f)=Qu f:=by
 unfold fNan
 cases h:Qu f with
 |true=>exact (show Qu 9221120237041090561=true by decide)
 |false=>exact h
theorem ass (x y:Nat):fC (fNan x) (fNan y)=fC x y:=by
 cases hx:Qu x with
 |true=>rw [anz (by rw [afO,hx]),anz hx,afO]
 |false=>
  cases hy:Qu y with
  |true=>rw [aqd (by rw [afO,hy]),aqd hy,afO]
  |false=>unfold fNan;rw [hx,hy];rfl
def Q9 (v:zp):zp:=
 bif !abr v then zeroV else bif (v.A==3)&&isZero v.O then zp.mk 3 0 0 ByteArray.empty else v
def iC (a b:Int):Int:=if a<b then -1 else if a>b then 1 else 0
def sC (a b:ByteArray):Int:=bif sLt a b then -1 else bif !(sLt a b||sEq a b) then 1 else 0
def vC (p q:zp):Int:=if p.A≠q.A then iC p.A q.A else if p.A=3 then fC p.O q.O else if p.A=4 then sC p.L q.L else iC p.J q.J
def vCmp (a b:zp):Int:=vC (Q9 a) (Q9 b)
def vNan (p:zp):zp:=bif p.A==3 then zp.mk p.A p.J (fNan p.O) p.L else p
theorem atv {v:zp}(h:abr v=true) (hk:v.A=3):v.J=0∧v.L=ByteArray.empty:=by
 unfold abr at h
 rw [hk] at h
 simp at h
 exact ⟨h.1,ahu.1 h.2⟩
theorem aeI {v:zp}(hv:ZN v) {n:Nat}(h:3≤n):abG n v=some (vNan (Q9 v)):=by
 obtain ⟨n,rfl⟩:∃ k,n=k+2:=⟨n-2,hZ⟩
 unfold abG
 rw [zx,aes v hZ,jc]
 unfold Q9
 cases hr:abr v with
 |false=>rfl
 |true=>
  simp only [Bool.not_true,jd,zE]
  cases hk:v.A==3 with
  |false=>
   simp only [jd,Bool.false_and]
   unfold vNan;rw [hk];rfl
  |true=>
   have h3:v.A=3:=by simpa using hk
   obtain ⟨h1,h2⟩:=atv hr h3
   simp only [je,jn]
   have e0:adn (n+1) v.O=some (Qu v.O):=rfl
   rw [e0,jc]
   have e1:((FloatKind.format .f64).order v.O 0==some .eq)=isZero v.O:=rfl
   rw [e1]
   cases hn:Qu v.O with
   |true=>
    rw [afK (ard hv.2.2.1) hn]
    simp only [je,jd]
    unfold vNan
    rw [hk,je]
    unfold fNan
    rw [hn];rfl
   |false=>
    cases hz:isZero v.O with
    |true=>
     simp only [je,jd]
     rw [h3,h1,h2]
     rfl
    |false=>
     simp only [jd]
     unfold vNan fNan
     rw [hk,hn];rfl
theorem aqL (p:zp):(vNan p).A=p.A:=by unfold vNan;cases p.A==3<;>rfl
theorem asi (p:zp):(vNan p).J=p.J:=by unfold vNan;cases p.A==3<;>rfl
theorem aqV (p:zp):(vNan p).L=p.L:=by unfold vNan;cases p.A==3<;>rfl
theorem al6 {p:zp}(h:p.A=3):(vNan p).O=fNan p.O:=by unfold vNan;rw [h];rfl
theorem ao6 (a b:Int) {n:Nat}(h:2≤n):abh n a b=some (iC a b):=by
 obtain ⟨n,rfl⟩:∃ k,n=k+2:=⟨n-2,hZ⟩
 unfold abh acj
 simp only [zx,jc,bne_self_eq_false,jd]
 unfold iC
 by_cases h1:a<b
 ·simp [h1]
 by_cases h2:b<a<;>simp [h1,h2]
theorem an5 (a b:Int) {n:Nat}(h:2≤n):aaz n a b=some (iC a b):=by
 obtain ⟨n,rfl⟩:∃ k,n=k+2:=⟨n-2,hZ⟩
 unfold aaz abd
 simp only [zx,jc,bne_self_eq_false,jd]
 unfold iC
 by_cases h1:a<b
 ·simp [h1]
 by_cases h2:b<a<;>simp [h1,h2]
theorem amD (a b:ByteArray) {n:Nat}(h:2≤n):Q5 n a b=some (sC a b):=by
 obtain ⟨n,rfl⟩:∃ k,n=k+2:=⟨n-2,hZ⟩
 unfold Q5 aaT
 simp only [zx,jc,agS,Bool.not_true,jd]
 unfold sC
 cases sLt a b<;>cases sEq a b<;>rfl
theorem kne {α:Type}{a b:Int}{x y:α}:(bif a !=b then x else y)=if a≠b then x else y:=by
 by_cases h:a=b
 ·simp [h]
 have:(a !=b)=true:=by simpa using h
 rw [this];simp [h]
theorem ary {α:Type}{p:Prop}[Decidable p] {x y:α}:(if p then some x else some y)=some (if p then x else y):=by split<;>rfl
theorem anR {a b:zp}(ha:ZN a) (hb:ZN b) {n:Nat}(h:4≤n):afD n a b=some (vCmp a b):=by
 obtain ⟨n,rfl⟩:∃ k,n=k+1:=⟨n-1,hZ⟩
 unfold afD
 rw [zx,aeI ha hZ,jc,aeI hb hZ,jc,ao6 _ _ hZ,akJ _ _ hZ,amD _ _ hZ,an5 _ _ hZ]
 simp only [jc,kne,atd,ary,aqL,asi,aqV]
 unfold vCmp vC
 congr 1
 by_cases hk:(Q9 a).A=(Q9 b).A
 ·have hk':¬ ((Q9 a).A≠(Q9 b).A):=fun c=>c hk
  rw [if_neg hk',if_neg hk']
  by_cases h3:(Q9 a).A=3
  ·rw [if_pos h3,if_pos h3,al6 h3,al6 (hk▸h3),ass]
  rw [if_neg h3,if_neg h3]
 rw [if_pos hk,if_pos hk]
theorem as0 (x:Nat):fC x x=0:=by
 cases h:Qu x with
 |true=>rw [anz h,h];rfl
 |false=>
  have e:FloatKind.f64.format.order x x=some .eq:=by
   unfold Qu at h
   simpa using h
  unfold fC fLt fGt
  rw [h,e];rfl
theorem agY:∀ (l:List UInt8),Op.bytesLess l l=false
 |[]=>rfl
 |a::l=>by
  have h:¬ (a<a):=by
   intro h
   exact absurd (UInt8.lt_iff_toNat_lt.1 h) hZ
  simp [Op.bytesLess,agY l,h]
theorem asG (x:ByteArray):sC x x=0:=by
 unfold sC sLt
 rw [agY,agS];rfl
theorem asZ (x:Int):iC x x=0:=by
 unfold iC
 rw [if_neg hZ,if_neg hZ]
theorem anB (p:zp):vC p p=0:=by
 unfold vC
 rw [if_neg (by simp),as0,asG,asZ]
 simp
theorem abP {α:Type}(l:List α):sll (some l)=l:=rfl
theorem dT {p:Prop}[Decidable p] (h:p):decide p=true:=decide_eq_true h
theorem dF {p:Prop}[Decidable p] (h:¬ p):decide p=false:=decide_eq_false h
theorem wv {x:Int}(h1:-9223372036854775808≤x) (h2:x<9223372036854775808):IntKind.wrap .i64 x=x:=agi h1 h2
theorem ab6 {b n:Nat}(h:n≤2000000) (hb:b≤1000):ckA b n=some ():=by
 unfold ckA
 rw [if_pos]
 have:=Nat.mul_le_mul h hb
 omega
def mapO {α β:Type}(f:α→β) (l:List α):Option (List β):=if l=[] then none else some (l.map f)
theorem aaP {α β:Type}(f:α→β) (l:List α):sll (mapO f l)=l.map f:=by
 unfold mapO;split
 ·rename_i h;subst h;rfl
 rfl
theorem beqT {a b:Int}(h:a=b):(a==b)=true:=beq_iff_eq.2 h
theorem beqF {a b:Int}(h:¬ a=b):(a==b)=false:=beq_eq_false_iff_ne.2 h
theorem aoM {α R:Type}{F:Nat→Int→Option R}{l:List α}{p:α→Bool}{kk e:Option R}(hl:l.length≤1048576)
  (hF:∀ (m i:Nat) (x:α),(hi:i<l.length)→l[i]=x→F (m+1) (i:Int)=bif p x then F m (IntKind.wrap .i64 ((i:Int)+1)) else e) (hE:∀ (m:Nat),F (m+1) (l.length:Int)=kk):
  ∀ (m i:Nat),i≤l.length→l.length-i<m→F m (i:Int)=bif (l.drop i).all p then kk else e
 |0,i,_,h=>by omega
 |m+1,i,h,hm=>by
  by_cases hi:i<l.length
  ·rw [hF m i _ hi rfl,adZ hZ,aoM hl hF hE m (i+1) hZ hZ,List.drop_eq_getElem_cons hi,List.all_cons]
   cases p l[i]<;>rfl
  obtain rfl:i=l.length:=by omega
  rw [hE,List.drop_length];rfl
theorem ajC {α R:Type}{F:Nat→Int→Option R}{l:List α}{p:α→Bool}{kk e:Option R}(hl:l.length≤1048576) {m:Nat}(hm:2000000≤m)
  (hF:∀ (m i:Nat) (x:α),(hi:i<l.length)→l[i]=x→F (m+1) (i:Int)=bif p x then F m (IntKind.wrap .i64 ((i:Int)+1)) else e) (hE:∀ (m:Nat),F (m+1) (l.length:Int)=kk):
  F m 0=bif l.all p then kk else e:=by
 have:=aoM hl hF hE m 0 hZ hZ
 simpa using this
theorem anm {α β R:Type}{f:α→β}{l3:Nat→Option (List β)→Int→Option R}{l:List α}{K:Option (List β)→Option R}{b:Nat}(hb:b≤1000) (hl:l.length≤1048576)
  (hF:∀ (m i:Nat) (s:Option (List β)) (x:α),(hi:i<l.length)→l[i]=x→l3 (m+1) s (i:Int)=(ckA b (sll s++[f x]).length).bind fun _=>l3 m (some (sll s++[f x])) (IntKind.wrap .i64 ((i:Int)+1)))
  (hE:∀ (m:Nat) (s:Option (List β)),l3 (m+1) s (l.length:Int)=K s):∀ (m i:Nat) (s:Option (List β)),i≤l.length→l.length-i<m→(sll s).length+(l.length-i)≤1048576→l3 m s (i:Int)=K (if l.drop i=[] then s else some (sll s++(l.drop i).map f))
 |0,i,s,_,h,_=>by omega
 |m+1,i,s,h,hm,hs=>by
  by_cases hi:i<l.length
  ·rw [hF m i s _ hi rfl,ab6 (by simp;omega) hb,jc,adZ hZ,anm hb hl hF hE m (i+1) _ hZ hZ (by rw [abP];simp;omega),List.drop_eq_getElem_cons hi,if_neg (List.cons_ne_nil _ _),List.map_cons,abP,List.append_assoc]
   by_cases hn:l.drop (i+1)=[]
   ·rw [if_pos hn,hn];rfl
   rw [if_neg hn];rfl
  obtain rfl:i=l.length:=by omega
  rw [hE,List.drop_length,if_pos rfl]
theorem ajw {α β R:Type}{f:α→β}{l3:Nat→Option (List β)→Int→Option R}{l:List α}{K:Option (List β)→Option R}{b:Nat}(hb:b≤1000) (hl:l.length≤1048576) {m:Nat}(hm:2000000≤m)
  (hF:∀ (m i:Nat) (s:Option (List β)) (x:α),(hi:i<l.length)→l[i]=x→l3 (m+1) s (i:Int)=(ckA b (sll s++[f x]).length).bind fun _=>l3 m (some (sll s++[f x])) (IntKind.wrap .i64 ((i:Int)+1)))
  (hE:∀ (m:Nat) (s:Option (List β)),l3 (m+1) s (l.length:Int)=K s):l3 m none 0=K (mapO f l):=by
 have:=anm hb hl hF hE m 0 none hZ hZ (by show 0+_≤_;omega)
 rw [show ((0:Nat):Int)=0 from rfl,List.drop_zero] at this
 rw [this];rfl
theorem Z7 {α:Type}{l:List α}{i:Nat}{x:α}(hi:i<l.length) (e:l[i]=x):idx l (i:Int)=some x:=by
 rw [ai9,List.getElem?_eq_getElem hi,e]
theorem apj {α β R:Type}{F:Nat→Int→Option R}{la:List α}{lb:List β}{p:α→β→Bool}{kk e:Option R}(he:la.length=lb.length) (hl:la.length≤1048576) {m:Nat}(hm:2000000≤m)
  (hF:∀ (m i:Nat) (x:α) (y:β),(hi:i<la.length)→idx la (i:Int)=some x→idx lb (i:Int)=some y→x∈la→y∈lb→F (m+1) (i:Int)=bif p x y then F m (IntKind.wrap .i64 ((i:Int)+1)) else e) (hE:∀ (m:Nat),F (m+1) (la.length:Int)=kk):
  F m 0=bif (la.zip lb).all (fun q=>p q.1 q.2) then kk else e:=by
 have hz:(la.zip lb).length=la.length:=by rw [List.length_zip];omega
 refine ajC (l:=la.zip lb) (p:=fun q=>p q.1 q.2) hZ hm (fun m i q hi e'=>?_) (fun m=>by rw [hz];exact hE m)
 have hi1:i<la.length:=by omega
 have hi2:i<lb.length:=by omega
 rw [List.getElem_zip] at e'
 subst e'
 exact hF m i _ _ hi1 (Z7 hi1 rfl) (Z7 hi2 rfl) (List.getElem_mem _) (List.getElem_mem _)
def acv {α β:Type}(p:α→β→Bool) (a:List α) (b:List β):Bool:=decide (a.length=b.length)&&(a.zip b).all fun q=>p q.1 q.2
theorem apE {α β:Type}{p:α→β→Bool}{a:List α}{b:List β}(h:a.length≠b.length):acv p a b=false:=by
 unfold acv;rw [dF h];rfl
theorem aim {α β:Type}{p:α→β→Bool}{a:List α}{b:List β}(h:a.length=b.length):acv p a b=(a.zip b).all fun q=>p q.1 q.2:=by
 unfold acv;rw [dT h];rfl
theorem afL {α β:Type}{F:Nat→Int→Option Bool}{la:List α}{lb:List β}{p:α→β→Bool}(hl:la.length≤1048576) {m:Nat}(hm:2000000≤m)
  (hF:la.length=lb.length→∀ (m i:Nat) (x:α) (y:β),(hi:i<la.length)→idx la (i:Int)=some x→idx lb (i:Int)=some y→x∈la→y∈lb→F (m+1) (i:Int)=bif p x y then F m (IntKind.wrap .i64 ((i:Int)+1)) else some false) (hE:∀ (m:Nat),F (m+1) (la.length:Int)=some true):
  (bif ((la.length:Int)!=(lb.length:Int)) then some false else F m 0)=some (acv p la lb):=by
 by_cases h:la.length=lb.length
 ·rw [show ((la.length:Int)!=(lb.length:Int))=false by rw [h];simp,jd,apj h hl hm (hF h) hE,aim h]
  cases (la.zip lb).all fun q=>p q.1 q.2<;>rfl
 rw [show ((la.length:Int)!=(lb.length:Int))=true by rw [bne_iff_ne];omega,je,apE h]
def apZ (x y:zp):Bool:=vCmp x y==0
theorem amK {a b:zp}(ha:ZN a) (hb:ZN b) {n:Nat}(h:5≤n):aer n a b=some (apZ a b):=by
 obtain ⟨n,rfl⟩:∃ k,n=k+1:=⟨n-1,hZ⟩
 unfold aer
 rw [zx,anR ha hb hZ];rfl
theorem ajn {α:Type}{p:α→α→Bool}(l:List α) (h:∀ x,x∈l→p x x=true):acv p l l=true:=by
 rw [aim rfl,List.all_eq_true]
 intro q hq
 obtain ⟨i,hi,rfl⟩:=List.getElem_of_mem hq
 rw [List.getElem_zip]
 exact h _ (List.getElem_mem _)
abbrev EX:=zc
def szL (x:zk):Nat:=PV.bulkL (qi x)
theorem arV {x:zk}{z:EX}(h:z∈sll x.I):szL (zh z)<szL x:=by
 have e:szL (zh z)=PV.bulkL (za z):=by rw [zU z];rfl
 rw [e]
 unfold szL qi
 cases hk:x.I with
 |none=>rw [hk] at h;cases h
 |some l=>
  rw [hk] at h
  have:=afk (rows:=l.map za) (r:=za z) (List.mem_map_of_mem h)
  simp only [PV.bulkL,PV.bulk,zg]
  omega
theorem ahe {x:zk}(hw:zQ x) {z:EX}(h:z∈sll x.I):zQ (zh z):=by
 have hs:=arV h
 have h2:=hw.2
 refine ⟨?_,by unfold szL at hs;omega⟩
 have h1:=hw.1
 unfold qi at h1
 rw [←zU z]
 cases hk:x.I with
 |none=>rw [hk] at h;cases h
 |some l=>
  rw [hk] at h h1
  generalize hp:([.int .i64 x.A,.int .i64 x.K,.int .i64 x.M,.int .i64 x.D.A,.int .i64 x.D.J,.flt .f64 x.D.O,.str x.D.L,zg za (some l)]:List PV)=p at h1
  cases h1 with
  |nil a b c v w=>simp [zg] at hp
  |some a b c v rows w hl hr=>
   simp only [List.cons.injEq,and_true,zg,PV.sl.injEq] at hp
   obtain ⟨_,_,_,_,_,_,_,e⟩:=hp
   subst e
   exact hr _ (List.mem_map_of_mem h)
theorem afl {x:zk}(hw:zQ x):(sll x.I).length≤1048576:=by
 have h1:=hw.1
 unfold qi at h1
 cases hk:x.I with
 |none=>simp [sll]
 |some l=>
  rw [hk] at h1
  generalize hp:([.int .i64 x.A,.int .i64 x.K,.int .i64 x.M,.int .i64 x.D.A,.int .i64 x.D.J,.flt .f64 x.D.O,.str x.D.L,zg za (some l)]:List PV)=p at h1
  cases h1 with
  |nil a b c v w=>simp [zg] at hp
  |some a b c v rows w hl hr=>
   simp only [List.cons.injEq,and_true,zg,PV.sl.injEq] at hp
   obtain ⟨_,_,_,_,_,_,_,e⟩:=hp
   subst e
   show l.length≤_
   simpa using hl
def afu (k:Int):Int:=if k=1∨k=2 then 0 else if k=6∨k=12∨k=13 then 1 else if 3≤k∧k≤11 then 2 else -1
theorem aiD (k:Int) {n:Nat}(hn:1≤n):aei n k=some (afu k):=by
 obtain ⟨n,rfl⟩:=ja n 1
 unfold aei
 rw [zx]
 simp only [zE]
 have ne:∀ {c:Int},k≠c→(k==c)=false:=fun h=>beq_eq_false_iff_ne.2 h
 by_cases h1:k=1
 ·subst h1;rfl
 by_cases h2:k=2
 ·subst h2;rfl
 by_cases h6:k=6
 ·subst h6;rfl
 by_cases h12:k=12
 ·subst h12;rfl
 by_cases h13:k=13
 ·subst h13;rfl
 by_cases h3:k=3
 ·subst h3;rfl
 by_cases h4:k=4
 ·subst h4;rfl
 by_cases h5:k=5
 ·subst h5;rfl
 by_cases h7:k=7
 ·subst h7;rfl
 by_cases h8:k=8
 ·subst h8;rfl
 by_cases h9:k=9
 ·subst h9;rfl
 by_cases h10:k=10
 ·subst h10;rfl
 by_cases h11:k=11
 ·subst h11;rfl
 rw [ne h1,ne h2,ne h6,ne h12,ne h13,ne h3,ne h4,ne h5,ne h7,ne h8,ne h9,ne h10,ne h11]
 unfold afu
 rw [if_neg hZ,if_neg hZ,if_neg hZ]
 rfl
def inE (k:Int):Bool:=decide (k≥0)&&decide (k≤31)
def aa3 (x:zk):Bool:=!((x.A !=1)&&((x.K !=0)||(x.M !=0)))&&inE x.K&&inE x.M&&abr x.D&&((x.A==2)||(x.D.A==0))
theorem alj {x:zk}(hc:ZN x.D) {n:Nat}(hn:5≤n):adB n x=some (aa3 x):=by
 obtain ⟨n,rfl⟩:=ja n 1
 have e1:∀ k,aci n k=some (inE k):=fun k=>by
  obtain ⟨n,rfl⟩:=ja n 1
  rfl
 unfold adB aa3
 rw [zx,e1,e1,aes _ hZ]
 cases ((x.A !=1)&&((x.K !=0)||(x.M !=0)))<;>cases inE x.K<;>cases inE x.M<;>cases abr x.D<;>rfl
def agW (x:zk):Bool:=(afu x.A==((sll x.I).length:Int))&&aa3 x
def sumO {α:Type}(f:α→Option Nat):List α→Option Nat
 |[]=>some 0
 |z::l=>match f z,sumO f l with
  |some a,some b=>some (a+b)
  |_,_=>none
noncomputable def frmE:Nat→zk→Option Nat
 |0,_=>none
 |r+1,x=>bif agW x then (sumO (fun z=>frmE r (zh z)) (sll x.I)).map (·+1) else none
theorem arG {r:Nat}{x:zk}{c:Nat}(h:frmE r x=some c):1≤c:=by
 cases r with
 |zero=>cases h
 |succ r=>
  unfold frmE at h
  cases hn:agW x with
  |false=>rw [hn] at h;cases h
  |true=>
   rw [hn,je,jk] at h
   obtain ⟨a,_,rfl⟩:=h
   omega
theorem aoz {α:Type}{f:α→Option Nat}:∀ {l:List α}{c:Nat},sumO f l=some c→∀ z,z∈l→∃ a,f z=some a∧a≤c
 |[],c,h,z,hz=>by cases hz
 |y::l,c,h,z,hz=>by
  unfold sumO at h
  split at h
  ·rename_i a b e1 e2
   injection h with h;subst h
   rcases List.mem_cons.1 hz with rfl|hz
   ·exact ⟨a,e1,hZ⟩
   obtain ⟨d,q1,q2⟩:=aoz e2 z hz
   exact ⟨d,q1,hZ⟩
  cases h
theorem afr {r:Nat}{x:zk}{c:Nat}(h:frmE (r+1) x=some c):agW x=true∧∀ z,z∈sll x.I→∃ a,frmE r (zh z)=some a∧a<c:=by
 unfold frmE at h
 cases hn:agW x with
 |false=>rw [hn] at h;cases h
 |true=>
  rw [hn,je,jk] at h
  obtain ⟨a,ha,rfl⟩:=h
  refine ⟨rfl,fun z hz=>?_⟩
  obtain ⟨b,q1,q2⟩:=aoz ha z hz
  exact ⟨b,q1,hZ⟩
def al8 (o:Option Nat) (left:Int):Int:=match o with
 |some c=>if (c:Int)≤left then left-c else -1
 |none=>-1
theorem acY {x:zk}(hw:zQ x):ZN x.D:=by
 have h1:=hw.1
 unfold qi at h1
 generalize hp:([.int .i64 x.A,.int .i64 x.K,.int .i64 x.M,.int .i64 x.D.A,.int .i64 x.D.J,.flt .f64 x.D.O,.str x.D.L,zg za x.I]:List PV)=p at h1
 cases h1 with
 |nil a b c v w=>
  simp only [List.cons.injEq,PV.int.injEq,PV.flt.injEq,PV.str.injEq,true_and,and_true] at hp
  obtain ⟨_,_,_,e1,e2,e3,e4,_⟩:=hp
  obtain ⟨v1,v2,v3,v4⟩:=v
  simp only at e1 e2 e3 e4
  have:x.D=⟨v1,v2,v3,v4⟩:=by
   cases hx:x.D with
   |mk a b c d=>rw [hx] at e1 e2 e3 e4;simp only at e1 e2 e3 e4;rw [e1,e2,e3,e4]
  rw [this];exact w.2.2.2
 |some a b c v rows w hl hr=>
  simp only [List.cons.injEq,PV.int.injEq,PV.flt.injEq,PV.str.injEq,true_and,and_true] at hp
  obtain ⟨_,_,_,e1,e2,e3,e4,_⟩:=hp
  obtain ⟨v1,v2,v3,v4⟩:=v
  simp only at e1 e2 e3 e4
  have:x.D=⟨v1,v2,v3,v4⟩:=by
   cases hx:x.D with
   |mk a b c d=>rw [hx] at e1 e2 e3 e4;simp only at e1 e2 e3 e4;rw [e1,e2,e3,e4]
  rw [this];exact w.2.2.2
theorem al1 {α:Type}{f:α→Option Nat}{K:Int→Option Int}{F:Nat→Int→Int→Option Int}{ks:List α}{C:α→Int→Option Int}
  (hF:∀ m left i,F (m+1) left i=bif decide (i<(ks.length:Int)) then (idx ks i).bind fun z=>(C z left).bind fun r=>bif decide (r<0) then some (-1) else F m r (IntKind.wrap .i64 (i+1)) else K left)
  {B:Int}(hB:B≤1000) (hC:∀ z,z∈ks→∀ left,0≤left→left≤B→C z left=some (al8 (f z) left)) (hks:ks.length≤1048576):
  ∀ (l:List α) (m:Nat) (p:List α) (left:Int),ks=p++l→l.length<m→0≤left→left≤B→
   F m left (p.length:Int)=match sumO f l with
    |some c=>if (c:Int)≤left then K (left-c) else some (-1)
    |none=>some (-1)
 |[],m,p,left,he,hm,h0,h4=>by
  obtain ⟨m,rfl⟩:=ja m 1
  rw [hF,dF (by rw [he];simp),jd]
  simp only [sumO]
  rw [if_pos hZ]
  congr 1;omega
 |z::l,m,p,left,he,hm,h0,h4=>by
  obtain ⟨m,rfl⟩:=ja m 1
  rw [List.length_cons] at hm
  have hz:z∈ks:=by rw [he];simp
  have hix:idx ks (p.length:Int)=some z:=by rw [he,ai9];simp
  rw [hF,dT (by rw [he];simp;omega),je,hix,jc,hC z hz left h0 h4,jc]
  have hlen:ks.length=p.length+(l.length+1):=by rw [he];simp
  rw [adZ hZ]
  have e:p.length+1=(p++[z]).length:=by simp
  obtain ⟨v,hv⟩:∃ v,v=al8 (f z) left:=⟨_,rfl⟩
  rw [←hv]
  unfold sumO
  cases hf:f z with
  |none=>
   rw [hf] at hv
   rw [show v=-1 from hv]
   rfl
  |some a=>
   rw [hf] at hv
   simp only [al8] at hv
   by_cases ha:(a:Int)≤left
   ·rw [if_pos ha] at hv
    subst hv
    rw [dF hZ,jd,e,al1 hF hB hC hks l m (p++[z]) (left-a) (by rw [he];simp) hZ hZ hZ]
    cases hs:sumO f l with
    |none=>rfl
    |some b=>
     simp only
     by_cases hb:(b:Int)≤left-a
     ·rw [if_pos hb,if_pos hZ];congr 1;omega
     rw [if_neg hb,if_neg hZ]
   rw [if_neg ha] at hv
   subst hv
   rw [dT hZ,je]
   cases hs:sumO f l with
   |none=>rfl
   |some b=>simp only;rw [if_neg hZ]
theorem arz:∀ (r:Nat),r≤24→∀ (x:zk),zQ x→∀ (left:Int),left≤400→-1≤left→∀ m n,r+1≤m→2000000+r≤n→
  Qv m n x (25-(r:Int)) left=some (al8 (frmE r x) left):=by
 intro r
 induction r with
 |zero=>
  intro hr x hw left h4 h0 m n hm hn
  obtain ⟨m,rfl⟩:=ja m 1
  obtain ⟨n,rfl⟩:=ja n 1
  show aa6 (Qv m) (n+1) x _ left=_
  unfold aa6
  rw [zx,dT hZ,je]
  rfl
 |succ r ih=>
  intro hr x hw left h4 h0 m n hm hn
  obtain ⟨m,rfl⟩:=ja m 1
  obtain ⟨n,rfl⟩:=ja n 1
  show aa6 (Qv m) (n+1) x _ left=_
  unfold aa6
  rw [zx,dF hZ,jd]
  by_cases hl:left<1
  ·rw [dT hl,je]
   unfold al8
   cases hf:frmE (r+1) x with
   |none=>rfl
   |some c=>
    have:=arG hf
    simp only
    rw [if_neg hZ]
  rw [dF hl,jd,aiD _ hZ,jc]
  rw [frmE]
  unfold agW
  by_cases hk:afu x.A=((sll x.I).length:Int)
  ·rw [show (afu x.A !=((sll x.I).length:Int))=false by simp [hk],jd,show (afu x.A==((sll x.I).length:Int))=true by simp [hk],jn]
   rw [show zk.mk x.A x.K x.M x.D x.I=x from rfl,alj (acY hw) hZ,jc]
   cases hfd:aa3 x with
   |false=>rfl
   |true=>
    rw [Bool.not_true,jd,je]
    show zE (fun k12=>abn n (Qv m) x (25-((r+1:Nat):Int)) k12 n (IntKind.wrap .i64 (left-1)) 0) (fun (y9:Int)=>some y9)=_
    unfold zE
    rw [agi hZ hZ]
    have key:=al1 (f:=fun z=>frmE r (zh z)) (K:=fun y9=>some y9) (F:=fun m' left' i=>abn n (Qv m) x (25-((r+1:Nat):Int)) (fun y9=>some y9) m' left' i) (ks:=sll x.I)
     (C:=fun z left'=>Qv m n (zh z) (IntKind.wrap .i64 ((25-((r+1:Nat):Int))+1)) left')
     (fun m' left' i=>rfl) (B:=400) hZ (fun z hz left' h1 h2=>by
      show Qv m n (zh z) (IntKind.wrap .i64 ((25-((r+1:Nat):Int))+1)) left'=_
      rw [agi hZ hZ,show (25-((r+1:Nat):Int))+1=25-(r:Int) by omega]
      exact ih hZ _ (ahe hw hz) left' h2 hZ m n hZ hZ) (afl hw) (sll x.I) n [] (left-1) rfl (by have:=afl hw;omega) hZ hZ
    refine Eq.trans key ?_
    cases hs:sumO (fun z=>frmE r (zh z)) (sll x.I) with
    |none=>rfl
    |some c=>
     simp only [Option.map_some,al8]
     by_cases hc:(c:Int)≤left-1
     ·rw [if_pos hc,if_pos hZ];congr 1;omega
     rw [if_neg hc,if_neg hZ]
  rw [show (afu x.A !=((sll x.I).length:Int))=true by simp [hk],je,show (afu x.A==((sll x.I).length:Int))=false by simp [hk],Bool.false_and]
  rfl
noncomputable def qZ (x:zk):Bool:=match frmE 24 x with
 |some c=>decide (c≤400)
 |none=>false
theorem al2 {x:zk}(hw:zQ x) {n:Nat}(hn:2000100≤n):adM n x=some (qZ x):=by
 obtain ⟨n,rfl⟩:=ja n 1
 unfold adM
 rw [zx]
 have:=arz 24 hZ x hw 400 hZ hZ n n hZ hZ
 rw [show (25-((24:Nat):Int))=1 from rfl] at this
 rw [show ain n x 1 400=some _ from this,jc]
 unfold qZ al8
 cases frmE 24 x with
 |none=>rfl
 |some c=>exact congrArg some (decide_eq_decide.2 (by simp only;split<;>omega))
theorem adm {x:zk}(h:qZ x=true):∃ c,frmE 24 x=some c∧c≤400:=by
 unfold qZ at h
 split at h
 ·rename_i c hc;exact ⟨c,hc,by simpa using h⟩
 cases h
theorem W_un {z:EX}(h:qw z):zQ (zh z):=by
 unfold qw at h
 rw [zU z] at h
 exact h
theorem apY:∀ (s m n:Nat) (a:Option (List EX)) (most:Int),(∀ z,z∈sll a→zQ (zh z)∧szL (zh z)≤s)→(sll a).length≤1048600→s<m→2000020+s≤n→∃ r,aa5 m n a most=some r
 |s,m,n,a,most,hz,hl,hm,hn=>by
  obtain ⟨m,rfl⟩:=ja m 1
  obtain ⟨n,rfl⟩:=ja n 1
  show ∃ r,acS (aa5 m) (n+1) a most=some r
  unfold acS
  rw [zx]
  cases hq:decide (((sll a).length:Int)>most) with
  |true=>exact ⟨_,rfl⟩
  |false=>
   rw [jd]
   show ∃ r,Qz n (aa5 m) a most (fun y3=>some y3) n ((sll a).length:Int) ((0:Nat):Int)=some r
   have key:∀ (d mm i:Nat) (acc:Int),i+d=(sll a).length→d<mm→∃ r,Qz n (aa5 m) a most (fun y3=>some y3) mm acc (i:Int)=some r:=by
    intro d
    induction d with
    |zero=>
     intro mm i acc hi hmm
     obtain ⟨mm,rfl⟩:=ja mm 1
     rw [Qz,dF (by omega:¬ (i:Int)<((sll a).length:Int)),Bool.false_and,jd]
     exact ⟨_,rfl⟩
    |succ d ih=>
     intro mm i acc hi hmm
     obtain ⟨mm,rfl⟩:=ja mm 1
     rw [Qz]
     cases hc:(decide ((i:Int)<((sll a).length:Int))&&decide (acc≤most)) with
     |false=>exact ⟨_,rfl⟩
     |true=>
      have hi':i<(sll a).length:=by omega
      have hzi:=hz _ (List.getElem_mem hi')
      rw [je,ai9,List.getElem?_eq_getElem hi',jc,adZ hZ]
      cases decide ((((((zh (sll a)[i]).D).L).size:Nat):Int)>most) with
      |true=>exact ⟨_,rfl⟩
      |false=>
       rw [jd]
       cases decide ((IntKind.wrap .i64 (acc+((((zh (sll a)[i]).D).L).size:Int)))≤most) with
       |false=>exact ih mm (i+1) _ hZ hZ
       |true=>
        rw [je]
        have hs:0<s:=by
         have:=hzi.2
         unfold szL qi at this
         simp only [PV.bulkL,PV.bulk] at this
         omega
        obtain ⟨r,hr⟩:=apY (s-1) m n ((zh (sll a)[i]).I) (IntKind.wrap .i64 (most-(IntKind.wrap .i64 (acc+((((zh (sll a)[i]).D).L).size:Int))))) (fun y hy=>⟨ahe hzi.1 hy,by have:=arV hy;omega⟩) (by have:=afl hzi.1;omega) hZ hZ
        rw [hr,jc]
        exact ih mm (i+1) _ hZ hZ
   exact key (sll a).length n 0 _ hZ hZ
 termination_by s=>s
 decreasing_by omega
theorem map_inj {α β:Type}{R:α→β}(hR:∀ x y,R x=R y→x=y):∀ (a b:List α),a.map R=b.map R→a=b
 |[],[],_=>rfl
 |[],y::b,h=>by cases h
 |x::a,[],h=>by cases h
 |x::a,y::b,h=>by
  simp only [List.map_cons,List.cons.injEq] at h
  rw [hR x y h.1,map_inj hR a b h.2]
theorem aqZ {α:Type}{R:α→List PV}(hR:∀ x y,R x=R y→x=y) {a b:Option (List α)}(h:zg R a=zg R b):a=b:=by
 cases a with
 |none=>
  cases b with
  |none=>rfl
  |some b=>cases h
 |some a=>
  cases b with
  |none=>cases h
  |some b=>
   simp only [zg,PV.sl.injEq] at h
   rw [map_inj hR a b h]
theorem asK (x y:zc) (h:za x=za y):x=y:=Subtype.ext h
theorem apu (x y:zk) (h:qi x=qi y):x=y:=by
 obtain ⟨a1,a2,a3,⟨v1,v2,v3,v4⟩,a5⟩:=x
 obtain ⟨b1,b2,b3,⟨w1,w2,w3,w4⟩,b5⟩:=y
 unfold qi at h
 simp only [List.cons.injEq,PV.int.injEq,PV.flt.injEq,PV.str.injEq,true_and,and_true] at h
 obtain ⟨rfl,rfl,rfl,rfl,rfl,rfl,rfl,h5⟩:=h
 rw [aqZ asK h5]
theorem ahx (x:zk):zh (zy x)=x:=(apu _ _ ((zU (zy x)).symm.trans rfl))
theorem aoH {α:Type}(R:α→List PV) (s:Option (List α)):1≤(zg R s).bulk:=by
 cases s with
 |none=>simp only [zg,PV.bulk];omega
 |some l=>simp only [zg,PV.bulk];omega
theorem aic {a:Option (List EX)}(ha:wSl qw a) (most:Int) {n:Nat}(hn:3048700≤n):∃ r,adt n a most=some r:=
 apY 1048576 n n a most (fun z hz=>⟨W_un (ha.2 z hz),(W_un (ha.2 z hz)).2⟩) (by have:=ha.1;omega) hZ hZ
theorem asF {x:zk}{z:EX}(h:z∈sll x.I):szL (zh z)+8≤szL x:=by
 have e:szL (zh z)=PV.bulkL (za z):=by rw [zU z];rfl
 rw [e]
 unfold szL qi
 cases hk:x.I with
 |none=>rw [hk] at h;cases h
 |some l=>
  rw [hk] at h
  have:=afk (rows:=l.map za) (r:=za z) (List.mem_map_of_mem h)
  rw [show zg za (some l)=.sl (l.map za) from rfl]
  simp only [PV.bulkL,PV.bulk]
  omega
def WX:Nat→zk→Prop
 |0,_=>False
 |s+1,x=>ZN x.D∧(sll x.I).length≤1048576∧∀ z,z∈sll x.I→WX s (zh z)
theorem as9:∀ (s:Nat) (x:zk),szL x≤8*s→zQ x→WX s x
 |0,x,h,_=>by
  unfold szL qi at h
  simp only [PV.bulkL,PV.bulk] at h
  omega
 |s+1,x,h,hw=>⟨acY hw,afl hw,fun z hz=>as9 s _ (by have:=asF hz;omega) (ahe hw hz)⟩
theorem W_WX {x:zk}(hw:zQ x):WX 131072 x:=as9 _ x hw.2 hw
noncomputable def afA:Nat→zk→zk→Bool
 |0,_,_=>false
 |s+1,x,y=>((((x.A==y.A)&&(x.K==y.K))&&(x.M==y.M))&&(x.D.A==y.D.A))&&(apZ x.D y.D&&acv (fun a b=>afA s (zh a) (zh b)) (sll x.I) (sll y.I))
noncomputable def apt (s:Nat) (a b:List EX):Bool:=acv (fun x y=>afA s (zh x) (zh y)) a b
theorem anu {d m n k:Nat}{rc:Nat→Option (List EX)→Option (List EX)→Option Bool}{a b:Option (List EX)}(ha:(sll a).length≤1048576) (hn:2000000≤n)
  (h:∀ x,x∈sll a→∀ y,y∈sll b→aaQ rc n (zh x) (zh y)=some (afA k (zh x) (zh y))):
  ZR rc (n+1) a b=some (apt k (sll a) (sll b)):=by
 unfold ZR
 rw [zx]
 unfold zE
 refine afL (F:=fun m i=>zZ n rc a b (fun _=>some true) m i) ha hn (fun he m i x y hi e1 e2 m1 m2=>?_) (fun m=>?_)
 ·show zZ _ _ _ _ _ _ _=_
  rw [zZ,dT hZ,je,e1,jc,e2,jc]
  rw [show aaQ rc n _ _=_ from h x m1 y m2,jc]
  cases afA k (zh x) (zh y)<;>rfl
 show zZ _ _ _ _ _ _ _=_
 rw [zZ,dF hZ,jd]
theorem agA:∀ (d:Nat) (x:zk),WX d x→∀ (e:Nat) (y:zk),WX e y→∀ k m n,d≤k→d≤m→2000010+2*d≤n→
  aaQ (Zh m) n x y=some (afA k x y)
 |0,x,h,_,_,_,_,_,_,_,_,_=>h.elim
 |d+1,x,h,0,y,h',_,_,_,_,_,_=>h'.elim
 |d+1,x,h,e+1,y,h',k,m,n,hk,hm,hn=>by
  obtain ⟨k,rfl⟩:=ja k 1
  obtain ⟨m,rfl⟩:=ja m 1
  obtain ⟨n,rfl⟩:=ja n 2
  unfold aaQ
  rw [zx,afA]
  cases (((x.A==y.A)&&(x.K==y.K))&&(x.M==y.M))&&(x.D.A==y.D.A) with
  |false=>rfl
  |true=>
   rw [je,amK h.1 h'.1 hZ,jc]
   cases apZ x.D y.D with
   |false=>rfl
   |true=>
    rw [je,show Zh (m+1) (n+1) x.I y.I=_ from anu (rc:=Zh m) (k:=k) (d:=d) (m:=m) h.2.1 hZ (fun z hz w hw=>agA d _ (h.2.2 z hz) e _ (h'.2.2 w hw) k m n hZ hZ hZ)]
    rfl
def WXs (d:Nat) (a:List EX):Prop:=∀ z,z∈a→WX d (zh z)
theorem ar9 {a:Option (List EX)}(h:wSl qw a):WXs 131072 (sll a):=fun z hz=>W_WX (W_un (h.2 z hz))
theorem aiL {a b:Option (List EX)}{d e:Nat}(ha:WXs d (sll a)) (hl:(sll a).length≤1048576) (hb:WXs e (sll b)) (hd:d≤140000) {n:Nat}(hn:2280100≤n):
  ZK n a b=some (apt 140000 (sll a) (sll b)):=by
 obtain ⟨n,rfl⟩:=ja n 1
 exact anu (rc:=Zh n) (d:=d) (m:=0) hl hZ (fun x hx y hy=>agA d _ (ha x hx) e _ (hb y hy) 140000 n n hd hZ hZ)
theorem anZ {x y:zk}{d e:Nat}(hx:WX d x) (hy:WX e y) (hd:d≤140000) {n m:Nat}(hn:2280100≤n) (hm:140000≤m):
 aaQ (Zh m) n x y=some (afA 140000 x y):=agA d x hx e y hy 140000 m n hd hZ hZ
noncomputable def als:Nat→zk→zk
 |0,x=>x
 |s+1,x=>⟨x.A,x.K,x.M,x.D,mapO (fun z=>zy (als s (zh z))) (sll x.I)⟩
theorem aki:∀ (d:Nat) (x:zk),WX d x→∀ k m n,d≤k→d≤m→2000010+d≤n→aaZ m n x=some (als k x)
 |0,x,h,_,_,_,_,_,_=>h.elim
 |d+1,x,h,k,m,n,hk,hm,hn=>by
  obtain ⟨k,rfl⟩:=ja k 1
  obtain ⟨m,rfl⟩:=ja m 1
  obtain ⟨n,rfl⟩:=ja n 1
  show ady (aaZ m) (n+1) x=_
  unfold ady
  rw [zx,als]
  unfold zE
  refine Eq.trans (ajw (f:=fun z=>zy (als k (zh z))) (l3:=fun m' s i=>Z5 n (aaZ m) x (fun|none=>some (zk.mk x.A x.K x.M x.D none)|(some y3)=>some (zk.mk x.A x.K x.M x.D (some y3))) m' s i) (l:=sll x.I) (K:=fun s=>some (zk.mk x.A x.K x.M x.D s)) (b:=88) (by decide) h.2.1 hZ (fun m' i s z hi e=>?_) (fun m' s=>?_)) rfl
  ·have hz:=aki d _ (h.2.2 z (by rw [←e];exact List.getElem_mem hi)) k m n hZ hZ hZ
   cases s with
   |none=>
    show Z5 _ _ _ _ _ _ _=_
    rw [Z5,dT hZ,je,Z7 hi e,jc]
    rw [show aaZ m n _=_ from hz];rfl
   |some s=>
    show Z5 _ _ _ _ _ _ _=_
    rw [Z5,dT hZ,je,Z7 hi e,jc]
    rw [show aaZ m n _=_ from hz];rfl
  cases s with
  |none=>
   show Z5 _ _ _ _ _ _ _=_
   rw [Z5,dF hZ,jd]
  |some s=>
   show Z5 _ _ _ _ _ _ _=_
   rw [Z5,dF hZ,jd]
theorem ai0 {x:zk}{d:Nat}(hx:WX d x) (hd:d≤140000) {n:Nat}(hn:2140100≤n):Qc n x=some (als 140000 x):=aki d x hx 140000 n n hd hZ hZ
theorem afW {α β:Type}{p:β→α→Bool}(f:α→β) (l:List α) (h:∀ x,x∈l→p (f x) x=true):acv p (l.map f) l=true:=by
 rw [aim (by rw [List.length_map]),List.all_eq_true]
 intro q hq
 obtain ⟨i,hi,rfl⟩:=List.getElem_of_mem hq
 rw [List.getElem_zip,List.getElem_map]
 exact h _ (List.getElem_mem _)
noncomputable def ar3 (x y:zm):Bool:=(x.A==y.A)&&afA 140000 x.N y.N
def aqm (x y:zo):Bool:=(x.B==y.B)&&(x.P==y.P)
def LXs (d:Nat) (a:Option (List EX)):Prop:=(sll a).length≤1048576∧WXs d (sll a)
def LAs (d:Nat) (a:Option js):Prop:=(sll a).length≤1048576∧∀ g,g∈sll a→WX d g.N
theorem ate {a:Option (List EX)}(h:wSl qw a):LXs 131072 a:=⟨h.1,ar9 h⟩
theorem aqa {g:zm}(h:acN g):zQ g.N:=h.2
theorem atf {a:Option js}(h:wSl acN a):LAs 131072 a:=⟨h.1,fun g hg=>W_WX (aqa (h.2 g hg))⟩
structure QW (d:Nat) (q:zb):Prop where
 rels:(sll q.E).length≤1048576
 wher:LXs d q.H
 out:LXs d q.B
 aggs:LAs d q.C
 order:(sll q.G).length≤1048576
theorem aoq {a b:Option ju}(ha:(sll a).length≤1048576) {n:Nat}(hn:2000010≤n):aaK n a b=some (acv aqm (sll a) (sll b)):=by
 obtain ⟨n,rfl⟩:=ja n 1
 unfold aaK
 rw [zx]
 unfold zE
 refine afL (F:=fun m i=>Z4 n a b (fun _=>some true) m i) ha hZ (fun he m i x y hi e1 e2 m1 m2=>?_) (fun m=>?_)
 ·show Z4 _ _ _ _ _ _=_
  rw [Z4,dT hZ,je,e1,jc,e2,jc]
  unfold aqm
  cases (x.B==y.B)<;>cases (x.P==y.P)<;>rfl
 show Z4 _ _ _ _ _ _=_
 rw [Z4,dF hZ,jd]
theorem ao4 (x:zo):aqm x x=true:=by unfold aqm;simp
theorem akQ {α:Type}{c:Bool}{A B:Option α}(h1:c=true→∃ r,A=some r) (h2:c=false→∃ r,B=some r):∃ r,(bif c then A else B)=some r:=by
 cases c with
 |true=>exact h1 rfl
 |false=>exact h2 rfl
theorem anT {α β:Type}{A:Option α}{F:α→Option β}(h1:∃ a,A=some a) (h2:∀ a,∃ r,F a=some r):∃ r,A.bind F=some r:=by
 obtain ⟨a,rfl⟩:=h1
 exact h2 a
theorem ap8 {α S R:Type}{F:Nat→S→Int→Option R}{l:List α}{P:Nat→S→Prop}(hl:l.length≤1048576)
  (hF:∀ (m i:Nat) (s:S) (x:α),(hi:i<l.length)→l[i]=x→P i s→(∃ r,F (m+1) s (i:Int)=some r)∨∃ s',P (i+1) s'∧F (m+1) s (i:Int)=F m s' (IntKind.wrap .i64 ((i:Int)+1)))
  (hE:∀ (m:Nat) (s:S),P l.length s→∃ r,F (m+1) s (l.length:Int)=some r):∀ (m i:Nat) (s:S),i≤l.length→l.length-i<m→P i s→∃ r,F m s (i:Int)=some r
 |0,i,s,_,h,_=>by omega
 |m+1,i,s,h,hm,hp=>by
  by_cases hi:i<l.length
  ·rcases hF m i s _ hi rfl hp with h1|⟨s',hp',h1⟩
   ·exact h1
   rw [h1,adZ hZ]
   exact ap8 hl hF hE m (i+1) s' hZ hZ hp'
  obtain rfl:i=l.length:=by omega
  exact hE m s hp
theorem al9 {α S R:Type}{F:Nat→S→Int→Option R}{l:List α}(P:Nat→S→Prop) (hl:l.length≤1048576) {m:Nat}(hm:2000000≤m) (s:S) (h0:P 0 s)
  (hF:∀ (m i:Nat) (s:S) (x:α),(hi:i<l.length)→l[i]=x→P i s→(∃ r,F (m+1) s (i:Int)=some r)∨∃ s',P (i+1) s'∧F (m+1) s (i:Int)=F m s' (IntKind.wrap .i64 ((i:Int)+1)))
  (hE:∀ (m:Nat) (s:S),P l.length s→∃ r,F (m+1) s (l.length:Int)=some r):∃ r,F m s 0=some r:=
 ap8 hl hF hE m 0 s hZ hZ h0
theorem aoS {x:zk}(h:agW x=true):0≤x.K∧0≤x.M∧afu x.A=((sll x.I).length:Int):=by
 unfold agW aa3 inE at h
 simp only [jm,beq_iff_eq,decide_eq_true_eq] at h
 obtain ⟨h0,⟨⟨⟨_,h1⟩,h2⟩,_⟩,_⟩:=h
 exact ⟨h1.1,h2.1,h0⟩
theorem arp {α:Type}{l:List α}{i:Int}(h0:0≤i) (h:i<(l.length:Int)):∃ x,idx l i=some x∧x∈l:=by
 have hi:i.toNat<l.length:=by omega
 refine ⟨l[i.toNat],?_,List.getElem_mem hi⟩
 unfold idx
 rw [if_pos h0,List.getElem?_eq_getElem hi]
theorem ajV {k:Int}{l:Nat}(h:afu k=(l:Int)):(l=0∧(k=1∨k=2))∨(l=1∧(k=6∨k=12∨k=13))∨(l=2∧(k=3∨k=4∨k=5∨k=7∨k=8∨k=9∨k=10∨k=11)):=by
 unfold afu at h
 split at h
 ·exact .inl ⟨hZ,by assumption⟩
 split at h
 ·exact .inr (.inl ⟨hZ,by assumption⟩)
 split at h
 ·exact .inr (.inr ⟨hZ,hZ⟩)
 omega
def Is {α:Type}(P:α→Prop) (o:Option α):Prop:=∃ r,o=some r∧P r
section
variable {x:zk}(hw:zQ x) (a:Option jx) {n:Nat}(hn:2000300≤n)
include hw hn
variable {s:List Int}(hs:s.length≤1900000)
include hs
end
theorem aqb {α S R:Type}{Q:R→Prop}{F:Nat→S→Int→Option R}{l:List α}{P:Nat→S→Prop}(hl:l.length≤1048576)
  (hF:∀ (m i:Nat) (s:S) (x:α),(hi:i<l.length)→l[i]=x→P i s→Is Q (F (m+1) s (i:Int))∨∃ s',P (i+1) s'∧F (m+1) s (i:Int)=F m s' (IntKind.wrap .i64 ((i:Int)+1)))
  (hE:∀ (m:Nat) (s:S),P l.length s→Is Q (F (m+1) s (l.length:Int))):∀ (m i:Nat) (s:S),i≤l.length→l.length-i<m→P i s→Is Q (F m s (i:Int))
 |0,i,s,_,h,_=>by omega
 |m+1,i,s,h,hm,hp=>by
  by_cases hi:i<l.length
  ·rcases hF m i s _ hi rfl hp with h1|⟨s',hp',h1⟩
   ·exact h1
   rw [h1,adZ hZ]
   exact aqb hl hF hE m (i+1) s' hZ hZ hp'
  obtain rfl:i=l.length:=by omega
  exact hE m s hp
theorem aq7 {α S R:Type}{Q:R→Prop}{F:Nat→S→Int→Option R}{l:List α}(P:Nat→S→Prop) (hl:l.length≤1048576) {m:Nat}(hm:2000000≤m) (s:S) (h0:P 0 s)
  (hF:∀ (m i:Nat) (s:S) (x:α),(hi:i<l.length)→l[i]=x→P i s→Is Q (F (m+1) s (i:Int))∨∃ s',P (i+1) s'∧F (m+1) s (i:Int)=F m s' (IntKind.wrap .i64 ((i:Int)+1)))
  (hE:∀ (m:Nat) (s:S),P l.length s→Is Q (F (m+1) s (l.length:Int))):Is Q (F m s 0):=
 aqb hl hF hE m 0 s hZ hZ h0
theorem apF {q:zb}(h1:wSl qw q.H) (h0:(sll q.E).length≤1048576) (h2:wSl qw q.B) (h3:wSl acN q.C) (most:Int) {n:Nat}(hn:3048710≤n):∃ r,aeR n q most=some r:=by
 obtain ⟨n,rfl⟩:=ja n 1
 unfold aeR
 rw [zx]
 refine akQ (fun _=>⟨_,rfl⟩) fun _=>?_
 simp only [zE]
 have l15:∀ acc:Int,∃ r,qM n q most (fun y13=>some y13) n acc 0=some r:=fun acc=>by
  refine al9 (F:=fun k s i=>qM n q most (fun y13=>some y13) k s i) (l:=sll q.C) (fun _ _=>True) h3.1 hZ acc trivial (fun k i s z hi hz _=>?_) fun k s _=>?_
  ·have hx:=h3.2 z (hz▸List.getElem_mem hi)
   rw [qM,dT hZ,jn]
   cases decide (s≤most) with
   |false=>exact .inl ⟨_,rfl⟩
   |true=>
    rw [je,Z7 hi hz,jc]
    obtain ⟨r,hr⟩:=aic (a:=some [zy z.N]) ⟨by simp [sll],fun y hy=>by
     simp only [sll,List.mem_singleton] at hy
     subst hy
     exact hx.2⟩ (IntKind.wrap .i64 (most-s)) (n:=n) hZ
    rw [hr,jc]
    exact .inr ⟨_,trivial,rfl⟩
  rw [qM,dF hZ,Bool.false_and,jd]
  exact ⟨_,rfl⟩
 have s2:∀ acc:Int,∃ r,(bif decide (acc≤most) then (adt n q.B (IntKind.wrap .i64 (most-acc))).bind fun x27=>qM n q most (fun y13=>some y13) n (IntKind.wrap .i64 (acc+x27)) 0 else qM n q most (fun y13=>some y13) n acc 0)=some r:=fun acc=>
  akQ (fun _=>anT (aic h2 _ hZ) fun _=>l15 _) fun _=>l15 _
 refine al9 (F:=fun k s i=>aaB n q most _ k s i) (l:=sll q.E) (fun _ _=>True) h0 hZ _ trivial (fun k i s z hi hz _=>?_) fun k s _=>?_
 ·rw [aaB,dT hZ,je]
  cases decide (s>most) with
  |true=>exact .inl ⟨_,rfl⟩
  |false=>
   rw [jd,Z7 hi hz,jc]
   cases decide ((z.size:Int)>most) with
   |true=>exact .inl ⟨_,rfl⟩
   |false=>exact .inr ⟨_,trivial,rfl⟩
 rw [aaB,dF hZ,jd]
 exact akQ (fun _=>anT (aic h1 _ hZ) fun _=>s2 _) fun _=>s2 _
theorem aou {q:zb}(hq:aaV q) {a:Option jx}(ha:wSl aao a) {n:Nat}(hn:3048720≤n):∃ r,adO n q a=some r:=by
 obtain ⟨n,rfl⟩:=ja n 1
 unfold adO
 rw [zx]
 refine anT (apF hq.2.1 hq.1.1 hq.2.2.2.1 hq.2.2.2.2.1 500 hZ) fun b=>?_
 refine akQ (fun _=>⟨_,rfl⟩) fun _=>?_
 rw [zE]
 refine al9 (F:=fun k (_:Unit) i=>aac n a _ k i) (l:=sll a) (fun _ _=>True) ha.1 hZ () trivial (fun k i _ z hi hz _=>?_) fun k _ _=>?_
 ·rw [aac,dT hZ,je,Z7 hi hz,jc]
  generalize ((decide (((sll z.Q).length:Int)>40))||(decide ((z.R.size:Int)>100)))=b
  cases b with
  |true=>exact .inl ⟨_,rfl⟩
  |false=>exact .inr ⟨(),trivial,rfl⟩
 rw [aac,dF hZ,jd]
 exact ⟨_,rfl⟩
theorem aln {α:Type}{F:Nat→Int→Option Int}{l:List α}{p:α→Bool}(hl:l.length≤1048576)
  (hF:∀ (m i:Nat) (x:α),(hi:i<l.length)→l[i]=x→F (m+1) (i:Int)=bif p x then some (i:Int) else F m (IntKind.wrap .i64 ((i:Int)+1))) (hE:∀ (m:Nat),F (m+1) (l.length:Int)=some (-1)):
  ∀ (m i:Nat),i≤l.length→l.length-i<m→∃ j,F m (i:Int)=some j∧(((l.drop i).find? p=none∧j=-1)∨∃ t,(l.drop i).find? p=some t∧0≤j∧idx l j=some t)
 |0,i,_,h=>by omega
 |m+1,i,h,hm=>by
  by_cases hi:i<l.length
  ·rw [hF m i _ hi rfl,adZ hZ,List.drop_eq_getElem_cons hi,List.find?_cons]
   obtain ⟨j,h1,h2⟩:=aln hl hF hE m (i+1) hZ hZ
   cases hp:p l[i] with
   |true=>exact ⟨i,rfl,.inr ⟨l[i],rfl,hZ,Z7 hi rfl⟩⟩
   |false=>exact ⟨j,h1,h2⟩
  obtain rfl:i=l.length:=by omega
  exact ⟨-1,hE m,.inl ⟨by rw [List.drop_length];rfl,rfl⟩⟩
def named (name:ByteArray) (t:zn):Bool:=sEq t.R name
theorem asw {a:Option jx}(ha:(sll a).length≤1048576) (name:ByteArray) {n:Nat}(hn:2000010≤n):
  ∃ j,Zl n a name=some j∧(((sll a).find? (named name)=none∧j=-1)∨∃ t,(sll a).find? (named name)=some t∧0≤j∧idx (sll a) j=some t):=by
 obtain ⟨n,rfl⟩:=ja n 2
 unfold Zl
 rw [zx,zE]
 have:=aln (F:=fun k i=>Za (n+1) a name (fun _=>some (-1)) k i) (l:=sll a) (p:=named name) ha (fun m i x hi hx=>by
  rw [Za,dT hZ,je,Z7 hi hx,jc];rfl) (fun m=>by
  rw [Za,dF hZ,jd]) (n+1) 0 hZ hZ
 rwa [List.drop_zero] at this
theorem arY {c:Option (List ZT)}(hc:(sll c).length≤1048576) {n:Nat}(hn:1≤n):Qe n c=some c:=by
 obtain ⟨n,rfl⟩:=ja n 1
 unfold Qe
 rw [zx]
 cases c with
 |none=>rfl
 |some l=>
  rw [abP] at hc
  simp only [Option.isNone_some,jd,abP]
  cases l with
  |nil=>rw [List.isEmpty_nil,je,ab6 (by simp) hZ];rfl
  |cons x l=>rw [List.isEmpty_cons,jd,ab6 (by simpa using (show (x::l).length≤2000000 by omega)) hZ];rfl
def acC (all:List zn):List ByteArray→Option jx
 |[]=>some []
 |x::r=>match all.find? (named x),acC all r with
  |some t,some l=>some (⟨x,t.Q⟩::l)
  |_,_=>none
theorem anv (all:List zn):∀ (a b:List ByteArray),acC all (a++b)=match acC all a,acC all b with
  |some p,some q=>some (p++q)
  |_,_=>none
 |[],b=>by
  rw [List.nil_append,acC]
  cases acC all b<;>rfl
 |x::a,b=>by
  rw [List.cons_append,acC,acC,anv all a b]
  cases all.find? (named x) with
  |none=>rfl
  |some t=>
   cases acC all a with
   |none=>rfl
   |some p=>
    cases acC all b with
    |none=>rfl
    |some q=>rfl
theorem amS {all:List zn}:∀ {a:List ByteArray}{x:ByteArray},x∈a→all.find? (named x)=none→acC all a=none
 |y::a,x,h,hf=>by
  rw [acC]
  rcases List.mem_cons.1 h with rfl|h
  ·rw [hf]
  rw [amS h hf]
  cases all.find? (named y)<;>rfl
theorem amR {all:List zn}:∀ {a:List ByteArray}{l:List zn},acC all a=some l→l.length=a.length
 |[],l,h=>by cases h;rfl
 |x::a,l,h=>by
  rw [acC] at h
  split at h
  ·rename_i t l' h1 h2
   cases h
   rw [List.length_cons,List.length_cons,amR h2]
  cases h
def adw (all:List zn) (rels:List ByteArray):Option jx×Int:=
 if rels.length>12 then (none,51) else if rels.length=0 then (none,2) else match acC all rels with
  |none=>(none,40)
  |some l=>(some l,0)
theorem aqK {a:Option jx}(ha:wSl aao a) {rels:Option (List ByteArray)}(hr:(sll rels).length≤1048576) {n:Nat}(hn:2000020≤n):
  Is (fun (p:Option jx×Int)=>match acC (sll a) (sll rels) with|none=>p.2=40|some l=>sll p.1=l∧p.2=0∧(p.1=none↔sll rels=[])) (ZW n a rels):=by
 obtain ⟨n,rfl⟩:=ja n 2
 unfold ZW
 rw [zx,zE]
 refine aq7 (F:=fun k (s:Option jx) i=>zF (n+1) a rels _ k s i) (l:=sll rels) (fun i s=>acC (sll a) ((sll rels).take i)=some (sll s)∧(s=none↔i=0)) hr hZ none ⟨rfl,by simp⟩ (fun k i s z hi hz hp=>?_) fun k s hp=>?_
 ·have hmem:z∈sll rels:=hz▸List.getElem_mem hi
  obtain ⟨p1,p2⟩:=hp
  have hlen:=amR p1
  rw [List.length_take] at hlen
  have htake:(sll rels).take (i+1)=(sll rels).take i++[z]:=by rw [List.take_add_one,List.getElem?_eq_getElem hi,hz];rfl
  obtain ⟨j,hj,hcase⟩:=asw ha.1 z (n:=n) hZ
  rcases hcase with ⟨hf,rfl⟩|⟨t,hf,hj0,hidx⟩
  ·left
   rw [amS hmem hf]
   cases s with
   |none=>
    rw [zF,dT hZ,je,Z7 hi hz,jc,abM,zx,hj]
    exact ⟨_,rfl,rfl⟩
   |some y=>
    rw [zF,dT hZ,je,Z7 hi hz,jc,aaI,zx,hj]
    exact ⟨_,rfl,rfl⟩
  right
  have ht:aao t:=ha.2 t (List.mem_of_find?_eq_some hf)
  have hcl:=arY ht.2.1 (n:=n) hZ
  have hnew:acC (sll a) ((sll rels).take (i+1))=some (sll s++[⟨z,t.Q⟩]):=by
   rw [htake,anv,p1,acC,hf];rfl
  cases s with
  |none=>
   rw [zF,dT hZ,je,Z7 hi hz,jc,abM,zx,hj,jc,dF hZ,jd,hidx,jc,hcl,jc,ab6 (by simp) hZ,jc,jc]
   exact ⟨some ([]++[zn.mk z t.Q]),⟨hnew,by simp⟩,rfl⟩
  |some y=>
   rw [abP] at hlen
   rw [zF,dT hZ,je,Z7 hi hz,jc,aaI,zx,hj,jc,dF hZ,jd,hidx,jc,hcl,jc,ab6 (by simp;omega) hZ,jc,jc]
   exact ⟨some (y++[zn.mk z t.Q]),⟨hnew,by simp⟩,rfl⟩
 obtain ⟨p1,p2⟩:=hp
 rw [List.take_length] at p1
 rw [p1]
 cases s with
 |none=>
  rw [zF,dF hZ,jd]
  exact ⟨_,rfl,rfl,rfl,by simp only [true_iff];exact List.eq_nil_of_length_eq_zero (p2.1 rfl)⟩
 |some y=>
  rw [zF,dF hZ,jd]
  exact ⟨_,rfl,rfl,rfl,by simp only [reduceCtorEq,false_iff];intro h;have:=p2.2 (by rw [h];rfl);cases this⟩
theorem aqN {q:zb}(hq:(sll q.E).length≤1048576) {a:Option jx}(ha:wSl aao a) {n:Nat}(hn:2000030≤n):ada n q a=some (adw (sll a) (sll q.E)):=by
 obtain ⟨n,rfl⟩:=ja n 1
 unfold ada adw
 rw [zx]
 by_cases h1:(sll q.E).length>12
 ·rw [dT hZ,je,if_pos h1]
 rw [dF hZ,jd,if_neg h1]
 by_cases h2:(sll q.E).length=0
 ·rw [show (((sll q.E).length:Int)==0)=true by simp [h2],je,if_pos h2]
 rw [show (((sll q.E).length:Int)==0)=false by simpa using h2,jd,if_neg h2]
 simp only [zE]
 obtain ⟨⟨o,e⟩,hp,hs⟩:=aqK ha hq (n:=n) hZ
 rw [hp,jc]
 cases ht:acC (sll a) (sll q.E) with
 |none=>
  rw [ht] at hs
  obtain rfl:e=40:=hs
  cases o<;>rfl
 |some l=>
  rw [ht] at hs
  obtain ⟨s1,s2,s3⟩:=hs
  simp only at s1 s2 s3
  subst s2
  cases o with
  |none=>exact absurd (by rw [s3.1 rfl];rfl) h2
  |some y=>
   rw [abP] at s1
   subst s1
   rfl
end Go.Pl
