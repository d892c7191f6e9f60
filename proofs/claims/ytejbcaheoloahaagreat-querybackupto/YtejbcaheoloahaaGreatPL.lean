import Derived.Test.YtejbcaheoloahaaGreatAbLift
import Derived.Test.YtejbcaheoloahaaGreatAbFlt
import Derived.Test.YtejbcaheoloahaaGreatAbRow
set_option linter.all false
namespace Go.Pl
open Go Go.Ab
theorem zx {α:Type}{n:Nat}{F:Nat→Option α}:at1 (n+1) F=F n:=rfl
theorem agi {x:Int}(h1:-9223372036854775808≤x) (h2:x<9223372036854775808):IntKind.wrap .i64 x=x:=by simp [IntKind.wrap,IntKind.signed,IntKind.bits];omega
theorem acG {x:Int}(h1:0≤x) (h2:x<18446744073709551616):IntKind.wrap .u64 x=x:=by simp [IntKind.wrap,IntKind.signed,IntKind.bits];omega
theorem adZ {i:Nat}(h:i<1000000000000):IntKind.wrap .i64 ((i:Int)+1)=((i+1:Nat):Int):=by
 rw [agi hZ hZ];omega
theorem ai9 {α:Type}(l:List α) (i:Nat):idx l (i:Int)=l[i]?:=by
 unfold idx
 rw [if_pos hZ];rfl
theorem asA (s:ByteArray) (i:Int):idxS s i=idx (Qk s) i:=by
 unfold idxS idx Qk
 split
 ·rw [List.getElem?_map]
 rfl
def aeN {α S R:Type}(B:α→Nat→S→(S→Option R)→Option R) (k:S→Option R):List α→Nat→S→Option R
 |[],_,s=>k s
 |x::r,i,s=>B x i s (fun s'=>aeN B k r (i+1) s')
theorem ao7 {α S R:Type}{F:Nat→S→Int→Option R}{l:List α}{B:α→Nat→S→(S→Option R)→Option R}{k:S→Option R}(hl:l.length<1000000000000)
  (hF:∀ (m i:Nat) (s:S),i≤l.length→F (m+1) s i=bif decide ((i:Int)<(l.length:Int)) then (idx l i).bind fun x=>B x i s (fun s'=>F m s' (IntKind.wrap .i64 ((i:Int)+1))) else k s):
  ∀ (m i:Nat) (s:S),i≤l.length→l.length-i<m→F m s i=aeN B k (l.drop i) i s:=by
 intro m
 induction m with
 |zero=>intro i s _ h;omega
 |succ m ih=>
  intro i s hi hm
  rw [hF m i s hi]
  by_cases hlt:i<l.length
  ·have:decide ((i:Int)<(l.length:Int))=true:=by simp;omega
   rw [this,je,ai9,List.getElem?_eq_getElem hlt,jc,List.drop_eq_getElem_cons hlt]
   show _=B l[i] i s _
   congr 1
   funext s'
   rw [adZ hZ]
   exact ih (i+1) s' hZ hZ
  have:decide ((i:Int)<(l.length:Int))=false:=by simp;omega
  rw [this,jd,List.drop_eq_nil_of_le hZ]
  rfl
theorem aj4 {α S R:Type}{F:Nat→S→Int→Option R}{l:List α}{B:α→Nat→S→(S→Option R)→Option R}{k:S→Option R}(hl:l.length<2000000)
  (hF:∀ (m i:Nat) (s:S),i≤l.length→F (m+1) s i=bif decide ((i:Int)<(l.length:Int)) then (idx l i).bind fun x=>B x i s (fun s'=>F m s' (IntKind.wrap .i64 ((i:Int)+1))) else k s) {m:Nat}(hm:2000000≤m) (s:S):F m s 0=aeN B k l 0 s:=by
 have:=ao7 hZ hF m 0 s hZ hZ
 rw [List.drop_zero] at this
 exact this
theorem aso {S R:Type}{F:Nat→S→Int→Option R}{x:ByteArray}(hx:wS x) {B:Int→Nat→S→(S→Option R)→Option R}{k:S→Option R}
  (hF:∀ (m i:Nat) (s:S),F (m+1) s i=bif decide ((i:Int)<(x.size:Int)) then (idxS x i).bind fun c=>B c i s (fun s'=>F m s' (IntKind.wrap .i64 ((i:Int)+1))) else k s) {m:Nat}(hm:2000000≤m) (s:S):F m s 0=aeN B k (Qk x) 0 s:=by
 unfold wS at hx
 refine aj4 (by rw [ach];omega) (fun m i s _=>?_) hm s
 rw [hF m i s,asA,ach]
theorem asq {α S R:Type}{F:Nat→S→Int→Option R}{x:Option (List α)}(hx:(sll x).length≤1048576) {B:α→Nat→S→(S→Option R)→Option R}{k:S→Option R}
  (hF:∀ (m i:Nat) (s:S),F (m+1) s i=bif decide ((i:Int)<((sll x).length:Int)) then (idx (sll x) i).bind fun c=>B c i s (fun s'=>F m s' (IntKind.wrap .i64 ((i:Int)+1))) else k s) {m:Nat}(hm:2000000≤m) (s:S):F m s 0=aeN B k (sll x) 0 s:=
 aj4 hZ (fun m i s _=>hF m i s) hm s
theorem ahu {x y:ByteArray}:sEq x y=true↔x=y:=by
 unfold sEq
 rw [beq_iff_eq,ByteArray.toList_eq,ByteArray.toList_eq]
 constructor
 ·intro h
  apply ByteArray.ext
  exact Array.toList_inj.1 h
 intro h;rw [h]
theorem agS (x:ByteArray):sEq x x=true:=ahu.2 rfl
end Go.Pl

set_option linter.all false
namespace Go.Pl
open Go Go.Ab
def Bytes (l:List Int):Prop:=∀ x∈l,0≤x∧x<256
theorem anF {x:Int}(h1:0≤x) (h2:x<18446744073709551616):IntKind.u64.wrap x=x:=acG h1 h2
theorem ald {x:Int}(h1:0≤x) (h2:x<256):IntKind.u8.wrap x=x:=by simp [IntKind.wrap,IntKind.signed,IntKind.bits];omega
def rdU:Nat→Nat→Nat→List Int→Option (Nat×List Int)
 |0,_,_,_=>none
 |_+1,_,_,[]=>none
 |k+1,i,acc,c::l=>if (i=9∧c>1)∨(i>0∧c=0) then none else if c<128 then some (acc+(c%128).toNat * 2^(7*i),l) else rdU k (i+1) (acc+(c%128).toNat * 2^(7*i)) l
theorem asC {k i acc:Nat}:rdU (k+1) i acc []=none:=by rw [rdU]
theorem asJ {k i acc:Nat}{c:Int}{l:List Int}(h:(i=9∧c>1)∨(i>0∧c=0)):rdU (k+1) i acc (c::l)=none:=by rw [rdU,if_pos h]
theorem aoK {k i acc:Nat}{c:Int}{l:List Int}(h:¬ ((i=9∧c>1)∨(i>0∧c=0))) (hc:c<128):rdU (k+1) i acc (c::l)=some (acc+(c%128).toNat * 2^(7*i),l):=by rw [rdU,if_neg h,if_pos hc]
theorem ao3 {k i acc:Nat}{c:Int}{l:List Int}(h:¬ ((i=9∧c>1)∨(i>0∧c=0))) (hc:¬ c<128):rdU (k+1) i acc (c::l)=rdU k (i+1) (acc+(c%128).toNat * 2^(7*i)) l:=by rw [rdU,if_neg h,if_neg hc]
theorem atj {c:Int}(h0:0≤c) (h1:c<256):iAnd .u8 c 127=c%128:=by
 unfold iAnd
 have h:∀ x:BitVec 8,(x &&& 127#8).toNat=x.toNat%128:=by decide
 have e:(BitVec.ofInt IntKind.u8.bits c &&& BitVec.ofInt IntKind.u8.bits 127).toNat=(BitVec.ofInt 8 c).toNat%128:=h _
 rw [e,BitVec.toNat_ofInt]
 simp [IntKind.wrap,IntKind.signed,IntKind.bits]
 omega
theorem shl7 {c:Nat}{i:Nat}(hc:c<128) (hi:i≤9) (h9:i=9→c≤1):iShl .u64 (c:Int) (7*i)=((c*2^(7*i):Nat):Int):=by
 unfold iShl
 have e2:min (7*(i:Int)).toNat IntKind.u64.bits=7*i:=by simp [IntKind.bits];omega
 simp only [e2]
 have hb:c*2^(7*i)<2^64:=by
  rcases Nat.lt_or_ge i 9 with h|h
  ·have:2^(7*i)≤2^56:=Nat.pow_le_pow_right hZ hZ
   have:c*2^(7*i)≤127*2^56:=Nat.mul_le_mul hZ this
   omega
  have h9':i=9:=by omega
  subst h9'
  have:=h9 rfl
  omega
 have e3:((c:Int)*2^(7*i))=((c*2^(7*i):Nat):Int):=by simp
 rw [e3,anF hZ hZ]
theorem orU {a b s:Nat}(ha:a<2^s) (hb:a+b*2^s<2^64):iOr .u64 (a:Int) ((b*2^s:Nat):Int)=((a+b*2^s:Nat):Int)   := by
 unfold iOr
 have e1:(BitVec.ofInt IntKind.u64.bits (a:Int)).toNat=a:=by simp [IntKind.bits];omega
 have e2:(BitVec.ofInt IntKind.u64.bits ((b*2^s:Nat):Int)).toNat=b*2^s:=by
  rw [BitVec.toNat_ofInt];simp only [IntKind.bits];omega
 rw [BitVec.toNat_or,e1,e2,Nat.or_comm,Nat.mul_comm b,←Nat.two_pow_add_eq_or_of_lt ha,Nat.add_comm]
 rw [Nat.mul_comm b] at hb
 exact anF hZ hZ
theorem as1 {acc i:Nat}{c:Int}(ha:acc<2^(7*i)) (hc:0≤c∧c<256) (hi:i≤9) (h9:i=9→c≤1):acc+(c%128).toNat * 2^(7*i)<2^64:=by
 rcases Nat.lt_or_ge i 9 with h|h
 ·have h1:2^(7*i)≤2^56:=Nat.pow_le_pow_right hZ hZ
  have h2:(c%128).toNat * 2^(7*i)≤127*2^56:=Nat.mul_le_mul hZ h1
  omega
 have h9':i=9:=by omega
 subst h9'
 have:=h9 rfl
 have:(c%128).toNat≤1:=by omega
 have:(c%128).toNat * 2^(7*9)≤1*2^63:=Nat.mul_le_mul this hZ
 omega
theorem att {acc i:Nat}{c:Int}(ha:acc<2^(7*i)) (hc:0≤c∧c<256):acc+(c%128).toNat * 2^(7*i)<2^(7*(i+1)):=by
 have h2:(c%128).toNat * 2^(7*i)≤127*2^(7*i):=Nat.mul_le_mul hZ (Nat.le_refl _)
 have:2^(7*(i+1))=128*2^(7*i):=by rw [show 7*(i+1)=7*i+7 by omega,Nat.pow_add];omega
 omega
theorem aej {n:Nat}(h:n<128):Ql n=[(n:Int)]:=by
 unfold Ql;rw [aqc,ap9,if_pos h,if_pos h];rfl
theorem aeg {n:Nat}(h:¬ n<128):Ql n=((n%128+128:Nat):Int)::Ql (n / 128):=by
 unfold Ql
 rw [aqc,ap9,if_neg h,if_neg h];rfl
theorem aa4:∀ (v:Nat),Bytes (Ql v):=by
 intro v
 induction v using Nat.strongRecOn with
 |ind v ih=>
  by_cases h:v<128
  ·rw [aej h];intro x hx;simp at hx;omega
  rw [aeg h]
  intro x hx
  rcases List.mem_cons.1 hx with rfl|hx
  ·omega
  exact ih (v / 128) hZ x hx
theorem Bytes.app {a b:List Int}(ha:Bytes a) (hb:Bytes b):Bytes (a++b):=fun x hx=>by
 rcases List.mem_append.1 hx with h|h
 ·exact ha x h
 exact hb x h
theorem alJ (rest:List Int):∀ (k i acc n:Nat),k+i=10→n*2^(7*i)<2^64→(0<i→0<n)→i≤9→rdU k i acc (Ql n++rest)=some (acc+n*2^(7*i),rest)
 |0,i,acc,n,hk,hn,h0,hi=>by omega
 |k+1,i,acc,n,hk,hn,h0,hi=>by
  have h9:i=9→n≤1:=by
   intro h;subst h
   rcases Nat.lt_or_ge 1 n with h|h
   ·have:2*2^(7*9)≤n*2^(7*9):=Nat.mul_le_mul h (Nat.le_refl _)
    omega
   exact h
  by_cases h:n<128
  ·rw [aej h,List.cons_append,List.nil_append,aoK hZ hZ]
   have:((n:Int)%128).toNat=n:=by omega
   rw [this]
  rw [aeg h,List.cons_append,ao3 hZ hZ]
  have e1:(((n%128+128:Nat):Int)%128).toNat=n%128:=by omega
  have hi8:i≤8:=by omega
  have e2:n / 128*2^(7*(i+1))≤n*2^(7*i):=by
   rw [show 7*(i+1)=7*i+7 by omega,Nat.pow_add,show 2^7=128 from rfl,Nat.mul_comm (2^(7*i)) 128,←Nat.mul_assoc]
   exact Nat.mul_le_mul (Nat.div_mul_le_self n 128) (Nat.le_refl _)
  rw [e1,alJ rest k (i+1) _ (n / 128) hZ hZ hZ hZ]
  congr 2
  rw [show 7*(i+1)=7*i+7 by omega,Nat.pow_add,show 2^7=128 from rfl,Nat.mul_comm (2^(7*i)) 128,←Nat.mul_assoc,Nat.add_assoc,←Nat.add_mul]
  congr 2
  omega
theorem anG {n:Nat}(hn:n<2^64) (rest:List Int):rdU 10 0 0 (Ql n++rest)=some (n,rest):=by
 rw [alJ rest 10 0 0 n hZ hZ hZ hZ];simp
end Go.Pl
