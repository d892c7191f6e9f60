import Derived.Test.YtejbcaheoloahaaGreatPL
import Derived.Test.YtejbcaheoloahaaGreatAbRow
set_option linter.unusedVariables false
set_option linter.unusedSimpArgs false
namespace Go.Pl
open Go Go.Ab
def Bytes (l:List Int):Prop:=∀ x∈l,0≤x∧x < 256
theorem akK {x:Int} (h1:0≤x) (h2:x < 18446744073709551616):IntKind.u64.wrap x=x:=Q1 h1 h2
theorem ahO {x:Int} (h1:0≤x) (h2:x < 256):IntKind.u8.wrap x=x:=by simp [IntKind.wrap,IntKind.signed,IntKind.bits]; omega
def rdU:Nat→Nat→Nat→List Int→Option (Nat × List Int)
  | 0,_,_,_=>none
  | _+1,_,_,[]=>none
  | k+1,i,acc,c :: l=>if (i=9∧c > 1)∨(i > 0∧c=0) then none else if c < 128 then some (acc+(c % 128).toNat * 2 ^ (7 * i),l) else rdU k (i+1) (acc+(c % 128).toNat * 2 ^ (7 * i)) l
theorem apr {k i acc:Nat}:rdU (k+1) i acc []=none:=by rw [rdU]
theorem api {k i acc:Nat} {c:Int} {l:List Int} (h:(i=9∧c > 1)∨(i > 0∧c=0)):rdU (k+1) i acc (c :: l)=none:=by rw [rdU,if_pos h]
theorem alC {k i acc:Nat} {c:Int} {l:List Int} (h:¬ ((i=9∧c > 1)∨(i > 0∧c=0))) (hc:c < 128):rdU (k+1) i acc (c :: l)=some (acc+(c % 128).toNat * 2 ^ (7 * i),l):=by rw [rdU,if_neg h,if_pos hc]
theorem alM {k i acc:Nat} {c:Int} {l:List Int} (h:¬ ((i=9∧c > 1)∨(i > 0∧c=0))) (hc:¬ c < 128):rdU (k+1) i acc (c :: l)=rdU k (i+1) (acc+(c % 128).toNat * 2 ^ (7 * i)) l:=by rw [rdU,if_neg h,if_neg hc]
theorem apY {c:Int} (h0:0≤c) (h1:c < 256):iAnd .u8 c 127=c % 128:=by
  unfold iAnd
  have h:∀ x:BitVec 8,(x &&& 127#8).toNat=x.toNat % 128:=by decide
  have e:(BitVec.ofInt IntKind.u8.bits c &&& BitVec.ofInt IntKind.u8.bits 127).toNat=(BitVec.ofInt 8 c).toNat % 128:=h _
  rw [e,BitVec.toNat_ofInt]
  simp [IntKind.wrap,IntKind.signed,IntKind.bits]
  omega
theorem shl7 {c:Nat} {i:Nat} (hc:c < 128) (hi:i≤9) (h9:i=9→c≤1):iShl .u64 (c:Int) (7 * i)=((c * 2 ^ (7 * i):Nat):Int):=by
  unfold iShl
  have e2:min (7 * (i:Int)).toNat IntKind.u64.bits=7 * i:=by simp [IntKind.bits]; omega
  simp only [e2]
  have hb:c * 2 ^ (7 * i) < 2 ^ 64:=by
    rcases Nat.lt_or_ge i 9 with h | h
    · have:2 ^ (7 * i)≤2 ^ 56:=Nat.pow_le_pow_right (by omega) (by omega)
      have:c * 2 ^ (7 * i)≤127 * 2 ^ 56:=Nat.mul_le_mul (by omega) this
      omega
    · have h9':i=9:=by omega
      subst h9'
      have:=h9 rfl
      omega
  have e3:((c:Int) * 2 ^ (7 * i))=((c * 2 ^ (7 * i):Nat):Int):=by simp
  rw [e3,akK (by omega) (by omega)]
theorem orU {a b s:Nat} (ha:a < 2 ^ s) (hb:a+b * 2 ^ s < 2 ^ 64):iOr .u64 (a:Int) ((b * 2 ^ s:Nat):Int)=((a+b * 2 ^ s:Nat):Int)   := by
  unfold iOr
  have e1:(BitVec.ofInt IntKind.u64.bits (a:Int)).toNat=a:=by simp [IntKind.bits]; omega
  have e2:(BitVec.ofInt IntKind.u64.bits ((b * 2 ^ s:Nat):Int)).toNat=b * 2 ^ s:=by
    rw [BitVec.toNat_ofInt]; simp only [IntKind.bits]; omega
  rw [BitVec.toNat_or,e1,e2,Nat.or_comm,Nat.mul_comm b,← Nat.two_pow_add_eq_or_of_lt ha,Nat.add_comm]
  rw [Nat.mul_comm b] at hb
  exact akK (by omega) (by omega)
theorem apx {acc i:Nat} {c:Int} (ha:acc < 2 ^ (7 * i)) (hc:0≤c∧c < 256) (hi:i≤9) (h9:i=9→c≤1):acc+(c % 128).toNat * 2 ^ (7 * i) < 2 ^ 64:=by
  rcases Nat.lt_or_ge i 9 with h | h
  · have h1:2 ^ (7 * i)≤2 ^ 56:=Nat.pow_le_pow_right (by omega) (by omega)
    have h2:(c % 128).toNat * 2 ^ (7 * i)≤127 * 2 ^ 56:=Nat.mul_le_mul (by omega) h1
    omega
  · have h9':i=9:=by omega
    subst h9'
    have:=h9 rfl
    have:(c % 128).toNat≤1:=by omega
    have:(c % 128).toNat * 2 ^ (7 * 9)≤1 * 2 ^ 63:=Nat.mul_le_mul this (by omega)
    omega
theorem aqe {acc i:Nat} {c:Int} (ha:acc < 2 ^ (7 * i)) (hc:0≤c∧c < 256):acc+(c % 128).toNat * 2 ^ (7 * i) < 2 ^ (7 * (i+1)):=by
  have h2:(c % 128).toNat * 2 ^ (7 * i)≤127 * 2 ^ (7 * i):=Nat.mul_le_mul (by omega) (Nat.le_refl _)
  have:2 ^ (7 * (i+1))=128 * 2 ^ (7 * i):=by rw [show 7 * (i+1)=7 * i+7 by omega,Nat.pow_add]; omega
  omega
theorem ae6 {n:Nat} (h:n < 128):qC n=[(n:Int)]:=by
  unfold qC; rw [am9,am3,if_pos h,if_pos h]; rfl
theorem afh {n:Nat} (h:¬ n < 128):qC n=((n % 128+128:Nat):Int) :: qC (n / 128):=by
  unfold qC
  rw [am9,am3,if_neg h,if_neg h]; rfl
theorem QR:∀ (v:Nat),Bytes (qC v):=by
  intro v
  induction v using Nat.strongRecOn with
  | ind v ih=>
    by_cases h:v < 128
    · rw [ae6 h]; intro x hx; simp at hx; omega
    · rw [afh h]
      intro x hx
      rcases List.mem_cons.1 hx with rfl | hx
      · omega
      · exact ih (v / 128) (by omega) x hx
theorem Bytes.app {a b:List Int} (ha:Bytes a) (hb:Bytes b):Bytes (a++b):=fun x hx=>by
  rcases List.mem_append.1 hx with h | h
  · exact ha x h
  · exact hb x h
theorem aiB (rest:List Int):∀ (k i acc n:Nat),k+i=10→n * 2 ^ (7 * i) < 2 ^ 64→(0 < i→0 < n)→i≤9→rdU k i acc (qC n++rest)=some (acc+n * 2 ^ (7 * i),rest)
  | 0,i,acc,n,hk,hn,h0,hi=>by omega
  | k+1,i,acc,n,hk,hn,h0,hi=>by
    have h9:i=9→n≤1:=by
      intro h; subst h
      rcases Nat.lt_or_ge 1 n with h | h
      · have:2 * 2 ^ (7 * 9)≤n * 2 ^ (7 * 9):=Nat.mul_le_mul h (Nat.le_refl _)
        omega
      · exact h
    by_cases h:n < 128
    · rw [ae6 h,List.cons_append,List.nil_append,alC (by omega) (by omega)]
      have:((n:Int) % 128).toNat=n:=by omega
      rw [this]
    · rw [afh h,List.cons_append,alM (by omega) (by omega)]
      have e1:(((n % 128+128:Nat):Int) % 128).toNat=n % 128:=by omega
      have hi8:i≤8:=by omega
      have e2:n / 128 * 2 ^ (7 * (i+1))≤n * 2 ^ (7 * i):=by
        rw [show 7 * (i+1)=7 * i+7 by omega,Nat.pow_add,show 2 ^ 7=128 from rfl,Nat.mul_comm (2 ^ (7 * i)) 128,← Nat.mul_assoc]
        exact Nat.mul_le_mul (Nat.div_mul_le_self n 128) (Nat.le_refl _)
      rw [e1,aiB rest k (i+1) _ (n / 128) (by omega) (by omega) (by omega) (by omega)]
      congr 2
      rw [show 7 * (i+1)=7 * i+7 by omega,Nat.pow_add,show 2 ^ 7=128 from rfl,Nat.mul_comm (2 ^ (7 * i)) 128,← Nat.mul_assoc,Nat.add_assoc,← Nat.add_mul]
      congr 2
      omega
theorem akP {n:Nat} (hn:n < 2 ^ 64) (rest:List Int):rdU 10 0 0 (qC n++rest)=some (n,rest):=by
  rw [aiB rest 10 0 0 n (by omega) (by omega) (by omega) (by omega)]; simp
end Go.Pl
