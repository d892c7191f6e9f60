import Derived.Test.YtejbcaheoloahaaGreatFA
import Derived.Test.YtejbcaheoloahaaGreatPA
import Derived.Test.YtejbcaheoloahaaGreatPC
set_option linter.unusedVariables false
set_option linter.unusedSimpArgs false
namespace Go.Pl
open Go Go.Ab
theorem ac1 {α:Type} (s:Option (List α)) (lo hi:Int):sll (QH s lo hi)=((sll s).drop lo.toNat).take (hi.toNat - lo.toNat):=by
  cases s <;> simp [QH,sll,subL]
theorem aod {lo hi n:Int} (h:0≤lo∧lo≤hi∧hi≤n):ckB lo hi n=some ():=by
  unfold ckB; rw [if_pos h]
theorem ZE {b n:Nat} (hb:b≤1000) (h:n≤100000000000):ckA b n=some ():=by
  unfold ckA
  rw [if_pos ⟨by have:=Nat.mul_le_mul h hb; omega,by omega⟩]
theorem aoP {b:Int} (h:0≤b):ckN b=some ():=by
  unfold ckN; rw [if_neg (by omega)]
theorem aie {r:zf} {e:Int} {n:Nat} (h:1≤n):qb n r e=some ():=by
  obtain ⟨n,rfl⟩:∃ k,n=k+1:=⟨n - 1,by omega⟩
  rfl
theorem adj {r:zf} {n:Nat} (h:1≤n):Z3 n r=some ():=by
  obtain ⟨n,rfl⟩:∃ k,n=k+1:=⟨n - 1,by omega⟩
  rfl
theorem aij {m:Bool} {b:Option (List Int)} {e:Int} {k:Nat} (hk:k≤(sll b).length) {n:Nat} (h:2≤n):Z0 n ⟨m,b,e⟩ (k:Int)=some (QH b k ((sll b).length:Int),e,QH b 0 k,true):=by
  obtain ⟨n,rfl⟩:∃ k,n=k+1:=⟨n - 1,by omega⟩
  unfold Z0
  rw [zB,show decide ((k:Int) > ((sll b).length:Int))=false by simp; omega,cond_false]
  simp only
  rw [aod (by omega),Option.bind_some,aod (by omega),Option.bind_some]
theorem akD {m:Bool} {b:Option (List Int)} {e:Int} {k:Nat} (hk:¬ k≤(sll b).length) {n:Nat} (h:2≤n):Z0 n ⟨m,b,e⟩ (k:Int)=some (none,21,none,false):=by
  obtain ⟨n,rfl⟩:∃ k,n=k+1:=⟨n - 1,by omega⟩
  unfold Z0
  rw [zB,show decide ((k:Int) > ((sll b).length:Int))=true by simp; omega,cond_true,aie (by omega),Option.bind_some]
def NumR (x:Option (Nat × List Int)) (e:Int) (b':Option (List Int)) (e' v:Int) (ok:Bool):Prop:=
  match x with
  | some (n,rest)=>sll b'=rest∧e'=e∧v=n∧ok=true
  | none=>b'=none∧e'≠0∧v=0∧ok=false
theorem ahF {n:Nat} (hn:2≤n) (mk:Bool):∀ (k m i acc:Nat) (b:Option (List Int)) (e:Int),k+i=10→k < m→Bytes (sll b)→acc < 2 ^ (7 * i)→
    ∃ b' e' v ok,ZO n m mk b e (acc:Int) (i:Int)=some (mk,b',e',v,ok)∧NumR (rdU k i acc (sll b)) e b' e' v ok
  | 0,m,i,acc,b,e,hk,hm,hb,ha=>by
    obtain ⟨m,rfl⟩:∃ j,m=j+1:=⟨m - 1,by omega⟩
    refine ⟨none,22,0,false,?_,rfl,by decide,rfl,rfl⟩
    rw [ZO,show ((i:Int) == 10)=true by simp; omega,cond_true,aie (by omega),Option.bind_some]
  | k+1,m,i,acc,b,e,hk,hm,hb,ha=>by
    obtain ⟨m,rfl⟩:∃ j,m=j+1:=⟨m - 1,by omega⟩
    rw [ZO,show ((i:Int) == 10)=false by simp; omega,cond_false]
    cases hl:sll b with
    | nil=>
      refine ⟨none,21,0,false,?_,?_⟩
      · have:=akD (m:=mk) (b:=b) (e:=e) (k:=1) (by rw [hl]; decide) hn
        rw [show ((1:Nat):Int)=1 from rfl] at this
        rw [this]; rfl
      · rw [apr]; exact ⟨rfl,by decide,rfl,rfl⟩
    | cons c l=>
      have:=aij (m:=mk) (b:=b) (e:=e) (k:=1) (by rw [hl]; simp) hn
      rw [show ((1:Nat):Int)=1 from rfl] at this
      rw [this]
      simp only [Option.bind_some,Bool.not_true,cond_false]
      have h1:sll (QH b 0 1)=[c]:=by rw [ac1,hl]; rfl
      have h2:sll (QH b 1 ((sll b).length:Int))=l:=by
        rw [ac1,hl]
        simp
      rw [h1,show idx [c] 0=some c from rfl,Option.bind_some]
      have hc:=hb c (by rw [hl]; simp)
      by_cases hbad:(i=9∧c > 1)∨(i > 0∧c=0)
      · rw [show (((i:Int) == 9) && (decide (c > 1)) || ((decide ((i:Int) > 0)) && (c == 0)))=true by
          rw [Bool.or_eq_true,Bool.and_eq_true,Bool.and_eq_true,beq_iff_eq,beq_iff_eq,decide_eq_true_eq,decide_eq_true_eq]; omega]
        rw [cond_true,aie (by omega),Option.bind_some]
        exact ⟨none,22,0,false,rfl,by rw [api hbad]; exact ⟨rfl,by decide,rfl,rfl⟩⟩
      · rw [show (((i:Int) == 9) && (decide (c > 1)) || ((decide ((i:Int) > 0)) && (c == 0)))=false by
          rw [Bool.or_eq_false_iff,Bool.and_eq_false_iff,Bool.and_eq_false_iff,beq_eq_false_iff_ne,beq_eq_false_iff_ne,decide_eq_false_iff_not,decide_eq_false_iff_not]; omega]
        rw [cond_false,abv (by omega) (by omega),Q1 (by omega) (by omega),aoP (by omega),Option.bind_some,apY hc.1 hc.2,Q1 (by omega) (by omega)]
        have h9:i=9→c≤1:=by omega
        have e1:(c % 128:Int)=(((c % 128).toNat:Nat):Int):=by omega
        rw [e1,shl7 (by omega) (by omega) (by omega),orU ha (apx ha hc (by omega) h9)]
        by_cases hc2:c < 128
        · rw [show decide (c < 128)=true by simpa using hc2,cond_true]
          refine ⟨_,_,_,_,rfl,?_⟩
          rw [alC hbad hc2]
          exact ⟨h2,rfl,rfl,rfl⟩
        · rw [show decide (c < 128)=false by simpa using hc2,cond_false,aa3 (by omega)]
          obtain ⟨b',e',v,ok,h3,h4⟩:=ahF hn mk k m (i+1) (acc+(c % 128).toNat * 2 ^ (7 * i)) (QH b 1 ((sll b).length:Int)) e (by omega) (by omega) (by rw [h2]; intro x hx; exact hb x (by rw [hl]; simp [hx])) (aqe ha hc)
          refine ⟨b',e',v,ok,h3,?_⟩
          rw [alM hbad hc2,← h2]
          exact h4
theorem anW {mk:Bool} {b:Option (List Int)} {e:Int} (hb:Bytes (sll b)) {n:Nat} (h:12≤n):∃ b' e' v ok,QD n ⟨mk,b,e⟩=some (mk,b',e',v,ok)∧NumR (rdU 10 0 0 (sll b)) e b' e' v ok:=by
  obtain ⟨n,rfl⟩:∃ k,n=k+1:=⟨n - 1,by omega⟩
  exact ahF (by omega) mk 10 n 0 0 b e (by omega) (by omega) hb (by decide)
def alP (x:Option (Nat × List Int)) (most:Int) (b':Option (List Int)) (e' v:Int):Prop:=
  match x with
  | some (n,rest)=>if (n:Int)≤most then sll b'=rest∧e'=0∧v=n else b'=none∧e'≠0∧v=0
  | none=>b'=none∧e'≠0∧v=0
theorem ak7 {b:Option (List Int)} {most:Int} (hb:Bytes (sll b)) {n:Nat} (h:13≤n):∃ b' e' v,zL n ⟨true,b,0⟩ most=some (true,b',e',v)∧alP (rdU 10 0 0 (sll b)) most b' e' v:=by
  obtain ⟨n,rfl⟩:∃ k,n=k+1:=⟨n - 1,by omega⟩
  unfold zL
  rw [zB,adj (by omega)]
  obtain ⟨b',e',v,ok,h1,h2⟩:=anW (mk:=true) (e:=0) hb (n:=n) (by omega)
  rw [h1]
  simp only [Option.bind_some,beq_self_eq_true,Bool.and_self,Bool.not_true,cond_false]
  cases hr:rdU 10 0 0 (sll b) with
  | none=>
    rw [hr] at h2
    obtain ⟨rfl,he,rfl,rfl⟩:=h2
    exact ⟨none,e',0,rfl,rfl,he,rfl⟩
  | some p=>
    rw [hr] at h2
    obtain ⟨v0,rest⟩:=p
    obtain ⟨h3,rfl,rfl,rfl⟩:=h2
    unfold alP
    by_cases hm:(v0:Int)≤most
    · rw [show decide ((v0:Int) > most)=false by simp; omega]
      simp only [Bool.and_false,cond_false]
      exact ⟨b',0,v0,rfl,by rw [if_pos hm]; exact ⟨h3,rfl,rfl⟩⟩
    · rw [show decide ((v0:Int) > most)=true by simp; omega,aie (by omega)]
      simp only [Bool.and_self,cond_true,Option.bind_some]
      exact ⟨none,3,0,rfl,by rw [if_neg hm]; exact ⟨rfl,by decide,rfl⟩⟩
def rdT (most:Nat) (l:List Int):Option (List Int × List Int):=
  match rdU 10 0 0 l with
  | some (k,rest)=>if k≤most∧k≤rest.length then some (rest.take k,rest.drop k) else none
  | none=>none
def TextR (x:Option (List Int × List Int)) (b':Option (List Int)) (e':Int) (v:ByteArray):Prop:=
  match x with
  | some (t,rest)=>sll b'=rest∧e'=0∧v=strOf t
  | none=>e'≠0∧v=ByteArray.empty
theorem apG {b:Option (List Int)} {most:Nat} (hm:most < 1000000) (hb:Bytes (sll b)) {n:Nat} (h:14≤n):∃ b' e' v,Qv n ⟨true,b,0⟩ (most:Int)=some (true,b',e',v)∧TextR (rdT most (sll b)) b' e' v:=by
  obtain ⟨n,rfl⟩:∃ k,n=k+1:=⟨n - 1,by omega⟩
  unfold Qv
  rw [zB,if_neg (by omega),Q1 (by omega) (by omega)]
  obtain ⟨b',e',v,h1,h2⟩:=ak7 (most:=(most:Int)) hb (n:=n) (by omega)
  rw [h1]
  simp only [Option.bind_some]
  rw [adj (by omega),Option.bind_some]
  unfold rdT
  cases hr:rdU 10 0 0 (sll b) with
  | none=>
    rw [hr] at h2
    obtain ⟨rfl,he,rfl⟩:=h2
    rw [show (e' == 0)=false by simpa using he]
    exact ⟨none,e',_,rfl,he,rfl⟩
  | some p=>
    rw [hr] at h2
    obtain ⟨k,rest⟩:=p
    unfold alP at h2
    simp only at h2
    by_cases hk:(k:Int)≤most
    · rw [if_pos hk] at h2
      obtain ⟨h3,rfl,rfl⟩:=h2
      simp only [beq_self_eq_true,Bool.and_self,Bool.not_true,cond_false]
      rw [abv (by omega) (by omega)]
      by_cases hlen:k≤rest.length
      · rw [aij (by rw [h3]; exact hlen) (by omega)]
        simp only [Option.bind_some]
        rw [if_pos ⟨by omega,hlen⟩]
        refine ⟨_,_,_,rfl,?_,rfl,?_⟩
        · rw [ac1,h3,List.take_of_length_le (by simp)]
          simp
        · rw [ac1,h3]
          simp
      · rw [akD (by rw [h3]; exact hlen) (by omega)]
        simp only [Option.bind_some]
        rw [if_neg (by omega)]
        exact ⟨_,_,_,rfl,by decide,rfl⟩
    · rw [if_neg hk] at h2
      obtain ⟨rfl,he,rfl⟩:=h2
      simp only [show (e' == 0)=false by simpa using he]
      rw [if_neg (by omega)]
      exact ⟨none,e',_,rfl,he,rfl⟩
theorem apM {b:Option (List Int)} {n:Nat} (h:2≤n):Qo n ⟨true,b,0⟩=some ((sll b).length:Int):=by
  obtain ⟨n,rfl⟩:∃ k,n=k+1:=⟨n - 1,by omega⟩
  unfold Qo
  rw [zB,adj (by omega)]
  rfl
theorem acR {b:Option (List Int)} {e:Int} {n:Nat} (h:1≤n):zH n ⟨true,b,e⟩=some e:=by
  obtain ⟨n,rfl⟩:∃ k,n=k+1:=⟨n - 1,by omega⟩
  rfl
theorem iOr0 {x:Int} (h0:0≤x) (h1:x < 256):iOr .u64 (iShl .u64 0 8) (IntKind.wrap .u64 x)=x:=by
  have e:iShl .u64 0 8=0:=by decide
  rw [e,Q1 h0 (by omega)]
  unfold iOr
  rw [BitVec.toNat_or]
  have e1:(BitVec.ofInt IntKind.u64.bits 0).toNat=0:=by decide
  have:(BitVec.ofInt IntKind.u64.bits x).toNat=x.toNat:=by simp [IntKind.bits]; omega
  rw [e1,this,Nat.zero_or,Q1 (by omega) (by omega)]
  omega
def ByteR (l:List Int) (b':Option (List Int)) (e' v:Int):Prop:=
  match l with
  | c :: rest=>sll b'=rest∧e'=0∧v=c
  | []=>e'≠0
theorem apL {b:Option (List Int)} (hb:Bytes (sll b)) {n:Nat} (h:2000010≤n):∃ b' e' v,Zb n ⟨true,b,0⟩=some (b',e',v)∧ByteR (sll b) b' e' v:=by
  obtain ⟨n,rfl⟩:∃ k,n=k+2:=⟨n - 2,by omega⟩
  unfold Zb qj
  simp only [zB]
  rw [adj (by omega)]
  simp only [Option.bind_some,beq_self_eq_true,Bool.and_self,Bool.not_true,cond_false]
  rw [show (if (8:Int) < (if (0:Int) > 1 then 0 else 1) then (8:Int) else (if (0:Int) > 1 then 0 else 1))=((1:Nat):Int) from rfl]
  cases hl:sll b with
  | nil=>
    rw [akD (by rw [hl]; decide) (by omega)]
    simp only [Option.bind_some,zM]
    obtain ⟨m,rfl⟩:∃ j,n=j+1:=⟨n - 1,by omega⟩
    exact ⟨none,21,_,by rw [Zw]; rfl,by show (21:Int)≠0; decide⟩
  | cons c l=>
    have hc:=hb c (by rw [hl]; simp)
    rw [aij (by rw [hl]; simp) (by omega)]
    simp only [Option.bind_some,zM]
    have h1:sll (QH b 0 ((1:Nat):Int))=[c]:=by rw [ac1,hl]; rfl
    obtain ⟨m,rfl⟩:∃ j,n=j+2:=⟨n - 2,by omega⟩
    rw [Zw,h1,show decide ((0:Int) < (([c]:List Int).length:Int))=true by simp,cond_true,show idx [c] 0=some c from rfl,Option.bind_some,iOr0 hc.1 hc.2]
    rw [show IntKind.wrap .i64 (0+1)=1 by decide,Zw,h1,show decide ((1:Int) < (([c]:List Int).length:Int))=false by simp,cond_false]
    refine ⟨_,_,_,rfl,?_,rfl,ahO hc.1 hc.2⟩
    rw [ac1,hl]; simp
theorem apW (v:Int):iOr .u8 (IntKind.wrap .u8 v) 128=v % 128+128:=by
  unfold iOr
  have h:∀ x:BitVec 8,(x ||| 128#8).toNat=x.toNat % 128+128:=by decide
  have e:(BitVec.ofInt IntKind.u8.bits (IntKind.u8.wrap v) ||| BitVec.ofInt IntKind.u8.bits 128).toNat=(BitVec.ofInt 8 (IntKind.u8.wrap v)).toNat % 128+128:=h _
  rw [e,BitVec.toNat_ofInt]
  simp [IntKind.wrap,IntKind.signed,IntKind.bits]
  omega
theorem shr7 (v:Int):iShr .u64 v 7=v / 128:=by
  unfold iShr
  rw [Int.fdiv_eq_ediv_of_nonneg _ (by decide)]
  rfl
theorem pow7 (m:Nat):2 ^ (7 * (m+1))=128 * 2 ^ (7 * m):=by rw [show 7 * (m+1)=7 * m+7 by omega,Nat.pow_add]; omega
theorem aiI {n:Nat} {K:List Int→Int→Option (List Int)} (hK:∀ (l:List Int) (v:Nat),v < 128→l.length < 1000000000→K l v=some (l++[(v:Int)])):∀ (v:Nat) (m:Nat) (l:List Int),v < 2 ^ (7 * (m+1))→l.length+m < 1000000000→qD n K (m+1) l (v:Int)=some (l++qC v):=by
  intro v
  induction v using Nat.strongRecOn with
  | ind v ih=>
    intro m l hv hl
    rw [qD]
    by_cases h:v < 128
    · rw [show decide ((v:Int)≥128)=false by simp; omega,cond_false,ae6 h]
      exact hK l v (by omega) (by omega)
    · rw [show decide ((v:Int)≥128)=true by simp; omega,cond_true,apW,shr7]
      obtain ⟨m,rfl⟩:∃ j,m=j+1:=by
        cases m with
        | zero=>rw [pow7] at hv; omega
        | succ m=>exact ⟨m,rfl⟩
      rw [ZE (by decide) (by simp; omega),Option.bind_some]
      rw [show ((v:Int) / 128)=((v / 128:Nat):Int) by omega,show ((v:Int) % 128+128)=((v % 128+128:Nat):Int) by omega]
      rw [ih (v / 128) (by omega) m _ (by rw [pow7] at hv; omega) (by simp; omega),afh h]
      simp
theorem Zi:∀ (v:Nat) (m:Nat),v < 2 ^ (7 * (m+1))→(qC v).length≤m+1:=by
  intro v
  induction v using Nat.strongRecOn with
  | ind v ih=>
    intro m hv
    by_cases h:v < 128
    · rw [ae6 h]; simp
    · rw [afh h]
      obtain ⟨m,rfl⟩:∃ j,m=j+1:=by
        cases m with
        | zero=>rw [pow7] at hv; omega
        | succ m=>exact ⟨m,rfl⟩
      have:=ih (v / 128) (by omega) m (by rw [pow7] at hv; omega)
      simp; omega
theorem ZP {l:List Int} {v:Nat} (hv:v < 2 ^ 64) (hl:l.length < 900000000) {n:Nat} (h:20≤n) (hn:n < 100000000):zG n l (v:Int)=some (l++qC v):=by
  obtain ⟨n,rfl⟩:∃ k,n=k+2:=⟨n - 2,by omega⟩
  unfold zG
  rw [zB]
  unfold zM
  have hp:2 ^ 64≤2 ^ (7 * (n+1)):=Nat.pow_le_pow_right (by omega) (by omega)
  exact aiI (fun l v hv hl=>by
    rw [ahO (by omega) (by omega),ZE (by decide) (by simp; omega),Option.bind_some]) v n l (by omega) (by omega)
theorem ajq {s:ByteArray}:(qU s).isEmpty=true→qU s=[]:=by
  intro h; simpa using h
def putT (s:ByteArray):List Int:=qC s.size++qU s
theorem ak9 {l:List Int} {s:ByteArray} (hs:s.size < 10000000) (hl:l.length < 800000000) {n:Nat} (h:21≤n) (hn:n < 100000000):Qh n l s=some (l++putT s):=by
  obtain ⟨n,rfl⟩:∃ k,n=k+1:=⟨n - 1,by omega⟩
  unfold Qh
  rw [zB,Q1 (by omega) (by omega),ZP (by omega) (by omega) (by omega) (by omega),Option.bind_some]
  have:=Zi s.size 9 (by omega)
  have h2:=ada s
  unfold putT
  cases he:(qU s).isEmpty with
  | true=>rw [cond_true,ZE (by decide) (by simp; omega),Option.bind_some,ajq he]; simp
  | false=>rw [cond_false,ZE (by decide) (by simp; omega),Option.bind_some]; simp
theorem alY {s:ByteArray} (hs:s.size < 10000000):(putT s).length≤s.size+10:=by
  have:=Zi s.size 9 (by omega)
  have h2:=ada s
  unfold putT
  simp; omega
theorem ao7 {s:ByteArray} {most:Nat} (hs:s.size≤most) (hm:most < 1000000) (rest:List Int):rdT most (putT s++rest)=some (qU s,rest):=by
  unfold rdT putT
  rw [List.append_assoc,akP (by omega)]
  simp only
  have h2:=ada s
  rw [if_pos ⟨hs,by simp; omega⟩,← h2]
  simp
end Go.Pl
set_option linter.unusedVariables false
set_option linter.unusedSimpArgs false
namespace Go.Pl
open Go Go.Ab
def zig (x:Int):Nat:=if x < 0 then (-2 * x - 1).toNat else (2 * x).toNat
theorem notU {u:Nat} (h:u < 18446744073709551616):notI .u64 (u:Int)=((18446744073709551615 - u:Nat):Int):=by
  show IntKind.wrap .u64 ((BitVec.ofInt 64 18446744073709551615 ^^^ BitVec.ofInt 64 (u:Int)).toNat:Int)=_
  have e:BitVec.ofInt 64 18446744073709551615=BitVec.allOnes 64:=by decide
  have e2:(BitVec.allOnes 64 ^^^ BitVec.ofInt 64 (u:Int)).toNat=18446744073709551615 - u:=by
    rw [BitVec.allOnes_xor,BitVec.toNat_not]
    simp
    omega
  rw [e,e2,Q1 (by omega) (by omega)]
theorem shl1 (x:Int):iShl .u64 (IntKind.wrap .u64 x) 1=(2 * x) % 18446744073709551616:=by
  unfold iShl
  simp [IntKind.wrap,IntKind.signed,IntKind.bits]
  omega
theorem wI_i {x:Int} (h:wI .i64 x):-9223372036854775808≤x∧x≤9223372036854775807:=h
theorem alz {l:List Int} {x:Int} (hx:wI .i64 x) (hl:l.length < 900000000) {n:Nat} (h:21≤n) (hn:n < 100000000):QF n l x=some (l++qC (zig x)):=by
  obtain ⟨n,rfl⟩:∃ k,n=k+1:=⟨n - 1,by omega⟩
  obtain ⟨h1,h2⟩:=wI_i hx
  unfold QF
  rw [zB,shl1]
  unfold zig
  by_cases h0:x < 0
  · rw [decide_eq_true h0,cond_true,if_pos h0]
    rw [show (2 * x) % 18446744073709551616=(((18446744073709551616+2 * x).toNat:Nat):Int) by omega,notU (by omega)]
    rw [ZP (by omega) hl (by omega) (by omega),Option.bind_some]
    congr 4
    omega
  · rw [decide_eq_false h0,cond_false,if_neg h0]
    rw [show (2 * x) % 18446744073709551616=(((2 * x).toNat:Nat):Int) by omega]
    rw [ZP (by omega) hl (by omega) (by omega),Option.bind_some]
theorem aoZ {x:Int} (hx:wI .i64 x):zig x < 18446744073709551616:=by
  obtain ⟨h1,h2⟩:=wI_i hx
  unfold zig; split <;> omega
theorem shr1 (v:Nat):iShr .u64 (v:Int) 1=((v / 2:Nat):Int):=by
  unfold iShr
  show Int.fdiv (v:Int) (2 ^ 1)=_
  rw [Int.fdiv_eq_ediv_of_nonneg _ (by decide)]
  omega
theorem and1 (v:Nat) (h:v < 18446744073709551616):iAnd .u64 (v:Int) 1=((v % 2:Nat):Int):=by
  unfold iAnd
  have e:(BitVec.ofInt 64 (v:Int) &&& BitVec.ofInt 64 1).toNat=v % 2:=by
    rw [BitVec.toNat_and]
    rw [show (BitVec.ofInt 64 1).toNat=1 by decide,Nat.and_one_is_mod]
    simp
    try omega
  rw [show (BitVec.ofInt IntKind.u64.bits (v:Int) &&& BitVec.ofInt IntKind.u64.bits 1).toNat=v % 2 from e,Q1 (by omega) (by omega)]
theorem aqj {b:Option (List Int)} {x:Int} {rest:List Int} (hx:wI .i64 x) (hb:Bytes (sll b)) (hs:sll b=qC (zig x)++rest) {n:Nat} (h:14≤n):∃ b',QK n ⟨true,b,0⟩=some (true,b',0,x)∧sll b'=rest:=by
  obtain ⟨n,rfl⟩:∃ k,n=k+1:=⟨n - 1,by omega⟩
  unfold QK
  rw [zB]
  obtain ⟨b',e',v,h1,h2⟩:=ak7 (most:=18446744073709551615) hb (by omega:13≤n)
  rw [h1,Option.bind_some]
  have hz:=aoZ hx
  rw [hs,akP (by omega)] at h2
  unfold alP at h2
  simp only at h2
  rw [if_pos (by omega)] at h2
  obtain ⟨g1,g2,g3⟩:=h2
  refine ⟨b',?_,g1⟩
  subst g2 g3
  simp only
  rw [and1 _ hz,shr1,notU (by omega)]
  obtain ⟨h1,h2⟩:=wI_i hx
  unfold zig
  by_cases h0:x < 0
  · simp only [if_pos h0]
    rw [show ((((-2 * x - 1).toNat % 2:Nat):Int) == 1)=true by simp; omega,cond_true]
    simp only [IntKind.wrap,IntKind.signed,IntKind.bits]
    congr 4
    simp
    omega
  · simp only [if_neg h0]
    rw [show ((((2 * x).toNat % 2:Nat):Int) == 1)=false by simp; omega,cond_false]
    rw [abv (by omega) (by omega)]
    congr 4
    omega
def be (x:Nat):Nat→List Int
  | 0=>[]
  | j+1=>((x / 2 ^ (8 * j) % 256:Nat):Int) :: be x j
theorem abC (x:Nat):∀ j,(be x j).length=j
  | 0=>rfl
  | j+1=>by rw [be,List.length_cons,abC x j]
theorem alD (x:Nat):∀ j,Bytes (be x j)
  | 0=>fun y hy=>by cases hy
  | j+1=>fun y hy=>by
    rw [be,List.mem_cons] at hy
    rcases hy with rfl | hy
    · omega
    · exact alD x j y hy
theorem aqi {x j:Nat} (hj:j≤7):iShr .u64 (x:Int) ((8 * j:Nat):Int)=((x / 2 ^ (8 * j):Nat):Int):=by
  unfold iShr
  rw [Int.toNat_natCast,show min (8 * j) IntKind.u64.bits=8 * j from Nat.min_eq_left (by show 8 * j≤64; omega)]
  rw [Int.fdiv_eq_ediv_of_nonneg _ (Int.le_of_lt (Int.pow_pos (by decide)))]
  rw [show ((2:Int) ^ (8 * j))=((2 ^ (8 * j):Nat):Int) by simp]
  omega
theorem ans (v:Nat):IntKind.wrap .u8 (v:Int)=((v % 256:Nat):Int):=by simp [IntKind.wrap,IntKind.signed,IntKind.bits]
theorem ajM {n:Nat} {x:Nat} {K:List Int→Option (List Int)} (m:Nat):∀ (j:Nat) (l:List Int),j≤8→l.length+j < 1000000000→Z8 n (x:Int) K (m+j+1) l ((j:Int) - 1)=K (l++be x j):=by
  intro j
  induction j with
  | zero=>
    intro l _ _
    rw [Z8,show decide (((0:Nat):Int) - 1≥0)=false by decide,cond_false,be,List.append_nil]
  | succ j ih=>
    intro l hj hl
    rw [Z8,show (((j+1:Nat):Int) - 1)=(j:Int) by omega,decide_eq_true (by omega:(j:Int)≥0),cond_true]
    rw [abv (by omega:-9223372036854775808≤8 * (j:Int)) (by omega),Q1 (by omega) (by omega),aoP (by omega),Option.bind_some]
    rw [show (8 * (j:Int))=((8 * j:Nat):Int) by omega,aqi (by omega),ans,ZE (by decide) (by simp; omega),Option.bind_some]
    rw [abv (by omega) (by omega),show m+(j+1)=m+j+1 by omega,ih _ (by omega) (by simp; omega),be]
    simp
theorem ajH {l:List Int} {x:Nat} (hl:l.length < 900000000) {n:Nat} (h:20≤n):QE n l (x:Int) 8=some (l++be x 8):=by
  obtain ⟨n,rfl⟩:∃ k,n=k+10:=⟨n - 10,by omega⟩
  unfold QE
  rw [zB]
  unfold zM
  have:=ajM (n:=n+9) (x:=x) (K:=fun y=>some y) n 8 l (by omega) (by omega)
  exact this
theorem aoV {a b:Nat} (ha:a < 2 ^ 56) (hb:b < 256):iOr .u64 (iShl .u64 (a:Int) 8) (IntKind.wrap .u64 (b:Int))=((a * 256+b:Nat):Int):=by
  have e:iShl .u64 (a:Int) 8=((a * 2 ^ 8:Nat):Int):=by
    unfold iShl
    show IntKind.wrap .u64 ((a:Int) * 2 ^ 8)=_
    rw [Q1 (by omega) (by omega)]; omega
  rw [e,Q1 (by omega) (by omega)]
  have c:iOr .u64 ((a * 2 ^ 8:Nat):Int) (b:Int)=iOr .u64 (b:Int) ((a * 2 ^ 8:Nat):Int):=by
    unfold iOr; rw [BitVec.or_comm]
  rw [c,orU (s:=8) (by omega) (by omega)]
  omega
theorem aoX (x j:Nat):x / 2 ^ (8 * j)=x / 2 ^ (8 * (j+1)) * 256+x / 2 ^ (8 * j) % 256:=by
  rw [show 8 * (j+1)=8 * j+8 by omega,Nat.pow_add,← Nat.div_div_eq_div_mul]
  omega
theorem ahw {R:Type} {K:Int→Option R} {x:Nat} (hx:x < 2 ^ 64):∀ (j i:Nat),j≤8→afK (fun (c:Int) i (acc:Int) rec=>rec (iOr .u64 (iShl .u64 acc 8) (IntKind.wrap .u64 c))) K (be x j) i ((x / 2 ^ (8 * j):Nat):Int)=K (x:Int)
  | 0,i,_=>by simp [be,afK]
  | j+1,i,hj=>by
    simp only [be,afK]
    rw [aoV (by
      apply Nat.div_lt_of_lt_mul
      have:2 ^ 8≤2 ^ (8 * (j+1)):=Nat.pow_le_pow_right (by omega) (by omega)
      calc x < 2 ^ 8 * 2 ^ 56:=by omega
        _≤2 ^ (8 * (j+1)) * 2 ^ 56:=Nat.mul_le_mul_right _ this) (by omega),← aoX]
    exact ahw hx j (i+1) (by omega)
theorem aoy {b:Option (List Int)} {x:Nat} {rest:List Int} (hx:x < 2 ^ 64) (hs:sll b=be x 8++rest) {n:Nat} (h:2000010≤n):∃ b',qj n ⟨true,b,0⟩ 8=some (b',0,(x:Int))∧sll b'=rest:=by
  obtain ⟨n,rfl⟩:∃ k,n=k+1:=⟨n - 1,by omega⟩
  unfold qj
  rw [zB,adj (by omega)]
  simp only [Option.bind_some,beq_self_eq_true,Bool.and_self,Bool.not_true,cond_false]
  rw [show (if (8:Int) < (if (0:Int) > 8 then 0 else 8) then (8:Int) else (if (0:Int) > 8 then 0 else 8))=((8:Nat):Int) from rfl]
  have h8:8≤(sll b).length:=by rw [hs,List.length_append,abC]; omega
  rw [aij h8 (by omega)]
  simp only [Option.bind_some,zM]
  have e1:sll (QH b 0 ((8:Nat):Int))=be x 8:=by
    rw [ac1,hs]
    show ((be x 8++rest).drop 0).take 8=_
    rw [List.drop_zero]
    exact List.take_left' (abC x 8)
  have e2:sll (QH b ((8:Nat):Int) ((sll b).length:Int))=rest:=by
    rw [ac1,hs]
    show ((be x 8++rest).drop 8).take _=_
    rw [List.drop_left' (abC x 8),List.take_of_length_le]
    rw [List.length_append,abC]
    show _≤(((8+rest.length:Nat):Int)).toNat - 8
    omega
  refine ⟨_,?_,e2⟩
  rw [show Zw n (QH b 0 ((8:Nat):Int)) (fun y10=>some (QH b ((8:Nat):Int) ((sll b).length:Int),0,y10)) n 0 0=_ from apC (F:=fun m s i=>Zw n (QH b 0 ((8:Nat):Int)) (fun y10=>some (QH b ((8:Nat):Int) ((sll b).length:Int),0,y10)) m i s) (by rw [e1,abC]; omega) (B:=fun (c:Int) i (acc:Int) rec=>rec (iOr .u64 (iShl .u64 acc 8) (IntKind.wrap .u64 c))) (fun m i s=>rfl) (by omega) 0]
  rw [e1]
  have:=ahw (K:=fun y10=>some (QH b ((8:Nat):Int) ((sll b).length:Int),(0:Int),y10)) hx 8 0 (by omega)
  rw [show x / 2 ^ (8 * 8)=0 from Nat.div_eq_of_lt hx] at this
  exact this
def ab6 (f:Nat):Nat:=bif qE f then 9221120237041090561 else bif isZero f then 0 else f
theorem am7 (f:Nat) {n:Nat} (h:1≤n):acF n f=some (ab6 f:Int):=by
  obtain ⟨n,rfl⟩:∃ k,n=k+1:=⟨n - 1,by omega⟩
  show (bif qE f then some 9221120237041090561 else bif isZero f then some 0 else some (f:Int))=_
  unfold ab6
  cases qE f <;> cases isZero f <;> rfl
theorem ajv {l:List Int} {f:Nat} (hf:ab6 f=f) (hl:l.length < 900000000) {n:Nat} (h:21≤n):qZ n l f=some (l++be f 8):=by
  obtain ⟨n,rfl⟩:∃ k,n=k+1:=⟨n - 1,by omega⟩
  unfold qZ
  rw [zB,am7 _ (by omega),Option.bind_some,hf,ajH hl (by omega),Option.bind_some]
theorem aoG {b:Option (List Int)} {f:Nat} {rest:List Int} (hx:f < 2 ^ 64) (hf:ab6 f=f) (hs:sll b=be f 8++rest) {n:Nat} (h:2000011≤n):∃ b',Qe n ⟨true,b,0⟩=some (true,b',0,f)∧sll b'=rest:=by
  obtain ⟨n,rfl⟩:∃ k,n=k+1:=⟨n - 1,by omega⟩
  unfold Qe
  rw [zB]
  obtain ⟨b',h1,h2⟩:=aoy hx hs (by omega:2000010≤n)
  rw [h1,Option.bind_some]
  refine ⟨b',?_,h2⟩
  simp only
  rw [adj (by omega)]
  simp only [Option.bind_some,beq_self_eq_true,Bool.and_self,Bool.not_true,cond_false]
  rw [Int.toNat_natCast,am7 _ (by omega),Option.bind_some,hf]
  simp
end Go.Pl
set_option linter.unusedVariables false
set_option linter.unusedSimpArgs false
namespace Go.Pl
open Go Go.Ab
abbrev E0:ByteArray:=ByteArray.empty
def vP (v:zl):zl:=vNan (Qf v)
def ap4 (p:zl):Prop:=p=⟨0,0,0,E0⟩∨(∃ i,(i=0∨i=1)∧p=⟨1,i,0,E0⟩)∨(∃ i,wI .i64 i∧p=⟨2,i,0,E0⟩)∨(∃ f,f < 2 ^ 64∧p=⟨3,0,f,E0⟩)∨(∃ t,t.size≤64∧p=⟨4,0,0,t⟩)
def CanV (p:zl):Prop:=p=⟨0,0,0,E0⟩∨(∃ i,(i=0∨i=1)∧p=⟨1,i,0,E0⟩)∨(∃ i,wI .i64 i∧p=⟨2,i,0,E0⟩)∨(∃ f,f < 2 ^ 64∧ab6 f=f∧p=⟨3,0,f,E0⟩)∨(∃ t,t.size≤64∧p=⟨4,0,0,t⟩)
theorem afm {f:Nat} (hf:wF .f64 f) (h:posZ f=true):f=0:=by
  unfold posZ at h
  rw [Bool.and_eq_true] at h
  rcases agA (aoq hf) h.1 with h1 | h1
  · exact h1
  · subst h1
    have h2:=h.2
    rw [an8 (by decide)] at h2
    simp at h2
theorem abU {v:zl} (hw:Zp v) (h:QU v=true):ap4 v:=by
  obtain ⟨k,i,f,t⟩:=v
  obtain ⟨w1,w2,w3,w4⟩:=hw
  simp only at w1 w2 w3 w4
  unfold QU at h
  simp only at h
  split at h
  · subst k
    rw [Bool.and_eq_true,Bool.and_eq_true,beq_iff_eq] at h
    obtain ⟨h1,h2,h3⟩:=h
    exact .inl (by rw [h1,afm w3 h2,afi.1 h3])
  split at h
  · subst k
    rw [Bool.and_eq_true,Bool.and_eq_true,Bool.or_eq_true,beq_iff_eq,beq_iff_eq] at h
    obtain ⟨h1,h2,h3⟩:=h
    exact .inr (.inl ⟨i,h1,by rw [afm w3 h2,afi.1 h3]⟩)
  split at h
  · subst k
    rw [Bool.and_eq_true] at h
    obtain ⟨h2,h3⟩:=h
    exact .inr (.inr (.inl ⟨i,w2,by rw [afm w3 h2,afi.1 h3]⟩))
  split at h
  · subst k
    rw [Bool.and_eq_true,beq_iff_eq] at h
    obtain ⟨h1,h3⟩:=h
    exact .inr (.inr (.inr (.inl ⟨f,aoq w3,by rw [h1,afi.1 h3]⟩)))
  split at h
  · subst k
    rw [Bool.and_eq_true,Bool.and_eq_true,beq_iff_eq,decide_eq_true_eq] at h
    obtain ⟨h1,h2,h3⟩:=h
    exact .inr (.inr (.inr (.inr ⟨t,by omega,by rw [h1,afm w3 h2]⟩)))
  · cases h
theorem alm (f:Nat):ab6 (ab6 f)=ab6 f:=by
  unfold ab6
  cases h1:qE f
  · cases h2:isZero f
    · simp only [cond_false]; rw [h1,h2]; rfl
    · exact (show ab6 0=0 by decide +kernel)
  · exact (show ab6 9221120237041090561=9221120237041090561 by decide +kernel)
theorem aou {f:Nat} (h:f < 2 ^ 64):ab6 f < 2 ^ 64:=by
  unfold ab6
  cases qE f <;> cases isZero f <;> simp <;> omega
theorem ae7 (f:Nat):QU ⟨3,0,f,E0⟩=true:=by
  show ((0:Int) == 0 && empS E0)=true
  rw [show empS E0=true from agp E0]; rfl
theorem agQ {f:Nat} (hf:f < 2 ^ 64):vP ⟨3,0,f,E0⟩=⟨3,0,ab6 f,E0⟩:=by
  unfold vP Qf
  rw [ae7]
  simp only [Bool.not_true,cond_false,beq_self_eq_true,Bool.true_and]
  unfold ab6
  cases hn:qE f with
  | true=>
    rw [adN hf hn]
    show vNan ⟨3,0,f,E0⟩=_
    unfold vNan fNan
    rw [hn]; rfl
  | false=>
    cases hz:isZero f with
    | true=>
      show vNan ⟨3,0,0,E0⟩=⟨3,0,0,E0⟩
      unfold vNan fNan
      rw [show qE 0=false by decide]; rfl
    | false=>
      show vNan ⟨3,0,f,E0⟩=⟨3,0,f,E0⟩
      unfold vNan fNan
      rw [hn]; rfl
theorem Ql {v:zl} (h:QU v=true) (hk:(v.fKind == 3)=false):vP v=v:=by
  unfold vP Qf vNan
  rw [h,hk]
  simp only [Bool.not_true,cond_false,Bool.false_and]
  rw [hk]; rfl
theorem ahl {v:zl} (hw:Zp v) (h:QU v=true):CanV (vP v):=by
  rcases abU hw h with rfl | ⟨i,hi,rfl⟩ | ⟨i,hi,rfl⟩ | ⟨f,hf,rfl⟩ | ⟨t,ht,rfl⟩
  · rw [Ql h rfl]; exact .inl rfl
  · rw [Ql h rfl]; exact .inr (.inl ⟨i,hi,rfl⟩)
  · rw [Ql h rfl]; exact .inr (.inr (.inl ⟨i,hi,rfl⟩))
  · rw [agQ hf]; exact .inr (.inr (.inr (.inl ⟨_,aou hf,alm f,rfl⟩)))
  · rw [Ql h rfl]; exact .inr (.inr (.inr (.inr ⟨t,ht,rfl⟩)))
theorem ake {p:zl} (h:CanV p):QU p=true:=by
  have e:posZ 0=true:=by decide +kernel
  have e2:empS E0=true:=agp E0
  rcases h with rfl | ⟨i,hi,rfl⟩ | ⟨i,hi,rfl⟩ | ⟨f,hf,hb,rfl⟩ | ⟨t,ht,rfl⟩
  · decide +kernel
  · rcases hi with rfl | rfl <;> decide +kernel
  · show (posZ 0 && empS E0)=true; rw [e,e2]; rfl
  · exact ae7 f
  · show ((0:Int) == 0 && (posZ 0 && decide ((t.size:Int)≤64)))=true
    rw [e]; simp; omega
def putV (p:zl):List Int:=p.fKind :: (if p.fKind=1 then [p.fInt] else if p.fKind=2 then qC (zig p.fInt) else if p.fKind=3 then be p.fFloat 8 else if p.fKind=4 then putT p.fText else [])
theorem alK {p:zl} (h:CanV p):(putV p).length≤80:=by
  rcases h with rfl | ⟨i,hi,rfl⟩ | ⟨i,hi,rfl⟩ | ⟨f,hf,hb,rfl⟩ | ⟨t,ht,rfl⟩
  · simp [putV]
  · simp [putV]
  · have:=Zi (zig i) 9 (by have:=aoZ hi; omega)
    simp [putV]; omega
  · simp [putV,abC]
  · have:=alY (s:=t) (by omega)
    simp [putV]; omega
theorem amv {p:zl} (h:CanV p):Bytes (putV p):=by
  have c:∀ {k:Int} {l:List Int},0≤k∧k < 256→Bytes l→Bytes (k :: l):=fun hk hl x hx=>by
    rw [List.mem_cons] at hx
    rcases hx with rfl | hx
    · exact hk
    · exact hl x hx
  have n0:Bytes []:=fun x hx=>by cases hx
  rcases h with rfl | ⟨i,hi,rfl⟩ | ⟨i,hi,rfl⟩ | ⟨f,hf,hb,rfl⟩ | ⟨t,ht,rfl⟩
  · exact c (by decide) n0
  · exact c (by show (0:Int)≤1∧(1:Int) < 256; decide) (c (by show 0≤i∧i < 256; omega) n0)
  · exact c (by show (0:Int)≤2∧(2:Int) < 256; decide) (QR _)
  · exact c (by show (0:Int)≤3∧(3:Int) < 256; decide) (alD _ _)
  · exact c (by show (0:Int)≤4∧(4:Int) < 256; decide) ((QR _).app (akO t))
theorem aiy {v:zl} {l:List Int} (hw:Zp v) (hr:QU v=true) (hl:l.length < 700000000) {n:Nat} (h:23≤n) (hn:n < 100000000):abS n l v=some (l++putV (vP v)):=by
  obtain ⟨n,rfl⟩:∃ k,n=k+1:=⟨n - 1,by omega⟩
  unfold abS
  rw [zB,acJ hw (by omega),Option.bind_some]
  have hc:=ahl hw hr
  rw [show vNan (Qf v)=vP v from rfl]
  rw [ZE (by decide) (by simp; omega),Option.bind_some]
  rcases hc with e | ⟨i,hi,e⟩ | ⟨i,hi,e⟩ | ⟨f,hf,hb,e⟩ | ⟨t,ht,e⟩ <;> rw [e]
  · rfl
  · show ((ckA 1 ((l++[1])++[IntKind.wrap .u8 i]).length).bind fun _=>some ((l++[1])++[IntKind.wrap .u8 i]))=_
    rw [ZE (by decide) (by simp; omega),Option.bind_some,ahO (by omega) (by omega)]
    simp [putV]
  · show ((QF n (l++[2]) i).bind fun x8=>some x8)=_
    rw [alz hi (by simp; omega) (by omega) (by omega),Option.bind_some]
    simp [putV]
  · show ((qZ n (l++[3]) f).bind fun x8=>some x8)=_
    rw [ajv hb (by simp; omega) (by omega),Option.bind_some]
    simp [putV]
  · show ((Qh n (l++[4]) t).bind fun x8=>some x8)=_
    rw [ak9 (by omega) (by simp; omega) (by omega) (by omega),Option.bind_some]
    simp [putV]
theorem aak {b:Option (List Int)} {c:Int} {rest:List Int} (hb:Bytes (sll b)) (hs:sll b=c :: rest) {n:Nat} (h:2000010≤n):∃ b',Zb n ⟨true,b,0⟩=some (b',0,c)∧sll b'=rest:=by
  obtain ⟨b',e',v,h1,h2⟩:=apL hb h
  rw [hs] at h2
  obtain ⟨h3,rfl,rfl⟩:=h2
  exact ⟨b',h1,h3⟩
theorem ajN {p:zl} {b:Option (List Int)} {rest:List Int} (hc:CanV p) (hb:Bytes (sll b)) (hs:sll b=putV p++rest) {n:Nat} (h:2000020≤n):∃ b',acH n ⟨true,b,0⟩=some (true,b',0,p.fKind,p.fInt,p.fFloat,p.fText,0)∧sll b'=rest:=by
  obtain ⟨n,rfl⟩:∃ k,n=k+1:=⟨n - 1,by omega⟩
  have hr:=ake hc
  unfold acH
  rw [zB]
  have hb2:∀ {c:Int} {l:List Int},sll b=c :: l→Bytes l:=fun e x hx=>hb x (by rw [e]; exact List.mem_cons_of_mem _ hx)
  have tail:∀ (b':Option (List Int)),((zH n (zf.mk true b' 0)).bind fun x14=>bif (x14 != 0) then some (true,b',(0:Int),(0:Int),(0:Int),(0:Nat),ByteArray.empty,x14) else (QP n (zl.mk p.fKind p.fInt p.fFloat p.fText)).bind fun x16=>bif (!x16) then some (true,b',(0:Int),(0:Int),(0:Int),(0:Nat),ByteArray.empty,(22:Int)) else some (true,b',(0:Int),p.fKind,p.fInt,p.fFloat,p.fText,(0:Int)))=some (true,b',0,p.fKind,p.fInt,p.fFloat,p.fText,0):=fun b'=>by
    rw [acR (by omega),Option.bind_some,acz _ (by omega),show QU ⟨p.fKind,p.fInt,p.fFloat,p.fText⟩=true from hr]
    rfl
  rcases hc with e | ⟨i,hi,e⟩ | ⟨i,hi,e⟩ | ⟨f,hf,hbf,e⟩ | ⟨t,ht,e⟩ <;> subst e
  · obtain ⟨b',h1,h2⟩:=aak hb (show sll b=0 :: rest from hs) (by omega:2000010≤n)
    rw [h1,Option.bind_some]
    exact ⟨b',tail b',h2⟩
  · obtain ⟨b',h1,h2⟩:=aak hb (show sll b=1 :: (i :: rest) from hs) (by omega:2000010≤n)
    rw [h1,Option.bind_some]
    obtain ⟨b2,h3,h4⟩:=aak (b:=b') (by rw [h2]; exact hb2 (show sll b=1 :: (i :: rest) from hs)) h2 (by omega:2000010≤n)
    refine ⟨b2,?_,h4⟩
    simp only [zM]
    rw [show ((IntKind.wrap .i64 1) == 1)=true by decide,cond_true,h3,Option.bind_some]
    simp only
    rw [show IntKind.wrap .i64 i=i from abv (by omega) (by omega)]
    exact tail b2
  · obtain ⟨b',h1,h2⟩:=aak hb (show sll b=2 :: (qC (zig i)++rest) from hs) (by omega:2000010≤n)
    rw [h1,Option.bind_some]
    obtain ⟨b2,h3,h4⟩:=aqj (b:=b') hi (by rw [h2]; exact hb2 (show sll b=2 :: (qC (zig i)++rest) from hs)) h2 (by omega:14≤n)
    refine ⟨b2,?_,h4⟩
    simp only [zM]
    rw [show ((IntKind.wrap .i64 2) == 1)=false by decide,cond_false,show ((IntKind.wrap .i64 2) == 2)=true by decide,cond_true,h3,Option.bind_some]
    exact tail b2
  · obtain ⟨b',h1,h2⟩:=aak hb (show sll b=3 :: (be f 8++rest) from hs) (by omega:2000010≤n)
    rw [h1,Option.bind_some]
    obtain ⟨b2,h3,h4⟩:=aoG (b:=b') hf hbf h2 (by omega:2000011≤n)
    refine ⟨b2,?_,h4⟩
    simp only [zM]
    rw [show ((IntKind.wrap .i64 3) == 1)=false by decide,cond_false,show ((IntKind.wrap .i64 3) == 2)=false by decide,cond_false,show ((IntKind.wrap .i64 3) == 3)=true by decide,cond_true,h3,Option.bind_some]
    exact tail b2
  · obtain ⟨b',h1,h2⟩:=aak hb (show sll b=4 :: (putT t++rest) from hs) (by omega:2000010≤n)
    rw [h1,Option.bind_some]
    obtain ⟨b2,e2,v2,h3,h4⟩:=apG (b:=b') (most:=64) (by omega) (by rw [h2]; exact hb2 (show sll b=4 :: (putT t++rest) from hs)) (by omega:14≤n)
    rw [h2,ao7 ht (by omega)] at h4
    obtain ⟨g1,rfl,rfl⟩:=h4
    refine ⟨b2,?_,g1⟩
    simp only [zM]
    rw [show ((IntKind.wrap .i64 4) == 1)=false by decide,cond_false,show ((IntKind.wrap .i64 4) == 2)=false by decide,cond_false,show ((IntKind.wrap .i64 4) == 3)=false by decide,cond_false,show ((IntKind.wrap .i64 4) == 4)=true by decide,cond_true]
    rw [show ((64:Int))=((64:Nat):Int) from rfl,h3,Option.bind_some,akU]
    exact tail b2
end Go.Pl
set_option linter.unusedVariables false
set_option linter.unusedSimpArgs false
namespace Go.Pl
open Go Go.Ab
theorem apy {v:zl} (hw:Zp v) (h:QU v=true):vCmp (vP v) v=0:=by
  cases hk:v.fKind == 3 with
  | false=>rw [Ql h hk]; exact akT _
  | true=>
    rcases abU hw h with rfl | ⟨i,hi,rfl⟩ | ⟨i,hi,rfl⟩ | ⟨f,hf,rfl⟩ | ⟨t,ht,rfl⟩
    · cases hk
    · cases hk
    · cases hk
    · rw [agQ hf]
      unfold ab6
      cases hn:qE f with
      | true=>
        rw [cond_true]
        have e:Qf ⟨3,0,9221120237041090561,E0⟩=⟨3,0,9221120237041090561,E0⟩:=by
          unfold Qf
          rw [ae7]
          show (bif isZero 9221120237041090561 then _ else _)=_
          rw [show isZero 9221120237041090561=false by decide +kernel]; rfl
        have e2:Qf ⟨3,0,f,E0⟩=⟨3,0,f,E0⟩:=by
          unfold Qf
          rw [ae7]
          show (bif isZero f then _ else _)=_
          rw [adN hf hn]; rfl
        unfold vCmp
        rw [e,e2]
        show fC 9221120237041090561 f=0
        rw [ak0 (by decide +kernel),hn]; rfl
      | false=>
        cases hz:isZero f with
        | true=>
          have e2:Qf ⟨3,0,f,E0⟩=⟨3,0,0,E0⟩:=by
            unfold Qf
            rw [ae7]
            show (bif isZero f then _ else _)=_
            rw [hz]; rfl
          have e:Qf ⟨3,0,0,E0⟩=⟨3,0,0,E0⟩:=by
            unfold Qf
            rw [ae7]
            show (bif isZero 0 then (⟨3,0,0,E0⟩:zl) else ⟨3,0,0,E0⟩)=_
            rw [show isZero 0=true by decide +kernel]; rfl
          show vC (Qf ⟨3,0,0,E0⟩) (Qf ⟨3,0,f,E0⟩)=0
          rw [e,e2]
          exact akT _
        | false=>exact akT _
    · cases hk
theorem can_W {p:zl} (h:CanV p):Zp p:=by
  have i0:wI .i64 0:=⟨by decide,by decide⟩
  have f0:wF .f64 0:=ana.2.2.1
  have s0:wS E0:=ana.2.2.2
  have i1:wI .i64 1:=⟨by decide,by decide⟩
  have i2:wI .i64 2:=⟨by decide,by decide⟩
  have i3:wI .i64 3:=⟨by decide,by decide⟩
  have i4:wI .i64 4:=⟨by decide,by decide⟩
  rcases h with rfl | ⟨i,hi,rfl⟩ | ⟨i,hi,rfl⟩ | ⟨f,hf,hb,rfl⟩ | ⟨t,ht,rfl⟩
  · exact ⟨i0,i0,f0,s0⟩
  · exact ⟨i1,by rcases hi with rfl | rfl; exact i0; exact i1,f0,s0⟩
  · exact ⟨i2,hi,f0,s0⟩
  · exact ⟨i3,i0,by show (Lit.float .f64 f).wf=true; simp [Lit.wf]; omega,s0⟩
  · exact ⟨i4,i0,f0,by show t.size≤1048576; omega⟩
theorem an2 {s:Option (List Int)} (h:wSl (wI .u8) s):Bytes (sll s):=by
  intro x hx
  have:=h.2 x hx
  simp only [wI,IntKind.min,IntKind.max,IntKind.signed,IntKind.bits] at this
  simp at this
  omega
end Go.Pl
set_option linter.unusedVariables false
set_option linter.unusedSimpArgs false
set_option maxRecDepth 100000
namespace Go.Pl
open Go Go.Ab
theorem ao0 {α R:Type} {F:Nat→List Int→Int→Option R} {l:List α} {A:List Int→α→Option (List Int)} {f:α→List Int} {K:List Int→Option R} {B:Nat} (hl:l.length≤1048576)
    (hF:∀ (m:Nat) (s:List Int) (i:Nat) (x:α) (hi:i < l.length),l[i]=x→F (m+1) s (i:Int)=(A s x).bind fun s'=>F m s' (IntKind.wrap .i64 ((i:Int)+1)))
    (hE:∀ (m:Nat) (s:List Int),F (m+1) s (l.length:Int)=K s)
    (hA:∀ (s:List Int) (x:α),x∈l→s.length+(f x).length≤B→A s x=some (s++f x)) {m:Nat} (hm:1048577≤m) (s:List Int) (hs:s.length+(l.flatMap f).length≤B):F m s 0=K (s++l.flatMap f):=by
  have key:∀ (q:List α) (i m:Nat) (s:List Int),l.drop i=q→i≤l.length→l.length - i < m→s.length+(q.flatMap f).length≤B→F m s (i:Int)=K (s++q.flatMap f):=by
    intro q
    induction q with
    | nil=>
      intro i m s hd hi hm hs
      obtain ⟨m,rfl⟩:∃ j,m=j+1:=⟨m - 1,by omega⟩
      have:i=l.length:=by
        have:=congrArg List.length hd
        simp at this; omega
      subst this
      rw [hE]; simp
    | cons x q ih=>
      intro i m s hd hi hm hs
      obtain ⟨m,rfl⟩:∃ j,m=j+1:=⟨m - 1,by omega⟩
      have hlt:i < l.length:=by
        have:=congrArg List.length hd
        simp at this; omega
      rw [List.drop_eq_getElem_cons hlt] at hd
      injection hd with h1 h2
      rw [List.flatMap_cons,List.length_append] at hs
      rw [hF m s i x hlt h1,hA s x (by rw [← h1]; exact List.getElem_mem hlt) (by omega),Option.bind_some,aa3 (by omega),ih (i+1) m _ h2 (by omega) (by omega) (by rw [List.length_append]; omega),List.flatMap_cons,List.append_assoc]
  exact key l 0 m s rfl (by omega) (by omega) hs
def abY (x:zm):List Int:=if x.fKind=1 then qC x.fRel.toNat++qC x.fCol.toNat else if x.fKind=2 then putV (vP x.fConst) else []
noncomputable def putE:Nat→zm→List Int
  | 0,_=>[]
  | d+1,x=>x.fKind :: (abY x++(sll x.fKids).flatMap fun z=>putE d (zk z))
theorem afb {α:Type} {f:α→Option Nat} {z:α} {l:List α} {c:Nat} (h:sumO f (z :: l)=some c):∃ a b,f z=some a∧sumO f l=some b∧c=a+b:=by
  simp only [sumO] at h
  split at h
  · rename_i a b h1 h2
    exact ⟨a,b,h1,h2,(Option.some.inj h).symm⟩
  · cases h
theorem ahj {r:Nat} {x:zm} {c:Nat} (h:frmE (r+1) x=some c):ad5 x=true∧∃ a,sumO (fun z=>frmE r (zk z)) (sll x.fKids)=some a∧c=a+1:=by
  simp only [frmE] at h
  cases hn:ad5 x with
  | false=>rw [hn] at h; cases h
  | true=>
    rw [hn,cond_true,Option.map_eq_some_iff] at h
    obtain ⟨a,h1,h2⟩:=h
    exact ⟨rfl,a,h1,h2.symm⟩
theorem Qn {x:zm} (h:ad5 x=true):QT x=true∧adZ x.fKind=((sll x.fKids).length:Int):=by
  unfold ad5 at h
  rw [Bool.and_eq_true,beq_iff_eq] at h
  exact ⟨h.2,h.1⟩
theorem qR {x:zm} (h:QT x=true):QU x.fConst=true∧(x.fKind=2∨x.fConst.fKind=0):=by
  unfold QT at h
  simp only [Bool.and_eq_true,Bool.or_eq_true,beq_iff_eq] at h
  exact ⟨h.1.2,h.2⟩
theorem ahq {x:zm} (h:QT x=true):(0≤x.fRel∧x.fRel≤31)∧(0≤x.fCol∧x.fCol≤31):=by
  unfold QT inE at h
  simp only [Bool.and_eq_true,decide_eq_true_eq] at h
  exact ⟨h.1.1.1.2,h.1.1.2⟩
theorem alX {x:zm} (h:QT x=true):x.fKind=1∨(x.fRel=0∧x.fCol=0):=by
  unfold QT at h
  simp only [Bool.and_eq_true,Bool.not_eq_true',Bool.and_eq_false_iff,Bool.or_eq_false_iff,bne_eq_false_iff_eq] at h
  exact h.1.1.1.1
theorem aeZ {k:Int} {l:Nat} (h:adZ k=(l:Int)):1≤k∧k≤13∧l≤2:=by
  rcases al0 h with ⟨h1,h2⟩ | ⟨h1,h2⟩ | ⟨h1,h2⟩ <;> omega
theorem akM {x:zm} (hw:Zp x.fConst) (h:QT x=true):(abY x).length≤80:=by
  unfold abY
  obtain ⟨h1,h2⟩:=ahq h
  split
  · have:=Zi x.fRel.toNat 9 (by omega)
    have:=Zi x.fCol.toNat 9 (by omega)
    rw [List.length_append]; omega
  split
  · exact alK (ahl hw (qR h).1)
  · simp
theorem alf {x:zm} (hw:Zp x.fConst) (h:QT x=true):Bytes (abY x):=by
  unfold abY
  split
  · exact (QR _).app (QR _)
  split
  · exact amv (ahl hw (qR h).1)
  · intro y hy; cases hy
theorem aja {α:Type} {f:α→List Int} {g:α→Option Nat}:∀ {l:List α} {c:Nat},sumO g l=some c→(∀ z a,z∈l→g z=some a→(f z).length≤81 * a)→(l.flatMap f).length≤81 * c
  | [],c,h,_=>by simp
  | z :: l,c,h,hh=>by
    obtain ⟨a,b,h1,h2,rfl⟩:=afb h
    have:=hh z a (by simp) h1
    have:=aja h2 fun y a hy=>hh y a (by simp [hy])
    rw [List.flatMap_cons,List.length_append]; omega
theorem aeM:∀ (r:Nat) (x:zm) (c:Nat),frmE r x=some c→zA x→(putE r x).length≤81 * c
  | 0,x,c,h,_=>by cases h
  | r+1,x,c,h,hw=>by
    obtain ⟨hn,a,hs,rfl⟩:=ahj h
    have h1:=akM (aag hw) (Qn hn).1
    have h2:=aja (f:=fun z=>putE r (zk z)) hs fun z a hz ha=>aeM r _ a ha (aey hw hz)
    rw [putE,List.length_cons,List.length_append]; omega
theorem aiw:∀ (r:Nat) (x:zm) (c:Nat),frmE r x=some c→zA x→Bytes (putE r x)
  | 0,x,c,h,_=>by cases h
  | r+1,x,c,h,hw=>by
    obtain ⟨hn,hk⟩:=aek h
    have hr:=aeZ (Qn hn).2
    intro y hy
    rw [putE,List.mem_cons,List.mem_append] at hy
    rcases hy with rfl | hy | hy
    · omega
    · exact alf (aag hw) (Qn hn).1 y hy
    · obtain ⟨z,hz,hy⟩:=List.mem_flatMap.1 hy
      obtain ⟨a,ha,_⟩:=hk z hz
      exact aiw r _ a ha (aey hw hz) y hy
theorem ajn:∀ (r:Nat) (x:zm) (c:Nat),frmE r x=some c→zA x→∀ (m n:Nat) (l:List Int),r≤m→2000010+r≤n→n < 100000000→l.length+(putE r x).length≤600000000→Qs m n l x=some (l++putE r x)
  | 0,x,c,h,_,_,_,_,_,_,_,_=>by cases h
  | r+1,x,c,h,hw,m,n,l,hm,hn,hn2,hl=>by
    obtain ⟨m,rfl⟩:∃ k,m=k+1:=⟨m - 1,by omega⟩
    obtain ⟨n,rfl⟩:∃ k,n=k+1:=⟨n - 1,by omega⟩
    obtain ⟨hnd,hk⟩:=aek h
    obtain ⟨hf,hkk⟩:=Qn hnd
    have hr:=aeZ hkk
    obtain ⟨hi1,hi2⟩:=ahq hf
    rw [putE,List.length_cons,List.length_append] at hl
    show abk (Qs m) (n+1) l x=_
    unfold abk
    rw [zB,ZE (by decide) (by simp only [List.length_append,List.length_cons,List.length_nil]; omega),Option.bind_some,ahO (by omega) (by omega)]
    have tail:∀ (s:List Int),s.length+((sll x.fKids).flatMap fun z=>putE r (zk z)).length≤600000000→zM (fun k16=>qY n (Qs m) x k16 n s 0) (fun (y9:(List Int))=>some y9)=some (s++(sll x.fKids).flatMap fun z=>putE r (zk z)):=fun s hs=>by
      unfold zM
      exact ao0 (l:=sll x.fKids) (f:=fun z=>putE r (zk z)) (A:=fun s z=>Qs m n s (zk z)) (F:=fun m' s i=>qY n (Qs m) x (fun y=>some y) m' s i) (K:=fun y=>some y) (by omega)
        (fun m' s i z hi e=>by
          rw [qY,dT (by omega),cond_true,aaX hi e,Option.bind_some])
        (fun m' s=>by rw [qY,dF (by omega),cond_false])
        (fun s z hz hb=>by
          obtain ⟨a,ha,_⟩:=hk z hz
          exact ajn r _ a ha (aey hw hz) m n s (by omega) (by omega) (by omega) hb) (by omega) s hs
    simp only [zM] at tail ⊢
    by_cases h1:x.fKind=1
    · have hh:abY x=qC x.fRel.toNat++qC x.fCol.toNat:=by unfold abY; rw [if_pos h1]
      have:=Zi x.fRel.toNat 9 (by omega)
      have:=Zi x.fCol.toNat 9 (by omega)
      rw [hh] at hl
      rw [List.length_append] at hl
      rw [beqT h1,cond_true,Q1 (by omega) (by omega),Q1 (by omega) (by omega),show x.fRel=((x.fRel.toNat:Nat):Int) by omega,show x.fCol=((x.fCol.toNat:Nat):Int) by omega,ZP (by omega) (by simp only [List.length_append,List.length_cons,List.length_nil]; omega) (by omega) (by omega),Option.bind_some,ZP (by omega) (by simp only [List.length_append,List.length_cons,List.length_nil]; omega) (by omega) (by omega),Option.bind_some,tail _ (by simp only [List.length_append,List.length_cons,List.length_nil]; omega),putE,hh]
      simp
    · rw [beqF h1,cond_false]
      by_cases h2:x.fKind=2
      · have hh:abY x=putV (vP x.fConst):=by unfold abY; rw [if_neg h1,if_pos h2]
        rw [hh] at hl
        rw [beqT h2,cond_true,aiy (aag hw) (qR hf).1 (by simp only [List.length_append,List.length_cons,List.length_nil]; omega) (by omega) (by omega),Option.bind_some,tail _ (by simp only [List.length_append,List.length_cons,List.length_nil]; omega),putE,hh]
        simp
      · have hh:abY x=[]:=by unfold abY; rw [if_neg h1,if_neg h2]
        rw [hh] at hl
        rw [beqF h2,cond_false,tail _ (by simp only [List.length_append,List.length_cons,List.length_nil] at hl ⊢; omega),putE,hh]
        simp
theorem ac2 {x:zm} (h:ZB x=true) (hw:zA x) {n:Nat} (hn:2000100≤n) (hn2:n < 100000000) {l:List Int} (hl:l.length≤500000000):abz n l x=some (l++putE 24 x):=by
  obtain ⟨c,h1,h2⟩:=abA h
  have:=aeM 24 x c h1 hw
  exact ajn 24 x c h1 hw n n l (by omega) (by omega) hn2 (by omega)
end Go.Pl
set_option linter.unusedVariables false
set_option linter.unusedSimpArgs false
set_option maxRecDepth 100000
namespace Go.Pl
open Go Go.Ab
theorem aaP {κ ρ:Type} {A:κ→Option ρ} {k:κ} {Q:Option ρ→Prop} (P:κ→Prop) (hk:P k) (hA:∀ k',P k'→Q (A k')):Q (zM A k):=hA k hk
def oapG {α:Type} (acc:Option (List α)) (l:List α):Option (List α):=if l=[] then acc else some (sll acc++l)
theorem adr {α:Type} (acc:Option (List α)):oapG acc []=acc:=rfl
theorem acy {α:Type} (acc:Option (List α)) (x:α) (l:List α):oapG (some (sll acc++[x])) l=oapG acc (x :: l):=by
  unfold oapG
  rw [if_neg (List.cons_ne_nil _ _)]
  split
  · rename_i h; subst h; rfl
  · show some ((sll acc++[x])++l)=_
    simp
theorem aaE {α β:Type} (f:α→β) (l:List α):oapG none (l.map f)=mapO f l:=by
  unfold oapG mapO
  cases l <;> simp [sll]
noncomputable def canE:Nat→zm→zm
  | 0,x=>x
  | d+1,x=>⟨x.fKind,x.fRel,x.fCol,vP x.fConst,mapO (fun z=>zz (canE d (zk z))) (sll x.fKids)⟩
abbrev apO:=(Int × Bool × (Option (List Int)) × Int × Int) ⊕ (Int × Bool × (Option (List Int)) × Int × Int × Int × Int × Int × Int × Nat × ByteArray) ⊕ (Int × Bool × (Option (List Int)) × Int × Int × Int × Int × Int × Int × Nat × ByteArray × (List zc))
def resX (left:Int) (b:Option (List Int)) (y:zm):apO:=match y.fKids with
  | none=>.inr (.inl (left,true,b,0,y.fKind,y.fRel,y.fCol,y.fConst.fKind,y.fConst.fInt,y.fConst.fFloat,y.fConst.fText))
  | some l=>.inr (.inr (left,true,b,0,y.fKind,y.fRel,y.fCol,y.fConst.fKind,y.fConst.fInt,y.fConst.fFloat,y.fConst.fText,l))
theorem ZV {b:Option (List Int)} {l rest:List Int} (hb:Bytes (sll b)) (h:sll b=l++rest) {b':Option (List Int)} (h':sll b'=rest):Bytes (sll b'):=fun x hx=>hb x (by rw [h,← h']; exact List.mem_append_right _ hx)
theorem abn {b:Option (List Int)} {v most:Nat} {rest:List Int} (hv:v≤most) (hm:most < 2 ^ 63) (hb:Bytes (sll b)) (hs:sll b=qC v++rest) {n:Nat} (hn:13≤n):∃ b',sll b'=rest∧zL n ⟨true,b,0⟩ (most:Int)=some (true,b',0,(v:Int)):=by
  obtain ⟨b1,e1,v1,h1,h2⟩:=ak7 (most:=(most:Int)) hb hn
  rw [hs,akP (by omega)] at h2
  unfold alP at h2
  simp only at h2
  rw [if_pos (by omega)] at h2
  obtain ⟨g1,rfl,rfl⟩:=h2
  exact ⟨b1,g1,h1⟩
theorem apa (v:zl) {n:Nat} (hn:1≤n):afe n v 0=some (.inr v):=by
  obtain ⟨n,rfl⟩:∃ k,n=k+1:=⟨n - 1,by omega⟩
  rfl
theorem ajl {x:zm} (hw:Zp x.fConst) (h:QT x=true) (h2:x.fKind≠2):vP x.fConst=⟨0,0,0,E0⟩:=by
  obtain ⟨h3,h4⟩:=qR h
  have h5:=h4.resolve_left h2
  rcases abU hw h3 with e | ⟨i,hi,e⟩ | ⟨i,hi,e⟩ | ⟨f,hf,e⟩ | ⟨t,ht,e⟩ <;> rw [e] at h5 <;> first | (rw [e,Ql (by rw [← e]; exact h3) rfl]; done) | (simp at h5; done)
theorem akt {r m n:Nat} {depth:Int} {N:Nat} {K:Int→Bool→Option (List Int)→Int→Option (List zc)→Option apO} (hN:N≤2) (hd:depth+1 < 1000) (hd0:0≤depth) {rest:List Int}
    (ih:∀ (x:zm) (c:Nat),frmE r x=some c→zA x→∀ (left:Int) (b:Option (List Int)) (rest:List Int),(c:Int)≤left→left≤400→Bytes (sll b)→sll b=putE r x++rest→∃ b',sll b'=rest∧qp m n left true b 0 (depth+1)=some (resX (left - c) b' (canE r x))):
    ∀ (ks:List EX) (c:Nat),sumO (fun z=>frmE r (zk z)) ks=some c→(∀ z,z∈ks→zA (zk z))→∀ (left:Int) (i:Nat) (b:Option (List Int)) (acc:Option (List zc)) (m':Nat),i+ks.length=N→(sll acc).length≤i→(c:Int)≤left→left≤400→Bytes (sll b)→sll b=(ks.flatMap fun z=>putE r (zk z))++rest→
      ∃ b',sll b'=rest∧Zd n (qp m) depth (N:Int) K (m'+ks.length+1) left true b 0 acc (i:Int)=K (left - c) true b' 0 (oapG acc (ks.map fun z=>zz (canE r (zk z))))
  | [],c,hc,_,left,i,b,acc,m',hi,ha,hl,hl4,hb,hs=>by
    have:c=0:=(Option.some.inj hc).symm
    subst this
    rw [List.length_nil] at hi
    refine ⟨b,by simpa using hs,?_⟩
    cases acc <;> rw [Zd,dF (by omega),cond_false,List.map_nil,adr] <;> simp
  | z :: ks,c,hc,hw,left,i,b,acc,m',hi,ha,hl,hl4,hb,hs=>by
    obtain ⟨a,c',h1,h2,rfl⟩:=afb hc
    rw [List.length_cons] at hi
    rw [List.flatMap_cons,List.append_assoc] at hs
    obtain ⟨b1,g1,g2⟩:=ih _ a h1 (hw z (by simp)) left b _ (by omega) hl4 hb hs
    obtain ⟨b',g3,g4⟩:=akt (K:=K) hN hd hd0 ih ks c' h2 (fun y hy=>hw y (by simp [hy])) (left - a) (i+1) b1 (some (sll acc++[zz (canE r (zk z))])) m' (by omega) (by show (sll acc++[_]).length≤_; rw [List.length_append,List.length_singleton]; omega) (by omega) (by omega) (ZV hb hs g1) g1
    refine ⟨b',g3,?_⟩
    rw [List.map_cons,← acy,show left - ((a+c':Nat):Int)=left - (a:Int) - (c':Int) by omega,← g4,List.length_cons,show m'+(ks.length+1)+1=(m'+ks.length+1)+1 by omega]
    generalize canE r (zk z)=y at g2
    obtain ⟨k1,k2,k3,⟨v1,v2,v3,v4⟩,kk⟩:=y
    cases acc with
    | none=>
      rw [Zd,dT (by omega),cond_true,wv (by omega) (by omega),g2,Option.bind_some]
      cases kk <;> (simp only [resX]; rw [ZE (by decide) (by simp),Option.bind_some,aa3 (by omega)]; rfl)
    | some l=>
      have ha':l.length≤i:=ha
      rw [Zd,dT (by omega),cond_true,wv (by omega) (by omega),g2,Option.bind_some]
      cases kk <;> (simp only [resX]; rw [ZE (by decide) (by rw [List.length_append]; simp; omega),Option.bind_some,aa3 (by omega)]; rfl)
theorem ahD:∀ (r:Nat) (x:zm) (c:Nat),frmE r x=some c→zA x→∀ (m n:Nat) (depth:Int),r≤m→2000050+r≤n→1≤depth→depth+r≤25→∀ (left:Int) (b:Option (List Int)) (rest:List Int),(c:Int)≤left→left≤400→Bytes (sll b)→sll b=putE r x++rest→
    ∃ b',sll b'=rest∧qp m n left true b 0 depth=some (resX (left - c) b' (canE r x))
  | 0,x,c,h,_,_,_,_,_,_,_,_,_,_,_,_,_,_,_=>by cases h
  | r+1,x,c,h,hw,m,n,depth,hm,hn,hd1,hd2,left,b,rest,hl,hl4,hb,hs=>by
    obtain ⟨m,rfl⟩:∃ k,m=k+1:=⟨m - 1,by omega⟩
    obtain ⟨n,rfl⟩:∃ k,n=k+1:=⟨n - 1,by omega⟩
    obtain ⟨hnd,a,hsum,rfl⟩:=ahj h
    obtain ⟨hf,hkk⟩:=Qn hnd
    have hr:=aeZ hkk
    obtain ⟨hi1,hi2⟩:=ahq hf
    rw [putE,List.cons_append,List.append_assoc] at hs
    obtain ⟨b1,g1,g2⟩:=aak hb hs (by omega:2000010≤n)
    have hb1:Bytes (sll b1):=ZV (l:=[x.fKind]) hb hs g2
    show ∃ b',sll b'=rest∧Qj (qp m) (n+1) left true b 0 depth=some (resX (left - ((a+1:Nat):Int)) b' (canE (r+1) x))
    unfold Qj
    rw [zB,g1,Option.bind_some]
    dsimp only
    rw [wv (by omega:-9223372036854775808≤x.fKind) (by omega),agw _ (by omega),Option.bind_some,acR (by omega),Option.bind_some,show ((0:Int) != 0)=false by decide,cond_false,hkk,dF (by omega:¬ (((sll x.fKids).length:Int) < 0)),dF (by omega:¬ depth > 24),wv (by omega:-9223372036854775808≤left - 1) (by omega),dF (by omega:¬ (left - 1 < 0)),Bool.or_self,Bool.or_self,cond_false]
    refine aaP (Q:=fun o=>∃ b',sll b'=rest∧o=some (resX (left - ((a+1:Nat):Int)) b' (canE (r+1) x))) (fun k=>∀ b2,Bytes (sll b2)→sll b2=((sll x.fKids).flatMap fun z=>putE r (zk z))++rest→∃ b',sll b'=rest∧k true b2 0 x.fRel x.fCol (vP x.fConst).fKind (vP x.fConst).fInt (vP x.fConst).fFloat (vP x.fConst).fText=some (resX (left - ((a+1:Nat):Int)) b' (canE (r+1) x))) ?_ ?_
    · intro b2 hb2 hs2
      try dsimp only
      rw [acR (by omega),Option.bind_some,show ((0:Int) != 0)=false by decide,cond_false]
      unfold zM
      obtain ⟨m',hm'⟩:∃ m',n=m'+(sll x.fKids).length+1:=⟨n - (sll x.fKids).length - 1,by omega⟩
      have:=akt (r:=r) (m:=m) (n:=n) (depth:=depth) (N:=(sll x.fKids).length) (rest:=rest) (K:=fun | y27,y28,y29,y30,none=>some (.inr (.inl (y27,y28,y29,y30,x.fKind,x.fRel,x.fCol,(vP x.fConst).fKind,(vP x.fConst).fInt,(vP x.fConst).fFloat,(vP x.fConst).fText))) | y27,y28,y29,y30,(some y31)=>some (.inr (.inr ((y27,y28,y29,y30,x.fKind,x.fRel,x.fCol,(vP x.fConst).fKind,(vP x.fConst).fInt,(vP x.fConst).fFloat,(vP x.fConst).fText,y31))))) hr.2.2 (by omega) (by omega)
        (fun x c hc hw left b rest h1 h2 h3 h4=>ahD r x c hc hw m n (depth+1) (by omega) (by omega) (by omega) (by omega) left b rest h1 h2 h3 h4) (sll x.fKids) a hsum (fun z hz=>aey hw hz) (left - 1) 0 b2 none m' (by omega) (by simp [sll]) (by omega) (by omega) hb2 hs2
      obtain ⟨b',g3,g4⟩:=this
      refine ⟨b',g3,?_⟩
      rw [← hm',aaE] at g4
      refine Eq.trans g4 ?_
      rw [show left - 1 - (a:Int)=left - ((a+1:Nat):Int) by omega]
      show _=some (resX _ b' ⟨x.fKind,x.fRel,x.fCol,vP x.fConst,mapO (fun z=>zz (canE r (zk z))) (sll x.fKids)⟩)
      generalize mapO (fun z=>zz (canE r (zk z))) (sll x.fKids)=o
      cases o <;> rfl
    · intro k hk
      try dsimp only
      by_cases h1:x.fKind=1
      · have hh:abY x=qC x.fRel.toNat++qC x.fCol.toNat:=by unfold abY; rw [if_pos h1]
        rw [hh,List.append_assoc] at g2
        obtain ⟨b2,q1,q2⟩:=abn (most:=31) (by omega) (by decide) hb1 g2 (by omega:13≤n)
        have hb2:=ZV hb1 g2 q1
        obtain ⟨b3,q3,q4⟩:=abn (most:=31) (by omega) (by decide) hb2 q1 (by omega:13≤n)
        obtain ⟨b',p1,p2⟩:=hk b3 (ZV hb2 q1 q3) q3
        refine ⟨b',p1,?_⟩
        rw [beqT h1,cond_true,show ((31:Int))=((31:Nat):Int) from rfl,q2,Option.bind_some]
        dsimp only
        rw [q4,Option.bind_some]
        dsimp only
        rw [wv (by omega) (by omega),wv (by omega) (by omega),show ((x.fRel.toNat:Nat):Int)=x.fRel by omega,show ((x.fCol.toNat:Nat):Int)=x.fCol by omega,← p2,ajl (aag hw) hf (by omega)]
      · obtain ⟨z1,z2⟩:=(alX hf).resolve_left h1
        by_cases h2:x.fKind=2
        · have hh:abY x=putV (vP x.fConst):=by unfold abY; rw [if_neg h1,if_pos h2]
          rw [hh] at g2
          obtain ⟨b2,q1,q2⟩:=ajN (ahl (aag hw) (qR hf).1) hb1 g2 (by omega:2000020≤n)
          obtain ⟨b',p1,p2⟩:=hk b2 (ZV hb1 g2 q2) q2
          refine ⟨b',p1,?_⟩
          rw [beqF h1,cond_false,beqT h2,cond_true,q1,Option.bind_some]
          dsimp only
          rw [apa _ (by omega),Option.bind_some,← p2,z1,z2]
        · have hh:abY x=[]:=by unfold abY; rw [if_neg h1,if_neg h2]
          rw [hh,List.nil_append] at g2
          obtain ⟨b',p1,p2⟩:=hk b1 hb1 g2
          refine ⟨b',p1,?_⟩
          rw [beqF h1,cond_false,beqF h2,cond_false,← p2,ajl (aag hw) hf h2,z1,z2]
end Go.Pl
set_option linter.unusedVariables false
set_option linter.unusedSimpArgs false
set_option maxRecDepth 100000
namespace Go.Pl
open Go Go.Ab
theorem amX {v:zl} (hw:Zp v) (h:QU v=true):(vP v).fKind=v.fKind:=by
  rcases abU hw h with e | ⟨i,hi,e⟩ | ⟨i,hi,e⟩ | ⟨f,hf,e⟩ | ⟨t,ht,e⟩
  · rw [e,Ql (by rw [← e]; exact h) rfl]
  · rw [e,Ql (by rw [← e]; exact h) rfl]
  · rw [e,Ql (by rw [← e]; exact h) rfl]
  · rw [e,agQ hf]
  · rw [e,Ql (by rw [← e]; exact h) rfl]
theorem alA:∀ (r:Nat) (x:zm) (c:Nat),frmE r x=some c→zA x→∀ s,r≤s→adk s (canE r x) x=true
  | 0,x,c,h,_,_,_=>by cases h
  | r+1,x,c,h,hw,s,hs=>by
    obtain ⟨s,rfl⟩:∃ j,s=j+1:=⟨s - 1,by omega⟩
    obtain ⟨hnd,hk⟩:=aek h
    have hf:=qR (Qn hnd).1
    rw [adk,canE]
    simp only [beq_self_eq_true,Bool.true_and,Bool.and_eq_true,amX (aag hw) hf.1]
    refine ⟨by unfold amW; rw [apy (aag hw) hf.1]; rfl,?_⟩
    rw [Z2]
    exact acm _ _ fun z hz=>by
      rw [adl]
      obtain ⟨a,ha,_⟩:=hk z hz
      exact alA r _ a ha (aey hw hz) s (by omega)
theorem ahI {x:zm} (h:ZB x=true) (hw:zA x):adk 140000 (canE 24 x) x=true:=by
  obtain ⟨c,h1,_⟩:=abA h
  exact alA 24 x c h1 hw 140000 (by omega)
theorem abm {x:zm} (h:ZB x=true) (hw:zA x):Bytes (putE 24 x)∧(putE 24 x).length≤32400:=by
  obtain ⟨c,h1,h2⟩:=abA h
  have:=aeM 24 x c h1 hw
  exact ⟨aiw 24 x c h1 hw,by omega⟩
theorem af3 {x:zm} (h:ZB x=true) (hw:zA x) {b:Option (List Int)} {rest:List Int} (hb:Bytes (sll b)) (hs:sll b=putE 24 x++rest) {n:Nat} (hn:2000200≤n):
    ∃ b',sll b'=rest∧aa9 n ⟨true,b,0⟩=some (true,b',0,(canE 24 x).fKind,(canE 24 x).fRel,(canE 24 x).fCol,(canE 24 x).fConst.fKind,(canE 24 x).fConst.fInt,(canE 24 x).fConst.fFloat,(canE 24 x).fConst.fText,(canE 24 x).fKids,0):=by
  obtain ⟨c,h1,h2⟩:=abA h
  obtain ⟨n,rfl⟩:∃ k,n=k+3:=⟨n - 3,by omega⟩
  obtain ⟨b',g1,g2⟩:=ahD 24 x c h1 hw n n 1 (by omega) (by omega) (by omega) (by omega) 400 b rest (by omega) (by omega) hb hs
  refine ⟨b',g1,?_⟩
  unfold aa9
  rw [zB]
  unfold qH
  rw [zB]
  unfold ac4
  rw [zB]
  unfold ab4
  rw [g2]
  generalize canE 24 x=y
  obtain ⟨k1,k2,k3,⟨v1,v2,v3,v4⟩,kk⟩:=y
  cases kk <;> rfl
theorem acG {P T R:Type} {F:Nat→Bool→Option (List Int)→Int→Int→Option (List T)→Option R} {K:Bool→Option (List Int)→Int→Option (List T)→Option R} {f:P→List Int} {g:P→T} {N:Nat} (hN:N≤1000) {rest0:List Int}
    (hE:∀ (m:Nat) (b:Option (List Int)) (acc:Option (List T)),F (m+1) true b 0 (N:Int) acc=K true b 0 acc):
    ∀ (ps:List P),(∀ p,p∈ps→∀ (m i:Nat) (b:Option (List Int)) (acc:Option (List T)) (rest:List Int),i < N→(sll acc).length≤i→Bytes (sll b)→sll b=f p++rest→∃ b',sll b'=rest∧F (m+1) true b 0 (i:Int) acc=F m true b' 0 ((i+1:Nat):Int) (some (sll acc++[g p])))→
    ∀ (i m:Nat) (b:Option (List Int)) (acc:Option (List T)),i+ps.length=N→(sll acc).length≤i→Bytes (sll b)→sll b=ps.flatMap f++rest0→∃ b',sll b'=rest0∧F (m+ps.length+1) true b 0 (i:Int) acc=K true b' 0 (oapG acc (ps.map g))
  | [],_,i,m,b,acc,hi,ha,hb,hs=>by
    rw [List.length_nil] at hi
    refine ⟨b,by simpa using hs,?_⟩
    rw [List.map_nil,adr,show i=N by omega]
    exact hE _ _ _
  | p :: ps,hS,i,m,b,acc,hi,ha,hb,hs=>by
    rw [List.length_cons] at hi
    rw [List.flatMap_cons,List.append_assoc] at hs
    obtain ⟨b1,g1,g2⟩:=hS p (by simp) (m+ps.length+1) i b acc _ (by omega) ha hb hs
    obtain ⟨b',g3,g4⟩:=acG hN hE ps (fun q hq=>hS q (by simp [hq])) (i+1) m b1 (some (sll acc++[g p])) (by omega) (by show (sll acc++[g p]).length≤_; rw [List.length_append,List.length_singleton]; omega) (ZV hb hs g1) g1
    refine ⟨b',g3,?_⟩
    rw [List.map_cons,← acy,← g4,List.length_cons,show m+(ps.length+1)+1=(m+ps.length+1)+1 by omega,g2]
theorem aeo {i:Nat} (h:i < 1000000000000):IntKind.wrap .u64 ((i:Int)+1)=((i+1:Nat):Int):=by
  rw [Q1 (by omega) (by omega)]; omega
def putL {α:Type} (f:α→List Int) (l:List α):List Int:=qC l.length++l.flatMap f
def putK (k:zu):List Int:=qC k.fOut.toNat++[bif k.fDesc then (1:Int) else 0]
end Go.Pl
set_option linter.unusedVariables false
set_option linter.unusedSimpArgs false
set_option maxRecDepth 100000
namespace Go.Pl
open Go Go.Ab
noncomputable abbrev putZ:EX→List Int:=fun z=>putE 24 (zk z)
noncomputable abbrev canZ:EX→EX:=fun z=>zz (canE 24 (zk z))
noncomputable def putA (g:zo):List Int:=g.fKind :: putE 24 g.fOf
noncomputable def canA (g:zo):zo:=⟨g.fKind,canE 24 g.fOf⟩
theorem abX {α:Type} {f:α→List Int} {c:Nat}:∀ {l:List α},(∀ x,x∈l→(f x).length≤c)→(l.flatMap f).length≤c * l.length
  | [],_=>by simp
  | x :: l,h=>by
    have h1:=h x (by simp)
    have h2:=abX (l:=l) fun y hy=>h y (by simp [hy])
    rw [List.flatMap_cons,List.length_append,List.length_cons,Nat.mul_succ]; omega
theorem ai0 {α:Type} {f:α→List Int} {c:Nat} {l:List α} (hl:l.length≤1000000) (h:∀ x,x∈l→(f x).length≤c):(putL f l).length≤10+c * l.length:=by
  have h1:=abX h
  have h2:=Zi l.length 9 (by omega)
  unfold putL; rw [List.length_append]; omega
theorem afJ {α:Type} {f:α→List Int} {l:List α} (h:∀ x,x∈l→Bytes (f x)):Bytes (putL f l):=by
  unfold putL
  refine (QR _).app fun y hy=>?_
  obtain ⟨x,hx,hy⟩:=List.mem_flatMap.1 hy
  exact h x hx y hy
theorem amd (k:zu):Bytes (putK k):=by
  unfold putK
  refine (QR _).app fun y hy=>?_
  rw [List.mem_singleton] at hy
  subst hy
  cases k.fDesc <;> decide
theorem adQ {g:zo} (h:(1≤g.fKind∧g.fKind≤4)∧ZB g.fOf=true∧zA g.fOf):Bytes (putA g)∧(putA g).length≤32500:=by
  obtain ⟨h1,h2⟩:=abm h.2.1 h.2.2
  refine ⟨fun y hy=>?_,?_⟩
  · unfold putA at hy
    rcases List.mem_cons.1 hy with rfl | hy
    · have:=h.1; omega
    · exact h1 y hy
  · unfold putA; rw [List.length_cons]; omega
theorem ajg {k:zu} (h:0≤k.fOut∧k.fOut≤29):(putK k).length≤11:=by
  have:=Zi k.fOut.toNat 9 (by omega)
  unfold putK; rw [List.length_append,List.length_singleton]; omega
end Go.Pl
set_option linter.unusedVariables false
set_option linter.unusedSimpArgs false
set_option maxRecDepth 100000
namespace Go.Pl
open Go Go.Ab
theorem apn {v:zl} (hw:Zp v) (h:QU v=true):(vP v).fText=v.fText:=by
  rcases abU hw h with e | ⟨i,hi,e⟩ | ⟨i,hi,e⟩ | ⟨f,hf,e⟩ | ⟨t,ht,e⟩
  · rw [e,Ql (by rw [← e]; exact h) rfl]
  · rw [e,Ql (by rw [← e]; exact h) rfl]
  · rw [e,Ql (by rw [← e]; exact h) rfl]
  · rw [e,agQ hf]
  · rw [e,Ql (by rw [← e]; exact h) rfl]
theorem aiG {α β:Type} {f:β→Option Nat} {g:α→β} {h:α→Option Nat}:∀ {l:List α} {c:Nat},sumO h l=some c→(∀ z a,z∈l→h z=some a→f (g z)=some a)→sumO f (l.map g)=some c
  | [],c,hc,_=>hc
  | z :: l,c,hc,hh=>by
    obtain ⟨a,b,h1,h2,rfl⟩:=afb hc
    simp only [List.map_cons,sumO]
    rw [hh z a (by simp) h1,aiG h2 fun y a hy=>hh y a (by simp [hy])]
theorem aoL {r:Nat} {x:zm} (hw:zA x) (h:ad5 x=true):ad5 (canE (r+1) x)=true:=by
  have hf:=qR (Qn h).1
  have hk:=amX (aag hw) hf.1
  have hr:=ake (ahl (aag hw) hf.1)
  unfold ad5 at h ⊢
  rw [Bool.and_eq_true] at h ⊢
  refine ⟨?_,?_⟩
  · have:=h.1
    rw [canE]
    simp only [Z2,List.length_map]
    exact this
  · have:=h.2
    unfold QT at this ⊢
    simp only [canE]
    rw [hk,hr]
    rw [hf.1] at this
    exact this
theorem anq:∀ (r:Nat) (x:zm) (c:Nat),frmE r x=some c→zA x→frmE r (canE r x)=some c
  | 0,x,c,h,_=>by cases h
  | r+1,x,c,h,hw=>by
    obtain ⟨hn,a,hs,rfl⟩:=ahj h
    rw [frmE,aoL hw hn,cond_true]
    have:sumO (fun z=>frmE r (zk z)) (sll (canE (r+1) x).fKids)=some a:=by
      rw [canE,Z2]
      exact aiG hs fun z b hz hb=>by
        rw [adl]
        exact anq r _ b hb (aey hw hz)
    rw [this]; rfl
theorem ahN {x:zm} (h:ZB x=true) (hw:zA x):ZB (canE 24 x)=true:=by
  obtain ⟨c,h1,h2⟩:=abA h
  unfold ZB
  rw [anq 24 x c h1 hw]
  simpa using h2
theorem aka {α:Type} {R S:α→List PV}:∀ {l:List α},(∀ z,z∈l→PV.bulkL (R z)≤PV.bulkL (S z))→PV.bulkLL (l.map R)≤PV.bulkLL (l.map S)
  | [],_=>Nat.le_refl _
  | z :: l,h=>by
    have h1:=h z (by simp)
    have h2:=aka (l:=l) fun y hy=>h y (by simp [hy])
    simp only [List.map_cons,PV.bulkLL]
    omega
theorem aqa {α β:Type} {R:β→List PV} {S:α→List PV} {g:α→β} {s:Option (List α)} (h:∀ z,z∈sll s→PV.bulkL (R (g z))≤PV.bulkL (S z)):(zg R (mapO g (sll s))).bulk≤(zg S s).bulk:=by
  cases s with
  | none=>exact Nat.le_refl _
  | some l=>
    rw [aoU] at h ⊢
    unfold mapO
    split
    · show 1≤_; simp only [zg,PV.bulk]; omega
    · simp only [zg,PV.bulk,List.map_map]
      have:=aka (R:=fun z=>R (g z)) (S:=S) h
      show PV.bulkLL (l.map (R ∘ g))+1≤_
      exact Nat.succ_le_succ this
theorem al3:∀ (r:Nat) (x:zm) (c:Nat),frmE r x=some c→zA x→szL (canE r x)≤szL x
  | 0,x,c,h,_=>by cases h
  | r+1,x,c,h,hw=>by
    obtain ⟨hn,hk⟩:=aek h
    have hf:=qR (Qn hn).1
    have he:=aqa (R:=za) (S:=za) (g:=fun z=>zz (canE r (zk z))) (s:=x.fKids) fun z hz=>by
      obtain ⟨a,ha,_⟩:=hk z hz
      have:=al3 r _ a ha (aey hw hz)
      rw [Zj z]
      exact this
    unfold szL Zu
    rw [canE]
    simp only [PV.bulkL,PV.bulk,apn (aag hw) hf.1]
    omega
theorem apd {x:zm} (hw:zA x):(wI .i64) x.fKind∧(wI .i64) x.fRel∧(wI .i64) x.fCol:=by
  have h1:=hw.1
  unfold Zu at h1
  generalize hp:([.int .i64 x.fKind,.int .i64 x.fRel,.int .i64 x.fCol,.int .i64 x.fConst.fKind,.int .i64 x.fConst.fInt,.flt .f64 x.fConst.fFloat,.str x.fConst.fText,zg za x.fKids]:List PV)=p at h1
  cases h1 with
  | nil a b c v w=>
    simp only [List.cons.injEq,PV.int.injEq,true_and] at hp
    obtain ⟨e1,e2,e3,_⟩:=hp
    rw [e1,e2,e3]; exact ⟨w.1,w.2.1,w.2.2.1⟩
  | some a b c v rows w hl hr=>
    simp only [List.cons.injEq,PV.int.injEq,true_and] at hp
    obtain ⟨e1,e2,e3,_⟩:=hp
    rw [e1,e2,e3]; exact ⟨w.1,w.2.1,w.2.2.1⟩
theorem aoA:∀ (r:Nat) (x:zm) (c:Nat),frmE r x=some c→zA x→aas (Zu (canE r x))
  | 0,x,c,h,_=>by cases h
  | r+1,x,c,h,hw=>by
    obtain ⟨hn,hk⟩:=aek h
    have hf:=qR (Qn hn).1
    obtain ⟨w1,w2,w3⟩:=apd hw
    have hv:=can_W (ahl (aag hw) hf.1)
    have hl:=aem hw
    unfold Zu
    rw [canE]
    simp only
    unfold mapO
    split
    · exact .nil x.fKind x.fRel x.fCol (vP x.fConst) ⟨w1,w2,w3,hv⟩
    · refine .some x.fKind x.fRel x.fCol (vP x.fConst) _ ⟨w1,w2,w3,hv⟩ (by rw [List.length_map,List.length_map]; exact hl) fun p hp=>?_
      rw [List.map_map] at hp
      obtain ⟨z,hz,rfl⟩:=List.mem_map.1 hp
      obtain ⟨a,ha,_⟩:=hk z hz
      exact aoA r _ a ha (aey hw hz)
theorem al1 {x:zm} (h:ZB x=true) (hw:zA x):zA (canE 24 x):=by
  obtain ⟨c,h1,_⟩:=abA h
  have:=al3 24 x c h1 hw
  have h2:=hw.2
  unfold szL at this
  exact ⟨aoA 24 x c h1 hw,by omega⟩
end Go.Pl
set_option linter.unusedVariables false
set_option linter.unusedSimpArgs false
set_option maxRecDepth 100000
namespace Go.Pl
open Go Go.Ab
theorem aa8 {α R:Type} {F:Nat→List Int→Int→Option R} {l:List α} {f:α→List Int} {K:List Int→Option R} {B:Nat} (hl:l.length≤1048576)
    (hF:∀ (m:Nat) (s:List Int) (i:Nat) (x:α) (hi:i < l.length),l[i]=x→x∈l→s.length+(f x).length≤B→F (m+1) s (i:Int)=F m (s++f x) (IntKind.wrap .i64 ((i:Int)+1)))
    (hE:∀ (m:Nat) (s:List Int),F (m+1) s (l.length:Int)=K s) {m:Nat} (hm:1048577≤m) (s:List Int) (hs:s.length+(l.flatMap f).length≤B):F m s 0=K (s++l.flatMap f):=by
  have key:∀ (q:List α) (i m:Nat) (s:List Int),l.drop i=q→i≤l.length→l.length - i < m→s.length+(q.flatMap f).length≤B→F m s (i:Int)=K (s++q.flatMap f):=by
    intro q
    induction q with
    | nil=>
      intro i m s hd hi hm hs
      obtain ⟨m,rfl⟩:∃ j,m=j+1:=⟨m - 1,by omega⟩
      have:i=l.length:=by
        have:=congrArg List.length hd
        simp at this; omega
      subst this
      rw [hE]; simp
    | cons x q ih=>
      intro i m s hd hi hm hs
      obtain ⟨m,rfl⟩:∃ j,m=j+1:=⟨m - 1,by omega⟩
      have hlt:i < l.length:=by
        have:=congrArg List.length hd
        simp at this; omega
      rw [List.drop_eq_getElem_cons hlt] at hd
      injection hd with h1 h2
      rw [List.flatMap_cons,List.length_append] at hs
      rw [hF m s i x hlt h1 (by rw [← h1]; exact List.getElem_mem hlt) (by omega),aa3 (by omega),ih (i+1) m _ h2 (by omega) (by omega) (by rw [List.length_append]; omega),List.flatMap_cons,List.append_assoc]
  exact key l 0 m s rfl (by omega) (by omega) hs
structure NF (x:zb):Prop where
  kind:1≤x.fKind∧x.fKind≤7
  kids:adT x.fKind=((sll x.fKids).length:Int)∧(sll x.fKids).length≤2
  rel:0≤x.fRel∧x.fRel < 12
  wh:(sll x.fWhere).length≤60∧∀ z,z∈sll x.fWhere→ZB (zk z)=true∧zA (zk z)
  left:(sll x.fLeft).length≤60∧∀ z,z∈sll x.fLeft→ZB (zk z)=true∧zA (zk z)
  right:(sll x.fRight).length≤60∧∀ z,z∈sll x.fRight→ZB (zk z)=true∧zA (zk z)
  out:(sll x.fOut).length≤60∧∀ z,z∈sll x.fOut→ZB (zk z)=true∧zA (zk z)
  aggs:(sll x.fAggs).length≤60∧∀ g,g∈sll x.fAggs→(1≤g.fKind∧g.fKind≤4)∧ZB g.fOf=true∧zA g.fOf
  order:(sll x.fOrder).length≤60∧∀ k,k∈sll x.fOrder→0≤k.fOut∧k.fOut≤29
theorem agK {a:Option (List EX)} (hw:wSl zN a) (h:okEs a=true):(sll a).length≤60∧∀ z,z∈sll a→ZB (zk z)=true∧zA (zk z):=by
  unfold okEs at h
  rw [Bool.and_eq_true,decide_eq_true_eq,List.all_eq_true] at h
  exact ⟨h.1,fun z hz=>⟨h.2 z hz,W_un (hw.2 z hz)⟩⟩
theorem alg {k:Int} {l:Nat} (h:adT k=(l:Int)):(1≤k∧k≤7)∧l≤2:=by
  unfold adT at h
  split at h
  · omega
  split at h
  · omega
  split at h <;> omega
theorem afd {x:zb} (hx:PW x) (h:adX x=true):NF x:=by
  obtain ⟨_,_,w3,w4,w5,w6,w7,w8⟩:=hx
  unfold adX at h
  rw [Bool.and_eq_true,Bool.and_eq_true,beq_iff_eq] at h
  obtain ⟨h1,_,h3⟩:=h
  obtain ⟨k1,k2⟩:=alg h1
  unfold agV at h3
  simp only [Bool.and_eq_true,decide_eq_true_eq,Bool.not_eq_true',List.any_eq_false] at h3
  obtain ⟨⟨⟨⟨⟨⟨p1,p2⟩,p3⟩,p4⟩,p5,p6⟩,p7,p8⟩,⟨p9,p10⟩,_⟩:=h3
  refine ⟨k1,⟨h1,k2⟩,⟨p9,p10⟩,agK w3 p1,agK w4 p2,agK w5 p3,agK w6 p4,⟨p5,fun g hg=>?_⟩,⟨p7,fun k hk=>?_⟩⟩
  · have:=p6 g hg
    unfold badA at this
    simp only [Bool.or_eq_true,decide_eq_true_eq,Bool.not_eq_true',not_or,Bool.not_eq_false] at this
    exact ⟨by omega,this.2,(w7.2 g hg).2⟩
  · have:=p8 k hk
    unfold badK at this
    simp only [Bool.or_eq_true,decide_eq_true_eq,not_or] at this
    omega
theorem akb {r:Nat} {x:zb} {c:Nat} (h:frmP (r+1) x=some c):adX x=true∧∃ a,sumO (fun z=>frmP r (zq z)) (sll x.fKids)=some a∧c=a+1:=by
  simp only [frmP] at h
  cases hn:adX x with
  | false=>rw [hn] at h; cases h
  | true=>
    rw [hn,cond_true,Option.map_eq_some_iff] at h
    obtain ⟨a,h1,h2⟩:=h
    exact ⟨rfl,a,h1,h2.symm⟩
noncomputable def ags (x:zb):List Int:=putL putA (sll x.fAggs)++putL putK (sll x.fOrder)
noncomputable def agq (x:zb):List Int:=putL putZ (sll x.fWhere)++(putL putZ (sll x.fLeft)++(putL putZ (sll x.fRight)++putL putZ (sll x.fOut)))
noncomputable def putP:Nat→zb→List Int
  | 0,_=>[]
  | d+1,x=>x.fKind :: (qC x.fRel.toNat++(agq x++(ags x++(sll x.fKids).flatMap fun z=>putP d (zq z))))
theorem Q2 {a:Option (List EX)} (h:(sll a).length≤60∧∀ z,z∈sll a→ZB (zk z)=true∧zA (zk z)):(putL putZ (sll a)).length≤1944010:=by
  have:=ai0 (f:=putZ) (l:=sll a) (c:=32400) (by omega) fun z hz=>(abm (h.2 z hz).1 (h.2 z hz).2).2
  omega
theorem adE {a:Option (List EX)} (h:(sll a).length≤60∧∀ z,z∈sll a→ZB (zk z)=true∧zA (zk z)):Bytes (putL putZ (sll a)):=
  afJ fun z hz=>(abm (h.2 z hz).1 (h.2 z hz).2).1
theorem ahm {x:zb} (h:NF x):(agq x).length≤7776040:=by
  have:=Q2 h.wh; have:=Q2 h.left; have:=Q2 h.right; have:=Q2 h.out
  unfold agq; simp only [List.length_append]; omega
theorem ahn {x:zb} (h:NF x):(putL putA (sll x.fAggs)).length≤1950010∧(putL putK (sll x.fOrder)).length≤670:=by
  have h1:=h.aggs; have h2:=h.order
  have:=ai0 (f:=putA) (l:=sll x.fAggs) (c:=32500) (by omega) fun z hz=>(adQ (h1.2 z hz)).2
  have:=ai0 (f:=putK) (l:=sll x.fOrder) (c:=11) (by omega) fun z hz=>ajg (h2.2 z hz)
  omega
theorem ahY {α:Type} {f:α→List Int} {g:α→Option Nat} {q:Nat}:∀ {l:List α} {c:Nat},sumO g l=some c→(∀ z a,z∈l→g z=some a→(f z).length≤q * a)→(l.flatMap f).length≤q * c
  | [],c,h,_=>by simp
  | z :: l,c,h,hh=>by
    obtain ⟨a,b,h1,h2,rfl⟩:=afb h
    have:=hh z a (by simp) h1
    have:=ahY h2 fun y a hy=>hh y a (by simp [hy])
    rw [List.flatMap_cons,List.length_append,Nat.mul_add]; omega
theorem aen {s:Nat} {x:zb} (h:WD (s+1) x) {z:PX} (hz:z∈sll x.fKids):WD s (zq z):=h.2.2 z hz
theorem ae1:∀ (r:Nat) (x:zb) (c:Nat),frmP r x=some c→∀ s,r≤s→WD s x→(putP r x).length≤9800000 * c
  | 0,x,c,h,_,_,_=>by cases h
  | r+1,x,c,h,s,hs,hw=>by
    obtain ⟨s,rfl⟩:∃ j,s=j+1:=⟨s - 1,by omega⟩
    obtain ⟨hn,a,hsum,rfl⟩:=akb h
    have hN:=afd hw.1 hn
    have h1:=ahm hN
    have h2:=ahn hN
    have h3:=Zi x.fRel.toNat 9 (by have:=hN.rel; omega)
    have h4:=ahY (f:=fun z=>putP r (zq z)) (q:=9800000) hsum fun z a hz ha=>ae1 r _ a ha s (by omega) (aen hw hz)
    rw [putP]
    unfold ags
    simp only [List.length_cons,List.length_append]
    omega
theorem aiH:∀ (r:Nat) (x:zb) (c:Nat),frmP r x=some c→∀ s,r≤s→WD s x→Bytes (putP r x)
  | 0,x,c,h,_,_,_=>by cases h
  | r+1,x,c,h,s,hs,hw=>by
    obtain ⟨s,rfl⟩:∃ j,s=j+1:=⟨s - 1,by omega⟩
    obtain ⟨hn,hk⟩:=aec h
    have hN:=afd hw.1 hn
    rw [putP]
    intro y hy
    rcases List.mem_cons.1 hy with rfl | hy
    · have:=hN.kind; omega
    · refine ((QR _).app (Bytes.app ((adE hN.wh).app ((adE hN.left).app ((adE hN.right).app (adE hN.out)))) (Bytes.app (Bytes.app (afJ fun z hz=>(adQ (hN.aggs.2 z hz)).1) (afJ fun z _=>amd z)) fun w hw'=>?_))) y hy
      obtain ⟨z,hz,hw'⟩:=List.mem_flatMap.1 hw'
      obtain ⟨a,ha,_⟩:=hk z hz
      exact aiH r _ a ha s (by omega) (aen hw hz) w hw'
section put_R
variable {n:Nat} (hn:2000200≤n) (hn2:n < 100000000)
include hn hn2
theorem apf {K:List Int→Option (List Int)} {a:Option (List EX)} (h:(sll a).length≤60∧∀ z,z∈sll a→ZB (zk z)=true∧zA (zk z)) {s:List Int} (hs:s.length≤450000000):
    ((zG n s (IntKind.wrap .u64 ((sll a).length:Int))).bind fun x127=>qG n K a n x127 0)=K (s++putL putZ (sll a)):=by
  have hf:=abX (f:=putZ) (l:=sll a) (c:=32400) fun z hz=>(abm (h.2 z hz).1 (h.2 z hz).2).2
  have hu:=Zi (sll a).length 9 (by omega)
  have h1:=h.1
  rw [Q1 (by omega) (by omega),ZP (by omega) (by omega) (by omega) (by omega),Option.bind_some]
  unfold putL
  rw [← List.append_assoc]
  exact aa8 (l:=sll a) (f:=putZ) (F:=fun m s i=>qG n K a m s i) (K:=K) (B:=500000000) (by omega)
    (fun m s i z hi e hz hb=>by
      show qG _ _ _ _ _ _=_
      rw [qG,dT (by omega),cond_true,aaX hi e,Option.bind_some,ac2 (h.2 z hz).1 (h.2 z hz).2 (by omega) (by omega) (by omega),Option.bind_some])
    (fun m s=>by rw [qG,dF (by omega),cond_false]) (by omega) _ (by rw [List.length_append]; omega)
theorem amy {x:zb} (hN:NF x) {K:List Int→Option (List Int)} {s:List Int} (hs:s.length≤400000000) {m:Nat} (hm:5≤m):qF n x K m s 0=K (s++agq x):=by
  obtain ⟨m,rfl⟩:∃ j,m=j+5:=⟨m - 5,by omega⟩
  have step:∀ (j:Int) (a:Option (List EX)) (m:Nat) (s:List Int),idx ([x.fWhere,x.fLeft,x.fRight,x.fOut]:List (Option (List zc))) j=some a→0≤j→j < 4→((sll a).length≤60∧∀ z,z∈sll a→ZB (zk z)=true∧zA (zk z))→s.length≤450000000→
      qF n x K (m+1) s j=qF n x K m (s++putL putZ (sll a)) (j+1):=fun j a m s hi h0 h4 ha hs=>by
    rw [qF,dT h4,cond_true]
    simp only [zM]
    rw [hi,Option.bind_some,apf hn hn2 ha hs,wv (by omega) (by omega)]
  have l1:=Q2 hN.wh; have l2:=Q2 hN.left; have l3:=Q2 hN.right; have l4:=Q2 hN.out
  rw [show m+5=m+4+1 from rfl,step 0 x.fWhere _ _ rfl (by decide) (by decide) hN.wh (by omega)]
  rw [show m+4=m+3+1 from rfl,show (0:Int)+1=1 from rfl,step 1 x.fLeft _ _ rfl (by decide) (by decide) hN.left (by simp only [List.length_append]; omega)]
  rw [show m+3=m+2+1 from rfl,show (1:Int)+1=2 from rfl,step 2 x.fRight _ _ rfl (by decide) (by decide) hN.right (by simp only [List.length_append]; omega)]
  rw [show m+2=m+1+1 from rfl,show (2:Int)+1=3 from rfl,step 3 x.fOut _ _ rfl (by decide) (by decide) hN.out (by simp only [List.length_append]; omega)]
  rw [show (3:Int)+1=4 from rfl,qF,show decide ((4:Int) < 4)=false from rfl,cond_false]
  unfold agq
  simp
theorem anR {x:zb} (hN:NF x) {K:List Int→Option (List Int)} {s:List Int} (hs:s.length≤450000000):
    ((zG n s (IntKind.wrap .u64 ((sll x.fAggs).length:Int))).bind fun x15=>qo n x K n x15 0)=K (s++putL putA (sll x.fAggs)):=by
  obtain ⟨h1,h2⟩:=hN.aggs
  have hf:=abX (f:=putA) (l:=sll x.fAggs) (c:=32500) fun z h=>(adQ (h2 z h)).2
  have hu:=Zi (sll x.fAggs).length 9 (by omega)
  rw [Q1 (by omega) (by omega),ZP (by omega) (by omega) (by omega) (by omega),Option.bind_some]
  unfold putL
  rw [← List.append_assoc]
  exact aa8 (l:=sll x.fAggs) (f:=putA) (F:=fun m s i=>qo n x K m s i) (K:=K) (B:=490000000) (by omega)
    (fun m s i z hi e hz hb=>by
      obtain ⟨g1,g2,g3⟩:=h2 z hz
      show qo _ _ _ _ _ _=_
      rw [qo,dT (by omega),cond_true,aaX hi e,Option.bind_some,ZE (by decide) (by rw [List.length_append,List.length_singleton]; omega),Option.bind_some,ahO (by omega) (by omega),ac2 g2 g3 (by omega) (by omega) (by rw [List.length_append,List.length_singleton]; omega),Option.bind_some]
      unfold putA; simp)
    (fun m s=>by rw [qo,dF (by omega),cond_false]) (by omega) _ (by rw [List.length_append]; omega)
theorem amJ {x:zb} (hN:NF x) {K:List Int→Option (List Int)} {s:List Int} (hs:s.length≤450000000):
    ((zG n s (IntKind.wrap .u64 ((sll x.fOrder).length:Int))).bind fun x15=>qn n x K n x15 0)=K (s++putL putK (sll x.fOrder)):=by
  obtain ⟨h1,h2⟩:=hN.order
  have hf:=abX (f:=putK) (l:=sll x.fOrder) (c:=11) fun z h=>ajg (h2 z h)
  have hu:=Zi (sll x.fOrder).length 9 (by omega)
  rw [Q1 (by omega) (by omega),ZP (by omega) (by omega) (by omega) (by omega),Option.bind_some]
  unfold putL
  rw [← List.append_assoc]
  exact aa8 (l:=sll x.fOrder) (f:=putK) (F:=fun m s i=>qn n x K m s i) (K:=K) (B:=490000000) (by omega)
    (fun m s i z hi e hz hb=>by
      obtain ⟨g1,g2⟩:=h2 z hz
      have hz2:=Zi z.fOut.toNat 9 (by omega)
      have hfl:acr n z.fDesc=some (bif z.fDesc then (1:Int) else 0):=by
        obtain ⟨n,rfl⟩:∃ k,n=k+1:=⟨n - 1,by omega⟩
        cases z.fDesc <;> rfl
      show qn _ _ _ _ _ _=_
      rw [qn,dT (by omega),cond_true,aaX hi e,Option.bind_some,Q1 (by omega) (by omega),show z.fOut=((z.fOut.toNat:Nat):Int) by omega,ZP (by omega) (by omega) (by omega) (by omega),Option.bind_some,hfl,Option.bind_some,ZE (by decide) (by rw [List.length_append,List.length_append,List.length_singleton]; omega),Option.bind_some]
      unfold putK; simp)
    (fun m s=>by rw [qn,dF (by omega),cond_false]) (by omega) _ (by rw [List.length_append]; omega)
end put_R
section put_Q
variable {n:Nat} (hn:2000200≤n) (hn2:n < 100000000)
include hn hn2
theorem apb {K:List Int→Option (List Int)} {a:Option (List EX)} (h:(sll a).length≤60∧∀ z,z∈sll a→ZB (zk z)=true∧zA (zk z)) {s:List Int} (hs:s.length≤450000000):
    ((zG n s (IntKind.wrap .u64 ((sll a).length:Int))).bind fun x127=>qg n K a n x127 0)=K (s++putL putZ (sll a)):=by
  have hf:=abX (f:=putZ) (l:=sll a) (c:=32400) fun z hz=>(abm (h.2 z hz).1 (h.2 z hz).2).2
  have hu:=Zi (sll a).length 9 (by omega)
  have h1:=h.1
  rw [Q1 (by omega) (by omega),ZP (by omega) (by omega) (by omega) (by omega),Option.bind_some]
  unfold putL
  rw [← List.append_assoc]
  exact aa8 (l:=sll a) (f:=putZ) (F:=fun m s i=>qg n K a m s i) (K:=K) (B:=500000000) (by omega)
    (fun m s i z hi e hz hb=>by
      show qg _ _ _ _ _ _=_
      rw [qg,dT (by omega),cond_true,aaX hi e,Option.bind_some,ac2 (h.2 z hz).1 (h.2 z hz).2 (by omega) (by omega) (by omega),Option.bind_some])
    (fun m s=>by rw [qg,dF (by omega),cond_false]) (by omega) _ (by rw [List.length_append]; omega)
theorem amQ {x:zb} (hN:NF x) {K:List Int→Option (List Int)} {s:List Int} (hs:s.length≤400000000) {m:Nat} (hm:5≤m):qh n x K m s 0=K (s++agq x):=by
  obtain ⟨m,rfl⟩:∃ j,m=j+5:=⟨m - 5,by omega⟩
  have step:∀ (j:Int) (a:Option (List EX)) (m:Nat) (s:List Int),idx ([x.fWhere,x.fLeft,x.fRight,x.fOut]:List (Option (List zc))) j=some a→0≤j→j < 4→((sll a).length≤60∧∀ z,z∈sll a→ZB (zk z)=true∧zA (zk z))→s.length≤450000000→
      qh n x K (m+1) s j=qh n x K m (s++putL putZ (sll a)) (j+1):=fun j a m s hi h0 h4 ha hs=>by
    rw [qh,dT h4,cond_true]
    simp only [zM]
    rw [hi,Option.bind_some,apb hn hn2 ha hs,wv (by omega) (by omega)]
  have l1:=Q2 hN.wh; have l2:=Q2 hN.left; have l3:=Q2 hN.right; have l4:=Q2 hN.out
  rw [show m+5=m+4+1 from rfl,step 0 x.fWhere _ _ rfl (by decide) (by decide) hN.wh (by omega)]
  rw [show m+4=m+3+1 from rfl,show (0:Int)+1=1 from rfl,step 1 x.fLeft _ _ rfl (by decide) (by decide) hN.left (by simp only [List.length_append]; omega)]
  rw [show m+3=m+2+1 from rfl,show (1:Int)+1=2 from rfl,step 2 x.fRight _ _ rfl (by decide) (by decide) hN.right (by simp only [List.length_append]; omega)]
  rw [show m+2=m+1+1 from rfl,show (2:Int)+1=3 from rfl,step 3 x.fOut _ _ rfl (by decide) (by decide) hN.out (by simp only [List.length_append]; omega)]
  rw [show (3:Int)+1=4 from rfl,qh,show decide ((4:Int) < 4)=false from rfl,cond_false]
  unfold agq
  simp
theorem anC {x:zb} (hN:NF x) {K:List Int→Option (List Int)} {s:List Int} (hs:s.length≤450000000):
    ((zG n s (IntKind.wrap .u64 ((sll x.fAggs).length:Int))).bind fun x15=>Z5 n x K n x15 0)=K (s++putL putA (sll x.fAggs)):=by
  obtain ⟨h1,h2⟩:=hN.aggs
  have hf:=abX (f:=putA) (l:=sll x.fAggs) (c:=32500) fun z h=>(adQ (h2 z h)).2
  have hu:=Zi (sll x.fAggs).length 9 (by omega)
  rw [Q1 (by omega) (by omega),ZP (by omega) (by omega) (by omega) (by omega),Option.bind_some]
  unfold putL
  rw [← List.append_assoc]
  exact aa8 (l:=sll x.fAggs) (f:=putA) (F:=fun m s i=>Z5 n x K m s i) (K:=K) (B:=490000000) (by omega)
    (fun m s i z hi e hz hb=>by
      obtain ⟨g1,g2,g3⟩:=h2 z hz
      show Z5 _ _ _ _ _ _=_
      rw [Z5,dT (by omega),cond_true,aaX hi e,Option.bind_some,ZE (by decide) (by rw [List.length_append,List.length_singleton]; omega),Option.bind_some,ahO (by omega) (by omega),ac2 g2 g3 (by omega) (by omega) (by rw [List.length_append,List.length_singleton]; omega),Option.bind_some]
      unfold putA; simp)
    (fun m s=>by rw [Z5,dF (by omega),cond_false]) (by omega) _ (by rw [List.length_append]; omega)
theorem amK {x:zb} (hN:NF x) {K:List Int→Option (List Int)} {s:List Int} (hs:s.length≤450000000):
    ((zG n s (IntKind.wrap .u64 ((sll x.fOrder).length:Int))).bind fun x15=>Z7 n x K n x15 0)=K (s++putL putK (sll x.fOrder)):=by
  obtain ⟨h1,h2⟩:=hN.order
  have hf:=abX (f:=putK) (l:=sll x.fOrder) (c:=11) fun z h=>ajg (h2 z h)
  have hu:=Zi (sll x.fOrder).length 9 (by omega)
  rw [Q1 (by omega) (by omega),ZP (by omega) (by omega) (by omega) (by omega),Option.bind_some]
  unfold putL
  rw [← List.append_assoc]
  exact aa8 (l:=sll x.fOrder) (f:=putK) (F:=fun m s i=>Z7 n x K m s i) (K:=K) (B:=490000000) (by omega)
    (fun m s i z hi e hz hb=>by
      obtain ⟨g1,g2⟩:=h2 z hz
      have hz2:=Zi z.fOut.toNat 9 (by omega)
      have hfl:acr n z.fDesc=some (bif z.fDesc then (1:Int) else 0):=by
        obtain ⟨n,rfl⟩:∃ k,n=k+1:=⟨n - 1,by omega⟩
        cases z.fDesc <;> rfl
      show Z7 _ _ _ _ _ _=_
      rw [Z7,dT (by omega),cond_true,aaX hi e,Option.bind_some,Q1 (by omega) (by omega),show z.fOut=((z.fOut.toNat:Nat):Int) by omega,ZP (by omega) (by omega) (by omega) (by omega),Option.bind_some,hfl,Option.bind_some,ZE (by decide) (by rw [List.length_append,List.length_append,List.length_singleton]; omega),Option.bind_some]
      unfold putK; simp)
    (fun m s=>by rw [Z7,dF (by omega),cond_false]) (by omega) _ (by rw [List.length_append]; omega)
end put_Q
theorem aiR:∀ (r:Nat) (x:zb) (c:Nat),frmP r x=some c→∀ s,r≤s→WD s x→∀ (m n:Nat) (l:List Int),r≤m→2000300+r≤n→n < 100000000→l.length+(putP r x).length≤395000000→aaG m n l x=some (l++putP r x)
  | 0,x,c,h,_,_,_,_,_,_,_,_,_,_=>by cases h
  | r+1,x,c,h,s,hs,hw,m,n,l,hm,hn,hn2,hl=>by
    obtain ⟨s,rfl⟩:∃ j,s=j+1:=⟨s - 1,by omega⟩
    obtain ⟨m,rfl⟩:∃ k,m=k+1:=⟨m - 1,by omega⟩
    obtain ⟨n,rfl⟩:∃ k,n=k+1:=⟨n - 1,by omega⟩
    obtain ⟨hnd,hkk⟩:=aec h
    have hN:=afd hw.1 hnd
    have hk:=hN.kind; have hr:=hN.rel
    have l1:=ahm hN
    have l2:=ahn hN
    have l3:=Zi x.fRel.toNat 9 (by omega)
    rw [putP] at hl
    unfold ags at hl
    simp only [List.length_cons,List.length_append] at hl
    have hn2':n < 100000000:=by omega
    show abp (aaG m) (n+1) l x=_
    unfold abp
    rw [zB,ZE (by decide) (by rw [List.length_append,List.length_singleton]; omega),Option.bind_some,ahO (by omega) (by omega),Q1 (by omega) (by omega),show x.fRel=((x.fRel.toNat:Nat):Int) by omega,ZP (by omega) (by rw [List.length_append,List.length_singleton]; omega) (by omega) (by omega),Option.bind_some]
    simp only [zM]
    rw [amy (by omega) hn2' hN (by simp only [List.length_append,List.length_singleton]; omega) (by omega),anR (by omega) hn2' hN (by simp only [List.length_append,List.length_singleton]; omega),amJ (by omega) hn2' hN (by simp only [List.length_append,List.length_singleton]; omega)]
    rw [aa8 (l:=sll x.fKids) (f:=fun z=>putP r (zq z)) (F:=fun m' s i=>qM n (aaG m) x (fun y=>some y) m' s i) (K:=fun y=>some y) (B:=395000000) (by have:=hN.kids; omega)
      (fun m' s' i z hi e hz hb=>by
        show qM _ _ _ _ _ _ _=_
        obtain ⟨a,ha,_⟩:=hkk z hz
        rw [qM,dT (by omega),cond_true,aaX hi e,Option.bind_some,aiR r _ a ha s (by omega) (aen hw hz) m n s' (by omega) (by omega) (by omega) hb,Option.bind_some])
      (fun m' s'=>by rw [qM,dF (by omega),cond_false]) (by omega) _ (by simp only [List.length_append,List.length_singleton]; omega)]
    rw [putP]
    unfold ags
    simp
theorem aly {x:zb} {s:Nat} (h:abN x=true) (hs:24≤s) (hw:WD s x) {n:Nat} (hn:2000400≤n) (hn2:n < 100000000):abi n x=some (putP 24 x):=by
  obtain ⟨c,h1,h2⟩:=ac5 h
  have hL:=ae1 24 x c h1 s hs hw
  obtain ⟨s,rfl⟩:∃ j,s=j+1:=⟨s - 1,by omega⟩
  obtain ⟨n,rfl⟩:∃ k,n=k+1:=⟨n - 1,by omega⟩
  obtain ⟨hnd,hkk⟩:=aec h1
  have hl:(putP 24 x).length≤392000000:=by omega
  have hN:=afd hw.1 hnd
  have hk:=hN.kind; have hr:=hN.rel
  have l1:=ahm hN
  have l2:=ahn hN
  have l3:=Zi x.fRel.toNat 9 (by omega)
  rw [putP] at hl
  unfold ags at hl
  simp only [List.length_cons,List.length_append] at hl
  have hn2':n < 100000000:=by omega
  unfold abi
  rw [zB,ZE (by decide) (by rw [List.length_singleton]; omega),Option.bind_some,ahO (by omega) (by omega),Q1 (by omega) (by omega),show x.fRel=((x.fRel.toNat:Nat):Int) by omega,ZP (by omega) (by rw [List.length_singleton]; omega) (by omega) (by omega),Option.bind_some]
  simp only [zM]
  rw [amQ (by omega) hn2' hN (by simp only [List.length_append,List.length_singleton]; omega) (by omega),anC (by omega) hn2' hN (by simp only [List.length_append,List.length_singleton]; omega),amK (by omega) hn2' hN (by simp only [List.length_append,List.length_singleton]; omega)]
  rw [aa8 (l:=sll x.fKids) (f:=fun z=>putP 23 (zq z)) (F:=fun m' s i=>qk n x (fun y=>some y) m' s i) (K:=fun y=>some y) (B:=395000000) (by have:=hN.kids; omega)
    (fun m' s' i z hi e hz hb=>by
      show qk _ _ _ _ _ _=_
      obtain ⟨a,ha,_⟩:=hkk z hz
      rw [qk,dT (by omega),cond_true,aaX hi e,Option.bind_some]
      unfold afL
      rw [aiR 23 _ a ha s (by omega) (aen hw hz) n n s' (by omega) (by omega) (by omega) hb,Option.bind_some])
    (fun m' s'=>by rw [qk,dF (by omega),cond_false]) (by omega) _ (by simp only [List.length_append,List.length_singleton]; omega)]
  rw [putP]
  unfold ags
  simp
end Go.Pl
set_option linter.unusedVariables false
set_option linter.unusedSimpArgs false
set_option maxRecDepth 100000
namespace Go.Pl
open Go Go.Ab
theorem abJ {l:List EX} (hl:l.length≤60) (ht:∀ z,z∈l→ZB (zk z)=true∧zA (zk z)) {b:Option (List Int)} {rest:List Int} (hb:Bytes (sll b)) (hs:sll b=putL putZ l++rest) {n:Nat} (hn:2000300≤n):
    ∃ b',sll b'=rest∧aao n ⟨true,b,0⟩=some (true,b',0,mapO canZ l,0):=by
  obtain ⟨n,rfl⟩:∃ k,n=k+1:=⟨n - 1,by omega⟩
  unfold putL at hs
  rw [List.append_assoc] at hs
  obtain ⟨b1,g1,g2⟩:=abn (most:=60) (by omega) (by decide) hb hs (by omega:13≤n)
  unfold aao
  rw [zB]
  refine aaP (Q:=fun o=>∃ b',sll b'=rest∧o=some (true,b',0,mapO canZ l,0)) (fun k=>∀ b',k true b' 0 (mapO canZ l)=some (true,b',0,mapO canZ l,0)) ?_ ?_
  · intro b'
    cases mapO canZ l <;> (dsimp only; rw [acR (by omega),Option.bind_some])
  intro k hk
  rw [show (60:Int)=((60:Nat):Int) from rfl,g2,Option.bind_some]
  dsimp only
  obtain ⟨m,hm⟩:∃ m,n=m+l.length+1:=⟨n - l.length - 1,by omega⟩
  obtain ⟨b',q1,q2⟩:=acG (f:=putZ) (g:=canZ) (N:=l.length) (rest0:=rest) (F:=fun m a b c i acc=>Zx n k (l.length:Int) m a b c acc i) (K:=k) (by omega)
    (fun m b acc=>by
      show Zx _ _ _ _ _ _ _ _ _=_
      cases acc <;> (rw [Zx,dF (by omega),cond_false])) l
    (fun t htl m i b acc rest hi ha hb hs=>by
      obtain ⟨b',w1,w3⟩:=af3 (ht t htl).1 (ht t htl).2 hb hs (by omega:2000200≤n)
      refine ⟨b',w1,?_⟩
      show Zx _ _ _ _ _ _ _ _ _=Zx _ _ _ _ _ _ _ _ _
      unfold canZ
      generalize canE 24 (zk t)=y at w3
      obtain ⟨k1,k2,k3,⟨v1,v2,v3,v4⟩,kk⟩:=y
      cases acc with
      | none=>
        rw [Zx,dT (by omega),cond_true]
        simp only [zM]
        rw [w3,Option.bind_some]
        cases kk <;> (dsimp only; rw [show ((0:Int) != 0)=false by decide,cond_false,ZE (by decide) (by simp),Option.bind_some,aeo (by omega)]; rfl)
      | some la=>
        have ha':la.length≤i:=ha
        rw [Zx,dT (by omega),cond_true]
        simp only [zM]
        rw [w3,Option.bind_some]
        cases kk <;> (dsimp only; rw [show ((0:Int) != 0)=false by decide,cond_false,ZE (by decide) (by rw [List.length_append,List.length_singleton]; omega),Option.bind_some,aeo (by omega)]; rfl)) 0 m b1 none (by omega) (by simp [sll]) (ZV hb hs g1) g1
  refine ⟨b',q1,?_⟩
  rw [aaE,← hm] at q2
  exact q2.trans (hk b')
abbrev aoY:=(Bool × (Option (List Int)) × Int × Int) ⊕ (Bool × (Option (List Int)) × Int × (List zu) × Int) ⊕ (Bool × (Option (List Int)) × Int × (List zo) × Int) ⊕ (Bool × (Option (List Int)) × Int × (List zo) × (List zu) × Int)
def ak4 (b:Option (List Int)) (o1:Option (List zo)) (o2:Option (List zu)):aoY:=match o1,o2 with
  | none,none=>.inl (true,b,0,0)
  | none,some k=>.inr (.inl (true,b,0,k,0))
  | some a,none=>.inr (.inr (.inl (true,b,0,a,0)))
  | some a,some k=>.inr (.inr (.inr (true,b,0,a,k,0)))
theorem aha {n:Nat} (hn:2000300≤n) {k:Bool→Option (List Int)→Int→Option (List zu)→Option aoY} {l:List zu} (hl:l.length≤60) (ht:∀ k,k∈l→0≤k.fOut∧k.fOut≤29) {b:Option (List Int)} {rest:List Int} (hb:Bytes (sll b)) (hs:sll b=putL putK l++rest):
    ∃ b',sll b'=rest∧((zL n (zf.mk true b 0) 60).bind fun (x22,x23,x24,x25)=>ZD n k x25 n x22 x23 x24 none 0)=k true b' 0 (mapO (fun k=>k) l):=by
  unfold putL at hs
  rw [List.append_assoc] at hs
  obtain ⟨b1,g1,g2⟩:=abn (most:=60) (by omega) (by decide) hb hs (by omega:13≤n)
  rw [show (60:Int)=((60:Nat):Int) from rfl,g2,Option.bind_some]
  dsimp only
  obtain ⟨m,hm⟩:∃ m,n=m+l.length+1:=⟨n - l.length - 1,by omega⟩
  obtain ⟨b',q1,q2⟩:=acG (f:=putK) (g:=fun k=>k) (N:=l.length) (rest0:=rest) (F:=fun m a b c i acc=>ZD n k (l.length:Int) m a b c acc i) (K:=k) (by omega)
    (fun m b acc=>by
      show ZD _ _ _ _ _ _ _ _ _=_
      cases acc <;> (rw [ZD,dF (by omega),cond_false])) l
    (fun t htl m i b acc rest hi ha hb hs=>by
      unfold putK at hs
      rw [List.append_assoc] at hs
      obtain ⟨ho1,ho2⟩:=ht t htl
      obtain ⟨b2,w1,w2⟩:=abn (most:=29) (by omega) (by decide) hb hs (by omega:13≤n)
      obtain ⟨b3,w4,w5⟩:=aak (b:=b2) (ZV hb hs w1) w1 (by omega:2000010≤n)
      refine ⟨b3,w5,?_⟩
      show ZD _ _ _ _ _ _ _ _ _=ZD _ _ _ _ _ _ _ _ _
      have hd:decide ((bif t.fDesc then (1:Int) else 0) > 1)=false:=by cases t.fDesc <;> rfl
      have hd2:((bif t.fDesc then (1:Int) else 0) == 1)=t.fDesc:=by cases t.fDesc <;> rfl
      cases acc with
      | none=>
        rw [ZD,dT (by omega),cond_true,show (29:Int)=((29:Nat):Int) from rfl,w2,Option.bind_some]
        dsimp only
        rw [w4,Option.bind_some]
        dsimp only
        rw [acR (by omega),Option.bind_some,hd,Bool.and_false,cond_false,ZE (by decide) (by simp),Option.bind_some,aeo (by omega),hd2,wv (by omega) (by omega),show ((t.fOut.toNat:Nat):Int)=t.fOut by omega]
        rfl
      | some la=>
        have ha':la.length≤i:=ha
        rw [ZD,dT (by omega),cond_true,show (29:Int)=((29:Nat):Int) from rfl,w2,Option.bind_some]
        dsimp only
        rw [w4,Option.bind_some]
        dsimp only
        rw [acR (by omega),Option.bind_some,hd,Bool.and_false,cond_false,ZE (by decide) (by rw [List.length_append,List.length_singleton]; omega),Option.bind_some,aeo (by omega),hd2,wv (by omega) (by omega),show ((t.fOut.toNat:Nat):Int)=t.fOut by omega]
        rfl) 0 m b1 none (by omega) (by simp [sll]) (ZV hb hs g1) g1
  refine ⟨b',q1,?_⟩
  rw [aaE,← hm] at q2
  exact q2
theorem agm {n:Nat} (hn:2000300≤n) {y:List zo} {k:Bool→Option (List Int)→Int→Option (List zu)→Option aoY} {l:List zu} (hl:l.length≤60) (ht:∀ k,k∈l→0≤k.fOut∧k.fOut≤29) {b:Option (List Int)} {rest:List Int} (hb:Bytes (sll b)) (hs:sll b=putL putK l++rest):
    ∃ b',sll b'=rest∧((zL n (zf.mk true b 0) 60).bind fun (x22,x23,x24,x25)=>Zt n y k x25 n x22 x23 x24 none 0)=k true b' 0 (mapO (fun k=>k) l):=by
  unfold putL at hs
  rw [List.append_assoc] at hs
  obtain ⟨b1,g1,g2⟩:=abn (most:=60) (by omega) (by decide) hb hs (by omega:13≤n)
  rw [show (60:Int)=((60:Nat):Int) from rfl,g2,Option.bind_some]
  dsimp only
  obtain ⟨m,hm⟩:∃ m,n=m+l.length+1:=⟨n - l.length - 1,by omega⟩
  obtain ⟨b',q1,q2⟩:=acG (f:=putK) (g:=fun k=>k) (N:=l.length) (rest0:=rest) (F:=fun m a b c i acc=>Zt n y k (l.length:Int) m a b c acc i) (K:=k) (by omega)
    (fun m b acc=>by
      show Zt _ _ _ _ _ _ _ _ _ _=_
      cases acc <;> (rw [Zt,dF (by omega),cond_false])) l
    (fun t htl m i b acc rest hi ha hb hs=>by
      unfold putK at hs
      rw [List.append_assoc] at hs
      obtain ⟨ho1,ho2⟩:=ht t htl
      obtain ⟨b2,w1,w2⟩:=abn (most:=29) (by omega) (by decide) hb hs (by omega:13≤n)
      obtain ⟨b3,w4,w5⟩:=aak (b:=b2) (ZV hb hs w1) w1 (by omega:2000010≤n)
      refine ⟨b3,w5,?_⟩
      show Zt _ _ _ _ _ _ _ _ _ _=Zt _ _ _ _ _ _ _ _ _ _
      have hd:decide ((bif t.fDesc then (1:Int) else 0) > 1)=false:=by cases t.fDesc <;> rfl
      have hd2:((bif t.fDesc then (1:Int) else 0) == 1)=t.fDesc:=by cases t.fDesc <;> rfl
      cases acc with
      | none=>
        rw [Zt,dT (by omega),cond_true,show (29:Int)=((29:Nat):Int) from rfl,w2,Option.bind_some]
        dsimp only
        rw [w4,Option.bind_some]
        dsimp only
        rw [acR (by omega),Option.bind_some,hd,Bool.and_false,cond_false,ZE (by decide) (by simp),Option.bind_some,aeo (by omega),hd2,wv (by omega) (by omega),show ((t.fOut.toNat:Nat):Int)=t.fOut by omega]
        rfl
      | some la=>
        have ha':la.length≤i:=ha
        rw [Zt,dT (by omega),cond_true,show (29:Int)=((29:Nat):Int) from rfl,w2,Option.bind_some]
        dsimp only
        rw [w4,Option.bind_some]
        dsimp only
        rw [acR (by omega),Option.bind_some,hd,Bool.and_false,cond_false,ZE (by decide) (by rw [List.length_append,List.length_singleton]; omega),Option.bind_some,aeo (by omega),hd2,wv (by omega) (by omega),show ((t.fOut.toNat:Nat):Int)=t.fOut by omega]
        rfl) 0 m b1 none (by omega) (by simp [sll]) (ZV hb hs g1) g1
  refine ⟨b',q1,?_⟩
  rw [aaE,← hm] at q2
  exact q2
theorem ak3 {x:zb} (hN:NF x) {b:Option (List Int)} {rest:List Int} (hb:Bytes (sll b)) (hs:sll b=ags x++rest) {n:Nat} (hn:2000400≤n) (k r:Int) (o1 o2 o3 o4:Option (List zc)):
    ∃ b',sll b'=rest∧adq n ⟨true,b,0⟩ k r o1 o2 o3 o4=some (ak4 b' (mapO canA (sll x.fAggs)) (mapO (fun k=>k) (sll x.fOrder))):=by
  obtain ⟨n,rfl⟩:∃ k,n=k+1:=⟨n - 1,by omega⟩
  unfold ags at hs
  rw [List.append_assoc] at hs
  have hs0:=hs
  unfold putL at hs
  rw [List.append_assoc] at hs
  obtain ⟨hl,ht⟩:=hN.aggs
  obtain ⟨hl2,ht2⟩:=hN.order
  obtain ⟨b1,g1,g2⟩:=abn (most:=60) (by omega) (by decide) hb hs (by omega:13≤n)
  unfold adq
  rw [zB]
  refine aaP (Q:=fun o=>∃ b',sll b'=rest∧o=some (ak4 b' (mapO canA (sll x.fAggs)) (mapO (fun k=>k) (sll x.fOrder)))) (fun k=>∀ b1,Bytes (sll b1)→sll b1=putL putK (sll x.fOrder)++rest→∃ b',sll b'=rest∧k true b1 0 (mapO canA (sll x.fAggs))=some (ak4 b' (mapO canA (sll x.fAggs)) (mapO (fun k=>k) (sll x.fOrder)))) ?_ ?_
  · intro b1 hb1 hs1
    cases mapO canA (sll x.fAggs) with
    | none=>
      dsimp only [zM]
      obtain ⟨b',e1,e2⟩:=aha (n:=n) (by omega) (k:=fun | y12,y13,y14,none=>(zH n (zf.mk y12 y13 y14)).bind fun x18=>some (.inl (y12,y13,y14,x18)) | y12,y13,y14,(some y15)=>(zH n (zf.mk y12 y13 y14)).bind fun x20=>some (.inr (.inl (y12,y13,y14,y15,x20)))) hl2 ht2 hb1 hs1
      refine ⟨b',e1,Eq.trans e2 ?_⟩
      cases mapO (fun k=>k) (sll x.fOrder) <;> (dsimp only; rw [acR (by omega)]; rfl)
    | some la=>
      dsimp only [zM]
      obtain ⟨b',e1,e2⟩:=agm (n:=n) (by omega) (y:=la) (k:=fun | y69,y70,y71,none=>(zH n (zf.mk y69 y70 y71)).bind fun x75=>some (.inr (.inr (.inl (y69,y70,y71,la,x75)))) | y69,y70,y71,(some y72)=>(zH n (zf.mk y69 y70 y71)).bind fun x77=>some (.inr (.inr (.inr ((y69,y70,y71,la,y72,x77)))))) hl2 ht2 hb1 hs1
      refine ⟨b',e1,Eq.trans e2 ?_⟩
      cases mapO (fun k=>k) (sll x.fOrder) <;> (dsimp only; rw [acR (by omega)]; rfl)
  intro k hk
  rw [show (60:Int)=((60:Nat):Int) from rfl,g2,Option.bind_some]
  dsimp only
  obtain ⟨m,hm⟩:∃ m,n=m+(sll x.fAggs).length+1:=⟨n - (sll x.fAggs).length - 1,by omega⟩
  obtain ⟨b',q1,q2⟩:=acG (f:=putA) (g:=canA) (N:=(sll x.fAggs).length) (rest0:=putL putK (sll x.fOrder)++rest) (F:=fun m a b c i acc=>ZI n k ((sll x.fAggs).length:Int) m a b c acc i) (K:=k) (by omega)
    (fun m b acc=>by
      show ZI _ _ _ _ _ _ _ _ _=_
      cases acc <;> (rw [ZI,dF (by omega),cond_false])) (sll x.fAggs)
    (fun t htl m i b acc rest hi ha hb hs=>by
      unfold putA at hs
      rw [List.cons_append] at hs
      obtain ⟨⟨hk1,hk2⟩,hf,hw⟩:=ht t htl
      obtain ⟨b2,v1,v2⟩:=aak hb hs (by omega:2000010≤n)
      obtain ⟨b',w1,w3⟩:=af3 hf hw (ZV (l:=[t.fKind]) hb hs v2) v2 (by omega:2000200≤n)
      refine ⟨b',w1,?_⟩
      show ZI _ _ _ _ _ _ _ _ _=ZI _ _ _ _ _ _ _ _ _
      unfold canA
      generalize canE 24 t.fOf=y at w3
      obtain ⟨k1,k2,k3,⟨v1',v2',v3',v4'⟩,kk⟩:=y
      cases acc with
      | none=>
        rw [ZI,dT (by omega),cond_true,v1,Option.bind_some]
        simp only [zM]
        rw [w3,Option.bind_some]
        cases kk <;> (dsimp only; rw [show ((0:Int) != 0)=false by decide,cond_false,ZE (by decide) (by simp),Option.bind_some,aeo (by omega),wv (by omega) (by omega)]; rfl)
      | some la=>
        have ha':la.length≤i:=ha
        rw [ZI,dT (by omega),cond_true,v1,Option.bind_some]
        simp only [zM]
        rw [w3,Option.bind_some]
        cases kk <;> (dsimp only; rw [show ((0:Int) != 0)=false by decide,cond_false,ZE (by decide) (by rw [List.length_append,List.length_singleton]; omega),Option.bind_some,aeo (by omega),wv (by omega) (by omega)]; rfl)) 0 m b1 none (by omega) (by simp [sll]) (ZV hb hs g1) g1
  rw [aaE,← hm] at q2
  have hb':Bytes (sll b'):=ZV hb hs0 q1
  obtain ⟨b2,z1,z2⟩:=hk b' hb' q1
  exact ⟨b2,z1,Eq.trans q2 z2⟩
end Go.Pl
set_option linter.unusedVariables false
set_option linter.unusedSimpArgs false
set_option maxRecDepth 100000
namespace Go.Pl
open Go Go.Ab
noncomputable def canP:Nat→zb→zb
  | 0,x=>x
  | d+1,x=>⟨x.fKind,x.fRel,mapO canZ (sll x.fWhere),mapO canZ (sll x.fLeft),mapO canZ (sll x.fRight),mapO canZ (sll x.fOut),mapO canA (sll x.fAggs),mapO (fun k=>k) (sll x.fOrder),mapO (fun z=>zr (canP d (zq z))) (sll x.fKids)⟩
theorem agS {α:Type} (l:List α) (z:α):idx (l++[z]) (l.length:Int)=some z:=aaX (by simp) (by simp)
theorem af4 {α:Type} (l:List α) (z w:α):(l++[z]).set (Int.toNat (l.length:Int)) w=l++[w]:=by
  rw [Int.toNat_natCast]; simp
abbrev aj0:=Bool × (Option (List Int)) × Int × Int × Int × (Option (List zc)) × (Option (List zc)) × (Option (List zc)) × (Option (List zc)) × (Option (List zo)) × (Option (List zu)) × (Option (List zn)) × Int
def resP (b:Option (List Int)) (y:zb):aj0:=(true,b,0,y.fKind,y.fRel,y.fWhere,y.fLeft,y.fRight,y.fOut,y.fAggs,y.fOrder,y.fKids,0)
theorem adt {r m n s:Nat} {depth:Int} {N:Nat} {K:Bool→Option (List Int)→Int→Option (List zn)→Option aj0} (hN:N≤2) (hd:depth+1 < 1000) (hd0:0≤depth) {rest:List Int}
    (ih:∀ (x:zb) (c:Nat),frmP r x=some c→WD s x→∀ (b:Option (List Int)) (rest:List Int),Bytes (sll b)→sll b=putP r x++rest→∃ b',sll b'=rest∧Z9 m n ⟨true,b,0⟩ (depth+1)=some (resP b' (canP r x))):
    ∀ (ks:List PX),(∀ z,z∈ks→(∃ c,frmP r (zq z)=some c)∧WD s (zq z))→∀ (i:Nat) (b:Option (List Int)) (acc:Option (List zn)) (m':Nat),i+ks.length=N→(sll acc).length≤i→Bytes (sll b)→sll b=(ks.flatMap fun z=>putP r (zq z))++rest→
      ∃ b',sll b'=rest∧qd n (Z9 m) depth (N:Int) K (m'+ks.length+1) true b 0 acc (i:Int)=K true b' 0 (oapG acc (ks.map fun z=>zr (canP r (zq z))))
  | [],_,i,b,acc,m',hi,ha,hb,hs=>by
    rw [List.length_nil] at hi
    refine ⟨b,by simpa using hs,?_⟩
    cases acc <;> rw [qd,dF (by omega),cond_false,List.map_nil,adr]
  | z :: ks,hw,i,b,acc,m',hi,ha,hb,hs=>by
    rw [List.length_cons] at hi
    rw [List.flatMap_cons,List.append_assoc] at hs
    obtain ⟨⟨c,hc⟩,hwz⟩:=hw z (by simp)
    obtain ⟨b1,g1,g2⟩:=ih _ c hc hwz b _ hb hs
    obtain ⟨b',g3,g4⟩:=adt (K:=K) hN hd hd0 ih ks (fun y hy=>hw y (by simp [hy])) (i+1) b1 (some (sll acc++[zr (canP r (zq z))])) m' (by omega) (by show (sll acc++[_]).length≤_; rw [List.length_append,List.length_singleton]; omega) (ZV hb hs g1) g1
    refine ⟨b',g3,?_⟩
    rw [List.map_cons,← acy,← g4,List.length_cons,show m'+(ks.length+1)+1=(m'+ks.length+1)+1 by omega]
    generalize canP r (zq z)=y at g2
    obtain ⟨y1,y2,y3,y4,y5,y6,y7,y8,y9⟩:=y
    cases acc with
    | none=>
      rw [qd,dT (by omega),cond_true,wv (by omega) (by omega),g2,Option.bind_some]
      simp only [resP]
      rw [show ((0:Int) != 0)=false by decide,cond_false,ZE (by decide) (by simp),Option.bind_some,aa3 (by omega)]; rfl
    | some l=>
      have ha':l.length≤i:=ha
      rw [qd,dT (by omega),cond_true,wv (by omega) (by omega),g2,Option.bind_some]
      simp only [resP]
      rw [show ((0:Int) != 0)=false by decide,cond_false,ZE (by decide) (by rw [List.length_append]; simp; omega),Option.bind_some,agS,Option.bind_some,af4,aa3 (by omega)]; rfl
theorem ac0 {r m n s:Nat} {depth:Int} {N:Nat} {K:Bool→Option (List Int)→Int→Option (List zn)→Option aj0} (hN:N≤2) (hd:depth+1 < 1000) (hd0:0≤depth) {rest:List Int}
    (ih:∀ (x:zb) (c:Nat),frmP r x=some c→WD s x→∀ (b:Option (List Int)) (rest:List Int),Bytes (sll b)→sll b=putP r x++rest→∃ b',sll b'=rest∧Z9 m n ⟨true,b,0⟩ (depth+1)=some (resP b' (canP r x))):
    ∀ (ks:List PX),(∀ z,z∈ks→(∃ c,frmP r (zq z)=some c)∧WD s (zq z))→∀ (i:Nat) (b:Option (List Int)) (acc:Option (List zn)) (m':Nat),i+ks.length=N→(sll acc).length≤i→Bytes (sll b)→sll b=(ks.flatMap fun z=>putP r (zq z))++rest→
      ∃ b',sll b'=rest∧Z1 n (Z9 m) depth (N:Int) K (m'+ks.length+1) true b 0 acc (i:Int)=K true b' 0 (oapG acc (ks.map fun z=>zr (canP r (zq z))))
  | [],_,i,b,acc,m',hi,ha,hb,hs=>by
    rw [List.length_nil] at hi
    refine ⟨b,by simpa using hs,?_⟩
    cases acc <;> rw [Z1,dF (by omega),cond_false,List.map_nil,adr]
  | z :: ks,hw,i,b,acc,m',hi,ha,hb,hs=>by
    rw [List.length_cons] at hi
    rw [List.flatMap_cons,List.append_assoc] at hs
    obtain ⟨⟨c,hc⟩,hwz⟩:=hw z (by simp)
    obtain ⟨b1,g1,g2⟩:=ih _ c hc hwz b _ hb hs
    obtain ⟨b',g3,g4⟩:=ac0 (K:=K) hN hd hd0 ih ks (fun y hy=>hw y (by simp [hy])) (i+1) b1 (some (sll acc++[zr (canP r (zq z))])) m' (by omega) (by show (sll acc++[_]).length≤_; rw [List.length_append,List.length_singleton]; omega) (ZV hb hs g1) g1
    refine ⟨b',g3,?_⟩
    rw [List.map_cons,← acy,← g4,List.length_cons,show m'+(ks.length+1)+1=(m'+ks.length+1)+1 by omega]
    generalize canP r (zq z)=y at g2
    obtain ⟨y1,y2,y3,y4,y5,y6,y7,y8,y9⟩:=y
    cases acc with
    | none=>
      rw [Z1,dT (by omega),cond_true,wv (by omega) (by omega),g2,Option.bind_some]
      simp only [resP]
      rw [show ((0:Int) != 0)=false by decide,cond_false,ZE (by decide) (by simp),Option.bind_some,aa3 (by omega)]; rfl
    | some l=>
      have ha':l.length≤i:=ha
      rw [Z1,dT (by omega),cond_true,wv (by omega) (by omega),g2,Option.bind_some]
      simp only [resP]
      rw [show ((0:Int) != 0)=false by decide,cond_false,ZE (by decide) (by rw [List.length_append]; simp; omega),Option.bind_some,agS,Option.bind_some,af4,aa3 (by omega)]; rfl
theorem acY {r m n s:Nat} {depth:Int} {N:Nat} {K:Bool→Option (List Int)→Int→Option (List zn)→Option aj0} (hN:N≤2) (hd:depth+1 < 1000) (hd0:0≤depth) {rest:List Int}
    (ih:∀ (x:zb) (c:Nat),frmP r x=some c→WD s x→∀ (b:Option (List Int)) (rest:List Int),Bytes (sll b)→sll b=putP r x++rest→∃ b',sll b'=rest∧Z9 m n ⟨true,b,0⟩ (depth+1)=some (resP b' (canP r x))):
    ∀ (ks:List PX),(∀ z,z∈ks→(∃ c,frmP r (zq z)=some c)∧WD s (zq z))→∀ (i:Nat) (b:Option (List Int)) (acc:Option (List zn)) (m':Nat),i+ks.length=N→(sll acc).length≤i→Bytes (sll b)→sll b=(ks.flatMap fun z=>putP r (zq z))++rest→
      ∃ b',sll b'=rest∧ZU n (Z9 m) depth (N:Int) K (m'+ks.length+1) true b 0 acc (i:Int)=K true b' 0 (oapG acc (ks.map fun z=>zr (canP r (zq z))))
  | [],_,i,b,acc,m',hi,ha,hb,hs=>by
    rw [List.length_nil] at hi
    refine ⟨b,by simpa using hs,?_⟩
    cases acc <;> rw [ZU,dF (by omega),cond_false,List.map_nil,adr]
  | z :: ks,hw,i,b,acc,m',hi,ha,hb,hs=>by
    rw [List.length_cons] at hi
    rw [List.flatMap_cons,List.append_assoc] at hs
    obtain ⟨⟨c,hc⟩,hwz⟩:=hw z (by simp)
    obtain ⟨b1,g1,g2⟩:=ih _ c hc hwz b _ hb hs
    obtain ⟨b',g3,g4⟩:=acY (K:=K) hN hd hd0 ih ks (fun y hy=>hw y (by simp [hy])) (i+1) b1 (some (sll acc++[zr (canP r (zq z))])) m' (by omega) (by show (sll acc++[_]).length≤_; rw [List.length_append,List.length_singleton]; omega) (ZV hb hs g1) g1
    refine ⟨b',g3,?_⟩
    rw [List.map_cons,← acy,← g4,List.length_cons,show m'+(ks.length+1)+1=(m'+ks.length+1)+1 by omega]
    generalize canP r (zq z)=y at g2
    obtain ⟨y1,y2,y3,y4,y5,y6,y7,y8,y9⟩:=y
    cases acc with
    | none=>
      rw [ZU,dT (by omega),cond_true,wv (by omega) (by omega),g2,Option.bind_some]
      simp only [resP]
      rw [show ((0:Int) != 0)=false by decide,cond_false,ZE (by decide) (by simp),Option.bind_some,aa3 (by omega)]; rfl
    | some l=>
      have ha':l.length≤i:=ha
      rw [ZU,dT (by omega),cond_true,wv (by omega) (by omega),g2,Option.bind_some]
      simp only [resP]
      rw [show ((0:Int) != 0)=false by decide,cond_false,ZE (by decide) (by rw [List.length_append]; simp; omega),Option.bind_some,agS,Option.bind_some,af4,aa3 (by omega)]; rfl
theorem aca {r m n s:Nat} {depth:Int} {N:Nat} {K:Bool→Option (List Int)→Int→Option (List zn)→Option aj0} (hN:N≤2) (hd:depth+1 < 1000) (hd0:0≤depth) {rest:List Int}
    (ih:∀ (x:zb) (c:Nat),frmP r x=some c→WD s x→∀ (b:Option (List Int)) (rest:List Int),Bytes (sll b)→sll b=putP r x++rest→∃ b',sll b'=rest∧Z9 m n ⟨true,b,0⟩ (depth+1)=some (resP b' (canP r x))):
    ∀ (ks:List PX),(∀ z,z∈ks→(∃ c,frmP r (zq z)=some c)∧WD s (zq z))→∀ (i:Nat) (b:Option (List Int)) (acc:Option (List zn)) (m':Nat),i+ks.length=N→(sll acc).length≤i→Bytes (sll b)→sll b=(ks.flatMap fun z=>putP r (zq z))++rest→
      ∃ b',sll b'=rest∧ZK n (Z9 m) depth (N:Int) K (m'+ks.length+1) true b 0 acc (i:Int)=K true b' 0 (oapG acc (ks.map fun z=>zr (canP r (zq z))))
  | [],_,i,b,acc,m',hi,ha,hb,hs=>by
    rw [List.length_nil] at hi
    refine ⟨b,by simpa using hs,?_⟩
    cases acc <;> rw [ZK,dF (by omega),cond_false,List.map_nil,adr]
  | z :: ks,hw,i,b,acc,m',hi,ha,hb,hs=>by
    rw [List.length_cons] at hi
    rw [List.flatMap_cons,List.append_assoc] at hs
    obtain ⟨⟨c,hc⟩,hwz⟩:=hw z (by simp)
    obtain ⟨b1,g1,g2⟩:=ih _ c hc hwz b _ hb hs
    obtain ⟨b',g3,g4⟩:=aca (K:=K) hN hd hd0 ih ks (fun y hy=>hw y (by simp [hy])) (i+1) b1 (some (sll acc++[zr (canP r (zq z))])) m' (by omega) (by show (sll acc++[_]).length≤_; rw [List.length_append,List.length_singleton]; omega) (ZV hb hs g1) g1
    refine ⟨b',g3,?_⟩
    rw [List.map_cons,← acy,← g4,List.length_cons,show m'+(ks.length+1)+1=(m'+ks.length+1)+1 by omega]
    generalize canP r (zq z)=y at g2
    obtain ⟨y1,y2,y3,y4,y5,y6,y7,y8,y9⟩:=y
    cases acc with
    | none=>
      rw [ZK,dT (by omega),cond_true,wv (by omega) (by omega),g2,Option.bind_some]
      simp only [resP]
      rw [show ((0:Int) != 0)=false by decide,cond_false,ZE (by decide) (by simp),Option.bind_some,aa3 (by omega)]; rfl
    | some l=>
      have ha':l.length≤i:=ha
      rw [ZK,dT (by omega),cond_true,wv (by omega) (by omega),g2,Option.bind_some]
      simp only [resP]
      rw [show ((0:Int) != 0)=false by decide,cond_false,ZE (by decide) (by rw [List.length_append]; simp; omega),Option.bind_some,agS,Option.bind_some,af4,aa3 (by omega)]; rfl
theorem amq {x:zb} (hN:NF x) {K:Bool→Option (List Int)→Int→Option (List zc)→Option (List zc)→Option (List zc)→Option (List zc)→Option aj0} {b:Option (List Int)} {rest:List Int} (hb:Bytes (sll b)) (hs:sll b=agq x++rest) {n m:Nat} (hn:2000300≤n) (hm:5≤m):
    ∃ b',sll b'=rest∧Za n K m true b 0 none none none none 0=K true b' 0 (mapO canZ (sll x.fWhere)) (mapO canZ (sll x.fLeft)) (mapO canZ (sll x.fRight)) (mapO canZ (sll x.fOut)):=by
  obtain ⟨m,rfl⟩:∃ j,m=j+5:=⟨m - 5,by omega⟩
  unfold agq at hs
  rw [List.append_assoc,List.append_assoc,List.append_assoc] at hs
  obtain ⟨b1,e1,f1⟩:=abJ hN.wh.1 hN.wh.2 hb hs hn
  have hb1:=ZV hb hs e1
  obtain ⟨b2,e2,f2⟩:=abJ hN.left.1 hN.left.2 hb1 e1 hn
  have hb2:=ZV hb1 e1 e2
  obtain ⟨b3,e3,f3⟩:=abJ hN.right.1 hN.right.2 hb2 e2 hn
  have hb3:=ZV hb2 e2 e3
  obtain ⟨b4,e4,f4⟩:=abJ hN.out.1 hN.out.2 hb3 e3 hn
  refine ⟨b4,e4,?_⟩
  have z0:((0:Int) != 0)=false:=by decide
  rw [show m+5=m+4+1 from rfl,Za,f1,Option.bind_some]
  dsimp only
  rw [z0,cond_false,show m+4=m+3+1 from rfl,Za,f2,Option.bind_some]
  dsimp only
  rw [z0,cond_false,show m+3=m+2+1 from rfl,Za,f3,Option.bind_some]
  dsimp only
  rw [z0,cond_false,show m+2=m+1+1 from rfl,Za,f4,Option.bind_some]
  dsimp only
  rw [z0,cond_false,Za]
theorem ahX:∀ (r:Nat) (x:zb) (c:Nat),frmP r x=some c→∀ s,r≤s→WD s x→∀ (m n:Nat) (depth:Int),r≤m→2000500+r≤n→1≤depth→depth+r≤25→∀ (b:Option (List Int)) (rest:List Int),Bytes (sll b)→sll b=putP r x++rest→
    ∃ b',sll b'=rest∧Z9 m n ⟨true,b,0⟩ depth=some (resP b' (canP r x))
  | 0,x,c,h,_,_,_,_,_,_,_,_,_,_,_,_,_,_=>by cases h
  | r+1,x,c,h,s,hs0,hw,m,n,depth,hm,hn,hd1,hd2,b,rest,hb,hs=>by
    obtain ⟨s,rfl⟩:∃ j,s=j+1:=⟨s - 1,by omega⟩
    obtain ⟨m,rfl⟩:∃ k,m=k+1:=⟨m - 1,by omega⟩
    obtain ⟨n,rfl⟩:∃ k,n=k+1:=⟨n - 1,by omega⟩
    obtain ⟨hnd,hkk0⟩:=aec h
    have hN:=afd hw.1 hnd
    have hk:=hN.kind; have hr:=hN.rel
    have hkk:∀ z,z∈sll x.fKids→(∃ c,frmP r (zq z)=some c)∧WD s (zq z):=fun z hz=>by
      obtain ⟨a,ha,_⟩:=hkk0 z hz
      exact ⟨⟨a,ha⟩,aen hw hz⟩
    rw [putP,List.cons_append,List.append_assoc,List.append_assoc,List.append_assoc] at hs
    obtain ⟨b1,g1,g2⟩:=aak hb hs (by omega:2000010≤n)
    have hb1:Bytes (sll b1):=ZV (l:=[x.fKind]) hb hs g2
    obtain ⟨b2,q1,q2⟩:=abn (most:=12) (by omega) (by decide) hb1 g2 (by omega:13≤n)
    have hb2:=ZV hb1 g2 q1
    show ∃ b',sll b'=rest∧abR (Z9 m) (n+1) ⟨true,b,0⟩ depth=some (resP b' (canP (r+1) x))
    unfold abR
    rw [zB,g1,Option.bind_some]
    dsimp only
    rw [acR (by omega),Option.bind_some,show ((0:Int) != 0)=false by decide,cond_false,wv (by omega:-9223372036854775808≤x.fKind) (by omega),agN _ (by omega),Option.bind_some,hN.kids.1,dF (by omega:¬ (((sll x.fKids).length:Int) < 0)),dF (by omega:¬ depth > 24),Bool.or_self,cond_false,show (12:Int)=((12:Nat):Int) from rfl,q2,Option.bind_some]
    dsimp only
    rw [wv (by omega:-9223372036854775808≤((x.fRel.toNat:Nat):Int)) (by omega),show ((x.fRel.toNat:Nat):Int)=x.fRel by omega]
    refine aaP (Q:=fun o=>∃ b',sll b'=rest∧o=some (resP b' (canP (r+1) x))) (fun k=>∀ b3,Bytes (sll b3)→sll b3=ags x++(((sll x.fKids).flatMap fun z=>putP r (zq z))++rest)→∃ b',sll b'=rest∧k true b3 0 (mapO canZ (sll x.fWhere)) (mapO canZ (sll x.fLeft)) (mapO canZ (sll x.fRight)) (mapO canZ (sll x.fOut))=some (resP b' (canP (r+1) x))) (fun b3 hb3 hs3=>?_) (fun k hk=>?_)
    rotate_left
    · obtain ⟨b3,e1,e2⟩:=amq hN (K:=k) hb2 q1 (n:=n) (m:=n) (by omega) (by omega)
      obtain ⟨b',p1,p2⟩:=hk b3 (ZV hb2 q1 e1) e1
      exact ⟨b',p1,Eq.trans e2 p2⟩
    obtain ⟨b4,e1,e2⟩:=ak3 hN hb3 hs3 (n:=n) (by omega) x.fKind x.fRel (mapO canZ (sll x.fWhere)) (mapO canZ (sll x.fLeft)) (mapO canZ (sll x.fRight)) (mapO canZ (sll x.fOut))
    have hb4:=ZV hb3 hs3 e1
    refine aaP (Q:=fun o=>∃ b',sll b'=rest∧o=some (resP b' (canP (r+1) x))) (fun k=>∀ b5,Bytes (sll b5)→sll b5=(((sll x.fKids).flatMap fun z=>putP r (zq z))++rest)→∃ b',sll b'=rest∧k true b5 0 (mapO canA (sll x.fAggs)) (mapO (fun k=>k) (sll x.fOrder))=some (resP b' (canP (r+1) x))) (fun b5 hb5 hs5=>?_) (fun k hk=>?_)
    rotate_left
    · obtain ⟨b',p1,p2⟩:=hk b4 hb4 e1
      refine ⟨b',p1,?_⟩
      rw [← p2,e2,Option.bind_some]
      cases mapO canA (sll x.fAggs) <;> cases mapO (fun k=>k) (sll x.fOrder) <;> rfl
    have hih:∀ (x:zb) (c:Nat),frmP r x=some c→WD s x→∀ (b:Option (List Int)) (rest:List Int),Bytes (sll b)→sll b=putP r x++rest→∃ b',sll b'=rest∧Z9 m n ⟨true,b,0⟩ (depth+1)=some (resP b' (canP r x)):=
      fun x c hc hw b rest h1 h2=>ahX r x c hc s (by omega) hw m n (depth+1) (by omega) (by omega) (by omega) (by omega) b rest h1 h2
    obtain ⟨m',hm'⟩:∃ m',n=m'+(sll x.fKids).length+1:=⟨n - (sll x.fKids).length - 1,by have:=hN.kids; omega⟩
    have hc:canP (r+1) x=⟨x.fKind,x.fRel,mapO canZ (sll x.fWhere),mapO canZ (sll x.fLeft),mapO canZ (sll x.fRight),mapO canZ (sll x.fOut),mapO canA (sll x.fAggs),mapO (fun k=>k) (sll x.fOrder),mapO (fun z=>zr (canP r (zq z))) (sll x.fKids)⟩:=rfl
    rw [hc]
    generalize mapO canA (sll x.fAggs)=o1
    generalize mapO (fun k=>k) (sll x.fOrder)=o2
    cases o1 with
    | none=>
      cases o2 with
      | none=>
        dsimp only
        refine aaP (Q:=fun o=>∃ b',sll b'=rest∧o=some (resP b' ⟨x.fKind,x.fRel,mapO canZ (sll x.fWhere),mapO canZ (sll x.fLeft),mapO canZ (sll x.fRight),mapO canZ (sll x.fOut),none,none,mapO (fun z=>zr (canP r (zq z))) (sll x.fKids)⟩)) (fun k=>∀ b',k true b' 0 (mapO (fun z=>zr (canP r (zq z))) (sll x.fKids))=some (resP b' ⟨x.fKind,x.fRel,mapO canZ (sll x.fWhere),mapO canZ (sll x.fLeft),mapO canZ (sll x.fRight),mapO canZ (sll x.fOut),none,none,mapO (fun z=>zr (canP r (zq z))) (sll x.fKids)⟩)) (fun b'=>by cases mapO (fun z=>zr (canP r (zq z))) (sll x.fKids) <;> rfl) (fun k hk=>?_)
        obtain ⟨b',p1,p2⟩:=adt (r:=r) (m:=m) (n:=n) (s:=s) (depth:=depth) (N:=(sll x.fKids).length) (rest:=rest) (K:=k) hN.kids.2 (by omega) (by omega) hih (sll x.fKids) hkk 0 b5 none m' (by omega) (by simp [sll]) hb5 hs5
        rw [aaE,← hm'] at p2
        exact ⟨b',p1,p2.trans (hk b')⟩
      | some la=>
        dsimp only
        refine aaP (Q:=fun o=>∃ b',sll b'=rest∧o=some (resP b' ⟨x.fKind,x.fRel,mapO canZ (sll x.fWhere),mapO canZ (sll x.fLeft),mapO canZ (sll x.fRight),mapO canZ (sll x.fOut),none,some la,mapO (fun z=>zr (canP r (zq z))) (sll x.fKids)⟩)) (fun k=>∀ b',k true b' 0 (mapO (fun z=>zr (canP r (zq z))) (sll x.fKids))=some (resP b' ⟨x.fKind,x.fRel,mapO canZ (sll x.fWhere),mapO canZ (sll x.fLeft),mapO canZ (sll x.fRight),mapO canZ (sll x.fOut),none,some la,mapO (fun z=>zr (canP r (zq z))) (sll x.fKids)⟩)) (fun b'=>by cases mapO (fun z=>zr (canP r (zq z))) (sll x.fKids) <;> rfl) (fun k hk=>?_)
        obtain ⟨b',p1,p2⟩:=ac0 (r:=r) (m:=m) (n:=n) (s:=s) (depth:=depth) (N:=(sll x.fKids).length) (rest:=rest) (K:=k) hN.kids.2 (by omega) (by omega) hih (sll x.fKids) hkk 0 b5 none m' (by omega) (by simp [sll]) hb5 hs5
        rw [aaE,← hm'] at p2
        exact ⟨b',p1,p2.trans (hk b')⟩
    | some lb=>
      cases o2 with
      | none=>
        dsimp only
        refine aaP (Q:=fun o=>∃ b',sll b'=rest∧o=some (resP b' ⟨x.fKind,x.fRel,mapO canZ (sll x.fWhere),mapO canZ (sll x.fLeft),mapO canZ (sll x.fRight),mapO canZ (sll x.fOut),some lb,none,mapO (fun z=>zr (canP r (zq z))) (sll x.fKids)⟩)) (fun k=>∀ b',k true b' 0 (mapO (fun z=>zr (canP r (zq z))) (sll x.fKids))=some (resP b' ⟨x.fKind,x.fRel,mapO canZ (sll x.fWhere),mapO canZ (sll x.fLeft),mapO canZ (sll x.fRight),mapO canZ (sll x.fOut),some lb,none,mapO (fun z=>zr (canP r (zq z))) (sll x.fKids)⟩)) (fun b'=>by cases mapO (fun z=>zr (canP r (zq z))) (sll x.fKids) <;> rfl) (fun k hk=>?_)
        obtain ⟨b',p1,p2⟩:=acY (r:=r) (m:=m) (n:=n) (s:=s) (depth:=depth) (N:=(sll x.fKids).length) (rest:=rest) (K:=k) hN.kids.2 (by omega) (by omega) hih (sll x.fKids) hkk 0 b5 none m' (by omega) (by simp [sll]) hb5 hs5
        rw [aaE,← hm'] at p2
        exact ⟨b',p1,p2.trans (hk b')⟩
      | some la=>
        dsimp only
        refine aaP (Q:=fun o=>∃ b',sll b'=rest∧o=some (resP b' ⟨x.fKind,x.fRel,mapO canZ (sll x.fWhere),mapO canZ (sll x.fLeft),mapO canZ (sll x.fRight),mapO canZ (sll x.fOut),some lb,some la,mapO (fun z=>zr (canP r (zq z))) (sll x.fKids)⟩)) (fun k=>∀ b',k true b' 0 (mapO (fun z=>zr (canP r (zq z))) (sll x.fKids))=some (resP b' ⟨x.fKind,x.fRel,mapO canZ (sll x.fWhere),mapO canZ (sll x.fLeft),mapO canZ (sll x.fRight),mapO canZ (sll x.fOut),some lb,some la,mapO (fun z=>zr (canP r (zq z))) (sll x.fKids)⟩)) (fun b'=>by cases mapO (fun z=>zr (canP r (zq z))) (sll x.fKids) <;> rfl) (fun k hk=>?_)
        obtain ⟨b',p1,p2⟩:=aca (r:=r) (m:=m) (n:=n) (s:=s) (depth:=depth) (N:=(sll x.fKids).length) (rest:=rest) (K:=k) hN.kids.2 (by omega) (by omega) hih (sll x.fKids) hkk 0 b5 none m' (by omega) (by simp [sll]) hb5 hs5
        rw [aaE,← hm'] at p2
        exact ⟨b',p1,p2.trans (hk b')⟩
end Go.Pl
set_option linter.unusedVariables false
set_option linter.unusedSimpArgs false
set_option maxRecDepth 100000
namespace Go.Pl
open Go Go.Ab
abbrev FE (a:Option (List EX)):Prop:=(sll a).length≤60∧∀ z,z∈sll a→ZB (zk z)=true∧zA (zk z)
theorem akW {a:Option (List EX)} (h:FE a):wSl zN (mapO canZ (sll a)):=by
  refine ⟨by rw [Z2,List.length_map]; have:=h.1; omega,fun y hy=>?_⟩
  rw [Z2] at hy
  obtain ⟨z,hz,rfl⟩:=List.mem_map.1 hy
  refine W_ok ?_
  rw [adl]
  exact al1 (h.2 z hz).1 (h.2 z hz).2
theorem aic {a:Option (List EX)} (h:FE a):okEs (mapO canZ (sll a))=true:=by
  unfold okEs
  rw [Bool.and_eq_true,decide_eq_true_eq,List.all_eq_true,Z2,List.length_map]
  refine ⟨h.1,fun y hy=>?_⟩
  obtain ⟨z,hz,rfl⟩:=List.mem_map.1 hy
  rw [adl]
  exact ahN (h.2 z hz).1 (h.2 z hz).2
theorem ae4 {a:Option (List EX)} (h:FE a):acN 140000 (sll (mapO canZ (sll a))) (sll a)=true:=by
  rw [Z2]
  exact acm _ _ fun z hz=>by rw [adl]; exact ahI (h.2 z hz).1 (h.2 z hz).2
theorem aqm {r:Nat} {x:zb} (hw:PW x) (hN:NF x):PW (canP (r+1) x):=by
  obtain ⟨w1,w2,_,_,_,_,w7,w8⟩:=hw
  refine ⟨w1,w2,akW hN.wh,akW hN.left,akW hN.right,akW hN.out,⟨?_,fun g hg=>?_⟩,⟨?_,fun k hk=>?_⟩⟩
  · show (sll (mapO canA (sll x.fAggs))).length≤_
    rw [Z2,List.length_map]; exact w7.1
  · have hg:g∈sll (mapO canA (sll x.fAggs)):=hg
    rw [Z2] at hg
    obtain ⟨y,hy,rfl⟩:=List.mem_map.1 hg
    obtain ⟨_,h2,h3⟩:=hN.aggs.2 y hy
    exact ⟨(w7.2 y hy).1,al1 h2 h3⟩
  · show (sll (mapO (fun k=>k) (sll x.fOrder))).length≤_
    rw [Z2,List.length_map]; exact w8.1
  · have hk:k∈sll (mapO (fun k=>k) (sll x.fOrder)):=hk
    rw [Z2,List.map_id'] at hk
    exact w8.2 k hk
theorem anB {r:Nat} {x:zb} (hN:NF x) (h:adX x=true):adX (canP (r+1) x)=true:=by
  unfold adX at h ⊢
  rw [Bool.and_eq_true,Bool.and_eq_true] at h ⊢
  obtain ⟨h1,h2,h3⟩:=h
  refine ⟨?_,?_,?_⟩
  · show (adT x.fKind == ((sll (mapO _ (sll x.fKids))).length:Int))=true
    rw [Z2,List.length_map]; exact h1
  · unfold ajj at h2 ⊢
    show amF x.fKind (sll (mapO _ (sll x.fWhere))).length (sll (mapO _ (sll x.fLeft))).length (sll (mapO _ (sll x.fRight))).length (sll (mapO _ (sll x.fOut))).length (sll (mapO _ (sll x.fAggs))).length (sll (mapO _ (sll x.fOrder))).length=true
    simp only [Z2,List.length_map]; exact h2
  · unfold agV at h3 ⊢
    simp only [Bool.and_eq_true,decide_eq_true_eq,Bool.not_eq_true',List.any_eq_false] at h3 ⊢
    obtain ⟨⟨⟨_,p5,p6⟩,p7,p8⟩,p9⟩:=h3
    refine ⟨⟨⟨⟨⟨⟨aic hN.wh,aic hN.left⟩,aic hN.right⟩,aic hN.out⟩,?_,fun g hg=>?_⟩,?_,fun k hk=>?_⟩,p9⟩
    · show (sll (mapO canA (sll x.fAggs))).length≤_
      rw [Z2,List.length_map]; exact p5
    · have hg:g∈sll (mapO canA (sll x.fAggs)):=hg
      rw [Z2] at hg
      obtain ⟨y,hy,rfl⟩:=List.mem_map.1 hg
      obtain ⟨h1,h2,h3⟩:=hN.aggs.2 y hy
      unfold badA canA
      simp only [ahN h2 h3,Bool.not_true,Bool.or_false,Bool.or_eq_true,decide_eq_true_eq,not_or]
      omega
    · show (sll (mapO (fun k=>k) (sll x.fOrder))).length≤_
      rw [Z2,List.length_map]; exact p7
    · have hk:k∈sll (mapO (fun k=>k) (sll x.fOrder)):=hk
      rw [Z2,List.map_id'] at hk
      exact p8 k hk
theorem agf:∀ (r:Nat) (x:zb) (c:Nat),frmP r x=some c→∀ s,r≤s→WD s x→frmP r (canP r x)=some c∧WD r (canP r x)∧∀ k,r≤k→aht k (canP r x) x=true
  | 0,x,c,h,_,_,_=>by cases h
  | r+1,x,c,h,s,hs,hw=>by
    obtain ⟨s,rfl⟩:∃ j,s=j+1:=⟨s - 1,by omega⟩
    obtain ⟨hn,a,hsum,rfl⟩:=akb h
    obtain ⟨_,hk⟩:=aec h
    have hN:=afd hw.1 hn
    have hkid:(canP (r+1) x).fKids=mapO (fun z=>zr (canP r (zq z))) (sll x.fKids):=rfl
    refine ⟨?_,⟨aqm hw.1 hN,?_,fun y hy=>?_⟩,fun k hk'=>?_⟩
    · rw [frmP,anB hN hn,cond_true]
      have:sumO (fun z=>frmP r (zq z)) (sll (canP (r+1) x).fKids)=some a:=by
        rw [hkid,Z2]
        exact aiG hsum fun z b hz hb=>by
          rw [ahp]
          exact (agf r _ b hb s (by omega) (aen hw hz)).1
      rw [this]; rfl
    · rw [hkid,Z2,List.length_map]; exact hw.2.1
    · rw [hkid,Z2] at hy
      obtain ⟨z,hz,rfl⟩:=List.mem_map.1 hy
      obtain ⟨b,hb,_⟩:=hk z hz
      rw [ahp]
      exact (agf r _ b hb s (by omega) (aen hw hz)).2.1
    · obtain ⟨k,rfl⟩:∃ j,k=j+1:=⟨k - 1,by omega⟩
      have e:canP (r+1) x=⟨x.fKind,x.fRel,mapO canZ (sll x.fWhere),mapO canZ (sll x.fLeft),mapO canZ (sll x.fRight),mapO canZ (sll x.fOut),mapO canA (sll x.fAggs),mapO (fun k=>k) (sll x.fOrder),mapO (fun z=>zr (canP r (zq z))) (sll x.fKids)⟩:=rfl
      rw [aht,e]
      simp only [beq_self_eq_true,Bool.true_and,ae4 hN.wh,ae4 hN.left,ae4 hN.right,ae4 hN.out]
      rw [Z2,Z2,Z2,List.map_id']
      rw [acm canA (sll x.fAggs) (fun g hg=>by
        unfold alw canA
        simp only [beq_self_eq_true,Bool.true_and]
        exact ahI (hN.aggs.2 g hg).2.1 (hN.aggs.2 g hg).2.2),Bool.true_and,akC _ (fun x _=>ami x),Bool.true_and]
      exact acm _ _ fun z hz=>by
        rw [ahp]
        obtain ⟨b,hb,_⟩:=hk z hz
        exact (agf r _ b hb s (by omega) (aen hw hz)).2.2 k (by omega)
theorem ahB {x:zb} {s:Nat} (h:abN x=true) (hs:24≤s) (hw:WD s x):abN (canP 24 x)=true∧WD 24 (canP 24 x)∧aht 24 (canP 24 x) x=true:=by
  obtain ⟨c,h1,h2⟩:=ac5 h
  obtain ⟨a1,a2,a3⟩:=agf 24 x c h1 s hs hw
  refine ⟨?_,a2,a3 24 (by omega)⟩
  unfold abN
  rw [a1]
  simpa using h2
theorem ak8 {x:zb} {s:Nat} (h:abN x=true) (hs:24≤s) (hw:WD s x) {b:Option (List Int)} {rest:List Int} (hb:Bytes (sll b)) (hb2:sll b=putP 24 x++rest) {n:Nat} (hn:2000600≤n):
    ∃ b',sll b'=rest∧ady n ⟨true,b,0⟩=some (resP b' (canP 24 x)):=by
  obtain ⟨c,h1,h2⟩:=ac5 h
  obtain ⟨n,rfl⟩:∃ k,n=k+1:=⟨n - 1,by omega⟩
  obtain ⟨b',e1,e2⟩:=ahX 24 x c h1 s hs hw n n 1 (by omega) (by omega) (by decide) (by decide) b rest hb hb2
  refine ⟨b',e1,?_⟩
  obtain ⟨f1,f2,_⟩:=ahB h hs hw
  unfold ady
  rw [zB]
  unfold ahk
  rw [e2,Option.bind_some]
  have hF:=acQ f2 (n:=n) (by omega)
  rw [f1] at hF
  generalize canP 24 x=y at hF ⊢
  obtain ⟨y1,y2,y3,y4,y5,y6,y7,y8,y9⟩:=y
  simp only [resP]
  rw [show ((0:Int) != 0)=false by decide,cond_false,hF,Option.bind_some]
  rfl
theorem alc {n:Nat} (hn:3900000≤n) (hn2:n < 10000000) (hwk:abT n=some true) {x:zb} {tl:Option (List Int)} (h0:aaq x) (ht:wSl (wI .u8) tl):aam (n+1) x tl=some true:=by
  have hw:=W_WD h0
  unfold aam
  rw [zB,hwk,Option.bind_some,Bool.not_true,cond_false]
  obtain ⟨g,hg⟩:=ale hw (n:=n) (by omega)
  rw [hg,Option.bind_some]
  cases hgt:(g || decide (((sll tl).length:Int) > 1000)) with
  | true=>rfl
  | false=>
    rw [cond_false,acQ hw (by omega),Option.bind_some]
    have htl:(sll tl).length≤1000:=by
      rw [Bool.or_eq_false_iff,decide_eq_false_iff_not] at hgt
      omega
    have hB:=an2 ht
    cases hf:abN x with
    | false=>rfl
    | true=>
      rw [Bool.not_true,cond_false]
      obtain ⟨c,c1,c2⟩:=ac5 hf
      have hPl:=ae1 24 x c c1 _ (by decide) hw
      have hPb:=aiH 24 x c c1 _ (by decide) hw
      refine aaP (Q:=fun o=>o=some true) (fun k=>∀ y,sll y=putP 24 x++sll tl→k y=some true) (fun y hy=>?_) (fun k hk=>?_)
      rotate_left
      · rw [show (zb.mk x.fKind x.fRel x.fWhere x.fLeft x.fRight x.fOut x.fAggs x.fOrder x.fKids)=x from rfl,aly hf (by decide) hw (by omega) (by omega),Option.bind_some]
        have read:∀ (y:Option (List Int)),acS n y=some ():=fun y=>by
          obtain ⟨n,rfl⟩:∃ j,n=j+1:=⟨n - 1,by omega⟩
          rfl
        cases hem:(sll tl).isEmpty with
        | true=>
          rw [cond_true,ZE (by decide) (by omega),Option.bind_some,read,Option.bind_some]
          refine hk _ ?_
          rw [List.isEmpty_iff] at hem
          rw [hem,List.append_nil]; rfl
        | false=>
          rw [cond_false,ZE (by decide) (by rw [List.length_append]; omega),Option.bind_some,read,Option.bind_some]
          exact hk _ rfl
      obtain ⟨b',e1,e2⟩:=ak8 hf (by decide) hw (b:=y) (rest:=sll tl) (by rw [hy]; exact hPb.app hB) hy (n:=n) (by omega)
      rw [e2,Option.bind_some]
      obtain ⟨f1,f2,f3⟩:=ahB hf (by decide) hw
      have hF:=acQ f2 (n:=n) (by omega)
      have hS:aff n (canP 24 x) x=some true:=by
        unfold aff
        rw [ahG 24 (canP 24 x) (amt _ _ f2) 131072 x (amt _ _ hw) 24 n n (by omega) (by omega) (by omega),f3]
      rw [f1] at hF
      generalize canP 24 x=y' at hF hS ⊢
      obtain ⟨y1,y2,y3,y4,y5,y6,y7,y8,y9⟩:=y'
      simp only [resP]
      rw [show ((0:Int) == 0)=true by decide,cond_true,hS,Option.bind_some,cond_true,hF,Option.bind_some,cond_true,apM (by omega),Option.bind_some,e1]
      simp
theorem amN:abT 3999999=some true:=rfl
theorem ajW {n:Nat} (h:n=4000000) {x:zb} {tl:Option (List Int)} (h0:aaq x) (ht:wSl (wI .u8) tl):aam n x tl=some true:=by
  subst h
  exact alc (n:=3999999) (by decide) (by decide) amN h0 ht
end Go.Pl
