import Derived.Test.YtejbcaheoloahaaGreatAbRow
import Derived.Test.YtejbcaheoloahaaGreatAbRd
namespace Go.Ab
open Go
def aAf (k:IntKind) (x:Nat→Int):Nat→Nat→List AV
  | _,0=>[]
  | i,n+1=>.pv (.int k (x i)) :: aAf k x (i+1) n
def aA (k:IntKind) (n:Nat) (x:Nat→Int):List AV:=aAf k x 0 n
def ckI (n:Nat) (i:Int):Option Unit:=if 0≤i∧i < n then some () else none
theorem ako {n:Nat} {i:Int} {c:Unit} (h:ckI n i=some c):0≤i∧i < n:=by
  unfold ckI at h
  split at h
  · assumption
  · cases h
theorem ajJ (k:IntKind) (x:Nat→Int):∀ (n i:Nat),(aAf k x i n).length=n
  | 0,_=>rfl
  | n+1,i=>by simp [aAf,ajJ k x n]
theorem alA (k:IntKind) (x:Nat→Int):∀ (n i j:Nat),j < n→(aAf k x i n)[j]?=some (.pv (.int k (x (i+j))))
  | n+1,i,0,_=>by simp [aAf]
  | n+1,i,j+1,h=>by
    rw [aAf,List.getElem?_cons_succ,alA k x n (i+1) j (by omega),show i+1+j=i+(j+1) by omega]
section
variable {G:Cfg} {C:ZL} {m:Nat} {ops:Array Oper} {i:Nat} {ov:List (Nat × AV)} {H:List Blk}
theorem anx (sz:Nat) (k:IntKind) {j:Int} {c:Unit} {id off t n e:Nat} {s b:Nat} {ag:Bool} {z:List PV} {ei:TI} (ht:G.T t=some ⟨.array n e,s,b,ag,z⟩) (he:G.T e=some ei) (hs:ei.size=sz) (hc:ckI n j=some c) (ho:opL G C m ops i ov H=okV (qc G.T t (.ptr id off) (.pv (.int k j)))):
    opL G C m ops i ov H=some (.ok ⟨.ptr id (off+j.toNat * sz),[],[]⟩):=by
  rw [ho]
  subst hs
  unfold qc
  simp only [ht,he]
  rw [if_pos (ako hc)]; rfl
theorem anm (x:Nat→Int) (pre post cells:List AV) {k:IntKind} {j:Int} {c:Unit} {t id off n:Nat} {ti:TI} {z:Bool} (ht:G.T t=some ti) (hs:ti.size=1) (ha:ti.agg=false) (hl:zu H id=some (.box cells z)) (hx:cells=pre++(aA k n x++post)) (hp:pre.length=off) (hc:ckI n j=some c)
    (ho:opL G C m ops i ov H=okV (ac8 G.T t (.ptr id (off+j.toNat * 1)) (zu H))):opL G C m ops i ov H=some (.ok ⟨.pv (.int k (x j.toNat)),[],[]⟩):=by
  rw [ho]
  obtain ⟨h0,h1⟩:=ako hc
  have hj:j.toNat < n:=by omega
  unfold ac8
  simp only [ht,hl,Nat.mul_one]
  subst hx; subst hp
  have hlen:pre.length+j.toNat+1≤(pre++(aA k n x++post)).length:=by
    simp [aA,ajJ]; omega
  have hd:((pre++(aA k n x++post)).drop (pre.length+j.toNat)).take 1=[.pv (.int k (x j.toNat))]:=by
    apply List.ext_getElem?
    intro l
    rw [List.getElem?_take]
    split
    · rename_i hl1
      obtain rfl:l=0:=by omega
      rw [List.getElem?_drop,List.getElem?_append_right (by omega),List.getElem?_append_left (by simp [aA,ajJ]; omega),aA,show pre.length+j.toNat+0 - pre.length=j.toNat by omega,alA _ _ _ _ _ hj]
      simp
    · rename_i hl1
      rw [List.getElem?_eq_none (by simp; omega)]
  unfold cut
  rw [hs,if_pos hlen,Option.bind_some,hd]
  simp [aeh,ha,okV]
end
theorem an2 {look:Look} {cs:List AV} {ps:List PV} {R:AV} (h:acJ (AV.pureOf look 4) cs=some ps) (e:AV.agg (ps.map .pv)=R):AV.puriRes look (.agg cs)=some R:=by
  subst e; exact afb h
end Go.Ab
