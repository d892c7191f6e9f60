import Derived.Test.YtejbcaheoloahaaGreatAbRow
import Derived.Test.YtejbcaheoloahaaGreatAbRd
set_option linter.all false
namespace Go.Ab
open Go
def aAf (k:IntKind) (x:Nat→Int):Nat→Nat→List AV
 |_,0=>[]
 |i,n+1=>.pv (.int k (x i))::aAf k x (i+1) n
def aA (k:IntKind) (n:Nat) (x:Nat→Int):List AV:=aAf k x 0 n
def updA (x:Nat→Int) (i v:Int):Nat→Int:=fun j=>bif Nat.beq j i.toNat then v else x j
def ckI (n:Nat) (i:Int):Option Unit:=if 0≤i∧i<n then some () else none
theorem anc {n:Nat}{i:Int}{c:Unit}(h:ckI n i=some c):0≤i∧i<n:=by
 unfold ckI at h
 split at h
 ·assumption
 cases h
theorem age (k:IntKind) (x:Nat→Int):∀ (n i:Nat),(aAf k x i n).length=n
 |0,_=>rfl
 |n+1,i=>by simp [aAf,age k x n]
theorem amF (k:IntKind) (x:Nat→Int):∀ (n i j:Nat),j<n→(aAf k x i n)[j]?=some (.pv (.int k (x (i+j))))
 |n+1,i,0,_=>by simp [aAf]
 |n+1,i,j+1,h=>by
  rw [aAf,List.getElem?_cons_succ,amF k x n (i+1) j hO,show i+1+j=i+(j+1) by omega]
theorem awb (k:IntKind) (x:Nat→Int) (v:Int):∀ (n i j:Nat),j<n→(aAf k x i n).set j (.pv (.int k v))=aAf k (updA x ((i+j:Nat):Int) v) i n:=by
 intro n i j h
 apply List.ext_getElem?
 intro l
 by_cases hl:l<n
 ·rw [amF _ _ _ _ _ hl,List.getElem?_set]
  by_cases e:j=l
  ·subst e
   rw [if_pos rfl,if_pos (by rw [age];exact hl)]
   have:updA x ((i+j:Nat):Int) v (i+j)=v:=by
    unfold updA;rw [Int.toNat_natCast,show Nat.beq (i+j) (i+j)=true from Nat.beq_refl _];rfl
   rw [this]
  rw [if_neg e,amF _ _ _ _ _ hl]
  have:updA x ((i+j:Nat):Int) v (i+l)=x (i+l):=by
   unfold updA;rw [Int.toNat_natCast]
   cases hb:Nat.beq (i+l) (i+j) with
   |true=>have:=Nat.eq_of_beq_eq_true hb;omega
   |false=>rfl
  rw [this]
 rw [List.getElem?_eq_none (by rw [List.length_set,age];omega),List.getElem?_eq_none (by rw [age];omega)]
section
variable {G:Cfg}{C:qi}{m:Nat}{ops:Array Oper}{i:Nat}{ov:List (Nat×AV)}{H:List Blk}
theorem aiZ (sz:Nat) (k:IntKind) {j:Int}{c:Unit}{id off t n e:Nat}{s b:Nat}{ag:Bool}{z:List PV}{ei:TI}(ht:G.T t=some ⟨.array n e,s,b,ag,z⟩) (he:G.T e=some ei) (hs:ei.size=sz) (hc:ckI n j=some c) (ho:opL G C m ops i ov H=okV (qX G.T t (.ptr id off) (.pv (.int k j)))):
  opL G C m ops i ov H=some (.ok ⟨.ptr id (off+j.toNat * sz),[],[]⟩):=by
 rw [ho]
 subst hs
 unfold qX
 simp only [ht,he]
 rw [if_pos (anc hc)];rfl
theorem akP (x:Nat→Int) (pre post cells:List AV) {k:IntKind}{j:Int}{c:Unit}{t id off n:Nat}{ti:TI}{z:Bool}(ht:G.T t=some ti) (hs:ti.size=1) (ha:ti.agg=false) (hl:zw H id=some (.box cells z)) (hx:cells=pre++(aA k n x++post)) (hp:pre.length=off) (hc:ckI n j=some c)
  (ho:opL G C m ops i ov H=okV (agQ G.T t (.ptr id (off+j.toNat * 1)) (zw H))):opL G C m ops i ov H=some (.ok ⟨.pv (.int k (x j.toNat)),[],[]⟩):=by
 rw [ho]
 obtain ⟨h0,h1⟩:=anc hc
 have hj:j.toNat<n:=by omega
 unfold agQ
 simp only [ht,hl,Nat.mul_one]
 subst hx;subst hp
 have hlen:pre.length+j.toNat+1≤(pre++(aA k n x++post)).length:=by
  simp [aA,age];omega
 have hd:((pre++(aA k n x++post)).drop (pre.length+j.toNat)).take 1=[.pv (.int k (x j.toNat))]:=by
  apply List.ext_getElem?
  intro l
  rw [List.getElem?_take]
  split
  ·rename_i hl1
   obtain rfl:l=0:=by omega
   rw [List.getElem?_drop,List.getElem?_append_right hO,List.getElem?_append_left (by simp [aA,age];omega),aA,show pre.length+j.toNat+0-pre.length=j.toNat by omega,amF _ _ _ _ _ hj]
   simp
  rename_i hl1
  rw [List.getElem?_eq_none (by simp;omega)]
 unfold cut
 rw [hs,if_pos hlen,hZ,hd]
 simp [aiC,ha,okV]
theorem avX (x:Nat→Int) (pre post cells:List AV) {k:IntKind}{v j:Int}{c:Unit}{t id off n:Nat}{ti:TI}(ht:G.T t=some ti) (hs:ti.size=1) (hl:zw H id=some (.box cells false)) (hx:cells=pre++(aA k n x++post)) (hp:pre.length=off) (hc:ckI n j=some c)
  (ho:opL G C m ops i ov H=okE (acd G.T t (.ptr id (off+j.toNat * 1)) (.pv (.int k v)) (zw H))):opL G C m ops i ov H=some (.ok ⟨.undef,[(id,.box (pre++(aA k n (updA x j v)++post)) false)],[]⟩):=by
 rw [ho]
 obtain ⟨h0,h1⟩:=anc hc
 have hj:j.toNat<n:=by omega
 subst hx;subst hp
 have hlen:pre.length+j.toNat+1≤(pre++(aA k n x++post)).length:=by
  simp [aA,age];omega
 have he:adY (pre++(aA k n x++post)) (pre.length+j.toNat * 1) [.pv (.int k v)]=some (pre++(aA k n (updA x j v)++post)):=by
  unfold adY
  rw [if_pos (by simpa using hlen),Nat.mul_one]
  congr 1
  have e1:(pre++(aA k n x++post)).take (pre.length+j.toNat)++[AV.pv (.int k v)]++(pre++(aA k n x++post)).drop (pre.length+j.toNat+[AV.pv (.int k v)].length)=(pre++(aA k n x++post)).set (pre.length+j.toNat) (.pv (.int k v)):=by
   rw [List.set_eq_take_append_cons_drop,if_pos hO]
   simp
  rw [e1,List.set_append_right _ _ hO,show pre.length+j.toNat-pre.length=j.toNat by omega,List.set_append_left _ _ (by simp [aA,age];omega)]
  unfold aA
  rw [awb _ _ _ _ _ _ hj]
  congr 3
  congr 1
  omega
 unfold acd
 simp only [ht,AV.cells,hl]
 rw [if_pos (by rw [hs];rfl),he]
 rfl
end
theorem awP {look:Look}{cs:List AV}{ps:List PV}{R:AV}(h:afk (AV.pureOf look 4) cs=some ps) (e:AV.agg (ps.map .pv)=R):AV.puriRes look (.agg cs)=some R:=by
 subst e;exact awz h
end Go.Ab
