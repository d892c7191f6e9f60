import Derived.Test.YtejbcaheoloahaaGreatAbLift
import Derived.Test.YtejbcaheoloahaaGreatAbStr
set_option linter.all false
namespace Go.Ab
open Go
abbrev bR {α:Type}(e esz:Nat) (R:α→List PV) (l:List α) (fl fz:Nat):Blk:=.row e esz ⟨l.map R,0,fl,0,fz⟩
abbrev aR (id esz n:Nat):AV:=.ref id 0 n esz 0 n
def ckA (b n:Nat):Option Unit:=if n*b≤140737488355328∧n≤9223372036854775807 then some () else none
theorem akH {b n:Nat}{u:Unit}(h:ckA b n=some u):n*b≤140737488355328∧n≤9223372036854775807:=by
 unfold ckA at h
 split at h
 ·assumption
 cases h
section
variable {G:Cfg}{C:qi}{m:Nat}{ops:Array Oper}{i:Nat}{ov:List (Nat×AV)}{H:List Blk}
theorem aeG {α:Type}{R:α→List PV}{l:List α}{fl fz n:Nat}(hn:n=l.length) (hf:fl≤l.length):Row.valid ⟨l.map R,0,fl,0,fz⟩ 0 n=true:=by
 subst hn;simp [Row.valid,hf]
theorem abI {α:Type}{R:α→List PV}{l:List α}{id fl fz e esz k n:Nat}{look:Look}(hl:look id=some (bR e esz R l fl fz)) (hn:n=l.length) (hf:fl≤l.length):AV.pureOf look (k+1) (aR id esz n)=some (.sl (l.map R)):=by
 simp only [AV.pureOf,hl]
 rw [if_pos (by rw [aeG hn hf];subst hn;simp)]
 subst hn
 rw [List.drop_zero,List.take_of_length_le (by simp)]
theorem atP {α:Type}{R:α→List PV}{l:List α}{id fl fz e esz n o k:Nat}{look:Look}(hl:look id=some (bR e esz R l fl fz)) (hn:n=l.length) (hf:fl≤l.length) (hk:o+k≤l.length):rowsOf (.ref id 0 n esz o k) look=some (((l.drop o).take k).map R):=by
 simp only [rowsOf,hl]
 rw [if_pos (by rw [aeG hn hf];subst hn;simp [hk])]
 rw [List.map_take,List.map_drop]
theorem aqP {α:Type}{R:α→List PV}{l:List α}{id fl fz e esz n o k:Nat}{look:Look}(hl:look id=some (bR e esz R l fl fz)) (hn:n=l.length) (hf:fl≤l.length) (hk:o+k≤l.length):Zm (.ref id 0 n esz o k) look=some (((l.drop o).take k).map R):=atP hl hn hf hk
theorem afh {α:Type}{R:α→List PV}{s:Option (List α)}{look:Look}:Zm (.pv (zk R s)) look=some ((sll s).map R):=by cases s<;>rfl
theorem ahS {α:Type}(l:List α) {t e sz b id esz n:Nat}{ag:Bool}{z:List PV}(ht:G.T t=some ⟨.slice e,sz,b,ag,z⟩) (hn:n=l.length) (ho:opL G C m ops i ov H=Q7 G .len [t] [aR id esz n] (zw H) H.length):opL G C m ops i ov H=some (.ok ⟨.pv (.int .i64 (l.length:Int)),[],[]⟩):=by
 subst hn
 rw [ho]
 simp [Q7,ht,okV,aR,lenA]
theorem Q2 {α:Type}(l:List α) (k:IntKind) {x:α}{j:Int}{t e sz b id esz n:Nat}{ag:Bool}{z:List PV}{ei:TI}(ht:G.T t=some ⟨.slice e,sz,b,ag,z⟩) (he:G.T e=some ei) (h:idx l j=some x) (hn:n=l.length) (hs:esz=ei.size) (ho:opL G C m ops i ov H=okV (qX G.T t (aR id esz n) (.pv (.int k j)))):
  opL G C m ops i ov H=some (.ok ⟨.eptr id 0 n esz (0+j.toNat) 0,[],[]⟩):=by
 rw [ho]
 obtain ⟨h0,h⟩:=agI h
 have hlt:j.toNat<l.length:=(List.getElem?_eq_some_iff.1 h).1
 unfold qX
 simp only [ht,he]
 rw [if_pos h0,if_pos ⟨hO,hs⟩];rfl
theorem abF {α:Type}(R:α→List PV) (l:List α) {x:α}{j:Int}{t e id esz n off fl fz:Nat}{ti:TI}{v:AV}(ht:G.T t=some ti) (hl:zw H id=some (bR e esz R l fl fz)) (h:idx l j=some x) (hn:n=l.length) (hf:fl≤l.length)
  (hv:((cut (R x) off ti.size).bind fun r=>aiC ti.agg (r.map .pv))=some v) (ho:opL G C m ops i ov H=okV (agQ G.T t (.eptr id 0 n esz (0+j.toNat) off) (zw H))):opL G C m ops i ov H=some (.ok ⟨v,[],[]⟩):=by
 rw [ho]
 obtain ⟨h0,h⟩:=agI h
 have hlt:j.toNat<l.length:=(List.getElem?_eq_some_iff.1 h).1
 unfold agQ
 simp only [ht,hl,Nat.zero_add]
 rw [if_pos (by rw [aeG hn hf];subst hn;simp [hlt])]
 rw [List.getElem?_map,h]
 simp only [Option.map_some,hZ]
 rw [hv];rfl
theorem auS {α:Type}(R:α→List PV) (l:List α) (x':α) {x:α}{j:Int}{t e id esz n off fl:Nat}{ti:TI}{v:AV}{vs:List AV}{ps:List PV}(ht:G.T t=some ti) (hl:zw H id=some (bR e esz R l fl 0)) (h:idx l j=some x) (hn:n=l.length) (hf:fl≤l.length)
  (hc:v.cells=some vs) (hp:aco vs=some ps) (hs:vs.length=ti.size) (hx:adY (R x) off ps=some (R x')) (ho:opL G C m ops i ov H=okE (acd G.T t (.eptr id 0 n esz (0+j.toNat) off) v (zw H))):
  opL G C m ops i ov H=some (.ok ⟨.undef,[(id,bR e esz R (l.set j.toNat x') n 0)],[]⟩):=by
 rw [ho]
 obtain ⟨h0,h⟩:=agI h
 have hlt:j.toNat<l.length:=(List.getElem?_eq_some_iff.1 h).1
 unfold acd
 simp only [ht,hc,hl,Nat.zero_add]
 rw [if_pos hs,if_pos ⟨trivial,by subst hn;simp,hO,trivial,hO,trivial⟩]
 rw [List.getElem?_map,h,hp]
 simp only [Option.map_some,hx]
 simp only [okE,Option.map_some,bR,List.map_set]
theorem aa6 {α:Type}(R:α→List PV) (ys:List α) {y:AV}{t u e esz b:Nat}{sz bt:Nat}{ag:Bool}{z:List PV}{ei:TI}{c:Unit}(ht:G.T t=some ⟨.slice e,sz,bt,ag,z⟩) (he:G.T e=some ei) (hs:ei.size=esz) (h0:Nat.beq esz 0=false) (hb:ei.bytes=b) (hR:∀ x,(R x).length=esz) (hne:ys.isEmpty=false) (hck:ckA b ys.length=some c)
  (hy:Zm y (zw H)=some (ys.map R)) (ho:opL G C m ops i ov H=(Zm y (zw H)).bind fun rows=>okE (Qe G.T H.length t (.pv .nils) rows (zw H))):
  opL G C m ops i ov H=some (.ok ⟨aR H.length esz ys.length,[],[bR e esz R ys 0 0]⟩):=by
 rw [ho,hy,hZ]
 obtain ⟨c1,c2⟩:=akH hck
 rw [aq6 ht rfl he hs (by intro h;rw [h] at h0;cases h0) (by simp [hR]) (by rw [hb,List.length_map];exact c1) (by rw [List.length_map];exact c2) (by intro h;rw [List.map_eq_nil_iff] at h;rw [h] at hne;cases hne)]
 simp [okE,bR,aR]
theorem ala {α:Type}(R:α→List PV) (ys:List α) {y:AV}{t u e esz:Nat}{sz bt:Nat}{ag:Bool}{z:List PV}{ei:TI}(ht:G.T t=some ⟨.slice e,sz,bt,ag,z⟩) (he:G.T e=some ei) (hs:ei.size=esz) (h0:Nat.beq esz 0=false) (hne:ys.isEmpty=true)
  (hy:Zm y (zw H)=some (ys.map R)) (ho:opL G C m ops i ov H=(Zm y (zw H)).bind fun rows=>okE (Qe G.T H.length t (.pv .nils) rows (zw H))):
  opL G C m ops i ov H=some (.ok ⟨.pv .nils,[],[]⟩):=by
 rw [ho,hy,hZ]
 have:ys=[]:=by simpa using hne
 subst this
 unfold Qe
 simp only [ht,he]
 rw [if_pos ⟨(by rw [hs];intro h;rw [h] at h0;cases h0),rfl⟩]
 rfl
theorem qV {α:Type}(R:α→List PV) (l ys:List α) {y:AV}{id n fl fz t u e esz b:Nat}{sz bt:Nat}{ag:Bool}{z:List PV}{ei:TI}{c:Unit}(ht:G.T t=some ⟨.slice e,sz,bt,ag,z⟩) (he:G.T e=some ei) (hs:ei.size=esz) (h0:Nat.beq esz 0=false) (hb:ei.bytes=b) (hR:∀ x,(R x).length=esz) (hne:ys.isEmpty=false) (hck:ckA b (l++ys).length=some c)
  (hl:zw H id=some (bR e esz R l fl fz)) (hn:n=l.length) (hf:fl≤l.length) (hy:Zm y (zw H)=some (ys.map R)) (ho:opL G C m ops i ov H=(Zm y (zw H)).bind fun rows=>okE (Qe G.T H.length t (aR id esz n) rows (zw H))):
  opL G C m ops i ov H=some (.ok ⟨aR id esz (l++ys).length,[(id,bR e esz R (l++ys) fl fz)],[]⟩):=by
 rw [ho,hy,hZ]
 obtain ⟨c1,c2⟩:=akH hck
 rw [List.length_append] at c1 c2
 subst hn
 have hc:ag7 ⟨l.map R,0,fl,0,fz⟩ 0 l.length:=⟨aeG rfl hf,.inl ⟨rfl,by simp⟩⟩
 rw [al4 ht rfl he hs (by intro h;rw [h] at h0;cases h0) (by simp [hR]) hl hc (by rw [hb,List.length_map];exact c1) (by rw [List.length_map];exact c2) (by intro h;rw [List.map_eq_nil_iff] at h;rw [h] at hne;cases hne)]
 have hg:Go.Ab.grow (⟨l.map R,0,fl,0,fz⟩:Row) 0 l.length (ys.map R)=(⟨l.map R++ys.map R,0,fl,0,fz⟩,0):=by
  unfold Go.Ab.grow
  rw [if_pos ⟨rfl,by simp⟩]
 rw [hg]
 simp [okE,bR,aR]
theorem ai4 {α:Type}(R:α→List PV) (l ys:List α) {y:AV}{id n fl fz t u e esz b:Nat}{sz bt:Nat}{ag:Bool}{z:List PV}{ei:TI}{c:Unit}(ht:G.T t=some ⟨.slice e,sz,bt,ag,z⟩) (he:G.T e=some ei) (hs:ei.size=esz) (h0:Nat.beq esz 0=false) (hb:ei.bytes=b) (hne:ys.isEmpty=true) (hck:ckA b l.length=some c)
  (hl:zw H id=some (bR e esz R l fl fz)) (hn:n=l.length) (hf:fl≤l.length) (hy:Zm y (zw H)=some (ys.map R)) (ho:opL G C m ops i ov H=(Zm y (zw H)).bind fun rows=>okE (Qe G.T H.length t (aR id esz n) rows (zw H))):
  opL G C m ops i ov H=some (.ok ⟨aR id esz n,[],[]⟩):=by
 rw [ho,hy,hZ]
 obtain ⟨c1,c2⟩:=akH hck
 have:ys=[]:=by simpa using hne
 subst this
 subst hn
 rw [List.map_nil,ajz ht rfl he hs (by intro h;rw [h] at h0;cases h0) hl (aeG rfl hf) (by rw [hb];exact c1) c2]
 rfl
def ckN (b:Int):Option Unit:=if b<0 then none else some ()
theorem shlO {k:IntKind}{a b:Int}{u:Unit}(h:ckN b=some u) (ho:opL G C m ops i ov H=okV (agT .shl k a b)):opL G C m ops i ov H=some (.ok ⟨.pv (.int k (iShl k a b)),[],[]⟩):=by
 unfold ckN at h
 split at h
 ·cases h
 rename_i hb
 rw [ho];unfold agT;rw [if_neg hb];rfl
theorem aq4 {α:Type}(R:α→List PV) (s:Option (List α)) {t e sz bt:Nat}{ag:Bool}{z:List PV}(ht:G.T t=some ⟨.slice e,sz,bt,ag,z⟩) (ho:opL G C m ops i ov H=okV (aBin (some (.slice e)) (G.E t) .eql (.pv (zk R s)) (.pv .nils))):opL G C m ops i ov H=some (.ok ⟨.pv (.bool s.isNone),[],[]⟩):=by
 rw [ho];cases s<;>rfl
def ckM (b:Nat) (n c:Int):Option Unit:=if 0≤n∧n≤c∧c*b≤140737488355328∧c≤9223372036854775807 then some () else none
theorem makeO {α:Type}(R:α→List PV) (z0:α) {n c:Int}{k k':IntKind}{t e esz b sz bt:Nat}{ag:Bool}{z:List PV}{ei:TI}{u:Unit}(ht:G.T t=some ⟨.slice e,sz,bt,ag,z⟩) (he:G.T e=some ei) (hs:ei.size=esz) (h0:Nat.beq esz 0=false) (hb:ei.bytes=b) (hz:ei.zero=R z0) (hck:ckM b n c=some u)
  (ho:opL G C m ops i ov H=okE (aeF G.T H.length t (.pv (.int k n)) (.pv (.int k' c)))):opL G C m ops i ov H=some (.ok ⟨aR H.length esz (List.replicate n.toNat z0).length,[],[bR e esz R (List.replicate n.toNat z0) 0 0]⟩):=by
 rw [ho]
 unfold ckM at hck
 split at hck
 ·rename_i h
  unfold aeF
  simp only [ht,he]
  have:ei.size≠0:=by rw [hs];intro h;rw [h] at h0;cases h0
  rw [if_pos ⟨this,h.1,h.2.1,by rw [hb];exact h.2.2.1,h.2.2.2⟩]
  simp [okE,bR,aR,hs,hz]
 cases hck
def ckB (lo hi n:Int):Option Unit:=if 0≤lo∧lo≤hi∧hi≤n then some () else none
theorem abO {lo hi n:Int}{u:Unit}(h:ckB lo hi n=some u):0≤lo∧lo≤hi∧hi≤n:=by
 unfold ckB at h
 split at h
 ·assumption
 cases h
def subL {α:Type}(l:List α) (lo hi:Int):List α:=(l.drop lo.toNat).take (hi.toNat-lo.toNat)
def awg {α:Type}(s:Option (List α)) (lo hi:Int):Option (List α):=s.map fun l=>subL l lo hi
theorem anl {x:Option AV}{k:IntKind}{lo:Int}(h:x=none∧lo=0∨x=some (.pv (.int k lo))) (h0:0≤lo):bound x 0=some lo.toNat:=by
 rcases h with ⟨rfl,rfl⟩|rfl
 ·rfl
 simp only [bound];rw [if_pos h0]
theorem akx {x:Option AV}{k:IntKind}{hi:Int}{n:Nat}(h:x=none∧hi=(n:Int)∨x=some (.pv (.int k hi))) (h0:0≤hi):bound x n=some hi.toNat:=by
 rcases h with ⟨rfl,rfl⟩|rfl
 ·simp [bound]
 simp only [bound];rw [if_pos h0]
def auz (esz:Nat) (v:AV) (lo hi:Option AV):Option Res:=match v with
 |.pv (.str _)=>none
 |v=>okV (ab9 esz v lo hi)
theorem aud {α:Type}(R:α→List PV) (s:Option (List α)) {lo hi:Int}{xl xh:Option AV}{k k':IntKind}{esz:Nat}{u:Unit}(hck:ckB lo hi ((sll s).length:Int)=some u) (hR:∀ x,(R x).length=esz) (h1:xl=none∧lo=0∨xl=some (.pv (.int k lo))) (h2:xh=none∧hi=((sll s).length:Int)∨xh=some (.pv (.int k' hi)))
  (ho:opL G C m ops i ov H=auz esz (.pv (zk R s)) xl xh):opL G C m ops i ov H=some (.ok ⟨.pv (zk R (awg s lo hi)),[],[]⟩):=by
 have e0:auz esz (.pv (zk R s)) xl xh=okV (ab9 esz (.pv (zk R s)) xl xh):=by cases s<;>rfl
 rw [ho,e0]
 obtain ⟨a,b,c⟩:=abO hck
 unfold ab9
 have hl:lenA (.pv (zk R s))=some (sll s).length:=by cases s<;>simp [lenA,zk,sll]
 rw [hl]
 simp only
 rw [anl h1 a,akx h2 hO]
 simp only
 rw [if_pos ⟨hO,hO⟩]
 cases s with
 |none=>rfl
 |some l=>
  simp only [zk,awg,Option.map_some,subL,sll] at *
  by_cases he:hi.toNat=lo.toNat
  ·rw [if_pos he,he];simp [okV]
  rw [if_neg he]
  have hlt:lo.toNat<l.length:=by omega
  rw [if_pos (by rw [List.getElem?_map,List.getElem?_eq_getElem hlt];simp [hR])]
  simp [okV,List.map_drop,List.map_take]
theorem aic {α:Type}(R:α→List PV) {lo hi:Int}{xl xh:Option AV}{k k':IntKind}{esz:Nat}{u:Unit}(hck:ckB lo hi 0=some u) (hR:∀ x,(R x).length=esz) (h1:xl=none∧lo=0∨xl=some (.pv (.int k lo))) (h2:xh=none∧hi=0∨xh=some (.pv (.int k' hi)))
  (ho:opL G C m ops i ov H=okV (ab9 esz (.pv .nils) xl xh)):opL G C m ops i ov H=some (.ok ⟨.pv .nils,[],[]⟩):=
 aud (k:=k) (k':=k') R none (by exact hck) hR h1 (by exact h2) ho
theorem akJ {t len nid:Nat}{is:List Nat}{vs:List AV}{ps:List AV}{R:List Nat}{e:Eff}(hR:reach (zw H) qd (AV.idsL vs) []=R) (hp:acO (fun i=>if R.contains i then zw H i else none) vs=some ps) (hb:abi G.T H.length t len (is.zip ps)=some e)
  (ho:opL G C m ops i ov H=okE (aaQ G.T H.length t len is vs (zw H))):opL G C m ops i ov H=some (.ok ⟨e.val,ZI (zw H) R,e.new⟩):=by
 rw [ho]
 subst hR
 unfold aaQ
 simp only [hp,hZ,hb,Option.map_some,okE]
end
section
variable {G:Cfg}{C:qi}{m:Nat}{ops:Array Oper}{i:Nat}{ov:List (Nat×AV)}{H H':List Blk}{Q:Ex→List AV→List Blk→List Seen→Prop}
def asu (look:Look) (args:List AV) (R:List Nat):Option (List AV×List Blk):=match AV.renL (placeOf R) args,(getAll look R).bind (aaq (placeOf R)) with
 |some as,some bs=>some (as,bs)
 |_,_=>none
def auH (R:List Nat) (nid:Nat) (v:AV) (bs:List Blk):Option Eff:=match aaq (alu R nid) bs,v.ren (alu R nid) with
 |some bs',some v'=>some ⟨v',acW R bs',bs'.drop R.length⟩
 |_,_=>none
theorem cref {f:Nat}(R:List Nat) (args:List AV) {as:List AV}{bs1 bs2:List Blk}{v:AV}{e:Eff}(ho:opL G C m ops i ov H=ad6 C f args (zw H) H.length) (hR:reach (zw H) qd (AV.idsL args) []=R) (hA:asu (zw H) args R=some (as,bs1)) (hC:C f as bs1=some (.ret v,bs2)) (hE:auH R H.length v bs2=some e):
  opL G C m ops i ov H=some (.ok e):=by
 rw [ho]
 unfold asu at hA
 unfold auH at hE
 split at hA
 ·rename_i a b h1 h2
  cases hA
  obtain ⟨b0,h2,h3⟩:=ji.1 h2
  split at hE
  ·rename_i b3 v' h4 h5
   cases hE
   rw [ary hR h1 h2 h3 hC h4 h5 rfl rfl]
  cases hE
 cases hA
def exitP (m:Nat) (ops:Array Oper) (i:Nat) (ov:List (Nat×AV)) (H:List Blk) (e:Option Eff):Option (List (Nat×AV)×List Blk):=e.bind (aoc m ops i ov H)
theorem dR (nw:List (Nat×AV)) (H':List Blk) {f:Nat}(R:List Nat) (args:List AV) {as:List AV}{bs1 bs2:List Blk}{v:AV}(ho:opL G C m ops i ov H=ad6 C f args (zw H) H.length) (hR:reach (zw H) qd (AV.idsL args) []=R) (hA:asu (zw H) args R=some (as,bs1)) (hC:C f as bs1=some (.ret v,bs2))
  (hp:exitP m ops i ov H (auH R H.length v bs2)=some (nw++ov,H')) (h:RV G C m ops (i+1) (nw++ov) H' none Q):RV G C m ops i ov H none Q:=by
 obtain ⟨e,hE,hp⟩:=ji.1 hp
 exact aqN (cref R args ho hR hA hC hE) hp h
theorem cownR {f:Nat}{args ps:List AV}{v:AV}{bs:List Blk}{look:Look}{nid:Nat}{R:List Nat}(hR:reach look qd (AV.idsL args) []=R) (hp:acO (fun i=>if R.contains i then look i else none) args=some ps) (hC:C f ps []=some (.ret v,bs)) (hb:(v.flat&&bs.isEmpty)=false) {v':AV}{bs':List Blk}(hv:(v.ren fun i=>some (nid+i))=some v') (hbs:aaq (fun i=>some (nid+i)) bs=some bs'):
  QH C f args look nid=some (.ok ⟨v',ZI look R,bs'⟩):=by
 subst hR
 unfold QH
 simp only [hp,hZ,hC,hb,Bool.false_eq_true,if_false,hv,hbs,Option.map_some]
theorem awn {f:Nat}(R:List Nat) (args:List AV) {ps:List AV}{v v':AV}{bs bs':List Blk}(ho:opL G C m ops i ov H=QH C f args (zw H) H.length) (hR:reach (zw H) qd (AV.idsL args) []=R) (hp:acO (fun i=>if R.contains i then zw H i else none) args=some ps) (hC:C f ps []=some (.ret v,bs)) (hb:(v.flat&&bs.isEmpty)=false)
 (hv:(v.ren fun i=>some (H.length+i))=some v') (hbs:aaq (fun i=>some (H.length+i)) bs=some bs'):opL G C m ops i ov H=some (.ok ⟨v',ZI (zw H) R,bs'⟩):=ho.trans (cownR hR hp hC hb hv hbs)
theorem avm {v v':AV}{H:List Blk}(h:AV.puriRes (zw H) v=some v'):leave .pure 0 v H=some (v',[]):=by
 simp only [leave,h,hZ,if_true]
theorem akY {look:Look}{vs vs':List AV}(h:acO look vs=some vs'):AV.puriRes look (.tup vs)=some (.tup vs'):=by
 simp only [AV.puriRes,h,Option.map_some]
theorem aa2 {f:Nat}{fn:Func}{ex:Ex}{t:List AV}{HH:List Blk}{v v':AV}(hex:match ex with
  |.normal|.ret=>True
  |_=>False) (hm:G.M f=.pure) (hr:(afR G ⟨t,HH⟩ fn.results.toList).map al5=some v) (hp:AV.puriRes (zw HH) v=some v'):RetQ G f fn 0 v' [] ex t HH:=by
 refine ⟨hex,?_⟩
 rw [jh] at hr
 obtain ⟨vs,h1,h2⟩:=hr
 rw [h1,hZ,h2,hm]
 exact avm hp
def RetE (G:Cfg) (f:Nat) (fn:Func) (n0:Nat) (P:AV→List Blk→Prop):Ex→List AV→List Blk→Prop:=fun ex t HH=>(match ex with
 |.normal|.ret=>True
 |_=>False)∧∃ v H',((afR G ⟨t,HH⟩ fn.results.toList).bind fun vs=>leave (G.M f) n0 (al5 vs) HH)=some (v,H')∧P v H'
theorem QM {f n:Nat}{fn:Func}{c:Code}{args:List AV}{P:AV→List Blk→Prop}(m:Nat) (ov:List (Nat×AV)) (hf:G.P.funcs[f]?=some fn) (hb:fn.body=some c) (ht:args++List.replicate (fn.ntmps-args.length) .any=mk m ov)
  (h:WP (exec G (call G n) f n c none ⟨mk m ov,H⟩) (RetE G f fn H.length P)):
  ∃ v H',call G (n+1) f args H=some (.ret v,H')∧P v H':=by
 obtain ⟨ex,tt,HH,e,hex,v,H',hr,hP⟩:=h
 obtain ⟨vs,h1,h2⟩:=ji.1 hr
 refine ⟨v,H',?_,hP⟩
 simp only [call,hf,hb,ht,e]
 cases ex<;>simp only at hex<;>simp only [h1,hZ,h2,Option.map_some]
end
end Go.Ab
