import Derived.Test.YtejbcaheoloahaaGreatAbLift
import Derived.Test.YtejbcaheoloahaaGreatAbStr
set_option linter.unusedVariables false
set_option linter.unusedSimpArgs false
namespace Go.Ab
open Go
abbrev bR {α:Type} (e esz:Nat) (R:α→List PV) (l:List α) (fl fz:Nat):Blk:=.row e esz ⟨l.map R,0,fl,0,fz⟩
abbrev aR (id esz n:Nat):AV:=.ref id 0 n esz 0 n
def ckA (b n:Nat):Option Unit:=if n * b≤140737488355328∧n≤9223372036854775807 then some () else none
theorem ag6 {b n:Nat} {u:Unit} (h:ckA b n=some u):n * b≤140737488355328∧n≤9223372036854775807:=by
  unfold ckA at h
  split at h
  · assumption
  · cases h
section
variable {G:Cfg} {C:Z2} {m:Nat} {ops:Array Oper} {i:Nat} {ov:List (Nat × AV)} {H:List Blk}
theorem abX {α:Type} {R:α→List PV} {l:List α} {fl fz n:Nat} (hn:n=l.length) (hf:fl≤l.length):Row.valid ⟨l.map R,0,fl,0,fz⟩ 0 n=true:=by
  subst hn; simp [Row.valid,hf]
theorem ack {α:Type} {R:α→List PV} {l:List α} {id fl fz e esz k n:Nat} {look:Look} (hl:look id=some (bR e esz R l fl fz)) (hn:n=l.length) (hf:fl≤l.length):AV.pureOf look (k+1) (aR id esz n)=some (.sl (l.map R)):=by
  simp only [AV.pureOf,hl]
  rw [if_pos (by rw [abX hn hf]; subst hn; simp)]
  subst hn
  rw [List.drop_zero,List.take_of_length_le (by simp)]
theorem ans {α:Type} {R:α→List PV} {l:List α} {id fl fz e esz n o k:Nat} {look:Look} (hl:look id=some (bR e esz R l fl fz)) (hn:n=l.length) (hf:fl≤l.length) (hk:o+k≤l.length):rowsOf (.ref id 0 n esz o k) look=some (((l.drop o).take k).map R):=by
  simp only [rowsOf,hl]
  rw [if_pos (by rw [abX hn hf]; subst hn; simp [hk])]
  rw [List.map_take,List.map_drop]
theorem alg {α:Type} {R:α→List PV} {l:List α} {id fl fz e esz n o k:Nat} {look:Look} (hl:look id=some (bR e esz R l fl fz)) (hn:n=l.length) (hf:fl≤l.length) (hk:o+k≤l.length):ZE (.ref id 0 n esz o k) look=some (((l.drop o).take k).map R):=ans hl hn hf hk
theorem ada {α:Type} {R:α→List PV} {s:Option (List α)} {look:Look}:ZE (.pv (zc R s)) look=some ((sll s).map R):=by cases s <;> rfl
theorem aeC {α:Type} (l:List α) {t e sz b id esz n:Nat} {ag:Bool} {z:List PV} (ht:G.T t=some ⟨.slice e,sz,b,ag,z⟩) (hn:n=l.length) (ho:opL G C m ops i ov H=Qv G .len [t] [aR id esz n] (zo H) H.length):opL G C m ops i ov H=some (.ok ⟨.pv (.int .i64 (l.length:Int)),[],[]⟩):=by
  subst hn
  rw [ho]
  simp [Qv,ht,okV,aR,lenA]
theorem QQ {α:Type} (l:List α) (k:IntKind) {x:α} {j:Int} {t e sz b id esz n:Nat} {ag:Bool} {z:List PV} {ei:TI} (ht:G.T t=some ⟨.slice e,sz,b,ag,z⟩) (he:G.T e=some ei) (h:idx l j=some x) (hn:n=l.length) (hs:esz=ei.size) (ho:opL G C m ops i ov H=okV (qP G.T t (aR id esz n) (.pv (.int k j)))):
    opL G C m ops i ov H=some (.ok ⟨.eptr id 0 n esz (0+j.toNat) 0,[],[]⟩):=by
  rw [ho]
  obtain ⟨h0,h⟩:=afD h
  have hlt:j.toNat < l.length:=(List.getElem?_eq_some_iff.1 h).1
  unfold qP
  simp only [ht,he]
  rw [if_pos h0,if_pos ⟨by omega,hs⟩]; rfl
theorem abk {α:Type} (R:α→List PV) (l:List α) {x:α} {j:Int} {t e id esz n off fl fz:Nat} {ti:TI} {v:AV} (ht:G.T t=some ti) (hl:zo H id=some (bR e esz R l fl fz)) (h:idx l j=some x) (hn:n=l.length) (hf:fl≤l.length)
    (hv:((cut (R x) off ti.size).bind fun r=>agb ti.agg (r.map .pv))=some v) (ho:opL G C m ops i ov H=okV (afd G.T t (.eptr id 0 n esz (0+j.toNat) off) (zo H))):opL G C m ops i ov H=some (.ok ⟨v,[],[]⟩):=by
  rw [ho]
  obtain ⟨h0,h⟩:=afD h
  have hlt:j.toNat < l.length:=(List.getElem?_eq_some_iff.1 h).1
  unfold afd
  simp only [ht,hl,Nat.zero_add]
  rw [if_pos (by rw [abX hn hf]; subst hn; simp [hlt])]
  rw [List.getElem?_map,h]
  simp only [Option.map_some,Option.bind_some]
  rw [hv]; rfl
theorem aey {α:Type} (R:α→List PV) (ys:List α) {y:AV} {t u e esz b:Nat} {sz bt:Nat} {ag:Bool} {z:List PV} {ei:TI} {c:Unit} (ht:G.T t=some ⟨.slice e,sz,bt,ag,z⟩) (he:G.T e=some ei) (hs:ei.size=esz) (h0:Nat.beq esz 0=false) (hb:ei.bytes=b) (hR:∀ x,(R x).length=esz) (hne:ys.isEmpty=false) (hck:ckA b ys.length=some c)
    (hy:ZE y (zo H)=some (ys.map R)) (ho:opL G C m ops i ov H=(ZE y (zo H)).bind fun rows=>okE (qD G.T H.length t (.pv .nils) rows (zo H))):
    opL G C m ops i ov H=some (.ok ⟨aR H.length esz ys.length,[],[bR e esz R ys 0 0]⟩):=by
  rw [ho,hy,Option.bind_some]
  obtain ⟨c1,c2⟩:=ag6 hck
  rw [ak9 ht rfl he hs (by intro h; rw [h] at h0; cases h0) (by simp [hR]) (by rw [hb,List.length_map]; exact c1) (by rw [List.length_map]; exact c2) (by intro h; rw [List.map_eq_nil_iff] at h; rw [h] at hne; cases hne)]
  simp [okE,bR,aR]
theorem anp {α:Type} (R:α→List PV) (ys:List α) {y:AV} {t u e esz:Nat} {sz bt:Nat} {ag:Bool} {z:List PV} {ei:TI} (ht:G.T t=some ⟨.slice e,sz,bt,ag,z⟩) (he:G.T e=some ei) (hs:ei.size=esz) (h0:Nat.beq esz 0=false) (hne:ys.isEmpty=true)
    (hy:ZE y (zo H)=some (ys.map R)) (ho:opL G C m ops i ov H=(ZE y (zo H)).bind fun rows=>okE (qD G.T H.length t (.pv .nils) rows (zo H))):
    opL G C m ops i ov H=some (.ok ⟨.pv .nils,[],[]⟩):=by
  rw [ho,hy,Option.bind_some]
  have:ys=[]:=by simpa using hne
  subst this
  unfold qD
  simp only [ht,he]
  rw [if_pos ⟨(by rw [hs]; intro h; rw [h] at h0; cases h0),rfl⟩]
  rfl
theorem Qp {α:Type} (R:α→List PV) (l ys:List α) {y:AV} {id n fl fz t u e esz b:Nat} {sz bt:Nat} {ag:Bool} {z:List PV} {ei:TI} {c:Unit} (ht:G.T t=some ⟨.slice e,sz,bt,ag,z⟩) (he:G.T e=some ei) (hs:ei.size=esz) (h0:Nat.beq esz 0=false) (hb:ei.bytes=b) (hR:∀ x,(R x).length=esz) (hne:ys.isEmpty=false) (hck:ckA b (l++ys).length=some c)
    (hl:zo H id=some (bR e esz R l fl fz)) (hn:n=l.length) (hf:fl≤l.length) (hy:ZE y (zo H)=some (ys.map R)) (ho:opL G C m ops i ov H=(ZE y (zo H)).bind fun rows=>okE (qD G.T H.length t (aR id esz n) rows (zo H))):
    opL G C m ops i ov H=some (.ok ⟨aR id esz (l++ys).length,[(id,bR e esz R (l++ys) fl fz)],[]⟩):=by
  rw [ho,hy,Option.bind_some]
  obtain ⟨c1,c2⟩:=ag6 hck
  rw [List.length_append] at c1 c2
  subst hn
  have hc:aeH ⟨l.map R,0,fl,0,fz⟩ 0 l.length:=⟨abX rfl hf,.inl ⟨rfl,by simp⟩⟩
  rw [ahI ht rfl he hs (by intro h; rw [h] at h0; cases h0) (by simp [hR]) hl hc (by rw [hb,List.length_map]; exact c1) (by rw [List.length_map]; exact c2) (by intro h; rw [List.map_eq_nil_iff] at h; rw [h] at hne; cases hne)]
  have hg:Go.Ab.grow (⟨l.map R,0,fl,0,fz⟩:Row) 0 l.length (ys.map R)=(⟨l.map R++ys.map R,0,fl,0,fz⟩,0):=by
    unfold Go.Ab.grow
    rw [if_pos ⟨rfl,by simp⟩]
  rw [hg]
  simp [okE,bR,aR]
theorem adu {α:Type} (R:α→List PV) (l ys:List α) {y:AV} {id n fl fz t u e esz b:Nat} {sz bt:Nat} {ag:Bool} {z:List PV} {ei:TI} {c:Unit} (ht:G.T t=some ⟨.slice e,sz,bt,ag,z⟩) (he:G.T e=some ei) (hs:ei.size=esz) (h0:Nat.beq esz 0=false) (hb:ei.bytes=b) (hne:ys.isEmpty=true) (hck:ckA b l.length=some c)
    (hl:zo H id=some (bR e esz R l fl fz)) (hn:n=l.length) (hf:fl≤l.length) (hy:ZE y (zo H)=some (ys.map R)) (ho:opL G C m ops i ov H=(ZE y (zo H)).bind fun rows=>okE (qD G.T H.length t (aR id esz n) rows (zo H))):
    opL G C m ops i ov H=some (.ok ⟨aR id esz n,[],[]⟩):=by
  rw [ho,hy,Option.bind_some]
  obtain ⟨c1,c2⟩:=ag6 hck
  have:ys=[]:=by simpa using hne
  subst this
  subst hn
  rw [List.map_nil,af8 ht rfl he hs (by intro h; rw [h] at h0; cases h0) hl (abX rfl hf) (by rw [hb]; exact c1) c2]
  rfl
def ckN (b:Int):Option Unit:=if b < 0 then none else some ()
theorem shlO {k:IntKind} {a b:Int} {u:Unit} (h:ckN b=some u) (ho:opL G C m ops i ov H=okV (aes .shl k a b)):opL G C m ops i ov H=some (.ok ⟨.pv (.int k (iShl k a b)),[],[]⟩):=by
  unfold ckN at h
  split at h
  · cases h
  · rename_i hb
    rw [ho]; unfold aes; rw [if_neg hb]; rfl
def ckZ (b:Int):Option Unit:=if b=0 then none else some ()
theorem remO {k:IntKind} {a b:Int} {u:Unit} (h:ckZ b=some u) (ho:opL G C m ops i ov H=okV (ajd .rem k a b)):opL G C m ops i ov H=some (.ok ⟨.pv (.int k (a.tmod b)),[],[]⟩):=by
  unfold ckZ at h
  split at h
  · cases h
  · rename_i hb
    rw [ho]; unfold ajd; simp only; rw [if_neg hb]; rfl
theorem alv {α:Type} (R:α→List PV) (s:Option (List α)) {t e sz bt:Nat} {ag:Bool} {z:List PV} (ht:G.T t=some ⟨.slice e,sz,bt,ag,z⟩) (ho:opL G C m ops i ov H=okV (aBin (some (.slice e)) (G.E t) .eql (.pv (zc R s)) (.pv .nils))):opL G C m ops i ov H=some (.ok ⟨.pv (.bool s.isNone),[],[]⟩):=by
  rw [ho]; cases s <;> rfl
def ckB (lo hi n:Int):Option Unit:=if 0≤lo∧lo≤hi∧hi≤n then some () else none
theorem Q8 {lo hi n:Int} {u:Unit} (h:ckB lo hi n=some u):0≤lo∧lo≤hi∧hi≤n:=by
  unfold ckB at h
  split at h
  · assumption
  · cases h
def subL {α:Type} (l:List α) (lo hi:Int):List α:=(l.drop lo.toNat).take (hi.toNat - lo.toNat)
def qw {α:Type} (s:Option (List α)) (lo hi:Int):Option (List α):=s.map fun l=>subL l lo hi
theorem agU {x:Option AV} {k:IntKind} {lo:Int} (h:x=none∧lo=0∨x=some (.pv (.int k lo))) (h0:0≤lo):bound x 0=some lo.toNat:=by
  rcases h with ⟨rfl,rfl⟩ | rfl
  · rfl
  · simp only [bound]; rw [if_pos h0]
theorem afj {x:Option AV} {k:IntKind} {hi:Int} {n:Nat} (h:x=none∧hi=(n:Int)∨x=some (.pv (.int k hi))) (h0:0≤hi):bound x n=some hi.toNat:=by
  rcases h with ⟨rfl,rfl⟩ | rfl
  · simp [bound]
  · simp only [bound]; rw [if_pos h0]
def ao6 (esz:Nat) (v:AV) (lo hi:Option AV):Option Res:=match v with
  | .pv (.str _)=>none
  | v=>okV (aaC esz v lo hi)
theorem afP {α:Type} (R:α→List PV) (s:Option (List α)) {lo hi:Int} {xl xh:Option AV} {k k':IntKind} {esz:Nat} {u:Unit} (hck:ckB lo hi ((sll s).length:Int)=some u) (hR:∀ x,(R x).length=esz) (h1:xl=none∧lo=0∨xl=some (.pv (.int k lo))) (h2:xh=none∧hi=((sll s).length:Int)∨xh=some (.pv (.int k' hi)))
    (ho:opL G C m ops i ov H=ao6 esz (.pv (zc R s)) xl xh):opL G C m ops i ov H=some (.ok ⟨.pv (zc R (qw s lo hi)),[],[]⟩):=by
  have e0:ao6 esz (.pv (zc R s)) xl xh=okV (aaC esz (.pv (zc R s)) xl xh):=by cases s <;> rfl
  rw [ho,e0]
  obtain ⟨a,b,c⟩:=Q8 hck
  unfold aaC
  have hl:lenA (.pv (zc R s))=some (sll s).length:=by cases s <;> simp [lenA,zc,sll]
  rw [hl]
  simp only
  rw [agU h1 a,afj h2 (by omega)]
  simp only
  rw [if_pos ⟨by omega,by omega⟩]
  cases s with
  | none=>rfl
  | some l=>
    simp only [zc,qw,Option.map_some,subL,sll] at *
    by_cases he:hi.toNat=lo.toNat
    · rw [if_pos he,he]; simp [okV]
    · rw [if_neg he]
      have hlt:lo.toNat < l.length:=by omega
      rw [if_pos (by rw [List.getElem?_map,List.getElem?_eq_getElem hlt]; simp [hR])]
      simp [okV,List.map_drop,List.map_take]
theorem ae2 {α:Type} (R:α→List PV) {lo hi:Int} {xl xh:Option AV} {k k':IntKind} {esz:Nat} {u:Unit} (hck:ckB lo hi 0=some u) (hR:∀ x,(R x).length=esz) (h1:xl=none∧lo=0∨xl=some (.pv (.int k lo))) (h2:xh=none∧hi=0∨xh=some (.pv (.int k' hi)))
    (ho:opL G C m ops i ov H=okV (aaC esz (.pv .nils) xl xh)):opL G C m ops i ov H=some (.ok ⟨.pv .nils,[],[]⟩):=
  afP (k:=k) (k':=k') R none (by exact hck) hR h1 (by exact h2) ho
theorem ama {α:Type} (l:List α) {lo hi:Int} {xl xh:Option AV} {k k':IntKind} {esz id n:Nat} {u:Unit} (hck:ckB lo hi (l.length:Int)=some u) (hn:n=l.length) (h1:xl=none∧lo=0∨xl=some (.pv (.int k lo))) (h2:xh=none∧hi=(l.length:Int)∨xh=some (.pv (.int k' hi)))
    (ho:opL G C m ops i ov H=okV (aaC esz (aR id esz n) xl xh)):opL G C m ops i ov H=some (.ok ⟨.ref id 0 n esz lo.toNat (hi.toNat - lo.toNat),[],[]⟩):=by
  rw [ho]
  subst hn
  obtain ⟨a,b,c⟩:=Q8 hck
  unfold aaC
  simp only [lenA]
  rw [agU h1 a,afj h2 (by omega)]
  simp only
  rw [if_pos ⟨by omega,by omega⟩]
  simp [okV]
end
section
variable {G:Cfg} {C:Z2} {m:Nat} {ops:Array Oper} {i:Nat} {ov:List (Nat × AV)} {H H':List Blk} {Q:Ex→List AV→List Blk→List Seen→Prop}
def amD (look:Look) (args:List AV) (R:List Nat):Option (List AV × List Blk):=match AV.renL (placeOf R) args,(getAll look R).bind (QO (placeOf R)) with
  | some as,some bs=>some (as,bs)
  | _,_=>none
def ao2 (R:List Nat) (nid:Nat) (v:AV) (bs:List Blk):Option Eff:=match QO (ahp R nid) bs,v.ren (ahp R nid) with
  | some bs',some v'=>some ⟨v',abz R bs',bs'.drop R.length⟩
  | _,_=>none
theorem cref {f:Nat} (R:List Nat) (args:List AV) {as:List AV} {bs1 bs2:List Blk} {v:AV} {e:Eff} (ho:opL G C m ops i ov H=acn C f args (zo H) H.length) (hR:reach (zo H) ZX (AV.idsL args) []=R) (hA:amD (zo H) args R=some (as,bs1)) (hC:C f as bs1=some (.ret v,bs2)) (hE:ao2 R H.length v bs2=some e):
    opL G C m ops i ov H=some (.ok e):=by
  rw [ho]
  unfold amD at hA
  unfold ao2 at hE
  split at hA
  · rename_i a b h1 h2
    cases hA
    obtain ⟨b0,h2,h3⟩:=Option.bind_eq_some_iff.1 h2
    split at hE
    · rename_i b3 v' h4 h5
      cases hE
      rw [alR hR h1 h2 h3 hC h4 h5 rfl rfl]
    · cases hE
  · cases hA
def exitP (m:Nat) (ops:Array Oper) (i:Nat) (ov:List (Nat × AV)) (H:List Blk) (e:Option Eff):Option (List (Nat × AV) × List Blk):=e.bind (aiq m ops i ov H)
theorem dR (nw:List (Nat × AV)) (H':List Blk) {f:Nat} (R:List Nat) (args:List AV) {as:List AV} {bs1 bs2:List Blk} {v:AV} (ho:opL G C m ops i ov H=acn C f args (zo H) H.length) (hR:reach (zo H) ZX (AV.idsL args) []=R) (hA:amD (zo H) args R=some (as,bs1)) (hC:C f as bs1=some (.ret v,bs2))
    (hp:exitP m ops i ov H (ao2 R H.length v bs2)=some (nw++ov,H')) (h:RV G C m ops (i+1) (nw++ov) H' none Q):RV G C m ops i ov H none Q:=by
  obtain ⟨e,hE,hp⟩:=Option.bind_eq_some_iff.1 hp
  exact alC (cref R args ho hR hA hC hE) hp h
theorem cownR {f:Nat} {args ps:List AV} {v:AV} {bs:List Blk} {look:Look} {nid:Nat} {R:List Nat} (hR:reach look ZX (AV.idsL args) []=R) (hp:abC (fun i=>if R.contains i then look i else none) args=some ps) (hC:C f ps []=some (.ret v,bs)) (hb:(v.flat && bs.isEmpty)=false) {v':AV} {bs':List Blk} (hv:(v.ren fun i=>some (nid+i))=some v') (hbs:QO (fun i=>some (nid+i)) bs=some bs'):
    Qd C f args look nid=some (.ok ⟨v',ZC look R,bs'⟩):=by
  subst hR
  unfold Qd
  simp only [hp,Option.bind_some,hC,hb,Bool.false_eq_true,if_false,hv,hbs,Option.map_some]
theorem apH {f:Nat} (R:List Nat) (args:List AV) {ps:List AV} {v v':AV} {bs bs':List Blk} (ho:opL G C m ops i ov H=Qd C f args (zo H) H.length) (hR:reach (zo H) ZX (AV.idsL args) []=R) (hp:abC (fun i=>if R.contains i then zo H i else none) args=some ps) (hC:C f ps []=some (.ret v,bs)) (hb:(v.flat && bs.isEmpty)=false)
    (hv:(v.ren fun i=>some (H.length+i))=some v') (hbs:QO (fun i=>some (H.length+i)) bs=some bs'):opL G C m ops i ov H=some (.ok ⟨v',ZC (zo H) R,bs'⟩):=ho.trans (cownR hR hp hC hb hv hbs)
theorem ao3 {v v':AV} {H:List Blk} (h:AV.puriRes (zo H) v=some v'):leave .pure 0 v H=some (v',[]):=by
  simp only [leave,h,Option.bind_some,if_true]
theorem amG {look:Look} {vs vs':List AV} (h:abC look vs=some vs'):AV.puriRes look (.tup vs)=some (.tup vs'):=by
  simp only [AV.puriRes,h,Option.map_some]
theorem adz {f:Nat} {fn:Func} {ex:Ex} {t:List AV} {HH:List Blk} {v v':AV} (hex:match ex with
    | .normal | .ret=>True
    | _=>False) (hm:G.M f=.pure) (hr:(adE G ⟨t,HH⟩ fn.results.toList).map ahB=some v) (hp:AV.puriRes (zo HH) v=some v'):RetQ G f fn 0 v' [] ex t HH:=by
  refine ⟨hex,?_⟩
  rw [Option.map_eq_some_iff] at hr
  obtain ⟨vs,h1,h2⟩:=hr
  rw [h1,Option.bind_some,h2,hm]
  exact ao3 hp
def RetE (G:Cfg) (f:Nat) (fn:Func) (n0:Nat) (P:AV→List Blk→Prop):Ex→List AV→List Blk→Prop:=fun ex t HH=>(match ex with
      | .normal | .ret=>True
      | _=>False)∧∃ v H',((adE G ⟨t,HH⟩ fn.results.toList).bind fun vs=>leave (G.M f) n0 (ahB vs) HH)=some (v,H')∧P v H'
theorem Qh {f n:Nat} {fn:Func} {c:Code} {args:List AV} {P:AV→List Blk→Prop} (m:Nat) (ov:List (Nat × AV)) (hf:G.P.funcs[f]?=some fn) (hb:fn.body=some c) (ht:args++List.replicate (fn.ntmps - args.length) .any=mk m ov)
    (h:WP (exec G (call G n) f n c none ⟨mk m ov,H⟩) (RetE G f fn H.length P)):
    ∃ v H',call G (n+1) f args H=some (.ret v,H')∧P v H':=by
  obtain ⟨ex,tt,HH,e,hex,v,H',hr,hP⟩:=h
  obtain ⟨vs,h1,h2⟩:=Option.bind_eq_some_iff.1 hr
  refine ⟨v,H',?_,hP⟩
  simp only [call,hf,hb,ht,e]
  cases ex <;> simp only at hex <;> simp only [h1,Option.bind_some,h2,Option.map_some]
end
end Go.Ab
