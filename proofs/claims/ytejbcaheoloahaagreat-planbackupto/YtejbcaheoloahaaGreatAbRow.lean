import Derived.Test.YtejbcaheoloahaaGreatAbLift
import Derived.Test.YtejbcaheoloahaaGreatAbStr
set_option linter.unusedVariables false
set_option linter.unusedSimpArgs false
namespace Go.Ab
open Go
abbrev bR {α:Type} (e esz:Nat) (R:α→List PV) (l:List α) (fl fz:Nat):Blk:=.row e esz ⟨l.map R,0,fl,0,fz⟩
abbrev aR (id esz n:Nat):AV:=.ref id 0 n esz 0 n
def ckA (b n:Nat):Option Unit:=if n * b≤140737488355328∧n≤9223372036854775807 then some () else none
theorem aim {b n:Nat} {u:Unit} (h:ckA b n=some u):n * b≤140737488355328∧n≤9223372036854775807:=by
  unfold ckA at h
  split at h
  · assumption
  · cases h
section
variable {G:Cfg} {C:ZH} {m:Nat} {ops:Array Oper} {i:Nat} {ov:List (Nat × AV)} {H:List Blk}
theorem afj {α:Type} {R:α→List PV} {l:List α} {fl fz n:Nat} (hn:n=l.length) (hf:fl≤l.length):Row.valid ⟨l.map R,0,fl,0,fz⟩ 0 n=true:=by
  subst hn; simp [Row.valid,hf]
theorem qe {α:Type} {R:α→List PV} {l:List α} {id fl fz e esz k n:Nat} {look:Look} (hl:look id=some (bR e esz R l fl fz)) (hn:n=l.length) (hf:fl≤l.length):AV.pureOf look (k+1) (aR id esz n)=some (.sl (l.map R)):=by
  simp only [AV.pureOf,hl]
  rw [if_pos (by rw [afj hn hf]; subst hn; simp)]
  subst hn
  rw [List.drop_zero,List.take_of_length_le (by simp)]
theorem amB {α:Type} {R:α→List PV} {s:Option (List α)} {look:Look}:zP (.pv (zg R s)) look=some ((sll s).map R):=by cases s <;> rfl
theorem am6 {s:ByteArray} {look:Look}:zP (.pv (.str s)) look=some ((qU s).map (rI .u8)):=by
  show some (ZA s)=_
  rw [aiM]; rfl
def notI (k:IntKind) (n:Int):Int:=k.wrap (BitVec.ofInt k.bits (if k.signed then -1 else k.max) ^^^ BitVec.ofInt k.bits n).toNat
theorem agO {α:Type} (l:List α) {t e sz b id esz n:Nat} {ag:Bool} {z:List PV} (ht:G.T t=some ⟨.slice e,sz,b,ag,z⟩) (hn:n=l.length) (ho:opL G C m ops i ov H=aaT G .len [t] [aR id esz n] (zp H) H.length):opL G C m ops i ov H=some (.ok ⟨.pv (.int .i64 (l.length:Int)),[],[]⟩):=by
  subst hn
  rw [ho]
  simp [aaT,ht,okV,aR,lenA]
theorem abq {α:Type} (l:List α) (k:IntKind) {x:α} {j:Int} {t e sz b id esz n:Nat} {ag:Bool} {z:List PV} {ei:TI} (ht:G.T t=some ⟨.slice e,sz,b,ag,z⟩) (he:G.T e=some ei) (h:idx l j=some x) (hn:n=l.length) (hs:esz=ei.size) (ho:opL G C m ops i ov H=okV (qv G.T t (aR id esz n) (.pv (.int k j)))):
    opL G C m ops i ov H=some (.ok ⟨.eptr id 0 n esz (0+j.toNat) 0,[],[]⟩):=by
  rw [ho]
  obtain ⟨h0,h⟩:=aeS h
  have hlt:j.toNat < l.length:=(List.getElem?_eq_some_iff.1 h).1
  unfold qv
  simp only [ht,he]
  rw [if_pos h0,if_pos ⟨by omega,hs⟩]; rfl
theorem ai4 {α:Type} (R:α→List PV) (l:List α) {x:α} {j:Int} {t e id esz n off fl fz:Nat} {ti:TI} {v:AV} (ht:G.T t=some ti) (hl:zp H id=some (bR e esz R l fl fz)) (h:idx l j=some x) (hn:n=l.length) (hf:fl≤l.length)
    (hv:((cut (R x) off ti.size).bind fun r=>ae2 ti.agg (r.map .pv))=some v) (ho:opL G C m ops i ov H=okV (aee G.T t (.eptr id 0 n esz (0+j.toNat) off) (zp H))):opL G C m ops i ov H=some (.ok ⟨v,[],[]⟩):=by
  rw [ho]
  obtain ⟨h0,h⟩:=aeS h
  have hlt:j.toNat < l.length:=(List.getElem?_eq_some_iff.1 h).1
  unfold aee
  simp only [ht,hl,Nat.zero_add]
  rw [if_pos (by rw [afj hn hf]; subst hn; simp [hlt])]
  rw [List.getElem?_map,h]
  simp only [Option.map_some,Option.bind_some]
  rw [hv]; rfl
theorem QG {α:Type} (R:α→List PV) (ys:List α) {y:AV} {t u e esz b:Nat} {sz bt:Nat} {ag:Bool} {z:List PV} {ei:TI} {c:Unit} (ht:G.T t=some ⟨.slice e,sz,bt,ag,z⟩) (he:G.T e=some ei) (hs:ei.size=esz) (h0:Nat.beq esz 0=false) (hb:ei.bytes=b) (hR:∀ x,(R x).length=esz) (hne:ys.isEmpty=false) (hck:ckA b ys.length=some c)
    (hy:zP y (zp H)=some (ys.map R)) (ho:opL G C m ops i ov H=(zP y (zp H)).bind fun rows=>okE (qT G.T H.length t (.pv .nils) rows (zp H))):
    opL G C m ops i ov H=some (.ok ⟨aR H.length esz ys.length,[],[bR e esz R ys 0 0]⟩):=by
  rw [ho,hy,Option.bind_some]
  obtain ⟨c1,c2⟩:=aim hck
  rw [alS ht rfl he hs (by intro h; rw [h] at h0; cases h0) (by simp [hR]) (by rw [hb,List.length_map]; exact c1) (by rw [List.length_map]; exact c2) (by intro h; rw [List.map_eq_nil_iff] at h; rw [h] at hne; cases hne)]
  simp [okE,bR,aR]
theorem ZT {α:Type} (R:α→List PV) (l ys:List α) {y:AV} {id n fl fz t u e esz b:Nat} {sz bt:Nat} {ag:Bool} {z:List PV} {ei:TI} {c:Unit} (ht:G.T t=some ⟨.slice e,sz,bt,ag,z⟩) (he:G.T e=some ei) (hs:ei.size=esz) (h0:Nat.beq esz 0=false) (hb:ei.bytes=b) (hR:∀ x,(R x).length=esz) (hne:ys.isEmpty=false) (hck:ckA b (l++ys).length=some c)
    (hl:zp H id=some (bR e esz R l fl fz)) (hn:n=l.length) (hf:fl≤l.length) (hy:zP y (zp H)=some (ys.map R)) (ho:opL G C m ops i ov H=(zP y (zp H)).bind fun rows=>okE (qT G.T H.length t (aR id esz n) rows (zp H))):
    opL G C m ops i ov H=some (.ok ⟨aR id esz (l++ys).length,[(id,bR e esz R (l++ys) fl fz)],[]⟩):=by
  rw [ho,hy,Option.bind_some]
  obtain ⟨c1,c2⟩:=aim hck
  rw [List.length_append] at c1 c2
  subst hn
  have hc:adJ ⟨l.map R,0,fl,0,fz⟩ 0 l.length:=⟨afj rfl hf,.inl ⟨rfl,by simp⟩⟩
  rw [ahx ht rfl he hs (by intro h; rw [h] at h0; cases h0) (by simp [hR]) hl hc (by rw [hb,List.length_map]; exact c1) (by rw [List.length_map]; exact c2) (by intro h; rw [List.map_eq_nil_iff] at h; rw [h] at hne; cases hne)]
  have hg:Go.Ab.grow (⟨l.map R,0,fl,0,fz⟩:Row) 0 l.length (ys.map R)=(⟨l.map R++ys.map R,0,fl,0,fz⟩,0):=by
    unfold Go.Ab.grow
    rw [if_pos ⟨rfl,by simp⟩]
  rw [hg]
  simp [okE,bR,aR]
theorem aj1 {α:Type} (R:α→List PV) (l ys:List α) {y:AV} {id n fl fz t u e esz b:Nat} {sz bt:Nat} {ag:Bool} {z:List PV} {ei:TI} {c:Unit} (ht:G.T t=some ⟨.slice e,sz,bt,ag,z⟩) (he:G.T e=some ei) (hs:ei.size=esz) (h0:Nat.beq esz 0=false) (hb:ei.bytes=b) (hne:ys.isEmpty=true) (hck:ckA b l.length=some c)
    (hl:zp H id=some (bR e esz R l fl fz)) (hn:n=l.length) (hf:fl≤l.length) (hy:zP y (zp H)=some (ys.map R)) (ho:opL G C m ops i ov H=(zP y (zp H)).bind fun rows=>okE (qT G.T H.length t (aR id esz n) rows (zp H))):
    opL G C m ops i ov H=some (.ok ⟨aR id esz n,[],[]⟩):=by
  rw [ho,hy,Option.bind_some]
  obtain ⟨c1,c2⟩:=aim hck
  have:ys=[]:=by simpa using hne
  subst this
  subst hn
  rw [List.map_nil,ajR ht rfl he hs (by intro h; rw [h] at h0; cases h0) hl (afj rfl hf) (by rw [hb]; exact c1) c2]
  rfl
theorem apw {l:List Int} {x:AV} {s d e:Nat} {b c sz bt sz2 bt2:Nat} {ag ag1 ag2:Bool} {z z1 z2:List PV} (hs:G.T s=some ⟨.slice e,sz,bt,ag1,z1⟩) (hd:G.T d=some ⟨.str,sz2,bt2,ag2,z2⟩) (he:G.T e=some ⟨.int .u8,b,c,ag,z⟩) (hy:zP x (zp H)=some (l.map (rI .u8))) (hx:alJ x=true) (ho:opL G C m ops i ov H=okV (agC G.T s d x (zp H))):
    opL G C m ops i ov H=some (.ok ⟨.pv (.str (strOf l)),[],[]⟩):=by
  rw [ho,anH (l:=l) hs rfl hd rfl he hx (by
    cases x with
    | pv p=>cases p <;> first | exact hy | cases hx
    | _=>exact hy)]
  rfl
theorem an9 {α:Type} {R:α→List PV} (s:Option (List α)):alJ (.pv (zg R s))=true:=by cases s <;> rfl
def ckN (b:Int):Option Unit:=if b < 0 then none else some ()
theorem shlO {k:IntKind} {a b:Int} {u:Unit} (h:ckN b=some u) (ho:opL G C m ops i ov H=okV (abV .shl k a b)):opL G C m ops i ov H=some (.ok ⟨.pv (.int k (iShl k a b)),[],[]⟩):=by
  unfold ckN at h
  split at h
  · cases h
  · rename_i hb
    rw [ho]; unfold abV; rw [if_neg hb]; rfl
theorem shrO {k:IntKind} {a b:Int} {u:Unit} (h:ckN b=some u) (ho:opL G C m ops i ov H=okV (abV .shr k a b)):opL G C m ops i ov H=some (.ok ⟨.pv (.int k (iShr k a b)),[],[]⟩):=by
  unfold ckN at h
  split at h
  · cases h
  · rename_i hb
    rw [ho]; unfold abV; rw [if_neg hb]; rfl
def ckB (lo hi n:Int):Option Unit:=if 0≤lo∧lo≤hi∧hi≤n then some () else none
theorem aoT {lo hi n:Int} {u:Unit} (h:ckB lo hi n=some u):0≤lo∧lo≤hi∧hi≤n:=by
  unfold ckB at h
  split at h
  · assumption
  · cases h
def subL {α:Type} (l:List α) (lo hi:Int):List α:=(l.drop lo.toNat).take (hi.toNat - lo.toNat)
def QH {α:Type} (s:Option (List α)) (lo hi:Int):Option (List α):=s.map fun l=>subL l lo hi
theorem aot {x:Option AV} {k:IntKind} {lo:Int} (h:x=none∧lo=0∨x=some (.pv (.int k lo))) (h0:0≤lo):bound x 0=some lo.toNat:=by
  rcases h with ⟨rfl,rfl⟩ | rfl
  · rfl
  · simp only [bound]; rw [if_pos h0]
theorem aoM {x:Option AV} {k:IntKind} {hi:Int} {n:Nat} (h:x=none∧hi=(n:Int)∨x=some (.pv (.int k hi))) (h0:0≤hi):bound x n=some hi.toNat:=by
  rcases h with ⟨rfl,rfl⟩ | rfl
  · simp [bound]
  · simp only [bound]; rw [if_pos h0]
def aoa (esz:Nat) (v:AV) (lo hi:Option AV):Option Res:=match v with
  | .pv (.str _)=>none
  | v=>okV (abE esz v lo hi)
theorem aj9 {α:Type} (R:α→List PV) (s:Option (List α)) {lo hi:Int} {xl xh:Option AV} {k k':IntKind} {esz:Nat} {u:Unit} (hck:ckB lo hi ((sll s).length:Int)=some u) (hR:∀ x,(R x).length=esz) (h1:xl=none∧lo=0∨xl=some (.pv (.int k lo))) (h2:xh=none∧hi=((sll s).length:Int)∨xh=some (.pv (.int k' hi)))
    (ho:opL G C m ops i ov H=aoa esz (.pv (zg R s)) xl xh):opL G C m ops i ov H=some (.ok ⟨.pv (zg R (QH s lo hi)),[],[]⟩):=by
  have e0:aoa esz (.pv (zg R s)) xl xh=okV (abE esz (.pv (zg R s)) xl xh):=by cases s <;> rfl
  rw [ho,e0]
  obtain ⟨a,b,c⟩:=aoT hck
  unfold abE
  have hl:lenA (.pv (zg R s))=some (sll s).length:=by cases s <;> simp [lenA,zg,sll]
  rw [hl]
  simp only
  rw [aot h1 a,aoM h2 (by omega)]
  simp only
  rw [if_pos ⟨by omega,by omega⟩]
  cases s with
  | none=>rfl
  | some l=>
    simp only [zg,QH,Option.map_some,subL,sll] at *
    by_cases he:hi.toNat=lo.toNat
    · rw [if_pos he,he]; simp [okV]
    · rw [if_neg he]
      have hlt:lo.toNat < l.length:=by omega
      rw [if_pos (by rw [List.getElem?_map,List.getElem?_eq_getElem hlt]; simp [hR])]
      simp [okV,List.map_drop,List.map_take]
theorem adp {t len nid:Nat} {is:List Nat} {vs:List AV} {ps:List AV} {R:List Nat} {e:Eff} (hR:reach (zp H) Zl (AV.idsL vs) []=R) (hp:aa6 (fun i=>if R.contains i then zp H i else none) vs=some ps) (hb:aaC G.T H.length t len (is.zip ps)=some e)
    (ho:opL G C m ops i ov H=okE (Qw G.T H.length t len is vs (zp H))):opL G C m ops i ov H=some (.ok ⟨e.val,Zk (zp H) R,e.new⟩):=by
  rw [ho]
  subst hR
  unfold Qw
  simp only [hp,Option.bind_some,hb,Option.map_some,okE]
end
section
variable {G:Cfg} {C:ZH} {m:Nat} {ops:Array Oper} {i:Nat} {ov:List (Nat × AV)} {H H':List Blk} {Q:Ex→List AV→List Blk→List Seen→Prop}
def aeI (look:Look) (args:List AV) (R:List Nat):Option (List AV × List Blk):=match AV.renL (placeOf R) args,(getAll look R).bind (qQ (placeOf R)) with
  | some as,some bs=>some (as,bs)
  | _,_=>none
def af7 (R:List Nat) (nid:Nat) (v:AV) (bs:List Blk):Option Eff:=match qQ (aeJ R nid) bs,v.ren (aeJ R nid) with
  | some bs',some v'=>some ⟨v',aap R bs',bs'.drop R.length⟩
  | _,_=>none
theorem cref {f:Nat} (R:List Nat) (args:List AV) {as:List AV} {bs1 bs2:List Blk} {v:AV} {e:Eff} (ho:opL G C m ops i ov H=QC C f args (zp H) H.length) (hR:reach (zp H) Zl (AV.idsL args) []=R) (hA:aeI (zp H) args R=some (as,bs1)) (hC:C f as bs1=some (.ret v,bs2)) (hE:af7 R H.length v bs2=some e):
    opL G C m ops i ov H=some (.ok e):=by
  rw [ho]
  unfold aeI at hA
  unfold af7 at hE
  split at hA
  · rename_i a b h1 h2
    cases hA
    obtain ⟨b0,h2,h3⟩:=Option.bind_eq_some_iff.1 h2
    split at hE
    · rename_i b3 v' h4 h5
      cases hE
      rw [alW hR h1 h2 h3 hC h4 h5 rfl rfl]
    · cases hE
  · cases hA
def apV (m:Nat) (ops:Array Oper) (i:Nat) (ov:List (Nat × AV)) (H:List Blk) (e:Option Eff):Option (List (Nat × AV) × List Blk):=e.bind (ai3 m ops i ov H)
theorem dR (nw:List (Nat × AV)) (H':List Blk) {f:Nat} (R:List Nat) (args:List AV) {as:List AV} {bs1 bs2:List Blk} {v:AV} (ho:opL G C m ops i ov H=QC C f args (zp H) H.length) (hR:reach (zp H) Zl (AV.idsL args) []=R) (hA:aeI (zp H) args R=some (as,bs1)) (hC:C f as bs1=some (.ret v,bs2))
    (hp:apV m ops i ov H (af7 R H.length v bs2)=some (nw++ov,H')) (h:RV G C m ops (i+1) (nw++ov) H' none Q):RV G C m ops i ov H none Q:=by
  obtain ⟨e,hE,hp⟩:=Option.bind_eq_some_iff.1 hp
  exact aj5 (cref R args ho hR hA hC hE) hp h
theorem dRd (nw:List (Nat × AV)) (H':List Blk) {f:Nat} (R:List Nat) (args:List AV) {as:List AV} {bs1 bs2:List Blk} {v:AV} {l:List Seen} (ho:opL G C m ops i ov H=QC C f args (zp H) H.length) (hR:reach (zp H) Zl (AV.idsL args) []=R) (hA:aeI (zp H) args R=some (as,bs1)) (hC:C f as bs1=some (.ret v,bs2))
    (hp:apV m ops i ov H (af7 R H.length v bs2)=some (nw++ov,H')) (h:RV G C m ops (i+1) (nw++ov) H' (some (⟨i,alE m ops i ov H,(match af7 R H.length v bs2 with
      | some e=>e.upd.map (·.1)++List.range' H.length e.new.length
      | none=>[])⟩ :: l)) Q):RV G C m ops i ov H (some l) Q:=by
  obtain ⟨e,hE,hp⟩:=Option.bind_eq_some_iff.1 hp
  rw [hE] at h
  exact aj5 (cref R args ho hR hA hC hE) hp h
theorem cownR {f:Nat} {args ps:List AV} {v:AV} {bs:List Blk} {look:Look} {nid:Nat} {R:List Nat} (hR:reach look Zl (AV.idsL args) []=R) (hp:aa6 (fun i=>if R.contains i then look i else none) args=some ps) (hC:C f ps []=some (.ret v,bs)) (hb:(v.flat && bs.isEmpty)=false) {v':AV} {bs':List Blk} (hv:(v.ren fun i=>some (nid+i))=some v') (hbs:qQ (fun i=>some (nid+i)) bs=some bs'):
    qz C f args look nid=some (.ok ⟨v',Zk look R,bs'⟩):=by
  subst hR
  unfold qz
  simp only [hp,Option.bind_some,hC,hb,Bool.false_eq_true,if_false,hv,hbs,Option.map_some]
theorem apT {f:Nat} (R:List Nat) (args:List AV) {ps:List AV} {v v':AV} {bs bs':List Blk} (ho:opL G C m ops i ov H=qz C f args (zp H) H.length) (hR:reach (zp H) Zl (AV.idsL args) []=R) (hp:aa6 (fun i=>if R.contains i then zp H i else none) args=some ps) (hC:C f ps []=some (.ret v,bs)) (hb:(v.flat && bs.isEmpty)=false)
    (hv:(v.ren fun i=>some (H.length+i))=some v') (hbs:qQ (fun i=>some (H.length+i)) bs=some bs'):opL G C m ops i ov H=some (.ok ⟨v',Zk (zp H) R,bs'⟩):=ho.trans (cownR hR hp hC hb hv hbs)
theorem aeL {look:Look} {vs vs':List AV} (h:aa6 look vs=some vs'):AV.puriRes look (.tup vs)=some (.tup vs'):=by
  simp only [AV.puriRes,h,Option.map_some]
def apc (Q:Ex→List AV→List Blk→Prop):Ex→List AV→List Blk→Prop:=fun ex t H=>match ex with
  | .goto _=>False
  | ex=>Q ex t H
def aqh (G:Cfg) (C:ZH) (f n:Nat) (c:Code) (Q:Ex→List AV→List Blk→Prop):Ex→List AV→List Blk→Prop:=fun ex t H=>match ex with
  | .goto l=>(findLabel c l).isSome=true∧WP (exec G C f n c (some l) ⟨t,H⟩) (apc Q)
  | ex=>Q ex t H
theorem scq {f n:Nat} {t:List AV} {c:Code} {Q:Ex→List AV→List Blk→Prop} (h:WP (exec G C f n c none ⟨t,H⟩) (aqh G C f n c Q)):WP (exec G C f n (.scope c) none ⟨t,H⟩) Q:=by
  refine aok (h.mono ?_)
  intro ex t H h
  cases ex with
  | goto l=>
    obtain ⟨h1,h2⟩:=h
    refine ⟨h1,h2.mono ?_⟩
    intro ex t H h
    cases ex <;> exact h
  | _=>exact h
theorem sql {f n l:Nat} {t:List AV} {a b:Code} {Q:Ex→List AV→List Blk→Prop} (hl:(findLabel a l).isSome=true) (h:WP (exec G C f n a (some l) ⟨t,H⟩) (SeqQ G C f n b Q)):WP (exec G C f n (.seq a b) (some l) ⟨t,H⟩) Q:=by
  refine aof hl (h.mono ?_)
  intro ex t H h
  cases ex <;> exact h
def RetE (G:Cfg) (f:Nat) (fn:Func) (n0:Nat) (P:AV→List Blk→Prop):Ex→List AV→List Blk→Prop:=fun ex t HH=>(match ex with
      | .normal | .ret=>True
      | _=>False)∧∃ v H',((ab2 G ⟨t,HH⟩ fn.results.toList).bind fun vs=>leave (G.M f) n0 (agr vs) HH)=some (v,H')∧P v H'
theorem QA {f n:Nat} {fn:Func} {c:Code} {args:List AV} {P:AV→List Blk→Prop} (m:Nat) (ov:List (Nat × AV)) (hf:G.P.funcs[f]?=some fn) (hb:fn.body=some c) (ht:args++List.replicate (fn.ntmps - args.length) .any=mk m ov)
    (h:WP (exec G (call G n) f n c none ⟨mk m ov,H⟩) (RetE G f fn H.length P)):
    ∃ v H',call G (n+1) f args H=some (.ret v,H')∧P v H':=by
  obtain ⟨ex,tt,HH,e,hex,v,H',hr,hP⟩:=h
  obtain ⟨vs,h1,h2⟩:=Option.bind_eq_some_iff.1 hr
  refine ⟨v,H',?_,hP⟩
  simp only [call,hf,hb,ht,e]
  cases ex <;> simp only at hex <;> simp only [h1,Option.bind_some,h2,Option.map_some]
end
end Go.Ab
