import Derived.Test.YtejbcaheoloahaaGreatAbLift
import Derived.Test.YtejbcaheoloahaaGreatAbStr
namespace Go.Ab
open Go
abbrev bR {α:Type} (e esz:Nat) (R:α→List PV) (l:List α) (fl fz:Nat):Blk:=.row e esz ⟨l.map R,0,fl,0,fz⟩
abbrev aR (id esz n:Nat):AV:=.ref id 0 n esz 0 n
def ckA (b n:Nat):Option Unit:=if n * b≤140737488355328∧n≤9223372036854775807 then some () else none
theorem ahj {b n:Nat} {u:Unit} (h:ckA b n=some u):n * b≤140737488355328∧n≤9223372036854775807:=by
  unfold ckA at h
  split at h
  · assumption
  · cases h
section
variable {G:Cfg} {C:ZL} {m:Nat} {ops:Array Oper} {i:Nat} {ov:List (Nat × AV)} {H:List Blk}
theorem aeD {α:Type} {R:α→List PV} {l:List α} {fl fz n:Nat} (hn:n=l.length) (hf:fl≤l.length):Row.valid ⟨l.map R,0,fl,0,fz⟩ 0 n=true:=by
  subst hn; simp [Row.valid,hf]
theorem ZO {α:Type} {R:α→List PV} {l:List α} {id fl fz e esz k n:Nat} {look:Look} (hl:look id=some (bR e esz R l fl fz)) (hn:n=l.length) (hf:fl≤l.length):AV.pureOf look (k+1) (aR id esz n)=some (.sl (l.map R)):=by
  simp only [AV.pureOf,hl]
  rw [if_pos (by rw [aeD hn hf]; subst hn; simp)]
  subst hn
  rw [List.drop_zero,List.take_of_length_le (by simp)]
theorem acY {α:Type} {R:α→List PV} {s:Option (List α)} {look:Look}:zT (.pv (zh R s)) look=some ((sll s).map R):=by cases s <;> rfl
theorem acu {α:Type} (l:List α) {t e sz b id esz n:Nat} {ag:Bool} {z:List PV} (ht:G.T t=some ⟨.slice e,sz,b,ag,z⟩) (hn:n=l.length) (ho:opL G C m ops i ov H=aaD G .len [t] [aR id esz n] (zu H) H.length):opL G C m ops i ov H=some (.ok ⟨.pv (.int .i64 (l.length:Int)),[],[]⟩):=by
  subst hn
  rw [ho]
  simp [aaD,ht,okV,aR,lenA]
theorem Q7 {α:Type} (l:List α) (k:IntKind) {x:α} {j:Int} {t e sz b id esz n:Nat} {ag:Bool} {z:List PV} {ei:TI} (ht:G.T t=some ⟨.slice e,sz,b,ag,z⟩) (he:G.T e=some ei) (h:idx l j=some x) (hn:n=l.length) (hs:esz=ei.size) (ho:opL G C m ops i ov H=okV (qc G.T t (aR id esz n) (.pv (.int k j)))):
    opL G C m ops i ov H=some (.ok ⟨.eptr id 0 n esz (0+j.toNat) 0,[],[]⟩):=by
  rw [ho]
  obtain ⟨h0,h⟩:=adS h
  have hlt:j.toNat < l.length:=(List.getElem?_eq_some_iff.1 h).1
  unfold qc
  simp only [ht,he]
  rw [if_pos h0,if_pos ⟨by omega,hs⟩]; rfl
theorem adP {α:Type} (R:α→List PV) (l:List α) {x:α} {j:Int} {t e id esz n off fl fz:Nat} {ti:TI} {v:AV} (ht:G.T t=some ti) (hl:zu H id=some (bR e esz R l fl fz)) (h:idx l j=some x) (hn:n=l.length) (hf:fl≤l.length)
    (hv:((cut (R x) off ti.size).bind fun r=>aeh ti.agg (r.map .pv))=some v) (ho:opL G C m ops i ov H=okV (ac8 G.T t (.eptr id 0 n esz (0+j.toNat) off) (zu H))):opL G C m ops i ov H=some (.ok ⟨v,[],[]⟩):=by
  rw [ho]
  obtain ⟨h0,h⟩:=adS h
  have hlt:j.toNat < l.length:=(List.getElem?_eq_some_iff.1 h).1
  unfold ac8
  simp only [ht,hl,Nat.zero_add]
  rw [if_pos (by rw [aeD hn hf]; subst hn; simp [hlt])]
  rw [List.getElem?_map,h]
  simp only [Option.map_some,Option.bind_some]
  rw [hv]; rfl
theorem qU {α:Type} (R:α→List PV) (ys:List α) {y:AV} {t u e esz b:Nat} {sz bt:Nat} {ag:Bool} {z:List PV} {ei:TI} {c:Unit} (ht:G.T t=some ⟨.slice e,sz,bt,ag,z⟩) (he:G.T e=some ei) (hs:ei.size=esz) (h0:Nat.beq esz 0=false) (hb:ei.bytes=b) (hR:∀ x,(R x).length=esz) (hne:ys.isEmpty=false) (hck:ckA b ys.length=some c)
    (hy:zT y (zu H)=some (ys.map R)) (ho:opL G C m ops i ov H=(zT y (zu H)).bind fun rows=>okE (qJ G.T H.length t (.pv .nils) rows (zu H))):
    opL G C m ops i ov H=some (.ok ⟨aR H.length esz ys.length,[],[bR e esz R ys 0 0]⟩):=by
  rw [ho,hy,Option.bind_some]
  obtain ⟨c1,c2⟩:=ahj hck
  rw [akw ht rfl he hs (by intro h; rw [h] at h0; cases h0) (by simp [hR]) (by rw [hb,List.length_map]; exact c1) (by rw [List.length_map]; exact c2) (by intro h; rw [List.map_eq_nil_iff] at h; rw [h] at hne; cases hne)]
  simp [okE,bR,aR]
theorem aja {α:Type} (R:α→List PV) (ys:List α) {y:AV} {t u e esz:Nat} {sz bt:Nat} {ag:Bool} {z:List PV} {ei:TI} (ht:G.T t=some ⟨.slice e,sz,bt,ag,z⟩) (he:G.T e=some ei) (hs:ei.size=esz) (h0:Nat.beq esz 0=false) (hne:ys.isEmpty=true)
    (hy:zT y (zu H)=some (ys.map R)) (ho:opL G C m ops i ov H=(zT y (zu H)).bind fun rows=>okE (qJ G.T H.length t (.pv .nils) rows (zu H))):
    opL G C m ops i ov H=some (.ok ⟨.pv .nils,[],[]⟩):=by
  rw [ho,hy,Option.bind_some]
  have:ys=[]:=by simpa using hne
  subst this
  unfold qJ
  simp only [ht,he]
  rw [if_pos ⟨(by rw [hs]; intro h; rw [h] at h0; cases h0),rfl⟩]
  rfl
theorem Z5 {α:Type} (R:α→List PV) (l ys:List α) {y:AV} {id n fl fz t u e esz b:Nat} {sz bt:Nat} {ag:Bool} {z:List PV} {ei:TI} {c:Unit} (ht:G.T t=some ⟨.slice e,sz,bt,ag,z⟩) (he:G.T e=some ei) (hs:ei.size=esz) (h0:Nat.beq esz 0=false) (hb:ei.bytes=b) (hR:∀ x,(R x).length=esz) (hne:ys.isEmpty=false) (hck:ckA b (l++ys).length=some c)
    (hl:zu H id=some (bR e esz R l fl fz)) (hn:n=l.length) (hf:fl≤l.length) (hy:zT y (zu H)=some (ys.map R)) (ho:opL G C m ops i ov H=(zT y (zu H)).bind fun rows=>okE (qJ G.T H.length t (aR id esz n) rows (zu H))):
    opL G C m ops i ov H=some (.ok ⟨aR id esz (l++ys).length,[(id,bR e esz R (l++ys) fl fz)],[]⟩):=by
  rw [ho,hy,Option.bind_some]
  obtain ⟨c1,c2⟩:=ahj hck
  rw [List.length_append] at c1 c2
  subst hn
  have hc:adz ⟨l.map R,0,fl,0,fz⟩ 0 l.length:=⟨aeD rfl hf,.inl ⟨rfl,by simp⟩⟩
  rw [agm ht rfl he hs (by intro h; rw [h] at h0; cases h0) (by simp [hR]) hl hc (by rw [hb,List.length_map]; exact c1) (by rw [List.length_map]; exact c2) (by intro h; rw [List.map_eq_nil_iff] at h; rw [h] at hne; cases hne)]
  have hg:Go.Ab.grow (⟨l.map R,0,fl,0,fz⟩:Row) 0 l.length (ys.map R)=(⟨l.map R++ys.map R,0,fl,0,fz⟩,0):=by
    unfold Go.Ab.grow
    rw [if_pos ⟨rfl,by simp⟩]
  rw [hg]
  simp [okE,bR,aR]
theorem afU {α:Type} (R:α→List PV) (l ys:List α) {y:AV} {id n fl fz t u e esz b:Nat} {sz bt:Nat} {ag:Bool} {z:List PV} {ei:TI} {c:Unit} (ht:G.T t=some ⟨.slice e,sz,bt,ag,z⟩) (he:G.T e=some ei) (hs:ei.size=esz) (h0:Nat.beq esz 0=false) (hb:ei.bytes=b) (hne:ys.isEmpty=true) (hck:ckA b l.length=some c)
    (hl:zu H id=some (bR e esz R l fl fz)) (hn:n=l.length) (hf:fl≤l.length) (hy:zT y (zu H)=some (ys.map R)) (ho:opL G C m ops i ov H=(zT y (zu H)).bind fun rows=>okE (qJ G.T H.length t (aR id esz n) rows (zu H))):
    opL G C m ops i ov H=some (.ok ⟨aR id esz n,[],[]⟩):=by
  rw [ho,hy,Option.bind_some]
  obtain ⟨c1,c2⟩:=ahj hck
  have:ys=[]:=by simpa using hne
  subst this
  subst hn
  rw [List.map_nil,ah6 ht rfl he hs (by intro h; rw [h] at h0; cases h0) hl (aeD rfl hf) (by rw [hb]; exact c1) c2]
  rfl
def ckN (b:Int):Option Unit:=if b < 0 then none else some ()
theorem shlO {k:IntKind} {a b:Int} {u:Unit} (h:ckN b=some u) (ho:opL G C m ops i ov H=okV (ac9 .shl k a b)):opL G C m ops i ov H=some (.ok ⟨.pv (.int k (iShl k a b)),[],[]⟩):=by
  unfold ckN at h
  split at h
  · cases h
  · rename_i hb
    rw [ho]; unfold ac9; rw [if_neg hb]; rfl
theorem amq {α:Type} (R:α→List PV) (s:Option (List α)) {t e sz bt:Nat} {ag:Bool} {z:List PV} (ht:G.T t=some ⟨.slice e,sz,bt,ag,z⟩) (ho:opL G C m ops i ov H=okV (aBin (some (.slice e)) (G.E t) .eql (.pv (zh R s)) (.pv .nils))):opL G C m ops i ov H=some (.ok ⟨.pv (.bool s.isNone),[],[]⟩):=by
  rw [ho]; cases s <;> rfl
theorem qT {t len nid:Nat} {is:List Nat} {vs:List AV} {ps:List AV} {R:List Nat} {e:Eff} (hR:reach (zu H) ZE (AV.idsL vs) []=R) (hp:aaU (fun i=>if R.contains i then zu H i else none) vs=some ps) (hb:QF G.T H.length t len (is.zip ps)=some e)
    (ho:opL G C m ops i ov H=okE (Ql G.T H.length t len is vs (zu H))):opL G C m ops i ov H=some (.ok ⟨e.val,Zj (zu H) R,e.new⟩):=by
  rw [ho]
  subst hR
  unfold Ql
  simp only [hp,Option.bind_some,hb,Option.map_some,okE]
end
section
variable {G:Cfg} {C:ZL} {m:Nat} {ops:Array Oper} {i:Nat} {ov:List (Nat × AV)} {H H':List Blk} {Q:Ex→List AV→List Blk→List Seen→Prop}
def alh (look:Look) (args:List AV) (R:List Nat):Option (List AV × List Blk):=match AV.renL (placeOf R) args,(getAll look R).bind (Qe (placeOf R)) with
  | some as,some bs=>some (as,bs)
  | _,_=>none
def amG (R:List Nat) (nid:Nat) (v:AV) (bs:List Blk):Option Eff:=match Qe (afS R nid) bs,v.ren (afS R nid) with
  | some bs',some v'=>some ⟨v',aaz R bs',bs'.drop R.length⟩
  | _,_=>none
theorem cref {f:Nat} (R:List Nat) (args:List AV) {as:List AV} {bs1 bs2:List Blk} {v:AV} {e:Eff} (ho:opL G C m ops i ov H=abg C f args (zu H) H.length) (hR:reach (zu H) ZE (AV.idsL args) []=R) (hA:alh (zu H) args R=some (as,bs1)) (hC:C f as bs1=some (.ret v,bs2)) (hE:amG R H.length v bs2=some e):
    opL G C m ops i ov H=some (.ok e):=by
  rw [ho]
  unfold alh at hA
  unfold amG at hE
  split at hA
  · rename_i a b h1 h2
    cases hA
    obtain ⟨b0,h2,h3⟩:=Option.bind_eq_some_iff.1 h2
    split at hE
    · rename_i b3 v' h4 h5
      cases hE
      rw [ajZ hR h1 h2 h3 hC h4 h5 rfl rfl]
    · cases hE
  · cases hA
def exitP (m:Nat) (ops:Array Oper) (i:Nat) (ov:List (Nat × AV)) (H:List Blk) (e:Option Eff):Option (List (Nat × AV) × List Blk):=e.bind (ahw m ops i ov H)
theorem dR (nw:List (Nat × AV)) (H':List Blk) {f:Nat} (R:List Nat) (args:List AV) {as:List AV} {bs1 bs2:List Blk} {v:AV} (ho:opL G C m ops i ov H=abg C f args (zu H) H.length) (hR:reach (zu H) ZE (AV.idsL args) []=R) (hA:alh (zu H) args R=some (as,bs1)) (hC:C f as bs1=some (.ret v,bs2))
    (hp:exitP m ops i ov H (amG R H.length v bs2)=some (nw++ov,H')) (h:RV G C m ops (i+1) (nw++ov) H' none Q):RV G C m ops i ov H none Q:=by
  obtain ⟨e,hE,hp⟩:=Option.bind_eq_some_iff.1 hp
  exact ajY (cref R args ho hR hA hC hE) hp h
theorem cownR {f:Nat} {args ps:List AV} {v:AV} {bs:List Blk} {look:Look} {nid:Nat} {R:List Nat} (hR:reach look ZE (AV.idsL args) []=R) (hp:aaU (fun i=>if R.contains i then look i else none) args=some ps) (hC:C f ps []=some (.ret v,bs)) (hb:(v.flat && bs.isEmpty)=false) {v':AV} {bs':List Blk} (hv:(v.ren fun i=>some (nid+i))=some v') (hbs:Qe (fun i=>some (nid+i)) bs=some bs'):
    qR C f args look nid=some (.ok ⟨v',Zj look R,bs'⟩):=by
  subst hR
  unfold qR
  simp only [hp,Option.bind_some,hC,hb,Bool.false_eq_true,if_false,hv,hbs,Option.map_some]
theorem aaS {f:Nat} (R:List Nat) (args:List AV) {ps:List AV} {v v':AV} {bs bs':List Blk} (ho:opL G C m ops i ov H=qR C f args (zu H) H.length) (hR:reach (zu H) ZE (AV.idsL args) []=R) (hp:aaU (fun i=>if R.contains i then zu H i else none) args=some ps) (hC:C f ps []=some (.ret v,bs)) (hb:(v.flat && bs.isEmpty)=false)
    (hv:(v.ren fun i=>some (H.length+i))=some v') (hbs:Qe (fun i=>some (H.length+i)) bs=some bs'):opL G C m ops i ov H=some (.ok ⟨v',Zj (zu H) R,bs'⟩):=ho.trans (cownR hR hp hC hb hv hbs)
theorem ams {v v':AV} {H:List Blk} (h:AV.puriRes (zu H) v=some v'):leave .pure 0 v H=some (v',[]):=by
  simp only [leave,h,Option.bind_some,if_true]
theorem abP {f:Nat} {fn:Func} {ex:Ex} {t:List AV} {HH:List Blk} {v v':AV} (hex:match ex with
    | .normal | .ret=>True
    | _=>False) (hm:G.M f=.pure) (hr:(acM G ⟨t,HH⟩ fn.results.toList).map ag2=some v) (hp:AV.puriRes (zu HH) v=some v'):RetQ G f fn 0 v' [] ex t HH:=by
  refine ⟨hex,?_⟩
  rw [Option.map_eq_some_iff] at hr
  obtain ⟨vs,h1,h2⟩:=hr
  rw [h1,Option.bind_some,h2,hm]
  exact ams hp
def RetE (G:Cfg) (f:Nat) (fn:Func) (n0:Nat) (P:AV→List Blk→Prop):Ex→List AV→List Blk→Prop:=fun ex t HH=>(match ex with
      | .normal | .ret=>True
      | _=>False)∧∃ v H',((acM G ⟨t,HH⟩ fn.results.toList).bind fun vs=>leave (G.M f) n0 (ag2 vs) HH)=some (v,H')∧P v H'
theorem ahV {f n:Nat} {fn:Func} {c:Code} {args:List AV} {P:AV→List Blk→Prop} (m:Nat) (ov:List (Nat × AV)) (hf:G.P.funcs[f]?=some fn) (hb:fn.body=some c) (ht:args++List.replicate (fn.ntmps - args.length) .any=mk m ov)
    (h:WP (exec G (call G n) f n c none ⟨mk m ov,H⟩) (RetE G f fn H.length P)):
    ∃ v H',call G (n+1) f args H=some (.ret v,H')∧P v H':=by
  obtain ⟨ex,tt,HH,e,hex,v,H',hr,hP⟩:=h
  obtain ⟨vs,h1,h2⟩:=Option.bind_eq_some_iff.1 hr
  refine ⟨v,H',?_,hP⟩
  simp only [call,hf,hb,ht,e]
  cases ex <;> simp only at hex <;> simp only [h1,Option.bind_some,h2,Option.map_some]
end
end Go.Ab
