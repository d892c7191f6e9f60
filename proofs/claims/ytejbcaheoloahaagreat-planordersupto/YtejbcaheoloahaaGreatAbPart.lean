import Derived.Test.YtejbcaheoloahaaGreatAbPan
set_option linter.unusedVariables false
set_option linter.unusedSimpArgs false
namespace Go.Ab
open Go
variable {G:Cfg} {C:Z2} {m:Nat} {ops:Array Oper} {i:Nat} {ov ov':List (Nat × AV)} {H H':List Blk}
theorem afB {lo hi:Int} {xl xh:Option AV} {k k':IntKind} {esz id n h:Nat} {u:Unit} (hck:ckB lo hi (h:Int)=some u) (hn:n≤h) (h1:xl=none∧lo=0∨xl=some (.pv (.int k lo))) (h2:xh=none∧hi=(n:Int)∨xh=some (.pv (.int k' hi)))
    (ho:opL G C m ops i ov H=okV (aaC esz (.ref id 0 h esz 0 n) xl xh)):opL G C m ops i ov H=some (.ok ⟨.ref id 0 h esz lo.toNat (hi.toNat - lo.toNat),[],[]⟩):=by
  rw [ho]
  obtain ⟨a,b,c⟩:=Q8 hck
  unfold aaC
  simp only [lenA]
  rw [agU h1 a,afj h2 (by omega)]
  simp only
  by_cases hq:hi.toNat≤n
  · rw [if_pos ⟨by omega,by omega⟩]; simp [okV]
  · rw [if_neg (by omega),if_pos ⟨by omega,by omega,trivial⟩]; simp [okV]
theorem am8 {lo hi mx:Int} {xl xh xm:Option AV} {k k' k2:IntKind} {x:AV} {n:Nat} {u u2:Unit} (hck:ckB lo hi mx=some u) (hck2:ckB 0 mx (n:Int)=some u2) (hl:lenA x=some n) (hx:(match x with | .pv (.sl _) | .pv .nils | .ref ..=>true | _=>false)=true)
    (h1:xl=none∧lo=0∨xl=some (.pv (.int k lo))) (h2:xh=some (.pv (.int k' hi))) (h3:xm=some (.pv (.int k2 mx)))
    (ho:opL G C m ops i ov H=okV (afS x xl xh xm)):opL G C m ops i ov H=some (.ok ⟨.any,[],[]⟩):=by
  rw [ho]
  obtain ⟨a,b,c⟩:=Q8 hck
  obtain ⟨a2,b2,c2⟩:=Q8 hck2
  subst h2; subst h3
  unfold afS
  rw [hl]
  simp only
  rw [agU h1 a,afj (x:=some (.pv (.int k' hi))) (n:=n) (.inr rfl) (by omega),afj (x:=some (.pv (.int k2 mx))) (n:=n) (.inr rfl) (by omega)]
  simp only
  rw [if_pos ⟨by omega,by omega,by omega⟩]
  split at hx
  · rfl
  · rfl
  · rfl
  · cases hx
theorem an7 {α:Type} (R:α→List PV) (l ys:List α) {y:AV} {id n h fl t e esz b:Nat} {sz bt:Nat} {ag:Bool} {z:List PV} {ei:TI} {c c2:Unit} (ht:G.T t=some ⟨.slice e,sz,bt,ag,z⟩) (he:G.T e=some ei) (hs:ei.size=esz) (h0:Nat.beq esz 0=false) (hb:ei.bytes=b) (hR:∀ x,(R x).length=esz) (hne:ys.isEmpty=false) (hck:ckB 0 ((n+ys.length:Nat):Int) (l.length:Int)=some c2)
    (hl:zo H id=some (bR e esz R l fl 0)) (hn:h=l.length) (hf:fl≤l.length) (hy:ZE y (zo H)=some (ys.map R)) (ho:opL G C m ops i ov H=(ZE y (zo H)).bind fun rows=>okE (qD G.T H.length t (.ref id 0 h esz 0 n) rows (zo H))):
    opL G C m ops i ov H=some (.ok ⟨.ref id 0 h esz 0 (n+ys.length),[(id,bR e esz R (l.take n++(ys++l.drop (n+ys.length))) h 0)],[]⟩):=by
  rw [ho,hy,Option.bind_some]
  obtain ⟨_,_,c3⟩:=Q8 hck
  have hpos:0 < ys.length:=by cases ys with | nil=>cases hne | cons a l=>simp
  subst hn
  unfold qD
  simp only [ht,he]
  rw [if_pos ⟨(by subst hs; intro q; rw [q] at h0; cases h0),by rw [List.all_eq_true]; intro r hr; obtain ⟨q,_,rfl⟩:=List.mem_map.1 hr; rw [hR,hs]; simp⟩]
  simp only [hl,bR]
  rw [if_neg (by intro q; have:=q.2.2.1; omega)]
  rw [if_pos ⟨(by trivial),by simp,hf,(by trivial),by rw [List.length_map]; omega,hs.symm,(by trivial),(by trivial),(by trivial)⟩]
  have hem:(ys.map R).isEmpty=false:=by cases ys with | nil=>cases hne | cons a l=>rfl
  simp only [hem,Bool.false_eq_true,if_false,okE,Option.map_some]
  simp only [List.length_map,List.map_append,List.map_take,List.map_drop]
theorem amN {α:Type} (R:α→List PV) (l ys:List α) {y:AV} {id n h fl t e esz b:Nat} {sz bt:Nat} {ag:Bool} {z:List PV} {ei:TI} {c:Unit} (ht:G.T t=some ⟨.slice e,sz,bt,ag,z⟩) (he:G.T e=some ei) (hs:ei.size=esz) (h0:Nat.beq esz 0=false) (hb:ei.bytes=b) (hne:ys.isEmpty=true) (hck:ckA b l.length=some c) (hnh:n≤l.length)
    (hl:zo H id=some (bR e esz R l fl 0)) (hn:h=l.length) (hf:fl≤l.length) (hy:ZE y (zo H)=some (ys.map R)) (ho:opL G C m ops i ov H=(ZE y (zo H)).bind fun rows=>okE (qD G.T H.length t (.ref id 0 h esz 0 n) rows (zo H))):
    opL G C m ops i ov H=some (.ok ⟨.ref id 0 h esz 0 n,[],[]⟩):=by
  have:ys=[]:=by simpa using hne
  subst this
  by_cases hq:n=h
  · subst hq
    rw [ho,hy,Option.bind_some]
    obtain ⟨c1,c2⟩:=ag6 hck
    subst hn
    have:=af8 (nid:=H.length) ht rfl he hs (by intro h; rw [h] at h0; cases h0) hl (abX rfl hf) (by rw [hb]; exact c1) c2
    rw [List.map_nil]
    unfold aR at this
    rw [this]; rfl
  · rw [ho,hy,Option.bind_some]
    subst hn
    unfold qD
    simp only [ht,he]
    rw [if_pos ⟨(by subst hs; intro q; rw [q] at h0; cases h0),by simp⟩]
    simp only [hl,bR]
    rw [if_neg (by intro q; exact hq q.2.2.1)]
    rw [if_pos ⟨(by trivial),by simp,hf,(by trivial),by simp; exact hnh,hs.symm,(by trivial),(by trivial),(by trivial)⟩]
    simp [okE]
theorem alI {α:Type} (R:α→List PV) (l:List α) (zz:α) {id h fl t e esz off k:Nat} {sz bt:Nat} {ag:Bool} {z:List PV} {ei:TI} (ht:G.T t=some ⟨.slice e,sz,bt,ag,z⟩) (he:G.T e=some ei) (hs:ei.size=esz) (h0:Nat.beq esz 0=false) (hz:ei.zero=R zz) (hk:off+k≤l.length)
    (hl:zo H id=some (bR e esz R l fl 0)) (hn:h=l.length) (hf:fl≤l.length) (hp:Nat.beq k 0=false) (ho:opL G C m ops i ov H=Qv G .clear [t] [.ref id 0 h esz off k] (zo H) H.length):
    opL G C m ops i ov H=some (.ok ⟨.tup [],[(id,bR e esz R (l.take off++(List.replicate k zz++l.drop (off+k))) h 0)],[]⟩):=by
  rw [ho]
  subst hn
  simp only [Qv]
  unfold aeJ
  simp only [ht,he]
  have hk0:k≠0:=by intro q; rw [q] at hp; cases hp
  rw [if_neg hk0]
  simp only [hl,bR]
  rw [if_pos ⟨(by trivial),by simp,hf,hk,hs.symm,(by trivial),(by trivial),(by trivial),by intro q; rw [q] at h0; cases h0⟩]
  simp only [okE,Option.map_some,List.map_append,List.map_take,List.map_drop,List.map_replicate,hz]
theorem akI {id h t e esz off k:Nat} {sz bt:Nat} {ag:Bool} {z:List PV} {ei:TI} (ht:G.T t=some ⟨.slice e,sz,bt,ag,z⟩) (he:G.T e=some ei) (hp:Nat.beq k 0=true) (ho:opL G C m ops i ov H=Qv G .clear [t] [.ref id 0 h esz off k] (zo H) H.length):
    opL G C m ops i ov H=some (.ok ⟨.tup [],[],[]⟩):=by
  rw [ho]
  have hk0:k=0:=Nat.eq_of_beq_eq_true hp
  simp only [Qv]
  unfold aeJ
  simp only [ht,he]
  rw [if_pos hk0]; rfl
theorem al9 {t e:Nat} {sz bt:Nat} {ag:Bool} {z:List PV} {ei:TI} (ht:G.T t=some ⟨.slice e,sz,bt,ag,z⟩) (he:G.T e=some ei) (ho:opL G C m ops i ov H=Qv G .clear [t] [.pv .nils] (zo H) H.length):
    opL G C m ops i ov H=some (.ok ⟨.tup [],[],[]⟩):=by
  rw [ho]
  simp only [Qv]
  unfold aeJ
  simp only [ht,he]; rfl
theorem aoP {α:Type} {R:α→List PV} {l:List α} {id fl fz e esz k n h:Nat} {look:Look} (hl:look id=some (bR e esz R l fl fz)) (hn:h=l.length) (hf:fl≤l.length) (hnh:n≤l.length):AV.pureOf look (k+1) (.ref id 0 h esz 0 n)=some (.sl ((l.take n).map R)):=by
  simp only [AV.pureOf,hl]
  rw [if_pos (by rw [abX hn hf]; subst hn; simp; exact hnh)]
  rw [List.drop_zero,List.map_take]
theorem amT {hi:Int} {xh:Option AV} {k':IntKind} {esz id n h:Nat} {u:Unit} (hck:ckB 0 hi (h:Int)=some u) (hn:n≤h) (h2:xh=none∧hi=(n:Int)∨xh=some (.pv (.int k' hi)))
    (ho:opL G C m ops i ov H=okV (aaC esz (.ref id 0 h esz 0 n) none xh)):opL G C m ops i ov H=some (.ok ⟨.ref id 0 h esz 0 hi.toNat,[],[]⟩):=
  afB (k:=.i64) hck hn (.inl ⟨rfl,rfl⟩) h2 ho
theorem anF {α:Type} {R:α→List PV} {l:List α} {id fl fz e esz k n h off:Nat} {look:Look} (hl:look id=some (bR e esz R l fl fz)) (hn:h=l.length) (hf:fl≤l.length) (hnh:off+n≤l.length):AV.pureOf look (k+1) (.ref id 0 h esz off n)=some (.sl (((l.drop off).take n).map R)):=by
  simp only [AV.pureOf,hl]
  rw [if_pos (by rw [abX hn hf]; subst hn; simp; exact hnh)]
  rw [List.map_take,List.map_drop]
end Go.Ab
