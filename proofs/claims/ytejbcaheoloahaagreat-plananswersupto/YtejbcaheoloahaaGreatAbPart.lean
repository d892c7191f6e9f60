import Derived.Test.YtejbcaheoloahaaGreatAbPan
set_option linter.all false
namespace Go.Ab
open Go
variable {G:Cfg}{C:qi}{m:Nat}{ops:Array Oper}{i:Nat}{ov ov':List (Nat×AV)}{H H':List Blk}
theorem aiR {lo hi:Int}{xl xh:Option AV}{k k':IntKind}{esz id n h:Nat}{u:Unit}(hck:ckB lo hi (h:Int)=some u) (hn:n≤h) (h1:xl=none∧lo=0∨xl=some (.pv (.int k lo))) (h2:xh=none∧hi=(n:Int)∨xh=some (.pv (.int k' hi)))
  (ho:opL G C m ops i ov H=okV (ab9 esz (.ref id 0 h esz 0 n) xl xh)):opL G C m ops i ov H=some (.ok ⟨.ref id 0 h esz lo.toNat (hi.toNat-lo.toNat),[],[]⟩):=by
 rw [ho]
 obtain ⟨a,b,c⟩:=abO hck
 unfold ab9
 simp only [lenA]
 rw [anl h1 a,akx h2 hO]
 simp only
 by_cases hq:hi.toNat≤n
 ·rw [if_pos ⟨hO,hO⟩];simp [okV]
 rw [if_neg hO,if_pos ⟨hO,hO,trivial⟩];simp [okV]
theorem atu {lo hi mx:Int}{xl xh xm:Option AV}{k k' k2:IntKind}{x:AV}{n:Nat}{u u2:Unit}(hck:ckB lo hi mx=some u) (hck2:ckB 0 mx (n:Int)=some u2) (hl:lenA x=some n) (hx:(match x with|.pv (.sl _)|.pv .nils|.ref ..=>true|_=>false)=true)
  (h1:xl=none∧lo=0∨xl=some (.pv (.int k lo))) (h2:xh=some (.pv (.int k' hi))) (h3:xm=some (.pv (.int k2 mx)))
  (ho:opL G C m ops i ov H=okV (ai6 x xl xh xm)):opL G C m ops i ov H=some (.ok ⟨.any,[],[]⟩):=by
 rw [ho]
 obtain ⟨a,b,c⟩:=abO hck
 obtain ⟨a2,b2,c2⟩:=abO hck2
 subst h2;subst h3
 unfold ai6
 rw [hl]
 simp only
 rw [anl h1 a,akx (x:=some (.pv (.int k' hi))) (n:=n) (.inr rfl) hO,akx (x:=some (.pv (.int k2 mx))) (n:=n) (.inr rfl) hO]
 simp only
 rw [if_pos ⟨hO,hO,hO⟩]
 split at hx
 ·rfl
 ·rfl
 ·rfl
 cases hx
theorem atA {α:Type}(R:α→List PV) (l ys:List α) {y:AV}{id n h fl t e esz b:Nat}{sz bt:Nat}{ag:Bool}{z:List PV}{ei:TI}{c c2:Unit}(ht:G.T t=some ⟨.slice e,sz,bt,ag,z⟩) (he:G.T e=some ei) (hs:ei.size=esz) (h0:Nat.beq esz 0=false) (hb:ei.bytes=b) (hR:∀ x,(R x).length=esz) (hne:ys.isEmpty=false) (hck:ckB 0 ((n+ys.length:Nat):Int) (l.length:Int)=some c2)
  (hl:zw H id=some (bR e esz R l fl 0)) (hn:h=l.length) (hf:fl≤l.length) (hy:Zm y (zw H)=some (ys.map R)) (ho:opL G C m ops i ov H=(Zm y (zw H)).bind fun rows=>okE (Qe G.T H.length t (.ref id 0 h esz 0 n) rows (zw H))):
  opL G C m ops i ov H=some (.ok ⟨.ref id 0 h esz 0 (n+ys.length),[(id,bR e esz R (l.take n++(ys++l.drop (n+ys.length))) h 0)],[]⟩):=by
 rw [ho,hy,hZ]
 obtain ⟨_,_,c3⟩:=abO hck
 have hpos:0<ys.length:=by cases ys with|nil=>cases hne|cons a l=>simp
 subst hn
 unfold Qe
 simp only [ht,he]
 rw [if_pos ⟨(by subst hs;intro q;rw [q] at h0;cases h0),by rw [List.all_eq_true];intro r hr;obtain ⟨q,_,rfl⟩:=List.mem_map.1 hr;rw [hR,hs];simp⟩]
 simp only [hl,bR]
 rw [if_neg (by intro q;have:=q.2.2.1;omega)]
 rw [if_pos ⟨(by trivial),by simp,hf,(by trivial),by rw [List.length_map];omega,hs.symm,(by trivial),(by trivial),(by trivial)⟩]
 have hem:(ys.map R).isEmpty=false:=by cases ys with|nil=>cases hne|cons a l=>rfl
 simp only [hem,Bool.false_eq_true,if_false,okE,Option.map_some]
 simp only [List.length_map,List.map_append,List.map_take,List.map_drop]
theorem asF {α:Type}(R:α→List PV) (l ys:List α) {y:AV}{id n h fl t e esz b:Nat}{sz bt:Nat}{ag:Bool}{z:List PV}{ei:TI}{c:Unit}(ht:G.T t=some ⟨.slice e,sz,bt,ag,z⟩) (he:G.T e=some ei) (hs:ei.size=esz) (h0:Nat.beq esz 0=false) (hb:ei.bytes=b) (hne:ys.isEmpty=true) (hck:ckA b l.length=some c) (hnh:n≤l.length)
  (hl:zw H id=some (bR e esz R l fl 0)) (hn:h=l.length) (hf:fl≤l.length) (hy:Zm y (zw H)=some (ys.map R)) (ho:opL G C m ops i ov H=(Zm y (zw H)).bind fun rows=>okE (Qe G.T H.length t (.ref id 0 h esz 0 n) rows (zw H))):
  opL G C m ops i ov H=some (.ok ⟨.ref id 0 h esz 0 n,[],[]⟩):=by
 have:ys=[]:=by simpa using hne
 subst this
 by_cases hq:n=h
 ·subst hq
  rw [ho,hy,hZ]
  obtain ⟨c1,c2⟩:=akH hck
  subst hn
  have:=ajz (nid:=H.length) ht rfl he hs (by intro h;rw [h] at h0;cases h0) hl (aeG rfl hf) (by rw [hb];exact c1) c2
  rw [List.map_nil]
  unfold aR at this
  rw [this];rfl
 rw [ho,hy,hZ]
 subst hn
 unfold Qe
 simp only [ht,he]
 rw [if_pos ⟨(by subst hs;intro q;rw [q] at h0;cases h0),by simp⟩]
 simp only [hl,bR]
 rw [if_neg (by intro q;exact hq q.2.2.1)]
 rw [if_pos ⟨(by trivial),by simp,hf,(by trivial),by simp;exact hnh,hs.symm,(by trivial),(by trivial),(by trivial)⟩]
 simp [okE]
theorem aq0 {α:Type}(R:α→List PV) (l:List α) (zz:α) {id h fl t e esz off k:Nat}{sz bt:Nat}{ag:Bool}{z:List PV}{ei:TI}(ht:G.T t=some ⟨.slice e,sz,bt,ag,z⟩) (he:G.T e=some ei) (hs:ei.size=esz) (h0:Nat.beq esz 0=false) (hz:ei.zero=R zz) (hk:off+k≤l.length)
  (hl:zw H id=some (bR e esz R l fl 0)) (hn:h=l.length) (hf:fl≤l.length) (hp:Nat.beq k 0=false) (ho:opL G C m ops i ov H=Q7 G .clear [t] [.ref id 0 h esz off k] (zw H) H.length):
  opL G C m ops i ov H=some (.ok ⟨.tup [],[(id,bR e esz R (l.take off++(List.replicate k zz++l.drop (off+k))) h 0)],[]⟩):=by
 rw [ho]
 subst hn
 simp only [Q7]
 unfold ahm
 simp only [ht,he]
 have hk0:k≠0:=by intro q;rw [q] at hp;cases hp
 rw [if_neg hk0]
 simp only [hl,bR]
 rw [if_pos ⟨(by trivial),by simp,hf,hk,hs.symm,(by trivial),(by trivial),(by trivial),by intro q;rw [q] at h0;cases h0⟩]
 simp only [okE,Option.map_some,List.map_append,List.map_take,List.map_drop,List.map_replicate,hz]
theorem aqz {id h t e esz off k:Nat}{sz bt:Nat}{ag:Bool}{z:List PV}{ei:TI}(ht:G.T t=some ⟨.slice e,sz,bt,ag,z⟩) (he:G.T e=some ei) (hp:Nat.beq k 0=true) (ho:opL G C m ops i ov H=Q7 G .clear [t] [.ref id 0 h esz off k] (zw H) H.length):
  opL G C m ops i ov H=some (.ok ⟨.tup [],[],[]⟩):=by
 rw [ho]
 have hk0:k=0:=Nat.eq_of_beq_eq_true hp
 simp only [Q7]
 unfold ahm
 simp only [ht,he]
 rw [if_pos hk0];rfl
theorem asn {t e:Nat}{sz bt:Nat}{ag:Bool}{z:List PV}{ei:TI}(ht:G.T t=some ⟨.slice e,sz,bt,ag,z⟩) (he:G.T e=some ei) (ho:opL G C m ops i ov H=Q7 G .clear [t] [.pv .nils] (zw H) H.length):
  opL G C m ops i ov H=some (.ok ⟨.tup [],[],[]⟩):=by
 rw [ho]
 simp only [Q7]
 unfold ahm
 simp only [ht,he];rfl
theorem au3 {α:Type}{R:α→List PV}{l:List α}{id fl fz e esz k n h:Nat}{look:Look}(hl:look id=some (bR e esz R l fl fz)) (hn:h=l.length) (hf:fl≤l.length) (hnh:n≤l.length):AV.pureOf look (k+1) (.ref id 0 h esz 0 n)=some (.sl ((l.take n).map R)):=by
 simp only [AV.pureOf,hl]
 rw [if_pos (by rw [aeG hn hf];subst hn;simp;exact hnh)]
 rw [List.drop_zero,List.map_take]
theorem ar0 {hi:Int}{xh:Option AV}{k':IntKind}{esz id n h:Nat}{u:Unit}(hck:ckB 0 hi (h:Int)=some u) (hn:n≤h) (h2:xh=none∧hi=(n:Int)∨xh=some (.pv (.int k' hi)))
  (ho:opL G C m ops i ov H=okV (ab9 esz (.ref id 0 h esz 0 n) none xh)):opL G C m ops i ov H=some (.ok ⟨.ref id 0 h esz 0 hi.toNat,[],[]⟩):=
 aiR (k:=.i64) hck hn (.inl ⟨rfl,rfl⟩) h2 ho
end Go.Ab
