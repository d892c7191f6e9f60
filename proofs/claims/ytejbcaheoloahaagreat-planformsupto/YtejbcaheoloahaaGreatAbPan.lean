import Derived.Test.YtejbcaheoloahaaGreatAbArr
import Derived.Test.YtejbcaheoloahaaGreatAbRec
namespace Go.Ab
open Go
variable {G:Cfg} {C:ZL} {m:Nat} {ops:Array Oper} {i:Nat} {ov ov':List (Nat × AV)} {H H':List Blk}
theorem aaL {look:Look} {cs vs:List AV} {ps:List PV} (h:acJ (AV.pureOf look 4) cs=some ps) (e:ps.map AV.pv=vs):AV.puri look (.agg cs)=some (.agg vs):=by
  subst e
  simp only [AV.puri,h,Option.map_some]
theorem alN {α:Type} (R:α→List PV) (l:List α) (x':α) {x:α} {c:List PV} {j:Int} {t e id esz n off fl:Nat} {ti:TI} {v:AV} {vs:List AV} {ps:List PV} (ht:G.T t=some ti) (hl:zu H id=some (bR e esz R l fl 0)) (h:idx l j=some x) (hn:n=l.length) (hf:fl≤l.length)
    (hc:v.cells=some vs) (hp:aaw vs=some ps) (hs:vs.length=ti.size) (hcx:R x=c) (hx:acq c off ps=some (R x')):
    abv G.T t (.eptr id 0 n esz (0+j.toNat) off) v (zu H)=some ⟨.undef,[(id,bR e esz R (l.set j.toNat x') n 0)],[]⟩:=by
  subst hcx
  obtain ⟨h0,h⟩:=adS h
  have hlt:j.toNat < l.length:=(List.getElem?_eq_some_iff.1 h).1
  unfold abv
  simp only [ht,hc,hl,Nat.zero_add]
  rw [if_pos hs,if_pos ⟨trivial,by subst hn; simp,by omega,trivial,by omega,trivial⟩]
  rw [List.getElem?_map,h,hp]
  simp only [Option.map_some,hx]
  simp only [bR,List.map_set]
theorem aen {α:Type} (R:α→List PV) (l:List α) (x':α) {x:α} {c:List PV} {j:Int} {t e id esz n off fl:Nat} {ti:TI} {v:AV} {vs:List AV} {ps:List PV} (ht:G.T t=some ti) (hl:zu H id=some (bR e esz R l fl 0)) (h:idx l j=some x) (hn:n=l.length) (hf:fl≤l.length)
    (hc:v.cells=some vs) (hp:aaw vs=some ps) (hs:vs.length=ti.size) (hcx:R x=c) (hx:acq c off ps=some (R x')) (ho:opL G C m ops i ov H=okE (abv G.T t (.eptr id 0 n esz (0+j.toNat) off) v (zu H))):
    opL G C m ops i ov H=some (.ok ⟨.undef,[(id,bR e esz R (l.set j.toNat x') n 0)],[]⟩):=by
  rw [ho,alN R l x' ht hl h hn hf hc hp hs hcx hx]; rfl
theorem agX {α:Type} (R:α→List PV) (l:List α) (x':α) {x:α} {c:List PV} {j:Int} {t e id esz n off fl:Nat} {ti:TI} {v:AV} {vs:List AV} {ps:List PV} (Rs:List Nat) (v':AV) (ht:G.T t=some ti) (hl:zu H id=some (bR e esz R l fl 0)) (h:idx l j=some x) (hn:n=l.length) (hf:fl≤l.length)
    (hR:reach (zu H) ZE (AV.idsL [v]) []=Rs) (hd:Rs.contains id=false) (hq:aaU (fun i=>if Rs.contains i then zu H i else none) [v]=some [v'])
    (hc:v'.cells=some vs) (hp:aaw vs=some ps) (hs:vs.length=ti.size) (hcx:R x=c) (hx:acq c off ps=some (R x')) (ho:opL G C m ops i ov H=okE (acC G.T t (.eptr id 0 n esz (0+j.toNat) off) v (zu H))):
    opL G C m ops i ov H=some (.ok ⟨.undef,Zj (zu H) Rs++[(id,bR e esz R (l.set j.toNat x') n 0)],[]⟩):=by
  rw [ho]
  subst hR
  have hq':v.puri (fun i=>if (reach (zu H) ZE (AV.idsL [v]) []).contains i then zu H i else none)=some v':=by
    simp only [aaU] at hq
    obtain ⟨a,h1,h2⟩:=Option.bind_eq_some_iff.1 hq
    simp only [Option.map_some,Option.some.injEq,List.cons.injEq,and_true] at h2
    rw [h1,h2]
  unfold acC
  simp only [qw,List.any_cons,List.any_nil,Bool.or_false,hd,Bool.false_eq_true,if_false,hq',Option.bind_some,alN R l x' ht hl h hn hf hc hp hs hcx hx,Option.map_some,okE]
end Go.Ab
