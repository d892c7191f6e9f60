import Derived.Test.YtejbcaheoloahaaGreatAbPan
namespace Go.Ab
open Go
theorem ae8 {lk:Look}{ks:List Nat}{j:Nat}{v:AV}{r r':List AV}(hk:ks.contains j=true) (h:purC lk ks (j+1) r=some r'):purC lk ks j (v::r)=some (v::r'):=by
 simp only [purC,hk,if_true,jc,h,Option.map_some]
theorem ZI {lk:Look}{ks:List Nat}{j:Nat}{v:AV}{p:PV}{r r':List AV}(hk:ks.contains j=false) (hp:AV.pureOf lk 4 v=some p) (h:purC lk ks (j+1) r=some r'):purC lk ks j (v::r)=some (.pv p::r'):=by
 simp only [purC,hk,Bool.false_eq_true,if_false,hp,Option.map_some,jc,h]
theorem asf {ks:List Nat}{n0:Nat}{cs cs':List AV}{H H1 H':List Blk}{y:AV}(R:List Nat) (hR:reach (zr H) Zv (AV.idsL (outC ks 0 cs)) []=R)
  (hp:purC (fun i=>if R.contains i then zr H i else none) ks 0 cs=some cs') (hH:abv R 0 H=H1) (hl:leave .own n0 (.agg cs') H1=some (y,H')):leave (.ownAt ks) n0 (.agg cs) H=some (y,H'):=by
 subst hR;subst hH
 simp only [leave] at hl
 simp only [leave,ap7,hp,Option.map_some,jc]
 exact hl
theorem agR {G:Cfg}{f:Nat}{fn:Func}{t:List AV}{ks:List Nat}{n0:Nat}{cs cs':List AV}{HH H1 H':List Blk}{y:AV}(R:List Nat) (hr:(acy G ⟨t,HH⟩ fn.results.toList).map af4=some (.agg cs)) (hm:G.M f=.ownAt ks)
  (hR:reach (zr HH) Zv (AV.idsL (outC ks 0 cs)) []=R) (hp:purC (fun i=>if R.contains i then zr HH i else none) ks 0 cs=some cs') (hH:abv R 0 HH=H1) (hl:leave .own n0 (.agg cs') H1=some (y,H')):
  ((acy G ⟨t,HH⟩ fn.results.toList).bind fun vs=>leave (G.M f) n0 (af4 vs) HH)=some (y,H'):=by
 rw [jk] at hr
 obtain ⟨vs,h1,h2⟩:=hr
 rw [h1,jc,h2,hm]
 exact asf R hR hp hH hl
theorem apN {n0:Nat}{x x':AV}{H H1 H':List Blk}{y:AV}(R:List Nat) (hR:reach (zr H) Zv (AV.ids x) []=R)
  (hp:x.puriRes (fun i=>if R.contains i then zr H i else none)=some x') (hH:abv R 0 H=H1) (hl:leave .byref n0 x' H1=some (y,H')):leave .byrefP n0 x H=some (y,H'):=by
 subst hR;subst hH
 simp only [leave] at hl
 simp only [leave,anP,hp,Option.map_some,jc]
 exact hl
theorem zC {G:Cfg}{f:Nat}{fn:Func}{t:List AV}{n0:Nat}{x x':AV}{HH H1 H':List Blk}{y:AV}(R:List Nat) (hr:(acy G ⟨t,HH⟩ fn.results.toList).map af4=some x) (hm:G.M f=.byrefP)
  (hR:reach (zr HH) Zv (AV.ids x) []=R) (hp:x.puriRes (fun i=>if R.contains i then zr HH i else none)=some x') (hH:abv R 0 HH=H1) (hl:leave .byref n0 x' H1=some (y,H')):
  ((acy G ⟨t,HH⟩ fn.results.toList).bind fun vs=>leave (G.M f) n0 (af4 vs) HH)=some (y,H'):=by
 rw [jk] at hr
 obtain ⟨vs,h1,h2⟩:=hr
 rw [h1,jc,h2,hm]
 exact apN R hR hp hH hl
end Go.Ab
