import Derived.Test.YtejbcaheoloahaaGreatAbPan
namespace Go.Ab
open Go
theorem amP {n0:Nat} {x x':AV} {H H1 H':List Blk} {y:AV} (R:List Nat) (hR:reach (zp H) Zl (AV.ids x) []=R)
    (hp:x.puriRes (fun i=>if R.contains i then zp H i else none)=some x') (hH:aaV R 0 H=H1) (hl:leave .byref n0 x' H1=some (y,H')):leave .byrefP n0 x H=some (y,H'):=by
  subst hR; subst hH
  simp only [leave] at hl
  simp only [leave,akI,hp,Option.map_some,Option.bind_some]
  exact hl
theorem Zo {G:Cfg} {f:Nat} {fn:Func} {t:List AV} {n0:Nat} {x x':AV} {HH H1 H':List Blk} {y:AV} (R:List Nat) (hr:(ab2 G ⟨t,HH⟩ fn.results.toList).map agr=some x) (hm:G.M f=.byrefP)
    (hR:reach (zp HH) Zl (AV.ids x) []=R) (hp:x.puriRes (fun i=>if R.contains i then zp HH i else none)=some x') (hH:aaV R 0 HH=H1) (hl:leave .byref n0 x' H1=some (y,H')):
    ((ab2 G ⟨t,HH⟩ fn.results.toList).bind fun vs=>leave (G.M f) n0 (agr vs) HH)=some (y,H'):=by
  rw [Option.map_eq_some_iff] at hr
  obtain ⟨vs,h1,h2⟩:=hr
  rw [h1,Option.bind_some,h2,hm]
  exact amP R hR hp hH hl
end Go.Ab
