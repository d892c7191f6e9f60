import Derived.Test.YtejbcaheoloahaaGreatAbLift
import Derived.Test.YtejbcaheoloahaaGreatAbFlt
namespace Go.Pl
open Go Go.Ab
theorem zD {α:Type} {n:Nat} {F:Nat→Option α}:at1 (n+1) F=F n:=rfl
theorem aa7 {x:Int} (h1:-9223372036854775808≤x) (h2:x < 9223372036854775808):IntKind.wrap .i64 x=x:=by simp [IntKind.wrap,IntKind.signed,IntKind.bits]; omega
theorem anR {x:Int} (h1:0≤x) (h2:x < 18446744073709551616):IntKind.wrap .u64 x=x:=by simp [IntKind.wrap,IntKind.signed,IntKind.bits]; omega
theorem ado {i:Nat} (h:i < 1000000000000):IntKind.wrap .i64 ((i:Int)+1)=((i+1:Nat):Int):=by
  rw [aa7 (by omega) (by omega)]; omega
theorem aaK {α:Type} (l:List α) (i:Nat):idx l (i:Int)=l[i]?:=by
  unfold idx
  rw [if_pos (by omega)]; rfl
theorem alF {x y:ByteArray}:sEq x y=true↔x=y:=by
  unfold sEq
  rw [beq_iff_eq,ByteArray.toList_eq,ByteArray.toList_eq]
  constructor
  · intro h
    apply ByteArray.ext
    exact Array.toList_inj.1 h
  · intro h; rw [h]
theorem amX (x:ByteArray):sEq x x=true:=alF.2 rfl
end Go.Pl
