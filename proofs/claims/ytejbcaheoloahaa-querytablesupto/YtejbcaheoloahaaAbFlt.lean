import Derived.Test.YtejbcaheoloahaaAbStr
set_option maxRecDepth 100000
namespace Go.Ab
open Go
def isZero (f : Nat) : Bool := FloatKind.f64.format.order f 0 == some .eq
def signb (f : Nat) : Bool := decide (IntKind.i64.wrap (f : Int) < 0)
def emp (s : ByteArray) : Bool := s.toList == (⟨#[]⟩ : ByteArray).toList
end Go.Ab
