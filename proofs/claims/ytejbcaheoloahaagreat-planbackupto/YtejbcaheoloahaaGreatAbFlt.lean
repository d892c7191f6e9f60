import Derived.Test.YtejbcaheoloahaaGreatAbStr
set_option maxRecDepth 100000
set_option linter.unusedVariables false
set_option linter.unusedSimpArgs false
namespace Go.Ab
open Go
def qE (f:Nat):Bool:=FloatKind.f64.format.order f f != some .eq
def isZero (f:Nat):Bool:=FloatKind.f64.format.order f 0 == some .eq
def ane (f:Nat):Bool:=decide (IntKind.i64.wrap (f:Int) < 0)
theorem an8 {f:Nat} (hf:f < 2 ^ 64):ane f=decide (2 ^ 63≤f):=by
  unfold ane
  congr 1
  simp only [IntKind.wrap,IntKind.signed,IntKind.bits]
  simp
  omega
theorem ahv {neg:Bool} {m up:Nat} (h:Ieee.signed neg m up=0):m=0:=by
  have h2:m <<< up=0:=by
    unfold Ieee.signed at h
    split at h <;> omega
  rw [Nat.shiftLeft_eq] at h2
  rcases Nat.mul_eq_zero.1 h2 with h | h
  · exact h
  · exact absurd h (Nat.ne_of_gt (Nat.pow_pos (by decide)))
theorem air (up:Nat):Ieee.signed false 0 up=0:=by simp [Ieee.signed]
theorem agA {f:Nat} (hf:f < 2 ^ 64) (h:isZero f=true):f=0∨f=2 ^ 63:=by
  have h0:FloatKind.f64.format.read 0=.number false 0 Ieee.double.leastPlace:=by decide
  unfold isZero at h
  rw [beq_iff_eq,Ieee.Format.order,h0] at h
  simp only [Ieee.Format.read,show FloatKind.f64.format=Ieee.double from rfl] at h
  have e1:Ieee.double.signWeight=2 ^ 63:=by decide
  have e2:Ieee.double.binade=2 ^ 52:=by decide
  rw [e1,e2] at h
  split at h
  · simp only [Ieee.Datum.order,Option.some.injEq,Std.LawfulEqCmp.compare_eq_iff_eq] at h
    rw [air] at h
    have:f % 2 ^ 63=0:=ahv h
    omega
  · split at h
    · simp only [Ieee.Datum.order,Option.some.injEq,Std.LawfulEqCmp.compare_eq_iff_eq] at h
      rw [air] at h
      have:=ahv h
      omega
    · split at h <;> simp only [Ieee.Datum.order] at h
      · exfalso; revert h; split <;> simp
      · cases h
theorem adN {f:Nat} (hf:f < 2 ^ 64) (h:qE f=true):isZero f=false:=by
  cases hz:isZero f with
  | false=>rfl
  | true=>
    rcases agA hf hz with rfl | rfl
    · exact absurd h (by decide)
    · exact absurd h (by decide)
end Go.Ab
