import Derived.Test.YtejbcaheoloahaaAbLift
import Derived.Test.YtejbcaheoloahaaAbFlt
namespace Go.Pl
open Go Go.Ab
theorem at1_succ {α : Type} {n : Nat} {F : Nat → Option α} : at1 (n + 1) F = F n := rfl
theorem wrapI {x : Int} (h1 : -9223372036854775808 ≤ x) (h2 : x < 9223372036854775808) : IntKind.wrap .i64 x = x := by simp [IntKind.wrap, IntKind.signed, IntKind.bits]; omega
theorem wrapN {i : Nat} (h : i < 1000000000000) : IntKind.wrap .i64 ((i : Int) + 1) = ((i + 1 : Nat) : Int) := by
  rw [wrapI (by omega) (by omega)]; omega
theorem idx_nat {α : Type} (l : List α) (i : Nat) : idx l (i : Int) = l[i]? := by
  unfold idx
  rw [if_pos (by omega)]; rfl
theorem sEq_iff {x y : ByteArray} : sEq x y = true ↔ x = y := by
  unfold sEq
  rw [beq_iff_eq, ByteArray.toList_eq, ByteArray.toList_eq]
  constructor
  · intro h
    apply ByteArray.ext
    exact Array.toList_inj.1 h
  · intro h; rw [h]
theorem sEq_self (x : ByteArray) : sEq x x = true := sEq_iff.2 rfl
end Go.Pl
