import Derived.Test.YtejbcaheoloahaaPL
import Derived.Test.YtejbcaheoloahaaPA
import Derived.Test.YtejbcaheoloahaaAbFlt
import Derived.Sort.Statements
import Derived.Test.YtejbcaheoloahaaPC
namespace Go.Pl
open Go Go.Ab
def posZ (f : Nat) : Bool := isZero f && !signb f
def empS (s : ByteArray) : Bool := sEq s ByteArray.empty
def vRight (v : api_Value) : Bool :=
  if v.fKind = 0 then v.fInt == 0 && (posZ v.fFloat && empS v.fText)
  else if v.fKind = 1 then (v.fInt == 0 || v.fInt == 1) && (posZ v.fFloat && empS v.fText)
  else if v.fKind = 2 then posZ v.fFloat && empS v.fText
  else if v.fKind = 3 then v.fInt == 0 && empS v.fText
  else if v.fKind = 4 then v.fInt == 0 && (posZ v.fFloat && decide ((v.fText.size : Int) ≤ 64))
  else false
theorem math_Signbit_ok (f : Nat) {n : Nat} (h : 1 ≤ n) : math_Signbit n f = some (signb f) := by
  obtain ⟨n, rfl⟩ : ∃ k, n = k + 1 := ⟨n - 1, by omega⟩
  rfl
theorem kcond {α : Type} {a b : Int} {x y : α} : (bif a == b then x else y) = if a = b then x else y := by
  by_cases h : a = b
  · simp [h]
  · have : (a == b) = false := by simpa using h
    rw [this]; simp [h]
def vR (y : Bool) (v : api_Value) : Bool :=
  if v.fKind = 0 then v.fInt == 0 && (y && empS v.fText)
  else if v.fKind = 1 then (v.fInt == 0 || v.fInt == 1) && (y && empS v.fText)
  else if v.fKind = 2 then y && empS v.fText
  else if v.fKind = 3 then v.fInt == 0 && empS v.fText
  else if v.fKind = 4 then v.fInt == 0 && (y && decide ((v.fText.size : Int) ≤ 64))
  else false
theorem vR_aux (y : Bool) (v : api_Value) : (bif (v.fKind == 0) then some (((v.fInt == 0) && y) && (sEq v.fText ByteArray.empty)) else bif (v.fKind == 1) then bif ((v.fInt != 0) && (v.fInt != 1)) then some false else some (y && (sEq v.fText ByteArray.empty)) else bif (v.fKind == 2) then some (y && (sEq v.fText ByteArray.empty)) else bif (v.fKind == 3) then some ((v.fInt == 0) && (sEq v.fText ByteArray.empty)) else bif (v.fKind == 4) then some (((v.fInt == 0) && y) && (decide ((v.fText.size : Int) ≤ 64))) else some false) = some (vR y v) := by
  simp only [kcond]
  unfold vR
  split
  · simp [empS, Bool.and_assoc]
  · split
    · unfold empS
      by_cases h0 : v.fInt = 0
      · simp [h0]
      · by_cases h1 : v.fInt = 1
        · simp [h1]
        · have e0 : (v.fInt == 0) = false := by simpa using h0
          have e1 : (v.fInt == 1) = false := by simpa using h1
          have e2 : (v.fInt != 0) = true := by simp [bne, e0]
          have e3 : (v.fInt != 1) = true := by simp [bne, e1]
          rw [e0, e1, e2, e3]; simp
    · split
      · rfl
      · split
        · rfl
        · split
          · simp [Bool.and_assoc]
          · rfl
theorem value_Right_ok (v : api_Value) {n : Nat} (h : 2 ≤ n) : value_Right n v = some (vRight v) := by
  obtain ⟨n, rfl⟩ : ∃ k, n = k + 1 := ⟨n - 1, by omega⟩
  unfold value_Right
  simp only [at1_succ, withK]
  rw [math_Signbit_ok _ (by omega)]
  simp only [Option.bind_some]
  rw [vR_aux, vR_aux]
  show _ = some (vR (posZ v.fFloat) v)
  unfold posZ isZero
  cases FloatKind.f64.format.order v.fFloat 0 == some .eq <;> rfl
end Go.Pl
namespace Go.Pl
open Go Go.Ab
end Go.Pl
namespace Go.Pl
open Go Go.Ab
end Go.Pl
namespace Go.Pl
open Go Go.Ab
structure Ord3 {α : Type} (c : α → α → Int) : Prop where
  anti : ∀ x y, c y x = -c x y
  trans : ∀ x y z, c x y ≤ 0 → c y z ≤ 0 → c x z ≤ 0
theorem Ord3.left {α : Type} {c : α → α → Int} (h : Ord3 c) {x y z : α} (e : c x y = 0) : (c x z ≤ 0 ↔ c y z ≤ 0) ∧ (0 ≤ c x z ↔ 0 ≤ c y z) := by
  have a1 := h.anti x y
  have a2 := h.anti x z
  have a3 := h.anti y z
  refine ⟨⟨fun g => h.trans y x z (by omega) g, fun g => h.trans x y z (by omega) g⟩, ⟨fun g => ?_, fun g => ?_⟩⟩
  · have := h.trans z x y (by omega) (by omega); omega
  · have := h.trans z y x (by omega) (by omega); omega
end Go.Pl
namespace Go.Pl
open Go Go.Ab
end Go.Pl
namespace Go.Pl
open Go Go.Ab
def dR : Ieee.Datum → Int
  | .nan .. => 2
  | .infinity s => if s then -1 else 1
  | .number .. => 0
end Go.Pl
namespace Go.Pl
open Go Go.Ab
end Go.Pl
namespace Go.Pl
open Go Go.Ab
theorem dT {p : Prop} [Decidable p] (h : p) : decide p = true := decide_eq_true h
theorem dF {p : Prop} [Decidable p] (h : ¬ p) : decide p = false := decide_eq_false h
end Go.Pl
namespace Go.Pl
open Go Go.Ab
theorem uwrap_mod (x : Nat) : IntKind.wrap .u64 (x : Int) = ((x % 18446744073709551616 : Nat) : Int) := by
  simp [IntKind.wrap, IntKind.signed, IntKind.bits]
theorem uwrap_mul (a b : Nat) : IntKind.wrap .u64 ((a : Int) * (b : Int)) = ((a * b % 18446744073709551616 : Nat) : Int) := by
  rw [show (a : Int) * (b : Int) = ((a * b : Nat) : Int) by simp]; exact uwrap_mod _
theorem uwrap_sub {a b r : Nat} (h : ((a : Int) - (b : Int)) % 18446744073709551616 = (r : Int) % 18446744073709551616) (hr : r < 18446744073709551616) : IntKind.wrap .u64 ((a : Int) - (b : Int)) = (r : Int) := by
  simp only [IntKind.wrap, IntKind.signed, IntKind.bits]
  simp
  omega
end Go.Pl
set_option maxRecDepth 100000
namespace Go.Pl
open Go Go.Ab
structure Norm (hi lo y s b Y U L : Nat) : Prop where
  hs : s + b = 64
  eY : iShl .u64 (y : Int) (s : Int) = (Y : Int)
  eU : iOr .u64 (iShl .u64 (hi : Int) (s : Int)) (iShr .u64 (lo : Int) (b : Int)) = (U : Int)
  eL : iShl .u64 (lo : Int) (s : Int) = (L : Int)
  hY : 9223372036854775808 ≤ Y
  hY' : Y < 18446744073709551616
  hU : U < Y
  hL : L < 18446744073709551616
  hQ : (hi * 18446744073709551616 + lo) / y = (U * 18446744073709551616 + L) / Y
theorem left {U d Y q R : Nat} (hY' : Y < 18446744073709551616) (hR : R < Y) (hd : d < 4294967296) (hz : Y * q + R = U * 4294967296 + d) :
    IntKind.wrap .u64 (IntKind.wrap .u64 (IntKind.wrap .u64 ((U : Int) * 4294967296) + (d : Int)) - IntKind.wrap .u64 ((q : Int) * (Y : Int))) = (R : Int) := by
  have e1 : IntKind.wrap .u64 ((U : Int) * 4294967296) = ((U * 4294967296 % 18446744073709551616 : Nat) : Int) := uwrap_mul U 4294967296
  have e2 : IntKind.wrap .u64 (((U * 4294967296 % 18446744073709551616 : Nat) : Int) + (d : Int)) = (((U * 4294967296 % 18446744073709551616 + d) % 18446744073709551616 : Nat) : Int) := by
    rw [show ((U * 4294967296 % 18446744073709551616 : Nat) : Int) + (d : Int) = ((U * 4294967296 % 18446744073709551616 + d : Nat) : Int) by omega]; exact uwrap_mod _
  rw [e1, e2, uwrap_mul]
  rw [Nat.mul_comm] at hz
  refine uwrap_sub ?_ (by omega)
  generalize q * Y = z at hz ⊢
  omega
end Go.Pl
namespace Go.Pl
open Go Go.Ab
theorem sll_some {α : Type} (l : List α) : sll (some l) = l := rfl
theorem ckA_ok {b n : Nat} (h : n ≤ 2000000) (hb : b ≤ 1000) : ckA b n = some () := by
  unfold ckA
  rw [if_pos]
  have := Nat.mul_le_mul h hb
  omega
end Go.Pl
namespace Go.Pl
open Go Go.Ab
end Go.Pl
set_option maxRecDepth 100000
namespace Go.Pl
open Go Go.Ab
end Go.Pl
set_option maxRecDepth 100000
namespace Go.Pl
open Go Go.Ab
end Go.Pl
