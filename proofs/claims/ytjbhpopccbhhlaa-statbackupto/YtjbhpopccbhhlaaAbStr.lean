import Derived.Test.YtjbhpopccbhhlaaAbWP
set_option maxRecDepth 100000
set_option linter.unusedVariables false
set_option linter.unusedSimpArgs false
/-! Texts and bytes. -/
namespace Go.Ab
open Go

def strOf (l : List Int) : ByteArray := ⟨(l.map fun n => UInt8.ofNat n.toNat).toArray⟩
theorem bytesOf_rowB : ∀ (l : List Int), bytesOfRows (l.map rowB) = some (l.map fun n => UInt8.ofNat n.toNat)
  | [] => rfl
  | n :: l => by simp only [List.map_cons, rowB, bytesOfRows]; rw [show (List.map rowB l) = l.map rowB from rfl, bytesOf_rowB l]; rfl
/-- A slice of bytes made a text, given what it shows. -/
theorem conv_rows {T : Nat → Option TI} {s d e : Nat} {si di : TI} {b : Nat} {c : Nat} {ag : Bool} {z : List PV} {x : AV} {look : Look} {l : List Int} (hs : T s = some si) (hsd : si.desc = .slice e) (hd : T d = some di) (hdd : di.desc = .str) (he : T e = some ⟨.int .u8, b, c, ag, z⟩)
    (hx : noStr x = true) (hr : rowsOf x look = some (l.map rowB)) : aConv T s d x look = some (.pv (.str (strOf l))) := by
  have h2 : (rowsOf x look).bind bytesOfRows = some (l.map fun n => UInt8.ofNat n.toNat) := by rw [hr]; exact bytesOf_rowB l
  unfold aConv
  simp only [hs, hd, hdd, hsd, he, strOf]
  cases x <;> (try (show Option.map _ ((rowsOf _ look).bind bytesOfRows) = _; rw [h2]; rfl))
  rename_i p
  cases p <;> first | (cases hx; done) | (show Option.map _ ((rowsOf _ look).bind bytesOfRows) = _; rw [h2]; rfl) | (simp [rowsOf] at hr; done)
theorem SL.rows {p : PV} {l : List Int} (h : SL p l) (look : Look) : rowsOf (.pv p) look = some (l.map rowB) := by
  rcases h with rfl | ⟨rfl, rfl⟩ <;> rfl
/-- The bytes of a text. -/
def bytesL (s : ByteArray) : List Int := s.data.toList.map fun b => (b.toNat : Int)
theorem rowsOfBytes_eq (s : ByteArray) : rowsOfBytes s = (bytesL s).map rowB := by
  simp only [rowsOfBytes, bytesL, List.map_map]; rfl
theorem bytesL_length (s : ByteArray) : (bytesL s).length = s.size := by
  simp only [bytesL, List.length_map, Array.length_toList]; rfl
theorem strOf_bytesL (s : ByteArray) : strOf (bytesL s) = s := by
  apply ByteArray.ext
  simp only [strOf, bytesL, List.map_map]
  have : ((fun (n : Int) => UInt8.ofNat n.toNat) ∘ fun (b : UInt8) => (b.toNat : Int)) = id := by
    funext b; simp
  rw [this]; simp
theorem bytesL_range (s : ByteArray) : ∀ x ∈ bytesL s, 0 ≤ x ∧ x < 256 := by
  intro x hx
  simp only [bytesL, List.mem_map] at hx
  obtain ⟨b, _, rfl⟩ := hx
  have := b.toNat_lt
  omega
end Go.Ab
