import Derived.Test.YtjbhpopccbhhlaaAbWP
set_option maxRecDepth 100000
set_option linter.unusedVariables false
set_option linter.unusedSimpArgs false
/-! Texts and bytes. -/
namespace Go.Ab
open Go

def strOf (l : List Int) : ByteArray := ⟨(l.map fun n => UInt8.ofNat n.toNat).toArray⟩
theorem strOf_append (a b : List Int) : strOf a ++ strOf b = strOf (a ++ b) := by
  apply ByteArray.ext
  simp [strOf]
theorem strOf_size (a : List Int) : (strOf a).size = a.length := by simp [strOf, ByteArray.size]
theorem bytesOf_rowB : ∀ (l : List Int), bytesOfRows (l.map rowB) = some (l.map fun n => UInt8.ofNat n.toNat)
  | [] => rfl
  | n :: l => by simp only [List.map_cons, rowB, bytesOfRows]; rw [show (List.map rowB l) = l.map rowB from rfl, bytesOf_rowB l]; rfl
/-- A slice of bytes made a text, given what it shows. -/
theorem conv_rows {T : Nat → Option TI} {s d e : Nat} {si di : TI} {b : Nat} {c : Nat} {ag : Bool} {z : List PV} {x : AV} {look : Look} {l : List Int} (hs : T s = some si) (hsd : si.desc = .slice e) (hd : T d = some di) (hdd : di.desc = .str) (he : T e = some ⟨.int .u8, b, c, ag, z⟩)
    (hx : noStr x = true) (hr : rowsOf x look = some (l.map rowB)) : aConv T s d x look = some (.pv (.str (strOf l))) := by
  have h2 : (rowsOf x look).bind bytesOfRows = some (l.map fun n => UInt8.ofNat n.toNat) := by rw [hr]; exact bytesOf_rowB l
  unfold aConv
  simp only [hs, hd, hdd, hsd, he, strOf]
  cases x <;> (try (show Option.map _ ((rowsOf _ look).bind bytesOfRows) = _; rw [h2]; rfl))
  rename_i p
  cases p <;> first | (cases hx; done) | (show Option.map _ ((rowsOf _ look).bind bytesOfRows) = _; rw [h2]; rfl) | (simp [rowsOf] at hr; done)
theorem SL.rows {p : PV} {l : List Int} (h : SL p l) (look : Look) : rowsOf (.pv p) look = some (l.map rowB) := by
  rcases h with rfl | ⟨rfl, rfl⟩ <;> rfl
theorem rows_ref {look : Look} {id g h e : Nat} {r : Row} {l : List Int} (hl : look id = some (.row e 1 r)) (hv : r.valid g h = true) (hr : r.rows.take h = l.map rowB) : rowsOf (.ref id g h 1 0 h) look = some (l.map rowB) := by
  simp [rowsOf, hl, hv, hr]
theorem rows_new {look : Look} {id n e : Nat} {l : List Int} (hl : look id = some (.row e 1 ⟨l.map rowB, 0, 0, 0, 0⟩)) (hn : l.length = n) : rowsOf (.ref id 0 n 1 0 n) look = some (l.map rowB) :=
  rows_ref hl (by simp [Row.valid, hn]) (by rw [List.take_of_length_le (by simp [hn])])
theorem strAdd {a b : List Int} (h : a.length + b.length < 1000000) : strBin .add (strOf a) (strOf b) = some (.pv (.str (strOf (a ++ b)))) := by
  simp only [strBin, strOf_size, strOf_append]
  rw [if_pos (by omega)]
theorem strEq (a : ByteArray) : strBin .eql a a = some (.pv (.bool true)) := by
  show boolsOf (a.toList == a.toList) = _
  rw [beq_self_eq_true]; rfl
theorem strNe (a : ByteArray) : strBin .neq a a = some (.pv (.bool false)) := by
  show boolsOf (!(a.toList == a.toList)) = _
  rw [beq_self_eq_true]; rfl
/-- The bytes of a text. -/
def bytesL (s : ByteArray) : List Int := s.data.toList.map fun b => (b.toNat : Int)
theorem rowsOfBytes_eq (s : ByteArray) : rowsOfBytes s = (bytesL s).map rowB := by
  simp only [rowsOfBytes, bytesL, List.map_map]; rfl
theorem bytesL_length (s : ByteArray) : (bytesL s).length = s.size := by
  simp only [bytesL, List.length_map, Array.length_toList]; rfl
theorem strOf_bytesL (s : ByteArray) : strOf (bytesL s) = s := by
  apply ByteArray.ext
  simp only [strOf, bytesL, List.map_map]
  have : ((fun (n : Int) => UInt8.ofNat n.toNat) ∘ fun (b : UInt8) => (b.toNat : Int)) = id := by
    funext b; simp
  rw [this]; simp
theorem bytesL_range (s : ByteArray) : ∀ x ∈ bytesL s, 0 ≤ x ∧ x < 256 := by
  intro x hx
  simp only [bytesL, List.mem_map] at hx
  obtain ⟨b, _, rfl⟩ := hx
  have := b.toNat_lt
  omega
/-- Texts of the same bytes. -/
theorem bytesL_strOf {l : List Int} (h : ∀ x ∈ l, 0 ≤ x ∧ x < 256) : bytesL (strOf l) = l := by
  simp only [strOf, bytesL, List.map_map]
  conv => rhs; rw [← List.map_id l]
  apply List.map_congr_left
  intro x hx
  have := h x hx
  simp only [Function.comp_apply, UInt8.toNat_ofNat', id]
  omega
/-- Equality of texts of bytes. -/
theorem strEqL {a b : List Int} : strBin .eql (strOf a) (strOf b) = some (.pv (.bool ((strOf a).toList == (strOf b).toList))) := rfl
/-- A function that only reads, given a row of bytes, makes one box. -/
theorem callPure_rf {C : CallF} {f k e : Nat} {l : List Int} {look : Look} {nid : Nat} {cs : List AV} (hl : look k = some (RB e l)) (hcs : AV.idsL cs = [])
    (hC : C f [.pv (.sl (l.map rowB))] [] = some (.ret (.ptr 0 0), [.box cs false])) : callPure C f [RF k l] look nid = some (.ok ⟨.ptr nid 0, [(k, (RB e l).freeze)], [.box cs false]⟩) := by
  have hR : reach look REACH (AV.idsL [RF k l]) [] = [k] := by
    show reach look (63 + 1) [k] [] = [k]
    simp only [reach, List.contains_nil, Bool.false_eq_true, if_false, hl]
    simp [RB, Blk.ids, reach]
  have hp : puriL (fun i => if [k].contains i then look i else none) [RF k l] = some [.pv (.sl (l.map rowB))] := by
    simp [puriL, AV.puri, RF, AV.pureOf, hl, RB, Row.valid, List.take_of_length_le]
  unfold callPure
  simp only [hR, hp, Option.bind_some, hC]
  simp only [List.isEmpty_cons, Bool.and_false, Bool.false_eq_true, if_false, AV.ren, Option.map_some, Option.bind_some, blksRen, box_ren hcs, freezeAll, hl, Nat.add_zero]
/-- The same, given a slice that is pure. -/
theorem callPure_pp {C : CallF} {f : Nat} {p : PV} {look : Look} {nid : Nat} {cs : List AV} (hcs : AV.idsL cs = [])
    (hC : C f [.pv p] [] = some (.ret (.ptr 0 0), [.box cs false])) : callPure C f [.pv p] look nid = some (.ok ⟨.ptr nid 0, [], [.box cs false]⟩) := by
  have hR : reach look REACH (AV.idsL [.pv p]) [] = [] := rfl
  unfold callPure
  simp only [hR, puriL, AV.puri, AV.pureOf, Option.map_some, Option.bind_some, hC]
  simp only [List.isEmpty_cons, Bool.and_false, Bool.false_eq_true, if_false, AV.ren, Option.map_some, Option.bind_some, blksRen, box_ren hcs, freezeAll, Nat.add_zero]
theorem srcRows_sl {p : PV} {l : List Int} (h : SL p l) (look : Look) : srcRows (.pv p) look = some (l.map rowB) := by
  rcases h with rfl | ⟨rfl, rfl⟩ <;> rfl
end Go.Ab
