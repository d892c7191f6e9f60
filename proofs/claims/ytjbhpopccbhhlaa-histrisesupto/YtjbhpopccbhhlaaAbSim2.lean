import Derived.Test.YtjbhpopccbhhlaaAbSim
set_option linter.unusedVariables false
set_option linter.unusedSimpArgs false
namespace Go.Ab
open Go

theorem ren_noids {v : AV} (h : AV.ids v = []) (ρ : Nat → Option Nat) : AV.ren ρ v = some v := ren_same v fun i hi => by rw [h] at hi; cases hi
theorem box_ren {cs : List AV} {z : Bool} (h : AV.idsL cs = []) (ρ : Nat → Option Nat) : (Blk.box cs z).ren ρ = some (.box cs z) := blk_ren_same _ fun i hi => by simp [Blk.ids, h] at hi

/-- A method on a local box whose cells are pure. -/
theorem callRef_box {C : CallF} {f k : Nat} {rest : List AV} {look : Look} {nid : Nat} {cs cs' : List AV} {v : AV} (hi : AV.idsL rest = []) (hl : look k = some (.box cs false)) (hcs : AV.idsL cs = []) (hcs' : AV.idsL cs' = []) (hv : AV.ids v = [])
    (hC : C f (.ptr 0 0 :: rest) [.box cs false] = some (.ret v, [.box cs' false])) :
    callRef C f (.ptr k 0 :: rest) look nid = some (.ok ⟨v, [(k, .box cs' false)], []⟩) := by
  have hR : reach look REACH (AV.idsL (.ptr k 0 :: rest)) [] = [k] := by
    simp only [AV.idsL, AV.ids, hi, List.append_nil]
    show reach look (63 + 1) [k] [] = [k]
    simp only [reach, List.contains_nil, Bool.false_eq_true, if_false, hl, Blk.ids, hcs, List.nil_append, List.append_nil]
  have hren : AV.renL (placeOf [k]) (.ptr k 0 :: rest) = some (.ptr 0 0 :: rest) := by
    simp only [AV.renL, AV.ren]
    rw [show placeOf [k] k = some 0 by simp [placeOf, List.idxOf?, List.findIdx?, List.findIdx?.go], renL_same rest (by rw [hi]; simp)]
    rfl
  unfold callRef
  simp only [hR, hren, Option.bind_some, getAll, hl, Option.map_some, blksRen, box_ren hcs, hC, box_ren hcs', ren_noids hv]
  rfl

end Go.Ab
