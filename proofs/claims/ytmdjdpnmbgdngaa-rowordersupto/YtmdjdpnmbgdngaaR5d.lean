import Derived.Test.YtmdjdpnmbgdngaaR5c
set_option linter.unusedVariables false
set_option linter.unusedSimpArgs false
namespace Go.Pl
open Go Go.Ab
theorem works_ok : law05_works 3999999 = some true := by kernel_rfl
theorem RowOrders_true {n : Nat} (h : n = 4000000) {a b : Option (List api_Value)} {o : Option (List api_Key)} (ha : wSl W_api_Value a) (hb : wSl W_api_Value b) (ho : wSl W_api_Key o) : law05_RowOrders n a b o = some true := by
  subst h
  show (law05_great 3999999 (some [a, b])).bind _ = _
  obtain ⟨g, hg⟩ := great_some (a := some [a, b]) ⟨(show 2 ≤ 1048576 by decide), by
    intro x hx
    have hx : x ∈ [a, b] := hx
    simp only [List.mem_cons, List.not_mem_nil, or_false] at hx
    rcases hx with rfl | rfl
    · exact ha
    · exact hb⟩ (n := 3999999) (by decide)
  rw [hg, Option.bind_some]
  cases hq : (g || decide (((sll o).length : Int) > 40)) with
  | true => rfl
  | false =>
    rw [cond_false, row_Right_ok ha.1 (by decide), ref05_Right_ok ha (by decide), row_Cmp_ok ha hb (by decide), ref05_Cmp_ok ha hb (by decide), row_By_ok ho.1 ha hb (by decide), ref05_By_ok ho.1 ha hb (by decide), works_ok]
    simp
end Go.Pl
