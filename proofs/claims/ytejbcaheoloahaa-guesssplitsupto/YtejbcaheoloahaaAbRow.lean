import Derived.Test.YtejbcaheoloahaaAbLift
import Derived.Test.YtejbcaheoloahaaAbStr
set_option linter.unusedVariables false
set_option linter.unusedSimpArgs false
/-! Lifted walks over local rows: reading, writing, growing; texts; calls that are handed blocks. -/
namespace Go.Ab
open Go

/-- A row of a list. -/
abbrev bR {α : Type} (e esz : Nat) (R : α → List PV) (l : List α) (fl fz : Nat) : Blk := .row e esz ⟨l.map R, 0, fl, 0, fz⟩
/-- The slice of the whole of it. -/
abbrev aR (id esz n : Nat) : AV := .ref id 0 n esz 0 n
/-- Is there room for so many? -/
def ckA (b n : Nat) : Option Unit := if n * b ≤ 140737488355328 ∧ n ≤ 9223372036854775807 then some () else none
theorem ckA_some {b n : Nat} {u : Unit} (h : ckA b n = some u) : n * b ≤ 140737488355328 ∧ n ≤ 9223372036854775807 := by
  unfold ckA at h
  split at h
  · assumption
  · cases h
section
variable {G : Cfg} {C : CallF} {m : Nat} {ops : Array Oper} {i : Nat} {ov : List (Nat × AV)} {H : List Blk}
theorem valid_row {α : Type} {R : α → List PV} {l : List α} {fl fz n : Nat} (hn : n = l.length) (hf : fl ≤ l.length) : Row.valid ⟨l.map R, 0, fl, 0, fz⟩ 0 n = true := by
  subst hn; simp [Row.valid, hf]
theorem pur_ref' {α : Type} {R : α → List PV} {l : List α} {id fl fz e esz k n : Nat} {look : Look} (hl : look id = some (bR e esz R l fl fz)) (hn : n = l.length) (hf : fl ≤ l.length) : AV.pureOf look (k + 1) (aR id esz n) = some (.sl (l.map R)) := by
  simp only [AV.pureOf, hl]
  rw [if_pos (by rw [valid_row hn hf]; subst hn; simp)]
  subst hn
  rw [List.drop_zero, List.take_of_length_le (by simp)]
/-- append to nil. -/
theorem app_nilO {α : Type} (R : α → List PV) (ys : List α) {y : AV} {t u e esz b : Nat} {sz bt : Nat} {ag : Bool} {z : List PV} {ei : TI} {c : Unit} (ht : G.T t = some ⟨.slice e, sz, bt, ag, z⟩) (he : G.T e = some ei) (hs : ei.size = esz) (h0 : Nat.beq esz 0 = false) (hb : ei.bytes = b) (hR : ∀ x, (R x).length = esz) (hne : ys.isEmpty = false) (hck : ckA b ys.length = some c)
    (hy : srcRows y (lookOf H) = some (ys.map R)) (ho : opL G C m ops i ov H = (srcRows y (lookOf H)).bind fun rows => okE (aAppend G.T H.length t (.pv .nils) rows (lookOf H))) :
    opL G C m ops i ov H = some (.ok ⟨aR H.length esz ys.length, [], [bR e esz R ys 0 0]⟩) := by
  rw [ho, hy, Option.bind_some]
  obtain ⟨c1, c2⟩ := ckA_some hck
  rw [aAppend_nil ht rfl he hs (by intro h; rw [h] at h0; cases h0) (by simp [hR]) (by rw [hb, List.length_map]; exact c1) (by rw [List.length_map]; exact c2) (by intro h; rw [List.map_eq_nil_iff] at h; rw [h] at hne; cases hne)]
  simp [okE, bR, aR]
/-- append to the whole of a row. -/
theorem app_refO {α : Type} (R : α → List PV) (l ys : List α) {y : AV} {id n fl fz t u e esz b : Nat} {sz bt : Nat} {ag : Bool} {z : List PV} {ei : TI} {c : Unit} (ht : G.T t = some ⟨.slice e, sz, bt, ag, z⟩) (he : G.T e = some ei) (hs : ei.size = esz) (h0 : Nat.beq esz 0 = false) (hb : ei.bytes = b) (hR : ∀ x, (R x).length = esz) (hne : ys.isEmpty = false) (hck : ckA b (l ++ ys).length = some c)
    (hl : lookOf H id = some (bR e esz R l fl fz)) (hn : n = l.length) (hf : fl ≤ l.length) (hy : srcRows y (lookOf H) = some (ys.map R)) (ho : opL G C m ops i ov H = (srcRows y (lookOf H)).bind fun rows => okE (aAppend G.T H.length t (aR id esz n) rows (lookOf H))) :
    opL G C m ops i ov H = some (.ok ⟨aR id esz (l ++ ys).length, [(id, bR e esz R (l ++ ys) fl fz)], []⟩) := by
  rw [ho, hy, Option.bind_some]
  obtain ⟨c1, c2⟩ := ckA_some hck
  rw [List.length_append] at c1 c2
  subst hn
  have hc : CanGrow ⟨l.map R, 0, fl, 0, fz⟩ 0 l.length := ⟨valid_row rfl hf, .inl ⟨rfl, by simp⟩⟩
  rw [aAppend_ref ht rfl he hs (by intro h; rw [h] at h0; cases h0) (by simp [hR]) hl hc (by rw [hb, List.length_map]; exact c1) (by rw [List.length_map]; exact c2) (by intro h; rw [List.map_eq_nil_iff] at h; rw [h] at hne; cases hne)]
  have hg : Go.Ab.grow (⟨l.map R, 0, fl, 0, fz⟩ : Row) 0 l.length (ys.map R) = (⟨l.map R ++ ys.map R, 0, fl, 0, fz⟩, 0) := by
    unfold Go.Ab.grow
    rw [if_pos ⟨rfl, by simp⟩]
  rw [hg]
  simp [okE, bR, aR]
/-- Shifts. -/
def ckN (b : Int) : Option Unit := if b < 0 then none else some ()
theorem shlO {k : IntKind} {a b : Int} {u : Unit} (h : ckN b = some u) (ho : opL G C m ops i ov H = okV (shiftBin .shl k a b)) : opL G C m ops i ov H = some (.ok ⟨.pv (.int k (iShl k a b)), [], []⟩) := by
  unfold ckN at h
  split at h
  · cases h
  · rename_i hb
    rw [ho]; unfold shiftBin; rw [if_neg hb]; rfl
/-- A slice of a slice, of a text. -/
def ckB (lo hi n : Int) : Option Unit := if 0 ≤ lo ∧ lo ≤ hi ∧ hi ≤ n then some () else none
theorem ckB_some {lo hi n : Int} {u : Unit} (h : ckB lo hi n = some u) : 0 ≤ lo ∧ lo ≤ hi ∧ hi ≤ n := by
  unfold ckB at h
  split at h
  · assumption
  · cases h
def subL {α : Type} (l : List α) (lo hi : Int) : List α := (l.drop lo.toNat).take (hi.toNat - lo.toNat)
def subSl {α : Type} (s : Option (List α)) (lo hi : Int) : Option (List α) := s.map fun l => subL l lo hi
theorem bound_lo {x : Option AV} {k : IntKind} {lo : Int} (h : x = none ∧ lo = 0 ∨ x = some (.pv (.int k lo))) (h0 : 0 ≤ lo) : bound x 0 = some lo.toNat := by
  rcases h with ⟨rfl, rfl⟩ | rfl
  · rfl
  · simp only [bound]; rw [if_pos h0]
theorem bound_hi {x : Option AV} {k : IntKind} {hi : Int} {n : Nat} (h : x = none ∧ hi = (n : Int) ∨ x = some (.pv (.int k hi))) (h0 : 0 ≤ hi) : bound x n = some hi.toNat := by
  rcases h with ⟨rfl, rfl⟩ | rfl
  · simp [bound]
  · simp only [bound]; rw [if_pos h0]
def sliceV (esz : Nat) (v : AV) (lo hi : Option AV) : Option Res := match v with
  | .pv (.str _) => none
  | v => okV (aSlice esz v lo hi)
theorem slice_slO {α : Type} (R : α → List PV) (s : Option (List α)) {lo hi : Int} {xl xh : Option AV} {k k' : IntKind} {esz : Nat} {u : Unit} (hck : ckB lo hi ((sll s).length : Int) = some u) (hR : ∀ x, (R x).length = esz) (h1 : xl = none ∧ lo = 0 ∨ xl = some (.pv (.int k lo))) (h2 : xh = none ∧ hi = ((sll s).length : Int) ∨ xh = some (.pv (.int k' hi)))
    (ho : opL G C m ops i ov H = sliceV esz (.pv (encSl R s)) xl xh) : opL G C m ops i ov H = some (.ok ⟨.pv (encSl R (subSl s lo hi)), [], []⟩) := by
  have e0 : sliceV esz (.pv (encSl R s)) xl xh = okV (aSlice esz (.pv (encSl R s)) xl xh) := by cases s <;> rfl
  rw [ho, e0]
  obtain ⟨a, b, c⟩ := ckB_some hck
  unfold aSlice
  have hl : lenA (.pv (encSl R s)) = some (sll s).length := by cases s <;> simp [lenA, encSl, sll]
  rw [hl]
  simp only
  rw [bound_lo h1 a, bound_hi h2 (by omega)]
  simp only
  rw [if_pos ⟨by omega, by omega⟩]
  cases s with
  | none => rfl
  | some l =>
    simp only [encSl, subSl, Option.map_some, subL, sll] at *
    by_cases he : hi.toNat = lo.toNat
    · rw [if_pos he, he]; simp [okV]
    · rw [if_neg he]
      have hlt : lo.toNat < l.length := by omega
      rw [if_pos (by rw [List.getElem?_map, List.getElem?_eq_getElem hlt]; simp [hR])]
      simp [okV, List.map_drop, List.map_take]
end
/-! ### Calls that are handed blocks -/
section
variable {G : Cfg} {C : CallF} {m : Nat} {ops : Array Oper} {i : Nat} {ov : List (Nat × AV)} {H H' : List Blk} {Q : Ex → List AV → List Blk → List Seen → Prop}
theorem leave_pv {v v' : AV} {H : List Blk} (h : AV.puriRes (lookOf H) v = some v') : leave .pure 0 v H = some (v', []) := by
  simp only [leave, h, Option.bind_some, if_true]
theorem ret_pure {f : Nat} {fn : Func} {ex : Ex} {t : List AV} {HH : List Blk} {v v' : AV} (hex : match ex with
    | .normal | .ret => True
    | _ => False) (hm : G.M f = .pure) (hr : (resAll G ⟨t, HH⟩ fn.results.toList).map tupOf = some v) (hp : AV.puriRes (lookOf HH) v = some v') : RetQ G f fn 0 v' [] ex t HH := by
  refine ⟨hex, ?_⟩
  rw [Option.map_eq_some_iff] at hr
  obtain ⟨vs, h1, h2⟩ := hr
  rw [h1, Option.bind_some, h2, hm]
  exact leave_pv hp
end
end Go.Ab
