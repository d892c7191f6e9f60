import Derived.Test.YtejbcaheoloahaaGreatAbRow
import Derived.Test.YtejbcaheoloahaaGreatAbRd
namespace Go.Ab
open Go
def rAf (k : IntKind) (x : Nat → Int) : Nat → Nat → List PV
  | _, 0 => []
  | i, n + 1 => .int k (x i) :: rAf k x (i + 1) n
def rA (k : IntKind) (n : Nat) (x : Nat → Int) : List PV := rAf k x 0 n
def aAf (k : IntKind) (x : Nat → Int) : Nat → Nat → List AV
  | _, 0 => []
  | i, n + 1 => .pv (.int k (x i)) :: aAf k x (i + 1) n
def aA (k : IntKind) (n : Nat) (x : Nat → Int) : List AV := aAf k x 0 n
def wA (k : IntKind) (n : Nat) (x : Nat → Int) : Prop := ∀ i, i < n → wI k (x i)
def ckI (n : Nat) (i : Int) : Option Unit := if 0 ≤ i ∧ i < n then some () else none
theorem ckI_some {n : Nat} {i : Int} {c : Unit} (h : ckI n i = some c) : 0 ≤ i ∧ i < n := by
  unfold ckI at h
  split at h
  · assumption
  · cases h
theorem aAf_len (k : IntKind) (x : Nat → Int) : ∀ (n i : Nat), (aAf k x i n).length = n
  | 0, _ => rfl
  | n + 1, i => by simp [aAf, aAf_len k x n]
theorem aAf_get (k : IntKind) (x : Nat → Int) : ∀ (n i j : Nat), j < n → (aAf k x i n)[j]? = some (.pv (.int k (x (i + j))))
  | n + 1, i, 0, _ => by simp [aAf]
  | n + 1, i, j + 1, h => by
    rw [aAf, List.getElem?_cons_succ, aAf_get k x n (i + 1) j (by omega), show i + 1 + j = i + (j + 1) by omega]
section
variable {G : Cfg} {C : CallF} {m : Nat} {ops : Array Oper} {i : Nat} {ov : List (Nat × AV)} {H : List Blk}
theorem ia_arrO (sz : Nat) (k : IntKind) {j : Int} {c : Unit} {id off t n e : Nat} {s b : Nat} {ag : Bool} {z : List PV} {ei : TI} (ht : G.T t = some ⟨.array n e, s, b, ag, z⟩) (he : G.T e = some ei) (hs : ei.size = sz) (hc : ckI n j = some c) (ho : opL G C m ops i ov H = okV (aIndexAddr G.T t (.ptr id off) (.pv (.int k j)))) :
    opL G C m ops i ov H = some (.ok ⟨.ptr id (off + j.toNat * sz), [], []⟩) := by
  rw [ho]
  subst hs
  unfold aIndexAddr
  simp only [ht, he]
  rw [if_pos (ckI_some hc)]; rfl
theorem ld_arrO (x : Nat → Int) (pre post cells : List AV) {k : IntKind} {j : Int} {c : Unit} {t id off n : Nat} {ti : TI} {z : Bool} (ht : G.T t = some ti) (hs : ti.size = 1) (ha : ti.agg = false) (hl : lookOf H id = some (.box cells z)) (hx : cells = pre ++ (aA k n x ++ post)) (hp : pre.length = off) (hc : ckI n j = some c)
    (ho : opL G C m ops i ov H = okV (aLoad G.T t (.ptr id (off + j.toNat * 1)) (lookOf H))) : opL G C m ops i ov H = some (.ok ⟨.pv (.int k (x j.toNat)), [], []⟩) := by
  rw [ho]
  obtain ⟨h0, h1⟩ := ckI_some hc
  have hj : j.toNat < n := by omega
  unfold aLoad
  simp only [ht, hl, Nat.mul_one]
  subst hx; subst hp
  have hlen : pre.length + j.toNat + 1 ≤ (pre ++ (aA k n x ++ post)).length := by
    simp [aA, aAf_len]; omega
  have hd : ((pre ++ (aA k n x ++ post)).drop (pre.length + j.toNat)).take 1 = [.pv (.int k (x j.toNat))] := by
    apply List.ext_getElem?
    intro l
    rw [List.getElem?_take]
    split
    · rename_i hl1
      obtain rfl : l = 0 := by omega
      rw [List.getElem?_drop, List.getElem?_append_right (by omega), List.getElem?_append_left (by simp [aA, aAf_len]; omega), aA, show pre.length + j.toNat + 0 - pre.length = j.toNat by omega, aAf_get _ _ _ _ _ hj]
      simp
    · rename_i hl1
      rw [List.getElem?_eq_none (by simp; omega)]
  unfold cut
  rw [hs, if_pos hlen, Option.bind_some, hd]
  simp [mkVal, ha, okV]
end
theorem purL_arrf (look : Look) (k' : Nat) (k : IntKind) (x : Nat → Int) {r : List AV} {ps : List PV} (h : pureL (AV.pureOf look k') r = some ps) : ∀ (n i : Nat), pureL (AV.pureOf look k') (aAf k x i n ++ r) = some (rAf k x i n ++ ps)
  | 0, i => h
  | n + 1, i => purL_cons pur_pv (purL_arrf look k' k x h n (i + 1))
theorem purL_arr {look : Look} {k' : Nat} {k : IntKind} {n : Nat} {x : Nat → Int} {r : List AV} {ps : List PV} (h : pureL (AV.pureOf look k') r = some ps) : pureL (AV.pureOf look k') (aA k n x ++ r) = some (rA k n x ++ ps) := purL_arrf look k' k x h n 0
theorem purL_arr0 {look : Look} {k' : Nat} {k : IntKind} {n : Nat} {x : Nat → Int} : pureL (AV.pureOf look k') (aA k n x) = some (rA k n x) := by
  have := purL_arr (look := look) (k' := k') (k := k) (n := n) (x := x) (r := []) (ps := []) rfl
  simpa using this
theorem pR_agg {look : Look} {cs : List AV} {ps : List PV} {R : AV} (h : pureL (AV.pureOf look 4) cs = some ps) (e : AV.agg (ps.map .pv) = R) : AV.puriRes look (.agg cs) = some R := by
  subst e; exact pA_agg h
def atI (qs : List PV) (i : Nat) : Int := match qs[i]? with
  | some (.int _ v) => v
  | _ => 0
theorem rAf_eq (k : IntKind) : ∀ (n i : Nat) (x : Nat → Int) (qs : List PV), qs.length = n → (∀ j, j < n → qs[j]? = some (.int k (x (i + j)))) → qs = rAf k x i n
  | 0, i, x, qs, hl, _ => by rw [List.length_eq_zero_iff] at hl; exact hl
  | n + 1, i, x, [], hl, _ => by simp at hl
  | n + 1, i, x, q :: qs, hl, h => by
    have h0 := h 0 (by omega)
    simp at h0
    subst h0
    rw [rAf]
    congr 1
    exact rAf_eq k n (i + 1) x qs (by simpa using hl) fun j hj => by
      have := h (j + 1) (by omega)
      rw [List.getElem?_cons_succ] at this
      rw [this, show i + (j + 1) = i + 1 + j by omega]
theorem rd_arr {P : Program} {t e n : Nat} {k : IntKind} (h : P.underlying t = some (.array n e)) (hc : P.cellsOf t = n) (hs : P.cellsOf e = 1) (he : RdT P e (rI k) (wI k)) : RdT P t (rA k n) (wA k n) := by
  intro f qs hq hb
  cases f with
  | zero => exact hq.elim
  | succ f =>
    simp only [HasT, h] at hq
    obtain ⟨hl, hi⟩ := hq
    rw [hc] at hl
    have key : ∀ j, j < n → qs[j]? = some (.int k (atI qs j)) ∧ wI k (atI qs j) := fun j hj => by
      obtain ⟨v, e1, hw⟩ := he f _ (hi j hj) (by have := bulkL_take qs (j * P.cellsOf e) (P.cellsOf e); omega)
      rw [hs, Nat.mul_one] at e1
      have h2 : qs[j]? = some (.int k v) := by
        have := congrArg (·[0]?) e1
        simpa [List.getElem?_take, rI] using this
      have h3 : atI qs j = v := by simp [atI, h2]
      rw [h3]; exact ⟨h2, hw⟩
    exact ⟨atI qs, rAf_eq k n 0 (atI qs) qs hl fun j hj => by rw [Nat.zero_add]; exact (key j hj).1, fun j hj => (key j hj).2⟩
theorem take_join {qs a b : List PV} {o s o' : Nat} (h1 : (qs.drop o).take s = a) (ho : o + s = o') (h2 : qs.drop o' = b) : qs.drop o = a ++ b := by
  rw [← h1, ← h2, ← ho, ← List.drop_drop, List.take_append_drop]
theorem take_end {qs : List PV} {n : Nat} (h : qs.length = n) : qs.drop n = [] := List.drop_eq_nil_of_le (by omega)
end Go.Ab
