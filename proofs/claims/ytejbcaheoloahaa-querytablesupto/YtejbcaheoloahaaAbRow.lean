import Derived.Test.YtejbcaheoloahaaAbLift
import Derived.Test.YtejbcaheoloahaaAbStr
namespace Go.Ab
open Go
abbrev bR {α : Type} (e esz : Nat) (R : α → List PV) (l : List α) (fl fz : Nat) : Blk := .row e esz ⟨l.map R, 0, fl, 0, fz⟩
abbrev aR (id esz n : Nat) : AV := .ref id 0 n esz 0 n
def ckA (b n : Nat) : Option Unit := if n * b ≤ 140737488355328 ∧ n ≤ 9223372036854775807 then some () else none
theorem ckA_some {b n : Nat} {u : Unit} (h : ckA b n = some u) : n * b ≤ 140737488355328 ∧ n ≤ 9223372036854775807 := by
  unfold ckA at h
  split at h
  · assumption
  · cases h
section
variable {G : Cfg} {C : CallF} {m : Nat} {ops : Array Oper} {i : Nat} {ov : List (Nat × AV)} {H : List Blk}
theorem valid_row {α : Type} {R : α → List PV} {l : List α} {fl fz n : Nat} (hn : n = l.length) (hf : fl ≤ l.length) : Row.valid ⟨l.map R, 0, fl, 0, fz⟩ 0 n = true := by
  subst hn; simp [Row.valid, hf]
theorem pur_ref' {α : Type} {R : α → List PV} {l : List α} {id fl fz e esz k n : Nat} {look : Look} (hl : look id = some (bR e esz R l fl fz)) (hn : n = l.length) (hf : fl ≤ l.length) : AV.pureOf look (k + 1) (aR id esz n) = some (.sl (l.map R)) := by
  simp only [AV.pureOf, hl]
  rw [if_pos (by rw [valid_row hn hf]; subst hn; simp)]
  subst hn
  rw [List.drop_zero, List.take_of_length_le (by simp)]
theorem src_sl {α : Type} {R : α → List PV} {s : Option (List α)} {look : Look} : srcRows (.pv (encSl R s)) look = some ((sll s).map R) := by cases s <;> rfl
theorem ia_refO {α : Type} (l : List α) (k : IntKind) {x : α} {j : Int} {t e sz b id esz n : Nat} {ag : Bool} {z : List PV} {ei : TI} (ht : G.T t = some ⟨.slice e, sz, b, ag, z⟩) (he : G.T e = some ei) (h : idx l j = some x) (hn : n = l.length) (hs : esz = ei.size) (ho : opL G C m ops i ov H = okV (aIndexAddr G.T t (aR id esz n) (.pv (.int k j)))) :
    opL G C m ops i ov H = some (.ok ⟨.eptr id 0 n esz (0 + j.toNat) 0, [], []⟩) := by
  rw [ho]
  obtain ⟨h0, h⟩ := idx_some h
  have hlt : j.toNat < l.length := (List.getElem?_eq_some_iff.1 h).1
  unfold aIndexAddr
  simp only [ht, he]
  rw [if_pos h0, if_pos ⟨by omega, hs⟩]; rfl
theorem ld_eptrO {α : Type} (R : α → List PV) (l : List α) {x : α} {j : Int} {t e id esz n off fl fz : Nat} {ti : TI} {v : AV} (ht : G.T t = some ti) (hl : lookOf H id = some (bR e esz R l fl fz)) (h : idx l j = some x) (hn : n = l.length) (hf : fl ≤ l.length)
    (hv : ((cut (R x) off ti.size).bind fun r => mkVal ti.agg (r.map .pv)) = some v) (ho : opL G C m ops i ov H = okV (aLoad G.T t (.eptr id 0 n esz (0 + j.toNat) off) (lookOf H))) : opL G C m ops i ov H = some (.ok ⟨v, [], []⟩) := by
  rw [ho]
  obtain ⟨h0, h⟩ := idx_some h
  have hlt : j.toNat < l.length := (List.getElem?_eq_some_iff.1 h).1
  unfold aLoad
  simp only [ht, hl, Nat.zero_add]
  rw [if_pos (by rw [valid_row hn hf]; subst hn; simp [hlt])]
  rw [List.getElem?_map, h]
  simp only [Option.map_some, Option.bind_some]
  rw [hv]; rfl
theorem app_nilO {α : Type} (R : α → List PV) (ys : List α) {y : AV} {t u e esz b : Nat} {sz bt : Nat} {ag : Bool} {z : List PV} {ei : TI} {c : Unit} (ht : G.T t = some ⟨.slice e, sz, bt, ag, z⟩) (he : G.T e = some ei) (hs : ei.size = esz) (h0 : Nat.beq esz 0 = false) (hb : ei.bytes = b) (hR : ∀ x, (R x).length = esz) (hne : ys.isEmpty = false) (hck : ckA b ys.length = some c)
    (hy : srcRows y (lookOf H) = some (ys.map R)) (ho : opL G C m ops i ov H = (srcRows y (lookOf H)).bind fun rows => okE (aAppend G.T H.length t (.pv .nils) rows (lookOf H))) :
    opL G C m ops i ov H = some (.ok ⟨aR H.length esz ys.length, [], [bR e esz R ys 0 0]⟩) := by
  rw [ho, hy, Option.bind_some]
  obtain ⟨c1, c2⟩ := ckA_some hck
  rw [aAppend_nil ht rfl he hs (by intro h; rw [h] at h0; cases h0) (by simp [hR]) (by rw [hb, List.length_map]; exact c1) (by rw [List.length_map]; exact c2) (by intro h; rw [List.map_eq_nil_iff] at h; rw [h] at hne; cases hne)]
  simp [okE, bR, aR]
theorem app_refO {α : Type} (R : α → List PV) (l ys : List α) {y : AV} {id n fl fz t u e esz b : Nat} {sz bt : Nat} {ag : Bool} {z : List PV} {ei : TI} {c : Unit} (ht : G.T t = some ⟨.slice e, sz, bt, ag, z⟩) (he : G.T e = some ei) (hs : ei.size = esz) (h0 : Nat.beq esz 0 = false) (hb : ei.bytes = b) (hR : ∀ x, (R x).length = esz) (hne : ys.isEmpty = false) (hck : ckA b (l ++ ys).length = some c)
    (hl : lookOf H id = some (bR e esz R l fl fz)) (hn : n = l.length) (hf : fl ≤ l.length) (hy : srcRows y (lookOf H) = some (ys.map R)) (ho : opL G C m ops i ov H = (srcRows y (lookOf H)).bind fun rows => okE (aAppend G.T H.length t (aR id esz n) rows (lookOf H))) :
    opL G C m ops i ov H = some (.ok ⟨aR id esz (l ++ ys).length, [(id, bR e esz R (l ++ ys) fl fz)], []⟩) := by
  rw [ho, hy, Option.bind_some]
  obtain ⟨c1, c2⟩ := ckA_some hck
  rw [List.length_append] at c1 c2
  subst hn
  have hc : CanGrow ⟨l.map R, 0, fl, 0, fz⟩ 0 l.length := ⟨valid_row rfl hf, .inl ⟨rfl, by simp⟩⟩
  rw [aAppend_ref ht rfl he hs (by intro h; rw [h] at h0; cases h0) (by simp [hR]) hl hc (by rw [hb, List.length_map]; exact c1) (by rw [List.length_map]; exact c2) (by intro h; rw [List.map_eq_nil_iff] at h; rw [h] at hne; cases hne)]
  have hg : Go.Ab.grow (⟨l.map R, 0, fl, 0, fz⟩ : Row) 0 l.length (ys.map R) = (⟨l.map R ++ ys.map R, 0, fl, 0, fz⟩, 0) := by
    unfold Go.Ab.grow
    rw [if_pos ⟨rfl, by simp⟩]
  rw [hg]
  simp [okE, bR, aR]
theorem app_ref0O {α : Type} (R : α → List PV) (l ys : List α) {y : AV} {id n fl fz t u e esz b : Nat} {sz bt : Nat} {ag : Bool} {z : List PV} {ei : TI} {c : Unit} (ht : G.T t = some ⟨.slice e, sz, bt, ag, z⟩) (he : G.T e = some ei) (hs : ei.size = esz) (h0 : Nat.beq esz 0 = false) (hb : ei.bytes = b) (hne : ys.isEmpty = true) (hck : ckA b l.length = some c)
    (hl : lookOf H id = some (bR e esz R l fl fz)) (hn : n = l.length) (hf : fl ≤ l.length) (hy : srcRows y (lookOf H) = some (ys.map R)) (ho : opL G C m ops i ov H = (srcRows y (lookOf H)).bind fun rows => okE (aAppend G.T H.length t (aR id esz n) rows (lookOf H))) :
    opL G C m ops i ov H = some (.ok ⟨aR id esz n, [], []⟩) := by
  rw [ho, hy, Option.bind_some]
  obtain ⟨c1, c2⟩ := ckA_some hck
  have : ys = [] := by simpa using hne
  subst this
  subst hn
  rw [List.map_nil, aAppend_empty ht rfl he hs (by intro h; rw [h] at h0; cases h0) hl (valid_row rfl hf) (by rw [hb]; exact c1) c2]
  rfl
theorem nil_eqlO {α : Type} (R : α → List PV) (s : Option (List α)) {t e sz bt : Nat} {ag : Bool} {z : List PV} (ht : G.T t = some ⟨.slice e, sz, bt, ag, z⟩) (ho : opL G C m ops i ov H = okV (aBin (some (.slice e)) (G.E t) .eql (.pv (encSl R s)) (.pv .nils))) : opL G C m ops i ov H = some (.ok ⟨.pv (.bool s.isNone), [], []⟩) := by
  rw [ho]; cases s <;> rfl
end
section
variable {G : Cfg} {C : CallF} {m : Nat} {ops : Array Oper} {i : Nat} {ov : List (Nat × AV)} {H H' : List Blk} {Q : Ex → List AV → List Blk → List Seen → Prop}
def entryE (look : Look) (args : List AV) (R : List Nat) : Option (List AV × List Blk) := match AV.renL (placeOf R) args, (getAll look R).bind (blksRen (placeOf R)) with
  | some as, some bs => some (as, bs)
  | _, _ => none
def exitE (R : List Nat) (nid : Nat) (v : AV) (bs : List Blk) : Option Eff := match blksRen (backOf R nid) bs, v.ren (backOf R nid) with
  | some bs', some v' => some ⟨v', zipUpd R bs', bs'.drop R.length⟩
  | _, _ => none
theorem cref {f : Nat} (R : List Nat) (args : List AV) {as : List AV} {bs1 bs2 : List Blk} {v : AV} {e : Eff} (ho : opL G C m ops i ov H = callRef C f args (lookOf H) H.length) (hR : reach (lookOf H) REACH (AV.idsL args) [] = R) (hA : entryE (lookOf H) args R = some (as, bs1)) (hC : C f as bs1 = some (.ret v, bs2)) (hE : exitE R H.length v bs2 = some e) :
    opL G C m ops i ov H = some (.ok e) := by
  rw [ho]
  unfold entryE at hA
  unfold exitE at hE
  split at hA
  · rename_i a b h1 h2
    cases hA
    obtain ⟨b0, h2, h3⟩ := Option.bind_eq_some_iff.1 h2
    split at hE
    · rename_i b3 v' h4 h5
      cases hE
      rw [callRef_gen hR h1 h2 h3 hC h4 h5 rfl rfl]
    · cases hE
  · cases hA
def exitP (m : Nat) (ops : Array Oper) (i : Nat) (ov : List (Nat × AV)) (H : List Blk) (e : Option Eff) : Option (List (Nat × AV) × List Blk) := e.bind (postL m ops i ov H)
theorem dR (nw : List (Nat × AV)) (H' : List Blk) {f : Nat} (R : List Nat) (args : List AV) {as : List AV} {bs1 bs2 : List Blk} {v : AV} (ho : opL G C m ops i ov H = callRef C f args (lookOf H) H.length) (hR : reach (lookOf H) REACH (AV.idsL args) [] = R) (hA : entryE (lookOf H) args R = some (as, bs1)) (hC : C f as bs1 = some (.ret v, bs2))
    (hp : exitP m ops i ov H (exitE R H.length v bs2) = some (nw ++ ov, H')) (h : RV G C m ops (i + 1) (nw ++ ov) H' none Q) : RV G C m ops i ov H none Q := by
  obtain ⟨e, hE, hp⟩ := Option.bind_eq_some_iff.1 hp
  exact rv_do (cref R args ho hR hA hC hE) hp h
theorem leave_pv {v v' : AV} {H : List Blk} (h : AV.puriRes (lookOf H) v = some v') : leave .pure 0 v H = some (v', []) := by
  simp only [leave, h, Option.bind_some, if_true]
theorem pR_tup {look : Look} {vs vs' : List AV} (h : puriL look vs = some vs') : AV.puriRes look (.tup vs) = some (.tup vs') := by
  simp only [AV.puriRes, h, Option.map_some]
theorem ret_pure {f : Nat} {fn : Func} {ex : Ex} {t : List AV} {HH : List Blk} {v v' : AV} (hex : match ex with
    | .normal | .ret => True
    | _ => False) (hm : G.M f = .pure) (hr : (resAll G ⟨t, HH⟩ fn.results.toList).map tupOf = some v) (hp : AV.puriRes (lookOf HH) v = some v') : RetQ G f fn 0 v' [] ex t HH := by
  refine ⟨hex, ?_⟩
  rw [Option.map_eq_some_iff] at hr
  obtain ⟨vs, h1, h2⟩ := hr
  rw [h1, Option.bind_some, h2, hm]
  exact leave_pv hp
def RetE (G : Cfg) (f : Nat) (fn : Func) (n0 : Nat) (P : AV → List Blk → Prop) : Ex → List AV → List Blk → Prop := fun ex t HH => (match ex with
      | .normal | .ret => True
      | _ => False) ∧ ∃ v H', ((resAll G ⟨t, HH⟩ fn.results.toList).bind fun vs => leave (G.M f) n0 (tupOf vs) HH) = some (v, H') ∧ P v H'
theorem callE {f n : Nat} {fn : Func} {c : Code} {args : List AV} {P : AV → List Blk → Prop} (m : Nat) (ov : List (Nat × AV)) (hf : G.P.funcs[f]? = some fn) (hb : fn.body = some c) (ht : args ++ List.replicate (fn.ntmps - args.length) .any = mk m ov)
    (h : WP (exec G (call G n) f n c none ⟨mk m ov, H⟩) (RetE G f fn H.length P)) :
    ∃ v H', call G (n + 1) f args H = some (.ret v, H') ∧ P v H' := by
  obtain ⟨ex, tt, HH, e, hex, v, H', hr, hP⟩ := h
  obtain ⟨vs, h1, h2⟩ := Option.bind_eq_some_iff.1 hr
  refine ⟨v, H', ?_, hP⟩
  simp only [call, hf, hb, ht, e]
  cases ex <;> simp only at hex <;> simp only [h1, Option.bind_some, h2, Option.map_some]
end
end Go.Ab
