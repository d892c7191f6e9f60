import Derived.Test.YtknmgphnkfeifaaAbLift
import Derived.Test.YtknmgphnkfeifaaAbStr
set_option linter.unusedVariables false
set_option linter.unusedSimpArgs false
/-! Lifted walks over local rows: reading, writing, growing; texts; calls that are handed blocks. -/
namespace Go.Ab
open Go

/-- The slice of the whole of it. -/
abbrev aR (id esz n : Nat) : AV := .ref id 0 n esz 0 n
section
variable {G : Cfg} {C : CallF} {m : Nat} {ops : Array Oper} {i : Nat} {ov : List (Nat × AV)} {H : List Blk}
/-- The other bits. -/
def notI (k : IntKind) (n : Int) : Int := k.wrap (BitVec.ofInt k.bits (if k.signed then -1 else k.max) ^^^ BitVec.ofInt k.bits n).toNat
/-- A part of a slice's literal leads into blocks. -/
theorem led_purO {t len nid : Nat} {is : List Nat} {vs : List AV} {ps : List AV} {R : List Nat} {e : Eff} (hR : reach (lookOf H) REACH (AV.idsL vs) [] = R) (hp : puriL (fun i => if R.contains i then lookOf H i else none) vs = some ps) (hb : aBuildSlice G.T H.length t len (is.zip ps) = some e)
    (ho : opL G C m ops i ov H = okE (aBuildPure G.T H.length t len is vs (lookOf H))) : opL G C m ops i ov H = some (.ok ⟨e.val, freezeAll (lookOf H) R, e.new⟩) := by
  rw [ho]
  subst hR
  unfold aBuildPure
  simp only [hp, Option.bind_some, hb, Option.map_some, okE]
end
/-! ### Calls that are handed blocks -/
section
variable {G : Cfg} {C : CallF} {m : Nat} {ops : Array Oper} {i : Nat} {ov : List (Nat × AV)} {H H' : List Blk} {Q : Ex → List AV → List Blk → List Seen → Prop}
def entryE (look : Look) (args : List AV) (R : List Nat) : Option (List AV × List Blk) := match AV.renL (placeOf R) args, (getAll look R).bind (blksRen (placeOf R)) with
  | some as, some bs => some (as, bs)
  | _, _ => none
def exitE (R : List Nat) (nid : Nat) (v : AV) (bs : List Blk) : Option Eff := match blksRen (backOf R nid) bs, v.ren (backOf R nid) with
  | some bs', some v' => some ⟨v', zipUpd R bs', bs'.drop R.length⟩
  | _, _ => none
theorem cref {f : Nat} (R : List Nat) (args : List AV) {as : List AV} {bs1 bs2 : List Blk} {v : AV} {e : Eff} (ho : opL G C m ops i ov H = callRef C f args (lookOf H) H.length) (hR : reach (lookOf H) REACH (AV.idsL args) [] = R) (hA : entryE (lookOf H) args R = some (as, bs1)) (hC : C f as bs1 = some (.ret v, bs2)) (hE : exitE R H.length v bs2 = some e) :
    opL G C m ops i ov H = some (.ok e) := by
  rw [ho]
  unfold entryE at hA
  unfold exitE at hE
  split at hA
  · rename_i a b h1 h2
    cases hA
    obtain ⟨b0, h2, h3⟩ := Option.bind_eq_some_iff.1 h2
    split at hE
    · rename_i b3 v' h4 h5
      cases hE
      rw [callRef_gen hR h1 h2 h3 hC h4 h5 rfl rfl]
    · cases hE
  · cases hA
def exitP (m : Nat) (ops : Array Oper) (i : Nat) (ov : List (Nat × AV)) (H : List Blk) (e : Option Eff) : Option (List (Nat × AV) × List Blk) := e.bind (postL m ops i ov H)
/-- Such a call, and what is behind it. -/
theorem dR (nw : List (Nat × AV)) (H' : List Blk) {f : Nat} (R : List Nat) (args : List AV) {as : List AV} {bs1 bs2 : List Blk} {v : AV} (ho : opL G C m ops i ov H = callRef C f args (lookOf H) H.length) (hR : reach (lookOf H) REACH (AV.idsL args) [] = R) (hA : entryE (lookOf H) args R = some (as, bs1)) (hC : C f as bs1 = some (.ret v, bs2))
    (hp : exitP m ops i ov H (exitE R H.length v bs2) = some (nw ++ ov, H')) (h : RV G C m ops (i + 1) (nw ++ ov) H' none Q) : RV G C m ops i ov H none Q := by
  obtain ⟨e, hE, hp⟩ := Option.bind_eq_some_iff.1 hp
  exact rv_do (cref R args ho hR hA hC hE) hp h
def RetE (G : Cfg) (f : Nat) (fn : Func) (n0 : Nat) (P : AV → List Blk → Prop) : Ex → List AV → List Blk → Prop := fun ex t HH => (match ex with
      | .normal | .ret => True
      | _ => False) ∧ ∃ v H', ((resAll G ⟨t, HH⟩ fn.results.toList).bind fun vs => leave (G.M f) n0 (tupOf vs) HH) = some (v, H') ∧ P v H'
theorem callE {f n : Nat} {fn : Func} {c : Code} {args : List AV} {P : AV → List Blk → Prop} (m : Nat) (ov : List (Nat × AV)) (hf : G.P.funcs[f]? = some fn) (hb : fn.body = some c) (ht : args ++ List.replicate (fn.ntmps - args.length) .any = mk m ov)
    (h : WP (exec G (call G n) f n c none ⟨mk m ov, H⟩) (RetE G f fn H.length P)) :
    ∃ v H', call G (n + 1) f args H = some (.ret v, H') ∧ P v H' := by
  obtain ⟨ex, tt, HH, e, hex, v, H', hr, hP⟩ := h
  obtain ⟨vs, h1, h2⟩ := Option.bind_eq_some_iff.1 hr
  refine ⟨v, H', ?_, hP⟩
  simp only [call, hf, hb, ht, e]
  cases ex <;> simp only at hex <;> simp only [h1, Option.bind_some, h2, Option.map_some]
end
end Go.Ab
