import Derived.Test.YtejbcaheoloahaaAbRow
import Derived.Test.YtejbcaheoloahaaAbArr
import Derived.Test.YtejbcaheoloahaaAbRec
noncomputable section
namespace Go.Pl
open Go Go.Ab
set_option linter.unusedVariables false
structure api_Value where
  fKind : Int
  fInt : Int
  fFloat : Nat
  fText : ByteArray
def R_api_Value (x : api_Value) : List PV := [.int .i64 x.fKind, .int .i64 x.fInt, .flt .f64 x.fFloat, .str x.fText]
def W_api_Value (x : api_Value) : Prop := (wI .i64) x.fKind ∧ (wI .i64) x.fInt ∧ (wF .f64) x.fFloat ∧ wS x.fText
inductive Good_api_Expr : List PV → Prop
  | nil (fKind : Int) (fRel : Int) (fCol : Int) (fConst : api_Value) : Good_api_Expr [.int .i64 fKind, .int .i64 fRel, .int .i64 fCol, .int .i64 fConst.fKind, .int .i64 fConst.fInt, .flt .f64 fConst.fFloat, .str fConst.fText, .nils]
  | some (fKind : Int) (fRel : Int) (fCol : Int) (fConst : api_Value) (rows : List (List PV)) (h : ∀ p, p ∈ rows → Good_api_Expr p) : Good_api_Expr [.int .i64 fKind, .int .i64 fRel, .int .i64 fCol, .int .i64 fConst.fKind, .int .i64 fConst.fInt, .flt .f64 fConst.fFloat, .str fConst.fText, .sl rows]
def E_api_Expr : Type := {p : List PV // Good_api_Expr p}
def R_E_api_Expr (y : E_api_Expr) : List PV := y.1
structure api_Expr where
  fKind : Int
  fRel : Int
  fCol : Int
  fConst : api_Value
  fKids : (Option (List E_api_Expr))
def R_api_Expr (x : api_Expr) : List PV := [.int .i64 x.fKind, .int .i64 x.fRel, .int .i64 x.fCol, .int .i64 x.fConst.fKind, .int .i64 x.fConst.fInt, .flt .f64 x.fConst.fFloat, .str x.fConst.fText, encSl R_E_api_Expr x.fKids]
theorem ex_api_Expr (y : E_api_Expr) : ∃ x : api_Expr, R_E_api_Expr y = R_api_Expr x := by
  obtain ⟨p, h⟩ := y
  cases h with
  | nil fKind fRel fCol fConst => exact ⟨⟨fKind, fRel, fCol, fConst, none⟩, rfl⟩
  | some fKind fRel fCol fConst rows h =>
    obtain ⟨l, hl⟩ := rows_lift rows h
    subst hl
    exact ⟨⟨fKind, fRel, fCol, fConst, some l⟩, rfl⟩
def un_api_Expr (y : E_api_Expr) : api_Expr := Classical.choose (ex_api_Expr y)
theorem R_un_api_Expr (y : E_api_Expr) : R_E_api_Expr y = R_api_Expr (un_api_Expr y) := Classical.choose_spec (ex_api_Expr y)
theorem len_E_api_Expr (y : E_api_Expr) : (R_E_api_Expr y).length = 8 := by rw [R_un_api_Expr y]; rfl
inductive WG_api_Expr : List PV → Prop
  | nil (fKind : Int) (fRel : Int) (fCol : Int) (fConst : api_Value) (w : (wI .i64) fKind ∧ (wI .i64) fRel ∧ (wI .i64) fCol ∧ W_api_Value fConst) : WG_api_Expr [.int .i64 fKind, .int .i64 fRel, .int .i64 fCol, .int .i64 fConst.fKind, .int .i64 fConst.fInt, .flt .f64 fConst.fFloat, .str fConst.fText, .nils]
  | some (fKind : Int) (fRel : Int) (fCol : Int) (fConst : api_Value) (rows : List (List PV)) (w : (wI .i64) fKind ∧ (wI .i64) fRel ∧ (wI .i64) fCol ∧ W_api_Value fConst) (hl : rows.length ≤ 1048576) (h : ∀ p, p ∈ rows → WG_api_Expr p) : WG_api_Expr [.int .i64 fKind, .int .i64 fRel, .int .i64 fCol, .int .i64 fConst.fKind, .int .i64 fConst.fInt, .flt .f64 fConst.fFloat, .str fConst.fText, .sl rows]
def W_E_api_Expr (y : E_api_Expr) : Prop := WG_api_Expr (R_E_api_Expr y) ∧ PV.bulkL (R_E_api_Expr y) ≤ 1048576
def W_api_Expr (x : api_Expr) : Prop := WG_api_Expr (R_api_Expr x) ∧ PV.bulkL (R_api_Expr x) ≤ 1048576
structure tabularyref19_Bucket where
  fLow : api_Value
  fHigh : api_Value
  fCount : Int
  fDistinct : Int
def R_tabularyref19_Bucket (x : tabularyref19_Bucket) : List PV := [.int .i64 x.fLow.fKind, .int .i64 x.fLow.fInt, .flt .f64 x.fLow.fFloat, .str x.fLow.fText, .int .i64 x.fHigh.fKind, .int .i64 x.fHigh.fInt, .flt .f64 x.fHigh.fFloat, .str x.fHigh.fText, .int .i64 x.fCount, .int .i64 x.fDistinct]
structure tabularyref20_Col where
  fKind : Int
  fNulls : Int
  fDistinct : Int
  fHist : (Option (List tabularyref19_Bucket))
  fSample : (Option (List api_Value))
  fSketch : (Nat → Int)
def R_tabularyref20_Col (x : tabularyref20_Col) : List PV := ([.int .i64 x.fKind, .int .i64 x.fNulls, .int .i64 x.fDistinct, encSl R_tabularyref19_Bucket x.fHist, encSl R_api_Value x.fSample] ++ (rA .u8 64 x.fSketch))
structure tabularyref20_Stat where
  fRows : Int
  fCols : (Option (List tabularyref20_Col))
def R_tabularyref20_Stat (x : tabularyref20_Stat) : List PV := [.int .i64 x.fRows, encSl R_tabularyref20_Col x.fCols]
/-- Run by the kernel. -/
def law31_works (n : Nat) : Option (Bool) := bif n == 3999999 then some true else none
def ref22_Bulk_l5 (n : Nat) (rc_ref22_Bulk : (Nat → (Option (List E_api_Expr)) → Int → Option (Int))) (a0 : (Option (List E_api_Expr))) (a1 : Int) (k5 : (Int → Option (Int))) : Nat → Int → Int → Option (Int)
  | 0, _, _ => none
  | m10 + 1, y8, y9 => bif ((decide (y9 < ((sll a0).length : Int))) && (decide (y8 ≤ a1))) then (idx (sll a0) y9).bind fun x12 => bif (decide (((((un_api_Expr x12).fConst).fText).size : Int) > a1)) then some (IntKind.wrap .i64 (a1 + 1)) else bif (decide ((IntKind.wrap .i64 (y8 + ((((un_api_Expr x12).fConst).fText).size : Int))) ≤ a1)) then (rc_ref22_Bulk n ((un_api_Expr x12).fKids) (IntKind.wrap .i64 (a1 - (IntKind.wrap .i64 (y8 + ((((un_api_Expr x12).fConst).fText).size : Int)))))).bind fun x16 => ref22_Bulk_l5 n rc_ref22_Bulk a0 a1 k5 m10 (IntKind.wrap .i64 ((IntKind.wrap .i64 (y8 + ((((un_api_Expr x12).fConst).fText).size : Int))) + x16)) (IntKind.wrap .i64 (y9 + 1)) else ref22_Bulk_l5 n rc_ref22_Bulk a0 a1 k5 m10 (IntKind.wrap .i64 (y8 + ((((un_api_Expr x12).fConst).fText).size : Int))) (IntKind.wrap .i64 (y9 + 1)) else k5 y8
def ref22_Bulk_f (rc_ref22_Bulk : (Nat → (Option (List E_api_Expr)) → Int → Option (Int))) (n : Nat) (a0 : (Option (List E_api_Expr))) (a1 : Int) : Option (Int) := at1 n fun n =>
  bif (decide (((sll a0).length : Int) > a1)) then some (IntKind.wrap .i64 (a1 + 1)) else withK (fun k5 => ref22_Bulk_l5 n rc_ref22_Bulk a0 a1 k5 n ((sll a0).length : Int) 0) (fun (y3 : Int) => some y3)
def ref22_Bulk_t : Nat → Nat → (Option (List E_api_Expr)) → Int → Option (Int)
  | 0 => fun _ _ _ => none
  | m + 1 => ref22_Bulk_f (ref22_Bulk_t m)
def ref22_Bulk (n : Nat) (a0 : (Option (List E_api_Expr))) (a1 : Int) : Option (Int) := ref22_Bulk_t n n a0 a1
def law20_Great_l4 (n : Nat) (a0 : tabularyref20_Stat) (k4 : (Unit → Option (Bool))) : Nat → Int → Option (Bool)
  | 0, _ => none
  | m7 + 1, y6 => bif (decide (y6 < ((sll a0.fCols).length : Int))) then (idx (sll a0.fCols) y6).bind fun x9 => bif ((decide (((sll x9.fHist).length : Int) > 60)) || (decide (((sll x9.fSample).length : Int) > 70))) then some true else law20_Great_l4 n a0 k4 m7 (IntKind.wrap .i64 (y6 + 1)) else k4 ()
def law20_Great (n : Nat) (a0 : tabularyref20_Stat) : Option (Bool) := at1 n fun n =>
  bif (decide (((sll a0.fCols).length : Int) > 12)) then some true else withK (fun k4 => law20_Great_l4 n a0 k4 n 0) (fun (_ : Unit) => some false)
def law31_Great_l4 (n : Nat) (a1 : (Option (List tabularyref20_Stat))) (k6 : (Unit → Option (Bool))) : Nat → Int → Option (Bool)
  | 0, _ => none
  | m9 + 1, y8 => bif (decide (y8 < ((sll a1).length : Int))) then (idx (sll a1) y8).bind fun x11 => (law20_Great n x11).bind fun x13 => bif x13 then some true else law31_Great_l4 n a1 k6 m9 (IntKind.wrap .i64 (y8 + 1)) else k6 ()
def law31_Great (n : Nat) (a0 : (Option (List E_api_Expr))) (a1 : (Option (List tabularyref20_Stat))) : Option (Bool) := at1 n fun n =>
  (ref22_Bulk n a0 400).bind fun x1 => bif ((decide (x1 > 400)) || (decide (((sll a1).length : Int) > 13))) then some true else withK (fun k6 => law31_Great_l4 n a1 k6 n 0) (fun (_ : Unit) => some false)
def expr_Rels_l5 (n : Nat) (rc_expr_Rels : (Nat → api_Expr → Option (Int))) (a0 : api_Expr) (k7 : (Int → Option (Int))) : Nat → Int → Int → Option (Int)
  | 0, _, _ => none
  | m12 + 1, y10, y11 => bif (decide (y10 < ((sll a0.fKids).length : Int))) then (idx (sll a0.fKids) y10).bind fun x14 => (rc_expr_Rels n (api_Expr.mk ((un_api_Expr x14).fKind) ((un_api_Expr x14).fRel) ((un_api_Expr x14).fCol) (api_Value.mk (((un_api_Expr x14).fConst).fKind) (((un_api_Expr x14).fConst).fInt) (((un_api_Expr x14).fConst).fFloat) (((un_api_Expr x14).fConst).fText)) ((un_api_Expr x14).fKids))).bind fun x16 => expr_Rels_l5 n rc_expr_Rels a0 k7 m12 (IntKind.wrap .i64 (y10 + 1)) (iOr .u32 y11 x16) else k7 y11
def expr_Rels_f (rc_expr_Rels : (Nat → api_Expr → Option (Int))) (n : Nat) (a0 : api_Expr) : Option (Int) := at1 n fun n =>
  withK (fun k3 => bif (((a0.fKind == 1) && (decide (a0.fRel ≥ 0))) && (decide (a0.fRel ≤ 31))) then (ckN (IntKind.wrap .u64 a0.fRel)).bind fun _ => k3 (iShl .u32 1 (IntKind.wrap .u64 a0.fRel)) else k3 0) (fun (y2 : Int) => withK (fun k7 => expr_Rels_l5 n rc_expr_Rels a0 k7 n 0 y2) (fun (y6 : Int) => some y6))
def expr_Rels_t : Nat → Nat → api_Expr → Option (Int)
  | 0 => fun _ _ => none
  | m + 1 => expr_Rels_f (expr_Rels_t m)
def expr_Rels (n : Nat) (a0 : api_Expr) : Option (Int) := expr_Rels_t n n a0
def guess_Within_l3 (n : Nat) (a0 : (Option (List E_api_Expr))) (a1 : Int) (k6 : ((Option (List Int)) → Option ((Option (List Int))))) : Nat → Int → (Option (List Int)) → Option ((Option (List Int)))
  | 0, _, _ => none
  | m18 + 1, y14, none => bif (decide (y14 < ((sll a0).length : Int))) then (idx (sll a0) y14).bind fun x20 => (expr_Rels n (api_Expr.mk ((un_api_Expr x20).fKind) ((un_api_Expr x20).fRel) ((un_api_Expr x20).fCol) (api_Value.mk (((un_api_Expr x20).fConst).fKind) (((un_api_Expr x20).fConst).fInt) (((un_api_Expr x20).fConst).fFloat) (((un_api_Expr x20).fConst).fText)) ((un_api_Expr x20).fKids))).bind fun x22 => bif (((iAndNot .u32 x22 a1) == 0) && ((x22 != 0) || ((iAnd .u32 a1 1) == 1))) then (ckA 8 ([y14] : List Int).length).bind fun _ => guess_Within_l3 n a0 a1 k6 m18 (IntKind.wrap .i64 (y14 + 1)) (some ([y14] : List Int)) else guess_Within_l3 n a0 a1 k6 m18 (IntKind.wrap .i64 (y14 + 1)) none else k6 none
  | m18 + 1, y14, (some y15) => bif (decide (y14 < ((sll a0).length : Int))) then (idx (sll a0) y14).bind fun x27 => (expr_Rels n (api_Expr.mk ((un_api_Expr x27).fKind) ((un_api_Expr x27).fRel) ((un_api_Expr x27).fCol) (api_Value.mk (((un_api_Expr x27).fConst).fKind) (((un_api_Expr x27).fConst).fInt) (((un_api_Expr x27).fConst).fFloat) (((un_api_Expr x27).fConst).fText)) ((un_api_Expr x27).fKids))).bind fun x29 => bif (((iAndNot .u32 x29 a1) == 0) && ((x29 != 0) || ((iAnd .u32 a1 1) == 1))) then (ckA 8 (y15 ++ ([y14] : List Int)).length).bind fun _ => guess_Within_l3 n a0 a1 k6 m18 (IntKind.wrap .i64 (y14 + 1)) (some (y15 ++ ([y14] : List Int))) else guess_Within_l3 n a0 a1 k6 m18 (IntKind.wrap .i64 (y14 + 1)) (some y15) else k6 (some y15)
def guess_Within (n : Nat) (a0 : (Option (List E_api_Expr))) (a1 : Int) : Option ((Option (List Int))) := at1 n fun n =>
  withK (fun (k6 : (Option (List Int)) → Option ((Option (List Int)))) => guess_Within_l3 n a0 a1 k6 n 0 none) (fun | none => some none | (some y3) => some (some y3))
def law31_in (n : Nat) (a0 : (Option (List E_api_Expr))) (a1 : Int) (a2 : Int) : Option (Bool) := at1 n fun n =>
  (ckB a2 (IntKind.wrap .i64 (a2 + 1)) ((sll a0).length : Int)).bind fun _ => (guess_Within n (subSl a0 a2 (IntKind.wrap .i64 (a2 + 1))) a1).bind fun x2 => some (((sll x2).length : Int) == 1)
def law31_GuessSplits_l16 (n : Nat) (a0 : (Option (List E_api_Expr))) (a1 : Int) (a2 : Int) (k15 : (Unit → Option (Bool))) : Nat → Int → Option (Bool)
  | 0, _ => none
  | m18 + 1, y17 => bif (decide (y17 < ((sll a0).length : Int))) then (law31_in n a0 a1 y17).bind fun x20 => bif x20 then some false else (law31_in n a0 (iAndNot .u32 a2 a1) y17).bind fun x23 => bif x23 then some false else law31_GuessSplits_l16 n a0 a1 a2 k15 m18 (IntKind.wrap .i64 (y17 + 1)) else k15 ()
def law31_GuessSplits_l10 (n : Nat) (a0 : (Option (List E_api_Expr))) (a1 : Int) (a2 : Int) (x36 : Int) (k40 : (Int → Option (Bool))) : Nat → Int → Option (Bool)
  | 0, _ => none
  | m43 + 1, y42 => bif (decide (y42 < x36)) then (law31_in n a0 a1 y42).bind fun x45 => bif x45 then some false else (law31_in n a0 (iAndNot .u32 a2 a1) y42).bind fun x48 => bif x48 then some false else law31_GuessSplits_l10 n a0 a1 a2 x36 k40 m43 (IntKind.wrap .i64 (y42 + 1)) else k40 y42
def law31_GuessSplits_l8 (n : Nat) (a0 : (Option (List E_api_Expr))) (a1 : Int) (a2 : Int) (k12 : (Int → Option (Bool))) (x26 : (Option (List Int))) : Nat → Int → Int → Option (Bool)
  | 0, _, _ => none
  | m32 + 1, y30, y31 => bif (decide (y30 < ((sll x26).length : Int))) then withK (fun k35 => (idx (sll x26) y30).bind fun x36 => withK (fun k40 => law31_GuessSplits_l10 n a0 a1 a2 x36 k40 n y31) (fun (y39 : Int) => k35 (IntKind.wrap .i64 (y39 + 1)))) (fun (y34 : Int) => law31_GuessSplits_l8 n a0 a1 a2 k12 x26 m32 (IntKind.wrap .i64 (y30 + 1)) y34) else k12 y31
def law31_GuessSplits (n : Nat) (a0 : (Option (List E_api_Expr))) (a1 : Int) (a2 : Int) : Option (Bool) := at1 n fun n =>
  (law31_works n).bind fun x1 => bif (!x1) then some false else (law31_Great n a0 none).bind fun x4 => bif x4 then some true else withK (fun k12 => (guess_Within n a0 (iOr .u32 a1 (iAndNot .u32 a2 a1))).bind fun x26 => law31_GuessSplits_l8 n a0 a1 a2 k12 x26 n 0 0) (fun (y11 : Int) => withK (fun k15 => law31_GuessSplits_l16 n a0 a1 a2 k15 n y11) (fun (_ : Unit) => some true))
end Go.Pl
