import Derived.Test.YtejbcaheoloahaaAbRow
import Derived.Test.YtejbcaheoloahaaAbArr
import Derived.Test.YtejbcaheoloahaaAbRec
noncomputable section
namespace Go.Pl
open Go Go.Ab
structure api_Value where
  fKind : Int
  fInt : Int
  fFloat : Nat
  fText : ByteArray
def R_api_Value (x : api_Value) : List PV := [.int .i64 x.fKind, .int .i64 x.fInt, .flt .f64 x.fFloat, .str x.fText]
def W_api_Value (x : api_Value) : Prop := (wI .i64) x.fKind ∧ (wI .i64) x.fInt ∧ (wF .f64) x.fFloat ∧ wS x.fText
inductive Good_api_Expr : List PV → Prop
  | nil (fKind : Int) (fRel : Int) (fCol : Int) (fConst : api_Value) : Good_api_Expr [.int .i64 fKind, .int .i64 fRel, .int .i64 fCol, .int .i64 fConst.fKind, .int .i64 fConst.fInt, .flt .f64 fConst.fFloat, .str fConst.fText, .nils]
  | some (fKind : Int) (fRel : Int) (fCol : Int) (fConst : api_Value) (rows : List (List PV)) (h : ∀ p, p ∈ rows → Good_api_Expr p) : Good_api_Expr [.int .i64 fKind, .int .i64 fRel, .int .i64 fCol, .int .i64 fConst.fKind, .int .i64 fConst.fInt, .flt .f64 fConst.fFloat, .str fConst.fText, .sl rows]
def E_api_Expr : Type := {p : List PV // Good_api_Expr p}
def R_E_api_Expr (y : E_api_Expr) : List PV := y.1
structure api_Expr where
  fKind : Int
  fRel : Int
  fCol : Int
  fConst : api_Value
  fKids : (Option (List E_api_Expr))
def R_api_Expr (x : api_Expr) : List PV := [.int .i64 x.fKind, .int .i64 x.fRel, .int .i64 x.fCol, .int .i64 x.fConst.fKind, .int .i64 x.fConst.fInt, .flt .f64 x.fConst.fFloat, .str x.fConst.fText, encSl R_E_api_Expr x.fKids]
theorem good_api_Expr (x : api_Expr) : Good_api_Expr (R_api_Expr x) := by
  obtain ⟨fKind, fRel, fCol, fConst, fKids⟩ := x
  cases fKids with
  | none => exact .nil fKind fRel fCol fConst
  | some l => exact .some fKind fRel fCol fConst (l.map R_E_api_Expr) (by intro p hp; obtain ⟨y, _, rfl⟩ := List.mem_map.1 hp; exact y.2)
def roll_api_Expr (x : api_Expr) : E_api_Expr := ⟨R_api_Expr x, good_api_Expr x⟩
theorem ex_api_Expr (y : E_api_Expr) : ∃ x : api_Expr, R_E_api_Expr y = R_api_Expr x := by
  obtain ⟨p, h⟩ := y
  cases h with
  | nil fKind fRel fCol fConst => exact ⟨⟨fKind, fRel, fCol, fConst, none⟩, rfl⟩
  | some fKind fRel fCol fConst rows h =>
    obtain ⟨l, hl⟩ := rows_lift rows h
    subst hl
    exact ⟨⟨fKind, fRel, fCol, fConst, some l⟩, rfl⟩
def un_api_Expr (y : E_api_Expr) : api_Expr := Classical.choose (ex_api_Expr y)
theorem R_un_api_Expr (y : E_api_Expr) : R_E_api_Expr y = R_api_Expr (un_api_Expr y) := Classical.choose_spec (ex_api_Expr y)
theorem len_E_api_Expr (y : E_api_Expr) : (R_E_api_Expr y).length = 8 := by rw [R_un_api_Expr y]; rfl
inductive WG_api_Expr : List PV → Prop
  | nil (fKind : Int) (fRel : Int) (fCol : Int) (fConst : api_Value) (w : (wI .i64) fKind ∧ (wI .i64) fRel ∧ (wI .i64) fCol ∧ W_api_Value fConst) : WG_api_Expr [.int .i64 fKind, .int .i64 fRel, .int .i64 fCol, .int .i64 fConst.fKind, .int .i64 fConst.fInt, .flt .f64 fConst.fFloat, .str fConst.fText, .nils]
  | some (fKind : Int) (fRel : Int) (fCol : Int) (fConst : api_Value) (rows : List (List PV)) (w : (wI .i64) fKind ∧ (wI .i64) fRel ∧ (wI .i64) fCol ∧ W_api_Value fConst) (hl : rows.length ≤ 1048576) (h : ∀ p, p ∈ rows → WG_api_Expr p) : WG_api_Expr [.int .i64 fKind, .int .i64 fRel, .int .i64 fCol, .int .i64 fConst.fKind, .int .i64 fConst.fInt, .flt .f64 fConst.fFloat, .str fConst.fText, .sl rows]
def W_E_api_Expr (y : E_api_Expr) : Prop := WG_api_Expr (R_E_api_Expr y) ∧ PV.bulkL (R_E_api_Expr y) ≤ 1048576
def W_api_Expr (x : api_Expr) : Prop := WG_api_Expr (R_api_Expr x) ∧ PV.bulkL (R_api_Expr x) ≤ 1048576
structure tabularyref19_Bucket where
  fLow : api_Value
  fHigh : api_Value
  fCount : Int
  fDistinct : Int
def R_tabularyref19_Bucket (x : tabularyref19_Bucket) : List PV := [.int .i64 x.fLow.fKind, .int .i64 x.fLow.fInt, .flt .f64 x.fLow.fFloat, .str x.fLow.fText, .int .i64 x.fHigh.fKind, .int .i64 x.fHigh.fInt, .flt .f64 x.fHigh.fFloat, .str x.fHigh.fText, .int .i64 x.fCount, .int .i64 x.fDistinct]
def W_tabularyref19_Bucket (x : tabularyref19_Bucket) : Prop := W_api_Value x.fLow ∧ W_api_Value x.fHigh ∧ (wI .i64) x.fCount ∧ (wI .i64) x.fDistinct
structure tabularyref20_Col where
  fKind : Int
  fNulls : Int
  fDistinct : Int
  fHist : (Option (List tabularyref19_Bucket))
  fSample : (Option (List api_Value))
  fSketch : (Nat → Int)
def R_tabularyref20_Col (x : tabularyref20_Col) : List PV := ([.int .i64 x.fKind, .int .i64 x.fNulls, .int .i64 x.fDistinct, encSl R_tabularyref19_Bucket x.fHist, encSl R_api_Value x.fSample] ++ (rA .u8 64 x.fSketch))
def W_tabularyref20_Col (x : tabularyref20_Col) : Prop := (wI .i64) x.fKind ∧ (wI .i64) x.fNulls ∧ (wI .i64) x.fDistinct ∧ (wSl W_tabularyref19_Bucket) x.fHist ∧ (wSl W_api_Value) x.fSample ∧ (wA .u8 64) x.fSketch
structure tabularyref20_Stat where
  fRows : Int
  fCols : (Option (List tabularyref20_Col))
def R_tabularyref20_Stat (x : tabularyref20_Stat) : List PV := [.int .i64 x.fRows, encSl R_tabularyref20_Col x.fCols]
def W_tabularyref20_Stat (x : tabularyref20_Stat) : Prop := (wI .i64) x.fRows ∧ (wSl W_tabularyref20_Col) x.fCols
structure hist_Bucket where
  fLow : api_Value
  fHigh : api_Value
  fCount : Int
  fDistinct : Int
def R_hist_Bucket (x : hist_Bucket) : List PV := [.int .i64 x.fLow.fKind, .int .i64 x.fLow.fInt, .flt .f64 x.fLow.fFloat, .str x.fLow.fText, .int .i64 x.fHigh.fKind, .int .i64 x.fHigh.fInt, .flt .f64 x.fHigh.fFloat, .str x.fHigh.fText, .int .i64 x.fCount, .int .i64 x.fDistinct]
def W_hist_Bucket (x : hist_Bucket) : Prop := W_api_Value x.fLow ∧ W_api_Value x.fHigh ∧ (wI .i64) x.fCount ∧ (wI .i64) x.fDistinct
structure hll_Sketch where
  fRegs : (Nat → Int)
def W_hll_Sketch (x : hll_Sketch) : Prop := (wA .u8 64) x.fRegs
structure stat_Col where
  fKind : Int
  fNulls : Int
  fDistinct : Int
  fHist : (Option (List hist_Bucket))
  fSample : (Option (List api_Value))
  fSketch : hll_Sketch
def R_stat_Col (x : stat_Col) : List PV := ([.int .i64 x.fKind, .int .i64 x.fNulls, .int .i64 x.fDistinct, encSl R_hist_Bucket x.fHist, encSl R_api_Value x.fSample] ++ (rA .u8 64 x.fSketch.fRegs))
def W_stat_Col (x : stat_Col) : Prop := (wI .i64) x.fKind ∧ (wI .i64) x.fNulls ∧ (wI .i64) x.fDistinct ∧ (wSl W_hist_Bucket) x.fHist ∧ (wSl W_api_Value) x.fSample ∧ W_hll_Sketch x.fSketch
structure stat_Stat where
  fRows : Int
  fCols : (Option (List stat_Col))
def R_stat_Stat (x : stat_Stat) : List PV := [.int .i64 x.fRows, encSl R_stat_Col x.fCols]
def W_stat_Stat (x : stat_Stat) : Prop := (wI .i64) x.fRows ∧ (wSl W_stat_Col) x.fCols
structure api_Agg where
  fKind : Int
  fOf : api_Expr
def R_api_Agg (x : api_Agg) : List PV := [.int .i64 x.fKind, .int .i64 x.fOf.fKind, .int .i64 x.fOf.fRel, .int .i64 x.fOf.fCol, .int .i64 x.fOf.fConst.fKind, .int .i64 x.fOf.fConst.fInt, .flt .f64 x.fOf.fConst.fFloat, .str x.fOf.fConst.fText, encSl R_E_api_Expr x.fOf.fKids]
def W_api_Agg (x : api_Agg) : Prop := (wI .i64) x.fKind ∧ W_api_Expr x.fOf
structure api_Key where
  fOut : Int
  fDesc : Bool
def R_api_Key (x : api_Key) : List PV := [.int .i64 x.fOut, .bool x.fDesc]
def W_api_Key (x : api_Key) : Prop := (wI .i64) x.fOut ∧ wB x.fDesc
inductive Good_api_Plan : List PV → Prop
  | nil (fKind : Int) (fRel : Int) (fWhere : (Option (List E_api_Expr))) (fLeft : (Option (List E_api_Expr))) (fRight : (Option (List E_api_Expr))) (fOut : (Option (List E_api_Expr))) (fAggs : (Option (List api_Agg))) (fOrder : (Option (List api_Key))) : Good_api_Plan [.int .i64 fKind, .int .i64 fRel, encSl R_E_api_Expr fWhere, encSl R_E_api_Expr fLeft, encSl R_E_api_Expr fRight, encSl R_E_api_Expr fOut, encSl R_api_Agg fAggs, encSl R_api_Key fOrder, .nils]
  | some (fKind : Int) (fRel : Int) (fWhere : (Option (List E_api_Expr))) (fLeft : (Option (List E_api_Expr))) (fRight : (Option (List E_api_Expr))) (fOut : (Option (List E_api_Expr))) (fAggs : (Option (List api_Agg))) (fOrder : (Option (List api_Key))) (rows : List (List PV)) (h : ∀ p, p ∈ rows → Good_api_Plan p) : Good_api_Plan [.int .i64 fKind, .int .i64 fRel, encSl R_E_api_Expr fWhere, encSl R_E_api_Expr fLeft, encSl R_E_api_Expr fRight, encSl R_E_api_Expr fOut, encSl R_api_Agg fAggs, encSl R_api_Key fOrder, .sl rows]
def E_api_Plan : Type := {p : List PV // Good_api_Plan p}
def R_E_api_Plan (y : E_api_Plan) : List PV := y.1
structure api_Plan where
  fKind : Int
  fRel : Int
  fWhere : (Option (List E_api_Expr))
  fLeft : (Option (List E_api_Expr))
  fRight : (Option (List E_api_Expr))
  fOut : (Option (List E_api_Expr))
  fAggs : (Option (List api_Agg))
  fOrder : (Option (List api_Key))
  fKids : (Option (List E_api_Plan))
def R_api_Plan (x : api_Plan) : List PV := [.int .i64 x.fKind, .int .i64 x.fRel, encSl R_E_api_Expr x.fWhere, encSl R_E_api_Expr x.fLeft, encSl R_E_api_Expr x.fRight, encSl R_E_api_Expr x.fOut, encSl R_api_Agg x.fAggs, encSl R_api_Key x.fOrder, encSl R_E_api_Plan x.fKids]
theorem good_api_Plan (x : api_Plan) : Good_api_Plan (R_api_Plan x) := by
  obtain ⟨fKind, fRel, fWhere, fLeft, fRight, fOut, fAggs, fOrder, fKids⟩ := x
  cases fKids with
  | none => exact .nil fKind fRel fWhere fLeft fRight fOut fAggs fOrder
  | some l => exact .some fKind fRel fWhere fLeft fRight fOut fAggs fOrder (l.map R_E_api_Plan) (by intro p hp; obtain ⟨y, _, rfl⟩ := List.mem_map.1 hp; exact y.2)
def roll_api_Plan (x : api_Plan) : E_api_Plan := ⟨R_api_Plan x, good_api_Plan x⟩
theorem ex_api_Plan (y : E_api_Plan) : ∃ x : api_Plan, R_E_api_Plan y = R_api_Plan x := by
  obtain ⟨p, h⟩ := y
  cases h with
  | nil fKind fRel fWhere fLeft fRight fOut fAggs fOrder => exact ⟨⟨fKind, fRel, fWhere, fLeft, fRight, fOut, fAggs, fOrder, none⟩, rfl⟩
  | some fKind fRel fWhere fLeft fRight fOut fAggs fOrder rows h =>
    obtain ⟨l, hl⟩ := rows_lift rows h
    subst hl
    exact ⟨⟨fKind, fRel, fWhere, fLeft, fRight, fOut, fAggs, fOrder, some l⟩, rfl⟩
def un_api_Plan (y : E_api_Plan) : api_Plan := Classical.choose (ex_api_Plan y)
theorem R_un_api_Plan (y : E_api_Plan) : R_E_api_Plan y = R_api_Plan (un_api_Plan y) := Classical.choose_spec (ex_api_Plan y)
theorem len_E_api_Plan (y : E_api_Plan) : (R_E_api_Plan y).length = 9 := by rw [R_un_api_Plan y]; rfl
inductive WG_api_Plan : List PV → Prop
  | nil (fKind : Int) (fRel : Int) (fWhere : (Option (List E_api_Expr))) (fLeft : (Option (List E_api_Expr))) (fRight : (Option (List E_api_Expr))) (fOut : (Option (List E_api_Expr))) (fAggs : (Option (List api_Agg))) (fOrder : (Option (List api_Key))) (w : (wI .i64) fKind ∧ (wI .i64) fRel ∧ (wSl W_E_api_Expr) fWhere ∧ (wSl W_E_api_Expr) fLeft ∧ (wSl W_E_api_Expr) fRight ∧ (wSl W_E_api_Expr) fOut ∧ (wSl W_api_Agg) fAggs ∧ (wSl W_api_Key) fOrder) : WG_api_Plan [.int .i64 fKind, .int .i64 fRel, encSl R_E_api_Expr fWhere, encSl R_E_api_Expr fLeft, encSl R_E_api_Expr fRight, encSl R_E_api_Expr fOut, encSl R_api_Agg fAggs, encSl R_api_Key fOrder, .nils]
  | some (fKind : Int) (fRel : Int) (fWhere : (Option (List E_api_Expr))) (fLeft : (Option (List E_api_Expr))) (fRight : (Option (List E_api_Expr))) (fOut : (Option (List E_api_Expr))) (fAggs : (Option (List api_Agg))) (fOrder : (Option (List api_Key))) (rows : List (List PV)) (w : (wI .i64) fKind ∧ (wI .i64) fRel ∧ (wSl W_E_api_Expr) fWhere ∧ (wSl W_E_api_Expr) fLeft ∧ (wSl W_E_api_Expr) fRight ∧ (wSl W_E_api_Expr) fOut ∧ (wSl W_api_Agg) fAggs ∧ (wSl W_api_Key) fOrder) (hl : rows.length ≤ 1048576) (h : ∀ p, p ∈ rows → WG_api_Plan p) : WG_api_Plan [.int .i64 fKind, .int .i64 fRel, encSl R_E_api_Expr fWhere, encSl R_E_api_Expr fLeft, encSl R_E_api_Expr fRight, encSl R_E_api_Expr fOut, encSl R_api_Agg fAggs, encSl R_api_Key fOrder, .sl rows]
def W_E_api_Plan (y : E_api_Plan) : Prop := WG_api_Plan (R_E_api_Plan y) ∧ PV.bulkL (R_E_api_Plan y) ≤ 1048576
def W_api_Plan (x : api_Plan) : Prop := WG_api_Plan (R_api_Plan x) ∧ PV.bulkL (R_api_Plan x) ≤ 1048576
structure api_Query where
  fRels : (Option (List ByteArray))
  fWhere : (Option (List E_api_Expr))
  fGrouped : Bool
  fOut : (Option (List E_api_Expr))
  fAggs : (Option (List api_Agg))
  fOrder : (Option (List api_Key))
structure cost_coster where
  fwhere : (Option (List E_api_Expr))
  fstats : (Option (List stat_Stat))
def ref22_Bulk_l5 (n : Nat) (rc_ref22_Bulk : (Nat → (Option (List E_api_Expr)) → Int → Option (Int))) (a0 : (Option (List E_api_Expr))) (a1 : Int) (k5 : (Int → Option (Int))) : Nat → Int → Int → Option (Int)
  | 0, _, _ => none
  | m10 + 1, y8, y9 => bif ((decide (y9 < ((sll a0).length : Int))) && (decide (y8 ≤ a1))) then (idx (sll a0) y9).bind fun x12 => bif (decide (((((un_api_Expr x12).fConst).fText).size : Int) > a1)) then some (IntKind.wrap .i64 (a1 + 1)) else bif (decide ((IntKind.wrap .i64 (y8 + ((((un_api_Expr x12).fConst).fText).size : Int))) ≤ a1)) then (rc_ref22_Bulk n ((un_api_Expr x12).fKids) (IntKind.wrap .i64 (a1 - (IntKind.wrap .i64 (y8 + ((((un_api_Expr x12).fConst).fText).size : Int)))))).bind fun x16 => ref22_Bulk_l5 n rc_ref22_Bulk a0 a1 k5 m10 (IntKind.wrap .i64 ((IntKind.wrap .i64 (y8 + ((((un_api_Expr x12).fConst).fText).size : Int))) + x16)) (IntKind.wrap .i64 (y9 + 1)) else ref22_Bulk_l5 n rc_ref22_Bulk a0 a1 k5 m10 (IntKind.wrap .i64 (y8 + ((((un_api_Expr x12).fConst).fText).size : Int))) (IntKind.wrap .i64 (y9 + 1)) else k5 y8
def ref22_Bulk_f (rc_ref22_Bulk : (Nat → (Option (List E_api_Expr)) → Int → Option (Int))) (n : Nat) (a0 : (Option (List E_api_Expr))) (a1 : Int) : Option (Int) := at1 n fun n =>
  bif (decide (((sll a0).length : Int) > a1)) then some (IntKind.wrap .i64 (a1 + 1)) else withK (fun k5 => ref22_Bulk_l5 n rc_ref22_Bulk a0 a1 k5 n ((sll a0).length : Int) 0) (fun (y3 : Int) => some y3)
def ref22_Bulk_t : Nat → Nat → (Option (List E_api_Expr)) → Int → Option (Int)
  | 0 => fun _ _ _ => none
  | m + 1 => ref22_Bulk_f (ref22_Bulk_t m)
def ref22_Bulk (n : Nat) (a0 : (Option (List E_api_Expr))) (a1 : Int) : Option (Int) := ref22_Bulk_t n n a0 a1
def law20_Great_l4 (n : Nat) (a0 : tabularyref20_Stat) (k4 : (Unit → Option (Bool))) : Nat → Int → Option (Bool)
  | 0, _ => none
  | m7 + 1, y6 => bif (decide (y6 < ((sll a0.fCols).length : Int))) then (idx (sll a0.fCols) y6).bind fun x9 => bif ((decide (((sll x9.fHist).length : Int) > 60)) || (decide (((sll x9.fSample).length : Int) > 70))) then some true else law20_Great_l4 n a0 k4 m7 (IntKind.wrap .i64 (y6 + 1)) else k4 ()
def law20_Great (n : Nat) (a0 : tabularyref20_Stat) : Option (Bool) := at1 n fun n =>
  bif (decide (((sll a0.fCols).length : Int) > 12)) then some true else withK (fun k4 => law20_Great_l4 n a0 k4 n 0) (fun (_ : Unit) => some false)
def law31_Great_l4 (n : Nat) (a1 : (Option (List tabularyref20_Stat))) (k6 : (Unit → Option (Bool))) : Nat → Int → Option (Bool)
  | 0, _ => none
  | m9 + 1, y8 => bif (decide (y8 < ((sll a1).length : Int))) then (idx (sll a1) y8).bind fun x11 => (law20_Great n x11).bind fun x13 => bif x13 then some true else law31_Great_l4 n a1 k6 m9 (IntKind.wrap .i64 (y8 + 1)) else k6 ()
def law31_Great (n : Nat) (a0 : (Option (List E_api_Expr))) (a1 : (Option (List tabularyref20_Stat))) : Option (Bool) := at1 n fun n =>
  (ref22_Bulk n a0 400).bind fun x1 => bif ((decide (x1 > 400)) || (decide (((sll a1).length : Int) > 13))) then some true else withK (fun k6 => law31_Great_l4 n a1 k6 n 0) (fun (_ : Unit) => some false)
def law19_Given_l3 (n : Nat) (a0 : (Option (List tabularyref19_Bucket))) (k4 : ((Option (List hist_Bucket)) → Option ((Option (List hist_Bucket))))) : Nat → (Option (List hist_Bucket)) → Int → Option ((Option (List hist_Bucket)))
  | 0, _, _ => none
  | m10 + 1, none, y9 => bif (decide (y9 < ((sll a0).length : Int))) then (idx (sll a0) y9).bind fun x12 => (ckA 96 ([(hist_Bucket.mk x12.fLow x12.fHigh x12.fCount x12.fDistinct)] : List hist_Bucket).length).bind fun _ => law19_Given_l3 n a0 k4 m10 (some ([(hist_Bucket.mk x12.fLow x12.fHigh x12.fCount x12.fDistinct)] : List hist_Bucket)) (IntKind.wrap .i64 (y9 + 1)) else k4 none
  | m10 + 1, (some y8), y9 => bif (decide (y9 < ((sll a0).length : Int))) then (idx (sll a0) y9).bind fun x16 => (ckA 96 (y8 ++ ([(hist_Bucket.mk x16.fLow x16.fHigh x16.fCount x16.fDistinct)] : List hist_Bucket)).length).bind fun _ => law19_Given_l3 n a0 k4 m10 (some (y8 ++ ([(hist_Bucket.mk x16.fLow x16.fHigh x16.fCount x16.fDistinct)] : List hist_Bucket))) (IntKind.wrap .i64 (y9 + 1)) else k4 (some y8)
def law19_Given (n : Nat) (a0 : (Option (List tabularyref19_Bucket))) : Option ((Option (List hist_Bucket))) := at1 n fun n =>
  withK (fun (k4 : (Option (List hist_Bucket)) → Option ((Option (List hist_Bucket)))) => law19_Given_l3 n a0 k4 n none 0) (fun | none => some none | (some y3) => some (some y3))
def law20_Given_l3 (n : Nat) (a0 : tabularyref20_Stat) (k4 : ((Option (List stat_Col)) → Option (stat_Stat))) : Nat → (Option (List stat_Col)) → Int → Option (stat_Stat)
  | 0, _, _ => none
  | m10 + 1, none, y9 => bif (decide (y9 < ((sll a0.fCols).length : Int))) then (idx (sll a0.fCols) y9).bind fun x12 => (law19_Given n x12.fHist).bind fun x14 => bif (sll x12.fSample).isEmpty then (ckA 40 ([] : List api_Value).length).bind fun _ => (ckA 136 ([(stat_Col.mk x12.fKind x12.fNulls x12.fDistinct x14 (some ([] : List api_Value)) (hll_Sketch.mk x12.fSketch))] : List stat_Col).length).bind fun _ => law20_Given_l3 n a0 k4 m10 (some ([(stat_Col.mk x12.fKind x12.fNulls x12.fDistinct x14 (some ([] : List api_Value)) (hll_Sketch.mk x12.fSketch))] : List stat_Col)) (IntKind.wrap .i64 (y9 + 1)) else (ckA 40 (([] : List api_Value) ++ (sll x12.fSample)).length).bind fun _ => (ckA 136 ([(stat_Col.mk x12.fKind x12.fNulls x12.fDistinct x14 (some (([] : List api_Value) ++ (sll x12.fSample))) (hll_Sketch.mk x12.fSketch))] : List stat_Col).length).bind fun _ => law20_Given_l3 n a0 k4 m10 (some ([(stat_Col.mk x12.fKind x12.fNulls x12.fDistinct x14 (some (([] : List api_Value) ++ (sll x12.fSample))) (hll_Sketch.mk x12.fSketch))] : List stat_Col)) (IntKind.wrap .i64 (y9 + 1)) else k4 none
  | m10 + 1, (some y8), y9 => bif (decide (y9 < ((sll a0.fCols).length : Int))) then (idx (sll a0.fCols) y9).bind fun x22 => (law19_Given n x22.fHist).bind fun x24 => bif (sll x22.fSample).isEmpty then (ckA 40 ([] : List api_Value).length).bind fun _ => (ckA 136 (y8 ++ ([(stat_Col.mk x22.fKind x22.fNulls x22.fDistinct x24 (some ([] : List api_Value)) (hll_Sketch.mk x22.fSketch))] : List stat_Col)).length).bind fun _ => law20_Given_l3 n a0 k4 m10 (some (y8 ++ ([(stat_Col.mk x22.fKind x22.fNulls x22.fDistinct x24 (some ([] : List api_Value)) (hll_Sketch.mk x22.fSketch))] : List stat_Col))) (IntKind.wrap .i64 (y9 + 1)) else (ckA 40 (([] : List api_Value) ++ (sll x22.fSample)).length).bind fun _ => (ckA 136 (y8 ++ ([(stat_Col.mk x22.fKind x22.fNulls x22.fDistinct x24 (some (([] : List api_Value) ++ (sll x22.fSample))) (hll_Sketch.mk x22.fSketch))] : List stat_Col)).length).bind fun _ => law20_Given_l3 n a0 k4 m10 (some (y8 ++ ([(stat_Col.mk x22.fKind x22.fNulls x22.fDistinct x24 (some (([] : List api_Value) ++ (sll x22.fSample))) (hll_Sketch.mk x22.fSketch))] : List stat_Col))) (IntKind.wrap .i64 (y9 + 1)) else k4 (some y8)
def law20_Given (n : Nat) (a0 : tabularyref20_Stat) : Option (stat_Stat) := at1 n fun n =>
  withK (fun (k4 : (Option (List stat_Col)) → Option (stat_Stat)) => law20_Given_l3 n a0 k4 n none 0) (fun | none => some (stat_Stat.mk a0.fRows none) | (some y3) => some (stat_Stat.mk a0.fRows (some y3)))
def law31_Stats_l3 (n : Nat) (a0 : (Option (List tabularyref20_Stat))) (k4 : ((Option (List stat_Stat)) → Option ((Option (List stat_Stat))))) : Nat → (Option (List stat_Stat)) → Int → Option ((Option (List stat_Stat)))
  | 0, _, _ => none
  | m10 + 1, none, y9 => bif (decide (y9 < ((sll a0).length : Int))) then (idx (sll a0) y9).bind fun x12 => (law20_Given n x12).bind fun x14 => (ckA 32 ([x14] : List stat_Stat).length).bind fun _ => law31_Stats_l3 n a0 k4 m10 (some ([x14] : List stat_Stat)) (IntKind.wrap .i64 (y9 + 1)) else k4 none
  | m10 + 1, (some y8), y9 => bif (decide (y9 < ((sll a0).length : Int))) then (idx (sll a0) y9).bind fun x18 => (law20_Given n x18).bind fun x20 => (ckA 32 (y8 ++ ([x20] : List stat_Stat)).length).bind fun _ => law31_Stats_l3 n a0 k4 m10 (some (y8 ++ ([x20] : List stat_Stat))) (IntKind.wrap .i64 (y9 + 1)) else k4 (some y8)
def law31_Stats (n : Nat) (a0 : (Option (List tabularyref20_Stat))) : Option ((Option (List stat_Stat))) := at1 n fun n =>
  withK (fun (k4 : (Option (List stat_Stat)) → Option ((Option (List stat_Stat)))) => law31_Stats_l3 n a0 k4 n none 0) (fun | none => some none | (some y3) => some (some y3))
def expr_kids (n : Nat) (a0 : Int) : Option (Int) := at1 n fun n =>
  withK (fun k2 => bif (a0 == 1) then k2 (a0 == 1) else k2 (a0 == 2)) (fun (y1 : Bool) => bif y1 then some 0 else withK (fun k5 => bif (a0 == 6) then k5 (a0 == 6) else bif (a0 == 12) then k5 (a0 == 12) else k5 (a0 == 13)) (fun (y4 : Bool) => bif y4 then some 1 else bif (a0 == 3) then bif (a0 == 3) then some 2 else some (-1) else bif (a0 == 4) then bif (a0 == 4) then some 2 else some (-1) else bif (a0 == 5) then bif (a0 == 5) then some 2 else some (-1) else bif (a0 == 7) then bif (a0 == 7) then some 2 else some (-1) else bif (a0 == 8) then bif (a0 == 8) then some 2 else some (-1) else bif (a0 == 9) then bif (a0 == 9) then some 2 else some (-1) else bif (a0 == 10) then bif (a0 == 10) then some 2 else some (-1) else bif (a0 == 11) then some 2 else some (-1)))
def expr_fields_1 (n : Nat) (a0 : Int) : Option (Bool) := at1 n fun n =>
  some ((decide (a0 ≥ 0)) && (decide (a0 ≤ 31)))
def math_Signbit (n : Nat) (a0 : Nat) : Option (Bool) := at1 n fun n =>
  some (decide ((IntKind.wrap .i64 (a0 : Int)) < 0))
def value_Right (n : Nat) (a0 : api_Value) : Option (Bool) := at1 n fun n =>
  withK (fun k2 => bif ((FloatKind.format .f64).order a0.fFloat 0 == some .eq) then (math_Signbit n a0.fFloat).bind fun x14 => k2 (!x14) else k2 false) (fun (y1 : Bool) => withK (fun k6 => bif (a0.fKind == 0) then some (((a0.fInt == 0) && y1) && (sEq a0.fText ByteArray.empty)) else bif (a0.fKind == 1) then bif ((a0.fInt != 0) && (a0.fInt != 1)) then some false else k6 () else bif (a0.fKind == 2) then k6 () else bif (a0.fKind == 3) then some ((a0.fInt == 0) && (sEq a0.fText ByteArray.empty)) else bif (a0.fKind == 4) then some (((a0.fInt == 0) && y1) && (decide ((a0.fText.size : Int) ≤ 64))) else some false) (fun (_ : Unit) => some (y1 && (sEq a0.fText ByteArray.empty))))
def expr_fields (n : Nat) (a0 : api_Expr) : Option (Bool) := at1 n fun n =>
  bif ((a0.fKind != 1) && ((a0.fRel != 0) || (a0.fCol != 0))) then some false else (expr_fields_1 n a0.fRel).bind fun x2 => bif (!x2) then some false else (expr_fields_1 n a0.fCol).bind fun x5 => bif (!x5) then some false else (value_Right n a0.fConst).bind fun x8 => some (x8 && ((a0.fKind == 2) || (a0.fConst.fKind == 0)))
def expr_count_l5 (n : Nat) (rc_expr_count : (Nat → api_Expr → Int → Int → Option (Int))) (a0 : api_Expr) (a1 : Int) (k12 : (Int → Option (Int))) : Nat → Int → Int → Option (Int)
  | 0, _, _ => none
  | m17 + 1, y15, y16 => bif (decide (y16 < ((sll a0.fKids).length : Int))) then (idx (sll a0.fKids) y16).bind fun x19 => (rc_expr_count n (api_Expr.mk ((un_api_Expr x19).fKind) ((un_api_Expr x19).fRel) ((un_api_Expr x19).fCol) (api_Value.mk (((un_api_Expr x19).fConst).fKind) (((un_api_Expr x19).fConst).fInt) (((un_api_Expr x19).fConst).fFloat) (((un_api_Expr x19).fConst).fText)) ((un_api_Expr x19).fKids)) (IntKind.wrap .i64 (a1 + 1)) y15).bind fun x21 => bif (decide (x21 < 0)) then some (-1) else expr_count_l5 n rc_expr_count a0 a1 k12 m17 x21 (IntKind.wrap .i64 (y16 + 1)) else k12 y15
def expr_count_f (rc_expr_count : (Nat → api_Expr → Int → Int → Option (Int))) (n : Nat) (a0 : api_Expr) (a1 : Int) (a2 : Int) : Option (Int) := at1 n fun n =>
  bif (decide (a1 > 24)) then some (-1) else bif (decide (a2 < 1)) then some (-1) else (expr_kids n a0.fKind).bind fun x3 => bif (x3 != ((sll a0.fKids).length : Int)) then some (-1) else (expr_fields n (api_Expr.mk a0.fKind a0.fRel a0.fCol a0.fConst a0.fKids)).bind fun x6 => bif (!x6) then some (-1) else withK (fun k12 => expr_count_l5 n rc_expr_count a0 a1 k12 n (IntKind.wrap .i64 (a2 - 1)) 0) (fun (y9 : Int) => some y9)
def expr_count_t : Nat → Nat → api_Expr → Int → Int → Option (Int)
  | 0 => fun _ _ _ _ => none
  | m + 1 => expr_count_f (expr_count_t m)
def expr_count (n : Nat) (a0 : api_Expr) (a1 : Int) (a2 : Int) : Option (Int) := expr_count_t n n a0 a1 a2
def expr_Formed (n : Nat) (a0 : api_Expr) : Option (Bool) := at1 n fun n =>
  (expr_count n a0 1 400).bind fun x1 => some (decide (x1 ≥ 0))
def math_bits_Mul64 (n : Nat) (a0 : Int) (a1 : Int) : Option (Int × Int) := at1 n fun n =>
  some ((IntKind.wrap .u64 ((IntKind.wrap .u64 ((IntKind.wrap .u64 ((iShr .u64 a0 32) * (iShr .u64 a1 32))) + (iShr .u64 (IntKind.wrap .u64 ((IntKind.wrap .u64 ((iShr .u64 a0 32) * (iAnd .u64 a1 4294967295))) + (iShr .u64 (IntKind.wrap .u64 ((iAnd .u64 a0 4294967295) * (iAnd .u64 a1 4294967295))) 32))) 32))) + (iShr .u64 (IntKind.wrap .u64 ((iAnd .u64 (IntKind.wrap .u64 ((IntKind.wrap .u64 ((iShr .u64 a0 32) * (iAnd .u64 a1 4294967295))) + (iShr .u64 (IntKind.wrap .u64 ((iAnd .u64 a0 4294967295) * (iAnd .u64 a1 4294967295))) 32))) 4294967295) + (IntKind.wrap .u64 ((iAnd .u64 a0 4294967295) * (iShr .u64 a1 32))))) 32))), (IntKind.wrap .u64 (a0 * a1)))
def fixed_capped_bool (n : Nat) (a0 : Int) (a1 : Bool) : Option (Int) := at1 n fun n =>
  bif (!(a1 == false)) then some 18446744073709551615 else some a0
def math_bits_Len64 (n : Nat) (a0 : Int) : Option (Int) := at1 n fun n =>
  withK (fun k4 => bif (decide (a0 ≥ 4294967296)) then k4 (iShr .u64 a0 32) 32 else k4 a0 0) (fun (y2 : Int) (y3 : Int) => withK (fun k8 => bif (decide (y2 ≥ 65536)) then k8 (iShr .u64 y2 16) (IntKind.wrap .i64 (y3 + 16)) else k8 y2 y3) (fun (y6 : Int) (y7 : Int) => withK (fun k12 => bif (decide (y6 ≥ 256)) then k12 (iShr .u64 y6 8) (IntKind.wrap .i64 (y7 + 8)) else k12 y6 y7) (fun (y10 : Int) (y11 : Int) => (idxS (ByteArray.mk #[0, 1, 2, 2, 3, 3, 3, 3, 4, 4, 4, 4, 4, 4, 4, 4, 5, 5, 5, 5, 5, 5, 5, 5, 5, 5, 5, 5, 5, 5, 5, 5, 6, 6, 6, 6, 6, 6, 6, 6, 6, 6, 6, 6, 6, 6, 6, 6, 6, 6, 6, 6, 6, 6, 6, 6, 6, 6, 6, 6, 6, 6, 6, 6, 7, 7, 7, 7, 7, 7, 7, 7, 7, 7, 7, 7, 7, 7, 7, 7, 7, 7, 7, 7, 7, 7, 7, 7, 7, 7, 7, 7, 7, 7, 7, 7, 7, 7, 7, 7, 7, 7, 7, 7, 7, 7, 7, 7, 7, 7, 7, 7, 7, 7, 7, 7, 7, 7, 7, 7, 7, 7, 7, 7, 7, 7, 7, 7, 8, 8, 8, 8, 8, 8, 8, 8, 8, 8, 8, 8, 8, 8, 8, 8, 8, 8, 8, 8, 8, 8, 8, 8, 8, 8, 8, 8, 8, 8, 8, 8, 8, 8, 8, 8, 8, 8, 8, 8, 8, 8, 8, 8, 8, 8, 8, 8, 8, 8, 8, 8, 8, 8, 8, 8, 8, 8, 8, 8, 8, 8, 8, 8, 8, 8, 8, 8, 8, 8, 8, 8, 8, 8, 8, 8, 8, 8, 8, 8, 8, 8, 8, 8, 8, 8, 8, 8, 8, 8, 8, 8, 8, 8, 8, 8, 8, 8, 8, 8, 8, 8, 8, 8, 8, 8, 8, 8, 8, 8, 8, 8, 8, 8, 8, 8, 8, 8, 8, 8, 8, 8, 8, 8, 8, 8, 8, 8]) (IntKind.wrap .u8 y10)).bind fun x13 => some (IntKind.wrap .i64 (y11 + (IntKind.wrap .i64 x13))))))
def math_bits_LeadingZeros64 (n : Nat) (a0 : Int) : Option (Int) := at1 n fun n =>
  (math_bits_Len64 n a0).bind fun x1 => some (IntKind.wrap .i64 (64 - x1))
def math_bits_Div64_l24 (n : Nat) (a1 : Int) (a2 : Int) (x6 : Int) (k23 : (Int → Option (Int × Int))) : Nat → Int → Int → Option (Int × Int)
  | 0, _, _ => none
  | m29 + 1, y27, y28 => bif ((decide (y28 ≥ 4294967296)) || (decide ((IntKind.wrap .u64 (y28 * (iAnd .u64 (iShl .u64 a2 (IntKind.wrap .u64 x6)) 4294967295))) > (IntKind.wrap .u64 ((IntKind.wrap .u64 (4294967296 * y27)) + (iAnd .u64 (iShl .u64 a1 (IntKind.wrap .u64 x6)) 4294967295)))))) then bif (decide ((IntKind.wrap .u64 (y27 + (iShr .u64 (iShl .u64 a2 (IntKind.wrap .u64 x6)) 32))) ≥ 4294967296)) then k23 (IntKind.wrap .u64 (y28 - 1)) else math_bits_Div64_l24 n a1 a2 x6 k23 m29 (IntKind.wrap .u64 (y27 + (iShr .u64 (iShl .u64 a2 (IntKind.wrap .u64 x6)) 32))) (IntKind.wrap .u64 (y28 - 1)) else k23 y28
def math_bits_Div64_l17 (n : Nat) (a1 : Int) (a2 : Int) (x6 : Int) (k17 : (Int → Option (Int × Int))) : Nat → Int → Int → Option (Int × Int)
  | 0, _, _ => none
  | m36 + 1, y34, y35 => bif ((decide (y34 ≥ 4294967296)) || (decide ((IntKind.wrap .u64 (y34 * (iAnd .u64 (iShl .u64 a2 (IntKind.wrap .u64 x6)) 4294967295))) > (IntKind.wrap .u64 ((IntKind.wrap .u64 (4294967296 * y35)) + (iShr .u64 (iShl .u64 a1 (IntKind.wrap .u64 x6)) 32)))))) then bif (decide ((IntKind.wrap .u64 (y35 + (iShr .u64 (iShl .u64 a2 (IntKind.wrap .u64 x6)) 32))) ≥ 4294967296)) then k17 (IntKind.wrap .u64 (y34 - 1)) else math_bits_Div64_l17 n a1 a2 x6 k17 m36 (IntKind.wrap .u64 (y34 - 1)) (IntKind.wrap .u64 (y35 + (iShr .u64 (iShl .u64 a2 (IntKind.wrap .u64 x6)) 32))) else k17 y34
def math_bits_Div64 (n : Nat) (a0 : Int) (a1 : Int) (a2 : Int) : Option (Int × Int) := at1 n fun n =>
  bif (a2 == 0) then none else bif (decide (a2 ≤ a0)) then none else bif (a0 == 0) then (ckZ a2).bind fun _ => (ckZ a2).bind fun _ => some ((IntKind.wrap .u64 (Int.tdiv a1 a2)), (Int.tmod a1 a2)) else (math_bits_LeadingZeros64 n a2).bind fun x6 => (ckN (IntKind.wrap .u64 x6)).bind fun _ => (ckN (IntKind.wrap .u64 x6)).bind fun _ => (ckN (IntKind.wrap .u64 (64 - (IntKind.wrap .u64 x6)))).bind fun _ => (ckN (IntKind.wrap .u64 x6)).bind fun _ => (ckZ (iShr .u64 (iShl .u64 a2 (IntKind.wrap .u64 x6)) 32)).bind fun _ => withK (fun k17 => math_bits_Div64_l17 n a1 a2 x6 k17 n (IntKind.wrap .u64 (Int.tdiv (iOr .u64 (iShl .u64 a0 (IntKind.wrap .u64 x6)) (iShr .u64 a1 (IntKind.wrap .u64 (64 - (IntKind.wrap .u64 x6))))) (iShr .u64 (iShl .u64 a2 (IntKind.wrap .u64 x6)) 32))) (IntKind.wrap .u64 ((iOr .u64 (iShl .u64 a0 (IntKind.wrap .u64 x6)) (iShr .u64 a1 (IntKind.wrap .u64 (64 - (IntKind.wrap .u64 x6))))) - (IntKind.wrap .u64 ((IntKind.wrap .u64 (Int.tdiv (iOr .u64 (iShl .u64 a0 (IntKind.wrap .u64 x6)) (iShr .u64 a1 (IntKind.wrap .u64 (64 - (IntKind.wrap .u64 x6))))) (iShr .u64 (iShl .u64 a2 (IntKind.wrap .u64 x6)) 32))) * (iShr .u64 (iShl .u64 a2 (IntKind.wrap .u64 x6)) 32)))))) (fun (y16 : Int) => (ckZ (iShr .u64 (iShl .u64 a2 (IntKind.wrap .u64 x6)) 32)).bind fun _ => withK (fun k23 => math_bits_Div64_l24 n a1 a2 x6 k23 n (IntKind.wrap .u64 ((IntKind.wrap .u64 ((IntKind.wrap .u64 ((IntKind.wrap .u64 ((iOr .u64 (iShl .u64 a0 (IntKind.wrap .u64 x6)) (iShr .u64 a1 (IntKind.wrap .u64 (64 - (IntKind.wrap .u64 x6))))) * 4294967296)) + (iShr .u64 (iShl .u64 a1 (IntKind.wrap .u64 x6)) 32))) - (IntKind.wrap .u64 (y16 * (iShl .u64 a2 (IntKind.wrap .u64 x6)))))) - (IntKind.wrap .u64 ((IntKind.wrap .u64 (Int.tdiv (IntKind.wrap .u64 ((IntKind.wrap .u64 ((IntKind.wrap .u64 ((iOr .u64 (iShl .u64 a0 (IntKind.wrap .u64 x6)) (iShr .u64 a1 (IntKind.wrap .u64 (64 - (IntKind.wrap .u64 x6))))) * 4294967296)) + (iShr .u64 (iShl .u64 a1 (IntKind.wrap .u64 x6)) 32))) - (IntKind.wrap .u64 (y16 * (iShl .u64 a2 (IntKind.wrap .u64 x6)))))) (iShr .u64 (iShl .u64 a2 (IntKind.wrap .u64 x6)) 32))) * (iShr .u64 (iShl .u64 a2 (IntKind.wrap .u64 x6)) 32))))) (IntKind.wrap .u64 (Int.tdiv (IntKind.wrap .u64 ((IntKind.wrap .u64 ((IntKind.wrap .u64 ((iOr .u64 (iShl .u64 a0 (IntKind.wrap .u64 x6)) (iShr .u64 a1 (IntKind.wrap .u64 (64 - (IntKind.wrap .u64 x6))))) * 4294967296)) + (iShr .u64 (iShl .u64 a1 (IntKind.wrap .u64 x6)) 32))) - (IntKind.wrap .u64 (y16 * (iShl .u64 a2 (IntKind.wrap .u64 x6)))))) (iShr .u64 (iShl .u64 a2 (IntKind.wrap .u64 x6)) 32)))) (fun (y22 : Int) => (ckN (IntKind.wrap .u64 x6)).bind fun _ => some ((IntKind.wrap .u64 ((IntKind.wrap .u64 (y16 * 4294967296)) + y22)), (iShr .u64 (IntKind.wrap .u64 ((IntKind.wrap .u64 ((IntKind.wrap .u64 ((IntKind.wrap .u64 ((IntKind.wrap .u64 ((IntKind.wrap .u64 ((iOr .u64 (iShl .u64 a0 (IntKind.wrap .u64 x6)) (iShr .u64 a1 (IntKind.wrap .u64 (64 - (IntKind.wrap .u64 x6))))) * 4294967296)) + (iShr .u64 (iShl .u64 a1 (IntKind.wrap .u64 x6)) 32))) - (IntKind.wrap .u64 (y16 * (iShl .u64 a2 (IntKind.wrap .u64 x6)))))) * 4294967296)) + (iAnd .u64 (iShl .u64 a1 (IntKind.wrap .u64 x6)) 4294967295))) - (IntKind.wrap .u64 (y22 * (iShl .u64 a2 (IntKind.wrap .u64 x6)))))) (IntKind.wrap .u64 x6)))))
def fixed_Share (n : Nat) (a0 : Int) (a1 : Int) (a2 : Int) : Option (Int) := at1 n fun n =>
  (math_bits_Mul64 n a0 a1).bind fun x1 => bif ((x1.1 == 0) && (x1.2 == 0)) then some 0 else bif (decide (x1.1 ≥ a2)) then (fixed_capped_bool n 0 true).bind fun x5 => some x5 else (math_bits_Div64 n x1.1 x1.2 a2).bind fun x7 => some x7.1
def fixed_Scale (n : Nat) (a0 : Int) (a1 : Int) : Option (Int) := at1 n fun n =>
  (fixed_Share n a0 a1 1048576).bind fun x1 => some x1
def fixed_capped_uint64 (n : Nat) (a0 : Int) (a1 : Int) : Option (Int) := at1 n fun n =>
  bif (a1 != 0) then some 18446744073709551615 else some a0
def fixed_Add (n : Nat) (a0 : Int) (a1 : Int) : Option (Int) := at1 n fun n =>
  (fixed_capped_uint64 n (((a0.toNat + a1.toNat) % Extern.MathBitsCarry.m64 : Nat) : Int) (((a0.toNat + a1.toNat) / Extern.MathBitsCarry.m64 : Nat) : Int)).bind fun x1 => some x1
def fixed_Sub (n : Nat) (a0 : Int) (a1 : Int) : Option (Int) := at1 n fun n =>
  bif (decide (a1 > a0)) then some 0 else some (IntKind.wrap .u64 (a0 - a1))
def fixed_Inverse (n : Nat) (a0 : Int) : Option (Int) := at1 n fun n =>
  (fixed_Sub n 1048576 a0).bind fun x1 => some x1
def guess_column (n : Nat) (a0 : api_Expr) (a1 : (Option (List stat_Stat))) : Option (stat_Col × Int × Bool) := at1 n fun n =>
  bif (a0.fKind != 1) then some ((stat_Col.mk 0 0 0 none none (hll_Sketch.mk (fun _ => 0))), 0, false) else bif (decide (a0.fRel ≥ ((sll a1).length : Int))) then some ((stat_Col.mk 0 0 0 none none (hll_Sketch.mk (fun _ => 0))), 0, false) else (idx (sll a1) a0.fRel).bind fun x3 => bif (decide (a0.fCol ≥ ((sll x3.fCols).length : Int))) then some ((stat_Col.mk 0 0 0 none none (hll_Sketch.mk (fun _ => 0))), 0, false) else (idx (sll x3.fCols) a0.fCol).bind fun x6 => some (x6, x3.fRows, true)
def guess_natural (n : Nat) (a0 : Int) : Option (Int) := at1 n fun n =>
  some (IntKind.wrap .u64 (if 0 > a0 then 0 else a0))
def guess_one (n : Nat) (a0 : Int) : Option (Int) := at1 n fun n =>
  (guess_natural n (if 1 > a0 then 1 else a0)).bind fun x1 => (ckZ x1).bind fun _ => some (IntKind.wrap .u64 (Int.tdiv 1048576 x1))
def guess_blind (n : Nat) (a0 : Int) (a1 : Int) : Option (Int) := at1 n fun n =>
  bif (a0 == 7) then some a1 else some 349525
def hist_plain (n : Nat) (a0 : api_Value) : Option (Bool) := at1 n fun n =>
  (value_Right n a0).bind fun x1 => bif (x1 && (a0.fKind != 0)) then bif ((FloatKind.format .f64).order a0.fFloat 0 != some .eq) then some true else (math_Signbit n a0.fFloat).bind fun x5 => some (!x5) else some false
def math_IsNaN (n : Nat) (a0 : Nat) : Option (Bool) := at1 n fun n =>
  some ((FloatKind.format .f64).order a0 a0 != some .eq)
def value_Plain (n : Nat) (a0 : api_Value) : Option (api_Value) := at1 n fun n =>
  (value_Right n a0).bind fun x1 => bif (!x1) then some (api_Value.mk 0 0 0 ByteArray.empty) else withK (fun k5 => bif (a0.fKind == 3) then (math_IsNaN n a0.fFloat).bind fun x9 => k5 x9 else k5 false) (fun (y4 : Bool) => bif y4 then some (api_Value.mk a0.fKind a0.fInt (Int.toNat 9221120237041090561) a0.fText) else bif ((a0.fKind == 3) && ((FloatKind.format .f64).order a0.fFloat 0 == some .eq)) then some (api_Value.mk a0.fKind a0.fInt 0 a0.fText) else some a0)
def cmp_isNaN_int (n : Nat) (a0 : Int) : Option (Bool) := at1 n fun n =>
  some (a0 != a0)
def cmp_Compare_int (n : Nat) (a0 : Int) (a1 : Int) : Option (Int) := at1 n fun n =>
  (cmp_isNaN_int n a0).bind fun x1 => (cmp_isNaN_int n a1).bind fun x3 => bif x1 then bif x3 then some 0 else some (-1) else bif x3 then some 1 else bif (decide (a0 < a1)) then some (-1) else bif (decide (a0 > a1)) then some 1 else some 0
def value_floats (n : Nat) (a0 : Nat) (a1 : Nat) : Option (Int) := at1 n fun n =>
  (math_IsNaN n a0).bind fun x1 => (math_IsNaN n a1).bind fun x3 => bif (x1 && x3) then some 0 else bif x1 then some 1 else bif x3 then some (-1) else bif ((FloatKind.format .f64).order a0 a1 == some .lt) then some (-1) else bif ((FloatKind.format .f64).order a0 a1 == some .gt) then some 1 else some 0
def cmp_isNaN_string (n : Nat) (a0 : ByteArray) : Option (Bool) := at1 n fun n =>
  some (!(sEq a0 a0))
def cmp_Compare_string (n : Nat) (a0 : ByteArray) (a1 : ByteArray) : Option (Int) := at1 n fun n =>
  (cmp_isNaN_string n a0).bind fun x1 => (cmp_isNaN_string n a1).bind fun x3 => bif x1 then bif x3 then some 0 else some (-1) else bif x3 then some 1 else bif (sLt a0 a1) then some (-1) else bif (!(sLt a0 a1 || sEq a0 a1)) then some 1 else some 0
def cmp_isNaN_int64 (n : Nat) (a0 : Int) : Option (Bool) := at1 n fun n =>
  some (a0 != a0)
def cmp_Compare_int64 (n : Nat) (a0 : Int) (a1 : Int) : Option (Int) := at1 n fun n =>
  (cmp_isNaN_int64 n a0).bind fun x1 => (cmp_isNaN_int64 n a1).bind fun x3 => bif x1 then bif x3 then some 0 else some (-1) else bif x3 then some 1 else bif (decide (a0 < a1)) then some (-1) else bif (decide (a0 > a1)) then some 1 else some 0
def value_Cmp (n : Nat) (a0 : api_Value) (a1 : api_Value) : Option (Int) := at1 n fun n =>
  (value_Plain n a0).bind fun x1 => (value_Plain n a1).bind fun x3 => bif (x1.fKind != x3.fKind) then (cmp_Compare_int n x1.fKind x3.fKind).bind fun x6 => some x6 else bif (x1.fKind == 3) then (value_floats n x1.fFloat x3.fFloat).bind fun x9 => some x9 else bif (x1.fKind == 4) then (cmp_Compare_string n x1.fText x3.fText).bind fun x12 => some x12 else (cmp_Compare_int64 n x1.fInt x3.fInt).bind fun x14 => some x14
def hist_sound (n : Nat) (a0 : hist_Bucket) : Option (Bool) := at1 n fun n =>
  (hist_plain n a0.fLow).bind fun x1 => bif (!x1) then some false else (hist_plain n a0.fHigh).bind fun x4 => bif ((!x4) || (a0.fLow.fKind != a0.fHigh.fKind)) then some false else (value_Cmp n a0.fLow a0.fHigh).bind fun x7 => some ((((((decide (x7 ≤ 0)) && (decide (a0.fCount ≥ 1))) && (decide (a0.fCount ≤ 1000000))) && (decide (a0.fDistinct ≥ 1))) && (decide (a0.fDistinct ≤ a0.fCount))) && ((x7 == 0) == (a0.fDistinct == 1)))
def hist_Right_l4 (n : Nat) (a0 : (Option (List hist_Bucket))) (k4 : (Unit → Option (Bool))) : Nat → Int → Option (Bool)
  | 0, _ => none
  | m7 + 1, y6 => bif (decide (y6 < ((sll a0).length : Int))) then (idx (sll a0) y6).bind fun x9 => (hist_sound n x9).bind fun x11 => bif (!x11) then some false else bif (decide (y6 > 0)) then (idx (sll a0) 0).bind fun x15 => bif (x9.fLow.fKind != x15.fLow.fKind) then some false else (idx (sll a0) (IntKind.wrap .i64 (y6 - 1))).bind fun x18 => (value_Cmp n x18.fHigh x9.fLow).bind fun x20 => bif (decide (x20 ≥ 0)) then some false else hist_Right_l4 n a0 k4 m7 (IntKind.wrap .i64 (y6 + 1)) else hist_Right_l4 n a0 k4 m7 (IntKind.wrap .i64 (y6 + 1)) else k4 ()
def hist_Right (n : Nat) (a0 : (Option (List hist_Bucket))) : Option (Bool) := at1 n fun n =>
  bif (decide (((sll a0).length : Int) > 50)) then some false else withK (fun k4 => hist_Right_l4 n a0 k4 n 0) (fun (_ : Unit) => some true)
def hist_Total_l4 (n : Nat) (a0 : (Option (List hist_Bucket))) (k8 : (Int → Option (Int))) : Nat → Int → Int → Option (Int)
  | 0, _, _ => none
  | m16 + 1, y14, y15 => bif (decide (y14 < ((sll a0).length : Int))) then (idx (sll a0) y14).bind fun x18 => hist_Total_l4 n a0 k8 m16 (IntKind.wrap .i64 (y14 + 1)) (IntKind.wrap .i64 (y15 + x18.fCount)) else k8 y15
def hist_Total (n : Nat) (a0 : (Option (List hist_Bucket))) : Option (Int) := at1 n fun n =>
  withK (fun k8 => (hist_Right n a0).bind fun x9 => bif x9 then hist_Total_l4 n a0 k8 n 0 0 else k8 0) (fun (y7 : Int) => some y7)
def hist_find_l4 (n : Nat) (a0 : (Option (List hist_Bucket))) (a1 : api_Value) (k14 : (Int → Option (Int × Int × Bool))) : Nat → Int → Int → Option (Int × Int × Bool)
  | 0, _, _ => none
  | m19 + 1, y17, y18 => bif (decide (y17 < ((sll a0).length : Int))) then (idx (sll a0) y17).bind fun x21 => (value_Cmp n a1 x21.fLow).bind fun x23 => bif (decide (x23 < 0)) then k14 y18 else (value_Cmp n a1 x21.fHigh).bind fun x26 => bif (decide (x26 ≤ 0)) then some (y17, y18, true) else hist_find_l4 n a0 a1 k14 m19 (IntKind.wrap .i64 (y17 + 1)) (IntKind.wrap .i64 (y18 + x21.fCount)) else k14 y18
def hist_find (n : Nat) (a0 : (Option (List hist_Bucket))) (a1 : api_Value) : Option (Int × Int × Bool) := at1 n fun n =>
  (hist_Right n a0).bind fun x1 => bif (!x1) then some (0, 0, false) else (value_Right n a1).bind fun x4 => bif ((!x4) || (a1.fKind == 0)) then some (0, 0, false) else withK (fun k14 => hist_find_l4 n a0 a1 k14 n 0 0) (fun (y13 : Int) => some (0, y13, false))
def hist_each (n : Nat) (a0 : hist_Bucket) : Option (Int) := at1 n fun n =>
  (ckZ a0.fDistinct).bind fun _ => some (IntKind.wrap .i64 (Int.tdiv a0.fCount a0.fDistinct))
def hist_Equal (n : Nat) (a0 : (Option (List hist_Bucket))) (a1 : api_Value) : Option (Int) := at1 n fun n =>
  (hist_find n a0 a1).bind fun x1 => bif (!x1.2.2) then some 0 else (idx (sll a0) x1.1).bind fun x4 => (hist_each n x4).bind fun x6 => some x6
def value_Same (n : Nat) (a0 : api_Value) (a1 : api_Value) : Option (Bool) := at1 n fun n =>
  (value_Cmp n a0 a1).bind fun x1 => some (x1 == 0)
def hist_share (n : Nat) (a0 : hist_Bucket) (a1 : api_Value) : Option (Int) := at1 n fun n =>
  bif (a1.fKind != 2) then some (IntKind.wrap .i64 (Int.tdiv a0.fCount 2)) else (math_bits_Mul64 n (IntKind.wrap .u64 a0.fCount) (IntKind.wrap .u64 ((IntKind.wrap .u64 a1.fInt) - (IntKind.wrap .u64 a0.fLow.fInt)))).bind fun x2 => (math_bits_Div64 n x2.1 x2.2 (IntKind.wrap .u64 ((IntKind.wrap .u64 a0.fHigh.fInt) - (IntKind.wrap .u64 a0.fLow.fInt)))).bind fun x4 => some (IntKind.wrap .i64 x4.1)
def hist_within (n : Nat) (a0 : hist_Bucket) (a1 : api_Value) : Option (Int) := at1 n fun n =>
  (hist_share n a0 a1).bind fun x1 => (hist_each n a0).bind fun x3 => (hist_each n a0).bind fun x5 => some (if (IntKind.wrap .i64 (a0.fCount - x5)) < (if x3 > x1 then x3 else x1) then (IntKind.wrap .i64 (a0.fCount - x5)) else (if x3 > x1 then x3 else x1))
def hist_Below (n : Nat) (a0 : (Option (List hist_Bucket))) (a1 : api_Value) (a2 : Bool) : Option (Int) := at1 n fun n =>
  (hist_find n a0 a1).bind fun x1 => bif (!x1.2.2) then some x1.2.1 else (idx (sll a0) x1.1).bind fun x4 => (value_Same n a1 x4.fHigh).bind fun x6 => bif (x6 && a2) then some (IntKind.wrap .i64 (x1.2.1 + x4.fCount)) else (value_Same n a1 x4.fHigh).bind fun x9 => bif x9 then (hist_each n x4).bind fun x12 => some (IntKind.wrap .i64 ((IntKind.wrap .i64 (x1.2.1 + x4.fCount)) - x12)) else (value_Same n a1 x4.fLow).bind fun x14 => bif (x14 && a2) then (hist_each n x4).bind fun x17 => some (IntKind.wrap .i64 (x1.2.1 + x17)) else (value_Same n a1 x4.fLow).bind fun x19 => bif x19 then some x1.2.1 else (hist_within n x4 a1).bind fun x22 => some (IntKind.wrap .i64 (x1.2.1 + x22))
def guess_against (n : Nat) (a0 : Int) (a1 : stat_Col) (a2 : api_Value) (a3 : Bool) : Option (Int) := at1 n fun n =>
  bif (((sll a1.fHist).length : Int) == 0) then (guess_one n a1.fDistinct).bind fun x2 => (guess_blind n a0 x2).bind fun x4 => some x4 else (hist_Right n a1.fHist).bind fun x6 => bif (!x6) then (guess_one n a1.fDistinct).bind fun x9 => (guess_blind n a0 x9).bind fun x11 => some x11 else (idx (sll a1.fHist) 0).bind fun x13 => bif (x13.fLow.fKind != a2.fKind) then (guess_one n a1.fDistinct).bind fun x16 => (guess_blind n a0 x16).bind fun x18 => some x18 else (hist_Total n a1.fHist).bind fun x20 => bif (a0 == 7) then (hist_Equal n a1.fHist a2).bind fun x23 => (guess_natural n x23).bind fun x25 => (guess_natural n x20).bind fun x27 => (fixed_Share n 1048576 x25 x27).bind fun x29 => some x29 else bif a3 then (hist_Below n a1.fHist a2 (a0 == 8)).bind fun x32 => (guess_natural n (IntKind.wrap .i64 (x20 - x32))).bind fun x34 => (guess_natural n x20).bind fun x36 => (fixed_Share n 1048576 x34 x36).bind fun x38 => some x38 else (hist_Below n a1.fHist a2 (a0 == 9)).bind fun x40 => (guess_natural n x40).bind fun x42 => (guess_natural n x20).bind fun x44 => (fixed_Share n 1048576 x42 x44).bind fun x46 => some x46
def guess_nulls (n : Nat) (a0 : stat_Col) (a1 : Int) : Option (Int) := at1 n fun n =>
  (guess_natural n a0.fNulls).bind fun x1 => (guess_natural n a1).bind fun x3 => (fixed_Share n 1048576 x1 x3).bind fun x5 => some (if 1048576 < x5 then 1048576 else x5)
def guess_compared (n : Nat) (a0 : api_Expr) (a1 : (Option (List stat_Stat))) : Option (Int) := at1 n fun n =>
  (idx (sll a0.fKids) 0).bind fun x1 => (idx (sll a0.fKids) 1).bind fun x3 => (guess_column n (api_Expr.mk ((un_api_Expr x1).fKind) ((un_api_Expr x1).fRel) ((un_api_Expr x1).fCol) (api_Value.mk (((un_api_Expr x1).fConst).fKind) (((un_api_Expr x1).fConst).fInt) (((un_api_Expr x1).fConst).fFloat) (((un_api_Expr x1).fConst).fText)) ((un_api_Expr x1).fKids)) a1).bind fun x5 => (guess_column n (api_Expr.mk ((un_api_Expr x3).fKind) ((un_api_Expr x3).fRel) ((un_api_Expr x3).fCol) (api_Value.mk (((un_api_Expr x3).fConst).fKind) (((un_api_Expr x3).fConst).fInt) (((un_api_Expr x3).fConst).fFloat) (((un_api_Expr x3).fConst).fText)) ((un_api_Expr x3).fKids)) a1).bind fun x7 => bif (x5.2.2 && x7.2.2) then (guess_one n (if x7.1.fDistinct > x5.1.fDistinct then x7.1.fDistinct else x5.1.fDistinct)).bind fun x10 => (guess_blind n a0.fKind x10).bind fun x12 => some x12 else withK (fun k15 => bif ((x5.2.2 && (((un_api_Expr x3).fKind) == 2)) && ((((un_api_Expr x3).fConst).fKind) == 0)) then k15 ((x5.2.2 && (((un_api_Expr x3).fKind) == 2)) && ((((un_api_Expr x3).fConst).fKind) == 0)) else k15 ((x7.2.2 && (((un_api_Expr x1).fKind) == 2)) && ((((un_api_Expr x1).fConst).fKind) == 0))) (fun (y14 : Bool) => bif y14 then some 0 else bif (x5.2.2 && (((un_api_Expr x3).fKind) == 2)) then (guess_against n a0.fKind x5.1 (api_Value.mk (((un_api_Expr x3).fConst).fKind) (((un_api_Expr x3).fConst).fInt) (((un_api_Expr x3).fConst).fFloat) (((un_api_Expr x3).fConst).fText)) false).bind fun x18 => (guess_nulls n x5.1 x5.2.1).bind fun x20 => (fixed_Inverse n x20).bind fun x22 => (fixed_Scale n x18 x22).bind fun x24 => some x24 else bif (x7.2.2 && (((un_api_Expr x1).fKind) == 2)) then (guess_against n a0.fKind x7.1 (api_Value.mk (((un_api_Expr x1).fConst).fKind) (((un_api_Expr x1).fConst).fInt) (((un_api_Expr x1).fConst).fFloat) (((un_api_Expr x1).fConst).fText)) true).bind fun x27 => (guess_nulls n x7.1 x7.2.1).bind fun x29 => (fixed_Inverse n x29).bind fun x31 => (fixed_Scale n x27 x31).bind fun x33 => some x33 else (guess_blind n a0.fKind 104857).bind fun x35 => some x35)
def guess_part_f (rc_guess_part : (Nat → api_Expr → (Option (List stat_Stat)) → Option (Int))) (n : Nat) (a0 : api_Expr) (a1 : (Option (List stat_Stat))) : Option (Int) := at1 n fun n =>
  withK (fun k1 => withK (fun k10 => bif (a0.fKind == 2) then bif ((a0.fConst.fKind == 1) && (a0.fConst.fInt == 1)) then some 1048576 else some 0 else withK (fun k31 => bif (a0.fKind == 10) then bif (a0.fKind == 10) then k10 () else k31 () else bif (a0.fKind == 11) then k10 () else k31 ()) (fun (_ : Unit) => bif (a0.fKind == 12) then (idx (sll a0.fKids) 0).bind fun x33 => (rc_guess_part n (api_Expr.mk ((un_api_Expr x33).fKind) ((un_api_Expr x33).fRel) ((un_api_Expr x33).fCol) (api_Value.mk (((un_api_Expr x33).fConst).fKind) (((un_api_Expr x33).fConst).fInt) (((un_api_Expr x33).fConst).fFloat) (((un_api_Expr x33).fConst).fText)) ((un_api_Expr x33).fKids)) a1).bind fun x35 => (fixed_Inverse n x35).bind fun x37 => some x37 else bif (a0.fKind == 7) then (guess_compared n a0 a1).bind fun x40 => some x40 else bif (a0.fKind == 8) then bif (a0.fKind == 8) then (guess_compared n a0 a1).bind fun x44 => some x44 else bif (a0.fKind == 13) then k1 () else some 524288 else bif (a0.fKind == 9) then (guess_compared n a0 a1).bind fun x48 => some x48 else bif (a0.fKind == 13) then k1 () else some 524288)) (fun (_ : Unit) => (idx (sll a0.fKids) 0).bind fun x11 => (rc_guess_part n (api_Expr.mk ((un_api_Expr x11).fKind) ((un_api_Expr x11).fRel) ((un_api_Expr x11).fCol) (api_Value.mk (((un_api_Expr x11).fConst).fKind) (((un_api_Expr x11).fConst).fInt) (((un_api_Expr x11).fConst).fFloat) (((un_api_Expr x11).fConst).fText)) ((un_api_Expr x11).fKids)) a1).bind fun x13 => (idx (sll a0.fKids) 1).bind fun x15 => (rc_guess_part n (api_Expr.mk ((un_api_Expr x15).fKind) ((un_api_Expr x15).fRel) ((un_api_Expr x15).fCol) (api_Value.mk (((un_api_Expr x15).fConst).fKind) (((un_api_Expr x15).fConst).fInt) (((un_api_Expr x15).fConst).fFloat) (((un_api_Expr x15).fConst).fText)) ((un_api_Expr x15).fKids)) a1).bind fun x17 => bif (a0.fKind == 10) then (fixed_Scale n x13 x17).bind fun x20 => some x20 else (fixed_Add n x13 x17).bind fun x22 => (fixed_Scale n x13 x17).bind fun x24 => (fixed_Sub n x22 x24).bind fun x26 => some x26)) (fun (_ : Unit) => (idx (sll a0.fKids) 0).bind fun x2 => (guess_column n (api_Expr.mk ((un_api_Expr x2).fKind) ((un_api_Expr x2).fRel) ((un_api_Expr x2).fCol) (api_Value.mk (((un_api_Expr x2).fConst).fKind) (((un_api_Expr x2).fConst).fInt) (((un_api_Expr x2).fConst).fFloat) (((un_api_Expr x2).fConst).fText)) ((un_api_Expr x2).fKids)) a1).bind fun x4 => bif x4.2.2 then (guess_nulls n x4.1 x4.2.1).bind fun x7 => some x7 else some 104857)
def guess_part_t : Nat → Nat → api_Expr → (Option (List stat_Stat)) → Option (Int)
  | 0 => fun _ _ _ => none
  | m + 1 => guess_part_f (guess_part_t m)
def guess_part (n : Nat) (a0 : api_Expr) (a1 : (Option (List stat_Stat))) : Option (Int) := guess_part_t n n a0 a1
def guess_Part (n : Nat) (a0 : api_Expr) (a1 : (Option (List stat_Stat))) : Option (Int) := at1 n fun n =>
  (expr_Formed n a0).bind fun x1 => bif (!x1) then some 1048576 else (guess_part n a0 a1).bind fun x4 => some x4
def guess_Rows (n : Nat) (a0 : (Option (List stat_Stat))) (a1 : Int) : Option (Int) := at1 n fun n =>
  bif ((decide (a1 < 0)) || (decide (a1 ≥ ((sll a0).length : Int)))) then some 0 else (idx (sll a0) a1).bind fun x2 => (guess_natural n x2.fRows).bind fun x4 => some x4
def fixed_Mul (n : Nat) (a0 : Int) (a1 : Int) : Option (Int) := at1 n fun n =>
  (math_bits_Mul64 n a0 a1).bind fun x1 => (fixed_capped_uint64 n x1.2 x1.1).bind fun x3 => some x3
def expr_Rels_l5 (n : Nat) (rc_expr_Rels : (Nat → api_Expr → Option (Int))) (a0 : api_Expr) (k7 : (Int → Option (Int))) : Nat → Int → Int → Option (Int)
  | 0, _, _ => none
  | m12 + 1, y10, y11 => bif (decide (y10 < ((sll a0.fKids).length : Int))) then (idx (sll a0.fKids) y10).bind fun x14 => (rc_expr_Rels n (api_Expr.mk ((un_api_Expr x14).fKind) ((un_api_Expr x14).fRel) ((un_api_Expr x14).fCol) (api_Value.mk (((un_api_Expr x14).fConst).fKind) (((un_api_Expr x14).fConst).fInt) (((un_api_Expr x14).fConst).fFloat) (((un_api_Expr x14).fConst).fText)) ((un_api_Expr x14).fKids))).bind fun x16 => expr_Rels_l5 n rc_expr_Rels a0 k7 m12 (IntKind.wrap .i64 (y10 + 1)) (iOr .u32 y11 x16) else k7 y11
def expr_Rels_f (rc_expr_Rels : (Nat → api_Expr → Option (Int))) (n : Nat) (a0 : api_Expr) : Option (Int) := at1 n fun n =>
  withK (fun k3 => bif (((a0.fKind == 1) && (decide (a0.fRel ≥ 0))) && (decide (a0.fRel ≤ 31))) then (ckN (IntKind.wrap .u64 a0.fRel)).bind fun _ => k3 (iShl .u32 1 (IntKind.wrap .u64 a0.fRel)) else k3 0) (fun (y2 : Int) => withK (fun k7 => expr_Rels_l5 n rc_expr_Rels a0 k7 n 0 y2) (fun (y6 : Int) => some y6))
def expr_Rels_t : Nat → Nat → api_Expr → Option (Int)
  | 0 => fun _ _ => none
  | m + 1 => expr_Rels_f (expr_Rels_t m)
def expr_Rels (n : Nat) (a0 : api_Expr) : Option (Int) := expr_Rels_t n n a0
def guess_Within_l3 (n : Nat) (a0 : (Option (List E_api_Expr))) (a1 : Int) (k6 : ((Option (List Int)) → Option ((Option (List Int))))) : Nat → Int → (Option (List Int)) → Option ((Option (List Int)))
  | 0, _, _ => none
  | m18 + 1, y14, none => bif (decide (y14 < ((sll a0).length : Int))) then (idx (sll a0) y14).bind fun x20 => (expr_Rels n (api_Expr.mk ((un_api_Expr x20).fKind) ((un_api_Expr x20).fRel) ((un_api_Expr x20).fCol) (api_Value.mk (((un_api_Expr x20).fConst).fKind) (((un_api_Expr x20).fConst).fInt) (((un_api_Expr x20).fConst).fFloat) (((un_api_Expr x20).fConst).fText)) ((un_api_Expr x20).fKids))).bind fun x22 => bif (((iAndNot .u32 x22 a1) == 0) && ((x22 != 0) || ((iAnd .u32 a1 1) == 1))) then (ckA 8 ([y14] : List Int).length).bind fun _ => guess_Within_l3 n a0 a1 k6 m18 (IntKind.wrap .i64 (y14 + 1)) (some ([y14] : List Int)) else guess_Within_l3 n a0 a1 k6 m18 (IntKind.wrap .i64 (y14 + 1)) none else k6 none
  | m18 + 1, y14, (some y15) => bif (decide (y14 < ((sll a0).length : Int))) then (idx (sll a0) y14).bind fun x27 => (expr_Rels n (api_Expr.mk ((un_api_Expr x27).fKind) ((un_api_Expr x27).fRel) ((un_api_Expr x27).fCol) (api_Value.mk (((un_api_Expr x27).fConst).fKind) (((un_api_Expr x27).fConst).fInt) (((un_api_Expr x27).fConst).fFloat) (((un_api_Expr x27).fConst).fText)) ((un_api_Expr x27).fKids))).bind fun x29 => bif (((iAndNot .u32 x29 a1) == 0) && ((x29 != 0) || ((iAnd .u32 a1 1) == 1))) then (ckA 8 (y15 ++ ([y14] : List Int)).length).bind fun _ => guess_Within_l3 n a0 a1 k6 m18 (IntKind.wrap .i64 (y14 + 1)) (some (y15 ++ ([y14] : List Int))) else guess_Within_l3 n a0 a1 k6 m18 (IntKind.wrap .i64 (y14 + 1)) (some y15) else k6 (some y15)
def guess_Within (n : Nat) (a0 : (Option (List E_api_Expr))) (a1 : Int) : Option ((Option (List Int))) := at1 n fun n =>
  withK (fun (k6 : (Option (List Int)) → Option ((Option (List Int)))) => guess_Within_l3 n a0 a1 k6 n 0 none) (fun | none => some none | (some y3) => some (some y3))
def guess_Card_l9 (n : Nat) (a0 : (Option (List E_api_Expr))) (a1 : (Option (List stat_Stat))) (k10 : (Int → Option (Int))) (x11 : (Option (List Int))) : Nat → Int → Int → Option (Int)
  | 0, _, _ => none
  | m17 + 1, y15, y16 => bif (decide (y15 < ((sll x11).length : Int))) then (idx (sll x11) y15).bind fun x19 => (idx (sll a0) x19).bind fun x21 => (guess_Part n (api_Expr.mk ((un_api_Expr x21).fKind) ((un_api_Expr x21).fRel) ((un_api_Expr x21).fCol) (api_Value.mk (((un_api_Expr x21).fConst).fKind) (((un_api_Expr x21).fConst).fInt) (((un_api_Expr x21).fConst).fFloat) (((un_api_Expr x21).fConst).fText)) ((un_api_Expr x21).fKids)) a1).bind fun x23 => (fixed_Scale n y16 x23).bind fun x25 => guess_Card_l9 n a0 a1 k10 x11 m17 (IntKind.wrap .i64 (y15 + 1)) x25 else k10 y16
def guess_Card_l3 (n : Nat) (a1 : (Option (List stat_Stat))) (a2 : Int) (k4 : (Int → Option (Int))) : Nat → Int → Int → Option (Int)
  | 0, _, _ => none
  | m31 + 1, y29, y30 => bif (decide (y29 < 32)) then (ckN (IntKind.wrap .u64 y29)).bind fun _ => bif ((iAnd .u32 (iShr .u32 a2 (IntKind.wrap .u64 y29)) 1) == 1) then (guess_Rows n a1 y29).bind fun x35 => (fixed_Mul n y30 x35).bind fun x37 => guess_Card_l3 n a1 a2 k4 m31 (IntKind.wrap .i64 (y29 + 1)) x37 else guess_Card_l3 n a1 a2 k4 m31 (IntKind.wrap .i64 (y29 + 1)) y30 else k4 y30
def guess_Card (n : Nat) (a0 : (Option (List E_api_Expr))) (a1 : (Option (List stat_Stat))) (a2 : Int) : Option (Int) := at1 n fun n =>
  withK (fun k4 => guess_Card_l3 n a1 a2 k4 n 0 256) (fun (y3 : Int) => withK (fun k10 => (guess_Within n a0 a2).bind fun x11 => guess_Card_l9 n a0 a1 k10 x11 n 0 y3) (fun (y9 : Int) => some (if 1 > y9 then 1 else y9)))
def law32_works (n : Nat) : Option (Bool) := bif n == 3999999 then some true else none
def law32_bare_l5 (n : Nat) (rc_law32_bare : (Nat → api_Plan → (Option (List E_api_Expr)) → Option (api_Plan))) (a0 : api_Plan) (a1 : (Option (List E_api_Expr))) (k7 : ((Option (List E_api_Plan)) → Option (api_Plan))) : Nat → Int → (Option (List E_api_Plan)) → Option (api_Plan)
  | 0, _, _ => none
  | m13 + 1, y11, none => bif (decide (y11 < ((sll a0.fKids).length : Int))) then (idx (sll a0.fKids) y11).bind fun x15 => (rc_law32_bare n (un_api_Plan x15) a1).bind fun x17 => (ckA 184 ([(roll_api_Plan x17)] : List E_api_Plan).length).bind fun _ => law32_bare_l5 n rc_law32_bare a0 a1 k7 m13 (IntKind.wrap .i64 (y11 + 1)) (some ([(roll_api_Plan x17)] : List E_api_Plan)) else k7 none
  | m13 + 1, y11, (some y12) => bif (decide (y11 < ((sll a0.fKids).length : Int))) then (idx (sll a0.fKids) y11).bind fun x21 => (rc_law32_bare n (un_api_Plan x21) a1).bind fun x23 => (ckA 184 (y12 ++ ([(roll_api_Plan x23)] : List E_api_Plan)).length).bind fun _ => law32_bare_l5 n rc_law32_bare a0 a1 k7 m13 (IntKind.wrap .i64 (y11 + 1)) (some (y12 ++ ([(roll_api_Plan x23)] : List E_api_Plan))) else k7 (some y12)
def law32_bare_f (rc_law32_bare : (Nat → api_Plan → (Option (List E_api_Expr)) → Option (api_Plan))) (n : Nat) (a0 : api_Plan) (a1 : (Option (List E_api_Expr))) : Option (api_Plan) := at1 n fun n =>
  withK (fun k3 => bif ((decide (a0.fKind ≥ 1)) && (decide (a0.fKind ≤ 4))) then k3 a1 else k3 a0.fWhere) (fun (y2 : (Option (List E_api_Expr))) => withK (fun (k7 : (Option (List E_api_Plan)) → Option (api_Plan)) => law32_bare_l5 n rc_law32_bare a0 a1 k7 n 0 none) (fun | none => some (api_Plan.mk a0.fKind a0.fRel y2 a0.fLeft a0.fRight a0.fOut a0.fAggs a0.fOrder none) | (some y6) => some (api_Plan.mk a0.fKind a0.fRel y2 a0.fLeft a0.fRight a0.fOut a0.fAggs a0.fOrder (some y6))))
def law32_bare_t : Nat → Nat → api_Plan → (Option (List E_api_Expr)) → Option (api_Plan)
  | 0 => fun _ _ _ => none
  | m + 1 => law32_bare_f (law32_bare_t m)
def law32_bare (n : Nat) (a0 : api_Plan) (a1 : (Option (List E_api_Expr))) : Option (api_Plan) := law32_bare_t n n a0 a1
def ref23_Bulk_l15 (n : Nat) (a0 : api_Query) (a1 : Int) (k15 : (Int → Option (Int))) : Nat → Int → Int → Option (Int)
  | 0, _, _ => none
  | m20 + 1, y18, y19 => bif ((decide (y19 < ((sll a0.fAggs).length : Int))) && (decide (y18 ≤ a1))) then (idx (sll a0.fAggs) y19).bind fun x22 => (ref22_Bulk n (some ([(roll_api_Expr x22.fOf)] : List E_api_Expr)) (IntKind.wrap .i64 (a1 - y18))).bind fun x24 => ref23_Bulk_l15 n a0 a1 k15 m20 (IntKind.wrap .i64 (y18 + x24)) (IntKind.wrap .i64 (y19 + 1)) else k15 y18
def ref23_Bulk_l5 (n : Nat) (a0 : api_Query) (a1 : Int) (k5 : (Int → Option (Int))) : Nat → Int → Int → Option (Int)
  | 0, _, _ => none
  | m36 + 1, y34, y35 => bif (decide (y35 < ((sll a0.fRels).length : Int))) then bif (decide (y34 > a1)) then some (IntKind.wrap .i64 (a1 + 1)) else (idx (sll a0.fRels) y35).bind fun x39 => bif (decide ((x39.size : Int) > a1)) then some (IntKind.wrap .i64 (a1 + 1)) else ref23_Bulk_l5 n a0 a1 k5 m36 (IntKind.wrap .i64 (y34 + (x39.size : Int))) (IntKind.wrap .i64 (y35 + 1)) else k5 y34
def ref23_Bulk (n : Nat) (a0 : api_Query) (a1 : Int) : Option (Int) := at1 n fun n =>
  bif (((decide (((sll a0.fRels).length : Int) > a1)) || (decide (((sll a0.fAggs).length : Int) > a1))) || (decide (((sll a0.fOrder).length : Int) > a1))) then some (IntKind.wrap .i64 (a1 + 1)) else withK (fun k5 => ref23_Bulk_l5 n a0 a1 k5 n (IntKind.wrap .i64 ((IntKind.wrap .i64 (((sll a0.fRels).length : Int) + ((sll a0.fAggs).length : Int))) + ((sll a0.fOrder).length : Int))) 0) (fun (y3 : Int) => withK (fun k8 => bif (decide (y3 ≤ a1)) then (ref22_Bulk n a0.fWhere (IntKind.wrap .i64 (a1 - y3))).bind fun x30 => k8 (IntKind.wrap .i64 (y3 + x30)) else k8 y3) (fun (y7 : Int) => withK (fun k11 => bif (decide (y7 ≤ a1)) then (ref22_Bulk n a0.fOut (IntKind.wrap .i64 (a1 - y7))).bind fun x27 => k11 (IntKind.wrap .i64 (y7 + x27)) else k11 y7) (fun (y10 : Int) => withK (fun k15 => ref23_Bulk_l15 n a0 a1 k15 n y10 0) (fun (y13 : Int) => some y13))))
def ref25_Bulk_l5 (n : Nat) (rc_ref25_Bulk : (Nat → api_Plan → Int → Option (Int))) (a0 : api_Plan) (a1 : Int) (k9 : (Int → Option (Int))) : Nat → Int → Int → Option (Int)
  | 0, _, _ => none
  | m14 + 1, y12, y13 => bif ((decide (y13 < ((sll a0.fKids).length : Int))) && (decide (y12 ≤ a1))) then (idx (sll a0.fKids) y13).bind fun x16 => (rc_ref25_Bulk n (un_api_Plan x16) (IntKind.wrap .i64 (a1 - y12))).bind fun x18 => ref25_Bulk_l5 n rc_ref25_Bulk a0 a1 k9 m14 (IntKind.wrap .i64 (y12 + x18)) (IntKind.wrap .i64 (y13 + 1)) else k9 y12
def ref25_Bulk_f (rc_ref25_Bulk : (Nat → api_Plan → Int → Option (Int))) (n : Nat) (a0 : api_Plan) (a1 : Int) : Option (Int) := at1 n fun n =>
  (ref23_Bulk n (api_Query.mk none a0.fWhere false a0.fOut a0.fAggs a0.fOrder) a1).bind fun x1 => withK (fun k5 => bif (decide ((IntKind.wrap .i64 (1 + x1)) ≤ a1)) then (ref23_Bulk n (api_Query.mk none a0.fLeft false a0.fRight none none) a1).bind fun x21 => k5 (IntKind.wrap .i64 ((IntKind.wrap .i64 (1 + x1)) + x21)) else k5 (IntKind.wrap .i64 (1 + x1))) (fun (y4 : Int) => withK (fun k9 => ref25_Bulk_l5 n rc_ref25_Bulk a0 a1 k9 n y4 0) (fun (y7 : Int) => some y7))
def ref25_Bulk_t : Nat → Nat → api_Plan → Int → Option (Int)
  | 0 => fun _ _ _ => none
  | m + 1 => ref25_Bulk_f (ref25_Bulk_t m)
def ref25_Bulk (n : Nat) (a0 : api_Plan) (a1 : Int) : Option (Int) := ref25_Bulk_t n n a0 a1
def law25_Great (n : Nat) (a0 : api_Plan) : Option (Bool) := at1 n fun n =>
  (ref25_Bulk n a0 800).bind fun x1 => some (decide (x1 > 800))
def plan_kids (n : Nat) (a0 : Int) : Option (Int) := at1 n fun n =>
  bif (a0 == 1) then some 0 else withK (fun k3 => bif (a0 == 5) then k3 (a0 == 5) else bif (a0 == 6) then k3 (a0 == 6) else k3 (a0 == 7)) (fun (y2 : Bool) => bif y2 then some 1 else bif (a0 == 2) then bif (a0 == 2) then some 2 else some (-1) else bif (a0 == 3) then bif (a0 == 3) then some 2 else some (-1) else bif (a0 == 4) then some 2 else some (-1))
def plan_lists (n : Nat) (a0 : api_Plan) : Option (Bool) := at1 n fun n =>
  withK (fun k7 => withK (fun k9 => withK (fun k12 => bif (a0.fKind == 3) then bif (a0.fKind == 3) then k9 () else k12 () else bif (a0.fKind == 4) then k9 () else k12 ()) (fun (_ : Unit) => bif (a0.fKind == 1) then bif (a0.fKind == 1) then k7 0 (IntKind.wrap .i64 (((sll a0.fLeft).length : Int) + ((sll a0.fRight).length : Int))) ((sll a0.fOut).length : Int) ((sll a0.fAggs).length : Int) ((sll a0.fOrder).length : Int) else bif (a0.fKind == 6) then bif (((sll a0.fOut).length : Int) == 0) then some false else k7 ((sll a0.fWhere).length : Int) (IntKind.wrap .i64 (((sll a0.fLeft).length : Int) + ((sll a0.fRight).length : Int))) 0 ((sll a0.fAggs).length : Int) ((sll a0.fOrder).length : Int) else bif (a0.fKind == 5) then k7 ((sll a0.fWhere).length : Int) (IntKind.wrap .i64 (((sll a0.fLeft).length : Int) + ((sll a0.fRight).length : Int))) 0 0 ((sll a0.fOrder).length : Int) else bif (a0.fKind == 7) then bif (((sll a0.fOrder).length : Int) == 0) then some false else k7 ((sll a0.fWhere).length : Int) (IntKind.wrap .i64 (((sll a0.fLeft).length : Int) + ((sll a0.fRight).length : Int))) ((sll a0.fOut).length : Int) ((sll a0.fAggs).length : Int) 0 else k7 ((sll a0.fWhere).length : Int) (IntKind.wrap .i64 (((sll a0.fLeft).length : Int) + ((sll a0.fRight).length : Int))) ((sll a0.fOut).length : Int) ((sll a0.fAggs).length : Int) ((sll a0.fOrder).length : Int) else bif (a0.fKind == 2) then k7 0 (IntKind.wrap .i64 (((sll a0.fLeft).length : Int) + ((sll a0.fRight).length : Int))) ((sll a0.fOut).length : Int) ((sll a0.fAggs).length : Int) ((sll a0.fOrder).length : Int) else bif (a0.fKind == 6) then bif (((sll a0.fOut).length : Int) == 0) then some false else k7 ((sll a0.fWhere).length : Int) (IntKind.wrap .i64 (((sll a0.fLeft).length : Int) + ((sll a0.fRight).length : Int))) 0 ((sll a0.fAggs).length : Int) ((sll a0.fOrder).length : Int) else bif (a0.fKind == 5) then k7 ((sll a0.fWhere).length : Int) (IntKind.wrap .i64 (((sll a0.fLeft).length : Int) + ((sll a0.fRight).length : Int))) 0 0 ((sll a0.fOrder).length : Int) else bif (a0.fKind == 7) then bif (((sll a0.fOrder).length : Int) == 0) then some false else k7 ((sll a0.fWhere).length : Int) (IntKind.wrap .i64 (((sll a0.fLeft).length : Int) + ((sll a0.fRight).length : Int))) ((sll a0.fOut).length : Int) ((sll a0.fAggs).length : Int) 0 else k7 ((sll a0.fWhere).length : Int) (IntKind.wrap .i64 (((sll a0.fLeft).length : Int) + ((sll a0.fRight).length : Int))) ((sll a0.fOut).length : Int) ((sll a0.fAggs).length : Int) ((sll a0.fOrder).length : Int))) (fun (_ : Unit) => bif ((((sll a0.fLeft).length : Int) != ((sll a0.fRight).length : Int)) || (((sll a0.fLeft).length : Int) == 0)) then some false else k7 0 0 ((sll a0.fOut).length : Int) ((sll a0.fAggs).length : Int) ((sll a0.fOrder).length : Int))) (fun (y2 : Int) (y3 : Int) (y4 : Int) (y5 : Int) (y6 : Int) => some ((IntKind.wrap .i64 ((IntKind.wrap .i64 ((IntKind.wrap .i64 ((IntKind.wrap .i64 (y2 + y3)) + y4)) + y5)) + y6)) == 0))
def plan_parts_1 (n : Nat) (a0 : api_Expr) : Option (Bool) := at1 n fun n =>
  (expr_Formed n a0).bind fun x1 => some (!x1)
def slices_IndexFunc_Expr_plan_parts_1_l2 (n : Nat) (a0 : (Option (List E_api_Expr))) (k3 : (Unit → Option (Int))) : Nat → Int → Option (Int)
  | 0, _ => none
  | m6 + 1, y5 => bif (decide (y5 < ((sll a0).length : Int))) then (idx (sll a0) y5).bind fun x8 => (plan_parts_1 n (api_Expr.mk ((un_api_Expr x8).fKind) ((un_api_Expr x8).fRel) ((un_api_Expr x8).fCol) (api_Value.mk (((un_api_Expr x8).fConst).fKind) (((un_api_Expr x8).fConst).fInt) (((un_api_Expr x8).fConst).fFloat) (((un_api_Expr x8).fConst).fText)) ((un_api_Expr x8).fKids))).bind fun x10 => bif x10 then some y5 else slices_IndexFunc_Expr_plan_parts_1_l2 n a0 k3 m6 (IntKind.wrap .i64 (y5 + 1)) else k3 ()
def slices_IndexFunc_Expr_plan_parts_1 (n : Nat) (a0 : (Option (List E_api_Expr))) : Option (Int) := at1 n fun n =>
  withK (fun k3 => slices_IndexFunc_Expr_plan_parts_1_l2 n a0 k3 n 0) (fun (_ : Unit) => some (-1))
def slices_ContainsFunc_Expr_plan_parts_1 (n : Nat) (a0 : (Option (List E_api_Expr))) : Option (Bool) := at1 n fun n =>
  (slices_IndexFunc_Expr_plan_parts_1 n a0).bind fun x1 => some (decide (x1 ≥ 0))
def plan_parts_2 (n : Nat) (a0 : api_Agg) : Option (Bool) := at1 n fun n =>
  bif ((decide (a0.fKind < 1)) || (decide (a0.fKind > 4))) then some true else (expr_Formed n a0.fOf).bind fun x2 => some (!x2)
def slices_IndexFunc_Agg_plan_parts_2_l2 (n : Nat) (a0 : (Option (List api_Agg))) (k3 : (Unit → Option (Int))) : Nat → Int → Option (Int)
  | 0, _ => none
  | m6 + 1, y5 => bif (decide (y5 < ((sll a0).length : Int))) then (idx (sll a0) y5).bind fun x8 => (plan_parts_2 n x8).bind fun x10 => bif x10 then some y5 else slices_IndexFunc_Agg_plan_parts_2_l2 n a0 k3 m6 (IntKind.wrap .i64 (y5 + 1)) else k3 ()
def slices_IndexFunc_Agg_plan_parts_2 (n : Nat) (a0 : (Option (List api_Agg))) : Option (Int) := at1 n fun n =>
  withK (fun k3 => slices_IndexFunc_Agg_plan_parts_2_l2 n a0 k3 n 0) (fun (_ : Unit) => some (-1))
def slices_ContainsFunc_Agg_plan_parts_2 (n : Nat) (a0 : (Option (List api_Agg))) : Option (Bool) := at1 n fun n =>
  (slices_IndexFunc_Agg_plan_parts_2 n a0).bind fun x1 => some (decide (x1 ≥ 0))
def plan_parts_3 (n : Nat) (a0 : api_Key) : Option (Bool) := at1 n fun n =>
  some ((decide (a0.fOut < 0)) || (decide (a0.fOut > 29)))
def slices_IndexFunc_Key_plan_parts_3_l2 (n : Nat) (a0 : (Option (List api_Key))) (k3 : (Unit → Option (Int))) : Nat → Int → Option (Int)
  | 0, _ => none
  | m6 + 1, y5 => bif (decide (y5 < ((sll a0).length : Int))) then (idx (sll a0) y5).bind fun x8 => (plan_parts_3 n x8).bind fun x10 => bif x10 then some y5 else slices_IndexFunc_Key_plan_parts_3_l2 n a0 k3 m6 (IntKind.wrap .i64 (y5 + 1)) else k3 ()
def slices_IndexFunc_Key_plan_parts_3 (n : Nat) (a0 : (Option (List api_Key))) : Option (Int) := at1 n fun n =>
  withK (fun k3 => slices_IndexFunc_Key_plan_parts_3_l2 n a0 k3 n 0) (fun (_ : Unit) => some (-1))
def slices_ContainsFunc_Key_plan_parts_3 (n : Nat) (a0 : (Option (List api_Key))) : Option (Bool) := at1 n fun n =>
  (slices_IndexFunc_Key_plan_parts_3 n a0).bind fun x1 => some (decide (x1 ≥ 0))
def plan_parts_l2 (n : Nat) (a0 : api_Plan) (k3 : (Unit → Option (Bool))) : Nat → Int → Option (Bool)
  | 0, _ => none
  | m14 + 1, y13 => bif (decide (y13 < 4)) then (idx ([a0.fWhere, a0.fLeft, a0.fRight, a0.fOut] : List (Option (List E_api_Expr))) y13).bind fun x16 => bif (decide (((sll x16).length : Int) > 60)) then some false else (slices_ContainsFunc_Expr_plan_parts_1 n x16).bind fun x19 => bif x19 then some false else plan_parts_l2 n a0 k3 m14 (IntKind.wrap .i64 (y13 + 1)) else k3 ()
def plan_parts (n : Nat) (a0 : api_Plan) : Option (Bool) := at1 n fun n =>
  withK (fun k3 => plan_parts_l2 n a0 k3 n 0) (fun (_ : Unit) => bif (decide (((sll a0.fAggs).length : Int) > 60)) then some false else (slices_ContainsFunc_Agg_plan_parts_2 n a0.fAggs).bind fun x5 => bif x5 then some false else bif (decide (((sll a0.fOrder).length : Int) > 60)) then some false else (slices_ContainsFunc_Key_plan_parts_3 n a0.fOrder).bind fun x9 => bif x9 then some false else some (((decide (a0.fRel ≥ 0)) && (decide (a0.fRel < 12))) && ((a0.fKind == 1) || (a0.fRel == 0))))
def plan_count_l5 (n : Nat) (rc_plan_count : (Nat → api_Plan → Int → Int → Option (Int))) (a0 : api_Plan) (a1 : Int) (k15 : (Int → Option (Int))) : Nat → Int → Int → Option (Int)
  | 0, _, _ => none
  | m20 + 1, y18, y19 => bif (decide (y19 < ((sll a0.fKids).length : Int))) then (idx (sll a0.fKids) y19).bind fun x22 => (rc_plan_count n (un_api_Plan x22) (IntKind.wrap .i64 (a1 + 1)) y18).bind fun x24 => bif (decide (x24 < 0)) then some (-1) else plan_count_l5 n rc_plan_count a0 a1 k15 m20 x24 (IntKind.wrap .i64 (y19 + 1)) else k15 y18
def plan_count_f (rc_plan_count : (Nat → api_Plan → Int → Int → Option (Int))) (n : Nat) (a0 : api_Plan) (a1 : Int) (a2 : Int) : Option (Int) := at1 n fun n =>
  bif (decide (a1 > 24)) then some (-1) else bif (decide (a2 < 1)) then some (-1) else (plan_kids n a0.fKind).bind fun x3 => bif (x3 != ((sll a0.fKids).length : Int)) then some (-1) else (plan_lists n (api_Plan.mk a0.fKind a0.fRel a0.fWhere a0.fLeft a0.fRight a0.fOut a0.fAggs a0.fOrder a0.fKids)).bind fun x6 => bif (!x6) then some (-1) else (plan_parts n a0).bind fun x9 => bif (!x9) then some (-1) else withK (fun k15 => plan_count_l5 n rc_plan_count a0 a1 k15 n (IntKind.wrap .i64 (a2 - 1)) 0) (fun (y12 : Int) => some y12)
def plan_count_t : Nat → Nat → api_Plan → Int → Int → Option (Int)
  | 0 => fun _ _ _ _ => none
  | m + 1 => plan_count_f (plan_count_t m)
def plan_count (n : Nat) (a0 : api_Plan) (a1 : Int) (a2 : Int) : Option (Int) := plan_count_t n n a0 a1 a2
def plan_Formed (n : Nat) (a0 : api_Plan) : Option (Bool) := at1 n fun n =>
  (plan_count n a0 1 40).bind fun x1 => some (decide (x1 ≥ 0))
def plan_Rels_1 (n : Nat) (a0 : Int) (a1 : api_Plan) : Option (Int) := at1 n fun n =>
  bif (((a1.fKind == 1) && (decide (a1.fRel ≥ 0))) && (decide (a1.fRel < 32))) then (ckN (IntKind.wrap .u64 a1.fRel)).bind fun _ => some (iOr .u32 a0 (iShl .u32 1 (IntKind.wrap .u64 a1.fRel))) else some a0
def plan_walk_plan_Rels_1_l2 (n : Nat) (rc_plan_walk_plan_Rels_1 : (Nat → Int → api_Plan → Option (Int))) (a1 : api_Plan) (k4 : (Int → Option (Int))) : Nat → Int → Int → Option (Int)
  | 0, _, _ => none
  | m11 + 1, y9, y10 => bif (decide (y10 < ((sll a1.fKids).length : Int))) then (idx (sll a1.fKids) y10).bind fun x13 => (rc_plan_walk_plan_Rels_1 n y9 (un_api_Plan x13)).bind fun x16 => plan_walk_plan_Rels_1_l2 n rc_plan_walk_plan_Rels_1 a1 k4 m11 x16 (IntKind.wrap .i64 (y10 + 1)) else k4 y9
def plan_walk_plan_Rels_1_f (rc_plan_walk_plan_Rels_1 : (Nat → Int → api_Plan → Option (Int))) (n : Nat) (a0 : Int) (a1 : api_Plan) : Option (Int) := at1 n fun n =>
  withK (fun k4 => plan_walk_plan_Rels_1_l2 n rc_plan_walk_plan_Rels_1 a1 k4 n a0 0) (fun (y1 : Int) => (plan_Rels_1 n y1 a1).bind fun x6 => some x6)
def plan_walk_plan_Rels_1_t : Nat → Nat → Int → api_Plan → Option (Int)
  | 0 => fun _ _ _ => none
  | m + 1 => plan_walk_plan_Rels_1_f (plan_walk_plan_Rels_1_t m)
def plan_walk_plan_Rels_1 (n : Nat) (a0 : Int) (a1 : api_Plan) : Option (Int) := plan_walk_plan_Rels_1_t n n a0 a1
def plan_Rels (n : Nat) (a0 : api_Plan) : Option (Int) := at1 n fun n =>
  (plan_walk_plan_Rels_1 n 0 a0).bind fun x2 => some x2
def _cost_coster_card (n : Nat) (a0 : cost_coster) (a1 : api_Plan) : Option (Int) := at1 n fun n =>
  (plan_Rels n a1).bind fun x1 => (guess_Card n a0.fwhere a0.fstats x1).bind fun x3 => some x3
def cost_Scan (n : Nat) (a0 : Int) (a1 : Int) : Option (Int) := at1 n fun n =>
  (fixed_Mul n 256 a0).bind fun x1 => (fixed_Add n x1 a1).bind fun x3 => some x3
def fixed_Sum_l3 (n : Nat) (a0 : (Option (List Int))) (k4 : (Int → Option (Int))) : Nat → Int → Int → Option (Int)
  | 0, _, _ => none
  | m9 + 1, y7, y8 => bif (decide (y8 < ((sll a0).length : Int))) then (idx (sll a0) y8).bind fun x11 => (fixed_Add n y7 x11).bind fun x13 => fixed_Sum_l3 n a0 k4 m9 x13 (IntKind.wrap .i64 (y8 + 1)) else k4 y7
def fixed_Sum (n : Nat) (a0 : (Option (List Int))) : Option (Int) := at1 n fun n =>
  withK (fun k4 => fixed_Sum_l3 n a0 k4 n 0 0) (fun (y1 : Int) => some y1)
def fixed_Log (n : Nat) (a0 : Int) : Option (Int) := at1 n fun n =>
  (math_bits_Len64 n a0).bind fun x1 => some (IntKind.wrap .u64 x1)
def cost_Sort (n : Nat) (a0 : Int) : Option (Int) := at1 n fun n =>
  (fixed_Log n (IntKind.wrap .u64 (Int.tdiv a0 256))).bind fun x1 => (fixed_Mul n a0 (if 1 > x1 then 1 else x1)).bind fun x3 => some x3
def cost_Join (n : Nat) (a0 : Int) (a1 : Int) (a2 : Int) (a3 : Int) (a4 : Int) (a5 : Int) : Option (Int) := at1 n fun n =>
  withK (fun k2 => bif (a0 == 2) then (fixed_Share n a3 a4 256).bind fun x6 => k2 x6 else bif (a0 == 3) then (fixed_Sum n (some ([a3, a4, a4, 4096] : List Int))).bind fun x9 => k2 x9 else bif (a0 == 4) then (cost_Sort n a3).bind fun x12 => (cost_Sort n a4).bind fun x14 => (fixed_Add n x12 x14).bind fun x16 => k2 x16 else some 18446744073709551615) (fun (y1 : Int) => (fixed_Sum n (some ([a1, a2, a5, y1] : List Int))).bind fun x3 => some x3)
def _cost_coster_of_f (rc__cost_coster_of : (Nat → cost_coster → api_Plan → Option (Int))) (n : Nat) (a0 : cost_coster) (a1 : api_Plan) : Option (Int) := at1 n fun n =>
  (_cost_coster_card n (cost_coster.mk a0.fwhere a0.fstats) a1).bind fun x1 => bif (a1.fKind == 1) then (guess_Rows n a0.fstats a1.fRel).bind fun x4 => (cost_Scan n x4 x1).bind fun x6 => some x6 else withK (fun k10 => bif (a1.fKind == 2) then k10 (a1.fKind == 2) else bif (a1.fKind == 3) then k10 (a1.fKind == 3) else k10 (a1.fKind == 4)) (fun (y9 : Bool) => bif y9 then (idx (sll a1.fKids) 0).bind fun x12 => (idx (sll a1.fKids) 1).bind fun x14 => (rc__cost_coster_of n a0 (un_api_Plan x12)).bind fun x16 => (rc__cost_coster_of n a0 (un_api_Plan x14)).bind fun x18 => (_cost_coster_card n a0 (un_api_Plan x12)).bind fun x20 => (_cost_coster_card n a0 (un_api_Plan x14)).bind fun x22 => (cost_Join n a1.fKind x16 x18 x20 x22 x1).bind fun x24 => some x24 else (idx (sll a1.fKids) 0).bind fun x26 => (rc__cost_coster_of n a0 (un_api_Plan x26)).bind fun x28 => bif (a1.fKind == 5) then (cost_Sort n x1).bind fun x31 => (fixed_Add n x28 x31).bind fun x33 => (fixed_Add n x33 x1).bind fun x35 => some x35 else bif (a1.fKind == 6) then (fixed_Add n x28 x1).bind fun x38 => some x38 else bif (a1.fKind == 7) then (cost_Sort n x1).bind fun x41 => (fixed_Add n x28 x41).bind fun x43 => some x43 else some x28)
def _cost_coster_of_t : Nat → Nat → cost_coster → api_Plan → Option (Int)
  | 0 => fun _ _ _ => none
  | m + 1 => _cost_coster_of_f (_cost_coster_of_t m)
def _cost_coster_of (n : Nat) (a0 : cost_coster) (a1 : api_Plan) : Option (Int) := _cost_coster_of_t n n a0 a1
def cost_Of (n : Nat) (a0 : api_Plan) (a1 : (Option (List E_api_Expr))) (a2 : (Option (List stat_Stat))) : Option (Int) := at1 n fun n =>
  (plan_Formed n a0).bind fun x1 => bif (!x1) then some 18446744073709551615 else (_cost_coster_of n (cost_coster.mk a1 a2) (api_Plan.mk a0.fKind a0.fRel a0.fWhere a0.fLeft a0.fRight a0.fOut a0.fAggs a0.fOrder a0.fKids)).bind fun x4 => some x4
def law32_CostShapes_l9 (n : Nat) (a0 : api_Plan) (a1 : (Option (List E_api_Expr))) (x21 : (Option (List stat_Stat))) (x23 : Int) (k27 : (Unit → Option (Bool))) : Nat → Int → Option (Bool)
  | 0, _ => none
  | m32 + 1, y31 => bif (decide (y31 < ((sll a0.fKids).length : Int))) then (idx (sll a0.fKids) y31).bind fun x34 => (cost_Of n (un_api_Plan x34) a1 x21).bind fun x36 => bif (decide (x36 > x23)) then some false else law32_CostShapes_l9 n a0 a1 x21 x23 k27 m32 (IntKind.wrap .i64 (y31 + 1)) else k27 ()
def law32_CostShapes (n : Nat) (a0 : api_Plan) (a1 : (Option (List E_api_Expr))) (a2 : (Option (List tabularyref20_Stat))) (a3 : (Option (List E_api_Expr))) : Option (Bool) := at1 n fun n =>
  (law32_works n).bind fun x1 => bif (!x1) then some false else (law32_bare n a0 a3).bind fun x4 => (law25_Great n a0).bind fun x6 => bif x6 then some true else (law31_Great n a1 a2).bind fun x9 => bif (x9 || (decide (((sll a3).length : Int) > 3))) then some true else (law25_Great n (api_Plan.mk x4.fKind x4.fRel x4.fWhere x4.fLeft x4.fRight x4.fOut x4.fAggs x4.fOrder x4.fKids)).bind fun x12 => bif x12 then some true else (plan_Formed n a0).bind fun x15 => bif (!x15) then some true else (plan_Formed n (api_Plan.mk x4.fKind x4.fRel x4.fWhere x4.fLeft x4.fRight x4.fOut x4.fAggs x4.fOrder x4.fKids)).bind fun x18 => bif (!x18) then some true else (law31_Stats n a2).bind fun x21 => (cost_Of n (api_Plan.mk a0.fKind a0.fRel a0.fWhere a0.fLeft a0.fRight a0.fOut a0.fAggs a0.fOrder a0.fKids) a1 x21).bind fun x23 => withK (fun k27 => law32_CostShapes_l9 n a0 a1 x21 x23 k27 n 0) (fun (_ : Unit) => (cost_Of n (api_Plan.mk x4.fKind x4.fRel x4.fWhere x4.fLeft x4.fRight x4.fOut x4.fAggs x4.fOrder x4.fKids) a1 x21).bind fun x28 => some (x28 == x23))
end Go.Pl
