import Derived.Test.YtejbcaheoloahaaGreatAbRow
import Derived.Test.YtejbcaheoloahaaGreatAbArr
import Derived.Test.YtejbcaheoloahaaGreatAbRec
import Derived.Test.YtejbcaheoloahaaGreatAbPan
noncomputable section
namespace Go.Pl
open Go Go.Ab
structure zi where
  fKind:Int
  fInt:Int
  fFloat:Nat
  fText:ByteArray
def aec (x:zi):List PV:=[.int .i64 x.fKind,.int .i64 x.fInt,.flt .f64 x.fFloat,.str x.fText]
def Z4 (x:zi):Prop:=(wI .i64) x.fKind∧(wI .i64) x.fInt∧(wF .f64) x.fFloat∧wS x.fText
inductive Good_api_Expr:List PV→Prop
  | nil (fKind:Int) (fRel:Int) (fCol:Int) (fConst:zi):Good_api_Expr [.int .i64 fKind,.int .i64 fRel,.int .i64 fCol,.int .i64 fConst.fKind,.int .i64 fConst.fInt,.flt .f64 fConst.fFloat,.str fConst.fText,.nils]
  | some (fKind:Int) (fRel:Int) (fCol:Int) (fConst:zi) (rows:List (List PV)) (h:∀ p,p∈rows→Good_api_Expr p):Good_api_Expr [.int .i64 fKind,.int .i64 fRel,.int .i64 fCol,.int .i64 fConst.fKind,.int .i64 fConst.fInt,.flt .f64 fConst.fFloat,.str fConst.fText,.sl rows]
def zc:Type:={p:List PV // Good_api_Expr p}
def zb (y:zc):List PV:=y.1
structure zj where
  fKind:Int
  fRel:Int
  fCol:Int
  fConst:zi
  fKids:(Option (List zc))
def zC (x:zj):List PV:=[.int .i64 x.fKind,.int .i64 x.fRel,.int .i64 x.fCol,.int .i64 x.fConst.fKind,.int .i64 x.fConst.fInt,.flt .f64 x.fConst.fFloat,.str x.fConst.fText,zh zb x.fKids]
theorem aiG (x:zj):Good_api_Expr (zC x):=by
  obtain ⟨fKind,fRel,fCol,fConst,fKids⟩:=x
  cases fKids with
  | none=>exact .nil fKind fRel fCol fConst
  | some l=>exact .some fKind fRel fCol fConst (l.map zb) (by intro p hp; obtain ⟨y,_,rfl⟩:=List.mem_map.1 hp; exact y.2)
def zf (x:zj):zc:=⟨zC x,aiG x⟩
theorem agk (y:zc):∃ x:zj,zb y=zC x:=by
  obtain ⟨p,h⟩:=y
  cases h with
  | nil fKind fRel fCol fConst=>exact ⟨⟨fKind,fRel,fCol,fConst,none⟩,rfl⟩
  | some fKind fRel fCol fConst rows h=>
    obtain ⟨l,hl⟩:=agh rows h
    subst hl
    exact ⟨⟨fKind,fRel,fCol,fConst,some l⟩,rfl⟩
def za (y:zc):zj:=Classical.choose (agk y)
theorem zx (y:zc):zb y=zC (za y):=Classical.choose_spec (agk y)
theorem Za (y:zc):(zb y).length=8:=by rw [zx y]; rfl
inductive aaZ:List PV→Prop
  | nil (fKind:Int) (fRel:Int) (fCol:Int) (fConst:zi) (w:(wI .i64) fKind∧(wI .i64) fRel∧(wI .i64) fCol∧Z4 fConst):aaZ [.int .i64 fKind,.int .i64 fRel,.int .i64 fCol,.int .i64 fConst.fKind,.int .i64 fConst.fInt,.flt .f64 fConst.fFloat,.str fConst.fText,.nils]
  | some (fKind:Int) (fRel:Int) (fCol:Int) (fConst:zi) (rows:List (List PV)) (w:(wI .i64) fKind∧(wI .i64) fRel∧(wI .i64) fCol∧Z4 fConst) (hl:rows.length≤1048576) (h:∀ p,p∈rows→aaZ p):aaZ [.int .i64 fKind,.int .i64 fRel,.int .i64 fCol,.int .i64 fConst.fKind,.int .i64 fConst.fInt,.flt .f64 fConst.fFloat,.str fConst.fText,.sl rows]
def zS (y:zc):Prop:=aaZ (zb y)∧PV.bulkL (zb y)≤1048576
def qb (x:zj):Prop:=aaZ (zC x)∧PV.bulkL (zC x)≤1048576
structure zr where
  fKind:Int
  fOf:zj
def zn (x:zr):List PV:=[.int .i64 x.fKind,.int .i64 x.fOf.fKind,.int .i64 x.fOf.fRel,.int .i64 x.fOf.fCol,.int .i64 x.fOf.fConst.fKind,.int .i64 x.fOf.fConst.fInt,.flt .f64 x.fOf.fConst.fFloat,.str x.fOf.fConst.fText,zh zb x.fOf.fKids]
def aar (x:zr):Prop:=(wI .i64) x.fKind∧qb x.fOf
structure zt where
  fOut:Int
  fDesc:Bool
def zp (x:zt):List PV:=[.int .i64 x.fOut,.bool x.fDesc]
def acb (x:zt):Prop:=(wI .i64) x.fOut∧wB x.fDesc
inductive Good_api_Plan:List PV→Prop
  | nil (fKind:Int) (fRel:Int) (fWhere:(Option (List zc))) (fLeft:(Option (List zc))) (fRight:(Option (List zc))) (fOut:(Option (List zc))) (fAggs:(Option (List zr))) (fOrder:(Option (List zt))):Good_api_Plan [.int .i64 fKind,.int .i64 fRel,zh zb fWhere,zh zb fLeft,zh zb fRight,zh zb fOut,zh zn fAggs,zh zp fOrder,.nils]
  | some (fKind:Int) (fRel:Int) (fWhere:(Option (List zc))) (fLeft:(Option (List zc))) (fRight:(Option (List zc))) (fOut:(Option (List zc))) (fAggs:(Option (List zr))) (fOrder:(Option (List zt))) (rows:List (List PV)) (h:∀ p,p∈rows→Good_api_Plan p):Good_api_Plan [.int .i64 fKind,.int .i64 fRel,zh zb fWhere,zh zb fLeft,zh zb fRight,zh zb fOut,zh zn fAggs,zh zp fOrder,.sl rows]
def zm:Type:={p:List PV // Good_api_Plan p}
def zg (y:zm):List PV:=y.1
structure zk where
  fKind:Int
  fRel:Int
  fWhere:(Option (List zc))
  fLeft:(Option (List zc))
  fRight:(Option (List zc))
  fOut:(Option (List zc))
  fAggs:(Option (List zr))
  fOrder:(Option (List zt))
  fKids:(Option (List zm))
def zG (x:zk):List PV:=[.int .i64 x.fKind,.int .i64 x.fRel,zh zb x.fWhere,zh zb x.fLeft,zh zb x.fRight,zh zb x.fOut,zh zn x.fAggs,zh zp x.fOrder,zh zg x.fKids]
theorem aiH (x:zk):Good_api_Plan (zG x):=by
  obtain ⟨fKind,fRel,fWhere,fLeft,fRight,fOut,fAggs,fOrder,fKids⟩:=x
  cases fKids with
  | none=>exact .nil fKind fRel fWhere fLeft fRight fOut fAggs fOrder
  | some l=>exact .some fKind fRel fWhere fLeft fRight fOut fAggs fOrder (l.map zg) (by intro p hp; obtain ⟨y,_,rfl⟩:=List.mem_map.1 hp; exact y.2)
def zl (x:zk):zm:=⟨zG x,aiH x⟩
theorem agA (y:zm):∃ x:zk,zg y=zG x:=by
  obtain ⟨p,h⟩:=y
  cases h with
  | nil fKind fRel fWhere fLeft fRight fOut fAggs fOrder=>exact ⟨⟨fKind,fRel,fWhere,fLeft,fRight,fOut,fAggs,fOrder,none⟩,rfl⟩
  | some fKind fRel fWhere fLeft fRight fOut fAggs fOrder rows h=>
    obtain ⟨l,hl⟩:=agh rows h
    subst hl
    exact ⟨⟨fKind,fRel,fWhere,fLeft,fRight,fOut,fAggs,fOrder,some l⟩,rfl⟩
def zd (y:zm):zk:=Classical.choose (agA y)
theorem zF (y:zm):zg y=zG (zd y):=Classical.choose_spec (agA y)
theorem Zt (y:zm):(zg y).length=9:=by rw [zF y]; rfl
inductive aag:List PV→Prop
  | nil (fKind:Int) (fRel:Int) (fWhere:(Option (List zc))) (fLeft:(Option (List zc))) (fRight:(Option (List zc))) (fOut:(Option (List zc))) (fAggs:(Option (List zr))) (fOrder:(Option (List zt))) (w:(wI .i64) fKind∧(wI .i64) fRel∧(wSl zS) fWhere∧(wSl zS) fLeft∧(wSl zS) fRight∧(wSl zS) fOut∧(wSl aar) fAggs∧(wSl acb) fOrder):aag [.int .i64 fKind,.int .i64 fRel,zh zb fWhere,zh zb fLeft,zh zb fRight,zh zb fOut,zh zn fAggs,zh zp fOrder,.nils]
  | some (fKind:Int) (fRel:Int) (fWhere:(Option (List zc))) (fLeft:(Option (List zc))) (fRight:(Option (List zc))) (fOut:(Option (List zc))) (fAggs:(Option (List zr))) (fOrder:(Option (List zt))) (rows:List (List PV)) (w:(wI .i64) fKind∧(wI .i64) fRel∧(wSl zS) fWhere∧(wSl zS) fLeft∧(wSl zS) fRight∧(wSl zS) fOut∧(wSl aar) fAggs∧(wSl acb) fOrder) (hl:rows.length≤1048576) (h:∀ p,p∈rows→aag p):aag [.int .i64 fKind,.int .i64 fRel,zh zb fWhere,zh zb fLeft,zh zb fRight,zh zb fOut,zh zn fAggs,zh zp fOrder,.sl rows]
def ads (y:zm):Prop:=aag (zg y)∧PV.bulkL (zg y)≤1048576
def Qb (x:zk):Prop:=aag (zG x)∧PV.bulkL (zG x)≤1048576
structure Zo where
  fRels:(Option (List ByteArray))
  fWhere:(Option (List zc))
  fGrouped:Bool
  fOut:(Option (List zc))
  fAggs:(Option (List zr))
  fOrder:(Option (List zt))
def qD (n:Nat) (rc_ref22_Bulk:(Nat→(Option (List zc))→Int→Option (Int))) (a0:(Option (List zc))) (a1:Int) (k5:(Int→Option (Int))):Nat→Int→Int→Option (Int)
  | 0,_,_=>none
  | m10+1,y8,y9=>bif ((decide (y9 < ((sll a0).length:Int))) && (decide (y8≤a1))) then (idx (sll a0) y9).bind fun x12=>bif (decide (((((za x12).fConst).fText).size:Int) > a1)) then some (IntKind.wrap .i64 (a1+1)) else bif (decide ((IntKind.wrap .i64 (y8+((((za x12).fConst).fText).size:Int)))≤a1)) then (rc_ref22_Bulk n ((za x12).fKids) (IntKind.wrap .i64 (a1 - (IntKind.wrap .i64 (y8+((((za x12).fConst).fText).size:Int)))))).bind fun x16=>qD n rc_ref22_Bulk a0 a1 k5 m10 (IntKind.wrap .i64 ((IntKind.wrap .i64 (y8+((((za x12).fConst).fText).size:Int)))+x16)) (IntKind.wrap .i64 (y9+1)) else qD n rc_ref22_Bulk a0 a1 k5 m10 (IntKind.wrap .i64 (y8+((((za x12).fConst).fText).size:Int))) (IntKind.wrap .i64 (y9+1)) else k5 y8
def aa8 (rc_ref22_Bulk:(Nat→(Option (List zc))→Int→Option (Int))) (n:Nat) (a0:(Option (List zc))) (a1:Int):Option (Int):=at1 n fun n=>
  bif (decide (((sll a0).length:Int) > a1)) then some (IntKind.wrap .i64 (a1+1)) else zK (fun k5=>qD n rc_ref22_Bulk a0 a1 k5 n ((sll a0).length:Int) 0) (fun (y3:Int)=>some y3)
def QI:Nat→Nat→(Option (List zc))→Int→Option (Int)
  | 0=>fun _ _ _=>none
  | m+1=>aa8 (QI m)
def abo (n:Nat) (a0:(Option (List zc))) (a1:Int):Option (Int):=QI n n a0 a1
def qe (n:Nat) (a0:Zo) (a1:Int) (k15:(Int→Option (Int))):Nat→Int→Int→Option (Int)
  | 0,_,_=>none
  | m20+1,y18,y19=>bif ((decide (y19 < ((sll a0.fAggs).length:Int))) && (decide (y18≤a1))) then (idx (sll a0.fAggs) y19).bind fun x22=>(abo n (some ([(zf x22.fOf)]:List zc)) (IntKind.wrap .i64 (a1 - y18))).bind fun x24=>qe n a0 a1 k15 m20 (IntKind.wrap .i64 (y18+x24)) (IntKind.wrap .i64 (y19+1)) else k15 y18
def QV (n:Nat) (a0:Zo) (a1:Int) (k5:(Int→Option (Int))):Nat→Int→Int→Option (Int)
  | 0,_,_=>none
  | m36+1,y34,y35=>bif (decide (y35 < ((sll a0.fRels).length:Int))) then bif (decide (y34 > a1)) then some (IntKind.wrap .i64 (a1+1)) else (idx (sll a0.fRels) y35).bind fun x39=>bif (decide ((x39.size:Int) > a1)) then some (IntKind.wrap .i64 (a1+1)) else QV n a0 a1 k5 m36 (IntKind.wrap .i64 (y34+(x39.size:Int))) (IntKind.wrap .i64 (y35+1)) else k5 y34
def abk (n:Nat) (a0:Zo) (a1:Int):Option (Int):=at1 n fun n=>
  bif (((decide (((sll a0.fRels).length:Int) > a1)) || (decide (((sll a0.fAggs).length:Int) > a1))) || (decide (((sll a0.fOrder).length:Int) > a1))) then some (IntKind.wrap .i64 (a1+1)) else zK (fun k5=>QV n a0 a1 k5 n (IntKind.wrap .i64 ((IntKind.wrap .i64 (((sll a0.fRels).length:Int)+((sll a0.fAggs).length:Int)))+((sll a0.fOrder).length:Int))) 0) (fun (y3:Int)=>zK (fun k8=>bif (decide (y3≤a1)) then (abo n a0.fWhere (IntKind.wrap .i64 (a1 - y3))).bind fun x30=>k8 (IntKind.wrap .i64 (y3+x30)) else k8 y3) (fun (y7:Int)=>zK (fun k11=>bif (decide (y7≤a1)) then (abo n a0.fOut (IntKind.wrap .i64 (a1 - y7))).bind fun x27=>k11 (IntKind.wrap .i64 (y7+x27)) else k11 y7) (fun (y10:Int)=>zK (fun k15=>qe n a0 a1 k15 n y10 0) (fun (y13:Int)=>some y13))))
def qY (n:Nat) (rc_ref25_Bulk:(Nat→zk→Int→Option (Int))) (a0:zk) (a1:Int) (k9:(Int→Option (Int))):Nat→Int→Int→Option (Int)
  | 0,_,_=>none
  | m14+1,y12,y13=>bif ((decide (y13 < ((sll a0.fKids).length:Int))) && (decide (y12≤a1))) then (idx (sll a0.fKids) y13).bind fun x16=>(rc_ref25_Bulk n (zd x16) (IntKind.wrap .i64 (a1 - y12))).bind fun x18=>qY n rc_ref25_Bulk a0 a1 k9 m14 (IntKind.wrap .i64 (y12+x18)) (IntKind.wrap .i64 (y13+1)) else k9 y12
def aa1 (rc_ref25_Bulk:(Nat→zk→Int→Option (Int))) (n:Nat) (a0:zk) (a1:Int):Option (Int):=at1 n fun n=>
  (abk n (Zo.mk none a0.fWhere false a0.fOut a0.fAggs a0.fOrder) a1).bind fun x1=>zK (fun k5=>bif (decide ((IntKind.wrap .i64 (1+x1))≤a1)) then (abk n (Zo.mk none a0.fLeft false a0.fRight none none) a1).bind fun x21=>k5 (IntKind.wrap .i64 ((IntKind.wrap .i64 (1+x1))+x21)) else k5 (IntKind.wrap .i64 (1+x1))) (fun (y4:Int)=>zK (fun k9=>qY n rc_ref25_Bulk a0 a1 k9 n y4 0) (fun (y7:Int)=>some y7))
def QG:Nat→Nat→zk→Int→Option (Int)
  | 0=>fun _ _ _=>none
  | m+1=>aa1 (QG m)
def ae7 (n:Nat) (a0:zk) (a1:Int):Option (Int):=QG n n a0 a1
def aaV (n:Nat) (a0:zk):Option (Bool):=at1 n fun n=>
  (ae7 n a0 800).bind fun x1=>some (decide (x1 > 800))
def qZ (n:Nat):Option (Bool):=bif n == 3999999 then some true else none
def ZK (n:Nat) (rc_expr_Copy:(Nat→zj→Option (zj))) (a0:zj) (k4:((Option (List zc))→Option (zj))):Nat→(Option (List zc))→Int→Option (zj)
  | 0,_,_=>none
  | m10+1,none,y9=>bif (decide (y9 < ((sll a0.fKids).length:Int))) then (idx (sll a0.fKids) y9).bind fun x12=>(rc_expr_Copy n (zj.mk ((za x12).fKind) ((za x12).fRel) ((za x12).fCol) (zi.mk (((za x12).fConst).fKind) (((za x12).fConst).fInt) (((za x12).fConst).fFloat) (((za x12).fConst).fText)) ((za x12).fKids))).bind fun x14=>(ckA 88 ([(zf x14)]:List zc).length).bind fun _=>ZK n rc_expr_Copy a0 k4 m10 (some ([(zf x14)]:List zc)) (IntKind.wrap .i64 (y9+1)) else k4 none
  | m10+1,(some y8),y9=>bif (decide (y9 < ((sll a0.fKids).length:Int))) then (idx (sll a0.fKids) y9).bind fun x18=>(rc_expr_Copy n (zj.mk ((za x18).fKind) ((za x18).fRel) ((za x18).fCol) (zi.mk (((za x18).fConst).fKind) (((za x18).fConst).fInt) (((za x18).fConst).fFloat) (((za x18).fConst).fText)) ((za x18).fKids))).bind fun x20=>(ckA 88 (y8++([(zf x20)]:List zc)).length).bind fun _=>ZK n rc_expr_Copy a0 k4 m10 (some (y8++([(zf x20)]:List zc))) (IntKind.wrap .i64 (y9+1)) else k4 (some y8)
def abC (rc_expr_Copy:(Nat→zj→Option (zj))) (n:Nat) (a0:zj):Option (zj):=at1 n fun n=>
  zK (fun (k4:(Option (List zc))→Option (zj))=>ZK n rc_expr_Copy a0 k4 n none 0) (fun | none=>some (zj.mk a0.fKind a0.fRel a0.fCol a0.fConst none) | (some y3)=>some (zj.mk a0.fKind a0.fRel a0.fCol a0.fConst (some y3)))
def QC:Nat→Nat→zj→Option (zj)
  | 0=>fun _ _=>none
  | m+1=>abC (QC m)
def Zm (n:Nat) (a0:zj):Option (zj):=QC n n a0
def zO (n:Nat) (a0:zk):Nat→(Option (List zc))→Int→Option ((Option (List zc)))
  | 0,_,_=>none
  | m26+1,none,y21=>bif (decide (y21 < (if ((sll a0.fRight).length:Int) < ((sll a0.fLeft).length:Int) then ((sll a0.fRight).length:Int) else ((sll a0.fLeft).length:Int)))) then (idx (sll a0.fLeft) y21).bind fun x28=>(Zm n (zj.mk ((za x28).fKind) ((za x28).fRel) ((za x28).fCol) (zi.mk (((za x28).fConst).fKind) (((za x28).fConst).fInt) (((za x28).fConst).fFloat) (((za x28).fConst).fText)) ((za x28).fKids))).bind fun x30=>(idx (sll a0.fRight) y21).bind fun x32=>(Zm n (zj.mk ((za x32).fKind) ((za x32).fRel) ((za x32).fCol) (zi.mk (((za x32).fConst).fKind) (((za x32).fConst).fInt) (((za x32).fConst).fFloat) (((za x32).fConst).fText)) ((za x32).fKids))).bind fun x34=>(ckA 88 ([(zf (zj.mk 0 0 0 (zi.mk 0 0 0 ByteArray.empty) none))]:List zc).length).bind fun _=>(idx ([(zf (zj.mk 0 0 0 (zi.mk 0 0 0 ByteArray.empty) none))]:List zc) 0).bind fun x37=>zO n a0 m26 (some (([(zf (zj.mk 0 0 0 (zi.mk 0 0 0 ByteArray.empty) none))]:List zc).set (Int.toNat 0) (zf (zj.mk 7 0 0 (zi.mk 0 0 0 ByteArray.empty) (some ([(zf x30),(zf x34)]:List zc)))))) (IntKind.wrap .i64 (y21+1)) else some none
  | m26+1,(some y20),y21=>bif (decide (y21 < (if ((sll a0.fRight).length:Int) < ((sll a0.fLeft).length:Int) then ((sll a0.fRight).length:Int) else ((sll a0.fLeft).length:Int)))) then (idx (sll a0.fLeft) y21).bind fun x40=>(Zm n (zj.mk ((za x40).fKind) ((za x40).fRel) ((za x40).fCol) (zi.mk (((za x40).fConst).fKind) (((za x40).fConst).fInt) (((za x40).fConst).fFloat) (((za x40).fConst).fText)) ((za x40).fKids))).bind fun x42=>(idx (sll a0.fRight) y21).bind fun x44=>(Zm n (zj.mk ((za x44).fKind) ((za x44).fRel) ((za x44).fCol) (zi.mk (((za x44).fConst).fKind) (((za x44).fConst).fInt) (((za x44).fConst).fFloat) (((za x44).fConst).fText)) ((za x44).fKids))).bind fun x46=>(ckA 88 (y20++([(zf (zj.mk 0 0 0 (zi.mk 0 0 0 ByteArray.empty) none))]:List zc)).length).bind fun _=>(idx (y20++([(zf (zj.mk 0 0 0 (zi.mk 0 0 0 ByteArray.empty) none))]:List zc)) (y20.length:Int)).bind fun x49=>zO n a0 m26 (some ((y20++([(zf (zj.mk 0 0 0 (zi.mk 0 0 0 ByteArray.empty) none))]:List zc)).set (Int.toNat (y20.length:Int)) (zf (zj.mk 7 0 0 (zi.mk 0 0 0 ByteArray.empty) (some ([(zf x42),(zf x46)]:List zc)))))) (IntKind.wrap .i64 (y21+1)) else some (some y20)
def Zi (n:Nat) (a0:zk):Nat→(List zc)→Int→Option ((Option (List zc)))
  | 0,_,_=>none
  | m64+1,y58,y59=>bif (decide (y59 < (if ((sll a0.fRight).length:Int) < ((sll a0.fLeft).length:Int) then ((sll a0.fRight).length:Int) else ((sll a0.fLeft).length:Int)))) then (idx (sll a0.fLeft) y59).bind fun x66=>(Zm n (zj.mk ((za x66).fKind) ((za x66).fRel) ((za x66).fCol) (zi.mk (((za x66).fConst).fKind) (((za x66).fConst).fInt) (((za x66).fConst).fFloat) (((za x66).fConst).fText)) ((za x66).fKids))).bind fun x68=>(idx (sll a0.fRight) y59).bind fun x70=>(Zm n (zj.mk ((za x70).fKind) ((za x70).fRel) ((za x70).fCol) (zi.mk (((za x70).fConst).fKind) (((za x70).fConst).fInt) (((za x70).fConst).fFloat) (((za x70).fConst).fText)) ((za x70).fKids))).bind fun x72=>(ckA 88 (y58++([(zf (zj.mk 0 0 0 (zi.mk 0 0 0 ByteArray.empty) none))]:List zc)).length).bind fun _=>(idx (y58++([(zf (zj.mk 0 0 0 (zi.mk 0 0 0 ByteArray.empty) none))]:List zc)) (y58.length:Int)).bind fun x75=>Zi n a0 m64 ((y58++([(zf (zj.mk 0 0 0 (zi.mk 0 0 0 ByteArray.empty) none))]:List zc)).set (Int.toNat (y58.length:Int)) (zf (zj.mk 7 0 0 (zi.mk 0 0 0 ByteArray.empty) (some ([(zf x68),(zf x72)]:List zc))))) (IntKind.wrap .i64 (y59+1)) else some (some y58)
def zV (n:Nat) (a0:zk) (k8:((Option (List zc))→Option ((Option (List zc))))):Nat→(Option (List zc))→Int→Option ((Option (List zc)))
  | 0,_,_=>none
  | m93+1,none,y88=>bif (decide (y88 < ((sll a0.fWhere).length:Int))) then (idx (sll a0.fWhere) y88).bind fun x95=>(Zm n (zj.mk ((za x95).fKind) ((za x95).fRel) ((za x95).fCol) (zi.mk (((za x95).fConst).fKind) (((za x95).fConst).fInt) (((za x95).fConst).fFloat) (((za x95).fConst).fText)) ((za x95).fKids))).bind fun x97=>(ckA 88 ([(zf (zj.mk 0 0 0 (zi.mk 0 0 0 ByteArray.empty) none))]:List zc).length).bind fun _=>(idx ([(zf (zj.mk 0 0 0 (zi.mk 0 0 0 ByteArray.empty) none))]:List zc) 0).bind fun x100=>zV n a0 k8 m93 (some (([(zf (zj.mk 0 0 0 (zi.mk 0 0 0 ByteArray.empty) none))]:List zc).set (Int.toNat 0) (zf x97))) (IntKind.wrap .i64 (y88+1)) else k8 none
  | m93+1,(some y87),y88=>bif (decide (y88 < ((sll a0.fWhere).length:Int))) then (idx (sll a0.fWhere) y88).bind fun x103=>(Zm n (zj.mk ((za x103).fKind) ((za x103).fRel) ((za x103).fCol) (zi.mk (((za x103).fConst).fKind) (((za x103).fConst).fInt) (((za x103).fConst).fFloat) (((za x103).fConst).fText)) ((za x103).fKids))).bind fun x105=>(ckA 88 (y87++([(zf (zj.mk 0 0 0 (zi.mk 0 0 0 ByteArray.empty) none))]:List zc)).length).bind fun _=>(idx (y87++([(zf (zj.mk 0 0 0 (zi.mk 0 0 0 ByteArray.empty) none))]:List zc)) (y87.length:Int)).bind fun x108=>zV n a0 k8 m93 (some ((y87++([(zf (zj.mk 0 0 0 (zi.mk 0 0 0 ByteArray.empty) none))]:List zc)).set (Int.toNat (y87.length:Int)) (zf x105))) (IntKind.wrap .i64 (y88+1)) else k8 (some y87)
def qq (n:Nat) (a0:zk):Option ((Option (List zc))):=at1 n fun n=>
  zK (fun (k8:(Option (List zc))→Option ((Option (List zc))))=>zV n a0 k8 n none 0) (fun | none=>bif ((a0.fKind != 3) && (a0.fKind != 4)) then some none else zO n a0 n none 0 | (some y3)=>bif ((a0.fKind != 3) && (a0.fKind != 4)) then some (some y3) else Zi n a0 n y3 0)
def zZ (n:Nat) (a1:zk):Nat→(List zc)→Int→Option ((List zc))
  | 0,_,_=>none
  | m22+1,y16,y17=>bif (decide (y17 < (if ((sll a1.fRight).length:Int) < ((sll a1.fLeft).length:Int) then ((sll a1.fRight).length:Int) else ((sll a1.fLeft).length:Int)))) then (idx (sll a1.fLeft) y17).bind fun x24=>(Zm n (zj.mk ((za x24).fKind) ((za x24).fRel) ((za x24).fCol) (zi.mk (((za x24).fConst).fKind) (((za x24).fConst).fInt) (((za x24).fConst).fFloat) (((za x24).fConst).fText)) ((za x24).fKids))).bind fun x26=>(idx (sll a1.fRight) y17).bind fun x28=>(Zm n (zj.mk ((za x28).fKind) ((za x28).fRel) ((za x28).fCol) (zi.mk (((za x28).fConst).fKind) (((za x28).fConst).fInt) (((za x28).fConst).fFloat) (((za x28).fConst).fText)) ((za x28).fKids))).bind fun x30=>(ckA 88 (y16++([(zf (zj.mk 0 0 0 (zi.mk 0 0 0 ByteArray.empty) none))]:List zc)).length).bind fun _=>(idx (y16++([(zf (zj.mk 0 0 0 (zi.mk 0 0 0 ByteArray.empty) none))]:List zc)) (y16.length:Int)).bind fun x33=>zZ n a1 m22 ((y16++([(zf (zj.mk 0 0 0 (zi.mk 0 0 0 ByteArray.empty) none))]:List zc)).set (Int.toNat (y16.length:Int)) (zf (zj.mk 7 0 0 (zi.mk 0 0 0 ByteArray.empty) (some ([(zf x26),(zf x30)]:List zc))))) (IntKind.wrap .i64 (y17+1)) else some y16
def Zy (n:Nat) (a1:zk) (k8:((List zc)→Option ((List zc)))):Nat→(List zc)→Int→Option ((List zc))
  | 0,_,_=>none
  | m47+1,y41,y42=>bif (decide (y42 < ((sll a1.fWhere).length:Int))) then (idx (sll a1.fWhere) y42).bind fun x49=>(Zm n (zj.mk ((za x49).fKind) ((za x49).fRel) ((za x49).fCol) (zi.mk (((za x49).fConst).fKind) (((za x49).fConst).fInt) (((za x49).fConst).fFloat) (((za x49).fConst).fText)) ((za x49).fKids))).bind fun x51=>(ckA 88 (y41++([(zf (zj.mk 0 0 0 (zi.mk 0 0 0 ByteArray.empty) none))]:List zc)).length).bind fun _=>(idx (y41++([(zf (zj.mk 0 0 0 (zi.mk 0 0 0 ByteArray.empty) none))]:List zc)) (y41.length:Int)).bind fun x54=>Zy n a1 k8 m47 ((y41++([(zf (zj.mk 0 0 0 (zi.mk 0 0 0 ByteArray.empty) none))]:List zc)).set (Int.toNat (y41.length:Int)) (zf x51)) (IntKind.wrap .i64 (y42+1)) else k8 y41
def Zv (n:Nat) (a0:(List zc)) (a1:zk):Option ((List zc)):=at1 n fun n=>
  zK (fun k8=>Zy n a1 k8 n a0 0) (fun (y1:(List zc))=>bif ((a1.fKind != 3) && (a1.fKind != 4)) then some y1 else zZ n a1 n y1 0)
def zQ (n:Nat) (rc_plan_walk_plan_Applied_1_2:(Nat→(List zc)→zk→Option ((List zc)))) (a1:zk) (k8:((List zc)→Option ((List zc)))):Nat→(List zc)→Int→Option ((List zc))
  | 0,_,_=>none
  | m27+1,y21,y22=>bif (decide (y22 < ((sll a1.fKids).length:Int))) then (idx (sll a1.fKids) y22).bind fun x29=>(rc_plan_walk_plan_Applied_1_2 n y21 (zd x29)).bind fun x32=>zQ n rc_plan_walk_plan_Applied_1_2 a1 k8 m27 x32 (IntKind.wrap .i64 (y22+1)) else k8 y21
def ZV (rc_plan_walk_plan_Applied_1_2:(Nat→(List zc)→zk→Option ((List zc)))) (n:Nat) (a0:(List zc)) (a1:zk):Option ((List zc)):=at1 n fun n=>
  zK (fun k8=>zQ n rc_plan_walk_plan_Applied_1_2 a1 k8 n a0 0) (fun (y1:(List zc))=>(Zv n y1 a1).bind fun x10=>some x10)
def Zp:Nat→Nat→(List zc)→zk→Option ((List zc))
  | 0=>fun _ _ _=>none
  | m+1=>ZV (Zp m)
def q9 (n:Nat) (a0:(List zc)) (a1:zk):Option ((List zc)):=Zp n n a0 a1
def zA (n:Nat) (rc_plan_walk_plan_Applied_1:(Nat→zk→Option ((Option (List zc))))) (a0:zk) (k8:((Option (List zc))→Option ((Option (List zc))))):Nat→(Option (List zc))→Int→Option ((Option (List zc)))
  | 0,_,_=>none
  | m34+1,none,y29=>bif (decide (y29 < ((sll a0.fKids).length:Int))) then (idx (sll a0.fKids) y29).bind fun x36=>(rc_plan_walk_plan_Applied_1 n (zd x36)).bind (fun | none=>zA n rc_plan_walk_plan_Applied_1 a0 k8 m34 none (IntKind.wrap .i64 (y29+1)) | some x39=>zA n rc_plan_walk_plan_Applied_1 a0 k8 m34 (some x39) (IntKind.wrap .i64 (y29+1))) else k8 none
  | m34+1,(some y28),y29=>bif (decide (y29 < ((sll a0.fKids).length:Int))) then (idx (sll a0.fKids) y29).bind fun x46=>(q9 n y28 (zd x46)).bind fun x49=>zA n rc_plan_walk_plan_Applied_1 a0 k8 m34 (some x49) (IntKind.wrap .i64 (y29+1)) else k8 (some y28)
def Z8 (rc_plan_walk_plan_Applied_1:(Nat→zk→Option ((Option (List zc))))) (n:Nat) (a0:zk):Option ((Option (List zc))):=at1 n fun n=>
  zK (fun (k8:(Option (List zc))→Option ((Option (List zc))))=>zA n rc_plan_walk_plan_Applied_1 a0 k8 n none 0) (fun | none=>(qq n a0).bind (fun | none=>some none | some x10=>some (some x10)) | (some y3)=>(Zv n y3 a0).bind fun x17=>some (some x17))
def Zw:Nat→Nat→zk→Option ((Option (List zc)))
  | 0=>fun _ _=>none
  | m+1=>Z8 (Zw m)
def Qm (n:Nat) (a0:zk):Option ((Option (List zc))):=Zw n n a0
def aap (n:Nat) (a0:zk):Option ((Option (List zc))):=at1 n fun n=>
  (Qm n a0).bind (fun | none=>some none | some x2=>some (some x2))
def zW (n:Nat) (a0:zk) (k11:((Option (List zc))→Option ((Option (List zc))))):Nat→(Option (List zc))→Int→Option ((Option (List zc)))
  | 0,_,_=>none
  | m17+1,none,y16=>bif ((((a0.fKind == 3) || (a0.fKind == 4)) && (decide (y16 < ((sll a0.fLeft).length:Int)))) && (decide (y16 < ((sll a0.fRight).length:Int)))) then (idx (sll a0.fLeft) y16).bind fun x19=>(idx (sll a0.fRight) y16).bind fun x21=>(ckA 88 ([(zf (zj.mk 7 0 0 (zi.mk 0 0 0 ByteArray.empty) (some ([(zf (zj.mk ((za x19).fKind) ((za x19).fRel) ((za x19).fCol) (zi.mk (((za x19).fConst).fKind) (((za x19).fConst).fInt) (((za x19).fConst).fFloat) (((za x19).fConst).fText)) ((za x19).fKids))),(zf (zj.mk ((za x21).fKind) ((za x21).fRel) ((za x21).fCol) (zi.mk (((za x21).fConst).fKind) (((za x21).fConst).fInt) (((za x21).fConst).fFloat) (((za x21).fConst).fText)) ((za x21).fKids)))]:List zc))))]:List zc).length).bind fun _=>zW n a0 k11 m17 (some ([(zf (zj.mk 7 0 0 (zi.mk 0 0 0 ByteArray.empty) (some ([(zf (zj.mk ((za x19).fKind) ((za x19).fRel) ((za x19).fCol) (zi.mk (((za x19).fConst).fKind) (((za x19).fConst).fInt) (((za x19).fConst).fFloat) (((za x19).fConst).fText)) ((za x19).fKids))),(zf (zj.mk ((za x21).fKind) ((za x21).fRel) ((za x21).fCol) (zi.mk (((za x21).fConst).fKind) (((za x21).fConst).fInt) (((za x21).fConst).fFloat) (((za x21).fConst).fText)) ((za x21).fKids)))]:List zc))))]:List zc)) (IntKind.wrap .i64 (y16+1)) else k11 none
  | m17+1,(some y15),y16=>bif ((((a0.fKind == 3) || (a0.fKind == 4)) && (decide (y16 < ((sll a0.fLeft).length:Int)))) && (decide (y16 < ((sll a0.fRight).length:Int)))) then (idx (sll a0.fLeft) y16).bind fun x25=>(idx (sll a0.fRight) y16).bind fun x27=>(ckA 88 (y15++([(zf (zj.mk 7 0 0 (zi.mk 0 0 0 ByteArray.empty) (some ([(zf (zj.mk ((za x25).fKind) ((za x25).fRel) ((za x25).fCol) (zi.mk (((za x25).fConst).fKind) (((za x25).fConst).fInt) (((za x25).fConst).fFloat) (((za x25).fConst).fText)) ((za x25).fKids))),(zf (zj.mk ((za x27).fKind) ((za x27).fRel) ((za x27).fCol) (zi.mk (((za x27).fConst).fKind) (((za x27).fConst).fInt) (((za x27).fConst).fFloat) (((za x27).fConst).fText)) ((za x27).fKids)))]:List zc))))]:List zc)).length).bind fun _=>zW n a0 k11 m17 (some (y15++([(zf (zj.mk 7 0 0 (zi.mk 0 0 0 ByteArray.empty) (some ([(zf (zj.mk ((za x25).fKind) ((za x25).fRel) ((za x25).fCol) (zi.mk (((za x25).fConst).fKind) (((za x25).fConst).fInt) (((za x25).fConst).fFloat) (((za x25).fConst).fText)) ((za x25).fKids))),(zf (zj.mk ((za x27).fKind) ((za x27).fRel) ((za x27).fCol) (zi.mk (((za x27).fConst).fKind) (((za x27).fConst).fInt) (((za x27).fConst).fFloat) (((za x27).fConst).fText)) ((za x27).fKids)))]:List zc))))]:List zc))) (IntKind.wrap .i64 (y16+1)) else k11 (some y15)
def ZC (n:Nat) (a0:zk) (k35:((List zc)→Option ((Option (List zc))))):Nat→(List zc)→Int→Option ((Option (List zc)))
  | 0,_,_=>none
  | m44+1,y40,y41=>bif ((((a0.fKind == 3) || (a0.fKind == 4)) && (decide (y41 < ((sll a0.fLeft).length:Int)))) && (decide (y41 < ((sll a0.fRight).length:Int)))) then (idx (sll a0.fLeft) y41).bind fun x46=>(idx (sll a0.fRight) y41).bind fun x48=>(ckA 88 (y40++([(zf (zj.mk 7 0 0 (zi.mk 0 0 0 ByteArray.empty) (some ([(zf (zj.mk ((za x46).fKind) ((za x46).fRel) ((za x46).fCol) (zi.mk (((za x46).fConst).fKind) (((za x46).fConst).fInt) (((za x46).fConst).fFloat) (((za x46).fConst).fText)) ((za x46).fKids))),(zf (zj.mk ((za x48).fKind) ((za x48).fRel) ((za x48).fCol) (zi.mk (((za x48).fConst).fKind) (((za x48).fConst).fInt) (((za x48).fConst).fFloat) (((za x48).fConst).fText)) ((za x48).fKids)))]:List zc))))]:List zc)).length).bind fun _=>ZC n a0 k35 m44 (y40++([(zf (zj.mk 7 0 0 (zi.mk 0 0 0 ByteArray.empty) (some ([(zf (zj.mk ((za x46).fKind) ((za x46).fRel) ((za x46).fCol) (zi.mk (((za x46).fConst).fKind) (((za x46).fConst).fInt) (((za x46).fConst).fFloat) (((za x46).fConst).fText)) ((za x46).fKids))),(zf (zj.mk ((za x48).fKind) ((za x48).fRel) ((za x48).fCol) (zi.mk (((za x48).fConst).fKind) (((za x48).fConst).fInt) (((za x48).fConst).fFloat) (((za x48).fConst).fText)) ((za x48).fKids)))]:List zc))))]:List zc)) (IntKind.wrap .i64 (y41+1)) else k35 y40
def Zq (n:Nat) (a0:zk) (k58:((List zc)→Option ((Option (List zc))))):Nat→(List zc)→Int→Option ((Option (List zc)))
  | 0,_,_=>none
  | m63+1,y61,y62=>bif ((((a0.fKind == 3) || (a0.fKind == 4)) && (decide (y62 < ((sll a0.fLeft).length:Int)))) && (decide (y62 < ((sll a0.fRight).length:Int)))) then (idx (sll a0.fLeft) y62).bind fun x65=>(idx (sll a0.fRight) y62).bind fun x67=>(ckA 88 (y61++([(zf (zj.mk 7 0 0 (zi.mk 0 0 0 ByteArray.empty) (some ([(zf (zj.mk ((za x65).fKind) ((za x65).fRel) ((za x65).fCol) (zi.mk (((za x65).fConst).fKind) (((za x65).fConst).fInt) (((za x65).fConst).fFloat) (((za x65).fConst).fText)) ((za x65).fKids))),(zf (zj.mk ((za x67).fKind) ((za x67).fRel) ((za x67).fCol) (zi.mk (((za x67).fConst).fKind) (((za x67).fConst).fInt) (((za x67).fConst).fFloat) (((za x67).fConst).fText)) ((za x67).fKids)))]:List zc))))]:List zc)).length).bind fun _=>Zq n a0 k58 m63 (y61++([(zf (zj.mk 7 0 0 (zi.mk 0 0 0 ByteArray.empty) (some ([(zf (zj.mk ((za x65).fKind) ((za x65).fRel) ((za x65).fCol) (zi.mk (((za x65).fConst).fKind) (((za x65).fConst).fInt) (((za x65).fConst).fFloat) (((za x65).fConst).fText)) ((za x65).fKids))),(zf (zj.mk ((za x67).fKind) ((za x67).fRel) ((za x67).fCol) (zi.mk (((za x67).fConst).fKind) (((za x67).fConst).fInt) (((za x67).fConst).fFloat) (((za x67).fConst).fText)) ((za x67).fKids)))]:List zc))))]:List zc)) (IntKind.wrap .i64 (y62+1)) else k58 y61
def zL (n:Nat) (rc_ref25_Applied:(Nat→zk→Option ((Option (List zc))))) (a0:zk) (k4:((Option (List zc))→Option ((Option (List zc))))):Nat→(Option (List zc))→Int→Option ((Option (List zc)))
  | 0,_,_=>none
  | m77+1,none,y76=>bif (decide (y76 < ((sll a0.fKids).length:Int))) then (idx (sll a0.fKids) y76).bind fun x79=>(rc_ref25_Applied n (zd x79)).bind fun x81=>bif (sll x81).isEmpty then zL n rc_ref25_Applied a0 k4 m77 none (IntKind.wrap .i64 (y76+1)) else (ckA 88 (sll x81).length).bind fun _=>zL n rc_ref25_Applied a0 k4 m77 (some (sll x81)) (IntKind.wrap .i64 (y76+1)) else k4 none
  | m77+1,(some y75),y76=>bif (decide (y76 < ((sll a0.fKids).length:Int))) then (idx (sll a0.fKids) y76).bind fun x86=>(rc_ref25_Applied n (zd x86)).bind fun x88=>bif (sll x88).isEmpty then (ckA 88 y75.length).bind fun _=>zL n rc_ref25_Applied a0 k4 m77 (some y75) (IntKind.wrap .i64 (y76+1)) else (ckA 88 (y75++(sll x88)).length).bind fun _=>zL n rc_ref25_Applied a0 k4 m77 (some (y75++(sll x88))) (IntKind.wrap .i64 (y76+1)) else k4 (some y75)
def QQ (rc_ref25_Applied:(Nat→zk→Option ((Option (List zc))))) (n:Nat) (a0:zk):Option ((Option (List zc))):=at1 n fun n=>
  zK (fun (k4:(Option (List zc))→Option ((Option (List zc))))=>zL n rc_ref25_Applied a0 k4 n none 0) (fun | none=>zK (fun (k7:(Option (List zc))→Option ((Option (List zc))))=>bif (sll a0.fWhere).isEmpty then k7 none else (ckA 88 (sll a0.fWhere).length).bind fun _=>k7 (some (sll a0.fWhere))) (fun | none=>zK (fun (k11:(Option (List zc))→Option ((Option (List zc))))=>zW n a0 k11 n none 0) (fun | none=>some none | (some y10)=>some (some y10)) | (some y5)=>zK (fun k35=>ZC n a0 k35 n y5 0) (fun (y30:(List zc))=>some (some y30))) | (some y3)=>zK (fun k54=>bif (sll a0.fWhere).isEmpty then (ckA 88 y3.length).bind fun _=>k54 y3 else (ckA 88 (y3++(sll a0.fWhere)).length).bind fun _=>k54 (y3++(sll a0.fWhere))) (fun (y53:(List zc))=>zK (fun k58=>Zq n a0 k58 n y53 0) (fun (y55:(List zc))=>some (some y55))))
def Qg:Nat→Nat→zk→Option ((Option (List zc)))
  | 0=>fun _ _=>none
  | m+1=>QQ (Qg m)
def acR (n:Nat) (a0:zk):Option ((Option (List zc))):=Qg n n a0
def aab (n:Nat) (a0:Nat):Option (Bool):=at1 n fun n=>
  bif ((FloatKind.format .f64).order a0 0 == some .eq) then ((FloatKind.format .f64).div 4607182418800017408 a0).bind fun x2=>some ((FloatKind.format .f64).order x2 0 == some .gt) else some false
def aal (n:Nat) (a0:zi):Option (Bool):=at1 n fun n=>
  bif (a0.fKind == 0) then bif (a0.fInt == 0) then (aab n a0.fFloat).bind fun x3=>some (x3 && (sEq a0.fText ByteArray.empty)) else some false else bif (a0.fKind == 1) then bif ((a0.fInt == 0) || (a0.fInt == 1)) then (aab n a0.fFloat).bind fun x7=>some (x7 && (sEq a0.fText ByteArray.empty)) else some false else bif (a0.fKind == 2) then (aab n a0.fFloat).bind fun x10=>some (x10 && (sEq a0.fText ByteArray.empty)) else bif (a0.fKind == 3) then some ((a0.fInt == 0) && (sEq a0.fText ByteArray.empty)) else bif (a0.fKind == 4) then bif (a0.fInt == 0) then (aab n a0.fFloat).bind fun x15=>some (x15 && (decide ((a0.fText.size:Int)≤64))) else some false else some false
def aaY (n:Nat) (a0:zi):Option (zi):=at1 n fun n=>
  (aal n a0).bind fun x1=>bif (!x1) then some (zi.mk 0 0 0 ByteArray.empty) else bif ((a0.fKind == 3) && ((FloatKind.format .f64).order a0.fFloat 0 == some .eq)) then some (zi.mk 3 0 0 ByteArray.empty) else some a0
def adm (n:Nat) (a0:zi) (a1:zi):Option (Int):=at1 n fun n=>
  (aaY n a0).bind fun x1=>(aaY n a1).bind fun x3=>bif (x1.fKind != x3.fKind) then bif (decide (x1.fKind < x3.fKind)) then some (-1) else some 1 else zK (fun k10=>bif (x1.fKind == 3) then k10 (((FloatKind.format .f64).order x1.fFloat x3.fFloat == some .lt) || ((!((FloatKind.format .f64).order x1.fFloat x1.fFloat != some .eq)) && ((FloatKind.format .f64).order x3.fFloat x3.fFloat != some .eq))) (((FloatKind.format .f64).order x1.fFloat x3.fFloat == some .gt) || (((FloatKind.format .f64).order x1.fFloat x1.fFloat != some .eq) && (!((FloatKind.format .f64).order x3.fFloat x3.fFloat != some .eq)))) else k10 (decide (x1.fInt < x3.fInt)) (decide (x1.fInt > x3.fInt))) (fun (y8:Bool) (y9:Bool)=>bif (x1.fKind == 4) then bif (sLt x1.fText x3.fText) then some (-1) else bif (!(sLt x1.fText x3.fText || sEq x1.fText x3.fText)) then some 1 else some 0 else bif y8 then some (-1) else bif y9 then some 1 else some 0)
def qM (n:Nat) (rc_ref22_Same:(Nat→zj→zj→Option (Bool))) (a0:zj) (a1:zj) (k7:(Unit→Option (Bool))):Nat→Int→Option (Bool)
  | 0,_=>none
  | m10+1,y9=>bif (decide (y9 < ((sll a0.fKids).length:Int))) then (idx (sll a0.fKids) y9).bind fun x12=>(idx (sll a1.fKids) y9).bind fun x14=>(rc_ref22_Same n (zj.mk ((za x12).fKind) ((za x12).fRel) ((za x12).fCol) (zi.mk (((za x12).fConst).fKind) (((za x12).fConst).fInt) (((za x12).fConst).fFloat) (((za x12).fConst).fText)) ((za x12).fKids)) (zj.mk ((za x14).fKind) ((za x14).fRel) ((za x14).fCol) (zi.mk (((za x14).fConst).fKind) (((za x14).fConst).fInt) (((za x14).fConst).fFloat) (((za x14).fConst).fText)) ((za x14).fKids))).bind fun x16=>bif (!x16) then some false else qM n rc_ref22_Same a0 a1 k7 m10 (IntKind.wrap .i64 (y9+1)) else k7 ()
def abj (rc_ref22_Same:(Nat→zj→zj→Option (Bool))) (n:Nat) (a0:zj) (a1:zj):Option (Bool):=at1 n fun n=>
  bif ((((a0.fKind != a1.fKind) || (a0.fRel != a1.fRel)) || (a0.fCol != a1.fCol)) || (a0.fConst.fKind != a1.fConst.fKind)) then some false else (adm n a0.fConst a1.fConst).bind fun x2=>bif ((x2 != 0) || (((sll a0.fKids).length:Int) != ((sll a1.fKids).length:Int))) then some false else zK (fun k7=>qM n rc_ref22_Same a0 a1 k7 n 0) (fun (_:Unit)=>some true)
def QL:Nat→Nat→zj→zj→Option (Bool)
  | 0=>fun _ _ _=>none
  | m+1=>abj (QL m)
def acw (n:Nat) (a0:zj) (a1:zj):Option (Bool):=QL n n a0 a1
def qp (n:Nat) (a0:(Option (List zc))) (a1:(Option (List zc))) (k4:(Unit→Option (Bool))):Nat→Int→Option (Bool)
  | 0,_=>none
  | m7+1,y6=>bif (decide (y6 < ((sll a0).length:Int))) then (idx (sll a0) y6).bind fun x9=>(idx (sll a1) y6).bind fun x11=>(acw n (zj.mk ((za x9).fKind) ((za x9).fRel) ((za x9).fCol) (zi.mk (((za x9).fConst).fKind) (((za x9).fConst).fInt) (((za x9).fConst).fFloat) (((za x9).fConst).fText)) ((za x9).fKids)) (zj.mk ((za x11).fKind) ((za x11).fRel) ((za x11).fCol) (zi.mk (((za x11).fConst).fKind) (((za x11).fConst).fInt) (((za x11).fConst).fFloat) (((za x11).fConst).fText)) ((za x11).fKids))).bind fun x13=>bif (!x13) then some false else qp n a0 a1 k4 m7 (IntKind.wrap .i64 (y6+1)) else k4 ()
def aaW (n:Nat) (a0:(Option (List zc))) (a1:(Option (List zc))):Option (Bool):=at1 n fun n=>
  bif (((sll a0).length:Int) != ((sll a1).length:Int)) then some false else zK (fun k4=>qp n a0 a1 k4 n 0) (fun (_:Unit)=>some true)
def ZN (n:Nat) (a0:Zo) (a1:Zo) (k16:(Unit→Option (Bool))):Nat→Int→Option (Bool)
  | 0,_=>none
  | m19+1,y18=>bif (decide (y18 < ((sll a0.fOrder).length:Int))) then (idx (sll a0.fOrder) y18).bind fun x21=>(idx (sll a1.fOrder) y18).bind fun x23=>bif (x21.fOut != x23.fOut) then some false else bif (!(x21.fDesc == x23.fDesc)) then some false else ZN n a0 a1 k16 m19 (IntKind.wrap .i64 (y18+1)) else k16 ()
def qf (n:Nat) (a0:Zo) (a1:Zo) (k13:(Unit→Option (Bool))):Nat→Int→Option (Bool)
  | 0,_=>none
  | m29+1,y28=>bif (decide (y28 < ((sll a0.fAggs).length:Int))) then (idx (sll a0.fAggs) y28).bind fun x31=>(idx (sll a1.fAggs) y28).bind fun x33=>bif (x31.fKind != x33.fKind) then some false else (acw n x31.fOf x33.fOf).bind fun x36=>bif (!x36) then some false else qf n a0 a1 k13 m29 (IntKind.wrap .i64 (y28+1)) else k13 ()
def qI (n:Nat) (a0:Zo) (a1:Zo) (k10:(Unit→Option (Bool))):Nat→Int→Option (Bool)
  | 0,_=>none
  | m41+1,y40=>bif (decide (y40 < ((sll a0.fRels).length:Int))) then (idx (sll a0.fRels) y40).bind fun x43=>(idx (sll a1.fRels) y40).bind fun x45=>bif (!(sEq x43 x45)) then some false else qI n a0 a1 k10 m41 (IntKind.wrap .i64 (y40+1)) else k10 ()
def aae (n:Nat) (a0:Zo) (a1:Zo):Option (Bool):=at1 n fun n=>
  bif (((sll a0.fRels).length:Int) != ((sll a1.fRels).length:Int)) then some false else (aaW n a0.fWhere a1.fWhere).bind fun x2=>bif ((!x2) || (!(a0.fGrouped == a1.fGrouped))) then some false else (aaW n a0.fOut a1.fOut).bind fun x5=>bif (((!x5) || (((sll a0.fAggs).length:Int) != ((sll a1.fAggs).length:Int))) || (((sll a0.fOrder).length:Int) != ((sll a1.fOrder).length:Int))) then some false else zK (fun k10=>qI n a0 a1 k10 n 0) (fun (_:Unit)=>zK (fun k13=>qf n a0 a1 k13 n 0) (fun (_:Unit)=>zK (fun k16=>ZN n a0 a1 k16 n 0) (fun (_:Unit)=>some true)))
def ade (n:Nat) (a0:Int):Option (Int):=at1 n fun n=>
  bif (a0 == 1) then some 0 else zK (fun k3=>bif (a0 == 5) then k3 (a0 == 5) else bif (a0 == 6) then k3 (a0 == 6) else k3 (a0 == 7)) (fun (y2:Bool)=>bif y2 then some 1 else bif (a0 == 2) then bif (a0 == 2) then some 2 else some (-1) else bif (a0 == 3) then bif (a0 == 3) then some 2 else some (-1) else bif (a0 == 4) then some 2 else some (-1))
def acf (n:Nat) (a0:zk):Option (Bool):=at1 n fun n=>
  zK (fun k7=>zK (fun k9=>zK (fun k12=>bif (a0.fKind == 3) then bif (a0.fKind == 3) then k9 () else k12 () else bif (a0.fKind == 4) then k9 () else k12 ()) (fun (_:Unit)=>bif (a0.fKind == 1) then bif (a0.fKind == 1) then k7 0 (IntKind.wrap .i64 (((sll a0.fLeft).length:Int)+((sll a0.fRight).length:Int))) ((sll a0.fOut).length:Int) ((sll a0.fAggs).length:Int) ((sll a0.fOrder).length:Int) else bif (a0.fKind == 6) then bif (((sll a0.fOut).length:Int) == 0) then some false else k7 ((sll a0.fWhere).length:Int) (IntKind.wrap .i64 (((sll a0.fLeft).length:Int)+((sll a0.fRight).length:Int))) 0 ((sll a0.fAggs).length:Int) ((sll a0.fOrder).length:Int) else bif (a0.fKind == 5) then k7 ((sll a0.fWhere).length:Int) (IntKind.wrap .i64 (((sll a0.fLeft).length:Int)+((sll a0.fRight).length:Int))) 0 0 ((sll a0.fOrder).length:Int) else bif (a0.fKind == 7) then bif (((sll a0.fOrder).length:Int) == 0) then some false else k7 ((sll a0.fWhere).length:Int) (IntKind.wrap .i64 (((sll a0.fLeft).length:Int)+((sll a0.fRight).length:Int))) ((sll a0.fOut).length:Int) ((sll a0.fAggs).length:Int) 0 else k7 ((sll a0.fWhere).length:Int) (IntKind.wrap .i64 (((sll a0.fLeft).length:Int)+((sll a0.fRight).length:Int))) ((sll a0.fOut).length:Int) ((sll a0.fAggs).length:Int) ((sll a0.fOrder).length:Int) else bif (a0.fKind == 2) then k7 0 (IntKind.wrap .i64 (((sll a0.fLeft).length:Int)+((sll a0.fRight).length:Int))) ((sll a0.fOut).length:Int) ((sll a0.fAggs).length:Int) ((sll a0.fOrder).length:Int) else bif (a0.fKind == 6) then bif (((sll a0.fOut).length:Int) == 0) then some false else k7 ((sll a0.fWhere).length:Int) (IntKind.wrap .i64 (((sll a0.fLeft).length:Int)+((sll a0.fRight).length:Int))) 0 ((sll a0.fAggs).length:Int) ((sll a0.fOrder).length:Int) else bif (a0.fKind == 5) then k7 ((sll a0.fWhere).length:Int) (IntKind.wrap .i64 (((sll a0.fLeft).length:Int)+((sll a0.fRight).length:Int))) 0 0 ((sll a0.fOrder).length:Int) else bif (a0.fKind == 7) then bif (((sll a0.fOrder).length:Int) == 0) then some false else k7 ((sll a0.fWhere).length:Int) (IntKind.wrap .i64 (((sll a0.fLeft).length:Int)+((sll a0.fRight).length:Int))) ((sll a0.fOut).length:Int) ((sll a0.fAggs).length:Int) 0 else k7 ((sll a0.fWhere).length:Int) (IntKind.wrap .i64 (((sll a0.fLeft).length:Int)+((sll a0.fRight).length:Int))) ((sll a0.fOut).length:Int) ((sll a0.fAggs).length:Int) ((sll a0.fOrder).length:Int))) (fun (_:Unit)=>bif ((((sll a0.fLeft).length:Int) != ((sll a0.fRight).length:Int)) || (((sll a0.fLeft).length:Int) == 0)) then some false else k7 0 0 ((sll a0.fOut).length:Int) ((sll a0.fAggs).length:Int) ((sll a0.fOrder).length:Int))) (fun (y2:Int) (y3:Int) (y4:Int) (y5:Int) (y6:Int)=>some ((IntKind.wrap .i64 ((IntKind.wrap .i64 ((IntKind.wrap .i64 ((IntKind.wrap .i64 (y2+y3))+y4))+y5))+y6)) == 0))
def ac2 (n:Nat) (a0:Int):Option (Int):=at1 n fun n=>
  zK (fun k2=>bif (a0 == 1) then k2 (a0 == 1) else k2 (a0 == 2)) (fun (y1:Bool)=>bif y1 then some 0 else zK (fun k5=>bif (a0 == 6) then k5 (a0 == 6) else bif (a0 == 12) then k5 (a0 == 12) else k5 (a0 == 13)) (fun (y4:Bool)=>bif y4 then some 1 else bif (a0 == 3) then bif (a0 == 3) then some 2 else some (-1) else bif (a0 == 4) then bif (a0 == 4) then some 2 else some (-1) else bif (a0 == 5) then bif (a0 == 5) then some 2 else some (-1) else bif (a0 == 7) then bif (a0 == 7) then some 2 else some (-1) else bif (a0 == 8) then bif (a0 == 8) then some 2 else some (-1) else bif (a0 == 9) then bif (a0 == 9) then some 2 else some (-1) else bif (a0 == 10) then bif (a0 == 10) then some 2 else some (-1) else bif (a0 == 11) then some 2 else some (-1)))
def aaI (n:Nat) (a0:Int):Option (Bool):=at1 n fun n=>
  some ((decide (a0≥0)) && (decide (a0≤31)))
def ab2 (n:Nat) (a0:Nat):Option (Bool):=at1 n fun n=>
  some (decide ((IntKind.wrap .i64 (a0:Int)) < 0))
def aaQ (n:Nat) (a0:zi):Option (Bool):=at1 n fun n=>
  zK (fun k2=>bif ((FloatKind.format .f64).order a0.fFloat 0 == some .eq) then (ab2 n a0.fFloat).bind fun x14=>k2 (!x14) else k2 false) (fun (y1:Bool)=>zK (fun k6=>bif (a0.fKind == 0) then some (((a0.fInt == 0) && y1) && (sEq a0.fText ByteArray.empty)) else bif (a0.fKind == 1) then bif ((a0.fInt != 0) && (a0.fInt != 1)) then some false else k6 () else bif (a0.fKind == 2) then k6 () else bif (a0.fKind == 3) then some ((a0.fInt == 0) && (sEq a0.fText ByteArray.empty)) else bif (a0.fKind == 4) then some (((a0.fInt == 0) && y1) && (decide ((a0.fText.size:Int)≤64))) else some false) (fun (_:Unit)=>some (y1 && (sEq a0.fText ByteArray.empty))))
def abM (n:Nat) (a0:zj):Option (Bool):=at1 n fun n=>
  bif ((a0.fKind != 1) && ((a0.fRel != 0) || (a0.fCol != 0))) then some false else (aaI n a0.fRel).bind fun x2=>bif (!x2) then some false else (aaI n a0.fCol).bind fun x5=>bif (!x5) then some false else (aaQ n a0.fConst).bind fun x8=>some (x8 && ((a0.fKind == 2) || (a0.fConst.fKind == 0)))
def QX (n:Nat) (rc_expr_count:(Nat→zj→Int→Int→Option (Int))) (a0:zj) (a1:Int) (k12:(Int→Option (Int))):Nat→Int→Int→Option (Int)
  | 0,_,_=>none
  | m17+1,y15,y16=>bif (decide (y16 < ((sll a0.fKids).length:Int))) then (idx (sll a0.fKids) y16).bind fun x19=>(rc_expr_count n (zj.mk ((za x19).fKind) ((za x19).fRel) ((za x19).fCol) (zi.mk (((za x19).fConst).fKind) (((za x19).fConst).fInt) (((za x19).fConst).fFloat) (((za x19).fConst).fText)) ((za x19).fKids)) (IntKind.wrap .i64 (a1+1)) y15).bind fun x21=>bif (decide (x21 < 0)) then some (-1) else QX n rc_expr_count a0 a1 k12 m17 x21 (IntKind.wrap .i64 (y16+1)) else k12 y15
def QH (rc_expr_count:(Nat→zj→Int→Int→Option (Int))) (n:Nat) (a0:zj) (a1:Int) (a2:Int):Option (Int):=at1 n fun n=>
  bif (decide (a1 > 24)) then some (-1) else bif (decide (a2 < 1)) then some (-1) else (ac2 n a0.fKind).bind fun x3=>bif (x3 != ((sll a0.fKids).length:Int)) then some (-1) else (abM n (zj.mk a0.fKind a0.fRel a0.fCol a0.fConst a0.fKids)).bind fun x6=>bif (!x6) then some (-1) else zK (fun k12=>QX n rc_expr_count a0 a1 k12 n (IntKind.wrap .i64 (a2 - 1)) 0) (fun (y9:Int)=>some y9)
def qL:Nat→Nat→zj→Int→Int→Option (Int)
  | 0=>fun _ _ _ _=>none
  | m+1=>QH (qL m)
def afm (n:Nat) (a0:zj) (a1:Int) (a2:Int):Option (Int):=qL n n a0 a1 a2
def aaT (n:Nat) (a0:zj):Option (Bool):=at1 n fun n=>
  (afm n a0 1 400).bind fun x1=>some (decide (x1≥0))
def aaq (n:Nat) (a0:zj):Option (Bool):=at1 n fun n=>
  (aaT n a0).bind fun x1=>some (!x1)
def zH (n:Nat) (a0:(Option (List zc))) (k3:(Unit→Option (Int))):Nat→Int→Option (Int)
  | 0,_=>none
  | m6+1,y5=>bif (decide (y5 < ((sll a0).length:Int))) then (idx (sll a0) y5).bind fun x8=>(aaq n (zj.mk ((za x8).fKind) ((za x8).fRel) ((za x8).fCol) (zi.mk (((za x8).fConst).fKind) (((za x8).fConst).fInt) (((za x8).fConst).fFloat) (((za x8).fConst).fText)) ((za x8).fKids))).bind fun x10=>bif x10 then some y5 else zH n a0 k3 m6 (IntKind.wrap .i64 (y5+1)) else k3 ()
def ZS (n:Nat) (a0:(Option (List zc))):Option (Int):=at1 n fun n=>
  zK (fun k3=>zH n a0 k3 n 0) (fun (_:Unit)=>some (-1))
def Zc (n:Nat) (a0:(Option (List zc))):Option (Bool):=at1 n fun n=>
  (ZS n a0).bind fun x1=>some (decide (x1≥0))
def aa9 (n:Nat) (a0:zr):Option (Bool):=at1 n fun n=>
  bif ((decide (a0.fKind < 1)) || (decide (a0.fKind > 4))) then some true else (aaT n a0.fOf).bind fun x2=>some (!x2)
def zJ (n:Nat) (a0:(Option (List zr))) (k3:(Unit→Option (Int))):Nat→Int→Option (Int)
  | 0,_=>none
  | m6+1,y5=>bif (decide (y5 < ((sll a0).length:Int))) then (idx (sll a0) y5).bind fun x8=>(aa9 n x8).bind fun x10=>bif x10 then some y5 else zJ n a0 k3 m6 (IntKind.wrap .i64 (y5+1)) else k3 ()
def ZZ (n:Nat) (a0:(Option (List zr))):Option (Int):=at1 n fun n=>
  zK (fun k3=>zJ n a0 k3 n 0) (fun (_:Unit)=>some (-1))
def Zg (n:Nat) (a0:(Option (List zr))):Option (Bool):=at1 n fun n=>
  (ZZ n a0).bind fun x1=>some (decide (x1≥0))
def ab3 (n:Nat) (a0:zt):Option (Bool):=at1 n fun n=>
  some ((decide (a0.fOut < 0)) || (decide (a0.fOut > 29)))
def zI (n:Nat) (a0:(Option (List zt))) (k3:(Unit→Option (Int))):Nat→Int→Option (Int)
  | 0,_=>none
  | m6+1,y5=>bif (decide (y5 < ((sll a0).length:Int))) then (idx (sll a0) y5).bind fun x8=>(ab3 n x8).bind fun x10=>bif x10 then some y5 else zI n a0 k3 m6 (IntKind.wrap .i64 (y5+1)) else k3 ()
def Z0 (n:Nat) (a0:(Option (List zt))):Option (Int):=at1 n fun n=>
  zK (fun k3=>zI n a0 k3 n 0) (fun (_:Unit)=>some (-1))
def Zf (n:Nat) (a0:(Option (List zt))):Option (Bool):=at1 n fun n=>
  (Z0 n a0).bind fun x1=>some (decide (x1≥0))
def qm (n:Nat) (a0:zk) (k3:(Unit→Option (Bool))):Nat→Int→Option (Bool)
  | 0,_=>none
  | m14+1,y13=>bif (decide (y13 < 4)) then (idx ([a0.fWhere,a0.fLeft,a0.fRight,a0.fOut]:List (Option (List zc))) y13).bind fun x16=>bif (decide (((sll x16).length:Int) > 60)) then some false else (Zc n x16).bind fun x19=>bif x19 then some false else qm n a0 k3 m14 (IntKind.wrap .i64 (y13+1)) else k3 ()
def acd (n:Nat) (a0:zk):Option (Bool):=at1 n fun n=>
  zK (fun k3=>qm n a0 k3 n 0) (fun (_:Unit)=>bif (decide (((sll a0.fAggs).length:Int) > 60)) then some false else (Zg n a0.fAggs).bind fun x5=>bif x5 then some false else bif (decide (((sll a0.fOrder).length:Int) > 60)) then some false else (Zf n a0.fOrder).bind fun x9=>bif x9 then some false else some (((decide (a0.fRel≥0)) && (decide (a0.fRel < 12))) && ((a0.fKind == 1) || (a0.fRel == 0))))
def QZ (n:Nat) (rc_plan_count:(Nat→zk→Int→Int→Option (Int))) (a0:zk) (a1:Int) (k15:(Int→Option (Int))):Nat→Int→Int→Option (Int)
  | 0,_,_=>none
  | m20+1,y18,y19=>bif (decide (y19 < ((sll a0.fKids).length:Int))) then (idx (sll a0.fKids) y19).bind fun x22=>(rc_plan_count n (zd x22) (IntKind.wrap .i64 (a1+1)) y18).bind fun x24=>bif (decide (x24 < 0)) then some (-1) else QZ n rc_plan_count a0 a1 k15 m20 x24 (IntKind.wrap .i64 (y19+1)) else k15 y18
def QK (rc_plan_count:(Nat→zk→Int→Int→Option (Int))) (n:Nat) (a0:zk) (a1:Int) (a2:Int):Option (Int):=at1 n fun n=>
  bif (decide (a1 > 24)) then some (-1) else bif (decide (a2 < 1)) then some (-1) else (ade n a0.fKind).bind fun x3=>bif (x3 != ((sll a0.fKids).length:Int)) then some (-1) else (acf n (zk.mk a0.fKind a0.fRel a0.fWhere a0.fLeft a0.fRight a0.fOut a0.fAggs a0.fOrder a0.fKids)).bind fun x6=>bif (!x6) then some (-1) else (acd n a0).bind fun x9=>bif (!x9) then some (-1) else zK (fun k15=>QZ n rc_plan_count a0 a1 k15 n (IntKind.wrap .i64 (a2 - 1)) 0) (fun (y12:Int)=>some y12)
def qK:Nat→Nat→zk→Int→Int→Option (Int)
  | 0=>fun _ _ _ _=>none
  | m+1=>QK (qK m)
def ae9 (n:Nat) (a0:zk) (a1:Int) (a2:Int):Option (Int):=qK n n a0 a1 a2
def abJ (n:Nat) (a0:zk):Option (Bool):=at1 n fun n=>
  (ae9 n a0 1 40).bind fun x1=>some (decide (x1≥0))
def ace (n:Nat) (a0:Int):Option (Int):=at1 n fun n=>
  bif (a0 == 1) then some 0 else zK (fun k3=>bif (a0 == 2) then k3 (a0 == 2) else bif (a0 == 3) then k3 (a0 == 3) else k3 (a0 == 4)) (fun (y2:Bool)=>bif y2 then some 2 else bif (a0 == 5) then bif (a0 == 5) then some 1 else some (-1) else bif (a0 == 6) then bif (a0 == 6) then some 1 else some (-1) else bif (a0 == 7) then some 1 else some (-1))
def acm (n:Nat) (a0:Int):Option (Int):=at1 n fun n=>
  bif ((decide (a0 < 1)) || (decide (a0 > 13))) then some (-1) else (ckI 14 a0).bind fun _=>some ((fun i=>([0,0,0,2,2,2,1,2,2,2,2,2,1,1]:List Int).getD i 0) (Int.toNat a0))
def Qt (n:Nat) (rc_ref22_parts:(Nat→zj→Int→Option (Int))) (a0:zj) (a1:Int) (k9:(Int→Option (Int))):Nat→Int→Int→Option (Int)
  | 0,_,_=>none
  | m14+1,y12,y13=>bif (decide (y13 < ((sll a0.fKids).length:Int))) then (idx (sll a0.fKids) y13).bind fun x16=>(rc_ref22_parts n (zj.mk ((za x16).fKind) ((za x16).fRel) ((za x16).fCol) (zi.mk (((za x16).fConst).fKind) (((za x16).fConst).fInt) (((za x16).fConst).fFloat) (((za x16).fConst).fText)) ((za x16).fKids)) (IntKind.wrap .i64 (a1+1))).bind fun x18=>bif (decide ((IntKind.wrap .i64 (y12+x18)) > 400)) then some 401 else Qt n rc_ref22_parts a0 a1 k9 m14 (IntKind.wrap .i64 (y12+x18)) (IntKind.wrap .i64 (y13+1)) else k9 y12
def Qk (rc_ref22_parts:(Nat→zj→Int→Option (Int))) (n:Nat) (a0:zj) (a1:Int):Option (Int):=at1 n fun n=>
  zK (fun k2=>bif (decide (a1 > 24)) then some 401 else (acm n a0.fKind).bind fun x22=>bif (x22 != ((sll a0.fKids).length:Int)) then some 401 else bif (decide (a0.fRel < 0)) then some 401 else bif (decide (a0.fRel > 31)) then some 401 else bif (decide (a0.fCol < 0)) then some 401 else bif (decide (a0.fCol > 31)) then some 401 else bif (a0.fKind != 1) then bif (a0.fRel != 0) then some 401 else bif (a0.fCol != 0) then some 401 else k2 () else k2 ()) (fun (_:Unit)=>(aal n a0.fConst).bind fun x3=>bif ((!x3) || ((a0.fKind != 2) && (a0.fConst.fKind != 0))) then some 401 else zK (fun k9=>Qt n rc_ref22_parts a0 a1 k9 n 1 0) (fun (y6:Int)=>some y6))
def ql:Nat→Nat→zj→Int→Option (Int)
  | 0=>fun _ _ _=>none
  | m+1=>Qk (ql m)
def aeC (n:Nat) (a0:zj) (a1:Int):Option (Int):=ql n n a0 a1
def QJ (n:Nat) (a0:zj):Option (Bool):=at1 n fun n=>
  (aeC n a0 1).bind fun x1=>some (decide (x1≤400))
def qV (n:Nat) (a0:(Option (List zc))) (k4:(Unit→Option (Bool))):Nat→Int→Option (Bool)
  | 0,_=>none
  | m7+1,y6=>bif (decide (y6 < ((sll a0).length:Int))) then (idx (sll a0) y6).bind fun x9=>(QJ n (zj.mk ((za x9).fKind) ((za x9).fRel) ((za x9).fCol) (zi.mk (((za x9).fConst).fKind) (((za x9).fConst).fInt) (((za x9).fConst).fFloat) (((za x9).fConst).fText)) ((za x9).fKids))).bind fun x11=>bif (!x11) then some false else qV n a0 k4 m7 (IntKind.wrap .i64 (y6+1)) else k4 ()
def Qf (n:Nat) (a0:(Option (List zc))):Option (Bool):=at1 n fun n=>
  bif (decide (((sll a0).length:Int) > 60)) then some false else zK (fun k4=>qV n a0 k4 n 0) (fun (_:Unit)=>some true)
def ZX (n:Nat) (a0:zk) (k20:(Unit→Option (Bool))):Nat→Int→Option (Bool)
  | 0,_=>none
  | m25+1,y24=>bif (decide (y24 < ((sll a0.fOrder).length:Int))) then (idx (sll a0.fOrder) y24).bind fun x27=>bif ((decide (x27.fOut < 0)) || (decide (x27.fOut > 29))) then some false else ZX n a0 k20 m25 (IntKind.wrap .i64 (y24+1)) else k20 ()
def qo (n:Nat) (a0:zk) (k17:(Unit→Option (Bool))):Nat→Int→Option (Bool)
  | 0,_=>none
  | m32+1,y31=>bif (decide (y31 < ((sll a0.fAggs).length:Int))) then (idx (sll a0.fAggs) y31).bind fun x34=>bif ((decide (x34.fKind < 1)) || (decide (x34.fKind > 4))) then some false else (QJ n x34.fOf).bind fun x37=>bif (!x37) then some false else qo n a0 k17 m32 (IntKind.wrap .i64 (y31+1)) else k17 ()
def acs (n:Nat) (a0:zk):Option (Bool):=at1 n fun n=>
  zK (fun k2=>(ace n a0.fKind).bind fun x40=>bif (x40 != ((sll a0.fKids).length:Int)) then some false else bif (decide (a0.fRel < 0)) then some false else bif (decide (a0.fRel≥12)) then some false else bif (a0.fRel != 0) then bif (a0.fKind != 1) then some false else k2 () else k2 ()) (fun (_:Unit)=>(Qf n a0.fWhere).bind fun x3=>bif (!x3) then some false else (Qf n a0.fLeft).bind fun x6=>bif (!x6) then some false else (Qf n a0.fRight).bind fun x9=>bif (!x9) then some false else (Qf n a0.fOut).bind fun x12=>bif (((!x12) || (decide (((sll a0.fAggs).length:Int) > 60))) || (decide (((sll a0.fOrder).length:Int) > 60))) then some false else zK (fun k17=>qo n a0 k17 n 0) (fun (_:Unit)=>zK (fun k20=>ZX n a0 k20 n 0) (fun (_:Unit)=>bif ((((decide (((sll a0.fWhere).length:Int) > 0)) && (decide (a0.fKind > 4))) || (((sll a0.fLeft).length:Int) != ((sll a0.fRight).length:Int))) || (!(((a0.fKind == 3) || (a0.fKind == 4)) == (decide (((sll a0.fLeft).length:Int) > 0))))) then some false else bif (((((decide (((sll a0.fOut).length:Int) > 0)) && (a0.fKind != 5)) && (a0.fKind != 6)) || ((a0.fKind == 6) && (((sll a0.fOut).length:Int) == 0))) || ((decide (((sll a0.fAggs).length:Int) > 0)) && (a0.fKind != 5))) then some false else some ((a0.fKind == 7) == (decide (((sll a0.fOrder).length:Int) > 0))))))
def aaj (n:Nat) (rc_ref25_count:(Nat→zk→Int→Option (Int))) (a0:zk) (a1:Int) (k8:(Int→Option (Int))):Nat→Int→Int→Option (Int)
  | 0,_,_=>none
  | m13+1,y11,y12=>bif (decide (y12 < ((sll a0.fKids).length:Int))) then (idx (sll a0.fKids) y12).bind fun x15=>(rc_ref25_count n (zd x15) (IntKind.wrap .i64 (a1+1))).bind fun x17=>bif (decide ((IntKind.wrap .i64 (y11+x17)) > 40)) then some 41 else aaj n rc_ref25_count a0 a1 k8 m13 (IntKind.wrap .i64 (y11+x17)) (IntKind.wrap .i64 (y12+1)) else k8 y11
def Qn (rc_ref25_count:(Nat→zk→Int→Option (Int))) (n:Nat) (a0:zk) (a1:Int):Option (Int):=at1 n fun n=>
  bif (decide (a1 > 24)) then some 41 else (acs n a0).bind fun x2=>bif (!x2) then some 41 else zK (fun k8=>aaj n rc_ref25_count a0 a1 k8 n 1 0) (fun (y6:Int)=>some y6)
def qE:Nat→Nat→zk→Int→Option (Int)
  | 0=>fun _ _ _=>none
  | m+1=>Qn (qE m)
def adO (n:Nat) (a0:zk) (a1:Int):Option (Int):=qE n n a0 a1
def abh (n:Nat) (a0:zk):Option (Bool):=at1 n fun n=>
  (adO n a0 1).bind fun x1=>some (decide (x1≤40))
def QE (n:Nat) (a0:Int) (a1:zk):Option (Int):=at1 n fun n=>
  bif (((a1.fKind == 1) && (decide (a1.fRel≥0))) && (decide (a1.fRel < 32))) then (ckN (IntKind.wrap .u64 a1.fRel)).bind fun _=>some (iOr .u32 a0 (iShl .u32 1 (IntKind.wrap .u64 a1.fRel))) else some a0
def Zl (n:Nat) (rc_plan_walk_plan_Rels_1:(Nat→Int→zk→Option (Int))) (a1:zk) (k4:(Int→Option (Int))):Nat→Int→Int→Option (Int)
  | 0,_,_=>none
  | m11+1,y9,y10=>bif (decide (y10 < ((sll a1.fKids).length:Int))) then (idx (sll a1.fKids) y10).bind fun x13=>(rc_plan_walk_plan_Rels_1 n y9 (zd x13)).bind fun x16=>Zl n rc_plan_walk_plan_Rels_1 a1 k4 m11 x16 (IntKind.wrap .i64 (y10+1)) else k4 y9
def qg (rc_plan_walk_plan_Rels_1:(Nat→Int→zk→Option (Int))) (n:Nat) (a0:Int) (a1:zk):Option (Int):=at1 n fun n=>
  zK (fun k4=>Zl n rc_plan_walk_plan_Rels_1 a1 k4 n a0 0) (fun (y1:Int)=>(QE n y1 a1).bind fun x6=>some x6)
def Z7:Nat→Nat→Int→zk→Option (Int)
  | 0=>fun _ _ _=>none
  | m+1=>qg (Z7 m)
def Q2 (n:Nat) (a0:Int) (a1:zk):Option (Int):=Z7 n n a0 a1
def adb (n:Nat) (a0:zk):Option (Int):=at1 n fun n=>
  (Q2 n 0 a0).bind fun x2=>some x2
def qG (n:Nat) (rc_ref25_Set:(Nat→zk→Option (Int))) (a0:zk) (k7:(Int→Option (Int))):Nat→Int→Int→Option (Int)
  | 0,_,_=>none
  | m12+1,y10,y11=>bif (decide (y11 < ((sll a0.fKids).length:Int))) then (idx (sll a0.fKids) y11).bind fun x14=>(rc_ref25_Set n (zd x14)).bind fun x16=>qG n rc_ref25_Set a0 k7 m12 (iOr .u32 y10 x16) (IntKind.wrap .i64 (y11+1)) else k7 y10
def abQ (rc_ref25_Set:(Nat→zk→Option (Int))) (n:Nat) (a0:zk):Option (Int):=at1 n fun n=>
  zK (fun k3=>bif (((a0.fKind == 1) && (decide (a0.fRel≥0))) && (decide (a0.fRel < 32))) then (ckN (IntKind.wrap .u64 a0.fRel)).bind fun _=>k3 (iShl .u32 1 (IntKind.wrap .u64 a0.fRel)) else k3 0) (fun (y2:Int)=>zK (fun k7=>qG n rc_ref25_Set a0 k7 n y2 0) (fun (y5:Int)=>some y5))
def aan:Nat→Nat→zk→Option (Int)
  | 0=>fun _ _=>none
  | m+1=>abQ (aan m)
def af1 (n:Nat) (a0:zk):Option (Int):=aan n n a0
def abq (n:Nat) (a0:Nat):Option (Bool):=at1 n fun n=>
  some ((FloatKind.format .f64).order a0 a0 != some .eq)
def aaX (n:Nat) (a0:zi):Option (zi):=at1 n fun n=>
  (aaQ n a0).bind fun x1=>bif (!x1) then some (zi.mk 0 0 0 ByteArray.empty) else zK (fun k5=>bif (a0.fKind == 3) then (abq n a0.fFloat).bind fun x9=>k5 x9 else k5 false) (fun (y4:Bool)=>bif y4 then some (zi.mk a0.fKind a0.fInt (Int.toNat 9221120237041090561) a0.fText) else bif ((a0.fKind == 3) && ((FloatKind.format .f64).order a0.fFloat 0 == some .eq)) then some (zi.mk a0.fKind a0.fInt 0 a0.fText) else some a0)
def aaH (n:Nat) (a0:Int):Option (Bool):=at1 n fun n=>
  some (a0 != a0)
def QO (n:Nat) (a0:Int) (a1:Int):Option (Int):=at1 n fun n=>
  (aaH n a0).bind fun x1=>(aaH n a1).bind fun x3=>bif x1 then bif x3 then some 0 else some (-1) else bif x3 then some 1 else bif (decide (a0 < a1)) then some (-1) else bif (decide (a0 > a1)) then some 1 else some 0
def abW (n:Nat) (a0:Nat) (a1:Nat):Option (Int):=at1 n fun n=>
  (abq n a0).bind fun x1=>(abq n a1).bind fun x3=>bif (x1 && x3) then some 0 else bif x1 then some 1 else bif x3 then some (-1) else bif ((FloatKind.format .f64).order a0 a1 == some .lt) then some (-1) else bif ((FloatKind.format .f64).order a0 a1 == some .gt) then some 1 else some 0
def Qq (n:Nat) (a0:ByteArray):Option (Bool):=at1 n fun n=>
  some (!(sEq a0 a0))
def Qc (n:Nat) (a0:ByteArray) (a1:ByteArray):Option (Int):=at1 n fun n=>
  (Qq n a0).bind fun x1=>(Qq n a1).bind fun x3=>bif x1 then bif x3 then some 0 else some (-1) else bif x3 then some 1 else bif (sLt a0 a1) then some (-1) else bif (!(sLt a0 a1 || sEq a0 a1)) then some 1 else some 0
def QS (n:Nat) (a0:Int):Option (Bool):=at1 n fun n=>
  some (a0 != a0)
def Qj (n:Nat) (a0:Int) (a1:Int):Option (Int):=at1 n fun n=>
  (QS n a0).bind fun x1=>(QS n a1).bind fun x3=>bif x1 then bif x3 then some 0 else some (-1) else bif x3 then some 1 else bif (decide (a0 < a1)) then some (-1) else bif (decide (a0 > a1)) then some 1 else some 0
def ac4 (n:Nat) (a0:zi) (a1:zi):Option (Int):=at1 n fun n=>
  (aaX n a0).bind fun x1=>(aaX n a1).bind fun x3=>bif (x1.fKind != x3.fKind) then (QO n x1.fKind x3.fKind).bind fun x6=>some x6 else bif (x1.fKind == 3) then (abW n x1.fFloat x3.fFloat).bind fun x9=>some x9 else bif (x1.fKind == 4) then (Qc n x1.fText x3.fText).bind fun x12=>some x12 else (Qj n x1.fInt x3.fInt).bind fun x14=>some x14
def aco (n:Nat) (a0:zi) (a1:zi):Option (Bool):=at1 n fun n=>
  (ac4 n a0 a1).bind fun x1=>some (x1 == 0)
def Qy (rc_slices_EqualFunc_Expr_expr_Same:(Nat→(Option (List zc))→(Option (List zc))→Option (Bool))) (n:Nat) (a0:zj) (a1:zj):Option (Bool):=at1 n fun n=>
  bif ((((a0.fKind == a1.fKind) && (a0.fRel == a1.fRel)) && (a0.fCol == a1.fCol)) && (a0.fConst.fKind == a1.fConst.fKind)) then (aco n a0.fConst a1.fConst).bind fun x2=>bif x2 then (rc_slices_EqualFunc_Expr_expr_Same n a0.fKids a1.fKids).bind fun x5=>some x5 else some false else some false
def zN (n:Nat) (rc_slices_EqualFunc_Expr_expr_Same:(Nat→(Option (List zc))→(Option (List zc))→Option (Bool))) (a0:(Option (List zc))) (a1:(Option (List zc))) (k4:(Unit→Option (Bool))):Nat→Int→Option (Bool)
  | 0,_=>none
  | m7+1,y6=>bif (decide (y6 < ((sll a0).length:Int))) then (idx (sll a0) y6).bind fun x9=>(idx (sll a1) y6).bind fun x11=>(Qy rc_slices_EqualFunc_Expr_expr_Same n (zj.mk ((za x9).fKind) ((za x9).fRel) ((za x9).fCol) (zi.mk (((za x9).fConst).fKind) (((za x9).fConst).fInt) (((za x9).fConst).fFloat) (((za x9).fConst).fText)) ((za x9).fKids)) (zj.mk ((za x11).fKind) ((za x11).fRel) ((za x11).fCol) (zi.mk (((za x11).fConst).fKind) (((za x11).fConst).fInt) (((za x11).fConst).fFloat) (((za x11).fConst).fText)) ((za x11).fKids))).bind fun x13=>bif (!x13) then some false else zN n rc_slices_EqualFunc_Expr_expr_Same a0 a1 k4 m7 (IntKind.wrap .i64 (y6+1)) else k4 ()
def Zz (rc_slices_EqualFunc_Expr_expr_Same:(Nat→(Option (List zc))→(Option (List zc))→Option (Bool))) (n:Nat) (a0:(Option (List zc))) (a1:(Option (List zc))):Option (Bool):=at1 n fun n=>
  bif (((sll a0).length:Int) != ((sll a1).length:Int)) then some false else zK (fun k4=>zN n rc_slices_EqualFunc_Expr_expr_Same a0 a1 k4 n 0) (fun (_:Unit)=>some true)
def zU:Nat→Nat→(Option (List zc))→(Option (List zc))→Option (Bool)
  | 0=>fun _ _ _=>none
  | m+1=>Zz (zU m)
def zX (n:Nat) (a0:(Option (List zc))) (a1:(Option (List zc))):Option (Bool):=zU n n a0 a1
def aeL (n:Nat) (a0:zr) (a1:zr):Option (Bool):=at1 n fun n=>
  bif (a0.fKind == a1.fKind) then (Qy zX n a0.fOf a1.fOf).bind fun x2=>some x2 else some false
def zP (n:Nat) (a0:(Option (List zr))) (a1:(Option (List zr))) (k4:(Unit→Option (Bool))):Nat→Int→Option (Bool)
  | 0,_=>none
  | m7+1,y6=>bif (decide (y6 < ((sll a0).length:Int))) then (idx (sll a0) y6).bind fun x9=>(idx (sll a1) y6).bind fun x11=>(aeL n x9 x11).bind fun x13=>bif (!x13) then some false else zP n a0 a1 k4 m7 (IntKind.wrap .i64 (y6+1)) else k4 ()
def ZM (n:Nat) (a0:(Option (List zr))) (a1:(Option (List zr))):Option (Bool):=at1 n fun n=>
  bif (((sll a0).length:Int) != ((sll a1).length:Int)) then some false else zK (fun k4=>zP n a0 a1 k4 n 0) (fun (_:Unit)=>some true)
def ZI (n:Nat) (a0:(Option (List zt))) (a1:(Option (List zt))) (k4:(Unit→Option (Bool))):Nat→Int→Option (Bool)
  | 0,_=>none
  | m7+1,y6=>bif (decide (y6 < ((sll a0).length:Int))) then (idx (sll a0) y6).bind fun x9=>(idx (sll a1) y6).bind fun x11=>bif (!((x9.fOut == x11.fOut) && ((x9.fDesc == x11.fDesc) && true))) then some false else ZI n a0 a1 k4 m7 (IntKind.wrap .i64 (y6+1)) else k4 ()
def Qr (n:Nat) (a0:(Option (List zt))) (a1:(Option (List zt))):Option (Bool):=at1 n fun n=>
  bif (((sll a0).length:Int) != ((sll a1).length:Int)) then some false else zK (fun k4=>ZI n a0 a1 k4 n 0) (fun (_:Unit)=>some true)
def zM (n:Nat) (rc_plan_Same:(Nat→zk→zk→Option (Bool))) (a0:(Option (List zm))) (a1:(Option (List zm))) (k4:(Unit→Option (Bool))):Nat→Int→Option (Bool)
  | 0,_=>none
  | m7+1,y6=>bif (decide (y6 < ((sll a0).length:Int))) then (idx (sll a0) y6).bind fun x9=>(idx (sll a1) y6).bind fun x11=>(rc_plan_Same n (zd x9) (zd x11)).bind fun x13=>bif (!x13) then some false else zM n rc_plan_Same a0 a1 k4 m7 (IntKind.wrap .i64 (y6+1)) else k4 ()
def ZH (rc_plan_Same:(Nat→zk→zk→Option (Bool))) (n:Nat) (a0:(Option (List zm))) (a1:(Option (List zm))):Option (Bool):=at1 n fun n=>
  bif (((sll a0).length:Int) != ((sll a1).length:Int)) then some false else zK (fun k4=>zM n rc_plan_Same a0 a1 k4 n 0) (fun (_:Unit)=>some true)
def abD (rc_plan_Same:(Nat→zk→zk→Option (Bool))) (n:Nat) (a0:zk) (a1:zk):Option (Bool):=at1 n fun n=>
  bif ((a0.fKind == a1.fKind) && (a0.fRel == a1.fRel)) then (zX n a0.fWhere a1.fWhere).bind fun x2=>bif x2 then (zX n a0.fLeft a1.fLeft).bind fun x5=>bif x5 then (zX n a0.fRight a1.fRight).bind fun x8=>bif x8 then (zX n a0.fOut a1.fOut).bind fun x11=>bif x11 then (ZM n a0.fAggs a1.fAggs).bind fun x14=>bif x14 then (Qr n a0.fOrder a1.fOrder).bind fun x17=>bif x17 then (ZH rc_plan_Same n a0.fKids a1.fKids).bind fun x20=>some x20 else some false else some false else some false else some false else some false else some false else some false
def aac:Nat→Nat→zk→zk→Option (Bool)
  | 0=>fun _ _ _=>none
  | m+1=>abD (aac m)
def adg (n:Nat) (a0:zk) (a1:zk):Option (Bool):=aac n n a0 a1
def aam (n:Nat) (a0:(Option (List zc))) (a1:(Option (List zc))):Option (Bool):=at1 n fun n=>
  (aae n (Zo.mk none none false a0 none none) (Zo.mk none none false a1 none none)).bind fun x1=>some x1
def qn (n:Nat) (rc_ref25_Same:(Nat→zk→zk→Option (Bool))) (a0:zk) (a1:zk) (k16:(Unit→Option (Bool))):Nat→Int→Option (Bool)
  | 0,_=>none
  | m19+1,y18=>bif (decide (y18 < ((sll a0.fKids).length:Int))) then (idx (sll a0.fKids) y18).bind fun x21=>(idx (sll a1.fKids) y18).bind fun x23=>(rc_ref25_Same n (zd x21) (zd x23)).bind fun x25=>bif (!x25) then some false else qn n rc_ref25_Same a0 a1 k16 m19 (IntKind.wrap .i64 (y18+1)) else k16 ()
def abc (rc_ref25_Same:(Nat→zk→zk→Option (Bool))) (n:Nat) (a0:zk) (a1:zk):Option (Bool):=at1 n fun n=>
  bif (((a0.fKind != a1.fKind) || (a0.fRel != a1.fRel)) || (((sll a0.fKids).length:Int) != ((sll a1.fKids).length:Int))) then some false else (aam n a0.fWhere a1.fWhere).bind fun x2=>bif (!x2) then some false else (aam n a0.fLeft a1.fLeft).bind fun x5=>bif (!x5) then some false else (aam n a0.fRight a1.fRight).bind fun x8=>bif (!x8) then some false else (aae n (Zo.mk none none false a0.fOut a0.fAggs a0.fOrder) (Zo.mk none none false a1.fOut a1.fAggs a1.fOrder)).bind fun x11=>bif (!x11) then some false else zK (fun k16=>qn n rc_ref25_Same a0 a1 k16 n 0) (fun (_:Unit)=>some true)
def QM:Nat→Nat→zk→zk→Option (Bool)
  | 0=>fun _ _ _=>none
  | m+1=>abc (QM m)
def qz (n:Nat) (a0:zk) (a1:zk):Option (Bool):=QM n n a0 a1
def Zu (n:Nat) (a0:(Option (List zc))) (k4:((Option (List zc))→Option ((Option (List zc))))):Nat→(Option (List zc))→Int→Option ((Option (List zc)))
  | 0,_,_=>none
  | m10+1,none,y9=>bif (decide (y9 < ((sll a0).length:Int))) then (idx (sll a0) y9).bind fun x12=>(Zm n (zj.mk ((za x12).fKind) ((za x12).fRel) ((za x12).fCol) (zi.mk (((za x12).fConst).fKind) (((za x12).fConst).fInt) (((za x12).fConst).fFloat) (((za x12).fConst).fText)) ((za x12).fKids))).bind fun x14=>(ckA 88 ([(zf x14)]:List zc).length).bind fun _=>Zu n a0 k4 m10 (some ([(zf x14)]:List zc)) (IntKind.wrap .i64 (y9+1)) else k4 none
  | m10+1,(some y8),y9=>bif (decide (y9 < ((sll a0).length:Int))) then (idx (sll a0) y9).bind fun x18=>(Zm n (zj.mk ((za x18).fKind) ((za x18).fRel) ((za x18).fCol) (zi.mk (((za x18).fConst).fKind) (((za x18).fConst).fInt) (((za x18).fConst).fFloat) (((za x18).fConst).fText)) ((za x18).fKids))).bind fun x20=>(ckA 88 (y8++([(zf x20)]:List zc)).length).bind fun _=>Zu n a0 k4 m10 (some (y8++([(zf x20)]:List zc))) (IntKind.wrap .i64 (y9+1)) else k4 (some y8)
def QB (n:Nat) (a0:(Option (List zc))):Option ((Option (List zc))):=at1 n fun n=>
  zK (fun (k4:(Option (List zc))→Option ((Option (List zc))))=>Zu n a0 k4 n none 0) (fun | none=>some none | (some y3)=>some (some y3))
def Qw (n:Nat) (a0:(Option (List zt))):Option ((Option (List zt))):=at1 n fun n=>
  bif (a0.isNone) then some none else bif (sll a0).isEmpty then (ckA 16 ([]:List zt).length).bind fun _=>some (some ([]:List zt)) else (ckA 16 (([]:List zt)++(sll a0)).length).bind fun _=>some (some (([]:List zt)++(sll a0)))
def zY (n:Nat) (rc_plan_Copy:(Nat→zk→Option (((Option (List zc)) × (Option (List zc)) × (Option (List zc)) × (Option (List zc)) × (Option (List zt))) ⊕ ((Option (List zc)) × (Option (List zc)) × (Option (List zc)) × (Option (List zc)) × (Option (List zt)) × (List zm)) ⊕ ((Option (List zc)) × (Option (List zc)) × (Option (List zc)) × (Option (List zc)) × (List zr) × (Option (List zt))) ⊕ ((Option (List zc)) × (Option (List zc)) × (Option (List zc)) × (Option (List zc)) × (List zr) × (Option (List zt)) × (List zm))))) (a0:zk) (k18:((Option (List zm))→Option (((Option (List zc)) × (Option (List zc)) × (Option (List zc)) × (Option (List zc)) × (Option (List zt))) ⊕ ((Option (List zc)) × (Option (List zc)) × (Option (List zc)) × (Option (List zc)) × (Option (List zt)) × (List zm)) ⊕ ((Option (List zc)) × (Option (List zc)) × (Option (List zc)) × (Option (List zc)) × (List zr) × (Option (List zt))) ⊕ ((Option (List zc)) × (Option (List zc)) × (Option (List zc)) × (Option (List zc)) × (List zr) × (Option (List zt)) × (List zm))))):Nat→(Option (List zm))→Int→Option (((Option (List zc)) × (Option (List zc)) × (Option (List zc)) × (Option (List zc)) × (Option (List zt))) ⊕ ((Option (List zc)) × (Option (List zc)) × (Option (List zc)) × (Option (List zc)) × (Option (List zt)) × (List zm)) ⊕ ((Option (List zc)) × (Option (List zc)) × (Option (List zc)) × (Option (List zc)) × (List zr) × (Option (List zt))) ⊕ ((Option (List zc)) × (Option (List zc)) × (Option (List zc)) × (Option (List zc)) × (List zr) × (Option (List zt)) × (List zm)))
  | 0,_,_=>none
  | m24+1,none,y23=>bif (decide (y23 < ((sll a0.fKids).length:Int))) then (idx (sll a0.fKids) y23).bind fun x26=>(rc_plan_Copy n (zd x26)).bind (fun | .inl (x30,x31,x32,x33,x34)=>(ckA 184 ([(zl (zk.mk ((zd x26).fKind) ((zd x26).fRel) x30 x31 x32 x33 none x34 none))]:List zm).length).bind fun _=>zY n rc_plan_Copy a0 k18 m24 (some ([(zl (zk.mk ((zd x26).fKind) ((zd x26).fRel) x30 x31 x32 x33 none x34 none))]:List zm)) (IntKind.wrap .i64 (y23+1)) | .inr (.inl (x35,x36,x37,x38,x39,x40))=>(ckA 184 ([(zl (zk.mk ((zd x26).fKind) ((zd x26).fRel) x35 x36 x37 x38 none x39 (some x40)))]:List zm).length).bind fun _=>zY n rc_plan_Copy a0 k18 m24 (some ([(zl (zk.mk ((zd x26).fKind) ((zd x26).fRel) x35 x36 x37 x38 none x39 (some x40)))]:List zm)) (IntKind.wrap .i64 (y23+1)) | .inr (.inr (.inl (x41,x42,x43,x44,x45,x46)))=>(ckA 184 ([(zl (zk.mk ((zd x26).fKind) ((zd x26).fRel) x41 x42 x43 x44 (some x45) x46 none))]:List zm).length).bind fun _=>zY n rc_plan_Copy a0 k18 m24 (some ([(zl (zk.mk ((zd x26).fKind) ((zd x26).fRel) x41 x42 x43 x44 (some x45) x46 none))]:List zm)) (IntKind.wrap .i64 (y23+1)) | .inr (.inr (.inr ((x47,x48,x49,x50,x51,x52,x53))))=>(ckA 184 ([(zl (zk.mk ((zd x26).fKind) ((zd x26).fRel) x47 x48 x49 x50 (some x51) x52 (some x53)))]:List zm).length).bind fun _=>zY n rc_plan_Copy a0 k18 m24 (some ([(zl (zk.mk ((zd x26).fKind) ((zd x26).fRel) x47 x48 x49 x50 (some x51) x52 (some x53)))]:List zm)) (IntKind.wrap .i64 (y23+1))) else k18 none
  | m24+1,(some y22),y23=>bif (decide (y23 < ((sll a0.fKids).length:Int))) then (idx (sll a0.fKids) y23).bind fun x59=>(rc_plan_Copy n (zd x59)).bind (fun | .inl (x63,x64,x65,x66,x67)=>(ckA 184 (y22++([(zl (zk.mk ((zd x59).fKind) ((zd x59).fRel) x63 x64 x65 x66 none x67 none))]:List zm)).length).bind fun _=>zY n rc_plan_Copy a0 k18 m24 (some (y22++([(zl (zk.mk ((zd x59).fKind) ((zd x59).fRel) x63 x64 x65 x66 none x67 none))]:List zm))) (IntKind.wrap .i64 (y23+1)) | .inr (.inl (x68,x69,x70,x71,x72,x73))=>(ckA 184 (y22++([(zl (zk.mk ((zd x59).fKind) ((zd x59).fRel) x68 x69 x70 x71 none x72 (some x73)))]:List zm)).length).bind fun _=>zY n rc_plan_Copy a0 k18 m24 (some (y22++([(zl (zk.mk ((zd x59).fKind) ((zd x59).fRel) x68 x69 x70 x71 none x72 (some x73)))]:List zm))) (IntKind.wrap .i64 (y23+1)) | .inr (.inr (.inl (x74,x75,x76,x77,x78,x79)))=>(ckA 184 (y22++([(zl (zk.mk ((zd x59).fKind) ((zd x59).fRel) x74 x75 x76 x77 (some x78) x79 none))]:List zm)).length).bind fun _=>zY n rc_plan_Copy a0 k18 m24 (some (y22++([(zl (zk.mk ((zd x59).fKind) ((zd x59).fRel) x74 x75 x76 x77 (some x78) x79 none))]:List zm))) (IntKind.wrap .i64 (y23+1)) | .inr (.inr (.inr ((x80,x81,x82,x83,x84,x85,x86))))=>(ckA 184 (y22++([(zl (zk.mk ((zd x59).fKind) ((zd x59).fRel) x80 x81 x82 x83 (some x84) x85 (some x86)))]:List zm)).length).bind fun _=>zY n rc_plan_Copy a0 k18 m24 (some (y22++([(zl (zk.mk ((zd x59).fKind) ((zd x59).fRel) x80 x81 x82 x83 (some x84) x85 (some x86)))]:List zm))) (IntKind.wrap .i64 (y23+1))) else k18 (some y22)
def zR (n:Nat) (rc_plan_Copy:(Nat→zk→Option (((Option (List zc)) × (Option (List zc)) × (Option (List zc)) × (Option (List zc)) × (Option (List zt))) ⊕ ((Option (List zc)) × (Option (List zc)) × (Option (List zc)) × (Option (List zc)) × (Option (List zt)) × (List zm)) ⊕ ((Option (List zc)) × (Option (List zc)) × (Option (List zc)) × (Option (List zc)) × (List zr) × (Option (List zt))) ⊕ ((Option (List zc)) × (Option (List zc)) × (Option (List zc)) × (Option (List zc)) × (List zr) × (Option (List zt)) × (List zm))))) (a0:zk) (k94:((Option (List zm))→Option (((Option (List zc)) × (Option (List zc)) × (Option (List zc)) × (Option (List zc)) × (Option (List zt))) ⊕ ((Option (List zc)) × (Option (List zc)) × (Option (List zc)) × (Option (List zc)) × (Option (List zt)) × (List zm)) ⊕ ((Option (List zc)) × (Option (List zc)) × (Option (List zc)) × (Option (List zc)) × (List zr) × (Option (List zt))) ⊕ ((Option (List zc)) × (Option (List zc)) × (Option (List zc)) × (Option (List zc)) × (List zr) × (Option (List zt)) × (List zm))))):Nat→(Option (List zm))→Int→Option (((Option (List zc)) × (Option (List zc)) × (Option (List zc)) × (Option (List zc)) × (Option (List zt))) ⊕ ((Option (List zc)) × (Option (List zc)) × (Option (List zc)) × (Option (List zc)) × (Option (List zt)) × (List zm)) ⊕ ((Option (List zc)) × (Option (List zc)) × (Option (List zc)) × (Option (List zc)) × (List zr) × (Option (List zt))) ⊕ ((Option (List zc)) × (Option (List zc)) × (Option (List zc)) × (Option (List zc)) × (List zr) × (Option (List zt)) × (List zm)))
  | 0,_,_=>none
  | m100+1,none,y99=>bif (decide (y99 < ((sll a0.fKids).length:Int))) then (idx (sll a0.fKids) y99).bind fun x102=>(rc_plan_Copy n (zd x102)).bind (fun | .inl (x106,x107,x108,x109,x110)=>(ckA 184 ([(zl (zk.mk ((zd x102).fKind) ((zd x102).fRel) x106 x107 x108 x109 none x110 none))]:List zm).length).bind fun _=>zR n rc_plan_Copy a0 k94 m100 (some ([(zl (zk.mk ((zd x102).fKind) ((zd x102).fRel) x106 x107 x108 x109 none x110 none))]:List zm)) (IntKind.wrap .i64 (y99+1)) | .inr (.inl (x111,x112,x113,x114,x115,x116))=>(ckA 184 ([(zl (zk.mk ((zd x102).fKind) ((zd x102).fRel) x111 x112 x113 x114 none x115 (some x116)))]:List zm).length).bind fun _=>zR n rc_plan_Copy a0 k94 m100 (some ([(zl (zk.mk ((zd x102).fKind) ((zd x102).fRel) x111 x112 x113 x114 none x115 (some x116)))]:List zm)) (IntKind.wrap .i64 (y99+1)) | .inr (.inr (.inl (x117,x118,x119,x120,x121,x122)))=>(ckA 184 ([(zl (zk.mk ((zd x102).fKind) ((zd x102).fRel) x117 x118 x119 x120 (some x121) x122 none))]:List zm).length).bind fun _=>zR n rc_plan_Copy a0 k94 m100 (some ([(zl (zk.mk ((zd x102).fKind) ((zd x102).fRel) x117 x118 x119 x120 (some x121) x122 none))]:List zm)) (IntKind.wrap .i64 (y99+1)) | .inr (.inr (.inr ((x123,x124,x125,x126,x127,x128,x129))))=>(ckA 184 ([(zl (zk.mk ((zd x102).fKind) ((zd x102).fRel) x123 x124 x125 x126 (some x127) x128 (some x129)))]:List zm).length).bind fun _=>zR n rc_plan_Copy a0 k94 m100 (some ([(zl (zk.mk ((zd x102).fKind) ((zd x102).fRel) x123 x124 x125 x126 (some x127) x128 (some x129)))]:List zm)) (IntKind.wrap .i64 (y99+1))) else k94 none
  | m100+1,(some y98),y99=>bif (decide (y99 < ((sll a0.fKids).length:Int))) then (idx (sll a0.fKids) y99).bind fun x135=>(rc_plan_Copy n (zd x135)).bind (fun | .inl (x139,x140,x141,x142,x143)=>(ckA 184 (y98++([(zl (zk.mk ((zd x135).fKind) ((zd x135).fRel) x139 x140 x141 x142 none x143 none))]:List zm)).length).bind fun _=>zR n rc_plan_Copy a0 k94 m100 (some (y98++([(zl (zk.mk ((zd x135).fKind) ((zd x135).fRel) x139 x140 x141 x142 none x143 none))]:List zm))) (IntKind.wrap .i64 (y99+1)) | .inr (.inl (x144,x145,x146,x147,x148,x149))=>(ckA 184 (y98++([(zl (zk.mk ((zd x135).fKind) ((zd x135).fRel) x144 x145 x146 x147 none x148 (some x149)))]:List zm)).length).bind fun _=>zR n rc_plan_Copy a0 k94 m100 (some (y98++([(zl (zk.mk ((zd x135).fKind) ((zd x135).fRel) x144 x145 x146 x147 none x148 (some x149)))]:List zm))) (IntKind.wrap .i64 (y99+1)) | .inr (.inr (.inl (x150,x151,x152,x153,x154,x155)))=>(ckA 184 (y98++([(zl (zk.mk ((zd x135).fKind) ((zd x135).fRel) x150 x151 x152 x153 (some x154) x155 none))]:List zm)).length).bind fun _=>zR n rc_plan_Copy a0 k94 m100 (some (y98++([(zl (zk.mk ((zd x135).fKind) ((zd x135).fRel) x150 x151 x152 x153 (some x154) x155 none))]:List zm))) (IntKind.wrap .i64 (y99+1)) | .inr (.inr (.inr ((x156,x157,x158,x159,x160,x161,x162))))=>(ckA 184 (y98++([(zl (zk.mk ((zd x135).fKind) ((zd x135).fRel) x156 x157 x158 x159 (some x160) x161 (some x162)))]:List zm)).length).bind fun _=>zR n rc_plan_Copy a0 k94 m100 (some (y98++([(zl (zk.mk ((zd x135).fKind) ((zd x135).fRel) x156 x157 x158 x159 (some x160) x161 (some x162)))]:List zm))) (IntKind.wrap .i64 (y99+1))) else k94 (some y98)
def ZJ (n:Nat) (a0:zk) (k14:((Option (List zr))→Option (((Option (List zc)) × (Option (List zc)) × (Option (List zc)) × (Option (List zc)) × (Option (List zt))) ⊕ ((Option (List zc)) × (Option (List zc)) × (Option (List zc)) × (Option (List zc)) × (Option (List zt)) × (List zm)) ⊕ ((Option (List zc)) × (Option (List zc)) × (Option (List zc)) × (Option (List zc)) × (List zr) × (Option (List zt))) ⊕ ((Option (List zc)) × (Option (List zc)) × (Option (List zc)) × (Option (List zc)) × (List zr) × (Option (List zt)) × (List zm))))):Nat→(Option (List zr))→Int→Option (((Option (List zc)) × (Option (List zc)) × (Option (List zc)) × (Option (List zc)) × (Option (List zt))) ⊕ ((Option (List zc)) × (Option (List zc)) × (Option (List zc)) × (Option (List zc)) × (Option (List zt)) × (List zm)) ⊕ ((Option (List zc)) × (Option (List zc)) × (Option (List zc)) × (Option (List zc)) × (List zr) × (Option (List zt))) ⊕ ((Option (List zc)) × (Option (List zc)) × (Option (List zc)) × (Option (List zc)) × (List zr) × (Option (List zt)) × (List zm)))
  | 0,_,_=>none
  | m172+1,none,y171=>bif (decide (y171 < ((sll a0.fAggs).length:Int))) then (idx (sll a0.fAggs) y171).bind fun x174=>(Zm n x174.fOf).bind fun x176=>(ckA 96 ([(zr.mk x174.fKind x176)]:List zr).length).bind fun _=>ZJ n a0 k14 m172 (some ([(zr.mk x174.fKind x176)]:List zr)) (IntKind.wrap .i64 (y171+1)) else k14 none
  | m172+1,(some y170),y171=>bif (decide (y171 < ((sll a0.fAggs).length:Int))) then (idx (sll a0.fAggs) y171).bind fun x180=>(Zm n x180.fOf).bind fun x182=>(ckA 96 (y170++([(zr.mk x180.fKind x182)]:List zr)).length).bind fun _=>ZJ n a0 k14 m172 (some (y170++([(zr.mk x180.fKind x182)]:List zr))) (IntKind.wrap .i64 (y171+1)) else k14 (some y170)
def abG (rc_plan_Copy:(Nat→zk→Option (((Option (List zc)) × (Option (List zc)) × (Option (List zc)) × (Option (List zc)) × (Option (List zt))) ⊕ ((Option (List zc)) × (Option (List zc)) × (Option (List zc)) × (Option (List zc)) × (Option (List zt)) × (List zm)) ⊕ ((Option (List zc)) × (Option (List zc)) × (Option (List zc)) × (Option (List zc)) × (List zr) × (Option (List zt))) ⊕ ((Option (List zc)) × (Option (List zc)) × (Option (List zc)) × (Option (List zc)) × (List zr) × (Option (List zt)) × (List zm))))) (n:Nat) (a0:zk):Option (((Option (List zc)) × (Option (List zc)) × (Option (List zc)) × (Option (List zc)) × (Option (List zt))) ⊕ ((Option (List zc)) × (Option (List zc)) × (Option (List zc)) × (Option (List zc)) × (Option (List zt)) × (List zm)) ⊕ ((Option (List zc)) × (Option (List zc)) × (Option (List zc)) × (Option (List zc)) × (List zr) × (Option (List zt))) ⊕ ((Option (List zc)) × (Option (List zc)) × (Option (List zc)) × (Option (List zc)) × (List zr) × (Option (List zt)) × (List zm))):=at1 n fun n=>
  (QB n a0.fWhere).bind fun x1=>(QB n a0.fLeft).bind fun x3=>(QB n a0.fRight).bind fun x5=>(QB n a0.fOut).bind fun x7=>(Qw n a0.fOrder).bind fun x9=>zK (fun (k14:(Option (List zr))→Option (((Option (List zc)) × (Option (List zc)) × (Option (List zc)) × (Option (List zc)) × (Option (List zt))) ⊕ ((Option (List zc)) × (Option (List zc)) × (Option (List zc)) × (Option (List zc)) × (Option (List zt)) × (List zm)) ⊕ ((Option (List zc)) × (Option (List zc)) × (Option (List zc)) × (Option (List zc)) × (List zr) × (Option (List zt))) ⊕ ((Option (List zc)) × (Option (List zc)) × (Option (List zc)) × (Option (List zc)) × (List zr) × (Option (List zt)) × (List zm))))=>ZJ n a0 k14 n none 0) (fun | none=>zK (fun (k18:(Option (List zm))→Option (((Option (List zc)) × (Option (List zc)) × (Option (List zc)) × (Option (List zc)) × (Option (List zt))) ⊕ ((Option (List zc)) × (Option (List zc)) × (Option (List zc)) × (Option (List zc)) × (Option (List zt)) × (List zm)) ⊕ ((Option (List zc)) × (Option (List zc)) × (Option (List zc)) × (Option (List zc)) × (List zr) × (Option (List zt))) ⊕ ((Option (List zc)) × (Option (List zc)) × (Option (List zc)) × (Option (List zc)) × (List zr) × (Option (List zt)) × (List zm))))=>zY n rc_plan_Copy a0 k18 n none 0) (fun | none=>some (.inl (x1,x3,x5,x7,x9)) | (some y17)=>some (.inr (.inl (x1,x3,x5,x7,x9,y17)))) | (some y13)=>zK (fun (k94:(Option (List zm))→Option (((Option (List zc)) × (Option (List zc)) × (Option (List zc)) × (Option (List zc)) × (Option (List zt))) ⊕ ((Option (List zc)) × (Option (List zc)) × (Option (List zc)) × (Option (List zc)) × (Option (List zt)) × (List zm)) ⊕ ((Option (List zc)) × (Option (List zc)) × (Option (List zc)) × (Option (List zc)) × (List zr) × (Option (List zt))) ⊕ ((Option (List zc)) × (Option (List zc)) × (Option (List zc)) × (Option (List zc)) × (List zr) × (Option (List zt)) × (List zm))))=>zR n rc_plan_Copy a0 k94 n none 0) (fun | none=>some (.inr (.inr (.inl (x1,x3,x5,x7,y13,x9)))) | (some y93)=>some (.inr (.inr (.inr ((x1,x3,x5,x7,y13,x9,y93)))))))
def Z3:Nat→Nat→zk→Option (((Option (List zc)) × (Option (List zc)) × (Option (List zc)) × (Option (List zc)) × (Option (List zt))) ⊕ ((Option (List zc)) × (Option (List zc)) × (Option (List zc)) × (Option (List zc)) × (Option (List zt)) × (List zm)) ⊕ ((Option (List zc)) × (Option (List zc)) × (Option (List zc)) × (Option (List zc)) × (List zr) × (Option (List zt))) ⊕ ((Option (List zc)) × (Option (List zc)) × (Option (List zc)) × (Option (List zc)) × (List zr) × (Option (List zt)) × (List zm)))
  | 0=>fun _ _=>none
  | m+1=>abG (Z3 m)
def af3 (n:Nat) (a0:zk):Option (((Option (List zc)) × (Option (List zc)) × (Option (List zc)) × (Option (List zc)) × (Option (List zt))) ⊕ ((Option (List zc)) × (Option (List zc)) × (Option (List zc)) × (Option (List zc)) × (Option (List zt)) × (List zm)) ⊕ ((Option (List zc)) × (Option (List zc)) × (Option (List zc)) × (Option (List zc)) × (List zr) × (Option (List zt))) ⊕ ((Option (List zc)) × (Option (List zc)) × (Option (List zc)) × (Option (List zc)) × (List zr) × (Option (List zt)) × (List zm))):=Z3 n n a0
def qt (n:Nat) (a0:zk) (k50:(Unit→Option (Bool))):Nat→Int→Option (Bool)
  | 0,_=>none
  | m55+1,y54=>bif (decide (y54 < ((sll a0.fKids).length:Int))) then (idx (sll a0.fKids) y54).bind fun x57=>(idx ([]:List Int) y54).bind fun x59=>bif (((zd x57).fKind) != x59) then some false else qt n a0 k50 m55 (IntKind.wrap .i64 (y54+1)) else k50 ()
def qQ (n:Nat) (k47:(Unit→Option (Bool))):Nat→Option (Bool)
  | 0=>none
  | m62+1=>k47 ()
def Zn (n:Nat) (a0:zk) (y67:(List Int)) (k78:(Unit→Option (Bool))):Nat→Int→Option (Bool)
  | 0,_=>none
  | m83+1,y82=>bif (decide (y82 < ((sll a0.fKids).length:Int))) then (idx (sll a0.fKids) y82).bind fun x85=>(idx y67 y82).bind fun x87=>bif (((zd x85).fKind) != x87) then some false else Zn n a0 y67 k78 m83 (IntKind.wrap .i64 (y82+1)) else k78 ()
def ZR (n:Nat) (a0:zk) (y42:(List zm)) (k75:((List Int)→Option (Bool))):Nat→(List zm)→(List Int)→Int→Option (Bool)
  | 0,_,_,_=>none
  | m106+1,y98,y99,y100=>bif (decide (y100 < (y42.length:Int))) then (idx (sll a0.fKids) y100).bind fun x108=>(ckA 8 (y99++([(zd x108).fKind]:List Int)).length).bind fun _=>(idx y98 y100).bind fun x111=>ZR n a0 y42 k75 m106 (y98.set (Int.toNat y100) (zl (zk.mk (-5) ((zd x111).fRel) ((zd x111).fWhere) ((zd x111).fLeft) ((zd x111).fRight) ((zd x111).fOut) ((zd x111).fAggs) ((zd x111).fOrder) ((zd x111).fKids)))) (y99++([(zd x108).fKind]:List Int)) (IntKind.wrap .i64 (y100+1)) else k75 y99
def qd (n:Nat) (a0:zk) (k119:(Unit→Option (Bool))):Nat→Int→Option (Bool)
  | 0,_=>none
  | m124+1,y123=>bif (decide (y123 < ((sll a0.fKids).length:Int))) then (idx (sll a0.fKids) y123).bind fun x126=>(idx ([]:List Int) y123).bind fun x128=>bif (((zd x126).fKind) != x128) then some false else qd n a0 k119 m124 (IntKind.wrap .i64 (y123+1)) else k119 ()
def qx (n:Nat) (k116:(Unit→Option (Bool))):Nat→Option (Bool)
  | 0=>none
  | m131+1=>k116 ()
def Ze (n:Nat) (a0:zk) (y136:(List Int)) (k147:(Unit→Option (Bool))):Nat→Int→Option (Bool)
  | 0,_=>none
  | m152+1,y151=>bif (decide (y151 < ((sll a0.fKids).length:Int))) then (idx (sll a0.fKids) y151).bind fun x154=>(idx y136 y151).bind fun x156=>bif (((zd x154).fKind) != x156) then some false else Ze n a0 y136 k147 m152 (IntKind.wrap .i64 (y151+1)) else k147 ()
def ZD (n:Nat) (a0:zk) (y42:(List zm)) (k144:((List Int)→Option (Bool))):Nat→(List zm)→(List Int)→Int→Option (Bool)
  | 0,_,_,_=>none
  | m175+1,y167,y168,y169=>bif (decide (y169 < (y42.length:Int))) then (idx (sll a0.fKids) y169).bind fun x177=>(ckA 8 (y168++([(zd x177).fKind]:List Int)).length).bind fun _=>(idx y167 y169).bind fun x180=>ZD n a0 y42 k144 m175 (y167.set (Int.toNat y169) (zl (zk.mk (-5) ((zd x180).fRel) ((zd x180).fWhere) ((zd x180).fLeft) ((zd x180).fRight) ((zd x180).fOut) ((zd x180).fAggs) ((zd x180).fOrder) ((zd x180).fKids)))) (y168++([(zd x177).fKind]:List Int)) (IntKind.wrap .i64 (y169+1)) else k144 y168
def QP (n:Nat) (a0:zk) (a1:zk):Option (Bool):=at1 n fun n=>
  (aaV n a0).bind fun x1=>bif x1 then (qZ n).bind fun x4=>some x4 else (aaV n a1).bind fun x6=>bif x6 then (qZ n).bind fun x9=>some x9 else (aap n (zk.mk a0.fKind a0.fRel a0.fWhere a0.fLeft a0.fRight a0.fOut a0.fAggs a0.fOrder a0.fKids)).bind fun x11=>(acR n a0).bind fun x13=>(aae n (Zo.mk none none false x11 none none) (Zo.mk none none false x13 none none)).bind fun x15=>(abJ n a0).bind fun x17=>(abh n a0).bind fun x19=>bif (!(x17 == x19)) then some false else (adb n a0).bind fun x22=>(af1 n a0).bind fun x24=>bif (x22 != x24) then some false else bif (!x15) then some false else (adg n a0 a1).bind fun x28=>(qz n a0 a1).bind fun x30=>bif (!(x28 == x30)) then some false else (adg n a0 a0).bind fun x33=>bif (!x33) then some false else zK (fun (k43:(Option (List zc))→(Option (List zc))→(Option (List zc))→(Option (List zc))→(Option (List zr))→(Option (List zt))→(Option (List zm))→Option (Bool))=>(af3 n a0).bind (fun | .inl (x184,x185,x186,x187,x188)=>k43 x184 x185 x186 x187 none x188 none | .inr (.inl (x189,x190,x191,x192,x193,x194))=>k43 x189 x190 x191 x192 none x193 (some x194) | .inr (.inr (.inl (x195,x196,x197,x198,x199,x200)))=>k43 x195 x196 x197 x198 (some x199) x200 none | .inr (.inr (.inr ((x201,x202,x203,x204,x205,x206,x207))))=>k43 x201 x202 x203 x204 (some x205) x206 (some x207))) (fun | y36,y37,y38,y39,none,y41,none=>(qz n (zk.mk a0.fKind a0.fRel y36 y37 y38 y39 none y41 none) a0).bind fun x44=>bif (!x44) then some false else zK (fun k47=>qQ n k47 n) (fun (_:Unit)=>zK (fun k50=>qt n a0 k50 n 0) (fun (_:Unit)=>(qZ n).bind fun x51=>some x51)) | y36,y37,y38,y39,none,y41,(some y42)=>(qz n (zk.mk a0.fKind a0.fRel y36 y37 y38 y39 none y41 (some y42)) a0).bind fun x63=>bif (!x63) then some false else zK (fun k75=>ZR n a0 y42 k75 n y42 ([]:List Int) 0) (fun (y67:(List Int))=>zK (fun k78=>Zn n a0 y67 k78 n 0) (fun (_:Unit)=>(qZ n).bind fun x79=>some x79)) | y36,y37,y38,y39,(some y40),y41,none=>(qz n (zk.mk a0.fKind a0.fRel y36 y37 y38 y39 (some y40) y41 none) a0).bind fun x113=>bif (!x113) then some false else zK (fun k116=>qx n k116 n) (fun (_:Unit)=>zK (fun k119=>qd n a0 k119 n 0) (fun (_:Unit)=>(qZ n).bind fun x120=>some x120)) | y36,y37,y38,y39,(some y40),y41,(some y42)=>(qz n (zk.mk a0.fKind a0.fRel y36 y37 y38 y39 (some y40) y41 (some y42)) a0).bind fun x132=>bif (!x132) then some false else zK (fun k144=>ZD n a0 y42 k144 n y42 ([]:List Int) 0) (fun (y136:(List Int))=>zK (fun k147=>Ze n a0 y136 k147 n 0) (fun (_:Unit)=>(qZ n).bind fun x148=>some x148)))
end Go.Pl
