import Derived.Test.YtejbcaheoloahaaGreatAbRow
import Derived.Test.YtejbcaheoloahaaGreatAbArr
import Derived.Test.YtejbcaheoloahaaGreatAbRec
import Derived.Test.YtejbcaheoloahaaGreatAbPan
import Derived.Test.YtejbcaheoloahaaGreatAbPart
noncomputable section
namespace Go.Pl
open Go Go.Ab
set_option linter.unusedVariables false
structure zq where
  fKind:Int
  fInt:Int
  fFloat:Nat
  fText:ByteArray
def afy (x:zq):List PV:=[.int .i64 x.fKind,.int .i64 x.fInt,.flt .f64 x.fFloat,.str x.fText]
def qW (x:zq):Prop:=(wI .i64) x.fKind∧(wI .i64) x.fInt∧(wF .f64) x.fFloat∧wS x.fText
inductive Good_api_Expr:List PV→Prop
  | nil (fKind:Int) (fRel:Int) (fCol:Int) (fConst:zq):Good_api_Expr [.int .i64 fKind,.int .i64 fRel,.int .i64 fCol,.int .i64 fConst.fKind,.int .i64 fConst.fInt,.flt .f64 fConst.fFloat,.str fConst.fText,.nils]
  | some (fKind:Int) (fRel:Int) (fCol:Int) (fConst:zq) (rows:List (List PV)) (h:∀ p,p∈rows→Good_api_Expr p):Good_api_Expr [.int .i64 fKind,.int .i64 fRel,.int .i64 fCol,.int .i64 fConst.fKind,.int .i64 fConst.fInt,.flt .f64 fConst.fFloat,.str fConst.fText,.sl rows]
def zd:Type:={p:List PV // Good_api_Expr p}
def za (y:zd):List PV:=y.1
structure zh where
  fKind:Int
  fRel:Int
  fCol:Int
  fConst:zq
  fKids:(Option (List zd))
def Zy (x:zh):List PV:=[.int .i64 x.fKind,.int .i64 x.fRel,.int .i64 x.fCol,.int .i64 x.fConst.fKind,.int .i64 x.fConst.fInt,.flt .f64 x.fConst.fFloat,.str x.fConst.fText,zc za x.fKids]
theorem ajF (x:zh):Good_api_Expr (Zy x):=by
  obtain ⟨fKind,fRel,fCol,fConst,fKids⟩:=x
  cases fKids with
  | none=>exact .nil fKind fRel fCol fConst
  | some l=>exact .some fKind fRel fCol fConst (l.map za) (by intro p hp; obtain ⟨y,_,rfl⟩:=List.mem_map.1 hp; exact y.2)
def zi (x:zh):zd:=⟨Zy x,ajF x⟩
theorem ahL (y:zd):∃ x:zh,za y=Zy x:=by
  obtain ⟨p,h⟩:=y
  cases h with
  | nil fKind fRel fCol fConst=>exact ⟨⟨fKind,fRel,fCol,fConst,none⟩,rfl⟩
  | some fKind fRel fCol fConst rows h=>
    obtain ⟨l,hl⟩:=ahx rows h
    subst hl
    exact ⟨⟨fKind,fRel,fCol,fConst,some l⟩,rfl⟩
def zg (y:zd):zh:=Classical.choose (ahL y)
theorem zu (y:zd):za y=Zy (zg y):=Classical.choose_spec (ahL y)
theorem zX (y:zd):(za y).length=8:=by rw [zu y]; rfl
inductive abZ:List PV→Prop
  | nil (fKind:Int) (fRel:Int) (fCol:Int) (fConst:zq) (w:(wI .i64) fKind∧(wI .i64) fRel∧(wI .i64) fCol∧qW fConst):abZ [.int .i64 fKind,.int .i64 fRel,.int .i64 fCol,.int .i64 fConst.fKind,.int .i64 fConst.fInt,.flt .f64 fConst.fFloat,.str fConst.fText,.nils]
  | some (fKind:Int) (fRel:Int) (fCol:Int) (fConst:zq) (rows:List (List PV)) (w:(wI .i64) fKind∧(wI .i64) fRel∧(wI .i64) fCol∧qW fConst) (hl:rows.length≤1048576) (h:∀ p,p∈rows→abZ p):abZ [.int .i64 fKind,.int .i64 fRel,.int .i64 fCol,.int .i64 fConst.fKind,.int .i64 fConst.fInt,.flt .f64 fConst.fFloat,.str fConst.fText,.sl rows]
def zI (y:zd):Prop:=abZ (za y)∧PV.bulkL (za y)≤1048576
def Zx (x:zh):Prop:=abZ (Zy x)∧PV.bulkL (Zy x)≤1048576
structure zK where
  fKind:Int
  fOf:zh
def zj (x:zK):List PV:=[.int .i64 x.fKind,.int .i64 x.fOf.fKind,.int .i64 x.fOf.fRel,.int .i64 x.fOf.fCol,.int .i64 x.fOf.fConst.fKind,.int .i64 x.fOf.fConst.fInt,.flt .f64 x.fOf.fConst.fFloat,.str x.fOf.fConst.fText,zc za x.fOf.fKids]
def Qr (x:zK):Prop:=(wI .i64) x.fKind∧Zx x.fOf
structure Zn where
  fOut:Int
  fDesc:Bool
def zn (x:Zn):List PV:=[.int .i64 x.fOut,.bool x.fDesc]
def acA (x:Zn):Prop:=(wI .i64) x.fOut∧wB x.fDesc
inductive Good_api_Plan:List PV→Prop
  | nil (fKind:Int) (fRel:Int) (fWhere:(Option (List zd))) (fLeft:(Option (List zd))) (fRight:(Option (List zd))) (fOut:(Option (List zd))) (fAggs:(Option (List zK))) (fOrder:(Option (List Zn))):Good_api_Plan [.int .i64 fKind,.int .i64 fRel,zc za fWhere,zc za fLeft,zc za fRight,zc za fOut,zc zj fAggs,zc zn fOrder,.nils]
  | some (fKind:Int) (fRel:Int) (fWhere:(Option (List zd))) (fLeft:(Option (List zd))) (fRight:(Option (List zd))) (fOut:(Option (List zd))) (fAggs:(Option (List zK))) (fOrder:(Option (List Zn))) (rows:List (List PV)) (h:∀ p,p∈rows→Good_api_Plan p):Good_api_Plan [.int .i64 fKind,.int .i64 fRel,zc za fWhere,zc za fLeft,zc za fRight,zc za fOut,zc zj fAggs,zc zn fOrder,.sl rows]
def QL:Type:={p:List PV // Good_api_Plan p}
def zm (y:QL):List PV:=y.1
structure zl where
  fKind:Int
  fRel:Int
  fWhere:(Option (List zd))
  fLeft:(Option (List zd))
  fRight:(Option (List zd))
  fOut:(Option (List zd))
  fAggs:(Option (List zK))
  fOrder:(Option (List Zn))
  fKids:(Option (List QL))
def aab (x:zl):List PV:=[.int .i64 x.fKind,.int .i64 x.fRel,zc za x.fWhere,zc za x.fLeft,zc za x.fRight,zc za x.fOut,zc zj x.fAggs,zc zn x.fOrder,zc zm x.fKids]
theorem ahJ (y:QL):∃ x:zl,zm y=aab x:=by
  obtain ⟨p,h⟩:=y
  cases h with
  | nil fKind fRel fWhere fLeft fRight fOut fAggs fOrder=>exact ⟨⟨fKind,fRel,fWhere,fLeft,fRight,fOut,fAggs,fOrder,none⟩,rfl⟩
  | some fKind fRel fWhere fLeft fRight fOut fAggs fOrder rows h=>
    obtain ⟨l,hl⟩:=ahx rows h
    subst hl
    exact ⟨⟨fKind,fRel,fWhere,fLeft,fRight,fOut,fAggs,fOrder,some l⟩,rfl⟩
def zr (y:QL):zl:=Classical.choose (ahJ y)
theorem ZK (y:QL):zm y=aab (zr y):=Classical.choose_spec (ahJ y)
inductive abi:List PV→Prop
  | nil (fKind:Int) (fRel:Int) (fWhere:(Option (List zd))) (fLeft:(Option (List zd))) (fRight:(Option (List zd))) (fOut:(Option (List zd))) (fAggs:(Option (List zK))) (fOrder:(Option (List Zn))) (w:(wI .i64) fKind∧(wI .i64) fRel∧(wSl zI) fWhere∧(wSl zI) fLeft∧(wSl zI) fRight∧(wSl zI) fOut∧(wSl Qr) fAggs∧(wSl acA) fOrder):abi [.int .i64 fKind,.int .i64 fRel,zc za fWhere,zc za fLeft,zc za fRight,zc za fOut,zc zj fAggs,zc zn fOrder,.nils]
  | some (fKind:Int) (fRel:Int) (fWhere:(Option (List zd))) (fLeft:(Option (List zd))) (fRight:(Option (List zd))) (fOut:(Option (List zd))) (fAggs:(Option (List zK))) (fOrder:(Option (List Zn))) (rows:List (List PV)) (w:(wI .i64) fKind∧(wI .i64) fRel∧(wSl zI) fWhere∧(wSl zI) fLeft∧(wSl zI) fRight∧(wSl zI) fOut∧(wSl Qr) fAggs∧(wSl acA) fOrder) (hl:rows.length≤1048576) (h:∀ p,p∈rows→abi p):abi [.int .i64 fKind,.int .i64 fRel,zc za fWhere,zc za fLeft,zc za fRight,zc za fOut,zc zj fAggs,zc zn fOrder,.sl rows]
def agP (y:QL):Prop:=abi (zm y)∧PV.bulkL (zm y)≤1048576
def abh (x:zl):Prop:=abi (aab x)∧PV.bulkL (aab x)≤1048576
structure zx where
  fRels:(Option (List ByteArray))
  fWhere:(Option (List zd))
  fGrouped:Bool
  fOut:(Option (List zd))
  fAggs:(Option (List zK))
  fOrder:(Option (List Zn))
def alB (x:zx):List PV:=[zc rS x.fRels,zc za x.fWhere,.bool x.fGrouped,zc za x.fOut,zc zj x.fAggs,zc zn x.fOrder]
def abm (x:zx):Prop:=(wSl wS) x.fRels∧(wSl zI) x.fWhere∧wB x.fGrouped∧(wSl zI) x.fOut∧(wSl Qr) x.fAggs∧(wSl acA) x.fOrder
structure ZT where
  fName:ByteArray
  fKind:Int
def zQ (x:ZT):List PV:=[.str x.fName,.int .i64 x.fKind]
def aeF (x:ZT):Prop:=wS x.fName∧(wI .i64) x.fKind
structure zk where
  fName:ByteArray
  fCols:(Option (List ZT))
def zb (x:zk):List PV:=[.str x.fName,zc zQ x.fCols]
def QA (x:zk):Prop:=wS x.fName∧(wSl aeF) x.fCols
def ac4 (n:Nat):Option (Bool):=bif n == 3999999 then some true else none
def Qk (n:Nat) (rc_ref22_Bulk:(Nat→(Option (List zd))→Int→Option (Int))) (a0:(Option (List zd))) (a1:Int) (k5:(Int→Option (Int))):Nat→Int→Int→Option (Int)
  | 0,_,_=>none
  | m10+1,y8,y9=>bif ((decide (y9 < ((sll a0).length:Int))) && (decide (y8≤a1))) then (idx (sll a0) y9).bind fun x12=>bif (decide (((((zg x12).fConst).fText).size:Int) > a1)) then some (IntKind.wrap .i64 (a1+1)) else bif (decide ((IntKind.wrap .i64 (y8+((((zg x12).fConst).fText).size:Int)))≤a1)) then (rc_ref22_Bulk n ((zg x12).fKids) (IntKind.wrap .i64 (a1 - (IntKind.wrap .i64 (y8+((((zg x12).fConst).fText).size:Int)))))).bind fun x16=>Qk n rc_ref22_Bulk a0 a1 k5 m10 (IntKind.wrap .i64 ((IntKind.wrap .i64 (y8+((((zg x12).fConst).fText).size:Int)))+x16)) (IntKind.wrap .i64 (y9+1)) else Qk n rc_ref22_Bulk a0 a1 k5 m10 (IntKind.wrap .i64 (y8+((((zg x12).fConst).fText).size:Int))) (IntKind.wrap .i64 (y9+1)) else k5 y8
def acr (rc_ref22_Bulk:(Nat→(Option (List zd))→Int→Option (Int))) (n:Nat) (a0:(Option (List zd))) (a1:Int):Option (Int):=at1 n fun n=>
  bif (decide (((sll a0).length:Int) > a1)) then some (IntKind.wrap .i64 (a1+1)) else zD (fun k5=>Qk n rc_ref22_Bulk a0 a1 k5 n ((sll a0).length:Int) 0) (fun (y3:Int)=>some y3)
def aaA:Nat→Nat→(Option (List zd))→Int→Option (Int)
  | 0=>fun _ _ _=>none
  | m+1=>acr (aaA m)
def aaa (n:Nat) (a0:(Option (List zd))) (a1:Int):Option (Int):=aaA n n a0 a1
def ZJ (n:Nat) (a0:zx) (a1:Int) (k15:(Int→Option (Int))):Nat→Int→Int→Option (Int)
  | 0,_,_=>none
  | m20+1,y18,y19=>bif ((decide (y19 < ((sll a0.fAggs).length:Int))) && (decide (y18≤a1))) then (idx (sll a0.fAggs) y19).bind fun x22=>(aaa n (some ([(zi x22.fOf)]:List zd)) (IntKind.wrap .i64 (a1 - y18))).bind fun x24=>ZJ n a0 a1 k15 m20 (IntKind.wrap .i64 (y18+x24)) (IntKind.wrap .i64 (y19+1)) else k15 y18
def Qo (n:Nat) (a0:zx) (a1:Int) (k5:(Int→Option (Int))):Nat→Int→Int→Option (Int)
  | 0,_,_=>none
  | m36+1,y34,y35=>bif (decide (y35 < ((sll a0.fRels).length:Int))) then bif (decide (y34 > a1)) then some (IntKind.wrap .i64 (a1+1)) else (idx (sll a0.fRels) y35).bind fun x39=>bif (decide ((x39.size:Int) > a1)) then some (IntKind.wrap .i64 (a1+1)) else Qo n a0 a1 k5 m36 (IntKind.wrap .i64 (y34+(x39.size:Int))) (IntKind.wrap .i64 (y35+1)) else k5 y34
def aat (n:Nat) (a0:zx) (a1:Int):Option (Int):=at1 n fun n=>
  bif (((decide (((sll a0.fRels).length:Int) > a1)) || (decide (((sll a0.fAggs).length:Int) > a1))) || (decide (((sll a0.fOrder).length:Int) > a1))) then some (IntKind.wrap .i64 (a1+1)) else zD (fun k5=>Qo n a0 a1 k5 n (IntKind.wrap .i64 ((IntKind.wrap .i64 (((sll a0.fRels).length:Int)+((sll a0.fAggs).length:Int)))+((sll a0.fOrder).length:Int))) 0) (fun (y3:Int)=>zD (fun k8=>bif (decide (y3≤a1)) then (aaa n a0.fWhere (IntKind.wrap .i64 (a1 - y3))).bind fun x30=>k8 (IntKind.wrap .i64 (y3+x30)) else k8 y3) (fun (y7:Int)=>zD (fun k11=>bif (decide (y7≤a1)) then (aaa n a0.fOut (IntKind.wrap .i64 (a1 - y7))).bind fun x27=>k11 (IntKind.wrap .i64 (y7+x27)) else k11 y7) (fun (y10:Int)=>zD (fun k15=>ZJ n a0 a1 k15 n y10 0) (fun (y13:Int)=>some y13))))
def QB (n:Nat) (rc_ref25_Bulk:(Nat→zl→Int→Option (Int))) (a0:zl) (a1:Int) (k9:(Int→Option (Int))):Nat→Int→Int→Option (Int)
  | 0,_,_=>none
  | m14+1,y12,y13=>bif ((decide (y13 < ((sll a0.fKids).length:Int))) && (decide (y12≤a1))) then (idx (sll a0.fKids) y13).bind fun x16=>(rc_ref25_Bulk n (zr x16) (IntKind.wrap .i64 (a1 - y12))).bind fun x18=>QB n rc_ref25_Bulk a0 a1 k9 m14 (IntKind.wrap .i64 (y12+x18)) (IntKind.wrap .i64 (y13+1)) else k9 y12
def acq (rc_ref25_Bulk:(Nat→zl→Int→Option (Int))) (n:Nat) (a0:zl) (a1:Int):Option (Int):=at1 n fun n=>
  (aat n (zx.mk none a0.fWhere false a0.fOut a0.fAggs a0.fOrder) a1).bind fun x1=>zD (fun k5=>bif (decide ((IntKind.wrap .i64 (1+x1))≤a1)) then (aat n (zx.mk none a0.fLeft false a0.fRight none none) a1).bind fun x21=>k5 (IntKind.wrap .i64 ((IntKind.wrap .i64 (1+x1))+x21)) else k5 (IntKind.wrap .i64 (1+x1))) (fun (y4:Int)=>zD (fun k9=>QB n rc_ref25_Bulk a0 a1 k9 n y4 0) (fun (y7:Int)=>some y7))
def aaD:Nat→Nat→zl→Int→Option (Int)
  | 0=>fun _ _ _=>none
  | m+1=>acq (aaD m)
def agv (n:Nat) (a0:zl) (a1:Int):Option (Int):=aaD n n a0 a1
def ac7 (n:Nat) (a0:zl):Option (Bool):=at1 n fun n=>
  (agv n a0 800).bind fun x1=>some (decide (x1 > 800))
def QH (n:Nat) (a1:(Option (List zk))) (k6:(Unit→Option (Bool))):Nat→Int→Option (Bool)
  | 0,_=>none
  | m9+1,y8=>bif (decide (y8 < ((sll a1).length:Int))) then (idx (sll a1) y8).bind fun x11=>bif ((decide (((sll x11.fCols).length:Int) > 40)) || (decide ((x11.fName.size:Int) > 100))) then some true else QH n a1 k6 m9 (IntKind.wrap .i64 (y8+1)) else k6 ()
def acW (n:Nat) (a0:zx) (a1:(Option (List zk))):Option (Bool):=at1 n fun n=>
  (aat n a0 500).bind fun x1=>bif ((decide (x1 > 500)) || (decide (((sll a1).length:Int) > 40))) then some true else zD (fun k6=>QH n a1 k6 n 0) (fun (_:Unit)=>some false)
def acK (n:Nat) (a0:zk) (a1:ByteArray):Option (Bool):=at1 n fun n=>
  some (sEq a0.fName a1)
def zU (n:Nat) (a0:(Option (List zk))) (a1:ByteArray) (k3:(Unit→Option (Int))):Nat→Int→Option (Int)
  | 0,_=>none
  | m6+1,y5=>bif (decide (y5 < ((sll a0).length:Int))) then (idx (sll a0) y5).bind fun x8=>(acK n x8 a1).bind fun x10=>bif x10 then some y5 else zU n a0 a1 k3 m6 (IntKind.wrap .i64 (y5+1)) else k3 ()
def Zh (n:Nat) (a0:(Option (List zk))) (a1:ByteArray):Option (Int):=at1 n fun n=>
  zD (fun k3=>zU n a0 a1 k3 n 0) (fun (_:Unit)=>some (-1))
def qV (n:Nat) (a0:(Option (List ZT))):Option ((Option (List ZT))):=at1 n fun n=>
  bif (a0.isNone) then some none else bif (sll a0).isEmpty then (ckA 24 ([]:List ZT).length).bind fun _=>some (some ([]:List ZT)) else (ckA 24 (([]:List ZT)++(sll a0)).length).bind fun _=>some (some (([]:List ZT)++(sll a0)))
def abc (n:Nat) (a0:(Option (List zk))) (a1:ByteArray):Option ((Option (List zk))):=at1 n fun n=>
  (Zh n a0 a1).bind fun x1=>bif (decide (x1 < 0)) then some none else (idx (sll a0) x1).bind fun x4=>(qV n x4.fCols).bind fun x6=>(ckA 40 ([(zk.mk a1 x6)]:List zk).length).bind fun _=>some (some ([(zk.mk a1 x6)]:List zk))
def aak (n:Nat) (a0:(List zk)) (a1:(Option (List zk))) (a2:ByteArray):Option ((List zk) × Int):=at1 n fun n=>
  (Zh n a1 a2).bind fun x1=>bif (decide (x1 < 0)) then some (a0,40) else (idx (sll a1) x1).bind fun x4=>(qV n x4.fCols).bind fun x6=>(ckA 40 (a0++([(zk.mk a2 x6)]:List zk)).length).bind fun _=>some ((a0++([(zk.mk a2 x6)]:List zk)),0)
def zy (n:Nat) (a0:(Option (List zk))) (a1:(Option (List ByteArray))) (k8:((Option (List zk))→Option ((Option (List zk)) × Int))):Nat→(Option (List zk))→Int→Option ((Option (List zk)) × Int)
  | 0,_,_=>none
  | m22+1,none,y17=>bif (decide (y17 < ((sll a1).length:Int))) then (idx (sll a1) y17).bind fun x24=>(abc n a0 x24).bind (fun | none=>some (none,40) | some x27=>zy n a0 a1 k8 m22 (some x27) (IntKind.wrap .i64 (y17+1))) else k8 none
  | m22+1,(some y16),y17=>bif (decide (y17 < ((sll a1).length:Int))) then (idx (sll a1) y17).bind fun x30=>(aak n y16 a0 x30).bind fun (x33,x34)=>bif (x34 != 0) then some ((some x33),x34) else zy n a0 a1 k8 m22 (some x33) (IntKind.wrap .i64 (y17+1)) else k8 (some y16)
def ZW (n:Nat) (a0:(Option (List zk))) (a1:(Option (List ByteArray))):Option ((Option (List zk)) × Int):=at1 n fun n=>
  zD (fun (k8:(Option (List zk))→Option ((Option (List zk)) × Int))=>zy n a0 a1 k8 n none 0) (fun | none=>some (none,0) | (some y3)=>some ((some y3),0))
def aaw (n:Nat) (a0:zx) (a1:(Option (List zk))):Option ((Option (List zk)) × Int):=at1 n fun n=>
  bif (decide (((sll a0.fRels).length:Int) > 12)) then some (none,51) else bif (((sll a0.fRels).length:Int) == 0) then some (none,2) else zD (fun (k9:(Option (List zk))→Int→Option ((Option (List zk)) × Int))=>(ZW n a1 a0.fRels).bind (fun | (none,x14)=>k9 none x14 | (some x13,x14)=>k9 (some x13) x14)) (fun | none,y4=>bif (y4 != 0) then some (none,y4) else some (none,0) | (some y3),y4=>bif (y4 != 0) then some (none,y4) else some ((some y3),0))
def aa4 (n:Nat) (a0:zx):Option (Int):=at1 n fun n=>
  some (IntKind.wrap .i64 (((sll a0.fOut).length:Int)+((sll a0.fAggs).length:Int)))
def acd (n:Nat) (a0:zK):Option (Bool):=at1 n fun n=>
  some ((decide (a0.fKind < 1)) || (decide (a0.fKind > 4)))
def Za (n:Nat) (a0:(Option (List zK))) (k3:(Unit→Option (Int))):Nat→Int→Option (Int)
  | 0,_=>none
  | m6+1,y5=>bif (decide (y5 < ((sll a0).length:Int))) then (idx (sll a0) y5).bind fun x8=>(acd n x8).bind fun x10=>bif x10 then some y5 else Za n a0 k3 m6 (IntKind.wrap .i64 (y5+1)) else k3 ()
def Z5 (n:Nat) (a0:(Option (List zK))):Option (Int):=at1 n fun n=>
  zD (fun k3=>Za n a0 k3 n 0) (fun (_:Unit)=>some (-1))
def ZD (n:Nat) (a0:(Option (List zK))):Option (Bool):=at1 n fun n=>
  (Z5 n a0).bind fun x1=>some (decide (x1≥0))
def QK (n:Nat) (a0:Zn) (a1:(Option (List ByteArray))) (a2:(Option (List zd))) (a3:Bool) (a4:(Option (List zd))) (a5:(Option (List zK))) (a6:(Option (List Zn))):Option (Bool):=at1 n fun n=>
  bif (decide (a0.fOut < 0)) then some true else (aa4 n (zx.mk a1 a2 a3 a4 a5 a6)).bind fun x2=>some (decide (a0.fOut≥x2))
def zE (n:Nat) (a0:(Option (List Zn))) (a1:(Option (List ByteArray))) (a2:(Option (List zd))) (a3:Bool) (a4:(Option (List zd))) (a5:(Option (List zK))) (a6:(Option (List Zn))) (k3:(Unit→Option (Int))):Nat→Int→Option (Int)
  | 0,_=>none
  | m6+1,y5=>bif (decide (y5 < ((sll a0).length:Int))) then (idx (sll a0) y5).bind fun x8=>(QK n x8 a1 a2 a3 a4 a5 a6).bind fun x10=>bif x10 then some y5 else zE n a0 a1 a2 a3 a4 a5 a6 k3 m6 (IntKind.wrap .i64 (y5+1)) else k3 ()
def Zg (n:Nat) (a0:(Option (List Zn))) (a1:(Option (List ByteArray))) (a2:(Option (List zd))) (a3:Bool) (a4:(Option (List zd))) (a5:(Option (List zK))) (a6:(Option (List Zn))):Option (Int):=at1 n fun n=>
  zD (fun k3=>zE n a0 a1 a2 a3 a4 a5 a6 k3 n 0) (fun (_:Unit)=>some (-1))
def zS (n:Nat) (a0:(Option (List Zn))) (a1:(Option (List ByteArray))) (a2:(Option (List zd))) (a3:Bool) (a4:(Option (List zd))) (a5:(Option (List zK))) (a6:(Option (List Zn))):Option (Bool):=at1 n fun n=>
  (Zg n a0 a1 a2 a3 a4 a5 a6).bind fun x1=>some (decide (x1≥0))
def Q5 (n:Nat) (a0:zx):Option (Bool):=at1 n fun n=>
  bif ((((decide (((sll a0.fWhere).length:Int) > 40)) || (decide (((sll a0.fOut).length:Int) > 20))) || (decide (((sll a0.fAggs).length:Int) > 10))) || (decide (((sll a0.fOrder).length:Int) > 10))) then some false else bif ((!a0.fGrouped) && ((((sll a0.fOut).length:Int) == 0) || (decide (((sll a0.fAggs).length:Int) > 0)))) then some false else (aa4 n a0).bind fun x3=>bif (x3 == 0) then some false else (ZD n a0.fAggs).bind fun x6=>bif x6 then some false else (zS n a0.fOrder a0.fRels a0.fWhere a0.fGrouped a0.fOut a0.fAggs a0.fOrder).bind fun x9=>some (!x9)
def aek (n:Nat) (a0:Int):Option (Int):=at1 n fun n=>
  zD (fun k2=>bif (a0 == 1) then k2 (a0 == 1) else k2 (a0 == 2)) (fun (y1:Bool)=>bif y1 then some 0 else zD (fun k5=>bif (a0 == 6) then k5 (a0 == 6) else bif (a0 == 12) then k5 (a0 == 12) else k5 (a0 == 13)) (fun (y4:Bool)=>bif y4 then some 1 else bif (a0 == 3) then bif (a0 == 3) then some 2 else some (-1) else bif (a0 == 4) then bif (a0 == 4) then some 2 else some (-1) else bif (a0 == 5) then bif (a0 == 5) then some 2 else some (-1) else bif (a0 == 7) then bif (a0 == 7) then some 2 else some (-1) else bif (a0 == 8) then bif (a0 == 8) then some 2 else some (-1) else bif (a0 == 9) then bif (a0 == 9) then some 2 else some (-1) else bif (a0 == 10) then bif (a0 == 10) then some 2 else some (-1) else bif (a0 == 11) then some 2 else some (-1)))
def abE (n:Nat) (a0:Int):Option (Bool):=at1 n fun n=>
  some ((decide (a0≥0)) && (decide (a0≤31)))
def ado (n:Nat) (a0:Nat):Option (Bool):=at1 n fun n=>
  some (decide ((IntKind.wrap .i64 (a0:Int)) < 0))
def ab2 (n:Nat) (a0:zq):Option (Bool):=at1 n fun n=>
  zD (fun k2=>bif ((FloatKind.format .f64).order a0.fFloat 0 == some .eq) then (ado n a0.fFloat).bind fun x14=>k2 (!x14) else k2 false) (fun (y1:Bool)=>zD (fun k6=>bif (a0.fKind == 0) then some (((a0.fInt == 0) && y1) && (sEq a0.fText ByteArray.empty)) else bif (a0.fKind == 1) then bif ((a0.fInt != 0) && (a0.fInt != 1)) then some false else k6 () else bif (a0.fKind == 2) then k6 () else bif (a0.fKind == 3) then some ((a0.fInt == 0) && (sEq a0.fText ByteArray.empty)) else bif (a0.fKind == 4) then some (((a0.fInt == 0) && y1) && (decide ((a0.fText.size:Int)≤64))) else some false) (fun (_:Unit)=>some (y1 && (sEq a0.fText ByteArray.empty))))
def acS (n:Nat) (a0:zh):Option (Bool):=at1 n fun n=>
  bif ((a0.fKind != 1) && ((a0.fRel != 0) || (a0.fCol != 0))) then some false else (abE n a0.fRel).bind fun x2=>bif (!x2) then some false else (abE n a0.fCol).bind fun x5=>bif (!x5) then some false else (ab2 n a0.fConst).bind fun x8=>some (x8 && ((a0.fKind == 2) || (a0.fConst.fKind == 0)))
def aaQ (n:Nat) (rc_expr_count:(Nat→zh→Int→Int→Option (Int))) (a0:zh) (a1:Int) (k12:(Int→Option (Int))):Nat→Int→Int→Option (Int)
  | 0,_,_=>none
  | m17+1,y15,y16=>bif (decide (y16 < ((sll a0.fKids).length:Int))) then (idx (sll a0.fKids) y16).bind fun x19=>(rc_expr_count n (zg x19) (IntKind.wrap .i64 (a1+1)) y15).bind fun x21=>bif (decide (x21 < 0)) then some (-1) else aaQ n rc_expr_count a0 a1 k12 m17 x21 (IntKind.wrap .i64 (y16+1)) else k12 y15
def aav (rc_expr_count:(Nat→zh→Int→Int→Option (Int))) (n:Nat) (a0:zh) (a1:Int) (a2:Int):Option (Int):=at1 n fun n=>
  bif (decide (a1 > 24)) then some (-1) else bif (decide (a2 < 1)) then some (-1) else (aek n a0.fKind).bind fun x3=>bif (x3 != ((sll a0.fKids).length:Int)) then some (-1) else (acS n (zh.mk a0.fKind a0.fRel a0.fCol a0.fConst a0.fKids)).bind fun x6=>bif (!x6) then some (-1) else zD (fun k12=>aaQ n rc_expr_count a0 a1 k12 n (IntKind.wrap .i64 (a2 - 1)) 0) (fun (y9:Int)=>some y9)
def Qi:Nat→Nat→zh→Int→Int→Option (Int)
  | 0=>fun _ _ _ _=>none
  | m+1=>aav (Qi m)
def agh (n:Nat) (a0:zh) (a1:Int) (a2:Int):Option (Int):=Qi n n a0 a1 a2
def abo (n:Nat) (a0:zh):Option (Bool):=at1 n fun n=>
  (agh n a0 1 400).bind fun x1=>some (decide (x1≥0))
def abb (n:Nat) (a0:zh) (a1:(Option (List zk))):Option (Int ⊕ (Int)):=at1 n fun n=>
  bif (decide (a0.fRel≥((sll a1).length:Int))) then some (.inl 40) else (idx (sll a1) a0.fRel).bind fun x2=>bif (decide (a0.fCol≥((sll x2.fCols).length:Int))) then some (.inl 40) else (idx (sll x2.fCols) a0.fCol).bind fun x5=>some (.inr x5.fKind)
def Q1 (n:Nat) (rc_expr_refs:(Nat→zh→(Option (List zk))→Option (Int ⊕ (Unit)))) (a0:zh) (a1:(Option (List zk))):Nat→Int→Option (Int ⊕ (Unit))
  | 0,_=>none
  | m5+1,y4=>bif (decide (y4 < ((sll a0.fKids).length:Int))) then (idx (sll a0.fKids) y4).bind fun x7=>(rc_expr_refs n (zg x7) a1).bind fun | .inl x11=>some (.inl x11) | .inr x9=>Q1 n rc_expr_refs a0 a1 m5 (IntKind.wrap .i64 (y4+1)) else some (.inr ())
def ad5 (rc_expr_refs:(Nat→zh→(Option (List zk))→Option (Int ⊕ (Unit)))) (n:Nat) (a0:zh) (a1:(Option (List zk))):Option (Int ⊕ (Unit)):=at1 n fun n=>
  zD (fun k2=>bif (a0.fKind == 1) then (abb n a0 a1).bind fun | .inl x15=>some (.inl x15) | .inr x13=>k2 () else k2 ()) (fun (_:Unit)=>Q1 n rc_expr_refs a0 a1 n 0)
def aa6:Nat→Nat→zh→(Option (List zk))→Option (Int ⊕ (Unit))
  | 0=>fun _ _ _=>none
  | m+1=>ad5 (aa6 m)
def ajW (n:Nat) (a0:zh) (a1:(Option (List zk))):Option (Int ⊕ (Unit)):=aa6 n n a0 a1
def ab5 (n:Nat) (a0:Int):Option (Bool):=at1 n fun n=>
  some (((a0 == 0) || (a0 == 2)) || (a0 == 3))
def qx (n:Nat) (a0:Int) (a1:Int):Option (Int ⊕ (Int)):=at1 n fun n=>
  (ab5 n a0).bind fun x1=>bif (!x1) then some (.inl 50) else (ab5 n a1).bind fun x4=>bif ((!x4) || (((a0 != 0) && (a1 != 0)) && (a0 != a1))) then some (.inl 50) else some (.inr (if a1 > a0 then a1 else a0))
def acm (n:Nat) (a0:Int):Option (Bool):=at1 n fun n=>
  some true
def Qb (n:Nat) (a0:Int) (a1:Int):Option (Int ⊕ (Int)):=at1 n fun n=>
  (acm n a0).bind fun x1=>bif (!x1) then some (.inl 50) else (acm n a1).bind fun x4=>bif ((!x4) || (((a0 != 0) && (a1 != 0)) && (a0 != a1))) then some (.inl 50) else some (.inr (if a1 > a0 then a1 else a0))
def adS (n:Nat) (a0:Int):Option (Bool):=at1 n fun n=>
  some ((a0 == 0) || (a0 == 1))
def qU (n:Nat) (a0:Int) (a1:Int):Option (Int ⊕ (Int)):=at1 n fun n=>
  (adS n a0).bind fun x1=>bif (!x1) then some (.inl 50) else (adS n a1).bind fun x4=>bif ((!x4) || (((a0 != 0) && (a1 != 0)) && (a0 != a1))) then some (.inl 50) else some (.inr (if a1 > a0 then a1 else a0))
def qo (n:Nat) (rc_expr_typed:(Nat→zh→(Option (List zk))→Option (Int ⊕ (Int)))) (a0:zh) (a1:(Option (List zk))) (k4:((Option (List Int))→Option (Int ⊕ (Int)))):Nat→Int→(Option (List Int))→Option (Int ⊕ (Int))
  | 0,_,_=>none
  | m83+1,y81,none=>bif (decide (y81 < ((sll a0.fKids).length:Int))) then (idx (sll a0.fKids) y81).bind fun x85=>(rc_expr_typed n (zg x85) a1).bind fun | .inl x89=>some (.inl x89) | .inr x87=>(ckA 8 ([x87]:List Int).length).bind fun _=>qo n rc_expr_typed a0 a1 k4 m83 (IntKind.wrap .i64 (y81+1)) (some ([x87]:List Int)) else k4 none
  | m83+1,y81,(some y82)=>bif (decide (y81 < ((sll a0.fKids).length:Int))) then (idx (sll a0.fKids) y81).bind fun x92=>(rc_expr_typed n (zg x92) a1).bind fun | .inl x96=>some (.inl x96) | .inr x94=>(ckA 8 (y82++([x94]:List Int)).length).bind fun _=>qo n rc_expr_typed a0 a1 k4 m83 (IntKind.wrap .i64 (y81+1)) (some (y82++([x94]:List Int))) else k4 (some y82)
def adq (rc_expr_typed:(Nat→zh→(Option (List zk))→Option (Int ⊕ (Int)))) (n:Nat) (a0:zh) (a1:(Option (List zk))):Option (Int ⊕ (Int)):=at1 n fun n=>
  zD (fun (k4:(Option (List Int))→Option (Int ⊕ (Int)))=>qo n rc_expr_typed a0 a1 k4 n 0 none) (fun | none=>bif (a0.fKind == 1) then (abb n a0 a1).bind fun | .inl x8=>some (.inl x8) | .inr x6=>some (.inr x6) else bif (a0.fKind == 2) then some (.inr a0.fConst.fKind) else zD (fun k11=>bif (a0.fKind == 3) then k11 (a0.fKind == 3) else bif (a0.fKind == 4) then k11 (a0.fKind == 4) else k11 (a0.fKind == 5)) (fun (y10:Bool)=>bif y10 then none else bif (a0.fKind == 6) then none else zD (fun k15=>bif (a0.fKind == 7) then k15 (a0.fKind == 7) else bif (a0.fKind == 8) then k15 (a0.fKind == 8) else k15 (a0.fKind == 9)) (fun (y14:Bool)=>bif y14 then none else zD (fun k18=>bif (a0.fKind == 10) then k18 (a0.fKind == 10) else k18 (a0.fKind == 11)) (fun (y17:Bool)=>bif y17 then none else bif (a0.fKind == 12) then none else some (.inr 1)))) | (some y3)=>bif (a0.fKind == 1) then (abb n a0 a1).bind fun | .inl x29=>some (.inl x29) | .inr x27=>some (.inr x27) else bif (a0.fKind == 2) then some (.inr a0.fConst.fKind) else zD (fun k32=>bif (a0.fKind == 3) then k32 (a0.fKind == 3) else bif (a0.fKind == 4) then k32 (a0.fKind == 4) else k32 (a0.fKind == 5)) (fun (y31:Bool)=>bif y31 then (idx y3 0).bind fun x34=>(idx y3 1).bind fun x36=>(qx n x34 x36).bind fun | .inl x40=>some (.inl x40) | .inr x38=>some (.inr x38) else bif (a0.fKind == 6) then (idx y3 0).bind fun x42=>(qx n x42 x42).bind fun | .inl x46=>some (.inl x46) | .inr x44=>some (.inr x44) else zD (fun k48=>bif (a0.fKind == 7) then k48 (a0.fKind == 7) else bif (a0.fKind == 8) then k48 (a0.fKind == 8) else k48 (a0.fKind == 9)) (fun (y47:Bool)=>bif y47 then (idx y3 0).bind fun x50=>(idx y3 1).bind fun x52=>(Qb n x50 x52).bind fun | .inl x56=>some (.inl x56) | .inr x54=>some (.inr 1) else zD (fun k58=>bif (a0.fKind == 10) then k58 (a0.fKind == 10) else k58 (a0.fKind == 11)) (fun (y57:Bool)=>bif y57 then (idx y3 0).bind fun x60=>(idx y3 1).bind fun x62=>(qU n x60 x62).bind fun | .inl x66=>some (.inl x66) | .inr x64=>some (.inr 1) else bif (a0.fKind == 12) then (idx y3 0).bind fun x68=>(qU n x68 x68).bind fun | .inl x72=>some (.inl x72) | .inr x70=>some (.inr 1) else some (.inr 1)))))
def abr:Nat→Nat→zh→(Option (List zk))→Option (Int ⊕ (Int))
  | 0=>fun _ _ _=>none
  | m+1=>adq (abr m)
def aij (n:Nat) (a0:zh) (a1:(Option (List zk))):Option (Int ⊕ (Int)):=abr n n a0 a1
def acV (n:Nat) (a0:Int) (a1:Int) (a2:Int) (a3:Int) (a4:Int) (a5:Nat) (a6:ByteArray) (a7:(Option (List zd))) (a8:(Option (List zk))) (a9:Int):Option ((Int) ⊕ (Int)):=at1 n fun n=>
  (ajW n (zh.mk a0 a1 a2 (zq.mk a3 a4 a5 a6) a7) a8).bind fun | .inl x3=>some (.inl x3) | .inr x1=>(aij n (zh.mk a0 a1 a2 (zq.mk a3 a4 a5 a6) a7) a8).bind fun | .inl x6=>some (.inl x6) | .inr x4=>some (.inr (x4))
def qz (n:Nat) (a0:Int) (a1:Int) (a2:Int) (a3:Int) (a4:Int) (a5:Nat) (a6:ByteArray) (a7:(Option (List zd))) (a8:(Option (List zk))) (a9:Int):Option (Int × Int):=at1 n fun n=>
  (acV n a0 a1 a2 a3 a4 a5 a6 a7 a8 a9).bind (fun | .inl x3=>some (a9,x3) | .inr (x4)=>some (x4,0))
def QZ (n:Nat) (a0:zh) (a1:(Option (List zk))):Option (Int × Int):=at1 n fun n=>
  (abo n a0).bind fun x1=>bif (!x1) then some (0,2) else (qz n a0.fKind a0.fRel a0.fCol a0.fConst.fKind a0.fConst.fInt a0.fConst.fFloat a0.fConst.fText a0.fKids a1 0).bind fun (x5,x6)=>bif (x6 != 0) then some (0,x6) else some (x5,0)
def abQ (n:Nat) (a0:Int):Option (Bool):=at1 n fun n=>
  some ((a0 == 0) || (a0 == 1))
def abN (n:Nat) (a0:Int):Option (Unit):=at1 n fun n=>
  some ()
def Zi (n:Nat) (a0:(Option (List zk))) (a1:zh):Option (Int):=at1 n fun n=>
  (QZ n a1 a0).bind fun x1=>zD (fun k5=>bif (x1.2 == 0) then (abQ n x1.1).bind fun x10=>bif (!x10) then k5 50 else k5 x1.2 else k5 x1.2) (fun (y4:Int)=>bif (y4 == 0) then (abN n x1.1).bind fun x7=>some y4 else some y4)
def qL (n:Nat) (a0:(Option (List zk))) (a1:zh):Option (Int):=at1 n fun n=>
  (Zi n a0 a1).bind fun x2=>some x2
def zR (n:Nat) (a0:(Option (List zk))) (a1:(Option (List zd))) (k3:(Unit→Option (Int))):Nat→Int→Option (Int)
  | 0,_=>none
  | m6+1,y5=>bif (decide (y5 < ((sll a1).length:Int))) then (idx (sll a1) y5).bind fun x8=>(qL n a0 (zg x8)).bind fun x11=>bif (x11 != 0) then some x11 else zR n a0 a1 k3 m6 (IntKind.wrap .i64 (y5+1)) else k3 ()
def Zs (n:Nat) (a0:(Option (List zk))) (a1:(Option (List zd))):Option (Int):=at1 n fun n=>
  zD (fun k3=>zR n a0 a1 k3 n 0) (fun (_:Unit)=>some 0)
def qK (n:Nat) (a0:Int):Option (Bool):=at1 n fun n=>
  some true
def QD (n:Nat) (a0:Int):Option (Unit):=at1 n fun n=>
  (ckA 8 ([a0]:List Int).length).bind fun _=>some ()
def Zd (n:Nat) (a0:(Option (List zk))) (a1:zh):Option ((Option (List Int)) × Int):=at1 n fun n=>
  (QZ n a1 a0).bind fun x1=>zD (fun k5=>bif (x1.2 == 0) then (qK n x1.1).bind fun x9=>bif (!x9) then k5 50 else k5 x1.2 else k5 x1.2) (fun (y4:Int)=>bif (y4 == 0) then (QD n x1.1).bind fun _=>some ((some ([x1.1]:List Int)),y4) else some (none,y4))
def abI (n:Nat) (a0:(Option (List zk))) (a1:zh):Option ((Option (List Int)) × Int):=at1 n fun n=>
  (Zd n a0 a1).bind (fun | (none,x3)=>some (none,x3) | (some x2,x3)=>some ((some x2),x3))
def qX (n:Nat) (a0:(List Int)) (a1:Int):Option (Unit):=at1 n fun n=>
  (ckA 8 (a0++([a1]:List Int)).length).bind fun _=>some ()
def Zb (n:Nat) (a0:(List Int)) (a1:(Option (List zk))) (a2:zh):Option ((List Int) × Int):=at1 n fun n=>
  (QZ n a2 a1).bind fun x1=>zD (fun k5=>bif (x1.2 == 0) then (qK n x1.1).bind fun x9=>bif (!x9) then k5 50 else k5 x1.2 else k5 x1.2) (fun (y4:Int)=>bif (y4 == 0) then (qX n a0 x1.1).bind fun _=>some ((a0++([x1.1]:List Int)),y4) else some (a0,y4))
def aaI (n:Nat) (a0:(List Int)) (a1:(Option (List zk))) (a2:zh):Option ((List Int) × Int):=at1 n fun n=>
  (Zb n a0 a1 a2).bind fun (x2,x3)=>some (x2,x3)
def zG (n:Nat) (a0:(Option (List zk))) (a1:(Option (List zd))) (k8:((Option (List Int))→Option ((Option (List Int)) × Int))):Nat→(Option (List Int))→Int→Option ((Option (List Int)) × Int)
  | 0,_,_=>none
  | m23+1,none,y18=>bif (decide (y18 < ((sll a1).length:Int))) then (idx (sll a1) y18).bind fun x25=>(abI n a0 (zg x25)).bind (fun | (none,x29)=>bif (x29 != 0) then some (none,x29) else zG n a0 a1 k8 m23 none (IntKind.wrap .i64 (y18+1)) | (some x28,x29)=>bif (x29 != 0) then some ((some x28),x29) else zG n a0 a1 k8 m23 (some x28) (IntKind.wrap .i64 (y18+1))) else k8 none
  | m23+1,(some y17),y18=>bif (decide (y18 < ((sll a1).length:Int))) then (idx (sll a1) y18).bind fun x34=>(aaI n y17 a0 (zg x34)).bind fun (x37,x38)=>bif (x38 != 0) then some ((some x37),x38) else zG n a0 a1 k8 m23 (some x37) (IntKind.wrap .i64 (y18+1)) else k8 (some y17)
def Z9 (n:Nat) (a0:(Option (List zk))) (a1:(Option (List zd))):Option ((Option (List Int)) × Int):=at1 n fun n=>
  zD (fun (k8:(Option (List Int))→Option ((Option (List Int)) × Int))=>zG n a0 a1 k8 n none 0) (fun | none=>some (none,0) | (some y3)=>some ((some y3),0))
def abM (n:Nat) (a0:Int):Option (Unit):=at1 n fun n=>
  (QD n 2).bind fun _=>some ()
def Zq (n:Nat) (a0:(Option (List zk))) (a1:zh):Option ((Option (List Int)) × Int):=at1 n fun n=>
  (QZ n a1 a0).bind fun x1=>zD (fun k5=>bif (x1.2 == 0) then (qK n x1.1).bind fun x9=>bif (!x9) then k5 50 else k5 x1.2 else k5 x1.2) (fun (y4:Int)=>bif (y4 == 0) then (abM n x1.1).bind fun _=>some ((some ([2]:List Int)),y4) else some (none,y4))
def QX (n:Nat) (a0:Int):Option (Bool):=at1 n fun n=>
  some ((a0 == 0) || (a0 == 2))
def abR (n:Nat) (a0:Int):Option (Unit):=at1 n fun n=>
  (QD n 2).bind fun _=>some ()
def Zk (n:Nat) (a0:(Option (List zk))) (a1:zh):Option ((Option (List Int)) × Int):=at1 n fun n=>
  (QZ n a1 a0).bind fun x1=>zD (fun k5=>bif (x1.2 == 0) then (QX n x1.1).bind fun x9=>bif (!x9) then k5 50 else k5 x1.2 else k5 x1.2) (fun (y4:Int)=>bif (y4 == 0) then (abR n x1.1).bind fun _=>some ((some ([2]:List Int)),y4) else some (none,y4))
def abG (n:Nat) (a0:(Option (List zk))) (a1:zK):Option ((Option (List Int)) × Int):=at1 n fun n=>
  bif (a1.fKind == 1) then (Zq n a0 a1.fOf).bind (fun | (none,x4)=>some (none,x4) | (some x3,x4)=>some ((some x3),x4)) else bif (a1.fKind == 2) then (Zk n a0 a1.fOf).bind (fun | (none,x10)=>some (none,x10) | (some x9,x10)=>some ((some x9),x10)) else (Zd n a0 a1.fOf).bind (fun | (none,x15)=>some (none,x15) | (some x14,x15)=>some ((some x14),x15))
def aaX (n:Nat) (a0:(List Int)) (a1:Int):Option (Unit):=at1 n fun n=>
  (qX n a0 2).bind fun _=>some ()
def Zj (n:Nat) (a0:(List Int)) (a1:(Option (List zk))) (a2:zh):Option ((List Int) × Int):=at1 n fun n=>
  (QZ n a2 a1).bind fun x1=>zD (fun k5=>bif (x1.2 == 0) then (qK n x1.1).bind fun x9=>bif (!x9) then k5 50 else k5 x1.2 else k5 x1.2) (fun (y4:Int)=>bif (y4 == 0) then (aaX n a0 x1.1).bind fun _=>some ((a0++([2]:List Int)),y4) else some (a0,y4))
def aa1 (n:Nat) (a0:(List Int)) (a1:Int):Option (Unit):=at1 n fun n=>
  (qX n a0 2).bind fun _=>some ()
def Ze (n:Nat) (a0:(List Int)) (a1:(Option (List zk))) (a2:zh):Option ((List Int) × Int):=at1 n fun n=>
  (QZ n a2 a1).bind fun x1=>zD (fun k5=>bif (x1.2 == 0) then (QX n x1.1).bind fun x9=>bif (!x9) then k5 50 else k5 x1.2 else k5 x1.2) (fun (y4:Int)=>bif (y4 == 0) then (aa1 n a0 x1.1).bind fun _=>some ((a0++([2]:List Int)),y4) else some (a0,y4))
def QY (n:Nat) (a0:(List Int)) (a1:(Option (List zk))) (a2:zK):Option ((List Int) × Int):=at1 n fun n=>
  bif (a2.fKind == 1) then (Zj n a0 a1 a2.fOf).bind fun (x3,x4)=>some (x3,x4) else bif (a2.fKind == 2) then (Ze n a0 a1 a2.fOf).bind fun (x11,x12)=>some (x11,x12) else (Zb n a0 a1 a2.fOf).bind fun (x18,x19)=>some (x18,x19)
def zH (n:Nat) (a0:(Option (List zk))) (a1:(Option (List zK))) (k8:((Option (List Int))→Option ((Option (List Int)) × Int))):Nat→(Option (List Int))→Int→Option ((Option (List Int)) × Int)
  | 0,_,_=>none
  | m25+1,none,y20=>bif (decide (y20 < ((sll a1).length:Int))) then (idx (sll a1) y20).bind fun x27=>(abG n a0 x27).bind (fun | (none,x31)=>bif (x31 != 0) then some (none,x31) else zH n a0 a1 k8 m25 none (IntKind.wrap .i64 (y20+1)) | (some x30,x31)=>bif (x31 != 0) then some ((some x30),x31) else zH n a0 a1 k8 m25 (some x30) (IntKind.wrap .i64 (y20+1))) else k8 none
  | m25+1,(some y19),y20=>bif (decide (y20 < ((sll a1).length:Int))) then (idx (sll a1) y20).bind fun x38=>(QY n y19 a0 x38).bind fun (x41,x42)=>bif (x42 != 0) then some ((some x41),x42) else zH n a0 a1 k8 m25 (some x41) (IntKind.wrap .i64 (y20+1)) else k8 (some y19)
def ZU (n:Nat) (a0:(Option (List zk))) (a1:(Option (List zK))):Option ((Option (List Int)) × Int):=at1 n fun n=>
  zD (fun (k8:(Option (List Int))→Option ((Option (List Int)) × Int))=>zH n a0 a1 k8 n none 0) (fun | none=>some (none,0) | (some y3)=>some ((some y3),0))
def Zp (n:Nat) (a1:(Option (List zk))) (a2:(Option (List zK))) (k8:((List Int)→Option ((List Int) × Int))):Nat→(List Int)→Int→Option ((List Int) × Int)
  | 0,_,_=>none
  | m21+1,y15,y16=>bif (decide (y16 < ((sll a2).length:Int))) then (idx (sll a2) y16).bind fun x23=>(QY n y15 a1 x23).bind fun (x26,x27)=>bif (x27 != 0) then some (x26,x27) else Zp n a1 a2 k8 m21 x26 (IntKind.wrap .i64 (y16+1)) else k8 y15
def ZL (n:Nat) (a0:(List Int)) (a1:(Option (List zk))) (a2:(Option (List zK))):Option ((List Int) × Int):=at1 n fun n=>
  zD (fun k8=>Zp n a1 a2 k8 n a0 0) (fun (y1:(List Int))=>some (y1,0))
def qH (n:Nat) (a0:zx) (a1:(Option (List zk))):Option ((Option (List Int)) × Int):=at1 n fun n=>
  (aaw n (zx.mk a0.fRels a0.fWhere a0.fGrouped a0.fOut a0.fAggs a0.fOrder) a1).bind fun x1=>bif (x1.2 != 0) then some (none,x1.2) else (Q5 n (zx.mk a0.fRels a0.fWhere a0.fGrouped a0.fOut a0.fAggs a0.fOrder)).bind fun x4=>bif (!x4) then some (none,2) else (Zs n x1.1 a0.fWhere).bind fun x8=>zD (fun (k16:(Option (List Int))→Int→Option ((Option (List Int)) × Int))=>bif (x8 == 0) then (Z9 n x1.1 a0.fOut).bind (fun | (none,x64)=>k16 none x64 | (some x63,x64)=>k16 (some x63) x64) else k16 none x8) (fun | none,y11=>zD (fun (k28:(Option (List Int))→Int→Option ((Option (List Int)) × Int))=>bif (y11 == 0) then (ZU n x1.1 a0.fAggs).bind (fun | (none,x34)=>k28 none x34 | (some x33,x34)=>k28 (some x33) x34) else k28 none y11) (fun | none,y23=>bif (y23 != 0) then some (none,y23) else some (none,0) | (some y22),y23=>bif (y23 != 0) then some (none,y23) else some ((some y22),0)) | (some y10),y11=>zD (fun k51=>bif (y11 == 0) then (ZL n y10 x1.1 a0.fAggs).bind fun (x55,x56)=>k51 x55 x56 else k51 y10 y11) (fun (y45:(List Int)) (y46:Int)=>bif (y46 != 0) then some (none,y46) else some ((some y45),0)))
def aer (n:Nat) (a0:Int):Option (Int):=at1 n fun n=>
  bif (a0 == 1) then some 0 else zD (fun k3=>bif (a0 == 5) then k3 (a0 == 5) else bif (a0 == 6) then k3 (a0 == 6) else k3 (a0 == 7)) (fun (y2:Bool)=>bif y2 then some 1 else bif (a0 == 2) then bif (a0 == 2) then some 2 else some (-1) else bif (a0 == 3) then bif (a0 == 3) then some 2 else some (-1) else bif (a0 == 4) then some 2 else some (-1))
def adF (n:Nat) (a0:zl):Option (Bool):=at1 n fun n=>
  zD (fun k7=>zD (fun k9=>zD (fun k12=>bif (a0.fKind == 3) then bif (a0.fKind == 3) then k9 () else k12 () else bif (a0.fKind == 4) then k9 () else k12 ()) (fun (_:Unit)=>bif (a0.fKind == 1) then bif (a0.fKind == 1) then k7 0 (IntKind.wrap .i64 (((sll a0.fLeft).length:Int)+((sll a0.fRight).length:Int))) ((sll a0.fOut).length:Int) ((sll a0.fAggs).length:Int) ((sll a0.fOrder).length:Int) else bif (a0.fKind == 6) then bif (((sll a0.fOut).length:Int) == 0) then some false else k7 ((sll a0.fWhere).length:Int) (IntKind.wrap .i64 (((sll a0.fLeft).length:Int)+((sll a0.fRight).length:Int))) 0 ((sll a0.fAggs).length:Int) ((sll a0.fOrder).length:Int) else bif (a0.fKind == 5) then k7 ((sll a0.fWhere).length:Int) (IntKind.wrap .i64 (((sll a0.fLeft).length:Int)+((sll a0.fRight).length:Int))) 0 0 ((sll a0.fOrder).length:Int) else bif (a0.fKind == 7) then bif (((sll a0.fOrder).length:Int) == 0) then some false else k7 ((sll a0.fWhere).length:Int) (IntKind.wrap .i64 (((sll a0.fLeft).length:Int)+((sll a0.fRight).length:Int))) ((sll a0.fOut).length:Int) ((sll a0.fAggs).length:Int) 0 else k7 ((sll a0.fWhere).length:Int) (IntKind.wrap .i64 (((sll a0.fLeft).length:Int)+((sll a0.fRight).length:Int))) ((sll a0.fOut).length:Int) ((sll a0.fAggs).length:Int) ((sll a0.fOrder).length:Int) else bif (a0.fKind == 2) then k7 0 (IntKind.wrap .i64 (((sll a0.fLeft).length:Int)+((sll a0.fRight).length:Int))) ((sll a0.fOut).length:Int) ((sll a0.fAggs).length:Int) ((sll a0.fOrder).length:Int) else bif (a0.fKind == 6) then bif (((sll a0.fOut).length:Int) == 0) then some false else k7 ((sll a0.fWhere).length:Int) (IntKind.wrap .i64 (((sll a0.fLeft).length:Int)+((sll a0.fRight).length:Int))) 0 ((sll a0.fAggs).length:Int) ((sll a0.fOrder).length:Int) else bif (a0.fKind == 5) then k7 ((sll a0.fWhere).length:Int) (IntKind.wrap .i64 (((sll a0.fLeft).length:Int)+((sll a0.fRight).length:Int))) 0 0 ((sll a0.fOrder).length:Int) else bif (a0.fKind == 7) then bif (((sll a0.fOrder).length:Int) == 0) then some false else k7 ((sll a0.fWhere).length:Int) (IntKind.wrap .i64 (((sll a0.fLeft).length:Int)+((sll a0.fRight).length:Int))) ((sll a0.fOut).length:Int) ((sll a0.fAggs).length:Int) 0 else k7 ((sll a0.fWhere).length:Int) (IntKind.wrap .i64 (((sll a0.fLeft).length:Int)+((sll a0.fRight).length:Int))) ((sll a0.fOut).length:Int) ((sll a0.fAggs).length:Int) ((sll a0.fOrder).length:Int))) (fun (_:Unit)=>bif ((((sll a0.fLeft).length:Int) != ((sll a0.fRight).length:Int)) || (((sll a0.fLeft).length:Int) == 0)) then some false else k7 0 0 ((sll a0.fOut).length:Int) ((sll a0.fAggs).length:Int) ((sll a0.fOrder).length:Int))) (fun (y2:Int) (y3:Int) (y4:Int) (y5:Int) (y6:Int)=>some ((IntKind.wrap .i64 ((IntKind.wrap .i64 ((IntKind.wrap .i64 ((IntKind.wrap .i64 (y2+y3))+y4))+y5))+y6)) == 0))
def abq (n:Nat) (a0:zh):Option (Bool):=at1 n fun n=>
  (abo n a0).bind fun x1=>some (!x1)
def zM (n:Nat) (a0:(Option (List zd))) (k3:(Unit→Option (Int))):Nat→Int→Option (Int)
  | 0,_=>none
  | m6+1,y5=>bif (decide (y5 < ((sll a0).length:Int))) then (idx (sll a0) y5).bind fun x8=>(abq n (zg x8)).bind fun x10=>bif x10 then some y5 else zM n a0 k3 m6 (IntKind.wrap .i64 (y5+1)) else k3 ()
def qa (n:Nat) (a0:(Option (List zd))):Option (Int):=at1 n fun n=>
  zD (fun k3=>zM n a0 k3 n 0) (fun (_:Unit)=>some (-1))
def Zr (n:Nat) (a0:(Option (List zd))):Option (Bool):=at1 n fun n=>
  (qa n a0).bind fun x1=>some (decide (x1≥0))
def aci (n:Nat) (a0:zK):Option (Bool):=at1 n fun n=>
  bif ((decide (a0.fKind < 1)) || (decide (a0.fKind > 4))) then some true else (abo n a0.fOf).bind fun x2=>some (!x2)
def zO (n:Nat) (a0:(Option (List zK))) (k3:(Unit→Option (Int))):Nat→Int→Option (Int)
  | 0,_=>none
  | m6+1,y5=>bif (decide (y5 < ((sll a0).length:Int))) then (idx (sll a0) y5).bind fun x8=>(aci n x8).bind fun x10=>bif x10 then some y5 else zO n a0 k3 m6 (IntKind.wrap .i64 (y5+1)) else k3 ()
def qg (n:Nat) (a0:(Option (List zK))):Option (Int):=at1 n fun n=>
  zD (fun k3=>zO n a0 k3 n 0) (fun (_:Unit)=>some (-1))
def Zv (n:Nat) (a0:(Option (List zK))):Option (Bool):=at1 n fun n=>
  (qg n a0).bind fun x1=>some (decide (x1≥0))
def adr (n:Nat) (a0:Zn):Option (Bool):=at1 n fun n=>
  some ((decide (a0.fOut < 0)) || (decide (a0.fOut > 29)))
def zP (n:Nat) (a0:(Option (List Zn))) (k3:(Unit→Option (Int))):Nat→Int→Option (Int)
  | 0,_=>none
  | m6+1,y5=>bif (decide (y5 < ((sll a0).length:Int))) then (idx (sll a0) y5).bind fun x8=>(adr n x8).bind fun x10=>bif x10 then some y5 else zP n a0 k3 m6 (IntKind.wrap .i64 (y5+1)) else k3 ()
def qh (n:Nat) (a0:(Option (List Zn))):Option (Int):=at1 n fun n=>
  zD (fun k3=>zP n a0 k3 n 0) (fun (_:Unit)=>some (-1))
def Zu (n:Nat) (a0:(Option (List Zn))):Option (Bool):=at1 n fun n=>
  (qh n a0).bind fun x1=>some (decide (x1≥0))
def qM (n:Nat) (a0:zl) (k3:(Unit→Option (Bool))):Nat→Int→Option (Bool)
  | 0,_=>none
  | m14+1,y13=>bif (decide (y13 < 4)) then (idx ([a0.fWhere,a0.fLeft,a0.fRight,a0.fOut]:List (Option (List zd))) y13).bind fun x16=>bif (decide (((sll x16).length:Int) > 60)) then some false else (Zr n x16).bind fun x19=>bif x19 then some false else qM n a0 k3 m14 (IntKind.wrap .i64 (y13+1)) else k3 ()
def adN (n:Nat) (a0:zl):Option (Bool):=at1 n fun n=>
  zD (fun k3=>qM n a0 k3 n 0) (fun (_:Unit)=>bif (decide (((sll a0.fAggs).length:Int) > 60)) then some false else (Zv n a0.fAggs).bind fun x5=>bif x5 then some false else bif (decide (((sll a0.fOrder).length:Int) > 60)) then some false else (Zu n a0.fOrder).bind fun x9=>bif x9 then some false else some (((decide (a0.fRel≥0)) && (decide (a0.fRel < 12))) && ((a0.fKind == 1) || (a0.fRel == 0))))
def aaP (n:Nat) (rc_plan_count:(Nat→zl→Int→Int→Option (Int))) (a0:zl) (a1:Int) (k15:(Int→Option (Int))):Nat→Int→Int→Option (Int)
  | 0,_,_=>none
  | m20+1,y18,y19=>bif (decide (y19 < ((sll a0.fKids).length:Int))) then (idx (sll a0.fKids) y19).bind fun x22=>(rc_plan_count n (zr x22) (IntKind.wrap .i64 (a1+1)) y18).bind fun x24=>bif (decide (x24 < 0)) then some (-1) else aaP n rc_plan_count a0 a1 k15 m20 x24 (IntKind.wrap .i64 (y19+1)) else k15 y18
def aay (rc_plan_count:(Nat→zl→Int→Int→Option (Int))) (n:Nat) (a0:zl) (a1:Int) (a2:Int):Option (Int):=at1 n fun n=>
  bif (decide (a1 > 24)) then some (-1) else bif (decide (a2 < 1)) then some (-1) else (aer n a0.fKind).bind fun x3=>bif (x3 != ((sll a0.fKids).length:Int)) then some (-1) else (adF n (zl.mk a0.fKind a0.fRel a0.fWhere a0.fLeft a0.fRight a0.fOut a0.fAggs a0.fOrder a0.fKids)).bind fun x6=>bif (!x6) then some (-1) else (adN n a0).bind fun x9=>bif (!x9) then some (-1) else zD (fun k15=>aaP n rc_plan_count a0 a1 k15 n (IntKind.wrap .i64 (a2 - 1)) 0) (fun (y12:Int)=>some y12)
def Qm:Nat→Nat→zl→Int→Int→Option (Int)
  | 0=>fun _ _ _ _=>none
  | m+1=>aay (Qm m)
def agp (n:Nat) (a0:zl) (a1:Int) (a2:Int):Option (Int):=Qm n n a0 a1 a2
def aan (n:Nat) (a0:zl):Option (Bool):=at1 n fun n=>
  (agp n a0 1 40).bind fun x1=>some (decide (x1≥0))
def Z3 (n:Nat) (a0:(Option (List Zn))) (a1:(Option (List Zn))) (k4:(Unit→Option (Bool))):Nat→Int→Option (Bool)
  | 0,_=>none
  | m7+1,y6=>bif (decide (y6 < ((sll a0).length:Int))) then (idx (sll a0) y6).bind fun x9=>(idx (sll a1) y6).bind fun x11=>bif (!((x9.fOut == x11.fOut) && ((x9.fDesc == x11.fDesc) && true))) then some false else Z3 n a0 a1 k4 m7 (IntKind.wrap .i64 (y6+1)) else k4 ()
def aag (n:Nat) (a0:(Option (List Zn))) (a1:(Option (List Zn))):Option (Bool):=at1 n fun n=>
  bif (((sll a0).length:Int) != ((sll a1).length:Int)) then some false else zD (fun k4=>Z3 n a0 a1 k4 n 0) (fun (_:Unit)=>some true)
def acE (n:Nat) (a0:Nat):Option (Bool):=at1 n fun n=>
  some ((FloatKind.format .f64).order a0 a0 != some .eq)
def ab1 (n:Nat) (a0:zq):Option (zq):=at1 n fun n=>
  (ab2 n a0).bind fun x1=>bif (!x1) then some (zq.mk 0 0 0 ByteArray.empty) else zD (fun k5=>bif (a0.fKind == 3) then (acE n a0.fFloat).bind fun x9=>k5 x9 else k5 false) (fun (y4:Bool)=>bif y4 then some (zq.mk a0.fKind a0.fInt (Int.toNat 9221120237041090561) a0.fText) else bif ((a0.fKind == 3) && ((FloatKind.format .f64).order a0.fFloat 0 == some .eq)) then some (zq.mk a0.fKind a0.fInt 0 a0.fText) else some a0)
def abK (n:Nat) (a0:Int):Option (Bool):=at1 n fun n=>
  some (a0 != a0)
def aaO (n:Nat) (a0:Int) (a1:Int):Option (Int):=at1 n fun n=>
  (abK n a0).bind fun x1=>(abK n a1).bind fun x3=>bif x1 then bif x3 then some 0 else some (-1) else bif x3 then some 1 else bif (decide (a0 < a1)) then some (-1) else bif (decide (a0 > a1)) then some 1 else some 0
def adp (n:Nat) (a0:Nat) (a1:Nat):Option (Int):=at1 n fun n=>
  (acE n a0).bind fun x1=>(acE n a1).bind fun x3=>bif (x1 && x3) then some 0 else bif x1 then some 1 else bif x3 then some (-1) else bif ((FloatKind.format .f64).order a0 a1 == some .lt) then some (-1) else bif ((FloatKind.format .f64).order a0 a1 == some .gt) then some 1 else some 0
def aaj (n:Nat) (a0:ByteArray):Option (Bool):=at1 n fun n=>
  some (!(sEq a0 a0))
def QN (n:Nat) (a0:ByteArray) (a1:ByteArray):Option (Int):=at1 n fun n=>
  (aaj n a0).bind fun x1=>(aaj n a1).bind fun x3=>bif x1 then bif x3 then some 0 else some (-1) else bif x3 then some 1 else bif (sLt a0 a1) then some (-1) else bif (!(sLt a0 a1 || sEq a0 a1)) then some 1 else some 0
def aaL (n:Nat) (a0:Int):Option (Bool):=at1 n fun n=>
  some (a0 != a0)
def Q6 (n:Nat) (a0:Int) (a1:Int):Option (Int):=at1 n fun n=>
  (aaL n a0).bind fun x1=>(aaL n a1).bind fun x3=>bif x1 then bif x3 then some 0 else some (-1) else bif x3 then some 1 else bif (decide (a0 < a1)) then some (-1) else bif (decide (a0 > a1)) then some 1 else some 0
def aeD (n:Nat) (a0:zq) (a1:zq):Option (Int):=at1 n fun n=>
  (ab1 n a0).bind fun x1=>(ab1 n a1).bind fun x3=>bif (x1.fKind != x3.fKind) then (aaO n x1.fKind x3.fKind).bind fun x6=>some x6 else bif (x1.fKind == 3) then (adp n x1.fFloat x3.fFloat).bind fun x9=>some x9 else bif (x1.fKind == 4) then (QN n x1.fText x3.fText).bind fun x12=>some x12 else (Q6 n x1.fInt x3.fInt).bind fun x14=>some x14
def adI (n:Nat) (a0:zq) (a1:zq):Option (Bool):=at1 n fun n=>
  (aeD n a0 a1).bind fun x1=>some (x1 == 0)
def qy (rc_slices_EqualFunc_Expr_expr_Same:(Nat→(Option (List zd))→(Option (List zd))→Option (Bool))) (n:Nat) (a0:zh) (a1:zh):Option (Bool):=at1 n fun n=>
  bif ((((a0.fKind == a1.fKind) && (a0.fRel == a1.fRel)) && (a0.fCol == a1.fCol)) && (a0.fConst.fKind == a1.fConst.fKind)) then (adI n a0.fConst a1.fConst).bind fun x2=>bif x2 then (rc_slices_EqualFunc_Expr_expr_Same n a0.fKids a1.fKids).bind fun x5=>some x5 else some false else some false
def zT (n:Nat) (rc_slices_EqualFunc_Expr_expr_Same:(Nat→(Option (List zd))→(Option (List zd))→Option (Bool))) (a0:(Option (List zd))) (a1:(Option (List zd))) (k4:(Unit→Option (Bool))):Nat→Int→Option (Bool)
  | 0,_=>none
  | m7+1,y6=>bif (decide (y6 < ((sll a0).length:Int))) then (idx (sll a0) y6).bind fun x9=>(idx (sll a1) y6).bind fun x11=>(qy rc_slices_EqualFunc_Expr_expr_Same n (zg x9) (zg x11)).bind fun x13=>bif (!x13) then some false else zT n rc_slices_EqualFunc_Expr_expr_Same a0 a1 k4 m7 (IntKind.wrap .i64 (y6+1)) else k4 ()
def ZS (rc_slices_EqualFunc_Expr_expr_Same:(Nat→(Option (List zd))→(Option (List zd))→Option (Bool))) (n:Nat) (a0:(Option (List zd))) (a1:(Option (List zd))):Option (Bool):=at1 n fun n=>
  bif (((sll a0).length:Int) != ((sll a1).length:Int)) then some false else zD (fun k4=>zT n rc_slices_EqualFunc_Expr_expr_Same a0 a1 k4 n 0) (fun (_:Unit)=>some true)
def Zc:Nat→Nat→(Option (List zd))→(Option (List zd))→Option (Bool)
  | 0=>fun _ _ _=>none
  | m+1=>ZS (Zc m)
def zN (n:Nat) (a0:(Option (List zd))) (a1:(Option (List zd))):Option (Bool):=Zc n n a0 a1
def afN (n:Nat) (a0:zK) (a1:zK):Option (Bool):=at1 n fun n=>
  bif (a0.fKind == a1.fKind) then (qy zN n a0.fOf a1.fOf).bind fun x2=>some x2 else some false
def zW (n:Nat) (a0:(Option (List zK))) (a1:(Option (List zK))) (k4:(Unit→Option (Bool))):Nat→Int→Option (Bool)
  | 0,_=>none
  | m7+1,y6=>bif (decide (y6 < ((sll a0).length:Int))) then (idx (sll a0) y6).bind fun x9=>(idx (sll a1) y6).bind fun x11=>(afN n x9 x11).bind fun x13=>bif (!x13) then some false else zW n a0 a1 k4 m7 (IntKind.wrap .i64 (y6+1)) else k4 ()
def Zz (n:Nat) (a0:(Option (List zK))) (a1:(Option (List zK))):Option (Bool):=at1 n fun n=>
  bif (((sll a0).length:Int) != ((sll a1).length:Int)) then some false else zD (fun k4=>zW n a0 a1 k4 n 0) (fun (_:Unit)=>some true)
def aap (n:Nat) (a0:Int) (a1:zl):Option (Int):=at1 n fun n=>
  bif (((a1.fKind == 1) && (decide (a1.fRel≥0))) && (decide (a1.fRel < 32))) then (ckN (IntKind.wrap .u64 a1.fRel)).bind fun _=>some (iOr .u32 a0 (iShl .u32 1 (IntKind.wrap .u64 a1.fRel))) else some a0
def ZB (n:Nat) (rc_plan_walk_plan_Rels_1:(Nat→Int→zl→Option (Int))) (a1:zl) (k4:(Int→Option (Int))):Nat→Int→Int→Option (Int)
  | 0,_,_=>none
  | m11+1,y9,y10=>bif (decide (y10 < ((sll a1.fKids).length:Int))) then (idx (sll a1.fKids) y10).bind fun x13=>(rc_plan_walk_plan_Rels_1 n y9 (zr x13)).bind fun x16=>ZB n rc_plan_walk_plan_Rels_1 a1 k4 m11 x16 (IntKind.wrap .i64 (y10+1)) else k4 y9
def qG (rc_plan_walk_plan_Rels_1:(Nat→Int→zl→Option (Int))) (n:Nat) (a0:Int) (a1:zl):Option (Int):=at1 n fun n=>
  zD (fun k4=>ZB n rc_plan_walk_plan_Rels_1 a1 k4 n a0 0) (fun (y1:Int)=>(aap n y1 a1).bind fun x6=>some x6)
def qk:Nat→Nat→Int→zl→Option (Int)
  | 0=>fun _ _ _=>none
  | m+1=>qG (qk m)
def aaT (n:Nat) (a0:Int) (a1:zl):Option (Int):=qk n n a0 a1
def Qe (n:Nat) (a0:zl):Option (Int):=at1 n fun n=>
  (aaT n 0 a0).bind fun x2=>some x2
def aau (n:Nat) (rc_expr_Rels:(Nat→zh→Option (Int))) (a0:zh) (k7:(Int→Option (Int))):Nat→Int→Int→Option (Int)
  | 0,_,_=>none
  | m12+1,y10,y11=>bif (decide (y10 < ((sll a0.fKids).length:Int))) then (idx (sll a0.fKids) y10).bind fun x14=>(rc_expr_Rels n (zg x14)).bind fun x16=>aau n rc_expr_Rels a0 k7 m12 (IntKind.wrap .i64 (y10+1)) (iOr .u32 y11 x16) else k7 y11
def acY (rc_expr_Rels:(Nat→zh→Option (Int))) (n:Nat) (a0:zh):Option (Int):=at1 n fun n=>
  zD (fun k3=>bif (((a0.fKind == 1) && (decide (a0.fRel≥0))) && (decide (a0.fRel≤31))) then (ckN (IntKind.wrap .u64 a0.fRel)).bind fun _=>k3 (iShl .u32 1 (IntKind.wrap .u64 a0.fRel)) else k3 0) (fun (y2:Int)=>zD (fun k7=>aau n rc_expr_Rels a0 k7 n 0 y2) (fun (y6:Int)=>some y6))
def QE:Nat→Nat→zh→Option (Int)
  | 0=>fun _ _=>none
  | m+1=>acY (QE m)
def ahb (n:Nat) (a0:zh):Option (Int):=QE n n a0
def abF (n:Nat) (a0:zh) (a1:Int):Option (Bool):=at1 n fun n=>
  (ahb n a0).bind fun x1=>some ((afL .u32 x1 a1) != 0)
def zZ (n:Nat) (a0:(Option (List zd))) (a1:Int) (k3:(Unit→Option (Int))):Nat→Int→Option (Int)
  | 0,_=>none
  | m6+1,y5=>bif (decide (y5 < ((sll a0).length:Int))) then (idx (sll a0) y5).bind fun x8=>(abF n (zg x8) a1).bind fun x10=>bif x10 then some y5 else zZ n a0 a1 k3 m6 (IntKind.wrap .i64 (y5+1)) else k3 ()
def Z7 (n:Nat) (a0:(Option (List zd))) (a1:Int):Option (Int):=at1 n fun n=>
  zD (fun k3=>zZ n a0 a1 k3 n 0) (fun (_:Unit)=>some (-1))
def ZV (n:Nat) (a0:(Option (List zd))) (a1:Int):Option (Bool):=at1 n fun n=>
  (Z7 n a0 a1).bind fun x1=>some (decide (x1≥0))
def qm (n:Nat) (a0:(Option (List zd))) (a1:Int):Option (Bool):=at1 n fun n=>
  (ZV n a0 a1).bind fun x1=>some (!x1)
def ac1 (n:Nat) (a0:Int) (a1:Int) (a2:Bool) (a3:zl):Option (Int × Int × Bool):=at1 n fun n=>
  zD (fun k5=>bif (a3.fKind == 1) then (ckN (IntKind.wrap .u64 a3.fRel)).bind fun _=>k5 (IntKind.wrap .i64 (a0+1)) (iOr .u32 a1 (iShl .u32 1 (IntKind.wrap .u64 a3.fRel))) a2 else zD (fun k14=>bif (a3.fKind == 3) then k14 (a3.fKind == 3) else k14 (a3.fKind == 4)) (fun (y13:Bool)=>bif y13 then bif a2 then (idx (sll a3.fKids) 0).bind fun x17=>(Qe n (zr x17)).bind fun x19=>(qm n a3.fLeft x19).bind fun x21=>bif x21 then (idx (sll a3.fKids) 1).bind fun x24=>(Qe n (zr x24)).bind fun x26=>(qm n a3.fRight x26).bind fun x28=>k5 a0 a1 x28 else k5 a0 a1 false else k5 a0 a1 false else bif (a3.fKind == 2) then k5 a0 a1 a2 else k5 a0 a1 false)) (fun (y2:Int) (y3:Int) (y4:Bool)=>bif y4 then (Qe n a3).bind fun x7=>(qm n a3.fWhere x7).bind fun x9=>some (y2,y3,x9) else some (y2,y3,false))
def ZZ (n:Nat) (rc_plan_walk_plan_join_1:(Nat→Int→Int→Bool→zl→Option (Int × Int × Bool))) (a3:zl) (k6:(Int→Int→Bool→Option (Int × Int × Bool))):Nat→Int→Int→Bool→Int→Option (Int × Int × Bool)
  | 0,_,_,_,_=>none
  | m19+1,y15,y16,y17,y18=>bif (decide (y18 < ((sll a3.fKids).length:Int))) then (idx (sll a3.fKids) y18).bind fun x21=>(rc_plan_walk_plan_join_1 n y15 y16 y17 (zr x21)).bind fun (x24,x25,x26)=>ZZ n rc_plan_walk_plan_join_1 a3 k6 m19 x24 x25 x26 (IntKind.wrap .i64 (y18+1)) else k6 y15 y16 y17
def qI (rc_plan_walk_plan_join_1:(Nat→Int→Int→Bool→zl→Option (Int × Int × Bool))) (n:Nat) (a0:Int) (a1:Int) (a2:Bool) (a3:zl):Option (Int × Int × Bool):=at1 n fun n=>
  zD (fun k6=>ZZ n rc_plan_walk_plan_join_1 a3 k6 n a0 a1 a2 0) (fun (y1:Int) (y2:Int) (y3:Bool)=>(ac1 n y1 y2 y3 a3).bind fun (x8,x9,x10)=>some (x8,x9,x10))
def ql:Nat→Nat→Int→Int→Bool→zl→Option (Int × Int × Bool)
  | 0=>fun _ _ _ _ _=>none
  | m+1=>qI (ql m)
def acw (n:Nat) (a0:Int) (a1:Int) (a2:Bool) (a3:zl):Option (Int × Int × Bool):=ql n n a0 a1 a2 a3
def acH (n:Nat) (a0:zl) (a1:Int):Option (Bool):=at1 n fun n=>
  (acw n 0 0 true a0).bind fun (x2,x3,x4)=>bif (x4 && (x2 == a1)) then (ckN (IntKind.wrap .u64 a1)).bind fun _=>some (x3 == (IntKind.wrap .u32 ((iShl .u32 1 (IntKind.wrap .u64 a1)) - 1))) else some false
def Z4 (n:Nat) (rc_expr_Copy:(Nat→zh→Option (zh))) (a0:zh) (k4:((Option (List zd))→Option (zh))):Nat→(Option (List zd))→Int→Option (zh)
  | 0,_,_=>none
  | m10+1,none,y9=>bif (decide (y9 < ((sll a0.fKids).length:Int))) then (idx (sll a0.fKids) y9).bind fun x12=>(rc_expr_Copy n (zg x12)).bind fun x14=>(ckA 88 ([(zi x14)]:List zd).length).bind fun _=>Z4 n rc_expr_Copy a0 k4 m10 (some ([(zi x14)]:List zd)) (IntKind.wrap .i64 (y9+1)) else k4 none
  | m10+1,(some y8),y9=>bif (decide (y9 < ((sll a0.fKids).length:Int))) then (idx (sll a0.fKids) y9).bind fun x18=>(rc_expr_Copy n (zg x18)).bind fun x20=>(ckA 88 (y8++([(zi x20)]:List zd)).length).bind fun _=>Z4 n rc_expr_Copy a0 k4 m10 (some (y8++([(zi x20)]:List zd))) (IntKind.wrap .i64 (y9+1)) else k4 (some y8)
def ac2 (rc_expr_Copy:(Nat→zh→Option (zh))) (n:Nat) (a0:zh):Option (zh):=at1 n fun n=>
  zD (fun (k4:(Option (List zd))→Option (zh))=>Z4 n rc_expr_Copy a0 k4 n none 0) (fun | none=>some (zh.mk a0.fKind a0.fRel a0.fCol a0.fConst none) | (some y3)=>some (zh.mk a0.fKind a0.fRel a0.fCol a0.fConst (some y3)))
def aar:Nat→Nat→zh→Option (zh)
  | 0=>fun _ _=>none
  | m+1=>ac2 (aar m)
def Z1 (n:Nat) (a0:zh):Option (zh):=aar n n a0
def zV (n:Nat) (a0:zl):Nat→(Option (List zd))→Int→Option ((Option (List zd)))
  | 0,_,_=>none
  | m26+1,none,y21=>bif (decide (y21 < (if ((sll a0.fRight).length:Int) < ((sll a0.fLeft).length:Int) then ((sll a0.fRight).length:Int) else ((sll a0.fLeft).length:Int)))) then (idx (sll a0.fLeft) y21).bind fun x28=>(Z1 n (zg x28)).bind fun x30=>(idx (sll a0.fRight) y21).bind fun x32=>(Z1 n (zg x32)).bind fun x34=>(ckA 88 ([(zi (zh.mk 0 0 0 (zq.mk 0 0 0 ByteArray.empty) none))]:List zd).length).bind fun _=>(idx ([(zi (zh.mk 0 0 0 (zq.mk 0 0 0 ByteArray.empty) none))]:List zd) 0).bind fun x37=>zV n a0 m26 (some (([(zi (zh.mk 0 0 0 (zq.mk 0 0 0 ByteArray.empty) none))]:List zd).set (Int.toNat 0) (zi (zh.mk 7 0 0 (zq.mk 0 0 0 ByteArray.empty) (some ([(zi x30),(zi x34)]:List zd)))))) (IntKind.wrap .i64 (y21+1)) else some none
  | m26+1,(some y20),y21=>bif (decide (y21 < (if ((sll a0.fRight).length:Int) < ((sll a0.fLeft).length:Int) then ((sll a0.fRight).length:Int) else ((sll a0.fLeft).length:Int)))) then (idx (sll a0.fLeft) y21).bind fun x40=>(Z1 n (zg x40)).bind fun x42=>(idx (sll a0.fRight) y21).bind fun x44=>(Z1 n (zg x44)).bind fun x46=>(ckA 88 (y20++([(zi (zh.mk 0 0 0 (zq.mk 0 0 0 ByteArray.empty) none))]:List zd)).length).bind fun _=>(idx (y20++([(zi (zh.mk 0 0 0 (zq.mk 0 0 0 ByteArray.empty) none))]:List zd)) (y20.length:Int)).bind fun x49=>zV n a0 m26 (some ((y20++([(zi (zh.mk 0 0 0 (zq.mk 0 0 0 ByteArray.empty) none))]:List zd)).set (Int.toNat (y20.length:Int)) (zi (zh.mk 7 0 0 (zq.mk 0 0 0 ByteArray.empty) (some ([(zi x42),(zi x46)]:List zd)))))) (IntKind.wrap .i64 (y21+1)) else some (some y20)
def ZA (n:Nat) (a0:zl):Nat→(List zd)→Int→Option ((Option (List zd)))
  | 0,_,_=>none
  | m64+1,y58,y59=>bif (decide (y59 < (if ((sll a0.fRight).length:Int) < ((sll a0.fLeft).length:Int) then ((sll a0.fRight).length:Int) else ((sll a0.fLeft).length:Int)))) then (idx (sll a0.fLeft) y59).bind fun x66=>(Z1 n (zg x66)).bind fun x68=>(idx (sll a0.fRight) y59).bind fun x70=>(Z1 n (zg x70)).bind fun x72=>(ckA 88 (y58++([(zi (zh.mk 0 0 0 (zq.mk 0 0 0 ByteArray.empty) none))]:List zd)).length).bind fun _=>(idx (y58++([(zi (zh.mk 0 0 0 (zq.mk 0 0 0 ByteArray.empty) none))]:List zd)) (y58.length:Int)).bind fun x75=>ZA n a0 m64 ((y58++([(zi (zh.mk 0 0 0 (zq.mk 0 0 0 ByteArray.empty) none))]:List zd)).set (Int.toNat (y58.length:Int)) (zi (zh.mk 7 0 0 (zq.mk 0 0 0 ByteArray.empty) (some ([(zi x68),(zi x72)]:List zd))))) (IntKind.wrap .i64 (y59+1)) else some (some y58)
def Zf (n:Nat) (a0:zl) (k8:((Option (List zd))→Option ((Option (List zd))))):Nat→(Option (List zd))→Int→Option ((Option (List zd)))
  | 0,_,_=>none
  | m93+1,none,y88=>bif (decide (y88 < ((sll a0.fWhere).length:Int))) then (idx (sll a0.fWhere) y88).bind fun x95=>(Z1 n (zg x95)).bind fun x97=>(ckA 88 ([(zi (zh.mk 0 0 0 (zq.mk 0 0 0 ByteArray.empty) none))]:List zd).length).bind fun _=>(idx ([(zi (zh.mk 0 0 0 (zq.mk 0 0 0 ByteArray.empty) none))]:List zd) 0).bind fun x100=>Zf n a0 k8 m93 (some (([(zi (zh.mk 0 0 0 (zq.mk 0 0 0 ByteArray.empty) none))]:List zd).set (Int.toNat 0) (zi x97))) (IntKind.wrap .i64 (y88+1)) else k8 none
  | m93+1,(some y87),y88=>bif (decide (y88 < ((sll a0.fWhere).length:Int))) then (idx (sll a0.fWhere) y88).bind fun x103=>(Z1 n (zg x103)).bind fun x105=>(ckA 88 (y87++([(zi (zh.mk 0 0 0 (zq.mk 0 0 0 ByteArray.empty) none))]:List zd)).length).bind fun _=>(idx (y87++([(zi (zh.mk 0 0 0 (zq.mk 0 0 0 ByteArray.empty) none))]:List zd)) (y87.length:Int)).bind fun x108=>Zf n a0 k8 m93 (some ((y87++([(zi (zh.mk 0 0 0 (zq.mk 0 0 0 ByteArray.empty) none))]:List zd)).set (Int.toNat (y87.length:Int)) (zi x105))) (IntKind.wrap .i64 (y88+1)) else k8 (some y87)
def qQ (n:Nat) (a0:zl):Option ((Option (List zd))):=at1 n fun n=>
  zD (fun (k8:(Option (List zd))→Option ((Option (List zd))))=>Zf n a0 k8 n none 0) (fun | none=>bif ((a0.fKind != 3) && (a0.fKind != 4)) then some none else zV n a0 n none 0 | (some y3)=>bif ((a0.fKind != 3) && (a0.fKind != 4)) then some (some y3) else ZA n a0 n y3 0)
def Zl (n:Nat) (a1:zl):Nat→(List zd)→Int→Option ((List zd))
  | 0,_,_=>none
  | m22+1,y16,y17=>bif (decide (y17 < (if ((sll a1.fRight).length:Int) < ((sll a1.fLeft).length:Int) then ((sll a1.fRight).length:Int) else ((sll a1.fLeft).length:Int)))) then (idx (sll a1.fLeft) y17).bind fun x24=>(Z1 n (zg x24)).bind fun x26=>(idx (sll a1.fRight) y17).bind fun x28=>(Z1 n (zg x28)).bind fun x30=>(ckA 88 (y16++([(zi (zh.mk 0 0 0 (zq.mk 0 0 0 ByteArray.empty) none))]:List zd)).length).bind fun _=>(idx (y16++([(zi (zh.mk 0 0 0 (zq.mk 0 0 0 ByteArray.empty) none))]:List zd)) (y16.length:Int)).bind fun x33=>Zl n a1 m22 ((y16++([(zi (zh.mk 0 0 0 (zq.mk 0 0 0 ByteArray.empty) none))]:List zd)).set (Int.toNat (y16.length:Int)) (zi (zh.mk 7 0 0 (zq.mk 0 0 0 ByteArray.empty) (some ([(zi x26),(zi x30)]:List zd))))) (IntKind.wrap .i64 (y17+1)) else some y16
def ZR (n:Nat) (a1:zl) (k8:((List zd)→Option ((List zd)))):Nat→(List zd)→Int→Option ((List zd))
  | 0,_,_=>none
  | m47+1,y41,y42=>bif (decide (y42 < ((sll a1.fWhere).length:Int))) then (idx (sll a1.fWhere) y42).bind fun x49=>(Z1 n (zg x49)).bind fun x51=>(ckA 88 (y41++([(zi (zh.mk 0 0 0 (zq.mk 0 0 0 ByteArray.empty) none))]:List zd)).length).bind fun _=>(idx (y41++([(zi (zh.mk 0 0 0 (zq.mk 0 0 0 ByteArray.empty) none))]:List zd)) (y41.length:Int)).bind fun x54=>ZR n a1 k8 m47 ((y41++([(zi (zh.mk 0 0 0 (zq.mk 0 0 0 ByteArray.empty) none))]:List zd)).set (Int.toNat (y41.length:Int)) (zi x51)) (IntKind.wrap .i64 (y42+1)) else k8 y41
def ZM (n:Nat) (a0:(List zd)) (a1:zl):Option ((List zd)):=at1 n fun n=>
  zD (fun k8=>ZR n a1 k8 n a0 0) (fun (y1:(List zd))=>bif ((a1.fKind != 3) && (a1.fKind != 4)) then some y1 else Zl n a1 n y1 0)
def zY (n:Nat) (rc_plan_walk_plan_Applied_1_2:(Nat→(List zd)→zl→Option ((List zd)))) (a1:zl) (k8:((List zd)→Option ((List zd)))):Nat→(List zd)→Int→Option ((List zd))
  | 0,_,_=>none
  | m27+1,y21,y22=>bif (decide (y22 < ((sll a1.fKids).length:Int))) then (idx (sll a1.fKids) y22).bind fun x29=>(rc_plan_walk_plan_Applied_1_2 n y21 (zr x29)).bind fun x32=>zY n rc_plan_walk_plan_Applied_1_2 a1 k8 m27 x32 (IntKind.wrap .i64 (y22+1)) else k8 y21
def qe (rc_plan_walk_plan_Applied_1_2:(Nat→(List zd)→zl→Option ((List zd)))) (n:Nat) (a0:(List zd)) (a1:zl):Option ((List zd)):=at1 n fun n=>
  zD (fun k8=>zY n rc_plan_walk_plan_Applied_1_2 a1 k8 n a0 0) (fun (y1:(List zd))=>(ZM n y1 a1).bind fun x10=>some x10)
def ZG:Nat→Nat→(List zd)→zl→Option ((List zd))
  | 0=>fun _ _ _=>none
  | m+1=>qe (ZG m)
def QJ (n:Nat) (a0:(List zd)) (a1:zl):Option ((List zd)):=ZG n n a0 a1
def zB (n:Nat) (rc_plan_walk_plan_Applied_1:(Nat→zl→Option ((Option (List zd))))) (a0:zl) (k8:((Option (List zd))→Option ((Option (List zd))))):Nat→(Option (List zd))→Int→Option ((Option (List zd)))
  | 0,_,_=>none
  | m34+1,none,y29=>bif (decide (y29 < ((sll a0.fKids).length:Int))) then (idx (sll a0.fKids) y29).bind fun x36=>(rc_plan_walk_plan_Applied_1 n (zr x36)).bind (fun | none=>zB n rc_plan_walk_plan_Applied_1 a0 k8 m34 none (IntKind.wrap .i64 (y29+1)) | some x39=>zB n rc_plan_walk_plan_Applied_1 a0 k8 m34 (some x39) (IntKind.wrap .i64 (y29+1))) else k8 none
  | m34+1,(some y28),y29=>bif (decide (y29 < ((sll a0.fKids).length:Int))) then (idx (sll a0.fKids) y29).bind fun x46=>(QJ n y28 (zr x46)).bind fun x49=>zB n rc_plan_walk_plan_Applied_1 a0 k8 m34 (some x49) (IntKind.wrap .i64 (y29+1)) else k8 (some y28)
def qn (rc_plan_walk_plan_Applied_1:(Nat→zl→Option ((Option (List zd))))) (n:Nat) (a0:zl):Option ((Option (List zd))):=at1 n fun n=>
  zD (fun (k8:(Option (List zd))→Option ((Option (List zd))))=>zB n rc_plan_walk_plan_Applied_1 a0 k8 n none 0) (fun | none=>(qQ n a0).bind (fun | none=>some none | some x10=>some (some x10)) | (some y3)=>(ZM n y3 a0).bind fun x17=>some (some x17))
def ZP:Nat→Nat→zl→Option ((Option (List zd)))
  | 0=>fun _ _=>none
  | m+1=>qn (ZP m)
def Q9 (n:Nat) (a0:zl):Option ((Option (List zd))):=ZP n n a0
def aas (n:Nat) (a0:zl):Option ((Option (List zd))):=at1 n fun n=>
  (Q9 n a0).bind (fun | none=>some none | some x2=>some (some x2))
def Q7 (n:Nat) (a0:(Option (List zd))):Option ((Option (List zd))):=at1 n fun n=>
  bif (a0.isNone) then some none else bif (sll a0).isEmpty then (ckA 88 ([]:List zd).length).bind fun _=>some (some ([]:List zd)) else (ckA 88 (([]:List zd)++(sll a0)).length).bind fun _=>some (some (([]:List zd)++(sll a0)))
def abY (n:Nat) (a0:zh) (a1:zh):Option (Bool):=at1 n fun n=>
  (qy zN n a0 a1).bind fun x1=>bif x1 then some true else bif (a0.fKind == 7) then bif (a1.fKind == 7) then bif (((sll a0.fKids).length:Int) == 2) then bif (((sll a1.fKids).length:Int) == 2) then (idx (sll a0.fKids) 0).bind fun x8=>(idx (sll a1.fKids) 1).bind fun x10=>(qy zN n (zg x8) (zg x10)).bind fun x12=>bif x12 then (idx (sll a0.fKids) 1).bind fun x15=>(idx (sll a1.fKids) 0).bind fun x17=>(qy zN n (zg x15) (zg x17)).bind fun x19=>some x19 else some false else some false else some false else some false else some false
def ach (n:Nat) (a0:zh) (a1:Int) (a2:Int) (a3:Int) (a4:Int) (a5:Int) (a6:Nat) (a7:ByteArray) (a8:(Option (List zd))):Option (Bool):=at1 n fun n=>
  (abY n (zh.mk a1 a2 a3 (zq.mk a4 a5 a6 a7) a8) a0).bind fun x1=>some x1
def zL (n:Nat) (a0:(Option (List zd))) (a1:Int) (a2:Int) (a3:Int) (a4:Int) (a5:Int) (a6:Nat) (a7:ByteArray) (a8:(Option (List zd))) (k3:(Unit→Option (Int))):Nat→Int→Option (Int)
  | 0,_=>none
  | m6+1,y5=>bif (decide (y5 < ((sll a0).length:Int))) then (idx (sll a0) y5).bind fun x8=>(ach n (zg x8) a1 a2 a3 a4 a5 a6 a7 a8).bind fun x10=>bif x10 then some y5 else zL n a0 a1 a2 a3 a4 a5 a6 a7 a8 k3 m6 (IntKind.wrap .i64 (y5+1)) else k3 ()
def Zw (n:Nat) (a0:(Option (List zd))) (a1:Int) (a2:Int) (a3:Int) (a4:Int) (a5:Int) (a6:Nat) (a7:ByteArray) (a8:(Option (List zd))):Option (Int):=at1 n fun n=>
  zD (fun k3=>zL n a0 a1 a2 a3 a4 a5 a6 a7 a8 k3 n 0) (fun (_:Unit)=>some (-1))
def aaz (n:Nat) (a0:Int) (a1:Int):Option (Unit):=at1 n fun n=>
  (ckB a0 a1 0).bind fun _=>(ckB 0 0 (0:Int)).bind fun _=>bif (a0 == a1) then some () else (ckB 0 a0 (0:Int)).bind fun _=>(ckB a1 (0:Int) (0:Int)).bind fun _=>(ckB 0 0 (0:Int)).bind fun _=>some ()
def qS (n:Nat) (a0:(List zd)) (a1:Nat) (a2:Int) (a3:Int):Option ((List zd) × Nat):=at1 n fun n=>
  (ckB a2 a3 ((a1:Nat):Int)).bind fun _=>(ckB 0 ((a1:Nat):Int) (a1:Int)).bind fun _=>bif (a2 == a3) then some (a0,a1) else zD (fun k10=>(ckB 0 a2 (a0.length:Int)).bind fun _=>(ckB a3 ((a1:Nat):Int) (a0.length:Int)).bind fun _=>bif (subL a0 a3 ((a1:Nat):Int)).isEmpty then (ckA 88 a0.length).bind fun _=>k10 a0 (Int.toNat a2) else (ckB 0 (((Int.toNat a2)+(subL a0 a3 ((a1:Nat):Int)).length:Nat):Int) (a0.length:Int)).bind fun _=>k10 (a0.take (Int.toNat a2)++((subL a0 a3 ((a1:Nat):Int))++a0.drop ((Int.toNat a2)+(subL a0 a3 ((a1:Nat):Int)).length))) ((Int.toNat a2)+(subL a0 a3 ((a1:Nat):Int)).length)) (fun (y4:(List zd)) (y5:Nat)=>(ckB ((y5:Nat):Int) ((a1:Nat):Int) (y4.length:Int)).bind fun _=>bif Nat.beq (Int.toNat ((a1:Nat):Int) - Int.toNat ((y5:Nat):Int)) 0 then some (y4,y5) else (ckB 0 (((Int.toNat ((y5:Nat):Int))+(Int.toNat ((a1:Nat):Int) - Int.toNat ((y5:Nat):Int)):Nat):Int) (y4.length:Int)).bind fun _=>some ((y4.take (Int.toNat ((y5:Nat):Int))++(List.replicate (Int.toNat ((a1:Nat):Int) - Int.toNat ((y5:Nat):Int)) (zi (zh.mk 0 0 0 (zq.mk 0 0 0 ByteArray.empty) none))++y4.drop ((Int.toNat ((y5:Nat):Int))+(Int.toNat ((a1:Nat):Int) - Int.toNat ((y5:Nat):Int))))),y5))
def Qt (n:Nat) (a0:(Option (List zd))) (k7:(Unit→Option (Bool))):Nat→Int→Option (Bool)
  | 0,_=>none
  | m10+1,y9=>bif (decide (y9 < ((sll a0).length:Int))) then (idx (sll a0) y9).bind fun x12=>(Zw n none ((zg x12).fKind) ((zg x12).fRel) ((zg x12).fCol) (((zg x12).fConst).fKind) (((zg x12).fConst).fInt) (((zg x12).fConst).fFloat) (((zg x12).fConst).fText) ((zg x12).fKids)).bind fun x14=>bif (decide (x14 < 0)) then some false else (aaz n x14 (IntKind.wrap .i64 (x14+1))).bind fun _=>Qt n a0 k7 m10 (IntKind.wrap .i64 (y9+1)) else k7 ()
def qF (n:Nat) (a0:(Option (List zd))) (k26:(Nat→Option (Bool))):Nat→(List zd)→Int→Nat→Option (Bool)
  | 0,_,_,_=>none
  | m41+1,y34,y35,y36=>bif (decide (y35 < ((sll a0).length:Int))) then (idx (sll a0) y35).bind fun x43=>(Zw n (some (y34.take y36)) ((zg x43).fKind) ((zg x43).fRel) ((zg x43).fCol) (((zg x43).fConst).fKind) (((zg x43).fConst).fInt) (((zg x43).fConst).fFloat) (((zg x43).fConst).fText) ((zg x43).fKids)).bind fun x45=>bif (decide (x45 < 0)) then some false else (qS n y34 y36 x45 (IntKind.wrap .i64 (x45+1))).bind fun (x49,x50)=>qF n a0 k26 m41 x49 (IntKind.wrap .i64 (y35+1)) x50 else k26 y36
def aax (n:Nat) (a0:(Option (List zd))) (a1:(Option (List zd))):Option (Bool):=at1 n fun n=>
  zD (fun (k4:(Option (List zd))→Option (Bool))=>(Q7 n a1).bind (fun | none=>k4 none | some x56=>k4 (some x56))) (fun | none=>zD (fun k7=>Qt n a0 k7 n 0) (fun (_:Unit)=>some true) | (some y1)=>zD (fun k26=>qF n a0 k26 n y1 0 y1.length) (fun (y21:Nat)=>some (((y21:Nat):Int) == 0)))
def Qj (n:Nat) (a0:zl) (a1:zx):Option (Bool):=at1 n fun n=>
  zD (fun k11=>bif (decide (((sll a1.fOrder).length:Int) > 0)) then bif (a0.fKind != 7) then some false else (aag n a0.fOrder a1.fOrder).bind fun x34=>bif (!x34) then some false else (idx (sll a0.fKids) 0).bind fun x37=>k11 ((zr x37).fKind) ((zr x37).fOut) ((zr x37).fAggs) ((zr x37).fKids) else k11 a0.fKind a0.fOut a0.fAggs a0.fKids) (fun (y2:Int) (y7:(Option (List zd))) (y8:(Option (List zK))) (y10:(Option (List QL)))=>zD (fun k14=>bif a1.fGrouped then k14 5 else k14 6) (fun (y13:Int)=>bif (y2 != y13) then some false else (zN n y7 a1.fOut).bind fun x16=>bif (!x16) then some false else (Zz n y8 a1.fAggs).bind fun x19=>bif (!x19) then some false else (idx (sll y10) 0).bind fun x22=>(acH n (zr x22) ((sll a1.fRels).length:Int)).bind fun x24=>bif x24 then (aas n (zr x22)).bind fun x27=>(aax n x27 a1.fWhere).bind fun x29=>some x29 else some false))
def qq (n:Nat) (a0:zl) (a1:zx) (a2:(Option (List zk))):Option (Int):=at1 n fun n=>
  (qH n (zx.mk a1.fRels a1.fWhere a1.fGrouped a1.fOut a1.fAggs a1.fOrder) a2).bind fun x1=>bif (x1.2 != 0) then some x1.2 else (aan n (zl.mk a0.fKind a0.fRel a0.fWhere a0.fLeft a0.fRight a0.fOut a0.fAggs a0.fOrder a0.fKids)).bind fun x4=>bif (!x4) then some 22 else (Qj n (zl.mk a0.fKind a0.fRel a0.fWhere a0.fLeft a0.fRight a0.fOut a0.fAggs a0.fOrder a0.fKids) (zx.mk a1.fRels a1.fWhere a1.fGrouped a1.fOut a1.fAggs a1.fOrder)).bind fun x7=>bif (!x7) then some 22 else some 0
def aah (n:Nat) (a0:zl) (a1:zx) (a2:(Option (List zk))) (a3:zh) (a4:Int):Option (Bool):=at1 n fun n=>
  (ac4 n).bind fun x1=>bif (!x1) then some false else zD (fun k5=>bif (sll a1.fWhere).isEmpty then (ckA 88 ([]:List zd).length).bind fun _=>(ckA 88 (([]:List zd)++([(zi (zh.mk a3.fKind a3.fRel a3.fCol a3.fConst a3.fKids))]:List zd)).length).bind fun _=>k5 (([]:List zd)++([(zi (zh.mk a3.fKind a3.fRel a3.fCol a3.fConst a3.fKids))]:List zd)) else (ckA 88 (([]:List zd)++(sll a1.fWhere)).length).bind fun _=>(ckA 88 ((([]:List zd)++(sll a1.fWhere))++([(zi (zh.mk a3.fKind a3.fRel a3.fCol a3.fConst a3.fKids))]:List zd)).length).bind fun _=>k5 ((([]:List zd)++(sll a1.fWhere))++([(zi (zh.mk a3.fKind a3.fRel a3.fCol a3.fConst a3.fKids))]:List zd))) (fun (y4:(List zd))=>(ac7 n a0).bind fun x6=>bif x6 then some true else (acW n (zx.mk a1.fRels (some y4) a1.fGrouped a1.fOut a1.fAggs a1.fOrder) a2).bind fun x9=>bif x9 then some true else (qq n a0 a1 a2).bind fun x12=>bif (x12 != 0) then some true else (qq n a0 (zx.mk a1.fRels (some y4) a1.fGrouped a1.fOut a1.fAggs a1.fOrder) a2).bind fun x15=>bif (x15 == 0) then some false else (ckZ (IntKind.wrap .u64 (IntKind.wrap .i64 (((sll a1.fWhere).length:Int)+1)))).bind fun _=>zD (fun k22=>(ckB (IntKind.wrap .i64 (Int.tmod (IntKind.wrap .u64 a4) (IntKind.wrap .u64 (IntKind.wrap .i64 (((sll a1.fWhere).length:Int)+1))))) ((sll a1.fWhere).length:Int) ((sll a1.fWhere).length:Int)).bind fun _=>bif (sll (qw a1.fWhere (IntKind.wrap .i64 (Int.tmod (IntKind.wrap .u64 a4) (IntKind.wrap .u64 (IntKind.wrap .i64 (((sll a1.fWhere).length:Int)+1))))) ((sll a1.fWhere).length:Int))).isEmpty then (ckA 88 ([]:List zd).length).bind fun _=>(ckB 0 (IntKind.wrap .i64 (Int.tmod (IntKind.wrap .u64 a4) (IntKind.wrap .u64 (IntKind.wrap .i64 (((sll a1.fWhere).length:Int)+1))))) ((sll a1.fWhere).length:Int)).bind fun _=>bif (sll (qw a1.fWhere 0 (IntKind.wrap .i64 (Int.tmod (IntKind.wrap .u64 a4) (IntKind.wrap .u64 (IntKind.wrap .i64 (((sll a1.fWhere).length:Int)+1))))))).isEmpty then (ckA 88 ([]:List zd).length).bind fun _=>k22 ([]:List zd) else (ckA 88 (([]:List zd)++(sll (qw a1.fWhere 0 (IntKind.wrap .i64 (Int.tmod (IntKind.wrap .u64 a4) (IntKind.wrap .u64 (IntKind.wrap .i64 (((sll a1.fWhere).length:Int)+1)))))))).length).bind fun _=>k22 (([]:List zd)++(sll (qw a1.fWhere 0 (IntKind.wrap .i64 (Int.tmod (IntKind.wrap .u64 a4) (IntKind.wrap .u64 (IntKind.wrap .i64 (((sll a1.fWhere).length:Int)+1)))))))) else (ckA 88 (([]:List zd)++(sll (qw a1.fWhere (IntKind.wrap .i64 (Int.tmod (IntKind.wrap .u64 a4) (IntKind.wrap .u64 (IntKind.wrap .i64 (((sll a1.fWhere).length:Int)+1))))) ((sll a1.fWhere).length:Int)))).length).bind fun _=>(ckB 0 (IntKind.wrap .i64 (Int.tmod (IntKind.wrap .u64 a4) (IntKind.wrap .u64 (IntKind.wrap .i64 (((sll a1.fWhere).length:Int)+1))))) ((sll a1.fWhere).length:Int)).bind fun _=>bif (sll (qw a1.fWhere 0 (IntKind.wrap .i64 (Int.tmod (IntKind.wrap .u64 a4) (IntKind.wrap .u64 (IntKind.wrap .i64 (((sll a1.fWhere).length:Int)+1))))))).isEmpty then (ckA 88 (([]:List zd)++(sll (qw a1.fWhere (IntKind.wrap .i64 (Int.tmod (IntKind.wrap .u64 a4) (IntKind.wrap .u64 (IntKind.wrap .i64 (((sll a1.fWhere).length:Int)+1))))) ((sll a1.fWhere).length:Int)))).length).bind fun _=>k22 (([]:List zd)++(sll (qw a1.fWhere (IntKind.wrap .i64 (Int.tmod (IntKind.wrap .u64 a4) (IntKind.wrap .u64 (IntKind.wrap .i64 (((sll a1.fWhere).length:Int)+1))))) ((sll a1.fWhere).length:Int)))) else (ckA 88 ((([]:List zd)++(sll (qw a1.fWhere (IntKind.wrap .i64 (Int.tmod (IntKind.wrap .u64 a4) (IntKind.wrap .u64 (IntKind.wrap .i64 (((sll a1.fWhere).length:Int)+1))))) ((sll a1.fWhere).length:Int))))++(sll (qw a1.fWhere 0 (IntKind.wrap .i64 (Int.tmod (IntKind.wrap .u64 a4) (IntKind.wrap .u64 (IntKind.wrap .i64 (((sll a1.fWhere).length:Int)+1)))))))).length).bind fun _=>k22 ((([]:List zd)++(sll (qw a1.fWhere (IntKind.wrap .i64 (Int.tmod (IntKind.wrap .u64 a4) (IntKind.wrap .u64 (IntKind.wrap .i64 (((sll a1.fWhere).length:Int)+1))))) ((sll a1.fWhere).length:Int))))++(sll (qw a1.fWhere 0 (IntKind.wrap .i64 (Int.tmod (IntKind.wrap .u64 a4) (IntKind.wrap .u64 (IntKind.wrap .i64 (((sll a1.fWhere).length:Int)+1))))))))) (fun (y19:(List zd))=>(qq n a0 (zx.mk a1.fRels (some y19) a1.fGrouped a1.fOut a1.fAggs a1.fOrder) a2).bind fun x23=>bif (x23 != 0) then some false else bif (decide ((y19.length:Int) > 0)) then (ckB 1 (y19.length:Int) (y19.length:Int)).bind fun _=>(qq n a0 (zx.mk a1.fRels (some (subL y19 1 (y19.length:Int))) a1.fGrouped a1.fOut a1.fAggs a1.fOrder) a2).bind fun x28=>some (x28 == 22) else some true))
end Go.Pl
