import Derived.Test.YtejbcaheoloahaaGreatAbRow
import Derived.Test.YtejbcaheoloahaaGreatAbArr
import Derived.Test.YtejbcaheoloahaaGreatAbRec
import Derived.Test.YtejbcaheoloahaaGreatAbPan
import Derived.Test.YtejbcaheoloahaaGreatAbPart
noncomputable section
namespace Go.Pl
open Go Go.Ab
set_option linter.unusedVariables false
structure zn where
 A:Int
 K:Int
 I:Nat
 N:ByteArray
def aiU (x:zn):List PV:=[.int .i64 x.A,.int .i64 x.K,.flt .f64 x.I,.str x.N]
def qK (x:zn):Prop:=(wI .i64) x.A∧(wI .i64) x.K∧(wF .f64) x.I∧wS x.N
inductive Good_api_Expr:List PV→Prop
 |nil (A:Int) (C:Int) (M:Int) (F:zn):Good_api_Expr [.int .i64 A,.int .i64 C,.int .i64 M,.int .i64 F.A,.int .i64 F.K,.flt .f64 F.I,.str F.N,.nils]
 |some (A:Int) (C:Int) (M:Int) (F:zn) (rows:List (List PV)) (h:∀ p,p∈rows→Good_api_Expr p):Good_api_Expr [.int .i64 A,.int .i64 C,.int .i64 M,.int .i64 F.A,.int .i64 F.K,.flt .f64 F.I,.str F.N,.sl rows]
def zb:Type:={p:List PV // Good_api_Expr p}
abbrev jm:=List zb
abbrev jl:=Option jm
def za (y:zb):List PV:=y.1
structure zf where
 A:Int
 C:Int
 M:Int
 F:zn
 B:jl
def Z7 (x:zf):List PV:=[.int .i64 x.A,.int .i64 x.C,.int .i64 x.M,.int .i64 x.F.A,.int .i64 x.F.K,.flt .f64 x.F.I,.str x.F.N,zk za x.B]
theorem aoJ (x:zf):Good_api_Expr (Z7 x):=by
 obtain ⟨A,C,M,F,B⟩:=x
 cases B with
 |none=>exact .nil A C M F
 |some l=>exact .some A C M F (l.map za) (by intro p hp;obtain ⟨y,_,rfl⟩:=List.mem_map.1 hp;exact y.2)
def zi (x:zf):zb:=⟨Z7 x,aoJ x⟩
theorem alI (y:zb):∃ x:zf,za y=Z7 x:=by
 obtain ⟨p,h⟩:=y
 cases h with
 |nil A C M F=>exact ⟨⟨A,C,M,F,none⟩,rfl⟩
 |some A C M F rows h=>
  obtain ⟨l,hl⟩:=alm rows h
  subst hl
  exact ⟨⟨A,C,M,F,some l⟩,rfl⟩
def zc (y:zb):zf:=Classical.choose (alI y)
theorem zt (y:zb):za y=Z7 (zc y):=Classical.choose_spec (alI y)
theorem Zi (y:zb):(za y).length=8:=by rw [zt y];rfl
inductive adw:List PV→Prop
 |nil (A:Int) (C:Int) (M:Int) (F:zn) (w:(wI .i64) A∧(wI .i64) C∧(wI .i64) M∧qK F):adw [.int .i64 A,.int .i64 C,.int .i64 M,.int .i64 F.A,.int .i64 F.K,.flt .f64 F.I,.str F.N,.nils]
 |some (A:Int) (C:Int) (M:Int) (F:zn) (rows:List (List PV)) (w:(wI .i64) A∧(wI .i64) C∧(wI .i64) M∧qK F) (hl:rows.length≤1048576) (h:∀ p,p∈rows→adw p):adw [.int .i64 A,.int .i64 C,.int .i64 M,.int .i64 F.A,.int .i64 F.K,.flt .f64 F.I,.str F.N,.sl rows]
def zJ (y:zb):Prop:=adw (za y)∧PV.bulkL (za y)≤1048576
def Zt (x:zf):Prop:=adw (Z7 x)∧PV.bulkL (Z7 x)≤1048576
structure zI where
 A:Int
 Q:zf
abbrev jq:=Option (List zI)
def zl (x:zI):List PV:=[.int .i64 x.A,.int .i64 x.Q.A,.int .i64 x.Q.C,.int .i64 x.Q.M,.int .i64 x.Q.F.A,.int .i64 x.Q.F.K,.flt .f64 x.Q.F.I,.str x.Q.F.N,zk za x.Q.B]
def QK (x:zI):Prop:=(wI .i64) x.A∧Zt x.Q
structure Zr where
 E:Int
 S:Bool
abbrev jr:=Option (List Zr)
def zx (x:Zr):List PV:=[.int .i64 x.E,.bool x.S]
def aey (x:Zr):Prop:=(wI .i64) x.E∧wB x.S
inductive Good_api_Plan:List PV→Prop
 |nil (A:Int) (C:Int) (H:jl) (J:jl) (L:jl) (E:jl) (D:jq) (G:jr):Good_api_Plan [.int .i64 A,.int .i64 C,zk za H,zk za J,zk za L,zk za E,zk zl D,zk zx G,.nils]
 |some (A:Int) (C:Int) (H:jl) (J:jl) (L:jl) (E:jl) (D:jq) (G:jr) (rows:List (List PV)) (h:∀ p,p∈rows→Good_api_Plan p):Good_api_Plan [.int .i64 A,.int .i64 C,zk za H,zk za J,zk za L,zk za E,zk zl D,zk zx G,.sl rows]
def Qv:Type:={p:List PV // Good_api_Plan p}
def zA (y:Qv):List PV:=y.1
structure zh where
 A:Int
 C:Int
 H:jl
 J:jl
 L:jl
 E:jl
 D:jq
 G:jr
 B:(Option (List Qv))
def aaM (x:zh):List PV:=[.int .i64 x.A,.int .i64 x.C,zk za x.H,zk za x.J,zk za x.L,zk za x.E,zk zl x.D,zk zx x.G,zk zA x.B]
theorem alG (y:Qv):∃ x:zh,zA y=aaM x:=by
 obtain ⟨p,h⟩:=y
 cases h with
 |nil A C H J L E D G=>exact ⟨⟨A,C,H,J,L,E,D,G,none⟩,rfl⟩
 |some A C H J L E D G rows h=>
  obtain ⟨l,hl⟩:=alm rows h
  subst hl
  exact ⟨⟨A,C,H,J,L,E,D,G,some l⟩,rfl⟩
def zj (y:Qv):zh:=Classical.choose (alG y)
theorem Zd (y:Qv):zA y=aaM (zj y):=Classical.choose_spec (alG y)
inductive acv:List PV→Prop
 |nil (A:Int) (C:Int) (H:jl) (J:jl) (L:jl) (E:jl) (D:jq) (G:jr) (w:(wI .i64) A∧(wI .i64) C∧(wSl zJ) H∧(wSl zJ) J∧(wSl zJ) L∧(wSl zJ) E∧(wSl QK) D∧(wSl aey) G):acv [.int .i64 A,.int .i64 C,zk za H,zk za J,zk za L,zk za E,zk zl D,zk zx G,.nils]
 |some (A:Int) (C:Int) (H:jl) (J:jl) (L:jl) (E:jl) (D:jq) (G:jr) (rows:List (List PV)) (w:(wI .i64) A∧(wI .i64) C∧(wSl zJ) H∧(wSl zJ) J∧(wSl zJ) L∧(wSl zJ) E∧(wSl QK) D∧(wSl aey) G) (hl:rows.length≤1048576) (h:∀ p,p∈rows→acv p):acv [.int .i64 A,.int .i64 C,zk za H,zk za J,zk za L,zk za E,zk zl D,zk zx G,.sl rows]
def aks (y:Qv):Prop:=acv (zA y)∧PV.bulkL (zA y)≤1048576
def aaU (x:zh):Prop:=acv (aaM x)∧PV.bulkL (aaM x)≤1048576
structure zr where
 O:(Option (List ByteArray))
 H:jl
 P:Bool
 E:jl
 D:jq
 G:jr
def arw (x:zr):List PV:=[zk rS x.O,zk za x.H,.bool x.P,zk za x.E,zk zl x.D,zk zx x.G]
def Qg (x:zr):Prop:=(wSl wS) x.O∧(wSl zJ) x.H∧wB x.P∧(wSl zJ) x.E∧(wSl QK) x.D∧(wSl aey) x.G
structure Z6 where
 T:ByteArray
 A:Int
def zU (x:Z6):List PV:=[.str x.T,.int .i64 x.A]
def ahk (x:Z6):Prop:=wS x.T∧(wI .i64) x.A
structure zg where
 T:ByteArray
 R:(Option (List Z6))
abbrev jo:=List zg
abbrev jn:=Option jo
def zm (x:zg):List PV:=[.str x.T,zk zU x.R]
def QD (x:zg):Prop:=wS x.T∧(wSl ahk) x.R
def QS (n:Nat) (rc_ref22_Bulk:(Nat→jl→Int→Option (Int))) (a0:jl) (a1:Int) (k5:(Int→Option (Int))):Nat→Int→Int→Option (Int)
 |0,_,_=>none
 |m10+1,y8,y9=>bif ((decide (y9<((sll a0).length:Int)))&&(decide (y8≤a1))) then (idx (sll a0) y9).bind fun x12=>bif (decide (((((zc x12).F).N).size:Int)>a1)) then some (IntKind.wrap .i64 (a1+1)) else bif (decide ((IntKind.wrap .i64 (y8+((((zc x12).F).N).size:Int)))≤a1)) then (rc_ref22_Bulk n ((zc x12).B) (IntKind.wrap .i64 (a1-(IntKind.wrap .i64 (y8+((((zc x12).F).N).size:Int)))))).bind fun x16=>QS n rc_ref22_Bulk a0 a1 k5 m10 (IntKind.wrap .i64 ((IntKind.wrap .i64 (y8+((((zc x12).F).N).size:Int)))+x16)) (IntKind.wrap .i64 (y9+1)) else QS n rc_ref22_Bulk a0 a1 k5 m10 (IntKind.wrap .i64 (y8+((((zc x12).F).N).size:Int))) (IntKind.wrap .i64 (y9+1)) else k5 y8
def aej (rc_ref22_Bulk:(Nat→jl→Int→Option (Int))) (n:Nat) (a0:jl) (a1:Int):Option (Int):=at1 n fun n=>
 bif (decide (((sll a0).length:Int)>a1)) then some (IntKind.wrap .i64 (a1+1)) else zB (fun k5=>QS n rc_ref22_Bulk a0 a1 k5 n ((sll a0).length:Int) 0) (fun (y3:Int)=>some y3)
def abm:Nat→Nat→jl→Int→Option (Int)
 |0=>fun _ _ _=>none
 |m+1=>aej (abm m)
def ado (n:Nat) (a0:jl) (a1:Int):Option (Int):=abm n n a0 a1
def ZY (n:Nat) (a0:zr) (a1:Int) (k15:(Int→Option (Int))):Nat→Int→Int→Option (Int)
 |0,_,_=>none
 |m20+1,y18,y19=>bif ((decide (y19<((sll a0.D).length:Int)))&&(decide (y18≤a1))) then (idx (sll a0.D) y19).bind fun x22=>(ado n (some ([(zi x22.Q)]:List zb)) (IntKind.wrap .i64 (a1-y18))).bind fun x24=>ZY n a0 a1 k15 m20 (IntKind.wrap .i64 (y18+x24)) (IntKind.wrap .i64 (y19+1)) else k15 y18
def QQ (n:Nat) (a0:zr) (a1:Int) (k5:(Int→Option (Int))):Nat→Int→Int→Option (Int)
 |0,_,_=>none
 |m36+1,y34,y35=>bif (decide (y35<((sll a0.O).length:Int))) then bif (decide (y34>a1)) then some (IntKind.wrap .i64 (a1+1)) else (idx (sll a0.O) y35).bind fun x39=>bif (decide ((x39.size:Int)>a1)) then some (IntKind.wrap .i64 (a1+1)) else QQ n a0 a1 k5 m36 (IntKind.wrap .i64 (y34+(x39.size:Int))) (IntKind.wrap .i64 (y35+1)) else k5 y34
def abz (n:Nat) (a0:zr) (a1:Int):Option (Int):=at1 n fun n=>
 bif (((decide (((sll a0.O).length:Int)>a1))||(decide (((sll a0.D).length:Int)>a1)))||(decide (((sll a0.G).length:Int)>a1))) then some (IntKind.wrap .i64 (a1+1)) else zB (fun k5=>QQ n a0 a1 k5 n (IntKind.wrap .i64 ((IntKind.wrap .i64 (((sll a0.O).length:Int)+((sll a0.D).length:Int)))+((sll a0.G).length:Int))) 0) (fun (y3:Int)=>zB (fun k8=>bif (decide (y3≤a1)) then (ado n a0.H (IntKind.wrap .i64 (a1-y3))).bind fun x30=>k8 (IntKind.wrap .i64 (y3+x30)) else k8 y3) (fun (y7:Int)=>zB (fun k11=>bif (decide (y7≤a1)) then (ado n a0.E (IntKind.wrap .i64 (a1-y7))).bind fun x27=>k11 (IntKind.wrap .i64 (y7+x27)) else k11 y7) (fun (y10:Int)=>zB (fun k15=>ZY n a0 a1 k15 n y10 0) (fun (y13:Int)=>some y13))))
def aad (n:Nat) (rc_ref25_Bulk:(Nat→zh→Int→Option (Int))) (a0:zh) (a1:Int) (k9:(Int→Option (Int))):Nat→Int→Int→Option (Int)
 |0,_,_=>none
 |m14+1,y12,y13=>bif ((decide (y13<((sll a0.B).length:Int)))&&(decide (y12≤a1))) then (idx (sll a0.B) y13).bind fun x16=>(rc_ref25_Bulk n (zj x16) (IntKind.wrap .i64 (a1-y12))).bind fun x18=>aad n rc_ref25_Bulk a0 a1 k9 m14 (IntKind.wrap .i64 (y12+x18)) (IntKind.wrap .i64 (y13+1)) else k9 y12
def aem (rc_ref25_Bulk:(Nat→zh→Int→Option (Int))) (n:Nat) (a0:zh) (a1:Int):Option (Int):=at1 n fun n=>
 (abz n (zr.mk none a0.H false a0.E a0.D a0.G) a1).bind fun x1=>zB (fun k5=>bif (decide ((IntKind.wrap .i64 (1+x1))≤a1)) then (abz n (zr.mk none a0.J false a0.L none none) a1).bind fun x21=>k5 (IntKind.wrap .i64 ((IntKind.wrap .i64 (1+x1))+x21)) else k5 (IntKind.wrap .i64 (1+x1))) (fun (y4:Int)=>zB (fun k9=>aad n rc_ref25_Bulk a0 a1 k9 n y4 0) (fun (y7:Int)=>some y7))
def abt:Nat→Nat→zh→Int→Option (Int)
 |0=>fun _ _ _=>none
 |m+1=>aem (abt m)
def ajX (n:Nat) (a0:zh) (a1:Int):Option (Int):=abt n n a0 a1
def ae2 (n:Nat) (a0:zh):Option (Bool):=at1 n fun n=>
 (ajX n a0 800).bind fun x1=>some (decide (x1>800))
def aal (n:Nat) (a1:jn) (k6:(Unit→Option (Bool))):Nat→Int→Option (Bool)
 |0,_=>none
 |m9+1,y8=>bif (decide (y8<((sll a1).length:Int))) then (idx (sll a1) y8).bind fun x11=>bif ((decide (((sll x11.R).length:Int)>40))||(decide ((x11.T.size:Int)>100))) then some true else aal n a1 k6 m9 (IntKind.wrap .i64 (y8+1)) else k6 ()
def afa (n:Nat) (a0:zr) (a1:jn):Option (Bool):=at1 n fun n=>
 (abz n a0 500).bind fun x1=>bif ((decide (x1>500))||(decide (((sll a1).length:Int)>40))) then some true else zB (fun k6=>aal n a1 k6 n 0) (fun (_:Unit)=>some false)
def aew (n:Nat) (a0:zg) (a1:ByteArray):Option (Bool):=at1 n fun n=>
 some (sEq a0.T a1)
def zX (n:Nat) (a0:jn) (a1:ByteArray) (k3:(Unit→Option (Int))):Nat→Int→Option (Int)
 |0,_=>none
 |m6+1,y5=>bif (decide (y5<((sll a0).length:Int))) then (idx (sll a0) y5).bind fun x8=>(aew n x8 a1).bind fun x10=>bif x10 then some y5 else zX n a0 a1 k3 m6 (IntKind.wrap .i64 (y5+1)) else k3 ()
def Zs (n:Nat) (a0:jn) (a1:ByteArray):Option (Int):=at1 n fun n=>
 zB (fun k3=>zX n a0 a1 k3 n 0) (fun (_:Unit)=>some (-1))
def QB (n:Nat) (a0:(Option (List Z6))):Option ((Option (List Z6))):=at1 n fun n=>
 bif (a0.isNone) then some none else bif (sll a0).isEmpty then (ckA 24 ([]:List Z6).length).bind fun _=>some (some ([]:List Z6)) else (ckA 24 (([]:List Z6)++(sll a0)).length).bind fun _=>some (some (([]:List Z6)++(sll a0)))
def acA (n:Nat) (a0:jn) (a1:ByteArray):Option (jn):=at1 n fun n=>
 (Zs n a0 a1).bind fun x1=>bif (decide (x1<0)) then some none else (idx (sll a0) x1).bind fun x4=>(QB n x4.R).bind fun x6=>(ckA 40 ([(zg.mk a1 x6)]:List zg).length).bind fun _=>some (some ([(zg.mk a1 x6)]:List zg))
def abc (n:Nat) (a0:jo) (a1:jn) (a2:ByteArray):Option (jo×Int):=at1 n fun n=>
 (Zs n a1 a2).bind fun x1=>bif (decide (x1<0)) then some (a0,40) else (idx (sll a1) x1).bind fun x4=>(QB n x4.R).bind fun x6=>(ckA 40 (a0++([(zg.mk a2 x6)]:List zg)).length).bind fun _=>some ((a0++([(zg.mk a2 x6)]:List zg)),0)
def zE (n:Nat) (a0:jn) (a1:(Option (List ByteArray))) (k8:(jn→Option (jn×Int))):Nat→jn→Int→Option (jn×Int)
 |0,_,_=>none
 |m22+1,none,y17=>bif (decide (y17<((sll a1).length:Int))) then (idx (sll a1) y17).bind fun x24=>(acA n a0 x24).bind (fun|none=>some (none,40)|some x27=>zE n a0 a1 k8 m22 (some x27) (IntKind.wrap .i64 (y17+1))) else k8 none
 |m22+1,(some y16),y17=>bif (decide (y17<((sll a1).length:Int))) then (idx (sll a1) y17).bind fun x30=>(abc n y16 a0 x30).bind fun (x33,x34)=>bif (x34 !=0) then some ((some x33),x34) else zE n a0 a1 k8 m22 (some x33) (IntKind.wrap .i64 (y17+1)) else k8 (some y16)
def qa (n:Nat) (a0:jn) (a1:(Option (List ByteArray))):Option (jn×Int):=at1 n fun n=>
 zB (fun (k8:jn→Option (jn×Int))=>zE n a0 a1 k8 n none 0) (fun|none=>some (none,0)|(some y3)=>some ((some y3),0))
def ad8 (n:Nat) (a0:zr) (a1:jn):Option (jn×Int):=at1 n fun n=>
 bif (decide (((sll a0.O).length:Int)>12)) then some (none,51) else bif (((sll a0.O).length:Int)==0) then some (none,2) else zB (fun (k9:jn→Int→Option (jn×Int))=>(qa n a1 a0.O).bind (fun|(none,x14)=>k9 none x14|(some x13,x14)=>k9 (some x13) x14)) (fun|none,y4=>bif (y4 !=0) then some (none,y4) else some (none,0)|(some y3),y4=>bif (y4 !=0) then some (none,y4) else some ((some y3),0))
def adK (n:Nat) (a0:zr):Option (Int):=at1 n fun n=>
 some (IntKind.wrap .i64 (((sll a0.E).length:Int)+((sll a0.D).length:Int)))
def ael (n:Nat) (a0:zI):Option (Bool):=at1 n fun n=>
 some ((decide (a0.A<1))||(decide (a0.A>4)))
def Zh (n:Nat) (a0:jq) (k3:(Unit→Option (Int))):Nat→Int→Option (Int)
 |0,_=>none
 |m6+1,y5=>bif (decide (y5<((sll a0).length:Int))) then (idx (sll a0) y5).bind fun x8=>(ael n x8).bind fun x10=>bif x10 then some y5 else Zh n a0 k3 m6 (IntKind.wrap .i64 (y5+1)) else k3 ()
def qv (n:Nat) (a0:jq):Option (Int):=at1 n fun n=>
 zB (fun k3=>Zh n a0 k3 n 0) (fun (_:Unit)=>some (-1))
def Zx (n:Nat) (a0:jq):Option (Bool):=at1 n fun n=>
 (qv n a0).bind fun x1=>some (decide (x1≥0))
def adN (n:Nat) (a0:Zr) (a1:(Option (List ByteArray))) (a2:jl) (a3:Bool) (a4:jl) (a5:jq) (a6:jr):Option (Bool):=at1 n fun n=>
 bif (decide (a0.E<0)) then some true else (adK n (zr.mk a1 a2 a3 a4 a5 a6)).bind fun x2=>some (decide (a0.E≥x2))
def Zj (n:Nat) (a0:jr) (a1:(Option (List ByteArray))) (a2:jl) (a3:Bool) (a4:jl) (a5:jq) (a6:jr) (k3:(Unit→Option (Int))):Nat→Int→Option (Int)
 |0,_=>none
 |m6+1,y5=>bif (decide (y5<((sll a0).length:Int))) then (idx (sll a0) y5).bind fun x8=>(adN n x8 a1 a2 a3 a4 a5 a6).bind fun x10=>bif x10 then some y5 else Zj n a0 a1 a2 a3 a4 a5 a6 k3 m6 (IntKind.wrap .i64 (y5+1)) else k3 ()
def qt (n:Nat) (a0:jr) (a1:(Option (List ByteArray))) (a2:jl) (a3:Bool) (a4:jl) (a5:jq) (a6:jr):Option (Int):=at1 n fun n=>
 zB (fun k3=>Zj n a0 a1 a2 a3 a4 a5 a6 k3 n 0) (fun (_:Unit)=>some (-1))
def Zw (n:Nat) (a0:jr) (a1:(Option (List ByteArray))) (a2:jl) (a3:Bool) (a4:jl) (a5:jq) (a6:jr):Option (Bool):=at1 n fun n=>
 (qt n a0 a1 a2 a3 a4 a5 a6).bind fun x1=>some (decide (x1≥0))
def aea (n:Nat) (a0:zr):Option (Bool):=at1 n fun n=>
 bif ((((decide (((sll a0.H).length:Int)>40))||(decide (((sll a0.E).length:Int)>20)))||(decide (((sll a0.D).length:Int)>10)))||(decide (((sll a0.G).length:Int)>10))) then some false else bif ((!a0.P)&&((((sll a0.E).length:Int)==0)||(decide (((sll a0.D).length:Int)>0)))) then some false else (adK n a0).bind fun x3=>bif (x3==0) then some false else (Zx n a0.D).bind fun x6=>bif x6 then some false else (Zw n a0.G a0.O a0.H a0.P a0.E a0.D a0.G).bind fun x9=>some (!x9)
def agV (n:Nat) (a0:Int):Option (Int):=at1 n fun n=>
 zB (fun k2=>bif (a0==1) then k2 (a0==1) else k2 (a0==2)) (fun (y1:Bool)=>bif y1 then some 0 else zB (fun k5=>bif (a0==6) then k5 (a0==6) else bif (a0==12) then k5 (a0==12) else k5 (a0==13)) (fun (y4:Bool)=>bif y4 then some 1 else bif (a0==3) then bif (a0==3) then some 2 else some (-1) else bif (a0==4) then bif (a0==4) then some 2 else some (-1) else bif (a0==5) then bif (a0==5) then some 2 else some (-1) else bif (a0==7) then bif (a0==7) then some 2 else some (-1) else bif (a0==8) then bif (a0==8) then some 2 else some (-1) else bif (a0==9) then bif (a0==9) then some 2 else some (-1) else bif (a0==10) then bif (a0==10) then some 2 else some (-1) else bif (a0==11) then some 2 else some (-1)))
def ac2 (n:Nat) (a0:Int):Option (Bool):=at1 n fun n=>
 some ((decide (a0≥0))&&(decide (a0≤31)))
def afy (n:Nat) (a0:Nat):Option (Bool):=at1 n fun n=>
 some (decide ((IntKind.wrap .i64 (a0:Int))<0))
def adJ (n:Nat) (a0:zn):Option (Bool):=at1 n fun n=>
 zB (fun k2=>bif ((FloatKind.format .f64).order a0.I 0==some .eq) then (afy n a0.I).bind fun x14=>k2 (!x14) else k2 false) (fun (y1:Bool)=>zB (fun k6=>bif (a0.A==0) then some (((a0.K==0)&&y1)&&(sEq a0.N ByteArray.empty)) else bif (a0.A==1) then bif ((a0.K !=0)&&(a0.K !=1)) then some false else k6 () else bif (a0.A==2) then k6 () else bif (a0.A==3) then some ((a0.K==0)&&(sEq a0.N ByteArray.empty)) else bif (a0.A==4) then some (((a0.K==0)&&y1)&&(decide ((a0.N.size:Int)≤64))) else some false) (fun (_:Unit)=>some (y1&&(sEq a0.N ByteArray.empty))))
def aeT (n:Nat) (a0:zf):Option (Bool):=at1 n fun n=>
 bif ((a0.A !=1)&&((a0.C !=0)||(a0.M !=0))) then some false else (ac2 n a0.C).bind fun x2=>bif (!x2) then some false else (ac2 n a0.M).bind fun x5=>bif (!x5) then some false else (adJ n a0.F).bind fun x8=>some (x8&&((a0.A==2)||(a0.F.A==0)))
def abQ (n:Nat) (rc_expr_count:(Nat→zf→Int→Int→Option (Int))) (a0:zf) (a1:Int) (k12:(Int→Option (Int))):Nat→Int→Int→Option (Int)
 |0,_,_=>none
 |m17+1,y15,y16=>bif (decide (y16<((sll a0.B).length:Int))) then (idx (sll a0.B) y16).bind fun x19=>(rc_expr_count n (zc x19) (IntKind.wrap .i64 (a1+1)) y15).bind fun x21=>bif (decide (x21<0)) then some (-1) else abQ n rc_expr_count a0 a1 k12 m17 x21 (IntKind.wrap .i64 (y16+1)) else k12 y15
def abB (rc_expr_count:(Nat→zf→Int→Int→Option (Int))) (n:Nat) (a0:zf) (a1:Int) (a2:Int):Option (Int):=at1 n fun n=>
 bif (decide (a1>24)) then some (-1) else bif (decide (a2<1)) then some (-1) else (agV n a0.A).bind fun x3=>bif (x3 !=((sll a0.B).length:Int)) then some (-1) else (aeT n (zf.mk a0.A a0.C a0.M a0.F a0.B)).bind fun x6=>bif (!x6) then some (-1) else zB (fun k12=>abQ n rc_expr_count a0 a1 k12 n (IntKind.wrap .i64 (a2-1)) 0) (fun (y9:Int)=>some y9)
def QZ:Nat→Nat→zf→Int→Int→Option (Int)
 |0=>fun _ _ _ _=>none
 |m+1=>abB (QZ m)
def ajJ (n:Nat) (a0:zf) (a1:Int) (a2:Int):Option (Int):=QZ n n a0 a1 a2
def acE (n:Nat) (a0:zf):Option (Bool):=at1 n fun n=>
 (ajJ n a0 1 400).bind fun x1=>some (decide (x1≥0))
def acD (n:Nat) (a0:zf) (a1:jn):Option (Int ⊕ (Int)):=at1 n fun n=>
 bif (decide (a0.C≥((sll a1).length:Int))) then some (.inl 40) else (idx (sll a1) a0.C).bind fun x2=>bif (decide (a0.M≥((sll x2.R).length:Int))) then some (.inl 40) else (idx (sll x2.R) a0.M).bind fun x5=>some (.inr x5.A)
def aaK (n:Nat) (rc_expr_refs:(Nat→zf→jn→Option (Int ⊕ (Unit)))) (a0:zf) (a1:jn):Nat→Int→Option (Int ⊕ (Unit))
 |0,_=>none
 |m5+1,y4=>bif (decide (y4<((sll a0.B).length:Int))) then (idx (sll a0.B) y4).bind fun x7=>(rc_expr_refs n (zc x7) a1).bind fun|.inl x11=>some (.inl x11)|.inr x9=>aaK n rc_expr_refs a0 a1 m5 (IntKind.wrap .i64 (y4+1)) else some (.inr ())
def aeZ (rc_expr_refs:(Nat→zf→jn→Option (Int ⊕ (Unit)))) (n:Nat) (a0:zf) (a1:jn):Option (Int ⊕ (Unit)):=at1 n fun n=>
 zB (fun k2=>bif (a0.A==1) then (acD n a0 a1).bind fun|.inl x15=>some (.inl x15)|.inr x13=>k2 () else k2 ()) (fun (_:Unit)=>aaK n rc_expr_refs a0 a1 n 0)
def abh:Nat→Nat→zf→jn→Option (Int ⊕ (Unit))
 |0=>fun _ _ _=>none
 |m+1=>aeZ (abh m)
def ak3 (n:Nat) (a0:zf) (a1:jn):Option (Int ⊕ (Unit)):=abh n n a0 a1
def ad3 (n:Nat) (a0:Int):Option (Bool):=at1 n fun n=>
 some (((a0==0)||(a0==2))||(a0==3))
def qY (n:Nat) (a0:Int) (a1:Int):Option (Int ⊕ (Int)):=at1 n fun n=>
 (ad3 n a0).bind fun x1=>bif (!x1) then some (.inl 50) else (ad3 n a1).bind fun x4=>bif ((!x4)||(((a0 !=0)&&(a1 !=0))&&(a0 !=a1))) then some (.inl 50) else some (.inr (if a1>a0 then a1 else a0))
def ad9 (n:Nat) (a0:Int):Option (Bool):=at1 n fun n=>
 some true
def QJ (n:Nat) (a0:Int) (a1:Int):Option (Int ⊕ (Int)):=at1 n fun n=>
 (ad9 n a0).bind fun x1=>bif (!x1) then some (.inl 50) else (ad9 n a1).bind fun x4=>bif ((!x4)||(((a0 !=0)&&(a1 !=0))&&(a0 !=a1))) then some (.inl 50) else some (.inr (if a1>a0 then a1 else a0))
def afY (n:Nat) (a0:Int):Option (Bool):=at1 n fun n=>
 some ((a0==0)||(a0==1))
def QA (n:Nat) (a0:Int) (a1:Int):Option (Int ⊕ (Int)):=at1 n fun n=>
 (afY n a0).bind fun x1=>bif (!x1) then some (.inl 50) else (afY n a1).bind fun x4=>bif ((!x4)||(((a0 !=0)&&(a1 !=0))&&(a0 !=a1))) then some (.inl 50) else some (.inr (if a1>a0 then a1 else a0))
def qJ (n:Nat) (rc_expr_typed:(Nat→zf→jn→Option (Int ⊕ (Int)))) (a0:zf) (a1:jn) (k4:((Option (List Int))→Option (Int ⊕ (Int)))):Nat→Int→(Option (List Int))→Option (Int ⊕ (Int))
 |0,_,_=>none
 |m83+1,y81,none=>bif (decide (y81<((sll a0.B).length:Int))) then (idx (sll a0.B) y81).bind fun x85=>(rc_expr_typed n (zc x85) a1).bind fun|.inl x89=>some (.inl x89)|.inr x87=>(ckA 8 ([x87]:List Int).length).bind fun _=>qJ n rc_expr_typed a0 a1 k4 m83 (IntKind.wrap .i64 (y81+1)) (some ([x87]:List Int)) else k4 none
 |m83+1,y81,(some y82)=>bif (decide (y81<((sll a0.B).length:Int))) then (idx (sll a0.B) y81).bind fun x92=>(rc_expr_typed n (zc x92) a1).bind fun|.inl x96=>some (.inl x96)|.inr x94=>(ckA 8 (y82++([x94]:List Int)).length).bind fun _=>qJ n rc_expr_typed a0 a1 k4 m83 (IntKind.wrap .i64 (y81+1)) (some (y82++([x94]:List Int))) else k4 (some y82)
def adT (rc_expr_typed:(Nat→zf→jn→Option (Int ⊕ (Int)))) (n:Nat) (a0:zf) (a1:jn):Option (Int ⊕ (Int)):=at1 n fun n=>
 zB (fun (k4:(Option (List Int))→Option (Int ⊕ (Int)))=>qJ n rc_expr_typed a0 a1 k4 n 0 none) (fun|none=>bif (a0.A==1) then (acD n a0 a1).bind fun|.inl x8=>some (.inl x8)|.inr x6=>some (.inr x6) else bif (a0.A==2) then some (.inr a0.F.A) else zB (fun k11=>bif (a0.A==3) then k11 (a0.A==3) else bif (a0.A==4) then k11 (a0.A==4) else k11 (a0.A==5)) (fun (y10:Bool)=>bif y10 then none else bif (a0.A==6) then none else zB (fun k15=>bif (a0.A==7) then k15 (a0.A==7) else bif (a0.A==8) then k15 (a0.A==8) else k15 (a0.A==9)) (fun (y14:Bool)=>bif y14 then none else zB (fun k18=>bif (a0.A==10) then k18 (a0.A==10) else k18 (a0.A==11)) (fun (y17:Bool)=>bif y17 then none else bif (a0.A==12) then none else some (.inr 1))))|(some y3)=>bif (a0.A==1) then (acD n a0 a1).bind fun|.inl x29=>some (.inl x29)|.inr x27=>some (.inr x27) else bif (a0.A==2) then some (.inr a0.F.A) else zB (fun k32=>bif (a0.A==3) then k32 (a0.A==3) else bif (a0.A==4) then k32 (a0.A==4) else k32 (a0.A==5)) (fun (y31:Bool)=>bif y31 then (idx y3 0).bind fun x34=>(idx y3 1).bind fun x36=>(qY n x34 x36).bind fun|.inl x40=>some (.inl x40)|.inr x38=>some (.inr x38) else bif (a0.A==6) then (idx y3 0).bind fun x42=>(qY n x42 x42).bind fun|.inl x46=>some (.inl x46)|.inr x44=>some (.inr x44) else zB (fun k48=>bif (a0.A==7) then k48 (a0.A==7) else bif (a0.A==8) then k48 (a0.A==8) else k48 (a0.A==9)) (fun (y47:Bool)=>bif y47 then (idx y3 0).bind fun x50=>(idx y3 1).bind fun x52=>(QJ n x50 x52).bind fun|.inl x56=>some (.inl x56)|.inr x54=>some (.inr 1) else zB (fun k58=>bif (a0.A==10) then k58 (a0.A==10) else k58 (a0.A==11)) (fun (y57:Bool)=>bif y57 then (idx y3 0).bind fun x60=>(idx y3 1).bind fun x62=>(QA n x60 x62).bind fun|.inl x66=>some (.inl x66)|.inr x64=>some (.inr 1) else bif (a0.A==12) then (idx y3 0).bind fun x68=>(QA n x68 x68).bind fun|.inl x72=>some (.inl x72)|.inr x70=>some (.inr 1) else some (.inr 1)))))
def acG:Nat→Nat→zf→jn→Option (Int ⊕ (Int))
 |0=>fun _ _ _=>none
 |m+1=>adT (acG m)
def aha (n:Nat) (a0:zf) (a1:jn):Option (Int ⊕ (Int)):=acG n n a0 a1
def ago (n:Nat) (a0:Int) (a1:Int) (a2:Int) (a3:Int) (a4:Int) (a5:Nat) (a6:ByteArray) (a7:jl) (a8:jn) (a9:Int):Option ((Int) ⊕ (Int)):=at1 n fun n=>
 (ak3 n (zf.mk a0 a1 a2 (zn.mk a3 a4 a5 a6) a7) a8).bind fun|.inl x3=>some (.inl x3)|.inr x1=>(aha n (zf.mk a0 a1 a2 (zn.mk a3 a4 a5 a6) a7) a8).bind fun|.inl x6=>some (.inl x6)|.inr x4=>some (.inr (x4))
def Qb (n:Nat) (a0:Int) (a1:Int) (a2:Int) (a3:Int) (a4:Int) (a5:Nat) (a6:ByteArray) (a7:jl) (a8:jn) (a9:Int):Option (Int×Int):=at1 n fun n=>
 (ago n a0 a1 a2 a3 a4 a5 a6 a7 a8 a9).bind (fun|.inl x3=>some (a9,x3)|.inr (x4)=>some (x4,0))
def aa8 (n:Nat) (a0:zf) (a1:jn):Option (Int×Int):=at1 n fun n=>
 (acE n a0).bind fun x1=>bif (!x1) then some (0,2) else (Qb n a0.A a0.C a0.M a0.F.A a0.F.K a0.F.I a0.F.N a0.B a1 0).bind fun (x5,x6)=>bif (x6 !=0) then some (0,x6) else some (x5,0)
def adf (n:Nat) (a0:Int):Option (Bool):=at1 n fun n=>
 some ((a0==0)||(a0==1))
def adg (n:Nat) (a0:Int):Option (Unit):=at1 n fun n=>
 some ()
def ZO (n:Nat) (a0:jn) (a1:zf):Option (Int):=at1 n fun n=>
 (aa8 n a1 a0).bind fun x1=>zB (fun k5=>bif (x1.2==0) then (adf n x1.1).bind fun x10=>bif (!x10) then k5 50 else k5 x1.2 else k5 x1.2) (fun (y4:Int)=>bif (y4==0) then (adg n x1.1).bind fun x7=>some y4 else some y4)
def ada (n:Nat) (a0:jn) (a1:zf):Option (Int):=at1 n fun n=>
 (ZO n a0 a1).bind fun x2=>some x2
def Zo (n:Nat) (a0:jn) (a1:jl) (k3:(Unit→Option (Int))):Nat→Int→Option (Int)
 |0,_=>none
 |m6+1,y5=>bif (decide (y5<((sll a1).length:Int))) then (idx (sll a1) y5).bind fun x8=>(ada n a0 (zc x8)).bind fun x11=>bif (x11 !=0) then some x11 else Zo n a0 a1 k3 m6 (IntKind.wrap .i64 (y5+1)) else k3 ()
def qw (n:Nat) (a0:jn) (a1:jl):Option (Int):=at1 n fun n=>
 zB (fun k3=>Zo n a0 a1 k3 n 0) (fun (_:Unit)=>some 0)
def Qs (n:Nat) (a0:Int):Option (Bool):=at1 n fun n=>
 some true
def aac (n:Nat) (a0:Int):Option (Unit):=at1 n fun n=>
 (ckA 8 ([a0]:List Int).length).bind fun _=>some ()
def Za (n:Nat) (a0:jn) (a1:zf):Option ((Option (List Int))×Int):=at1 n fun n=>
 (aa8 n a1 a0).bind fun x1=>zB (fun k5=>bif (x1.2==0) then (Qs n x1.1).bind fun x9=>bif (!x9) then k5 50 else k5 x1.2 else k5 x1.2) (fun (y4:Int)=>bif (y4==0) then (aac n x1.1).bind fun _=>some ((some ([x1.1]:List Int)),y4) else some (none,y4))
def abU (n:Nat) (a0:jn) (a1:zf):Option ((Option (List Int))×Int):=at1 n fun n=>
 (Za n a0 a1).bind (fun|(none,x3)=>some (none,x3)|(some x2,x3)=>some ((some x2),x3))
def QE (n:Nat) (a0:(List Int)) (a1:Int):Option (Unit):=at1 n fun n=>
 (ckA 8 (a0++([a1]:List Int)).length).bind fun _=>some ()
def zV (n:Nat) (a0:(List Int)) (a1:jn) (a2:zf):Option ((List Int)×Int):=at1 n fun n=>
 (aa8 n a2 a1).bind fun x1=>zB (fun k5=>bif (x1.2==0) then (Qs n x1.1).bind fun x9=>bif (!x9) then k5 50 else k5 x1.2 else k5 x1.2) (fun (y4:Int)=>bif (y4==0) then (QE n a0 x1.1).bind fun _=>some ((a0++([x1.1]:List Int)),y4) else some (a0,y4))
def aaw (n:Nat) (a0:(List Int)) (a1:jn) (a2:zf):Option ((List Int)×Int):=at1 n fun n=>
 (zV n a0 a1 a2).bind fun (x2,x3)=>some (x2,x3)
def zF (n:Nat) (a0:jn) (a1:jl) (k8:((Option (List Int))→Option ((Option (List Int))×Int))):Nat→(Option (List Int))→Int→Option ((Option (List Int))×Int)
 |0,_,_=>none
 |m23+1,none,y18=>bif (decide (y18<((sll a1).length:Int))) then (idx (sll a1) y18).bind fun x25=>(abU n a0 (zc x25)).bind (fun|(none,x29)=>bif (x29 !=0) then some (none,x29) else zF n a0 a1 k8 m23 none (IntKind.wrap .i64 (y18+1))|(some x28,x29)=>bif (x29 !=0) then some ((some x28),x29) else zF n a0 a1 k8 m23 (some x28) (IntKind.wrap .i64 (y18+1))) else k8 none
 |m23+1,(some y17),y18=>bif (decide (y18<((sll a1).length:Int))) then (idx (sll a1) y18).bind fun x34=>(aaw n y17 a0 (zc x34)).bind fun (x37,x38)=>bif (x38 !=0) then some ((some x37),x38) else zF n a0 a1 k8 m23 (some x37) (IntKind.wrap .i64 (y18+1)) else k8 (some y17)
def qx (n:Nat) (a0:jn) (a1:jl):Option ((Option (List Int))×Int):=at1 n fun n=>
 zB (fun (k8:(Option (List Int))→Option ((Option (List Int))×Int))=>zF n a0 a1 k8 n none 0) (fun|none=>some (none,0)|(some y3)=>some ((some y3),0))
def adj (n:Nat) (a0:Int):Option (Unit):=at1 n fun n=>
 (aac n 2).bind fun _=>some ()
def ZX (n:Nat) (a0:jn) (a1:zf):Option ((Option (List Int))×Int):=at1 n fun n=>
 (aa8 n a1 a0).bind fun x1=>zB (fun k5=>bif (x1.2==0) then (Qs n x1.1).bind fun x9=>bif (!x9) then k5 50 else k5 x1.2 else k5 x1.2) (fun (y4:Int)=>bif (y4==0) then (adj n x1.1).bind fun _=>some ((some ([2]:List Int)),y4) else some (none,y4))
def aay (n:Nat) (a0:Int):Option (Bool):=at1 n fun n=>
 some ((a0==0)||(a0==2))
def ade (n:Nat) (a0:Int):Option (Unit):=at1 n fun n=>
 (aac n 2).bind fun _=>some ()
def ZQ (n:Nat) (a0:jn) (a1:zf):Option ((Option (List Int))×Int):=at1 n fun n=>
 (aa8 n a1 a0).bind fun x1=>zB (fun k5=>bif (x1.2==0) then (aay n x1.1).bind fun x9=>bif (!x9) then k5 50 else k5 x1.2 else k5 x1.2) (fun (y4:Int)=>bif (y4==0) then (ade n x1.1).bind fun _=>some ((some ([2]:List Int)),y4) else some (none,y4))
def adb (n:Nat) (a0:jn) (a1:zI):Option ((Option (List Int))×Int):=at1 n fun n=>
 bif (a1.A==1) then (ZX n a0 a1.Q).bind (fun|(none,x4)=>some (none,x4)|(some x3,x4)=>some ((some x3),x4)) else bif (a1.A==2) then (ZQ n a0 a1.Q).bind (fun|(none,x10)=>some (none,x10)|(some x9,x10)=>some ((some x9),x10)) else (Za n a0 a1.Q).bind (fun|(none,x15)=>some (none,x15)|(some x14,x15)=>some ((some x14),x15))
def ab6 (n:Nat) (a0:(List Int)) (a1:Int):Option (Unit):=at1 n fun n=>
 (QE n a0 2).bind fun _=>some ()
def ZP (n:Nat) (a0:(List Int)) (a1:jn) (a2:zf):Option ((List Int)×Int):=at1 n fun n=>
 (aa8 n a2 a1).bind fun x1=>zB (fun k5=>bif (x1.2==0) then (Qs n x1.1).bind fun x9=>bif (!x9) then k5 50 else k5 x1.2 else k5 x1.2) (fun (y4:Int)=>bif (y4==0) then (ab6 n a0 x1.1).bind fun _=>some ((a0++([2]:List Int)),y4) else some (a0,y4))
def ab3 (n:Nat) (a0:(List Int)) (a1:Int):Option (Unit):=at1 n fun n=>
 (QE n a0 2).bind fun _=>some ()
def ZG (n:Nat) (a0:(List Int)) (a1:jn) (a2:zf):Option ((List Int)×Int):=at1 n fun n=>
 (aa8 n a2 a1).bind fun x1=>zB (fun k5=>bif (x1.2==0) then (aay n x1.1).bind fun x9=>bif (!x9) then k5 50 else k5 x1.2 else k5 x1.2) (fun (y4:Int)=>bif (y4==0) then (ab3 n a0 x1.1).bind fun _=>some ((a0++([2]:List Int)),y4) else some (a0,y4))
def aav (n:Nat) (a0:(List Int)) (a1:jn) (a2:zI):Option ((List Int)×Int):=at1 n fun n=>
 bif (a2.A==1) then (ZP n a0 a1 a2.Q).bind fun (x3,x4)=>some (x3,x4) else bif (a2.A==2) then (ZG n a0 a1 a2.Q).bind fun (x11,x12)=>some (x11,x12) else (zV n a0 a1 a2.Q).bind fun (x18,x19)=>some (x18,x19)
def zH (n:Nat) (a0:jn) (a1:jq) (k8:((Option (List Int))→Option ((Option (List Int))×Int))):Nat→(Option (List Int))→Int→Option ((Option (List Int))×Int)
 |0,_,_=>none
 |m25+1,none,y20=>bif (decide (y20<((sll a1).length:Int))) then (idx (sll a1) y20).bind fun x27=>(adb n a0 x27).bind (fun|(none,x31)=>bif (x31 !=0) then some (none,x31) else zH n a0 a1 k8 m25 none (IntKind.wrap .i64 (y20+1))|(some x30,x31)=>bif (x31 !=0) then some ((some x30),x31) else zH n a0 a1 k8 m25 (some x30) (IntKind.wrap .i64 (y20+1))) else k8 none
 |m25+1,(some y19),y20=>bif (decide (y20<((sll a1).length:Int))) then (idx (sll a1) y20).bind fun x38=>(aav n y19 a0 x38).bind fun (x41,x42)=>bif (x42 !=0) then some ((some x41),x42) else zH n a0 a1 k8 m25 (some x41) (IntKind.wrap .i64 (y20+1)) else k8 (some y19)
def qC (n:Nat) (a0:jn) (a1:jq):Option ((Option (List Int))×Int):=at1 n fun n=>
 zB (fun (k8:(Option (List Int))→Option ((Option (List Int))×Int))=>zH n a0 a1 k8 n none 0) (fun|none=>some (none,0)|(some y3)=>some ((some y3),0))
def Zk (n:Nat) (a1:jn) (a2:jq) (k8:((List Int)→Option ((List Int)×Int))):Nat→(List Int)→Int→Option ((List Int)×Int)
 |0,_,_=>none
 |m21+1,y15,y16=>bif (decide (y16<((sll a2).length:Int))) then (idx (sll a2) y16).bind fun x23=>(aav n y15 a1 x23).bind fun (x26,x27)=>bif (x27 !=0) then some (x26,x27) else Zk n a1 a2 k8 m21 x26 (IntKind.wrap .i64 (y16+1)) else k8 y15
def ql (n:Nat) (a0:(List Int)) (a1:jn) (a2:jq):Option ((List Int)×Int):=at1 n fun n=>
 zB (fun k8=>Zk n a1 a2 k8 n a0 0) (fun (y1:(List Int))=>some (y1,0))
def adt (n:Nat) (a0:zr) (a1:jn):Option ((Option (List Int))×Int):=at1 n fun n=>
 (ad8 n (zr.mk a0.O a0.H a0.P a0.E a0.D a0.G) a1).bind fun x1=>bif (x1.2 !=0) then some (none,x1.2) else (aea n (zr.mk a0.O a0.H a0.P a0.E a0.D a0.G)).bind fun x4=>bif (!x4) then some (none,2) else (qw n x1.1 a0.H).bind fun x8=>zB (fun (k16:(Option (List Int))→Int→Option ((Option (List Int))×Int))=>bif (x8==0) then (qx n x1.1 a0.E).bind (fun|(none,x64)=>k16 none x64|(some x63,x64)=>k16 (some x63) x64) else k16 none x8) (fun|none,y11=>zB (fun (k28:(Option (List Int))→Int→Option ((Option (List Int))×Int))=>bif (y11==0) then (qC n x1.1 a0.D).bind (fun|(none,x34)=>k28 none x34|(some x33,x34)=>k28 (some x33) x34) else k28 none y11) (fun|none,y23=>bif (y23 !=0) then some (none,y23) else some (none,0)|(some y22),y23=>bif (y23 !=0) then some (none,y23) else some ((some y22),0))|(some y10),y11=>zB (fun k51=>bif (y11==0) then (ql n y10 x1.1 a0.D).bind fun (x55,x56)=>k51 x55 x56 else k51 y10 y11) (fun (y45:(List Int)) (y46:Int)=>bif (y46 !=0) then some (none,y46) else some ((some y45),0)))
def agR (n:Nat) (a0:Int):Option (Int):=at1 n fun n=>
 bif (a0==1) then some 0 else zB (fun k3=>bif (a0==5) then k3 (a0==5) else bif (a0==6) then k3 (a0==6) else k3 (a0==7)) (fun (y2:Bool)=>bif y2 then some 1 else bif (a0==2) then bif (a0==2) then some 2 else some (-1) else bif (a0==3) then bif (a0==3) then some 2 else some (-1) else bif (a0==4) then some 2 else some (-1))
def afT (n:Nat) (a0:zh):Option (Bool):=at1 n fun n=>
 zB (fun k7=>zB (fun k9=>zB (fun k12=>bif (a0.A==3) then bif (a0.A==3) then k9 () else k12 () else bif (a0.A==4) then k9 () else k12 ()) (fun (_:Unit)=>bif (a0.A==1) then bif (a0.A==1) then k7 0 (IntKind.wrap .i64 (((sll a0.J).length:Int)+((sll a0.L).length:Int))) ((sll a0.E).length:Int) ((sll a0.D).length:Int) ((sll a0.G).length:Int) else bif (a0.A==6) then bif (((sll a0.E).length:Int)==0) then some false else k7 ((sll a0.H).length:Int) (IntKind.wrap .i64 (((sll a0.J).length:Int)+((sll a0.L).length:Int))) 0 ((sll a0.D).length:Int) ((sll a0.G).length:Int) else bif (a0.A==5) then k7 ((sll a0.H).length:Int) (IntKind.wrap .i64 (((sll a0.J).length:Int)+((sll a0.L).length:Int))) 0 0 ((sll a0.G).length:Int) else bif (a0.A==7) then bif (((sll a0.G).length:Int)==0) then some false else k7 ((sll a0.H).length:Int) (IntKind.wrap .i64 (((sll a0.J).length:Int)+((sll a0.L).length:Int))) ((sll a0.E).length:Int) ((sll a0.D).length:Int) 0 else k7 ((sll a0.H).length:Int) (IntKind.wrap .i64 (((sll a0.J).length:Int)+((sll a0.L).length:Int))) ((sll a0.E).length:Int) ((sll a0.D).length:Int) ((sll a0.G).length:Int) else bif (a0.A==2) then k7 0 (IntKind.wrap .i64 (((sll a0.J).length:Int)+((sll a0.L).length:Int))) ((sll a0.E).length:Int) ((sll a0.D).length:Int) ((sll a0.G).length:Int) else bif (a0.A==6) then bif (((sll a0.E).length:Int)==0) then some false else k7 ((sll a0.H).length:Int) (IntKind.wrap .i64 (((sll a0.J).length:Int)+((sll a0.L).length:Int))) 0 ((sll a0.D).length:Int) ((sll a0.G).length:Int) else bif (a0.A==5) then k7 ((sll a0.H).length:Int) (IntKind.wrap .i64 (((sll a0.J).length:Int)+((sll a0.L).length:Int))) 0 0 ((sll a0.G).length:Int) else bif (a0.A==7) then bif (((sll a0.G).length:Int)==0) then some false else k7 ((sll a0.H).length:Int) (IntKind.wrap .i64 (((sll a0.J).length:Int)+((sll a0.L).length:Int))) ((sll a0.E).length:Int) ((sll a0.D).length:Int) 0 else k7 ((sll a0.H).length:Int) (IntKind.wrap .i64 (((sll a0.J).length:Int)+((sll a0.L).length:Int))) ((sll a0.E).length:Int) ((sll a0.D).length:Int) ((sll a0.G).length:Int))) (fun (_:Unit)=>bif ((((sll a0.J).length:Int)!=((sll a0.L).length:Int))||(((sll a0.J).length:Int)==0)) then some false else k7 0 0 ((sll a0.E).length:Int) ((sll a0.D).length:Int) ((sll a0.G).length:Int))) (fun (y2:Int) (y3:Int) (y4:Int) (y5:Int) (y6:Int)=>some ((IntKind.wrap .i64 ((IntKind.wrap .i64 ((IntKind.wrap .i64 ((IntKind.wrap .i64 (y2+y3))+y4))+y5))+y6))==0))
def acN (n:Nat) (a0:zf):Option (Bool):=at1 n fun n=>
 (acE n a0).bind fun x1=>some (!x1)
def zO (n:Nat) (a0:jl) (k3:(Unit→Option (Int))):Nat→Int→Option (Int)
 |0,_=>none
 |m6+1,y5=>bif (decide (y5<((sll a0).length:Int))) then (idx (sll a0) y5).bind fun x8=>(acN n (zc x8)).bind fun x10=>bif x10 then some y5 else zO n a0 k3 m6 (IntKind.wrap .i64 (y5+1)) else k3 ()
def qy (n:Nat) (a0:jl):Option (Int):=at1 n fun n=>
 zB (fun k3=>zO n a0 k3 n 0) (fun (_:Unit)=>some (-1))
def ZA (n:Nat) (a0:jl):Option (Bool):=at1 n fun n=>
 (qy n a0).bind fun x1=>some (decide (x1≥0))
def adW (n:Nat) (a0:zI):Option (Bool):=at1 n fun n=>
 bif ((decide (a0.A<1))||(decide (a0.A>4))) then some true else (acE n a0.Q).bind fun x2=>some (!x2)
def zR (n:Nat) (a0:jq) (k3:(Unit→Option (Int))):Nat→Int→Option (Int)
 |0,_=>none
 |m6+1,y5=>bif (decide (y5<((sll a0).length:Int))) then (idx (sll a0) y5).bind fun x8=>(adW n x8).bind fun x10=>bif x10 then some y5 else zR n a0 k3 m6 (IntKind.wrap .i64 (y5+1)) else k3 ()
def qG (n:Nat) (a0:jq):Option (Int):=at1 n fun n=>
 zB (fun k3=>zR n a0 k3 n 0) (fun (_:Unit)=>some (-1))
def ZE (n:Nat) (a0:jq):Option (Bool):=at1 n fun n=>
 (qG n a0).bind fun x1=>some (decide (x1≥0))
def afu (n:Nat) (a0:Zr):Option (Bool):=at1 n fun n=>
 some ((decide (a0.E<0))||(decide (a0.E>29)))
def zQ (n:Nat) (a0:jr) (k3:(Unit→Option (Int))):Nat→Int→Option (Int)
 |0,_=>none
 |m6+1,y5=>bif (decide (y5<((sll a0).length:Int))) then (idx (sll a0) y5).bind fun x8=>(afu n x8).bind fun x10=>bif x10 then some y5 else zQ n a0 k3 m6 (IntKind.wrap .i64 (y5+1)) else k3 ()
def qH (n:Nat) (a0:jr):Option (Int):=at1 n fun n=>
 zB (fun k3=>zQ n a0 k3 n 0) (fun (_:Unit)=>some (-1))
def ZF (n:Nat) (a0:jr):Option (Bool):=at1 n fun n=>
 (qH n a0).bind fun x1=>some (decide (x1≥0))
def Qq (n:Nat) (a0:zh) (k3:(Unit→Option (Bool))):Nat→Int→Option (Bool)
 |0,_=>none
 |m14+1,y13=>bif (decide (y13<4)) then (idx ([a0.H,a0.J,a0.L,a0.E]:List jl) y13).bind fun x16=>bif (decide (((sll x16).length:Int)>60)) then some false else (ZA n x16).bind fun x19=>bif x19 then some false else Qq n a0 k3 m14 (IntKind.wrap .i64 (y13+1)) else k3 ()
def afL (n:Nat) (a0:zh):Option (Bool):=at1 n fun n=>
 zB (fun k3=>Qq n a0 k3 n 0) (fun (_:Unit)=>bif (decide (((sll a0.D).length:Int)>60)) then some false else (ZE n a0.D).bind fun x5=>bif x5 then some false else bif (decide (((sll a0.G).length:Int)>60)) then some false else (ZF n a0.G).bind fun x9=>bif x9 then some false else some (((decide (a0.C≥0))&&(decide (a0.C<12)))&&((a0.A==1)||(a0.C==0))))
def abR (n:Nat) (rc_plan_count:(Nat→zh→Int→Int→Option (Int))) (a0:zh) (a1:Int) (k15:(Int→Option (Int))):Nat→Int→Int→Option (Int)
 |0,_,_=>none
 |m20+1,y18,y19=>bif (decide (y19<((sll a0.B).length:Int))) then (idx (sll a0.B) y19).bind fun x22=>(rc_plan_count n (zj x22) (IntKind.wrap .i64 (a1+1)) y18).bind fun x24=>bif (decide (x24<0)) then some (-1) else abR n rc_plan_count a0 a1 k15 m20 x24 (IntKind.wrap .i64 (y19+1)) else k15 y18
def abx (rc_plan_count:(Nat→zh→Int→Int→Option (Int))) (n:Nat) (a0:zh) (a1:Int) (a2:Int):Option (Int):=at1 n fun n=>
 bif (decide (a1>24)) then some (-1) else bif (decide (a2<1)) then some (-1) else (agR n a0.A).bind fun x3=>bif (x3 !=((sll a0.B).length:Int)) then some (-1) else (afT n (zh.mk a0.A a0.C a0.H a0.J a0.L a0.E a0.D a0.G a0.B)).bind fun x6=>bif (!x6) then some (-1) else (afL n a0).bind fun x9=>bif (!x9) then some (-1) else zB (fun k15=>abR n rc_plan_count a0 a1 k15 n (IntKind.wrap .i64 (a2-1)) 0) (fun (y12:Int)=>some y12)
def QR:Nat→Nat→zh→Int→Int→Option (Int)
 |0=>fun _ _ _ _=>none
 |m+1=>abx (QR m)
def aka (n:Nat) (a0:zh) (a1:Int) (a2:Int):Option (Int):=QR n n a0 a1 a2
def adH (n:Nat) (a0:zh):Option (Bool):=at1 n fun n=>
 (aka n a0 1 40).bind fun x1=>some (decide (x1≥0))
def qk (n:Nat) (a0:jr) (a1:jr) (k4:(Unit→Option (Bool))):Nat→Int→Option (Bool)
 |0,_=>none
 |m7+1,y6=>bif (decide (y6<((sll a0).length:Int))) then (idx (sll a0) y6).bind fun x9=>(idx (sll a1) y6).bind fun x11=>bif (!((x9.E==x11.E)&&((x9.S==x11.S)&&true))) then some false else qk n a0 a1 k4 m7 (IntKind.wrap .i64 (y6+1)) else k4 ()
def aba (n:Nat) (a0:jr) (a1:jr):Option (Bool):=at1 n fun n=>
 bif (((sll a0).length:Int)!=((sll a1).length:Int)) then some false else zB (fun k4=>qk n a0 a1 k4 n 0) (fun (_:Unit)=>some true)
def aev (n:Nat) (a0:Nat):Option (Bool):=at1 n fun n=>
 some ((FloatKind.format .f64).order a0 a0 !=some .eq)
def adE (n:Nat) (a0:zn):Option (zn):=at1 n fun n=>
 (adJ n a0).bind fun x1=>bif (!x1) then some (zn.mk 0 0 0 ByteArray.empty) else zB (fun k5=>bif (a0.A==3) then (aev n a0.I).bind fun x9=>k5 x9 else k5 false) (fun (y4:Bool)=>bif y4 then some (zn.mk a0.A a0.K (Int.toNat 9221120237041090561) a0.N) else bif ((a0.A==3)&&((FloatKind.format .f64).order a0.I 0==some .eq)) then some (zn.mk a0.A a0.K 0 a0.N) else some a0)
def ac0 (n:Nat) (a0:Int):Option (Bool):=at1 n fun n=>
 some (a0 !=a0)
def abC (n:Nat) (a0:Int) (a1:Int):Option (Int):=at1 n fun n=>
 (ac0 n a0).bind fun x1=>(ac0 n a1).bind fun x3=>bif x1 then bif x3 then some 0 else some (-1) else bif x3 then some 1 else bif (decide (a0<a1)) then some (-1) else bif (decide (a0>a1)) then some 1 else some 0
def aft (n:Nat) (a0:Nat) (a1:Nat):Option (Int):=at1 n fun n=>
 (aev n a0).bind fun x1=>(aev n a1).bind fun x3=>bif (x1&&x3) then some 0 else bif x1 then some 1 else bif x3 then some (-1) else bif ((FloatKind.format .f64).order a0 a1==some .lt) then some (-1) else bif ((FloatKind.format .f64).order a0 a1==some .gt) then some 1 else some 0
def aa5 (n:Nat) (a0:ByteArray):Option (Bool):=at1 n fun n=>
 some (!(sEq a0 a0))
def aam (n:Nat) (a0:ByteArray) (a1:ByteArray):Option (Int):=at1 n fun n=>
 (aa5 n a0).bind fun x1=>(aa5 n a1).bind fun x3=>bif x1 then bif x3 then some 0 else some (-1) else bif x3 then some 1 else bif (sLt a0 a1) then some (-1) else bif (!(sLt a0 a1||sEq a0 a1)) then some 1 else some 0
def abM (n:Nat) (a0:Int):Option (Bool):=at1 n fun n=>
 some (a0 !=a0)
def aaI (n:Nat) (a0:Int) (a1:Int):Option (Int):=at1 n fun n=>
 (abM n a0).bind fun x1=>(abM n a1).bind fun x3=>bif x1 then bif x3 then some 0 else some (-1) else bif x3 then some 1 else bif (decide (a0<a1)) then some (-1) else bif (decide (a0>a1)) then some 1 else some 0
def agM (n:Nat) (a0:zn) (a1:zn):Option (Int):=at1 n fun n=>
 (adE n a0).bind fun x1=>(adE n a1).bind fun x3=>bif (x1.A !=x3.A) then (abC n x1.A x3.A).bind fun x6=>some x6 else bif (x1.A==3) then (aft n x1.I x3.I).bind fun x9=>some x9 else bif (x1.A==4) then (aam n x1.N x3.N).bind fun x12=>some x12 else (aaI n x1.K x3.K).bind fun x14=>some x14
def afM (n:Nat) (a0:zn) (a1:zn):Option (Bool):=at1 n fun n=>
 (agM n a0 a1).bind fun x1=>some (x1==0)
def qZ (rc_slices_EqualFunc_Expr_expr_Same:(Nat→jl→jl→Option (Bool))) (n:Nat) (a0:zf) (a1:zf):Option (Bool):=at1 n fun n=>
 bif ((((a0.A==a1.A)&&(a0.C==a1.C))&&(a0.M==a1.M))&&(a0.F.A==a1.F.A)) then (afM n a0.F a1.F).bind fun x2=>bif x2 then (rc_slices_EqualFunc_Expr_expr_Same n a0.B a1.B).bind fun x5=>some x5 else some false else some false
def zY (n:Nat) (rc_slices_EqualFunc_Expr_expr_Same:(Nat→jl→jl→Option (Bool))) (a0:jl) (a1:jl) (k4:(Unit→Option (Bool))):Nat→Int→Option (Bool)
 |0,_=>none
 |m7+1,y6=>bif (decide (y6<((sll a0).length:Int))) then (idx (sll a0) y6).bind fun x9=>(idx (sll a1) y6).bind fun x11=>(qZ rc_slices_EqualFunc_Expr_expr_Same n (zc x9) (zc x11)).bind fun x13=>bif (!x13) then some false else zY n rc_slices_EqualFunc_Expr_expr_Same a0 a1 k4 m7 (IntKind.wrap .i64 (y6+1)) else k4 ()
def Z4 (rc_slices_EqualFunc_Expr_expr_Same:(Nat→jl→jl→Option (Bool))) (n:Nat) (a0:jl) (a1:jl):Option (Bool):=at1 n fun n=>
 bif (((sll a0).length:Int)!=((sll a1).length:Int)) then some false else zB (fun k4=>zY n rc_slices_EqualFunc_Expr_expr_Same a0 a1 k4 n 0) (fun (_:Unit)=>some true)
def Zl:Nat→Nat→jl→jl→Option (Bool)
 |0=>fun _ _ _=>none
 |m+1=>Z4 (Zl m)
def zP (n:Nat) (a0:jl) (a1:jl):Option (Bool):=Zl n n a0 a1
def ai7 (n:Nat) (a0:zI) (a1:zI):Option (Bool):=at1 n fun n=>
 bif (a0.A==a1.A) then (qZ zP n a0.Q a1.Q).bind fun x2=>some x2 else some false
def Zc (n:Nat) (a0:jq) (a1:jq) (k4:(Unit→Option (Bool))):Nat→Int→Option (Bool)
 |0,_=>none
 |m7+1,y6=>bif (decide (y6<((sll a0).length:Int))) then (idx (sll a0) y6).bind fun x9=>(idx (sll a1) y6).bind fun x11=>(ai7 n x9 x11).bind fun x13=>bif (!x13) then some false else Zc n a0 a1 k4 m7 (IntKind.wrap .i64 (y6+1)) else k4 ()
def ZK (n:Nat) (a0:jq) (a1:jq):Option (Bool):=at1 n fun n=>
 bif (((sll a0).length:Int)!=((sll a1).length:Int)) then some false else zB (fun k4=>Zc n a0 a1 k4 n 0) (fun (_:Unit)=>some true)
def abk (n:Nat) (a0:Int) (a1:zh):Option (Int):=at1 n fun n=>
 bif (((a1.A==1)&&(decide (a1.C≥0)))&&(decide (a1.C<32))) then (ckN (IntKind.wrap .u64 a1.C)).bind fun _=>some (iOr .u32 a0 (iShl .u32 1 (IntKind.wrap .u64 a1.C))) else some a0
def ZL (n:Nat) (rc_plan_walk_plan_Rels_1:(Nat→Int→zh→Option (Int))) (a1:zh) (k4:(Int→Option (Int))):Nat→Int→Int→Option (Int)
 |0,_,_=>none
 |m11+1,y9,y10=>bif (decide (y10<((sll a1.B).length:Int))) then (idx (sll a1.B) y10).bind fun x13=>(rc_plan_walk_plan_Rels_1 n y9 (zj x13)).bind fun x16=>ZL n rc_plan_walk_plan_Rels_1 a1 k4 m11 x16 (IntKind.wrap .i64 (y10+1)) else k4 y9
def Ql (rc_plan_walk_plan_Rels_1:(Nat→Int→zh→Option (Int))) (n:Nat) (a0:Int) (a1:zh):Option (Int):=at1 n fun n=>
 zB (fun k4=>ZL n rc_plan_walk_plan_Rels_1 a1 k4 n a0 0) (fun (y1:Int)=>(abk n y1 a1).bind fun x6=>some x6)
def qP:Nat→Nat→Int→zh→Option (Int)
 |0=>fun _ _ _=>none
 |m+1=>Ql (qP m)
def abY (n:Nat) (a0:Int) (a1:zh):Option (Int):=qP n n a0 a1
def aaj (n:Nat) (a0:zh):Option (Int):=at1 n fun n=>
 (abY n 0 a0).bind fun x2=>some x2
def abv (n:Nat) (rc_expr_Rels:(Nat→zf→Option (Int))) (a0:zf) (k7:(Int→Option (Int))):Nat→Int→Int→Option (Int)
 |0,_,_=>none
 |m12+1,y10,y11=>bif (decide (y10<((sll a0.B).length:Int))) then (idx (sll a0.B) y10).bind fun x14=>(rc_expr_Rels n (zc x14)).bind fun x16=>abv n rc_expr_Rels a0 k7 m12 (IntKind.wrap .i64 (y10+1)) (iOr .u32 y11 x16) else k7 y11
def ae6 (rc_expr_Rels:(Nat→zf→Option (Int))) (n:Nat) (a0:zf):Option (Int):=at1 n fun n=>
 zB (fun k3=>bif (((a0.A==1)&&(decide (a0.C≥0)))&&(decide (a0.C≤31))) then (ckN (IntKind.wrap .u64 a0.C)).bind fun _=>k3 (iShl .u32 1 (IntKind.wrap .u64 a0.C)) else k3 0) (fun (y2:Int)=>zB (fun k7=>abv n rc_expr_Rels a0 k7 n 0 y2) (fun (y6:Int)=>some y6))
def aae:Nat→Nat→zf→Option (Int)
 |0=>fun _ _=>none
 |m+1=>ae6 (aae m)
def alq (n:Nat) (a0:zf):Option (Int):=aae n n a0
def acZ (n:Nat) (a0:zf) (a1:Int):Option (Bool):=at1 n fun n=>
 (alq n a0).bind fun x1=>some ((aeM .u32 x1 a1)!=0)
def zK (n:Nat) (a0:jl) (a1:Int) (k3:(Unit→Option (Int))):Nat→Int→Option (Int)
 |0,_=>none
 |m6+1,y5=>bif (decide (y5<((sll a0).length:Int))) then (idx (sll a0) y5).bind fun x8=>(acZ n (zc x8) a1).bind fun x10=>bif x10 then some y5 else zK n a0 a1 k3 m6 (IntKind.wrap .i64 (y5+1)) else k3 ()
def qq (n:Nat) (a0:jl) (a1:Int):Option (Int):=at1 n fun n=>
 zB (fun k3=>zK n a0 a1 k3 n 0) (fun (_:Unit)=>some (-1))
def qc (n:Nat) (a0:jl) (a1:Int):Option (Bool):=at1 n fun n=>
 (qq n a0 a1).bind fun x1=>some (decide (x1≥0))
def Qm (n:Nat) (a0:jl) (a1:Int):Option (Bool):=at1 n fun n=>
 (qc n a0 a1).bind fun x1=>some (!x1)
def adu (n:Nat) (a0:Int) (a1:Int) (a2:Bool) (a3:zh):Option (Int×Int×Bool):=at1 n fun n=>
 zB (fun k5=>bif (a3.A==1) then (ckN (IntKind.wrap .u64 a3.C)).bind fun _=>k5 (IntKind.wrap .i64 (a0+1)) (iOr .u32 a1 (iShl .u32 1 (IntKind.wrap .u64 a3.C))) a2 else zB (fun k14=>bif (a3.A==3) then k14 (a3.A==3) else k14 (a3.A==4)) (fun (y13:Bool)=>bif y13 then bif a2 then (idx (sll a3.B) 0).bind fun x17=>(aaj n (zj x17)).bind fun x19=>(Qm n a3.J x19).bind fun x21=>bif x21 then (idx (sll a3.B) 1).bind fun x24=>(aaj n (zj x24)).bind fun x26=>(Qm n a3.L x26).bind fun x28=>k5 a0 a1 x28 else k5 a0 a1 false else k5 a0 a1 false else bif (a3.A==2) then k5 a0 a1 a2 else k5 a0 a1 false)) (fun (y2:Int) (y3:Int) (y4:Bool)=>bif y4 then (aaj n a3).bind fun x7=>(Qm n a3.H x7).bind fun x9=>some (y2,y3,x9) else some (y2,y3,false))
def ZC (n:Nat) (rc_plan_walk_plan_join_1:(Nat→Int→Int→Bool→zh→Option (Int×Int×Bool))) (a3:zh) (k6:(Int→Int→Bool→Option (Int×Int×Bool))):Nat→Int→Int→Bool→Int→Option (Int×Int×Bool)
 |0,_,_,_,_=>none
 |m19+1,y15,y16,y17,y18=>bif (decide (y18<((sll a3.B).length:Int))) then (idx (sll a3.B) y18).bind fun x21=>(rc_plan_walk_plan_join_1 n y15 y16 y17 (zj x21)).bind fun (x24,x25,x26)=>ZC n rc_plan_walk_plan_join_1 a3 k6 m19 x24 x25 x26 (IntKind.wrap .i64 (y18+1)) else k6 y15 y16 y17
def Qi (rc_plan_walk_plan_join_1:(Nat→Int→Int→Bool→zh→Option (Int×Int×Bool))) (n:Nat) (a0:Int) (a1:Int) (a2:Bool) (a3:zh):Option (Int×Int×Bool):=at1 n fun n=>
 zB (fun k6=>ZC n rc_plan_walk_plan_join_1 a3 k6 n a0 a1 a2 0) (fun (y1:Int) (y2:Int) (y3:Bool)=>(adu n y1 y2 y3 a3).bind fun (x8,x9,x10)=>some (x8,x9,x10))
def Qn:Nat→Nat→Int→Int→Bool→zh→Option (Int×Int×Bool)
 |0=>fun _ _ _ _ _=>none
 |m+1=>Qi (Qn m)
def abZ (n:Nat) (a0:Int) (a1:Int) (a2:Bool) (a3:zh):Option (Int×Int×Bool):=Qn n n a0 a1 a2 a3
def aeu (n:Nat) (a0:zh) (a1:Int):Option (Bool):=at1 n fun n=>
 (abZ n 0 0 true a0).bind fun (x2,x3,x4)=>bif (x4&&(x2==a1)) then (ckN (IntKind.wrap .u64 a1)).bind fun _=>some (x3==(IntKind.wrap .u32 ((iShl .u32 1 (IntKind.wrap .u64 a1))-1))) else some false
def qj (n:Nat) (rc_expr_Copy:(Nat→zf→Option (zf))) (a0:zf) (k4:(jl→Option (zf))):Nat→jl→Int→Option (zf)
 |0,_,_=>none
 |m10+1,none,y9=>bif (decide (y9<((sll a0.B).length:Int))) then (idx (sll a0.B) y9).bind fun x12=>(rc_expr_Copy n (zc x12)).bind fun x14=>(ckA 88 ([(zi x14)]:List zb).length).bind fun _=>qj n rc_expr_Copy a0 k4 m10 (some ([(zi x14)]:List zb)) (IntKind.wrap .i64 (y9+1)) else k4 none
 |m10+1,(some y8),y9=>bif (decide (y9<((sll a0.B).length:Int))) then (idx (sll a0.B) y9).bind fun x18=>(rc_expr_Copy n (zc x18)).bind fun x20=>(ckA 88 (y8++([(zi x20)]:List zb)).length).bind fun _=>qj n rc_expr_Copy a0 k4 m10 (some (y8++([(zi x20)]:List zb))) (IntKind.wrap .i64 (y9+1)) else k4 (some y8)
def ae3 (rc_expr_Copy:(Nat→zf→Option (zf))) (n:Nat) (a0:zf):Option (zf):=at1 n fun n=>
 zB (fun (k4:jl→Option (zf))=>qj n rc_expr_Copy a0 k4 n none 0) (fun|none=>some (zf.mk a0.A a0.C a0.M a0.F none)|(some y3)=>some (zf.mk a0.A a0.C a0.M a0.F (some y3)))
def abd:Nat→Nat→zf→Option (zf)
 |0=>fun _ _=>none
 |m+1=>ae3 (abd m)
def qg (n:Nat) (a0:zf):Option (zf):=abd n n a0
def zZ (n:Nat) (a0:zh):Nat→jl→Int→Option (jl)
 |0,_,_=>none
 |m26+1,none,y21=>bif (decide (y21<(if ((sll a0.L).length:Int)<((sll a0.J).length:Int) then ((sll a0.L).length:Int) else ((sll a0.J).length:Int)))) then (idx (sll a0.J) y21).bind fun x28=>(qg n (zc x28)).bind fun x30=>(idx (sll a0.L) y21).bind fun x32=>(qg n (zc x32)).bind fun x34=>(ckA 88 ([(zi (zf.mk 0 0 0 (zn.mk 0 0 0 ByteArray.empty) none))]:List zb).length).bind fun _=>(idx ([(zi (zf.mk 0 0 0 (zn.mk 0 0 0 ByteArray.empty) none))]:List zb) 0).bind fun x37=>zZ n a0 m26 (some (([(zi (zf.mk 0 0 0 (zn.mk 0 0 0 ByteArray.empty) none))]:List zb).set (Int.toNat 0) (zi (zf.mk 7 0 0 (zn.mk 0 0 0 ByteArray.empty) (some ([(zi x30),(zi x34)]:List zb)))))) (IntKind.wrap .i64 (y21+1)) else some none
 |m26+1,(some y20),y21=>bif (decide (y21<(if ((sll a0.L).length:Int)<((sll a0.J).length:Int) then ((sll a0.L).length:Int) else ((sll a0.J).length:Int)))) then (idx (sll a0.J) y21).bind fun x40=>(qg n (zc x40)).bind fun x42=>(idx (sll a0.L) y21).bind fun x44=>(qg n (zc x44)).bind fun x46=>(ckA 88 (y20++([(zi (zf.mk 0 0 0 (zn.mk 0 0 0 ByteArray.empty) none))]:List zb)).length).bind fun _=>(idx (y20++([(zi (zf.mk 0 0 0 (zn.mk 0 0 0 ByteArray.empty) none))]:List zb)) (y20.length:Int)).bind fun x49=>zZ n a0 m26 (some ((y20++([(zi (zf.mk 0 0 0 (zn.mk 0 0 0 ByteArray.empty) none))]:List zb)).set (Int.toNat (y20.length:Int)) (zi (zf.mk 7 0 0 (zn.mk 0 0 0 ByteArray.empty) (some ([(zi x42),(zi x46)]:List zb)))))) (IntKind.wrap .i64 (y21+1)) else some (some y20)
def ZJ (n:Nat) (a0:zh):Nat→jm→Int→Option (jl)
 |0,_,_=>none
 |m64+1,y58,y59=>bif (decide (y59<(if ((sll a0.L).length:Int)<((sll a0.J).length:Int) then ((sll a0.L).length:Int) else ((sll a0.J).length:Int)))) then (idx (sll a0.J) y59).bind fun x66=>(qg n (zc x66)).bind fun x68=>(idx (sll a0.L) y59).bind fun x70=>(qg n (zc x70)).bind fun x72=>(ckA 88 (y58++([(zi (zf.mk 0 0 0 (zn.mk 0 0 0 ByteArray.empty) none))]:List zb)).length).bind fun _=>(idx (y58++([(zi (zf.mk 0 0 0 (zn.mk 0 0 0 ByteArray.empty) none))]:List zb)) (y58.length:Int)).bind fun x75=>ZJ n a0 m64 ((y58++([(zi (zf.mk 0 0 0 (zn.mk 0 0 0 ByteArray.empty) none))]:List zb)).set (Int.toNat (y58.length:Int)) (zi (zf.mk 7 0 0 (zn.mk 0 0 0 ByteArray.empty) (some ([(zi x68),(zi x72)]:List zb))))) (IntKind.wrap .i64 (y59+1)) else some (some y58)
def Zp (n:Nat) (a0:zh) (k8:(jl→Option (jl))):Nat→jl→Int→Option (jl)
 |0,_,_=>none
 |m93+1,none,y88=>bif (decide (y88<((sll a0.H).length:Int))) then (idx (sll a0.H) y88).bind fun x95=>(qg n (zc x95)).bind fun x97=>(ckA 88 ([(zi (zf.mk 0 0 0 (zn.mk 0 0 0 ByteArray.empty) none))]:List zb).length).bind fun _=>(idx ([(zi (zf.mk 0 0 0 (zn.mk 0 0 0 ByteArray.empty) none))]:List zb) 0).bind fun x100=>Zp n a0 k8 m93 (some (([(zi (zf.mk 0 0 0 (zn.mk 0 0 0 ByteArray.empty) none))]:List zb).set (Int.toNat 0) (zi x97))) (IntKind.wrap .i64 (y88+1)) else k8 none
 |m93+1,(some y87),y88=>bif (decide (y88<((sll a0.H).length:Int))) then (idx (sll a0.H) y88).bind fun x103=>(qg n (zc x103)).bind fun x105=>(ckA 88 (y87++([(zi (zf.mk 0 0 0 (zn.mk 0 0 0 ByteArray.empty) none))]:List zb)).length).bind fun _=>(idx (y87++([(zi (zf.mk 0 0 0 (zn.mk 0 0 0 ByteArray.empty) none))]:List zb)) (y87.length:Int)).bind fun x108=>Zp n a0 k8 m93 (some ((y87++([(zi (zf.mk 0 0 0 (zn.mk 0 0 0 ByteArray.empty) none))]:List zb)).set (Int.toNat (y87.length:Int)) (zi x105))) (IntKind.wrap .i64 (y88+1)) else k8 (some y87)
def Qx (n:Nat) (a0:zh):Option (jl):=at1 n fun n=>
 zB (fun (k8:jl→Option (jl))=>Zp n a0 k8 n none 0) (fun|none=>bif ((a0.A !=3)&&(a0.A !=4)) then some none else zZ n a0 n none 0|(some y3)=>bif ((a0.A !=3)&&(a0.A !=4)) then some (some y3) else ZJ n a0 n y3 0)
def Zu (n:Nat) (a1:zh):Nat→jm→Int→Option (jm)
 |0,_,_=>none
 |m22+1,y16,y17=>bif (decide (y17<(if ((sll a1.L).length:Int)<((sll a1.J).length:Int) then ((sll a1.L).length:Int) else ((sll a1.J).length:Int)))) then (idx (sll a1.J) y17).bind fun x24=>(qg n (zc x24)).bind fun x26=>(idx (sll a1.L) y17).bind fun x28=>(qg n (zc x28)).bind fun x30=>(ckA 88 (y16++([(zi (zf.mk 0 0 0 (zn.mk 0 0 0 ByteArray.empty) none))]:List zb)).length).bind fun _=>(idx (y16++([(zi (zf.mk 0 0 0 (zn.mk 0 0 0 ByteArray.empty) none))]:List zb)) (y16.length:Int)).bind fun x33=>Zu n a1 m22 ((y16++([(zi (zf.mk 0 0 0 (zn.mk 0 0 0 ByteArray.empty) none))]:List zb)).set (Int.toNat (y16.length:Int)) (zi (zf.mk 7 0 0 (zn.mk 0 0 0 ByteArray.empty) (some ([(zi x26),(zi x30)]:List zb))))) (IntKind.wrap .i64 (y17+1)) else some y16
def Z3 (n:Nat) (a1:zh) (k8:(jm→Option (jm))):Nat→jm→Int→Option (jm)
 |0,_,_=>none
 |m47+1,y41,y42=>bif (decide (y42<((sll a1.H).length:Int))) then (idx (sll a1.H) y42).bind fun x49=>(qg n (zc x49)).bind fun x51=>(ckA 88 (y41++([(zi (zf.mk 0 0 0 (zn.mk 0 0 0 ByteArray.empty) none))]:List zb)).length).bind fun _=>(idx (y41++([(zi (zf.mk 0 0 0 (zn.mk 0 0 0 ByteArray.empty) none))]:List zb)) (y41.length:Int)).bind fun x54=>Z3 n a1 k8 m47 ((y41++([(zi (zf.mk 0 0 0 (zn.mk 0 0 0 ByteArray.empty) none))]:List zb)).set (Int.toNat (y41.length:Int)) (zi x51)) (IntKind.wrap .i64 (y42+1)) else k8 y41
def ZZ (n:Nat) (a0:jm) (a1:zh):Option (jm):=at1 n fun n=>
 zB (fun k8=>Z3 n a1 k8 n a0 0) (fun (y1:jm)=>bif ((a1.A !=3)&&(a1.A !=4)) then some y1 else Zu n a1 n y1 0)
def Zf (n:Nat) (rc_plan_walk_plan_Applied_1_2:(Nat→jm→zh→Option (jm))) (a1:zh) (k8:(jm→Option (jm))):Nat→jm→Int→Option (jm)
 |0,_,_=>none
 |m27+1,y21,y22=>bif (decide (y22<((sll a1.B).length:Int))) then (idx (sll a1.B) y22).bind fun x29=>(rc_plan_walk_plan_Applied_1_2 n y21 (zj x29)).bind fun x32=>Zf n rc_plan_walk_plan_Applied_1_2 a1 k8 m27 x32 (IntKind.wrap .i64 (y22+1)) else k8 y21
def qA (rc_plan_walk_plan_Applied_1_2:(Nat→jm→zh→Option (jm))) (n:Nat) (a0:jm) (a1:zh):Option (jm):=at1 n fun n=>
 zB (fun k8=>Zf n rc_plan_walk_plan_Applied_1_2 a1 k8 n a0 0) (fun (y1:jm)=>(ZZ n y1 a1).bind fun x10=>some x10)
def ZU:Nat→Nat→jm→zh→Option (jm)
 |0=>fun _ _ _=>none
 |m+1=>qA (ZU m)
def aap (n:Nat) (a0:jm) (a1:zh):Option (jm):=ZU n n a0 a1
def zG (n:Nat) (rc_plan_walk_plan_Applied_1:(Nat→zh→Option (jl))) (a0:zh) (k8:(jl→Option (jl))):Nat→jl→Int→Option (jl)
 |0,_,_=>none
 |m34+1,none,y29=>bif (decide (y29<((sll a0.B).length:Int))) then (idx (sll a0.B) y29).bind fun x36=>(rc_plan_walk_plan_Applied_1 n (zj x36)).bind (fun|none=>zG n rc_plan_walk_plan_Applied_1 a0 k8 m34 none (IntKind.wrap .i64 (y29+1))|some x39=>zG n rc_plan_walk_plan_Applied_1 a0 k8 m34 (some x39) (IntKind.wrap .i64 (y29+1))) else k8 none
 |m34+1,(some y28),y29=>bif (decide (y29<((sll a0.B).length:Int))) then (idx (sll a0.B) y29).bind fun x46=>(aap n y28 (zj x46)).bind fun x49=>zG n rc_plan_walk_plan_Applied_1 a0 k8 m34 (some x49) (IntKind.wrap .i64 (y29+1)) else k8 (some y28)
def qQ (rc_plan_walk_plan_Applied_1:(Nat→zh→Option (jl))) (n:Nat) (a0:zh):Option (jl):=at1 n fun n=>
 zB (fun (k8:jl→Option (jl))=>zG n rc_plan_walk_plan_Applied_1 a0 k8 n none 0) (fun|none=>(Qx n a0).bind (fun|none=>some none|some x10=>some (some x10))|(some y3)=>(ZZ n y3 a0).bind fun x17=>some (some x17))
def Z1:Nat→Nat→zh→Option (jl)
 |0=>fun _ _=>none
 |m+1=>qQ (Z1 m)
def aaR (n:Nat) (a0:zh):Option (jl):=Z1 n n a0
def abo (n:Nat) (a0:zh):Option (jl):=at1 n fun n=>
 (aaR n a0).bind (fun|none=>some none|some x2=>some (some x2))
def aaL (n:Nat) (a0:jl):Option (jl):=at1 n fun n=>
 bif (a0.isNone) then some none else bif (sll a0).isEmpty then (ckA 88 ([]:List zb).length).bind fun _=>some (some ([]:List zb)) else (ckA 88 (([]:List zb)++(sll a0)).length).bind fun _=>some (some (([]:List zb)++(sll a0)))
def adG (n:Nat) (a0:zf) (a1:zf):Option (Bool):=at1 n fun n=>
 (qZ zP n a0 a1).bind fun x1=>bif x1 then some true else bif (a0.A==7) then bif (a1.A==7) then bif (((sll a0.B).length:Int)==2) then bif (((sll a1.B).length:Int)==2) then (idx (sll a0.B) 0).bind fun x8=>(idx (sll a1.B) 1).bind fun x10=>(qZ zP n (zc x8) (zc x10)).bind fun x12=>bif x12 then (idx (sll a0.B) 1).bind fun x15=>(idx (sll a1.B) 0).bind fun x17=>(qZ zP n (zc x15) (zc x17)).bind fun x19=>some x19 else some false else some false else some false else some false else some false
def ad1 (n:Nat) (a0:zf) (a1:Int) (a2:Int) (a3:Int) (a4:Int) (a5:Int) (a6:Nat) (a7:ByteArray) (a8:jl):Option (Bool):=at1 n fun n=>
 (adG n (zf.mk a1 a2 a3 (zn.mk a4 a5 a6 a7) a8) a0).bind fun x1=>some x1
def zL (n:Nat) (a0:jl) (a1:Int) (a2:Int) (a3:Int) (a4:Int) (a5:Int) (a6:Nat) (a7:ByteArray) (a8:jl) (k3:(Unit→Option (Int))):Nat→Int→Option (Int)
 |0,_=>none
 |m6+1,y5=>bif (decide (y5<((sll a0).length:Int))) then (idx (sll a0) y5).bind fun x8=>(ad1 n (zc x8) a1 a2 a3 a4 a5 a6 a7 a8).bind fun x10=>bif x10 then some y5 else zL n a0 a1 a2 a3 a4 a5 a6 a7 a8 k3 m6 (IntKind.wrap .i64 (y5+1)) else k3 ()
def ZD (n:Nat) (a0:jl) (a1:Int) (a2:Int) (a3:Int) (a4:Int) (a5:Int) (a6:Nat) (a7:ByteArray) (a8:jl):Option (Int):=at1 n fun n=>
 zB (fun k3=>zL n a0 a1 a2 a3 a4 a5 a6 a7 a8 k3 n 0) (fun (_:Unit)=>some (-1))
def aby (n:Nat) (a0:Int) (a1:Int):Option (Unit):=at1 n fun n=>
 (ckB a0 a1 0).bind fun _=>(ckB 0 0 (0:Int)).bind fun _=>bif (a0==a1) then some () else (ckB 0 a0 (0:Int)).bind fun _=>(ckB a1 (0:Int) (0:Int)).bind fun _=>(ckB 0 0 (0:Int)).bind fun _=>some ()
def Qw (n:Nat) (a0:jm) (a1:Nat) (a2:Int) (a3:Int):Option (jm×Nat):=at1 n fun n=>
 (ckB a2 a3 ((a1:Nat):Int)).bind fun _=>(ckB 0 ((a1:Nat):Int) (a1:Int)).bind fun _=>bif (a2==a3) then some (a0,a1) else zB (fun k10=>(ckB 0 a2 (a0.length:Int)).bind fun _=>(ckB a3 ((a1:Nat):Int) (a0.length:Int)).bind fun _=>bif (subL a0 a3 ((a1:Nat):Int)).isEmpty then (ckA 88 a0.length).bind fun _=>k10 a0 (Int.toNat a2) else (ckB 0 (((Int.toNat a2)+(subL a0 a3 ((a1:Nat):Int)).length:Nat):Int) (a0.length:Int)).bind fun _=>k10 (a0.take (Int.toNat a2)++((subL a0 a3 ((a1:Nat):Int))++a0.drop ((Int.toNat a2)+(subL a0 a3 ((a1:Nat):Int)).length))) ((Int.toNat a2)+(subL a0 a3 ((a1:Nat):Int)).length)) (fun (y4:jm) (y5:Nat)=>(ckB ((y5:Nat):Int) ((a1:Nat):Int) (y4.length:Int)).bind fun _=>bif Nat.beq (Int.toNat ((a1:Nat):Int)-Int.toNat ((y5:Nat):Int)) 0 then some (y4,y5) else (ckB 0 (((Int.toNat ((y5:Nat):Int))+(Int.toNat ((a1:Nat):Int)-Int.toNat ((y5:Nat):Int)):Nat):Int) (y4.length:Int)).bind fun _=>some ((y4.take (Int.toNat ((y5:Nat):Int))++(List.replicate (Int.toNat ((a1:Nat):Int)-Int.toNat ((y5:Nat):Int)) (zi (zf.mk 0 0 0 (zn.mk 0 0 0 ByteArray.empty) none))++y4.drop ((Int.toNat ((y5:Nat):Int))+(Int.toNat ((a1:Nat):Int)-Int.toNat ((y5:Nat):Int))))),y5))
def Q5 (n:Nat) (a0:jl) (k7:(Unit→Option (Bool))):Nat→Int→Option (Bool)
 |0,_=>none
 |m10+1,y9=>bif (decide (y9<((sll a0).length:Int))) then (idx (sll a0) y9).bind fun x12=>(ZD n none ((zc x12).A) ((zc x12).C) ((zc x12).M) (((zc x12).F).A) (((zc x12).F).K) (((zc x12).F).I) (((zc x12).F).N) ((zc x12).B)).bind fun x14=>bif (decide (x14<0)) then some false else (aby n x14 (IntKind.wrap .i64 (x14+1))).bind fun _=>Q5 n a0 k7 m10 (IntKind.wrap .i64 (y9+1)) else k7 ()
def Qj (n:Nat) (a0:jl) (k26:(Nat→Option (Bool))):Nat→jm→Int→Nat→Option (Bool)
 |0,_,_,_=>none
 |m41+1,y34,y35,y36=>bif (decide (y35<((sll a0).length:Int))) then (idx (sll a0) y35).bind fun x43=>(ZD n (some (y34.take y36)) ((zc x43).A) ((zc x43).C) ((zc x43).M) (((zc x43).F).A) (((zc x43).F).K) (((zc x43).F).I) (((zc x43).F).N) ((zc x43).B)).bind fun x45=>bif (decide (x45<0)) then some false else (Qw n y34 y36 x45 (IntKind.wrap .i64 (x45+1))).bind fun (x49,x50)=>Qj n a0 k26 m41 x49 (IntKind.wrap .i64 (y35+1)) x50 else k26 y36
def abl (n:Nat) (a0:jl) (a1:jl):Option (Bool):=at1 n fun n=>
 zB (fun (k4:jl→Option (Bool))=>(aaL n a1).bind (fun|none=>k4 none|some x56=>k4 (some x56))) (fun|none=>zB (fun k7=>Q5 n a0 k7 n 0) (fun (_:Unit)=>some true)|(some y1)=>zB (fun k26=>Qj n a0 k26 n y1 0 y1.length) (fun (y21:Nat)=>some (((y21:Nat):Int)==0)))
def acF (n:Nat) (a0:zh) (a1:zr):Option (Bool):=at1 n fun n=>
 zB (fun k11=>bif (decide (((sll a1.G).length:Int)>0)) then bif (a0.A !=7) then some false else (aba n a0.G a1.G).bind fun x34=>bif (!x34) then some false else (idx (sll a0.B) 0).bind fun x37=>k11 ((zj x37).A) ((zj x37).E) ((zj x37).D) ((zj x37).B) else k11 a0.A a0.E a0.D a0.B) (fun (y2:Int) (y7:jl) (y8:jq) (y10:(Option (List Qv)))=>zB (fun k14=>bif a1.P then k14 5 else k14 6) (fun (y13:Int)=>bif (y2 !=y13) then some false else (zP n y7 a1.E).bind fun x16=>bif (!x16) then some false else (ZK n y8 a1.D).bind fun x19=>bif (!x19) then some false else (idx (sll y10) 0).bind fun x22=>(aeu n (zj x22) ((sll a1.O).length:Int)).bind fun x24=>bif x24 then (abo n (zj x22)).bind fun x27=>(abl n x27 a1.H).bind fun x29=>some x29 else some false))
def acL (n:Nat) (a0:zh) (a1:zr) (a2:jn):Option (Int):=at1 n fun n=>
 (adt n (zr.mk a1.O a1.H a1.P a1.E a1.D a1.G) a2).bind fun x1=>bif (x1.2 !=0) then some x1.2 else (adH n (zh.mk a0.A a0.C a0.H a0.J a0.L a0.E a0.D a0.G a0.B)).bind fun x4=>bif (!x4) then some 22 else (acF n (zh.mk a0.A a0.C a0.H a0.J a0.L a0.E a0.D a0.G a0.B) (zr.mk a1.O a1.H a1.P a1.E a1.D a1.G)).bind fun x7=>bif (!x7) then some 22 else some 0
def qo (n:Nat) (a0:zr) (a1:jn) (y11:Int) (k21:(Int→Option (jn×Int))):Nat→Int→Int→Option (jn×Int)
 |0,_,_=>none
 |m30+1,y28,y29=>bif (decide (y29≥0)) then (idx (sll a1) y29).bind fun x32=>(idx (sll a0.O) y11).bind fun x34=>bif (sEq x32.T x34) then qo n a0 a1 y11 k21 m30 y29 (IntKind.wrap .i64 (y29-1)) else qo n a0 a1 y11 k21 m30 y28 (IntKind.wrap .i64 (y29-1)) else k21 y28
def qe (n:Nat) (a0:zr) (a1:jn) (y11:Int) (k45:(Int→Option (jn×Int))):Nat→Int→Int→Option (jn×Int)
 |0,_,_=>none
 |m54+1,y52,y53=>bif (decide (y53≥0)) then (idx (sll a1) y53).bind fun x56=>(idx (sll a0.O) y11).bind fun x58=>bif (sEq x56.T x58) then qe n a0 a1 y11 k45 m54 y53 (IntKind.wrap .i64 (y53-1)) else qe n a0 a1 y11 k45 m54 y52 (IntKind.wrap .i64 (y53-1)) else k45 y52
def ZT (n:Nat) (a0:zr) (a1:jn) (k6:(jn→Option (jn×Int))):Nat→jn→Int→Option (jn×Int)
 |0,_,_=>none
 |m12+1,none,y11=>bif (decide (y11<((sll a0.O).length:Int))) then zB (fun k17=>zB (fun k21=>qo n a0 a1 y11 k21 n (-1) (IntKind.wrap .i64 (((sll a1).length:Int)-1))) (fun (y19:Int)=>bif (decide (y19<0)) then some (none,40) else (idx (sll a1) y19).bind fun x23=>(ckA 40 ([x23]:List zg).length).bind fun _=>k17 ([x23]:List zg))) (fun (y15:jo)=>ZT n a0 a1 k6 m12 (some y15) (IntKind.wrap .i64 (y11+1))) else k6 none
 |m12+1,(some y10),y11=>bif (decide (y11<((sll a0.O).length:Int))) then zB (fun k41=>zB (fun k45=>qe n a0 a1 y11 k45 n (-1) (IntKind.wrap .i64 (((sll a1).length:Int)-1))) (fun (y43:Int)=>bif (decide (y43<0)) then some (none,40) else (idx (sll a1) y43).bind fun x47=>(ckA 40 (y10++([x47]:List zg)).length).bind fun _=>k41 (y10++([x47]:List zg)))) (fun (y38:jo)=>ZT n a0 a1 k6 m12 (some y38) (IntKind.wrap .i64 (y11+1))) else k6 (some y10)
def adV (n:Nat) (a0:zr) (a1:jn):Option (jn×Int):=at1 n fun n=>
 bif (decide (((sll a0.O).length:Int)>12)) then some (none,51) else bif (((sll a0.O).length:Int)==0) then some (none,2) else zB (fun (k6:jn→Option (jn×Int))=>ZT n a0 a1 k6 n none 0) (fun|none=>some (none,0)|(some y5)=>some ((some y5),0))
def qU (n:Nat) (a0:zr) (k8:(Unit→Option (Bool))):Nat→Int→Option (Bool)
 |0,_=>none
 |m11+1,y10=>bif (decide (y10<((sll a0.G).length:Int))) then (idx (sll a0.G) y10).bind fun x13=>bif ((decide (x13.E<0))||(decide (x13.E≥(IntKind.wrap .i64 (((sll a0.E).length:Int)+((sll a0.D).length:Int)))))) then some false else qU n a0 k8 m11 (IntKind.wrap .i64 (y10+1)) else k8 ()
def Q6 (n:Nat) (a0:zr) (k5:(Unit→Option (Bool))):Nat→Int→Option (Bool)
 |0,_=>none
 |m18+1,y17=>bif (decide (y17<((sll a0.D).length:Int))) then (idx (sll a0.D) y17).bind fun x20=>bif ((decide (x20.A<1))||(decide (x20.A>4))) then some false else Q6 n a0 k5 m18 (IntKind.wrap .i64 (y17+1)) else k5 ()
def aeg (n:Nat) (a0:zr):Option (Bool):=at1 n fun n=>
 bif ((((decide (((sll a0.H).length:Int)>40))||(decide (((sll a0.E).length:Int)>20)))||(decide (((sll a0.D).length:Int)>10)))||(decide (((sll a0.G).length:Int)>10))) then some false else bif (((IntKind.wrap .i64 (((sll a0.E).length:Int)+((sll a0.D).length:Int)))==0)||((!a0.P)&&(decide (((sll a0.D).length:Int)>0)))) then some false else zB (fun k5=>Q6 n a0 k5 n 0) (fun (_:Unit)=>zB (fun k8=>qU n a0 k8 n 0) (fun (_:Unit)=>some true))
def af4 (n:Nat) (a0:Int):Option (Int):=at1 n fun n=>
 bif ((decide (a0<1))||(decide (a0>13))) then some (-1) else (ckI 14 a0).bind fun _=>some ((fun i=>([0,0,0,2,2,2,1,2,2,2,2,2,1,1]:List Int).getD i 0) (Int.toNat a0))
def acm (n:Nat) (a0:Nat):Option (Bool):=at1 n fun n=>
 bif ((FloatKind.format .f64).order a0 0==some .eq) then ((FloatKind.format .f64).div 4607182418800017408 a0).bind fun x2=>some ((FloatKind.format .f64).order x2 0==some .gt) else some false
def acb (n:Nat) (a0:zn):Option (Bool):=at1 n fun n=>
 bif (a0.A==0) then bif (a0.K==0) then (acm n a0.I).bind fun x3=>some (x3&&(sEq a0.N ByteArray.empty)) else some false else bif (a0.A==1) then bif ((a0.K==0)||(a0.K==1)) then (acm n a0.I).bind fun x7=>some (x7&&(sEq a0.N ByteArray.empty)) else some false else bif (a0.A==2) then (acm n a0.I).bind fun x10=>some (x10&&(sEq a0.N ByteArray.empty)) else bif (a0.A==3) then some ((a0.K==0)&&(sEq a0.N ByteArray.empty)) else bif (a0.A==4) then bif (a0.K==0) then (acm n a0.I).bind fun x15=>some (x15&&(decide ((a0.N.size:Int)≤64))) else some false else some false
def aa0 (n:Nat) (rc_ref22_parts:(Nat→zf→Int→Option (Int))) (a0:zf) (a1:Int) (k9:(Int→Option (Int))):Nat→Int→Int→Option (Int)
 |0,_,_=>none
 |m14+1,y12,y13=>bif (decide (y13<((sll a0.B).length:Int))) then (idx (sll a0.B) y13).bind fun x16=>(rc_ref22_parts n (zc x16) (IntKind.wrap .i64 (a1+1))).bind fun x18=>bif (decide ((IntKind.wrap .i64 (y12+x18))>400)) then some 401 else aa0 n rc_ref22_parts a0 a1 k9 m14 (IntKind.wrap .i64 (y12+x18)) (IntKind.wrap .i64 (y13+1)) else k9 y12
def aaO (rc_ref22_parts:(Nat→zf→Int→Option (Int))) (n:Nat) (a0:zf) (a1:Int):Option (Int):=at1 n fun n=>
 zB (fun k2=>bif (decide (a1>24)) then some 401 else (af4 n a0.A).bind fun x22=>bif (x22 !=((sll a0.B).length:Int)) then some 401 else bif (decide (a0.C<0)) then some 401 else bif (decide (a0.C>31)) then some 401 else bif (decide (a0.M<0)) then some 401 else bif (decide (a0.M>31)) then some 401 else bif (a0.A !=1) then bif (a0.C !=0) then some 401 else bif (a0.M !=0) then some 401 else k2 () else k2 ()) (fun (_:Unit)=>(acb n a0.F).bind fun x3=>bif ((!x3)||((a0.A !=2)&&(a0.F.A !=0))) then some 401 else zB (fun k9=>aa0 n rc_ref22_parts a0 a1 k9 n 1 0) (fun (y6:Int)=>some y6))
def Qt:Nat→Nat→zf→Int→Option (Int)
 |0=>fun _ _ _=>none
 |m+1=>aaO (Qt m)
def aiT (n:Nat) (a0:zf) (a1:Int):Option (Int):=Qt n n a0 a1
def aaC (n:Nat) (a0:zf):Option (Bool):=at1 n fun n=>
 (aiT n a0 1).bind fun x1=>some (decide (x1≤400))
def Qr (n:Nat) (rc_ref22_refs:(Nat→zf→jn→Option (Bool))) (a0:zf) (a1:jn) (k5:(Unit→Option (Bool))):Nat→Int→Option (Bool)
 |0,_=>none
 |m8+1,y7=>bif (decide (y7<((sll a0.B).length:Int))) then (idx (sll a0.B) y7).bind fun x10=>(rc_ref22_refs n (zc x10) a1).bind fun x12=>bif (!x12) then some false else Qr n rc_ref22_refs a0 a1 k5 m8 (IntKind.wrap .i64 (y7+1)) else k5 ()
def ad7 (rc_ref22_refs:(Nat→zf→jn→Option (Bool))) (n:Nat) (a0:zf) (a1:jn):Option (Bool):=at1 n fun n=>
 zB (fun k2=>bif (a0.A==1) then bif (decide (a0.C≥((sll a1).length:Int))) then some false else (idx (sll a1) a0.C).bind fun x17=>bif (decide (a0.M≥((sll x17.R).length:Int))) then some false else k2 () else k2 ()) (fun (_:Unit)=>zB (fun k5=>Qr n rc_ref22_refs a0 a1 k5 n 0) (fun (_:Unit)=>some true))
def abq:Nat→Nat→zf→jn→Option (Bool)
 |0=>fun _ _ _=>none
 |m+1=>ad7 (abq m)
def ajN (n:Nat) (a0:zf) (a1:jn):Option (Bool):=abq n n a0 a1
def qR (n:Nat) (rc_ref22_typed:(Nat→zf→jn→Option (Int×Bool))) (a0:zf) (a1:jn) (k5:((Nat→Int)→Bool→Option (Int×Bool))):Nat→(Nat→Int)→Bool→Int→Option (Int×Bool)
 |0,_,_,_=>none
 |m42+1,y39,y40,y41=>bif (decide (y41<((sll a0.B).length:Int))) then (idx (sll a0.B) y41).bind fun x44=>(rc_ref22_typed n (zc x44) a1).bind fun x46=>(ckI 2 y41).bind fun _=>qR n rc_ref22_typed a0 a1 k5 m42 (updA y39 y41 x46.1) (y40&&x46.2) (IntKind.wrap .i64 (y41+1)) else k5 y39 y40
def agu (rc_ref22_typed:(Nat→zf→jn→Option (Int×Bool))) (n:Nat) (a0:zf) (a1:jn):Option (Int×Bool):=at1 n fun n=>
 zB (fun k5=>qR n rc_ref22_typed a0 a1 k5 n (fun _=>0) true 0) (fun (y1:(Nat→Int)) (y3:Bool)=>(ckI 2 0).bind fun _=>zB (fun k9=>bif ((y1 (Int.toNat 0))==0) then (ckI 2 1).bind fun _=>k9 (y1 (Int.toNat 1)) else k9 (y1 (Int.toNat 0))) (fun (y8:Int)=>zB (fun k12=>bif (a0.A !=13) then (ckI 2 1).bind fun _=>bif (((y1 (Int.toNat 1))!=0)&&((y1 (Int.toNat 1))!=y8)) then k12 false else k12 y3 else k12 y3) (fun (y11:Bool)=>bif (a0.A==1) then (idx (sll a1) a0.C).bind fun x14=>(idx (sll x14.R) a0.M).bind fun x16=>some (x16.A,true) else bif (a0.A==2) then some (a0.F.A,true) else zB (fun k20=>bif (a0.A==3) then k20 (a0.A==3) else bif (a0.A==4) then k20 (a0.A==4) else bif (a0.A==5) then k20 (a0.A==5) else k20 (a0.A==6)) (fun (y19:Bool)=>bif y19 then some (y8,(y11&&(((y8==0)||(y8==2))||(y8==3)))) else zB (fun k24=>bif (a0.A==10) then k24 (a0.A==10) else bif (a0.A==11) then k24 (a0.A==11) else k24 (a0.A==12)) (fun (y23:Bool)=>bif y23 then some (1,(y11&&((y8==0)||(y8==1)))) else some (1,y11))))))
def aaS:Nat→Nat→zf→jn→Option (Int×Bool)
 |0=>fun _ _ _=>none
 |m+1=>agu (aaS m)
def ah0 (n:Nat) (a0:zf) (a1:jn):Option (Int×Bool):=aaS n n a0 a1
def aaN (n:Nat) (a0:zf) (a1:jn):Option (Int×Int):=at1 n fun n=>
 (aaC n a0).bind fun x1=>bif (!x1) then some (0,2) else (ajN n a0 a1).bind fun x4=>bif (!x4) then some (0,40) else (ah0 n a0 a1).bind fun x7=>bif (!x7.2) then some (0,50) else some (x7.1,0)
def Zb (n:Nat) (a0:zr) (x1:(jn×Int)) (k17:((Option (List Int))→Option ((Option (List Int))×Int))):Nat→(Option (List Int))→Int→Option ((Option (List Int))×Int)
 |0,_,_=>none
 |m23+1,none,y22=>bif (decide (y22<((sll a0.D).length:Int))) then (idx (sll a0.D) y22).bind fun x25=>(aaN n x25.Q x1.1).bind fun x27=>bif (x27.2 !=0) then some (none,x27.2) else bif (((x25.A==2)&&(x27.1 !=0))&&(x27.1 !=2)) then some (none,50) else bif (decide (x25.A≤2)) then (ckA 8 ([2]:List Int).length).bind fun _=>Zb n a0 x1 k17 m23 (some ([2]:List Int)) (IntKind.wrap .i64 (y22+1)) else (ckA 8 ([x27.1]:List Int).length).bind fun _=>Zb n a0 x1 k17 m23 (some ([x27.1]:List Int)) (IntKind.wrap .i64 (y22+1)) else k17 none
 |m23+1,(some y21),y22=>bif (decide (y22<((sll a0.D).length:Int))) then (idx (sll a0.D) y22).bind fun x35=>(aaN n x35.Q x1.1).bind fun x37=>bif (x37.2 !=0) then some (none,x37.2) else bif (((x35.A==2)&&(x37.1 !=0))&&(x37.1 !=2)) then some (none,50) else bif (decide (x35.A≤2)) then (ckA 8 (y21++([2]:List Int)).length).bind fun _=>Zb n a0 x1 k17 m23 (some (y21++([2]:List Int))) (IntKind.wrap .i64 (y22+1)) else (ckA 8 (y21++([x37.1]:List Int)).length).bind fun _=>Zb n a0 x1 k17 m23 (some (y21++([x37.1]:List Int))) (IntKind.wrap .i64 (y22+1)) else k17 (some y21)
def Zv (n:Nat) (a0:zr) (x1:(jn×Int)) (k47:((List Int)→Option ((Option (List Int))×Int))):Nat→(List Int)→Int→Option ((Option (List Int))×Int)
 |0,_,_=>none
 |m52+1,y50,y51=>bif (decide (y51<((sll a0.D).length:Int))) then (idx (sll a0.D) y51).bind fun x54=>(aaN n x54.Q x1.1).bind fun x56=>bif (x56.2 !=0) then some (none,x56.2) else bif (((x54.A==2)&&(x56.1 !=0))&&(x56.1 !=2)) then some (none,50) else bif (decide (x54.A≤2)) then (ckA 8 (y50++([2]:List Int)).length).bind fun _=>Zv n a0 x1 k47 m52 (y50++([2]:List Int)) (IntKind.wrap .i64 (y51+1)) else (ckA 8 (y50++([x56.1]:List Int)).length).bind fun _=>Zv n a0 x1 k47 m52 (y50++([x56.1]:List Int)) (IntKind.wrap .i64 (y51+1)) else k47 y50
def Zn (n:Nat) (a0:zr) (x1:(jn×Int)) (k13:((Option (List Int))→Option ((Option (List Int))×Int))):Nat→(Option (List Int))→Int→Option ((Option (List Int))×Int)
 |0,_,_=>none
 |m68+1,none,y67=>bif (decide (y67<((sll a0.E).length:Int))) then (idx (sll a0.E) y67).bind fun x70=>(aaN n (zc x70) x1.1).bind fun x72=>bif (x72.2 !=0) then some (none,x72.2) else (ckA 8 ([x72.1]:List Int).length).bind fun _=>Zn n a0 x1 k13 m68 (some ([x72.1]:List Int)) (IntKind.wrap .i64 (y67+1)) else k13 none
 |m68+1,(some y66),y67=>bif (decide (y67<((sll a0.E).length:Int))) then (idx (sll a0.E) y67).bind fun x77=>(aaN n (zc x77) x1.1).bind fun x79=>bif (x79.2 !=0) then some (none,x79.2) else (ckA 8 (y66++([x79.1]:List Int)).length).bind fun _=>Zn n a0 x1 k13 m68 (some (y66++([x79.1]:List Int))) (IntKind.wrap .i64 (y67+1)) else k13 (some y66)
def Z9 (n:Nat) (a0:zr) (x1:(jn×Int)) (k9:(Unit→Option ((Option (List Int))×Int))):Nat→Int→Option ((Option (List Int))×Int)
 |0,_=>none
 |m85+1,y84=>bif (decide (y84<((sll a0.H).length:Int))) then (idx (sll a0.H) y84).bind fun x87=>(aaN n (zc x87) x1.1).bind fun x89=>bif (x89.2 !=0) then some (none,x89.2) else bif ((x89.1 !=0)&&(x89.1 !=1)) then some (none,50) else Z9 n a0 x1 k9 m85 (IntKind.wrap .i64 (y84+1)) else k9 ()
def ae1 (n:Nat) (a0:zr) (a1:jn):Option ((Option (List Int))×Int):=at1 n fun n=>
 (adV n a0 a1).bind fun x1=>bif (x1.2 !=0) then some (none,x1.2) else (aeg n a0).bind fun x4=>bif (!x4) then some (none,2) else zB (fun k9=>Z9 n a0 x1 k9 n 0) (fun (_:Unit)=>zB (fun (k13:(Option (List Int))→Option ((Option (List Int))×Int))=>Zn n a0 x1 k13 n none 0) (fun|none=>zB (fun (k17:(Option (List Int))→Option ((Option (List Int))×Int))=>Zb n a0 x1 k17 n none 0) (fun|none=>some (none,0)|(some y16)=>some ((some y16),0))|(some y12)=>zB (fun k47=>Zv n a0 x1 k47 n y12 0) (fun (y44:(List Int))=>some ((some y44),0))))
def af3 (n:Nat) (a0:Int):Option (Int):=at1 n fun n=>
 bif (a0==1) then some 0 else zB (fun k3=>bif (a0==2) then k3 (a0==2) else bif (a0==3) then k3 (a0==3) else k3 (a0==4)) (fun (y2:Bool)=>bif y2 then some 2 else bif (a0==5) then bif (a0==5) then some 1 else some (-1) else bif (a0==6) then bif (a0==6) then some 1 else some (-1) else bif (a0==7) then some 1 else some (-1))
def aaa (n:Nat) (a0:jl) (k4:(Unit→Option (Bool))):Nat→Int→Option (Bool)
 |0,_=>none
 |m7+1,y6=>bif (decide (y6<((sll a0).length:Int))) then (idx (sll a0) y6).bind fun x9=>(aaC n (zc x9)).bind fun x11=>bif (!x11) then some false else aaa n a0 k4 m7 (IntKind.wrap .i64 (y6+1)) else k4 ()
def aax (n:Nat) (a0:jl):Option (Bool):=at1 n fun n=>
 bif (decide (((sll a0).length:Int)>60)) then some false else zB (fun k4=>aaa n a0 k4 n 0) (fun (_:Unit)=>some true)
def qE (n:Nat) (a0:zh) (k20:(Unit→Option (Bool))):Nat→Int→Option (Bool)
 |0,_=>none
 |m25+1,y24=>bif (decide (y24<((sll a0.G).length:Int))) then (idx (sll a0.G) y24).bind fun x27=>bif ((decide (x27.E<0))||(decide (x27.E>29))) then some false else qE n a0 k20 m25 (IntKind.wrap .i64 (y24+1)) else k20 ()
def Qp (n:Nat) (a0:zh) (k17:(Unit→Option (Bool))):Nat→Int→Option (Bool)
 |0,_=>none
 |m32+1,y31=>bif (decide (y31<((sll a0.D).length:Int))) then (idx (sll a0.D) y31).bind fun x34=>bif ((decide (x34.A<1))||(decide (x34.A>4))) then some false else (aaC n x34.Q).bind fun x37=>bif (!x37) then some false else Qp n a0 k17 m32 (IntKind.wrap .i64 (y31+1)) else k17 ()
def af2 (n:Nat) (a0:zh):Option (Bool):=at1 n fun n=>
 zB (fun k2=>(af3 n a0.A).bind fun x40=>bif (x40 !=((sll a0.B).length:Int)) then some false else bif (decide (a0.C<0)) then some false else bif (decide (a0.C≥12)) then some false else bif (a0.C !=0) then bif (a0.A !=1) then some false else k2 () else k2 ()) (fun (_:Unit)=>(aax n a0.H).bind fun x3=>bif (!x3) then some false else (aax n a0.J).bind fun x6=>bif (!x6) then some false else (aax n a0.L).bind fun x9=>bif (!x9) then some false else (aax n a0.E).bind fun x12=>bif (((!x12)||(decide (((sll a0.D).length:Int)>60)))||(decide (((sll a0.G).length:Int)>60))) then some false else zB (fun k17=>Qp n a0 k17 n 0) (fun (_:Unit)=>zB (fun k20=>qE n a0 k20 n 0) (fun (_:Unit)=>bif ((((decide (((sll a0.H).length:Int)>0))&&(decide (a0.A>4)))||(((sll a0.J).length:Int)!=((sll a0.L).length:Int)))||(!(((a0.A==3)||(a0.A==4))==(decide (((sll a0.J).length:Int)>0))))) then some false else bif (((((decide (((sll a0.E).length:Int)>0))&&(a0.A !=5))&&(a0.A !=6))||((a0.A==6)&&(((sll a0.E).length:Int)==0)))||((decide (((sll a0.D).length:Int)>0))&&(a0.A !=5))) then some false else some ((a0.A==7)==(decide (((sll a0.G).length:Int)>0))))))
def acn (n:Nat) (rc_ref25_count:(Nat→zh→Int→Option (Int))) (a0:zh) (a1:Int) (k8:(Int→Option (Int))):Nat→Int→Int→Option (Int)
 |0,_,_=>none
 |m13+1,y11,y12=>bif (decide (y12<((sll a0.B).length:Int))) then (idx (sll a0.B) y12).bind fun x15=>(rc_ref25_count n (zj x15) (IntKind.wrap .i64 (a1+1))).bind fun x17=>bif (decide ((IntKind.wrap .i64 (y11+x17))>40)) then some 41 else acn n rc_ref25_count a0 a1 k8 m13 (IntKind.wrap .i64 (y11+x17)) (IntKind.wrap .i64 (y12+1)) else k8 y11
def aaT (rc_ref25_count:(Nat→zh→Int→Option (Int))) (n:Nat) (a0:zh) (a1:Int):Option (Int):=at1 n fun n=>
 bif (decide (a1>24)) then some 41 else (af2 n a0).bind fun x2=>bif (!x2) then some 41 else zB (fun k8=>acn n rc_ref25_count a0 a1 k8 n 1 0) (fun (y6:Int)=>some y6)
def QY:Nat→Nat→zh→Int→Option (Int)
 |0=>fun _ _ _=>none
 |m+1=>aaT (QY m)
def aiw (n:Nat) (a0:zh) (a1:Int):Option (Int):=QY n n a0 a1
def aef (n:Nat) (a0:zh):Option (Bool):=at1 n fun n=>
 (aiw n a0 1).bind fun x1=>some (decide (x1≤40))
def adA (n:Nat) (a0:zn):Option (zn):=at1 n fun n=>
 (acb n a0).bind fun x1=>bif (!x1) then some (zn.mk 0 0 0 ByteArray.empty) else bif ((a0.A==3)&&((FloatKind.format .f64).order a0.I 0==some .eq)) then some (zn.mk 3 0 0 ByteArray.empty) else some a0
def agN (n:Nat) (a0:zn) (a1:zn):Option (Int):=at1 n fun n=>
 (adA n a0).bind fun x1=>(adA n a1).bind fun x3=>bif (x1.A !=x3.A) then bif (decide (x1.A<x3.A)) then some (-1) else some 1 else zB (fun k10=>bif (x1.A==3) then k10 (((FloatKind.format .f64).order x1.I x3.I==some .lt)||((!((FloatKind.format .f64).order x1.I x1.I !=some .eq))&&((FloatKind.format .f64).order x3.I x3.I !=some .eq))) (((FloatKind.format .f64).order x1.I x3.I==some .gt)||(((FloatKind.format .f64).order x1.I x1.I !=some .eq)&&(!((FloatKind.format .f64).order x3.I x3.I !=some .eq)))) else k10 (decide (x1.K<x3.K)) (decide (x1.K>x3.K))) (fun (y8:Bool) (y9:Bool)=>bif (x1.A==4) then bif (sLt x1.N x3.N) then some (-1) else bif (!(sLt x1.N x3.N||sEq x1.N x3.N)) then some 1 else some 0 else bif y8 then some (-1) else bif y9 then some 1 else some 0)
def QX (n:Nat) (rc_ref22_Same:(Nat→zf→zf→Option (Bool))) (a0:zf) (a1:zf) (k7:(Unit→Option (Bool))):Nat→Int→Option (Bool)
 |0,_=>none
 |m10+1,y9=>bif (decide (y9<((sll a0.B).length:Int))) then (idx (sll a0.B) y9).bind fun x12=>(idx (sll a1.B) y9).bind fun x14=>(rc_ref22_Same n (zc x12) (zc x14)).bind fun x16=>bif (!x16) then some false else QX n rc_ref22_Same a0 a1 k7 m10 (IntKind.wrap .i64 (y9+1)) else k7 ()
def ad0 (rc_ref22_Same:(Nat→zf→zf→Option (Bool))) (n:Nat) (a0:zf) (a1:zf):Option (Bool):=at1 n fun n=>
 bif ((((a0.A !=a1.A)||(a0.C !=a1.C))||(a0.M !=a1.M))||(a0.F.A !=a1.F.A)) then some false else (agN n a0.F a1.F).bind fun x2=>bif ((x2 !=0)||(((sll a0.B).length:Int)!=((sll a1.B).length:Int))) then some false else zB (fun k7=>QX n rc_ref22_Same a0 a1 k7 n 0) (fun (_:Unit)=>some true)
def abw:Nat→Nat→zf→zf→Option (Bool)
 |0=>fun _ _ _=>none
 |m+1=>ad0 (abw m)
def acz (n:Nat) (a0:zf) (a1:zf):Option (Bool):=abw n n a0 a1
def Qu (n:Nat) (a0:jl) (a1:jl) (k4:(Unit→Option (Bool))):Nat→Int→Option (Bool)
 |0,_=>none
 |m7+1,y6=>bif (decide (y6<((sll a0).length:Int))) then (idx (sll a0) y6).bind fun x9=>(idx (sll a1) y6).bind fun x11=>(acz n (zc x9) (zc x11)).bind fun x13=>bif (!x13) then some false else Qu n a0 a1 k4 m7 (IntKind.wrap .i64 (y6+1)) else k4 ()
def adI (n:Nat) (a0:jl) (a1:jl):Option (Bool):=at1 n fun n=>
 bif (((sll a0).length:Int)!=((sll a1).length:Int)) then some false else zB (fun k4=>Qu n a0 a1 k4 n 0) (fun (_:Unit)=>some true)
def qn (n:Nat) (a0:zr) (a1:zr) (k16:(Unit→Option (Bool))):Nat→Int→Option (Bool)
 |0,_=>none
 |m19+1,y18=>bif (decide (y18<((sll a0.G).length:Int))) then (idx (sll a0.G) y18).bind fun x21=>(idx (sll a1.G) y18).bind fun x23=>bif (x21.E !=x23.E) then some false else bif (!(x21.S==x23.S)) then some false else qn n a0 a1 k16 m19 (IntKind.wrap .i64 (y18+1)) else k16 ()
def Qc (n:Nat) (a0:zr) (a1:zr) (k13:(Unit→Option (Bool))):Nat→Int→Option (Bool)
 |0,_=>none
 |m29+1,y28=>bif (decide (y28<((sll a0.D).length:Int))) then (idx (sll a0.D) y28).bind fun x31=>(idx (sll a1.D) y28).bind fun x33=>bif (x31.A !=x33.A) then some false else (acz n x31.Q x33.Q).bind fun x36=>bif (!x36) then some false else Qc n a0 a1 k13 m29 (IntKind.wrap .i64 (y28+1)) else k13 ()
def QO (n:Nat) (a0:zr) (a1:zr) (k10:(Unit→Option (Bool))):Nat→Int→Option (Bool)
 |0,_=>none
 |m41+1,y40=>bif (decide (y40<((sll a0.O).length:Int))) then (idx (sll a0.O) y40).bind fun x43=>(idx (sll a1.O) y40).bind fun x45=>bif (!(sEq x43 x45)) then some false else QO n a0 a1 k10 m41 (IntKind.wrap .i64 (y40+1)) else k10 ()
def adk (n:Nat) (a0:zr) (a1:zr):Option (Bool):=at1 n fun n=>
 bif (((sll a0.O).length:Int)!=((sll a1.O).length:Int)) then some false else (adI n a0.H a1.H).bind fun x2=>bif ((!x2)||(!(a0.P==a1.P))) then some false else (adI n a0.E a1.E).bind fun x5=>bif (((!x5)||(((sll a0.D).length:Int)!=((sll a1.D).length:Int)))||(((sll a0.G).length:Int)!=((sll a1.G).length:Int))) then some false else zB (fun k10=>QO n a0 a1 k10 n 0) (fun (_:Unit)=>zB (fun k13=>Qc n a0 a1 k13 n 0) (fun (_:Unit)=>zB (fun k16=>qn n a0 a1 k16 n 0) (fun (_:Unit)=>some true)))
def adp (n:Nat) (a0:zh) (a1:zr):Option (Bool):=at1 n fun n=>
 (adk n (zr.mk none none false a0.E a0.D none) (zr.mk none none false a1.E a1.D none)).bind fun x1=>some x1
def QU (n:Nat) (rc_ref25_Set:(Nat→zh→Option (Int))) (a0:zh) (k7:(Int→Option (Int))):Nat→Int→Int→Option (Int)
 |0,_,_=>none
 |m12+1,y10,y11=>bif (decide (y11<((sll a0.B).length:Int))) then (idx (sll a0.B) y11).bind fun x14=>(rc_ref25_Set n (zj x14)).bind fun x16=>QU n rc_ref25_Set a0 k7 m12 (iOr .u32 y10 x16) (IntKind.wrap .i64 (y11+1)) else k7 y10
def ae9 (rc_ref25_Set:(Nat→zh→Option (Int))) (n:Nat) (a0:zh):Option (Int):=at1 n fun n=>
 zB (fun k3=>bif (((a0.A==1)&&(decide (a0.C≥0)))&&(decide (a0.C<32))) then (ckN (IntKind.wrap .u64 a0.C)).bind fun _=>k3 (iShl .u32 1 (IntKind.wrap .u64 a0.C)) else k3 0) (fun (y2:Int)=>zB (fun k7=>QU n rc_ref25_Set a0 k7 n y2 0) (fun (y5:Int)=>some y5))
def ace:Nat→Nat→zh→Option (Int)
 |0=>fun _ _=>none
 |m+1=>ae9 (ace m)
def ady (n:Nat) (a0:zh):Option (Int):=ace n n a0
def aaP (n:Nat) (rc_ref22_Rels:(Nat→zf→Option (Int))) (a0:zf) (k7:(Int→Option (Int))):Nat→Int→Int→Option (Int)
 |0,_,_=>none
 |m12+1,y10,y11=>bif (decide (y11<((sll a0.B).length:Int))) then (idx (sll a0.B) y11).bind fun x14=>(rc_ref22_Rels n (zc x14)).bind fun x16=>aaP n rc_ref22_Rels a0 k7 m12 (iOr .u32 y10 x16) (IntKind.wrap .i64 (y11+1)) else k7 y10
def adQ (rc_ref22_Rels:(Nat→zf→Option (Int))) (n:Nat) (a0:zf):Option (Int):=at1 n fun n=>
 zB (fun k3=>bif (((a0.A==1)&&(decide (a0.C≥0)))&&(decide (a0.C≤31))) then (ckN (IntKind.wrap .u64 a0.C)).bind fun _=>k3 (iShl .u32 1 (IntKind.wrap .u64 a0.C)) else k3 0) (fun (y2:Int)=>zB (fun k7=>aaP n rc_ref22_Rels a0 k7 n y2 0) (fun (y5:Int)=>some y5))
def QV:Nat→Nat→zf→Option (Int)
 |0=>fun _ _=>none
 |m+1=>adQ (QV m)
def ajP (n:Nat) (a0:zf):Option (Int):=QV n n a0
def Q4 (n:Nat) (a0:jl) (a1:Int) (k3:(Unit→Option (Bool))):Nat→Int→Option (Bool)
 |0,_=>none
 |m6+1,y5=>bif (decide (y5<((sll a0).length:Int))) then (idx (sll a0) y5).bind fun x8=>(ajP n (zc x8)).bind fun x10=>bif ((iOr .u32 x10 a1)!=a1) then some false else Q4 n a0 a1 k3 m6 (IntKind.wrap .i64 (y5+1)) else k3 ()
def abr (n:Nat) (a0:jl) (a1:Int):Option (Bool):=at1 n fun n=>
 zB (fun k3=>Q4 n a0 a1 k3 n 0) (fun (_:Unit)=>some true)
def ac5 (rc_ref25_scans:(Nat→zh→Option (Int))) (n:Nat) (a0:zh):Option (Int):=at1 n fun n=>
 bif (decide (a0.A>4)) then some (-1) else (ady n (zh.mk a0.A a0.C a0.H a0.J a0.L a0.E a0.D a0.G a0.B)).bind fun x2=>(abr n a0.H x2).bind fun x4=>bif (!x4) then some (-1) else bif (a0.A==1) then some 1 else (idx (sll a0.B) 0).bind fun x8=>(rc_ref25_scans n (zj x8)).bind fun x10=>(idx (sll a0.B) 1).bind fun x12=>(rc_ref25_scans n (zj x12)).bind fun x14=>bif (decide (x10<0)) then some (-1) else bif (decide (x14<0)) then some (-1) else (ady n (zj x8)).bind fun x18=>(abr n a0.J x18).bind fun x20=>bif (!x20) then some (-1) else (ady n (zj x12)).bind fun x23=>(abr n a0.L x23).bind fun x25=>bif (!x25) then some (-1) else some (IntKind.wrap .i64 (x10+x14))
def ac6:Nat→Nat→zh→Option (Int)
 |0=>fun _ _=>none
 |m+1=>ac5 (ac6 m)
def agn (n:Nat) (a0:zh):Option (Int):=ac6 n n a0
def Zq (n:Nat) (a0:zh) (k11:(jl→Option (jl))):Nat→jl→Int→Option (jl)
 |0,_,_=>none
 |m17+1,none,y16=>bif ((((a0.A==3)||(a0.A==4))&&(decide (y16<((sll a0.J).length:Int))))&&(decide (y16<((sll a0.L).length:Int)))) then (idx (sll a0.J) y16).bind fun x19=>(idx (sll a0.L) y16).bind fun x21=>(ckA 88 ([(zi (zf.mk 7 0 0 (zn.mk 0 0 0 ByteArray.empty) (some ([(zi (zc x19)),(zi (zc x21))]:List zb))))]:List zb).length).bind fun _=>Zq n a0 k11 m17 (some ([(zi (zf.mk 7 0 0 (zn.mk 0 0 0 ByteArray.empty) (some ([(zi (zc x19)),(zi (zc x21))]:List zb))))]:List zb)) (IntKind.wrap .i64 (y16+1)) else k11 none
 |m17+1,(some y15),y16=>bif ((((a0.A==3)||(a0.A==4))&&(decide (y16<((sll a0.J).length:Int))))&&(decide (y16<((sll a0.L).length:Int)))) then (idx (sll a0.J) y16).bind fun x25=>(idx (sll a0.L) y16).bind fun x27=>(ckA 88 (y15++([(zi (zf.mk 7 0 0 (zn.mk 0 0 0 ByteArray.empty) (some ([(zi (zc x25)),(zi (zc x27))]:List zb))))]:List zb)).length).bind fun _=>Zq n a0 k11 m17 (some (y15++([(zi (zf.mk 7 0 0 (zn.mk 0 0 0 ByteArray.empty) (some ([(zi (zc x25)),(zi (zc x27))]:List zb))))]:List zb))) (IntKind.wrap .i64 (y16+1)) else k11 (some y15)
def qb (n:Nat) (a0:zh) (k35:(jm→Option (jl))):Nat→jm→Int→Option (jl)
 |0,_,_=>none
 |m44+1,y40,y41=>bif ((((a0.A==3)||(a0.A==4))&&(decide (y41<((sll a0.J).length:Int))))&&(decide (y41<((sll a0.L).length:Int)))) then (idx (sll a0.J) y41).bind fun x46=>(idx (sll a0.L) y41).bind fun x48=>(ckA 88 (y40++([(zi (zf.mk 7 0 0 (zn.mk 0 0 0 ByteArray.empty) (some ([(zi (zc x46)),(zi (zc x48))]:List zb))))]:List zb)).length).bind fun _=>qb n a0 k35 m44 (y40++([(zi (zf.mk 7 0 0 (zn.mk 0 0 0 ByteArray.empty) (some ([(zi (zc x46)),(zi (zc x48))]:List zb))))]:List zb)) (IntKind.wrap .i64 (y41+1)) else k35 y40
def ZV (n:Nat) (a0:zh) (k58:(jm→Option (jl))):Nat→jm→Int→Option (jl)
 |0,_,_=>none
 |m63+1,y61,y62=>bif ((((a0.A==3)||(a0.A==4))&&(decide (y62<((sll a0.J).length:Int))))&&(decide (y62<((sll a0.L).length:Int)))) then (idx (sll a0.J) y62).bind fun x65=>(idx (sll a0.L) y62).bind fun x67=>(ckA 88 (y61++([(zi (zf.mk 7 0 0 (zn.mk 0 0 0 ByteArray.empty) (some ([(zi (zc x65)),(zi (zc x67))]:List zb))))]:List zb)).length).bind fun _=>ZV n a0 k58 m63 (y61++([(zi (zf.mk 7 0 0 (zn.mk 0 0 0 ByteArray.empty) (some ([(zi (zc x65)),(zi (zc x67))]:List zb))))]:List zb)) (IntKind.wrap .i64 (y62+1)) else k58 y61
def zW (n:Nat) (rc_ref25_Applied:(Nat→zh→Option (jl))) (a0:zh) (k4:(jl→Option (jl))):Nat→jl→Int→Option (jl)
 |0,_,_=>none
 |m77+1,none,y76=>bif (decide (y76<((sll a0.B).length:Int))) then (idx (sll a0.B) y76).bind fun x79=>(rc_ref25_Applied n (zj x79)).bind fun x81=>bif (sll x81).isEmpty then zW n rc_ref25_Applied a0 k4 m77 none (IntKind.wrap .i64 (y76+1)) else (ckA 88 (sll x81).length).bind fun _=>zW n rc_ref25_Applied a0 k4 m77 (some (sll x81)) (IntKind.wrap .i64 (y76+1)) else k4 none
 |m77+1,(some y75),y76=>bif (decide (y76<((sll a0.B).length:Int))) then (idx (sll a0.B) y76).bind fun x86=>(rc_ref25_Applied n (zj x86)).bind fun x88=>bif (sll x88).isEmpty then (ckA 88 y75.length).bind fun _=>zW n rc_ref25_Applied a0 k4 m77 (some y75) (IntKind.wrap .i64 (y76+1)) else (ckA 88 (y75++(sll x88)).length).bind fun _=>zW n rc_ref25_Applied a0 k4 m77 (some (y75++(sll x88))) (IntKind.wrap .i64 (y76+1)) else k4 (some y75)
def abH (rc_ref25_Applied:(Nat→zh→Option (jl))) (n:Nat) (a0:zh):Option (jl):=at1 n fun n=>
 zB (fun (k4:jl→Option (jl))=>zW n rc_ref25_Applied a0 k4 n none 0) (fun|none=>zB (fun (k7:jl→Option (jl))=>bif (sll a0.H).isEmpty then k7 none else (ckA 88 (sll a0.H).length).bind fun _=>k7 (some (sll a0.H))) (fun|none=>zB (fun (k11:jl→Option (jl))=>Zq n a0 k11 n none 0) (fun|none=>some none|(some y10)=>some (some y10))|(some y5)=>zB (fun k35=>qb n a0 k35 n y5 0) (fun (y30:jm)=>some (some y30)))|(some y3)=>zB (fun k54=>bif (sll a0.H).isEmpty then (ckA 88 y3.length).bind fun _=>k54 y3 else (ckA 88 (y3++(sll a0.H)).length).bind fun _=>k54 (y3++(sll a0.H))) (fun (y53:jm)=>zB (fun k58=>ZV n a0 k58 n y53 0) (fun (y55:jm)=>some (some y55))))
def aaz:Nat→Nat→zh→Option (jl)
 |0=>fun _ _=>none
 |m+1=>abH (aaz m)
def aeL (n:Nat) (a0:zh):Option (jl):=aaz n n a0
def afV (n:Nat) (a0:zf) (a1:zf):Option (Bool):=at1 n fun n=>
 (acz n a0 a1).bind fun x1=>bif x1 then some true else bif ((a0.A !=7)||(((sll a0.B).length:Int)!=2)) then some false else (idx (sll a0.B) 1).bind fun x5=>(idx (sll a0.B) 0).bind fun x7=>(acz n (zf.mk 7 a0.C a0.M a0.F (some ([(zi (zc x5)),(zi (zc x7))]:List zb))) a1).bind fun x9=>some x9
def qp (n:Nat) (a0:jl) (a1:jl) (y15:Int) (k34:((List Bool)→Bool→Option (Bool))):Nat→(List Bool)→Bool→Int→Option (Bool)
 |0,_,_,_=>none
 |m48+1,y42,y43,y44=>bif ((decide (y44<((sll a1).length:Int)))&&(!y43)) then (idx y42 y44).bind fun x50=>bif (!x50) then (idx (sll a0) y15).bind fun x53=>(idx (sll a1) y44).bind fun x55=>(afV n (zc x53) (zc x55)).bind fun x57=>bif x57 then qp n a0 a1 y15 k34 m48 (y42.set (Int.toNat y44) true) true (IntKind.wrap .i64 (y44+1)) else qp n a0 a1 y15 k34 m48 y42 y43 (IntKind.wrap .i64 (y44+1)) else qp n a0 a1 y15 k34 m48 y42 y43 (IntKind.wrap .i64 (y44+1)) else k34 y42 y43
def qS (n:Nat) (a0:jl) (a1:jl) (k8:(Unit→Option (Bool))):Nat→(List Bool)→Int→Option (Bool)
 |0,_,_=>none
 |m19+1,y14,y15=>bif (decide (y15<((sll a0).length:Int))) then zB (fun k26=>zB (fun k34=>qp n a0 a1 y15 k34 n y14 false 0) (fun (y27:(List Bool)) (y29:Bool)=>bif (!y29) then some false else k26 y27)) (fun (y21:(List Bool))=>qS n a0 a1 k8 m19 y21 (IntKind.wrap .i64 (y15+1))) else k8 ()
def abS (n:Nat) (a0:jl) (a1:jl):Option (Bool):=at1 n fun n=>
 (ckM 1 ((sll a1).length:Int) ((sll a1).length:Int)).bind fun _=>zB (fun k8=>qS n a0 a1 k8 n (List.replicate (Int.toNat ((sll a1).length:Int)) false) 0) (fun (_:Unit)=>some (((sll a0).length:Int)==((sll a1).length:Int)))
def ac1 (n:Nat) (a0:zh) (a1:zr) (a2:jn):Option (Int):=at1 n fun n=>
 (ae1 n a1 a2).bind fun x1=>bif (x1.2 !=0) then some x1.2 else (aef n a0).bind fun x4=>bif (!x4) then some 22 else zB (fun k17=>bif (decide (((sll a1.G).length:Int)>0)) then bif (a0.A !=7) then some 22 else (adk n (zr.mk none none false none none a0.G) (zr.mk none none false none none a1.G)).bind fun x38=>bif (!x38) then some 22 else (idx (sll a0.B) 0).bind fun x41=>k17 ((zj x41).A) ((zj x41).C) ((zj x41).H) ((zj x41).J) ((zj x41).L) ((zj x41).E) ((zj x41).D) ((zj x41).G) ((zj x41).B) else k17 a0.A a0.C a0.H a0.J a0.L a0.E a0.D a0.G a0.B) (fun (y8:Int) (y9:Int) (y10:jl) (y11:jl) (y12:jl) (y13:jl) (y14:jq) (y15:jr) (y16:(Option (List Qv)))=>bif ((a1.P&&(y8 !=5))||((!a1.P)&&(y8 !=6))) then some 22 else (adp n (zh.mk y8 y9 y10 y11 y12 y13 y14 y15 y16) a1).bind fun x19=>bif (!x19) then some 22 else (idx (sll y16) 0).bind fun x22=>(agn n (zj x22)).bind fun x24=>bif (x24 !=((sll a1.O).length:Int)) then some 22 else (ady n (zj x22)).bind fun x27=>(ckN (IntKind.wrap .u64 ((sll a1.O).length:Int))).bind fun _=>bif (x27 !=(IntKind.wrap .u32 ((iShl .u32 1 (IntKind.wrap .u64 ((sll a1.O).length:Int)))-1))) then some 22 else (aeL n (zj x22)).bind fun x31=>(abS n x31 a1.H).bind fun x33=>bif (!x33) then some 22 else some 0)
def aeW (n:Nat):Option (Bool):=bif n==3999999 then some true else none
def aaG (n:Nat) (a0:zh) (a1:zr) (a2:jn):Option (Bool):=at1 n fun n=>
 (ae2 n a0).bind fun x1=>bif x1 then some true else (afa n a1 a2).bind fun x4=>bif x4 then some true else (acL n (zh.mk a0.A a0.C a0.H a0.J a0.L a0.E a0.D a0.G a0.B) a1 a2).bind fun x7=>(ac1 n a0 a1 a2).bind fun x9=>bif (x7==x9) then (aeW n).bind fun x12=>some x12 else some false
end Go.Pl
