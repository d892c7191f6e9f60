import Derived.Test.YtejbcaheoloahaaGreatWB3
noncomputable section
namespace Go.Ab.S1
open Go Go.Ab Go.Pl
open Go.Proofs.Tryz
set_option linter.all false
set_option maxRecDepth 100000
theorem anb {rc_ref22_Same:(Nat→zf→zf→Option (Bool))}(ih_ref22_Same:∀ {n:Nat}{a0:zf}{a1:zf}{r:Bool}(hm:rc_ref22_Same n a0 a1=some r),call G n 122 [.agg [aI a0.A,aI a0.C,aI a0.M,aI a0.F.A,aI a0.F.K,aF a0.F.I,aS a0.F.N,.pv (zk za a0.B)],.agg [aI a1.A,aI a1.C,aI a1.M,aI a1.F.A,aI a1.F.K,aF a1.F.I,aS a1.F.N,.pv (zk za a1.B)]] []=some (.ret (aB r),[])) {n:Nat}{a0:zf}{a1:zf}{r:Bool}(hm:ad0 rc_ref22_Same n a0 a1=some r):
   call G n 122 [.agg (zc7 a0),.agg (zc7 a1)] []=some (.ret (aB r),[]):=by
 unfold ad0 at hm
 obtain ⟨n,rfl,h0⟩:=zp hm
 replace hm:=h0;clear h0
 refine zT 70 [(0,.agg (zc7 a0)),(1,.agg (zc7 a1))] func122 rfl hH (sq (det [jz,jC] [.box (zc7 a0) false,.box (zc7 a1) false] hH ?_))
 refine sq (sq (rg (s1 6 [(11,aB (a0.A !=a1.A)),(10,aB (a0.A !=a1.A)),(9,aI a1.A),(8,.ptr 1 0),(7,aI a0.A),(6,.ptr 0 0)] ?_)))
 refine segP (a0.A !=a1.A) [11,10] (fun b=>[(17,aB (b||(a0.C !=a1.C))),(16,ifA b hY (aB (a0.C !=a1.C))),(15,ifA b hY (aI a1.C)),(14,ifA b hY (.ptr 1 1)),(13,ifA b hY (aI a0.C)),(12,ifA b hY (.ptr 0 1))]) 6 hH hH hH (s1 1 [(18,aB ((a0.A !=a1.A)||(a0.C !=a1.C)))] ?_)
 refine segP ((a0.A !=a1.A)||(a0.C !=a1.C)) [18,17] (fun b=>[(24,aB (b||(a0.M !=a1.M))),(23,ifA b hY (aB (a0.M !=a1.M))),(22,ifA b hY (aI a1.M)),(21,ifA b hY (.ptr 1 2)),(20,ifA b hY (aI a0.M)),(19,ifA b hY (.ptr 0 2))]) 6 hH hH hH (s1 1 [(25,aB (((a0.A !=a1.A)||(a0.C !=a1.C))||(a0.M !=a1.M)))] ?_)
 refine segP (((a0.A !=a1.A)||(a0.C !=a1.C))||(a0.M !=a1.M)) [25,24] (fun b=>[(33,aB (b||(a0.F.A !=a1.F.A))),(32,ifA b hY (aB (a0.F.A !=a1.F.A))),(31,ifA b hY (aI a1.F.A)),(30,ifA b hY (.ptr 1 3)),(29,ifA b hY (.ptr 1 3)),(28,ifA b hY (aI a0.F.A)),(27,ifA b hY (.ptr 0 3)),(26,ifA b hY (.ptr 0 3))]) 8 hH hH hH (s1 1 [(34,aB ((((a0.A !=a1.A)||(a0.C !=a1.C))||(a0.M !=a1.M))||(a0.F.A !=a1.F.A)))] ?_)
 rcases zd hm with ⟨h1,hm⟩|⟨h1,hm⟩
 ·refine known [34,33] h1 hH (fq 16 [jz,jC,(50,aB true)] (cT hH (sq (dn [kn] (jc ?_)))))
  cases hm;exact hJ
 refine known [34,33] h1 hH (s1 4 [(38,.agg (zc8 a1)),(37,.ptr 1 3),(36,.agg (zc8 a0)),jW] ?_)
 obtain ⟨x2,h3,hm⟩:=bs hm
 refine dv 39 (zC hH (aqM h3) hH hH hH) hH (s1 3 [(42,aB (x2 !=0)),(41,aB (x2 !=0)),(40,aB (x2 !=0))] ?_)
 refine seg (x2 !=0) [42,41,40] (fun b=>[(50,aB (b||(((sll a0.B).length:Int)!=((sll a1.B).length:Int)))),(49,ifA b hY (aB (((sll a0.B).length:Int)!=((sll a1.B).length:Int)))),(48,ifA b hY (aI ((sll a1.B).length:Int))),(47,ifA b hY (.pv (abb a1))),(46,ifA b hY (.ptr 1 7)),(45,ifA b hY (aI ((sll a0.B).length:Int))),(44,ifA b hY (.pv (abb a0))),(43,ifA b hY (.ptr 0 7))]) 45 hH ?_ ?_ ?_
 ·intro Q h
  refine s1 8 [(50,aB true),(49,.undef),(48,.undef),(47,.undef),(46,.undef),(45,.undef),(44,.undef),(43,.undef)] ?_
  exact Ze hH hH h
 ·intro Q h
  refine s1 2 [(44,.pv (abb a0)),(43,.ptr 0 7)] (dv 45 (v:=aI (afb a0)) (zu za a0.B t23 hH) hH (s1 2 [(47,.pv (abb a1)),(46,.ptr 1 7)] (dv 48 (v:=aI (afb a1)) (zu za a1.B t23 hH) hH (s1 2 [(50,aB (((sll a0.B).length:Int)!=((sll a1.B).length:Int))),(49,aB (((sll a0.B).length:Int)!=((sll a1.B).length:Int)))] ?_))))
  exact Ze hH hH h
 refine fin [jz,jC,(50,aB ((x2 !=0)||(((sll a0.B).length:Int)!=((sll a1.B).length:Int))))] rfl hH ?_
 rcases zd hm with ⟨h4,hm⟩|⟨h4,hm⟩
 ·refine c1 h4 (sq (dn [kn] (jc ?_)))
  cases hm;exact hJ
 refine c0 h4 (jd ?_)
 obtain ⟨k7,hk7,hm⟩:=zo hm
 refine mid (fun t H=>(∃ (y5:Int) (y6:Bool),k7 ()=some r∧t=mk 70 [jz,jC,(5,aI y5),(55,aB y6)]∧H=[.box (zc7 a0) false,.box (zc7 a1) false])) ?_ ?_
 ·rintro _ _ ⟨y5,y6,hm,rfl,rfl⟩
  subst hk7
  refine sq (dn [kx] (jc ?_))
  cases hm;exact hJ
 refine sq (dn [jz,jC,j9] (bq ?_))
 refine ZR (fun mm t H=>(∃ (y9:Int),QX n rc_ref22_Same a0 a1 k7 mm y9=some r∧t=mk 70 [jz,jC,(5,aI y9)]∧H=[.box (zc7 a0) false,.box (zc7 a1) false])) (⟨0,hm,rfl,rfl⟩) ?_ ?_
 ·
   rintro _ _ ⟨y9,hm,_⟩;exact nomatch hm
 rintro m10 _ _ ⟨y9,hm,rfl,rfl⟩
 simp only [QX] at hm
 refine sq (sq (rg (s1 3 [(53,.pv (abb a0)),(52,.ptr 0 7),(51,aI y9)] (dv 54 (v:=aI (afb a0)) (zu za a0.B t23 hH) hH (fq 1 [jz,jC,(5,aI y9),(55,aB (adU y9 a0))] ?_)))))
 rcases zd hm with ⟨h11,hm⟩|⟨h11,hm⟩
 ·refine c1 h11 (jd (sq (bq (sq (rgd (shd 3 [(60,aI y9),(59,.pv (abb a0)),(58,.ptr 0 7)] hH ?_))))))
  obtain ⟨x12,h13,hm⟩:=bs hm
  refine dvd 61 (v:=.pv (.ptr (Z5 x12) 0)) (zS za a0.B .i64 t23 t49 h13 (zt x12) rfl hH) hH (shd 4 [(65,aI y9),(64,.pv (abb a1)),(63,.ptr 1 7),(62,.agg (zc9 x12))] hH ?_)
  obtain ⟨x14,h15,hm⟩:=bs hm
  refine dvd 66 (v:=.pv (.ptr (Z5 x14) 0)) (zS za a1.B .i64 t23 t49 h15 (zt x14) rfl hH) hH (shd 1 [(67,.agg (zc9 x14))] hH ?_)
  obtain ⟨x16,h17,hm⟩:=bs hm
  refine dvd 68 (zC hH (ih_ref22_Same h17) hH hH hH) hH (shd 1 [(69,aB (!x16))] hH (find [jz,jC,(5,aI y9),(69,aB (!x16))] rfl hH hH ?_))
  rcases zd hm with ⟨h18,hm⟩|⟨h18,hm⟩
  ·refine c1 h18 (sq (dn [kn] (jc ?_)))
   cases hm;exact hJ
  refine c0 h18 (jd (dn [jz,jC,(adC y9)] ?_))
  exact ⟨_,_,Zg [jz,jC,(adC y9)] [.box (zc7 a0) false,.box (zc7 a1) false] hH,⟨(zN y9),hm,rfl,rfl⟩⟩
 refine c0 h11 (je ?_)
 exact ⟨y9,(adU y9 a0),hm,rfl,rfl⟩
theorem aih:∀ (m:Nat),∀ {n:Nat}{a0:zf}{a1:zf}{r:Bool}(hm:abw m n a0 a1=some r),call G n 122 [.agg (zc7 a0),.agg (zc7 a1)] []=some (.ret (aB r),[])
 |0=>by intros;rename_i hm;exact nomatch hm
 |m+1=>fun hm=>
  anb (aih m) hm
theorem aeQ {n:Nat}{a0:zf}{a1:zf}{r:Bool}(hm:acz n a0 a1=some r):
 call G n 122 [.agg (zc7 a0),.agg (zc7 a1)] []=some (.ret (aB r),[]):=aih n hm
theorem ahR {n:Nat}{a0:jl}{a1:jl}{r:Bool}(hm:adI n a0 a1=some r):
   call G n 121 [.pv (ZN a0),.pv (ZN a1)] []=some (.ret (aB r),[]):=by
 unfold adI at hm
 obtain ⟨n,rfl,h0⟩:=zp hm
 replace hm:=h0;clear h0
 refine zT 27 [(zp25 a0),(zp88 a1)] func121 rfl hH (sq (dn [(zp25 a0),(zp88 a1)] ?_))
 refine sq (sq (rg (s1 1 [(6,.pv (ZN a0))] (dv 7 (v:=aI (aaB a0)) (zu za a0 t23 hH) hH (s1 1 [(zp64 a1)] (dv 9 (v:=aI (aaB a1)) (zu za a1 t23 hH) hH (fq 1 [(zp25 a0),(zp88 a1),(10,aB (((sll a0).length:Int)!=((sll a1).length:Int)))] ?_)))))))
 rcases zd hm with ⟨h,hm⟩|⟨h,hm⟩
 ·refine c1 h (sq (dn [kn] (jc ?_)))
  cases hm;exact hJ
 refine c0 h (jd ?_)
 obtain ⟨k4,hk4,hm⟩:=zo hm
 refine mid (fun t H=>(∃ (y2:Bool) (y3:Int),k4 ()=some r∧t=mk 27 [(zp25 a0),(zp88 a1),(5,aI y3),(14,aB y2)]∧H=[])) ?_ ?_
 ·rintro _ _ ⟨y2,y3,hm,rfl,rfl⟩
  subst hk4
  refine sq (dn [kx] (jc ?_))
  cases hm;exact hJ
 refine sq (dn [(zp25 a0),(zp88 a1),j9] (bq ?_))
 refine ZR (fun mm t H=>(∃ (y6:Int),Qu n a0 a1 k4 mm y6=some r∧t=mk 27 [(zp25 a0),(zp88 a1),(5,aI y6)]∧H=[])) (⟨0,hm,rfl,rfl⟩) ?_ ?_
 ·
   rintro _ _ ⟨y6,hm,_⟩;exact nomatch hm
 rintro m7 _ _ ⟨y6,hm,rfl,rfl⟩
 simp only [Qu] at hm
 refine sq (sq (rg (s1 2 [(12,.pv (ZN a0)),(11,aI y6)] (dv 13 (v:=aI (aaB a0)) (zu za a0 t23 hH) hH (fq 1 [(zp25 a0),(zp88 a1),(5,aI y6),(14,aB (aai y6 a0))] ?_)))))
 rcases zd hm with ⟨h,hm⟩|⟨h,hm⟩
 ·refine c1 h (jd (sq (bq (sq (rgd (shd 2 [(18,aI y6),(17,.pv (ZN a0))] hH ?_))))))
  obtain ⟨x9,h10,hm⟩:=bs hm
  refine dvd 19 (v:=.pv (.ptr (Z5 x9) 0)) (zS za a0 .i64 t23 t49 h10 (zt x9) rfl hH) hH (shd 3 [(22,aI y6),(21,.pv (ZN a1)),(20,.agg (zc9 x9))] hH ?_)
  obtain ⟨x11,h12,hm⟩:=bs hm
  refine dvd 23 (v:=.pv (.ptr (Z5 x11) 0)) (zS za a1 .i64 t23 t49 h12 (zt x11) rfl hH) hH (shd 1 [(24,.agg (zc9 x11))] hH ?_)
  obtain ⟨x13,h14,hm⟩:=bs hm
  refine dvd 25 (zC hH (aeQ h14) hH hH hH) hH (shd 1 [(26,aB (!x13))] hH (find [(zp25 a0),(zp88 a1),(5,aI y6),(26,aB (!x13))] rfl hH hH ?_))
  rcases zd hm with ⟨h,hm⟩|⟨h,hm⟩
  ·refine c1 h (sq (dn [kn] (jc ?_)))
   cases hm;exact hJ
  refine c0 h (jd (dn [(zp25 a0),(zp88 a1),(adC y6)] ?_))
  exact ⟨_,_,Zg [(zp25 a0),(zp88 a1),(adC y6)] [] hH,⟨(zN y6),hm,rfl,rfl⟩⟩
 refine c0 h (je ?_)
 exact ⟨(aai y6 a0),y6,hm,rfl,rfl⟩
theorem ajF {n:Nat}{a0:zr}{a1:zr}{r:Bool}(hm:adk n a0 a1=some r):
   call G n 33 [.agg (zc0 a0),.agg (zc0 a1)] []=some (.ret (aB r),[]):=by
 unfold adk at hm
 obtain ⟨n,rfl,h0⟩:=zp hm
 replace hm:=h0;clear h0
 refine zT 145 [(0,.agg (zc0 a0)),(1,.agg (zc0 a1))] func33 rfl hH (sq (det [jz,jC] [.box (zc0 a0) false,.box (zc0 a1) false] hH ?_))
 refine sq (sq (rg (s1 2 [(9,.pv (zk rS a0.O)),jO] (dv 10 (v:=aI (ae0 a0)) (zu rS a0.O t22 hH) hH (s1 2 [(12,.pv (zk rS a1.O)),(11,.ptr 1 0)] (dv 13 (v:=aI (ae0 a1)) (zu rS a1.O t22 hH) hH (s1 2 [(15,aB (((sll a0.O).length:Int)!=((sll a1.O).length:Int))),(14,aB (((sll a0.O).length:Int)!=((sll a1.O).length:Int)))] ?_)))))))
 rcases zd hm with ⟨h1,hm⟩|⟨h1,hm⟩
 ·refine known [15,14] h1 hH (fq 40 [jz,jC,(55,aB true)] (cT hH (sq (dn [kn] (jc ?_)))))
  cases hm;exact hJ
 refine known [15,14] h1 hH (s1 4 [(19,.pv (aiy a1)),(18,.ptr 1 1),(17,.pv (aiy a0)),(16,.ptr 0 1)] ?_)
 obtain ⟨x2,h3,hm⟩:=bs hm
 refine dv 20 (zC hH (ahR h3) hH hH hH) hH (s1 3 [(23,aB (!x2)),(22,aB (!x2)),(21,aB (!x2))] ?_)
 refine segP (!x2) [23,22,21] (fun b=>[(29,aB (b||(!(a0.P==a1.P)))),(28,ifA b hY (aB (!(a0.P==a1.P)))),(27,ifA b hY (aB a1.P)),(26,ifA b hY (.ptr 1 2)),(25,ifA b hY (aB a0.P)),(24,ifA b hY (.ptr 0 2))]) 6 hH hH hH (s1 1 [(30,aB ((!x2)||(!(a0.P==a1.P))))] ?_)
 rcases zd hm with ⟨h4,hm⟩|⟨h4,hm⟩
 ·refine known [30,29] h4 hH (fq 25 [jz,jC,(55,aB true)] (cT hH (sq (dn [kn] (jc ?_)))))
  cases hm;exact hJ
 refine known [30,29] h4 hH (s1 4 [(34,.pv (ac4 a1)),(33,.ptr 1 3),(32,.pv (ac4 a0)),(31,.ptr 0 3)] ?_)
 obtain ⟨x5,h6,hm⟩:=bs hm
 refine dv 35 (zC hH (ahR h6) hH hH hH) hH (s1 3 [(38,aB (!x5)),(37,aB (!x5)),(36,aB (!x5))] ?_)
 refine seg (!x5) [38,37,36] (fun b=>[(46,aB (b||(((sll a0.D).length:Int)!=((sll a1.D).length:Int)))),(45,ifA b hY (aB (((sll a0.D).length:Int)!=((sll a1.D).length:Int)))),(44,ifA b hY (anE a1)),(43,ifA b hY (.pv (qM a1))),(42,ifA b hY (.ptr 1 4)),(41,ifA b hY (anE a0)),(40,ifA b hY (.pv (qM a0))),(39,ifA b hY (.ptr 0 4))]) 39 hH ?_ ?_ ?_
 ·intro Q h
  refine s1 8 [kM,(45,.undef),(44,.undef),(43,.undef),(42,.undef),(41,.undef),(40,.undef),(39,.undef)] ?_
  exact Ze hH hH h
 ·intro Q h
  refine s1 2 [(40,.pv (qM a0)),(39,.ptr 0 4)] (dv 41 (v:=aI (afr a0)) (zu zl a0.D t24 hH) hH (s1 2 [(43,.pv (qM a1)),(42,.ptr 1 4)] (dv 44 (v:=aI (afr a1)) (zu zl a1.D t24 hH) hH (s1 2 [(46,aB (((sll a0.D).length:Int)!=((sll a1.D).length:Int))),(45,aB (((sll a0.D).length:Int)!=((sll a1.D).length:Int)))] ?_))))
  exact Ze hH hH h
 refine s1 1 [(47,aB ((!x5)||(((sll a0.D).length:Int)!=((sll a1.D).length:Int))))] ?_
 refine seg ((!x5)||(((sll a0.D).length:Int)!=((sll a1.D).length:Int))) [47,46] (fun b=>[(55,aB (b||(((sll a0.G).length:Int)!=((sll a1.G).length:Int)))),(54,ifA b hY (aB (((sll a0.G).length:Int)!=((sll a1.G).length:Int)))),(53,ifA b hY (aI ((sll a1.G).length:Int))),(52,ifA b hY (.pv (aa3 a1))),(51,ifA b hY (.ptr 1 5)),(50,ifA b hY (aI ((sll a0.G).length:Int))),(49,ifA b hY (.pv (aa3 a0))),(48,ifA b hY (.ptr 0 5))]) 48 hH ?_ ?_ ?_
 ·intro Q h
  refine s1 8 [(55,aB true),(54,.undef),(53,.undef),(52,.undef),(51,.undef),(50,.undef),(49,.undef),(48,.undef)] ?_
  exact Ze hH hH h
 ·intro Q h
  refine s1 2 [(49,.pv (aa3 a0)),(48,.ptr 0 5)] (dv 50 (v:=aI (ajB a0)) (zu zx a0.G t25 hH) hH (s1 2 [(52,.pv (aa3 a1)),(51,.ptr 1 5)] (dv 53 (v:=aI (ajB a1)) (zu zx a1.G t25 hH) hH (s1 2 [(55,aB (((sll a0.G).length:Int)!=((sll a1.G).length:Int))),(54,aB (((sll a0.G).length:Int)!=((sll a1.G).length:Int)))] ?_))))
  exact Ze hH hH h
 refine fin [jz,jC,(55,aB (((!x5)||(((sll a0.D).length:Int)!=((sll a1.D).length:Int)))||(((sll a0.G).length:Int)!=((sll a1.G).length:Int))))] rfl hH ?_
 rcases zd hm with ⟨h7,hm⟩|⟨h7,hm⟩
 ·refine c1 h7 (sq (dn [kn] (jc ?_)))
  cases hm;exact hJ
 refine c0 h7 (jd ?_)
 obtain ⟨k10,hk10,hm⟩:=zo hm
 refine mid (fun t H=>(∃ (y8:Int) (y9:Bool),k10 ()=some r∧t=mk 145 [jz,jC,(5,aI y8),(60,aB y9)]∧H=[.box (zc0 a0) false,.box (zc0 a1) false])) ?_ ?_
 ·rintro _ _ ⟨y8,y9,hm,rfl,rfl⟩
  subst hk10
  obtain ⟨k13,hk13,hm⟩:=zo hm
  refine mid (fun t H=>(∃ (y11:Int) (y12:Bool),k13 ()=some r∧t=mk 145 [jz,jC,(6,aI y11),(78,aB y12)]∧H=[.box (zc0 a0) false,.box (zc0 a1) false])) ?_ ?_
  ·rintro _ _ ⟨y11,y12,hm,rfl,rfl⟩
   subst hk13
   obtain ⟨k16,hk16,hm⟩:=zo hm
   refine mid (fun t H=>(∃ (y14:Bool) (y15:Int),k16 ()=some r∧t=mk 145 [jz,jC,(7,aI y15),(114,aB y14)]∧H=[.box (zc0 a0) false,.box (zc0 a1) false])) ?_ ?_
   ·rintro _ _ ⟨y14,y15,hm,rfl,rfl⟩
    subst hk16
    refine sq (dn [kx] (jc ?_))
    cases hm;exact hJ
   refine sq (dn [jz,jC,kg] (bq ?_))
   refine ZR (fun mm t H=>(∃ (y18:Int),qn n a0 a1 k16 mm y18=some r∧t=mk 145 [jz,jC,(7,aI y18)]∧H=[.box (zc0 a0) false,.box (zc0 a1) false])) (⟨0,hm,rfl,rfl⟩) ?_ ?_
   ·
     rintro _ _ ⟨y18,hm,_⟩;exact nomatch hm
   rintro m19 _ _ ⟨y18,hm,rfl,rfl⟩
   simp only [qn] at hm
   refine sq (sq (rg (s1 3 [(112,.pv (aa3 a0)),(111,.ptr 0 5),(110,aI y18)] (dv 113 (v:=aI (ajB a0)) (zu zx a0.G t25 hH) hH (fq 1 [jz,jC,(7,aI y18),(114,aB (decide (y18<((sll a0.G).length:Int))))] ?_)))))
   rcases zd hm with ⟨h20,hm⟩|⟨h20,hm⟩
   ·refine c1 h20 (jd (sq (bq (sq (rgd (shd 3 [(119,aI y18),(118,.pv (aa3 a0)),(117,.ptr 0 5)] hH ?_))))))
    obtain ⟨x21,h22,hm⟩:=bs hm
    refine dvd 120 (v:=.pv (.ptr (zx x21) 0)) (Zz zx a0.G .i64 t25 t86 h22 rfl hH) hH (shd 5 [(125,aI y18),(124,.pv (aa3 a1)),(123,.ptr 1 5),(122,aI x21.E),(121,.pv (.ptr (zx x21) 0))] hH ?_)
    obtain ⟨x23,h24,hm⟩:=bs hm
    refine dvd 126 (v:=.pv (.ptr (zx x23) 0)) (Zz zx a1.G .i64 t25 t86 h24 rfl hH) hH (shd 4 [(130,aB (x21.E !=x23.E)),(129,aB (x21.E !=x23.E)),(128,aI x23.E),(127,.pv (.ptr (zx x23) 0))] hH ?_)
    rcases zd hm with ⟨h25,hm⟩|⟨h25,hm⟩
    ·refine zM [130,129] h25 hH (shd 14 [(144,aB true),(143,.undef),(142,.undef),(141,.undef),(140,.undef),(139,.undef),(138,.undef),(137,.undef),(136,.undef),(135,.undef),(134,.undef),(133,.undef),(132,.undef),(131,.undef)] hH (find [jz,jC,(7,aI y18),(144,aB true)] rfl hH hH (cT hH (sq (dn [kn] (jc ?_))))))
     cases hm;exact hJ
    refine zM [130,129] h25 hH (shd 3 [(133,aI y18),(132,.pv (aa3 a0)),(131,.ptr 0 5)] hH (dvd 134 (v:=.pv (.ptr (zx x21) 0)) (Zz zx a0.G .i64 t25 t86 h22 rfl hH) hH (shd 5 [(139,aI y18),(138,.pv (aa3 a1)),(137,.ptr 1 5),(136,aB x21.S),(135,.pv (.ptr (zx x21) 1))] hH (dvd 140 (v:=.pv (.ptr (zx x23) 0)) (Zz zx a1.G .i64 t25 t86 h24 rfl hH) hH (shd 4 [(144,aB (!(x21.S==x23.S))),(143,aB (!(x21.S==x23.S))),(142,aB x23.S),(141,.pv (.ptr (zx x23) 1))] hH (find [jz,jC,(7,aI y18),(144,aB (!(x21.S==x23.S)))] rfl hH hH ?_))))))
    rcases zd hm with ⟨h26,hm⟩|⟨h26,hm⟩
    ·refine c1 h26 (sq (dn [kn] (jc ?_)))
     cases hm;exact hJ
    refine c0 h26 (jd (dn [jz,jC,(zp32 y18)] ?_))
    exact ⟨_,_,Zg [jz,jC,(zp32 y18)] [.box (zc0 a0) false,.box (zc0 a1) false] hH,⟨(zN y18),hm,rfl,rfl⟩⟩
   refine c0 h20 (je ?_)
   exact ⟨(decide (y18<((sll a0.G).length:Int))),y18,hm,rfl,rfl⟩
  refine sq (dn [jz,jC,kf] (bq ?_))
  refine ZR (fun mm t H=>(∃ (y28:Int),Qc n a0 a1 k13 mm y28=some r∧t=mk 145 [jz,jC,(6,aI y28)]∧H=[.box (zc0 a0) false,.box (zc0 a1) false])) (⟨0,hm,rfl,rfl⟩) ?_ ?_
  ·
    rintro _ _ ⟨y28,hm,_⟩;exact nomatch hm
  rintro m29 _ _ ⟨y28,hm,rfl,rfl⟩
  simp only [Qc] at hm
  refine sq (sq (rg (s1 3 [(76,.pv (qM a0)),(75,.ptr 0 4),(74,aI y28)] (dv 77 (v:=aI (afr a0)) (zu zl a0.D t24 hH) hH (fq 1 [jz,jC,(6,aI y28),(78,aB (agF y28 a0))] ?_)))))
  rcases zd hm with ⟨h30,hm⟩|⟨h30,hm⟩
  ·refine c1 h30 (jd (sq (bq (sq (rgd (shd 3 [(83,aI y28),(82,.pv (qM a0)),jY] hH ?_))))))
   obtain ⟨x31,h32,hm⟩:=bs hm
   refine dvd 84 (v:=.pv (.ptr (zl x31) 0)) (Zz zl a0.D .i64 t24 t101 h32 rfl hH) hH (shd 5 [(89,aI y28),(88,.pv (qM a1)),(87,.ptr 1 4),(86,aI x31.A),(85,.pv (.ptr (zl x31) 0))] hH ?_)
   obtain ⟨x33,h34,hm⟩:=bs hm
   refine dvd 90 (v:=.pv (.ptr (zl x33) 0)) (Zz zl a1.D .i64 t24 t101 h34 rfl hH) hH (shd 4 [(94,aB (x31.A !=x33.A)),(93,aB (x31.A !=x33.A)),(92,aI x33.A),(91,.pv (.ptr (zl x33) 0))] hH ?_)
   rcases zd hm with ⟨h35,hm⟩|⟨h35,hm⟩
   ·refine zM [94,93] h35 hH (shd 15 [(109,aB true),(108,.undef),(107,.undef),(106,.undef),(105,.undef),(104,.undef),(103,.undef),(102,.undef),(101,.undef),(100,.undef),(99,.undef),(98,.undef),(97,.undef),(96,.undef),(95,.undef)] hH (find [jz,jC,(6,aI y28),(109,aB true)] rfl hH hH (cT hH (sq (dn [kn] (jc ?_))))))
    cases hm;exact hJ
   refine zM [94,93] h35 hH (shd 3 [(97,aI y28),(96,.pv (qM a0)),(95,.ptr 0 4)] hH (dvd 98 (v:=.pv (.ptr (zl x31) 0)) (Zz zl a0.D .i64 t24 t101 h32 rfl hH) hH (shd 5 [(103,aI y28),(102,.pv (qM a1)),(101,.ptr 1 4),(100,.agg (zc1 x31)),(99,.pv (.ptr (zl x31) 1))] hH (dvd 104 (v:=.pv (.ptr (zl x33) 0)) (Zz zl a1.D .i64 t24 t101 h34 rfl hH) hH (shd 2 [(106,.agg (zc1 x33)),(105,.pv (.ptr (zl x33) 1))] hH ?_)))))
   obtain ⟨x36,h37,hm⟩:=bs hm
   refine dvd 107 (zC hH (aeQ h37) hH hH hH) hH (shd 2 [(109,aB (!x36)),(108,aB (!x36))] hH (find [jz,jC,(6,aI y28),(109,aB (!x36))] rfl hH hH ?_))
   rcases zd hm with ⟨h38,hm⟩|⟨h38,hm⟩
   ·refine c1 h38 (sq (dn [kn] (jc ?_)))
    cases hm;exact hJ
   refine c0 h38 (jd (dn [jz,jC,(zp29 y28)] ?_))
   exact ⟨_,_,Zg [jz,jC,(zp29 y28)] [.box (zc0 a0) false,.box (zc0 a1) false] hH,⟨(zN y28),hm,rfl,rfl⟩⟩
  refine c0 h30 (je ?_)
  exact ⟨y28,(agF y28 a0),hm,rfl,rfl⟩
 refine sq (dn [jz,jC,j9] (bq ?_))
 refine ZR (fun mm t H=>(∃ (y40:Int),QO n a0 a1 k10 mm y40=some r∧t=mk 145 [jz,jC,(5,aI y40)]∧H=[.box (zc0 a0) false,.box (zc0 a1) false])) (⟨0,hm,rfl,rfl⟩) ?_ ?_
 ·
   rintro _ _ ⟨y40,hm,_⟩;exact nomatch hm
 rintro m41 _ _ ⟨y40,hm,rfl,rfl⟩
 simp only [QO] at hm
 refine sq (sq (rg (s1 3 [(58,.pv (zk rS a0.O)),(57,.ptr 0 0),(56,aI y40)] (dv 59 (v:=aI (ae0 a0)) (zu rS a0.O t22 hH) hH (fq 1 [jz,jC,(5,aI y40),(60,aB (aly y40 a0))] ?_)))))
 rcases zd hm with ⟨h42,hm⟩|⟨h42,hm⟩
 ·refine c1 h42 (jd (sq (bq (sq (rgd (shd 3 [(65,aI y40),(64,.pv (zk rS a0.O)),(63,.ptr 0 0)] hH ?_))))))
  obtain ⟨x43,h44,hm⟩:=bs hm
  refine dvd 66 (v:=.pv (.ptr (rS x43) 0)) (Zz rS a0.O .i64 t22 t9 h44 rfl hH) hH (shd 4 [(70,aI y40),(69,.pv (zk rS a1.O)),(68,.ptr 1 0),(67,aS x43)] hH ?_)
  obtain ⟨x45,h46,hm⟩:=bs hm
  refine dvd 71 (v:=.pv (.ptr (rS x45) 0)) (Zz rS a1.O .i64 t22 t9 h46 rfl hH) hH (shd 2 [(73,aB (!(sEq x43 x45))),(72,aS x45)] hH (find [jz,jC,(5,aI y40),(73,aB (!(sEq x43 x45)))] rfl hH hH ?_))
  rcases zd hm with ⟨h47,hm⟩|⟨h47,hm⟩
  ·refine c1 h47 (sq (dn [kn] (jc ?_)))
   cases hm;exact hJ
  refine c0 h47 (jd (dn [jz,jC,(adC y40)] ?_))
  exact ⟨_,_,Zg [jz,jC,(adC y40)] [.box (zc0 a0) false,.box (zc0 a1) false] hH,⟨(zN y40),hm,rfl,rfl⟩⟩
 refine c0 h42 (je ?_)
 exact ⟨y40,(aly y40 a0),hm,rfl,rfl⟩
theorem aos {n:Nat}{a0:zh}{a1:zr}{r:Bool}(hm:adp n a0 a1=some r):
  call G n 116 [.agg (zc2 a0),.agg (zc0 a1)] []=some (.ret (aB r),[]):=by
 unfold adp at hm
 obtain ⟨n,rfl,h0⟩:=zp hm
 replace hm:=h0;clear h0
 refine zT 16 [(0,.agg (zc2 a0)),(1,.agg (zc0 a1))] func116 rfl hH (sq (det [jz,jC] [.box (zc2 a0) false,.box (zc0 a1) false] hH (sq (rg (s1 10 [(14,.agg [.pv .nils,.pv .nils,aB false,.pv (ac4 a1),.pv (qM a1),.pv .nils]),(13,.pv (qM a1)),(12,.ptr 1 4),(11,.pv (ac4 a1)),(10,.ptr 1 3),(9,.agg [.pv .nils,.pv .nils,aB false,.pv (akK a0),.pv (afp a0),.pv .nils]),(8,.pv (afp a0)),(7,.ptr 0 6),(6,.pv (akK a0)),(5,.ptr 0 5)] ?_)))))
 obtain ⟨x1,h2,hm⟩:=bs hm
 refine dv 15 (zC hH (ajF h2) hH hH hH) hH (fq 1 [(4,aB x1)] (jc ?_))
 cases hm;exact hJ
theorem aoe {rc_ref25_Set:(Nat→zh→Option (Int))}(ih_ref25_Set:∀ {n:Nat}{a0:zh}{r:Int}(hm:rc_ref25_Set n a0=some r),call G n 39 [.agg [aI a0.A,aI a0.C,.pv (zk za a0.H),.pv (zk za a0.J),.pv (zk za a0.L),.pv (zk za a0.E),.pv (zk zl a0.D),.pv (zk zx a0.G),.pv (zk zA a0.B)]] []=some (.ret (.pv (.int .u32 r)),[])) {n:Nat}{a0:zh}{r:Int}(hm:ae9 rc_ref25_Set n a0=some r):
   call G n 39 [.agg (zc2 a0)] []=some (.ret (.pv (.int .u32 r)),[]):=by
 unfold ae9 at hm
 obtain ⟨n,rfl,h0⟩:=zp hm
 replace hm:=h0;clear h0
 refine zT 38 [(0,.agg (zc2 a0))] func39 rfl hH (sq (det [jA] [.box (zc2 a0) false] hH (sq (dn [jA,(3,.pv (.int .u32 0))] ?_))))
 obtain ⟨k3,hk3,hm⟩:=zo hm
 refine mid (fun t H=>(∃ (y2:Int) (w1:AV),k3 y2=some r∧t=mk 38 [jA,(afq y2),(17,w1)]∧H=[.box (zc2 a0) false])) ?_ ?_
 ·rintro _ _ ⟨y2,w1,hm,rfl,rfl⟩
  subst hk3
  obtain ⟨k7,hk7,hm⟩:=zo hm
  refine mid (fun t H=>(∃ (y4:Bool) (y5:Int) (y6:Int),k7 y5=some r∧t=mk 38 [jA,(afq y5),(4,aI y6),(26,aB y4)]∧H=[.box (zc2 a0) false])) ?_ ?_
  ·rintro _ _ ⟨y4,y5,y6,hm,rfl,rfl⟩
   subst hk7
   refine sq (dn [(2,.pv (.int .u32 y5))] (jc ?_))
   cases hm;exact hJ
  refine sq (dn [jA,(afq y2),j8] (bq ?_))
  refine ZR (fun mm t H=>(∃ (y10:Int) (y11:Int),QU n rc_ref25_Set a0 k7 mm y10 y11=some r∧t=mk 38 [jA,(afq y10),(4,aI y11)]∧H=[.box (zc2 a0) false])) (⟨y2,0,hm,rfl,rfl⟩) ?_ ?_
  ·
    rintro _ _ ⟨y10,y11,hm,_⟩;exact nomatch hm
  rintro m12 _ _ ⟨y10,y11,hm,rfl,rfl⟩
  simp only [QU] at hm
  refine sq (sq (rg (s1 3 [(24,.pv (adv a0)),(23,.ptr 0 8),(22,aI y11)] (dv 25 (v:=aI (ahp a0)) (zu zA a0.B t64 hH) hH (fq 1 [jA,(afq y10),(4,aI y11),(26,aB (afm y11 a0))] ?_)))))
  rcases zd hm with ⟨h,hm⟩|⟨h,hm⟩
  ·refine c1 h (jd (sq (bq (rg (s1 4 [(32,aI y11),(31,.pv (adv a0)),(30,.ptr 0 8),(29,.pv (.int .u32 y10))] ?_)))))
   obtain ⟨x14,h15,hm⟩:=bs hm
   refine dv 33 (v:=.pv (.ptr (acQ x14) 0)) (zS zA a0.B .i64 t64 t66 h15 (Zd x14) rfl hH) hH (s1 1 [(34,.agg (zc3 x14))] ?_)
   obtain ⟨x16,h17,hm⟩:=bs hm
   refine dv 35 (zC hH (ih_ref25_Set h17) hH hH hH) hH (fq 2 [jA,(akI y10 x16),(4,aI y11)] (dn [jA,(akI y10 x16),(zp26 y11)] ?_))
   exact ⟨_,_,Zg [jA,(akI y10 x16),(zp26 y11)] [.box (zc2 a0) false] hH,⟨(iOr .u32 y10 x16),(zN y11),hm,rfl,rfl⟩⟩
  refine c0 h (je ?_)
  exact ⟨(afm y11 a0),y10,y11,hm,rfl,rfl⟩
 refine sq (rg (s1 4 [(8,aB (a0.A==1)),(7,aB (a0.A==1)),(6,aI a0.A),jT] ?_))
 refine segP (a0.A==1) [8,7] (fun b=>[(12,aB (b&&(decide (a0.C≥0)))),(11,ifA b (aB (decide (a0.C≥0))) hY),(10,ifA b (aI a0.C) hY),(9,ifA b (.ptr 0 1) hY)]) 4 hH hH hH (s1 1 [(13,aB ((a0.A==1)&&(decide (a0.C≥0))))] ?_)
 refine segP ((a0.A==1)&&(decide (a0.C≥0))) [13,12] (fun b=>[(17,aB (b&&(decide (a0.C<32)))),(16,ifA b (aB (decide (a0.C<32))) hY),(15,ifA b (aI a0.C) hY),(14,ifA b (.ptr 0 1) hY)]) 4 hH hH hH (fin [jA,(3,.pv (.int .u32 0)),(17,aB (avk a0))] rfl hH ?_)
 rcases zd hm with ⟨h,hm⟩|⟨h,hm⟩
 ·refine c1 h (rg (s1 3 [(20,aU (IntKind.wrap .u64 a0.C)),(19,aI a0.C),(18,.ptr 0 1)] ?_))
  obtain ⟨_,h19,hm⟩:=bs hm
  refine dv 21 (v:=.pv (.int .u32 (aqS a0))) (shlO h19 hH) hH (fq 1 [jA,(3,.pv (.int .u32 (aqS a0)))] ?_)
  exact ⟨(aqS a0),.any,hm,(zD hH),rfl⟩
 refine c0 h (jd ?_)
 exact ⟨0,aB (avk a0),hm,(zD hH),rfl⟩
theorem aji:∀ (m:Nat),∀ {n:Nat}{a0:zh}{r:Int}(hm:ace m n a0=some r),call G n 39 [.agg (zc2 a0)] []=some (.ret (.pv (.int .u32 r)),[])
 |0=>by intros;rename_i hm;exact nomatch hm
 |m+1=>fun hm=>
  aoe (aji m) hm
theorem afC {n:Nat}{a0:zh}{r:Int}(hm:ady n a0=some r):
 call G n 39 [.agg (zc2 a0)] []=some (.ret (.pv (.int .u32 r)),[]):=aji n hm
theorem an2 {rc_ref22_Rels:(Nat→zf→Option (Int))}(ih_ref22_Rels:∀ {n:Nat}{a0:zf}{r:Int}(hm:rc_ref22_Rels n a0=some r),call G n 162 [.agg [aI a0.A,aI a0.C,aI a0.M,aI a0.F.A,aI a0.F.K,aF a0.F.I,aS a0.F.N,.pv (zk za a0.B)]] []=some (.ret (.pv (.int .u32 r)),[])) {n:Nat}{a0:zf}{r:Int}(hm:adQ rc_ref22_Rels n a0=some r):
   call G n 162 [.agg (zc7 a0)] []=some (.ret (.pv (.int .u32 r)),[]):=by
 unfold adQ at hm
 obtain ⟨n,rfl,h0⟩:=zp hm
 replace hm:=h0;clear h0
 refine zT 38 [(0,.agg (zc7 a0))] func162 rfl hH (sq (det [jA] [.box (zc7 a0) false] hH (sq (dn [jA,(3,.pv (.int .u32 0))] ?_))))
 obtain ⟨k3,hk3,hm⟩:=zo hm
 refine mid (fun t H=>(∃ (y2:Int) (w1:AV),k3 y2=some r∧t=mk 38 [jA,(afq y2),(17,w1)]∧H=[.box (zc7 a0) false])) ?_ ?_
 ·rintro _ _ ⟨y2,w1,hm,rfl,rfl⟩
  subst hk3
  obtain ⟨k7,hk7,hm⟩:=zo hm
  refine mid (fun t H=>(∃ (y4:Bool) (y5:Int) (y6:Int),k7 y5=some r∧t=mk 38 [jA,(afq y5),(4,aI y6),(26,aB y4)]∧H=[.box (zc7 a0) false])) ?_ ?_
  ·rintro _ _ ⟨y4,y5,y6,hm,rfl,rfl⟩
   subst hk7
   refine sq (dn [(2,.pv (.int .u32 y5))] (jc ?_))
   cases hm;exact hJ
  refine sq (dn [jA,(afq y2),j8] (bq ?_))
  refine ZR (fun mm t H=>(∃ (y10:Int) (y11:Int),aaP n rc_ref22_Rels a0 k7 mm y10 y11=some r∧t=mk 38 [jA,(afq y10),(4,aI y11)]∧H=[.box (zc7 a0) false])) (⟨y2,0,hm,rfl,rfl⟩) ?_ ?_
  ·
    rintro _ _ ⟨y10,y11,hm,_⟩;exact nomatch hm
  rintro m12 _ _ ⟨y10,y11,hm,rfl,rfl⟩
  simp only [aaP] at hm
  refine sq (sq (rg (s1 3 [(ahr a0),(23,.ptr 0 7),(22,aI y11)] (dv 25 (v:=aI (afb a0)) (zu za a0.B t23 hH) hH (fq 1 [jA,(afq y10),(4,aI y11),(26,aB (adU y11 a0))] ?_)))))
  rcases zd hm with ⟨h,hm⟩|⟨h,hm⟩
  ·refine c1 h (jd (sq (bq (rg (s1 4 [(32,aI y11),(31,.pv (abb a0)),(30,.ptr 0 7),(29,.pv (.int .u32 y10))] ?_)))))
   obtain ⟨x14,h15,hm⟩:=bs hm
   refine dv 33 (v:=.pv (.ptr (Z5 x14) 0)) (zS za a0.B .i64 t23 t49 h15 (zt x14) rfl hH) hH (s1 1 [(34,.agg (zc9 x14))] ?_)
   obtain ⟨x16,h17,hm⟩:=bs hm
   refine dv 35 (zC hH (ih_ref22_Rels h17) hH hH hH) hH (fq 2 [jA,(akI y10 x16),(4,aI y11)] (dn [jA,(akI y10 x16),(zp26 y11)] ?_))
   exact ⟨_,_,Zg [jA,(akI y10 x16),(zp26 y11)] [.box (zc7 a0) false] hH,⟨(iOr .u32 y10 x16),(zN y11),hm,rfl,rfl⟩⟩
  refine c0 h (je ?_)
  exact ⟨(adU y11 a0),y10,y11,hm,rfl,rfl⟩
 refine sq (rg (s1 4 [(8,aB (a0.A==1)),(7,aB (a0.A==1)),(6,aI a0.A),jT] ?_))
 refine segP (a0.A==1) [8,7] (fun b=>[(12,aB (b&&(decide (a0.C≥0)))),(11,ifA b (aB (decide (a0.C≥0))) hY),(10,ifA b (aI a0.C) hY),(9,ifA b (.ptr 0 1) hY)]) 4 hH hH hH (s1 1 [(13,aB ((a0.A==1)&&(decide (a0.C≥0))))] ?_)
 refine segP ((a0.A==1)&&(decide (a0.C≥0))) [13,12] (fun b=>[(17,aB (b&&(decide (a0.C≤31)))),(16,ifA b (aB (decide (a0.C≤31))) hY),(15,ifA b (aI a0.C) hY),(14,ifA b (.ptr 0 1) hY)]) 4 hH hH hH (fin [jA,(3,.pv (.int .u32 0)),(17,aB (asY a0))] rfl hH ?_)
 rcases zd hm with ⟨h,hm⟩|⟨h,hm⟩
 ·refine c1 h (rg (s1 3 [(20,aU (IntKind.wrap .u64 a0.C)),(19,aI a0.C),(18,.ptr 0 1)] ?_))
  obtain ⟨_,h19,hm⟩:=bs hm
  refine dv 21 (v:=.pv (.int .u32 (aoU a0))) (shlO h19 hH) hH (fq 1 [jA,(3,.pv (.int .u32 (aoU a0)))] ?_)
  exact ⟨(aoU a0),.any,hm,(zD hH),rfl⟩
 refine c0 h (jd ?_)
 exact ⟨0,aB (asY a0),hm,(zD hH),rfl⟩
theorem aiJ:∀ (m:Nat),∀ {n:Nat}{a0:zf}{r:Int}(hm:QV m n a0=some r),call G n 162 [.agg (zc7 a0)] []=some (.ret (.pv (.int .u32 r)),[])
 |0=>by intros;rename_i hm;exact nomatch hm
 |m+1=>fun hm=>
  an2 (aiJ m) hm
theorem aov {n:Nat}{a0:zf}{r:Int}(hm:ajP n a0=some r):
 call G n 162 [.agg (zc7 a0)] []=some (.ret (.pv (.int .u32 r)),[]):=aiJ n hm
theorem afc {n:Nat}{a0:jl}{a1:Int}{r:Bool}(hm:abr n a0 a1=some r):
   call G n 171 [.pv (ZN a0),.pv (.int .u32 a1)] []=some (.ret (aB r),[]):=by
 unfold abr at hm
 obtain ⟨n,rfl,h0⟩:=zp hm
 replace hm:=h0;clear h0
 refine zT 21 [(zp25 a0),(ajC a1)] func171 rfl hH (sq (dn [(zp25 a0),(ajC a1)] ?_))
 obtain ⟨k3,hk3,hm⟩:=zo hm
 refine mid (fun t H=>(∃ (y1:Int) (y2:Bool),k3 ()=some r∧t=mk 21 [(zp25 a0),(ajC a1),(5,aI y1),(9,aB y2)]∧H=[])) ?_ ?_
 ·rintro _ _ ⟨y1,y2,hm,rfl,rfl⟩
  subst hk3
  refine sq (dn [kx] (jc ?_))
  cases hm;exact hJ
 refine sq (dn [(zp25 a0),(ajC a1),j9] (bq ?_))
 refine ZR (fun mm t H=>(∃ (y5:Int),Q4 n a0 a1 k3 mm y5=some r∧t=mk 21 [(zp25 a0),(ajC a1),(5,aI y5)]∧H=[])) (⟨0,hm,rfl,rfl⟩) ?_ ?_
 ·
   rintro _ _ ⟨y5,hm,_⟩;exact nomatch hm
 rintro m6 _ _ ⟨y5,hm,rfl,rfl⟩
 simp only [Q4] at hm
 refine sq (sq (rg (s1 2 [(7,.pv (ZN a0)),(6,aI y5)] (dv 8 (v:=aI (aaB a0)) (zu za a0 t23 hH) hH (fq 1 [(zp25 a0),(ajC a1),(5,aI y5),(9,aB (aai y5 a0))] ?_)))))
 rcases zd hm with ⟨h,hm⟩|⟨h,hm⟩
 ·refine c1 h (jd (sq (bq (sq (rg (s1 2 [(13,aI y5),(12,.pv (ZN a0))] ?_))))))
  obtain ⟨x8,h9,hm⟩:=bs hm
  refine dv 14 (v:=.pv (.ptr (Z5 x8) 0)) (zS za a0 .i64 t23 t49 h9 (zt x8) rfl hH) hH (s1 1 [(15,.agg (zc9 x8))] ?_)
  obtain ⟨x10,h11,hm⟩:=bs hm
  refine dv 16 (zC hH (aov h11) hH hH hH) hH (fq 4 [(zp25 a0),(ajC a1),(5,aI y5),(20,aB ((iOr .u32 x10 a1)!=a1))] ?_)
  rcases zd hm with ⟨h,hm⟩|⟨h,hm⟩
  ·refine c1 h (sq (dn [kn] (jc ?_)))
   cases hm;exact hJ
  refine c0 h (jd (dn [(zp25 a0),(ajC a1),(adC y5)] ?_))
  exact ⟨_,_,Zg [(zp25 a0),(ajC a1),(adC y5)] [] hH,⟨(zN y5),hm,rfl,rfl⟩⟩
 refine c0 h (je ?_)
 exact ⟨y5,(aai y5 a0),hm,rfl,rfl⟩
theorem al7 {rc_ref25_scans:(Nat→zh→Option (Int))}(ih_ref25_scans:∀ {n:Nat}{a0:zh}{r:Int}(hm:rc_ref25_scans n a0=some r),call G n 117 [.agg [aI a0.A,aI a0.C,.pv (zk za a0.H),.pv (zk za a0.J),.pv (zk za a0.L),.pv (zk za a0.E),.pv (zk zl a0.D),.pv (zk zx a0.G),.pv (zk zA a0.B)]] []=some (.ret (aI r),[])) {n:Nat}{a0:zh}{r:Int}(hm:ac5 rc_ref25_scans n a0=some r):
   call G n 117 [.agg (zc2 a0)] []=some (.ret (aI r),[]):=by
 unfold ac5 at hm
 obtain ⟨n,rfl,h0⟩:=zp hm
 replace hm:=h0;clear h0
 refine zT 60 [(0,.agg (zc2 a0))] func117 rfl hH (sq (det [jA] [.box (zc2 a0) false] hH ?_))
 refine sq (sq (rgd (shd 4 [(8,aB (decide (a0.A>4))),(7,aB (decide (a0.A>4))),(6,aI a0.A),jT] hH ?_)))
 rcases zd hm with ⟨h,hm⟩|⟨h,hm⟩
 ·refine zM [8,7] h hH (shd 7 [kJ,(14,.undef),(13,.undef),(12,.undef),(11,.undef),(10,.undef),(9,.undef)] hH (find [jA,kJ] rfl hH hH (cT hH (sq (dn [(2,aI (-1))] (jc ?_))))))
  cases hm;exact hJ
 refine zM [8,7] h hH (shd 3 [(11,.agg (zc2 a0)),(10,.pv (aiD a0)),(9,.ptr 0 2)] hH ?_)
 obtain ⟨x2,h3,hm⟩:=bs hm
 refine dvd 12 (zC hH (afC h3) hH hH hH) hH ?_
 obtain ⟨x4,h5,hm⟩:=bs hm
 refine dvd 13 (zC hH (afc h5) hH hH hH) hH (shd 2 [(15,aB (!x4)),(14,aB (!x4))] hH (find [jA,(15,aB (!x4))] rfl hH hH ?_))
 rcases zd hm with ⟨h,hm⟩|⟨h,hm⟩
 ·refine c1 h (sq (dn [(2,aI (-1))] (jc ?_)))
  cases hm;exact hJ
 refine c0 h (jd ?_)
 refine sq (sq (dn [jA,(18,aB (a0.A==1))] ?_))
 rcases zd hm with ⟨h,hm⟩|⟨h,hm⟩
 ·refine c1 h (sq (dn [(2,aI 1)] (jc ?_)))
  cases hm;exact hJ
 refine c0 h (jd (sq (rg (s1 2 [(20,.pv (adv a0)),(19,.ptr 0 8)] ?_))))
 obtain ⟨x8,h9,hm⟩:=bs hm
 refine dv 21 (v:=.pv (.ptr (acQ x8) 0)) (zS zA a0.B .i64 t64 t66 h9 (Zd x8) rfl hH) hH (s1 1 [(22,.agg (zc3 x8))] ?_)
 obtain ⟨x10,h11,hm⟩:=bs hm
 refine dv 23 (zC hH (ih_ref25_scans h11) hH hH hH) hH (fq 1 [jA,(3,aI x10)] (sq (rg (s1 2 [(25,.pv (adv a0)),(24,.ptr 0 8)] ?_))))
 obtain ⟨x12,h13,hm⟩:=bs hm
 refine dv 26 (v:=.pv (.ptr (acQ x12) 0)) (zS zA a0.B .i64 t64 t66 h13 (Zd x12) rfl hH) hH (s1 1 [(27,.agg (zc3 x12))] ?_)
 obtain ⟨x14,h15,hm⟩:=bs hm
 refine dv 28 (zC hH (ih_ref25_scans h15) hH hH hH) hH (fq 1 [jA,(3,aI x10),(4,aI x14)] (sq (sq (rgd (shd 3 [(31,aB (decide (x10<0))),(30,aB (decide (x10<0))),(29,aI x10)] hH ?_)))))
 rcases zd hm with ⟨h,hm⟩|⟨h,hm⟩
 ·refine zM [31,30] h hH (shd 25 [kI,(55,.undef),(54,.undef),(53,.undef),(52,.undef),(51,.undef),(50,.undef),(49,.undef),(48,.undef),(47,.undef),kM,(45,aB true),(44,.undef),(43,.undef),(42,.undef),(41,.undef),(40,.undef),(39,.undef),(38,.undef),(37,.undef),(36,.undef),(35,aB true),kQ,(33,.undef),(32,.undef)] hH (find [(3,aI x10),(4,aI x14),kI] rfl hH hH (cT hH (sq (dn [(2,aI (-1))] (jc ?_))))))
  cases hm;exact hJ
 refine zM [31,30] h hH (shd 4 [(35,aB (decide (x14<0))),(34,aB (decide (x14<0))),(33,aB (decide (x14<0))),(32,aI x14)] hH ?_)
 rcases zd hm with ⟨h,hm⟩|⟨h,hm⟩
 ·refine zM [35,34,33] h hH (shd 21 [kI,(55,.undef),(54,.undef),(53,.undef),(52,.undef),(51,.undef),(50,.undef),(49,.undef),(48,.undef),(47,.undef),kM,(45,aB true),(44,.undef),(43,.undef),(42,.undef),(41,.undef),(40,.undef),(39,.undef),(38,.undef),(37,.undef),(36,.undef)] hH (find [(3,aI x10),(4,aI x14),kI] rfl hH hH (cT hH (sq (dn [(2,aI (-1))] (jc ?_))))))
  cases hm;exact hJ
 refine zM [35,34,33] h hH (shd 4 [(39,.pv (adv a0)),(38,.ptr 0 8),(37,.pv (aag a0)),(36,.ptr 0 3)] hH (dvd 40 (v:=.pv (.ptr (acQ x8) 0)) (zS zA a0.B .i64 t64 t66 h9 (Zd x8) rfl hH) hH (shd 1 [(41,.agg (zc3 x8))] hH ?_)))
 obtain ⟨x18,h19,hm⟩:=bs hm
 refine dvd 42 (zC hH (afC h19) hH hH hH) hH ?_
 obtain ⟨x20,h21,hm⟩:=bs hm
 refine dvd 43 (zC hH (afc h21) hH hH hH) hH (shd 3 [(46,aB (!x20)),(45,aB (!x20)),(44,aB (!x20))] hH ?_)
 rcases zd hm with ⟨h,hm⟩|⟨h,hm⟩
 ·refine zM [46,45,44] h hH (shd 10 [kI,(55,.undef),(54,.undef),(53,.undef),(52,.undef),(51,.undef),(50,.undef),(49,.undef),(48,.undef),(47,.undef)] hH (find [(3,aI x10),(4,aI x14),kI] rfl hH hH (cT hH (sq (dn [(2,aI (-1))] (jc ?_))))))
  cases hm;exact hJ
 refine zM [46,45,44] h hH (shd 4 [(50,.pv (adv a0)),(49,.ptr 0 8),(48,.pv (aaX a0)),(47,.ptr 0 4)] hH (dvd 51 (v:=.pv (.ptr (acQ x12) 0)) (zS zA a0.B .i64 t64 t66 h13 (Zd x12) rfl hH) hH (shd 1 [(52,.agg (zc3 x12))] hH ?_)))
 obtain ⟨x23,h24,hm⟩:=bs hm
 refine dvd 53 (zC hH (afC h24) hH hH hH) hH ?_
 obtain ⟨x25,h26,hm⟩:=bs hm
 refine dvd 54 (zC hH (afc h26) hH hH hH) hH (shd 2 [(56,aB (!x25)),(55,aB (!x25))] hH (find [(3,aI x10),(4,aI x14),(56,aB (!x25))] rfl hH hH ?_))
 rcases zd hm with ⟨h,hm⟩|⟨h,hm⟩
 ·refine c1 h (sq (dn [(2,aI (-1))] (jc ?_)))
  cases hm;exact hJ
 refine c0 h (jd (sq (dn [(2,aI (ais x10 x14))] (jc ?_))))
 cases hm;exact hJ
theorem ahH:∀ (m:Nat),∀ {n:Nat}{a0:zh}{r:Int}(hm:ac6 m n a0=some r),call G n 117 [.agg (zc2 a0)] []=some (.ret (aI r),[])
 |0=>by intros;rename_i hm;exact nomatch hm
 |m+1=>fun hm=>
  al7 (ahH m) hm
theorem amU {n:Nat}{a0:zh}{r:Int}(hm:agn n a0=some r):
 call G n 117 [.agg (zc2 a0)] []=some (.ret (aI r),[]):=ahH n hm
abbrev zc24 (p0:zb) (p1:zb):List AV:=[aI 7,aI 0,aI 0,aI 0,aI 0,aF 0,aS ByteArray.empty,.pv (.sl (([(zi (zc p0)),(zi (zc p1))]:List zb).map za))]
abbrev ag2 (p0:jm):Nat×AV:=(3,aR 1 8 p0.length)
abbrev as8 (p0:Int) (p1:zh):Nat×AV:=(39,aB (decide (p0<((sll p1.J).length:Int))))
abbrev asU (p0:Int) (p1:zh):Nat×AV:=(38,aB (decide (p0<((sll p1.J).length:Int))))
abbrev as3 (p0:zh) (p1:Int):Nat×AV:=(40,aB (((p0.A==3)||(p0.A==4))&&(decide (p1<((sll p0.J).length:Int)))))
abbrev ato (p0:Int) (p1:zh):Nat×AV:=(46,aB (decide (p0<((sll p1.L).length:Int))))
abbrev atr (p0:Int) (p1:zh):Nat×AV:=(45,aB (decide (p0<((sll p1.L).length:Int))))
abbrev asM (p0:zh) (p1:Int):Nat×AV:=(46,aB ((((p0.A==3)||(p0.A==4))&&(decide (p1<((sll p0.J).length:Int))))&&(decide (p1<((sll p0.L).length:Int)))))
abbrev auq (p0:zb) (p1:zb):Nat×AV:=(3,aR 3 8 (([(zi (zf.mk 7 0 0 (zn.mk 0 0 0 ByteArray.empty) (some ([(zi (zc p0)),(zi (zc p1))]:List zb))))]:List zb).length))
abbrev auk (p0:jm) (p1:zb) (p2:zb):Nat×AV:=(63,aR 1 8 ((p0++([(zi (zf.mk 7 0 0 (zn.mk 0 0 0 ByteArray.empty) (some ([(zi (zc p1)),(zi (zc p2))]:List zb))))]:List zb)).length))
abbrev ahy (p0:jm) (p1:zb) (p2:zb):Nat×AV:=(3,aR 1 8 ((p0++([(zi (zf.mk 7 0 0 (zn.mk 0 0 0 ByteArray.empty) (some ([(zi (zc p1)),(zi (zc p2))]:List zb))))]:List zb)).length))
abbrev atc (p0:zh) (p1:Int):=(((p0.A==3)||(p0.A==4))&&(decide (p1<((sll p0.J).length:Int))))
abbrev agf (p0:zb) (p1:zb):=([(zi (zc p0)),(zi (zc p1))]:List zb)
abbrev alY (p0:zb) (p1:zb):=(max 0 (([(zi (zc p0)),(zi (zc p1))]:List zb).map za).length)
abbrev ad5 (p0:zb) (p1:zb):=([(zi (zf.mk 7 0 0 (zn.mk 0 0 0 ByteArray.empty) (some ([(zi (zc p0)),(zi (zc p1))]:List zb))))]:List zb)
abbrev awl (p0:zb) (p1:zb):=(([(zi (zf.mk 7 0 0 (zn.mk 0 0 0 ByteArray.empty) (some ([(zi (zc p0)),(zi (zc p1))]:List zb))))]:List zb).length)
abbrev asL (p0:zb) (p1:zb):=(([(zi (zf.mk 7 0 0 (zn.mk 0 0 0 ByteArray.empty) (some ([(zi (zc p0)),(zi (zc p1))]:List zb))))]:List zb).map za)
abbrev asS (p0:zh) (p1:Int):=((((p0.A==3)||(p0.A==4))&&(decide (p1<((sll p0.J).length:Int))))&&(decide (p1<((sll p0.L).length:Int))))
abbrev ajE (p0:jm) (p1:zb) (p2:zb):=(p0++([(zi (zf.mk 7 0 0 (zn.mk 0 0 0 ByteArray.empty) (some ([(zi (zc p1)),(zi (zc p2))]:List zb))))]:List zb))
theorem akt {rc_ref25_Applied:(Nat→zh→Option (jl))}(ih_ref25_Applied:∀ {n:Nat}{a0:zh}{r:jl}(hm:rc_ref25_Applied n a0=some r),call G n 35 [.agg [aI a0.A,aI a0.C,.pv (zk za a0.H),.pv (zk za a0.J),.pv (zk za a0.L),.pv (zk za a0.E),.pv (zk zl a0.D),.pv (zk zx a0.G),.pv (zk zA a0.B)]] []=some (.ret (.pv (zk za r)),[])) {n:Nat}{a0:zh}{r:jl}(hm:abH rc_ref25_Applied n a0=some r):
   call G n 35 [.agg (zc2 a0)] []=some (.ret (.pv (zk za r)),[]):=by
 unfold abH at hm
 obtain ⟨n,rfl,h0⟩:=zp hm
 replace hm:=h0;clear h0
 refine zT 65 [(0,.agg (zc2 a0))] func35 rfl hH (sq (det [jA] [.box (zc2 a0) false] hH (sq (dn [jA,j5] ?_))))
 obtain ⟨k4,hk4,hm⟩:=zo hm
 refine mid (fun t H=>(∃ (w1:AV) (w2:AV),k4 none=some r∧t=mk 65 [jA,j5,(4,w1),(10,w2)]∧H=[.box (zc2 a0) false])∨(∃ (y3:jm) (w1:AV) (w2:AV),k4 (some y3)=some r∧t=mk 65 [jA,(3,aR 1 8 y3.length),(4,w1),(10,w2)]∧H=[.box (zc2 a0) false,bR 49 8 za y3 0 0])) ?_ ?_
 ·rintro _ _ (⟨w1,w2,hm,rfl,rfl⟩|⟨y3,w1,w2,hm,rfl,rfl⟩)
  ·subst hk4
   obtain ⟨k7,hk7,hm⟩:=zo hm
   refine mid (fun t H=>(k7 none=some r∧t=mk 65 [jA,j5]∧H=[.box (zc2 a0) false])∨(∃ (y5:jm),k7 (some y5)=some r∧t=mk 65 [jA,(3,aR 1 8 ((sll a0.H).length))]∧H=[.box (zc2 a0) false,bR 49 8 za y5 0 0]∧y5.length=(sll a0.H).length)) ?_ ?_
   ·rintro _ _ (⟨hm,rfl,rfl⟩|⟨y5,hm,rfl,rfl,q6⟩)
    ·subst hk7
     obtain ⟨k11,hk11,hm⟩:=zo hm
     refine mid (fun t H=>(∃ (w8:AV) (w9:AV),k11 none=some r∧t=mk 65 [jA,j5,(5,w8),(46,w9)]∧H=[.box (zc2 a0) false])∨(∃ (y10:jm) (w8:AV) (w9:AV),k11 (some y10)=some r∧t=mk 65 [jA,(ag2 y10),(5,w8),(46,w9)]∧H=[.box (zc2 a0) false,bR 49 8 za y10 0 0])) ?_ ?_
     ·rintro _ _ (⟨w8,w9,hm,rfl,rfl⟩|⟨y10,w8,w9,hm,rfl,rfl⟩)
      ·subst hk11
       refine sq (dn [j7] (jc ?_))
       cases hm;exact hJ
      subst hk11
      refine sq (dn [(2,aR 1 8 y10.length)] (jc ?_))
      obtain rfl:=jf hm
      exact aa2 (v:=aR 1 8 y10.length) trivial rfl hH (afi (abI (n:=y10.length) (id:=1) (l:=y10) (R:=za) rfl rfl (Nat.zero_le _)))
     refine sq (dn [jA,j5,j9] (bq ?_))
     refine ZR (fun mm t H=>(∃ (y16:Int),Zq n a0 k11 mm none y16=some r∧t=mk 65 [jA,j5,(5,aI y16)]∧H=[.box (zc2 a0) false])∨(∃ (y15:jm) (y16:Int),Zq n a0 k11 mm (some y15) y16=some r∧t=mk 65 [jA,(ag2 y15),(5,aI y16)]∧H=[.box (zc2 a0) false,bR 49 8 za y15 0 0])) (.inl ⟨0,hm,rfl,rfl⟩) ?_ ?_
     ·
       rintro _ _ (⟨y16,hm,_⟩|⟨y15,y16,hm,_⟩)<;>exact nomatch hm
     rintro m17 _ _ (⟨y16,hm,rfl,rfl⟩|⟨y15,y16,hm,rfl,rfl⟩)
     ·simp only [Zq] at hm
      refine sq (sq (rg (s1 4 [(28,aB (a0.A==3)),(27,aB (a0.A==3)),(26,aI a0.A),jZ] ?_)))
      refine segP (a0.A==3) [28,27] (fun b=>[(32,aB (b||(a0.A==4))),(31,ifA b hY (aB (a0.A==4))),(30,ifA b hY (aI a0.A)),(29,ifA b hY (.ptr 0 0))]) 4 hH hH hH (s1 1 [(33,aB (ajo a0))] ?_)
      refine seg (ajo a0) [33,32] (fun b=>[(39,aB (b&&(decide (y16<((sll a0.J).length:Int))))),(38,ifA b (aB (decide (y16<((sll a0.J).length:Int)))) hY),(37,ifA b (anm a0) hY),(36,ifA b (.pv (aag a0)) hY),(35,ifA b (.ptr 0 3) hY),(34,ifA b (aI y16) hY)]) 15 hH ?_ ?_ ?_
      ·intro Q h
       refine s1 3 [(36,.pv (aag a0)),jW,(34,aI y16)] (dv 37 (v:=aI (ahq a0)) (zu za a0.J t23 hH) hH (s1 2 [(as8 y16 a0),(asU y16 a0)] ?_))
       exact Ze hH hH h
      ·intro Q h
       refine s1 6 [ky,(38,.undef),(37,.undef),(36,.undef),(35,.undef),(34,.undef)] ?_
       exact Ze hH hH h
      refine s1 1 [(as3 a0 y16)] ?_
      refine seg (atc a0 y16) [40,39] (fun b=>[(46,aB (b&&(decide (y16<((sll a0.L).length:Int))))),(45,ifA b (aB (decide (y16<((sll a0.L).length:Int)))) hY),(44,ifA b (aI ((sll a0.L).length:Int)) hY),(43,ifA b (.pv (aaX a0)) hY),(42,ifA b (.ptr 0 4) hY),(41,ifA b (aI y16) hY)]) 22 hH ?_ ?_ ?_
      ·intro Q h
       refine s1 3 [(43,.pv (aaX a0)),jU,(41,aI y16)] (dv 44 (v:=aI (ajI a0)) (zu za a0.L t23 hH) hH (s1 2 [(ato y16 a0),(atr y16 a0)] ?_))
       exact Ze hH hH h
      ·intro Q h
       refine s1 6 [kO,(45,.undef),(44,.undef),(43,.undef),(42,.undef),(41,.undef)] ?_
       exact Ze hH hH h
      refine fin [jA,j5,(5,aI y16),(asM a0 y16)] rfl hH ?_
      rcases zd hm with ⟨h18,hm⟩|⟨h18,hm⟩
      ·refine c1 h18 (jd (sq (bq (rgd (shd 4 [(52,aI y16),(51,.pv (aag a0)),j0,(49,.pv .nils)] hH ?_)))))
       obtain ⟨x19,h20,hm⟩:=bs hm
       refine dvd 53 (v:=.pv (.ptr (Z5 x19) 0)) (zS za a0.J .i64 t23 t49 h20 (zt x19) rfl hH) hH (shd 4 [(57,aI y16),(56,.pv (aaX a0)),jV,(54,.agg (zc9 x19))] hH ?_)
       obtain ⟨x21,h22,hm⟩:=bs hm
       refine dvd 58 (v:=.pv (.ptr (Z5 x21) 0)) (zS za a0.L .i64 t23 t49 h22 (zt x21) rfl hH) hH (std 3 [(61,.agg [aI 7,aI 0,aI 0,aI 0,aI 0,aF 0,aS ByteArray.empty,aR 1 8 2]),(60,aR 1 8 2),(59,.agg (zc9 x21))] [.box (zc2 a0) false,bR 49 8 za (agf x19 x21) 0 0] hH (dOd [(62,aR 2 8 1)] [.box (zc2 a0) false,bR 49 8 za (agf x19 x21) 0 (alY x19 x21),bR 49 8 za (ad5 x19 x21) 0 0] (akJ (nid:=0) (t:=23) (len:=1) (is:=[0]) (vs:=[.agg [aI 7,aI 0,aI 0,aI 0,aI 0,aF 0,aS ByteArray.empty,aR 1 8 2]]) (ps:=[.agg (zc24 x19 x21)]) (R:=[1]) (e:=⟨aR 2 8 1,[],[bR 49 8 za (ad5 x19 x21) 0 0]⟩) hH hH hH hH) hH ?_))
       obtain ⟨_,h23,hm⟩:=bs hm
       refine dOd [(63,aR 3 8 (awl x19 x21))] [.box (zc2 a0) false,bR 49 8 za (agf x19 x21) 0 (alY x19 x21),bR 49 8 za (ad5 x19 x21) 0 0,bR 49 8 za (ad5 x19 x21) 0 0] (aa6 (u:=0) za (ad5 x19 x21) (b:=88) t23 t49 rfl rfl rfl Zi rfl h23 (show Zm (aR 2 8 1) _=some (asL x19 x21) from by kernel_rfl) hH) hH (shd 1 [(auq x19 x21)] hH (find [jA,(auq x19 x21),(5,aI y16)] rfl hH hH (dn [jA,(auq x19 x21),(adC y16)] ?_)))
       exact ⟨_,_,Zg [jA,(3,aR 1 8 (awl x19 x21)),(adC y16)] [.box (zc2 a0) false,bR 49 8 za (ad5 x19 x21) 0 0] hH,.inr (⟨(ad5 x19 x21),(zN y16),hm,rfl,rfl⟩)⟩
      refine c0 h18 (je ?_)
      exact .inl ⟨aI y16,aB (asS a0 y16),hm,(zD hH),rfl⟩
     simp only [Zq] at hm
     refine sq (sq (rg (s1 4 [(28,aB (a0.A==3)),(27,aB (a0.A==3)),(26,aI a0.A),jZ] ?_)))
     refine segP (a0.A==3) [28,27] (fun b=>[(32,aB (b||(a0.A==4))),(31,ifA b hY (aB (a0.A==4))),(30,ifA b hY (aI a0.A)),(29,ifA b hY (.ptr 0 0))]) 4 hH hH hH (s1 1 [(33,aB (ajo a0))] ?_)
     refine seg (ajo a0) [33,32] (fun b=>[(39,aB (b&&(decide (y16<((sll a0.J).length:Int))))),(38,ifA b (aB (decide (y16<((sll a0.J).length:Int)))) hY),(37,ifA b (anm a0) hY),(36,ifA b (.pv (aag a0)) hY),(35,ifA b (.ptr 0 3) hY),(34,ifA b (aI y16) hY)]) 15 hH ?_ ?_ ?_
     ·intro Q h
      refine s1 3 [(36,.pv (aag a0)),jW,(34,aI y16)] (dv 37 (v:=aI (ahq a0)) (zu za a0.J t23 hH) hH (s1 2 [(as8 y16 a0),(asU y16 a0)] ?_))
      exact Ze hH hH h
     ·intro Q h
      refine s1 6 [ky,(38,.undef),(37,.undef),(36,.undef),(35,.undef),(34,.undef)] ?_
      exact Ze hH hH h
     refine s1 1 [(as3 a0 y16)] ?_
     refine seg (atc a0 y16) [40,39] (fun b=>[(46,aB (b&&(decide (y16<((sll a0.L).length:Int))))),(45,ifA b (aB (decide (y16<((sll a0.L).length:Int)))) hY),(44,ifA b (aI ((sll a0.L).length:Int)) hY),(43,ifA b (.pv (aaX a0)) hY),(42,ifA b (.ptr 0 4) hY),(41,ifA b (aI y16) hY)]) 22 hH ?_ ?_ ?_
     ·intro Q h
      refine s1 3 [(43,.pv (aaX a0)),jU,(41,aI y16)] (dv 44 (v:=aI (ajI a0)) (zu za a0.L t23 hH) hH (s1 2 [(ato y16 a0),(atr y16 a0)] ?_))
      exact Ze hH hH h
     ·intro Q h
      refine s1 6 [kO,(45,.undef),(44,.undef),(43,.undef),(42,.undef),(41,.undef)] ?_
      exact Ze hH hH h
     refine fin [jA,(ag2 y15),(5,aI y16),(asM a0 y16)] rfl hH ?_
     rcases zd hm with ⟨h24,hm⟩|⟨h24,hm⟩
     ·refine c1 h24 (jd (sq (bq (rgd (shd 4 [(52,aI y16),(51,.pv (aag a0)),j0,(49,aR 1 8 y15.length)] hH ?_)))))
      obtain ⟨x25,h26,hm⟩:=bs hm
      refine dvd 53 (v:=.pv (.ptr (Z5 x25) 0)) (zS za a0.J .i64 t23 t49 h26 (zt x25) rfl hH) hH (shd 4 [(57,aI y16),(56,.pv (aaX a0)),jV,(54,.agg (zc9 x25))] hH ?_)
      obtain ⟨x27,h28,hm⟩:=bs hm
      refine dvd 58 (v:=.pv (.ptr (Z5 x27) 0)) (zS za a0.L .i64 t23 t49 h28 (zt x27) rfl hH) hH (std 3 [(61,.agg zc16),(60,aR 2 8 2),(59,.agg (zc9 x27))] [.box (zc2 a0) false,bR 49 8 za y15 0 0,bR 49 8 za (agf x25 x27) 0 0] hH (dOd [(62,aR 3 8 1)] [.box (zc2 a0) false,bR 49 8 za y15 0 0,bR 49 8 za (agf x25 x27) 0 (alY x25 x27),bR 49 8 za (ad5 x25 x27) 0 0] (akJ (nid:=0) (t:=23) (len:=1) (is:=[0]) (vs:=[.agg zc16]) (ps:=[.agg (zc24 x25 x27)]) (R:=[2]) (e:=⟨aR 3 8 1,[],[bR 49 8 za (ad5 x25 x27) 0 0]⟩) hH hH hH hH) hH ?_))
      obtain ⟨_,h29,hm⟩:=bs hm
      refine dOd [(auk y15 x25 x27)] [.box (zc2 a0) false,bR 49 8 za (ajE y15 x25 x27) 0 0,bR 49 8 za (agf x25 x27) 0 (alY x25 x27),bR 49 8 za (ad5 x25 x27) 0 0] (qV (u:=0) (n:=y15.length) (id:=1) za y15 (ad5 x25 x27) (b:=88) t23 t49 rfl rfl rfl Zi rfl h29 rfl rfl (Nat.zero_le _) (show Zm (aR 3 8 1) _=some (asL x25 x27) from by kernel_rfl) hH) hH (shd 1 [(ahy y15 x25 x27)] hH (find [jA,(ahy y15 x25 x27),(5,aI y16)] rfl hH hH (dn [jA,(ahy y15 x25 x27),(adC y16)] ?_)))
      exact ⟨_,_,Zg [jA,(ahy y15 x25 x27),(adC y16)] [.box (zc2 a0) false,bR 49 8 za (ajE y15 x25 x27) 0 0] hH,.inr (⟨(ajE y15 x25 x27),(zN y16),hm,rfl,rfl⟩)⟩
     refine c0 h24 (je ?_)
     exact .inr (⟨y15,aI y16,aB (asS a0 y16),hm,(zD hH),rfl⟩)
    subst hk7
    obtain ⟨k35,hk35,hm⟩:=zo hm
    refine mid (fun t H=>(∃ (y30:jm) (y31:Bool) (y32:Int) (g33:Nat),k35 y30=some r∧t=mk 65 [jA,(3,aR 1 8 g33),(5,aI y32),(46,aB y31)]∧H=[.box (zc2 a0) false,bR 49 8 za y30 0 0]∧y30.length=g33)) ?_ ?_
    ·rintro _ _ ⟨y30,y31,y32,g33,hm,rfl,rfl,q34⟩
     subst hk35
     refine sq (dn [(2,aR 1 8 g33)] (jc ?_))
     obtain rfl:=jf hm
     exact aa2 (v:=aR 1 8 g33) trivial rfl hH (afi (abI (n:=g33) (id:=1) (l:=y30) (R:=za) rfl hO (Nat.zero_le _)))
    refine sq (dn [jA,(3,aR 1 8 ((sll a0.H).length)),j9] (bq ?_))
    refine ZR (fun mm t H=>(∃ (y40:jm) (y41:Int) (g42:Nat),qb n a0 k35 mm y40 y41=some r∧t=mk 65 [jA,(3,aR 1 8 g42),(5,aI y41)]∧H=[.box (zc2 a0) false,bR 49 8 za y40 0 0]∧y40.length=g42)) (⟨y5,0,(sll a0.H).length,hm,rfl,rfl,hM⟩) ?_ ?_
    ·
      rintro _ _ ⟨y40,y41,g42,hm,_⟩;exact nomatch hm
    rintro m44 _ _ ⟨y40,y41,g42,hm,rfl,rfl,q43⟩
    simp only [qb] at hm
    refine sq (sq (rg (s1 4 [(28,aB (a0.A==3)),(27,aB (a0.A==3)),(26,aI a0.A),jZ] ?_)))
    refine segP (a0.A==3) [28,27] (fun b=>[(32,aB (b||(a0.A==4))),(31,ifA b hY (aB (a0.A==4))),(30,ifA b hY (aI a0.A)),(29,ifA b hY (.ptr 0 0))]) 4 hH hH hH (s1 1 [(33,aB (ajo a0))] ?_)
    refine seg (ajo a0) [33,32] (fun b=>[(39,aB (b&&(decide (y41<((sll a0.J).length:Int))))),(38,ifA b (aB (decide (y41<((sll a0.J).length:Int)))) hY),(37,ifA b (anm a0) hY),(36,ifA b (.pv (aag a0)) hY),(35,ifA b (.ptr 0 3) hY),(34,ifA b (aI y41) hY)]) 15 hH ?_ ?_ ?_
    ·intro Q h
     refine s1 3 [(36,.pv (aag a0)),jW,(34,aI y41)] (dv 37 (v:=aI (ahq a0)) (zu za a0.J t23 hH) hH (s1 2 [(as8 y41 a0),(asU y41 a0)] ?_))
     exact Ze hH hH h
    ·intro Q h
     refine s1 6 [ky,(38,.undef),(37,.undef),(36,.undef),(35,.undef),(34,.undef)] ?_
     exact Ze hH hH h
    refine s1 1 [(as3 a0 y41)] ?_
    refine seg (atc a0 y41) [40,39] (fun b=>[(46,aB (b&&(decide (y41<((sll a0.L).length:Int))))),(45,ifA b (aB (decide (y41<((sll a0.L).length:Int)))) hY),(44,ifA b (aI ((sll a0.L).length:Int)) hY),(43,ifA b (.pv (aaX a0)) hY),(42,ifA b (.ptr 0 4) hY),(41,ifA b (aI y41) hY)]) 22 hH ?_ ?_ ?_
    ·intro Q h
     refine s1 3 [(43,.pv (aaX a0)),jU,(41,aI y41)] (dv 44 (v:=aI (ajI a0)) (zu za a0.L t23 hH) hH (s1 2 [(ato y41 a0),(atr y41 a0)] ?_))
     exact Ze hH hH h
    ·intro Q h
     refine s1 6 [kO,(45,.undef),(44,.undef),(43,.undef),(42,.undef),(41,.undef)] ?_
     exact Ze hH hH h
    refine fin [jA,(3,aR 1 8 g42),(5,aI y41),(asM a0 y41)] rfl hH ?_
    rcases zd hm with ⟨h45,hm⟩|⟨h45,hm⟩
    ·refine c1 h45 (jd (sq (bq (rgd (shd 4 [(52,aI y41),(51,.pv (aag a0)),j0,(49,aR 1 8 g42)] hH ?_)))))
     obtain ⟨x46,h47,hm⟩:=bs hm
     refine dvd 53 (v:=.pv (.ptr (Z5 x46) 0)) (zS za a0.J .i64 t23 t49 h47 (zt x46) rfl hH) hH (shd 4 [(57,aI y41),(56,.pv (aaX a0)),jV,(54,.agg (zc9 x46))] hH ?_)
     obtain ⟨x48,h49,hm⟩:=bs hm
     refine dvd 58 (v:=.pv (.ptr (Z5 x48) 0)) (zS za a0.L .i64 t23 t49 h49 (zt x48) rfl hH) hH (std 3 [(61,.agg zc16),(60,aR 2 8 2),(59,.agg (zc9 x48))] [.box (zc2 a0) false,bR 49 8 za y40 0 0,bR 49 8 za (agf x46 x48) 0 0] hH (dOd [(62,aR 3 8 1)] [.box (zc2 a0) false,bR 49 8 za y40 0 0,bR 49 8 za (agf x46 x48) 0 (alY x46 x48),bR 49 8 za (ad5 x46 x48) 0 0] (akJ (nid:=0) (t:=23) (len:=1) (is:=[0]) (vs:=[.agg zc16]) (ps:=[.agg (zc24 x46 x48)]) (R:=[2]) (e:=⟨aR 3 8 1,[],[bR 49 8 za (ad5 x46 x48) 0 0]⟩) hH hH hH hH) hH ?_))
     obtain ⟨_,h50,hm⟩:=bs hm
     refine dOd [(auk y40 x46 x48)] [.box (zc2 a0) false,bR 49 8 za (ajE y40 x46 x48) 0 0,bR 49 8 za (agf x46 x48) 0 (alY x46 x48),bR 49 8 za (ad5 x46 x48) 0 0] (qV (u:=0) (n:=g42) (id:=1) za y40 (ad5 x46 x48) (b:=88) t23 t49 rfl rfl rfl Zi rfl h50 rfl hO (Nat.zero_le _) (show Zm (aR 3 8 1) _=some (asL x46 x48) from by kernel_rfl) hH) hH (shd 1 [(ahy y40 x46 x48)] hH (find [jA,(ahy y40 x46 x48),(5,aI y41)] rfl hH hH (dn [jA,(ahy y40 x46 x48),(adC y41)] ?_)))
     exact ⟨_,_,Zg [jA,(ahy y40 x46 x48),(adC y41)] [.box (zc2 a0) false,bR 49 8 za (ajE y40 x46 x48) 0 0] hH,⟨(ajE y40 x46 x48),(zN y41),(ajE y40 x46 x48).length,hm,rfl,rfl,hM⟩⟩
    refine c0 h45 (je ?_)
    exact ⟨y40,(asS a0 y41),y41,g42,hm,rfl,rfl,hM⟩
   refine rg (s1 3 [(23,.pv (aiD a0)),(22,.ptr 0 2),(21,.pv .nils)] ?_)
   rcases zd hm with ⟨h51,hm⟩|⟨h51,hm⟩
   ·refine dv 24 (v:=.pv .nils) (ala (u:=0) (y:=.pv (aiD a0)) za (sll a0.H) t23 t49 rfl rfl h51 (afh (R:=za) (s:=a0.H)) hH) hH (fq 1 [jA,j5] ?_)
    exact .inl ⟨hm,rfl,rfl⟩
   obtain ⟨_,h52,hm⟩:=bs hm
   refine dO [(24,aR 1 8 ((sll a0.H).length))] [.box (zc2 a0) false,bR 49 8 za (sll a0.H) 0 0] (aa6 (u:=0) za (sll a0.H) (b:=88) t23 t49 rfl rfl rfl Zi h51 h52 (afh (R:=za) (s:=a0.H)) hH) hH (fq 1 [jA,(3,aR 1 8 ((sll a0.H).length))] ?_)
   exact .inr (⟨(sll a0.H),hm,rfl,rfl,hM⟩)
  subst hk4
  obtain ⟨k54,hk54,hm⟩:=zo hm
  refine mid (fun t H=>(∃ (y53:jm),k54 y53=some r∧t=mk 65 [jA,(ag2 y53)]∧H=[.box (zc2 a0) false,bR 49 8 za y53 0 0])) ?_ ?_
  ·rintro _ _ ⟨y53,hm,rfl,rfl⟩
   subst hk54
   obtain ⟨k58,hk58,hm⟩:=zo hm
   refine mid (fun t H=>(∃ (y55:jm) (y56:Bool) (y57:Int),k58 y55=some r∧t=mk 65 [jA,(ag2 y55),(5,aI y57),(46,aB y56)]∧H=[.box (zc2 a0) false,bR 49 8 za y55 0 0])) ?_ ?_
   ·rintro _ _ ⟨y55,y56,y57,hm,rfl,rfl⟩
    subst hk58
    refine sq (dn [(2,aR 1 8 y55.length)] (jc ?_))
    obtain rfl:=jf hm
    exact aa2 (v:=aR 1 8 y55.length) trivial rfl hH (afi (abI (n:=y55.length) (id:=1) (l:=y55) (R:=za) rfl rfl (Nat.zero_le _)))
   refine sq (dn [jA,(ag2 y53),j9] (bq ?_))
   refine ZR (fun mm t H=>(∃ (y61:jm) (y62:Int),ZV n a0 k58 mm y61 y62=some r∧t=mk 65 [jA,(ag2 y61),(5,aI y62)]∧H=[.box (zc2 a0) false,bR 49 8 za y61 0 0])) (⟨y53,0,hm,rfl,rfl⟩) ?_ ?_
   ·
     rintro _ _ ⟨y61,y62,hm,_⟩;exact nomatch hm
   rintro m63 _ _ ⟨y61,y62,hm,rfl,rfl⟩
   simp only [ZV] at hm
   refine sq (sq (rg (s1 4 [(28,aB (a0.A==3)),(27,aB (a0.A==3)),(26,aI a0.A),jZ] ?_)))
   refine segP (a0.A==3) [28,27] (fun b=>[(32,aB (b||(a0.A==4))),(31,ifA b hY (aB (a0.A==4))),(30,ifA b hY (aI a0.A)),(29,ifA b hY (.ptr 0 0))]) 4 hH hH hH (s1 1 [(33,aB (ajo a0))] ?_)
   refine seg (ajo a0) [33,32] (fun b=>[(39,aB (b&&(decide (y62<((sll a0.J).length:Int))))),(38,ifA b (aB (decide (y62<((sll a0.J).length:Int)))) hY),(37,ifA b (anm a0) hY),(36,ifA b (.pv (aag a0)) hY),(35,ifA b (.ptr 0 3) hY),(34,ifA b (aI y62) hY)]) 15 hH ?_ ?_ ?_
   ·intro Q h
    refine s1 3 [(36,.pv (aag a0)),jW,(34,aI y62)] (dv 37 (v:=aI (ahq a0)) (zu za a0.J t23 hH) hH (s1 2 [(as8 y62 a0),(asU y62 a0)] ?_))
    exact Ze hH hH h
   ·intro Q h
    refine s1 6 [ky,(38,.undef),(37,.undef),(36,.undef),(35,.undef),(34,.undef)] ?_
    exact Ze hH hH h
   refine s1 1 [(as3 a0 y62)] ?_
   refine seg (atc a0 y62) [40,39] (fun b=>[(46,aB (b&&(decide (y62<((sll a0.L).length:Int))))),(45,ifA b (aB (decide (y62<((sll a0.L).length:Int)))) hY),(44,ifA b (aI ((sll a0.L).length:Int)) hY),(43,ifA b (.pv (aaX a0)) hY),(42,ifA b (.ptr 0 4) hY),(41,ifA b (aI y62) hY)]) 22 hH ?_ ?_ ?_
   ·intro Q h
    refine s1 3 [(43,.pv (aaX a0)),jU,(41,aI y62)] (dv 44 (v:=aI (ajI a0)) (zu za a0.L t23 hH) hH (s1 2 [(ato y62 a0),(atr y62 a0)] ?_))
    exact Ze hH hH h
   ·intro Q h
    refine s1 6 [kO,(45,.undef),(44,.undef),(43,.undef),(42,.undef),(41,.undef)] ?_
    exact Ze hH hH h
   refine fin [jA,(ag2 y61),(5,aI y62),(asM a0 y62)] rfl hH ?_
   rcases zd hm with ⟨h64,hm⟩|⟨h64,hm⟩
   ·refine c1 h64 (jd (sq (bq (rgd (shd 4 [(52,aI y62),(51,.pv (aag a0)),j0,(49,aR 1 8 y61.length)] hH ?_)))))
    obtain ⟨x65,h66,hm⟩:=bs hm
    refine dvd 53 (v:=.pv (.ptr (Z5 x65) 0)) (zS za a0.J .i64 t23 t49 h66 (zt x65) rfl hH) hH (shd 4 [(57,aI y62),(56,.pv (aaX a0)),jV,(54,.agg (zc9 x65))] hH ?_)
    obtain ⟨x67,h68,hm⟩:=bs hm
    refine dvd 58 (v:=.pv (.ptr (Z5 x67) 0)) (zS za a0.L .i64 t23 t49 h68 (zt x67) rfl hH) hH (std 3 [(61,.agg zc16),(60,aR 2 8 2),(59,.agg (zc9 x67))] [.box (zc2 a0) false,bR 49 8 za y61 0 0,bR 49 8 za (agf x65 x67) 0 0] hH (dOd [(62,aR 3 8 1)] [.box (zc2 a0) false,bR 49 8 za y61 0 0,bR 49 8 za (agf x65 x67) 0 (alY x65 x67),bR 49 8 za (ad5 x65 x67) 0 0] (akJ (nid:=0) (t:=23) (len:=1) (is:=[0]) (vs:=[.agg zc16]) (ps:=[.agg (zc24 x65 x67)]) (R:=[2]) (e:=⟨aR 3 8 1,[],[bR 49 8 za (ad5 x65 x67) 0 0]⟩) hH hH hH hH) hH ?_))
    obtain ⟨_,h69,hm⟩:=bs hm
    refine dOd [(auk y61 x65 x67)] [.box (zc2 a0) false,bR 49 8 za (ajE y61 x65 x67) 0 0,bR 49 8 za (agf x65 x67) 0 (alY x65 x67),bR 49 8 za (ad5 x65 x67) 0 0] (qV (u:=0) (n:=y61.length) (id:=1) za y61 (ad5 x65 x67) (b:=88) t23 t49 rfl rfl rfl Zi rfl h69 rfl rfl (Nat.zero_le _) (show Zm (aR 3 8 1) _=some (asL x65 x67) from by kernel_rfl) hH) hH (shd 1 [(ahy y61 x65 x67)] hH (find [jA,(ahy y61 x65 x67),(5,aI y62)] rfl hH hH (dn [jA,(ahy y61 x65 x67),(adC y62)] ?_)))
    exact ⟨_,_,Zg [jA,(ahy y61 x65 x67),(adC y62)] [.box (zc2 a0) false,bR 49 8 za (ajE y61 x65 x67) 0 0] hH,⟨(ajE y61 x65 x67),(zN y62),hm,rfl,rfl⟩⟩
   refine c0 h64 (je ?_)
   exact ⟨y61,(asS a0 y62),y62,hm,rfl,rfl⟩
  refine rg (s1 3 [(23,.pv (aiD a0)),(22,.ptr 0 2),(21,aR 1 8 y3.length)] ?_)
  rcases zd hm with ⟨h70,hm⟩|⟨h70,hm⟩
  ·obtain ⟨_,h71,hm⟩:=bs hm
   refine dv 24 (v:=aR 1 8 y3.length) (ai4 (u:=0) (y:=.pv (aiD a0)) (n:=y3.length) (id:=1) za y3 (sll a0.H) (b:=88) t23 t49 rfl rfl rfl h70 h71 rfl rfl (Nat.zero_le _) (afh (R:=za) (s:=a0.H)) hH) hH (fq 1 [jA,(3,aR 1 8 y3.length)] ?_)
   exact ⟨y3,hm,rfl,rfl⟩
  obtain ⟨_,h72,hm⟩:=bs hm
  refine dO [(24,aR 1 8 ((y3++(sll a0.H)).length))] [.box (zc2 a0) false,bR 49 8 za (y3++(sll a0.H)) 0 0] (qV (u:=0) (n:=y3.length) (id:=1) za y3 (sll a0.H) (b:=88) t23 t49 rfl rfl rfl Zi h70 h72 rfl rfl (Nat.zero_le _) (afh (R:=za) (s:=a0.H)) hH) hH (fq 1 [jA,(3,aR 1 8 ((y3++(sll a0.H)).length))] ?_)
  exact ⟨(y3++(sll a0.H)),hm,rfl,rfl⟩
 refine sq (dn [jA,j5,j8] (bq ?_))
 refine ZR (fun mm t H=>(∃ (y76:Int),zW n rc_ref25_Applied a0 k4 mm none y76=some r∧t=mk 65 [jA,j5,(4,aI y76)]∧H=[.box (zc2 a0) false])∨(∃ (y75:jm) (y76:Int),zW n rc_ref25_Applied a0 k4 mm (some y75) y76=some r∧t=mk 65 [jA,(ag2 y75),(4,aI y76)]∧H=[.box (zc2 a0) false,bR 49 8 za y75 0 0])) (.inl ⟨0,hm,rfl,rfl⟩) ?_ ?_
 ·
   rintro _ _ (⟨y76,hm,_⟩|⟨y75,y76,hm,_⟩)<;>exact nomatch hm
 rintro m77 _ _ (⟨y76,hm,rfl,rfl⟩|⟨y75,y76,hm,rfl,rfl⟩)
 ·simp only [zW] at hm
  refine sq (sq (rg (s1 3 [(8,.pv (adv a0)),(7,.ptr 0 8),(6,aI y76)] (dv 9 (v:=aI (ahp a0)) (zu zA a0.B t64 hH) hH (fq 1 [jA,j5,(4,aI y76),(zp99 y76 a0)] ?_)))))
  rcases zd hm with ⟨h78,hm⟩|⟨h78,hm⟩
  ·refine c1 h78 (jd (sq (bq (rg (s1 4 [(16,aI y76),(15,.pv (adv a0)),(14,.ptr 0 8),(13,.pv .nils)] ?_)))))
   obtain ⟨x79,h80,hm⟩:=bs hm
   refine dv 17 (v:=.pv (.ptr (acQ x79) 0)) (zS zA a0.B .i64 t64 t66 h80 (Zd x79) rfl hH) hH (s1 1 [(18,.agg (zc3 x79))] ?_)
   obtain ⟨x81,h82,hm⟩:=bs hm
   refine dv 19 (zC hH (ih_ref25_Applied h82) hH hH hH) hH ?_
   rcases zd hm with ⟨h83,hm⟩|⟨h83,hm⟩
   ·refine dv 20 (v:=.pv .nils) (ala (u:=0) (y:=.pv (ZN x81)) za (sll x81) t23 t49 rfl rfl h83 (afh (R:=za) (s:=x81)) hH) hH (fq 1 [jA,j5,(4,aI y76)] (dn [jA,j5,(zp26 y76)] ?_))
    exact ⟨_,_,Zg [jA,j5,(zp26 y76)] [.box (zc2 a0) false] hH,.inl ⟨(zN y76),hm,rfl,rfl⟩⟩
   obtain ⟨_,h84,hm⟩:=bs hm
   refine dO [(20,aR 1 8 ((sll x81).length))] [.box (zc2 a0) false,bR 49 8 za (sll x81) 0 0] (aa6 (u:=0) za (sll x81) (b:=88) t23 t49 rfl rfl rfl Zi h83 h84 (afh (R:=za) (s:=x81)) hH) hH (fq 1 [jA,(3,aR 1 8 ((sll x81).length)),(4,aI y76)] (dn [jA,(3,aR 1 8 ((sll x81).length)),(zp26 y76)] ?_))
   exact ⟨_,_,Zg [jA,(3,aR 1 8 ((sll x81).length)),(zp26 y76)] [.box (zc2 a0) false,bR 49 8 za (sll x81) 0 0] hH,.inr (⟨(sll x81),(zN y76),hm,rfl,rfl⟩)⟩
  refine c0 h78 (je ?_)
  exact .inl ⟨aI y76,aB (afm y76 a0),hm,(zD hH),rfl⟩
 simp only [zW] at hm
 refine sq (sq (rg (s1 3 [(8,.pv (adv a0)),(7,.ptr 0 8),(6,aI y76)] (dv 9 (v:=aI (ahp a0)) (zu zA a0.B t64 hH) hH (fq 1 [jA,(ag2 y75),(4,aI y76),(zp99 y76 a0)] ?_)))))
 rcases zd hm with ⟨h85,hm⟩|⟨h85,hm⟩
 ·refine c1 h85 (jd (sq (bq (rg (s1 4 [(16,aI y76),(15,.pv (adv a0)),(14,.ptr 0 8),(13,aR 1 8 y75.length)] ?_)))))
  obtain ⟨x86,h87,hm⟩:=bs hm
  refine dv 17 (v:=.pv (.ptr (acQ x86) 0)) (zS zA a0.B .i64 t64 t66 h87 (Zd x86) rfl hH) hH (s1 1 [(18,.agg (zc3 x86))] ?_)
  obtain ⟨x88,h89,hm⟩:=bs hm
  refine dv 19 (zC hH (ih_ref25_Applied h89) hH hH hH) hH ?_
  rcases zd hm with ⟨h90,hm⟩|⟨h90,hm⟩
  ·obtain ⟨_,h91,hm⟩:=bs hm
   refine dv 20 (v:=aR 1 8 y75.length) (ai4 (u:=0) (y:=.pv (ZN x88)) (n:=y75.length) (id:=1) za y75 (sll x88) (b:=88) t23 t49 rfl rfl rfl h90 h91 rfl rfl (Nat.zero_le _) (afh (R:=za) (s:=x88)) hH) hH (fq 1 [jA,(ag2 y75),(4,aI y76)] (dn [jA,(ag2 y75),(zp26 y76)] ?_))
   exact ⟨_,_,Zg [jA,(ag2 y75),(zp26 y76)] [.box (zc2 a0) false,bR 49 8 za y75 0 0] hH,.inr (⟨y75,(zN y76),hm,rfl,rfl⟩)⟩
  obtain ⟨_,h92,hm⟩:=bs hm
  refine dO [(20,aR 1 8 ((y75++(sll x88)).length))] [.box (zc2 a0) false,bR 49 8 za (y75++(sll x88)) 0 0] (qV (u:=0) (n:=y75.length) (id:=1) za y75 (sll x88) (b:=88) t23 t49 rfl rfl rfl Zi h90 h92 rfl rfl (Nat.zero_le _) (afh (R:=za) (s:=x88)) hH) hH (fq 1 [jA,(3,aR 1 8 ((y75++(sll x88)).length)),(4,aI y76)] (dn [jA,(3,aR 1 8 ((y75++(sll x88)).length)),(zp26 y76)] ?_))
  exact ⟨_,_,Zg [jA,(3,aR 1 8 ((y75++(sll x88)).length)),(zp26 y76)] [.box (zc2 a0) false,bR 49 8 za (y75++(sll x88)) 0 0] hH,.inr (⟨(y75++(sll x88)),(zN y76),hm,rfl,rfl⟩)⟩
 refine c0 h85 (je ?_)
 exact .inr (⟨y75,aI y76,aB (afm y76 a0),hm,(zD hH),rfl⟩)
theorem agc:∀ (m:Nat),∀ {n:Nat}{a0:zh}{r:jl}(hm:aaz m n a0=some r),call G n 35 [.agg (zc2 a0)] []=some (.ret (.pv (zk za r)),[])
 |0=>by intros;rename_i hm;exact nomatch hm
 |m+1=>fun hm=>
  akt (agc m) hm
theorem alv {n:Nat}{a0:zh}{r:jl}(hm:aeL n a0=some r):
 call G n 35 [.agg (zc2 a0)] []=some (.ret (.pv (zk za r)),[]):=agc n hm
theorem aoR {n:Nat}{a0:zf}{a1:zf}{r:Bool}(hm:afV n a0 a1=some r):
   call G n 172 [.agg (zc7 a0),.agg (zc7 a1)] []=some (.ret (aB r),[]):=by
 unfold afV at hm
 obtain ⟨n,rfl,h0⟩:=zp hm
 replace hm:=h0;clear h0
 refine zT 35 [(0,.agg (zc7 a0)),(1,.agg (zc7 a1))] func172 rfl hH (sq (det [jz,jC] [.box (zc7 a0) false,.box (zc7 a1) false] hH ?_))
 refine sq (sq (rg (s1 2 [(6,.agg (zc7 a1)),(5,.agg (zc7 a0))] ?_)))
 obtain ⟨x1,h2,hm⟩:=bs hm
 refine dv 7 (zC hH (aeQ h2) hH hH hH) hH (fin [jz,jC,(7,aB x1)] rfl hH ?_)
 rcases zd hm with ⟨h3,hm⟩|⟨h3,hm⟩
 ·refine c1 h3 (sq (dn [kx] (jc ?_)))
  cases hm;exact hJ
 refine c0 h3 (jd ?_)
 refine sq (sq (rg (s1 4 [(11,aB (a0.A !=7)),(10,aB (a0.A !=7)),(9,aI a0.A),jO] ?_)))
 refine seg (a0.A !=7) [11,10] (fun b=>[(16,aB (b||(((sll a0.B).length:Int)!=2))),(15,ifA b hY (aB (((sll a0.B).length:Int)!=2))),(14,ifA b hY (aI ((sll a0.B).length:Int))),(13,ifA b hY (.pv (abb a0))),(12,ifA b hY (.ptr 0 7))]) 9 hH ?_ ?_ ?_
 ·intro Q h
  refine s1 5 [(16,aB true),(15,.undef),(14,.undef),(13,.undef),(12,.undef)] ?_
  exact Ze hH hH h
 ·intro Q h
  refine s1 2 [(zp54 a0),(12,.ptr 0 7)] (dv 14 (v:=aI (afb a0)) (zu za a0.B t23 hH) hH (s1 2 [(16,aB (((sll a0.B).length:Int)!=2)),(15,aB (((sll a0.B).length:Int)!=2))] ?_))
  exact Ze hH hH h
 refine fin [jz,jC,(16,aB ((a0.A !=7)||(((sll a0.B).length:Int)!=2)))] rfl hH ?_
 rcases zd hm with ⟨h4,hm⟩|⟨h4,hm⟩
 ·refine c1 h4 (sq (dn [kn] (jc ?_)))
  cases hm;exact hJ
 refine c0 h4 (jd (sq (rgd (shd 8 [(ahr a0),(23,.ptr 0 7),(22,.agg (zc8 a0)),(21,.ptr 0 3),(20,aI a0.M),(19,.ptr 0 2),(18,aI a0.C),(17,.ptr 0 1)] hH ?_))))
 obtain ⟨x5,h6,hm⟩:=bs hm
 refine dvd 25 (v:=.pv (.ptr (Z5 x5) 0)) (zS za a0.B .i64 t23 t49 h6 (zt x5) rfl hH) hH (shd 3 [(28,.pv (abb a0)),(27,.ptr 0 7),(26,.agg (zc9 x5))] hH ?_)
 obtain ⟨x7,h8,hm⟩:=bs hm
 refine dvd 29 (v:=.pv (.ptr (Z5 x7) 0)) (zS za a0.B .i64 t23 t49 h8 (zt x7) rfl hH) hH (std 4 [(33,.agg (zc7 a1)),(32,.agg [aI 7,aI a0.C,aI a0.M,aI a0.F.A,aI a0.F.K,aF a0.F.I,aS a0.F.N,aR 2 8 2]),(31,aR 2 8 2),(30,.agg (zc9 x7))] [.box (zc7 a0) false,.box (zc7 a1) false,bR 49 8 za (agf x5 x7) 0 0] hH ?_)
 obtain ⟨x9,h10,hm⟩:=bs hm
 refine dOd [(34,aB x9)] [.box (zc7 a0) false,.box (zc7 a1) false,bR 49 8 za (agf x5 x7) 0 0] (aip [2] [.agg [aI 7,aI a0.C,aI a0.M,aI a0.F.A,aI a0.F.K,aF a0.F.I,aS a0.F.N,aR 2 8 2],.agg (zc7 a1)] (fl:=true) hH hH hH (aeQ h10) hH hH) hH (shd 1 [(4,aB x9)] hH (find [(4,aB x9)] rfl hH hH (jc ?_)))
 cases hm;exact hJ
abbrev ab2 (p0:jl):Nat×AV:=(5,aR 0 1 ((List.replicate (Int.toNat ((sll p0).length:Int)) false).length))
abbrev amR (p0:jl):=((List.replicate (Int.toNat ((sll p0).length:Int)) false).length)
abbrev ahu (p0:jl):=(List.replicate (Int.toNat ((sll p0).length:Int)) false)
theorem alr {n:Nat}{a0:jl}{a1:jl}{r:Bool}(hm:abS n a0 a1=some r):
   call G n 118 [.pv (ZN a0),.pv (ZN a1)] []=some (.ret (aB r),[]):=by
 unfold abS at hm
 obtain ⟨n,rfl,h0⟩:=zp hm
 replace hm:=h0;clear h0
 refine zT 54 [(zp25 a0),(zp88 a1)] func118 rfl hH (sq (dn [(zp25 a0),(zp88 a1)] (sq (rg (s1 1 [(9,.pv (ZN a1))] (dv 10 (v:=aI (aaB a1)) (zu za a1 t23 hH) hH ?_))))))
 obtain ⟨_,h1,hm⟩:=bs hm
 refine dO [(11,aR 0 1 (amR a1))] [bR 4 1 rB (ahu a1) 0 0] (makeO rB false (n:=(aaB a1)) (c:=(aaB a1)) (k:=.i64) (k':=.i64) (b:=1) t223 t4 rfl rfl rfl rfl h1 hH) hH (fq 1 [(zp25 a0),(zp88 a1),(ab2 a1)] ?_)
 obtain ⟨k8,hk8,hm⟩:=zo hm
 refine mid (fun t H=>(∃ (y2:(List Bool)) (y3:Bool) (y4:Int) (g6:Nat),k8 ()=some r∧t=mk 54 [(zp25 a0),(zp88 a1),(ab2 a1),(6,aI y4),(15,aB y3)]∧H=[bR 4 1 rB y2 g6 0]∧y2.length=(ahu a1).length∧g6≤y2.length)) ?_ ?_
 ·rintro _ _ ⟨y2,y3,y4,g6,hm,rfl,rfl,q5,q7⟩
  subst hk8
  refine sq (rg (s1 1 [(49,.pv (ZN a0))] (dv 50 (v:=aI (aaB a0)) (zu za a0 t23 hH) hH (s1 1 [(51,.pv (ZN a1))] (dv 52 (v:=aI (aaB a1)) (zu za a1 t23 hH) hH (fq 2 [(4,aB (((sll a0).length:Int)==((sll a1).length:Int)))] (jc ?_)))))))
  cases hm;exact hJ
 refine sq (dn [(zp25 a0),(zp88 a1),(ab2 a1),kf] (bq ?_))
 refine ZR (fun mm t H=>(∃ (y14:(List Bool)) (y15:Int) (g17:Nat),qS n a0 a1 k8 mm y14 y15=some r∧t=mk 54 [(zp25 a0),(zp88 a1),(ab2 a1),(6,aI y15)]∧H=[bR 4 1 rB y14 g17 0]∧y14.length=(ahu a1).length∧g17≤y14.length)) (⟨(ahu a1),0,0,hm,rfl,rfl,hM,hN⟩) ?_ ?_
 ·
   rintro _ _ ⟨y14,y15,g17,hm,_⟩;exact nomatch hm
 rintro m19 _ _ ⟨y14,y15,g17,hm,rfl,rfl,q16,q18⟩
 simp only [qS] at hm
 refine sq (sq (rg (s1 2 [(13,.pv (ZN a0)),(12,aI y15)] (dv 14 (v:=aI (aaB a0)) (zu za a0 t23 hH) hH (fq 1 [(zp25 a0),(zp88 a1),(ab2 a1),(6,aI y15),(15,aB (aai y15 a0))] ?_)))))
 rcases zd hm with ⟨h,hm⟩|⟨h,hm⟩
 ·refine c1 h (jd ?_)
  obtain ⟨k26,hk26,hm⟩:=zo hm
  refine mid (fun t H=>(∃ (y21:(List Bool)) (y22:Bool) (g24:Nat),k26 y21=some r∧t=mk 54 [(zp25 a0),(zp88 a1),(ab2 a1),(6,aI y15),(48,aB y22)]∧H=[bR 4 1 rB y21 g24 0]∧y21.length=(ahu a1).length∧g24≤y21.length)) ?_ ?_
  ·rintro _ _ ⟨y21,y22,g24,hm,rfl,rfl,q23,q25⟩
   subst hk26
   refine dn [(zp25 a0),(zp88 a1),(ab2 a1),(zp29 y15)] ?_
   exact ⟨_,_,Zg [(zp25 a0),(zp88 a1),(ab2 a1),(zp29 y15)] [bR 4 1 rB y21 g24 0] hH,⟨y21,(zN y15),g24,hm,rfl,rfl,hM,hN⟩⟩
  refine bq (sq (dn [(zp25 a0),(zp88 a1),(ab2 a1),(6,aI y15),(7,aB false)] ?_))
  obtain ⟨k34,hk34,hm⟩:=zo hm
  refine mid (fun t H=>(∃ (y27:(List Bool)) (y28:Bool) (y29:Bool) (y30:Int) (g32:Nat),k34 y27 y29=some r∧t=mk 54 [(zp25 a0),(zp88 a1),(ab2 a1),(6,aI y15),(7,aB y29),(8,aI y30),(25,aB y28)]∧H=[bR 4 1 rB y27 g32 0]∧y27.length=(ahu a1).length∧g32≤y27.length)) ?_ ?_
  ·rintro _ _ ⟨y27,y28,y29,y30,g32,hm,rfl,rfl,q31,q33⟩
   subst hk34
   refine sq (dn [(zp25 a0),(zp88 a1),(ab2 a1),(6,aI y15),(48,aB (!y29))] ?_)
   rcases zd hm with ⟨h,hm⟩|⟨h,hm⟩
   ·refine c1 h (sq (dn [kn] (jc ?_)))
    cases hm;exact hJ
   refine c0 h (jd ?_)
   exact ⟨y27,(!y29),g32,hm,rfl,rfl,hM,hN⟩
  refine sq (dn [(zp25 a0),(zp88 a1),(ab2 a1),(6,aI y15),(7,aB false),ke] (bq ?_))
  refine ZR (fun mm t H=>(∃ (y42:(List Bool)) (y43:Bool) (y44:Int) (g46:Nat),qp n a0 a1 y15 k34 mm y42 y43 y44=some r∧t=mk 54 [(zp25 a0),(zp88 a1),(ab2 a1),(6,aI y15),(7,aB y43),(8,aI y44)]∧H=[bR 4 1 rB y42 g46 0]∧y42.length=(ahu a1).length∧g46≤y42.length)) (⟨y14,false,0,g17,hm,rfl,rfl,hM,hN⟩) ?_ ?_
  ·
    rintro _ _ ⟨y42,y43,y44,g46,hm,_⟩;exact nomatch hm
  rintro m48 _ _ ⟨y42,y43,y44,g46,hm,rfl,rfl,q45,q47⟩
  simp only [qp] at hm
  refine sq (sq (rg (s1 2 [(19,.pv (ZN a1)),(18,aI y44)] (dv 20 (v:=aI (aaB a1)) (zu za a1 t23 hH) hH (s1 2 [(22,aB (aai y44 a1)),(21,aB (aai y44 a1))] ?_)))))
  refine segP (aai y44 a1) [22,21] (fun b=>[(25,aB (b&&(!y43))),(24,ifA b (aB (!y43)) hY),(23,ifA b (aB y43) hY)]) 3 hH hH hH (fin [(zp25 a0),(zp88 a1),(ab2 a1),(6,aI y15),(7,aB y43),(8,aI y44),(25,aB ((decide (y44<((sll a1).length:Int)))&&(!y43)))] rfl hH ?_)
  rcases zd hm with ⟨h,hm⟩|⟨h,hm⟩
  ·refine c1 h (jd (sq (bq (sq (rgd (shd 2 [(29,aI y44),(28,aR 0 1 (amR a1))] hH ?_))))))
   obtain ⟨x50,h51,hm⟩:=bs hm
   refine dvd 30 (v:=.eptr 0 0 (amR a1) 1 (0+Int.toNat y44) 0) (Q2 y42 .i64 (n:=(ahu a1).length) (id:=0) (esz:=1) t223 t4 h51 hO rfl hH) hH (dvd 31 (v:=aB x50) (abF rB y42 (n:=(ahu a1).length) (esz:=1) (j:=y44) (off:=0) (id:=0) t4 rfl h51 hO hO hH hH) hH (shd 2 [(33,aB (!x50)),(32,aB (!x50))] hH ?_))
   rcases zd hm with ⟨h,hm⟩|⟨h,hm⟩
   ·refine zM [33,32] h hH (shd 2 [(35,aI y15),(34,.pv (ZN a0))] hH ?_)
    obtain ⟨x53,h54,hm⟩:=bs hm
    refine dvd 36 (v:=.pv (.ptr (Z5 x53) 0)) (zS za a0 .i64 t23 t49 h54 (zt x53) rfl hH) hH (shd 3 [(39,aI y44),(38,.pv (ZN a1)),(37,.agg (zc9 x53))] hH ?_)
    obtain ⟨x55,h56,hm⟩:=bs hm
    refine dvd 40 (v:=.pv (.ptr (Z5 x55) 0)) (zS za a1 .i64 t23 t49 h56 (zt x55) rfl hH) hH (shd 1 [(41,.agg (zc9 x55))] hH ?_)
    obtain ⟨x57,h58,hm⟩:=bs hm
    refine dvd 42 (zC hH (aoR h58) hH hH hH) hH (shd 1 [(43,aB x57)] hH (find [(zp25 a0),(zp88 a1),(ab2 a1),(6,aI y15),(7,aB y43),(8,aI y44),(43,aB x57)] rfl hH hH ?_))
    rcases zd hm with ⟨h,hm⟩|⟨h,hm⟩
    ·refine c1 h (sq (rg (s1 2 [(45,aI y44),(44,aR 0 1 (amR a1))] (dv 46 (v:=.eptr 0 0 (amR a1) 1 (0+Int.toNat y44) 0) (Q2 y42 .i64 (n:=(ahu a1).length) (id:=0) (esz:=1) t223 t4 h51 hO rfl hH) hH (dO [] [bR 4 1 rB (y42.set (Int.toNat y44) true) (amR a1) 0] (auS rB y42 true (n:=(ahu a1).length) (esz:=1) (v:=aB true) (j:=y44) (off:=0) (id:=0) t4 rfl h51 hO hO rfl rfl rfl rfl hH) hH (fin [(zp25 a0),(zp88 a1),(ab2 a1),(6,aI y15),(8,aI y44)] rfl hH (dn [(zp25 a0),(zp88 a1),(ab2 a1),(6,aI y15),kR,(8,aI y44)] (dn [(zp25 a0),(zp88 a1),(ab2 a1),(6,aI y15),kR,(zp41 y44)] ?_))))))))
     exact ⟨_,_,Zg [(zp25 a0),(zp88 a1),(ab2 a1),(6,aI y15),kR,(zp41 y44)] [bR 4 1 rB (y42.set (Int.toNat y44) true) (amR a1) 0] hH,⟨(y42.set (Int.toNat y44) true),true,(zN y44),(ahu a1).length,hm,rfl,rfl,hM,hN⟩⟩
    refine c0 h (jd (dn [(zp25 a0),(zp88 a1),(ab2 a1),(6,aI y15),(7,aB y43),(zp41 y44)] ?_))
    exact ⟨_,_,Zg [(zp25 a0),(zp88 a1),(ab2 a1),(6,aI y15),(7,aB y43),(zp41 y44)] [bR 4 1 rB y42 g46 0] hH,⟨y42,y43,(zN y44),g46,hm,rfl,rfl,hM,hN⟩⟩
   refine zM [33,32] h hH (shd 10 [(43,aB false),(42,.undef),(41,.undef),(40,.undef),(39,.undef),(38,.undef),(37,.undef),(36,.undef),(35,.undef),(34,.undef)] hH (find [(zp25 a0),(zp88 a1),(ab2 a1),(6,aI y15),(7,aB y43),(8,aI y44),(43,aB false)] rfl hH hH (cF hH (jd (dn [(zp25 a0),(zp88 a1),(ab2 a1),(6,aI y15),(7,aB y43),(zp41 y44)] ?_)))))
   exact ⟨_,_,Zg [(zp25 a0),(zp88 a1),(ab2 a1),(6,aI y15),(7,aB y43),(zp41 y44)] [bR 4 1 rB y42 g46 0] hH,⟨y42,y43,(zN y44),g46,hm,rfl,rfl,hM,hN⟩⟩
  refine c0 h (je ?_)
  exact ⟨y42,((decide (y44<((sll a1).length:Int)))&&(!y43)),y43,y44,g46,hm,rfl,rfl,hM,hN⟩
 refine c0 h (je ?_)
 exact ⟨y14,(aai y15 a0),y15,g17,hm,rfl,rfl,hM,hN⟩
abbrev ava (p0:Int) (p1:zr):=(p0 !=(IntKind.wrap .u32 ((iShl .u32 1 (IntKind.wrap .u64 ((sll p1.O).length:Int)))-1)))
theorem aln {n:Nat}{a0:zh}{a1:zr}{a2:jn}{r:Int}(hm:ac1 n a0 a1 a2=some r):
   call G n 31 [.agg (zc2 a0),.agg (zc0 a1),.pv (zy a2)] []=some (.ret (aI r),[]):=by
 unfold ac1 at hm
 obtain ⟨n,rfl,h0⟩:=zp hm
 replace hm:=h0;clear h0
 refine zT 94 [(0,.agg (zc2 a0)),(1,.agg (zc0 a1)),(2,.pv (zy a2))] func31 rfl hH (sq (det [(2,.pv (zy a2)),jE,jK] [.box (zc2 a0) false,.box (zc0 a1) false] hH (sq (rg (s1 2 [(zp40 a2),(11,.agg (zc0 a1))] ?_)))))
 obtain ⟨x1,h2,hm⟩:=bs hm
 refine dv 13 (zC hH (an5 h2) hH hH hH) hH (fq 5 [jE,jK,(8,aI x1.2)] ?_)
 refine sq (sq (dn [jE,jK,(8,aI x1.2),(17,aB (x1.2 !=0))] ?_))
 rcases zd hm with ⟨h3,hm⟩|⟨h3,hm⟩
 ·refine c1 h3 (sq (dn [(6,aI x1.2)] (jc ?_)))
  cases hm;exact hJ
 refine c0 h3 (jd ?_)
 refine sq (sq (rg (s1 1 [(19,.agg (zc2 a0))] ?_)))
 obtain ⟨x4,h5,hm⟩:=bs hm
 refine dv 20 (zC hH (amn h5) hH hH hH) hH (fq 1 [jE,jK,(21,aB (!x4))] ?_)
 rcases zd hm with ⟨h6,hm⟩|⟨h6,hm⟩
 ·refine c1 h6 (sq (dn [kh] (jc ?_)))
  cases hm;exact hJ
 refine c0 h6 (jd ?_)
 obtain ⟨k17,hk17,hm⟩:=zo hm
 refine mid (fun t H=>(∃ (y8:Int) (y9:Int) (y10:alF) (y11:alF) (y12:alF) (y13:alF) (y14:jq) (y15:jr) (y16:(Option (List Qv))) (w7:AV),k17 y8 y9 y10 y11 y12 y13 y14 y15 y16=some r∧t=mk 94 [jE,jK,(25,w7)]∧H=[.box (zc23 y8 y9 y10 y11 y12 y13 y14 y15 y16) false,.box (zc0 a1) false])) ?_ ?_
 ·rintro _ _ ⟨y8,y9,y10,y11,y12,y13,y14,y15,y16,w7,hm,rfl,rfl⟩
  subst hk17
  refine sq (sq (rg (s1 3 [(45,aB a1.P),(44,aB a1.P),(43,.ptr 1 2)] ?_)))
  refine segP a1.P [45,44] (fun b=>[(49,aB (b&&(y8 !=5))),(48,ifA b (aB (y8 !=5)) hY),(47,ifA b (aI y8) hY),(46,ifA b (.ptr 0 0) hY)]) 4 hH hH hH (s1 1 [(50,aB (a1.P&&(y8 !=5)))] ?_)
  refine seg (a1.P&&(y8 !=5)) [50,49] (fun b=>[(59,aB (b||((!a1.P)&&(y8 !=6)))),(58,ifA b hY (aB ((!a1.P)&&(y8 !=6)))),(57,ifA b hY (ifA (!a1.P) (aB (y8 !=6)) hY)),(56,ifA b hY (ifA (!a1.P) (aI y8) hY)),(55,ifA b hY (ifA (!a1.P) (.ptr 0 0) hY)),(54,ifA b hY (aB (!a1.P))),(53,ifA b hY (aB (!a1.P))),(52,ifA b hY (aB a1.P)),(51,ifA b hY (.ptr 1 2))]) 17 hH ?_ ?_ ?_
  ·intro Q h
   refine s1 9 [(59,aB true),(58,.undef),(57,.undef),(56,.undef),(55,.undef),(54,.undef),(53,.undef),(52,.undef),(51,.undef)] ?_
   exact Ze hH hH h
  ·intro Q h
   refine s1 4 [(54,aB (!a1.P)),(53,aB (!a1.P)),(52,aB a1.P),(51,.ptr 1 2)] ?_
   refine segP (!a1.P) [54,53] (fun b=>[(58,aB (b&&(y8 !=6))),(57,ifA b (aB (y8 !=6)) hY),(56,ifA b (aI y8) hY),(55,ifA b (.ptr 0 0) hY)]) 4 hH hH hH (s1 1 [(59,aB ((!a1.P)&&(y8 !=6)))] ?_)
   exact Ze hH hH h
  refine s1 1 [(60,aB ((a1.P&&(y8 !=5))||((!a1.P)&&(y8 !=6))))] ?_
  rcases zd hm with ⟨h18,hm⟩|⟨h18,hm⟩
  ·refine known [60,59] h18 hH (fq 5 [jE,jK,(65,aB true)] (cT hH (sq (dn [kh] (jc ?_)))))
   cases hm;exact hJ
  refine known [60,59] h18 hH (s1 2 [(62,.agg (zc0 a1)),(61,.agg (zc23 y8 y9 y10 y11 y12 y13 y14 y15 y16))] ?_)
  obtain ⟨x19,h20,hm⟩:=bs hm
  refine dv 63 (zC hH (aos h20) hH hH hH) hH (fq 2 [jE,jK,(65,aB (!x19))] ?_)
  rcases zd hm with ⟨h21,hm⟩|⟨h21,hm⟩
  ·refine c1 h21 (sq (dn [kh] (jc ?_)))
   cases hm;exact hJ
  refine c0 h21 (jd (sq (rg (s1 2 [(67,.pv (zk zA y16)),(66,.ptr 0 8)] ?_))))
  obtain ⟨x22,h23,hm⟩:=bs hm
  refine dv 68 (v:=.pv (.ptr (acQ x22) 0)) (zS zA y16 .i64 t64 t66 h23 (Zd x22) rfl hH) hH (stf 2 [jE,jK] [.box (zc3 x22) false,.box (zc0 a1) false] hH (sq (rg (s1 2 [(71,.pv (zk rS a1.O)),(70,.ptr 1 0)] (dv 72 (v:=aI (ae0 a1)) (zu rS a1.O t22 hH) hH (fq 1 [jE,jK,(9,aI (ae0 a1))] (sq (sq (rgd (shd 1 [(73,.agg (zc3 x22))] hH ?_))))))))))
  obtain ⟨x24,h25,hm⟩:=bs hm
  refine dvd 74 (zC hH (amU h25) hH hH hH) hH (shd 3 [(77,aB (x24 !=((sll a1.O).length:Int))),(76,aB (x24 !=((sll a1.O).length:Int))),(75,aI (ae0 a1))] hH ?_)
  rcases zd hm with ⟨h26,hm⟩|⟨h26,hm⟩
  ·refine zM [77,76] h26 hH (shd 16 [(93,aB true),(92,.undef),(91,.undef),(90,.undef),(89,.undef),(88,.undef),(87,.undef),(86,aB true),(85,aB true),(84,.undef),(83,.undef),(82,.undef),(81,.undef),(80,.undef),(79,.undef),(78,.undef)] hH (find [(93,aB true)] rfl hH hH (cT hH (sq (dn [kh] (jc ?_))))))
   cases hm;exact hJ
  refine zM [77,76] h26 hH (shd 1 [(78,.agg (zc3 x22))] hH ?_)
  obtain ⟨x27,h28,hm⟩:=bs hm
  refine dvd 79 (zC hH (afC h28) hH hH hH) hH (shd 2 [(81,aU (IntKind.wrap .u64 ((sll a1.O).length:Int))),(80,aI (ae0 a1))] hH ?_)
  obtain ⟨_,h29,hm⟩:=bs hm
  refine dvd 82 (v:=.pv (.int .u32 (iShl .u32 1 (IntKind.wrap .u64 ((sll a1.O).length:Int))))) (shlO h29 hH) hH (shd 4 [(86,aB (ava x27 a1)),(85,aB (ava x27 a1)),(84,aB (ava x27 a1)),(83,.pv (.int .u32 (IntKind.wrap .u32 ((iShl .u32 1 (IntKind.wrap .u64 ((sll a1.O).length:Int)))-1))))] hH ?_)
  rcases zd hm with ⟨h30,hm⟩|⟨h30,hm⟩
  ·refine zM [86,85,84] h30 hH (shd 7 [(93,aB true),(92,.undef),(91,.undef),(90,.undef),(89,.undef),(88,.undef),(87,.undef)] hH (find [(93,aB true)] rfl hH hH (cT hH (sq (dn [kh] (jc ?_))))))
   cases hm;exact hJ
  refine zM [86,85,84] h30 hH (shd 1 [(87,.agg (zc3 x22))] hH ?_)
  obtain ⟨x31,h32,hm⟩:=bs hm
  refine dvd 88 (zC hH (alv h32) hH hH hH) hH (shd 2 [(90,.pv (aiy a1)),(89,.ptr 1 1)] hH ?_)
  obtain ⟨x33,h34,hm⟩:=bs hm
  refine dvd 91 (zC hH (alr h34) hH hH hH) hH (shd 2 [(93,aB (!x33)),(92,aB (!x33))] hH (find [(93,aB (!x33))] rfl hH hH ?_))
  rcases zd hm with ⟨h35,hm⟩|⟨h35,hm⟩
  ·refine c1 h35 (sq (dn [kh] (jc ?_)))
   cases hm;exact hJ
  refine c0 h35 (jd (sq (dn [kf] (jc ?_))))
  cases hm;exact hJ
 refine sq (rg (s1 2 [(23,.pv (aa3 a1)),(22,.ptr 1 5)] (dv 24 (v:=aI (ajB a1)) (zu zx a1.G t25 hH) hH (fq 1 [jE,jK,(25,aB (decide (((sll a1.G).length:Int)>0)))] ?_))))
 rcases zd hm with ⟨h36,hm⟩|⟨h36,hm⟩
 ·refine c1 h36 (sq (sq (rg (s1 4 [(29,aB (a0.A !=7)),(28,aB (a0.A !=7)),(27,aI a0.A),(26,.ptr 0 0)] ?_))))
  rcases zd hm with ⟨h37,hm⟩|⟨h37,hm⟩
  ·refine known [29,28] h37 hH (fq 9 [jE,jK,kB] (cT hH (sq (dn [kh] (jc ?_)))))
   cases hm;exact hJ
  refine known [29,28] h37 hH (s1 6 [(35,.agg [.pv .nils,.pv .nils,aB false,.pv .nils,.pv .nils,.pv (aa3 a1)]),(34,.pv (aa3 a1)),(33,.ptr 1 5),(32,.agg [.pv .nils,.pv .nils,aB false,.pv .nils,.pv .nils,.pv (afK a0)]),(31,.pv (afK a0)),(30,.ptr 0 7)] ?_)
  obtain ⟨x38,h39,hm⟩:=bs hm
  refine dv 36 (zC hH (ajF h39) hH hH hH) hH (fq 2 [jE,jK,(38,aB (!x38))] ?_)
  rcases zd hm with ⟨h40,hm⟩|⟨h40,hm⟩
  ·refine c1 h40 (sq (dn [kh] (jc ?_)))
   cases hm;exact hJ
  refine c0 h40 (jd (rg (s1 2 [(40,.pv (adv a0)),(39,.ptr 0 8)] ?_)))
  obtain ⟨x41,h42,hm⟩:=bs hm
  refine dv 41 (v:=.pv (.ptr (acQ x41) 0)) (zS zA a0.B .i64 t64 t66 h42 (Zd x41) rfl hH) hH (stf 2 [jE,jK] [.box (zc3 x41) false,.box (zc0 a1) false] hH ?_)
  exact ⟨(zj x41).A,(zj x41).C,(zj x41).H,(zj x41).J,(zj x41).L,(zj x41).E,(zj x41).D,(zj x41).G,(zj x41).B,.any,hm,(zD hH),rfl⟩
 refine c0 h36 (jd ?_)
 exact ⟨a0.A,a0.C,a0.H,a0.J,a0.L,a0.E,a0.D,a0.G,a0.B,aB (decide (((sll a1.G).length:Int)>0)),hm,(zD hH),rfl⟩
theorem amg:call G 3999999 32 [] []=some (.ret (aB true),[]):=by kernel_rfl
theorem amN {n:Nat}{r:Bool}(hm:aeW n=some r):
  call G n 32 [] []=some (.ret (aB r),[]):=by
 unfold aeW at hm
 have hn:n=3999999:=by
  cases h:n==3999999 with
  |true=>exact eq_of_beq h
  |false=>rw [h] at hm;cases hm
 subst hn
 have h2:some true=some r:=hm
 obtain rfl:=jf h2
 exact amg
theorem aia {n:Nat}{a0:zh}{a1:zr}{a2:jn}{r:Bool}(hm:aaG n a0 a1 a2=some r):
   call G n 5 [.agg (zc2 a0),.agg (zc0 a1),.pv (zy a2)] []=some (.ret (aB r),[]):=by
 unfold aaG at hm
 obtain ⟨n,rfl,h0⟩:=zp hm
 replace hm:=h0;clear h0
 refine zT 28 [(0,.agg (zc2 a0)),(1,.agg (zc0 a1)),(2,.pv (zy a2))] func5 rfl hH (sq (det [(2,.pv (zy a2)),jE,jK] [.box (zc2 a0) false,.box (zc0 a1) false] hH (sq (rgd (shd 1 [(7,.agg (zc2 a0))] hH ?_)))))
 obtain ⟨x1,h2,hm⟩:=bs hm
 refine dvd 8 (zC hH (anV h2) hH hH hH) hH (shd 1 [(9,aB x1)] hH ?_)
 rcases zd hm with ⟨h,hm⟩|⟨h,hm⟩
 ·refine zM [9,8] h hH (shd 19 [kF,kN,(26,.undef),(25,.undef),(24,.undef),(23,.undef),(22,.undef),(21,.undef),(20,.undef),(19,.undef),(18,.undef),(17,.undef),(16,.undef),(15,.undef),(14,aB true),(13,aB true),(12,.undef),(11,.undef),(10,.undef)] hH (find [kF] rfl hH hH (jc ?_)))
  cases hm;exact hJ
 refine zM [9,8] h hH (shd 2 [(11,.pv (zy a2)),(10,.agg (zc0 a1))] hH ?_)
 obtain ⟨x4,h5,hm⟩:=bs hm
 refine dvd 12 (zC hH (am3 h5) hH hH hH) hH (shd 2 [(14,aB x4),(13,aB x4)] hH ?_)
 rcases zd hm with ⟨h,hm⟩|⟨h,hm⟩
 ·refine zM [14,13,12] h hH (shd 14 [kF,kN,(26,.undef),(25,.undef),(24,.undef),(23,.undef),(22,.undef),(21,.undef),(20,.undef),(19,.undef),(18,.undef),(17,.undef),(16,.undef),(15,.undef)] hH (find [kF] rfl hH hH (jc ?_)))
  cases hm;exact hJ
 refine zM [14,13,12] h hH (shd 3 [(17,.pv (zy a2)),(16,.agg (zc0 a1)),(15,.agg (zc2 a0))] hH ?_)
 obtain ⟨x7,h8,hm⟩:=bs hm
 refine dvd 18 (zC hH (al6 h8) hH hH hH) hH (shd 3 [(21,.pv (zy a2)),(20,.agg (zc0 a1)),(19,.agg (zc2 a0))] hH ?_)
 obtain ⟨x9,h10,hm⟩:=bs hm
 refine dvd 22 (zC hH (aln h10) hH hH hH) hH (shd 2 [(24,aB (x7==x9)),(23,aB (x7==x9))] hH ?_)
 rcases zd hm with ⟨h,hm⟩|⟨h,hm⟩
 ·refine zM [24,23] h hH ?_
  obtain ⟨x12,h13,hm⟩:=bs hm
  refine dvd 25 (zC hH (amN h13) hH hH hH) hH (shd 3 [(6,aB x12),(27,aB x12),(26,aB x12)] hH (find [(6,aB x12)] rfl hH hH (jc ?_)))
  cases hm;exact hJ
 refine zM [24,23] h hH (shd 4 [kE,kG,(26,aB false),(25,.undef)] hH (find [kE] rfl hH hH (jc ?_)))
 cases hm;exact hJ
end Go.Ab.S1
