import Derived.Test.YtejbcaheoloahaaGreatS1
import Derived.Test.YtejbcaheoloahaaGreatPA
noncomputable section
namespace Go.Ab.S1
open Go Go.Ab Go.Pl
open Go.Proofs.Tryz
set_option linter.all false
set_option maxRecDepth 100000
abbrev zp25 (p0:jl):Nat×AV:=(0,.pv (zk za p0))
abbrev zp26 (p0:Int):Nat×AV:=(4,aI (IntKind.wrap .i64 (p0+1)))
abbrev zp27 (p0:Int) (p1:zb):Nat×AV:=(5,aI (IntKind.wrap .i64 (p0+((((zc p1).F).N).size:Int))))
abbrev zp28 (p0:Int) (p1:zb) (p2:Int):Nat×AV:=(5,aI (IntKind.wrap .i64 ((IntKind.wrap .i64 (p0+((((zc p1).F).N).size:Int)))+p2)))
abbrev zp29 (p0:Int):Nat×AV:=(6,aI (IntKind.wrap .i64 (p0+1)))
abbrev ZN (p0:jl):=(zk za p0)
abbrev aaB (p0:jl):=((sll p0).length:Int)
abbrev aai (p0:Int) (p1:jl):=(decide (p0<((sll p1).length:Int)))
abbrev Z5 (p0:zb):=(Z7 (zc p0))
abbrev zN (p0:Int):=(IntKind.wrap .i64 (p0+1))
theorem am9 {rc_ref22_Bulk:(Nat→jl→Int→Option (Int))}(ih_ref22_Bulk:∀ {n:Nat}{a0:jl}{a1:Int}{r:Int}(hm:rc_ref22_Bulk n a0 a1=some r),call G n 98 [.pv (zk za a0),aI a1] []=some (.ret (aI r),[])) {n:Nat}{a0:jl}{a1:Int}{r:Int}(hm:aej rc_ref22_Bulk n a0 a1=some r):
   call G n 98 [.pv (ZN a0),aI a1] []=some (.ret (aI r),[]):=by
 unfold aej at hm
 obtain ⟨n,rfl,h0⟩:=zp hm
 replace hm:=h0;clear h0
 refine zT 61 [(zp25 a0),(1,aI a1)] func98 rfl hH (sq (dn [(zp25 a0),(1,aI a1)] ?_))
 refine sq (sq (rg (s1 1 [(7,.pv (ZN a0))] (dv 8 (v:=aI (aaB a0)) (zu za a0 t23 hH) hH (fq 2 [(zp25 a0),(1,aI a1),(10,aB (decide (((sll a0).length:Int)>a1)))] ?_)))))
 rcases zd hm with ⟨h,hm⟩|⟨h,hm⟩
 ·refine c1 h (sq (dn [(zp26 a1)] (jc ?_)))
  cases hm;exact hJ
 refine c0 h (jd (sq (rg (s1 1 [(13,.pv (ZN a0))] (dv 14 (v:=aI (aaB a0)) (zu za a0 t23 hH) hH (fq 1 [(zp25 a0),(1,aI a1),(5,aI (aaB a0))] ?_))))))
 obtain ⟨k5,hk5,hm⟩:=zo hm
 refine mid (fun t H=>(∃ (y2:Bool) (y3:Int) (y4:Int),k5 y3=some r∧t=mk 61 [(zp25 a0),(1,aI a1),(5,aI y3),(6,aI y4),(23,aB y2)]∧H=[])) ?_ ?_
 ·rintro _ _ ⟨y2,y3,y4,hm,rfl,rfl⟩
  subst hk5
  refine sq (dn [(4,aI y3)] (jc ?_))
  cases hm;exact hJ
 refine sq (dn [(zp25 a0),(1,aI a1),(5,aI (aaB a0)),kf] (bq ?_))
 refine ZR (fun mm t H=>(∃ (y8:Int) (y9:Int),QS n rc_ref22_Bulk a0 a1 k5 mm y8 y9=some r∧t=mk 61 [(zp25 a0),(1,aI a1),(5,aI y8),(6,aI y9)]∧H=[])) (⟨((sll a0).length:Int),0,hm,rfl,rfl⟩) ?_ ?_
 ·
   rintro _ _ ⟨y8,y9,hm,_⟩;exact nomatch hm
 rintro m10 _ _ ⟨y8,y9,hm,rfl,rfl⟩
 simp only [QS] at hm
 refine sq (sq (rg (s1 2 [(16,.pv (ZN a0)),(15,aI y9)] (dv 17 (v:=aI (aaB a0)) (zu za a0 t23 hH) hH (s1 2 [(19,aB (aai y9 a0)),(18,aB (aai y9 a0))] ?_)))))
 refine segP (aai y9 a0) [19,18] (fun b=>[(23,aB (b&&(decide (y8≤a1)))),(22,ifA b (aB (decide (y8≤a1))) hY),(21,ifA b (aI a1) hY),(20,ifA b (aI y8) hY)]) 4 hH hH hH (fin [(zp25 a0),(1,aI a1),(5,aI y8),(6,aI y9),(23,aB ((decide (y9<((sll a0).length:Int)))&&(decide (y8≤a1))))] rfl hH ?_)
 rcases zd hm with ⟨h,hm⟩|⟨h,hm⟩
 ·refine c1 h (jd (sq (bq ?_)))
  refine sq (sq (rg (s1 2 [(27,aI y9),(26,.pv (ZN a0))] ?_)))
  obtain ⟨x12,h13,hm⟩:=bs hm
  refine dv 28 (v:=.pv (.ptr (Z5 x12) 0)) (zS za a0 .i64 t23 t49 h13 (zt x12) rfl hH) hH (fq 6 [(zp25 a0),(1,aI a1),(5,aI y8),(6,aI y9),(34,aB (decide (((((zc x12).F).N).size:Int)>a1)))] ?_)
  rcases zd hm with ⟨h,hm⟩|⟨h,hm⟩
  ·refine c1 h (sq (dn [(zp26 a1)] (jc ?_)))
   cases hm;exact hJ
  refine c0 h (jd (sq (rg (s1 3 [(39,aI y9),(38,.pv (ZN a0)),(37,aI y8)] (dv 40 (v:=.pv (.ptr (Z5 x12) 0)) (zS za a0 .i64 t23 t49 h13 (zt x12) rfl hH) hH (fq 6 [(zp25 a0),(1,aI a1),(zp27 y8 x12),(6,aI y9)] (sq (dn [(zp25 a0),(1,aI a1),(zp27 y8 x12),(6,aI y9),(48,aB (decide ((IntKind.wrap .i64 (y8+((((zc x12).F).N).size:Int)))≤a1)))] ?_))))))))
  rcases zd hm with ⟨h,hm⟩|⟨h,hm⟩
  ·refine c1 h (rg (s1 3 [(51,aI y9),(50,.pv (ZN a0)),(49,aI (IntKind.wrap .i64 (y8+((((zc x12).F).N).size:Int))))] (dv 52 (v:=.pv (.ptr (Z5 x12) 0)) (zS za a0 .i64 t23 t49 h13 (zt x12) rfl hH) hH (s1 5 [(57,aI (IntKind.wrap .i64 (a1-(IntKind.wrap .i64 (y8+((((zc x12).F).N).size:Int)))))),(56,aI (IntKind.wrap .i64 (y8+((((zc x12).F).N).size:Int)))),(55,aI a1),(54,.pv (zk za ((zc x12).B))),(53,.pv (.ptr (Z5 x12) 7))] ?_))))
   obtain ⟨x16,h17,hm⟩:=bs hm
   refine dv 58 (zC hH (ih_ref22_Bulk h17) hH hH hH) hH (fq 2 [(zp25 a0),(1,aI a1),(zp28 y8 x12 x16),(6,aI y9)] (dn [(zp25 a0),(1,aI a1),(zp28 y8 x12 x16),(zp29 y9)] ?_))
   exact ⟨_,_,Zg [(zp25 a0),(1,aI a1),(zp28 y8 x12 x16),(zp29 y9)] [] hH,⟨(IntKind.wrap .i64 ((IntKind.wrap .i64 (y8+((((zc x12).F).N).size:Int)))+x16)),(zN y9),hm,rfl,rfl⟩⟩
  refine c0 h (jd (dn [(zp25 a0),(1,aI a1),(zp27 y8 x12),(zp29 y9)] ?_))
  exact ⟨_,_,Zg [(zp25 a0),(1,aI a1),(zp27 y8 x12),(zp29 y9)] [] hH,⟨(IntKind.wrap .i64 (y8+((((zc x12).F).N).size:Int))),(zN y9),hm,rfl,rfl⟩⟩
 refine c0 h (je ?_)
 exact ⟨((decide (y9<((sll a0).length:Int)))&&(decide (y8≤a1))),y8,y9,hm,rfl,rfl⟩
theorem aiE:∀ (m:Nat),∀ {n:Nat}{a0:jl}{a1:Int}{r:Int}(hm:abm m n a0 a1=some r),call G n 98 [.pv (zk za a0),aI a1] []=some (.ret (aI r),[])
 |0=>by intros;rename_i hm;exact nomatch hm
 |m+1=>fun hm=>
  am9 (aiE m) hm
theorem agx {n:Nat}{a0:jl}{a1:Int}{r:Int}(hm:ado n a0 a1=some r):
 call G n 98 [.pv (ZN a0),aI a1] []=some (.ret (aI r),[]):=aiE n hm
abbrev zc0 (p0:zr):List AV:=[.pv (zk rS p0.O),.pv (zk za p0.H),aB p0.P,.pv (zk za p0.E),.pv (zk zl p0.D),.pv (zk zx p0.G)]
abbrev zc1 (p0:zI):List AV:=[aI p0.Q.A,aI p0.Q.C,aI p0.Q.M,aI p0.Q.F.A,aI p0.Q.F.K,aF p0.Q.F.I,aS p0.Q.F.N,.pv (zk za p0.Q.B)]
abbrev zp30 (p0:zr):Nat×AV:=(5,aI (IntKind.wrap .i64 ((IntKind.wrap .i64 (((sll p0.O).length:Int)+((sll p0.D).length:Int)))+((sll p0.G).length:Int))))
abbrev zp31 (p0:Int) (p1:Int):Nat×AV:=(5,aI (IntKind.wrap .i64 (p0+p1)))
abbrev zp32 (p0:Int):Nat×AV:=(7,aI (IntKind.wrap .i64 (p0+1)))
abbrev ae0 (p0:zr):=((sll p0.O).length:Int)
abbrev anE (p0:zr):=(aI ((sll p0.D).length:Int))
abbrev qM (p0:zr):=(zk zl p0.D)
abbrev afr (p0:zr):=((sll p0.D).length:Int)
abbrev aa3 (p0:zr):=(zk zx p0.G)
abbrev ajB (p0:zr):=((sll p0.G).length:Int)
abbrev agF (p0:Int) (p1:zr):=(decide (p0<((sll p1.D).length:Int)))
abbrev ais (p0:Int) (p1:Int):=(IntKind.wrap .i64 (p0+p1))
abbrev ac4 (p0:zr):=(zk za p0.E)
abbrev aiy (p0:zr):=(zk za p0.H)
abbrev aly (p0:Int) (p1:zr):=(decide (p0<((sll p1.O).length:Int)))
theorem agr {n:Nat}{a0:zr}{a1:Int}{r:Int}(hm:abz n a0 a1=some r):
   call G n 46 [.agg (zc0 a0),aI a1] []=some (.ret (aI r),[]):=by
 unfold abz at hm
 obtain ⟨n,rfl,h0⟩:=zp hm
 replace hm:=h0;clear h0
 refine zT 118 [(0,.agg (zc0 a0)),(1,aI a1)] func46 rfl hH (sq (det [(1,aI a1),jz] [.box (zc0 a0) false] hH ?_))
 refine sq (sq (rg (s1 2 [(9,.pv (zk rS a0.O)),jO] (dv 10 (v:=aI (ae0 a0)) (zu rS a0.O t22 hH) hH (s1 3 [(13,aB (decide (((sll a0.O).length:Int)>a1))),(12,aB (decide (((sll a0.O).length:Int)>a1))),(11,aI a1)] ?_)))))
 refine seg (decide (((sll a0.O).length:Int)>a1)) [13,12] (fun b=>[(19,aB (b||(decide (((sll a0.D).length:Int)>a1)))),(18,ifA b hY (aB (decide (((sll a0.D).length:Int)>a1)))),(17,ifA b hY (aI a1)),(16,ifA b hY (anE a0)),(15,ifA b hY (.pv (qM a0))),(14,ifA b hY (.ptr 0 4))]) 12 hH ?_ ?_ ?_
 ·intro Q h
  refine s1 6 [(19,aB true),(18,.undef),(17,.undef),(16,.undef),(15,.undef),(14,.undef)] ?_
  exact Ze hH hH h
 ·intro Q h
  refine s1 2 [(15,.pv (qM a0)),(14,.ptr 0 4)] (dv 16 (v:=aI (afr a0)) (zu zl a0.D t24 hH) hH (s1 3 [(19,aB (decide (((sll a0.D).length:Int)>a1))),(18,aB (decide (((sll a0.D).length:Int)>a1))),(17,aI a1)] ?_))
  exact Ze hH hH h
 refine s1 1 [(20,aB ((decide (((sll a0.O).length:Int)>a1))||(decide (((sll a0.D).length:Int)>a1))))] ?_
 refine seg ((decide (((sll a0.O).length:Int)>a1))||(decide (((sll a0.D).length:Int)>a1))) [20,19] (fun b=>[(26,aB (b||(decide (((sll a0.G).length:Int)>a1)))),(25,ifA b hY (aB (decide (((sll a0.G).length:Int)>a1)))),(24,ifA b hY (aI a1)),(23,ifA b hY (aI ((sll a0.G).length:Int))),(22,ifA b hY (.pv (aa3 a0))),(21,ifA b hY (.ptr 0 5))]) 19 hH ?_ ?_ ?_
 ·intro Q h
  refine s1 6 [(26,aB true),(25,.undef),(24,.undef),(23,.undef),(22,.undef),(21,.undef)] ?_
  exact Ze hH hH h
 ·intro Q h
  refine s1 2 [(22,.pv (aa3 a0)),(21,.ptr 0 5)] (dv 23 (v:=aI (ajB a0)) (zu zx a0.G t25 hH) hH (s1 3 [(26,aB (decide (((sll a0.G).length:Int)>a1))),(25,aB (decide (((sll a0.G).length:Int)>a1))),(24,aI a1)] ?_))
  exact Ze hH hH h
 refine fin [(1,aI a1),jz,(26,aB (((decide (((sll a0.O).length:Int)>a1))||(decide (((sll a0.D).length:Int)>a1)))||(decide (((sll a0.G).length:Int)>a1))))] rfl hH ?_
 rcases zd hm with ⟨h1,hm⟩|⟨h1,hm⟩
 ·refine c1 h1 (sq (dn [(zp26 a1)] (jc ?_)))
  cases hm;exact hJ
 refine c0 h1 (jd (sq (rg (s1 2 [(30,.pv (zk rS a0.O)),(29,.ptr 0 0)] (dv 31 (v:=aI (ae0 a0)) (zu rS a0.O t22 hH) hH (s1 2 [(33,.pv (qM a0)),(32,.ptr 0 4)] (dv 34 (v:=aI (afr a0)) (zu zl a0.D t24 hH) hH (s1 3 [(37,.pv (aa3 a0)),(36,.ptr 0 5),(35,aI (IntKind.wrap .i64 (((sll a0.O).length:Int)+((sll a0.D).length:Int))))] (dv 38 (v:=aI (ajB a0)) (zu zx a0.G t25 hH) hH (fq 2 [(1,aI a1),jz,(zp30 a0)] ?_))))))))))
 obtain ⟨k5,hk5,hm⟩:=zo hm
 refine mid (fun t H=>(∃ (y2:Bool) (y3:Int) (y4:Int),k5 y3=some r∧t=mk 118 [(1,aI a1),jz,(5,aI y3),(6,aI y4),(44,aB y2)]∧H=[.box (zc0 a0) false])) ?_ ?_
 ·rintro _ _ ⟨y2,y3,y4,hm,rfl,rfl⟩
  subst hk5
  obtain ⟨k8,hk8,hm⟩:=zo hm
  refine mid (fun t H=>(∃ (y7:Int) (w6:AV),k8 y7=some r∧t=mk 118 [(1,aI a1),jz,(5,aI y7),(72,w6)]∧H=[.box (zc0 a0) false])) ?_ ?_
  ·rintro _ _ ⟨y7,w6,hm,rfl,rfl⟩
   subst hk8
   obtain ⟨k11,hk11,hm⟩:=zo hm
   refine mid (fun t H=>(∃ (y10:Int) (w9:AV),k11 y10=some r∧t=mk 118 [(1,aI a1),jz,(5,aI y10),(83,w9)]∧H=[.box (zc0 a0) false])) ?_ ?_
   ·rintro _ _ ⟨y10,w9,hm,rfl,rfl⟩
    subst hk11
    obtain ⟨k15,hk15,hm⟩:=zo hm
    refine mid (fun t H=>(∃ (y12:Bool) (y13:Int) (y14:Int),k15 y13=some r∧t=mk 118 [(1,aI a1),jz,(5,aI y13),(7,aI y14),(101,aB y12)]∧H=[.box (zc0 a0) false])) ?_ ?_
    ·rintro _ _ ⟨y12,y13,y14,hm,rfl,rfl⟩
     subst hk15
     refine sq (dn [(4,aI y13)] (jc ?_))
     cases hm;exact hJ
    refine sq (dn [(1,aI a1),jz,(5,aI y10),kg] (bq ?_))
    refine ZR (fun mm t H=>(∃ (y18:Int) (y19:Int),ZY n a0 a1 k15 mm y18 y19=some r∧t=mk 118 [(1,aI a1),jz,(5,aI y18),(7,aI y19)]∧H=[.box (zc0 a0) false])) (⟨y10,0,hm,rfl,rfl⟩) ?_ ?_
    ·
      rintro _ _ ⟨y18,y19,hm,_⟩;exact nomatch hm
    rintro m20 _ _ ⟨y18,y19,hm,rfl,rfl⟩
    simp only [ZY] at hm
    refine sq (sq (rg (s1 3 [(94,.pv (qM a0)),(93,.ptr 0 4),(92,aI y19)] (dv 95 (v:=aI (afr a0)) (zu zl a0.D t24 hH) hH (s1 2 [(97,aB (agF y19 a0)),(96,aB (agF y19 a0))] ?_)))))
    refine segP (agF y19 a0) [97,96] (fun b=>[(101,aB (b&&(decide (y18≤a1)))),(100,ifA b (aB (decide (y18≤a1))) hY),(99,ifA b (aI a1) hY),(98,ifA b (aI y18) hY)]) 4 hH hH hH (fin [(1,aI a1),jz,(5,aI y18),(7,aI y19),(101,aB ((decide (y19<((sll a0.D).length:Int)))&&(decide (y18≤a1))))] rfl hH ?_)
    rcases zd hm with ⟨h21,hm⟩|⟨h21,hm⟩
    ·refine c1 h21 (jd (sq (bq (rg (s1 4 [(107,aI y19),(106,.pv (qM a0)),(105,.ptr 0 4),(104,aI y18)] ?_)))))
     obtain ⟨x22,h23,hm⟩:=bs hm
     refine dv 108 (v:=.pv (.ptr (zl x22) 0)) (Zz zl a0.D .i64 t24 t101 h23 rfl hH) hH (st 6 [(114,aI (IntKind.wrap .i64 (a1-y18))),(113,aI y18),(112,aI a1),(111,aR 1 8 1),(110,.agg (zc1 x22)),(109,.pv (.ptr (zl x22) 1))] [.box (zc0 a0) false,bR 49 8 za ([(zi x22.Q)]:List zb) 0 0] hH ?_)
     obtain ⟨x24,h25,hm⟩:=bs hm
     refine dO [(115,aI x24)] [.box (zc0 a0) false,bR 49 8 za ([(zi x22.Q)]:List zb) 0 0] (aip [1] [aR 1 8 1,aI (IntKind.wrap .i64 (a1-y18))] (fl:=true) hH hH hH (agx h25) hH hH) hH (fq 2 [(1,aI a1),jz,(zp31 y18 x24),(7,aI y19)] (dn [(1,aI a1),jz,(zp31 y18 x24),(zp32 y19)] ?_))
     exact ⟨_,_,Zg [(1,aI a1),jz,(zp31 y18 x24),(zp32 y19)] [.box (zc0 a0) false] hH,⟨(ais y18 x24),(zN y19),hm,rfl,rfl⟩⟩
    refine c0 h21 (je ?_)
    exact ⟨((decide (y19<((sll a0.D).length:Int)))&&(decide (y18≤a1))),y18,y19,hm,rfl,rfl⟩
   refine sq (dn [(1,aI a1),jz,(5,aI y7),(83,aB (decide (y7≤a1)))] ?_)
   rcases zd hm with ⟨h26,hm⟩|⟨h26,hm⟩
   ·refine c1 h26 (rg (s1 6 [(89,aI (IntKind.wrap .i64 (a1-y7))),(88,aI y7),(87,aI a1),(86,.pv (ac4 a0)),(85,.ptr 0 3),(84,aI y7)] ?_))
    obtain ⟨x27,h28,hm⟩:=bs hm
    refine dv 90 (zC hH (agx h28) hH hH hH) hH (fq 2 [(1,aI a1),jz,(zp31 y7 x27)] ?_)
    exact ⟨(ais y7 x27),.any,hm,(zD hH),rfl⟩
   refine c0 h26 (jd ?_)
   exact ⟨y7,aB (decide (y7≤a1)),hm,(zD hH),rfl⟩
  refine sq (dn [(1,aI a1),jz,(5,aI y3),(72,aB (decide (y3≤a1)))] ?_)
  rcases zd hm with ⟨h29,hm⟩|⟨h29,hm⟩
  ·refine c1 h29 (rg (s1 6 [(78,aI (IntKind.wrap .i64 (a1-y3))),(77,aI y3),(76,aI a1),(75,.pv (aiy a0)),(74,.ptr 0 1),(73,aI y3)] ?_))
   obtain ⟨x30,h31,hm⟩:=bs hm
   refine dv 79 (zC hH (agx h31) hH hH hH) hH (fq 2 [(1,aI a1),jz,(zp31 y3 x30)] ?_)
   exact ⟨(ais y3 x30),.any,hm,(zD hH),rfl⟩
  refine c0 h29 (jd ?_)
  exact ⟨y3,aB (decide (y3≤a1)),hm,(zD hH),rfl⟩
 refine sq (dn [(1,aI a1),jz,(zp30 a0),kf] (bq ?_))
 refine ZR (fun mm t H=>(∃ (y34:Int) (y35:Int),QQ n a0 a1 k5 mm y34 y35=some r∧t=mk 118 [(1,aI a1),jz,(5,aI y34),(6,aI y35)]∧H=[.box (zc0 a0) false])) (⟨(IntKind.wrap .i64 ((IntKind.wrap .i64 (((sll a0.O).length:Int)+((sll a0.D).length:Int)))+((sll a0.G).length:Int))),0,hm,rfl,rfl⟩) ?_ ?_
 ·
   rintro _ _ ⟨y34,y35,hm,_⟩;exact nomatch hm
 rintro m36 _ _ ⟨y34,y35,hm,rfl,rfl⟩
 simp only [QQ] at hm
 refine sq (sq (rg (s1 3 [(42,.pv (zk rS a0.O)),(41,.ptr 0 0),(40,aI y35)] (dv 43 (v:=aI (ae0 a0)) (zu rS a0.O t22 hH) hH (fq 1 [(1,aI a1),jz,(5,aI y34),(6,aI y35),(44,aB (aly y35 a0))] ?_)))))
 rcases zd hm with ⟨h37,hm⟩|⟨h37,hm⟩
 ·refine c1 h37 (jd (sq (bq ?_)))
  refine sq (sq (rg (s1 4 [(50,aB (decide (y34>a1))),(49,aB (decide (y34>a1))),(48,aI a1),(47,aI y34)] ?_)))
  rcases zd hm with ⟨h38,hm⟩|⟨h38,hm⟩
  ·refine known [50,49] h38 hH (fq 9 [(1,aI a1),jz,(5,aI y34),(6,aI y35),(59,aB true)] (cT hH (sq (dn [(zp26 a1)] (jc ?_)))))
   cases hm;exact hJ
  refine known [50,49] h38 hH (s1 3 [(53,aI y35),(52,.pv (zk rS a0.O)),(51,.ptr 0 0)] ?_)
  obtain ⟨x39,h40,hm⟩:=bs hm
  refine dv 54 (v:=.pv (.ptr (rS x39) 0)) (Zz rS a0.O .i64 t22 t9 h40 rfl hH) hH (fq 5 [(1,aI a1),jz,(5,aI y34),(6,aI y35),(59,aB (decide ((x39.size:Int)>a1)))] ?_)
  rcases zd hm with ⟨h41,hm⟩|⟨h41,hm⟩
  ·refine c1 h41 (sq (dn [(zp26 a1)] (jc ?_)))
   cases hm;exact hJ
  refine c0 h41 (jd (rg (s1 4 [(65,aI y35),(64,.pv (zk rS a0.O)),(63,.ptr 0 0),(62,aI y34)] (dv 66 (v:=.pv (.ptr (rS x39) 0)) (Zz rS a0.O .i64 t22 t9 h40 rfl hH) hH (fq 4 [(1,aI a1),jz,(5,aI (IntKind.wrap .i64 (y34+(x39.size:Int)))),(6,aI y35)] (dn [(1,aI a1),jz,(5,aI (IntKind.wrap .i64 (y34+(x39.size:Int)))),(zp29 y35)] ?_))))))
  exact ⟨_,_,Zg [(1,aI a1),jz,(5,aI (IntKind.wrap .i64 (y34+(x39.size:Int)))),(zp29 y35)] [.box (zc0 a0) false] hH,⟨(IntKind.wrap .i64 (y34+(x39.size:Int))),(zN y35),hm,rfl,rfl⟩⟩
 refine c0 h37 (je ?_)
 exact ⟨(aly y35 a0),y34,y35,hm,rfl,rfl⟩
abbrev zc2 (p0:zh):List AV:=[aI p0.A,aI p0.C,.pv (zk za p0.H),.pv (zk za p0.J),.pv (zk za p0.L),.pv (zk za p0.E),.pv (zk zl p0.D),.pv (zk zx p0.G),.pv (zk zA p0.B)]
abbrev zc3 (p0:Qv):List AV:=[aI ((zj p0).A),aI ((zj p0).C),.pv (zk za ((zj p0).H)),.pv (zk za ((zj p0).J)),.pv (zk za ((zj p0).L)),.pv (zk za ((zj p0).E)),.pv (zk zl ((zj p0).D)),.pv (zk zx ((zj p0).G)),.pv (zk zA ((zj p0).B))]
abbrev aiD (p0:zh):=(zk za p0.H)
abbrev akK (p0:zh):=(zk za p0.E)
abbrev afp (p0:zh):=(zk zl p0.D)
abbrev afK (p0:zh):=(zk zx p0.G)
abbrev adv (p0:zh):=(zk zA p0.B)
abbrev ahp (p0:zh):=((sll p0.B).length:Int)
abbrev afm (p0:Int) (p1:zh):=(decide (p0<((sll p1.B).length:Int)))
abbrev acQ (p0:Qv):=(aaM (zj p0))
abbrev aag (p0:zh):=(zk za p0.J)
abbrev aaX (p0:zh):=(zk za p0.L)
theorem anJ {rc_ref25_Bulk:(Nat→zh→Int→Option (Int))}(ih_ref25_Bulk:∀ {n:Nat}{a0:zh}{a1:Int}{r:Int}(hm:rc_ref25_Bulk n a0 a1=some r),call G n 113 [.agg [aI a0.A,aI a0.C,.pv (zk za a0.H),.pv (zk za a0.J),.pv (zk za a0.L),.pv (zk za a0.E),.pv (zk zl a0.D),.pv (zk zx a0.G),.pv (zk zA a0.B)],aI a1] []=some (.ret (aI r),[])) {n:Nat}{a0:zh}{a1:Int}{r:Int}(hm:aem rc_ref25_Bulk n a0 a1=some r):
   call G n 113 [.agg (zc2 a0),aI a1] []=some (.ret (aI r),[]):=by
 unfold aem at hm
 obtain ⟨n,rfl,h0⟩:=zp hm
 replace hm:=h0;clear h0
 refine zT 55 [(0,.agg (zc2 a0)),(1,aI a1)] func113 rfl hH (sq (det [(1,aI a1),jz] [.box (zc2 a0) false] hH (sq (rg (s1 10 [(16,aI a1),(15,.agg [.pv .nils,.pv (aiD a0),aB false,.pv (akK a0),.pv (afp a0),.pv (afK a0)]),(14,.pv (afK a0)),(13,.ptr 0 7),(12,.pv (afp a0)),(11,.ptr 0 6),(10,.pv (akK a0)),(9,.ptr 0 5),(8,.pv (aiD a0)),(7,.ptr 0 2)] ?_)))))
 obtain ⟨x1,h2,hm⟩:=bs hm
 refine dv 17 (zC hH (agr h2) hH hH hH) hH (fq 2 [(1,aI a1),jz,(5,aI (IntKind.wrap .i64 (1+x1)))] ?_)
 obtain ⟨k5,hk5,hm⟩:=zo hm
 refine mid (fun t H=>(∃ (y4:Int) (w3:AV),k5 y4=some r∧t=mk 55 [(1,aI a1),jz,(5,aI y4),(21,w3)]∧H=[.box (zc2 a0) false])) ?_ ?_
 ·rintro _ _ ⟨y4,w3,hm,rfl,rfl⟩
  subst hk5
  obtain ⟨k9,hk9,hm⟩:=zo hm
  refine mid (fun t H=>(∃ (y6:Bool) (y7:Int) (y8:Int),k9 y7=some r∧t=mk 55 [(1,aI a1),jz,(5,aI y7),(6,aI y8),(40,aB y6)]∧H=[.box (zc2 a0) false])) ?_ ?_
  ·rintro _ _ ⟨y6,y7,y8,hm,rfl,rfl⟩
   subst hk9
   refine sq (dn [(4,aI y7)] (jc ?_))
   cases hm;exact hJ
  refine sq (dn [(1,aI a1),jz,(5,aI y4),kf] (bq ?_))
  refine ZR (fun mm t H=>(∃ (y12:Int) (y13:Int),aad n rc_ref25_Bulk a0 a1 k9 mm y12 y13=some r∧t=mk 55 [(1,aI a1),jz,(5,aI y12),(6,aI y13)]∧H=[.box (zc2 a0) false])) (⟨y4,0,hm,rfl,rfl⟩) ?_ ?_
  ·
    rintro _ _ ⟨y12,y13,hm,_⟩;exact nomatch hm
  rintro m14 _ _ ⟨y12,y13,hm,rfl,rfl⟩
  simp only [aad] at hm
  refine sq (sq (rg (s1 3 [(33,.pv (adv a0)),(32,.ptr 0 8),(31,aI y13)] (dv 34 (v:=aI (ahp a0)) (zu zA a0.B t64 hH) hH (s1 2 [(36,aB (afm y13 a0)),(35,aB (afm y13 a0))] ?_)))))
  refine segP (afm y13 a0) [36,35] (fun b=>[(40,aB (b&&(decide (y12≤a1)))),(39,ifA b (aB (decide (y12≤a1))) hY),(38,ifA b (aI a1) hY),(37,ifA b (aI y12) hY)]) 4 hH hH hH (fin [(1,aI a1),jz,(5,aI y12),(6,aI y13),(40,aB ((decide (y13<((sll a0.B).length:Int)))&&(decide (y12≤a1))))] rfl hH ?_)
  rcases zd hm with ⟨h,hm⟩|⟨h,hm⟩
  ·refine c1 h (jd (sq (bq (rg (s1 4 [(46,aI y13),(45,.pv (adv a0)),(44,.ptr 0 8),(43,aI y12)] ?_)))))
   obtain ⟨x16,h17,hm⟩:=bs hm
   refine dv 47 (v:=.pv (.ptr (acQ x16) 0)) (zS zA a0.B .i64 t64 t66 h17 (Zd x16) rfl hH) hH (s1 4 [(51,aI (IntKind.wrap .i64 (a1-y12))),(50,aI y12),(49,aI a1),(48,.agg (zc3 x16))] ?_)
   obtain ⟨x18,h19,hm⟩:=bs hm
   refine dv 52 (zC hH (ih_ref25_Bulk h19) hH hH hH) hH (fq 2 [(1,aI a1),jz,(zp31 y12 x18),(6,aI y13)] (dn [(1,aI a1),jz,(zp31 y12 x18),(zp29 y13)] ?_))
   exact ⟨_,_,Zg [(1,aI a1),jz,(zp31 y12 x18),(zp29 y13)] [.box (zc2 a0) false] hH,⟨(ais y12 x18),(zN y13),hm,rfl,rfl⟩⟩
  refine c0 h (je ?_)
  exact ⟨((decide (y13<((sll a0.B).length:Int)))&&(decide (y12≤a1))),y12,y13,hm,rfl,rfl⟩
 refine sq (dn [(1,aI a1),jz,(5,aI (IntKind.wrap .i64 (1+x1))),(21,aB (decide ((IntKind.wrap .i64 (1+x1))≤a1)))] ?_)
 rcases zd hm with ⟨h,hm⟩|⟨h,hm⟩
 ·refine c1 h (rg (s1 7 [(28,aI a1),(27,.agg [.pv .nils,.pv (aag a0),aB false,.pv (aaX a0),.pv .nils,.pv .nils]),(26,.pv (aaX a0)),(25,.ptr 0 4),(24,.pv (aag a0)),(23,.ptr 0 3),(22,aI (IntKind.wrap .i64 (1+x1)))] ?_))
  obtain ⟨x21,h22,hm⟩:=bs hm
  refine dv 29 (zC hH (agr h22) hH hH hH) hH (fq 2 [(1,aI a1),jz,(5,aI (IntKind.wrap .i64 ((IntKind.wrap .i64 (1+x1))+x21)))] ?_)
  exact ⟨(IntKind.wrap .i64 ((IntKind.wrap .i64 (1+x1))+x21)),.any,hm,(zD hH),rfl⟩
 refine c0 h (jd ?_)
 exact ⟨(IntKind.wrap .i64 (1+x1)),aB (decide ((IntKind.wrap .i64 (1+x1))≤a1)),hm,(zD hH),rfl⟩
theorem ah5:∀ (m:Nat),∀ {n:Nat}{a0:zh}{a1:Int}{r:Int}(hm:abt m n a0 a1=some r),call G n 113 [.agg (zc2 a0),aI a1] []=some (.ret (aI r),[])
 |0=>by intros;rename_i hm;exact nomatch hm
 |m+1=>fun hm=>
  anJ (ah5 m) hm
theorem aok {n:Nat}{a0:zh}{a1:Int}{r:Int}(hm:ajX n a0 a1=some r):
 call G n 113 [.agg (zc2 a0),aI a1] []=some (.ret (aI r),[]):=ah5 n hm
theorem anV {n:Nat}{a0:zh}{r:Bool}(hm:ae2 n a0=some r):
  call G n 29 [.agg (zc2 a0)] []=some (.ret (aB r),[]):=by
 unfold ae2 at hm
 obtain ⟨n,rfl,h0⟩:=zp hm
 replace hm:=h0;clear h0
 refine zT 6 [(0,.agg (zc2 a0))] func29 rfl hH (sq (det [jA] [.box (zc2 a0) false] hH (sq (rg (s1 1 [(3,.agg (zc2 a0))] ?_)))))
 obtain ⟨x1,h2,hm⟩:=bs hm
 refine dv 4 (zC hH (aok h2) hH hH hH) hH (fq 2 [(2,aB (decide (x1>800)))] (jc ?_))
 cases hm;exact hJ
abbrev zc4 (p0:zg):List AV:=[aS p0.T,.pv (zk zU p0.R)]
abbrev zp33 (p0:jn):Nat×AV:=(1,.pv (zk zm p0))
abbrev zp34 (p0:jn):Nat×AV:=(15,.pv (zk zm p0))
abbrev zp35 (p0:jn):Nat×AV:=(16,aI ((sll p0).length:Int))
abbrev zp36 (p0:Int):Nat×AV:=(17,aI (IntKind.wrap .i64 (p0+1)))
abbrev zy (p0:jn):=(zk zm p0)
abbrev anL (p0:zg):=(zk zU p0.R)
theorem am3 {n:Nat}{a0:zr}{a1:jn}{r:Bool}(hm:afa n a0 a1=some r):
   call G n 10 [.agg (zc0 a0),.pv (zy a1)] []=some (.ret (aB r),[]):=by
 unfold afa at hm
 obtain ⟨n,rfl,h0⟩:=zp hm
 replace hm:=h0;clear h0
 refine zT 32 [(0,.agg (zc0 a0)),(zp33 a1)] func10 rfl hH (sq (det [(zp33 a1),jz] [.box (zc0 a0) false] hH ?_))
 refine sq (sq (rg (s1 1 [(7,.agg (zc0 a0))] ?_)))
 obtain ⟨x1,h2,hm⟩:=bs hm
 refine dv 8 (zC hH (agr h2) hH hH hH) hH (s1 2 [(10,aB (decide (x1>500))),(9,aB (decide (x1>500)))] ?_)
 refine seg (decide (x1>500)) [10,9] (fun b=>[(14,aB (b||(decide (((sll a1).length:Int)>40)))),(13,ifA b hY (aB (decide (((sll a1).length:Int)>40)))),(12,ifA b hY (aI ((sll a1).length:Int))),(11,ifA b hY (.pv (zy a1)))]) 8 hH ?_ ?_ ?_
 ·intro Q h
  refine s1 4 [(14,aB true),(13,.undef),(12,.undef),(11,.undef)] ?_
  exact Ze hH hH h
 ·intro Q h
  refine s1 1 [(11,.pv (zy a1))] (dv 12 (v:=aI ((sll a1).length:Int)) (zu zm a1 t28 hH) hH (s1 2 [(14,aB (decide (((sll a1).length:Int)>40))),(13,aB (decide (((sll a1).length:Int)>40)))] ?_))
  exact Ze hH hH h
 refine fin [(zp33 a1),(14,aB ((decide (x1>500))||(decide (((sll a1).length:Int)>40))))] rfl hH ?_
 rcases zd hm with ⟨h3,hm⟩|⟨h3,hm⟩
 ·refine c1 h3 (sq (dn [kx] (jc ?_)))
  cases hm;exact hJ
 refine c0 h3 (jd ?_)
 obtain ⟨k6,hk6,hm⟩:=zo hm
 refine mid (fun t H=>(∃ (y4:Int) (y5:Bool),k6 ()=some r∧t=mk 32 [(zp34 a1),(zp35 a1),(17,aI y4),(18,aB y5)]∧H=[.box (zc0 a0) false])) ?_ ?_
 ·rintro _ _ ⟨y4,y5,hm,rfl,rfl⟩
  subst hk6
  refine sq (dn [kn] (jc ?_))
  cases hm;exact hJ
 refine sq (rg (s1 1 [(zp34 a1)] (dv 16 (v:=aI ((sll a1).length:Int)) (zu zm a1 t28 hH) hH (fq 1 [(zp34 a1),(zp35 a1),(17,aI 0)] (bq ?_)))))
 refine ZR (fun mm t H=>(∃ (y8:Int),aal n a1 k6 mm y8=some r∧t=mk 32 [(zp34 a1),(zp35 a1),(17,aI y8)]∧H=[.box (zc0 a0) false])) (⟨0,hm,rfl,rfl⟩) ?_ ?_
 ·
   rintro _ _ ⟨y8,hm,_⟩;exact nomatch hm
 rintro m9 _ _ ⟨y8,hm,rfl,rfl⟩
 simp only [aal] at hm
 refine sq (dn [(zp34 a1),(zp35 a1),(17,aI y8),(18,aB (decide (y8<((sll a1).length:Int))))] ?_)
 refine sq ?_
 rcases zd hm with ⟨h10,hm⟩|⟨h10,hm⟩
 ·refine c1 h10 (jd (sq (bq (sq (rg ?_)))))
  obtain ⟨x11,h12,hm⟩:=bs hm
  refine dv 19 (v:=.pv (.ptr (zm x11) 0)) (Zz zm a1 .i64 t28 t84 h12 rfl hH) hH (stf 3 [jI,(zp34 a1),(zp35 a1),(17,aI y8)] [.box (zc0 a0) false,.box (zc4 x11) false] hH (sq (rg (s1 2 [(22,.pv (anL x11)),(21,.ptr 1 1)] (dv 23 (v:=aI ((sll x11.R).length:Int)) (zu zU x11.R t82 hH) hH (s1 2 [(25,aB (decide (((sll x11.R).length:Int)>40))),(24,aB (decide (((sll x11.R).length:Int)>40)))] ?_))))))
  refine segP (decide (((sll x11.R).length:Int)>40)) [25,24] (fun b=>[(30,aB (b||(decide ((x11.T.size:Int)>100)))),(29,ifA b hY (aB (decide ((x11.T.size:Int)>100)))),(28,ifA b hY (aI (x11.T.size:Int))),(27,ifA b hY (aS x11.T)),(26,ifA b hY (.ptr 1 0))]) 5 hH hH hH (fin [(zp34 a1),(zp35 a1),(17,aI y8),(30,aB ((decide (((sll x11.R).length:Int)>40))||(decide ((x11.T.size:Int)>100))))] rfl hH ?_)
  rcases zd hm with ⟨h13,hm⟩|⟨h13,hm⟩
  ·refine c1 h13 (sq (dn [kx] (jc ?_)))
   cases hm;exact hJ
  refine c0 h13 (jd (dn [(zp34 a1),(zp35 a1),(zp36 y8)] ?_))
  exact ⟨_,_,Zg [(zp34 a1),(zp35 a1),(zp36 y8)] [.box (zc0 a0) false] hH,⟨(zN y8),hm,rfl,rfl⟩⟩
 refine c0 h10 (je ?_)
 exact ⟨y8,(decide (y8<((sll a1).length:Int))),hm,rfl,rfl⟩
theorem aje {n:Nat}{a0:zg}{a1:ByteArray}{r:Bool}(hm:aew n a0 a1=some r):
  call G n 137 [.agg (zc4 a0),.pv (.ptr [.str a1] 0)] []=some (.ret (aB r),[]):=by
 unfold aew at hm
 obtain ⟨n,rfl,h0⟩:=zp hm
 replace hm:=h0;clear h0
 refine zT 8 [(0,.agg (zc4 a0)),(1,.pv (.ptr [.str a1] 0))] func137 rfl hH (sq (det [(1,.pv (.ptr [.str a1] 0)),jz] [.box (zc4 a0) false] hH (sq (dn [(3,aB (sEq a0.T a1))] (jc ?_)))))
 cases hm;exact hJ
abbrev zp37 (p0:jn):Nat×AV:=(0,.pv (zk zm p0))
abbrev zp38 (p0:ByteArray):Nat×AV:=(1,.pv (.fn 137 [] [.ptr [.str p0] 0]))
abbrev zp39 (p0:jn):Nat×AV:=(7,aI ((sll p0).length:Int))
abbrev zp40 (p0:jn):Nat×AV:=(12,.pv (zk zm p0))
abbrev zp41 (p0:Int):Nat×AV:=(8,aI (IntKind.wrap .i64 (p0+1)))
theorem Qy {n:Nat}{a0:jn}{a1:ByteArray}{r:Int}(hm:Zs n a0 a1=some r):
   call G n 136 [.pv (zy a0),.pv (.fn 137 [] [.ptr [.str a1] 0])] []=some (.ret (aI r),[]):=by
 unfold Zs at hm
 obtain ⟨n,rfl,h0⟩:=zp hm
 replace hm:=h0;clear h0
 refine zT 19 [(zp37 a0),(zp38 a1)] func136 rfl hH (sq (dn [(zp37 a0),(zp38 a1)] ?_))
 obtain ⟨k3,hk3,hm⟩:=zo hm
 refine mid (fun t H=>(∃ (y1:Int) (y2:Bool),k3 ()=some r∧t=mk 19 [(zp37 a0),(zp38 a1),(zp39 a0),(8,aI y1),(9,aB y2)]∧H=[])) ?_ ?_
 ·rintro _ _ ⟨y1,y2,hm,rfl,rfl⟩
  subst hk3
  refine sq (dn [(4,aI (-1))] (jc ?_))
  cases hm;exact hJ
 refine sq (rg (s1 1 [(6,.pv (zy a0))] (dv 7 (v:=aI ((sll a0).length:Int)) (zu zm a0 t28 hH) hH (fq 1 [(zp37 a0),(zp38 a1),(zp39 a0),ke] (bq ?_)))))
 refine ZR (fun mm t H=>(∃ (y5:Int),zX n a0 a1 k3 mm y5=some r∧t=mk 19 [(zp37 a0),(zp38 a1),(zp39 a0),(8,aI y5)]∧H=[])) (⟨0,hm,rfl,rfl⟩) ?_ ?_
 ·
   rintro _ _ ⟨y5,hm,_⟩;exact nomatch hm
 rintro m6 _ _ ⟨y5,hm,rfl,rfl⟩
 simp only [zX] at hm
 refine sq (dn [(zp37 a0),(zp38 a1),(zp39 a0),(8,aI y5),(9,aB (decide (y5<((sll a0).length:Int))))] ?_)
 refine sq ?_
 rcases zd hm with ⟨h,hm⟩|⟨h,hm⟩
 ·refine c1 h (jd (sq (bq (sq (dn [(zp37 a0),(zp38 a1),(5,aI y5),(zp39 a0),(8,aI y5)] (sq (rg (s1 3 [(13,aI y5),(zp40 a0),(11,.pv (.fn 137 [] [.ptr [.str a1] 0]))] ?_))))))))
  obtain ⟨x8,h9,hm⟩:=bs hm
  refine dv 14 (v:=.pv (.ptr (zm x8) 0)) (Zz zm a0 .i64 t28 t84 h9 rfl hH) hH (s1 1 [(15,.agg (zc4 x8))] ?_)
  obtain ⟨x10,h11,hm⟩:=bs hm
  refine dv 16 (zC hH (aje h11) hH hH hH) hH (fin [(zp37 a0),(zp38 a1),(5,aI y5),(zp39 a0),(8,aI y5),(16,aB x10)] rfl hH ?_)
  rcases zd hm with ⟨h,hm⟩|⟨h,hm⟩
  ·refine c1 h (sq (dn [(4,aI y5)] (jc ?_)))
   cases hm;exact hJ
  refine c0 h (jd (dn [(zp37 a0),(zp38 a1),(zp39 a0),(zp41 y5)] ?_))
  exact ⟨_,_,Zg [(zp37 a0),(zp38 a1),(zp39 a0),(zp41 y5)] [] hH,⟨(zN y5),hm,rfl,rfl⟩⟩
 refine c0 h (je ?_)
 exact ⟨y5,(decide (y5<((sll a0).length:Int))),hm,rfl,rfl⟩
theorem aeh {n:Nat}{a0:(Option (List Z6))}{r:(Option (List Z6))}(hm:QB n a0=some r):
   call G n 138 [.pv (zk zU a0)] []=some (.ret (.pv (zk zU r)),[]):=by
 unfold QB at hm
 obtain ⟨n,rfl,h0⟩:=zp hm
 replace hm:=h0;clear h0
 refine zT 8 [(0,.pv (zk zU a0))] func138 rfl hH (sq (dn [(0,.pv (zk zU a0))] (sq (sq (rg (s1 1 [(3,.pv (zk zU a0))] (dv 4 (v:=aB (a0.isNone)) (aq4 zU a0 t82 hH) hH (fin [(0,.pv (zk zU a0)),(4,aB (a0.isNone))] rfl hH ?_))))))))
 rcases zd hm with ⟨h,hm⟩|⟨h,hm⟩
 ·refine c1 h (sq (dn [j7] (jc ?_)))
  cases hm;exact hJ
 refine c0 h (jd (sq (rg (st 2 [(6,.pv (zk zU a0)),(5,aR 0 2 0)] [bR 81 2 zU ([]:List Z6) 0 0] hH ?_))))
 rcases zd hm with ⟨h,hm⟩|⟨h,hm⟩
 ·obtain ⟨_,h3,hm⟩:=bs hm
  refine dv 7 (v:=aR 0 2 0) (ai4 (u:=0) (y:=.pv (zk zU a0)) (n:=0) (id:=0) zU ([]:List Z6) (sll a0) (b:=24) t82 t81 rfl rfl rfl h h3 rfl hM (Nat.zero_le _) (afh (R:=zU) (s:=a0)) hH) hH (fq 1 [(2,aR 0 2 0)] (jc ?_))
  obtain rfl:=jf hm
  exact aa2 (v:=aR 0 2 0) trivial rfl hH hH
 obtain ⟨_,h4,hm⟩:=bs hm
 refine dO [(7,aR 0 2 ((([]:List Z6)++(sll a0)).length))] [bR 81 2 zU (([]:List Z6)++(sll a0)) 0 0] (qV (u:=0) (n:=0) (id:=0) zU ([]:List Z6) (sll a0) (b:=24) t82 t81 rfl rfl rfl (fun _=>rfl) h h4 rfl hM (Nat.zero_le _) (afh (R:=zU) (s:=a0)) hH) hH (fq 1 [(2,aR 0 2 ((([]:List Z6)++(sll a0)).length))] (jc ?_))
 obtain rfl:=jf hm
 exact aa2 (v:=aR 0 2 ((([]:List Z6)++(sll a0)).length)) trivial rfl hH (afi (abI (n:=(([]:List Z6)++(sll a0)).length) (id:=0) (l:=(([]:List Z6)++(sll a0))) (R:=zU) rfl rfl (Nat.zero_le _)))
abbrev aiK (p0:ByteArray) (p1:(Option (List Z6))):=([(zg.mk p0 p1)]:List zg)
theorem agh {n:Nat}{a0:jn}{a1:ByteArray}{r:jn}(hm:acA n a0 a1=some r):
   ∃ vv H1,call G n 135 [aS a1,.ptr 0 0,.ptr 1 0] [.box [.pv (zy a0)] false,jy]=some (.ret vv,H1)∧(match (generalizing:=false) r with|none=>(vv=aI 40∧H1=[.box [.pv (zy a0)] false,jy])|some r0=>(vv=aI 0∧H1=[.box [.pv (zy a0)] false,.box [aR 2 2 r0.length] false,bR 84 2 zm r0 0 0])):=by
 unfold acA at hm
 obtain ⟨n,rfl,h0⟩:=zp hm
 replace hm:=h0;clear h0
 refine QM 22 [(0,aS a1),jA,jB] func135 rfl hH (sq (det [jA,jB,jF] [.box [.pv (zy a0)] false,jy,.box [aS a1] false] hH (sq (rg (s1 2 [(7,.fn 137 [] [.ptr 2 0]),(6,.pv (zy a0))] ?_)))))
 obtain ⟨x1,h2,hm⟩:=bs hm
 refine dO [(8,aI x1)] [.box [.pv (zy a0)] false,jy,.box [aS a1] false] (aip [2] [.pv (zy a0),.fn 137 [] [.ptr 2 0]] (fl:=true) hH hH hH (Qy h2) hH hH) hH (fq 1 [jA,jB,jF,(5,aI x1)] ?_)
 refine sq (sq (dn [jA,jB,jF,(5,aI x1),(10,aB (decide (x1<0)))] ?_))
 rcases zd hm with ⟨h,hm⟩|⟨h,hm⟩
 ·refine c1 h (sq (dn [(4,aI 40)] (jc ?_)))
  obtain rfl:=jf hm
  exact ⟨trivial,aI 40,[.box [.pv (zy a0)] false,jy],hH,rfl,rfl⟩
 refine c0 h (jd (sq (rgd (shd 4 [(14,aI x1),(13,.pv (zy a0)),(12,aS a1),j4] hH ?_))))
 obtain ⟨x4,h5,hm⟩:=bs hm
 refine dvd 15 (v:=.pv (.ptr (zm x4) 0)) (Zz zm a0 .i64 t28 t84 h5 rfl hH) hH (shd 2 [(17,.pv (anL x4)),(16,.pv (.ptr (zm x4) 1))] hH ?_)
 obtain ⟨x6,h7,hm⟩:=bs hm
 refine dvd 18 (zC hH (aeh h7) hH hH hH) hH (std 2 [(20,aR 3 2 1),(19,.agg [aS a1,.pv (zk zU x6)])] [.box [.pv (zy a0)] false,jy,.box [aS a1] false,bR 84 2 zm (aiK a1 x6) 0 0] hH ?_)
 obtain ⟨_,h8,hm⟩:=bs hm
 refine dOd [(21,aR 4 2 (([(zg.mk a1 x6)]:List zg).length))] [.box [.pv (zy a0)] false,jy,.box [aS a1] false,bR 84 2 zm (aiK a1 x6) 0 0,bR 84 2 zm (aiK a1 x6) 0 0] (aa6 (u:=0) zm (aiK a1 x6) (b:=40) t28 t84 rfl rfl rfl (fun _=>rfl) rfl h8 (show Zm (aR 3 2 1) _=some (([(zg.mk a1 x6)]:List zg).map zm) from by kernel_rfl) hH) hH (std 1 [] [.box [.pv (zy a0)] false,.box [aR 4 2 (([(zg.mk a1 x6)]:List zg).length)] false,.box [aS a1] false,bR 84 2 zm (aiK a1 x6) 0 0,bR 84 2 zm (aiK a1 x6) 0 0] hH (find [] rfl hH hH (sq (dn [j8] (jc ?_)))))
 obtain rfl:=jf hm
 exact ⟨trivial,aI 0,[.box [.pv (zy a0)] false,.box [aR 2 2 (([(zg.mk a1 x6)]:List zg).length)] false,bR 84 2 zm (aiK a1 x6) 0 0],hH,rfl,rfl⟩
theorem ajc (m2:Nat) (f2:Nat) {n:Nat}{a0:jo}{a1:jn}{a2:ByteArray}{r:jo×Int}(hm2:a0.length=m2) (hf2:f2≤a0.length) (hm:abc n a0 a1 a2=some r):
   ∃ vv H1,call G n 135 [aS a2,.ptr 0 0,.ptr 1 0] [.box [.pv (zy a1)] false,.box [aR 2 2 m2] false,bR 84 2 zm a0 f2 0]=some (.ret vv,H1)∧(match (generalizing:=false) r with|(r0,r1)=>(∃ (e2:Nat) (e3:Nat),r0.length=e2∧e3≤r0.length∧vv=aI r1∧H1=[.box [.pv (zy a1)] false,.box [aR 2 2 e2] false,bR 84 2 zm r0 e3 0])):=by
 unfold abc at hm
 obtain ⟨n,rfl,h0⟩:=zp hm
 replace hm:=h0;clear h0
 refine QM 22 [(0,aS a2),jA,jB] func135 rfl hH (sq (det [jA,jB,jG] [.box [.pv (zy a1)] false,.box [aR 2 2 m2] false,bR 84 2 zm a0 f2 0,.box [aS a2] false] hH (sq (rg (s1 2 [(7,.fn 137 [] [.ptr 3 0]),(6,.pv (zy a1))] ?_)))))
 obtain ⟨x1,h2,hm⟩:=bs hm
 refine dO [(8,aI x1)] [.box [.pv (zy a1)] false,.box [aR 2 2 m2] false,bR 84 2 zm a0 f2 0,.box [aS a2] false] (aip [3] [.pv (zy a1),.fn 137 [] [.ptr 3 0]] (fl:=true) hH hH hH (Qy h2) hH hH) hH (fq 1 [jA,jB,jG,(5,aI x1)] ?_)
 refine sq (sq (dn [jA,jB,jG,(5,aI x1),(10,aB (decide (x1<0)))] ?_))
 rcases zd hm with ⟨h,hm⟩|⟨h,hm⟩
 ·refine c1 h (sq (dn [(4,aI 40)] (jc ?_)))
  obtain rfl:=jf hm
  exact ⟨trivial,aI 40,[.box [.pv (zy a1)] false,.box [aR 2 2 m2] false,bR 84 2 zm a0 f2 0],hH,m2,f2,hM,hN,rfl,rfl⟩
 refine c0 h (jd (sq (rgd (shd 4 [(14,aI x1),(13,.pv (zy a1)),(12,aS a2),(11,aR 2 2 m2)] hH ?_))))
 obtain ⟨x4,h5,hm⟩:=bs hm
 refine dvd 15 (v:=.pv (.ptr (zm x4) 0)) (Zz zm a1 .i64 t28 t84 h5 rfl hH) hH (shd 2 [(17,.pv (anL x4)),(16,.pv (.ptr (zm x4) 1))] hH ?_)
 obtain ⟨x6,h7,hm⟩:=bs hm
 refine dvd 18 (zC hH (aeh h7) hH hH hH) hH (std 2 [(20,aR 4 2 1),(19,.agg [aS a2,.pv (zk zU x6)])] [.box [.pv (zy a1)] false,.box [aR 2 2 m2] false,bR 84 2 zm a0 f2 0,.box [aS a2] false,bR 84 2 zm (aiK a2 x6) 0 0] hH ?_)
 obtain ⟨_,h8,hm⟩:=bs hm
 refine dOd [(21,aR 2 2 ((a0++([(zg.mk a2 x6)]:List zg)).length))] [.box [.pv (zy a1)] false,.box [aR 2 2 m2] false,bR 84 2 zm (a0++([(zg.mk a2 x6)]:List zg)) f2 0,.box [aS a2] false,bR 84 2 zm (aiK a2 x6) 0 0] (qV (u:=0) (n:=m2) (id:=2) zm a0 (aiK a2 x6) (b:=40) t28 t84 rfl rfl rfl (fun _=>rfl) rfl h8 rfl hO hO (show Zm (aR 4 2 1) _=some (([(zg.mk a2 x6)]:List zg).map zm) from by kernel_rfl) hH) hH (std 1 [] [.box [.pv (zy a1)] false,.box [aR 2 2 ((a0++([(zg.mk a2 x6)]:List zg)).length)] false,bR 84 2 zm (a0++([(zg.mk a2 x6)]:List zg)) f2 0,.box [aS a2] false,bR 84 2 zm (aiK a2 x6) 0 0] hH (find [] rfl hH hH (sq (dn [j8] (jc ?_)))))
 obtain rfl:=jf hm
 exact ⟨trivial,aI 0,[.box [.pv (zy a1)] false,.box [aR 2 2 ((a0++([(zg.mk a2 x6)]:List zg)).length)] false,bR 84 2 zm (a0++([(zg.mk a2 x6)]:List zg)) f2 0],hH,(a0++([(zg.mk a2 x6)]:List zg)).length,f2,hM,hN,rfl,rfl⟩
abbrev zp42:Nat×AV:=(1,.fn 135 [] [.ptr 0 0,.ptr 1 0])
abbrev zp43 (p0:(Option (List ByteArray))):Nat×AV:=(8,.pv (zk rS p0))
abbrev zp44 (p0:(Option (List ByteArray))):Nat×AV:=(9,aI ((sll p0).length:Int))
abbrev zp45 (p0:Int):Nat×AV:=(10,aI (IntKind.wrap .i64 (p0+1)))
theorem aah {n:Nat}{a0:jn}{a1:(Option (List ByteArray))}{r:jn×Int}(hm:qa n a0 a1=some r):
   ∃ vv H1,call G n 134 [.pv (zk rS a1),.fn 135 [] [.ptr 0 0,.ptr 1 0]] [.box [.pv (zy a0)] false,jy]=some (.ret vv,H1)∧(match (generalizing:=false) r with|(none,r0)=>(vv=aI r0∧H1=[.box [.pv (zy a0)] false,jy])|(some r1,r0)=>(∃ (e2:Nat) (e3:Nat),r1.length=e2∧e3≤r1.length∧vv=aI r0∧H1=[.box [.pv (zy a0)] false,.box [aR 2 2 e2] false,bR 84 2 zm r1 e3 0])):=by
 unfold qa at hm
 obtain ⟨n,rfl,h0⟩:=zp hm
 replace hm:=h0;clear h0
 refine QM 21 [(0,.pv (zk rS a1)),zp42] func134 rfl hH (sq (dn [(0,.pv (zk rS a1)),zp42] ?_))
 obtain ⟨k8,hk8,hm⟩:=zo hm
 refine mid (fun t H=>(∃ (w1:AV) (w2:AV),k8 none=some r∧t=mk 21 [zp42,(zp43 a1),(zp44 a1),(10,w1),(11,w2)]∧H=[.box [.pv (zy a0)] false,jy])∨(∃ (y3:jo) (w1:AV) (w2:AV) (g4:Nat) (g6:Nat),k8 (some y3)=some r∧t=mk 21 [zp42,(zp43 a1),(zp44 a1),(10,w1),(11,w2)]∧H=[.box [.pv (zy a0)] false,.box [aR 2 2 g4] false,bR 84 2 zm y3 g6 0]∧y3.length=g4∧g6≤y3.length)) ?_ ?_
 ·rintro _ _ (⟨w1,w2,hm,rfl,rfl⟩|⟨y3,w1,w2,g4,g6,hm,rfl,rfl,q5,q7⟩)
  ·subst hk8
   refine sq (dn [j8] (jc ?_))
   obtain rfl:=jf hm
   exact ⟨trivial,aI 0,[.box [.pv (zy a0)] false,jy],hH,rfl,rfl⟩
  subst hk8
  refine sq (dn [j8] (jc ?_))
  obtain rfl:=jf hm
  exact ⟨trivial,aI 0,[.box [.pv (zy a0)] false,.box [aR 2 2 g4] false,bR 84 2 zm y3 g6 0],hH,g4,g6,hM,hN,rfl,rfl⟩
 refine sq (rg (s1 1 [(zp43 a1)] (dv 9 (v:=aI ((sll a1).length:Int)) (zu rS a1 t22 hH) hH (fq 1 [zp42,(zp43 a1),(zp44 a1),(10,aI 0)] (bq ?_)))))
 refine ZR (fun mm t H=>(∃ (y17:Int),zE n a0 a1 k8 mm none y17=some r∧t=mk 21 [zp42,(zp43 a1),(zp44 a1),(10,aI y17)]∧H=[.box [.pv (zk zm a0)] false,jy])∨(∃ (y16:jo) (y17:Int) (g18:Nat) (g20:Nat),zE n a0 a1 k8 mm (some y16) y17=some r∧t=mk 21 [zp42,(zp43 a1),(zp44 a1),(10,aI y17)]∧H=[.box [.pv (zk zm a0)] false,.box [aR 2 2 g18] false,bR 84 2 zm y16 g20 0]∧y16.length=g18∧g20≤y16.length)) (.inl ⟨0,hm,rfl,rfl⟩) ?_ ?_
 ·
   rintro _ _ (⟨y17,hm,_⟩|⟨y16,y17,g18,g20,hm,_⟩)<;>exact nomatch hm
 rintro m22 _ _ (⟨y17,hm,rfl,rfl⟩|⟨y16,y17,g18,g20,hm,rfl,rfl,q19,q21⟩)
 ·simp only [zE] at hm
  refine sq (dn [zp42,(zp43 a1),(zp44 a1),(10,aI y17),(11,aB (decide (y17<((sll a1).length:Int))))] ?_)
  refine sq ?_
  rcases zd hm with ⟨h,hm⟩|⟨h,hm⟩
  ·refine c1 h (jd (sq (bq (sq (rg ?_)))))
   obtain ⟨x24,h25,hm⟩:=bs hm
   refine dv 12 (v:=.pv (.ptr (rS x24) 0)) (Zz rS a1 .i64 t22 t9 h25 rfl hH) hH (fq 2 [zp42,(6,aS x24),(zp43 a1),(zp44 a1),(10,aI y17)] (sq (rg (s1 2 [(15,aS x24),(14,.fn 135 [] [.ptr 0 0,.ptr 1 0])] ?_))))
   obtain ⟨x28,h26,hm⟩:=bs hm
   rcases x28 with _|x27
   ·obtain ⟨vv,H1,hC,rfl,rfl⟩:=agh h26
    refine dR [(16,aI 40)] [.box [.pv (zy a0)] false,jy] [0,1] [aS x24,.ptr 0 0,.ptr 1 0] hH hH hH hC hH (fq 1 [zp42,(7,aI 40),(zp43 a1),(zp44 a1),(10,aI y17)] (sq (dn [zp42,(7,aI 40),(zp43 a1),(zp44 a1),(10,aI y17),(18,aB true)] (cT hH (sq (dn [(4,aI 40)] (jc ?_)))))))
    obtain rfl:=jf hm
    exact ⟨trivial,aI 40,[.box [.pv (zy a0)] false,jy],hH,rfl,rfl⟩
   obtain ⟨vv,H1,hC,rfl,rfl⟩:=agh h26
   refine dR [(16,aI 0)] [.box [.pv (zy a0)] false,.box [aR 2 2 x27.length] false,bR 84 2 zm x27 0 0] [0,1] [aS x24,.ptr 0 0,.ptr 1 0] hH hH hH hC hH (fq 1 [zp42,kg,(zp43 a1),(zp44 a1),(10,aI y17)] (sq (dn [zp42,kg,(zp43 a1),(zp44 a1),(10,aI y17),(18,aB false)] (cF hH (jd (dn [zp42,(zp43 a1),(zp44 a1),(zp45 y17)] ?_))))))
   exact ⟨_,_,Zg [zp42,(zp43 a1),(zp44 a1),(zp45 y17)] [.box [.pv (zy a0)] false,.box [aR 2 2 x27.length] false,bR 84 2 zm x27 0 0] hH,.inr (⟨x27,(zN y17),x27.length,0,hm,rfl,rfl,hM,hN⟩)⟩
  refine c0 h (je ?_)
  exact .inl ⟨aI y17,aB (decide (y17<((sll a1).length:Int))),hm,(zD hH),rfl⟩
 simp only [zE] at hm
 refine sq (dn [zp42,(zp43 a1),(zp44 a1),(10,aI y17),(11,aB (decide (y17<((sll a1).length:Int))))] ?_)
 refine sq ?_
 rcases zd hm with ⟨h,hm⟩|⟨h,hm⟩
 ·refine c1 h (jd (sq (bq (sq (rg ?_)))))
  obtain ⟨x30,h31,hm⟩:=bs hm
  refine dv 12 (v:=.pv (.ptr (rS x30) 0)) (Zz rS a1 .i64 t22 t9 h31 rfl hH) hH (fq 2 [zp42,(6,aS x30),(zp43 a1),(zp44 a1),(10,aI y17)] (sq (rg (s1 2 [(15,aS x30),(14,.fn 135 [] [.ptr 0 0,.ptr 1 0])] ?_))))
  obtain ⟨⟨x33,x34⟩,h32,hm⟩:=bs hm
  obtain ⟨vv,H1,hC,g35,g36,q37,q38,rfl,rfl⟩:=ajc g18 g20 hM hN h32
  refine dR [(16,aI x34)] [.box [.pv (zy a0)] false,.box [aR 2 2 g35] false,bR 84 2 zm x33 g36 0] [0,1,2] [aS x30,.ptr 0 0,.ptr 1 0] hH hH hH hC hH (fq 1 [zp42,(7,aI x34),(zp43 a1),(zp44 a1),(10,aI y17)] (sq (dn [zp42,(7,aI x34),(zp43 a1),(zp44 a1),(10,aI y17),(18,aB (x34 !=0))] ?_)))
  rcases zd hm with ⟨h,hm⟩|⟨h,hm⟩
  ·refine c1 h (sq (dn [(4,aI x34)] (jc ?_)))
   obtain rfl:=jf hm
   exact ⟨trivial,aI x34,[.box [.pv (zy a0)] false,.box [aR 2 2 g35] false,bR 84 2 zm x33 g36 0],hH,g35,g36,hM,hN,rfl,rfl⟩
  refine c0 h (jd (dn [zp42,(zp43 a1),(zp44 a1),(zp45 y17)] ?_))
  exact ⟨_,_,Zg [zp42,(zp43 a1),(zp44 a1),(zp45 y17)] [.box [.pv (zy a0)] false,.box [aR 2 2 g35] false,bR 84 2 zm x33 g36 0] hH,.inr (⟨x33,(zN y17),g35,g36,hm,rfl,rfl,hM,hN⟩)⟩
 refine c0 h (je ?_)
 exact .inr (⟨y16,aI y17,aB (decide (y17<((sll a1).length:Int))),g18,g20,hm,(zD hH),rfl,hM,hN⟩)
theorem amd {n:Nat}{a0:zr}{a1:jn}{r:jn×Int}(hm:ad8 n a0 a1=some r):
   call G n 47 [.agg (zc0 a0),.pv (zy a1)] []=some (.ret (.tup [.pv (zk zm r.1),aI r.2]),[]):=by
 unfold ad8 at hm
 obtain ⟨n,rfl,h0⟩:=zp hm
 replace hm:=h0;clear h0
 refine zT 26 [(0,.agg (zc0 a0)),(zp33 a1)] func47 rfl hH (sq (det [jz,jC] [.box (zc0 a0) false,.box [.pv (zy a1)] false] hH ?_))
 refine sq (bq (sq (rg (s1 2 [(10,.pv (zk rS a0.O)),(9,.ptr 0 0)] (dv 11 (v:=aI (ae0 a0)) (zu rS a0.O t22 hH) hH (fq 2 [jz,jC,(8,aB (decide (((sll a0.O).length:Int)>12)))] ?_))))))
 rcases zd hm with ⟨h,hm⟩|⟨h,hm⟩
 ·refine c1 h (sq (dn [j2,(5,aI 51)] (jc ?_)))
  cases hm;exact hJ
 refine c0 h (sq (rg (s1 2 [(15,.pv (zk rS a0.O)),(14,.ptr 0 0)] (dv 16 (v:=aI (ae0 a0)) (zu rS a0.O t22 hH) hH (fq 2 [jz,jC,(13,aB (((sll a0.O).length:Int)==0))] ?_)))))
 rcases zd hm with ⟨h,hm⟩|⟨h,hm⟩
 ·refine c1 h (sq (dn [j2,(5,aI 2)] (jc ?_)))
  cases hm;exact hJ
 refine c0 h (jd (sq (det [jz,jC,jL] [.box (zc0 a0) false,.box [.pv (zy a1)] false,jy] hH ?_)))
 obtain ⟨k9,hk9,hm⟩:=zo hm
 refine mid (fun t H=>(∃ (y4:Int),k9 none y4=some r∧t=mk 26 [jL,(7,aI y4)]∧H=[.box (zc0 a0) false,.box [.pv (zy a1)] false,jy])∨(∃ (y3:jo) (y4:Int) (g5:Nat) (g7:Nat),k9 (some y3) y4=some r∧t=mk 26 [jL,(7,aI y4)]∧H=[.box (zc0 a0) false,.box [.pv (zy a1)] false,.box [aR 3 2 g5] false,bR 84 2 zm y3 g7 0]∧y3.length=g5∧g7≤y3.length)) ?_ ?_
 ·rintro _ _ (⟨y4,hm,rfl,rfl⟩|⟨y3,y4,g5,g7,hm,rfl,rfl,q6,q8⟩)
  ·subst hk9
   refine sq (sq (dn [jL,(7,aI y4),(23,aB (y4 !=0))] ?_))
   rcases zd hm with ⟨h,hm⟩|⟨h,hm⟩
   ·refine c1 h (sq (dn [j2,(5,aI y4)] (jc ?_)))
    cases hm;exact hJ
   refine c0 h (jd (sq (dn [j2,j9] (jc ?_))))
   cases hm;exact hJ
  subst hk9
  refine sq (sq (dn [jL,(7,aI y4),(23,aB (y4 !=0))] ?_))
  rcases zd hm with ⟨h,hm⟩|⟨h,hm⟩
  ·refine c1 h (sq (dn [j2,(5,aI y4)] (jc ?_)))
   cases hm;exact hJ
  refine c0 h (jd (sq (dn [(4,aR 3 2 g5),j9] (jc ?_))))
  obtain rfl:=jf hm
  exact aa2 (v:=.tup [aR 3 2 g5,aI 0]) trivial rfl hH (akY (aaD (afi (abI (n:=g5) (id:=3) (l:=y3) (R:=zm) rfl hO hO)) (aaD (apo) (rfl))))
 refine rg (s1 3 [(20,.fn 135 [] [.ptr 1 0,.ptr 2 0]),(19,.pv (zk rS a0.O)),(18,.ptr 0 0)] ?_)
 obtain ⟨x15,h12,hm⟩:=bs hm
 rcases x15 with ⟨_|x13,x14⟩
 ·obtain ⟨vv,H1,hC,rfl,rfl⟩:=aah h12
  refine dR [(21,aI x14)] [.box (zc0 a0) false,.box [.pv (zy a1)] false,jy] [1,2] [.pv (zk rS a0.O),.fn 135 [] [.ptr 1 0,.ptr 2 0]] hH hH hH hC hH (fq 1 [jL,(7,aI x14)] ?_)
  exact .inl ⟨x14,hm,rfl,rfl⟩
 obtain ⟨vv,H1,hC,g16,g17,q18,q19,rfl,rfl⟩:=aah h12
 refine dR [(21,aI x14)] [.box (zc0 a0) false,.box [.pv (zy a1)] false,.box [aR 3 2 g16] false,bR 84 2 zm x13 g17 0] [1,2] [.pv (zk rS a0.O),.fn 135 [] [.ptr 1 0,.ptr 2 0]] hH hH hH hC hH (fq 1 [jL,(7,aI x14)] ?_)
 exact .inr (⟨x13,x14,g16,g17,hm,rfl,rfl,hM,hN⟩)
abbrev amS (p0:zr):=((sll p0.E).length:Int)
abbrev auu (p0:zr):=(IntKind.wrap .i64 (((sll p0.E).length:Int)+((sll p0.D).length:Int)))
theorem ahV {n:Nat}{a0:zr}{r:Int}(hm:adK n a0=some r):
  call G n 45 [.agg (zc0 a0)] []=some (.ret (aI r),[]):=by
 unfold adK at hm
 obtain ⟨n,rfl,h0⟩:=zp hm
 replace hm:=h0;clear h0
 refine zT 10 [(0,.agg (zc0 a0))] func45 rfl hH (sq (det [jA] [.box (zc0 a0) false] hH (sq (rg (s1 2 [(4,.pv (ac4 a0)),(3,.ptr 0 3)] (dv 5 (v:=aI (amS a0)) (zu za a0.E t23 hH) hH (s1 2 [(7,.pv (qM a0)),(6,.ptr 0 4)] (dv 8 (v:=aI (afr a0)) (zu zl a0.D t24 hH) hH (fq 2 [(2,aI (auu a0))] (jc ?_))))))))))
 cases hm;exact hJ
abbrev zc5 (p0:zI):List AV:=[aI p0.A,aI p0.Q.A,aI p0.Q.C,aI p0.Q.M,aI p0.Q.F.A,aI p0.Q.F.K,aF p0.Q.F.I,aS p0.Q.F.N,.pv (zk za p0.Q.B)]
abbrev ahw (p0:zI):=(decide (p0.A<1))
abbrev as9 (p0:zI):=((decide (p0.A<1))||(decide (p0.A>4)))
theorem aku {n:Nat}{a0:zI}{r:Bool}(hm:ael n a0=some r):
  call G n 140 [.agg (zc5 a0)] []=some (.ret (aB r),[]):=by
 unfold ael at hm
 obtain ⟨n,rfl,h0⟩:=zp hm
 replace hm:=h0;clear h0
 refine zT 11 [(0,.agg (zc5 a0))] func140 rfl hH (sq (det [jA] [.box (zc5 a0) false] hH (sq (rg (s1 4 [(6,aB (ahw a0)),(5,aB (ahw a0)),(4,aI a0.A),jE] ?_)))))
 refine segP (ahw a0) [6,5] (fun b=>[(10,aB (b||(decide (a0.A>4)))),(9,ifA b hY (aB (decide (a0.A>4)))),(8,ifA b hY (aI a0.A)),(7,ifA b hY (.ptr 0 0))]) 4 hH hH hH (fq 1 [(2,aB (as9 a0))] (jc ?_))
 cases hm;exact hJ
abbrev zp46 (p0:jq):Nat×AV:=(0,.pv (zk zl p0))
abbrev zp47:Nat×AV:=(1,.pv (.fn 140 [] []))
abbrev zp48 (p0:jq):Nat×AV:=(7,aI ((sll p0).length:Int))
abbrev ahL (p0:Int) (p1:jq):=(decide (p0<((sll p1).length:Int)))
theorem acC {n:Nat}{a0:jq}{r:Int}(hm:qv n a0=some r):
   call G n 180 [.pv (zk zl a0),.pv (.fn 140 [] [])] []=some (.ret (aI r),[]):=by
 unfold qv at hm
 obtain ⟨n,rfl,h0⟩:=zp hm
 replace hm:=h0;clear h0
 refine zT 19 [(zp46 a0),zp47] func180 rfl hH (sq (dn [(zp46 a0),zp47] ?_))
 obtain ⟨k3,hk3,hm⟩:=zo hm
 refine mid (fun t H=>(∃ (y1:Int) (y2:Bool),k3 ()=some r∧t=mk 19 [(zp46 a0),zp47,(zp48 a0),(8,aI y1),(9,aB y2)]∧H=[])) ?_ ?_
 ·rintro _ _ ⟨y1,y2,hm,rfl,rfl⟩
  subst hk3
  refine sq (dn [(4,aI (-1))] (jc ?_))
  cases hm;exact hJ
 refine sq (rg (s1 1 [(6,.pv (zk zl a0))] (dv 7 (v:=aI ((sll a0).length:Int)) (zu zl a0 t24 hH) hH (fq 1 [(zp46 a0),zp47,(zp48 a0),ke] (bq ?_)))))
 refine ZR (fun mm t H=>(∃ (y5:Int),Zh n a0 k3 mm y5=some r∧t=mk 19 [(zp46 a0),zp47,(zp48 a0),(8,aI y5)]∧H=[])) (⟨0,hm,rfl,rfl⟩) ?_ ?_
 ·
   rintro _ _ ⟨y5,hm,_⟩;exact nomatch hm
 rintro m6 _ _ ⟨y5,hm,rfl,rfl⟩
 simp only [Zh] at hm
 refine sq (dn [(zp46 a0),zp47,(zp48 a0),(8,aI y5),(9,aB (ahL y5 a0))] ?_)
 refine sq ?_
 rcases zd hm with ⟨h,hm⟩|⟨h,hm⟩
 ·refine c1 h (jd (sq (bq (sq (dn [(zp46 a0),zp47,(5,aI y5),(zp48 a0),(8,aI y5)] (sq (rg (s1 3 [(13,aI y5),(12,.pv (zk zl a0)),(11,.pv (.fn 140 [] []))] ?_))))))))
  obtain ⟨x8,h9,hm⟩:=bs hm
  refine dv 14 (v:=.pv (.ptr (zl x8) 0)) (Zz zl a0 .i64 t24 t101 h9 rfl hH) hH (s1 1 [(15,.agg (zc5 x8))] ?_)
  obtain ⟨x10,h11,hm⟩:=bs hm
  refine dv 16 (zC hH (aku h11) hH hH hH) hH (fin [(zp46 a0),zp47,(5,aI y5),(zp48 a0),(8,aI y5),(16,aB x10)] rfl hH ?_)
  rcases zd hm with ⟨h,hm⟩|⟨h,hm⟩
  ·refine c1 h (sq (dn [(4,aI y5)] (jc ?_)))
   cases hm;exact hJ
  refine c0 h (jd (dn [(zp46 a0),zp47,(zp48 a0),(zp41 y5)] ?_))
  exact ⟨_,_,Zg [(zp46 a0),zp47,(zp48 a0),(zp41 y5)] [] hH,⟨(zN y5),hm,rfl,rfl⟩⟩
 refine c0 h (je ?_)
 exact ⟨y5,(ahL y5 a0),hm,rfl,rfl⟩
theorem abP {n:Nat}{a0:jq}{r:Bool}(hm:Zx n a0=some r):
  call G n 139 [.pv (zk zl a0),.pv (.fn 140 [] [])] []=some (.ret (aB r),[]):=by
 unfold Zx at hm
 obtain ⟨n,rfl,h0⟩:=zp hm
 replace hm:=h0;clear h0
 refine zT 9 [(zp46 a0),zp47] func139 rfl hH (sq (dn [(zp46 a0),zp47] (sq (rg (s1 2 [(6,.pv (.fn 140 [] [])),(5,.pv (zk zl a0))] ?_)))))
 obtain ⟨x1,h2,hm⟩:=bs hm
 refine dv 7 (zC hH (acC h2) hH hH hH) hH (fq 2 [(4,aB (decide (x1≥0)))] (jc ?_))
 cases hm;exact hJ
abbrev aix (p0:Zr):=(decide (p0.E<0))
theorem akc {n:Nat}{a0:Zr}{a1:(Option (List ByteArray))}{a2:jl}{a3:Bool}{a4:jl}{a5:jq}{a6:jr}{r:Bool}(hm:adN n a0 a1 a2 a3 a4 a5 a6=some r):
   call G n 142 [.agg [aI a0.E,aB a0.S],.pv (.ptr [zk rS a1,zk za a2,.bool a3,zk za a4,zk zl a5,zk zx a6] 0)] []=some (.ret (aB r),[]):=by
 unfold adN at hm
 obtain ⟨n,rfl,h0⟩:=zp hm
 replace hm:=h0;clear h0
 refine zT 14 [(0,.agg [aI a0.E,aB a0.S]),(1,.pv (.ptr [zk rS a1,zk za a2,.bool a3,zk za a4,zk zl a5,zk zx a6] 0))] func142 rfl hH (sq (det [(1,.pv (.ptr [zk rS a1,zk za a2,.bool a3,zk za a4,zk zl a5,zk zx a6] 0)),jz] [.box [aI a0.E,aB a0.S] false] hH (sq (rgd (shd 4 [(7,aB (aix a0)),(6,aB (aix a0)),(5,aI a0.E),(4,.ptr 0 0)] hH ?_)))))
 rcases zd hm with ⟨h,hm⟩|⟨h,hm⟩
 ·refine zM [7,6] h hH (shd 7 [(3,aB true),(13,aB true),(12,.undef),(11,.undef),(10,.undef),(9,.undef),(8,.undef)] hH (find [(3,aB true)] rfl hH hH (jc ?_)))
  cases hm;exact hJ
 refine zM [7,6] h hH (shd 3 [(10,.agg [.pv (zk rS a1),.pv (ZN a2),aB a3,.pv (ZN a4),.pv (zk zl a5),.pv (zk zx a6)]),(9,aI a0.E),jO] hH ?_)
 obtain ⟨x2,h3,hm⟩:=bs hm
 refine dvd 11 (zC hH (ahV h3) hH hH hH) hH (shd 3 [(3,aB (decide (a0.E≥x2))),(13,aB (decide (a0.E≥x2))),(12,aB (decide (a0.E≥x2)))] hH (find [(3,aB (decide (a0.E≥x2)))] rfl hH hH (jc ?_)))
 cases hm;exact hJ
abbrev zp49 (p0:jr):Nat×AV:=(0,.pv (zk zx p0))
abbrev zp50 (p0:(Option (List ByteArray))) (p1:jl) (p2:Bool) (p3:jl) (p4:jq) (p5:jr):Nat×AV:=(1,.pv (.fn 142 [] [.ptr [zk rS p0,zk za p1,.bool p2,zk za p3,zk zl p4,zk zx p5] 0]))
abbrev zp51 (p0:jr):Nat×AV:=(7,aI ((sll p0).length:Int))
theorem acx {n:Nat}{a0:jr}{a1:(Option (List ByteArray))}{a2:jl}{a3:Bool}{a4:jl}{a5:jq}{a6:jr}{r:Int}(hm:qt n a0 a1 a2 a3 a4 a5 a6=some r):
   call G n 181 [.pv (zk zx a0),.pv (.fn 142 [] [.ptr [zk rS a1,zk za a2,.bool a3,zk za a4,zk zl a5,zk zx a6] 0])] []=some (.ret (aI r),[]):=by
 unfold qt at hm
 obtain ⟨n,rfl,h0⟩:=zp hm
 replace hm:=h0;clear h0
 refine zT 19 [(zp49 a0),(zp50 a1 a2 a3 a4 a5 a6)] func181 rfl hH (sq (dn [(zp49 a0),(zp50 a1 a2 a3 a4 a5 a6)] ?_))
 obtain ⟨k3,hk3,hm⟩:=zo hm
 refine mid (fun t H=>(∃ (y1:Int) (y2:Bool),k3 ()=some r∧t=mk 19 [(zp49 a0),(zp50 a1 a2 a3 a4 a5 a6),(zp51 a0),(8,aI y1),(9,aB y2)]∧H=[])) ?_ ?_
 ·rintro _ _ ⟨y1,y2,hm,rfl,rfl⟩
  subst hk3
  refine sq (dn [(4,aI (-1))] (jc ?_))
  cases hm;exact hJ
 refine sq (rg (s1 1 [(6,.pv (zk zx a0))] (dv 7 (v:=aI ((sll a0).length:Int)) (zu zx a0 t25 hH) hH (fq 1 [(zp49 a0),(zp50 a1 a2 a3 a4 a5 a6),(zp51 a0),ke] (bq ?_)))))
 refine ZR (fun mm t H=>(∃ (y5:Int),Zj n a0 a1 a2 a3 a4 a5 a6 k3 mm y5=some r∧t=mk 19 [(zp49 a0),(zp50 a1 a2 a3 a4 a5 a6),(zp51 a0),(8,aI y5)]∧H=[])) (⟨0,hm,rfl,rfl⟩) ?_ ?_
 ·
   rintro _ _ ⟨y5,hm,_⟩;exact nomatch hm
 rintro m6 _ _ ⟨y5,hm,rfl,rfl⟩
 simp only [Zj] at hm
 refine sq (dn [(zp49 a0),(zp50 a1 a2 a3 a4 a5 a6),(zp51 a0),(8,aI y5),(9,aB (decide (y5<((sll a0).length:Int))))] ?_)
 refine sq ?_
 rcases zd hm with ⟨h,hm⟩|⟨h,hm⟩
 ·refine c1 h (jd (sq (bq (sq (dn [(zp49 a0),(zp50 a1 a2 a3 a4 a5 a6),(5,aI y5),(zp51 a0),(8,aI y5)] (sq (rg (s1 3 [(13,aI y5),(12,.pv (zk zx a0)),(11,.pv (.fn 142 [] [.ptr [zk rS a1,zk za a2,.bool a3,zk za a4,zk zl a5,zk zx a6] 0]))] ?_))))))))
  obtain ⟨x8,h9,hm⟩:=bs hm
  refine dv 14 (v:=.pv (.ptr (zx x8) 0)) (Zz zx a0 .i64 t25 t86 h9 rfl hH) hH (s1 1 [(15,.agg [aI x8.E,aB x8.S])] ?_)
  obtain ⟨x10,h11,hm⟩:=bs hm
  refine dv 16 (zC hH (akc h11) hH hH hH) hH (fin [(zp49 a0),(zp50 a1 a2 a3 a4 a5 a6),(5,aI y5),(zp51 a0),(8,aI y5),(16,aB x10)] rfl hH ?_)
  rcases zd hm with ⟨h,hm⟩|⟨h,hm⟩
  ·refine c1 h (sq (dn [(4,aI y5)] (jc ?_)))
   cases hm;exact hJ
  refine c0 h (jd (dn [(zp49 a0),(zp50 a1 a2 a3 a4 a5 a6),(zp51 a0),(zp41 y5)] ?_))
  exact ⟨_,_,Zg [(zp49 a0),(zp50 a1 a2 a3 a4 a5 a6),(zp51 a0),(zp41 y5)] [] hH,⟨(zN y5),hm,rfl,rfl⟩⟩
 refine c0 h (je ?_)
 exact ⟨y5,(decide (y5<((sll a0).length:Int))),hm,rfl,rfl⟩
theorem abL {n:Nat}{a0:jr}{a1:(Option (List ByteArray))}{a2:jl}{a3:Bool}{a4:jl}{a5:jq}{a6:jr}{r:Bool}(hm:Zw n a0 a1 a2 a3 a4 a5 a6=some r):
  call G n 141 [.pv (zk zx a0),.pv (.fn 142 [] [.ptr [zk rS a1,zk za a2,.bool a3,zk za a4,zk zl a5,zk zx a6] 0])] []=some (.ret (aB r),[]):=by
 unfold Zw at hm
 obtain ⟨n,rfl,h0⟩:=zp hm
 replace hm:=h0;clear h0
 refine zT 9 [(zp49 a0),(zp50 a1 a2 a3 a4 a5 a6)] func141 rfl hH (sq (dn [(zp49 a0),(zp50 a1 a2 a3 a4 a5 a6)] (sq (rg (s1 2 [(6,.pv (.fn 142 [] [.ptr [zk rS a1,zk za a2,.bool a3,zk za a4,zk zl a5,zk zx a6] 0])),(5,.pv (zk zx a0))] ?_)))))
 obtain ⟨x1,h2,hm⟩:=bs hm
 refine dv 7 (zC hH (acx h2) hH hH hH) hH (fq 2 [(4,aB (decide (x1≥0)))] (jc ?_))
 cases hm;exact hJ
abbrev apL (p0:zr):=(decide (((sll p0.H).length:Int)>40))
abbrev ao2 (p0:zr):=(decide (((sll p0.E).length:Int)>20))
abbrev atd (p0:zr):=((decide (((sll p0.H).length:Int)>40))||(decide (((sll p0.E).length:Int)>20)))
abbrev apk (p0:zr):=(decide (((sll p0.D).length:Int)>10))
abbrev atq (p0:zr):=(((decide (((sll p0.H).length:Int)>40))||(decide (((sll p0.E).length:Int)>20)))||(decide (((sll p0.D).length:Int)>10)))
abbrev ao3 (p0:zr):=(decide (((sll p0.G).length:Int)>10))
abbrev awq (p0:zr):=((((decide (((sll p0.H).length:Int)>40))||(decide (((sll p0.E).length:Int)>20)))||(decide (((sll p0.D).length:Int)>10)))||(decide (((sll p0.G).length:Int)>10)))
abbrev apT (p0:zr):=(decide (((sll p0.D).length:Int)>0))
theorem amq {n:Nat}{a0:zr}{r:Bool}(hm:aea n a0=some r):
   call G n 48 [.agg (zc0 a0)] []=some (.ret (aB r),[]):=by
 unfold aea at hm
 obtain ⟨n,rfl,h0⟩:=zp hm
 replace hm:=h0;clear h0
 refine zT 53 [(0,.agg (zc0 a0))] func48 rfl hH (sq (det [jA] [.box (zc0 a0) false] hH ?_))
 refine sq (sq (rg (s1 2 [(4,.pv (aiy a0)),(3,.ptr 0 1)] (dv 5 (v:=aI ((sll a0.H).length:Int)) (zu za a0.H t23 hH) hH (s1 2 [(7,aB (apL a0)),(6,aB (apL a0))] ?_)))))
 refine seg (apL a0) [7,6] (fun b=>[(12,aB (b||(ao2 a0))),(11,ifA b hY (aB (decide (((sll a0.E).length:Int)>20)))),(10,ifA b hY (aI ((sll a0.E).length:Int))),(9,ifA b hY (.pv (ac4 a0))),(8,ifA b hY (.ptr 0 3))]) 10 hH ?_ ?_ ?_
 ·intro Q h
  refine s1 5 [(12,aB true),(11,.undef),(10,.undef),(9,.undef),(8,.undef)] ?_
  exact Ze hH hH h
 ·intro Q h
  refine s1 2 [(9,.pv (ac4 a0)),(8,.ptr 0 3)] (dv 10 (v:=aI (amS a0)) (zu za a0.E t23 hH) hH (s1 2 [(12,aB (ao2 a0)),(11,aB (ao2 a0))] ?_))
  exact Ze hH hH h
 refine s1 1 [(13,aB (atd a0))] ?_
 refine seg (atd a0) [13,12] (fun b=>[(18,aB (b||(apk a0))),(17,ifA b hY (aB (decide (((sll a0.D).length:Int)>10)))),(16,ifA b hY (anE a0)),(15,ifA b hY (.pv (qM a0))),(14,ifA b hY (.ptr 0 4))]) 16 hH ?_ ?_ ?_
 ·intro Q h
  refine s1 5 [(18,aB true),(17,.undef),(16,.undef),(15,.undef),(14,.undef)] ?_
  exact Ze hH hH h
 ·intro Q h
  refine s1 2 [(15,.pv (qM a0)),(14,.ptr 0 4)] (dv 16 (v:=aI (afr a0)) (zu zl a0.D t24 hH) hH (s1 2 [(18,aB (apk a0)),(17,aB (apk a0))] ?_))
  exact Ze hH hH h
 refine s1 1 [(19,aB (atq a0))] ?_
 refine seg (atq a0) [19,18] (fun b=>[(24,aB (b||(ao3 a0))),(23,ifA b hY (aB (decide (((sll a0.G).length:Int)>10)))),(22,ifA b hY (aI ((sll a0.G).length:Int))),(21,ifA b hY (.pv (aa3 a0))),(20,ifA b hY (.ptr 0 5))]) 22 hH ?_ ?_ ?_
 ·intro Q h
  refine s1 5 [kA,(23,.undef),(22,.undef),(21,.undef),(20,.undef)] ?_
  exact Ze hH hH h
 ·intro Q h
  refine s1 2 [(21,.pv (aa3 a0)),(20,.ptr 0 5)] (dv 22 (v:=aI (ajB a0)) (zu zx a0.G t25 hH) hH (s1 2 [(24,aB (ao3 a0)),(23,aB (ao3 a0))] ?_))
  exact Ze hH hH h
 refine fin [jA,(24,aB (awq a0))] rfl hH ?_
 rcases zd hm with ⟨h1,hm⟩|⟨h1,hm⟩
 ·refine c1 h1 (sq (dn [ko] (jc ?_)))
  cases hm;exact hJ
 refine c0 h1 (jd ?_)
 refine sq (sq (rg (s1 4 [(28,aB (!a0.P)),(27,aB (!a0.P)),(26,aB a0.P),(25,.ptr 0 2)] ?_)))
 refine seg (!a0.P) [28,27] (fun b=>[(39,aB (b&&((((sll a0.E).length:Int)==0)||(decide (((sll a0.D).length:Int)>0))))),(38,ifA b (aB ((((sll a0.E).length:Int)==0)||(decide (((sll a0.D).length:Int)>0)))) hY),(37,ifA b (ifA (((sll a0.E).length:Int)==0) hY (aB (decide (((sll a0.D).length:Int)>0)))) hY),(36,ifA b (ifA (((sll a0.E).length:Int)==0) hY (aI ((sll a0.D).length:Int))) hY),(35,ifA b (ifA (((sll a0.E).length:Int)==0) hY (.pv (zk zl a0.D))) hY),(34,ifA b (ifA (((sll a0.E).length:Int)==0) hY (.ptr 0 4)) hY),(33,ifA b (aB (((sll a0.E).length:Int)==0)) hY),(32,ifA b (aB (((sll a0.E).length:Int)==0)) hY),(31,ifA b (aI ((sll a0.E).length:Int)) hY),(30,ifA b (.pv (ac4 a0)) hY),(29,ifA b (.ptr 0 3) hY)]) 15 hH ?_ ?_ ?_
 ·intro Q h
  refine s1 2 [(30,.pv (ac4 a0)),(29,.ptr 0 3)] (dv 31 (v:=aI (amS a0)) (zu za a0.E t23 hH) hH (s1 2 [(33,aB (((sll a0.E).length:Int)==0)),(32,aB (((sll a0.E).length:Int)==0))] ?_))
  refine seg (((sll a0.E).length:Int)==0) [33,32] (fun b=>[(38,aB (b||(apT a0))),(37,ifA b hY (aB (decide (((sll a0.D).length:Int)>0)))),(36,ifA b hY (anE a0)),(35,ifA b hY (.pv (qM a0))),(34,ifA b hY (.ptr 0 4))]) 14 hH ?_ ?_ ?_
  ·intro Q h
   refine s1 5 [kB,(37,.undef),(36,.undef),(35,.undef),(34,.undef)] ?_
   exact Ze hH hH h
  ·intro Q h
   refine s1 2 [(35,.pv (qM a0)),(34,.ptr 0 4)] (dv 36 (v:=aI (afr a0)) (zu zl a0.D t24 hH) hH (s1 2 [(38,aB (apT a0)),(37,aB (apT a0))] ?_))
   exact Ze hH hH h
  refine s1 1 [(39,aB ((((sll a0.E).length:Int)==0)||(decide (((sll a0.D).length:Int)>0))))] ?_
  exact Ze hH hH h
 ·intro Q h
  refine s1 11 [ky,(38,.undef),(37,.undef),(36,.undef),(35,.undef),(34,.undef),(33,.undef),(32,.undef),(31,.undef),(30,.undef),(29,.undef)] ?_
  exact Ze hH hH h
 refine s1 1 [(40,aB ((!a0.P)&&((((sll a0.E).length:Int)==0)||(decide (((sll a0.D).length:Int)>0)))))] ?_
 rcases zd hm with ⟨h2,hm⟩|⟨h2,hm⟩
 ·refine known [40,39] h2 hH (fq 4 [jA,(44,aB true)] (cT hH (sq (dn [ko] (jc ?_)))))
  cases hm;exact hJ
 refine known [40,39] h2 hH (s1 1 [(41,.agg (zc0 a0))] ?_)
 obtain ⟨x3,h4,hm⟩:=bs hm
 refine dv 42 (zC hH (ahV h4) hH hH hH) hH (fq 2 [jA,(44,aB (x3==0))] ?_)
 rcases zd hm with ⟨h5,hm⟩|⟨h5,hm⟩
 ·refine c1 h5 (sq (dn [ko] (jc ?_)))
  cases hm;exact hJ
 refine c0 h5 (jd (sq (sq (rg (s1 2 [(46,.pv (qM a0)),(45,.ptr 0 4)] ?_)))))
 obtain ⟨x6,h7,hm⟩:=bs hm
 refine dv 47 (zC hH (abP h7) hH hH hH) hH (fin [jA,(47,aB x6)] rfl hH ?_)
 rcases zd hm with ⟨h8,hm⟩|⟨h8,hm⟩
 ·refine c1 h8 (sq (dn [ko] (jc ?_)))
  cases hm;exact hJ
 refine c0 h8 (jd (sq (rg (s1 3 [(50,.fn 142 [] [.ptr 0 0]),(49,.pv (aa3 a0)),(48,.ptr 0 5)] ?_))))
 obtain ⟨x9,h10,hm⟩:=bs hm
 refine dO [(51,aB x9)] [.box (zc0 a0) false] (aip [0] [.pv (aa3 a0),.fn 142 [] [.ptr 0 0]] (fl:=true) hH hH hH (abL h10) hH hH) hH (fq 2 [(2,aB (!x9))] (jc ?_))
 cases hm;exact hJ
theorem aqJ {n:Nat}{a0:Int}{r:Int}(hm:agV n a0=some r):
   call G n 192 [aI a0] []=some (.ret (aI r),[]):=by
 unfold agV at hm
 obtain ⟨n,rfl,h0⟩:=zp hm
 replace hm:=h0;clear h0
 refine zT 20 [(0,aI a0)] func192 rfl hH (sq (dn [(0,aI a0)] (sq (sq (dn [(3,aI a0)] (bq ?_))))))
 obtain ⟨k2,hk2,hm⟩:=zo hm
 refine mid (fun t H=>(∃ (y1:Bool),k2 y1=some r∧t=mk 20 [(3,aI a0),(4,aB y1)]∧H=[])) ?_ ?_
 ·rintro _ _ ⟨y1,hm,rfl,rfl⟩
  subst hk2
  rcases zd hm with ⟨h,hm⟩|⟨h,hm⟩
  ·refine c1 h (sq (dn [(2,aI 0)] (jc ?_)))
   cases hm;exact hJ
  refine c0 h ?_
  obtain ⟨k5,hk5,hm⟩:=zo hm
  refine mid (fun t H=>(∃ (y4:Bool),k5 y4=some r∧t=mk 20 [(3,aI a0),(7,aB y4)]∧H=[])) ?_ ?_
  ·rintro _ _ ⟨y4,hm,rfl,rfl⟩
   subst hk5
   rcases zd hm with ⟨h,hm⟩|⟨h,hm⟩
   ·refine c1 h (sq (dn [(2,aI 1)] (jc ?_)))
    cases hm;exact hJ
   refine c0 h (sq (sq (dn [(3,aI a0),(11,aB (a0==3))] ?_)))
   rcases zd hm with ⟨h,hm⟩|⟨h,hm⟩
   ·refine c1 h (jd ?_)
    rcases zd hm with ⟨h,hm⟩|⟨h,hm⟩
    ·refine c1 h (sq (dn [kc] (jc ?_)))
     cases hm;exact hJ
    refine c0 h (jd (sq (dn [(2,aI (-1))] (jc ?_))))
    cases hm;exact hJ
   refine c0 h (sq (dn [(3,aI a0),(11,aB (a0==4))] ?_))
   rcases zd hm with ⟨h,hm⟩|⟨h,hm⟩
   ·refine c1 h (jd ?_)
    rcases zd hm with ⟨h,hm⟩|⟨h,hm⟩
    ·refine c1 h (sq (dn [kc] (jc ?_)))
     cases hm;exact hJ
    refine c0 h (jd (sq (dn [(2,aI (-1))] (jc ?_))))
    cases hm;exact hJ
   refine c0 h (sq (dn [(3,aI a0),(11,aB (a0==5))] ?_))
   rcases zd hm with ⟨h,hm⟩|⟨h,hm⟩
   ·refine c1 h (jd ?_)
    rcases zd hm with ⟨h,hm⟩|⟨h,hm⟩
    ·refine c1 h (sq (dn [kc] (jc ?_)))
     cases hm;exact hJ
    refine c0 h (jd (sq (dn [(2,aI (-1))] (jc ?_))))
    cases hm;exact hJ
   refine c0 h (sq (dn [(3,aI a0),(11,aB (a0==7))] ?_))
   rcases zd hm with ⟨h,hm⟩|⟨h,hm⟩
   ·refine c1 h (jd ?_)
    rcases zd hm with ⟨h,hm⟩|⟨h,hm⟩
    ·refine c1 h (sq (dn [kc] (jc ?_)))
     cases hm;exact hJ
    refine c0 h (jd (sq (dn [(2,aI (-1))] (jc ?_))))
    cases hm;exact hJ
   refine c0 h (sq (dn [(3,aI a0),(11,aB (a0==8))] ?_))
   rcases zd hm with ⟨h,hm⟩|⟨h,hm⟩
   ·refine c1 h (jd ?_)
    rcases zd hm with ⟨h,hm⟩|⟨h,hm⟩
    ·refine c1 h (sq (dn [kc] (jc ?_)))
     cases hm;exact hJ
    refine c0 h (jd (sq (dn [(2,aI (-1))] (jc ?_))))
    cases hm;exact hJ
   refine c0 h (sq (dn [(3,aI a0),(11,aB (a0==9))] ?_))
   rcases zd hm with ⟨h,hm⟩|⟨h,hm⟩
   ·refine c1 h (jd ?_)
    rcases zd hm with ⟨h,hm⟩|⟨h,hm⟩
    ·refine c1 h (sq (dn [kc] (jc ?_)))
     cases hm;exact hJ
    refine c0 h (jd (sq (dn [(2,aI (-1))] (jc ?_))))
    cases hm;exact hJ
   refine c0 h (sq (dn [(3,aI a0),(11,aB (a0==10))] ?_))
   rcases zd hm with ⟨h,hm⟩|⟨h,hm⟩
   ·refine c1 h (jd ?_)
    rcases zd hm with ⟨h,hm⟩|⟨h,hm⟩
    ·refine c1 h (sq (dn [kc] (jc ?_)))
     cases hm;exact hJ
    refine c0 h (jd (sq (dn [(2,aI (-1))] (jc ?_))))
    cases hm;exact hJ
   refine c0 h (dn [(11,aB (a0==11))] ?_)
   rcases zd hm with ⟨h,hm⟩|⟨h,hm⟩
   ·refine c1 h (sq (dn [kc] (jc ?_)))
    cases hm;exact hJ
   refine c0 h (jd (sq (dn [(2,aI (-1))] (jc ?_))))
   cases hm;exact hJ
  refine sq (dn [(3,aI a0),(7,aB (a0==6))] ?_)
  rcases zd hm with ⟨h,hm⟩|⟨h,hm⟩
  ·refine c1 h (jd ?_)
   exact ⟨(a0==6),hm,rfl,rfl⟩
  refine c0 h (sq (dn [(3,aI a0),(7,aB (a0==12))] ?_))
  rcases zd hm with ⟨h,hm⟩|⟨h,hm⟩
  ·refine c1 h (jd ?_)
   exact ⟨(a0==12),hm,rfl,rfl⟩
  refine c0 h (dn [(3,aI a0),(7,aB (a0==13))] ?_)
  exact ⟨(a0==13),hm,rfl,rfl⟩
 refine sq (dn [(3,aI a0),(4,aB (a0==1))] ?_)
 rcases zd hm with ⟨h,hm⟩|⟨h,hm⟩
 ·refine c1 h (jd ?_)
  exact ⟨(a0==1),hm,rfl,rfl⟩
 refine c0 h (dn [(3,aI a0),(4,aB (a0==2))] ?_)
 exact ⟨(a0==2),hm,rfl,rfl⟩
theorem agG {n:Nat}{a0:Int}{r:Bool}(hm:ac2 n a0=some r):
  call G n 249 [aI a0] []=some (.ret (aB r),[]):=by
 unfold ac2 at hm
 obtain ⟨n,rfl,h0⟩:=zp hm
 replace hm:=h0;clear h0
 refine zT 9 [(0,aI a0)] func249 rfl hH (sq (dn [(0,aI a0)] (sq (rg (s1 3 [(5,aB (decide (a0≥0))),(4,aB (decide (a0≥0))),(3,aI a0)] ?_)))))
 refine segP (decide (a0≥0)) [5,4] (fun b=>[(8,aB (b&&(decide (a0≤31)))),(7,ifA b (aB (decide (a0≤31))) hY),(6,ifA b (aI a0) hY)]) 3 hH hH hH (fq 1 [(2,aB ((decide (a0≥0))&&(decide (a0≤31))))] (jc ?_))
 cases hm;exact hJ
theorem ama {n:Nat}{a0:Nat}{r:Bool}(hm:afy n a0=some r):
  call G n 250 [aF a0] []=some (.ret (aB r),[]):=by
 unfold afy at hm
 obtain ⟨n,rfl,h0⟩:=zp hm
 replace hm:=h0;clear h0
 refine zT 7 [(0,aF a0)] func250 rfl hH (sq (dn [(0,aF a0)] (sq (rg (s1 1 [(3,aF a0)] (s1 1 [(4,aU (a0:Int))] (fq 3 [(2,aB (decide ((IntKind.wrap .i64 (a0:Int))<0)))] (jc ?_))))))))
 cases hm;exact hJ
abbrev zc6 (p0:zn):List AV:=[aI p0.A,aI p0.K,aF p0.I,aS p0.N]
abbrev ank (p0:zn):=(sEq p0.N ByteArray.empty)
abbrev amO (p0:zn):=(aB (sEq p0.N ByteArray.empty))
abbrev atk (p0:zn):=((FloatKind.format .f64).order p0.I 0==some .eq)
theorem aiA {n:Nat}{a0:zn}{r:Bool}(hm:adJ n a0=some r):
   call G n 227 [.agg (zc6 a0)] []=some (.ret (aB r),[]):=by
 unfold adJ at hm
 obtain ⟨n,rfl,h0⟩:=zp hm
 replace hm:=h0;clear h0
 refine zT 70 [(0,.agg (zc6 a0))] func227 rfl hH (sq (det [jA] [.box (zc6 a0) false] hH ?_))
 obtain ⟨k2,hk2,hm⟩:=zo hm
 refine mid (fun t H=>(∃ (y1:Bool),k2 y1=some r∧t=mk 70 [jA,(3,aB y1)]∧H=[.box (zc6 a0) false])) ?_ ?_
 ·rintro _ _ ⟨y1,hm,rfl,rfl⟩
  subst hk2
  refine sq (sq (dn [jA,(3,aB y1),(14,aI a0.A)] (bq ?_)))
  refine sq (bq ?_)
  refine sq (bq ?_)
  obtain ⟨k6,hk6,hm⟩:=zo hm
  refine mid (fun t H=>(∃ (w3:AV) (w4:AV) (w5:AV),k6 ()=some r∧t=mk 70 [jA,(3,aB y1),(14,w3),(19,w4),(43,w5)]∧H=[.box (zc6 a0) false])) ?_ ?_
  ·rintro _ _ ⟨w3,w4,w5,hm,rfl,rfl⟩
   subst hk6
   refine sq (sq (rg (s1 2 [(45,aB y1),(44,aB y1)] ?_)))
   refine segP y1 [45,44,3] (fun b=>[(49,aB (b&&(ank a0))),(48,ifA b (amO a0) hY),(47,ifA b (aS a0.N) hY),(46,ifA b (.ptr 0 3) hY)]) 4 hH hH hH (fq 1 [(2,aB (y1&&(sEq a0.N ByteArray.empty)))] (jc ?_))
   cases hm;exact hJ
  refine bq ?_
  refine sq (bq ?_)
  refine sq (bq (sq ?_))
  refine sq (sq (dn [jA,(3,aB y1),(14,aI a0.A),(15,aB (a0.A==0))] ?_))
  rcases zd hm with ⟨h,hm⟩|⟨h,hm⟩
  ·refine c1 h (je (sq (sq (rg (s1 4 [(28,aB (a0.K==0)),(27,aB (a0.K==0)),(26,aI a0.K),(25,.ptr 0 1)] ?_)))))
   refine segP (a0.K==0) [28,27] (fun b=>[(30,aB (b&&y1)),(29,ifA b (aB y1) hY)]) 2 hH hH hH (s1 1 [(31,aB ((a0.K==0)&&y1))] ?_)
   refine segP ((a0.K==0)&&y1) [31,30] (fun b=>[(35,aB (b&&(ank a0))),(34,ifA b (amO a0) hY),(33,ifA b (aS a0.N) hY),(32,ifA b (.ptr 0 3) hY)]) 4 hH hH hH (fq 1 [(2,aB (((a0.K==0)&&y1)&&(sEq a0.N ByteArray.empty)))] (jc ?_))
   cases hm;exact hJ
  refine c0 h (jd (sq (sq (dn [jA,(3,aB y1),(14,aI a0.A),(17,aB (a0.A==1))] ?_))))
  rcases zd hm with ⟨h,hm⟩|⟨h,hm⟩
  ·refine c1 h (je (sq (rg (s1 4 [(39,aB (a0.K !=0)),(38,aB (a0.K !=0)),(37,aI a0.K),(36,.ptr 0 1)] ?_))))
   refine segP (a0.K !=0) [39,38] (fun b=>[(43,aB (b&&(a0.K !=1))),(42,ifA b (aB (a0.K !=1)) hY),(41,ifA b (aI a0.K) hY),(40,ifA b (.ptr 0 1) hY)]) 4 hH hH hH (fin [jA,(3,aB y1),(43,aB ((a0.K !=0)&&(a0.K !=1)))] rfl hH ?_)
   rcases zd hm with ⟨h,hm⟩|⟨h,hm⟩
   ·refine c1 h (sq (dn [ko] (jc ?_)))
    cases hm;exact hJ
   refine c0 h (jd ?_)
   exact ⟨.any,.any,aB ((a0.K !=0)&&(a0.K !=1)),hm,(zD hH),rfl⟩
  refine c0 h (jd (sq (sq (dn [jA,(3,aB y1),(14,aI a0.A),(19,aB (a0.A==2))] ?_))))
  rcases zd hm with ⟨h,hm⟩|⟨h,hm⟩
  ·refine c1 h (je ?_)
   exact ⟨aI a0.A,aB (a0.A==2),.any,hm,(zD hH),rfl⟩
  refine c0 h (jd (sq (sq (dn [jA,(3,aB y1),(14,aI a0.A),(21,aB (a0.A==3))] ?_))))
  rcases zd hm with ⟨h,hm⟩|⟨h,hm⟩
  ·refine c1 h (je (sq (sq (rg (s1 4 [(53,aB (a0.K==0)),(52,aB (a0.K==0)),(51,aI a0.K),(50,.ptr 0 1)] ?_)))))
   refine segP (a0.K==0) [53,52] (fun b=>[(57,aB (b&&(ank a0))),(56,ifA b (amO a0) hY),(55,ifA b (aS a0.N) hY),(54,ifA b (.ptr 0 3) hY)]) 4 hH hH hH (fq 1 [(2,aB ((a0.K==0)&&(sEq a0.N ByteArray.empty)))] (jc ?_))
   cases hm;exact hJ
  refine c0 h (jd (sq (dn [jA,(3,aB y1),(23,aB (a0.A==4))] ?_)))
  rcases zd hm with ⟨h,hm⟩|⟨h,hm⟩
  ·refine c1 h (je (sq (sq (rg (s1 4 [(61,aB (a0.K==0)),(60,aB (a0.K==0)),(59,aI a0.K),(58,.ptr 0 1)] ?_)))))
   refine segP (a0.K==0) [61,60] (fun b=>[(63,aB (b&&y1)),(62,ifA b (aB y1) hY)]) 2 hH hH hH (s1 1 [(64,aB ((a0.K==0)&&y1))] ?_)
   refine segP ((a0.K==0)&&y1) [64,63] (fun b=>[(69,aB (b&&(decide ((a0.N.size:Int)≤64)))),(68,ifA b (aB (decide ((a0.N.size:Int)≤64))) hY),(67,ifA b (aI (a0.N.size:Int)) hY),(66,ifA b (aS a0.N) hY),(65,ifA b (.ptr 0 3) hY)]) 5 hH hH hH (fq 1 [(2,aB (((a0.K==0)&&y1)&&(decide ((a0.N.size:Int)≤64))))] (jc ?_))
   cases hm;exact hJ
  refine c0 h (jd (je (sq (dn [ko] (jc ?_)))))
  cases hm;exact hJ
 refine rg (s1 4 [(7,aB (atk a0)),(6,aB (atk a0)),(5,aF a0.I),(4,.ptr 0 2)] ?_)
 rcases zd hm with ⟨h,hm⟩|⟨h,hm⟩
 ·refine known [7,6] h hH (s1 2 [(9,aF a0.I),(8,.ptr 0 2)] ?_)
  obtain ⟨x14,h15,hm⟩:=bs hm
  refine dv 10 (zC hH (ama h15) hH hH hH) hH (fq 3 [jA,(3,aB (!x14))] ?_)
  exact ⟨(!x14),hm,rfl,rfl⟩
 refine known [7,6] h hH (fq 6 [jA,(3,aB false)] ?_)
 exact ⟨false,hm,rfl,rfl⟩
abbrev zc7 (p0:zf):List AV:=[aI p0.A,aI p0.C,aI p0.M,aI p0.F.A,aI p0.F.K,aF p0.F.I,aS p0.F.N,.pv (zk za p0.B)]
abbrev zc8 (p0:zf):List AV:=[aI p0.F.A,aI p0.F.K,aF p0.F.I,aS p0.F.N]
theorem anP {n:Nat}{a0:zf}{r:Bool}(hm:aeT n a0=some r):
   call G n 226 [.agg (zc7 a0)] []=some (.ret (aB r),[]):=by
 unfold aeT at hm
 obtain ⟨n,rfl,h0⟩:=zp hm
 replace hm:=h0;clear h0
 refine zT 45 [(0,.agg (zc7 a0))] func226 rfl hH (sq (det [jA] [.box (zc7 a0) false] hH (sq (dn [jA,(3,.pv (.fn 249 [] []))] ?_))))
 refine sq (sq (rg (s1 4 [(7,aB (a0.A !=1)),(6,aB (a0.A !=1)),(5,aI a0.A),(4,.ptr 0 0)] ?_)))
 refine seg (a0.A !=1) [7,6] (fun b=>[(16,aB (b&&((a0.C !=0)||(a0.M !=0)))),(15,ifA b (aB ((a0.C !=0)||(a0.M !=0))) hY),(14,ifA b (ifA (a0.C !=0) hY (aB (a0.M !=0))) hY),(13,ifA b (ifA (a0.C !=0) hY (aI a0.M)) hY),(12,ifA b (ifA (a0.C !=0) hY (.ptr 0 2)) hY),(11,ifA b (aB (a0.C !=0)) hY),(10,ifA b (aB (a0.C !=0)) hY),(9,ifA b (aI a0.C) hY),(8,ifA b (.ptr 0 1) hY)]) 13 hH ?_ ?_ ?_
 ·intro Q h
  refine s1 4 [(11,aB (a0.C !=0)),(10,aB (a0.C !=0)),(9,aI a0.C),(8,.ptr 0 1)] ?_
  refine segP (a0.C !=0) [11,10] (fun b=>[(15,aB (b||(a0.M !=0))),(14,ifA b hY (aB (a0.M !=0))),(13,ifA b hY (aI a0.M)),(12,ifA b hY (.ptr 0 2))]) 4 hH hH hH (s1 1 [(16,aB ((a0.C !=0)||(a0.M !=0)))] ?_)
  exact Ze hH hH h
 ·intro Q h
  refine s1 9 [(16,aB false),(15,.undef),(14,.undef),(13,.undef),(12,.undef),(11,.undef),(10,.undef),(9,.undef),(8,.undef)] ?_
  exact Ze hH hH h
 refine s1 1 [(17,aB ((a0.A !=1)&&((a0.C !=0)||(a0.M !=0))))] ?_
 rcases zd hm with ⟨h1,hm⟩|⟨h1,hm⟩
 ·refine known [17,16] h1 hH (fq 13 [jA,(30,aB true)] (cT hH (sq (dn [ko] (jc ?_)))))
  cases hm;exact hJ
 refine known [17,16] h1 hH (s1 3 [(20,aI a0.C),jX,(18,.pv (.fn 249 [] []))] ?_)
 obtain ⟨x2,h3,hm⟩:=bs hm
 refine dv 21 (zC hH (agG h3) hH hH hH) hH (s1 3 [(24,aB (!x2)),(23,aB (!x2)),(22,aB (!x2))] ?_)
 rcases zd hm with ⟨h4,hm⟩|⟨h4,hm⟩
 ·refine known [24,23,22] h4 hH (fq 6 [jA,(30,aB true)] (cT hH (sq (dn [ko] (jc ?_)))))
  cases hm;exact hJ
 refine known [24,23,22] h4 hH (s1 3 [(27,aI a0.M),(26,.ptr 0 2),(25,.pv (.fn 249 [] []))] ?_)
 obtain ⟨x5,h6,hm⟩:=bs hm
 refine dv 28 (zC hH (agG h6) hH hH hH) hH (fq 2 [jA,(30,aB (!x5))] ?_)
 rcases zd hm with ⟨h7,hm⟩|⟨h7,hm⟩
 ·refine c1 h7 (sq (dn [ko] (jc ?_)))
  cases hm;exact hJ
 refine c0 h7 (jd (sq (rg (s1 2 [(32,.agg (zc8 a0)),(31,.ptr 0 3)] ?_))))
 obtain ⟨x8,h9,hm⟩:=bs hm
 refine dv 33 (zC hH (aiA h9) hH hH hH) hH (s1 1 [(34,aB x8)] ?_)
 refine seg x8 [34,33] (fun b=>[(44,aB (b&&((a0.A==2)||(a0.F.A==0)))),(43,ifA b (aB ((a0.A==2)||(a0.F.A==0))) hY),(42,ifA b (ifA (a0.A==2) hY (aB (a0.F.A==0))) hY),(41,ifA b (ifA (a0.A==2) hY (aI a0.F.A)) hY),(40,ifA b (ifA (a0.A==2) hY (.ptr 0 3)) hY),(39,ifA b (ifA (a0.A==2) hY (.ptr 0 3)) hY),(38,ifA b (aB (a0.A==2)) hY),(37,ifA b (aB (a0.A==2)) hY),(36,ifA b (aI a0.A) hY),(35,ifA b (.ptr 0 0) hY)]) 14 hH ?_ ?_ ?_
 ·intro Q h
  refine s1 4 [(38,aB (a0.A==2)),(37,aB (a0.A==2)),(36,aI a0.A),(35,.ptr 0 0)] ?_
  refine segP (a0.A==2) [38,37] (fun b=>[(43,aB (b||(a0.F.A==0))),(42,ifA b hY (aB (a0.F.A==0))),(41,ifA b hY (aI a0.F.A)),(40,ifA b hY (.ptr 0 3)),(39,ifA b hY (.ptr 0 3))]) 5 hH hH hH (s1 1 [(44,aB ((a0.A==2)||(a0.F.A==0)))] ?_)
  exact Ze hH hH h
 ·intro Q h
  refine s1 10 [(44,aB false),(43,.undef),(42,.undef),(41,.undef),(40,.undef),(39,.undef),(38,.undef),(37,.undef),(36,.undef),(35,.undef)] ?_
  exact Ze hH hH h
 refine fq 1 [(2,aB (x8&&((a0.A==2)||(a0.F.A==0))))] (jc ?_)
 cases hm;exact hJ
abbrev zc9 (p0:zb):List AV:=[aI ((zc p0).A),aI ((zc p0).C),aI ((zc p0).M),aI (((zc p0).F).A),aI (((zc p0).F).K),aF (((zc p0).F).I),aS (((zc p0).F).N),.pv (zk za ((zc p0).B))]
abbrev zp52 (p0:zf):Nat×AV:=(32,.pv (zk za p0.B))
abbrev zp53 (p0:zf):Nat×AV:=(33,aI ((sll p0.B).length:Int))
abbrev abb (p0:zf):=(zk za p0.B)
abbrev afb (p0:zf):=((sll p0.B).length:Int)
abbrev alU (p0:Int):=(IntKind.wrap .i64 (p0-1))
abbrev adU (p0:Int) (p1:zf):=(decide (p0<((sll p1.B).length:Int)))
theorem amQ {rc_expr_count:(Nat→zf→Int→Int→Option (Int))}(ih_expr_count:∀ {n:Nat}{a0:zf}{a1:Int}{a2:Int}{r:Int}(hm:rc_expr_count n a0 a1 a2=some r),call G n 182 [.agg [aI a0.A,aI a0.C,aI a0.M,aI a0.F.A,aI a0.F.K,aF a0.F.I,aS a0.F.N,.pv (zk za a0.B)],aI a1,aI a2] []=some (.ret (aI r),[])) {n:Nat}{a0:zf}{a1:Int}{a2:Int}{r:Int}(hm:abB rc_expr_count n a0 a1 a2=some r):
   call G n 182 [.agg (zc7 a0),aI a1,aI a2] []=some (.ret (aI r),[]):=by
 unfold abB at hm
 obtain ⟨n,rfl,h0⟩:=zp hm
 replace hm:=h0;clear h0
 refine zT 47 [(0,.agg (zc7 a0)),(1,aI a1),(2,aI a2)] func182 rfl hH (sq (det [(1,aI a1),(2,aI a2),jE] [.box (zc7 a0) false] hH ?_))
 refine sq (sq (rgd (shd 3 [(11,aB (decide (a1>24))),(10,aB (decide (a1>24))),(9,aI a1)] hH ?_)))
 rcases zd hm with ⟨h,hm⟩|⟨h,hm⟩
 ·refine zM [11,10] h hH (shd 17 [kq,(27,.undef),(26,.undef),(25,.undef),kA,kz,(22,.undef),(21,.undef),(20,.undef),(19,.undef),(18,.undef),(17,.undef),(16,.undef),kJ,(14,aB true),(13,.undef),(12,.undef)] hH (find [(1,aI a1),(2,aI a2),jE,kq] rfl hH hH (cT hH (sq (dn [(6,aI (-1))] (jc ?_))))))
  cases hm;exact hJ
 refine zM [11,10] h hH (shd 4 [(15,aB (decide (a2<1))),(14,aB (decide (a2<1))),(13,aB (decide (a2<1))),(12,aI a2)] hH ?_)
 rcases zd hm with ⟨h,hm⟩|⟨h,hm⟩
 ·refine zM [15,14,13] h hH (shd 13 [kq,(27,.undef),(26,.undef),(25,.undef),kA,kz,(22,.undef),(21,.undef),(20,.undef),(19,.undef),(18,.undef),(17,.undef),(16,.undef)] hH (find [(1,aI a1),(2,aI a2),jE,kq] rfl hH hH (cT hH (sq (dn [(6,aI (-1))] (jc ?_))))))
  cases hm;exact hJ
 refine zM [15,14,13] h hH (shd 2 [(17,aI a0.A),(16,.ptr 0 0)] hH ?_)
 obtain ⟨x3,h4,hm⟩:=bs hm
 refine dvd 18 (zC hH (aqJ h4) hH hH hH) hH (shd 2 [(20,.pv (abb a0)),(19,.ptr 0 7)] hH (dvd 21 (v:=aI (afb a0)) (zu za a0.B t23 hH) hH (shd 3 [(24,aB (x3 !=((sll a0.B).length:Int))),(23,aB (x3 !=((sll a0.B).length:Int))),(22,aB (x3 !=((sll a0.B).length:Int)))] hH ?_)))
 rcases zd hm with ⟨h,hm⟩|⟨h,hm⟩
 ·refine zM [24,23,22] h hH (shd 4 [kq,(27,.undef),(26,.undef),(25,.undef)] hH (find [(1,aI a1),(2,aI a2),jE,kq] rfl hH hH (cT hH (sq (dn [(6,aI (-1))] (jc ?_))))))
  cases hm;exact hJ
 refine zM [24,23,22] h hH (shd 1 [(25,.agg (zc7 a0))] hH ?_)
 obtain ⟨x6,h7,hm⟩:=bs hm
 refine dvd 26 (zC hH (anP h7) hH hH hH) hH (shd 2 [(28,aB (!x6)),(27,aB (!x6))] hH (find [(1,aI a1),(2,aI a2),jE,(28,aB (!x6))] rfl hH hH ?_))
 rcases zd hm with ⟨h,hm⟩|⟨h,hm⟩
 ·refine c1 h (sq (dn [(6,aI (-1))] (jc ?_)))
  cases hm;exact hJ
 refine c0 h (jd (sq (dn [(1,aI a1),(2,aI (alU a2)),jE] ?_)))
 obtain ⟨k12,hk12,hm⟩:=zo hm
 refine mid (fun t H=>(∃ (y9:Int) (y10:Int) (y11:Bool),k12 y9=some r∧t=mk 47 [(1,aI a1),(2,aI y9),(zp52 a0),(zp53 a0),(34,aI y10),(35,aB y11)]∧H=[.box (zc7 a0) false])) ?_ ?_
 ·rintro _ _ ⟨y9,y10,y11,hm,rfl,rfl⟩
  subst hk12
  refine sq (dn [(6,aI y9)] (jc ?_))
  cases hm;exact hJ
 refine sq (rg (s1 2 [(zp52 a0),(31,.ptr 0 7)] (dv 33 (v:=aI (afb a0)) (zu za a0.B t23 hH) hH (fq 1 [(1,aI a1),(2,aI (alU a2)),(zp52 a0),(zp53 a0),(34,aI 0)] (bq ?_)))))
 refine ZR (fun mm t H=>(∃ (y15:Int) (y16:Int),abQ n rc_expr_count a0 a1 k12 mm y15 y16=some r∧t=mk 47 [(1,aI a1),(2,aI y15),(zp52 a0),(zp53 a0),(34,aI y16)]∧H=[.box (zc7 a0) false])) (⟨(IntKind.wrap .i64 (a2-1)),0,hm,rfl,rfl⟩) ?_ ?_
 ·
   rintro _ _ ⟨y15,y16,hm,_⟩;exact nomatch hm
 rintro m17 _ _ ⟨y15,y16,hm,rfl,rfl⟩
 simp only [abQ] at hm
 refine sq (dn [(1,aI a1),(2,aI y15),(zp52 a0),(zp53 a0),(34,aI y16),(35,aB (adU y16 a0))] ?_)
 refine sq ?_
 rcases zd hm with ⟨h,hm⟩|⟨h,hm⟩
 ·refine c1 h (jd (sq (bq (sq (rg ?_)))))
  obtain ⟨x19,h20,hm⟩:=bs hm
  refine dv 36 (v:=.pv (.ptr (Z5 x19) 0)) (zS za a0.B .i64 t23 t49 h20 (zt x19) rfl hH) hH (stf 3 [(1,aI a1),(2,aI y15),(8,.ptr 1 0),(zp52 a0),(zp53 a0),(34,aI y16)] [.box (zc7 a0) false,.box (zc9 x19) false] hH (sq (rg (s1 4 [(41,aI y15),(40,aI (zN a1)),(39,aI a1),(38,.agg (zc9 x19))] ?_))))
  obtain ⟨x21,h22,hm⟩:=bs hm
  refine dv 42 (zC hH (ih_expr_count h22) hH hH hH) hH (fq 1 [(1,aI a1),(2,aI x21),(zp52 a0),(zp53 a0),(34,aI y16)] (sq (dn [(1,aI a1),(2,aI x21),(zp52 a0),(zp53 a0),(34,aI y16),(44,aB (decide (x21<0)))] ?_)))
  rcases zd hm with ⟨h,hm⟩|⟨h,hm⟩
  ·refine c1 h (sq (dn [(6,aI (-1))] (jc ?_)))
   cases hm;exact hJ
  refine c0 h (jd (dn [(1,aI a1),(2,aI x21),(zp52 a0),(zp53 a0),(34,aI (zN y16))] ?_))
  exact ⟨_,_,Zg [(1,aI a1),(2,aI x21),(zp52 a0),(zp53 a0),(34,aI (zN y16))] [.box (zc7 a0) false] hH,⟨x21,(zN y16),hm,rfl,rfl⟩⟩
 refine c0 h (je ?_)
 exact ⟨y15,y16,(adU y16 a0),hm,rfl,rfl⟩
theorem ah4:∀ (m:Nat),∀ {n:Nat}{a0:zf}{a1:Int}{a2:Int}{r:Int}(hm:QZ m n a0 a1 a2=some r),call G n 182 [.agg (zc7 a0),aI a1,aI a2] []=some (.ret (aI r),[])
 |0=>by intros;rename_i hm;exact nomatch hm
 |m+1=>fun hm=>
  amQ (ah4 m) hm
theorem aon {n:Nat}{a0:zf}{a1:Int}{a2:Int}{r:Int}(hm:ajJ n a0 a1 a2=some r):
 call G n 182 [.agg (zc7 a0),aI a1,aI a2] []=some (.ret (aI r),[]):=ah4 n hm
theorem afX {n:Nat}{a0:zf}{r:Bool}(hm:acE n a0=some r):
  call G n 143 [.agg (zc7 a0)] []=some (.ret (aB r),[]):=by
 unfold acE at hm
 obtain ⟨n,rfl,h0⟩:=zp hm
 replace hm:=h0;clear h0
 refine zT 6 [(0,.agg (zc7 a0))] func143 rfl hH (sq (det [jA] [.box (zc7 a0) false] hH (sq (rg (s1 1 [(3,.agg (zc7 a0))] ?_)))))
 obtain ⟨x1,h2,hm⟩:=bs hm
 refine dv 4 (zC hH (aon h2) hH hH hH) hH (fq 2 [(2,aB (decide (x1≥0)))] (jc ?_))
 cases hm;exact hJ
abbrev alz (p0:zf) (p1:zg):=(decide (p0.M≥((sll p1.R).length:Int)))
theorem aa7 {n:Nat}{a0:zf}{a1:jn}{r:Int ⊕ (Int)}(hm:acD n a0 a1=some r):
   call G n 184 [.agg (zc7 a0),.pv (zy a1)] []=some (PO 34 (fun (r:Int)=>aI r) r,[]):=by
 unfold acD at hm
 obtain ⟨n,rfl,h0⟩:=zp hm
 replace hm:=h0;clear h0
 refine apK 34 [(0,.agg (zc7 a0)),(zp33 a1)] func184 rfl hH (sq (det [(zp33 a1),jz] [.box (zc7 a0) false] hH ?_))
 refine sq (sq (rgd (shd 3 [(7,.pv (zy a1)),(6,aI a0.C),(5,.ptr 0 1)] hH (dvd 8 (v:=aI ((sll a1).length:Int)) (zu zm a1 t28 hH) hH (shd 2 [(10,aB (decide (a0.C≥((sll a1).length:Int)))),(9,aB (decide (a0.C≥((sll a1).length:Int))))] hH ?_)))))
 rcases zd hm with ⟨h,hm⟩|⟨h,hm⟩
 ·refine zM [10,9] h hH (shd 11 [(21,aB true),(20,.undef),(19,.undef),(18,.undef),(17,.undef),(16,.undef),(15,.undef),(14,.undef),(13,.undef),(12,.undef),(11,.undef)] hH (find [(zp33 a1),jz,(21,aB true)] rfl hH hH (cT hH (rg (s1 1 [(22,.pv (.ifc 34 (.int .i64 40)))] ?_)))))
  obtain rfl:=jf hm
  exact rp0 (v:=.pv (.ifc 34 (.int .i64 40))) hH hH (fun _=>hJ)
 refine zM [10,9] h hH (shd 5 [(15,aI a0.C),(14,.ptr 0 1),(13,.pv (zy a1)),(12,aI a0.M),(11,.ptr 0 2)] hH ?_)
 obtain ⟨x2,h3,hm⟩:=bs hm
 refine dvd 16 (v:=.pv (.ptr (zm x2) 0)) (Zz zm a1 .i64 t28 t84 h3 rfl hH) hH (shd 2 [(18,.pv (anL x2)),(17,.pv (.ptr (zm x2) 1))] hH (dvd 19 (v:=aI ((sll x2.R).length:Int)) (zu zU x2.R t82 hH) hH (shd 2 [(21,aB (alz a0 x2)),(20,aB (alz a0 x2))] hH (find [(zp33 a1),jz,(21,aB (alz a0 x2))] rfl hH hH ?_))))
 rcases zd hm with ⟨h,hm⟩|⟨h,hm⟩
 ·refine c1 h (rg (s1 1 [(22,.pv (.ifc 34 (.int .i64 40)))] ?_))
  obtain rfl:=jf hm
  exact rp0 (v:=.pv (.ifc 34 (.int .i64 40))) hH hH (fun _=>hJ)
 refine c0 h (jd (sq (rgd (shd 3 [(25,aI a0.C),(24,.ptr 0 1),(23,.pv (zy a1))] hH (dvd 26 (v:=.pv (.ptr (zm x2) 0)) (Zz zm a1 .i64 t28 t84 h3 rfl hH) hH (shd 4 [(30,aI a0.M),(29,.ptr 0 2),(28,.pv (anL x2)),(27,.pv (.ptr (zm x2) 1))] hH ?_))))))
 obtain ⟨x5,h6,hm⟩:=bs hm
 refine dvd 31 (v:=.pv (.ptr (zU x5) 0)) (Zz zU x2.R .i64 t82 t81 h6 rfl hH) hH (shd 3 [(4,aI x5.A),(33,aI x5.A),(32,.pv (.ptr (zU x5) 1))] hH (find [(4,aI x5.A)] rfl hH hH (jc ?_)))
 cases hm;exact hJ
abbrev zp54 (p0:zf):Nat×AV:=(13,.pv (zk za p0.B))
abbrev zp55 (p0:zf):Nat×AV:=(14,aI ((sll p0.B).length:Int))
abbrev zp56 (p0:Int):Nat×AV:=(15,aI (IntKind.wrap .i64 (p0+1)))
theorem aoj {rc_expr_refs:(Nat→zf→jn→Option (Int ⊕ (Unit)))}(ih_expr_refs:∀ {n:Nat}{a0:zf}{a1:jn}{r:Int ⊕ (Unit)}(hm:rc_expr_refs n a0 a1=some r),call G n 146 [.agg [aI a0.A,aI a0.C,aI a0.M,aI a0.F.A,aI a0.F.K,aF a0.F.I,aS a0.F.N,.pv (zk za a0.B)],.pv (zk zm a1)] []=some (PO 34 (fun (r:Unit)=>.tup []) r,[])) {n:Nat}{a0:zf}{a1:jn}{r:Int ⊕ (Unit)}(hm:aeZ rc_expr_refs n a0 a1=some r):
   call G n 146 [.agg (zc7 a0),.pv (zy a1)] []=some (PO 34 (fun (r:Unit)=>.tup []) r,[]):=by
 unfold aeZ at hm
 obtain ⟨n,rfl,h0⟩:=zp hm
 replace hm:=h0;clear h0
 refine apK 23 [(0,.agg (zc7 a0)),(zp33 a1)] func146 rfl hH (sq (det [(zp33 a1),jz] [.box (zc7 a0) false] hH ?_))
 obtain ⟨k2,hk2,hm⟩:=zo hm
 refine mid (fun t H=>(∃ (w1:AV),k2 ()=some r∧t=mk 23 [(zp33 a1),jz,(8,w1)]∧H=[.box (zc7 a0) false])) ?_ ?_
 ·rintro _ _ ⟨w1,hm,rfl,rfl⟩
  subst hk2
  refine sq (rg (s1 2 [(zp54 a0),(12,.ptr 0 7)] (dv 14 (v:=aI (afb a0)) (zu za a0.B t23 hH) hH (fq 1 [(zp33 a1),(zp54 a0),(zp55 a0),(15,aI 0)] (bq ?_)))))
  refine ZR (fun mm t H=>(∃ (y4:Int),aaK n rc_expr_refs a0 a1 mm y4=some r∧t=mk 23 [(zp33 a1),(zp54 a0),(zp55 a0),(15,aI y4)]∧H=[.box (zc7 a0) false])) (⟨0,hm,rfl,rfl⟩) ?_ ?_
  ·
    rintro _ _ ⟨y4,hm,_⟩;exact nomatch hm
  rintro m5 _ _ ⟨y4,hm,rfl,rfl⟩
  simp only [aaK] at hm
  refine sq (dn [(zp33 a1),(zp54 a0),(zp55 a0),(15,aI y4),(16,aB (adU y4 a0))] ?_)
  refine sq ?_
  rcases zd hm with ⟨h,hm⟩|⟨h,hm⟩
  ·refine c1 h (jd (sq (bq (sq (rg ?_)))))
   obtain ⟨x7,h8,hm⟩:=bs hm
   refine dv 17 (v:=.pv (.ptr (Z5 x7) 0)) (zS za a0.B .i64 t23 t49 h8 (zt x7) rfl hH) hH (stf 3 [(zp33 a1),(5,.ptr 1 0),(zp54 a0),(zp55 a0),(15,aI y4)] [.box (zc7 a0) false,.box (zc9 x7) false] hH (rg (s1 2 [(20,.pv (zy a1)),(19,.agg (zc9 x7))] ?_)))
   obtain ⟨x9,h10,hm⟩:=bs hm
   rcases x9 with x11|x9
   ·obtain rfl:=jf hm
    exact rp0 (v:=.pv (.ifc 34 (.int .i64 x11))) (cpan hH (ih_expr_refs h10) hH hH hH) hH (fun _=>hJ)
   refine dv 21 (zC hH (ih_expr_refs h10) hH hH hH) hH (fin [(zp33 a1),(zp54 a0),(zp55 a0),(15,aI y4)] rfl hH (dn [(zp33 a1),(zp54 a0),(zp55 a0),(zp56 y4)] ?_))
   exact ⟨_,_,Zg [(zp33 a1),(zp54 a0),(zp55 a0),(zp56 y4)] [.box (zc7 a0) false] hH,⟨(zN y4),hm,rfl,rfl⟩⟩
  refine c0 h (je ?_)
  cases hm;exact hJ
 refine sq (dn [(zp33 a1),jz,(8,aB (a0.A==1))] ?_)
 rcases zd hm with ⟨h,hm⟩|⟨h,hm⟩
 ·refine c1 h (rg (s1 2 [(10,.pv (zy a1)),(9,.agg (zc7 a0))] ?_))
  obtain ⟨x13,h14,hm⟩:=bs hm
  rcases x13 with x15|x13
  ·obtain rfl:=jf hm
   exact rp0 (v:=.pv (.ifc 34 (.int .i64 x15))) (cpan hH (aa7 h14) hH hH hH) hH (fun _=>hJ)
  refine dv 11 (zC hH (aa7 h14) hH hH hH) hH (fin [(zp33 a1),jz] rfl hH ?_)
  exact ⟨.any,hm,(zD hH),rfl⟩
 refine c0 h (jd ?_)
 exact ⟨aB (a0.A==1),hm,(zD hH),rfl⟩
theorem aju:∀ (m:Nat),∀ {n:Nat}{a0:zf}{a1:jn}{r:Int ⊕ (Unit)}(hm:abh m n a0 a1=some r),call G n 146 [.agg (zc7 a0),.pv (zk zm a1)] []=some (PO 34 (fun (r:Unit)=>.tup []) r,[])
 |0=>by intros;rename_i hm;exact nomatch hm
 |m+1=>fun hm=>
  aoj (aju m) hm
theorem akg {n:Nat}{a0:zf}{a1:jn}{r:Int ⊕ (Unit)}(hm:ak3 n a0 a1=some r):
 call G n 146 [.agg (zc7 a0),.pv (zy a1)] []=some (PO 34 (fun (r:Unit)=>.tup []) r,[]):=aju n hm
theorem ahx {n:Nat}{a0:Int}{r:Bool}(hm:ad3 n a0=some r):
  call G n 186 [aI a0] []=some (.ret (aB r),[]):=by
 unfold ad3 at hm
 obtain ⟨n,rfl,h0⟩:=zp hm
 replace hm:=h0;clear h0
 refine zT 13 [(0,aI a0)] func186 rfl hH (sq (dn [(0,aI a0)] (sq (rg (s1 3 [(5,aB (a0==0)),(4,aB (a0==0)),(3,aI a0)] ?_)))))
 refine segP (a0==0) [5,4] (fun b=>[(8,aB (b||(a0==2))),(7,ifA b hY (aB (a0==2))),(6,ifA b hY (aI a0))]) 3 hH hH hH (s1 1 [(9,aB ((a0==0)||(a0==2)))] ?_)
 refine segP ((a0==0)||(a0==2)) [9,8] (fun b=>[(12,aB (b||(a0==3))),(11,ifA b hY (aB (a0==3))),(10,ifA b hY (aI a0))]) 3 hH hH hH (fq 1 [(2,aB (((a0==0)||(a0==2))||(a0==3)))] (jc ?_))
 cases hm;exact hJ
abbrev zp57:Nat×AV:=(30,.pv (.ifc 34 (.int .i64 50)))
abbrev apM (p0:Int) (p1:Int):=(((p0 !=0)&&(p1 !=0))&&(p0 !=p1))
theorem QT {n:Nat}{a0:Int}{a1:Int}{r:Int ⊕ (Int)}(hm:qY n a0 a1=some r):
   call G n 185 [aI a0,aI a1,.pv (.fn 186 [] [])] []=some (PO 34 (fun (r:Int)=>aI r) r,[]):=by
 unfold qY at hm
 obtain ⟨n,rfl,h0⟩:=zp hm
 replace hm:=h0;clear h0
 refine apK 34 [(0,aI a0),(1,aI a1),(2,.pv (.fn 186 [] []))] func185 rfl hH (sq (dn [(0,aI a0),(1,aI a1),(2,.pv (.fn 186 [] []))] (sq (sq (rg (s1 2 [(8,aI a0),(7,.pv (.fn 186 [] []))] ?_))))))
 obtain ⟨x1,h2,hm⟩:=bs hm
 refine dv 9 (zC hH (ahx h2) hH hH hH) hH (s1 2 [(11,aB (!x1)),(10,aB (!x1))] ?_)
 rcases zd hm with ⟨h3,hm⟩|⟨h3,hm⟩
 ·refine known [11,10] h3 hH (fq 18 [(0,aI a0),(1,aI a1),kr] (cT hH (rg (s1 1 [zp57] ?_))))
  obtain rfl:=jf hm
  exact rp0 (v:=.pv (.ifc 34 (.int .i64 50))) hH hH (fun _=>hJ)
 refine known [11,10] h3 hH (s1 2 [(13,aI a1),(12,.pv (.fn 186 [] []))] ?_)
 obtain ⟨x4,h5,hm⟩:=bs hm
 refine dv 14 (zC hH (ahx h5) hH hH hH) hH (s1 3 [(17,aB (!x4)),(16,aB (!x4)),(15,aB (!x4))] ?_)
 refine seg (!x4) [17,16,15] (fun b=>[(29,aB (b||(apM a0 a1))),(28,ifA b hY (aB (((a0 !=0)&&(a1 !=0))&&(a0 !=a1)))),(27,ifA b hY (ifA ((a0 !=0)&&(a1 !=0)) (aB (a0 !=a1)) hY)),(26,ifA b hY (ifA ((a0 !=0)&&(a1 !=0)) (aI a1) hY)),(25,ifA b hY (ifA ((a0 !=0)&&(a1 !=0)) (aI a0) hY)),(24,ifA b hY (aB ((a0 !=0)&&(a1 !=0)))),(23,ifA b hY (aB ((a0 !=0)&&(a1 !=0)))),(22,ifA b hY (ifA (a0 !=0) (aB (a1 !=0)) hY)),(21,ifA b hY (ifA (a0 !=0) (aI a1) hY)),(20,ifA b hY (aB (a0 !=0))),(19,ifA b hY (aB (a0 !=0))),(18,ifA b hY (aI a0))]) 23 hH ?_ ?_ ?_
 ·intro Q h
  refine s1 12 [kr,(28,.undef),(27,.undef),(26,.undef),(25,.undef),(24,.undef),(23,.undef),(22,.undef),(21,.undef),(20,.undef),(19,.undef),(18,.undef)] ?_
  exact Ze hH hH h
 ·intro Q h
  refine s1 3 [(20,aB (a0 !=0)),(19,aB (a0 !=0)),(18,aI a0)] ?_
  refine segP (a0 !=0) [20,19] (fun b=>[(23,aB (b&&(a1 !=0))),(22,ifA b (aB (a1 !=0)) hY),(21,ifA b (aI a1) hY)]) 3 hH hH hH (s1 1 [(24,aB ((a0 !=0)&&(a1 !=0)))] ?_)
  refine segP ((a0 !=0)&&(a1 !=0)) [24,23] (fun b=>[(28,aB (b&&(a0 !=a1))),(27,ifA b (aB (a0 !=a1)) hY),(26,ifA b (aI a1) hY),(25,ifA b (aI a0) hY)]) 4 hH hH hH (s1 1 [(29,aB (apM a0 a1))] ?_)
  exact Ze hH hH h
 refine fin [(0,aI a0),(1,aI a1),(29,aB ((!x4)||(((a0 !=0)&&(a1 !=0))&&(a0 !=a1))))] rfl hH ?_
 rcases zd hm with ⟨h6,hm⟩|⟨h6,hm⟩
 ·refine c1 h6 (rg (s1 1 [zp57] ?_))
  obtain rfl:=jf hm
  exact rp0 (v:=.pv (.ifc 34 (.int .i64 50))) hH hH (fun _=>hJ)
 refine c0 h6 (jd (sq (dn [(6,aI (if a1>a0 then a1 else a0))] (jc ?_))))
 cases hm;exact hJ
theorem ahz {n:Nat}{a0:Int}{r:Bool}(hm:ad9 n a0=some r):
  call G n 187 [aI a0] []=some (.ret (aB r),[]):=by
 unfold ad9 at hm
 obtain ⟨n,rfl,h0⟩:=zp hm
 replace hm:=h0;clear h0
 refine zT 3 [(0,aI a0)] func187 rfl hH (sq (dn [] (sq (dn [kK] (jc ?_)))))
 cases hm;exact hJ
theorem ac7 {n:Nat}{a0:Int}{a1:Int}{r:Int ⊕ (Int)}(hm:QJ n a0 a1=some r):
   call G n 185 [aI a0,aI a1,.pv (.fn 187 [] [])] []=some (PO 34 (fun (r:Int)=>aI r) r,[]):=by
 unfold QJ at hm
 obtain ⟨n,rfl,h0⟩:=zp hm
 replace hm:=h0;clear h0
 refine apK 34 [(0,aI a0),(1,aI a1),(2,.pv (.fn 187 [] []))] func185 rfl hH (sq (dn [(0,aI a0),(1,aI a1),(2,.pv (.fn 187 [] []))] (sq (sq (rg (s1 2 [(8,aI a0),(7,.pv (.fn 187 [] []))] ?_))))))
 obtain ⟨x1,h2,hm⟩:=bs hm
 refine dv 9 (zC hH (ahz h2) hH hH hH) hH (s1 2 [(11,aB (!x1)),(10,aB (!x1))] ?_)
 rcases zd hm with ⟨h3,hm⟩|⟨h3,hm⟩
 ·refine known [11,10] h3 hH (fq 18 [(0,aI a0),(1,aI a1),kr] (cT hH (rg (s1 1 [zp57] ?_))))
  obtain rfl:=jf hm
  exact rp0 (v:=.pv (.ifc 34 (.int .i64 50))) hH hH (fun _=>hJ)
 refine known [11,10] h3 hH (s1 2 [(13,aI a1),(12,.pv (.fn 187 [] []))] ?_)
 obtain ⟨x4,h5,hm⟩:=bs hm
 refine dv 14 (zC hH (ahz h5) hH hH hH) hH (s1 3 [(17,aB (!x4)),(16,aB (!x4)),(15,aB (!x4))] ?_)
 refine seg (!x4) [17,16,15] (fun b=>[(29,aB (b||(apM a0 a1))),(28,ifA b hY (aB (((a0 !=0)&&(a1 !=0))&&(a0 !=a1)))),(27,ifA b hY (ifA ((a0 !=0)&&(a1 !=0)) (aB (a0 !=a1)) hY)),(26,ifA b hY (ifA ((a0 !=0)&&(a1 !=0)) (aI a1) hY)),(25,ifA b hY (ifA ((a0 !=0)&&(a1 !=0)) (aI a0) hY)),(24,ifA b hY (aB ((a0 !=0)&&(a1 !=0)))),(23,ifA b hY (aB ((a0 !=0)&&(a1 !=0)))),(22,ifA b hY (ifA (a0 !=0) (aB (a1 !=0)) hY)),(21,ifA b hY (ifA (a0 !=0) (aI a1) hY)),(20,ifA b hY (aB (a0 !=0))),(19,ifA b hY (aB (a0 !=0))),(18,ifA b hY (aI a0))]) 23 hH ?_ ?_ ?_
 ·intro Q h
  refine s1 12 [kr,(28,.undef),(27,.undef),(26,.undef),(25,.undef),(24,.undef),(23,.undef),(22,.undef),(21,.undef),(20,.undef),(19,.undef),(18,.undef)] ?_
  exact Ze hH hH h
 ·intro Q h
  refine s1 3 [(20,aB (a0 !=0)),(19,aB (a0 !=0)),(18,aI a0)] ?_
  refine segP (a0 !=0) [20,19] (fun b=>[(23,aB (b&&(a1 !=0))),(22,ifA b (aB (a1 !=0)) hY),(21,ifA b (aI a1) hY)]) 3 hH hH hH (s1 1 [(24,aB ((a0 !=0)&&(a1 !=0)))] ?_)
  refine segP ((a0 !=0)&&(a1 !=0)) [24,23] (fun b=>[(28,aB (b&&(a0 !=a1))),(27,ifA b (aB (a0 !=a1)) hY),(26,ifA b (aI a1) hY),(25,ifA b (aI a0) hY)]) 4 hH hH hH (s1 1 [(29,aB (apM a0 a1))] ?_)
  exact Ze hH hH h
 refine fin [(0,aI a0),(1,aI a1),(29,aB ((!x4)||(((a0 !=0)&&(a1 !=0))&&(a0 !=a1))))] rfl hH ?_
 rcases zd hm with ⟨h6,hm⟩|⟨h6,hm⟩
 ·refine c1 h6 (rg (s1 1 [zp57] ?_))
  obtain rfl:=jf hm
  exact rp0 (v:=.pv (.ifc 34 (.int .i64 50))) hH hH (fun _=>hJ)
 refine c0 h6 (jd (sq (dn [(6,aI (if a1>a0 then a1 else a0))] (jc ?_))))
 cases hm;exact hJ
theorem ajA {n:Nat}{a0:Int}{r:Bool}(hm:afY n a0=some r):
  call G n 188 [aI a0] []=some (.ret (aB r),[]):=by
 unfold afY at hm
 obtain ⟨n,rfl,h0⟩:=zp hm
 replace hm:=h0;clear h0
 refine zT 9 [(0,aI a0)] func188 rfl hH (sq (dn [(0,aI a0)] (sq (rg (s1 3 [(5,aB (a0==0)),(4,aB (a0==0)),(3,aI a0)] ?_)))))
 refine segP (a0==0) [5,4] (fun b=>[(8,aB (b||(a0==1))),(7,ifA b hY (aB (a0==1))),(6,ifA b hY (aI a0))]) 3 hH hH hH (fq 1 [(2,aB ((a0==0)||(a0==1)))] (jc ?_))
 cases hm;exact hJ
theorem aab {n:Nat}{a0:Int}{a1:Int}{r:Int ⊕ (Int)}(hm:QA n a0 a1=some r):
   call G n 185 [aI a0,aI a1,.pv (.fn 188 [] [])] []=some (PO 34 (fun (r:Int)=>aI r) r,[]):=by
 unfold QA at hm
 obtain ⟨n,rfl,h0⟩:=zp hm
 replace hm:=h0;clear h0
 refine apK 34 [(0,aI a0),(1,aI a1),(2,.pv (.fn 188 [] []))] func185 rfl hH (sq (dn [(0,aI a0),(1,aI a1),(2,.pv (.fn 188 [] []))] (sq (sq (rg (s1 2 [(8,aI a0),(7,.pv (.fn 188 [] []))] ?_))))))
 obtain ⟨x1,h2,hm⟩:=bs hm
 refine dv 9 (zC hH (ajA h2) hH hH hH) hH (s1 2 [(11,aB (!x1)),(10,aB (!x1))] ?_)
 rcases zd hm with ⟨h3,hm⟩|⟨h3,hm⟩
 ·refine known [11,10] h3 hH (fq 18 [(0,aI a0),(1,aI a1),kr] (cT hH (rg (s1 1 [zp57] ?_))))
  obtain rfl:=jf hm
  exact rp0 (v:=.pv (.ifc 34 (.int .i64 50))) hH hH (fun _=>hJ)
 refine known [11,10] h3 hH (s1 2 [(13,aI a1),(12,.pv (.fn 188 [] []))] ?_)
 obtain ⟨x4,h5,hm⟩:=bs hm
 refine dv 14 (zC hH (ajA h5) hH hH hH) hH (s1 3 [(17,aB (!x4)),(16,aB (!x4)),(15,aB (!x4))] ?_)
 refine seg (!x4) [17,16,15] (fun b=>[(29,aB (b||(apM a0 a1))),(28,ifA b hY (aB (((a0 !=0)&&(a1 !=0))&&(a0 !=a1)))),(27,ifA b hY (ifA ((a0 !=0)&&(a1 !=0)) (aB (a0 !=a1)) hY)),(26,ifA b hY (ifA ((a0 !=0)&&(a1 !=0)) (aI a1) hY)),(25,ifA b hY (ifA ((a0 !=0)&&(a1 !=0)) (aI a0) hY)),(24,ifA b hY (aB ((a0 !=0)&&(a1 !=0)))),(23,ifA b hY (aB ((a0 !=0)&&(a1 !=0)))),(22,ifA b hY (ifA (a0 !=0) (aB (a1 !=0)) hY)),(21,ifA b hY (ifA (a0 !=0) (aI a1) hY)),(20,ifA b hY (aB (a0 !=0))),(19,ifA b hY (aB (a0 !=0))),(18,ifA b hY (aI a0))]) 23 hH ?_ ?_ ?_
 ·intro Q h
  refine s1 12 [kr,(28,.undef),(27,.undef),(26,.undef),(25,.undef),(24,.undef),(23,.undef),(22,.undef),(21,.undef),(20,.undef),(19,.undef),(18,.undef)] ?_
  exact Ze hH hH h
 ·intro Q h
  refine s1 3 [(20,aB (a0 !=0)),(19,aB (a0 !=0)),(18,aI a0)] ?_
  refine segP (a0 !=0) [20,19] (fun b=>[(23,aB (b&&(a1 !=0))),(22,ifA b (aB (a1 !=0)) hY),(21,ifA b (aI a1) hY)]) 3 hH hH hH (s1 1 [(24,aB ((a0 !=0)&&(a1 !=0)))] ?_)
  refine segP ((a0 !=0)&&(a1 !=0)) [24,23] (fun b=>[(28,aB (b&&(a0 !=a1))),(27,ifA b (aB (a0 !=a1)) hY),(26,ifA b (aI a1) hY),(25,ifA b (aI a0) hY)]) 4 hH hH hH (s1 1 [(29,aB (apM a0 a1))] ?_)
  exact Ze hH hH h
 refine fin [(0,aI a0),(1,aI a1),(29,aB ((!x4)||(((a0 !=0)&&(a1 !=0))&&(a0 !=a1))))] rfl hH ?_
 rcases zd hm with ⟨h6,hm⟩|⟨h6,hm⟩
 ·refine c1 h6 (rg (s1 1 [zp57] ?_))
  obtain rfl:=jf hm
  exact rp0 (v:=.pv (.ifc 34 (.int .i64 50))) hH hH (fun _=>hJ)
 refine c0 h6 (jd (sq (dn [(6,aI (if a1>a0 then a1 else a0))] (jc ?_))))
 cases hm;exact hJ
abbrev zp58 (p0:zf):Nat×AV:=(9,.pv (zk za p0.B))
abbrev zp59 (p0:zf):Nat×AV:=(10,aI ((sll p0.B).length:Int))
abbrev zp60 (p0:Int) (p1:zf):Nat×AV:=(12,aB (decide (p0<((sll p1.B).length:Int))))
abbrev zp61 (p0:Int):Nat×AV:=(11,aI (IntKind.wrap .i64 (p0+1)))
abbrev alD (p0:Int):=(([p0]:List Int).length)
abbrev alP (p0:(List Int)) (p1:Int):=((p0++([p1]:List Int)).length)
theorem anu {rc_expr_typed:(Nat→zf→jn→Option (Int ⊕ (Int)))}(ih_expr_typed:∀ {n:Nat}{a0:zf}{a1:jn}{r:Int ⊕ (Int)}(hm:rc_expr_typed n a0 a1=some r),call G n 147 [.agg [aI a0.A,aI a0.C,aI a0.M,aI a0.F.A,aI a0.F.K,aF a0.F.I,aS a0.F.N,.pv (zk za a0.B)],.pv (zk zm a1)] []=some (PO 34 (fun (r:Int)=>aI r) r,[])) {n:Nat}{a0:zf}{a1:jn}{r:Int ⊕ (Int)}(hm:adT rc_expr_typed n a0 a1=some r):
   call G n 147 [.agg (zc7 a0),.pv (zy a1)] []=some (PO 34 (fun (r:Int)=>aI r) r,[]):=by
 unfold adT at hm
 obtain ⟨n,rfl,h0⟩:=zp hm
 replace hm:=h0;clear h0
 refine apK 84 [(0,.agg (zc7 a0)),(zp33 a1)] func147 rfl hH (sq (det [(zp33 a1),jz] [.box (zc7 a0) false] hH (sq (dn [(zp33 a1),jz,j1] ?_))))
 obtain ⟨k4,hk4,hm⟩:=zo hm
 refine mid (fun t H=>(∃ (w1:AV) (w2:AV),k4 none=some r∧t=mk 84 [(zp33 a1),jz,j1,(zp58 a0),(zp59 a0),(11,w1),(12,w2)]∧H=[.box (zc7 a0) false])∨(∃ (y3:(List Int)) (w1:AV) (w2:AV),k4 (some y3)=some r∧t=mk 84 [(zp33 a1),jz,(5,aR 1 1 y3.length),(zp58 a0),(zp59 a0),(11,w1),(12,w2)]∧H=[.box (zc7 a0) false,bR 3 1 (rI .i64) y3 0 0])) ?_ ?_
 ·rintro _ _ (⟨w1,w2,hm,rfl,rfl⟩|⟨y3,w1,w2,hm,rfl,rfl⟩)
  ·subst hk4
   refine sq (sq (dn [(zp33 a1),jz,j1,(23,aI a0.A)] (bq (sq (dn [(zp33 a1),jz,j1,(23,aI a0.A),(24,aB (a0.A==1))] ?_)))))
   rcases zd hm with ⟨h,hm⟩|⟨h,hm⟩
   ·refine c1 h (sq (rg (s1 2 [(27,.pv (zy a1)),(26,.agg (zc7 a0))] ?_)))
    obtain ⟨x6,h7,hm⟩:=bs hm
    rcases x6 with x8|x6
    ·obtain rfl:=jf hm
     exact rp0 (v:=.pv (.ifc 34 (.int .i64 x8))) (cpan hH (aa7 h7) hH hH hH) hH (fun _=>hJ)
    refine dv 28 (zC hH (aa7 h7) hH hH hH) hH (fq 1 [(4,aI x6)] (jc ?_))
    cases hm;exact hJ
   refine c0 h (sq (dn [jz,j1,(23,aI a0.A),(29,aB (a0.A==2))] ?_))
   rcases zd hm with ⟨h,hm⟩|⟨h,hm⟩
   ·refine c1 h (sq (dn [(4,aI a0.F.A)] (jc ?_)))
    cases hm;exact hJ
   refine c0 h ?_
   obtain ⟨k11,hk11,hm⟩:=zo hm
   refine mid (fun t H=>(∃ (y10:Bool),k11 y10=some r∧t=mk 84 [j1,(23,aI a0.A),(34,aB y10)]∧H=[.box (zc7 a0) false])) ?_ ?_
   ·rintro _ _ ⟨y10,hm,rfl,rfl⟩
    subst hk11
    rcases zd hm with ⟨h,hm⟩|⟨h,hm⟩
    ·refine c1 h (sq (rgd (shd 1 [(38,.pv .nils)] hH ?_)))
     cases hm
    refine c0 h (sq (dn [j1,(23,aI a0.A),(45,aB (a0.A==6))] ?_))
    rcases zd hm with ⟨h,hm⟩|⟨h,hm⟩
    ·refine c1 h (sq (rgd (shd 1 [(47,.pv .nils)] hH ?_)))
     cases hm
    refine c0 h ?_
    obtain ⟨k15,hk15,hm⟩:=zo hm
    refine mid (fun t H=>(∃ (y14:Bool),k15 y14=some r∧t=mk 84 [j1,(23,aI a0.A),(54,aB y14)]∧H=[.box (zc7 a0) false])) ?_ ?_
    ·rintro _ _ ⟨y14,hm,rfl,rfl⟩
     subst hk15
     rcases zd hm with ⟨h,hm⟩|⟨h,hm⟩
     ·refine c1 h (rgd (shd 1 [(58,.pv .nils)] hH ?_))
      cases hm
     refine c0 h ?_
     obtain ⟨k18,hk18,hm⟩:=zo hm
     refine mid (fun t H=>(∃ (y17:Bool),k18 y17=some r∧t=mk 84 [j1,(23,aI a0.A),(65,aB y17)]∧H=[.box (zc7 a0) false])) ?_ ?_
     ·rintro _ _ ⟨y17,hm,rfl,rfl⟩
      subst hk18
      rcases zd hm with ⟨h,hm⟩|⟨h,hm⟩
      ·refine c1 h (rgd (shd 1 [(68,.pv .nils)] hH ?_))
       cases hm
      refine c0 h (sq (dn [j1,(75,aB (a0.A==12))] ?_))
      rcases zd hm with ⟨h,hm⟩|⟨h,hm⟩
      ·refine c1 h (rgd (shd 1 [(77,.pv .nils)] hH ?_))
       cases hm
      refine c0 h (jd (sq (dn [kb] (jc ?_))))
      cases hm;exact hJ
     refine sq (dn [j1,(23,aI a0.A),(65,aB (a0.A==10))] ?_)
     rcases zd hm with ⟨h,hm⟩|⟨h,hm⟩
     ·refine c1 h (jd ?_)
      exact ⟨(a0.A==10),hm,rfl,rfl⟩
     refine c0 h (dn [j1,(23,aI a0.A),(65,aB (a0.A==11))] ?_)
     exact ⟨(a0.A==11),hm,rfl,rfl⟩
    refine sq (dn [j1,(23,aI a0.A),(54,aB (a0.A==7))] ?_)
    rcases zd hm with ⟨h,hm⟩|⟨h,hm⟩
    ·refine c1 h (jd ?_)
     exact ⟨(a0.A==7),hm,rfl,rfl⟩
    refine c0 h (sq (dn [j1,(23,aI a0.A),(54,aB (a0.A==8))] ?_))
    rcases zd hm with ⟨h,hm⟩|⟨h,hm⟩
    ·refine c1 h (jd ?_)
     exact ⟨(a0.A==8),hm,rfl,rfl⟩
    refine c0 h (dn [j1,(23,aI a0.A),(54,aB (a0.A==9))] ?_)
    exact ⟨(a0.A==9),hm,rfl,rfl⟩
   refine sq (dn [j1,(23,aI a0.A),(34,aB (a0.A==3))] ?_)
   rcases zd hm with ⟨h,hm⟩|⟨h,hm⟩
   ·refine c1 h (jd ?_)
    exact ⟨(a0.A==3),hm,rfl,rfl⟩
   refine c0 h (sq (dn [j1,(23,aI a0.A),(34,aB (a0.A==4))] ?_))
   rcases zd hm with ⟨h,hm⟩|⟨h,hm⟩
   ·refine c1 h (jd ?_)
    exact ⟨(a0.A==4),hm,rfl,rfl⟩
   refine c0 h (dn [j1,(23,aI a0.A),(34,aB (a0.A==5))] ?_)
   exact ⟨(a0.A==5),hm,rfl,rfl⟩
  subst hk4
  refine sq (sq (dn [(zp33 a1),jz,(5,aR 1 1 y3.length),(23,aI a0.A)] (bq (sq (dn [(zp33 a1),jz,(5,aR 1 1 y3.length),(23,aI a0.A),(24,aB (a0.A==1))] ?_)))))
  rcases zd hm with ⟨h,hm⟩|⟨h,hm⟩
  ·refine c1 h (sq (rg (s1 2 [(27,.pv (zy a1)),(26,.agg (zc7 a0))] ?_)))
   obtain ⟨x27,h28,hm⟩:=bs hm
   rcases x27 with x29|x27
   ·obtain rfl:=jf hm
    exact rp0 (v:=.pv (.ifc 34 (.int .i64 x29))) (cpan hH (aa7 h28) hH hH hH) hH (fun _=>hJ)
   refine dv 28 (zC hH (aa7 h28) hH hH hH) hH (fq 1 [(4,aI x27)] (jc ?_))
   cases hm;exact hJ
  refine c0 h (sq (dn [jz,(5,aR 1 1 y3.length),(23,aI a0.A),(29,aB (a0.A==2))] ?_))
  rcases zd hm with ⟨h,hm⟩|⟨h,hm⟩
  ·refine c1 h (sq (dn [(4,aI a0.F.A)] (jc ?_)))
   cases hm;exact hJ
  refine c0 h ?_
  obtain ⟨k32,hk32,hm⟩:=zo hm
  refine mid (fun t H=>(∃ (y31:Bool),k32 y31=some r∧t=mk 84 [(5,aR 1 1 y3.length),(23,aI a0.A),(34,aB y31)]∧H=[.box (zc7 a0) false,bR 3 1 (rI .i64) y3 0 0])) ?_ ?_
  ·rintro _ _ ⟨y31,hm,rfl,rfl⟩
   subst hk32
   rcases zd hm with ⟨h,hm⟩|⟨h,hm⟩
   ·refine c1 h (sq (rgd (shd 1 [(38,aR 1 1 y3.length)] hH ?_)))
    obtain ⟨x34,h35,hm⟩:=bs hm
    refine dvd 39 (v:=.eptr 1 0 y3.length 1 (0+Int.toNat 0) 0) (Q2 y3 .i64 (n:=y3.length) (id:=1) (esz:=1) t33 t3 h35 rfl rfl hH) hH (dvd 40 (v:=aI x34) (abF (rI .i64) y3 (n:=y3.length) (esz:=1) (j:=0) (off:=0) (id:=1) t3 rfl h35 rfl (Nat.zero_le _) hH hH) hH (shd 1 [(41,aR 1 1 y3.length)] hH ?_))
    obtain ⟨x36,h37,hm⟩:=bs hm
    refine dvd 42 (v:=.eptr 1 0 y3.length 1 (0+Int.toNat 1) 0) (Q2 y3 .i64 (n:=y3.length) (id:=1) (esz:=1) t33 t3 h37 rfl rfl hH) hH (dvd 43 (v:=aI x36) (abF (rI .i64) y3 (n:=y3.length) (esz:=1) (j:=1) (off:=0) (id:=1) t3 rfl h37 rfl (Nat.zero_le _) hH hH) hH ?_)
    obtain ⟨x38,h39,hm⟩:=bs hm
    rcases x38 with x40|x38
    ·obtain rfl:=jf hm
     exact rp0d (v:=.pv (.ifc 34 (.int .i64 x40))) (cpan hH (QT h39) hH hH hH) hH hH (fun _=>hJ)
    refine dvd 44 (zC hH (QT h39) hH hH hH) hH (shd 1 [(4,aI x38)] hH (find [(4,aI x38)] rfl hH hH (jc ?_)))
    cases hm;exact hJ
   refine c0 h (sq (dn [(5,aR 1 1 y3.length),(23,aI a0.A),(45,aB (a0.A==6))] ?_))
   rcases zd hm with ⟨h,hm⟩|⟨h,hm⟩
   ·refine c1 h (sq (rgd (shd 1 [(47,aR 1 1 y3.length)] hH ?_)))
    obtain ⟨x42,h43,hm⟩:=bs hm
    refine dvd 48 (v:=.eptr 1 0 y3.length 1 (0+Int.toNat 0) 0) (Q2 y3 .i64 (n:=y3.length) (id:=1) (esz:=1) t33 t3 h43 rfl rfl hH) hH (dvd 49 (v:=aI x42) (abF (rI .i64) y3 (n:=y3.length) (esz:=1) (j:=0) (off:=0) (id:=1) t3 rfl h43 rfl (Nat.zero_le _) hH hH) hH (shd 1 [(50,aR 1 1 y3.length)] hH (dvd 51 (v:=.eptr 1 0 y3.length 1 (0+Int.toNat 0) 0) (Q2 y3 .i64 (n:=y3.length) (id:=1) (esz:=1) t33 t3 h43 rfl rfl hH) hH (dvd 52 (v:=aI x42) (abF (rI .i64) y3 (n:=y3.length) (esz:=1) (j:=0) (off:=0) (id:=1) t3 rfl h43 rfl (Nat.zero_le _) hH hH) hH ?_))))
    obtain ⟨x44,h45,hm⟩:=bs hm
    rcases x44 with x46|x44
    ·obtain rfl:=jf hm
     exact rp0d (v:=.pv (.ifc 34 (.int .i64 x46))) (cpan hH (QT h45) hH hH hH) hH hH (fun _=>hJ)
    refine dvd 53 (zC hH (QT h45) hH hH hH) hH (shd 1 [(4,aI x44)] hH (find [(4,aI x44)] rfl hH hH (jc ?_)))
    cases hm;exact hJ
   refine c0 h ?_
   obtain ⟨k48,hk48,hm⟩:=zo hm
   refine mid (fun t H=>(∃ (y47:Bool),k48 y47=some r∧t=mk 84 [(5,aR 1 1 y3.length),(23,aI a0.A),(54,aB y47)]∧H=[.box (zc7 a0) false,bR 3 1 (rI .i64) y3 0 0])) ?_ ?_
   ·rintro _ _ ⟨y47,hm,rfl,rfl⟩
    subst hk48
    rcases zd hm with ⟨h,hm⟩|⟨h,hm⟩
    ·refine c1 h (rgd (shd 1 [(58,aR 1 1 y3.length)] hH ?_))
     obtain ⟨x50,h51,hm⟩:=bs hm
     refine dvd 59 (v:=.eptr 1 0 y3.length 1 (0+Int.toNat 0) 0) (Q2 y3 .i64 (n:=y3.length) (id:=1) (esz:=1) t33 t3 h51 rfl rfl hH) hH (dvd 60 (v:=aI x50) (abF (rI .i64) y3 (n:=y3.length) (esz:=1) (j:=0) (off:=0) (id:=1) t3 rfl h51 rfl (Nat.zero_le _) hH hH) hH (shd 1 [(61,aR 1 1 y3.length)] hH ?_))
     obtain ⟨x52,h53,hm⟩:=bs hm
     refine dvd 62 (v:=.eptr 1 0 y3.length 1 (0+Int.toNat 1) 0) (Q2 y3 .i64 (n:=y3.length) (id:=1) (esz:=1) t33 t3 h53 rfl rfl hH) hH (dvd 63 (v:=aI x52) (abF (rI .i64) y3 (n:=y3.length) (esz:=1) (j:=1) (off:=0) (id:=1) t3 rfl h53 rfl (Nat.zero_le _) hH hH) hH ?_)
     obtain ⟨x54,h55,hm⟩:=bs hm
     rcases x54 with x56|x54
     ·obtain rfl:=jf hm
      exact rp0d (v:=.pv (.ifc 34 (.int .i64 x56))) (cpan hH (ac7 h55) hH hH hH) hH hH (fun _=>hJ)
     refine dvd 64 (zC hH (ac7 h55) hH hH hH) hH (find [] rfl hH hH (sq (dn [kb] (jc ?_))))
     cases hm;exact hJ
    refine c0 h ?_
    obtain ⟨k58,hk58,hm⟩:=zo hm
    refine mid (fun t H=>(∃ (y57:Bool),k58 y57=some r∧t=mk 84 [(5,aR 1 1 y3.length),(23,aI a0.A),(65,aB y57)]∧H=[.box (zc7 a0) false,bR 3 1 (rI .i64) y3 0 0])) ?_ ?_
    ·rintro _ _ ⟨y57,hm,rfl,rfl⟩
     subst hk58
     rcases zd hm with ⟨h,hm⟩|⟨h,hm⟩
     ·refine c1 h (rgd (shd 1 [(68,aR 1 1 y3.length)] hH ?_))
      obtain ⟨x60,h61,hm⟩:=bs hm
      refine dvd 69 (v:=.eptr 1 0 y3.length 1 (0+Int.toNat 0) 0) (Q2 y3 .i64 (n:=y3.length) (id:=1) (esz:=1) t33 t3 h61 rfl rfl hH) hH (dvd 70 (v:=aI x60) (abF (rI .i64) y3 (n:=y3.length) (esz:=1) (j:=0) (off:=0) (id:=1) t3 rfl h61 rfl (Nat.zero_le _) hH hH) hH (shd 1 [(71,aR 1 1 y3.length)] hH ?_))
      obtain ⟨x62,h63,hm⟩:=bs hm
      refine dvd 72 (v:=.eptr 1 0 y3.length 1 (0+Int.toNat 1) 0) (Q2 y3 .i64 (n:=y3.length) (id:=1) (esz:=1) t33 t3 h63 rfl rfl hH) hH (dvd 73 (v:=aI x62) (abF (rI .i64) y3 (n:=y3.length) (esz:=1) (j:=1) (off:=0) (id:=1) t3 rfl h63 rfl (Nat.zero_le _) hH hH) hH ?_)
      obtain ⟨x64,h65,hm⟩:=bs hm
      rcases x64 with x66|x64
      ·obtain rfl:=jf hm
       exact rp0d (v:=.pv (.ifc 34 (.int .i64 x66))) (cpan hH (aab h65) hH hH hH) hH hH (fun _=>hJ)
      refine dvd 74 (zC hH (aab h65) hH hH hH) hH (find [] rfl hH hH (sq (dn [kb] (jc ?_))))
      cases hm;exact hJ
     refine c0 h (sq (dn [(5,aR 1 1 y3.length),(75,aB (a0.A==12))] ?_))
     rcases zd hm with ⟨h,hm⟩|⟨h,hm⟩
     ·refine c1 h (rgd (shd 1 [(77,aR 1 1 y3.length)] hH ?_))
      obtain ⟨x68,h69,hm⟩:=bs hm
      refine dvd 78 (v:=.eptr 1 0 y3.length 1 (0+Int.toNat 0) 0) (Q2 y3 .i64 (n:=y3.length) (id:=1) (esz:=1) t33 t3 h69 rfl rfl hH) hH (dvd 79 (v:=aI x68) (abF (rI .i64) y3 (n:=y3.length) (esz:=1) (j:=0) (off:=0) (id:=1) t3 rfl h69 rfl (Nat.zero_le _) hH hH) hH (shd 1 [(80,aR 1 1 y3.length)] hH (dvd 81 (v:=.eptr 1 0 y3.length 1 (0+Int.toNat 0) 0) (Q2 y3 .i64 (n:=y3.length) (id:=1) (esz:=1) t33 t3 h69 rfl rfl hH) hH (dvd 82 (v:=aI x68) (abF (rI .i64) y3 (n:=y3.length) (esz:=1) (j:=0) (off:=0) (id:=1) t3 rfl h69 rfl (Nat.zero_le _) hH hH) hH ?_))))
      obtain ⟨x70,h71,hm⟩:=bs hm
      rcases x70 with x72|x70
      ·obtain rfl:=jf hm
       exact rp0d (v:=.pv (.ifc 34 (.int .i64 x72))) (cpan hH (aab h71) hH hH hH) hH hH (fun _=>hJ)
      refine dvd 83 (zC hH (aab h71) hH hH hH) hH (find [] rfl hH hH (sq (dn [kb] (jc ?_))))
      cases hm;exact hJ
     refine c0 h (jd (sq (dn [kb] (jc ?_))))
     cases hm;exact hJ
    refine sq (dn [(5,aR 1 1 y3.length),(23,aI a0.A),(65,aB (a0.A==10))] ?_)
    rcases zd hm with ⟨h,hm⟩|⟨h,hm⟩
    ·refine c1 h (jd ?_)
     exact ⟨(a0.A==10),hm,rfl,rfl⟩
    refine c0 h (dn [(5,aR 1 1 y3.length),(23,aI a0.A),(65,aB (a0.A==11))] ?_)
    exact ⟨(a0.A==11),hm,rfl,rfl⟩
   refine sq (dn [(5,aR 1 1 y3.length),(23,aI a0.A),(54,aB (a0.A==7))] ?_)
   rcases zd hm with ⟨h,hm⟩|⟨h,hm⟩
   ·refine c1 h (jd ?_)
    exact ⟨(a0.A==7),hm,rfl,rfl⟩
   refine c0 h (sq (dn [(5,aR 1 1 y3.length),(23,aI a0.A),(54,aB (a0.A==8))] ?_))
   rcases zd hm with ⟨h,hm⟩|⟨h,hm⟩
   ·refine c1 h (jd ?_)
    exact ⟨(a0.A==8),hm,rfl,rfl⟩
   refine c0 h (dn [(5,aR 1 1 y3.length),(23,aI a0.A),(54,aB (a0.A==9))] ?_)
   exact ⟨(a0.A==9),hm,rfl,rfl⟩
  refine sq (dn [(5,aR 1 1 y3.length),(23,aI a0.A),(34,aB (a0.A==3))] ?_)
  rcases zd hm with ⟨h,hm⟩|⟨h,hm⟩
  ·refine c1 h (jd ?_)
   exact ⟨(a0.A==3),hm,rfl,rfl⟩
  refine c0 h (sq (dn [(5,aR 1 1 y3.length),(23,aI a0.A),(34,aB (a0.A==4))] ?_))
  rcases zd hm with ⟨h,hm⟩|⟨h,hm⟩
  ·refine c1 h (jd ?_)
   exact ⟨(a0.A==4),hm,rfl,rfl⟩
  refine c0 h (dn [(5,aR 1 1 y3.length),(23,aI a0.A),(34,aB (a0.A==5))] ?_)
  exact ⟨(a0.A==5),hm,rfl,rfl⟩
 refine sq (rg (s1 2 [(zp58 a0),(8,.ptr 0 7)] (dv 10 (v:=aI (afb a0)) (zu za a0.B t23 hH) hH (fq 1 [(zp33 a1),jz,j1,(zp58 a0),(zp59 a0),(11,aI 0)] (bq ?_)))))
 refine ZR (fun mm t H=>(∃ (y81:Int),qJ n rc_expr_typed a0 a1 k4 mm y81 none=some r∧t=mk 84 [(zp33 a1),jz,j1,(zp58 a0),(zp59 a0),(11,aI y81)]∧H=[.box (zc7 a0) false])∨(∃ (y81:Int) (y82:(List Int)),qJ n rc_expr_typed a0 a1 k4 mm y81 (some y82)=some r∧t=mk 84 [(zp33 a1),jz,(5,aR 1 1 y82.length),(zp58 a0),(zp59 a0),(11,aI y81)]∧H=[.box (zc7 a0) false,bR 3 1 (rI .i64) y82 0 0])) (.inl ⟨0,hm,rfl,rfl⟩) ?_ ?_
 ·
   rintro _ _ (⟨y81,hm,_⟩|⟨y81,y82,hm,_⟩)<;>exact nomatch hm
 rintro m83 _ _ (⟨y81,hm,rfl,rfl⟩|⟨y81,y82,hm,rfl,rfl⟩)
 ·simp only [qJ] at hm
  refine sq (dn [(zp33 a1),jz,j1,(zp58 a0),(zp59 a0),(11,aI y81),(zp60 y81 a0)] ?_)
  refine sq ?_
  rcases zd hm with ⟨h,hm⟩|⟨h,hm⟩
  ·refine c1 h (jd (sq (bq (sq (rg ?_)))))
   obtain ⟨x85,h86,hm⟩:=bs hm
   refine dv 13 (v:=.pv (.ptr (Z5 x85) 0)) (zS za a0.B .i64 t23 t49 h86 (zt x85) rfl hH) hH (stf 3 [(zp33 a1),jz,j1,(7,.ptr 1 0),(zp58 a0),(zp59 a0),(11,aI y81)] [.box (zc7 a0) false,.box (zc9 x85) false] hH (rg (s1 3 [(17,.pv (zy a1)),(16,.agg (zc9 x85)),(15,.pv .nils)] ?_)))
   obtain ⟨x87,h88,hm⟩:=bs hm
   rcases x87 with x89|x87
   ·obtain rfl:=jf hm
    exact rp0 (v:=.pv (.ifc 34 (.int .i64 x89))) (cpan hH (ih_expr_typed h88) hH hH hH) hH (fun _=>hJ)
   refine dv 18 (zC hH (ih_expr_typed h88) hH hH hH) hH (st 1 [(19,aR 2 1 1)] [.box (zc7 a0) false,.box (zc9 x85) false,bR 3 1 (rI .i64) ([x87]:List Int) 0 0] hH ?_)
   obtain ⟨_,h90,hm⟩:=bs hm
   refine dO [(20,aR 3 1 (alD x87))] [.box (zc7 a0) false,.box (zc9 x85) false,bR 3 1 (rI .i64) ([x87]:List Int) 0 0,bR 3 1 (rI .i64) ([x87]:List Int) 0 0] (aa6 (u:=0) (rI .i64) ([x87]:List Int) (b:=8) t33 t3 rfl rfl rfl (fun _=>rfl) rfl h90 (show Zm (aR 2 1 1) _=some (([x87]:List Int).map (rI .i64)) from by kernel_rfl) hH) hH (fq 1 [(zp33 a1),jz,(5,aR 3 1 (alD x87)),(zp58 a0),(zp59 a0),(11,aI y81)] (dn [(zp33 a1),jz,(5,aR 3 1 (alD x87)),(zp58 a0),(zp59 a0),(zp61 y81)] ?_))
   exact ⟨_,_,Zg [(zp33 a1),jz,(5,aR 1 1 (alD x87)),(zp58 a0),(zp59 a0),(zp61 y81)] [.box (zc7 a0) false,bR 3 1 (rI .i64) ([x87]:List Int) 0 0] hH,.inr (⟨(zN y81),([x87]:List Int),hm,rfl,rfl⟩)⟩
  refine c0 h (je ?_)
  exact .inl ⟨aI y81,aB (adU y81 a0),hm,(zD hH),rfl⟩
 simp only [qJ] at hm
 refine sq (dn [(zp33 a1),jz,(5,aR 1 1 y82.length),(zp58 a0),(zp59 a0),(11,aI y81),(zp60 y81 a0)] ?_)
 refine sq ?_
 rcases zd hm with ⟨h,hm⟩|⟨h,hm⟩
 ·refine c1 h (jd (sq (bq (sq (rg ?_)))))
  obtain ⟨x92,h93,hm⟩:=bs hm
  refine dv 13 (v:=.pv (.ptr (Z5 x92) 0)) (zS za a0.B .i64 t23 t49 h93 (zt x92) rfl hH) hH (stf 3 [(zp33 a1),jz,(5,aR 1 1 y82.length),(7,.ptr 2 0),(zp58 a0),(zp59 a0),(11,aI y81)] [.box (zc7 a0) false,bR 3 1 (rI .i64) y82 0 0,.box (zc9 x92) false] hH (rg (s1 3 [(17,.pv (zy a1)),(16,.agg (zc9 x92)),(15,aR 1 1 y82.length)] ?_)))
  obtain ⟨x94,h95,hm⟩:=bs hm
  rcases x94 with x96|x94
  ·obtain rfl:=jf hm
   exact rp0 (v:=.pv (.ifc 34 (.int .i64 x96))) (cpan hH (ih_expr_typed h95) hH hH hH) hH (fun _=>hJ)
  refine dv 18 (zC hH (ih_expr_typed h95) hH hH hH) hH (st 1 [(19,aR 3 1 1)] [.box (zc7 a0) false,bR 3 1 (rI .i64) y82 0 0,.box (zc9 x92) false,bR 3 1 (rI .i64) ([x94]:List Int) 0 0] hH ?_)
  obtain ⟨_,h97,hm⟩:=bs hm
  refine dO [(20,aR 1 1 (alP y82 x94))] [.box (zc7 a0) false,bR 3 1 (rI .i64) (y82++([x94]:List Int)) 0 0,.box (zc9 x92) false,bR 3 1 (rI .i64) ([x94]:List Int) 0 0] (qV (u:=0) (n:=y82.length) (id:=1) (rI .i64) y82 ([x94]:List Int) (b:=8) t33 t3 rfl rfl rfl (fun _=>rfl) rfl h97 rfl rfl (Nat.zero_le _) (show Zm (aR 3 1 1) _=some (([x94]:List Int).map (rI .i64)) from by kernel_rfl) hH) hH (fq 1 [(zp33 a1),jz,(5,aR 1 1 (alP y82 x94)),(zp58 a0),(zp59 a0),(11,aI y81)] (dn [(zp33 a1),jz,(5,aR 1 1 (alP y82 x94)),(zp58 a0),(zp59 a0),(zp61 y81)] ?_))
  exact ⟨_,_,Zg [(zp33 a1),jz,(5,aR 1 1 (alP y82 x94)),(zp58 a0),(zp59 a0),(zp61 y81)] [.box (zc7 a0) false,bR 3 1 (rI .i64) (y82++([x94]:List Int)) 0 0] hH,.inr (⟨(zN y81),(y82++([x94]:List Int)),hm,rfl,rfl⟩)⟩
 refine c0 h (je ?_)
 exact .inr (⟨y82,aI y81,aB (adU y81 a0),hm,(zD hH),rfl⟩)
theorem aiS:∀ (m:Nat),∀ {n:Nat}{a0:zf}{a1:jn}{r:Int ⊕ (Int)}(hm:acG m n a0 a1=some r),call G n 147 [.agg (zc7 a0),.pv (zk zm a1)] []=some (PO 34 (fun (r:Int)=>aI r) r,[])
 |0=>by intros;rename_i hm;exact nomatch hm
 |m+1=>fun hm=>
  anu (aiS m) hm
theorem ajh {n:Nat}{a0:zf}{a1:jn}{r:Int ⊕ (Int)}(hm:aha n a0 a1=some r):
 call G n 147 [.agg (zc7 a0),.pv (zy a1)] []=some (PO 34 (fun (r:Int)=>aI r) r,[]):=aiS n hm
abbrev zc10 (p0:Int) (p1:Int) (p2:Int) (p3:Int) (p4:Int) (p5:Nat) (p6:ByteArray) (p7:jl):List AV:=[aI p0,aI p1,aI p2,aI p3,aI p4,aF p5,aS p6,.pv (zk za p7)]
theorem aik {n:Nat}{a0:Int}{a1:Int}{a2:Int}{a3:Int}{a4:Int}{a5:Nat}{a6:ByteArray}{a7:jl}{a8:jn}{a9:Int}{r:(Int) ⊕ (Int)}(hm:ago n a0 a1 a2 a3 a4 a5 a6 a7 a8 a9=some r):
   ∃ vv H1,call G n 145 [.ptr 0 0,.ptr 1 0,.ptr 2 0] [.box (zc10 a0 a1 a2 a3 a4 a5 a6 a7) false,.box [.pv (zy a8)] false,.box [aI a9] false]=some (vv,H1)∧(match (generalizing:=false) r with|(.inl r0)=>(vv=.pan (.pv (.ifc 34 (.int .i64 r0)))∧H1=[.box (zc10 a0 a1 a2 a3 a4 a5 a6 a7) false,.box [.pv (zy a8)] false,.box [aI a9] false])|(.inr (r1))=>(vv=.ret (.tup [])∧H1=[.box (zc10 a0 a1 a2 a3 a4 a5 a6 a7) false,.box [.pv (zy a8)] false,.box [aI r1] false])):=by
 unfold ago at hm
 obtain ⟨n,rfl,h0⟩:=zp hm
 replace hm:=h0;clear h0
 refine awX 9 [(0,.ptr 0 0),(1,.ptr 1 0),jD] func145 rfl hH (sq (rg (s1 2 [(4,.pv (zy a8)),(3,.agg (zc10 a0 a1 a2 a3 a4 a5 a6 a7))] ?_)))
 obtain ⟨x1,h2,hm⟩:=bs hm
 rcases x1 with x3|x1
 ·obtain rfl:=jf hm
  exact rp0 (v:=.pv (.ifc 34 (.int .i64 x3))) (cpan hH (akg h2) hH hH hH) hH (fun _=>⟨trivial,.pan (.pv (.ifc 34 (.int .i64 x3))),[.box (zc10 a0 a1 a2 a3 a4 a5 a6 a7) false,.box [.pv (zy a8)] false,.box [aI a9] false],hH,rfl,rfl⟩)
 refine dv 5 (zC hH (akg h2) hH hH hH) hH (fin [(0,.ptr 0 0),(1,.ptr 1 0),jD] rfl hH (rg (s1 2 [(7,.pv (zy a8)),(6,.agg (zc10 a0 a1 a2 a3 a4 a5 a6 a7))] ?_)))
 obtain ⟨x4,h5,hm⟩:=bs hm
 rcases x4 with x6|x4
 ·obtain rfl:=jf hm
  exact rp0 (v:=.pv (.ifc 34 (.int .i64 x6))) (cpan hH (ajh h5) hH hH hH) hH (fun _=>⟨trivial,.pan (.pv (.ifc 34 (.int .i64 x6))),[.box (zc10 a0 a1 a2 a3 a4 a5 a6 a7) false,.box [.pv (zy a8)] false,.box [aI a9] false],hH,rfl,rfl⟩)
 refine dv 8 (zC hH (ajh h5) hH hH hH) hH (stf 1 [] [.box (zc10 a0 a1 a2 a3 a4 a5 a6 a7) false,.box [.pv (zy a8)] false,.box [aI x4] false] hH ?_)
 obtain rfl:=jf hm
 exact ⟨trivial,.ret (.tup []),[.box (zc10 a0 a1 a2 a3 a4 a5 a6 a7) false,.box [.pv (zy a8)] false,.box [aI x4] false],hH,rfl,rfl⟩
theorem afv {n:Nat}{a0:Int}{a1:Int}{a2:Int}{a3:Int}{a4:Int}{a5:Nat}{a6:ByteArray}{a7:jl}{a8:jn}{a9:Int}{r:Int×Int}(hm:Qb n a0 a1 a2 a3 a4 a5 a6 a7 a8 a9=some r):
   ∃ vv H1,call G n 144 [ld] [.box (zc10 a0 a1 a2 a3 a4 a5 a6 a7) false,.box [.pv (zy a8)] false,.box [aI a9] false]=some (.ret vv,H1)∧(match (generalizing:=false) r with|(r0,r1)=>(vv=aI r1∧H1=[.box (zc10 a0 a1 a2 a3 a4 a5 a6 a7) false,.box [.pv (zy a8)] false,.box [aI r0] false])):=by
 unfold Qb at hm
 obtain ⟨n,rfl,h0⟩:=zp hm
 replace hm:=h0;clear h0
 obtain ⟨x2,h1,hm⟩:=bs hm
 rcases x2 with x3|x4
 ·obtain ⟨vv,H1,hC,rfl,rfl⟩:=aik h1
  obtain rfl:=jf hm
  exact ⟨_,_,auv func144 rfl hH rfl hH func145 hH rfl hC hH,rfl,rfl⟩
 obtain ⟨vv,H1,hC,rfl,rfl⟩:=aik h1
 obtain rfl:=jf hm
 exact ⟨_,_,auv func144 rfl hH rfl hH func145 hH rfl hC hH,rfl,rfl⟩
theorem abn {n:Nat}{a0:zf}{a1:jn}{r:Int×Int}(hm:aa8 n a0 a1=some r):
   call G n 50 [.agg (zc7 a0),.pv (zy a1)] []=some (.ret (.tup [aI r.1,aI r.2]),[]):=by
 unfold aa8 at hm
 obtain ⟨n,rfl,h0⟩:=zp hm
 replace hm:=h0;clear h0
 refine zT 17 [(0,.agg (zc7 a0)),(zp33 a1)] func50 rfl hH (sq (det [jz,jC] [.box (zc7 a0) false,.box [.pv (zy a1)] false] hH ?_))
 refine sq (sq (rg (s1 1 [(8,.agg (zc7 a0))] ?_)))
 obtain ⟨x1,h2,hm⟩:=bs hm
 refine dv 9 (zC hH (afX h2) hH hH hH) hH (fq 1 [jz,jC,(10,aB (!x1))] ?_)
 rcases zd hm with ⟨h,hm⟩|⟨h,hm⟩
 ·refine c1 h (sq (dn [j8,(5,aI 2)] (jc ?_)))
  cases hm;exact hJ
 refine c0 h (jd (sq (det [jz,jC,jL] [.box (zc7 a0) false,.box [.pv (zy a1)] false,.box [aI 0] false] hH (sq (rg (s1 1 [(11,ld)] ?_))))))
 obtain ⟨⟨x5,x6⟩,h4,hm⟩:=bs hm
 obtain ⟨vv,H1,hC,rfl,rfl⟩:=afv h4
 refine dR [(12,aI x6)] [.box (zc7 a0) false,.box [.pv (zy a1)] false,.box [aI x5] false] [0,1,2] [ld] hH hH hH hC hH (fq 1 [jL,(7,aI x6)] (sq (sq (dn [jL,(7,aI x6),(14,aB (x6 !=0))] ?_))))
 rcases zd hm with ⟨h,hm⟩|⟨h,hm⟩
 ·refine c1 h (sq (dn [j8,(5,aI x6)] (jc ?_)))
  cases hm;exact hJ
 refine c0 h (jd (sq (dn [(4,aI x5),j9] (jc ?_))))
 cases hm;exact hJ
theorem aj8 {n:Nat}{a0:Int}{r:Bool}(hm:adf n a0=some r):
  call G n 55 [aI a0] []=some (.ret (aB r),[]):=by
 unfold adf at hm
 obtain ⟨n,rfl,h0⟩:=zp hm
 replace hm:=h0;clear h0
 refine zT 9 [(0,aI a0)] func55 rfl hH (sq (dn [(0,aI a0)] (sq (rg (s1 3 [(5,aB (a0==0)),(4,aB (a0==0)),(3,aI a0)] ?_)))))
 refine segP (a0==0) [5,4] (fun b=>[(8,aB (b||(a0==1))),(7,ifA b hY (aB (a0==1))),(6,ifA b hY (aI a0))]) 3 hH hH hH (fq 1 [(2,aB ((a0==0)||(a0==1)))] (jc ?_))
 cases hm;exact hJ
theorem ajL {n:Nat}{a0:Int}{r:Unit}(hm:adg n a0=some r):
  call G n 56 [aI a0] []=some (.ret (.tup []),[]):=by
 unfold adg at hm
 obtain ⟨n,rfl,h0⟩:=zp hm
 replace hm:=h0;clear h0
 refine zT 2 [(0,aI a0)] func56 rfl hH (jd ?_)
 cases hm;exact hJ
abbrev zp62:Nat×AV:=(2,.pv (.fn 56 [] []))
theorem aat {n:Nat}{a0:jn}{a1:zf}{r:Int}(hm:ZO n a0 a1=some r):
   ∃ vv H1,call G n 49 [.agg (zc7 a1),.pv (.fn 55 [] []),.pv (.fn 56 [] []),.ptr 0 0] [.box [.pv (zy a0)] false]=some (.ret vv,H1)∧(match (generalizing:=false) r with|r0=>(vv=aI r0∧H1=[.box [.pv (zy a0)] false])):=by
 unfold ZO at hm
 obtain ⟨n,rfl,h0⟩:=zp hm
 replace hm:=h0;clear h0
 refine QM 30 [(0,.agg (zc7 a1)),(1,.pv (.fn 55 [] [])),zp62,jE] func49 rfl hH (sq (det [(1,.pv (.fn 55 [] [])),zp62,jE,jK] [.box [.pv (zy a0)] false,.box (zc7 a1) false] hH (sq (rg (s1 2 [(zp40 a0),(11,.agg (zc7 a1))] ?_)))))
 obtain ⟨x1,h2,hm⟩:=bs hm
 refine dv 13 (zC hH (abn h2) hH hH hH) hH (fq 5 [(1,.pv (.fn 55 [] [])),zp62,(8,aI x1.1),(9,aI x1.2)] ?_)
 obtain ⟨k5,hk5,hm⟩:=zo hm
 refine mid (fun t H=>(∃ (y4:Int) (w3:AV),k5 y4=some r∧t=mk 30 [zp62,(8,aI x1.1),(9,aI y4),(23,w3)]∧H=[.box [.pv (zy a0)] false,.box (zc7 a1) false])) ?_ ?_
 ·rintro _ _ ⟨y4,w3,hm,rfl,rfl⟩
  subst hk5
  refine sq (sq (dn [zp62,(8,aI x1.1),(9,aI y4),(25,aB (y4==0))] ?_))
  rcases zd hm with ⟨h,hm⟩|⟨h,hm⟩
  ·refine c1 h (rg (s1 2 [(27,aI x1.1),(26,.pv (.fn 56 [] []))] ?_))
   obtain ⟨x7,h8,hm⟩:=bs hm
   refine dv 28 (zC hH (ajL h8) hH hH hH) hH (fin [(9,aI y4)] rfl hH (sq (dn [(7,aI y4)] (jc ?_))))
   obtain rfl:=jf hm
   exact ⟨trivial,aI y4,[.box [.pv (zy a0)] false],hH,rfl,rfl⟩
  refine c0 h (jd (sq (dn [(7,aI y4)] (jc ?_))))
  obtain rfl:=jf hm
  exact ⟨trivial,aI y4,[.box [.pv (zy a0)] false],hH,rfl,rfl⟩
 refine sq (rg (s1 3 [(18,aB (x1.2==0)),(17,aB (x1.2==0)),(16,aI x1.2)] ?_))
 rcases zd hm with ⟨h,hm⟩|⟨h,hm⟩
 ·refine known [18,17] h hH (s1 2 [(20,aI x1.1),(19,.pv (.fn 55 [] []))] ?_)
  obtain ⟨x10,h11,hm⟩:=bs hm
  refine dv 21 (zC hH (aj8 h11) hH hH hH) hH (fq 2 [zp62,(8,aI x1.1),(9,aI x1.2),(23,aB (!x10))] ?_)
  rcases zd hm with ⟨h,hm⟩|⟨h,hm⟩
  ·refine c1 h (dn [zp62,(8,aI x1.1),km] ?_)
   exact ⟨50,.any,hm,(zD hH),rfl⟩
  refine c0 h (jd ?_)
  exact ⟨x1.2,aB (!x10),hm,(zD hH),rfl⟩
 refine known [18,17] h hH (fq 5 [zp62,(8,aI x1.1),(9,aI x1.2),kD] (cF hH (jd ?_)))
 exact ⟨x1.2,aB false,hm,(zD hH),rfl⟩
theorem ak4 {n:Nat}{a0:jn}{a1:zf}{r:Int}(hm:ada n a0 a1=some r):
  ∃ vv H1,call G n 54 [.agg (zc7 a1),.ptr 0 0] [js,.box [.pv (zy a0)] false]=some (.ret vv,H1)∧(match (generalizing:=false) r with|r0=>(vv=aI r0∧H1=[js,.box [.pv (zy a0)] false])):=by
 unfold ada at hm
 obtain ⟨n,rfl,h0⟩:=zp hm
 replace hm:=h0;clear h0
 refine QM 7 [(0,.agg (zc7 a1)),jA] func54 rfl hH (sq (det [jA,jD] [js,.box [.pv (zy a0)] false,.box (zc7 a1) false] hH (sq (rg (s1 2 [(5,.agg (zc7 a1)),(4,.fn 49 [] [.ptr 1 0])] ?_)))))
 obtain ⟨x2,h1,hm⟩:=bs hm
 obtain ⟨vv,H1,hC,rfl,rfl⟩:=aat h1
 refine dR [(6,aI x2)] [js,.box [.pv (zy a0)] false,.box (zc7 a1) false] [1] [.agg (zc7 a1),.pv (.fn 55 [] []),.pv (.fn 56 [] []),.ptr 1 0] hH hH hH hC hH (fq 1 [(3,aI x2)] (jc ?_))
 obtain rfl:=jf hm
 exact ⟨trivial,aI x2,[js,.box [.pv (zy a0)] false],hH,rfl,rfl⟩
abbrev zp63:Nat×AV:=(1,.fn 54 [] [.ptr 0 0])
abbrev zp64 (p0:jl):Nat×AV:=(8,.pv (zk za p0))
abbrev zp65 (p0:jl):Nat×AV:=(9,aI ((sll p0).length:Int))
theorem adO {n:Nat}{a0:jn}{a1:jl}{r:Int}(hm:qw n a0 a1=some r):
   ∃ vv H1,call G n 53 [.pv (ZN a1),.fn 54 [] [.ptr 0 0]] [js,.box [.pv (zy a0)] false]=some (.ret vv,H1)∧(match (generalizing:=false) r with|r0=>(vv=aI r0∧H1=[js,.box [.pv (zy a0)] false])):=by
 unfold qw at hm
 obtain ⟨n,rfl,h0⟩:=zp hm
 replace hm:=h0;clear h0
 refine QM 21 [(zp25 a1),zp63] func53 rfl hH (sq (dn [(zp25 a1),zp63] ?_))
 obtain ⟨k3,hk3,hm⟩:=zo hm
 refine mid (fun t H=>(∃ (y1:Int) (y2:Bool),k3 ()=some r∧t=mk 21 [zp63,(zp64 a1),(zp65 a1),(10,aI y1),(11,aB y2)]∧H=[js,.box [.pv (zy a0)] false])) ?_ ?_
 ·rintro _ _ ⟨y1,y2,hm,rfl,rfl⟩
  subst hk3
  refine sq (dn [j8] (jc ?_))
  obtain rfl:=jf hm
  exact ⟨trivial,aI 0,[js,.box [.pv (zy a0)] false],hH,rfl,rfl⟩
 refine sq (rg (s1 1 [(zp64 a1)] (dv 9 (v:=aI (aaB a1)) (zu za a1 t23 hH) hH (fq 1 [zp63,(zp64 a1),(zp65 a1),(10,aI 0)] (bq ?_)))))
 refine ZR (fun mm t H=>(∃ (y5:Int),Zo n a0 a1 k3 mm y5=some r∧t=mk 21 [zp63,(zp64 a1),(zp65 a1),(10,aI y5)]∧H=[js,.box [.pv (zk zm a0)] false])) (⟨0,hm,rfl,rfl⟩) ?_ ?_
 ·
   rintro _ _ ⟨y5,hm,_⟩;exact nomatch hm
 rintro m6 _ _ ⟨y5,hm,rfl,rfl⟩
 simp only [Zo] at hm
 refine sq (dn [zp63,(zp64 a1),(zp65 a1),(10,aI y5),(11,aB (aai y5 a1))] ?_)
 refine sq ?_
 rcases zd hm with ⟨h,hm⟩|⟨h,hm⟩
 ·refine c1 h (jd (sq (bq (sq (rg ?_)))))
  obtain ⟨x8,h9,hm⟩:=bs hm
  refine dv 12 (v:=.pv (.ptr (Z5 x8) 0)) (zS za a1 .i64 t23 t49 h9 (zt x8) rfl hH) hH (stf 3 [zp63,jL,(zp64 a1),(zp65 a1),(10,aI y5)] [js,.box [.pv (zy a0)] false,.box (zc9 x8) false] hH (sq (rg (s1 2 [(15,.agg (zc9 x8)),(14,.fn 54 [] [.ptr 0 0])] ?_))))
  obtain ⟨x11,h10,hm⟩:=bs hm
  obtain ⟨vv,H1,hC,rfl,rfl⟩:=ak4 h10
  refine dR [(16,aI x11)] [js,.box [.pv (zy a0)] false,.box (zc9 x8) false] [0,1] [.agg (zc9 x8),.ptr 0 0] hH hH hH hC hH (fq 1 [zp63,(7,aI x11),(zp64 a1),(zp65 a1),(10,aI y5)] (sq (dn [zp63,(7,aI x11),(zp64 a1),(zp65 a1),(10,aI y5),(18,aB (x11 !=0))] ?_)))
  rcases zd hm with ⟨h,hm⟩|⟨h,hm⟩
  ·refine c1 h (sq (dn [(4,aI x11)] (jc ?_)))
   obtain rfl:=jf hm
   exact ⟨trivial,aI x11,[js,.box [.pv (zy a0)] false],hH,rfl,rfl⟩
  refine c0 h (jd (dn [zp63,(zp64 a1),(zp65 a1),(zp45 y5)] ?_))
  exact ⟨_,_,Zg [zp63,(zp64 a1),(zp65 a1),(zp45 y5)] [js,.box [.pv (zy a0)] false] hH,⟨(zN y5),hm,rfl,rfl⟩⟩
 refine c0 h (je ?_)
 exact ⟨y5,(aai y5 a1),hm,rfl,rfl⟩
theorem acM {n:Nat}{a0:Int}{r:Bool}(hm:Qs n a0=some r):
  call G n 51 [aI a0] []=some (.ret (aB r),[]):=by
 unfold Qs at hm
 obtain ⟨n,rfl,h0⟩:=zp hm
 replace hm:=h0;clear h0
 refine zT 3 [(0,aI a0)] func51 rfl hH (sq (dn [] (sq (dn [kK] (jc ?_)))))
 cases hm;exact hJ
theorem aeC {n:Nat}{a0:Int}{r:Unit}(hm:aac n a0=some r):
  ∃ vv H1,call G n 52 [aI a0,.ptr 0 0] [jy]=some (.ret vv,H1)∧(vv=.tup []∧H1=[.box [aR 1 1 (alD a0)] false,bR 3 1 (rI .i64) ([a0]:List Int) 0 0]):=by
 unfold aac at hm
 obtain ⟨n,rfl,h0⟩:=zp hm
 replace hm:=h0;clear h0
 refine QM 7 [(0,aI a0),jA] func52 rfl hH (rg (st 3 [(5,aR 1 1 1),(4,aI a0),j5] [jy,bR 3 1 (rI .i64) ([a0]:List Int) 0 0] hH ?_))
 obtain ⟨_,h1,hm⟩:=bs hm
 refine dO [(6,aR 2 1 (alD a0))] [jy,bR 3 1 (rI .i64) ([a0]:List Int) 0 0,bR 3 1 (rI .i64) ([a0]:List Int) 0 0] (aa6 (u:=0) (rI .i64) ([a0]:List Int) (b:=8) t33 t3 rfl rfl rfl (fun _=>rfl) rfl h1 (show Zm (aR 1 1 1) _=some (([a0]:List Int).map (rI .i64)) from by kernel_rfl) hH) hH (stf 1 [] [.box [aR 2 1 (alD a0)] false,bR 3 1 (rI .i64) ([a0]:List Int) 0 0,bR 3 1 (rI .i64) ([a0]:List Int) 0 0] hH ?_)
 obtain rfl:=jf hm
 exact ⟨trivial,.tup [],[.box [aR 1 1 (alD a0)] false,bR 3 1 (rI .i64) ([a0]:List Int) 0 0],hH,rfl,rfl⟩
abbrev zp66:Nat×AV:=(1,.pv (.fn 51 [] []))
abbrev zp67:Nat×AV:=(2,.fn 52 [] [.ptr 0 0])
abbrev ajy (p0:(Int×Int)):=(([p0.1]:List Int).length)
theorem ZS {n:Nat}{a0:jn}{a1:zf}{r:(Option (List Int))×Int}(hm:Za n a0 a1=some r):
   ∃ vv H1,call G n 49 [.agg (zc7 a1),.pv (.fn 51 [] []),.fn 52 [] [.ptr 0 0],.ptr 1 0] [jy,.box [.pv (zy a0)] false]=some (.ret vv,H1)∧(match (generalizing:=false) r with|(some r0,r1)=>(vv=aI r1∧H1=[.box [aR 2 1 r0.length] false,.box [.pv (zy a0)] false,bR 3 1 (rI .i64) r0 0 0])|(none,r1)=>(vv=aI r1∧H1=[jy,.box [.pv (zy a0)] false])):=by
 unfold Za at hm
 obtain ⟨n,rfl,h0⟩:=zp hm
 replace hm:=h0;clear h0
 refine QM 30 [(0,.agg (zc7 a1)),zp66,zp67,jC] func49 rfl hH (sq (det [zp66,zp67,jC,(4,.ptr 2 0)] [jy,.box [.pv (zy a0)] false,.box (zc7 a1) false] hH (sq (rg (s1 2 [(zp40 a0),(11,.agg (zc7 a1))] ?_)))))
 obtain ⟨x1,h2,hm⟩:=bs hm
 refine dv 13 (zC hH (abn h2) hH hH hH) hH (fq 5 [zp66,zp67,(8,aI x1.1),(9,aI x1.2)] ?_)
 obtain ⟨k5,hk5,hm⟩:=zo hm
 refine mid (fun t H=>(∃ (y4:Int) (w3:AV),k5 y4=some r∧t=mk 30 [zp67,(8,aI x1.1),(9,aI y4),(23,w3)]∧H=[jy,.box [.pv (zy a0)] false,.box (zc7 a1) false])) ?_ ?_
 ·rintro _ _ ⟨y4,w3,hm,rfl,rfl⟩
  subst hk5
  refine sq (sq (dn [zp67,(8,aI x1.1),(9,aI y4),(25,aB (y4==0))] ?_))
  rcases zd hm with ⟨h,hm⟩|⟨h,hm⟩
  ·refine c1 h (rg (s1 2 [(27,aI x1.1),(26,.fn 52 [] [.ptr 0 0])] ?_))
   obtain ⟨_,h7,hm⟩:=bs hm
   obtain ⟨vv,H1,hC,rfl,rfl⟩:=aeC h7
   refine dR [(28,.tup [])] [.box [aR 3 1 (ajy x1)] false,.box [.pv (zy a0)] false,.box (zc7 a1) false,bR 3 1 (rI .i64) ([x1.1]:List Int) 0 0] [0] [aI x1.1,.ptr 0 0] hH hH hH hC hH (fin [(9,aI y4)] rfl hH (sq (dn [(7,aI y4)] (jc ?_))))
   obtain rfl:=jf hm
   exact ⟨trivial,aI y4,[.box [aR 2 1 (ajy x1)] false,.box [.pv (zy a0)] false,bR 3 1 (rI .i64) ([x1.1]:List Int) 0 0],hH,rfl,rfl⟩
  refine c0 h (jd (sq (dn [(7,aI y4)] (jc ?_))))
  obtain rfl:=jf hm
  exact ⟨trivial,aI y4,[jy,.box [.pv (zy a0)] false],hH,rfl,rfl⟩
 refine sq (rg (s1 3 [(18,aB (x1.2==0)),(17,aB (x1.2==0)),(16,aI x1.2)] ?_))
 rcases zd hm with ⟨h,hm⟩|⟨h,hm⟩
 ·refine known [18,17] h hH (s1 2 [(20,aI x1.1),(19,.pv (.fn 51 [] []))] ?_)
  obtain ⟨x9,h10,hm⟩:=bs hm
  refine dv 21 (zC hH (acM h10) hH hH hH) hH (fq 2 [zp67,(8,aI x1.1),(9,aI x1.2),(23,aB (!x9))] ?_)
  rcases zd hm with ⟨h,hm⟩|⟨h,hm⟩
  ·refine c1 h (dn [zp67,(8,aI x1.1),km] ?_)
   exact ⟨50,.any,hm,(zD hH),rfl⟩
  refine c0 h (jd ?_)
  exact ⟨x1.2,aB (!x9),hm,(zD hH),rfl⟩
 refine known [18,17] h hH (fq 5 [zp67,(8,aI x1.1),(9,aI x1.2),kD] (cF hH (jd ?_)))
 exact ⟨x1.2,aB false,hm,(zD hH),rfl⟩
theorem agZ {n:Nat}{a0:jn}{a1:zf}{r:(Option (List Int))×Int}(hm:abU n a0 a1=some r):
   ∃ vv H1,call G n 57 [.agg (zc7 a1),.ptr 0 0,.ptr 2 0,.ptr 3 0] [js,.box [.pv (zy a0)] false,jx,jt,jy]=some (.ret vv,H1)∧(match (generalizing:=false) r with|(none,r0)=>(vv=aI r0∧H1=[js,.box [.pv (zy a0)] false,jx,jt,jy])|(some r1,r0)=>(vv=aI r0∧H1=[js,.box [.pv (zy a0)] false,jx,jt,.box [aR 5 1 r1.length] false,bR 3 1 (rI .i64) r1 0 0])):=by
 unfold abU at hm
 obtain ⟨n,rfl,h0⟩:=zp hm
 replace hm:=h0;clear h0
 refine QM 11 [(0,.agg (zc7 a1)),jA,jD,jG] func57 rfl hH (sq (det [jA,jD,jG,jR] [js,.box [.pv (zy a0)] false,jx,jt,jy,.box (zc7 a1) false] hH (sq (rg (s1 4 [(9,kU),(8,.pv (.fn 51 [] [])),(7,.agg (zc7 a1)),(6,.fn 49 [] [.ptr 1 0])] ?_)))))
 obtain ⟨x4,h1,hm⟩:=bs hm
 rcases x4 with ⟨_|x2,x3⟩
 ·obtain ⟨vv,H1,hC,rfl,rfl⟩:=ZS h1
  refine dR [(10,aI x3)] [js,.box [.pv (zy a0)] false,jx,jt,jy,.box (zc7 a1) false] [4,1] [.agg (zc7 a1),.pv (.fn 51 [] []),kU,.ptr 1 0] hH hH hH hC hH (fq 1 [(5,aI x3)] (jc ?_))
  obtain rfl:=jf hm
  exact ⟨trivial,aI x3,[js,.box [.pv (zy a0)] false,jx,jt,jy],hH,rfl,rfl⟩
 obtain ⟨vv,H1,hC,rfl,rfl⟩:=ZS h1
 refine dR [(10,aI x3)] [js,.box [.pv (zy a0)] false,jx,jt,.box [aR 6 1 x2.length] false,.box (zc7 a1) false,bR 3 1 (rI .i64) x2 0 0] [4,1] [.agg (zc7 a1),.pv (.fn 51 [] []),kU,.ptr 1 0] hH hH hH hC hH (fq 1 [(5,aI x3)] (jc ?_))
 obtain rfl:=jf hm
 exact ⟨trivial,aI x3,[js,.box [.pv (zy a0)] false,jx,jt,.box [aR 5 1 x2.length] false,bR 3 1 (rI .i64) x2 0 0],hH,rfl,rfl⟩
theorem adl (m1:Nat) (f1:Nat) {n:Nat}{a0:(List Int)}{a1:Int}{r:Unit}(hm1:a0.length=m1) (hf1:f1≤a0.length) (hm:QE n a0 a1=some r):
  ∃ vv H1,call G n 52 [aI a1,.ptr 0 0] [.box [aR 1 1 m1] false,bR 3 1 (rI .i64) a0 f1 0]=some (.ret vv,H1)∧(vv=.tup []∧H1=[.box [aR 1 1 (alP a0 a1)] false,bR 3 1 (rI .i64) (a0++([a1]:List Int)) f1 0]):=by
 unfold QE at hm
 obtain ⟨n,rfl,h0⟩:=zp hm
 replace hm:=h0;clear h0
 refine QM 7 [(0,aI a1),jA] func52 rfl hH (rg (st 3 [(5,aR 2 1 1),(4,aI a1),(3,aR 1 1 m1)] [.box [aR 1 1 m1] false,bR 3 1 (rI .i64) a0 f1 0,bR 3 1 (rI .i64) ([a1]:List Int) 0 0] hH ?_))
 obtain ⟨_,h1,hm⟩:=bs hm
 refine dO [(6,aR 1 1 (alP a0 a1))] [.box [aR 1 1 m1] false,bR 3 1 (rI .i64) (a0++([a1]:List Int)) f1 0,bR 3 1 (rI .i64) ([a1]:List Int) 0 0] (qV (u:=0) (n:=m1) (id:=1) (rI .i64) a0 ([a1]:List Int) (b:=8) t33 t3 rfl rfl rfl (fun _=>rfl) rfl h1 rfl hO hO (show Zm (aR 2 1 1) _=some (([a1]:List Int).map (rI .i64)) from by kernel_rfl) hH) hH (stf 1 [] [.box [aR 1 1 (alP a0 a1)] false,bR 3 1 (rI .i64) (a0++([a1]:List Int)) f1 0,bR 3 1 (rI .i64) ([a1]:List Int) 0 0] hH ?_)
 obtain rfl:=jf hm
 exact ⟨trivial,.tup [],[.box [aR 1 1 (alP a0 a1)] false,bR 3 1 (rI .i64) (a0++([a1]:List Int)) f1 0],hH,rfl,rfl⟩
abbrev ahE (p0:(List Int)) (p1:(Int×Int)):=(p0++([p1.1]:List Int))
theorem Qa (m1:Nat) (f1:Nat) {n:Nat}{a0:(List Int)}{a1:jn}{a2:zf}{r:(List Int)×Int}(hm1:a0.length=m1) (hf1:f1≤a0.length) (hm:zV n a0 a1 a2=some r):
   ∃ vv H1,call G n 49 [.agg (zc7 a2),.pv (.fn 51 [] []),.fn 52 [] [.ptr 0 0],.ptr 2 0] [.box [aR 1 1 m1] false,bR 3 1 (rI .i64) a0 f1 0,.box [.pv (zy a1)] false]=some (.ret vv,H1)∧(match (generalizing:=false) r with|(r0,r1)=>(∃ (e2:Nat) (e3:Nat),r0.length=e2∧e3≤r0.length∧vv=aI r1∧H1=[.box [aR 1 1 e2] false,bR 3 1 (rI .i64) r0 e3 0,.box [.pv (zy a1)] false])):=by
 unfold zV at hm
 obtain ⟨n,rfl,h0⟩:=zp hm
 replace hm:=h0;clear h0
 refine QM 30 [(0,.agg (zc7 a2)),zp66,zp67,jF] func49 rfl hH (sq (det [zp66,zp67,jF,jJ] [.box [aR 1 1 m1] false,bR 3 1 (rI .i64) a0 f1 0,.box [.pv (zy a1)] false,.box (zc7 a2) false] hH (sq (rg (s1 2 [(zp40 a1),(11,.agg (zc7 a2))] ?_)))))
 obtain ⟨x1,h2,hm⟩:=bs hm
 refine dv 13 (zC hH (abn h2) hH hH hH) hH (fq 5 [zp66,zp67,(8,aI x1.1),(9,aI x1.2)] ?_)
 obtain ⟨k5,hk5,hm⟩:=zo hm
 refine mid (fun t H=>(∃ (y4:Int) (w3:AV),k5 y4=some r∧t=mk 30 [zp67,(8,aI x1.1),(9,aI y4),(23,w3)]∧H=[.box [aR 1 1 m1] false,bR 3 1 (rI .i64) a0 f1 0,.box [.pv (zy a1)] false,.box (zc7 a2) false])) ?_ ?_
 ·rintro _ _ ⟨y4,w3,hm,rfl,rfl⟩
  subst hk5
  refine sq (sq (dn [zp67,(8,aI x1.1),(9,aI y4),(25,aB (y4==0))] ?_))
  rcases zd hm with ⟨h,hm⟩|⟨h,hm⟩
  ·refine c1 h (rg (s1 2 [(27,aI x1.1),(26,.fn 52 [] [.ptr 0 0])] ?_))
   obtain ⟨_,h7,hm⟩:=bs hm
   obtain ⟨vv,H1,hC,rfl,rfl⟩:=adl m1 f1 hM hN h7
   refine dR [(28,.tup [])] [.box [aR 1 1 ((a0++([x1.1]:List Int)).length)] false,bR 3 1 (rI .i64) (ahE a0 x1) f1 0,.box [.pv (zy a1)] false,.box (zc7 a2) false] [0,1] [aI x1.1,.ptr 0 0] hH hH hH hC hH (fin [(9,aI y4)] rfl hH (sq (dn [(7,aI y4)] (jc ?_))))
   obtain rfl:=jf hm
   exact ⟨trivial,aI y4,[.box [aR 1 1 ((a0++([x1.1]:List Int)).length)] false,bR 3 1 (rI .i64) (ahE a0 x1) f1 0,.box [.pv (zy a1)] false],hH,(ahE a0 x1).length,f1,hM,hN,rfl,rfl⟩
  refine c0 h (jd (sq (dn [(7,aI y4)] (jc ?_))))
  obtain rfl:=jf hm
  exact ⟨trivial,aI y4,[.box [aR 1 1 m1] false,bR 3 1 (rI .i64) a0 f1 0,.box [.pv (zy a1)] false],hH,m1,f1,hM,hN,rfl,rfl⟩
 refine sq (rg (s1 3 [(18,aB (x1.2==0)),(17,aB (x1.2==0)),(16,aI x1.2)] ?_))
 rcases zd hm with ⟨h,hm⟩|⟨h,hm⟩
 ·refine known [18,17] h hH (s1 2 [(20,aI x1.1),(19,.pv (.fn 51 [] []))] ?_)
  obtain ⟨x9,h10,hm⟩:=bs hm
  refine dv 21 (zC hH (acM h10) hH hH hH) hH (fq 2 [zp67,(8,aI x1.1),(9,aI x1.2),(23,aB (!x9))] ?_)
  rcases zd hm with ⟨h,hm⟩|⟨h,hm⟩
  ·refine c1 h (dn [zp67,(8,aI x1.1),km] ?_)
   exact ⟨50,.any,hm,(zD hH),rfl⟩
  refine c0 h (jd ?_)
  exact ⟨x1.2,aB (!x9),hm,(zD hH),rfl⟩
 refine known [18,17] h hH (fq 5 [zp67,(8,aI x1.1),(9,aI x1.2),kD] (cF hH (jd ?_)))
 exact ⟨x1.2,aB false,hm,(zD hH),rfl⟩
theorem ajZ (m5:Nat) (f5:Nat) {n:Nat}{a0:(List Int)}{a1:jn}{a2:zf}{r:(List Int)×Int}(hm5:a0.length=m5) (hf5:f5≤a0.length) (hm:aaw n a0 a1 a2=some r):
  ∃ vv H1,call G n 57 [.agg (zc7 a2),.ptr 0 0,.ptr 2 0,.ptr 3 0] [js,.box [.pv (zy a1)] false,jx,jt,.box [aR 5 1 m5] false,bR 3 1 (rI .i64) a0 f5 0]=some (.ret vv,H1)∧(match (generalizing:=false) r with|(r0,r1)=>(∃ (e2:Nat) (e3:Nat),r0.length=e2∧e3≤r0.length∧vv=aI r1∧H1=[js,.box [.pv (zy a1)] false,jx,jt,.box [aR 5 1 e2] false,bR 3 1 (rI .i64) r0 e3 0])):=by
 unfold aaw at hm
 obtain ⟨n,rfl,h0⟩:=zp hm
 replace hm:=h0;clear h0
 refine QM 11 [(0,.agg (zc7 a2)),jA,jD,jG] func57 rfl hH (sq (det [jA,jD,jG,jS] [js,.box [.pv (zy a1)] false,jx,jt,.box [aR 5 1 m5] false,bR 3 1 (rI .i64) a0 f5 0,.box (zc7 a2) false] hH (sq (rg (s1 4 [(9,kU),(8,.pv (.fn 51 [] [])),(7,.agg (zc7 a2)),(6,.fn 49 [] [.ptr 1 0])] ?_)))))
 obtain ⟨⟨x2,x3⟩,h1,hm⟩:=bs hm
 obtain ⟨vv,H1,hC,g4,g5,q6,q7,rfl,rfl⟩:=Qa m5 f5 hM hN h1
 refine dR [(10,aI x3)] [js,.box [.pv (zy a1)] false,jx,jt,.box [aR 5 1 g4] false,bR 3 1 (rI .i64) x2 g5 0,.box (zc7 a2) false] [4,5,1] [.agg (zc7 a2),.pv (.fn 51 [] []),kU,.ptr 1 0] hH hH hH hC hH (fq 1 [(5,aI x3)] (jc ?_))
 obtain rfl:=jf hm
 exact ⟨trivial,aI x3,[js,.box [.pv (zy a1)] false,jx,jt,.box [aR 5 1 g4] false,bR 3 1 (rI .i64) x2 g5 0],hH,g4,g5,hM,hN,rfl,rfl⟩
abbrev zp68:Nat×AV:=(1,.fn 57 [] [.ptr 0 0,.ptr 2 0,.ptr 3 0])
theorem aaF {n:Nat}{a0:jn}{a1:jl}{r:(Option (List Int))×Int}(hm:qx n a0 a1=some r):
   ∃ vv H1,call G n 53 [.pv (ZN a1),.fn 57 [] [.ptr 0 0,.ptr 2 0,.ptr 3 0]] [js,.box [.pv (zy a0)] false,jx,jt,jy]=some (.ret vv,H1)∧(match (generalizing:=false) r with|(none,r0)=>(vv=aI r0∧H1=[js,.box [.pv (zy a0)] false,jx,jt,jy])|(some r1,r0)=>(∃ (e2:Nat) (e3:Nat),r1.length=e2∧e3≤r1.length∧vv=aI r0∧H1=[js,.box [.pv (zy a0)] false,jx,jt,.box [aR 5 1 e2] false,bR 3 1 (rI .i64) r1 e3 0])):=by
 unfold qx at hm
 obtain ⟨n,rfl,h0⟩:=zp hm
 replace hm:=h0;clear h0
 refine QM 21 [(zp25 a1),zp68] func53 rfl hH (sq (dn [(zp25 a1),zp68] ?_))
 obtain ⟨k8,hk8,hm⟩:=zo hm
 refine mid (fun t H=>(∃ (w1:AV) (w2:AV),k8 none=some r∧t=mk 21 [zp68,(zp64 a1),(zp65 a1),(10,w1),(11,w2)]∧H=[js,.box [.pv (zy a0)] false,jx,jt,jy])∨(∃ (y3:(List Int)) (w1:AV) (w2:AV) (g4:Nat) (g6:Nat),k8 (some y3)=some r∧t=mk 21 [zp68,(zp64 a1),(zp65 a1),(10,w1),(11,w2)]∧H=[js,.box [.pv (zy a0)] false,jx,jt,.box [aR 5 1 g4] false,bR 3 1 (rI .i64) y3 g6 0]∧y3.length=g4∧g6≤y3.length)) ?_ ?_
 ·rintro _ _ (⟨w1,w2,hm,rfl,rfl⟩|⟨y3,w1,w2,g4,g6,hm,rfl,rfl,q5,q7⟩)
  ·subst hk8
   refine sq (dn [j8] (jc ?_))
   obtain rfl:=jf hm
   exact ⟨trivial,aI 0,[js,.box [.pv (zy a0)] false,jx,jt,jy],hH,rfl,rfl⟩
  subst hk8
  refine sq (dn [j8] (jc ?_))
  obtain rfl:=jf hm
  exact ⟨trivial,aI 0,[js,.box [.pv (zy a0)] false,jx,jt,.box [aR 5 1 g4] false,bR 3 1 (rI .i64) y3 g6 0],hH,g4,g6,hM,hN,rfl,rfl⟩
 refine sq (rg (s1 1 [(zp64 a1)] (dv 9 (v:=aI (aaB a1)) (zu za a1 t23 hH) hH (fq 1 [zp68,(zp64 a1),(zp65 a1),(10,aI 0)] (bq ?_)))))
 refine ZR (fun mm t H=>(∃ (y18:Int),zF n a0 a1 k8 mm none y18=some r∧t=mk 21 [zp68,(zp64 a1),(zp65 a1),(10,aI y18)]∧H=[js,.box [.pv (zk zm a0)] false,jx,jt,jy])∨(∃ (y17:(List Int)) (y18:Int) (g19:Nat) (g21:Nat),zF n a0 a1 k8 mm (some y17) y18=some r∧t=mk 21 [zp68,(zp64 a1),(zp65 a1),(10,aI y18)]∧H=[js,.box [.pv (zk zm a0)] false,jx,jt,.box [aR 5 1 g19] false,bR 3 1 (rI .i64) y17 g21 0]∧y17.length=g19∧g21≤y17.length)) (.inl ⟨0,hm,rfl,rfl⟩) ?_ ?_
 ·
   rintro _ _ (⟨y18,hm,_⟩|⟨y17,y18,g19,g21,hm,_⟩)<;>exact nomatch hm
 rintro m23 _ _ (⟨y18,hm,rfl,rfl⟩|⟨y17,y18,g19,g21,hm,rfl,rfl,q20,q22⟩)
 ·simp only [zF] at hm
  refine sq (dn [zp68,(zp64 a1),(zp65 a1),(10,aI y18),(11,aB (aai y18 a1))] ?_)
  refine sq ?_
  rcases zd hm with ⟨h,hm⟩|⟨h,hm⟩
  ·refine c1 h (jd (sq (bq (sq (rg ?_)))))
   obtain ⟨x25,h26,hm⟩:=bs hm
   refine dv 12 (v:=.pv (.ptr (Z5 x25) 0)) (zS za a1 .i64 t23 t49 h26 (zt x25) rfl hH) hH (stf 3 [zp68,(6,.ptr 5 0),(zp64 a1),(zp65 a1),(10,aI y18)] [js,.box [.pv (zy a0)] false,jx,jt,jy,.box (zc9 x25) false] hH (sq (rg (s1 2 [(15,.agg (zc9 x25)),(14,.fn 57 [] [.ptr 0 0,.ptr 2 0,.ptr 3 0])] ?_))))
   obtain ⟨x30,h27,hm⟩:=bs hm
   rcases x30 with ⟨_|x28,x29⟩
   ·obtain ⟨vv,H1,hC,rfl,rfl⟩:=agZ h27
    refine dR [(16,aI x29)] [js,.box [.pv (zy a0)] false,jx,jt,jy,.box (zc9 x25) false] [0,1,2,3,4] [.agg (zc9 x25),.ptr 0 0,.ptr 2 0,.ptr 3 0] hH hH hH hC hH (fq 1 [zp68,(7,aI x29),(zp64 a1),(zp65 a1),(10,aI y18)] (sq (dn [zp68,(7,aI x29),(zp64 a1),(zp65 a1),(10,aI y18),(18,aB (x29 !=0))] ?_)))
    rcases zd hm with ⟨h,hm⟩|⟨h,hm⟩
    ·refine c1 h (sq (dn [(4,aI x29)] (jc ?_)))
     obtain rfl:=jf hm
     exact ⟨trivial,aI x29,[js,.box [.pv (zy a0)] false,jx,jt,jy],hH,rfl,rfl⟩
    refine c0 h (jd (dn [zp68,(zp64 a1),(zp65 a1),(zp45 y18)] ?_))
    exact ⟨_,_,Zg [zp68,(zp64 a1),(zp65 a1),(zp45 y18)] [js,.box [.pv (zy a0)] false,jx,jt,jy] hH,.inl ⟨(zN y18),hm,rfl,rfl⟩⟩
   obtain ⟨vv,H1,hC,rfl,rfl⟩:=agZ h27
   refine dR [(16,aI x29)] [js,.box [.pv (zy a0)] false,jx,jt,.box [aR 6 1 x28.length] false,.box (zc9 x25) false,bR 3 1 (rI .i64) x28 0 0] [0,1,2,3,4] [.agg (zc9 x25),.ptr 0 0,.ptr 2 0,.ptr 3 0] hH hH hH hC hH (fq 1 [zp68,(7,aI x29),(zp64 a1),(zp65 a1),(10,aI y18)] (sq (dn [zp68,(7,aI x29),(zp64 a1),(zp65 a1),(10,aI y18),(18,aB (x29 !=0))] ?_)))
   rcases zd hm with ⟨h,hm⟩|⟨h,hm⟩
   ·refine c1 h (sq (dn [(4,aI x29)] (jc ?_)))
    obtain rfl:=jf hm
    exact ⟨trivial,aI x29,[js,.box [.pv (zy a0)] false,jx,jt,.box [aR 5 1 x28.length] false,bR 3 1 (rI .i64) x28 0 0],hH,x28.length,0,hM,hN,rfl,rfl⟩
   refine c0 h (jd (dn [zp68,(zp64 a1),(zp65 a1),(zp45 y18)] ?_))
   exact ⟨_,_,Zg [zp68,(zp64 a1),(zp65 a1),(zp45 y18)] [js,.box [.pv (zy a0)] false,jx,jt,.box [aR 5 1 x28.length] false,bR 3 1 (rI .i64) x28 0 0] hH,.inr (⟨x28,(zN y18),x28.length,0,hm,rfl,rfl,hM,hN⟩)⟩
  refine c0 h (je ?_)
  exact .inl ⟨aI y18,aB (aai y18 a1),hm,(zD hH),rfl⟩
 simp only [zF] at hm
 refine sq (dn [zp68,(zp64 a1),(zp65 a1),(10,aI y18),(11,aB (aai y18 a1))] ?_)
 refine sq ?_
 rcases zd hm with ⟨h,hm⟩|⟨h,hm⟩
 ·refine c1 h (jd (sq (bq (sq (rg ?_)))))
  obtain ⟨x34,h35,hm⟩:=bs hm
  refine dv 12 (v:=.pv (.ptr (Z5 x34) 0)) (zS za a1 .i64 t23 t49 h35 (zt x34) rfl hH) hH (stf 3 [zp68,(6,.ptr 6 0),(zp64 a1),(zp65 a1),(10,aI y18)] [js,.box [.pv (zy a0)] false,jx,jt,.box [aR 5 1 g19] false,bR 3 1 (rI .i64) y17 g21 0,.box (zc9 x34) false] hH (sq (rg (s1 2 [(15,.agg (zc9 x34)),(14,.fn 57 [] [.ptr 0 0,.ptr 2 0,.ptr 3 0])] ?_))))
  obtain ⟨⟨x37,x38⟩,h36,hm⟩:=bs hm
  obtain ⟨vv,H1,hC,g39,g40,q41,q42,rfl,rfl⟩:=ajZ g19 g21 hM hN h36
  refine dR [(16,aI x38)] [js,.box [.pv (zy a0)] false,jx,jt,.box [aR 5 1 g39] false,bR 3 1 (rI .i64) x37 g40 0,.box (zc9 x34) false] [0,1,2,3,4,5] [.agg (zc9 x34),.ptr 0 0,.ptr 2 0,.ptr 3 0] hH hH hH hC hH (fq 1 [zp68,(7,aI x38),(zp64 a1),(zp65 a1),(10,aI y18)] (sq (dn [zp68,(7,aI x38),(zp64 a1),(zp65 a1),(10,aI y18),(18,aB (x38 !=0))] ?_)))
  rcases zd hm with ⟨h,hm⟩|⟨h,hm⟩
  ·refine c1 h (sq (dn [(4,aI x38)] (jc ?_)))
   obtain rfl:=jf hm
   exact ⟨trivial,aI x38,[js,.box [.pv (zy a0)] false,jx,jt,.box [aR 5 1 g39] false,bR 3 1 (rI .i64) x37 g40 0],hH,g39,g40,hM,hN,rfl,rfl⟩
  refine c0 h (jd (dn [zp68,(zp64 a1),(zp65 a1),(zp45 y18)] ?_))
  exact ⟨_,_,Zg [zp68,(zp64 a1),(zp65 a1),(zp45 y18)] [js,.box [.pv (zy a0)] false,jx,jt,.box [aR 5 1 g39] false,bR 3 1 (rI .i64) x37 g40 0] hH,.inr (⟨x37,(zN y18),g39,g40,hm,rfl,rfl,hM,hN⟩)⟩
 refine c0 h (je ?_)
 exact .inr (⟨y17,aI y18,aB (aai y18 a1),g19,g21,hm,(zD hH),rfl,hM,hN⟩)
abbrev adF:=(([2]:List Int).length)
theorem aj2 {n:Nat}{a0:Int}{r:Unit}(hm:adj n a0=some r):
  ∃ vv H1,call G n 60 [aI a0,.ptr 0 0] [ju,jy]=some (.ret vv,H1)∧(vv=.tup []∧H1=[ju,.box [aR 2 1 adF] false,bR 3 1 (rI .i64) ([2]:List Int) 0 0]):=by
 unfold adj at hm
 obtain ⟨n,rfl,h0⟩:=zp hm
 replace hm:=h0;clear h0
 refine QM 5 [(0,aI a0),jA] func60 rfl hH (rg (s1 1 [(3,.fn 52 [] [.ptr 1 0])] ?_))
 obtain ⟨_,h1,hm⟩:=bs hm
 obtain ⟨vv,H1,hC,rfl,rfl⟩:=aeC h1
 refine dR [(4,.tup [])] [ju,.box [aR 2 1 adF] false,bR 3 1 (rI .i64) ([2]:List Int) 0 0] [1] [aI 2,.ptr 1 0] hH hH hH hC hH (fin [] rfl hH ?_)
 obtain rfl:=jf hm
 exact ⟨trivial,.tup [],[ju,.box [aR 2 1 adF] false,bR 3 1 (rI .i64) ([2]:List Int) 0 0],hH,rfl,rfl⟩
abbrev zp69:Nat×AV:=(2,.fn 60 [] [.ptr 0 0])
theorem Qd {n:Nat}{a0:jn}{a1:zf}{r:(Option (List Int))×Int}(hm:ZX n a0 a1=some r):
   ∃ vv H1,call G n 49 [.agg (zc7 a1),.pv (.fn 51 [] []),.fn 60 [] [.ptr 0 0],.ptr 2 0] [ju,jy,.box [.pv (zy a0)] false]=some (.ret vv,H1)∧(match (generalizing:=false) r with|(some r0,r1)=>(r0.length=([2]:List Int).length∧vv=aI r1∧H1=[ju,.box [aR 3 1 adF] false,.box [.pv (zy a0)] false,bR 3 1 (rI .i64) r0 0 0])|(none,r1)=>(vv=aI r1∧H1=[ju,jy,.box [.pv (zy a0)] false])):=by
 unfold ZX at hm
 obtain ⟨n,rfl,h0⟩:=zp hm
 replace hm:=h0;clear h0
 refine QM 30 [(0,.agg (zc7 a1)),zp66,zp69,jF] func49 rfl hH (sq (det [zp66,zp69,jF,jJ] [ju,jy,.box [.pv (zy a0)] false,.box (zc7 a1) false] hH (sq (rg (s1 2 [(zp40 a0),(11,.agg (zc7 a1))] ?_)))))
 obtain ⟨x1,h2,hm⟩:=bs hm
 refine dv 13 (zC hH (abn h2) hH hH hH) hH (fq 5 [zp66,zp69,(8,aI x1.1),(9,aI x1.2)] ?_)
 obtain ⟨k5,hk5,hm⟩:=zo hm
 refine mid (fun t H=>(∃ (y4:Int) (w3:AV),k5 y4=some r∧t=mk 30 [zp69,(8,aI x1.1),(9,aI y4),(23,w3)]∧H=[ju,jy,.box [.pv (zy a0)] false,.box (zc7 a1) false])) ?_ ?_
 ·rintro _ _ ⟨y4,w3,hm,rfl,rfl⟩
  subst hk5
  refine sq (sq (dn [zp69,(8,aI x1.1),(9,aI y4),(25,aB (y4==0))] ?_))
  rcases zd hm with ⟨h,hm⟩|⟨h,hm⟩
  ·refine c1 h (rg (s1 2 [(27,aI x1.1),(26,.fn 60 [] [.ptr 0 0])] ?_))
   obtain ⟨_,h7,hm⟩:=bs hm
   obtain ⟨vv,H1,hC,rfl,rfl⟩:=aj2 h7
   refine dR [(28,.tup [])] [ju,.box [aR 4 1 adF] false,.box [.pv (zy a0)] false,.box (zc7 a1) false,bR 3 1 (rI .i64) ([2]:List Int) 0 0] [0,1] [aI x1.1,.ptr 0 0] hH hH hH hC hH (fin [(9,aI y4)] rfl hH (sq (dn [(7,aI y4)] (jc ?_))))
   obtain rfl:=jf hm
   exact ⟨trivial,aI y4,[ju,.box [aR 3 1 adF] false,.box [.pv (zy a0)] false,bR 3 1 (rI .i64) ([2]:List Int) 0 0],hH,hM,rfl,rfl⟩
  refine c0 h (jd (sq (dn [(7,aI y4)] (jc ?_))))
  obtain rfl:=jf hm
  exact ⟨trivial,aI y4,[ju,jy,.box [.pv (zy a0)] false],hH,rfl,rfl⟩
 refine sq (rg (s1 3 [(18,aB (x1.2==0)),(17,aB (x1.2==0)),(16,aI x1.2)] ?_))
 rcases zd hm with ⟨h,hm⟩|⟨h,hm⟩
 ·refine known [18,17] h hH (s1 2 [(20,aI x1.1),(19,.pv (.fn 51 [] []))] ?_)
  obtain ⟨x9,h10,hm⟩:=bs hm
  refine dv 21 (zC hH (acM h10) hH hH hH) hH (fq 2 [zp69,(8,aI x1.1),(9,aI x1.2),(23,aB (!x9))] ?_)
  rcases zd hm with ⟨h,hm⟩|⟨h,hm⟩
  ·refine c1 h (dn [zp69,(8,aI x1.1),km] ?_)
   exact ⟨50,.any,hm,(zD hH),rfl⟩
  refine c0 h (jd ?_)
  exact ⟨x1.2,aB (!x9),hm,(zD hH),rfl⟩
 refine known [18,17] h hH (fq 5 [zp69,(8,aI x1.1),(9,aI x1.2),kD] (cF hH (jd ?_)))
 exact ⟨x1.2,aB false,hm,(zD hH),rfl⟩
theorem afW {n:Nat}{a0:Int}{r:Bool}(hm:aay n a0=some r):
  call G n 61 [aI a0] []=some (.ret (aB r),[]):=by
 unfold aay at hm
 obtain ⟨n,rfl,h0⟩:=zp hm
 replace hm:=h0;clear h0
 refine zT 9 [(0,aI a0)] func61 rfl hH (sq (dn [(0,aI a0)] (sq (rg (s1 3 [(5,aB (a0==0)),(4,aB (a0==0)),(3,aI a0)] ?_)))))
 refine segP (a0==0) [5,4] (fun b=>[(8,aB (b||(a0==2))),(7,ifA b hY (aB (a0==2))),(6,ifA b hY (aI a0))]) 3 hH hH hH (fq 1 [(2,aB ((a0==0)||(a0==2)))] (jc ?_))
 cases hm;exact hJ
theorem ajM {n:Nat}{a0:Int}{r:Unit}(hm:ade n a0=some r):
  ∃ vv H1,call G n 62 [aI a0,.ptr 0 0] [ju,jy]=some (.ret vv,H1)∧(vv=.tup []∧H1=[ju,.box [aR 2 1 adF] false,bR 3 1 (rI .i64) ([2]:List Int) 0 0]):=by
 unfold ade at hm
 obtain ⟨n,rfl,h0⟩:=zp hm
 replace hm:=h0;clear h0
 refine QM 5 [(0,aI a0),jA] func62 rfl hH (rg (s1 1 [(3,.fn 52 [] [.ptr 1 0])] ?_))
 obtain ⟨_,h1,hm⟩:=bs hm
 obtain ⟨vv,H1,hC,rfl,rfl⟩:=aeC h1
 refine dR [(4,.tup [])] [ju,.box [aR 2 1 adF] false,bR 3 1 (rI .i64) ([2]:List Int) 0 0] [1] [aI 2,.ptr 1 0] hH hH hH hC hH (fin [] rfl hH ?_)
 obtain rfl:=jf hm
 exact ⟨trivial,.tup [],[ju,.box [aR 2 1 adF] false,bR 3 1 (rI .i64) ([2]:List Int) 0 0],hH,rfl,rfl⟩
abbrev zp70:Nat×AV:=(2,.fn 62 [] [.ptr 0 0])
theorem qW {n:Nat}{a0:jn}{a1:zf}{r:(Option (List Int))×Int}(hm:ZQ n a0 a1=some r):
   ∃ vv H1,call G n 49 [.agg (zc7 a1),.pv (.fn 61 [] []),.fn 62 [] [.ptr 0 0],.ptr 2 0] [ju,jy,.box [.pv (zy a0)] false]=some (.ret vv,H1)∧(match (generalizing:=false) r with|(some r0,r1)=>(r0.length=([2]:List Int).length∧vv=aI r1∧H1=[ju,.box [aR 3 1 adF] false,.box [.pv (zy a0)] false,bR 3 1 (rI .i64) r0 0 0])|(none,r1)=>(vv=aI r1∧H1=[ju,jy,.box [.pv (zy a0)] false])):=by
 unfold ZQ at hm
 obtain ⟨n,rfl,h0⟩:=zp hm
 replace hm:=h0;clear h0
 refine QM 30 [(0,.agg (zc7 a1)),(1,.pv (.fn 61 [] [])),zp70,jF] func49 rfl hH (sq (det [(1,.pv (.fn 61 [] [])),zp70,jF,jJ] [ju,jy,.box [.pv (zy a0)] false,.box (zc7 a1) false] hH (sq (rg (s1 2 [(zp40 a0),(11,.agg (zc7 a1))] ?_)))))
 obtain ⟨x1,h2,hm⟩:=bs hm
 refine dv 13 (zC hH (abn h2) hH hH hH) hH (fq 5 [(1,.pv (.fn 61 [] [])),zp70,(8,aI x1.1),(9,aI x1.2)] ?_)
 obtain ⟨k5,hk5,hm⟩:=zo hm
 refine mid (fun t H=>(∃ (y4:Int) (w3:AV),k5 y4=some r∧t=mk 30 [zp70,(8,aI x1.1),(9,aI y4),(23,w3)]∧H=[ju,jy,.box [.pv (zy a0)] false,.box (zc7 a1) false])) ?_ ?_
 ·rintro _ _ ⟨y4,w3,hm,rfl,rfl⟩
  subst hk5
  refine sq (sq (dn [zp70,(8,aI x1.1),(9,aI y4),(25,aB (y4==0))] ?_))
  rcases zd hm with ⟨h,hm⟩|⟨h,hm⟩
  ·refine c1 h (rg (s1 2 [(27,aI x1.1),(26,.fn 62 [] [.ptr 0 0])] ?_))
   obtain ⟨_,h7,hm⟩:=bs hm
   obtain ⟨vv,H1,hC,rfl,rfl⟩:=ajM h7
   refine dR [(28,.tup [])] [ju,.box [aR 4 1 adF] false,.box [.pv (zy a0)] false,.box (zc7 a1) false,bR 3 1 (rI .i64) ([2]:List Int) 0 0] [0,1] [aI x1.1,.ptr 0 0] hH hH hH hC hH (fin [(9,aI y4)] rfl hH (sq (dn [(7,aI y4)] (jc ?_))))
   obtain rfl:=jf hm
   exact ⟨trivial,aI y4,[ju,.box [aR 3 1 adF] false,.box [.pv (zy a0)] false,bR 3 1 (rI .i64) ([2]:List Int) 0 0],hH,hM,rfl,rfl⟩
  refine c0 h (jd (sq (dn [(7,aI y4)] (jc ?_))))
  obtain rfl:=jf hm
  exact ⟨trivial,aI y4,[ju,jy,.box [.pv (zy a0)] false],hH,rfl,rfl⟩
 refine sq (rg (s1 3 [(18,aB (x1.2==0)),(17,aB (x1.2==0)),(16,aI x1.2)] ?_))
 rcases zd hm with ⟨h,hm⟩|⟨h,hm⟩
 ·refine known [18,17] h hH (s1 2 [(20,aI x1.1),(19,.pv (.fn 61 [] []))] ?_)
  obtain ⟨x9,h10,hm⟩:=bs hm
  refine dv 21 (zC hH (afW h10) hH hH hH) hH (fq 2 [zp70,(8,aI x1.1),(9,aI x1.2),(23,aB (!x9))] ?_)
  rcases zd hm with ⟨h,hm⟩|⟨h,hm⟩
  ·refine c1 h (dn [zp70,(8,aI x1.1),km] ?_)
   exact ⟨50,.any,hm,(zD hH),rfl⟩
  refine c0 h (jd ?_)
  exact ⟨x1.2,aB (!x9),hm,(zD hH),rfl⟩
 refine known [18,17] h hH (fq 5 [zp70,(8,aI x1.1),(9,aI x1.2),kD] (cF hH (jd ?_)))
 exact ⟨x1.2,aB false,hm,(zD hH),rfl⟩
theorem ag0 {n:Nat}{a0:jn}{a1:zI}{r:(Option (List Int))×Int}(hm:adb n a0 a1=some r):
   ∃ vv H1,call G n 59 [.agg (zc5 a1),.ptr 0 0,.ptr 2 0,.ptr 3 0] [js,.box [.pv (zy a0)] false,jx,jt,jy]=some (.ret vv,H1)∧(match (generalizing:=false) r with|(none,r0)=>(vv=aI r0∧H1=[js,.box [.pv (zy a0)] false,jx,jt,jy])|(some r1,r0)=>(∃ (e2:Nat),r1.length=e2∧vv=aI r0∧H1=[js,.box [.pv (zy a0)] false,jx,jt,.box [aR 5 1 e2] false,bR 3 1 (rI .i64) r1 0 0])):=by
 unfold adb at hm
 obtain ⟨n,rfl,h0⟩:=zp hm
 replace hm:=h0;clear h0
 refine QM 29 [(0,.agg (zc5 a1)),jA,jD,jG] func59 rfl hH (sq (det [jA,jD,jG,jR] [js,.box [.pv (zy a0)] false,jx,jt,jy,.box (zc5 a1) false] hH ?_))
 refine sq (sq (dn [jA,jD,jG,jR,(7,aI a1.A)] (bq (sq (dn [jA,jD,jG,jR,(7,aI a1.A),(8,aB (a1.A==1))] ?_)))))
 rcases zd hm with ⟨h,hm⟩|⟨h,hm⟩
 ·refine c1 h (sq (rg (s1 5 [(14,kX),(13,.pv (.fn 51 [] [])),(12,.agg (zc1 a1)),(11,.ptr 5 1),(10,.fn 49 [] [.ptr 1 0])] ?_)))
  obtain ⟨x5,h2,hm⟩:=bs hm
  rcases x5 with ⟨_|x3,x4⟩
  ·obtain ⟨vv,H1,hC,rfl,rfl⟩:=Qd h2
   refine dR [(15,aI x4)] [js,.box [.pv (zy a0)] false,jx,jt,jy,.box (zc5 a1) false] [3,4,1] [.agg (zc1 a1),.pv (.fn 51 [] []),kX,.ptr 1 0] hH hH hH hC hH (fq 1 [(5,aI x4)] (jc ?_))
   obtain rfl:=jf hm
   exact ⟨trivial,aI x4,[js,.box [.pv (zy a0)] false,jx,jt,jy],hH,rfl,rfl⟩
  obtain ⟨vv,H1,hC,q6,rfl,rfl⟩:=Qd h2
  refine dR [(15,aI x4)] [js,.box [.pv (zy a0)] false,jx,jt,.box [aR 6 1 adF] false,.box (zc5 a1) false,bR 3 1 (rI .i64) x3 0 0] [3,4,1] [.agg (zc1 a1),.pv (.fn 51 [] []),kX,.ptr 1 0] hH hH hH hC hH (fq 1 [(5,aI x4)] (jc ?_))
  obtain rfl:=jf hm
  exact ⟨trivial,aI x4,[js,.box [.pv (zy a0)] false,jx,jt,.box [aR 5 1 adF] false,bR 3 1 (rI .i64) x3 0 0],hH,([2]:List Int).length,hM,rfl,rfl⟩
 refine c0 h (sq (dn [jA,jD,jG,jR,(16,aB (a1.A==2))] ?_))
 rcases zd hm with ⟨h,hm⟩|⟨h,hm⟩
 ·refine c1 h (sq (rg (s1 4 [(21,kY),(20,.agg (zc1 a1)),(19,.ptr 5 1),(18,.fn 49 [] [.ptr 1 0])] ?_)))
  obtain ⟨x11,h8,hm⟩:=bs hm
  rcases x11 with ⟨_|x9,x10⟩
  ·obtain ⟨vv,H1,hC,rfl,rfl⟩:=qW h8
   refine dR [(22,aI x10)] [js,.box [.pv (zy a0)] false,jx,jt,jy,.box (zc5 a1) false] [3,4,1] [.agg (zc1 a1),.pv (.fn 61 [] []),kY,.ptr 1 0] hH hH hH hC hH (fq 1 [(5,aI x10)] (jc ?_))
   obtain rfl:=jf hm
   exact ⟨trivial,aI x10,[js,.box [.pv (zy a0)] false,jx,jt,jy],hH,rfl,rfl⟩
  obtain ⟨vv,H1,hC,q12,rfl,rfl⟩:=qW h8
  refine dR [(22,aI x10)] [js,.box [.pv (zy a0)] false,jx,jt,.box [aR 6 1 adF] false,.box (zc5 a1) false,bR 3 1 (rI .i64) x9 0 0] [3,4,1] [.agg (zc1 a1),.pv (.fn 61 [] []),kY,.ptr 1 0] hH hH hH hC hH (fq 1 [(5,aI x10)] (jc ?_))
  obtain rfl:=jf hm
  exact ⟨trivial,aI x10,[js,.box [.pv (zy a0)] false,jx,jt,.box [aR 5 1 adF] false,bR 3 1 (rI .i64) x9 0 0],hH,([2]:List Int).length,hM,rfl,rfl⟩
 refine c0 h (jd (sq (rg (s1 5 [(27,kU),(26,.pv (.fn 51 [] [])),(25,.agg (zc1 a1)),(24,.ptr 5 1),(23,.fn 49 [] [.ptr 1 0])] ?_))))
 obtain ⟨x16,h13,hm⟩:=bs hm
 rcases x16 with ⟨_|x14,x15⟩
 ·obtain ⟨vv,H1,hC,rfl,rfl⟩:=ZS h13
  refine dR [(28,aI x15)] [js,.box [.pv (zy a0)] false,jx,jt,jy,.box (zc5 a1) false] [4,1] [.agg (zc1 a1),.pv (.fn 51 [] []),kU,.ptr 1 0] hH hH hH hC hH (fq 1 [(5,aI x15)] (jc ?_))
  obtain rfl:=jf hm
  exact ⟨trivial,aI x15,[js,.box [.pv (zy a0)] false,jx,jt,jy],hH,rfl,rfl⟩
 obtain ⟨vv,H1,hC,rfl,rfl⟩:=ZS h13
 refine dR [(28,aI x15)] [js,.box [.pv (zy a0)] false,jx,jt,.box [aR 6 1 x14.length] false,.box (zc5 a1) false,bR 3 1 (rI .i64) x14 0 0] [4,1] [.agg (zc1 a1),.pv (.fn 51 [] []),kU,.ptr 1 0] hH hH hH hC hH (fq 1 [(5,aI x15)] (jc ?_))
 obtain rfl:=jf hm
 exact ⟨trivial,aI x15,[js,.box [.pv (zy a0)] false,jx,jt,.box [aR 5 1 x14.length] false,bR 3 1 (rI .i64) x14 0 0],hH,x14.length,hM,rfl,rfl⟩
abbrev zc11 (p0:(List Int)):List AV:=[aR 2 1 ((p0++([2]:List Int)).length)]
abbrev aer (p0:(List Int)):=(p0++([2]:List Int))
theorem aiv (m2:Nat) (f2:Nat) {n:Nat}{a0:(List Int)}{a1:Int}{r:Unit}(hm2:a0.length=m2) (hf2:f2≤a0.length) (hm:ab6 n a0 a1=some r):
  ∃ vv H1,call G n 60 [aI a1,.ptr 0 0] [ju,.box [aR 2 1 m2] false,bR 3 1 (rI .i64) a0 f2 0]=some (.ret vv,H1)∧(vv=.tup []∧H1=[ju,.box (zc11 a0) false,bR 3 1 (rI .i64) (aer a0) f2 0]):=by
 unfold ab6 at hm
 obtain ⟨n,rfl,h0⟩:=zp hm
 replace hm:=h0;clear h0
 refine QM 5 [(0,aI a1),jA] func60 rfl hH (rg (s1 1 [(3,.fn 52 [] [.ptr 1 0])] ?_))
 obtain ⟨_,h1,hm⟩:=bs hm
 obtain ⟨vv,H1,hC,rfl,rfl⟩:=adl m2 f2 hM hN h1
 refine dR [(4,.tup [])] [ju,.box (zc11 a0) false,bR 3 1 (rI .i64) (aer a0) f2 0] [1,2] [aI 2,.ptr 1 0] hH hH hH hC hH (fin [] rfl hH ?_)
 obtain rfl:=jf hm
 exact ⟨trivial,.tup [],[ju,.box (zc11 a0) false,bR 3 1 (rI .i64) (aer a0) f2 0],hH,rfl,rfl⟩
theorem aau (m2:Nat) (f2:Nat) {n:Nat}{a0:(List Int)}{a1:jn}{a2:zf}{r:(List Int)×Int}(hm2:a0.length=m2) (hf2:f2≤a0.length) (hm:ZP n a0 a1 a2=some r):
   ∃ vv H1,call G n 49 [.agg (zc7 a2),.pv (.fn 51 [] []),.fn 60 [] [.ptr 0 0],.ptr 3 0] [ju,.box [aR 2 1 m2] false,bR 3 1 (rI .i64) a0 f2 0,.box [.pv (zy a1)] false]=some (.ret vv,H1)∧(match (generalizing:=false) r with|(r0,r1)=>(∃ (e2:Nat) (e3:Nat),r0.length=e2∧e3≤r0.length∧vv=aI r1∧H1=[ju,.box [aR 2 1 e2] false,bR 3 1 (rI .i64) r0 e3 0,.box [.pv (zy a1)] false])):=by
 unfold ZP at hm
 obtain ⟨n,rfl,h0⟩:=zp hm
 replace hm:=h0;clear h0
 refine QM 30 [(0,.agg (zc7 a2)),zp66,zp69,jG] func49 rfl hH (sq (det [zp66,zp69,jG,(4,.ptr 4 0)] [ju,.box [aR 2 1 m2] false,bR 3 1 (rI .i64) a0 f2 0,.box [.pv (zy a1)] false,.box (zc7 a2) false] hH (sq (rg (s1 2 [(zp40 a1),(11,.agg (zc7 a2))] ?_)))))
 obtain ⟨x1,h2,hm⟩:=bs hm
 refine dv 13 (zC hH (abn h2) hH hH hH) hH (fq 5 [zp66,zp69,(8,aI x1.1),(9,aI x1.2)] ?_)
 obtain ⟨k5,hk5,hm⟩:=zo hm
 refine mid (fun t H=>(∃ (y4:Int) (w3:AV),k5 y4=some r∧t=mk 30 [zp69,(8,aI x1.1),(9,aI y4),(23,w3)]∧H=[ju,.box [aR 2 1 m2] false,bR 3 1 (rI .i64) a0 f2 0,.box [.pv (zy a1)] false,.box (zc7 a2) false])) ?_ ?_
 ·rintro _ _ ⟨y4,w3,hm,rfl,rfl⟩
  subst hk5
  refine sq (sq (dn [zp69,(8,aI x1.1),(9,aI y4),(25,aB (y4==0))] ?_))
  rcases zd hm with ⟨h,hm⟩|⟨h,hm⟩
  ·refine c1 h (rg (s1 2 [(27,aI x1.1),(26,.fn 60 [] [.ptr 0 0])] ?_))
   obtain ⟨_,h7,hm⟩:=bs hm
   obtain ⟨vv,H1,hC,rfl,rfl⟩:=aiv m2 f2 hM hN h7
   refine dR [(28,.tup [])] [ju,.box (zc11 a0) false,bR 3 1 (rI .i64) (aer a0) f2 0,.box [.pv (zy a1)] false,.box (zc7 a2) false] [0,1,2] [aI x1.1,.ptr 0 0] hH hH hH hC hH (fin [(9,aI y4)] rfl hH (sq (dn [(7,aI y4)] (jc ?_))))
   obtain rfl:=jf hm
   exact ⟨trivial,aI y4,[ju,.box (zc11 a0) false,bR 3 1 (rI .i64) (aer a0) f2 0,.box [.pv (zy a1)] false],hH,(aer a0).length,f2,hM,hN,rfl,rfl⟩
  refine c0 h (jd (sq (dn [(7,aI y4)] (jc ?_))))
  obtain rfl:=jf hm
  exact ⟨trivial,aI y4,[ju,.box [aR 2 1 m2] false,bR 3 1 (rI .i64) a0 f2 0,.box [.pv (zy a1)] false],hH,m2,f2,hM,hN,rfl,rfl⟩
 refine sq (rg (s1 3 [(18,aB (x1.2==0)),(17,aB (x1.2==0)),(16,aI x1.2)] ?_))
 rcases zd hm with ⟨h,hm⟩|⟨h,hm⟩
 ·refine known [18,17] h hH (s1 2 [(20,aI x1.1),(19,.pv (.fn 51 [] []))] ?_)
  obtain ⟨x9,h10,hm⟩:=bs hm
  refine dv 21 (zC hH (acM h10) hH hH hH) hH (fq 2 [zp69,(8,aI x1.1),(9,aI x1.2),(23,aB (!x9))] ?_)
  rcases zd hm with ⟨h,hm⟩|⟨h,hm⟩
  ·refine c1 h (dn [zp69,(8,aI x1.1),km] ?_)
   exact ⟨50,.any,hm,(zD hH),rfl⟩
  refine c0 h (jd ?_)
  exact ⟨x1.2,aB (!x9),hm,(zD hH),rfl⟩
 refine known [18,17] h hH (fq 5 [zp69,(8,aI x1.1),(9,aI x1.2),kD] (cF hH (jd ?_)))
 exact ⟨x1.2,aB false,hm,(zD hH),rfl⟩
theorem aiF (m2:Nat) (f2:Nat) {n:Nat}{a0:(List Int)}{a1:Int}{r:Unit}(hm2:a0.length=m2) (hf2:f2≤a0.length) (hm:ab3 n a0 a1=some r):
  ∃ vv H1,call G n 62 [aI a1,.ptr 0 0] [ju,.box [aR 2 1 m2] false,bR 3 1 (rI .i64) a0 f2 0]=some (.ret vv,H1)∧(vv=.tup []∧H1=[ju,.box (zc11 a0) false,bR 3 1 (rI .i64) (aer a0) f2 0]):=by
 unfold ab3 at hm
 obtain ⟨n,rfl,h0⟩:=zp hm
 replace hm:=h0;clear h0
 refine QM 5 [(0,aI a1),jA] func62 rfl hH (rg (s1 1 [(3,.fn 52 [] [.ptr 1 0])] ?_))
 obtain ⟨_,h1,hm⟩:=bs hm
 obtain ⟨vv,H1,hC,rfl,rfl⟩:=adl m2 f2 hM hN h1
 refine dR [(4,.tup [])] [ju,.box (zc11 a0) false,bR 3 1 (rI .i64) (aer a0) f2 0] [1,2] [aI 2,.ptr 1 0] hH hH hH hC hH (fin [] rfl hH ?_)
 obtain rfl:=jf hm
 exact ⟨trivial,.tup [],[ju,.box (zc11 a0) false,bR 3 1 (rI .i64) (aer a0) f2 0],hH,rfl,rfl⟩
end Go.Ab.S1
