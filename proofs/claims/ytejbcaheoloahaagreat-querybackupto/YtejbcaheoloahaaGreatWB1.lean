import Derived.Test.YtejbcaheoloahaaGreatS1
import Derived.Test.YtejbcaheoloahaaGreatPA
noncomputable section
namespace Go.Ab.S1
open Go Go.Ab Go.Pl
open Go.Proofs.Tryz
set_option linter.all false
set_option maxHeartbeats 4000000
set_option maxRecDepth 100000
theorem akK:call G 3999999 9 [] []=some (.ret (aB true),[]):=by kernel_rfl
theorem al5 {n:Nat}{r:Bool}(hm:adN n=some r):
  call G n 9 [] []=some (.ret (aB r),[]):=by
 unfold adN at hm
 have hn:n=3999999:=by
  cases h:n==3999999 with
  |true=>exact eq_of_beq h
  |false=>rw [h] at hm;cases hm
 subst hn
 have h2:some true=some r:=hm
 obtain rfl:=ji h2
 exact akK
abbrev zp75 (p0:jo):Nat×AV:=(0,.pv (zg za p0))
abbrev zp76 (p0:Int):Nat×AV:=(4,aI (IntKind.wrap .i64 (p0+1)))
abbrev zp77 (p0:Int) (p1:zc):Nat×AV:=(5,aI (IntKind.wrap .i64 (p0+((((zh p1).D).L).size:Int))))
abbrev zp78 (p0:Int) (p1:zc) (p2:Int):Nat×AV:=(5,aI (IntKind.wrap .i64 ((IntKind.wrap .i64 (p0+((((zh p1).D).L).size:Int)))+p2)))
abbrev zp79 (p0:Int):Nat×AV:=(6,aI (IntKind.wrap .i64 (p0+1)))
abbrev acK (p0:jo):=(zg za p0)
abbrev afn (p0:jo):=((sll p0).length:Int)
abbrev adJ (p0:Int) (p1:jo):=(decide (p0<((sll p1).length:Int)))
abbrev abe (p0:zc):=(qi (zh p0))
abbrev Zk (p0:Int):=(IntKind.wrap .i64 (p0+1))
theorem ame {rc_ref22_Bulk:(Nat→jo→Int→Option (Int))}(ih_ref22_Bulk:∀ {n:Nat}{a0:jo}{a1:Int}{r:Int}(hm:rc_ref22_Bulk n a0 a1=some r),call G n 98 [.pv (zg za a0),aI a1] []=some (.ret (aI r),[])) {n:Nat}{a0:jo}{a1:Int}{r:Int}(hm:acS rc_ref22_Bulk n a0 a1=some r):
   call G n 98 [.pv (acK a0),aI a1] []=some (.ret (aI r),[]):=by
 unfold acS at hm
 obtain ⟨n,rfl,h0⟩:=zu hm
 replace hm:=h0;clear h0
 refine Z2 61 [(zp75 a0),(1,aI a1)] func98 rfl hJ (sq (dn [(zp75 a0),(1,aI a1)] ?_))
 refine sq (sq (rg (s1 1 [(7,.pv (acK a0))] (dv 8 (v:=aI (afn a0)) (zP za a0 t23 hJ) hJ (fq 2 [(zp75 a0),(1,aI a1),(10,aB (decide (((sll a0).length:Int)>a1)))] ?_)))))
 rcases zf hm with ⟨h1,hm⟩|⟨h1,hm⟩
 ·refine c1 h1 (sq (dn [(zp76 a1)] (jf ?_)))
  cases hm;exact hM
 refine c0 h1 (jg (sq (rg (s1 1 [(13,.pv (acK a0))] (dv 14 (v:=aI (afn a0)) (zP za a0 t23 hJ) hJ (fq 1 [(zp75 a0),(1,aI a1),(5,aI (afn a0))] ?_))))))
 obtain ⟨k5,hk5,hm⟩:=zt hm
 refine mid (fun t H=>(∃ (y2:Bool) (y3:Int) (y4:Int),k5 y3=some r∧t=mk 61 [(zp75 a0),(1,aI a1),(5,aI y3),(6,aI y4),(23,aB y2)]∧H=[])) ?_ ?_
 ·rintro _ _ ⟨y2,y3,y4,hm,rfl,rfl⟩
  subst hk5
  refine sq (dn [(4,aI y3)] (jf ?_))
  cases hm;exact hM
 refine sq (dn [(zp75 a0),(1,aI a1),(5,aI (afn a0)),(6,aI 0)] (bq ?_))
 refine qB (fun mm t H=>(∃ (y8:Int) (y9:Int),Qz n rc_ref22_Bulk a0 a1 k5 mm y8 y9=some r∧t=mk 61 [(zp75 a0),(1,aI a1),(5,aI y8),(6,aI y9)]∧H=[])) (⟨((sll a0).length:Int),0,hm,rfl,rfl⟩) ?_ ?_
 ·
   rintro _ _ ⟨y8,y9,hm,_⟩;exact nomatch hm
 rintro m10 _ _ ⟨y8,y9,hm,rfl,rfl⟩
 simp only [Qz] at hm
 refine sq (sq (rg (s1 2 [(16,.pv (acK a0)),(15,aI y9)] (dv 17 (v:=aI (afn a0)) (zP za a0 t23 hJ) hJ (s1 2 [(19,aB (adJ y9 a0)),(18,aB (adJ y9 a0))] ?_)))))
 refine segP (adJ y9 a0) [19,18] (fun b=>[(23,aB (b&&(decide (y8≤a1)))),(22,ifA b (aB (decide (y8≤a1))) jb),(21,ifA b (aI a1) jb),(20,ifA b (aI y8) jb)]) 4 hJ hJ hJ (fin [(zp75 a0),(1,aI a1),(5,aI y8),(6,aI y9),(23,aB ((decide (y9<((sll a0).length:Int)))&&(decide (y8≤a1))))] rfl hJ ?_)
 rcases zf hm with ⟨h11,hm⟩|⟨h11,hm⟩
 ·refine c1 h11 (jg (sq (bq ?_)))
  refine sq (sq (rg (s1 2 [(27,aI y9),(26,.pv (acK a0))] ?_)))
  obtain ⟨x12,h13,hm⟩:=bs hm
  refine dv 28 (v:=.pv (.ptr (abe x12) 0)) (aaA za a0 .i64 t23 t49 h13 (zU x12) rfl hJ) hJ (fq 6 [(zp75 a0),(1,aI a1),(5,aI y8),(6,aI y9),(34,aB (decide (((((zh x12).D).L).size:Int)>a1)))] ?_)
  rcases zf hm with ⟨h14,hm⟩|⟨h14,hm⟩
  ·refine c1 h14 (sq (dn [(zp76 a1)] (jf ?_)))
   cases hm;exact hM
  refine c0 h14 (jg (sq (rg (s1 3 [(39,aI y9),(38,.pv (acK a0)),(37,aI y8)] (dv 40 (v:=.pv (.ptr (abe x12) 0)) (aaA za a0 .i64 t23 t49 h13 (zU x12) rfl hJ) hJ (fq 6 [(zp75 a0),(1,aI a1),(zp77 y8 x12),(6,aI y9)] (sq (dn [(zp75 a0),(1,aI a1),(zp77 y8 x12),(6,aI y9),(48,aB (decide ((IntKind.wrap .i64 (y8+((((zh x12).D).L).size:Int)))≤a1)))] ?_))))))))
  rcases zf hm with ⟨h15,hm⟩|⟨h15,hm⟩
  ·refine c1 h15 (rg (s1 3 [(51,aI y9),(50,.pv (acK a0)),(49,aI (IntKind.wrap .i64 (y8+((((zh x12).D).L).size:Int))))] (dv 52 (v:=.pv (.ptr (abe x12) 0)) (aaA za a0 .i64 t23 t49 h13 (zU x12) rfl hJ) hJ (s1 5 [(57,aI (IntKind.wrap .i64 (a1-(IntKind.wrap .i64 (y8+((((zh x12).D).L).size:Int)))))),(56,aI (IntKind.wrap .i64 (y8+((((zh x12).D).L).size:Int)))),(55,aI a1),(54,.pv (zg za ((zh x12).I))),(53,.pv (.ptr (abe x12) 7))] ?_))))
   obtain ⟨x16,h17,hm⟩:=bs hm
   refine dv 58 (zR hJ (ih_ref22_Bulk h17) hJ hJ hJ) hJ (fq 2 [(zp75 a0),(1,aI a1),(zp78 y8 x12 x16),(6,aI y9)] (dn [(zp75 a0),(1,aI a1),(zp78 y8 x12 x16),(zp79 y9)] ?_))
   exact ⟨_,_,ZD [(zp75 a0),(1,aI a1),(zp78 y8 x12 x16),(zp79 y9)] [] hJ,⟨(IntKind.wrap .i64 ((IntKind.wrap .i64 (y8+((((zh x12).D).L).size:Int)))+x16)),(Zk y9),hm,rfl,rfl⟩⟩
  refine c0 h15 (jg (dn [(zp75 a0),(1,aI a1),(zp77 y8 x12),(zp79 y9)] ?_))
  exact ⟨_,_,ZD [(zp75 a0),(1,aI a1),(zp77 y8 x12),(zp79 y9)] [] hJ,⟨(IntKind.wrap .i64 (y8+((((zh x12).D).L).size:Int))),(Zk y9),hm,rfl,rfl⟩⟩
 refine c0 h11 (jh ?_)
 exact ⟨((decide (y9<((sll a0).length:Int)))&&(decide (y8≤a1))),y8,y9,hm,rfl,rfl⟩
theorem agQ:∀ (m:Nat),∀ {n:Nat}{a0:jo}{a1:Int}{r:Int}(hm:aa5 m n a0 a1=some r),call G n 98 [.pv (zg za a0),aI a1] []=some (.ret (aI r),[])
 |0=>by intros;rename_i hm;exact nomatch hm
 |m+1=>fun hm=>
  ame (agQ m) hm
theorem afc {n:Nat}{a0:jo}{a1:Int}{r:Int}(hm:adt n a0 a1=some r):
 call G n 98 [.pv (acK a0),aI a1] []=some (.ret (aI r),[]):=agQ n hm
abbrev zc0 (p0:zb):List AV:=[.pv (zg rS p0.E),.pv (zg za p0.H),aB p0.F,.pv (zg za p0.B),.pv (zg zd p0.C),.pv (zg zl p0.G)]
abbrev zc1 (p0:zm):List AV:=[aI p0.N.A,aI p0.N.K,aI p0.N.M,aI p0.N.D.A,aI p0.N.D.J,aF p0.N.D.O,aS p0.N.D.L,.pv (zg za p0.N.I)]
abbrev zp80 (p0:zb):Nat×AV:=(5,aI (IntKind.wrap .i64 ((IntKind.wrap .i64 (((sll p0.E).length:Int)+((sll p0.C).length:Int)))+((sll p0.G).length:Int))))
abbrev acL (p0:zb):=(zg zd p0.C)
abbrev ahR (p0:zb):=((sll p0.C).length:Int)
abbrev aeA (p0:zb):=(zg zl p0.G)
abbrev agL (p0:Int) (p1:zb):=(decide (p0<((sll p1.C).length:Int)))
abbrev ajZ (p0:Int) (p1:Int):=(IntKind.wrap .i64 (p0+p1))
abbrev abu (p0:zb):=(zg za p0.B)
abbrev ahl (p0:zb):=(zg za p0.H)
theorem amB {n:Nat}{a0:zb}{a1:Int}{r:Int}(hm:aeR n a0 a1=some r):
   call G n 46 [.agg (zc0 a0),aI a1] []=some (.ret (aI r),[]):=by
 unfold aeR at hm
 obtain ⟨n,rfl,h0⟩:=zu hm
 replace hm:=h0;clear h0
 refine Z2 118 [(0,.agg (zc0 a0)),(1,aI a1)] func46 rfl hJ (sq (det [(1,aI a1),jJ] [.box (zc0 a0) false] hJ ?_))
 refine sq (sq (rg (s1 2 [(9,.pv (zg rS a0.E)),jY] (dv 10 (v:=aI ((sll a0.E).length:Int)) (zP rS a0.E t22 hJ) hJ (s1 3 [(13,aB (decide (((sll a0.E).length:Int)>a1))),(12,aB (decide (((sll a0.E).length:Int)>a1))),(11,aI a1)] ?_)))))
 refine seg (decide (((sll a0.E).length:Int)>a1)) [13,12] (fun b=>[(19,aB (b||(decide (((sll a0.C).length:Int)>a1)))),(18,ifA b jb (aB (decide (((sll a0.C).length:Int)>a1)))),(17,ifA b jb (aI a1)),(16,ifA b jb (aI ((sll a0.C).length:Int))),(15,ifA b jb (.pv (acL a0))),(14,ifA b jb (.ptr 0 4))]) 12 hJ ?_ ?_ ?_
 ·intro Q h
  refine s1 6 [(19,aB true),(18,.undef),(17,.undef),(16,.undef),(15,.undef),(14,.undef)] ?_
  exact QZ hJ hJ h
 ·intro Q h
  refine s1 2 [(15,.pv (acL a0)),(14,.ptr 0 4)] (dv 16 (v:=aI (ahR a0)) (zP zd a0.C t24 hJ) hJ (s1 3 [(19,aB (decide (((sll a0.C).length:Int)>a1))),(18,aB (decide (((sll a0.C).length:Int)>a1))),(17,aI a1)] ?_))
  exact QZ hJ hJ h
 refine s1 1 [(20,aB ((decide (((sll a0.E).length:Int)>a1))||(decide (((sll a0.C).length:Int)>a1))))] ?_
 refine seg ((decide (((sll a0.E).length:Int)>a1))||(decide (((sll a0.C).length:Int)>a1))) [20,19] (fun b=>[(26,aB (b||(decide (((sll a0.G).length:Int)>a1)))),(25,ifA b jb (aB (decide (((sll a0.G).length:Int)>a1)))),(24,ifA b jb (aI a1)),(23,ifA b jb (aI ((sll a0.G).length:Int))),(22,ifA b jb (.pv (aeA a0))),(21,ifA b jb (.ptr 0 5))]) 19 hJ ?_ ?_ ?_
 ·intro Q h
  refine s1 6 [(26,aB true),(25,.undef),(24,.undef),(23,.undef),(22,.undef),(21,.undef)] ?_
  exact QZ hJ hJ h
 ·intro Q h
  refine s1 2 [(22,.pv (aeA a0)),(21,.ptr 0 5)] (dv 23 (v:=aI ((sll a0.G).length:Int)) (zP zl a0.G t25 hJ) hJ (s1 3 [(26,aB (decide (((sll a0.G).length:Int)>a1))),(25,aB (decide (((sll a0.G).length:Int)>a1))),(24,aI a1)] ?_))
  exact QZ hJ hJ h
 refine fin [(1,aI a1),jJ,(26,aB (((decide (((sll a0.E).length:Int)>a1))||(decide (((sll a0.C).length:Int)>a1)))||(decide (((sll a0.G).length:Int)>a1))))] rfl hJ ?_
 rcases zf hm with ⟨h1,hm⟩|⟨h1,hm⟩
 ·refine c1 h1 (sq (dn [(zp76 a1)] (jf ?_)))
  cases hm;exact hM
 refine c0 h1 (jg (sq (rg (s1 2 [(30,.pv (zg rS a0.E)),(29,.ptr 0 0)] (dv 31 (v:=aI ((sll a0.E).length:Int)) (zP rS a0.E t22 hJ) hJ (s1 2 [(33,.pv (acL a0)),(32,.ptr 0 4)] (dv 34 (v:=aI (ahR a0)) (zP zd a0.C t24 hJ) hJ (s1 3 [(37,.pv (aeA a0)),(36,.ptr 0 5),(35,aI (IntKind.wrap .i64 (((sll a0.E).length:Int)+((sll a0.C).length:Int))))] (dv 38 (v:=aI ((sll a0.G).length:Int)) (zP zl a0.G t25 hJ) hJ (fq 2 [(1,aI a1),jJ,(zp80 a0)] ?_))))))))))
 obtain ⟨k5,hk5,hm⟩:=zt hm
 refine mid (fun t H=>(∃ (y2:Bool) (y3:Int) (y4:Int),k5 y3=some r∧t=mk 118 [(1,aI a1),jJ,(5,aI y3),(6,aI y4),(44,aB y2)]∧H=[.box (zc0 a0) false])) ?_ ?_
 ·rintro _ _ ⟨y2,y3,y4,hm,rfl,rfl⟩
  subst hk5
  obtain ⟨k8,hk8,hm⟩:=zt hm
  refine mid (fun t H=>(∃ (y7:Int) (w6:AV),k8 y7=some r∧t=mk 118 [(1,aI a1),jJ,(5,aI y7),(72,w6)]∧H=[.box (zc0 a0) false])) ?_ ?_
  ·rintro _ _ ⟨y7,w6,hm,rfl,rfl⟩
   subst hk8
   obtain ⟨k11,hk11,hm⟩:=zt hm
   refine mid (fun t H=>(∃ (y10:Int) (w9:AV),k11 y10=some r∧t=mk 118 [(1,aI a1),jJ,(5,aI y10),(83,w9)]∧H=[.box (zc0 a0) false])) ?_ ?_
   ·rintro _ _ ⟨y10,w9,hm,rfl,rfl⟩
    subst hk11
    obtain ⟨k15,hk15,hm⟩:=zt hm
    refine mid (fun t H=>(∃ (y12:Bool) (y13:Int) (y14:Int),k15 y13=some r∧t=mk 118 [(1,aI a1),jJ,(5,aI y13),(7,aI y14),(101,aB y12)]∧H=[.box (zc0 a0) false])) ?_ ?_
    ·rintro _ _ ⟨y12,y13,y14,hm,rfl,rfl⟩
     subst hk15
     refine sq (dn [(4,aI y13)] (jf ?_))
     cases hm;exact hM
    refine sq (dn [(1,aI a1),jJ,(5,aI y10),(7,aI 0)] (bq ?_))
    refine qB (fun mm t H=>(∃ (y18:Int) (y19:Int),qM n a0 a1 k15 mm y18 y19=some r∧t=mk 118 [(1,aI a1),jJ,(5,aI y18),(7,aI y19)]∧H=[.box (zc0 a0) false])) (⟨y10,0,hm,rfl,rfl⟩) ?_ ?_
    ·
      rintro _ _ ⟨y18,y19,hm,_⟩;exact nomatch hm
    rintro m20 _ _ ⟨y18,y19,hm,rfl,rfl⟩
    simp only [qM] at hm
    refine sq (sq (rg (s1 3 [(94,.pv (acL a0)),(93,.ptr 0 4),(92,aI y19)] (dv 95 (v:=aI (ahR a0)) (zP zd a0.C t24 hJ) hJ (s1 2 [(97,aB (agL y19 a0)),(96,aB (agL y19 a0))] ?_)))))
    refine segP (agL y19 a0) [97,96] (fun b=>[(101,aB (b&&(decide (y18≤a1)))),(100,ifA b (aB (decide (y18≤a1))) jb),(99,ifA b (aI a1) jb),(98,ifA b (aI y18) jb)]) 4 hJ hJ hJ (fin [(1,aI a1),jJ,(5,aI y18),(7,aI y19),(101,aB ((decide (y19<((sll a0.C).length:Int)))&&(decide (y18≤a1))))] rfl hJ ?_)
    rcases zf hm with ⟨h21,hm⟩|⟨h21,hm⟩
    ·refine c1 h21 (jg (sq (bq (rg (s1 4 [(107,aI y19),(106,.pv (acL a0)),(105,.ptr 0 4),(104,aI y18)] ?_)))))
     obtain ⟨x22,h23,hm⟩:=bs hm
     refine dv 108 (v:=.pv (.ptr (zd x22) 0)) (qo zd a0.C .i64 t24 t101 h23 rfl hJ) hJ (st 6 [(114,aI (IntKind.wrap .i64 (a1-y18))),(113,aI y18),(112,aI a1),(111,aR 1 8 1),(110,.agg (zc1 x22)),(109,.pv (.ptr (zd x22) 1))] [.box (zc0 a0) false,bR 49 8 za ([(zy x22.N)]:List zc) 0 0] hJ ?_)
     obtain ⟨x24,h25,hm⟩:=bs hm
     refine dO [(115,aI x24)] [.box (zc0 a0) false,bR 49 8 za ([(zy x22.N)]:List zc) 0 0] (anS [1] [aR 1 8 1,aI (IntKind.wrap .i64 (a1-y18))] (fl:=true) hJ hJ hJ (afc h25) hJ hJ) hJ (fq 2 [(1,aI a1),jJ,(5,aI (ajZ y18 x24)),(7,aI y19)] (dn [(1,aI a1),jJ,(5,aI (ajZ y18 x24)),(7,aI (Zk y19))] ?_))
     exact ⟨_,_,ZD [(1,aI a1),jJ,(5,aI (ajZ y18 x24)),(7,aI (Zk y19))] [.box (zc0 a0) false] hJ,⟨(ajZ y18 x24),(Zk y19),hm,rfl,rfl⟩⟩
    refine c0 h21 (jh ?_)
    exact ⟨((decide (y19<((sll a0.C).length:Int)))&&(decide (y18≤a1))),y18,y19,hm,rfl,rfl⟩
   refine sq (dn [(1,aI a1),jJ,(5,aI y7),(83,aB (decide (y7≤a1)))] ?_)
   rcases zf hm with ⟨h26,hm⟩|⟨h26,hm⟩
   ·refine c1 h26 (rg (s1 6 [(89,aI (IntKind.wrap .i64 (a1-y7))),(88,aI y7),(87,aI a1),(86,.pv (abu a0)),(85,.ptr 0 3),(84,aI y7)] ?_))
    obtain ⟨x27,h28,hm⟩:=bs hm
    refine dv 90 (zR hJ (afc h28) hJ hJ hJ) hJ (fq 2 [(1,aI a1),jJ,(5,aI (ajZ y7 x27))] ?_)
    exact ⟨(ajZ y7 x27),.any,hm,(zH hJ),rfl⟩
   refine c0 h26 (jg ?_)
   exact ⟨y7,aB (decide (y7≤a1)),hm,(zH hJ),rfl⟩
  refine sq (dn [(1,aI a1),jJ,(5,aI y3),(72,aB (decide (y3≤a1)))] ?_)
  rcases zf hm with ⟨h29,hm⟩|⟨h29,hm⟩
  ·refine c1 h29 (rg (s1 6 [(78,aI (IntKind.wrap .i64 (a1-y3))),(77,aI y3),(76,aI a1),(75,.pv (ahl a0)),(74,.ptr 0 1),(73,aI y3)] ?_))
   obtain ⟨x30,h31,hm⟩:=bs hm
   refine dv 79 (zR hJ (afc h31) hJ hJ hJ) hJ (fq 2 [(1,aI a1),jJ,(5,aI (ajZ y3 x30))] ?_)
   exact ⟨(ajZ y3 x30),.any,hm,(zH hJ),rfl⟩
  refine c0 h29 (jg ?_)
  exact ⟨y3,aB (decide (y3≤a1)),hm,(zH hJ),rfl⟩
 refine sq (dn [(1,aI a1),jJ,(zp80 a0),(6,aI 0)] (bq ?_))
 refine qB (fun mm t H=>(∃ (y34:Int) (y35:Int),aaB n a0 a1 k5 mm y34 y35=some r∧t=mk 118 [(1,aI a1),jJ,(5,aI y34),(6,aI y35)]∧H=[.box (zc0 a0) false])) (⟨(IntKind.wrap .i64 ((IntKind.wrap .i64 (((sll a0.E).length:Int)+((sll a0.C).length:Int)))+((sll a0.G).length:Int))),0,hm,rfl,rfl⟩) ?_ ?_
 ·
   rintro _ _ ⟨y34,y35,hm,_⟩;exact nomatch hm
 rintro m36 _ _ ⟨y34,y35,hm,rfl,rfl⟩
 simp only [aaB] at hm
 refine sq (sq (rg (s1 3 [(42,.pv (zg rS a0.E)),kb,(40,aI y35)] (dv 43 (v:=aI ((sll a0.E).length:Int)) (zP rS a0.E t22 hJ) hJ (fq 1 [(1,aI a1),jJ,(5,aI y34),(6,aI y35),(44,aB (decide (y35<((sll a0.E).length:Int))))] ?_)))))
 rcases zf hm with ⟨h37,hm⟩|⟨h37,hm⟩
 ·refine c1 h37 (jg (sq (bq ?_)))
  refine sq (sq (rg (s1 4 [(50,aB (decide (y34>a1))),(49,aB (decide (y34>a1))),(48,aI a1),(47,aI y34)] ?_)))
  rcases zf hm with ⟨h38,hm⟩|⟨h38,hm⟩
  ·refine known [50,49] h38 hJ (fq 9 [(1,aI a1),jJ,(5,aI y34),(6,aI y35),(59,aB true)] (cT hJ (sq (dn [(zp76 a1)] (jf ?_)))))
   cases hm;exact hM
  refine known [50,49] h38 hJ (s1 3 [(53,aI y35),(52,.pv (zg rS a0.E)),(51,.ptr 0 0)] ?_)
  obtain ⟨x39,h40,hm⟩:=bs hm
  refine dv 54 (v:=.pv (.ptr (rS x39) 0)) (qo rS a0.E .i64 t22 t9 h40 rfl hJ) hJ (fq 5 [(1,aI a1),jJ,(5,aI y34),(6,aI y35),(59,aB (decide ((x39.size:Int)>a1)))] ?_)
  rcases zf hm with ⟨h41,hm⟩|⟨h41,hm⟩
  ·refine c1 h41 (sq (dn [(zp76 a1)] (jf ?_)))
   cases hm;exact hM
  refine c0 h41 (jg (rg (s1 4 [(65,aI y35),(64,.pv (zg rS a0.E)),jS,(62,aI y34)] (dv 66 (v:=.pv (.ptr (rS x39) 0)) (qo rS a0.E .i64 t22 t9 h40 rfl hJ) hJ (fq 4 [(1,aI a1),jJ,(5,aI (IntKind.wrap .i64 (y34+(x39.size:Int)))),(6,aI y35)] (dn [(1,aI a1),jJ,(5,aI (IntKind.wrap .i64 (y34+(x39.size:Int)))),(zp79 y35)] ?_))))))
  exact ⟨_,_,ZD [(1,aI a1),jJ,(5,aI (IntKind.wrap .i64 (y34+(x39.size:Int)))),(zp79 y35)] [.box (zc0 a0) false] hJ,⟨(IntKind.wrap .i64 (y34+(x39.size:Int))),(Zk y35),hm,rfl,rfl⟩⟩
 refine c0 h37 (jh ?_)
 exact ⟨(decide (y35<((sll a0.E).length:Int))),y34,y35,hm,rfl,rfl⟩
abbrev zc2 (p0:zn):List AV:=[aS p0.R,.pv (zg zX p0.Q)]
abbrev zp81 (p0:jv):Nat×AV:=(1,.pv (zg zA p0))
abbrev zp82 (p0:jv):Nat×AV:=(15,.pv (zg zA p0))
abbrev zp83 (p0:jv):Nat×AV:=(16,aI ((sll p0).length:Int))
abbrev zp84 (p0:Int):Nat×AV:=(17,aI (IntKind.wrap .i64 (p0+1)))
abbrev zz (p0:jv):=(zg zA p0)
theorem ak7 {n:Nat}{a0:zb}{a1:jv}{r:Bool}(hm:adO n a0 a1=some r):
   call G n 10 [.agg (zc0 a0),.pv (zz a1)] []=some (.ret (aB r),[]):=by
 unfold adO at hm
 obtain ⟨n,rfl,h0⟩:=zu hm
 replace hm:=h0;clear h0
 refine Z2 32 [(0,.agg (zc0 a0)),(zp81 a1)] func10 rfl hJ (sq (det [(zp81 a1),jJ] [.box (zc0 a0) false] hJ ?_))
 refine sq (sq (rg (s1 1 [(7,.agg (zc0 a0))] ?_)))
 obtain ⟨x1,h2,hm⟩:=bs hm
 refine dv 8 (zR hJ (amB h2) hJ hJ hJ) hJ (s1 2 [(10,aB (decide (x1>500))),(9,aB (decide (x1>500)))] ?_)
 refine seg (decide (x1>500)) [10,9] (fun b=>[(14,aB (b||(decide (((sll a1).length:Int)>40)))),(13,ifA b jb (aB (decide (((sll a1).length:Int)>40)))),(12,ifA b jb (aI ((sll a1).length:Int))),(11,ifA b jb (.pv (zz a1)))]) 8 hJ ?_ ?_ ?_
 ·intro Q h
  refine s1 4 [(14,aB true),(13,.undef),(12,.undef),(11,.undef)] ?_
  exact QZ hJ hJ h
 ·intro Q h
  refine s1 1 [(11,.pv (zz a1))] (dv 12 (v:=aI ((sll a1).length:Int)) (zP zA a1 t28 hJ) hJ (s1 2 [(14,aB (decide (((sll a1).length:Int)>40))),(13,aB (decide (((sll a1).length:Int)>40)))] ?_))
  exact QZ hJ hJ h
 refine fin [(zp81 a1),(14,aB ((decide (x1>500))||(decide (((sll a1).length:Int)>40))))] rfl hJ ?_
 rcases zf hm with ⟨h3,hm⟩|⟨h3,hm⟩
 ·refine c1 h3 (sq (dn [kS] (jf ?_)))
  cases hm;exact hM
 refine c0 h3 (jg ?_)
 obtain ⟨k6,hk6,hm⟩:=zt hm
 refine mid (fun t H=>(∃ (y4:Int) (y5:Bool),k6 ()=some r∧t=mk 32 [(zp82 a1),(zp83 a1),(17,aI y4),(18,aB y5)]∧H=[.box (zc0 a0) false])) ?_ ?_
 ·rintro _ _ ⟨y4,y5,hm,rfl,rfl⟩
  subst hk6
  refine sq (dn [kL] (jf ?_))
  cases hm;exact hM
 refine sq (rg (s1 1 [(zp82 a1)] (dv 16 (v:=aI ((sll a1).length:Int)) (zP zA a1 t28 hJ) hJ (fq 1 [(zp82 a1),(zp83 a1),(17,aI 0)] (bq ?_)))))
 refine qB (fun mm t H=>(∃ (y8:Int),aac n a1 k6 mm y8=some r∧t=mk 32 [(zp82 a1),(zp83 a1),(17,aI y8)]∧H=[.box (zc0 a0) false])) (⟨0,hm,rfl,rfl⟩) ?_ ?_
 ·
   rintro _ _ ⟨y8,hm,_⟩;exact nomatch hm
 rintro m9 _ _ ⟨y8,hm,rfl,rfl⟩
 simp only [aac] at hm
 refine sq (dn [(zp82 a1),(zp83 a1),(17,aI y8),(18,aB (decide (y8<((sll a1).length:Int))))] ?_)
 refine sq ?_
 rcases zf hm with ⟨h10,hm⟩|⟨h10,hm⟩
 ·refine c1 h10 (jg (sq (bq (sq (rg ?_)))))
  obtain ⟨x11,h12,hm⟩:=bs hm
  refine dv 19 (v:=.pv (.ptr (zA x11) 0)) (qo zA a1 .i64 t28 t84 h12 rfl hJ) hJ (stf 3 [j2,(zp82 a1),(zp83 a1),(17,aI y8)] [.box (zc0 a0) false,.box (zc2 x11) false] hJ (sq (rg (s1 2 [(22,.pv (zg zX x11.Q)),(21,.ptr 1 1)] (dv 23 (v:=aI ((sll x11.Q).length:Int)) (zP zX x11.Q t82 hJ) hJ (s1 2 [(25,aB (decide (((sll x11.Q).length:Int)>40))),(24,aB (decide (((sll x11.Q).length:Int)>40)))] ?_))))))
  refine segP (decide (((sll x11.Q).length:Int)>40)) [25,24] (fun b=>[(30,aB (b||(decide ((x11.R.size:Int)>100)))),(29,ifA b jb (aB (decide ((x11.R.size:Int)>100)))),(28,ifA b jb (aI (x11.R.size:Int))),(27,ifA b jb (aS x11.R)),(26,ifA b jb (.ptr 1 0))]) 5 hJ hJ hJ (fin [(zp82 a1),(zp83 a1),(17,aI y8),(30,aB ((decide (((sll x11.Q).length:Int)>40))||(decide ((x11.R.size:Int)>100))))] rfl hJ ?_)
  rcases zf hm with ⟨h13,hm⟩|⟨h13,hm⟩
  ·refine c1 h13 (sq (dn [kS] (jf ?_)))
   cases hm;exact hM
  refine c0 h13 (jg (dn [(zp82 a1),(zp83 a1),(zp84 y8)] ?_))
  exact ⟨_,_,ZD [(zp82 a1),(zp83 a1),(zp84 y8)] [.box (zc0 a0) false] hJ,⟨(Zk y8),hm,rfl,rfl⟩⟩
 refine c0 h10 (jh ?_)
 exact ⟨y8,(decide (y8<((sll a1).length:Int))),hm,rfl,rfl⟩
abbrev zp85 (p0:ByteArray):Nat×AV:=(7,aI (p0.size:Int))
abbrev zp86 (p0:Int):Nat×AV:=(8,aI (IntKind.wrap .i64 (p0+1)))
abbrev aog (p0:Int):=(((decide (p0≥97))&&(decide (p0≤122)))||(p0==95))
theorem amc {n:Nat}{a0:ByteArray}{r:Bool}(hm:adG n a0=some r):
   call G n 11 [aS a0] []=some (.ret (aB r),[]):=by
 unfold adG at hm
 obtain ⟨n,rfl,h0⟩:=zu hm
 replace hm:=h0;clear h0
 refine Z2 47 [(0,aS a0)] func11 rfl hJ (sq (dn [(0,aS a0)] ?_))
 obtain ⟨k3,hk3,hm⟩:=zt hm
 refine mid (fun t H=>(∃ (y1:Int) (y2:Bool),k3 ()=some r∧t=mk 47 [(0,aS a0),(zp85 a0),(8,aI y1),(9,aB y2)]∧H=[])) ?_ ?_
 ·rintro _ _ ⟨y1,y2,hm,rfl,rfl⟩
  subst hk3
  refine sq (rg (s1 4 [(42,aB (decide ((a0.size:Int)>0))),(41,aB (decide ((a0.size:Int)>0))),(40,aI (a0.size:Int)),(39,aS a0)] ?_))
  refine segP (decide ((a0.size:Int)>0)) [42,41] (fun b=>[(46,aB (b&&(decide ((a0.size:Int)≤20)))),(45,ifA b (aB (decide ((a0.size:Int)≤20))) jb),(44,ifA b (aI (a0.size:Int)) jb),(43,ifA b (aS a0) jb)]) 4 hJ hJ hJ (fq 1 [(2,aB ((decide ((a0.size:Int)>0))&&(decide ((a0.size:Int)≤20))))] (jf ?_))
  cases hm;exact hM
 refine sq (dn [(0,aS a0),(zp85 a0),(8,aI 0)] (bq ?_))
 refine qB (fun mm t H=>(∃ (y5:Int),abO n a0 k3 mm y5=some r∧t=mk 47 [(0,aS a0),(zp85 a0),(8,aI y5)]∧H=[])) (⟨0,hm,rfl,rfl⟩) ?_ ?_
 ·
   rintro _ _ ⟨y5,hm,_⟩;exact nomatch hm
 rintro m6 _ _ ⟨y5,hm,rfl,rfl⟩
 simp only [abO] at hm
 refine sq (dn [(0,aS a0),(zp85 a0),(8,aI y5),(9,aB (decide (y5<(a0.size:Int))))] ?_)
 refine sq ?_
 rcases zf hm with ⟨h7,hm⟩|⟨h7,hm⟩
 ·refine c1 h7 (jg (sq (bq (sq (dn [(0,aS a0),(3,aI y5),(zp85 a0),(8,aI y5)] (sq (rg (s1 2 [(12,aI y5),(11,aS a0)] ?_))))))))
  obtain ⟨x8,h9,hm⟩:=bs hm
  refine dv 13 (v:=aY x8) (asy .i64 h9 hJ) hJ (fq 1 [(0,aS a0),(3,aI y5),(4,aY x8),(zp85 a0),(8,aI y5)] ?_)
  refine sq (rg (s1 3 [(16,aB (decide (x8≥97))),(15,aB (decide (x8≥97))),(14,aY x8)] ?_))
  refine segP (decide (x8≥97)) [16,15] (fun b=>[(19,aB (b&&(decide (x8≤122)))),(18,ifA b (aB (decide (x8≤122))) jb),(17,ifA b (aY x8) jb)]) 3 hJ hJ hJ (s1 1 [(20,aB ((decide (x8≥97))&&(decide (x8≤122))))] ?_)
  refine segP ((decide (x8≥97))&&(decide (x8≤122))) [20,19] (fun b=>[(23,aB (b||(x8==95))),(22,ifA b jb (aB (x8==95))),(21,ifA b jb (aY x8))]) 3 hJ hJ hJ (fq 1 [(0,aS a0),(3,aI y5),(4,aY x8),(5,aB (aog x8)),(zp85 a0),(8,aI y5)] (sq (rg (s1 3 [(26,aB (!(aog x8))),(25,aB (!(aog x8))),(24,aB (aog x8))] ?_))))
  refine seg (!(aog x8)) [26,25] (fun b=>[(37,aB (b&&(((y5==0)||(decide (x8<48)))||(decide (x8>57))))),(36,ifA b (aB (((y5==0)||(decide (x8<48)))||(decide (x8>57)))) jb),(35,ifA b (ifA ((y5==0)||(decide (x8<48))) jb (aB (decide (x8>57)))) jb),(34,ifA b (ifA ((y5==0)||(decide (x8<48))) jb (aY x8)) jb),(33,ifA b (aB ((y5==0)||(decide (x8<48)))) jb),(32,ifA b (aB ((y5==0)||(decide (x8<48)))) jb),(31,ifA b (ifA (y5==0) jb (aB (decide (x8<48)))) jb),(30,ifA b (ifA (y5==0) jb (aY x8)) jb),(29,ifA b (aB (y5==0)) jb),(28,ifA b (aB (y5==0)) jb),(27,ifA b (aI y5) jb)]) 14 hJ ?_ ?_ ?_
  ·intro Q h
   refine s1 3 [(29,aB (y5==0)),(28,aB (y5==0)),(27,aI y5)] ?_
   refine segP (y5==0) [29,28] (fun b=>[(32,aB (b||(decide (x8<48)))),(31,ifA b jb (aB (decide (x8<48)))),(30,ifA b jb (aY x8))]) 3 hJ hJ hJ (s1 1 [(33,aB ((y5==0)||(decide (x8<48))))] ?_)
   refine segP ((y5==0)||(decide (x8<48))) [33,32] (fun b=>[(36,aB (b||(decide (x8>57)))),(35,ifA b jb (aB (decide (x8>57)))),(34,ifA b jb (aY x8))]) 3 hJ hJ hJ (s1 1 [(37,aB (((y5==0)||(decide (x8<48)))||(decide (x8>57))))] ?_)
   exact QZ hJ hJ h
  ·intro Q h
   refine s1 11 [(37,aB false),(36,.undef),(35,.undef),(34,.undef),(33,.undef),(32,.undef),(31,.undef),(30,.undef),(29,.undef),(28,.undef),(27,.undef)] ?_
   exact QZ hJ hJ h
  refine fin [(0,aS a0),(zp85 a0),(8,aI y5),(37,aB ((!(((decide (x8≥97))&&(decide (x8≤122)))||(x8==95)))&&(((y5==0)||(decide (x8<48)))||(decide (x8>57)))))] rfl hJ ?_
  rcases zf hm with ⟨h10,hm⟩|⟨h10,hm⟩
  ·refine c1 h10 (sq (dn [kM] (jf ?_)))
   cases hm;exact hM
  refine c0 h10 (jg (dn [(0,aS a0),(zp85 a0),(zp86 y5)] ?_))
  exact ⟨_,_,ZD [(0,aS a0),(zp85 a0),(zp86 y5)] [] hJ,⟨(Zk y5),hm,rfl,rfl⟩⟩
 refine c0 h7 (jh ?_)
 exact ⟨y5,(decide (y5<(a0.size:Int))),hm,rfl,rfl⟩
theorem ahK {n:Nat}{a0:zn}{a1:ByteArray}{r:Bool}(hm:adr n a0 a1=some r):
  call G n 137 [.agg (zc2 a0),.pv (.ptr [.str a1] 0)] []=some (.ret (aB r),[]):=by
 unfold adr at hm
 obtain ⟨n,rfl,h0⟩:=zu hm
 replace hm:=h0;clear h0
 refine Z2 8 [(0,.agg (zc2 a0)),(1,.pv (.ptr [.str a1] 0))] func137 rfl hJ (sq (det [(1,.pv (.ptr [.str a1] 0)),jJ] [.box (zc2 a0) false] hJ (sq (dn [(3,aB (sEq a0.R a1))] (jf ?_)))))
 cases hm;exact hM
abbrev zp87 (p0:jv):Nat×AV:=(0,.pv (zg zA p0))
abbrev zp88 (p0:ByteArray):Nat×AV:=(1,.pv (.fn 137 [] [.ptr [.str p0] 0]))
abbrev zp89 (p0:jv):Nat×AV:=(7,aI ((sll p0).length:Int))
abbrev zp90 (p0:jv):Nat×AV:=(12,.pv (zg zA p0))
theorem qW {n:Nat}{a0:jv}{a1:ByteArray}{r:Int}(hm:Zl n a0 a1=some r):
   call G n 136 [.pv (zz a0),.pv (.fn 137 [] [.ptr [.str a1] 0])] []=some (.ret (aI r),[]):=by
 unfold Zl at hm
 obtain ⟨n,rfl,h0⟩:=zu hm
 replace hm:=h0;clear h0
 refine Z2 19 [(zp87 a0),(zp88 a1)] func136 rfl hJ (sq (dn [(zp87 a0),(zp88 a1)] ?_))
 obtain ⟨k3,hk3,hm⟩:=zt hm
 refine mid (fun t H=>(∃ (y1:Int) (y2:Bool),k3 ()=some r∧t=mk 19 [(zp87 a0),(zp88 a1),(zp89 a0),(8,aI y1),(9,aB y2)]∧H=[])) ?_ ?_
 ·rintro _ _ ⟨y1,y2,hm,rfl,rfl⟩
  subst hk3
  refine sq (dn [(4,aI (-1))] (jf ?_))
  cases hm;exact hM
 refine sq (rg (s1 1 [(6,.pv (zz a0))] (dv 7 (v:=aI ((sll a0).length:Int)) (zP zA a0 t28 hJ) hJ (fq 1 [(zp87 a0),(zp88 a1),(zp89 a0),(8,aI 0)] (bq ?_)))))
 refine qB (fun mm t H=>(∃ (y5:Int),Za n a0 a1 k3 mm y5=some r∧t=mk 19 [(zp87 a0),(zp88 a1),(zp89 a0),(8,aI y5)]∧H=[])) (⟨0,hm,rfl,rfl⟩) ?_ ?_
 ·
   rintro _ _ ⟨y5,hm,_⟩;exact nomatch hm
 rintro m6 _ _ ⟨y5,hm,rfl,rfl⟩
 simp only [Za] at hm
 refine sq (dn [(zp87 a0),(zp88 a1),(zp89 a0),(8,aI y5),(9,aB (decide (y5<((sll a0).length:Int))))] ?_)
 refine sq ?_
 rcases zf hm with ⟨h7,hm⟩|⟨h7,hm⟩
 ·refine c1 h7 (jg (sq (bq (sq (dn [(zp87 a0),(zp88 a1),(5,aI y5),(zp89 a0),(8,aI y5)] (sq (rg (s1 3 [(13,aI y5),(zp90 a0),(11,.pv (.fn 137 [] [.ptr [.str a1] 0]))] ?_))))))))
  obtain ⟨x8,h9,hm⟩:=bs hm
  refine dv 14 (v:=.pv (.ptr (zA x8) 0)) (qo zA a0 .i64 t28 t84 h9 rfl hJ) hJ (s1 1 [(15,.agg (zc2 x8))] ?_)
  obtain ⟨x10,h11,hm⟩:=bs hm
  refine dv 16 (zR hJ (ahK h11) hJ hJ hJ) hJ (fin [(zp87 a0),(zp88 a1),(5,aI y5),(zp89 a0),(8,aI y5),(16,aB x10)] rfl hJ ?_)
  rcases zf hm with ⟨h12,hm⟩|⟨h12,hm⟩
  ·refine c1 h12 (sq (dn [(4,aI y5)] (jf ?_)))
   cases hm;exact hM
  refine c0 h12 (jg (dn [(zp87 a0),(zp88 a1),(zp89 a0),(zp86 y5)] ?_))
  exact ⟨_,_,ZD [(zp87 a0),(zp88 a1),(zp89 a0),(zp86 y5)] [] hJ,⟨(Zk y5),hm,rfl,rfl⟩⟩
 refine c0 h7 (jh ?_)
 exact ⟨y5,(decide (y5<((sll a0).length:Int))),hm,rfl,rfl⟩
theorem acU {n:Nat}{a0:(Option (List ZT))}{r:(Option (List ZT))}(hm:Qe n a0=some r):
   call G n 138 [.pv (zg zX a0)] []=some (.ret (.pv (zg zX r)),[]):=by
 unfold Qe at hm
 obtain ⟨n,rfl,h0⟩:=zu hm
 replace hm:=h0;clear h0
 refine Z2 8 [(0,.pv (zg zX a0))] func138 rfl hJ (sq (dn [(0,.pv (zg zX a0))] (sq (sq (rg (s1 1 [(3,.pv (zg zX a0))] (dv 4 (v:=aB (a0.isNone)) (alQ zX a0 t82 hJ) hJ (fin [(0,.pv (zg zX a0)),(4,aB (a0.isNone))] rfl hJ ?_))))))))
 rcases zf hm with ⟨h1,hm⟩|⟨h1,hm⟩
 ·refine c1 h1 (sq (dn [kD] (jf ?_)))
  cases hm;exact hM
 refine c0 h1 (jg (sq (rg (st 2 [(6,.pv (zg zX a0)),(5,aR 0 2 0)] [bR 81 2 zX ([]:List ZT) 0 0] hJ ?_))))
 rcases zf hm with ⟨h2,hm⟩|⟨h2,hm⟩
 ·obtain ⟨_,h3,hm⟩:=bs hm
  refine dv 7 (v:=aR 0 2 0) (afG (u:=0) (y:=.pv (zg zX a0)) (n:=0) (id:=0) zX ([]:List ZT) (sll a0) (b:=24) t82 t81 rfl rfl rfl h2 h3 rfl hX (Nat.zero_le _) (afP (R:=zX) (s:=a0)) hJ) hJ (fq 1 [(2,aR 0 2 0)] (jf ?_))
  obtain rfl:=ji hm
  exact ace (v:=aR 0 2 0) trivial rfl hJ hJ
 obtain ⟨_,h4,hm⟩:=bs hm
 refine dO [(7,aR 0 2 ((([]:List ZT)++(sll a0)).length))] [bR 81 2 zX (([]:List ZT)++(sll a0)) 0 0] (ZF (u:=0) (n:=0) (id:=0) zX ([]:List ZT) (sll a0) (b:=24) t82 t81 rfl rfl rfl (fun _=>rfl) h2 h4 rfl hX (Nat.zero_le _) (afP (R:=zX) (s:=a0)) hJ) hJ (fq 1 [(2,aR 0 2 ((([]:List ZT)++(sll a0)).length))] (jf ?_))
 obtain rfl:=ji hm
 exact ace (v:=aR 0 2 ((([]:List ZT)++(sll a0)).length)) trivial rfl hJ (agU (zB (n:=(([]:List ZT)++(sll a0)).length) (id:=0) (l:=(([]:List ZT)++(sll a0))) (R:=zX) rfl rfl (Nat.zero_le _)))
abbrev ahd (p0:ByteArray) (p1:(Option (List ZT))):=([(zn.mk p0 p1)]:List zn)
theorem ae6 {n:Nat}{a0:jv}{a1:ByteArray}{r:jv}(hm:abM n a0 a1=some r):
   ∃ vv H1,call G n 135 [aS a1,.ptr 0 0,.ptr 1 0] [.box [.pv (zz a0)] false,jD]=some (.ret vv,H1)∧(match (generalizing:=false) r with|none=>(vv=aI 40∧H1=[.box [.pv (zz a0)] false,jD])|some r0=>(vv=aI 0∧H1=[.box [.pv (zz a0)] false,.box [aR 2 2 r0.length] false,bR 84 2 zA r0 0 0])):=by
 unfold abM at hm
 obtain ⟨n,rfl,h0⟩:=zu hm
 replace hm:=h0;clear h0
 refine ZJ 22 [(0,aS a1),jK,jH] func135 rfl hJ (sq (det [jK,jH,jR] [.box [.pv (zz a0)] false,jD,.box [aS a1] false] hJ (sq (rg (s1 2 [(7,.fn 137 [] [.ptr 2 0]),(6,.pv (zz a0))] ?_)))))
 obtain ⟨x1,h2,hm⟩:=bs hm
 refine dO [(8,aI x1)] [.box [.pv (zz a0)] false,jD,.box [aS a1] false] (anS [2] [.pv (zz a0),.fn 137 [] [.ptr 2 0]] (fl:=true) hJ hJ hJ (qW h2) hJ hJ) hJ (fq 1 [jK,jH,jR,(5,aI x1)] ?_)
 refine sq (sq (dn [jK,jH,jR,(5,aI x1),(10,aB (decide (x1<0)))] ?_))
 rcases zf hm with ⟨h3,hm⟩|⟨h3,hm⟩
 ·refine c1 h3 (sq (dn [(4,aI 40)] (jf ?_)))
  obtain rfl:=ji hm
  exact ⟨trivial,aI 40,[.box [.pv (zz a0)] false,jD],hJ,rfl,rfl⟩
 refine c0 h3 (jg (sq (rgd (shd 4 [(14,aI x1),(13,.pv (zz a0)),(12,aS a1),(11,.pv .nils)] hJ ?_))))
 obtain ⟨x4,h5,hm⟩:=bs hm
 refine dvd 15 (v:=.pv (.ptr (zA x4) 0)) (qo zA a0 .i64 t28 t84 h5 rfl hJ) hJ (shd 2 [(17,.pv (zg zX x4.Q)),(16,.pv (.ptr (zA x4) 1))] hJ ?_)
 obtain ⟨x6,h7,hm⟩:=bs hm
 refine dvd 18 (zR hJ (acU h7) hJ hJ hJ) hJ (std 2 [(20,aR 3 2 1),(19,.agg [aS a1,.pv (zg zX x6)])] [.box [.pv (zz a0)] false,jD,.box [aS a1] false,bR 84 2 zA (ahd a1 x6) 0 0] hJ ?_)
 obtain ⟨_,h8,hm⟩:=bs hm
 refine dOd [(21,aR 4 2 (([(zn.mk a1 x6)]:List zn).length))] [.box [.pv (zz a0)] false,jD,.box [aS a1] false,bR 84 2 zA (ahd a1 x6) 0 0,bR 84 2 zA (ahd a1 x6) 0 0] (Qa (u:=0) zA (ahd a1 x6) (b:=40) t28 t84 rfl rfl rfl (fun _=>rfl) rfl h8 (show zT (aR 3 2 1) _=some (([(zn.mk a1 x6)]:List zn).map zA) from by kernel_rfl) hJ) hJ (std 1 [] [.box [.pv (zz a0)] false,.box [aR 4 2 (([(zn.mk a1 x6)]:List zn).length)] false,.box [aS a1] false,bR 84 2 zA (ahd a1 x6) 0 0,bR 84 2 zA (ahd a1 x6) 0 0] hJ (find [] rfl hJ hJ (sq (dn [kF] (jf ?_)))))
 obtain rfl:=ji hm
 exact ⟨trivial,aI 0,[.box [.pv (zz a0)] false,.box [aR 2 2 (([(zn.mk a1 x6)]:List zn).length)] false,bR 84 2 zA (ahd a1 x6) 0 0],hJ,rfl,rfl⟩
theorem ahI (m2:Nat) (f2:Nat) {n:Nat}{a0:jx}{a1:jv}{a2:ByteArray}{r:jx×Int}(hm2:a0.length=m2) (hf2:f2≤a0.length) (hm:aaI n a0 a1 a2=some r):
   ∃ vv H1,call G n 135 [aS a2,.ptr 0 0,.ptr 1 0] [.box [.pv (zz a1)] false,.box [aR 2 2 m2] false,bR 84 2 zA a0 f2 0]=some (.ret vv,H1)∧(match (generalizing:=false) r with|(r0,r1)=>(∃ (e2:Nat) (e3:Nat),r0.length=e2∧e3≤r0.length∧vv=aI r1∧H1=[.box [.pv (zz a1)] false,.box [aR 2 2 e2] false,bR 84 2 zA r0 e3 0])):=by
 unfold aaI at hm
 obtain ⟨n,rfl,h0⟩:=zu hm
 replace hm:=h0;clear h0
 refine ZJ 22 [(0,aS a2),jK,jH] func135 rfl hJ (sq (det [jK,jH,jM] [.box [.pv (zz a1)] false,.box [aR 2 2 m2] false,bR 84 2 zA a0 f2 0,.box [aS a2] false] hJ (sq (rg (s1 2 [(7,.fn 137 [] [.ptr 3 0]),(6,.pv (zz a1))] ?_)))))
 obtain ⟨x1,h2,hm⟩:=bs hm
 refine dO [(8,aI x1)] [.box [.pv (zz a1)] false,.box [aR 2 2 m2] false,bR 84 2 zA a0 f2 0,.box [aS a2] false] (anS [3] [.pv (zz a1),.fn 137 [] [.ptr 3 0]] (fl:=true) hJ hJ hJ (qW h2) hJ hJ) hJ (fq 1 [jK,jH,jM,(5,aI x1)] ?_)
 refine sq (sq (dn [jK,jH,jM,(5,aI x1),(10,aB (decide (x1<0)))] ?_))
 rcases zf hm with ⟨h3,hm⟩|⟨h3,hm⟩
 ·refine c1 h3 (sq (dn [(4,aI 40)] (jf ?_)))
  obtain rfl:=ji hm
  exact ⟨trivial,aI 40,[.box [.pv (zz a1)] false,.box [aR 2 2 m2] false,bR 84 2 zA a0 f2 0],hJ,m2,f2,hX,hY,rfl,rfl⟩
 refine c0 h3 (jg (sq (rgd (shd 4 [(14,aI x1),(13,.pv (zz a1)),(12,aS a2),(11,aR 2 2 m2)] hJ ?_))))
 obtain ⟨x4,h5,hm⟩:=bs hm
 refine dvd 15 (v:=.pv (.ptr (zA x4) 0)) (qo zA a1 .i64 t28 t84 h5 rfl hJ) hJ (shd 2 [(17,.pv (zg zX x4.Q)),(16,.pv (.ptr (zA x4) 1))] hJ ?_)
 obtain ⟨x6,h7,hm⟩:=bs hm
 refine dvd 18 (zR hJ (acU h7) hJ hJ hJ) hJ (std 2 [(20,aR 4 2 1),(19,.agg [aS a2,.pv (zg zX x6)])] [.box [.pv (zz a1)] false,.box [aR 2 2 m2] false,bR 84 2 zA a0 f2 0,.box [aS a2] false,bR 84 2 zA (ahd a2 x6) 0 0] hJ ?_)
 obtain ⟨_,h8,hm⟩:=bs hm
 refine dOd [(21,aR 2 2 ((a0++([(zn.mk a2 x6)]:List zn)).length))] [.box [.pv (zz a1)] false,.box [aR 2 2 m2] false,bR 84 2 zA (a0++([(zn.mk a2 x6)]:List zn)) f2 0,.box [aS a2] false,bR 84 2 zA (ahd a2 x6) 0 0] (ZF (u:=0) (n:=m2) (id:=2) zA a0 (ahd a2 x6) (b:=40) t28 t84 rfl rfl rfl (fun _=>rfl) rfl h8 rfl hZ hZ (show zT (aR 4 2 1) _=some (([(zn.mk a2 x6)]:List zn).map zA) from by kernel_rfl) hJ) hJ (std 1 [] [.box [.pv (zz a1)] false,.box [aR 2 2 ((a0++([(zn.mk a2 x6)]:List zn)).length)] false,bR 84 2 zA (a0++([(zn.mk a2 x6)]:List zn)) f2 0,.box [aS a2] false,bR 84 2 zA (ahd a2 x6) 0 0] hJ (find [] rfl hJ hJ (sq (dn [kF] (jf ?_)))))
 obtain rfl:=ji hm
 exact ⟨trivial,aI 0,[.box [.pv (zz a1)] false,.box [aR 2 2 ((a0++([(zn.mk a2 x6)]:List zn)).length)] false,bR 84 2 zA (a0++([(zn.mk a2 x6)]:List zn)) f2 0],hJ,(a0++([(zn.mk a2 x6)]:List zn)).length,f2,hX,hY,rfl,rfl⟩
abbrev zp91 (p0:(Option (List ByteArray))):Nat×AV:=(0,.pv (zg rS p0))
abbrev zp92:Nat×AV:=(1,.fn 135 [] [.ptr 0 0,.ptr 1 0])
abbrev zp93 (p0:(Option (List ByteArray))):Nat×AV:=(8,.pv (zg rS p0))
abbrev zp94 (p0:(Option (List ByteArray))):Nat×AV:=(9,aI ((sll p0).length:Int))
abbrev zp95 (p0:Int):Nat×AV:=(10,aI (IntKind.wrap .i64 (p0+1)))
abbrev akm (p0:Int) (p1:(Option (List ByteArray))):=(decide (p0<((sll p1).length:Int)))
theorem Q3 {n:Nat}{a0:jv}{a1:(Option (List ByteArray))}{r:jv×Int}(hm:ZW n a0 a1=some r):
   ∃ vv H1,call G n 134 [.pv (zg rS a1),.fn 135 [] [.ptr 0 0,.ptr 1 0]] [.box [.pv (zz a0)] false,jD]=some (.ret vv,H1)∧(match (generalizing:=false) r with|(none,r0)=>(vv=aI r0∧H1=[.box [.pv (zz a0)] false,jD])|(some r1,r0)=>(∃ (e2:Nat) (e3:Nat),r1.length=e2∧e3≤r1.length∧vv=aI r0∧H1=[.box [.pv (zz a0)] false,.box [aR 2 2 e2] false,bR 84 2 zA r1 e3 0])):=by
 unfold ZW at hm
 obtain ⟨n,rfl,h0⟩:=zu hm
 replace hm:=h0;clear h0
 refine ZJ 21 [(zp91 a1),zp92] func134 rfl hJ (sq (dn [(zp91 a1),zp92] ?_))
 obtain ⟨k8,hk8,hm⟩:=zt hm
 refine mid (fun t H=>(∃ (w1:AV) (w2:AV),k8 none=some r∧t=mk 21 [zp92,(zp93 a1),(zp94 a1),(10,w1),(11,w2)]∧H=[.box [.pv (zz a0)] false,jD])∨(∃ (y3:jx) (w1:AV) (w2:AV) (g4:Nat) (g6:Nat),k8 (some y3)=some r∧t=mk 21 [zp92,(zp93 a1),(zp94 a1),(10,w1),(11,w2)]∧H=[.box [.pv (zz a0)] false,.box [aR 2 2 g4] false,bR 84 2 zA y3 g6 0]∧y3.length=g4∧g6≤y3.length)) ?_ ?_
 ·rintro _ _ (⟨w1,w2,hm,rfl,rfl⟩|⟨y3,w1,w2,g4,g6,hm,rfl,rfl,q5,q7⟩)
  ·subst hk8
   refine sq (dn [kF] (jf ?_))
   obtain rfl:=ji hm
   exact ⟨trivial,aI 0,[.box [.pv (zz a0)] false,jD],hJ,rfl,rfl⟩
  subst hk8
  refine sq (dn [kF] (jf ?_))
  obtain rfl:=ji hm
  exact ⟨trivial,aI 0,[.box [.pv (zz a0)] false,.box [aR 2 2 g4] false,bR 84 2 zA y3 g6 0],hJ,g4,g6,hX,hY,rfl,rfl⟩
 refine sq (rg (s1 1 [(zp93 a1)] (dv 9 (v:=aI ((sll a1).length:Int)) (zP rS a1 t22 hJ) hJ (fq 1 [zp92,(zp93 a1),(zp94 a1),(10,aI 0)] (bq ?_)))))
 refine qB (fun mm t H=>(∃ (y17:Int),zF n a0 a1 k8 mm none y17=some r∧t=mk 21 [zp92,(zp93 a1),(zp94 a1),(10,aI y17)]∧H=[.box [.pv (zg zA a0)] false,jD])∨(∃ (y16:jx) (y17:Int) (g18:Nat) (g20:Nat),zF n a0 a1 k8 mm (some y16) y17=some r∧t=mk 21 [zp92,(zp93 a1),(zp94 a1),(10,aI y17)]∧H=[.box [.pv (zg zA a0)] false,.box [aR 2 2 g18] false,bR 84 2 zA y16 g20 0]∧y16.length=g18∧g20≤y16.length)) (.inl ⟨0,hm,rfl,rfl⟩) ?_ ?_
 ·
   rintro _ _ (⟨y17,hm,_⟩|⟨y16,y17,g18,g20,hm,_⟩)<;>exact nomatch hm
 rintro m22 _ _ (⟨y17,hm,rfl,rfl⟩|⟨y16,y17,g18,g20,hm,rfl,rfl,q19,q21⟩)
 ·simp only [zF] at hm
  refine sq (dn [zp92,(zp93 a1),(zp94 a1),(10,aI y17),(11,aB (akm y17 a1))] ?_)
  refine sq ?_
  rcases zf hm with ⟨h23,hm⟩|⟨h23,hm⟩
  ·refine c1 h23 (jg (sq (bq (sq (rg ?_)))))
   obtain ⟨x24,h25,hm⟩:=bs hm
   refine dv 12 (v:=.pv (.ptr (rS x24) 0)) (qo rS a1 .i64 t22 t9 h25 rfl hJ) hJ (fq 2 [zp92,(6,aS x24),(zp93 a1),(zp94 a1),(10,aI y17)] (sq (rg (s1 2 [(15,aS x24),(14,.fn 135 [] [.ptr 0 0,.ptr 1 0])] ?_))))
   obtain ⟨x28,h26,hm⟩:=bs hm
   rcases x28 with _|x27
   ·obtain ⟨vv,H1,hC,rfl,rfl⟩:=ae6 h26
    refine dR [(16,aI 40)] [.box [.pv (zz a0)] false,jD] [0,1] [aS x24,.ptr 0 0,.ptr 1 0] hJ hJ hJ hC hJ (fq 1 [zp92,(7,aI 40),(zp93 a1),(zp94 a1),(10,aI y17)] (sq (dn [zp92,(7,aI 40),(zp93 a1),(zp94 a1),(10,aI y17),(18,aB true)] (cT hJ (sq (dn [(4,aI 40)] (jf ?_)))))))
    obtain rfl:=ji hm
    exact ⟨trivial,aI 40,[.box [.pv (zz a0)] false,jD],hJ,rfl,rfl⟩
   obtain ⟨vv,H1,hC,rfl,rfl⟩:=ae6 h26
   refine dR [(16,aI 0)] [.box [.pv (zz a0)] false,.box [aR 2 2 x27.length] false,bR 84 2 zA x27 0 0] [0,1] [aS x24,.ptr 0 0,.ptr 1 0] hJ hJ hJ hC hJ (fq 1 [zp92,(7,aI 0),(zp93 a1),(zp94 a1),(10,aI y17)] (sq (dn [zp92,(7,aI 0),(zp93 a1),(zp94 a1),(10,aI y17),(18,aB false)] (cF hJ (jg (dn [zp92,(zp93 a1),(zp94 a1),(zp95 y17)] ?_))))))
   exact ⟨_,_,ZD [zp92,(zp93 a1),(zp94 a1),(zp95 y17)] [.box [.pv (zz a0)] false,.box [aR 2 2 x27.length] false,bR 84 2 zA x27 0 0] hJ,.inr (⟨x27,(Zk y17),x27.length,0,hm,rfl,rfl,hX,hY⟩)⟩
  refine c0 h23 (jh ?_)
  exact .inl ⟨aI y17,aB (akm y17 a1),hm,(zH hJ),rfl⟩
 simp only [zF] at hm
 refine sq (dn [zp92,(zp93 a1),(zp94 a1),(10,aI y17),(11,aB (akm y17 a1))] ?_)
 refine sq ?_
 rcases zf hm with ⟨h29,hm⟩|⟨h29,hm⟩
 ·refine c1 h29 (jg (sq (bq (sq (rg ?_)))))
  obtain ⟨x30,h31,hm⟩:=bs hm
  refine dv 12 (v:=.pv (.ptr (rS x30) 0)) (qo rS a1 .i64 t22 t9 h31 rfl hJ) hJ (fq 2 [zp92,(6,aS x30),(zp93 a1),(zp94 a1),(10,aI y17)] (sq (rg (s1 2 [(15,aS x30),(14,.fn 135 [] [.ptr 0 0,.ptr 1 0])] ?_))))
  obtain ⟨⟨x33,x34⟩,h32,hm⟩:=bs hm
  obtain ⟨vv,H1,hC,g35,g36,q37,q38,rfl,rfl⟩:=ahI g18 g20 hX hY h32
  refine dR [(16,aI x34)] [.box [.pv (zz a0)] false,.box [aR 2 2 g35] false,bR 84 2 zA x33 g36 0] [0,1,2] [aS x30,.ptr 0 0,.ptr 1 0] hJ hJ hJ hC hJ (fq 1 [zp92,(7,aI x34),(zp93 a1),(zp94 a1),(10,aI y17)] (sq (dn [zp92,(7,aI x34),(zp93 a1),(zp94 a1),(10,aI y17),(18,aB (x34 !=0))] ?_)))
  rcases zf hm with ⟨h39,hm⟩|⟨h39,hm⟩
  ·refine c1 h39 (sq (dn [(4,aI x34)] (jf ?_)))
   obtain rfl:=ji hm
   exact ⟨trivial,aI x34,[.box [.pv (zz a0)] false,.box [aR 2 2 g35] false,bR 84 2 zA x33 g36 0],hJ,g35,g36,hX,hY,rfl,rfl⟩
  refine c0 h39 (jg (dn [zp92,(zp93 a1),(zp94 a1),(zp95 y17)] ?_))
  exact ⟨_,_,ZD [zp92,(zp93 a1),(zp94 a1),(zp95 y17)] [.box [.pv (zz a0)] false,.box [aR 2 2 g35] false,bR 84 2 zA x33 g36 0] hJ,.inr (⟨x33,(Zk y17),g35,g36,hm,rfl,rfl,hX,hY⟩)⟩
 refine c0 h29 (jh ?_)
 exact .inr (⟨y16,aI y17,aB (akm y17 a1),g18,g20,hm,(zH hJ),rfl,hX,hY⟩)
theorem akH {n:Nat}{a0:zb}{a1:jv}{r:jv×Int}(hm:ada n a0 a1=some r):
   call G n 47 [.agg (zc0 a0),.pv (zz a1)] []=some (.ret (.tup [.pv (zg zA r.1),aI r.2]),[]):=by
 unfold ada at hm
 obtain ⟨n,rfl,h0⟩:=zu hm
 replace hm:=h0;clear h0
 refine Z2 26 [(0,.agg (zc0 a0)),(zp81 a1)] func47 rfl hJ (sq (det [jJ,jO] [.box (zc0 a0) false,.box [.pv (zz a1)] false] hJ ?_))
 refine sq (bq (sq (rg (s1 2 [(10,.pv (zg rS a0.E)),kc] (dv 11 (v:=aI ((sll a0.E).length:Int)) (zP rS a0.E t22 hJ) hJ (fq 2 [jJ,jO,(8,aB (decide (((sll a0.E).length:Int)>12)))] ?_))))))
 rcases zf hm with ⟨h1,hm⟩|⟨h1,hm⟩
 ·refine c1 h1 (sq (dn [ky,(5,aI 51)] (jf ?_)))
  cases hm;exact hM
 refine c0 h1 (sq (rg (s1 2 [(15,.pv (zg rS a0.E)),j8] (dv 16 (v:=aI ((sll a0.E).length:Int)) (zP rS a0.E t22 hJ) hJ (fq 2 [jJ,jO,(13,aB (((sll a0.E).length:Int)==0))] ?_)))))
 rcases zf hm with ⟨h2,hm⟩|⟨h2,hm⟩
 ·refine c1 h2 (sq (dn [ky,(5,aI 2)] (jf ?_)))
  cases hm;exact hM
 refine c0 h2 (jg (sq (det [jJ,jO,jX] [.box (zc0 a0) false,.box [.pv (zz a1)] false,jD] hJ ?_)))
 obtain ⟨k9,hk9,hm⟩:=zt hm
 refine mid (fun t H=>(∃ (y4:Int),k9 none y4=some r∧t=mk 26 [jX,(7,aI y4)]∧H=[.box (zc0 a0) false,.box [.pv (zz a1)] false,jD])∨(∃ (y3:jx) (y4:Int) (g5:Nat) (g7:Nat),k9 (some y3) y4=some r∧t=mk 26 [jX,(7,aI y4)]∧H=[.box (zc0 a0) false,.box [.pv (zz a1)] false,.box [aR 3 2 g5] false,bR 84 2 zA y3 g7 0]∧y3.length=g5∧g7≤y3.length)) ?_ ?_
 ·rintro _ _ (⟨y4,hm,rfl,rfl⟩|⟨y3,y4,g5,g7,hm,rfl,rfl,q6,q8⟩)
  ·subst hk9
   refine sq (sq (dn [jX,(7,aI y4),(23,aB (y4 !=0))] ?_))
   rcases zf hm with ⟨h10,hm⟩|⟨h10,hm⟩
   ·refine c1 h10 (sq (dn [ky,(5,aI y4)] (jf ?_)))
    cases hm;exact hM
   refine c0 h10 (jg (sq (dn [ky,kJ] (jf ?_))))
   cases hm;exact hM
  subst hk9
  refine sq (sq (dn [jX,(7,aI y4),(23,aB (y4 !=0))] ?_))
  rcases zf hm with ⟨h11,hm⟩|⟨h11,hm⟩
  ·refine c1 h11 (sq (dn [ky,(5,aI y4)] (jf ?_)))
   cases hm;exact hM
  refine c0 h11 (jg (sq (dn [(4,aR 3 2 g5),kJ] (jf ?_))))
  obtain rfl:=ji hm
  exact ace (v:=.tup [aR 3 2 g5,aI 0]) trivial rfl hJ (qC (zK (agU (zB (n:=g5) (id:=3) (l:=y3) (R:=zA) rfl hZ hZ)) (zK (QI) (rfl))))
 refine rg (s1 3 [(20,.fn 135 [] [.ptr 1 0,.ptr 2 0]),(19,.pv (zg rS a0.E)),(18,.ptr 0 0)] ?_)
 obtain ⟨x15,h12,hm⟩:=bs hm
 rcases x15 with ⟨_|x13,x14⟩
 ·obtain ⟨vv,H1,hC,rfl,rfl⟩:=Q3 h12
  refine dR [(21,aI x14)] [.box (zc0 a0) false,.box [.pv (zz a1)] false,jD] [1,2] [.pv (zg rS a0.E),.fn 135 [] [.ptr 1 0,.ptr 2 0]] hJ hJ hJ hC hJ (fq 1 [jX,(7,aI x14)] ?_)
  exact .inl ⟨x14,hm,rfl,rfl⟩
 obtain ⟨vv,H1,hC,g16,g17,q18,q19,rfl,rfl⟩:=Q3 h12
 refine dR [(21,aI x14)] [.box (zc0 a0) false,.box [.pv (zz a1)] false,.box [aR 3 2 g16] false,bR 84 2 zA x13 g17 0] [1,2] [.pv (zg rS a0.E),.fn 135 [] [.ptr 1 0,.ptr 2 0]] hJ hJ hJ hC hJ (fq 1 [jX,(7,aI x14)] ?_)
 exact .inr (⟨x13,x14,g16,g17,hm,rfl,rfl,hX,hY⟩)
theorem agP {n:Nat}{a0:zb}{r:Int}(hm:acI n a0=some r):
  call G n 45 [.agg (zc0 a0)] []=some (.ret (aI r),[]):=by
 unfold acI at hm
 obtain ⟨n,rfl,h0⟩:=zu hm
 replace hm:=h0;clear h0
 refine Z2 10 [(0,.agg (zc0 a0))] func45 rfl hJ (sq (det [jK] [.box (zc0 a0) false] hJ (sq (rg (s1 2 [(4,.pv (abu a0)),(3,.ptr 0 3)] (dv 5 (v:=aI ((sll a0.B).length:Int)) (zP za a0.B t23 hJ) hJ (s1 2 [(7,.pv (acL a0)),(6,.ptr 0 4)] (dv 8 (v:=aI (ahR a0)) (zP zd a0.C t24 hJ) hJ (fq 2 [(2,aI (IntKind.wrap .i64 (((sll a0.B).length:Int)+((sll a0.C).length:Int))))] (jf ?_))))))))))
 cases hm;exact hM
abbrev zc3 (p0:zm):List AV:=[aI p0.A,aI p0.N.A,aI p0.N.K,aI p0.N.M,aI p0.N.D.A,aI p0.N.D.J,aF p0.N.D.O,aS p0.N.D.L,.pv (zg za p0.N.I)]
theorem ajf {n:Nat}{a0:zm}{r:Bool}(hm:ac8 n a0=some r):
  call G n 140 [.agg (zc3 a0)] []=some (.ret (aB r),[]):=by
 unfold ac8 at hm
 obtain ⟨n,rfl,h0⟩:=zu hm
 replace hm:=h0;clear h0
 refine Z2 11 [(0,.agg (zc3 a0))] func140 rfl hJ (sq (det [jK] [.box (zc3 a0) false] hJ (sq (rg (s1 4 [(6,aB (decide (a0.A<1))),(5,aB (decide (a0.A<1))),(4,aI a0.A),jL] ?_)))))
 refine segP (decide (a0.A<1)) [6,5] (fun b=>[(10,aB (b||(decide (a0.A>4)))),(9,ifA b jb (aB (decide (a0.A>4)))),(8,ifA b jb (aI a0.A)),(7,ifA b jb (.ptr 0 0))]) 4 hJ hJ hJ (fq 1 [(2,aB ((decide (a0.A<1))||(decide (a0.A>4))))] (jf ?_))
 cases hm;exact hM
abbrev zp96 (p0:jr):Nat×AV:=(0,.pv (zg zd p0))
abbrev zp97:Nat×AV:=(1,.pv (.fn 140 [] []))
abbrev zp98 (p0:jr):Nat×AV:=(7,aI ((sll p0).length:Int))
abbrev agm (p0:Int) (p1:jr):=(decide (p0<((sll p1).length:Int)))
theorem abT {n:Nat}{a0:jr}{r:Int}(hm:qe n a0=some r):
   call G n 180 [.pv (zg zd a0),.pv (.fn 140 [] [])] []=some (.ret (aI r),[]):=by
 unfold qe at hm
 obtain ⟨n,rfl,h0⟩:=zu hm
 replace hm:=h0;clear h0
 refine Z2 19 [(zp96 a0),zp97] func180 rfl hJ (sq (dn [(zp96 a0),zp97] ?_))
 obtain ⟨k3,hk3,hm⟩:=zt hm
 refine mid (fun t H=>(∃ (y1:Int) (y2:Bool),k3 ()=some r∧t=mk 19 [(zp96 a0),zp97,(zp98 a0),(8,aI y1),(9,aB y2)]∧H=[])) ?_ ?_
 ·rintro _ _ ⟨y1,y2,hm,rfl,rfl⟩
  subst hk3
  refine sq (dn [(4,aI (-1))] (jf ?_))
  cases hm;exact hM
 refine sq (rg (s1 1 [(6,.pv (zg zd a0))] (dv 7 (v:=aI ((sll a0).length:Int)) (zP zd a0 t24 hJ) hJ (fq 1 [(zp96 a0),zp97,(zp98 a0),(8,aI 0)] (bq ?_)))))
 refine qB (fun mm t H=>(∃ (y5:Int),Ze n a0 k3 mm y5=some r∧t=mk 19 [(zp96 a0),zp97,(zp98 a0),(8,aI y5)]∧H=[])) (⟨0,hm,rfl,rfl⟩) ?_ ?_
 ·
   rintro _ _ ⟨y5,hm,_⟩;exact nomatch hm
 rintro m6 _ _ ⟨y5,hm,rfl,rfl⟩
 simp only [Ze] at hm
 refine sq (dn [(zp96 a0),zp97,(zp98 a0),(8,aI y5),(9,aB (agm y5 a0))] ?_)
 refine sq ?_
 rcases zf hm with ⟨h7,hm⟩|⟨h7,hm⟩
 ·refine c1 h7 (jg (sq (bq (sq (dn [(zp96 a0),zp97,(5,aI y5),(zp98 a0),(8,aI y5)] (sq (rg (s1 3 [(13,aI y5),(12,.pv (zg zd a0)),(11,.pv (.fn 140 [] []))] ?_))))))))
  obtain ⟨x8,h9,hm⟩:=bs hm
  refine dv 14 (v:=.pv (.ptr (zd x8) 0)) (qo zd a0 .i64 t24 t101 h9 rfl hJ) hJ (s1 1 [(15,.agg (zc3 x8))] ?_)
  obtain ⟨x10,h11,hm⟩:=bs hm
  refine dv 16 (zR hJ (ajf h11) hJ hJ hJ) hJ (fin [(zp96 a0),zp97,(5,aI y5),(zp98 a0),(8,aI y5),(16,aB x10)] rfl hJ ?_)
  rcases zf hm with ⟨h12,hm⟩|⟨h12,hm⟩
  ·refine c1 h12 (sq (dn [(4,aI y5)] (jf ?_)))
   cases hm;exact hM
  refine c0 h12 (jg (dn [(zp96 a0),zp97,(zp98 a0),(zp86 y5)] ?_))
  exact ⟨_,_,ZD [(zp96 a0),zp97,(zp98 a0),(zp86 y5)] [] hJ,⟨(Zk y5),hm,rfl,rfl⟩⟩
 refine c0 h7 (jh ?_)
 exact ⟨y5,(agm y5 a0),hm,rfl,rfl⟩
theorem abj {n:Nat}{a0:jr}{r:Bool}(hm:Zo n a0=some r):
  call G n 139 [.pv (zg zd a0),.pv (.fn 140 [] [])] []=some (.ret (aB r),[]):=by
 unfold Zo at hm
 obtain ⟨n,rfl,h0⟩:=zu hm
 replace hm:=h0;clear h0
 refine Z2 9 [(zp96 a0),zp97] func139 rfl hJ (sq (dn [(zp96 a0),zp97] (sq (rg (s1 2 [(6,.pv (.fn 140 [] [])),(5,.pv (zg zd a0))] ?_)))))
 obtain ⟨x1,h2,hm⟩:=bs hm
 refine dv 7 (zR hJ (abT h2) hJ hJ hJ) hJ (fq 2 [(4,aB (decide (x1≥0)))] (jf ?_))
 cases hm;exact hM
abbrev zc4 (p0:(Option (List ByteArray))) (p1:jo) (p2:Bool) (p3:jo) (p4:jr) (p5:jt):List AV:=[.pv (zg rS p0),.pv (zg za p1),aB p2,.pv (zg za p3),.pv (zg zd p4),.pv (zg zl p5)]
theorem aiz {n:Nat}{a0:zo}{a1:(Option (List ByteArray))}{a2:jo}{a3:Bool}{a4:jo}{a5:jr}{a6:jt}{r:Bool}(hm:acZ n a0 a1 a2 a3 a4 a5 a6=some r):
   call G n 142 [.agg [aI a0.B,aB a0.P],.pv (.ptr [zg rS a1,zg za a2,.bool a3,zg za a4,zg zd a5,zg zl a6] 0)] []=some (.ret (aB r),[]):=by
 unfold acZ at hm
 obtain ⟨n,rfl,h0⟩:=zu hm
 replace hm:=h0;clear h0
 refine Z2 14 [(0,.agg [aI a0.B,aB a0.P]),(1,.pv (.ptr [zg rS a1,zg za a2,.bool a3,zg za a4,zg zd a5,zg zl a6] 0))] func142 rfl hJ (sq (det [(1,.pv (.ptr [zg rS a1,zg za a2,.bool a3,zg za a4,zg zd a5,zg zl a6] 0)),jJ] [.box [aI a0.B,aB a0.P] false] hJ (sq (rgd (shd 4 [(7,aB (decide (a0.B<0))),(6,aB (decide (a0.B<0))),(5,aI a0.B),(4,.ptr 0 0)] hJ ?_)))))
 rcases zf hm with ⟨h1,hm⟩|⟨h1,hm⟩
 ·refine afa [7,6] h1 hJ (shd 7 [(3,aB true),(13,aB true),(12,.undef),(11,.undef),(10,.undef),(9,.undef),(8,.undef)] hJ (find [(3,aB true)] rfl hJ hJ (jf ?_)))
  cases hm;exact hM
 refine afa [7,6] h1 hJ (shd 3 [(10,.agg (zc4 a1 a2 a3 a4 a5 a6)),(9,aI a0.B),jY] hJ ?_)
 obtain ⟨x2,h3,hm⟩:=bs hm
 refine dvd 11 (zR hJ (agP h3) hJ hJ hJ) hJ (shd 3 [(3,aB (decide (a0.B≥x2))),(13,aB (decide (a0.B≥x2))),(12,aB (decide (a0.B≥x2)))] hJ (find [(3,aB (decide (a0.B≥x2)))] rfl hJ hJ (jf ?_)))
 cases hm;exact hM
abbrev zp99 (p0:jt):Nat×AV:=(0,.pv (zg zl p0))
abbrev agd (p0:(Option (List ByteArray))) (p1:jo) (p2:Bool) (p3:jo) (p4:jr) (p5:jt):Nat×AV:=(1,.pv (.fn 142 [] [.ptr [zg rS p0,zg za p1,.bool p2,zg za p3,zg zd p4,zg zl p5] 0]))
abbrev akB (p0:jt):Nat×AV:=(7,aI ((sll p0).length:Int))
theorem abN {n:Nat}{a0:jt}{a1:(Option (List ByteArray))}{a2:jo}{a3:Bool}{a4:jo}{a5:jr}{a6:jt}{r:Int}(hm:qd n a0 a1 a2 a3 a4 a5 a6=some r):
   call G n 181 [.pv (zg zl a0),.pv (.fn 142 [] [.ptr [zg rS a1,zg za a2,.bool a3,zg za a4,zg zd a5,zg zl a6] 0])] []=some (.ret (aI r),[]):=by
 unfold qd at hm
 obtain ⟨n,rfl,h0⟩:=zu hm
 replace hm:=h0;clear h0
 refine Z2 19 [(zp99 a0),(agd a1 a2 a3 a4 a5 a6)] func181 rfl hJ (sq (dn [(zp99 a0),(agd a1 a2 a3 a4 a5 a6)] ?_))
 obtain ⟨k3,hk3,hm⟩:=zt hm
 refine mid (fun t H=>(∃ (y1:Int) (y2:Bool),k3 ()=some r∧t=mk 19 [(zp99 a0),(agd a1 a2 a3 a4 a5 a6),(akB a0),(8,aI y1),(9,aB y2)]∧H=[])) ?_ ?_
 ·rintro _ _ ⟨y1,y2,hm,rfl,rfl⟩
  subst hk3
  refine sq (dn [(4,aI (-1))] (jf ?_))
  cases hm;exact hM
 refine sq (rg (s1 1 [(6,.pv (zg zl a0))] (dv 7 (v:=aI ((sll a0).length:Int)) (zP zl a0 t25 hJ) hJ (fq 1 [(zp99 a0),(agd a1 a2 a3 a4 a5 a6),(akB a0),(8,aI 0)] (bq ?_)))))
 refine qB (fun mm t H=>(∃ (y5:Int),Zf n a0 a1 a2 a3 a4 a5 a6 k3 mm y5=some r∧t=mk 19 [(zp99 a0),(agd a1 a2 a3 a4 a5 a6),(akB a0),(8,aI y5)]∧H=[])) (⟨0,hm,rfl,rfl⟩) ?_ ?_
 ·
   rintro _ _ ⟨y5,hm,_⟩;exact nomatch hm
 rintro m6 _ _ ⟨y5,hm,rfl,rfl⟩
 simp only [Zf] at hm
 refine sq (dn [(zp99 a0),(agd a1 a2 a3 a4 a5 a6),(akB a0),(8,aI y5),(9,aB (decide (y5<((sll a0).length:Int))))] ?_)
 refine sq ?_
 rcases zf hm with ⟨h7,hm⟩|⟨h7,hm⟩
 ·refine c1 h7 (jg (sq (bq (sq (dn [(zp99 a0),(agd a1 a2 a3 a4 a5 a6),(5,aI y5),(akB a0),(8,aI y5)] (sq (rg (s1 3 [(13,aI y5),(12,.pv (zg zl a0)),(11,.pv (.fn 142 [] [.ptr [zg rS a1,zg za a2,.bool a3,zg za a4,zg zd a5,zg zl a6] 0]))] ?_))))))))
  obtain ⟨x8,h9,hm⟩:=bs hm
  refine dv 14 (v:=.pv (.ptr (zl x8) 0)) (qo zl a0 .i64 t25 t86 h9 rfl hJ) hJ (s1 1 [(15,.agg [aI x8.B,aB x8.P])] ?_)
  obtain ⟨x10,h11,hm⟩:=bs hm
  refine dv 16 (zR hJ (aiz h11) hJ hJ hJ) hJ (fin [(zp99 a0),(agd a1 a2 a3 a4 a5 a6),(5,aI y5),(akB a0),(8,aI y5),(16,aB x10)] rfl hJ ?_)
  rcases zf hm with ⟨h12,hm⟩|⟨h12,hm⟩
  ·refine c1 h12 (sq (dn [(4,aI y5)] (jf ?_)))
   cases hm;exact hM
  refine c0 h12 (jg (dn [(zp99 a0),(agd a1 a2 a3 a4 a5 a6),(akB a0),(zp86 y5)] ?_))
  exact ⟨_,_,ZD [(zp99 a0),(agd a1 a2 a3 a4 a5 a6),(akB a0),(zp86 y5)] [] hJ,⟨(Zk y5),hm,rfl,rfl⟩⟩
 refine c0 h7 (jh ?_)
 exact ⟨y5,(decide (y5<((sll a0).length:Int))),hm,rfl,rfl⟩
theorem abf {n:Nat}{a0:jt}{a1:(Option (List ByteArray))}{a2:jo}{a3:Bool}{a4:jo}{a5:jr}{a6:jt}{r:Bool}(hm:Zm n a0 a1 a2 a3 a4 a5 a6=some r):
  call G n 141 [.pv (zg zl a0),.pv (.fn 142 [] [.ptr [zg rS a1,zg za a2,.bool a3,zg za a4,zg zd a5,zg zl a6] 0])] []=some (.ret (aB r),[]):=by
 unfold Zm at hm
 obtain ⟨n,rfl,h0⟩:=zu hm
 replace hm:=h0;clear h0
 refine Z2 9 [(zp99 a0),(agd a1 a2 a3 a4 a5 a6)] func141 rfl hJ (sq (dn [(zp99 a0),(agd a1 a2 a3 a4 a5 a6)] (sq (rg (s1 2 [(6,.pv (.fn 142 [] [.ptr [zg rS a1,zg za a2,.bool a3,zg za a4,zg zd a5,zg zl a6] 0])),(5,.pv (zg zl a0))] ?_)))))
 obtain ⟨x1,h2,hm⟩:=bs hm
 refine dv 7 (zR hJ (abN h2) hJ hJ hJ) hJ (fq 2 [(4,aB (decide (x1≥0)))] (jf ?_))
 cases hm;exact hM
abbrev atb (p0:zb):=(((decide (((sll p0.H).length:Int)>40))||(decide (((sll p0.B).length:Int)>20)))||(decide (((sll p0.C).length:Int)>10)))
theorem akC {n:Nat}{a0:zb}{r:Bool}(hm:acR n a0=some r):
   call G n 48 [.agg (zc0 a0)] []=some (.ret (aB r),[]):=by
 unfold acR at hm
 obtain ⟨n,rfl,h0⟩:=zu hm
 replace hm:=h0;clear h0
 refine Z2 53 [(0,.agg (zc0 a0))] func48 rfl hJ (sq (det [jK] [.box (zc0 a0) false] hJ ?_))
 refine sq (sq (rg (s1 2 [(4,.pv (ahl a0)),(3,.ptr 0 1)] (dv 5 (v:=aI ((sll a0.H).length:Int)) (zP za a0.H t23 hJ) hJ (s1 2 [(7,aB (decide (((sll a0.H).length:Int)>40))),(6,aB (decide (((sll a0.H).length:Int)>40)))] ?_)))))
 refine seg (decide (((sll a0.H).length:Int)>40)) [7,6] (fun b=>[(12,aB (b||(decide (((sll a0.B).length:Int)>20)))),(11,ifA b jb (aB (decide (((sll a0.B).length:Int)>20)))),(10,ifA b jb (aI ((sll a0.B).length:Int))),(9,ifA b jb (.pv (abu a0))),(8,ifA b jb (.ptr 0 3))]) 10 hJ ?_ ?_ ?_
 ·intro Q h
  refine s1 5 [(12,aB true),(11,.undef),(10,.undef),(9,.undef),(8,.undef)] ?_
  exact QZ hJ hJ h
 ·intro Q h
  refine s1 2 [(9,.pv (abu a0)),(8,.ptr 0 3)] (dv 10 (v:=aI ((sll a0.B).length:Int)) (zP za a0.B t23 hJ) hJ (s1 2 [(12,aB (decide (((sll a0.B).length:Int)>20))),(11,aB (decide (((sll a0.B).length:Int)>20)))] ?_))
  exact QZ hJ hJ h
 refine s1 1 [(13,aB ((decide (((sll a0.H).length:Int)>40))||(decide (((sll a0.B).length:Int)>20))))] ?_
 refine seg ((decide (((sll a0.H).length:Int)>40))||(decide (((sll a0.B).length:Int)>20))) [13,12] (fun b=>[(18,aB (b||(decide (((sll a0.C).length:Int)>10)))),(17,ifA b jb (aB (decide (((sll a0.C).length:Int)>10)))),(16,ifA b jb (aI ((sll a0.C).length:Int))),(15,ifA b jb (.pv (acL a0))),(14,ifA b jb (.ptr 0 4))]) 16 hJ ?_ ?_ ?_
 ·intro Q h
  refine s1 5 [(18,aB true),(17,.undef),(16,.undef),(15,.undef),(14,.undef)] ?_
  exact QZ hJ hJ h
 ·intro Q h
  refine s1 2 [(15,.pv (acL a0)),(14,.ptr 0 4)] (dv 16 (v:=aI (ahR a0)) (zP zd a0.C t24 hJ) hJ (s1 2 [(18,aB (decide (((sll a0.C).length:Int)>10))),(17,aB (decide (((sll a0.C).length:Int)>10)))] ?_))
  exact QZ hJ hJ h
 refine s1 1 [(19,aB (atb a0))] ?_
 refine seg (atb a0) [19,18] (fun b=>[(24,aB (b||(decide (((sll a0.G).length:Int)>10)))),(23,ifA b jb (aB (decide (((sll a0.G).length:Int)>10)))),(22,ifA b jb (aI ((sll a0.G).length:Int))),(21,ifA b jb (.pv (aeA a0))),(20,ifA b jb (.ptr 0 5))]) 22 hJ ?_ ?_ ?_
 ·intro Q h
  refine s1 5 [(24,aB true),(23,.undef),(22,.undef),(21,.undef),(20,.undef)] ?_
  exact QZ hJ hJ h
 ·intro Q h
  refine s1 2 [(21,.pv (aeA a0)),(20,.ptr 0 5)] (dv 22 (v:=aI ((sll a0.G).length:Int)) (zP zl a0.G t25 hJ) hJ (s1 2 [(24,aB (decide (((sll a0.G).length:Int)>10))),(23,aB (decide (((sll a0.G).length:Int)>10)))] ?_))
  exact QZ hJ hJ h
 refine fin [jK,(24,aB ((((decide (((sll a0.H).length:Int)>40))||(decide (((sll a0.B).length:Int)>20)))||(decide (((sll a0.C).length:Int)>10)))||(decide (((sll a0.G).length:Int)>10))))] rfl hJ ?_
 rcases zf hm with ⟨h1,hm⟩|⟨h1,hm⟩
 ·refine c1 h1 (sq (dn [kM] (jf ?_)))
  cases hm;exact hM
 refine c0 h1 (jg ?_)
 refine sq (sq (rg (s1 4 [(28,aB (!a0.F)),(27,aB (!a0.F)),(26,aB a0.F),(25,.ptr 0 2)] ?_)))
 refine seg (!a0.F) [28,27] (fun b=>[(39,aB (b&&((((sll a0.B).length:Int)==0)||(decide (((sll a0.C).length:Int)>0))))),(38,ifA b (aB ((((sll a0.B).length:Int)==0)||(decide (((sll a0.C).length:Int)>0)))) jb),(37,ifA b (ifA (((sll a0.B).length:Int)==0) jb (aB (decide (((sll a0.C).length:Int)>0)))) jb),(36,ifA b (ifA (((sll a0.B).length:Int)==0) jb (aI ((sll a0.C).length:Int))) jb),(35,ifA b (ifA (((sll a0.B).length:Int)==0) jb (.pv (zg zd a0.C))) jb),(34,ifA b (ifA (((sll a0.B).length:Int)==0) jb (.ptr 0 4)) jb),(33,ifA b (aB (((sll a0.B).length:Int)==0)) jb),(32,ifA b (aB (((sll a0.B).length:Int)==0)) jb),(31,ifA b (aI ((sll a0.B).length:Int)) jb),(30,ifA b (.pv (abu a0)) jb),(29,ifA b (.ptr 0 3) jb)]) 15 hJ ?_ ?_ ?_
 ·intro Q h
  refine s1 2 [(30,.pv (abu a0)),(29,.ptr 0 3)] (dv 31 (v:=aI ((sll a0.B).length:Int)) (zP za a0.B t23 hJ) hJ (s1 2 [(33,aB (((sll a0.B).length:Int)==0)),(32,aB (((sll a0.B).length:Int)==0))] ?_))
  refine seg (((sll a0.B).length:Int)==0) [33,32] (fun b=>[(38,aB (b||(decide (((sll a0.C).length:Int)>0)))),(37,ifA b jb (aB (decide (((sll a0.C).length:Int)>0)))),(36,ifA b jb (aI ((sll a0.C).length:Int))),(35,ifA b jb (.pv (acL a0))),(34,ifA b jb (.ptr 0 4))]) 14 hJ ?_ ?_ ?_
  ·intro Q h
   refine s1 5 [(38,aB true),(37,.undef),(36,.undef),(35,.undef),(34,.undef)] ?_
   exact QZ hJ hJ h
  ·intro Q h
   refine s1 2 [(35,.pv (acL a0)),(34,.ptr 0 4)] (dv 36 (v:=aI (ahR a0)) (zP zd a0.C t24 hJ) hJ (s1 2 [(38,aB (decide (((sll a0.C).length:Int)>0))),(37,aB (decide (((sll a0.C).length:Int)>0)))] ?_))
   exact QZ hJ hJ h
  refine s1 1 [(39,aB ((((sll a0.B).length:Int)==0)||(decide (((sll a0.C).length:Int)>0))))] ?_
  exact QZ hJ hJ h
 ·intro Q h
  refine s1 11 [(39,aB false),(38,.undef),(37,.undef),(36,.undef),(35,.undef),(34,.undef),(33,.undef),(32,.undef),(31,.undef),(30,.undef),(29,.undef)] ?_
  exact QZ hJ hJ h
 refine s1 1 [(40,aB ((!a0.F)&&((((sll a0.B).length:Int)==0)||(decide (((sll a0.C).length:Int)>0)))))] ?_
 rcases zf hm with ⟨h2,hm⟩|⟨h2,hm⟩
 ·refine known [40,39] h2 hJ (fq 4 [jK,(44,aB true)] (cT hJ (sq (dn [kM] (jf ?_)))))
  cases hm;exact hM
 refine known [40,39] h2 hJ (s1 1 [(41,.agg (zc0 a0))] ?_)
 obtain ⟨x3,h4,hm⟩:=bs hm
 refine dv 42 (zR hJ (agP h4) hJ hJ hJ) hJ (fq 2 [jK,(44,aB (x3==0))] ?_)
 rcases zf hm with ⟨h5,hm⟩|⟨h5,hm⟩
 ·refine c1 h5 (sq (dn [kM] (jf ?_)))
  cases hm;exact hM
 refine c0 h5 (jg (sq (sq (rg (s1 2 [(46,.pv (acL a0)),(45,.ptr 0 4)] ?_)))))
 obtain ⟨x6,h7,hm⟩:=bs hm
 refine dv 47 (zR hJ (abj h7) hJ hJ hJ) hJ (fin [jK,(47,aB x6)] rfl hJ ?_)
 rcases zf hm with ⟨h8,hm⟩|⟨h8,hm⟩
 ·refine c1 h8 (sq (dn [kM] (jf ?_)))
  cases hm;exact hM
 refine c0 h8 (jg (sq (rg (s1 3 [(50,.fn 142 [] [.ptr 0 0]),(49,.pv (aeA a0)),(48,.ptr 0 5)] ?_))))
 obtain ⟨x9,h10,hm⟩:=bs hm
 refine dO [(51,aB x9)] [.box (zc0 a0) false] (anS [0] [.pv (aeA a0),.fn 142 [] [.ptr 0 0]] (fl:=true) hJ hJ hJ (abf h10) hJ hJ) hJ (fq 2 [(2,aB (!x9))] (jf ?_))
 cases hm;exact hM
theorem ajm {n:Nat}{a0:Int}{r:Int}(hm:aei n a0=some r):
   call G n 192 [aI a0] []=some (.ret (aI r),[]):=by
 unfold aei at hm
 obtain ⟨n,rfl,h0⟩:=zu hm
 replace hm:=h0;clear h0
 refine Z2 20 [(0,aI a0)] func192 rfl hJ (sq (dn [(0,aI a0)] (sq (sq (dn [(3,aI a0)] (bq ?_))))))
 obtain ⟨k2,hk2,hm⟩:=zt hm
 refine mid (fun t H=>(∃ (y1:Bool),k2 y1=some r∧t=mk 20 [(3,aI a0),(4,aB y1)]∧H=[])) ?_ ?_
 ·rintro _ _ ⟨y1,hm,rfl,rfl⟩
  subst hk2
  rcases zf hm with ⟨h3,hm⟩|⟨h3,hm⟩
  ·refine c1 h3 (sq (dn [(2,aI 0)] (jf ?_)))
   cases hm;exact hM
  refine c0 h3 ?_
  obtain ⟨k5,hk5,hm⟩:=zt hm
  refine mid (fun t H=>(∃ (y4:Bool),k5 y4=some r∧t=mk 20 [(3,aI a0),(7,aB y4)]∧H=[])) ?_ ?_
  ·rintro _ _ ⟨y4,hm,rfl,rfl⟩
   subst hk5
   rcases zf hm with ⟨h6,hm⟩|⟨h6,hm⟩
   ·refine c1 h6 (sq (dn [(2,aI 1)] (jf ?_)))
    cases hm;exact hM
   refine c0 h6 (sq (sq (dn [(3,aI a0),(11,aB (a0==3))] ?_)))
   rcases zf hm with ⟨h7,hm⟩|⟨h7,hm⟩
   ·refine c1 h7 (jg ?_)
    rcases zf hm with ⟨h8,hm⟩|⟨h8,hm⟩
    ·refine c1 h8 (sq (dn [kI] (jf ?_)))
     cases hm;exact hM
    refine c0 h8 (jg (sq (dn [(2,aI (-1))] (jf ?_))))
    cases hm;exact hM
   refine c0 h7 (sq (dn [(3,aI a0),(11,aB (a0==4))] ?_))
   rcases zf hm with ⟨h9,hm⟩|⟨h9,hm⟩
   ·refine c1 h9 (jg ?_)
    rcases zf hm with ⟨h10,hm⟩|⟨h10,hm⟩
    ·refine c1 h10 (sq (dn [kI] (jf ?_)))
     cases hm;exact hM
    refine c0 h10 (jg (sq (dn [(2,aI (-1))] (jf ?_))))
    cases hm;exact hM
   refine c0 h9 (sq (dn [(3,aI a0),(11,aB (a0==5))] ?_))
   rcases zf hm with ⟨h11,hm⟩|⟨h11,hm⟩
   ·refine c1 h11 (jg ?_)
    rcases zf hm with ⟨h12,hm⟩|⟨h12,hm⟩
    ·refine c1 h12 (sq (dn [kI] (jf ?_)))
     cases hm;exact hM
    refine c0 h12 (jg (sq (dn [(2,aI (-1))] (jf ?_))))
    cases hm;exact hM
   refine c0 h11 (sq (dn [(3,aI a0),(11,aB (a0==7))] ?_))
   rcases zf hm with ⟨h13,hm⟩|⟨h13,hm⟩
   ·refine c1 h13 (jg ?_)
    rcases zf hm with ⟨h14,hm⟩|⟨h14,hm⟩
    ·refine c1 h14 (sq (dn [kI] (jf ?_)))
     cases hm;exact hM
    refine c0 h14 (jg (sq (dn [(2,aI (-1))] (jf ?_))))
    cases hm;exact hM
   refine c0 h13 (sq (dn [(3,aI a0),(11,aB (a0==8))] ?_))
   rcases zf hm with ⟨h15,hm⟩|⟨h15,hm⟩
   ·refine c1 h15 (jg ?_)
    rcases zf hm with ⟨h16,hm⟩|⟨h16,hm⟩
    ·refine c1 h16 (sq (dn [kI] (jf ?_)))
     cases hm;exact hM
    refine c0 h16 (jg (sq (dn [(2,aI (-1))] (jf ?_))))
    cases hm;exact hM
   refine c0 h15 (sq (dn [(3,aI a0),(11,aB (a0==9))] ?_))
   rcases zf hm with ⟨h17,hm⟩|⟨h17,hm⟩
   ·refine c1 h17 (jg ?_)
    rcases zf hm with ⟨h18,hm⟩|⟨h18,hm⟩
    ·refine c1 h18 (sq (dn [kI] (jf ?_)))
     cases hm;exact hM
    refine c0 h18 (jg (sq (dn [(2,aI (-1))] (jf ?_))))
    cases hm;exact hM
   refine c0 h17 (sq (dn [(3,aI a0),(11,aB (a0==10))] ?_))
   rcases zf hm with ⟨h19,hm⟩|⟨h19,hm⟩
   ·refine c1 h19 (jg ?_)
    rcases zf hm with ⟨h20,hm⟩|⟨h20,hm⟩
    ·refine c1 h20 (sq (dn [kI] (jf ?_)))
     cases hm;exact hM
    refine c0 h20 (jg (sq (dn [(2,aI (-1))] (jf ?_))))
    cases hm;exact hM
   refine c0 h19 (dn [(11,aB (a0==11))] ?_)
   rcases zf hm with ⟨h21,hm⟩|⟨h21,hm⟩
   ·refine c1 h21 (sq (dn [kI] (jf ?_)))
    cases hm;exact hM
   refine c0 h21 (jg (sq (dn [(2,aI (-1))] (jf ?_))))
   cases hm;exact hM
  refine sq (dn [(3,aI a0),(7,aB (a0==6))] ?_)
  rcases zf hm with ⟨h22,hm⟩|⟨h22,hm⟩
  ·refine c1 h22 (jg ?_)
   exact ⟨(a0==6),hm,rfl,rfl⟩
  refine c0 h22 (sq (dn [(3,aI a0),(7,aB (a0==12))] ?_))
  rcases zf hm with ⟨h23,hm⟩|⟨h23,hm⟩
  ·refine c1 h23 (jg ?_)
   exact ⟨(a0==12),hm,rfl,rfl⟩
  refine c0 h23 (dn [(3,aI a0),(7,aB (a0==13))] ?_)
  exact ⟨(a0==13),hm,rfl,rfl⟩
 refine sq (dn [(3,aI a0),(4,aB (a0==1))] ?_)
 rcases zf hm with ⟨h24,hm⟩|⟨h24,hm⟩
 ·refine c1 h24 (jg ?_)
  exact ⟨(a0==1),hm,rfl,rfl⟩
 refine c0 h24 (dn [(3,aI a0),(4,aB (a0==2))] ?_)
 exact ⟨(a0==2),hm,rfl,rfl⟩
theorem afm {n:Nat}{a0:Int}{r:Bool}(hm:aci n a0=some r):
  call G n 249 [aI a0] []=some (.ret (aB r),[]):=by
 unfold aci at hm
 obtain ⟨n,rfl,h0⟩:=zu hm
 replace hm:=h0;clear h0
 refine Z2 9 [(0,aI a0)] func249 rfl hJ (sq (dn [(0,aI a0)] (sq (rg (s1 3 [(5,aB (decide (a0≥0))),(4,aB (decide (a0≥0))),(3,aI a0)] ?_)))))
 refine segP (decide (a0≥0)) [5,4] (fun b=>[(8,aB (b&&(decide (a0≤31)))),(7,ifA b (aB (decide (a0≤31))) jb),(6,ifA b (aI a0) jb)]) 3 hJ hJ hJ (fq 1 [(2,aB ((decide (a0≥0))&&(decide (a0≤31))))] (jf ?_))
 cases hm;exact hM
theorem akD {n:Nat}{a0:Nat}{r:Bool}(hm:aef n a0=some r):
  call G n 250 [aF a0] []=some (.ret (aB r),[]):=by
 unfold aef at hm
 obtain ⟨n,rfl,h0⟩:=zu hm
 replace hm:=h0;clear h0
 refine Z2 7 [(0,aF a0)] func250 rfl hJ (sq (dn [(0,aF a0)] (sq (rg (s1 1 [(3,aF a0)] (s1 1 [(4,aU (a0:Int))] (fq 3 [(2,aB (decide ((IntKind.wrap .i64 (a0:Int))<0)))] (jf ?_))))))))
 cases hm;exact hM
abbrev zc5 (p0:zp):List AV:=[aI p0.A,aI p0.J,aF p0.O,aS p0.L]
theorem aeK {n:Nat}{a0:zp}{r:Bool}(hm:aaY n a0=some r):
   call G n 227 [.agg (zc5 a0)] []=some (.ret (aB r),[]):=by
 unfold aaY at hm
 obtain ⟨n,rfl,h0⟩:=zu hm
 replace hm:=h0;clear h0
 refine Z2 70 [(0,.agg (zc5 a0))] func227 rfl hJ (sq (det [jK] [.box (zc5 a0) false] hJ ?_))
 obtain ⟨k2,hk2,hm⟩:=zt hm
 refine mid (fun t H=>(∃ (y1:Bool),k2 y1=some r∧t=mk 70 [jK,(3,aB y1)]∧H=[.box (zc5 a0) false])) ?_ ?_
 ·rintro _ _ ⟨y1,hm,rfl,rfl⟩
  subst hk2
  refine sq (sq (dn [jK,(3,aB y1),(14,aI a0.A)] (bq ?_)))
  refine sq (bq ?_)
  refine sq (bq ?_)
  obtain ⟨k6,hk6,hm⟩:=zt hm
  refine mid (fun t H=>(∃ (w3:AV) (w4:AV) (w5:AV),k6 ()=some r∧t=mk 70 [jK,(3,aB y1),(14,w3),(19,w4),(43,w5)]∧H=[.box (zc5 a0) false])) ?_ ?_
  ·rintro _ _ ⟨w3,w4,w5,hm,rfl,rfl⟩
   subst hk6
   refine sq (sq (rg (s1 2 [(45,aB y1),(44,aB y1)] ?_)))
   refine segP y1 [45,44,3] (fun b=>[(49,aB (b&&(sEq a0.L ByteArray.empty))),(48,ifA b (aB (sEq a0.L ByteArray.empty)) jb),(47,ifA b (aS a0.L) jb),(46,ifA b (.ptr 0 3) jb)]) 4 hJ hJ hJ (fq 1 [(2,aB (y1&&(sEq a0.L ByteArray.empty)))] (jf ?_))
   cases hm;exact hM
  refine bq ?_
  refine sq (bq ?_)
  refine sq (bq (sq ?_))
  refine sq (sq (dn [jK,(3,aB y1),(14,aI a0.A),(15,aB (a0.A==0))] ?_))
  rcases zf hm with ⟨h7,hm⟩|⟨h7,hm⟩
  ·refine c1 h7 (jh (sq (sq (rg (s1 4 [(28,aB (a0.J==0)),(27,aB (a0.J==0)),(26,aI a0.J),(25,.ptr 0 1)] ?_)))))
   refine segP (a0.J==0) [28,27] (fun b=>[(30,aB (b&&y1)),(29,ifA b (aB y1) jb)]) 2 hJ hJ hJ (s1 1 [(31,aB ((a0.J==0)&&y1))] ?_)
   refine segP ((a0.J==0)&&y1) [31,30] (fun b=>[(35,aB (b&&(sEq a0.L ByteArray.empty))),(34,ifA b (aB (sEq a0.L ByteArray.empty)) jb),(33,ifA b (aS a0.L) jb),(32,ifA b (.ptr 0 3) jb)]) 4 hJ hJ hJ (fq 1 [(2,aB (((a0.J==0)&&y1)&&(sEq a0.L ByteArray.empty)))] (jf ?_))
   cases hm;exact hM
  refine c0 h7 (jg (sq (sq (dn [jK,(3,aB y1),(14,aI a0.A),(17,aB (a0.A==1))] ?_))))
  rcases zf hm with ⟨h8,hm⟩|⟨h8,hm⟩
  ·refine c1 h8 (jh (sq (rg (s1 4 [(39,aB (a0.J !=0)),(38,aB (a0.J !=0)),(37,aI a0.J),(36,.ptr 0 1)] ?_))))
   refine segP (a0.J !=0) [39,38] (fun b=>[(43,aB (b&&(a0.J !=1))),(42,ifA b (aB (a0.J !=1)) jb),(41,ifA b (aI a0.J) jb),(40,ifA b (.ptr 0 1) jb)]) 4 hJ hJ hJ (fin [jK,(3,aB y1),(43,aB ((a0.J !=0)&&(a0.J !=1)))] rfl hJ ?_)
   rcases zf hm with ⟨h9,hm⟩|⟨h9,hm⟩
   ·refine c1 h9 (sq (dn [kM] (jf ?_)))
    cases hm;exact hM
   refine c0 h9 (jg ?_)
   exact ⟨.any,.any,aB ((a0.J !=0)&&(a0.J !=1)),hm,(zH hJ),rfl⟩
  refine c0 h8 (jg (sq (sq (dn [jK,(3,aB y1),(14,aI a0.A),(19,aB (a0.A==2))] ?_))))
  rcases zf hm with ⟨h10,hm⟩|⟨h10,hm⟩
  ·refine c1 h10 (jh ?_)
   exact ⟨aI a0.A,aB (a0.A==2),.any,hm,(zH hJ),rfl⟩
  refine c0 h10 (jg (sq (sq (dn [jK,(3,aB y1),(14,aI a0.A),(21,aB (a0.A==3))] ?_))))
  rcases zf hm with ⟨h11,hm⟩|⟨h11,hm⟩
  ·refine c1 h11 (jh (sq (sq (rg (s1 4 [(53,aB (a0.J==0)),(52,aB (a0.J==0)),(51,aI a0.J),(50,.ptr 0 1)] ?_)))))
   refine segP (a0.J==0) [53,52] (fun b=>[(57,aB (b&&(sEq a0.L ByteArray.empty))),(56,ifA b (aB (sEq a0.L ByteArray.empty)) jb),(55,ifA b (aS a0.L) jb),(54,ifA b (.ptr 0 3) jb)]) 4 hJ hJ hJ (fq 1 [(2,aB ((a0.J==0)&&(sEq a0.L ByteArray.empty)))] (jf ?_))
   cases hm;exact hM
  refine c0 h11 (jg (sq (dn [jK,(3,aB y1),(23,aB (a0.A==4))] ?_)))
  rcases zf hm with ⟨h12,hm⟩|⟨h12,hm⟩
  ·refine c1 h12 (jh (sq (sq (rg (s1 4 [(61,aB (a0.J==0)),(60,aB (a0.J==0)),(59,aI a0.J),(58,.ptr 0 1)] ?_)))))
   refine segP (a0.J==0) [61,60] (fun b=>[(63,aB (b&&y1)),(62,ifA b (aB y1) jb)]) 2 hJ hJ hJ (s1 1 [(64,aB ((a0.J==0)&&y1))] ?_)
   refine segP ((a0.J==0)&&y1) [64,63] (fun b=>[(69,aB (b&&(decide ((a0.L.size:Int)≤64)))),(68,ifA b (aB (decide ((a0.L.size:Int)≤64))) jb),(67,ifA b (aI (a0.L.size:Int)) jb),(66,ifA b (aS a0.L) jb),(65,ifA b (.ptr 0 3) jb)]) 5 hJ hJ hJ (fq 1 [(2,aB (((a0.J==0)&&y1)&&(decide ((a0.L.size:Int)≤64))))] (jf ?_))
   cases hm;exact hM
  refine c0 h12 (jg (jh (sq (dn [kM] (jf ?_)))))
  cases hm;exact hM
 refine rg (s1 4 [(7,aB ((FloatKind.format .f64).order a0.O 0==some .eq)),(6,aB ((FloatKind.format .f64).order a0.O 0==some .eq)),(5,aF a0.O),(4,.ptr 0 2)] ?_)
 rcases zf hm with ⟨h13,hm⟩|⟨h13,hm⟩
 ·refine known [7,6] h13 hJ (s1 2 [(9,aF a0.O),(8,.ptr 0 2)] ?_)
  obtain ⟨x14,h15,hm⟩:=bs hm
  refine dv 10 (zR hJ (akD h15) hJ hJ hJ) hJ (fq 3 [jK,(3,aB (!x14))] ?_)
  exact ⟨(!x14),hm,rfl,rfl⟩
 refine known [7,6] h13 hJ (fq 6 [jK,(3,aB false)] ?_)
 exact ⟨false,hm,rfl,rfl⟩
abbrev zc6 (p0:zk):List AV:=[aI p0.A,aI p0.K,aI p0.M,aI p0.D.A,aI p0.D.J,aF p0.D.O,aS p0.D.L,.pv (zg za p0.I)]
abbrev zc7 (p0:zk):List AV:=[aI p0.D.A,aI p0.D.J,aF p0.D.O,aS p0.D.L]
theorem ak4 {n:Nat}{a0:zk}{r:Bool}(hm:adB n a0=some r):
   call G n 226 [.agg (zc6 a0)] []=some (.ret (aB r),[]):=by
 unfold adB at hm
 obtain ⟨n,rfl,h0⟩:=zu hm
 replace hm:=h0;clear h0
 refine Z2 45 [(0,.agg (zc6 a0))] func226 rfl hJ (sq (det [jK] [.box (zc6 a0) false] hJ (sq (dn [jK,(3,.pv (.fn 249 [] []))] ?_))))
 refine sq (sq (rg (s1 4 [(7,aB (a0.A !=1)),(6,aB (a0.A !=1)),(5,aI a0.A),(4,.ptr 0 0)] ?_)))
 refine seg (a0.A !=1) [7,6] (fun b=>[(16,aB (b&&((a0.K !=0)||(a0.M !=0)))),(15,ifA b (aB ((a0.K !=0)||(a0.M !=0))) jb),(14,ifA b (ifA (a0.K !=0) jb (aB (a0.M !=0))) jb),(13,ifA b (ifA (a0.K !=0) jb (aI a0.M)) jb),(12,ifA b (ifA (a0.K !=0) jb (.ptr 0 2)) jb),(11,ifA b (aB (a0.K !=0)) jb),(10,ifA b (aB (a0.K !=0)) jb),(9,ifA b (aI a0.K) jb),(8,ifA b (.ptr 0 1) jb)]) 13 hJ ?_ ?_ ?_
 ·intro Q h
  refine s1 4 [(11,aB (a0.K !=0)),(10,aB (a0.K !=0)),(9,aI a0.K),(8,.ptr 0 1)] ?_
  refine segP (a0.K !=0) [11,10] (fun b=>[(15,aB (b||(a0.M !=0))),(14,ifA b jb (aB (a0.M !=0))),(13,ifA b jb (aI a0.M)),(12,ifA b jb (.ptr 0 2))]) 4 hJ hJ hJ (s1 1 [(16,aB ((a0.K !=0)||(a0.M !=0)))] ?_)
  exact QZ hJ hJ h
 ·intro Q h
  refine s1 9 [(16,aB false),(15,.undef),(14,.undef),(13,.undef),(12,.undef),(11,.undef),(10,.undef),(9,.undef),(8,.undef)] ?_
  exact QZ hJ hJ h
 refine s1 1 [(17,aB ((a0.A !=1)&&((a0.K !=0)||(a0.M !=0))))] ?_
 rcases zf hm with ⟨h1,hm⟩|⟨h1,hm⟩
 ·refine known [17,16] h1 hJ (fq 13 [jK,(30,aB true)] (cT hJ (sq (dn [kM] (jf ?_)))))
  cases hm;exact hM
 refine known [17,16] h1 hJ (s1 3 [(20,aI a0.K),(19,.ptr 0 1),(18,.pv (.fn 249 [] []))] ?_)
 obtain ⟨x2,h3,hm⟩:=bs hm
 refine dv 21 (zR hJ (afm h3) hJ hJ hJ) hJ (s1 3 [(24,aB (!x2)),(23,aB (!x2)),(22,aB (!x2))] ?_)
 rcases zf hm with ⟨h4,hm⟩|⟨h4,hm⟩
 ·refine known [24,23,22] h4 hJ (fq 6 [jK,(30,aB true)] (cT hJ (sq (dn [kM] (jf ?_)))))
  cases hm;exact hM
 refine known [24,23,22] h4 hJ (s1 3 [(27,aI a0.M),(26,.ptr 0 2),(25,.pv (.fn 249 [] []))] ?_)
 obtain ⟨x5,h6,hm⟩:=bs hm
 refine dv 28 (zR hJ (afm h6) hJ hJ hJ) hJ (fq 2 [jK,(30,aB (!x5))] ?_)
 rcases zf hm with ⟨h7,hm⟩|⟨h7,hm⟩
 ·refine c1 h7 (sq (dn [kM] (jf ?_)))
  cases hm;exact hM
 refine c0 h7 (jg (sq (rg (s1 2 [(32,.agg (zc7 a0)),(31,.ptr 0 3)] ?_))))
 obtain ⟨x8,h9,hm⟩:=bs hm
 refine dv 33 (zR hJ (aeK h9) hJ hJ hJ) hJ (s1 1 [(34,aB x8)] ?_)
 refine seg x8 [34,33] (fun b=>[(44,aB (b&&((a0.A==2)||(a0.D.A==0)))),(43,ifA b (aB ((a0.A==2)||(a0.D.A==0))) jb),(42,ifA b (ifA (a0.A==2) jb (aB (a0.D.A==0))) jb),(41,ifA b (ifA (a0.A==2) jb (aI a0.D.A)) jb),(40,ifA b (ifA (a0.A==2) jb (.ptr 0 3)) jb),(39,ifA b (ifA (a0.A==2) jb (.ptr 0 3)) jb),(38,ifA b (aB (a0.A==2)) jb),(37,ifA b (aB (a0.A==2)) jb),(36,ifA b (aI a0.A) jb),(35,ifA b (.ptr 0 0) jb)]) 14 hJ ?_ ?_ ?_
 ·intro Q h
  refine s1 4 [(38,aB (a0.A==2)),(37,aB (a0.A==2)),(36,aI a0.A),(35,.ptr 0 0)] ?_
  refine segP (a0.A==2) [38,37] (fun b=>[(43,aB (b||(a0.D.A==0))),(42,ifA b jb (aB (a0.D.A==0))),(41,ifA b jb (aI a0.D.A)),(40,ifA b jb (.ptr 0 3)),(39,ifA b jb (.ptr 0 3))]) 5 hJ hJ hJ (s1 1 [(44,aB ((a0.A==2)||(a0.D.A==0)))] ?_)
  exact QZ hJ hJ h
 ·intro Q h
  refine s1 10 [(44,aB false),(43,.undef),(42,.undef),(41,.undef),(40,.undef),(39,.undef),(38,.undef),(37,.undef),(36,.undef),(35,.undef)] ?_
  exact QZ hJ hJ h
 refine fq 1 [(2,aB (x8&&((a0.A==2)||(a0.D.A==0))))] (jf ?_)
 cases hm;exact hM
abbrev zc8 (p0:zc):List AV:=[aI ((zh p0).A),aI ((zh p0).K),aI ((zh p0).M),aI (((zh p0).D).A),aI (((zh p0).D).J),aF (((zh p0).D).O),aS (((zh p0).D).L),.pv (zg za ((zh p0).I))]
abbrev ahT (p0:zk):Nat×AV:=(32,.pv (zg za p0.I))
abbrev aiW (p0:zk):Nat×AV:=(33,aI ((sll p0.I).length:Int))
abbrev aiw (p0:Int) (p1:zk):=(decide (p0<((sll p1.I).length:Int)))
theorem ak1 {rc_expr_count:(Nat→zk→Int→Int→Option (Int))}(ih_expr_count:∀ {n:Nat}{a0:zk}{a1:Int}{a2:Int}{r:Int}(hm:rc_expr_count n a0 a1 a2=some r),call G n 182 [.agg [aI a0.A,aI a0.K,aI a0.M,aI a0.D.A,aI a0.D.J,aF a0.D.O,aS a0.D.L,.pv (zg za a0.I)],aI a1,aI a2] []=some (.ret (aI r),[])) {n:Nat}{a0:zk}{a1:Int}{a2:Int}{r:Int}(hm:aa6 rc_expr_count n a0 a1 a2=some r):
   call G n 182 [.agg (zc6 a0),aI a1,aI a2] []=some (.ret (aI r),[]):=by
 unfold aa6 at hm
 obtain ⟨n,rfl,h0⟩:=zu hm
 replace hm:=h0;clear h0
 refine Z2 47 [(0,.agg (zc6 a0)),(1,aI a1),(2,aI a2)] func182 rfl hJ (sq (det [(1,aI a1),(2,aI a2),jL] [.box (zc6 a0) false] hJ ?_))
 refine sq (sq (rgd (shd 3 [(11,aB (decide (a1>24))),(10,aB (decide (a1>24))),(9,aI a1)] hJ ?_)))
 rcases zf hm with ⟨h1,hm⟩|⟨h1,hm⟩
 ·refine afa [11,10] h1 hJ (shd 17 [kQ,(27,.undef),(26,.undef),(25,.undef),(24,aB true),(23,aB true),(22,.undef),(21,.undef),(20,.undef),(19,.undef),(18,.undef),(17,.undef),(16,.undef),(15,aB true),(14,aB true),(13,.undef),(12,.undef)] hJ (find [(1,aI a1),(2,aI a2),jL,kQ] rfl hJ hJ (cT hJ (sq (dn [(6,aI (-1))] (jf ?_))))))
  cases hm;exact hM
 refine afa [11,10] h1 hJ (shd 4 [(15,aB (decide (a2<1))),(14,aB (decide (a2<1))),(13,aB (decide (a2<1))),(12,aI a2)] hJ ?_)
 rcases zf hm with ⟨h2,hm⟩|⟨h2,hm⟩
 ·refine afa [15,14,13] h2 hJ (shd 13 [kQ,(27,.undef),(26,.undef),(25,.undef),(24,aB true),(23,aB true),(22,.undef),(21,.undef),(20,.undef),(19,.undef),(18,.undef),(17,.undef),(16,.undef)] hJ (find [(1,aI a1),(2,aI a2),jL,kQ] rfl hJ hJ (cT hJ (sq (dn [(6,aI (-1))] (jf ?_))))))
  cases hm;exact hM
 refine afa [15,14,13] h2 hJ (shd 2 [(17,aI a0.A),(16,.ptr 0 0)] hJ ?_)
 obtain ⟨x3,h4,hm⟩:=bs hm
 refine dvd 18 (zR hJ (ajm h4) hJ hJ hJ) hJ (shd 2 [(20,.pv (zg za a0.I)),(19,.ptr 0 7)] hJ (dvd 21 (v:=aI ((sll a0.I).length:Int)) (zP za a0.I t23 hJ) hJ (shd 3 [(24,aB (x3 !=((sll a0.I).length:Int))),(23,aB (x3 !=((sll a0.I).length:Int))),(22,aB (x3 !=((sll a0.I).length:Int)))] hJ ?_)))
 rcases zf hm with ⟨h5,hm⟩|⟨h5,hm⟩
 ·refine afa [24,23,22] h5 hJ (shd 4 [kQ,(27,.undef),(26,.undef),(25,.undef)] hJ (find [(1,aI a1),(2,aI a2),jL,kQ] rfl hJ hJ (cT hJ (sq (dn [(6,aI (-1))] (jf ?_))))))
  cases hm;exact hM
 refine afa [24,23,22] h5 hJ (shd 1 [(25,.agg (zc6 a0))] hJ ?_)
 obtain ⟨x6,h7,hm⟩:=bs hm
 refine dvd 26 (zR hJ (ak4 h7) hJ hJ hJ) hJ (shd 2 [(28,aB (!x6)),(27,aB (!x6))] hJ (find [(1,aI a1),(2,aI a2),jL,(28,aB (!x6))] rfl hJ hJ ?_))
 rcases zf hm with ⟨h8,hm⟩|⟨h8,hm⟩
 ·refine c1 h8 (sq (dn [(6,aI (-1))] (jf ?_)))
  cases hm;exact hM
 refine c0 h8 (jg (sq (dn [(1,aI a1),(2,aI (IntKind.wrap .i64 (a2-1))),jL] ?_)))
 obtain ⟨k12,hk12,hm⟩:=zt hm
 refine mid (fun t H=>(∃ (y9:Int) (y10:Int) (y11:Bool),k12 y9=some r∧t=mk 47 [(1,aI a1),(2,aI y9),(ahT a0),(aiW a0),(34,aI y10),(35,aB y11)]∧H=[.box (zc6 a0) false])) ?_ ?_
 ·rintro _ _ ⟨y9,y10,y11,hm,rfl,rfl⟩
  subst hk12
  refine sq (dn [(6,aI y9)] (jf ?_))
  cases hm;exact hM
 refine sq (rg (s1 2 [(ahT a0),(31,.ptr 0 7)] (dv 33 (v:=aI ((sll a0.I).length:Int)) (zP za a0.I t23 hJ) hJ (fq 1 [(1,aI a1),(2,aI (IntKind.wrap .i64 (a2-1))),(ahT a0),(aiW a0),(34,aI 0)] (bq ?_)))))
 refine qB (fun mm t H=>(∃ (y15:Int) (y16:Int),abn n rc_expr_count a0 a1 k12 mm y15 y16=some r∧t=mk 47 [(1,aI a1),(2,aI y15),(ahT a0),(aiW a0),(34,aI y16)]∧H=[.box (zc6 a0) false])) (⟨(IntKind.wrap .i64 (a2-1)),0,hm,rfl,rfl⟩) ?_ ?_
 ·
   rintro _ _ ⟨y15,y16,hm,_⟩;exact nomatch hm
 rintro m17 _ _ ⟨y15,y16,hm,rfl,rfl⟩
 simp only [abn] at hm
 refine sq (dn [(1,aI a1),(2,aI y15),(ahT a0),(aiW a0),(34,aI y16),(35,aB (aiw y16 a0))] ?_)
 refine sq ?_
 rcases zf hm with ⟨h18,hm⟩|⟨h18,hm⟩
 ·refine c1 h18 (jg (sq (bq (sq (rg ?_)))))
  obtain ⟨x19,h20,hm⟩:=bs hm
  refine dv 36 (v:=.pv (.ptr (abe x19) 0)) (aaA za a0.I .i64 t23 t49 h20 (zU x19) rfl hJ) hJ (stf 3 [(1,aI a1),(2,aI y15),j5,(ahT a0),(aiW a0),(34,aI y16)] [.box (zc6 a0) false,.box (zc8 x19) false] hJ (sq (rg (s1 4 [(41,aI y15),(40,aI (Zk a1)),(39,aI a1),(38,.agg (zc8 x19))] ?_))))
  obtain ⟨x21,h22,hm⟩:=bs hm
  refine dv 42 (zR hJ (ih_expr_count h22) hJ hJ hJ) hJ (fq 1 [(1,aI a1),(2,aI x21),(ahT a0),(aiW a0),(34,aI y16)] (sq (dn [(1,aI a1),(2,aI x21),(ahT a0),(aiW a0),(34,aI y16),(44,aB (decide (x21<0)))] ?_)))
  rcases zf hm with ⟨h23,hm⟩|⟨h23,hm⟩
  ·refine c1 h23 (sq (dn [(6,aI (-1))] (jf ?_)))
   cases hm;exact hM
  refine c0 h23 (jg (dn [(1,aI a1),(2,aI x21),(ahT a0),(aiW a0),(34,aI (Zk y16))] ?_))
  exact ⟨_,_,ZD [(1,aI a1),(2,aI x21),(ahT a0),(aiW a0),(34,aI (Zk y16))] [.box (zc6 a0) false] hJ,⟨x21,(Zk y16),hm,rfl,rfl⟩⟩
 refine c0 h18 (jh ?_)
 exact ⟨y15,y16,(aiw y16 a0),hm,rfl,rfl⟩
theorem agZ:∀ (m:Nat),∀ {n:Nat}{a0:zk}{a1:Int}{a2:Int}{r:Int}(hm:Qv m n a0 a1 a2=some r),call G n 182 [.agg (zc6 a0),aI a1,aI a2] []=some (.ret (aI r),[])
 |0=>by intros;rename_i hm;exact nomatch hm
 |m+1=>fun hm=>
  ak1 (agZ m) hm
theorem amJ {n:Nat}{a0:zk}{a1:Int}{a2:Int}{r:Int}(hm:ain n a0 a1 a2=some r):
 call G n 182 [.agg (zc6 a0),aI a1,aI a2] []=some (.ret (aI r),[]):=agZ n hm
theorem alR {n:Nat}{a0:zk}{r:Bool}(hm:adM n a0=some r):
  call G n 143 [.agg (zc6 a0)] []=some (.ret (aB r),[]):=by
 unfold adM at hm
 obtain ⟨n,rfl,h0⟩:=zu hm
 replace hm:=h0;clear h0
 refine Z2 6 [(0,.agg (zc6 a0))] func143 rfl hJ (sq (det [jK] [.box (zc6 a0) false] hJ (sq (rg (s1 1 [(3,.agg (zc6 a0))] ?_)))))
 obtain ⟨x1,h2,hm⟩:=bs hm
 refine dv 4 (zR hJ (amJ h2) hJ hJ hJ) hJ (fq 2 [(2,aB (decide (x1≥0)))] (jf ?_))
 cases hm;exact hM
theorem aaL {n:Nat}{a0:zk}{a1:jv}{r:Int ⊕ (Int)}(hm:abE n a0 a1=some r):
   call G n 184 [.agg (zc6 a0),.pv (zz a1)] []=some (PO 34 (fun (r:Int)=>aI r) r,[]):=by
 unfold abE at hm
 obtain ⟨n,rfl,h0⟩:=zu hm
 replace hm:=h0;clear h0
 refine ama 34 [(0,.agg (zc6 a0)),(zp81 a1)] func184 rfl hJ (sq (det [(zp81 a1),jJ] [.box (zc6 a0) false] hJ ?_))
 refine sq (sq (rgd (shd 3 [(7,.pv (zz a1)),(6,aI a0.K),(5,.ptr 0 1)] hJ (dvd 8 (v:=aI ((sll a1).length:Int)) (zP zA a1 t28 hJ) hJ (shd 2 [(10,aB (decide (a0.K≥((sll a1).length:Int)))),(9,aB (decide (a0.K≥((sll a1).length:Int))))] hJ ?_)))))
 rcases zf hm with ⟨h1,hm⟩|⟨h1,hm⟩
 ·refine afa [10,9] h1 hJ (shd 11 [(21,aB true),(20,.undef),(19,.undef),(18,.undef),(17,.undef),(16,.undef),(15,.undef),(14,.undef),(13,.undef),(12,.undef),(11,.undef)] hJ (find [(zp81 a1),jJ,(21,aB true)] rfl hJ hJ (cT hJ (rg (s1 1 [(22,.pv (.ifc 34 (.int .i64 40)))] ?_)))))
  obtain rfl:=ji hm
  exact rp0 (v:=.pv (.ifc 34 (.int .i64 40))) hJ hJ (fun _=>hM)
 refine afa [10,9] h1 hJ (shd 5 [(15,aI a0.K),(14,.ptr 0 1),(13,.pv (zz a1)),(12,aI a0.M),(11,.ptr 0 2)] hJ ?_)
 obtain ⟨x2,h3,hm⟩:=bs hm
 refine dvd 16 (v:=.pv (.ptr (zA x2) 0)) (qo zA a1 .i64 t28 t84 h3 rfl hJ) hJ (shd 2 [(18,.pv (zg zX x2.Q)),(17,.pv (.ptr (zA x2) 1))] hJ (dvd 19 (v:=aI ((sll x2.Q).length:Int)) (zP zX x2.Q t82 hJ) hJ (shd 2 [(21,aB (decide (a0.M≥((sll x2.Q).length:Int)))),(20,aB (decide (a0.M≥((sll x2.Q).length:Int))))] hJ (find [(zp81 a1),jJ,(21,aB (decide (a0.M≥((sll x2.Q).length:Int))))] rfl hJ hJ ?_))))
 rcases zf hm with ⟨h4,hm⟩|⟨h4,hm⟩
 ·refine c1 h4 (rg (s1 1 [(22,.pv (.ifc 34 (.int .i64 40)))] ?_))
  obtain rfl:=ji hm
  exact rp0 (v:=.pv (.ifc 34 (.int .i64 40))) hJ hJ (fun _=>hM)
 refine c0 h4 (jg (sq (rgd (shd 3 [(25,aI a0.K),(24,.ptr 0 1),(23,.pv (zz a1))] hJ (dvd 26 (v:=.pv (.ptr (zA x2) 0)) (qo zA a1 .i64 t28 t84 h3 rfl hJ) hJ (shd 4 [(30,aI a0.M),(29,.ptr 0 2),(28,.pv (zg zX x2.Q)),(27,.pv (.ptr (zA x2) 1))] hJ ?_))))))
 obtain ⟨x5,h6,hm⟩:=bs hm
 refine dvd 31 (v:=.pv (.ptr (zX x5) 0)) (qo zX x2.Q .i64 t82 t81 h6 rfl hJ) hJ (shd 3 [(4,aI x5.A),(33,aI x5.A),(32,.pv (.ptr (zX x5) 1))] hJ (find [(4,aI x5.A)] rfl hJ hJ (jf ?_)))
 cases hm;exact hM
abbrev aks (p0:zk):Nat×AV:=(13,.pv (zg za p0.I))
abbrev alZ (p0:zk):Nat×AV:=(14,aI ((sll p0.I).length:Int))
theorem amE {rc_expr_refs:(Nat→zk→jv→Option (Int ⊕ (Unit)))}(ih_expr_refs:∀ {n:Nat}{a0:zk}{a1:jv}{r:Int ⊕ (Unit)}(hm:rc_expr_refs n a0 a1=some r),call G n 146 [.agg [aI a0.A,aI a0.K,aI a0.M,aI a0.D.A,aI a0.D.J,aF a0.D.O,aS a0.D.L,.pv (zg za a0.I)],.pv (zg zA a1)] []=some (PO 34 (fun (r:Unit)=>.tup []) r,[])) {n:Nat}{a0:zk}{a1:jv}{r:Int ⊕ (Unit)}(hm:adI rc_expr_refs n a0 a1=some r):
   call G n 146 [.agg (zc6 a0),.pv (zz a1)] []=some (PO 34 (fun (r:Unit)=>.tup []) r,[]):=by
 unfold adI at hm
 obtain ⟨n,rfl,h0⟩:=zu hm
 replace hm:=h0;clear h0
 refine ama 23 [(0,.agg (zc6 a0)),(zp81 a1)] func146 rfl hJ (sq (det [(zp81 a1),jJ] [.box (zc6 a0) false] hJ ?_))
 obtain ⟨k2,hk2,hm⟩:=zt hm
 refine mid (fun t H=>(∃ (w1:AV),k2 ()=some r∧t=mk 23 [(zp81 a1),jJ,(8,w1)]∧H=[.box (zc6 a0) false])) ?_ ?_
 ·rintro _ _ ⟨w1,hm,rfl,rfl⟩
  subst hk2
  refine sq (rg (s1 2 [(aks a0),(12,.ptr 0 7)] (dv 14 (v:=aI ((sll a0.I).length:Int)) (zP za a0.I t23 hJ) hJ (fq 1 [(zp81 a1),(aks a0),(alZ a0),(15,aI 0)] (bq ?_)))))
  refine qB (fun mm t H=>(∃ (y4:Int),aap n rc_expr_refs a0 a1 mm y4=some r∧t=mk 23 [(zp81 a1),(aks a0),(alZ a0),(15,aI y4)]∧H=[.box (zc6 a0) false])) (⟨0,hm,rfl,rfl⟩) ?_ ?_
  ·
    rintro _ _ ⟨y4,hm,_⟩;exact nomatch hm
  rintro m5 _ _ ⟨y4,hm,rfl,rfl⟩
  simp only [aap] at hm
  refine sq (dn [(zp81 a1),(aks a0),(alZ a0),(15,aI y4),(16,aB (aiw y4 a0))] ?_)
  refine sq ?_
  rcases zf hm with ⟨h6,hm⟩|⟨h6,hm⟩
  ·refine c1 h6 (jg (sq (bq (sq (rg ?_)))))
   obtain ⟨x7,h8,hm⟩:=bs hm
   refine dv 17 (v:=.pv (.ptr (abe x7) 0)) (aaA za a0.I .i64 t23 t49 h8 (zU x7) rfl hJ) hJ (stf 3 [(zp81 a1),(5,.ptr 1 0),(aks a0),(alZ a0),(15,aI y4)] [.box (zc6 a0) false,.box (zc8 x7) false] hJ (rg (s1 2 [(20,.pv (zz a1)),(19,.agg (zc8 x7))] ?_)))
   obtain ⟨x9,h10,hm⟩:=bs hm
   rcases x9 with x11|x9
   ·obtain rfl:=ji hm
    exact rp0 (v:=.pv (.ifc 34 (.int .i64 x11))) (cpan hJ (ih_expr_refs h10) hJ hJ hJ) hJ (fun _=>hM)
   refine dv 21 (zR hJ (ih_expr_refs h10) hJ hJ hJ) hJ (fin [(zp81 a1),(aks a0),(alZ a0),(15,aI y4)] rfl hJ (dn [(zp81 a1),(aks a0),(alZ a0),(15,aI (Zk y4))] ?_))
   exact ⟨_,_,ZD [(zp81 a1),(aks a0),(alZ a0),(15,aI (Zk y4))] [.box (zc6 a0) false] hJ,⟨(Zk y4),hm,rfl,rfl⟩⟩
  refine c0 h6 (jh ?_)
  cases hm;exact hM
 refine sq (dn [(zp81 a1),jJ,(8,aB (a0.A==1))] ?_)
 rcases zf hm with ⟨h12,hm⟩|⟨h12,hm⟩
 ·refine c1 h12 (rg (s1 2 [(10,.pv (zz a1)),(9,.agg (zc6 a0))] ?_))
  obtain ⟨x13,h14,hm⟩:=bs hm
  rcases x13 with x15|x13
  ·obtain rfl:=ji hm
   exact rp0 (v:=.pv (.ifc 34 (.int .i64 x15))) (cpan hJ (aaL h14) hJ hJ hJ) hJ (fun _=>hM)
  refine dv 11 (zR hJ (aaL h14) hJ hJ hJ) hJ (fin [(zp81 a1),jJ] rfl hJ ?_)
  exact ⟨.any,hm,(zH hJ),rfl⟩
 refine c0 h12 (jg ?_)
 exact ⟨aB (a0.A==1),hm,(zH hJ),rfl⟩
theorem ahW:∀ (m:Nat),∀ {n:Nat}{a0:zk}{a1:jv}{r:Int ⊕ (Unit)}(hm:aa1 m n a0 a1=some r),call G n 146 [.agg (zc6 a0),.pv (zg zA a1)] []=some (PO 34 (fun (r:Unit)=>.tup []) r,[])
 |0=>by intros;rename_i hm;exact nomatch hm
 |m+1=>fun hm=>
  amE (ahW m) hm
theorem aiJ {n:Nat}{a0:zk}{a1:jv}{r:Int ⊕ (Unit)}(hm:ajL n a0 a1=some r):
 call G n 146 [.agg (zc6 a0),.pv (zz a1)] []=some (PO 34 (fun (r:Unit)=>.tup []) r,[]):=ahW n hm
theorem agb {n:Nat}{a0:Int}{r:Bool}(hm:adb n a0=some r):
  call G n 186 [aI a0] []=some (.ret (aB r),[]):=by
 unfold adb at hm
 obtain ⟨n,rfl,h0⟩:=zu hm
 replace hm:=h0;clear h0
 refine Z2 13 [(0,aI a0)] func186 rfl hJ (sq (dn [(0,aI a0)] (sq (rg (s1 3 [(5,aB (a0==0)),(4,aB (a0==0)),(3,aI a0)] ?_)))))
 refine segP (a0==0) [5,4] (fun b=>[(8,aB (b||(a0==2))),(7,ifA b jb (aB (a0==2))),(6,ifA b jb (aI a0))]) 3 hJ hJ hJ (s1 1 [(9,aB ((a0==0)||(a0==2)))] ?_)
 refine segP ((a0==0)||(a0==2)) [9,8] (fun b=>[(12,aB (b||(a0==3))),(11,ifA b jb (aB (a0==3))),(10,ifA b jb (aI a0))]) 3 hJ hJ hJ (fq 1 [(2,aB (((a0==0)||(a0==2))||(a0==3)))] (jf ?_))
 cases hm;exact hM
abbrev am6:Nat×AV:=(30,.pv (.ifc 34 (.int .i64 50)))
abbrev am8 (p0:Int) (p1:Int):=(((p0 !=0)&&(p1 !=0))&&(p0 !=p1))
theorem Qw {n:Nat}{a0:Int}{a1:Int}{r:Int ⊕ (Int)}(hm:qH n a0 a1=some r):
   call G n 185 [aI a0,aI a1,.pv (.fn 186 [] [])] []=some (PO 34 (fun (r:Int)=>aI r) r,[]):=by
 unfold qH at hm
 obtain ⟨n,rfl,h0⟩:=zu hm
 replace hm:=h0;clear h0
 refine ama 34 [(0,aI a0),(1,aI a1),(2,.pv (.fn 186 [] []))] func185 rfl hJ (sq (dn [(0,aI a0),(1,aI a1),(2,.pv (.fn 186 [] []))] (sq (sq (rg (s1 2 [(8,aI a0),(7,.pv (.fn 186 [] []))] ?_))))))
 obtain ⟨x1,h2,hm⟩:=bs hm
 refine dv 9 (zR hJ (agb h2) hJ hJ hJ) hJ (s1 2 [(11,aB (!x1)),(10,aB (!x1))] ?_)
 rcases zf hm with ⟨h3,hm⟩|⟨h3,hm⟩
 ·refine known [11,10] h3 hJ (fq 18 [(0,aI a0),(1,aI a1),kR] (cT hJ (rg (s1 1 [am6] ?_))))
  obtain rfl:=ji hm
  exact rp0 (v:=.pv (.ifc 34 (.int .i64 50))) hJ hJ (fun _=>hM)
 refine known [11,10] h3 hJ (s1 2 [(13,aI a1),(12,.pv (.fn 186 [] []))] ?_)
 obtain ⟨x4,h5,hm⟩:=bs hm
 refine dv 14 (zR hJ (agb h5) hJ hJ hJ) hJ (s1 3 [(17,aB (!x4)),(16,aB (!x4)),(15,aB (!x4))] ?_)
 refine seg (!x4) [17,16,15] (fun b=>[(29,aB (b||(am8 a0 a1))),(28,ifA b jb (aB (((a0 !=0)&&(a1 !=0))&&(a0 !=a1)))),(27,ifA b jb (ifA ((a0 !=0)&&(a1 !=0)) (aB (a0 !=a1)) jb)),(26,ifA b jb (ifA ((a0 !=0)&&(a1 !=0)) (aI a1) jb)),(25,ifA b jb (ifA ((a0 !=0)&&(a1 !=0)) (aI a0) jb)),(24,ifA b jb (aB ((a0 !=0)&&(a1 !=0)))),(23,ifA b jb (aB ((a0 !=0)&&(a1 !=0)))),(22,ifA b jb (ifA (a0 !=0) (aB (a1 !=0)) jb)),(21,ifA b jb (ifA (a0 !=0) (aI a1) jb)),(20,ifA b jb (aB (a0 !=0))),(19,ifA b jb (aB (a0 !=0))),(18,ifA b jb (aI a0))]) 23 hJ ?_ ?_ ?_
 ·intro Q h
  refine s1 12 [kR,(28,.undef),(27,.undef),(26,.undef),(25,.undef),(24,.undef),(23,.undef),(22,.undef),(21,.undef),(20,.undef),(19,.undef),(18,.undef)] ?_
  exact QZ hJ hJ h
 ·intro Q h
  refine s1 3 [(20,aB (a0 !=0)),(19,aB (a0 !=0)),(18,aI a0)] ?_
  refine segP (a0 !=0) [20,19] (fun b=>[(23,aB (b&&(a1 !=0))),(22,ifA b (aB (a1 !=0)) jb),(21,ifA b (aI a1) jb)]) 3 hJ hJ hJ (s1 1 [(24,aB ((a0 !=0)&&(a1 !=0)))] ?_)
  refine segP ((a0 !=0)&&(a1 !=0)) [24,23] (fun b=>[(28,aB (b&&(a0 !=a1))),(27,ifA b (aB (a0 !=a1)) jb),(26,ifA b (aI a1) jb),(25,ifA b (aI a0) jb)]) 4 hJ hJ hJ (s1 1 [(29,aB (am8 a0 a1))] ?_)
  exact QZ hJ hJ h
 refine fin [(0,aI a0),(1,aI a1),(29,aB ((!x4)||(((a0 !=0)&&(a1 !=0))&&(a0 !=a1))))] rfl hJ ?_
 rcases zf hm with ⟨h6,hm⟩|⟨h6,hm⟩
 ·refine c1 h6 (rg (s1 1 [am6] ?_))
  obtain rfl:=ji hm
  exact rp0 (v:=.pv (.ifc 34 (.int .i64 50))) hJ hJ (fun _=>hM)
 refine c0 h6 (jg (sq (dn [(6,aI (if a1>a0 then a1 else a0))] (jf ?_))))
 cases hm;exact hM
theorem agk {n:Nat}{a0:Int}{r:Bool}(hm:acV n a0=some r):
  call G n 187 [aI a0] []=some (.ret (aB r),[]):=by
 unfold acV at hm
 obtain ⟨n,rfl,h0⟩:=zu hm
 replace hm:=h0;clear h0
 refine Z2 3 [(0,aI a0)] func187 rfl hJ (sq (dn [] (sq (dn [(2,aB true)] (jf ?_)))))
 cases hm;exact hM
theorem acd {n:Nat}{a0:Int}{a1:Int}{r:Int ⊕ (Int)}(hm:Qq n a0 a1=some r):
   call G n 185 [aI a0,aI a1,.pv (.fn 187 [] [])] []=some (PO 34 (fun (r:Int)=>aI r) r,[]):=by
 unfold Qq at hm
 obtain ⟨n,rfl,h0⟩:=zu hm
 replace hm:=h0;clear h0
 refine ama 34 [(0,aI a0),(1,aI a1),(2,.pv (.fn 187 [] []))] func185 rfl hJ (sq (dn [(0,aI a0),(1,aI a1),(2,.pv (.fn 187 [] []))] (sq (sq (rg (s1 2 [(8,aI a0),(7,.pv (.fn 187 [] []))] ?_))))))
 obtain ⟨x1,h2,hm⟩:=bs hm
 refine dv 9 (zR hJ (agk h2) hJ hJ hJ) hJ (s1 2 [(11,aB (!x1)),(10,aB (!x1))] ?_)
 rcases zf hm with ⟨h3,hm⟩|⟨h3,hm⟩
 ·refine known [11,10] h3 hJ (fq 18 [(0,aI a0),(1,aI a1),kR] (cT hJ (rg (s1 1 [am6] ?_))))
  obtain rfl:=ji hm
  exact rp0 (v:=.pv (.ifc 34 (.int .i64 50))) hJ hJ (fun _=>hM)
 refine known [11,10] h3 hJ (s1 2 [(13,aI a1),(12,.pv (.fn 187 [] []))] ?_)
 obtain ⟨x4,h5,hm⟩:=bs hm
 refine dv 14 (zR hJ (agk h5) hJ hJ hJ) hJ (s1 3 [(17,aB (!x4)),(16,aB (!x4)),(15,aB (!x4))] ?_)
 refine seg (!x4) [17,16,15] (fun b=>[(29,aB (b||(am8 a0 a1))),(28,ifA b jb (aB (((a0 !=0)&&(a1 !=0))&&(a0 !=a1)))),(27,ifA b jb (ifA ((a0 !=0)&&(a1 !=0)) (aB (a0 !=a1)) jb)),(26,ifA b jb (ifA ((a0 !=0)&&(a1 !=0)) (aI a1) jb)),(25,ifA b jb (ifA ((a0 !=0)&&(a1 !=0)) (aI a0) jb)),(24,ifA b jb (aB ((a0 !=0)&&(a1 !=0)))),(23,ifA b jb (aB ((a0 !=0)&&(a1 !=0)))),(22,ifA b jb (ifA (a0 !=0) (aB (a1 !=0)) jb)),(21,ifA b jb (ifA (a0 !=0) (aI a1) jb)),(20,ifA b jb (aB (a0 !=0))),(19,ifA b jb (aB (a0 !=0))),(18,ifA b jb (aI a0))]) 23 hJ ?_ ?_ ?_
 ·intro Q h
  refine s1 12 [kR,(28,.undef),(27,.undef),(26,.undef),(25,.undef),(24,.undef),(23,.undef),(22,.undef),(21,.undef),(20,.undef),(19,.undef),(18,.undef)] ?_
  exact QZ hJ hJ h
 ·intro Q h
  refine s1 3 [(20,aB (a0 !=0)),(19,aB (a0 !=0)),(18,aI a0)] ?_
  refine segP (a0 !=0) [20,19] (fun b=>[(23,aB (b&&(a1 !=0))),(22,ifA b (aB (a1 !=0)) jb),(21,ifA b (aI a1) jb)]) 3 hJ hJ hJ (s1 1 [(24,aB ((a0 !=0)&&(a1 !=0)))] ?_)
  refine segP ((a0 !=0)&&(a1 !=0)) [24,23] (fun b=>[(28,aB (b&&(a0 !=a1))),(27,ifA b (aB (a0 !=a1)) jb),(26,ifA b (aI a1) jb),(25,ifA b (aI a0) jb)]) 4 hJ hJ hJ (s1 1 [(29,aB (am8 a0 a1))] ?_)
  exact QZ hJ hJ h
 refine fin [(0,aI a0),(1,aI a1),(29,aB ((!x4)||(((a0 !=0)&&(a1 !=0))&&(a0 !=a1))))] rfl hJ ?_
 rcases zf hm with ⟨h6,hm⟩|⟨h6,hm⟩
 ·refine c1 h6 (rg (s1 1 [am6] ?_))
  obtain rfl:=ji hm
  exact rp0 (v:=.pv (.ifc 34 (.int .i64 50))) hJ hJ (fun _=>hM)
 refine c0 h6 (jg (sq (dn [(6,aI (if a1>a0 then a1 else a0))] (jf ?_))))
 cases hm;exact hM
theorem ahO {n:Nat}{a0:Int}{r:Bool}(hm:aeG n a0=some r):
  call G n 188 [aI a0] []=some (.ret (aB r),[]):=by
 unfold aeG at hm
 obtain ⟨n,rfl,h0⟩:=zu hm
 replace hm:=h0;clear h0
 refine Z2 9 [(0,aI a0)] func188 rfl hJ (sq (dn [(0,aI a0)] (sq (rg (s1 3 [(5,aB (a0==0)),(4,aB (a0==0)),(3,aI a0)] ?_)))))
 refine segP (a0==0) [5,4] (fun b=>[(8,aB (b||(a0==1))),(7,ifA b jb (aB (a0==1))),(6,ifA b jb (aI a0))]) 3 hJ hJ hJ (fq 1 [(2,aB ((a0==0)||(a0==1)))] (jf ?_))
 cases hm;exact hM
theorem QP {n:Nat}{a0:Int}{a1:Int}{r:Int ⊕ (Int)}(hm:Qd n a0 a1=some r):
   call G n 185 [aI a0,aI a1,.pv (.fn 188 [] [])] []=some (PO 34 (fun (r:Int)=>aI r) r,[]):=by
 unfold Qd at hm
 obtain ⟨n,rfl,h0⟩:=zu hm
 replace hm:=h0;clear h0
 refine ama 34 [(0,aI a0),(1,aI a1),(2,.pv (.fn 188 [] []))] func185 rfl hJ (sq (dn [(0,aI a0),(1,aI a1),(2,.pv (.fn 188 [] []))] (sq (sq (rg (s1 2 [(8,aI a0),(7,.pv (.fn 188 [] []))] ?_))))))
 obtain ⟨x1,h2,hm⟩:=bs hm
 refine dv 9 (zR hJ (ahO h2) hJ hJ hJ) hJ (s1 2 [(11,aB (!x1)),(10,aB (!x1))] ?_)
 rcases zf hm with ⟨h3,hm⟩|⟨h3,hm⟩
 ·refine known [11,10] h3 hJ (fq 18 [(0,aI a0),(1,aI a1),kR] (cT hJ (rg (s1 1 [am6] ?_))))
  obtain rfl:=ji hm
  exact rp0 (v:=.pv (.ifc 34 (.int .i64 50))) hJ hJ (fun _=>hM)
 refine known [11,10] h3 hJ (s1 2 [(13,aI a1),(12,.pv (.fn 188 [] []))] ?_)
 obtain ⟨x4,h5,hm⟩:=bs hm
 refine dv 14 (zR hJ (ahO h5) hJ hJ hJ) hJ (s1 3 [(17,aB (!x4)),(16,aB (!x4)),(15,aB (!x4))] ?_)
 refine seg (!x4) [17,16,15] (fun b=>[(29,aB (b||(am8 a0 a1))),(28,ifA b jb (aB (((a0 !=0)&&(a1 !=0))&&(a0 !=a1)))),(27,ifA b jb (ifA ((a0 !=0)&&(a1 !=0)) (aB (a0 !=a1)) jb)),(26,ifA b jb (ifA ((a0 !=0)&&(a1 !=0)) (aI a1) jb)),(25,ifA b jb (ifA ((a0 !=0)&&(a1 !=0)) (aI a0) jb)),(24,ifA b jb (aB ((a0 !=0)&&(a1 !=0)))),(23,ifA b jb (aB ((a0 !=0)&&(a1 !=0)))),(22,ifA b jb (ifA (a0 !=0) (aB (a1 !=0)) jb)),(21,ifA b jb (ifA (a0 !=0) (aI a1) jb)),(20,ifA b jb (aB (a0 !=0))),(19,ifA b jb (aB (a0 !=0))),(18,ifA b jb (aI a0))]) 23 hJ ?_ ?_ ?_
 ·intro Q h
  refine s1 12 [kR,(28,.undef),(27,.undef),(26,.undef),(25,.undef),(24,.undef),(23,.undef),(22,.undef),(21,.undef),(20,.undef),(19,.undef),(18,.undef)] ?_
  exact QZ hJ hJ h
 ·intro Q h
  refine s1 3 [(20,aB (a0 !=0)),(19,aB (a0 !=0)),(18,aI a0)] ?_
  refine segP (a0 !=0) [20,19] (fun b=>[(23,aB (b&&(a1 !=0))),(22,ifA b (aB (a1 !=0)) jb),(21,ifA b (aI a1) jb)]) 3 hJ hJ hJ (s1 1 [(24,aB ((a0 !=0)&&(a1 !=0)))] ?_)
  refine segP ((a0 !=0)&&(a1 !=0)) [24,23] (fun b=>[(28,aB (b&&(a0 !=a1))),(27,ifA b (aB (a0 !=a1)) jb),(26,ifA b (aI a1) jb),(25,ifA b (aI a0) jb)]) 4 hJ hJ hJ (s1 1 [(29,aB (am8 a0 a1))] ?_)
  exact QZ hJ hJ h
 refine fin [(0,aI a0),(1,aI a1),(29,aB ((!x4)||(((a0 !=0)&&(a1 !=0))&&(a0 !=a1))))] rfl hJ ?_
 rcases zf hm with ⟨h6,hm⟩|⟨h6,hm⟩
 ·refine c1 h6 (rg (s1 1 [am6] ?_))
  obtain rfl:=ji hm
  exact rp0 (v:=.pv (.ifc 34 (.int .i64 50))) hJ hJ (fun _=>hM)
 refine c0 h6 (jg (sq (dn [(6,aI (if a1>a0 then a1 else a0))] (jf ?_))))
 cases hm;exact hM
abbrev Q2 (p0:zk):Nat×AV:=(9,.pv (zg za p0.I))
abbrev aag (p0:zk):Nat×AV:=(10,aI ((sll p0.I).length:Int))
abbrev ap6 (p0:Int) (p1:zk):Nat×AV:=(12,aB (decide (p0<((sll p1.I).length:Int))))
abbrev akb (p0:Int):Nat×AV:=(11,aI (IntKind.wrap .i64 (p0+1)))
abbrev aj1 (p0:Int):=(([p0]:List Int).length)
abbrev aeQ (p0:(List Int)) (p1:Int):=((p0++([p1]:List Int)).length)
theorem alm {rc_expr_typed:(Nat→zk→jv→Option (Int ⊕ (Int)))}(ih_expr_typed:∀ {n:Nat}{a0:zk}{a1:jv}{r:Int ⊕ (Int)}(hm:rc_expr_typed n a0 a1=some r),call G n 147 [.agg [aI a0.A,aI a0.K,aI a0.M,aI a0.D.A,aI a0.D.J,aF a0.D.O,aS a0.D.L,.pv (zg za a0.I)],.pv (zg zA a1)] []=some (PO 34 (fun (r:Int)=>aI r) r,[])) {n:Nat}{a0:zk}{a1:jv}{r:Int ⊕ (Int)}(hm:ac3 rc_expr_typed n a0 a1=some r):
   call G n 147 [.agg (zc6 a0),.pv (zz a1)] []=some (PO 34 (fun (r:Int)=>aI r) r,[]):=by
 unfold ac3 at hm
 obtain ⟨n,rfl,h0⟩:=zu hm
 replace hm:=h0;clear h0
 refine ama 84 [(0,.agg (zc6 a0)),(zp81 a1)] func147 rfl hJ (sq (det [(zp81 a1),jJ] [.box (zc6 a0) false] hJ (sq (dn [(zp81 a1),jJ,ku] ?_))))
 obtain ⟨k4,hk4,hm⟩:=zt hm
 refine mid (fun t H=>(∃ (w1:AV) (w2:AV),k4 none=some r∧t=mk 84 [(zp81 a1),jJ,ku,(Q2 a0),(aag a0),(11,w1),(12,w2)]∧H=[.box (zc6 a0) false])∨(∃ (y3:(List Int)) (w1:AV) (w2:AV),k4 (some y3)=some r∧t=mk 84 [(zp81 a1),jJ,(5,aR 1 1 y3.length),(Q2 a0),(aag a0),(11,w1),(12,w2)]∧H=[.box (zc6 a0) false,bR 3 1 (rI .i64) y3 0 0])) ?_ ?_
 ·rintro _ _ (⟨w1,w2,hm,rfl,rfl⟩|⟨y3,w1,w2,hm,rfl,rfl⟩)
  ·subst hk4
   refine sq (sq (dn [(zp81 a1),jJ,ku,(23,aI a0.A)] (bq (sq (dn [(zp81 a1),jJ,ku,(23,aI a0.A),(24,aB (a0.A==1))] ?_)))))
   rcases zf hm with ⟨h5,hm⟩|⟨h5,hm⟩
   ·refine c1 h5 (sq (rg (s1 2 [(27,.pv (zz a1)),(26,.agg (zc6 a0))] ?_)))
    obtain ⟨x6,h7,hm⟩:=bs hm
    rcases x6 with x8|x6
    ·obtain rfl:=ji hm
     exact rp0 (v:=.pv (.ifc 34 (.int .i64 x8))) (cpan hJ (aaL h7) hJ hJ hJ) hJ (fun _=>hM)
    refine dv 28 (zR hJ (aaL h7) hJ hJ hJ) hJ (fq 1 [(4,aI x6)] (jf ?_))
    cases hm;exact hM
   refine c0 h5 (sq (dn [jJ,ku,(23,aI a0.A),(29,aB (a0.A==2))] ?_))
   rcases zf hm with ⟨h9,hm⟩|⟨h9,hm⟩
   ·refine c1 h9 (sq (dn [(4,aI a0.D.A)] (jf ?_)))
    cases hm;exact hM
   refine c0 h9 ?_
   obtain ⟨k11,hk11,hm⟩:=zt hm
   refine mid (fun t H=>(∃ (y10:Bool),k11 y10=some r∧t=mk 84 [ku,(23,aI a0.A),(34,aB y10)]∧H=[.box (zc6 a0) false])) ?_ ?_
   ·rintro _ _ ⟨y10,hm,rfl,rfl⟩
    subst hk11
    rcases zf hm with ⟨h12,hm⟩|⟨h12,hm⟩
    ·refine c1 h12 (sq (rgd (shd 1 [(38,.pv .nils)] hJ ?_)))
     cases hm
    refine c0 h12 (sq (dn [ku,(23,aI a0.A),(45,aB (a0.A==6))] ?_))
    rcases zf hm with ⟨h13,hm⟩|⟨h13,hm⟩
    ·refine c1 h13 (sq (rgd (shd 1 [(47,.pv .nils)] hJ ?_)))
     cases hm
    refine c0 h13 ?_
    obtain ⟨k15,hk15,hm⟩:=zt hm
    refine mid (fun t H=>(∃ (y14:Bool),k15 y14=some r∧t=mk 84 [ku,(23,aI a0.A),(54,aB y14)]∧H=[.box (zc6 a0) false])) ?_ ?_
    ·rintro _ _ ⟨y14,hm,rfl,rfl⟩
     subst hk15
     rcases zf hm with ⟨h16,hm⟩|⟨h16,hm⟩
     ·refine c1 h16 (rgd (shd 1 [(58,.pv .nils)] hJ ?_))
      cases hm
     refine c0 h16 ?_
     obtain ⟨k18,hk18,hm⟩:=zt hm
     refine mid (fun t H=>(∃ (y17:Bool),k18 y17=some r∧t=mk 84 [ku,(23,aI a0.A),(65,aB y17)]∧H=[.box (zc6 a0) false])) ?_ ?_
     ·rintro _ _ ⟨y17,hm,rfl,rfl⟩
      subst hk18
      rcases zf hm with ⟨h19,hm⟩|⟨h19,hm⟩
      ·refine c1 h19 (rgd (shd 1 [(68,.pv .nils)] hJ ?_))
       cases hm
      refine c0 h19 (sq (dn [ku,(75,aB (a0.A==12))] ?_))
      rcases zf hm with ⟨h20,hm⟩|⟨h20,hm⟩
      ·refine c1 h20 (rgd (shd 1 [(77,.pv .nils)] hJ ?_))
       cases hm
      refine c0 h20 (jg (sq (dn [kG] (jf ?_))))
      cases hm;exact hM
     refine sq (dn [ku,(23,aI a0.A),(65,aB (a0.A==10))] ?_)
     rcases zf hm with ⟨h21,hm⟩|⟨h21,hm⟩
     ·refine c1 h21 (jg ?_)
      exact ⟨(a0.A==10),hm,rfl,rfl⟩
     refine c0 h21 (dn [ku,(23,aI a0.A),(65,aB (a0.A==11))] ?_)
     exact ⟨(a0.A==11),hm,rfl,rfl⟩
    refine sq (dn [ku,(23,aI a0.A),(54,aB (a0.A==7))] ?_)
    rcases zf hm with ⟨h22,hm⟩|⟨h22,hm⟩
    ·refine c1 h22 (jg ?_)
     exact ⟨(a0.A==7),hm,rfl,rfl⟩
    refine c0 h22 (sq (dn [ku,(23,aI a0.A),(54,aB (a0.A==8))] ?_))
    rcases zf hm with ⟨h23,hm⟩|⟨h23,hm⟩
    ·refine c1 h23 (jg ?_)
     exact ⟨(a0.A==8),hm,rfl,rfl⟩
    refine c0 h23 (dn [ku,(23,aI a0.A),(54,aB (a0.A==9))] ?_)
    exact ⟨(a0.A==9),hm,rfl,rfl⟩
   refine sq (dn [ku,(23,aI a0.A),(34,aB (a0.A==3))] ?_)
   rcases zf hm with ⟨h24,hm⟩|⟨h24,hm⟩
   ·refine c1 h24 (jg ?_)
    exact ⟨(a0.A==3),hm,rfl,rfl⟩
   refine c0 h24 (sq (dn [ku,(23,aI a0.A),(34,aB (a0.A==4))] ?_))
   rcases zf hm with ⟨h25,hm⟩|⟨h25,hm⟩
   ·refine c1 h25 (jg ?_)
    exact ⟨(a0.A==4),hm,rfl,rfl⟩
   refine c0 h25 (dn [ku,(23,aI a0.A),(34,aB (a0.A==5))] ?_)
   exact ⟨(a0.A==5),hm,rfl,rfl⟩
  subst hk4
  refine sq (sq (dn [(zp81 a1),jJ,(5,aR 1 1 y3.length),(23,aI a0.A)] (bq (sq (dn [(zp81 a1),jJ,(5,aR 1 1 y3.length),(23,aI a0.A),(24,aB (a0.A==1))] ?_)))))
  rcases zf hm with ⟨h26,hm⟩|⟨h26,hm⟩
  ·refine c1 h26 (sq (rg (s1 2 [(27,.pv (zz a1)),(26,.agg (zc6 a0))] ?_)))
   obtain ⟨x27,h28,hm⟩:=bs hm
   rcases x27 with x29|x27
   ·obtain rfl:=ji hm
    exact rp0 (v:=.pv (.ifc 34 (.int .i64 x29))) (cpan hJ (aaL h28) hJ hJ hJ) hJ (fun _=>hM)
   refine dv 28 (zR hJ (aaL h28) hJ hJ hJ) hJ (fq 1 [(4,aI x27)] (jf ?_))
   cases hm;exact hM
  refine c0 h26 (sq (dn [jJ,(5,aR 1 1 y3.length),(23,aI a0.A),(29,aB (a0.A==2))] ?_))
  rcases zf hm with ⟨h30,hm⟩|⟨h30,hm⟩
  ·refine c1 h30 (sq (dn [(4,aI a0.D.A)] (jf ?_)))
   cases hm;exact hM
  refine c0 h30 ?_
  obtain ⟨k32,hk32,hm⟩:=zt hm
  refine mid (fun t H=>(∃ (y31:Bool),k32 y31=some r∧t=mk 84 [(5,aR 1 1 y3.length),(23,aI a0.A),(34,aB y31)]∧H=[.box (zc6 a0) false,bR 3 1 (rI .i64) y3 0 0])) ?_ ?_
  ·rintro _ _ ⟨y31,hm,rfl,rfl⟩
   subst hk32
   rcases zf hm with ⟨h33,hm⟩|⟨h33,hm⟩
   ·refine c1 h33 (sq (rgd (shd 1 [(38,aR 1 1 y3.length)] hJ ?_)))
    obtain ⟨x34,h35,hm⟩:=bs hm
    refine dvd 39 (v:=.eptr 1 0 y3.length 1 (0+Int.toNat 0) 0) (abY y3 .i64 (n:=y3.length) (id:=1) (esz:=1) t33 t3 h35 rfl rfl hJ) hJ (dvd 40 (v:=aI x34) (aba (rI .i64) y3 (n:=y3.length) (esz:=1) (j:=0) (off:=0) (id:=1) t3 rfl h35 rfl (Nat.zero_le _) hJ hJ) hJ (shd 1 [(41,aR 1 1 y3.length)] hJ ?_))
    obtain ⟨x36,h37,hm⟩:=bs hm
    refine dvd 42 (v:=.eptr 1 0 y3.length 1 (0+Int.toNat 1) 0) (abY y3 .i64 (n:=y3.length) (id:=1) (esz:=1) t33 t3 h37 rfl rfl hJ) hJ (dvd 43 (v:=aI x36) (aba (rI .i64) y3 (n:=y3.length) (esz:=1) (j:=1) (off:=0) (id:=1) t3 rfl h37 rfl (Nat.zero_le _) hJ hJ) hJ ?_)
    obtain ⟨x38,h39,hm⟩:=bs hm
    rcases x38 with x40|x38
    ·obtain rfl:=ji hm
     exact rp0d (v:=.pv (.ifc 34 (.int .i64 x40))) (cpan hJ (Qw h39) hJ hJ hJ) hJ hJ (fun _=>hM)
    refine dvd 44 (zR hJ (Qw h39) hJ hJ hJ) hJ (shd 1 [(4,aI x38)] hJ (find [(4,aI x38)] rfl hJ hJ (jf ?_)))
    cases hm;exact hM
   refine c0 h33 (sq (dn [(5,aR 1 1 y3.length),(23,aI a0.A),(45,aB (a0.A==6))] ?_))
   rcases zf hm with ⟨h41,hm⟩|⟨h41,hm⟩
   ·refine c1 h41 (sq (rgd (shd 1 [(47,aR 1 1 y3.length)] hJ ?_)))
    obtain ⟨x42,h43,hm⟩:=bs hm
    refine dvd 48 (v:=.eptr 1 0 y3.length 1 (0+Int.toNat 0) 0) (abY y3 .i64 (n:=y3.length) (id:=1) (esz:=1) t33 t3 h43 rfl rfl hJ) hJ (dvd 49 (v:=aI x42) (aba (rI .i64) y3 (n:=y3.length) (esz:=1) (j:=0) (off:=0) (id:=1) t3 rfl h43 rfl (Nat.zero_le _) hJ hJ) hJ (shd 1 [(50,aR 1 1 y3.length)] hJ (dvd 51 (v:=.eptr 1 0 y3.length 1 (0+Int.toNat 0) 0) (abY y3 .i64 (n:=y3.length) (id:=1) (esz:=1) t33 t3 h43 rfl rfl hJ) hJ (dvd 52 (v:=aI x42) (aba (rI .i64) y3 (n:=y3.length) (esz:=1) (j:=0) (off:=0) (id:=1) t3 rfl h43 rfl (Nat.zero_le _) hJ hJ) hJ ?_))))
    obtain ⟨x44,h45,hm⟩:=bs hm
    rcases x44 with x46|x44
    ·obtain rfl:=ji hm
     exact rp0d (v:=.pv (.ifc 34 (.int .i64 x46))) (cpan hJ (Qw h45) hJ hJ hJ) hJ hJ (fun _=>hM)
    refine dvd 53 (zR hJ (Qw h45) hJ hJ hJ) hJ (shd 1 [(4,aI x44)] hJ (find [(4,aI x44)] rfl hJ hJ (jf ?_)))
    cases hm;exact hM
   refine c0 h41 ?_
   obtain ⟨k48,hk48,hm⟩:=zt hm
   refine mid (fun t H=>(∃ (y47:Bool),k48 y47=some r∧t=mk 84 [(5,aR 1 1 y3.length),(23,aI a0.A),(54,aB y47)]∧H=[.box (zc6 a0) false,bR 3 1 (rI .i64) y3 0 0])) ?_ ?_
   ·rintro _ _ ⟨y47,hm,rfl,rfl⟩
    subst hk48
    rcases zf hm with ⟨h49,hm⟩|⟨h49,hm⟩
    ·refine c1 h49 (rgd (shd 1 [(58,aR 1 1 y3.length)] hJ ?_))
     obtain ⟨x50,h51,hm⟩:=bs hm
     refine dvd 59 (v:=.eptr 1 0 y3.length 1 (0+Int.toNat 0) 0) (abY y3 .i64 (n:=y3.length) (id:=1) (esz:=1) t33 t3 h51 rfl rfl hJ) hJ (dvd 60 (v:=aI x50) (aba (rI .i64) y3 (n:=y3.length) (esz:=1) (j:=0) (off:=0) (id:=1) t3 rfl h51 rfl (Nat.zero_le _) hJ hJ) hJ (shd 1 [(61,aR 1 1 y3.length)] hJ ?_))
     obtain ⟨x52,h53,hm⟩:=bs hm
     refine dvd 62 (v:=.eptr 1 0 y3.length 1 (0+Int.toNat 1) 0) (abY y3 .i64 (n:=y3.length) (id:=1) (esz:=1) t33 t3 h53 rfl rfl hJ) hJ (dvd 63 (v:=aI x52) (aba (rI .i64) y3 (n:=y3.length) (esz:=1) (j:=1) (off:=0) (id:=1) t3 rfl h53 rfl (Nat.zero_le _) hJ hJ) hJ ?_)
     obtain ⟨x54,h55,hm⟩:=bs hm
     rcases x54 with x56|x54
     ·obtain rfl:=ji hm
      exact rp0d (v:=.pv (.ifc 34 (.int .i64 x56))) (cpan hJ (acd h55) hJ hJ hJ) hJ hJ (fun _=>hM)
     refine dvd 64 (zR hJ (acd h55) hJ hJ hJ) hJ (find [] rfl hJ hJ (sq (dn [kG] (jf ?_))))
     cases hm;exact hM
    refine c0 h49 ?_
    obtain ⟨k58,hk58,hm⟩:=zt hm
    refine mid (fun t H=>(∃ (y57:Bool),k58 y57=some r∧t=mk 84 [(5,aR 1 1 y3.length),(23,aI a0.A),(65,aB y57)]∧H=[.box (zc6 a0) false,bR 3 1 (rI .i64) y3 0 0])) ?_ ?_
    ·rintro _ _ ⟨y57,hm,rfl,rfl⟩
     subst hk58
     rcases zf hm with ⟨h59,hm⟩|⟨h59,hm⟩
     ·refine c1 h59 (rgd (shd 1 [(68,aR 1 1 y3.length)] hJ ?_))
      obtain ⟨x60,h61,hm⟩:=bs hm
      refine dvd 69 (v:=.eptr 1 0 y3.length 1 (0+Int.toNat 0) 0) (abY y3 .i64 (n:=y3.length) (id:=1) (esz:=1) t33 t3 h61 rfl rfl hJ) hJ (dvd 70 (v:=aI x60) (aba (rI .i64) y3 (n:=y3.length) (esz:=1) (j:=0) (off:=0) (id:=1) t3 rfl h61 rfl (Nat.zero_le _) hJ hJ) hJ (shd 1 [(71,aR 1 1 y3.length)] hJ ?_))
      obtain ⟨x62,h63,hm⟩:=bs hm
      refine dvd 72 (v:=.eptr 1 0 y3.length 1 (0+Int.toNat 1) 0) (abY y3 .i64 (n:=y3.length) (id:=1) (esz:=1) t33 t3 h63 rfl rfl hJ) hJ (dvd 73 (v:=aI x62) (aba (rI .i64) y3 (n:=y3.length) (esz:=1) (j:=1) (off:=0) (id:=1) t3 rfl h63 rfl (Nat.zero_le _) hJ hJ) hJ ?_)
      obtain ⟨x64,h65,hm⟩:=bs hm
      rcases x64 with x66|x64
      ·obtain rfl:=ji hm
       exact rp0d (v:=.pv (.ifc 34 (.int .i64 x66))) (cpan hJ (QP h65) hJ hJ hJ) hJ hJ (fun _=>hM)
      refine dvd 74 (zR hJ (QP h65) hJ hJ hJ) hJ (find [] rfl hJ hJ (sq (dn [kG] (jf ?_))))
      cases hm;exact hM
     refine c0 h59 (sq (dn [(5,aR 1 1 y3.length),(75,aB (a0.A==12))] ?_))
     rcases zf hm with ⟨h67,hm⟩|⟨h67,hm⟩
     ·refine c1 h67 (rgd (shd 1 [(77,aR 1 1 y3.length)] hJ ?_))
      obtain ⟨x68,h69,hm⟩:=bs hm
      refine dvd 78 (v:=.eptr 1 0 y3.length 1 (0+Int.toNat 0) 0) (abY y3 .i64 (n:=y3.length) (id:=1) (esz:=1) t33 t3 h69 rfl rfl hJ) hJ (dvd 79 (v:=aI x68) (aba (rI .i64) y3 (n:=y3.length) (esz:=1) (j:=0) (off:=0) (id:=1) t3 rfl h69 rfl (Nat.zero_le _) hJ hJ) hJ (shd 1 [(80,aR 1 1 y3.length)] hJ (dvd 81 (v:=.eptr 1 0 y3.length 1 (0+Int.toNat 0) 0) (abY y3 .i64 (n:=y3.length) (id:=1) (esz:=1) t33 t3 h69 rfl rfl hJ) hJ (dvd 82 (v:=aI x68) (aba (rI .i64) y3 (n:=y3.length) (esz:=1) (j:=0) (off:=0) (id:=1) t3 rfl h69 rfl (Nat.zero_le _) hJ hJ) hJ ?_))))
      obtain ⟨x70,h71,hm⟩:=bs hm
      rcases x70 with x72|x70
      ·obtain rfl:=ji hm
       exact rp0d (v:=.pv (.ifc 34 (.int .i64 x72))) (cpan hJ (QP h71) hJ hJ hJ) hJ hJ (fun _=>hM)
      refine dvd 83 (zR hJ (QP h71) hJ hJ hJ) hJ (find [] rfl hJ hJ (sq (dn [kG] (jf ?_))))
      cases hm;exact hM
     refine c0 h67 (jg (sq (dn [kG] (jf ?_))))
     cases hm;exact hM
    refine sq (dn [(5,aR 1 1 y3.length),(23,aI a0.A),(65,aB (a0.A==10))] ?_)
    rcases zf hm with ⟨h73,hm⟩|⟨h73,hm⟩
    ·refine c1 h73 (jg ?_)
     exact ⟨(a0.A==10),hm,rfl,rfl⟩
    refine c0 h73 (dn [(5,aR 1 1 y3.length),(23,aI a0.A),(65,aB (a0.A==11))] ?_)
    exact ⟨(a0.A==11),hm,rfl,rfl⟩
   refine sq (dn [(5,aR 1 1 y3.length),(23,aI a0.A),(54,aB (a0.A==7))] ?_)
   rcases zf hm with ⟨h74,hm⟩|⟨h74,hm⟩
   ·refine c1 h74 (jg ?_)
    exact ⟨(a0.A==7),hm,rfl,rfl⟩
   refine c0 h74 (sq (dn [(5,aR 1 1 y3.length),(23,aI a0.A),(54,aB (a0.A==8))] ?_))
   rcases zf hm with ⟨h75,hm⟩|⟨h75,hm⟩
   ·refine c1 h75 (jg ?_)
    exact ⟨(a0.A==8),hm,rfl,rfl⟩
   refine c0 h75 (dn [(5,aR 1 1 y3.length),(23,aI a0.A),(54,aB (a0.A==9))] ?_)
   exact ⟨(a0.A==9),hm,rfl,rfl⟩
  refine sq (dn [(5,aR 1 1 y3.length),(23,aI a0.A),(34,aB (a0.A==3))] ?_)
  rcases zf hm with ⟨h76,hm⟩|⟨h76,hm⟩
  ·refine c1 h76 (jg ?_)
   exact ⟨(a0.A==3),hm,rfl,rfl⟩
  refine c0 h76 (sq (dn [(5,aR 1 1 y3.length),(23,aI a0.A),(34,aB (a0.A==4))] ?_))
  rcases zf hm with ⟨h77,hm⟩|⟨h77,hm⟩
  ·refine c1 h77 (jg ?_)
   exact ⟨(a0.A==4),hm,rfl,rfl⟩
  refine c0 h77 (dn [(5,aR 1 1 y3.length),(23,aI a0.A),(34,aB (a0.A==5))] ?_)
  exact ⟨(a0.A==5),hm,rfl,rfl⟩
 refine sq (rg (s1 2 [(Q2 a0),(8,.ptr 0 7)] (dv 10 (v:=aI ((sll a0.I).length:Int)) (zP za a0.I t23 hJ) hJ (fq 1 [(zp81 a1),jJ,ku,(Q2 a0),(aag a0),(11,aI 0)] (bq ?_)))))
 refine qB (fun mm t H=>(∃ (y81:Int),qu n rc_expr_typed a0 a1 k4 mm y81 none=some r∧t=mk 84 [(zp81 a1),jJ,ku,(Q2 a0),(aag a0),(11,aI y81)]∧H=[.box (zc6 a0) false])∨(∃ (y81:Int) (y82:(List Int)),qu n rc_expr_typed a0 a1 k4 mm y81 (some y82)=some r∧t=mk 84 [(zp81 a1),jJ,(5,aR 1 1 y82.length),(Q2 a0),(aag a0),(11,aI y81)]∧H=[.box (zc6 a0) false,bR 3 1 (rI .i64) y82 0 0])) (.inl ⟨0,hm,rfl,rfl⟩) ?_ ?_
 ·
   rintro _ _ (⟨y81,hm,_⟩|⟨y81,y82,hm,_⟩)<;>exact nomatch hm
 rintro m83 _ _ (⟨y81,hm,rfl,rfl⟩|⟨y81,y82,hm,rfl,rfl⟩)
 ·simp only [qu] at hm
  refine sq (dn [(zp81 a1),jJ,ku,(Q2 a0),(aag a0),(11,aI y81),(ap6 y81 a0)] ?_)
  refine sq ?_
  rcases zf hm with ⟨h84,hm⟩|⟨h84,hm⟩
  ·refine c1 h84 (jg (sq (bq (sq (rg ?_)))))
   obtain ⟨x85,h86,hm⟩:=bs hm
   refine dv 13 (v:=.pv (.ptr (abe x85) 0)) (aaA za a0.I .i64 t23 t49 h86 (zU x85) rfl hJ) hJ (stf 3 [(zp81 a1),jJ,ku,(7,.ptr 1 0),(Q2 a0),(aag a0),(11,aI y81)] [.box (zc6 a0) false,.box (zc8 x85) false] hJ (rg (s1 3 [(17,.pv (zz a1)),(16,.agg (zc8 x85)),(15,.pv .nils)] ?_)))
   obtain ⟨x87,h88,hm⟩:=bs hm
   rcases x87 with x89|x87
   ·obtain rfl:=ji hm
    exact rp0 (v:=.pv (.ifc 34 (.int .i64 x89))) (cpan hJ (ih_expr_typed h88) hJ hJ hJ) hJ (fun _=>hM)
   refine dv 18 (zR hJ (ih_expr_typed h88) hJ hJ hJ) hJ (st 1 [(19,aR 2 1 1)] [.box (zc6 a0) false,.box (zc8 x85) false,bR 3 1 (rI .i64) ([x87]:List Int) 0 0] hJ ?_)
   obtain ⟨_,h90,hm⟩:=bs hm
   refine dO [(20,aR 3 1 (aj1 x87))] [.box (zc6 a0) false,.box (zc8 x85) false,bR 3 1 (rI .i64) ([x87]:List Int) 0 0,bR 3 1 (rI .i64) ([x87]:List Int) 0 0] (Qa (u:=0) (rI .i64) ([x87]:List Int) (b:=8) t33 t3 rfl rfl rfl (fun _=>rfl) rfl h90 (show zT (aR 2 1 1) _=some (([x87]:List Int).map (rI .i64)) from by kernel_rfl) hJ) hJ (fq 1 [(zp81 a1),jJ,(5,aR 3 1 (aj1 x87)),(Q2 a0),(aag a0),(11,aI y81)] (dn [(zp81 a1),jJ,(5,aR 3 1 (aj1 x87)),(Q2 a0),(aag a0),(akb y81)] ?_))
   exact ⟨_,_,ZD [(zp81 a1),jJ,(5,aR 1 1 (aj1 x87)),(Q2 a0),(aag a0),(akb y81)] [.box (zc6 a0) false,bR 3 1 (rI .i64) ([x87]:List Int) 0 0] hJ,.inr (⟨(Zk y81),([x87]:List Int),hm,rfl,rfl⟩)⟩
  refine c0 h84 (jh ?_)
  exact .inl ⟨aI y81,aB (aiw y81 a0),hm,(zH hJ),rfl⟩
 simp only [qu] at hm
 refine sq (dn [(zp81 a1),jJ,(5,aR 1 1 y82.length),(Q2 a0),(aag a0),(11,aI y81),(ap6 y81 a0)] ?_)
 refine sq ?_
 rcases zf hm with ⟨h91,hm⟩|⟨h91,hm⟩
 ·refine c1 h91 (jg (sq (bq (sq (rg ?_)))))
  obtain ⟨x92,h93,hm⟩:=bs hm
  refine dv 13 (v:=.pv (.ptr (abe x92) 0)) (aaA za a0.I .i64 t23 t49 h93 (zU x92) rfl hJ) hJ (stf 3 [(zp81 a1),jJ,(5,aR 1 1 y82.length),(7,.ptr 2 0),(Q2 a0),(aag a0),(11,aI y81)] [.box (zc6 a0) false,bR 3 1 (rI .i64) y82 0 0,.box (zc8 x92) false] hJ (rg (s1 3 [(17,.pv (zz a1)),(16,.agg (zc8 x92)),(15,aR 1 1 y82.length)] ?_)))
  obtain ⟨x94,h95,hm⟩:=bs hm
  rcases x94 with x96|x94
  ·obtain rfl:=ji hm
   exact rp0 (v:=.pv (.ifc 34 (.int .i64 x96))) (cpan hJ (ih_expr_typed h95) hJ hJ hJ) hJ (fun _=>hM)
  refine dv 18 (zR hJ (ih_expr_typed h95) hJ hJ hJ) hJ (st 1 [(19,aR 3 1 1)] [.box (zc6 a0) false,bR 3 1 (rI .i64) y82 0 0,.box (zc8 x92) false,bR 3 1 (rI .i64) ([x94]:List Int) 0 0] hJ ?_)
  obtain ⟨_,h97,hm⟩:=bs hm
  refine dO [(20,aR 1 1 (aeQ y82 x94))] [.box (zc6 a0) false,bR 3 1 (rI .i64) (y82++([x94]:List Int)) 0 0,.box (zc8 x92) false,bR 3 1 (rI .i64) ([x94]:List Int) 0 0] (ZF (u:=0) (n:=y82.length) (id:=1) (rI .i64) y82 ([x94]:List Int) (b:=8) t33 t3 rfl rfl rfl (fun _=>rfl) rfl h97 rfl rfl (Nat.zero_le _) (show zT (aR 3 1 1) _=some (([x94]:List Int).map (rI .i64)) from by kernel_rfl) hJ) hJ (fq 1 [(zp81 a1),jJ,(5,aR 1 1 (aeQ y82 x94)),(Q2 a0),(aag a0),(11,aI y81)] (dn [(zp81 a1),jJ,(5,aR 1 1 (aeQ y82 x94)),(Q2 a0),(aag a0),(akb y81)] ?_))
  exact ⟨_,_,ZD [(zp81 a1),jJ,(5,aR 1 1 (aeQ y82 x94)),(Q2 a0),(aag a0),(akb y81)] [.box (zc6 a0) false,bR 3 1 (rI .i64) (y82++([x94]:List Int)) 0 0] hJ,.inr (⟨(Zk y81),(y82++([x94]:List Int)),hm,rfl,rfl⟩)⟩
 refine c0 h91 (jh ?_)
 exact .inr (⟨y82,aI y81,aB (aiw y81 a0),hm,(zH hJ),rfl⟩)
theorem agH:∀ (m:Nat),∀ {n:Nat}{a0:zk}{a1:jv}{r:Int ⊕ (Int)}(hm:ab1 m n a0 a1=some r),call G n 147 [.agg (zc6 a0),.pv (zg zA a1)] []=some (PO 34 (fun (r:Int)=>aI r) r,[])
 |0=>by intros;rename_i hm;exact nomatch hm
 |m+1=>fun hm=>
  alm (agH m) hm
theorem ahY {n:Nat}{a0:zk}{a1:jv}{r:Int ⊕ (Int)}(hm:afJ n a0 a1=some r):
 call G n 147 [.agg (zc6 a0),.pv (zz a1)] []=some (PO 34 (fun (r:Int)=>aI r) r,[]):=agH n hm
abbrev zc9 (p0:Int) (p1:Int) (p2:Int) (p3:Int) (p4:Int) (p5:Nat) (p6:ByteArray) (p7:jo):List AV:=[aI p0,aI p1,aI p2,aI p3,aI p4,aF p5,aS p6,.pv (zg za p7)]
theorem aho {n:Nat}{a0:Int}{a1:Int}{a2:Int}{a3:Int}{a4:Int}{a5:Nat}{a6:ByteArray}{a7:jo}{a8:jv}{a9:Int}{r:(Int) ⊕ (Int)}(hm:ae2 n a0 a1 a2 a3 a4 a5 a6 a7 a8 a9=some r):
   ∃ vv H1,call G n 145 [.ptr 0 0,.ptr 1 0,.ptr 2 0] [.box (zc9 a0 a1 a2 a3 a4 a5 a6 a7) false,.box [.pv (zz a8)] false,.box [aI a9] false]=some (vv,H1)∧(match (generalizing:=false) r with|(.inl r0)=>(vv=.pan (.pv (.ifc 34 (.int .i64 r0)))∧H1=[.box (zc9 a0 a1 a2 a3 a4 a5 a6 a7) false,.box [.pv (zz a8)] false,.box [aI a9] false])|(.inr (r1))=>(vv=.ret (.tup [])∧H1=[.box (zc9 a0 a1 a2 a3 a4 a5 a6 a7) false,.box [.pv (zz a8)] false,.box [aI r1] false])):=by
 unfold ae2 at hm
 obtain ⟨n,rfl,h0⟩:=zu hm
 replace hm:=h0;clear h0
 refine apc 9 [jF,jI,jE] func145 rfl hJ (sq (rg (s1 2 [(4,.pv (zz a8)),(3,.agg (zc9 a0 a1 a2 a3 a4 a5 a6 a7))] ?_)))
 obtain ⟨x1,h2,hm⟩:=bs hm
 rcases x1 with x3|x1
 ·obtain rfl:=ji hm
  exact rp0 (v:=.pv (.ifc 34 (.int .i64 x3))) (cpan hJ (aiJ h2) hJ hJ hJ) hJ (fun _=>⟨trivial,.pan (.pv (.ifc 34 (.int .i64 x3))),[.box (zc9 a0 a1 a2 a3 a4 a5 a6 a7) false,.box [.pv (zz a8)] false,.box [aI a9] false],hJ,rfl,rfl⟩)
 refine dv 5 (zR hJ (aiJ h2) hJ hJ hJ) hJ (fin [jF,jI,jE] rfl hJ (rg (s1 2 [(7,.pv (zz a8)),(6,.agg (zc9 a0 a1 a2 a3 a4 a5 a6 a7))] ?_)))
 obtain ⟨x4,h5,hm⟩:=bs hm
 rcases x4 with x6|x4
 ·obtain rfl:=ji hm
  exact rp0 (v:=.pv (.ifc 34 (.int .i64 x6))) (cpan hJ (ahY h5) hJ hJ hJ) hJ (fun _=>⟨trivial,.pan (.pv (.ifc 34 (.int .i64 x6))),[.box (zc9 a0 a1 a2 a3 a4 a5 a6 a7) false,.box [.pv (zz a8)] false,.box [aI a9] false],hJ,rfl,rfl⟩)
 refine dv 8 (zR hJ (ahY h5) hJ hJ hJ) hJ (stf 1 [] [.box (zc9 a0 a1 a2 a3 a4 a5 a6 a7) false,.box [.pv (zz a8)] false,.box [aI x4] false] hJ ?_)
 obtain rfl:=ji hm
 exact ⟨trivial,.ret (.tup []),[.box (zc9 a0 a1 a2 a3 a4 a5 a6 a7) false,.box [.pv (zz a8)] false,.box [aI x4] false],hJ,rfl,rfl⟩
theorem ad8 {n:Nat}{a0:Int}{a1:Int}{a2:Int}{a3:Int}{a4:Int}{a5:Nat}{a6:ByteArray}{a7:jo}{a8:jv}{a9:Int}{r:Int×Int}(hm:qK n a0 a1 a2 a3 a4 a5 a6 a7 a8 a9=some r):
   ∃ vv H1,call G n 144 [lf] [.box (zc9 a0 a1 a2 a3 a4 a5 a6 a7) false,.box [.pv (zz a8)] false,.box [aI a9] false]=some (.ret vv,H1)∧(match (generalizing:=false) r with|(r0,r1)=>(vv=aI r1∧H1=[.box (zc9 a0 a1 a2 a3 a4 a5 a6 a7) false,.box [.pv (zz a8)] false,.box [aI r0] false])):=by
 unfold qK at hm
 obtain ⟨n,rfl,h0⟩:=zu hm
 replace hm:=h0;clear h0
 obtain ⟨x2,h1,hm⟩:=bs hm
 rcases x2 with x3|x4
 ·obtain ⟨vv,H1,hC,rfl,rfl⟩:=aho h1
  obtain rfl:=ji hm
  exact ⟨_,_,alg func144 rfl hJ rfl hJ func145 hJ rfl hC hJ,rfl,rfl⟩
 obtain ⟨vv,H1,hC,rfl,rfl⟩:=aho h1
 obtain rfl:=ji hm
 exact ⟨_,_,alg func144 rfl hJ rfl hJ func145 hJ rfl hC hJ,rfl,rfl⟩
theorem aa9 {n:Nat}{a0:zk}{a1:jv}{r:Int×Int}(hm:aaM n a0 a1=some r):
   call G n 50 [.agg (zc6 a0),.pv (zz a1)] []=some (.ret (.tup [aI r.1,aI r.2]),[]):=by
 unfold aaM at hm
 obtain ⟨n,rfl,h0⟩:=zu hm
 replace hm:=h0;clear h0
 refine Z2 17 [(0,.agg (zc6 a0)),(zp81 a1)] func50 rfl hJ (sq (det [jJ,jO] [.box (zc6 a0) false,.box [.pv (zz a1)] false] hJ ?_))
 refine sq (sq (rg (s1 1 [(8,.agg (zc6 a0))] ?_)))
 obtain ⟨x1,h2,hm⟩:=bs hm
 refine dv 9 (zR hJ (alR h2) hJ hJ hJ) hJ (fq 1 [jJ,jO,(10,aB (!x1))] ?_)
 rcases zf hm with ⟨h3,hm⟩|⟨h3,hm⟩
 ·refine c1 h3 (sq (dn [kF,(5,aI 2)] (jf ?_)))
  cases hm;exact hM
 refine c0 h3 (jg (sq (det [jJ,jO,jX] [.box (zc6 a0) false,.box [.pv (zz a1)] false,.box [aI 0] false] hJ (sq (rg (s1 1 [(11,lf)] ?_))))))
 obtain ⟨⟨x5,x6⟩,h4,hm⟩:=bs hm
 obtain ⟨vv,H1,hC,rfl,rfl⟩:=ad8 h4
 refine dR [(12,aI x6)] [.box (zc6 a0) false,.box [.pv (zz a1)] false,.box [aI x5] false] [0,1,2] [lf] hJ hJ hJ hC hJ (fq 1 [jX,(7,aI x6)] (sq (sq (dn [jX,(7,aI x6),(14,aB (x6 !=0))] ?_))))
 rcases zf hm with ⟨h7,hm⟩|⟨h7,hm⟩
 ·refine c1 h7 (sq (dn [kF,(5,aI x6)] (jf ?_)))
  cases hm;exact hM
 refine c0 h7 (jg (sq (dn [(4,aI x5),kJ] (jf ?_))))
 cases hm;exact hM
theorem ais {n:Nat}{a0:Int}{r:Bool}(hm:acs n a0=some r):
  call G n 55 [aI a0] []=some (.ret (aB r),[]):=by
 unfold acs at hm
 obtain ⟨n,rfl,h0⟩:=zu hm
 replace hm:=h0;clear h0
 refine Z2 9 [(0,aI a0)] func55 rfl hJ (sq (dn [(0,aI a0)] (sq (rg (s1 3 [(5,aB (a0==0)),(4,aB (a0==0)),(3,aI a0)] ?_)))))
 refine segP (a0==0) [5,4] (fun b=>[(8,aB (b||(a0==1))),(7,ifA b jb (aB (a0==1))),(6,ifA b jb (aI a0))]) 3 hJ hJ hJ (fq 1 [(2,aB ((a0==0)||(a0==1)))] (jf ?_))
 cases hm;exact hM
theorem ait {n:Nat}{a0:Int}{r:Unit}(hm:aco n a0=some r):
  call G n 56 [aI a0] []=some (.ret (.tup []),[]):=by
 unfold aco at hm
 obtain ⟨n,rfl,h0⟩:=zu hm
 replace hm:=h0;clear h0
 refine Z2 2 [(0,aI a0)] func56 rfl hJ (jg ?_)
 cases hm;exact hM
abbrev ajW:Nat×AV:=(2,.pv (.fn 56 [] []))
theorem aah {n:Nat}{a0:jv}{a1:zk}{r:Int}(hm:ZB n a0 a1=some r):
   ∃ vv H1,call G n 49 [.agg (zc6 a1),.pv (.fn 55 [] []),.pv (.fn 56 [] []),.ptr 0 0] [.box [.pv (zz a0)] false]=some (.ret vv,H1)∧(match (generalizing:=false) r with|r0=>(vv=aI r0∧H1=[.box [.pv (zz a0)] false])):=by
 unfold ZB at hm
 obtain ⟨n,rfl,h0⟩:=zu hm
 replace hm:=h0;clear h0
 refine ZJ 30 [(0,.agg (zc6 a1)),(1,.pv (.fn 55 [] [])),ajW,jL] func49 rfl hJ (sq (det [(1,.pv (.fn 55 [] [])),ajW,jL,ke] [.box [.pv (zz a0)] false,.box (zc6 a1) false] hJ (sq (rg (s1 2 [(zp90 a0),(11,.agg (zc6 a1))] ?_)))))
 obtain ⟨x1,h2,hm⟩:=bs hm
 refine dv 13 (zR hJ (aa9 h2) hJ hJ hJ) hJ (fq 5 [(1,.pv (.fn 55 [] [])),ajW,(8,aI x1.1),(9,aI x1.2)] ?_)
 obtain ⟨k5,hk5,hm⟩:=zt hm
 refine mid (fun t H=>(∃ (y4:Int) (w3:AV),k5 y4=some r∧t=mk 30 [ajW,(8,aI x1.1),(9,aI y4),(23,w3)]∧H=[.box [.pv (zz a0)] false,.box (zc6 a1) false])) ?_ ?_
 ·rintro _ _ ⟨y4,w3,hm,rfl,rfl⟩
  subst hk5
  refine sq (sq (dn [ajW,(8,aI x1.1),(9,aI y4),(25,aB (y4==0))] ?_))
  rcases zf hm with ⟨h6,hm⟩|⟨h6,hm⟩
  ·refine c1 h6 (rg (s1 2 [(27,aI x1.1),(26,.pv (.fn 56 [] []))] ?_))
   obtain ⟨x7,h8,hm⟩:=bs hm
   refine dv 28 (zR hJ (ait h8) hJ hJ hJ) hJ (fin [(9,aI y4)] rfl hJ (sq (dn [(7,aI y4)] (jf ?_))))
   obtain rfl:=ji hm
   exact ⟨trivial,aI y4,[.box [.pv (zz a0)] false],hJ,rfl,rfl⟩
  refine c0 h6 (jg (sq (dn [(7,aI y4)] (jf ?_))))
  obtain rfl:=ji hm
  exact ⟨trivial,aI y4,[.box [.pv (zz a0)] false],hJ,rfl,rfl⟩
 refine sq (rg (s1 3 [(18,aB (x1.2==0)),(17,aB (x1.2==0)),(16,aI x1.2)] ?_))
 rcases zf hm with ⟨h9,hm⟩|⟨h9,hm⟩
 ·refine known [18,17] h9 hJ (s1 2 [(20,aI x1.1),(19,.pv (.fn 55 [] []))] ?_)
  obtain ⟨x10,h11,hm⟩:=bs hm
  refine dv 21 (zR hJ (ais h11) hJ hJ hJ) hJ (fq 2 [ajW,(8,aI x1.1),(9,aI x1.2),(23,aB (!x10))] ?_)
  rcases zf hm with ⟨h12,hm⟩|⟨h12,hm⟩
  ·refine c1 h12 (dn [ajW,(8,aI x1.1),kK] ?_)
   exact ⟨50,.any,hm,(zH hJ),rfl⟩
  refine c0 h12 (jg ?_)
  exact ⟨x1.2,aB (!x10),hm,(zH hJ),rfl⟩
 refine known [18,17] h9 hJ (fq 5 [ajW,(8,aI x1.1),(9,aI x1.2),kO] (cF hJ (jg ?_)))
 exact ⟨x1.2,aB false,hm,(zH hJ),rfl⟩
theorem ajB {n:Nat}{a0:jv}{a1:zk}{r:Int}(hm:ab9 n a0 a1=some r):
  ∃ vv H1,call G n 54 [.agg (zc6 a1),.ptr 0 0] [jy,.box [.pv (zz a0)] false]=some (.ret vv,H1)∧(match (generalizing:=false) r with|r0=>(vv=aI r0∧H1=[jy,.box [.pv (zz a0)] false])):=by
 unfold ab9 at hm
 obtain ⟨n,rfl,h0⟩:=zu hm
 replace hm:=h0;clear h0
 refine ZJ 7 [(0,.agg (zc6 a1)),jK] func54 rfl hJ (sq (det [jK,jE] [jy,.box [.pv (zz a0)] false,.box (zc6 a1) false] hJ (sq (rg (s1 2 [(5,.agg (zc6 a1)),(4,.fn 49 [] [.ptr 1 0])] ?_)))))
 obtain ⟨x2,h1,hm⟩:=bs hm
 obtain ⟨vv,H1,hC,rfl,rfl⟩:=aah h1
 refine dR [(6,aI x2)] [jy,.box [.pv (zz a0)] false,.box (zc6 a1) false] [1] [.agg (zc6 a1),.pv (.fn 55 [] []),.pv (.fn 56 [] []),.ptr 1 0] hJ hJ hJ hC hJ (fq 1 [(3,aI x2)] (jf ?_))
 obtain rfl:=ji hm
 exact ⟨trivial,aI x2,[jy,.box [.pv (zz a0)] false],hJ,rfl,rfl⟩
abbrev agE:Nat×AV:=(1,.fn 54 [] [.ptr 0 0])
abbrev QV (p0:jo):Nat×AV:=(8,.pv (zg za p0))
abbrev aae (p0:jo):Nat×AV:=(9,aI ((sll p0).length:Int))
theorem ac2 {n:Nat}{a0:jv}{a1:jo}{r:Int}(hm:qf n a0 a1=some r):
   ∃ vv H1,call G n 53 [.pv (acK a1),.fn 54 [] [.ptr 0 0]] [jy,.box [.pv (zz a0)] false]=some (.ret vv,H1)∧(match (generalizing:=false) r with|r0=>(vv=aI r0∧H1=[jy,.box [.pv (zz a0)] false])):=by
 unfold qf at hm
 obtain ⟨n,rfl,h0⟩:=zu hm
 replace hm:=h0;clear h0
 refine ZJ 21 [(zp75 a1),agE] func53 rfl hJ (sq (dn [(zp75 a1),agE] ?_))
 obtain ⟨k3,hk3,hm⟩:=zt hm
 refine mid (fun t H=>(∃ (y1:Int) (y2:Bool),k3 ()=some r∧t=mk 21 [agE,(QV a1),(aae a1),(10,aI y1),(11,aB y2)]∧H=[jy,.box [.pv (zz a0)] false])) ?_ ?_
 ·rintro _ _ ⟨y1,y2,hm,rfl,rfl⟩
  subst hk3
  refine sq (dn [kF] (jf ?_))
  obtain rfl:=ji hm
  exact ⟨trivial,aI 0,[jy,.box [.pv (zz a0)] false],hJ,rfl,rfl⟩
 refine sq (rg (s1 1 [(QV a1)] (dv 9 (v:=aI (afn a1)) (zP za a1 t23 hJ) hJ (fq 1 [agE,(QV a1),(aae a1),(10,aI 0)] (bq ?_)))))
 refine qB (fun mm t H=>(∃ (y5:Int),Zj n a0 a1 k3 mm y5=some r∧t=mk 21 [agE,(QV a1),(aae a1),(10,aI y5)]∧H=[jy,.box [.pv (zg zA a0)] false])) (⟨0,hm,rfl,rfl⟩) ?_ ?_
 ·
   rintro _ _ ⟨y5,hm,_⟩;exact nomatch hm
 rintro m6 _ _ ⟨y5,hm,rfl,rfl⟩
 simp only [Zj] at hm
 refine sq (dn [agE,(QV a1),(aae a1),(10,aI y5),(11,aB (adJ y5 a1))] ?_)
 refine sq ?_
 rcases zf hm with ⟨h7,hm⟩|⟨h7,hm⟩
 ·refine c1 h7 (jg (sq (bq (sq (rg ?_)))))
  obtain ⟨x8,h9,hm⟩:=bs hm
  refine dv 12 (v:=.pv (.ptr (abe x8) 0)) (aaA za a1 .i64 t23 t49 h9 (zU x8) rfl hJ) hJ (stf 3 [agE,jX,(QV a1),(aae a1),(10,aI y5)] [jy,.box [.pv (zz a0)] false,.box (zc8 x8) false] hJ (sq (rg (s1 2 [(15,.agg (zc8 x8)),(14,.fn 54 [] [.ptr 0 0])] ?_))))
  obtain ⟨x11,h10,hm⟩:=bs hm
  obtain ⟨vv,H1,hC,rfl,rfl⟩:=ajB h10
  refine dR [(16,aI x11)] [jy,.box [.pv (zz a0)] false,.box (zc8 x8) false] [0,1] [.agg (zc8 x8),.ptr 0 0] hJ hJ hJ hC hJ (fq 1 [agE,(7,aI x11),(QV a1),(aae a1),(10,aI y5)] (sq (dn [agE,(7,aI x11),(QV a1),(aae a1),(10,aI y5),(18,aB (x11 !=0))] ?_)))
  rcases zf hm with ⟨h12,hm⟩|⟨h12,hm⟩
  ·refine c1 h12 (sq (dn [(4,aI x11)] (jf ?_)))
   obtain rfl:=ji hm
   exact ⟨trivial,aI x11,[jy,.box [.pv (zz a0)] false],hJ,rfl,rfl⟩
  refine c0 h12 (jg (dn [agE,(QV a1),(aae a1),(zp95 y5)] ?_))
  exact ⟨_,_,ZD [agE,(QV a1),(aae a1),(zp95 y5)] [jy,.box [.pv (zz a0)] false] hJ,⟨(Zk y5),hm,rfl,rfl⟩⟩
 refine c0 h7 (jh ?_)
 exact ⟨y5,(adJ y5 a1),hm,rfl,rfl⟩
theorem abW {n:Nat}{a0:Int}{r:Bool}(hm:qU n a0=some r):
  call G n 51 [aI a0] []=some (.ret (aB r),[]):=by
 unfold qU at hm
 obtain ⟨n,rfl,h0⟩:=zu hm
 replace hm:=h0;clear h0
 refine Z2 3 [(0,aI a0)] func51 rfl hJ (sq (dn [] (sq (dn [(2,aB true)] (jf ?_)))))
 cases hm;exact hM
theorem adk {n:Nat}{a0:Int}{r:Unit}(hm:QT n a0=some r):
  ∃ vv H1,call G n 52 [aI a0,.ptr 0 0] [jD]=some (.ret vv,H1)∧(vv=.tup []∧H1=[.box [aR 1 1 (aj1 a0)] false,bR 3 1 (rI .i64) ([a0]:List Int) 0 0]):=by
 unfold QT at hm
 obtain ⟨n,rfl,h0⟩:=zu hm
 replace hm:=h0;clear h0
 refine ZJ 7 [(0,aI a0),jK] func52 rfl hJ (rg (st 3 [(5,aR 1 1 1),(4,aI a0),kB] [jD,bR 3 1 (rI .i64) ([a0]:List Int) 0 0] hJ ?_))
 obtain ⟨_,h1,hm⟩:=bs hm
 refine dO [(6,aR 2 1 (aj1 a0))] [jD,bR 3 1 (rI .i64) ([a0]:List Int) 0 0,bR 3 1 (rI .i64) ([a0]:List Int) 0 0] (Qa (u:=0) (rI .i64) ([a0]:List Int) (b:=8) t33 t3 rfl rfl rfl (fun _=>rfl) rfl h1 (show zT (aR 1 1 1) _=some (([a0]:List Int).map (rI .i64)) from by kernel_rfl) hJ) hJ (stf 1 [] [.box [aR 2 1 (aj1 a0)] false,bR 3 1 (rI .i64) ([a0]:List Int) 0 0,bR 3 1 (rI .i64) ([a0]:List Int) 0 0] hJ ?_)
 obtain rfl:=ji hm
 exact ⟨trivial,.tup [],[.box [aR 1 1 (aj1 a0)] false,bR 3 1 (rI .i64) ([a0]:List Int) 0 0],hJ,rfl,rfl⟩
abbrev aga:Nat×AV:=(1,.pv (.fn 51 [] []))
abbrev adV:Nat×AV:=(2,.fn 52 [] [.ptr 0 0])
theorem ZE {n:Nat}{a0:jv}{a1:zk}{r:(Option (List Int))×Int}(hm:Zb n a0 a1=some r):
   ∃ vv H1,call G n 49 [.agg (zc6 a1),.pv (.fn 51 [] []),.fn 52 [] [.ptr 0 0],.ptr 1 0] [jD,.box [.pv (zz a0)] false]=some (.ret vv,H1)∧(match (generalizing:=false) r with|(some r0,r1)=>(vv=aI r1∧H1=[.box [aR 2 1 r0.length] false,.box [.pv (zz a0)] false,bR 3 1 (rI .i64) r0 0 0])|(none,r1)=>(vv=aI r1∧H1=[jD,.box [.pv (zz a0)] false])):=by
 unfold Zb at hm
 obtain ⟨n,rfl,h0⟩:=zu hm
 replace hm:=h0;clear h0
 refine ZJ 30 [(0,.agg (zc6 a1)),aga,adV,jO] func49 rfl hJ (sq (det [aga,adV,jO,jN] [jD,.box [.pv (zz a0)] false,.box (zc6 a1) false] hJ (sq (rg (s1 2 [(zp90 a0),(11,.agg (zc6 a1))] ?_)))))
 obtain ⟨x1,h2,hm⟩:=bs hm
 refine dv 13 (zR hJ (aa9 h2) hJ hJ hJ) hJ (fq 5 [aga,adV,(8,aI x1.1),(9,aI x1.2)] ?_)
 obtain ⟨k5,hk5,hm⟩:=zt hm
 refine mid (fun t H=>(∃ (y4:Int) (w3:AV),k5 y4=some r∧t=mk 30 [adV,(8,aI x1.1),(9,aI y4),(23,w3)]∧H=[jD,.box [.pv (zz a0)] false,.box (zc6 a1) false])) ?_ ?_
 ·rintro _ _ ⟨y4,w3,hm,rfl,rfl⟩
  subst hk5
  refine sq (sq (dn [adV,(8,aI x1.1),(9,aI y4),(25,aB (y4==0))] ?_))
  rcases zf hm with ⟨h6,hm⟩|⟨h6,hm⟩
  ·refine c1 h6 (rg (s1 2 [(27,aI x1.1),(26,.fn 52 [] [.ptr 0 0])] ?_))
   obtain ⟨_,h7,hm⟩:=bs hm
   obtain ⟨vv,H1,hC,rfl,rfl⟩:=adk h7
   refine dR [(28,.tup [])] [.box [aR 3 1 (([x1.1]:List Int).length)] false,.box [.pv (zz a0)] false,.box (zc6 a1) false,bR 3 1 (rI .i64) ([x1.1]:List Int) 0 0] [0] [aI x1.1,.ptr 0 0] hJ hJ hJ hC hJ (fin [(9,aI y4)] rfl hJ (sq (dn [(7,aI y4)] (jf ?_))))
   obtain rfl:=ji hm
   exact ⟨trivial,aI y4,[.box [aR 2 1 (([x1.1]:List Int).length)] false,.box [.pv (zz a0)] false,bR 3 1 (rI .i64) ([x1.1]:List Int) 0 0],hJ,rfl,rfl⟩
  refine c0 h6 (jg (sq (dn [(7,aI y4)] (jf ?_))))
  obtain rfl:=ji hm
  exact ⟨trivial,aI y4,[jD,.box [.pv (zz a0)] false],hJ,rfl,rfl⟩
 refine sq (rg (s1 3 [(18,aB (x1.2==0)),(17,aB (x1.2==0)),(16,aI x1.2)] ?_))
 rcases zf hm with ⟨h8,hm⟩|⟨h8,hm⟩
 ·refine known [18,17] h8 hJ (s1 2 [(20,aI x1.1),(19,.pv (.fn 51 [] []))] ?_)
  obtain ⟨x9,h10,hm⟩:=bs hm
  refine dv 21 (zR hJ (abW h10) hJ hJ hJ) hJ (fq 2 [adV,(8,aI x1.1),(9,aI x1.2),(23,aB (!x9))] ?_)
  rcases zf hm with ⟨h11,hm⟩|⟨h11,hm⟩
  ·refine c1 h11 (dn [adV,(8,aI x1.1),kK] ?_)
   exact ⟨50,.any,hm,(zH hJ),rfl⟩
  refine c0 h11 (jg ?_)
  exact ⟨x1.2,aB (!x9),hm,(zH hJ),rfl⟩
 refine known [18,17] h8 hJ (fq 5 [adV,(8,aI x1.1),(9,aI x1.2),kO] (cF hJ (jg ?_)))
 exact ⟨x1.2,aB false,hm,(zH hJ),rfl⟩
theorem afh {n:Nat}{a0:jv}{a1:zk}{r:(Option (List Int))×Int}(hm:abo n a0 a1=some r):
   ∃ vv H1,call G n 57 [.agg (zc6 a1),.ptr 0 0,.ptr 2 0,.ptr 3 0] [jy,.box [.pv (zz a0)] false,jC,jz,jD]=some (.ret vv,H1)∧(match (generalizing:=false) r with|(none,r0)=>(vv=aI r0∧H1=[jy,.box [.pv (zz a0)] false,jC,jz,jD])|(some r1,r0)=>(vv=aI r0∧H1=[jy,.box [.pv (zz a0)] false,jC,jz,.box [aR 5 1 r1.length] false,bR 3 1 (rI .i64) r1 0 0])):=by
 unfold abo at hm
 obtain ⟨n,rfl,h0⟩:=zu hm
 replace hm:=h0;clear h0
 refine ZJ 11 [(0,.agg (zc6 a1)),jK,jE,jM] func57 rfl hJ (sq (det [jK,jE,jM,kf] [jy,.box [.pv (zz a0)] false,jC,jz,jD,.box (zc6 a1) false] hJ (sq (rg (s1 4 [(9,kW),(8,.pv (.fn 51 [] [])),(7,.agg (zc6 a1)),(6,.fn 49 [] [.ptr 1 0])] ?_)))))
 obtain ⟨x4,h1,hm⟩:=bs hm
 rcases x4 with ⟨_|x2,x3⟩
 ·obtain ⟨vv,H1,hC,rfl,rfl⟩:=ZE h1
  refine dR [(10,aI x3)] [jy,.box [.pv (zz a0)] false,jC,jz,jD,.box (zc6 a1) false] [4,1] [.agg (zc6 a1),.pv (.fn 51 [] []),kW,.ptr 1 0] hJ hJ hJ hC hJ (fq 1 [(5,aI x3)] (jf ?_))
  obtain rfl:=ji hm
  exact ⟨trivial,aI x3,[jy,.box [.pv (zz a0)] false,jC,jz,jD],hJ,rfl,rfl⟩
 obtain ⟨vv,H1,hC,rfl,rfl⟩:=ZE h1
 refine dR [(10,aI x3)] [jy,.box [.pv (zz a0)] false,jC,jz,.box [aR 6 1 x2.length] false,.box (zc6 a1) false,bR 3 1 (rI .i64) x2 0 0] [4,1] [.agg (zc6 a1),.pv (.fn 51 [] []),kW,.ptr 1 0] hJ hJ hJ hC hJ (fq 1 [(5,aI x3)] (jf ?_))
 obtain rfl:=ji hm
 exact ⟨trivial,aI x3,[jy,.box [.pv (zz a0)] false,jC,jz,.box [aR 5 1 x2.length] false,bR 3 1 (rI .i64) x2 0 0],hJ,rfl,rfl⟩
theorem acB (m1:Nat) (f1:Nat) {n:Nat}{a0:(List Int)}{a1:Int}{r:Unit}(hm1:a0.length=m1) (hf1:f1≤a0.length) (hm:Qj n a0 a1=some r):
  ∃ vv H1,call G n 52 [aI a1,.ptr 0 0] [.box [aR 1 1 m1] false,bR 3 1 (rI .i64) a0 f1 0]=some (.ret vv,H1)∧(vv=.tup []∧H1=[.box [aR 1 1 (aeQ a0 a1)] false,bR 3 1 (rI .i64) (a0++([a1]:List Int)) f1 0]):=by
 unfold Qj at hm
 obtain ⟨n,rfl,h0⟩:=zu hm
 replace hm:=h0;clear h0
 refine ZJ 7 [(0,aI a1),jK] func52 rfl hJ (rg (st 3 [(5,aR 2 1 1),(4,aI a1),(3,aR 1 1 m1)] [.box [aR 1 1 m1] false,bR 3 1 (rI .i64) a0 f1 0,bR 3 1 (rI .i64) ([a1]:List Int) 0 0] hJ ?_))
 obtain ⟨_,h1,hm⟩:=bs hm
 refine dO [(6,aR 1 1 (aeQ a0 a1))] [.box [aR 1 1 m1] false,bR 3 1 (rI .i64) (a0++([a1]:List Int)) f1 0,bR 3 1 (rI .i64) ([a1]:List Int) 0 0] (ZF (u:=0) (n:=m1) (id:=1) (rI .i64) a0 ([a1]:List Int) (b:=8) t33 t3 rfl rfl rfl (fun _=>rfl) rfl h1 rfl hZ hZ (show zT (aR 2 1 1) _=some (([a1]:List Int).map (rI .i64)) from by kernel_rfl) hJ) hJ (stf 1 [] [.box [aR 1 1 (aeQ a0 a1)] false,bR 3 1 (rI .i64) (a0++([a1]:List Int)) f1 0,bR 3 1 (rI .i64) ([a1]:List Int) 0 0] hJ ?_)
 obtain rfl:=ji hm
 exact ⟨trivial,.tup [],[.box [aR 1 1 (aeQ a0 a1)] false,bR 3 1 (rI .i64) (a0++([a1]:List Int)) f1 0],hJ,rfl,rfl⟩
theorem qL (m1:Nat) (f1:Nat) {n:Nat}{a0:(List Int)}{a1:jv}{a2:zk}{r:(List Int)×Int}(hm1:a0.length=m1) (hf1:f1≤a0.length) (hm:zY n a0 a1 a2=some r):
   ∃ vv H1,call G n 49 [.agg (zc6 a2),.pv (.fn 51 [] []),.fn 52 [] [.ptr 0 0],.ptr 2 0] [.box [aR 1 1 m1] false,bR 3 1 (rI .i64) a0 f1 0,.box [.pv (zz a1)] false]=some (.ret vv,H1)∧(match (generalizing:=false) r with|(r0,r1)=>(∃ (e2:Nat) (e3:Nat),r0.length=e2∧e3≤r0.length∧vv=aI r1∧H1=[.box [aR 1 1 e2] false,bR 3 1 (rI .i64) r0 e3 0,.box [.pv (zz a1)] false])):=by
 unfold zY at hm
 obtain ⟨n,rfl,h0⟩:=zu hm
 replace hm:=h0;clear h0
 refine ZJ 30 [(0,.agg (zc6 a2)),aga,adV,jR] func49 rfl hJ (sq (det [aga,adV,jR,jG] [.box [aR 1 1 m1] false,bR 3 1 (rI .i64) a0 f1 0,.box [.pv (zz a1)] false,.box (zc6 a2) false] hJ (sq (rg (s1 2 [(zp90 a1),(11,.agg (zc6 a2))] ?_)))))
 obtain ⟨x1,h2,hm⟩:=bs hm
 refine dv 13 (zR hJ (aa9 h2) hJ hJ hJ) hJ (fq 5 [aga,adV,(8,aI x1.1),(9,aI x1.2)] ?_)
 obtain ⟨k5,hk5,hm⟩:=zt hm
 refine mid (fun t H=>(∃ (y4:Int) (w3:AV),k5 y4=some r∧t=mk 30 [adV,(8,aI x1.1),(9,aI y4),(23,w3)]∧H=[.box [aR 1 1 m1] false,bR 3 1 (rI .i64) a0 f1 0,.box [.pv (zz a1)] false,.box (zc6 a2) false])) ?_ ?_
 ·rintro _ _ ⟨y4,w3,hm,rfl,rfl⟩
  subst hk5
  refine sq (sq (dn [adV,(8,aI x1.1),(9,aI y4),(25,aB (y4==0))] ?_))
  rcases zf hm with ⟨h6,hm⟩|⟨h6,hm⟩
  ·refine c1 h6 (rg (s1 2 [(27,aI x1.1),(26,.fn 52 [] [.ptr 0 0])] ?_))
   obtain ⟨_,h7,hm⟩:=bs hm
   obtain ⟨vv,H1,hC,rfl,rfl⟩:=acB m1 f1 hX hY h7
   refine dR [(28,.tup [])] [.box [aR 1 1 ((a0++([x1.1]:List Int)).length)] false,bR 3 1 (rI .i64) (a0++([x1.1]:List Int)) f1 0,.box [.pv (zz a1)] false,.box (zc6 a2) false] [0,1] [aI x1.1,.ptr 0 0] hJ hJ hJ hC hJ (fin [(9,aI y4)] rfl hJ (sq (dn [(7,aI y4)] (jf ?_))))
   obtain rfl:=ji hm
   exact ⟨trivial,aI y4,[.box [aR 1 1 ((a0++([x1.1]:List Int)).length)] false,bR 3 1 (rI .i64) (a0++([x1.1]:List Int)) f1 0,.box [.pv (zz a1)] false],hJ,(a0++([x1.1]:List Int)).length,f1,hX,hY,rfl,rfl⟩
  refine c0 h6 (jg (sq (dn [(7,aI y4)] (jf ?_))))
  obtain rfl:=ji hm
  exact ⟨trivial,aI y4,[.box [aR 1 1 m1] false,bR 3 1 (rI .i64) a0 f1 0,.box [.pv (zz a1)] false],hJ,m1,f1,hX,hY,rfl,rfl⟩
 refine sq (rg (s1 3 [(18,aB (x1.2==0)),(17,aB (x1.2==0)),(16,aI x1.2)] ?_))
 rcases zf hm with ⟨h8,hm⟩|⟨h8,hm⟩
 ·refine known [18,17] h8 hJ (s1 2 [(20,aI x1.1),(19,.pv (.fn 51 [] []))] ?_)
  obtain ⟨x9,h10,hm⟩:=bs hm
  refine dv 21 (zR hJ (abW h10) hJ hJ hJ) hJ (fq 2 [adV,(8,aI x1.1),(9,aI x1.2),(23,aB (!x9))] ?_)
  rcases zf hm with ⟨h11,hm⟩|⟨h11,hm⟩
  ·refine c1 h11 (dn [adV,(8,aI x1.1),kK] ?_)
   exact ⟨50,.any,hm,(zH hJ),rfl⟩
  refine c0 h11 (jg ?_)
  exact ⟨x1.2,aB (!x9),hm,(zH hJ),rfl⟩
 refine known [18,17] h8 hJ (fq 5 [adV,(8,aI x1.1),(9,aI x1.2),kO] (cF hJ (jg ?_)))
 exact ⟨x1.2,aB false,hm,(zH hJ),rfl⟩
theorem aip (m5:Nat) (f5:Nat) {n:Nat}{a0:(List Int)}{a1:jv}{a2:zk}{r:(List Int)×Int}(hm5:a0.length=m5) (hf5:f5≤a0.length) (hm:aaj n a0 a1 a2=some r):
  ∃ vv H1,call G n 57 [.agg (zc6 a2),.ptr 0 0,.ptr 2 0,.ptr 3 0] [jy,.box [.pv (zz a1)] false,jC,jz,.box [aR 5 1 m5] false,bR 3 1 (rI .i64) a0 f5 0]=some (.ret vv,H1)∧(match (generalizing:=false) r with|(r0,r1)=>(∃ (e2:Nat) (e3:Nat),r0.length=e2∧e3≤r0.length∧vv=aI r1∧H1=[jy,.box [.pv (zz a1)] false,jC,jz,.box [aR 5 1 e2] false,bR 3 1 (rI .i64) r0 e3 0])):=by
 unfold aaj at hm
 obtain ⟨n,rfl,h0⟩:=zu hm
 replace hm:=h0;clear h0
 refine ZJ 11 [(0,.agg (zc6 a2)),jK,jE,jM] func57 rfl hJ (sq (det [jK,jE,jM,kg] [jy,.box [.pv (zz a1)] false,jC,jz,.box [aR 5 1 m5] false,bR 3 1 (rI .i64) a0 f5 0,.box (zc6 a2) false] hJ (sq (rg (s1 4 [(9,kW),(8,.pv (.fn 51 [] [])),(7,.agg (zc6 a2)),(6,.fn 49 [] [.ptr 1 0])] ?_)))))
 obtain ⟨⟨x2,x3⟩,h1,hm⟩:=bs hm
 obtain ⟨vv,H1,hC,g4,g5,q6,q7,rfl,rfl⟩:=qL m5 f5 hX hY h1
 refine dR [(10,aI x3)] [jy,.box [.pv (zz a1)] false,jC,jz,.box [aR 5 1 g4] false,bR 3 1 (rI .i64) x2 g5 0,.box (zc6 a2) false] [4,5,1] [.agg (zc6 a2),.pv (.fn 51 [] []),kW,.ptr 1 0] hJ hJ hJ hC hJ (fq 1 [(5,aI x3)] (jf ?_))
 obtain rfl:=ji hm
 exact ⟨trivial,aI x3,[jy,.box [.pv (zz a1)] false,jC,jz,.box [aR 5 1 g4] false,bR 3 1 (rI .i64) x2 g5 0],hJ,g4,g5,hX,hY,rfl,rfl⟩
abbrev abS:Nat×AV:=(1,.fn 57 [] [.ptr 0 0,.ptr 2 0,.ptr 3 0])
theorem aaw {n:Nat}{a0:jv}{a1:jo}{r:(Option (List Int))×Int}(hm:qg n a0 a1=some r):
   ∃ vv H1,call G n 53 [.pv (acK a1),.fn 57 [] [.ptr 0 0,.ptr 2 0,.ptr 3 0]] [jy,.box [.pv (zz a0)] false,jC,jz,jD]=some (.ret vv,H1)∧(match (generalizing:=false) r with|(none,r0)=>(vv=aI r0∧H1=[jy,.box [.pv (zz a0)] false,jC,jz,jD])|(some r1,r0)=>(∃ (e2:Nat) (e3:Nat),r1.length=e2∧e3≤r1.length∧vv=aI r0∧H1=[jy,.box [.pv (zz a0)] false,jC,jz,.box [aR 5 1 e2] false,bR 3 1 (rI .i64) r1 e3 0])):=by
 unfold qg at hm
 obtain ⟨n,rfl,h0⟩:=zu hm
 replace hm:=h0;clear h0
 refine ZJ 21 [(zp75 a1),abS] func53 rfl hJ (sq (dn [(zp75 a1),abS] ?_))
 obtain ⟨k8,hk8,hm⟩:=zt hm
 refine mid (fun t H=>(∃ (w1:AV) (w2:AV),k8 none=some r∧t=mk 21 [abS,(QV a1),(aae a1),(10,w1),(11,w2)]∧H=[jy,.box [.pv (zz a0)] false,jC,jz,jD])∨(∃ (y3:(List Int)) (w1:AV) (w2:AV) (g4:Nat) (g6:Nat),k8 (some y3)=some r∧t=mk 21 [abS,(QV a1),(aae a1),(10,w1),(11,w2)]∧H=[jy,.box [.pv (zz a0)] false,jC,jz,.box [aR 5 1 g4] false,bR 3 1 (rI .i64) y3 g6 0]∧y3.length=g4∧g6≤y3.length)) ?_ ?_
 ·rintro _ _ (⟨w1,w2,hm,rfl,rfl⟩|⟨y3,w1,w2,g4,g6,hm,rfl,rfl,q5,q7⟩)
  ·subst hk8
   refine sq (dn [kF] (jf ?_))
   obtain rfl:=ji hm
   exact ⟨trivial,aI 0,[jy,.box [.pv (zz a0)] false,jC,jz,jD],hJ,rfl,rfl⟩
  subst hk8
  refine sq (dn [kF] (jf ?_))
  obtain rfl:=ji hm
  exact ⟨trivial,aI 0,[jy,.box [.pv (zz a0)] false,jC,jz,.box [aR 5 1 g4] false,bR 3 1 (rI .i64) y3 g6 0],hJ,g4,g6,hX,hY,rfl,rfl⟩
 refine sq (rg (s1 1 [(QV a1)] (dv 9 (v:=aI (afn a1)) (zP za a1 t23 hJ) hJ (fq 1 [abS,(QV a1),(aae a1),(10,aI 0)] (bq ?_)))))
 refine qB (fun mm t H=>(∃ (y18:Int),zI n a0 a1 k8 mm none y18=some r∧t=mk 21 [abS,(QV a1),(aae a1),(10,aI y18)]∧H=[jy,.box [.pv (zg zA a0)] false,jC,jz,jD])∨(∃ (y17:(List Int)) (y18:Int) (g19:Nat) (g21:Nat),zI n a0 a1 k8 mm (some y17) y18=some r∧t=mk 21 [abS,(QV a1),(aae a1),(10,aI y18)]∧H=[jy,.box [.pv (zg zA a0)] false,jC,jz,.box [aR 5 1 g19] false,bR 3 1 (rI .i64) y17 g21 0]∧y17.length=g19∧g21≤y17.length)) (.inl ⟨0,hm,rfl,rfl⟩) ?_ ?_
 ·
   rintro _ _ (⟨y18,hm,_⟩|⟨y17,y18,g19,g21,hm,_⟩)<;>exact nomatch hm
 rintro m23 _ _ (⟨y18,hm,rfl,rfl⟩|⟨y17,y18,g19,g21,hm,rfl,rfl,q20,q22⟩)
 ·simp only [zI] at hm
  refine sq (dn [abS,(QV a1),(aae a1),(10,aI y18),(11,aB (adJ y18 a1))] ?_)
  refine sq ?_
  rcases zf hm with ⟨h24,hm⟩|⟨h24,hm⟩
  ·refine c1 h24 (jg (sq (bq (sq (rg ?_)))))
   obtain ⟨x25,h26,hm⟩:=bs hm
   refine dv 12 (v:=.pv (.ptr (abe x25) 0)) (aaA za a1 .i64 t23 t49 h26 (zU x25) rfl hJ) hJ (stf 3 [abS,(6,.ptr 5 0),(QV a1),(aae a1),(10,aI y18)] [jy,.box [.pv (zz a0)] false,jC,jz,jD,.box (zc8 x25) false] hJ (sq (rg (s1 2 [(15,.agg (zc8 x25)),(14,.fn 57 [] [.ptr 0 0,.ptr 2 0,.ptr 3 0])] ?_))))
   obtain ⟨x30,h27,hm⟩:=bs hm
   rcases x30 with ⟨_|x28,x29⟩
   ·obtain ⟨vv,H1,hC,rfl,rfl⟩:=afh h27
    refine dR [(16,aI x29)] [jy,.box [.pv (zz a0)] false,jC,jz,jD,.box (zc8 x25) false] [0,1,2,3,4] [.agg (zc8 x25),.ptr 0 0,.ptr 2 0,.ptr 3 0] hJ hJ hJ hC hJ (fq 1 [abS,(7,aI x29),(QV a1),(aae a1),(10,aI y18)] (sq (dn [abS,(7,aI x29),(QV a1),(aae a1),(10,aI y18),(18,aB (x29 !=0))] ?_)))
    rcases zf hm with ⟨h31,hm⟩|⟨h31,hm⟩
    ·refine c1 h31 (sq (dn [(4,aI x29)] (jf ?_)))
     obtain rfl:=ji hm
     exact ⟨trivial,aI x29,[jy,.box [.pv (zz a0)] false,jC,jz,jD],hJ,rfl,rfl⟩
    refine c0 h31 (jg (dn [abS,(QV a1),(aae a1),(zp95 y18)] ?_))
    exact ⟨_,_,ZD [abS,(QV a1),(aae a1),(zp95 y18)] [jy,.box [.pv (zz a0)] false,jC,jz,jD] hJ,.inl ⟨(Zk y18),hm,rfl,rfl⟩⟩
   obtain ⟨vv,H1,hC,rfl,rfl⟩:=afh h27
   refine dR [(16,aI x29)] [jy,.box [.pv (zz a0)] false,jC,jz,.box [aR 6 1 x28.length] false,.box (zc8 x25) false,bR 3 1 (rI .i64) x28 0 0] [0,1,2,3,4] [.agg (zc8 x25),.ptr 0 0,.ptr 2 0,.ptr 3 0] hJ hJ hJ hC hJ (fq 1 [abS,(7,aI x29),(QV a1),(aae a1),(10,aI y18)] (sq (dn [abS,(7,aI x29),(QV a1),(aae a1),(10,aI y18),(18,aB (x29 !=0))] ?_)))
   rcases zf hm with ⟨h32,hm⟩|⟨h32,hm⟩
   ·refine c1 h32 (sq (dn [(4,aI x29)] (jf ?_)))
    obtain rfl:=ji hm
    exact ⟨trivial,aI x29,[jy,.box [.pv (zz a0)] false,jC,jz,.box [aR 5 1 x28.length] false,bR 3 1 (rI .i64) x28 0 0],hJ,x28.length,0,hX,hY,rfl,rfl⟩
   refine c0 h32 (jg (dn [abS,(QV a1),(aae a1),(zp95 y18)] ?_))
   exact ⟨_,_,ZD [abS,(QV a1),(aae a1),(zp95 y18)] [jy,.box [.pv (zz a0)] false,jC,jz,.box [aR 5 1 x28.length] false,bR 3 1 (rI .i64) x28 0 0] hJ,.inr (⟨x28,(Zk y18),x28.length,0,hm,rfl,rfl,hX,hY⟩)⟩
  refine c0 h24 (jh ?_)
  exact .inl ⟨aI y18,aB (adJ y18 a1),hm,(zH hJ),rfl⟩
 simp only [zI] at hm
 refine sq (dn [abS,(QV a1),(aae a1),(10,aI y18),(11,aB (adJ y18 a1))] ?_)
 refine sq ?_
 rcases zf hm with ⟨h33,hm⟩|⟨h33,hm⟩
 ·refine c1 h33 (jg (sq (bq (sq (rg ?_)))))
  obtain ⟨x34,h35,hm⟩:=bs hm
  refine dv 12 (v:=.pv (.ptr (abe x34) 0)) (aaA za a1 .i64 t23 t49 h35 (zU x34) rfl hJ) hJ (stf 3 [abS,(6,.ptr 6 0),(QV a1),(aae a1),(10,aI y18)] [jy,.box [.pv (zz a0)] false,jC,jz,.box [aR 5 1 g19] false,bR 3 1 (rI .i64) y17 g21 0,.box (zc8 x34) false] hJ (sq (rg (s1 2 [(15,.agg (zc8 x34)),(14,.fn 57 [] [.ptr 0 0,.ptr 2 0,.ptr 3 0])] ?_))))
  obtain ⟨⟨x37,x38⟩,h36,hm⟩:=bs hm
  obtain ⟨vv,H1,hC,g39,g40,q41,q42,rfl,rfl⟩:=aip g19 g21 hX hY h36
  refine dR [(16,aI x38)] [jy,.box [.pv (zz a0)] false,jC,jz,.box [aR 5 1 g39] false,bR 3 1 (rI .i64) x37 g40 0,.box (zc8 x34) false] [0,1,2,3,4,5] [.agg (zc8 x34),.ptr 0 0,.ptr 2 0,.ptr 3 0] hJ hJ hJ hC hJ (fq 1 [abS,(7,aI x38),(QV a1),(aae a1),(10,aI y18)] (sq (dn [abS,(7,aI x38),(QV a1),(aae a1),(10,aI y18),(18,aB (x38 !=0))] ?_)))
  rcases zf hm with ⟨h43,hm⟩|⟨h43,hm⟩
  ·refine c1 h43 (sq (dn [(4,aI x38)] (jf ?_)))
   obtain rfl:=ji hm
   exact ⟨trivial,aI x38,[jy,.box [.pv (zz a0)] false,jC,jz,.box [aR 5 1 g39] false,bR 3 1 (rI .i64) x37 g40 0],hJ,g39,g40,hX,hY,rfl,rfl⟩
  refine c0 h43 (jg (dn [abS,(QV a1),(aae a1),(zp95 y18)] ?_))
  exact ⟨_,_,ZD [abS,(QV a1),(aae a1),(zp95 y18)] [jy,.box [.pv (zz a0)] false,jC,jz,.box [aR 5 1 g39] false,bR 3 1 (rI .i64) x37 g40 0] hJ,.inr (⟨x37,(Zk y18),g39,g40,hm,rfl,rfl,hX,hY⟩)⟩
 refine c0 h33 (jh ?_)
 exact .inr (⟨y17,aI y18,aB (adJ y18 a1),g19,g21,hm,(zH hJ),rfl,hX,hY⟩)
abbrev ad6:=(([2]:List Int).length)
theorem aik {n:Nat}{a0:Int}{r:Unit}(hm:acw n a0=some r):
  ∃ vv H1,call G n 60 [aI a0,.ptr 0 0] [jA,jD]=some (.ret vv,H1)∧(vv=.tup []∧H1=[jA,.box [aR 2 1 ad6] false,bR 3 1 (rI .i64) ([2]:List Int) 0 0]):=by
 unfold acw at hm
 obtain ⟨n,rfl,h0⟩:=zu hm
 replace hm:=h0;clear h0
 refine ZJ 5 [(0,aI a0),jK] func60 rfl hJ (rg (s1 1 [(3,.fn 52 [] [.ptr 1 0])] ?_))
 obtain ⟨_,h1,hm⟩:=bs hm
 obtain ⟨vv,H1,hC,rfl,rfl⟩:=adk h1
 refine dR [(4,.tup [])] [jA,.box [aR 2 1 ad6] false,bR 3 1 (rI .i64) ([2]:List Int) 0 0] [1] [aI 2,.ptr 1 0] hJ hJ hJ hC hJ (fin [] rfl hJ ?_)
 obtain rfl:=ji hm
 exact ⟨trivial,.tup [],[jA,.box [aR 2 1 ad6] false,bR 3 1 (rI .i64) ([2]:List Int) 0 0],hJ,rfl,rfl⟩
abbrev ad5:Nat×AV:=(2,.fn 60 [] [.ptr 0 0])
theorem qJ {n:Nat}{a0:jv}{a1:zk}{r:(Option (List Int))×Int}(hm:ZH n a0 a1=some r):
   ∃ vv H1,call G n 49 [.agg (zc6 a1),.pv (.fn 51 [] []),.fn 60 [] [.ptr 0 0],.ptr 2 0] [jA,jD,.box [.pv (zz a0)] false]=some (.ret vv,H1)∧(match (generalizing:=false) r with|(some r0,r1)=>(r0.length=([2]:List Int).length∧vv=aI r1∧H1=[jA,.box [aR 3 1 ad6] false,.box [.pv (zz a0)] false,bR 3 1 (rI .i64) r0 0 0])|(none,r1)=>(vv=aI r1∧H1=[jA,jD,.box [.pv (zz a0)] false])):=by
 unfold ZH at hm
 obtain ⟨n,rfl,h0⟩:=zu hm
 replace hm:=h0;clear h0
 refine ZJ 30 [(0,.agg (zc6 a1)),aga,ad5,jR] func49 rfl hJ (sq (det [aga,ad5,jR,jG] [jA,jD,.box [.pv (zz a0)] false,.box (zc6 a1) false] hJ (sq (rg (s1 2 [(zp90 a0),(11,.agg (zc6 a1))] ?_)))))
 obtain ⟨x1,h2,hm⟩:=bs hm
 refine dv 13 (zR hJ (aa9 h2) hJ hJ hJ) hJ (fq 5 [aga,ad5,(8,aI x1.1),(9,aI x1.2)] ?_)
 obtain ⟨k5,hk5,hm⟩:=zt hm
 refine mid (fun t H=>(∃ (y4:Int) (w3:AV),k5 y4=some r∧t=mk 30 [ad5,(8,aI x1.1),(9,aI y4),(23,w3)]∧H=[jA,jD,.box [.pv (zz a0)] false,.box (zc6 a1) false])) ?_ ?_
 ·rintro _ _ ⟨y4,w3,hm,rfl,rfl⟩
  subst hk5
  refine sq (sq (dn [ad5,(8,aI x1.1),(9,aI y4),(25,aB (y4==0))] ?_))
  rcases zf hm with ⟨h6,hm⟩|⟨h6,hm⟩
  ·refine c1 h6 (rg (s1 2 [(27,aI x1.1),(26,.fn 60 [] [.ptr 0 0])] ?_))
   obtain ⟨_,h7,hm⟩:=bs hm
   obtain ⟨vv,H1,hC,rfl,rfl⟩:=aik h7
   refine dR [(28,.tup [])] [jA,.box [aR 4 1 ad6] false,.box [.pv (zz a0)] false,.box (zc6 a1) false,bR 3 1 (rI .i64) ([2]:List Int) 0 0] [0,1] [aI x1.1,.ptr 0 0] hJ hJ hJ hC hJ (fin [(9,aI y4)] rfl hJ (sq (dn [(7,aI y4)] (jf ?_))))
   obtain rfl:=ji hm
   exact ⟨trivial,aI y4,[jA,.box [aR 3 1 ad6] false,.box [.pv (zz a0)] false,bR 3 1 (rI .i64) ([2]:List Int) 0 0],hJ,hX,rfl,rfl⟩
  refine c0 h6 (jg (sq (dn [(7,aI y4)] (jf ?_))))
  obtain rfl:=ji hm
  exact ⟨trivial,aI y4,[jA,jD,.box [.pv (zz a0)] false],hJ,rfl,rfl⟩
 refine sq (rg (s1 3 [(18,aB (x1.2==0)),(17,aB (x1.2==0)),(16,aI x1.2)] ?_))
 rcases zf hm with ⟨h8,hm⟩|⟨h8,hm⟩
 ·refine known [18,17] h8 hJ (s1 2 [(20,aI x1.1),(19,.pv (.fn 51 [] []))] ?_)
  obtain ⟨x9,h10,hm⟩:=bs hm
  refine dv 21 (zR hJ (abW h10) hJ hJ hJ) hJ (fq 2 [ad5,(8,aI x1.1),(9,aI x1.2),(23,aB (!x9))] ?_)
  rcases zf hm with ⟨h11,hm⟩|⟨h11,hm⟩
  ·refine c1 h11 (dn [ad5,(8,aI x1.1),kK] ?_)
   exact ⟨50,.any,hm,(zH hJ),rfl⟩
  refine c0 h11 (jg ?_)
  exact ⟨x1.2,aB (!x9),hm,(zH hJ),rfl⟩
 refine known [18,17] h8 hJ (fq 5 [ad5,(8,aI x1.1),(9,aI x1.2),kO] (cF hJ (jg ?_)))
 exact ⟨x1.2,aB false,hm,(zH hJ),rfl⟩
theorem aeL {n:Nat}{a0:Int}{r:Bool}(hm:aal n a0=some r):
  call G n 61 [aI a0] []=some (.ret (aB r),[]):=by
 unfold aal at hm
 obtain ⟨n,rfl,h0⟩:=zu hm
 replace hm:=h0;clear h0
 refine Z2 9 [(0,aI a0)] func61 rfl hJ (sq (dn [(0,aI a0)] (sq (rg (s1 3 [(5,aB (a0==0)),(4,aB (a0==0)),(3,aI a0)] ?_)))))
 refine segP (a0==0) [5,4] (fun b=>[(8,aB (b||(a0==2))),(7,ifA b jb (aB (a0==2))),(6,ifA b jb (aI a0))]) 3 hJ hJ hJ (fq 1 [(2,aB ((a0==0)||(a0==2)))] (jf ?_))
 cases hm;exact hM
theorem aia {n:Nat}{a0:Int}{r:Unit}(hm:acr n a0=some r):
  ∃ vv H1,call G n 62 [aI a0,.ptr 0 0] [jA,jD]=some (.ret vv,H1)∧(vv=.tup []∧H1=[jA,.box [aR 2 1 ad6] false,bR 3 1 (rI .i64) ([2]:List Int) 0 0]):=by
 unfold acr at hm
 obtain ⟨n,rfl,h0⟩:=zu hm
 replace hm:=h0;clear h0
 refine ZJ 5 [(0,aI a0),jK] func62 rfl hJ (rg (s1 1 [(3,.fn 52 [] [.ptr 1 0])] ?_))
 obtain ⟨_,h1,hm⟩:=bs hm
 obtain ⟨vv,H1,hC,rfl,rfl⟩:=adk h1
 refine dR [(4,.tup [])] [jA,.box [aR 2 1 ad6] false,bR 3 1 (rI .i64) ([2]:List Int) 0 0] [1] [aI 2,.ptr 1 0] hJ hJ hJ hC hJ (fin [] rfl hJ ?_)
 obtain rfl:=ji hm
 exact ⟨trivial,.tup [],[jA,.box [aR 2 1 ad6] false,bR 3 1 (rI .i64) ([2]:List Int) 0 0],hJ,rfl,rfl⟩
abbrev adU:Nat×AV:=(2,.fn 62 [] [.ptr 0 0])
theorem qE {n:Nat}{a0:jv}{a1:zk}{r:(Option (List Int))×Int}(hm:ZC n a0 a1=some r):
   ∃ vv H1,call G n 49 [.agg (zc6 a1),.pv (.fn 61 [] []),.fn 62 [] [.ptr 0 0],.ptr 2 0] [jA,jD,.box [.pv (zz a0)] false]=some (.ret vv,H1)∧(match (generalizing:=false) r with|(some r0,r1)=>(r0.length=([2]:List Int).length∧vv=aI r1∧H1=[jA,.box [aR 3 1 ad6] false,.box [.pv (zz a0)] false,bR 3 1 (rI .i64) r0 0 0])|(none,r1)=>(vv=aI r1∧H1=[jA,jD,.box [.pv (zz a0)] false])):=by
 unfold ZC at hm
 obtain ⟨n,rfl,h0⟩:=zu hm
 replace hm:=h0;clear h0
 refine ZJ 30 [(0,.agg (zc6 a1)),(1,.pv (.fn 61 [] [])),adU,jR] func49 rfl hJ (sq (det [(1,.pv (.fn 61 [] [])),adU,jR,jG] [jA,jD,.box [.pv (zz a0)] false,.box (zc6 a1) false] hJ (sq (rg (s1 2 [(zp90 a0),(11,.agg (zc6 a1))] ?_)))))
 obtain ⟨x1,h2,hm⟩:=bs hm
 refine dv 13 (zR hJ (aa9 h2) hJ hJ hJ) hJ (fq 5 [(1,.pv (.fn 61 [] [])),adU,(8,aI x1.1),(9,aI x1.2)] ?_)
 obtain ⟨k5,hk5,hm⟩:=zt hm
 refine mid (fun t H=>(∃ (y4:Int) (w3:AV),k5 y4=some r∧t=mk 30 [adU,(8,aI x1.1),(9,aI y4),(23,w3)]∧H=[jA,jD,.box [.pv (zz a0)] false,.box (zc6 a1) false])) ?_ ?_
 ·rintro _ _ ⟨y4,w3,hm,rfl,rfl⟩
  subst hk5
  refine sq (sq (dn [adU,(8,aI x1.1),(9,aI y4),(25,aB (y4==0))] ?_))
  rcases zf hm with ⟨h6,hm⟩|⟨h6,hm⟩
  ·refine c1 h6 (rg (s1 2 [(27,aI x1.1),(26,.fn 62 [] [.ptr 0 0])] ?_))
   obtain ⟨_,h7,hm⟩:=bs hm
   obtain ⟨vv,H1,hC,rfl,rfl⟩:=aia h7
   refine dR [(28,.tup [])] [jA,.box [aR 4 1 ad6] false,.box [.pv (zz a0)] false,.box (zc6 a1) false,bR 3 1 (rI .i64) ([2]:List Int) 0 0] [0,1] [aI x1.1,.ptr 0 0] hJ hJ hJ hC hJ (fin [(9,aI y4)] rfl hJ (sq (dn [(7,aI y4)] (jf ?_))))
   obtain rfl:=ji hm
   exact ⟨trivial,aI y4,[jA,.box [aR 3 1 ad6] false,.box [.pv (zz a0)] false,bR 3 1 (rI .i64) ([2]:List Int) 0 0],hJ,hX,rfl,rfl⟩
  refine c0 h6 (jg (sq (dn [(7,aI y4)] (jf ?_))))
  obtain rfl:=ji hm
  exact ⟨trivial,aI y4,[jA,jD,.box [.pv (zz a0)] false],hJ,rfl,rfl⟩
 refine sq (rg (s1 3 [(18,aB (x1.2==0)),(17,aB (x1.2==0)),(16,aI x1.2)] ?_))
 rcases zf hm with ⟨h8,hm⟩|⟨h8,hm⟩
 ·refine known [18,17] h8 hJ (s1 2 [(20,aI x1.1),(19,.pv (.fn 61 [] []))] ?_)
  obtain ⟨x9,h10,hm⟩:=bs hm
  refine dv 21 (zR hJ (aeL h10) hJ hJ hJ) hJ (fq 2 [adU,(8,aI x1.1),(9,aI x1.2),(23,aB (!x9))] ?_)
  rcases zf hm with ⟨h11,hm⟩|⟨h11,hm⟩
  ·refine c1 h11 (dn [adU,(8,aI x1.1),kK] ?_)
   exact ⟨50,.any,hm,(zH hJ),rfl⟩
  refine c0 h11 (jg ?_)
  exact ⟨x1.2,aB (!x9),hm,(zH hJ),rfl⟩
 refine known [18,17] h8 hJ (fq 5 [adU,(8,aI x1.1),(9,aI x1.2),kO] (cF hJ (jg ?_)))
 exact ⟨x1.2,aB false,hm,(zH hJ),rfl⟩
theorem afj {n:Nat}{a0:jv}{a1:zm}{r:(Option (List Int))×Int}(hm:acb n a0 a1=some r):
   ∃ vv H1,call G n 59 [.agg (zc3 a1),.ptr 0 0,.ptr 2 0,.ptr 3 0] [jy,.box [.pv (zz a0)] false,jC,jz,jD]=some (.ret vv,H1)∧(match (generalizing:=false) r with|(none,r0)=>(vv=aI r0∧H1=[jy,.box [.pv (zz a0)] false,jC,jz,jD])|(some r1,r0)=>(∃ (e2:Nat),r1.length=e2∧vv=aI r0∧H1=[jy,.box [.pv (zz a0)] false,jC,jz,.box [aR 5 1 e2] false,bR 3 1 (rI .i64) r1 0 0])):=by
 unfold acb at hm
 obtain ⟨n,rfl,h0⟩:=zu hm
 replace hm:=h0;clear h0
 refine ZJ 29 [(0,.agg (zc3 a1)),jK,jE,jM] func59 rfl hJ (sq (det [jK,jE,jM,kf] [jy,.box [.pv (zz a0)] false,jC,jz,jD,.box (zc3 a1) false] hJ ?_))
 refine sq (sq (dn [jK,jE,jM,kf,(7,aI a1.A)] (bq (sq (dn [jK,jE,jM,kf,(7,aI a1.A),(8,aB (a1.A==1))] ?_)))))
 rcases zf hm with ⟨h1,hm⟩|⟨h1,hm⟩
 ·refine c1 h1 (sq (rg (s1 5 [(14,kX),(13,.pv (.fn 51 [] [])),(12,.agg (zc1 a1)),(11,.ptr 5 1),(10,.fn 49 [] [.ptr 1 0])] ?_)))
  obtain ⟨x5,h2,hm⟩:=bs hm
  rcases x5 with ⟨_|x3,x4⟩
  ·obtain ⟨vv,H1,hC,rfl,rfl⟩:=qJ h2
   refine dR [(15,aI x4)] [jy,.box [.pv (zz a0)] false,jC,jz,jD,.box (zc3 a1) false] [3,4,1] [.agg (zc1 a1),.pv (.fn 51 [] []),kX,.ptr 1 0] hJ hJ hJ hC hJ (fq 1 [(5,aI x4)] (jf ?_))
   obtain rfl:=ji hm
   exact ⟨trivial,aI x4,[jy,.box [.pv (zz a0)] false,jC,jz,jD],hJ,rfl,rfl⟩
  obtain ⟨vv,H1,hC,q6,rfl,rfl⟩:=qJ h2
  refine dR [(15,aI x4)] [jy,.box [.pv (zz a0)] false,jC,jz,.box [aR 6 1 ad6] false,.box (zc3 a1) false,bR 3 1 (rI .i64) x3 0 0] [3,4,1] [.agg (zc1 a1),.pv (.fn 51 [] []),kX,.ptr 1 0] hJ hJ hJ hC hJ (fq 1 [(5,aI x4)] (jf ?_))
  obtain rfl:=ji hm
  exact ⟨trivial,aI x4,[jy,.box [.pv (zz a0)] false,jC,jz,.box [aR 5 1 ad6] false,bR 3 1 (rI .i64) x3 0 0],hJ,([2]:List Int).length,hX,rfl,rfl⟩
 refine c0 h1 (sq (dn [jK,jE,jM,kf,(16,aB (a1.A==2))] ?_))
 rcases zf hm with ⟨h7,hm⟩|⟨h7,hm⟩
 ·refine c1 h7 (sq (rg (s1 4 [(21,kY),(20,.agg (zc1 a1)),(19,.ptr 5 1),(18,.fn 49 [] [.ptr 1 0])] ?_)))
  obtain ⟨x11,h8,hm⟩:=bs hm
  rcases x11 with ⟨_|x9,x10⟩
  ·obtain ⟨vv,H1,hC,rfl,rfl⟩:=qE h8
   refine dR [(22,aI x10)] [jy,.box [.pv (zz a0)] false,jC,jz,jD,.box (zc3 a1) false] [3,4,1] [.agg (zc1 a1),.pv (.fn 61 [] []),kY,.ptr 1 0] hJ hJ hJ hC hJ (fq 1 [(5,aI x10)] (jf ?_))
   obtain rfl:=ji hm
   exact ⟨trivial,aI x10,[jy,.box [.pv (zz a0)] false,jC,jz,jD],hJ,rfl,rfl⟩
  obtain ⟨vv,H1,hC,q12,rfl,rfl⟩:=qE h8
  refine dR [(22,aI x10)] [jy,.box [.pv (zz a0)] false,jC,jz,.box [aR 6 1 ad6] false,.box (zc3 a1) false,bR 3 1 (rI .i64) x9 0 0] [3,4,1] [.agg (zc1 a1),.pv (.fn 61 [] []),kY,.ptr 1 0] hJ hJ hJ hC hJ (fq 1 [(5,aI x10)] (jf ?_))
  obtain rfl:=ji hm
  exact ⟨trivial,aI x10,[jy,.box [.pv (zz a0)] false,jC,jz,.box [aR 5 1 ad6] false,bR 3 1 (rI .i64) x9 0 0],hJ,([2]:List Int).length,hX,rfl,rfl⟩
 refine c0 h7 (jg (sq (rg (s1 5 [(27,kW),(26,.pv (.fn 51 [] [])),(25,.agg (zc1 a1)),(24,.ptr 5 1),(23,.fn 49 [] [.ptr 1 0])] ?_))))
 obtain ⟨x16,h13,hm⟩:=bs hm
 rcases x16 with ⟨_|x14,x15⟩
 ·obtain ⟨vv,H1,hC,rfl,rfl⟩:=ZE h13
  refine dR [(28,aI x15)] [jy,.box [.pv (zz a0)] false,jC,jz,jD,.box (zc3 a1) false] [4,1] [.agg (zc1 a1),.pv (.fn 51 [] []),kW,.ptr 1 0] hJ hJ hJ hC hJ (fq 1 [(5,aI x15)] (jf ?_))
  obtain rfl:=ji hm
  exact ⟨trivial,aI x15,[jy,.box [.pv (zz a0)] false,jC,jz,jD],hJ,rfl,rfl⟩
 obtain ⟨vv,H1,hC,rfl,rfl⟩:=ZE h13
 refine dR [(28,aI x15)] [jy,.box [.pv (zz a0)] false,jC,jz,.box [aR 6 1 x14.length] false,.box (zc3 a1) false,bR 3 1 (rI .i64) x14 0 0] [4,1] [.agg (zc1 a1),.pv (.fn 51 [] []),kW,.ptr 1 0] hJ hJ hJ hC hJ (fq 1 [(5,aI x15)] (jf ?_))
 obtain rfl:=ji hm
 exact ⟨trivial,aI x15,[jy,.box [.pv (zz a0)] false,jC,jz,.box [aR 5 1 x14.length] false,bR 3 1 (rI .i64) x14 0 0],hJ,x14.length,hX,rfl,rfl⟩
abbrev zc10 (p0:(List Int)):List AV:=[aR 2 1 ((p0++([2]:List Int)).length)]
abbrev af5 (p0:(List Int)):=(p0++([2]:List Int))
theorem ahg (m2:Nat) (f2:Nat) {n:Nat}{a0:(List Int)}{a1:Int}{r:Unit}(hm2:a0.length=m2) (hf2:f2≤a0.length) (hm:abt n a0 a1=some r):
  ∃ vv H1,call G n 60 [aI a1,.ptr 0 0] [jA,.box [aR 2 1 m2] false,bR 3 1 (rI .i64) a0 f2 0]=some (.ret vv,H1)∧(vv=.tup []∧H1=[jA,.box (zc10 a0) false,bR 3 1 (rI .i64) (af5 a0) f2 0]):=by
 unfold abt at hm
 obtain ⟨n,rfl,h0⟩:=zu hm
 replace hm:=h0;clear h0
 refine ZJ 5 [(0,aI a1),jK] func60 rfl hJ (rg (s1 1 [(3,.fn 52 [] [.ptr 1 0])] ?_))
 obtain ⟨_,h1,hm⟩:=bs hm
 obtain ⟨vv,H1,hC,rfl,rfl⟩:=acB m2 f2 hX hY h1
 refine dR [(4,.tup [])] [jA,.box (zc10 a0) false,bR 3 1 (rI .i64) (af5 a0) f2 0] [1,2] [aI 2,.ptr 1 0] hJ hJ hJ hC hJ (fin [] rfl hJ ?_)
 obtain rfl:=ji hm
 exact ⟨trivial,.tup [],[jA,.box (zc10 a0) false,bR 3 1 (rI .i64) (af5 a0) f2 0],hJ,rfl,rfl⟩
theorem aai (m2:Nat) (f2:Nat) {n:Nat}{a0:(List Int)}{a1:jv}{a2:zk}{r:(List Int)×Int}(hm2:a0.length=m2) (hf2:f2≤a0.length) (hm:ZA n a0 a1 a2=some r):
   ∃ vv H1,call G n 49 [.agg (zc6 a2),.pv (.fn 51 [] []),.fn 60 [] [.ptr 0 0],.ptr 3 0] [jA,.box [aR 2 1 m2] false,bR 3 1 (rI .i64) a0 f2 0,.box [.pv (zz a1)] false]=some (.ret vv,H1)∧(match (generalizing:=false) r with|(r0,r1)=>(∃ (e2:Nat) (e3:Nat),r0.length=e2∧e3≤r0.length∧vv=aI r1∧H1=[jA,.box [aR 2 1 e2] false,bR 3 1 (rI .i64) r0 e3 0,.box [.pv (zz a1)] false])):=by
 unfold ZA at hm
 obtain ⟨n,rfl,h0⟩:=zu hm
 replace hm:=h0;clear h0
 refine ZJ 30 [(0,.agg (zc6 a2)),aga,ad5,jM] func49 rfl hJ (sq (det [aga,ad5,jM,(4,.ptr 4 0)] [jA,.box [aR 2 1 m2] false,bR 3 1 (rI .i64) a0 f2 0,.box [.pv (zz a1)] false,.box (zc6 a2) false] hJ (sq (rg (s1 2 [(zp90 a1),(11,.agg (zc6 a2))] ?_)))))
 obtain ⟨x1,h2,hm⟩:=bs hm
 refine dv 13 (zR hJ (aa9 h2) hJ hJ hJ) hJ (fq 5 [aga,ad5,(8,aI x1.1),(9,aI x1.2)] ?_)
 obtain ⟨k5,hk5,hm⟩:=zt hm
 refine mid (fun t H=>(∃ (y4:Int) (w3:AV),k5 y4=some r∧t=mk 30 [ad5,(8,aI x1.1),(9,aI y4),(23,w3)]∧H=[jA,.box [aR 2 1 m2] false,bR 3 1 (rI .i64) a0 f2 0,.box [.pv (zz a1)] false,.box (zc6 a2) false])) ?_ ?_
 ·rintro _ _ ⟨y4,w3,hm,rfl,rfl⟩
  subst hk5
  refine sq (sq (dn [ad5,(8,aI x1.1),(9,aI y4),(25,aB (y4==0))] ?_))
  rcases zf hm with ⟨h6,hm⟩|⟨h6,hm⟩
  ·refine c1 h6 (rg (s1 2 [(27,aI x1.1),(26,.fn 60 [] [.ptr 0 0])] ?_))
   obtain ⟨_,h7,hm⟩:=bs hm
   obtain ⟨vv,H1,hC,rfl,rfl⟩:=ahg m2 f2 hX hY h7
   refine dR [(28,.tup [])] [jA,.box (zc10 a0) false,bR 3 1 (rI .i64) (af5 a0) f2 0,.box [.pv (zz a1)] false,.box (zc6 a2) false] [0,1,2] [aI x1.1,.ptr 0 0] hJ hJ hJ hC hJ (fin [(9,aI y4)] rfl hJ (sq (dn [(7,aI y4)] (jf ?_))))
   obtain rfl:=ji hm
   exact ⟨trivial,aI y4,[jA,.box (zc10 a0) false,bR 3 1 (rI .i64) (af5 a0) f2 0,.box [.pv (zz a1)] false],hJ,(af5 a0).length,f2,hX,hY,rfl,rfl⟩
  refine c0 h6 (jg (sq (dn [(7,aI y4)] (jf ?_))))
  obtain rfl:=ji hm
  exact ⟨trivial,aI y4,[jA,.box [aR 2 1 m2] false,bR 3 1 (rI .i64) a0 f2 0,.box [.pv (zz a1)] false],hJ,m2,f2,hX,hY,rfl,rfl⟩
 refine sq (rg (s1 3 [(18,aB (x1.2==0)),(17,aB (x1.2==0)),(16,aI x1.2)] ?_))
 rcases zf hm with ⟨h8,hm⟩|⟨h8,hm⟩
 ·refine known [18,17] h8 hJ (s1 2 [(20,aI x1.1),(19,.pv (.fn 51 [] []))] ?_)
  obtain ⟨x9,h10,hm⟩:=bs hm
  refine dv 21 (zR hJ (abW h10) hJ hJ hJ) hJ (fq 2 [ad5,(8,aI x1.1),(9,aI x1.2),(23,aB (!x9))] ?_)
  rcases zf hm with ⟨h11,hm⟩|⟨h11,hm⟩
  ·refine c1 h11 (dn [ad5,(8,aI x1.1),kK] ?_)
   exact ⟨50,.any,hm,(zH hJ),rfl⟩
  refine c0 h11 (jg ?_)
  exact ⟨x1.2,aB (!x9),hm,(zH hJ),rfl⟩
 refine known [18,17] h8 hJ (fq 5 [ad5,(8,aI x1.1),(9,aI x1.2),kO] (cF hJ (jg ?_)))
 exact ⟨x1.2,aB false,hm,(zH hJ),rfl⟩
theorem ahm (m2:Nat) (f2:Nat) {n:Nat}{a0:(List Int)}{a1:Int}{r:Unit}(hm2:a0.length=m2) (hf2:f2≤a0.length) (hm:abz n a0 a1=some r):
  ∃ vv H1,call G n 62 [aI a1,.ptr 0 0] [jA,.box [aR 2 1 m2] false,bR 3 1 (rI .i64) a0 f2 0]=some (.ret vv,H1)∧(vv=.tup []∧H1=[jA,.box (zc10 a0) false,bR 3 1 (rI .i64) (af5 a0) f2 0]):=by
 unfold abz at hm
 obtain ⟨n,rfl,h0⟩:=zu hm
 replace hm:=h0;clear h0
 refine ZJ 5 [(0,aI a1),jK] func62 rfl hJ (rg (s1 1 [(3,.fn 52 [] [.ptr 1 0])] ?_))
 obtain ⟨_,h1,hm⟩:=bs hm
 obtain ⟨vv,H1,hC,rfl,rfl⟩:=acB m2 f2 hX hY h1
 refine dR [(4,.tup [])] [jA,.box (zc10 a0) false,bR 3 1 (rI .i64) (af5 a0) f2 0] [1,2] [aI 2,.ptr 1 0] hJ hJ hJ hC hJ (fin [] rfl hJ ?_)
 obtain rfl:=ji hm
 exact ⟨trivial,.tup [],[jA,.box (zc10 a0) false,bR 3 1 (rI .i64) (af5 a0) f2 0],hJ,rfl,rfl⟩
end Go.Ab.S1
