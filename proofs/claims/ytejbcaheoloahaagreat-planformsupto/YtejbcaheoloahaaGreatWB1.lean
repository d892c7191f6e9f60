import Derived.Test.YtejbcaheoloahaaGreatS1
import Derived.Test.YtejbcaheoloahaaGreatPA
noncomputable section
namespace Go.Ab.S1
open Go Go.Ab Go.Pl
open Go.Proofs.Tryz
set_option maxRecDepth 100000
theorem ahc {rc_ref22_Bulk:(Nat→(Option (List zc))→Int→Option (Int))} (ih_ref22_Bulk:∀ {n:Nat} {a0:(Option (List zc))} {a1:Int} {r:Int} (hm:rc_ref22_Bulk n a0 a1=some r),call G n 98 [.pv (zh zb a0),aI a1] []=some (.ret (aI r),[])) {n:Nat} {a0:(Option (List zc))} {a1:Int} {r:Int} (hm:aa8 rc_ref22_Bulk n a0 a1=some r):
    call G n 98 [.pv (zh zb a0),aI a1] []=some (.ret (aI r),[]):=by
  unfold aa8 at hm
  obtain ⟨n,rfl,h0⟩:=zB hm
  replace hm:=h0; clear h0
  refine Zr 61 [(0,.pv (zh zb a0)),(1,aI a1)] func98 rfl (by kernel_rfl) (sq (dn [(0,.pv (zh zb a0)),(1,aI a1)] ?_))
  refine sq (sq (rg (s1 1 [(7,.pv (zh zb a0))] (dv 8 (v:=aI ((sll a0).length:Int)) (zy zb a0 t23 (by kernel_rfl)) (by kernel_rfl) (fq 2 [(0,.pv (zh zb a0)),(1,aI a1),(10,aB (decide (((sll a0).length:Int) > a1)))] ?_)))))
  rcases zo hm with ⟨h1,hm⟩ | ⟨h1,hm⟩
  ·
   refine c1 h1 (sq (dn [(4,aI (IntKind.wrap .i64 (a1+1)))] (wp_ret ?_)))
   obtain rfl:=Option.some.inj hm
   exact ⟨trivial,by kernel_rfl⟩
  ·
   refine c0 h1 (wp_skip (sq (rg (s1 1 [(13,.pv (zh zb a0))] (dv 14 (v:=aI ((sll a0).length:Int)) (zy zb a0 t23 (by kernel_rfl)) (by kernel_rfl) (fq 1 [(0,.pv (zh zb a0)),(1,aI a1),(5,aI ((sll a0).length:Int))] ?_))))))
   obtain ⟨k5,hk5,hm⟩:=zz hm
   refine mid (fun t H=>(∃ (y2:Bool) (y3:Int) (y4:Int),k5 y3=some r∧t=mk 61 [(0,.pv (zh zb a0)),(1,aI a1),(5,aI y3),(6,aI y4),(23,aB y2)]∧H=[])) ?_ ?_
   ·
    rintro _ _ ⟨y2,y3,y4,hm,rfl,rfl⟩
    subst hk5
    refine sq (dn [(4,aI y3)] (wp_ret ?_))
    obtain rfl:=Option.some.inj hm
    exact ⟨trivial,by kernel_rfl⟩
   refine sq (dn [(0,.pv (zh zb a0)),(1,aI a1),(5,aI ((sll a0).length:Int)),(6,aI 0)] (bq ?_))
   refine ZY (fun mm t H=>(∃ (y8:Int) (y9:Int),qD n rc_ref22_Bulk a0 a1 k5 mm y8 y9=some r∧t=mk 61 [(0,.pv (zh zb a0)),(1,aI a1),(5,aI y8),(6,aI y9)]∧H=[])) (⟨((sll a0).length:Int),0,hm,rfl,rfl⟩) ?_ ?_
   · rintro _ _ ⟨y8,y9,hm,_⟩; exact nomatch hm
   rintro m10 _ _ ⟨y8,y9,hm,rfl,rfl⟩
   simp only [qD] at hm
   refine sq (sq (rg (s1 2 [(16,.pv (zh zb a0)),(15,aI y9)] (dv 17 (v:=aI ((sll a0).length:Int)) (zy zb a0 t23 (by kernel_rfl)) (by kernel_rfl) (s1 2 [(19,aB (decide (y9 < ((sll a0).length:Int)))),(18,aB (decide (y9 < ((sll a0).length:Int))))] ?_)))))
   refine segP (decide (y9 < ((sll a0).length:Int))) [19,18] (fun b=>[(23,aB (b && (decide (y8≤a1)))),(22,ifA b (aB (decide (y8≤a1))) (.undef)),(21,ifA b (aI a1) (.undef)),(20,ifA b (aI y8) (.undef))]) 4 (by kernel_rfl) (by kernel_rfl) (by kernel_rfl) (fin [(0,.pv (zh zb a0)),(1,aI a1),(5,aI y8),(6,aI y9),(23,aB ((decide (y9 < ((sll a0).length:Int))) && (decide (y8≤a1))))] rfl (by kernel_rfl) ?_)
   rcases zo hm with ⟨h11,hm⟩ | ⟨h11,hm⟩
   ·
    refine c1 h11 (wp_skip (sq (bq ?_)))
    refine sq (sq (rg (s1 2 [(27,aI y9),(26,.pv (zh zb a0))] ?_)))
    obtain ⟨x12,h13,hm⟩:=bs hm
    refine dv 28 (v:=.pv (.ptr (zC (za x12)) 0)) (Zd zb a0 .i64 t23 t49 h13 (zx x12) rfl (by kernel_rfl)) (by kernel_rfl) (fq 6 [(0,.pv (zh zb a0)),(1,aI a1),(5,aI y8),(6,aI y9),(34,aB (decide (((((za x12).fConst).fText).size:Int) > a1)))] ?_)
    rcases zo hm with ⟨h14,hm⟩ | ⟨h14,hm⟩
    ·
     refine c1 h14 (sq (dn [(4,aI (IntKind.wrap .i64 (a1+1)))] (wp_ret ?_)))
     obtain rfl:=Option.some.inj hm
     exact ⟨trivial,by kernel_rfl⟩
    ·
     refine c0 h14 (wp_skip (sq (rg (s1 3 [(39,aI y9),(38,.pv (zh zb a0)),(37,aI y8)] (dv 40 (v:=.pv (.ptr (zC (za x12)) 0)) (Zd zb a0 .i64 t23 t49 h13 (zx x12) rfl (by kernel_rfl)) (by kernel_rfl) (fq 6 [(0,.pv (zh zb a0)),(1,aI a1),(5,aI (IntKind.wrap .i64 (y8+((((za x12).fConst).fText).size:Int)))),(6,aI y9)] (sq (dn [(0,.pv (zh zb a0)),(1,aI a1),(5,aI (IntKind.wrap .i64 (y8+((((za x12).fConst).fText).size:Int)))),(6,aI y9),(48,aB (decide ((IntKind.wrap .i64 (y8+((((za x12).fConst).fText).size:Int)))≤a1)))] ?_))))))))
     rcases zo hm with ⟨h15,hm⟩ | ⟨h15,hm⟩
     ·
      refine c1 h15 (rg (s1 3 [(51,aI y9),(50,.pv (zh zb a0)),(49,aI (IntKind.wrap .i64 (y8+((((za x12).fConst).fText).size:Int))))] (dv 52 (v:=.pv (.ptr (zC (za x12)) 0)) (Zd zb a0 .i64 t23 t49 h13 (zx x12) rfl (by kernel_rfl)) (by kernel_rfl) (s1 5 [(57,aI (IntKind.wrap .i64 (a1 - (IntKind.wrap .i64 (y8+((((za x12).fConst).fText).size:Int)))))),(56,aI (IntKind.wrap .i64 (y8+((((za x12).fConst).fText).size:Int)))),(55,aI a1),(54,.pv (zh zb ((za x12).fKids))),(53,.pv (.ptr (zC (za x12)) 7))] ?_))))
      obtain ⟨x16,h17,hm⟩:=bs hm
      refine dv 58 (zE (by kernel_rfl) (ih_ref22_Bulk h17) (by kernel_rfl) (by kernel_rfl) (by kernel_rfl)) (by kernel_rfl) (fq 2 [(0,.pv (zh zb a0)),(1,aI a1),(5,aI (IntKind.wrap .i64 ((IntKind.wrap .i64 (y8+((((za x12).fConst).fText).size:Int)))+x16))),(6,aI y9)] (dn [(0,.pv (zh zb a0)),(1,aI a1),(5,aI (IntKind.wrap .i64 ((IntKind.wrap .i64 (y8+((((za x12).fConst).fText).size:Int)))+x16))),(6,aI (IntKind.wrap .i64 (y9+1)))] ?_))
      exact ⟨_,_,Zh [(0,.pv (zh zb a0)),(1,aI a1),(5,aI (IntKind.wrap .i64 ((IntKind.wrap .i64 (y8+((((za x12).fConst).fText).size:Int)))+x16))),(6,aI (IntKind.wrap .i64 (y9+1)))] [] (by kernel_rfl),⟨(IntKind.wrap .i64 ((IntKind.wrap .i64 (y8+((((za x12).fConst).fText).size:Int)))+x16)),(IntKind.wrap .i64 (y9+1)),hm,rfl,rfl⟩⟩
     ·
      refine c0 h15 (wp_skip (dn [(0,.pv (zh zb a0)),(1,aI a1),(5,aI (IntKind.wrap .i64 (y8+((((za x12).fConst).fText).size:Int)))),(6,aI (IntKind.wrap .i64 (y9+1)))] ?_))
      exact ⟨_,_,Zh [(0,.pv (zh zb a0)),(1,aI a1),(5,aI (IntKind.wrap .i64 (y8+((((za x12).fConst).fText).size:Int)))),(6,aI (IntKind.wrap .i64 (y9+1)))] [] (by kernel_rfl),⟨(IntKind.wrap .i64 (y8+((((za x12).fConst).fText).size:Int))),(IntKind.wrap .i64 (y9+1)),hm,rfl,rfl⟩⟩
   ·
    refine c0 h11 (wp_exit ?_)
    exact ⟨((decide (y9 < ((sll a0).length:Int))) && (decide (y8≤a1))),y8,y9,hm,rfl,rfl⟩
theorem ad2:∀ (m:Nat),∀ {n:Nat} {a0:(Option (List zc))} {a1:Int} {r:Int} (hm:QI m n a0 a1=some r),call G n 98 [.pv (zh zb a0),aI a1] []=some (.ret (aI r),[])
  | 0=>by intros; rename_i hm; exact nomatch hm
  | m+1=>fun hm=>
    ahc (ad2 m) hm
theorem ac0 {n:Nat} {a0:(Option (List zc))} {a1:Int} {r:Int} (hm:abo n a0 a1=some r):
    call G n 98 [.pv (zh zb a0),aI a1] []=some (.ret (aI r),[]):=ad2 n hm
abbrev zc0 (p0:Zo):List AV:=[.pv (zh rS p0.fRels),.pv (zh zb p0.fWhere),aB p0.fGrouped,.pv (zh zb p0.fOut),.pv (zh zn p0.fAggs),.pv (zh zp p0.fOrder)]
abbrev zc1 (p0:zr):List AV:=[aI p0.fOf.fKind,aI p0.fOf.fRel,aI p0.fOf.fCol,aI p0.fOf.fConst.fKind,aI p0.fOf.fConst.fInt,aF p0.fOf.fConst.fFloat,aS p0.fOf.fConst.fText,.pv (zh zb p0.fOf.fKids)]
theorem aeT {n:Nat} {a0:Zo} {a1:Int} {r:Int} (hm:abk n a0 a1=some r):
    call G n 46 [.agg (zc0 a0),aI a1] []=some (.ret (aI r),[]):=by
  unfold abk at hm
  obtain ⟨n,rfl,h0⟩:=zB hm
  replace hm:=h0; clear h0
  refine Zr 118 [(0,.agg (zc0 a0)),(1,aI a1)] func46 rfl (by kernel_rfl) (sq (det [(1,aI a1),(2,.ptr 0 0)] [.box (zc0 a0) false] (by kernel_rfl) ?_))
  refine sq (sq (rg (s1 2 [(9,.pv (zh rS a0.fRels)),(8,.ptr 0 0)] (dv 10 (v:=aI ((sll a0.fRels).length:Int)) (zy rS a0.fRels t22 (by kernel_rfl)) (by kernel_rfl) (s1 3 [(13,aB (decide (((sll a0.fRels).length:Int) > a1))),(12,aB (decide (((sll a0.fRels).length:Int) > a1))),(11,aI a1)] ?_)))))
  refine seg (decide (((sll a0.fRels).length:Int) > a1)) [13,12] (fun b=>[(19,aB (b || (decide (((sll a0.fAggs).length:Int) > a1)))),(18,ifA b (.undef) (aB (decide (((sll a0.fAggs).length:Int) > a1)))),(17,ifA b (.undef) (aI a1)),(16,ifA b (.undef) (aI ((sll a0.fAggs).length:Int))),(15,ifA b (.undef) (.pv (zh zn a0.fAggs))),(14,ifA b (.undef) (.ptr 0 4))]) 12 (by kernel_rfl) ?_ ?_ ?_
  ·
   intro Q h
   refine s1 6 [(19,aB true),(18,.undef),(17,.undef),(16,.undef),(15,.undef),(14,.undef)] ?_
   exact ZB (by kernel_rfl) (by kernel_rfl) h
  ·
   intro Q h
   refine s1 2 [(15,.pv (zh zn a0.fAggs)),(14,.ptr 0 4)] (dv 16 (v:=aI ((sll a0.fAggs).length:Int)) (zy zn a0.fAggs t24 (by kernel_rfl)) (by kernel_rfl) (s1 3 [(19,aB (decide (((sll a0.fAggs).length:Int) > a1))),(18,aB (decide (((sll a0.fAggs).length:Int) > a1))),(17,aI a1)] ?_))
   exact ZB (by kernel_rfl) (by kernel_rfl) h
  refine s1 1 [(20,aB ((decide (((sll a0.fRels).length:Int) > a1)) || (decide (((sll a0.fAggs).length:Int) > a1))))] ?_
  refine seg ((decide (((sll a0.fRels).length:Int) > a1)) || (decide (((sll a0.fAggs).length:Int) > a1))) [20,19] (fun b=>[(26,aB (b || (decide (((sll a0.fOrder).length:Int) > a1)))),(25,ifA b (.undef) (aB (decide (((sll a0.fOrder).length:Int) > a1)))),(24,ifA b (.undef) (aI a1)),(23,ifA b (.undef) (aI ((sll a0.fOrder).length:Int))),(22,ifA b (.undef) (.pv (zh zp a0.fOrder))),(21,ifA b (.undef) (.ptr 0 5))]) 19 (by kernel_rfl) ?_ ?_ ?_
  ·
   intro Q h
   refine s1 6 [(26,aB true),(25,.undef),(24,.undef),(23,.undef),(22,.undef),(21,.undef)] ?_
   exact ZB (by kernel_rfl) (by kernel_rfl) h
  ·
   intro Q h
   refine s1 2 [(22,.pv (zh zp a0.fOrder)),(21,.ptr 0 5)] (dv 23 (v:=aI ((sll a0.fOrder).length:Int)) (zy zp a0.fOrder t25 (by kernel_rfl)) (by kernel_rfl) (s1 3 [(26,aB (decide (((sll a0.fOrder).length:Int) > a1))),(25,aB (decide (((sll a0.fOrder).length:Int) > a1))),(24,aI a1)] ?_))
   exact ZB (by kernel_rfl) (by kernel_rfl) h
  refine fin [(1,aI a1),(2,.ptr 0 0),(26,aB (((decide (((sll a0.fRels).length:Int) > a1)) || (decide (((sll a0.fAggs).length:Int) > a1))) || (decide (((sll a0.fOrder).length:Int) > a1))))] rfl (by kernel_rfl) ?_
  rcases zo hm with ⟨h1,hm⟩ | ⟨h1,hm⟩
  ·
   refine c1 h1 (sq (dn [(4,aI (IntKind.wrap .i64 (a1+1)))] (wp_ret ?_)))
   obtain rfl:=Option.some.inj hm
   exact ⟨trivial,by kernel_rfl⟩
  ·
   refine c0 h1 (wp_skip (sq (rg (s1 2 [(30,.pv (zh rS a0.fRels)),(29,.ptr 0 0)] (dv 31 (v:=aI ((sll a0.fRels).length:Int)) (zy rS a0.fRels t22 (by kernel_rfl)) (by kernel_rfl) (s1 2 [(33,.pv (zh zn a0.fAggs)),(32,.ptr 0 4)] (dv 34 (v:=aI ((sll a0.fAggs).length:Int)) (zy zn a0.fAggs t24 (by kernel_rfl)) (by kernel_rfl) (s1 3 [(37,.pv (zh zp a0.fOrder)),(36,.ptr 0 5),(35,aI (IntKind.wrap .i64 (((sll a0.fRels).length:Int)+((sll a0.fAggs).length:Int))))] (dv 38 (v:=aI ((sll a0.fOrder).length:Int)) (zy zp a0.fOrder t25 (by kernel_rfl)) (by kernel_rfl) (fq 2 [(1,aI a1),(2,.ptr 0 0),(5,aI (IntKind.wrap .i64 ((IntKind.wrap .i64 (((sll a0.fRels).length:Int)+((sll a0.fAggs).length:Int)))+((sll a0.fOrder).length:Int))))] ?_))))))))))
   obtain ⟨k5,hk5,hm⟩:=zz hm
   refine mid (fun t H=>(∃ (y2:Bool) (y3:Int) (y4:Int),k5 y3=some r∧t=mk 118 [(1,aI a1),(2,.ptr 0 0),(5,aI y3),(6,aI y4),(44,aB y2)]∧H=[.box (zc0 a0) false])) ?_ ?_
   ·
    rintro _ _ ⟨y2,y3,y4,hm,rfl,rfl⟩
    subst hk5
    obtain ⟨k8,hk8,hm⟩:=zz hm
    refine mid (fun t H=>(∃ (y7:Int) (w6:AV),k8 y7=some r∧t=mk 118 [(1,aI a1),(2,.ptr 0 0),(5,aI y7),(72,w6)]∧H=[.box (zc0 a0) false])) ?_ ?_
    ·
     rintro _ _ ⟨y7,w6,hm,rfl,rfl⟩
     subst hk8
     obtain ⟨k11,hk11,hm⟩:=zz hm
     refine mid (fun t H=>(∃ (y10:Int) (w9:AV),k11 y10=some r∧t=mk 118 [(1,aI a1),(2,.ptr 0 0),(5,aI y10),(83,w9)]∧H=[.box (zc0 a0) false])) ?_ ?_
     ·
      rintro _ _ ⟨y10,w9,hm,rfl,rfl⟩
      subst hk11
      obtain ⟨k15,hk15,hm⟩:=zz hm
      refine mid (fun t H=>(∃ (y12:Bool) (y13:Int) (y14:Int),k15 y13=some r∧t=mk 118 [(1,aI a1),(2,.ptr 0 0),(5,aI y13),(7,aI y14),(101,aB y12)]∧H=[.box (zc0 a0) false])) ?_ ?_
      ·
       rintro _ _ ⟨y12,y13,y14,hm,rfl,rfl⟩
       subst hk15
       refine sq (dn [(4,aI y13)] (wp_ret ?_))
       obtain rfl:=Option.some.inj hm
       exact ⟨trivial,by kernel_rfl⟩
      refine sq (dn [(1,aI a1),(2,.ptr 0 0),(5,aI y10),(7,aI 0)] (bq ?_))
      refine ZY (fun mm t H=>(∃ (y18:Int) (y19:Int),qe n a0 a1 k15 mm y18 y19=some r∧t=mk 118 [(1,aI a1),(2,.ptr 0 0),(5,aI y18),(7,aI y19)]∧H=[.box (zc0 a0) false])) (⟨y10,0,hm,rfl,rfl⟩) ?_ ?_
      · rintro _ _ ⟨y18,y19,hm,_⟩; exact nomatch hm
      rintro m20 _ _ ⟨y18,y19,hm,rfl,rfl⟩
      simp only [qe] at hm
      refine sq (sq (rg (s1 3 [(94,.pv (zh zn a0.fAggs)),(93,.ptr 0 4),(92,aI y19)] (dv 95 (v:=aI ((sll a0.fAggs).length:Int)) (zy zn a0.fAggs t24 (by kernel_rfl)) (by kernel_rfl) (s1 2 [(97,aB (decide (y19 < ((sll a0.fAggs).length:Int)))),(96,aB (decide (y19 < ((sll a0.fAggs).length:Int))))] ?_)))))
      refine segP (decide (y19 < ((sll a0.fAggs).length:Int))) [97,96] (fun b=>[(101,aB (b && (decide (y18≤a1)))),(100,ifA b (aB (decide (y18≤a1))) (.undef)),(99,ifA b (aI a1) (.undef)),(98,ifA b (aI y18) (.undef))]) 4 (by kernel_rfl) (by kernel_rfl) (by kernel_rfl) (fin [(1,aI a1),(2,.ptr 0 0),(5,aI y18),(7,aI y19),(101,aB ((decide (y19 < ((sll a0.fAggs).length:Int))) && (decide (y18≤a1))))] rfl (by kernel_rfl) ?_)
      rcases zo hm with ⟨h21,hm⟩ | ⟨h21,hm⟩
      ·
       refine c1 h21 (wp_skip (sq (bq (rg (s1 4 [(107,aI y19),(106,.pv (zh zn a0.fAggs)),(105,.ptr 0 4),(104,aI y18)] ?_)))))
       obtain ⟨x22,h23,hm⟩:=bs hm
       refine dv 108 (v:=.pv (.ptr (zn x22) 0)) (qA zn a0.fAggs .i64 t24 t101 h23 rfl (by kernel_rfl)) (by kernel_rfl) (st 6 [(114,aI (IntKind.wrap .i64 (a1 - y18))),(113,aI y18),(112,aI a1),(111,aR 1 8 1),(110,.agg (zc1 x22)),(109,.pv (.ptr (zn x22) 1))] [.box (zc0 a0) false,bR 49 8 zb ([(zf x22.fOf)]:List zc) 0 0] (by kernel_rfl) ?_)
       obtain ⟨x24,h25,hm⟩:=bs hm
       refine dO [(115,aI x24)] [.box (zc0 a0) false,bR 49 8 zb ([(zf x22.fOf)]:List zc) 0 0] (ajs [1] [aR 1 8 1,aI (IntKind.wrap .i64 (a1 - y18))] (fl:=true) (by kernel_rfl) (by kernel_rfl) (by kernel_rfl) (ac0 h25) (by kernel_rfl) (by kernel_rfl)) (by kernel_rfl) (fq 2 [(1,aI a1),(2,.ptr 0 0),(5,aI (IntKind.wrap .i64 (y18+x24))),(7,aI y19)] (dn [(1,aI a1),(2,.ptr 0 0),(5,aI (IntKind.wrap .i64 (y18+x24))),(7,aI (IntKind.wrap .i64 (y19+1)))] ?_))
       exact ⟨_,_,Zh [(1,aI a1),(2,.ptr 0 0),(5,aI (IntKind.wrap .i64 (y18+x24))),(7,aI (IntKind.wrap .i64 (y19+1)))] [.box (zc0 a0) false] (by kernel_rfl),⟨(IntKind.wrap .i64 (y18+x24)),(IntKind.wrap .i64 (y19+1)),hm,rfl,rfl⟩⟩
      ·
       refine c0 h21 (wp_exit ?_)
       exact ⟨((decide (y19 < ((sll a0.fAggs).length:Int))) && (decide (y18≤a1))),y18,y19,hm,rfl,rfl⟩
     refine sq (dn [(1,aI a1),(2,.ptr 0 0),(5,aI y7),(83,aB (decide (y7≤a1)))] ?_)
     rcases zo hm with ⟨h26,hm⟩ | ⟨h26,hm⟩
     ·
      refine c1 h26 (rg (s1 6 [(89,aI (IntKind.wrap .i64 (a1 - y7))),(88,aI y7),(87,aI a1),(86,.pv (zh zb a0.fOut)),(85,.ptr 0 3),(84,aI y7)] ?_))
      obtain ⟨x27,h28,hm⟩:=bs hm
      refine dv 90 (zE (by kernel_rfl) (ac0 h28) (by kernel_rfl) (by kernel_rfl) (by kernel_rfl)) (by kernel_rfl) (fq 2 [(1,aI a1),(2,.ptr 0 0),(5,aI (IntKind.wrap .i64 (y7+x27)))] ?_)
      exact ⟨(IntKind.wrap .i64 (y7+x27)),.any,hm,(Zk (by kernel_rfl)),rfl⟩
     ·
      refine c0 h26 (wp_skip ?_)
      exact ⟨y7,aB (decide (y7≤a1)),hm,(Zk (by kernel_rfl)),rfl⟩
    refine sq (dn [(1,aI a1),(2,.ptr 0 0),(5,aI y3),(72,aB (decide (y3≤a1)))] ?_)
    rcases zo hm with ⟨h29,hm⟩ | ⟨h29,hm⟩
    ·
     refine c1 h29 (rg (s1 6 [(78,aI (IntKind.wrap .i64 (a1 - y3))),(77,aI y3),(76,aI a1),(75,.pv (zh zb a0.fWhere)),(74,.ptr 0 1),(73,aI y3)] ?_))
     obtain ⟨x30,h31,hm⟩:=bs hm
     refine dv 79 (zE (by kernel_rfl) (ac0 h31) (by kernel_rfl) (by kernel_rfl) (by kernel_rfl)) (by kernel_rfl) (fq 2 [(1,aI a1),(2,.ptr 0 0),(5,aI (IntKind.wrap .i64 (y3+x30)))] ?_)
     exact ⟨(IntKind.wrap .i64 (y3+x30)),.any,hm,(Zk (by kernel_rfl)),rfl⟩
    ·
     refine c0 h29 (wp_skip ?_)
     exact ⟨y3,aB (decide (y3≤a1)),hm,(Zk (by kernel_rfl)),rfl⟩
   refine sq (dn [(1,aI a1),(2,.ptr 0 0),(5,aI (IntKind.wrap .i64 ((IntKind.wrap .i64 (((sll a0.fRels).length:Int)+((sll a0.fAggs).length:Int)))+((sll a0.fOrder).length:Int)))),(6,aI 0)] (bq ?_))
   refine ZY (fun mm t H=>(∃ (y34:Int) (y35:Int),QV n a0 a1 k5 mm y34 y35=some r∧t=mk 118 [(1,aI a1),(2,.ptr 0 0),(5,aI y34),(6,aI y35)]∧H=[.box (zc0 a0) false])) (⟨(IntKind.wrap .i64 ((IntKind.wrap .i64 (((sll a0.fRels).length:Int)+((sll a0.fAggs).length:Int)))+((sll a0.fOrder).length:Int))),0,hm,rfl,rfl⟩) ?_ ?_
   · rintro _ _ ⟨y34,y35,hm,_⟩; exact nomatch hm
   rintro m36 _ _ ⟨y34,y35,hm,rfl,rfl⟩
   simp only [QV] at hm
   refine sq (sq (rg (s1 3 [(42,.pv (zh rS a0.fRels)),(41,.ptr 0 0),(40,aI y35)] (dv 43 (v:=aI ((sll a0.fRels).length:Int)) (zy rS a0.fRels t22 (by kernel_rfl)) (by kernel_rfl) (fq 1 [(1,aI a1),(2,.ptr 0 0),(5,aI y34),(6,aI y35),(44,aB (decide (y35 < ((sll a0.fRels).length:Int))))] ?_)))))
   rcases zo hm with ⟨h37,hm⟩ | ⟨h37,hm⟩
   ·
    refine c1 h37 (wp_skip (sq (bq ?_)))
    refine sq (sq (rg (s1 4 [(50,aB (decide (y34 > a1))),(49,aB (decide (y34 > a1))),(48,aI a1),(47,aI y34)] ?_)))
    rcases zo hm with ⟨h38,hm⟩ | ⟨h38,hm⟩
    ·
     refine known [50,49] h38 (by kernel_rfl) (fq 9 [(1,aI a1),(2,.ptr 0 0),(5,aI y34),(6,aI y35),(59,aB true)] (cT (by kernel_rfl) (sq (dn [(4,aI (IntKind.wrap .i64 (a1+1)))] (wp_ret ?_)))))
     obtain rfl:=Option.some.inj hm
     exact ⟨trivial,by kernel_rfl⟩
    ·
     refine known [50,49] h38 (by kernel_rfl) (s1 3 [(53,aI y35),(52,.pv (zh rS a0.fRels)),(51,.ptr 0 0)] ?_)
     obtain ⟨x39,h40,hm⟩:=bs hm
     refine dv 54 (v:=.pv (.ptr (rS x39) 0)) (qA rS a0.fRels .i64 t22 t9 h40 rfl (by kernel_rfl)) (by kernel_rfl) (fq 5 [(1,aI a1),(2,.ptr 0 0),(5,aI y34),(6,aI y35),(59,aB (decide ((x39.size:Int) > a1)))] ?_)
     rcases zo hm with ⟨h41,hm⟩ | ⟨h41,hm⟩
     ·
      refine c1 h41 (sq (dn [(4,aI (IntKind.wrap .i64 (a1+1)))] (wp_ret ?_)))
      obtain rfl:=Option.some.inj hm
      exact ⟨trivial,by kernel_rfl⟩
     ·
      refine c0 h41 (wp_skip (rg (s1 4 [(65,aI y35),(64,.pv (zh rS a0.fRels)),(63,.ptr 0 0),(62,aI y34)] (dv 66 (v:=.pv (.ptr (rS x39) 0)) (qA rS a0.fRels .i64 t22 t9 h40 rfl (by kernel_rfl)) (by kernel_rfl) (fq 4 [(1,aI a1),(2,.ptr 0 0),(5,aI (IntKind.wrap .i64 (y34+(x39.size:Int)))),(6,aI y35)] (dn [(1,aI a1),(2,.ptr 0 0),(5,aI (IntKind.wrap .i64 (y34+(x39.size:Int)))),(6,aI (IntKind.wrap .i64 (y35+1)))] ?_))))))
      exact ⟨_,_,Zh [(1,aI a1),(2,.ptr 0 0),(5,aI (IntKind.wrap .i64 (y34+(x39.size:Int)))),(6,aI (IntKind.wrap .i64 (y35+1)))] [.box (zc0 a0) false] (by kernel_rfl),⟨(IntKind.wrap .i64 (y34+(x39.size:Int))),(IntKind.wrap .i64 (y35+1)),hm,rfl,rfl⟩⟩
   ·
    refine c0 h37 (wp_exit ?_)
    exact ⟨(decide (y35 < ((sll a0.fRels).length:Int))),y34,y35,hm,rfl,rfl⟩
abbrev zc2 (p0:zk):List AV:=[aI p0.fKind,aI p0.fRel,.pv (zh zb p0.fWhere),.pv (zh zb p0.fLeft),.pv (zh zb p0.fRight),.pv (zh zb p0.fOut),.pv (zh zn p0.fAggs),.pv (zh zp p0.fOrder),.pv (zh zg p0.fKids)]
abbrev zc3 (p0:zm):List AV:=[aI ((zd p0).fKind),aI ((zd p0).fRel),.pv (zh zb ((zd p0).fWhere)),.pv (zh zb ((zd p0).fLeft)),.pv (zh zb ((zd p0).fRight)),.pv (zh zb ((zd p0).fOut)),.pv (zh zn ((zd p0).fAggs)),.pv (zh zp ((zd p0).fOrder)),.pv (zh zg ((zd p0).fKids))]
theorem ahh {rc_ref25_Bulk:(Nat→zk→Int→Option (Int))} (ih_ref25_Bulk:∀ {n:Nat} {a0:zk} {a1:Int} {r:Int} (hm:rc_ref25_Bulk n a0 a1=some r),call G n 113 [.agg [aI a0.fKind,aI a0.fRel,.pv (zh zb a0.fWhere),.pv (zh zb a0.fLeft),.pv (zh zb a0.fRight),.pv (zh zb a0.fOut),.pv (zh zn a0.fAggs),.pv (zh zp a0.fOrder),.pv (zh zg a0.fKids)],aI a1] []=some (.ret (aI r),[])) {n:Nat} {a0:zk} {a1:Int} {r:Int} (hm:aa1 rc_ref25_Bulk n a0 a1=some r):
    call G n 113 [.agg (zc2 a0),aI a1] []=some (.ret (aI r),[]):=by
  unfold aa1 at hm
  obtain ⟨n,rfl,h0⟩:=zB hm
  replace hm:=h0; clear h0
  refine Zr 55 [(0,.agg (zc2 a0)),(1,aI a1)] func113 rfl (by kernel_rfl) (sq (det [(1,aI a1),(2,.ptr 0 0)] [.box (zc2 a0) false] (by kernel_rfl) (sq (rg (s1 10 [(16,aI a1),(15,.agg [.pv .nils,.pv (zh zb a0.fWhere),aB false,.pv (zh zb a0.fOut),.pv (zh zn a0.fAggs),.pv (zh zp a0.fOrder)]),(14,.pv (zh zp a0.fOrder)),(13,.ptr 0 7),(12,.pv (zh zn a0.fAggs)),(11,.ptr 0 6),(10,.pv (zh zb a0.fOut)),(9,.ptr 0 5),(8,.pv (zh zb a0.fWhere)),(7,.ptr 0 2)] ?_)))))
  obtain ⟨x1,h2,hm⟩:=bs hm
  refine dv 17 (zE (by kernel_rfl) (aeT h2) (by kernel_rfl) (by kernel_rfl) (by kernel_rfl)) (by kernel_rfl) (fq 2 [(1,aI a1),(2,.ptr 0 0),(5,aI (IntKind.wrap .i64 (1+x1)))] ?_)
  obtain ⟨k5,hk5,hm⟩:=zz hm
  refine mid (fun t H=>(∃ (y4:Int) (w3:AV),k5 y4=some r∧t=mk 55 [(1,aI a1),(2,.ptr 0 0),(5,aI y4),(21,w3)]∧H=[.box (zc2 a0) false])) ?_ ?_
  ·
   rintro _ _ ⟨y4,w3,hm,rfl,rfl⟩
   subst hk5
   obtain ⟨k9,hk9,hm⟩:=zz hm
   refine mid (fun t H=>(∃ (y6:Bool) (y7:Int) (y8:Int),k9 y7=some r∧t=mk 55 [(1,aI a1),(2,.ptr 0 0),(5,aI y7),(6,aI y8),(40,aB y6)]∧H=[.box (zc2 a0) false])) ?_ ?_
   ·
    rintro _ _ ⟨y6,y7,y8,hm,rfl,rfl⟩
    subst hk9
    refine sq (dn [(4,aI y7)] (wp_ret ?_))
    obtain rfl:=Option.some.inj hm
    exact ⟨trivial,by kernel_rfl⟩
   refine sq (dn [(1,aI a1),(2,.ptr 0 0),(5,aI y4),(6,aI 0)] (bq ?_))
   refine ZY (fun mm t H=>(∃ (y12:Int) (y13:Int),qY n rc_ref25_Bulk a0 a1 k9 mm y12 y13=some r∧t=mk 55 [(1,aI a1),(2,.ptr 0 0),(5,aI y12),(6,aI y13)]∧H=[.box (zc2 a0) false])) (⟨y4,0,hm,rfl,rfl⟩) ?_ ?_
   · rintro _ _ ⟨y12,y13,hm,_⟩; exact nomatch hm
   rintro m14 _ _ ⟨y12,y13,hm,rfl,rfl⟩
   simp only [qY] at hm
   refine sq (sq (rg (s1 3 [(33,.pv (zh zg a0.fKids)),(32,.ptr 0 8),(31,aI y13)] (dv 34 (v:=aI ((sll a0.fKids).length:Int)) (zy zg a0.fKids t64 (by kernel_rfl)) (by kernel_rfl) (s1 2 [(36,aB (decide (y13 < ((sll a0.fKids).length:Int)))),(35,aB (decide (y13 < ((sll a0.fKids).length:Int))))] ?_)))))
   refine segP (decide (y13 < ((sll a0.fKids).length:Int))) [36,35] (fun b=>[(40,aB (b && (decide (y12≤a1)))),(39,ifA b (aB (decide (y12≤a1))) (.undef)),(38,ifA b (aI a1) (.undef)),(37,ifA b (aI y12) (.undef))]) 4 (by kernel_rfl) (by kernel_rfl) (by kernel_rfl) (fin [(1,aI a1),(2,.ptr 0 0),(5,aI y12),(6,aI y13),(40,aB ((decide (y13 < ((sll a0.fKids).length:Int))) && (decide (y12≤a1))))] rfl (by kernel_rfl) ?_)
   rcases zo hm with ⟨h15,hm⟩ | ⟨h15,hm⟩
   ·
    refine c1 h15 (wp_skip (sq (bq (rg (s1 4 [(46,aI y13),(45,.pv (zh zg a0.fKids)),(44,.ptr 0 8),(43,aI y12)] ?_)))))
    obtain ⟨x16,h17,hm⟩:=bs hm
    refine dv 47 (v:=.pv (.ptr (zG (zd x16)) 0)) (Zd zg a0.fKids .i64 t64 t66 h17 (zF x16) rfl (by kernel_rfl)) (by kernel_rfl) (s1 4 [(51,aI (IntKind.wrap .i64 (a1 - y12))),(50,aI y12),(49,aI a1),(48,.agg (zc3 x16))] ?_)
    obtain ⟨x18,h19,hm⟩:=bs hm
    refine dv 52 (zE (by kernel_rfl) (ih_ref25_Bulk h19) (by kernel_rfl) (by kernel_rfl) (by kernel_rfl)) (by kernel_rfl) (fq 2 [(1,aI a1),(2,.ptr 0 0),(5,aI (IntKind.wrap .i64 (y12+x18))),(6,aI y13)] (dn [(1,aI a1),(2,.ptr 0 0),(5,aI (IntKind.wrap .i64 (y12+x18))),(6,aI (IntKind.wrap .i64 (y13+1)))] ?_))
    exact ⟨_,_,Zh [(1,aI a1),(2,.ptr 0 0),(5,aI (IntKind.wrap .i64 (y12+x18))),(6,aI (IntKind.wrap .i64 (y13+1)))] [.box (zc2 a0) false] (by kernel_rfl),⟨(IntKind.wrap .i64 (y12+x18)),(IntKind.wrap .i64 (y13+1)),hm,rfl,rfl⟩⟩
   ·
    refine c0 h15 (wp_exit ?_)
    exact ⟨((decide (y13 < ((sll a0.fKids).length:Int))) && (decide (y12≤a1))),y12,y13,hm,rfl,rfl⟩
  refine sq (dn [(1,aI a1),(2,.ptr 0 0),(5,aI (IntKind.wrap .i64 (1+x1))),(21,aB (decide ((IntKind.wrap .i64 (1+x1))≤a1)))] ?_)
  rcases zo hm with ⟨h20,hm⟩ | ⟨h20,hm⟩
  ·
   refine c1 h20 (rg (s1 7 [(28,aI a1),(27,.agg [.pv .nils,.pv (zh zb a0.fLeft),aB false,.pv (zh zb a0.fRight),.pv .nils,.pv .nils]),(26,.pv (zh zb a0.fRight)),(25,.ptr 0 4),(24,.pv (zh zb a0.fLeft)),(23,.ptr 0 3),(22,aI (IntKind.wrap .i64 (1+x1)))] ?_))
   obtain ⟨x21,h22,hm⟩:=bs hm
   refine dv 29 (zE (by kernel_rfl) (aeT h22) (by kernel_rfl) (by kernel_rfl) (by kernel_rfl)) (by kernel_rfl) (fq 2 [(1,aI a1),(2,.ptr 0 0),(5,aI (IntKind.wrap .i64 ((IntKind.wrap .i64 (1+x1))+x21)))] ?_)
   exact ⟨(IntKind.wrap .i64 ((IntKind.wrap .i64 (1+x1))+x21)),.any,hm,(Zk (by kernel_rfl)),rfl⟩
  ·
   refine c0 h20 (wp_skip ?_)
   exact ⟨(IntKind.wrap .i64 (1+x1)),aB (decide ((IntKind.wrap .i64 (1+x1))≤a1)),hm,(Zk (by kernel_rfl)),rfl⟩
theorem aer:∀ (m:Nat),∀ {n:Nat} {a0:zk} {a1:Int} {r:Int} (hm:QG m n a0 a1=some r),call G n 113 [.agg (zc2 a0),aI a1] []=some (.ret (aI r),[])
  | 0=>by intros; rename_i hm; exact nomatch hm
  | m+1=>fun hm=>
    ahh (aer m) hm
theorem aio {n:Nat} {a0:zk} {a1:Int} {r:Int} (hm:ae7 n a0 a1=some r):
    call G n 113 [.agg (zc2 a0),aI a1] []=some (.ret (aI r),[]):=aer n hm
theorem aef {n:Nat} {a0:zk} {r:Bool} (hm:aaV n a0=some r):
    call G n 29 [.agg (zc2 a0)] []=some (.ret (aB r),[]):=by
  unfold aaV at hm
  obtain ⟨n,rfl,h0⟩:=zB hm
  replace hm:=h0; clear h0
  refine Zr 6 [(0,.agg (zc2 a0))] func29 rfl (by kernel_rfl) (sq (det [(1,.ptr 0 0)] [.box (zc2 a0) false] (by kernel_rfl) (sq (rg (s1 1 [(3,.agg (zc2 a0))] ?_)))))
  obtain ⟨x1,h2,hm⟩:=bs hm
  refine dv 4 (zE (by kernel_rfl) (aio h2) (by kernel_rfl) (by kernel_rfl) (by kernel_rfl)) (by kernel_rfl) (fq 2 [(2,aB (decide (x1 > 800)))] (wp_ret ?_))
  obtain rfl:=Option.some.inj hm
  exact ⟨trivial,by kernel_rfl⟩
theorem agG:call G 3999999 32 [] []=some (.ret (aB true),[]):=by kernel_rfl
theorem Qx {n:Nat} {r:Bool} (hm:qZ n=some r):
    call G n 32 [] []=some (.ret (aB r),[]):=by
  unfold qZ at hm
  have hn:n=3999999:=by
    cases h:n == 3999999 with
    | true=>exact eq_of_beq h
    | false=>rw [h] at hm; cases hm
  subst hn
  have h2:some true=some r:=hm
  obtain rfl:=Option.some.inj h2
  exact agG
abbrev zc4 (p0:zj):List AV:=[aI p0.fKind,aI p0.fRel,aI p0.fCol,aI p0.fConst.fKind,aI p0.fConst.fInt,aF p0.fConst.fFloat,aS p0.fConst.fText,.pv (zh zb p0.fKids)]
abbrev zc5:List AV:=[aI 0,aI 0,aI 0,aI 0,aI 0,aF 0,aS ByteArray.empty,.pv .nils]
abbrev zc6 (p0:zj):List AV:=[aI p0.fKind,aI p0.fRel,aI p0.fCol,aI p0.fConst.fKind,aI p0.fConst.fInt,aF p0.fConst.fFloat,aS p0.fConst.fText,.pv .nils]
abbrev zc7 (p0:zj) (p1:(List zc)):List AV:=[aI p0.fKind,aI p0.fRel,aI p0.fCol,aI p0.fConst.fKind,aI p0.fConst.fInt,aF p0.fConst.fFloat,aS p0.fConst.fText,aR 2 8 p1.length]
abbrev zc8 (p0:zc):List AV:=[aI ((za p0).fKind),aI ((za p0).fRel),aI ((za p0).fCol),aI (((za p0).fConst).fKind),aI (((za p0).fConst).fInt),aF (((za p0).fConst).fFloat),aS (((za p0).fConst).fText),.pv (zh zb ((za p0).fKids))]
theorem aiq {rc_expr_Copy:(Nat→zj→Option (zj))} (ih_expr_Copy:∀ {n:Nat} {a0:zj} {r:zj} (hm:rc_expr_Copy n a0=some r),call G n 97 [.agg [aI a0.fKind,aI a0.fRel,aI a0.fCol,aI a0.fConst.fKind,aI a0.fConst.fInt,aF a0.fConst.fFloat,aS a0.fConst.fText,.pv (zh zb a0.fKids)]] []=some (.ret (.agg [aI r.fKind,aI r.fRel,aI r.fCol,aI r.fConst.fKind,aI r.fConst.fInt,aF r.fConst.fFloat,aS r.fConst.fText,.pv (zh zb r.fKids)]),[])) {n:Nat} {a0:zj} {r:zj} (hm:abC rc_expr_Copy n a0=some r):
    call G n 97 [.agg (zc4 a0)] []=some (.ret (.agg [aI r.fKind,aI r.fRel,aI r.fCol,aI r.fConst.fKind,aI r.fConst.fInt,aF r.fConst.fFloat,aS r.fConst.fText,.pv (zh zb r.fKids)]),[]):=by
  unfold abC at hm
  obtain ⟨n,rfl,h0⟩:=zB hm
  replace hm:=h0; clear h0
  refine Zr 24 [(0,.agg (zc4 a0))] func97 rfl (by kernel_rfl) (sq (det [(1,.ptr 0 0),(2,.ptr 1 0)] [.box (zc4 a0) false,.box zc5 false] (by kernel_rfl) (sq (dn [(1,.ptr 0 0),(2,.ptr 1 0),(3,.pv (zh zb a0.fKids))] (sq (det [(1,.ptr 0 0),(2,.ptr 1 0),(3,.pv (zh zb a0.fKids))] [.box (zc6 a0) false,.box zc5 false] (by kernel_rfl) ?_))))))
  obtain ⟨k4,hk4,hm⟩:=zz hm
  refine mid (fun t H=>(∃ (w1:AV) (w2:AV),k4 none=some r∧t=mk 24 [(1,.ptr 0 0),(2,.ptr 1 0),(9,.pv (zh zb a0.fKids)),(10,aI ((sll a0.fKids).length:Int)),(11,w1),(12,w2)]∧H=[.box (zc6 a0) false,.box zc5 false])∨(∃ (y3:(List zc)) (w1:AV) (w2:AV),k4 (some y3)=some r∧t=mk 24 [(1,.ptr 0 0),(2,.ptr 1 0),(9,.pv (zh zb a0.fKids)),(10,aI ((sll a0.fKids).length:Int)),(11,w1),(12,w2)]∧H=[.box (zc7 a0 y3) false,.box zc5 false,bR 49 8 zb y3 0 0])) ?_ ?_
  ·
   rintro _ _ (⟨w1,w2,hm,rfl,rfl⟩ | ⟨y3,w1,w2,hm,rfl,rfl⟩)
   ·
    subst hk4
    refine sq (det [(2,.ptr 1 0)] [.box (zc6 a0) false,.box (zc6 a0) false] (by kernel_rfl) (wp_ret ?_))
    obtain rfl:=Option.some.inj hm
    exact ⟨trivial,by kernel_rfl⟩
   ·
    subst hk4
    refine sq (det [(2,.ptr 1 0)] [.box (zc7 a0 y3) false,.box (zc7 a0 y3) false,bR 49 8 zb y3 0 0] (by kernel_rfl) (wp_ret ?_))
    obtain rfl:=Option.some.inj hm
    exact abP (v:=.agg (zc7 a0 y3)) trivial rfl (by kernel_rfl) (an2 (zq (zw) (zq (zw) (zq (zw) (zq (zw) (zq (zw) (zq (zw) (zq (zw) (zq (ZO (n:=y3.length) (id:=2) (l:=y3) (R:=zb) rfl rfl (Nat.zero_le _)) (rfl))))))))) (by kernel_rfl))
  refine sq (rg (s1 1 [(9,.pv (zh zb a0.fKids))] (dv 10 (v:=aI ((sll a0.fKids).length:Int)) (zy zb a0.fKids t23 (by kernel_rfl)) (by kernel_rfl) (fq 1 [(1,.ptr 0 0),(2,.ptr 1 0),(9,.pv (zh zb a0.fKids)),(10,aI ((sll a0.fKids).length:Int)),(11,aI 0)] (bq ?_)))))
  refine ZY (fun mm t H=>(∃ (y9:Int),ZK n rc_expr_Copy a0 k4 mm none y9=some r∧t=mk 24 [(1,.ptr 0 0),(2,.ptr 1 0),(9,.pv (zh zb a0.fKids)),(10,aI ((sll a0.fKids).length:Int)),(11,aI y9)]∧H=[.box (zc6 a0) false,.box zc5 false])∨(∃ (y8:(List zc)) (y9:Int),ZK n rc_expr_Copy a0 k4 mm (some y8) y9=some r∧t=mk 24 [(1,.ptr 0 0),(2,.ptr 1 0),(9,.pv (zh zb a0.fKids)),(10,aI ((sll a0.fKids).length:Int)),(11,aI y9)]∧H=[.box (zc7 a0 y8) false,.box zc5 false,bR 49 8 zb y8 0 0])) (.inl ⟨0,hm,rfl,rfl⟩) ?_ ?_
  · rintro _ _ (⟨y9,hm,_⟩ | ⟨y8,y9,hm,_⟩) <;> exact nomatch hm
  rintro m10 _ _ (⟨y9,hm,rfl,rfl⟩ | ⟨y8,y9,hm,rfl,rfl⟩)
  ·
   simp only [ZK] at hm
   refine sq (dn [(1,.ptr 0 0),(2,.ptr 1 0),(9,.pv (zh zb a0.fKids)),(10,aI ((sll a0.fKids).length:Int)),(11,aI y9),(12,aB (decide (y9 < ((sll a0.fKids).length:Int))))] ?_)
   refine sq ?_
   rcases zo hm with ⟨h11,hm⟩ | ⟨h11,hm⟩
   ·
    refine c1 h11 (wp_skip (sq (bq (sq (rg ?_)))))
    obtain ⟨x12,h13,hm⟩:=bs hm
    refine dv 13 (v:=.pv (.ptr (zC (za x12)) 0)) (Zd zb a0.fKids .i64 t23 t49 h13 (zx x12) rfl (by kernel_rfl)) (by kernel_rfl) (stf 3 [(1,.ptr 0 0),(2,.ptr 1 0),(5,.ptr 2 0),(9,.pv (zh zb a0.fKids)),(10,aI ((sll a0.fKids).length:Int)),(11,aI y9)] [.box (zc6 a0) false,.box zc5 false,.box (zc8 x12) false] (by kernel_rfl) (rgd (shd 3 [(17,.agg (zc8 x12)),(16,.pv .nils),(15,.ptr 0 7)] (by kernel_rfl) ?_)))
    obtain ⟨x14,h15,hm⟩:=bs hm
    refine dvd 18 (zE (by kernel_rfl) (ih_expr_Copy h15) (by kernel_rfl) (by kernel_rfl) (by kernel_rfl)) (by kernel_rfl) (std 1 [(19,aR 3 8 1)] [.box (zc6 a0) false,.box zc5 false,.box (zc8 x12) false,bR 49 8 zb ([(zf x14)]:List zc) 0 0] (by kernel_rfl) ?_)
    obtain ⟨_,h16,hm⟩:=bs hm
    refine dOd [(20,aR 4 8 (([(zf x14)]:List zc).length))] [.box (zc6 a0) false,.box zc5 false,.box (zc8 x12) false,bR 49 8 zb ([(zf x14)]:List zc) 0 0,bR 49 8 zb ([(zf x14)]:List zc) 0 0] (qU (u:=0) zb ([(zf x14)]:List zc) (b:=88) t23 t49 rfl rfl rfl Za rfl h16 (show zT (aR 3 8 1) _=some (([(zf x14)]:List zc).map zb) from by kernel_rfl) (by kernel_rfl)) (by kernel_rfl) (std 2 [(21,.ptr 0 7)] [.box [aI a0.fKind,aI a0.fRel,aI a0.fCol,aI a0.fConst.fKind,aI a0.fConst.fInt,aF a0.fConst.fFloat,aS a0.fConst.fText,aR 4 8 (([(zf x14)]:List zc).length)] false,.box zc5 false,.box (zc8 x12) false,bR 49 8 zb ([(zf x14)]:List zc) 0 0,bR 49 8 zb ([(zf x14)]:List zc) 0 0] (by kernel_rfl) (find [(1,.ptr 0 0),(2,.ptr 1 0),(9,.pv (zh zb a0.fKids)),(10,aI ((sll a0.fKids).length:Int)),(11,aI y9)] rfl (by kernel_rfl) (by kernel_rfl) (dn [(1,.ptr 0 0),(2,.ptr 1 0),(9,.pv (zh zb a0.fKids)),(10,aI ((sll a0.fKids).length:Int)),(11,aI (IntKind.wrap .i64 (y9+1)))] ?_)))
    exact ⟨_,_,Zh [(1,.ptr 0 0),(2,.ptr 1 0),(9,.pv (zh zb a0.fKids)),(10,aI ((sll a0.fKids).length:Int)),(11,aI (IntKind.wrap .i64 (y9+1)))] [.box [aI a0.fKind,aI a0.fRel,aI a0.fCol,aI a0.fConst.fKind,aI a0.fConst.fInt,aF a0.fConst.fFloat,aS a0.fConst.fText,aR 2 8 (([(zf x14)]:List zc).length)] false,.box zc5 false,bR 49 8 zb ([(zf x14)]:List zc) 0 0] (by kernel_rfl),.inr (⟨([(zf x14)]:List zc),(IntKind.wrap .i64 (y9+1)),hm,rfl,rfl⟩)⟩
   ·
    refine c0 h11 (wp_exit ?_)
    exact .inl ⟨aI y9,aB (decide (y9 < ((sll a0.fKids).length:Int))),hm,(Zk (by kernel_rfl)),rfl⟩
  ·
   simp only [ZK] at hm
   refine sq (dn [(1,.ptr 0 0),(2,.ptr 1 0),(9,.pv (zh zb a0.fKids)),(10,aI ((sll a0.fKids).length:Int)),(11,aI y9),(12,aB (decide (y9 < ((sll a0.fKids).length:Int))))] ?_)
   refine sq ?_
   rcases zo hm with ⟨h17,hm⟩ | ⟨h17,hm⟩
   ·
    refine c1 h17 (wp_skip (sq (bq (sq (rg ?_)))))
    obtain ⟨x18,h19,hm⟩:=bs hm
    refine dv 13 (v:=.pv (.ptr (zC (za x18)) 0)) (Zd zb a0.fKids .i64 t23 t49 h19 (zx x18) rfl (by kernel_rfl)) (by kernel_rfl) (stf 3 [(1,.ptr 0 0),(2,.ptr 1 0),(5,.ptr 3 0),(9,.pv (zh zb a0.fKids)),(10,aI ((sll a0.fKids).length:Int)),(11,aI y9)] [.box (zc7 a0 y8) false,.box zc5 false,bR 49 8 zb y8 0 0,.box (zc8 x18) false] (by kernel_rfl) (rgd (shd 3 [(17,.agg (zc8 x18)),(16,aR 2 8 y8.length),(15,.ptr 0 7)] (by kernel_rfl) ?_)))
    obtain ⟨x20,h21,hm⟩:=bs hm
    refine dvd 18 (zE (by kernel_rfl) (ih_expr_Copy h21) (by kernel_rfl) (by kernel_rfl) (by kernel_rfl)) (by kernel_rfl) (std 1 [(19,aR 4 8 1)] [.box (zc7 a0 y8) false,.box zc5 false,bR 49 8 zb y8 0 0,.box (zc8 x18) false,bR 49 8 zb ([(zf x20)]:List zc) 0 0] (by kernel_rfl) ?_)
    obtain ⟨_,h22,hm⟩:=bs hm
    refine dOd [(20,aR 2 8 ((y8++([(zf x20)]:List zc)).length))] [.box (zc7 a0 y8) false,.box zc5 false,bR 49 8 zb (y8++([(zf x20)]:List zc)) 0 0,.box (zc8 x18) false,bR 49 8 zb ([(zf x20)]:List zc) 0 0] (Z5 (u:=0) (n:=y8.length) (id:=2) zb y8 ([(zf x20)]:List zc) (b:=88) t23 t49 rfl rfl rfl Za rfl h22 rfl rfl (Nat.zero_le _) (show zT (aR 4 8 1) _=some (([(zf x20)]:List zc).map zb) from by kernel_rfl) (by kernel_rfl)) (by kernel_rfl) (std 2 [(21,.ptr 0 7)] [.box [aI a0.fKind,aI a0.fRel,aI a0.fCol,aI a0.fConst.fKind,aI a0.fConst.fInt,aF a0.fConst.fFloat,aS a0.fConst.fText,aR 2 8 ((y8++([(zf x20)]:List zc)).length)] false,.box zc5 false,bR 49 8 zb (y8++([(zf x20)]:List zc)) 0 0,.box (zc8 x18) false,bR 49 8 zb ([(zf x20)]:List zc) 0 0] (by kernel_rfl) (find [(1,.ptr 0 0),(2,.ptr 1 0),(9,.pv (zh zb a0.fKids)),(10,aI ((sll a0.fKids).length:Int)),(11,aI y9)] rfl (by kernel_rfl) (by kernel_rfl) (dn [(1,.ptr 0 0),(2,.ptr 1 0),(9,.pv (zh zb a0.fKids)),(10,aI ((sll a0.fKids).length:Int)),(11,aI (IntKind.wrap .i64 (y9+1)))] ?_)))
    exact ⟨_,_,Zh [(1,.ptr 0 0),(2,.ptr 1 0),(9,.pv (zh zb a0.fKids)),(10,aI ((sll a0.fKids).length:Int)),(11,aI (IntKind.wrap .i64 (y9+1)))] [.box [aI a0.fKind,aI a0.fRel,aI a0.fCol,aI a0.fConst.fKind,aI a0.fConst.fInt,aF a0.fConst.fFloat,aS a0.fConst.fText,aR 2 8 ((y8++([(zf x20)]:List zc)).length)] false,.box zc5 false,bR 49 8 zb (y8++([(zf x20)]:List zc)) 0 0] (by kernel_rfl),.inr (⟨(y8++([(zf x20)]:List zc)),(IntKind.wrap .i64 (y9+1)),hm,rfl,rfl⟩)⟩
   ·
    refine c0 h17 (wp_exit ?_)
    exact .inr (⟨y8,aI y9,aB (decide (y9 < ((sll a0.fKids).length:Int))),hm,(Zk (by kernel_rfl)),rfl⟩)
theorem aeZ:∀ (m:Nat),∀ {n:Nat} {a0:zj} {r:zj} (hm:QC m n a0=some r),call G n 97 [.agg (zc4 a0)] []=some (.ret (.agg [aI r.fKind,aI r.fRel,aI r.fCol,aI r.fConst.fKind,aI r.fConst.fInt,aF r.fConst.fFloat,aS r.fConst.fText,.pv (zh zb r.fKids)]),[])
  | 0=>by intros; rename_i hm; exact nomatch hm
  | m+1=>fun hm=>
    aiq (aeZ m) hm
theorem ZT {n:Nat} {a0:zj} {r:zj} (hm:Zm n a0=some r):
    call G n 97 [.agg (zc4 a0)] []=some (.ret (.agg [aI r.fKind,aI r.fRel,aI r.fCol,aI r.fConst.fKind,aI r.fConst.fInt,aF r.fConst.fFloat,aS r.fConst.fText,.pv (zh zb r.fKids)]),[]):=aeZ n hm
abbrev zc9:List AV:=[aI 7,aI 0,aI 0,aI 0,aI 0,aF 0,aS ByteArray.empty,aR 2 8 2]
abbrev zc10 (p0:zj) (p1:zj):List AV:=[aI 7,aI 0,aI 0,aI 0,aI 0,aF 0,aS ByteArray.empty,.pv (.sl (([(zf p0),(zf p1)]:List zc).map zb))]
abbrev zc11:List AV:=[aR 4 8 (([(zf (zj.mk 0 0 0 (zi.mk 0 0 0 ByteArray.empty) none))]:List zc).length)]
abbrev zc12:List AV:=[aR 2 8 (([(zf (zj.mk 0 0 0 (zi.mk 0 0 0 ByteArray.empty) none))]:List zc).length)]
abbrev zc13:List AV:=[aI 7,aI 0,aI 0,aI 0,aI 0,aF 0,aS ByteArray.empty,aR 3 8 2]
abbrev zc14 (p0:(List zc)):List AV:=[aR 2 8 ((p0++([(zf (zj.mk 0 0 0 (zi.mk 0 0 0 ByteArray.empty) none))]:List zc)).length)]
theorem acD {n:Nat} {a0:zk} {r:(Option (List zc))} (hm:qq n a0=some r):
    ∃ vv H1,call G n 124 [.agg (zc2 a0),.ptr 0 0] [.box [.pv .nils] false]=some (.ret vv,H1)∧(match (generalizing:=false) r with | none=>(vv=.tup []∧H1=[.box [.pv .nils] false]) | some r0=>(∃ (e1:Nat) (e2:Nat),r0.length=e1∧e2≤r0.length∧vv=.tup []∧H1=[.box [aR 1 8 e1] false,bR 49 8 zb r0 e2 0])):=by
  unfold qq at hm
  obtain ⟨n,rfl,h0⟩:=zB hm
  replace hm:=h0; clear h0
  refine ahV 59 [(0,.agg (zc2 a0)),(1,.ptr 0 0)] func124 rfl (by kernel_rfl) (sq (det [(1,.ptr 0 0),(2,.ptr 1 0)] [.box [.pv .nils] false,.box (zc2 a0) false] (by kernel_rfl) ?_))
  obtain ⟨k8,hk8,hm⟩:=zz hm
  refine mid (fun t H=>(∃ (w1:AV) (w2:AV),k8 none=some r∧t=mk 59 [(1,.ptr 0 0),(2,.ptr 1 0),(7,.pv (zh zb a0.fWhere)),(8,aI ((sll a0.fWhere).length:Int)),(9,w1),(10,w2)]∧H=[.box [.pv .nils] false,.box (zc2 a0) false])∨(∃ (y3:(List zc)) (w1:AV) (w2:AV) (g4:Nat) (g6:Nat),k8 (some y3)=some r∧t=mk 59 [(1,.ptr 0 0),(2,.ptr 1 0),(7,.pv (zh zb a0.fWhere)),(8,aI ((sll a0.fWhere).length:Int)),(9,w1),(10,w2)]∧H=[.box [aR 2 8 g4] false,.box (zc2 a0) false,bR 49 8 zb y3 g6 0]∧y3.length=g4∧g6≤y3.length)) ?_ ?_
  ·
   rintro _ _ (⟨w1,w2,hm,rfl,rfl⟩ | ⟨y3,w1,w2,g4,g6,hm,rfl,rfl,q5,q7⟩)
   ·
    subst hk8
    refine sq (sq (rg (s1 4 [(24,aB (a0.fKind != 3)),(23,aB (a0.fKind != 3)),(22,aI a0.fKind),(21,.ptr 1 0)] ?_)))
    refine segP (a0.fKind != 3) [24,23] (fun b=>[(28,aB (b && (a0.fKind != 4))),(27,ifA b (aB (a0.fKind != 4)) (.undef)),(26,ifA b (aI a0.fKind) (.undef)),(25,ifA b (.ptr 1 0) (.undef))]) 4 (by kernel_rfl) (by kernel_rfl) (by kernel_rfl) (fin [(1,.ptr 0 0),(2,.ptr 1 0),(28,aB ((a0.fKind != 3) && (a0.fKind != 4)))] rfl (by kernel_rfl) ?_)
    rcases zo hm with ⟨h9,hm⟩ | ⟨h9,hm⟩
    ·
     refine c1 h9 (wp_ret ?_)
     obtain rfl:=Option.some.inj hm
     exact ⟨trivial,.tup [],[.box [.pv .nils] false],by kernel_rfl,rfl,rfl⟩
    ·
     refine c0 h9 (wp_skip (sq (rg (s1 2 [(30,.pv (zh zb a0.fLeft)),(29,.ptr 1 3)] (dv 31 (v:=aI ((sll a0.fLeft).length:Int)) (zy zb a0.fLeft t23 (by kernel_rfl)) (by kernel_rfl) (s1 2 [(33,.pv (zh zb a0.fRight)),(32,.ptr 1 4)] (dv 34 (v:=aI ((sll a0.fRight).length:Int)) (zy zb a0.fRight t23 (by kernel_rfl)) (by kernel_rfl) (fq 2 [(1,.ptr 0 0),(2,.ptr 1 0),(35,aI (if ((sll a0.fRight).length:Int) < ((sll a0.fLeft).length:Int) then ((sll a0.fRight).length:Int) else ((sll a0.fLeft).length:Int))),(36,aI 0)] (bq ?_)))))))))
     refine ZY (fun mm t H=>(∃ (y21:Int),zO n a0 mm none y21=some r∧t=mk 59 [(1,.ptr 0 0),(2,.ptr 1 0),(35,aI (if ((sll a0.fRight).length:Int) < ((sll a0.fLeft).length:Int) then ((sll a0.fRight).length:Int) else ((sll a0.fLeft).length:Int))),(36,aI y21)]∧H=[.box [.pv .nils] false,.box (zc2 a0) false])∨(∃ (y20:(List zc)) (y21:Int) (g22:Nat) (g24:Nat),zO n a0 mm (some y20) y21=some r∧t=mk 59 [(1,.ptr 0 0),(2,.ptr 1 0),(35,aI (if ((sll a0.fRight).length:Int) < ((sll a0.fLeft).length:Int) then ((sll a0.fRight).length:Int) else ((sll a0.fLeft).length:Int))),(36,aI y21)]∧H=[.box [aR 2 8 g22] false,.box (zc2 a0) false,bR 49 8 zb y20 g24 0]∧y20.length=g22∧g24≤y20.length)) (.inl ⟨0,hm,rfl,rfl⟩) ?_ ?_
     · rintro _ _ (⟨y21,hm,_⟩ | ⟨y20,y21,g22,g24,hm,_⟩) <;> exact nomatch hm
     rintro m26 _ _ (⟨y21,hm,rfl,rfl⟩ | ⟨y20,y21,g22,g24,hm,rfl,rfl,q23,q25⟩)
     ·
      simp only [zO] at hm
      refine sq (dn [(1,.ptr 0 0),(2,.ptr 1 0),(35,aI (if ((sll a0.fRight).length:Int) < ((sll a0.fLeft).length:Int) then ((sll a0.fRight).length:Int) else ((sll a0.fLeft).length:Int))),(36,aI y21),(37,aB (decide (y21 < (if ((sll a0.fRight).length:Int) < ((sll a0.fLeft).length:Int) then ((sll a0.fRight).length:Int) else ((sll a0.fLeft).length:Int)))))] ?_)
      refine sq ?_
      rcases zo hm with ⟨h27,hm⟩ | ⟨h27,hm⟩
      ·
       refine c1 h27 (wp_skip (sq (bq (sq (dn [(1,.ptr 0 0),(2,.ptr 1 0),(5,aI y21),(35,aI (if ((sll a0.fRight).length:Int) < ((sll a0.fLeft).length:Int) then ((sll a0.fRight).length:Int) else ((sll a0.fLeft).length:Int))),(36,aI y21)] (rgd (shd 4 [(42,aI y21),(41,.pv (zh zb a0.fLeft)),(40,.ptr 1 3),(39,.pv .nils)] (by kernel_rfl) ?_)))))))
       obtain ⟨x28,h29,hm⟩:=bs hm
       refine dvd 43 (v:=.pv (.ptr (zC (za x28)) 0)) (Zd zb a0.fLeft .i64 t23 t49 h29 (zx x28) rfl (by kernel_rfl)) (by kernel_rfl) (shd 1 [(44,.agg (zc8 x28))] (by kernel_rfl) ?_)
       obtain ⟨x30,h31,hm⟩:=bs hm
       refine dvd 45 (zE (by kernel_rfl) (ZT h31) (by kernel_rfl) (by kernel_rfl) (by kernel_rfl)) (by kernel_rfl) (shd 3 [(48,aI y21),(47,.pv (zh zb a0.fRight)),(46,.ptr 1 4)] (by kernel_rfl) ?_)
       obtain ⟨x32,h33,hm⟩:=bs hm
       refine dvd 49 (v:=.pv (.ptr (zC (za x32)) 0)) (Zd zb a0.fRight .i64 t23 t49 h33 (zx x32) rfl (by kernel_rfl)) (by kernel_rfl) (shd 1 [(50,.agg (zc8 x32))] (by kernel_rfl) ?_)
       obtain ⟨x34,h35,hm⟩:=bs hm
       refine dvd 51 (zE (by kernel_rfl) (ZT h35) (by kernel_rfl) (by kernel_rfl) (by kernel_rfl)) (by kernel_rfl) (std 4 [(55,aR 3 8 1),(54,aI 0),(53,.agg zc9),(52,aR 2 8 2)] [.box [.pv .nils] false,.box (zc2 a0) false,bR 49 8 zb ([(zf x30),(zf x34)]:List zc) 0 0,bR 49 8 zb ([(zf (zj.mk 0 0 0 (zi.mk 0 0 0 ByteArray.empty) none))]:List zc) 0 0] (by kernel_rfl) ?_)
       obtain ⟨_,h36,hm⟩:=bs hm
       refine dOd [(56,aR 4 8 (([(zf (zj.mk 0 0 0 (zi.mk 0 0 0 ByteArray.empty) none))]:List zc).length))] [.box [.pv .nils] false,.box (zc2 a0) false,bR 49 8 zb ([(zf x30),(zf x34)]:List zc) 0 0,bR 49 8 zb ([(zf (zj.mk 0 0 0 (zi.mk 0 0 0 ByteArray.empty) none))]:List zc) 0 0,bR 49 8 zb ([(zf (zj.mk 0 0 0 (zi.mk 0 0 0 ByteArray.empty) none))]:List zc) 0 0] (qU (u:=0) zb ([(zf (zj.mk 0 0 0 (zi.mk 0 0 0 ByteArray.empty) none))]:List zc) (b:=88) t23 t49 rfl rfl rfl Za rfl h36 (show zT (aR 3 8 1) _=some (([(zf (zj.mk 0 0 0 (zi.mk 0 0 0 ByteArray.empty) none))]:List zc).map zb) from by kernel_rfl) (by kernel_rfl)) (by kernel_rfl) ?_
       obtain ⟨x37,h38,hm⟩:=bs hm
       refine dvd 57 (v:=.eptr 4 0 (([(zf (zj.mk 0 0 0 (zi.mk 0 0 0 ByteArray.empty) none))]:List zc).length) 8 (0+Int.toNat 0) 0) (Q7 ([(zf (zj.mk 0 0 0 (zi.mk 0 0 0 ByteArray.empty) none))]:List zc) .i64 (n:=([(zf (zj.mk 0 0 0 (zi.mk 0 0 0 ByteArray.empty) none))]:List zc).length) (id:=4) (esz:=8) t23 t49 h38 rfl rfl (by kernel_rfl)) (by kernel_rfl) (dOd [] [.box [.pv .nils] false,.box (zc2 a0) false,bR 49 8 zb ([(zf x30),(zf x34)]:List zc) 0 (max 0 (([(zf x30),(zf x34)]:List zc).map zb).length),bR 49 8 zb ([(zf (zj.mk 0 0 0 (zi.mk 0 0 0 ByteArray.empty) none))]:List zc) 0 0,bR 49 8 zb (([(zf (zj.mk 0 0 0 (zi.mk 0 0 0 ByteArray.empty) none))]:List zc).set (Int.toNat 0) (zf (zj.mk 7 0 0 (zi.mk 0 0 0 ByteArray.empty) (some ([(zf x30),(zf x34)]:List zc))))) (([(zf (zj.mk 0 0 0 (zi.mk 0 0 0 ByteArray.empty) none))]:List zc).length) 0] (agX zb ([(zf (zj.mk 0 0 0 (zi.mk 0 0 0 ByteArray.empty) none))]:List zc) (zf (zj.mk 7 0 0 (zi.mk 0 0 0 ByteArray.empty) (some ([(zf x30),(zf x34)]:List zc)))) (n:=([(zf (zj.mk 0 0 0 (zi.mk 0 0 0 ByteArray.empty) none))]:List zc).length) (esz:=8) (v:=.agg zc9) (j:=0) (off:=0) (id:=4) [2] (.agg (zc10 x30 x34)) t49 rfl h38 rfl (Nat.zero_le _) (by kernel_rfl) rfl (by kernel_rfl) rfl rfl rfl (zx x37) rfl (by kernel_rfl)) (by kernel_rfl) (std 1 [] [.box zc11 false,.box (zc2 a0) false,bR 49 8 zb ([(zf x30),(zf x34)]:List zc) 0 (max 0 (([(zf x30),(zf x34)]:List zc).map zb).length),bR 49 8 zb ([(zf (zj.mk 0 0 0 (zi.mk 0 0 0 ByteArray.empty) none))]:List zc) 0 0,bR 49 8 zb (([(zf (zj.mk 0 0 0 (zi.mk 0 0 0 ByteArray.empty) none))]:List zc).set (Int.toNat 0) (zf (zj.mk 7 0 0 (zi.mk 0 0 0 ByteArray.empty) (some ([(zf x30),(zf x34)]:List zc))))) (([(zf (zj.mk 0 0 0 (zi.mk 0 0 0 ByteArray.empty) none))]:List zc).length) 0] (by kernel_rfl) (find [(1,.ptr 0 0),(2,.ptr 1 0),(35,aI (if ((sll a0.fRight).length:Int) < ((sll a0.fLeft).length:Int) then ((sll a0.fRight).length:Int) else ((sll a0.fLeft).length:Int))),(36,aI y21)] rfl (by kernel_rfl) (by kernel_rfl) (dn [(1,.ptr 0 0),(2,.ptr 1 0),(35,aI (if ((sll a0.fRight).length:Int) < ((sll a0.fLeft).length:Int) then ((sll a0.fRight).length:Int) else ((sll a0.fLeft).length:Int))),(36,aI (IntKind.wrap .i64 (y21+1)))] ?_))))
       exact ⟨_,_,Zh [(1,.ptr 0 0),(2,.ptr 1 0),(35,aI (if ((sll a0.fRight).length:Int) < ((sll a0.fLeft).length:Int) then ((sll a0.fRight).length:Int) else ((sll a0.fLeft).length:Int))),(36,aI (IntKind.wrap .i64 (y21+1)))] [.box zc12 false,.box (zc2 a0) false,bR 49 8 zb (([(zf (zj.mk 0 0 0 (zi.mk 0 0 0 ByteArray.empty) none))]:List zc).set (Int.toNat 0) (zf (zj.mk 7 0 0 (zi.mk 0 0 0 ByteArray.empty) (some ([(zf x30),(zf x34)]:List zc))))) (([(zf (zj.mk 0 0 0 (zi.mk 0 0 0 ByteArray.empty) none))]:List zc).length) 0] (by kernel_rfl),.inr (⟨(([(zf (zj.mk 0 0 0 (zi.mk 0 0 0 ByteArray.empty) none))]:List zc).set (Int.toNat 0) (zf (zj.mk 7 0 0 (zi.mk 0 0 0 ByteArray.empty) (some ([(zf x30),(zf x34)]:List zc))))),(IntKind.wrap .i64 (y21+1)),([(zf (zj.mk 0 0 0 (zi.mk 0 0 0 ByteArray.empty) none))]:List zc).length,([(zf (zj.mk 0 0 0 (zi.mk 0 0 0 ByteArray.empty) none))]:List zc).length,hm,rfl,rfl,(by first | rfl | assumption | omega | (simp only [List.length_set,List.length_append,List.length_cons,List.length_nil,List.length_replicate,List.length_drop] at * <;> omega)),(by first | exact Nat.zero_le _ | exact Nat.le_refl _ | assumption | omega | (simp only [List.length_set,List.length_append,List.length_cons,List.length_nil,List.length_replicate,List.length_drop] at * <;> omega))⟩)⟩
      ·
       refine c0 h27 (wp_exit ?_)
       obtain rfl:=Option.some.inj hm
       exact ⟨trivial,.tup [],[.box [.pv .nils] false],by kernel_rfl,rfl,rfl⟩
     ·
      simp only [zO] at hm
      refine sq (dn [(1,.ptr 0 0),(2,.ptr 1 0),(35,aI (if ((sll a0.fRight).length:Int) < ((sll a0.fLeft).length:Int) then ((sll a0.fRight).length:Int) else ((sll a0.fLeft).length:Int))),(36,aI y21),(37,aB (decide (y21 < (if ((sll a0.fRight).length:Int) < ((sll a0.fLeft).length:Int) then ((sll a0.fRight).length:Int) else ((sll a0.fLeft).length:Int)))))] ?_)
      refine sq ?_
      rcases zo hm with ⟨h39,hm⟩ | ⟨h39,hm⟩
      ·
       refine c1 h39 (wp_skip (sq (bq (sq (dn [(1,.ptr 0 0),(2,.ptr 1 0),(5,aI y21),(35,aI (if ((sll a0.fRight).length:Int) < ((sll a0.fLeft).length:Int) then ((sll a0.fRight).length:Int) else ((sll a0.fLeft).length:Int))),(36,aI y21)] (rgd (shd 4 [(42,aI y21),(41,.pv (zh zb a0.fLeft)),(40,.ptr 1 3),(39,aR 2 8 g22)] (by kernel_rfl) ?_)))))))
       obtain ⟨x40,h41,hm⟩:=bs hm
       refine dvd 43 (v:=.pv (.ptr (zC (za x40)) 0)) (Zd zb a0.fLeft .i64 t23 t49 h41 (zx x40) rfl (by kernel_rfl)) (by kernel_rfl) (shd 1 [(44,.agg (zc8 x40))] (by kernel_rfl) ?_)
       obtain ⟨x42,h43,hm⟩:=bs hm
       refine dvd 45 (zE (by kernel_rfl) (ZT h43) (by kernel_rfl) (by kernel_rfl) (by kernel_rfl)) (by kernel_rfl) (shd 3 [(48,aI y21),(47,.pv (zh zb a0.fRight)),(46,.ptr 1 4)] (by kernel_rfl) ?_)
       obtain ⟨x44,h45,hm⟩:=bs hm
       refine dvd 49 (v:=.pv (.ptr (zC (za x44)) 0)) (Zd zb a0.fRight .i64 t23 t49 h45 (zx x44) rfl (by kernel_rfl)) (by kernel_rfl) (shd 1 [(50,.agg (zc8 x44))] (by kernel_rfl) ?_)
       obtain ⟨x46,h47,hm⟩:=bs hm
       refine dvd 51 (zE (by kernel_rfl) (ZT h47) (by kernel_rfl) (by kernel_rfl) (by kernel_rfl)) (by kernel_rfl) (std 2 [(53,.agg zc13),(52,aR 3 8 2)] [.box [aR 2 8 g22] false,.box (zc2 a0) false,bR 49 8 zb y20 g24 0,bR 49 8 zb ([(zf x42),(zf x46)]:List zc) 0 0] (by kernel_rfl) (dvd 54 (v:=aI (y20.length:Int)) (acu y20 (n:=g22) (id:=2) (esz:=8) t23 (by omega) (by kernel_rfl)) (by kernel_rfl) (std 1 [(55,aR 4 8 1)] [.box [aR 2 8 g22] false,.box (zc2 a0) false,bR 49 8 zb y20 g24 0,bR 49 8 zb ([(zf x42),(zf x46)]:List zc) 0 0,bR 49 8 zb ([(zf (zj.mk 0 0 0 (zi.mk 0 0 0 ByteArray.empty) none))]:List zc) 0 0] (by kernel_rfl) ?_)))
       obtain ⟨_,h48,hm⟩:=bs hm
       refine dOd [(56,aR 2 8 ((y20++([(zf (zj.mk 0 0 0 (zi.mk 0 0 0 ByteArray.empty) none))]:List zc)).length))] [.box [aR 2 8 g22] false,.box (zc2 a0) false,bR 49 8 zb (y20++([(zf (zj.mk 0 0 0 (zi.mk 0 0 0 ByteArray.empty) none))]:List zc)) g24 0,bR 49 8 zb ([(zf x42),(zf x46)]:List zc) 0 0,bR 49 8 zb ([(zf (zj.mk 0 0 0 (zi.mk 0 0 0 ByteArray.empty) none))]:List zc) 0 0] (Z5 (u:=0) (n:=g22) (id:=2) zb y20 ([(zf (zj.mk 0 0 0 (zi.mk 0 0 0 ByteArray.empty) none))]:List zc) (b:=88) t23 t49 rfl rfl rfl Za rfl h48 rfl (by omega) (by omega) (show zT (aR 4 8 1) _=some (([(zf (zj.mk 0 0 0 (zi.mk 0 0 0 ByteArray.empty) none))]:List zc).map zb) from by kernel_rfl) (by kernel_rfl)) (by kernel_rfl) ?_
       obtain ⟨x49,h50,hm⟩:=bs hm
       refine dvd 57 (v:=.eptr 2 0 ((y20++([(zf (zj.mk 0 0 0 (zi.mk 0 0 0 ByteArray.empty) none))]:List zc)).length) 8 (0+Int.toNat (y20.length:Int)) 0) (Q7 (y20++([(zf (zj.mk 0 0 0 (zi.mk 0 0 0 ByteArray.empty) none))]:List zc)) .i64 (n:=(y20++([(zf (zj.mk 0 0 0 (zi.mk 0 0 0 ByteArray.empty) none))]:List zc)).length) (id:=2) (esz:=8) t23 t49 h50 rfl rfl (by kernel_rfl)) (by kernel_rfl) (dOd [] [.box [aR 2 8 g22] false,.box (zc2 a0) false,bR 49 8 zb ((y20++([(zf (zj.mk 0 0 0 (zi.mk 0 0 0 ByteArray.empty) none))]:List zc)).set (Int.toNat (y20.length:Int)) (zf (zj.mk 7 0 0 (zi.mk 0 0 0 ByteArray.empty) (some ([(zf x42),(zf x46)]:List zc))))) ((y20++([(zf (zj.mk 0 0 0 (zi.mk 0 0 0 ByteArray.empty) none))]:List zc)).length) 0,bR 49 8 zb ([(zf x42),(zf x46)]:List zc) 0 (max 0 (([(zf x42),(zf x46)]:List zc).map zb).length),bR 49 8 zb ([(zf (zj.mk 0 0 0 (zi.mk 0 0 0 ByteArray.empty) none))]:List zc) 0 0] (agX zb (y20++([(zf (zj.mk 0 0 0 (zi.mk 0 0 0 ByteArray.empty) none))]:List zc)) (zf (zj.mk 7 0 0 (zi.mk 0 0 0 ByteArray.empty) (some ([(zf x42),(zf x46)]:List zc)))) (n:=(y20++([(zf (zj.mk 0 0 0 (zi.mk 0 0 0 ByteArray.empty) none))]:List zc)).length) (esz:=8) (v:=.agg zc13) (j:=(y20.length:Int)) (off:=0) (id:=2) [3] (.agg (zc10 x42 x46)) t49 rfl h50 rfl (by first | exact Nat.zero_le _ | exact Nat.le_refl _ | assumption | omega | (simp only [List.length_set,List.length_append,List.length_cons,List.length_nil,List.length_replicate,List.length_drop] at * <;> omega)) (by kernel_rfl) rfl (by kernel_rfl) rfl rfl rfl (zx x49) rfl (by kernel_rfl)) (by kernel_rfl) (std 1 [] [.box (zc14 y20) false,.box (zc2 a0) false,bR 49 8 zb ((y20++([(zf (zj.mk 0 0 0 (zi.mk 0 0 0 ByteArray.empty) none))]:List zc)).set (Int.toNat (y20.length:Int)) (zf (zj.mk 7 0 0 (zi.mk 0 0 0 ByteArray.empty) (some ([(zf x42),(zf x46)]:List zc))))) ((y20++([(zf (zj.mk 0 0 0 (zi.mk 0 0 0 ByteArray.empty) none))]:List zc)).length) 0,bR 49 8 zb ([(zf x42),(zf x46)]:List zc) 0 (max 0 (([(zf x42),(zf x46)]:List zc).map zb).length),bR 49 8 zb ([(zf (zj.mk 0 0 0 (zi.mk 0 0 0 ByteArray.empty) none))]:List zc) 0 0] (by kernel_rfl) (find [(1,.ptr 0 0),(2,.ptr 1 0),(35,aI (if ((sll a0.fRight).length:Int) < ((sll a0.fLeft).length:Int) then ((sll a0.fRight).length:Int) else ((sll a0.fLeft).length:Int))),(36,aI y21)] rfl (by kernel_rfl) (by kernel_rfl) (dn [(1,.ptr 0 0),(2,.ptr 1 0),(35,aI (if ((sll a0.fRight).length:Int) < ((sll a0.fLeft).length:Int) then ((sll a0.fRight).length:Int) else ((sll a0.fLeft).length:Int))),(36,aI (IntKind.wrap .i64 (y21+1)))] ?_))))
       exact ⟨_,_,Zh [(1,.ptr 0 0),(2,.ptr 1 0),(35,aI (if ((sll a0.fRight).length:Int) < ((sll a0.fLeft).length:Int) then ((sll a0.fRight).length:Int) else ((sll a0.fLeft).length:Int))),(36,aI (IntKind.wrap .i64 (y21+1)))] [.box (zc14 y20) false,.box (zc2 a0) false,bR 49 8 zb ((y20++([(zf (zj.mk 0 0 0 (zi.mk 0 0 0 ByteArray.empty) none))]:List zc)).set (Int.toNat (y20.length:Int)) (zf (zj.mk 7 0 0 (zi.mk 0 0 0 ByteArray.empty) (some ([(zf x42),(zf x46)]:List zc))))) ((y20++([(zf (zj.mk 0 0 0 (zi.mk 0 0 0 ByteArray.empty) none))]:List zc)).length) 0] (by kernel_rfl),.inr (⟨((y20++([(zf (zj.mk 0 0 0 (zi.mk 0 0 0 ByteArray.empty) none))]:List zc)).set (Int.toNat (y20.length:Int)) (zf (zj.mk 7 0 0 (zi.mk 0 0 0 ByteArray.empty) (some ([(zf x42),(zf x46)]:List zc))))),(IntKind.wrap .i64 (y21+1)),(y20++([(zf (zj.mk 0 0 0 (zi.mk 0 0 0 ByteArray.empty) none))]:List zc)).length,(y20++([(zf (zj.mk 0 0 0 (zi.mk 0 0 0 ByteArray.empty) none))]:List zc)).length,hm,rfl,rfl,(by first | rfl | assumption | omega | (simp only [List.length_set,List.length_append,List.length_cons,List.length_nil,List.length_replicate,List.length_drop] at * <;> omega)),(by first | exact Nat.zero_le _ | exact Nat.le_refl _ | assumption | omega | (simp only [List.length_set,List.length_append,List.length_cons,List.length_nil,List.length_replicate,List.length_drop] at * <;> omega))⟩)⟩
      ·
       refine c0 h39 (wp_exit ?_)
       obtain rfl:=Option.some.inj hm
       exact ⟨trivial,.tup [],[.box [aR 1 8 g22] false,bR 49 8 zb y20 g24 0],by kernel_rfl,g22,g24,(by first | rfl | assumption | omega | (simp only [List.length_set,List.length_append,List.length_cons,List.length_nil,List.length_replicate,List.length_drop] at * <;> omega)),(by first | exact Nat.zero_le _ | exact Nat.le_refl _ | assumption | omega | (simp only [List.length_set,List.length_append,List.length_cons,List.length_nil,List.length_replicate,List.length_drop] at * <;> omega)),rfl,rfl⟩
   ·
    subst hk8
    refine sq (sq (rg (s1 4 [(24,aB (a0.fKind != 3)),(23,aB (a0.fKind != 3)),(22,aI a0.fKind),(21,.ptr 1 0)] ?_)))
    refine segP (a0.fKind != 3) [24,23] (fun b=>[(28,aB (b && (a0.fKind != 4))),(27,ifA b (aB (a0.fKind != 4)) (.undef)),(26,ifA b (aI a0.fKind) (.undef)),(25,ifA b (.ptr 1 0) (.undef))]) 4 (by kernel_rfl) (by kernel_rfl) (by kernel_rfl) (fin [(1,.ptr 0 0),(2,.ptr 1 0),(28,aB ((a0.fKind != 3) && (a0.fKind != 4)))] rfl (by kernel_rfl) ?_)
    rcases zo hm with ⟨h51,hm⟩ | ⟨h51,hm⟩
    ·
     refine c1 h51 (wp_ret ?_)
     obtain rfl:=Option.some.inj hm
     exact ⟨trivial,.tup [],[.box [aR 1 8 g4] false,bR 49 8 zb y3 g6 0],by kernel_rfl,g4,g6,(by first | rfl | assumption | omega | (simp only [List.length_set,List.length_append,List.length_cons,List.length_nil,List.length_replicate,List.length_drop] at * <;> omega)),(by first | exact Nat.zero_le _ | exact Nat.le_refl _ | assumption | omega | (simp only [List.length_set,List.length_append,List.length_cons,List.length_nil,List.length_replicate,List.length_drop] at * <;> omega)),rfl,rfl⟩
    ·
     refine c0 h51 (wp_skip (sq (rg (s1 2 [(30,.pv (zh zb a0.fLeft)),(29,.ptr 1 3)] (dv 31 (v:=aI ((sll a0.fLeft).length:Int)) (zy zb a0.fLeft t23 (by kernel_rfl)) (by kernel_rfl) (s1 2 [(33,.pv (zh zb a0.fRight)),(32,.ptr 1 4)] (dv 34 (v:=aI ((sll a0.fRight).length:Int)) (zy zb a0.fRight t23 (by kernel_rfl)) (by kernel_rfl) (fq 2 [(1,.ptr 0 0),(2,.ptr 1 0),(35,aI (if ((sll a0.fRight).length:Int) < ((sll a0.fLeft).length:Int) then ((sll a0.fRight).length:Int) else ((sll a0.fLeft).length:Int))),(36,aI 0)] (bq ?_)))))))))
     refine ZY (fun mm t H=>(∃ (y58:(List zc)) (y59:Int) (g60:Nat) (g62:Nat),Zi n a0 mm y58 y59=some r∧t=mk 59 [(1,.ptr 0 0),(2,.ptr 1 0),(35,aI (if ((sll a0.fRight).length:Int) < ((sll a0.fLeft).length:Int) then ((sll a0.fRight).length:Int) else ((sll a0.fLeft).length:Int))),(36,aI y59)]∧H=[.box [aR 2 8 g60] false,.box (zc2 a0) false,bR 49 8 zb y58 g62 0]∧y58.length=g60∧g62≤y58.length)) (⟨y3,0,g4,g6,hm,rfl,rfl,(by first | rfl | assumption | omega | (simp only [List.length_set,List.length_append,List.length_cons,List.length_nil,List.length_replicate,List.length_drop] at * <;> omega)),(by first | exact Nat.zero_le _ | exact Nat.le_refl _ | assumption | omega | (simp only [List.length_set,List.length_append,List.length_cons,List.length_nil,List.length_replicate,List.length_drop] at * <;> omega))⟩) ?_ ?_
     · rintro _ _ ⟨y58,y59,g60,g62,hm,_⟩; exact nomatch hm
     rintro m64 _ _ ⟨y58,y59,g60,g62,hm,rfl,rfl,q61,q63⟩
     simp only [Zi] at hm
     refine sq (dn [(1,.ptr 0 0),(2,.ptr 1 0),(35,aI (if ((sll a0.fRight).length:Int) < ((sll a0.fLeft).length:Int) then ((sll a0.fRight).length:Int) else ((sll a0.fLeft).length:Int))),(36,aI y59),(37,aB (decide (y59 < (if ((sll a0.fRight).length:Int) < ((sll a0.fLeft).length:Int) then ((sll a0.fRight).length:Int) else ((sll a0.fLeft).length:Int)))))] ?_)
     refine sq ?_
     rcases zo hm with ⟨h65,hm⟩ | ⟨h65,hm⟩
     ·
      refine c1 h65 (wp_skip (sq (bq (sq (dn [(1,.ptr 0 0),(2,.ptr 1 0),(5,aI y59),(35,aI (if ((sll a0.fRight).length:Int) < ((sll a0.fLeft).length:Int) then ((sll a0.fRight).length:Int) else ((sll a0.fLeft).length:Int))),(36,aI y59)] (rgd (shd 4 [(42,aI y59),(41,.pv (zh zb a0.fLeft)),(40,.ptr 1 3),(39,aR 2 8 g60)] (by kernel_rfl) ?_)))))))
      obtain ⟨x66,h67,hm⟩:=bs hm
      refine dvd 43 (v:=.pv (.ptr (zC (za x66)) 0)) (Zd zb a0.fLeft .i64 t23 t49 h67 (zx x66) rfl (by kernel_rfl)) (by kernel_rfl) (shd 1 [(44,.agg (zc8 x66))] (by kernel_rfl) ?_)
      obtain ⟨x68,h69,hm⟩:=bs hm
      refine dvd 45 (zE (by kernel_rfl) (ZT h69) (by kernel_rfl) (by kernel_rfl) (by kernel_rfl)) (by kernel_rfl) (shd 3 [(48,aI y59),(47,.pv (zh zb a0.fRight)),(46,.ptr 1 4)] (by kernel_rfl) ?_)
      obtain ⟨x70,h71,hm⟩:=bs hm
      refine dvd 49 (v:=.pv (.ptr (zC (za x70)) 0)) (Zd zb a0.fRight .i64 t23 t49 h71 (zx x70) rfl (by kernel_rfl)) (by kernel_rfl) (shd 1 [(50,.agg (zc8 x70))] (by kernel_rfl) ?_)
      obtain ⟨x72,h73,hm⟩:=bs hm
      refine dvd 51 (zE (by kernel_rfl) (ZT h73) (by kernel_rfl) (by kernel_rfl) (by kernel_rfl)) (by kernel_rfl) (std 2 [(53,.agg zc13),(52,aR 3 8 2)] [.box [aR 2 8 g60] false,.box (zc2 a0) false,bR 49 8 zb y58 g62 0,bR 49 8 zb ([(zf x68),(zf x72)]:List zc) 0 0] (by kernel_rfl) (dvd 54 (v:=aI (y58.length:Int)) (acu y58 (n:=g60) (id:=2) (esz:=8) t23 (by omega) (by kernel_rfl)) (by kernel_rfl) (std 1 [(55,aR 4 8 1)] [.box [aR 2 8 g60] false,.box (zc2 a0) false,bR 49 8 zb y58 g62 0,bR 49 8 zb ([(zf x68),(zf x72)]:List zc) 0 0,bR 49 8 zb ([(zf (zj.mk 0 0 0 (zi.mk 0 0 0 ByteArray.empty) none))]:List zc) 0 0] (by kernel_rfl) ?_)))
      obtain ⟨_,h74,hm⟩:=bs hm
      refine dOd [(56,aR 2 8 ((y58++([(zf (zj.mk 0 0 0 (zi.mk 0 0 0 ByteArray.empty) none))]:List zc)).length))] [.box [aR 2 8 g60] false,.box (zc2 a0) false,bR 49 8 zb (y58++([(zf (zj.mk 0 0 0 (zi.mk 0 0 0 ByteArray.empty) none))]:List zc)) g62 0,bR 49 8 zb ([(zf x68),(zf x72)]:List zc) 0 0,bR 49 8 zb ([(zf (zj.mk 0 0 0 (zi.mk 0 0 0 ByteArray.empty) none))]:List zc) 0 0] (Z5 (u:=0) (n:=g60) (id:=2) zb y58 ([(zf (zj.mk 0 0 0 (zi.mk 0 0 0 ByteArray.empty) none))]:List zc) (b:=88) t23 t49 rfl rfl rfl Za rfl h74 rfl (by omega) (by omega) (show zT (aR 4 8 1) _=some (([(zf (zj.mk 0 0 0 (zi.mk 0 0 0 ByteArray.empty) none))]:List zc).map zb) from by kernel_rfl) (by kernel_rfl)) (by kernel_rfl) ?_
      obtain ⟨x75,h76,hm⟩:=bs hm
      refine dvd 57 (v:=.eptr 2 0 ((y58++([(zf (zj.mk 0 0 0 (zi.mk 0 0 0 ByteArray.empty) none))]:List zc)).length) 8 (0+Int.toNat (y58.length:Int)) 0) (Q7 (y58++([(zf (zj.mk 0 0 0 (zi.mk 0 0 0 ByteArray.empty) none))]:List zc)) .i64 (n:=(y58++([(zf (zj.mk 0 0 0 (zi.mk 0 0 0 ByteArray.empty) none))]:List zc)).length) (id:=2) (esz:=8) t23 t49 h76 rfl rfl (by kernel_rfl)) (by kernel_rfl) (dOd [] [.box [aR 2 8 g60] false,.box (zc2 a0) false,bR 49 8 zb ((y58++([(zf (zj.mk 0 0 0 (zi.mk 0 0 0 ByteArray.empty) none))]:List zc)).set (Int.toNat (y58.length:Int)) (zf (zj.mk 7 0 0 (zi.mk 0 0 0 ByteArray.empty) (some ([(zf x68),(zf x72)]:List zc))))) ((y58++([(zf (zj.mk 0 0 0 (zi.mk 0 0 0 ByteArray.empty) none))]:List zc)).length) 0,bR 49 8 zb ([(zf x68),(zf x72)]:List zc) 0 (max 0 (([(zf x68),(zf x72)]:List zc).map zb).length),bR 49 8 zb ([(zf (zj.mk 0 0 0 (zi.mk 0 0 0 ByteArray.empty) none))]:List zc) 0 0] (agX zb (y58++([(zf (zj.mk 0 0 0 (zi.mk 0 0 0 ByteArray.empty) none))]:List zc)) (zf (zj.mk 7 0 0 (zi.mk 0 0 0 ByteArray.empty) (some ([(zf x68),(zf x72)]:List zc)))) (n:=(y58++([(zf (zj.mk 0 0 0 (zi.mk 0 0 0 ByteArray.empty) none))]:List zc)).length) (esz:=8) (v:=.agg zc13) (j:=(y58.length:Int)) (off:=0) (id:=2) [3] (.agg (zc10 x68 x72)) t49 rfl h76 rfl (by first | exact Nat.zero_le _ | exact Nat.le_refl _ | assumption | omega | (simp only [List.length_set,List.length_append,List.length_cons,List.length_nil,List.length_replicate,List.length_drop] at * <;> omega)) (by kernel_rfl) rfl (by kernel_rfl) rfl rfl rfl (zx x75) rfl (by kernel_rfl)) (by kernel_rfl) (std 1 [] [.box (zc14 y58) false,.box (zc2 a0) false,bR 49 8 zb ((y58++([(zf (zj.mk 0 0 0 (zi.mk 0 0 0 ByteArray.empty) none))]:List zc)).set (Int.toNat (y58.length:Int)) (zf (zj.mk 7 0 0 (zi.mk 0 0 0 ByteArray.empty) (some ([(zf x68),(zf x72)]:List zc))))) ((y58++([(zf (zj.mk 0 0 0 (zi.mk 0 0 0 ByteArray.empty) none))]:List zc)).length) 0,bR 49 8 zb ([(zf x68),(zf x72)]:List zc) 0 (max 0 (([(zf x68),(zf x72)]:List zc).map zb).length),bR 49 8 zb ([(zf (zj.mk 0 0 0 (zi.mk 0 0 0 ByteArray.empty) none))]:List zc) 0 0] (by kernel_rfl) (find [(1,.ptr 0 0),(2,.ptr 1 0),(35,aI (if ((sll a0.fRight).length:Int) < ((sll a0.fLeft).length:Int) then ((sll a0.fRight).length:Int) else ((sll a0.fLeft).length:Int))),(36,aI y59)] rfl (by kernel_rfl) (by kernel_rfl) (dn [(1,.ptr 0 0),(2,.ptr 1 0),(35,aI (if ((sll a0.fRight).length:Int) < ((sll a0.fLeft).length:Int) then ((sll a0.fRight).length:Int) else ((sll a0.fLeft).length:Int))),(36,aI (IntKind.wrap .i64 (y59+1)))] ?_))))
      exact ⟨_,_,Zh [(1,.ptr 0 0),(2,.ptr 1 0),(35,aI (if ((sll a0.fRight).length:Int) < ((sll a0.fLeft).length:Int) then ((sll a0.fRight).length:Int) else ((sll a0.fLeft).length:Int))),(36,aI (IntKind.wrap .i64 (y59+1)))] [.box (zc14 y58) false,.box (zc2 a0) false,bR 49 8 zb ((y58++([(zf (zj.mk 0 0 0 (zi.mk 0 0 0 ByteArray.empty) none))]:List zc)).set (Int.toNat (y58.length:Int)) (zf (zj.mk 7 0 0 (zi.mk 0 0 0 ByteArray.empty) (some ([(zf x68),(zf x72)]:List zc))))) ((y58++([(zf (zj.mk 0 0 0 (zi.mk 0 0 0 ByteArray.empty) none))]:List zc)).length) 0] (by kernel_rfl),⟨((y58++([(zf (zj.mk 0 0 0 (zi.mk 0 0 0 ByteArray.empty) none))]:List zc)).set (Int.toNat (y58.length:Int)) (zf (zj.mk 7 0 0 (zi.mk 0 0 0 ByteArray.empty) (some ([(zf x68),(zf x72)]:List zc))))),(IntKind.wrap .i64 (y59+1)),(y58++([(zf (zj.mk 0 0 0 (zi.mk 0 0 0 ByteArray.empty) none))]:List zc)).length,(y58++([(zf (zj.mk 0 0 0 (zi.mk 0 0 0 ByteArray.empty) none))]:List zc)).length,hm,rfl,rfl,(by first | rfl | assumption | omega | (simp only [List.length_set,List.length_append,List.length_cons,List.length_nil,List.length_replicate,List.length_drop] at * <;> omega)),(by first | exact Nat.zero_le _ | exact Nat.le_refl _ | assumption | omega | (simp only [List.length_set,List.length_append,List.length_cons,List.length_nil,List.length_replicate,List.length_drop] at * <;> omega))⟩⟩
     ·
      refine c0 h65 (wp_exit ?_)
      obtain rfl:=Option.some.inj hm
      exact ⟨trivial,.tup [],[.box [aR 1 8 g60] false,bR 49 8 zb y58 g62 0],by kernel_rfl,g60,g62,(by first | rfl | assumption | omega | (simp only [List.length_set,List.length_append,List.length_cons,List.length_nil,List.length_replicate,List.length_drop] at * <;> omega)),(by first | exact Nat.zero_le _ | exact Nat.le_refl _ | assumption | omega | (simp only [List.length_set,List.length_append,List.length_cons,List.length_nil,List.length_replicate,List.length_drop] at * <;> omega)),rfl,rfl⟩
  refine sq (rg (s1 2 [(7,.pv (zh zb a0.fWhere)),(6,.ptr 1 2)] (dv 8 (v:=aI ((sll a0.fWhere).length:Int)) (zy zb a0.fWhere t23 (by kernel_rfl)) (by kernel_rfl) (fq 1 [(1,.ptr 0 0),(2,.ptr 1 0),(7,.pv (zh zb a0.fWhere)),(8,aI ((sll a0.fWhere).length:Int)),(9,aI 0)] (bq ?_)))))
  refine ZY (fun mm t H=>(∃ (y88:Int),zV n a0 k8 mm none y88=some r∧t=mk 59 [(1,.ptr 0 0),(2,.ptr 1 0),(7,.pv (zh zb a0.fWhere)),(8,aI ((sll a0.fWhere).length:Int)),(9,aI y88)]∧H=[.box [.pv .nils] false,.box (zc2 a0) false])∨(∃ (y87:(List zc)) (y88:Int) (g89:Nat) (g91:Nat),zV n a0 k8 mm (some y87) y88=some r∧t=mk 59 [(1,.ptr 0 0),(2,.ptr 1 0),(7,.pv (zh zb a0.fWhere)),(8,aI ((sll a0.fWhere).length:Int)),(9,aI y88)]∧H=[.box [aR 2 8 g89] false,.box (zc2 a0) false,bR 49 8 zb y87 g91 0]∧y87.length=g89∧g91≤y87.length)) (.inl ⟨0,hm,rfl,rfl⟩) ?_ ?_
  · rintro _ _ (⟨y88,hm,_⟩ | ⟨y87,y88,g89,g91,hm,_⟩) <;> exact nomatch hm
  rintro m93 _ _ (⟨y88,hm,rfl,rfl⟩ | ⟨y87,y88,g89,g91,hm,rfl,rfl,q90,q92⟩)
  ·
   simp only [zV] at hm
   refine sq (dn [(1,.ptr 0 0),(2,.ptr 1 0),(7,.pv (zh zb a0.fWhere)),(8,aI ((sll a0.fWhere).length:Int)),(9,aI y88),(10,aB (decide (y88 < ((sll a0.fWhere).length:Int))))] ?_)
   refine sq ?_
   rcases zo hm with ⟨h94,hm⟩ | ⟨h94,hm⟩
   ·
    refine c1 h94 (wp_skip (sq (bq (sq (rg ?_)))))
    obtain ⟨x95,h96,hm⟩:=bs hm
    refine dv 11 (v:=.pv (.ptr (zC (za x95)) 0)) (Zd zb a0.fWhere .i64 t23 t49 h96 (zx x95) rfl (by kernel_rfl)) (by kernel_rfl) (stf 3 [(1,.ptr 0 0),(2,.ptr 1 0),(4,.ptr 2 0),(7,.pv (zh zb a0.fWhere)),(8,aI ((sll a0.fWhere).length:Int)),(9,aI y88)] [.box [.pv .nils] false,.box (zc2 a0) false,.box (zc8 x95) false] (by kernel_rfl) (rgd (shd 2 [(14,.agg (zc8 x95)),(13,.pv .nils)] (by kernel_rfl) ?_)))
    obtain ⟨x97,h98,hm⟩:=bs hm
    refine dvd 15 (zE (by kernel_rfl) (ZT h98) (by kernel_rfl) (by kernel_rfl) (by kernel_rfl)) (by kernel_rfl) (std 2 [(17,aR 3 8 1),(16,aI 0)] [.box [.pv .nils] false,.box (zc2 a0) false,.box (zc8 x95) false,bR 49 8 zb ([(zf (zj.mk 0 0 0 (zi.mk 0 0 0 ByteArray.empty) none))]:List zc) 0 0] (by kernel_rfl) ?_)
    obtain ⟨_,h99,hm⟩:=bs hm
    refine dOd [(18,aR 4 8 (([(zf (zj.mk 0 0 0 (zi.mk 0 0 0 ByteArray.empty) none))]:List zc).length))] [.box [.pv .nils] false,.box (zc2 a0) false,.box (zc8 x95) false,bR 49 8 zb ([(zf (zj.mk 0 0 0 (zi.mk 0 0 0 ByteArray.empty) none))]:List zc) 0 0,bR 49 8 zb ([(zf (zj.mk 0 0 0 (zi.mk 0 0 0 ByteArray.empty) none))]:List zc) 0 0] (qU (u:=0) zb ([(zf (zj.mk 0 0 0 (zi.mk 0 0 0 ByteArray.empty) none))]:List zc) (b:=88) t23 t49 rfl rfl rfl Za rfl h99 (show zT (aR 3 8 1) _=some (([(zf (zj.mk 0 0 0 (zi.mk 0 0 0 ByteArray.empty) none))]:List zc).map zb) from by kernel_rfl) (by kernel_rfl)) (by kernel_rfl) ?_
    obtain ⟨x100,h101,hm⟩:=bs hm
    refine dvd 19 (v:=.eptr 4 0 (([(zf (zj.mk 0 0 0 (zi.mk 0 0 0 ByteArray.empty) none))]:List zc).length) 8 (0+Int.toNat 0) 0) (Q7 ([(zf (zj.mk 0 0 0 (zi.mk 0 0 0 ByteArray.empty) none))]:List zc) .i64 (n:=([(zf (zj.mk 0 0 0 (zi.mk 0 0 0 ByteArray.empty) none))]:List zc).length) (id:=4) (esz:=8) t23 t49 h101 rfl rfl (by kernel_rfl)) (by kernel_rfl) (dOd [] [.box [.pv .nils] false,.box (zc2 a0) false,.box (zc8 x95) false,bR 49 8 zb ([(zf (zj.mk 0 0 0 (zi.mk 0 0 0 ByteArray.empty) none))]:List zc) 0 0,bR 49 8 zb (([(zf (zj.mk 0 0 0 (zi.mk 0 0 0 ByteArray.empty) none))]:List zc).set (Int.toNat 0) (zf x97)) (([(zf (zj.mk 0 0 0 (zi.mk 0 0 0 ByteArray.empty) none))]:List zc).length) 0] (aen zb ([(zf (zj.mk 0 0 0 (zi.mk 0 0 0 ByteArray.empty) none))]:List zc) (zf x97) (n:=([(zf (zj.mk 0 0 0 (zi.mk 0 0 0 ByteArray.empty) none))]:List zc).length) (esz:=8) (v:=.agg (zc4 x97)) (j:=0) (off:=0) (id:=4) t49 rfl h101 rfl (Nat.zero_le _) rfl rfl rfl (zx x100) rfl (by kernel_rfl)) (by kernel_rfl) (std 1 [] [.box zc11 false,.box (zc2 a0) false,.box (zc8 x95) false,bR 49 8 zb ([(zf (zj.mk 0 0 0 (zi.mk 0 0 0 ByteArray.empty) none))]:List zc) 0 0,bR 49 8 zb (([(zf (zj.mk 0 0 0 (zi.mk 0 0 0 ByteArray.empty) none))]:List zc).set (Int.toNat 0) (zf x97)) (([(zf (zj.mk 0 0 0 (zi.mk 0 0 0 ByteArray.empty) none))]:List zc).length) 0] (by kernel_rfl) (find [(1,.ptr 0 0),(2,.ptr 1 0),(7,.pv (zh zb a0.fWhere)),(8,aI ((sll a0.fWhere).length:Int)),(9,aI y88)] rfl (by kernel_rfl) (by kernel_rfl) (dn [(1,.ptr 0 0),(2,.ptr 1 0),(7,.pv (zh zb a0.fWhere)),(8,aI ((sll a0.fWhere).length:Int)),(9,aI (IntKind.wrap .i64 (y88+1)))] ?_))))
    exact ⟨_,_,Zh [(1,.ptr 0 0),(2,.ptr 1 0),(7,.pv (zh zb a0.fWhere)),(8,aI ((sll a0.fWhere).length:Int)),(9,aI (IntKind.wrap .i64 (y88+1)))] [.box zc12 false,.box (zc2 a0) false,bR 49 8 zb (([(zf (zj.mk 0 0 0 (zi.mk 0 0 0 ByteArray.empty) none))]:List zc).set (Int.toNat 0) (zf x97)) (([(zf (zj.mk 0 0 0 (zi.mk 0 0 0 ByteArray.empty) none))]:List zc).length) 0] (by kernel_rfl),.inr (⟨(([(zf (zj.mk 0 0 0 (zi.mk 0 0 0 ByteArray.empty) none))]:List zc).set (Int.toNat 0) (zf x97)),(IntKind.wrap .i64 (y88+1)),([(zf (zj.mk 0 0 0 (zi.mk 0 0 0 ByteArray.empty) none))]:List zc).length,([(zf (zj.mk 0 0 0 (zi.mk 0 0 0 ByteArray.empty) none))]:List zc).length,hm,rfl,rfl,(by first | rfl | assumption | omega | (simp only [List.length_set,List.length_append,List.length_cons,List.length_nil,List.length_replicate,List.length_drop] at * <;> omega)),(by first | exact Nat.zero_le _ | exact Nat.le_refl _ | assumption | omega | (simp only [List.length_set,List.length_append,List.length_cons,List.length_nil,List.length_replicate,List.length_drop] at * <;> omega))⟩)⟩
   ·
    refine c0 h94 (wp_exit ?_)
    exact .inl ⟨aI y88,aB (decide (y88 < ((sll a0.fWhere).length:Int))),hm,(Zk (by kernel_rfl)),rfl⟩
  ·
   simp only [zV] at hm
   refine sq (dn [(1,.ptr 0 0),(2,.ptr 1 0),(7,.pv (zh zb a0.fWhere)),(8,aI ((sll a0.fWhere).length:Int)),(9,aI y88),(10,aB (decide (y88 < ((sll a0.fWhere).length:Int))))] ?_)
   refine sq ?_
   rcases zo hm with ⟨h102,hm⟩ | ⟨h102,hm⟩
   ·
    refine c1 h102 (wp_skip (sq (bq (sq (rg ?_)))))
    obtain ⟨x103,h104,hm⟩:=bs hm
    refine dv 11 (v:=.pv (.ptr (zC (za x103)) 0)) (Zd zb a0.fWhere .i64 t23 t49 h104 (zx x103) rfl (by kernel_rfl)) (by kernel_rfl) (stf 3 [(1,.ptr 0 0),(2,.ptr 1 0),(4,.ptr 3 0),(7,.pv (zh zb a0.fWhere)),(8,aI ((sll a0.fWhere).length:Int)),(9,aI y88)] [.box [aR 2 8 g89] false,.box (zc2 a0) false,bR 49 8 zb y87 g91 0,.box (zc8 x103) false] (by kernel_rfl) (rgd (shd 2 [(14,.agg (zc8 x103)),(13,aR 2 8 g89)] (by kernel_rfl) ?_)))
    obtain ⟨x105,h106,hm⟩:=bs hm
    refine dvd 15 (zE (by kernel_rfl) (ZT h106) (by kernel_rfl) (by kernel_rfl) (by kernel_rfl)) (by kernel_rfl) (dvd 16 (v:=aI (y87.length:Int)) (acu y87 (n:=g89) (id:=2) (esz:=8) t23 (by omega) (by kernel_rfl)) (by kernel_rfl) (std 1 [(17,aR 4 8 1)] [.box [aR 2 8 g89] false,.box (zc2 a0) false,bR 49 8 zb y87 g91 0,.box (zc8 x103) false,bR 49 8 zb ([(zf (zj.mk 0 0 0 (zi.mk 0 0 0 ByteArray.empty) none))]:List zc) 0 0] (by kernel_rfl) ?_))
    obtain ⟨_,h107,hm⟩:=bs hm
    refine dOd [(18,aR 2 8 ((y87++([(zf (zj.mk 0 0 0 (zi.mk 0 0 0 ByteArray.empty) none))]:List zc)).length))] [.box [aR 2 8 g89] false,.box (zc2 a0) false,bR 49 8 zb (y87++([(zf (zj.mk 0 0 0 (zi.mk 0 0 0 ByteArray.empty) none))]:List zc)) g91 0,.box (zc8 x103) false,bR 49 8 zb ([(zf (zj.mk 0 0 0 (zi.mk 0 0 0 ByteArray.empty) none))]:List zc) 0 0] (Z5 (u:=0) (n:=g89) (id:=2) zb y87 ([(zf (zj.mk 0 0 0 (zi.mk 0 0 0 ByteArray.empty) none))]:List zc) (b:=88) t23 t49 rfl rfl rfl Za rfl h107 rfl (by omega) (by omega) (show zT (aR 4 8 1) _=some (([(zf (zj.mk 0 0 0 (zi.mk 0 0 0 ByteArray.empty) none))]:List zc).map zb) from by kernel_rfl) (by kernel_rfl)) (by kernel_rfl) ?_
    obtain ⟨x108,h109,hm⟩:=bs hm
    refine dvd 19 (v:=.eptr 2 0 ((y87++([(zf (zj.mk 0 0 0 (zi.mk 0 0 0 ByteArray.empty) none))]:List zc)).length) 8 (0+Int.toNat (y87.length:Int)) 0) (Q7 (y87++([(zf (zj.mk 0 0 0 (zi.mk 0 0 0 ByteArray.empty) none))]:List zc)) .i64 (n:=(y87++([(zf (zj.mk 0 0 0 (zi.mk 0 0 0 ByteArray.empty) none))]:List zc)).length) (id:=2) (esz:=8) t23 t49 h109 rfl rfl (by kernel_rfl)) (by kernel_rfl) (dOd [] [.box [aR 2 8 g89] false,.box (zc2 a0) false,bR 49 8 zb ((y87++([(zf (zj.mk 0 0 0 (zi.mk 0 0 0 ByteArray.empty) none))]:List zc)).set (Int.toNat (y87.length:Int)) (zf x105)) ((y87++([(zf (zj.mk 0 0 0 (zi.mk 0 0 0 ByteArray.empty) none))]:List zc)).length) 0,.box (zc8 x103) false,bR 49 8 zb ([(zf (zj.mk 0 0 0 (zi.mk 0 0 0 ByteArray.empty) none))]:List zc) 0 0] (aen zb (y87++([(zf (zj.mk 0 0 0 (zi.mk 0 0 0 ByteArray.empty) none))]:List zc)) (zf x105) (n:=(y87++([(zf (zj.mk 0 0 0 (zi.mk 0 0 0 ByteArray.empty) none))]:List zc)).length) (esz:=8) (v:=.agg (zc4 x105)) (j:=(y87.length:Int)) (off:=0) (id:=2) t49 rfl h109 rfl (by first | exact Nat.zero_le _ | exact Nat.le_refl _ | assumption | omega | (simp only [List.length_set,List.length_append,List.length_cons,List.length_nil,List.length_replicate,List.length_drop] at * <;> omega)) rfl rfl rfl (zx x108) rfl (by kernel_rfl)) (by kernel_rfl) (std 1 [] [.box (zc14 y87) false,.box (zc2 a0) false,bR 49 8 zb ((y87++([(zf (zj.mk 0 0 0 (zi.mk 0 0 0 ByteArray.empty) none))]:List zc)).set (Int.toNat (y87.length:Int)) (zf x105)) ((y87++([(zf (zj.mk 0 0 0 (zi.mk 0 0 0 ByteArray.empty) none))]:List zc)).length) 0,.box (zc8 x103) false,bR 49 8 zb ([(zf (zj.mk 0 0 0 (zi.mk 0 0 0 ByteArray.empty) none))]:List zc) 0 0] (by kernel_rfl) (find [(1,.ptr 0 0),(2,.ptr 1 0),(7,.pv (zh zb a0.fWhere)),(8,aI ((sll a0.fWhere).length:Int)),(9,aI y88)] rfl (by kernel_rfl) (by kernel_rfl) (dn [(1,.ptr 0 0),(2,.ptr 1 0),(7,.pv (zh zb a0.fWhere)),(8,aI ((sll a0.fWhere).length:Int)),(9,aI (IntKind.wrap .i64 (y88+1)))] ?_))))
    exact ⟨_,_,Zh [(1,.ptr 0 0),(2,.ptr 1 0),(7,.pv (zh zb a0.fWhere)),(8,aI ((sll a0.fWhere).length:Int)),(9,aI (IntKind.wrap .i64 (y88+1)))] [.box (zc14 y87) false,.box (zc2 a0) false,bR 49 8 zb ((y87++([(zf (zj.mk 0 0 0 (zi.mk 0 0 0 ByteArray.empty) none))]:List zc)).set (Int.toNat (y87.length:Int)) (zf x105)) ((y87++([(zf (zj.mk 0 0 0 (zi.mk 0 0 0 ByteArray.empty) none))]:List zc)).length) 0] (by kernel_rfl),.inr (⟨((y87++([(zf (zj.mk 0 0 0 (zi.mk 0 0 0 ByteArray.empty) none))]:List zc)).set (Int.toNat (y87.length:Int)) (zf x105)),(IntKind.wrap .i64 (y88+1)),(y87++([(zf (zj.mk 0 0 0 (zi.mk 0 0 0 ByteArray.empty) none))]:List zc)).length,(y87++([(zf (zj.mk 0 0 0 (zi.mk 0 0 0 ByteArray.empty) none))]:List zc)).length,hm,rfl,rfl,(by first | rfl | assumption | omega | (simp only [List.length_set,List.length_append,List.length_cons,List.length_nil,List.length_replicate,List.length_drop] at * <;> omega)),(by first | exact Nat.zero_le _ | exact Nat.le_refl _ | assumption | omega | (simp only [List.length_set,List.length_append,List.length_cons,List.length_nil,List.length_replicate,List.length_drop] at * <;> omega))⟩)⟩
   ·
    refine c0 h102 (wp_exit ?_)
    exact .inr (⟨y87,aI y88,aB (decide (y88 < ((sll a0.fWhere).length:Int))),g89,g91,hm,(Zk (by kernel_rfl)),rfl,(by first | rfl | assumption | omega | (simp only [List.length_set,List.length_append,List.length_cons,List.length_nil,List.length_replicate,List.length_drop] at * <;> omega)),(by first | exact Nat.zero_le _ | exact Nat.le_refl _ | assumption | omega | (simp only [List.length_set,List.length_append,List.length_cons,List.length_nil,List.length_replicate,List.length_drop] at * <;> omega))⟩)
abbrev zc15 (p0:(List zc)):List AV:=[aR 1 8 ((p0++([(zf (zj.mk 0 0 0 (zi.mk 0 0 0 ByteArray.empty) none))]:List zc)).length)]
theorem abV (m1:Nat) (f1:Nat) {n:Nat} {a0:(List zc)} {a1:zk} {r:(List zc)} (hm1:a0.length=m1) (hf1:f1≤a0.length) (hm:Zv n a0 a1=some r):
    ∃ vv H1,call G n 124 [.agg (zc2 a1),.ptr 0 0] [.box [aR 1 8 m1] false,bR 49 8 zb a0 f1 0]=some (.ret vv,H1)∧(match (generalizing:=false) r with | r0=>(∃ (e1:Nat) (e2:Nat),r0.length=e1∧e2≤r0.length∧vv=.tup []∧H1=[.box [aR 1 8 e1] false,bR 49 8 zb r0 e2 0])):=by
  unfold Zv at hm
  obtain ⟨n,rfl,h0⟩:=zB hm
  replace hm:=h0; clear h0
  refine ahV 59 [(0,.agg (zc2 a1)),(1,.ptr 0 0)] func124 rfl (by kernel_rfl) (sq (det [(1,.ptr 0 0),(2,.ptr 2 0)] [.box [aR 1 8 m1] false,bR 49 8 zb a0 f1 0,.box (zc2 a1) false] (by kernel_rfl) ?_))
  obtain ⟨k8,hk8,hm⟩:=zz hm
  refine mid (fun t H=>(∃ (y1:(List zc)) (y2:Bool) (y3:Int) (g4:Nat) (g6:Nat),k8 y1=some r∧t=mk 59 [(1,.ptr 0 0),(2,.ptr 2 0),(7,.pv (zh zb a1.fWhere)),(8,aI ((sll a1.fWhere).length:Int)),(9,aI y3),(10,aB y2)]∧H=[.box [aR 1 8 g4] false,bR 49 8 zb y1 g6 0,.box (zc2 a1) false]∧y1.length=g4∧g6≤y1.length)) ?_ ?_
  ·
   rintro _ _ ⟨y1,y2,y3,g4,g6,hm,rfl,rfl,q5,q7⟩
   subst hk8
   refine sq (sq (rg (s1 4 [(24,aB (a1.fKind != 3)),(23,aB (a1.fKind != 3)),(22,aI a1.fKind),(21,.ptr 2 0)] ?_)))
   refine segP (a1.fKind != 3) [24,23] (fun b=>[(28,aB (b && (a1.fKind != 4))),(27,ifA b (aB (a1.fKind != 4)) (.undef)),(26,ifA b (aI a1.fKind) (.undef)),(25,ifA b (.ptr 2 0) (.undef))]) 4 (by kernel_rfl) (by kernel_rfl) (by kernel_rfl) (fin [(1,.ptr 0 0),(2,.ptr 2 0),(28,aB ((a1.fKind != 3) && (a1.fKind != 4)))] rfl (by kernel_rfl) ?_)
   rcases zo hm with ⟨h9,hm⟩ | ⟨h9,hm⟩
   ·
    refine c1 h9 (wp_ret ?_)
    obtain rfl:=Option.some.inj hm
    exact ⟨trivial,.tup [],[.box [aR 1 8 g4] false,bR 49 8 zb y1 g6 0],by kernel_rfl,g4,g6,(by first | rfl | assumption | omega | (simp only [List.length_set,List.length_append,List.length_cons,List.length_nil,List.length_replicate,List.length_drop] at * <;> omega)),(by first | exact Nat.zero_le _ | exact Nat.le_refl _ | assumption | omega | (simp only [List.length_set,List.length_append,List.length_cons,List.length_nil,List.length_replicate,List.length_drop] at * <;> omega)),rfl,rfl⟩
   ·
    refine c0 h9 (wp_skip (sq (rg (s1 2 [(30,.pv (zh zb a1.fLeft)),(29,.ptr 2 3)] (dv 31 (v:=aI ((sll a1.fLeft).length:Int)) (zy zb a1.fLeft t23 (by kernel_rfl)) (by kernel_rfl) (s1 2 [(33,.pv (zh zb a1.fRight)),(32,.ptr 2 4)] (dv 34 (v:=aI ((sll a1.fRight).length:Int)) (zy zb a1.fRight t23 (by kernel_rfl)) (by kernel_rfl) (fq 2 [(1,.ptr 0 0),(2,.ptr 2 0),(35,aI (if ((sll a1.fRight).length:Int) < ((sll a1.fLeft).length:Int) then ((sll a1.fRight).length:Int) else ((sll a1.fLeft).length:Int))),(36,aI 0)] (bq ?_)))))))))
    refine ZY (fun mm t H=>(∃ (y16:(List zc)) (y17:Int) (g18:Nat) (g20:Nat),zZ n a1 mm y16 y17=some r∧t=mk 59 [(1,.ptr 0 0),(2,.ptr 2 0),(35,aI (if ((sll a1.fRight).length:Int) < ((sll a1.fLeft).length:Int) then ((sll a1.fRight).length:Int) else ((sll a1.fLeft).length:Int))),(36,aI y17)]∧H=[.box [aR 1 8 g18] false,bR 49 8 zb y16 g20 0,.box (zc2 a1) false]∧y16.length=g18∧g20≤y16.length)) (⟨y1,0,g4,g6,hm,rfl,rfl,(by first | rfl | assumption | omega | (simp only [List.length_set,List.length_append,List.length_cons,List.length_nil,List.length_replicate,List.length_drop] at * <;> omega)),(by first | exact Nat.zero_le _ | exact Nat.le_refl _ | assumption | omega | (simp only [List.length_set,List.length_append,List.length_cons,List.length_nil,List.length_replicate,List.length_drop] at * <;> omega))⟩) ?_ ?_
    · rintro _ _ ⟨y16,y17,g18,g20,hm,_⟩; exact nomatch hm
    rintro m22 _ _ ⟨y16,y17,g18,g20,hm,rfl,rfl,q19,q21⟩
    simp only [zZ] at hm
    refine sq (dn [(1,.ptr 0 0),(2,.ptr 2 0),(35,aI (if ((sll a1.fRight).length:Int) < ((sll a1.fLeft).length:Int) then ((sll a1.fRight).length:Int) else ((sll a1.fLeft).length:Int))),(36,aI y17),(37,aB (decide (y17 < (if ((sll a1.fRight).length:Int) < ((sll a1.fLeft).length:Int) then ((sll a1.fRight).length:Int) else ((sll a1.fLeft).length:Int)))))] ?_)
    refine sq ?_
    rcases zo hm with ⟨h23,hm⟩ | ⟨h23,hm⟩
    ·
     refine c1 h23 (wp_skip (sq (bq (sq (dn [(1,.ptr 0 0),(2,.ptr 2 0),(5,aI y17),(35,aI (if ((sll a1.fRight).length:Int) < ((sll a1.fLeft).length:Int) then ((sll a1.fRight).length:Int) else ((sll a1.fLeft).length:Int))),(36,aI y17)] (rgd (shd 4 [(42,aI y17),(41,.pv (zh zb a1.fLeft)),(40,.ptr 2 3),(39,aR 1 8 g18)] (by kernel_rfl) ?_)))))))
     obtain ⟨x24,h25,hm⟩:=bs hm
     refine dvd 43 (v:=.pv (.ptr (zC (za x24)) 0)) (Zd zb a1.fLeft .i64 t23 t49 h25 (zx x24) rfl (by kernel_rfl)) (by kernel_rfl) (shd 1 [(44,.agg (zc8 x24))] (by kernel_rfl) ?_)
     obtain ⟨x26,h27,hm⟩:=bs hm
     refine dvd 45 (zE (by kernel_rfl) (ZT h27) (by kernel_rfl) (by kernel_rfl) (by kernel_rfl)) (by kernel_rfl) (shd 3 [(48,aI y17),(47,.pv (zh zb a1.fRight)),(46,.ptr 2 4)] (by kernel_rfl) ?_)
     obtain ⟨x28,h29,hm⟩:=bs hm
     refine dvd 49 (v:=.pv (.ptr (zC (za x28)) 0)) (Zd zb a1.fRight .i64 t23 t49 h29 (zx x28) rfl (by kernel_rfl)) (by kernel_rfl) (shd 1 [(50,.agg (zc8 x28))] (by kernel_rfl) ?_)
     obtain ⟨x30,h31,hm⟩:=bs hm
     refine dvd 51 (zE (by kernel_rfl) (ZT h31) (by kernel_rfl) (by kernel_rfl) (by kernel_rfl)) (by kernel_rfl) (std 2 [(53,.agg zc13),(52,aR 3 8 2)] [.box [aR 1 8 g18] false,bR 49 8 zb y16 g20 0,.box (zc2 a1) false,bR 49 8 zb ([(zf x26),(zf x30)]:List zc) 0 0] (by kernel_rfl) (dvd 54 (v:=aI (y16.length:Int)) (acu y16 (n:=g18) (id:=1) (esz:=8) t23 (by omega) (by kernel_rfl)) (by kernel_rfl) (std 1 [(55,aR 4 8 1)] [.box [aR 1 8 g18] false,bR 49 8 zb y16 g20 0,.box (zc2 a1) false,bR 49 8 zb ([(zf x26),(zf x30)]:List zc) 0 0,bR 49 8 zb ([(zf (zj.mk 0 0 0 (zi.mk 0 0 0 ByteArray.empty) none))]:List zc) 0 0] (by kernel_rfl) ?_)))
     obtain ⟨_,h32,hm⟩:=bs hm
     refine dOd [(56,aR 1 8 ((y16++([(zf (zj.mk 0 0 0 (zi.mk 0 0 0 ByteArray.empty) none))]:List zc)).length))] [.box [aR 1 8 g18] false,bR 49 8 zb (y16++([(zf (zj.mk 0 0 0 (zi.mk 0 0 0 ByteArray.empty) none))]:List zc)) g20 0,.box (zc2 a1) false,bR 49 8 zb ([(zf x26),(zf x30)]:List zc) 0 0,bR 49 8 zb ([(zf (zj.mk 0 0 0 (zi.mk 0 0 0 ByteArray.empty) none))]:List zc) 0 0] (Z5 (u:=0) (n:=g18) (id:=1) zb y16 ([(zf (zj.mk 0 0 0 (zi.mk 0 0 0 ByteArray.empty) none))]:List zc) (b:=88) t23 t49 rfl rfl rfl Za rfl h32 rfl (by omega) (by omega) (show zT (aR 4 8 1) _=some (([(zf (zj.mk 0 0 0 (zi.mk 0 0 0 ByteArray.empty) none))]:List zc).map zb) from by kernel_rfl) (by kernel_rfl)) (by kernel_rfl) ?_
     obtain ⟨x33,h34,hm⟩:=bs hm
     refine dvd 57 (v:=.eptr 1 0 ((y16++([(zf (zj.mk 0 0 0 (zi.mk 0 0 0 ByteArray.empty) none))]:List zc)).length) 8 (0+Int.toNat (y16.length:Int)) 0) (Q7 (y16++([(zf (zj.mk 0 0 0 (zi.mk 0 0 0 ByteArray.empty) none))]:List zc)) .i64 (n:=(y16++([(zf (zj.mk 0 0 0 (zi.mk 0 0 0 ByteArray.empty) none))]:List zc)).length) (id:=1) (esz:=8) t23 t49 h34 rfl rfl (by kernel_rfl)) (by kernel_rfl) (dOd [] [.box [aR 1 8 g18] false,bR 49 8 zb ((y16++([(zf (zj.mk 0 0 0 (zi.mk 0 0 0 ByteArray.empty) none))]:List zc)).set (Int.toNat (y16.length:Int)) (zf (zj.mk 7 0 0 (zi.mk 0 0 0 ByteArray.empty) (some ([(zf x26),(zf x30)]:List zc))))) ((y16++([(zf (zj.mk 0 0 0 (zi.mk 0 0 0 ByteArray.empty) none))]:List zc)).length) 0,.box (zc2 a1) false,bR 49 8 zb ([(zf x26),(zf x30)]:List zc) 0 (max 0 (([(zf x26),(zf x30)]:List zc).map zb).length),bR 49 8 zb ([(zf (zj.mk 0 0 0 (zi.mk 0 0 0 ByteArray.empty) none))]:List zc) 0 0] (agX zb (y16++([(zf (zj.mk 0 0 0 (zi.mk 0 0 0 ByteArray.empty) none))]:List zc)) (zf (zj.mk 7 0 0 (zi.mk 0 0 0 ByteArray.empty) (some ([(zf x26),(zf x30)]:List zc)))) (n:=(y16++([(zf (zj.mk 0 0 0 (zi.mk 0 0 0 ByteArray.empty) none))]:List zc)).length) (esz:=8) (v:=.agg zc13) (j:=(y16.length:Int)) (off:=0) (id:=1) [3] (.agg (zc10 x26 x30)) t49 rfl h34 rfl (by first | exact Nat.zero_le _ | exact Nat.le_refl _ | assumption | omega | (simp only [List.length_set,List.length_append,List.length_cons,List.length_nil,List.length_replicate,List.length_drop] at * <;> omega)) (by kernel_rfl) rfl (by kernel_rfl) rfl rfl rfl (zx x33) rfl (by kernel_rfl)) (by kernel_rfl) (std 1 [] [.box (zc15 y16) false,bR 49 8 zb ((y16++([(zf (zj.mk 0 0 0 (zi.mk 0 0 0 ByteArray.empty) none))]:List zc)).set (Int.toNat (y16.length:Int)) (zf (zj.mk 7 0 0 (zi.mk 0 0 0 ByteArray.empty) (some ([(zf x26),(zf x30)]:List zc))))) ((y16++([(zf (zj.mk 0 0 0 (zi.mk 0 0 0 ByteArray.empty) none))]:List zc)).length) 0,.box (zc2 a1) false,bR 49 8 zb ([(zf x26),(zf x30)]:List zc) 0 (max 0 (([(zf x26),(zf x30)]:List zc).map zb).length),bR 49 8 zb ([(zf (zj.mk 0 0 0 (zi.mk 0 0 0 ByteArray.empty) none))]:List zc) 0 0] (by kernel_rfl) (find [(1,.ptr 0 0),(2,.ptr 2 0),(35,aI (if ((sll a1.fRight).length:Int) < ((sll a1.fLeft).length:Int) then ((sll a1.fRight).length:Int) else ((sll a1.fLeft).length:Int))),(36,aI y17)] rfl (by kernel_rfl) (by kernel_rfl) (dn [(1,.ptr 0 0),(2,.ptr 2 0),(35,aI (if ((sll a1.fRight).length:Int) < ((sll a1.fLeft).length:Int) then ((sll a1.fRight).length:Int) else ((sll a1.fLeft).length:Int))),(36,aI (IntKind.wrap .i64 (y17+1)))] ?_))))
     exact ⟨_,_,Zh [(1,.ptr 0 0),(2,.ptr 2 0),(35,aI (if ((sll a1.fRight).length:Int) < ((sll a1.fLeft).length:Int) then ((sll a1.fRight).length:Int) else ((sll a1.fLeft).length:Int))),(36,aI (IntKind.wrap .i64 (y17+1)))] [.box (zc15 y16) false,bR 49 8 zb ((y16++([(zf (zj.mk 0 0 0 (zi.mk 0 0 0 ByteArray.empty) none))]:List zc)).set (Int.toNat (y16.length:Int)) (zf (zj.mk 7 0 0 (zi.mk 0 0 0 ByteArray.empty) (some ([(zf x26),(zf x30)]:List zc))))) ((y16++([(zf (zj.mk 0 0 0 (zi.mk 0 0 0 ByteArray.empty) none))]:List zc)).length) 0,.box (zc2 a1) false] (by kernel_rfl),⟨((y16++([(zf (zj.mk 0 0 0 (zi.mk 0 0 0 ByteArray.empty) none))]:List zc)).set (Int.toNat (y16.length:Int)) (zf (zj.mk 7 0 0 (zi.mk 0 0 0 ByteArray.empty) (some ([(zf x26),(zf x30)]:List zc))))),(IntKind.wrap .i64 (y17+1)),(y16++([(zf (zj.mk 0 0 0 (zi.mk 0 0 0 ByteArray.empty) none))]:List zc)).length,(y16++([(zf (zj.mk 0 0 0 (zi.mk 0 0 0 ByteArray.empty) none))]:List zc)).length,hm,rfl,rfl,(by first | rfl | assumption | omega | (simp only [List.length_set,List.length_append,List.length_cons,List.length_nil,List.length_replicate,List.length_drop] at * <;> omega)),(by first | exact Nat.zero_le _ | exact Nat.le_refl _ | assumption | omega | (simp only [List.length_set,List.length_append,List.length_cons,List.length_nil,List.length_replicate,List.length_drop] at * <;> omega))⟩⟩
    ·
     refine c0 h23 (wp_exit ?_)
     obtain rfl:=Option.some.inj hm
     exact ⟨trivial,.tup [],[.box [aR 1 8 g18] false,bR 49 8 zb y16 g20 0],by kernel_rfl,g18,g20,(by first | rfl | assumption | omega | (simp only [List.length_set,List.length_append,List.length_cons,List.length_nil,List.length_replicate,List.length_drop] at * <;> omega)),(by first | exact Nat.zero_le _ | exact Nat.le_refl _ | assumption | omega | (simp only [List.length_set,List.length_append,List.length_cons,List.length_nil,List.length_replicate,List.length_drop] at * <;> omega)),rfl,rfl⟩
  refine sq (rg (s1 2 [(7,.pv (zh zb a1.fWhere)),(6,.ptr 2 2)] (dv 8 (v:=aI ((sll a1.fWhere).length:Int)) (zy zb a1.fWhere t23 (by kernel_rfl)) (by kernel_rfl) (fq 1 [(1,.ptr 0 0),(2,.ptr 2 0),(7,.pv (zh zb a1.fWhere)),(8,aI ((sll a1.fWhere).length:Int)),(9,aI 0)] (bq ?_)))))
  refine ZY (fun mm t H=>(∃ (y41:(List zc)) (y42:Int) (g43:Nat) (g45:Nat),Zy n a1 k8 mm y41 y42=some r∧t=mk 59 [(1,.ptr 0 0),(2,.ptr 2 0),(7,.pv (zh zb a1.fWhere)),(8,aI ((sll a1.fWhere).length:Int)),(9,aI y42)]∧H=[.box [aR 1 8 g43] false,bR 49 8 zb y41 g45 0,.box (zc2 a1) false]∧y41.length=g43∧g45≤y41.length)) (⟨a0,0,m1,f1,hm,rfl,rfl,(by first | rfl | assumption | omega | (simp only [List.length_set,List.length_append,List.length_cons,List.length_nil,List.length_replicate,List.length_drop] at * <;> omega)),(by first | exact Nat.zero_le _ | exact Nat.le_refl _ | assumption | omega | (simp only [List.length_set,List.length_append,List.length_cons,List.length_nil,List.length_replicate,List.length_drop] at * <;> omega))⟩) ?_ ?_
  · rintro _ _ ⟨y41,y42,g43,g45,hm,_⟩; exact nomatch hm
  rintro m47 _ _ ⟨y41,y42,g43,g45,hm,rfl,rfl,q44,q46⟩
  simp only [Zy] at hm
  refine sq (dn [(1,.ptr 0 0),(2,.ptr 2 0),(7,.pv (zh zb a1.fWhere)),(8,aI ((sll a1.fWhere).length:Int)),(9,aI y42),(10,aB (decide (y42 < ((sll a1.fWhere).length:Int))))] ?_)
  refine sq ?_
  rcases zo hm with ⟨h48,hm⟩ | ⟨h48,hm⟩
  ·
   refine c1 h48 (wp_skip (sq (bq (sq (rg ?_)))))
   obtain ⟨x49,h50,hm⟩:=bs hm
   refine dv 11 (v:=.pv (.ptr (zC (za x49)) 0)) (Zd zb a1.fWhere .i64 t23 t49 h50 (zx x49) rfl (by kernel_rfl)) (by kernel_rfl) (stf 3 [(1,.ptr 0 0),(2,.ptr 2 0),(4,.ptr 3 0),(7,.pv (zh zb a1.fWhere)),(8,aI ((sll a1.fWhere).length:Int)),(9,aI y42)] [.box [aR 1 8 g43] false,bR 49 8 zb y41 g45 0,.box (zc2 a1) false,.box (zc8 x49) false] (by kernel_rfl) (rgd (shd 2 [(14,.agg (zc8 x49)),(13,aR 1 8 g43)] (by kernel_rfl) ?_)))
   obtain ⟨x51,h52,hm⟩:=bs hm
   refine dvd 15 (zE (by kernel_rfl) (ZT h52) (by kernel_rfl) (by kernel_rfl) (by kernel_rfl)) (by kernel_rfl) (dvd 16 (v:=aI (y41.length:Int)) (acu y41 (n:=g43) (id:=1) (esz:=8) t23 (by omega) (by kernel_rfl)) (by kernel_rfl) (std 1 [(17,aR 4 8 1)] [.box [aR 1 8 g43] false,bR 49 8 zb y41 g45 0,.box (zc2 a1) false,.box (zc8 x49) false,bR 49 8 zb ([(zf (zj.mk 0 0 0 (zi.mk 0 0 0 ByteArray.empty) none))]:List zc) 0 0] (by kernel_rfl) ?_))
   obtain ⟨_,h53,hm⟩:=bs hm
   refine dOd [(18,aR 1 8 ((y41++([(zf (zj.mk 0 0 0 (zi.mk 0 0 0 ByteArray.empty) none))]:List zc)).length))] [.box [aR 1 8 g43] false,bR 49 8 zb (y41++([(zf (zj.mk 0 0 0 (zi.mk 0 0 0 ByteArray.empty) none))]:List zc)) g45 0,.box (zc2 a1) false,.box (zc8 x49) false,bR 49 8 zb ([(zf (zj.mk 0 0 0 (zi.mk 0 0 0 ByteArray.empty) none))]:List zc) 0 0] (Z5 (u:=0) (n:=g43) (id:=1) zb y41 ([(zf (zj.mk 0 0 0 (zi.mk 0 0 0 ByteArray.empty) none))]:List zc) (b:=88) t23 t49 rfl rfl rfl Za rfl h53 rfl (by omega) (by omega) (show zT (aR 4 8 1) _=some (([(zf (zj.mk 0 0 0 (zi.mk 0 0 0 ByteArray.empty) none))]:List zc).map zb) from by kernel_rfl) (by kernel_rfl)) (by kernel_rfl) ?_
   obtain ⟨x54,h55,hm⟩:=bs hm
   refine dvd 19 (v:=.eptr 1 0 ((y41++([(zf (zj.mk 0 0 0 (zi.mk 0 0 0 ByteArray.empty) none))]:List zc)).length) 8 (0+Int.toNat (y41.length:Int)) 0) (Q7 (y41++([(zf (zj.mk 0 0 0 (zi.mk 0 0 0 ByteArray.empty) none))]:List zc)) .i64 (n:=(y41++([(zf (zj.mk 0 0 0 (zi.mk 0 0 0 ByteArray.empty) none))]:List zc)).length) (id:=1) (esz:=8) t23 t49 h55 rfl rfl (by kernel_rfl)) (by kernel_rfl) (dOd [] [.box [aR 1 8 g43] false,bR 49 8 zb ((y41++([(zf (zj.mk 0 0 0 (zi.mk 0 0 0 ByteArray.empty) none))]:List zc)).set (Int.toNat (y41.length:Int)) (zf x51)) ((y41++([(zf (zj.mk 0 0 0 (zi.mk 0 0 0 ByteArray.empty) none))]:List zc)).length) 0,.box (zc2 a1) false,.box (zc8 x49) false,bR 49 8 zb ([(zf (zj.mk 0 0 0 (zi.mk 0 0 0 ByteArray.empty) none))]:List zc) 0 0] (aen zb (y41++([(zf (zj.mk 0 0 0 (zi.mk 0 0 0 ByteArray.empty) none))]:List zc)) (zf x51) (n:=(y41++([(zf (zj.mk 0 0 0 (zi.mk 0 0 0 ByteArray.empty) none))]:List zc)).length) (esz:=8) (v:=.agg (zc4 x51)) (j:=(y41.length:Int)) (off:=0) (id:=1) t49 rfl h55 rfl (by first | exact Nat.zero_le _ | exact Nat.le_refl _ | assumption | omega | (simp only [List.length_set,List.length_append,List.length_cons,List.length_nil,List.length_replicate,List.length_drop] at * <;> omega)) rfl rfl rfl (zx x54) rfl (by kernel_rfl)) (by kernel_rfl) (std 1 [] [.box (zc15 y41) false,bR 49 8 zb ((y41++([(zf (zj.mk 0 0 0 (zi.mk 0 0 0 ByteArray.empty) none))]:List zc)).set (Int.toNat (y41.length:Int)) (zf x51)) ((y41++([(zf (zj.mk 0 0 0 (zi.mk 0 0 0 ByteArray.empty) none))]:List zc)).length) 0,.box (zc2 a1) false,.box (zc8 x49) false,bR 49 8 zb ([(zf (zj.mk 0 0 0 (zi.mk 0 0 0 ByteArray.empty) none))]:List zc) 0 0] (by kernel_rfl) (find [(1,.ptr 0 0),(2,.ptr 2 0),(7,.pv (zh zb a1.fWhere)),(8,aI ((sll a1.fWhere).length:Int)),(9,aI y42)] rfl (by kernel_rfl) (by kernel_rfl) (dn [(1,.ptr 0 0),(2,.ptr 2 0),(7,.pv (zh zb a1.fWhere)),(8,aI ((sll a1.fWhere).length:Int)),(9,aI (IntKind.wrap .i64 (y42+1)))] ?_))))
   exact ⟨_,_,Zh [(1,.ptr 0 0),(2,.ptr 2 0),(7,.pv (zh zb a1.fWhere)),(8,aI ((sll a1.fWhere).length:Int)),(9,aI (IntKind.wrap .i64 (y42+1)))] [.box (zc15 y41) false,bR 49 8 zb ((y41++([(zf (zj.mk 0 0 0 (zi.mk 0 0 0 ByteArray.empty) none))]:List zc)).set (Int.toNat (y41.length:Int)) (zf x51)) ((y41++([(zf (zj.mk 0 0 0 (zi.mk 0 0 0 ByteArray.empty) none))]:List zc)).length) 0,.box (zc2 a1) false] (by kernel_rfl),⟨((y41++([(zf (zj.mk 0 0 0 (zi.mk 0 0 0 ByteArray.empty) none))]:List zc)).set (Int.toNat (y41.length:Int)) (zf x51)),(IntKind.wrap .i64 (y42+1)),(y41++([(zf (zj.mk 0 0 0 (zi.mk 0 0 0 ByteArray.empty) none))]:List zc)).length,(y41++([(zf (zj.mk 0 0 0 (zi.mk 0 0 0 ByteArray.empty) none))]:List zc)).length,hm,rfl,rfl,(by first | rfl | assumption | omega | (simp only [List.length_set,List.length_append,List.length_cons,List.length_nil,List.length_replicate,List.length_drop] at * <;> omega)),(by first | exact Nat.zero_le _ | exact Nat.le_refl _ | assumption | omega | (simp only [List.length_set,List.length_append,List.length_cons,List.length_nil,List.length_replicate,List.length_drop] at * <;> omega))⟩⟩
  ·
   refine c0 h48 (wp_exit ?_)
   exact ⟨y41,(decide (y42 < ((sll a1.fWhere).length:Int))),y42,g43,g45,hm,rfl,rfl,(by first | rfl | assumption | omega | (simp only [List.length_set,List.length_append,List.length_cons,List.length_nil,List.length_replicate,List.length_drop] at * <;> omega)),(by first | exact Nat.zero_le _ | exact Nat.le_refl _ | assumption | omega | (simp only [List.length_set,List.length_append,List.length_cons,List.length_nil,List.length_replicate,List.length_drop] at * <;> omega))⟩
theorem abt {rc_plan_walk_plan_Applied_1_2:(Nat→(List zc)→zk→Option ((List zc)))} (ih_plan_walk_plan_Applied_1_2:∀ (m1:Nat) (f1:Nat) {n:Nat} {a0:(List zc)} {a1:zk} {r:(List zc)} (hm1:a0.length=m1) (hf1:f1≤a0.length) (hm:rc_plan_walk_plan_Applied_1_2 n a0 a1=some r),∃ vv H1,call G n 123 [.agg [aI a1.fKind,aI a1.fRel,.pv (zh zb a1.fWhere),.pv (zh zb a1.fLeft),.pv (zh zb a1.fRight),.pv (zh zb a1.fOut),.pv (zh zn a1.fAggs),.pv (zh zp a1.fOrder),.pv (zh zg a1.fKids)],.fn 124 [] [.ptr 0 0]] [.box [aR 1 8 m1] false,bR 49 8 zb a0 f1 0]=some (.ret vv,H1)∧(match (generalizing:=false) r with | r0=>(∃ (e1:Nat) (e2:Nat),r0.length=e1∧e2≤r0.length∧vv=.tup []∧H1=[.box [aR 1 8 e1] false,bR 49 8 zb r0 e2 0]))) (m1:Nat) (f1:Nat) {n:Nat} {a0:(List zc)} {a1:zk} {r:(List zc)} (hm1:a0.length=m1) (hf1:f1≤a0.length) (hm:ZV rc_plan_walk_plan_Applied_1_2 n a0 a1=some r):
    ∃ vv H1,call G n 123 [.agg (zc2 a1),.fn 124 [] [.ptr 0 0]] [.box [aR 1 8 m1] false,bR 49 8 zb a0 f1 0]=some (.ret vv,H1)∧(match (generalizing:=false) r with | r0=>(∃ (e1:Nat) (e2:Nat),r0.length=e1∧e2≤r0.length∧vv=.tup []∧H1=[.box [aR 1 8 e1] false,bR 49 8 zb r0 e2 0])):=by
  unfold ZV at hm
  obtain ⟨n,rfl,h0⟩:=zB hm
  replace hm:=h0; clear h0
  refine ahV 20 [(0,.agg (zc2 a1)),(1,.fn 124 [] [.ptr 0 0])] func123 rfl (by kernel_rfl) (sq (det [(1,.fn 124 [] [.ptr 0 0]),(2,.ptr 2 0)] [.box [aR 1 8 m1] false,bR 49 8 zb a0 f1 0,.box (zc2 a1) false] (by kernel_rfl) ?_))
  obtain ⟨k8,hk8,hm⟩:=zz hm
  refine mid (fun t H=>(∃ (y1:(List zc)) (y2:Bool) (y3:Int) (g4:Nat) (g6:Nat),k8 y1=some r∧t=mk 20 [(1,.fn 124 [] [.ptr 0 0]),(2,.ptr 2 0),(7,.pv (zh zg a1.fKids)),(8,aI ((sll a1.fKids).length:Int)),(9,aI y3),(10,aB y2)]∧H=[.box [aR 1 8 g4] false,bR 49 8 zb y1 g6 0,.box (zc2 a1) false]∧y1.length=g4∧g6≤y1.length)) ?_ ?_
  ·
   rintro _ _ ⟨y1,y2,y3,g4,g6,hm,rfl,rfl,q5,q7⟩
   subst hk8
   refine rg (s1 2 [(18,.agg (zc2 a1)),(17,.fn 124 [] [.ptr 0 0])] ?_)
   obtain ⟨x10,h9,hm⟩:=bs hm
   obtain ⟨vv,H1,hC,g11,g12,q13,q14,rfl,rfl⟩:=abV g4 g6 (by first | rfl | assumption | omega | (simp only [List.length_set,List.length_append,List.length_cons,List.length_nil,List.length_replicate,List.length_drop] at * <;> omega)) (by first | exact Nat.zero_le _ | exact Nat.le_refl _ | assumption | omega | (simp only [List.length_set,List.length_append,List.length_cons,List.length_nil,List.length_replicate,List.length_drop] at * <;> omega)) h9
   refine dR [(19,.tup [])] [.box [aR 1 8 g11] false,bR 49 8 zb x10 g12 0,.box (zc2 a1) false] [0,1] [.agg (zc2 a1),.ptr 0 0] (by kernel_rfl) (by kernel_rfl) (by kernel_rfl) hC (by kernel_rfl) (fin [] rfl (by kernel_rfl) ?_)
   obtain rfl:=Option.some.inj hm
   exact ⟨trivial,.tup [],[.box [aR 1 8 g11] false,bR 49 8 zb x10 g12 0],by kernel_rfl,g11,g12,(by first | rfl | assumption | omega | (simp only [List.length_set,List.length_append,List.length_cons,List.length_nil,List.length_replicate,List.length_drop] at * <;> omega)),(by first | exact Nat.zero_le _ | exact Nat.le_refl _ | assumption | omega | (simp only [List.length_set,List.length_append,List.length_cons,List.length_nil,List.length_replicate,List.length_drop] at * <;> omega)),rfl,rfl⟩
  refine sq (rg (s1 2 [(7,.pv (zh zg a1.fKids)),(6,.ptr 2 8)] (dv 8 (v:=aI ((sll a1.fKids).length:Int)) (zy zg a1.fKids t64 (by kernel_rfl)) (by kernel_rfl) (fq 1 [(1,.fn 124 [] [.ptr 0 0]),(2,.ptr 2 0),(7,.pv (zh zg a1.fKids)),(8,aI ((sll a1.fKids).length:Int)),(9,aI 0)] (bq ?_)))))
  refine ZY (fun mm t H=>(∃ (y21:(List zc)) (y22:Int) (g23:Nat) (g25:Nat),zQ n rc_plan_walk_plan_Applied_1_2 a1 k8 mm y21 y22=some r∧t=mk 20 [(1,.fn 124 [] [.ptr 0 0]),(2,.ptr 2 0),(7,.pv (zh zg a1.fKids)),(8,aI ((sll a1.fKids).length:Int)),(9,aI y22)]∧H=[.box [aR 1 8 g23] false,bR 49 8 zb y21 g25 0,.box (zc2 a1) false]∧y21.length=g23∧g25≤y21.length)) (⟨a0,0,m1,f1,hm,rfl,rfl,(by first | rfl | assumption | omega | (simp only [List.length_set,List.length_append,List.length_cons,List.length_nil,List.length_replicate,List.length_drop] at * <;> omega)),(by first | exact Nat.zero_le _ | exact Nat.le_refl _ | assumption | omega | (simp only [List.length_set,List.length_append,List.length_cons,List.length_nil,List.length_replicate,List.length_drop] at * <;> omega))⟩) ?_ ?_
  · rintro _ _ ⟨y21,y22,g23,g25,hm,_⟩; exact nomatch hm
  rintro m27 _ _ ⟨y21,y22,g23,g25,hm,rfl,rfl,q24,q26⟩
  simp only [zQ] at hm
  refine sq (dn [(1,.fn 124 [] [.ptr 0 0]),(2,.ptr 2 0),(7,.pv (zh zg a1.fKids)),(8,aI ((sll a1.fKids).length:Int)),(9,aI y22),(10,aB (decide (y22 < ((sll a1.fKids).length:Int))))] ?_)
  refine sq ?_
  rcases zo hm with ⟨h28,hm⟩ | ⟨h28,hm⟩
  ·
   refine c1 h28 (wp_skip (sq (bq (sq (rg ?_)))))
   obtain ⟨x29,h30,hm⟩:=bs hm
   refine dv 11 (v:=.pv (.ptr (zG (zd x29)) 0)) (Zd zg a1.fKids .i64 t64 t66 h30 (zF x29) rfl (by kernel_rfl)) (by kernel_rfl) (stf 3 [(1,.fn 124 [] [.ptr 0 0]),(2,.ptr 2 0),(5,.ptr 3 0),(7,.pv (zh zg a1.fKids)),(8,aI ((sll a1.fKids).length:Int)),(9,aI y22)] [.box [aR 1 8 g23] false,bR 49 8 zb y21 g25 0,.box (zc2 a1) false,.box (zc3 x29) false] (by kernel_rfl) (rg (s1 2 [(14,.fn 124 [] [.ptr 0 0]),(13,.agg (zc3 x29))] ?_)))
   obtain ⟨x32,h31,hm⟩:=bs hm
   obtain ⟨vv,H1,hC,g33,g34,q35,q36,rfl,rfl⟩:=ih_plan_walk_plan_Applied_1_2 g23 g25 (by first | rfl | assumption | omega | (simp only [List.length_set,List.length_append,List.length_cons,List.length_nil,List.length_replicate,List.length_drop] at * <;> omega)) (by first | exact Nat.zero_le _ | exact Nat.le_refl _ | assumption | omega | (simp only [List.length_set,List.length_append,List.length_cons,List.length_nil,List.length_replicate,List.length_drop] at * <;> omega)) h31
   refine dR [(15,.tup [])] [.box [aR 1 8 g33] false,bR 49 8 zb x32 g34 0,.box (zc2 a1) false,.box (zc3 x29) false] [0,1] [.agg (zc3 x29),.fn 124 [] [.ptr 0 0]] (by kernel_rfl) (by kernel_rfl) (by kernel_rfl) hC (by kernel_rfl) (fin [(1,.fn 124 [] [.ptr 0 0]),(2,.ptr 2 0),(7,.pv (zh zg a1.fKids)),(8,aI ((sll a1.fKids).length:Int)),(9,aI y22)] rfl (by kernel_rfl) (dn [(1,.fn 124 [] [.ptr 0 0]),(2,.ptr 2 0),(7,.pv (zh zg a1.fKids)),(8,aI ((sll a1.fKids).length:Int)),(9,aI (IntKind.wrap .i64 (y22+1)))] ?_))
   exact ⟨_,_,Zh [(1,.fn 124 [] [.ptr 0 0]),(2,.ptr 2 0),(7,.pv (zh zg a1.fKids)),(8,aI ((sll a1.fKids).length:Int)),(9,aI (IntKind.wrap .i64 (y22+1)))] [.box [aR 1 8 g33] false,bR 49 8 zb x32 g34 0,.box (zc2 a1) false] (by kernel_rfl),⟨x32,(IntKind.wrap .i64 (y22+1)),g33,g34,hm,rfl,rfl,(by first | rfl | assumption | omega | (simp only [List.length_set,List.length_append,List.length_cons,List.length_nil,List.length_replicate,List.length_drop] at * <;> omega)),(by first | exact Nat.zero_le _ | exact Nat.le_refl _ | assumption | omega | (simp only [List.length_set,List.length_append,List.length_cons,List.length_nil,List.length_replicate,List.length_drop] at * <;> omega))⟩⟩
  ·
   refine c0 h28 (wp_exit ?_)
   exact ⟨y21,(decide (y22 < ((sll a1.fKids).length:Int))),y22,g23,g25,hm,rfl,rfl,(by first | rfl | assumption | omega | (simp only [List.length_set,List.length_append,List.length_cons,List.length_nil,List.length_replicate,List.length_drop] at * <;> omega)),(by first | exact Nat.zero_le _ | exact Nat.le_refl _ | assumption | omega | (simp only [List.length_set,List.length_append,List.length_cons,List.length_nil,List.length_replicate,List.length_drop] at * <;> omega))⟩
theorem Qz:∀ (m:Nat),∀ (m1:Nat) (f1:Nat) {n:Nat} {a0:(List zc)} {a1:zk} {r:(List zc)} (hm1:a0.length=m1) (hf1:f1≤a0.length) (hm:Zp m n a0 a1=some r),∃ vv H1,call G n 123 [.agg (zc2 a1),.fn 124 [] [.ptr 0 0]] [.box [aR 1 8 m1] false,bR 49 8 zb a0 f1 0]=some (.ret vv,H1)∧(match (generalizing:=false) r with | r0=>(∃ (e1:Nat) (e2:Nat),r0.length=e1∧e2≤r0.length∧vv=.tup []∧H1=[.box [aR 1 8 e1] false,bR 49 8 zb r0 e2 0]))
  | 0=>by intros; rename_i hm; exact nomatch hm
  | m+1=>@fun m1 f1 n a0 a1 r hm1 hf1 hm=>
    abt (Qz m) m1 f1 hm1 hf1 hm
theorem abN (m1:Nat) (f1:Nat) {n:Nat} {a0:(List zc)} {a1:zk} {r:(List zc)} (hm1:a0.length=m1) (hf1:f1≤a0.length) (hm:q9 n a0 a1=some r):
    ∃ vv H1,call G n 123 [.agg (zc2 a1),.fn 124 [] [.ptr 0 0]] [.box [aR 1 8 m1] false,bR 49 8 zb a0 f1 0]=some (.ret vv,H1)∧(match (generalizing:=false) r with | r0=>(∃ (e1:Nat) (e2:Nat),r0.length=e1∧e2≤r0.length∧vv=.tup []∧H1=[.box [aR 1 8 e1] false,bR 49 8 zb r0 e2 0])):=Qz n m1 f1 hm1 hf1 hm
theorem abR {rc_plan_walk_plan_Applied_1:(Nat→zk→Option ((Option (List zc))))} (ih_plan_walk_plan_Applied_1:∀ {n:Nat} {a0:zk} {r:(Option (List zc))} (hm:rc_plan_walk_plan_Applied_1 n a0=some r),∃ vv H1,call G n 123 [.agg [aI a0.fKind,aI a0.fRel,.pv (zh zb a0.fWhere),.pv (zh zb a0.fLeft),.pv (zh zb a0.fRight),.pv (zh zb a0.fOut),.pv (zh zn a0.fAggs),.pv (zh zp a0.fOrder),.pv (zh zg a0.fKids)],.fn 124 [] [.ptr 0 0]] [.box [.pv .nils] false]=some (.ret vv,H1)∧(match (generalizing:=false) r with | none=>(vv=.tup []∧H1=[.box [.pv .nils] false]) | some r0=>(∃ (e1:Nat) (e2:Nat),r0.length=e1∧e2≤r0.length∧vv=.tup []∧H1=[.box [aR 1 8 e1] false,bR 49 8 zb r0 e2 0]))) {n:Nat} {a0:zk} {r:(Option (List zc))} (hm:Z8 rc_plan_walk_plan_Applied_1 n a0=some r):
    ∃ vv H1,call G n 123 [.agg (zc2 a0),.fn 124 [] [.ptr 0 0]] [.box [.pv .nils] false]=some (.ret vv,H1)∧(match (generalizing:=false) r with | none=>(vv=.tup []∧H1=[.box [.pv .nils] false]) | some r0=>(∃ (e1:Nat) (e2:Nat),r0.length=e1∧e2≤r0.length∧vv=.tup []∧H1=[.box [aR 1 8 e1] false,bR 49 8 zb r0 e2 0])):=by
  unfold Z8 at hm
  obtain ⟨n,rfl,h0⟩:=zB hm
  replace hm:=h0; clear h0
  refine ahV 20 [(0,.agg (zc2 a0)),(1,.fn 124 [] [.ptr 0 0])] func123 rfl (by kernel_rfl) (sq (det [(1,.fn 124 [] [.ptr 0 0]),(2,.ptr 1 0)] [.box [.pv .nils] false,.box (zc2 a0) false] (by kernel_rfl) ?_))
  obtain ⟨k8,hk8,hm⟩:=zz hm
  refine mid (fun t H=>(∃ (w1:AV) (w2:AV),k8 none=some r∧t=mk 20 [(1,.fn 124 [] [.ptr 0 0]),(2,.ptr 1 0),(7,.pv (zh zg a0.fKids)),(8,aI ((sll a0.fKids).length:Int)),(9,w1),(10,w2)]∧H=[.box [.pv .nils] false,.box (zc2 a0) false])∨(∃ (y3:(List zc)) (w1:AV) (w2:AV) (g4:Nat) (g6:Nat),k8 (some y3)=some r∧t=mk 20 [(1,.fn 124 [] [.ptr 0 0]),(2,.ptr 1 0),(7,.pv (zh zg a0.fKids)),(8,aI ((sll a0.fKids).length:Int)),(9,w1),(10,w2)]∧H=[.box [aR 2 8 g4] false,.box (zc2 a0) false,bR 49 8 zb y3 g6 0]∧y3.length=g4∧g6≤y3.length)) ?_ ?_
  ·
   rintro _ _ (⟨w1,w2,hm,rfl,rfl⟩ | ⟨y3,w1,w2,g4,g6,hm,rfl,rfl,q5,q7⟩)
   ·
    subst hk8
    refine rg (s1 2 [(18,.agg (zc2 a0)),(17,.fn 124 [] [.ptr 0 0])] ?_)
    obtain ⟨x11,h9,hm⟩:=bs hm
    rcases x11 with _ | x10
    ·
     obtain ⟨vv,H1,hC,rfl,rfl⟩:=acD h9
     refine dR [(19,.tup [])] [.box [.pv .nils] false,.box (zc2 a0) false] [0] [.agg (zc2 a0),.ptr 0 0] (by kernel_rfl) (by kernel_rfl) (by kernel_rfl) hC (by kernel_rfl) (fin [] rfl (by kernel_rfl) ?_)
     obtain rfl:=Option.some.inj hm
     exact ⟨trivial,.tup [],[.box [.pv .nils] false],by kernel_rfl,rfl,rfl⟩
    ·
     obtain ⟨vv,H1,hC,g12,g13,q14,q15,rfl,rfl⟩:=acD h9
     refine dR [(19,.tup [])] [.box [aR 2 8 g12] false,.box (zc2 a0) false,bR 49 8 zb x10 g13 0] [0] [.agg (zc2 a0),.ptr 0 0] (by kernel_rfl) (by kernel_rfl) (by kernel_rfl) hC (by kernel_rfl) (fin [] rfl (by kernel_rfl) ?_)
     obtain rfl:=Option.some.inj hm
     exact ⟨trivial,.tup [],[.box [aR 1 8 g12] false,bR 49 8 zb x10 g13 0],by kernel_rfl,g12,g13,(by first | rfl | assumption | omega | (simp only [List.length_set,List.length_append,List.length_cons,List.length_nil,List.length_replicate,List.length_drop] at * <;> omega)),(by first | exact Nat.zero_le _ | exact Nat.le_refl _ | assumption | omega | (simp only [List.length_set,List.length_append,List.length_cons,List.length_nil,List.length_replicate,List.length_drop] at * <;> omega)),rfl,rfl⟩
   ·
    subst hk8
    refine rg (s1 2 [(18,.agg (zc2 a0)),(17,.fn 124 [] [.ptr 0 0])] ?_)
    obtain ⟨x17,h16,hm⟩:=bs hm
    obtain ⟨vv,H1,hC,g18,g19,q20,q21,rfl,rfl⟩:=abV g4 g6 (by first | rfl | assumption | omega | (simp only [List.length_set,List.length_append,List.length_cons,List.length_nil,List.length_replicate,List.length_drop] at * <;> omega)) (by first | exact Nat.zero_le _ | exact Nat.le_refl _ | assumption | omega | (simp only [List.length_set,List.length_append,List.length_cons,List.length_nil,List.length_replicate,List.length_drop] at * <;> omega)) h16
    refine dR [(19,.tup [])] [.box [aR 2 8 g18] false,.box (zc2 a0) false,bR 49 8 zb x17 g19 0] [0,2] [.agg (zc2 a0),.ptr 0 0] (by kernel_rfl) (by kernel_rfl) (by kernel_rfl) hC (by kernel_rfl) (fin [] rfl (by kernel_rfl) ?_)
    obtain rfl:=Option.some.inj hm
    exact ⟨trivial,.tup [],[.box [aR 1 8 g18] false,bR 49 8 zb x17 g19 0],by kernel_rfl,g18,g19,(by first | rfl | assumption | omega | (simp only [List.length_set,List.length_append,List.length_cons,List.length_nil,List.length_replicate,List.length_drop] at * <;> omega)),(by first | exact Nat.zero_le _ | exact Nat.le_refl _ | assumption | omega | (simp only [List.length_set,List.length_append,List.length_cons,List.length_nil,List.length_replicate,List.length_drop] at * <;> omega)),rfl,rfl⟩
  refine sq (rg (s1 2 [(7,.pv (zh zg a0.fKids)),(6,.ptr 1 8)] (dv 8 (v:=aI ((sll a0.fKids).length:Int)) (zy zg a0.fKids t64 (by kernel_rfl)) (by kernel_rfl) (fq 1 [(1,.fn 124 [] [.ptr 0 0]),(2,.ptr 1 0),(7,.pv (zh zg a0.fKids)),(8,aI ((sll a0.fKids).length:Int)),(9,aI 0)] (bq ?_)))))
  refine ZY (fun mm t H=>(∃ (y29:Int),zA n rc_plan_walk_plan_Applied_1 a0 k8 mm none y29=some r∧t=mk 20 [(1,.fn 124 [] [.ptr 0 0]),(2,.ptr 1 0),(7,.pv (zh zg a0.fKids)),(8,aI ((sll a0.fKids).length:Int)),(9,aI y29)]∧H=[.box [.pv .nils] false,.box (zc2 a0) false])∨(∃ (y28:(List zc)) (y29:Int) (g30:Nat) (g32:Nat),zA n rc_plan_walk_plan_Applied_1 a0 k8 mm (some y28) y29=some r∧t=mk 20 [(1,.fn 124 [] [.ptr 0 0]),(2,.ptr 1 0),(7,.pv (zh zg a0.fKids)),(8,aI ((sll a0.fKids).length:Int)),(9,aI y29)]∧H=[.box [aR 2 8 g30] false,.box (zc2 a0) false,bR 49 8 zb y28 g32 0]∧y28.length=g30∧g32≤y28.length)) (.inl ⟨0,hm,rfl,rfl⟩) ?_ ?_
  · rintro _ _ (⟨y29,hm,_⟩ | ⟨y28,y29,g30,g32,hm,_⟩) <;> exact nomatch hm
  rintro m34 _ _ (⟨y29,hm,rfl,rfl⟩ | ⟨y28,y29,g30,g32,hm,rfl,rfl,q31,q33⟩)
  ·
   simp only [zA] at hm
   refine sq (dn [(1,.fn 124 [] [.ptr 0 0]),(2,.ptr 1 0),(7,.pv (zh zg a0.fKids)),(8,aI ((sll a0.fKids).length:Int)),(9,aI y29),(10,aB (decide (y29 < ((sll a0.fKids).length:Int))))] ?_)
   refine sq ?_
   rcases zo hm with ⟨h35,hm⟩ | ⟨h35,hm⟩
   ·
    refine c1 h35 (wp_skip (sq (bq (sq (rg ?_)))))
    obtain ⟨x36,h37,hm⟩:=bs hm
    refine dv 11 (v:=.pv (.ptr (zG (zd x36)) 0)) (Zd zg a0.fKids .i64 t64 t66 h37 (zF x36) rfl (by kernel_rfl)) (by kernel_rfl) (stf 3 [(1,.fn 124 [] [.ptr 0 0]),(2,.ptr 1 0),(5,.ptr 2 0),(7,.pv (zh zg a0.fKids)),(8,aI ((sll a0.fKids).length:Int)),(9,aI y29)] [.box [.pv .nils] false,.box (zc2 a0) false,.box (zc3 x36) false] (by kernel_rfl) (rg (s1 2 [(14,.fn 124 [] [.ptr 0 0]),(13,.agg (zc3 x36))] ?_)))
    obtain ⟨x40,h38,hm⟩:=bs hm
    rcases x40 with _ | x39
    ·
     obtain ⟨vv,H1,hC,rfl,rfl⟩:=ih_plan_walk_plan_Applied_1 h38
     refine dR [(15,.tup [])] [.box [.pv .nils] false,.box (zc2 a0) false,.box (zc3 x36) false] [0] [.agg (zc3 x36),.fn 124 [] [.ptr 0 0]] (by kernel_rfl) (by kernel_rfl) (by kernel_rfl) hC (by kernel_rfl) (fin [(1,.fn 124 [] [.ptr 0 0]),(2,.ptr 1 0),(7,.pv (zh zg a0.fKids)),(8,aI ((sll a0.fKids).length:Int)),(9,aI y29)] rfl (by kernel_rfl) (dn [(1,.fn 124 [] [.ptr 0 0]),(2,.ptr 1 0),(7,.pv (zh zg a0.fKids)),(8,aI ((sll a0.fKids).length:Int)),(9,aI (IntKind.wrap .i64 (y29+1)))] ?_))
     exact ⟨_,_,Zh [(1,.fn 124 [] [.ptr 0 0]),(2,.ptr 1 0),(7,.pv (zh zg a0.fKids)),(8,aI ((sll a0.fKids).length:Int)),(9,aI (IntKind.wrap .i64 (y29+1)))] [.box [.pv .nils] false,.box (zc2 a0) false] (by kernel_rfl),.inl ⟨(IntKind.wrap .i64 (y29+1)),hm,rfl,rfl⟩⟩
    ·
     obtain ⟨vv,H1,hC,g41,g42,q43,q44,rfl,rfl⟩:=ih_plan_walk_plan_Applied_1 h38
     refine dR [(15,.tup [])] [.box [aR 3 8 g41] false,.box (zc2 a0) false,.box (zc3 x36) false,bR 49 8 zb x39 g42 0] [0] [.agg (zc3 x36),.fn 124 [] [.ptr 0 0]] (by kernel_rfl) (by kernel_rfl) (by kernel_rfl) hC (by kernel_rfl) (fin [(1,.fn 124 [] [.ptr 0 0]),(2,.ptr 1 0),(7,.pv (zh zg a0.fKids)),(8,aI ((sll a0.fKids).length:Int)),(9,aI y29)] rfl (by kernel_rfl) (dn [(1,.fn 124 [] [.ptr 0 0]),(2,.ptr 1 0),(7,.pv (zh zg a0.fKids)),(8,aI ((sll a0.fKids).length:Int)),(9,aI (IntKind.wrap .i64 (y29+1)))] ?_))
     exact ⟨_,_,Zh [(1,.fn 124 [] [.ptr 0 0]),(2,.ptr 1 0),(7,.pv (zh zg a0.fKids)),(8,aI ((sll a0.fKids).length:Int)),(9,aI (IntKind.wrap .i64 (y29+1)))] [.box [aR 2 8 g41] false,.box (zc2 a0) false,bR 49 8 zb x39 g42 0] (by kernel_rfl),.inr (⟨x39,(IntKind.wrap .i64 (y29+1)),g41,g42,hm,rfl,rfl,(by first | rfl | assumption | omega | (simp only [List.length_set,List.length_append,List.length_cons,List.length_nil,List.length_replicate,List.length_drop] at * <;> omega)),(by first | exact Nat.zero_le _ | exact Nat.le_refl _ | assumption | omega | (simp only [List.length_set,List.length_append,List.length_cons,List.length_nil,List.length_replicate,List.length_drop] at * <;> omega))⟩)⟩
   ·
    refine c0 h35 (wp_exit ?_)
    exact .inl ⟨aI y29,aB (decide (y29 < ((sll a0.fKids).length:Int))),hm,(Zk (by kernel_rfl)),rfl⟩
  ·
   simp only [zA] at hm
   refine sq (dn [(1,.fn 124 [] [.ptr 0 0]),(2,.ptr 1 0),(7,.pv (zh zg a0.fKids)),(8,aI ((sll a0.fKids).length:Int)),(9,aI y29),(10,aB (decide (y29 < ((sll a0.fKids).length:Int))))] ?_)
   refine sq ?_
   rcases zo hm with ⟨h45,hm⟩ | ⟨h45,hm⟩
   ·
    refine c1 h45 (wp_skip (sq (bq (sq (rg ?_)))))
    obtain ⟨x46,h47,hm⟩:=bs hm
    refine dv 11 (v:=.pv (.ptr (zG (zd x46)) 0)) (Zd zg a0.fKids .i64 t64 t66 h47 (zF x46) rfl (by kernel_rfl)) (by kernel_rfl) (stf 3 [(1,.fn 124 [] [.ptr 0 0]),(2,.ptr 1 0),(5,.ptr 3 0),(7,.pv (zh zg a0.fKids)),(8,aI ((sll a0.fKids).length:Int)),(9,aI y29)] [.box [aR 2 8 g30] false,.box (zc2 a0) false,bR 49 8 zb y28 g32 0,.box (zc3 x46) false] (by kernel_rfl) (rg (s1 2 [(14,.fn 124 [] [.ptr 0 0]),(13,.agg (zc3 x46))] ?_)))
    obtain ⟨x49,h48,hm⟩:=bs hm
    obtain ⟨vv,H1,hC,g50,g51,q52,q53,rfl,rfl⟩:=abN g30 g32 (by first | rfl | assumption | omega | (simp only [List.length_set,List.length_append,List.length_cons,List.length_nil,List.length_replicate,List.length_drop] at * <;> omega)) (by first | exact Nat.zero_le _ | exact Nat.le_refl _ | assumption | omega | (simp only [List.length_set,List.length_append,List.length_cons,List.length_nil,List.length_replicate,List.length_drop] at * <;> omega)) h48
    refine dR [(15,.tup [])] [.box [aR 2 8 g50] false,.box (zc2 a0) false,bR 49 8 zb x49 g51 0,.box (zc3 x46) false] [0,2] [.agg (zc3 x46),.fn 124 [] [.ptr 0 0]] (by kernel_rfl) (by kernel_rfl) (by kernel_rfl) hC (by kernel_rfl) (fin [(1,.fn 124 [] [.ptr 0 0]),(2,.ptr 1 0),(7,.pv (zh zg a0.fKids)),(8,aI ((sll a0.fKids).length:Int)),(9,aI y29)] rfl (by kernel_rfl) (dn [(1,.fn 124 [] [.ptr 0 0]),(2,.ptr 1 0),(7,.pv (zh zg a0.fKids)),(8,aI ((sll a0.fKids).length:Int)),(9,aI (IntKind.wrap .i64 (y29+1)))] ?_))
    exact ⟨_,_,Zh [(1,.fn 124 [] [.ptr 0 0]),(2,.ptr 1 0),(7,.pv (zh zg a0.fKids)),(8,aI ((sll a0.fKids).length:Int)),(9,aI (IntKind.wrap .i64 (y29+1)))] [.box [aR 2 8 g50] false,.box (zc2 a0) false,bR 49 8 zb x49 g51 0] (by kernel_rfl),.inr (⟨x49,(IntKind.wrap .i64 (y29+1)),g50,g51,hm,rfl,rfl,(by first | rfl | assumption | omega | (simp only [List.length_set,List.length_append,List.length_cons,List.length_nil,List.length_replicate,List.length_drop] at * <;> omega)),(by first | exact Nat.zero_le _ | exact Nat.le_refl _ | assumption | omega | (simp only [List.length_set,List.length_append,List.length_cons,List.length_nil,List.length_replicate,List.length_drop] at * <;> omega))⟩)⟩
   ·
    refine c0 h45 (wp_exit ?_)
    exact .inr (⟨y28,aI y29,aB (decide (y29 < ((sll a0.fKids).length:Int))),g30,g32,hm,(Zk (by kernel_rfl)),rfl,(by first | rfl | assumption | omega | (simp only [List.length_set,List.length_append,List.length_cons,List.length_nil,List.length_replicate,List.length_drop] at * <;> omega)),(by first | exact Nat.zero_le _ | exact Nat.le_refl _ | assumption | omega | (simp only [List.length_set,List.length_append,List.length_cons,List.length_nil,List.length_replicate,List.length_drop] at * <;> omega))⟩)
theorem QU:∀ (m:Nat),∀ {n:Nat} {a0:zk} {r:(Option (List zc))} (hm:Zw m n a0=some r),∃ vv H1,call G n 123 [.agg (zc2 a0),.fn 124 [] [.ptr 0 0]] [.box [.pv .nils] false]=some (.ret vv,H1)∧(match (generalizing:=false) r with | none=>(vv=.tup []∧H1=[.box [.pv .nils] false]) | some r0=>(∃ (e1:Nat) (e2:Nat),r0.length=e1∧e2≤r0.length∧vv=.tup []∧H1=[.box [aR 1 8 e1] false,bR 49 8 zb r0 e2 0]))
  | 0=>by intros; rename_i hm; exact nomatch hm
  | m+1=>fun hm=>
    abR (QU m) hm
theorem Q5 {n:Nat} {a0:zk} {r:(Option (List zc))} (hm:Qm n a0=some r):
    ∃ vv H1,call G n 123 [.agg (zc2 a0),.fn 124 [] [.ptr 0 0]] [.box [.pv .nils] false]=some (.ret vv,H1)∧(match (generalizing:=false) r with | none=>(vv=.tup []∧H1=[.box [.pv .nils] false]) | some r0=>(∃ (e1:Nat) (e2:Nat),r0.length=e1∧e2≤r0.length∧vv=.tup []∧H1=[.box [aR 1 8 e1] false,bR 49 8 zb r0 e2 0])):=QU n hm
theorem agO {n:Nat} {a0:zk} {r:(Option (List zc))} (hm:aap n a0=some r):
    call G n 34 [.agg (zc2 a0)] []=some (.ret (.pv (zh zb r)),[]):=by
  unfold aap at hm
  obtain ⟨n,rfl,h0⟩:=zB hm
  replace hm:=h0; clear h0
  refine Zr 8 [(0,.agg (zc2 a0))] func34 rfl (by kernel_rfl) (sq (det [(1,.ptr 0 0)] [.box (zc2 a0) false] (by kernel_rfl) (sq (det [(1,.ptr 0 0),(3,.ptr 1 0)] [.box (zc2 a0) false,.box [.pv .nils] false] (by kernel_rfl) (sq (rg (s1 2 [(5,.fn 124 [] [.ptr 1 0]),(4,.agg (zc2 a0))] ?_)))))))
  obtain ⟨x3,h1,hm⟩:=bs hm
  rcases x3 with _ | x2
  ·
   obtain ⟨vv,H1,hC,rfl,rfl⟩:=Q5 h1
   refine dR [(6,.tup [])] [.box (zc2 a0) false,.box [.pv .nils] false] [1] [.agg (zc2 a0),.fn 124 [] [.ptr 1 0]] (by kernel_rfl) (by kernel_rfl) (by kernel_rfl) hC (by kernel_rfl) (fin [(3,.ptr 1 0)] rfl (by kernel_rfl) (sq (dn [(2,.pv .nils)] (wp_ret ?_))))
   obtain rfl:=Option.some.inj hm
   exact ⟨trivial,by kernel_rfl⟩
  ·
   obtain ⟨vv,H1,hC,g4,g5,q6,q7,rfl,rfl⟩:=Q5 h1
   refine dR [(6,.tup [])] [.box (zc2 a0) false,.box [aR 2 8 g4] false,bR 49 8 zb x2 g5 0] [1] [.agg (zc2 a0),.fn 124 [] [.ptr 1 0]] (by kernel_rfl) (by kernel_rfl) (by kernel_rfl) hC (by kernel_rfl) (fin [(3,.ptr 1 0)] rfl (by kernel_rfl) (sq (dn [(2,aR 2 8 g4)] (wp_ret ?_))))
   obtain rfl:=Option.some.inj hm
   exact abP (v:=aR 2 8 g4) trivial rfl (by kernel_rfl) (af0 (ZO (n:=g4) (id:=2) (l:=x2) (R:=zb) rfl (by omega) (by omega)))
abbrev zc16 (p0:zc) (p1:zc):List AV:=[aI 7,aI 0,aI 0,aI 0,aI 0,aF 0,aS ByteArray.empty,.pv (.sl (([(zf (zj.mk ((za p0).fKind) ((za p0).fRel) ((za p0).fCol) (zi.mk (((za p0).fConst).fKind) (((za p0).fConst).fInt) (((za p0).fConst).fFloat) (((za p0).fConst).fText)) ((za p0).fKids))),(zf (zj.mk ((za p1).fKind) ((za p1).fRel) ((za p1).fCol) (zi.mk (((za p1).fConst).fKind) (((za p1).fConst).fInt) (((za p1).fConst).fFloat) (((za p1).fConst).fText)) ((za p1).fKids)))]:List zc).map zb))]
theorem afO {rc_ref25_Applied:(Nat→zk→Option ((Option (List zc))))} (ih_ref25_Applied:∀ {n:Nat} {a0:zk} {r:(Option (List zc))} (hm:rc_ref25_Applied n a0=some r),call G n 35 [.agg [aI a0.fKind,aI a0.fRel,.pv (zh zb a0.fWhere),.pv (zh zb a0.fLeft),.pv (zh zb a0.fRight),.pv (zh zb a0.fOut),.pv (zh zn a0.fAggs),.pv (zh zp a0.fOrder),.pv (zh zg a0.fKids)]] []=some (.ret (.pv (zh zb r)),[])) {n:Nat} {a0:zk} {r:(Option (List zc))} (hm:QQ rc_ref25_Applied n a0=some r):
    call G n 35 [.agg (zc2 a0)] []=some (.ret (.pv (zh zb r)),[]):=by
  unfold QQ at hm
  obtain ⟨n,rfl,h0⟩:=zB hm
  replace hm:=h0; clear h0
  refine Zr 65 [(0,.agg (zc2 a0))] func35 rfl (by kernel_rfl) (sq (det [(1,.ptr 0 0)] [.box (zc2 a0) false] (by kernel_rfl) (sq (dn [(1,.ptr 0 0),(3,.pv .nils)] ?_))))
  obtain ⟨k4,hk4,hm⟩:=zz hm
  refine mid (fun t H=>(∃ (w1:AV) (w2:AV),k4 none=some r∧t=mk 65 [(1,.ptr 0 0),(3,.pv .nils),(4,w1),(10,w2)]∧H=[.box (zc2 a0) false])∨(∃ (y3:(List zc)) (w1:AV) (w2:AV),k4 (some y3)=some r∧t=mk 65 [(1,.ptr 0 0),(3,aR 1 8 y3.length),(4,w1),(10,w2)]∧H=[.box (zc2 a0) false,bR 49 8 zb y3 0 0])) ?_ ?_
  ·
   rintro _ _ (⟨w1,w2,hm,rfl,rfl⟩ | ⟨y3,w1,w2,hm,rfl,rfl⟩)
   ·
    subst hk4
    obtain ⟨k7,hk7,hm⟩:=zz hm
    refine mid (fun t H=>(k7 none=some r∧t=mk 65 [(1,.ptr 0 0),(3,.pv .nils)]∧H=[.box (zc2 a0) false])∨(∃ (y5:(List zc)),k7 (some y5)=some r∧t=mk 65 [(1,.ptr 0 0),(3,aR 1 8 ((sll a0.fWhere).length))]∧H=[.box (zc2 a0) false,bR 49 8 zb y5 0 0]∧y5.length=(sll a0.fWhere).length)) ?_ ?_
    ·
     rintro _ _ (⟨hm,rfl,rfl⟩ | ⟨y5,hm,rfl,rfl,q6⟩)
     ·
      subst hk7
      obtain ⟨k11,hk11,hm⟩:=zz hm
      refine mid (fun t H=>(∃ (w8:AV) (w9:AV),k11 none=some r∧t=mk 65 [(1,.ptr 0 0),(3,.pv .nils),(5,w8),(46,w9)]∧H=[.box (zc2 a0) false])∨(∃ (y10:(List zc)) (w8:AV) (w9:AV),k11 (some y10)=some r∧t=mk 65 [(1,.ptr 0 0),(3,aR 1 8 y10.length),(5,w8),(46,w9)]∧H=[.box (zc2 a0) false,bR 49 8 zb y10 0 0])) ?_ ?_
      ·
       rintro _ _ (⟨w8,w9,hm,rfl,rfl⟩ | ⟨y10,w8,w9,hm,rfl,rfl⟩)
       ·
        subst hk11
        refine sq (dn [(2,.pv .nils)] (wp_ret ?_))
        obtain rfl:=Option.some.inj hm
        exact ⟨trivial,by kernel_rfl⟩
       ·
        subst hk11
        refine sq (dn [(2,aR 1 8 y10.length)] (wp_ret ?_))
        obtain rfl:=Option.some.inj hm
        exact abP (v:=aR 1 8 y10.length) trivial rfl (by kernel_rfl) (af0 (ZO (n:=y10.length) (id:=1) (l:=y10) (R:=zb) rfl rfl (Nat.zero_le _)))
      refine sq (dn [(1,.ptr 0 0),(3,.pv .nils),(5,aI 0)] (bq ?_))
      refine ZY (fun mm t H=>(∃ (y16:Int),zW n a0 k11 mm none y16=some r∧t=mk 65 [(1,.ptr 0 0),(3,.pv .nils),(5,aI y16)]∧H=[.box (zc2 a0) false])∨(∃ (y15:(List zc)) (y16:Int),zW n a0 k11 mm (some y15) y16=some r∧t=mk 65 [(1,.ptr 0 0),(3,aR 1 8 y15.length),(5,aI y16)]∧H=[.box (zc2 a0) false,bR 49 8 zb y15 0 0])) (.inl ⟨0,hm,rfl,rfl⟩) ?_ ?_
      · rintro _ _ (⟨y16,hm,_⟩ | ⟨y15,y16,hm,_⟩) <;> exact nomatch hm
      rintro m17 _ _ (⟨y16,hm,rfl,rfl⟩ | ⟨y15,y16,hm,rfl,rfl⟩)
      ·
       simp only [zW] at hm
       refine sq (sq (rg (s1 4 [(28,aB (a0.fKind == 3)),(27,aB (a0.fKind == 3)),(26,aI a0.fKind),(25,.ptr 0 0)] ?_)))
       refine segP (a0.fKind == 3) [28,27] (fun b=>[(32,aB (b || (a0.fKind == 4))),(31,ifA b (.undef) (aB (a0.fKind == 4))),(30,ifA b (.undef) (aI a0.fKind)),(29,ifA b (.undef) (.ptr 0 0))]) 4 (by kernel_rfl) (by kernel_rfl) (by kernel_rfl) (s1 1 [(33,aB ((a0.fKind == 3) || (a0.fKind == 4)))] ?_)
       refine seg ((a0.fKind == 3) || (a0.fKind == 4)) [33,32] (fun b=>[(39,aB (b && (decide (y16 < ((sll a0.fLeft).length:Int))))),(38,ifA b (aB (decide (y16 < ((sll a0.fLeft).length:Int)))) (.undef)),(37,ifA b (aI ((sll a0.fLeft).length:Int)) (.undef)),(36,ifA b (.pv (zh zb a0.fLeft)) (.undef)),(35,ifA b (.ptr 0 3) (.undef)),(34,ifA b (aI y16) (.undef))]) 15 (by kernel_rfl) ?_ ?_ ?_
       ·
        intro Q h
        refine s1 3 [(36,.pv (zh zb a0.fLeft)),(35,.ptr 0 3),(34,aI y16)] (dv 37 (v:=aI ((sll a0.fLeft).length:Int)) (zy zb a0.fLeft t23 (by kernel_rfl)) (by kernel_rfl) (s1 2 [(39,aB (decide (y16 < ((sll a0.fLeft).length:Int)))),(38,aB (decide (y16 < ((sll a0.fLeft).length:Int))))] ?_))
        exact ZB (by kernel_rfl) (by kernel_rfl) h
       ·
        intro Q h
        refine s1 6 [(39,aB false),(38,.undef),(37,.undef),(36,.undef),(35,.undef),(34,.undef)] ?_
        exact ZB (by kernel_rfl) (by kernel_rfl) h
       refine s1 1 [(40,aB (((a0.fKind == 3) || (a0.fKind == 4)) && (decide (y16 < ((sll a0.fLeft).length:Int)))))] ?_
       refine seg (((a0.fKind == 3) || (a0.fKind == 4)) && (decide (y16 < ((sll a0.fLeft).length:Int)))) [40,39] (fun b=>[(46,aB (b && (decide (y16 < ((sll a0.fRight).length:Int))))),(45,ifA b (aB (decide (y16 < ((sll a0.fRight).length:Int)))) (.undef)),(44,ifA b (aI ((sll a0.fRight).length:Int)) (.undef)),(43,ifA b (.pv (zh zb a0.fRight)) (.undef)),(42,ifA b (.ptr 0 4) (.undef)),(41,ifA b (aI y16) (.undef))]) 22 (by kernel_rfl) ?_ ?_ ?_
       ·
        intro Q h
        refine s1 3 [(43,.pv (zh zb a0.fRight)),(42,.ptr 0 4),(41,aI y16)] (dv 44 (v:=aI ((sll a0.fRight).length:Int)) (zy zb a0.fRight t23 (by kernel_rfl)) (by kernel_rfl) (s1 2 [(46,aB (decide (y16 < ((sll a0.fRight).length:Int)))),(45,aB (decide (y16 < ((sll a0.fRight).length:Int))))] ?_))
        exact ZB (by kernel_rfl) (by kernel_rfl) h
       ·
        intro Q h
        refine s1 6 [(46,aB false),(45,.undef),(44,.undef),(43,.undef),(42,.undef),(41,.undef)] ?_
        exact ZB (by kernel_rfl) (by kernel_rfl) h
       refine fin [(1,.ptr 0 0),(3,.pv .nils),(5,aI y16),(46,aB ((((a0.fKind == 3) || (a0.fKind == 4)) && (decide (y16 < ((sll a0.fLeft).length:Int)))) && (decide (y16 < ((sll a0.fRight).length:Int)))))] rfl (by kernel_rfl) ?_
       rcases zo hm with ⟨h18,hm⟩ | ⟨h18,hm⟩
       ·
        refine c1 h18 (wp_skip (sq (bq (rgd (shd 4 [(52,aI y16),(51,.pv (zh zb a0.fLeft)),(50,.ptr 0 3),(49,.pv .nils)] (by kernel_rfl) ?_)))))
        obtain ⟨x19,h20,hm⟩:=bs hm
        refine dvd 53 (v:=.pv (.ptr (zC (za x19)) 0)) (Zd zb a0.fLeft .i64 t23 t49 h20 (zx x19) rfl (by kernel_rfl)) (by kernel_rfl) (shd 4 [(57,aI y16),(56,.pv (zh zb a0.fRight)),(55,.ptr 0 4),(54,.agg (zc8 x19))] (by kernel_rfl) ?_)
        obtain ⟨x21,h22,hm⟩:=bs hm
        refine dvd 58 (v:=.pv (.ptr (zC (za x21)) 0)) (Zd zb a0.fRight .i64 t23 t49 h22 (zx x21) rfl (by kernel_rfl)) (by kernel_rfl) (std 3 [(61,.agg [aI 7,aI 0,aI 0,aI 0,aI 0,aF 0,aS ByteArray.empty,aR 1 8 2]),(60,aR 1 8 2),(59,.agg (zc8 x21))] [.box (zc2 a0) false,bR 49 8 zb ([(zf (zj.mk ((za x19).fKind) ((za x19).fRel) ((za x19).fCol) (zi.mk (((za x19).fConst).fKind) (((za x19).fConst).fInt) (((za x19).fConst).fFloat) (((za x19).fConst).fText)) ((za x19).fKids))),(zf (zj.mk ((za x21).fKind) ((za x21).fRel) ((za x21).fCol) (zi.mk (((za x21).fConst).fKind) (((za x21).fConst).fInt) (((za x21).fConst).fFloat) (((za x21).fConst).fText)) ((za x21).fKids)))]:List zc) 0 0] (by kernel_rfl) (dOd [(62,aR 2 8 1)] [.box (zc2 a0) false,bR 49 8 zb ([(zf (zj.mk ((za x19).fKind) ((za x19).fRel) ((za x19).fCol) (zi.mk (((za x19).fConst).fKind) (((za x19).fConst).fInt) (((za x19).fConst).fFloat) (((za x19).fConst).fText)) ((za x19).fKids))),(zf (zj.mk ((za x21).fKind) ((za x21).fRel) ((za x21).fCol) (zi.mk (((za x21).fConst).fKind) (((za x21).fConst).fInt) (((za x21).fConst).fFloat) (((za x21).fConst).fText)) ((za x21).fKids)))]:List zc) 0 (max 0 (([(zf (zj.mk ((za x19).fKind) ((za x19).fRel) ((za x19).fCol) (zi.mk (((za x19).fConst).fKind) (((za x19).fConst).fInt) (((za x19).fConst).fFloat) (((za x19).fConst).fText)) ((za x19).fKids))),(zf (zj.mk ((za x21).fKind) ((za x21).fRel) ((za x21).fCol) (zi.mk (((za x21).fConst).fKind) (((za x21).fConst).fInt) (((za x21).fConst).fFloat) (((za x21).fConst).fText)) ((za x21).fKids)))]:List zc).map zb).length),bR 49 8 zb ([(zf (zj.mk 7 0 0 (zi.mk 0 0 0 ByteArray.empty) (some ([(zf (zj.mk ((za x19).fKind) ((za x19).fRel) ((za x19).fCol) (zi.mk (((za x19).fConst).fKind) (((za x19).fConst).fInt) (((za x19).fConst).fFloat) (((za x19).fConst).fText)) ((za x19).fKids))),(zf (zj.mk ((za x21).fKind) ((za x21).fRel) ((za x21).fCol) (zi.mk (((za x21).fConst).fKind) (((za x21).fConst).fInt) (((za x21).fConst).fFloat) (((za x21).fConst).fText)) ((za x21).fKids)))]:List zc))))]:List zc) 0 0] (qT (nid:=0) (t:=23) (len:=1) (is:=[0]) (vs:=[.agg [aI 7,aI 0,aI 0,aI 0,aI 0,aF 0,aS ByteArray.empty,aR 1 8 2]]) (ps:=[.agg (zc16 x19 x21)]) (R:=[1]) (e:=⟨aR 2 8 1,[],[bR 49 8 zb ([(zf (zj.mk 7 0 0 (zi.mk 0 0 0 ByteArray.empty) (some ([(zf (zj.mk ((za x19).fKind) ((za x19).fRel) ((za x19).fCol) (zi.mk (((za x19).fConst).fKind) (((za x19).fConst).fInt) (((za x19).fConst).fFloat) (((za x19).fConst).fText)) ((za x19).fKids))),(zf (zj.mk ((za x21).fKind) ((za x21).fRel) ((za x21).fCol) (zi.mk (((za x21).fConst).fKind) (((za x21).fConst).fInt) (((za x21).fConst).fFloat) (((za x21).fConst).fText)) ((za x21).fKids)))]:List zc))))]:List zc) 0 0]⟩) (by kernel_rfl) (by kernel_rfl) (by kernel_rfl) (by kernel_rfl)) (by kernel_rfl) ?_))
        obtain ⟨_,h23,hm⟩:=bs hm
        refine dOd [(63,aR 3 8 (([(zf (zj.mk 7 0 0 (zi.mk 0 0 0 ByteArray.empty) (some ([(zf (zj.mk ((za x19).fKind) ((za x19).fRel) ((za x19).fCol) (zi.mk (((za x19).fConst).fKind) (((za x19).fConst).fInt) (((za x19).fConst).fFloat) (((za x19).fConst).fText)) ((za x19).fKids))),(zf (zj.mk ((za x21).fKind) ((za x21).fRel) ((za x21).fCol) (zi.mk (((za x21).fConst).fKind) (((za x21).fConst).fInt) (((za x21).fConst).fFloat) (((za x21).fConst).fText)) ((za x21).fKids)))]:List zc))))]:List zc).length))] [.box (zc2 a0) false,bR 49 8 zb ([(zf (zj.mk ((za x19).fKind) ((za x19).fRel) ((za x19).fCol) (zi.mk (((za x19).fConst).fKind) (((za x19).fConst).fInt) (((za x19).fConst).fFloat) (((za x19).fConst).fText)) ((za x19).fKids))),(zf (zj.mk ((za x21).fKind) ((za x21).fRel) ((za x21).fCol) (zi.mk (((za x21).fConst).fKind) (((za x21).fConst).fInt) (((za x21).fConst).fFloat) (((za x21).fConst).fText)) ((za x21).fKids)))]:List zc) 0 (max 0 (([(zf (zj.mk ((za x19).fKind) ((za x19).fRel) ((za x19).fCol) (zi.mk (((za x19).fConst).fKind) (((za x19).fConst).fInt) (((za x19).fConst).fFloat) (((za x19).fConst).fText)) ((za x19).fKids))),(zf (zj.mk ((za x21).fKind) ((za x21).fRel) ((za x21).fCol) (zi.mk (((za x21).fConst).fKind) (((za x21).fConst).fInt) (((za x21).fConst).fFloat) (((za x21).fConst).fText)) ((za x21).fKids)))]:List zc).map zb).length),bR 49 8 zb ([(zf (zj.mk 7 0 0 (zi.mk 0 0 0 ByteArray.empty) (some ([(zf (zj.mk ((za x19).fKind) ((za x19).fRel) ((za x19).fCol) (zi.mk (((za x19).fConst).fKind) (((za x19).fConst).fInt) (((za x19).fConst).fFloat) (((za x19).fConst).fText)) ((za x19).fKids))),(zf (zj.mk ((za x21).fKind) ((za x21).fRel) ((za x21).fCol) (zi.mk (((za x21).fConst).fKind) (((za x21).fConst).fInt) (((za x21).fConst).fFloat) (((za x21).fConst).fText)) ((za x21).fKids)))]:List zc))))]:List zc) 0 0,bR 49 8 zb ([(zf (zj.mk 7 0 0 (zi.mk 0 0 0 ByteArray.empty) (some ([(zf (zj.mk ((za x19).fKind) ((za x19).fRel) ((za x19).fCol) (zi.mk (((za x19).fConst).fKind) (((za x19).fConst).fInt) (((za x19).fConst).fFloat) (((za x19).fConst).fText)) ((za x19).fKids))),(zf (zj.mk ((za x21).fKind) ((za x21).fRel) ((za x21).fCol) (zi.mk (((za x21).fConst).fKind) (((za x21).fConst).fInt) (((za x21).fConst).fFloat) (((za x21).fConst).fText)) ((za x21).fKids)))]:List zc))))]:List zc) 0 0] (qU (u:=0) zb ([(zf (zj.mk 7 0 0 (zi.mk 0 0 0 ByteArray.empty) (some ([(zf (zj.mk ((za x19).fKind) ((za x19).fRel) ((za x19).fCol) (zi.mk (((za x19).fConst).fKind) (((za x19).fConst).fInt) (((za x19).fConst).fFloat) (((za x19).fConst).fText)) ((za x19).fKids))),(zf (zj.mk ((za x21).fKind) ((za x21).fRel) ((za x21).fCol) (zi.mk (((za x21).fConst).fKind) (((za x21).fConst).fInt) (((za x21).fConst).fFloat) (((za x21).fConst).fText)) ((za x21).fKids)))]:List zc))))]:List zc) (b:=88) t23 t49 rfl rfl rfl Za rfl h23 (show zT (aR 2 8 1) _=some (([(zf (zj.mk 7 0 0 (zi.mk 0 0 0 ByteArray.empty) (some ([(zf (zj.mk ((za x19).fKind) ((za x19).fRel) ((za x19).fCol) (zi.mk (((za x19).fConst).fKind) (((za x19).fConst).fInt) (((za x19).fConst).fFloat) (((za x19).fConst).fText)) ((za x19).fKids))),(zf (zj.mk ((za x21).fKind) ((za x21).fRel) ((za x21).fCol) (zi.mk (((za x21).fConst).fKind) (((za x21).fConst).fInt) (((za x21).fConst).fFloat) (((za x21).fConst).fText)) ((za x21).fKids)))]:List zc))))]:List zc).map zb) from by kernel_rfl) (by kernel_rfl)) (by kernel_rfl) (shd 1 [(3,aR 3 8 (([(zf (zj.mk 7 0 0 (zi.mk 0 0 0 ByteArray.empty) (some ([(zf (zj.mk ((za x19).fKind) ((za x19).fRel) ((za x19).fCol) (zi.mk (((za x19).fConst).fKind) (((za x19).fConst).fInt) (((za x19).fConst).fFloat) (((za x19).fConst).fText)) ((za x19).fKids))),(zf (zj.mk ((za x21).fKind) ((za x21).fRel) ((za x21).fCol) (zi.mk (((za x21).fConst).fKind) (((za x21).fConst).fInt) (((za x21).fConst).fFloat) (((za x21).fConst).fText)) ((za x21).fKids)))]:List zc))))]:List zc).length))] (by kernel_rfl) (find [(1,.ptr 0 0),(3,aR 3 8 (([(zf (zj.mk 7 0 0 (zi.mk 0 0 0 ByteArray.empty) (some ([(zf (zj.mk ((za x19).fKind) ((za x19).fRel) ((za x19).fCol) (zi.mk (((za x19).fConst).fKind) (((za x19).fConst).fInt) (((za x19).fConst).fFloat) (((za x19).fConst).fText)) ((za x19).fKids))),(zf (zj.mk ((za x21).fKind) ((za x21).fRel) ((za x21).fCol) (zi.mk (((za x21).fConst).fKind) (((za x21).fConst).fInt) (((za x21).fConst).fFloat) (((za x21).fConst).fText)) ((za x21).fKids)))]:List zc))))]:List zc).length)),(5,aI y16)] rfl (by kernel_rfl) (by kernel_rfl) (dn [(1,.ptr 0 0),(3,aR 3 8 (([(zf (zj.mk 7 0 0 (zi.mk 0 0 0 ByteArray.empty) (some ([(zf (zj.mk ((za x19).fKind) ((za x19).fRel) ((za x19).fCol) (zi.mk (((za x19).fConst).fKind) (((za x19).fConst).fInt) (((za x19).fConst).fFloat) (((za x19).fConst).fText)) ((za x19).fKids))),(zf (zj.mk ((za x21).fKind) ((za x21).fRel) ((za x21).fCol) (zi.mk (((za x21).fConst).fKind) (((za x21).fConst).fInt) (((za x21).fConst).fFloat) (((za x21).fConst).fText)) ((za x21).fKids)))]:List zc))))]:List zc).length)),(5,aI (IntKind.wrap .i64 (y16+1)))] ?_)))
        exact ⟨_,_,Zh [(1,.ptr 0 0),(3,aR 1 8 (([(zf (zj.mk 7 0 0 (zi.mk 0 0 0 ByteArray.empty) (some ([(zf (zj.mk ((za x19).fKind) ((za x19).fRel) ((za x19).fCol) (zi.mk (((za x19).fConst).fKind) (((za x19).fConst).fInt) (((za x19).fConst).fFloat) (((za x19).fConst).fText)) ((za x19).fKids))),(zf (zj.mk ((za x21).fKind) ((za x21).fRel) ((za x21).fCol) (zi.mk (((za x21).fConst).fKind) (((za x21).fConst).fInt) (((za x21).fConst).fFloat) (((za x21).fConst).fText)) ((za x21).fKids)))]:List zc))))]:List zc).length)),(5,aI (IntKind.wrap .i64 (y16+1)))] [.box (zc2 a0) false,bR 49 8 zb ([(zf (zj.mk 7 0 0 (zi.mk 0 0 0 ByteArray.empty) (some ([(zf (zj.mk ((za x19).fKind) ((za x19).fRel) ((za x19).fCol) (zi.mk (((za x19).fConst).fKind) (((za x19).fConst).fInt) (((za x19).fConst).fFloat) (((za x19).fConst).fText)) ((za x19).fKids))),(zf (zj.mk ((za x21).fKind) ((za x21).fRel) ((za x21).fCol) (zi.mk (((za x21).fConst).fKind) (((za x21).fConst).fInt) (((za x21).fConst).fFloat) (((za x21).fConst).fText)) ((za x21).fKids)))]:List zc))))]:List zc) 0 0] (by kernel_rfl),.inr (⟨([(zf (zj.mk 7 0 0 (zi.mk 0 0 0 ByteArray.empty) (some ([(zf (zj.mk ((za x19).fKind) ((za x19).fRel) ((za x19).fCol) (zi.mk (((za x19).fConst).fKind) (((za x19).fConst).fInt) (((za x19).fConst).fFloat) (((za x19).fConst).fText)) ((za x19).fKids))),(zf (zj.mk ((za x21).fKind) ((za x21).fRel) ((za x21).fCol) (zi.mk (((za x21).fConst).fKind) (((za x21).fConst).fInt) (((za x21).fConst).fFloat) (((za x21).fConst).fText)) ((za x21).fKids)))]:List zc))))]:List zc),(IntKind.wrap .i64 (y16+1)),hm,rfl,rfl⟩)⟩
       ·
        refine c0 h18 (wp_exit ?_)
        exact .inl ⟨aI y16,aB ((((a0.fKind == 3) || (a0.fKind == 4)) && (decide (y16 < ((sll a0.fLeft).length:Int)))) && (decide (y16 < ((sll a0.fRight).length:Int)))),hm,(Zk (by kernel_rfl)),rfl⟩
      ·
       simp only [zW] at hm
       refine sq (sq (rg (s1 4 [(28,aB (a0.fKind == 3)),(27,aB (a0.fKind == 3)),(26,aI a0.fKind),(25,.ptr 0 0)] ?_)))
       refine segP (a0.fKind == 3) [28,27] (fun b=>[(32,aB (b || (a0.fKind == 4))),(31,ifA b (.undef) (aB (a0.fKind == 4))),(30,ifA b (.undef) (aI a0.fKind)),(29,ifA b (.undef) (.ptr 0 0))]) 4 (by kernel_rfl) (by kernel_rfl) (by kernel_rfl) (s1 1 [(33,aB ((a0.fKind == 3) || (a0.fKind == 4)))] ?_)
       refine seg ((a0.fKind == 3) || (a0.fKind == 4)) [33,32] (fun b=>[(39,aB (b && (decide (y16 < ((sll a0.fLeft).length:Int))))),(38,ifA b (aB (decide (y16 < ((sll a0.fLeft).length:Int)))) (.undef)),(37,ifA b (aI ((sll a0.fLeft).length:Int)) (.undef)),(36,ifA b (.pv (zh zb a0.fLeft)) (.undef)),(35,ifA b (.ptr 0 3) (.undef)),(34,ifA b (aI y16) (.undef))]) 15 (by kernel_rfl) ?_ ?_ ?_
       ·
        intro Q h
        refine s1 3 [(36,.pv (zh zb a0.fLeft)),(35,.ptr 0 3),(34,aI y16)] (dv 37 (v:=aI ((sll a0.fLeft).length:Int)) (zy zb a0.fLeft t23 (by kernel_rfl)) (by kernel_rfl) (s1 2 [(39,aB (decide (y16 < ((sll a0.fLeft).length:Int)))),(38,aB (decide (y16 < ((sll a0.fLeft).length:Int))))] ?_))
        exact ZB (by kernel_rfl) (by kernel_rfl) h
       ·
        intro Q h
        refine s1 6 [(39,aB false),(38,.undef),(37,.undef),(36,.undef),(35,.undef),(34,.undef)] ?_
        exact ZB (by kernel_rfl) (by kernel_rfl) h
       refine s1 1 [(40,aB (((a0.fKind == 3) || (a0.fKind == 4)) && (decide (y16 < ((sll a0.fLeft).length:Int)))))] ?_
       refine seg (((a0.fKind == 3) || (a0.fKind == 4)) && (decide (y16 < ((sll a0.fLeft).length:Int)))) [40,39] (fun b=>[(46,aB (b && (decide (y16 < ((sll a0.fRight).length:Int))))),(45,ifA b (aB (decide (y16 < ((sll a0.fRight).length:Int)))) (.undef)),(44,ifA b (aI ((sll a0.fRight).length:Int)) (.undef)),(43,ifA b (.pv (zh zb a0.fRight)) (.undef)),(42,ifA b (.ptr 0 4) (.undef)),(41,ifA b (aI y16) (.undef))]) 22 (by kernel_rfl) ?_ ?_ ?_
       ·
        intro Q h
        refine s1 3 [(43,.pv (zh zb a0.fRight)),(42,.ptr 0 4),(41,aI y16)] (dv 44 (v:=aI ((sll a0.fRight).length:Int)) (zy zb a0.fRight t23 (by kernel_rfl)) (by kernel_rfl) (s1 2 [(46,aB (decide (y16 < ((sll a0.fRight).length:Int)))),(45,aB (decide (y16 < ((sll a0.fRight).length:Int))))] ?_))
        exact ZB (by kernel_rfl) (by kernel_rfl) h
       ·
        intro Q h
        refine s1 6 [(46,aB false),(45,.undef),(44,.undef),(43,.undef),(42,.undef),(41,.undef)] ?_
        exact ZB (by kernel_rfl) (by kernel_rfl) h
       refine fin [(1,.ptr 0 0),(3,aR 1 8 y15.length),(5,aI y16),(46,aB ((((a0.fKind == 3) || (a0.fKind == 4)) && (decide (y16 < ((sll a0.fLeft).length:Int)))) && (decide (y16 < ((sll a0.fRight).length:Int)))))] rfl (by kernel_rfl) ?_
       rcases zo hm with ⟨h24,hm⟩ | ⟨h24,hm⟩
       ·
        refine c1 h24 (wp_skip (sq (bq (rgd (shd 4 [(52,aI y16),(51,.pv (zh zb a0.fLeft)),(50,.ptr 0 3),(49,aR 1 8 y15.length)] (by kernel_rfl) ?_)))))
        obtain ⟨x25,h26,hm⟩:=bs hm
        refine dvd 53 (v:=.pv (.ptr (zC (za x25)) 0)) (Zd zb a0.fLeft .i64 t23 t49 h26 (zx x25) rfl (by kernel_rfl)) (by kernel_rfl) (shd 4 [(57,aI y16),(56,.pv (zh zb a0.fRight)),(55,.ptr 0 4),(54,.agg (zc8 x25))] (by kernel_rfl) ?_)
        obtain ⟨x27,h28,hm⟩:=bs hm
        refine dvd 58 (v:=.pv (.ptr (zC (za x27)) 0)) (Zd zb a0.fRight .i64 t23 t49 h28 (zx x27) rfl (by kernel_rfl)) (by kernel_rfl) (std 3 [(61,.agg zc9),(60,aR 2 8 2),(59,.agg (zc8 x27))] [.box (zc2 a0) false,bR 49 8 zb y15 0 0,bR 49 8 zb ([(zf (zj.mk ((za x25).fKind) ((za x25).fRel) ((za x25).fCol) (zi.mk (((za x25).fConst).fKind) (((za x25).fConst).fInt) (((za x25).fConst).fFloat) (((za x25).fConst).fText)) ((za x25).fKids))),(zf (zj.mk ((za x27).fKind) ((za x27).fRel) ((za x27).fCol) (zi.mk (((za x27).fConst).fKind) (((za x27).fConst).fInt) (((za x27).fConst).fFloat) (((za x27).fConst).fText)) ((za x27).fKids)))]:List zc) 0 0] (by kernel_rfl) (dOd [(62,aR 3 8 1)] [.box (zc2 a0) false,bR 49 8 zb y15 0 0,bR 49 8 zb ([(zf (zj.mk ((za x25).fKind) ((za x25).fRel) ((za x25).fCol) (zi.mk (((za x25).fConst).fKind) (((za x25).fConst).fInt) (((za x25).fConst).fFloat) (((za x25).fConst).fText)) ((za x25).fKids))),(zf (zj.mk ((za x27).fKind) ((za x27).fRel) ((za x27).fCol) (zi.mk (((za x27).fConst).fKind) (((za x27).fConst).fInt) (((za x27).fConst).fFloat) (((za x27).fConst).fText)) ((za x27).fKids)))]:List zc) 0 (max 0 (([(zf (zj.mk ((za x25).fKind) ((za x25).fRel) ((za x25).fCol) (zi.mk (((za x25).fConst).fKind) (((za x25).fConst).fInt) (((za x25).fConst).fFloat) (((za x25).fConst).fText)) ((za x25).fKids))),(zf (zj.mk ((za x27).fKind) ((za x27).fRel) ((za x27).fCol) (zi.mk (((za x27).fConst).fKind) (((za x27).fConst).fInt) (((za x27).fConst).fFloat) (((za x27).fConst).fText)) ((za x27).fKids)))]:List zc).map zb).length),bR 49 8 zb ([(zf (zj.mk 7 0 0 (zi.mk 0 0 0 ByteArray.empty) (some ([(zf (zj.mk ((za x25).fKind) ((za x25).fRel) ((za x25).fCol) (zi.mk (((za x25).fConst).fKind) (((za x25).fConst).fInt) (((za x25).fConst).fFloat) (((za x25).fConst).fText)) ((za x25).fKids))),(zf (zj.mk ((za x27).fKind) ((za x27).fRel) ((za x27).fCol) (zi.mk (((za x27).fConst).fKind) (((za x27).fConst).fInt) (((za x27).fConst).fFloat) (((za x27).fConst).fText)) ((za x27).fKids)))]:List zc))))]:List zc) 0 0] (qT (nid:=0) (t:=23) (len:=1) (is:=[0]) (vs:=[.agg zc9]) (ps:=[.agg (zc16 x25 x27)]) (R:=[2]) (e:=⟨aR 3 8 1,[],[bR 49 8 zb ([(zf (zj.mk 7 0 0 (zi.mk 0 0 0 ByteArray.empty) (some ([(zf (zj.mk ((za x25).fKind) ((za x25).fRel) ((za x25).fCol) (zi.mk (((za x25).fConst).fKind) (((za x25).fConst).fInt) (((za x25).fConst).fFloat) (((za x25).fConst).fText)) ((za x25).fKids))),(zf (zj.mk ((za x27).fKind) ((za x27).fRel) ((za x27).fCol) (zi.mk (((za x27).fConst).fKind) (((za x27).fConst).fInt) (((za x27).fConst).fFloat) (((za x27).fConst).fText)) ((za x27).fKids)))]:List zc))))]:List zc) 0 0]⟩) (by kernel_rfl) (by kernel_rfl) (by kernel_rfl) (by kernel_rfl)) (by kernel_rfl) ?_))
        obtain ⟨_,h29,hm⟩:=bs hm
        refine dOd [(63,aR 1 8 ((y15++([(zf (zj.mk 7 0 0 (zi.mk 0 0 0 ByteArray.empty) (some ([(zf (zj.mk ((za x25).fKind) ((za x25).fRel) ((za x25).fCol) (zi.mk (((za x25).fConst).fKind) (((za x25).fConst).fInt) (((za x25).fConst).fFloat) (((za x25).fConst).fText)) ((za x25).fKids))),(zf (zj.mk ((za x27).fKind) ((za x27).fRel) ((za x27).fCol) (zi.mk (((za x27).fConst).fKind) (((za x27).fConst).fInt) (((za x27).fConst).fFloat) (((za x27).fConst).fText)) ((za x27).fKids)))]:List zc))))]:List zc)).length))] [.box (zc2 a0) false,bR 49 8 zb (y15++([(zf (zj.mk 7 0 0 (zi.mk 0 0 0 ByteArray.empty) (some ([(zf (zj.mk ((za x25).fKind) ((za x25).fRel) ((za x25).fCol) (zi.mk (((za x25).fConst).fKind) (((za x25).fConst).fInt) (((za x25).fConst).fFloat) (((za x25).fConst).fText)) ((za x25).fKids))),(zf (zj.mk ((za x27).fKind) ((za x27).fRel) ((za x27).fCol) (zi.mk (((za x27).fConst).fKind) (((za x27).fConst).fInt) (((za x27).fConst).fFloat) (((za x27).fConst).fText)) ((za x27).fKids)))]:List zc))))]:List zc)) 0 0,bR 49 8 zb ([(zf (zj.mk ((za x25).fKind) ((za x25).fRel) ((za x25).fCol) (zi.mk (((za x25).fConst).fKind) (((za x25).fConst).fInt) (((za x25).fConst).fFloat) (((za x25).fConst).fText)) ((za x25).fKids))),(zf (zj.mk ((za x27).fKind) ((za x27).fRel) ((za x27).fCol) (zi.mk (((za x27).fConst).fKind) (((za x27).fConst).fInt) (((za x27).fConst).fFloat) (((za x27).fConst).fText)) ((za x27).fKids)))]:List zc) 0 (max 0 (([(zf (zj.mk ((za x25).fKind) ((za x25).fRel) ((za x25).fCol) (zi.mk (((za x25).fConst).fKind) (((za x25).fConst).fInt) (((za x25).fConst).fFloat) (((za x25).fConst).fText)) ((za x25).fKids))),(zf (zj.mk ((za x27).fKind) ((za x27).fRel) ((za x27).fCol) (zi.mk (((za x27).fConst).fKind) (((za x27).fConst).fInt) (((za x27).fConst).fFloat) (((za x27).fConst).fText)) ((za x27).fKids)))]:List zc).map zb).length),bR 49 8 zb ([(zf (zj.mk 7 0 0 (zi.mk 0 0 0 ByteArray.empty) (some ([(zf (zj.mk ((za x25).fKind) ((za x25).fRel) ((za x25).fCol) (zi.mk (((za x25).fConst).fKind) (((za x25).fConst).fInt) (((za x25).fConst).fFloat) (((za x25).fConst).fText)) ((za x25).fKids))),(zf (zj.mk ((za x27).fKind) ((za x27).fRel) ((za x27).fCol) (zi.mk (((za x27).fConst).fKind) (((za x27).fConst).fInt) (((za x27).fConst).fFloat) (((za x27).fConst).fText)) ((za x27).fKids)))]:List zc))))]:List zc) 0 0] (Z5 (u:=0) (n:=y15.length) (id:=1) zb y15 ([(zf (zj.mk 7 0 0 (zi.mk 0 0 0 ByteArray.empty) (some ([(zf (zj.mk ((za x25).fKind) ((za x25).fRel) ((za x25).fCol) (zi.mk (((za x25).fConst).fKind) (((za x25).fConst).fInt) (((za x25).fConst).fFloat) (((za x25).fConst).fText)) ((za x25).fKids))),(zf (zj.mk ((za x27).fKind) ((za x27).fRel) ((za x27).fCol) (zi.mk (((za x27).fConst).fKind) (((za x27).fConst).fInt) (((za x27).fConst).fFloat) (((za x27).fConst).fText)) ((za x27).fKids)))]:List zc))))]:List zc) (b:=88) t23 t49 rfl rfl rfl Za rfl h29 rfl rfl (Nat.zero_le _) (show zT (aR 3 8 1) _=some (([(zf (zj.mk 7 0 0 (zi.mk 0 0 0 ByteArray.empty) (some ([(zf (zj.mk ((za x25).fKind) ((za x25).fRel) ((za x25).fCol) (zi.mk (((za x25).fConst).fKind) (((za x25).fConst).fInt) (((za x25).fConst).fFloat) (((za x25).fConst).fText)) ((za x25).fKids))),(zf (zj.mk ((za x27).fKind) ((za x27).fRel) ((za x27).fCol) (zi.mk (((za x27).fConst).fKind) (((za x27).fConst).fInt) (((za x27).fConst).fFloat) (((za x27).fConst).fText)) ((za x27).fKids)))]:List zc))))]:List zc).map zb) from by kernel_rfl) (by kernel_rfl)) (by kernel_rfl) (shd 1 [(3,aR 1 8 ((y15++([(zf (zj.mk 7 0 0 (zi.mk 0 0 0 ByteArray.empty) (some ([(zf (zj.mk ((za x25).fKind) ((za x25).fRel) ((za x25).fCol) (zi.mk (((za x25).fConst).fKind) (((za x25).fConst).fInt) (((za x25).fConst).fFloat) (((za x25).fConst).fText)) ((za x25).fKids))),(zf (zj.mk ((za x27).fKind) ((za x27).fRel) ((za x27).fCol) (zi.mk (((za x27).fConst).fKind) (((za x27).fConst).fInt) (((za x27).fConst).fFloat) (((za x27).fConst).fText)) ((za x27).fKids)))]:List zc))))]:List zc)).length))] (by kernel_rfl) (find [(1,.ptr 0 0),(3,aR 1 8 ((y15++([(zf (zj.mk 7 0 0 (zi.mk 0 0 0 ByteArray.empty) (some ([(zf (zj.mk ((za x25).fKind) ((za x25).fRel) ((za x25).fCol) (zi.mk (((za x25).fConst).fKind) (((za x25).fConst).fInt) (((za x25).fConst).fFloat) (((za x25).fConst).fText)) ((za x25).fKids))),(zf (zj.mk ((za x27).fKind) ((za x27).fRel) ((za x27).fCol) (zi.mk (((za x27).fConst).fKind) (((za x27).fConst).fInt) (((za x27).fConst).fFloat) (((za x27).fConst).fText)) ((za x27).fKids)))]:List zc))))]:List zc)).length)),(5,aI y16)] rfl (by kernel_rfl) (by kernel_rfl) (dn [(1,.ptr 0 0),(3,aR 1 8 ((y15++([(zf (zj.mk 7 0 0 (zi.mk 0 0 0 ByteArray.empty) (some ([(zf (zj.mk ((za x25).fKind) ((za x25).fRel) ((za x25).fCol) (zi.mk (((za x25).fConst).fKind) (((za x25).fConst).fInt) (((za x25).fConst).fFloat) (((za x25).fConst).fText)) ((za x25).fKids))),(zf (zj.mk ((za x27).fKind) ((za x27).fRel) ((za x27).fCol) (zi.mk (((za x27).fConst).fKind) (((za x27).fConst).fInt) (((za x27).fConst).fFloat) (((za x27).fConst).fText)) ((za x27).fKids)))]:List zc))))]:List zc)).length)),(5,aI (IntKind.wrap .i64 (y16+1)))] ?_)))
        exact ⟨_,_,Zh [(1,.ptr 0 0),(3,aR 1 8 ((y15++([(zf (zj.mk 7 0 0 (zi.mk 0 0 0 ByteArray.empty) (some ([(zf (zj.mk ((za x25).fKind) ((za x25).fRel) ((za x25).fCol) (zi.mk (((za x25).fConst).fKind) (((za x25).fConst).fInt) (((za x25).fConst).fFloat) (((za x25).fConst).fText)) ((za x25).fKids))),(zf (zj.mk ((za x27).fKind) ((za x27).fRel) ((za x27).fCol) (zi.mk (((za x27).fConst).fKind) (((za x27).fConst).fInt) (((za x27).fConst).fFloat) (((za x27).fConst).fText)) ((za x27).fKids)))]:List zc))))]:List zc)).length)),(5,aI (IntKind.wrap .i64 (y16+1)))] [.box (zc2 a0) false,bR 49 8 zb (y15++([(zf (zj.mk 7 0 0 (zi.mk 0 0 0 ByteArray.empty) (some ([(zf (zj.mk ((za x25).fKind) ((za x25).fRel) ((za x25).fCol) (zi.mk (((za x25).fConst).fKind) (((za x25).fConst).fInt) (((za x25).fConst).fFloat) (((za x25).fConst).fText)) ((za x25).fKids))),(zf (zj.mk ((za x27).fKind) ((za x27).fRel) ((za x27).fCol) (zi.mk (((za x27).fConst).fKind) (((za x27).fConst).fInt) (((za x27).fConst).fFloat) (((za x27).fConst).fText)) ((za x27).fKids)))]:List zc))))]:List zc)) 0 0] (by kernel_rfl),.inr (⟨(y15++([(zf (zj.mk 7 0 0 (zi.mk 0 0 0 ByteArray.empty) (some ([(zf (zj.mk ((za x25).fKind) ((za x25).fRel) ((za x25).fCol) (zi.mk (((za x25).fConst).fKind) (((za x25).fConst).fInt) (((za x25).fConst).fFloat) (((za x25).fConst).fText)) ((za x25).fKids))),(zf (zj.mk ((za x27).fKind) ((za x27).fRel) ((za x27).fCol) (zi.mk (((za x27).fConst).fKind) (((za x27).fConst).fInt) (((za x27).fConst).fFloat) (((za x27).fConst).fText)) ((za x27).fKids)))]:List zc))))]:List zc)),(IntKind.wrap .i64 (y16+1)),hm,rfl,rfl⟩)⟩
       ·
        refine c0 h24 (wp_exit ?_)
        exact .inr (⟨y15,aI y16,aB ((((a0.fKind == 3) || (a0.fKind == 4)) && (decide (y16 < ((sll a0.fLeft).length:Int)))) && (decide (y16 < ((sll a0.fRight).length:Int)))),hm,(Zk (by kernel_rfl)),rfl⟩)
     ·
      subst hk7
      obtain ⟨k35,hk35,hm⟩:=zz hm
      refine mid (fun t H=>(∃ (y30:(List zc)) (y31:Bool) (y32:Int) (g33:Nat),k35 y30=some r∧t=mk 65 [(1,.ptr 0 0),(3,aR 1 8 g33),(5,aI y32),(46,aB y31)]∧H=[.box (zc2 a0) false,bR 49 8 zb y30 0 0]∧y30.length=g33)) ?_ ?_
      ·
       rintro _ _ ⟨y30,y31,y32,g33,hm,rfl,rfl,q34⟩
       subst hk35
       refine sq (dn [(2,aR 1 8 g33)] (wp_ret ?_))
       obtain rfl:=Option.some.inj hm
       exact abP (v:=aR 1 8 g33) trivial rfl (by kernel_rfl) (af0 (ZO (n:=g33) (id:=1) (l:=y30) (R:=zb) rfl (by omega) (Nat.zero_le _)))
      refine sq (dn [(1,.ptr 0 0),(3,aR 1 8 ((sll a0.fWhere).length)),(5,aI 0)] (bq ?_))
      refine ZY (fun mm t H=>(∃ (y40:(List zc)) (y41:Int) (g42:Nat),ZC n a0 k35 mm y40 y41=some r∧t=mk 65 [(1,.ptr 0 0),(3,aR 1 8 g42),(5,aI y41)]∧H=[.box (zc2 a0) false,bR 49 8 zb y40 0 0]∧y40.length=g42)) (⟨y5,0,(sll a0.fWhere).length,hm,rfl,rfl,(by first | rfl | assumption | omega | (simp only [List.length_set,List.length_append,List.length_cons,List.length_nil,List.length_replicate,List.length_drop] at * <;> omega))⟩) ?_ ?_
      · rintro _ _ ⟨y40,y41,g42,hm,_⟩; exact nomatch hm
      rintro m44 _ _ ⟨y40,y41,g42,hm,rfl,rfl,q43⟩
      simp only [ZC] at hm
      refine sq (sq (rg (s1 4 [(28,aB (a0.fKind == 3)),(27,aB (a0.fKind == 3)),(26,aI a0.fKind),(25,.ptr 0 0)] ?_)))
      refine segP (a0.fKind == 3) [28,27] (fun b=>[(32,aB (b || (a0.fKind == 4))),(31,ifA b (.undef) (aB (a0.fKind == 4))),(30,ifA b (.undef) (aI a0.fKind)),(29,ifA b (.undef) (.ptr 0 0))]) 4 (by kernel_rfl) (by kernel_rfl) (by kernel_rfl) (s1 1 [(33,aB ((a0.fKind == 3) || (a0.fKind == 4)))] ?_)
      refine seg ((a0.fKind == 3) || (a0.fKind == 4)) [33,32] (fun b=>[(39,aB (b && (decide (y41 < ((sll a0.fLeft).length:Int))))),(38,ifA b (aB (decide (y41 < ((sll a0.fLeft).length:Int)))) (.undef)),(37,ifA b (aI ((sll a0.fLeft).length:Int)) (.undef)),(36,ifA b (.pv (zh zb a0.fLeft)) (.undef)),(35,ifA b (.ptr 0 3) (.undef)),(34,ifA b (aI y41) (.undef))]) 15 (by kernel_rfl) ?_ ?_ ?_
      ·
       intro Q h
       refine s1 3 [(36,.pv (zh zb a0.fLeft)),(35,.ptr 0 3),(34,aI y41)] (dv 37 (v:=aI ((sll a0.fLeft).length:Int)) (zy zb a0.fLeft t23 (by kernel_rfl)) (by kernel_rfl) (s1 2 [(39,aB (decide (y41 < ((sll a0.fLeft).length:Int)))),(38,aB (decide (y41 < ((sll a0.fLeft).length:Int))))] ?_))
       exact ZB (by kernel_rfl) (by kernel_rfl) h
      ·
       intro Q h
       refine s1 6 [(39,aB false),(38,.undef),(37,.undef),(36,.undef),(35,.undef),(34,.undef)] ?_
       exact ZB (by kernel_rfl) (by kernel_rfl) h
      refine s1 1 [(40,aB (((a0.fKind == 3) || (a0.fKind == 4)) && (decide (y41 < ((sll a0.fLeft).length:Int)))))] ?_
      refine seg (((a0.fKind == 3) || (a0.fKind == 4)) && (decide (y41 < ((sll a0.fLeft).length:Int)))) [40,39] (fun b=>[(46,aB (b && (decide (y41 < ((sll a0.fRight).length:Int))))),(45,ifA b (aB (decide (y41 < ((sll a0.fRight).length:Int)))) (.undef)),(44,ifA b (aI ((sll a0.fRight).length:Int)) (.undef)),(43,ifA b (.pv (zh zb a0.fRight)) (.undef)),(42,ifA b (.ptr 0 4) (.undef)),(41,ifA b (aI y41) (.undef))]) 22 (by kernel_rfl) ?_ ?_ ?_
      ·
       intro Q h
       refine s1 3 [(43,.pv (zh zb a0.fRight)),(42,.ptr 0 4),(41,aI y41)] (dv 44 (v:=aI ((sll a0.fRight).length:Int)) (zy zb a0.fRight t23 (by kernel_rfl)) (by kernel_rfl) (s1 2 [(46,aB (decide (y41 < ((sll a0.fRight).length:Int)))),(45,aB (decide (y41 < ((sll a0.fRight).length:Int))))] ?_))
       exact ZB (by kernel_rfl) (by kernel_rfl) h
      ·
       intro Q h
       refine s1 6 [(46,aB false),(45,.undef),(44,.undef),(43,.undef),(42,.undef),(41,.undef)] ?_
       exact ZB (by kernel_rfl) (by kernel_rfl) h
      refine fin [(1,.ptr 0 0),(3,aR 1 8 g42),(5,aI y41),(46,aB ((((a0.fKind == 3) || (a0.fKind == 4)) && (decide (y41 < ((sll a0.fLeft).length:Int)))) && (decide (y41 < ((sll a0.fRight).length:Int)))))] rfl (by kernel_rfl) ?_
      rcases zo hm with ⟨h45,hm⟩ | ⟨h45,hm⟩
      ·
       refine c1 h45 (wp_skip (sq (bq (rgd (shd 4 [(52,aI y41),(51,.pv (zh zb a0.fLeft)),(50,.ptr 0 3),(49,aR 1 8 g42)] (by kernel_rfl) ?_)))))
       obtain ⟨x46,h47,hm⟩:=bs hm
       refine dvd 53 (v:=.pv (.ptr (zC (za x46)) 0)) (Zd zb a0.fLeft .i64 t23 t49 h47 (zx x46) rfl (by kernel_rfl)) (by kernel_rfl) (shd 4 [(57,aI y41),(56,.pv (zh zb a0.fRight)),(55,.ptr 0 4),(54,.agg (zc8 x46))] (by kernel_rfl) ?_)
       obtain ⟨x48,h49,hm⟩:=bs hm
       refine dvd 58 (v:=.pv (.ptr (zC (za x48)) 0)) (Zd zb a0.fRight .i64 t23 t49 h49 (zx x48) rfl (by kernel_rfl)) (by kernel_rfl) (std 3 [(61,.agg zc9),(60,aR 2 8 2),(59,.agg (zc8 x48))] [.box (zc2 a0) false,bR 49 8 zb y40 0 0,bR 49 8 zb ([(zf (zj.mk ((za x46).fKind) ((za x46).fRel) ((za x46).fCol) (zi.mk (((za x46).fConst).fKind) (((za x46).fConst).fInt) (((za x46).fConst).fFloat) (((za x46).fConst).fText)) ((za x46).fKids))),(zf (zj.mk ((za x48).fKind) ((za x48).fRel) ((za x48).fCol) (zi.mk (((za x48).fConst).fKind) (((za x48).fConst).fInt) (((za x48).fConst).fFloat) (((za x48).fConst).fText)) ((za x48).fKids)))]:List zc) 0 0] (by kernel_rfl) (dOd [(62,aR 3 8 1)] [.box (zc2 a0) false,bR 49 8 zb y40 0 0,bR 49 8 zb ([(zf (zj.mk ((za x46).fKind) ((za x46).fRel) ((za x46).fCol) (zi.mk (((za x46).fConst).fKind) (((za x46).fConst).fInt) (((za x46).fConst).fFloat) (((za x46).fConst).fText)) ((za x46).fKids))),(zf (zj.mk ((za x48).fKind) ((za x48).fRel) ((za x48).fCol) (zi.mk (((za x48).fConst).fKind) (((za x48).fConst).fInt) (((za x48).fConst).fFloat) (((za x48).fConst).fText)) ((za x48).fKids)))]:List zc) 0 (max 0 (([(zf (zj.mk ((za x46).fKind) ((za x46).fRel) ((za x46).fCol) (zi.mk (((za x46).fConst).fKind) (((za x46).fConst).fInt) (((za x46).fConst).fFloat) (((za x46).fConst).fText)) ((za x46).fKids))),(zf (zj.mk ((za x48).fKind) ((za x48).fRel) ((za x48).fCol) (zi.mk (((za x48).fConst).fKind) (((za x48).fConst).fInt) (((za x48).fConst).fFloat) (((za x48).fConst).fText)) ((za x48).fKids)))]:List zc).map zb).length),bR 49 8 zb ([(zf (zj.mk 7 0 0 (zi.mk 0 0 0 ByteArray.empty) (some ([(zf (zj.mk ((za x46).fKind) ((za x46).fRel) ((za x46).fCol) (zi.mk (((za x46).fConst).fKind) (((za x46).fConst).fInt) (((za x46).fConst).fFloat) (((za x46).fConst).fText)) ((za x46).fKids))),(zf (zj.mk ((za x48).fKind) ((za x48).fRel) ((za x48).fCol) (zi.mk (((za x48).fConst).fKind) (((za x48).fConst).fInt) (((za x48).fConst).fFloat) (((za x48).fConst).fText)) ((za x48).fKids)))]:List zc))))]:List zc) 0 0] (qT (nid:=0) (t:=23) (len:=1) (is:=[0]) (vs:=[.agg zc9]) (ps:=[.agg (zc16 x46 x48)]) (R:=[2]) (e:=⟨aR 3 8 1,[],[bR 49 8 zb ([(zf (zj.mk 7 0 0 (zi.mk 0 0 0 ByteArray.empty) (some ([(zf (zj.mk ((za x46).fKind) ((za x46).fRel) ((za x46).fCol) (zi.mk (((za x46).fConst).fKind) (((za x46).fConst).fInt) (((za x46).fConst).fFloat) (((za x46).fConst).fText)) ((za x46).fKids))),(zf (zj.mk ((za x48).fKind) ((za x48).fRel) ((za x48).fCol) (zi.mk (((za x48).fConst).fKind) (((za x48).fConst).fInt) (((za x48).fConst).fFloat) (((za x48).fConst).fText)) ((za x48).fKids)))]:List zc))))]:List zc) 0 0]⟩) (by kernel_rfl) (by kernel_rfl) (by kernel_rfl) (by kernel_rfl)) (by kernel_rfl) ?_))
       obtain ⟨_,h50,hm⟩:=bs hm
       refine dOd [(63,aR 1 8 ((y40++([(zf (zj.mk 7 0 0 (zi.mk 0 0 0 ByteArray.empty) (some ([(zf (zj.mk ((za x46).fKind) ((za x46).fRel) ((za x46).fCol) (zi.mk (((za x46).fConst).fKind) (((za x46).fConst).fInt) (((za x46).fConst).fFloat) (((za x46).fConst).fText)) ((za x46).fKids))),(zf (zj.mk ((za x48).fKind) ((za x48).fRel) ((za x48).fCol) (zi.mk (((za x48).fConst).fKind) (((za x48).fConst).fInt) (((za x48).fConst).fFloat) (((za x48).fConst).fText)) ((za x48).fKids)))]:List zc))))]:List zc)).length))] [.box (zc2 a0) false,bR 49 8 zb (y40++([(zf (zj.mk 7 0 0 (zi.mk 0 0 0 ByteArray.empty) (some ([(zf (zj.mk ((za x46).fKind) ((za x46).fRel) ((za x46).fCol) (zi.mk (((za x46).fConst).fKind) (((za x46).fConst).fInt) (((za x46).fConst).fFloat) (((za x46).fConst).fText)) ((za x46).fKids))),(zf (zj.mk ((za x48).fKind) ((za x48).fRel) ((za x48).fCol) (zi.mk (((za x48).fConst).fKind) (((za x48).fConst).fInt) (((za x48).fConst).fFloat) (((za x48).fConst).fText)) ((za x48).fKids)))]:List zc))))]:List zc)) 0 0,bR 49 8 zb ([(zf (zj.mk ((za x46).fKind) ((za x46).fRel) ((za x46).fCol) (zi.mk (((za x46).fConst).fKind) (((za x46).fConst).fInt) (((za x46).fConst).fFloat) (((za x46).fConst).fText)) ((za x46).fKids))),(zf (zj.mk ((za x48).fKind) ((za x48).fRel) ((za x48).fCol) (zi.mk (((za x48).fConst).fKind) (((za x48).fConst).fInt) (((za x48).fConst).fFloat) (((za x48).fConst).fText)) ((za x48).fKids)))]:List zc) 0 (max 0 (([(zf (zj.mk ((za x46).fKind) ((za x46).fRel) ((za x46).fCol) (zi.mk (((za x46).fConst).fKind) (((za x46).fConst).fInt) (((za x46).fConst).fFloat) (((za x46).fConst).fText)) ((za x46).fKids))),(zf (zj.mk ((za x48).fKind) ((za x48).fRel) ((za x48).fCol) (zi.mk (((za x48).fConst).fKind) (((za x48).fConst).fInt) (((za x48).fConst).fFloat) (((za x48).fConst).fText)) ((za x48).fKids)))]:List zc).map zb).length),bR 49 8 zb ([(zf (zj.mk 7 0 0 (zi.mk 0 0 0 ByteArray.empty) (some ([(zf (zj.mk ((za x46).fKind) ((za x46).fRel) ((za x46).fCol) (zi.mk (((za x46).fConst).fKind) (((za x46).fConst).fInt) (((za x46).fConst).fFloat) (((za x46).fConst).fText)) ((za x46).fKids))),(zf (zj.mk ((za x48).fKind) ((za x48).fRel) ((za x48).fCol) (zi.mk (((za x48).fConst).fKind) (((za x48).fConst).fInt) (((za x48).fConst).fFloat) (((za x48).fConst).fText)) ((za x48).fKids)))]:List zc))))]:List zc) 0 0] (Z5 (u:=0) (n:=g42) (id:=1) zb y40 ([(zf (zj.mk 7 0 0 (zi.mk 0 0 0 ByteArray.empty) (some ([(zf (zj.mk ((za x46).fKind) ((za x46).fRel) ((za x46).fCol) (zi.mk (((za x46).fConst).fKind) (((za x46).fConst).fInt) (((za x46).fConst).fFloat) (((za x46).fConst).fText)) ((za x46).fKids))),(zf (zj.mk ((za x48).fKind) ((za x48).fRel) ((za x48).fCol) (zi.mk (((za x48).fConst).fKind) (((za x48).fConst).fInt) (((za x48).fConst).fFloat) (((za x48).fConst).fText)) ((za x48).fKids)))]:List zc))))]:List zc) (b:=88) t23 t49 rfl rfl rfl Za rfl h50 rfl (by omega) (Nat.zero_le _) (show zT (aR 3 8 1) _=some (([(zf (zj.mk 7 0 0 (zi.mk 0 0 0 ByteArray.empty) (some ([(zf (zj.mk ((za x46).fKind) ((za x46).fRel) ((za x46).fCol) (zi.mk (((za x46).fConst).fKind) (((za x46).fConst).fInt) (((za x46).fConst).fFloat) (((za x46).fConst).fText)) ((za x46).fKids))),(zf (zj.mk ((za x48).fKind) ((za x48).fRel) ((za x48).fCol) (zi.mk (((za x48).fConst).fKind) (((za x48).fConst).fInt) (((za x48).fConst).fFloat) (((za x48).fConst).fText)) ((za x48).fKids)))]:List zc))))]:List zc).map zb) from by kernel_rfl) (by kernel_rfl)) (by kernel_rfl) (shd 1 [(3,aR 1 8 ((y40++([(zf (zj.mk 7 0 0 (zi.mk 0 0 0 ByteArray.empty) (some ([(zf (zj.mk ((za x46).fKind) ((za x46).fRel) ((za x46).fCol) (zi.mk (((za x46).fConst).fKind) (((za x46).fConst).fInt) (((za x46).fConst).fFloat) (((za x46).fConst).fText)) ((za x46).fKids))),(zf (zj.mk ((za x48).fKind) ((za x48).fRel) ((za x48).fCol) (zi.mk (((za x48).fConst).fKind) (((za x48).fConst).fInt) (((za x48).fConst).fFloat) (((za x48).fConst).fText)) ((za x48).fKids)))]:List zc))))]:List zc)).length))] (by kernel_rfl) (find [(1,.ptr 0 0),(3,aR 1 8 ((y40++([(zf (zj.mk 7 0 0 (zi.mk 0 0 0 ByteArray.empty) (some ([(zf (zj.mk ((za x46).fKind) ((za x46).fRel) ((za x46).fCol) (zi.mk (((za x46).fConst).fKind) (((za x46).fConst).fInt) (((za x46).fConst).fFloat) (((za x46).fConst).fText)) ((za x46).fKids))),(zf (zj.mk ((za x48).fKind) ((za x48).fRel) ((za x48).fCol) (zi.mk (((za x48).fConst).fKind) (((za x48).fConst).fInt) (((za x48).fConst).fFloat) (((za x48).fConst).fText)) ((za x48).fKids)))]:List zc))))]:List zc)).length)),(5,aI y41)] rfl (by kernel_rfl) (by kernel_rfl) (dn [(1,.ptr 0 0),(3,aR 1 8 ((y40++([(zf (zj.mk 7 0 0 (zi.mk 0 0 0 ByteArray.empty) (some ([(zf (zj.mk ((za x46).fKind) ((za x46).fRel) ((za x46).fCol) (zi.mk (((za x46).fConst).fKind) (((za x46).fConst).fInt) (((za x46).fConst).fFloat) (((za x46).fConst).fText)) ((za x46).fKids))),(zf (zj.mk ((za x48).fKind) ((za x48).fRel) ((za x48).fCol) (zi.mk (((za x48).fConst).fKind) (((za x48).fConst).fInt) (((za x48).fConst).fFloat) (((za x48).fConst).fText)) ((za x48).fKids)))]:List zc))))]:List zc)).length)),(5,aI (IntKind.wrap .i64 (y41+1)))] ?_)))
       exact ⟨_,_,Zh [(1,.ptr 0 0),(3,aR 1 8 ((y40++([(zf (zj.mk 7 0 0 (zi.mk 0 0 0 ByteArray.empty) (some ([(zf (zj.mk ((za x46).fKind) ((za x46).fRel) ((za x46).fCol) (zi.mk (((za x46).fConst).fKind) (((za x46).fConst).fInt) (((za x46).fConst).fFloat) (((za x46).fConst).fText)) ((za x46).fKids))),(zf (zj.mk ((za x48).fKind) ((za x48).fRel) ((za x48).fCol) (zi.mk (((za x48).fConst).fKind) (((za x48).fConst).fInt) (((za x48).fConst).fFloat) (((za x48).fConst).fText)) ((za x48).fKids)))]:List zc))))]:List zc)).length)),(5,aI (IntKind.wrap .i64 (y41+1)))] [.box (zc2 a0) false,bR 49 8 zb (y40++([(zf (zj.mk 7 0 0 (zi.mk 0 0 0 ByteArray.empty) (some ([(zf (zj.mk ((za x46).fKind) ((za x46).fRel) ((za x46).fCol) (zi.mk (((za x46).fConst).fKind) (((za x46).fConst).fInt) (((za x46).fConst).fFloat) (((za x46).fConst).fText)) ((za x46).fKids))),(zf (zj.mk ((za x48).fKind) ((za x48).fRel) ((za x48).fCol) (zi.mk (((za x48).fConst).fKind) (((za x48).fConst).fInt) (((za x48).fConst).fFloat) (((za x48).fConst).fText)) ((za x48).fKids)))]:List zc))))]:List zc)) 0 0] (by kernel_rfl),⟨(y40++([(zf (zj.mk 7 0 0 (zi.mk 0 0 0 ByteArray.empty) (some ([(zf (zj.mk ((za x46).fKind) ((za x46).fRel) ((za x46).fCol) (zi.mk (((za x46).fConst).fKind) (((za x46).fConst).fInt) (((za x46).fConst).fFloat) (((za x46).fConst).fText)) ((za x46).fKids))),(zf (zj.mk ((za x48).fKind) ((za x48).fRel) ((za x48).fCol) (zi.mk (((za x48).fConst).fKind) (((za x48).fConst).fInt) (((za x48).fConst).fFloat) (((za x48).fConst).fText)) ((za x48).fKids)))]:List zc))))]:List zc)),(IntKind.wrap .i64 (y41+1)),(y40++([(zf (zj.mk 7 0 0 (zi.mk 0 0 0 ByteArray.empty) (some ([(zf (zj.mk ((za x46).fKind) ((za x46).fRel) ((za x46).fCol) (zi.mk (((za x46).fConst).fKind) (((za x46).fConst).fInt) (((za x46).fConst).fFloat) (((za x46).fConst).fText)) ((za x46).fKids))),(zf (zj.mk ((za x48).fKind) ((za x48).fRel) ((za x48).fCol) (zi.mk (((za x48).fConst).fKind) (((za x48).fConst).fInt) (((za x48).fConst).fFloat) (((za x48).fConst).fText)) ((za x48).fKids)))]:List zc))))]:List zc)).length,hm,rfl,rfl,(by first | rfl | assumption | omega | (simp only [List.length_set,List.length_append,List.length_cons,List.length_nil,List.length_replicate,List.length_drop] at * <;> omega))⟩⟩
      ·
       refine c0 h45 (wp_exit ?_)
       exact ⟨y40,((((a0.fKind == 3) || (a0.fKind == 4)) && (decide (y41 < ((sll a0.fLeft).length:Int)))) && (decide (y41 < ((sll a0.fRight).length:Int)))),y41,g42,hm,rfl,rfl,(by first | rfl | assumption | omega | (simp only [List.length_set,List.length_append,List.length_cons,List.length_nil,List.length_replicate,List.length_drop] at * <;> omega))⟩
    refine rg (s1 3 [(23,.pv (zh zb a0.fWhere)),(22,.ptr 0 2),(21,.pv .nils)] ?_)
    rcases zo hm with ⟨h51,hm⟩ | ⟨h51,hm⟩
    ·
     refine dv 24 (v:=.pv .nils) (aja (u:=0) (y:=.pv (zh zb a0.fWhere)) zb (sll a0.fWhere) t23 t49 rfl rfl h51 (acY (R:=zb) (s:=a0.fWhere)) (by kernel_rfl)) (by kernel_rfl) (fq 1 [(1,.ptr 0 0),(3,.pv .nils)] ?_)
     exact .inl ⟨hm,rfl,rfl⟩
    ·
     obtain ⟨_,h52,hm⟩:=bs hm
     refine dO [(24,aR 1 8 ((sll a0.fWhere).length))] [.box (zc2 a0) false,bR 49 8 zb (sll a0.fWhere) 0 0] (qU (u:=0) zb (sll a0.fWhere) (b:=88) t23 t49 rfl rfl rfl Za h51 h52 (acY (R:=zb) (s:=a0.fWhere)) (by kernel_rfl)) (by kernel_rfl) (fq 1 [(1,.ptr 0 0),(3,aR 1 8 ((sll a0.fWhere).length))] ?_)
     exact .inr (⟨(sll a0.fWhere),hm,rfl,rfl,(by first | rfl | assumption | omega | (simp only [List.length_set,List.length_append,List.length_cons,List.length_nil,List.length_replicate,List.length_drop] at * <;> omega))⟩)
   ·
    subst hk4
    obtain ⟨k54,hk54,hm⟩:=zz hm
    refine mid (fun t H=>(∃ (y53:(List zc)),k54 y53=some r∧t=mk 65 [(1,.ptr 0 0),(3,aR 1 8 y53.length)]∧H=[.box (zc2 a0) false,bR 49 8 zb y53 0 0])) ?_ ?_
    ·
     rintro _ _ ⟨y53,hm,rfl,rfl⟩
     subst hk54
     obtain ⟨k58,hk58,hm⟩:=zz hm
     refine mid (fun t H=>(∃ (y55:(List zc)) (y56:Bool) (y57:Int),k58 y55=some r∧t=mk 65 [(1,.ptr 0 0),(3,aR 1 8 y55.length),(5,aI y57),(46,aB y56)]∧H=[.box (zc2 a0) false,bR 49 8 zb y55 0 0])) ?_ ?_
     ·
      rintro _ _ ⟨y55,y56,y57,hm,rfl,rfl⟩
      subst hk58
      refine sq (dn [(2,aR 1 8 y55.length)] (wp_ret ?_))
      obtain rfl:=Option.some.inj hm
      exact abP (v:=aR 1 8 y55.length) trivial rfl (by kernel_rfl) (af0 (ZO (n:=y55.length) (id:=1) (l:=y55) (R:=zb) rfl rfl (Nat.zero_le _)))
     refine sq (dn [(1,.ptr 0 0),(3,aR 1 8 y53.length),(5,aI 0)] (bq ?_))
     refine ZY (fun mm t H=>(∃ (y61:(List zc)) (y62:Int),Zq n a0 k58 mm y61 y62=some r∧t=mk 65 [(1,.ptr 0 0),(3,aR 1 8 y61.length),(5,aI y62)]∧H=[.box (zc2 a0) false,bR 49 8 zb y61 0 0])) (⟨y53,0,hm,rfl,rfl⟩) ?_ ?_
     · rintro _ _ ⟨y61,y62,hm,_⟩; exact nomatch hm
     rintro m63 _ _ ⟨y61,y62,hm,rfl,rfl⟩
     simp only [Zq] at hm
     refine sq (sq (rg (s1 4 [(28,aB (a0.fKind == 3)),(27,aB (a0.fKind == 3)),(26,aI a0.fKind),(25,.ptr 0 0)] ?_)))
     refine segP (a0.fKind == 3) [28,27] (fun b=>[(32,aB (b || (a0.fKind == 4))),(31,ifA b (.undef) (aB (a0.fKind == 4))),(30,ifA b (.undef) (aI a0.fKind)),(29,ifA b (.undef) (.ptr 0 0))]) 4 (by kernel_rfl) (by kernel_rfl) (by kernel_rfl) (s1 1 [(33,aB ((a0.fKind == 3) || (a0.fKind == 4)))] ?_)
     refine seg ((a0.fKind == 3) || (a0.fKind == 4)) [33,32] (fun b=>[(39,aB (b && (decide (y62 < ((sll a0.fLeft).length:Int))))),(38,ifA b (aB (decide (y62 < ((sll a0.fLeft).length:Int)))) (.undef)),(37,ifA b (aI ((sll a0.fLeft).length:Int)) (.undef)),(36,ifA b (.pv (zh zb a0.fLeft)) (.undef)),(35,ifA b (.ptr 0 3) (.undef)),(34,ifA b (aI y62) (.undef))]) 15 (by kernel_rfl) ?_ ?_ ?_
     ·
      intro Q h
      refine s1 3 [(36,.pv (zh zb a0.fLeft)),(35,.ptr 0 3),(34,aI y62)] (dv 37 (v:=aI ((sll a0.fLeft).length:Int)) (zy zb a0.fLeft t23 (by kernel_rfl)) (by kernel_rfl) (s1 2 [(39,aB (decide (y62 < ((sll a0.fLeft).length:Int)))),(38,aB (decide (y62 < ((sll a0.fLeft).length:Int))))] ?_))
      exact ZB (by kernel_rfl) (by kernel_rfl) h
     ·
      intro Q h
      refine s1 6 [(39,aB false),(38,.undef),(37,.undef),(36,.undef),(35,.undef),(34,.undef)] ?_
      exact ZB (by kernel_rfl) (by kernel_rfl) h
     refine s1 1 [(40,aB (((a0.fKind == 3) || (a0.fKind == 4)) && (decide (y62 < ((sll a0.fLeft).length:Int)))))] ?_
     refine seg (((a0.fKind == 3) || (a0.fKind == 4)) && (decide (y62 < ((sll a0.fLeft).length:Int)))) [40,39] (fun b=>[(46,aB (b && (decide (y62 < ((sll a0.fRight).length:Int))))),(45,ifA b (aB (decide (y62 < ((sll a0.fRight).length:Int)))) (.undef)),(44,ifA b (aI ((sll a0.fRight).length:Int)) (.undef)),(43,ifA b (.pv (zh zb a0.fRight)) (.undef)),(42,ifA b (.ptr 0 4) (.undef)),(41,ifA b (aI y62) (.undef))]) 22 (by kernel_rfl) ?_ ?_ ?_
     ·
      intro Q h
      refine s1 3 [(43,.pv (zh zb a0.fRight)),(42,.ptr 0 4),(41,aI y62)] (dv 44 (v:=aI ((sll a0.fRight).length:Int)) (zy zb a0.fRight t23 (by kernel_rfl)) (by kernel_rfl) (s1 2 [(46,aB (decide (y62 < ((sll a0.fRight).length:Int)))),(45,aB (decide (y62 < ((sll a0.fRight).length:Int))))] ?_))
      exact ZB (by kernel_rfl) (by kernel_rfl) h
     ·
      intro Q h
      refine s1 6 [(46,aB false),(45,.undef),(44,.undef),(43,.undef),(42,.undef),(41,.undef)] ?_
      exact ZB (by kernel_rfl) (by kernel_rfl) h
     refine fin [(1,.ptr 0 0),(3,aR 1 8 y61.length),(5,aI y62),(46,aB ((((a0.fKind == 3) || (a0.fKind == 4)) && (decide (y62 < ((sll a0.fLeft).length:Int)))) && (decide (y62 < ((sll a0.fRight).length:Int)))))] rfl (by kernel_rfl) ?_
     rcases zo hm with ⟨h64,hm⟩ | ⟨h64,hm⟩
     ·
      refine c1 h64 (wp_skip (sq (bq (rgd (shd 4 [(52,aI y62),(51,.pv (zh zb a0.fLeft)),(50,.ptr 0 3),(49,aR 1 8 y61.length)] (by kernel_rfl) ?_)))))
      obtain ⟨x65,h66,hm⟩:=bs hm
      refine dvd 53 (v:=.pv (.ptr (zC (za x65)) 0)) (Zd zb a0.fLeft .i64 t23 t49 h66 (zx x65) rfl (by kernel_rfl)) (by kernel_rfl) (shd 4 [(57,aI y62),(56,.pv (zh zb a0.fRight)),(55,.ptr 0 4),(54,.agg (zc8 x65))] (by kernel_rfl) ?_)
      obtain ⟨x67,h68,hm⟩:=bs hm
      refine dvd 58 (v:=.pv (.ptr (zC (za x67)) 0)) (Zd zb a0.fRight .i64 t23 t49 h68 (zx x67) rfl (by kernel_rfl)) (by kernel_rfl) (std 3 [(61,.agg zc9),(60,aR 2 8 2),(59,.agg (zc8 x67))] [.box (zc2 a0) false,bR 49 8 zb y61 0 0,bR 49 8 zb ([(zf (zj.mk ((za x65).fKind) ((za x65).fRel) ((za x65).fCol) (zi.mk (((za x65).fConst).fKind) (((za x65).fConst).fInt) (((za x65).fConst).fFloat) (((za x65).fConst).fText)) ((za x65).fKids))),(zf (zj.mk ((za x67).fKind) ((za x67).fRel) ((za x67).fCol) (zi.mk (((za x67).fConst).fKind) (((za x67).fConst).fInt) (((za x67).fConst).fFloat) (((za x67).fConst).fText)) ((za x67).fKids)))]:List zc) 0 0] (by kernel_rfl) (dOd [(62,aR 3 8 1)] [.box (zc2 a0) false,bR 49 8 zb y61 0 0,bR 49 8 zb ([(zf (zj.mk ((za x65).fKind) ((za x65).fRel) ((za x65).fCol) (zi.mk (((za x65).fConst).fKind) (((za x65).fConst).fInt) (((za x65).fConst).fFloat) (((za x65).fConst).fText)) ((za x65).fKids))),(zf (zj.mk ((za x67).fKind) ((za x67).fRel) ((za x67).fCol) (zi.mk (((za x67).fConst).fKind) (((za x67).fConst).fInt) (((za x67).fConst).fFloat) (((za x67).fConst).fText)) ((za x67).fKids)))]:List zc) 0 (max 0 (([(zf (zj.mk ((za x65).fKind) ((za x65).fRel) ((za x65).fCol) (zi.mk (((za x65).fConst).fKind) (((za x65).fConst).fInt) (((za x65).fConst).fFloat) (((za x65).fConst).fText)) ((za x65).fKids))),(zf (zj.mk ((za x67).fKind) ((za x67).fRel) ((za x67).fCol) (zi.mk (((za x67).fConst).fKind) (((za x67).fConst).fInt) (((za x67).fConst).fFloat) (((za x67).fConst).fText)) ((za x67).fKids)))]:List zc).map zb).length),bR 49 8 zb ([(zf (zj.mk 7 0 0 (zi.mk 0 0 0 ByteArray.empty) (some ([(zf (zj.mk ((za x65).fKind) ((za x65).fRel) ((za x65).fCol) (zi.mk (((za x65).fConst).fKind) (((za x65).fConst).fInt) (((za x65).fConst).fFloat) (((za x65).fConst).fText)) ((za x65).fKids))),(zf (zj.mk ((za x67).fKind) ((za x67).fRel) ((za x67).fCol) (zi.mk (((za x67).fConst).fKind) (((za x67).fConst).fInt) (((za x67).fConst).fFloat) (((za x67).fConst).fText)) ((za x67).fKids)))]:List zc))))]:List zc) 0 0] (qT (nid:=0) (t:=23) (len:=1) (is:=[0]) (vs:=[.agg zc9]) (ps:=[.agg (zc16 x65 x67)]) (R:=[2]) (e:=⟨aR 3 8 1,[],[bR 49 8 zb ([(zf (zj.mk 7 0 0 (zi.mk 0 0 0 ByteArray.empty) (some ([(zf (zj.mk ((za x65).fKind) ((za x65).fRel) ((za x65).fCol) (zi.mk (((za x65).fConst).fKind) (((za x65).fConst).fInt) (((za x65).fConst).fFloat) (((za x65).fConst).fText)) ((za x65).fKids))),(zf (zj.mk ((za x67).fKind) ((za x67).fRel) ((za x67).fCol) (zi.mk (((za x67).fConst).fKind) (((za x67).fConst).fInt) (((za x67).fConst).fFloat) (((za x67).fConst).fText)) ((za x67).fKids)))]:List zc))))]:List zc) 0 0]⟩) (by kernel_rfl) (by kernel_rfl) (by kernel_rfl) (by kernel_rfl)) (by kernel_rfl) ?_))
      obtain ⟨_,h69,hm⟩:=bs hm
      refine dOd [(63,aR 1 8 ((y61++([(zf (zj.mk 7 0 0 (zi.mk 0 0 0 ByteArray.empty) (some ([(zf (zj.mk ((za x65).fKind) ((za x65).fRel) ((za x65).fCol) (zi.mk (((za x65).fConst).fKind) (((za x65).fConst).fInt) (((za x65).fConst).fFloat) (((za x65).fConst).fText)) ((za x65).fKids))),(zf (zj.mk ((za x67).fKind) ((za x67).fRel) ((za x67).fCol) (zi.mk (((za x67).fConst).fKind) (((za x67).fConst).fInt) (((za x67).fConst).fFloat) (((za x67).fConst).fText)) ((za x67).fKids)))]:List zc))))]:List zc)).length))] [.box (zc2 a0) false,bR 49 8 zb (y61++([(zf (zj.mk 7 0 0 (zi.mk 0 0 0 ByteArray.empty) (some ([(zf (zj.mk ((za x65).fKind) ((za x65).fRel) ((za x65).fCol) (zi.mk (((za x65).fConst).fKind) (((za x65).fConst).fInt) (((za x65).fConst).fFloat) (((za x65).fConst).fText)) ((za x65).fKids))),(zf (zj.mk ((za x67).fKind) ((za x67).fRel) ((za x67).fCol) (zi.mk (((za x67).fConst).fKind) (((za x67).fConst).fInt) (((za x67).fConst).fFloat) (((za x67).fConst).fText)) ((za x67).fKids)))]:List zc))))]:List zc)) 0 0,bR 49 8 zb ([(zf (zj.mk ((za x65).fKind) ((za x65).fRel) ((za x65).fCol) (zi.mk (((za x65).fConst).fKind) (((za x65).fConst).fInt) (((za x65).fConst).fFloat) (((za x65).fConst).fText)) ((za x65).fKids))),(zf (zj.mk ((za x67).fKind) ((za x67).fRel) ((za x67).fCol) (zi.mk (((za x67).fConst).fKind) (((za x67).fConst).fInt) (((za x67).fConst).fFloat) (((za x67).fConst).fText)) ((za x67).fKids)))]:List zc) 0 (max 0 (([(zf (zj.mk ((za x65).fKind) ((za x65).fRel) ((za x65).fCol) (zi.mk (((za x65).fConst).fKind) (((za x65).fConst).fInt) (((za x65).fConst).fFloat) (((za x65).fConst).fText)) ((za x65).fKids))),(zf (zj.mk ((za x67).fKind) ((za x67).fRel) ((za x67).fCol) (zi.mk (((za x67).fConst).fKind) (((za x67).fConst).fInt) (((za x67).fConst).fFloat) (((za x67).fConst).fText)) ((za x67).fKids)))]:List zc).map zb).length),bR 49 8 zb ([(zf (zj.mk 7 0 0 (zi.mk 0 0 0 ByteArray.empty) (some ([(zf (zj.mk ((za x65).fKind) ((za x65).fRel) ((za x65).fCol) (zi.mk (((za x65).fConst).fKind) (((za x65).fConst).fInt) (((za x65).fConst).fFloat) (((za x65).fConst).fText)) ((za x65).fKids))),(zf (zj.mk ((za x67).fKind) ((za x67).fRel) ((za x67).fCol) (zi.mk (((za x67).fConst).fKind) (((za x67).fConst).fInt) (((za x67).fConst).fFloat) (((za x67).fConst).fText)) ((za x67).fKids)))]:List zc))))]:List zc) 0 0] (Z5 (u:=0) (n:=y61.length) (id:=1) zb y61 ([(zf (zj.mk 7 0 0 (zi.mk 0 0 0 ByteArray.empty) (some ([(zf (zj.mk ((za x65).fKind) ((za x65).fRel) ((za x65).fCol) (zi.mk (((za x65).fConst).fKind) (((za x65).fConst).fInt) (((za x65).fConst).fFloat) (((za x65).fConst).fText)) ((za x65).fKids))),(zf (zj.mk ((za x67).fKind) ((za x67).fRel) ((za x67).fCol) (zi.mk (((za x67).fConst).fKind) (((za x67).fConst).fInt) (((za x67).fConst).fFloat) (((za x67).fConst).fText)) ((za x67).fKids)))]:List zc))))]:List zc) (b:=88) t23 t49 rfl rfl rfl Za rfl h69 rfl rfl (Nat.zero_le _) (show zT (aR 3 8 1) _=some (([(zf (zj.mk 7 0 0 (zi.mk 0 0 0 ByteArray.empty) (some ([(zf (zj.mk ((za x65).fKind) ((za x65).fRel) ((za x65).fCol) (zi.mk (((za x65).fConst).fKind) (((za x65).fConst).fInt) (((za x65).fConst).fFloat) (((za x65).fConst).fText)) ((za x65).fKids))),(zf (zj.mk ((za x67).fKind) ((za x67).fRel) ((za x67).fCol) (zi.mk (((za x67).fConst).fKind) (((za x67).fConst).fInt) (((za x67).fConst).fFloat) (((za x67).fConst).fText)) ((za x67).fKids)))]:List zc))))]:List zc).map zb) from by kernel_rfl) (by kernel_rfl)) (by kernel_rfl) (shd 1 [(3,aR 1 8 ((y61++([(zf (zj.mk 7 0 0 (zi.mk 0 0 0 ByteArray.empty) (some ([(zf (zj.mk ((za x65).fKind) ((za x65).fRel) ((za x65).fCol) (zi.mk (((za x65).fConst).fKind) (((za x65).fConst).fInt) (((za x65).fConst).fFloat) (((za x65).fConst).fText)) ((za x65).fKids))),(zf (zj.mk ((za x67).fKind) ((za x67).fRel) ((za x67).fCol) (zi.mk (((za x67).fConst).fKind) (((za x67).fConst).fInt) (((za x67).fConst).fFloat) (((za x67).fConst).fText)) ((za x67).fKids)))]:List zc))))]:List zc)).length))] (by kernel_rfl) (find [(1,.ptr 0 0),(3,aR 1 8 ((y61++([(zf (zj.mk 7 0 0 (zi.mk 0 0 0 ByteArray.empty) (some ([(zf (zj.mk ((za x65).fKind) ((za x65).fRel) ((za x65).fCol) (zi.mk (((za x65).fConst).fKind) (((za x65).fConst).fInt) (((za x65).fConst).fFloat) (((za x65).fConst).fText)) ((za x65).fKids))),(zf (zj.mk ((za x67).fKind) ((za x67).fRel) ((za x67).fCol) (zi.mk (((za x67).fConst).fKind) (((za x67).fConst).fInt) (((za x67).fConst).fFloat) (((za x67).fConst).fText)) ((za x67).fKids)))]:List zc))))]:List zc)).length)),(5,aI y62)] rfl (by kernel_rfl) (by kernel_rfl) (dn [(1,.ptr 0 0),(3,aR 1 8 ((y61++([(zf (zj.mk 7 0 0 (zi.mk 0 0 0 ByteArray.empty) (some ([(zf (zj.mk ((za x65).fKind) ((za x65).fRel) ((za x65).fCol) (zi.mk (((za x65).fConst).fKind) (((za x65).fConst).fInt) (((za x65).fConst).fFloat) (((za x65).fConst).fText)) ((za x65).fKids))),(zf (zj.mk ((za x67).fKind) ((za x67).fRel) ((za x67).fCol) (zi.mk (((za x67).fConst).fKind) (((za x67).fConst).fInt) (((za x67).fConst).fFloat) (((za x67).fConst).fText)) ((za x67).fKids)))]:List zc))))]:List zc)).length)),(5,aI (IntKind.wrap .i64 (y62+1)))] ?_)))
      exact ⟨_,_,Zh [(1,.ptr 0 0),(3,aR 1 8 ((y61++([(zf (zj.mk 7 0 0 (zi.mk 0 0 0 ByteArray.empty) (some ([(zf (zj.mk ((za x65).fKind) ((za x65).fRel) ((za x65).fCol) (zi.mk (((za x65).fConst).fKind) (((za x65).fConst).fInt) (((za x65).fConst).fFloat) (((za x65).fConst).fText)) ((za x65).fKids))),(zf (zj.mk ((za x67).fKind) ((za x67).fRel) ((za x67).fCol) (zi.mk (((za x67).fConst).fKind) (((za x67).fConst).fInt) (((za x67).fConst).fFloat) (((za x67).fConst).fText)) ((za x67).fKids)))]:List zc))))]:List zc)).length)),(5,aI (IntKind.wrap .i64 (y62+1)))] [.box (zc2 a0) false,bR 49 8 zb (y61++([(zf (zj.mk 7 0 0 (zi.mk 0 0 0 ByteArray.empty) (some ([(zf (zj.mk ((za x65).fKind) ((za x65).fRel) ((za x65).fCol) (zi.mk (((za x65).fConst).fKind) (((za x65).fConst).fInt) (((za x65).fConst).fFloat) (((za x65).fConst).fText)) ((za x65).fKids))),(zf (zj.mk ((za x67).fKind) ((za x67).fRel) ((za x67).fCol) (zi.mk (((za x67).fConst).fKind) (((za x67).fConst).fInt) (((za x67).fConst).fFloat) (((za x67).fConst).fText)) ((za x67).fKids)))]:List zc))))]:List zc)) 0 0] (by kernel_rfl),⟨(y61++([(zf (zj.mk 7 0 0 (zi.mk 0 0 0 ByteArray.empty) (some ([(zf (zj.mk ((za x65).fKind) ((za x65).fRel) ((za x65).fCol) (zi.mk (((za x65).fConst).fKind) (((za x65).fConst).fInt) (((za x65).fConst).fFloat) (((za x65).fConst).fText)) ((za x65).fKids))),(zf (zj.mk ((za x67).fKind) ((za x67).fRel) ((za x67).fCol) (zi.mk (((za x67).fConst).fKind) (((za x67).fConst).fInt) (((za x67).fConst).fFloat) (((za x67).fConst).fText)) ((za x67).fKids)))]:List zc))))]:List zc)),(IntKind.wrap .i64 (y62+1)),hm,rfl,rfl⟩⟩
     ·
      refine c0 h64 (wp_exit ?_)
      exact ⟨y61,((((a0.fKind == 3) || (a0.fKind == 4)) && (decide (y62 < ((sll a0.fLeft).length:Int)))) && (decide (y62 < ((sll a0.fRight).length:Int)))),y62,hm,rfl,rfl⟩
    refine rg (s1 3 [(23,.pv (zh zb a0.fWhere)),(22,.ptr 0 2),(21,aR 1 8 y3.length)] ?_)
    rcases zo hm with ⟨h70,hm⟩ | ⟨h70,hm⟩
    ·
     obtain ⟨_,h71,hm⟩:=bs hm
     refine dv 24 (v:=aR 1 8 y3.length) (afU (u:=0) (y:=.pv (zh zb a0.fWhere)) (n:=y3.length) (id:=1) zb y3 (sll a0.fWhere) (b:=88) t23 t49 rfl rfl rfl h70 h71 rfl rfl (Nat.zero_le _) (acY (R:=zb) (s:=a0.fWhere)) (by kernel_rfl)) (by kernel_rfl) (fq 1 [(1,.ptr 0 0),(3,aR 1 8 y3.length)] ?_)
     exact ⟨y3,hm,rfl,rfl⟩
    ·
     obtain ⟨_,h72,hm⟩:=bs hm
     refine dO [(24,aR 1 8 ((y3++(sll a0.fWhere)).length))] [.box (zc2 a0) false,bR 49 8 zb (y3++(sll a0.fWhere)) 0 0] (Z5 (u:=0) (n:=y3.length) (id:=1) zb y3 (sll a0.fWhere) (b:=88) t23 t49 rfl rfl rfl Za h70 h72 rfl rfl (Nat.zero_le _) (acY (R:=zb) (s:=a0.fWhere)) (by kernel_rfl)) (by kernel_rfl) (fq 1 [(1,.ptr 0 0),(3,aR 1 8 ((y3++(sll a0.fWhere)).length))] ?_)
     exact ⟨(y3++(sll a0.fWhere)),hm,rfl,rfl⟩
  refine sq (dn [(1,.ptr 0 0),(3,.pv .nils),(4,aI 0)] (bq ?_))
  refine ZY (fun mm t H=>(∃ (y76:Int),zL n rc_ref25_Applied a0 k4 mm none y76=some r∧t=mk 65 [(1,.ptr 0 0),(3,.pv .nils),(4,aI y76)]∧H=[.box (zc2 a0) false])∨(∃ (y75:(List zc)) (y76:Int),zL n rc_ref25_Applied a0 k4 mm (some y75) y76=some r∧t=mk 65 [(1,.ptr 0 0),(3,aR 1 8 y75.length),(4,aI y76)]∧H=[.box (zc2 a0) false,bR 49 8 zb y75 0 0])) (.inl ⟨0,hm,rfl,rfl⟩) ?_ ?_
  · rintro _ _ (⟨y76,hm,_⟩ | ⟨y75,y76,hm,_⟩) <;> exact nomatch hm
  rintro m77 _ _ (⟨y76,hm,rfl,rfl⟩ | ⟨y75,y76,hm,rfl,rfl⟩)
  ·
   simp only [zL] at hm
   refine sq (sq (rg (s1 3 [(8,.pv (zh zg a0.fKids)),(7,.ptr 0 8),(6,aI y76)] (dv 9 (v:=aI ((sll a0.fKids).length:Int)) (zy zg a0.fKids t64 (by kernel_rfl)) (by kernel_rfl) (fq 1 [(1,.ptr 0 0),(3,.pv .nils),(4,aI y76),(10,aB (decide (y76 < ((sll a0.fKids).length:Int))))] ?_)))))
   rcases zo hm with ⟨h78,hm⟩ | ⟨h78,hm⟩
   ·
    refine c1 h78 (wp_skip (sq (bq (rg (s1 4 [(16,aI y76),(15,.pv (zh zg a0.fKids)),(14,.ptr 0 8),(13,.pv .nils)] ?_)))))
    obtain ⟨x79,h80,hm⟩:=bs hm
    refine dv 17 (v:=.pv (.ptr (zG (zd x79)) 0)) (Zd zg a0.fKids .i64 t64 t66 h80 (zF x79) rfl (by kernel_rfl)) (by kernel_rfl) (s1 1 [(18,.agg (zc3 x79))] ?_)
    obtain ⟨x81,h82,hm⟩:=bs hm
    refine dv 19 (zE (by kernel_rfl) (ih_ref25_Applied h82) (by kernel_rfl) (by kernel_rfl) (by kernel_rfl)) (by kernel_rfl) ?_
    rcases zo hm with ⟨h83,hm⟩ | ⟨h83,hm⟩
    ·
     refine dv 20 (v:=.pv .nils) (aja (u:=0) (y:=.pv (zh zb x81)) zb (sll x81) t23 t49 rfl rfl h83 (acY (R:=zb) (s:=x81)) (by kernel_rfl)) (by kernel_rfl) (fq 1 [(1,.ptr 0 0),(3,.pv .nils),(4,aI y76)] (dn [(1,.ptr 0 0),(3,.pv .nils),(4,aI (IntKind.wrap .i64 (y76+1)))] ?_))
     exact ⟨_,_,Zh [(1,.ptr 0 0),(3,.pv .nils),(4,aI (IntKind.wrap .i64 (y76+1)))] [.box (zc2 a0) false] (by kernel_rfl),.inl ⟨(IntKind.wrap .i64 (y76+1)),hm,rfl,rfl⟩⟩
    ·
     obtain ⟨_,h84,hm⟩:=bs hm
     refine dO [(20,aR 1 8 ((sll x81).length))] [.box (zc2 a0) false,bR 49 8 zb (sll x81) 0 0] (qU (u:=0) zb (sll x81) (b:=88) t23 t49 rfl rfl rfl Za h83 h84 (acY (R:=zb) (s:=x81)) (by kernel_rfl)) (by kernel_rfl) (fq 1 [(1,.ptr 0 0),(3,aR 1 8 ((sll x81).length)),(4,aI y76)] (dn [(1,.ptr 0 0),(3,aR 1 8 ((sll x81).length)),(4,aI (IntKind.wrap .i64 (y76+1)))] ?_))
     exact ⟨_,_,Zh [(1,.ptr 0 0),(3,aR 1 8 ((sll x81).length)),(4,aI (IntKind.wrap .i64 (y76+1)))] [.box (zc2 a0) false,bR 49 8 zb (sll x81) 0 0] (by kernel_rfl),.inr (⟨(sll x81),(IntKind.wrap .i64 (y76+1)),hm,rfl,rfl⟩)⟩
   ·
    refine c0 h78 (wp_exit ?_)
    exact .inl ⟨aI y76,aB (decide (y76 < ((sll a0.fKids).length:Int))),hm,(Zk (by kernel_rfl)),rfl⟩
  ·
   simp only [zL] at hm
   refine sq (sq (rg (s1 3 [(8,.pv (zh zg a0.fKids)),(7,.ptr 0 8),(6,aI y76)] (dv 9 (v:=aI ((sll a0.fKids).length:Int)) (zy zg a0.fKids t64 (by kernel_rfl)) (by kernel_rfl) (fq 1 [(1,.ptr 0 0),(3,aR 1 8 y75.length),(4,aI y76),(10,aB (decide (y76 < ((sll a0.fKids).length:Int))))] ?_)))))
   rcases zo hm with ⟨h85,hm⟩ | ⟨h85,hm⟩
   ·
    refine c1 h85 (wp_skip (sq (bq (rg (s1 4 [(16,aI y76),(15,.pv (zh zg a0.fKids)),(14,.ptr 0 8),(13,aR 1 8 y75.length)] ?_)))))
    obtain ⟨x86,h87,hm⟩:=bs hm
    refine dv 17 (v:=.pv (.ptr (zG (zd x86)) 0)) (Zd zg a0.fKids .i64 t64 t66 h87 (zF x86) rfl (by kernel_rfl)) (by kernel_rfl) (s1 1 [(18,.agg (zc3 x86))] ?_)
    obtain ⟨x88,h89,hm⟩:=bs hm
    refine dv 19 (zE (by kernel_rfl) (ih_ref25_Applied h89) (by kernel_rfl) (by kernel_rfl) (by kernel_rfl)) (by kernel_rfl) ?_
    rcases zo hm with ⟨h90,hm⟩ | ⟨h90,hm⟩
    ·
     obtain ⟨_,h91,hm⟩:=bs hm
     refine dv 20 (v:=aR 1 8 y75.length) (afU (u:=0) (y:=.pv (zh zb x88)) (n:=y75.length) (id:=1) zb y75 (sll x88) (b:=88) t23 t49 rfl rfl rfl h90 h91 rfl rfl (Nat.zero_le _) (acY (R:=zb) (s:=x88)) (by kernel_rfl)) (by kernel_rfl) (fq 1 [(1,.ptr 0 0),(3,aR 1 8 y75.length),(4,aI y76)] (dn [(1,.ptr 0 0),(3,aR 1 8 y75.length),(4,aI (IntKind.wrap .i64 (y76+1)))] ?_))
     exact ⟨_,_,Zh [(1,.ptr 0 0),(3,aR 1 8 y75.length),(4,aI (IntKind.wrap .i64 (y76+1)))] [.box (zc2 a0) false,bR 49 8 zb y75 0 0] (by kernel_rfl),.inr (⟨y75,(IntKind.wrap .i64 (y76+1)),hm,rfl,rfl⟩)⟩
    ·
     obtain ⟨_,h92,hm⟩:=bs hm
     refine dO [(20,aR 1 8 ((y75++(sll x88)).length))] [.box (zc2 a0) false,bR 49 8 zb (y75++(sll x88)) 0 0] (Z5 (u:=0) (n:=y75.length) (id:=1) zb y75 (sll x88) (b:=88) t23 t49 rfl rfl rfl Za h90 h92 rfl rfl (Nat.zero_le _) (acY (R:=zb) (s:=x88)) (by kernel_rfl)) (by kernel_rfl) (fq 1 [(1,.ptr 0 0),(3,aR 1 8 ((y75++(sll x88)).length)),(4,aI y76)] (dn [(1,.ptr 0 0),(3,aR 1 8 ((y75++(sll x88)).length)),(4,aI (IntKind.wrap .i64 (y76+1)))] ?_))
     exact ⟨_,_,Zh [(1,.ptr 0 0),(3,aR 1 8 ((y75++(sll x88)).length)),(4,aI (IntKind.wrap .i64 (y76+1)))] [.box (zc2 a0) false,bR 49 8 zb (y75++(sll x88)) 0 0] (by kernel_rfl),.inr (⟨(y75++(sll x88)),(IntKind.wrap .i64 (y76+1)),hm,rfl,rfl⟩)⟩
   ·
    refine c0 h85 (wp_exit ?_)
    exact .inr (⟨y75,aI y76,aB (decide (y76 < ((sll a0.fKids).length:Int))),hm,(Zk (by kernel_rfl)),rfl⟩)
theorem acB:∀ (m:Nat),∀ {n:Nat} {a0:zk} {r:(Option (List zc))} (hm:Qg m n a0=some r),call G n 35 [.agg (zc2 a0)] []=some (.ret (.pv (zh zb r)),[])
  | 0=>by intros; rename_i hm; exact nomatch hm
  | m+1=>fun hm=>
    afO (acB m) hm
theorem af2 {n:Nat} {a0:zk} {r:(Option (List zc))} (hm:acR n a0=some r):
    call G n 35 [.agg (zc2 a0)] []=some (.ret (.pv (zh zb r)),[]):=acB n hm
theorem abw {n:Nat} {a0:Nat} {r:Bool} (hm:aab n a0=some r):
    call G n 260 [aF a0] []=some (.ret (aB r),[]):=by
  unfold aab at hm
  obtain ⟨n,rfl,h0⟩:=zB hm
  replace hm:=h0; clear h0
  refine Zr 10 [(0,aF a0)] func260 rfl (by kernel_rfl) (sq (dn [(0,aF a0)] (sq (rg (s1 3 [(5,aB ((FloatKind.format .f64).order a0 0 == some .eq)),(4,aB ((FloatKind.format .f64).order a0 0 == some .eq)),(3,aF a0)] ?_)))))
  rcases zo hm with ⟨h1,hm⟩ | ⟨h1,hm⟩
  ·
   refine known [5,4] h1 (by kernel_rfl) (s1 1 [(6,aF a0)] ?_)
   obtain ⟨x2,h3,hm⟩:=bs hm
   refine dv 7 (v:=aF x2) (al0 h3 (by kernel_rfl)) (by kernel_rfl) (fq 3 [(2,aB ((FloatKind.format .f64).order x2 0 == some .gt))] (wp_ret ?_))
   obtain rfl:=Option.some.inj hm
   exact ⟨trivial,by kernel_rfl⟩
  ·
   refine known [5,4] h1 (by kernel_rfl) (fq 5 [(2,aB false)] (wp_ret ?_))
   obtain rfl:=Option.some.inj hm
   exact ⟨trivial,by kernel_rfl⟩
abbrev zc17 (p0:zi):List AV:=[aI p0.fKind,aI p0.fInt,aF p0.fFloat,aS p0.fText]
theorem aej {n:Nat} {a0:zi} {r:Bool} (hm:aal n a0=some r):
    call G n 244 [.agg (zc17 a0)] []=some (.ret (aB r),[]):=by
  unfold aal at hm
  obtain ⟨n,rfl,h0⟩:=zB hm
  replace hm:=h0; clear h0
  refine Zr 76 [(0,.agg (zc17 a0))] func244 rfl (by kernel_rfl) (sq (det [(1,.ptr 0 0)] [.box (zc17 a0) false] (by kernel_rfl) (sq (sq (dn [(1,.ptr 0 0),(4,aI a0.fKind)] (bq (sq (dn [(1,.ptr 0 0),(4,aI a0.fKind),(5,aB (a0.fKind == 0))] ?_))))))))
  rcases zo hm with ⟨h1,hm⟩ | ⟨h1,hm⟩
  ·
   refine c1 h1 (sq (rg (s1 4 [(10,aB (a0.fInt == 0)),(9,aB (a0.fInt == 0)),(8,aI a0.fInt),(7,.ptr 0 1)] ?_)))
   rcases zo hm with ⟨h2,hm⟩ | ⟨h2,hm⟩
   ·
    refine known [10,9] h2 (by kernel_rfl) (s1 2 [(12,aF a0.fFloat),(11,.ptr 0 2)] ?_)
    obtain ⟨x3,h4,hm⟩:=bs hm
    refine dv 13 (zE (by kernel_rfl) (abw h4) (by kernel_rfl) (by kernel_rfl) (by kernel_rfl)) (by kernel_rfl) (s1 2 [(15,aB x3),(14,aB x3)] ?_)
    refine segP x3 [15,14,13] (fun b=>[(19,aB (b && (sEq a0.fText ByteArray.empty))),(18,ifA b (aB (sEq a0.fText ByteArray.empty)) (.undef)),(17,ifA b (aS a0.fText) (.undef)),(16,ifA b (.ptr 0 3) (.undef))]) 4 (by kernel_rfl) (by kernel_rfl) (by kernel_rfl) (fq 1 [(2,aB (x3 && (sEq a0.fText ByteArray.empty)))] (wp_ret ?_))
    obtain rfl:=Option.some.inj hm
    exact ⟨trivial,by kernel_rfl⟩
   ·
    refine known [10,9] h2 (by kernel_rfl) (fq 10 [(2,aB false)] (wp_ret ?_))
    obtain rfl:=Option.some.inj hm
    exact ⟨trivial,by kernel_rfl⟩
  ·
   refine c0 h1 (sq (dn [(1,.ptr 0 0),(4,aI a0.fKind),(20,aB (a0.fKind == 1))] ?_))
   rcases zo hm with ⟨h5,hm⟩ | ⟨h5,hm⟩
   ·
    refine c1 h5 (sq (rg (s1 4 [(25,aB (a0.fInt == 0)),(24,aB (a0.fInt == 0)),(23,aI a0.fInt),(22,.ptr 0 1)] ?_)))
    refine segP (a0.fInt == 0) [25,24] (fun b=>[(29,aB (b || (a0.fInt == 1))),(28,ifA b (.undef) (aB (a0.fInt == 1))),(27,ifA b (.undef) (aI a0.fInt)),(26,ifA b (.undef) (.ptr 0 1))]) 4 (by kernel_rfl) (by kernel_rfl) (by kernel_rfl) (s1 1 [(30,aB ((a0.fInt == 0) || (a0.fInt == 1)))] ?_)
    rcases zo hm with ⟨h6,hm⟩ | ⟨h6,hm⟩
    ·
     refine known [30,29] h6 (by kernel_rfl) (s1 2 [(32,aF a0.fFloat),(31,.ptr 0 2)] ?_)
     obtain ⟨x7,h8,hm⟩:=bs hm
     refine dv 33 (zE (by kernel_rfl) (abw h8) (by kernel_rfl) (by kernel_rfl) (by kernel_rfl)) (by kernel_rfl) (s1 2 [(35,aB x7),(34,aB x7)] ?_)
     refine segP x7 [35,34,33] (fun b=>[(39,aB (b && (sEq a0.fText ByteArray.empty))),(38,ifA b (aB (sEq a0.fText ByteArray.empty)) (.undef)),(37,ifA b (aS a0.fText) (.undef)),(36,ifA b (.ptr 0 3) (.undef))]) 4 (by kernel_rfl) (by kernel_rfl) (by kernel_rfl) (fq 1 [(2,aB (x7 && (sEq a0.fText ByteArray.empty)))] (wp_ret ?_))
     obtain rfl:=Option.some.inj hm
     exact ⟨trivial,by kernel_rfl⟩
    ·
     refine known [30,29] h6 (by kernel_rfl) (fq 10 [(2,aB false)] (wp_ret ?_))
     obtain rfl:=Option.some.inj hm
     exact ⟨trivial,by kernel_rfl⟩
   ·
    refine c0 h5 (sq (dn [(1,.ptr 0 0),(4,aI a0.fKind),(40,aB (a0.fKind == 2))] ?_))
    rcases zo hm with ⟨h9,hm⟩ | ⟨h9,hm⟩
    ·
     refine c1 h9 (sq (rg (s1 2 [(43,aF a0.fFloat),(42,.ptr 0 2)] ?_)))
     obtain ⟨x10,h11,hm⟩:=bs hm
     refine dv 44 (zE (by kernel_rfl) (abw h11) (by kernel_rfl) (by kernel_rfl) (by kernel_rfl)) (by kernel_rfl) (s1 1 [(45,aB x10)] ?_)
     refine segP x10 [45,44] (fun b=>[(49,aB (b && (sEq a0.fText ByteArray.empty))),(48,ifA b (aB (sEq a0.fText ByteArray.empty)) (.undef)),(47,ifA b (aS a0.fText) (.undef)),(46,ifA b (.ptr 0 3) (.undef))]) 4 (by kernel_rfl) (by kernel_rfl) (by kernel_rfl) (fq 1 [(2,aB (x10 && (sEq a0.fText ByteArray.empty)))] (wp_ret ?_))
     obtain rfl:=Option.some.inj hm
     exact ⟨trivial,by kernel_rfl⟩
    ·
     refine c0 h9 (sq (dn [(1,.ptr 0 0),(4,aI a0.fKind),(50,aB (a0.fKind == 3))] ?_))
     rcases zo hm with ⟨h12,hm⟩ | ⟨h12,hm⟩
     ·
      refine c1 h12 (sq (rg (s1 4 [(55,aB (a0.fInt == 0)),(54,aB (a0.fInt == 0)),(53,aI a0.fInt),(52,.ptr 0 1)] ?_)))
      refine segP (a0.fInt == 0) [55,54] (fun b=>[(59,aB (b && (sEq a0.fText ByteArray.empty))),(58,ifA b (aB (sEq a0.fText ByteArray.empty)) (.undef)),(57,ifA b (aS a0.fText) (.undef)),(56,ifA b (.ptr 0 3) (.undef))]) 4 (by kernel_rfl) (by kernel_rfl) (by kernel_rfl) (fq 1 [(2,aB ((a0.fInt == 0) && (sEq a0.fText ByteArray.empty)))] (wp_ret ?_))
      obtain rfl:=Option.some.inj hm
      exact ⟨trivial,by kernel_rfl⟩
     ·
      refine c0 h12 (sq (dn [(1,.ptr 0 0),(60,aB (a0.fKind == 4))] ?_))
      rcases zo hm with ⟨h13,hm⟩ | ⟨h13,hm⟩
      ·
       refine c1 h13 (sq (rg (s1 4 [(65,aB (a0.fInt == 0)),(64,aB (a0.fInt == 0)),(63,aI a0.fInt),(62,.ptr 0 1)] ?_)))
       rcases zo hm with ⟨h14,hm⟩ | ⟨h14,hm⟩
       ·
        refine known [65,64] h14 (by kernel_rfl) (s1 2 [(67,aF a0.fFloat),(66,.ptr 0 2)] ?_)
        obtain ⟨x15,h16,hm⟩:=bs hm
        refine dv 68 (zE (by kernel_rfl) (abw h16) (by kernel_rfl) (by kernel_rfl) (by kernel_rfl)) (by kernel_rfl) (s1 2 [(70,aB x15),(69,aB x15)] ?_)
        refine segP x15 [70,69,68] (fun b=>[(75,aB (b && (decide ((a0.fText.size:Int)≤64)))),(74,ifA b (aB (decide ((a0.fText.size:Int)≤64))) (.undef)),(73,ifA b (aI (a0.fText.size:Int)) (.undef)),(72,ifA b (aS a0.fText) (.undef)),(71,ifA b (.ptr 0 3) (.undef))]) 5 (by kernel_rfl) (by kernel_rfl) (by kernel_rfl) (fq 1 [(2,aB (x15 && (decide ((a0.fText.size:Int)≤64))))] (wp_ret ?_))
        obtain rfl:=Option.some.inj hm
        exact ⟨trivial,by kernel_rfl⟩
       ·
        refine known [65,64] h14 (by kernel_rfl) (fq 11 [(2,aB false)] (wp_ret ?_))
        obtain rfl:=Option.some.inj hm
        exact ⟨trivial,by kernel_rfl⟩
      ·
       refine c0 h13 (wp_skip (sq (dn [(2,aB false)] (wp_ret ?_))))
       obtain rfl:=Option.some.inj hm
       exact ⟨trivial,by kernel_rfl⟩
theorem ad0 {n:Nat} {a0:zi} {r:zi} (hm:aaY n a0=some r):
    call G n 219 [.agg (zc17 a0)] []=some (.ret (.agg [aI r.fKind,aI r.fInt,aF r.fFloat,aS r.fText]),[]):=by
  unfold aaY at hm
  obtain ⟨n,rfl,h0⟩:=zB hm
  replace hm:=h0; clear h0
  refine Zr 17 [(0,.agg (zc17 a0))] func219 rfl (by kernel_rfl) (sq (det [(1,.ptr 0 0),(2,.ptr 1 0)] [.box (zc17 a0) false,.box [aI 0,aI 0,aF 0,aS ByteArray.empty] false] (by kernel_rfl) ?_))
  refine sq (sq (rg (s1 1 [(3,.agg (zc17 a0))] ?_)))
  obtain ⟨x1,h2,hm⟩:=bs hm
  refine dv 4 (zE (by kernel_rfl) (aej h2) (by kernel_rfl) (by kernel_rfl) (by kernel_rfl)) (by kernel_rfl) (fq 1 [(1,.ptr 0 0),(2,.ptr 1 0),(5,aB (!x1))] ?_)
  rcases zo hm with ⟨h3,hm⟩ | ⟨h3,hm⟩
  ·
   refine c1 h3 (sq (dn [(2,.ptr 1 0)] (wp_ret ?_)))
   obtain rfl:=Option.some.inj hm
   exact ⟨trivial,by kernel_rfl⟩
  ·
   refine c0 h3 (wp_skip (sq (sq (rg (s1 4 [(10,aB (a0.fKind == 3)),(9,aB (a0.fKind == 3)),(8,aI a0.fKind),(7,.ptr 0 0)] ?_)))))
   refine segP (a0.fKind == 3) [10,9] (fun b=>[(14,aB (b && ((FloatKind.format .f64).order a0.fFloat 0 == some .eq))),(13,ifA b (aB ((FloatKind.format .f64).order a0.fFloat 0 == some .eq)) (.undef)),(12,ifA b (aF a0.fFloat) (.undef)),(11,ifA b (.ptr 0 2) (.undef))]) 4 (by kernel_rfl) (by kernel_rfl) (by kernel_rfl) (fin [(1,.ptr 0 0),(2,.ptr 1 0),(14,aB ((a0.fKind == 3) && ((FloatKind.format .f64).order a0.fFloat 0 == some .eq)))] rfl (by kernel_rfl) ?_)
   rcases zo hm with ⟨h4,hm⟩ | ⟨h4,hm⟩
   ·
    refine c1 h4 (sq (det [(2,.ptr 1 0)] [.box (zc17 a0) false,.box [aI 3,aI 0,aF 0,aS ByteArray.empty] false] (by kernel_rfl) (wp_ret ?_)))
    obtain rfl:=Option.some.inj hm
    exact ⟨trivial,by kernel_rfl⟩
   ·
    refine c0 h4 (wp_skip (sq (det [(2,.ptr 1 0)] [.box (zc17 a0) false,.box (zc17 a0) false] (by kernel_rfl) (wp_ret ?_))))
    obtain rfl:=Option.some.inj hm
    exact ⟨trivial,by kernel_rfl⟩
end Go.Ab.S1
