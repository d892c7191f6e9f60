import Derived.Test.YtejbcaheoloahaaGreatS1
import Derived.Test.YtejbcaheoloahaaGreatPA
noncomputable section
namespace Go.Ab.S1
open Go Go.Ab Go.Pl
open Go.Proofs.Tryz
set_option linter.unusedVariables false
set_option linter.unusedSimpArgs false
set_option maxHeartbeats 4000000
set_option maxRecDepth 100000
theorem ah3:call G 3999999 32 [] []=some (.ret (aB true),[]):=by kernel_rfl
theorem aik {n:Nat} {r:Bool} (hm:abT n=some r):
    call G n 32 [] []=some (.ret (aB r),[]):=by
  unfold abT at hm
  have hn:n=3999999:=by
    cases h:n == 3999999 with
    | true=>exact eq_of_beq h
    | false=>rw [h] at hm; cases hm
  subst hn
  have h2:some true=some r:=hm
  obtain rfl:=Option.some.inj h2
  exact ah3
abbrev zp46 (p0:(Option (List zc))):Nat × AV:=(0,.pv (zg za p0))
abbrev zp47 (p0:Int):Nat × AV:=(4,aI (IntKind.wrap .i64 (p0+1)))
abbrev zp48 (p0:Int) (p1:zc):Nat × AV:=(5,aI (IntKind.wrap .i64 (p0+((((zk p1).fConst).fText).size:Int))))
abbrev zp49 (p0:Int) (p1:zc) (p2:Int):Nat × AV:=(5,aI (IntKind.wrap .i64 ((IntKind.wrap .i64 (p0+((((zk p1).fConst).fText).size:Int)))+p2)))
abbrev zp50 (p0:Int):Nat × AV:=(6,aI (IntKind.wrap .i64 (p0+1)))
abbrev zw (p0:(Option (List zc))):=(zg za p0)
abbrev acd (p0:(Option (List zc))):=((sll p0).length:Int)
abbrev ael (p0:Int) (p1:(Option (List zc))):=(decide (p0 < ((sll p1).length:Int)))
abbrev aeh (p0:zc):=(Zu (zk p0))
abbrev zU (p0:Int):=(IntKind.wrap .i64 (p0+1))
theorem aiO {rc_ref22_Bulk:(Nat→(Option (List zc))→Int→Option (Int))} (ih_ref22_Bulk:∀ {n:Nat} {a0:(Option (List zc))} {a1:Int} {r:Int} (hm:rc_ref22_Bulk n a0 a1=some r),call G n 98 [.pv (zg za a0),aI a1] []=some (.ret (aI r),[])) {n:Nat} {a0:(Option (List zc))} {a1:Int} {r:Int} (hm:abb rc_ref22_Bulk n a0 a1=some r):
    call G n 98 [.pv (zw a0),aI a1] []=some (.ret (aI r),[]):=by
  unfold abb at hm
  obtain ⟨n,rfl,h0⟩:=zy hm
  replace hm:=h0; clear h0
  refine Z4 61 [(zp46 a0),(1,aI a1)] func98 rfl (by kernel_rfl) (sq (dn [(zp46 a0),(1,aI a1)] ?_))
  refine sq (sq (rg (s1 1 [(7,.pv (zw a0))] (dv 8 (v:=aI (acd a0)) (zI za a0 t23 (by kernel_rfl)) (by kernel_rfl) (fq 2 [(zp46 a0),(1,aI a1),(10,aB (decide (((sll a0).length:Int) > a1)))] ?_)))))
  rcases zh hm with ⟨h1,hm⟩ | ⟨h1,hm⟩
  ·
   refine c1 h1 (sq (dn [(zp47 a1)] (wp_ret ?_)))
   obtain rfl:=Option.some.inj hm
   exact ⟨trivial,by kernel_rfl⟩
  ·
   refine c0 h1 (wp_skip (sq (rg (s1 1 [(13,.pv (zw a0))] (dv 14 (v:=aI (acd a0)) (zI za a0 t23 (by kernel_rfl)) (by kernel_rfl) (fq 1 [(zp46 a0),(1,aI a1),(5,aI (acd a0))] ?_))))))
   obtain ⟨k5,hk5,hm⟩:=zx hm
   refine mid (fun t H=>(∃ (y2:Bool) (y3:Int) (y4:Int),k5 y3=some r∧t=mk 61 [(zp46 a0),(1,aI a1),(5,aI y3),(6,aI y4),(23,aB y2)]∧H=[])) ?_ ?_
   ·
    rintro _ _ ⟨y2,y3,y4,hm,rfl,rfl⟩
    subst hk5
    refine sq (dn [(4,aI y3)] (wp_ret ?_))
    obtain rfl:=Option.some.inj hm
    exact ⟨trivial,by kernel_rfl⟩
   refine sq (dn [(zp46 a0),(1,aI a1),(5,aI (acd a0)),(6,aI 0)] (bq ?_))
   refine qq (fun mm t H=>(∃ (y8:Int) (y9:Int),qK n rc_ref22_Bulk a0 a1 k5 mm y8 y9=some r∧t=mk 61 [(zp46 a0),(1,aI a1),(5,aI y8),(6,aI y9)]∧H=[])) (⟨((sll a0).length:Int),0,hm,rfl,rfl⟩) ?_ ?_
   · rintro _ _ ⟨y8,y9,hm,_⟩; exact nomatch hm
   rintro m10 _ _ ⟨y8,y9,hm,rfl,rfl⟩
   simp only [qK] at hm
   refine sq (sq (rg (s1 2 [(16,.pv (zw a0)),(15,aI y9)] (dv 17 (v:=aI (acd a0)) (zI za a0 t23 (by kernel_rfl)) (by kernel_rfl) (s1 2 [(19,aB (ael y9 a0)),(18,aB (ael y9 a0))] ?_)))))
   refine segP (ael y9 a0) [19,18] (fun b=>[(23,aB (b && (decide (y8≤a1)))),(22,ifA b (aB (decide (y8≤a1))) (.undef)),(21,ifA b (aI a1) (.undef)),(20,ifA b (aI y8) (.undef))]) 4 (by kernel_rfl) (by kernel_rfl) (by kernel_rfl) (fin [(zp46 a0),(1,aI a1),(5,aI y8),(6,aI y9),(23,aB ((decide (y9 < ((sll a0).length:Int))) && (decide (y8≤a1))))] rfl (by kernel_rfl) ?_)
   rcases zh hm with ⟨h11,hm⟩ | ⟨h11,hm⟩
   ·
    refine c1 h11 (wp_skip (sq (bq ?_)))
    refine sq (sq (rg (s1 2 [(27,aI y9),(26,.pv (zw a0))] ?_)))
    obtain ⟨x12,h13,hm⟩:=bs hm
    refine dv 28 (v:=.pv (.ptr (aeh x12) 0)) (aaK za a0 .i64 t23 t49 h13 (Zj x12) rfl (by kernel_rfl)) (by kernel_rfl) (fq 6 [(zp46 a0),(1,aI a1),(5,aI y8),(6,aI y9),(34,aB (decide (((((zk x12).fConst).fText).size:Int) > a1)))] ?_)
    rcases zh hm with ⟨h14,hm⟩ | ⟨h14,hm⟩
    ·
     refine c1 h14 (sq (dn [(zp47 a1)] (wp_ret ?_)))
     obtain rfl:=Option.some.inj hm
     exact ⟨trivial,by kernel_rfl⟩
    ·
     refine c0 h14 (wp_skip (sq (rg (s1 3 [(39,aI y9),(38,.pv (zw a0)),(37,aI y8)] (dv 40 (v:=.pv (.ptr (aeh x12) 0)) (aaK za a0 .i64 t23 t49 h13 (Zj x12) rfl (by kernel_rfl)) (by kernel_rfl) (fq 6 [(zp46 a0),(1,aI a1),(zp48 y8 x12),(6,aI y9)] (sq (dn [(zp46 a0),(1,aI a1),(zp48 y8 x12),(6,aI y9),(48,aB (decide ((IntKind.wrap .i64 (y8+((((zk x12).fConst).fText).size:Int)))≤a1)))] ?_))))))))
     rcases zh hm with ⟨h15,hm⟩ | ⟨h15,hm⟩
     ·
      refine c1 h15 (rg (s1 3 [(51,aI y9),(50,.pv (zw a0)),(49,aI (IntKind.wrap .i64 (y8+((((zk x12).fConst).fText).size:Int))))] (dv 52 (v:=.pv (.ptr (aeh x12) 0)) (aaK za a0 .i64 t23 t49 h13 (Zj x12) rfl (by kernel_rfl)) (by kernel_rfl) (s1 5 [(57,aI (IntKind.wrap .i64 (a1 - (IntKind.wrap .i64 (y8+((((zk x12).fConst).fText).size:Int)))))),(56,aI (IntKind.wrap .i64 (y8+((((zk x12).fConst).fText).size:Int)))),(55,aI a1),(54,.pv (zg za ((zk x12).fKids))),(53,.pv (.ptr (aeh x12) 7))] ?_))))
      obtain ⟨x16,h17,hm⟩:=bs hm
      refine dv 58 (Zh (by kernel_rfl) (ih_ref22_Bulk h17) (by kernel_rfl) (by kernel_rfl) (by kernel_rfl)) (by kernel_rfl) (fq 2 [(zp46 a0),(1,aI a1),(zp49 y8 x12 x16),(6,aI y9)] (dn [(zp46 a0),(1,aI a1),(zp49 y8 x12 x16),(zp50 y9)] ?_))
      exact ⟨_,_,ZC [(zp46 a0),(1,aI a1),(zp49 y8 x12 x16),(zp50 y9)] [] (by kernel_rfl),⟨(IntKind.wrap .i64 ((IntKind.wrap .i64 (y8+((((zk x12).fConst).fText).size:Int)))+x16)),(zU y9),hm,rfl,rfl⟩⟩
     ·
      refine c0 h15 (wp_skip (dn [(zp46 a0),(1,aI a1),(zp48 y8 x12),(zp50 y9)] ?_))
      exact ⟨_,_,ZC [(zp46 a0),(1,aI a1),(zp48 y8 x12),(zp50 y9)] [] (by kernel_rfl),⟨(IntKind.wrap .i64 (y8+((((zk x12).fConst).fText).size:Int))),(zU y9),hm,rfl,rfl⟩⟩
   ·
    refine c0 h11 (wp_exit ?_)
    exact ⟨((decide (y9 < ((sll a0).length:Int))) && (decide (y8≤a1))),y8,y9,hm,rfl,rfl⟩
theorem aef:∀ (m:Nat),∀ {n:Nat} {a0:(Option (List zc))} {a1:Int} {r:Int} (hm:QZ m n a0 a1=some r),call G n 98 [.pv (zg za a0),aI a1] []=some (.ret (aI r),[])
  | 0=>by intros; rename_i hm; exact nomatch hm
  | m+1=>fun hm=>
    aiO (aef m) hm
theorem adg {n:Nat} {a0:(Option (List zc))} {a1:Int} {r:Int} (hm:abI n a0 a1=some r):
    call G n 98 [.pv (zw a0),aI a1] []=some (.ret (aI r),[]):=aef n hm
abbrev zc0 (p0:Qi):List AV:=[.pv (zg rS p0.fRels),.pv (zg za p0.fWhere),aB p0.fGrouped,.pv (zg za p0.fOut),.pv (zg zi p0.fAggs),.pv (zg zj p0.fOrder)]
abbrev zc1 (p0:zo):List AV:=[aI p0.fOf.fKind,aI p0.fOf.fRel,aI p0.fOf.fCol,aI p0.fOf.fConst.fKind,aI p0.fOf.fConst.fInt,aF p0.fOf.fConst.fFloat,aS p0.fOf.fConst.fText,.pv (zg za p0.fOf.fKids)]
abbrev zp51 (p0:Qi):Nat × AV:=(5,aI (IntKind.wrap .i64 ((IntKind.wrap .i64 (((sll p0.fRels).length:Int)+((sll p0.fAggs).length:Int)))+((sll p0.fOrder).length:Int))))
abbrev zp52 (p0:Int) (p1:Int):Nat × AV:=(5,aI (IntKind.wrap .i64 (p0+p1)))
theorem aft {n:Nat} {a0:Qi} {a1:Int} {r:Int} (hm:abD n a0 a1=some r):
    call G n 46 [.agg (zc0 a0),aI a1] []=some (.ret (aI r),[]):=by
  unfold abD at hm
  obtain ⟨n,rfl,h0⟩:=zy hm
  replace hm:=h0; clear h0
  refine Z4 118 [(0,.agg (zc0 a0)),(1,aI a1)] func46 rfl (by kernel_rfl) (sq (det [(1,aI a1),(2,.ptr 0 0)] [.box (zc0 a0) false] (by kernel_rfl) ?_))
  refine sq (sq (rg (s1 2 [(9,.pv (zg rS a0.fRels)),(8,.ptr 0 0)] (dv 10 (v:=aI ((sll a0.fRels).length:Int)) (zI rS a0.fRels t22 (by kernel_rfl)) (by kernel_rfl) (s1 3 [(13,aB (decide (((sll a0.fRels).length:Int) > a1))),(12,aB (decide (((sll a0.fRels).length:Int) > a1))),(11,aI a1)] ?_)))))
  refine seg (decide (((sll a0.fRels).length:Int) > a1)) [13,12] (fun b=>[(19,aB (b || (decide (((sll a0.fAggs).length:Int) > a1)))),(18,ifA b (.undef) (aB (decide (((sll a0.fAggs).length:Int) > a1)))),(17,ifA b (.undef) (aI a1)),(16,ifA b (.undef) (aI ((sll a0.fAggs).length:Int))),(15,ifA b (.undef) (.pv (zg zi a0.fAggs))),(14,ifA b (.undef) (.ptr 0 4))]) 12 (by kernel_rfl) ?_ ?_ ?_
  ·
   intro Q h
   refine s1 6 [(19,aB true),(18,.undef),(17,.undef),(16,.undef),(15,.undef),(14,.undef)] ?_
   exact ab9 (by kernel_rfl) (by kernel_rfl) h
  ·
   intro Q h
   refine s1 2 [(15,.pv (zg zi a0.fAggs)),(14,.ptr 0 4)] (dv 16 (v:=aI ((sll a0.fAggs).length:Int)) (zI zi a0.fAggs t24 (by kernel_rfl)) (by kernel_rfl) (s1 3 [(19,aB (decide (((sll a0.fAggs).length:Int) > a1))),(18,aB (decide (((sll a0.fAggs).length:Int) > a1))),(17,aI a1)] ?_))
   exact ab9 (by kernel_rfl) (by kernel_rfl) h
  refine s1 1 [(20,aB ((decide (((sll a0.fRels).length:Int) > a1)) || (decide (((sll a0.fAggs).length:Int) > a1))))] ?_
  refine seg ((decide (((sll a0.fRels).length:Int) > a1)) || (decide (((sll a0.fAggs).length:Int) > a1))) [20,19] (fun b=>[(26,aB (b || (decide (((sll a0.fOrder).length:Int) > a1)))),(25,ifA b (.undef) (aB (decide (((sll a0.fOrder).length:Int) > a1)))),(24,ifA b (.undef) (aI a1)),(23,ifA b (.undef) (aI ((sll a0.fOrder).length:Int))),(22,ifA b (.undef) (.pv (zg zj a0.fOrder))),(21,ifA b (.undef) (.ptr 0 5))]) 19 (by kernel_rfl) ?_ ?_ ?_
  ·
   intro Q h
   refine s1 6 [(26,aB true),(25,.undef),(24,.undef),(23,.undef),(22,.undef),(21,.undef)] ?_
   exact ab9 (by kernel_rfl) (by kernel_rfl) h
  ·
   intro Q h
   refine s1 2 [(22,.pv (zg zj a0.fOrder)),(21,.ptr 0 5)] (dv 23 (v:=aI ((sll a0.fOrder).length:Int)) (zI zj a0.fOrder t25 (by kernel_rfl)) (by kernel_rfl) (s1 3 [(26,aB (decide (((sll a0.fOrder).length:Int) > a1))),(25,aB (decide (((sll a0.fOrder).length:Int) > a1))),(24,aI a1)] ?_))
   exact ab9 (by kernel_rfl) (by kernel_rfl) h
  refine fin [(1,aI a1),(2,.ptr 0 0),(26,aB (((decide (((sll a0.fRels).length:Int) > a1)) || (decide (((sll a0.fAggs).length:Int) > a1))) || (decide (((sll a0.fOrder).length:Int) > a1))))] rfl (by kernel_rfl) ?_
  rcases zh hm with ⟨h1,hm⟩ | ⟨h1,hm⟩
  ·
   refine c1 h1 (sq (dn [(zp47 a1)] (wp_ret ?_)))
   obtain rfl:=Option.some.inj hm
   exact ⟨trivial,by kernel_rfl⟩
  ·
   refine c0 h1 (wp_skip (sq (rg (s1 2 [(30,.pv (zg rS a0.fRels)),(29,.ptr 0 0)] (dv 31 (v:=aI ((sll a0.fRels).length:Int)) (zI rS a0.fRels t22 (by kernel_rfl)) (by kernel_rfl) (s1 2 [(33,.pv (zg zi a0.fAggs)),(32,.ptr 0 4)] (dv 34 (v:=aI ((sll a0.fAggs).length:Int)) (zI zi a0.fAggs t24 (by kernel_rfl)) (by kernel_rfl) (s1 3 [(37,.pv (zg zj a0.fOrder)),(36,.ptr 0 5),(35,aI (IntKind.wrap .i64 (((sll a0.fRels).length:Int)+((sll a0.fAggs).length:Int))))] (dv 38 (v:=aI ((sll a0.fOrder).length:Int)) (zI zj a0.fOrder t25 (by kernel_rfl)) (by kernel_rfl) (fq 2 [(1,aI a1),(2,.ptr 0 0),(zp51 a0)] ?_))))))))))
   obtain ⟨k5,hk5,hm⟩:=zx hm
   refine mid (fun t H=>(∃ (y2:Bool) (y3:Int) (y4:Int),k5 y3=some r∧t=mk 118 [(1,aI a1),(2,.ptr 0 0),(5,aI y3),(6,aI y4),(44,aB y2)]∧H=[.box (zc0 a0) false])) ?_ ?_
   ·
    rintro _ _ ⟨y2,y3,y4,hm,rfl,rfl⟩
    subst hk5
    obtain ⟨k8,hk8,hm⟩:=zx hm
    refine mid (fun t H=>(∃ (y7:Int) (w6:AV),k8 y7=some r∧t=mk 118 [(1,aI a1),(2,.ptr 0 0),(5,aI y7),(72,w6)]∧H=[.box (zc0 a0) false])) ?_ ?_
    ·
     rintro _ _ ⟨y7,w6,hm,rfl,rfl⟩
     subst hk8
     obtain ⟨k11,hk11,hm⟩:=zx hm
     refine mid (fun t H=>(∃ (y10:Int) (w9:AV),k11 y10=some r∧t=mk 118 [(1,aI a1),(2,.ptr 0 0),(5,aI y10),(83,w9)]∧H=[.box (zc0 a0) false])) ?_ ?_
     ·
      rintro _ _ ⟨y10,w9,hm,rfl,rfl⟩
      subst hk11
      obtain ⟨k15,hk15,hm⟩:=zx hm
      refine mid (fun t H=>(∃ (y12:Bool) (y13:Int) (y14:Int),k15 y13=some r∧t=mk 118 [(1,aI a1),(2,.ptr 0 0),(5,aI y13),(7,aI y14),(101,aB y12)]∧H=[.box (zc0 a0) false])) ?_ ?_
      ·
       rintro _ _ ⟨y12,y13,y14,hm,rfl,rfl⟩
       subst hk15
       refine sq (dn [(4,aI y13)] (wp_ret ?_))
       obtain rfl:=Option.some.inj hm
       exact ⟨trivial,by kernel_rfl⟩
      refine sq (dn [(1,aI a1),(2,.ptr 0 0),(5,aI y10),(7,aI 0)] (bq ?_))
      refine qq (fun mm t H=>(∃ (y18:Int) (y19:Int),qf n a0 a1 k15 mm y18 y19=some r∧t=mk 118 [(1,aI a1),(2,.ptr 0 0),(5,aI y18),(7,aI y19)]∧H=[.box (zc0 a0) false])) (⟨y10,0,hm,rfl,rfl⟩) ?_ ?_
      · rintro _ _ ⟨y18,y19,hm,_⟩; exact nomatch hm
      rintro m20 _ _ ⟨y18,y19,hm,rfl,rfl⟩
      simp only [qf] at hm
      refine sq (sq (rg (s1 3 [(94,.pv (zg zi a0.fAggs)),(93,.ptr 0 4),(92,aI y19)] (dv 95 (v:=aI ((sll a0.fAggs).length:Int)) (zI zi a0.fAggs t24 (by kernel_rfl)) (by kernel_rfl) (s1 2 [(97,aB (decide (y19 < ((sll a0.fAggs).length:Int)))),(96,aB (decide (y19 < ((sll a0.fAggs).length:Int))))] ?_)))))
      refine segP (decide (y19 < ((sll a0.fAggs).length:Int))) [97,96] (fun b=>[(101,aB (b && (decide (y18≤a1)))),(100,ifA b (aB (decide (y18≤a1))) (.undef)),(99,ifA b (aI a1) (.undef)),(98,ifA b (aI y18) (.undef))]) 4 (by kernel_rfl) (by kernel_rfl) (by kernel_rfl) (fin [(1,aI a1),(2,.ptr 0 0),(5,aI y18),(7,aI y19),(101,aB ((decide (y19 < ((sll a0.fAggs).length:Int))) && (decide (y18≤a1))))] rfl (by kernel_rfl) ?_)
      rcases zh hm with ⟨h21,hm⟩ | ⟨h21,hm⟩
      ·
       refine c1 h21 (wp_skip (sq (bq (rg (s1 4 [(107,aI y19),(106,.pv (zg zi a0.fAggs)),(105,.ptr 0 4),(104,aI y18)] ?_)))))
       obtain ⟨x22,h23,hm⟩:=bs hm
       refine dv 108 (v:=.pv (.ptr (zi x22) 0)) (aaL zi a0.fAggs .i64 t24 t101 h23 rfl (by kernel_rfl)) (by kernel_rfl) (st 6 [(114,aI (IntKind.wrap .i64 (a1 - y18))),(113,aI y18),(112,aI a1),(111,aR 1 8 1),(110,.agg (zc1 x22)),(109,.pv (.ptr (zi x22) 1))] [.box (zc0 a0) false,bR 49 8 za ([(zz x22.fOf)]:List zc) 0 0] (by kernel_rfl) ?_)
       obtain ⟨x24,h25,hm⟩:=bs hm
       refine dO [(115,aI x24)] [.box (zc0 a0) false,bR 49 8 za ([(zz x22.fOf)]:List zc) 0 0] (aql [1] [aR 1 8 1,aI (IntKind.wrap .i64 (a1 - y18))] (fl:=true) (by kernel_rfl) (by kernel_rfl) (by kernel_rfl) (adg h25) (by kernel_rfl) (by kernel_rfl)) (by kernel_rfl) (fq 2 [(1,aI a1),(2,.ptr 0 0),(zp52 y18 x24),(7,aI y19)] (dn [(1,aI a1),(2,.ptr 0 0),(zp52 y18 x24),(7,aI (zU y19))] ?_))
       exact ⟨_,_,ZC [(1,aI a1),(2,.ptr 0 0),(zp52 y18 x24),(7,aI (zU y19))] [.box (zc0 a0) false] (by kernel_rfl),⟨(IntKind.wrap .i64 (y18+x24)),(zU y19),hm,rfl,rfl⟩⟩
      ·
       refine c0 h21 (wp_exit ?_)
       exact ⟨((decide (y19 < ((sll a0.fAggs).length:Int))) && (decide (y18≤a1))),y18,y19,hm,rfl,rfl⟩
     refine sq (dn [(1,aI a1),(2,.ptr 0 0),(5,aI y7),(83,aB (decide (y7≤a1)))] ?_)
     rcases zh hm with ⟨h26,hm⟩ | ⟨h26,hm⟩
     ·
      refine c1 h26 (rg (s1 6 [(89,aI (IntKind.wrap .i64 (a1 - y7))),(88,aI y7),(87,aI a1),(86,.pv (zg za a0.fOut)),(85,.ptr 0 3),(84,aI y7)] ?_))
      obtain ⟨x27,h28,hm⟩:=bs hm
      refine dv 90 (Zh (by kernel_rfl) (adg h28) (by kernel_rfl) (by kernel_rfl) (by kernel_rfl)) (by kernel_rfl) (fq 2 [(1,aI a1),(2,.ptr 0 0),(zp52 y7 x27)] ?_)
      exact ⟨(IntKind.wrap .i64 (y7+x27)),.any,hm,(zT (by kernel_rfl)),rfl⟩
     ·
      refine c0 h26 (wp_skip ?_)
      exact ⟨y7,aB (decide (y7≤a1)),hm,(zT (by kernel_rfl)),rfl⟩
    refine sq (dn [(1,aI a1),(2,.ptr 0 0),(5,aI y3),(72,aB (decide (y3≤a1)))] ?_)
    rcases zh hm with ⟨h29,hm⟩ | ⟨h29,hm⟩
    ·
     refine c1 h29 (rg (s1 6 [(78,aI (IntKind.wrap .i64 (a1 - y3))),(77,aI y3),(76,aI a1),(75,.pv (zg za a0.fWhere)),(74,.ptr 0 1),(73,aI y3)] ?_))
     obtain ⟨x30,h31,hm⟩:=bs hm
     refine dv 79 (Zh (by kernel_rfl) (adg h31) (by kernel_rfl) (by kernel_rfl) (by kernel_rfl)) (by kernel_rfl) (fq 2 [(1,aI a1),(2,.ptr 0 0),(zp52 y3 x30)] ?_)
     exact ⟨(IntKind.wrap .i64 (y3+x30)),.any,hm,(zT (by kernel_rfl)),rfl⟩
    ·
     refine c0 h29 (wp_skip ?_)
     exact ⟨y3,aB (decide (y3≤a1)),hm,(zT (by kernel_rfl)),rfl⟩
   refine sq (dn [(1,aI a1),(2,.ptr 0 0),(zp51 a0),(6,aI 0)] (bq ?_))
   refine qq (fun mm t H=>(∃ (y34:Int) (y35:Int),Q8 n a0 a1 k5 mm y34 y35=some r∧t=mk 118 [(1,aI a1),(2,.ptr 0 0),(5,aI y34),(6,aI y35)]∧H=[.box (zc0 a0) false])) (⟨(IntKind.wrap .i64 ((IntKind.wrap .i64 (((sll a0.fRels).length:Int)+((sll a0.fAggs).length:Int)))+((sll a0.fOrder).length:Int))),0,hm,rfl,rfl⟩) ?_ ?_
   · rintro _ _ ⟨y34,y35,hm,_⟩; exact nomatch hm
   rintro m36 _ _ ⟨y34,y35,hm,rfl,rfl⟩
   simp only [Q8] at hm
   refine sq (sq (rg (s1 3 [(42,.pv (zg rS a0.fRels)),(41,.ptr 0 0),(40,aI y35)] (dv 43 (v:=aI ((sll a0.fRels).length:Int)) (zI rS a0.fRels t22 (by kernel_rfl)) (by kernel_rfl) (fq 1 [(1,aI a1),(2,.ptr 0 0),(5,aI y34),(6,aI y35),(44,aB (decide (y35 < ((sll a0.fRels).length:Int))))] ?_)))))
   rcases zh hm with ⟨h37,hm⟩ | ⟨h37,hm⟩
   ·
    refine c1 h37 (wp_skip (sq (bq ?_)))
    refine sq (sq (rg (s1 4 [(50,aB (decide (y34 > a1))),(49,aB (decide (y34 > a1))),(48,aI a1),(47,aI y34)] ?_)))
    rcases zh hm with ⟨h38,hm⟩ | ⟨h38,hm⟩
    ·
     refine known [50,49] h38 (by kernel_rfl) (fq 9 [(1,aI a1),(2,.ptr 0 0),(5,aI y34),(6,aI y35),(59,aB true)] (cT (by kernel_rfl) (sq (dn [(zp47 a1)] (wp_ret ?_)))))
     obtain rfl:=Option.some.inj hm
     exact ⟨trivial,by kernel_rfl⟩
    ·
     refine known [50,49] h38 (by kernel_rfl) (s1 3 [(53,aI y35),(52,.pv (zg rS a0.fRels)),(51,.ptr 0 0)] ?_)
     obtain ⟨x39,h40,hm⟩:=bs hm
     refine dv 54 (v:=.pv (.ptr (rS x39) 0)) (aaL rS a0.fRels .i64 t22 t9 h40 rfl (by kernel_rfl)) (by kernel_rfl) (fq 5 [(1,aI a1),(2,.ptr 0 0),(5,aI y34),(6,aI y35),(59,aB (decide ((x39.size:Int) > a1)))] ?_)
     rcases zh hm with ⟨h41,hm⟩ | ⟨h41,hm⟩
     ·
      refine c1 h41 (sq (dn [(zp47 a1)] (wp_ret ?_)))
      obtain rfl:=Option.some.inj hm
      exact ⟨trivial,by kernel_rfl⟩
     ·
      refine c0 h41 (wp_skip (rg (s1 4 [(65,aI y35),(64,.pv (zg rS a0.fRels)),(63,.ptr 0 0),(62,aI y34)] (dv 66 (v:=.pv (.ptr (rS x39) 0)) (aaL rS a0.fRels .i64 t22 t9 h40 rfl (by kernel_rfl)) (by kernel_rfl) (fq 4 [(1,aI a1),(2,.ptr 0 0),(5,aI (IntKind.wrap .i64 (y34+(x39.size:Int)))),(6,aI y35)] (dn [(1,aI a1),(2,.ptr 0 0),(5,aI (IntKind.wrap .i64 (y34+(x39.size:Int)))),(zp50 y35)] ?_))))))
      exact ⟨_,_,ZC [(1,aI a1),(2,.ptr 0 0),(5,aI (IntKind.wrap .i64 (y34+(x39.size:Int)))),(zp50 y35)] [.box (zc0 a0) false] (by kernel_rfl),⟨(IntKind.wrap .i64 (y34+(x39.size:Int))),(zU y35),hm,rfl,rfl⟩⟩
   ·
    refine c0 h37 (wp_exit ?_)
    exact ⟨(decide (y35 < ((sll a0.fRels).length:Int))),y34,y35,hm,rfl,rfl⟩
abbrev zc2 (p0:zb):List AV:=[aI p0.fKind,aI p0.fRel,.pv (zg za p0.fWhere),.pv (zg za p0.fLeft),.pv (zg za p0.fRight),.pv (zg za p0.fOut),.pv (zg zi p0.fAggs),.pv (zg zj p0.fOrder),.pv (zg zd p0.fKids)]
abbrev zc3 (p0:zn):List AV:=[aI ((zq p0).fKind),aI ((zq p0).fRel),.pv (zg za ((zq p0).fWhere)),.pv (zg za ((zq p0).fLeft)),.pv (zg za ((zq p0).fRight)),.pv (zg za ((zq p0).fOut)),.pv (zg zi ((zq p0).fAggs)),.pv (zg zj ((zq p0).fOrder)),.pv (zg zd ((zq p0).fKids))]
abbrev agz (p0:zb):=(zg zi p0.fAggs)
abbrev agt (p0:zb):=(zg zj p0.fOrder)
abbrev agH (p0:Int) (p1:zb):=(decide (p0 < ((sll p1.fKids).length:Int)))
abbrev ahU (p0:zb):=(zg za p0.fLeft)
theorem ai5 {rc_ref25_Bulk:(Nat→zb→Int→Option (Int))} (ih_ref25_Bulk:∀ {n:Nat} {a0:zb} {a1:Int} {r:Int} (hm:rc_ref25_Bulk n a0 a1=some r),call G n 113 [.agg [aI a0.fKind,aI a0.fRel,.pv (zg za a0.fWhere),.pv (zg za a0.fLeft),.pv (zg za a0.fRight),.pv (zg za a0.fOut),.pv (zg zi a0.fAggs),.pv (zg zj a0.fOrder),.pv (zg zd a0.fKids)],aI a1] []=some (.ret (aI r),[])) {n:Nat} {a0:zb} {a1:Int} {r:Int} (hm:abr rc_ref25_Bulk n a0 a1=some r):
    call G n 113 [.agg (zc2 a0),aI a1] []=some (.ret (aI r),[]):=by
  unfold abr at hm
  obtain ⟨n,rfl,h0⟩:=zy hm
  replace hm:=h0; clear h0
  refine Z4 55 [(0,.agg (zc2 a0)),(1,aI a1)] func113 rfl (by kernel_rfl) (sq (det [(1,aI a1),(2,.ptr 0 0)] [.box (zc2 a0) false] (by kernel_rfl) (sq (rg (s1 10 [(16,aI a1),(15,.agg [.pv .nils,.pv (zg za a0.fWhere),aB false,.pv (zg za a0.fOut),.pv (agz a0),.pv (agt a0)]),(14,.pv (agt a0)),(13,.ptr 0 7),(12,.pv (agz a0)),(11,.ptr 0 6),(10,.pv (zg za a0.fOut)),(9,.ptr 0 5),(8,.pv (zg za a0.fWhere)),(7,.ptr 0 2)] ?_)))))
  obtain ⟨x1,h2,hm⟩:=bs hm
  refine dv 17 (Zh (by kernel_rfl) (aft h2) (by kernel_rfl) (by kernel_rfl) (by kernel_rfl)) (by kernel_rfl) (fq 2 [(1,aI a1),(2,.ptr 0 0),(5,aI (IntKind.wrap .i64 (1+x1)))] ?_)
  obtain ⟨k5,hk5,hm⟩:=zx hm
  refine mid (fun t H=>(∃ (y4:Int) (w3:AV),k5 y4=some r∧t=mk 55 [(1,aI a1),(2,.ptr 0 0),(5,aI y4),(21,w3)]∧H=[.box (zc2 a0) false])) ?_ ?_
  ·
   rintro _ _ ⟨y4,w3,hm,rfl,rfl⟩
   subst hk5
   obtain ⟨k9,hk9,hm⟩:=zx hm
   refine mid (fun t H=>(∃ (y6:Bool) (y7:Int) (y8:Int),k9 y7=some r∧t=mk 55 [(1,aI a1),(2,.ptr 0 0),(5,aI y7),(6,aI y8),(40,aB y6)]∧H=[.box (zc2 a0) false])) ?_ ?_
   ·
    rintro _ _ ⟨y6,y7,y8,hm,rfl,rfl⟩
    subst hk9
    refine sq (dn [(4,aI y7)] (wp_ret ?_))
    obtain rfl:=Option.some.inj hm
    exact ⟨trivial,by kernel_rfl⟩
   refine sq (dn [(1,aI a1),(2,.ptr 0 0),(5,aI y4),(6,aI 0)] (bq ?_))
   refine qq (fun mm t H=>(∃ (y12:Int) (y13:Int),qV n rc_ref25_Bulk a0 a1 k9 mm y12 y13=some r∧t=mk 55 [(1,aI a1),(2,.ptr 0 0),(5,aI y12),(6,aI y13)]∧H=[.box (zc2 a0) false])) (⟨y4,0,hm,rfl,rfl⟩) ?_ ?_
   · rintro _ _ ⟨y12,y13,hm,_⟩; exact nomatch hm
   rintro m14 _ _ ⟨y12,y13,hm,rfl,rfl⟩
   simp only [qV] at hm
   refine sq (sq (rg (s1 3 [(33,.pv (zg zd a0.fKids)),(32,.ptr 0 8),(31,aI y13)] (dv 34 (v:=aI ((sll a0.fKids).length:Int)) (zI zd a0.fKids t64 (by kernel_rfl)) (by kernel_rfl) (s1 2 [(36,aB (agH y13 a0)),(35,aB (agH y13 a0))] ?_)))))
   refine segP (agH y13 a0) [36,35] (fun b=>[(40,aB (b && (decide (y12≤a1)))),(39,ifA b (aB (decide (y12≤a1))) (.undef)),(38,ifA b (aI a1) (.undef)),(37,ifA b (aI y12) (.undef))]) 4 (by kernel_rfl) (by kernel_rfl) (by kernel_rfl) (fin [(1,aI a1),(2,.ptr 0 0),(5,aI y12),(6,aI y13),(40,aB ((decide (y13 < ((sll a0.fKids).length:Int))) && (decide (y12≤a1))))] rfl (by kernel_rfl) ?_)
   rcases zh hm with ⟨h15,hm⟩ | ⟨h15,hm⟩
   ·
    refine c1 h15 (wp_skip (sq (bq (rg (s1 4 [(46,aI y13),(45,.pv (zg zd a0.fKids)),(44,.ptr 0 8),(43,aI y12)] ?_)))))
    obtain ⟨x16,h17,hm⟩:=bs hm
    refine dv 47 (v:=.pv (.ptr (ZN (zq x16)) 0)) (aaK zd a0.fKids .i64 t64 t66 h17 (Zg x16) rfl (by kernel_rfl)) (by kernel_rfl) (s1 4 [(51,aI (IntKind.wrap .i64 (a1 - y12))),(50,aI y12),(49,aI a1),(48,.agg (zc3 x16))] ?_)
    obtain ⟨x18,h19,hm⟩:=bs hm
    refine dv 52 (Zh (by kernel_rfl) (ih_ref25_Bulk h19) (by kernel_rfl) (by kernel_rfl) (by kernel_rfl)) (by kernel_rfl) (fq 2 [(1,aI a1),(2,.ptr 0 0),(zp52 y12 x18),(6,aI y13)] (dn [(1,aI a1),(2,.ptr 0 0),(zp52 y12 x18),(zp50 y13)] ?_))
    exact ⟨_,_,ZC [(1,aI a1),(2,.ptr 0 0),(zp52 y12 x18),(zp50 y13)] [.box (zc2 a0) false] (by kernel_rfl),⟨(IntKind.wrap .i64 (y12+x18)),(zU y13),hm,rfl,rfl⟩⟩
   ·
    refine c0 h15 (wp_exit ?_)
    exact ⟨((decide (y13 < ((sll a0.fKids).length:Int))) && (decide (y12≤a1))),y12,y13,hm,rfl,rfl⟩
  refine sq (dn [(1,aI a1),(2,.ptr 0 0),(5,aI (IntKind.wrap .i64 (1+x1))),(21,aB (decide ((IntKind.wrap .i64 (1+x1))≤a1)))] ?_)
  rcases zh hm with ⟨h20,hm⟩ | ⟨h20,hm⟩
  ·
   refine c1 h20 (rg (s1 7 [(28,aI a1),(27,.agg [.pv .nils,.pv (ahU a0),aB false,.pv (zg za a0.fRight),.pv .nils,.pv .nils]),(26,.pv (zg za a0.fRight)),(25,.ptr 0 4),(24,.pv (ahU a0)),(23,.ptr 0 3),(22,aI (IntKind.wrap .i64 (1+x1)))] ?_))
   obtain ⟨x21,h22,hm⟩:=bs hm
   refine dv 29 (Zh (by kernel_rfl) (aft h22) (by kernel_rfl) (by kernel_rfl) (by kernel_rfl)) (by kernel_rfl) (fq 2 [(1,aI a1),(2,.ptr 0 0),(5,aI (IntKind.wrap .i64 ((IntKind.wrap .i64 (1+x1))+x21)))] ?_)
   exact ⟨(IntKind.wrap .i64 ((IntKind.wrap .i64 (1+x1))+x21)),.any,hm,(zT (by kernel_rfl)),rfl⟩
  ·
   refine c0 h20 (wp_skip ?_)
   exact ⟨(IntKind.wrap .i64 (1+x1)),aB (decide ((IntKind.wrap .i64 (1+x1))≤a1)),hm,(zT (by kernel_rfl)),rfl⟩
theorem aeQ:∀ (m:Nat),∀ {n:Nat} {a0:zb} {a1:Int} {r:Int} (hm:QY m n a0 a1=some r),call G n 113 [.agg (zc2 a0),aI a1] []=some (.ret (aI r),[])
  | 0=>by intros; rename_i hm; exact nomatch hm
  | m+1=>fun hm=>
    ai5 (aeQ m) hm
theorem ajP {n:Nat} {a0:zb} {a1:Int} {r:Int} (hm:afN n a0 a1=some r):
    call G n 113 [.agg (zc2 a0),aI a1] []=some (.ret (aI r),[]):=aeQ n hm
theorem aji {n:Nat} {a0:zb} {r:Bool} (hm:abP n a0=some r):
    call G n 29 [.agg (zc2 a0)] []=some (.ret (aB r),[]):=by
  unfold abP at hm
  obtain ⟨n,rfl,h0⟩:=zy hm
  replace hm:=h0; clear h0
  refine Z4 6 [(0,.agg (zc2 a0))] func29 rfl (by kernel_rfl) (sq (det [(1,.ptr 0 0)] [.box (zc2 a0) false] (by kernel_rfl) (sq (rg (s1 1 [(3,.agg (zc2 a0))] ?_)))))
  obtain ⟨x1,h2,hm⟩:=bs hm
  refine dv 4 (Zh (by kernel_rfl) (ajP h2) (by kernel_rfl) (by kernel_rfl) (by kernel_rfl)) (by kernel_rfl) (fq 2 [(2,aB (decide (x1 > 800)))] (wp_ret ?_))
  obtain rfl:=Option.some.inj hm
  exact ⟨trivial,by kernel_rfl⟩
theorem agT {n:Nat} {a0:Int} {r:Int} (hm:acu n a0=some r):
    call G n 174 [aI a0] []=some (.ret (aI r),[]):=by
  unfold acu at hm
  obtain ⟨n,rfl,h0⟩:=zy hm
  replace hm:=h0; clear h0
  refine Z4 14 [(0,aI a0)] func174 rfl (by kernel_rfl) (sq (dn [(0,aI a0)] (sq (sq (dn [(3,aI a0)] (bq (sq (dn [(3,aI a0),(4,aB (a0 == 1))] ?_))))))))
  rcases zh hm with ⟨h1,hm⟩ | ⟨h1,hm⟩
  ·
   refine c1 h1 (sq (dn [(2,aI 0)] (wp_ret ?_)))
   obtain rfl:=Option.some.inj hm
   exact ⟨trivial,by kernel_rfl⟩
  ·
   refine c0 h1 ?_
   obtain ⟨k3,hk3,hm⟩:=zx hm
   refine mid (fun t H=>(∃ (y2:Bool),k3 y2=some r∧t=mk 14 [(3,aI a0),(6,aB y2)]∧H=[])) ?_ ?_
   ·
    rintro _ _ ⟨y2,hm,rfl,rfl⟩
    subst hk3
    rcases zh hm with ⟨h4,hm⟩ | ⟨h4,hm⟩
    ·
     refine c1 h4 (sq (dn [(2,aI 1)] (wp_ret ?_)))
     obtain rfl:=Option.some.inj hm
     exact ⟨trivial,by kernel_rfl⟩
    ·
     refine c0 h4 (sq (sq (dn [(3,aI a0),(10,aB (a0 == 2))] ?_)))
     rcases zh hm with ⟨h5,hm⟩ | ⟨h5,hm⟩
     ·
      refine c1 h5 (wp_skip ?_)
      rcases zh hm with ⟨h6,hm⟩ | ⟨h6,hm⟩
      ·
       refine c1 h6 (sq (dn [(2,aI 2)] (wp_ret ?_)))
       obtain rfl:=Option.some.inj hm
       exact ⟨trivial,by kernel_rfl⟩
      ·
       refine c0 h6 (wp_skip (sq (dn [(2,aI (-1))] (wp_ret ?_))))
       obtain rfl:=Option.some.inj hm
       exact ⟨trivial,by kernel_rfl⟩
     ·
      refine c0 h5 (sq (dn [(3,aI a0),(10,aB (a0 == 3))] ?_))
      rcases zh hm with ⟨h7,hm⟩ | ⟨h7,hm⟩
      ·
       refine c1 h7 (wp_skip ?_)
       rcases zh hm with ⟨h8,hm⟩ | ⟨h8,hm⟩
       ·
        refine c1 h8 (sq (dn [(2,aI 2)] (wp_ret ?_)))
        obtain rfl:=Option.some.inj hm
        exact ⟨trivial,by kernel_rfl⟩
       ·
        refine c0 h8 (wp_skip (sq (dn [(2,aI (-1))] (wp_ret ?_))))
        obtain rfl:=Option.some.inj hm
        exact ⟨trivial,by kernel_rfl⟩
      ·
       refine c0 h7 (dn [(10,aB (a0 == 4))] ?_)
       rcases zh hm with ⟨h9,hm⟩ | ⟨h9,hm⟩
       ·
        refine c1 h9 (sq (dn [(2,aI 2)] (wp_ret ?_)))
        obtain rfl:=Option.some.inj hm
        exact ⟨trivial,by kernel_rfl⟩
       ·
        refine c0 h9 (wp_skip (sq (dn [(2,aI (-1))] (wp_ret ?_))))
        obtain rfl:=Option.some.inj hm
        exact ⟨trivial,by kernel_rfl⟩
   refine sq (dn [(3,aI a0),(6,aB (a0 == 5))] ?_)
   rcases zh hm with ⟨h10,hm⟩ | ⟨h10,hm⟩
   ·
    refine c1 h10 (wp_skip ?_)
    exact ⟨(a0 == 5),hm,rfl,rfl⟩
   ·
    refine c0 h10 (sq (dn [(3,aI a0),(6,aB (a0 == 6))] ?_))
    rcases zh hm with ⟨h11,hm⟩ | ⟨h11,hm⟩
    ·
     refine c1 h11 (wp_skip ?_)
     exact ⟨(a0 == 6),hm,rfl,rfl⟩
    ·
     refine c0 h11 (dn [(3,aI a0),(6,aB (a0 == 7))] ?_)
     exact ⟨(a0 == 7),hm,rfl,rfl⟩
abbrev zp53 (p0:zb):Nat × AV:=(7,aI ((sll p0.fOrder).length:Int))
abbrev zp54 (p0:zb):Nat × AV:=(6,aI ((sll p0.fAggs).length:Int))
abbrev zp55 (p0:zb):Nat × AV:=(5,aI ((sll p0.fOut).length:Int))
abbrev zp56 (p0:zb):Nat × AV:=(4,aI (IntKind.wrap .i64 (((sll p0.fLeft).length:Int)+((sll p0.fRight).length:Int))))
abbrev zp57 (p0:zb):Nat × AV:=(3,aI ((sll p0.fWhere).length:Int))
abbrev agi (p0:zb):=((sll p0.fWhere).length:Int)
abbrev aeV (p0:zb):=(IntKind.wrap .i64 (((sll p0.fLeft).length:Int)+((sll p0.fRight).length:Int)))
abbrev ahZ (p0:zb):=((sll p0.fOut).length:Int)
abbrev acU (p0:zb):=((sll p0.fAggs).length:Int)
abbrev acW (p0:zb):=((sll p0.fOrder).length:Int)
abbrev an4 (p0:zb):=(((sll p0.fLeft).length:Int) != ((sll p0.fRight).length:Int))
theorem ajS {n:Nat} {a0:zb} {r:Bool} (hm:acE n a0=some r):
    call G n 175 [.agg (zc2 a0)] []=some (.ret (aB r),[]):=by
  unfold acE at hm
  obtain ⟨n,rfl,h0⟩:=zy hm
  replace hm:=h0; clear h0
  refine Z4 68 [(0,.agg (zc2 a0))] func175 rfl (by kernel_rfl) (sq (det [(1,.ptr 0 0)] [.box (zc2 a0) false] (by kernel_rfl) (sq (rgd (shd 2 [(9,.pv (zg za a0.fWhere)),(8,.ptr 0 2)] (by kernel_rfl) (dvd 10 (v:=aI (agi a0)) (zI za a0.fWhere t23 (by kernel_rfl)) (by kernel_rfl) (shd 2 [(12,.pv (ahU a0)),(11,.ptr 0 3)] (by kernel_rfl) (dvd 13 (v:=aI ((sll a0.fLeft).length:Int)) (zI za a0.fLeft t23 (by kernel_rfl)) (by kernel_rfl) (shd 2 [(15,.pv (zg za a0.fRight)),(14,.ptr 0 4)] (by kernel_rfl) (dvd 16 (v:=aI ((sll a0.fRight).length:Int)) (zI za a0.fRight t23 (by kernel_rfl)) (by kernel_rfl) (shd 3 [(19,.pv (zg za a0.fOut)),(18,.ptr 0 5),(17,aI (aeV a0))] (by kernel_rfl) (dvd 20 (v:=aI (ahZ a0)) (zI za a0.fOut t23 (by kernel_rfl)) (by kernel_rfl) ?_))))))))))))
  refine shd 2 [(22,.pv (agz a0)),(21,.ptr 0 6)] (by kernel_rfl) (dvd 23 (v:=aI (acU a0)) (zI zi a0.fAggs t24 (by kernel_rfl)) (by kernel_rfl) (shd 2 [(25,.pv (agt a0)),(24,.ptr 0 7)] (by kernel_rfl) (dvd 26 (v:=aI (acW a0)) (zI zj a0.fOrder t25 (by kernel_rfl)) (by kernel_rfl) (shd 5 [(zp53 a0),(zp54 a0),(zp55 a0),(zp56 a0),(zp57 a0)] (by kernel_rfl) (find [(1,.ptr 0 0),(zp57 a0),(zp56 a0),(zp55 a0),(zp54 a0),(zp53 a0)] rfl (by kernel_rfl) (by kernel_rfl) ?_)))))
  obtain ⟨k7,hk7,hm⟩:=zx hm
  refine mid (fun t H=>(∃ (y2:Int) (y3:Int) (y4:Int) (y5:Int) (y6:Int) (w1:AV),k7 y2 y3 y4 y5 y6=some r∧t=mk 68 [(3,aI y2),(4,aI y3),(5,aI y4),(6,aI y5),(7,aI y6),(39,w1)]∧H=[.box (zc2 a0) false])) ?_ ?_
  ·
   rintro _ _ ⟨y2,y3,y4,y5,y6,w1,hm,rfl,rfl⟩
   subst hk7
   refine sq (dn [(2,aB ((IntKind.wrap .i64 ((IntKind.wrap .i64 ((IntKind.wrap .i64 ((IntKind.wrap .i64 (y2+y3))+y4))+y5))+y6)) == 0))] (wp_ret ?_))
   obtain rfl:=Option.some.inj hm
   exact ⟨trivial,by kernel_rfl⟩
  refine sq (dn [(1,.ptr 0 0),(zp57 a0),(zp56 a0),(zp55 a0),(zp54 a0),(zp53 a0),(28,aI a0.fKind)] (bq (sq (bq (sq (bq (sq (bq (sq (bq ?_))))))))))
  obtain ⟨k9,hk9,hm⟩:=zx hm
  refine mid (fun t H=>(∃ (y8:Bool),k9 ()=some r∧t=mk 68 [(1,.ptr 0 0),(zp57 a0),(zp56 a0),(zp55 a0),(zp54 a0),(zp53 a0),(28,aI a0.fKind),(29,aB y8)]∧H=[.box (zc2 a0) false])) ?_ ?_
  ·
   rintro _ _ ⟨y8,hm,rfl,rfl⟩
   subst hk9
   refine sq (sq (rg (s1 2 [(42,.pv (ahU a0)),(41,.ptr 0 3)] (dv 43 (v:=aI ((sll a0.fLeft).length:Int)) (zI za a0.fLeft t23 (by kernel_rfl)) (by kernel_rfl) (s1 2 [(45,.pv (zg za a0.fRight)),(44,.ptr 0 4)] (dv 46 (v:=aI ((sll a0.fRight).length:Int)) (zI za a0.fRight t23 (by kernel_rfl)) (by kernel_rfl) (s1 2 [(48,aB (an4 a0)),(47,aB (an4 a0))] ?_)))))))
   refine seg (an4 a0) [48,47] (fun b=>[(53,aB (b || (((sll a0.fLeft).length:Int) == 0))),(52,ifA b (.undef) (aB (((sll a0.fLeft).length:Int) == 0))),(51,ifA b (.undef) (aI ((sll a0.fLeft).length:Int))),(50,ifA b (.undef) (.pv (ahU a0))),(49,ifA b (.undef) (.ptr 0 3))]) 13 (by kernel_rfl) ?_ ?_ ?_
   ·
    intro Q h
    refine s1 5 [(53,aB true),(52,.undef),(51,.undef),(50,.undef),(49,.undef)] ?_
    exact ab9 (by kernel_rfl) (by kernel_rfl) h
   ·
    intro Q h
    refine s1 2 [(50,.pv (ahU a0)),(49,.ptr 0 3)] (dv 51 (v:=aI ((sll a0.fLeft).length:Int)) (zI za a0.fLeft t23 (by kernel_rfl)) (by kernel_rfl) (s1 2 [(53,aB (((sll a0.fLeft).length:Int) == 0)),(52,aB (((sll a0.fLeft).length:Int) == 0))] ?_))
    exact ab9 (by kernel_rfl) (by kernel_rfl) h
   refine fin [(zp55 a0),(zp54 a0),(zp53 a0),(53,aB ((((sll a0.fLeft).length:Int) != ((sll a0.fRight).length:Int)) || (((sll a0.fLeft).length:Int) == 0)))] rfl (by kernel_rfl) ?_
   rcases zh hm with ⟨h10,hm⟩ | ⟨h10,hm⟩
   ·
    refine c1 h10 (sq (dn [(2,aB false)] (wp_ret ?_)))
    obtain rfl:=Option.some.inj hm
    exact ⟨trivial,by kernel_rfl⟩
   ·
    refine c0 h10 (wp_skip (dn [(4,aI 0),(zp55 a0),(zp54 a0),(zp53 a0)] (sq (dn [(3,aI 0),(4,aI 0),(zp55 a0),(zp54 a0),(zp53 a0)] (wp_exit ?_)))))
    exact ⟨0,0,(ahZ a0),(acU a0),(acW a0),.any,hm,(zT (by kernel_rfl)),rfl⟩
  refine bq (sq ?_)
  obtain ⟨k12,hk12,hm⟩:=zx hm
  refine mid (fun t H=>(∃ (y11:Bool),k12 ()=some r∧t=mk 68 [(1,.ptr 0 0),(zp57 a0),(zp56 a0),(zp55 a0),(zp54 a0),(zp53 a0),(28,aI a0.fKind),(29,aB y11)]∧H=[.box (zc2 a0) false])) ?_ ?_
  ·
   rintro _ _ ⟨y11,hm,rfl,rfl⟩
   subst hk12
   refine sq (sq (sq (dn [(zp57 a0),(zp56 a0),(zp55 a0),(zp54 a0),(zp53 a0),(28,aI a0.fKind),(32,aB (a0.fKind == 1))] ?_)))
   rcases zh hm with ⟨h13,hm⟩ | ⟨h13,hm⟩
   ·
    refine c1 h13 (wp_skip ?_)
    rcases zh hm with ⟨h14,hm⟩ | ⟨h14,hm⟩
    ·
     refine c1 h14 (wp_exit (sq (dn [(3,aI 0),(zp56 a0),(zp55 a0),(zp54 a0),(zp53 a0)] (wp_exit ?_))))
     exact ⟨0,(aeV a0),(ahZ a0),(acU a0),(acW a0),.any,hm,(zT (by kernel_rfl)),rfl⟩
    ·
     refine c0 h14 (wp_skip (sq (sq (dn [(zp57 a0),(zp56 a0),(zp55 a0),(zp54 a0),(zp53 a0),(28,aI a0.fKind),(35,aB (a0.fKind == 6))] ?_))))
     rcases zh hm with ⟨h15,hm⟩ | ⟨h15,hm⟩
     ·
      refine c1 h15 (wp_exit (sq (sq (sq (dn [(zp57 a0),(zp56 a0),(zp54 a0),(zp53 a0),(55,aB (((sll a0.fOut).length:Int) == 0))] ?_)))))
      rcases zh hm with ⟨h16,hm⟩ | ⟨h16,hm⟩
      ·
       refine c1 h16 (sq (dn [(2,aB false)] (wp_ret ?_)))
       obtain rfl:=Option.some.inj hm
       exact ⟨trivial,by kernel_rfl⟩
      ·
       refine c0 h16 (wp_skip (dn [(zp57 a0),(zp56 a0),(5,aI 0),(zp54 a0),(zp53 a0)] (wp_exit ?_)))
       exact ⟨(agi a0),(aeV a0),0,(acU a0),(acW a0),.any,hm,(zT (by kernel_rfl)),rfl⟩
     ·
      refine c0 h15 (wp_skip (sq (sq (dn [(zp57 a0),(zp56 a0),(zp55 a0),(zp54 a0),(zp53 a0),(28,aI a0.fKind),(37,aB (a0.fKind == 5))] ?_))))
      rcases zh hm with ⟨h17,hm⟩ | ⟨h17,hm⟩
      ·
       refine c1 h17 (wp_exit (sq (dn [(zp57 a0),(zp56 a0),(5,aI 0),(6,aI 0),(zp53 a0)] (wp_exit ?_))))
       exact ⟨(agi a0),(aeV a0),0,0,(acW a0),.any,hm,(zT (by kernel_rfl)),rfl⟩
      ·
       refine c0 h17 (wp_skip (sq (dn [(zp57 a0),(zp56 a0),(zp55 a0),(zp54 a0),(zp53 a0),(39,aB (a0.fKind == 7))] ?_)))
       rcases zh hm with ⟨h18,hm⟩ | ⟨h18,hm⟩
       ·
        refine c1 h18 (wp_exit (sq (sq (sq (dn [(zp57 a0),(zp56 a0),(zp55 a0),(zp54 a0),(57,aB (((sll a0.fOrder).length:Int) == 0))] ?_)))))
        rcases zh hm with ⟨h19,hm⟩ | ⟨h19,hm⟩
        ·
         refine c1 h19 (sq (dn [(2,aB false)] (wp_ret ?_)))
         obtain rfl:=Option.some.inj hm
         exact ⟨trivial,by kernel_rfl⟩
        ·
         refine c0 h19 (wp_skip (dn [(zp57 a0),(zp56 a0),(zp55 a0),(zp54 a0),(7,aI 0)] (wp_exit ?_)))
         exact ⟨(agi a0),(aeV a0),(ahZ a0),(acU a0),0,.any,hm,(zT (by kernel_rfl)),rfl⟩
       ·
        refine c0 h18 (wp_skip (wp_exit ?_))
        exact ⟨(agi a0),(aeV a0),(ahZ a0),(acU a0),(acW a0),aB (a0.fKind == 7),hm,(zT (by kernel_rfl)),rfl⟩
   ·
    refine c0 h13 (dn [(zp57 a0),(zp56 a0),(zp55 a0),(zp54 a0),(zp53 a0),(28,aI a0.fKind),(32,aB (a0.fKind == 2))] ?_)
    rcases zh hm with ⟨h20,hm⟩ | ⟨h20,hm⟩
    ·
     refine c1 h20 (wp_exit (sq (dn [(3,aI 0),(zp56 a0),(zp55 a0),(zp54 a0),(zp53 a0)] (wp_exit ?_))))
     exact ⟨0,(aeV a0),(ahZ a0),(acU a0),(acW a0),.any,hm,(zT (by kernel_rfl)),rfl⟩
    ·
     refine c0 h20 (wp_skip (sq (sq (dn [(zp57 a0),(zp56 a0),(zp55 a0),(zp54 a0),(zp53 a0),(28,aI a0.fKind),(35,aB (a0.fKind == 6))] ?_))))
     rcases zh hm with ⟨h21,hm⟩ | ⟨h21,hm⟩
     ·
      refine c1 h21 (wp_exit (sq (sq (sq (dn [(zp57 a0),(zp56 a0),(zp54 a0),(zp53 a0),(55,aB (((sll a0.fOut).length:Int) == 0))] ?_)))))
      rcases zh hm with ⟨h22,hm⟩ | ⟨h22,hm⟩
      ·
       refine c1 h22 (sq (dn [(2,aB false)] (wp_ret ?_)))
       obtain rfl:=Option.some.inj hm
       exact ⟨trivial,by kernel_rfl⟩
      ·
       refine c0 h22 (wp_skip (dn [(zp57 a0),(zp56 a0),(5,aI 0),(zp54 a0),(zp53 a0)] (wp_exit ?_)))
       exact ⟨(agi a0),(aeV a0),0,(acU a0),(acW a0),.any,hm,(zT (by kernel_rfl)),rfl⟩
     ·
      refine c0 h21 (wp_skip (sq (sq (dn [(zp57 a0),(zp56 a0),(zp55 a0),(zp54 a0),(zp53 a0),(28,aI a0.fKind),(37,aB (a0.fKind == 5))] ?_))))
      rcases zh hm with ⟨h23,hm⟩ | ⟨h23,hm⟩
      ·
       refine c1 h23 (wp_exit (sq (dn [(zp57 a0),(zp56 a0),(5,aI 0),(6,aI 0),(zp53 a0)] (wp_exit ?_))))
       exact ⟨(agi a0),(aeV a0),0,0,(acW a0),.any,hm,(zT (by kernel_rfl)),rfl⟩
      ·
       refine c0 h23 (wp_skip (sq (dn [(zp57 a0),(zp56 a0),(zp55 a0),(zp54 a0),(zp53 a0),(39,aB (a0.fKind == 7))] ?_)))
       rcases zh hm with ⟨h24,hm⟩ | ⟨h24,hm⟩
       ·
        refine c1 h24 (wp_exit (sq (sq (sq (dn [(zp57 a0),(zp56 a0),(zp55 a0),(zp54 a0),(57,aB (((sll a0.fOrder).length:Int) == 0))] ?_)))))
        rcases zh hm with ⟨h25,hm⟩ | ⟨h25,hm⟩
        ·
         refine c1 h25 (sq (dn [(2,aB false)] (wp_ret ?_)))
         obtain rfl:=Option.some.inj hm
         exact ⟨trivial,by kernel_rfl⟩
        ·
         refine c0 h25 (wp_skip (dn [(zp57 a0),(zp56 a0),(zp55 a0),(zp54 a0),(7,aI 0)] (wp_exit ?_)))
         exact ⟨(agi a0),(aeV a0),(ahZ a0),(acU a0),0,.any,hm,(zT (by kernel_rfl)),rfl⟩
       ·
        refine c0 h24 (wp_skip (wp_exit ?_))
        exact ⟨(agi a0),(aeV a0),(ahZ a0),(acU a0),(acW a0),aB (a0.fKind == 7),hm,(zT (by kernel_rfl)),rfl⟩
  refine sq (sq (dn [(1,.ptr 0 0),(zp57 a0),(zp56 a0),(zp55 a0),(zp54 a0),(zp53 a0),(28,aI a0.fKind),(29,aB (a0.fKind == 3))] ?_))
  rcases zh hm with ⟨h26,hm⟩ | ⟨h26,hm⟩
  ·
   refine c1 h26 (wp_skip ?_)
   rcases zh hm with ⟨h27,hm⟩ | ⟨h27,hm⟩
   ·
    refine c1 h27 (wp_exit ?_)
    exact ⟨(a0.fKind == 3),hm,rfl,rfl⟩
   ·
    refine c0 h27 (wp_skip ?_)
    exact ⟨(a0.fKind == 3),hm,rfl,rfl⟩
  ·
   refine c0 h26 (dn [(1,.ptr 0 0),(zp57 a0),(zp56 a0),(zp55 a0),(zp54 a0),(zp53 a0),(28,aI a0.fKind),(29,aB (a0.fKind == 4))] ?_)
   rcases zh hm with ⟨h28,hm⟩ | ⟨h28,hm⟩
   ·
    refine c1 h28 (wp_exit ?_)
    exact ⟨(a0.fKind == 4),hm,rfl,rfl⟩
   ·
    refine c0 h28 (wp_skip ?_)
    exact ⟨(a0.fKind == 4),hm,rfl,rfl⟩
theorem agR {n:Nat} {a0:Int} {r:Int} (hm:acq n a0=some r):
    call G n 192 [aI a0] []=some (.ret (aI r),[]):=by
  unfold acq at hm
  obtain ⟨n,rfl,h0⟩:=zy hm
  replace hm:=h0; clear h0
  refine Z4 20 [(0,aI a0)] func192 rfl (by kernel_rfl) (sq (dn [(0,aI a0)] (sq (sq (dn [(3,aI a0)] (bq ?_))))))
  obtain ⟨k2,hk2,hm⟩:=zx hm
  refine mid (fun t H=>(∃ (y1:Bool),k2 y1=some r∧t=mk 20 [(3,aI a0),(4,aB y1)]∧H=[])) ?_ ?_
  ·
   rintro _ _ ⟨y1,hm,rfl,rfl⟩
   subst hk2
   rcases zh hm with ⟨h3,hm⟩ | ⟨h3,hm⟩
   ·
    refine c1 h3 (sq (dn [(2,aI 0)] (wp_ret ?_)))
    obtain rfl:=Option.some.inj hm
    exact ⟨trivial,by kernel_rfl⟩
   ·
    refine c0 h3 ?_
    obtain ⟨k5,hk5,hm⟩:=zx hm
    refine mid (fun t H=>(∃ (y4:Bool),k5 y4=some r∧t=mk 20 [(3,aI a0),(7,aB y4)]∧H=[])) ?_ ?_
    ·
     rintro _ _ ⟨y4,hm,rfl,rfl⟩
     subst hk5
     rcases zh hm with ⟨h6,hm⟩ | ⟨h6,hm⟩
     ·
      refine c1 h6 (sq (dn [(2,aI 1)] (wp_ret ?_)))
      obtain rfl:=Option.some.inj hm
      exact ⟨trivial,by kernel_rfl⟩
     ·
      refine c0 h6 (sq (sq (dn [(3,aI a0),(11,aB (a0 == 3))] ?_)))
      rcases zh hm with ⟨h7,hm⟩ | ⟨h7,hm⟩
      ·
       refine c1 h7 (wp_skip ?_)
       rcases zh hm with ⟨h8,hm⟩ | ⟨h8,hm⟩
       ·
        refine c1 h8 (sq (dn [(2,aI 2)] (wp_ret ?_)))
        obtain rfl:=Option.some.inj hm
        exact ⟨trivial,by kernel_rfl⟩
       ·
        refine c0 h8 (wp_skip (sq (dn [(2,aI (-1))] (wp_ret ?_))))
        obtain rfl:=Option.some.inj hm
        exact ⟨trivial,by kernel_rfl⟩
      ·
       refine c0 h7 (sq (dn [(3,aI a0),(11,aB (a0 == 4))] ?_))
       rcases zh hm with ⟨h9,hm⟩ | ⟨h9,hm⟩
       ·
        refine c1 h9 (wp_skip ?_)
        rcases zh hm with ⟨h10,hm⟩ | ⟨h10,hm⟩
        ·
         refine c1 h10 (sq (dn [(2,aI 2)] (wp_ret ?_)))
         obtain rfl:=Option.some.inj hm
         exact ⟨trivial,by kernel_rfl⟩
        ·
         refine c0 h10 (wp_skip (sq (dn [(2,aI (-1))] (wp_ret ?_))))
         obtain rfl:=Option.some.inj hm
         exact ⟨trivial,by kernel_rfl⟩
       ·
        refine c0 h9 (sq (dn [(3,aI a0),(11,aB (a0 == 5))] ?_))
        rcases zh hm with ⟨h11,hm⟩ | ⟨h11,hm⟩
        ·
         refine c1 h11 (wp_skip ?_)
         rcases zh hm with ⟨h12,hm⟩ | ⟨h12,hm⟩
         ·
          refine c1 h12 (sq (dn [(2,aI 2)] (wp_ret ?_)))
          obtain rfl:=Option.some.inj hm
          exact ⟨trivial,by kernel_rfl⟩
         ·
          refine c0 h12 (wp_skip (sq (dn [(2,aI (-1))] (wp_ret ?_))))
          obtain rfl:=Option.some.inj hm
          exact ⟨trivial,by kernel_rfl⟩
        ·
         refine c0 h11 (sq (dn [(3,aI a0),(11,aB (a0 == 7))] ?_))
         rcases zh hm with ⟨h13,hm⟩ | ⟨h13,hm⟩
         ·
          refine c1 h13 (wp_skip ?_)
          rcases zh hm with ⟨h14,hm⟩ | ⟨h14,hm⟩
          ·
           refine c1 h14 (sq (dn [(2,aI 2)] (wp_ret ?_)))
           obtain rfl:=Option.some.inj hm
           exact ⟨trivial,by kernel_rfl⟩
          ·
           refine c0 h14 (wp_skip (sq (dn [(2,aI (-1))] (wp_ret ?_))))
           obtain rfl:=Option.some.inj hm
           exact ⟨trivial,by kernel_rfl⟩
         ·
          refine c0 h13 (sq (dn [(3,aI a0),(11,aB (a0 == 8))] ?_))
          rcases zh hm with ⟨h15,hm⟩ | ⟨h15,hm⟩
          ·
           refine c1 h15 (wp_skip ?_)
           rcases zh hm with ⟨h16,hm⟩ | ⟨h16,hm⟩
           ·
            refine c1 h16 (sq (dn [(2,aI 2)] (wp_ret ?_)))
            obtain rfl:=Option.some.inj hm
            exact ⟨trivial,by kernel_rfl⟩
           ·
            refine c0 h16 (wp_skip (sq (dn [(2,aI (-1))] (wp_ret ?_))))
            obtain rfl:=Option.some.inj hm
            exact ⟨trivial,by kernel_rfl⟩
          ·
           refine c0 h15 (sq (dn [(3,aI a0),(11,aB (a0 == 9))] ?_))
           rcases zh hm with ⟨h17,hm⟩ | ⟨h17,hm⟩
           ·
            refine c1 h17 (wp_skip ?_)
            rcases zh hm with ⟨h18,hm⟩ | ⟨h18,hm⟩
            ·
             refine c1 h18 (sq (dn [(2,aI 2)] (wp_ret ?_)))
             obtain rfl:=Option.some.inj hm
             exact ⟨trivial,by kernel_rfl⟩
            ·
             refine c0 h18 (wp_skip (sq (dn [(2,aI (-1))] (wp_ret ?_))))
             obtain rfl:=Option.some.inj hm
             exact ⟨trivial,by kernel_rfl⟩
           ·
            refine c0 h17 (sq (dn [(3,aI a0),(11,aB (a0 == 10))] ?_))
            rcases zh hm with ⟨h19,hm⟩ | ⟨h19,hm⟩
            ·
             refine c1 h19 (wp_skip ?_)
             rcases zh hm with ⟨h20,hm⟩ | ⟨h20,hm⟩
             ·
              refine c1 h20 (sq (dn [(2,aI 2)] (wp_ret ?_)))
              obtain rfl:=Option.some.inj hm
              exact ⟨trivial,by kernel_rfl⟩
             ·
              refine c0 h20 (wp_skip (sq (dn [(2,aI (-1))] (wp_ret ?_))))
              obtain rfl:=Option.some.inj hm
              exact ⟨trivial,by kernel_rfl⟩
            ·
             refine c0 h19 (dn [(11,aB (a0 == 11))] ?_)
             rcases zh hm with ⟨h21,hm⟩ | ⟨h21,hm⟩
             ·
              refine c1 h21 (sq (dn [(2,aI 2)] (wp_ret ?_)))
              obtain rfl:=Option.some.inj hm
              exact ⟨trivial,by kernel_rfl⟩
             ·
              refine c0 h21 (wp_skip (sq (dn [(2,aI (-1))] (wp_ret ?_))))
              obtain rfl:=Option.some.inj hm
              exact ⟨trivial,by kernel_rfl⟩
    refine sq (dn [(3,aI a0),(7,aB (a0 == 6))] ?_)
    rcases zh hm with ⟨h22,hm⟩ | ⟨h22,hm⟩
    ·
     refine c1 h22 (wp_skip ?_)
     exact ⟨(a0 == 6),hm,rfl,rfl⟩
    ·
     refine c0 h22 (sq (dn [(3,aI a0),(7,aB (a0 == 12))] ?_))
     rcases zh hm with ⟨h23,hm⟩ | ⟨h23,hm⟩
     ·
      refine c1 h23 (wp_skip ?_)
      exact ⟨(a0 == 12),hm,rfl,rfl⟩
     ·
      refine c0 h23 (dn [(3,aI a0),(7,aB (a0 == 13))] ?_)
      exact ⟨(a0 == 13),hm,rfl,rfl⟩
  refine sq (dn [(3,aI a0),(4,aB (a0 == 1))] ?_)
  rcases zh hm with ⟨h24,hm⟩ | ⟨h24,hm⟩
  ·
   refine c1 h24 (wp_skip ?_)
   exact ⟨(a0 == 1),hm,rfl,rfl⟩
  ·
   refine c0 h24 (dn [(3,aI a0),(4,aB (a0 == 2))] ?_)
   exact ⟨(a0 == 2),hm,rfl,rfl⟩
theorem adv {n:Nat} {a0:Int} {r:Bool} (hm:aaS n a0=some r):
    call G n 249 [aI a0] []=some (.ret (aB r),[]):=by
  unfold aaS at hm
  obtain ⟨n,rfl,h0⟩:=zy hm
  replace hm:=h0; clear h0
  refine Z4 9 [(0,aI a0)] func249 rfl (by kernel_rfl) (sq (dn [(0,aI a0)] (sq (rg (s1 3 [(5,aB (decide (a0≥0))),(4,aB (decide (a0≥0))),(3,aI a0)] ?_)))))
  refine segP (decide (a0≥0)) [5,4] (fun b=>[(8,aB (b && (decide (a0≤31)))),(7,ifA b (aB (decide (a0≤31))) (.undef)),(6,ifA b (aI a0) (.undef))]) 3 (by kernel_rfl) (by kernel_rfl) (by kernel_rfl) (fq 1 [(2,aB ((decide (a0≥0)) && (decide (a0≤31))))] (wp_ret ?_))
  obtain rfl:=Option.some.inj hm
  exact ⟨trivial,by kernel_rfl⟩
theorem ah8 {n:Nat} {a0:Nat} {r:Bool} (hm:acn n a0=some r):
    call G n 250 [aF a0] []=some (.ret (aB r),[]):=by
  unfold acn at hm
  obtain ⟨n,rfl,h0⟩:=zy hm
  replace hm:=h0; clear h0
  refine Z4 7 [(0,aF a0)] func250 rfl (by kernel_rfl) (sq (dn [(0,aF a0)] (sq (rg (s1 1 [(3,aF a0)] (s1 1 [(4,aU (a0:Int))] (fq 3 [(2,aB (decide ((IntKind.wrap .i64 (a0:Int)) < 0)))] (wp_ret ?_))))))))
  obtain rfl:=Option.some.inj hm
  exact ⟨trivial,by kernel_rfl⟩
abbrev zc4 (p0:zl):List AV:=[aI p0.fKind,aI p0.fInt,aF p0.fFloat,aS p0.fText]
theorem acP {n:Nat} {a0:zl} {r:Bool} (hm:QP n a0=some r):
    call G n 227 [.agg (zc4 a0)] []=some (.ret (aB r),[]):=by
  unfold QP at hm
  obtain ⟨n,rfl,h0⟩:=zy hm
  replace hm:=h0; clear h0
  refine Z4 70 [(0,.agg (zc4 a0))] func227 rfl (by kernel_rfl) (sq (det [(1,.ptr 0 0)] [.box (zc4 a0) false] (by kernel_rfl) ?_))
  obtain ⟨k2,hk2,hm⟩:=zx hm
  refine mid (fun t H=>(∃ (y1:Bool),k2 y1=some r∧t=mk 70 [(1,.ptr 0 0),(3,aB y1)]∧H=[.box (zc4 a0) false])) ?_ ?_
  ·
   rintro _ _ ⟨y1,hm,rfl,rfl⟩
   subst hk2
   refine sq (sq (dn [(1,.ptr 0 0),(3,aB y1),(14,aI a0.fKind)] (bq ?_)))
   refine sq (bq ?_)
   refine sq (bq ?_)
   obtain ⟨k6,hk6,hm⟩:=zx hm
   refine mid (fun t H=>(∃ (w3:AV) (w4:AV) (w5:AV),k6 ()=some r∧t=mk 70 [(1,.ptr 0 0),(3,aB y1),(14,w3),(19,w4),(43,w5)]∧H=[.box (zc4 a0) false])) ?_ ?_
   ·
    rintro _ _ ⟨w3,w4,w5,hm,rfl,rfl⟩
    subst hk6
    refine sq (sq (rg (s1 2 [(45,aB y1),(44,aB y1)] ?_)))
    refine segP y1 [45,44,3] (fun b=>[(49,aB (b && (sEq a0.fText ByteArray.empty))),(48,ifA b (aB (sEq a0.fText ByteArray.empty)) (.undef)),(47,ifA b (aS a0.fText) (.undef)),(46,ifA b (.ptr 0 3) (.undef))]) 4 (by kernel_rfl) (by kernel_rfl) (by kernel_rfl) (fq 1 [(2,aB (y1 && (sEq a0.fText ByteArray.empty)))] (wp_ret ?_))
    obtain rfl:=Option.some.inj hm
    exact ⟨trivial,by kernel_rfl⟩
   refine bq ?_
   refine sq (bq ?_)
   refine sq (bq (sq ?_))
   refine sq (sq (dn [(1,.ptr 0 0),(3,aB y1),(14,aI a0.fKind),(15,aB (a0.fKind == 0))] ?_))
   rcases zh hm with ⟨h7,hm⟩ | ⟨h7,hm⟩
   ·
    refine c1 h7 (wp_exit (sq (sq (rg (s1 4 [(28,aB (a0.fInt == 0)),(27,aB (a0.fInt == 0)),(26,aI a0.fInt),(25,.ptr 0 1)] ?_)))))
    refine segP (a0.fInt == 0) [28,27] (fun b=>[(30,aB (b && y1)),(29,ifA b (aB y1) (.undef))]) 2 (by kernel_rfl) (by kernel_rfl) (by kernel_rfl) (s1 1 [(31,aB ((a0.fInt == 0) && y1))] ?_)
    refine segP ((a0.fInt == 0) && y1) [31,30] (fun b=>[(35,aB (b && (sEq a0.fText ByteArray.empty))),(34,ifA b (aB (sEq a0.fText ByteArray.empty)) (.undef)),(33,ifA b (aS a0.fText) (.undef)),(32,ifA b (.ptr 0 3) (.undef))]) 4 (by kernel_rfl) (by kernel_rfl) (by kernel_rfl) (fq 1 [(2,aB (((a0.fInt == 0) && y1) && (sEq a0.fText ByteArray.empty)))] (wp_ret ?_))
    obtain rfl:=Option.some.inj hm
    exact ⟨trivial,by kernel_rfl⟩
   ·
    refine c0 h7 (wp_skip (sq (sq (dn [(1,.ptr 0 0),(3,aB y1),(14,aI a0.fKind),(17,aB (a0.fKind == 1))] ?_))))
    rcases zh hm with ⟨h8,hm⟩ | ⟨h8,hm⟩
    ·
     refine c1 h8 (wp_exit (sq (rg (s1 4 [(39,aB (a0.fInt != 0)),(38,aB (a0.fInt != 0)),(37,aI a0.fInt),(36,.ptr 0 1)] ?_))))
     refine segP (a0.fInt != 0) [39,38] (fun b=>[(43,aB (b && (a0.fInt != 1))),(42,ifA b (aB (a0.fInt != 1)) (.undef)),(41,ifA b (aI a0.fInt) (.undef)),(40,ifA b (.ptr 0 1) (.undef))]) 4 (by kernel_rfl) (by kernel_rfl) (by kernel_rfl) (fin [(1,.ptr 0 0),(3,aB y1),(43,aB ((a0.fInt != 0) && (a0.fInt != 1)))] rfl (by kernel_rfl) ?_)
     rcases zh hm with ⟨h9,hm⟩ | ⟨h9,hm⟩
     ·
      refine c1 h9 (sq (dn [(2,aB false)] (wp_ret ?_)))
      obtain rfl:=Option.some.inj hm
      exact ⟨trivial,by kernel_rfl⟩
     ·
      refine c0 h9 (wp_skip ?_)
      exact ⟨.any,.any,aB ((a0.fInt != 0) && (a0.fInt != 1)),hm,(zT (by kernel_rfl)),rfl⟩
    ·
     refine c0 h8 (wp_skip (sq (sq (dn [(1,.ptr 0 0),(3,aB y1),(14,aI a0.fKind),(19,aB (a0.fKind == 2))] ?_))))
     rcases zh hm with ⟨h10,hm⟩ | ⟨h10,hm⟩
     ·
      refine c1 h10 (wp_exit ?_)
      exact ⟨aI a0.fKind,aB (a0.fKind == 2),.any,hm,(zT (by kernel_rfl)),rfl⟩
     ·
      refine c0 h10 (wp_skip (sq (sq (dn [(1,.ptr 0 0),(3,aB y1),(14,aI a0.fKind),(21,aB (a0.fKind == 3))] ?_))))
      rcases zh hm with ⟨h11,hm⟩ | ⟨h11,hm⟩
      ·
       refine c1 h11 (wp_exit (sq (sq (rg (s1 4 [(53,aB (a0.fInt == 0)),(52,aB (a0.fInt == 0)),(51,aI a0.fInt),(50,.ptr 0 1)] ?_)))))
       refine segP (a0.fInt == 0) [53,52] (fun b=>[(57,aB (b && (sEq a0.fText ByteArray.empty))),(56,ifA b (aB (sEq a0.fText ByteArray.empty)) (.undef)),(55,ifA b (aS a0.fText) (.undef)),(54,ifA b (.ptr 0 3) (.undef))]) 4 (by kernel_rfl) (by kernel_rfl) (by kernel_rfl) (fq 1 [(2,aB ((a0.fInt == 0) && (sEq a0.fText ByteArray.empty)))] (wp_ret ?_))
       obtain rfl:=Option.some.inj hm
       exact ⟨trivial,by kernel_rfl⟩
      ·
       refine c0 h11 (wp_skip (sq (dn [(1,.ptr 0 0),(3,aB y1),(23,aB (a0.fKind == 4))] ?_)))
       rcases zh hm with ⟨h12,hm⟩ | ⟨h12,hm⟩
       ·
        refine c1 h12 (wp_exit (sq (sq (rg (s1 4 [(61,aB (a0.fInt == 0)),(60,aB (a0.fInt == 0)),(59,aI a0.fInt),(58,.ptr 0 1)] ?_)))))
        refine segP (a0.fInt == 0) [61,60] (fun b=>[(63,aB (b && y1)),(62,ifA b (aB y1) (.undef))]) 2 (by kernel_rfl) (by kernel_rfl) (by kernel_rfl) (s1 1 [(64,aB ((a0.fInt == 0) && y1))] ?_)
        refine segP ((a0.fInt == 0) && y1) [64,63] (fun b=>[(69,aB (b && (decide ((a0.fText.size:Int)≤64)))),(68,ifA b (aB (decide ((a0.fText.size:Int)≤64))) (.undef)),(67,ifA b (aI (a0.fText.size:Int)) (.undef)),(66,ifA b (aS a0.fText) (.undef)),(65,ifA b (.ptr 0 3) (.undef))]) 5 (by kernel_rfl) (by kernel_rfl) (by kernel_rfl) (fq 1 [(2,aB (((a0.fInt == 0) && y1) && (decide ((a0.fText.size:Int)≤64))))] (wp_ret ?_))
        obtain rfl:=Option.some.inj hm
        exact ⟨trivial,by kernel_rfl⟩
       ·
        refine c0 h12 (wp_skip (wp_exit (sq (dn [(2,aB false)] (wp_ret ?_)))))
        obtain rfl:=Option.some.inj hm
        exact ⟨trivial,by kernel_rfl⟩
  refine rg (s1 4 [(7,aB ((FloatKind.format .f64).order a0.fFloat 0 == some .eq)),(6,aB ((FloatKind.format .f64).order a0.fFloat 0 == some .eq)),(5,aF a0.fFloat),(4,.ptr 0 2)] ?_)
  rcases zh hm with ⟨h13,hm⟩ | ⟨h13,hm⟩
  ·
   refine known [7,6] h13 (by kernel_rfl) (s1 2 [(9,aF a0.fFloat),(8,.ptr 0 2)] ?_)
   obtain ⟨x14,h15,hm⟩:=bs hm
   refine dv 10 (Zh (by kernel_rfl) (ah8 h15) (by kernel_rfl) (by kernel_rfl) (by kernel_rfl)) (by kernel_rfl) (fq 3 [(1,.ptr 0 0),(3,aB (!x14))] ?_)
   exact ⟨(!x14),hm,rfl,rfl⟩
  ·
   refine known [7,6] h13 (by kernel_rfl) (fq 6 [(1,.ptr 0 0),(3,aB false)] ?_)
   exact ⟨false,hm,rfl,rfl⟩
abbrev zc5 (p0:zm):List AV:=[aI p0.fKind,aI p0.fRel,aI p0.fCol,aI p0.fConst.fKind,aI p0.fConst.fInt,aF p0.fConst.fFloat,aS p0.fConst.fText,.pv (zg za p0.fKids)]
abbrev zc6 (p0:zm):List AV:=[aI p0.fConst.fKind,aI p0.fConst.fInt,aF p0.fConst.fFloat,aS p0.fConst.fText]
theorem ai6 {n:Nat} {a0:zm} {r:Bool} (hm:abQ n a0=some r):
    call G n 226 [.agg (zc5 a0)] []=some (.ret (aB r),[]):=by
  unfold abQ at hm
  obtain ⟨n,rfl,h0⟩:=zy hm
  replace hm:=h0; clear h0
  refine Z4 45 [(0,.agg (zc5 a0))] func226 rfl (by kernel_rfl) (sq (det [(1,.ptr 0 0)] [.box (zc5 a0) false] (by kernel_rfl) (sq (dn [(1,.ptr 0 0),(3,.pv (.fn 249 [] []))] ?_))))
  refine sq (sq (rg (s1 4 [(7,aB (a0.fKind != 1)),(6,aB (a0.fKind != 1)),(5,aI a0.fKind),(4,.ptr 0 0)] ?_)))
  refine seg (a0.fKind != 1) [7,6] (fun b=>[(16,aB (b && ((a0.fRel != 0) || (a0.fCol != 0)))),(15,ifA b (aB ((a0.fRel != 0) || (a0.fCol != 0))) (.undef)),(14,ifA b (ifA (a0.fRel != 0) (.undef) (aB (a0.fCol != 0))) (.undef)),(13,ifA b (ifA (a0.fRel != 0) (.undef) (aI a0.fCol)) (.undef)),(12,ifA b (ifA (a0.fRel != 0) (.undef) (.ptr 0 2)) (.undef)),(11,ifA b (aB (a0.fRel != 0)) (.undef)),(10,ifA b (aB (a0.fRel != 0)) (.undef)),(9,ifA b (aI a0.fRel) (.undef)),(8,ifA b (.ptr 0 1) (.undef))]) 13 (by kernel_rfl) ?_ ?_ ?_
  ·
   intro Q h
   refine s1 4 [(11,aB (a0.fRel != 0)),(10,aB (a0.fRel != 0)),(9,aI a0.fRel),(8,.ptr 0 1)] ?_
   refine segP (a0.fRel != 0) [11,10] (fun b=>[(15,aB (b || (a0.fCol != 0))),(14,ifA b (.undef) (aB (a0.fCol != 0))),(13,ifA b (.undef) (aI a0.fCol)),(12,ifA b (.undef) (.ptr 0 2))]) 4 (by kernel_rfl) (by kernel_rfl) (by kernel_rfl) (s1 1 [(16,aB ((a0.fRel != 0) || (a0.fCol != 0)))] ?_)
   exact ab9 (by kernel_rfl) (by kernel_rfl) h
  ·
   intro Q h
   refine s1 9 [(16,aB false),(15,.undef),(14,.undef),(13,.undef),(12,.undef),(11,.undef),(10,.undef),(9,.undef),(8,.undef)] ?_
   exact ab9 (by kernel_rfl) (by kernel_rfl) h
  refine s1 1 [(17,aB ((a0.fKind != 1) && ((a0.fRel != 0) || (a0.fCol != 0))))] ?_
  rcases zh hm with ⟨h1,hm⟩ | ⟨h1,hm⟩
  ·
   refine known [17,16] h1 (by kernel_rfl) (fq 13 [(1,.ptr 0 0),(30,aB true)] (cT (by kernel_rfl) (sq (dn [(2,aB false)] (wp_ret ?_)))))
   obtain rfl:=Option.some.inj hm
   exact ⟨trivial,by kernel_rfl⟩
  ·
   refine known [17,16] h1 (by kernel_rfl) (s1 3 [(20,aI a0.fRel),(19,.ptr 0 1),(18,.pv (.fn 249 [] []))] ?_)
   obtain ⟨x2,h3,hm⟩:=bs hm
   refine dv 21 (Zh (by kernel_rfl) (adv h3) (by kernel_rfl) (by kernel_rfl) (by kernel_rfl)) (by kernel_rfl) (s1 3 [(24,aB (!x2)),(23,aB (!x2)),(22,aB (!x2))] ?_)
   rcases zh hm with ⟨h4,hm⟩ | ⟨h4,hm⟩
   ·
    refine known [24,23,22] h4 (by kernel_rfl) (fq 6 [(1,.ptr 0 0),(30,aB true)] (cT (by kernel_rfl) (sq (dn [(2,aB false)] (wp_ret ?_)))))
    obtain rfl:=Option.some.inj hm
    exact ⟨trivial,by kernel_rfl⟩
   ·
    refine known [24,23,22] h4 (by kernel_rfl) (s1 3 [(27,aI a0.fCol),(26,.ptr 0 2),(25,.pv (.fn 249 [] []))] ?_)
    obtain ⟨x5,h6,hm⟩:=bs hm
    refine dv 28 (Zh (by kernel_rfl) (adv h6) (by kernel_rfl) (by kernel_rfl) (by kernel_rfl)) (by kernel_rfl) (fq 2 [(1,.ptr 0 0),(30,aB (!x5))] ?_)
    rcases zh hm with ⟨h7,hm⟩ | ⟨h7,hm⟩
    ·
     refine c1 h7 (sq (dn [(2,aB false)] (wp_ret ?_)))
     obtain rfl:=Option.some.inj hm
     exact ⟨trivial,by kernel_rfl⟩
    ·
     refine c0 h7 (wp_skip (sq (rg (s1 2 [(32,.agg (zc6 a0)),(31,.ptr 0 3)] ?_))))
     obtain ⟨x8,h9,hm⟩:=bs hm
     refine dv 33 (Zh (by kernel_rfl) (acP h9) (by kernel_rfl) (by kernel_rfl) (by kernel_rfl)) (by kernel_rfl) (s1 1 [(34,aB x8)] ?_)
     refine seg x8 [34,33] (fun b=>[(44,aB (b && ((a0.fKind == 2) || (a0.fConst.fKind == 0)))),(43,ifA b (aB ((a0.fKind == 2) || (a0.fConst.fKind == 0))) (.undef)),(42,ifA b (ifA (a0.fKind == 2) (.undef) (aB (a0.fConst.fKind == 0))) (.undef)),(41,ifA b (ifA (a0.fKind == 2) (.undef) (aI a0.fConst.fKind)) (.undef)),(40,ifA b (ifA (a0.fKind == 2) (.undef) (.ptr 0 3)) (.undef)),(39,ifA b (ifA (a0.fKind == 2) (.undef) (.ptr 0 3)) (.undef)),(38,ifA b (aB (a0.fKind == 2)) (.undef)),(37,ifA b (aB (a0.fKind == 2)) (.undef)),(36,ifA b (aI a0.fKind) (.undef)),(35,ifA b (.ptr 0 0) (.undef))]) 14 (by kernel_rfl) ?_ ?_ ?_
     ·
      intro Q h
      refine s1 4 [(38,aB (a0.fKind == 2)),(37,aB (a0.fKind == 2)),(36,aI a0.fKind),(35,.ptr 0 0)] ?_
      refine segP (a0.fKind == 2) [38,37] (fun b=>[(43,aB (b || (a0.fConst.fKind == 0))),(42,ifA b (.undef) (aB (a0.fConst.fKind == 0))),(41,ifA b (.undef) (aI a0.fConst.fKind)),(40,ifA b (.undef) (.ptr 0 3)),(39,ifA b (.undef) (.ptr 0 3))]) 5 (by kernel_rfl) (by kernel_rfl) (by kernel_rfl) (s1 1 [(44,aB ((a0.fKind == 2) || (a0.fConst.fKind == 0)))] ?_)
      exact ab9 (by kernel_rfl) (by kernel_rfl) h
     ·
      intro Q h
      refine s1 10 [(44,aB false),(43,.undef),(42,.undef),(41,.undef),(40,.undef),(39,.undef),(38,.undef),(37,.undef),(36,.undef),(35,.undef)] ?_
      exact ab9 (by kernel_rfl) (by kernel_rfl) h
     refine fq 1 [(2,aB (x8 && ((a0.fKind == 2) || (a0.fConst.fKind == 0))))] (wp_ret ?_)
     obtain rfl:=Option.some.inj hm
     exact ⟨trivial,by kernel_rfl⟩
abbrev zc7 (p0:zc):List AV:=[aI ((zk p0).fKind),aI ((zk p0).fRel),aI ((zk p0).fCol),aI (((zk p0).fConst).fKind),aI (((zk p0).fConst).fInt),aF (((zk p0).fConst).fFloat),aS (((zk p0).fConst).fText),.pv (zg za ((zk p0).fKids))]
abbrev zp58 (p0:zm):Nat × AV:=(32,.pv (zg za p0.fKids))
abbrev zp59 (p0:zm):Nat × AV:=(33,aI ((sll p0.fKids).length:Int))
abbrev ais (p0:Int):=(IntKind.wrap .i64 (p0 - 1))
theorem aiz {rc_expr_count:(Nat→zm→Int→Int→Option (Int))} (ih_expr_count:∀ {n:Nat} {a0:zm} {a1:Int} {a2:Int} {r:Int} (hm:rc_expr_count n a0 a1 a2=some r),call G n 182 [.agg [aI a0.fKind,aI a0.fRel,aI a0.fCol,aI a0.fConst.fKind,aI a0.fConst.fInt,aF a0.fConst.fFloat,aS a0.fConst.fText,.pv (zg za a0.fKids)],aI a1,aI a2] []=some (.ret (aI r),[])) {n:Nat} {a0:zm} {a1:Int} {a2:Int} {r:Int} (hm:QS rc_expr_count n a0 a1 a2=some r):
    call G n 182 [.agg (zc5 a0),aI a1,aI a2] []=some (.ret (aI r),[]):=by
  unfold QS at hm
  obtain ⟨n,rfl,h0⟩:=zy hm
  replace hm:=h0; clear h0
  refine Z4 47 [(0,.agg (zc5 a0)),(1,aI a1),(2,aI a2)] func182 rfl (by kernel_rfl) (sq (det [(1,aI a1),(2,aI a2),(3,.ptr 0 0)] [.box (zc5 a0) false] (by kernel_rfl) ?_))
  refine sq (sq (rgd (shd 3 [(11,aB (decide (a1 > 24))),(10,aB (decide (a1 > 24))),(9,aI a1)] (by kernel_rfl) ?_)))
  rcases zh hm with ⟨h1,hm⟩ | ⟨h1,hm⟩
  ·
   refine abc [11,10] h1 (by kernel_rfl) (shd 17 [(28,aB true),(27,.undef),(26,.undef),(25,.undef),(24,aB true),(23,aB true),(22,.undef),(21,.undef),(20,.undef),(19,.undef),(18,.undef),(17,.undef),(16,.undef),(15,aB true),(14,aB true),(13,.undef),(12,.undef)] (by kernel_rfl) (find [(1,aI a1),(2,aI a2),(3,.ptr 0 0),(28,aB true)] rfl (by kernel_rfl) (by kernel_rfl) (cT (by kernel_rfl) (sq (dn [(6,aI (-1))] (wp_ret ?_))))))
   obtain rfl:=Option.some.inj hm
   exact ⟨trivial,by kernel_rfl⟩
  ·
   refine abc [11,10] h1 (by kernel_rfl) (shd 4 [(15,aB (decide (a2 < 1))),(14,aB (decide (a2 < 1))),(13,aB (decide (a2 < 1))),(12,aI a2)] (by kernel_rfl) ?_)
   rcases zh hm with ⟨h2,hm⟩ | ⟨h2,hm⟩
   ·
    refine abc [15,14,13] h2 (by kernel_rfl) (shd 13 [(28,aB true),(27,.undef),(26,.undef),(25,.undef),(24,aB true),(23,aB true),(22,.undef),(21,.undef),(20,.undef),(19,.undef),(18,.undef),(17,.undef),(16,.undef)] (by kernel_rfl) (find [(1,aI a1),(2,aI a2),(3,.ptr 0 0),(28,aB true)] rfl (by kernel_rfl) (by kernel_rfl) (cT (by kernel_rfl) (sq (dn [(6,aI (-1))] (wp_ret ?_))))))
    obtain rfl:=Option.some.inj hm
    exact ⟨trivial,by kernel_rfl⟩
   ·
    refine abc [15,14,13] h2 (by kernel_rfl) (shd 2 [(17,aI a0.fKind),(16,.ptr 0 0)] (by kernel_rfl) ?_)
    obtain ⟨x3,h4,hm⟩:=bs hm
    refine dvd 18 (Zh (by kernel_rfl) (agR h4) (by kernel_rfl) (by kernel_rfl) (by kernel_rfl)) (by kernel_rfl) (shd 2 [(20,.pv (zg za a0.fKids)),(19,.ptr 0 7)] (by kernel_rfl) (dvd 21 (v:=aI ((sll a0.fKids).length:Int)) (zI za a0.fKids t23 (by kernel_rfl)) (by kernel_rfl) (shd 3 [(24,aB (x3 != ((sll a0.fKids).length:Int))),(23,aB (x3 != ((sll a0.fKids).length:Int))),(22,aB (x3 != ((sll a0.fKids).length:Int)))] (by kernel_rfl) ?_)))
    rcases zh hm with ⟨h5,hm⟩ | ⟨h5,hm⟩
    ·
     refine abc [24,23,22] h5 (by kernel_rfl) (shd 4 [(28,aB true),(27,.undef),(26,.undef),(25,.undef)] (by kernel_rfl) (find [(1,aI a1),(2,aI a2),(3,.ptr 0 0),(28,aB true)] rfl (by kernel_rfl) (by kernel_rfl) (cT (by kernel_rfl) (sq (dn [(6,aI (-1))] (wp_ret ?_))))))
     obtain rfl:=Option.some.inj hm
     exact ⟨trivial,by kernel_rfl⟩
    ·
     refine abc [24,23,22] h5 (by kernel_rfl) (shd 1 [(25,.agg (zc5 a0))] (by kernel_rfl) ?_)
     obtain ⟨x6,h7,hm⟩:=bs hm
     refine dvd 26 (Zh (by kernel_rfl) (ai6 h7) (by kernel_rfl) (by kernel_rfl) (by kernel_rfl)) (by kernel_rfl) (shd 2 [(28,aB (!x6)),(27,aB (!x6))] (by kernel_rfl) (find [(1,aI a1),(2,aI a2),(3,.ptr 0 0),(28,aB (!x6))] rfl (by kernel_rfl) (by kernel_rfl) ?_))
     rcases zh hm with ⟨h8,hm⟩ | ⟨h8,hm⟩
     ·
      refine c1 h8 (sq (dn [(6,aI (-1))] (wp_ret ?_)))
      obtain rfl:=Option.some.inj hm
      exact ⟨trivial,by kernel_rfl⟩
     ·
      refine c0 h8 (wp_skip (sq (dn [(1,aI a1),(2,aI (ais a2)),(3,.ptr 0 0)] ?_)))
      obtain ⟨k12,hk12,hm⟩:=zx hm
      refine mid (fun t H=>(∃ (y9:Int) (y10:Int) (y11:Bool),k12 y9=some r∧t=mk 47 [(1,aI a1),(2,aI y9),(zp58 a0),(zp59 a0),(34,aI y10),(35,aB y11)]∧H=[.box (zc5 a0) false])) ?_ ?_
      ·
       rintro _ _ ⟨y9,y10,y11,hm,rfl,rfl⟩
       subst hk12
       refine sq (dn [(6,aI y9)] (wp_ret ?_))
       obtain rfl:=Option.some.inj hm
       exact ⟨trivial,by kernel_rfl⟩
      refine sq (rg (s1 2 [(zp58 a0),(31,.ptr 0 7)] (dv 33 (v:=aI ((sll a0.fKids).length:Int)) (zI za a0.fKids t23 (by kernel_rfl)) (by kernel_rfl) (fq 1 [(1,aI a1),(2,aI (ais a2)),(zp58 a0),(zp59 a0),(34,aI 0)] (bq ?_)))))
      refine qq (fun mm t H=>(∃ (y15:Int) (y16:Int),Q9 n rc_expr_count a0 a1 k12 mm y15 y16=some r∧t=mk 47 [(1,aI a1),(2,aI y15),(zp58 a0),(zp59 a0),(34,aI y16)]∧H=[.box (zc5 a0) false])) (⟨(IntKind.wrap .i64 (a2 - 1)),0,hm,rfl,rfl⟩) ?_ ?_
      · rintro _ _ ⟨y15,y16,hm,_⟩; exact nomatch hm
      rintro m17 _ _ ⟨y15,y16,hm,rfl,rfl⟩
      simp only [Q9] at hm
      refine sq (dn [(1,aI a1),(2,aI y15),(zp58 a0),(zp59 a0),(34,aI y16),(35,aB (decide (y16 < ((sll a0.fKids).length:Int))))] ?_)
      refine sq ?_
      rcases zh hm with ⟨h18,hm⟩ | ⟨h18,hm⟩
      ·
       refine c1 h18 (wp_skip (sq (bq (sq (rg ?_)))))
       obtain ⟨x19,h20,hm⟩:=bs hm
       refine dv 36 (v:=.pv (.ptr (aeh x19) 0)) (aaK za a0.fKids .i64 t23 t49 h20 (Zj x19) rfl (by kernel_rfl)) (by kernel_rfl) (stf 3 [(1,aI a1),(2,aI y15),(8,.ptr 1 0),(zp58 a0),(zp59 a0),(34,aI y16)] [.box (zc5 a0) false,.box (zc7 x19) false] (by kernel_rfl) (sq (rg (s1 4 [(41,aI y15),(40,aI (zU a1)),(39,aI a1),(38,.agg (zc7 x19))] ?_))))
       obtain ⟨x21,h22,hm⟩:=bs hm
       refine dv 42 (Zh (by kernel_rfl) (ih_expr_count h22) (by kernel_rfl) (by kernel_rfl) (by kernel_rfl)) (by kernel_rfl) (fq 1 [(1,aI a1),(2,aI x21),(zp58 a0),(zp59 a0),(34,aI y16)] (sq (dn [(1,aI a1),(2,aI x21),(zp58 a0),(zp59 a0),(34,aI y16),(44,aB (decide (x21 < 0)))] ?_)))
       rcases zh hm with ⟨h23,hm⟩ | ⟨h23,hm⟩
       ·
        refine c1 h23 (sq (dn [(6,aI (-1))] (wp_ret ?_)))
        obtain rfl:=Option.some.inj hm
        exact ⟨trivial,by kernel_rfl⟩
       ·
        refine c0 h23 (wp_skip (dn [(1,aI a1),(2,aI x21),(zp58 a0),(zp59 a0),(34,aI (zU y16))] ?_))
        exact ⟨_,_,ZC [(1,aI a1),(2,aI x21),(zp58 a0),(zp59 a0),(34,aI (zU y16))] [.box (zc5 a0) false] (by kernel_rfl),⟨x21,(zU y16),hm,rfl,rfl⟩⟩
      ·
       refine c0 h18 (wp_exit ?_)
       exact ⟨y15,y16,(decide (y16 < ((sll a0.fKids).length:Int))),hm,rfl,rfl⟩
theorem aeC:∀ (m:Nat),∀ {n:Nat} {a0:zm} {a1:Int} {a2:Int} {r:Int} (hm:qJ m n a0 a1 a2=some r),call G n 182 [.agg (zc5 a0),aI a1,aI a2] []=some (.ret (aI r),[])
  | 0=>by intros; rename_i hm; exact nomatch hm
  | m+1=>fun hm=>
    aiz (aeC m) hm
theorem ajB {n:Nat} {a0:zm} {a1:Int} {a2:Int} {r:Int} (hm:afQ n a0 a1 a2=some r):
    call G n 182 [.agg (zc5 a0),aI a1,aI a2] []=some (.ret (aI r),[]):=aeC n hm
theorem aeU {n:Nat} {a0:zm} {r:Bool} (hm:aa4 n a0=some r):
    call G n 143 [.agg (zc5 a0)] []=some (.ret (aB r),[]):=by
  unfold aa4 at hm
  obtain ⟨n,rfl,h0⟩:=zy hm
  replace hm:=h0; clear h0
  refine Z4 6 [(0,.agg (zc5 a0))] func143 rfl (by kernel_rfl) (sq (det [(1,.ptr 0 0)] [.box (zc5 a0) false] (by kernel_rfl) (sq (rg (s1 1 [(3,.agg (zc5 a0))] ?_)))))
  obtain ⟨x1,h2,hm⟩:=bs hm
  refine dv 4 (Zh (by kernel_rfl) (ajB h2) (by kernel_rfl) (by kernel_rfl) (by kernel_rfl)) (by kernel_rfl) (fq 2 [(2,aB (decide (x1≥0)))] (wp_ret ?_))
  obtain rfl:=Option.some.inj hm
  exact ⟨trivial,by kernel_rfl⟩
theorem ah9 {n:Nat} {a0:zm} {r:Bool} (hm:aaI n a0=some r):
    call G n 221 [.agg (zc5 a0)] []=some (.ret (aB r),[]):=by
  unfold aaI at hm
  obtain ⟨n,rfl,h0⟩:=zy hm
  replace hm:=h0; clear h0
  refine Z4 6 [(0,.agg (zc5 a0))] func221 rfl (by kernel_rfl) (sq (det [(1,.ptr 0 0)] [.box (zc5 a0) false] (by kernel_rfl) (sq (rg (s1 1 [(3,.agg (zc5 a0))] ?_)))))
  obtain ⟨x1,h2,hm⟩:=bs hm
  refine dv 4 (Zh (by kernel_rfl) (aeU h2) (by kernel_rfl) (by kernel_rfl) (by kernel_rfl)) (by kernel_rfl) (fq 2 [(2,aB (!x1))] (wp_ret ?_))
  obtain rfl:=Option.some.inj hm
  exact ⟨trivial,by kernel_rfl⟩
abbrev zp60:Nat × AV:=(1,.pv (.fn 221 [] []))
abbrev zp61 (p0:(Option (List zc))):Nat × AV:=(7,aI ((sll p0).length:Int))
abbrev zp62 (p0:Int):Nat × AV:=(8,aI (IntKind.wrap .i64 (p0+1)))
theorem aaF {n:Nat} {a0:(Option (List zc))} {r:Int} (hm:ZQ n a0=some r):
    call G n 213 [.pv (zw a0),.pv (.fn 221 [] [])] []=some (.ret (aI r),[]):=by
  unfold ZQ at hm
  obtain ⟨n,rfl,h0⟩:=zy hm
  replace hm:=h0; clear h0
  refine Z4 19 [(zp46 a0),zp60] func213 rfl (by kernel_rfl) (sq (dn [(zp46 a0),zp60] ?_))
  obtain ⟨k3,hk3,hm⟩:=zx hm
  refine mid (fun t H=>(∃ (y1:Int) (y2:Bool),k3 ()=some r∧t=mk 19 [(zp46 a0),zp60,(zp61 a0),(8,aI y1),(9,aB y2)]∧H=[])) ?_ ?_
  ·
   rintro _ _ ⟨y1,y2,hm,rfl,rfl⟩
   subst hk3
   refine sq (dn [(4,aI (-1))] (wp_ret ?_))
   obtain rfl:=Option.some.inj hm
   exact ⟨trivial,by kernel_rfl⟩
  refine sq (rg (s1 1 [(6,.pv (zw a0))] (dv 7 (v:=aI (acd a0)) (zI za a0 t23 (by kernel_rfl)) (by kernel_rfl) (fq 1 [(zp46 a0),zp60,(zp61 a0),(8,aI 0)] (bq ?_)))))
  refine qq (fun mm t H=>(∃ (y5:Int),zD n a0 k3 mm y5=some r∧t=mk 19 [(zp46 a0),zp60,(zp61 a0),(8,aI y5)]∧H=[])) (⟨0,hm,rfl,rfl⟩) ?_ ?_
  · rintro _ _ ⟨y5,hm,_⟩; exact nomatch hm
  rintro m6 _ _ ⟨y5,hm,rfl,rfl⟩
  simp only [zD] at hm
  refine sq (dn [(zp46 a0),zp60,(zp61 a0),(8,aI y5),(9,aB (ael y5 a0))] ?_)
  refine sq ?_
  rcases zh hm with ⟨h7,hm⟩ | ⟨h7,hm⟩
  ·
   refine c1 h7 (wp_skip (sq (bq (sq (dn [(zp46 a0),zp60,(5,aI y5),(zp61 a0),(8,aI y5)] (sq (rg (s1 3 [(13,aI y5),(12,.pv (zw a0)),(11,.pv (.fn 221 [] []))] ?_))))))))
   obtain ⟨x8,h9,hm⟩:=bs hm
   refine dv 14 (v:=.pv (.ptr (aeh x8) 0)) (aaK za a0 .i64 t23 t49 h9 (Zj x8) rfl (by kernel_rfl)) (by kernel_rfl) (s1 1 [(15,.agg (zc7 x8))] ?_)
   obtain ⟨x10,h11,hm⟩:=bs hm
   refine dv 16 (Zh (by kernel_rfl) (ah9 h11) (by kernel_rfl) (by kernel_rfl) (by kernel_rfl)) (by kernel_rfl) (fin [(zp46 a0),zp60,(5,aI y5),(zp61 a0),(8,aI y5),(16,aB x10)] rfl (by kernel_rfl) ?_)
   rcases zh hm with ⟨h12,hm⟩ | ⟨h12,hm⟩
   ·
    refine c1 h12 (sq (dn [(4,aI y5)] (wp_ret ?_)))
    obtain rfl:=Option.some.inj hm
    exact ⟨trivial,by kernel_rfl⟩
   ·
    refine c0 h12 (wp_skip (dn [(zp46 a0),zp60,(zp61 a0),(zp62 y5)] ?_))
    exact ⟨_,_,ZC [(zp46 a0),zp60,(zp61 a0),(zp62 y5)] [] (by kernel_rfl),⟨(zU y5),hm,rfl,rfl⟩⟩
  ·
   refine c0 h7 (wp_exit ?_)
   exact ⟨y5,(ael y5 a0),hm,rfl,rfl⟩
theorem aad {n:Nat} {a0:(Option (List zc))} {r:Bool} (hm:zZ n a0=some r):
    call G n 220 [.pv (zw a0),.pv (.fn 221 [] [])] []=some (.ret (aB r),[]):=by
  unfold zZ at hm
  obtain ⟨n,rfl,h0⟩:=zy hm
  replace hm:=h0; clear h0
  refine Z4 9 [(zp46 a0),zp60] func220 rfl (by kernel_rfl) (sq (dn [(zp46 a0),zp60] (sq (rg (s1 2 [(6,.pv (.fn 221 [] [])),(5,.pv (zw a0))] ?_)))))
  obtain ⟨x1,h2,hm⟩:=bs hm
  refine dv 7 (Zh (by kernel_rfl) (aaF h2) (by kernel_rfl) (by kernel_rfl) (by kernel_rfl)) (by kernel_rfl) (fq 2 [(4,aB (decide (x1≥0)))] (wp_ret ?_))
  obtain rfl:=Option.some.inj hm
  exact ⟨trivial,by kernel_rfl⟩
abbrev zc8 (p0:zo):List AV:=[aI p0.fKind,aI p0.fOf.fKind,aI p0.fOf.fRel,aI p0.fOf.fCol,aI p0.fOf.fConst.fKind,aI p0.fOf.fConst.fInt,aF p0.fOf.fConst.fFloat,aS p0.fOf.fConst.fText,.pv (zg za p0.fOf.fKids)]
theorem ah7 {n:Nat} {a0:zo} {r:Bool} (hm:abh n a0=some r):
    call G n 222 [.agg (zc8 a0)] []=some (.ret (aB r),[]):=by
  unfold abh at hm
  obtain ⟨n,rfl,h0⟩:=zy hm
  replace hm:=h0; clear h0
  refine Z4 17 [(0,.agg (zc8 a0))] func222 rfl (by kernel_rfl) (sq (det [(1,.ptr 0 0)] [.box (zc8 a0) false] (by kernel_rfl) (sq (rg (s1 4 [(6,aB (decide (a0.fKind < 1))),(5,aB (decide (a0.fKind < 1))),(4,aI a0.fKind),(3,.ptr 0 0)] ?_)))))
  refine segP (decide (a0.fKind < 1)) [6,5] (fun b=>[(10,aB (b || (decide (a0.fKind > 4)))),(9,ifA b (.undef) (aB (decide (a0.fKind > 4)))),(8,ifA b (.undef) (aI a0.fKind)),(7,ifA b (.undef) (.ptr 0 0))]) 4 (by kernel_rfl) (by kernel_rfl) (by kernel_rfl) (s1 1 [(11,aB ((decide (a0.fKind < 1)) || (decide (a0.fKind > 4))))] ?_)
  rcases zh hm with ⟨h1,hm⟩ | ⟨h1,hm⟩
  ·
   refine known [11,10] h1 (by kernel_rfl) (fq 6 [(2,aB true)] (wp_ret ?_))
   obtain rfl:=Option.some.inj hm
   exact ⟨trivial,by kernel_rfl⟩
  ·
   refine known [11,10] h1 (by kernel_rfl) (s1 2 [(13,.agg (zc1 a0)),(12,.ptr 0 1)] ?_)
   obtain ⟨x2,h3,hm⟩:=bs hm
   refine dv 14 (Zh (by kernel_rfl) (aeU h3) (by kernel_rfl) (by kernel_rfl) (by kernel_rfl)) (by kernel_rfl) (fq 3 [(2,aB (!x2))] (wp_ret ?_))
   obtain rfl:=Option.some.inj hm
   exact ⟨trivial,by kernel_rfl⟩
abbrev zp63 (p0:(Option (List zo))):Nat × AV:=(0,.pv (zg zi p0))
abbrev zp64:Nat × AV:=(1,.pv (.fn 222 [] []))
abbrev zp65 (p0:(Option (List zo))):Nat × AV:=(7,aI ((sll p0).length:Int))
theorem aaM {n:Nat} {a0:(Option (List zo))} {r:Int} (hm:ZW n a0=some r):
    call G n 180 [.pv (zg zi a0),.pv (.fn 222 [] [])] []=some (.ret (aI r),[]):=by
  unfold ZW at hm
  obtain ⟨n,rfl,h0⟩:=zy hm
  replace hm:=h0; clear h0
  refine Z4 19 [(zp63 a0),zp64] func180 rfl (by kernel_rfl) (sq (dn [(zp63 a0),zp64] ?_))
  obtain ⟨k3,hk3,hm⟩:=zx hm
  refine mid (fun t H=>(∃ (y1:Int) (y2:Bool),k3 ()=some r∧t=mk 19 [(zp63 a0),zp64,(zp65 a0),(8,aI y1),(9,aB y2)]∧H=[])) ?_ ?_
  ·
   rintro _ _ ⟨y1,y2,hm,rfl,rfl⟩
   subst hk3
   refine sq (dn [(4,aI (-1))] (wp_ret ?_))
   obtain rfl:=Option.some.inj hm
   exact ⟨trivial,by kernel_rfl⟩
  refine sq (rg (s1 1 [(6,.pv (zg zi a0))] (dv 7 (v:=aI ((sll a0).length:Int)) (zI zi a0 t24 (by kernel_rfl)) (by kernel_rfl) (fq 1 [(zp63 a0),zp64,(zp65 a0),(8,aI 0)] (bq ?_)))))
  refine qq (fun mm t H=>(∃ (y5:Int),zF n a0 k3 mm y5=some r∧t=mk 19 [(zp63 a0),zp64,(zp65 a0),(8,aI y5)]∧H=[])) (⟨0,hm,rfl,rfl⟩) ?_ ?_
  · rintro _ _ ⟨y5,hm,_⟩; exact nomatch hm
  rintro m6 _ _ ⟨y5,hm,rfl,rfl⟩
  simp only [zF] at hm
  refine sq (dn [(zp63 a0),zp64,(zp65 a0),(8,aI y5),(9,aB (decide (y5 < ((sll a0).length:Int))))] ?_)
  refine sq ?_
  rcases zh hm with ⟨h7,hm⟩ | ⟨h7,hm⟩
  ·
   refine c1 h7 (wp_skip (sq (bq (sq (dn [(zp63 a0),zp64,(5,aI y5),(zp65 a0),(8,aI y5)] (sq (rg (s1 3 [(13,aI y5),(12,.pv (zg zi a0)),(11,.pv (.fn 222 [] []))] ?_))))))))
   obtain ⟨x8,h9,hm⟩:=bs hm
   refine dv 14 (v:=.pv (.ptr (zi x8) 0)) (aaL zi a0 .i64 t24 t101 h9 rfl (by kernel_rfl)) (by kernel_rfl) (s1 1 [(15,.agg (zc8 x8))] ?_)
   obtain ⟨x10,h11,hm⟩:=bs hm
   refine dv 16 (Zh (by kernel_rfl) (ah7 h11) (by kernel_rfl) (by kernel_rfl) (by kernel_rfl)) (by kernel_rfl) (fin [(zp63 a0),zp64,(5,aI y5),(zp65 a0),(8,aI y5),(16,aB x10)] rfl (by kernel_rfl) ?_)
   rcases zh hm with ⟨h12,hm⟩ | ⟨h12,hm⟩
   ·
    refine c1 h12 (sq (dn [(4,aI y5)] (wp_ret ?_)))
    obtain rfl:=Option.some.inj hm
    exact ⟨trivial,by kernel_rfl⟩
   ·
    refine c0 h12 (wp_skip (dn [(zp63 a0),zp64,(zp65 a0),(zp62 y5)] ?_))
    exact ⟨_,_,ZC [(zp63 a0),zp64,(zp65 a0),(zp62 y5)] [] (by kernel_rfl),⟨(zU y5),hm,rfl,rfl⟩⟩
  ·
   refine c0 h7 (wp_exit ?_)
   exact ⟨y5,(decide (y5 < ((sll a0).length:Int))),hm,rfl,rfl⟩
theorem aaj {n:Nat} {a0:(Option (List zo))} {r:Bool} (hm:Zc n a0=some r):
    call G n 139 [.pv (zg zi a0),.pv (.fn 222 [] [])] []=some (.ret (aB r),[]):=by
  unfold Zc at hm
  obtain ⟨n,rfl,h0⟩:=zy hm
  replace hm:=h0; clear h0
  refine Z4 9 [(zp63 a0),zp64] func139 rfl (by kernel_rfl) (sq (dn [(zp63 a0),zp64] (sq (rg (s1 2 [(6,.pv (.fn 222 [] [])),(5,.pv (zg zi a0))] ?_)))))
  obtain ⟨x1,h2,hm⟩:=bs hm
  refine dv 7 (Zh (by kernel_rfl) (aaM h2) (by kernel_rfl) (by kernel_rfl) (by kernel_rfl)) (by kernel_rfl) (fq 2 [(4,aB (decide (x1≥0)))] (wp_ret ?_))
  obtain rfl:=Option.some.inj hm
  exact ⟨trivial,by kernel_rfl⟩
theorem ah4 {n:Nat} {a0:zu} {r:Bool} (hm:aci n a0=some r):
    call G n 223 [.agg [aI a0.fOut,aB a0.fDesc]] []=some (.ret (aB r),[]):=by
  unfold aci at hm
  obtain ⟨n,rfl,h0⟩:=zy hm
  replace hm:=h0; clear h0
  refine Z4 11 [(0,.agg [aI a0.fOut,aB a0.fDesc])] func223 rfl (by kernel_rfl) (sq (det [(1,.ptr 0 0)] [.box [aI a0.fOut,aB a0.fDesc] false] (by kernel_rfl) (sq (rg (s1 4 [(6,aB (decide (a0.fOut < 0))),(5,aB (decide (a0.fOut < 0))),(4,aI a0.fOut),(3,.ptr 0 0)] ?_)))))
  refine segP (decide (a0.fOut < 0)) [6,5] (fun b=>[(10,aB (b || (decide (a0.fOut > 29)))),(9,ifA b (.undef) (aB (decide (a0.fOut > 29)))),(8,ifA b (.undef) (aI a0.fOut)),(7,ifA b (.undef) (.ptr 0 0))]) 4 (by kernel_rfl) (by kernel_rfl) (by kernel_rfl) (fq 1 [(2,aB ((decide (a0.fOut < 0)) || (decide (a0.fOut > 29))))] (wp_ret ?_))
  obtain rfl:=Option.some.inj hm
  exact ⟨trivial,by kernel_rfl⟩
abbrev zp66 (p0:(Option (List zu))):Nat × AV:=(0,.pv (zg zj p0))
abbrev zp67:Nat × AV:=(1,.pv (.fn 223 [] []))
abbrev zp68 (p0:(Option (List zu))):Nat × AV:=(7,aI ((sll p0).length:Int))
theorem aaJ {n:Nat} {a0:(Option (List zu))} {r:Int} (hm:ZX n a0=some r):
    call G n 181 [.pv (zg zj a0),.pv (.fn 223 [] [])] []=some (.ret (aI r),[]):=by
  unfold ZX at hm
  obtain ⟨n,rfl,h0⟩:=zy hm
  replace hm:=h0; clear h0
  refine Z4 19 [(zp66 a0),zp67] func181 rfl (by kernel_rfl) (sq (dn [(zp66 a0),zp67] ?_))
  obtain ⟨k3,hk3,hm⟩:=zx hm
  refine mid (fun t H=>(∃ (y1:Int) (y2:Bool),k3 ()=some r∧t=mk 19 [(zp66 a0),zp67,(zp68 a0),(8,aI y1),(9,aB y2)]∧H=[])) ?_ ?_
  ·
   rintro _ _ ⟨y1,y2,hm,rfl,rfl⟩
   subst hk3
   refine sq (dn [(4,aI (-1))] (wp_ret ?_))
   obtain rfl:=Option.some.inj hm
   exact ⟨trivial,by kernel_rfl⟩
  refine sq (rg (s1 1 [(6,.pv (zg zj a0))] (dv 7 (v:=aI ((sll a0).length:Int)) (zI zj a0 t25 (by kernel_rfl)) (by kernel_rfl) (fq 1 [(zp66 a0),zp67,(zp68 a0),(8,aI 0)] (bq ?_)))))
  refine qq (fun mm t H=>(∃ (y5:Int),zE n a0 k3 mm y5=some r∧t=mk 19 [(zp66 a0),zp67,(zp68 a0),(8,aI y5)]∧H=[])) (⟨0,hm,rfl,rfl⟩) ?_ ?_
  · rintro _ _ ⟨y5,hm,_⟩; exact nomatch hm
  rintro m6 _ _ ⟨y5,hm,rfl,rfl⟩
  simp only [zE] at hm
  refine sq (dn [(zp66 a0),zp67,(zp68 a0),(8,aI y5),(9,aB (decide (y5 < ((sll a0).length:Int))))] ?_)
  refine sq ?_
  rcases zh hm with ⟨h7,hm⟩ | ⟨h7,hm⟩
  ·
   refine c1 h7 (wp_skip (sq (bq (sq (dn [(zp66 a0),zp67,(5,aI y5),(zp68 a0),(8,aI y5)] (sq (rg (s1 3 [(13,aI y5),(12,.pv (zg zj a0)),(11,.pv (.fn 223 [] []))] ?_))))))))
   obtain ⟨x8,h9,hm⟩:=bs hm
   refine dv 14 (v:=.pv (.ptr (zj x8) 0)) (aaL zj a0 .i64 t25 t86 h9 rfl (by kernel_rfl)) (by kernel_rfl) (s1 1 [(15,.agg [aI x8.fOut,aB x8.fDesc])] ?_)
   obtain ⟨x10,h11,hm⟩:=bs hm
   refine dv 16 (Zh (by kernel_rfl) (ah4 h11) (by kernel_rfl) (by kernel_rfl) (by kernel_rfl)) (by kernel_rfl) (fin [(zp66 a0),zp67,(5,aI y5),(zp68 a0),(8,aI y5),(16,aB x10)] rfl (by kernel_rfl) ?_)
   rcases zh hm with ⟨h12,hm⟩ | ⟨h12,hm⟩
   ·
    refine c1 h12 (sq (dn [(4,aI y5)] (wp_ret ?_)))
    obtain rfl:=Option.some.inj hm
    exact ⟨trivial,by kernel_rfl⟩
   ·
    refine c0 h12 (wp_skip (dn [(zp66 a0),zp67,(zp68 a0),(zp62 y5)] ?_))
    exact ⟨_,_,ZC [(zp66 a0),zp67,(zp68 a0),(zp62 y5)] [] (by kernel_rfl),⟨(zU y5),hm,rfl,rfl⟩⟩
  ·
   refine c0 h7 (wp_exit ?_)
   exact ⟨y5,(decide (y5 < ((sll a0).length:Int))),hm,rfl,rfl⟩
theorem aai {n:Nat} {a0:(Option (List zu))} {r:Bool} (hm:Ze n a0=some r):
    call G n 141 [.pv (zg zj a0),.pv (.fn 223 [] [])] []=some (.ret (aB r),[]):=by
  unfold Ze at hm
  obtain ⟨n,rfl,h0⟩:=zy hm
  replace hm:=h0; clear h0
  refine Z4 9 [(zp66 a0),zp67] func141 rfl (by kernel_rfl) (sq (dn [(zp66 a0),zp67] (sq (rg (s1 2 [(6,.pv (.fn 223 [] [])),(5,.pv (zg zj a0))] ?_)))))
  obtain ⟨x1,h2,hm⟩:=bs hm
  refine dv 7 (Zh (by kernel_rfl) (aaJ h2) (by kernel_rfl) (by kernel_rfl) (by kernel_rfl)) (by kernel_rfl) (fq 2 [(4,aB (decide (x1≥0)))] (wp_ret ?_))
  obtain rfl:=Option.some.inj hm
  exact ⟨trivial,by kernel_rfl⟩
abbrev Zn (p0:zb):=([p0.fWhere,p0.fLeft,p0.fRight,p0.fOut]:List (Option (List zc)))
theorem ajO {n:Nat} {a0:zb} {r:Bool} (hm:acV n a0=some r):
    call G n 176 [.agg (zc2 a0)] []=some (.ret (aB r),[]):=by
  unfold acV at hm
  obtain ⟨n,rfl,h0⟩:=zy hm
  replace hm:=h0; clear h0
  refine Z4 63 [(0,.agg (zc2 a0))] func176 rfl (by kernel_rfl) (sq (det [(1,.ptr 0 0)] [.box (zc2 a0) false] (by kernel_rfl) ?_))
  obtain ⟨k3,hk3,hm⟩:=zx hm
  refine mid (fun t H=>(∃ (y1:Int) (y2:Bool),k3 ()=some r∧t=mk 63 [(1,.ptr 0 0),(13,aR 1 1 4),(14,aI 4),(15,aI y1),(16,aB y2)]∧H=[.box (zc2 a0) false,bR 23 1 (rSl za) (Zn a0) 0 0])) ?_ ?_
  ·
   rintro _ _ ⟨y1,y2,hm,rfl,rfl⟩
   subst hk3
   refine sq (sq (rg (s1 2 [(28,.pv (agz a0)),(27,.ptr 0 6)] (dv 29 (v:=aI (acU a0)) (zI zi a0.fAggs t24 (by kernel_rfl)) (by kernel_rfl) (s1 2 [(31,aB (decide (((sll a0.fAggs).length:Int) > 60))),(30,aB (decide (((sll a0.fAggs).length:Int) > 60)))] ?_)))))
   rcases zh hm with ⟨h4,hm⟩ | ⟨h4,hm⟩
   ·
    refine known [31,30] h4 (by kernel_rfl) (fq 4 [(1,.ptr 0 0),(35,aB true)] (cT (by kernel_rfl) (sq (dn [(2,aB false)] (wp_ret ?_)))))
    obtain rfl:=Option.some.inj hm
    exact ⟨trivial,by kernel_rfl⟩
   ·
    refine known [31,30] h4 (by kernel_rfl) (s1 2 [(33,.pv (agz a0)),(32,.ptr 0 6)] ?_)
    obtain ⟨x5,h6,hm⟩:=bs hm
    refine dv 34 (Zh (by kernel_rfl) (aaj h6) (by kernel_rfl) (by kernel_rfl) (by kernel_rfl)) (by kernel_rfl) (fq 1 [(1,.ptr 0 0),(35,aB x5)] ?_)
    rcases zh hm with ⟨h7,hm⟩ | ⟨h7,hm⟩
    ·
     refine c1 h7 (sq (dn [(2,aB false)] (wp_ret ?_)))
     obtain rfl:=Option.some.inj hm
     exact ⟨trivial,by kernel_rfl⟩
    ·
     refine c0 h7 (wp_skip ?_)
     refine sq (sq (rg (s1 2 [(37,.pv (agt a0)),(36,.ptr 0 7)] (dv 38 (v:=aI (acW a0)) (zI zj a0.fOrder t25 (by kernel_rfl)) (by kernel_rfl) (s1 2 [(40,aB (decide (((sll a0.fOrder).length:Int) > 60))),(39,aB (decide (((sll a0.fOrder).length:Int) > 60)))] ?_)))))
     rcases zh hm with ⟨h8,hm⟩ | ⟨h8,hm⟩
     ·
      refine known [40,39] h8 (by kernel_rfl) (fq 4 [(1,.ptr 0 0),(44,aB true)] (cT (by kernel_rfl) (sq (dn [(2,aB false)] (wp_ret ?_)))))
      obtain rfl:=Option.some.inj hm
      exact ⟨trivial,by kernel_rfl⟩
     ·
      refine known [40,39] h8 (by kernel_rfl) (s1 2 [(42,.pv (agt a0)),(41,.ptr 0 7)] ?_)
      obtain ⟨x9,h10,hm⟩:=bs hm
      refine dv 43 (Zh (by kernel_rfl) (aai h10) (by kernel_rfl) (by kernel_rfl) (by kernel_rfl)) (by kernel_rfl) (fq 1 [(1,.ptr 0 0),(44,aB x9)] ?_)
      rcases zh hm with ⟨h11,hm⟩ | ⟨h11,hm⟩
      ·
       refine c1 h11 (sq (dn [(2,aB false)] (wp_ret ?_)))
       obtain rfl:=Option.some.inj hm
       exact ⟨trivial,by kernel_rfl⟩
      ·
       refine c0 h11 (wp_skip (sq (rg (s1 4 [(48,aB (decide (a0.fRel≥0))),(47,aB (decide (a0.fRel≥0))),(46,aI a0.fRel),(45,.ptr 0 1)] ?_))))
       refine segP (decide (a0.fRel≥0)) [48,47] (fun b=>[(52,aB (b && (decide (a0.fRel < 12)))),(51,ifA b (aB (decide (a0.fRel < 12))) (.undef)),(50,ifA b (aI a0.fRel) (.undef)),(49,ifA b (.ptr 0 1) (.undef))]) 4 (by kernel_rfl) (by kernel_rfl) (by kernel_rfl) (s1 1 [(53,aB ((decide (a0.fRel≥0)) && (decide (a0.fRel < 12))))] ?_)
       refine seg ((decide (a0.fRel≥0)) && (decide (a0.fRel < 12))) [53,52] (fun b=>[(62,aB (b && ((a0.fKind == 1) || (a0.fRel == 0)))),(61,ifA b (aB ((a0.fKind == 1) || (a0.fRel == 0))) (.undef)),(60,ifA b (ifA (a0.fKind == 1) (.undef) (aB (a0.fRel == 0))) (.undef)),(59,ifA b (ifA (a0.fKind == 1) (.undef) (aI a0.fRel)) (.undef)),(58,ifA b (ifA (a0.fKind == 1) (.undef) (.ptr 0 1)) (.undef)),(57,ifA b (aB (a0.fKind == 1)) (.undef)),(56,ifA b (aB (a0.fKind == 1)) (.undef)),(55,ifA b (aI a0.fKind) (.undef)),(54,ifA b (.ptr 0 0) (.undef))]) 18 (by kernel_rfl) ?_ ?_ ?_
       ·
        intro Q h
        refine s1 4 [(57,aB (a0.fKind == 1)),(56,aB (a0.fKind == 1)),(55,aI a0.fKind),(54,.ptr 0 0)] ?_
        refine segP (a0.fKind == 1) [57,56] (fun b=>[(61,aB (b || (a0.fRel == 0))),(60,ifA b (.undef) (aB (a0.fRel == 0))),(59,ifA b (.undef) (aI a0.fRel)),(58,ifA b (.undef) (.ptr 0 1))]) 4 (by kernel_rfl) (by kernel_rfl) (by kernel_rfl) (s1 1 [(62,aB ((a0.fKind == 1) || (a0.fRel == 0)))] ?_)
        exact ab9 (by kernel_rfl) (by kernel_rfl) h
       ·
        intro Q h
        refine s1 9 [(62,aB false),(61,.undef),(60,.undef),(59,.undef),(58,.undef),(57,.undef),(56,.undef),(55,.undef),(54,.undef)] ?_
        exact ab9 (by kernel_rfl) (by kernel_rfl) h
       refine fq 1 [(2,aB (((decide (a0.fRel≥0)) && (decide (a0.fRel < 12))) && ((a0.fKind == 1) || (a0.fRel == 0))))] (wp_ret ?_)
       obtain rfl:=Option.some.inj hm
       exact ⟨trivial,by kernel_rfl⟩
  refine sq (det [(1,.ptr 0 0),(13,aR 1 1 4),(14,aI 4),(15,aI 0)] [.box (zc2 a0) false,bR 23 1 (rSl za) (Zn a0) 0 0] (by kernel_rfl) (bq ?_))
  refine qq (fun mm t H=>(∃ (y13:Int),qm n a0 k3 mm y13=some r∧t=mk 63 [(1,.ptr 0 0),(13,aR 1 1 4),(14,aI 4),(15,aI y13)]∧H=[.box (zc2 a0) false,bR 23 1 (rSl za) ([a0.fWhere,a0.fLeft,a0.fRight,a0.fOut]:List (Option (List zc))) 0 0])) (⟨0,hm,rfl,rfl⟩) ?_ ?_
  · rintro _ _ ⟨y13,hm,_⟩; exact nomatch hm
  rintro m14 _ _ ⟨y13,hm,rfl,rfl⟩
  simp only [qm] at hm
  refine sq (dn [(1,.ptr 0 0),(13,aR 1 1 4),(14,aI 4),(15,aI y13),(16,aB (decide (y13 < 4)))] ?_)
  refine sq ?_
  rcases zh hm with ⟨h15,hm⟩ | ⟨h15,hm⟩
  ·
   refine c1 h15 (wp_skip (sq (bq (sq (rg ?_)))))
   obtain ⟨x16,h17,hm⟩:=bs hm
   refine dv 17 (v:=.eptr 1 0 4 1 (0+Int.toNat y13) 0) (abq (Zn a0) .i64 (n:=4) (id:=1) (esz:=1) t182 t23 h17 (by first | rfl | assumption | omega | (simp only [List.length_set,List.length_append,List.length_cons,List.length_nil,List.length_replicate,List.length_drop] at * <;> omega)) rfl (by kernel_rfl)) (by kernel_rfl) (dv 18 (v:=.pv (zw x16)) (ai4 (rSl za) (Zn a0) (n:=4) (esz:=1) (j:=y13) (off:=0) (id:=1) t23 rfl h17 (by first | rfl | assumption | omega | (simp only [List.length_set,List.length_append,List.length_cons,List.length_nil,List.length_replicate,List.length_drop] at * <;> omega)) (Nat.zero_le _) (by kernel_rfl) (by kernel_rfl)) (by kernel_rfl) (fq 1 [(1,.ptr 0 0),(4,.pv (zw x16)),(13,aR 1 1 4),(14,aI 4),(15,aI y13)] (sq (rg (s1 1 [(19,.pv (zw x16))] (dv 20 (v:=aI (acd x16)) (zI za x16 t23 (by kernel_rfl)) (by kernel_rfl) (s1 2 [(22,aB (decide (((sll x16).length:Int) > 60))),(21,aB (decide (((sll x16).length:Int) > 60)))] ?_)))))))
   rcases zh hm with ⟨h18,hm⟩ | ⟨h18,hm⟩
   ·
    refine known [22,21] h18 (by kernel_rfl) (fq 3 [(1,.ptr 0 0),(13,aR 1 1 4),(14,aI 4),(15,aI y13),(25,aB true)] (cT (by kernel_rfl) (sq (dn [(2,aB false)] (wp_ret ?_)))))
    obtain rfl:=Option.some.inj hm
    exact ⟨trivial,by kernel_rfl⟩
   ·
    refine known [22,21] h18 (by kernel_rfl) (s1 1 [(23,.pv (zw x16))] ?_)
    obtain ⟨x19,h20,hm⟩:=bs hm
    refine dv 24 (Zh (by kernel_rfl) (aad h20) (by kernel_rfl) (by kernel_rfl) (by kernel_rfl)) (by kernel_rfl) (fq 1 [(1,.ptr 0 0),(13,aR 1 1 4),(14,aI 4),(15,aI y13),(25,aB x19)] ?_)
    rcases zh hm with ⟨h21,hm⟩ | ⟨h21,hm⟩
    ·
     refine c1 h21 (sq (dn [(2,aB false)] (wp_ret ?_)))
     obtain rfl:=Option.some.inj hm
     exact ⟨trivial,by kernel_rfl⟩
    ·
     refine c0 h21 (wp_skip (dn [(1,.ptr 0 0),(13,aR 1 1 4),(14,aI 4),(15,aI (zU y13))] ?_))
     exact ⟨_,_,ZC [(1,.ptr 0 0),(13,aR 1 1 4),(14,aI 4),(15,aI (zU y13))] [.box (zc2 a0) false,bR 23 1 (rSl za) (Zn a0) 0 0] (by kernel_rfl),⟨(zU y13),hm,rfl,rfl⟩⟩
  ·
   refine c0 h15 (wp_exit ?_)
   exact ⟨y13,(decide (y13 < 4)),hm,rfl,rfl⟩
abbrev zp69 (p0:zb):Nat × AV:=(37,.pv (zg zd p0.fKids))
abbrev zp70 (p0:zb):Nat × AV:=(38,aI ((sll p0.fKids).length:Int))
theorem aiL {rc_plan_count:(Nat→zb→Int→Int→Option (Int))} (ih_plan_count:∀ {n:Nat} {a0:zb} {a1:Int} {a2:Int} {r:Int} (hm:rc_plan_count n a0 a1 a2=some r),call G n 125 [.agg [aI a0.fKind,aI a0.fRel,.pv (zg za a0.fWhere),.pv (zg za a0.fLeft),.pv (zg za a0.fRight),.pv (zg za a0.fOut),.pv (zg zi a0.fAggs),.pv (zg zj a0.fOrder),.pv (zg zd a0.fKids)],aI a1,aI a2] []=some (.ret (aI r),[])) {n:Nat} {a0:zb} {a1:Int} {a2:Int} {r:Int} (hm:QV rc_plan_count n a0 a1 a2=some r):
    call G n 125 [.agg (zc2 a0),aI a1,aI a2] []=some (.ret (aI r),[]):=by
  unfold QV at hm
  obtain ⟨n,rfl,h0⟩:=zy hm
  replace hm:=h0; clear h0
  refine Z4 52 [(0,.agg (zc2 a0)),(1,aI a1),(2,aI a2)] func125 rfl (by kernel_rfl) (sq (det [(1,aI a1),(2,aI a2),(3,.ptr 0 0)] [.box (zc2 a0) false] (by kernel_rfl) ?_))
  refine sq (sq (rgd (shd 3 [(11,aB (decide (a1 > 24))),(10,aB (decide (a1 > 24))),(9,aI a1)] (by kernel_rfl) ?_)))
  rcases zh hm with ⟨h1,hm⟩ | ⟨h1,hm⟩
  ·
   refine abc [11,10] h1 (by kernel_rfl) (shd 22 [(33,aB true),(32,.undef),(31,.undef),(30,.undef),(29,aB true),(28,aB true),(27,.undef),(26,.undef),(25,.undef),(24,aB true),(23,aB true),(22,.undef),(21,.undef),(20,.undef),(19,.undef),(18,.undef),(17,.undef),(16,.undef),(15,aB true),(14,aB true),(13,.undef),(12,.undef)] (by kernel_rfl) (find [(1,aI a1),(2,aI a2),(3,.ptr 0 0),(33,aB true)] rfl (by kernel_rfl) (by kernel_rfl) (cT (by kernel_rfl) (sq (dn [(6,aI (-1))] (wp_ret ?_))))))
   obtain rfl:=Option.some.inj hm
   exact ⟨trivial,by kernel_rfl⟩
  ·
   refine abc [11,10] h1 (by kernel_rfl) (shd 4 [(15,aB (decide (a2 < 1))),(14,aB (decide (a2 < 1))),(13,aB (decide (a2 < 1))),(12,aI a2)] (by kernel_rfl) ?_)
   rcases zh hm with ⟨h2,hm⟩ | ⟨h2,hm⟩
   ·
    refine abc [15,14,13] h2 (by kernel_rfl) (shd 18 [(33,aB true),(32,.undef),(31,.undef),(30,.undef),(29,aB true),(28,aB true),(27,.undef),(26,.undef),(25,.undef),(24,aB true),(23,aB true),(22,.undef),(21,.undef),(20,.undef),(19,.undef),(18,.undef),(17,.undef),(16,.undef)] (by kernel_rfl) (find [(1,aI a1),(2,aI a2),(3,.ptr 0 0),(33,aB true)] rfl (by kernel_rfl) (by kernel_rfl) (cT (by kernel_rfl) (sq (dn [(6,aI (-1))] (wp_ret ?_))))))
    obtain rfl:=Option.some.inj hm
    exact ⟨trivial,by kernel_rfl⟩
   ·
    refine abc [15,14,13] h2 (by kernel_rfl) (shd 2 [(17,aI a0.fKind),(16,.ptr 0 0)] (by kernel_rfl) ?_)
    obtain ⟨x3,h4,hm⟩:=bs hm
    refine dvd 18 (Zh (by kernel_rfl) (agT h4) (by kernel_rfl) (by kernel_rfl) (by kernel_rfl)) (by kernel_rfl) (shd 2 [(20,.pv (zg zd a0.fKids)),(19,.ptr 0 8)] (by kernel_rfl) (dvd 21 (v:=aI ((sll a0.fKids).length:Int)) (zI zd a0.fKids t64 (by kernel_rfl)) (by kernel_rfl) (shd 3 [(24,aB (x3 != ((sll a0.fKids).length:Int))),(23,aB (x3 != ((sll a0.fKids).length:Int))),(22,aB (x3 != ((sll a0.fKids).length:Int)))] (by kernel_rfl) ?_)))
    rcases zh hm with ⟨h5,hm⟩ | ⟨h5,hm⟩
    ·
     refine abc [24,23,22] h5 (by kernel_rfl) (shd 9 [(33,aB true),(32,.undef),(31,.undef),(30,.undef),(29,aB true),(28,aB true),(27,.undef),(26,.undef),(25,.undef)] (by kernel_rfl) (find [(1,aI a1),(2,aI a2),(3,.ptr 0 0),(33,aB true)] rfl (by kernel_rfl) (by kernel_rfl) (cT (by kernel_rfl) (sq (dn [(6,aI (-1))] (wp_ret ?_))))))
     obtain rfl:=Option.some.inj hm
     exact ⟨trivial,by kernel_rfl⟩
    ·
     refine abc [24,23,22] h5 (by kernel_rfl) (shd 1 [(25,.agg (zc2 a0))] (by kernel_rfl) ?_)
     obtain ⟨x6,h7,hm⟩:=bs hm
     refine dvd 26 (Zh (by kernel_rfl) (ajS h7) (by kernel_rfl) (by kernel_rfl) (by kernel_rfl)) (by kernel_rfl) (shd 3 [(29,aB (!x6)),(28,aB (!x6)),(27,aB (!x6))] (by kernel_rfl) ?_)
     rcases zh hm with ⟨h8,hm⟩ | ⟨h8,hm⟩
     ·
      refine abc [29,28,27] h8 (by kernel_rfl) (shd 4 [(33,aB true),(32,.undef),(31,.undef),(30,.undef)] (by kernel_rfl) (find [(1,aI a1),(2,aI a2),(3,.ptr 0 0),(33,aB true)] rfl (by kernel_rfl) (by kernel_rfl) (cT (by kernel_rfl) (sq (dn [(6,aI (-1))] (wp_ret ?_))))))
      obtain rfl:=Option.some.inj hm
      exact ⟨trivial,by kernel_rfl⟩
     ·
      refine abc [29,28,27] h8 (by kernel_rfl) (shd 1 [(30,.agg (zc2 a0))] (by kernel_rfl) ?_)
      obtain ⟨x9,h10,hm⟩:=bs hm
      refine dvd 31 (Zh (by kernel_rfl) (ajO h10) (by kernel_rfl) (by kernel_rfl) (by kernel_rfl)) (by kernel_rfl) (shd 2 [(33,aB (!x9)),(32,aB (!x9))] (by kernel_rfl) (find [(1,aI a1),(2,aI a2),(3,.ptr 0 0),(33,aB (!x9))] rfl (by kernel_rfl) (by kernel_rfl) ?_))
      rcases zh hm with ⟨h11,hm⟩ | ⟨h11,hm⟩
      ·
       refine c1 h11 (sq (dn [(6,aI (-1))] (wp_ret ?_)))
       obtain rfl:=Option.some.inj hm
       exact ⟨trivial,by kernel_rfl⟩
      ·
       refine c0 h11 (wp_skip (sq (dn [(1,aI a1),(2,aI (ais a2)),(3,.ptr 0 0)] ?_)))
       obtain ⟨k15,hk15,hm⟩:=zx hm
       refine mid (fun t H=>(∃ (y12:Int) (y13:Int) (y14:Bool),k15 y12=some r∧t=mk 52 [(1,aI a1),(2,aI y12),(zp69 a0),(zp70 a0),(39,aI y13),(40,aB y14)]∧H=[.box (zc2 a0) false])) ?_ ?_
       ·
        rintro _ _ ⟨y12,y13,y14,hm,rfl,rfl⟩
        subst hk15
        refine sq (dn [(6,aI y12)] (wp_ret ?_))
        obtain rfl:=Option.some.inj hm
        exact ⟨trivial,by kernel_rfl⟩
       refine sq (rg (s1 2 [(zp69 a0),(36,.ptr 0 8)] (dv 38 (v:=aI ((sll a0.fKids).length:Int)) (zI zd a0.fKids t64 (by kernel_rfl)) (by kernel_rfl) (fq 1 [(1,aI a1),(2,aI (ais a2)),(zp69 a0),(zp70 a0),(39,aI 0)] (bq ?_)))))
       refine qq (fun mm t H=>(∃ (y18:Int) (y19:Int),aac n rc_plan_count a0 a1 k15 mm y18 y19=some r∧t=mk 52 [(1,aI a1),(2,aI y18),(zp69 a0),(zp70 a0),(39,aI y19)]∧H=[.box (zc2 a0) false])) (⟨(IntKind.wrap .i64 (a2 - 1)),0,hm,rfl,rfl⟩) ?_ ?_
       · rintro _ _ ⟨y18,y19,hm,_⟩; exact nomatch hm
       rintro m20 _ _ ⟨y18,y19,hm,rfl,rfl⟩
       simp only [aac] at hm
       refine sq (dn [(1,aI a1),(2,aI y18),(zp69 a0),(zp70 a0),(39,aI y19),(40,aB (agH y19 a0))] ?_)
       refine sq ?_
       rcases zh hm with ⟨h21,hm⟩ | ⟨h21,hm⟩
       ·
        refine c1 h21 (wp_skip (sq (bq (sq (rg ?_)))))
        obtain ⟨x22,h23,hm⟩:=bs hm
        refine dv 41 (v:=.pv (.ptr (ZN (zq x22)) 0)) (aaK zd a0.fKids .i64 t64 t66 h23 (Zg x22) rfl (by kernel_rfl)) (by kernel_rfl) (stf 3 [(1,aI a1),(2,aI y18),(8,.ptr 1 0),(zp69 a0),(zp70 a0),(39,aI y19)] [.box (zc2 a0) false,.box (zc3 x22) false] (by kernel_rfl) (sq (rg (s1 4 [(46,aI y18),(45,aI (zU a1)),(44,aI a1),(43,.agg (zc3 x22))] ?_))))
        obtain ⟨x24,h25,hm⟩:=bs hm
        refine dv 47 (Zh (by kernel_rfl) (ih_plan_count h25) (by kernel_rfl) (by kernel_rfl) (by kernel_rfl)) (by kernel_rfl) (fq 1 [(1,aI a1),(2,aI x24),(zp69 a0),(zp70 a0),(39,aI y19)] (sq (dn [(1,aI a1),(2,aI x24),(zp69 a0),(zp70 a0),(39,aI y19),(49,aB (decide (x24 < 0)))] ?_)))
        rcases zh hm with ⟨h26,hm⟩ | ⟨h26,hm⟩
        ·
         refine c1 h26 (sq (dn [(6,aI (-1))] (wp_ret ?_)))
         obtain rfl:=Option.some.inj hm
         exact ⟨trivial,by kernel_rfl⟩
        ·
         refine c0 h26 (wp_skip (dn [(1,aI a1),(2,aI x24),(zp69 a0),(zp70 a0),(39,aI (zU y19))] ?_))
         exact ⟨_,_,ZC [(1,aI a1),(2,aI x24),(zp69 a0),(zp70 a0),(39,aI (zU y19))] [.box (zc2 a0) false] (by kernel_rfl),⟨x24,(zU y19),hm,rfl,rfl⟩⟩
       ·
        refine c0 h21 (wp_exit ?_)
        exact ⟨y18,y19,(agH y19 a0),hm,rfl,rfl⟩
theorem aeR:∀ (m:Nat),∀ {n:Nat} {a0:zb} {a1:Int} {a2:Int} {r:Int} (hm:qI m n a0 a1 a2=some r),call G n 125 [.agg (zc2 a0),aI a1,aI a2] []=some (.ret (aI r),[])
  | 0=>by intros; rename_i hm; exact nomatch hm
  | m+1=>fun hm=>
    aiL (aeR m) hm
theorem ajY {n:Nat} {a0:zb} {a1:Int} {a2:Int} {r:Int} (hm:af0 n a0 a1 a2=some r):
    call G n 125 [.agg (zc2 a0),aI a1,aI a2] []=some (.ret (aI r),[]):=aeR n hm
theorem acX {n:Nat} {a0:zb} {r:Bool} (hm:aaB n a0=some r):
    call G n 36 [.agg (zc2 a0)] []=some (.ret (aB r),[]):=by
  unfold aaB at hm
  obtain ⟨n,rfl,h0⟩:=zy hm
  replace hm:=h0; clear h0
  refine Z4 6 [(0,.agg (zc2 a0))] func36 rfl (by kernel_rfl) (sq (det [(1,.ptr 0 0)] [.box (zc2 a0) false] (by kernel_rfl) (sq (rg (s1 1 [(3,.agg (zc2 a0))] ?_)))))
  obtain ⟨x1,h2,hm⟩:=bs hm
  refine dv 4 (Zh (by kernel_rfl) (ajY h2) (by kernel_rfl) (by kernel_rfl) (by kernel_rfl)) (by kernel_rfl) (fq 2 [(2,aB (decide (x1≥0)))] (wp_ret ?_))
  obtain rfl:=Option.some.inj hm
  exact ⟨trivial,by kernel_rfl⟩
abbrev zp71 (p0:(List Int)) (p1:Int):Nat × AV:=(0,aR 0 1 ((p0++([(iOr .u8 (IntKind.wrap .u8 p1) 128)]:List Int)).length))
abbrev am5 (p0:(List Int)) (p1:Int):=(p0++([(iOr .u8 (IntKind.wrap .u8 p1) 128)]:List Int))
theorem zW (m0:Nat) (f0:Nat) {n:Nat} {a0:(List Int)} {a1:Int} {r:(List Int)} (hm0:a0.length=m0) (hf0:f0≤a0.length) (hm:zG n a0 a1=some r):
    ∃ vv H1,call G n 72 [aR 0 1 m0,aU a1] [bR 5 1 (rI .u8) a0 f0 0]=some (.ret vv,H1)∧(match (generalizing:=false) r with | r0=>(∃ (e1:Nat),e1≤r0.length∧vv=aR 0 1 r0.length∧H1=[bR 5 1 (rI .u8) r0 e1 0])):=by
  unfold zG at hm
  obtain ⟨n,rfl,h0⟩:=zy hm
  replace hm:=h0; clear h0
  refine QA 20 [(0,aR 0 1 m0),(1,aU a1)] func72 rfl (by kernel_rfl) (sq (dn [(0,aR 0 1 m0),(1,aU a1)] ?_))
  obtain ⟨k8,hk8,hm⟩:=zx hm
  refine mid (fun t H=>(∃ (y1:(List Int)) (y2:Int) (y3:Bool) (g4:Nat) (g6:Nat),k8 y1 y2=some r∧t=mk 20 [(0,aR 0 1 g4),(1,aU y2),(6,aB y3)]∧H=[bR 5 1 (rI .u8) y1 g6 0]∧y1.length=g4∧g6≤y1.length)) ?_ ?_
  ·
   rintro _ _ ⟨y1,y2,y3,g4,g6,hm,rfl,rfl,q5,q7⟩
   subst hk8
   refine sq (rg (st 4 [(18,aR 1 1 1),(17,aY (IntKind.wrap .u8 y2)),(16,aU y2),(15,aR 0 1 g4)] [bR 5 1 (rI .u8) y1 g6 0,bR 5 1 (rI .u8) ([(IntKind.wrap .u8 y2)]:List Int) 0 0] (by kernel_rfl) ?_))
   obtain ⟨_,h9,hm⟩:=bs hm
   refine dO [(19,aR 0 1 ((y1++([(IntKind.wrap .u8 y2)]:List Int)).length))] [bR 5 1 (rI .u8) (y1++([(IntKind.wrap .u8 y2)]:List Int)) g6 0,bR 5 1 (rI .u8) ([(IntKind.wrap .u8 y2)]:List Int) 0 0] (ZT (u:=0) (n:=g4) (id:=0) (rI .u8) y1 ([(IntKind.wrap .u8 y2)]:List Int) (b:=1) t29 t5 rfl rfl rfl (fun _=>rfl) rfl h9 rfl (by omega) (by omega) (show zP (aR 1 1 1) _=some (([(IntKind.wrap .u8 y2)]:List Int).map (rI .u8)) from by kernel_rfl) (by kernel_rfl)) (by kernel_rfl) (fq 1 [(4,aR 0 1 ((y1++([(IntKind.wrap .u8 y2)]:List Int)).length))] (wp_ret ?_))
   obtain rfl:=Option.some.inj hm
   exact ⟨trivial,aR 0 1 ((y1++([(IntKind.wrap .u8 y2)]:List Int)).length),[bR 5 1 (rI .u8) (y1++([(IntKind.wrap .u8 y2)]:List Int)) g6 0],by kernel_rfl,g6,(by first | exact Nat.zero_le _ | exact Nat.le_refl _ | assumption | omega | (simp only [List.length_set,List.length_append,List.length_cons,List.length_nil,List.length_replicate,List.length_drop] at * <;> omega)),rfl,rfl⟩
  refine bq ?_
  refine qq (fun mm t H=>(∃ (y16:(List Int)) (y17:Int) (g18:Nat) (g20:Nat),qD n k8 mm y16 y17=some r∧t=mk 20 [(0,aR 0 1 g18),(1,aU y17)]∧H=[bR 5 1 (rI .u8) y16 g20 0]∧y16.length=g18∧g20≤y16.length)) (⟨a0,a1,m0,f0,hm,rfl,rfl,(by first | rfl | assumption | omega | (simp only [List.length_set,List.length_append,List.length_cons,List.length_nil,List.length_replicate,List.length_drop] at * <;> omega)),(by first | exact Nat.zero_le _ | exact Nat.le_refl _ | assumption | omega | (simp only [List.length_set,List.length_append,List.length_cons,List.length_nil,List.length_replicate,List.length_drop] at * <;> omega))⟩) ?_ ?_
  · rintro _ _ ⟨y16,y17,g18,g20,hm,_⟩; exact nomatch hm
  rintro m22 _ _ ⟨y16,y17,g18,g20,hm,rfl,rfl,q19,q21⟩
  simp only [qD] at hm
  refine sq (sq (dn [(0,aR 0 1 g18),(1,aU y17),(6,aB (decide (y17≥128)))] ?_))
  rcases zh hm with ⟨h23,hm⟩ | ⟨h23,hm⟩
  ·
   refine c1 h23 (wp_skip (bq (sq (rg (st 5 [(11,aR 1 1 1),(10,aY (iOr .u8 (IntKind.wrap .u8 y17) 128)),(9,aY (IntKind.wrap .u8 y17)),(8,aU y17),(7,aR 0 1 g18)] [bR 5 1 (rI .u8) y16 g20 0,bR 5 1 (rI .u8) ([(iOr .u8 (IntKind.wrap .u8 y17) 128)]:List Int) 0 0] (by kernel_rfl) ?_)))))
   obtain ⟨_,h24,hm⟩:=bs hm
   refine dO [(12,aR 0 1 ((y16++([(iOr .u8 (IntKind.wrap .u8 y17) 128)]:List Int)).length))] [bR 5 1 (rI .u8) (am5 y16 y17) g20 0,bR 5 1 (rI .u8) ([(iOr .u8 (IntKind.wrap .u8 y17) 128)]:List Int) 0 0] (ZT (u:=0) (n:=g18) (id:=0) (rI .u8) y16 ([(iOr .u8 (IntKind.wrap .u8 y17) 128)]:List Int) (b:=1) t29 t5 rfl rfl rfl (fun _=>rfl) rfl h24 rfl (by omega) (by omega) (show zP (aR 1 1 1) _=some (([(iOr .u8 (IntKind.wrap .u8 y17) 128)]:List Int).map (rI .u8)) from by kernel_rfl) (by kernel_rfl)) (by kernel_rfl) (fq 1 [(zp71 y16 y17),(1,aU y17)] (dn [(zp71 y16 y17),(1,aU (iShr .u64 y17 7))] ?_))
   exact ⟨_,_,ZC [(zp71 y16 y17),(1,aU (iShr .u64 y17 7))] [bR 5 1 (rI .u8) (am5 y16 y17) g20 0] (by kernel_rfl),⟨(am5 y16 y17),(iShr .u64 y17 7),(am5 y16 y17).length,g20,hm,rfl,rfl,(by first | rfl | assumption | omega | (simp only [List.length_set,List.length_append,List.length_cons,List.length_nil,List.length_replicate,List.length_drop] at * <;> omega)),(by first | exact Nat.zero_le _ | exact Nat.le_refl _ | assumption | omega | (simp only [List.length_set,List.length_append,List.length_cons,List.length_nil,List.length_replicate,List.length_drop] at * <;> omega))⟩⟩
  ·
   refine c0 h23 (wp_exit ?_)
   exact ⟨y16,y17,(decide (y17≥128)),g18,g20,hm,rfl,rfl,(by first | rfl | assumption | omega | (simp only [List.length_set,List.length_append,List.length_cons,List.length_nil,List.length_replicate,List.length_drop] at * <;> omega)),(by first | exact Nat.zero_le _ | exact Nat.le_refl _ | assumption | omega | (simp only [List.length_set,List.length_append,List.length_cons,List.length_nil,List.length_replicate,List.length_drop] at * <;> omega))⟩
theorem ac9 {n:Nat} {a0:Nat} {r:Bool} (hm:abH n a0=some r):
    call G n 228 [aF a0] []=some (.ret (aB r),[]):=by
  unfold abH at hm
  obtain ⟨n,rfl,h0⟩:=zy hm
  replace hm:=h0; clear h0
  refine Z4 6 [(0,aF a0)] func228 rfl (by kernel_rfl) (sq (dn [(0,aF a0)] (sq (dn [(2,aB ((FloatKind.format .f64).order a0 a0 != some .eq))] (wp_ret ?_)))))
  obtain rfl:=Option.some.inj hm
  exact ⟨trivial,by kernel_rfl⟩
abbrev zc9 (p0:zl):List AV:=[aI p0.fKind,aI p0.fInt,aF (Int.toNat 9221120237041090561),aS p0.fText]
theorem acD {n:Nat} {a0:zl} {r:zl} (hm:aaA n a0=some r):
    call G n 189 [.agg (zc4 a0)] []=some (.ret (.agg [aI r.fKind,aI r.fInt,aF r.fFloat,aS r.fText]),[]):=by
  unfold aaA at hm
  obtain ⟨n,rfl,h0⟩:=zy hm
  replace hm:=h0; clear h0
  refine Z4 30 [(0,.agg (zc4 a0))] func189 rfl (by kernel_rfl) (sq (det [(1,.ptr 0 0),(2,.ptr 1 0)] [.box (zc4 a0) false,.box [aI 0,aI 0,aF 0,aS ByteArray.empty] false] (by kernel_rfl) (sq (bq (sq (rg (s1 1 [(4,.agg (zc4 a0))] ?_)))))))
  obtain ⟨x1,h2,hm⟩:=bs hm
  refine dv 5 (Zh (by kernel_rfl) (acP h2) (by kernel_rfl) (by kernel_rfl) (by kernel_rfl)) (by kernel_rfl) (fq 2 [(1,.ptr 0 0),(2,.ptr 1 0),(3,aB (!x1))] ?_)
  rcases zh hm with ⟨h3,hm⟩ | ⟨h3,hm⟩
  ·
   refine c1 h3 (sq (dn [(2,.ptr 1 0)] (wp_ret ?_)))
   obtain rfl:=Option.some.inj hm
   exact ⟨trivial,by kernel_rfl⟩
  ·
   refine c0 h3 ?_
   obtain ⟨k5,hk5,hm⟩:=zx hm
   refine mid (fun t H=>(∃ (y4:Bool),k5 y4=some r∧t=mk 30 [(1,.ptr 0 0),(2,.ptr 1 0),(8,aB y4)]∧H=[.box (zc4 a0) false,.box [aI 0,aI 0,aF 0,aS ByteArray.empty] false])) ?_ ?_
   ·
    rintro _ _ ⟨y4,hm,rfl,rfl⟩
    subst hk5
    rcases zh hm with ⟨h6,hm⟩ | ⟨h6,hm⟩
    ·
     refine c1 h6 (rg (s1 1 [(17,aF (Int.toNat 9221120237041090561))] (stf 2 [(1,.ptr 0 0),(2,.ptr 1 0)] [.box (zc9 a0) false,.box [aI 0,aI 0,aF 0,aS ByteArray.empty] false] (by kernel_rfl) (sq (det [(2,.ptr 1 0)] [.box (zc9 a0) false,.box (zc9 a0) false] (by kernel_rfl) (wp_ret ?_))))))
     obtain rfl:=Option.some.inj hm
     exact ⟨trivial,by kernel_rfl⟩
    ·
     refine c0 h6 (sq (rg (s1 4 [(23,aB (a0.fKind == 3)),(22,aB (a0.fKind == 3)),(21,aI a0.fKind),(20,.ptr 0 0)] ?_)))
     refine segP (a0.fKind == 3) [23,22] (fun b=>[(27,aB (b && ((FloatKind.format .f64).order a0.fFloat 0 == some .eq))),(26,ifA b (aB ((FloatKind.format .f64).order a0.fFloat 0 == some .eq)) (.undef)),(25,ifA b (aF a0.fFloat) (.undef)),(24,ifA b (.ptr 0 2) (.undef))]) 4 (by kernel_rfl) (by kernel_rfl) (by kernel_rfl) (fq 1 [(1,.ptr 0 0),(2,.ptr 1 0),(19,aB ((a0.fKind == 3) && ((FloatKind.format .f64).order a0.fFloat 0 == some .eq)))] ?_)
     rcases zh hm with ⟨h7,hm⟩ | ⟨h7,hm⟩
     ·
      refine c1 h7 (det [(1,.ptr 0 0),(2,.ptr 1 0)] [.box [aI a0.fKind,aI a0.fInt,aF 0,aS a0.fText] false,.box [aI 0,aI 0,aF 0,aS ByteArray.empty] false] (by kernel_rfl) (sq (det [(2,.ptr 1 0)] [.box [aI a0.fKind,aI a0.fInt,aF 0,aS a0.fText] false,.box [aI a0.fKind,aI a0.fInt,aF 0,aS a0.fText] false] (by kernel_rfl) (wp_ret ?_))))
      obtain rfl:=Option.some.inj hm
      exact ⟨trivial,by kernel_rfl⟩
     ·
      refine c0 h7 (wp_skip (sq (det [(2,.ptr 1 0)] [.box (zc4 a0) false,.box (zc4 a0) false] (by kernel_rfl) (wp_ret ?_))))
      obtain rfl:=Option.some.inj hm
      exact ⟨trivial,by kernel_rfl⟩
   refine rg (s1 4 [(12,aB (a0.fKind == 3)),(11,aB (a0.fKind == 3)),(10,aI a0.fKind),(9,.ptr 0 0)] ?_)
   rcases zh hm with ⟨h8,hm⟩ | ⟨h8,hm⟩
   ·
    refine known [12,11] h8 (by kernel_rfl) (s1 2 [(14,aF a0.fFloat),(13,.ptr 0 2)] ?_)
    obtain ⟨x9,h10,hm⟩:=bs hm
    refine dv 15 (Zh (by kernel_rfl) (ac9 h10) (by kernel_rfl) (by kernel_rfl) (by kernel_rfl)) (by kernel_rfl) (fq 2 [(1,.ptr 0 0),(2,.ptr 1 0),(8,aB x9)] ?_)
    exact ⟨x9,hm,rfl,rfl⟩
   ·
    refine known [12,11] h8 (by kernel_rfl) (fq 5 [(1,.ptr 0 0),(2,.ptr 1 0),(8,aB false)] ?_)
    exact ⟨false,hm,rfl,rfl⟩
theorem agc (m0:Nat) (f0:Nat) {n:Nat} {a0:(List Int)} {a1:Int} {r:(List Int)} (hm0:a0.length=m0) (hf0:f0≤a0.length) (hm:QF n a0 a1=some r):
    ∃ vv H1,call G n 190 [aR 0 1 m0,aI a1] [bR 5 1 (rI .u8) a0 f0 0]=some (.ret vv,H1)∧(match (generalizing:=false) r with | r0=>(∃ (e1:Nat),e1≤r0.length∧vv=aR 0 1 r0.length∧H1=[bR 5 1 (rI .u8) r0 e1 0])):=by
  unfold QF at hm
  obtain ⟨n,rfl,h0⟩:=zy hm
  replace hm:=h0; clear h0
  refine QA 16 [(0,aR 0 1 m0),(1,aI a1)] func190 rfl (by kernel_rfl) (sq (dn [(0,aR 0 1 m0),(1,aI a1)] (sq (dn [(0,aR 0 1 m0),(1,aI a1),(5,aU (iShl .u64 (IntKind.wrap .u64 a1) 1))] (sq (sq (dn [(0,aR 0 1 m0),(5,aU (iShl .u64 (IntKind.wrap .u64 a1) 1)),(10,aB (decide (a1 < 0)))] ?_)))))))
  rcases zh hm with ⟨h1,hm⟩ | ⟨h1,hm⟩
  ·
   refine c1 h1 (dn [(0,aR 0 1 m0),(5,aU (notI .u64 (iShl .u64 (IntKind.wrap .u64 a1) 1)))] (sq (rg (s1 2 [(14,aU (notI .u64 (iShl .u64 (IntKind.wrap .u64 a1) 1))),(13,aR 0 1 m0)] ?_))))
   obtain ⟨x3,h2,hm⟩:=bs hm
   obtain ⟨vv,H1,hC,g4,q5,rfl,rfl⟩:=zW m0 f0 (by first | rfl | assumption | omega | (simp only [List.length_set,List.length_append,List.length_cons,List.length_nil,List.length_replicate,List.length_drop] at * <;> omega)) (by first | exact Nat.zero_le _ | exact Nat.le_refl _ | assumption | omega | (simp only [List.length_set,List.length_append,List.length_cons,List.length_nil,List.length_replicate,List.length_drop] at * <;> omega)) h2
   refine dR [(15,aR 0 1 x3.length)] [bR 5 1 (rI .u8) x3 g4 0] [0] [aR 0 1 m0,aU (notI .u64 (iShl .u64 (IntKind.wrap .u64 a1) 1))] (by kernel_rfl) (by kernel_rfl) (by kernel_rfl) hC (by kernel_rfl) (fq 1 [(4,aR 0 1 x3.length)] (wp_ret ?_))
   obtain rfl:=Option.some.inj hm
   exact ⟨trivial,aR 0 1 x3.length,[bR 5 1 (rI .u8) x3 g4 0],by kernel_rfl,g4,(by first | exact Nat.zero_le _ | exact Nat.le_refl _ | assumption | omega | (simp only [List.length_set,List.length_append,List.length_cons,List.length_nil,List.length_replicate,List.length_drop] at * <;> omega)),rfl,rfl⟩
  ·
   refine c0 h1 (wp_skip (sq (rg (s1 2 [(14,aU (iShl .u64 (IntKind.wrap .u64 a1) 1)),(13,aR 0 1 m0)] ?_))))
   obtain ⟨x7,h6,hm⟩:=bs hm
   obtain ⟨vv,H1,hC,g8,q9,rfl,rfl⟩:=zW m0 f0 (by first | rfl | assumption | omega | (simp only [List.length_set,List.length_append,List.length_cons,List.length_nil,List.length_replicate,List.length_drop] at * <;> omega)) (by first | exact Nat.zero_le _ | exact Nat.le_refl _ | assumption | omega | (simp only [List.length_set,List.length_append,List.length_cons,List.length_nil,List.length_replicate,List.length_drop] at * <;> omega)) h6
   refine dR [(15,aR 0 1 x7.length)] [bR 5 1 (rI .u8) x7 g8 0] [0] [aR 0 1 m0,aU (iShl .u64 (IntKind.wrap .u64 a1) 1)] (by kernel_rfl) (by kernel_rfl) (by kernel_rfl) hC (by kernel_rfl) (fq 1 [(4,aR 0 1 x7.length)] (wp_ret ?_))
   obtain rfl:=Option.some.inj hm
   exact ⟨trivial,aR 0 1 x7.length,[bR 5 1 (rI .u8) x7 g8 0],by kernel_rfl,g8,(by first | exact Nat.zero_le _ | exact Nat.le_refl _ | assumption | omega | (simp only [List.length_set,List.length_append,List.length_cons,List.length_nil,List.length_replicate,List.length_drop] at * <;> omega)),rfl,rfl⟩
theorem afG {n:Nat} {a0:Nat} {r:Int} (hm:acF n a0=some r):
    call G n 231 [aF a0] []=some (.ret (aU r),[]):=by
  unfold acF at hm
  obtain ⟨n,rfl,h0⟩:=zy hm
  replace hm:=h0; clear h0
  refine Z4 12 [(0,aF a0)] func231 rfl (by kernel_rfl) (sq (dn [(0,aF a0)] (sq (bq (sq (dn [(0,aF a0),(3,aB ((FloatKind.format .f64).order a0 a0 != some .eq))] ?_))))))
  rcases zh hm with ⟨h1,hm⟩ | ⟨h1,hm⟩
  ·
   refine c1 h1 (sq (dn [(2,aU 9221120237041090561)] (wp_ret ?_)))
   obtain rfl:=Option.some.inj hm
   exact ⟨trivial,by kernel_rfl⟩
  ·
   refine c0 h1 (sq (dn [(0,aF a0),(7,aB ((FloatKind.format .f64).order a0 0 == some .eq))] ?_))
   rcases zh hm with ⟨h2,hm⟩ | ⟨h2,hm⟩
   ·
    refine c1 h2 (sq (dn [(2,aU 0)] (wp_ret ?_)))
    obtain rfl:=Option.some.inj hm
    exact ⟨trivial,by kernel_rfl⟩
   ·
    refine c0 h2 (wp_skip (sq (rg (s1 1 [(10,aF a0)] (s1 1 [(11,aU (a0:Int))] (fq 1 [(2,aU (a0:Int))] (wp_ret ?_)))))))
    obtain rfl:=Option.some.inj hm
    exact ⟨trivial,by kernel_rfl⟩
abbrev zp72 (p0:(List Int)) (p1:Int) (p2:Int):Nat × AV:=(0,aR 0 1 ((p0++([(IntKind.wrap .u8 (iShr .u64 p1 (IntKind.wrap .u64 (IntKind.wrap .i64 (8 * p2)))))]:List Int)).length))
abbrev aog (p0:Int) (p1:Int):=([(IntKind.wrap .u8 (iShr .u64 p0 (IntKind.wrap .u64 (IntKind.wrap .i64 (8 * p1)))))]:List Int)
abbrev ank (p0:(List Int)) (p1:Int) (p2:Int):=(p0++([(IntKind.wrap .u8 (iShr .u64 p1 (IntKind.wrap .u64 (IntKind.wrap .i64 (8 * p2)))))]:List Int))
theorem afo (m0:Nat) (f0:Nat) {n:Nat} {a0:(List Int)} {a1:Int} {a2:Int} {r:(List Int)} (hm0:a0.length=m0) (hf0:f0≤a0.length) (hm:QE n a0 a1 a2=some r):
    ∃ vv H1,call G n 230 [aR 0 1 m0,aU a1,aI a2] [bR 5 1 (rI .u8) a0 f0 0]=some (.ret vv,H1)∧(match (generalizing:=false) r with | r0=>(∃ (e1:Nat) (e2:Nat),r0.length=e1∧e2≤r0.length∧vv=aR 0 1 e1∧H1=[bR 5 1 (rI .u8) r0 e2 0])):=by
  unfold QE at hm
  obtain ⟨n,rfl,h0⟩:=zy hm
  replace hm:=h0; clear h0
  refine QA 26 [(0,aR 0 1 m0),(1,aU a1),(2,aI a2)] func230 rfl (by kernel_rfl) (sq (dn [(0,aR 0 1 m0),(1,aU a1),(2,aI a2)] ?_))
  obtain ⟨k8,hk8,hm⟩:=zx hm
  refine mid (fun t H=>(∃ (y1:(List Int)) (y2:Bool) (y3:Int) (g4:Nat) (g6:Nat),k8 y1=some r∧t=mk 26 [(0,aR 0 1 g4),(1,aU a1),(7,aI y3),(13,aB y2)]∧H=[bR 5 1 (rI .u8) y1 g6 0]∧y1.length=g4∧g6≤y1.length)) ?_ ?_
  ·
   rintro _ _ ⟨y1,y2,y3,g4,g6,hm,rfl,rfl,q5,q7⟩
   subst hk8
   refine sq (dn [(6,aR 0 1 g4)] (wp_ret ?_))
   obtain rfl:=Option.some.inj hm
   exact ⟨trivial,aR 0 1 g4,[bR 5 1 (rI .u8) y1 g6 0],by kernel_rfl,g4,g6,(by first | rfl | assumption | omega | (simp only [List.length_set,List.length_append,List.length_cons,List.length_nil,List.length_replicate,List.length_drop] at * <;> omega)),(by first | exact Nat.zero_le _ | exact Nat.le_refl _ | assumption | omega | (simp only [List.length_set,List.length_append,List.length_cons,List.length_nil,List.length_replicate,List.length_drop] at * <;> omega)),rfl,rfl⟩
  refine sq (dn [(0,aR 0 1 m0),(1,aU a1),(7,aI (IntKind.wrap .i64 ((if 8 < (if 0 > a2 then 0 else a2) then 8 else (if 0 > a2 then 0 else a2)) - 1)))] (bq ?_))
  refine qq (fun mm t H=>(∃ (y15:(List Int)) (y16:Int) (g17:Nat) (g19:Nat),Z8 n a1 k8 mm y15 y16=some r∧t=mk 26 [(0,aR 0 1 g17),(1,aU a1),(7,aI y16)]∧H=[bR 5 1 (rI .u8) y15 g19 0]∧y15.length=g17∧g19≤y15.length)) (⟨a0,(IntKind.wrap .i64 ((if 8 < (if 0 > a2 then 0 else a2) then 8 else (if 0 > a2 then 0 else a2)) - 1)),m0,f0,hm,rfl,rfl,(by first | rfl | assumption | omega | (simp only [List.length_set,List.length_append,List.length_cons,List.length_nil,List.length_replicate,List.length_drop] at * <;> omega)),(by first | exact Nat.zero_le _ | exact Nat.le_refl _ | assumption | omega | (simp only [List.length_set,List.length_append,List.length_cons,List.length_nil,List.length_replicate,List.length_drop] at * <;> omega))⟩) ?_ ?_
  · rintro _ _ ⟨y15,y16,g17,g19,hm,_⟩; exact nomatch hm
  rintro m21 _ _ ⟨y15,y16,g17,g19,hm,rfl,rfl,q18,q20⟩
  simp only [Z8] at hm
  refine sq (sq (dn [(0,aR 0 1 g17),(1,aU a1),(7,aI y16),(13,aB (decide (y16≥0)))] ?_))
  rcases zh hm with ⟨h22,hm⟩ | ⟨h22,hm⟩
  ·
   refine c1 h22 (wp_skip (sq (bq (rg (s1 5 [(20,aU (IntKind.wrap .u64 (IntKind.wrap .i64 (8 * y16)))),(19,aI (IntKind.wrap .i64 (8 * y16))),(18,aI y16),(17,aU a1),(16,aR 0 1 g17)] ?_)))))
   obtain ⟨_,h23,hm⟩:=bs hm
   refine dv 21 (v:=aU (iShr .u64 a1 (IntKind.wrap .u64 (IntKind.wrap .i64 (8 * y16))))) (shrO h23 (by kernel_rfl)) (by kernel_rfl) (st 2 [(23,aR 1 1 1),(22,aY (IntKind.wrap .u8 (iShr .u64 a1 (IntKind.wrap .u64 (IntKind.wrap .i64 (8 * y16))))))] [bR 5 1 (rI .u8) y15 g19 0,bR 5 1 (rI .u8) (aog a1 y16) 0 0] (by kernel_rfl) ?_)
   obtain ⟨_,h24,hm⟩:=bs hm
   refine dO [(24,aR 0 1 ((y15++([(IntKind.wrap .u8 (iShr .u64 a1 (IntKind.wrap .u64 (IntKind.wrap .i64 (8 * y16)))))]:List Int)).length))] [bR 5 1 (rI .u8) (ank y15 a1 y16) g19 0,bR 5 1 (rI .u8) (aog a1 y16) 0 0] (ZT (u:=0) (n:=g17) (id:=0) (rI .u8) y15 (aog a1 y16) (b:=1) t29 t5 rfl rfl rfl (fun _=>rfl) rfl h24 rfl (by omega) (by omega) (show zP (aR 1 1 1) _=some (([(IntKind.wrap .u8 (iShr .u64 a1 (IntKind.wrap .u64 (IntKind.wrap .i64 (8 * y16)))))]:List Int).map (rI .u8)) from by kernel_rfl) (by kernel_rfl)) (by kernel_rfl) (fq 1 [(zp72 y15 a1 y16),(1,aU a1),(7,aI y16)] (dn [(zp72 y15 a1 y16),(1,aU a1),(7,aI (ais y16))] ?_))
   exact ⟨_,_,ZC [(zp72 y15 a1 y16),(1,aU a1),(7,aI (ais y16))] [bR 5 1 (rI .u8) (ank y15 a1 y16) g19 0] (by kernel_rfl),⟨(ank y15 a1 y16),(ais y16),(ank y15 a1 y16).length,g19,hm,rfl,rfl,(by first | rfl | assumption | omega | (simp only [List.length_set,List.length_append,List.length_cons,List.length_nil,List.length_replicate,List.length_drop] at * <;> omega)),(by first | exact Nat.zero_le _ | exact Nat.le_refl _ | assumption | omega | (simp only [List.length_set,List.length_append,List.length_cons,List.length_nil,List.length_replicate,List.length_drop] at * <;> omega))⟩⟩
  ·
   refine c0 h22 (wp_exit ?_)
   exact ⟨y15,(decide (y16≥0)),y16,g17,g19,hm,rfl,rfl,(by first | rfl | assumption | omega | (simp only [List.length_set,List.length_append,List.length_cons,List.length_nil,List.length_replicate,List.length_drop] at * <;> omega)),(by first | exact Nat.zero_le _ | exact Nat.le_refl _ | assumption | omega | (simp only [List.length_set,List.length_append,List.length_cons,List.length_nil,List.length_replicate,List.length_drop] at * <;> omega))⟩
theorem afr (m0:Nat) (f0:Nat) {n:Nat} {a0:(List Int)} {a1:Nat} {r:(List Int)} (hm0:a0.length=m0) (hf0:f0≤a0.length) (hm:qZ n a0 a1=some r):
    ∃ vv H1,call G n 191 [aR 0 1 m0,aF a1] [bR 5 1 (rI .u8) a0 f0 0]=some (.ret vv,H1)∧(match (generalizing:=false) r with | r0=>(∃ (e1:Nat) (e2:Nat),r0.length=e1∧e2≤r0.length∧vv=aR 0 1 e1∧H1=[bR 5 1 (rI .u8) r0 e2 0])):=by
  unfold qZ at hm
  obtain ⟨n,rfl,h0⟩:=zy hm
  replace hm:=h0; clear h0
  refine QA 9 [(0,aR 0 1 m0),(1,aF a1)] func191 rfl (by kernel_rfl) (sq (dn [(0,aR 0 1 m0),(1,aF a1)] (sq (rg (s1 2 [(6,aF a1),(5,aR 0 1 m0)] ?_)))))
  obtain ⟨x1,h2,hm⟩:=bs hm
  refine dv 7 (Zh (by kernel_rfl) (afG h2) (by kernel_rfl) (by kernel_rfl) (by kernel_rfl)) (by kernel_rfl) ?_
  obtain ⟨x4,h3,hm⟩:=bs hm
  obtain ⟨vv,H1,hC,g5,g6,q7,q8,rfl,rfl⟩:=afo m0 f0 (by first | rfl | assumption | omega | (simp only [List.length_set,List.length_append,List.length_cons,List.length_nil,List.length_replicate,List.length_drop] at * <;> omega)) (by first | exact Nat.zero_le _ | exact Nat.le_refl _ | assumption | omega | (simp only [List.length_set,List.length_append,List.length_cons,List.length_nil,List.length_replicate,List.length_drop] at * <;> omega)) h3
  refine dR [(8,aR 0 1 g5)] [bR 5 1 (rI .u8) x4 g6 0] [0] [aR 0 1 m0,aU x1,aI 8] (by kernel_rfl) (by kernel_rfl) (by kernel_rfl) hC (by kernel_rfl) (fq 1 [(4,aR 0 1 g5)] (wp_ret ?_))
  obtain rfl:=Option.some.inj hm
  exact ⟨trivial,aR 0 1 g5,[bR 5 1 (rI .u8) x4 g6 0],by kernel_rfl,g5,g6,(by first | rfl | assumption | omega | (simp only [List.length_set,List.length_append,List.length_cons,List.length_nil,List.length_replicate,List.length_drop] at * <;> omega)),(by first | exact Nat.zero_le _ | exact Nat.le_refl _ | assumption | omega | (simp only [List.length_set,List.length_append,List.length_cons,List.length_nil,List.length_replicate,List.length_drop] at * <;> omega)),rfl,rfl⟩
theorem afP (m0:Nat) (f0:Nat) {n:Nat} {a0:(List Int)} {a1:ByteArray} {r:(List Int)} (hm0:a0.length=m0) (hf0:f0≤a0.length) (hm:Qh n a0 a1=some r):
    ∃ vv H1,call G n 64 [aR 0 1 m0,aS a1] [bR 5 1 (rI .u8) a0 f0 0]=some (.ret vv,H1)∧(match (generalizing:=false) r with | r0=>(∃ (e1:Nat),e1≤r0.length∧vv=aR 0 1 r0.length∧H1=[bR 5 1 (rI .u8) r0 e1 0])):=by
  unfold Qh at hm
  obtain ⟨n,rfl,h0⟩:=zy hm
  replace hm:=h0; clear h0
  refine QA 12 [(0,aR 0 1 m0),(1,aS a1)] func64 rfl (by kernel_rfl) (sq (dn [(0,aR 0 1 m0),(1,aS a1)] (sq (rg (s1 4 [(8,aU (IntKind.wrap .u64 (a1.size:Int))),(7,aI (a1.size:Int)),(6,aS a1),(5,aR 0 1 m0)] ?_)))))
  obtain ⟨x2,h1,hm⟩:=bs hm
  obtain ⟨vv,H1,hC,g3,q4,rfl,rfl⟩:=zW m0 f0 (by first | rfl | assumption | omega | (simp only [List.length_set,List.length_append,List.length_cons,List.length_nil,List.length_replicate,List.length_drop] at * <;> omega)) (by first | exact Nat.zero_le _ | exact Nat.le_refl _ | assumption | omega | (simp only [List.length_set,List.length_append,List.length_cons,List.length_nil,List.length_replicate,List.length_drop] at * <;> omega)) h1
  refine dR [(9,aR 0 1 x2.length)] [bR 5 1 (rI .u8) x2 g3 0] [0] [aR 0 1 m0,aU (IntKind.wrap .u64 (a1.size:Int))] (by kernel_rfl) (by kernel_rfl) (by kernel_rfl) hC (by kernel_rfl) (s1 1 [(10,aS a1)] ?_)
  rcases zh hm with ⟨h5,hm⟩ | ⟨h5,hm⟩
  ·
   obtain ⟨_,h6,hm⟩:=bs hm
   refine dv 11 (v:=aR 0 1 x2.length) (aj1 (u:=0) (y:=aS a1) (n:=x2.length) (id:=0) (rI .u8) x2 (qU a1) (b:=1) t29 t5 rfl rfl rfl h5 h6 rfl rfl (by omega) (am6 (s:=a1)) (by kernel_rfl)) (by kernel_rfl) (fq 1 [(4,aR 0 1 x2.length)] (wp_ret ?_))
   obtain rfl:=Option.some.inj hm
   exact ⟨trivial,aR 0 1 x2.length,[bR 5 1 (rI .u8) x2 g3 0],by kernel_rfl,g3,(by first | exact Nat.zero_le _ | exact Nat.le_refl _ | assumption | omega | (simp only [List.length_set,List.length_append,List.length_cons,List.length_nil,List.length_replicate,List.length_drop] at * <;> omega)),rfl,rfl⟩
  ·
   obtain ⟨_,h7,hm⟩:=bs hm
   refine dO [(11,aR 0 1 ((x2++(qU a1)).length))] [bR 5 1 (rI .u8) (x2++(qU a1)) g3 0] (ZT (u:=0) (n:=x2.length) (id:=0) (rI .u8) x2 (qU a1) (b:=1) t29 t5 rfl rfl rfl (fun _=>rfl) h5 h7 rfl rfl (by omega) (am6 (s:=a1)) (by kernel_rfl)) (by kernel_rfl) (fq 1 [(4,aR 0 1 ((x2++(qU a1)).length))] (wp_ret ?_))
   obtain rfl:=Option.some.inj hm
   exact ⟨trivial,aR 0 1 ((x2++(qU a1)).length),[bR 5 1 (rI .u8) (x2++(qU a1)) g3 0],by kernel_rfl,g3,(by first | exact Nat.zero_le _ | exact Nat.le_refl _ | assumption | omega | (simp only [List.length_set,List.length_append,List.length_cons,List.length_nil,List.length_replicate,List.length_drop] at * <;> omega)),rfl,rfl⟩
abbrev zp73 (p0:(List Int)) (p1:zl):Nat × AV:=(0,aR 0 1 ((p0++([(IntKind.wrap .u8 p1.fKind)]:List Int)).length))
abbrev ahK (p0:zl):=([(IntKind.wrap .u8 p0.fKind)]:List Int)
abbrev ads (p0:(List Int)) (p1:zl):=((p0++([(IntKind.wrap .u8 p1.fKind)]:List Int)).length)
abbrev akk (p0:(List Int)) (p1:zl):=(p0++([(IntKind.wrap .u8 p1.fKind)]:List Int))
abbrev aoh (p0:(List Int)) (p1:zl):=(((p0++([(IntKind.wrap .u8 p1.fKind)]:List Int))++([(IntKind.wrap .u8 p1.fInt)]:List Int)).length)
abbrev aoO (p0:(List Int)) (p1:zl):=((p0++([(IntKind.wrap .u8 p1.fKind)]:List Int))++([(IntKind.wrap .u8 p1.fInt)]:List Int))
theorem aiJ (m0:Nat) (f0:Nat) {n:Nat} {a0:(List Int)} {a1:zl} {r:(List Int)} (hm0:a0.length=m0) (hf0:f0≤a0.length) (hm:abS n a0 a1=some r):
    ∃ vv H1,call G n 148 [aR 0 1 m0,.agg (zc4 a1)] [bR 5 1 (rI .u8) a0 f0 0]=some (.ret vv,H1)∧(match (generalizing:=false) r with | r0=>(∃ (e1:Nat) (e2:Nat),r0.length=e1∧e2≤r0.length∧vv=aR 0 1 e1∧H1=[bR 5 1 (rI .u8) r0 e2 0])):=by
  unfold abS at hm
  obtain ⟨n,rfl,h0⟩:=zy hm
  replace hm:=h0; clear h0
  refine QA 42 [(0,aR 0 1 m0),(1,.agg (zc4 a1))] func148 rfl (by kernel_rfl) (sq (det [(0,aR 0 1 m0),(3,.ptr 1 0)] [bR 5 1 (rI .u8) a0 f0 0,.box (zc4 a1) false] (by kernel_rfl) (sq (rg (s1 1 [(5,.agg (zc4 a1))] ?_)))))
  obtain ⟨x1,h2,hm⟩:=bs hm
  refine dv 6 (Zh (by kernel_rfl) (acD h2) (by kernel_rfl) (by kernel_rfl) (by kernel_rfl)) (by kernel_rfl) (stf 1 [(0,aR 0 1 m0),(3,.ptr 1 0)] [bR 5 1 (rI .u8) a0 f0 0,.box (zc4 x1) false] (by kernel_rfl) (sq (rg (st 5 [(11,aR 2 1 1),(10,aY (IntKind.wrap .u8 x1.fKind)),(9,aI x1.fKind),(8,.ptr 1 0),(7,aR 0 1 m0)] [bR 5 1 (rI .u8) a0 f0 0,.box (zc4 x1) false,bR 5 1 (rI .u8) (ahK x1) 0 0] (by kernel_rfl) ?_))))
  obtain ⟨_,h3,hm⟩:=bs hm
  refine dO [(12,aR 0 1 (ads a0 x1))] [bR 5 1 (rI .u8) (akk a0 x1) f0 0,.box (zc4 x1) false,bR 5 1 (rI .u8) (ahK x1) 0 0] (ZT (u:=0) (n:=m0) (id:=0) (rI .u8) a0 (ahK x1) (b:=1) t29 t5 rfl rfl rfl (fun _=>rfl) rfl h3 rfl (by omega) (by omega) (show zP (aR 2 1 1) _=some (([(IntKind.wrap .u8 x1.fKind)]:List Int).map (rI .u8)) from by kernel_rfl) (by kernel_rfl)) (by kernel_rfl) (fq 1 [(zp73 a0 x1),(3,.ptr 1 0)] (sq (sq (dn [(zp73 a0 x1),(3,.ptr 1 0),(14,aI x1.fKind)] (bq (sq (dn [(zp73 a0 x1),(3,.ptr 1 0),(14,aI x1.fKind),(15,aB (x1.fKind == 1))] ?_)))))))
  rcases zh hm with ⟨h4,hm⟩ | ⟨h4,hm⟩
  ·
   refine c1 h4 (sq (rg (st 5 [(21,aR 3 1 1),(20,aY (IntKind.wrap .u8 x1.fInt)),(19,aI x1.fInt),(18,.ptr 1 1),(17,aR 0 1 (ads a0 x1))] [bR 5 1 (rI .u8) (akk a0 x1) f0 0,.box (zc4 x1) false,bR 5 1 (rI .u8) (ahK x1) 0 0,bR 5 1 (rI .u8) ([(IntKind.wrap .u8 x1.fInt)]:List Int) 0 0] (by kernel_rfl) ?_)))
   obtain ⟨_,h5,hm⟩:=bs hm
   refine dO [(22,aR 0 1 (aoh a0 x1))] [bR 5 1 (rI .u8) (aoO a0 x1) f0 0,.box (zc4 x1) false,bR 5 1 (rI .u8) (ahK x1) 0 0,bR 5 1 (rI .u8) ([(IntKind.wrap .u8 x1.fInt)]:List Int) 0 0] (ZT (u:=0) (n:=(akk a0 x1).length) (id:=0) (rI .u8) (akk a0 x1) ([(IntKind.wrap .u8 x1.fInt)]:List Int) (b:=1) t29 t5 rfl rfl rfl (fun _=>rfl) rfl h5 rfl rfl (by first | exact Nat.zero_le _ | exact Nat.le_refl _ | assumption | omega | (simp only [List.length_set,List.length_append,List.length_cons,List.length_nil,List.length_replicate,List.length_drop] at * <;> omega)) (show zP (aR 3 1 1) _=some (([(IntKind.wrap .u8 x1.fInt)]:List Int).map (rI .u8)) from by kernel_rfl) (by kernel_rfl)) (by kernel_rfl) (fq 1 [(4,aR 0 1 (aoh a0 x1))] (wp_ret ?_))
   obtain rfl:=Option.some.inj hm
   exact ⟨trivial,aR 0 1 (aoh a0 x1),[bR 5 1 (rI .u8) (aoO a0 x1) f0 0],by kernel_rfl,(aoO a0 x1).length,f0,(by first | rfl | assumption | omega | (simp only [List.length_set,List.length_append,List.length_cons,List.length_nil,List.length_replicate,List.length_drop] at * <;> omega)),(by first | exact Nat.zero_le _ | exact Nat.le_refl _ | assumption | omega | (simp only [List.length_set,List.length_append,List.length_cons,List.length_nil,List.length_replicate,List.length_drop] at * <;> omega)),rfl,rfl⟩
  ·
   refine c0 h4 (sq (dn [(zp73 a0 x1),(3,.ptr 1 0),(14,aI x1.fKind),(23,aB (x1.fKind == 2))] ?_))
   rcases zh hm with ⟨h6,hm⟩ | ⟨h6,hm⟩
   ·
    refine c1 h6 (sq (rg (s1 3 [(27,aI x1.fInt),(26,.ptr 1 1),(25,aR 0 1 (ads a0 x1))] ?_)))
    obtain ⟨x8,h7,hm⟩:=bs hm
    obtain ⟨vv,H1,hC,g9,q10,rfl,rfl⟩:=agc (ads a0 x1) f0 (by first | rfl | assumption | omega | (simp only [List.length_set,List.length_append,List.length_cons,List.length_nil,List.length_replicate,List.length_drop] at * <;> omega)) (by first | exact Nat.zero_le _ | exact Nat.le_refl _ | assumption | omega | (simp only [List.length_set,List.length_append,List.length_cons,List.length_nil,List.length_replicate,List.length_drop] at * <;> omega)) h7
    refine dR [(28,aR 0 1 x8.length)] [bR 5 1 (rI .u8) x8 g9 0,.box (zc4 x1) false,bR 5 1 (rI .u8) (ahK x1) 0 0] [0] [aR 0 1 (ads a0 x1),aI x1.fInt] (by kernel_rfl) (by kernel_rfl) (by kernel_rfl) hC (by kernel_rfl) (fq 1 [(4,aR 0 1 x8.length)] (wp_ret ?_))
    obtain rfl:=Option.some.inj hm
    exact ⟨trivial,aR 0 1 x8.length,[bR 5 1 (rI .u8) x8 g9 0],by kernel_rfl,x8.length,g9,(by first | rfl | assumption | omega | (simp only [List.length_set,List.length_append,List.length_cons,List.length_nil,List.length_replicate,List.length_drop] at * <;> omega)),(by first | exact Nat.zero_le _ | exact Nat.le_refl _ | assumption | omega | (simp only [List.length_set,List.length_append,List.length_cons,List.length_nil,List.length_replicate,List.length_drop] at * <;> omega)),rfl,rfl⟩
   ·
    refine c0 h6 (sq (dn [(zp73 a0 x1),(3,.ptr 1 0),(14,aI x1.fKind),(29,aB (x1.fKind == 3))] ?_))
    rcases zh hm with ⟨h11,hm⟩ | ⟨h11,hm⟩
    ·
     refine c1 h11 (sq (rg (s1 3 [(33,aF x1.fFloat),(32,.ptr 1 2),(31,aR 0 1 (ads a0 x1))] ?_)))
     obtain ⟨x13,h12,hm⟩:=bs hm
     obtain ⟨vv,H1,hC,g14,g15,q16,q17,rfl,rfl⟩:=afr (ads a0 x1) f0 (by first | rfl | assumption | omega | (simp only [List.length_set,List.length_append,List.length_cons,List.length_nil,List.length_replicate,List.length_drop] at * <;> omega)) (by first | exact Nat.zero_le _ | exact Nat.le_refl _ | assumption | omega | (simp only [List.length_set,List.length_append,List.length_cons,List.length_nil,List.length_replicate,List.length_drop] at * <;> omega)) h12
     refine dR [(34,aR 0 1 g14)] [bR 5 1 (rI .u8) x13 g15 0,.box (zc4 x1) false,bR 5 1 (rI .u8) (ahK x1) 0 0] [0] [aR 0 1 (ads a0 x1),aF x1.fFloat] (by kernel_rfl) (by kernel_rfl) (by kernel_rfl) hC (by kernel_rfl) (fq 1 [(4,aR 0 1 g14)] (wp_ret ?_))
     obtain rfl:=Option.some.inj hm
     exact ⟨trivial,aR 0 1 g14,[bR 5 1 (rI .u8) x13 g15 0],by kernel_rfl,g14,g15,(by first | rfl | assumption | omega | (simp only [List.length_set,List.length_append,List.length_cons,List.length_nil,List.length_replicate,List.length_drop] at * <;> omega)),(by first | exact Nat.zero_le _ | exact Nat.le_refl _ | assumption | omega | (simp only [List.length_set,List.length_append,List.length_cons,List.length_nil,List.length_replicate,List.length_drop] at * <;> omega)),rfl,rfl⟩
    ·
     refine c0 h11 (sq (dn [(zp73 a0 x1),(3,.ptr 1 0),(35,aB (x1.fKind == 4))] ?_))
     rcases zh hm with ⟨h18,hm⟩ | ⟨h18,hm⟩
     ·
      refine c1 h18 (sq (rg (s1 3 [(39,aS x1.fText),(38,.ptr 1 3),(37,aR 0 1 (ads a0 x1))] ?_)))
      obtain ⟨x20,h19,hm⟩:=bs hm
      obtain ⟨vv,H1,hC,g21,q22,rfl,rfl⟩:=afP (ads a0 x1) f0 (by first | rfl | assumption | omega | (simp only [List.length_set,List.length_append,List.length_cons,List.length_nil,List.length_replicate,List.length_drop] at * <;> omega)) (by first | exact Nat.zero_le _ | exact Nat.le_refl _ | assumption | omega | (simp only [List.length_set,List.length_append,List.length_cons,List.length_nil,List.length_replicate,List.length_drop] at * <;> omega)) h19
      refine dR [(40,aR 0 1 x20.length)] [bR 5 1 (rI .u8) x20 g21 0,.box (zc4 x1) false,bR 5 1 (rI .u8) (ahK x1) 0 0] [0] [aR 0 1 (ads a0 x1),aS x1.fText] (by kernel_rfl) (by kernel_rfl) (by kernel_rfl) hC (by kernel_rfl) (fq 1 [(4,aR 0 1 x20.length)] (wp_ret ?_))
      obtain rfl:=Option.some.inj hm
      exact ⟨trivial,aR 0 1 x20.length,[bR 5 1 (rI .u8) x20 g21 0],by kernel_rfl,x20.length,g21,(by first | rfl | assumption | omega | (simp only [List.length_set,List.length_append,List.length_cons,List.length_nil,List.length_replicate,List.length_drop] at * <;> omega)),(by first | exact Nat.zero_le _ | exact Nat.le_refl _ | assumption | omega | (simp only [List.length_set,List.length_append,List.length_cons,List.length_nil,List.length_replicate,List.length_drop] at * <;> omega)),rfl,rfl⟩
     ·
      refine c0 h18 (wp_skip (sq (dn [(4,aR 0 1 (ads a0 x1))] (wp_ret ?_))))
      obtain rfl:=Option.some.inj hm
      exact ⟨trivial,aR 0 1 (ads a0 x1),[bR 5 1 (rI .u8) (akk a0 x1) f0 0],by kernel_rfl,(akk a0 x1).length,f0,(by first | rfl | assumption | omega | (simp only [List.length_set,List.length_append,List.length_cons,List.length_nil,List.length_replicate,List.length_drop] at * <;> omega)),(by first | exact Nat.zero_le _ | exact Nat.le_refl _ | assumption | omega | (simp only [List.length_set,List.length_append,List.length_cons,List.length_nil,List.length_replicate,List.length_drop] at * <;> omega)),rfl,rfl⟩
abbrev zp74 (p0:(List Int)) (p1:zm):Nat × AV:=(0,aR 0 1 ((p0++([(IntKind.wrap .u8 p1.fKind)]:List Int)).length))
abbrev zp75 (p0:zm):Nat × AV:=(33,.pv (zg za p0.fKids))
abbrev zp76 (p0:zm):Nat × AV:=(34,aI ((sll p0.fKids).length:Int))
abbrev zp77 (p0:Int):Nat × AV:=(35,aI (IntKind.wrap .i64 (p0+1)))
abbrev zp78 (p0:(List Int)):Nat × AV:=(0,aR 0 1 p0.length)
abbrev ad3 (p0:zm):=([(IntKind.wrap .u8 p0.fKind)]:List Int)
abbrev aiU (p0:(List Int)) (p1:zm):=((p0++([(IntKind.wrap .u8 p1.fKind)]:List Int)).length)
theorem aiq {rc_expr_Put_r:(Nat→(List Int)→zm→Option ((List Int)))} (ih_expr_Put_r:∀ (m0:Nat) (f0:Nat) {n:Nat} {a0:(List Int)} {a1:zm} {r:(List Int)} (hm0:a0.length=m0) (hf0:f0≤a0.length) (hm:rc_expr_Put_r n a0 a1=some r),∃ vv H1,call G n 66 [aR 0 1 m0,.agg [aI a1.fKind,aI a1.fRel,aI a1.fCol,aI a1.fConst.fKind,aI a1.fConst.fInt,aF a1.fConst.fFloat,aS a1.fConst.fText,.pv (zg za a1.fKids)]] [bR 5 1 (rI .u8) a0 f0 0]=some (.ret vv,H1)∧(match (generalizing:=false) r with | r0=>(∃ (e1:Nat) (e2:Nat),r0.length=e1∧e2≤r0.length∧vv=aR 0 1 e1∧H1=[bR 5 1 (rI .u8) r0 e2 0]))) (m0:Nat) (f0:Nat) {n:Nat} {a0:(List Int)} {a1:zm} {r:(List Int)} (hm0:a0.length=m0) (hf0:f0≤a0.length) (hm:abk rc_expr_Put_r n a0 a1=some r):
    ∃ vv H1,call G n 66 [aR 0 1 m0,.agg (zc5 a1)] [bR 5 1 (rI .u8) a0 f0 0]=some (.ret vv,H1)∧(match (generalizing:=false) r with | r0=>(∃ (e1:Nat) (e2:Nat),r0.length=e1∧e2≤r0.length∧vv=aR 0 1 e1∧H1=[bR 5 1 (rI .u8) r0 e2 0])):=by
  unfold abk at hm
  obtain ⟨n,rfl,h0⟩:=zy hm
  replace hm:=h0; clear h0
  refine QA 44 [(0,aR 0 1 m0),(1,.agg (zc5 a1))] func66 rfl (by kernel_rfl) (sq (det [(0,aR 0 1 m0),(3,.ptr 1 0)] [bR 5 1 (rI .u8) a0 f0 0,.box (zc5 a1) false] (by kernel_rfl) (sq (rg (st 5 [(11,aR 2 1 1),(10,aY (IntKind.wrap .u8 a1.fKind)),(9,aI a1.fKind),(8,.ptr 1 0),(7,aR 0 1 m0)] [bR 5 1 (rI .u8) a0 f0 0,.box (zc5 a1) false,bR 5 1 (rI .u8) (ad3 a1) 0 0] (by kernel_rfl) ?_)))))
  obtain ⟨_,h1,hm⟩:=bs hm
  refine dO [(12,aR 0 1 (aiU a0 a1))] [bR 5 1 (rI .u8) (a0++([(IntKind.wrap .u8 a1.fKind)]:List Int)) f0 0,.box (zc5 a1) false,bR 5 1 (rI .u8) (ad3 a1) 0 0] (ZT (u:=0) (n:=m0) (id:=0) (rI .u8) a0 (ad3 a1) (b:=1) t29 t5 rfl rfl rfl (fun _=>rfl) rfl h1 rfl (by omega) (by omega) (show zP (aR 2 1 1) _=some (([(IntKind.wrap .u8 a1.fKind)]:List Int).map (rI .u8)) from by kernel_rfl) (by kernel_rfl)) (by kernel_rfl) (fq 1 [(zp74 a0 a1),(3,.ptr 1 0)] ?_)
  obtain ⟨k8,hk8,hm⟩:=zx hm
  refine mid (fun t H=>(∃ (y3:(List Int)) (w2:AV) (g4:Nat) (g6:Nat),k8 y3=some r∧t=mk 44 [(0,aR 0 1 g4),(3,.ptr 1 0),(26,w2)]∧H=[bR 5 1 (rI .u8) y3 g6 0,.box (zc5 a1) false,bR 5 1 (rI .u8) (ad3 a1) 0 0]∧y3.length=g4∧g6≤y3.length)) ?_ ?_
  ·
   rintro _ _ ⟨y3,w2,g4,g6,hm,rfl,rfl,q5,q7⟩
   subst hk8
   obtain ⟨k16,hk16,hm⟩:=zx hm
   refine mid (fun t H=>(∃ (y9:(List Int)) (y10:Int) (y11:Bool) (g12:Nat) (g14:Nat),k16 y9=some r∧t=mk 44 [(0,aR 0 1 g12),(zp75 a1),(zp76 a1),(35,aI y10),(36,aB y11)]∧H=[bR 5 1 (rI .u8) y9 g14 0,.box (zc5 a1) false,bR 5 1 (rI .u8) (ad3 a1) 0 0]∧y9.length=g12∧g14≤y9.length)) ?_ ?_
   ·
    rintro _ _ ⟨y9,y10,y11,g12,g14,hm,rfl,rfl,q13,q15⟩
    subst hk16
    refine sq (dn [(4,aR 0 1 g12)] (wp_ret ?_))
    obtain rfl:=Option.some.inj hm
    exact ⟨trivial,aR 0 1 g12,[bR 5 1 (rI .u8) y9 g14 0],by kernel_rfl,g12,g14,(by first | rfl | assumption | omega | (simp only [List.length_set,List.length_append,List.length_cons,List.length_nil,List.length_replicate,List.length_drop] at * <;> omega)),(by first | exact Nat.zero_le _ | exact Nat.le_refl _ | assumption | omega | (simp only [List.length_set,List.length_append,List.length_cons,List.length_nil,List.length_replicate,List.length_drop] at * <;> omega)),rfl,rfl⟩
   refine sq (rg (s1 2 [(zp75 a1),(32,.ptr 1 7)] (dv 34 (v:=aI ((sll a1.fKids).length:Int)) (zI za a1.fKids t23 (by kernel_rfl)) (by kernel_rfl) (fq 1 [(0,aR 0 1 g4),(zp75 a1),(zp76 a1),(35,aI 0)] (bq ?_)))))
   refine qq (fun mm t H=>(∃ (y23:(List Int)) (y24:Int) (g25:Nat) (g27:Nat),qY n rc_expr_Put_r a1 k16 mm y23 y24=some r∧t=mk 44 [(0,aR 0 1 g25),(zp75 a1),(zp76 a1),(35,aI y24)]∧H=[bR 5 1 (rI .u8) y23 g27 0,.box (zc5 a1) false,bR 5 1 (rI .u8) (ad3 a1) 0 0]∧y23.length=g25∧g27≤y23.length)) (⟨y3,0,g4,g6,hm,rfl,rfl,(by first | rfl | assumption | omega | (simp only [List.length_set,List.length_append,List.length_cons,List.length_nil,List.length_replicate,List.length_drop] at * <;> omega)),(by first | exact Nat.zero_le _ | exact Nat.le_refl _ | assumption | omega | (simp only [List.length_set,List.length_append,List.length_cons,List.length_nil,List.length_replicate,List.length_drop] at * <;> omega))⟩) ?_ ?_
   · rintro _ _ ⟨y23,y24,g25,g27,hm,_⟩; exact nomatch hm
   rintro m29 _ _ ⟨y23,y24,g25,g27,hm,rfl,rfl,q26,q28⟩
   simp only [qY] at hm
   refine sq (dn [(0,aR 0 1 g25),(zp75 a1),(zp76 a1),(35,aI y24),(36,aB (decide (y24 < ((sll a1.fKids).length:Int))))] ?_)
   refine sq ?_
   rcases zh hm with ⟨h30,hm⟩ | ⟨h30,hm⟩
   ·
    refine c1 h30 (wp_skip (sq (bq (sq (rg ?_)))))
    obtain ⟨x31,h32,hm⟩:=bs hm
    refine dv 37 (v:=.pv (.ptr (aeh x31) 0)) (aaK za a1.fKids .i64 t23 t49 h32 (Zj x31) rfl (by kernel_rfl)) (by kernel_rfl) (stf 3 [(0,aR 0 1 g25),(6,.ptr 3 0),(zp75 a1),(zp76 a1),(35,aI y24)] [bR 5 1 (rI .u8) y23 g27 0,.box (zc5 a1) false,bR 5 1 (rI .u8) (ad3 a1) 0 0,.box (zc7 x31) false] (by kernel_rfl) (rg (s1 2 [(40,.agg (zc7 x31)),(39,aR 0 1 g25)] ?_)))
    obtain ⟨x34,h33,hm⟩:=bs hm
    obtain ⟨vv,H1,hC,g35,g36,q37,q38,rfl,rfl⟩:=ih_expr_Put_r g25 g27 (by first | rfl | assumption | omega | (simp only [List.length_set,List.length_append,List.length_cons,List.length_nil,List.length_replicate,List.length_drop] at * <;> omega)) (by first | exact Nat.zero_le _ | exact Nat.le_refl _ | assumption | omega | (simp only [List.length_set,List.length_append,List.length_cons,List.length_nil,List.length_replicate,List.length_drop] at * <;> omega)) h33
    refine dR [(41,aR 0 1 g35)] [bR 5 1 (rI .u8) x34 g36 0,.box (zc5 a1) false,bR 5 1 (rI .u8) (ad3 a1) 0 0,.box (zc7 x31) false] [0] [aR 0 1 g25,.agg (zc7 x31)] (by kernel_rfl) (by kernel_rfl) (by kernel_rfl) hC (by kernel_rfl) (fq 1 [(0,aR 0 1 g35),(zp75 a1),(zp76 a1),(35,aI y24)] (dn [(0,aR 0 1 g35),(zp75 a1),(zp76 a1),(zp77 y24)] ?_))
    exact ⟨_,_,ZC [(0,aR 0 1 g35),(zp75 a1),(zp76 a1),(zp77 y24)] [bR 5 1 (rI .u8) x34 g36 0,.box (zc5 a1) false,bR 5 1 (rI .u8) (ad3 a1) 0 0] (by kernel_rfl),⟨x34,(zU y24),g35,g36,hm,rfl,rfl,(by first | rfl | assumption | omega | (simp only [List.length_set,List.length_append,List.length_cons,List.length_nil,List.length_replicate,List.length_drop] at * <;> omega)),(by first | exact Nat.zero_le _ | exact Nat.le_refl _ | assumption | omega | (simp only [List.length_set,List.length_append,List.length_cons,List.length_nil,List.length_replicate,List.length_drop] at * <;> omega))⟩⟩
   ·
    refine c0 h30 (wp_exit ?_)
    exact ⟨y23,y24,(decide (y24 < ((sll a1.fKids).length:Int))),g25,g27,hm,rfl,rfl,(by first | rfl | assumption | omega | (simp only [List.length_set,List.length_append,List.length_cons,List.length_nil,List.length_replicate,List.length_drop] at * <;> omega)),(by first | exact Nat.zero_le _ | exact Nat.le_refl _ | assumption | omega | (simp only [List.length_set,List.length_append,List.length_cons,List.length_nil,List.length_replicate,List.length_drop] at * <;> omega))⟩
  refine sq (dn [(zp74 a0 a1),(3,.ptr 1 0),(14,aI a1.fKind)] (bq (sq (dn [(zp74 a0 a1),(3,.ptr 1 0),(14,aI a1.fKind),(15,aB (a1.fKind == 1))] ?_))))
  rcases zh hm with ⟨h39,hm⟩ | ⟨h39,hm⟩
  ·
   refine c1 h39 (rgd (shd 4 [(20,aU (IntKind.wrap .u64 a1.fRel)),(19,aI a1.fRel),(18,.ptr 1 1),(17,aR 0 1 (aiU a0 a1))] (by kernel_rfl) ?_))
   obtain ⟨x41,h40,hm⟩:=bs hm
   obtain ⟨vv,H1,hC,g42,q43,rfl,rfl⟩:=zW (aiU a0 a1) f0 (by first | rfl | assumption | omega | (simp only [List.length_set,List.length_append,List.length_cons,List.length_nil,List.length_replicate,List.length_drop] at * <;> omega)) (by first | exact Nat.zero_le _ | exact Nat.le_refl _ | assumption | omega | (simp only [List.length_set,List.length_append,List.length_cons,List.length_nil,List.length_replicate,List.length_drop] at * <;> omega)) h40
   refine dRd [(21,aR 0 1 x41.length)] [bR 5 1 (rI .u8) x41 g42 0,.box (zc5 a1) false,bR 5 1 (rI .u8) (ad3 a1) 0 0] [0] [aR 0 1 (aiU a0 a1),aU (IntKind.wrap .u64 a1.fRel)] (by kernel_rfl) (by kernel_rfl) (by kernel_rfl) hC (by kernel_rfl) (shd 3 [(24,aU (IntKind.wrap .u64 a1.fCol)),(23,aI a1.fCol),(22,.ptr 1 2)] (by kernel_rfl) ?_)
   obtain ⟨x45,h44,hm⟩:=bs hm
   obtain ⟨vv,H1,hC,g46,q47,rfl,rfl⟩:=zW x41.length g42 (by first | rfl | assumption | omega | (simp only [List.length_set,List.length_append,List.length_cons,List.length_nil,List.length_replicate,List.length_drop] at * <;> omega)) (by first | exact Nat.zero_le _ | exact Nat.le_refl _ | assumption | omega | (simp only [List.length_set,List.length_append,List.length_cons,List.length_nil,List.length_replicate,List.length_drop] at * <;> omega)) h44
   refine dRd [(25,aR 0 1 x45.length)] [bR 5 1 (rI .u8) x45 g46 0,.box (zc5 a1) false,bR 5 1 (rI .u8) (ad3 a1) 0 0] [0] [aR 0 1 x41.length,aU (IntKind.wrap .u64 a1.fCol)] (by kernel_rfl) (by kernel_rfl) (by kernel_rfl) hC (by kernel_rfl) (shd 1 [(zp78 x45)] (by kernel_rfl) (find [(zp78 x45),(3,.ptr 1 0)] rfl (by kernel_rfl) (by kernel_rfl) ?_))
   exact ⟨x45,.any,x45.length,g46,hm,(zT (by kernel_rfl)),rfl,(by first | rfl | assumption | omega | (simp only [List.length_set,List.length_append,List.length_cons,List.length_nil,List.length_replicate,List.length_drop] at * <;> omega)),(by first | exact Nat.zero_le _ | exact Nat.le_refl _ | assumption | omega | (simp only [List.length_set,List.length_append,List.length_cons,List.length_nil,List.length_replicate,List.length_drop] at * <;> omega))⟩
  ·
   refine c0 h39 (sq (dn [(zp74 a0 a1),(3,.ptr 1 0),(26,aB (a1.fKind == 2))] ?_))
   rcases zh hm with ⟨h48,hm⟩ | ⟨h48,hm⟩
   ·
    refine c1 h48 (rg (s1 3 [(30,.agg (zc6 a1)),(29,.ptr 1 3),(28,aR 0 1 (aiU a0 a1))] ?_))
    obtain ⟨x50,h49,hm⟩:=bs hm
    obtain ⟨vv,H1,hC,g51,g52,q53,q54,rfl,rfl⟩:=aiJ (aiU a0 a1) f0 (by first | rfl | assumption | omega | (simp only [List.length_set,List.length_append,List.length_cons,List.length_nil,List.length_replicate,List.length_drop] at * <;> omega)) (by first | exact Nat.zero_le _ | exact Nat.le_refl _ | assumption | omega | (simp only [List.length_set,List.length_append,List.length_cons,List.length_nil,List.length_replicate,List.length_drop] at * <;> omega)) h49
    refine dR [(31,aR 0 1 g51)] [bR 5 1 (rI .u8) x50 g52 0,.box (zc5 a1) false,bR 5 1 (rI .u8) (ad3 a1) 0 0] [0] [aR 0 1 (aiU a0 a1),.agg (zc6 a1)] (by kernel_rfl) (by kernel_rfl) (by kernel_rfl) hC (by kernel_rfl) (fq 1 [(0,aR 0 1 g51),(3,.ptr 1 0)] ?_)
    exact ⟨x50,.any,g51,g52,hm,(zT (by kernel_rfl)),rfl,(by first | rfl | assumption | omega | (simp only [List.length_set,List.length_append,List.length_cons,List.length_nil,List.length_replicate,List.length_drop] at * <;> omega)),(by first | exact Nat.zero_le _ | exact Nat.le_refl _ | assumption | omega | (simp only [List.length_set,List.length_append,List.length_cons,List.length_nil,List.length_replicate,List.length_drop] at * <;> omega))⟩
   ·
    refine c0 h48 (wp_skip ?_)
    exact ⟨(a0++([(IntKind.wrap .u8 a1.fKind)]:List Int)),aB (a1.fKind == 2),(a0++([(IntKind.wrap .u8 a1.fKind)]:List Int)).length,f0,hm,(zT (by kernel_rfl)),rfl,(by first | rfl | assumption | omega | (simp only [List.length_set,List.length_append,List.length_cons,List.length_nil,List.length_replicate,List.length_drop] at * <;> omega)),(by first | exact Nat.zero_le _ | exact Nat.le_refl _ | assumption | omega | (simp only [List.length_set,List.length_append,List.length_cons,List.length_nil,List.length_replicate,List.length_drop] at * <;> omega))⟩
theorem aeg:∀ (m:Nat),∀ (m0:Nat) (f0:Nat) {n:Nat} {a0:(List Int)} {a1:zm} {r:(List Int)} (hm0:a0.length=m0) (hf0:f0≤a0.length) (hm:Qs m n a0 a1=some r),∃ vv H1,call G n 66 [aR 0 1 m0,.agg (zc5 a1)] [bR 5 1 (rI .u8) a0 f0 0]=some (.ret vv,H1)∧(match (generalizing:=false) r with | r0=>(∃ (e1:Nat) (e2:Nat),r0.length=e1∧e2≤r0.length∧vv=aR 0 1 e1∧H1=[bR 5 1 (rI .u8) r0 e2 0]))
  | 0=>by intros; rename_i hm; exact nomatch hm
  | m+1=>@fun m0 f0 n a0 a1 r hm0 hf0 hm=>
    aiq (aeg m) m0 f0 hm0 hf0 hm
theorem abL (m0:Nat) (f0:Nat) {n:Nat} {a0:(List Int)} {a1:zm} {r:(List Int)} (hm0:a0.length=m0) (hf0:f0≤a0.length) (hm:abz n a0 a1=some r):
    ∃ vv H1,call G n 66 [aR 0 1 m0,.agg (zc5 a1)] [bR 5 1 (rI .u8) a0 f0 0]=some (.ret vv,H1)∧(match (generalizing:=false) r with | r0=>(∃ (e1:Nat) (e2:Nat),r0.length=e1∧e2≤r0.length∧vv=aR 0 1 e1∧H1=[bR 5 1 (rI .u8) r0 e2 0])):=aeg n m0 f0 hm0 hf0 hm
theorem agJ {n:Nat} {a0:Bool} {r:Int} (hm:acr n a0=some r):
    call G n 132 [aB a0] []=some (.ret (aY r),[]):=by
  unfold acr at hm
  obtain ⟨n,rfl,h0⟩:=zy hm
  replace hm:=h0; clear h0
  refine Z4 4 [(0,aB a0)] func132 rfl (by kernel_rfl) (sq (dn [(0,aB a0)] (sq (sq (dn [(3,aB a0)] ?_)))))
  rcases zh hm with ⟨h1,hm⟩ | ⟨h1,hm⟩
  ·
   refine c1 h1 (sq (dn [(2,aY 1)] (wp_ret ?_)))
   obtain rfl:=Option.some.inj hm
   exact ⟨trivial,by kernel_rfl⟩
  ·
   refine c0 h1 (wp_skip (sq (dn [(2,aY 0)] (wp_ret ?_))))
   obtain rfl:=Option.some.inj hm
   exact ⟨trivial,by kernel_rfl⟩
abbrev zp79 (p0:zb):Nat × AV:=(62,.pv (zg zi p0.fAggs))
abbrev zp80 (p0:zb):Nat × AV:=(63,aI ((sll p0.fAggs).length:Int))
abbrev zp81 (p0:zb):Nat × AV:=(85,.pv (zg zj p0.fOrder))
abbrev zp82 (p0:zb):Nat × AV:=(86,aI ((sll p0.fOrder).length:Int))
abbrev zp83 (p0:zb):Nat × AV:=(103,.pv (zg zd p0.fKids))
abbrev zp84 (p0:zb):Nat × AV:=(104,aI ((sll p0.fKids).length:Int))
abbrev zp85 (p0:(Option (List zc))):Nat × AV:=(44,.pv (zg za p0))
abbrev zp86 (p0:(Option (List zc))):Nat × AV:=(45,aI ((sll p0).length:Int))
abbrev Zm (p0:zb):=([(IntKind.wrap .u8 p0.fKind)]:List Int)
abbrev ann (p0:zb):=(IntKind.wrap .u64 ((sll p0.fAggs).length:Int))
abbrev ano (p0:zb):=(IntKind.wrap .u64 ((sll p0.fOrder).length:Int))
abbrev afy (p0:(List Int)) (p1:Int):=((p0++([p1]:List Int)).length)
abbrev ahs (p0:zo):=([(IntKind.wrap .u8 p0.fKind)]:List Int)
abbrev aku (p0:(List Int)) (p1:zo):=((p0++([(IntKind.wrap .u8 p1.fKind)]:List Int)).length)
abbrev akd:=(Option (List zc))
theorem aio {rc_plan_Put_r:(Nat→(List Int)→zb→Option ((List Int)))} (ih_plan_Put_r:∀ (m0:Nat) (f0:Nat) {n:Nat} {a0:(List Int)} {a1:zb} {r:(List Int)} (hm0:a0.length=m0) (hf0:f0≤a0.length) (hm:rc_plan_Put_r n a0 a1=some r),∃ vv H1,call G n 43 [aR 0 1 m0,.agg [aI a1.fKind,aI a1.fRel,.pv (zg za a1.fWhere),.pv (zg za a1.fLeft),.pv (zg za a1.fRight),.pv (zg za a1.fOut),.pv (zg zi a1.fAggs),.pv (zg zj a1.fOrder),.pv (zg zd a1.fKids)]] [bR 5 1 (rI .u8) a0 f0 0]=some (.ret vv,H1)∧(match (generalizing:=false) r with | r0=>(∃ (e1:Nat),e1≤r0.length∧vv=aR 0 1 r0.length∧H1=[bR 5 1 (rI .u8) r0 e1 0]))) (m0:Nat) (f0:Nat) {n:Nat} {a0:(List Int)} {a1:zb} {r:(List Int)} (hm0:a0.length=m0) (hf0:f0≤a0.length) (hm:abp rc_plan_Put_r n a0 a1=some r):
    ∃ vv H1,call G n 43 [aR 0 1 m0,.agg (zc2 a1)] [bR 5 1 (rI .u8) a0 f0 0]=some (.ret vv,H1)∧(match (generalizing:=false) r with | r0=>(∃ (e1:Nat),e1≤r0.length∧vv=aR 0 1 r0.length∧H1=[bR 5 1 (rI .u8) r0 e1 0])):=by
  unfold abp at hm
  obtain ⟨n,rfl,h0⟩:=zy hm
  replace hm:=h0; clear h0
  refine QA 114 [(0,aR 0 1 m0),(1,.agg (zc2 a1))] func43 rfl (by kernel_rfl) (sq (det [(0,aR 0 1 m0),(3,.ptr 1 0)] [bR 5 1 (rI .u8) a0 f0 0,.box (zc2 a1) false] (by kernel_rfl) (sq (rgd (std 5 [(19,aR 2 1 1),(18,aY (IntKind.wrap .u8 a1.fKind)),(17,aI a1.fKind),(16,.ptr 1 0),(15,aR 0 1 m0)] [bR 5 1 (rI .u8) a0 f0 0,.box (zc2 a1) false,bR 5 1 (rI .u8) (Zm a1) 0 0] (by kernel_rfl) ?_)))))
  obtain ⟨_,h1,hm⟩:=bs hm
  refine dOd [(20,aR 0 1 ((a0++([(IntKind.wrap .u8 a1.fKind)]:List Int)).length))] [bR 5 1 (rI .u8) (a0++([(IntKind.wrap .u8 a1.fKind)]:List Int)) f0 0,.box (zc2 a1) false,bR 5 1 (rI .u8) (Zm a1) 0 0] (ZT (u:=0) (n:=m0) (id:=0) (rI .u8) a0 (Zm a1) (b:=1) t29 t5 rfl rfl rfl (fun _=>rfl) rfl h1 rfl (by omega) (by omega) (show zP (aR 2 1 1) _=some (([(IntKind.wrap .u8 a1.fKind)]:List Int).map (rI .u8)) from by kernel_rfl) (by kernel_rfl)) (by kernel_rfl) (shd 3 [(23,aU (IntKind.wrap .u64 a1.fRel)),(22,aI a1.fRel),(21,.ptr 1 1)] (by kernel_rfl) ?_)
  obtain ⟨x3,h2,hm⟩:=bs hm
  obtain ⟨vv,H1,hC,g4,q5,rfl,rfl⟩:=zW ((a0++([(IntKind.wrap .u8 a1.fKind)]:List Int)).length) f0 (by first | rfl | assumption | omega | (simp only [List.length_set,List.length_append,List.length_cons,List.length_nil,List.length_replicate,List.length_drop] at * <;> omega)) (by first | exact Nat.zero_le _ | exact Nat.le_refl _ | assumption | omega | (simp only [List.length_set,List.length_append,List.length_cons,List.length_nil,List.length_replicate,List.length_drop] at * <;> omega)) h2
  refine dRd [(24,aR 0 1 x3.length)] [bR 5 1 (rI .u8) x3 g4 0,.box (zc2 a1) false,bR 5 1 (rI .u8) (Zm a1) 0 0] [0] [aR 0 1 ((a0++([(IntKind.wrap .u8 a1.fKind)]:List Int)).length),aU (IntKind.wrap .u64 a1.fRel)] (by kernel_rfl) (by kernel_rfl) (by kernel_rfl) hC (by kernel_rfl) (shd 1 [(0,aR 0 1 x3.length)] (by kernel_rfl) (find [(0,aR 0 1 x3.length),(3,.ptr 1 0)] rfl (by kernel_rfl) (by kernel_rfl) ?_))
  obtain ⟨k13,hk13,hm⟩:=zx hm
  refine mid (fun t H=>(∃ (y6:(List Int)) (y7:Int) (y8:Bool) (g9:Nat) (g11:Nat),k13 y6=some r∧t=mk 114 [(0,aR 0 1 g9),(3,.ptr 1 0),(33,aR 3 1 4),(34,aI 4),(35,aI y7),(36,aB y8)]∧H=[bR 5 1 (rI .u8) y6 g11 0,.box (zc2 a1) false,bR 5 1 (rI .u8) (Zm a1) 0 0,bR 23 1 (rSl za) (Zn a1) 0 0]∧y6.length=g9∧g11≤y6.length)) ?_ ?_
  ·
   rintro _ _ ⟨y6,y7,y8,g9,g11,hm,rfl,rfl,q10,q12⟩
   subst hk13
   refine sq (rg (s1 3 [(57,.pv (agz a1)),(56,.ptr 1 6),(55,aR 0 1 g9)] (dv 58 (v:=aI (acU a1)) (zI zi a1.fAggs t24 (by kernel_rfl)) (by kernel_rfl) (s1 1 [(59,aU (ann a1))] ?_))))
   obtain ⟨x15,h14,hm⟩:=bs hm
   obtain ⟨vv,H1,hC,g16,q17,rfl,rfl⟩:=zW g9 g11 (by first | rfl | assumption | omega | (simp only [List.length_set,List.length_append,List.length_cons,List.length_nil,List.length_replicate,List.length_drop] at * <;> omega)) (by first | exact Nat.zero_le _ | exact Nat.le_refl _ | assumption | omega | (simp only [List.length_set,List.length_append,List.length_cons,List.length_nil,List.length_replicate,List.length_drop] at * <;> omega)) h14
   refine dR [(60,aR 0 1 x15.length)] [bR 5 1 (rI .u8) x15 g16 0,.box (zc2 a1) false,bR 5 1 (rI .u8) (Zm a1) 0 0,bR 23 1 (rSl za) (Zn a1) 0 0] [0] [aR 0 1 g9,aU (ann a1)] (by kernel_rfl) (by kernel_rfl) (by kernel_rfl) hC (by kernel_rfl) (fq 1 [(zp78 x15),(3,.ptr 1 0)] ?_)
   obtain ⟨k25,hk25,hm⟩:=zx hm
   refine mid (fun t H=>(∃ (y18:(List Int)) (y19:Int) (y20:Bool) (g21:Nat) (g23:Nat),k25 y18=some r∧t=mk 114 [(0,aR 0 1 g21),(3,.ptr 1 0),(zp79 a1),(zp80 a1),(64,aI y19),(65,aB y20)]∧H=[bR 5 1 (rI .u8) y18 g23 0,.box (zc2 a1) false,bR 5 1 (rI .u8) (Zm a1) 0 0,bR 23 1 (rSl za) (Zn a1) 0 0]∧y18.length=g21∧g23≤y18.length)) ?_ ?_
   ·
    rintro _ _ ⟨y18,y19,y20,g21,g23,hm,rfl,rfl,q22,q24⟩
    subst hk25
    refine sq (rg (s1 3 [(80,.pv (agt a1)),(79,.ptr 1 7),(78,aR 0 1 g21)] (dv 81 (v:=aI (acW a1)) (zI zj a1.fOrder t25 (by kernel_rfl)) (by kernel_rfl) (s1 1 [(82,aU (ano a1))] ?_))))
    obtain ⟨x27,h26,hm⟩:=bs hm
    obtain ⟨vv,H1,hC,g28,q29,rfl,rfl⟩:=zW g21 g23 (by first | rfl | assumption | omega | (simp only [List.length_set,List.length_append,List.length_cons,List.length_nil,List.length_replicate,List.length_drop] at * <;> omega)) (by first | exact Nat.zero_le _ | exact Nat.le_refl _ | assumption | omega | (simp only [List.length_set,List.length_append,List.length_cons,List.length_nil,List.length_replicate,List.length_drop] at * <;> omega)) h26
    refine dR [(83,aR 0 1 x27.length)] [bR 5 1 (rI .u8) x27 g28 0,.box (zc2 a1) false,bR 5 1 (rI .u8) (Zm a1) 0 0,bR 23 1 (rSl za) (Zn a1) 0 0] [0] [aR 0 1 g21,aU (ano a1)] (by kernel_rfl) (by kernel_rfl) (by kernel_rfl) hC (by kernel_rfl) (fq 1 [(zp78 x27),(3,.ptr 1 0)] ?_)
    obtain ⟨k35,hk35,hm⟩:=zx hm
    refine mid (fun t H=>(∃ (y30:(List Int)) (y31:Int) (y32:Bool) (g33:Nat),k35 y30=some r∧t=mk 114 [(zp78 y30),(3,.ptr 1 0),(zp81 a1),(zp82 a1),(87,aI y31),(88,aB y32)]∧H=[bR 5 1 (rI .u8) y30 g33 0,.box (zc2 a1) false,bR 5 1 (rI .u8) (Zm a1) 0 0,bR 23 1 (rSl za) (Zn a1) 0 0]∧g33≤y30.length)) ?_ ?_
    ·
     rintro _ _ ⟨y30,y31,y32,g33,hm,rfl,rfl,q34⟩
     subst hk35
     obtain ⟨k41,hk41,hm⟩:=zx hm
     refine mid (fun t H=>(∃ (y36:(List Int)) (y37:Int) (y38:Bool) (g39:Nat),k41 y36=some r∧t=mk 114 [(zp78 y36),(zp83 a1),(zp84 a1),(105,aI y37),(106,aB y38)]∧H=[bR 5 1 (rI .u8) y36 g39 0,.box (zc2 a1) false,bR 5 1 (rI .u8) (Zm a1) 0 0,bR 23 1 (rSl za) (Zn a1) 0 0]∧g39≤y36.length)) ?_ ?_
     ·
      rintro _ _ ⟨y36,y37,y38,g39,hm,rfl,rfl,q40⟩
      subst hk41
      refine sq (dn [(4,aR 0 1 y36.length)] (wp_ret ?_))
      obtain rfl:=Option.some.inj hm
      exact ⟨trivial,aR 0 1 y36.length,[bR 5 1 (rI .u8) y36 g39 0],by kernel_rfl,g39,(by first | exact Nat.zero_le _ | exact Nat.le_refl _ | assumption | omega | (simp only [List.length_set,List.length_append,List.length_cons,List.length_nil,List.length_replicate,List.length_drop] at * <;> omega)),rfl,rfl⟩
     refine sq (rg (s1 2 [(zp83 a1),(102,.ptr 1 8)] (dv 104 (v:=aI ((sll a1.fKids).length:Int)) (zI zd a1.fKids t64 (by kernel_rfl)) (by kernel_rfl) (fq 1 [(zp78 y30),(zp83 a1),(zp84 a1),(105,aI 0)] (bq ?_)))))
     refine qq (fun mm t H=>(∃ (y46:(List Int)) (y47:Int) (g48:Nat),qM n rc_plan_Put_r a1 k41 mm y46 y47=some r∧t=mk 114 [(zp78 y46),(zp83 a1),(zp84 a1),(105,aI y47)]∧H=[bR 5 1 (rI .u8) y46 g48 0,.box (zc2 a1) false,bR 5 1 (rI .u8) (Zm a1) 0 0,bR 23 1 (rSl za) (Zn a1) 0 0]∧g48≤y46.length)) (⟨y30,0,g33,hm,rfl,rfl,(by first | exact Nat.zero_le _ | exact Nat.le_refl _ | assumption | omega | (simp only [List.length_set,List.length_append,List.length_cons,List.length_nil,List.length_replicate,List.length_drop] at * <;> omega))⟩) ?_ ?_
     · rintro _ _ ⟨y46,y47,g48,hm,_⟩; exact nomatch hm
     rintro m50 _ _ ⟨y46,y47,g48,hm,rfl,rfl,q49⟩
     simp only [qM] at hm
     refine sq (dn [(zp78 y46),(zp83 a1),(zp84 a1),(105,aI y47),(106,aB (agH y47 a1))] ?_)
     refine sq ?_
     rcases zh hm with ⟨h51,hm⟩ | ⟨h51,hm⟩
     ·
      refine c1 h51 (wp_skip (sq (bq (sq (rg ?_)))))
      obtain ⟨x52,h53,hm⟩:=bs hm
      refine dv 107 (v:=.pv (.ptr (ZN (zq x52)) 0)) (aaK zd a1.fKids .i64 t64 t66 h53 (Zg x52) rfl (by kernel_rfl)) (by kernel_rfl) (stf 3 [(zp78 y46),(14,.ptr 4 0),(zp83 a1),(zp84 a1),(105,aI y47)] [bR 5 1 (rI .u8) y46 g48 0,.box (zc2 a1) false,bR 5 1 (rI .u8) (Zm a1) 0 0,bR 23 1 (rSl za) (Zn a1) 0 0,.box (zc3 x52) false] (by kernel_rfl) (rg (s1 2 [(110,.agg (zc3 x52)),(109,aR 0 1 y46.length)] ?_)))
      obtain ⟨x55,h54,hm⟩:=bs hm
      obtain ⟨vv,H1,hC,g56,q57,rfl,rfl⟩:=ih_plan_Put_r y46.length g48 (by first | rfl | assumption | omega | (simp only [List.length_set,List.length_append,List.length_cons,List.length_nil,List.length_replicate,List.length_drop] at * <;> omega)) (by first | exact Nat.zero_le _ | exact Nat.le_refl _ | assumption | omega | (simp only [List.length_set,List.length_append,List.length_cons,List.length_nil,List.length_replicate,List.length_drop] at * <;> omega)) h54
      refine dR [(111,aR 0 1 x55.length)] [bR 5 1 (rI .u8) x55 g56 0,.box (zc2 a1) false,bR 5 1 (rI .u8) (Zm a1) 0 0,bR 23 1 (rSl za) (Zn a1) 0 0,.box (zc3 x52) false] [0] [aR 0 1 y46.length,.agg (zc3 x52)] (by kernel_rfl) (by kernel_rfl) (by kernel_rfl) hC (by kernel_rfl) (fq 1 [(zp78 x55),(zp83 a1),(zp84 a1),(105,aI y47)] (dn [(zp78 x55),(zp83 a1),(zp84 a1),(105,aI (zU y47))] ?_))
      exact ⟨_,_,ZC [(zp78 x55),(zp83 a1),(zp84 a1),(105,aI (zU y47))] [bR 5 1 (rI .u8) x55 g56 0,.box (zc2 a1) false,bR 5 1 (rI .u8) (Zm a1) 0 0,bR 23 1 (rSl za) (Zn a1) 0 0] (by kernel_rfl),⟨x55,(zU y47),g56,hm,rfl,rfl,(by first | exact Nat.zero_le _ | exact Nat.le_refl _ | assumption | omega | (simp only [List.length_set,List.length_append,List.length_cons,List.length_nil,List.length_replicate,List.length_drop] at * <;> omega))⟩⟩
     ·
      refine c0 h51 (wp_exit ?_)
      exact ⟨y46,y47,(agH y47 a1),g48,hm,rfl,rfl,(by first | exact Nat.zero_le _ | exact Nat.le_refl _ | assumption | omega | (simp only [List.length_set,List.length_append,List.length_cons,List.length_nil,List.length_replicate,List.length_drop] at * <;> omega))⟩
    refine sq (rg (s1 2 [(zp81 a1),(84,.ptr 1 7)] (dv 86 (v:=aI (acW a1)) (zI zj a1.fOrder t25 (by kernel_rfl)) (by kernel_rfl) (fq 1 [(zp78 x27),(3,.ptr 1 0),(zp81 a1),(zp82 a1),(87,aI 0)] (bq ?_)))))
    refine qq (fun mm t H=>(∃ (y62:(List Int)) (y63:Int) (g64:Nat),qn n a1 k35 mm y62 y63=some r∧t=mk 114 [(zp78 y62),(3,.ptr 1 0),(zp81 a1),(zp82 a1),(87,aI y63)]∧H=[bR 5 1 (rI .u8) y62 g64 0,.box (zc2 a1) false,bR 5 1 (rI .u8) (Zm a1) 0 0,bR 23 1 (rSl za) (Zn a1) 0 0]∧g64≤y62.length)) (⟨x27,0,g28,hm,rfl,rfl,(by first | exact Nat.zero_le _ | exact Nat.le_refl _ | assumption | omega | (simp only [List.length_set,List.length_append,List.length_cons,List.length_nil,List.length_replicate,List.length_drop] at * <;> omega))⟩) ?_ ?_
    · rintro _ _ ⟨y62,y63,g64,hm,_⟩; exact nomatch hm
    rintro m66 _ _ ⟨y62,y63,g64,hm,rfl,rfl,q65⟩
    simp only [qn] at hm
    refine sq (dn [(zp78 y62),(3,.ptr 1 0),(zp81 a1),(zp82 a1),(87,aI y63),(88,aB (decide (y63 < ((sll a1.fOrder).length:Int))))] ?_)
    refine sq ?_
    rcases zh hm with ⟨h67,hm⟩ | ⟨h67,hm⟩
    ·
     refine c1 h67 (wp_skip (sq (bq (sq (rg ?_)))))
     obtain ⟨x68,h69,hm⟩:=bs hm
     refine dv 89 (v:=.pv (.ptr (zj x68) 0)) (aaL zj a1.fOrder .i64 t25 t86 h69 rfl (by kernel_rfl)) (by kernel_rfl) (stf 3 [(zp78 y62),(3,.ptr 1 0),(12,.ptr 4 0),(zp81 a1),(zp82 a1),(87,aI y63)] [bR 5 1 (rI .u8) y62 g64 0,.box (zc2 a1) false,bR 5 1 (rI .u8) (Zm a1) 0 0,bR 23 1 (rSl za) (Zn a1) 0 0,.box [aI x68.fOut,aB x68.fDesc] false] (by kernel_rfl) (rgd (shd 4 [(94,aU (IntKind.wrap .u64 x68.fOut)),(93,aI x68.fOut),(92,.ptr 4 0),(91,aR 0 1 y62.length)] (by kernel_rfl) ?_)))
     obtain ⟨x71,h70,hm⟩:=bs hm
     obtain ⟨vv,H1,hC,g72,q73,rfl,rfl⟩:=zW y62.length g64 (by first | rfl | assumption | omega | (simp only [List.length_set,List.length_append,List.length_cons,List.length_nil,List.length_replicate,List.length_drop] at * <;> omega)) (by first | exact Nat.zero_le _ | exact Nat.le_refl _ | assumption | omega | (simp only [List.length_set,List.length_append,List.length_cons,List.length_nil,List.length_replicate,List.length_drop] at * <;> omega)) h70
     refine dRd [(95,aR 0 1 x71.length)] [bR 5 1 (rI .u8) x71 g72 0,.box (zc2 a1) false,bR 5 1 (rI .u8) (Zm a1) 0 0,bR 23 1 (rSl za) (Zn a1) 0 0,.box [aI x68.fOut,aB x68.fDesc] false] [0] [aR 0 1 y62.length,aU (IntKind.wrap .u64 x68.fOut)] (by kernel_rfl) (by kernel_rfl) (by kernel_rfl) hC (by kernel_rfl) (shd 2 [(97,aB x68.fDesc),(96,.ptr 4 1)] (by kernel_rfl) ?_)
     obtain ⟨x74,h75,hm⟩:=bs hm
     refine dvd 98 (Zh (by kernel_rfl) (agJ h75) (by kernel_rfl) (by kernel_rfl) (by kernel_rfl)) (by kernel_rfl) (std 1 [(99,aR 5 1 1)] [bR 5 1 (rI .u8) x71 g72 0,.box (zc2 a1) false,bR 5 1 (rI .u8) (Zm a1) 0 0,bR 23 1 (rSl za) (Zn a1) 0 0,.box [aI x68.fOut,aB x68.fDesc] false,bR 5 1 (rI .u8) ([x74]:List Int) 0 0] (by kernel_rfl) ?_)
     obtain ⟨_,h76,hm⟩:=bs hm
     refine dOd [(100,aR 0 1 (afy x71 x74))] [bR 5 1 (rI .u8) (x71++([x74]:List Int)) g72 0,.box (zc2 a1) false,bR 5 1 (rI .u8) (Zm a1) 0 0,bR 23 1 (rSl za) (Zn a1) 0 0,.box [aI x68.fOut,aB x68.fDesc] false,bR 5 1 (rI .u8) ([x74]:List Int) 0 0] (ZT (u:=0) (n:=x71.length) (id:=0) (rI .u8) x71 ([x74]:List Int) (b:=1) t29 t5 rfl rfl rfl (fun _=>rfl) rfl h76 rfl rfl (by omega) (show zP (aR 5 1 1) _=some (([x74]:List Int).map (rI .u8)) from by kernel_rfl) (by kernel_rfl)) (by kernel_rfl) (shd 1 [(0,aR 0 1 (afy x71 x74))] (by kernel_rfl) (find [(0,aR 0 1 (afy x71 x74)),(3,.ptr 1 0),(zp81 a1),(zp82 a1),(87,aI y63)] rfl (by kernel_rfl) (by kernel_rfl) (dn [(0,aR 0 1 (afy x71 x74)),(3,.ptr 1 0),(zp81 a1),(zp82 a1),(87,aI (zU y63))] ?_)))
     exact ⟨_,_,ZC [(0,aR 0 1 (afy x71 x74)),(3,.ptr 1 0),(zp81 a1),(zp82 a1),(87,aI (zU y63))] [bR 5 1 (rI .u8) (x71++([x74]:List Int)) g72 0,.box (zc2 a1) false,bR 5 1 (rI .u8) (Zm a1) 0 0,bR 23 1 (rSl za) (Zn a1) 0 0] (by kernel_rfl),⟨(x71++([x74]:List Int)),(zU y63),g72,hm,rfl,rfl,(by first | exact Nat.zero_le _ | exact Nat.le_refl _ | assumption | omega | (simp only [List.length_set,List.length_append,List.length_cons,List.length_nil,List.length_replicate,List.length_drop] at * <;> omega))⟩⟩
    ·
     refine c0 h67 (wp_exit ?_)
     exact ⟨y62,y63,(decide (y63 < ((sll a1.fOrder).length:Int))),g64,hm,rfl,rfl,(by first | exact Nat.zero_le _ | exact Nat.le_refl _ | assumption | omega | (simp only [List.length_set,List.length_append,List.length_cons,List.length_nil,List.length_replicate,List.length_drop] at * <;> omega))⟩
   refine sq (rg (s1 2 [(zp79 a1),(61,.ptr 1 6)] (dv 63 (v:=aI (acU a1)) (zI zi a1.fAggs t24 (by kernel_rfl)) (by kernel_rfl) (fq 1 [(zp78 x15),(3,.ptr 1 0),(zp79 a1),(zp80 a1),(64,aI 0)] (bq ?_)))))
   refine qq (fun mm t H=>(∃ (y83:(List Int)) (y84:Int) (g85:Nat) (g87:Nat),qo n a1 k25 mm y83 y84=some r∧t=mk 114 [(0,aR 0 1 g85),(3,.ptr 1 0),(zp79 a1),(zp80 a1),(64,aI y84)]∧H=[bR 5 1 (rI .u8) y83 g87 0,.box (zc2 a1) false,bR 5 1 (rI .u8) (Zm a1) 0 0,bR 23 1 (rSl za) (Zn a1) 0 0]∧y83.length=g85∧g87≤y83.length)) (⟨x15,0,x15.length,g16,hm,rfl,rfl,(by first | rfl | assumption | omega | (simp only [List.length_set,List.length_append,List.length_cons,List.length_nil,List.length_replicate,List.length_drop] at * <;> omega)),(by first | exact Nat.zero_le _ | exact Nat.le_refl _ | assumption | omega | (simp only [List.length_set,List.length_append,List.length_cons,List.length_nil,List.length_replicate,List.length_drop] at * <;> omega))⟩) ?_ ?_
   · rintro _ _ ⟨y83,y84,g85,g87,hm,_⟩; exact nomatch hm
   rintro m89 _ _ ⟨y83,y84,g85,g87,hm,rfl,rfl,q86,q88⟩
   simp only [qo] at hm
   refine sq (dn [(0,aR 0 1 g85),(3,.ptr 1 0),(zp79 a1),(zp80 a1),(64,aI y84),(65,aB (decide (y84 < ((sll a1.fAggs).length:Int))))] ?_)
   refine sq ?_
   rcases zh hm with ⟨h90,hm⟩ | ⟨h90,hm⟩
   ·
    refine c1 h90 (wp_skip (sq (bq (sq (rg ?_)))))
    obtain ⟨x91,h92,hm⟩:=bs hm
    refine dv 66 (v:=.pv (.ptr (zi x91) 0)) (aaL zi a1.fAggs .i64 t24 t101 h92 rfl (by kernel_rfl)) (by kernel_rfl) (stf 3 [(0,aR 0 1 g85),(3,.ptr 1 0),(10,.ptr 4 0),(zp79 a1),(zp80 a1),(64,aI y84)] [bR 5 1 (rI .u8) y83 g87 0,.box (zc2 a1) false,bR 5 1 (rI .u8) (Zm a1) 0 0,bR 23 1 (rSl za) (Zn a1) 0 0,.box (zc8 x91) false] (by kernel_rfl) (rgd (std 5 [(72,aR 5 1 1),(71,aY (IntKind.wrap .u8 x91.fKind)),(70,aI x91.fKind),(69,.ptr 4 0),(68,aR 0 1 g85)] [bR 5 1 (rI .u8) y83 g87 0,.box (zc2 a1) false,bR 5 1 (rI .u8) (Zm a1) 0 0,bR 23 1 (rSl za) (Zn a1) 0 0,.box (zc8 x91) false,bR 5 1 (rI .u8) (ahs x91) 0 0] (by kernel_rfl) ?_)))
    obtain ⟨_,h93,hm⟩:=bs hm
    refine dOd [(73,aR 0 1 (aku y83 x91))] [bR 5 1 (rI .u8) (y83++([(IntKind.wrap .u8 x91.fKind)]:List Int)) g87 0,.box (zc2 a1) false,bR 5 1 (rI .u8) (Zm a1) 0 0,bR 23 1 (rSl za) (Zn a1) 0 0,.box (zc8 x91) false,bR 5 1 (rI .u8) (ahs x91) 0 0] (ZT (u:=0) (n:=g85) (id:=0) (rI .u8) y83 (ahs x91) (b:=1) t29 t5 rfl rfl rfl (fun _=>rfl) rfl h93 rfl (by omega) (by omega) (show zP (aR 5 1 1) _=some (([(IntKind.wrap .u8 x91.fKind)]:List Int).map (rI .u8)) from by kernel_rfl) (by kernel_rfl)) (by kernel_rfl) (shd 2 [(75,.agg (zc1 x91)),(74,.ptr 4 1)] (by kernel_rfl) ?_)
    obtain ⟨x95,h94,hm⟩:=bs hm
    obtain ⟨vv,H1,hC,g96,g97,q98,q99,rfl,rfl⟩:=abL (aku y83 x91) g87 (by first | rfl | assumption | omega | (simp only [List.length_set,List.length_append,List.length_cons,List.length_nil,List.length_replicate,List.length_drop] at * <;> omega)) (by first | exact Nat.zero_le _ | exact Nat.le_refl _ | assumption | omega | (simp only [List.length_set,List.length_append,List.length_cons,List.length_nil,List.length_replicate,List.length_drop] at * <;> omega)) h94
    refine dRd [(76,aR 0 1 g96)] [bR 5 1 (rI .u8) x95 g97 0,.box (zc2 a1) false,bR 5 1 (rI .u8) (Zm a1) 0 0,bR 23 1 (rSl za) (Zn a1) 0 0,.box (zc8 x91) false,bR 5 1 (rI .u8) (ahs x91) 0 0] [0] [aR 0 1 (aku y83 x91),.agg (zc1 x91)] (by kernel_rfl) (by kernel_rfl) (by kernel_rfl) hC (by kernel_rfl) (shd 1 [(0,aR 0 1 g96)] (by kernel_rfl) (find [(0,aR 0 1 g96),(3,.ptr 1 0),(zp79 a1),(zp80 a1),(64,aI y84)] rfl (by kernel_rfl) (by kernel_rfl) (dn [(0,aR 0 1 g96),(3,.ptr 1 0),(zp79 a1),(zp80 a1),(64,aI (zU y84))] ?_)))
    exact ⟨_,_,ZC [(0,aR 0 1 g96),(3,.ptr 1 0),(zp79 a1),(zp80 a1),(64,aI (zU y84))] [bR 5 1 (rI .u8) x95 g97 0,.box (zc2 a1) false,bR 5 1 (rI .u8) (Zm a1) 0 0,bR 23 1 (rSl za) (Zn a1) 0 0] (by kernel_rfl),⟨x95,(zU y84),g96,g97,hm,rfl,rfl,(by first | rfl | assumption | omega | (simp only [List.length_set,List.length_append,List.length_cons,List.length_nil,List.length_replicate,List.length_drop] at * <;> omega)),(by first | exact Nat.zero_le _ | exact Nat.le_refl _ | assumption | omega | (simp only [List.length_set,List.length_append,List.length_cons,List.length_nil,List.length_replicate,List.length_drop] at * <;> omega))⟩⟩
   ·
    refine c0 h90 (wp_exit ?_)
    exact ⟨y83,y84,(decide (y84 < ((sll a1.fAggs).length:Int))),g85,g87,hm,rfl,rfl,(by first | rfl | assumption | omega | (simp only [List.length_set,List.length_append,List.length_cons,List.length_nil,List.length_replicate,List.length_drop] at * <;> omega)),(by first | exact Nat.zero_le _ | exact Nat.le_refl _ | assumption | omega | (simp only [List.length_set,List.length_append,List.length_cons,List.length_nil,List.length_replicate,List.length_drop] at * <;> omega))⟩
  refine sq (det [(0,aR 0 1 x3.length),(3,.ptr 1 0),(33,aR 3 1 4),(34,aI 4),(35,aI 0)] [bR 5 1 (rI .u8) x3 g4 0,.box (zc2 a1) false,bR 5 1 (rI .u8) (Zm a1) 0 0,bR 23 1 (rSl za) (Zn a1) 0 0] (by kernel_rfl) (bq ?_))
  refine qq (fun mm t H=>(∃ (y106:(List Int)) (y107:Int) (g108:Nat) (g110:Nat),qF n a1 k13 mm y106 y107=some r∧t=mk 114 [(0,aR 0 1 g108),(3,.ptr 1 0),(33,aR 3 1 4),(34,aI 4),(35,aI y107)]∧H=[bR 5 1 (rI .u8) y106 g110 0,.box (zc2 a1) false,bR 5 1 (rI .u8) (Zm a1) 0 0,bR 23 1 (rSl za) (Zn a1) 0 0]∧y106.length=g108∧g110≤y106.length)) (⟨x3,0,x3.length,g4,hm,rfl,rfl,(by first | rfl | assumption | omega | (simp only [List.length_set,List.length_append,List.length_cons,List.length_nil,List.length_replicate,List.length_drop] at * <;> omega)),(by first | exact Nat.zero_le _ | exact Nat.le_refl _ | assumption | omega | (simp only [List.length_set,List.length_append,List.length_cons,List.length_nil,List.length_replicate,List.length_drop] at * <;> omega))⟩) ?_ ?_
  · rintro _ _ ⟨y106,y107,g108,g110,hm,_⟩; exact nomatch hm
  rintro m112 _ _ ⟨y106,y107,g108,g110,hm,rfl,rfl,q109,q111⟩
  simp only [qF] at hm
  refine sq (dn [(0,aR 0 1 g108),(3,.ptr 1 0),(33,aR 3 1 4),(34,aI 4),(35,aI y107),(36,aB (decide (y107 < 4)))] ?_)
  refine sq ?_
  rcases zh hm with ⟨h113,hm⟩ | ⟨h113,hm⟩
  ·
   refine c1 h113 (wp_skip ?_)
   obtain ⟨k123,hk123,hm⟩:=zx hm
   refine mid (fun t H=>(∃ (y114:(List Int)) (y115:akd) (y116:Int) (y117:Int) (y118:Bool) (g119:Nat) (g121:Nat),k123 y114=some r∧t=mk 114 [(0,aR 0 1 g119),(3,.ptr 1 0),(33,aR 3 1 4),(34,aI 4),(35,aI y107),(zp85 y115),(45,aI y116),(46,aI y117),(47,aB y118)]∧H=[bR 5 1 (rI .u8) y114 g121 0,.box (zc2 a1) false,bR 5 1 (rI .u8) (Zm a1) 0 0,bR 23 1 (rSl za) (Zn a1) 0 0]∧y114.length=g119∧g121≤y114.length)) ?_ ?_
   ·
    rintro _ _ ⟨y114,y115,y116,y117,y118,g119,g121,hm,rfl,rfl,q120,q122⟩
    subst hk123
    refine dn [(0,aR 0 1 g119),(3,.ptr 1 0),(33,aR 3 1 4),(34,aI 4),(zp77 y107)] ?_
    exact ⟨_,_,ZC [(0,aR 0 1 g119),(3,.ptr 1 0),(33,aR 3 1 4),(34,aI 4),(zp77 y107)] [bR 5 1 (rI .u8) y114 g121 0,.box (zc2 a1) false,bR 5 1 (rI .u8) (Zm a1) 0 0,bR 23 1 (rSl za) (Zn a1) 0 0] (by kernel_rfl),⟨y114,(zU y107),g119,g121,hm,rfl,rfl,(by first | rfl | assumption | omega | (simp only [List.length_set,List.length_append,List.length_cons,List.length_nil,List.length_replicate,List.length_drop] at * <;> omega)),(by first | exact Nat.zero_le _ | exact Nat.le_refl _ | assumption | omega | (simp only [List.length_set,List.length_append,List.length_cons,List.length_nil,List.length_replicate,List.length_drop] at * <;> omega))⟩⟩
   refine bq (sq (rg ?_))
   obtain ⟨x124,h125,hm⟩:=bs hm
   refine dv 37 (v:=.eptr 3 0 4 1 (0+Int.toNat y107) 0) (abq (Zn a1) .i64 (n:=4) (id:=3) (esz:=1) t182 t23 h125 (by first | rfl | assumption | omega | (simp only [List.length_set,List.length_append,List.length_cons,List.length_nil,List.length_replicate,List.length_drop] at * <;> omega)) rfl (by kernel_rfl)) (by kernel_rfl) (dv 38 (v:=.pv (zw x124)) (ai4 (rSl za) (Zn a1) (n:=4) (esz:=1) (j:=y107) (off:=0) (id:=3) t23 rfl h125 (by first | rfl | assumption | omega | (simp only [List.length_set,List.length_append,List.length_cons,List.length_nil,List.length_replicate,List.length_drop] at * <;> omega)) (Nat.zero_le _) (by kernel_rfl) (by kernel_rfl)) (by kernel_rfl) (fq 1 [(0,aR 0 1 g108),(3,.ptr 1 0),(6,.pv (zw x124)),(33,aR 3 1 4),(34,aI 4),(35,aI y107)] (sq (rg (s1 2 [(40,.pv (zw x124)),(39,aR 0 1 g108)] (dv 41 (v:=aI (acd x124)) (zI za x124 t23 (by kernel_rfl)) (by kernel_rfl) (s1 1 [(42,aU (IntKind.wrap .u64 ((sll x124).length:Int)))] ?_)))))))
   obtain ⟨x127,h126,hm⟩:=bs hm
   obtain ⟨vv,H1,hC,g128,q129,rfl,rfl⟩:=zW g108 g110 (by first | rfl | assumption | omega | (simp only [List.length_set,List.length_append,List.length_cons,List.length_nil,List.length_replicate,List.length_drop] at * <;> omega)) (by first | exact Nat.zero_le _ | exact Nat.le_refl _ | assumption | omega | (simp only [List.length_set,List.length_append,List.length_cons,List.length_nil,List.length_replicate,List.length_drop] at * <;> omega)) h126
   refine dR [(43,aR 0 1 x127.length)] [bR 5 1 (rI .u8) x127 g128 0,.box (zc2 a1) false,bR 5 1 (rI .u8) (Zm a1) 0 0,bR 23 1 (rSl za) (Zn a1) 0 0] [0] [aR 0 1 g108,aU (IntKind.wrap .u64 ((sll x124).length:Int))] (by kernel_rfl) (by kernel_rfl) (by kernel_rfl) hC (by kernel_rfl) (fq 1 [(zp78 x127),(3,.ptr 1 0),(6,.pv (zw x124)),(33,aR 3 1 4),(34,aI 4),(35,aI y107)] (sq (rg (s1 1 [(zp85 x124)] (dv 45 (v:=aI (acd x124)) (zI za x124 t23 (by kernel_rfl)) (by kernel_rfl) (fq 1 [(zp78 x127),(3,.ptr 1 0),(33,aR 3 1 4),(34,aI 4),(35,aI y107),(zp85 x124),(zp86 x124),(46,aI 0)] (bq ?_)))))))
   refine qq (fun mm t H=>(∃ (y136:(List Int)) (y137:Int) (g138:Nat) (g140:Nat),qG n k123 x124 mm y136 y137=some r∧t=mk 114 [(0,aR 0 1 g138),(3,.ptr 1 0),(33,aR 3 1 4),(34,aI 4),(35,aI y107),(zp85 x124),(zp86 x124),(46,aI y137)]∧H=[bR 5 1 (rI .u8) y136 g140 0,.box (zc2 a1) false,bR 5 1 (rI .u8) (Zm a1) 0 0,bR 23 1 (rSl za) (Zn a1) 0 0]∧y136.length=g138∧g140≤y136.length)) (⟨x127,0,x127.length,g128,hm,rfl,rfl,(by first | rfl | assumption | omega | (simp only [List.length_set,List.length_append,List.length_cons,List.length_nil,List.length_replicate,List.length_drop] at * <;> omega)),(by first | exact Nat.zero_le _ | exact Nat.le_refl _ | assumption | omega | (simp only [List.length_set,List.length_append,List.length_cons,List.length_nil,List.length_replicate,List.length_drop] at * <;> omega))⟩) ?_ ?_
   · rintro _ _ ⟨y136,y137,g138,g140,hm,_⟩; exact nomatch hm
   rintro m142 _ _ ⟨y136,y137,g138,g140,hm,rfl,rfl,q139,q141⟩
   simp only [qG] at hm
   refine sq (dn [(0,aR 0 1 g138),(3,.ptr 1 0),(33,aR 3 1 4),(34,aI 4),(35,aI y107),(zp85 x124),(zp86 x124),(46,aI y137),(47,aB (ael y137 x124))] ?_)
   refine sq ?_
   rcases zh hm with ⟨h143,hm⟩ | ⟨h143,hm⟩
   ·
    refine c1 h143 (wp_skip (sq (bq (sq (rg ?_)))))
    obtain ⟨x144,h145,hm⟩:=bs hm
    refine dv 48 (v:=.pv (.ptr (aeh x144) 0)) (aaK za x124 .i64 t23 t49 h145 (Zj x144) rfl (by kernel_rfl)) (by kernel_rfl) (stf 3 [(0,aR 0 1 g138),(3,.ptr 1 0),(8,.ptr 4 0),(33,aR 3 1 4),(34,aI 4),(35,aI y107),(zp85 x124),(zp86 x124),(46,aI y137)] [bR 5 1 (rI .u8) y136 g140 0,.box (zc2 a1) false,bR 5 1 (rI .u8) (Zm a1) 0 0,bR 23 1 (rSl za) (Zn a1) 0 0,.box (zc7 x144) false] (by kernel_rfl) (rg (s1 2 [(51,.agg (zc7 x144)),(50,aR 0 1 g138)] ?_)))
    obtain ⟨x147,h146,hm⟩:=bs hm
    obtain ⟨vv,H1,hC,g148,g149,q150,q151,rfl,rfl⟩:=abL g138 g140 (by first | rfl | assumption | omega | (simp only [List.length_set,List.length_append,List.length_cons,List.length_nil,List.length_replicate,List.length_drop] at * <;> omega)) (by first | exact Nat.zero_le _ | exact Nat.le_refl _ | assumption | omega | (simp only [List.length_set,List.length_append,List.length_cons,List.length_nil,List.length_replicate,List.length_drop] at * <;> omega)) h146
    refine dR [(52,aR 0 1 g148)] [bR 5 1 (rI .u8) x147 g149 0,.box (zc2 a1) false,bR 5 1 (rI .u8) (Zm a1) 0 0,bR 23 1 (rSl za) (Zn a1) 0 0,.box (zc7 x144) false] [0] [aR 0 1 g138,.agg (zc7 x144)] (by kernel_rfl) (by kernel_rfl) (by kernel_rfl) hC (by kernel_rfl) (fq 1 [(0,aR 0 1 g148),(3,.ptr 1 0),(33,aR 3 1 4),(34,aI 4),(35,aI y107),(zp85 x124),(zp86 x124),(46,aI y137)] (dn [(0,aR 0 1 g148),(3,.ptr 1 0),(33,aR 3 1 4),(34,aI 4),(35,aI y107),(zp85 x124),(zp86 x124),(46,aI (zU y137))] ?_))
    exact ⟨_,_,ZC [(0,aR 0 1 g148),(3,.ptr 1 0),(33,aR 3 1 4),(34,aI 4),(35,aI y107),(zp85 x124),(zp86 x124),(46,aI (zU y137))] [bR 5 1 (rI .u8) x147 g149 0,.box (zc2 a1) false,bR 5 1 (rI .u8) (Zm a1) 0 0,bR 23 1 (rSl za) (Zn a1) 0 0] (by kernel_rfl),⟨x147,(zU y137),g148,g149,hm,rfl,rfl,(by first | rfl | assumption | omega | (simp only [List.length_set,List.length_append,List.length_cons,List.length_nil,List.length_replicate,List.length_drop] at * <;> omega)),(by first | exact Nat.zero_le _ | exact Nat.le_refl _ | assumption | omega | (simp only [List.length_set,List.length_append,List.length_cons,List.length_nil,List.length_replicate,List.length_drop] at * <;> omega))⟩⟩
   ·
    refine c0 h143 (wp_exit ?_)
    exact ⟨y136,x124,(acd x124),y137,(ael y137 x124),g138,g140,hm,rfl,rfl,(by first | rfl | assumption | omega | (simp only [List.length_set,List.length_append,List.length_cons,List.length_nil,List.length_replicate,List.length_drop] at * <;> omega)),(by first | exact Nat.zero_le _ | exact Nat.le_refl _ | assumption | omega | (simp only [List.length_set,List.length_append,List.length_cons,List.length_nil,List.length_replicate,List.length_drop] at * <;> omega))⟩
  ·
   refine c0 h113 (wp_exit ?_)
   exact ⟨y106,y107,(decide (y107 < 4)),g108,g110,hm,rfl,rfl,(by first | rfl | assumption | omega | (simp only [List.length_set,List.length_append,List.length_cons,List.length_nil,List.length_replicate,List.length_drop] at * <;> omega)),(by first | exact Nat.zero_le _ | exact Nat.le_refl _ | assumption | omega | (simp only [List.length_set,List.length_append,List.length_cons,List.length_nil,List.length_replicate,List.length_drop] at * <;> omega))⟩
theorem aeX:∀ (m:Nat),∀ (m0:Nat) (f0:Nat) {n:Nat} {a0:(List Int)} {a1:zb} {r:(List Int)} (hm0:a0.length=m0) (hf0:f0≤a0.length) (hm:aaG m n a0 a1=some r),∃ vv H1,call G n 43 [aR 0 1 m0,.agg (zc2 a1)] [bR 5 1 (rI .u8) a0 f0 0]=some (.ret vv,H1)∧(match (generalizing:=false) r with | r0=>(∃ (e1:Nat),e1≤r0.length∧vv=aR 0 1 r0.length∧H1=[bR 5 1 (rI .u8) r0 e1 0]))
  | 0=>by intros; rename_i hm; exact nomatch hm
  | m+1=>@fun m0 f0 n a0 a1 r hm0 hf0 hm=>
    aio (aeX m) m0 f0 hm0 hf0 hm
theorem ajG (m0:Nat) (f0:Nat) {n:Nat} {a0:(List Int)} {a1:zb} {r:(List Int)} (hm0:a0.length=m0) (hf0:f0≤a0.length) (hm:afL n a0 a1=some r):
    ∃ vv H1,call G n 43 [aR 0 1 m0,.agg (zc2 a1)] [bR 5 1 (rI .u8) a0 f0 0]=some (.ret vv,H1)∧(match (generalizing:=false) r with | r0=>(∃ (e1:Nat),e1≤r0.length∧vv=aR 0 1 r0.length∧H1=[bR 5 1 (rI .u8) r0 e1 0])):=aeX n m0 f0 hm0 hf0 hm
abbrev zp87 (p0:(List Int)):Nat × AV:=(0,aR 2 1 p0.length)
theorem ah5 {n:Nat} {a0:zb} {r:(List Int)} (hm:abi n a0=some r):
    ∃ vv H1,call G n 43 [.pv .nils,.agg (zc2 a0)] []=some (.ret vv,H1)∧(match (generalizing:=false) r with | r0=>(∃ (e1:Nat),e1≤r0.length∧vv=aR 0 1 r0.length∧H1=[bR 5 1 (rI .u8) r0 e1 0])):=by
  unfold abi at hm
  obtain ⟨n,rfl,h0⟩:=zy hm
  replace hm:=h0; clear h0
  refine QA 114 [(0,.pv .nils),(1,.agg (zc2 a0))] func43 rfl (by kernel_rfl) (sq (det [(0,.pv .nils),(3,.ptr 0 0)] [.box (zc2 a0) false] (by kernel_rfl) (sq (rgd (std 5 [(19,aR 1 1 1),(18,aY (IntKind.wrap .u8 a0.fKind)),(17,aI a0.fKind),(16,.ptr 0 0),(15,.pv .nils)] [.box (zc2 a0) false,bR 5 1 (rI .u8) (Zm a0) 0 0] (by kernel_rfl) ?_)))))
  obtain ⟨_,h1,hm⟩:=bs hm
  refine dOd [(20,aR 2 1 (([(IntKind.wrap .u8 a0.fKind)]:List Int).length))] [.box (zc2 a0) false,bR 5 1 (rI .u8) (Zm a0) 0 0,bR 5 1 (rI .u8) (Zm a0) 0 0] (QG (u:=0) (rI .u8) (Zm a0) (b:=1) t29 t5 rfl rfl rfl (fun _=>rfl) rfl h1 (show zP (aR 1 1 1) _=some (([(IntKind.wrap .u8 a0.fKind)]:List Int).map (rI .u8)) from by kernel_rfl) (by kernel_rfl)) (by kernel_rfl) (shd 3 [(23,aU (IntKind.wrap .u64 a0.fRel)),(22,aI a0.fRel),(21,.ptr 0 1)] (by kernel_rfl) ?_)
  obtain ⟨x3,h2,hm⟩:=bs hm
  obtain ⟨vv,H1,hC,g4,q5,rfl,rfl⟩:=zW (([(IntKind.wrap .u8 a0.fKind)]:List Int).length) 0 (by first | rfl | assumption | omega | (simp only [List.length_set,List.length_append,List.length_cons,List.length_nil,List.length_replicate,List.length_drop] at * <;> omega)) (by first | exact Nat.zero_le _ | exact Nat.le_refl _ | assumption | omega | (simp only [List.length_set,List.length_append,List.length_cons,List.length_nil,List.length_replicate,List.length_drop] at * <;> omega)) h2
  refine dRd [(24,aR 2 1 x3.length)] [.box (zc2 a0) false,bR 5 1 (rI .u8) (Zm a0) 0 0,bR 5 1 (rI .u8) x3 g4 0] [2] [aR 2 1 (([(IntKind.wrap .u8 a0.fKind)]:List Int).length),aU (IntKind.wrap .u64 a0.fRel)] (by kernel_rfl) (by kernel_rfl) (by kernel_rfl) hC (by kernel_rfl) (shd 1 [(0,aR 2 1 x3.length)] (by kernel_rfl) (find [(0,aR 2 1 x3.length),(3,.ptr 0 0)] rfl (by kernel_rfl) (by kernel_rfl) ?_))
  obtain ⟨k13,hk13,hm⟩:=zx hm
  refine mid (fun t H=>(∃ (y6:(List Int)) (y7:Int) (y8:Bool) (g9:Nat) (g11:Nat),k13 y6=some r∧t=mk 114 [(0,aR 2 1 g9),(3,.ptr 0 0),(33,aR 3 1 4),(34,aI 4),(35,aI y7),(36,aB y8)]∧H=[.box (zc2 a0) false,bR 5 1 (rI .u8) (Zm a0) 0 0,bR 5 1 (rI .u8) y6 g11 0,bR 23 1 (rSl za) (Zn a0) 0 0]∧y6.length=g9∧g11≤y6.length)) ?_ ?_
  ·
   rintro _ _ ⟨y6,y7,y8,g9,g11,hm,rfl,rfl,q10,q12⟩
   subst hk13
   refine sq (rg (s1 3 [(57,.pv (agz a0)),(56,.ptr 0 6),(55,aR 2 1 g9)] (dv 58 (v:=aI (acU a0)) (zI zi a0.fAggs t24 (by kernel_rfl)) (by kernel_rfl) (s1 1 [(59,aU (ann a0))] ?_))))
   obtain ⟨x15,h14,hm⟩:=bs hm
   obtain ⟨vv,H1,hC,g16,q17,rfl,rfl⟩:=zW g9 g11 (by first | rfl | assumption | omega | (simp only [List.length_set,List.length_append,List.length_cons,List.length_nil,List.length_replicate,List.length_drop] at * <;> omega)) (by first | exact Nat.zero_le _ | exact Nat.le_refl _ | assumption | omega | (simp only [List.length_set,List.length_append,List.length_cons,List.length_nil,List.length_replicate,List.length_drop] at * <;> omega)) h14
   refine dR [(60,aR 2 1 x15.length)] [.box (zc2 a0) false,bR 5 1 (rI .u8) (Zm a0) 0 0,bR 5 1 (rI .u8) x15 g16 0,bR 23 1 (rSl za) (Zn a0) 0 0] [2] [aR 2 1 g9,aU (ann a0)] (by kernel_rfl) (by kernel_rfl) (by kernel_rfl) hC (by kernel_rfl) (fq 1 [(zp87 x15),(3,.ptr 0 0)] ?_)
   obtain ⟨k25,hk25,hm⟩:=zx hm
   refine mid (fun t H=>(∃ (y18:(List Int)) (y19:Int) (y20:Bool) (g21:Nat) (g23:Nat),k25 y18=some r∧t=mk 114 [(0,aR 2 1 g21),(3,.ptr 0 0),(zp79 a0),(zp80 a0),(64,aI y19),(65,aB y20)]∧H=[.box (zc2 a0) false,bR 5 1 (rI .u8) (Zm a0) 0 0,bR 5 1 (rI .u8) y18 g23 0,bR 23 1 (rSl za) (Zn a0) 0 0]∧y18.length=g21∧g23≤y18.length)) ?_ ?_
   ·
    rintro _ _ ⟨y18,y19,y20,g21,g23,hm,rfl,rfl,q22,q24⟩
    subst hk25
    refine sq (rg (s1 3 [(80,.pv (agt a0)),(79,.ptr 0 7),(78,aR 2 1 g21)] (dv 81 (v:=aI (acW a0)) (zI zj a0.fOrder t25 (by kernel_rfl)) (by kernel_rfl) (s1 1 [(82,aU (ano a0))] ?_))))
    obtain ⟨x27,h26,hm⟩:=bs hm
    obtain ⟨vv,H1,hC,g28,q29,rfl,rfl⟩:=zW g21 g23 (by first | rfl | assumption | omega | (simp only [List.length_set,List.length_append,List.length_cons,List.length_nil,List.length_replicate,List.length_drop] at * <;> omega)) (by first | exact Nat.zero_le _ | exact Nat.le_refl _ | assumption | omega | (simp only [List.length_set,List.length_append,List.length_cons,List.length_nil,List.length_replicate,List.length_drop] at * <;> omega)) h26
    refine dR [(83,aR 2 1 x27.length)] [.box (zc2 a0) false,bR 5 1 (rI .u8) (Zm a0) 0 0,bR 5 1 (rI .u8) x27 g28 0,bR 23 1 (rSl za) (Zn a0) 0 0] [2] [aR 2 1 g21,aU (ano a0)] (by kernel_rfl) (by kernel_rfl) (by kernel_rfl) hC (by kernel_rfl) (fq 1 [(zp87 x27),(3,.ptr 0 0)] ?_)
    obtain ⟨k35,hk35,hm⟩:=zx hm
    refine mid (fun t H=>(∃ (y30:(List Int)) (y31:Int) (y32:Bool) (g33:Nat),k35 y30=some r∧t=mk 114 [(zp87 y30),(3,.ptr 0 0),(zp81 a0),(zp82 a0),(87,aI y31),(88,aB y32)]∧H=[.box (zc2 a0) false,bR 5 1 (rI .u8) (Zm a0) 0 0,bR 5 1 (rI .u8) y30 g33 0,bR 23 1 (rSl za) (Zn a0) 0 0]∧g33≤y30.length)) ?_ ?_
    ·
     rintro _ _ ⟨y30,y31,y32,g33,hm,rfl,rfl,q34⟩
     subst hk35
     obtain ⟨k41,hk41,hm⟩:=zx hm
     refine mid (fun t H=>(∃ (y36:(List Int)) (y37:Int) (y38:Bool) (g39:Nat),k41 y36=some r∧t=mk 114 [(zp87 y36),(zp83 a0),(zp84 a0),(105,aI y37),(106,aB y38)]∧H=[.box (zc2 a0) false,bR 5 1 (rI .u8) (Zm a0) 0 0,bR 5 1 (rI .u8) y36 g39 0,bR 23 1 (rSl za) (Zn a0) 0 0]∧g39≤y36.length)) ?_ ?_
     ·
      rintro _ _ ⟨y36,y37,y38,g39,hm,rfl,rfl,q40⟩
      subst hk41
      refine sq (dn [(4,aR 2 1 y36.length)] (wp_ret ?_))
      obtain rfl:=Option.some.inj hm
      exact ⟨trivial,aR 0 1 y36.length,[bR 5 1 (rI .u8) y36 g39 0],by kernel_rfl,g39,(by first | exact Nat.zero_le _ | exact Nat.le_refl _ | assumption | omega | (simp only [List.length_set,List.length_append,List.length_cons,List.length_nil,List.length_replicate,List.length_drop] at * <;> omega)),rfl,rfl⟩
     refine sq (rg (s1 2 [(zp83 a0),(102,.ptr 0 8)] (dv 104 (v:=aI ((sll a0.fKids).length:Int)) (zI zd a0.fKids t64 (by kernel_rfl)) (by kernel_rfl) (fq 1 [(zp87 y30),(zp83 a0),(zp84 a0),(105,aI 0)] (bq ?_)))))
     refine qq (fun mm t H=>(∃ (y46:(List Int)) (y47:Int) (g48:Nat),qk n a0 k41 mm y46 y47=some r∧t=mk 114 [(zp87 y46),(zp83 a0),(zp84 a0),(105,aI y47)]∧H=[.box (zc2 a0) false,bR 5 1 (rI .u8) (Zm a0) 0 0,bR 5 1 (rI .u8) y46 g48 0,bR 23 1 (rSl za) (Zn a0) 0 0]∧g48≤y46.length)) (⟨y30,0,g33,hm,rfl,rfl,(by first | exact Nat.zero_le _ | exact Nat.le_refl _ | assumption | omega | (simp only [List.length_set,List.length_append,List.length_cons,List.length_nil,List.length_replicate,List.length_drop] at * <;> omega))⟩) ?_ ?_
     · rintro _ _ ⟨y46,y47,g48,hm,_⟩; exact nomatch hm
     rintro m50 _ _ ⟨y46,y47,g48,hm,rfl,rfl,q49⟩
     simp only [qk] at hm
     refine sq (dn [(zp87 y46),(zp83 a0),(zp84 a0),(105,aI y47),(106,aB (agH y47 a0))] ?_)
     refine sq ?_
     rcases zh hm with ⟨h51,hm⟩ | ⟨h51,hm⟩
     ·
      refine c1 h51 (wp_skip (sq (bq (sq (rg ?_)))))
      obtain ⟨x52,h53,hm⟩:=bs hm
      refine dv 107 (v:=.pv (.ptr (ZN (zq x52)) 0)) (aaK zd a0.fKids .i64 t64 t66 h53 (Zg x52) rfl (by kernel_rfl)) (by kernel_rfl) (stf 3 [(zp87 y46),(14,.ptr 4 0),(zp83 a0),(zp84 a0),(105,aI y47)] [.box (zc2 a0) false,bR 5 1 (rI .u8) (Zm a0) 0 0,bR 5 1 (rI .u8) y46 g48 0,bR 23 1 (rSl za) (Zn a0) 0 0,.box (zc3 x52) false] (by kernel_rfl) (rg (s1 2 [(110,.agg (zc3 x52)),(109,aR 2 1 y46.length)] ?_)))
      obtain ⟨x55,h54,hm⟩:=bs hm
      obtain ⟨vv,H1,hC,g56,q57,rfl,rfl⟩:=ajG y46.length g48 (by first | rfl | assumption | omega | (simp only [List.length_set,List.length_append,List.length_cons,List.length_nil,List.length_replicate,List.length_drop] at * <;> omega)) (by first | exact Nat.zero_le _ | exact Nat.le_refl _ | assumption | omega | (simp only [List.length_set,List.length_append,List.length_cons,List.length_nil,List.length_replicate,List.length_drop] at * <;> omega)) h54
      refine dR [(111,aR 2 1 x55.length)] [.box (zc2 a0) false,bR 5 1 (rI .u8) (Zm a0) 0 0,bR 5 1 (rI .u8) x55 g56 0,bR 23 1 (rSl za) (Zn a0) 0 0,.box (zc3 x52) false] [2] [aR 2 1 y46.length,.agg (zc3 x52)] (by kernel_rfl) (by kernel_rfl) (by kernel_rfl) hC (by kernel_rfl) (fq 1 [(zp87 x55),(zp83 a0),(zp84 a0),(105,aI y47)] (dn [(zp87 x55),(zp83 a0),(zp84 a0),(105,aI (zU y47))] ?_))
      exact ⟨_,_,ZC [(zp87 x55),(zp83 a0),(zp84 a0),(105,aI (zU y47))] [.box (zc2 a0) false,bR 5 1 (rI .u8) (Zm a0) 0 0,bR 5 1 (rI .u8) x55 g56 0,bR 23 1 (rSl za) (Zn a0) 0 0] (by kernel_rfl),⟨x55,(zU y47),g56,hm,rfl,rfl,(by first | exact Nat.zero_le _ | exact Nat.le_refl _ | assumption | omega | (simp only [List.length_set,List.length_append,List.length_cons,List.length_nil,List.length_replicate,List.length_drop] at * <;> omega))⟩⟩
     ·
      refine c0 h51 (wp_exit ?_)
      exact ⟨y46,y47,(agH y47 a0),g48,hm,rfl,rfl,(by first | exact Nat.zero_le _ | exact Nat.le_refl _ | assumption | omega | (simp only [List.length_set,List.length_append,List.length_cons,List.length_nil,List.length_replicate,List.length_drop] at * <;> omega))⟩
    refine sq (rg (s1 2 [(zp81 a0),(84,.ptr 0 7)] (dv 86 (v:=aI (acW a0)) (zI zj a0.fOrder t25 (by kernel_rfl)) (by kernel_rfl) (fq 1 [(zp87 x27),(3,.ptr 0 0),(zp81 a0),(zp82 a0),(87,aI 0)] (bq ?_)))))
    refine qq (fun mm t H=>(∃ (y62:(List Int)) (y63:Int) (g64:Nat),Z7 n a0 k35 mm y62 y63=some r∧t=mk 114 [(zp87 y62),(3,.ptr 0 0),(zp81 a0),(zp82 a0),(87,aI y63)]∧H=[.box (zc2 a0) false,bR 5 1 (rI .u8) (Zm a0) 0 0,bR 5 1 (rI .u8) y62 g64 0,bR 23 1 (rSl za) (Zn a0) 0 0]∧g64≤y62.length)) (⟨x27,0,g28,hm,rfl,rfl,(by first | exact Nat.zero_le _ | exact Nat.le_refl _ | assumption | omega | (simp only [List.length_set,List.length_append,List.length_cons,List.length_nil,List.length_replicate,List.length_drop] at * <;> omega))⟩) ?_ ?_
    · rintro _ _ ⟨y62,y63,g64,hm,_⟩; exact nomatch hm
    rintro m66 _ _ ⟨y62,y63,g64,hm,rfl,rfl,q65⟩
    simp only [Z7] at hm
    refine sq (dn [(zp87 y62),(3,.ptr 0 0),(zp81 a0),(zp82 a0),(87,aI y63),(88,aB (decide (y63 < ((sll a0.fOrder).length:Int))))] ?_)
    refine sq ?_
    rcases zh hm with ⟨h67,hm⟩ | ⟨h67,hm⟩
    ·
     refine c1 h67 (wp_skip (sq (bq (sq (rg ?_)))))
     obtain ⟨x68,h69,hm⟩:=bs hm
     refine dv 89 (v:=.pv (.ptr (zj x68) 0)) (aaL zj a0.fOrder .i64 t25 t86 h69 rfl (by kernel_rfl)) (by kernel_rfl) (stf 3 [(zp87 y62),(3,.ptr 0 0),(12,.ptr 4 0),(zp81 a0),(zp82 a0),(87,aI y63)] [.box (zc2 a0) false,bR 5 1 (rI .u8) (Zm a0) 0 0,bR 5 1 (rI .u8) y62 g64 0,bR 23 1 (rSl za) (Zn a0) 0 0,.box [aI x68.fOut,aB x68.fDesc] false] (by kernel_rfl) (rgd (shd 4 [(94,aU (IntKind.wrap .u64 x68.fOut)),(93,aI x68.fOut),(92,.ptr 4 0),(91,aR 2 1 y62.length)] (by kernel_rfl) ?_)))
     obtain ⟨x71,h70,hm⟩:=bs hm
     obtain ⟨vv,H1,hC,g72,q73,rfl,rfl⟩:=zW y62.length g64 (by first | rfl | assumption | omega | (simp only [List.length_set,List.length_append,List.length_cons,List.length_nil,List.length_replicate,List.length_drop] at * <;> omega)) (by first | exact Nat.zero_le _ | exact Nat.le_refl _ | assumption | omega | (simp only [List.length_set,List.length_append,List.length_cons,List.length_nil,List.length_replicate,List.length_drop] at * <;> omega)) h70
     refine dRd [(95,aR 2 1 x71.length)] [.box (zc2 a0) false,bR 5 1 (rI .u8) (Zm a0) 0 0,bR 5 1 (rI .u8) x71 g72 0,bR 23 1 (rSl za) (Zn a0) 0 0,.box [aI x68.fOut,aB x68.fDesc] false] [2] [aR 2 1 y62.length,aU (IntKind.wrap .u64 x68.fOut)] (by kernel_rfl) (by kernel_rfl) (by kernel_rfl) hC (by kernel_rfl) (shd 2 [(97,aB x68.fDesc),(96,.ptr 4 1)] (by kernel_rfl) ?_)
     obtain ⟨x74,h75,hm⟩:=bs hm
     refine dvd 98 (Zh (by kernel_rfl) (agJ h75) (by kernel_rfl) (by kernel_rfl) (by kernel_rfl)) (by kernel_rfl) (std 1 [(99,aR 5 1 1)] [.box (zc2 a0) false,bR 5 1 (rI .u8) (Zm a0) 0 0,bR 5 1 (rI .u8) x71 g72 0,bR 23 1 (rSl za) (Zn a0) 0 0,.box [aI x68.fOut,aB x68.fDesc] false,bR 5 1 (rI .u8) ([x74]:List Int) 0 0] (by kernel_rfl) ?_)
     obtain ⟨_,h76,hm⟩:=bs hm
     refine dOd [(100,aR 2 1 (afy x71 x74))] [.box (zc2 a0) false,bR 5 1 (rI .u8) (Zm a0) 0 0,bR 5 1 (rI .u8) (x71++([x74]:List Int)) g72 0,bR 23 1 (rSl za) (Zn a0) 0 0,.box [aI x68.fOut,aB x68.fDesc] false,bR 5 1 (rI .u8) ([x74]:List Int) 0 0] (ZT (u:=0) (n:=x71.length) (id:=2) (rI .u8) x71 ([x74]:List Int) (b:=1) t29 t5 rfl rfl rfl (fun _=>rfl) rfl h76 rfl rfl (by omega) (show zP (aR 5 1 1) _=some (([x74]:List Int).map (rI .u8)) from by kernel_rfl) (by kernel_rfl)) (by kernel_rfl) (shd 1 [(0,aR 2 1 (afy x71 x74))] (by kernel_rfl) (find [(0,aR 2 1 (afy x71 x74)),(3,.ptr 0 0),(zp81 a0),(zp82 a0),(87,aI y63)] rfl (by kernel_rfl) (by kernel_rfl) (dn [(0,aR 2 1 (afy x71 x74)),(3,.ptr 0 0),(zp81 a0),(zp82 a0),(87,aI (zU y63))] ?_)))
     exact ⟨_,_,ZC [(0,aR 2 1 (afy x71 x74)),(3,.ptr 0 0),(zp81 a0),(zp82 a0),(87,aI (zU y63))] [.box (zc2 a0) false,bR 5 1 (rI .u8) (Zm a0) 0 0,bR 5 1 (rI .u8) (x71++([x74]:List Int)) g72 0,bR 23 1 (rSl za) (Zn a0) 0 0] (by kernel_rfl),⟨(x71++([x74]:List Int)),(zU y63),g72,hm,rfl,rfl,(by first | exact Nat.zero_le _ | exact Nat.le_refl _ | assumption | omega | (simp only [List.length_set,List.length_append,List.length_cons,List.length_nil,List.length_replicate,List.length_drop] at * <;> omega))⟩⟩
    ·
     refine c0 h67 (wp_exit ?_)
     exact ⟨y62,y63,(decide (y63 < ((sll a0.fOrder).length:Int))),g64,hm,rfl,rfl,(by first | exact Nat.zero_le _ | exact Nat.le_refl _ | assumption | omega | (simp only [List.length_set,List.length_append,List.length_cons,List.length_nil,List.length_replicate,List.length_drop] at * <;> omega))⟩
   refine sq (rg (s1 2 [(zp79 a0),(61,.ptr 0 6)] (dv 63 (v:=aI (acU a0)) (zI zi a0.fAggs t24 (by kernel_rfl)) (by kernel_rfl) (fq 1 [(zp87 x15),(3,.ptr 0 0),(zp79 a0),(zp80 a0),(64,aI 0)] (bq ?_)))))
   refine qq (fun mm t H=>(∃ (y83:(List Int)) (y84:Int) (g85:Nat) (g87:Nat),Z5 n a0 k25 mm y83 y84=some r∧t=mk 114 [(0,aR 2 1 g85),(3,.ptr 0 0),(zp79 a0),(zp80 a0),(64,aI y84)]∧H=[.box (zc2 a0) false,bR 5 1 (rI .u8) (Zm a0) 0 0,bR 5 1 (rI .u8) y83 g87 0,bR 23 1 (rSl za) (Zn a0) 0 0]∧y83.length=g85∧g87≤y83.length)) (⟨x15,0,x15.length,g16,hm,rfl,rfl,(by first | rfl | assumption | omega | (simp only [List.length_set,List.length_append,List.length_cons,List.length_nil,List.length_replicate,List.length_drop] at * <;> omega)),(by first | exact Nat.zero_le _ | exact Nat.le_refl _ | assumption | omega | (simp only [List.length_set,List.length_append,List.length_cons,List.length_nil,List.length_replicate,List.length_drop] at * <;> omega))⟩) ?_ ?_
   · rintro _ _ ⟨y83,y84,g85,g87,hm,_⟩; exact nomatch hm
   rintro m89 _ _ ⟨y83,y84,g85,g87,hm,rfl,rfl,q86,q88⟩
   simp only [Z5] at hm
   refine sq (dn [(0,aR 2 1 g85),(3,.ptr 0 0),(zp79 a0),(zp80 a0),(64,aI y84),(65,aB (decide (y84 < ((sll a0.fAggs).length:Int))))] ?_)
   refine sq ?_
   rcases zh hm with ⟨h90,hm⟩ | ⟨h90,hm⟩
   ·
    refine c1 h90 (wp_skip (sq (bq (sq (rg ?_)))))
    obtain ⟨x91,h92,hm⟩:=bs hm
    refine dv 66 (v:=.pv (.ptr (zi x91) 0)) (aaL zi a0.fAggs .i64 t24 t101 h92 rfl (by kernel_rfl)) (by kernel_rfl) (stf 3 [(0,aR 2 1 g85),(3,.ptr 0 0),(10,.ptr 4 0),(zp79 a0),(zp80 a0),(64,aI y84)] [.box (zc2 a0) false,bR 5 1 (rI .u8) (Zm a0) 0 0,bR 5 1 (rI .u8) y83 g87 0,bR 23 1 (rSl za) (Zn a0) 0 0,.box (zc8 x91) false] (by kernel_rfl) (rgd (std 5 [(72,aR 5 1 1),(71,aY (IntKind.wrap .u8 x91.fKind)),(70,aI x91.fKind),(69,.ptr 4 0),(68,aR 2 1 g85)] [.box (zc2 a0) false,bR 5 1 (rI .u8) (Zm a0) 0 0,bR 5 1 (rI .u8) y83 g87 0,bR 23 1 (rSl za) (Zn a0) 0 0,.box (zc8 x91) false,bR 5 1 (rI .u8) (ahs x91) 0 0] (by kernel_rfl) ?_)))
    obtain ⟨_,h93,hm⟩:=bs hm
    refine dOd [(73,aR 2 1 (aku y83 x91))] [.box (zc2 a0) false,bR 5 1 (rI .u8) (Zm a0) 0 0,bR 5 1 (rI .u8) (y83++([(IntKind.wrap .u8 x91.fKind)]:List Int)) g87 0,bR 23 1 (rSl za) (Zn a0) 0 0,.box (zc8 x91) false,bR 5 1 (rI .u8) (ahs x91) 0 0] (ZT (u:=0) (n:=g85) (id:=2) (rI .u8) y83 (ahs x91) (b:=1) t29 t5 rfl rfl rfl (fun _=>rfl) rfl h93 rfl (by omega) (by omega) (show zP (aR 5 1 1) _=some (([(IntKind.wrap .u8 x91.fKind)]:List Int).map (rI .u8)) from by kernel_rfl) (by kernel_rfl)) (by kernel_rfl) (shd 2 [(75,.agg (zc1 x91)),(74,.ptr 4 1)] (by kernel_rfl) ?_)
    obtain ⟨x95,h94,hm⟩:=bs hm
    obtain ⟨vv,H1,hC,g96,g97,q98,q99,rfl,rfl⟩:=abL (aku y83 x91) g87 (by first | rfl | assumption | omega | (simp only [List.length_set,List.length_append,List.length_cons,List.length_nil,List.length_replicate,List.length_drop] at * <;> omega)) (by first | exact Nat.zero_le _ | exact Nat.le_refl _ | assumption | omega | (simp only [List.length_set,List.length_append,List.length_cons,List.length_nil,List.length_replicate,List.length_drop] at * <;> omega)) h94
    refine dRd [(76,aR 2 1 g96)] [.box (zc2 a0) false,bR 5 1 (rI .u8) (Zm a0) 0 0,bR 5 1 (rI .u8) x95 g97 0,bR 23 1 (rSl za) (Zn a0) 0 0,.box (zc8 x91) false,bR 5 1 (rI .u8) (ahs x91) 0 0] [2] [aR 2 1 (aku y83 x91),.agg (zc1 x91)] (by kernel_rfl) (by kernel_rfl) (by kernel_rfl) hC (by kernel_rfl) (shd 1 [(0,aR 2 1 g96)] (by kernel_rfl) (find [(0,aR 2 1 g96),(3,.ptr 0 0),(zp79 a0),(zp80 a0),(64,aI y84)] rfl (by kernel_rfl) (by kernel_rfl) (dn [(0,aR 2 1 g96),(3,.ptr 0 0),(zp79 a0),(zp80 a0),(64,aI (zU y84))] ?_)))
    exact ⟨_,_,ZC [(0,aR 2 1 g96),(3,.ptr 0 0),(zp79 a0),(zp80 a0),(64,aI (zU y84))] [.box (zc2 a0) false,bR 5 1 (rI .u8) (Zm a0) 0 0,bR 5 1 (rI .u8) x95 g97 0,bR 23 1 (rSl za) (Zn a0) 0 0] (by kernel_rfl),⟨x95,(zU y84),g96,g97,hm,rfl,rfl,(by first | rfl | assumption | omega | (simp only [List.length_set,List.length_append,List.length_cons,List.length_nil,List.length_replicate,List.length_drop] at * <;> omega)),(by first | exact Nat.zero_le _ | exact Nat.le_refl _ | assumption | omega | (simp only [List.length_set,List.length_append,List.length_cons,List.length_nil,List.length_replicate,List.length_drop] at * <;> omega))⟩⟩
   ·
    refine c0 h90 (wp_exit ?_)
    exact ⟨y83,y84,(decide (y84 < ((sll a0.fAggs).length:Int))),g85,g87,hm,rfl,rfl,(by first | rfl | assumption | omega | (simp only [List.length_set,List.length_append,List.length_cons,List.length_nil,List.length_replicate,List.length_drop] at * <;> omega)),(by first | exact Nat.zero_le _ | exact Nat.le_refl _ | assumption | omega | (simp only [List.length_set,List.length_append,List.length_cons,List.length_nil,List.length_replicate,List.length_drop] at * <;> omega))⟩
  refine sq (det [(0,aR 2 1 x3.length),(3,.ptr 0 0),(33,aR 3 1 4),(34,aI 4),(35,aI 0)] [.box (zc2 a0) false,bR 5 1 (rI .u8) (Zm a0) 0 0,bR 5 1 (rI .u8) x3 g4 0,bR 23 1 (rSl za) (Zn a0) 0 0] (by kernel_rfl) (bq ?_))
  refine qq (fun mm t H=>(∃ (y106:(List Int)) (y107:Int) (g108:Nat) (g110:Nat),qh n a0 k13 mm y106 y107=some r∧t=mk 114 [(0,aR 2 1 g108),(3,.ptr 0 0),(33,aR 3 1 4),(34,aI 4),(35,aI y107)]∧H=[.box (zc2 a0) false,bR 5 1 (rI .u8) (Zm a0) 0 0,bR 5 1 (rI .u8) y106 g110 0,bR 23 1 (rSl za) (Zn a0) 0 0]∧y106.length=g108∧g110≤y106.length)) (⟨x3,0,x3.length,g4,hm,rfl,rfl,(by first | rfl | assumption | omega | (simp only [List.length_set,List.length_append,List.length_cons,List.length_nil,List.length_replicate,List.length_drop] at * <;> omega)),(by first | exact Nat.zero_le _ | exact Nat.le_refl _ | assumption | omega | (simp only [List.length_set,List.length_append,List.length_cons,List.length_nil,List.length_replicate,List.length_drop] at * <;> omega))⟩) ?_ ?_
  · rintro _ _ ⟨y106,y107,g108,g110,hm,_⟩; exact nomatch hm
  rintro m112 _ _ ⟨y106,y107,g108,g110,hm,rfl,rfl,q109,q111⟩
  simp only [qh] at hm
  refine sq (dn [(0,aR 2 1 g108),(3,.ptr 0 0),(33,aR 3 1 4),(34,aI 4),(35,aI y107),(36,aB (decide (y107 < 4)))] ?_)
  refine sq ?_
  rcases zh hm with ⟨h113,hm⟩ | ⟨h113,hm⟩
  ·
   refine c1 h113 (wp_skip ?_)
   obtain ⟨k123,hk123,hm⟩:=zx hm
   refine mid (fun t H=>(∃ (y114:(List Int)) (y115:akd) (y116:Int) (y117:Int) (y118:Bool) (g119:Nat) (g121:Nat),k123 y114=some r∧t=mk 114 [(0,aR 2 1 g119),(3,.ptr 0 0),(33,aR 3 1 4),(34,aI 4),(35,aI y107),(zp85 y115),(45,aI y116),(46,aI y117),(47,aB y118)]∧H=[.box (zc2 a0) false,bR 5 1 (rI .u8) (Zm a0) 0 0,bR 5 1 (rI .u8) y114 g121 0,bR 23 1 (rSl za) (Zn a0) 0 0]∧y114.length=g119∧g121≤y114.length)) ?_ ?_
   ·
    rintro _ _ ⟨y114,y115,y116,y117,y118,g119,g121,hm,rfl,rfl,q120,q122⟩
    subst hk123
    refine dn [(0,aR 2 1 g119),(3,.ptr 0 0),(33,aR 3 1 4),(34,aI 4),(zp77 y107)] ?_
    exact ⟨_,_,ZC [(0,aR 2 1 g119),(3,.ptr 0 0),(33,aR 3 1 4),(34,aI 4),(zp77 y107)] [.box (zc2 a0) false,bR 5 1 (rI .u8) (Zm a0) 0 0,bR 5 1 (rI .u8) y114 g121 0,bR 23 1 (rSl za) (Zn a0) 0 0] (by kernel_rfl),⟨y114,(zU y107),g119,g121,hm,rfl,rfl,(by first | rfl | assumption | omega | (simp only [List.length_set,List.length_append,List.length_cons,List.length_nil,List.length_replicate,List.length_drop] at * <;> omega)),(by first | exact Nat.zero_le _ | exact Nat.le_refl _ | assumption | omega | (simp only [List.length_set,List.length_append,List.length_cons,List.length_nil,List.length_replicate,List.length_drop] at * <;> omega))⟩⟩
   refine bq (sq (rg ?_))
   obtain ⟨x124,h125,hm⟩:=bs hm
   refine dv 37 (v:=.eptr 3 0 4 1 (0+Int.toNat y107) 0) (abq (Zn a0) .i64 (n:=4) (id:=3) (esz:=1) t182 t23 h125 (by first | rfl | assumption | omega | (simp only [List.length_set,List.length_append,List.length_cons,List.length_nil,List.length_replicate,List.length_drop] at * <;> omega)) rfl (by kernel_rfl)) (by kernel_rfl) (dv 38 (v:=.pv (zw x124)) (ai4 (rSl za) (Zn a0) (n:=4) (esz:=1) (j:=y107) (off:=0) (id:=3) t23 rfl h125 (by first | rfl | assumption | omega | (simp only [List.length_set,List.length_append,List.length_cons,List.length_nil,List.length_replicate,List.length_drop] at * <;> omega)) (Nat.zero_le _) (by kernel_rfl) (by kernel_rfl)) (by kernel_rfl) (fq 1 [(0,aR 2 1 g108),(3,.ptr 0 0),(6,.pv (zw x124)),(33,aR 3 1 4),(34,aI 4),(35,aI y107)] (sq (rg (s1 2 [(40,.pv (zw x124)),(39,aR 2 1 g108)] (dv 41 (v:=aI (acd x124)) (zI za x124 t23 (by kernel_rfl)) (by kernel_rfl) (s1 1 [(42,aU (IntKind.wrap .u64 ((sll x124).length:Int)))] ?_)))))))
   obtain ⟨x127,h126,hm⟩:=bs hm
   obtain ⟨vv,H1,hC,g128,q129,rfl,rfl⟩:=zW g108 g110 (by first | rfl | assumption | omega | (simp only [List.length_set,List.length_append,List.length_cons,List.length_nil,List.length_replicate,List.length_drop] at * <;> omega)) (by first | exact Nat.zero_le _ | exact Nat.le_refl _ | assumption | omega | (simp only [List.length_set,List.length_append,List.length_cons,List.length_nil,List.length_replicate,List.length_drop] at * <;> omega)) h126
   refine dR [(43,aR 2 1 x127.length)] [.box (zc2 a0) false,bR 5 1 (rI .u8) (Zm a0) 0 0,bR 5 1 (rI .u8) x127 g128 0,bR 23 1 (rSl za) (Zn a0) 0 0] [2] [aR 2 1 g108,aU (IntKind.wrap .u64 ((sll x124).length:Int))] (by kernel_rfl) (by kernel_rfl) (by kernel_rfl) hC (by kernel_rfl) (fq 1 [(zp87 x127),(3,.ptr 0 0),(6,.pv (zw x124)),(33,aR 3 1 4),(34,aI 4),(35,aI y107)] (sq (rg (s1 1 [(zp85 x124)] (dv 45 (v:=aI (acd x124)) (zI za x124 t23 (by kernel_rfl)) (by kernel_rfl) (fq 1 [(zp87 x127),(3,.ptr 0 0),(33,aR 3 1 4),(34,aI 4),(35,aI y107),(zp85 x124),(zp86 x124),(46,aI 0)] (bq ?_)))))))
   refine qq (fun mm t H=>(∃ (y136:(List Int)) (y137:Int) (g138:Nat) (g140:Nat),qg n k123 x124 mm y136 y137=some r∧t=mk 114 [(0,aR 2 1 g138),(3,.ptr 0 0),(33,aR 3 1 4),(34,aI 4),(35,aI y107),(zp85 x124),(zp86 x124),(46,aI y137)]∧H=[.box (zc2 a0) false,bR 5 1 (rI .u8) (Zm a0) 0 0,bR 5 1 (rI .u8) y136 g140 0,bR 23 1 (rSl za) (Zn a0) 0 0]∧y136.length=g138∧g140≤y136.length)) (⟨x127,0,x127.length,g128,hm,rfl,rfl,(by first | rfl | assumption | omega | (simp only [List.length_set,List.length_append,List.length_cons,List.length_nil,List.length_replicate,List.length_drop] at * <;> omega)),(by first | exact Nat.zero_le _ | exact Nat.le_refl _ | assumption | omega | (simp only [List.length_set,List.length_append,List.length_cons,List.length_nil,List.length_replicate,List.length_drop] at * <;> omega))⟩) ?_ ?_
   · rintro _ _ ⟨y136,y137,g138,g140,hm,_⟩; exact nomatch hm
   rintro m142 _ _ ⟨y136,y137,g138,g140,hm,rfl,rfl,q139,q141⟩
   simp only [qg] at hm
   refine sq (dn [(0,aR 2 1 g138),(3,.ptr 0 0),(33,aR 3 1 4),(34,aI 4),(35,aI y107),(zp85 x124),(zp86 x124),(46,aI y137),(47,aB (ael y137 x124))] ?_)
   refine sq ?_
   rcases zh hm with ⟨h143,hm⟩ | ⟨h143,hm⟩
   ·
    refine c1 h143 (wp_skip (sq (bq (sq (rg ?_)))))
    obtain ⟨x144,h145,hm⟩:=bs hm
    refine dv 48 (v:=.pv (.ptr (aeh x144) 0)) (aaK za x124 .i64 t23 t49 h145 (Zj x144) rfl (by kernel_rfl)) (by kernel_rfl) (stf 3 [(0,aR 2 1 g138),(3,.ptr 0 0),(8,.ptr 4 0),(33,aR 3 1 4),(34,aI 4),(35,aI y107),(zp85 x124),(zp86 x124),(46,aI y137)] [.box (zc2 a0) false,bR 5 1 (rI .u8) (Zm a0) 0 0,bR 5 1 (rI .u8) y136 g140 0,bR 23 1 (rSl za) (Zn a0) 0 0,.box (zc7 x144) false] (by kernel_rfl) (rg (s1 2 [(51,.agg (zc7 x144)),(50,aR 2 1 g138)] ?_)))
    obtain ⟨x147,h146,hm⟩:=bs hm
    obtain ⟨vv,H1,hC,g148,g149,q150,q151,rfl,rfl⟩:=abL g138 g140 (by first | rfl | assumption | omega | (simp only [List.length_set,List.length_append,List.length_cons,List.length_nil,List.length_replicate,List.length_drop] at * <;> omega)) (by first | exact Nat.zero_le _ | exact Nat.le_refl _ | assumption | omega | (simp only [List.length_set,List.length_append,List.length_cons,List.length_nil,List.length_replicate,List.length_drop] at * <;> omega)) h146
    refine dR [(52,aR 2 1 g148)] [.box (zc2 a0) false,bR 5 1 (rI .u8) (Zm a0) 0 0,bR 5 1 (rI .u8) x147 g149 0,bR 23 1 (rSl za) (Zn a0) 0 0,.box (zc7 x144) false] [2] [aR 2 1 g138,.agg (zc7 x144)] (by kernel_rfl) (by kernel_rfl) (by kernel_rfl) hC (by kernel_rfl) (fq 1 [(0,aR 2 1 g148),(3,.ptr 0 0),(33,aR 3 1 4),(34,aI 4),(35,aI y107),(zp85 x124),(zp86 x124),(46,aI y137)] (dn [(0,aR 2 1 g148),(3,.ptr 0 0),(33,aR 3 1 4),(34,aI 4),(35,aI y107),(zp85 x124),(zp86 x124),(46,aI (zU y137))] ?_))
    exact ⟨_,_,ZC [(0,aR 2 1 g148),(3,.ptr 0 0),(33,aR 3 1 4),(34,aI 4),(35,aI y107),(zp85 x124),(zp86 x124),(46,aI (zU y137))] [.box (zc2 a0) false,bR 5 1 (rI .u8) (Zm a0) 0 0,bR 5 1 (rI .u8) x147 g149 0,bR 23 1 (rSl za) (Zn a0) 0 0] (by kernel_rfl),⟨x147,(zU y137),g148,g149,hm,rfl,rfl,(by first | rfl | assumption | omega | (simp only [List.length_set,List.length_append,List.length_cons,List.length_nil,List.length_replicate,List.length_drop] at * <;> omega)),(by first | exact Nat.zero_le _ | exact Nat.le_refl _ | assumption | omega | (simp only [List.length_set,List.length_append,List.length_cons,List.length_nil,List.length_replicate,List.length_drop] at * <;> omega))⟩⟩
   ·
    refine c0 h143 (wp_exit ?_)
    exact ⟨y136,x124,(acd x124),y137,(ael y137 x124),g138,g140,hm,rfl,rfl,(by first | rfl | assumption | omega | (simp only [List.length_set,List.length_append,List.length_cons,List.length_nil,List.length_replicate,List.length_drop] at * <;> omega)),(by first | exact Nat.zero_le _ | exact Nat.le_refl _ | assumption | omega | (simp only [List.length_set,List.length_append,List.length_cons,List.length_nil,List.length_replicate,List.length_drop] at * <;> omega))⟩
  ·
   refine c0 h113 (wp_exit ?_)
   exact ⟨y106,y107,(decide (y107 < 4)),g108,g110,hm,rfl,rfl,(by first | rfl | assumption | omega | (simp only [List.length_set,List.length_append,List.length_cons,List.length_nil,List.length_replicate,List.length_drop] at * <;> omega)),(by first | exact Nat.zero_le _ | exact Nat.le_refl _ | assumption | omega | (simp only [List.length_set,List.length_append,List.length_cons,List.length_nil,List.length_replicate,List.length_drop] at * <;> omega))⟩
theorem afz {n:Nat} {a0:(Option (List Int))} {r:Unit} (hm:acS n a0=some r):
    ∃ vv H1,call G n 13 [.pv (zg (rI .u8) a0)] []=some (.ret vv,H1)∧(vv=.ptr 0 0∧H1=[.box [aB true,.pv (zg (rI .u8) a0),aI 0] false]):=by
  unfold acS at hm
  obtain ⟨n,rfl,h0⟩:=zy hm
  replace hm:=h0; clear h0
  refine QA 6 [(0,.pv (zg (rI .u8) a0))] func13 rfl (by kernel_rfl) (sq (dn [(0,.pv (zg (rI .u8) a0))] (sq (det [(2,.ptr 0 0)] [.box [aB true,.pv (zg (rI .u8) a0),aI 0] false] (by kernel_rfl) (wp_ret ?_)))))
  obtain rfl:=Option.some.inj hm
  exact ⟨trivial,.ptr 0 0,[.box [aB true,.pv (zg (rI .u8) a0),aI 0] false],by kernel_rfl,rfl,rfl⟩
abbrev zc10 (p0:zf):List AV:=[aB p0.fmade,.pv (zg (rI .u8) p0.fb),aI p0.fe]
abbrev agM (p0:zf):=(p0.fmade && (p0.fe == 0))
theorem qA {n:Nat} {a0:zf} {r:Unit} (hm:Z3 n a0=some r):
    ∃ vv H1,call G n 93 [.ptr 0 0] [.box (zc10 a0) false]=some (.ret vv,H1)∧(vv=aB (agM a0)∧H1=[.box (zc10 a0) false]):=by
  unfold Z3 at hm
  obtain ⟨n,rfl,h0⟩:=zy hm
  replace hm:=h0; clear h0
  refine QA 18 [(0,.ptr 0 0)] func93 rfl (by kernel_rfl) (sq (dn [(0,.ptr 0 0)] (sq (rg (s1 9 [(11,aB a0.fmade),(10,aB a0.fmade),(9,aB a0.fmade),(8,.ptr 0 0),(7,.ptr 0 0),(6,.ptr 0 0),(5,aB true),(4,aB true),(3,.ptr 0 0)] ?_)))))
  refine segP a0.fmade [11,10,9] (fun b=>[(17,aB (b && (a0.fe == 0))),(16,ifA b (aB (a0.fe == 0)) (.undef)),(15,ifA b (aI a0.fe) (.undef)),(14,ifA b (.ptr 0 2) (.undef)),(13,ifA b (.ptr 0 0) (.undef)),(12,ifA b (.ptr 0 0) (.undef))]) 6 (by kernel_rfl) (by kernel_rfl) (by kernel_rfl) (fq 1 [(2,aB (agM a0))] (wp_ret ?_))
  obtain rfl:=Option.some.inj hm
  exact ⟨trivial,aB (agM a0),[.box (zc10 a0) false],by kernel_rfl,rfl,rfl⟩
theorem qO {n:Nat} {a0:zf} {a1:Int} {r:Unit} (hm:qb n a0 a1=some r):
    ∃ vv H1,call G n 154 [.ptr 0 0,aI a1] [.box (zc10 a0) false]=some (.ret vv,H1)∧(vv=.tup []∧H1=[.box [aB a0.fmade,.pv .nils,aI a1] false]):=by
  unfold qb at hm
  obtain ⟨n,rfl,h0⟩:=zy hm
  replace hm:=h0; clear h0
  refine QA 11 [(0,.ptr 0 0),(1,aI a1)] func154 rfl (by kernel_rfl) (det [] [.box [aB a0.fmade,.pv .nils,aI a1] false] (by kernel_rfl) ?_)
  obtain rfl:=Option.some.inj hm
  exact ⟨trivial,.tup [],[.box [aB a0.fmade,.pv .nils,aI a1] false],by kernel_rfl,rfl,rfl⟩
theorem aar {n:Nat} {a0:zf} {a1:Int} {r:(Option (List Int)) × Int × (Option (List Int)) × Bool} (hm:Z0 n a0 a1=some r):
    ∃ vv H1,call G n 151 [.ptr 0 0,aI a1] [.box (zc10 a0) false]=some (.ret vv,H1)∧(match (generalizing:=false) r with | (r0,r1,r2,r3)=>(vv=.tup [.pv (zg (rI .u8) r2),aB r3]∧H1=[.box [aB a0.fmade,.pv (zg (rI .u8) r0),aI r1] false])):=by
  unfold Z0 at hm
  obtain ⟨n,rfl,h0⟩:=zy hm
  replace hm:=h0; clear h0
  refine QA 32 [(0,.ptr 0 0),(1,aI a1)] func151 rfl (by kernel_rfl) (sq (dn [(0,.ptr 0 0),(1,aI a1)] ?_))
  refine sq (sq (rg (s1 5 [(11,.pv (zg (rI .u8) a0.fb)),(10,.ptr 0 1),(9,.ptr 0 0),(8,.ptr 0 0),(7,aI a1)] (dv 12 (v:=aI ((sll a0.fb).length:Int)) (zI (rI .u8) a0.fb t29 (by kernel_rfl)) (by kernel_rfl) (fq 1 [(0,.ptr 0 0),(1,aI a1),(13,aB (decide (a1 > ((sll a0.fb).length:Int))))] ?_)))))
  rcases zh hm with ⟨h1,hm⟩ | ⟨h1,hm⟩
  ·
   refine c1 h1 (sq (rg (s1 1 [(14,.ptr 0 0)] ?_)))
   obtain ⟨_,h2,hm⟩:=bs hm
   obtain ⟨vv,H1,hC,rfl,rfl⟩:=qO h2
   refine dR [(15,.tup [])] [.box [aB a0.fmade,.pv .nils,aI 21] false] [0] [.ptr 0 0,aI 21] (by kernel_rfl) (by kernel_rfl) (by kernel_rfl) hC (by kernel_rfl) (fin [] rfl (by kernel_rfl) (sq (dn [(4,.pv .nils),(5,aB false)] (wp_ret ?_))))
   obtain rfl:=Option.some.inj hm
   exact ⟨trivial,.tup [.pv .nils,aB false],[.box [aB a0.fmade,.pv .nils,aI 21] false],by kernel_rfl,rfl,rfl⟩
  ·
   refine c0 h1 (wp_skip (sq (rg (s1 5 [(20,aI a1),(19,.pv (zg (rI .u8) a0.fb)),(18,.ptr 0 1),(17,.ptr 0 0),(16,.ptr 0 0)] ?_))))
   obtain ⟨_,h3,hm⟩:=bs hm
   refine dv 21 (v:=.pv (zg (rI .u8) (QH a0.fb 0 a1))) (aj9 (rI .u8) a0.fb (k:=.i64) (k':=.i64) (xl:=none) (xh:=some (aI a1)) (esz:=1) h3 (fun _=>rfl) (.inl ⟨rfl,rfl⟩) (.inr rfl) (by kernel_rfl)) (by kernel_rfl) (fq 1 [(0,.ptr 0 0),(1,aI a1),(6,.pv (zg (rI .u8) (QH a0.fb 0 a1)))] (sq (rg (s1 6 [(27,aI a1),(26,.pv (zg (rI .u8) a0.fb)),(25,.ptr 0 1),(24,.ptr 0 0),(23,.ptr 0 0),(22,.ptr 0 0)] ?_))))
   obtain ⟨_,h4,hm⟩:=bs hm
   refine dv 28 (v:=.pv (zg (rI .u8) (QH a0.fb a1 ((sll a0.fb).length:Int)))) (aj9 (rI .u8) a0.fb (k:=.i64) (k':=.i64) (xl:=some (aI a1)) (xh:=none) (esz:=1) h4 (fun _=>rfl) (.inr rfl) (.inl ⟨rfl,rfl⟩) (by kernel_rfl)) (by kernel_rfl) (stf 3 [(6,.pv (zg (rI .u8) (QH a0.fb 0 a1)))] [.box [aB a0.fmade,.pv (zg (rI .u8) (QH a0.fb a1 ((sll a0.fb).length:Int))),aI a0.fe] false] (by kernel_rfl) (sq (dn [(4,.pv (zg (rI .u8) (QH a0.fb 0 a1))),(5,aB true)] (wp_ret ?_))))
   obtain rfl:=Option.some.inj hm
   exact ⟨trivial,.tup [.pv (zg (rI .u8) (QH a0.fb 0 a1)),aB true],[.box [aB a0.fmade,.pv (zg (rI .u8) (QH a0.fb a1 ((sll a0.fb).length:Int))),aI a0.fe] false],by kernel_rfl,rfl,rfl⟩
abbrev zc11 (p0:zf) (p1:(Option (List Int))) (p2:Int):List AV:=[aB p0.fmade,.pv (zg (rI .u8) p1),aI p2]
abbrev zp88 (p0:(Option (List Int))):Nat × AV:=(21,.pv (zg (rI .u8) p0))
abbrev zp89 (p0:(Option (List Int))):Nat × AV:=(22,aI ((sll p0).length:Int))
theorem abu {n:Nat} {a0:zf} {a1:Int} {r:(Option (List Int)) × Int × Int} (hm:qj n a0 a1=some r):
    ∃ vv H1,call G n 152 [.ptr 0 0,aI a1] [.box (zc10 a0) false]=some (.ret vv,H1)∧(match (generalizing:=false) r with | (r0,r1,r2)=>(vv=aU r2∧H1=[.box [aB a0.fmade,.pv (zg (rI .u8) r0),aI r1] false])):=by
  unfold qj at hm
  obtain ⟨n,rfl,h0⟩:=zy hm
  replace hm:=h0; clear h0
  refine QA 34 [(0,.ptr 0 0),(1,aI a1)] func152 rfl (by kernel_rfl) (sq (dn [(0,.ptr 0 0),(1,aI a1)] ?_))
  refine sq (sq (rg (s1 1 [(10,.ptr 0 0)] ?_)))
  obtain ⟨_,h1,hm⟩:=bs hm
  obtain ⟨vv,H1,hC,rfl,rfl⟩:=qA h1
  refine dR [(11,aB (agM a0))] [.box (zc10 a0) false] [0] [.ptr 0 0] (by kernel_rfl) (by kernel_rfl) (by kernel_rfl) hC (by kernel_rfl) (fq 1 [(0,.ptr 0 0),(1,aI a1),(12,aB (!(agM a0)))] ?_)
  rcases zh hm with ⟨h2,hm⟩ | ⟨h2,hm⟩
  ·
   refine c1 h2 (sq (dn [(4,aU 0)] (wp_ret ?_)))
   obtain rfl:=Option.some.inj hm
   exact ⟨trivial,aU 0,[.box (zc10 a0) false],by kernel_rfl,rfl,rfl⟩
  ·
   refine c0 h2 (wp_skip (sq (rg (s1 4 [(17,aI (if 8 < (if 0 > a1 then 0 else a1) then 8 else (if 0 > a1 then 0 else a1))),(16,aI (if 0 > a1 then 0 else a1)),(15,aI a1),(14,.ptr 0 0)] ?_))))
   obtain ⟨⟨x4,x5,x6,x7⟩,h3,hm⟩:=bs hm
   obtain ⟨vv,H1,hC,rfl,rfl⟩:=aar h3
   refine dR [(18,.tup [.pv (zg (rI .u8) x6),aB x7])] [.box (zc11 a0 x4 x5) false] [0] [.ptr 0 0,aI (if 8 < (if 0 > a1 then 0 else a1) then 8 else (if 0 > a1 then 0 else a1))] (by kernel_rfl) (by kernel_rfl) (by kernel_rfl) hC (by kernel_rfl) (fq 5 [(5,.pv (zg (rI .u8) x6))] (sq (dn [(5,.pv (zg (rI .u8) x6)),(7,aU 0)] ?_)))
   obtain ⟨k11,hk11,hm⟩:=zx hm
   refine mid (fun t H=>(∃ (y8:Int) (y9:Bool) (y10:Int),k11 y10=some r∧t=mk 34 [(7,aU y10),(zp88 x6),(zp89 x6),(23,aI y8),(24,aB y9)]∧H=[.box (zc11 a0 x4 x5) false])) ?_ ?_
   ·
    rintro _ _ ⟨y8,y9,y10,hm,rfl,rfl⟩
    subst hk11
    refine sq (dn [(4,aU y10)] (wp_ret ?_))
    obtain rfl:=Option.some.inj hm
    exact ⟨trivial,aU y10,[.box (zc11 a0 x4 x5) false],by kernel_rfl,rfl,rfl⟩
   refine sq (rg (s1 1 [(zp88 x6)] (dv 22 (v:=aI ((sll x6).length:Int)) (zI (rI .u8) x6 t29 (by kernel_rfl)) (by kernel_rfl) (fq 1 [(7,aU 0),(zp88 x6),(zp89 x6),(23,aI 0)] (bq ?_)))))
   refine qq (fun mm t H=>(∃ (y14:Int) (y15:Int),Zw n x6 k11 mm y14 y15=some r∧t=mk 34 [(7,aU y15),(zp88 x6),(zp89 x6),(23,aI y14)]∧H=[.box (zc11 a0 x4 x5) false])) (⟨0,0,hm,rfl,rfl⟩) ?_ ?_
   · rintro _ _ ⟨y14,y15,hm,_⟩; exact nomatch hm
   rintro m16 _ _ ⟨y14,y15,hm,rfl,rfl⟩
   simp only [Zw] at hm
   refine sq (dn [(7,aU y15),(zp88 x6),(zp89 x6),(23,aI y14),(24,aB (decide (y14 < ((sll x6).length:Int))))] ?_)
   refine sq ?_
   rcases zh hm with ⟨h17,hm⟩ | ⟨h17,hm⟩
   ·
    refine c1 h17 (wp_skip (sq (bq (sq (rg ?_)))))
    obtain ⟨x18,h19,hm⟩:=bs hm
    refine dv 25 (v:=.pv (.ptr ((rI .u8) x18) 0)) (aaL (rI .u8) x6 .i64 t29 t5 h19 rfl (by kernel_rfl)) (by kernel_rfl) (fq 2 [(7,aU y15),(9,aY x18),(zp88 x6),(zp89 x6),(23,aI y14)] (dn [(7,aU (iOr .u64 (iShl .u64 y15 8) (IntKind.wrap .u64 x18))),(zp88 x6),(zp89 x6),(23,aI y14)] (dn [(7,aU (iOr .u64 (iShl .u64 y15 8) (IntKind.wrap .u64 x18))),(zp88 x6),(zp89 x6),(23,aI (zU y14))] ?_)))
    exact ⟨_,_,ZC [(7,aU (iOr .u64 (iShl .u64 y15 8) (IntKind.wrap .u64 x18))),(zp88 x6),(zp89 x6),(23,aI (zU y14))] [.box (zc11 a0 x4 x5) false] (by kernel_rfl),⟨(zU y14),(iOr .u64 (iShl .u64 y15 8) (IntKind.wrap .u64 x18)),hm,rfl,rfl⟩⟩
   ·
    refine c0 h17 (wp_exit ?_)
    exact ⟨y14,(decide (y14 < ((sll x6).length:Int))),y15,hm,rfl,rfl⟩
theorem Zs {n:Nat} {a0:zf} {r:(Option (List Int)) × Int × Int} (hm:Zb n a0=some r):
    ∃ vv H1,call G n 83 [.ptr 0 0] [.box (zc10 a0) false]=some (.ret vv,H1)∧(match (generalizing:=false) r with | (r0,r1,r2)=>(vv=aY r2∧H1=[.box [aB a0.fmade,.pv (zg (rI .u8) r0),aI r1] false])):=by
  unfold Zb at hm
  obtain ⟨n,rfl,h0⟩:=zy hm
  replace hm:=h0; clear h0
  refine QA 6 [(0,.ptr 0 0)] func83 rfl (by kernel_rfl) (sq (dn [(0,.ptr 0 0)] (sq (rg (s1 1 [(3,.ptr 0 0)] ?_)))))
  obtain ⟨⟨x2,x3,x4⟩,h1,hm⟩:=bs hm
  obtain ⟨vv,H1,hC,rfl,rfl⟩:=abu h1
  refine dR [(4,aU x4)] [.box (zc11 a0 x2 x3) false] [0] [.ptr 0 0,aI 1] (by kernel_rfl) (by kernel_rfl) (by kernel_rfl) hC (by kernel_rfl) (fq 2 [(2,aY (IntKind.wrap .u8 x4))] (wp_ret ?_))
  obtain rfl:=Option.some.inj hm
  exact ⟨trivial,aY (IntKind.wrap .u8 x4),[.box (zc11 a0 x2 x3) false],by kernel_rfl,rfl,rfl⟩
theorem zX {n:Nat} {a0:zf} {r:Int} (hm:zH n a0=some r):
    ∃ vv H1,call G n 78 [.ptr 0 0] [.box (zc10 a0) false]=some (.ret vv,H1)∧(match (generalizing:=false) r with | r0=>(vv=aI r0∧H1=[.box (zc10 a0) false])):=by
  unfold zH at hm
  obtain ⟨n,rfl,h0⟩:=zy hm
  replace hm:=h0; clear h0
  refine QA 16 [(0,.ptr 0 0)] func78 rfl (by kernel_rfl) (sq (dn [(0,.ptr 0 0)] (sq (sq (dn [(0,.ptr 0 0),(11,aB (!a0.fmade))] ?_)))))
  rcases zh hm with ⟨h1,hm⟩ | ⟨h1,hm⟩
  ·
   refine c1 h1 (sq (dn [(2,aI 1)] (wp_ret ?_)))
   obtain rfl:=Option.some.inj hm
   exact ⟨trivial,aI 1,[.box (zc10 a0) false],by kernel_rfl,rfl,rfl⟩
  ·
   refine c0 h1 (wp_skip (sq (dn [(2,aI a0.fe)] (wp_ret ?_))))
   obtain rfl:=Option.some.inj hm
   exact ⟨trivial,aI a0.fe,[.box (zc10 a0) false],by kernel_rfl,rfl,rfl⟩
end Go.Ab.S1
