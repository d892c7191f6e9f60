import Derived.Test.YtejbcaheoloahaaGreatS1
import Derived.Test.YtejbcaheoloahaaGreatPA
noncomputable section
namespace Go.Ab.S1
open Go Go.Ab Go.Pl
open Go.Proofs.Tryz
set_option linter.unusedVariables false
set_option linter.unusedSimpArgs false
set_option maxRecDepth 100000
theorem ahV:call G 3999999 32 [] []=some (.ret (aB true),[]):=by kernel_rfl
theorem aje {n:Nat} {r:Bool} (hm:ac4 n=some r):
    call G n 32 [] []=some (.ret (aB r),[]):=by
  unfold ac4 at hm
  have hn:n=3999999:=by
    cases h:n == 3999999 with
    | true=>exact eq_of_beq h
    | false=>rw [h] at hm; cases hm
  subst hn
  have h2:some true=some r:=hm
  obtain rfl:=Option.some.inj h2
  exact ahV
abbrev zp25 (p0:Int) (p1:zd):Nat × AV:=(5,aI (IntKind.wrap .i64 (p0+((((zg p1).fConst).fText).size:Int))))
abbrev zp26 (p0:Int) (p1:zd) (p2:Int):Nat × AV:=(5,aI (IntKind.wrap .i64 ((IntKind.wrap .i64 (p0+((((zg p1).fConst).fText).size:Int)))+p2)))
abbrev zg39 (p0:Int) (p1:(Option (List zd))):=(decide (p0 < ((sll p1).length:Int)))
abbrev zg40 (p0:zd):=(Zy (zg p0))
theorem aie {rc_ref22_Bulk:(Nat→(Option (List zd))→Int→Option (Int))} (ih_ref22_Bulk:∀ {n:Nat} {a0:(Option (List zd))} {a1:Int} {r:Int} (hm:rc_ref22_Bulk n a0 a1=some r),call G n 98 [.pv (zc za a0),aI a1] []=some (.ret (aI r),[])) {n:Nat} {a0:(Option (List zd))} {a1:Int} {r:Int} (hm:acr rc_ref22_Bulk n a0 a1=some r):
    call G n 98 [.pv (zc za a0),aI a1] []=some (.ret (aI r),[]):=by
  unfold acr at hm
  obtain ⟨n,rfl,h0⟩:=zp hm
  replace hm:=h0; clear h0
  refine Zt 61 [(0,.pv (zc za a0)),(1,aI a1)] func98 rfl (by kernel_rfl) (sq (dn [(0,.pv (zc za a0)),(1,aI a1)] ?_))
  refine sq (sq (rg (s1 1 [(7,.pv (zc za a0))] (dv 8 (v:=aI ((sll a0).length:Int)) (zC za a0 t23 (by kernel_rfl)) (by kernel_rfl) (fq 2 [(0,.pv (zc za a0)),(1,aI a1),(10,aB (decide (((sll a0).length:Int) > a1)))] ?_)))))
  rcases zf hm with ⟨h1,hm⟩ | ⟨h1,hm⟩
  ·
   refine c1 h1 (sq (dn [(4,aI (IntKind.wrap .i64 (a1+1)))] (wp_ret ?_)))
   obtain rfl:=Option.some.inj hm
   exact ⟨trivial,by kernel_rfl⟩
  ·
   refine c0 h1 (wp_skip (sq (rg (s1 1 [(13,.pv (zc za a0))] (dv 14 (v:=aI ((sll a0).length:Int)) (zC za a0 t23 (by kernel_rfl)) (by kernel_rfl) (fq 1 [(0,.pv (zc za a0)),(1,aI a1),(5,aI ((sll a0).length:Int))] ?_))))))
   obtain ⟨k5,hk5,hm⟩:=zw hm
   refine mid (fun t H=>(∃ (y2:Bool) (y3:Int) (y4:Int),k5 y3=some r∧t=mk 61 [(0,.pv (zc za a0)),(1,aI a1),(5,aI y3),(6,aI y4),(23,aB y2)]∧H=[])) ?_ ?_
   ·
    rintro _ _ ⟨y2,y3,y4,hm,rfl,rfl⟩
    subst hk5
    refine sq (dn [(4,aI y3)] (wp_ret ?_))
    obtain rfl:=Option.some.inj hm
    exact ⟨trivial,by kernel_rfl⟩
   refine sq (dn [(0,.pv (zc za a0)),(1,aI a1),(5,aI ((sll a0).length:Int)),(6,aI 0)] (bq ?_))
   refine qR (fun mm t H=>(∃ (y8:Int) (y9:Int),Qk n rc_ref22_Bulk a0 a1 k5 mm y8 y9=some r∧t=mk 61 [(0,.pv (zc za a0)),(1,aI a1),(5,aI y8),(6,aI y9)]∧H=[])) (⟨((sll a0).length:Int),0,hm,rfl,rfl⟩) ?_ ?_
   · rintro _ _ ⟨y8,y9,hm,_⟩; exact nomatch hm
   rintro m10 _ _ ⟨y8,y9,hm,rfl,rfl⟩
   simp only [Qk] at hm
   refine sq (sq (rg (s1 2 [(16,.pv (zc za a0)),(15,aI y9)] (dv 17 (v:=aI ((sll a0).length:Int)) (zC za a0 t23 (by kernel_rfl)) (by kernel_rfl) (s1 2 [(19,aB (zg39 y9 a0)),(18,aB (zg39 y9 a0))] ?_)))))
   refine segP (zg39 y9 a0) [19,18] (fun b=>[(23,aB (b && (decide (y8≤a1)))),(22,ifA b (aB (decide (y8≤a1))) (.undef)),(21,ifA b (aI a1) (.undef)),(20,ifA b (aI y8) (.undef))]) 4 (by kernel_rfl) (by kernel_rfl) (by kernel_rfl) (fin [(0,.pv (zc za a0)),(1,aI a1),(5,aI y8),(6,aI y9),(23,aB ((decide (y9 < ((sll a0).length:Int))) && (decide (y8≤a1))))] rfl (by kernel_rfl) ?_)
   rcases zf hm with ⟨h11,hm⟩ | ⟨h11,hm⟩
   ·
    refine c1 h11 (wp_skip (sq (bq ?_)))
    refine sq (sq (rg (s1 2 [(27,aI y9),(26,.pv (zc za a0))] ?_)))
    obtain ⟨x12,h13,hm⟩:=bs hm
    refine dv 28 (v:=.pv (.ptr (zg40 x12) 0)) (ZN za a0 .i64 t23 t49 h13 (zu x12) rfl (by kernel_rfl)) (by kernel_rfl) (fq 6 [(0,.pv (zc za a0)),(1,aI a1),(5,aI y8),(6,aI y9),(34,aB (decide (((((zg x12).fConst).fText).size:Int) > a1)))] ?_)
    rcases zf hm with ⟨h14,hm⟩ | ⟨h14,hm⟩
    ·
     refine c1 h14 (sq (dn [(4,aI (IntKind.wrap .i64 (a1+1)))] (wp_ret ?_)))
     obtain rfl:=Option.some.inj hm
     exact ⟨trivial,by kernel_rfl⟩
    ·
     refine c0 h14 (wp_skip (sq (rg (s1 3 [(39,aI y9),(38,.pv (zc za a0)),(37,aI y8)] (dv 40 (v:=.pv (.ptr (zg40 x12) 0)) (ZN za a0 .i64 t23 t49 h13 (zu x12) rfl (by kernel_rfl)) (by kernel_rfl) (fq 6 [(0,.pv (zc za a0)),(1,aI a1),(zp25 y8 x12),(6,aI y9)] (sq (dn [(0,.pv (zc za a0)),(1,aI a1),(zp25 y8 x12),(6,aI y9),(48,aB (decide ((IntKind.wrap .i64 (y8+((((zg x12).fConst).fText).size:Int)))≤a1)))] ?_))))))))
     rcases zf hm with ⟨h15,hm⟩ | ⟨h15,hm⟩
     ·
      refine c1 h15 (rg (s1 3 [(51,aI y9),(50,.pv (zc za a0)),(49,aI (IntKind.wrap .i64 (y8+((((zg x12).fConst).fText).size:Int))))] (dv 52 (v:=.pv (.ptr (zg40 x12) 0)) (ZN za a0 .i64 t23 t49 h13 (zu x12) rfl (by kernel_rfl)) (by kernel_rfl) (s1 5 [(57,aI (IntKind.wrap .i64 (a1 - (IntKind.wrap .i64 (y8+((((zg x12).fConst).fText).size:Int)))))),(56,aI (IntKind.wrap .i64 (y8+((((zg x12).fConst).fText).size:Int)))),(55,aI a1),(54,.pv (zc za ((zg x12).fKids))),(53,.pv (.ptr (zg40 x12) 7))] ?_))))
      obtain ⟨x16,h17,hm⟩:=bs hm
      refine dv 58 (zF (by kernel_rfl) (ih_ref22_Bulk h17) (by kernel_rfl) (by kernel_rfl) (by kernel_rfl)) (by kernel_rfl) (fq 2 [(0,.pv (zc za a0)),(1,aI a1),(zp26 y8 x12 x16),(6,aI y9)] (dn [(0,.pv (zc za a0)),(1,aI a1),(zp26 y8 x12 x16),(6,aI (IntKind.wrap .i64 (y9+1)))] ?_))
      exact ⟨_,_,qd [(0,.pv (zc za a0)),(1,aI a1),(zp26 y8 x12 x16),(6,aI (IntKind.wrap .i64 (y9+1)))] [] (by kernel_rfl),⟨(IntKind.wrap .i64 ((IntKind.wrap .i64 (y8+((((zg x12).fConst).fText).size:Int)))+x16)),(IntKind.wrap .i64 (y9+1)),hm,rfl,rfl⟩⟩
     ·
      refine c0 h15 (wp_skip (dn [(0,.pv (zc za a0)),(1,aI a1),(zp25 y8 x12),(6,aI (IntKind.wrap .i64 (y9+1)))] ?_))
      exact ⟨_,_,qd [(0,.pv (zc za a0)),(1,aI a1),(zp25 y8 x12),(6,aI (IntKind.wrap .i64 (y9+1)))] [] (by kernel_rfl),⟨(IntKind.wrap .i64 (y8+((((zg x12).fConst).fText).size:Int))),(IntKind.wrap .i64 (y9+1)),hm,rfl,rfl⟩⟩
   ·
    refine c0 h11 (wp_exit ?_)
    exact ⟨((decide (y9 < ((sll a0).length:Int))) && (decide (y8≤a1))),y8,y9,hm,rfl,rfl⟩
theorem afI:∀ (m:Nat),∀ {n:Nat} {a0:(Option (List zd))} {a1:Int} {r:Int} (hm:aaA m n a0 a1=some r),call G n 98 [.pv (zc za a0),aI a1] []=some (.ret (aI r),[])
  | 0=>by intros; rename_i hm; exact nomatch hm
  | m+1=>fun hm=>
    aie (afI m) hm
theorem aef {n:Nat} {a0:(Option (List zd))} {a1:Int} {r:Int} (hm:aaa n a0 a1=some r):
    call G n 98 [.pv (zc za a0),aI a1] []=some (.ret (aI r),[]):=afI n hm
abbrev zc0 (p0:zx):List AV:=[.pv (zc rS p0.fRels),.pv (zc za p0.fWhere),aB p0.fGrouped,.pv (zc za p0.fOut),.pv (zc zj p0.fAggs),.pv (zc zn p0.fOrder)]
abbrev zc1 (p0:zK):List AV:=[aI p0.fOf.fKind,aI p0.fOf.fRel,aI p0.fOf.fCol,aI p0.fOf.fConst.fKind,aI p0.fOf.fConst.fInt,aF p0.fOf.fConst.fFloat,aS p0.fOf.fConst.fText,.pv (zc za p0.fOf.fKids)]
abbrev zp27 (p0:zx):Nat × AV:=(5,aI (IntKind.wrap .i64 ((IntKind.wrap .i64 (((sll p0.fRels).length:Int)+((sll p0.fAggs).length:Int)))+((sll p0.fOrder).length:Int))))
abbrev zg41 (p0:Int) (p1:Int):=(IntKind.wrap .i64 (p0+p1))
abbrev zg42 (p0:zx):=(zc za p0.fWhere)
theorem aeg {n:Nat} {a0:zx} {a1:Int} {r:Int} (hm:aat n a0 a1=some r):
    call G n 46 [.agg (zc0 a0),aI a1] []=some (.ret (aI r),[]):=by
  unfold aat at hm
  obtain ⟨n,rfl,h0⟩:=zp hm
  replace hm:=h0; clear h0
  refine Zt 118 [(0,.agg (zc0 a0)),(1,aI a1)] func46 rfl (by kernel_rfl) (sq (det [(1,aI a1),(2,.ptr 0 0)] [.box (zc0 a0) false] (by kernel_rfl) ?_))
  refine sq (sq (rg (s1 2 [(9,.pv (zc rS a0.fRels)),(8,.ptr 0 0)] (dv 10 (v:=aI ((sll a0.fRels).length:Int)) (zC rS a0.fRels t22 (by kernel_rfl)) (by kernel_rfl) (s1 3 [(13,aB (decide (((sll a0.fRels).length:Int) > a1))),(12,aB (decide (((sll a0.fRels).length:Int) > a1))),(11,aI a1)] ?_)))))
  refine seg (decide (((sll a0.fRels).length:Int) > a1)) [13,12] (fun b=>[(19,aB (b || (decide (((sll a0.fAggs).length:Int) > a1)))),(18,ifA b (.undef) (aB (decide (((sll a0.fAggs).length:Int) > a1)))),(17,ifA b (.undef) (aI a1)),(16,ifA b (.undef) (aI ((sll a0.fAggs).length:Int))),(15,ifA b (.undef) (.pv (zc zj a0.fAggs))),(14,ifA b (.undef) (.ptr 0 4))]) 12 (by kernel_rfl) ?_ ?_ ?_
  ·
   intro Q h
   refine s1 6 [(19,aB true),(18,.undef),(17,.undef),(16,.undef),(15,.undef),(14,.undef)] ?_
   exact QS (by kernel_rfl) (by kernel_rfl) h
  ·
   intro Q h
   refine s1 2 [(15,.pv (zc zj a0.fAggs)),(14,.ptr 0 4)] (dv 16 (v:=aI ((sll a0.fAggs).length:Int)) (zC zj a0.fAggs t24 (by kernel_rfl)) (by kernel_rfl) (s1 3 [(19,aB (decide (((sll a0.fAggs).length:Int) > a1))),(18,aB (decide (((sll a0.fAggs).length:Int) > a1))),(17,aI a1)] ?_))
   exact QS (by kernel_rfl) (by kernel_rfl) h
  refine s1 1 [(20,aB ((decide (((sll a0.fRels).length:Int) > a1)) || (decide (((sll a0.fAggs).length:Int) > a1))))] ?_
  refine seg ((decide (((sll a0.fRels).length:Int) > a1)) || (decide (((sll a0.fAggs).length:Int) > a1))) [20,19] (fun b=>[(26,aB (b || (decide (((sll a0.fOrder).length:Int) > a1)))),(25,ifA b (.undef) (aB (decide (((sll a0.fOrder).length:Int) > a1)))),(24,ifA b (.undef) (aI a1)),(23,ifA b (.undef) (aI ((sll a0.fOrder).length:Int))),(22,ifA b (.undef) (.pv (zc zn a0.fOrder))),(21,ifA b (.undef) (.ptr 0 5))]) 19 (by kernel_rfl) ?_ ?_ ?_
  ·
   intro Q h
   refine s1 6 [(26,aB true),(25,.undef),(24,.undef),(23,.undef),(22,.undef),(21,.undef)] ?_
   exact QS (by kernel_rfl) (by kernel_rfl) h
  ·
   intro Q h
   refine s1 2 [(22,.pv (zc zn a0.fOrder)),(21,.ptr 0 5)] (dv 23 (v:=aI ((sll a0.fOrder).length:Int)) (zC zn a0.fOrder t25 (by kernel_rfl)) (by kernel_rfl) (s1 3 [(26,aB (decide (((sll a0.fOrder).length:Int) > a1))),(25,aB (decide (((sll a0.fOrder).length:Int) > a1))),(24,aI a1)] ?_))
   exact QS (by kernel_rfl) (by kernel_rfl) h
  refine fin [(1,aI a1),(2,.ptr 0 0),(26,aB (((decide (((sll a0.fRels).length:Int) > a1)) || (decide (((sll a0.fAggs).length:Int) > a1))) || (decide (((sll a0.fOrder).length:Int) > a1))))] rfl (by kernel_rfl) ?_
  rcases zf hm with ⟨h1,hm⟩ | ⟨h1,hm⟩
  ·
   refine c1 h1 (sq (dn [(4,aI (IntKind.wrap .i64 (a1+1)))] (wp_ret ?_)))
   obtain rfl:=Option.some.inj hm
   exact ⟨trivial,by kernel_rfl⟩
  ·
   refine c0 h1 (wp_skip (sq (rg (s1 2 [(30,.pv (zc rS a0.fRels)),(29,.ptr 0 0)] (dv 31 (v:=aI ((sll a0.fRels).length:Int)) (zC rS a0.fRels t22 (by kernel_rfl)) (by kernel_rfl) (s1 2 [(33,.pv (zc zj a0.fAggs)),(32,.ptr 0 4)] (dv 34 (v:=aI ((sll a0.fAggs).length:Int)) (zC zj a0.fAggs t24 (by kernel_rfl)) (by kernel_rfl) (s1 3 [(37,.pv (zc zn a0.fOrder)),(36,.ptr 0 5),(35,aI (IntKind.wrap .i64 (((sll a0.fRels).length:Int)+((sll a0.fAggs).length:Int))))] (dv 38 (v:=aI ((sll a0.fOrder).length:Int)) (zC zn a0.fOrder t25 (by kernel_rfl)) (by kernel_rfl) (fq 2 [(1,aI a1),(2,.ptr 0 0),(zp27 a0)] ?_))))))))))
   obtain ⟨k5,hk5,hm⟩:=zw hm
   refine mid (fun t H=>(∃ (y2:Bool) (y3:Int) (y4:Int),k5 y3=some r∧t=mk 118 [(1,aI a1),(2,.ptr 0 0),(5,aI y3),(6,aI y4),(44,aB y2)]∧H=[.box (zc0 a0) false])) ?_ ?_
   ·
    rintro _ _ ⟨y2,y3,y4,hm,rfl,rfl⟩
    subst hk5
    obtain ⟨k8,hk8,hm⟩:=zw hm
    refine mid (fun t H=>(∃ (y7:Int) (w6:AV),k8 y7=some r∧t=mk 118 [(1,aI a1),(2,.ptr 0 0),(5,aI y7),(72,w6)]∧H=[.box (zc0 a0) false])) ?_ ?_
    ·
     rintro _ _ ⟨y7,w6,hm,rfl,rfl⟩
     subst hk8
     obtain ⟨k11,hk11,hm⟩:=zw hm
     refine mid (fun t H=>(∃ (y10:Int) (w9:AV),k11 y10=some r∧t=mk 118 [(1,aI a1),(2,.ptr 0 0),(5,aI y10),(83,w9)]∧H=[.box (zc0 a0) false])) ?_ ?_
     ·
      rintro _ _ ⟨y10,w9,hm,rfl,rfl⟩
      subst hk11
      obtain ⟨k15,hk15,hm⟩:=zw hm
      refine mid (fun t H=>(∃ (y12:Bool) (y13:Int) (y14:Int),k15 y13=some r∧t=mk 118 [(1,aI a1),(2,.ptr 0 0),(5,aI y13),(7,aI y14),(101,aB y12)]∧H=[.box (zc0 a0) false])) ?_ ?_
      ·
       rintro _ _ ⟨y12,y13,y14,hm,rfl,rfl⟩
       subst hk15
       refine sq (dn [(4,aI y13)] (wp_ret ?_))
       obtain rfl:=Option.some.inj hm
       exact ⟨trivial,by kernel_rfl⟩
      refine sq (dn [(1,aI a1),(2,.ptr 0 0),(5,aI y10),(7,aI 0)] (bq ?_))
      refine qR (fun mm t H=>(∃ (y18:Int) (y19:Int),ZJ n a0 a1 k15 mm y18 y19=some r∧t=mk 118 [(1,aI a1),(2,.ptr 0 0),(5,aI y18),(7,aI y19)]∧H=[.box (zc0 a0) false])) (⟨y10,0,hm,rfl,rfl⟩) ?_ ?_
      · rintro _ _ ⟨y18,y19,hm,_⟩; exact nomatch hm
      rintro m20 _ _ ⟨y18,y19,hm,rfl,rfl⟩
      simp only [ZJ] at hm
      refine sq (sq (rg (s1 3 [(94,.pv (zc zj a0.fAggs)),(93,.ptr 0 4),(92,aI y19)] (dv 95 (v:=aI ((sll a0.fAggs).length:Int)) (zC zj a0.fAggs t24 (by kernel_rfl)) (by kernel_rfl) (s1 2 [(97,aB (decide (y19 < ((sll a0.fAggs).length:Int)))),(96,aB (decide (y19 < ((sll a0.fAggs).length:Int))))] ?_)))))
      refine segP (decide (y19 < ((sll a0.fAggs).length:Int))) [97,96] (fun b=>[(101,aB (b && (decide (y18≤a1)))),(100,ifA b (aB (decide (y18≤a1))) (.undef)),(99,ifA b (aI a1) (.undef)),(98,ifA b (aI y18) (.undef))]) 4 (by kernel_rfl) (by kernel_rfl) (by kernel_rfl) (fin [(1,aI a1),(2,.ptr 0 0),(5,aI y18),(7,aI y19),(101,aB ((decide (y19 < ((sll a0.fAggs).length:Int))) && (decide (y18≤a1))))] rfl (by kernel_rfl) ?_)
      rcases zf hm with ⟨h21,hm⟩ | ⟨h21,hm⟩
      ·
       refine c1 h21 (wp_skip (sq (bq (rg (s1 4 [(107,aI y19),(106,.pv (zc zj a0.fAggs)),(105,.ptr 0 4),(104,aI y18)] ?_)))))
       obtain ⟨x22,h23,hm⟩:=bs hm
       refine dv 108 (v:=.pv (.ptr (zj x22) 0)) (Qy zj a0.fAggs .i64 t24 t101 h23 rfl (by kernel_rfl)) (by kernel_rfl) (st 6 [(114,aI (IntKind.wrap .i64 (a1 - y18))),(113,aI y18),(112,aI a1),(111,aR 1 8 1),(110,.agg (zc1 x22)),(109,.pv (.ptr (zj x22) 1))] [.box (zc0 a0) false,bR 49 8 za ([(zi x22.fOf)]:List zd) 0 0] (by kernel_rfl) ?_)
       obtain ⟨x24,h25,hm⟩:=bs hm
       refine dO [(115,aI x24)] [.box (zc0 a0) false,bR 49 8 za ([(zi x22.fOf)]:List zd) 0 0] (adv [1] [aR 1 8 1,aI (IntKind.wrap .i64 (a1 - y18))] (fl:=true) (by kernel_rfl) (by kernel_rfl) (by kernel_rfl) (aef h25) (by kernel_rfl) (by kernel_rfl)) (by kernel_rfl) (fq 2 [(1,aI a1),(2,.ptr 0 0),(5,aI (zg41 y18 x24)),(7,aI y19)] (dn [(1,aI a1),(2,.ptr 0 0),(5,aI (zg41 y18 x24)),(7,aI (IntKind.wrap .i64 (y19+1)))] ?_))
       exact ⟨_,_,qd [(1,aI a1),(2,.ptr 0 0),(5,aI (zg41 y18 x24)),(7,aI (IntKind.wrap .i64 (y19+1)))] [.box (zc0 a0) false] (by kernel_rfl),⟨(zg41 y18 x24),(IntKind.wrap .i64 (y19+1)),hm,rfl,rfl⟩⟩
      ·
       refine c0 h21 (wp_exit ?_)
       exact ⟨((decide (y19 < ((sll a0.fAggs).length:Int))) && (decide (y18≤a1))),y18,y19,hm,rfl,rfl⟩
     refine sq (dn [(1,aI a1),(2,.ptr 0 0),(5,aI y7),(83,aB (decide (y7≤a1)))] ?_)
     rcases zf hm with ⟨h26,hm⟩ | ⟨h26,hm⟩
     ·
      refine c1 h26 (rg (s1 6 [(89,aI (IntKind.wrap .i64 (a1 - y7))),(88,aI y7),(87,aI a1),(86,.pv (zc za a0.fOut)),(85,.ptr 0 3),(84,aI y7)] ?_))
      obtain ⟨x27,h28,hm⟩:=bs hm
      refine dv 90 (zF (by kernel_rfl) (aef h28) (by kernel_rfl) (by kernel_rfl) (by kernel_rfl)) (by kernel_rfl) (fq 2 [(1,aI a1),(2,.ptr 0 0),(5,aI (zg41 y7 x27))] ?_)
      exact ⟨(zg41 y7 x27),.any,hm,(zJ (by kernel_rfl)),rfl⟩
     ·
      refine c0 h26 (wp_skip ?_)
      exact ⟨y7,aB (decide (y7≤a1)),hm,(zJ (by kernel_rfl)),rfl⟩
    refine sq (dn [(1,aI a1),(2,.ptr 0 0),(5,aI y3),(72,aB (decide (y3≤a1)))] ?_)
    rcases zf hm with ⟨h29,hm⟩ | ⟨h29,hm⟩
    ·
     refine c1 h29 (rg (s1 6 [(78,aI (IntKind.wrap .i64 (a1 - y3))),(77,aI y3),(76,aI a1),(75,.pv (zg42 a0)),(74,.ptr 0 1),(73,aI y3)] ?_))
     obtain ⟨x30,h31,hm⟩:=bs hm
     refine dv 79 (zF (by kernel_rfl) (aef h31) (by kernel_rfl) (by kernel_rfl) (by kernel_rfl)) (by kernel_rfl) (fq 2 [(1,aI a1),(2,.ptr 0 0),(5,aI (zg41 y3 x30))] ?_)
     exact ⟨(zg41 y3 x30),.any,hm,(zJ (by kernel_rfl)),rfl⟩
    ·
     refine c0 h29 (wp_skip ?_)
     exact ⟨y3,aB (decide (y3≤a1)),hm,(zJ (by kernel_rfl)),rfl⟩
   refine sq (dn [(1,aI a1),(2,.ptr 0 0),(zp27 a0),(6,aI 0)] (bq ?_))
   refine qR (fun mm t H=>(∃ (y34:Int) (y35:Int),Qo n a0 a1 k5 mm y34 y35=some r∧t=mk 118 [(1,aI a1),(2,.ptr 0 0),(5,aI y34),(6,aI y35)]∧H=[.box (zc0 a0) false])) (⟨(IntKind.wrap .i64 ((IntKind.wrap .i64 (((sll a0.fRels).length:Int)+((sll a0.fAggs).length:Int)))+((sll a0.fOrder).length:Int))),0,hm,rfl,rfl⟩) ?_ ?_
   · rintro _ _ ⟨y34,y35,hm,_⟩; exact nomatch hm
   rintro m36 _ _ ⟨y34,y35,hm,rfl,rfl⟩
   simp only [Qo] at hm
   refine sq (sq (rg (s1 3 [(42,.pv (zc rS a0.fRels)),(41,.ptr 0 0),(40,aI y35)] (dv 43 (v:=aI ((sll a0.fRels).length:Int)) (zC rS a0.fRels t22 (by kernel_rfl)) (by kernel_rfl) (fq 1 [(1,aI a1),(2,.ptr 0 0),(5,aI y34),(6,aI y35),(44,aB (decide (y35 < ((sll a0.fRels).length:Int))))] ?_)))))
   rcases zf hm with ⟨h37,hm⟩ | ⟨h37,hm⟩
   ·
    refine c1 h37 (wp_skip (sq (bq ?_)))
    refine sq (sq (rg (s1 4 [(50,aB (decide (y34 > a1))),(49,aB (decide (y34 > a1))),(48,aI a1),(47,aI y34)] ?_)))
    rcases zf hm with ⟨h38,hm⟩ | ⟨h38,hm⟩
    ·
     refine known [50,49] h38 (by kernel_rfl) (fq 9 [(1,aI a1),(2,.ptr 0 0),(5,aI y34),(6,aI y35),(59,aB true)] (cT (by kernel_rfl) (sq (dn [(4,aI (IntKind.wrap .i64 (a1+1)))] (wp_ret ?_)))))
     obtain rfl:=Option.some.inj hm
     exact ⟨trivial,by kernel_rfl⟩
    ·
     refine known [50,49] h38 (by kernel_rfl) (s1 3 [(53,aI y35),(52,.pv (zc rS a0.fRels)),(51,.ptr 0 0)] ?_)
     obtain ⟨x39,h40,hm⟩:=bs hm
     refine dv 54 (v:=.pv (.ptr (rS x39) 0)) (Qy rS a0.fRels .i64 t22 t9 h40 rfl (by kernel_rfl)) (by kernel_rfl) (fq 5 [(1,aI a1),(2,.ptr 0 0),(5,aI y34),(6,aI y35),(59,aB (decide ((x39.size:Int) > a1)))] ?_)
     rcases zf hm with ⟨h41,hm⟩ | ⟨h41,hm⟩
     ·
      refine c1 h41 (sq (dn [(4,aI (IntKind.wrap .i64 (a1+1)))] (wp_ret ?_)))
      obtain rfl:=Option.some.inj hm
      exact ⟨trivial,by kernel_rfl⟩
     ·
      refine c0 h41 (wp_skip (rg (s1 4 [(65,aI y35),(64,.pv (zc rS a0.fRels)),(63,.ptr 0 0),(62,aI y34)] (dv 66 (v:=.pv (.ptr (rS x39) 0)) (Qy rS a0.fRels .i64 t22 t9 h40 rfl (by kernel_rfl)) (by kernel_rfl) (fq 4 [(1,aI a1),(2,.ptr 0 0),(5,aI (IntKind.wrap .i64 (y34+(x39.size:Int)))),(6,aI y35)] (dn [(1,aI a1),(2,.ptr 0 0),(5,aI (IntKind.wrap .i64 (y34+(x39.size:Int)))),(6,aI (IntKind.wrap .i64 (y35+1)))] ?_))))))
      exact ⟨_,_,qd [(1,aI a1),(2,.ptr 0 0),(5,aI (IntKind.wrap .i64 (y34+(x39.size:Int)))),(6,aI (IntKind.wrap .i64 (y35+1)))] [.box (zc0 a0) false] (by kernel_rfl),⟨(IntKind.wrap .i64 (y34+(x39.size:Int))),(IntKind.wrap .i64 (y35+1)),hm,rfl,rfl⟩⟩
   ·
    refine c0 h37 (wp_exit ?_)
    exact ⟨(decide (y35 < ((sll a0.fRels).length:Int))),y34,y35,hm,rfl,rfl⟩
abbrev zc2 (p0:zl):List AV:=[aI p0.fKind,aI p0.fRel,.pv (zc za p0.fWhere),.pv (zc za p0.fLeft),.pv (zc za p0.fRight),.pv (zc za p0.fOut),.pv (zc zj p0.fAggs),.pv (zc zn p0.fOrder),.pv (zc zm p0.fKids)]
abbrev zc3 (p0:QL):List AV:=[aI ((zr p0).fKind),aI ((zr p0).fRel),.pv (zc za ((zr p0).fWhere)),.pv (zc za ((zr p0).fLeft)),.pv (zc za ((zr p0).fRight)),.pv (zc za ((zr p0).fOut)),.pv (zc zj ((zr p0).fAggs)),.pv (zc zn ((zr p0).fOrder)),.pv (zc zm ((zr p0).fKids))]
abbrev zg43 (p0:zl):=(zc za p0.fWhere)
abbrev zg44 (p0:Int) (p1:zl):=(decide (p0 < ((sll p1.fKids).length:Int)))
abbrev zg45 (p0:QL):=(aab (zr p0))
abbrev zg46 (p0:zl):=(zc za p0.fRight)
theorem aiL {rc_ref25_Bulk:(Nat→zl→Int→Option (Int))} (ih_ref25_Bulk:∀ {n:Nat} {a0:zl} {a1:Int} {r:Int} (hm:rc_ref25_Bulk n a0 a1=some r),call G n 113 [.agg [aI a0.fKind,aI a0.fRel,.pv (zc za a0.fWhere),.pv (zc za a0.fLeft),.pv (zc za a0.fRight),.pv (zc za a0.fOut),.pv (zc zj a0.fAggs),.pv (zc zn a0.fOrder),.pv (zc zm a0.fKids)],aI a1] []=some (.ret (aI r),[])) {n:Nat} {a0:zl} {a1:Int} {r:Int} (hm:acq rc_ref25_Bulk n a0 a1=some r):
    call G n 113 [.agg (zc2 a0),aI a1] []=some (.ret (aI r),[]):=by
  unfold acq at hm
  obtain ⟨n,rfl,h0⟩:=zp hm
  replace hm:=h0; clear h0
  refine Zt 55 [(0,.agg (zc2 a0)),(1,aI a1)] func113 rfl (by kernel_rfl) (sq (det [(1,aI a1),(2,.ptr 0 0)] [.box (zc2 a0) false] (by kernel_rfl) (sq (rg (s1 10 [(16,aI a1),(15,.agg [.pv .nils,.pv (zg43 a0),aB false,.pv (zc za a0.fOut),.pv (zc zj a0.fAggs),.pv (zc zn a0.fOrder)]),(14,.pv (zc zn a0.fOrder)),(13,.ptr 0 7),(12,.pv (zc zj a0.fAggs)),(11,.ptr 0 6),(10,.pv (zc za a0.fOut)),(9,.ptr 0 5),(8,.pv (zg43 a0)),(7,.ptr 0 2)] ?_)))))
  obtain ⟨x1,h2,hm⟩:=bs hm
  refine dv 17 (zF (by kernel_rfl) (aeg h2) (by kernel_rfl) (by kernel_rfl) (by kernel_rfl)) (by kernel_rfl) (fq 2 [(1,aI a1),(2,.ptr 0 0),(5,aI (IntKind.wrap .i64 (1+x1)))] ?_)
  obtain ⟨k5,hk5,hm⟩:=zw hm
  refine mid (fun t H=>(∃ (y4:Int) (w3:AV),k5 y4=some r∧t=mk 55 [(1,aI a1),(2,.ptr 0 0),(5,aI y4),(21,w3)]∧H=[.box (zc2 a0) false])) ?_ ?_
  ·
   rintro _ _ ⟨y4,w3,hm,rfl,rfl⟩
   subst hk5
   obtain ⟨k9,hk9,hm⟩:=zw hm
   refine mid (fun t H=>(∃ (y6:Bool) (y7:Int) (y8:Int),k9 y7=some r∧t=mk 55 [(1,aI a1),(2,.ptr 0 0),(5,aI y7),(6,aI y8),(40,aB y6)]∧H=[.box (zc2 a0) false])) ?_ ?_
   ·
    rintro _ _ ⟨y6,y7,y8,hm,rfl,rfl⟩
    subst hk9
    refine sq (dn [(4,aI y7)] (wp_ret ?_))
    obtain rfl:=Option.some.inj hm
    exact ⟨trivial,by kernel_rfl⟩
   refine sq (dn [(1,aI a1),(2,.ptr 0 0),(5,aI y4),(6,aI 0)] (bq ?_))
   refine qR (fun mm t H=>(∃ (y12:Int) (y13:Int),QB n rc_ref25_Bulk a0 a1 k9 mm y12 y13=some r∧t=mk 55 [(1,aI a1),(2,.ptr 0 0),(5,aI y12),(6,aI y13)]∧H=[.box (zc2 a0) false])) (⟨y4,0,hm,rfl,rfl⟩) ?_ ?_
   · rintro _ _ ⟨y12,y13,hm,_⟩; exact nomatch hm
   rintro m14 _ _ ⟨y12,y13,hm,rfl,rfl⟩
   simp only [QB] at hm
   refine sq (sq (rg (s1 3 [(33,.pv (zc zm a0.fKids)),(32,.ptr 0 8),(31,aI y13)] (dv 34 (v:=aI ((sll a0.fKids).length:Int)) (zC zm a0.fKids t64 (by kernel_rfl)) (by kernel_rfl) (s1 2 [(36,aB (zg44 y13 a0)),(35,aB (zg44 y13 a0))] ?_)))))
   refine segP (zg44 y13 a0) [36,35] (fun b=>[(40,aB (b && (decide (y12≤a1)))),(39,ifA b (aB (decide (y12≤a1))) (.undef)),(38,ifA b (aI a1) (.undef)),(37,ifA b (aI y12) (.undef))]) 4 (by kernel_rfl) (by kernel_rfl) (by kernel_rfl) (fin [(1,aI a1),(2,.ptr 0 0),(5,aI y12),(6,aI y13),(40,aB ((decide (y13 < ((sll a0.fKids).length:Int))) && (decide (y12≤a1))))] rfl (by kernel_rfl) ?_)
   rcases zf hm with ⟨h15,hm⟩ | ⟨h15,hm⟩
   ·
    refine c1 h15 (wp_skip (sq (bq (rg (s1 4 [(46,aI y13),(45,.pv (zc zm a0.fKids)),(44,.ptr 0 8),(43,aI y12)] ?_)))))
    obtain ⟨x16,h17,hm⟩:=bs hm
    refine dv 47 (v:=.pv (.ptr (zg45 x16) 0)) (ZN zm a0.fKids .i64 t64 t66 h17 (ZK x16) rfl (by kernel_rfl)) (by kernel_rfl) (s1 4 [(51,aI (IntKind.wrap .i64 (a1 - y12))),(50,aI y12),(49,aI a1),(48,.agg (zc3 x16))] ?_)
    obtain ⟨x18,h19,hm⟩:=bs hm
    refine dv 52 (zF (by kernel_rfl) (ih_ref25_Bulk h19) (by kernel_rfl) (by kernel_rfl) (by kernel_rfl)) (by kernel_rfl) (fq 2 [(1,aI a1),(2,.ptr 0 0),(5,aI (zg41 y12 x18)),(6,aI y13)] (dn [(1,aI a1),(2,.ptr 0 0),(5,aI (zg41 y12 x18)),(6,aI (IntKind.wrap .i64 (y13+1)))] ?_))
    exact ⟨_,_,qd [(1,aI a1),(2,.ptr 0 0),(5,aI (zg41 y12 x18)),(6,aI (IntKind.wrap .i64 (y13+1)))] [.box (zc2 a0) false] (by kernel_rfl),⟨(zg41 y12 x18),(IntKind.wrap .i64 (y13+1)),hm,rfl,rfl⟩⟩
   ·
    refine c0 h15 (wp_exit ?_)
    exact ⟨((decide (y13 < ((sll a0.fKids).length:Int))) && (decide (y12≤a1))),y12,y13,hm,rfl,rfl⟩
  refine sq (dn [(1,aI a1),(2,.ptr 0 0),(5,aI (IntKind.wrap .i64 (1+x1))),(21,aB (decide ((IntKind.wrap .i64 (1+x1))≤a1)))] ?_)
  rcases zf hm with ⟨h20,hm⟩ | ⟨h20,hm⟩
  ·
   refine c1 h20 (rg (s1 7 [(28,aI a1),(27,.agg [.pv .nils,.pv (zc za a0.fLeft),aB false,.pv (zg46 a0),.pv .nils,.pv .nils]),(26,.pv (zg46 a0)),(25,.ptr 0 4),(24,.pv (zc za a0.fLeft)),(23,.ptr 0 3),(22,aI (IntKind.wrap .i64 (1+x1)))] ?_))
   obtain ⟨x21,h22,hm⟩:=bs hm
   refine dv 29 (zF (by kernel_rfl) (aeg h22) (by kernel_rfl) (by kernel_rfl) (by kernel_rfl)) (by kernel_rfl) (fq 2 [(1,aI a1),(2,.ptr 0 0),(5,aI (IntKind.wrap .i64 ((IntKind.wrap .i64 (1+x1))+x21)))] ?_)
   exact ⟨(IntKind.wrap .i64 ((IntKind.wrap .i64 (1+x1))+x21)),.any,hm,(zJ (by kernel_rfl)),rfl⟩
  ·
   refine c0 h20 (wp_skip ?_)
   exact ⟨(IntKind.wrap .i64 (1+x1)),aB (decide ((IntKind.wrap .i64 (1+x1))≤a1)),hm,(zJ (by kernel_rfl)),rfl⟩
theorem afa:∀ (m:Nat),∀ {n:Nat} {a0:zl} {a1:Int} {r:Int} (hm:aaD m n a0 a1=some r),call G n 113 [.agg (zc2 a0),aI a1] []=some (.ret (aI r),[])
  | 0=>by intros; rename_i hm; exact nomatch hm
  | m+1=>fun hm=>
    aiL (afa m) hm
theorem ajN {n:Nat} {a0:zl} {a1:Int} {r:Int} (hm:agv n a0 a1=some r):
    call G n 113 [.agg (zc2 a0),aI a1] []=some (.ret (aI r),[]):=afa n hm
theorem ajj {n:Nat} {a0:zl} {r:Bool} (hm:ac7 n a0=some r):
    call G n 29 [.agg (zc2 a0)] []=some (.ret (aB r),[]):=by
  unfold ac7 at hm
  obtain ⟨n,rfl,h0⟩:=zp hm
  replace hm:=h0; clear h0
  refine Zt 6 [(0,.agg (zc2 a0))] func29 rfl (by kernel_rfl) (sq (det [(1,.ptr 0 0)] [.box (zc2 a0) false] (by kernel_rfl) (sq (rg (s1 1 [(3,.agg (zc2 a0))] ?_)))))
  obtain ⟨x1,h2,hm⟩:=bs hm
  refine dv 4 (zF (by kernel_rfl) (ajN h2) (by kernel_rfl) (by kernel_rfl) (by kernel_rfl)) (by kernel_rfl) (fq 2 [(2,aB (decide (x1 > 800)))] (wp_ret ?_))
  obtain rfl:=Option.some.inj hm
  exact ⟨trivial,by kernel_rfl⟩
abbrev zc4 (p0:zk):List AV:=[aS p0.fName,.pv (zc zQ p0.fCols)]
theorem aiK {n:Nat} {a0:zx} {a1:(Option (List zk))} {r:Bool} (hm:acW n a0 a1=some r):
    call G n 10 [.agg (zc0 a0),.pv (zc zb a1)] []=some (.ret (aB r),[]):=by
  unfold acW at hm
  obtain ⟨n,rfl,h0⟩:=zp hm
  replace hm:=h0; clear h0
  refine Zt 32 [(0,.agg (zc0 a0)),(1,.pv (zc zb a1))] func10 rfl (by kernel_rfl) (sq (det [(1,.pv (zc zb a1)),(2,.ptr 0 0)] [.box (zc0 a0) false] (by kernel_rfl) ?_))
  refine sq (sq (rg (s1 1 [(7,.agg (zc0 a0))] ?_)))
  obtain ⟨x1,h2,hm⟩:=bs hm
  refine dv 8 (zF (by kernel_rfl) (aeg h2) (by kernel_rfl) (by kernel_rfl) (by kernel_rfl)) (by kernel_rfl) (s1 2 [(10,aB (decide (x1 > 500))),(9,aB (decide (x1 > 500)))] ?_)
  refine seg (decide (x1 > 500)) [10,9] (fun b=>[(14,aB (b || (decide (((sll a1).length:Int) > 40)))),(13,ifA b (.undef) (aB (decide (((sll a1).length:Int) > 40)))),(12,ifA b (.undef) (aI ((sll a1).length:Int))),(11,ifA b (.undef) (.pv (zc zb a1)))]) 8 (by kernel_rfl) ?_ ?_ ?_
  ·
   intro Q h
   refine s1 4 [(14,aB true),(13,.undef),(12,.undef),(11,.undef)] ?_
   exact QS (by kernel_rfl) (by kernel_rfl) h
  ·
   intro Q h
   refine s1 1 [(11,.pv (zc zb a1))] (dv 12 (v:=aI ((sll a1).length:Int)) (zC zb a1 t28 (by kernel_rfl)) (by kernel_rfl) (s1 2 [(14,aB (decide (((sll a1).length:Int) > 40))),(13,aB (decide (((sll a1).length:Int) > 40)))] ?_))
   exact QS (by kernel_rfl) (by kernel_rfl) h
  refine fin [(1,.pv (zc zb a1)),(14,aB ((decide (x1 > 500)) || (decide (((sll a1).length:Int) > 40))))] rfl (by kernel_rfl) ?_
  rcases zf hm with ⟨h3,hm⟩ | ⟨h3,hm⟩
  ·
   refine c1 h3 (sq (dn [(4,aB true)] (wp_ret ?_)))
   obtain rfl:=Option.some.inj hm
   exact ⟨trivial,by kernel_rfl⟩
  ·
   refine c0 h3 (wp_skip ?_)
   obtain ⟨k6,hk6,hm⟩:=zw hm
   refine mid (fun t H=>(∃ (y4:Int) (y5:Bool),k6 ()=some r∧t=mk 32 [(15,.pv (zc zb a1)),(16,aI ((sll a1).length:Int)),(17,aI y4),(18,aB y5)]∧H=[.box (zc0 a0) false])) ?_ ?_
   ·
    rintro _ _ ⟨y4,y5,hm,rfl,rfl⟩
    subst hk6
    refine sq (dn [(4,aB false)] (wp_ret ?_))
    obtain rfl:=Option.some.inj hm
    exact ⟨trivial,by kernel_rfl⟩
   refine sq (rg (s1 1 [(15,.pv (zc zb a1))] (dv 16 (v:=aI ((sll a1).length:Int)) (zC zb a1 t28 (by kernel_rfl)) (by kernel_rfl) (fq 1 [(15,.pv (zc zb a1)),(16,aI ((sll a1).length:Int)),(17,aI 0)] (bq ?_)))))
   refine qR (fun mm t H=>(∃ (y8:Int),QH n a1 k6 mm y8=some r∧t=mk 32 [(15,.pv (zc zb a1)),(16,aI ((sll a1).length:Int)),(17,aI y8)]∧H=[.box (zc0 a0) false])) (⟨0,hm,rfl,rfl⟩) ?_ ?_
   · rintro _ _ ⟨y8,hm,_⟩; exact nomatch hm
   rintro m9 _ _ ⟨y8,hm,rfl,rfl⟩
   simp only [QH] at hm
   refine sq (dn [(15,.pv (zc zb a1)),(16,aI ((sll a1).length:Int)),(17,aI y8),(18,aB (decide (y8 < ((sll a1).length:Int))))] ?_)
   refine sq ?_
   rcases zf hm with ⟨h10,hm⟩ | ⟨h10,hm⟩
   ·
    refine c1 h10 (wp_skip (sq (bq (sq (rg ?_)))))
    obtain ⟨x11,h12,hm⟩:=bs hm
    refine dv 19 (v:=.pv (.ptr (zb x11) 0)) (Qy zb a1 .i64 t28 t84 h12 rfl (by kernel_rfl)) (by kernel_rfl) (stf 3 [(6,.ptr 1 0),(15,.pv (zc zb a1)),(16,aI ((sll a1).length:Int)),(17,aI y8)] [.box (zc0 a0) false,.box (zc4 x11) false] (by kernel_rfl) (sq (rg (s1 2 [(22,.pv (zc zQ x11.fCols)),(21,.ptr 1 1)] (dv 23 (v:=aI ((sll x11.fCols).length:Int)) (zC zQ x11.fCols t82 (by kernel_rfl)) (by kernel_rfl) (s1 2 [(25,aB (decide (((sll x11.fCols).length:Int) > 40))),(24,aB (decide (((sll x11.fCols).length:Int) > 40)))] ?_))))))
    refine segP (decide (((sll x11.fCols).length:Int) > 40)) [25,24] (fun b=>[(30,aB (b || (decide ((x11.fName.size:Int) > 100)))),(29,ifA b (.undef) (aB (decide ((x11.fName.size:Int) > 100)))),(28,ifA b (.undef) (aI (x11.fName.size:Int))),(27,ifA b (.undef) (aS x11.fName)),(26,ifA b (.undef) (.ptr 1 0))]) 5 (by kernel_rfl) (by kernel_rfl) (by kernel_rfl) (fin [(15,.pv (zc zb a1)),(16,aI ((sll a1).length:Int)),(17,aI y8),(30,aB ((decide (((sll x11.fCols).length:Int) > 40)) || (decide ((x11.fName.size:Int) > 100))))] rfl (by kernel_rfl) ?_)
    rcases zf hm with ⟨h13,hm⟩ | ⟨h13,hm⟩
    ·
     refine c1 h13 (sq (dn [(4,aB true)] (wp_ret ?_)))
     obtain rfl:=Option.some.inj hm
     exact ⟨trivial,by kernel_rfl⟩
    ·
     refine c0 h13 (wp_skip (dn [(15,.pv (zc zb a1)),(16,aI ((sll a1).length:Int)),(17,aI (IntKind.wrap .i64 (y8+1)))] ?_))
     exact ⟨_,_,qd [(15,.pv (zc zb a1)),(16,aI ((sll a1).length:Int)),(17,aI (IntKind.wrap .i64 (y8+1)))] [.box (zc0 a0) false] (by kernel_rfl),⟨(IntKind.wrap .i64 (y8+1)),hm,rfl,rfl⟩⟩
   ·
    refine c0 h10 (wp_exit ?_)
    exact ⟨y8,(decide (y8 < ((sll a1).length:Int))),hm,rfl,rfl⟩
theorem afV {n:Nat} {a0:zk} {a1:ByteArray} {r:Bool} (hm:acK n a0 a1=some r):
    call G n 137 [.agg (zc4 a0),.pv (.ptr [.str a1] 0)] []=some (.ret (aB r),[]):=by
  unfold acK at hm
  obtain ⟨n,rfl,h0⟩:=zp hm
  replace hm:=h0; clear h0
  refine Zt 8 [(0,.agg (zc4 a0)),(1,.pv (.ptr [.str a1] 0))] func137 rfl (by kernel_rfl) (sq (det [(1,.pv (.ptr [.str a1] 0)),(2,.ptr 0 0)] [.box (zc4 a0) false] (by kernel_rfl) (sq (dn [(3,aB (sEq a0.fName a1))] (wp_ret ?_)))))
  obtain rfl:=Option.some.inj hm
  exact ⟨trivial,by kernel_rfl⟩
abbrev zp28 (p0:ByteArray):Nat × AV:=(1,.pv (.fn 137 [] [.ptr [.str p0] 0]))
theorem qN {n:Nat} {a0:(Option (List zk))} {a1:ByteArray} {r:Int} (hm:Zh n a0 a1=some r):
    call G n 136 [.pv (zc zb a0),.pv (.fn 137 [] [.ptr [.str a1] 0])] []=some (.ret (aI r),[]):=by
  unfold Zh at hm
  obtain ⟨n,rfl,h0⟩:=zp hm
  replace hm:=h0; clear h0
  refine Zt 19 [(0,.pv (zc zb a0)),(zp28 a1)] func136 rfl (by kernel_rfl) (sq (dn [(0,.pv (zc zb a0)),(zp28 a1)] ?_))
  obtain ⟨k3,hk3,hm⟩:=zw hm
  refine mid (fun t H=>(∃ (y1:Int) (y2:Bool),k3 ()=some r∧t=mk 19 [(0,.pv (zc zb a0)),(zp28 a1),(7,aI ((sll a0).length:Int)),(8,aI y1),(9,aB y2)]∧H=[])) ?_ ?_
  ·
   rintro _ _ ⟨y1,y2,hm,rfl,rfl⟩
   subst hk3
   refine sq (dn [(4,aI (-1))] (wp_ret ?_))
   obtain rfl:=Option.some.inj hm
   exact ⟨trivial,by kernel_rfl⟩
  refine sq (rg (s1 1 [(6,.pv (zc zb a0))] (dv 7 (v:=aI ((sll a0).length:Int)) (zC zb a0 t28 (by kernel_rfl)) (by kernel_rfl) (fq 1 [(0,.pv (zc zb a0)),(zp28 a1),(7,aI ((sll a0).length:Int)),(8,aI 0)] (bq ?_)))))
  refine qR (fun mm t H=>(∃ (y5:Int),zU n a0 a1 k3 mm y5=some r∧t=mk 19 [(0,.pv (zc zb a0)),(zp28 a1),(7,aI ((sll a0).length:Int)),(8,aI y5)]∧H=[])) (⟨0,hm,rfl,rfl⟩) ?_ ?_
  · rintro _ _ ⟨y5,hm,_⟩; exact nomatch hm
  rintro m6 _ _ ⟨y5,hm,rfl,rfl⟩
  simp only [zU] at hm
  refine sq (dn [(0,.pv (zc zb a0)),(zp28 a1),(7,aI ((sll a0).length:Int)),(8,aI y5),(9,aB (decide (y5 < ((sll a0).length:Int))))] ?_)
  refine sq ?_
  rcases zf hm with ⟨h7,hm⟩ | ⟨h7,hm⟩
  ·
   refine c1 h7 (wp_skip (sq (bq (sq (dn [(0,.pv (zc zb a0)),(zp28 a1),(5,aI y5),(7,aI ((sll a0).length:Int)),(8,aI y5)] (sq (rg (s1 3 [(13,aI y5),(12,.pv (zc zb a0)),(11,.pv (.fn 137 [] [.ptr [.str a1] 0]))] ?_))))))))
   obtain ⟨x8,h9,hm⟩:=bs hm
   refine dv 14 (v:=.pv (.ptr (zb x8) 0)) (Qy zb a0 .i64 t28 t84 h9 rfl (by kernel_rfl)) (by kernel_rfl) (s1 1 [(15,.agg (zc4 x8))] ?_)
   obtain ⟨x10,h11,hm⟩:=bs hm
   refine dv 16 (zF (by kernel_rfl) (afV h11) (by kernel_rfl) (by kernel_rfl) (by kernel_rfl)) (by kernel_rfl) (fin [(0,.pv (zc zb a0)),(zp28 a1),(5,aI y5),(7,aI ((sll a0).length:Int)),(8,aI y5),(16,aB x10)] rfl (by kernel_rfl) ?_)
   rcases zf hm with ⟨h12,hm⟩ | ⟨h12,hm⟩
   ·
    refine c1 h12 (sq (dn [(4,aI y5)] (wp_ret ?_)))
    obtain rfl:=Option.some.inj hm
    exact ⟨trivial,by kernel_rfl⟩
   ·
    refine c0 h12 (wp_skip (dn [(0,.pv (zc zb a0)),(zp28 a1),(7,aI ((sll a0).length:Int)),(8,aI (IntKind.wrap .i64 (y5+1)))] ?_))
    exact ⟨_,_,qd [(0,.pv (zc zb a0)),(zp28 a1),(7,aI ((sll a0).length:Int)),(8,aI (IntKind.wrap .i64 (y5+1)))] [] (by kernel_rfl),⟨(IntKind.wrap .i64 (y5+1)),hm,rfl,rfl⟩⟩
  ·
   refine c0 h7 (wp_exit ?_)
   exact ⟨y5,(decide (y5 < ((sll a0).length:Int))),hm,rfl,rfl⟩
theorem aca {n:Nat} {a0:(Option (List ZT))} {r:(Option (List ZT))} (hm:qV n a0=some r):
    call G n 138 [.pv (zc zQ a0)] []=some (.ret (.pv (zc zQ r)),[]):=by
  unfold qV at hm
  obtain ⟨n,rfl,h0⟩:=zp hm
  replace hm:=h0; clear h0
  refine Zt 8 [(0,.pv (zc zQ a0))] func138 rfl (by kernel_rfl) (sq (dn [(0,.pv (zc zQ a0))] (sq (sq (rg (s1 1 [(3,.pv (zc zQ a0))] (dv 4 (v:=aB (a0.isNone)) (alv zQ a0 t82 (by kernel_rfl)) (by kernel_rfl) (fin [(0,.pv (zc zQ a0)),(4,aB (a0.isNone))] rfl (by kernel_rfl) ?_))))))))
  rcases zf hm with ⟨h1,hm⟩ | ⟨h1,hm⟩
  ·
   refine c1 h1 (sq (dn [(2,.pv .nils)] (wp_ret ?_)))
   obtain rfl:=Option.some.inj hm
   exact ⟨trivial,by kernel_rfl⟩
  ·
   refine c0 h1 (wp_skip (sq (rg (st 2 [(6,.pv (zc zQ a0)),(5,aR 0 2 0)] [bR 81 2 zQ ([]:List ZT) 0 0] (by kernel_rfl) ?_))))
   rcases zf hm with ⟨h2,hm⟩ | ⟨h2,hm⟩
   ·
    obtain ⟨_,h3,hm⟩:=bs hm
    refine dv 7 (v:=aR 0 2 0) (adu (u:=0) (y:=.pv (zc zQ a0)) (n:=0) (id:=0) zQ ([]:List ZT) (sll a0) (b:=24) t82 t81 rfl rfl rfl h2 h3 rfl (by first | rfl | assumption | omega | (simp only [List.length_set,List.length_append,List.length_cons,List.length_nil,List.length_replicate,List.length_drop] at * <;> omega)) (Nat.zero_le _) (ada (R:=zQ) (s:=a0)) (by kernel_rfl)) (by kernel_rfl) (fq 1 [(2,aR 0 2 0)] (wp_ret ?_))
    obtain rfl:=Option.some.inj hm
    exact adz (v:=aR 0 2 0) trivial rfl (by kernel_rfl) (by kernel_rfl)
   ·
    obtain ⟨_,h4,hm⟩:=bs hm
    refine dO [(7,aR 0 2 ((([]:List ZT)++(sll a0)).length))] [bR 81 2 zQ (([]:List ZT)++(sll a0)) 0 0] (Qp (u:=0) (n:=0) (id:=0) zQ ([]:List ZT) (sll a0) (b:=24) t82 t81 rfl rfl rfl (fun _=>rfl) h2 h4 rfl (by first | rfl | assumption | omega | (simp only [List.length_set,List.length_append,List.length_cons,List.length_nil,List.length_replicate,List.length_drop] at * <;> omega)) (Nat.zero_le _) (ada (R:=zQ) (s:=a0)) (by kernel_rfl)) (by kernel_rfl) (fq 1 [(2,aR 0 2 ((([]:List ZT)++(sll a0)).length))] (wp_ret ?_))
    obtain rfl:=Option.some.inj hm
    exact adz (v:=aR 0 2 ((([]:List ZT)++(sll a0)).length)) trivial rfl (by kernel_rfl) (aho (ack (n:=(([]:List ZT)++(sll a0)).length) (id:=0) (l:=(([]:List ZT)++(sll a0))) (R:=zQ) rfl rfl (Nat.zero_le _)))
abbrev zg47 (p0:ByteArray) (p1:(Option (List ZT))):=([(zk.mk p0 p1)]:List zk)
theorem adZ {n:Nat} {a0:(Option (List zk))} {a1:ByteArray} {r:(Option (List zk))} (hm:abc n a0 a1=some r):
    ∃ vv H1,call G n 135 [aS a1,.ptr 0 0,.ptr 1 0] [.box [.pv (zc zb a0)] false,.box [.pv .nils] false]=some (.ret vv,H1)∧(match (generalizing:=false) r with | none=>(vv=aI 40∧H1=[.box [.pv (zc zb a0)] false,.box [.pv .nils] false]) | some r0=>(vv=aI 0∧H1=[.box [.pv (zc zb a0)] false,.box [aR 2 2 r0.length] false,bR 84 2 zb r0 0 0])):=by
  unfold abc at hm
  obtain ⟨n,rfl,h0⟩:=zp hm
  replace hm:=h0; clear h0
  refine Qh 22 [(0,aS a1),(1,.ptr 0 0),(2,.ptr 1 0)] func135 rfl (by kernel_rfl) (sq (det [(1,.ptr 0 0),(2,.ptr 1 0),(3,.ptr 2 0)] [.box [.pv (zc zb a0)] false,.box [.pv .nils] false,.box [aS a1] false] (by kernel_rfl) (sq (rg (s1 2 [(7,.fn 137 [] [.ptr 2 0]),(6,.pv (zc zb a0))] ?_)))))
  obtain ⟨x1,h2,hm⟩:=bs hm
  refine dO [(8,aI x1)] [.box [.pv (zc zb a0)] false,.box [.pv .nils] false,.box [aS a1] false] (adv [2] [.pv (zc zb a0),.fn 137 [] [.ptr 2 0]] (fl:=true) (by kernel_rfl) (by kernel_rfl) (by kernel_rfl) (qN h2) (by kernel_rfl) (by kernel_rfl)) (by kernel_rfl) (fq 1 [(1,.ptr 0 0),(2,.ptr 1 0),(3,.ptr 2 0),(5,aI x1)] ?_)
  refine sq (sq (dn [(1,.ptr 0 0),(2,.ptr 1 0),(3,.ptr 2 0),(5,aI x1),(10,aB (decide (x1 < 0)))] ?_))
  rcases zf hm with ⟨h3,hm⟩ | ⟨h3,hm⟩
  ·
   refine c1 h3 (sq (dn [(4,aI 40)] (wp_ret ?_)))
   obtain rfl:=Option.some.inj hm
   exact ⟨trivial,aI 40,[.box [.pv (zc zb a0)] false,.box [.pv .nils] false],by kernel_rfl,rfl,rfl⟩
  ·
   refine c0 h3 (wp_skip (sq (rgd (shd 4 [(14,aI x1),(13,.pv (zc zb a0)),(12,aS a1),(11,.pv .nils)] (by kernel_rfl) ?_))))
   obtain ⟨x4,h5,hm⟩:=bs hm
   refine dvd 15 (v:=.pv (.ptr (zb x4) 0)) (Qy zb a0 .i64 t28 t84 h5 rfl (by kernel_rfl)) (by kernel_rfl) (shd 2 [(17,.pv (zc zQ x4.fCols)),(16,.pv (.ptr (zb x4) 1))] (by kernel_rfl) ?_)
   obtain ⟨x6,h7,hm⟩:=bs hm
   refine dvd 18 (zF (by kernel_rfl) (aca h7) (by kernel_rfl) (by kernel_rfl) (by kernel_rfl)) (by kernel_rfl) (std 2 [(20,aR 3 2 1),(19,.agg [aS a1,.pv (zc zQ x6)])] [.box [.pv (zc zb a0)] false,.box [.pv .nils] false,.box [aS a1] false,bR 84 2 zb (zg47 a1 x6) 0 0] (by kernel_rfl) ?_)
   obtain ⟨_,h8,hm⟩:=bs hm
   refine dOd [(21,aR 4 2 (([(zk.mk a1 x6)]:List zk).length))] [.box [.pv (zc zb a0)] false,.box [.pv .nils] false,.box [aS a1] false,bR 84 2 zb (zg47 a1 x6) 0 0,bR 84 2 zb (zg47 a1 x6) 0 0] (aey (u:=0) zb (zg47 a1 x6) (b:=40) t28 t84 rfl rfl rfl (fun _=>rfl) rfl h8 (show ZE (aR 3 2 1) _=some (([(zk.mk a1 x6)]:List zk).map zb) from by kernel_rfl) (by kernel_rfl)) (by kernel_rfl) (std 1 [] [.box [.pv (zc zb a0)] false,.box [aR 4 2 (([(zk.mk a1 x6)]:List zk).length)] false,.box [aS a1] false,bR 84 2 zb (zg47 a1 x6) 0 0,bR 84 2 zb (zg47 a1 x6) 0 0] (by kernel_rfl) (find [] rfl (by kernel_rfl) (by kernel_rfl) (sq (dn [(4,aI 0)] (wp_ret ?_)))))
   obtain rfl:=Option.some.inj hm
   exact ⟨trivial,aI 0,[.box [.pv (zc zb a0)] false,.box [aR 2 2 (([(zk.mk a1 x6)]:List zk).length)] false,bR 84 2 zb (zg47 a1 x6) 0 0],by kernel_rfl,rfl,rfl⟩
theorem afY (m2:Nat) (f2:Nat) {n:Nat} {a0:(List zk)} {a1:(Option (List zk))} {a2:ByteArray} {r:(List zk) × Int} (hm2:a0.length=m2) (hf2:f2≤a0.length) (hm:aak n a0 a1 a2=some r):
    ∃ vv H1,call G n 135 [aS a2,.ptr 0 0,.ptr 1 0] [.box [.pv (zc zb a1)] false,.box [aR 2 2 m2] false,bR 84 2 zb a0 f2 0]=some (.ret vv,H1)∧(match (generalizing:=false) r with | (r0,r1)=>(∃ (e2:Nat) (e3:Nat),r0.length=e2∧e3≤r0.length∧vv=aI r1∧H1=[.box [.pv (zc zb a1)] false,.box [aR 2 2 e2] false,bR 84 2 zb r0 e3 0])):=by
  unfold aak at hm
  obtain ⟨n,rfl,h0⟩:=zp hm
  replace hm:=h0; clear h0
  refine Qh 22 [(0,aS a2),(1,.ptr 0 0),(2,.ptr 1 0)] func135 rfl (by kernel_rfl) (sq (det [(1,.ptr 0 0),(2,.ptr 1 0),(3,.ptr 3 0)] [.box [.pv (zc zb a1)] false,.box [aR 2 2 m2] false,bR 84 2 zb a0 f2 0,.box [aS a2] false] (by kernel_rfl) (sq (rg (s1 2 [(7,.fn 137 [] [.ptr 3 0]),(6,.pv (zc zb a1))] ?_)))))
  obtain ⟨x1,h2,hm⟩:=bs hm
  refine dO [(8,aI x1)] [.box [.pv (zc zb a1)] false,.box [aR 2 2 m2] false,bR 84 2 zb a0 f2 0,.box [aS a2] false] (adv [3] [.pv (zc zb a1),.fn 137 [] [.ptr 3 0]] (fl:=true) (by kernel_rfl) (by kernel_rfl) (by kernel_rfl) (qN h2) (by kernel_rfl) (by kernel_rfl)) (by kernel_rfl) (fq 1 [(1,.ptr 0 0),(2,.ptr 1 0),(3,.ptr 3 0),(5,aI x1)] ?_)
  refine sq (sq (dn [(1,.ptr 0 0),(2,.ptr 1 0),(3,.ptr 3 0),(5,aI x1),(10,aB (decide (x1 < 0)))] ?_))
  rcases zf hm with ⟨h3,hm⟩ | ⟨h3,hm⟩
  ·
   refine c1 h3 (sq (dn [(4,aI 40)] (wp_ret ?_)))
   obtain rfl:=Option.some.inj hm
   exact ⟨trivial,aI 40,[.box [.pv (zc zb a1)] false,.box [aR 2 2 m2] false,bR 84 2 zb a0 f2 0],by kernel_rfl,m2,f2,(by first | rfl | assumption | omega | (simp only [List.length_set,List.length_append,List.length_cons,List.length_nil,List.length_replicate,List.length_drop] at * <;> omega)),(by first | exact Nat.zero_le _ | exact Nat.le_refl _ | assumption | omega | (simp only [List.length_set,List.length_append,List.length_cons,List.length_nil,List.length_replicate,List.length_drop] at * <;> omega)),rfl,rfl⟩
  ·
   refine c0 h3 (wp_skip (sq (rgd (shd 4 [(14,aI x1),(13,.pv (zc zb a1)),(12,aS a2),(11,aR 2 2 m2)] (by kernel_rfl) ?_))))
   obtain ⟨x4,h5,hm⟩:=bs hm
   refine dvd 15 (v:=.pv (.ptr (zb x4) 0)) (Qy zb a1 .i64 t28 t84 h5 rfl (by kernel_rfl)) (by kernel_rfl) (shd 2 [(17,.pv (zc zQ x4.fCols)),(16,.pv (.ptr (zb x4) 1))] (by kernel_rfl) ?_)
   obtain ⟨x6,h7,hm⟩:=bs hm
   refine dvd 18 (zF (by kernel_rfl) (aca h7) (by kernel_rfl) (by kernel_rfl) (by kernel_rfl)) (by kernel_rfl) (std 2 [(20,aR 4 2 1),(19,.agg [aS a2,.pv (zc zQ x6)])] [.box [.pv (zc zb a1)] false,.box [aR 2 2 m2] false,bR 84 2 zb a0 f2 0,.box [aS a2] false,bR 84 2 zb (zg47 a2 x6) 0 0] (by kernel_rfl) ?_)
   obtain ⟨_,h8,hm⟩:=bs hm
   refine dOd [(21,aR 2 2 ((a0++([(zk.mk a2 x6)]:List zk)).length))] [.box [.pv (zc zb a1)] false,.box [aR 2 2 m2] false,bR 84 2 zb (a0++([(zk.mk a2 x6)]:List zk)) f2 0,.box [aS a2] false,bR 84 2 zb (zg47 a2 x6) 0 0] (Qp (u:=0) (n:=m2) (id:=2) zb a0 (zg47 a2 x6) (b:=40) t28 t84 rfl rfl rfl (fun _=>rfl) rfl h8 rfl (by omega) (by omega) (show ZE (aR 4 2 1) _=some (([(zk.mk a2 x6)]:List zk).map zb) from by kernel_rfl) (by kernel_rfl)) (by kernel_rfl) (std 1 [] [.box [.pv (zc zb a1)] false,.box [aR 2 2 ((a0++([(zk.mk a2 x6)]:List zk)).length)] false,bR 84 2 zb (a0++([(zk.mk a2 x6)]:List zk)) f2 0,.box [aS a2] false,bR 84 2 zb (zg47 a2 x6) 0 0] (by kernel_rfl) (find [] rfl (by kernel_rfl) (by kernel_rfl) (sq (dn [(4,aI 0)] (wp_ret ?_)))))
   obtain rfl:=Option.some.inj hm
   exact ⟨trivial,aI 0,[.box [.pv (zc zb a1)] false,.box [aR 2 2 ((a0++([(zk.mk a2 x6)]:List zk)).length)] false,bR 84 2 zb (a0++([(zk.mk a2 x6)]:List zk)) f2 0],by kernel_rfl,(a0++([(zk.mk a2 x6)]:List zk)).length,f2,(by first | rfl | assumption | omega | (simp only [List.length_set,List.length_append,List.length_cons,List.length_nil,List.length_replicate,List.length_drop] at * <;> omega)),(by first | exact Nat.zero_le _ | exact Nat.le_refl _ | assumption | omega | (simp only [List.length_set,List.length_append,List.length_cons,List.length_nil,List.length_replicate,List.length_drop] at * <;> omega)),rfl,rfl⟩
theorem QC {n:Nat} {a0:(Option (List zk))} {a1:(Option (List ByteArray))} {r:(Option (List zk)) × Int} (hm:ZW n a0 a1=some r):
    ∃ vv H1,call G n 134 [.pv (zc rS a1),.fn 135 [] [.ptr 0 0,.ptr 1 0]] [.box [.pv (zc zb a0)] false,.box [.pv .nils] false]=some (.ret vv,H1)∧(match (generalizing:=false) r with | (none,r0)=>(vv=aI r0∧H1=[.box [.pv (zc zb a0)] false,.box [.pv .nils] false]) | (some r1,r0)=>(∃ (e2:Nat) (e3:Nat),r1.length=e2∧e3≤r1.length∧vv=aI r0∧H1=[.box [.pv (zc zb a0)] false,.box [aR 2 2 e2] false,bR 84 2 zb r1 e3 0])):=by
  unfold ZW at hm
  obtain ⟨n,rfl,h0⟩:=zp hm
  replace hm:=h0; clear h0
  refine Qh 21 [(0,.pv (zc rS a1)),(1,.fn 135 [] [.ptr 0 0,.ptr 1 0])] func134 rfl (by kernel_rfl) (sq (dn [(0,.pv (zc rS a1)),(1,.fn 135 [] [.ptr 0 0,.ptr 1 0])] ?_))
  obtain ⟨k8,hk8,hm⟩:=zw hm
  refine mid (fun t H=>(∃ (w1:AV) (w2:AV),k8 none=some r∧t=mk 21 [(1,.fn 135 [] [.ptr 0 0,.ptr 1 0]),(8,.pv (zc rS a1)),(9,aI ((sll a1).length:Int)),(10,w1),(11,w2)]∧H=[.box [.pv (zc zb a0)] false,.box [.pv .nils] false])∨(∃ (y3:(List zk)) (w1:AV) (w2:AV) (g4:Nat) (g6:Nat),k8 (some y3)=some r∧t=mk 21 [(1,.fn 135 [] [.ptr 0 0,.ptr 1 0]),(8,.pv (zc rS a1)),(9,aI ((sll a1).length:Int)),(10,w1),(11,w2)]∧H=[.box [.pv (zc zb a0)] false,.box [aR 2 2 g4] false,bR 84 2 zb y3 g6 0]∧y3.length=g4∧g6≤y3.length)) ?_ ?_
  ·
   rintro _ _ (⟨w1,w2,hm,rfl,rfl⟩ | ⟨y3,w1,w2,g4,g6,hm,rfl,rfl,q5,q7⟩)
   ·
    subst hk8
    refine sq (dn [(4,aI 0)] (wp_ret ?_))
    obtain rfl:=Option.some.inj hm
    exact ⟨trivial,aI 0,[.box [.pv (zc zb a0)] false,.box [.pv .nils] false],by kernel_rfl,rfl,rfl⟩
   ·
    subst hk8
    refine sq (dn [(4,aI 0)] (wp_ret ?_))
    obtain rfl:=Option.some.inj hm
    exact ⟨trivial,aI 0,[.box [.pv (zc zb a0)] false,.box [aR 2 2 g4] false,bR 84 2 zb y3 g6 0],by kernel_rfl,g4,g6,(by first | rfl | assumption | omega | (simp only [List.length_set,List.length_append,List.length_cons,List.length_nil,List.length_replicate,List.length_drop] at * <;> omega)),(by first | exact Nat.zero_le _ | exact Nat.le_refl _ | assumption | omega | (simp only [List.length_set,List.length_append,List.length_cons,List.length_nil,List.length_replicate,List.length_drop] at * <;> omega)),rfl,rfl⟩
  refine sq (rg (s1 1 [(8,.pv (zc rS a1))] (dv 9 (v:=aI ((sll a1).length:Int)) (zC rS a1 t22 (by kernel_rfl)) (by kernel_rfl) (fq 1 [(1,.fn 135 [] [.ptr 0 0,.ptr 1 0]),(8,.pv (zc rS a1)),(9,aI ((sll a1).length:Int)),(10,aI 0)] (bq ?_)))))
  refine qR (fun mm t H=>(∃ (y17:Int),zy n a0 a1 k8 mm none y17=some r∧t=mk 21 [(1,.fn 135 [] [.ptr 0 0,.ptr 1 0]),(8,.pv (zc rS a1)),(9,aI ((sll a1).length:Int)),(10,aI y17)]∧H=[.box [.pv (zc zb a0)] false,.box [.pv .nils] false])∨(∃ (y16:(List zk)) (y17:Int) (g18:Nat) (g20:Nat),zy n a0 a1 k8 mm (some y16) y17=some r∧t=mk 21 [(1,.fn 135 [] [.ptr 0 0,.ptr 1 0]),(8,.pv (zc rS a1)),(9,aI ((sll a1).length:Int)),(10,aI y17)]∧H=[.box [.pv (zc zb a0)] false,.box [aR 2 2 g18] false,bR 84 2 zb y16 g20 0]∧y16.length=g18∧g20≤y16.length)) (.inl ⟨0,hm,rfl,rfl⟩) ?_ ?_
  · rintro _ _ (⟨y17,hm,_⟩ | ⟨y16,y17,g18,g20,hm,_⟩) <;> exact nomatch hm
  rintro m22 _ _ (⟨y17,hm,rfl,rfl⟩ | ⟨y16,y17,g18,g20,hm,rfl,rfl,q19,q21⟩)
  ·
   simp only [zy] at hm
   refine sq (dn [(1,.fn 135 [] [.ptr 0 0,.ptr 1 0]),(8,.pv (zc rS a1)),(9,aI ((sll a1).length:Int)),(10,aI y17),(11,aB (decide (y17 < ((sll a1).length:Int))))] ?_)
   refine sq ?_
   rcases zf hm with ⟨h23,hm⟩ | ⟨h23,hm⟩
   ·
    refine c1 h23 (wp_skip (sq (bq (sq (rg ?_)))))
    obtain ⟨x24,h25,hm⟩:=bs hm
    refine dv 12 (v:=.pv (.ptr (rS x24) 0)) (Qy rS a1 .i64 t22 t9 h25 rfl (by kernel_rfl)) (by kernel_rfl) (fq 2 [(1,.fn 135 [] [.ptr 0 0,.ptr 1 0]),(6,aS x24),(8,.pv (zc rS a1)),(9,aI ((sll a1).length:Int)),(10,aI y17)] (sq (rg (s1 2 [(15,aS x24),(14,.fn 135 [] [.ptr 0 0,.ptr 1 0])] ?_))))
    obtain ⟨x28,h26,hm⟩:=bs hm
    rcases x28 with _ | x27
    ·
     obtain ⟨vv,H1,hC,rfl,rfl⟩:=adZ h26
     refine dR [(16,aI 40)] [.box [.pv (zc zb a0)] false,.box [.pv .nils] false] [0,1] [aS x24,.ptr 0 0,.ptr 1 0] (by kernel_rfl) (by kernel_rfl) (by kernel_rfl) hC (by kernel_rfl) (fq 1 [(1,.fn 135 [] [.ptr 0 0,.ptr 1 0]),(7,aI 40),(8,.pv (zc rS a1)),(9,aI ((sll a1).length:Int)),(10,aI y17)] (sq (dn [(1,.fn 135 [] [.ptr 0 0,.ptr 1 0]),(7,aI 40),(8,.pv (zc rS a1)),(9,aI ((sll a1).length:Int)),(10,aI y17),(18,aB true)] (cT (by kernel_rfl) (sq (dn [(4,aI 40)] (wp_ret ?_)))))))
     obtain rfl:=Option.some.inj hm
     exact ⟨trivial,aI 40,[.box [.pv (zc zb a0)] false,.box [.pv .nils] false],by kernel_rfl,rfl,rfl⟩
    ·
     obtain ⟨vv,H1,hC,rfl,rfl⟩:=adZ h26
     refine dR [(16,aI 0)] [.box [.pv (zc zb a0)] false,.box [aR 2 2 x27.length] false,bR 84 2 zb x27 0 0] [0,1] [aS x24,.ptr 0 0,.ptr 1 0] (by kernel_rfl) (by kernel_rfl) (by kernel_rfl) hC (by kernel_rfl) (fq 1 [(1,.fn 135 [] [.ptr 0 0,.ptr 1 0]),(7,aI 0),(8,.pv (zc rS a1)),(9,aI ((sll a1).length:Int)),(10,aI y17)] (sq (dn [(1,.fn 135 [] [.ptr 0 0,.ptr 1 0]),(7,aI 0),(8,.pv (zc rS a1)),(9,aI ((sll a1).length:Int)),(10,aI y17),(18,aB false)] (cF (by kernel_rfl) (wp_skip (dn [(1,.fn 135 [] [.ptr 0 0,.ptr 1 0]),(8,.pv (zc rS a1)),(9,aI ((sll a1).length:Int)),(10,aI (IntKind.wrap .i64 (y17+1)))] ?_))))))
     exact ⟨_,_,qd [(1,.fn 135 [] [.ptr 0 0,.ptr 1 0]),(8,.pv (zc rS a1)),(9,aI ((sll a1).length:Int)),(10,aI (IntKind.wrap .i64 (y17+1)))] [.box [.pv (zc zb a0)] false,.box [aR 2 2 x27.length] false,bR 84 2 zb x27 0 0] (by kernel_rfl),.inr (⟨x27,(IntKind.wrap .i64 (y17+1)),x27.length,0,hm,rfl,rfl,(by first | rfl | assumption | omega | (simp only [List.length_set,List.length_append,List.length_cons,List.length_nil,List.length_replicate,List.length_drop] at * <;> omega)),(by first | exact Nat.zero_le _ | exact Nat.le_refl _ | assumption | omega | (simp only [List.length_set,List.length_append,List.length_cons,List.length_nil,List.length_replicate,List.length_drop] at * <;> omega))⟩)⟩
   ·
    refine c0 h23 (wp_exit ?_)
    exact .inl ⟨aI y17,aB (decide (y17 < ((sll a1).length:Int))),hm,(zJ (by kernel_rfl)),rfl⟩
  ·
   simp only [zy] at hm
   refine sq (dn [(1,.fn 135 [] [.ptr 0 0,.ptr 1 0]),(8,.pv (zc rS a1)),(9,aI ((sll a1).length:Int)),(10,aI y17),(11,aB (decide (y17 < ((sll a1).length:Int))))] ?_)
   refine sq ?_
   rcases zf hm with ⟨h29,hm⟩ | ⟨h29,hm⟩
   ·
    refine c1 h29 (wp_skip (sq (bq (sq (rg ?_)))))
    obtain ⟨x30,h31,hm⟩:=bs hm
    refine dv 12 (v:=.pv (.ptr (rS x30) 0)) (Qy rS a1 .i64 t22 t9 h31 rfl (by kernel_rfl)) (by kernel_rfl) (fq 2 [(1,.fn 135 [] [.ptr 0 0,.ptr 1 0]),(6,aS x30),(8,.pv (zc rS a1)),(9,aI ((sll a1).length:Int)),(10,aI y17)] (sq (rg (s1 2 [(15,aS x30),(14,.fn 135 [] [.ptr 0 0,.ptr 1 0])] ?_))))
    obtain ⟨⟨x33,x34⟩,h32,hm⟩:=bs hm
    obtain ⟨vv,H1,hC,g35,g36,q37,q38,rfl,rfl⟩:=afY g18 g20 (by first | rfl | assumption | omega | (simp only [List.length_set,List.length_append,List.length_cons,List.length_nil,List.length_replicate,List.length_drop] at * <;> omega)) (by first | exact Nat.zero_le _ | exact Nat.le_refl _ | assumption | omega | (simp only [List.length_set,List.length_append,List.length_cons,List.length_nil,List.length_replicate,List.length_drop] at * <;> omega)) h32
    refine dR [(16,aI x34)] [.box [.pv (zc zb a0)] false,.box [aR 2 2 g35] false,bR 84 2 zb x33 g36 0] [0,1,2] [aS x30,.ptr 0 0,.ptr 1 0] (by kernel_rfl) (by kernel_rfl) (by kernel_rfl) hC (by kernel_rfl) (fq 1 [(1,.fn 135 [] [.ptr 0 0,.ptr 1 0]),(7,aI x34),(8,.pv (zc rS a1)),(9,aI ((sll a1).length:Int)),(10,aI y17)] (sq (dn [(1,.fn 135 [] [.ptr 0 0,.ptr 1 0]),(7,aI x34),(8,.pv (zc rS a1)),(9,aI ((sll a1).length:Int)),(10,aI y17),(18,aB (x34 != 0))] ?_)))
    rcases zf hm with ⟨h39,hm⟩ | ⟨h39,hm⟩
    ·
     refine c1 h39 (sq (dn [(4,aI x34)] (wp_ret ?_)))
     obtain rfl:=Option.some.inj hm
     exact ⟨trivial,aI x34,[.box [.pv (zc zb a0)] false,.box [aR 2 2 g35] false,bR 84 2 zb x33 g36 0],by kernel_rfl,g35,g36,(by first | rfl | assumption | omega | (simp only [List.length_set,List.length_append,List.length_cons,List.length_nil,List.length_replicate,List.length_drop] at * <;> omega)),(by first | exact Nat.zero_le _ | exact Nat.le_refl _ | assumption | omega | (simp only [List.length_set,List.length_append,List.length_cons,List.length_nil,List.length_replicate,List.length_drop] at * <;> omega)),rfl,rfl⟩
    ·
     refine c0 h39 (wp_skip (dn [(1,.fn 135 [] [.ptr 0 0,.ptr 1 0]),(8,.pv (zc rS a1)),(9,aI ((sll a1).length:Int)),(10,aI (IntKind.wrap .i64 (y17+1)))] ?_))
     exact ⟨_,_,qd [(1,.fn 135 [] [.ptr 0 0,.ptr 1 0]),(8,.pv (zc rS a1)),(9,aI ((sll a1).length:Int)),(10,aI (IntKind.wrap .i64 (y17+1)))] [.box [.pv (zc zb a0)] false,.box [aR 2 2 g35] false,bR 84 2 zb x33 g36 0] (by kernel_rfl),.inr (⟨x33,(IntKind.wrap .i64 (y17+1)),g35,g36,hm,rfl,rfl,(by first | rfl | assumption | omega | (simp only [List.length_set,List.length_append,List.length_cons,List.length_nil,List.length_replicate,List.length_drop] at * <;> omega)),(by first | exact Nat.zero_le _ | exact Nat.le_refl _ | assumption | omega | (simp only [List.length_set,List.length_append,List.length_cons,List.length_nil,List.length_replicate,List.length_drop] at * <;> omega))⟩)⟩
   ·
    refine c0 h29 (wp_exit ?_)
    exact .inr (⟨y16,aI y17,aB (decide (y17 < ((sll a1).length:Int))),g18,g20,hm,(zJ (by kernel_rfl)),rfl,(by first | rfl | assumption | omega | (simp only [List.length_set,List.length_append,List.length_cons,List.length_nil,List.length_replicate,List.length_drop] at * <;> omega)),(by first | exact Nat.zero_le _ | exact Nat.le_refl _ | assumption | omega | (simp only [List.length_set,List.length_append,List.length_cons,List.length_nil,List.length_replicate,List.length_drop] at * <;> omega))⟩)
theorem ah1 {n:Nat} {a0:zx} {a1:(Option (List zk))} {r:(Option (List zk)) × Int} (hm:aaw n a0 a1=some r):
    call G n 47 [.agg (zc0 a0),.pv (zc zb a1)] []=some (.ret (.tup [.pv (zc zb r.1),aI r.2]),[]):=by
  unfold aaw at hm
  obtain ⟨n,rfl,h0⟩:=zp hm
  replace hm:=h0; clear h0
  refine Zt 26 [(0,.agg (zc0 a0)),(1,.pv (zc zb a1))] func47 rfl (by kernel_rfl) (sq (det [(2,.ptr 0 0),(3,.ptr 1 0)] [.box (zc0 a0) false,.box [.pv (zc zb a1)] false] (by kernel_rfl) ?_))
  refine sq (bq (sq (rg (s1 2 [(10,.pv (zc rS a0.fRels)),(9,.ptr 0 0)] (dv 11 (v:=aI ((sll a0.fRels).length:Int)) (zC rS a0.fRels t22 (by kernel_rfl)) (by kernel_rfl) (fq 2 [(2,.ptr 0 0),(3,.ptr 1 0),(8,aB (decide (((sll a0.fRels).length:Int) > 12)))] ?_))))))
  rcases zf hm with ⟨h1,hm⟩ | ⟨h1,hm⟩
  ·
   refine c1 h1 (sq (dn [(4,.pv .nils),(5,aI 51)] (wp_ret ?_)))
   obtain rfl:=Option.some.inj hm
   exact ⟨trivial,by kernel_rfl⟩
  ·
   refine c0 h1 (sq (rg (s1 2 [(15,.pv (zc rS a0.fRels)),(14,.ptr 0 0)] (dv 16 (v:=aI ((sll a0.fRels).length:Int)) (zC rS a0.fRels t22 (by kernel_rfl)) (by kernel_rfl) (fq 2 [(2,.ptr 0 0),(3,.ptr 1 0),(13,aB (((sll a0.fRels).length:Int) == 0))] ?_)))))
   rcases zf hm with ⟨h2,hm⟩ | ⟨h2,hm⟩
   ·
    refine c1 h2 (sq (dn [(4,.pv .nils),(5,aI 2)] (wp_ret ?_)))
    obtain rfl:=Option.some.inj hm
    exact ⟨trivial,by kernel_rfl⟩
   ·
    refine c0 h2 (wp_skip (sq (det [(2,.ptr 0 0),(3,.ptr 1 0),(6,.ptr 2 0)] [.box (zc0 a0) false,.box [.pv (zc zb a1)] false,.box [.pv .nils] false] (by kernel_rfl) ?_)))
    obtain ⟨k9,hk9,hm⟩:=zw hm
    refine mid (fun t H=>(∃ (y4:Int),k9 none y4=some r∧t=mk 26 [(6,.ptr 2 0),(7,aI y4)]∧H=[.box (zc0 a0) false,.box [.pv (zc zb a1)] false,.box [.pv .nils] false])∨(∃ (y3:(List zk)) (y4:Int) (g5:Nat) (g7:Nat),k9 (some y3) y4=some r∧t=mk 26 [(6,.ptr 2 0),(7,aI y4)]∧H=[.box (zc0 a0) false,.box [.pv (zc zb a1)] false,.box [aR 3 2 g5] false,bR 84 2 zb y3 g7 0]∧y3.length=g5∧g7≤y3.length)) ?_ ?_
    ·
     rintro _ _ (⟨y4,hm,rfl,rfl⟩ | ⟨y3,y4,g5,g7,hm,rfl,rfl,q6,q8⟩)
     ·
      subst hk9
      refine sq (sq (dn [(6,.ptr 2 0),(7,aI y4),(23,aB (y4 != 0))] ?_))
      rcases zf hm with ⟨h10,hm⟩ | ⟨h10,hm⟩
      ·
       refine c1 h10 (sq (dn [(4,.pv .nils),(5,aI y4)] (wp_ret ?_)))
       obtain rfl:=Option.some.inj hm
       exact ⟨trivial,by kernel_rfl⟩
      ·
       refine c0 h10 (wp_skip (sq (dn [(4,.pv .nils),(5,aI 0)] (wp_ret ?_))))
       obtain rfl:=Option.some.inj hm
       exact ⟨trivial,by kernel_rfl⟩
     ·
      subst hk9
      refine sq (sq (dn [(6,.ptr 2 0),(7,aI y4),(23,aB (y4 != 0))] ?_))
      rcases zf hm with ⟨h11,hm⟩ | ⟨h11,hm⟩
      ·
       refine c1 h11 (sq (dn [(4,.pv .nils),(5,aI y4)] (wp_ret ?_)))
       obtain rfl:=Option.some.inj hm
       exact ⟨trivial,by kernel_rfl⟩
      ·
       refine c0 h11 (wp_skip (sq (dn [(4,aR 3 2 g5),(5,aI 0)] (wp_ret ?_))))
       obtain rfl:=Option.some.inj hm
       exact adz (v:=.tup [aR 3 2 g5,aI 0]) trivial rfl (by kernel_rfl) (amG (qO (aho (ack (n:=g5) (id:=3) (l:=y3) (R:=zb) rfl (by omega) (by omega))) (qO (ai6) (rfl))))
    refine rg (s1 3 [(20,.fn 135 [] [.ptr 1 0,.ptr 2 0]),(19,.pv (zc rS a0.fRels)),(18,.ptr 0 0)] ?_)
    obtain ⟨x15,h12,hm⟩:=bs hm
    rcases x15 with ⟨_ | x13,x14⟩
    ·
     obtain ⟨vv,H1,hC,rfl,rfl⟩:=QC h12
     refine dR [(21,aI x14)] [.box (zc0 a0) false,.box [.pv (zc zb a1)] false,.box [.pv .nils] false] [1,2] [.pv (zc rS a0.fRels),.fn 135 [] [.ptr 1 0,.ptr 2 0]] (by kernel_rfl) (by kernel_rfl) (by kernel_rfl) hC (by kernel_rfl) (fq 1 [(6,.ptr 2 0),(7,aI x14)] ?_)
     exact .inl ⟨x14,hm,rfl,rfl⟩
    ·
     obtain ⟨vv,H1,hC,g16,g17,q18,q19,rfl,rfl⟩:=QC h12
     refine dR [(21,aI x14)] [.box (zc0 a0) false,.box [.pv (zc zb a1)] false,.box [aR 3 2 g16] false,bR 84 2 zb x13 g17 0] [1,2] [.pv (zc rS a0.fRels),.fn 135 [] [.ptr 1 0,.ptr 2 0]] (by kernel_rfl) (by kernel_rfl) (by kernel_rfl) hC (by kernel_rfl) (fq 1 [(6,.ptr 2 0),(7,aI x14)] ?_)
     exact .inr (⟨x13,x14,g16,g17,hm,rfl,rfl,(by first | rfl | assumption | omega | (simp only [List.length_set,List.length_append,List.length_cons,List.length_nil,List.length_replicate,List.length_drop] at * <;> omega)),(by first | exact Nat.zero_le _ | exact Nat.le_refl _ | assumption | omega | (simp only [List.length_set,List.length_append,List.length_cons,List.length_nil,List.length_replicate,List.length_drop] at * <;> omega))⟩)
theorem afG {n:Nat} {a0:zx} {r:Int} (hm:aa4 n a0=some r):
    call G n 45 [.agg (zc0 a0)] []=some (.ret (aI r),[]):=by
  unfold aa4 at hm
  obtain ⟨n,rfl,h0⟩:=zp hm
  replace hm:=h0; clear h0
  refine Zt 10 [(0,.agg (zc0 a0))] func45 rfl (by kernel_rfl) (sq (det [(1,.ptr 0 0)] [.box (zc0 a0) false] (by kernel_rfl) (sq (rg (s1 2 [(4,.pv (zc za a0.fOut)),(3,.ptr 0 3)] (dv 5 (v:=aI ((sll a0.fOut).length:Int)) (zC za a0.fOut t23 (by kernel_rfl)) (by kernel_rfl) (s1 2 [(7,.pv (zc zj a0.fAggs)),(6,.ptr 0 4)] (dv 8 (v:=aI ((sll a0.fAggs).length:Int)) (zC zj a0.fAggs t24 (by kernel_rfl)) (by kernel_rfl) (fq 2 [(2,aI (IntKind.wrap .i64 (((sll a0.fOut).length:Int)+((sll a0.fAggs).length:Int))))] (wp_ret ?_))))))))))
  obtain rfl:=Option.some.inj hm
  exact ⟨trivial,by kernel_rfl⟩
abbrev zc5 (p0:zK):List AV:=[aI p0.fKind,aI p0.fOf.fKind,aI p0.fOf.fRel,aI p0.fOf.fCol,aI p0.fOf.fConst.fKind,aI p0.fOf.fConst.fInt,aF p0.fOf.fConst.fFloat,aS p0.fOf.fConst.fText,.pv (zc za p0.fOf.fKids)]
theorem ag3 {n:Nat} {a0:zK} {r:Bool} (hm:acd n a0=some r):
    call G n 140 [.agg (zc5 a0)] []=some (.ret (aB r),[]):=by
  unfold acd at hm
  obtain ⟨n,rfl,h0⟩:=zp hm
  replace hm:=h0; clear h0
  refine Zt 11 [(0,.agg (zc5 a0))] func140 rfl (by kernel_rfl) (sq (det [(1,.ptr 0 0)] [.box (zc5 a0) false] (by kernel_rfl) (sq (rg (s1 4 [(6,aB (decide (a0.fKind < 1))),(5,aB (decide (a0.fKind < 1))),(4,aI a0.fKind),(3,.ptr 0 0)] ?_)))))
  refine segP (decide (a0.fKind < 1)) [6,5] (fun b=>[(10,aB (b || (decide (a0.fKind > 4)))),(9,ifA b (.undef) (aB (decide (a0.fKind > 4)))),(8,ifA b (.undef) (aI a0.fKind)),(7,ifA b (.undef) (.ptr 0 0))]) 4 (by kernel_rfl) (by kernel_rfl) (by kernel_rfl) (fq 1 [(2,aB ((decide (a0.fKind < 1)) || (decide (a0.fKind > 4))))] (wp_ret ?_))
  obtain rfl:=Option.some.inj hm
  exact ⟨trivial,by kernel_rfl⟩
abbrev zg48 (p0:Int) (p1:(Option (List zK))):=(decide (p0 < ((sll p1).length:Int)))
theorem aba {n:Nat} {a0:(Option (List zK))} {r:Int} (hm:Z5 n a0=some r):
    call G n 180 [.pv (zc zj a0),.pv (.fn 140 [] [])] []=some (.ret (aI r),[]):=by
  unfold Z5 at hm
  obtain ⟨n,rfl,h0⟩:=zp hm
  replace hm:=h0; clear h0
  refine Zt 19 [(0,.pv (zc zj a0)),(1,.pv (.fn 140 [] []))] func180 rfl (by kernel_rfl) (sq (dn [(0,.pv (zc zj a0)),(1,.pv (.fn 140 [] []))] ?_))
  obtain ⟨k3,hk3,hm⟩:=zw hm
  refine mid (fun t H=>(∃ (y1:Int) (y2:Bool),k3 ()=some r∧t=mk 19 [(0,.pv (zc zj a0)),(1,.pv (.fn 140 [] [])),(7,aI ((sll a0).length:Int)),(8,aI y1),(9,aB y2)]∧H=[])) ?_ ?_
  ·
   rintro _ _ ⟨y1,y2,hm,rfl,rfl⟩
   subst hk3
   refine sq (dn [(4,aI (-1))] (wp_ret ?_))
   obtain rfl:=Option.some.inj hm
   exact ⟨trivial,by kernel_rfl⟩
  refine sq (rg (s1 1 [(6,.pv (zc zj a0))] (dv 7 (v:=aI ((sll a0).length:Int)) (zC zj a0 t24 (by kernel_rfl)) (by kernel_rfl) (fq 1 [(0,.pv (zc zj a0)),(1,.pv (.fn 140 [] [])),(7,aI ((sll a0).length:Int)),(8,aI 0)] (bq ?_)))))
  refine qR (fun mm t H=>(∃ (y5:Int),Za n a0 k3 mm y5=some r∧t=mk 19 [(0,.pv (zc zj a0)),(1,.pv (.fn 140 [] [])),(7,aI ((sll a0).length:Int)),(8,aI y5)]∧H=[])) (⟨0,hm,rfl,rfl⟩) ?_ ?_
  · rintro _ _ ⟨y5,hm,_⟩; exact nomatch hm
  rintro m6 _ _ ⟨y5,hm,rfl,rfl⟩
  simp only [Za] at hm
  refine sq (dn [(0,.pv (zc zj a0)),(1,.pv (.fn 140 [] [])),(7,aI ((sll a0).length:Int)),(8,aI y5),(9,aB (zg48 y5 a0))] ?_)
  refine sq ?_
  rcases zf hm with ⟨h7,hm⟩ | ⟨h7,hm⟩
  ·
   refine c1 h7 (wp_skip (sq (bq (sq (dn [(0,.pv (zc zj a0)),(1,.pv (.fn 140 [] [])),(5,aI y5),(7,aI ((sll a0).length:Int)),(8,aI y5)] (sq (rg (s1 3 [(13,aI y5),(12,.pv (zc zj a0)),(11,.pv (.fn 140 [] []))] ?_))))))))
   obtain ⟨x8,h9,hm⟩:=bs hm
   refine dv 14 (v:=.pv (.ptr (zj x8) 0)) (Qy zj a0 .i64 t24 t101 h9 rfl (by kernel_rfl)) (by kernel_rfl) (s1 1 [(15,.agg (zc5 x8))] ?_)
   obtain ⟨x10,h11,hm⟩:=bs hm
   refine dv 16 (zF (by kernel_rfl) (ag3 h11) (by kernel_rfl) (by kernel_rfl) (by kernel_rfl)) (by kernel_rfl) (fin [(0,.pv (zc zj a0)),(1,.pv (.fn 140 [] [])),(5,aI y5),(7,aI ((sll a0).length:Int)),(8,aI y5),(16,aB x10)] rfl (by kernel_rfl) ?_)
   rcases zf hm with ⟨h12,hm⟩ | ⟨h12,hm⟩
   ·
    refine c1 h12 (sq (dn [(4,aI y5)] (wp_ret ?_)))
    obtain rfl:=Option.some.inj hm
    exact ⟨trivial,by kernel_rfl⟩
   ·
    refine c0 h12 (wp_skip (dn [(0,.pv (zc zj a0)),(1,.pv (.fn 140 [] [])),(7,aI ((sll a0).length:Int)),(8,aI (IntKind.wrap .i64 (y5+1)))] ?_))
    exact ⟨_,_,qd [(0,.pv (zc zj a0)),(1,.pv (.fn 140 [] [])),(7,aI ((sll a0).length:Int)),(8,aI (IntKind.wrap .i64 (y5+1)))] [] (by kernel_rfl),⟨(IntKind.wrap .i64 (y5+1)),hm,rfl,rfl⟩⟩
  ·
   refine c0 h7 (wp_exit ?_)
   exact ⟨y5,(zg48 y5 a0),hm,rfl,rfl⟩
theorem aaG {n:Nat} {a0:(Option (List zK))} {r:Bool} (hm:ZD n a0=some r):
    call G n 139 [.pv (zc zj a0),.pv (.fn 140 [] [])] []=some (.ret (aB r),[]):=by
  unfold ZD at hm
  obtain ⟨n,rfl,h0⟩:=zp hm
  replace hm:=h0; clear h0
  refine Zt 9 [(0,.pv (zc zj a0)),(1,.pv (.fn 140 [] []))] func139 rfl (by kernel_rfl) (sq (dn [(0,.pv (zc zj a0)),(1,.pv (.fn 140 [] []))] (sq (rg (s1 2 [(6,.pv (.fn 140 [] [])),(5,.pv (zc zj a0))] ?_)))))
  obtain ⟨x1,h2,hm⟩:=bs hm
  refine dv 7 (zF (by kernel_rfl) (aba h2) (by kernel_rfl) (by kernel_rfl) (by kernel_rfl)) (by kernel_rfl) (fq 2 [(4,aB (decide (x1≥0)))] (wp_ret ?_))
  obtain rfl:=Option.some.inj hm
  exact ⟨trivial,by kernel_rfl⟩
theorem agG {n:Nat} {a0:Zn} {a1:(Option (List ByteArray))} {a2:(Option (List zd))} {a3:Bool} {a4:(Option (List zd))} {a5:(Option (List zK))} {a6:(Option (List Zn))} {r:Bool} (hm:QK n a0 a1 a2 a3 a4 a5 a6=some r):
    call G n 142 [.agg [aI a0.fOut,aB a0.fDesc],.pv (.ptr [zc rS a1,zc za a2,.bool a3,zc za a4,zc zj a5,zc zn a6] 0)] []=some (.ret (aB r),[]):=by
  unfold QK at hm
  obtain ⟨n,rfl,h0⟩:=zp hm
  replace hm:=h0; clear h0
  refine Zt 14 [(0,.agg [aI a0.fOut,aB a0.fDesc]),(1,.pv (.ptr [zc rS a1,zc za a2,.bool a3,zc za a4,zc zj a5,zc zn a6] 0))] func142 rfl (by kernel_rfl) (sq (det [(1,.pv (.ptr [zc rS a1,zc za a2,.bool a3,zc za a4,zc zj a5,zc zn a6] 0)),(2,.ptr 0 0)] [.box [aI a0.fOut,aB a0.fDesc] false] (by kernel_rfl) (sq (rgd (shd 4 [(7,aB (decide (a0.fOut < 0))),(6,aB (decide (a0.fOut < 0))),(5,aI a0.fOut),(4,.ptr 0 0)] (by kernel_rfl) ?_)))))
  rcases zf hm with ⟨h1,hm⟩ | ⟨h1,hm⟩
  ·
   refine qj [7,6] h1 (by kernel_rfl) (shd 7 [(3,aB true),(13,aB true),(12,.undef),(11,.undef),(10,.undef),(9,.undef),(8,.undef)] (by kernel_rfl) (find [(3,aB true)] rfl (by kernel_rfl) (by kernel_rfl) (wp_ret ?_)))
   obtain rfl:=Option.some.inj hm
   exact ⟨trivial,by kernel_rfl⟩
  ·
   refine qj [7,6] h1 (by kernel_rfl) (shd 3 [(10,.agg [.pv (zc rS a1),.pv (zc za a2),aB a3,.pv (zc za a4),.pv (zc zj a5),.pv (zc zn a6)]),(9,aI a0.fOut),(8,.ptr 0 0)] (by kernel_rfl) ?_)
   obtain ⟨x2,h3,hm⟩:=bs hm
   refine dvd 11 (zF (by kernel_rfl) (afG h3) (by kernel_rfl) (by kernel_rfl) (by kernel_rfl)) (by kernel_rfl) (shd 3 [(3,aB (decide (a0.fOut≥x2))),(13,aB (decide (a0.fOut≥x2))),(12,aB (decide (a0.fOut≥x2)))] (by kernel_rfl) (find [(3,aB (decide (a0.fOut≥x2)))] rfl (by kernel_rfl) (by kernel_rfl) (wp_ret ?_)))
   obtain rfl:=Option.some.inj hm
   exact ⟨trivial,by kernel_rfl⟩
abbrev zp29 (p0:(Option (List ByteArray))) (p1:(Option (List zd))) (p2:Bool) (p3:(Option (List zd))) (p4:(Option (List zK))) (p5:(Option (List Zn))):Nat × AV:=(1,.pv (.fn 142 [] [.ptr [zc rS p0,zc za p1,.bool p2,zc za p3,zc zj p4,zc zn p5] 0]))
theorem abd {n:Nat} {a0:(Option (List Zn))} {a1:(Option (List ByteArray))} {a2:(Option (List zd))} {a3:Bool} {a4:(Option (List zd))} {a5:(Option (List zK))} {a6:(Option (List Zn))} {r:Int} (hm:Zg n a0 a1 a2 a3 a4 a5 a6=some r):
    call G n 181 [.pv (zc zn a0),.pv (.fn 142 [] [.ptr [zc rS a1,zc za a2,.bool a3,zc za a4,zc zj a5,zc zn a6] 0])] []=some (.ret (aI r),[]):=by
  unfold Zg at hm
  obtain ⟨n,rfl,h0⟩:=zp hm
  replace hm:=h0; clear h0
  refine Zt 19 [(0,.pv (zc zn a0)),(zp29 a1 a2 a3 a4 a5 a6)] func181 rfl (by kernel_rfl) (sq (dn [(0,.pv (zc zn a0)),(zp29 a1 a2 a3 a4 a5 a6)] ?_))
  obtain ⟨k3,hk3,hm⟩:=zw hm
  refine mid (fun t H=>(∃ (y1:Int) (y2:Bool),k3 ()=some r∧t=mk 19 [(0,.pv (zc zn a0)),(zp29 a1 a2 a3 a4 a5 a6),(7,aI ((sll a0).length:Int)),(8,aI y1),(9,aB y2)]∧H=[])) ?_ ?_
  ·
   rintro _ _ ⟨y1,y2,hm,rfl,rfl⟩
   subst hk3
   refine sq (dn [(4,aI (-1))] (wp_ret ?_))
   obtain rfl:=Option.some.inj hm
   exact ⟨trivial,by kernel_rfl⟩
  refine sq (rg (s1 1 [(6,.pv (zc zn a0))] (dv 7 (v:=aI ((sll a0).length:Int)) (zC zn a0 t25 (by kernel_rfl)) (by kernel_rfl) (fq 1 [(0,.pv (zc zn a0)),(zp29 a1 a2 a3 a4 a5 a6),(7,aI ((sll a0).length:Int)),(8,aI 0)] (bq ?_)))))
  refine qR (fun mm t H=>(∃ (y5:Int),zE n a0 a1 a2 a3 a4 a5 a6 k3 mm y5=some r∧t=mk 19 [(0,.pv (zc zn a0)),(zp29 a1 a2 a3 a4 a5 a6),(7,aI ((sll a0).length:Int)),(8,aI y5)]∧H=[])) (⟨0,hm,rfl,rfl⟩) ?_ ?_
  · rintro _ _ ⟨y5,hm,_⟩; exact nomatch hm
  rintro m6 _ _ ⟨y5,hm,rfl,rfl⟩
  simp only [zE] at hm
  refine sq (dn [(0,.pv (zc zn a0)),(zp29 a1 a2 a3 a4 a5 a6),(7,aI ((sll a0).length:Int)),(8,aI y5),(9,aB (decide (y5 < ((sll a0).length:Int))))] ?_)
  refine sq ?_
  rcases zf hm with ⟨h7,hm⟩ | ⟨h7,hm⟩
  ·
   refine c1 h7 (wp_skip (sq (bq (sq (dn [(0,.pv (zc zn a0)),(zp29 a1 a2 a3 a4 a5 a6),(5,aI y5),(7,aI ((sll a0).length:Int)),(8,aI y5)] (sq (rg (s1 3 [(13,aI y5),(12,.pv (zc zn a0)),(11,.pv (.fn 142 [] [.ptr [zc rS a1,zc za a2,.bool a3,zc za a4,zc zj a5,zc zn a6] 0]))] ?_))))))))
   obtain ⟨x8,h9,hm⟩:=bs hm
   refine dv 14 (v:=.pv (.ptr (zn x8) 0)) (Qy zn a0 .i64 t25 t86 h9 rfl (by kernel_rfl)) (by kernel_rfl) (s1 1 [(15,.agg [aI x8.fOut,aB x8.fDesc])] ?_)
   obtain ⟨x10,h11,hm⟩:=bs hm
   refine dv 16 (zF (by kernel_rfl) (agG h11) (by kernel_rfl) (by kernel_rfl) (by kernel_rfl)) (by kernel_rfl) (fin [(0,.pv (zc zn a0)),(zp29 a1 a2 a3 a4 a5 a6),(5,aI y5),(7,aI ((sll a0).length:Int)),(8,aI y5),(16,aB x10)] rfl (by kernel_rfl) ?_)
   rcases zf hm with ⟨h12,hm⟩ | ⟨h12,hm⟩
   ·
    refine c1 h12 (sq (dn [(4,aI y5)] (wp_ret ?_)))
    obtain rfl:=Option.some.inj hm
    exact ⟨trivial,by kernel_rfl⟩
   ·
    refine c0 h12 (wp_skip (dn [(0,.pv (zc zn a0)),(zp29 a1 a2 a3 a4 a5 a6),(7,aI ((sll a0).length:Int)),(8,aI (IntKind.wrap .i64 (y5+1)))] ?_))
    exact ⟨_,_,qd [(0,.pv (zc zn a0)),(zp29 a1 a2 a3 a4 a5 a6),(7,aI ((sll a0).length:Int)),(8,aI (IntKind.wrap .i64 (y5+1)))] [] (by kernel_rfl),⟨(IntKind.wrap .i64 (y5+1)),hm,rfl,rfl⟩⟩
  ·
   refine c0 h7 (wp_exit ?_)
   exact ⟨y5,(decide (y5 < ((sll a0).length:Int))),hm,rfl,rfl⟩
theorem aaH {n:Nat} {a0:(Option (List Zn))} {a1:(Option (List ByteArray))} {a2:(Option (List zd))} {a3:Bool} {a4:(Option (List zd))} {a5:(Option (List zK))} {a6:(Option (List Zn))} {r:Bool} (hm:zS n a0 a1 a2 a3 a4 a5 a6=some r):
    call G n 141 [.pv (zc zn a0),.pv (.fn 142 [] [.ptr [zc rS a1,zc za a2,.bool a3,zc za a4,zc zj a5,zc zn a6] 0])] []=some (.ret (aB r),[]):=by
  unfold zS at hm
  obtain ⟨n,rfl,h0⟩:=zp hm
  replace hm:=h0; clear h0
  refine Zt 9 [(0,.pv (zc zn a0)),(zp29 a1 a2 a3 a4 a5 a6)] func141 rfl (by kernel_rfl) (sq (dn [(0,.pv (zc zn a0)),(zp29 a1 a2 a3 a4 a5 a6)] (sq (rg (s1 2 [(6,.pv (.fn 142 [] [.ptr [zc rS a1,zc za a2,.bool a3,zc za a4,zc zj a5,zc zn a6] 0])),(5,.pv (zc zn a0))] ?_)))))
  obtain ⟨x1,h2,hm⟩:=bs hm
  refine dv 7 (zF (by kernel_rfl) (abd h2) (by kernel_rfl) (by kernel_rfl) (by kernel_rfl)) (by kernel_rfl) (fq 2 [(4,aB (decide (x1≥0)))] (wp_ret ?_))
  obtain rfl:=Option.some.inj hm
  exact ⟨trivial,by kernel_rfl⟩
abbrev zg49 (p0:zx):=(((decide (((sll p0.fWhere).length:Int) > 40)) || (decide (((sll p0.fOut).length:Int) > 20))) || (decide (((sll p0.fAggs).length:Int) > 10)))
theorem ahX {n:Nat} {a0:zx} {r:Bool} (hm:Q5 n a0=some r):
    call G n 48 [.agg (zc0 a0)] []=some (.ret (aB r),[]):=by
  unfold Q5 at hm
  obtain ⟨n,rfl,h0⟩:=zp hm
  replace hm:=h0; clear h0
  refine Zt 53 [(0,.agg (zc0 a0))] func48 rfl (by kernel_rfl) (sq (det [(1,.ptr 0 0)] [.box (zc0 a0) false] (by kernel_rfl) ?_))
  refine sq (sq (rg (s1 2 [(4,.pv (zg42 a0)),(3,.ptr 0 1)] (dv 5 (v:=aI ((sll a0.fWhere).length:Int)) (zC za a0.fWhere t23 (by kernel_rfl)) (by kernel_rfl) (s1 2 [(7,aB (decide (((sll a0.fWhere).length:Int) > 40))),(6,aB (decide (((sll a0.fWhere).length:Int) > 40)))] ?_)))))
  refine seg (decide (((sll a0.fWhere).length:Int) > 40)) [7,6] (fun b=>[(12,aB (b || (decide (((sll a0.fOut).length:Int) > 20)))),(11,ifA b (.undef) (aB (decide (((sll a0.fOut).length:Int) > 20)))),(10,ifA b (.undef) (aI ((sll a0.fOut).length:Int))),(9,ifA b (.undef) (.pv (zc za a0.fOut))),(8,ifA b (.undef) (.ptr 0 3))]) 10 (by kernel_rfl) ?_ ?_ ?_
  ·
   intro Q h
   refine s1 5 [(12,aB true),(11,.undef),(10,.undef),(9,.undef),(8,.undef)] ?_
   exact QS (by kernel_rfl) (by kernel_rfl) h
  ·
   intro Q h
   refine s1 2 [(9,.pv (zc za a0.fOut)),(8,.ptr 0 3)] (dv 10 (v:=aI ((sll a0.fOut).length:Int)) (zC za a0.fOut t23 (by kernel_rfl)) (by kernel_rfl) (s1 2 [(12,aB (decide (((sll a0.fOut).length:Int) > 20))),(11,aB (decide (((sll a0.fOut).length:Int) > 20)))] ?_))
   exact QS (by kernel_rfl) (by kernel_rfl) h
  refine s1 1 [(13,aB ((decide (((sll a0.fWhere).length:Int) > 40)) || (decide (((sll a0.fOut).length:Int) > 20))))] ?_
  refine seg ((decide (((sll a0.fWhere).length:Int) > 40)) || (decide (((sll a0.fOut).length:Int) > 20))) [13,12] (fun b=>[(18,aB (b || (decide (((sll a0.fAggs).length:Int) > 10)))),(17,ifA b (.undef) (aB (decide (((sll a0.fAggs).length:Int) > 10)))),(16,ifA b (.undef) (aI ((sll a0.fAggs).length:Int))),(15,ifA b (.undef) (.pv (zc zj a0.fAggs))),(14,ifA b (.undef) (.ptr 0 4))]) 16 (by kernel_rfl) ?_ ?_ ?_
  ·
   intro Q h
   refine s1 5 [(18,aB true),(17,.undef),(16,.undef),(15,.undef),(14,.undef)] ?_
   exact QS (by kernel_rfl) (by kernel_rfl) h
  ·
   intro Q h
   refine s1 2 [(15,.pv (zc zj a0.fAggs)),(14,.ptr 0 4)] (dv 16 (v:=aI ((sll a0.fAggs).length:Int)) (zC zj a0.fAggs t24 (by kernel_rfl)) (by kernel_rfl) (s1 2 [(18,aB (decide (((sll a0.fAggs).length:Int) > 10))),(17,aB (decide (((sll a0.fAggs).length:Int) > 10)))] ?_))
   exact QS (by kernel_rfl) (by kernel_rfl) h
  refine s1 1 [(19,aB (zg49 a0))] ?_
  refine seg (zg49 a0) [19,18] (fun b=>[(24,aB (b || (decide (((sll a0.fOrder).length:Int) > 10)))),(23,ifA b (.undef) (aB (decide (((sll a0.fOrder).length:Int) > 10)))),(22,ifA b (.undef) (aI ((sll a0.fOrder).length:Int))),(21,ifA b (.undef) (.pv (zc zn a0.fOrder))),(20,ifA b (.undef) (.ptr 0 5))]) 22 (by kernel_rfl) ?_ ?_ ?_
  ·
   intro Q h
   refine s1 5 [(24,aB true),(23,.undef),(22,.undef),(21,.undef),(20,.undef)] ?_
   exact QS (by kernel_rfl) (by kernel_rfl) h
  ·
   intro Q h
   refine s1 2 [(21,.pv (zc zn a0.fOrder)),(20,.ptr 0 5)] (dv 22 (v:=aI ((sll a0.fOrder).length:Int)) (zC zn a0.fOrder t25 (by kernel_rfl)) (by kernel_rfl) (s1 2 [(24,aB (decide (((sll a0.fOrder).length:Int) > 10))),(23,aB (decide (((sll a0.fOrder).length:Int) > 10)))] ?_))
   exact QS (by kernel_rfl) (by kernel_rfl) h
  refine fin [(1,.ptr 0 0),(24,aB ((((decide (((sll a0.fWhere).length:Int) > 40)) || (decide (((sll a0.fOut).length:Int) > 20))) || (decide (((sll a0.fAggs).length:Int) > 10))) || (decide (((sll a0.fOrder).length:Int) > 10))))] rfl (by kernel_rfl) ?_
  rcases zf hm with ⟨h1,hm⟩ | ⟨h1,hm⟩
  ·
   refine c1 h1 (sq (dn [(2,aB false)] (wp_ret ?_)))
   obtain rfl:=Option.some.inj hm
   exact ⟨trivial,by kernel_rfl⟩
  ·
   refine c0 h1 (wp_skip ?_)
   refine sq (sq (rg (s1 4 [(28,aB (!a0.fGrouped)),(27,aB (!a0.fGrouped)),(26,aB a0.fGrouped),(25,.ptr 0 2)] ?_)))
   refine seg (!a0.fGrouped) [28,27] (fun b=>[(39,aB (b && ((((sll a0.fOut).length:Int) == 0) || (decide (((sll a0.fAggs).length:Int) > 0))))),(38,ifA b (aB ((((sll a0.fOut).length:Int) == 0) || (decide (((sll a0.fAggs).length:Int) > 0)))) (.undef)),(37,ifA b (ifA (((sll a0.fOut).length:Int) == 0) (.undef) (aB (decide (((sll a0.fAggs).length:Int) > 0)))) (.undef)),(36,ifA b (ifA (((sll a0.fOut).length:Int) == 0) (.undef) (aI ((sll a0.fAggs).length:Int))) (.undef)),(35,ifA b (ifA (((sll a0.fOut).length:Int) == 0) (.undef) (.pv (zc zj a0.fAggs))) (.undef)),(34,ifA b (ifA (((sll a0.fOut).length:Int) == 0) (.undef) (.ptr 0 4)) (.undef)),(33,ifA b (aB (((sll a0.fOut).length:Int) == 0)) (.undef)),(32,ifA b (aB (((sll a0.fOut).length:Int) == 0)) (.undef)),(31,ifA b (aI ((sll a0.fOut).length:Int)) (.undef)),(30,ifA b (.pv (zc za a0.fOut)) (.undef)),(29,ifA b (.ptr 0 3) (.undef))]) 15 (by kernel_rfl) ?_ ?_ ?_
   ·
    intro Q h
    refine s1 2 [(30,.pv (zc za a0.fOut)),(29,.ptr 0 3)] (dv 31 (v:=aI ((sll a0.fOut).length:Int)) (zC za a0.fOut t23 (by kernel_rfl)) (by kernel_rfl) (s1 2 [(33,aB (((sll a0.fOut).length:Int) == 0)),(32,aB (((sll a0.fOut).length:Int) == 0))] ?_))
    refine seg (((sll a0.fOut).length:Int) == 0) [33,32] (fun b=>[(38,aB (b || (decide (((sll a0.fAggs).length:Int) > 0)))),(37,ifA b (.undef) (aB (decide (((sll a0.fAggs).length:Int) > 0)))),(36,ifA b (.undef) (aI ((sll a0.fAggs).length:Int))),(35,ifA b (.undef) (.pv (zc zj a0.fAggs))),(34,ifA b (.undef) (.ptr 0 4))]) 14 (by kernel_rfl) ?_ ?_ ?_
    ·
     intro Q h
     refine s1 5 [(38,aB true),(37,.undef),(36,.undef),(35,.undef),(34,.undef)] ?_
     exact QS (by kernel_rfl) (by kernel_rfl) h
    ·
     intro Q h
     refine s1 2 [(35,.pv (zc zj a0.fAggs)),(34,.ptr 0 4)] (dv 36 (v:=aI ((sll a0.fAggs).length:Int)) (zC zj a0.fAggs t24 (by kernel_rfl)) (by kernel_rfl) (s1 2 [(38,aB (decide (((sll a0.fAggs).length:Int) > 0))),(37,aB (decide (((sll a0.fAggs).length:Int) > 0)))] ?_))
     exact QS (by kernel_rfl) (by kernel_rfl) h
    refine s1 1 [(39,aB ((((sll a0.fOut).length:Int) == 0) || (decide (((sll a0.fAggs).length:Int) > 0))))] ?_
    exact QS (by kernel_rfl) (by kernel_rfl) h
   ·
    intro Q h
    refine s1 11 [(39,aB false),(38,.undef),(37,.undef),(36,.undef),(35,.undef),(34,.undef),(33,.undef),(32,.undef),(31,.undef),(30,.undef),(29,.undef)] ?_
    exact QS (by kernel_rfl) (by kernel_rfl) h
   refine s1 1 [(40,aB ((!a0.fGrouped) && ((((sll a0.fOut).length:Int) == 0) || (decide (((sll a0.fAggs).length:Int) > 0)))))] ?_
   rcases zf hm with ⟨h2,hm⟩ | ⟨h2,hm⟩
   ·
    refine known [40,39] h2 (by kernel_rfl) (fq 4 [(1,.ptr 0 0),(44,aB true)] (cT (by kernel_rfl) (sq (dn [(2,aB false)] (wp_ret ?_)))))
    obtain rfl:=Option.some.inj hm
    exact ⟨trivial,by kernel_rfl⟩
   ·
    refine known [40,39] h2 (by kernel_rfl) (s1 1 [(41,.agg (zc0 a0))] ?_)
    obtain ⟨x3,h4,hm⟩:=bs hm
    refine dv 42 (zF (by kernel_rfl) (afG h4) (by kernel_rfl) (by kernel_rfl) (by kernel_rfl)) (by kernel_rfl) (fq 2 [(1,.ptr 0 0),(44,aB (x3 == 0))] ?_)
    rcases zf hm with ⟨h5,hm⟩ | ⟨h5,hm⟩
    ·
     refine c1 h5 (sq (dn [(2,aB false)] (wp_ret ?_)))
     obtain rfl:=Option.some.inj hm
     exact ⟨trivial,by kernel_rfl⟩
    ·
     refine c0 h5 (wp_skip (sq (sq (rg (s1 2 [(46,.pv (zc zj a0.fAggs)),(45,.ptr 0 4)] ?_)))))
     obtain ⟨x6,h7,hm⟩:=bs hm
     refine dv 47 (zF (by kernel_rfl) (aaG h7) (by kernel_rfl) (by kernel_rfl) (by kernel_rfl)) (by kernel_rfl) (fin [(1,.ptr 0 0),(47,aB x6)] rfl (by kernel_rfl) ?_)
     rcases zf hm with ⟨h8,hm⟩ | ⟨h8,hm⟩
     ·
      refine c1 h8 (sq (dn [(2,aB false)] (wp_ret ?_)))
      obtain rfl:=Option.some.inj hm
      exact ⟨trivial,by kernel_rfl⟩
     ·
      refine c0 h8 (wp_skip (sq (rg (s1 3 [(50,.fn 142 [] [.ptr 0 0]),(49,.pv (zc zn a0.fOrder)),(48,.ptr 0 5)] ?_))))
      obtain ⟨x9,h10,hm⟩:=bs hm
      refine dO [(51,aB x9)] [.box (zc0 a0) false] (adv [0] [.pv (zc zn a0.fOrder),.fn 142 [] [.ptr 0 0]] (fl:=true) (by kernel_rfl) (by kernel_rfl) (by kernel_rfl) (aaH h10) (by kernel_rfl) (by kernel_rfl)) (by kernel_rfl) (fq 2 [(2,aB (!x9))] (wp_ret ?_))
      obtain rfl:=Option.some.inj hm
      exact ⟨trivial,by kernel_rfl⟩
theorem akX {n:Nat} {a0:Int} {r:Int} (hm:aek n a0=some r):
    call G n 192 [aI a0] []=some (.ret (aI r),[]):=by
  unfold aek at hm
  obtain ⟨n,rfl,h0⟩:=zp hm
  replace hm:=h0; clear h0
  refine Zt 20 [(0,aI a0)] func192 rfl (by kernel_rfl) (sq (dn [(0,aI a0)] (sq (sq (dn [(3,aI a0)] (bq ?_))))))
  obtain ⟨k2,hk2,hm⟩:=zw hm
  refine mid (fun t H=>(∃ (y1:Bool),k2 y1=some r∧t=mk 20 [(3,aI a0),(4,aB y1)]∧H=[])) ?_ ?_
  ·
   rintro _ _ ⟨y1,hm,rfl,rfl⟩
   subst hk2
   rcases zf hm with ⟨h3,hm⟩ | ⟨h3,hm⟩
   ·
    refine c1 h3 (sq (dn [(2,aI 0)] (wp_ret ?_)))
    obtain rfl:=Option.some.inj hm
    exact ⟨trivial,by kernel_rfl⟩
   ·
    refine c0 h3 ?_
    obtain ⟨k5,hk5,hm⟩:=zw hm
    refine mid (fun t H=>(∃ (y4:Bool),k5 y4=some r∧t=mk 20 [(3,aI a0),(7,aB y4)]∧H=[])) ?_ ?_
    ·
     rintro _ _ ⟨y4,hm,rfl,rfl⟩
     subst hk5
     rcases zf hm with ⟨h6,hm⟩ | ⟨h6,hm⟩
     ·
      refine c1 h6 (sq (dn [(2,aI 1)] (wp_ret ?_)))
      obtain rfl:=Option.some.inj hm
      exact ⟨trivial,by kernel_rfl⟩
     ·
      refine c0 h6 (sq (sq (dn [(3,aI a0),(11,aB (a0 == 3))] ?_)))
      rcases zf hm with ⟨h7,hm⟩ | ⟨h7,hm⟩
      ·
       refine c1 h7 (wp_skip ?_)
       rcases zf hm with ⟨h8,hm⟩ | ⟨h8,hm⟩
       ·
        refine c1 h8 (sq (dn [(2,aI 2)] (wp_ret ?_)))
        obtain rfl:=Option.some.inj hm
        exact ⟨trivial,by kernel_rfl⟩
       ·
        refine c0 h8 (wp_skip (sq (dn [(2,aI (-1))] (wp_ret ?_))))
        obtain rfl:=Option.some.inj hm
        exact ⟨trivial,by kernel_rfl⟩
      ·
       refine c0 h7 (sq (dn [(3,aI a0),(11,aB (a0 == 4))] ?_))
       rcases zf hm with ⟨h9,hm⟩ | ⟨h9,hm⟩
       ·
        refine c1 h9 (wp_skip ?_)
        rcases zf hm with ⟨h10,hm⟩ | ⟨h10,hm⟩
        ·
         refine c1 h10 (sq (dn [(2,aI 2)] (wp_ret ?_)))
         obtain rfl:=Option.some.inj hm
         exact ⟨trivial,by kernel_rfl⟩
        ·
         refine c0 h10 (wp_skip (sq (dn [(2,aI (-1))] (wp_ret ?_))))
         obtain rfl:=Option.some.inj hm
         exact ⟨trivial,by kernel_rfl⟩
       ·
        refine c0 h9 (sq (dn [(3,aI a0),(11,aB (a0 == 5))] ?_))
        rcases zf hm with ⟨h11,hm⟩ | ⟨h11,hm⟩
        ·
         refine c1 h11 (wp_skip ?_)
         rcases zf hm with ⟨h12,hm⟩ | ⟨h12,hm⟩
         ·
          refine c1 h12 (sq (dn [(2,aI 2)] (wp_ret ?_)))
          obtain rfl:=Option.some.inj hm
          exact ⟨trivial,by kernel_rfl⟩
         ·
          refine c0 h12 (wp_skip (sq (dn [(2,aI (-1))] (wp_ret ?_))))
          obtain rfl:=Option.some.inj hm
          exact ⟨trivial,by kernel_rfl⟩
        ·
         refine c0 h11 (sq (dn [(3,aI a0),(11,aB (a0 == 7))] ?_))
         rcases zf hm with ⟨h13,hm⟩ | ⟨h13,hm⟩
         ·
          refine c1 h13 (wp_skip ?_)
          rcases zf hm with ⟨h14,hm⟩ | ⟨h14,hm⟩
          ·
           refine c1 h14 (sq (dn [(2,aI 2)] (wp_ret ?_)))
           obtain rfl:=Option.some.inj hm
           exact ⟨trivial,by kernel_rfl⟩
          ·
           refine c0 h14 (wp_skip (sq (dn [(2,aI (-1))] (wp_ret ?_))))
           obtain rfl:=Option.some.inj hm
           exact ⟨trivial,by kernel_rfl⟩
         ·
          refine c0 h13 (sq (dn [(3,aI a0),(11,aB (a0 == 8))] ?_))
          rcases zf hm with ⟨h15,hm⟩ | ⟨h15,hm⟩
          ·
           refine c1 h15 (wp_skip ?_)
           rcases zf hm with ⟨h16,hm⟩ | ⟨h16,hm⟩
           ·
            refine c1 h16 (sq (dn [(2,aI 2)] (wp_ret ?_)))
            obtain rfl:=Option.some.inj hm
            exact ⟨trivial,by kernel_rfl⟩
           ·
            refine c0 h16 (wp_skip (sq (dn [(2,aI (-1))] (wp_ret ?_))))
            obtain rfl:=Option.some.inj hm
            exact ⟨trivial,by kernel_rfl⟩
          ·
           refine c0 h15 (sq (dn [(3,aI a0),(11,aB (a0 == 9))] ?_))
           rcases zf hm with ⟨h17,hm⟩ | ⟨h17,hm⟩
           ·
            refine c1 h17 (wp_skip ?_)
            rcases zf hm with ⟨h18,hm⟩ | ⟨h18,hm⟩
            ·
             refine c1 h18 (sq (dn [(2,aI 2)] (wp_ret ?_)))
             obtain rfl:=Option.some.inj hm
             exact ⟨trivial,by kernel_rfl⟩
            ·
             refine c0 h18 (wp_skip (sq (dn [(2,aI (-1))] (wp_ret ?_))))
             obtain rfl:=Option.some.inj hm
             exact ⟨trivial,by kernel_rfl⟩
           ·
            refine c0 h17 (sq (dn [(3,aI a0),(11,aB (a0 == 10))] ?_))
            rcases zf hm with ⟨h19,hm⟩ | ⟨h19,hm⟩
            ·
             refine c1 h19 (wp_skip ?_)
             rcases zf hm with ⟨h20,hm⟩ | ⟨h20,hm⟩
             ·
              refine c1 h20 (sq (dn [(2,aI 2)] (wp_ret ?_)))
              obtain rfl:=Option.some.inj hm
              exact ⟨trivial,by kernel_rfl⟩
             ·
              refine c0 h20 (wp_skip (sq (dn [(2,aI (-1))] (wp_ret ?_))))
              obtain rfl:=Option.some.inj hm
              exact ⟨trivial,by kernel_rfl⟩
            ·
             refine c0 h19 (dn [(11,aB (a0 == 11))] ?_)
             rcases zf hm with ⟨h21,hm⟩ | ⟨h21,hm⟩
             ·
              refine c1 h21 (sq (dn [(2,aI 2)] (wp_ret ?_)))
              obtain rfl:=Option.some.inj hm
              exact ⟨trivial,by kernel_rfl⟩
             ·
              refine c0 h21 (wp_skip (sq (dn [(2,aI (-1))] (wp_ret ?_))))
              obtain rfl:=Option.some.inj hm
              exact ⟨trivial,by kernel_rfl⟩
    refine sq (dn [(3,aI a0),(7,aB (a0 == 6))] ?_)
    rcases zf hm with ⟨h22,hm⟩ | ⟨h22,hm⟩
    ·
     refine c1 h22 (wp_skip ?_)
     exact ⟨(a0 == 6),hm,rfl,rfl⟩
    ·
     refine c0 h22 (sq (dn [(3,aI a0),(7,aB (a0 == 12))] ?_))
     rcases zf hm with ⟨h23,hm⟩ | ⟨h23,hm⟩
     ·
      refine c1 h23 (wp_skip ?_)
      exact ⟨(a0 == 12),hm,rfl,rfl⟩
     ·
      refine c0 h23 (dn [(3,aI a0),(7,aB (a0 == 13))] ?_)
      exact ⟨(a0 == 13),hm,rfl,rfl⟩
  refine sq (dn [(3,aI a0),(4,aB (a0 == 1))] ?_)
  rcases zf hm with ⟨h24,hm⟩ | ⟨h24,hm⟩
  ·
   refine c1 h24 (wp_skip ?_)
   exact ⟨(a0 == 1),hm,rfl,rfl⟩
  ·
   refine c0 h24 (dn [(3,aI a0),(4,aB (a0 == 2))] ?_)
   exact ⟨(a0 == 2),hm,rfl,rfl⟩
theorem aex {n:Nat} {a0:Int} {r:Bool} (hm:abE n a0=some r):
    call G n 249 [aI a0] []=some (.ret (aB r),[]):=by
  unfold abE at hm
  obtain ⟨n,rfl,h0⟩:=zp hm
  replace hm:=h0; clear h0
  refine Zt 9 [(0,aI a0)] func249 rfl (by kernel_rfl) (sq (dn [(0,aI a0)] (sq (rg (s1 3 [(5,aB (decide (a0≥0))),(4,aB (decide (a0≥0))),(3,aI a0)] ?_)))))
  refine segP (decide (a0≥0)) [5,4] (fun b=>[(8,aB (b && (decide (a0≤31)))),(7,ifA b (aB (decide (a0≤31))) (.undef)),(6,ifA b (aI a0) (.undef))]) 3 (by kernel_rfl) (by kernel_rfl) (by kernel_rfl) (fq 1 [(2,aB ((decide (a0≥0)) && (decide (a0≤31))))] (wp_ret ?_))
  obtain rfl:=Option.some.inj hm
  exact ⟨trivial,by kernel_rfl⟩
theorem ahY {n:Nat} {a0:Nat} {r:Bool} (hm:ado n a0=some r):
    call G n 250 [aF a0] []=some (.ret (aB r),[]):=by
  unfold ado at hm
  obtain ⟨n,rfl,h0⟩:=zp hm
  replace hm:=h0; clear h0
  refine Zt 7 [(0,aF a0)] func250 rfl (by kernel_rfl) (sq (dn [(0,aF a0)] (sq (rg (s1 1 [(3,aF a0)] (s1 1 [(4,aU (a0:Int))] (fq 3 [(2,aB (decide ((IntKind.wrap .i64 (a0:Int)) < 0)))] (wp_ret ?_))))))))
  obtain rfl:=Option.some.inj hm
  exact ⟨trivial,by kernel_rfl⟩
abbrev zc6 (p0:zq):List AV:=[aI p0.fKind,aI p0.fInt,aF p0.fFloat,aS p0.fText]
theorem afl {n:Nat} {a0:zq} {r:Bool} (hm:ab2 n a0=some r):
    call G n 227 [.agg (zc6 a0)] []=some (.ret (aB r),[]):=by
  unfold ab2 at hm
  obtain ⟨n,rfl,h0⟩:=zp hm
  replace hm:=h0; clear h0
  refine Zt 70 [(0,.agg (zc6 a0))] func227 rfl (by kernel_rfl) (sq (det [(1,.ptr 0 0)] [.box (zc6 a0) false] (by kernel_rfl) ?_))
  obtain ⟨k2,hk2,hm⟩:=zw hm
  refine mid (fun t H=>(∃ (y1:Bool),k2 y1=some r∧t=mk 70 [(1,.ptr 0 0),(3,aB y1)]∧H=[.box (zc6 a0) false])) ?_ ?_
  ·
   rintro _ _ ⟨y1,hm,rfl,rfl⟩
   subst hk2
   refine sq (sq (dn [(1,.ptr 0 0),(3,aB y1),(14,aI a0.fKind)] (bq ?_)))
   refine sq (bq ?_)
   refine sq (bq ?_)
   obtain ⟨k6,hk6,hm⟩:=zw hm
   refine mid (fun t H=>(∃ (w3:AV) (w4:AV) (w5:AV),k6 ()=some r∧t=mk 70 [(1,.ptr 0 0),(3,aB y1),(14,w3),(19,w4),(43,w5)]∧H=[.box (zc6 a0) false])) ?_ ?_
   ·
    rintro _ _ ⟨w3,w4,w5,hm,rfl,rfl⟩
    subst hk6
    refine sq (sq (rg (s1 2 [(45,aB y1),(44,aB y1)] ?_)))
    refine segP y1 [45,44,3] (fun b=>[(49,aB (b && (sEq a0.fText ByteArray.empty))),(48,ifA b (aB (sEq a0.fText ByteArray.empty)) (.undef)),(47,ifA b (aS a0.fText) (.undef)),(46,ifA b (.ptr 0 3) (.undef))]) 4 (by kernel_rfl) (by kernel_rfl) (by kernel_rfl) (fq 1 [(2,aB (y1 && (sEq a0.fText ByteArray.empty)))] (wp_ret ?_))
    obtain rfl:=Option.some.inj hm
    exact ⟨trivial,by kernel_rfl⟩
   refine bq ?_
   refine sq (bq ?_)
   refine sq (bq (sq ?_))
   refine sq (sq (dn [(1,.ptr 0 0),(3,aB y1),(14,aI a0.fKind),(15,aB (a0.fKind == 0))] ?_))
   rcases zf hm with ⟨h7,hm⟩ | ⟨h7,hm⟩
   ·
    refine c1 h7 (wp_exit (sq (sq (rg (s1 4 [(28,aB (a0.fInt == 0)),(27,aB (a0.fInt == 0)),(26,aI a0.fInt),(25,.ptr 0 1)] ?_)))))
    refine segP (a0.fInt == 0) [28,27] (fun b=>[(30,aB (b && y1)),(29,ifA b (aB y1) (.undef))]) 2 (by kernel_rfl) (by kernel_rfl) (by kernel_rfl) (s1 1 [(31,aB ((a0.fInt == 0) && y1))] ?_)
    refine segP ((a0.fInt == 0) && y1) [31,30] (fun b=>[(35,aB (b && (sEq a0.fText ByteArray.empty))),(34,ifA b (aB (sEq a0.fText ByteArray.empty)) (.undef)),(33,ifA b (aS a0.fText) (.undef)),(32,ifA b (.ptr 0 3) (.undef))]) 4 (by kernel_rfl) (by kernel_rfl) (by kernel_rfl) (fq 1 [(2,aB (((a0.fInt == 0) && y1) && (sEq a0.fText ByteArray.empty)))] (wp_ret ?_))
    obtain rfl:=Option.some.inj hm
    exact ⟨trivial,by kernel_rfl⟩
   ·
    refine c0 h7 (wp_skip (sq (sq (dn [(1,.ptr 0 0),(3,aB y1),(14,aI a0.fKind),(17,aB (a0.fKind == 1))] ?_))))
    rcases zf hm with ⟨h8,hm⟩ | ⟨h8,hm⟩
    ·
     refine c1 h8 (wp_exit (sq (rg (s1 4 [(39,aB (a0.fInt != 0)),(38,aB (a0.fInt != 0)),(37,aI a0.fInt),(36,.ptr 0 1)] ?_))))
     refine segP (a0.fInt != 0) [39,38] (fun b=>[(43,aB (b && (a0.fInt != 1))),(42,ifA b (aB (a0.fInt != 1)) (.undef)),(41,ifA b (aI a0.fInt) (.undef)),(40,ifA b (.ptr 0 1) (.undef))]) 4 (by kernel_rfl) (by kernel_rfl) (by kernel_rfl) (fin [(1,.ptr 0 0),(3,aB y1),(43,aB ((a0.fInt != 0) && (a0.fInt != 1)))] rfl (by kernel_rfl) ?_)
     rcases zf hm with ⟨h9,hm⟩ | ⟨h9,hm⟩
     ·
      refine c1 h9 (sq (dn [(2,aB false)] (wp_ret ?_)))
      obtain rfl:=Option.some.inj hm
      exact ⟨trivial,by kernel_rfl⟩
     ·
      refine c0 h9 (wp_skip ?_)
      exact ⟨.any,.any,aB ((a0.fInt != 0) && (a0.fInt != 1)),hm,(zJ (by kernel_rfl)),rfl⟩
    ·
     refine c0 h8 (wp_skip (sq (sq (dn [(1,.ptr 0 0),(3,aB y1),(14,aI a0.fKind),(19,aB (a0.fKind == 2))] ?_))))
     rcases zf hm with ⟨h10,hm⟩ | ⟨h10,hm⟩
     ·
      refine c1 h10 (wp_exit ?_)
      exact ⟨aI a0.fKind,aB (a0.fKind == 2),.any,hm,(zJ (by kernel_rfl)),rfl⟩
     ·
      refine c0 h10 (wp_skip (sq (sq (dn [(1,.ptr 0 0),(3,aB y1),(14,aI a0.fKind),(21,aB (a0.fKind == 3))] ?_))))
      rcases zf hm with ⟨h11,hm⟩ | ⟨h11,hm⟩
      ·
       refine c1 h11 (wp_exit (sq (sq (rg (s1 4 [(53,aB (a0.fInt == 0)),(52,aB (a0.fInt == 0)),(51,aI a0.fInt),(50,.ptr 0 1)] ?_)))))
       refine segP (a0.fInt == 0) [53,52] (fun b=>[(57,aB (b && (sEq a0.fText ByteArray.empty))),(56,ifA b (aB (sEq a0.fText ByteArray.empty)) (.undef)),(55,ifA b (aS a0.fText) (.undef)),(54,ifA b (.ptr 0 3) (.undef))]) 4 (by kernel_rfl) (by kernel_rfl) (by kernel_rfl) (fq 1 [(2,aB ((a0.fInt == 0) && (sEq a0.fText ByteArray.empty)))] (wp_ret ?_))
       obtain rfl:=Option.some.inj hm
       exact ⟨trivial,by kernel_rfl⟩
      ·
       refine c0 h11 (wp_skip (sq (dn [(1,.ptr 0 0),(3,aB y1),(23,aB (a0.fKind == 4))] ?_)))
       rcases zf hm with ⟨h12,hm⟩ | ⟨h12,hm⟩
       ·
        refine c1 h12 (wp_exit (sq (sq (rg (s1 4 [(61,aB (a0.fInt == 0)),(60,aB (a0.fInt == 0)),(59,aI a0.fInt),(58,.ptr 0 1)] ?_)))))
        refine segP (a0.fInt == 0) [61,60] (fun b=>[(63,aB (b && y1)),(62,ifA b (aB y1) (.undef))]) 2 (by kernel_rfl) (by kernel_rfl) (by kernel_rfl) (s1 1 [(64,aB ((a0.fInt == 0) && y1))] ?_)
        refine segP ((a0.fInt == 0) && y1) [64,63] (fun b=>[(69,aB (b && (decide ((a0.fText.size:Int)≤64)))),(68,ifA b (aB (decide ((a0.fText.size:Int)≤64))) (.undef)),(67,ifA b (aI (a0.fText.size:Int)) (.undef)),(66,ifA b (aS a0.fText) (.undef)),(65,ifA b (.ptr 0 3) (.undef))]) 5 (by kernel_rfl) (by kernel_rfl) (by kernel_rfl) (fq 1 [(2,aB (((a0.fInt == 0) && y1) && (decide ((a0.fText.size:Int)≤64))))] (wp_ret ?_))
        obtain rfl:=Option.some.inj hm
        exact ⟨trivial,by kernel_rfl⟩
       ·
        refine c0 h12 (wp_skip (wp_exit (sq (dn [(2,aB false)] (wp_ret ?_)))))
        obtain rfl:=Option.some.inj hm
        exact ⟨trivial,by kernel_rfl⟩
  refine rg (s1 4 [(7,aB ((FloatKind.format .f64).order a0.fFloat 0 == some .eq)),(6,aB ((FloatKind.format .f64).order a0.fFloat 0 == some .eq)),(5,aF a0.fFloat),(4,.ptr 0 2)] ?_)
  rcases zf hm with ⟨h13,hm⟩ | ⟨h13,hm⟩
  ·
   refine known [7,6] h13 (by kernel_rfl) (s1 2 [(9,aF a0.fFloat),(8,.ptr 0 2)] ?_)
   obtain ⟨x14,h15,hm⟩:=bs hm
   refine dv 10 (zF (by kernel_rfl) (ahY h15) (by kernel_rfl) (by kernel_rfl) (by kernel_rfl)) (by kernel_rfl) (fq 3 [(1,.ptr 0 0),(3,aB (!x14))] ?_)
   exact ⟨(!x14),hm,rfl,rfl⟩
  ·
   refine known [7,6] h13 (by kernel_rfl) (fq 6 [(1,.ptr 0 0),(3,aB false)] ?_)
   exact ⟨false,hm,rfl,rfl⟩
abbrev zc7 (p0:zh):List AV:=[aI p0.fKind,aI p0.fRel,aI p0.fCol,aI p0.fConst.fKind,aI p0.fConst.fInt,aF p0.fConst.fFloat,aS p0.fConst.fText,.pv (zc za p0.fKids)]
abbrev zc8 (p0:zh):List AV:=[aI p0.fConst.fKind,aI p0.fConst.fInt,aF p0.fConst.fFloat,aS p0.fConst.fText]
theorem aiO {n:Nat} {a0:zh} {r:Bool} (hm:acS n a0=some r):
    call G n 226 [.agg (zc7 a0)] []=some (.ret (aB r),[]):=by
  unfold acS at hm
  obtain ⟨n,rfl,h0⟩:=zp hm
  replace hm:=h0; clear h0
  refine Zt 45 [(0,.agg (zc7 a0))] func226 rfl (by kernel_rfl) (sq (det [(1,.ptr 0 0)] [.box (zc7 a0) false] (by kernel_rfl) (sq (dn [(1,.ptr 0 0),(3,.pv (.fn 249 [] []))] ?_))))
  refine sq (sq (rg (s1 4 [(7,aB (a0.fKind != 1)),(6,aB (a0.fKind != 1)),(5,aI a0.fKind),(4,.ptr 0 0)] ?_)))
  refine seg (a0.fKind != 1) [7,6] (fun b=>[(16,aB (b && ((a0.fRel != 0) || (a0.fCol != 0)))),(15,ifA b (aB ((a0.fRel != 0) || (a0.fCol != 0))) (.undef)),(14,ifA b (ifA (a0.fRel != 0) (.undef) (aB (a0.fCol != 0))) (.undef)),(13,ifA b (ifA (a0.fRel != 0) (.undef) (aI a0.fCol)) (.undef)),(12,ifA b (ifA (a0.fRel != 0) (.undef) (.ptr 0 2)) (.undef)),(11,ifA b (aB (a0.fRel != 0)) (.undef)),(10,ifA b (aB (a0.fRel != 0)) (.undef)),(9,ifA b (aI a0.fRel) (.undef)),(8,ifA b (.ptr 0 1) (.undef))]) 13 (by kernel_rfl) ?_ ?_ ?_
  ·
   intro Q h
   refine s1 4 [(11,aB (a0.fRel != 0)),(10,aB (a0.fRel != 0)),(9,aI a0.fRel),(8,.ptr 0 1)] ?_
   refine segP (a0.fRel != 0) [11,10] (fun b=>[(15,aB (b || (a0.fCol != 0))),(14,ifA b (.undef) (aB (a0.fCol != 0))),(13,ifA b (.undef) (aI a0.fCol)),(12,ifA b (.undef) (.ptr 0 2))]) 4 (by kernel_rfl) (by kernel_rfl) (by kernel_rfl) (s1 1 [(16,aB ((a0.fRel != 0) || (a0.fCol != 0)))] ?_)
   exact QS (by kernel_rfl) (by kernel_rfl) h
  ·
   intro Q h
   refine s1 9 [(16,aB false),(15,.undef),(14,.undef),(13,.undef),(12,.undef),(11,.undef),(10,.undef),(9,.undef),(8,.undef)] ?_
   exact QS (by kernel_rfl) (by kernel_rfl) h
  refine s1 1 [(17,aB ((a0.fKind != 1) && ((a0.fRel != 0) || (a0.fCol != 0))))] ?_
  rcases zf hm with ⟨h1,hm⟩ | ⟨h1,hm⟩
  ·
   refine known [17,16] h1 (by kernel_rfl) (fq 13 [(1,.ptr 0 0),(30,aB true)] (cT (by kernel_rfl) (sq (dn [(2,aB false)] (wp_ret ?_)))))
   obtain rfl:=Option.some.inj hm
   exact ⟨trivial,by kernel_rfl⟩
  ·
   refine known [17,16] h1 (by kernel_rfl) (s1 3 [(20,aI a0.fRel),(19,.ptr 0 1),(18,.pv (.fn 249 [] []))] ?_)
   obtain ⟨x2,h3,hm⟩:=bs hm
   refine dv 21 (zF (by kernel_rfl) (aex h3) (by kernel_rfl) (by kernel_rfl) (by kernel_rfl)) (by kernel_rfl) (s1 3 [(24,aB (!x2)),(23,aB (!x2)),(22,aB (!x2))] ?_)
   rcases zf hm with ⟨h4,hm⟩ | ⟨h4,hm⟩
   ·
    refine known [24,23,22] h4 (by kernel_rfl) (fq 6 [(1,.ptr 0 0),(30,aB true)] (cT (by kernel_rfl) (sq (dn [(2,aB false)] (wp_ret ?_)))))
    obtain rfl:=Option.some.inj hm
    exact ⟨trivial,by kernel_rfl⟩
   ·
    refine known [24,23,22] h4 (by kernel_rfl) (s1 3 [(27,aI a0.fCol),(26,.ptr 0 2),(25,.pv (.fn 249 [] []))] ?_)
    obtain ⟨x5,h6,hm⟩:=bs hm
    refine dv 28 (zF (by kernel_rfl) (aex h6) (by kernel_rfl) (by kernel_rfl) (by kernel_rfl)) (by kernel_rfl) (fq 2 [(1,.ptr 0 0),(30,aB (!x5))] ?_)
    rcases zf hm with ⟨h7,hm⟩ | ⟨h7,hm⟩
    ·
     refine c1 h7 (sq (dn [(2,aB false)] (wp_ret ?_)))
     obtain rfl:=Option.some.inj hm
     exact ⟨trivial,by kernel_rfl⟩
    ·
     refine c0 h7 (wp_skip (sq (rg (s1 2 [(32,.agg (zc8 a0)),(31,.ptr 0 3)] ?_))))
     obtain ⟨x8,h9,hm⟩:=bs hm
     refine dv 33 (zF (by kernel_rfl) (afl h9) (by kernel_rfl) (by kernel_rfl) (by kernel_rfl)) (by kernel_rfl) (s1 1 [(34,aB x8)] ?_)
     refine seg x8 [34,33] (fun b=>[(44,aB (b && ((a0.fKind == 2) || (a0.fConst.fKind == 0)))),(43,ifA b (aB ((a0.fKind == 2) || (a0.fConst.fKind == 0))) (.undef)),(42,ifA b (ifA (a0.fKind == 2) (.undef) (aB (a0.fConst.fKind == 0))) (.undef)),(41,ifA b (ifA (a0.fKind == 2) (.undef) (aI a0.fConst.fKind)) (.undef)),(40,ifA b (ifA (a0.fKind == 2) (.undef) (.ptr 0 3)) (.undef)),(39,ifA b (ifA (a0.fKind == 2) (.undef) (.ptr 0 3)) (.undef)),(38,ifA b (aB (a0.fKind == 2)) (.undef)),(37,ifA b (aB (a0.fKind == 2)) (.undef)),(36,ifA b (aI a0.fKind) (.undef)),(35,ifA b (.ptr 0 0) (.undef))]) 14 (by kernel_rfl) ?_ ?_ ?_
     ·
      intro Q h
      refine s1 4 [(38,aB (a0.fKind == 2)),(37,aB (a0.fKind == 2)),(36,aI a0.fKind),(35,.ptr 0 0)] ?_
      refine segP (a0.fKind == 2) [38,37] (fun b=>[(43,aB (b || (a0.fConst.fKind == 0))),(42,ifA b (.undef) (aB (a0.fConst.fKind == 0))),(41,ifA b (.undef) (aI a0.fConst.fKind)),(40,ifA b (.undef) (.ptr 0 3)),(39,ifA b (.undef) (.ptr 0 3))]) 5 (by kernel_rfl) (by kernel_rfl) (by kernel_rfl) (s1 1 [(44,aB ((a0.fKind == 2) || (a0.fConst.fKind == 0)))] ?_)
      exact QS (by kernel_rfl) (by kernel_rfl) h
     ·
      intro Q h
      refine s1 10 [(44,aB false),(43,.undef),(42,.undef),(41,.undef),(40,.undef),(39,.undef),(38,.undef),(37,.undef),(36,.undef),(35,.undef)] ?_
      exact QS (by kernel_rfl) (by kernel_rfl) h
     refine fq 1 [(2,aB (x8 && ((a0.fKind == 2) || (a0.fConst.fKind == 0))))] (wp_ret ?_)
     obtain rfl:=Option.some.inj hm
     exact ⟨trivial,by kernel_rfl⟩
abbrev zc9 (p0:zd):List AV:=[aI ((zg p0).fKind),aI ((zg p0).fRel),aI ((zg p0).fCol),aI (((zg p0).fConst).fKind),aI (((zg p0).fConst).fInt),aF (((zg p0).fConst).fFloat),aS (((zg p0).fConst).fText),.pv (zc za ((zg p0).fKids))]
abbrev zg50 (p0:Int) (p1:zh):=(decide (p0 < ((sll p1.fKids).length:Int)))
theorem ajm {rc_expr_count:(Nat→zh→Int→Int→Option (Int))} (ih_expr_count:∀ {n:Nat} {a0:zh} {a1:Int} {a2:Int} {r:Int} (hm:rc_expr_count n a0 a1 a2=some r),call G n 182 [.agg [aI a0.fKind,aI a0.fRel,aI a0.fCol,aI a0.fConst.fKind,aI a0.fConst.fInt,aF a0.fConst.fFloat,aS a0.fConst.fText,.pv (zc za a0.fKids)],aI a1,aI a2] []=some (.ret (aI r),[])) {n:Nat} {a0:zh} {a1:Int} {a2:Int} {r:Int} (hm:aav rc_expr_count n a0 a1 a2=some r):
    call G n 182 [.agg (zc7 a0),aI a1,aI a2] []=some (.ret (aI r),[]):=by
  unfold aav at hm
  obtain ⟨n,rfl,h0⟩:=zp hm
  replace hm:=h0; clear h0
  refine Zt 47 [(0,.agg (zc7 a0)),(1,aI a1),(2,aI a2)] func182 rfl (by kernel_rfl) (sq (det [(1,aI a1),(2,aI a2),(3,.ptr 0 0)] [.box (zc7 a0) false] (by kernel_rfl) ?_))
  refine sq (sq (rgd (shd 3 [(11,aB (decide (a1 > 24))),(10,aB (decide (a1 > 24))),(9,aI a1)] (by kernel_rfl) ?_)))
  rcases zf hm with ⟨h1,hm⟩ | ⟨h1,hm⟩
  ·
   refine qj [11,10] h1 (by kernel_rfl) (shd 17 [(28,aB true),(27,.undef),(26,.undef),(25,.undef),(24,aB true),(23,aB true),(22,.undef),(21,.undef),(20,.undef),(19,.undef),(18,.undef),(17,.undef),(16,.undef),(15,aB true),(14,aB true),(13,.undef),(12,.undef)] (by kernel_rfl) (find [(1,aI a1),(2,aI a2),(3,.ptr 0 0),(28,aB true)] rfl (by kernel_rfl) (by kernel_rfl) (cT (by kernel_rfl) (sq (dn [(6,aI (-1))] (wp_ret ?_))))))
   obtain rfl:=Option.some.inj hm
   exact ⟨trivial,by kernel_rfl⟩
  ·
   refine qj [11,10] h1 (by kernel_rfl) (shd 4 [(15,aB (decide (a2 < 1))),(14,aB (decide (a2 < 1))),(13,aB (decide (a2 < 1))),(12,aI a2)] (by kernel_rfl) ?_)
   rcases zf hm with ⟨h2,hm⟩ | ⟨h2,hm⟩
   ·
    refine qj [15,14,13] h2 (by kernel_rfl) (shd 13 [(28,aB true),(27,.undef),(26,.undef),(25,.undef),(24,aB true),(23,aB true),(22,.undef),(21,.undef),(20,.undef),(19,.undef),(18,.undef),(17,.undef),(16,.undef)] (by kernel_rfl) (find [(1,aI a1),(2,aI a2),(3,.ptr 0 0),(28,aB true)] rfl (by kernel_rfl) (by kernel_rfl) (cT (by kernel_rfl) (sq (dn [(6,aI (-1))] (wp_ret ?_))))))
    obtain rfl:=Option.some.inj hm
    exact ⟨trivial,by kernel_rfl⟩
   ·
    refine qj [15,14,13] h2 (by kernel_rfl) (shd 2 [(17,aI a0.fKind),(16,.ptr 0 0)] (by kernel_rfl) ?_)
    obtain ⟨x3,h4,hm⟩:=bs hm
    refine dvd 18 (zF (by kernel_rfl) (akX h4) (by kernel_rfl) (by kernel_rfl) (by kernel_rfl)) (by kernel_rfl) (shd 2 [(20,.pv (zc za a0.fKids)),(19,.ptr 0 7)] (by kernel_rfl) (dvd 21 (v:=aI ((sll a0.fKids).length:Int)) (zC za a0.fKids t23 (by kernel_rfl)) (by kernel_rfl) (shd 3 [(24,aB (x3 != ((sll a0.fKids).length:Int))),(23,aB (x3 != ((sll a0.fKids).length:Int))),(22,aB (x3 != ((sll a0.fKids).length:Int)))] (by kernel_rfl) ?_)))
    rcases zf hm with ⟨h5,hm⟩ | ⟨h5,hm⟩
    ·
     refine qj [24,23,22] h5 (by kernel_rfl) (shd 4 [(28,aB true),(27,.undef),(26,.undef),(25,.undef)] (by kernel_rfl) (find [(1,aI a1),(2,aI a2),(3,.ptr 0 0),(28,aB true)] rfl (by kernel_rfl) (by kernel_rfl) (cT (by kernel_rfl) (sq (dn [(6,aI (-1))] (wp_ret ?_))))))
     obtain rfl:=Option.some.inj hm
     exact ⟨trivial,by kernel_rfl⟩
    ·
     refine qj [24,23,22] h5 (by kernel_rfl) (shd 1 [(25,.agg (zc7 a0))] (by kernel_rfl) ?_)
     obtain ⟨x6,h7,hm⟩:=bs hm
     refine dvd 26 (zF (by kernel_rfl) (aiO h7) (by kernel_rfl) (by kernel_rfl) (by kernel_rfl)) (by kernel_rfl) (shd 2 [(28,aB (!x6)),(27,aB (!x6))] (by kernel_rfl) (find [(1,aI a1),(2,aI a2),(3,.ptr 0 0),(28,aB (!x6))] rfl (by kernel_rfl) (by kernel_rfl) ?_))
     rcases zf hm with ⟨h8,hm⟩ | ⟨h8,hm⟩
     ·
      refine c1 h8 (sq (dn [(6,aI (-1))] (wp_ret ?_)))
      obtain rfl:=Option.some.inj hm
      exact ⟨trivial,by kernel_rfl⟩
     ·
      refine c0 h8 (wp_skip (sq (dn [(1,aI a1),(2,aI (IntKind.wrap .i64 (a2 - 1))),(3,.ptr 0 0)] ?_)))
      obtain ⟨k12,hk12,hm⟩:=zw hm
      refine mid (fun t H=>(∃ (y9:Int) (y10:Int) (y11:Bool),k12 y9=some r∧t=mk 47 [(1,aI a1),(2,aI y9),(32,.pv (zc za a0.fKids)),(33,aI ((sll a0.fKids).length:Int)),(34,aI y10),(35,aB y11)]∧H=[.box (zc7 a0) false])) ?_ ?_
      ·
       rintro _ _ ⟨y9,y10,y11,hm,rfl,rfl⟩
       subst hk12
       refine sq (dn [(6,aI y9)] (wp_ret ?_))
       obtain rfl:=Option.some.inj hm
       exact ⟨trivial,by kernel_rfl⟩
      refine sq (rg (s1 2 [(32,.pv (zc za a0.fKids)),(31,.ptr 0 7)] (dv 33 (v:=aI ((sll a0.fKids).length:Int)) (zC za a0.fKids t23 (by kernel_rfl)) (by kernel_rfl) (fq 1 [(1,aI a1),(2,aI (IntKind.wrap .i64 (a2 - 1))),(32,.pv (zc za a0.fKids)),(33,aI ((sll a0.fKids).length:Int)),(34,aI 0)] (bq ?_)))))
      refine qR (fun mm t H=>(∃ (y15:Int) (y16:Int),aaQ n rc_expr_count a0 a1 k12 mm y15 y16=some r∧t=mk 47 [(1,aI a1),(2,aI y15),(32,.pv (zc za a0.fKids)),(33,aI ((sll a0.fKids).length:Int)),(34,aI y16)]∧H=[.box (zc7 a0) false])) (⟨(IntKind.wrap .i64 (a2 - 1)),0,hm,rfl,rfl⟩) ?_ ?_
      · rintro _ _ ⟨y15,y16,hm,_⟩; exact nomatch hm
      rintro m17 _ _ ⟨y15,y16,hm,rfl,rfl⟩
      simp only [aaQ] at hm
      refine sq (dn [(1,aI a1),(2,aI y15),(32,.pv (zc za a0.fKids)),(33,aI ((sll a0.fKids).length:Int)),(34,aI y16),(35,aB (zg50 y16 a0))] ?_)
      refine sq ?_
      rcases zf hm with ⟨h18,hm⟩ | ⟨h18,hm⟩
      ·
       refine c1 h18 (wp_skip (sq (bq (sq (rg ?_)))))
       obtain ⟨x19,h20,hm⟩:=bs hm
       refine dv 36 (v:=.pv (.ptr (zg40 x19) 0)) (ZN za a0.fKids .i64 t23 t49 h20 (zu x19) rfl (by kernel_rfl)) (by kernel_rfl) (stf 3 [(1,aI a1),(2,aI y15),(8,.ptr 1 0),(32,.pv (zc za a0.fKids)),(33,aI ((sll a0.fKids).length:Int)),(34,aI y16)] [.box (zc7 a0) false,.box (zc9 x19) false] (by kernel_rfl) (sq (rg (s1 4 [(41,aI y15),(40,aI (IntKind.wrap .i64 (a1+1))),(39,aI a1),(38,.agg (zc9 x19))] ?_))))
       obtain ⟨x21,h22,hm⟩:=bs hm
       refine dv 42 (zF (by kernel_rfl) (ih_expr_count h22) (by kernel_rfl) (by kernel_rfl) (by kernel_rfl)) (by kernel_rfl) (fq 1 [(1,aI a1),(2,aI x21),(32,.pv (zc za a0.fKids)),(33,aI ((sll a0.fKids).length:Int)),(34,aI y16)] (sq (dn [(1,aI a1),(2,aI x21),(32,.pv (zc za a0.fKids)),(33,aI ((sll a0.fKids).length:Int)),(34,aI y16),(44,aB (decide (x21 < 0)))] ?_)))
       rcases zf hm with ⟨h23,hm⟩ | ⟨h23,hm⟩
       ·
        refine c1 h23 (sq (dn [(6,aI (-1))] (wp_ret ?_)))
        obtain rfl:=Option.some.inj hm
        exact ⟨trivial,by kernel_rfl⟩
       ·
        refine c0 h23 (wp_skip (dn [(1,aI a1),(2,aI x21),(32,.pv (zc za a0.fKids)),(33,aI ((sll a0.fKids).length:Int)),(34,aI (IntKind.wrap .i64 (y16+1)))] ?_))
        exact ⟨_,_,qd [(1,aI a1),(2,aI x21),(32,.pv (zc za a0.fKids)),(33,aI ((sll a0.fKids).length:Int)),(34,aI (IntKind.wrap .i64 (y16+1)))] [.box (zc7 a0) false] (by kernel_rfl),⟨x21,(IntKind.wrap .i64 (y16+1)),hm,rfl,rfl⟩⟩
      ·
       refine c0 h18 (wp_exit ?_)
       exact ⟨y15,y16,(zg50 y16 a0),hm,rfl,rfl⟩
theorem afb:∀ (m:Nat),∀ {n:Nat} {a0:zh} {a1:Int} {a2:Int} {r:Int} (hm:Qi m n a0 a1 a2=some r),call G n 182 [.agg (zc7 a0),aI a1,aI a2] []=some (.ret (aI r),[])
  | 0=>by intros; rename_i hm; exact nomatch hm
  | m+1=>fun hm=>
    ajm (afb m) hm
theorem ajP {n:Nat} {a0:zh} {a1:Int} {a2:Int} {r:Int} (hm:agh n a0 a1 a2=some r):
    call G n 182 [.agg (zc7 a0),aI a1,aI a2] []=some (.ret (aI r),[]):=afb n hm
theorem adO {n:Nat} {a0:zh} {r:Bool} (hm:abo n a0=some r):
    call G n 143 [.agg (zc7 a0)] []=some (.ret (aB r),[]):=by
  unfold abo at hm
  obtain ⟨n,rfl,h0⟩:=zp hm
  replace hm:=h0; clear h0
  refine Zt 6 [(0,.agg (zc7 a0))] func143 rfl (by kernel_rfl) (sq (det [(1,.ptr 0 0)] [.box (zc7 a0) false] (by kernel_rfl) (sq (rg (s1 1 [(3,.agg (zc7 a0))] ?_)))))
  obtain ⟨x1,h2,hm⟩:=bs hm
  refine dv 4 (zF (by kernel_rfl) (ajP h2) (by kernel_rfl) (by kernel_rfl) (by kernel_rfl)) (by kernel_rfl) (fq 2 [(2,aB (decide (x1≥0)))] (wp_ret ?_))
  obtain rfl:=Option.some.inj hm
  exact ⟨trivial,by kernel_rfl⟩
theorem aal {n:Nat} {a0:zh} {a1:(Option (List zk))} {r:Int ⊕ (Int)} (hm:abb n a0 a1=some r):
    call G n 184 [.agg (zc7 a0),.pv (zc zb a1)] []=some (PO 34 (fun (r:Int)=>aI r) r,[]):=by
  unfold abb at hm
  obtain ⟨n,rfl,h0⟩:=zp hm
  replace hm:=h0; clear h0
  refine ajR 34 [(0,.agg (zc7 a0)),(1,.pv (zc zb a1))] func184 rfl (by kernel_rfl) (sq (det [(1,.pv (zc zb a1)),(2,.ptr 0 0)] [.box (zc7 a0) false] (by kernel_rfl) ?_))
  refine sq (sq (rgd (shd 3 [(7,.pv (zc zb a1)),(6,aI a0.fRel),(5,.ptr 0 1)] (by kernel_rfl) (dvd 8 (v:=aI ((sll a1).length:Int)) (zC zb a1 t28 (by kernel_rfl)) (by kernel_rfl) (shd 2 [(10,aB (decide (a0.fRel≥((sll a1).length:Int)))),(9,aB (decide (a0.fRel≥((sll a1).length:Int))))] (by kernel_rfl) ?_)))))
  rcases zf hm with ⟨h1,hm⟩ | ⟨h1,hm⟩
  ·
   refine qj [10,9] h1 (by kernel_rfl) (shd 11 [(21,aB true),(20,.undef),(19,.undef),(18,.undef),(17,.undef),(16,.undef),(15,.undef),(14,.undef),(13,.undef),(12,.undef),(11,.undef)] (by kernel_rfl) (find [(1,.pv (zc zb a1)),(2,.ptr 0 0),(21,aB true)] rfl (by kernel_rfl) (by kernel_rfl) (cT (by kernel_rfl) (rg (s1 1 [(22,.pv (.ifc 34 (.int .i64 40)))] ?_)))))
   obtain rfl:=Option.some.inj hm
   exact rp0 (v:=.pv (.ifc 34 (.int .i64 40))) (by kernel_rfl) (by kernel_rfl) (fun _=>⟨trivial,by kernel_rfl⟩)
  ·
   refine qj [10,9] h1 (by kernel_rfl) (shd 5 [(15,aI a0.fRel),(14,.ptr 0 1),(13,.pv (zc zb a1)),(12,aI a0.fCol),(11,.ptr 0 2)] (by kernel_rfl) ?_)
   obtain ⟨x2,h3,hm⟩:=bs hm
   refine dvd 16 (v:=.pv (.ptr (zb x2) 0)) (Qy zb a1 .i64 t28 t84 h3 rfl (by kernel_rfl)) (by kernel_rfl) (shd 2 [(18,.pv (zc zQ x2.fCols)),(17,.pv (.ptr (zb x2) 1))] (by kernel_rfl) (dvd 19 (v:=aI ((sll x2.fCols).length:Int)) (zC zQ x2.fCols t82 (by kernel_rfl)) (by kernel_rfl) (shd 2 [(21,aB (decide (a0.fCol≥((sll x2.fCols).length:Int)))),(20,aB (decide (a0.fCol≥((sll x2.fCols).length:Int))))] (by kernel_rfl) (find [(1,.pv (zc zb a1)),(2,.ptr 0 0),(21,aB (decide (a0.fCol≥((sll x2.fCols).length:Int))))] rfl (by kernel_rfl) (by kernel_rfl) ?_))))
   rcases zf hm with ⟨h4,hm⟩ | ⟨h4,hm⟩
   ·
    refine c1 h4 (rg (s1 1 [(22,.pv (.ifc 34 (.int .i64 40)))] ?_))
    obtain rfl:=Option.some.inj hm
    exact rp0 (v:=.pv (.ifc 34 (.int .i64 40))) (by kernel_rfl) (by kernel_rfl) (fun _=>⟨trivial,by kernel_rfl⟩)
   ·
    refine c0 h4 (wp_skip (sq (rgd (shd 3 [(25,aI a0.fRel),(24,.ptr 0 1),(23,.pv (zc zb a1))] (by kernel_rfl) (dvd 26 (v:=.pv (.ptr (zb x2) 0)) (Qy zb a1 .i64 t28 t84 h3 rfl (by kernel_rfl)) (by kernel_rfl) (shd 4 [(30,aI a0.fCol),(29,.ptr 0 2),(28,.pv (zc zQ x2.fCols)),(27,.pv (.ptr (zb x2) 1))] (by kernel_rfl) ?_))))))
    obtain ⟨x5,h6,hm⟩:=bs hm
    refine dvd 31 (v:=.pv (.ptr (zQ x5) 0)) (Qy zQ x2.fCols .i64 t82 t81 h6 rfl (by kernel_rfl)) (by kernel_rfl) (shd 3 [(4,aI x5.fKind),(33,aI x5.fKind),(32,.pv (.ptr (zQ x5) 1))] (by kernel_rfl) (find [(4,aI x5.fKind)] rfl (by kernel_rfl) (by kernel_rfl) (wp_ret ?_)))
    obtain rfl:=Option.some.inj hm
    exact ⟨trivial,by kernel_rfl⟩
theorem ajA {rc_expr_refs:(Nat→zh→(Option (List zk))→Option (Int ⊕ (Unit)))} (ih_expr_refs:∀ {n:Nat} {a0:zh} {a1:(Option (List zk))} {r:Int ⊕ (Unit)} (hm:rc_expr_refs n a0 a1=some r),call G n 146 [.agg [aI a0.fKind,aI a0.fRel,aI a0.fCol,aI a0.fConst.fKind,aI a0.fConst.fInt,aF a0.fConst.fFloat,aS a0.fConst.fText,.pv (zc za a0.fKids)],.pv (zc zb a1)] []=some (PO 34 (fun (r:Unit)=>.tup []) r,[])) {n:Nat} {a0:zh} {a1:(Option (List zk))} {r:Int ⊕ (Unit)} (hm:ad5 rc_expr_refs n a0 a1=some r):
    call G n 146 [.agg (zc7 a0),.pv (zc zb a1)] []=some (PO 34 (fun (r:Unit)=>.tup []) r,[]):=by
  unfold ad5 at hm
  obtain ⟨n,rfl,h0⟩:=zp hm
  replace hm:=h0; clear h0
  refine ajR 23 [(0,.agg (zc7 a0)),(1,.pv (zc zb a1))] func146 rfl (by kernel_rfl) (sq (det [(1,.pv (zc zb a1)),(2,.ptr 0 0)] [.box (zc7 a0) false] (by kernel_rfl) ?_))
  obtain ⟨k2,hk2,hm⟩:=zw hm
  refine mid (fun t H=>(∃ (w1:AV),k2 ()=some r∧t=mk 23 [(1,.pv (zc zb a1)),(2,.ptr 0 0),(8,w1)]∧H=[.box (zc7 a0) false])) ?_ ?_
  ·
   rintro _ _ ⟨w1,hm,rfl,rfl⟩
   subst hk2
   refine sq (rg (s1 2 [(13,.pv (zc za a0.fKids)),(12,.ptr 0 7)] (dv 14 (v:=aI ((sll a0.fKids).length:Int)) (zC za a0.fKids t23 (by kernel_rfl)) (by kernel_rfl) (fq 1 [(1,.pv (zc zb a1)),(13,.pv (zc za a0.fKids)),(14,aI ((sll a0.fKids).length:Int)),(15,aI 0)] (bq ?_)))))
   refine qR (fun mm t H=>(∃ (y4:Int),Q1 n rc_expr_refs a0 a1 mm y4=some r∧t=mk 23 [(1,.pv (zc zb a1)),(13,.pv (zc za a0.fKids)),(14,aI ((sll a0.fKids).length:Int)),(15,aI y4)]∧H=[.box (zc7 a0) false])) (⟨0,hm,rfl,rfl⟩) ?_ ?_
   · rintro _ _ ⟨y4,hm,_⟩; exact nomatch hm
   rintro m5 _ _ ⟨y4,hm,rfl,rfl⟩
   simp only [Q1] at hm
   refine sq (dn [(1,.pv (zc zb a1)),(13,.pv (zc za a0.fKids)),(14,aI ((sll a0.fKids).length:Int)),(15,aI y4),(16,aB (zg50 y4 a0))] ?_)
   refine sq ?_
   rcases zf hm with ⟨h6,hm⟩ | ⟨h6,hm⟩
   ·
    refine c1 h6 (wp_skip (sq (bq (sq (rg ?_)))))
    obtain ⟨x7,h8,hm⟩:=bs hm
    refine dv 17 (v:=.pv (.ptr (Zy (zg x7)) 0)) (ZN za a0.fKids .i64 t23 t49 h8 (zu x7) rfl (by kernel_rfl)) (by kernel_rfl) (stf 3 [(1,.pv (zc zb a1)),(5,.ptr 1 0),(13,.pv (zc za a0.fKids)),(14,aI ((sll a0.fKids).length:Int)),(15,aI y4)] [.box (zc7 a0) false,.box (zc9 x7) false] (by kernel_rfl) (rg (s1 2 [(20,.pv (zc zb a1)),(19,.agg (zc9 x7))] ?_)))
    obtain ⟨x9,h10,hm⟩:=bs hm
    rcases x9 with x11 | x9
    ·
     obtain rfl:=Option.some.inj hm
     exact rp0 (v:=.pv (.ifc 34 (.int .i64 x11))) (cpan (by kernel_rfl) (ih_expr_refs h10) (by kernel_rfl) (by kernel_rfl) (by kernel_rfl)) (by kernel_rfl) (fun _=>⟨trivial,by kernel_rfl⟩)
    ·
     refine dv 21 (zF (by kernel_rfl) (ih_expr_refs h10) (by kernel_rfl) (by kernel_rfl) (by kernel_rfl)) (by kernel_rfl) (fin [(1,.pv (zc zb a1)),(13,.pv (zc za a0.fKids)),(14,aI ((sll a0.fKids).length:Int)),(15,aI y4)] rfl (by kernel_rfl) (dn [(1,.pv (zc zb a1)),(13,.pv (zc za a0.fKids)),(14,aI ((sll a0.fKids).length:Int)),(15,aI (IntKind.wrap .i64 (y4+1)))] ?_))
     exact ⟨_,_,qd [(1,.pv (zc zb a1)),(13,.pv (zc za a0.fKids)),(14,aI ((sll a0.fKids).length:Int)),(15,aI (IntKind.wrap .i64 (y4+1)))] [.box (zc7 a0) false] (by kernel_rfl),⟨(IntKind.wrap .i64 (y4+1)),hm,rfl,rfl⟩⟩
   ·
    refine c0 h6 (wp_exit ?_)
    obtain rfl:=Option.some.inj hm
    exact ⟨trivial,by kernel_rfl⟩
  refine sq (dn [(1,.pv (zc zb a1)),(2,.ptr 0 0),(8,aB (a0.fKind == 1))] ?_)
  rcases zf hm with ⟨h12,hm⟩ | ⟨h12,hm⟩
  ·
   refine c1 h12 (rg (s1 2 [(10,.pv (zc zb a1)),(9,.agg (zc7 a0))] ?_))
   obtain ⟨x13,h14,hm⟩:=bs hm
   rcases x13 with x15 | x13
   ·
    obtain rfl:=Option.some.inj hm
    exact rp0 (v:=.pv (.ifc 34 (.int .i64 x15))) (cpan (by kernel_rfl) (aal h14) (by kernel_rfl) (by kernel_rfl) (by kernel_rfl)) (by kernel_rfl) (fun _=>⟨trivial,by kernel_rfl⟩)
   ·
    refine dv 11 (zF (by kernel_rfl) (aal h14) (by kernel_rfl) (by kernel_rfl) (by kernel_rfl)) (by kernel_rfl) (fin [(1,.pv (zc zb a1)),(2,.ptr 0 0)] rfl (by kernel_rfl) ?_)
    exact ⟨.any,hm,(zJ (by kernel_rfl)),rfl⟩
  ·
   refine c0 h12 (wp_skip ?_)
   exact ⟨aB (a0.fKind == 1),hm,(zJ (by kernel_rfl)),rfl⟩
theorem af3:∀ (m:Nat),∀ {n:Nat} {a0:zh} {a1:(Option (List zk))} {r:Int ⊕ (Unit)} (hm:aa6 m n a0 a1=some r),call G n 146 [.agg (zc7 a0),.pv (zc zb a1)] []=some (PO 34 (fun (r:Unit)=>.tup []) r,[])
  | 0=>by intros; rename_i hm; exact nomatch hm
  | m+1=>fun hm=>
    ajA (af3 m) hm
theorem agX {n:Nat} {a0:zh} {a1:(Option (List zk))} {r:Int ⊕ (Unit)} (hm:ajW n a0 a1=some r):
    call G n 146 [.agg (zc7 a0),.pv (zc zb a1)] []=some (PO 34 (fun (r:Unit)=>.tup []) r,[]):=af3 n hm
theorem aeR {n:Nat} {a0:Int} {r:Bool} (hm:ab5 n a0=some r):
    call G n 186 [aI a0] []=some (.ret (aB r),[]):=by
  unfold ab5 at hm
  obtain ⟨n,rfl,h0⟩:=zp hm
  replace hm:=h0; clear h0
  refine Zt 13 [(0,aI a0)] func186 rfl (by kernel_rfl) (sq (dn [(0,aI a0)] (sq (rg (s1 3 [(5,aB (a0 == 0)),(4,aB (a0 == 0)),(3,aI a0)] ?_)))))
  refine segP (a0 == 0) [5,4] (fun b=>[(8,aB (b || (a0 == 2))),(7,ifA b (.undef) (aB (a0 == 2))),(6,ifA b (.undef) (aI a0))]) 3 (by kernel_rfl) (by kernel_rfl) (by kernel_rfl) (s1 1 [(9,aB ((a0 == 0) || (a0 == 2)))] ?_)
  refine segP ((a0 == 0) || (a0 == 2)) [9,8] (fun b=>[(12,aB (b || (a0 == 3))),(11,ifA b (.undef) (aB (a0 == 3))),(10,ifA b (.undef) (aI a0))]) 3 (by kernel_rfl) (by kernel_rfl) (by kernel_rfl) (fq 1 [(2,aB (((a0 == 0) || (a0 == 2)) || (a0 == 3)))] (wp_ret ?_))
  obtain rfl:=Option.some.inj hm
  exact ⟨trivial,by kernel_rfl⟩
theorem Ql {n:Nat} {a0:Int} {a1:Int} {r:Int ⊕ (Int)} (hm:qx n a0 a1=some r):
    call G n 185 [aI a0,aI a1,.pv (.fn 186 [] [])] []=some (PO 34 (fun (r:Int)=>aI r) r,[]):=by
  unfold qx at hm
  obtain ⟨n,rfl,h0⟩:=zp hm
  replace hm:=h0; clear h0
  refine ajR 34 [(0,aI a0),(1,aI a1),(2,.pv (.fn 186 [] []))] func185 rfl (by kernel_rfl) (sq (dn [(0,aI a0),(1,aI a1),(2,.pv (.fn 186 [] []))] (sq (sq (rg (s1 2 [(8,aI a0),(7,.pv (.fn 186 [] []))] ?_))))))
  obtain ⟨x1,h2,hm⟩:=bs hm
  refine dv 9 (zF (by kernel_rfl) (aeR h2) (by kernel_rfl) (by kernel_rfl) (by kernel_rfl)) (by kernel_rfl) (s1 2 [(11,aB (!x1)),(10,aB (!x1))] ?_)
  rcases zf hm with ⟨h3,hm⟩ | ⟨h3,hm⟩
  ·
   refine known [11,10] h3 (by kernel_rfl) (fq 18 [(0,aI a0),(1,aI a1),(29,aB true)] (cT (by kernel_rfl) (rg (s1 1 [(30,.pv (.ifc 34 (.int .i64 50)))] ?_))))
   obtain rfl:=Option.some.inj hm
   exact rp0 (v:=.pv (.ifc 34 (.int .i64 50))) (by kernel_rfl) (by kernel_rfl) (fun _=>⟨trivial,by kernel_rfl⟩)
  ·
   refine known [11,10] h3 (by kernel_rfl) (s1 2 [(13,aI a1),(12,.pv (.fn 186 [] []))] ?_)
   obtain ⟨x4,h5,hm⟩:=bs hm
   refine dv 14 (zF (by kernel_rfl) (aeR h5) (by kernel_rfl) (by kernel_rfl) (by kernel_rfl)) (by kernel_rfl) (s1 3 [(17,aB (!x4)),(16,aB (!x4)),(15,aB (!x4))] ?_)
   refine seg (!x4) [17,16,15] (fun b=>[(29,aB (b || (((a0 != 0) && (a1 != 0)) && (a0 != a1)))),(28,ifA b (.undef) (aB (((a0 != 0) && (a1 != 0)) && (a0 != a1)))),(27,ifA b (.undef) (ifA ((a0 != 0) && (a1 != 0)) (aB (a0 != a1)) (.undef))),(26,ifA b (.undef) (ifA ((a0 != 0) && (a1 != 0)) (aI a1) (.undef))),(25,ifA b (.undef) (ifA ((a0 != 0) && (a1 != 0)) (aI a0) (.undef))),(24,ifA b (.undef) (aB ((a0 != 0) && (a1 != 0)))),(23,ifA b (.undef) (aB ((a0 != 0) && (a1 != 0)))),(22,ifA b (.undef) (ifA (a0 != 0) (aB (a1 != 0)) (.undef))),(21,ifA b (.undef) (ifA (a0 != 0) (aI a1) (.undef))),(20,ifA b (.undef) (aB (a0 != 0))),(19,ifA b (.undef) (aB (a0 != 0))),(18,ifA b (.undef) (aI a0))]) 23 (by kernel_rfl) ?_ ?_ ?_
   ·
    intro Q h
    refine s1 12 [(29,aB true),(28,.undef),(27,.undef),(26,.undef),(25,.undef),(24,.undef),(23,.undef),(22,.undef),(21,.undef),(20,.undef),(19,.undef),(18,.undef)] ?_
    exact QS (by kernel_rfl) (by kernel_rfl) h
   ·
    intro Q h
    refine s1 3 [(20,aB (a0 != 0)),(19,aB (a0 != 0)),(18,aI a0)] ?_
    refine segP (a0 != 0) [20,19] (fun b=>[(23,aB (b && (a1 != 0))),(22,ifA b (aB (a1 != 0)) (.undef)),(21,ifA b (aI a1) (.undef))]) 3 (by kernel_rfl) (by kernel_rfl) (by kernel_rfl) (s1 1 [(24,aB ((a0 != 0) && (a1 != 0)))] ?_)
    refine segP ((a0 != 0) && (a1 != 0)) [24,23] (fun b=>[(28,aB (b && (a0 != a1))),(27,ifA b (aB (a0 != a1)) (.undef)),(26,ifA b (aI a1) (.undef)),(25,ifA b (aI a0) (.undef))]) 4 (by kernel_rfl) (by kernel_rfl) (by kernel_rfl) (s1 1 [(29,aB (((a0 != 0) && (a1 != 0)) && (a0 != a1)))] ?_)
    exact QS (by kernel_rfl) (by kernel_rfl) h
   refine fin [(0,aI a0),(1,aI a1),(29,aB ((!x4) || (((a0 != 0) && (a1 != 0)) && (a0 != a1))))] rfl (by kernel_rfl) ?_
   rcases zf hm with ⟨h6,hm⟩ | ⟨h6,hm⟩
   ·
    refine c1 h6 (rg (s1 1 [(30,.pv (.ifc 34 (.int .i64 50)))] ?_))
    obtain rfl:=Option.some.inj hm
    exact rp0 (v:=.pv (.ifc 34 (.int .i64 50))) (by kernel_rfl) (by kernel_rfl) (fun _=>⟨trivial,by kernel_rfl⟩)
   ·
    refine c0 h6 (wp_skip (sq (dn [(6,aI (if a1 > a0 then a1 else a0))] (wp_ret ?_))))
    obtain rfl:=Option.some.inj hm
    exact ⟨trivial,by kernel_rfl⟩
theorem aeV {n:Nat} {a0:Int} {r:Bool} (hm:acm n a0=some r):
    call G n 187 [aI a0] []=some (.ret (aB r),[]):=by
  unfold acm at hm
  obtain ⟨n,rfl,h0⟩:=zp hm
  replace hm:=h0; clear h0
  refine Zt 3 [(0,aI a0)] func187 rfl (by kernel_rfl) (sq (dn [] (sq (dn [(2,aB true)] (wp_ret ?_)))))
  obtain rfl:=Option.some.inj hm
  exact ⟨trivial,by kernel_rfl⟩
theorem abD {n:Nat} {a0:Int} {a1:Int} {r:Int ⊕ (Int)} (hm:Qb n a0 a1=some r):
    call G n 185 [aI a0,aI a1,.pv (.fn 187 [] [])] []=some (PO 34 (fun (r:Int)=>aI r) r,[]):=by
  unfold Qb at hm
  obtain ⟨n,rfl,h0⟩:=zp hm
  replace hm:=h0; clear h0
  refine ajR 34 [(0,aI a0),(1,aI a1),(2,.pv (.fn 187 [] []))] func185 rfl (by kernel_rfl) (sq (dn [(0,aI a0),(1,aI a1),(2,.pv (.fn 187 [] []))] (sq (sq (rg (s1 2 [(8,aI a0),(7,.pv (.fn 187 [] []))] ?_))))))
  obtain ⟨x1,h2,hm⟩:=bs hm
  refine dv 9 (zF (by kernel_rfl) (aeV h2) (by kernel_rfl) (by kernel_rfl) (by kernel_rfl)) (by kernel_rfl) (s1 2 [(11,aB (!x1)),(10,aB (!x1))] ?_)
  rcases zf hm with ⟨h3,hm⟩ | ⟨h3,hm⟩
  ·
   refine known [11,10] h3 (by kernel_rfl) (fq 18 [(0,aI a0),(1,aI a1),(29,aB true)] (cT (by kernel_rfl) (rg (s1 1 [(30,.pv (.ifc 34 (.int .i64 50)))] ?_))))
   obtain rfl:=Option.some.inj hm
   exact rp0 (v:=.pv (.ifc 34 (.int .i64 50))) (by kernel_rfl) (by kernel_rfl) (fun _=>⟨trivial,by kernel_rfl⟩)
  ·
   refine known [11,10] h3 (by kernel_rfl) (s1 2 [(13,aI a1),(12,.pv (.fn 187 [] []))] ?_)
   obtain ⟨x4,h5,hm⟩:=bs hm
   refine dv 14 (zF (by kernel_rfl) (aeV h5) (by kernel_rfl) (by kernel_rfl) (by kernel_rfl)) (by kernel_rfl) (s1 3 [(17,aB (!x4)),(16,aB (!x4)),(15,aB (!x4))] ?_)
   refine seg (!x4) [17,16,15] (fun b=>[(29,aB (b || (((a0 != 0) && (a1 != 0)) && (a0 != a1)))),(28,ifA b (.undef) (aB (((a0 != 0) && (a1 != 0)) && (a0 != a1)))),(27,ifA b (.undef) (ifA ((a0 != 0) && (a1 != 0)) (aB (a0 != a1)) (.undef))),(26,ifA b (.undef) (ifA ((a0 != 0) && (a1 != 0)) (aI a1) (.undef))),(25,ifA b (.undef) (ifA ((a0 != 0) && (a1 != 0)) (aI a0) (.undef))),(24,ifA b (.undef) (aB ((a0 != 0) && (a1 != 0)))),(23,ifA b (.undef) (aB ((a0 != 0) && (a1 != 0)))),(22,ifA b (.undef) (ifA (a0 != 0) (aB (a1 != 0)) (.undef))),(21,ifA b (.undef) (ifA (a0 != 0) (aI a1) (.undef))),(20,ifA b (.undef) (aB (a0 != 0))),(19,ifA b (.undef) (aB (a0 != 0))),(18,ifA b (.undef) (aI a0))]) 23 (by kernel_rfl) ?_ ?_ ?_
   ·
    intro Q h
    refine s1 12 [(29,aB true),(28,.undef),(27,.undef),(26,.undef),(25,.undef),(24,.undef),(23,.undef),(22,.undef),(21,.undef),(20,.undef),(19,.undef),(18,.undef)] ?_
    exact QS (by kernel_rfl) (by kernel_rfl) h
   ·
    intro Q h
    refine s1 3 [(20,aB (a0 != 0)),(19,aB (a0 != 0)),(18,aI a0)] ?_
    refine segP (a0 != 0) [20,19] (fun b=>[(23,aB (b && (a1 != 0))),(22,ifA b (aB (a1 != 0)) (.undef)),(21,ifA b (aI a1) (.undef))]) 3 (by kernel_rfl) (by kernel_rfl) (by kernel_rfl) (s1 1 [(24,aB ((a0 != 0) && (a1 != 0)))] ?_)
    refine segP ((a0 != 0) && (a1 != 0)) [24,23] (fun b=>[(28,aB (b && (a0 != a1))),(27,ifA b (aB (a0 != a1)) (.undef)),(26,ifA b (aI a1) (.undef)),(25,ifA b (aI a0) (.undef))]) 4 (by kernel_rfl) (by kernel_rfl) (by kernel_rfl) (s1 1 [(29,aB (((a0 != 0) && (a1 != 0)) && (a0 != a1)))] ?_)
    exact QS (by kernel_rfl) (by kernel_rfl) h
   refine fin [(0,aI a0),(1,aI a1),(29,aB ((!x4) || (((a0 != 0) && (a1 != 0)) && (a0 != a1))))] rfl (by kernel_rfl) ?_
   rcases zf hm with ⟨h6,hm⟩ | ⟨h6,hm⟩
   ·
    refine c1 h6 (rg (s1 1 [(30,.pv (.ifc 34 (.int .i64 50)))] ?_))
    obtain rfl:=Option.some.inj hm
    exact rp0 (v:=.pv (.ifc 34 (.int .i64 50))) (by kernel_rfl) (by kernel_rfl) (fun _=>⟨trivial,by kernel_rfl⟩)
   ·
    refine c0 h6 (wp_skip (sq (dn [(6,aI (if a1 > a0 then a1 else a0))] (wp_ret ?_))))
    obtain rfl:=Option.some.inj hm
    exact ⟨trivial,by kernel_rfl⟩
theorem af7 {n:Nat} {a0:Int} {r:Bool} (hm:adS n a0=some r):
    call G n 188 [aI a0] []=some (.ret (aB r),[]):=by
  unfold adS at hm
  obtain ⟨n,rfl,h0⟩:=zp hm
  replace hm:=h0; clear h0
  refine Zt 9 [(0,aI a0)] func188 rfl (by kernel_rfl) (sq (dn [(0,aI a0)] (sq (rg (s1 3 [(5,aB (a0 == 0)),(4,aB (a0 == 0)),(3,aI a0)] ?_)))))
  refine segP (a0 == 0) [5,4] (fun b=>[(8,aB (b || (a0 == 1))),(7,ifA b (.undef) (aB (a0 == 1))),(6,ifA b (.undef) (aI a0))]) 3 (by kernel_rfl) (by kernel_rfl) (by kernel_rfl) (fq 1 [(2,aB ((a0 == 0) || (a0 == 1)))] (wp_ret ?_))
  obtain rfl:=Option.some.inj hm
  exact ⟨trivial,by kernel_rfl⟩
theorem Qz {n:Nat} {a0:Int} {a1:Int} {r:Int ⊕ (Int)} (hm:qU n a0 a1=some r):
    call G n 185 [aI a0,aI a1,.pv (.fn 188 [] [])] []=some (PO 34 (fun (r:Int)=>aI r) r,[]):=by
  unfold qU at hm
  obtain ⟨n,rfl,h0⟩:=zp hm
  replace hm:=h0; clear h0
  refine ajR 34 [(0,aI a0),(1,aI a1),(2,.pv (.fn 188 [] []))] func185 rfl (by kernel_rfl) (sq (dn [(0,aI a0),(1,aI a1),(2,.pv (.fn 188 [] []))] (sq (sq (rg (s1 2 [(8,aI a0),(7,.pv (.fn 188 [] []))] ?_))))))
  obtain ⟨x1,h2,hm⟩:=bs hm
  refine dv 9 (zF (by kernel_rfl) (af7 h2) (by kernel_rfl) (by kernel_rfl) (by kernel_rfl)) (by kernel_rfl) (s1 2 [(11,aB (!x1)),(10,aB (!x1))] ?_)
  rcases zf hm with ⟨h3,hm⟩ | ⟨h3,hm⟩
  ·
   refine known [11,10] h3 (by kernel_rfl) (fq 18 [(0,aI a0),(1,aI a1),(29,aB true)] (cT (by kernel_rfl) (rg (s1 1 [(30,.pv (.ifc 34 (.int .i64 50)))] ?_))))
   obtain rfl:=Option.some.inj hm
   exact rp0 (v:=.pv (.ifc 34 (.int .i64 50))) (by kernel_rfl) (by kernel_rfl) (fun _=>⟨trivial,by kernel_rfl⟩)
  ·
   refine known [11,10] h3 (by kernel_rfl) (s1 2 [(13,aI a1),(12,.pv (.fn 188 [] []))] ?_)
   obtain ⟨x4,h5,hm⟩:=bs hm
   refine dv 14 (zF (by kernel_rfl) (af7 h5) (by kernel_rfl) (by kernel_rfl) (by kernel_rfl)) (by kernel_rfl) (s1 3 [(17,aB (!x4)),(16,aB (!x4)),(15,aB (!x4))] ?_)
   refine seg (!x4) [17,16,15] (fun b=>[(29,aB (b || (((a0 != 0) && (a1 != 0)) && (a0 != a1)))),(28,ifA b (.undef) (aB (((a0 != 0) && (a1 != 0)) && (a0 != a1)))),(27,ifA b (.undef) (ifA ((a0 != 0) && (a1 != 0)) (aB (a0 != a1)) (.undef))),(26,ifA b (.undef) (ifA ((a0 != 0) && (a1 != 0)) (aI a1) (.undef))),(25,ifA b (.undef) (ifA ((a0 != 0) && (a1 != 0)) (aI a0) (.undef))),(24,ifA b (.undef) (aB ((a0 != 0) && (a1 != 0)))),(23,ifA b (.undef) (aB ((a0 != 0) && (a1 != 0)))),(22,ifA b (.undef) (ifA (a0 != 0) (aB (a1 != 0)) (.undef))),(21,ifA b (.undef) (ifA (a0 != 0) (aI a1) (.undef))),(20,ifA b (.undef) (aB (a0 != 0))),(19,ifA b (.undef) (aB (a0 != 0))),(18,ifA b (.undef) (aI a0))]) 23 (by kernel_rfl) ?_ ?_ ?_
   ·
    intro Q h
    refine s1 12 [(29,aB true),(28,.undef),(27,.undef),(26,.undef),(25,.undef),(24,.undef),(23,.undef),(22,.undef),(21,.undef),(20,.undef),(19,.undef),(18,.undef)] ?_
    exact QS (by kernel_rfl) (by kernel_rfl) h
   ·
    intro Q h
    refine s1 3 [(20,aB (a0 != 0)),(19,aB (a0 != 0)),(18,aI a0)] ?_
    refine segP (a0 != 0) [20,19] (fun b=>[(23,aB (b && (a1 != 0))),(22,ifA b (aB (a1 != 0)) (.undef)),(21,ifA b (aI a1) (.undef))]) 3 (by kernel_rfl) (by kernel_rfl) (by kernel_rfl) (s1 1 [(24,aB ((a0 != 0) && (a1 != 0)))] ?_)
    refine segP ((a0 != 0) && (a1 != 0)) [24,23] (fun b=>[(28,aB (b && (a0 != a1))),(27,ifA b (aB (a0 != a1)) (.undef)),(26,ifA b (aI a1) (.undef)),(25,ifA b (aI a0) (.undef))]) 4 (by kernel_rfl) (by kernel_rfl) (by kernel_rfl) (s1 1 [(29,aB (((a0 != 0) && (a1 != 0)) && (a0 != a1)))] ?_)
    exact QS (by kernel_rfl) (by kernel_rfl) h
   refine fin [(0,aI a0),(1,aI a1),(29,aB ((!x4) || (((a0 != 0) && (a1 != 0)) && (a0 != a1))))] rfl (by kernel_rfl) ?_
   rcases zf hm with ⟨h6,hm⟩ | ⟨h6,hm⟩
   ·
    refine c1 h6 (rg (s1 1 [(30,.pv (.ifc 34 (.int .i64 50)))] ?_))
    obtain rfl:=Option.some.inj hm
    exact rp0 (v:=.pv (.ifc 34 (.int .i64 50))) (by kernel_rfl) (by kernel_rfl) (fun _=>⟨trivial,by kernel_rfl⟩)
   ·
    refine c0 h6 (wp_skip (sq (dn [(6,aI (if a1 > a0 then a1 else a0))] (wp_ret ?_))))
    obtain rfl:=Option.some.inj hm
    exact ⟨trivial,by kernel_rfl⟩
abbrev zg51 (p0:(List Int)) (p1:Int):=((p0++([p1]:List Int)).length)
theorem aiN {rc_expr_typed:(Nat→zh→(Option (List zk))→Option (Int ⊕ (Int)))} (ih_expr_typed:∀ {n:Nat} {a0:zh} {a1:(Option (List zk))} {r:Int ⊕ (Int)} (hm:rc_expr_typed n a0 a1=some r),call G n 147 [.agg [aI a0.fKind,aI a0.fRel,aI a0.fCol,aI a0.fConst.fKind,aI a0.fConst.fInt,aF a0.fConst.fFloat,aS a0.fConst.fText,.pv (zc za a0.fKids)],.pv (zc zb a1)] []=some (PO 34 (fun (r:Int)=>aI r) r,[])) {n:Nat} {a0:zh} {a1:(Option (List zk))} {r:Int ⊕ (Int)} (hm:adq rc_expr_typed n a0 a1=some r):
    call G n 147 [.agg (zc7 a0),.pv (zc zb a1)] []=some (PO 34 (fun (r:Int)=>aI r) r,[]):=by
  unfold adq at hm
  obtain ⟨n,rfl,h0⟩:=zp hm
  replace hm:=h0; clear h0
  refine ajR 84 [(0,.agg (zc7 a0)),(1,.pv (zc zb a1))] func147 rfl (by kernel_rfl) (sq (det [(1,.pv (zc zb a1)),(2,.ptr 0 0)] [.box (zc7 a0) false] (by kernel_rfl) (sq (dn [(1,.pv (zc zb a1)),(2,.ptr 0 0),(5,.pv .nils)] ?_))))
  obtain ⟨k4,hk4,hm⟩:=zw hm
  refine mid (fun t H=>(∃ (w1:AV) (w2:AV),k4 none=some r∧t=mk 84 [(1,.pv (zc zb a1)),(2,.ptr 0 0),(5,.pv .nils),(9,.pv (zc za a0.fKids)),(10,aI ((sll a0.fKids).length:Int)),(11,w1),(12,w2)]∧H=[.box (zc7 a0) false])∨(∃ (y3:(List Int)) (w1:AV) (w2:AV),k4 (some y3)=some r∧t=mk 84 [(1,.pv (zc zb a1)),(2,.ptr 0 0),(5,aR 1 1 y3.length),(9,.pv (zc za a0.fKids)),(10,aI ((sll a0.fKids).length:Int)),(11,w1),(12,w2)]∧H=[.box (zc7 a0) false,bR 3 1 (rI .i64) y3 0 0])) ?_ ?_
  ·
   rintro _ _ (⟨w1,w2,hm,rfl,rfl⟩ | ⟨y3,w1,w2,hm,rfl,rfl⟩)
   ·
    subst hk4
    refine sq (sq (dn [(1,.pv (zc zb a1)),(2,.ptr 0 0),(5,.pv .nils),(23,aI a0.fKind)] (bq (sq (dn [(1,.pv (zc zb a1)),(2,.ptr 0 0),(5,.pv .nils),(23,aI a0.fKind),(24,aB (a0.fKind == 1))] ?_)))))
    rcases zf hm with ⟨h5,hm⟩ | ⟨h5,hm⟩
    ·
     refine c1 h5 (sq (rg (s1 2 [(27,.pv (zc zb a1)),(26,.agg (zc7 a0))] ?_)))
     obtain ⟨x6,h7,hm⟩:=bs hm
     rcases x6 with x8 | x6
     ·
      obtain rfl:=Option.some.inj hm
      exact rp0 (v:=.pv (.ifc 34 (.int .i64 x8))) (cpan (by kernel_rfl) (aal h7) (by kernel_rfl) (by kernel_rfl) (by kernel_rfl)) (by kernel_rfl) (fun _=>⟨trivial,by kernel_rfl⟩)
     ·
      refine dv 28 (zF (by kernel_rfl) (aal h7) (by kernel_rfl) (by kernel_rfl) (by kernel_rfl)) (by kernel_rfl) (fq 1 [(4,aI x6)] (wp_ret ?_))
      obtain rfl:=Option.some.inj hm
      exact ⟨trivial,by kernel_rfl⟩
    ·
     refine c0 h5 (sq (dn [(2,.ptr 0 0),(5,.pv .nils),(23,aI a0.fKind),(29,aB (a0.fKind == 2))] ?_))
     rcases zf hm with ⟨h9,hm⟩ | ⟨h9,hm⟩
     ·
      refine c1 h9 (sq (dn [(4,aI a0.fConst.fKind)] (wp_ret ?_)))
      obtain rfl:=Option.some.inj hm
      exact ⟨trivial,by kernel_rfl⟩
     ·
      refine c0 h9 ?_
      obtain ⟨k11,hk11,hm⟩:=zw hm
      refine mid (fun t H=>(∃ (y10:Bool),k11 y10=some r∧t=mk 84 [(5,.pv .nils),(23,aI a0.fKind),(34,aB y10)]∧H=[.box (zc7 a0) false])) ?_ ?_
      ·
       rintro _ _ ⟨y10,hm,rfl,rfl⟩
       subst hk11
       rcases zf hm with ⟨h12,hm⟩ | ⟨h12,hm⟩
       ·
        refine c1 h12 (sq (rgd (shd 1 [(38,.pv .nils)] (by kernel_rfl) ?_)))
        cases hm
       ·
        refine c0 h12 (sq (dn [(5,.pv .nils),(23,aI a0.fKind),(45,aB (a0.fKind == 6))] ?_))
        rcases zf hm with ⟨h13,hm⟩ | ⟨h13,hm⟩
        ·
         refine c1 h13 (sq (rgd (shd 1 [(47,.pv .nils)] (by kernel_rfl) ?_)))
         cases hm
        ·
         refine c0 h13 ?_
         obtain ⟨k15,hk15,hm⟩:=zw hm
         refine mid (fun t H=>(∃ (y14:Bool),k15 y14=some r∧t=mk 84 [(5,.pv .nils),(23,aI a0.fKind),(54,aB y14)]∧H=[.box (zc7 a0) false])) ?_ ?_
         ·
          rintro _ _ ⟨y14,hm,rfl,rfl⟩
          subst hk15
          rcases zf hm with ⟨h16,hm⟩ | ⟨h16,hm⟩
          ·
           refine c1 h16 (rgd (shd 1 [(58,.pv .nils)] (by kernel_rfl) ?_))
           cases hm
          ·
           refine c0 h16 ?_
           obtain ⟨k18,hk18,hm⟩:=zw hm
           refine mid (fun t H=>(∃ (y17:Bool),k18 y17=some r∧t=mk 84 [(5,.pv .nils),(23,aI a0.fKind),(65,aB y17)]∧H=[.box (zc7 a0) false])) ?_ ?_
           ·
            rintro _ _ ⟨y17,hm,rfl,rfl⟩
            subst hk18
            rcases zf hm with ⟨h19,hm⟩ | ⟨h19,hm⟩
            ·
             refine c1 h19 (rgd (shd 1 [(68,.pv .nils)] (by kernel_rfl) ?_))
             cases hm
            ·
             refine c0 h19 (sq (dn [(5,.pv .nils),(75,aB (a0.fKind == 12))] ?_))
             rcases zf hm with ⟨h20,hm⟩ | ⟨h20,hm⟩
             ·
              refine c1 h20 (rgd (shd 1 [(77,.pv .nils)] (by kernel_rfl) ?_))
              cases hm
             ·
              refine c0 h20 (wp_skip (sq (dn [(4,aI 1)] (wp_ret ?_))))
              obtain rfl:=Option.some.inj hm
              exact ⟨trivial,by kernel_rfl⟩
           refine sq (dn [(5,.pv .nils),(23,aI a0.fKind),(65,aB (a0.fKind == 10))] ?_)
           rcases zf hm with ⟨h21,hm⟩ | ⟨h21,hm⟩
           ·
            refine c1 h21 (wp_skip ?_)
            exact ⟨(a0.fKind == 10),hm,rfl,rfl⟩
           ·
            refine c0 h21 (dn [(5,.pv .nils),(23,aI a0.fKind),(65,aB (a0.fKind == 11))] ?_)
            exact ⟨(a0.fKind == 11),hm,rfl,rfl⟩
         refine sq (dn [(5,.pv .nils),(23,aI a0.fKind),(54,aB (a0.fKind == 7))] ?_)
         rcases zf hm with ⟨h22,hm⟩ | ⟨h22,hm⟩
         ·
          refine c1 h22 (wp_skip ?_)
          exact ⟨(a0.fKind == 7),hm,rfl,rfl⟩
         ·
          refine c0 h22 (sq (dn [(5,.pv .nils),(23,aI a0.fKind),(54,aB (a0.fKind == 8))] ?_))
          rcases zf hm with ⟨h23,hm⟩ | ⟨h23,hm⟩
          ·
           refine c1 h23 (wp_skip ?_)
           exact ⟨(a0.fKind == 8),hm,rfl,rfl⟩
          ·
           refine c0 h23 (dn [(5,.pv .nils),(23,aI a0.fKind),(54,aB (a0.fKind == 9))] ?_)
           exact ⟨(a0.fKind == 9),hm,rfl,rfl⟩
      refine sq (dn [(5,.pv .nils),(23,aI a0.fKind),(34,aB (a0.fKind == 3))] ?_)
      rcases zf hm with ⟨h24,hm⟩ | ⟨h24,hm⟩
      ·
       refine c1 h24 (wp_skip ?_)
       exact ⟨(a0.fKind == 3),hm,rfl,rfl⟩
      ·
       refine c0 h24 (sq (dn [(5,.pv .nils),(23,aI a0.fKind),(34,aB (a0.fKind == 4))] ?_))
       rcases zf hm with ⟨h25,hm⟩ | ⟨h25,hm⟩
       ·
        refine c1 h25 (wp_skip ?_)
        exact ⟨(a0.fKind == 4),hm,rfl,rfl⟩
       ·
        refine c0 h25 (dn [(5,.pv .nils),(23,aI a0.fKind),(34,aB (a0.fKind == 5))] ?_)
        exact ⟨(a0.fKind == 5),hm,rfl,rfl⟩
   ·
    subst hk4
    refine sq (sq (dn [(1,.pv (zc zb a1)),(2,.ptr 0 0),(5,aR 1 1 y3.length),(23,aI a0.fKind)] (bq (sq (dn [(1,.pv (zc zb a1)),(2,.ptr 0 0),(5,aR 1 1 y3.length),(23,aI a0.fKind),(24,aB (a0.fKind == 1))] ?_)))))
    rcases zf hm with ⟨h26,hm⟩ | ⟨h26,hm⟩
    ·
     refine c1 h26 (sq (rg (s1 2 [(27,.pv (zc zb a1)),(26,.agg (zc7 a0))] ?_)))
     obtain ⟨x27,h28,hm⟩:=bs hm
     rcases x27 with x29 | x27
     ·
      obtain rfl:=Option.some.inj hm
      exact rp0 (v:=.pv (.ifc 34 (.int .i64 x29))) (cpan (by kernel_rfl) (aal h28) (by kernel_rfl) (by kernel_rfl) (by kernel_rfl)) (by kernel_rfl) (fun _=>⟨trivial,by kernel_rfl⟩)
     ·
      refine dv 28 (zF (by kernel_rfl) (aal h28) (by kernel_rfl) (by kernel_rfl) (by kernel_rfl)) (by kernel_rfl) (fq 1 [(4,aI x27)] (wp_ret ?_))
      obtain rfl:=Option.some.inj hm
      exact ⟨trivial,by kernel_rfl⟩
    ·
     refine c0 h26 (sq (dn [(2,.ptr 0 0),(5,aR 1 1 y3.length),(23,aI a0.fKind),(29,aB (a0.fKind == 2))] ?_))
     rcases zf hm with ⟨h30,hm⟩ | ⟨h30,hm⟩
     ·
      refine c1 h30 (sq (dn [(4,aI a0.fConst.fKind)] (wp_ret ?_)))
      obtain rfl:=Option.some.inj hm
      exact ⟨trivial,by kernel_rfl⟩
     ·
      refine c0 h30 ?_
      obtain ⟨k32,hk32,hm⟩:=zw hm
      refine mid (fun t H=>(∃ (y31:Bool),k32 y31=some r∧t=mk 84 [(5,aR 1 1 y3.length),(23,aI a0.fKind),(34,aB y31)]∧H=[.box (zc7 a0) false,bR 3 1 (rI .i64) y3 0 0])) ?_ ?_
      ·
       rintro _ _ ⟨y31,hm,rfl,rfl⟩
       subst hk32
       rcases zf hm with ⟨h33,hm⟩ | ⟨h33,hm⟩
       ·
        refine c1 h33 (sq (rgd (shd 1 [(38,aR 1 1 y3.length)] (by kernel_rfl) ?_)))
        obtain ⟨x34,h35,hm⟩:=bs hm
        refine dvd 39 (v:=.eptr 1 0 y3.length 1 (0+Int.toNat 0) 0) (QQ y3 .i64 (n:=y3.length) (id:=1) (esz:=1) t33 t3 h35 rfl rfl (by kernel_rfl)) (by kernel_rfl) (dvd 40 (v:=aI x34) (abk (rI .i64) y3 (n:=y3.length) (esz:=1) (j:=0) (off:=0) (id:=1) t3 rfl h35 rfl (Nat.zero_le _) (by kernel_rfl) (by kernel_rfl)) (by kernel_rfl) (shd 1 [(41,aR 1 1 y3.length)] (by kernel_rfl) ?_))
        obtain ⟨x36,h37,hm⟩:=bs hm
        refine dvd 42 (v:=.eptr 1 0 y3.length 1 (0+Int.toNat 1) 0) (QQ y3 .i64 (n:=y3.length) (id:=1) (esz:=1) t33 t3 h37 rfl rfl (by kernel_rfl)) (by kernel_rfl) (dvd 43 (v:=aI x36) (abk (rI .i64) y3 (n:=y3.length) (esz:=1) (j:=1) (off:=0) (id:=1) t3 rfl h37 rfl (Nat.zero_le _) (by kernel_rfl) (by kernel_rfl)) (by kernel_rfl) ?_)
        obtain ⟨x38,h39,hm⟩:=bs hm
        rcases x38 with x40 | x38
        ·
         obtain rfl:=Option.some.inj hm
         exact rp0d (v:=.pv (.ifc 34 (.int .i64 x40))) (cpan (by kernel_rfl) (Ql h39) (by kernel_rfl) (by kernel_rfl) (by kernel_rfl)) (by kernel_rfl) (by kernel_rfl) (fun _=>⟨trivial,by kernel_rfl⟩)
        ·
         refine dvd 44 (zF (by kernel_rfl) (Ql h39) (by kernel_rfl) (by kernel_rfl) (by kernel_rfl)) (by kernel_rfl) (shd 1 [(4,aI x38)] (by kernel_rfl) (find [(4,aI x38)] rfl (by kernel_rfl) (by kernel_rfl) (wp_ret ?_)))
         obtain rfl:=Option.some.inj hm
         exact ⟨trivial,by kernel_rfl⟩
       ·
        refine c0 h33 (sq (dn [(5,aR 1 1 y3.length),(23,aI a0.fKind),(45,aB (a0.fKind == 6))] ?_))
        rcases zf hm with ⟨h41,hm⟩ | ⟨h41,hm⟩
        ·
         refine c1 h41 (sq (rgd (shd 1 [(47,aR 1 1 y3.length)] (by kernel_rfl) ?_)))
         obtain ⟨x42,h43,hm⟩:=bs hm
         refine dvd 48 (v:=.eptr 1 0 y3.length 1 (0+Int.toNat 0) 0) (QQ y3 .i64 (n:=y3.length) (id:=1) (esz:=1) t33 t3 h43 rfl rfl (by kernel_rfl)) (by kernel_rfl) (dvd 49 (v:=aI x42) (abk (rI .i64) y3 (n:=y3.length) (esz:=1) (j:=0) (off:=0) (id:=1) t3 rfl h43 rfl (Nat.zero_le _) (by kernel_rfl) (by kernel_rfl)) (by kernel_rfl) (shd 1 [(50,aR 1 1 y3.length)] (by kernel_rfl) (dvd 51 (v:=.eptr 1 0 y3.length 1 (0+Int.toNat 0) 0) (QQ y3 .i64 (n:=y3.length) (id:=1) (esz:=1) t33 t3 h43 rfl rfl (by kernel_rfl)) (by kernel_rfl) (dvd 52 (v:=aI x42) (abk (rI .i64) y3 (n:=y3.length) (esz:=1) (j:=0) (off:=0) (id:=1) t3 rfl h43 rfl (Nat.zero_le _) (by kernel_rfl) (by kernel_rfl)) (by kernel_rfl) ?_))))
         obtain ⟨x44,h45,hm⟩:=bs hm
         rcases x44 with x46 | x44
         ·
          obtain rfl:=Option.some.inj hm
          exact rp0d (v:=.pv (.ifc 34 (.int .i64 x46))) (cpan (by kernel_rfl) (Ql h45) (by kernel_rfl) (by kernel_rfl) (by kernel_rfl)) (by kernel_rfl) (by kernel_rfl) (fun _=>⟨trivial,by kernel_rfl⟩)
         ·
          refine dvd 53 (zF (by kernel_rfl) (Ql h45) (by kernel_rfl) (by kernel_rfl) (by kernel_rfl)) (by kernel_rfl) (shd 1 [(4,aI x44)] (by kernel_rfl) (find [(4,aI x44)] rfl (by kernel_rfl) (by kernel_rfl) (wp_ret ?_)))
          obtain rfl:=Option.some.inj hm
          exact ⟨trivial,by kernel_rfl⟩
        ·
         refine c0 h41 ?_
         obtain ⟨k48,hk48,hm⟩:=zw hm
         refine mid (fun t H=>(∃ (y47:Bool),k48 y47=some r∧t=mk 84 [(5,aR 1 1 y3.length),(23,aI a0.fKind),(54,aB y47)]∧H=[.box (zc7 a0) false,bR 3 1 (rI .i64) y3 0 0])) ?_ ?_
         ·
          rintro _ _ ⟨y47,hm,rfl,rfl⟩
          subst hk48
          rcases zf hm with ⟨h49,hm⟩ | ⟨h49,hm⟩
          ·
           refine c1 h49 (rgd (shd 1 [(58,aR 1 1 y3.length)] (by kernel_rfl) ?_))
           obtain ⟨x50,h51,hm⟩:=bs hm
           refine dvd 59 (v:=.eptr 1 0 y3.length 1 (0+Int.toNat 0) 0) (QQ y3 .i64 (n:=y3.length) (id:=1) (esz:=1) t33 t3 h51 rfl rfl (by kernel_rfl)) (by kernel_rfl) (dvd 60 (v:=aI x50) (abk (rI .i64) y3 (n:=y3.length) (esz:=1) (j:=0) (off:=0) (id:=1) t3 rfl h51 rfl (Nat.zero_le _) (by kernel_rfl) (by kernel_rfl)) (by kernel_rfl) (shd 1 [(61,aR 1 1 y3.length)] (by kernel_rfl) ?_))
           obtain ⟨x52,h53,hm⟩:=bs hm
           refine dvd 62 (v:=.eptr 1 0 y3.length 1 (0+Int.toNat 1) 0) (QQ y3 .i64 (n:=y3.length) (id:=1) (esz:=1) t33 t3 h53 rfl rfl (by kernel_rfl)) (by kernel_rfl) (dvd 63 (v:=aI x52) (abk (rI .i64) y3 (n:=y3.length) (esz:=1) (j:=1) (off:=0) (id:=1) t3 rfl h53 rfl (Nat.zero_le _) (by kernel_rfl) (by kernel_rfl)) (by kernel_rfl) ?_)
           obtain ⟨x54,h55,hm⟩:=bs hm
           rcases x54 with x56 | x54
           ·
            obtain rfl:=Option.some.inj hm
            exact rp0d (v:=.pv (.ifc 34 (.int .i64 x56))) (cpan (by kernel_rfl) (abD h55) (by kernel_rfl) (by kernel_rfl) (by kernel_rfl)) (by kernel_rfl) (by kernel_rfl) (fun _=>⟨trivial,by kernel_rfl⟩)
           ·
            refine dvd 64 (zF (by kernel_rfl) (abD h55) (by kernel_rfl) (by kernel_rfl) (by kernel_rfl)) (by kernel_rfl) (find [] rfl (by kernel_rfl) (by kernel_rfl) (sq (dn [(4,aI 1)] (wp_ret ?_))))
            obtain rfl:=Option.some.inj hm
            exact ⟨trivial,by kernel_rfl⟩
          ·
           refine c0 h49 ?_
           obtain ⟨k58,hk58,hm⟩:=zw hm
           refine mid (fun t H=>(∃ (y57:Bool),k58 y57=some r∧t=mk 84 [(5,aR 1 1 y3.length),(23,aI a0.fKind),(65,aB y57)]∧H=[.box (zc7 a0) false,bR 3 1 (rI .i64) y3 0 0])) ?_ ?_
           ·
            rintro _ _ ⟨y57,hm,rfl,rfl⟩
            subst hk58
            rcases zf hm with ⟨h59,hm⟩ | ⟨h59,hm⟩
            ·
             refine c1 h59 (rgd (shd 1 [(68,aR 1 1 y3.length)] (by kernel_rfl) ?_))
             obtain ⟨x60,h61,hm⟩:=bs hm
             refine dvd 69 (v:=.eptr 1 0 y3.length 1 (0+Int.toNat 0) 0) (QQ y3 .i64 (n:=y3.length) (id:=1) (esz:=1) t33 t3 h61 rfl rfl (by kernel_rfl)) (by kernel_rfl) (dvd 70 (v:=aI x60) (abk (rI .i64) y3 (n:=y3.length) (esz:=1) (j:=0) (off:=0) (id:=1) t3 rfl h61 rfl (Nat.zero_le _) (by kernel_rfl) (by kernel_rfl)) (by kernel_rfl) (shd 1 [(71,aR 1 1 y3.length)] (by kernel_rfl) ?_))
             obtain ⟨x62,h63,hm⟩:=bs hm
             refine dvd 72 (v:=.eptr 1 0 y3.length 1 (0+Int.toNat 1) 0) (QQ y3 .i64 (n:=y3.length) (id:=1) (esz:=1) t33 t3 h63 rfl rfl (by kernel_rfl)) (by kernel_rfl) (dvd 73 (v:=aI x62) (abk (rI .i64) y3 (n:=y3.length) (esz:=1) (j:=1) (off:=0) (id:=1) t3 rfl h63 rfl (Nat.zero_le _) (by kernel_rfl) (by kernel_rfl)) (by kernel_rfl) ?_)
             obtain ⟨x64,h65,hm⟩:=bs hm
             rcases x64 with x66 | x64
             ·
              obtain rfl:=Option.some.inj hm
              exact rp0d (v:=.pv (.ifc 34 (.int .i64 x66))) (cpan (by kernel_rfl) (Qz h65) (by kernel_rfl) (by kernel_rfl) (by kernel_rfl)) (by kernel_rfl) (by kernel_rfl) (fun _=>⟨trivial,by kernel_rfl⟩)
             ·
              refine dvd 74 (zF (by kernel_rfl) (Qz h65) (by kernel_rfl) (by kernel_rfl) (by kernel_rfl)) (by kernel_rfl) (find [] rfl (by kernel_rfl) (by kernel_rfl) (sq (dn [(4,aI 1)] (wp_ret ?_))))
              obtain rfl:=Option.some.inj hm
              exact ⟨trivial,by kernel_rfl⟩
            ·
             refine c0 h59 (sq (dn [(5,aR 1 1 y3.length),(75,aB (a0.fKind == 12))] ?_))
             rcases zf hm with ⟨h67,hm⟩ | ⟨h67,hm⟩
             ·
              refine c1 h67 (rgd (shd 1 [(77,aR 1 1 y3.length)] (by kernel_rfl) ?_))
              obtain ⟨x68,h69,hm⟩:=bs hm
              refine dvd 78 (v:=.eptr 1 0 y3.length 1 (0+Int.toNat 0) 0) (QQ y3 .i64 (n:=y3.length) (id:=1) (esz:=1) t33 t3 h69 rfl rfl (by kernel_rfl)) (by kernel_rfl) (dvd 79 (v:=aI x68) (abk (rI .i64) y3 (n:=y3.length) (esz:=1) (j:=0) (off:=0) (id:=1) t3 rfl h69 rfl (Nat.zero_le _) (by kernel_rfl) (by kernel_rfl)) (by kernel_rfl) (shd 1 [(80,aR 1 1 y3.length)] (by kernel_rfl) (dvd 81 (v:=.eptr 1 0 y3.length 1 (0+Int.toNat 0) 0) (QQ y3 .i64 (n:=y3.length) (id:=1) (esz:=1) t33 t3 h69 rfl rfl (by kernel_rfl)) (by kernel_rfl) (dvd 82 (v:=aI x68) (abk (rI .i64) y3 (n:=y3.length) (esz:=1) (j:=0) (off:=0) (id:=1) t3 rfl h69 rfl (Nat.zero_le _) (by kernel_rfl) (by kernel_rfl)) (by kernel_rfl) ?_))))
              obtain ⟨x70,h71,hm⟩:=bs hm
              rcases x70 with x72 | x70
              ·
               obtain rfl:=Option.some.inj hm
               exact rp0d (v:=.pv (.ifc 34 (.int .i64 x72))) (cpan (by kernel_rfl) (Qz h71) (by kernel_rfl) (by kernel_rfl) (by kernel_rfl)) (by kernel_rfl) (by kernel_rfl) (fun _=>⟨trivial,by kernel_rfl⟩)
              ·
               refine dvd 83 (zF (by kernel_rfl) (Qz h71) (by kernel_rfl) (by kernel_rfl) (by kernel_rfl)) (by kernel_rfl) (find [] rfl (by kernel_rfl) (by kernel_rfl) (sq (dn [(4,aI 1)] (wp_ret ?_))))
               obtain rfl:=Option.some.inj hm
               exact ⟨trivial,by kernel_rfl⟩
             ·
              refine c0 h67 (wp_skip (sq (dn [(4,aI 1)] (wp_ret ?_))))
              obtain rfl:=Option.some.inj hm
              exact ⟨trivial,by kernel_rfl⟩
           refine sq (dn [(5,aR 1 1 y3.length),(23,aI a0.fKind),(65,aB (a0.fKind == 10))] ?_)
           rcases zf hm with ⟨h73,hm⟩ | ⟨h73,hm⟩
           ·
            refine c1 h73 (wp_skip ?_)
            exact ⟨(a0.fKind == 10),hm,rfl,rfl⟩
           ·
            refine c0 h73 (dn [(5,aR 1 1 y3.length),(23,aI a0.fKind),(65,aB (a0.fKind == 11))] ?_)
            exact ⟨(a0.fKind == 11),hm,rfl,rfl⟩
         refine sq (dn [(5,aR 1 1 y3.length),(23,aI a0.fKind),(54,aB (a0.fKind == 7))] ?_)
         rcases zf hm with ⟨h74,hm⟩ | ⟨h74,hm⟩
         ·
          refine c1 h74 (wp_skip ?_)
          exact ⟨(a0.fKind == 7),hm,rfl,rfl⟩
         ·
          refine c0 h74 (sq (dn [(5,aR 1 1 y3.length),(23,aI a0.fKind),(54,aB (a0.fKind == 8))] ?_))
          rcases zf hm with ⟨h75,hm⟩ | ⟨h75,hm⟩
          ·
           refine c1 h75 (wp_skip ?_)
           exact ⟨(a0.fKind == 8),hm,rfl,rfl⟩
          ·
           refine c0 h75 (dn [(5,aR 1 1 y3.length),(23,aI a0.fKind),(54,aB (a0.fKind == 9))] ?_)
           exact ⟨(a0.fKind == 9),hm,rfl,rfl⟩
      refine sq (dn [(5,aR 1 1 y3.length),(23,aI a0.fKind),(34,aB (a0.fKind == 3))] ?_)
      rcases zf hm with ⟨h76,hm⟩ | ⟨h76,hm⟩
      ·
       refine c1 h76 (wp_skip ?_)
       exact ⟨(a0.fKind == 3),hm,rfl,rfl⟩
      ·
       refine c0 h76 (sq (dn [(5,aR 1 1 y3.length),(23,aI a0.fKind),(34,aB (a0.fKind == 4))] ?_))
       rcases zf hm with ⟨h77,hm⟩ | ⟨h77,hm⟩
       ·
        refine c1 h77 (wp_skip ?_)
        exact ⟨(a0.fKind == 4),hm,rfl,rfl⟩
       ·
        refine c0 h77 (dn [(5,aR 1 1 y3.length),(23,aI a0.fKind),(34,aB (a0.fKind == 5))] ?_)
        exact ⟨(a0.fKind == 5),hm,rfl,rfl⟩
  refine sq (rg (s1 2 [(9,.pv (zc za a0.fKids)),(8,.ptr 0 7)] (dv 10 (v:=aI ((sll a0.fKids).length:Int)) (zC za a0.fKids t23 (by kernel_rfl)) (by kernel_rfl) (fq 1 [(1,.pv (zc zb a1)),(2,.ptr 0 0),(5,.pv .nils),(9,.pv (zc za a0.fKids)),(10,aI ((sll a0.fKids).length:Int)),(11,aI 0)] (bq ?_)))))
  refine qR (fun mm t H=>(∃ (y81:Int),qo n rc_expr_typed a0 a1 k4 mm y81 none=some r∧t=mk 84 [(1,.pv (zc zb a1)),(2,.ptr 0 0),(5,.pv .nils),(9,.pv (zc za a0.fKids)),(10,aI ((sll a0.fKids).length:Int)),(11,aI y81)]∧H=[.box (zc7 a0) false])∨(∃ (y81:Int) (y82:(List Int)),qo n rc_expr_typed a0 a1 k4 mm y81 (some y82)=some r∧t=mk 84 [(1,.pv (zc zb a1)),(2,.ptr 0 0),(5,aR 1 1 y82.length),(9,.pv (zc za a0.fKids)),(10,aI ((sll a0.fKids).length:Int)),(11,aI y81)]∧H=[.box (zc7 a0) false,bR 3 1 (rI .i64) y82 0 0])) (.inl ⟨0,hm,rfl,rfl⟩) ?_ ?_
  · rintro _ _ (⟨y81,hm,_⟩ | ⟨y81,y82,hm,_⟩) <;> exact nomatch hm
  rintro m83 _ _ (⟨y81,hm,rfl,rfl⟩ | ⟨y81,y82,hm,rfl,rfl⟩)
  ·
   simp only [qo] at hm
   refine sq (dn [(1,.pv (zc zb a1)),(2,.ptr 0 0),(5,.pv .nils),(9,.pv (zc za a0.fKids)),(10,aI ((sll a0.fKids).length:Int)),(11,aI y81),(12,aB (zg50 y81 a0))] ?_)
   refine sq ?_
   rcases zf hm with ⟨h84,hm⟩ | ⟨h84,hm⟩
   ·
    refine c1 h84 (wp_skip (sq (bq (sq (rg ?_)))))
    obtain ⟨x85,h86,hm⟩:=bs hm
    refine dv 13 (v:=.pv (.ptr (zg40 x85) 0)) (ZN za a0.fKids .i64 t23 t49 h86 (zu x85) rfl (by kernel_rfl)) (by kernel_rfl) (stf 3 [(1,.pv (zc zb a1)),(2,.ptr 0 0),(5,.pv .nils),(7,.ptr 1 0),(9,.pv (zc za a0.fKids)),(10,aI ((sll a0.fKids).length:Int)),(11,aI y81)] [.box (zc7 a0) false,.box (zc9 x85) false] (by kernel_rfl) (rg (s1 3 [(17,.pv (zc zb a1)),(16,.agg (zc9 x85)),(15,.pv .nils)] ?_)))
    obtain ⟨x87,h88,hm⟩:=bs hm
    rcases x87 with x89 | x87
    ·
     obtain rfl:=Option.some.inj hm
     exact rp0 (v:=.pv (.ifc 34 (.int .i64 x89))) (cpan (by kernel_rfl) (ih_expr_typed h88) (by kernel_rfl) (by kernel_rfl) (by kernel_rfl)) (by kernel_rfl) (fun _=>⟨trivial,by kernel_rfl⟩)
    ·
     refine dv 18 (zF (by kernel_rfl) (ih_expr_typed h88) (by kernel_rfl) (by kernel_rfl) (by kernel_rfl)) (by kernel_rfl) (st 1 [(19,aR 2 1 1)] [.box (zc7 a0) false,.box (zc9 x85) false,bR 3 1 (rI .i64) ([x87]:List Int) 0 0] (by kernel_rfl) ?_)
     obtain ⟨_,h90,hm⟩:=bs hm
     refine dO [(20,aR 3 1 (([x87]:List Int).length))] [.box (zc7 a0) false,.box (zc9 x85) false,bR 3 1 (rI .i64) ([x87]:List Int) 0 0,bR 3 1 (rI .i64) ([x87]:List Int) 0 0] (aey (u:=0) (rI .i64) ([x87]:List Int) (b:=8) t33 t3 rfl rfl rfl (fun _=>rfl) rfl h90 (show ZE (aR 2 1 1) _=some (([x87]:List Int).map (rI .i64)) from by kernel_rfl) (by kernel_rfl)) (by kernel_rfl) (fq 1 [(1,.pv (zc zb a1)),(2,.ptr 0 0),(5,aR 3 1 (([x87]:List Int).length)),(9,.pv (zc za a0.fKids)),(10,aI ((sll a0.fKids).length:Int)),(11,aI y81)] (dn [(1,.pv (zc zb a1)),(2,.ptr 0 0),(5,aR 3 1 (([x87]:List Int).length)),(9,.pv (zc za a0.fKids)),(10,aI ((sll a0.fKids).length:Int)),(11,aI (IntKind.wrap .i64 (y81+1)))] ?_))
     exact ⟨_,_,qd [(1,.pv (zc zb a1)),(2,.ptr 0 0),(5,aR 1 1 (([x87]:List Int).length)),(9,.pv (zc za a0.fKids)),(10,aI ((sll a0.fKids).length:Int)),(11,aI (IntKind.wrap .i64 (y81+1)))] [.box (zc7 a0) false,bR 3 1 (rI .i64) ([x87]:List Int) 0 0] (by kernel_rfl),.inr (⟨(IntKind.wrap .i64 (y81+1)),([x87]:List Int),hm,rfl,rfl⟩)⟩
   ·
    refine c0 h84 (wp_exit ?_)
    exact .inl ⟨aI y81,aB (zg50 y81 a0),hm,(zJ (by kernel_rfl)),rfl⟩
  ·
   simp only [qo] at hm
   refine sq (dn [(1,.pv (zc zb a1)),(2,.ptr 0 0),(5,aR 1 1 y82.length),(9,.pv (zc za a0.fKids)),(10,aI ((sll a0.fKids).length:Int)),(11,aI y81),(12,aB (zg50 y81 a0))] ?_)
   refine sq ?_
   rcases zf hm with ⟨h91,hm⟩ | ⟨h91,hm⟩
   ·
    refine c1 h91 (wp_skip (sq (bq (sq (rg ?_)))))
    obtain ⟨x92,h93,hm⟩:=bs hm
    refine dv 13 (v:=.pv (.ptr (zg40 x92) 0)) (ZN za a0.fKids .i64 t23 t49 h93 (zu x92) rfl (by kernel_rfl)) (by kernel_rfl) (stf 3 [(1,.pv (zc zb a1)),(2,.ptr 0 0),(5,aR 1 1 y82.length),(7,.ptr 2 0),(9,.pv (zc za a0.fKids)),(10,aI ((sll a0.fKids).length:Int)),(11,aI y81)] [.box (zc7 a0) false,bR 3 1 (rI .i64) y82 0 0,.box (zc9 x92) false] (by kernel_rfl) (rg (s1 3 [(17,.pv (zc zb a1)),(16,.agg (zc9 x92)),(15,aR 1 1 y82.length)] ?_)))
    obtain ⟨x94,h95,hm⟩:=bs hm
    rcases x94 with x96 | x94
    ·
     obtain rfl:=Option.some.inj hm
     exact rp0 (v:=.pv (.ifc 34 (.int .i64 x96))) (cpan (by kernel_rfl) (ih_expr_typed h95) (by kernel_rfl) (by kernel_rfl) (by kernel_rfl)) (by kernel_rfl) (fun _=>⟨trivial,by kernel_rfl⟩)
    ·
     refine dv 18 (zF (by kernel_rfl) (ih_expr_typed h95) (by kernel_rfl) (by kernel_rfl) (by kernel_rfl)) (by kernel_rfl) (st 1 [(19,aR 3 1 1)] [.box (zc7 a0) false,bR 3 1 (rI .i64) y82 0 0,.box (zc9 x92) false,bR 3 1 (rI .i64) ([x94]:List Int) 0 0] (by kernel_rfl) ?_)
     obtain ⟨_,h97,hm⟩:=bs hm
     refine dO [(20,aR 1 1 (zg51 y82 x94))] [.box (zc7 a0) false,bR 3 1 (rI .i64) (y82++([x94]:List Int)) 0 0,.box (zc9 x92) false,bR 3 1 (rI .i64) ([x94]:List Int) 0 0] (Qp (u:=0) (n:=y82.length) (id:=1) (rI .i64) y82 ([x94]:List Int) (b:=8) t33 t3 rfl rfl rfl (fun _=>rfl) rfl h97 rfl rfl (Nat.zero_le _) (show ZE (aR 3 1 1) _=some (([x94]:List Int).map (rI .i64)) from by kernel_rfl) (by kernel_rfl)) (by kernel_rfl) (fq 1 [(1,.pv (zc zb a1)),(2,.ptr 0 0),(5,aR 1 1 (zg51 y82 x94)),(9,.pv (zc za a0.fKids)),(10,aI ((sll a0.fKids).length:Int)),(11,aI y81)] (dn [(1,.pv (zc zb a1)),(2,.ptr 0 0),(5,aR 1 1 (zg51 y82 x94)),(9,.pv (zc za a0.fKids)),(10,aI ((sll a0.fKids).length:Int)),(11,aI (IntKind.wrap .i64 (y81+1)))] ?_))
     exact ⟨_,_,qd [(1,.pv (zc zb a1)),(2,.ptr 0 0),(5,aR 1 1 (zg51 y82 x94)),(9,.pv (zc za a0.fKids)),(10,aI ((sll a0.fKids).length:Int)),(11,aI (IntKind.wrap .i64 (y81+1)))] [.box (zc7 a0) false,bR 3 1 (rI .i64) (y82++([x94]:List Int)) 0 0] (by kernel_rfl),.inr (⟨(IntKind.wrap .i64 (y81+1)),(y82++([x94]:List Int)),hm,rfl,rfl⟩)⟩
   ·
    refine c0 h91 (wp_exit ?_)
    exact .inr (⟨y82,aI y81,aB (zg50 y81 a0),hm,(zJ (by kernel_rfl)),rfl⟩)
theorem ae7:∀ (m:Nat),∀ {n:Nat} {a0:zh} {a1:(Option (List zk))} {r:Int ⊕ (Int)} (hm:abr m n a0 a1=some r),call G n 147 [.agg (zc7 a0),.pv (zc zb a1)] []=some (PO 34 (fun (r:Int)=>aI r) r,[])
  | 0=>by intros; rename_i hm; exact nomatch hm
  | m+1=>fun hm=>
    aiN (ae7 m) hm
theorem afZ {n:Nat} {a0:zh} {a1:(Option (List zk))} {r:Int ⊕ (Int)} (hm:aij n a0 a1=some r):
    call G n 147 [.agg (zc7 a0),.pv (zc zb a1)] []=some (PO 34 (fun (r:Int)=>aI r) r,[]):=ae7 n hm
abbrev zc10 (p0:Int) (p1:Int) (p2:Int) (p3:Int) (p4:Int) (p5:Nat) (p6:ByteArray) (p7:(Option (List zd))):List AV:=[aI p0,aI p1,aI p2,aI p3,aI p4,aF p5,aS p6,.pv (zc za p7)]
theorem ae5 {n:Nat} {a0:Int} {a1:Int} {a2:Int} {a3:Int} {a4:Int} {a5:Nat} {a6:ByteArray} {a7:(Option (List zd))} {a8:(Option (List zk))} {a9:Int} {r:(Int) ⊕ (Int)} (hm:acV n a0 a1 a2 a3 a4 a5 a6 a7 a8 a9=some r):
    ∃ vv H1,call G n 145 [.ptr 0 0,.ptr 1 0,.ptr 2 0] [.box (zc10 a0 a1 a2 a3 a4 a5 a6 a7) false,.box [.pv (zc zb a8)] false,.box [aI a9] false]=some (vv,H1)∧(match (generalizing:=false) r with | (.inl r0)=>(vv=.pan (.pv (.ifc 34 (.int .i64 r0)))∧H1=[.box (zc10 a0 a1 a2 a3 a4 a5 a6 a7) false,.box [.pv (zc zb a8)] false,.box [aI a9] false]) | (.inr (r1))=>(vv=.ret (.tup [])∧H1=[.box (zc10 a0 a1 a2 a3 a4 a5 a6 a7) false,.box [.pv (zc zb a8)] false,.box [aI r1] false])):=by
  unfold acV at hm
  obtain ⟨n,rfl,h0⟩:=zp hm
  replace hm:=h0; clear h0
  refine aqc 9 [(0,.ptr 0 0),(1,.ptr 1 0),(2,.ptr 2 0)] func145 rfl (by kernel_rfl) (sq (rg (s1 2 [(4,.pv (zc zb a8)),(3,.agg (zc10 a0 a1 a2 a3 a4 a5 a6 a7))] ?_)))
  obtain ⟨x1,h2,hm⟩:=bs hm
  rcases x1 with x3 | x1
  ·
   obtain rfl:=Option.some.inj hm
   exact rp0 (v:=.pv (.ifc 34 (.int .i64 x3))) (cpan (by kernel_rfl) (agX h2) (by kernel_rfl) (by kernel_rfl) (by kernel_rfl)) (by kernel_rfl) (fun _=>⟨trivial,.pan (.pv (.ifc 34 (.int .i64 x3))),[.box (zc10 a0 a1 a2 a3 a4 a5 a6 a7) false,.box [.pv (zc zb a8)] false,.box [aI a9] false],by kernel_rfl,rfl,rfl⟩)
  ·
   refine dv 5 (zF (by kernel_rfl) (agX h2) (by kernel_rfl) (by kernel_rfl) (by kernel_rfl)) (by kernel_rfl) (fin [(0,.ptr 0 0),(1,.ptr 1 0),(2,.ptr 2 0)] rfl (by kernel_rfl) (rg (s1 2 [(7,.pv (zc zb a8)),(6,.agg (zc10 a0 a1 a2 a3 a4 a5 a6 a7))] ?_)))
   obtain ⟨x4,h5,hm⟩:=bs hm
   rcases x4 with x6 | x4
   ·
    obtain rfl:=Option.some.inj hm
    exact rp0 (v:=.pv (.ifc 34 (.int .i64 x6))) (cpan (by kernel_rfl) (afZ h5) (by kernel_rfl) (by kernel_rfl) (by kernel_rfl)) (by kernel_rfl) (fun _=>⟨trivial,.pan (.pv (.ifc 34 (.int .i64 x6))),[.box (zc10 a0 a1 a2 a3 a4 a5 a6 a7) false,.box [.pv (zc zb a8)] false,.box [aI a9] false],by kernel_rfl,rfl,rfl⟩)
   ·
    refine dv 8 (zF (by kernel_rfl) (afZ h5) (by kernel_rfl) (by kernel_rfl) (by kernel_rfl)) (by kernel_rfl) (stf 1 [] [.box (zc10 a0 a1 a2 a3 a4 a5 a6 a7) false,.box [.pv (zc zb a8)] false,.box [aI x4] false] (by kernel_rfl) ?_)
    obtain rfl:=Option.some.inj hm
    exact ⟨trivial,.ret (.tup []),[.box (zc10 a0 a1 a2 a3 a4 a5 a6 a7) false,.box [.pv (zc zb a8)] false,.box [aI x4] false],by kernel_rfl,rfl,rfl⟩
theorem adj {n:Nat} {a0:Int} {a1:Int} {a2:Int} {a3:Int} {a4:Int} {a5:Nat} {a6:ByteArray} {a7:(Option (List zd))} {a8:(Option (List zk))} {a9:Int} {r:Int × Int} (hm:qz n a0 a1 a2 a3 a4 a5 a6 a7 a8 a9=some r):
    ∃ vv H1,call G n 144 [.fn 145 [] [.ptr 0 0,.ptr 1 0,.ptr 2 0]] [.box (zc10 a0 a1 a2 a3 a4 a5 a6 a7) false,.box [.pv (zc zb a8)] false,.box [aI a9] false]=some (.ret vv,H1)∧(match (generalizing:=false) r with | (r0,r1)=>(vv=aI r1∧H1=[.box (zc10 a0 a1 a2 a3 a4 a5 a6 a7) false,.box [.pv (zc zb a8)] false,.box [aI r0] false])):=by
  unfold qz at hm
  obtain ⟨n,rfl,h0⟩:=zp hm
  replace hm:=h0; clear h0
  obtain ⟨x2,h1,hm⟩:=bs hm
  rcases x2 with x3 | x4
  ·
   obtain ⟨vv,H1,hC,rfl,rfl⟩:=ae5 h1
   obtain rfl:=Option.some.inj hm
   exact ⟨_,_,aoX func144 rfl (by kernel_rfl) rfl (by kernel_rfl) func145 (by kernel_rfl) rfl hC (by kernel_rfl),rfl,rfl⟩
  ·
   obtain ⟨vv,H1,hC,rfl,rfl⟩:=ae5 h1
   obtain rfl:=Option.some.inj hm
   exact ⟨_,_,aoX func144 rfl (by kernel_rfl) rfl (by kernel_rfl) func145 (by kernel_rfl) rfl hC (by kernel_rfl),rfl,rfl⟩
theorem aaF {n:Nat} {a0:zh} {a1:(Option (List zk))} {r:Int × Int} (hm:QZ n a0 a1=some r):
    call G n 50 [.agg (zc7 a0),.pv (zc zb a1)] []=some (.ret (.tup [aI r.1,aI r.2]),[]):=by
  unfold QZ at hm
  obtain ⟨n,rfl,h0⟩:=zp hm
  replace hm:=h0; clear h0
  refine Zt 17 [(0,.agg (zc7 a0)),(1,.pv (zc zb a1))] func50 rfl (by kernel_rfl) (sq (det [(2,.ptr 0 0),(3,.ptr 1 0)] [.box (zc7 a0) false,.box [.pv (zc zb a1)] false] (by kernel_rfl) ?_))
  refine sq (sq (rg (s1 1 [(8,.agg (zc7 a0))] ?_)))
  obtain ⟨x1,h2,hm⟩:=bs hm
  refine dv 9 (zF (by kernel_rfl) (adO h2) (by kernel_rfl) (by kernel_rfl) (by kernel_rfl)) (by kernel_rfl) (fq 1 [(2,.ptr 0 0),(3,.ptr 1 0),(10,aB (!x1))] ?_)
  rcases zf hm with ⟨h3,hm⟩ | ⟨h3,hm⟩
  ·
   refine c1 h3 (sq (dn [(4,aI 0),(5,aI 2)] (wp_ret ?_)))
   obtain rfl:=Option.some.inj hm
   exact ⟨trivial,by kernel_rfl⟩
  ·
   refine c0 h3 (wp_skip (sq (det [(2,.ptr 0 0),(3,.ptr 1 0),(6,.ptr 2 0)] [.box (zc7 a0) false,.box [.pv (zc zb a1)] false,.box [aI 0] false] (by kernel_rfl) (sq (rg (s1 1 [(11,.fn 145 [] [.ptr 0 0,.ptr 1 0,.ptr 2 0])] ?_))))))
   obtain ⟨⟨x5,x6⟩,h4,hm⟩:=bs hm
   obtain ⟨vv,H1,hC,rfl,rfl⟩:=adj h4
   refine dR [(12,aI x6)] [.box (zc7 a0) false,.box [.pv (zc zb a1)] false,.box [aI x5] false] [0,1,2] [.fn 145 [] [.ptr 0 0,.ptr 1 0,.ptr 2 0]] (by kernel_rfl) (by kernel_rfl) (by kernel_rfl) hC (by kernel_rfl) (fq 1 [(6,.ptr 2 0),(7,aI x6)] (sq (sq (dn [(6,.ptr 2 0),(7,aI x6),(14,aB (x6 != 0))] ?_))))
   rcases zf hm with ⟨h7,hm⟩ | ⟨h7,hm⟩
   ·
    refine c1 h7 (sq (dn [(4,aI 0),(5,aI x6)] (wp_ret ?_)))
    obtain rfl:=Option.some.inj hm
    exact ⟨trivial,by kernel_rfl⟩
   ·
    refine c0 h7 (wp_skip (sq (dn [(4,aI x5),(5,aI 0)] (wp_ret ?_))))
    obtain rfl:=Option.some.inj hm
    exact ⟨trivial,by kernel_rfl⟩
theorem agn {n:Nat} {a0:Int} {r:Bool} (hm:abQ n a0=some r):
    call G n 55 [aI a0] []=some (.ret (aB r),[]):=by
  unfold abQ at hm
  obtain ⟨n,rfl,h0⟩:=zp hm
  replace hm:=h0; clear h0
  refine Zt 9 [(0,aI a0)] func55 rfl (by kernel_rfl) (sq (dn [(0,aI a0)] (sq (rg (s1 3 [(5,aB (a0 == 0)),(4,aB (a0 == 0)),(3,aI a0)] ?_)))))
  refine segP (a0 == 0) [5,4] (fun b=>[(8,aB (b || (a0 == 1))),(7,ifA b (.undef) (aB (a0 == 1))),(6,ifA b (.undef) (aI a0))]) 3 (by kernel_rfl) (by kernel_rfl) (by kernel_rfl) (fq 1 [(2,aB ((a0 == 0) || (a0 == 1)))] (wp_ret ?_))
  obtain rfl:=Option.some.inj hm
  exact ⟨trivial,by kernel_rfl⟩
theorem agq {n:Nat} {a0:Int} {r:Unit} (hm:abN n a0=some r):
    call G n 56 [aI a0] []=some (.ret (.tup []),[]):=by
  unfold abN at hm
  obtain ⟨n,rfl,h0⟩:=zp hm
  replace hm:=h0; clear h0
  refine Zt 2 [(0,aI a0)] func56 rfl (by kernel_rfl) (wp_skip ?_)
  obtain rfl:=Option.some.inj hm
  exact ⟨trivial,by kernel_rfl⟩
theorem QV {n:Nat} {a0:(Option (List zk))} {a1:zh} {r:Int} (hm:Zi n a0 a1=some r):
    ∃ vv H1,call G n 49 [.agg (zc7 a1),.pv (.fn 55 [] []),.pv (.fn 56 [] []),.ptr 0 0] [.box [.pv (zc zb a0)] false]=some (.ret vv,H1)∧(match (generalizing:=false) r with | r0=>(vv=aI r0∧H1=[.box [.pv (zc zb a0)] false])):=by
  unfold Zi at hm
  obtain ⟨n,rfl,h0⟩:=zp hm
  replace hm:=h0; clear h0
  refine Qh 30 [(0,.agg (zc7 a1)),(1,.pv (.fn 55 [] [])),(2,.pv (.fn 56 [] [])),(3,.ptr 0 0)] func49 rfl (by kernel_rfl) (sq (det [(1,.pv (.fn 55 [] [])),(2,.pv (.fn 56 [] [])),(3,.ptr 0 0),(4,.ptr 1 0)] [.box [.pv (zc zb a0)] false,.box (zc7 a1) false] (by kernel_rfl) (sq (rg (s1 2 [(12,.pv (zc zb a0)),(11,.agg (zc7 a1))] ?_)))))
  obtain ⟨x1,h2,hm⟩:=bs hm
  refine dv 13 (zF (by kernel_rfl) (aaF h2) (by kernel_rfl) (by kernel_rfl) (by kernel_rfl)) (by kernel_rfl) (fq 5 [(1,.pv (.fn 55 [] [])),(2,.pv (.fn 56 [] [])),(8,aI x1.1),(9,aI x1.2)] ?_)
  obtain ⟨k5,hk5,hm⟩:=zw hm
  refine mid (fun t H=>(∃ (y4:Int) (w3:AV),k5 y4=some r∧t=mk 30 [(2,.pv (.fn 56 [] [])),(8,aI x1.1),(9,aI y4),(23,w3)]∧H=[.box [.pv (zc zb a0)] false,.box (zc7 a1) false])) ?_ ?_
  ·
   rintro _ _ ⟨y4,w3,hm,rfl,rfl⟩
   subst hk5
   refine sq (sq (dn [(2,.pv (.fn 56 [] [])),(8,aI x1.1),(9,aI y4),(25,aB (y4 == 0))] ?_))
   rcases zf hm with ⟨h6,hm⟩ | ⟨h6,hm⟩
   ·
    refine c1 h6 (rg (s1 2 [(27,aI x1.1),(26,.pv (.fn 56 [] []))] ?_))
    obtain ⟨x7,h8,hm⟩:=bs hm
    refine dv 28 (zF (by kernel_rfl) (agq h8) (by kernel_rfl) (by kernel_rfl) (by kernel_rfl)) (by kernel_rfl) (fin [(9,aI y4)] rfl (by kernel_rfl) (sq (dn [(7,aI y4)] (wp_ret ?_))))
    obtain rfl:=Option.some.inj hm
    exact ⟨trivial,aI y4,[.box [.pv (zc zb a0)] false],by kernel_rfl,rfl,rfl⟩
   ·
    refine c0 h6 (wp_skip (sq (dn [(7,aI y4)] (wp_ret ?_))))
    obtain rfl:=Option.some.inj hm
    exact ⟨trivial,aI y4,[.box [.pv (zc zb a0)] false],by kernel_rfl,rfl,rfl⟩
  refine sq (rg (s1 3 [(18,aB (x1.2 == 0)),(17,aB (x1.2 == 0)),(16,aI x1.2)] ?_))
  rcases zf hm with ⟨h9,hm⟩ | ⟨h9,hm⟩
  ·
   refine known [18,17] h9 (by kernel_rfl) (s1 2 [(20,aI x1.1),(19,.pv (.fn 55 [] []))] ?_)
   obtain ⟨x10,h11,hm⟩:=bs hm
   refine dv 21 (zF (by kernel_rfl) (agn h11) (by kernel_rfl) (by kernel_rfl) (by kernel_rfl)) (by kernel_rfl) (fq 2 [(2,.pv (.fn 56 [] [])),(8,aI x1.1),(9,aI x1.2),(23,aB (!x10))] ?_)
   rcases zf hm with ⟨h12,hm⟩ | ⟨h12,hm⟩
   ·
    refine c1 h12 (dn [(2,.pv (.fn 56 [] [])),(8,aI x1.1),(9,aI 50)] ?_)
    exact ⟨50,.any,hm,(zJ (by kernel_rfl)),rfl⟩
   ·
    refine c0 h12 (wp_skip ?_)
    exact ⟨x1.2,aB (!x10),hm,(zJ (by kernel_rfl)),rfl⟩
  ·
   refine known [18,17] h9 (by kernel_rfl) (fq 5 [(2,.pv (.fn 56 [] [])),(8,aI x1.1),(9,aI x1.2),(23,aB false)] (cF (by kernel_rfl) (wp_skip ?_)))
   exact ⟨x1.2,aB false,hm,(zJ (by kernel_rfl)),rfl⟩
theorem aha {n:Nat} {a0:(Option (List zk))} {a1:zh} {r:Int} (hm:qL n a0 a1=some r):
    ∃ vv H1,call G n 54 [.agg (zc7 a1),.ptr 0 0] [.box [.fn 49 [] [.ptr 1 0]] false,.box [.pv (zc zb a0)] false]=some (.ret vv,H1)∧(match (generalizing:=false) r with | r0=>(vv=aI r0∧H1=[.box [.fn 49 [] [.ptr 1 0]] false,.box [.pv (zc zb a0)] false])):=by
  unfold qL at hm
  obtain ⟨n,rfl,h0⟩:=zp hm
  replace hm:=h0; clear h0
  refine Qh 7 [(0,.agg (zc7 a1)),(1,.ptr 0 0)] func54 rfl (by kernel_rfl) (sq (det [(1,.ptr 0 0),(2,.ptr 2 0)] [.box [.fn 49 [] [.ptr 1 0]] false,.box [.pv (zc zb a0)] false,.box (zc7 a1) false] (by kernel_rfl) (sq (rg (s1 2 [(5,.agg (zc7 a1)),(4,.fn 49 [] [.ptr 1 0])] ?_)))))
  obtain ⟨x2,h1,hm⟩:=bs hm
  obtain ⟨vv,H1,hC,rfl,rfl⟩:=QV h1
  refine dR [(6,aI x2)] [.box [.fn 49 [] [.ptr 1 0]] false,.box [.pv (zc zb a0)] false,.box (zc7 a1) false] [1] [.agg (zc7 a1),.pv (.fn 55 [] []),.pv (.fn 56 [] []),.ptr 1 0] (by kernel_rfl) (by kernel_rfl) (by kernel_rfl) hC (by kernel_rfl) (fq 1 [(3,aI x2)] (wp_ret ?_))
  obtain rfl:=Option.some.inj hm
  exact ⟨trivial,aI x2,[.box [.fn 49 [] [.ptr 1 0]] false,.box [.pv (zc zb a0)] false],by kernel_rfl,rfl,rfl⟩
theorem acb {n:Nat} {a0:(Option (List zk))} {a1:(Option (List zd))} {r:Int} (hm:Zs n a0 a1=some r):
    ∃ vv H1,call G n 53 [.pv (zc za a1),.fn 54 [] [.ptr 0 0]] [.box [.fn 49 [] [.ptr 1 0]] false,.box [.pv (zc zb a0)] false]=some (.ret vv,H1)∧(match (generalizing:=false) r with | r0=>(vv=aI r0∧H1=[.box [.fn 49 [] [.ptr 1 0]] false,.box [.pv (zc zb a0)] false])):=by
  unfold Zs at hm
  obtain ⟨n,rfl,h0⟩:=zp hm
  replace hm:=h0; clear h0
  refine Qh 21 [(0,.pv (zc za a1)),(1,.fn 54 [] [.ptr 0 0])] func53 rfl (by kernel_rfl) (sq (dn [(0,.pv (zc za a1)),(1,.fn 54 [] [.ptr 0 0])] ?_))
  obtain ⟨k3,hk3,hm⟩:=zw hm
  refine mid (fun t H=>(∃ (y1:Int) (y2:Bool),k3 ()=some r∧t=mk 21 [(1,.fn 54 [] [.ptr 0 0]),(8,.pv (zc za a1)),(9,aI ((sll a1).length:Int)),(10,aI y1),(11,aB y2)]∧H=[.box [.fn 49 [] [.ptr 1 0]] false,.box [.pv (zc zb a0)] false])) ?_ ?_
  ·
   rintro _ _ ⟨y1,y2,hm,rfl,rfl⟩
   subst hk3
   refine sq (dn [(4,aI 0)] (wp_ret ?_))
   obtain rfl:=Option.some.inj hm
   exact ⟨trivial,aI 0,[.box [.fn 49 [] [.ptr 1 0]] false,.box [.pv (zc zb a0)] false],by kernel_rfl,rfl,rfl⟩
  refine sq (rg (s1 1 [(8,.pv (zc za a1))] (dv 9 (v:=aI ((sll a1).length:Int)) (zC za a1 t23 (by kernel_rfl)) (by kernel_rfl) (fq 1 [(1,.fn 54 [] [.ptr 0 0]),(8,.pv (zc za a1)),(9,aI ((sll a1).length:Int)),(10,aI 0)] (bq ?_)))))
  refine qR (fun mm t H=>(∃ (y5:Int),zR n a0 a1 k3 mm y5=some r∧t=mk 21 [(1,.fn 54 [] [.ptr 0 0]),(8,.pv (zc za a1)),(9,aI ((sll a1).length:Int)),(10,aI y5)]∧H=[.box [.fn 49 [] [.ptr 1 0]] false,.box [.pv (zc zb a0)] false])) (⟨0,hm,rfl,rfl⟩) ?_ ?_
  · rintro _ _ ⟨y5,hm,_⟩; exact nomatch hm
  rintro m6 _ _ ⟨y5,hm,rfl,rfl⟩
  simp only [zR] at hm
  refine sq (dn [(1,.fn 54 [] [.ptr 0 0]),(8,.pv (zc za a1)),(9,aI ((sll a1).length:Int)),(10,aI y5),(11,aB (zg39 y5 a1))] ?_)
  refine sq ?_
  rcases zf hm with ⟨h7,hm⟩ | ⟨h7,hm⟩
  ·
   refine c1 h7 (wp_skip (sq (bq (sq (rg ?_)))))
   obtain ⟨x8,h9,hm⟩:=bs hm
   refine dv 12 (v:=.pv (.ptr (Zy (zg x8)) 0)) (ZN za a1 .i64 t23 t49 h9 (zu x8) rfl (by kernel_rfl)) (by kernel_rfl) (stf 3 [(1,.fn 54 [] [.ptr 0 0]),(6,.ptr 2 0),(8,.pv (zc za a1)),(9,aI ((sll a1).length:Int)),(10,aI y5)] [.box [.fn 49 [] [.ptr 1 0]] false,.box [.pv (zc zb a0)] false,.box (zc9 x8) false] (by kernel_rfl) (sq (rg (s1 2 [(15,.agg (zc9 x8)),(14,.fn 54 [] [.ptr 0 0])] ?_))))
   obtain ⟨x11,h10,hm⟩:=bs hm
   obtain ⟨vv,H1,hC,rfl,rfl⟩:=aha h10
   refine dR [(16,aI x11)] [.box [.fn 49 [] [.ptr 1 0]] false,.box [.pv (zc zb a0)] false,.box (zc9 x8) false] [0,1] [.agg (zc9 x8),.ptr 0 0] (by kernel_rfl) (by kernel_rfl) (by kernel_rfl) hC (by kernel_rfl) (fq 1 [(1,.fn 54 [] [.ptr 0 0]),(7,aI x11),(8,.pv (zc za a1)),(9,aI ((sll a1).length:Int)),(10,aI y5)] (sq (dn [(1,.fn 54 [] [.ptr 0 0]),(7,aI x11),(8,.pv (zc za a1)),(9,aI ((sll a1).length:Int)),(10,aI y5),(18,aB (x11 != 0))] ?_)))
   rcases zf hm with ⟨h12,hm⟩ | ⟨h12,hm⟩
   ·
    refine c1 h12 (sq (dn [(4,aI x11)] (wp_ret ?_)))
    obtain rfl:=Option.some.inj hm
    exact ⟨trivial,aI x11,[.box [.fn 49 [] [.ptr 1 0]] false,.box [.pv (zc zb a0)] false],by kernel_rfl,rfl,rfl⟩
   ·
    refine c0 h12 (wp_skip (dn [(1,.fn 54 [] [.ptr 0 0]),(8,.pv (zc za a1)),(9,aI ((sll a1).length:Int)),(10,aI (IntKind.wrap .i64 (y5+1)))] ?_))
    exact ⟨_,_,qd [(1,.fn 54 [] [.ptr 0 0]),(8,.pv (zc za a1)),(9,aI ((sll a1).length:Int)),(10,aI (IntKind.wrap .i64 (y5+1)))] [.box [.fn 49 [] [.ptr 1 0]] false,.box [.pv (zc zb a0)] false] (by kernel_rfl),⟨(IntKind.wrap .i64 (y5+1)),hm,rfl,rfl⟩⟩
  ·
   refine c0 h7 (wp_exit ?_)
   exact ⟨y5,(zg39 y5 a1),hm,rfl,rfl⟩
theorem abp {n:Nat} {a0:Int} {r:Bool} (hm:qK n a0=some r):
    call G n 51 [aI a0] []=some (.ret (aB r),[]):=by
  unfold qK at hm
  obtain ⟨n,rfl,h0⟩:=zp hm
  replace hm:=h0; clear h0
  refine Zt 3 [(0,aI a0)] func51 rfl (by kernel_rfl) (sq (dn [] (sq (dn [(2,aB true)] (wp_ret ?_)))))
  obtain rfl:=Option.some.inj hm
  exact ⟨trivial,by kernel_rfl⟩
theorem acD {n:Nat} {a0:Int} {r:Unit} (hm:QD n a0=some r):
    ∃ vv H1,call G n 52 [aI a0,.ptr 0 0] [.box [.pv .nils] false]=some (.ret vv,H1)∧(vv=.tup []∧H1=[.box [aR 1 1 (([a0]:List Int).length)] false,bR 3 1 (rI .i64) ([a0]:List Int) 0 0]):=by
  unfold QD at hm
  obtain ⟨n,rfl,h0⟩:=zp hm
  replace hm:=h0; clear h0
  refine Qh 7 [(0,aI a0),(1,.ptr 0 0)] func52 rfl (by kernel_rfl) (rg (st 3 [(5,aR 1 1 1),(4,aI a0),(3,.pv .nils)] [.box [.pv .nils] false,bR 3 1 (rI .i64) ([a0]:List Int) 0 0] (by kernel_rfl) ?_))
  obtain ⟨_,h1,hm⟩:=bs hm
  refine dO [(6,aR 2 1 (([a0]:List Int).length))] [.box [.pv .nils] false,bR 3 1 (rI .i64) ([a0]:List Int) 0 0,bR 3 1 (rI .i64) ([a0]:List Int) 0 0] (aey (u:=0) (rI .i64) ([a0]:List Int) (b:=8) t33 t3 rfl rfl rfl (fun _=>rfl) rfl h1 (show ZE (aR 1 1 1) _=some (([a0]:List Int).map (rI .i64)) from by kernel_rfl) (by kernel_rfl)) (by kernel_rfl) (stf 1 [] [.box [aR 2 1 (([a0]:List Int).length)] false,bR 3 1 (rI .i64) ([a0]:List Int) 0 0,bR 3 1 (rI .i64) ([a0]:List Int) 0 0] (by kernel_rfl) ?_)
  obtain rfl:=Option.some.inj hm
  exact ⟨trivial,.tup [],[.box [aR 1 1 (([a0]:List Int).length)] false,bR 3 1 (rI .i64) ([a0]:List Int) 0 0],by kernel_rfl,rfl,rfl⟩
theorem ZF {n:Nat} {a0:(Option (List zk))} {a1:zh} {r:(Option (List Int)) × Int} (hm:Zd n a0 a1=some r):
    ∃ vv H1,call G n 49 [.agg (zc7 a1),.pv (.fn 51 [] []),.fn 52 [] [.ptr 0 0],.ptr 1 0] [.box [.pv .nils] false,.box [.pv (zc zb a0)] false]=some (.ret vv,H1)∧(match (generalizing:=false) r with | (some r0,r1)=>(vv=aI r1∧H1=[.box [aR 2 1 r0.length] false,.box [.pv (zc zb a0)] false,bR 3 1 (rI .i64) r0 0 0]) | (none,r1)=>(vv=aI r1∧H1=[.box [.pv .nils] false,.box [.pv (zc zb a0)] false])):=by
  unfold Zd at hm
  obtain ⟨n,rfl,h0⟩:=zp hm
  replace hm:=h0; clear h0
  refine Qh 30 [(0,.agg (zc7 a1)),(1,.pv (.fn 51 [] [])),(2,.fn 52 [] [.ptr 0 0]),(3,.ptr 1 0)] func49 rfl (by kernel_rfl) (sq (det [(1,.pv (.fn 51 [] [])),(2,.fn 52 [] [.ptr 0 0]),(3,.ptr 1 0),(4,.ptr 2 0)] [.box [.pv .nils] false,.box [.pv (zc zb a0)] false,.box (zc7 a1) false] (by kernel_rfl) (sq (rg (s1 2 [(12,.pv (zc zb a0)),(11,.agg (zc7 a1))] ?_)))))
  obtain ⟨x1,h2,hm⟩:=bs hm
  refine dv 13 (zF (by kernel_rfl) (aaF h2) (by kernel_rfl) (by kernel_rfl) (by kernel_rfl)) (by kernel_rfl) (fq 5 [(1,.pv (.fn 51 [] [])),(2,.fn 52 [] [.ptr 0 0]),(8,aI x1.1),(9,aI x1.2)] ?_)
  obtain ⟨k5,hk5,hm⟩:=zw hm
  refine mid (fun t H=>(∃ (y4:Int) (w3:AV),k5 y4=some r∧t=mk 30 [(2,.fn 52 [] [.ptr 0 0]),(8,aI x1.1),(9,aI y4),(23,w3)]∧H=[.box [.pv .nils] false,.box [.pv (zc zb a0)] false,.box (zc7 a1) false])) ?_ ?_
  ·
   rintro _ _ ⟨y4,w3,hm,rfl,rfl⟩
   subst hk5
   refine sq (sq (dn [(2,.fn 52 [] [.ptr 0 0]),(8,aI x1.1),(9,aI y4),(25,aB (y4 == 0))] ?_))
   rcases zf hm with ⟨h6,hm⟩ | ⟨h6,hm⟩
   ·
    refine c1 h6 (rg (s1 2 [(27,aI x1.1),(26,.fn 52 [] [.ptr 0 0])] ?_))
    obtain ⟨_,h7,hm⟩:=bs hm
    obtain ⟨vv,H1,hC,rfl,rfl⟩:=acD h7
    refine dR [(28,.tup [])] [.box [aR 3 1 (([x1.1]:List Int).length)] false,.box [.pv (zc zb a0)] false,.box (zc7 a1) false,bR 3 1 (rI .i64) ([x1.1]:List Int) 0 0] [0] [aI x1.1,.ptr 0 0] (by kernel_rfl) (by kernel_rfl) (by kernel_rfl) hC (by kernel_rfl) (fin [(9,aI y4)] rfl (by kernel_rfl) (sq (dn [(7,aI y4)] (wp_ret ?_))))
    obtain rfl:=Option.some.inj hm
    exact ⟨trivial,aI y4,[.box [aR 2 1 (([x1.1]:List Int).length)] false,.box [.pv (zc zb a0)] false,bR 3 1 (rI .i64) ([x1.1]:List Int) 0 0],by kernel_rfl,rfl,rfl⟩
   ·
    refine c0 h6 (wp_skip (sq (dn [(7,aI y4)] (wp_ret ?_))))
    obtain rfl:=Option.some.inj hm
    exact ⟨trivial,aI y4,[.box [.pv .nils] false,.box [.pv (zc zb a0)] false],by kernel_rfl,rfl,rfl⟩
  refine sq (rg (s1 3 [(18,aB (x1.2 == 0)),(17,aB (x1.2 == 0)),(16,aI x1.2)] ?_))
  rcases zf hm with ⟨h8,hm⟩ | ⟨h8,hm⟩
  ·
   refine known [18,17] h8 (by kernel_rfl) (s1 2 [(20,aI x1.1),(19,.pv (.fn 51 [] []))] ?_)
   obtain ⟨x9,h10,hm⟩:=bs hm
   refine dv 21 (zF (by kernel_rfl) (abp h10) (by kernel_rfl) (by kernel_rfl) (by kernel_rfl)) (by kernel_rfl) (fq 2 [(2,.fn 52 [] [.ptr 0 0]),(8,aI x1.1),(9,aI x1.2),(23,aB (!x9))] ?_)
   rcases zf hm with ⟨h11,hm⟩ | ⟨h11,hm⟩
   ·
    refine c1 h11 (dn [(2,.fn 52 [] [.ptr 0 0]),(8,aI x1.1),(9,aI 50)] ?_)
    exact ⟨50,.any,hm,(zJ (by kernel_rfl)),rfl⟩
   ·
    refine c0 h11 (wp_skip ?_)
    exact ⟨x1.2,aB (!x9),hm,(zJ (by kernel_rfl)),rfl⟩
  ·
   refine known [18,17] h8 (by kernel_rfl) (fq 5 [(2,.fn 52 [] [.ptr 0 0]),(8,aI x1.1),(9,aI x1.2),(23,aB false)] (cF (by kernel_rfl) (wp_skip ?_)))
   exact ⟨x1.2,aB false,hm,(zJ (by kernel_rfl)),rfl⟩
theorem ael {n:Nat} {a0:(Option (List zk))} {a1:zh} {r:(Option (List Int)) × Int} (hm:abI n a0 a1=some r):
    ∃ vv H1,call G n 57 [.agg (zc7 a1),.ptr 0 0,.ptr 2 0,.ptr 3 0] [.box [.fn 49 [] [.ptr 1 0]] false,.box [.pv (zc zb a0)] false,.box [.pv (.fn 51 [] [])] false,.box [.fn 52 [] [.ptr 4 0]] false,.box [.pv .nils] false]=some (.ret vv,H1)∧(match (generalizing:=false) r with | (none,r0)=>(vv=aI r0∧H1=[.box [.fn 49 [] [.ptr 1 0]] false,.box [.pv (zc zb a0)] false,.box [.pv (.fn 51 [] [])] false,.box [.fn 52 [] [.ptr 4 0]] false,.box [.pv .nils] false]) | (some r1,r0)=>(vv=aI r0∧H1=[.box [.fn 49 [] [.ptr 1 0]] false,.box [.pv (zc zb a0)] false,.box [.pv (.fn 51 [] [])] false,.box [.fn 52 [] [.ptr 4 0]] false,.box [aR 5 1 r1.length] false,bR 3 1 (rI .i64) r1 0 0])):=by
  unfold abI at hm
  obtain ⟨n,rfl,h0⟩:=zp hm
  replace hm:=h0; clear h0
  refine Qh 11 [(0,.agg (zc7 a1)),(1,.ptr 0 0),(2,.ptr 2 0),(3,.ptr 3 0)] func57 rfl (by kernel_rfl) (sq (det [(1,.ptr 0 0),(2,.ptr 2 0),(3,.ptr 3 0),(4,.ptr 5 0)] [.box [.fn 49 [] [.ptr 1 0]] false,.box [.pv (zc zb a0)] false,.box [.pv (.fn 51 [] [])] false,.box [.fn 52 [] [.ptr 4 0]] false,.box [.pv .nils] false,.box (zc7 a1) false] (by kernel_rfl) (sq (rg (s1 4 [(9,.fn 52 [] [.ptr 4 0]),(8,.pv (.fn 51 [] [])),(7,.agg (zc7 a1)),(6,.fn 49 [] [.ptr 1 0])] ?_)))))
  obtain ⟨x4,h1,hm⟩:=bs hm
  rcases x4 with ⟨_ | x2,x3⟩
  ·
   obtain ⟨vv,H1,hC,rfl,rfl⟩:=ZF h1
   refine dR [(10,aI x3)] [.box [.fn 49 [] [.ptr 1 0]] false,.box [.pv (zc zb a0)] false,.box [.pv (.fn 51 [] [])] false,.box [.fn 52 [] [.ptr 4 0]] false,.box [.pv .nils] false,.box (zc7 a1) false] [4,1] [.agg (zc7 a1),.pv (.fn 51 [] []),.fn 52 [] [.ptr 4 0],.ptr 1 0] (by kernel_rfl) (by kernel_rfl) (by kernel_rfl) hC (by kernel_rfl) (fq 1 [(5,aI x3)] (wp_ret ?_))
   obtain rfl:=Option.some.inj hm
   exact ⟨trivial,aI x3,[.box [.fn 49 [] [.ptr 1 0]] false,.box [.pv (zc zb a0)] false,.box [.pv (.fn 51 [] [])] false,.box [.fn 52 [] [.ptr 4 0]] false,.box [.pv .nils] false],by kernel_rfl,rfl,rfl⟩
  ·
   obtain ⟨vv,H1,hC,rfl,rfl⟩:=ZF h1
   refine dR [(10,aI x3)] [.box [.fn 49 [] [.ptr 1 0]] false,.box [.pv (zc zb a0)] false,.box [.pv (.fn 51 [] [])] false,.box [.fn 52 [] [.ptr 4 0]] false,.box [aR 6 1 x2.length] false,.box (zc7 a1) false,bR 3 1 (rI .i64) x2 0 0] [4,1] [.agg (zc7 a1),.pv (.fn 51 [] []),.fn 52 [] [.ptr 4 0],.ptr 1 0] (by kernel_rfl) (by kernel_rfl) (by kernel_rfl) hC (by kernel_rfl) (fq 1 [(5,aI x3)] (wp_ret ?_))
   obtain rfl:=Option.some.inj hm
   exact ⟨trivial,aI x3,[.box [.fn 49 [] [.ptr 1 0]] false,.box [.pv (zc zb a0)] false,.box [.pv (.fn 51 [] [])] false,.box [.fn 52 [] [.ptr 4 0]] false,.box [aR 5 1 x2.length] false,bR 3 1 (rI .i64) x2 0 0],by kernel_rfl,rfl,rfl⟩
theorem abW (m1:Nat) (f1:Nat) {n:Nat} {a0:(List Int)} {a1:Int} {r:Unit} (hm1:a0.length=m1) (hf1:f1≤a0.length) (hm:qX n a0 a1=some r):
    ∃ vv H1,call G n 52 [aI a1,.ptr 0 0] [.box [aR 1 1 m1] false,bR 3 1 (rI .i64) a0 f1 0]=some (.ret vv,H1)∧(vv=.tup []∧H1=[.box [aR 1 1 (zg51 a0 a1)] false,bR 3 1 (rI .i64) (a0++([a1]:List Int)) f1 0]):=by
  unfold qX at hm
  obtain ⟨n,rfl,h0⟩:=zp hm
  replace hm:=h0; clear h0
  refine Qh 7 [(0,aI a1),(1,.ptr 0 0)] func52 rfl (by kernel_rfl) (rg (st 3 [(5,aR 2 1 1),(4,aI a1),(3,aR 1 1 m1)] [.box [aR 1 1 m1] false,bR 3 1 (rI .i64) a0 f1 0,bR 3 1 (rI .i64) ([a1]:List Int) 0 0] (by kernel_rfl) ?_))
  obtain ⟨_,h1,hm⟩:=bs hm
  refine dO [(6,aR 1 1 (zg51 a0 a1))] [.box [aR 1 1 m1] false,bR 3 1 (rI .i64) (a0++([a1]:List Int)) f1 0,bR 3 1 (rI .i64) ([a1]:List Int) 0 0] (Qp (u:=0) (n:=m1) (id:=1) (rI .i64) a0 ([a1]:List Int) (b:=8) t33 t3 rfl rfl rfl (fun _=>rfl) rfl h1 rfl (by omega) (by omega) (show ZE (aR 2 1 1) _=some (([a1]:List Int).map (rI .i64)) from by kernel_rfl) (by kernel_rfl)) (by kernel_rfl) (stf 1 [] [.box [aR 1 1 (zg51 a0 a1)] false,bR 3 1 (rI .i64) (a0++([a1]:List Int)) f1 0,bR 3 1 (rI .i64) ([a1]:List Int) 0 0] (by kernel_rfl) ?_)
  obtain rfl:=Option.some.inj hm
  exact ⟨trivial,.tup [],[.box [aR 1 1 (zg51 a0 a1)] false,bR 3 1 (rI .i64) (a0++([a1]:List Int)) f1 0],by kernel_rfl,rfl,rfl⟩
theorem qC (m1:Nat) (f1:Nat) {n:Nat} {a0:(List Int)} {a1:(Option (List zk))} {a2:zh} {r:(List Int) × Int} (hm1:a0.length=m1) (hf1:f1≤a0.length) (hm:Zb n a0 a1 a2=some r):
    ∃ vv H1,call G n 49 [.agg (zc7 a2),.pv (.fn 51 [] []),.fn 52 [] [.ptr 0 0],.ptr 2 0] [.box [aR 1 1 m1] false,bR 3 1 (rI .i64) a0 f1 0,.box [.pv (zc zb a1)] false]=some (.ret vv,H1)∧(match (generalizing:=false) r with | (r0,r1)=>(∃ (e2:Nat) (e3:Nat),r0.length=e2∧e3≤r0.length∧vv=aI r1∧H1=[.box [aR 1 1 e2] false,bR 3 1 (rI .i64) r0 e3 0,.box [.pv (zc zb a1)] false])):=by
  unfold Zb at hm
  obtain ⟨n,rfl,h0⟩:=zp hm
  replace hm:=h0; clear h0
  refine Qh 30 [(0,.agg (zc7 a2)),(1,.pv (.fn 51 [] [])),(2,.fn 52 [] [.ptr 0 0]),(3,.ptr 2 0)] func49 rfl (by kernel_rfl) (sq (det [(1,.pv (.fn 51 [] [])),(2,.fn 52 [] [.ptr 0 0]),(3,.ptr 2 0),(4,.ptr 3 0)] [.box [aR 1 1 m1] false,bR 3 1 (rI .i64) a0 f1 0,.box [.pv (zc zb a1)] false,.box (zc7 a2) false] (by kernel_rfl) (sq (rg (s1 2 [(12,.pv (zc zb a1)),(11,.agg (zc7 a2))] ?_)))))
  obtain ⟨x1,h2,hm⟩:=bs hm
  refine dv 13 (zF (by kernel_rfl) (aaF h2) (by kernel_rfl) (by kernel_rfl) (by kernel_rfl)) (by kernel_rfl) (fq 5 [(1,.pv (.fn 51 [] [])),(2,.fn 52 [] [.ptr 0 0]),(8,aI x1.1),(9,aI x1.2)] ?_)
  obtain ⟨k5,hk5,hm⟩:=zw hm
  refine mid (fun t H=>(∃ (y4:Int) (w3:AV),k5 y4=some r∧t=mk 30 [(2,.fn 52 [] [.ptr 0 0]),(8,aI x1.1),(9,aI y4),(23,w3)]∧H=[.box [aR 1 1 m1] false,bR 3 1 (rI .i64) a0 f1 0,.box [.pv (zc zb a1)] false,.box (zc7 a2) false])) ?_ ?_
  ·
   rintro _ _ ⟨y4,w3,hm,rfl,rfl⟩
   subst hk5
   refine sq (sq (dn [(2,.fn 52 [] [.ptr 0 0]),(8,aI x1.1),(9,aI y4),(25,aB (y4 == 0))] ?_))
   rcases zf hm with ⟨h6,hm⟩ | ⟨h6,hm⟩
   ·
    refine c1 h6 (rg (s1 2 [(27,aI x1.1),(26,.fn 52 [] [.ptr 0 0])] ?_))
    obtain ⟨_,h7,hm⟩:=bs hm
    obtain ⟨vv,H1,hC,rfl,rfl⟩:=abW m1 f1 (by first | rfl | assumption | omega | (simp only [List.length_set,List.length_append,List.length_cons,List.length_nil,List.length_replicate,List.length_drop] at * <;> omega)) (by first | exact Nat.zero_le _ | exact Nat.le_refl _ | assumption | omega | (simp only [List.length_set,List.length_append,List.length_cons,List.length_nil,List.length_replicate,List.length_drop] at * <;> omega)) h7
    refine dR [(28,.tup [])] [.box [aR 1 1 ((a0++([x1.1]:List Int)).length)] false,bR 3 1 (rI .i64) (a0++([x1.1]:List Int)) f1 0,.box [.pv (zc zb a1)] false,.box (zc7 a2) false] [0,1] [aI x1.1,.ptr 0 0] (by kernel_rfl) (by kernel_rfl) (by kernel_rfl) hC (by kernel_rfl) (fin [(9,aI y4)] rfl (by kernel_rfl) (sq (dn [(7,aI y4)] (wp_ret ?_))))
    obtain rfl:=Option.some.inj hm
    exact ⟨trivial,aI y4,[.box [aR 1 1 ((a0++([x1.1]:List Int)).length)] false,bR 3 1 (rI .i64) (a0++([x1.1]:List Int)) f1 0,.box [.pv (zc zb a1)] false],by kernel_rfl,(a0++([x1.1]:List Int)).length,f1,(by first | rfl | assumption | omega | (simp only [List.length_set,List.length_append,List.length_cons,List.length_nil,List.length_replicate,List.length_drop] at * <;> omega)),(by first | exact Nat.zero_le _ | exact Nat.le_refl _ | assumption | omega | (simp only [List.length_set,List.length_append,List.length_cons,List.length_nil,List.length_replicate,List.length_drop] at * <;> omega)),rfl,rfl⟩
   ·
    refine c0 h6 (wp_skip (sq (dn [(7,aI y4)] (wp_ret ?_))))
    obtain rfl:=Option.some.inj hm
    exact ⟨trivial,aI y4,[.box [aR 1 1 m1] false,bR 3 1 (rI .i64) a0 f1 0,.box [.pv (zc zb a1)] false],by kernel_rfl,m1,f1,(by first | rfl | assumption | omega | (simp only [List.length_set,List.length_append,List.length_cons,List.length_nil,List.length_replicate,List.length_drop] at * <;> omega)),(by first | exact Nat.zero_le _ | exact Nat.le_refl _ | assumption | omega | (simp only [List.length_set,List.length_append,List.length_cons,List.length_nil,List.length_replicate,List.length_drop] at * <;> omega)),rfl,rfl⟩
  refine sq (rg (s1 3 [(18,aB (x1.2 == 0)),(17,aB (x1.2 == 0)),(16,aI x1.2)] ?_))
  rcases zf hm with ⟨h8,hm⟩ | ⟨h8,hm⟩
  ·
   refine known [18,17] h8 (by kernel_rfl) (s1 2 [(20,aI x1.1),(19,.pv (.fn 51 [] []))] ?_)
   obtain ⟨x9,h10,hm⟩:=bs hm
   refine dv 21 (zF (by kernel_rfl) (abp h10) (by kernel_rfl) (by kernel_rfl) (by kernel_rfl)) (by kernel_rfl) (fq 2 [(2,.fn 52 [] [.ptr 0 0]),(8,aI x1.1),(9,aI x1.2),(23,aB (!x9))] ?_)
   rcases zf hm with ⟨h11,hm⟩ | ⟨h11,hm⟩
   ·
    refine c1 h11 (dn [(2,.fn 52 [] [.ptr 0 0]),(8,aI x1.1),(9,aI 50)] ?_)
    exact ⟨50,.any,hm,(zJ (by kernel_rfl)),rfl⟩
   ·
    refine c0 h11 (wp_skip ?_)
    exact ⟨x1.2,aB (!x9),hm,(zJ (by kernel_rfl)),rfl⟩
  ·
   refine known [18,17] h8 (by kernel_rfl) (fq 5 [(2,.fn 52 [] [.ptr 0 0]),(8,aI x1.1),(9,aI x1.2),(23,aB false)] (cF (by kernel_rfl) (wp_skip ?_)))
   exact ⟨x1.2,aB false,hm,(zJ (by kernel_rfl)),rfl⟩
theorem ago (m5:Nat) (f5:Nat) {n:Nat} {a0:(List Int)} {a1:(Option (List zk))} {a2:zh} {r:(List Int) × Int} (hm5:a0.length=m5) (hf5:f5≤a0.length) (hm:aaI n a0 a1 a2=some r):
    ∃ vv H1,call G n 57 [.agg (zc7 a2),.ptr 0 0,.ptr 2 0,.ptr 3 0] [.box [.fn 49 [] [.ptr 1 0]] false,.box [.pv (zc zb a1)] false,.box [.pv (.fn 51 [] [])] false,.box [.fn 52 [] [.ptr 4 0]] false,.box [aR 5 1 m5] false,bR 3 1 (rI .i64) a0 f5 0]=some (.ret vv,H1)∧(match (generalizing:=false) r with | (r0,r1)=>(∃ (e2:Nat) (e3:Nat),r0.length=e2∧e3≤r0.length∧vv=aI r1∧H1=[.box [.fn 49 [] [.ptr 1 0]] false,.box [.pv (zc zb a1)] false,.box [.pv (.fn 51 [] [])] false,.box [.fn 52 [] [.ptr 4 0]] false,.box [aR 5 1 e2] false,bR 3 1 (rI .i64) r0 e3 0])):=by
  unfold aaI at hm
  obtain ⟨n,rfl,h0⟩:=zp hm
  replace hm:=h0; clear h0
  refine Qh 11 [(0,.agg (zc7 a2)),(1,.ptr 0 0),(2,.ptr 2 0),(3,.ptr 3 0)] func57 rfl (by kernel_rfl) (sq (det [(1,.ptr 0 0),(2,.ptr 2 0),(3,.ptr 3 0),(4,.ptr 6 0)] [.box [.fn 49 [] [.ptr 1 0]] false,.box [.pv (zc zb a1)] false,.box [.pv (.fn 51 [] [])] false,.box [.fn 52 [] [.ptr 4 0]] false,.box [aR 5 1 m5] false,bR 3 1 (rI .i64) a0 f5 0,.box (zc7 a2) false] (by kernel_rfl) (sq (rg (s1 4 [(9,.fn 52 [] [.ptr 4 0]),(8,.pv (.fn 51 [] [])),(7,.agg (zc7 a2)),(6,.fn 49 [] [.ptr 1 0])] ?_)))))
  obtain ⟨⟨x2,x3⟩,h1,hm⟩:=bs hm
  obtain ⟨vv,H1,hC,g4,g5,q6,q7,rfl,rfl⟩:=qC m5 f5 (by first | rfl | assumption | omega | (simp only [List.length_set,List.length_append,List.length_cons,List.length_nil,List.length_replicate,List.length_drop] at * <;> omega)) (by first | exact Nat.zero_le _ | exact Nat.le_refl _ | assumption | omega | (simp only [List.length_set,List.length_append,List.length_cons,List.length_nil,List.length_replicate,List.length_drop] at * <;> omega)) h1
  refine dR [(10,aI x3)] [.box [.fn 49 [] [.ptr 1 0]] false,.box [.pv (zc zb a1)] false,.box [.pv (.fn 51 [] [])] false,.box [.fn 52 [] [.ptr 4 0]] false,.box [aR 5 1 g4] false,bR 3 1 (rI .i64) x2 g5 0,.box (zc7 a2) false] [4,5,1] [.agg (zc7 a2),.pv (.fn 51 [] []),.fn 52 [] [.ptr 4 0],.ptr 1 0] (by kernel_rfl) (by kernel_rfl) (by kernel_rfl) hC (by kernel_rfl) (fq 1 [(5,aI x3)] (wp_ret ?_))
  obtain rfl:=Option.some.inj hm
  exact ⟨trivial,aI x3,[.box [.fn 49 [] [.ptr 1 0]] false,.box [.pv (zc zb a1)] false,.box [.pv (.fn 51 [] [])] false,.box [.fn 52 [] [.ptr 4 0]] false,.box [aR 5 1 g4] false,bR 3 1 (rI .i64) x2 g5 0],by kernel_rfl,g4,g5,(by first | rfl | assumption | omega | (simp only [List.length_set,List.length_append,List.length_cons,List.length_nil,List.length_replicate,List.length_drop] at * <;> omega)),(by first | exact Nat.zero_le _ | exact Nat.le_refl _ | assumption | omega | (simp only [List.length_set,List.length_append,List.length_cons,List.length_nil,List.length_replicate,List.length_drop] at * <;> omega)),rfl,rfl⟩
abbrev zp30:Nat × AV:=(1,.fn 57 [] [.ptr 0 0,.ptr 2 0,.ptr 3 0])
theorem Q4 {n:Nat} {a0:(Option (List zk))} {a1:(Option (List zd))} {r:(Option (List Int)) × Int} (hm:Z9 n a0 a1=some r):
    ∃ vv H1,call G n 53 [.pv (zc za a1),.fn 57 [] [.ptr 0 0,.ptr 2 0,.ptr 3 0]] [.box [.fn 49 [] [.ptr 1 0]] false,.box [.pv (zc zb a0)] false,.box [.pv (.fn 51 [] [])] false,.box [.fn 52 [] [.ptr 4 0]] false,.box [.pv .nils] false]=some (.ret vv,H1)∧(match (generalizing:=false) r with | (none,r0)=>(vv=aI r0∧H1=[.box [.fn 49 [] [.ptr 1 0]] false,.box [.pv (zc zb a0)] false,.box [.pv (.fn 51 [] [])] false,.box [.fn 52 [] [.ptr 4 0]] false,.box [.pv .nils] false]) | (some r1,r0)=>(∃ (e2:Nat) (e3:Nat),r1.length=e2∧e3≤r1.length∧vv=aI r0∧H1=[.box [.fn 49 [] [.ptr 1 0]] false,.box [.pv (zc zb a0)] false,.box [.pv (.fn 51 [] [])] false,.box [.fn 52 [] [.ptr 4 0]] false,.box [aR 5 1 e2] false,bR 3 1 (rI .i64) r1 e3 0])):=by
  unfold Z9 at hm
  obtain ⟨n,rfl,h0⟩:=zp hm
  replace hm:=h0; clear h0
  refine Qh 21 [(0,.pv (zc za a1)),zp30] func53 rfl (by kernel_rfl) (sq (dn [(0,.pv (zc za a1)),zp30] ?_))
  obtain ⟨k8,hk8,hm⟩:=zw hm
  refine mid (fun t H=>(∃ (w1:AV) (w2:AV),k8 none=some r∧t=mk 21 [zp30,(8,.pv (zc za a1)),(9,aI ((sll a1).length:Int)),(10,w1),(11,w2)]∧H=[.box [.fn 49 [] [.ptr 1 0]] false,.box [.pv (zc zb a0)] false,.box [.pv (.fn 51 [] [])] false,.box [.fn 52 [] [.ptr 4 0]] false,.box [.pv .nils] false])∨(∃ (y3:(List Int)) (w1:AV) (w2:AV) (g4:Nat) (g6:Nat),k8 (some y3)=some r∧t=mk 21 [zp30,(8,.pv (zc za a1)),(9,aI ((sll a1).length:Int)),(10,w1),(11,w2)]∧H=[.box [.fn 49 [] [.ptr 1 0]] false,.box [.pv (zc zb a0)] false,.box [.pv (.fn 51 [] [])] false,.box [.fn 52 [] [.ptr 4 0]] false,.box [aR 5 1 g4] false,bR 3 1 (rI .i64) y3 g6 0]∧y3.length=g4∧g6≤y3.length)) ?_ ?_
  ·
   rintro _ _ (⟨w1,w2,hm,rfl,rfl⟩ | ⟨y3,w1,w2,g4,g6,hm,rfl,rfl,q5,q7⟩)
   ·
    subst hk8
    refine sq (dn [(4,aI 0)] (wp_ret ?_))
    obtain rfl:=Option.some.inj hm
    exact ⟨trivial,aI 0,[.box [.fn 49 [] [.ptr 1 0]] false,.box [.pv (zc zb a0)] false,.box [.pv (.fn 51 [] [])] false,.box [.fn 52 [] [.ptr 4 0]] false,.box [.pv .nils] false],by kernel_rfl,rfl,rfl⟩
   ·
    subst hk8
    refine sq (dn [(4,aI 0)] (wp_ret ?_))
    obtain rfl:=Option.some.inj hm
    exact ⟨trivial,aI 0,[.box [.fn 49 [] [.ptr 1 0]] false,.box [.pv (zc zb a0)] false,.box [.pv (.fn 51 [] [])] false,.box [.fn 52 [] [.ptr 4 0]] false,.box [aR 5 1 g4] false,bR 3 1 (rI .i64) y3 g6 0],by kernel_rfl,g4,g6,(by first | rfl | assumption | omega | (simp only [List.length_set,List.length_append,List.length_cons,List.length_nil,List.length_replicate,List.length_drop] at * <;> omega)),(by first | exact Nat.zero_le _ | exact Nat.le_refl _ | assumption | omega | (simp only [List.length_set,List.length_append,List.length_cons,List.length_nil,List.length_replicate,List.length_drop] at * <;> omega)),rfl,rfl⟩
  refine sq (rg (s1 1 [(8,.pv (zc za a1))] (dv 9 (v:=aI ((sll a1).length:Int)) (zC za a1 t23 (by kernel_rfl)) (by kernel_rfl) (fq 1 [zp30,(8,.pv (zc za a1)),(9,aI ((sll a1).length:Int)),(10,aI 0)] (bq ?_)))))
  refine qR (fun mm t H=>(∃ (y18:Int),zG n a0 a1 k8 mm none y18=some r∧t=mk 21 [zp30,(8,.pv (zc za a1)),(9,aI ((sll a1).length:Int)),(10,aI y18)]∧H=[.box [.fn 49 [] [.ptr 1 0]] false,.box [.pv (zc zb a0)] false,.box [.pv (.fn 51 [] [])] false,.box [.fn 52 [] [.ptr 4 0]] false,.box [.pv .nils] false])∨(∃ (y17:(List Int)) (y18:Int) (g19:Nat) (g21:Nat),zG n a0 a1 k8 mm (some y17) y18=some r∧t=mk 21 [zp30,(8,.pv (zc za a1)),(9,aI ((sll a1).length:Int)),(10,aI y18)]∧H=[.box [.fn 49 [] [.ptr 1 0]] false,.box [.pv (zc zb a0)] false,.box [.pv (.fn 51 [] [])] false,.box [.fn 52 [] [.ptr 4 0]] false,.box [aR 5 1 g19] false,bR 3 1 (rI .i64) y17 g21 0]∧y17.length=g19∧g21≤y17.length)) (.inl ⟨0,hm,rfl,rfl⟩) ?_ ?_
  · rintro _ _ (⟨y18,hm,_⟩ | ⟨y17,y18,g19,g21,hm,_⟩) <;> exact nomatch hm
  rintro m23 _ _ (⟨y18,hm,rfl,rfl⟩ | ⟨y17,y18,g19,g21,hm,rfl,rfl,q20,q22⟩)
  ·
   simp only [zG] at hm
   refine sq (dn [zp30,(8,.pv (zc za a1)),(9,aI ((sll a1).length:Int)),(10,aI y18),(11,aB (zg39 y18 a1))] ?_)
   refine sq ?_
   rcases zf hm with ⟨h24,hm⟩ | ⟨h24,hm⟩
   ·
    refine c1 h24 (wp_skip (sq (bq (sq (rg ?_)))))
    obtain ⟨x25,h26,hm⟩:=bs hm
    refine dv 12 (v:=.pv (.ptr (zg40 x25) 0)) (ZN za a1 .i64 t23 t49 h26 (zu x25) rfl (by kernel_rfl)) (by kernel_rfl) (stf 3 [zp30,(6,.ptr 5 0),(8,.pv (zc za a1)),(9,aI ((sll a1).length:Int)),(10,aI y18)] [.box [.fn 49 [] [.ptr 1 0]] false,.box [.pv (zc zb a0)] false,.box [.pv (.fn 51 [] [])] false,.box [.fn 52 [] [.ptr 4 0]] false,.box [.pv .nils] false,.box (zc9 x25) false] (by kernel_rfl) (sq (rg (s1 2 [(15,.agg (zc9 x25)),(14,.fn 57 [] [.ptr 0 0,.ptr 2 0,.ptr 3 0])] ?_))))
    obtain ⟨x30,h27,hm⟩:=bs hm
    rcases x30 with ⟨_ | x28,x29⟩
    ·
     obtain ⟨vv,H1,hC,rfl,rfl⟩:=ael h27
     refine dR [(16,aI x29)] [.box [.fn 49 [] [.ptr 1 0]] false,.box [.pv (zc zb a0)] false,.box [.pv (.fn 51 [] [])] false,.box [.fn 52 [] [.ptr 4 0]] false,.box [.pv .nils] false,.box (zc9 x25) false] [0,1,2,3,4] [.agg (zc9 x25),.ptr 0 0,.ptr 2 0,.ptr 3 0] (by kernel_rfl) (by kernel_rfl) (by kernel_rfl) hC (by kernel_rfl) (fq 1 [zp30,(7,aI x29),(8,.pv (zc za a1)),(9,aI ((sll a1).length:Int)),(10,aI y18)] (sq (dn [zp30,(7,aI x29),(8,.pv (zc za a1)),(9,aI ((sll a1).length:Int)),(10,aI y18),(18,aB (x29 != 0))] ?_)))
     rcases zf hm with ⟨h31,hm⟩ | ⟨h31,hm⟩
     ·
      refine c1 h31 (sq (dn [(4,aI x29)] (wp_ret ?_)))
      obtain rfl:=Option.some.inj hm
      exact ⟨trivial,aI x29,[.box [.fn 49 [] [.ptr 1 0]] false,.box [.pv (zc zb a0)] false,.box [.pv (.fn 51 [] [])] false,.box [.fn 52 [] [.ptr 4 0]] false,.box [.pv .nils] false],by kernel_rfl,rfl,rfl⟩
     ·
      refine c0 h31 (wp_skip (dn [zp30,(8,.pv (zc za a1)),(9,aI ((sll a1).length:Int)),(10,aI (IntKind.wrap .i64 (y18+1)))] ?_))
      exact ⟨_,_,qd [zp30,(8,.pv (zc za a1)),(9,aI ((sll a1).length:Int)),(10,aI (IntKind.wrap .i64 (y18+1)))] [.box [.fn 49 [] [.ptr 1 0]] false,.box [.pv (zc zb a0)] false,.box [.pv (.fn 51 [] [])] false,.box [.fn 52 [] [.ptr 4 0]] false,.box [.pv .nils] false] (by kernel_rfl),.inl ⟨(IntKind.wrap .i64 (y18+1)),hm,rfl,rfl⟩⟩
    ·
     obtain ⟨vv,H1,hC,rfl,rfl⟩:=ael h27
     refine dR [(16,aI x29)] [.box [.fn 49 [] [.ptr 1 0]] false,.box [.pv (zc zb a0)] false,.box [.pv (.fn 51 [] [])] false,.box [.fn 52 [] [.ptr 4 0]] false,.box [aR 6 1 x28.length] false,.box (zc9 x25) false,bR 3 1 (rI .i64) x28 0 0] [0,1,2,3,4] [.agg (zc9 x25),.ptr 0 0,.ptr 2 0,.ptr 3 0] (by kernel_rfl) (by kernel_rfl) (by kernel_rfl) hC (by kernel_rfl) (fq 1 [zp30,(7,aI x29),(8,.pv (zc za a1)),(9,aI ((sll a1).length:Int)),(10,aI y18)] (sq (dn [zp30,(7,aI x29),(8,.pv (zc za a1)),(9,aI ((sll a1).length:Int)),(10,aI y18),(18,aB (x29 != 0))] ?_)))
     rcases zf hm with ⟨h32,hm⟩ | ⟨h32,hm⟩
     ·
      refine c1 h32 (sq (dn [(4,aI x29)] (wp_ret ?_)))
      obtain rfl:=Option.some.inj hm
      exact ⟨trivial,aI x29,[.box [.fn 49 [] [.ptr 1 0]] false,.box [.pv (zc zb a0)] false,.box [.pv (.fn 51 [] [])] false,.box [.fn 52 [] [.ptr 4 0]] false,.box [aR 5 1 x28.length] false,bR 3 1 (rI .i64) x28 0 0],by kernel_rfl,x28.length,0,(by first | rfl | assumption | omega | (simp only [List.length_set,List.length_append,List.length_cons,List.length_nil,List.length_replicate,List.length_drop] at * <;> omega)),(by first | exact Nat.zero_le _ | exact Nat.le_refl _ | assumption | omega | (simp only [List.length_set,List.length_append,List.length_cons,List.length_nil,List.length_replicate,List.length_drop] at * <;> omega)),rfl,rfl⟩
     ·
      refine c0 h32 (wp_skip (dn [zp30,(8,.pv (zc za a1)),(9,aI ((sll a1).length:Int)),(10,aI (IntKind.wrap .i64 (y18+1)))] ?_))
      exact ⟨_,_,qd [zp30,(8,.pv (zc za a1)),(9,aI ((sll a1).length:Int)),(10,aI (IntKind.wrap .i64 (y18+1)))] [.box [.fn 49 [] [.ptr 1 0]] false,.box [.pv (zc zb a0)] false,.box [.pv (.fn 51 [] [])] false,.box [.fn 52 [] [.ptr 4 0]] false,.box [aR 5 1 x28.length] false,bR 3 1 (rI .i64) x28 0 0] (by kernel_rfl),.inr (⟨x28,(IntKind.wrap .i64 (y18+1)),x28.length,0,hm,rfl,rfl,(by first | rfl | assumption | omega | (simp only [List.length_set,List.length_append,List.length_cons,List.length_nil,List.length_replicate,List.length_drop] at * <;> omega)),(by first | exact Nat.zero_le _ | exact Nat.le_refl _ | assumption | omega | (simp only [List.length_set,List.length_append,List.length_cons,List.length_nil,List.length_replicate,List.length_drop] at * <;> omega))⟩)⟩
   ·
    refine c0 h24 (wp_exit ?_)
    exact .inl ⟨aI y18,aB (zg39 y18 a1),hm,(zJ (by kernel_rfl)),rfl⟩
  ·
   simp only [zG] at hm
   refine sq (dn [zp30,(8,.pv (zc za a1)),(9,aI ((sll a1).length:Int)),(10,aI y18),(11,aB (zg39 y18 a1))] ?_)
   refine sq ?_
   rcases zf hm with ⟨h33,hm⟩ | ⟨h33,hm⟩
   ·
    refine c1 h33 (wp_skip (sq (bq (sq (rg ?_)))))
    obtain ⟨x34,h35,hm⟩:=bs hm
    refine dv 12 (v:=.pv (.ptr (zg40 x34) 0)) (ZN za a1 .i64 t23 t49 h35 (zu x34) rfl (by kernel_rfl)) (by kernel_rfl) (stf 3 [zp30,(6,.ptr 6 0),(8,.pv (zc za a1)),(9,aI ((sll a1).length:Int)),(10,aI y18)] [.box [.fn 49 [] [.ptr 1 0]] false,.box [.pv (zc zb a0)] false,.box [.pv (.fn 51 [] [])] false,.box [.fn 52 [] [.ptr 4 0]] false,.box [aR 5 1 g19] false,bR 3 1 (rI .i64) y17 g21 0,.box (zc9 x34) false] (by kernel_rfl) (sq (rg (s1 2 [(15,.agg (zc9 x34)),(14,.fn 57 [] [.ptr 0 0,.ptr 2 0,.ptr 3 0])] ?_))))
    obtain ⟨⟨x37,x38⟩,h36,hm⟩:=bs hm
    obtain ⟨vv,H1,hC,g39,g40,q41,q42,rfl,rfl⟩:=ago g19 g21 (by first | rfl | assumption | omega | (simp only [List.length_set,List.length_append,List.length_cons,List.length_nil,List.length_replicate,List.length_drop] at * <;> omega)) (by first | exact Nat.zero_le _ | exact Nat.le_refl _ | assumption | omega | (simp only [List.length_set,List.length_append,List.length_cons,List.length_nil,List.length_replicate,List.length_drop] at * <;> omega)) h36
    refine dR [(16,aI x38)] [.box [.fn 49 [] [.ptr 1 0]] false,.box [.pv (zc zb a0)] false,.box [.pv (.fn 51 [] [])] false,.box [.fn 52 [] [.ptr 4 0]] false,.box [aR 5 1 g39] false,bR 3 1 (rI .i64) x37 g40 0,.box (zc9 x34) false] [0,1,2,3,4,5] [.agg (zc9 x34),.ptr 0 0,.ptr 2 0,.ptr 3 0] (by kernel_rfl) (by kernel_rfl) (by kernel_rfl) hC (by kernel_rfl) (fq 1 [zp30,(7,aI x38),(8,.pv (zc za a1)),(9,aI ((sll a1).length:Int)),(10,aI y18)] (sq (dn [zp30,(7,aI x38),(8,.pv (zc za a1)),(9,aI ((sll a1).length:Int)),(10,aI y18),(18,aB (x38 != 0))] ?_)))
    rcases zf hm with ⟨h43,hm⟩ | ⟨h43,hm⟩
    ·
     refine c1 h43 (sq (dn [(4,aI x38)] (wp_ret ?_)))
     obtain rfl:=Option.some.inj hm
     exact ⟨trivial,aI x38,[.box [.fn 49 [] [.ptr 1 0]] false,.box [.pv (zc zb a0)] false,.box [.pv (.fn 51 [] [])] false,.box [.fn 52 [] [.ptr 4 0]] false,.box [aR 5 1 g39] false,bR 3 1 (rI .i64) x37 g40 0],by kernel_rfl,g39,g40,(by first | rfl | assumption | omega | (simp only [List.length_set,List.length_append,List.length_cons,List.length_nil,List.length_replicate,List.length_drop] at * <;> omega)),(by first | exact Nat.zero_le _ | exact Nat.le_refl _ | assumption | omega | (simp only [List.length_set,List.length_append,List.length_cons,List.length_nil,List.length_replicate,List.length_drop] at * <;> omega)),rfl,rfl⟩
    ·
     refine c0 h43 (wp_skip (dn [zp30,(8,.pv (zc za a1)),(9,aI ((sll a1).length:Int)),(10,aI (IntKind.wrap .i64 (y18+1)))] ?_))
     exact ⟨_,_,qd [zp30,(8,.pv (zc za a1)),(9,aI ((sll a1).length:Int)),(10,aI (IntKind.wrap .i64 (y18+1)))] [.box [.fn 49 [] [.ptr 1 0]] false,.box [.pv (zc zb a0)] false,.box [.pv (.fn 51 [] [])] false,.box [.fn 52 [] [.ptr 4 0]] false,.box [aR 5 1 g39] false,bR 3 1 (rI .i64) x37 g40 0] (by kernel_rfl),.inr (⟨x37,(IntKind.wrap .i64 (y18+1)),g39,g40,hm,rfl,rfl,(by first | rfl | assumption | omega | (simp only [List.length_set,List.length_append,List.length_cons,List.length_nil,List.length_replicate,List.length_drop] at * <;> omega)),(by first | exact Nat.zero_le _ | exact Nat.le_refl _ | assumption | omega | (simp only [List.length_set,List.length_append,List.length_cons,List.length_nil,List.length_replicate,List.length_drop] at * <;> omega))⟩)⟩
   ·
    refine c0 h33 (wp_exit ?_)
    exact .inr (⟨y17,aI y18,aB (zg39 y18 a1),g19,g21,hm,(zJ (by kernel_rfl)),rfl,(by first | rfl | assumption | omega | (simp only [List.length_set,List.length_append,List.length_cons,List.length_nil,List.length_replicate,List.length_drop] at * <;> omega)),(by first | exact Nat.zero_le _ | exact Nat.le_refl _ | assumption | omega | (simp only [List.length_set,List.length_append,List.length_cons,List.length_nil,List.length_replicate,List.length_drop] at * <;> omega))⟩)
theorem agr {n:Nat} {a0:Int} {r:Unit} (hm:abM n a0=some r):
    ∃ vv H1,call G n 60 [aI a0,.ptr 0 0] [.box [.fn 52 [] [.ptr 1 0]] false,.box [.pv .nils] false]=some (.ret vv,H1)∧(vv=.tup []∧H1=[.box [.fn 52 [] [.ptr 1 0]] false,.box [aR 2 1 (([2]:List Int).length)] false,bR 3 1 (rI .i64) ([2]:List Int) 0 0]):=by
  unfold abM at hm
  obtain ⟨n,rfl,h0⟩:=zp hm
  replace hm:=h0; clear h0
  refine Qh 5 [(0,aI a0),(1,.ptr 0 0)] func60 rfl (by kernel_rfl) (rg (s1 1 [(3,.fn 52 [] [.ptr 1 0])] ?_))
  obtain ⟨_,h1,hm⟩:=bs hm
  obtain ⟨vv,H1,hC,rfl,rfl⟩:=acD h1
  refine dR [(4,.tup [])] [.box [.fn 52 [] [.ptr 1 0]] false,.box [aR 2 1 (([2]:List Int).length)] false,bR 3 1 (rI .i64) ([2]:List Int) 0 0] [1] [aI 2,.ptr 1 0] (by kernel_rfl) (by kernel_rfl) (by kernel_rfl) hC (by kernel_rfl) (fin [] rfl (by kernel_rfl) ?_)
  obtain rfl:=Option.some.inj hm
  exact ⟨trivial,.tup [],[.box [.fn 52 [] [.ptr 1 0]] false,.box [aR 2 1 (([2]:List Int).length)] false,bR 3 1 (rI .i64) ([2]:List Int) 0 0],by kernel_rfl,rfl,rfl⟩
theorem qB {n:Nat} {a0:(Option (List zk))} {a1:zh} {r:(Option (List Int)) × Int} (hm:Zq n a0 a1=some r):
    ∃ vv H1,call G n 49 [.agg (zc7 a1),.pv (.fn 51 [] []),.fn 60 [] [.ptr 0 0],.ptr 2 0] [.box [.fn 52 [] [.ptr 1 0]] false,.box [.pv .nils] false,.box [.pv (zc zb a0)] false]=some (.ret vv,H1)∧(match (generalizing:=false) r with | (some r0,r1)=>(r0.length=([2]:List Int).length∧vv=aI r1∧H1=[.box [.fn 52 [] [.ptr 1 0]] false,.box [aR 3 1 (([2]:List Int).length)] false,.box [.pv (zc zb a0)] false,bR 3 1 (rI .i64) r0 0 0]) | (none,r1)=>(vv=aI r1∧H1=[.box [.fn 52 [] [.ptr 1 0]] false,.box [.pv .nils] false,.box [.pv (zc zb a0)] false])):=by
  unfold Zq at hm
  obtain ⟨n,rfl,h0⟩:=zp hm
  replace hm:=h0; clear h0
  refine Qh 30 [(0,.agg (zc7 a1)),(1,.pv (.fn 51 [] [])),(2,.fn 60 [] [.ptr 0 0]),(3,.ptr 2 0)] func49 rfl (by kernel_rfl) (sq (det [(1,.pv (.fn 51 [] [])),(2,.fn 60 [] [.ptr 0 0]),(3,.ptr 2 0),(4,.ptr 3 0)] [.box [.fn 52 [] [.ptr 1 0]] false,.box [.pv .nils] false,.box [.pv (zc zb a0)] false,.box (zc7 a1) false] (by kernel_rfl) (sq (rg (s1 2 [(12,.pv (zc zb a0)),(11,.agg (zc7 a1))] ?_)))))
  obtain ⟨x1,h2,hm⟩:=bs hm
  refine dv 13 (zF (by kernel_rfl) (aaF h2) (by kernel_rfl) (by kernel_rfl) (by kernel_rfl)) (by kernel_rfl) (fq 5 [(1,.pv (.fn 51 [] [])),(2,.fn 60 [] [.ptr 0 0]),(8,aI x1.1),(9,aI x1.2)] ?_)
  obtain ⟨k5,hk5,hm⟩:=zw hm
  refine mid (fun t H=>(∃ (y4:Int) (w3:AV),k5 y4=some r∧t=mk 30 [(2,.fn 60 [] [.ptr 0 0]),(8,aI x1.1),(9,aI y4),(23,w3)]∧H=[.box [.fn 52 [] [.ptr 1 0]] false,.box [.pv .nils] false,.box [.pv (zc zb a0)] false,.box (zc7 a1) false])) ?_ ?_
  ·
   rintro _ _ ⟨y4,w3,hm,rfl,rfl⟩
   subst hk5
   refine sq (sq (dn [(2,.fn 60 [] [.ptr 0 0]),(8,aI x1.1),(9,aI y4),(25,aB (y4 == 0))] ?_))
   rcases zf hm with ⟨h6,hm⟩ | ⟨h6,hm⟩
   ·
    refine c1 h6 (rg (s1 2 [(27,aI x1.1),(26,.fn 60 [] [.ptr 0 0])] ?_))
    obtain ⟨_,h7,hm⟩:=bs hm
    obtain ⟨vv,H1,hC,rfl,rfl⟩:=agr h7
    refine dR [(28,.tup [])] [.box [.fn 52 [] [.ptr 1 0]] false,.box [aR 4 1 (([2]:List Int).length)] false,.box [.pv (zc zb a0)] false,.box (zc7 a1) false,bR 3 1 (rI .i64) ([2]:List Int) 0 0] [0,1] [aI x1.1,.ptr 0 0] (by kernel_rfl) (by kernel_rfl) (by kernel_rfl) hC (by kernel_rfl) (fin [(9,aI y4)] rfl (by kernel_rfl) (sq (dn [(7,aI y4)] (wp_ret ?_))))
    obtain rfl:=Option.some.inj hm
    exact ⟨trivial,aI y4,[.box [.fn 52 [] [.ptr 1 0]] false,.box [aR 3 1 (([2]:List Int).length)] false,.box [.pv (zc zb a0)] false,bR 3 1 (rI .i64) ([2]:List Int) 0 0],by kernel_rfl,(by first | rfl | assumption | omega | (simp only [List.length_set,List.length_append,List.length_cons,List.length_nil,List.length_replicate,List.length_drop] at * <;> omega)),rfl,rfl⟩
   ·
    refine c0 h6 (wp_skip (sq (dn [(7,aI y4)] (wp_ret ?_))))
    obtain rfl:=Option.some.inj hm
    exact ⟨trivial,aI y4,[.box [.fn 52 [] [.ptr 1 0]] false,.box [.pv .nils] false,.box [.pv (zc zb a0)] false],by kernel_rfl,rfl,rfl⟩
  refine sq (rg (s1 3 [(18,aB (x1.2 == 0)),(17,aB (x1.2 == 0)),(16,aI x1.2)] ?_))
  rcases zf hm with ⟨h8,hm⟩ | ⟨h8,hm⟩
  ·
   refine known [18,17] h8 (by kernel_rfl) (s1 2 [(20,aI x1.1),(19,.pv (.fn 51 [] []))] ?_)
   obtain ⟨x9,h10,hm⟩:=bs hm
   refine dv 21 (zF (by kernel_rfl) (abp h10) (by kernel_rfl) (by kernel_rfl) (by kernel_rfl)) (by kernel_rfl) (fq 2 [(2,.fn 60 [] [.ptr 0 0]),(8,aI x1.1),(9,aI x1.2),(23,aB (!x9))] ?_)
   rcases zf hm with ⟨h11,hm⟩ | ⟨h11,hm⟩
   ·
    refine c1 h11 (dn [(2,.fn 60 [] [.ptr 0 0]),(8,aI x1.1),(9,aI 50)] ?_)
    exact ⟨50,.any,hm,(zJ (by kernel_rfl)),rfl⟩
   ·
    refine c0 h11 (wp_skip ?_)
    exact ⟨x1.2,aB (!x9),hm,(zJ (by kernel_rfl)),rfl⟩
  ·
   refine known [18,17] h8 (by kernel_rfl) (fq 5 [(2,.fn 60 [] [.ptr 0 0]),(8,aI x1.1),(9,aI x1.2),(23,aB false)] (cF (by kernel_rfl) (wp_skip ?_)))
   exact ⟨x1.2,aB false,hm,(zJ (by kernel_rfl)),rfl⟩
theorem adA {n:Nat} {a0:Int} {r:Bool} (hm:QX n a0=some r):
    call G n 61 [aI a0] []=some (.ret (aB r),[]):=by
  unfold QX at hm
  obtain ⟨n,rfl,h0⟩:=zp hm
  replace hm:=h0; clear h0
  refine Zt 9 [(0,aI a0)] func61 rfl (by kernel_rfl) (sq (dn [(0,aI a0)] (sq (rg (s1 3 [(5,aB (a0 == 0)),(4,aB (a0 == 0)),(3,aI a0)] ?_)))))
  refine segP (a0 == 0) [5,4] (fun b=>[(8,aB (b || (a0 == 2))),(7,ifA b (.undef) (aB (a0 == 2))),(6,ifA b (.undef) (aI a0))]) 3 (by kernel_rfl) (by kernel_rfl) (by kernel_rfl) (fq 1 [(2,aB ((a0 == 0) || (a0 == 2)))] (wp_ret ?_))
  obtain rfl:=Option.some.inj hm
  exact ⟨trivial,by kernel_rfl⟩
theorem agw {n:Nat} {a0:Int} {r:Unit} (hm:abR n a0=some r):
    ∃ vv H1,call G n 62 [aI a0,.ptr 0 0] [.box [.fn 52 [] [.ptr 1 0]] false,.box [.pv .nils] false]=some (.ret vv,H1)∧(vv=.tup []∧H1=[.box [.fn 52 [] [.ptr 1 0]] false,.box [aR 2 1 (([2]:List Int).length)] false,bR 3 1 (rI .i64) ([2]:List Int) 0 0]):=by
  unfold abR at hm
  obtain ⟨n,rfl,h0⟩:=zp hm
  replace hm:=h0; clear h0
  refine Qh 5 [(0,aI a0),(1,.ptr 0 0)] func62 rfl (by kernel_rfl) (rg (s1 1 [(3,.fn 52 [] [.ptr 1 0])] ?_))
  obtain ⟨_,h1,hm⟩:=bs hm
  obtain ⟨vv,H1,hC,rfl,rfl⟩:=acD h1
  refine dR [(4,.tup [])] [.box [.fn 52 [] [.ptr 1 0]] false,.box [aR 2 1 (([2]:List Int).length)] false,bR 3 1 (rI .i64) ([2]:List Int) 0 0] [1] [aI 2,.ptr 1 0] (by kernel_rfl) (by kernel_rfl) (by kernel_rfl) hC (by kernel_rfl) (fin [] rfl (by kernel_rfl) ?_)
  obtain rfl:=Option.some.inj hm
  exact ⟨trivial,.tup [],[.box [.fn 52 [] [.ptr 1 0]] false,.box [aR 2 1 (([2]:List Int).length)] false,bR 3 1 (rI .i64) ([2]:List Int) 0 0],by kernel_rfl,rfl,rfl⟩
theorem qv {n:Nat} {a0:(Option (List zk))} {a1:zh} {r:(Option (List Int)) × Int} (hm:Zk n a0 a1=some r):
    ∃ vv H1,call G n 49 [.agg (zc7 a1),.pv (.fn 61 [] []),.fn 62 [] [.ptr 0 0],.ptr 2 0] [.box [.fn 52 [] [.ptr 1 0]] false,.box [.pv .nils] false,.box [.pv (zc zb a0)] false]=some (.ret vv,H1)∧(match (generalizing:=false) r with | (some r0,r1)=>(r0.length=([2]:List Int).length∧vv=aI r1∧H1=[.box [.fn 52 [] [.ptr 1 0]] false,.box [aR 3 1 (([2]:List Int).length)] false,.box [.pv (zc zb a0)] false,bR 3 1 (rI .i64) r0 0 0]) | (none,r1)=>(vv=aI r1∧H1=[.box [.fn 52 [] [.ptr 1 0]] false,.box [.pv .nils] false,.box [.pv (zc zb a0)] false])):=by
  unfold Zk at hm
  obtain ⟨n,rfl,h0⟩:=zp hm
  replace hm:=h0; clear h0
  refine Qh 30 [(0,.agg (zc7 a1)),(1,.pv (.fn 61 [] [])),(2,.fn 62 [] [.ptr 0 0]),(3,.ptr 2 0)] func49 rfl (by kernel_rfl) (sq (det [(1,.pv (.fn 61 [] [])),(2,.fn 62 [] [.ptr 0 0]),(3,.ptr 2 0),(4,.ptr 3 0)] [.box [.fn 52 [] [.ptr 1 0]] false,.box [.pv .nils] false,.box [.pv (zc zb a0)] false,.box (zc7 a1) false] (by kernel_rfl) (sq (rg (s1 2 [(12,.pv (zc zb a0)),(11,.agg (zc7 a1))] ?_)))))
  obtain ⟨x1,h2,hm⟩:=bs hm
  refine dv 13 (zF (by kernel_rfl) (aaF h2) (by kernel_rfl) (by kernel_rfl) (by kernel_rfl)) (by kernel_rfl) (fq 5 [(1,.pv (.fn 61 [] [])),(2,.fn 62 [] [.ptr 0 0]),(8,aI x1.1),(9,aI x1.2)] ?_)
  obtain ⟨k5,hk5,hm⟩:=zw hm
  refine mid (fun t H=>(∃ (y4:Int) (w3:AV),k5 y4=some r∧t=mk 30 [(2,.fn 62 [] [.ptr 0 0]),(8,aI x1.1),(9,aI y4),(23,w3)]∧H=[.box [.fn 52 [] [.ptr 1 0]] false,.box [.pv .nils] false,.box [.pv (zc zb a0)] false,.box (zc7 a1) false])) ?_ ?_
  ·
   rintro _ _ ⟨y4,w3,hm,rfl,rfl⟩
   subst hk5
   refine sq (sq (dn [(2,.fn 62 [] [.ptr 0 0]),(8,aI x1.1),(9,aI y4),(25,aB (y4 == 0))] ?_))
   rcases zf hm with ⟨h6,hm⟩ | ⟨h6,hm⟩
   ·
    refine c1 h6 (rg (s1 2 [(27,aI x1.1),(26,.fn 62 [] [.ptr 0 0])] ?_))
    obtain ⟨_,h7,hm⟩:=bs hm
    obtain ⟨vv,H1,hC,rfl,rfl⟩:=agw h7
    refine dR [(28,.tup [])] [.box [.fn 52 [] [.ptr 1 0]] false,.box [aR 4 1 (([2]:List Int).length)] false,.box [.pv (zc zb a0)] false,.box (zc7 a1) false,bR 3 1 (rI .i64) ([2]:List Int) 0 0] [0,1] [aI x1.1,.ptr 0 0] (by kernel_rfl) (by kernel_rfl) (by kernel_rfl) hC (by kernel_rfl) (fin [(9,aI y4)] rfl (by kernel_rfl) (sq (dn [(7,aI y4)] (wp_ret ?_))))
    obtain rfl:=Option.some.inj hm
    exact ⟨trivial,aI y4,[.box [.fn 52 [] [.ptr 1 0]] false,.box [aR 3 1 (([2]:List Int).length)] false,.box [.pv (zc zb a0)] false,bR 3 1 (rI .i64) ([2]:List Int) 0 0],by kernel_rfl,(by first | rfl | assumption | omega | (simp only [List.length_set,List.length_append,List.length_cons,List.length_nil,List.length_replicate,List.length_drop] at * <;> omega)),rfl,rfl⟩
   ·
    refine c0 h6 (wp_skip (sq (dn [(7,aI y4)] (wp_ret ?_))))
    obtain rfl:=Option.some.inj hm
    exact ⟨trivial,aI y4,[.box [.fn 52 [] [.ptr 1 0]] false,.box [.pv .nils] false,.box [.pv (zc zb a0)] false],by kernel_rfl,rfl,rfl⟩
  refine sq (rg (s1 3 [(18,aB (x1.2 == 0)),(17,aB (x1.2 == 0)),(16,aI x1.2)] ?_))
  rcases zf hm with ⟨h8,hm⟩ | ⟨h8,hm⟩
  ·
   refine known [18,17] h8 (by kernel_rfl) (s1 2 [(20,aI x1.1),(19,.pv (.fn 61 [] []))] ?_)
   obtain ⟨x9,h10,hm⟩:=bs hm
   refine dv 21 (zF (by kernel_rfl) (adA h10) (by kernel_rfl) (by kernel_rfl) (by kernel_rfl)) (by kernel_rfl) (fq 2 [(2,.fn 62 [] [.ptr 0 0]),(8,aI x1.1),(9,aI x1.2),(23,aB (!x9))] ?_)
   rcases zf hm with ⟨h11,hm⟩ | ⟨h11,hm⟩
   ·
    refine c1 h11 (dn [(2,.fn 62 [] [.ptr 0 0]),(8,aI x1.1),(9,aI 50)] ?_)
    exact ⟨50,.any,hm,(zJ (by kernel_rfl)),rfl⟩
   ·
    refine c0 h11 (wp_skip ?_)
    exact ⟨x1.2,aB (!x9),hm,(zJ (by kernel_rfl)),rfl⟩
  ·
   refine known [18,17] h8 (by kernel_rfl) (fq 5 [(2,.fn 62 [] [.ptr 0 0]),(8,aI x1.1),(9,aI x1.2),(23,aB false)] (cF (by kernel_rfl) (wp_skip ?_)))
   exact ⟨x1.2,aB false,hm,(zJ (by kernel_rfl)),rfl⟩
end Go.Ab.S1
