import Derived.Test.YtejbcaheoloahaaGreatWB1
noncomputable section
namespace Go.Ab.S1
open Go Go.Ab Go.Pl
open Go.Proofs.Tryz
set_option maxRecDepth 100000
theorem ajQ {n:Nat} {a0:zi} {a1:zi} {r:Int} (hm:adm n a0 a1=some r):
    call G n 173 [.agg (zc17 a0),.agg (zc17 a1)] []=some (.ret (aI r),[]):=by
  unfold adm at hm
  obtain ⟨n,rfl,h0⟩:=zB hm
  replace hm:=h0; clear h0
  refine Zr 85 [(0,.agg (zc17 a0)),(1,.agg (zc17 a1))] func173 rfl (by kernel_rfl) (sq (det [(2,.ptr 0 0),(3,.ptr 1 0)] [.box (zc17 a0) false,.box (zc17 a1) false] (by kernel_rfl) (sq (rg (s1 1 [(9,.agg (zc17 a0))] ?_)))))
  obtain ⟨x1,h2,hm⟩:=bs hm
  refine dv 10 (zE (by kernel_rfl) (ad0 h2) (by kernel_rfl) (by kernel_rfl) (by kernel_rfl)) (by kernel_rfl) (stf 1 [(2,.ptr 0 0),(3,.ptr 1 0)] [.box (zc17 x1) false,.box (zc17 a1) false] (by kernel_rfl) (sq (rg (s1 1 [(11,.agg (zc17 a1))] ?_))))
  obtain ⟨x3,h4,hm⟩:=bs hm
  refine dv 12 (zE (by kernel_rfl) (ad0 h4) (by kernel_rfl) (by kernel_rfl) (by kernel_rfl)) (by kernel_rfl) (stf 1 [(2,.ptr 0 0),(3,.ptr 1 0)] [.box (zc17 x1) false,.box (zc17 x3) false] (by kernel_rfl) ?_)
  refine sq (sq (dn [(2,.ptr 0 0),(3,.ptr 1 0),(17,aB (x1.fKind != x3.fKind))] ?_))
  rcases zo hm with ⟨h5,hm⟩ | ⟨h5,hm⟩
  ·
   refine c1 h5 (sq (sq (dn [(22,aB (decide (x1.fKind < x3.fKind)))] ?_)))
   rcases zo hm with ⟨h6,hm⟩ | ⟨h6,hm⟩
   ·
    refine c1 h6 (sq (dn [(4,aI (-1))] (wp_ret ?_)))
    obtain rfl:=Option.some.inj hm
    exact ⟨trivial,by kernel_rfl⟩
   ·
    refine c0 h6 (wp_skip (sq (dn [(4,aI 1)] (wp_ret ?_))))
    obtain rfl:=Option.some.inj hm
    exact ⟨trivial,by kernel_rfl⟩
  ·
   refine c0 h5 (wp_skip (sq (dn [(2,.ptr 0 0),(3,.ptr 1 0),(5,aB (decide (x1.fInt < x3.fInt)))] (sq (dn [(2,.ptr 0 0),(3,.ptr 1 0),(5,aB (decide (x1.fInt < x3.fInt))),(6,aB (decide (x1.fInt > x3.fInt)))] ?_)))))
   obtain ⟨k10,hk10,hm⟩:=zz hm
   refine mid (fun t H=>(∃ (y8:Bool) (y9:Bool) (w7:AV),k10 y8 y9=some r∧t=mk 85 [(2,.ptr 0 0),(3,.ptr 1 0),(5,aB y8),(6,aB y9),(35,w7)]∧H=[.box (zc17 x1) false,.box (zc17 x3) false])) ?_ ?_
   ·
    rintro _ _ ⟨y8,y9,w7,hm,rfl,rfl⟩
    subst hk10
    refine sq (sq (dn [(2,.ptr 0 0),(3,.ptr 1 0),(5,aB y8),(6,aB y9),(72,aB (x1.fKind == 4))] ?_))
    rcases zo hm with ⟨h11,hm⟩ | ⟨h11,hm⟩
    ·
     refine c1 h11 (sq (dn [(2,.ptr 0 0),(3,.ptr 1 0),(5,aB (sLt x1.fText x3.fText))] (dn [(5,aB (sLt x1.fText x3.fText)),(6,aB (!(sLt x1.fText x3.fText || sEq x1.fText x3.fText)))] (sq (sq (dn [(6,aB (!(sLt x1.fText x3.fText || sEq x1.fText x3.fText))),(83,aB (sLt x1.fText x3.fText))] ?_))))))
     rcases zo hm with ⟨h12,hm⟩ | ⟨h12,hm⟩
     ·
      refine c1 h12 (sq (dn [(4,aI (-1))] (wp_ret ?_)))
      obtain rfl:=Option.some.inj hm
      exact ⟨trivial,by kernel_rfl⟩
     ·
      refine c0 h12 (wp_skip (sq (sq (dn [(84,aB (!(sLt x1.fText x3.fText || sEq x1.fText x3.fText)))] ?_))))
      rcases zo hm with ⟨h13,hm⟩ | ⟨h13,hm⟩
      ·
       refine c1 h13 (sq (dn [(4,aI 1)] (wp_ret ?_)))
       obtain rfl:=Option.some.inj hm
       exact ⟨trivial,by kernel_rfl⟩
      ·
       refine c0 h13 (wp_skip (sq (dn [(4,aI 0)] (wp_ret ?_))))
       obtain rfl:=Option.some.inj hm
       exact ⟨trivial,by kernel_rfl⟩
    ·
     refine c0 h11 (wp_skip (sq (sq (dn [(6,aB y9),(83,aB y8)] ?_))))
     rcases zo hm with ⟨h14,hm⟩ | ⟨h14,hm⟩
     ·
      refine c1 h14 (sq (dn [(4,aI (-1))] (wp_ret ?_)))
      obtain rfl:=Option.some.inj hm
      exact ⟨trivial,by kernel_rfl⟩
     ·
      refine c0 h14 (wp_skip (sq (sq (dn [(84,aB y9)] ?_))))
      rcases zo hm with ⟨h15,hm⟩ | ⟨h15,hm⟩
      ·
       refine c1 h15 (sq (dn [(4,aI 1)] (wp_ret ?_)))
       obtain rfl:=Option.some.inj hm
       exact ⟨trivial,by kernel_rfl⟩
      ·
       refine c0 h15 (wp_skip (sq (dn [(4,aI 0)] (wp_ret ?_))))
       obtain rfl:=Option.some.inj hm
       exact ⟨trivial,by kernel_rfl⟩
   refine sq (dn [(2,.ptr 0 0),(3,.ptr 1 0),(5,aB (decide (x1.fInt < x3.fInt))),(6,aB (decide (x1.fInt > x3.fInt))),(35,aB (x1.fKind == 3))] ?_)
   rcases zo hm with ⟨h16,hm⟩ | ⟨h16,hm⟩
   ·
    refine c1 h16 (sq (dn [(2,.ptr 0 0),(3,.ptr 1 0),(7,aB ((FloatKind.format .f64).order x1.fFloat x1.fFloat != some .eq))] (sq (dn [(2,.ptr 0 0),(3,.ptr 1 0),(7,aB ((FloatKind.format .f64).order x1.fFloat x1.fFloat != some .eq)),(8,aB ((FloatKind.format .f64).order x3.fFloat x3.fFloat != some .eq))] ?_))))
    refine sq (rg (s1 6 [(51,aB ((FloatKind.format .f64).order x1.fFloat x3.fFloat == some .lt)),(50,aB ((FloatKind.format .f64).order x1.fFloat x3.fFloat == some .lt)),(49,aF x3.fFloat),(48,.ptr 1 2),(47,aF x1.fFloat),(46,.ptr 0 2)] ?_))
    refine seg ((FloatKind.format .f64).order x1.fFloat x3.fFloat == some .lt) [51,50] (fun b=>[(57,aB (b || ((!((FloatKind.format .f64).order x1.fFloat x1.fFloat != some .eq)) && ((FloatKind.format .f64).order x3.fFloat x3.fFloat != some .eq)))),(56,ifA b (.undef) (aB ((!((FloatKind.format .f64).order x1.fFloat x1.fFloat != some .eq)) && ((FloatKind.format .f64).order x3.fFloat x3.fFloat != some .eq)))),(55,ifA b (.undef) (ifA (!((FloatKind.format .f64).order x1.fFloat x1.fFloat != some .eq)) (aB ((FloatKind.format .f64).order x3.fFloat x3.fFloat != some .eq)) (.undef))),(54,ifA b (.undef) (aB (!((FloatKind.format .f64).order x1.fFloat x1.fFloat != some .eq)))),(53,ifA b (.undef) (aB (!((FloatKind.format .f64).order x1.fFloat x1.fFloat != some .eq)))),(52,ifA b (.undef) (aB ((FloatKind.format .f64).order x1.fFloat x1.fFloat != some .eq)))]) 12 (by kernel_rfl) ?_ ?_ ?_
    ·
     intro Q h
     refine s1 6 [(57,aB true),(56,.undef),(55,.undef),(54,.undef),(53,.undef),(52,.undef)] ?_
     exact ZB (by kernel_rfl) (by kernel_rfl) h
    ·
     intro Q h
     refine s1 3 [(54,aB (!((FloatKind.format .f64).order x1.fFloat x1.fFloat != some .eq))),(53,aB (!((FloatKind.format .f64).order x1.fFloat x1.fFloat != some .eq))),(52,aB ((FloatKind.format .f64).order x1.fFloat x1.fFloat != some .eq))] ?_
     refine segP (!((FloatKind.format .f64).order x1.fFloat x1.fFloat != some .eq)) [54,53] (fun b=>[(56,aB (b && ((FloatKind.format .f64).order x3.fFloat x3.fFloat != some .eq))),(55,ifA b (aB ((FloatKind.format .f64).order x3.fFloat x3.fFloat != some .eq)) (.undef))]) 2 (by kernel_rfl) (by kernel_rfl) (by kernel_rfl) (s1 1 [(57,aB ((!((FloatKind.format .f64).order x1.fFloat x1.fFloat != some .eq)) && ((FloatKind.format .f64).order x3.fFloat x3.fFloat != some .eq)))] ?_)
     exact ZB (by kernel_rfl) (by kernel_rfl) h
    refine fq 1 [(2,.ptr 0 0),(3,.ptr 1 0),(5,aB (((FloatKind.format .f64).order x1.fFloat x3.fFloat == some .lt) || ((!((FloatKind.format .f64).order x1.fFloat x1.fFloat != some .eq)) && ((FloatKind.format .f64).order x3.fFloat x3.fFloat != some .eq)))),(7,aB ((FloatKind.format .f64).order x1.fFloat x1.fFloat != some .eq)),(8,aB ((FloatKind.format .f64).order x3.fFloat x3.fFloat != some .eq))] (rg (s1 6 [(63,aB ((FloatKind.format .f64).order x1.fFloat x3.fFloat == some .gt)),(62,aB ((FloatKind.format .f64).order x1.fFloat x3.fFloat == some .gt)),(61,aF x3.fFloat),(60,.ptr 1 2),(59,aF x1.fFloat),(58,.ptr 0 2)] ?_))
    refine seg ((FloatKind.format .f64).order x1.fFloat x3.fFloat == some .gt) [63,62] (fun b=>[(69,aB (b || (((FloatKind.format .f64).order x1.fFloat x1.fFloat != some .eq) && (!((FloatKind.format .f64).order x3.fFloat x3.fFloat != some .eq))))),(68,ifA b (.undef) (aB (((FloatKind.format .f64).order x1.fFloat x1.fFloat != some .eq) && (!((FloatKind.format .f64).order x3.fFloat x3.fFloat != some .eq))))),(67,ifA b (.undef) (ifA ((FloatKind.format .f64).order x1.fFloat x1.fFloat != some .eq) (aB (!((FloatKind.format .f64).order x3.fFloat x3.fFloat != some .eq))) (.undef))),(66,ifA b (.undef) (ifA ((FloatKind.format .f64).order x1.fFloat x1.fFloat != some .eq) (aB ((FloatKind.format .f64).order x3.fFloat x3.fFloat != some .eq)) (.undef))),(65,ifA b (.undef) (aB ((FloatKind.format .f64).order x1.fFloat x1.fFloat != some .eq))),(64,ifA b (.undef) (aB ((FloatKind.format .f64).order x1.fFloat x1.fFloat != some .eq))),(7,aB ((FloatKind.format .f64).order x1.fFloat x1.fFloat != some .eq))]) 12 (by kernel_rfl) ?_ ?_ ?_
    ·
     intro Q h
     refine s1 6 [(69,aB true),(68,.undef),(67,.undef),(66,.undef),(65,.undef),(64,.undef)] ?_
     exact ZB (by kernel_rfl) (by kernel_rfl) h
    ·
     intro Q h
     refine s1 2 [(65,aB ((FloatKind.format .f64).order x1.fFloat x1.fFloat != some .eq)),(64,aB ((FloatKind.format .f64).order x1.fFloat x1.fFloat != some .eq))] ?_
     refine segP ((FloatKind.format .f64).order x1.fFloat x1.fFloat != some .eq) [65,64,7] (fun b=>[(68,aB (b && (!((FloatKind.format .f64).order x3.fFloat x3.fFloat != some .eq)))),(67,ifA b (aB (!((FloatKind.format .f64).order x3.fFloat x3.fFloat != some .eq))) (.undef)),(66,ifA b (aB ((FloatKind.format .f64).order x3.fFloat x3.fFloat != some .eq)) (.undef))]) 3 (by kernel_rfl) (by kernel_rfl) (by kernel_rfl) (s1 1 [(69,aB (((FloatKind.format .f64).order x1.fFloat x1.fFloat != some .eq) && (!((FloatKind.format .f64).order x3.fFloat x3.fFloat != some .eq))))] ?_)
     exact ZB (by kernel_rfl) (by kernel_rfl) h
    refine fq 1 [(2,.ptr 0 0),(3,.ptr 1 0),(5,aB (((FloatKind.format .f64).order x1.fFloat x3.fFloat == some .lt) || ((!((FloatKind.format .f64).order x1.fFloat x1.fFloat != some .eq)) && ((FloatKind.format .f64).order x3.fFloat x3.fFloat != some .eq)))),(6,aB (((FloatKind.format .f64).order x1.fFloat x3.fFloat == some .gt) || (((FloatKind.format .f64).order x1.fFloat x1.fFloat != some .eq) && (!((FloatKind.format .f64).order x3.fFloat x3.fFloat != some .eq)))))] ?_
    exact ⟨(((FloatKind.format .f64).order x1.fFloat x3.fFloat == some .lt) || ((!((FloatKind.format .f64).order x1.fFloat x1.fFloat != some .eq)) && ((FloatKind.format .f64).order x3.fFloat x3.fFloat != some .eq))),(((FloatKind.format .f64).order x1.fFloat x3.fFloat == some .gt) || (((FloatKind.format .f64).order x1.fFloat x1.fFloat != some .eq) && (!((FloatKind.format .f64).order x3.fFloat x3.fFloat != some .eq)))),.any,hm,(Zk (by kernel_rfl)),rfl⟩
   ·
    refine c0 h16 (wp_skip ?_)
    exact ⟨(decide (x1.fInt < x3.fInt)),(decide (x1.fInt > x3.fInt)),aB (x1.fKind == 3),hm,(Zk (by kernel_rfl)),rfl⟩
abbrev zc18 (p0:zj):List AV:=[aI p0.fConst.fKind,aI p0.fConst.fInt,aF p0.fConst.fFloat,aS p0.fConst.fText]
theorem ahU {rc_ref22_Same:(Nat→zj→zj→Option (Bool))} (ih_ref22_Same:∀ {n:Nat} {a0:zj} {a1:zj} {r:Bool} (hm:rc_ref22_Same n a0 a1=some r),call G n 122 [.agg [aI a0.fKind,aI a0.fRel,aI a0.fCol,aI a0.fConst.fKind,aI a0.fConst.fInt,aF a0.fConst.fFloat,aS a0.fConst.fText,.pv (zh zb a0.fKids)],.agg [aI a1.fKind,aI a1.fRel,aI a1.fCol,aI a1.fConst.fKind,aI a1.fConst.fInt,aF a1.fConst.fFloat,aS a1.fConst.fText,.pv (zh zb a1.fKids)]] []=some (.ret (aB r),[])) {n:Nat} {a0:zj} {a1:zj} {r:Bool} (hm:abj rc_ref22_Same n a0 a1=some r):
    call G n 122 [.agg (zc4 a0),.agg (zc4 a1)] []=some (.ret (aB r),[]):=by
  unfold abj at hm
  obtain ⟨n,rfl,h0⟩:=zB hm
  replace hm:=h0; clear h0
  refine Zr 70 [(0,.agg (zc4 a0)),(1,.agg (zc4 a1))] func122 rfl (by kernel_rfl) (sq (det [(2,.ptr 0 0),(3,.ptr 1 0)] [.box (zc4 a0) false,.box (zc4 a1) false] (by kernel_rfl) ?_))
  refine sq (sq (rg (s1 6 [(11,aB (a0.fKind != a1.fKind)),(10,aB (a0.fKind != a1.fKind)),(9,aI a1.fKind),(8,.ptr 1 0),(7,aI a0.fKind),(6,.ptr 0 0)] ?_)))
  refine segP (a0.fKind != a1.fKind) [11,10] (fun b=>[(17,aB (b || (a0.fRel != a1.fRel))),(16,ifA b (.undef) (aB (a0.fRel != a1.fRel))),(15,ifA b (.undef) (aI a1.fRel)),(14,ifA b (.undef) (.ptr 1 1)),(13,ifA b (.undef) (aI a0.fRel)),(12,ifA b (.undef) (.ptr 0 1))]) 6 (by kernel_rfl) (by kernel_rfl) (by kernel_rfl) (s1 1 [(18,aB ((a0.fKind != a1.fKind) || (a0.fRel != a1.fRel)))] ?_)
  refine segP ((a0.fKind != a1.fKind) || (a0.fRel != a1.fRel)) [18,17] (fun b=>[(24,aB (b || (a0.fCol != a1.fCol))),(23,ifA b (.undef) (aB (a0.fCol != a1.fCol))),(22,ifA b (.undef) (aI a1.fCol)),(21,ifA b (.undef) (.ptr 1 2)),(20,ifA b (.undef) (aI a0.fCol)),(19,ifA b (.undef) (.ptr 0 2))]) 6 (by kernel_rfl) (by kernel_rfl) (by kernel_rfl) (s1 1 [(25,aB (((a0.fKind != a1.fKind) || (a0.fRel != a1.fRel)) || (a0.fCol != a1.fCol)))] ?_)
  refine segP (((a0.fKind != a1.fKind) || (a0.fRel != a1.fRel)) || (a0.fCol != a1.fCol)) [25,24] (fun b=>[(33,aB (b || (a0.fConst.fKind != a1.fConst.fKind))),(32,ifA b (.undef) (aB (a0.fConst.fKind != a1.fConst.fKind))),(31,ifA b (.undef) (aI a1.fConst.fKind)),(30,ifA b (.undef) (.ptr 1 3)),(29,ifA b (.undef) (.ptr 1 3)),(28,ifA b (.undef) (aI a0.fConst.fKind)),(27,ifA b (.undef) (.ptr 0 3)),(26,ifA b (.undef) (.ptr 0 3))]) 8 (by kernel_rfl) (by kernel_rfl) (by kernel_rfl) (s1 1 [(34,aB ((((a0.fKind != a1.fKind) || (a0.fRel != a1.fRel)) || (a0.fCol != a1.fCol)) || (a0.fConst.fKind != a1.fConst.fKind)))] ?_)
  rcases zo hm with ⟨h1,hm⟩ | ⟨h1,hm⟩
  ·
   refine known [34,33] h1 (by kernel_rfl) (fq 16 [(2,.ptr 0 0),(3,.ptr 1 0),(50,aB true)] (cT (by kernel_rfl) (sq (dn [(4,aB false)] (wp_ret ?_)))))
   obtain rfl:=Option.some.inj hm
   exact ⟨trivial,by kernel_rfl⟩
  ·
   refine known [34,33] h1 (by kernel_rfl) (s1 4 [(38,.agg (zc18 a1)),(37,.ptr 1 3),(36,.agg (zc18 a0)),(35,.ptr 0 3)] ?_)
   obtain ⟨x2,h3,hm⟩:=bs hm
   refine dv 39 (zE (by kernel_rfl) (ajQ h3) (by kernel_rfl) (by kernel_rfl) (by kernel_rfl)) (by kernel_rfl) (s1 3 [(42,aB (x2 != 0)),(41,aB (x2 != 0)),(40,aB (x2 != 0))] ?_)
   refine seg (x2 != 0) [42,41,40] (fun b=>[(50,aB (b || (((sll a0.fKids).length:Int) != ((sll a1.fKids).length:Int)))),(49,ifA b (.undef) (aB (((sll a0.fKids).length:Int) != ((sll a1.fKids).length:Int)))),(48,ifA b (.undef) (aI ((sll a1.fKids).length:Int))),(47,ifA b (.undef) (.pv (zh zb a1.fKids))),(46,ifA b (.undef) (.ptr 1 7)),(45,ifA b (.undef) (aI ((sll a0.fKids).length:Int))),(44,ifA b (.undef) (.pv (zh zb a0.fKids))),(43,ifA b (.undef) (.ptr 0 7))]) 45 (by kernel_rfl) ?_ ?_ ?_
   ·
    intro Q h
    refine s1 8 [(50,aB true),(49,.undef),(48,.undef),(47,.undef),(46,.undef),(45,.undef),(44,.undef),(43,.undef)] ?_
    exact ZB (by kernel_rfl) (by kernel_rfl) h
   ·
    intro Q h
    refine s1 2 [(44,.pv (zh zb a0.fKids)),(43,.ptr 0 7)] (dv 45 (v:=aI ((sll a0.fKids).length:Int)) (zy zb a0.fKids t23 (by kernel_rfl)) (by kernel_rfl) (s1 2 [(47,.pv (zh zb a1.fKids)),(46,.ptr 1 7)] (dv 48 (v:=aI ((sll a1.fKids).length:Int)) (zy zb a1.fKids t23 (by kernel_rfl)) (by kernel_rfl) (s1 2 [(50,aB (((sll a0.fKids).length:Int) != ((sll a1.fKids).length:Int))),(49,aB (((sll a0.fKids).length:Int) != ((sll a1.fKids).length:Int)))] ?_))))
    exact ZB (by kernel_rfl) (by kernel_rfl) h
   refine fin [(2,.ptr 0 0),(3,.ptr 1 0),(50,aB ((x2 != 0) || (((sll a0.fKids).length:Int) != ((sll a1.fKids).length:Int))))] rfl (by kernel_rfl) ?_
   rcases zo hm with ⟨h4,hm⟩ | ⟨h4,hm⟩
   ·
    refine c1 h4 (sq (dn [(4,aB false)] (wp_ret ?_)))
    obtain rfl:=Option.some.inj hm
    exact ⟨trivial,by kernel_rfl⟩
   ·
    refine c0 h4 (wp_skip ?_)
    obtain ⟨k7,hk7,hm⟩:=zz hm
    refine mid (fun t H=>(∃ (y5:Int) (y6:Bool),k7 ()=some r∧t=mk 70 [(2,.ptr 0 0),(3,.ptr 1 0),(5,aI y5),(55,aB y6)]∧H=[.box (zc4 a0) false,.box (zc4 a1) false])) ?_ ?_
    ·
     rintro _ _ ⟨y5,y6,hm,rfl,rfl⟩
     subst hk7
     refine sq (dn [(4,aB true)] (wp_ret ?_))
     obtain rfl:=Option.some.inj hm
     exact ⟨trivial,by kernel_rfl⟩
    refine sq (dn [(2,.ptr 0 0),(3,.ptr 1 0),(5,aI 0)] (bq ?_))
    refine ZY (fun mm t H=>(∃ (y9:Int),qM n rc_ref22_Same a0 a1 k7 mm y9=some r∧t=mk 70 [(2,.ptr 0 0),(3,.ptr 1 0),(5,aI y9)]∧H=[.box (zc4 a0) false,.box (zc4 a1) false])) (⟨0,hm,rfl,rfl⟩) ?_ ?_
    · rintro _ _ ⟨y9,hm,_⟩; exact nomatch hm
    rintro m10 _ _ ⟨y9,hm,rfl,rfl⟩
    simp only [qM] at hm
    refine sq (sq (rg (s1 3 [(53,.pv (zh zb a0.fKids)),(52,.ptr 0 7),(51,aI y9)] (dv 54 (v:=aI ((sll a0.fKids).length:Int)) (zy zb a0.fKids t23 (by kernel_rfl)) (by kernel_rfl) (fq 1 [(2,.ptr 0 0),(3,.ptr 1 0),(5,aI y9),(55,aB (decide (y9 < ((sll a0.fKids).length:Int))))] ?_)))))
    rcases zo hm with ⟨h11,hm⟩ | ⟨h11,hm⟩
    ·
     refine c1 h11 (wp_skip (sq (bq (sq (rgd (shd 3 [(60,aI y9),(59,.pv (zh zb a0.fKids)),(58,.ptr 0 7)] (by kernel_rfl) ?_))))))
     obtain ⟨x12,h13,hm⟩:=bs hm
     refine dvd 61 (v:=.pv (.ptr (zC (za x12)) 0)) (Zd zb a0.fKids .i64 t23 t49 h13 (zx x12) rfl (by kernel_rfl)) (by kernel_rfl) (shd 4 [(65,aI y9),(64,.pv (zh zb a1.fKids)),(63,.ptr 1 7),(62,.agg (zc8 x12))] (by kernel_rfl) ?_)
     obtain ⟨x14,h15,hm⟩:=bs hm
     refine dvd 66 (v:=.pv (.ptr (zC (za x14)) 0)) (Zd zb a1.fKids .i64 t23 t49 h15 (zx x14) rfl (by kernel_rfl)) (by kernel_rfl) (shd 1 [(67,.agg (zc8 x14))] (by kernel_rfl) ?_)
     obtain ⟨x16,h17,hm⟩:=bs hm
     refine dvd 68 (zE (by kernel_rfl) (ih_ref22_Same h17) (by kernel_rfl) (by kernel_rfl) (by kernel_rfl)) (by kernel_rfl) (shd 1 [(69,aB (!x16))] (by kernel_rfl) (find [(2,.ptr 0 0),(3,.ptr 1 0),(5,aI y9),(69,aB (!x16))] rfl (by kernel_rfl) (by kernel_rfl) ?_))
     rcases zo hm with ⟨h18,hm⟩ | ⟨h18,hm⟩
     ·
      refine c1 h18 (sq (dn [(4,aB false)] (wp_ret ?_)))
      obtain rfl:=Option.some.inj hm
      exact ⟨trivial,by kernel_rfl⟩
     ·
      refine c0 h18 (wp_skip (dn [(2,.ptr 0 0),(3,.ptr 1 0),(5,aI (IntKind.wrap .i64 (y9+1)))] ?_))
      exact ⟨_,_,Zh [(2,.ptr 0 0),(3,.ptr 1 0),(5,aI (IntKind.wrap .i64 (y9+1)))] [.box (zc4 a0) false,.box (zc4 a1) false] (by kernel_rfl),⟨(IntKind.wrap .i64 (y9+1)),hm,rfl,rfl⟩⟩
    ·
     refine c0 h11 (wp_exit ?_)
     exact ⟨y9,(decide (y9 < ((sll a0.fKids).length:Int))),hm,rfl,rfl⟩
theorem aev:∀ (m:Nat),∀ {n:Nat} {a0:zj} {a1:zj} {r:Bool} (hm:QL m n a0 a1=some r),call G n 122 [.agg (zc4 a0),.agg (zc4 a1)] []=some (.ret (aB r),[])
  | 0=>by intros; rename_i hm; exact nomatch hm
  | m+1=>fun hm=>
    ahU (aev m) hm
theorem aeY {n:Nat} {a0:zj} {a1:zj} {r:Bool} (hm:acw n a0 a1=some r):
    call G n 122 [.agg (zc4 a0),.agg (zc4 a1)] []=some (.ret (aB r),[]):=aev n hm
theorem ael {n:Nat} {a0:(Option (List zc))} {a1:(Option (List zc))} {r:Bool} (hm:aaW n a0 a1=some r):
    call G n 121 [.pv (zh zb a0),.pv (zh zb a1)] []=some (.ret (aB r),[]):=by
  unfold aaW at hm
  obtain ⟨n,rfl,h0⟩:=zB hm
  replace hm:=h0; clear h0
  refine Zr 27 [(0,.pv (zh zb a0)),(1,.pv (zh zb a1))] func121 rfl (by kernel_rfl) (sq (dn [(0,.pv (zh zb a0)),(1,.pv (zh zb a1))] ?_))
  refine sq (sq (rg (s1 1 [(6,.pv (zh zb a0))] (dv 7 (v:=aI ((sll a0).length:Int)) (zy zb a0 t23 (by kernel_rfl)) (by kernel_rfl) (s1 1 [(8,.pv (zh zb a1))] (dv 9 (v:=aI ((sll a1).length:Int)) (zy zb a1 t23 (by kernel_rfl)) (by kernel_rfl) (fq 1 [(0,.pv (zh zb a0)),(1,.pv (zh zb a1)),(10,aB (((sll a0).length:Int) != ((sll a1).length:Int)))] ?_)))))))
  rcases zo hm with ⟨h1,hm⟩ | ⟨h1,hm⟩
  ·
   refine c1 h1 (sq (dn [(4,aB false)] (wp_ret ?_)))
   obtain rfl:=Option.some.inj hm
   exact ⟨trivial,by kernel_rfl⟩
  ·
   refine c0 h1 (wp_skip ?_)
   obtain ⟨k4,hk4,hm⟩:=zz hm
   refine mid (fun t H=>(∃ (y2:Bool) (y3:Int),k4 ()=some r∧t=mk 27 [(0,.pv (zh zb a0)),(1,.pv (zh zb a1)),(5,aI y3),(14,aB y2)]∧H=[])) ?_ ?_
   ·
    rintro _ _ ⟨y2,y3,hm,rfl,rfl⟩
    subst hk4
    refine sq (dn [(4,aB true)] (wp_ret ?_))
    obtain rfl:=Option.some.inj hm
    exact ⟨trivial,by kernel_rfl⟩
   refine sq (dn [(0,.pv (zh zb a0)),(1,.pv (zh zb a1)),(5,aI 0)] (bq ?_))
   refine ZY (fun mm t H=>(∃ (y6:Int),qp n a0 a1 k4 mm y6=some r∧t=mk 27 [(0,.pv (zh zb a0)),(1,.pv (zh zb a1)),(5,aI y6)]∧H=[])) (⟨0,hm,rfl,rfl⟩) ?_ ?_
   · rintro _ _ ⟨y6,hm,_⟩; exact nomatch hm
   rintro m7 _ _ ⟨y6,hm,rfl,rfl⟩
   simp only [qp] at hm
   refine sq (sq (rg (s1 2 [(12,.pv (zh zb a0)),(11,aI y6)] (dv 13 (v:=aI ((sll a0).length:Int)) (zy zb a0 t23 (by kernel_rfl)) (by kernel_rfl) (fq 1 [(0,.pv (zh zb a0)),(1,.pv (zh zb a1)),(5,aI y6),(14,aB (decide (y6 < ((sll a0).length:Int))))] ?_)))))
   rcases zo hm with ⟨h8,hm⟩ | ⟨h8,hm⟩
   ·
    refine c1 h8 (wp_skip (sq (bq (sq (rgd (shd 2 [(18,aI y6),(17,.pv (zh zb a0))] (by kernel_rfl) ?_))))))
    obtain ⟨x9,h10,hm⟩:=bs hm
    refine dvd 19 (v:=.pv (.ptr (zC (za x9)) 0)) (Zd zb a0 .i64 t23 t49 h10 (zx x9) rfl (by kernel_rfl)) (by kernel_rfl) (shd 3 [(22,aI y6),(21,.pv (zh zb a1)),(20,.agg (zc8 x9))] (by kernel_rfl) ?_)
    obtain ⟨x11,h12,hm⟩:=bs hm
    refine dvd 23 (v:=.pv (.ptr (zC (za x11)) 0)) (Zd zb a1 .i64 t23 t49 h12 (zx x11) rfl (by kernel_rfl)) (by kernel_rfl) (shd 1 [(24,.agg (zc8 x11))] (by kernel_rfl) ?_)
    obtain ⟨x13,h14,hm⟩:=bs hm
    refine dvd 25 (zE (by kernel_rfl) (aeY h14) (by kernel_rfl) (by kernel_rfl) (by kernel_rfl)) (by kernel_rfl) (shd 1 [(26,aB (!x13))] (by kernel_rfl) (find [(0,.pv (zh zb a0)),(1,.pv (zh zb a1)),(5,aI y6),(26,aB (!x13))] rfl (by kernel_rfl) (by kernel_rfl) ?_))
    rcases zo hm with ⟨h15,hm⟩ | ⟨h15,hm⟩
    ·
     refine c1 h15 (sq (dn [(4,aB false)] (wp_ret ?_)))
     obtain rfl:=Option.some.inj hm
     exact ⟨trivial,by kernel_rfl⟩
    ·
     refine c0 h15 (wp_skip (dn [(0,.pv (zh zb a0)),(1,.pv (zh zb a1)),(5,aI (IntKind.wrap .i64 (y6+1)))] ?_))
     exact ⟨_,_,Zh [(0,.pv (zh zb a0)),(1,.pv (zh zb a1)),(5,aI (IntKind.wrap .i64 (y6+1)))] [] (by kernel_rfl),⟨(IntKind.wrap .i64 (y6+1)),hm,rfl,rfl⟩⟩
   ·
    refine c0 h8 (wp_exit ?_)
    exact ⟨(decide (y6 < ((sll a0).length:Int))),y6,hm,rfl,rfl⟩
theorem acO {n:Nat} {a0:Zo} {a1:Zo} {r:Bool} (hm:aae n a0 a1=some r):
    call G n 33 [.agg (zc0 a0),.agg (zc0 a1)] []=some (.ret (aB r),[]):=by
  unfold aae at hm
  obtain ⟨n,rfl,h0⟩:=zB hm
  replace hm:=h0; clear h0
  refine Zr 145 [(0,.agg (zc0 a0)),(1,.agg (zc0 a1))] func33 rfl (by kernel_rfl) (sq (det [(2,.ptr 0 0),(3,.ptr 1 0)] [.box (zc0 a0) false,.box (zc0 a1) false] (by kernel_rfl) ?_))
  refine sq (sq (rg (s1 2 [(9,.pv (zh rS a0.fRels)),(8,.ptr 0 0)] (dv 10 (v:=aI ((sll a0.fRels).length:Int)) (zy rS a0.fRels t22 (by kernel_rfl)) (by kernel_rfl) (s1 2 [(12,.pv (zh rS a1.fRels)),(11,.ptr 1 0)] (dv 13 (v:=aI ((sll a1.fRels).length:Int)) (zy rS a1.fRels t22 (by kernel_rfl)) (by kernel_rfl) (s1 2 [(15,aB (((sll a0.fRels).length:Int) != ((sll a1.fRels).length:Int))),(14,aB (((sll a0.fRels).length:Int) != ((sll a1.fRels).length:Int)))] ?_)))))))
  rcases zo hm with ⟨h1,hm⟩ | ⟨h1,hm⟩
  ·
   refine known [15,14] h1 (by kernel_rfl) (fq 40 [(2,.ptr 0 0),(3,.ptr 1 0),(55,aB true)] (cT (by kernel_rfl) (sq (dn [(4,aB false)] (wp_ret ?_)))))
   obtain rfl:=Option.some.inj hm
   exact ⟨trivial,by kernel_rfl⟩
  ·
   refine known [15,14] h1 (by kernel_rfl) (s1 4 [(19,.pv (zh zb a1.fWhere)),(18,.ptr 1 1),(17,.pv (zh zb a0.fWhere)),(16,.ptr 0 1)] ?_)
   obtain ⟨x2,h3,hm⟩:=bs hm
   refine dv 20 (zE (by kernel_rfl) (ael h3) (by kernel_rfl) (by kernel_rfl) (by kernel_rfl)) (by kernel_rfl) (s1 3 [(23,aB (!x2)),(22,aB (!x2)),(21,aB (!x2))] ?_)
   refine segP (!x2) [23,22,21] (fun b=>[(29,aB (b || (!(a0.fGrouped == a1.fGrouped)))),(28,ifA b (.undef) (aB (!(a0.fGrouped == a1.fGrouped)))),(27,ifA b (.undef) (aB a1.fGrouped)),(26,ifA b (.undef) (.ptr 1 2)),(25,ifA b (.undef) (aB a0.fGrouped)),(24,ifA b (.undef) (.ptr 0 2))]) 6 (by kernel_rfl) (by kernel_rfl) (by kernel_rfl) (s1 1 [(30,aB ((!x2) || (!(a0.fGrouped == a1.fGrouped))))] ?_)
   rcases zo hm with ⟨h4,hm⟩ | ⟨h4,hm⟩
   ·
    refine known [30,29] h4 (by kernel_rfl) (fq 25 [(2,.ptr 0 0),(3,.ptr 1 0),(55,aB true)] (cT (by kernel_rfl) (sq (dn [(4,aB false)] (wp_ret ?_)))))
    obtain rfl:=Option.some.inj hm
    exact ⟨trivial,by kernel_rfl⟩
   ·
    refine known [30,29] h4 (by kernel_rfl) (s1 4 [(34,.pv (zh zb a1.fOut)),(33,.ptr 1 3),(32,.pv (zh zb a0.fOut)),(31,.ptr 0 3)] ?_)
    obtain ⟨x5,h6,hm⟩:=bs hm
    refine dv 35 (zE (by kernel_rfl) (ael h6) (by kernel_rfl) (by kernel_rfl) (by kernel_rfl)) (by kernel_rfl) (s1 3 [(38,aB (!x5)),(37,aB (!x5)),(36,aB (!x5))] ?_)
    refine seg (!x5) [38,37,36] (fun b=>[(46,aB (b || (((sll a0.fAggs).length:Int) != ((sll a1.fAggs).length:Int)))),(45,ifA b (.undef) (aB (((sll a0.fAggs).length:Int) != ((sll a1.fAggs).length:Int)))),(44,ifA b (.undef) (aI ((sll a1.fAggs).length:Int))),(43,ifA b (.undef) (.pv (zh zn a1.fAggs))),(42,ifA b (.undef) (.ptr 1 4)),(41,ifA b (.undef) (aI ((sll a0.fAggs).length:Int))),(40,ifA b (.undef) (.pv (zh zn a0.fAggs))),(39,ifA b (.undef) (.ptr 0 4))]) 39 (by kernel_rfl) ?_ ?_ ?_
    ·
     intro Q h
     refine s1 8 [(46,aB true),(45,.undef),(44,.undef),(43,.undef),(42,.undef),(41,.undef),(40,.undef),(39,.undef)] ?_
     exact ZB (by kernel_rfl) (by kernel_rfl) h
    ·
     intro Q h
     refine s1 2 [(40,.pv (zh zn a0.fAggs)),(39,.ptr 0 4)] (dv 41 (v:=aI ((sll a0.fAggs).length:Int)) (zy zn a0.fAggs t24 (by kernel_rfl)) (by kernel_rfl) (s1 2 [(43,.pv (zh zn a1.fAggs)),(42,.ptr 1 4)] (dv 44 (v:=aI ((sll a1.fAggs).length:Int)) (zy zn a1.fAggs t24 (by kernel_rfl)) (by kernel_rfl) (s1 2 [(46,aB (((sll a0.fAggs).length:Int) != ((sll a1.fAggs).length:Int))),(45,aB (((sll a0.fAggs).length:Int) != ((sll a1.fAggs).length:Int)))] ?_))))
     exact ZB (by kernel_rfl) (by kernel_rfl) h
    refine s1 1 [(47,aB ((!x5) || (((sll a0.fAggs).length:Int) != ((sll a1.fAggs).length:Int))))] ?_
    refine seg ((!x5) || (((sll a0.fAggs).length:Int) != ((sll a1.fAggs).length:Int))) [47,46] (fun b=>[(55,aB (b || (((sll a0.fOrder).length:Int) != ((sll a1.fOrder).length:Int)))),(54,ifA b (.undef) (aB (((sll a0.fOrder).length:Int) != ((sll a1.fOrder).length:Int)))),(53,ifA b (.undef) (aI ((sll a1.fOrder).length:Int))),(52,ifA b (.undef) (.pv (zh zp a1.fOrder))),(51,ifA b (.undef) (.ptr 1 5)),(50,ifA b (.undef) (aI ((sll a0.fOrder).length:Int))),(49,ifA b (.undef) (.pv (zh zp a0.fOrder))),(48,ifA b (.undef) (.ptr 0 5))]) 48 (by kernel_rfl) ?_ ?_ ?_
    ·
     intro Q h
     refine s1 8 [(55,aB true),(54,.undef),(53,.undef),(52,.undef),(51,.undef),(50,.undef),(49,.undef),(48,.undef)] ?_
     exact ZB (by kernel_rfl) (by kernel_rfl) h
    ·
     intro Q h
     refine s1 2 [(49,.pv (zh zp a0.fOrder)),(48,.ptr 0 5)] (dv 50 (v:=aI ((sll a0.fOrder).length:Int)) (zy zp a0.fOrder t25 (by kernel_rfl)) (by kernel_rfl) (s1 2 [(52,.pv (zh zp a1.fOrder)),(51,.ptr 1 5)] (dv 53 (v:=aI ((sll a1.fOrder).length:Int)) (zy zp a1.fOrder t25 (by kernel_rfl)) (by kernel_rfl) (s1 2 [(55,aB (((sll a0.fOrder).length:Int) != ((sll a1.fOrder).length:Int))),(54,aB (((sll a0.fOrder).length:Int) != ((sll a1.fOrder).length:Int)))] ?_))))
     exact ZB (by kernel_rfl) (by kernel_rfl) h
    refine fin [(2,.ptr 0 0),(3,.ptr 1 0),(55,aB (((!x5) || (((sll a0.fAggs).length:Int) != ((sll a1.fAggs).length:Int))) || (((sll a0.fOrder).length:Int) != ((sll a1.fOrder).length:Int))))] rfl (by kernel_rfl) ?_
    rcases zo hm with ⟨h7,hm⟩ | ⟨h7,hm⟩
    ·
     refine c1 h7 (sq (dn [(4,aB false)] (wp_ret ?_)))
     obtain rfl:=Option.some.inj hm
     exact ⟨trivial,by kernel_rfl⟩
    ·
     refine c0 h7 (wp_skip ?_)
     obtain ⟨k10,hk10,hm⟩:=zz hm
     refine mid (fun t H=>(∃ (y8:Int) (y9:Bool),k10 ()=some r∧t=mk 145 [(2,.ptr 0 0),(3,.ptr 1 0),(5,aI y8),(60,aB y9)]∧H=[.box (zc0 a0) false,.box (zc0 a1) false])) ?_ ?_
     ·
      rintro _ _ ⟨y8,y9,hm,rfl,rfl⟩
      subst hk10
      obtain ⟨k13,hk13,hm⟩:=zz hm
      refine mid (fun t H=>(∃ (y11:Int) (y12:Bool),k13 ()=some r∧t=mk 145 [(2,.ptr 0 0),(3,.ptr 1 0),(6,aI y11),(78,aB y12)]∧H=[.box (zc0 a0) false,.box (zc0 a1) false])) ?_ ?_
      ·
       rintro _ _ ⟨y11,y12,hm,rfl,rfl⟩
       subst hk13
       obtain ⟨k16,hk16,hm⟩:=zz hm
       refine mid (fun t H=>(∃ (y14:Bool) (y15:Int),k16 ()=some r∧t=mk 145 [(2,.ptr 0 0),(3,.ptr 1 0),(7,aI y15),(114,aB y14)]∧H=[.box (zc0 a0) false,.box (zc0 a1) false])) ?_ ?_
       ·
        rintro _ _ ⟨y14,y15,hm,rfl,rfl⟩
        subst hk16
        refine sq (dn [(4,aB true)] (wp_ret ?_))
        obtain rfl:=Option.some.inj hm
        exact ⟨trivial,by kernel_rfl⟩
       refine sq (dn [(2,.ptr 0 0),(3,.ptr 1 0),(7,aI 0)] (bq ?_))
       refine ZY (fun mm t H=>(∃ (y18:Int),ZN n a0 a1 k16 mm y18=some r∧t=mk 145 [(2,.ptr 0 0),(3,.ptr 1 0),(7,aI y18)]∧H=[.box (zc0 a0) false,.box (zc0 a1) false])) (⟨0,hm,rfl,rfl⟩) ?_ ?_
       · rintro _ _ ⟨y18,hm,_⟩; exact nomatch hm
       rintro m19 _ _ ⟨y18,hm,rfl,rfl⟩
       simp only [ZN] at hm
       refine sq (sq (rg (s1 3 [(112,.pv (zh zp a0.fOrder)),(111,.ptr 0 5),(110,aI y18)] (dv 113 (v:=aI ((sll a0.fOrder).length:Int)) (zy zp a0.fOrder t25 (by kernel_rfl)) (by kernel_rfl) (fq 1 [(2,.ptr 0 0),(3,.ptr 1 0),(7,aI y18),(114,aB (decide (y18 < ((sll a0.fOrder).length:Int))))] ?_)))))
       rcases zo hm with ⟨h20,hm⟩ | ⟨h20,hm⟩
       ·
        refine c1 h20 (wp_skip (sq (bq (sq (rgd (shd 3 [(119,aI y18),(118,.pv (zh zp a0.fOrder)),(117,.ptr 0 5)] (by kernel_rfl) ?_))))))
        obtain ⟨x21,h22,hm⟩:=bs hm
        refine dvd 120 (v:=.pv (.ptr (zp x21) 0)) (qA zp a0.fOrder .i64 t25 t86 h22 rfl (by kernel_rfl)) (by kernel_rfl) (shd 5 [(125,aI y18),(124,.pv (zh zp a1.fOrder)),(123,.ptr 1 5),(122,aI x21.fOut),(121,.pv (.ptr (zp x21) 0))] (by kernel_rfl) ?_)
        obtain ⟨x23,h24,hm⟩:=bs hm
        refine dvd 126 (v:=.pv (.ptr (zp x23) 0)) (qA zp a1.fOrder .i64 t25 t86 h24 rfl (by kernel_rfl)) (by kernel_rfl) (shd 4 [(130,aB (x21.fOut != x23.fOut)),(129,aB (x21.fOut != x23.fOut)),(128,aI x23.fOut),(127,.pv (.ptr (zp x23) 0))] (by kernel_rfl) ?_)
        rcases zo hm with ⟨h25,hm⟩ | ⟨h25,hm⟩
        ·
         refine Zs [130,129] h25 (by kernel_rfl) (shd 14 [(144,aB true),(143,.undef),(142,.undef),(141,.undef),(140,.undef),(139,.undef),(138,.undef),(137,.undef),(136,.undef),(135,.undef),(134,.undef),(133,.undef),(132,.undef),(131,.undef)] (by kernel_rfl) (find [(2,.ptr 0 0),(3,.ptr 1 0),(7,aI y18),(144,aB true)] rfl (by kernel_rfl) (by kernel_rfl) (cT (by kernel_rfl) (sq (dn [(4,aB false)] (wp_ret ?_))))))
         obtain rfl:=Option.some.inj hm
         exact ⟨trivial,by kernel_rfl⟩
        ·
         refine Zs [130,129] h25 (by kernel_rfl) (shd 3 [(133,aI y18),(132,.pv (zh zp a0.fOrder)),(131,.ptr 0 5)] (by kernel_rfl) (dvd 134 (v:=.pv (.ptr (zp x21) 0)) (qA zp a0.fOrder .i64 t25 t86 h22 rfl (by kernel_rfl)) (by kernel_rfl) (shd 5 [(139,aI y18),(138,.pv (zh zp a1.fOrder)),(137,.ptr 1 5),(136,aB x21.fDesc),(135,.pv (.ptr (zp x21) 1))] (by kernel_rfl) (dvd 140 (v:=.pv (.ptr (zp x23) 0)) (qA zp a1.fOrder .i64 t25 t86 h24 rfl (by kernel_rfl)) (by kernel_rfl) (shd 4 [(144,aB (!(x21.fDesc == x23.fDesc))),(143,aB (!(x21.fDesc == x23.fDesc))),(142,aB x23.fDesc),(141,.pv (.ptr (zp x23) 1))] (by kernel_rfl) (find [(2,.ptr 0 0),(3,.ptr 1 0),(7,aI y18),(144,aB (!(x21.fDesc == x23.fDesc)))] rfl (by kernel_rfl) (by kernel_rfl) ?_))))))
         rcases zo hm with ⟨h26,hm⟩ | ⟨h26,hm⟩
         ·
          refine c1 h26 (sq (dn [(4,aB false)] (wp_ret ?_)))
          obtain rfl:=Option.some.inj hm
          exact ⟨trivial,by kernel_rfl⟩
         ·
          refine c0 h26 (wp_skip (dn [(2,.ptr 0 0),(3,.ptr 1 0),(7,aI (IntKind.wrap .i64 (y18+1)))] ?_))
          exact ⟨_,_,Zh [(2,.ptr 0 0),(3,.ptr 1 0),(7,aI (IntKind.wrap .i64 (y18+1)))] [.box (zc0 a0) false,.box (zc0 a1) false] (by kernel_rfl),⟨(IntKind.wrap .i64 (y18+1)),hm,rfl,rfl⟩⟩
       ·
        refine c0 h20 (wp_exit ?_)
        exact ⟨(decide (y18 < ((sll a0.fOrder).length:Int))),y18,hm,rfl,rfl⟩
      refine sq (dn [(2,.ptr 0 0),(3,.ptr 1 0),(6,aI 0)] (bq ?_))
      refine ZY (fun mm t H=>(∃ (y28:Int),qf n a0 a1 k13 mm y28=some r∧t=mk 145 [(2,.ptr 0 0),(3,.ptr 1 0),(6,aI y28)]∧H=[.box (zc0 a0) false,.box (zc0 a1) false])) (⟨0,hm,rfl,rfl⟩) ?_ ?_
      · rintro _ _ ⟨y28,hm,_⟩; exact nomatch hm
      rintro m29 _ _ ⟨y28,hm,rfl,rfl⟩
      simp only [qf] at hm
      refine sq (sq (rg (s1 3 [(76,.pv (zh zn a0.fAggs)),(75,.ptr 0 4),(74,aI y28)] (dv 77 (v:=aI ((sll a0.fAggs).length:Int)) (zy zn a0.fAggs t24 (by kernel_rfl)) (by kernel_rfl) (fq 1 [(2,.ptr 0 0),(3,.ptr 1 0),(6,aI y28),(78,aB (decide (y28 < ((sll a0.fAggs).length:Int))))] ?_)))))
      rcases zo hm with ⟨h30,hm⟩ | ⟨h30,hm⟩
      ·
       refine c1 h30 (wp_skip (sq (bq (sq (rgd (shd 3 [(83,aI y28),(82,.pv (zh zn a0.fAggs)),(81,.ptr 0 4)] (by kernel_rfl) ?_))))))
       obtain ⟨x31,h32,hm⟩:=bs hm
       refine dvd 84 (v:=.pv (.ptr (zn x31) 0)) (qA zn a0.fAggs .i64 t24 t101 h32 rfl (by kernel_rfl)) (by kernel_rfl) (shd 5 [(89,aI y28),(88,.pv (zh zn a1.fAggs)),(87,.ptr 1 4),(86,aI x31.fKind),(85,.pv (.ptr (zn x31) 0))] (by kernel_rfl) ?_)
       obtain ⟨x33,h34,hm⟩:=bs hm
       refine dvd 90 (v:=.pv (.ptr (zn x33) 0)) (qA zn a1.fAggs .i64 t24 t101 h34 rfl (by kernel_rfl)) (by kernel_rfl) (shd 4 [(94,aB (x31.fKind != x33.fKind)),(93,aB (x31.fKind != x33.fKind)),(92,aI x33.fKind),(91,.pv (.ptr (zn x33) 0))] (by kernel_rfl) ?_)
       rcases zo hm with ⟨h35,hm⟩ | ⟨h35,hm⟩
       ·
        refine Zs [94,93] h35 (by kernel_rfl) (shd 15 [(109,aB true),(108,.undef),(107,.undef),(106,.undef),(105,.undef),(104,.undef),(103,.undef),(102,.undef),(101,.undef),(100,.undef),(99,.undef),(98,.undef),(97,.undef),(96,.undef),(95,.undef)] (by kernel_rfl) (find [(2,.ptr 0 0),(3,.ptr 1 0),(6,aI y28),(109,aB true)] rfl (by kernel_rfl) (by kernel_rfl) (cT (by kernel_rfl) (sq (dn [(4,aB false)] (wp_ret ?_))))))
        obtain rfl:=Option.some.inj hm
        exact ⟨trivial,by kernel_rfl⟩
       ·
        refine Zs [94,93] h35 (by kernel_rfl) (shd 3 [(97,aI y28),(96,.pv (zh zn a0.fAggs)),(95,.ptr 0 4)] (by kernel_rfl) (dvd 98 (v:=.pv (.ptr (zn x31) 0)) (qA zn a0.fAggs .i64 t24 t101 h32 rfl (by kernel_rfl)) (by kernel_rfl) (shd 5 [(103,aI y28),(102,.pv (zh zn a1.fAggs)),(101,.ptr 1 4),(100,.agg (zc1 x31)),(99,.pv (.ptr (zn x31) 1))] (by kernel_rfl) (dvd 104 (v:=.pv (.ptr (zn x33) 0)) (qA zn a1.fAggs .i64 t24 t101 h34 rfl (by kernel_rfl)) (by kernel_rfl) (shd 2 [(106,.agg (zc1 x33)),(105,.pv (.ptr (zn x33) 1))] (by kernel_rfl) ?_)))))
        obtain ⟨x36,h37,hm⟩:=bs hm
        refine dvd 107 (zE (by kernel_rfl) (aeY h37) (by kernel_rfl) (by kernel_rfl) (by kernel_rfl)) (by kernel_rfl) (shd 2 [(109,aB (!x36)),(108,aB (!x36))] (by kernel_rfl) (find [(2,.ptr 0 0),(3,.ptr 1 0),(6,aI y28),(109,aB (!x36))] rfl (by kernel_rfl) (by kernel_rfl) ?_))
        rcases zo hm with ⟨h38,hm⟩ | ⟨h38,hm⟩
        ·
         refine c1 h38 (sq (dn [(4,aB false)] (wp_ret ?_)))
         obtain rfl:=Option.some.inj hm
         exact ⟨trivial,by kernel_rfl⟩
        ·
         refine c0 h38 (wp_skip (dn [(2,.ptr 0 0),(3,.ptr 1 0),(6,aI (IntKind.wrap .i64 (y28+1)))] ?_))
         exact ⟨_,_,Zh [(2,.ptr 0 0),(3,.ptr 1 0),(6,aI (IntKind.wrap .i64 (y28+1)))] [.box (zc0 a0) false,.box (zc0 a1) false] (by kernel_rfl),⟨(IntKind.wrap .i64 (y28+1)),hm,rfl,rfl⟩⟩
      ·
       refine c0 h30 (wp_exit ?_)
       exact ⟨y28,(decide (y28 < ((sll a0.fAggs).length:Int))),hm,rfl,rfl⟩
     refine sq (dn [(2,.ptr 0 0),(3,.ptr 1 0),(5,aI 0)] (bq ?_))
     refine ZY (fun mm t H=>(∃ (y40:Int),qI n a0 a1 k10 mm y40=some r∧t=mk 145 [(2,.ptr 0 0),(3,.ptr 1 0),(5,aI y40)]∧H=[.box (zc0 a0) false,.box (zc0 a1) false])) (⟨0,hm,rfl,rfl⟩) ?_ ?_
     · rintro _ _ ⟨y40,hm,_⟩; exact nomatch hm
     rintro m41 _ _ ⟨y40,hm,rfl,rfl⟩
     simp only [qI] at hm
     refine sq (sq (rg (s1 3 [(58,.pv (zh rS a0.fRels)),(57,.ptr 0 0),(56,aI y40)] (dv 59 (v:=aI ((sll a0.fRels).length:Int)) (zy rS a0.fRels t22 (by kernel_rfl)) (by kernel_rfl) (fq 1 [(2,.ptr 0 0),(3,.ptr 1 0),(5,aI y40),(60,aB (decide (y40 < ((sll a0.fRels).length:Int))))] ?_)))))
     rcases zo hm with ⟨h42,hm⟩ | ⟨h42,hm⟩
     ·
      refine c1 h42 (wp_skip (sq (bq (sq (rgd (shd 3 [(65,aI y40),(64,.pv (zh rS a0.fRels)),(63,.ptr 0 0)] (by kernel_rfl) ?_))))))
      obtain ⟨x43,h44,hm⟩:=bs hm
      refine dvd 66 (v:=.pv (.ptr (rS x43) 0)) (qA rS a0.fRels .i64 t22 t9 h44 rfl (by kernel_rfl)) (by kernel_rfl) (shd 4 [(70,aI y40),(69,.pv (zh rS a1.fRels)),(68,.ptr 1 0),(67,aS x43)] (by kernel_rfl) ?_)
      obtain ⟨x45,h46,hm⟩:=bs hm
      refine dvd 71 (v:=.pv (.ptr (rS x45) 0)) (qA rS a1.fRels .i64 t22 t9 h46 rfl (by kernel_rfl)) (by kernel_rfl) (shd 2 [(73,aB (!(sEq x43 x45))),(72,aS x45)] (by kernel_rfl) (find [(2,.ptr 0 0),(3,.ptr 1 0),(5,aI y40),(73,aB (!(sEq x43 x45)))] rfl (by kernel_rfl) (by kernel_rfl) ?_))
      rcases zo hm with ⟨h47,hm⟩ | ⟨h47,hm⟩
      ·
       refine c1 h47 (sq (dn [(4,aB false)] (wp_ret ?_)))
       obtain rfl:=Option.some.inj hm
       exact ⟨trivial,by kernel_rfl⟩
      ·
       refine c0 h47 (wp_skip (dn [(2,.ptr 0 0),(3,.ptr 1 0),(5,aI (IntKind.wrap .i64 (y40+1)))] ?_))
       exact ⟨_,_,Zh [(2,.ptr 0 0),(3,.ptr 1 0),(5,aI (IntKind.wrap .i64 (y40+1)))] [.box (zc0 a0) false,.box (zc0 a1) false] (by kernel_rfl),⟨(IntKind.wrap .i64 (y40+1)),hm,rfl,rfl⟩⟩
     ·
      refine c0 h42 (wp_exit ?_)
      exact ⟨y40,(decide (y40 < ((sll a0.fRels).length:Int))),hm,rfl,rfl⟩
theorem ajm {n:Nat} {a0:Int} {r:Int} (hm:ade n a0=some r):
    call G n 174 [aI a0] []=some (.ret (aI r),[]):=by
  unfold ade at hm
  obtain ⟨n,rfl,h0⟩:=zB hm
  replace hm:=h0; clear h0
  refine Zr 14 [(0,aI a0)] func174 rfl (by kernel_rfl) (sq (dn [(0,aI a0)] (sq (sq (dn [(3,aI a0)] (bq (sq (dn [(3,aI a0),(4,aB (a0 == 1))] ?_))))))))
  rcases zo hm with ⟨h1,hm⟩ | ⟨h1,hm⟩
  ·
   refine c1 h1 (sq (dn [(2,aI 0)] (wp_ret ?_)))
   obtain rfl:=Option.some.inj hm
   exact ⟨trivial,by kernel_rfl⟩
  ·
   refine c0 h1 ?_
   obtain ⟨k3,hk3,hm⟩:=zz hm
   refine mid (fun t H=>(∃ (y2:Bool),k3 y2=some r∧t=mk 14 [(3,aI a0),(6,aB y2)]∧H=[])) ?_ ?_
   ·
    rintro _ _ ⟨y2,hm,rfl,rfl⟩
    subst hk3
    rcases zo hm with ⟨h4,hm⟩ | ⟨h4,hm⟩
    ·
     refine c1 h4 (sq (dn [(2,aI 1)] (wp_ret ?_)))
     obtain rfl:=Option.some.inj hm
     exact ⟨trivial,by kernel_rfl⟩
    ·
     refine c0 h4 (sq (sq (dn [(3,aI a0),(10,aB (a0 == 2))] ?_)))
     rcases zo hm with ⟨h5,hm⟩ | ⟨h5,hm⟩
     ·
      refine c1 h5 (wp_skip ?_)
      rcases zo hm with ⟨h6,hm⟩ | ⟨h6,hm⟩
      ·
       refine c1 h6 (sq (dn [(2,aI 2)] (wp_ret ?_)))
       obtain rfl:=Option.some.inj hm
       exact ⟨trivial,by kernel_rfl⟩
      ·
       refine c0 h6 (wp_skip (sq (dn [(2,aI (-1))] (wp_ret ?_))))
       obtain rfl:=Option.some.inj hm
       exact ⟨trivial,by kernel_rfl⟩
     ·
      refine c0 h5 (sq (dn [(3,aI a0),(10,aB (a0 == 3))] ?_))
      rcases zo hm with ⟨h7,hm⟩ | ⟨h7,hm⟩
      ·
       refine c1 h7 (wp_skip ?_)
       rcases zo hm with ⟨h8,hm⟩ | ⟨h8,hm⟩
       ·
        refine c1 h8 (sq (dn [(2,aI 2)] (wp_ret ?_)))
        obtain rfl:=Option.some.inj hm
        exact ⟨trivial,by kernel_rfl⟩
       ·
        refine c0 h8 (wp_skip (sq (dn [(2,aI (-1))] (wp_ret ?_))))
        obtain rfl:=Option.some.inj hm
        exact ⟨trivial,by kernel_rfl⟩
      ·
       refine c0 h7 (dn [(10,aB (a0 == 4))] ?_)
       rcases zo hm with ⟨h9,hm⟩ | ⟨h9,hm⟩
       ·
        refine c1 h9 (sq (dn [(2,aI 2)] (wp_ret ?_)))
        obtain rfl:=Option.some.inj hm
        exact ⟨trivial,by kernel_rfl⟩
       ·
        refine c0 h9 (wp_skip (sq (dn [(2,aI (-1))] (wp_ret ?_))))
        obtain rfl:=Option.some.inj hm
        exact ⟨trivial,by kernel_rfl⟩
   refine sq (dn [(3,aI a0),(6,aB (a0 == 5))] ?_)
   rcases zo hm with ⟨h10,hm⟩ | ⟨h10,hm⟩
   ·
    refine c1 h10 (wp_skip ?_)
    exact ⟨(a0 == 5),hm,rfl,rfl⟩
   ·
    refine c0 h10 (sq (dn [(3,aI a0),(6,aB (a0 == 6))] ?_))
    rcases zo hm with ⟨h11,hm⟩ | ⟨h11,hm⟩
    ·
     refine c1 h11 (wp_skip ?_)
     exact ⟨(a0 == 6),hm,rfl,rfl⟩
    ·
     refine c0 h11 (dn [(3,aI a0),(6,aB (a0 == 7))] ?_)
     exact ⟨(a0 == 7),hm,rfl,rfl⟩
theorem aid {n:Nat} {a0:zk} {r:Bool} (hm:acf n a0=some r):
    call G n 175 [.agg (zc2 a0)] []=some (.ret (aB r),[]):=by
  unfold acf at hm
  obtain ⟨n,rfl,h0⟩:=zB hm
  replace hm:=h0; clear h0
  refine Zr 68 [(0,.agg (zc2 a0))] func175 rfl (by kernel_rfl) (sq (det [(1,.ptr 0 0)] [.box (zc2 a0) false] (by kernel_rfl) (sq (rgd (shd 2 [(9,.pv (zh zb a0.fWhere)),(8,.ptr 0 2)] (by kernel_rfl) (dvd 10 (v:=aI ((sll a0.fWhere).length:Int)) (zy zb a0.fWhere t23 (by kernel_rfl)) (by kernel_rfl) (shd 2 [(12,.pv (zh zb a0.fLeft)),(11,.ptr 0 3)] (by kernel_rfl) (dvd 13 (v:=aI ((sll a0.fLeft).length:Int)) (zy zb a0.fLeft t23 (by kernel_rfl)) (by kernel_rfl) (shd 2 [(15,.pv (zh zb a0.fRight)),(14,.ptr 0 4)] (by kernel_rfl) (dvd 16 (v:=aI ((sll a0.fRight).length:Int)) (zy zb a0.fRight t23 (by kernel_rfl)) (by kernel_rfl) (shd 3 [(19,.pv (zh zb a0.fOut)),(18,.ptr 0 5),(17,aI (IntKind.wrap .i64 (((sll a0.fLeft).length:Int)+((sll a0.fRight).length:Int))))] (by kernel_rfl) (dvd 20 (v:=aI ((sll a0.fOut).length:Int)) (zy zb a0.fOut t23 (by kernel_rfl)) (by kernel_rfl) ?_))))))))))))
  refine shd 2 [(22,.pv (zh zn a0.fAggs)),(21,.ptr 0 6)] (by kernel_rfl) (dvd 23 (v:=aI ((sll a0.fAggs).length:Int)) (zy zn a0.fAggs t24 (by kernel_rfl)) (by kernel_rfl) (shd 2 [(25,.pv (zh zp a0.fOrder)),(24,.ptr 0 7)] (by kernel_rfl) (dvd 26 (v:=aI ((sll a0.fOrder).length:Int)) (zy zp a0.fOrder t25 (by kernel_rfl)) (by kernel_rfl) (shd 5 [(7,aI ((sll a0.fOrder).length:Int)),(6,aI ((sll a0.fAggs).length:Int)),(5,aI ((sll a0.fOut).length:Int)),(4,aI (IntKind.wrap .i64 (((sll a0.fLeft).length:Int)+((sll a0.fRight).length:Int)))),(3,aI ((sll a0.fWhere).length:Int))] (by kernel_rfl) (find [(1,.ptr 0 0),(3,aI ((sll a0.fWhere).length:Int)),(4,aI (IntKind.wrap .i64 (((sll a0.fLeft).length:Int)+((sll a0.fRight).length:Int)))),(5,aI ((sll a0.fOut).length:Int)),(6,aI ((sll a0.fAggs).length:Int)),(7,aI ((sll a0.fOrder).length:Int))] rfl (by kernel_rfl) (by kernel_rfl) ?_)))))
  obtain ⟨k7,hk7,hm⟩:=zz hm
  refine mid (fun t H=>(∃ (y2:Int) (y3:Int) (y4:Int) (y5:Int) (y6:Int) (w1:AV),k7 y2 y3 y4 y5 y6=some r∧t=mk 68 [(3,aI y2),(4,aI y3),(5,aI y4),(6,aI y5),(7,aI y6),(39,w1)]∧H=[.box (zc2 a0) false])) ?_ ?_
  ·
   rintro _ _ ⟨y2,y3,y4,y5,y6,w1,hm,rfl,rfl⟩
   subst hk7
   refine sq (dn [(2,aB ((IntKind.wrap .i64 ((IntKind.wrap .i64 ((IntKind.wrap .i64 ((IntKind.wrap .i64 (y2+y3))+y4))+y5))+y6)) == 0))] (wp_ret ?_))
   obtain rfl:=Option.some.inj hm
   exact ⟨trivial,by kernel_rfl⟩
  refine sq (dn [(1,.ptr 0 0),(3,aI ((sll a0.fWhere).length:Int)),(4,aI (IntKind.wrap .i64 (((sll a0.fLeft).length:Int)+((sll a0.fRight).length:Int)))),(5,aI ((sll a0.fOut).length:Int)),(6,aI ((sll a0.fAggs).length:Int)),(7,aI ((sll a0.fOrder).length:Int)),(28,aI a0.fKind)] (bq (sq (bq (sq (bq (sq (bq (sq (bq ?_))))))))))
  obtain ⟨k9,hk9,hm⟩:=zz hm
  refine mid (fun t H=>(∃ (y8:Bool),k9 ()=some r∧t=mk 68 [(1,.ptr 0 0),(3,aI ((sll a0.fWhere).length:Int)),(4,aI (IntKind.wrap .i64 (((sll a0.fLeft).length:Int)+((sll a0.fRight).length:Int)))),(5,aI ((sll a0.fOut).length:Int)),(6,aI ((sll a0.fAggs).length:Int)),(7,aI ((sll a0.fOrder).length:Int)),(28,aI a0.fKind),(29,aB y8)]∧H=[.box (zc2 a0) false])) ?_ ?_
  ·
   rintro _ _ ⟨y8,hm,rfl,rfl⟩
   subst hk9
   refine sq (sq (rg (s1 2 [(42,.pv (zh zb a0.fLeft)),(41,.ptr 0 3)] (dv 43 (v:=aI ((sll a0.fLeft).length:Int)) (zy zb a0.fLeft t23 (by kernel_rfl)) (by kernel_rfl) (s1 2 [(45,.pv (zh zb a0.fRight)),(44,.ptr 0 4)] (dv 46 (v:=aI ((sll a0.fRight).length:Int)) (zy zb a0.fRight t23 (by kernel_rfl)) (by kernel_rfl) (s1 2 [(48,aB (((sll a0.fLeft).length:Int) != ((sll a0.fRight).length:Int))),(47,aB (((sll a0.fLeft).length:Int) != ((sll a0.fRight).length:Int)))] ?_)))))))
   refine seg (((sll a0.fLeft).length:Int) != ((sll a0.fRight).length:Int)) [48,47] (fun b=>[(53,aB (b || (((sll a0.fLeft).length:Int) == 0))),(52,ifA b (.undef) (aB (((sll a0.fLeft).length:Int) == 0))),(51,ifA b (.undef) (aI ((sll a0.fLeft).length:Int))),(50,ifA b (.undef) (.pv (zh zb a0.fLeft))),(49,ifA b (.undef) (.ptr 0 3))]) 13 (by kernel_rfl) ?_ ?_ ?_
   ·
    intro Q h
    refine s1 5 [(53,aB true),(52,.undef),(51,.undef),(50,.undef),(49,.undef)] ?_
    exact ZB (by kernel_rfl) (by kernel_rfl) h
   ·
    intro Q h
    refine s1 2 [(50,.pv (zh zb a0.fLeft)),(49,.ptr 0 3)] (dv 51 (v:=aI ((sll a0.fLeft).length:Int)) (zy zb a0.fLeft t23 (by kernel_rfl)) (by kernel_rfl) (s1 2 [(53,aB (((sll a0.fLeft).length:Int) == 0)),(52,aB (((sll a0.fLeft).length:Int) == 0))] ?_))
    exact ZB (by kernel_rfl) (by kernel_rfl) h
   refine fin [(5,aI ((sll a0.fOut).length:Int)),(6,aI ((sll a0.fAggs).length:Int)),(7,aI ((sll a0.fOrder).length:Int)),(53,aB ((((sll a0.fLeft).length:Int) != ((sll a0.fRight).length:Int)) || (((sll a0.fLeft).length:Int) == 0)))] rfl (by kernel_rfl) ?_
   rcases zo hm with ⟨h10,hm⟩ | ⟨h10,hm⟩
   ·
    refine c1 h10 (sq (dn [(2,aB false)] (wp_ret ?_)))
    obtain rfl:=Option.some.inj hm
    exact ⟨trivial,by kernel_rfl⟩
   ·
    refine c0 h10 (wp_skip (dn [(4,aI 0),(5,aI ((sll a0.fOut).length:Int)),(6,aI ((sll a0.fAggs).length:Int)),(7,aI ((sll a0.fOrder).length:Int))] (sq (dn [(3,aI 0),(4,aI 0),(5,aI ((sll a0.fOut).length:Int)),(6,aI ((sll a0.fAggs).length:Int)),(7,aI ((sll a0.fOrder).length:Int))] (wp_exit ?_)))))
    exact ⟨0,0,((sll a0.fOut).length:Int),((sll a0.fAggs).length:Int),((sll a0.fOrder).length:Int),.any,hm,(Zk (by kernel_rfl)),rfl⟩
  refine bq (sq ?_)
  obtain ⟨k12,hk12,hm⟩:=zz hm
  refine mid (fun t H=>(∃ (y11:Bool),k12 ()=some r∧t=mk 68 [(1,.ptr 0 0),(3,aI ((sll a0.fWhere).length:Int)),(4,aI (IntKind.wrap .i64 (((sll a0.fLeft).length:Int)+((sll a0.fRight).length:Int)))),(5,aI ((sll a0.fOut).length:Int)),(6,aI ((sll a0.fAggs).length:Int)),(7,aI ((sll a0.fOrder).length:Int)),(28,aI a0.fKind),(29,aB y11)]∧H=[.box (zc2 a0) false])) ?_ ?_
  ·
   rintro _ _ ⟨y11,hm,rfl,rfl⟩
   subst hk12
   refine sq (sq (sq (dn [(3,aI ((sll a0.fWhere).length:Int)),(4,aI (IntKind.wrap .i64 (((sll a0.fLeft).length:Int)+((sll a0.fRight).length:Int)))),(5,aI ((sll a0.fOut).length:Int)),(6,aI ((sll a0.fAggs).length:Int)),(7,aI ((sll a0.fOrder).length:Int)),(28,aI a0.fKind),(32,aB (a0.fKind == 1))] ?_)))
   rcases zo hm with ⟨h13,hm⟩ | ⟨h13,hm⟩
   ·
    refine c1 h13 (wp_skip ?_)
    rcases zo hm with ⟨h14,hm⟩ | ⟨h14,hm⟩
    ·
     refine c1 h14 (wp_exit (sq (dn [(3,aI 0),(4,aI (IntKind.wrap .i64 (((sll a0.fLeft).length:Int)+((sll a0.fRight).length:Int)))),(5,aI ((sll a0.fOut).length:Int)),(6,aI ((sll a0.fAggs).length:Int)),(7,aI ((sll a0.fOrder).length:Int))] (wp_exit ?_))))
     exact ⟨0,(IntKind.wrap .i64 (((sll a0.fLeft).length:Int)+((sll a0.fRight).length:Int))),((sll a0.fOut).length:Int),((sll a0.fAggs).length:Int),((sll a0.fOrder).length:Int),.any,hm,(Zk (by kernel_rfl)),rfl⟩
    ·
     refine c0 h14 (wp_skip (sq (sq (dn [(3,aI ((sll a0.fWhere).length:Int)),(4,aI (IntKind.wrap .i64 (((sll a0.fLeft).length:Int)+((sll a0.fRight).length:Int)))),(5,aI ((sll a0.fOut).length:Int)),(6,aI ((sll a0.fAggs).length:Int)),(7,aI ((sll a0.fOrder).length:Int)),(28,aI a0.fKind),(35,aB (a0.fKind == 6))] ?_))))
     rcases zo hm with ⟨h15,hm⟩ | ⟨h15,hm⟩
     ·
      refine c1 h15 (wp_exit (sq (sq (sq (dn [(3,aI ((sll a0.fWhere).length:Int)),(4,aI (IntKind.wrap .i64 (((sll a0.fLeft).length:Int)+((sll a0.fRight).length:Int)))),(6,aI ((sll a0.fAggs).length:Int)),(7,aI ((sll a0.fOrder).length:Int)),(55,aB (((sll a0.fOut).length:Int) == 0))] ?_)))))
      rcases zo hm with ⟨h16,hm⟩ | ⟨h16,hm⟩
      ·
       refine c1 h16 (sq (dn [(2,aB false)] (wp_ret ?_)))
       obtain rfl:=Option.some.inj hm
       exact ⟨trivial,by kernel_rfl⟩
      ·
       refine c0 h16 (wp_skip (dn [(3,aI ((sll a0.fWhere).length:Int)),(4,aI (IntKind.wrap .i64 (((sll a0.fLeft).length:Int)+((sll a0.fRight).length:Int)))),(5,aI 0),(6,aI ((sll a0.fAggs).length:Int)),(7,aI ((sll a0.fOrder).length:Int))] (wp_exit ?_)))
       exact ⟨((sll a0.fWhere).length:Int),(IntKind.wrap .i64 (((sll a0.fLeft).length:Int)+((sll a0.fRight).length:Int))),0,((sll a0.fAggs).length:Int),((sll a0.fOrder).length:Int),.any,hm,(Zk (by kernel_rfl)),rfl⟩
     ·
      refine c0 h15 (wp_skip (sq (sq (dn [(3,aI ((sll a0.fWhere).length:Int)),(4,aI (IntKind.wrap .i64 (((sll a0.fLeft).length:Int)+((sll a0.fRight).length:Int)))),(5,aI ((sll a0.fOut).length:Int)),(6,aI ((sll a0.fAggs).length:Int)),(7,aI ((sll a0.fOrder).length:Int)),(28,aI a0.fKind),(37,aB (a0.fKind == 5))] ?_))))
      rcases zo hm with ⟨h17,hm⟩ | ⟨h17,hm⟩
      ·
       refine c1 h17 (wp_exit (sq (dn [(3,aI ((sll a0.fWhere).length:Int)),(4,aI (IntKind.wrap .i64 (((sll a0.fLeft).length:Int)+((sll a0.fRight).length:Int)))),(5,aI 0),(6,aI 0),(7,aI ((sll a0.fOrder).length:Int))] (wp_exit ?_))))
       exact ⟨((sll a0.fWhere).length:Int),(IntKind.wrap .i64 (((sll a0.fLeft).length:Int)+((sll a0.fRight).length:Int))),0,0,((sll a0.fOrder).length:Int),.any,hm,(Zk (by kernel_rfl)),rfl⟩
      ·
       refine c0 h17 (wp_skip (sq (dn [(3,aI ((sll a0.fWhere).length:Int)),(4,aI (IntKind.wrap .i64 (((sll a0.fLeft).length:Int)+((sll a0.fRight).length:Int)))),(5,aI ((sll a0.fOut).length:Int)),(6,aI ((sll a0.fAggs).length:Int)),(7,aI ((sll a0.fOrder).length:Int)),(39,aB (a0.fKind == 7))] ?_)))
       rcases zo hm with ⟨h18,hm⟩ | ⟨h18,hm⟩
       ·
        refine c1 h18 (wp_exit (sq (sq (sq (dn [(3,aI ((sll a0.fWhere).length:Int)),(4,aI (IntKind.wrap .i64 (((sll a0.fLeft).length:Int)+((sll a0.fRight).length:Int)))),(5,aI ((sll a0.fOut).length:Int)),(6,aI ((sll a0.fAggs).length:Int)),(57,aB (((sll a0.fOrder).length:Int) == 0))] ?_)))))
        rcases zo hm with ⟨h19,hm⟩ | ⟨h19,hm⟩
        ·
         refine c1 h19 (sq (dn [(2,aB false)] (wp_ret ?_)))
         obtain rfl:=Option.some.inj hm
         exact ⟨trivial,by kernel_rfl⟩
        ·
         refine c0 h19 (wp_skip (dn [(3,aI ((sll a0.fWhere).length:Int)),(4,aI (IntKind.wrap .i64 (((sll a0.fLeft).length:Int)+((sll a0.fRight).length:Int)))),(5,aI ((sll a0.fOut).length:Int)),(6,aI ((sll a0.fAggs).length:Int)),(7,aI 0)] (wp_exit ?_)))
         exact ⟨((sll a0.fWhere).length:Int),(IntKind.wrap .i64 (((sll a0.fLeft).length:Int)+((sll a0.fRight).length:Int))),((sll a0.fOut).length:Int),((sll a0.fAggs).length:Int),0,.any,hm,(Zk (by kernel_rfl)),rfl⟩
       ·
        refine c0 h18 (wp_skip (wp_exit ?_))
        exact ⟨((sll a0.fWhere).length:Int),(IntKind.wrap .i64 (((sll a0.fLeft).length:Int)+((sll a0.fRight).length:Int))),((sll a0.fOut).length:Int),((sll a0.fAggs).length:Int),((sll a0.fOrder).length:Int),aB (a0.fKind == 7),hm,(Zk (by kernel_rfl)),rfl⟩
   ·
    refine c0 h13 (dn [(3,aI ((sll a0.fWhere).length:Int)),(4,aI (IntKind.wrap .i64 (((sll a0.fLeft).length:Int)+((sll a0.fRight).length:Int)))),(5,aI ((sll a0.fOut).length:Int)),(6,aI ((sll a0.fAggs).length:Int)),(7,aI ((sll a0.fOrder).length:Int)),(28,aI a0.fKind),(32,aB (a0.fKind == 2))] ?_)
    rcases zo hm with ⟨h20,hm⟩ | ⟨h20,hm⟩
    ·
     refine c1 h20 (wp_exit (sq (dn [(3,aI 0),(4,aI (IntKind.wrap .i64 (((sll a0.fLeft).length:Int)+((sll a0.fRight).length:Int)))),(5,aI ((sll a0.fOut).length:Int)),(6,aI ((sll a0.fAggs).length:Int)),(7,aI ((sll a0.fOrder).length:Int))] (wp_exit ?_))))
     exact ⟨0,(IntKind.wrap .i64 (((sll a0.fLeft).length:Int)+((sll a0.fRight).length:Int))),((sll a0.fOut).length:Int),((sll a0.fAggs).length:Int),((sll a0.fOrder).length:Int),.any,hm,(Zk (by kernel_rfl)),rfl⟩
    ·
     refine c0 h20 (wp_skip (sq (sq (dn [(3,aI ((sll a0.fWhere).length:Int)),(4,aI (IntKind.wrap .i64 (((sll a0.fLeft).length:Int)+((sll a0.fRight).length:Int)))),(5,aI ((sll a0.fOut).length:Int)),(6,aI ((sll a0.fAggs).length:Int)),(7,aI ((sll a0.fOrder).length:Int)),(28,aI a0.fKind),(35,aB (a0.fKind == 6))] ?_))))
     rcases zo hm with ⟨h21,hm⟩ | ⟨h21,hm⟩
     ·
      refine c1 h21 (wp_exit (sq (sq (sq (dn [(3,aI ((sll a0.fWhere).length:Int)),(4,aI (IntKind.wrap .i64 (((sll a0.fLeft).length:Int)+((sll a0.fRight).length:Int)))),(6,aI ((sll a0.fAggs).length:Int)),(7,aI ((sll a0.fOrder).length:Int)),(55,aB (((sll a0.fOut).length:Int) == 0))] ?_)))))
      rcases zo hm with ⟨h22,hm⟩ | ⟨h22,hm⟩
      ·
       refine c1 h22 (sq (dn [(2,aB false)] (wp_ret ?_)))
       obtain rfl:=Option.some.inj hm
       exact ⟨trivial,by kernel_rfl⟩
      ·
       refine c0 h22 (wp_skip (dn [(3,aI ((sll a0.fWhere).length:Int)),(4,aI (IntKind.wrap .i64 (((sll a0.fLeft).length:Int)+((sll a0.fRight).length:Int)))),(5,aI 0),(6,aI ((sll a0.fAggs).length:Int)),(7,aI ((sll a0.fOrder).length:Int))] (wp_exit ?_)))
       exact ⟨((sll a0.fWhere).length:Int),(IntKind.wrap .i64 (((sll a0.fLeft).length:Int)+((sll a0.fRight).length:Int))),0,((sll a0.fAggs).length:Int),((sll a0.fOrder).length:Int),.any,hm,(Zk (by kernel_rfl)),rfl⟩
     ·
      refine c0 h21 (wp_skip (sq (sq (dn [(3,aI ((sll a0.fWhere).length:Int)),(4,aI (IntKind.wrap .i64 (((sll a0.fLeft).length:Int)+((sll a0.fRight).length:Int)))),(5,aI ((sll a0.fOut).length:Int)),(6,aI ((sll a0.fAggs).length:Int)),(7,aI ((sll a0.fOrder).length:Int)),(28,aI a0.fKind),(37,aB (a0.fKind == 5))] ?_))))
      rcases zo hm with ⟨h23,hm⟩ | ⟨h23,hm⟩
      ·
       refine c1 h23 (wp_exit (sq (dn [(3,aI ((sll a0.fWhere).length:Int)),(4,aI (IntKind.wrap .i64 (((sll a0.fLeft).length:Int)+((sll a0.fRight).length:Int)))),(5,aI 0),(6,aI 0),(7,aI ((sll a0.fOrder).length:Int))] (wp_exit ?_))))
       exact ⟨((sll a0.fWhere).length:Int),(IntKind.wrap .i64 (((sll a0.fLeft).length:Int)+((sll a0.fRight).length:Int))),0,0,((sll a0.fOrder).length:Int),.any,hm,(Zk (by kernel_rfl)),rfl⟩
      ·
       refine c0 h23 (wp_skip (sq (dn [(3,aI ((sll a0.fWhere).length:Int)),(4,aI (IntKind.wrap .i64 (((sll a0.fLeft).length:Int)+((sll a0.fRight).length:Int)))),(5,aI ((sll a0.fOut).length:Int)),(6,aI ((sll a0.fAggs).length:Int)),(7,aI ((sll a0.fOrder).length:Int)),(39,aB (a0.fKind == 7))] ?_)))
       rcases zo hm with ⟨h24,hm⟩ | ⟨h24,hm⟩
       ·
        refine c1 h24 (wp_exit (sq (sq (sq (dn [(3,aI ((sll a0.fWhere).length:Int)),(4,aI (IntKind.wrap .i64 (((sll a0.fLeft).length:Int)+((sll a0.fRight).length:Int)))),(5,aI ((sll a0.fOut).length:Int)),(6,aI ((sll a0.fAggs).length:Int)),(57,aB (((sll a0.fOrder).length:Int) == 0))] ?_)))))
        rcases zo hm with ⟨h25,hm⟩ | ⟨h25,hm⟩
        ·
         refine c1 h25 (sq (dn [(2,aB false)] (wp_ret ?_)))
         obtain rfl:=Option.some.inj hm
         exact ⟨trivial,by kernel_rfl⟩
        ·
         refine c0 h25 (wp_skip (dn [(3,aI ((sll a0.fWhere).length:Int)),(4,aI (IntKind.wrap .i64 (((sll a0.fLeft).length:Int)+((sll a0.fRight).length:Int)))),(5,aI ((sll a0.fOut).length:Int)),(6,aI ((sll a0.fAggs).length:Int)),(7,aI 0)] (wp_exit ?_)))
         exact ⟨((sll a0.fWhere).length:Int),(IntKind.wrap .i64 (((sll a0.fLeft).length:Int)+((sll a0.fRight).length:Int))),((sll a0.fOut).length:Int),((sll a0.fAggs).length:Int),0,.any,hm,(Zk (by kernel_rfl)),rfl⟩
       ·
        refine c0 h24 (wp_skip (wp_exit ?_))
        exact ⟨((sll a0.fWhere).length:Int),(IntKind.wrap .i64 (((sll a0.fLeft).length:Int)+((sll a0.fRight).length:Int))),((sll a0.fOut).length:Int),((sll a0.fAggs).length:Int),((sll a0.fOrder).length:Int),aB (a0.fKind == 7),hm,(Zk (by kernel_rfl)),rfl⟩
  refine sq (sq (dn [(1,.ptr 0 0),(3,aI ((sll a0.fWhere).length:Int)),(4,aI (IntKind.wrap .i64 (((sll a0.fLeft).length:Int)+((sll a0.fRight).length:Int)))),(5,aI ((sll a0.fOut).length:Int)),(6,aI ((sll a0.fAggs).length:Int)),(7,aI ((sll a0.fOrder).length:Int)),(28,aI a0.fKind),(29,aB (a0.fKind == 3))] ?_))
  rcases zo hm with ⟨h26,hm⟩ | ⟨h26,hm⟩
  ·
   refine c1 h26 (wp_skip ?_)
   rcases zo hm with ⟨h27,hm⟩ | ⟨h27,hm⟩
   ·
    refine c1 h27 (wp_exit ?_)
    exact ⟨(a0.fKind == 3),hm,rfl,rfl⟩
   ·
    refine c0 h27 (wp_skip ?_)
    exact ⟨(a0.fKind == 3),hm,rfl,rfl⟩
  ·
   refine c0 h26 (dn [(1,.ptr 0 0),(3,aI ((sll a0.fWhere).length:Int)),(4,aI (IntKind.wrap .i64 (((sll a0.fLeft).length:Int)+((sll a0.fRight).length:Int)))),(5,aI ((sll a0.fOut).length:Int)),(6,aI ((sll a0.fAggs).length:Int)),(7,aI ((sll a0.fOrder).length:Int)),(28,aI a0.fKind),(29,aB (a0.fKind == 4))] ?_)
   rcases zo hm with ⟨h28,hm⟩ | ⟨h28,hm⟩
   ·
    refine c1 h28 (wp_exit ?_)
    exact ⟨(a0.fKind == 4),hm,rfl,rfl⟩
   ·
    refine c0 h28 (wp_skip ?_)
    exact ⟨(a0.fKind == 4),hm,rfl,rfl⟩
theorem ajt {n:Nat} {a0:Int} {r:Int} (hm:ac2 n a0=some r):
    call G n 192 [aI a0] []=some (.ret (aI r),[]):=by
  unfold ac2 at hm
  obtain ⟨n,rfl,h0⟩:=zB hm
  replace hm:=h0; clear h0
  refine Zr 20 [(0,aI a0)] func192 rfl (by kernel_rfl) (sq (dn [(0,aI a0)] (sq (sq (dn [(3,aI a0)] (bq ?_))))))
  obtain ⟨k2,hk2,hm⟩:=zz hm
  refine mid (fun t H=>(∃ (y1:Bool),k2 y1=some r∧t=mk 20 [(3,aI a0),(4,aB y1)]∧H=[])) ?_ ?_
  ·
   rintro _ _ ⟨y1,hm,rfl,rfl⟩
   subst hk2
   rcases zo hm with ⟨h3,hm⟩ | ⟨h3,hm⟩
   ·
    refine c1 h3 (sq (dn [(2,aI 0)] (wp_ret ?_)))
    obtain rfl:=Option.some.inj hm
    exact ⟨trivial,by kernel_rfl⟩
   ·
    refine c0 h3 ?_
    obtain ⟨k5,hk5,hm⟩:=zz hm
    refine mid (fun t H=>(∃ (y4:Bool),k5 y4=some r∧t=mk 20 [(3,aI a0),(7,aB y4)]∧H=[])) ?_ ?_
    ·
     rintro _ _ ⟨y4,hm,rfl,rfl⟩
     subst hk5
     rcases zo hm with ⟨h6,hm⟩ | ⟨h6,hm⟩
     ·
      refine c1 h6 (sq (dn [(2,aI 1)] (wp_ret ?_)))
      obtain rfl:=Option.some.inj hm
      exact ⟨trivial,by kernel_rfl⟩
     ·
      refine c0 h6 (sq (sq (dn [(3,aI a0),(11,aB (a0 == 3))] ?_)))
      rcases zo hm with ⟨h7,hm⟩ | ⟨h7,hm⟩
      ·
       refine c1 h7 (wp_skip ?_)
       rcases zo hm with ⟨h8,hm⟩ | ⟨h8,hm⟩
       ·
        refine c1 h8 (sq (dn [(2,aI 2)] (wp_ret ?_)))
        obtain rfl:=Option.some.inj hm
        exact ⟨trivial,by kernel_rfl⟩
       ·
        refine c0 h8 (wp_skip (sq (dn [(2,aI (-1))] (wp_ret ?_))))
        obtain rfl:=Option.some.inj hm
        exact ⟨trivial,by kernel_rfl⟩
      ·
       refine c0 h7 (sq (dn [(3,aI a0),(11,aB (a0 == 4))] ?_))
       rcases zo hm with ⟨h9,hm⟩ | ⟨h9,hm⟩
       ·
        refine c1 h9 (wp_skip ?_)
        rcases zo hm with ⟨h10,hm⟩ | ⟨h10,hm⟩
        ·
         refine c1 h10 (sq (dn [(2,aI 2)] (wp_ret ?_)))
         obtain rfl:=Option.some.inj hm
         exact ⟨trivial,by kernel_rfl⟩
        ·
         refine c0 h10 (wp_skip (sq (dn [(2,aI (-1))] (wp_ret ?_))))
         obtain rfl:=Option.some.inj hm
         exact ⟨trivial,by kernel_rfl⟩
       ·
        refine c0 h9 (sq (dn [(3,aI a0),(11,aB (a0 == 5))] ?_))
        rcases zo hm with ⟨h11,hm⟩ | ⟨h11,hm⟩
        ·
         refine c1 h11 (wp_skip ?_)
         rcases zo hm with ⟨h12,hm⟩ | ⟨h12,hm⟩
         ·
          refine c1 h12 (sq (dn [(2,aI 2)] (wp_ret ?_)))
          obtain rfl:=Option.some.inj hm
          exact ⟨trivial,by kernel_rfl⟩
         ·
          refine c0 h12 (wp_skip (sq (dn [(2,aI (-1))] (wp_ret ?_))))
          obtain rfl:=Option.some.inj hm
          exact ⟨trivial,by kernel_rfl⟩
        ·
         refine c0 h11 (sq (dn [(3,aI a0),(11,aB (a0 == 7))] ?_))
         rcases zo hm with ⟨h13,hm⟩ | ⟨h13,hm⟩
         ·
          refine c1 h13 (wp_skip ?_)
          rcases zo hm with ⟨h14,hm⟩ | ⟨h14,hm⟩
          ·
           refine c1 h14 (sq (dn [(2,aI 2)] (wp_ret ?_)))
           obtain rfl:=Option.some.inj hm
           exact ⟨trivial,by kernel_rfl⟩
          ·
           refine c0 h14 (wp_skip (sq (dn [(2,aI (-1))] (wp_ret ?_))))
           obtain rfl:=Option.some.inj hm
           exact ⟨trivial,by kernel_rfl⟩
         ·
          refine c0 h13 (sq (dn [(3,aI a0),(11,aB (a0 == 8))] ?_))
          rcases zo hm with ⟨h15,hm⟩ | ⟨h15,hm⟩
          ·
           refine c1 h15 (wp_skip ?_)
           rcases zo hm with ⟨h16,hm⟩ | ⟨h16,hm⟩
           ·
            refine c1 h16 (sq (dn [(2,aI 2)] (wp_ret ?_)))
            obtain rfl:=Option.some.inj hm
            exact ⟨trivial,by kernel_rfl⟩
           ·
            refine c0 h16 (wp_skip (sq (dn [(2,aI (-1))] (wp_ret ?_))))
            obtain rfl:=Option.some.inj hm
            exact ⟨trivial,by kernel_rfl⟩
          ·
           refine c0 h15 (sq (dn [(3,aI a0),(11,aB (a0 == 9))] ?_))
           rcases zo hm with ⟨h17,hm⟩ | ⟨h17,hm⟩
           ·
            refine c1 h17 (wp_skip ?_)
            rcases zo hm with ⟨h18,hm⟩ | ⟨h18,hm⟩
            ·
             refine c1 h18 (sq (dn [(2,aI 2)] (wp_ret ?_)))
             obtain rfl:=Option.some.inj hm
             exact ⟨trivial,by kernel_rfl⟩
            ·
             refine c0 h18 (wp_skip (sq (dn [(2,aI (-1))] (wp_ret ?_))))
             obtain rfl:=Option.some.inj hm
             exact ⟨trivial,by kernel_rfl⟩
           ·
            refine c0 h17 (sq (dn [(3,aI a0),(11,aB (a0 == 10))] ?_))
            rcases zo hm with ⟨h19,hm⟩ | ⟨h19,hm⟩
            ·
             refine c1 h19 (wp_skip ?_)
             rcases zo hm with ⟨h20,hm⟩ | ⟨h20,hm⟩
             ·
              refine c1 h20 (sq (dn [(2,aI 2)] (wp_ret ?_)))
              obtain rfl:=Option.some.inj hm
              exact ⟨trivial,by kernel_rfl⟩
             ·
              refine c0 h20 (wp_skip (sq (dn [(2,aI (-1))] (wp_ret ?_))))
              obtain rfl:=Option.some.inj hm
              exact ⟨trivial,by kernel_rfl⟩
            ·
             refine c0 h19 (dn [(11,aB (a0 == 11))] ?_)
             rcases zo hm with ⟨h21,hm⟩ | ⟨h21,hm⟩
             ·
              refine c1 h21 (sq (dn [(2,aI 2)] (wp_ret ?_)))
              obtain rfl:=Option.some.inj hm
              exact ⟨trivial,by kernel_rfl⟩
             ·
              refine c0 h21 (wp_skip (sq (dn [(2,aI (-1))] (wp_ret ?_))))
              obtain rfl:=Option.some.inj hm
              exact ⟨trivial,by kernel_rfl⟩
    refine sq (dn [(3,aI a0),(7,aB (a0 == 6))] ?_)
    rcases zo hm with ⟨h22,hm⟩ | ⟨h22,hm⟩
    ·
     refine c1 h22 (wp_skip ?_)
     exact ⟨(a0 == 6),hm,rfl,rfl⟩
    ·
     refine c0 h22 (sq (dn [(3,aI a0),(7,aB (a0 == 12))] ?_))
     rcases zo hm with ⟨h23,hm⟩ | ⟨h23,hm⟩
     ·
      refine c1 h23 (wp_skip ?_)
      exact ⟨(a0 == 12),hm,rfl,rfl⟩
     ·
      refine c0 h23 (dn [(3,aI a0),(7,aB (a0 == 13))] ?_)
      exact ⟨(a0 == 13),hm,rfl,rfl⟩
  refine sq (dn [(3,aI a0),(4,aB (a0 == 1))] ?_)
  rcases zo hm with ⟨h24,hm⟩ | ⟨h24,hm⟩
  ·
   refine c1 h24 (wp_skip ?_)
   exact ⟨(a0 == 1),hm,rfl,rfl⟩
  ·
   refine c0 h24 (dn [(3,aI a0),(4,aB (a0 == 2))] ?_)
   exact ⟨(a0 == 2),hm,rfl,rfl⟩
theorem adj {n:Nat} {a0:Int} {r:Bool} (hm:aaI n a0=some r):
    call G n 249 [aI a0] []=some (.ret (aB r),[]):=by
  unfold aaI at hm
  obtain ⟨n,rfl,h0⟩:=zB hm
  replace hm:=h0; clear h0
  refine Zr 9 [(0,aI a0)] func249 rfl (by kernel_rfl) (sq (dn [(0,aI a0)] (sq (rg (s1 3 [(5,aB (decide (a0≥0))),(4,aB (decide (a0≥0))),(3,aI a0)] ?_)))))
  refine segP (decide (a0≥0)) [5,4] (fun b=>[(8,aB (b && (decide (a0≤31)))),(7,ifA b (aB (decide (a0≤31))) (.undef)),(6,ifA b (aI a0) (.undef))]) 3 (by kernel_rfl) (by kernel_rfl) (by kernel_rfl) (fq 1 [(2,aB ((decide (a0≥0)) && (decide (a0≤31))))] (wp_ret ?_))
  obtain rfl:=Option.some.inj hm
  exact ⟨trivial,by kernel_rfl⟩
theorem agD {n:Nat} {a0:Nat} {r:Bool} (hm:ab2 n a0=some r):
    call G n 250 [aF a0] []=some (.ret (aB r),[]):=by
  unfold ab2 at hm
  obtain ⟨n,rfl,h0⟩:=zB hm
  replace hm:=h0; clear h0
  refine Zr 7 [(0,aF a0)] func250 rfl (by kernel_rfl) (sq (dn [(0,aF a0)] (sq (rg (s1 1 [(3,aF a0)] (s1 1 [(4,aU (a0:Int))] (fq 3 [(2,aB (decide ((IntKind.wrap .i64 (a0:Int)) < 0)))] (wp_ret ?_))))))))
  obtain rfl:=Option.some.inj hm
  exact ⟨trivial,by kernel_rfl⟩
theorem adL {n:Nat} {a0:zi} {r:Bool} (hm:aaQ n a0=some r):
    call G n 227 [.agg (zc17 a0)] []=some (.ret (aB r),[]):=by
  unfold aaQ at hm
  obtain ⟨n,rfl,h0⟩:=zB hm
  replace hm:=h0; clear h0
  refine Zr 70 [(0,.agg (zc17 a0))] func227 rfl (by kernel_rfl) (sq (det [(1,.ptr 0 0)] [.box (zc17 a0) false] (by kernel_rfl) ?_))
  obtain ⟨k2,hk2,hm⟩:=zz hm
  refine mid (fun t H=>(∃ (y1:Bool),k2 y1=some r∧t=mk 70 [(1,.ptr 0 0),(3,aB y1)]∧H=[.box (zc17 a0) false])) ?_ ?_
  ·
   rintro _ _ ⟨y1,hm,rfl,rfl⟩
   subst hk2
   refine sq (sq (dn [(1,.ptr 0 0),(3,aB y1),(14,aI a0.fKind)] (bq ?_)))
   refine sq (bq ?_)
   refine sq (bq ?_)
   obtain ⟨k6,hk6,hm⟩:=zz hm
   refine mid (fun t H=>(∃ (w3:AV) (w4:AV) (w5:AV),k6 ()=some r∧t=mk 70 [(1,.ptr 0 0),(3,aB y1),(14,w3),(19,w4),(43,w5)]∧H=[.box (zc17 a0) false])) ?_ ?_
   ·
    rintro _ _ ⟨w3,w4,w5,hm,rfl,rfl⟩
    subst hk6
    refine sq (sq (rg (s1 2 [(45,aB y1),(44,aB y1)] ?_)))
    refine segP y1 [45,44,3] (fun b=>[(49,aB (b && (sEq a0.fText ByteArray.empty))),(48,ifA b (aB (sEq a0.fText ByteArray.empty)) (.undef)),(47,ifA b (aS a0.fText) (.undef)),(46,ifA b (.ptr 0 3) (.undef))]) 4 (by kernel_rfl) (by kernel_rfl) (by kernel_rfl) (fq 1 [(2,aB (y1 && (sEq a0.fText ByteArray.empty)))] (wp_ret ?_))
    obtain rfl:=Option.some.inj hm
    exact ⟨trivial,by kernel_rfl⟩
   refine bq ?_
   refine sq (bq ?_)
   refine sq (bq (sq ?_))
   refine sq (sq (dn [(1,.ptr 0 0),(3,aB y1),(14,aI a0.fKind),(15,aB (a0.fKind == 0))] ?_))
   rcases zo hm with ⟨h7,hm⟩ | ⟨h7,hm⟩
   ·
    refine c1 h7 (wp_exit (sq (sq (rg (s1 4 [(28,aB (a0.fInt == 0)),(27,aB (a0.fInt == 0)),(26,aI a0.fInt),(25,.ptr 0 1)] ?_)))))
    refine segP (a0.fInt == 0) [28,27] (fun b=>[(30,aB (b && y1)),(29,ifA b (aB y1) (.undef))]) 2 (by kernel_rfl) (by kernel_rfl) (by kernel_rfl) (s1 1 [(31,aB ((a0.fInt == 0) && y1))] ?_)
    refine segP ((a0.fInt == 0) && y1) [31,30] (fun b=>[(35,aB (b && (sEq a0.fText ByteArray.empty))),(34,ifA b (aB (sEq a0.fText ByteArray.empty)) (.undef)),(33,ifA b (aS a0.fText) (.undef)),(32,ifA b (.ptr 0 3) (.undef))]) 4 (by kernel_rfl) (by kernel_rfl) (by kernel_rfl) (fq 1 [(2,aB (((a0.fInt == 0) && y1) && (sEq a0.fText ByteArray.empty)))] (wp_ret ?_))
    obtain rfl:=Option.some.inj hm
    exact ⟨trivial,by kernel_rfl⟩
   ·
    refine c0 h7 (wp_skip (sq (sq (dn [(1,.ptr 0 0),(3,aB y1),(14,aI a0.fKind),(17,aB (a0.fKind == 1))] ?_))))
    rcases zo hm with ⟨h8,hm⟩ | ⟨h8,hm⟩
    ·
     refine c1 h8 (wp_exit (sq (rg (s1 4 [(39,aB (a0.fInt != 0)),(38,aB (a0.fInt != 0)),(37,aI a0.fInt),(36,.ptr 0 1)] ?_))))
     refine segP (a0.fInt != 0) [39,38] (fun b=>[(43,aB (b && (a0.fInt != 1))),(42,ifA b (aB (a0.fInt != 1)) (.undef)),(41,ifA b (aI a0.fInt) (.undef)),(40,ifA b (.ptr 0 1) (.undef))]) 4 (by kernel_rfl) (by kernel_rfl) (by kernel_rfl) (fin [(1,.ptr 0 0),(3,aB y1),(43,aB ((a0.fInt != 0) && (a0.fInt != 1)))] rfl (by kernel_rfl) ?_)
     rcases zo hm with ⟨h9,hm⟩ | ⟨h9,hm⟩
     ·
      refine c1 h9 (sq (dn [(2,aB false)] (wp_ret ?_)))
      obtain rfl:=Option.some.inj hm
      exact ⟨trivial,by kernel_rfl⟩
     ·
      refine c0 h9 (wp_skip ?_)
      exact ⟨.any,.any,aB ((a0.fInt != 0) && (a0.fInt != 1)),hm,(Zk (by kernel_rfl)),rfl⟩
    ·
     refine c0 h8 (wp_skip (sq (sq (dn [(1,.ptr 0 0),(3,aB y1),(14,aI a0.fKind),(19,aB (a0.fKind == 2))] ?_))))
     rcases zo hm with ⟨h10,hm⟩ | ⟨h10,hm⟩
     ·
      refine c1 h10 (wp_exit ?_)
      exact ⟨aI a0.fKind,aB (a0.fKind == 2),.any,hm,(Zk (by kernel_rfl)),rfl⟩
     ·
      refine c0 h10 (wp_skip (sq (sq (dn [(1,.ptr 0 0),(3,aB y1),(14,aI a0.fKind),(21,aB (a0.fKind == 3))] ?_))))
      rcases zo hm with ⟨h11,hm⟩ | ⟨h11,hm⟩
      ·
       refine c1 h11 (wp_exit (sq (sq (rg (s1 4 [(53,aB (a0.fInt == 0)),(52,aB (a0.fInt == 0)),(51,aI a0.fInt),(50,.ptr 0 1)] ?_)))))
       refine segP (a0.fInt == 0) [53,52] (fun b=>[(57,aB (b && (sEq a0.fText ByteArray.empty))),(56,ifA b (aB (sEq a0.fText ByteArray.empty)) (.undef)),(55,ifA b (aS a0.fText) (.undef)),(54,ifA b (.ptr 0 3) (.undef))]) 4 (by kernel_rfl) (by kernel_rfl) (by kernel_rfl) (fq 1 [(2,aB ((a0.fInt == 0) && (sEq a0.fText ByteArray.empty)))] (wp_ret ?_))
       obtain rfl:=Option.some.inj hm
       exact ⟨trivial,by kernel_rfl⟩
      ·
       refine c0 h11 (wp_skip (sq (dn [(1,.ptr 0 0),(3,aB y1),(23,aB (a0.fKind == 4))] ?_)))
       rcases zo hm with ⟨h12,hm⟩ | ⟨h12,hm⟩
       ·
        refine c1 h12 (wp_exit (sq (sq (rg (s1 4 [(61,aB (a0.fInt == 0)),(60,aB (a0.fInt == 0)),(59,aI a0.fInt),(58,.ptr 0 1)] ?_)))))
        refine segP (a0.fInt == 0) [61,60] (fun b=>[(63,aB (b && y1)),(62,ifA b (aB y1) (.undef))]) 2 (by kernel_rfl) (by kernel_rfl) (by kernel_rfl) (s1 1 [(64,aB ((a0.fInt == 0) && y1))] ?_)
        refine segP ((a0.fInt == 0) && y1) [64,63] (fun b=>[(69,aB (b && (decide ((a0.fText.size:Int)≤64)))),(68,ifA b (aB (decide ((a0.fText.size:Int)≤64))) (.undef)),(67,ifA b (aI (a0.fText.size:Int)) (.undef)),(66,ifA b (aS a0.fText) (.undef)),(65,ifA b (.ptr 0 3) (.undef))]) 5 (by kernel_rfl) (by kernel_rfl) (by kernel_rfl) (fq 1 [(2,aB (((a0.fInt == 0) && y1) && (decide ((a0.fText.size:Int)≤64))))] (wp_ret ?_))
        obtain rfl:=Option.some.inj hm
        exact ⟨trivial,by kernel_rfl⟩
       ·
        refine c0 h12 (wp_skip (wp_exit (sq (dn [(2,aB false)] (wp_ret ?_)))))
        obtain rfl:=Option.some.inj hm
        exact ⟨trivial,by kernel_rfl⟩
  refine rg (s1 4 [(7,aB ((FloatKind.format .f64).order a0.fFloat 0 == some .eq)),(6,aB ((FloatKind.format .f64).order a0.fFloat 0 == some .eq)),(5,aF a0.fFloat),(4,.ptr 0 2)] ?_)
  rcases zo hm with ⟨h13,hm⟩ | ⟨h13,hm⟩
  ·
   refine known [7,6] h13 (by kernel_rfl) (s1 2 [(9,aF a0.fFloat),(8,.ptr 0 2)] ?_)
   obtain ⟨x14,h15,hm⟩:=bs hm
   refine dv 10 (zE (by kernel_rfl) (agD h15) (by kernel_rfl) (by kernel_rfl) (by kernel_rfl)) (by kernel_rfl) (fq 3 [(1,.ptr 0 0),(3,aB (!x14))] ?_)
   exact ⟨(!x14),hm,rfl,rfl⟩
  ·
   refine known [7,6] h13 (by kernel_rfl) (fq 6 [(1,.ptr 0 0),(3,aB false)] ?_)
   exact ⟨false,hm,rfl,rfl⟩
theorem ahI {n:Nat} {a0:zj} {r:Bool} (hm:abM n a0=some r):
    call G n 226 [.agg (zc4 a0)] []=some (.ret (aB r),[]):=by
  unfold abM at hm
  obtain ⟨n,rfl,h0⟩:=zB hm
  replace hm:=h0; clear h0
  refine Zr 45 [(0,.agg (zc4 a0))] func226 rfl (by kernel_rfl) (sq (det [(1,.ptr 0 0)] [.box (zc4 a0) false] (by kernel_rfl) (sq (dn [(1,.ptr 0 0),(3,.pv (.fn 249 [] []))] ?_))))
  refine sq (sq (rg (s1 4 [(7,aB (a0.fKind != 1)),(6,aB (a0.fKind != 1)),(5,aI a0.fKind),(4,.ptr 0 0)] ?_)))
  refine seg (a0.fKind != 1) [7,6] (fun b=>[(16,aB (b && ((a0.fRel != 0) || (a0.fCol != 0)))),(15,ifA b (aB ((a0.fRel != 0) || (a0.fCol != 0))) (.undef)),(14,ifA b (ifA (a0.fRel != 0) (.undef) (aB (a0.fCol != 0))) (.undef)),(13,ifA b (ifA (a0.fRel != 0) (.undef) (aI a0.fCol)) (.undef)),(12,ifA b (ifA (a0.fRel != 0) (.undef) (.ptr 0 2)) (.undef)),(11,ifA b (aB (a0.fRel != 0)) (.undef)),(10,ifA b (aB (a0.fRel != 0)) (.undef)),(9,ifA b (aI a0.fRel) (.undef)),(8,ifA b (.ptr 0 1) (.undef))]) 13 (by kernel_rfl) ?_ ?_ ?_
  ·
   intro Q h
   refine s1 4 [(11,aB (a0.fRel != 0)),(10,aB (a0.fRel != 0)),(9,aI a0.fRel),(8,.ptr 0 1)] ?_
   refine segP (a0.fRel != 0) [11,10] (fun b=>[(15,aB (b || (a0.fCol != 0))),(14,ifA b (.undef) (aB (a0.fCol != 0))),(13,ifA b (.undef) (aI a0.fCol)),(12,ifA b (.undef) (.ptr 0 2))]) 4 (by kernel_rfl) (by kernel_rfl) (by kernel_rfl) (s1 1 [(16,aB ((a0.fRel != 0) || (a0.fCol != 0)))] ?_)
   exact ZB (by kernel_rfl) (by kernel_rfl) h
  ·
   intro Q h
   refine s1 9 [(16,aB false),(15,.undef),(14,.undef),(13,.undef),(12,.undef),(11,.undef),(10,.undef),(9,.undef),(8,.undef)] ?_
   exact ZB (by kernel_rfl) (by kernel_rfl) h
  refine s1 1 [(17,aB ((a0.fKind != 1) && ((a0.fRel != 0) || (a0.fCol != 0))))] ?_
  rcases zo hm with ⟨h1,hm⟩ | ⟨h1,hm⟩
  ·
   refine known [17,16] h1 (by kernel_rfl) (fq 13 [(1,.ptr 0 0),(30,aB true)] (cT (by kernel_rfl) (sq (dn [(2,aB false)] (wp_ret ?_)))))
   obtain rfl:=Option.some.inj hm
   exact ⟨trivial,by kernel_rfl⟩
  ·
   refine known [17,16] h1 (by kernel_rfl) (s1 3 [(20,aI a0.fRel),(19,.ptr 0 1),(18,.pv (.fn 249 [] []))] ?_)
   obtain ⟨x2,h3,hm⟩:=bs hm
   refine dv 21 (zE (by kernel_rfl) (adj h3) (by kernel_rfl) (by kernel_rfl) (by kernel_rfl)) (by kernel_rfl) (s1 3 [(24,aB (!x2)),(23,aB (!x2)),(22,aB (!x2))] ?_)
   rcases zo hm with ⟨h4,hm⟩ | ⟨h4,hm⟩
   ·
    refine known [24,23,22] h4 (by kernel_rfl) (fq 6 [(1,.ptr 0 0),(30,aB true)] (cT (by kernel_rfl) (sq (dn [(2,aB false)] (wp_ret ?_)))))
    obtain rfl:=Option.some.inj hm
    exact ⟨trivial,by kernel_rfl⟩
   ·
    refine known [24,23,22] h4 (by kernel_rfl) (s1 3 [(27,aI a0.fCol),(26,.ptr 0 2),(25,.pv (.fn 249 [] []))] ?_)
    obtain ⟨x5,h6,hm⟩:=bs hm
    refine dv 28 (zE (by kernel_rfl) (adj h6) (by kernel_rfl) (by kernel_rfl) (by kernel_rfl)) (by kernel_rfl) (fq 2 [(1,.ptr 0 0),(30,aB (!x5))] ?_)
    rcases zo hm with ⟨h7,hm⟩ | ⟨h7,hm⟩
    ·
     refine c1 h7 (sq (dn [(2,aB false)] (wp_ret ?_)))
     obtain rfl:=Option.some.inj hm
     exact ⟨trivial,by kernel_rfl⟩
    ·
     refine c0 h7 (wp_skip (sq (rg (s1 2 [(32,.agg (zc18 a0)),(31,.ptr 0 3)] ?_))))
     obtain ⟨x8,h9,hm⟩:=bs hm
     refine dv 33 (zE (by kernel_rfl) (adL h9) (by kernel_rfl) (by kernel_rfl) (by kernel_rfl)) (by kernel_rfl) (s1 1 [(34,aB x8)] ?_)
     refine seg x8 [34,33] (fun b=>[(44,aB (b && ((a0.fKind == 2) || (a0.fConst.fKind == 0)))),(43,ifA b (aB ((a0.fKind == 2) || (a0.fConst.fKind == 0))) (.undef)),(42,ifA b (ifA (a0.fKind == 2) (.undef) (aB (a0.fConst.fKind == 0))) (.undef)),(41,ifA b (ifA (a0.fKind == 2) (.undef) (aI a0.fConst.fKind)) (.undef)),(40,ifA b (ifA (a0.fKind == 2) (.undef) (.ptr 0 3)) (.undef)),(39,ifA b (ifA (a0.fKind == 2) (.undef) (.ptr 0 3)) (.undef)),(38,ifA b (aB (a0.fKind == 2)) (.undef)),(37,ifA b (aB (a0.fKind == 2)) (.undef)),(36,ifA b (aI a0.fKind) (.undef)),(35,ifA b (.ptr 0 0) (.undef))]) 14 (by kernel_rfl) ?_ ?_ ?_
     ·
      intro Q h
      refine s1 4 [(38,aB (a0.fKind == 2)),(37,aB (a0.fKind == 2)),(36,aI a0.fKind),(35,.ptr 0 0)] ?_
      refine segP (a0.fKind == 2) [38,37] (fun b=>[(43,aB (b || (a0.fConst.fKind == 0))),(42,ifA b (.undef) (aB (a0.fConst.fKind == 0))),(41,ifA b (.undef) (aI a0.fConst.fKind)),(40,ifA b (.undef) (.ptr 0 3)),(39,ifA b (.undef) (.ptr 0 3))]) 5 (by kernel_rfl) (by kernel_rfl) (by kernel_rfl) (s1 1 [(44,aB ((a0.fKind == 2) || (a0.fConst.fKind == 0)))] ?_)
      exact ZB (by kernel_rfl) (by kernel_rfl) h
     ·
      intro Q h
      refine s1 10 [(44,aB false),(43,.undef),(42,.undef),(41,.undef),(40,.undef),(39,.undef),(38,.undef),(37,.undef),(36,.undef),(35,.undef)] ?_
      exact ZB (by kernel_rfl) (by kernel_rfl) h
     refine fq 1 [(2,aB (x8 && ((a0.fKind == 2) || (a0.fConst.fKind == 0))))] (wp_ret ?_)
     obtain rfl:=Option.some.inj hm
     exact ⟨trivial,by kernel_rfl⟩
theorem ahz {rc_expr_count:(Nat→zj→Int→Int→Option (Int))} (ih_expr_count:∀ {n:Nat} {a0:zj} {a1:Int} {a2:Int} {r:Int} (hm:rc_expr_count n a0 a1 a2=some r),call G n 182 [.agg [aI a0.fKind,aI a0.fRel,aI a0.fCol,aI a0.fConst.fKind,aI a0.fConst.fInt,aF a0.fConst.fFloat,aS a0.fConst.fText,.pv (zh zb a0.fKids)],aI a1,aI a2] []=some (.ret (aI r),[])) {n:Nat} {a0:zj} {a1:Int} {a2:Int} {r:Int} (hm:QH rc_expr_count n a0 a1 a2=some r):
    call G n 182 [.agg (zc4 a0),aI a1,aI a2] []=some (.ret (aI r),[]):=by
  unfold QH at hm
  obtain ⟨n,rfl,h0⟩:=zB hm
  replace hm:=h0; clear h0
  refine Zr 47 [(0,.agg (zc4 a0)),(1,aI a1),(2,aI a2)] func182 rfl (by kernel_rfl) (sq (det [(1,aI a1),(2,aI a2),(3,.ptr 0 0)] [.box (zc4 a0) false] (by kernel_rfl) ?_))
  refine sq (sq (rgd (shd 3 [(11,aB (decide (a1 > 24))),(10,aB (decide (a1 > 24))),(9,aI a1)] (by kernel_rfl) ?_)))
  rcases zo hm with ⟨h1,hm⟩ | ⟨h1,hm⟩
  ·
   refine Zs [11,10] h1 (by kernel_rfl) (shd 17 [(28,aB true),(27,.undef),(26,.undef),(25,.undef),(24,aB true),(23,aB true),(22,.undef),(21,.undef),(20,.undef),(19,.undef),(18,.undef),(17,.undef),(16,.undef),(15,aB true),(14,aB true),(13,.undef),(12,.undef)] (by kernel_rfl) (find [(1,aI a1),(2,aI a2),(3,.ptr 0 0),(28,aB true)] rfl (by kernel_rfl) (by kernel_rfl) (cT (by kernel_rfl) (sq (dn [(6,aI (-1))] (wp_ret ?_))))))
   obtain rfl:=Option.some.inj hm
   exact ⟨trivial,by kernel_rfl⟩
  ·
   refine Zs [11,10] h1 (by kernel_rfl) (shd 4 [(15,aB (decide (a2 < 1))),(14,aB (decide (a2 < 1))),(13,aB (decide (a2 < 1))),(12,aI a2)] (by kernel_rfl) ?_)
   rcases zo hm with ⟨h2,hm⟩ | ⟨h2,hm⟩
   ·
    refine Zs [15,14,13] h2 (by kernel_rfl) (shd 13 [(28,aB true),(27,.undef),(26,.undef),(25,.undef),(24,aB true),(23,aB true),(22,.undef),(21,.undef),(20,.undef),(19,.undef),(18,.undef),(17,.undef),(16,.undef)] (by kernel_rfl) (find [(1,aI a1),(2,aI a2),(3,.ptr 0 0),(28,aB true)] rfl (by kernel_rfl) (by kernel_rfl) (cT (by kernel_rfl) (sq (dn [(6,aI (-1))] (wp_ret ?_))))))
    obtain rfl:=Option.some.inj hm
    exact ⟨trivial,by kernel_rfl⟩
   ·
    refine Zs [15,14,13] h2 (by kernel_rfl) (shd 2 [(17,aI a0.fKind),(16,.ptr 0 0)] (by kernel_rfl) ?_)
    obtain ⟨x3,h4,hm⟩:=bs hm
    refine dvd 18 (zE (by kernel_rfl) (ajt h4) (by kernel_rfl) (by kernel_rfl) (by kernel_rfl)) (by kernel_rfl) (shd 2 [(20,.pv (zh zb a0.fKids)),(19,.ptr 0 7)] (by kernel_rfl) (dvd 21 (v:=aI ((sll a0.fKids).length:Int)) (zy zb a0.fKids t23 (by kernel_rfl)) (by kernel_rfl) (shd 3 [(24,aB (x3 != ((sll a0.fKids).length:Int))),(23,aB (x3 != ((sll a0.fKids).length:Int))),(22,aB (x3 != ((sll a0.fKids).length:Int)))] (by kernel_rfl) ?_)))
    rcases zo hm with ⟨h5,hm⟩ | ⟨h5,hm⟩
    ·
     refine Zs [24,23,22] h5 (by kernel_rfl) (shd 4 [(28,aB true),(27,.undef),(26,.undef),(25,.undef)] (by kernel_rfl) (find [(1,aI a1),(2,aI a2),(3,.ptr 0 0),(28,aB true)] rfl (by kernel_rfl) (by kernel_rfl) (cT (by kernel_rfl) (sq (dn [(6,aI (-1))] (wp_ret ?_))))))
     obtain rfl:=Option.some.inj hm
     exact ⟨trivial,by kernel_rfl⟩
    ·
     refine Zs [24,23,22] h5 (by kernel_rfl) (shd 1 [(25,.agg (zc4 a0))] (by kernel_rfl) ?_)
     obtain ⟨x6,h7,hm⟩:=bs hm
     refine dvd 26 (zE (by kernel_rfl) (ahI h7) (by kernel_rfl) (by kernel_rfl) (by kernel_rfl)) (by kernel_rfl) (shd 2 [(28,aB (!x6)),(27,aB (!x6))] (by kernel_rfl) (find [(1,aI a1),(2,aI a2),(3,.ptr 0 0),(28,aB (!x6))] rfl (by kernel_rfl) (by kernel_rfl) ?_))
     rcases zo hm with ⟨h8,hm⟩ | ⟨h8,hm⟩
     ·
      refine c1 h8 (sq (dn [(6,aI (-1))] (wp_ret ?_)))
      obtain rfl:=Option.some.inj hm
      exact ⟨trivial,by kernel_rfl⟩
     ·
      refine c0 h8 (wp_skip (sq (dn [(1,aI a1),(2,aI (IntKind.wrap .i64 (a2 - 1))),(3,.ptr 0 0)] ?_)))
      obtain ⟨k12,hk12,hm⟩:=zz hm
      refine mid (fun t H=>(∃ (y9:Int) (y10:Int) (y11:Bool),k12 y9=some r∧t=mk 47 [(1,aI a1),(2,aI y9),(32,.pv (zh zb a0.fKids)),(33,aI ((sll a0.fKids).length:Int)),(34,aI y10),(35,aB y11)]∧H=[.box (zc4 a0) false])) ?_ ?_
      ·
       rintro _ _ ⟨y9,y10,y11,hm,rfl,rfl⟩
       subst hk12
       refine sq (dn [(6,aI y9)] (wp_ret ?_))
       obtain rfl:=Option.some.inj hm
       exact ⟨trivial,by kernel_rfl⟩
      refine sq (rg (s1 2 [(32,.pv (zh zb a0.fKids)),(31,.ptr 0 7)] (dv 33 (v:=aI ((sll a0.fKids).length:Int)) (zy zb a0.fKids t23 (by kernel_rfl)) (by kernel_rfl) (fq 1 [(1,aI a1),(2,aI (IntKind.wrap .i64 (a2 - 1))),(32,.pv (zh zb a0.fKids)),(33,aI ((sll a0.fKids).length:Int)),(34,aI 0)] (bq ?_)))))
      refine ZY (fun mm t H=>(∃ (y15:Int) (y16:Int),QX n rc_expr_count a0 a1 k12 mm y15 y16=some r∧t=mk 47 [(1,aI a1),(2,aI y15),(32,.pv (zh zb a0.fKids)),(33,aI ((sll a0.fKids).length:Int)),(34,aI y16)]∧H=[.box (zc4 a0) false])) (⟨(IntKind.wrap .i64 (a2 - 1)),0,hm,rfl,rfl⟩) ?_ ?_
      · rintro _ _ ⟨y15,y16,hm,_⟩; exact nomatch hm
      rintro m17 _ _ ⟨y15,y16,hm,rfl,rfl⟩
      simp only [QX] at hm
      refine sq (dn [(1,aI a1),(2,aI y15),(32,.pv (zh zb a0.fKids)),(33,aI ((sll a0.fKids).length:Int)),(34,aI y16),(35,aB (decide (y16 < ((sll a0.fKids).length:Int))))] ?_)
      refine sq ?_
      rcases zo hm with ⟨h18,hm⟩ | ⟨h18,hm⟩
      ·
       refine c1 h18 (wp_skip (sq (bq (sq (rg ?_)))))
       obtain ⟨x19,h20,hm⟩:=bs hm
       refine dv 36 (v:=.pv (.ptr (zC (za x19)) 0)) (Zd zb a0.fKids .i64 t23 t49 h20 (zx x19) rfl (by kernel_rfl)) (by kernel_rfl) (stf 3 [(1,aI a1),(2,aI y15),(8,.ptr 1 0),(32,.pv (zh zb a0.fKids)),(33,aI ((sll a0.fKids).length:Int)),(34,aI y16)] [.box (zc4 a0) false,.box (zc8 x19) false] (by kernel_rfl) (sq (rg (s1 4 [(41,aI y15),(40,aI (IntKind.wrap .i64 (a1+1))),(39,aI a1),(38,.agg (zc8 x19))] ?_))))
       obtain ⟨x21,h22,hm⟩:=bs hm
       refine dv 42 (zE (by kernel_rfl) (ih_expr_count h22) (by kernel_rfl) (by kernel_rfl) (by kernel_rfl)) (by kernel_rfl) (fq 1 [(1,aI a1),(2,aI x21),(32,.pv (zh zb a0.fKids)),(33,aI ((sll a0.fKids).length:Int)),(34,aI y16)] (sq (dn [(1,aI a1),(2,aI x21),(32,.pv (zh zb a0.fKids)),(33,aI ((sll a0.fKids).length:Int)),(34,aI y16),(44,aB (decide (x21 < 0)))] ?_)))
       rcases zo hm with ⟨h23,hm⟩ | ⟨h23,hm⟩
       ·
        refine c1 h23 (sq (dn [(6,aI (-1))] (wp_ret ?_)))
        obtain rfl:=Option.some.inj hm
        exact ⟨trivial,by kernel_rfl⟩
       ·
        refine c0 h23 (wp_skip (dn [(1,aI a1),(2,aI x21),(32,.pv (zh zb a0.fKids)),(33,aI ((sll a0.fKids).length:Int)),(34,aI (IntKind.wrap .i64 (y16+1)))] ?_))
        exact ⟨_,_,Zh [(1,aI a1),(2,aI x21),(32,.pv (zh zb a0.fKids)),(33,aI ((sll a0.fKids).length:Int)),(34,aI (IntKind.wrap .i64 (y16+1)))] [.box (zc4 a0) false] (by kernel_rfl),⟨x21,(IntKind.wrap .i64 (y16+1)),hm,rfl,rfl⟩⟩
      ·
       refine c0 h18 (wp_exit ?_)
       exact ⟨y15,y16,(decide (y16 < ((sll a0.fKids).length:Int))),hm,rfl,rfl⟩
theorem adR:∀ (m:Nat),∀ {n:Nat} {a0:zj} {a1:Int} {a2:Int} {r:Int} (hm:qL m n a0 a1 a2=some r),call G n 182 [.agg (zc4 a0),aI a1,aI a2] []=some (.ret (aI r),[])
  | 0=>by intros; rename_i hm; exact nomatch hm
  | m+1=>fun hm=>
    ahz (adR m) hm
theorem aiy {n:Nat} {a0:zj} {a1:Int} {a2:Int} {r:Int} (hm:afm n a0 a1 a2=some r):
    call G n 182 [.agg (zc4 a0),aI a1,aI a2] []=some (.ret (aI r),[]):=adR n hm
theorem aek {n:Nat} {a0:zj} {r:Bool} (hm:aaT n a0=some r):
    call G n 143 [.agg (zc4 a0)] []=some (.ret (aB r),[]):=by
  unfold aaT at hm
  obtain ⟨n,rfl,h0⟩:=zB hm
  replace hm:=h0; clear h0
  refine Zr 6 [(0,.agg (zc4 a0))] func143 rfl (by kernel_rfl) (sq (det [(1,.ptr 0 0)] [.box (zc4 a0) false] (by kernel_rfl) (sq (rg (s1 1 [(3,.agg (zc4 a0))] ?_)))))
  obtain ⟨x1,h2,hm⟩:=bs hm
  refine dv 4 (zE (by kernel_rfl) (aiy h2) (by kernel_rfl) (by kernel_rfl) (by kernel_rfl)) (by kernel_rfl) (fq 2 [(2,aB (decide (x1≥0)))] (wp_ret ?_))
  obtain rfl:=Option.some.inj hm
  exact ⟨trivial,by kernel_rfl⟩
theorem agP {n:Nat} {a0:zj} {r:Bool} (hm:aaq n a0=some r):
    call G n 221 [.agg (zc4 a0)] []=some (.ret (aB r),[]):=by
  unfold aaq at hm
  obtain ⟨n,rfl,h0⟩:=zB hm
  replace hm:=h0; clear h0
  refine Zr 6 [(0,.agg (zc4 a0))] func221 rfl (by kernel_rfl) (sq (det [(1,.ptr 0 0)] [.box (zc4 a0) false] (by kernel_rfl) (sq (rg (s1 1 [(3,.agg (zc4 a0))] ?_)))))
  obtain ⟨x1,h2,hm⟩:=bs hm
  refine dv 4 (zE (by kernel_rfl) (aek h2) (by kernel_rfl) (by kernel_rfl) (by kernel_rfl)) (by kernel_rfl) (fq 2 [(2,aB (!x1))] (wp_ret ?_))
  obtain rfl:=Option.some.inj hm
  exact ⟨trivial,by kernel_rfl⟩
theorem aau {n:Nat} {a0:(Option (List zc))} {r:Int} (hm:ZS n a0=some r):
    call G n 213 [.pv (zh zb a0),.pv (.fn 221 [] [])] []=some (.ret (aI r),[]):=by
  unfold ZS at hm
  obtain ⟨n,rfl,h0⟩:=zB hm
  replace hm:=h0; clear h0
  refine Zr 19 [(0,.pv (zh zb a0)),(1,.pv (.fn 221 [] []))] func213 rfl (by kernel_rfl) (sq (dn [(0,.pv (zh zb a0)),(1,.pv (.fn 221 [] []))] ?_))
  obtain ⟨k3,hk3,hm⟩:=zz hm
  refine mid (fun t H=>(∃ (y1:Int) (y2:Bool),k3 ()=some r∧t=mk 19 [(0,.pv (zh zb a0)),(1,.pv (.fn 221 [] [])),(7,aI ((sll a0).length:Int)),(8,aI y1),(9,aB y2)]∧H=[])) ?_ ?_
  ·
   rintro _ _ ⟨y1,y2,hm,rfl,rfl⟩
   subst hk3
   refine sq (dn [(4,aI (-1))] (wp_ret ?_))
   obtain rfl:=Option.some.inj hm
   exact ⟨trivial,by kernel_rfl⟩
  refine sq (rg (s1 1 [(6,.pv (zh zb a0))] (dv 7 (v:=aI ((sll a0).length:Int)) (zy zb a0 t23 (by kernel_rfl)) (by kernel_rfl) (fq 1 [(0,.pv (zh zb a0)),(1,.pv (.fn 221 [] [])),(7,aI ((sll a0).length:Int)),(8,aI 0)] (bq ?_)))))
  refine ZY (fun mm t H=>(∃ (y5:Int),zH n a0 k3 mm y5=some r∧t=mk 19 [(0,.pv (zh zb a0)),(1,.pv (.fn 221 [] [])),(7,aI ((sll a0).length:Int)),(8,aI y5)]∧H=[])) (⟨0,hm,rfl,rfl⟩) ?_ ?_
  · rintro _ _ ⟨y5,hm,_⟩; exact nomatch hm
  rintro m6 _ _ ⟨y5,hm,rfl,rfl⟩
  simp only [zH] at hm
  refine sq (dn [(0,.pv (zh zb a0)),(1,.pv (.fn 221 [] [])),(7,aI ((sll a0).length:Int)),(8,aI y5),(9,aB (decide (y5 < ((sll a0).length:Int))))] ?_)
  refine sq ?_
  rcases zo hm with ⟨h7,hm⟩ | ⟨h7,hm⟩
  ·
   refine c1 h7 (wp_skip (sq (bq (sq (dn [(0,.pv (zh zb a0)),(1,.pv (.fn 221 [] [])),(5,aI y5),(7,aI ((sll a0).length:Int)),(8,aI y5)] (sq (rg (s1 3 [(13,aI y5),(12,.pv (zh zb a0)),(11,.pv (.fn 221 [] []))] ?_))))))))
   obtain ⟨x8,h9,hm⟩:=bs hm
   refine dv 14 (v:=.pv (.ptr (zC (za x8)) 0)) (Zd zb a0 .i64 t23 t49 h9 (zx x8) rfl (by kernel_rfl)) (by kernel_rfl) (s1 1 [(15,.agg (zc8 x8))] ?_)
   obtain ⟨x10,h11,hm⟩:=bs hm
   refine dv 16 (zE (by kernel_rfl) (agP h11) (by kernel_rfl) (by kernel_rfl) (by kernel_rfl)) (by kernel_rfl) (fin [(0,.pv (zh zb a0)),(1,.pv (.fn 221 [] [])),(5,aI y5),(7,aI ((sll a0).length:Int)),(8,aI y5),(16,aB x10)] rfl (by kernel_rfl) ?_)
   rcases zo hm with ⟨h12,hm⟩ | ⟨h12,hm⟩
   ·
    refine c1 h12 (sq (dn [(4,aI y5)] (wp_ret ?_)))
    obtain rfl:=Option.some.inj hm
    exact ⟨trivial,by kernel_rfl⟩
   ·
    refine c0 h12 (wp_skip (dn [(0,.pv (zh zb a0)),(1,.pv (.fn 221 [] [])),(7,aI ((sll a0).length:Int)),(8,aI (IntKind.wrap .i64 (y5+1)))] ?_))
    exact ⟨_,_,Zh [(0,.pv (zh zb a0)),(1,.pv (.fn 221 [] [])),(7,aI ((sll a0).length:Int)),(8,aI (IntKind.wrap .i64 (y5+1)))] [] (by kernel_rfl),⟨(IntKind.wrap .i64 (y5+1)),hm,rfl,rfl⟩⟩
  ·
   refine c0 h7 (wp_exit ?_)
   exact ⟨y5,(decide (y5 < ((sll a0).length:Int))),hm,rfl,rfl⟩
theorem Q3 {n:Nat} {a0:(Option (List zc))} {r:Bool} (hm:Zc n a0=some r):
    call G n 220 [.pv (zh zb a0),.pv (.fn 221 [] [])] []=some (.ret (aB r),[]):=by
  unfold Zc at hm
  obtain ⟨n,rfl,h0⟩:=zB hm
  replace hm:=h0; clear h0
  refine Zr 9 [(0,.pv (zh zb a0)),(1,.pv (.fn 221 [] []))] func220 rfl (by kernel_rfl) (sq (dn [(0,.pv (zh zb a0)),(1,.pv (.fn 221 [] []))] (sq (rg (s1 2 [(6,.pv (.fn 221 [] [])),(5,.pv (zh zb a0))] ?_)))))
  obtain ⟨x1,h2,hm⟩:=bs hm
  refine dv 7 (zE (by kernel_rfl) (aau h2) (by kernel_rfl) (by kernel_rfl) (by kernel_rfl)) (by kernel_rfl) (fq 2 [(4,aB (decide (x1≥0)))] (wp_ret ?_))
  obtain rfl:=Option.some.inj hm
  exact ⟨trivial,by kernel_rfl⟩
abbrev zc19 (p0:zr):List AV:=[aI p0.fKind,aI p0.fOf.fKind,aI p0.fOf.fRel,aI p0.fOf.fCol,aI p0.fOf.fConst.fKind,aI p0.fOf.fConst.fInt,aF p0.fOf.fConst.fFloat,aS p0.fOf.fConst.fText,.pv (zh zb p0.fOf.fKids)]
theorem agK {n:Nat} {a0:zr} {r:Bool} (hm:aa9 n a0=some r):
    call G n 222 [.agg (zc19 a0)] []=some (.ret (aB r),[]):=by
  unfold aa9 at hm
  obtain ⟨n,rfl,h0⟩:=zB hm
  replace hm:=h0; clear h0
  refine Zr 17 [(0,.agg (zc19 a0))] func222 rfl (by kernel_rfl) (sq (det [(1,.ptr 0 0)] [.box (zc19 a0) false] (by kernel_rfl) (sq (rg (s1 4 [(6,aB (decide (a0.fKind < 1))),(5,aB (decide (a0.fKind < 1))),(4,aI a0.fKind),(3,.ptr 0 0)] ?_)))))
  refine segP (decide (a0.fKind < 1)) [6,5] (fun b=>[(10,aB (b || (decide (a0.fKind > 4)))),(9,ifA b (.undef) (aB (decide (a0.fKind > 4)))),(8,ifA b (.undef) (aI a0.fKind)),(7,ifA b (.undef) (.ptr 0 0))]) 4 (by kernel_rfl) (by kernel_rfl) (by kernel_rfl) (s1 1 [(11,aB ((decide (a0.fKind < 1)) || (decide (a0.fKind > 4))))] ?_)
  rcases zo hm with ⟨h1,hm⟩ | ⟨h1,hm⟩
  ·
   refine known [11,10] h1 (by kernel_rfl) (fq 6 [(2,aB true)] (wp_ret ?_))
   obtain rfl:=Option.some.inj hm
   exact ⟨trivial,by kernel_rfl⟩
  ·
   refine known [11,10] h1 (by kernel_rfl) (s1 2 [(13,.agg (zc1 a0)),(12,.ptr 0 1)] ?_)
   obtain ⟨x2,h3,hm⟩:=bs hm
   refine dv 14 (zE (by kernel_rfl) (aek h3) (by kernel_rfl) (by kernel_rfl) (by kernel_rfl)) (by kernel_rfl) (fq 3 [(2,aB (!x2))] (wp_ret ?_))
   obtain rfl:=Option.some.inj hm
   exact ⟨trivial,by kernel_rfl⟩
theorem aaB {n:Nat} {a0:(Option (List zr))} {r:Int} (hm:ZZ n a0=some r):
    call G n 180 [.pv (zh zn a0),.pv (.fn 222 [] [])] []=some (.ret (aI r),[]):=by
  unfold ZZ at hm
  obtain ⟨n,rfl,h0⟩:=zB hm
  replace hm:=h0; clear h0
  refine Zr 19 [(0,.pv (zh zn a0)),(1,.pv (.fn 222 [] []))] func180 rfl (by kernel_rfl) (sq (dn [(0,.pv (zh zn a0)),(1,.pv (.fn 222 [] []))] ?_))
  obtain ⟨k3,hk3,hm⟩:=zz hm
  refine mid (fun t H=>(∃ (y1:Int) (y2:Bool),k3 ()=some r∧t=mk 19 [(0,.pv (zh zn a0)),(1,.pv (.fn 222 [] [])),(7,aI ((sll a0).length:Int)),(8,aI y1),(9,aB y2)]∧H=[])) ?_ ?_
  ·
   rintro _ _ ⟨y1,y2,hm,rfl,rfl⟩
   subst hk3
   refine sq (dn [(4,aI (-1))] (wp_ret ?_))
   obtain rfl:=Option.some.inj hm
   exact ⟨trivial,by kernel_rfl⟩
  refine sq (rg (s1 1 [(6,.pv (zh zn a0))] (dv 7 (v:=aI ((sll a0).length:Int)) (zy zn a0 t24 (by kernel_rfl)) (by kernel_rfl) (fq 1 [(0,.pv (zh zn a0)),(1,.pv (.fn 222 [] [])),(7,aI ((sll a0).length:Int)),(8,aI 0)] (bq ?_)))))
  refine ZY (fun mm t H=>(∃ (y5:Int),zJ n a0 k3 mm y5=some r∧t=mk 19 [(0,.pv (zh zn a0)),(1,.pv (.fn 222 [] [])),(7,aI ((sll a0).length:Int)),(8,aI y5)]∧H=[])) (⟨0,hm,rfl,rfl⟩) ?_ ?_
  · rintro _ _ ⟨y5,hm,_⟩; exact nomatch hm
  rintro m6 _ _ ⟨y5,hm,rfl,rfl⟩
  simp only [zJ] at hm
  refine sq (dn [(0,.pv (zh zn a0)),(1,.pv (.fn 222 [] [])),(7,aI ((sll a0).length:Int)),(8,aI y5),(9,aB (decide (y5 < ((sll a0).length:Int))))] ?_)
  refine sq ?_
  rcases zo hm with ⟨h7,hm⟩ | ⟨h7,hm⟩
  ·
   refine c1 h7 (wp_skip (sq (bq (sq (dn [(0,.pv (zh zn a0)),(1,.pv (.fn 222 [] [])),(5,aI y5),(7,aI ((sll a0).length:Int)),(8,aI y5)] (sq (rg (s1 3 [(13,aI y5),(12,.pv (zh zn a0)),(11,.pv (.fn 222 [] []))] ?_))))))))
   obtain ⟨x8,h9,hm⟩:=bs hm
   refine dv 14 (v:=.pv (.ptr (zn x8) 0)) (qA zn a0 .i64 t24 t101 h9 rfl (by kernel_rfl)) (by kernel_rfl) (s1 1 [(15,.agg (zc19 x8))] ?_)
   obtain ⟨x10,h11,hm⟩:=bs hm
   refine dv 16 (zE (by kernel_rfl) (agK h11) (by kernel_rfl) (by kernel_rfl) (by kernel_rfl)) (by kernel_rfl) (fin [(0,.pv (zh zn a0)),(1,.pv (.fn 222 [] [])),(5,aI y5),(7,aI ((sll a0).length:Int)),(8,aI y5),(16,aB x10)] rfl (by kernel_rfl) ?_)
   rcases zo hm with ⟨h12,hm⟩ | ⟨h12,hm⟩
   ·
    refine c1 h12 (sq (dn [(4,aI y5)] (wp_ret ?_)))
    obtain rfl:=Option.some.inj hm
    exact ⟨trivial,by kernel_rfl⟩
   ·
    refine c0 h12 (wp_skip (dn [(0,.pv (zh zn a0)),(1,.pv (.fn 222 [] [])),(7,aI ((sll a0).length:Int)),(8,aI (IntKind.wrap .i64 (y5+1)))] ?_))
    exact ⟨_,_,Zh [(0,.pv (zh zn a0)),(1,.pv (.fn 222 [] [])),(7,aI ((sll a0).length:Int)),(8,aI (IntKind.wrap .i64 (y5+1)))] [] (by kernel_rfl),⟨(IntKind.wrap .i64 (y5+1)),hm,rfl,rfl⟩⟩
  ·
   refine c0 h7 (wp_exit ?_)
   exact ⟨y5,(decide (y5 < ((sll a0).length:Int))),hm,rfl,rfl⟩
theorem Q9 {n:Nat} {a0:(Option (List zr))} {r:Bool} (hm:Zg n a0=some r):
    call G n 139 [.pv (zh zn a0),.pv (.fn 222 [] [])] []=some (.ret (aB r),[]):=by
  unfold Zg at hm
  obtain ⟨n,rfl,h0⟩:=zB hm
  replace hm:=h0; clear h0
  refine Zr 9 [(0,.pv (zh zn a0)),(1,.pv (.fn 222 [] []))] func139 rfl (by kernel_rfl) (sq (dn [(0,.pv (zh zn a0)),(1,.pv (.fn 222 [] []))] (sq (rg (s1 2 [(6,.pv (.fn 222 [] [])),(5,.pv (zh zn a0))] ?_)))))
  obtain ⟨x1,h2,hm⟩:=bs hm
  refine dv 7 (zE (by kernel_rfl) (aaB h2) (by kernel_rfl) (by kernel_rfl) (by kernel_rfl)) (by kernel_rfl) (fq 2 [(4,aB (decide (x1≥0)))] (wp_ret ?_))
  obtain rfl:=Option.some.inj hm
  exact ⟨trivial,by kernel_rfl⟩
theorem agQ {n:Nat} {a0:zt} {r:Bool} (hm:ab3 n a0=some r):
    call G n 223 [.agg [aI a0.fOut,aB a0.fDesc]] []=some (.ret (aB r),[]):=by
  unfold ab3 at hm
  obtain ⟨n,rfl,h0⟩:=zB hm
  replace hm:=h0; clear h0
  refine Zr 11 [(0,.agg [aI a0.fOut,aB a0.fDesc])] func223 rfl (by kernel_rfl) (sq (det [(1,.ptr 0 0)] [.box [aI a0.fOut,aB a0.fDesc] false] (by kernel_rfl) (sq (rg (s1 4 [(6,aB (decide (a0.fOut < 0))),(5,aB (decide (a0.fOut < 0))),(4,aI a0.fOut),(3,.ptr 0 0)] ?_)))))
  refine segP (decide (a0.fOut < 0)) [6,5] (fun b=>[(10,aB (b || (decide (a0.fOut > 29)))),(9,ifA b (.undef) (aB (decide (a0.fOut > 29)))),(8,ifA b (.undef) (aI a0.fOut)),(7,ifA b (.undef) (.ptr 0 0))]) 4 (by kernel_rfl) (by kernel_rfl) (by kernel_rfl) (fq 1 [(2,aB ((decide (a0.fOut < 0)) || (decide (a0.fOut > 29))))] (wp_ret ?_))
  obtain rfl:=Option.some.inj hm
  exact ⟨trivial,by kernel_rfl⟩
theorem aaA {n:Nat} {a0:(Option (List zt))} {r:Int} (hm:Z0 n a0=some r):
    call G n 181 [.pv (zh zp a0),.pv (.fn 223 [] [])] []=some (.ret (aI r),[]):=by
  unfold Z0 at hm
  obtain ⟨n,rfl,h0⟩:=zB hm
  replace hm:=h0; clear h0
  refine Zr 19 [(0,.pv (zh zp a0)),(1,.pv (.fn 223 [] []))] func181 rfl (by kernel_rfl) (sq (dn [(0,.pv (zh zp a0)),(1,.pv (.fn 223 [] []))] ?_))
  obtain ⟨k3,hk3,hm⟩:=zz hm
  refine mid (fun t H=>(∃ (y1:Int) (y2:Bool),k3 ()=some r∧t=mk 19 [(0,.pv (zh zp a0)),(1,.pv (.fn 223 [] [])),(7,aI ((sll a0).length:Int)),(8,aI y1),(9,aB y2)]∧H=[])) ?_ ?_
  ·
   rintro _ _ ⟨y1,y2,hm,rfl,rfl⟩
   subst hk3
   refine sq (dn [(4,aI (-1))] (wp_ret ?_))
   obtain rfl:=Option.some.inj hm
   exact ⟨trivial,by kernel_rfl⟩
  refine sq (rg (s1 1 [(6,.pv (zh zp a0))] (dv 7 (v:=aI ((sll a0).length:Int)) (zy zp a0 t25 (by kernel_rfl)) (by kernel_rfl) (fq 1 [(0,.pv (zh zp a0)),(1,.pv (.fn 223 [] [])),(7,aI ((sll a0).length:Int)),(8,aI 0)] (bq ?_)))))
  refine ZY (fun mm t H=>(∃ (y5:Int),zI n a0 k3 mm y5=some r∧t=mk 19 [(0,.pv (zh zp a0)),(1,.pv (.fn 223 [] [])),(7,aI ((sll a0).length:Int)),(8,aI y5)]∧H=[])) (⟨0,hm,rfl,rfl⟩) ?_ ?_
  · rintro _ _ ⟨y5,hm,_⟩; exact nomatch hm
  rintro m6 _ _ ⟨y5,hm,rfl,rfl⟩
  simp only [zI] at hm
  refine sq (dn [(0,.pv (zh zp a0)),(1,.pv (.fn 223 [] [])),(7,aI ((sll a0).length:Int)),(8,aI y5),(9,aB (decide (y5 < ((sll a0).length:Int))))] ?_)
  refine sq ?_
  rcases zo hm with ⟨h7,hm⟩ | ⟨h7,hm⟩
  ·
   refine c1 h7 (wp_skip (sq (bq (sq (dn [(0,.pv (zh zp a0)),(1,.pv (.fn 223 [] [])),(5,aI y5),(7,aI ((sll a0).length:Int)),(8,aI y5)] (sq (rg (s1 3 [(13,aI y5),(12,.pv (zh zp a0)),(11,.pv (.fn 223 [] []))] ?_))))))))
   obtain ⟨x8,h9,hm⟩:=bs hm
   refine dv 14 (v:=.pv (.ptr (zp x8) 0)) (qA zp a0 .i64 t25 t86 h9 rfl (by kernel_rfl)) (by kernel_rfl) (s1 1 [(15,.agg [aI x8.fOut,aB x8.fDesc])] ?_)
   obtain ⟨x10,h11,hm⟩:=bs hm
   refine dv 16 (zE (by kernel_rfl) (agQ h11) (by kernel_rfl) (by kernel_rfl) (by kernel_rfl)) (by kernel_rfl) (fin [(0,.pv (zh zp a0)),(1,.pv (.fn 223 [] [])),(5,aI y5),(7,aI ((sll a0).length:Int)),(8,aI y5),(16,aB x10)] rfl (by kernel_rfl) ?_)
   rcases zo hm with ⟨h12,hm⟩ | ⟨h12,hm⟩
   ·
    refine c1 h12 (sq (dn [(4,aI y5)] (wp_ret ?_)))
    obtain rfl:=Option.some.inj hm
    exact ⟨trivial,by kernel_rfl⟩
   ·
    refine c0 h12 (wp_skip (dn [(0,.pv (zh zp a0)),(1,.pv (.fn 223 [] [])),(7,aI ((sll a0).length:Int)),(8,aI (IntKind.wrap .i64 (y5+1)))] ?_))
    exact ⟨_,_,Zh [(0,.pv (zh zp a0)),(1,.pv (.fn 223 [] [])),(7,aI ((sll a0).length:Int)),(8,aI (IntKind.wrap .i64 (y5+1)))] [] (by kernel_rfl),⟨(IntKind.wrap .i64 (y5+1)),hm,rfl,rfl⟩⟩
  ·
   refine c0 h7 (wp_exit ?_)
   exact ⟨y5,(decide (y5 < ((sll a0).length:Int))),hm,rfl,rfl⟩
theorem aaa {n:Nat} {a0:(Option (List zt))} {r:Bool} (hm:Zf n a0=some r):
    call G n 141 [.pv (zh zp a0),.pv (.fn 223 [] [])] []=some (.ret (aB r),[]):=by
  unfold Zf at hm
  obtain ⟨n,rfl,h0⟩:=zB hm
  replace hm:=h0; clear h0
  refine Zr 9 [(0,.pv (zh zp a0)),(1,.pv (.fn 223 [] []))] func141 rfl (by kernel_rfl) (sq (dn [(0,.pv (zh zp a0)),(1,.pv (.fn 223 [] []))] (sq (rg (s1 2 [(6,.pv (.fn 223 [] [])),(5,.pv (zh zp a0))] ?_)))))
  obtain ⟨x1,h2,hm⟩:=bs hm
  refine dv 7 (zE (by kernel_rfl) (aaA h2) (by kernel_rfl) (by kernel_rfl) (by kernel_rfl)) (by kernel_rfl) (fq 2 [(4,aB (decide (x1≥0)))] (wp_ret ?_))
  obtain rfl:=Option.some.inj hm
  exact ⟨trivial,by kernel_rfl⟩
theorem aih {n:Nat} {a0:zk} {r:Bool} (hm:acd n a0=some r):
    call G n 176 [.agg (zc2 a0)] []=some (.ret (aB r),[]):=by
  unfold acd at hm
  obtain ⟨n,rfl,h0⟩:=zB hm
  replace hm:=h0; clear h0
  refine Zr 63 [(0,.agg (zc2 a0))] func176 rfl (by kernel_rfl) (sq (det [(1,.ptr 0 0)] [.box (zc2 a0) false] (by kernel_rfl) ?_))
  obtain ⟨k3,hk3,hm⟩:=zz hm
  refine mid (fun t H=>(∃ (y1:Int) (y2:Bool),k3 ()=some r∧t=mk 63 [(1,.ptr 0 0),(13,aR 1 1 4),(14,aI 4),(15,aI y1),(16,aB y2)]∧H=[.box (zc2 a0) false,bR 23 1 (rSl zb) ([a0.fWhere,a0.fLeft,a0.fRight,a0.fOut]:List (Option (List zc))) 0 0])) ?_ ?_
  ·
   rintro _ _ ⟨y1,y2,hm,rfl,rfl⟩
   subst hk3
   refine sq (sq (rg (s1 2 [(28,.pv (zh zn a0.fAggs)),(27,.ptr 0 6)] (dv 29 (v:=aI ((sll a0.fAggs).length:Int)) (zy zn a0.fAggs t24 (by kernel_rfl)) (by kernel_rfl) (s1 2 [(31,aB (decide (((sll a0.fAggs).length:Int) > 60))),(30,aB (decide (((sll a0.fAggs).length:Int) > 60)))] ?_)))))
   rcases zo hm with ⟨h4,hm⟩ | ⟨h4,hm⟩
   ·
    refine known [31,30] h4 (by kernel_rfl) (fq 4 [(1,.ptr 0 0),(35,aB true)] (cT (by kernel_rfl) (sq (dn [(2,aB false)] (wp_ret ?_)))))
    obtain rfl:=Option.some.inj hm
    exact ⟨trivial,by kernel_rfl⟩
   ·
    refine known [31,30] h4 (by kernel_rfl) (s1 2 [(33,.pv (zh zn a0.fAggs)),(32,.ptr 0 6)] ?_)
    obtain ⟨x5,h6,hm⟩:=bs hm
    refine dv 34 (zE (by kernel_rfl) (Q9 h6) (by kernel_rfl) (by kernel_rfl) (by kernel_rfl)) (by kernel_rfl) (fq 1 [(1,.ptr 0 0),(35,aB x5)] ?_)
    rcases zo hm with ⟨h7,hm⟩ | ⟨h7,hm⟩
    ·
     refine c1 h7 (sq (dn [(2,aB false)] (wp_ret ?_)))
     obtain rfl:=Option.some.inj hm
     exact ⟨trivial,by kernel_rfl⟩
    ·
     refine c0 h7 (wp_skip ?_)
     refine sq (sq (rg (s1 2 [(37,.pv (zh zp a0.fOrder)),(36,.ptr 0 7)] (dv 38 (v:=aI ((sll a0.fOrder).length:Int)) (zy zp a0.fOrder t25 (by kernel_rfl)) (by kernel_rfl) (s1 2 [(40,aB (decide (((sll a0.fOrder).length:Int) > 60))),(39,aB (decide (((sll a0.fOrder).length:Int) > 60)))] ?_)))))
     rcases zo hm with ⟨h8,hm⟩ | ⟨h8,hm⟩
     ·
      refine known [40,39] h8 (by kernel_rfl) (fq 4 [(1,.ptr 0 0),(44,aB true)] (cT (by kernel_rfl) (sq (dn [(2,aB false)] (wp_ret ?_)))))
      obtain rfl:=Option.some.inj hm
      exact ⟨trivial,by kernel_rfl⟩
     ·
      refine known [40,39] h8 (by kernel_rfl) (s1 2 [(42,.pv (zh zp a0.fOrder)),(41,.ptr 0 7)] ?_)
      obtain ⟨x9,h10,hm⟩:=bs hm
      refine dv 43 (zE (by kernel_rfl) (aaa h10) (by kernel_rfl) (by kernel_rfl) (by kernel_rfl)) (by kernel_rfl) (fq 1 [(1,.ptr 0 0),(44,aB x9)] ?_)
      rcases zo hm with ⟨h11,hm⟩ | ⟨h11,hm⟩
      ·
       refine c1 h11 (sq (dn [(2,aB false)] (wp_ret ?_)))
       obtain rfl:=Option.some.inj hm
       exact ⟨trivial,by kernel_rfl⟩
      ·
       refine c0 h11 (wp_skip (sq (rg (s1 4 [(48,aB (decide (a0.fRel≥0))),(47,aB (decide (a0.fRel≥0))),(46,aI a0.fRel),(45,.ptr 0 1)] ?_))))
       refine segP (decide (a0.fRel≥0)) [48,47] (fun b=>[(52,aB (b && (decide (a0.fRel < 12)))),(51,ifA b (aB (decide (a0.fRel < 12))) (.undef)),(50,ifA b (aI a0.fRel) (.undef)),(49,ifA b (.ptr 0 1) (.undef))]) 4 (by kernel_rfl) (by kernel_rfl) (by kernel_rfl) (s1 1 [(53,aB ((decide (a0.fRel≥0)) && (decide (a0.fRel < 12))))] ?_)
       refine seg ((decide (a0.fRel≥0)) && (decide (a0.fRel < 12))) [53,52] (fun b=>[(62,aB (b && ((a0.fKind == 1) || (a0.fRel == 0)))),(61,ifA b (aB ((a0.fKind == 1) || (a0.fRel == 0))) (.undef)),(60,ifA b (ifA (a0.fKind == 1) (.undef) (aB (a0.fRel == 0))) (.undef)),(59,ifA b (ifA (a0.fKind == 1) (.undef) (aI a0.fRel)) (.undef)),(58,ifA b (ifA (a0.fKind == 1) (.undef) (.ptr 0 1)) (.undef)),(57,ifA b (aB (a0.fKind == 1)) (.undef)),(56,ifA b (aB (a0.fKind == 1)) (.undef)),(55,ifA b (aI a0.fKind) (.undef)),(54,ifA b (.ptr 0 0) (.undef))]) 18 (by kernel_rfl) ?_ ?_ ?_
       ·
        intro Q h
        refine s1 4 [(57,aB (a0.fKind == 1)),(56,aB (a0.fKind == 1)),(55,aI a0.fKind),(54,.ptr 0 0)] ?_
        refine segP (a0.fKind == 1) [57,56] (fun b=>[(61,aB (b || (a0.fRel == 0))),(60,ifA b (.undef) (aB (a0.fRel == 0))),(59,ifA b (.undef) (aI a0.fRel)),(58,ifA b (.undef) (.ptr 0 1))]) 4 (by kernel_rfl) (by kernel_rfl) (by kernel_rfl) (s1 1 [(62,aB ((a0.fKind == 1) || (a0.fRel == 0)))] ?_)
        exact ZB (by kernel_rfl) (by kernel_rfl) h
       ·
        intro Q h
        refine s1 9 [(62,aB false),(61,.undef),(60,.undef),(59,.undef),(58,.undef),(57,.undef),(56,.undef),(55,.undef),(54,.undef)] ?_
        exact ZB (by kernel_rfl) (by kernel_rfl) h
       refine fq 1 [(2,aB (((decide (a0.fRel≥0)) && (decide (a0.fRel < 12))) && ((a0.fKind == 1) || (a0.fRel == 0))))] (wp_ret ?_)
       obtain rfl:=Option.some.inj hm
       exact ⟨trivial,by kernel_rfl⟩
  refine sq (det [(1,.ptr 0 0),(13,aR 1 1 4),(14,aI 4),(15,aI 0)] [.box (zc2 a0) false,bR 23 1 (rSl zb) ([a0.fWhere,a0.fLeft,a0.fRight,a0.fOut]:List (Option (List zc))) 0 0] (by kernel_rfl) (bq ?_))
  refine ZY (fun mm t H=>(∃ (y13:Int),qm n a0 k3 mm y13=some r∧t=mk 63 [(1,.ptr 0 0),(13,aR 1 1 4),(14,aI 4),(15,aI y13)]∧H=[.box (zc2 a0) false,bR 23 1 (rSl zb) ([a0.fWhere,a0.fLeft,a0.fRight,a0.fOut]:List (Option (List zc))) 0 0])) (⟨0,hm,rfl,rfl⟩) ?_ ?_
  · rintro _ _ ⟨y13,hm,_⟩; exact nomatch hm
  rintro m14 _ _ ⟨y13,hm,rfl,rfl⟩
  simp only [qm] at hm
  refine sq (dn [(1,.ptr 0 0),(13,aR 1 1 4),(14,aI 4),(15,aI y13),(16,aB (decide (y13 < 4)))] ?_)
  refine sq ?_
  rcases zo hm with ⟨h15,hm⟩ | ⟨h15,hm⟩
  ·
   refine c1 h15 (wp_skip (sq (bq (sq (rg ?_)))))
   obtain ⟨x16,h17,hm⟩:=bs hm
   refine dv 17 (v:=.eptr 1 0 4 1 (0+Int.toNat y13) 0) (Q7 ([a0.fWhere,a0.fLeft,a0.fRight,a0.fOut]:List (Option (List zc))) .i64 (n:=4) (id:=1) (esz:=1) t182 t23 h17 (by first | rfl | assumption | omega | (simp only [List.length_set,List.length_append,List.length_cons,List.length_nil,List.length_replicate,List.length_drop] at * <;> omega)) rfl (by kernel_rfl)) (by kernel_rfl) (dv 18 (v:=.pv (zh zb x16)) (adP (rSl zb) ([a0.fWhere,a0.fLeft,a0.fRight,a0.fOut]:List (Option (List zc))) (n:=4) (esz:=1) (j:=y13) (off:=0) (id:=1) t23 rfl h17 (by first | rfl | assumption | omega | (simp only [List.length_set,List.length_append,List.length_cons,List.length_nil,List.length_replicate,List.length_drop] at * <;> omega)) (Nat.zero_le _) (by kernel_rfl) (by kernel_rfl)) (by kernel_rfl) (fq 1 [(1,.ptr 0 0),(4,.pv (zh zb x16)),(13,aR 1 1 4),(14,aI 4),(15,aI y13)] (sq (rg (s1 1 [(19,.pv (zh zb x16))] (dv 20 (v:=aI ((sll x16).length:Int)) (zy zb x16 t23 (by kernel_rfl)) (by kernel_rfl) (s1 2 [(22,aB (decide (((sll x16).length:Int) > 60))),(21,aB (decide (((sll x16).length:Int) > 60)))] ?_)))))))
   rcases zo hm with ⟨h18,hm⟩ | ⟨h18,hm⟩
   ·
    refine known [22,21] h18 (by kernel_rfl) (fq 3 [(1,.ptr 0 0),(13,aR 1 1 4),(14,aI 4),(15,aI y13),(25,aB true)] (cT (by kernel_rfl) (sq (dn [(2,aB false)] (wp_ret ?_)))))
    obtain rfl:=Option.some.inj hm
    exact ⟨trivial,by kernel_rfl⟩
   ·
    refine known [22,21] h18 (by kernel_rfl) (s1 1 [(23,.pv (zh zb x16))] ?_)
    obtain ⟨x19,h20,hm⟩:=bs hm
    refine dv 24 (zE (by kernel_rfl) (Q3 h20) (by kernel_rfl) (by kernel_rfl) (by kernel_rfl)) (by kernel_rfl) (fq 1 [(1,.ptr 0 0),(13,aR 1 1 4),(14,aI 4),(15,aI y13),(25,aB x19)] ?_)
    rcases zo hm with ⟨h21,hm⟩ | ⟨h21,hm⟩
    ·
     refine c1 h21 (sq (dn [(2,aB false)] (wp_ret ?_)))
     obtain rfl:=Option.some.inj hm
     exact ⟨trivial,by kernel_rfl⟩
    ·
     refine c0 h21 (wp_skip (dn [(1,.ptr 0 0),(13,aR 1 1 4),(14,aI 4),(15,aI (IntKind.wrap .i64 (y13+1)))] ?_))
     exact ⟨_,_,Zh [(1,.ptr 0 0),(13,aR 1 1 4),(14,aI 4),(15,aI (IntKind.wrap .i64 (y13+1)))] [.box (zc2 a0) false,bR 23 1 (rSl zb) ([a0.fWhere,a0.fLeft,a0.fRight,a0.fOut]:List (Option (List zc))) 0 0] (by kernel_rfl),⟨(IntKind.wrap .i64 (y13+1)),hm,rfl,rfl⟩⟩
  ·
   refine c0 h15 (wp_exit ?_)
   exact ⟨y13,(decide (y13 < 4)),hm,rfl,rfl⟩
theorem aha {rc_plan_count:(Nat→zk→Int→Int→Option (Int))} (ih_plan_count:∀ {n:Nat} {a0:zk} {a1:Int} {a2:Int} {r:Int} (hm:rc_plan_count n a0 a1 a2=some r),call G n 125 [.agg [aI a0.fKind,aI a0.fRel,.pv (zh zb a0.fWhere),.pv (zh zb a0.fLeft),.pv (zh zb a0.fRight),.pv (zh zb a0.fOut),.pv (zh zn a0.fAggs),.pv (zh zp a0.fOrder),.pv (zh zg a0.fKids)],aI a1,aI a2] []=some (.ret (aI r),[])) {n:Nat} {a0:zk} {a1:Int} {a2:Int} {r:Int} (hm:QK rc_plan_count n a0 a1 a2=some r):
    call G n 125 [.agg (zc2 a0),aI a1,aI a2] []=some (.ret (aI r),[]):=by
  unfold QK at hm
  obtain ⟨n,rfl,h0⟩:=zB hm
  replace hm:=h0; clear h0
  refine Zr 52 [(0,.agg (zc2 a0)),(1,aI a1),(2,aI a2)] func125 rfl (by kernel_rfl) (sq (det [(1,aI a1),(2,aI a2),(3,.ptr 0 0)] [.box (zc2 a0) false] (by kernel_rfl) ?_))
  refine sq (sq (rgd (shd 3 [(11,aB (decide (a1 > 24))),(10,aB (decide (a1 > 24))),(9,aI a1)] (by kernel_rfl) ?_)))
  rcases zo hm with ⟨h1,hm⟩ | ⟨h1,hm⟩
  ·
   refine Zs [11,10] h1 (by kernel_rfl) (shd 22 [(33,aB true),(32,.undef),(31,.undef),(30,.undef),(29,aB true),(28,aB true),(27,.undef),(26,.undef),(25,.undef),(24,aB true),(23,aB true),(22,.undef),(21,.undef),(20,.undef),(19,.undef),(18,.undef),(17,.undef),(16,.undef),(15,aB true),(14,aB true),(13,.undef),(12,.undef)] (by kernel_rfl) (find [(1,aI a1),(2,aI a2),(3,.ptr 0 0),(33,aB true)] rfl (by kernel_rfl) (by kernel_rfl) (cT (by kernel_rfl) (sq (dn [(6,aI (-1))] (wp_ret ?_))))))
   obtain rfl:=Option.some.inj hm
   exact ⟨trivial,by kernel_rfl⟩
  ·
   refine Zs [11,10] h1 (by kernel_rfl) (shd 4 [(15,aB (decide (a2 < 1))),(14,aB (decide (a2 < 1))),(13,aB (decide (a2 < 1))),(12,aI a2)] (by kernel_rfl) ?_)
   rcases zo hm with ⟨h2,hm⟩ | ⟨h2,hm⟩
   ·
    refine Zs [15,14,13] h2 (by kernel_rfl) (shd 18 [(33,aB true),(32,.undef),(31,.undef),(30,.undef),(29,aB true),(28,aB true),(27,.undef),(26,.undef),(25,.undef),(24,aB true),(23,aB true),(22,.undef),(21,.undef),(20,.undef),(19,.undef),(18,.undef),(17,.undef),(16,.undef)] (by kernel_rfl) (find [(1,aI a1),(2,aI a2),(3,.ptr 0 0),(33,aB true)] rfl (by kernel_rfl) (by kernel_rfl) (cT (by kernel_rfl) (sq (dn [(6,aI (-1))] (wp_ret ?_))))))
    obtain rfl:=Option.some.inj hm
    exact ⟨trivial,by kernel_rfl⟩
   ·
    refine Zs [15,14,13] h2 (by kernel_rfl) (shd 2 [(17,aI a0.fKind),(16,.ptr 0 0)] (by kernel_rfl) ?_)
    obtain ⟨x3,h4,hm⟩:=bs hm
    refine dvd 18 (zE (by kernel_rfl) (ajm h4) (by kernel_rfl) (by kernel_rfl) (by kernel_rfl)) (by kernel_rfl) (shd 2 [(20,.pv (zh zg a0.fKids)),(19,.ptr 0 8)] (by kernel_rfl) (dvd 21 (v:=aI ((sll a0.fKids).length:Int)) (zy zg a0.fKids t64 (by kernel_rfl)) (by kernel_rfl) (shd 3 [(24,aB (x3 != ((sll a0.fKids).length:Int))),(23,aB (x3 != ((sll a0.fKids).length:Int))),(22,aB (x3 != ((sll a0.fKids).length:Int)))] (by kernel_rfl) ?_)))
    rcases zo hm with ⟨h5,hm⟩ | ⟨h5,hm⟩
    ·
     refine Zs [24,23,22] h5 (by kernel_rfl) (shd 9 [(33,aB true),(32,.undef),(31,.undef),(30,.undef),(29,aB true),(28,aB true),(27,.undef),(26,.undef),(25,.undef)] (by kernel_rfl) (find [(1,aI a1),(2,aI a2),(3,.ptr 0 0),(33,aB true)] rfl (by kernel_rfl) (by kernel_rfl) (cT (by kernel_rfl) (sq (dn [(6,aI (-1))] (wp_ret ?_))))))
     obtain rfl:=Option.some.inj hm
     exact ⟨trivial,by kernel_rfl⟩
    ·
     refine Zs [24,23,22] h5 (by kernel_rfl) (shd 1 [(25,.agg (zc2 a0))] (by kernel_rfl) ?_)
     obtain ⟨x6,h7,hm⟩:=bs hm
     refine dvd 26 (zE (by kernel_rfl) (aid h7) (by kernel_rfl) (by kernel_rfl) (by kernel_rfl)) (by kernel_rfl) (shd 3 [(29,aB (!x6)),(28,aB (!x6)),(27,aB (!x6))] (by kernel_rfl) ?_)
     rcases zo hm with ⟨h8,hm⟩ | ⟨h8,hm⟩
     ·
      refine Zs [29,28,27] h8 (by kernel_rfl) (shd 4 [(33,aB true),(32,.undef),(31,.undef),(30,.undef)] (by kernel_rfl) (find [(1,aI a1),(2,aI a2),(3,.ptr 0 0),(33,aB true)] rfl (by kernel_rfl) (by kernel_rfl) (cT (by kernel_rfl) (sq (dn [(6,aI (-1))] (wp_ret ?_))))))
      obtain rfl:=Option.some.inj hm
      exact ⟨trivial,by kernel_rfl⟩
     ·
      refine Zs [29,28,27] h8 (by kernel_rfl) (shd 1 [(30,.agg (zc2 a0))] (by kernel_rfl) ?_)
      obtain ⟨x9,h10,hm⟩:=bs hm
      refine dvd 31 (zE (by kernel_rfl) (aih h10) (by kernel_rfl) (by kernel_rfl) (by kernel_rfl)) (by kernel_rfl) (shd 2 [(33,aB (!x9)),(32,aB (!x9))] (by kernel_rfl) (find [(1,aI a1),(2,aI a2),(3,.ptr 0 0),(33,aB (!x9))] rfl (by kernel_rfl) (by kernel_rfl) ?_))
      rcases zo hm with ⟨h11,hm⟩ | ⟨h11,hm⟩
      ·
       refine c1 h11 (sq (dn [(6,aI (-1))] (wp_ret ?_)))
       obtain rfl:=Option.some.inj hm
       exact ⟨trivial,by kernel_rfl⟩
      ·
       refine c0 h11 (wp_skip (sq (dn [(1,aI a1),(2,aI (IntKind.wrap .i64 (a2 - 1))),(3,.ptr 0 0)] ?_)))
       obtain ⟨k15,hk15,hm⟩:=zz hm
       refine mid (fun t H=>(∃ (y12:Int) (y13:Int) (y14:Bool),k15 y12=some r∧t=mk 52 [(1,aI a1),(2,aI y12),(37,.pv (zh zg a0.fKids)),(38,aI ((sll a0.fKids).length:Int)),(39,aI y13),(40,aB y14)]∧H=[.box (zc2 a0) false])) ?_ ?_
       ·
        rintro _ _ ⟨y12,y13,y14,hm,rfl,rfl⟩
        subst hk15
        refine sq (dn [(6,aI y12)] (wp_ret ?_))
        obtain rfl:=Option.some.inj hm
        exact ⟨trivial,by kernel_rfl⟩
       refine sq (rg (s1 2 [(37,.pv (zh zg a0.fKids)),(36,.ptr 0 8)] (dv 38 (v:=aI ((sll a0.fKids).length:Int)) (zy zg a0.fKids t64 (by kernel_rfl)) (by kernel_rfl) (fq 1 [(1,aI a1),(2,aI (IntKind.wrap .i64 (a2 - 1))),(37,.pv (zh zg a0.fKids)),(38,aI ((sll a0.fKids).length:Int)),(39,aI 0)] (bq ?_)))))
       refine ZY (fun mm t H=>(∃ (y18:Int) (y19:Int),QZ n rc_plan_count a0 a1 k15 mm y18 y19=some r∧t=mk 52 [(1,aI a1),(2,aI y18),(37,.pv (zh zg a0.fKids)),(38,aI ((sll a0.fKids).length:Int)),(39,aI y19)]∧H=[.box (zc2 a0) false])) (⟨(IntKind.wrap .i64 (a2 - 1)),0,hm,rfl,rfl⟩) ?_ ?_
       · rintro _ _ ⟨y18,y19,hm,_⟩; exact nomatch hm
       rintro m20 _ _ ⟨y18,y19,hm,rfl,rfl⟩
       simp only [QZ] at hm
       refine sq (dn [(1,aI a1),(2,aI y18),(37,.pv (zh zg a0.fKids)),(38,aI ((sll a0.fKids).length:Int)),(39,aI y19),(40,aB (decide (y19 < ((sll a0.fKids).length:Int))))] ?_)
       refine sq ?_
       rcases zo hm with ⟨h21,hm⟩ | ⟨h21,hm⟩
       ·
        refine c1 h21 (wp_skip (sq (bq (sq (rg ?_)))))
        obtain ⟨x22,h23,hm⟩:=bs hm
        refine dv 41 (v:=.pv (.ptr (zG (zd x22)) 0)) (Zd zg a0.fKids .i64 t64 t66 h23 (zF x22) rfl (by kernel_rfl)) (by kernel_rfl) (stf 3 [(1,aI a1),(2,aI y18),(8,.ptr 1 0),(37,.pv (zh zg a0.fKids)),(38,aI ((sll a0.fKids).length:Int)),(39,aI y19)] [.box (zc2 a0) false,.box (zc3 x22) false] (by kernel_rfl) (sq (rg (s1 4 [(46,aI y18),(45,aI (IntKind.wrap .i64 (a1+1))),(44,aI a1),(43,.agg (zc3 x22))] ?_))))
        obtain ⟨x24,h25,hm⟩:=bs hm
        refine dv 47 (zE (by kernel_rfl) (ih_plan_count h25) (by kernel_rfl) (by kernel_rfl) (by kernel_rfl)) (by kernel_rfl) (fq 1 [(1,aI a1),(2,aI x24),(37,.pv (zh zg a0.fKids)),(38,aI ((sll a0.fKids).length:Int)),(39,aI y19)] (sq (dn [(1,aI a1),(2,aI x24),(37,.pv (zh zg a0.fKids)),(38,aI ((sll a0.fKids).length:Int)),(39,aI y19),(49,aB (decide (x24 < 0)))] ?_)))
        rcases zo hm with ⟨h26,hm⟩ | ⟨h26,hm⟩
        ·
         refine c1 h26 (sq (dn [(6,aI (-1))] (wp_ret ?_)))
         obtain rfl:=Option.some.inj hm
         exact ⟨trivial,by kernel_rfl⟩
        ·
         refine c0 h26 (wp_skip (dn [(1,aI a1),(2,aI x24),(37,.pv (zh zg a0.fKids)),(38,aI ((sll a0.fKids).length:Int)),(39,aI (IntKind.wrap .i64 (y19+1)))] ?_))
         exact ⟨_,_,Zh [(1,aI a1),(2,aI x24),(37,.pv (zh zg a0.fKids)),(38,aI ((sll a0.fKids).length:Int)),(39,aI (IntKind.wrap .i64 (y19+1)))] [.box (zc2 a0) false] (by kernel_rfl),⟨x24,(IntKind.wrap .i64 (y19+1)),hm,rfl,rfl⟩⟩
       ·
        refine c0 h21 (wp_exit ?_)
        exact ⟨y18,y19,(decide (y19 < ((sll a0.fKids).length:Int))),hm,rfl,rfl⟩
theorem aew:∀ (m:Nat),∀ {n:Nat} {a0:zk} {a1:Int} {a2:Int} {r:Int} (hm:qK m n a0 a1 a2=some r),call G n 125 [.agg (zc2 a0),aI a1,aI a2] []=some (.ret (aI r),[])
  | 0=>by intros; rename_i hm; exact nomatch hm
  | m+1=>fun hm=>
    aha (aew m) hm
theorem aiJ {n:Nat} {a0:zk} {a1:Int} {a2:Int} {r:Int} (hm:ae9 n a0 a1 a2=some r):
    call G n 125 [.agg (zc2 a0),aI a1,aI a2] []=some (.ret (aI r),[]):=aew n hm
theorem ahm {n:Nat} {a0:zk} {r:Bool} (hm:abJ n a0=some r):
    call G n 36 [.agg (zc2 a0)] []=some (.ret (aB r),[]):=by
  unfold abJ at hm
  obtain ⟨n,rfl,h0⟩:=zB hm
  replace hm:=h0; clear h0
  refine Zr 6 [(0,.agg (zc2 a0))] func36 rfl (by kernel_rfl) (sq (det [(1,.ptr 0 0)] [.box (zc2 a0) false] (by kernel_rfl) (sq (rg (s1 1 [(3,.agg (zc2 a0))] ?_)))))
  obtain ⟨x1,h2,hm⟩:=bs hm
  refine dv 4 (zE (by kernel_rfl) (aiJ h2) (by kernel_rfl) (by kernel_rfl) (by kernel_rfl)) (by kernel_rfl) (fq 2 [(2,aB (decide (x1≥0)))] (wp_ret ?_))
  obtain rfl:=Option.some.inj hm
  exact ⟨trivial,by kernel_rfl⟩
theorem aic {n:Nat} {a0:Int} {r:Int} (hm:ace n a0=some r):
    call G n 224 [aI a0] []=some (.ret (aI r),[]):=by
  unfold ace at hm
  obtain ⟨n,rfl,h0⟩:=zB hm
  replace hm:=h0; clear h0
  refine Zr 14 [(0,aI a0)] func224 rfl (by kernel_rfl) (sq (dn [(0,aI a0)] (sq (sq (dn [(3,aI a0)] (bq (sq (dn [(3,aI a0),(4,aB (a0 == 1))] ?_))))))))
  rcases zo hm with ⟨h1,hm⟩ | ⟨h1,hm⟩
  ·
   refine c1 h1 (sq (dn [(2,aI 0)] (wp_ret ?_)))
   obtain rfl:=Option.some.inj hm
   exact ⟨trivial,by kernel_rfl⟩
  ·
   refine c0 h1 ?_
   obtain ⟨k3,hk3,hm⟩:=zz hm
   refine mid (fun t H=>(∃ (y2:Bool),k3 y2=some r∧t=mk 14 [(3,aI a0),(6,aB y2)]∧H=[])) ?_ ?_
   ·
    rintro _ _ ⟨y2,hm,rfl,rfl⟩
    subst hk3
    rcases zo hm with ⟨h4,hm⟩ | ⟨h4,hm⟩
    ·
     refine c1 h4 (sq (dn [(2,aI 2)] (wp_ret ?_)))
     obtain rfl:=Option.some.inj hm
     exact ⟨trivial,by kernel_rfl⟩
    ·
     refine c0 h4 (sq (sq (dn [(3,aI a0),(10,aB (a0 == 5))] ?_)))
     rcases zo hm with ⟨h5,hm⟩ | ⟨h5,hm⟩
     ·
      refine c1 h5 (wp_skip ?_)
      rcases zo hm with ⟨h6,hm⟩ | ⟨h6,hm⟩
      ·
       refine c1 h6 (sq (dn [(2,aI 1)] (wp_ret ?_)))
       obtain rfl:=Option.some.inj hm
       exact ⟨trivial,by kernel_rfl⟩
      ·
       refine c0 h6 (wp_skip (sq (dn [(2,aI (-1))] (wp_ret ?_))))
       obtain rfl:=Option.some.inj hm
       exact ⟨trivial,by kernel_rfl⟩
     ·
      refine c0 h5 (sq (dn [(3,aI a0),(10,aB (a0 == 6))] ?_))
      rcases zo hm with ⟨h7,hm⟩ | ⟨h7,hm⟩
      ·
       refine c1 h7 (wp_skip ?_)
       rcases zo hm with ⟨h8,hm⟩ | ⟨h8,hm⟩
       ·
        refine c1 h8 (sq (dn [(2,aI 1)] (wp_ret ?_)))
        obtain rfl:=Option.some.inj hm
        exact ⟨trivial,by kernel_rfl⟩
       ·
        refine c0 h8 (wp_skip (sq (dn [(2,aI (-1))] (wp_ret ?_))))
        obtain rfl:=Option.some.inj hm
        exact ⟨trivial,by kernel_rfl⟩
      ·
       refine c0 h7 (dn [(10,aB (a0 == 7))] ?_)
       rcases zo hm with ⟨h9,hm⟩ | ⟨h9,hm⟩
       ·
        refine c1 h9 (sq (dn [(2,aI 1)] (wp_ret ?_)))
        obtain rfl:=Option.some.inj hm
        exact ⟨trivial,by kernel_rfl⟩
       ·
        refine c0 h9 (wp_skip (sq (dn [(2,aI (-1))] (wp_ret ?_))))
        obtain rfl:=Option.some.inj hm
        exact ⟨trivial,by kernel_rfl⟩
   refine sq (dn [(3,aI a0),(6,aB (a0 == 2))] ?_)
   rcases zo hm with ⟨h10,hm⟩ | ⟨h10,hm⟩
   ·
    refine c1 h10 (wp_skip ?_)
    exact ⟨(a0 == 2),hm,rfl,rfl⟩
   ·
    refine c0 h10 (sq (dn [(3,aI a0),(6,aB (a0 == 3))] ?_))
    rcases zo hm with ⟨h11,hm⟩ | ⟨h11,hm⟩
    ·
     refine c1 h11 (wp_skip ?_)
     exact ⟨(a0 == 3),hm,rfl,rfl⟩
    ·
     refine c0 h11 (dn [(3,aI a0),(6,aB (a0 == 4))] ?_)
     exact ⟨(a0 == 4),hm,rfl,rfl⟩
theorem aiA {n:Nat} {a0:Int} {r:Int} (hm:acm n a0=some r):
    call G n 243 [aI a0] []=some (.ret (aI r),[]):=by
  unfold acm at hm
  obtain ⟨n,rfl,h0⟩:=zB hm
  replace hm:=h0; clear h0
  refine Zr 14 [(0,aI a0)] func243 rfl (by kernel_rfl) (sq (dn [(0,aI a0)] ?_))
  refine sq (sq (rg (s1 3 [(6,aB (decide (a0 < 1))),(5,aB (decide (a0 < 1))),(4,aI a0)] ?_)))
  refine segP (decide (a0 < 1)) [6,5] (fun b=>[(9,aB (b || (decide (a0 > 13)))),(8,ifA b (.undef) (aB (decide (a0 > 13)))),(7,ifA b (.undef) (aI a0))]) 3 (by kernel_rfl) (by kernel_rfl) (by kernel_rfl) (fin [(0,aI a0),(9,aB ((decide (a0 < 1)) || (decide (a0 > 13))))] rfl (by kernel_rfl) ?_)
  rcases zo hm with ⟨h1,hm⟩ | ⟨h1,hm⟩
  ·
   refine c1 h1 (sq (dn [(2,aI (-1))] (wp_ret ?_)))
   obtain rfl:=Option.some.inj hm
   exact ⟨trivial,by kernel_rfl⟩
  ·
   refine c0 h1 (wp_skip (sq (det [(0,aI a0),(3,.ptr 0 0)] [.box (aA .i64 14 (fun i=>([0,0,0,2,2,2,1,2,2,2,2,2,1,1]:List Int).getD i 0)) false] (by kernel_rfl) (sq (rg (s1 1 [(11,aI a0)] ?_))))))
   obtain ⟨_,h2,hm⟩:=bs hm
   refine dv 12 (v:=.ptr 0 (0+Int.toNat a0 * 1)) (anx (n:=14) (id:=0) (off:=0) 1 .i64 t282 t3 rfl h2 (by kernel_rfl)) (by kernel_rfl) (dv 13 (v:=aI ((fun i=>([0,0,0,2,2,2,1,2,2,2,2,2,1,1]:List Int).getD i 0) (Int.toNat a0))) (anm (k:=.i64) (n:=14) (id:=0) (off:=0) (z:=false) (fun i=>([0,0,0,2,2,2,1,2,2,2,2,2,1,1]:List Int).getD i 0) [] [] (aA .i64 14 (fun i=>([0,0,0,2,2,2,1,2,2,2,2,2,1,1]:List Int).getD i 0)) t3 rfl rfl (by kernel_rfl) (by kernel_rfl) (by kernel_rfl) h2 (by kernel_rfl)) (by kernel_rfl) (fq 1 [(2,aI ((fun i=>([0,0,0,2,2,2,1,2,2,2,2,2,1,1]:List Int).getD i 0) (Int.toNat a0)))] (wp_ret ?_)))
   obtain rfl:=Option.some.inj hm
   exact ⟨trivial,by kernel_rfl⟩
theorem agH {rc_ref22_parts:(Nat→zj→Int→Option (Int))} (ih_ref22_parts:∀ {n:Nat} {a0:zj} {a1:Int} {r:Int} (hm:rc_ref22_parts n a0 a1=some r),call G n 204 [.agg [aI a0.fKind,aI a0.fRel,aI a0.fCol,aI a0.fConst.fKind,aI a0.fConst.fInt,aF a0.fConst.fFloat,aS a0.fConst.fText,.pv (zh zb a0.fKids)],aI a1] []=some (.ret (aI r),[])) {n:Nat} {a0:zj} {a1:Int} {r:Int} (hm:Qk rc_ref22_parts n a0 a1=some r):
    call G n 204 [.agg (zc4 a0),aI a1] []=some (.ret (aI r),[]):=by
  unfold Qk at hm
  obtain ⟨n,rfl,h0⟩:=zB hm
  replace hm:=h0; clear h0
  refine Zr 92 [(0,.agg (zc4 a0)),(1,aI a1)] func204 rfl (by kernel_rfl) (sq (det [(1,aI a1),(2,.ptr 0 0)] [.box (zc4 a0) false] (by kernel_rfl) (sq (dn [(1,aI a1),(2,.ptr 0 0),(5,aI 401)] ?_))))
  obtain ⟨k2,hk2,hm⟩:=zz hm
  refine mid (fun t H=>(∃ (y1:Bool),k2 ()=some r∧t=mk 92 [(1,aI a1),(2,.ptr 0 0),(5,aI 401),(53,aB y1)]∧H=[.box (zc4 a0) false])) ?_ ?_
  ·
   rintro _ _ ⟨y1,hm,rfl,rfl⟩
   subst hk2
   refine sq (sq (rg (s1 2 [(56,.agg (zc18 a0)),(55,.ptr 0 3)] ?_)))
   obtain ⟨x3,h4,hm⟩:=bs hm
   refine dv 57 (zE (by kernel_rfl) (aej h4) (by kernel_rfl) (by kernel_rfl) (by kernel_rfl)) (by kernel_rfl) (s1 2 [(59,aB (!x3)),(58,aB (!x3))] ?_)
   refine seg (!x3) [59,58] (fun b=>[(69,aB (b || ((a0.fKind != 2) && (a0.fConst.fKind != 0)))),(68,ifA b (.undef) (aB ((a0.fKind != 2) && (a0.fConst.fKind != 0)))),(67,ifA b (.undef) (ifA (a0.fKind != 2) (aB (a0.fConst.fKind != 0)) (.undef))),(66,ifA b (.undef) (ifA (a0.fKind != 2) (aI a0.fConst.fKind) (.undef))),(65,ifA b (.undef) (ifA (a0.fKind != 2) (.ptr 0 3) (.undef))),(64,ifA b (.undef) (ifA (a0.fKind != 2) (.ptr 0 3) (.undef))),(63,ifA b (.undef) (aB (a0.fKind != 2))),(62,ifA b (.undef) (aB (a0.fKind != 2))),(61,ifA b (.undef) (aI a0.fKind)),(60,ifA b (.undef) (.ptr 0 0))]) 15 (by kernel_rfl) ?_ ?_ ?_
   ·
    intro Q h
    refine s1 10 [(69,aB true),(68,.undef),(67,.undef),(66,.undef),(65,.undef),(64,.undef),(63,.undef),(62,.undef),(61,.undef),(60,.undef)] ?_
    exact ZB (by kernel_rfl) (by kernel_rfl) h
   ·
    intro Q h
    refine s1 4 [(63,aB (a0.fKind != 2)),(62,aB (a0.fKind != 2)),(61,aI a0.fKind),(60,.ptr 0 0)] ?_
    refine segP (a0.fKind != 2) [63,62] (fun b=>[(68,aB (b && (a0.fConst.fKind != 0))),(67,ifA b (aB (a0.fConst.fKind != 0)) (.undef)),(66,ifA b (aI a0.fConst.fKind) (.undef)),(65,ifA b (.ptr 0 3) (.undef)),(64,ifA b (.ptr 0 3) (.undef))]) 5 (by kernel_rfl) (by kernel_rfl) (by kernel_rfl) (s1 1 [(69,aB ((a0.fKind != 2) && (a0.fConst.fKind != 0)))] ?_)
    exact ZB (by kernel_rfl) (by kernel_rfl) h
   refine fin [(1,aI a1),(2,.ptr 0 0),(5,aI 401),(69,aB ((!x3) || ((a0.fKind != 2) && (a0.fConst.fKind != 0))))] rfl (by kernel_rfl) ?_
   rcases zo hm with ⟨h5,hm⟩ | ⟨h5,hm⟩
   ·
    refine c1 h5 (sq (dn [(4,aI 401)] (wp_ret ?_)))
    obtain rfl:=Option.some.inj hm
    exact ⟨trivial,by kernel_rfl⟩
   ·
    refine c0 h5 (wp_skip (sq (dn [(1,aI a1),(2,.ptr 0 0),(5,aI 401),(6,aI 1)] ?_)))
    obtain ⟨k9,hk9,hm⟩:=zz hm
    refine mid (fun t H=>(∃ (y6:Int) (y7:Int) (y8:Bool),k9 y6=some r∧t=mk 92 [(1,aI a1),(2,.ptr 0 0),(5,aI 401),(6,aI y6),(7,aI y7),(75,aB y8)]∧H=[.box (zc4 a0) false])) ?_ ?_
    ·
     rintro _ _ ⟨y6,y7,y8,hm,rfl,rfl⟩
     subst hk9
     refine sq (dn [(4,aI y6)] (wp_ret ?_))
     obtain rfl:=Option.some.inj hm
     exact ⟨trivial,by kernel_rfl⟩
    refine sq (dn [(1,aI a1),(2,.ptr 0 0),(5,aI 401),(6,aI 1),(7,aI 0)] (bq ?_))
    refine ZY (fun mm t H=>(∃ (y12:Int) (y13:Int),Qt n rc_ref22_parts a0 a1 k9 mm y12 y13=some r∧t=mk 92 [(1,aI a1),(2,.ptr 0 0),(5,aI 401),(6,aI y12),(7,aI y13)]∧H=[.box (zc4 a0) false])) (⟨1,0,hm,rfl,rfl⟩) ?_ ?_
    · rintro _ _ ⟨y12,y13,hm,_⟩; exact nomatch hm
    rintro m14 _ _ ⟨y12,y13,hm,rfl,rfl⟩
    simp only [Qt] at hm
    refine sq (sq (rg (s1 3 [(73,.pv (zh zb a0.fKids)),(72,.ptr 0 7),(71,aI y13)] (dv 74 (v:=aI ((sll a0.fKids).length:Int)) (zy zb a0.fKids t23 (by kernel_rfl)) (by kernel_rfl) (fq 1 [(1,aI a1),(2,.ptr 0 0),(5,aI 401),(6,aI y12),(7,aI y13),(75,aB (decide (y13 < ((sll a0.fKids).length:Int))))] ?_)))))
    rcases zo hm with ⟨h15,hm⟩ | ⟨h15,hm⟩
    ·
     refine c1 h15 (wp_skip (sq (bq (sq (rg (s1 4 [(81,aI y13),(80,.pv (zh zb a0.fKids)),(79,.ptr 0 7),(78,aI y12)] ?_))))))
     obtain ⟨x16,h17,hm⟩:=bs hm
     refine dv 82 (v:=.pv (.ptr (zC (za x16)) 0)) (Zd zb a0.fKids .i64 t23 t49 h17 (zx x16) rfl (by kernel_rfl)) (by kernel_rfl) (s1 3 [(85,aI (IntKind.wrap .i64 (a1+1))),(84,aI a1),(83,.agg (zc8 x16))] ?_)
     obtain ⟨x18,h19,hm⟩:=bs hm
     refine dv 86 (zE (by kernel_rfl) (ih_ref22_parts h19) (by kernel_rfl) (by kernel_rfl) (by kernel_rfl)) (by kernel_rfl) (fq 2 [(1,aI a1),(2,.ptr 0 0),(5,aI 401),(6,aI (IntKind.wrap .i64 (y12+x18))),(7,aI y13)] (sq (dn [(1,aI a1),(2,.ptr 0 0),(5,aI 401),(6,aI (IntKind.wrap .i64 (y12+x18))),(7,aI y13),(89,aB (decide ((IntKind.wrap .i64 (y12+x18)) > 400)))] ?_)))
     rcases zo hm with ⟨h20,hm⟩ | ⟨h20,hm⟩
     ·
      refine c1 h20 (sq (dn [(4,aI 401)] (wp_ret ?_)))
      obtain rfl:=Option.some.inj hm
      exact ⟨trivial,by kernel_rfl⟩
     ·
      refine c0 h20 (wp_skip (dn [(1,aI a1),(2,.ptr 0 0),(5,aI 401),(6,aI (IntKind.wrap .i64 (y12+x18))),(7,aI (IntKind.wrap .i64 (y13+1)))] ?_))
      exact ⟨_,_,Zh [(1,aI a1),(2,.ptr 0 0),(5,aI 401),(6,aI (IntKind.wrap .i64 (y12+x18))),(7,aI (IntKind.wrap .i64 (y13+1)))] [.box (zc4 a0) false] (by kernel_rfl),⟨(IntKind.wrap .i64 (y12+x18)),(IntKind.wrap .i64 (y13+1)),hm,rfl,rfl⟩⟩
    ·
     refine c0 h15 (wp_exit ?_)
     exact ⟨y12,y13,(decide (y13 < ((sll a0.fKids).length:Int))),hm,rfl,rfl⟩
  refine sq (rgd (shd 3 [(10,aB (decide (a1 > 24))),(9,aB (decide (a1 > 24))),(8,aI a1)] (by kernel_rfl) ?_))
  rcases zo hm with ⟨h21,hm⟩ | ⟨h21,hm⟩
  ·
   refine Zs [10,9] h21 (by kernel_rfl) (shd 43 [(53,aB true),(52,.undef),(51,.undef),(50,.undef),(49,.undef),(48,.undef),(47,.undef),(46,.undef),(45,.undef),(44,.undef),(43,.undef),(42,.undef),(41,.undef),(40,.undef),(39,aB true),(38,aB true),(37,.undef),(36,.undef),(35,.undef),(34,aB true),(33,aB true),(32,.undef),(31,.undef),(30,.undef),(29,aB true),(28,aB true),(27,.undef),(26,.undef),(25,.undef),(24,aB true),(23,aB true),(22,.undef),(21,.undef),(20,.undef),(19,aB true),(18,aB true),(17,.undef),(16,.undef),(15,.undef),(14,.undef),(13,.undef),(12,.undef),(11,.undef)] (by kernel_rfl) (find [(1,aI a1),(2,.ptr 0 0),(5,aI 401),(53,aB true)] rfl (by kernel_rfl) (by kernel_rfl) (cT (by kernel_rfl) (sq (dn [(4,aI 401)] (wp_ret ?_))))))
   obtain rfl:=Option.some.inj hm
   exact ⟨trivial,by kernel_rfl⟩
  ·
   refine Zs [10,9] h21 (by kernel_rfl) (shd 2 [(12,aI a0.fKind),(11,.ptr 0 0)] (by kernel_rfl) ?_)
   obtain ⟨x22,h23,hm⟩:=bs hm
   refine dvd 13 (zE (by kernel_rfl) (aiA h23) (by kernel_rfl) (by kernel_rfl) (by kernel_rfl)) (by kernel_rfl) (shd 2 [(15,.pv (zh zb a0.fKids)),(14,.ptr 0 7)] (by kernel_rfl) (dvd 16 (v:=aI ((sll a0.fKids).length:Int)) (zy zb a0.fKids t23 (by kernel_rfl)) (by kernel_rfl) (shd 3 [(19,aB (x22 != ((sll a0.fKids).length:Int))),(18,aB (x22 != ((sll a0.fKids).length:Int))),(17,aB (x22 != ((sll a0.fKids).length:Int)))] (by kernel_rfl) ?_)))
   rcases zo hm with ⟨h24,hm⟩ | ⟨h24,hm⟩
   ·
    refine Zs [19,18,17] h24 (by kernel_rfl) (shd 34 [(53,aB true),(52,.undef),(51,.undef),(50,.undef),(49,.undef),(48,.undef),(47,.undef),(46,.undef),(45,.undef),(44,.undef),(43,.undef),(42,.undef),(41,.undef),(40,.undef),(39,aB true),(38,aB true),(37,.undef),(36,.undef),(35,.undef),(34,aB true),(33,aB true),(32,.undef),(31,.undef),(30,.undef),(29,aB true),(28,aB true),(27,.undef),(26,.undef),(25,.undef),(24,aB true),(23,aB true),(22,.undef),(21,.undef),(20,.undef)] (by kernel_rfl) (find [(1,aI a1),(2,.ptr 0 0),(5,aI 401),(53,aB true)] rfl (by kernel_rfl) (by kernel_rfl) (cT (by kernel_rfl) (sq (dn [(4,aI 401)] (wp_ret ?_))))))
    obtain rfl:=Option.some.inj hm
    exact ⟨trivial,by kernel_rfl⟩
   ·
    refine Zs [19,18,17] h24 (by kernel_rfl) (shd 5 [(24,aB (decide (a0.fRel < 0))),(23,aB (decide (a0.fRel < 0))),(22,aB (decide (a0.fRel < 0))),(21,aI a0.fRel),(20,.ptr 0 1)] (by kernel_rfl) ?_)
    rcases zo hm with ⟨h25,hm⟩ | ⟨h25,hm⟩
    ·
     refine Zs [24,23,22] h25 (by kernel_rfl) (shd 29 [(53,aB true),(52,.undef),(51,.undef),(50,.undef),(49,.undef),(48,.undef),(47,.undef),(46,.undef),(45,.undef),(44,.undef),(43,.undef),(42,.undef),(41,.undef),(40,.undef),(39,aB true),(38,aB true),(37,.undef),(36,.undef),(35,.undef),(34,aB true),(33,aB true),(32,.undef),(31,.undef),(30,.undef),(29,aB true),(28,aB true),(27,.undef),(26,.undef),(25,.undef)] (by kernel_rfl) (find [(1,aI a1),(2,.ptr 0 0),(5,aI 401),(53,aB true)] rfl (by kernel_rfl) (by kernel_rfl) (cT (by kernel_rfl) (sq (dn [(4,aI 401)] (wp_ret ?_))))))
     obtain rfl:=Option.some.inj hm
     exact ⟨trivial,by kernel_rfl⟩
    ·
     refine Zs [24,23,22] h25 (by kernel_rfl) (shd 5 [(29,aB (decide (a0.fRel > 31))),(28,aB (decide (a0.fRel > 31))),(27,aB (decide (a0.fRel > 31))),(26,aI a0.fRel),(25,.ptr 0 1)] (by kernel_rfl) ?_)
     rcases zo hm with ⟨h26,hm⟩ | ⟨h26,hm⟩
     ·
      refine Zs [29,28,27] h26 (by kernel_rfl) (shd 24 [(53,aB true),(52,.undef),(51,.undef),(50,.undef),(49,.undef),(48,.undef),(47,.undef),(46,.undef),(45,.undef),(44,.undef),(43,.undef),(42,.undef),(41,.undef),(40,.undef),(39,aB true),(38,aB true),(37,.undef),(36,.undef),(35,.undef),(34,aB true),(33,aB true),(32,.undef),(31,.undef),(30,.undef)] (by kernel_rfl) (find [(1,aI a1),(2,.ptr 0 0),(5,aI 401),(53,aB true)] rfl (by kernel_rfl) (by kernel_rfl) (cT (by kernel_rfl) (sq (dn [(4,aI 401)] (wp_ret ?_))))))
      obtain rfl:=Option.some.inj hm
      exact ⟨trivial,by kernel_rfl⟩
     ·
      refine Zs [29,28,27] h26 (by kernel_rfl) (shd 5 [(34,aB (decide (a0.fCol < 0))),(33,aB (decide (a0.fCol < 0))),(32,aB (decide (a0.fCol < 0))),(31,aI a0.fCol),(30,.ptr 0 2)] (by kernel_rfl) ?_)
      rcases zo hm with ⟨h27,hm⟩ | ⟨h27,hm⟩
      ·
       refine Zs [34,33,32] h27 (by kernel_rfl) (shd 19 [(53,aB true),(52,.undef),(51,.undef),(50,.undef),(49,.undef),(48,.undef),(47,.undef),(46,.undef),(45,.undef),(44,.undef),(43,.undef),(42,.undef),(41,.undef),(40,.undef),(39,aB true),(38,aB true),(37,.undef),(36,.undef),(35,.undef)] (by kernel_rfl) (find [(1,aI a1),(2,.ptr 0 0),(5,aI 401),(53,aB true)] rfl (by kernel_rfl) (by kernel_rfl) (cT (by kernel_rfl) (sq (dn [(4,aI 401)] (wp_ret ?_))))))
       obtain rfl:=Option.some.inj hm
       exact ⟨trivial,by kernel_rfl⟩
      ·
       refine Zs [34,33,32] h27 (by kernel_rfl) (shd 5 [(39,aB (decide (a0.fCol > 31))),(38,aB (decide (a0.fCol > 31))),(37,aB (decide (a0.fCol > 31))),(36,aI a0.fCol),(35,.ptr 0 2)] (by kernel_rfl) ?_)
       rcases zo hm with ⟨h28,hm⟩ | ⟨h28,hm⟩
       ·
        refine Zs [39,38,37] h28 (by kernel_rfl) (shd 14 [(53,aB true),(52,.undef),(51,.undef),(50,.undef),(49,.undef),(48,.undef),(47,.undef),(46,.undef),(45,.undef),(44,.undef),(43,.undef),(42,.undef),(41,.undef),(40,.undef)] (by kernel_rfl) (find [(1,aI a1),(2,.ptr 0 0),(5,aI 401),(53,aB true)] rfl (by kernel_rfl) (by kernel_rfl) (cT (by kernel_rfl) (sq (dn [(4,aI 401)] (wp_ret ?_))))))
        obtain rfl:=Option.some.inj hm
        exact ⟨trivial,by kernel_rfl⟩
       ·
        refine Zs [39,38,37] h28 (by kernel_rfl) (shd 4 [(43,aB (a0.fKind != 1)),(42,aB (a0.fKind != 1)),(41,aI a0.fKind),(40,.ptr 0 0)] (by kernel_rfl) ?_)
        rcases zo hm with ⟨h29,hm⟩ | ⟨h29,hm⟩
        ·
         refine Zs [43,42] h29 (by kernel_rfl) (shd 4 [(47,aB (a0.fRel != 0)),(46,aB (a0.fRel != 0)),(45,aI a0.fRel),(44,.ptr 0 1)] (by kernel_rfl) ?_)
         rcases zo hm with ⟨h30,hm⟩ | ⟨h30,hm⟩
         ·
          refine Zs [47,46] h30 (by kernel_rfl) (shd 6 [(53,aB true),(52,aB true),(51,aB true),(50,.undef),(49,.undef),(48,.undef)] (by kernel_rfl) (find [(1,aI a1),(2,.ptr 0 0),(5,aI 401),(53,aB true)] rfl (by kernel_rfl) (by kernel_rfl) (cT (by kernel_rfl) (sq (dn [(4,aI 401)] (wp_ret ?_))))))
          obtain rfl:=Option.some.inj hm
          exact ⟨trivial,by kernel_rfl⟩
         ·
          refine Zs [47,46] h30 (by kernel_rfl) (shd 6 [(53,aB (a0.fCol != 0)),(52,aB (a0.fCol != 0)),(51,aB (a0.fCol != 0)),(50,aB (a0.fCol != 0)),(49,aI a0.fCol),(48,.ptr 0 2)] (by kernel_rfl) (find [(1,aI a1),(2,.ptr 0 0),(5,aI 401),(53,aB (a0.fCol != 0))] rfl (by kernel_rfl) (by kernel_rfl) ?_))
          rcases zo hm with ⟨h31,hm⟩ | ⟨h31,hm⟩
          ·
           refine c1 h31 (sq (dn [(4,aI 401)] (wp_ret ?_)))
           obtain rfl:=Option.some.inj hm
           exact ⟨trivial,by kernel_rfl⟩
          ·
           refine c0 h31 (wp_skip ?_)
           exact ⟨(a0.fCol != 0),hm,rfl,rfl⟩
        ·
         refine Zs [43,42] h29 (by kernel_rfl) (shd 10 [(53,aB false),(52,aB false),(51,.undef),(50,.undef),(49,.undef),(48,.undef),(47,.undef),(46,.undef),(45,.undef),(44,.undef)] (by kernel_rfl) (find [(1,aI a1),(2,.ptr 0 0),(5,aI 401),(53,aB false)] rfl (by kernel_rfl) (by kernel_rfl) (cF (by kernel_rfl) (wp_skip ?_))))
         exact ⟨false,hm,rfl,rfl⟩
theorem adE:∀ (m:Nat),∀ {n:Nat} {a0:zj} {a1:Int} {r:Int} (hm:ql m n a0 a1=some r),call G n 204 [.agg (zc4 a0),aI a1] []=some (.ret (aI r),[])
  | 0=>by intros; rename_i hm; exact nomatch hm
  | m+1=>fun hm=>
    agH (adE m) hm
theorem ahS {n:Nat} {a0:zj} {a1:Int} {r:Int} (hm:aeC n a0 a1=some r):
    call G n 204 [.agg (zc4 a0),aI a1] []=some (.ret (aI r),[]):=adE n hm
theorem adG {n:Nat} {a0:zj} {r:Bool} (hm:QJ n a0=some r):
    call G n 164 [.agg (zc4 a0)] []=some (.ret (aB r),[]):=by
  unfold QJ at hm
  obtain ⟨n,rfl,h0⟩:=zB hm
  replace hm:=h0; clear h0
  refine Zr 6 [(0,.agg (zc4 a0))] func164 rfl (by kernel_rfl) (sq (det [(1,.ptr 0 0)] [.box (zc4 a0) false] (by kernel_rfl) (sq (rg (s1 1 [(3,.agg (zc4 a0))] ?_)))))
  obtain ⟨x1,h2,hm⟩:=bs hm
  refine dv 4 (zE (by kernel_rfl) (ahS h2) (by kernel_rfl) (by kernel_rfl) (by kernel_rfl)) (by kernel_rfl) (fq 2 [(2,aB (decide (x1≤400)))] (wp_ret ?_))
  obtain rfl:=Option.some.inj hm
  exact ⟨trivial,by kernel_rfl⟩
theorem abY {n:Nat} {a0:(Option (List zc))} {r:Bool} (hm:Qf n a0=some r):
    call G n 225 [.pv (zh zb a0)] []=some (.ret (aB r),[]):=by
  unfold Qf at hm
  obtain ⟨n,rfl,h0⟩:=zB hm
  replace hm:=h0; clear h0
  refine Zr 19 [(0,.pv (zh zb a0))] func225 rfl (by kernel_rfl) (sq (dn [(0,.pv (zh zb a0))] ?_))
  refine sq (sq (rg (s1 1 [(4,.pv (zh zb a0))] (dv 5 (v:=aI ((sll a0).length:Int)) (zy zb a0 t23 (by kernel_rfl)) (by kernel_rfl) (fq 1 [(0,.pv (zh zb a0)),(6,aB (decide (((sll a0).length:Int) > 60)))] ?_)))))
  rcases zo hm with ⟨h1,hm⟩ | ⟨h1,hm⟩
  ·
   refine c1 h1 (sq (dn [(2,aB false)] (wp_ret ?_)))
   obtain rfl:=Option.some.inj hm
   exact ⟨trivial,by kernel_rfl⟩
  ·
   refine c0 h1 (wp_skip ?_)
   obtain ⟨k4,hk4,hm⟩:=zz hm
   refine mid (fun t H=>(∃ (y2:Bool) (y3:Int),k4 ()=some r∧t=mk 19 [(0,.pv (zh zb a0)),(3,aI y3),(10,aB y2)]∧H=[])) ?_ ?_
   ·
    rintro _ _ ⟨y2,y3,hm,rfl,rfl⟩
    subst hk4
    refine sq (dn [(2,aB true)] (wp_ret ?_))
    obtain rfl:=Option.some.inj hm
    exact ⟨trivial,by kernel_rfl⟩
   refine sq (dn [(0,.pv (zh zb a0)),(3,aI 0)] (bq ?_))
   refine ZY (fun mm t H=>(∃ (y6:Int),qV n a0 k4 mm y6=some r∧t=mk 19 [(0,.pv (zh zb a0)),(3,aI y6)]∧H=[])) (⟨0,hm,rfl,rfl⟩) ?_ ?_
   · rintro _ _ ⟨y6,hm,_⟩; exact nomatch hm
   rintro m7 _ _ ⟨y6,hm,rfl,rfl⟩
   simp only [qV] at hm
   refine sq (sq (rg (s1 2 [(8,.pv (zh zb a0)),(7,aI y6)] (dv 9 (v:=aI ((sll a0).length:Int)) (zy zb a0 t23 (by kernel_rfl)) (by kernel_rfl) (fq 1 [(0,.pv (zh zb a0)),(3,aI y6),(10,aB (decide (y6 < ((sll a0).length:Int))))] ?_)))))
   rcases zo hm with ⟨h8,hm⟩ | ⟨h8,hm⟩
   ·
    refine c1 h8 (wp_skip (sq (bq (sq (rg (s1 2 [(14,aI y6),(13,.pv (zh zb a0))] ?_))))))
    obtain ⟨x9,h10,hm⟩:=bs hm
    refine dv 15 (v:=.pv (.ptr (zC (za x9)) 0)) (Zd zb a0 .i64 t23 t49 h10 (zx x9) rfl (by kernel_rfl)) (by kernel_rfl) (s1 1 [(16,.agg (zc8 x9))] ?_)
    obtain ⟨x11,h12,hm⟩:=bs hm
    refine dv 17 (zE (by kernel_rfl) (adG h12) (by kernel_rfl) (by kernel_rfl) (by kernel_rfl)) (by kernel_rfl) (fq 1 [(0,.pv (zh zb a0)),(3,aI y6),(18,aB (!x11))] ?_)
    rcases zo hm with ⟨h13,hm⟩ | ⟨h13,hm⟩
    ·
     refine c1 h13 (sq (dn [(2,aB false)] (wp_ret ?_)))
     obtain rfl:=Option.some.inj hm
     exact ⟨trivial,by kernel_rfl⟩
    ·
     refine c0 h13 (wp_skip (dn [(0,.pv (zh zb a0)),(3,aI (IntKind.wrap .i64 (y6+1)))] ?_))
     exact ⟨_,_,Zh [(0,.pv (zh zb a0)),(3,aI (IntKind.wrap .i64 (y6+1)))] [] (by kernel_rfl),⟨(IntKind.wrap .i64 (y6+1)),hm,rfl,rfl⟩⟩
   ·
    refine c0 h8 (wp_exit ?_)
    exact ⟨(decide (y6 < ((sll a0).length:Int))),y6,hm,rfl,rfl⟩
theorem ah9 {n:Nat} {a0:zk} {r:Bool} (hm:acs n a0=some r):
    call G n 177 [.agg (zc2 a0)] []=some (.ret (aB r),[]):=by
  unfold acs at hm
  obtain ⟨n,rfl,h0⟩:=zB hm
  replace hm:=h0; clear h0
  refine Zr 201 [(0,.agg (zc2 a0))] func177 rfl (by kernel_rfl) (sq (det [(1,.ptr 0 0)] [.box (zc2 a0) false] (by kernel_rfl) ?_))
  obtain ⟨k2,hk2,hm⟩:=zz hm
  refine mid (fun t H=>(∃ (y1:Bool),k2 ()=some r∧t=mk 201 [(1,.ptr 0 0),(32,aB y1)]∧H=[.box (zc2 a0) false])) ?_ ?_
  ·
   rintro _ _ ⟨y1,hm,rfl,rfl⟩
   subst hk2
   refine sq (sq (rg (s1 2 [(34,.pv (zh zb a0.fWhere)),(33,.ptr 0 2)] ?_)))
   obtain ⟨x3,h4,hm⟩:=bs hm
   refine dv 35 (zE (by kernel_rfl) (abY h4) (by kernel_rfl) (by kernel_rfl) (by kernel_rfl)) (by kernel_rfl) (s1 2 [(37,aB (!x3)),(36,aB (!x3))] ?_)
   rcases zo hm with ⟨h5,hm⟩ | ⟨h5,hm⟩
   ·
    refine known [37,36] h5 (by kernel_rfl) (fq 29 [(1,.ptr 0 0),(66,aB true)] (cT (by kernel_rfl) (sq (dn [(2,aB false)] (wp_ret ?_)))))
    obtain rfl:=Option.some.inj hm
    exact ⟨trivial,by kernel_rfl⟩
   ·
    refine known [37,36] h5 (by kernel_rfl) (s1 2 [(39,.pv (zh zb a0.fLeft)),(38,.ptr 0 3)] ?_)
    obtain ⟨x6,h7,hm⟩:=bs hm
    refine dv 40 (zE (by kernel_rfl) (abY h7) (by kernel_rfl) (by kernel_rfl) (by kernel_rfl)) (by kernel_rfl) (s1 3 [(43,aB (!x6)),(42,aB (!x6)),(41,aB (!x6))] ?_)
    rcases zo hm with ⟨h8,hm⟩ | ⟨h8,hm⟩
    ·
     refine known [43,42,41] h8 (by kernel_rfl) (fq 23 [(1,.ptr 0 0),(66,aB true)] (cT (by kernel_rfl) (sq (dn [(2,aB false)] (wp_ret ?_)))))
     obtain rfl:=Option.some.inj hm
     exact ⟨trivial,by kernel_rfl⟩
    ·
     refine known [43,42,41] h8 (by kernel_rfl) (s1 2 [(45,.pv (zh zb a0.fRight)),(44,.ptr 0 4)] ?_)
     obtain ⟨x9,h10,hm⟩:=bs hm
     refine dv 46 (zE (by kernel_rfl) (abY h10) (by kernel_rfl) (by kernel_rfl) (by kernel_rfl)) (by kernel_rfl) (s1 3 [(49,aB (!x9)),(48,aB (!x9)),(47,aB (!x9))] ?_)
     rcases zo hm with ⟨h11,hm⟩ | ⟨h11,hm⟩
     ·
      refine known [49,48,47] h11 (by kernel_rfl) (fq 17 [(1,.ptr 0 0),(66,aB true)] (cT (by kernel_rfl) (sq (dn [(2,aB false)] (wp_ret ?_)))))
      obtain rfl:=Option.some.inj hm
      exact ⟨trivial,by kernel_rfl⟩
     ·
      refine known [49,48,47] h11 (by kernel_rfl) (s1 2 [(51,.pv (zh zb a0.fOut)),(50,.ptr 0 5)] ?_)
      obtain ⟨x12,h13,hm⟩:=bs hm
      refine dv 52 (zE (by kernel_rfl) (abY h13) (by kernel_rfl) (by kernel_rfl) (by kernel_rfl)) (by kernel_rfl) (s1 3 [(55,aB (!x12)),(54,aB (!x12)),(53,aB (!x12))] ?_)
      refine seg (!x12) [55,54,53] (fun b=>[(60,aB (b || (decide (((sll a0.fAggs).length:Int) > 60)))),(59,ifA b (.undef) (aB (decide (((sll a0.fAggs).length:Int) > 60)))),(58,ifA b (.undef) (aI ((sll a0.fAggs).length:Int))),(57,ifA b (.undef) (.pv (zh zn a0.fAggs))),(56,ifA b (.undef) (.ptr 0 6))]) 28 (by kernel_rfl) ?_ ?_ ?_
      ·
       intro Q h
       refine s1 5 [(60,aB true),(59,.undef),(58,.undef),(57,.undef),(56,.undef)] ?_
       exact ZB (by kernel_rfl) (by kernel_rfl) h
      ·
       intro Q h
       refine s1 2 [(57,.pv (zh zn a0.fAggs)),(56,.ptr 0 6)] (dv 58 (v:=aI ((sll a0.fAggs).length:Int)) (zy zn a0.fAggs t24 (by kernel_rfl)) (by kernel_rfl) (s1 2 [(60,aB (decide (((sll a0.fAggs).length:Int) > 60))),(59,aB (decide (((sll a0.fAggs).length:Int) > 60)))] ?_))
       exact ZB (by kernel_rfl) (by kernel_rfl) h
      refine s1 1 [(61,aB ((!x12) || (decide (((sll a0.fAggs).length:Int) > 60))))] ?_
      refine seg ((!x12) || (decide (((sll a0.fAggs).length:Int) > 60))) [61,60] (fun b=>[(66,aB (b || (decide (((sll a0.fOrder).length:Int) > 60)))),(65,ifA b (.undef) (aB (decide (((sll a0.fOrder).length:Int) > 60)))),(64,ifA b (.undef) (aI ((sll a0.fOrder).length:Int))),(63,ifA b (.undef) (.pv (zh zp a0.fOrder))),(62,ifA b (.undef) (.ptr 0 7))]) 34 (by kernel_rfl) ?_ ?_ ?_
      ·
       intro Q h
       refine s1 5 [(66,aB true),(65,.undef),(64,.undef),(63,.undef),(62,.undef)] ?_
       exact ZB (by kernel_rfl) (by kernel_rfl) h
      ·
       intro Q h
       refine s1 2 [(63,.pv (zh zp a0.fOrder)),(62,.ptr 0 7)] (dv 64 (v:=aI ((sll a0.fOrder).length:Int)) (zy zp a0.fOrder t25 (by kernel_rfl)) (by kernel_rfl) (s1 2 [(66,aB (decide (((sll a0.fOrder).length:Int) > 60))),(65,aB (decide (((sll a0.fOrder).length:Int) > 60)))] ?_))
       exact ZB (by kernel_rfl) (by kernel_rfl) h
      refine fin [(1,.ptr 0 0),(66,aB (((!x12) || (decide (((sll a0.fAggs).length:Int) > 60))) || (decide (((sll a0.fOrder).length:Int) > 60))))] rfl (by kernel_rfl) ?_
      rcases zo hm with ⟨h14,hm⟩ | ⟨h14,hm⟩
      ·
       refine c1 h14 (sq (dn [(2,aB false)] (wp_ret ?_)))
       obtain rfl:=Option.some.inj hm
       exact ⟨trivial,by kernel_rfl⟩
      ·
       refine c0 h14 (wp_skip ?_)
       obtain ⟨k17,hk17,hm⟩:=zz hm
       refine mid (fun t H=>(∃ (y15:Int) (y16:Bool),k17 ()=some r∧t=mk 201 [(1,.ptr 0 0),(3,aI y15),(71,aB y16)]∧H=[.box (zc2 a0) false])) ?_ ?_
       ·
        rintro _ _ ⟨y15,y16,hm,rfl,rfl⟩
        subst hk17
        obtain ⟨k20,hk20,hm⟩:=zz hm
        refine mid (fun t H=>(∃ (y18:Bool) (y19:Int),k20 ()=some r∧t=mk 201 [(1,.ptr 0 0),(4,aI y19),(104,aB y18)]∧H=[.box (zc2 a0) false])) ?_ ?_
        ·
         rintro _ _ ⟨y18,y19,hm,rfl,rfl⟩
         subst hk20
         refine sq (rg (s1 4 [(126,aB (a0.fKind == 3)),(125,aB (a0.fKind == 3)),(124,aI a0.fKind),(123,.ptr 0 0)] ?_))
         refine segP (a0.fKind == 3) [126,125] (fun b=>[(130,aB (b || (a0.fKind == 4))),(129,ifA b (.undef) (aB (a0.fKind == 4))),(128,ifA b (.undef) (aI a0.fKind)),(127,ifA b (.undef) (.ptr 0 0))]) 4 (by kernel_rfl) (by kernel_rfl) (by kernel_rfl) (fq 1 [(1,.ptr 0 0),(5,aB ((a0.fKind == 3) || (a0.fKind == 4)))] ?_)
         refine sq (sq (rg (s1 2 [(132,.pv (zh zb a0.fWhere)),(131,.ptr 0 2)] (dv 133 (v:=aI ((sll a0.fWhere).length:Int)) (zy zb a0.fWhere t23 (by kernel_rfl)) (by kernel_rfl) (s1 2 [(135,aB (decide (((sll a0.fWhere).length:Int) > 0))),(134,aB (decide (((sll a0.fWhere).length:Int) > 0)))] ?_)))))
         refine segP (decide (((sll a0.fWhere).length:Int) > 0)) [135,134] (fun b=>[(139,aB (b && (decide (a0.fKind > 4)))),(138,ifA b (aB (decide (a0.fKind > 4))) (.undef)),(137,ifA b (aI a0.fKind) (.undef)),(136,ifA b (.ptr 0 0) (.undef))]) 4 (by kernel_rfl) (by kernel_rfl) (by kernel_rfl) (s1 1 [(140,aB ((decide (((sll a0.fWhere).length:Int) > 0)) && (decide (a0.fKind > 4))))] ?_)
         refine seg ((decide (((sll a0.fWhere).length:Int) > 0)) && (decide (a0.fKind > 4))) [140,139] (fun b=>[(148,aB (b || (((sll a0.fLeft).length:Int) != ((sll a0.fRight).length:Int)))),(147,ifA b (.undef) (aB (((sll a0.fLeft).length:Int) != ((sll a0.fRight).length:Int)))),(146,ifA b (.undef) (aI ((sll a0.fRight).length:Int))),(145,ifA b (.undef) (.pv (zh zb a0.fRight))),(144,ifA b (.undef) (.ptr 0 4)),(143,ifA b (.undef) (aI ((sll a0.fLeft).length:Int))),(142,ifA b (.undef) (.pv (zh zb a0.fLeft))),(141,ifA b (.undef) (.ptr 0 3))]) 18 (by kernel_rfl) ?_ ?_ ?_
         ·
          intro Q h
          refine s1 8 [(148,aB true),(147,.undef),(146,.undef),(145,.undef),(144,.undef),(143,.undef),(142,.undef),(141,.undef)] ?_
          exact ZB (by kernel_rfl) (by kernel_rfl) h
         ·
          intro Q h
          refine s1 2 [(142,.pv (zh zb a0.fLeft)),(141,.ptr 0 3)] (dv 143 (v:=aI ((sll a0.fLeft).length:Int)) (zy zb a0.fLeft t23 (by kernel_rfl)) (by kernel_rfl) (s1 2 [(145,.pv (zh zb a0.fRight)),(144,.ptr 0 4)] (dv 146 (v:=aI ((sll a0.fRight).length:Int)) (zy zb a0.fRight t23 (by kernel_rfl)) (by kernel_rfl) (s1 2 [(148,aB (((sll a0.fLeft).length:Int) != ((sll a0.fRight).length:Int))),(147,aB (((sll a0.fLeft).length:Int) != ((sll a0.fRight).length:Int)))] ?_))))
          exact ZB (by kernel_rfl) (by kernel_rfl) h
         refine s1 1 [(149,aB (((decide (((sll a0.fWhere).length:Int) > 0)) && (decide (a0.fKind > 4))) || (((sll a0.fLeft).length:Int) != ((sll a0.fRight).length:Int))))] ?_
         refine seg (((decide (((sll a0.fWhere).length:Int) > 0)) && (decide (a0.fKind > 4))) || (((sll a0.fLeft).length:Int) != ((sll a0.fRight).length:Int))) [149,148] (fun b=>[(156,aB (b || (!(((a0.fKind == 3) || (a0.fKind == 4)) == (decide (((sll a0.fLeft).length:Int) > 0)))))),(155,ifA b (.undef) (aB (!(((a0.fKind == 3) || (a0.fKind == 4)) == (decide (((sll a0.fLeft).length:Int) > 0)))))),(154,ifA b (.undef) (aB (decide (((sll a0.fLeft).length:Int) > 0)))),(153,ifA b (.undef) (aI ((sll a0.fLeft).length:Int))),(152,ifA b (.undef) (.pv (zh zb a0.fLeft))),(151,ifA b (.undef) (.ptr 0 3)),(150,ifA b (.undef) (aB ((a0.fKind == 3) || (a0.fKind == 4))))]) 26 (by kernel_rfl) ?_ ?_ ?_
         ·
          intro Q h
          refine s1 7 [(156,aB true),(155,.undef),(154,.undef),(153,.undef),(152,.undef),(151,.undef),(150,.undef)] ?_
          exact ZB (by kernel_rfl) (by kernel_rfl) h
         ·
          intro Q h
          refine s1 3 [(152,.pv (zh zb a0.fLeft)),(151,.ptr 0 3),(150,aB ((a0.fKind == 3) || (a0.fKind == 4)))] (dv 153 (v:=aI ((sll a0.fLeft).length:Int)) (zy zb a0.fLeft t23 (by kernel_rfl)) (by kernel_rfl) (s1 3 [(156,aB (!(((a0.fKind == 3) || (a0.fKind == 4)) == (decide (((sll a0.fLeft).length:Int) > 0))))),(155,aB (!(((a0.fKind == 3) || (a0.fKind == 4)) == (decide (((sll a0.fLeft).length:Int) > 0))))),(154,aB (decide (((sll a0.fLeft).length:Int) > 0)))] ?_))
          exact ZB (by kernel_rfl) (by kernel_rfl) h
         refine fin [(1,.ptr 0 0),(156,aB ((((decide (((sll a0.fWhere).length:Int) > 0)) && (decide (a0.fKind > 4))) || (((sll a0.fLeft).length:Int) != ((sll a0.fRight).length:Int))) || (!(((a0.fKind == 3) || (a0.fKind == 4)) == (decide (((sll a0.fLeft).length:Int) > 0))))))] rfl (by kernel_rfl) ?_
         rcases zo hm with ⟨h21,hm⟩ | ⟨h21,hm⟩
         ·
          refine c1 h21 (sq (dn [(2,aB false)] (wp_ret ?_)))
          obtain rfl:=Option.some.inj hm
          exact ⟨trivial,by kernel_rfl⟩
         ·
          refine c0 h21 (wp_skip ?_)
          refine sq (sq (rg (s1 2 [(158,.pv (zh zb a0.fOut)),(157,.ptr 0 5)] (dv 159 (v:=aI ((sll a0.fOut).length:Int)) (zy zb a0.fOut t23 (by kernel_rfl)) (by kernel_rfl) (s1 2 [(161,aB (decide (((sll a0.fOut).length:Int) > 0))),(160,aB (decide (((sll a0.fOut).length:Int) > 0)))] ?_)))))
          refine segP (decide (((sll a0.fOut).length:Int) > 0)) [161,160] (fun b=>[(165,aB (b && (a0.fKind != 5))),(164,ifA b (aB (a0.fKind != 5)) (.undef)),(163,ifA b (aI a0.fKind) (.undef)),(162,ifA b (.ptr 0 0) (.undef))]) 4 (by kernel_rfl) (by kernel_rfl) (by kernel_rfl) (s1 1 [(166,aB ((decide (((sll a0.fOut).length:Int) > 0)) && (a0.fKind != 5)))] ?_)
          refine segP ((decide (((sll a0.fOut).length:Int) > 0)) && (a0.fKind != 5)) [166,165] (fun b=>[(170,aB (b && (a0.fKind != 6))),(169,ifA b (aB (a0.fKind != 6)) (.undef)),(168,ifA b (aI a0.fKind) (.undef)),(167,ifA b (.ptr 0 0) (.undef))]) 4 (by kernel_rfl) (by kernel_rfl) (by kernel_rfl) (s1 1 [(171,aB (((decide (((sll a0.fOut).length:Int) > 0)) && (a0.fKind != 5)) && (a0.fKind != 6)))] ?_)
          refine seg (((decide (((sll a0.fOut).length:Int) > 0)) && (a0.fKind != 5)) && (a0.fKind != 6)) [171,170] (fun b=>[(181,aB (b || ((a0.fKind == 6) && (((sll a0.fOut).length:Int) == 0)))),(180,ifA b (.undef) (aB ((a0.fKind == 6) && (((sll a0.fOut).length:Int) == 0)))),(179,ifA b (.undef) (ifA (a0.fKind == 6) (aB (((sll a0.fOut).length:Int) == 0)) (.undef))),(178,ifA b (.undef) (ifA (a0.fKind == 6) (aI ((sll a0.fOut).length:Int)) (.undef))),(177,ifA b (.undef) (ifA (a0.fKind == 6) (.pv (zh zb a0.fOut)) (.undef))),(176,ifA b (.undef) (ifA (a0.fKind == 6) (.ptr 0 5) (.undef))),(175,ifA b (.undef) (aB (a0.fKind == 6))),(174,ifA b (.undef) (aB (a0.fKind == 6))),(173,ifA b (.undef) (aI a0.fKind)),(172,ifA b (.undef) (.ptr 0 0))]) 25 (by kernel_rfl) ?_ ?_ ?_
          ·
           intro Q h
           refine s1 10 [(181,aB true),(180,.undef),(179,.undef),(178,.undef),(177,.undef),(176,.undef),(175,.undef),(174,.undef),(173,.undef),(172,.undef)] ?_
           exact ZB (by kernel_rfl) (by kernel_rfl) h
          ·
           intro Q h
           refine s1 4 [(175,aB (a0.fKind == 6)),(174,aB (a0.fKind == 6)),(173,aI a0.fKind),(172,.ptr 0 0)] ?_
           refine seg (a0.fKind == 6) [175,174] (fun b=>[(180,aB (b && (((sll a0.fOut).length:Int) == 0))),(179,ifA b (aB (((sll a0.fOut).length:Int) == 0)) (.undef)),(178,ifA b (aI ((sll a0.fOut).length:Int)) (.undef)),(177,ifA b (.pv (zh zb a0.fOut)) (.undef)),(176,ifA b (.ptr 0 5) (.undef))]) 24 (by kernel_rfl) ?_ ?_ ?_
           ·
            intro Q h
            refine s1 2 [(177,.pv (zh zb a0.fOut)),(176,.ptr 0 5)] (dv 178 (v:=aI ((sll a0.fOut).length:Int)) (zy zb a0.fOut t23 (by kernel_rfl)) (by kernel_rfl) (s1 2 [(180,aB (((sll a0.fOut).length:Int) == 0)),(179,aB (((sll a0.fOut).length:Int) == 0))] ?_))
            exact ZB (by kernel_rfl) (by kernel_rfl) h
           ·
            intro Q h
            refine s1 5 [(180,aB false),(179,.undef),(178,.undef),(177,.undef),(176,.undef)] ?_
            exact ZB (by kernel_rfl) (by kernel_rfl) h
           refine s1 1 [(181,aB ((a0.fKind == 6) && (((sll a0.fOut).length:Int) == 0)))] ?_
           exact ZB (by kernel_rfl) (by kernel_rfl) h
          refine s1 1 [(182,aB ((((decide (((sll a0.fOut).length:Int) > 0)) && (a0.fKind != 5)) && (a0.fKind != 6)) || ((a0.fKind == 6) && (((sll a0.fOut).length:Int) == 0))))] ?_
          refine seg ((((decide (((sll a0.fOut).length:Int) > 0)) && (a0.fKind != 5)) && (a0.fKind != 6)) || ((a0.fKind == 6) && (((sll a0.fOut).length:Int) == 0))) [182,181] (fun b=>[(192,aB (b || ((decide (((sll a0.fAggs).length:Int) > 0)) && (a0.fKind != 5)))),(191,ifA b (.undef) (aB ((decide (((sll a0.fAggs).length:Int) > 0)) && (a0.fKind != 5)))),(190,ifA b (.undef) (ifA (decide (((sll a0.fAggs).length:Int) > 0)) (aB (a0.fKind != 5)) (.undef))),(189,ifA b (.undef) (ifA (decide (((sll a0.fAggs).length:Int) > 0)) (aI a0.fKind) (.undef))),(188,ifA b (.undef) (ifA (decide (((sll a0.fAggs).length:Int) > 0)) (.ptr 0 0) (.undef))),(187,ifA b (.undef) (aB (decide (((sll a0.fAggs).length:Int) > 0)))),(186,ifA b (.undef) (aB (decide (((sll a0.fAggs).length:Int) > 0)))),(185,ifA b (.undef) (aI ((sll a0.fAggs).length:Int))),(184,ifA b (.undef) (.pv (zh zn a0.fAggs))),(183,ifA b (.undef) (.ptr 0 6))]) 36 (by kernel_rfl) ?_ ?_ ?_
          ·
           intro Q h
           refine s1 10 [(192,aB true),(191,.undef),(190,.undef),(189,.undef),(188,.undef),(187,.undef),(186,.undef),(185,.undef),(184,.undef),(183,.undef)] ?_
           exact ZB (by kernel_rfl) (by kernel_rfl) h
          ·
           intro Q h
           refine s1 2 [(184,.pv (zh zn a0.fAggs)),(183,.ptr 0 6)] (dv 185 (v:=aI ((sll a0.fAggs).length:Int)) (zy zn a0.fAggs t24 (by kernel_rfl)) (by kernel_rfl) (s1 2 [(187,aB (decide (((sll a0.fAggs).length:Int) > 0))),(186,aB (decide (((sll a0.fAggs).length:Int) > 0)))] ?_))
           refine segP (decide (((sll a0.fAggs).length:Int) > 0)) [187,186] (fun b=>[(191,aB (b && (a0.fKind != 5))),(190,ifA b (aB (a0.fKind != 5)) (.undef)),(189,ifA b (aI a0.fKind) (.undef)),(188,ifA b (.ptr 0 0) (.undef))]) 4 (by kernel_rfl) (by kernel_rfl) (by kernel_rfl) (s1 1 [(192,aB ((decide (((sll a0.fAggs).length:Int) > 0)) && (a0.fKind != 5)))] ?_)
           exact ZB (by kernel_rfl) (by kernel_rfl) h
          refine fin [(1,.ptr 0 0),(192,aB (((((decide (((sll a0.fOut).length:Int) > 0)) && (a0.fKind != 5)) && (a0.fKind != 6)) || ((a0.fKind == 6) && (((sll a0.fOut).length:Int) == 0))) || ((decide (((sll a0.fAggs).length:Int) > 0)) && (a0.fKind != 5))))] rfl (by kernel_rfl) ?_
          rcases zo hm with ⟨h22,hm⟩ | ⟨h22,hm⟩
          ·
           refine c1 h22 (sq (dn [(2,aB false)] (wp_ret ?_)))
           obtain rfl:=Option.some.inj hm
           exact ⟨trivial,by kernel_rfl⟩
          ·
           refine c0 h22 (wp_skip (sq (rg (s1 5 [(197,.pv (zh zp a0.fOrder)),(196,.ptr 0 7),(195,aB (a0.fKind == 7)),(194,aI a0.fKind),(193,.ptr 0 0)] (dv 198 (v:=aI ((sll a0.fOrder).length:Int)) (zy zp a0.fOrder t25 (by kernel_rfl)) (by kernel_rfl) (fq 3 [(2,aB ((a0.fKind == 7) == (decide (((sll a0.fOrder).length:Int) > 0))))] (wp_ret ?_)))))))
           obtain rfl:=Option.some.inj hm
           exact ⟨trivial,by kernel_rfl⟩
        refine sq (dn [(1,.ptr 0 0),(4,aI 0)] (bq ?_))
        refine ZY (fun mm t H=>(∃ (y24:Int),ZX n a0 k20 mm y24=some r∧t=mk 201 [(1,.ptr 0 0),(4,aI y24)]∧H=[.box (zc2 a0) false])) (⟨0,hm,rfl,rfl⟩) ?_ ?_
        · rintro _ _ ⟨y24,hm,_⟩; exact nomatch hm
        rintro m25 _ _ ⟨y24,hm,rfl,rfl⟩
        simp only [ZX] at hm
        refine sq (sq (rg (s1 3 [(102,.pv (zh zp a0.fOrder)),(101,.ptr 0 7),(100,aI y24)] (dv 103 (v:=aI ((sll a0.fOrder).length:Int)) (zy zp a0.fOrder t25 (by kernel_rfl)) (by kernel_rfl) (fq 1 [(1,.ptr 0 0),(4,aI y24),(104,aB (decide (y24 < ((sll a0.fOrder).length:Int))))] ?_)))))
        rcases zo hm with ⟨h26,hm⟩ | ⟨h26,hm⟩
        ·
         refine c1 h26 (wp_skip (sq (bq (sq (rg (s1 3 [(109,aI y24),(108,.pv (zh zp a0.fOrder)),(107,.ptr 0 7)] ?_))))))
         obtain ⟨x27,h28,hm⟩:=bs hm
         refine dv 110 (v:=.pv (.ptr (zp x27) 0)) (qA zp a0.fOrder .i64 t25 t86 h28 rfl (by kernel_rfl)) (by kernel_rfl) (s1 4 [(114,aB (decide (x27.fOut < 0))),(113,aB (decide (x27.fOut < 0))),(112,aI x27.fOut),(111,.pv (.ptr (zp x27) 0))] ?_)
         refine seg (decide (x27.fOut < 0)) [114,113] (fun b=>[(122,aB (b || (decide (x27.fOut > 29)))),(121,ifA b (.undef) (aB (decide (x27.fOut > 29)))),(120,ifA b (.undef) (aI x27.fOut)),(119,ifA b (.undef) (.pv (.ptr (zp x27) 0))),(118,ifA b (.undef) (.pv (.ptr (zp x27) 0))),(117,ifA b (.undef) (aI y24)),(116,ifA b (.undef) (.pv (zh zp a0.fOrder))),(115,ifA b (.undef) (.ptr 0 7))]) 16 (by kernel_rfl) ?_ ?_ ?_
         ·
          intro Q h
          refine s1 8 [(122,aB true),(121,.undef),(120,.undef),(119,.undef),(118,.undef),(117,.undef),(116,.undef),(115,.undef)] ?_
          exact ZB (by kernel_rfl) (by kernel_rfl) h
         ·
          intro Q h
          refine s1 3 [(117,aI y24),(116,.pv (zh zp a0.fOrder)),(115,.ptr 0 7)] (dv 118 (v:=.pv (.ptr (zp x27) 0)) (qA zp a0.fOrder .i64 t25 t86 h28 rfl (by kernel_rfl)) (by kernel_rfl) (s1 4 [(122,aB (decide (x27.fOut > 29))),(121,aB (decide (x27.fOut > 29))),(120,aI x27.fOut),(119,.pv (.ptr (zp x27) 0))] ?_))
          exact ZB (by kernel_rfl) (by kernel_rfl) h
         refine fin [(1,.ptr 0 0),(4,aI y24),(122,aB ((decide (x27.fOut < 0)) || (decide (x27.fOut > 29))))] rfl (by kernel_rfl) ?_
         rcases zo hm with ⟨h29,hm⟩ | ⟨h29,hm⟩
         ·
          refine c1 h29 (sq (dn [(2,aB false)] (wp_ret ?_)))
          obtain rfl:=Option.some.inj hm
          exact ⟨trivial,by kernel_rfl⟩
         ·
          refine c0 h29 (wp_skip (dn [(1,.ptr 0 0),(4,aI (IntKind.wrap .i64 (y24+1)))] ?_))
          exact ⟨_,_,Zh [(1,.ptr 0 0),(4,aI (IntKind.wrap .i64 (y24+1)))] [.box (zc2 a0) false] (by kernel_rfl),⟨(IntKind.wrap .i64 (y24+1)),hm,rfl,rfl⟩⟩
        ·
         refine c0 h26 (wp_exit ?_)
         exact ⟨(decide (y24 < ((sll a0.fOrder).length:Int))),y24,hm,rfl,rfl⟩
       refine sq (dn [(1,.ptr 0 0),(3,aI 0)] (bq ?_))
       refine ZY (fun mm t H=>(∃ (y31:Int),qo n a0 k17 mm y31=some r∧t=mk 201 [(1,.ptr 0 0),(3,aI y31)]∧H=[.box (zc2 a0) false])) (⟨0,hm,rfl,rfl⟩) ?_ ?_
       · rintro _ _ ⟨y31,hm,_⟩; exact nomatch hm
       rintro m32 _ _ ⟨y31,hm,rfl,rfl⟩
       simp only [qo] at hm
       refine sq (sq (rg (s1 3 [(69,.pv (zh zn a0.fAggs)),(68,.ptr 0 6),(67,aI y31)] (dv 70 (v:=aI ((sll a0.fAggs).length:Int)) (zy zn a0.fAggs t24 (by kernel_rfl)) (by kernel_rfl) (fq 1 [(1,.ptr 0 0),(3,aI y31),(71,aB (decide (y31 < ((sll a0.fAggs).length:Int))))] ?_)))))
       rcases zo hm with ⟨h33,hm⟩ | ⟨h33,hm⟩
       ·
        refine c1 h33 (wp_skip (sq (bq (sq (rg (s1 3 [(76,aI y31),(75,.pv (zh zn a0.fAggs)),(74,.ptr 0 6)] ?_))))))
        obtain ⟨x34,h35,hm⟩:=bs hm
        refine dv 77 (v:=.pv (.ptr (zn x34) 0)) (qA zn a0.fAggs .i64 t24 t101 h35 rfl (by kernel_rfl)) (by kernel_rfl) (s1 4 [(81,aB (decide (x34.fKind < 1))),(80,aB (decide (x34.fKind < 1))),(79,aI x34.fKind),(78,.pv (.ptr (zn x34) 0))] ?_)
        refine seg (decide (x34.fKind < 1)) [81,80] (fun b=>[(89,aB (b || (decide (x34.fKind > 4)))),(88,ifA b (.undef) (aB (decide (x34.fKind > 4)))),(87,ifA b (.undef) (aI x34.fKind)),(86,ifA b (.undef) (.pv (.ptr (zn x34) 0))),(85,ifA b (.undef) (.pv (.ptr (zn x34) 0))),(84,ifA b (.undef) (aI y31)),(83,ifA b (.undef) (.pv (zh zn a0.fAggs))),(82,ifA b (.undef) (.ptr 0 6))]) 16 (by kernel_rfl) ?_ ?_ ?_
        ·
         intro Q h
         refine s1 8 [(89,aB true),(88,.undef),(87,.undef),(86,.undef),(85,.undef),(84,.undef),(83,.undef),(82,.undef)] ?_
         exact ZB (by kernel_rfl) (by kernel_rfl) h
        ·
         intro Q h
         refine s1 3 [(84,aI y31),(83,.pv (zh zn a0.fAggs)),(82,.ptr 0 6)] (dv 85 (v:=.pv (.ptr (zn x34) 0)) (qA zn a0.fAggs .i64 t24 t101 h35 rfl (by kernel_rfl)) (by kernel_rfl) (s1 4 [(89,aB (decide (x34.fKind > 4))),(88,aB (decide (x34.fKind > 4))),(87,aI x34.fKind),(86,.pv (.ptr (zn x34) 0))] ?_))
         exact ZB (by kernel_rfl) (by kernel_rfl) h
        refine s1 1 [(90,aB ((decide (x34.fKind < 1)) || (decide (x34.fKind > 4))))] ?_
        rcases zo hm with ⟨h36,hm⟩ | ⟨h36,hm⟩
        ·
         refine known [90,89] h36 (by kernel_rfl) (fq 9 [(1,.ptr 0 0),(3,aI y31),(99,aB true)] (cT (by kernel_rfl) (sq (dn [(2,aB false)] (wp_ret ?_)))))
         obtain rfl:=Option.some.inj hm
         exact ⟨trivial,by kernel_rfl⟩
        ·
         refine known [90,89] h36 (by kernel_rfl) (s1 3 [(93,aI y31),(92,.pv (zh zn a0.fAggs)),(91,.ptr 0 6)] (dv 94 (v:=.pv (.ptr (zn x34) 0)) (qA zn a0.fAggs .i64 t24 t101 h35 rfl (by kernel_rfl)) (by kernel_rfl) (s1 2 [(96,.agg (zc1 x34)),(95,.pv (.ptr (zn x34) 1))] ?_)))
         obtain ⟨x37,h38,hm⟩:=bs hm
         refine dv 97 (zE (by kernel_rfl) (adG h38) (by kernel_rfl) (by kernel_rfl) (by kernel_rfl)) (by kernel_rfl) (fq 2 [(1,.ptr 0 0),(3,aI y31),(99,aB (!x37))] ?_)
         rcases zo hm with ⟨h39,hm⟩ | ⟨h39,hm⟩
         ·
          refine c1 h39 (sq (dn [(2,aB false)] (wp_ret ?_)))
          obtain rfl:=Option.some.inj hm
          exact ⟨trivial,by kernel_rfl⟩
         ·
          refine c0 h39 (wp_skip (dn [(1,.ptr 0 0),(3,aI (IntKind.wrap .i64 (y31+1)))] ?_))
          exact ⟨_,_,Zh [(1,.ptr 0 0),(3,aI (IntKind.wrap .i64 (y31+1)))] [.box (zc2 a0) false] (by kernel_rfl),⟨(IntKind.wrap .i64 (y31+1)),hm,rfl,rfl⟩⟩
       ·
        refine c0 h33 (wp_exit ?_)
        exact ⟨y31,(decide (y31 < ((sll a0.fAggs).length:Int))),hm,rfl,rfl⟩
  refine sq (rgd (shd 2 [(7,aI a0.fKind),(6,.ptr 0 0)] (by kernel_rfl) ?_))
  obtain ⟨x40,h41,hm⟩:=bs hm
  refine dvd 8 (zE (by kernel_rfl) (aic h41) (by kernel_rfl) (by kernel_rfl) (by kernel_rfl)) (by kernel_rfl) (shd 2 [(10,.pv (zh zg a0.fKids)),(9,.ptr 0 8)] (by kernel_rfl) (dvd 11 (v:=aI ((sll a0.fKids).length:Int)) (zy zg a0.fKids t64 (by kernel_rfl)) (by kernel_rfl) (shd 2 [(13,aB (x40 != ((sll a0.fKids).length:Int))),(12,aB (x40 != ((sll a0.fKids).length:Int)))] (by kernel_rfl) ?_)))
  rcases zo hm with ⟨h42,hm⟩ | ⟨h42,hm⟩
  ·
   refine Zs [13,12] h42 (by kernel_rfl) (shd 19 [(32,aB true),(31,.undef),(30,.undef),(29,.undef),(28,.undef),(27,.undef),(26,.undef),(25,.undef),(24,.undef),(23,aB true),(22,aB true),(21,.undef),(20,.undef),(19,.undef),(18,aB true),(17,aB true),(16,.undef),(15,.undef),(14,.undef)] (by kernel_rfl) (find [(1,.ptr 0 0),(32,aB true)] rfl (by kernel_rfl) (by kernel_rfl) (cT (by kernel_rfl) (sq (dn [(2,aB false)] (wp_ret ?_))))))
   obtain rfl:=Option.some.inj hm
   exact ⟨trivial,by kernel_rfl⟩
  ·
   refine Zs [13,12] h42 (by kernel_rfl) (shd 5 [(18,aB (decide (a0.fRel < 0))),(17,aB (decide (a0.fRel < 0))),(16,aB (decide (a0.fRel < 0))),(15,aI a0.fRel),(14,.ptr 0 1)] (by kernel_rfl) ?_)
   rcases zo hm with ⟨h43,hm⟩ | ⟨h43,hm⟩
   ·
    refine Zs [18,17,16] h43 (by kernel_rfl) (shd 14 [(32,aB true),(31,.undef),(30,.undef),(29,.undef),(28,.undef),(27,.undef),(26,.undef),(25,.undef),(24,.undef),(23,aB true),(22,aB true),(21,.undef),(20,.undef),(19,.undef)] (by kernel_rfl) (find [(1,.ptr 0 0),(32,aB true)] rfl (by kernel_rfl) (by kernel_rfl) (cT (by kernel_rfl) (sq (dn [(2,aB false)] (wp_ret ?_))))))
    obtain rfl:=Option.some.inj hm
    exact ⟨trivial,by kernel_rfl⟩
   ·
    refine Zs [18,17,16] h43 (by kernel_rfl) (shd 5 [(23,aB (decide (a0.fRel≥12))),(22,aB (decide (a0.fRel≥12))),(21,aB (decide (a0.fRel≥12))),(20,aI a0.fRel),(19,.ptr 0 1)] (by kernel_rfl) ?_)
    rcases zo hm with ⟨h44,hm⟩ | ⟨h44,hm⟩
    ·
     refine Zs [23,22,21] h44 (by kernel_rfl) (shd 9 [(32,aB true),(31,.undef),(30,.undef),(29,.undef),(28,.undef),(27,.undef),(26,.undef),(25,.undef),(24,.undef)] (by kernel_rfl) (find [(1,.ptr 0 0),(32,aB true)] rfl (by kernel_rfl) (by kernel_rfl) (cT (by kernel_rfl) (sq (dn [(2,aB false)] (wp_ret ?_))))))
     obtain rfl:=Option.some.inj hm
     exact ⟨trivial,by kernel_rfl⟩
    ·
     refine Zs [23,22,21] h44 (by kernel_rfl) (shd 4 [(27,aB (a0.fRel != 0)),(26,aB (a0.fRel != 0)),(25,aI a0.fRel),(24,.ptr 0 1)] (by kernel_rfl) ?_)
     rcases zo hm with ⟨h45,hm⟩ | ⟨h45,hm⟩
     ·
      refine Zs [27,26] h45 (by kernel_rfl) (shd 5 [(32,aB (a0.fKind != 1)),(31,aB (a0.fKind != 1)),(30,aB (a0.fKind != 1)),(29,aI a0.fKind),(28,.ptr 0 0)] (by kernel_rfl) (find [(1,.ptr 0 0),(32,aB (a0.fKind != 1))] rfl (by kernel_rfl) (by kernel_rfl) ?_))
      rcases zo hm with ⟨h46,hm⟩ | ⟨h46,hm⟩
      ·
       refine c1 h46 (sq (dn [(2,aB false)] (wp_ret ?_)))
       obtain rfl:=Option.some.inj hm
       exact ⟨trivial,by kernel_rfl⟩
      ·
       refine c0 h46 (wp_skip ?_)
       exact ⟨(a0.fKind != 1),hm,rfl,rfl⟩
     ·
      refine Zs [27,26] h45 (by kernel_rfl) (shd 5 [(32,aB false),(31,aB false),(30,.undef),(29,.undef),(28,.undef)] (by kernel_rfl) (find [(1,.ptr 0 0),(32,aB false)] rfl (by kernel_rfl) (by kernel_rfl) (cF (by kernel_rfl) (wp_skip ?_))))
      exact ⟨false,hm,rfl,rfl⟩
theorem agI {rc_ref25_count:(Nat→zk→Int→Option (Int))} (ih_ref25_count:∀ {n:Nat} {a0:zk} {a1:Int} {r:Int} (hm:rc_ref25_count n a0 a1=some r),call G n 126 [.agg [aI a0.fKind,aI a0.fRel,.pv (zh zb a0.fWhere),.pv (zh zb a0.fLeft),.pv (zh zb a0.fRight),.pv (zh zb a0.fOut),.pv (zh zn a0.fAggs),.pv (zh zp a0.fOrder),.pv (zh zg a0.fKids)],aI a1] []=some (.ret (aI r),[])) {n:Nat} {a0:zk} {a1:Int} {r:Int} (hm:Qn rc_ref25_count n a0 a1=some r):
    call G n 126 [.agg (zc2 a0),aI a1] []=some (.ret (aI r),[]):=by
  unfold Qn at hm
  obtain ⟨n,rfl,h0⟩:=zB hm
  replace hm:=h0; clear h0
  refine Zr 34 [(0,.agg (zc2 a0)),(1,aI a1)] func126 rfl (by kernel_rfl) (sq (det [(1,aI a1),(2,.ptr 0 0)] [.box (zc2 a0) false] (by kernel_rfl) ?_))
  refine sq (sq (rg (s1 3 [(9,aB (decide (a1 > 24))),(8,aB (decide (a1 > 24))),(7,aI a1)] ?_)))
  rcases zo hm with ⟨h1,hm⟩ | ⟨h1,hm⟩
  ·
   refine known [9,8] h1 (by kernel_rfl) (fq 4 [(1,aI a1),(2,.ptr 0 0),(13,aB true)] (cT (by kernel_rfl) (sq (dn [(4,aI 41)] (wp_ret ?_)))))
   obtain rfl:=Option.some.inj hm
   exact ⟨trivial,by kernel_rfl⟩
  ·
   refine known [9,8] h1 (by kernel_rfl) (s1 1 [(10,.agg (zc2 a0))] ?_)
   obtain ⟨x2,h3,hm⟩:=bs hm
   refine dv 11 (zE (by kernel_rfl) (ah9 h3) (by kernel_rfl) (by kernel_rfl) (by kernel_rfl)) (by kernel_rfl) (fq 2 [(1,aI a1),(2,.ptr 0 0),(13,aB (!x2))] ?_)
   rcases zo hm with ⟨h4,hm⟩ | ⟨h4,hm⟩
   ·
    refine c1 h4 (sq (dn [(4,aI 41)] (wp_ret ?_)))
    obtain rfl:=Option.some.inj hm
    exact ⟨trivial,by kernel_rfl⟩
   ·
    refine c0 h4 (wp_skip (sq (dn [(1,aI a1),(2,.ptr 0 0),(5,aI 1)] ?_)))
    obtain ⟨k8,hk8,hm⟩:=zz hm
    refine mid (fun t H=>(∃ (y5:Bool) (y6:Int) (y7:Int),k8 y6=some r∧t=mk 34 [(1,aI a1),(2,.ptr 0 0),(5,aI y6),(6,aI y7),(18,aB y5)]∧H=[.box (zc2 a0) false])) ?_ ?_
    ·
     rintro _ _ ⟨y5,y6,y7,hm,rfl,rfl⟩
     subst hk8
     refine sq (dn [(4,aI y6)] (wp_ret ?_))
     obtain rfl:=Option.some.inj hm
     exact ⟨trivial,by kernel_rfl⟩
    refine sq (dn [(1,aI a1),(2,.ptr 0 0),(5,aI 1),(6,aI 0)] (bq ?_))
    refine ZY (fun mm t H=>(∃ (y11:Int) (y12:Int),aaj n rc_ref25_count a0 a1 k8 mm y11 y12=some r∧t=mk 34 [(1,aI a1),(2,.ptr 0 0),(5,aI y11),(6,aI y12)]∧H=[.box (zc2 a0) false])) (⟨1,0,hm,rfl,rfl⟩) ?_ ?_
    · rintro _ _ ⟨y11,y12,hm,_⟩; exact nomatch hm
    rintro m13 _ _ ⟨y11,y12,hm,rfl,rfl⟩
    simp only [aaj] at hm
    refine sq (sq (rg (s1 3 [(16,.pv (zh zg a0.fKids)),(15,.ptr 0 8),(14,aI y12)] (dv 17 (v:=aI ((sll a0.fKids).length:Int)) (zy zg a0.fKids t64 (by kernel_rfl)) (by kernel_rfl) (fq 1 [(1,aI a1),(2,.ptr 0 0),(5,aI y11),(6,aI y12),(18,aB (decide (y12 < ((sll a0.fKids).length:Int))))] ?_)))))
    rcases zo hm with ⟨h14,hm⟩ | ⟨h14,hm⟩
    ·
     refine c1 h14 (wp_skip (sq (bq (sq (rg (s1 4 [(24,aI y12),(23,.pv (zh zg a0.fKids)),(22,.ptr 0 8),(21,aI y11)] ?_))))))
     obtain ⟨x15,h16,hm⟩:=bs hm
     refine dv 25 (v:=.pv (.ptr (zG (zd x15)) 0)) (Zd zg a0.fKids .i64 t64 t66 h16 (zF x15) rfl (by kernel_rfl)) (by kernel_rfl) (s1 3 [(28,aI (IntKind.wrap .i64 (a1+1))),(27,aI a1),(26,.agg (zc3 x15))] ?_)
     obtain ⟨x17,h18,hm⟩:=bs hm
     refine dv 29 (zE (by kernel_rfl) (ih_ref25_count h18) (by kernel_rfl) (by kernel_rfl) (by kernel_rfl)) (by kernel_rfl) (fq 2 [(1,aI a1),(2,.ptr 0 0),(5,aI (IntKind.wrap .i64 (y11+x17))),(6,aI y12)] (sq (dn [(1,aI a1),(2,.ptr 0 0),(5,aI (IntKind.wrap .i64 (y11+x17))),(6,aI y12),(32,aB (decide ((IntKind.wrap .i64 (y11+x17)) > 40)))] ?_)))
     rcases zo hm with ⟨h19,hm⟩ | ⟨h19,hm⟩
     ·
      refine c1 h19 (sq (dn [(4,aI 41)] (wp_ret ?_)))
      obtain rfl:=Option.some.inj hm
      exact ⟨trivial,by kernel_rfl⟩
     ·
      refine c0 h19 (wp_skip (dn [(1,aI a1),(2,.ptr 0 0),(5,aI (IntKind.wrap .i64 (y11+x17))),(6,aI (IntKind.wrap .i64 (y12+1)))] ?_))
      exact ⟨_,_,Zh [(1,aI a1),(2,.ptr 0 0),(5,aI (IntKind.wrap .i64 (y11+x17))),(6,aI (IntKind.wrap .i64 (y12+1)))] [.box (zc2 a0) false] (by kernel_rfl),⟨(IntKind.wrap .i64 (y11+x17)),(IntKind.wrap .i64 (y12+1)),hm,rfl,rfl⟩⟩
    ·
     refine c0 h14 (wp_exit ?_)
     exact ⟨(decide (y12 < ((sll a0.fKids).length:Int))),y11,y12,hm,rfl,rfl⟩
theorem adF:∀ (m:Nat),∀ {n:Nat} {a0:zk} {a1:Int} {r:Int} (hm:qE m n a0 a1=some r),call G n 126 [.agg (zc2 a0),aI a1] []=some (.ret (aI r),[])
  | 0=>by intros; rename_i hm; exact nomatch hm
  | m+1=>fun hm=>
    agI (adF m) hm
theorem ahL {n:Nat} {a0:zk} {a1:Int} {r:Int} (hm:adO n a0 a1=some r):
    call G n 126 [.agg (zc2 a0),aI a1] []=some (.ret (aI r),[]):=adF n hm
theorem agE {n:Nat} {a0:zk} {r:Bool} (hm:abh n a0=some r):
    call G n 37 [.agg (zc2 a0)] []=some (.ret (aB r),[]):=by
  unfold abh at hm
  obtain ⟨n,rfl,h0⟩:=zB hm
  replace hm:=h0; clear h0
  refine Zr 6 [(0,.agg (zc2 a0))] func37 rfl (by kernel_rfl) (sq (det [(1,.ptr 0 0)] [.box (zc2 a0) false] (by kernel_rfl) (sq (rg (s1 1 [(3,.agg (zc2 a0))] ?_)))))
  obtain ⟨x1,h2,hm⟩:=bs hm
  refine dv 4 (zE (by kernel_rfl) (ahL h2) (by kernel_rfl) (by kernel_rfl) (by kernel_rfl)) (by kernel_rfl) (fq 2 [(2,aB (decide (x1≤40)))] (wp_ret ?_))
  obtain rfl:=Option.some.inj hm
  exact ⟨trivial,by kernel_rfl⟩
theorem ahB {n:Nat} {a0:Int} {a1:zk} {r:Int} (hm:QE n a0 a1=some r):
    ∃ vv H1,call G n 127 [.agg (zc2 a1),.ptr 0 0] [.box [.pv (.int .u32 a0)] false]=some (.ret vv,H1)∧(match (generalizing:=false) r with | r0=>(vv=.tup []∧H1=[.box [.pv (.int .u32 r0)] false])):=by
  unfold QE at hm
  obtain ⟨n,rfl,h0⟩:=zB hm
  replace hm:=h0; clear h0
  refine ahV 22 [(0,.agg (zc2 a1)),(1,.ptr 0 0)] func127 rfl (by kernel_rfl) (sq (det [(1,.ptr 0 0),(2,.ptr 1 0)] [.box [.pv (.int .u32 a0)] false,.box (zc2 a1) false] (by kernel_rfl) ?_))
  refine sq (rg (s1 4 [(6,aB (a1.fKind == 1)),(5,aB (a1.fKind == 1)),(4,aI a1.fKind),(3,.ptr 1 0)] ?_))
  refine segP (a1.fKind == 1) [6,5] (fun b=>[(10,aB (b && (decide (a1.fRel≥0)))),(9,ifA b (aB (decide (a1.fRel≥0))) (.undef)),(8,ifA b (aI a1.fRel) (.undef)),(7,ifA b (.ptr 1 1) (.undef))]) 4 (by kernel_rfl) (by kernel_rfl) (by kernel_rfl) (s1 1 [(11,aB ((a1.fKind == 1) && (decide (a1.fRel≥0))))] ?_)
  refine segP ((a1.fKind == 1) && (decide (a1.fRel≥0))) [11,10] (fun b=>[(15,aB (b && (decide (a1.fRel < 32)))),(14,ifA b (aB (decide (a1.fRel < 32))) (.undef)),(13,ifA b (aI a1.fRel) (.undef)),(12,ifA b (.ptr 1 1) (.undef))]) 4 (by kernel_rfl) (by kernel_rfl) (by kernel_rfl) (fin [(1,.ptr 0 0),(2,.ptr 1 0),(15,aB (((a1.fKind == 1) && (decide (a1.fRel≥0))) && (decide (a1.fRel < 32))))] rfl (by kernel_rfl) ?_)
  rcases zo hm with ⟨h1,hm⟩ | ⟨h1,hm⟩
  ·
   refine c1 h1 (rg (s1 4 [(19,aU (IntKind.wrap .u64 a1.fRel)),(18,aI a1.fRel),(17,.ptr 1 1),(16,.pv (.int .u32 a0))] ?_))
   obtain ⟨_,h2,hm⟩:=bs hm
   refine dv 20 (v:=.pv (.int .u32 (iShl .u32 1 (IntKind.wrap .u64 a1.fRel)))) (shlO h2 (by kernel_rfl)) (by kernel_rfl) (stf 2 [] [.box [.pv (.int .u32 (iOr .u32 a0 (iShl .u32 1 (IntKind.wrap .u64 a1.fRel))))] false,.box (zc2 a1) false] (by kernel_rfl) ?_)
   obtain rfl:=Option.some.inj hm
   exact ⟨trivial,.tup [],[.box [.pv (.int .u32 (iOr .u32 a0 (iShl .u32 1 (IntKind.wrap .u64 a1.fRel))))] false],by kernel_rfl,rfl,rfl⟩
  ·
   refine c0 h1 (wp_skip ?_)
   obtain rfl:=Option.some.inj hm
   exact ⟨trivial,.tup [],[.box [.pv (.int .u32 a0)] false],by kernel_rfl,rfl,rfl⟩
theorem acz {rc_plan_walk_plan_Rels_1:(Nat→Int→zk→Option (Int))} (ih_plan_walk_plan_Rels_1:∀ {n:Nat} {a0:Int} {a1:zk} {r:Int} (hm:rc_plan_walk_plan_Rels_1 n a0 a1=some r),∃ vv H1,call G n 123 [.agg [aI a1.fKind,aI a1.fRel,.pv (zh zb a1.fWhere),.pv (zh zb a1.fLeft),.pv (zh zb a1.fRight),.pv (zh zb a1.fOut),.pv (zh zn a1.fAggs),.pv (zh zp a1.fOrder),.pv (zh zg a1.fKids)],.fn 127 [] [.ptr 0 0]] [.box [.pv (.int .u32 a0)] false]=some (.ret vv,H1)∧(match (generalizing:=false) r with | r0=>(vv=.tup []∧H1=[.box [.pv (.int .u32 r0)] false]))) {n:Nat} {a0:Int} {a1:zk} {r:Int} (hm:qg rc_plan_walk_plan_Rels_1 n a0 a1=some r):
    ∃ vv H1,call G n 123 [.agg (zc2 a1),.fn 127 [] [.ptr 0 0]] [.box [.pv (.int .u32 a0)] false]=some (.ret vv,H1)∧(match (generalizing:=false) r with | r0=>(vv=.tup []∧H1=[.box [.pv (.int .u32 r0)] false])):=by
  unfold qg at hm
  obtain ⟨n,rfl,h0⟩:=zB hm
  replace hm:=h0; clear h0
  refine ahV 20 [(0,.agg (zc2 a1)),(1,.fn 127 [] [.ptr 0 0])] func123 rfl (by kernel_rfl) (sq (det [(1,.fn 127 [] [.ptr 0 0]),(2,.ptr 1 0)] [.box [.pv (.int .u32 a0)] false,.box (zc2 a1) false] (by kernel_rfl) ?_))
  obtain ⟨k4,hk4,hm⟩:=zz hm
  refine mid (fun t H=>(∃ (y1:Int) (y2:Bool) (y3:Int),k4 y1=some r∧t=mk 20 [(1,.fn 127 [] [.ptr 0 0]),(2,.ptr 1 0),(7,.pv (zh zg a1.fKids)),(8,aI ((sll a1.fKids).length:Int)),(9,aI y3),(10,aB y2)]∧H=[.box [.pv (.int .u32 y1)] false,.box (zc2 a1) false])) ?_ ?_
  ·
   rintro _ _ ⟨y1,y2,y3,hm,rfl,rfl⟩
   subst hk4
   refine rg (s1 2 [(18,.agg (zc2 a1)),(17,.fn 127 [] [.ptr 0 0])] ?_)
   obtain ⟨x6,h5,hm⟩:=bs hm
   obtain ⟨vv,H1,hC,rfl,rfl⟩:=ahB h5
   refine dR [(19,.tup [])] [.box [.pv (.int .u32 x6)] false,.box (zc2 a1) false] [0] [.agg (zc2 a1),.ptr 0 0] (by kernel_rfl) (by kernel_rfl) (by kernel_rfl) hC (by kernel_rfl) (fin [] rfl (by kernel_rfl) ?_)
   obtain rfl:=Option.some.inj hm
   exact ⟨trivial,.tup [],[.box [.pv (.int .u32 x6)] false],by kernel_rfl,rfl,rfl⟩
  refine sq (rg (s1 2 [(7,.pv (zh zg a1.fKids)),(6,.ptr 1 8)] (dv 8 (v:=aI ((sll a1.fKids).length:Int)) (zy zg a1.fKids t64 (by kernel_rfl)) (by kernel_rfl) (fq 1 [(1,.fn 127 [] [.ptr 0 0]),(2,.ptr 1 0),(7,.pv (zh zg a1.fKids)),(8,aI ((sll a1.fKids).length:Int)),(9,aI 0)] (bq ?_)))))
  refine ZY (fun mm t H=>(∃ (y9:Int) (y10:Int),Zl n rc_plan_walk_plan_Rels_1 a1 k4 mm y9 y10=some r∧t=mk 20 [(1,.fn 127 [] [.ptr 0 0]),(2,.ptr 1 0),(7,.pv (zh zg a1.fKids)),(8,aI ((sll a1.fKids).length:Int)),(9,aI y10)]∧H=[.box [.pv (.int .u32 y9)] false,.box (zc2 a1) false])) (⟨a0,0,hm,rfl,rfl⟩) ?_ ?_
  · rintro _ _ ⟨y9,y10,hm,_⟩; exact nomatch hm
  rintro m11 _ _ ⟨y9,y10,hm,rfl,rfl⟩
  simp only [Zl] at hm
  refine sq (dn [(1,.fn 127 [] [.ptr 0 0]),(2,.ptr 1 0),(7,.pv (zh zg a1.fKids)),(8,aI ((sll a1.fKids).length:Int)),(9,aI y10),(10,aB (decide (y10 < ((sll a1.fKids).length:Int))))] ?_)
  refine sq ?_
  rcases zo hm with ⟨h12,hm⟩ | ⟨h12,hm⟩
  ·
   refine c1 h12 (wp_skip (sq (bq (sq (rg ?_)))))
   obtain ⟨x13,h14,hm⟩:=bs hm
   refine dv 11 (v:=.pv (.ptr (zG (zd x13)) 0)) (Zd zg a1.fKids .i64 t64 t66 h14 (zF x13) rfl (by kernel_rfl)) (by kernel_rfl) (stf 3 [(1,.fn 127 [] [.ptr 0 0]),(2,.ptr 1 0),(5,.ptr 2 0),(7,.pv (zh zg a1.fKids)),(8,aI ((sll a1.fKids).length:Int)),(9,aI y10)] [.box [.pv (.int .u32 y9)] false,.box (zc2 a1) false,.box (zc3 x13) false] (by kernel_rfl) (rg (s1 2 [(14,.fn 127 [] [.ptr 0 0]),(13,.agg (zc3 x13))] ?_)))
   obtain ⟨x16,h15,hm⟩:=bs hm
   obtain ⟨vv,H1,hC,rfl,rfl⟩:=ih_plan_walk_plan_Rels_1 h15
   refine dR [(15,.tup [])] [.box [.pv (.int .u32 x16)] false,.box (zc2 a1) false,.box (zc3 x13) false] [0] [.agg (zc3 x13),.fn 127 [] [.ptr 0 0]] (by kernel_rfl) (by kernel_rfl) (by kernel_rfl) hC (by kernel_rfl) (fin [(1,.fn 127 [] [.ptr 0 0]),(2,.ptr 1 0),(7,.pv (zh zg a1.fKids)),(8,aI ((sll a1.fKids).length:Int)),(9,aI y10)] rfl (by kernel_rfl) (dn [(1,.fn 127 [] [.ptr 0 0]),(2,.ptr 1 0),(7,.pv (zh zg a1.fKids)),(8,aI ((sll a1.fKids).length:Int)),(9,aI (IntKind.wrap .i64 (y10+1)))] ?_))
   exact ⟨_,_,Zh [(1,.fn 127 [] [.ptr 0 0]),(2,.ptr 1 0),(7,.pv (zh zg a1.fKids)),(8,aI ((sll a1.fKids).length:Int)),(9,aI (IntKind.wrap .i64 (y10+1)))] [.box [.pv (.int .u32 x16)] false,.box (zc2 a1) false] (by kernel_rfl),⟨x16,(IntKind.wrap .i64 (y10+1)),hm,rfl,rfl⟩⟩
  ·
   refine c0 h12 (wp_exit ?_)
   exact ⟨y9,(decide (y10 < ((sll a1.fKids).length:Int))),y10,hm,rfl,rfl⟩
theorem aax:∀ (m:Nat),∀ {n:Nat} {a0:Int} {a1:zk} {r:Int} (hm:Z7 m n a0 a1=some r),∃ vv H1,call G n 123 [.agg (zc2 a1),.fn 127 [] [.ptr 0 0]] [.box [.pv (.int .u32 a0)] false]=some (.ret vv,H1)∧(match (generalizing:=false) r with | r0=>(vv=.tup []∧H1=[.box [.pv (.int .u32 r0)] false]))
  | 0=>by intros; rename_i hm; exact nomatch hm
  | m+1=>fun hm=>
    acz (aax m) hm
theorem acQ {n:Nat} {a0:Int} {a1:zk} {r:Int} (hm:Q2 n a0 a1=some r):
    ∃ vv H1,call G n 123 [.agg (zc2 a1),.fn 127 [] [.ptr 0 0]] [.box [.pv (.int .u32 a0)] false]=some (.ret vv,H1)∧(match (generalizing:=false) r with | r0=>(vv=.tup []∧H1=[.box [.pv (.int .u32 r0)] false])):=aax n hm
theorem ajk {n:Nat} {a0:zk} {r:Int} (hm:adb n a0=some r):
    call G n 38 [.agg (zc2 a0)] []=some (.ret (.pv (.int .u32 r)),[]):=by
  unfold adb at hm
  obtain ⟨n,rfl,h0⟩:=zB hm
  replace hm:=h0; clear h0
  refine Zr 8 [(0,.agg (zc2 a0))] func38 rfl (by kernel_rfl) (sq (det [(1,.ptr 0 0)] [.box (zc2 a0) false] (by kernel_rfl) (sq (det [(1,.ptr 0 0),(3,.ptr 1 0)] [.box (zc2 a0) false,.box [.pv (.int .u32 0)] false] (by kernel_rfl) (sq (rg (s1 2 [(5,.fn 127 [] [.ptr 1 0]),(4,.agg (zc2 a0))] ?_)))))))
  obtain ⟨x2,h1,hm⟩:=bs hm
  obtain ⟨vv,H1,hC,rfl,rfl⟩:=acQ h1
  refine dR [(6,.tup [])] [.box (zc2 a0) false,.box [.pv (.int .u32 x2)] false] [1] [.agg (zc2 a0),.fn 127 [] [.ptr 1 0]] (by kernel_rfl) (by kernel_rfl) (by kernel_rfl) hC (by kernel_rfl) (fin [(3,.ptr 1 0)] rfl (by kernel_rfl) (sq (dn [(2,.pv (.int .u32 x2))] (wp_ret ?_))))
  obtain rfl:=Option.some.inj hm
  exact ⟨trivial,by kernel_rfl⟩
theorem aif {rc_ref25_Set:(Nat→zk→Option (Int))} (ih_ref25_Set:∀ {n:Nat} {a0:zk} {r:Int} (hm:rc_ref25_Set n a0=some r),call G n 39 [.agg [aI a0.fKind,aI a0.fRel,.pv (zh zb a0.fWhere),.pv (zh zb a0.fLeft),.pv (zh zb a0.fRight),.pv (zh zb a0.fOut),.pv (zh zn a0.fAggs),.pv (zh zp a0.fOrder),.pv (zh zg a0.fKids)]] []=some (.ret (.pv (.int .u32 r)),[])) {n:Nat} {a0:zk} {r:Int} (hm:abQ rc_ref25_Set n a0=some r):
    call G n 39 [.agg (zc2 a0)] []=some (.ret (.pv (.int .u32 r)),[]):=by
  unfold abQ at hm
  obtain ⟨n,rfl,h0⟩:=zB hm
  replace hm:=h0; clear h0
  refine Zr 38 [(0,.agg (zc2 a0))] func39 rfl (by kernel_rfl) (sq (det [(1,.ptr 0 0)] [.box (zc2 a0) false] (by kernel_rfl) (sq (dn [(1,.ptr 0 0),(3,.pv (.int .u32 0))] ?_))))
  obtain ⟨k3,hk3,hm⟩:=zz hm
  refine mid (fun t H=>(∃ (y2:Int) (w1:AV),k3 y2=some r∧t=mk 38 [(1,.ptr 0 0),(3,.pv (.int .u32 y2)),(17,w1)]∧H=[.box (zc2 a0) false])) ?_ ?_
  ·
   rintro _ _ ⟨y2,w1,hm,rfl,rfl⟩
   subst hk3
   obtain ⟨k7,hk7,hm⟩:=zz hm
   refine mid (fun t H=>(∃ (y4:Bool) (y5:Int) (y6:Int),k7 y5=some r∧t=mk 38 [(1,.ptr 0 0),(3,.pv (.int .u32 y5)),(4,aI y6),(26,aB y4)]∧H=[.box (zc2 a0) false])) ?_ ?_
   ·
    rintro _ _ ⟨y4,y5,y6,hm,rfl,rfl⟩
    subst hk7
    refine sq (dn [(2,.pv (.int .u32 y5))] (wp_ret ?_))
    obtain rfl:=Option.some.inj hm
    exact ⟨trivial,by kernel_rfl⟩
   refine sq (dn [(1,.ptr 0 0),(3,.pv (.int .u32 y2)),(4,aI 0)] (bq ?_))
   refine ZY (fun mm t H=>(∃ (y10:Int) (y11:Int),qG n rc_ref25_Set a0 k7 mm y10 y11=some r∧t=mk 38 [(1,.ptr 0 0),(3,.pv (.int .u32 y10)),(4,aI y11)]∧H=[.box (zc2 a0) false])) (⟨y2,0,hm,rfl,rfl⟩) ?_ ?_
   · rintro _ _ ⟨y10,y11,hm,_⟩; exact nomatch hm
   rintro m12 _ _ ⟨y10,y11,hm,rfl,rfl⟩
   simp only [qG] at hm
   refine sq (sq (rg (s1 3 [(24,.pv (zh zg a0.fKids)),(23,.ptr 0 8),(22,aI y11)] (dv 25 (v:=aI ((sll a0.fKids).length:Int)) (zy zg a0.fKids t64 (by kernel_rfl)) (by kernel_rfl) (fq 1 [(1,.ptr 0 0),(3,.pv (.int .u32 y10)),(4,aI y11),(26,aB (decide (y11 < ((sll a0.fKids).length:Int))))] ?_)))))
   rcases zo hm with ⟨h13,hm⟩ | ⟨h13,hm⟩
   ·
    refine c1 h13 (wp_skip (sq (bq (rg (s1 4 [(32,aI y11),(31,.pv (zh zg a0.fKids)),(30,.ptr 0 8),(29,.pv (.int .u32 y10))] ?_)))))
    obtain ⟨x14,h15,hm⟩:=bs hm
    refine dv 33 (v:=.pv (.ptr (zG (zd x14)) 0)) (Zd zg a0.fKids .i64 t64 t66 h15 (zF x14) rfl (by kernel_rfl)) (by kernel_rfl) (s1 1 [(34,.agg (zc3 x14))] ?_)
    obtain ⟨x16,h17,hm⟩:=bs hm
    refine dv 35 (zE (by kernel_rfl) (ih_ref25_Set h17) (by kernel_rfl) (by kernel_rfl) (by kernel_rfl)) (by kernel_rfl) (fq 2 [(1,.ptr 0 0),(3,.pv (.int .u32 (iOr .u32 y10 x16))),(4,aI y11)] (dn [(1,.ptr 0 0),(3,.pv (.int .u32 (iOr .u32 y10 x16))),(4,aI (IntKind.wrap .i64 (y11+1)))] ?_))
    exact ⟨_,_,Zh [(1,.ptr 0 0),(3,.pv (.int .u32 (iOr .u32 y10 x16))),(4,aI (IntKind.wrap .i64 (y11+1)))] [.box (zc2 a0) false] (by kernel_rfl),⟨(iOr .u32 y10 x16),(IntKind.wrap .i64 (y11+1)),hm,rfl,rfl⟩⟩
   ·
    refine c0 h13 (wp_exit ?_)
    exact ⟨(decide (y11 < ((sll a0.fKids).length:Int))),y10,y11,hm,rfl,rfl⟩
  refine sq (rg (s1 4 [(8,aB (a0.fKind == 1)),(7,aB (a0.fKind == 1)),(6,aI a0.fKind),(5,.ptr 0 0)] ?_))
  refine segP (a0.fKind == 1) [8,7] (fun b=>[(12,aB (b && (decide (a0.fRel≥0)))),(11,ifA b (aB (decide (a0.fRel≥0))) (.undef)),(10,ifA b (aI a0.fRel) (.undef)),(9,ifA b (.ptr 0 1) (.undef))]) 4 (by kernel_rfl) (by kernel_rfl) (by kernel_rfl) (s1 1 [(13,aB ((a0.fKind == 1) && (decide (a0.fRel≥0))))] ?_)
  refine segP ((a0.fKind == 1) && (decide (a0.fRel≥0))) [13,12] (fun b=>[(17,aB (b && (decide (a0.fRel < 32)))),(16,ifA b (aB (decide (a0.fRel < 32))) (.undef)),(15,ifA b (aI a0.fRel) (.undef)),(14,ifA b (.ptr 0 1) (.undef))]) 4 (by kernel_rfl) (by kernel_rfl) (by kernel_rfl) (fin [(1,.ptr 0 0),(3,.pv (.int .u32 0)),(17,aB (((a0.fKind == 1) && (decide (a0.fRel≥0))) && (decide (a0.fRel < 32))))] rfl (by kernel_rfl) ?_)
  rcases zo hm with ⟨h18,hm⟩ | ⟨h18,hm⟩
  ·
   refine c1 h18 (rg (s1 3 [(20,aU (IntKind.wrap .u64 a0.fRel)),(19,aI a0.fRel),(18,.ptr 0 1)] ?_))
   obtain ⟨_,h19,hm⟩:=bs hm
   refine dv 21 (v:=.pv (.int .u32 (iShl .u32 1 (IntKind.wrap .u64 a0.fRel)))) (shlO h19 (by kernel_rfl)) (by kernel_rfl) (fq 1 [(1,.ptr 0 0),(3,.pv (.int .u32 (iShl .u32 1 (IntKind.wrap .u64 a0.fRel))))] ?_)
   exact ⟨(iShl .u32 1 (IntKind.wrap .u64 a0.fRel)),.any,hm,(Zk (by kernel_rfl)),rfl⟩
  ·
   refine c0 h18 (wp_skip ?_)
   exact ⟨0,aB (((a0.fKind == 1) && (decide (a0.fRel≥0))) && (decide (a0.fRel < 32))),hm,(Zk (by kernel_rfl)),rfl⟩
theorem aeV:∀ (m:Nat),∀ {n:Nat} {a0:zk} {r:Int} (hm:aan m n a0=some r),call G n 39 [.agg (zc2 a0)] []=some (.ret (.pv (.int .u32 r)),[])
  | 0=>by intros; rename_i hm; exact nomatch hm
  | m+1=>fun hm=>
    aif (aeV m) hm
theorem ajv {n:Nat} {a0:zk} {r:Int} (hm:af1 n a0=some r):
    call G n 39 [.agg (zc2 a0)] []=some (.ret (.pv (.int .u32 r)),[]):=aeV n hm
theorem acZ {n:Nat} {a0:Nat} {r:Bool} (hm:abq n a0=some r):
    call G n 228 [aF a0] []=some (.ret (aB r),[]):=by
  unfold abq at hm
  obtain ⟨n,rfl,h0⟩:=zB hm
  replace hm:=h0; clear h0
  refine Zr 6 [(0,aF a0)] func228 rfl (by kernel_rfl) (sq (dn [(0,aF a0)] (sq (dn [(2,aB ((FloatKind.format .f64).order a0 a0 != some .eq))] (wp_ret ?_)))))
  obtain rfl:=Option.some.inj hm
  exact ⟨trivial,by kernel_rfl⟩
abbrev zc20 (p0:zi):List AV:=[aI p0.fKind,aI p0.fInt,aF (Int.toNat 9221120237041090561),aS p0.fText]
theorem aed {n:Nat} {a0:zi} {r:zi} (hm:aaX n a0=some r):
    call G n 189 [.agg (zc17 a0)] []=some (.ret (.agg [aI r.fKind,aI r.fInt,aF r.fFloat,aS r.fText]),[]):=by
  unfold aaX at hm
  obtain ⟨n,rfl,h0⟩:=zB hm
  replace hm:=h0; clear h0
  refine Zr 30 [(0,.agg (zc17 a0))] func189 rfl (by kernel_rfl) (sq (det [(1,.ptr 0 0),(2,.ptr 1 0)] [.box (zc17 a0) false,.box [aI 0,aI 0,aF 0,aS ByteArray.empty] false] (by kernel_rfl) (sq (bq (sq (rg (s1 1 [(4,.agg (zc17 a0))] ?_)))))))
  obtain ⟨x1,h2,hm⟩:=bs hm
  refine dv 5 (zE (by kernel_rfl) (adL h2) (by kernel_rfl) (by kernel_rfl) (by kernel_rfl)) (by kernel_rfl) (fq 2 [(1,.ptr 0 0),(2,.ptr 1 0),(3,aB (!x1))] ?_)
  rcases zo hm with ⟨h3,hm⟩ | ⟨h3,hm⟩
  ·
   refine c1 h3 (sq (dn [(2,.ptr 1 0)] (wp_ret ?_)))
   obtain rfl:=Option.some.inj hm
   exact ⟨trivial,by kernel_rfl⟩
  ·
   refine c0 h3 ?_
   obtain ⟨k5,hk5,hm⟩:=zz hm
   refine mid (fun t H=>(∃ (y4:Bool),k5 y4=some r∧t=mk 30 [(1,.ptr 0 0),(2,.ptr 1 0),(8,aB y4)]∧H=[.box (zc17 a0) false,.box [aI 0,aI 0,aF 0,aS ByteArray.empty] false])) ?_ ?_
   ·
    rintro _ _ ⟨y4,hm,rfl,rfl⟩
    subst hk5
    rcases zo hm with ⟨h6,hm⟩ | ⟨h6,hm⟩
    ·
     refine c1 h6 (rg (s1 1 [(17,aF (Int.toNat 9221120237041090561))] (stf 2 [(1,.ptr 0 0),(2,.ptr 1 0)] [.box (zc20 a0) false,.box [aI 0,aI 0,aF 0,aS ByteArray.empty] false] (by kernel_rfl) (sq (det [(2,.ptr 1 0)] [.box (zc20 a0) false,.box (zc20 a0) false] (by kernel_rfl) (wp_ret ?_))))))
     obtain rfl:=Option.some.inj hm
     exact ⟨trivial,by kernel_rfl⟩
    ·
     refine c0 h6 (sq (rg (s1 4 [(23,aB (a0.fKind == 3)),(22,aB (a0.fKind == 3)),(21,aI a0.fKind),(20,.ptr 0 0)] ?_)))
     refine segP (a0.fKind == 3) [23,22] (fun b=>[(27,aB (b && ((FloatKind.format .f64).order a0.fFloat 0 == some .eq))),(26,ifA b (aB ((FloatKind.format .f64).order a0.fFloat 0 == some .eq)) (.undef)),(25,ifA b (aF a0.fFloat) (.undef)),(24,ifA b (.ptr 0 2) (.undef))]) 4 (by kernel_rfl) (by kernel_rfl) (by kernel_rfl) (fq 1 [(1,.ptr 0 0),(2,.ptr 1 0),(19,aB ((a0.fKind == 3) && ((FloatKind.format .f64).order a0.fFloat 0 == some .eq)))] ?_)
     rcases zo hm with ⟨h7,hm⟩ | ⟨h7,hm⟩
     ·
      refine c1 h7 (det [(1,.ptr 0 0),(2,.ptr 1 0)] [.box [aI a0.fKind,aI a0.fInt,aF 0,aS a0.fText] false,.box [aI 0,aI 0,aF 0,aS ByteArray.empty] false] (by kernel_rfl) (sq (det [(2,.ptr 1 0)] [.box [aI a0.fKind,aI a0.fInt,aF 0,aS a0.fText] false,.box [aI a0.fKind,aI a0.fInt,aF 0,aS a0.fText] false] (by kernel_rfl) (wp_ret ?_))))
      obtain rfl:=Option.some.inj hm
      exact ⟨trivial,by kernel_rfl⟩
     ·
      refine c0 h7 (wp_skip (sq (det [(2,.ptr 1 0)] [.box (zc17 a0) false,.box (zc17 a0) false] (by kernel_rfl) (wp_ret ?_))))
      obtain rfl:=Option.some.inj hm
      exact ⟨trivial,by kernel_rfl⟩
   refine rg (s1 4 [(12,aB (a0.fKind == 3)),(11,aB (a0.fKind == 3)),(10,aI a0.fKind),(9,.ptr 0 0)] ?_)
   rcases zo hm with ⟨h8,hm⟩ | ⟨h8,hm⟩
   ·
    refine known [12,11] h8 (by kernel_rfl) (s1 2 [(14,aF a0.fFloat),(13,.ptr 0 2)] ?_)
    obtain ⟨x9,h10,hm⟩:=bs hm
    refine dv 15 (zE (by kernel_rfl) (acZ h10) (by kernel_rfl) (by kernel_rfl) (by kernel_rfl)) (by kernel_rfl) (fq 2 [(1,.ptr 0 0),(2,.ptr 1 0),(8,aB x9)] ?_)
    exact ⟨x9,hm,rfl,rfl⟩
   ·
    refine known [12,11] h8 (by kernel_rfl) (fq 5 [(1,.ptr 0 0),(2,.ptr 1 0),(8,aB false)] ?_)
    exact ⟨false,hm,rfl,rfl⟩
theorem ada {n:Nat} {a0:Int} {r:Bool} (hm:aaH n a0=some r):
    call G n 252 [aI a0] []=some (.ret (aB r),[]):=by
  unfold aaH at hm
  obtain ⟨n,rfl,h0⟩:=zB hm
  replace hm:=h0; clear h0
  refine Zr 6 [(0,aI a0)] func252 rfl (by kernel_rfl) (sq (dn [(0,aI a0)] (sq (dn [(2,aB (a0 != a0))] (wp_ret ?_)))))
  obtain rfl:=Option.some.inj hm
  exact ⟨trivial,by kernel_rfl⟩
theorem afn {n:Nat} {a0:Int} {a1:Int} {r:Int} (hm:QO n a0 a1=some r):
    call G n 234 [aI a0,aI a1] []=some (.ret (aI r),[]):=by
  unfold QO at hm
  obtain ⟨n,rfl,h0⟩:=zB hm
  replace hm:=h0; clear h0
  refine Zr 20 [(0,aI a0),(1,aI a1)] func234 rfl (by kernel_rfl) (sq (dn [(0,aI a0),(1,aI a1)] (sq (rg (s1 1 [(7,aI a0)] ?_)))))
  obtain ⟨x1,h2,hm⟩:=bs hm
  refine dv 8 (zE (by kernel_rfl) (ada h2) (by kernel_rfl) (by kernel_rfl) (by kernel_rfl)) (by kernel_rfl) (fq 1 [(0,aI a0),(1,aI a1),(5,aB x1)] (sq (rg (s1 1 [(9,aI a1)] ?_))))
  obtain ⟨x3,h4,hm⟩:=bs hm
  refine dv 10 (zE (by kernel_rfl) (ada h4) (by kernel_rfl) (by kernel_rfl) (by kernel_rfl)) (by kernel_rfl) (fq 1 [(0,aI a0),(1,aI a1),(5,aB x1),(6,aB x3)] ?_)
  refine sq (sq (dn [(0,aI a0),(1,aI a1),(6,aB x3),(11,aB x1)] ?_))
  rcases zo hm with ⟨h5,hm⟩ | ⟨h5,hm⟩
  ·
   refine c1 h5 (sq (sq (dn [(12,aB x3)] ?_)))
   rcases zo hm with ⟨h6,hm⟩ | ⟨h6,hm⟩
   ·
    refine c1 h6 (sq (dn [(4,aI 0)] (wp_ret ?_)))
    obtain rfl:=Option.some.inj hm
    exact ⟨trivial,by kernel_rfl⟩
   ·
    refine c0 h6 (wp_skip (sq (dn [(4,aI (-1))] (wp_ret ?_))))
    obtain rfl:=Option.some.inj hm
    exact ⟨trivial,by kernel_rfl⟩
  ·
   refine c0 h5 (wp_skip ?_)
   refine sq (sq (dn [(0,aI a0),(1,aI a1),(13,aB x3)] ?_))
   rcases zo hm with ⟨h7,hm⟩ | ⟨h7,hm⟩
   ·
    refine c1 h7 (sq (dn [(4,aI 1)] (wp_ret ?_)))
    obtain rfl:=Option.some.inj hm
    exact ⟨trivial,by kernel_rfl⟩
   ·
    refine c0 h7 (wp_skip (sq (sq (dn [(0,aI a0),(1,aI a1),(16,aB (decide (a0 < a1)))] ?_))))
    rcases zo hm with ⟨h8,hm⟩ | ⟨h8,hm⟩
    ·
     refine c1 h8 (sq (dn [(4,aI (-1))] (wp_ret ?_)))
     obtain rfl:=Option.some.inj hm
     exact ⟨trivial,by kernel_rfl⟩
    ·
     refine c0 h8 (wp_skip (sq (sq (dn [(19,aB (decide (a0 > a1)))] ?_))))
     rcases zo hm with ⟨h9,hm⟩ | ⟨h9,hm⟩
     ·
      refine c1 h9 (sq (dn [(4,aI 1)] (wp_ret ?_)))
      obtain rfl:=Option.some.inj hm
      exact ⟨trivial,by kernel_rfl⟩
     ·
      refine c0 h9 (wp_skip (sq (dn [(4,aI 0)] (wp_ret ?_))))
      obtain rfl:=Option.some.inj hm
      exact ⟨trivial,by kernel_rfl⟩
theorem agM {n:Nat} {a0:Nat} {a1:Nat} {r:Int} (hm:abW n a0 a1=some r):
    call G n 235 [aF a0,aF a1] []=some (.ret (aI r),[]):=by
  unfold abW at hm
  obtain ⟨n,rfl,h0⟩:=zB hm
  replace hm:=h0; clear h0
  refine Zr 28 [(0,aF a0),(1,aF a1)] func235 rfl (by kernel_rfl) (sq (dn [(0,aF a0),(1,aF a1)] (sq (sq (rg (s1 1 [(7,aF a0)] ?_))))))
  obtain ⟨x1,h2,hm⟩:=bs hm
  refine dv 8 (zE (by kernel_rfl) (acZ h2) (by kernel_rfl) (by kernel_rfl) (by kernel_rfl)) (by kernel_rfl) (s1 1 [(9,aF a1)] ?_)
  obtain ⟨x3,h4,hm⟩:=bs hm
  refine dv 10 (zE (by kernel_rfl) (acZ h4) (by kernel_rfl) (by kernel_rfl) (by kernel_rfl)) (by kernel_rfl) (fq 2 [(0,aF a0),(1,aF a1),(5,aB x1),(6,aB x3)] (bq ?_))
  refine sq (rg (s1 2 [(13,aB x1),(12,aB x1)] ?_))
  refine segP x1 [13,12,5] (fun b=>[(15,aB (b && x3)),(14,ifA b (aB x3) (.undef))]) 2 (by kernel_rfl) (by kernel_rfl) (by kernel_rfl) (fq 1 [(0,aF a0),(1,aF a1),(5,aB x1),(6,aB x3),(11,aB (x1 && x3))] ?_)
  rcases zo hm with ⟨h5,hm⟩ | ⟨h5,hm⟩
  ·
   refine c1 h5 (sq (dn [(4,aI 0)] (wp_ret ?_)))
   obtain rfl:=Option.some.inj hm
   exact ⟨trivial,by kernel_rfl⟩
  ·
   refine c0 h5 (sq (dn [(0,aF a0),(1,aF a1),(6,aB x3),(16,aB x1)] ?_))
   rcases zo hm with ⟨h6,hm⟩ | ⟨h6,hm⟩
   ·
    refine c1 h6 (sq (dn [(4,aI 1)] (wp_ret ?_)))
    obtain rfl:=Option.some.inj hm
    exact ⟨trivial,by kernel_rfl⟩
   ·
    refine c0 h6 (sq (dn [(0,aF a0),(1,aF a1),(18,aB x3)] ?_))
    rcases zo hm with ⟨h7,hm⟩ | ⟨h7,hm⟩
    ·
     refine c1 h7 (sq (dn [(4,aI (-1))] (wp_ret ?_)))
     obtain rfl:=Option.some.inj hm
     exact ⟨trivial,by kernel_rfl⟩
    ·
     refine c0 h7 (sq (dn [(0,aF a0),(1,aF a1),(20,aB ((FloatKind.format .f64).order a0 a1 == some .lt))] ?_))
     rcases zo hm with ⟨h8,hm⟩ | ⟨h8,hm⟩
     ·
      refine c1 h8 (sq (dn [(4,aI (-1))] (wp_ret ?_)))
      obtain rfl:=Option.some.inj hm
      exact ⟨trivial,by kernel_rfl⟩
     ·
      refine c0 h8 (sq (dn [(24,aB ((FloatKind.format .f64).order a0 a1 == some .gt))] ?_))
      rcases zo hm with ⟨h9,hm⟩ | ⟨h9,hm⟩
      ·
       refine c1 h9 (sq (dn [(4,aI 1)] (wp_ret ?_)))
       obtain rfl:=Option.some.inj hm
       exact ⟨trivial,by kernel_rfl⟩
      ·
       refine c0 h9 (wp_skip (sq (dn [(4,aI 0)] (wp_ret ?_))))
       obtain rfl:=Option.some.inj hm
       exact ⟨trivial,by kernel_rfl⟩
theorem abS {n:Nat} {a0:ByteArray} {r:Bool} (hm:Qq n a0=some r):
    call G n 253 [aS a0] []=some (.ret (aB r),[]):=by
  unfold Qq at hm
  obtain ⟨n,rfl,h0⟩:=zB hm
  replace hm:=h0; clear h0
  refine Zr 6 [(0,aS a0)] func253 rfl (by kernel_rfl) (sq (dn [(0,aS a0)] (sq (dn [(2,aB (!(sEq a0 a0)))] (wp_ret ?_)))))
  obtain rfl:=Option.some.inj hm
  exact ⟨trivial,by kernel_rfl⟩
theorem adK {n:Nat} {a0:ByteArray} {a1:ByteArray} {r:Int} (hm:Qc n a0 a1=some r):
    call G n 236 [aS a0,aS a1] []=some (.ret (aI r),[]):=by
  unfold Qc at hm
  obtain ⟨n,rfl,h0⟩:=zB hm
  replace hm:=h0; clear h0
  refine Zr 20 [(0,aS a0),(1,aS a1)] func236 rfl (by kernel_rfl) (sq (dn [(0,aS a0),(1,aS a1)] (sq (rg (s1 1 [(7,aS a0)] ?_)))))
  obtain ⟨x1,h2,hm⟩:=bs hm
  refine dv 8 (zE (by kernel_rfl) (abS h2) (by kernel_rfl) (by kernel_rfl) (by kernel_rfl)) (by kernel_rfl) (fq 1 [(0,aS a0),(1,aS a1),(5,aB x1)] (sq (rg (s1 1 [(9,aS a1)] ?_))))
  obtain ⟨x3,h4,hm⟩:=bs hm
  refine dv 10 (zE (by kernel_rfl) (abS h4) (by kernel_rfl) (by kernel_rfl) (by kernel_rfl)) (by kernel_rfl) (fq 1 [(0,aS a0),(1,aS a1),(5,aB x1),(6,aB x3)] ?_)
  refine sq (sq (dn [(0,aS a0),(1,aS a1),(6,aB x3),(11,aB x1)] ?_))
  rcases zo hm with ⟨h5,hm⟩ | ⟨h5,hm⟩
  ·
   refine c1 h5 (sq (sq (dn [(12,aB x3)] ?_)))
   rcases zo hm with ⟨h6,hm⟩ | ⟨h6,hm⟩
   ·
    refine c1 h6 (sq (dn [(4,aI 0)] (wp_ret ?_)))
    obtain rfl:=Option.some.inj hm
    exact ⟨trivial,by kernel_rfl⟩
   ·
    refine c0 h6 (wp_skip (sq (dn [(4,aI (-1))] (wp_ret ?_))))
    obtain rfl:=Option.some.inj hm
    exact ⟨trivial,by kernel_rfl⟩
  ·
   refine c0 h5 (wp_skip ?_)
   refine sq (sq (dn [(0,aS a0),(1,aS a1),(13,aB x3)] ?_))
   rcases zo hm with ⟨h7,hm⟩ | ⟨h7,hm⟩
   ·
    refine c1 h7 (sq (dn [(4,aI 1)] (wp_ret ?_)))
    obtain rfl:=Option.some.inj hm
    exact ⟨trivial,by kernel_rfl⟩
   ·
    refine c0 h7 (wp_skip (sq (sq (dn [(0,aS a0),(1,aS a1),(16,aB (sLt a0 a1))] ?_))))
    rcases zo hm with ⟨h8,hm⟩ | ⟨h8,hm⟩
    ·
     refine c1 h8 (sq (dn [(4,aI (-1))] (wp_ret ?_)))
     obtain rfl:=Option.some.inj hm
     exact ⟨trivial,by kernel_rfl⟩
    ·
     refine c0 h8 (wp_skip (sq (sq (dn [(19,aB (!(sLt a0 a1 || sEq a0 a1)))] ?_))))
     rcases zo hm with ⟨h9,hm⟩ | ⟨h9,hm⟩
     ·
      refine c1 h9 (sq (dn [(4,aI 1)] (wp_ret ?_)))
      obtain rfl:=Option.some.inj hm
      exact ⟨trivial,by kernel_rfl⟩
     ·
      refine c0 h9 (wp_skip (sq (dn [(4,aI 0)] (wp_ret ?_))))
      obtain rfl:=Option.some.inj hm
      exact ⟨trivial,by kernel_rfl⟩
theorem acg {n:Nat} {a0:Int} {r:Bool} (hm:QS n a0=some r):
    call G n 254 [aI a0] []=some (.ret (aB r),[]):=by
  unfold QS at hm
  obtain ⟨n,rfl,h0⟩:=zB hm
  replace hm:=h0; clear h0
  refine Zr 6 [(0,aI a0)] func254 rfl (by kernel_rfl) (sq (dn [(0,aI a0)] (sq (dn [(2,aB (a0 != a0))] (wp_ret ?_)))))
  obtain rfl:=Option.some.inj hm
  exact ⟨trivial,by kernel_rfl⟩
theorem aex {n:Nat} {a0:Int} {a1:Int} {r:Int} (hm:Qj n a0 a1=some r):
    call G n 237 [aI a0,aI a1] []=some (.ret (aI r),[]):=by
  unfold Qj at hm
  obtain ⟨n,rfl,h0⟩:=zB hm
  replace hm:=h0; clear h0
  refine Zr 20 [(0,aI a0),(1,aI a1)] func237 rfl (by kernel_rfl) (sq (dn [(0,aI a0),(1,aI a1)] (sq (rg (s1 1 [(7,aI a0)] ?_)))))
  obtain ⟨x1,h2,hm⟩:=bs hm
  refine dv 8 (zE (by kernel_rfl) (acg h2) (by kernel_rfl) (by kernel_rfl) (by kernel_rfl)) (by kernel_rfl) (fq 1 [(0,aI a0),(1,aI a1),(5,aB x1)] (sq (rg (s1 1 [(9,aI a1)] ?_))))
  obtain ⟨x3,h4,hm⟩:=bs hm
  refine dv 10 (zE (by kernel_rfl) (acg h4) (by kernel_rfl) (by kernel_rfl) (by kernel_rfl)) (by kernel_rfl) (fq 1 [(0,aI a0),(1,aI a1),(5,aB x1),(6,aB x3)] ?_)
  refine sq (sq (dn [(0,aI a0),(1,aI a1),(6,aB x3),(11,aB x1)] ?_))
  rcases zo hm with ⟨h5,hm⟩ | ⟨h5,hm⟩
  ·
   refine c1 h5 (sq (sq (dn [(12,aB x3)] ?_)))
   rcases zo hm with ⟨h6,hm⟩ | ⟨h6,hm⟩
   ·
    refine c1 h6 (sq (dn [(4,aI 0)] (wp_ret ?_)))
    obtain rfl:=Option.some.inj hm
    exact ⟨trivial,by kernel_rfl⟩
   ·
    refine c0 h6 (wp_skip (sq (dn [(4,aI (-1))] (wp_ret ?_))))
    obtain rfl:=Option.some.inj hm
    exact ⟨trivial,by kernel_rfl⟩
  ·
   refine c0 h5 (wp_skip ?_)
   refine sq (sq (dn [(0,aI a0),(1,aI a1),(13,aB x3)] ?_))
   rcases zo hm with ⟨h7,hm⟩ | ⟨h7,hm⟩
   ·
    refine c1 h7 (sq (dn [(4,aI 1)] (wp_ret ?_)))
    obtain rfl:=Option.some.inj hm
    exact ⟨trivial,by kernel_rfl⟩
   ·
    refine c0 h7 (wp_skip (sq (sq (dn [(0,aI a0),(1,aI a1),(16,aB (decide (a0 < a1)))] ?_))))
    rcases zo hm with ⟨h8,hm⟩ | ⟨h8,hm⟩
    ·
     refine c1 h8 (sq (dn [(4,aI (-1))] (wp_ret ?_)))
     obtain rfl:=Option.some.inj hm
     exact ⟨trivial,by kernel_rfl⟩
    ·
     refine c0 h8 (wp_skip (sq (sq (dn [(19,aB (decide (a0 > a1)))] ?_))))
     rcases zo hm with ⟨h9,hm⟩ | ⟨h9,hm⟩
     ·
      refine c1 h9 (sq (dn [(4,aI 1)] (wp_ret ?_)))
      obtain rfl:=Option.some.inj hm
      exact ⟨trivial,by kernel_rfl⟩
     ·
      refine c0 h9 (wp_skip (sq (dn [(4,aI 0)] (wp_ret ?_))))
      obtain rfl:=Option.some.inj hm
      exact ⟨trivial,by kernel_rfl⟩
theorem ajo {n:Nat} {a0:zi} {a1:zi} {r:Int} (hm:ac4 n a0 a1=some r):
    call G n 195 [.agg (zc17 a0),.agg (zc17 a1)] []=some (.ret (aI r),[]):=by
  unfold ac4 at hm
  obtain ⟨n,rfl,h0⟩:=zB hm
  replace hm:=h0; clear h0
  refine Zr 40 [(0,.agg (zc17 a0)),(1,.agg (zc17 a1))] func195 rfl (by kernel_rfl) (sq (det [(2,.ptr 0 0),(3,.ptr 1 0)] [.box (zc17 a0) false,.box (zc17 a1) false] (by kernel_rfl) (sq (rgd (shd 1 [(5,.agg (zc17 a0))] (by kernel_rfl) ?_)))))
  obtain ⟨x1,h2,hm⟩:=bs hm
  refine dvd 6 (zE (by kernel_rfl) (aed h2) (by kernel_rfl) (by kernel_rfl) (by kernel_rfl)) (by kernel_rfl) (shd 1 [(7,.agg (zc17 a1))] (by kernel_rfl) ?_)
  obtain ⟨x3,h4,hm⟩:=bs hm
  refine dvd 8 (zE (by kernel_rfl) (aed h4) (by kernel_rfl) (by kernel_rfl) (by kernel_rfl)) (by kernel_rfl) (std 2 [] [.box (zc17 x1) false,.box (zc17 x3) false] (by kernel_rfl) (find [(2,.ptr 0 0),(3,.ptr 1 0)] rfl (by kernel_rfl) (by kernel_rfl) ?_))
  refine sq (sq (dn [(2,.ptr 0 0),(3,.ptr 1 0),(13,aB (x1.fKind != x3.fKind))] ?_))
  rcases zo hm with ⟨h5,hm⟩ | ⟨h5,hm⟩
  ·
   refine c1 h5 (sq (rg (s1 4 [(17,aI x3.fKind),(16,.ptr 1 0),(15,aI x1.fKind),(14,.ptr 0 0)] ?_)))
   obtain ⟨x6,h7,hm⟩:=bs hm
   refine dv 18 (zE (by kernel_rfl) (afn h7) (by kernel_rfl) (by kernel_rfl) (by kernel_rfl)) (by kernel_rfl) (fq 1 [(4,aI x6)] (wp_ret ?_))
   obtain rfl:=Option.some.inj hm
   exact ⟨trivial,by kernel_rfl⟩
  ·
   refine c0 h5 (wp_skip (sq (sq (dn [(2,.ptr 0 0),(3,.ptr 1 0),(20,aI x1.fKind)] (bq (sq (dn [(2,.ptr 0 0),(3,.ptr 1 0),(20,aI x1.fKind),(21,aB (x1.fKind == 3))] ?_)))))))
   rcases zo hm with ⟨h8,hm⟩ | ⟨h8,hm⟩
   ·
    refine c1 h8 (sq (rg (s1 4 [(26,aF x3.fFloat),(25,.ptr 1 2),(24,aF x1.fFloat),(23,.ptr 0 2)] ?_)))
    obtain ⟨x9,h10,hm⟩:=bs hm
    refine dv 27 (zE (by kernel_rfl) (agM h10) (by kernel_rfl) (by kernel_rfl) (by kernel_rfl)) (by kernel_rfl) (fq 1 [(4,aI x9)] (wp_ret ?_))
    obtain rfl:=Option.some.inj hm
    exact ⟨trivial,by kernel_rfl⟩
   ·
    refine c0 h8 (sq (dn [(2,.ptr 0 0),(3,.ptr 1 0),(28,aB (x1.fKind == 4))] ?_))
    rcases zo hm with ⟨h11,hm⟩ | ⟨h11,hm⟩
    ·
     refine c1 h11 (sq (rg (s1 4 [(33,aS x3.fText),(32,.ptr 1 3),(31,aS x1.fText),(30,.ptr 0 3)] ?_)))
     obtain ⟨x12,h13,hm⟩:=bs hm
     refine dv 34 (zE (by kernel_rfl) (adK h13) (by kernel_rfl) (by kernel_rfl) (by kernel_rfl)) (by kernel_rfl) (fq 1 [(4,aI x12)] (wp_ret ?_))
     obtain rfl:=Option.some.inj hm
     exact ⟨trivial,by kernel_rfl⟩
    ·
     refine c0 h11 (wp_skip (sq (rg (s1 4 [(38,aI x3.fInt),(37,.ptr 1 1),(36,aI x1.fInt),(35,.ptr 0 1)] ?_))))
     obtain ⟨x14,h15,hm⟩:=bs hm
     refine dv 39 (zE (by kernel_rfl) (aex h15) (by kernel_rfl) (by kernel_rfl) (by kernel_rfl)) (by kernel_rfl) (fq 1 [(4,aI x14)] (wp_ret ?_))
     obtain rfl:=Option.some.inj hm
     exact ⟨trivial,by kernel_rfl⟩
theorem aii {n:Nat} {a0:zi} {a1:zi} {r:Bool} (hm:aco n a0 a1=some r):
    call G n 155 [.agg (zc17 a0),.agg (zc17 a1)] []=some (.ret (aB r),[]):=by
  unfold aco at hm
  obtain ⟨n,rfl,h0⟩:=zB hm
  replace hm:=h0; clear h0
  refine Zr 9 [(0,.agg (zc17 a0)),(1,.agg (zc17 a1))] func155 rfl (by kernel_rfl) (sq (det [(2,.ptr 0 0),(3,.ptr 1 0)] [.box (zc17 a0) false,.box (zc17 a1) false] (by kernel_rfl) (sq (rg (s1 2 [(6,.agg (zc17 a1)),(5,.agg (zc17 a0))] ?_)))))
  obtain ⟨x1,h2,hm⟩:=bs hm
  refine dv 7 (zE (by kernel_rfl) (ajo h2) (by kernel_rfl) (by kernel_rfl) (by kernel_rfl)) (by kernel_rfl) (fq 2 [(4,aB (x1 == 0))] (wp_ret ?_))
  obtain rfl:=Option.some.inj hm
  exact ⟨trivial,by kernel_rfl⟩
theorem afN {rc_slices_EqualFunc_Expr_expr_Same:(Nat→(Option (List zc))→(Option (List zc))→Option (Bool))} (ih_slices_EqualFunc_Expr_expr_Same:∀ {n:Nat} {a0:(Option (List zc))} {a1:(Option (List zc))} {r:Bool} (hm:rc_slices_EqualFunc_Expr_expr_Same n a0 a1=some r),call G n 90 [.pv (zh zb a0),.pv (zh zb a1),.pv (.fn 88 [] [])] []=some (.ret (aB r),[])) {n:Nat} {a0:zj} {a1:zj} {r:Bool} (hm:Qy rc_slices_EqualFunc_Expr_expr_Same n a0 a1=some r):
    call G n 88 [.agg (zc4 a0),.agg (zc4 a1)] []=some (.ret (aB r),[]):=by
  unfold Qy at hm
  obtain ⟨n,rfl,h0⟩:=zB hm
  replace hm:=h0; clear h0
  refine Zr 47 [(0,.agg (zc4 a0)),(1,.agg (zc4 a1))] func88 rfl (by kernel_rfl) (sq (det [(2,.ptr 0 0),(3,.ptr 1 0)] [.box (zc4 a0) false,.box (zc4 a1) false] (by kernel_rfl) (sq (rg (s1 6 [(10,aB (a0.fKind == a1.fKind)),(9,aB (a0.fKind == a1.fKind)),(8,aI a1.fKind),(7,.ptr 1 0),(6,aI a0.fKind),(5,.ptr 0 0)] ?_)))))
  refine segP (a0.fKind == a1.fKind) [10,9] (fun b=>[(16,aB (b && (a0.fRel == a1.fRel))),(15,ifA b (aB (a0.fRel == a1.fRel)) (.undef)),(14,ifA b (aI a1.fRel) (.undef)),(13,ifA b (.ptr 1 1) (.undef)),(12,ifA b (aI a0.fRel) (.undef)),(11,ifA b (.ptr 0 1) (.undef))]) 6 (by kernel_rfl) (by kernel_rfl) (by kernel_rfl) (s1 1 [(17,aB ((a0.fKind == a1.fKind) && (a0.fRel == a1.fRel)))] ?_)
  refine segP ((a0.fKind == a1.fKind) && (a0.fRel == a1.fRel)) [17,16] (fun b=>[(23,aB (b && (a0.fCol == a1.fCol))),(22,ifA b (aB (a0.fCol == a1.fCol)) (.undef)),(21,ifA b (aI a1.fCol) (.undef)),(20,ifA b (.ptr 1 2) (.undef)),(19,ifA b (aI a0.fCol) (.undef)),(18,ifA b (.ptr 0 2) (.undef))]) 6 (by kernel_rfl) (by kernel_rfl) (by kernel_rfl) (s1 1 [(24,aB (((a0.fKind == a1.fKind) && (a0.fRel == a1.fRel)) && (a0.fCol == a1.fCol)))] ?_)
  refine segP (((a0.fKind == a1.fKind) && (a0.fRel == a1.fRel)) && (a0.fCol == a1.fCol)) [24,23] (fun b=>[(32,aB (b && (a0.fConst.fKind == a1.fConst.fKind))),(31,ifA b (aB (a0.fConst.fKind == a1.fConst.fKind)) (.undef)),(30,ifA b (aI a1.fConst.fKind) (.undef)),(29,ifA b (.ptr 1 3) (.undef)),(28,ifA b (.ptr 1 3) (.undef)),(27,ifA b (aI a0.fConst.fKind) (.undef)),(26,ifA b (.ptr 0 3) (.undef)),(25,ifA b (.ptr 0 3) (.undef))]) 8 (by kernel_rfl) (by kernel_rfl) (by kernel_rfl) (s1 1 [(33,aB ((((a0.fKind == a1.fKind) && (a0.fRel == a1.fRel)) && (a0.fCol == a1.fCol)) && (a0.fConst.fKind == a1.fConst.fKind)))] ?_)
  rcases zo hm with ⟨h1,hm⟩ | ⟨h1,hm⟩
  ·
   refine known [33,32] h1 (by kernel_rfl) (s1 4 [(37,.agg (zc18 a1)),(36,.ptr 1 3),(35,.agg (zc18 a0)),(34,.ptr 0 3)] ?_)
   obtain ⟨x2,h3,hm⟩:=bs hm
   refine dv 38 (zE (by kernel_rfl) (aii h3) (by kernel_rfl) (by kernel_rfl) (by kernel_rfl)) (by kernel_rfl) (s1 2 [(40,aB x2),(39,aB x2)] ?_)
   rcases zo hm with ⟨h4,hm⟩ | ⟨h4,hm⟩
   ·
    refine known [40,39,38] h4 (by kernel_rfl) (s1 4 [(44,.pv (zh zb a1.fKids)),(43,.ptr 1 7),(42,.pv (zh zb a0.fKids)),(41,.ptr 0 7)] ?_)
    obtain ⟨x5,h6,hm⟩:=bs hm
    refine dv 45 (zE (by kernel_rfl) (ih_slices_EqualFunc_Expr_expr_Same h6) (by kernel_rfl) (by kernel_rfl) (by kernel_rfl)) (by kernel_rfl) (fq 2 [(4,aB x5)] (wp_ret ?_))
    obtain rfl:=Option.some.inj hm
    exact ⟨trivial,by kernel_rfl⟩
   ·
    refine known [40,39,38] h4 (by kernel_rfl) (fq 7 [(4,aB false)] (wp_ret ?_))
    obtain rfl:=Option.some.inj hm
    exact ⟨trivial,by kernel_rfl⟩
  ·
   refine known [33,32] h1 (by kernel_rfl) (fq 14 [(4,aB false)] (wp_ret ?_))
   obtain rfl:=Option.some.inj hm
   exact ⟨trivial,by kernel_rfl⟩
theorem aaG {rc_slices_EqualFunc_Expr_expr_Same:(Nat→(Option (List zc))→(Option (List zc))→Option (Bool))} (ih_slices_EqualFunc_Expr_expr_Same:∀ {n:Nat} {a0:(Option (List zc))} {a1:(Option (List zc))} {r:Bool} (hm:rc_slices_EqualFunc_Expr_expr_Same n a0 a1=some r),call G n 90 [.pv (zh zb a0),.pv (zh zb a1),.pv (.fn 88 [] [])] []=some (.ret (aB r),[])) {n:Nat} {a0:(Option (List zc))} {a1:(Option (List zc))} {r:Bool} (hm:Zz rc_slices_EqualFunc_Expr_expr_Same n a0 a1=some r):
    call G n 90 [.pv (zh zb a0),.pv (zh zb a1),.pv (.fn 88 [] [])] []=some (.ret (aB r),[]):=by
  unfold Zz at hm
  obtain ⟨n,rfl,h0⟩:=zB hm
  replace hm:=h0; clear h0
  refine Zr 32 [(0,.pv (zh zb a0)),(1,.pv (zh zb a1)),(2,.pv (.fn 88 [] []))] func90 rfl (by kernel_rfl) (sq (dn [(0,.pv (zh zb a0)),(1,.pv (zh zb a1)),(2,.pv (.fn 88 [] []))] ?_))
  refine sq (sq (rg (s1 1 [(10,.pv (zh zb a0))] (dv 11 (v:=aI ((sll a0).length:Int)) (zy zb a0 t23 (by kernel_rfl)) (by kernel_rfl) (s1 1 [(12,.pv (zh zb a1))] (dv 13 (v:=aI ((sll a1).length:Int)) (zy zb a1 t23 (by kernel_rfl)) (by kernel_rfl) (fq 1 [(0,.pv (zh zb a0)),(1,.pv (zh zb a1)),(2,.pv (.fn 88 [] [])),(14,aB (((sll a0).length:Int) != ((sll a1).length:Int)))] ?_)))))))
  rcases zo hm with ⟨h1,hm⟩ | ⟨h1,hm⟩
  ·
   refine c1 h1 (sq (dn [(6,aB false)] (wp_ret ?_)))
   obtain rfl:=Option.some.inj hm
   exact ⟨trivial,by kernel_rfl⟩
  ·
   refine c0 h1 (wp_skip ?_)
   obtain ⟨k4,hk4,hm⟩:=zz hm
   refine mid (fun t H=>(∃ (y2:Int) (y3:Bool),k4 ()=some r∧t=mk 32 [(1,.pv (zh zb a1)),(2,.pv (.fn 88 [] [])),(15,.pv (zh zb a0)),(16,aI ((sll a0).length:Int)),(17,aI y2),(18,aB y3)]∧H=[])) ?_ ?_
   ·
    rintro _ _ ⟨y2,y3,hm,rfl,rfl⟩
    subst hk4
    refine sq (dn [(6,aB true)] (wp_ret ?_))
    obtain rfl:=Option.some.inj hm
    exact ⟨trivial,by kernel_rfl⟩
   refine sq (rg (s1 1 [(15,.pv (zh zb a0))] (dv 16 (v:=aI ((sll a0).length:Int)) (zy zb a0 t23 (by kernel_rfl)) (by kernel_rfl) (fq 1 [(1,.pv (zh zb a1)),(2,.pv (.fn 88 [] [])),(15,.pv (zh zb a0)),(16,aI ((sll a0).length:Int)),(17,aI 0)] (bq ?_)))))
   refine ZY (fun mm t H=>(∃ (y6:Int),zN n rc_slices_EqualFunc_Expr_expr_Same a0 a1 k4 mm y6=some r∧t=mk 32 [(1,.pv (zh zb a1)),(2,.pv (.fn 88 [] [])),(15,.pv (zh zb a0)),(16,aI ((sll a0).length:Int)),(17,aI y6)]∧H=[])) (⟨0,hm,rfl,rfl⟩) ?_ ?_
   · rintro _ _ ⟨y6,hm,_⟩; exact nomatch hm
   rintro m7 _ _ ⟨y6,hm,rfl,rfl⟩
   simp only [zN] at hm
   refine sq (dn [(1,.pv (zh zb a1)),(2,.pv (.fn 88 [] [])),(15,.pv (zh zb a0)),(16,aI ((sll a0).length:Int)),(17,aI y6),(18,aB (decide (y6 < ((sll a0).length:Int))))] ?_)
   refine sq ?_
   rcases zo hm with ⟨h8,hm⟩ | ⟨h8,hm⟩
   ·
    refine c1 h8 (wp_skip (sq (bq (sq (rg (s1 1 [(19,aI y6)] ?_))))))
    obtain ⟨x9,h10,hm⟩:=bs hm
    refine dv 20 (v:=.pv (.ptr (zC (za x9)) 0)) (Zd zb a0 .i64 t23 t49 h10 (zx x9) rfl (by kernel_rfl)) (by kernel_rfl) (stf 4 [(1,.pv (zh zb a1)),(2,.pv (.fn 88 [] [])),(7,aI y6),(8,.ptr 0 0),(15,.pv (zh zb a0)),(16,aI ((sll a0).length:Int)),(17,aI y6)] [.box (zc8 x9) false] (by kernel_rfl) (sq (rg (s1 2 [(23,aI y6),(22,.pv (zh zb a1))] ?_))))
    obtain ⟨x11,h12,hm⟩:=bs hm
    refine dv 24 (v:=.pv (.ptr (zC (za x11)) 0)) (Zd zb a1 .i64 t23 t49 h12 (zx x11) rfl (by kernel_rfl)) (by kernel_rfl) (stf 3 [(1,.pv (zh zb a1)),(2,.pv (.fn 88 [] [])),(8,.ptr 0 0),(9,.ptr 1 0),(15,.pv (zh zb a0)),(16,aI ((sll a0).length:Int)),(17,aI y6)] [.box (zc8 x9) false,.box (zc8 x11) false] (by kernel_rfl) (sq (rg (s1 3 [(28,.agg (zc8 x11)),(27,.agg (zc8 x9)),(26,.pv (.fn 88 [] []))] ?_))))
    obtain ⟨x13,h14,hm⟩:=bs hm
    refine dv 29 (zE (by kernel_rfl) (afN ih_slices_EqualFunc_Expr_expr_Same h14) (by kernel_rfl) (by kernel_rfl) (by kernel_rfl)) (by kernel_rfl) (fq 1 [(1,.pv (zh zb a1)),(2,.pv (.fn 88 [] [])),(15,.pv (zh zb a0)),(16,aI ((sll a0).length:Int)),(17,aI y6),(30,aB (!x13))] ?_)
    rcases zo hm with ⟨h15,hm⟩ | ⟨h15,hm⟩
    ·
     refine c1 h15 (sq (dn [(6,aB false)] (wp_ret ?_)))
     obtain rfl:=Option.some.inj hm
     exact ⟨trivial,by kernel_rfl⟩
    ·
     refine c0 h15 (wp_skip (dn [(1,.pv (zh zb a1)),(2,.pv (.fn 88 [] [])),(15,.pv (zh zb a0)),(16,aI ((sll a0).length:Int)),(17,aI (IntKind.wrap .i64 (y6+1)))] ?_))
     exact ⟨_,_,Zh [(1,.pv (zh zb a1)),(2,.pv (.fn 88 [] [])),(15,.pv (zh zb a0)),(16,aI ((sll a0).length:Int)),(17,aI (IntKind.wrap .i64 (y6+1)))] [] (by kernel_rfl),⟨(IntKind.wrap .i64 (y6+1)),hm,rfl,rfl⟩⟩
   ·
    refine c0 h8 (wp_exit ?_)
    exact ⟨y6,(decide (y6 < ((sll a0).length:Int))),hm,rfl,rfl⟩
theorem qX:∀ (m:Nat),∀ {n:Nat} {a0:(Option (List zc))} {a1:(Option (List zc))} {r:Bool} (hm:zU m n a0 a1=some r),call G n 90 [.pv (zh zb a0),.pv (zh zb a1),.pv (.fn 88 [] [])] []=some (.ret (aB r),[])
  | 0=>by intros; rename_i hm; exact nomatch hm
  | m+1=>fun hm=>
    aaG (qX m) hm
theorem Zx {n:Nat} {a0:(Option (List zc))} {a1:(Option (List zc))} {r:Bool} (hm:zX n a0 a1=some r):
    call G n 90 [.pv (zh zb a0),.pv (zh zb a1),.pv (.fn 88 [] [])] []=some (.ret (aB r),[]):=qX n hm
theorem aju {n:Nat} {a0:zr} {a1:zr} {r:Bool} (hm:aeL n a0 a1=some r):
    call G n 128 [.agg (zc19 a0),.agg (zc19 a1)] []=some (.ret (aB r),[]):=by
  unfold aeL at hm
  obtain ⟨n,rfl,h0⟩:=zB hm
  replace hm:=h0; clear h0
  refine Zr 17 [(0,.agg (zc19 a0)),(1,.agg (zc19 a1))] func128 rfl (by kernel_rfl) (sq (det [(2,.ptr 0 0),(3,.ptr 1 0)] [.box (zc19 a0) false,.box (zc19 a1) false] (by kernel_rfl) (sq (rg (s1 6 [(10,aB (a0.fKind == a1.fKind)),(9,aB (a0.fKind == a1.fKind)),(8,aI a1.fKind),(7,.ptr 1 0),(6,aI a0.fKind),(5,.ptr 0 0)] ?_)))))
  rcases zo hm with ⟨h1,hm⟩ | ⟨h1,hm⟩
  ·
   refine known [10,9] h1 (by kernel_rfl) (s1 4 [(14,.agg (zc1 a1)),(13,.ptr 1 1),(12,.agg (zc1 a0)),(11,.ptr 0 1)] ?_)
   obtain ⟨x2,h3,hm⟩:=bs hm
   refine dv 15 (zE (by kernel_rfl) (afN (fun h=>Zx h) h3) (by kernel_rfl) (by kernel_rfl) (by kernel_rfl)) (by kernel_rfl) (fq 2 [(4,aB x2)] (wp_ret ?_))
   obtain rfl:=Option.some.inj hm
   exact ⟨trivial,by kernel_rfl⟩
  ·
   refine known [10,9] h1 (by kernel_rfl) (fq 7 [(4,aB false)] (wp_ret ?_))
   obtain rfl:=Option.some.inj hm
   exact ⟨trivial,by kernel_rfl⟩
theorem aa0 {n:Nat} {a0:(Option (List zr))} {a1:(Option (List zr))} {r:Bool} (hm:ZM n a0 a1=some r):
    call G n 91 [.pv (zh zn a0),.pv (zh zn a1),.pv (.fn 128 [] [])] []=some (.ret (aB r),[]):=by
  unfold ZM at hm
  obtain ⟨n,rfl,h0⟩:=zB hm
  replace hm:=h0; clear h0
  refine Zr 32 [(0,.pv (zh zn a0)),(1,.pv (zh zn a1)),(2,.pv (.fn 128 [] []))] func91 rfl (by kernel_rfl) (sq (dn [(0,.pv (zh zn a0)),(1,.pv (zh zn a1)),(2,.pv (.fn 128 [] []))] ?_))
  refine sq (sq (rg (s1 1 [(10,.pv (zh zn a0))] (dv 11 (v:=aI ((sll a0).length:Int)) (zy zn a0 t24 (by kernel_rfl)) (by kernel_rfl) (s1 1 [(12,.pv (zh zn a1))] (dv 13 (v:=aI ((sll a1).length:Int)) (zy zn a1 t24 (by kernel_rfl)) (by kernel_rfl) (fq 1 [(0,.pv (zh zn a0)),(1,.pv (zh zn a1)),(2,.pv (.fn 128 [] [])),(14,aB (((sll a0).length:Int) != ((sll a1).length:Int)))] ?_)))))))
  rcases zo hm with ⟨h1,hm⟩ | ⟨h1,hm⟩
  ·
   refine c1 h1 (sq (dn [(6,aB false)] (wp_ret ?_)))
   obtain rfl:=Option.some.inj hm
   exact ⟨trivial,by kernel_rfl⟩
  ·
   refine c0 h1 (wp_skip ?_)
   obtain ⟨k4,hk4,hm⟩:=zz hm
   refine mid (fun t H=>(∃ (y2:Int) (y3:Bool),k4 ()=some r∧t=mk 32 [(1,.pv (zh zn a1)),(2,.pv (.fn 128 [] [])),(15,.pv (zh zn a0)),(16,aI ((sll a0).length:Int)),(17,aI y2),(18,aB y3)]∧H=[])) ?_ ?_
   ·
    rintro _ _ ⟨y2,y3,hm,rfl,rfl⟩
    subst hk4
    refine sq (dn [(6,aB true)] (wp_ret ?_))
    obtain rfl:=Option.some.inj hm
    exact ⟨trivial,by kernel_rfl⟩
   refine sq (rg (s1 1 [(15,.pv (zh zn a0))] (dv 16 (v:=aI ((sll a0).length:Int)) (zy zn a0 t24 (by kernel_rfl)) (by kernel_rfl) (fq 1 [(1,.pv (zh zn a1)),(2,.pv (.fn 128 [] [])),(15,.pv (zh zn a0)),(16,aI ((sll a0).length:Int)),(17,aI 0)] (bq ?_)))))
   refine ZY (fun mm t H=>(∃ (y6:Int),zP n a0 a1 k4 mm y6=some r∧t=mk 32 [(1,.pv (zh zn a1)),(2,.pv (.fn 128 [] [])),(15,.pv (zh zn a0)),(16,aI ((sll a0).length:Int)),(17,aI y6)]∧H=[])) (⟨0,hm,rfl,rfl⟩) ?_ ?_
   · rintro _ _ ⟨y6,hm,_⟩; exact nomatch hm
   rintro m7 _ _ ⟨y6,hm,rfl,rfl⟩
   simp only [zP] at hm
   refine sq (dn [(1,.pv (zh zn a1)),(2,.pv (.fn 128 [] [])),(15,.pv (zh zn a0)),(16,aI ((sll a0).length:Int)),(17,aI y6),(18,aB (decide (y6 < ((sll a0).length:Int))))] ?_)
   refine sq ?_
   rcases zo hm with ⟨h8,hm⟩ | ⟨h8,hm⟩
   ·
    refine c1 h8 (wp_skip (sq (bq (sq (rg (s1 1 [(19,aI y6)] ?_))))))
    obtain ⟨x9,h10,hm⟩:=bs hm
    refine dv 20 (v:=.pv (.ptr (zn x9) 0)) (qA zn a0 .i64 t24 t101 h10 rfl (by kernel_rfl)) (by kernel_rfl) (stf 4 [(1,.pv (zh zn a1)),(2,.pv (.fn 128 [] [])),(7,aI y6),(8,.ptr 0 0),(15,.pv (zh zn a0)),(16,aI ((sll a0).length:Int)),(17,aI y6)] [.box (zc19 x9) false] (by kernel_rfl) (sq (rg (s1 2 [(23,aI y6),(22,.pv (zh zn a1))] ?_))))
    obtain ⟨x11,h12,hm⟩:=bs hm
    refine dv 24 (v:=.pv (.ptr (zn x11) 0)) (qA zn a1 .i64 t24 t101 h12 rfl (by kernel_rfl)) (by kernel_rfl) (stf 3 [(1,.pv (zh zn a1)),(2,.pv (.fn 128 [] [])),(8,.ptr 0 0),(9,.ptr 1 0),(15,.pv (zh zn a0)),(16,aI ((sll a0).length:Int)),(17,aI y6)] [.box (zc19 x9) false,.box (zc19 x11) false] (by kernel_rfl) (sq (rg (s1 3 [(28,.agg (zc19 x11)),(27,.agg (zc19 x9)),(26,.pv (.fn 128 [] []))] ?_))))
    obtain ⟨x13,h14,hm⟩:=bs hm
    refine dv 29 (zE (by kernel_rfl) (aju h14) (by kernel_rfl) (by kernel_rfl) (by kernel_rfl)) (by kernel_rfl) (fq 1 [(1,.pv (zh zn a1)),(2,.pv (.fn 128 [] [])),(15,.pv (zh zn a0)),(16,aI ((sll a0).length:Int)),(17,aI y6),(30,aB (!x13))] ?_)
    rcases zo hm with ⟨h15,hm⟩ | ⟨h15,hm⟩
    ·
     refine c1 h15 (sq (dn [(6,aB false)] (wp_ret ?_)))
     obtain rfl:=Option.some.inj hm
     exact ⟨trivial,by kernel_rfl⟩
    ·
     refine c0 h15 (wp_skip (dn [(1,.pv (zh zn a1)),(2,.pv (.fn 128 [] [])),(15,.pv (zh zn a0)),(16,aI ((sll a0).length:Int)),(17,aI (IntKind.wrap .i64 (y6+1)))] ?_))
     exact ⟨_,_,Zh [(1,.pv (zh zn a1)),(2,.pv (.fn 128 [] [])),(15,.pv (zh zn a0)),(16,aI ((sll a0).length:Int)),(17,aI (IntKind.wrap .i64 (y6+1)))] [] (by kernel_rfl),⟨(IntKind.wrap .i64 (y6+1)),hm,rfl,rfl⟩⟩
   ·
    refine c0 h8 (wp_exit ?_)
    exact ⟨y6,(decide (y6 < ((sll a0).length:Int))),hm,rfl,rfl⟩
end Go.Ab.S1
