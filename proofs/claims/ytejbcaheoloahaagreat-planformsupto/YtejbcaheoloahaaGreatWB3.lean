import Derived.Test.YtejbcaheoloahaaGreatWB2
noncomputable section
namespace Go.Ab.S1
open Go Go.Ab Go.Pl
open Go.Proofs.Tryz
set_option maxRecDepth 100000
theorem aeP {n:Nat} {a0:(Option (List zt))} {a1:(Option (List zt))} {r:Bool} (hm:Qr n a0 a1=some r):
    call G n 92 [.pv (zh zp a0),.pv (zh zp a1)] []=some (.ret (aB r),[]):=by
  unfold Qr at hm
  obtain ⟨n,rfl,h0⟩:=zB hm
  replace hm:=h0; clear h0
  refine Zr 26 [(0,.pv (zh zp a0)),(1,.pv (zh zp a1))] func92 rfl (by kernel_rfl) (sq (dn [(0,.pv (zh zp a0)),(1,.pv (zh zp a1))] ?_))
  refine sq (sq (rg (s1 1 [(6,.pv (zh zp a0))] (dv 7 (v:=aI ((sll a0).length:Int)) (zy zp a0 t25 (by kernel_rfl)) (by kernel_rfl) (s1 1 [(8,.pv (zh zp a1))] (dv 9 (v:=aI ((sll a1).length:Int)) (zy zp a1 t25 (by kernel_rfl)) (by kernel_rfl) (fq 1 [(0,.pv (zh zp a0)),(1,.pv (zh zp a1)),(10,aB (((sll a0).length:Int) != ((sll a1).length:Int)))] ?_)))))))
  rcases zo hm with ⟨h1,hm⟩ | ⟨h1,hm⟩
  ·
   refine c1 h1 (sq (dn [(4,aB false)] (wp_ret ?_)))
   obtain rfl:=Option.some.inj hm
   exact ⟨trivial,by kernel_rfl⟩
  ·
   refine c0 h1 (wp_skip ?_)
   obtain ⟨k4,hk4,hm⟩:=zz hm
   refine mid (fun t H=>(∃ (y2:Int) (y3:Bool),k4 ()=some r∧t=mk 26 [(0,.pv (zh zp a0)),(1,.pv (zh zp a1)),(12,aI ((sll a0).length:Int)),(13,aI y2),(14,aB y3)]∧H=[])) ?_ ?_
   ·
    rintro _ _ ⟨y2,y3,hm,rfl,rfl⟩
    subst hk4
    refine sq (dn [(4,aB true)] (wp_ret ?_))
    obtain rfl:=Option.some.inj hm
    exact ⟨trivial,by kernel_rfl⟩
   refine sq (rg (s1 1 [(11,.pv (zh zp a0))] (dv 12 (v:=aI ((sll a0).length:Int)) (zy zp a0 t25 (by kernel_rfl)) (by kernel_rfl) (fq 1 [(0,.pv (zh zp a0)),(1,.pv (zh zp a1)),(12,aI ((sll a0).length:Int)),(13,aI 0)] (bq ?_)))))
   refine ZY (fun mm t H=>(∃ (y6:Int),ZI n a0 a1 k4 mm y6=some r∧t=mk 26 [(0,.pv (zh zp a0)),(1,.pv (zh zp a1)),(12,aI ((sll a0).length:Int)),(13,aI y6)]∧H=[])) (⟨0,hm,rfl,rfl⟩) ?_ ?_
   · rintro _ _ ⟨y6,hm,_⟩; exact nomatch hm
   rintro m7 _ _ ⟨y6,hm,rfl,rfl⟩
   simp only [ZI] at hm
   refine sq (dn [(0,.pv (zh zp a0)),(1,.pv (zh zp a1)),(12,aI ((sll a0).length:Int)),(13,aI y6),(14,aB (decide (y6 < ((sll a0).length:Int))))] ?_)
   refine sq ?_
   rcases zo hm with ⟨h8,hm⟩ | ⟨h8,hm⟩
   ·
    refine c1 h8 (wp_skip (sq (bq (sq (dn [(0,.pv (zh zp a0)),(1,.pv (zh zp a1)),(5,aI y6),(12,aI ((sll a0).length:Int)),(13,aI y6)] (sq (rgd (shd 2 [(17,aI y6),(16,.pv (zh zp a0))] (by kernel_rfl) ?_))))))))
    obtain ⟨x9,h10,hm⟩:=bs hm
    refine dvd 18 (v:=.pv (.ptr (zp x9) 0)) (qA zp a0 .i64 t25 t86 h10 rfl (by kernel_rfl)) (by kernel_rfl) (shd 3 [(21,aI y6),(20,.pv (zh zp a1)),(19,.agg [aI x9.fOut,aB x9.fDesc])] (by kernel_rfl) ?_)
    obtain ⟨x11,h12,hm⟩:=bs hm
    refine dvd 22 (v:=.pv (.ptr (zp x11) 0)) (qA zp a1 .i64 t25 t86 h12 rfl (by kernel_rfl)) (by kernel_rfl) (shd 2 [(24,aB (!((x9.fOut == x11.fOut) && ((x9.fDesc == x11.fDesc) && true)))),(23,.agg [aI x11.fOut,aB x11.fDesc])] (by kernel_rfl) (find [(0,.pv (zh zp a0)),(1,.pv (zh zp a1)),(12,aI ((sll a0).length:Int)),(13,aI y6),(24,aB (!((x9.fOut == x11.fOut) && ((x9.fDesc == x11.fDesc) && true))))] rfl (by kernel_rfl) (by kernel_rfl) ?_))
    rcases zo hm with ⟨h13,hm⟩ | ⟨h13,hm⟩
    ·
     refine c1 h13 (sq (dn [(4,aB false)] (wp_ret ?_)))
     obtain rfl:=Option.some.inj hm
     exact ⟨trivial,by kernel_rfl⟩
    ·
     refine c0 h13 (wp_skip (dn [(0,.pv (zh zp a0)),(1,.pv (zh zp a1)),(12,aI ((sll a0).length:Int)),(13,aI (IntKind.wrap .i64 (y6+1)))] ?_))
     exact ⟨_,_,Zh [(0,.pv (zh zp a0)),(1,.pv (zh zp a1)),(12,aI ((sll a0).length:Int)),(13,aI (IntKind.wrap .i64 (y6+1)))] [] (by kernel_rfl),⟨(IntKind.wrap .i64 (y6+1)),hm,rfl,rfl⟩⟩
   ·
    refine c0 h8 (wp_exit ?_)
    exact ⟨y6,(decide (y6 < ((sll a0).length:Int))),hm,rfl,rfl⟩
theorem aaO {rc_plan_Same:(Nat→zk→zk→Option (Bool))} (ih_plan_Same:∀ {n:Nat} {a0:zk} {a1:zk} {r:Bool} (hm:rc_plan_Same n a0 a1=some r),call G n 40 [.agg [aI a0.fKind,aI a0.fRel,.pv (zh zb a0.fWhere),.pv (zh zb a0.fLeft),.pv (zh zb a0.fRight),.pv (zh zb a0.fOut),.pv (zh zn a0.fAggs),.pv (zh zp a0.fOrder),.pv (zh zg a0.fKids)],.agg [aI a1.fKind,aI a1.fRel,.pv (zh zb a1.fWhere),.pv (zh zb a1.fLeft),.pv (zh zb a1.fRight),.pv (zh zb a1.fOut),.pv (zh zn a1.fAggs),.pv (zh zp a1.fOrder),.pv (zh zg a1.fKids)]] []=some (.ret (aB r),[])) {n:Nat} {a0:(Option (List zm))} {a1:(Option (List zm))} {r:Bool} (hm:ZH rc_plan_Same n a0 a1=some r):
    call G n 129 [.pv (zh zg a0),.pv (zh zg a1),.pv (.fn 40 [] [])] []=some (.ret (aB r),[]):=by
  unfold ZH at hm
  obtain ⟨n,rfl,h0⟩:=zB hm
  replace hm:=h0; clear h0
  refine Zr 32 [(0,.pv (zh zg a0)),(1,.pv (zh zg a1)),(2,.pv (.fn 40 [] []))] func129 rfl (by kernel_rfl) (sq (dn [(0,.pv (zh zg a0)),(1,.pv (zh zg a1)),(2,.pv (.fn 40 [] []))] ?_))
  refine sq (sq (rg (s1 1 [(10,.pv (zh zg a0))] (dv 11 (v:=aI ((sll a0).length:Int)) (zy zg a0 t64 (by kernel_rfl)) (by kernel_rfl) (s1 1 [(12,.pv (zh zg a1))] (dv 13 (v:=aI ((sll a1).length:Int)) (zy zg a1 t64 (by kernel_rfl)) (by kernel_rfl) (fq 1 [(0,.pv (zh zg a0)),(1,.pv (zh zg a1)),(2,.pv (.fn 40 [] [])),(14,aB (((sll a0).length:Int) != ((sll a1).length:Int)))] ?_)))))))
  rcases zo hm with ⟨h1,hm⟩ | ⟨h1,hm⟩
  ·
   refine c1 h1 (sq (dn [(6,aB false)] (wp_ret ?_)))
   obtain rfl:=Option.some.inj hm
   exact ⟨trivial,by kernel_rfl⟩
  ·
   refine c0 h1 (wp_skip ?_)
   obtain ⟨k4,hk4,hm⟩:=zz hm
   refine mid (fun t H=>(∃ (y2:Int) (y3:Bool),k4 ()=some r∧t=mk 32 [(1,.pv (zh zg a1)),(2,.pv (.fn 40 [] [])),(15,.pv (zh zg a0)),(16,aI ((sll a0).length:Int)),(17,aI y2),(18,aB y3)]∧H=[])) ?_ ?_
   ·
    rintro _ _ ⟨y2,y3,hm,rfl,rfl⟩
    subst hk4
    refine sq (dn [(6,aB true)] (wp_ret ?_))
    obtain rfl:=Option.some.inj hm
    exact ⟨trivial,by kernel_rfl⟩
   refine sq (rg (s1 1 [(15,.pv (zh zg a0))] (dv 16 (v:=aI ((sll a0).length:Int)) (zy zg a0 t64 (by kernel_rfl)) (by kernel_rfl) (fq 1 [(1,.pv (zh zg a1)),(2,.pv (.fn 40 [] [])),(15,.pv (zh zg a0)),(16,aI ((sll a0).length:Int)),(17,aI 0)] (bq ?_)))))
   refine ZY (fun mm t H=>(∃ (y6:Int),zM n rc_plan_Same a0 a1 k4 mm y6=some r∧t=mk 32 [(1,.pv (zh zg a1)),(2,.pv (.fn 40 [] [])),(15,.pv (zh zg a0)),(16,aI ((sll a0).length:Int)),(17,aI y6)]∧H=[])) (⟨0,hm,rfl,rfl⟩) ?_ ?_
   · rintro _ _ ⟨y6,hm,_⟩; exact nomatch hm
   rintro m7 _ _ ⟨y6,hm,rfl,rfl⟩
   simp only [zM] at hm
   refine sq (dn [(1,.pv (zh zg a1)),(2,.pv (.fn 40 [] [])),(15,.pv (zh zg a0)),(16,aI ((sll a0).length:Int)),(17,aI y6),(18,aB (decide (y6 < ((sll a0).length:Int))))] ?_)
   refine sq ?_
   rcases zo hm with ⟨h8,hm⟩ | ⟨h8,hm⟩
   ·
    refine c1 h8 (wp_skip (sq (bq (sq (rg (s1 1 [(19,aI y6)] ?_))))))
    obtain ⟨x9,h10,hm⟩:=bs hm
    refine dv 20 (v:=.pv (.ptr (zG (zd x9)) 0)) (Zd zg a0 .i64 t64 t66 h10 (zF x9) rfl (by kernel_rfl)) (by kernel_rfl) (stf 4 [(1,.pv (zh zg a1)),(2,.pv (.fn 40 [] [])),(7,aI y6),(8,.ptr 0 0),(15,.pv (zh zg a0)),(16,aI ((sll a0).length:Int)),(17,aI y6)] [.box (zc3 x9) false] (by kernel_rfl) (sq (rg (s1 2 [(23,aI y6),(22,.pv (zh zg a1))] ?_))))
    obtain ⟨x11,h12,hm⟩:=bs hm
    refine dv 24 (v:=.pv (.ptr (zG (zd x11)) 0)) (Zd zg a1 .i64 t64 t66 h12 (zF x11) rfl (by kernel_rfl)) (by kernel_rfl) (stf 3 [(1,.pv (zh zg a1)),(2,.pv (.fn 40 [] [])),(8,.ptr 0 0),(9,.ptr 1 0),(15,.pv (zh zg a0)),(16,aI ((sll a0).length:Int)),(17,aI y6)] [.box (zc3 x9) false,.box (zc3 x11) false] (by kernel_rfl) (sq (rg (s1 3 [(28,.agg (zc3 x11)),(27,.agg (zc3 x9)),(26,.pv (.fn 40 [] []))] ?_))))
    obtain ⟨x13,h14,hm⟩:=bs hm
    refine dv 29 (zE (by kernel_rfl) (ih_plan_Same h14) (by kernel_rfl) (by kernel_rfl) (by kernel_rfl)) (by kernel_rfl) (fq 1 [(1,.pv (zh zg a1)),(2,.pv (.fn 40 [] [])),(15,.pv (zh zg a0)),(16,aI ((sll a0).length:Int)),(17,aI y6),(30,aB (!x13))] ?_)
    rcases zo hm with ⟨h15,hm⟩ | ⟨h15,hm⟩
    ·
     refine c1 h15 (sq (dn [(6,aB false)] (wp_ret ?_)))
     obtain rfl:=Option.some.inj hm
     exact ⟨trivial,by kernel_rfl⟩
    ·
     refine c0 h15 (wp_skip (dn [(1,.pv (zh zg a1)),(2,.pv (.fn 40 [] [])),(15,.pv (zh zg a0)),(16,aI ((sll a0).length:Int)),(17,aI (IntKind.wrap .i64 (y6+1)))] ?_))
     exact ⟨_,_,Zh [(1,.pv (zh zg a1)),(2,.pv (.fn 40 [] [])),(15,.pv (zh zg a0)),(16,aI ((sll a0).length:Int)),(17,aI (IntKind.wrap .i64 (y6+1)))] [] (by kernel_rfl),⟨(IntKind.wrap .i64 (y6+1)),hm,rfl,rfl⟩⟩
   ·
    refine c0 h8 (wp_exit ?_)
    exact ⟨y6,(decide (y6 < ((sll a0).length:Int))),hm,rfl,rfl⟩
theorem ain {rc_plan_Same:(Nat→zk→zk→Option (Bool))} (ih_plan_Same:∀ {n:Nat} {a0:zk} {a1:zk} {r:Bool} (hm:rc_plan_Same n a0 a1=some r),call G n 40 [.agg [aI a0.fKind,aI a0.fRel,.pv (zh zb a0.fWhere),.pv (zh zb a0.fLeft),.pv (zh zb a0.fRight),.pv (zh zb a0.fOut),.pv (zh zn a0.fAggs),.pv (zh zp a0.fOrder),.pv (zh zg a0.fKids)],.agg [aI a1.fKind,aI a1.fRel,.pv (zh zb a1.fWhere),.pv (zh zb a1.fLeft),.pv (zh zb a1.fRight),.pv (zh zb a1.fOut),.pv (zh zn a1.fAggs),.pv (zh zp a1.fOrder),.pv (zh zg a1.fKids)]] []=some (.ret (aB r),[])) {n:Nat} {a0:zk} {a1:zk} {r:Bool} (hm:abD rc_plan_Same n a0 a1=some r):
    call G n 40 [.agg (zc2 a0),.agg (zc2 a1)] []=some (.ret (aB r),[]):=by
  unfold abD at hm
  obtain ⟨n,rfl,h0⟩:=zB hm
  replace hm:=h0; clear h0
  refine Zr 66 [(0,.agg (zc2 a0)),(1,.agg (zc2 a1))] func40 rfl (by kernel_rfl) (sq (det [(2,.ptr 0 0),(3,.ptr 1 0)] [.box (zc2 a0) false,.box (zc2 a1) false] (by kernel_rfl) (sq (rg (s1 6 [(10,aB (a0.fKind == a1.fKind)),(9,aB (a0.fKind == a1.fKind)),(8,aI a1.fKind),(7,.ptr 1 0),(6,aI a0.fKind),(5,.ptr 0 0)] ?_)))))
  refine segP (a0.fKind == a1.fKind) [10,9] (fun b=>[(16,aB (b && (a0.fRel == a1.fRel))),(15,ifA b (aB (a0.fRel == a1.fRel)) (.undef)),(14,ifA b (aI a1.fRel) (.undef)),(13,ifA b (.ptr 1 1) (.undef)),(12,ifA b (aI a0.fRel) (.undef)),(11,ifA b (.ptr 0 1) (.undef))]) 6 (by kernel_rfl) (by kernel_rfl) (by kernel_rfl) (s1 1 [(17,aB ((a0.fKind == a1.fKind) && (a0.fRel == a1.fRel)))] ?_)
  rcases zo hm with ⟨h1,hm⟩ | ⟨h1,hm⟩
  ·
   refine known [17,16] h1 (by kernel_rfl) (s1 4 [(21,.pv (zh zb a1.fWhere)),(20,.ptr 1 2),(19,.pv (zh zb a0.fWhere)),(18,.ptr 0 2)] ?_)
   obtain ⟨x2,h3,hm⟩:=bs hm
   refine dv 22 (zE (by kernel_rfl) (Zx h3) (by kernel_rfl) (by kernel_rfl) (by kernel_rfl)) (by kernel_rfl) (s1 2 [(24,aB x2),(23,aB x2)] ?_)
   rcases zo hm with ⟨h4,hm⟩ | ⟨h4,hm⟩
   ·
    refine known [24,23,22] h4 (by kernel_rfl) (s1 4 [(28,.pv (zh zb a1.fLeft)),(27,.ptr 1 3),(26,.pv (zh zb a0.fLeft)),(25,.ptr 0 3)] ?_)
    obtain ⟨x5,h6,hm⟩:=bs hm
    refine dv 29 (zE (by kernel_rfl) (Zx h6) (by kernel_rfl) (by kernel_rfl) (by kernel_rfl)) (by kernel_rfl) (s1 2 [(31,aB x5),(30,aB x5)] ?_)
    rcases zo hm with ⟨h7,hm⟩ | ⟨h7,hm⟩
    ·
     refine known [31,30,29] h7 (by kernel_rfl) (s1 4 [(35,.pv (zh zb a1.fRight)),(34,.ptr 1 4),(33,.pv (zh zb a0.fRight)),(32,.ptr 0 4)] ?_)
     obtain ⟨x8,h9,hm⟩:=bs hm
     refine dv 36 (zE (by kernel_rfl) (Zx h9) (by kernel_rfl) (by kernel_rfl) (by kernel_rfl)) (by kernel_rfl) (s1 2 [(38,aB x8),(37,aB x8)] ?_)
     rcases zo hm with ⟨h10,hm⟩ | ⟨h10,hm⟩
     ·
      refine known [38,37,36] h10 (by kernel_rfl) (s1 4 [(42,.pv (zh zb a1.fOut)),(41,.ptr 1 5),(40,.pv (zh zb a0.fOut)),(39,.ptr 0 5)] ?_)
      obtain ⟨x11,h12,hm⟩:=bs hm
      refine dv 43 (zE (by kernel_rfl) (Zx h12) (by kernel_rfl) (by kernel_rfl) (by kernel_rfl)) (by kernel_rfl) (s1 2 [(45,aB x11),(44,aB x11)] ?_)
      rcases zo hm with ⟨h13,hm⟩ | ⟨h13,hm⟩
      ·
       refine known [45,44,43] h13 (by kernel_rfl) (s1 4 [(49,.pv (zh zn a1.fAggs)),(48,.ptr 1 6),(47,.pv (zh zn a0.fAggs)),(46,.ptr 0 6)] ?_)
       obtain ⟨x14,h15,hm⟩:=bs hm
       refine dv 50 (zE (by kernel_rfl) (aa0 h15) (by kernel_rfl) (by kernel_rfl) (by kernel_rfl)) (by kernel_rfl) (s1 2 [(52,aB x14),(51,aB x14)] ?_)
       rcases zo hm with ⟨h16,hm⟩ | ⟨h16,hm⟩
       ·
        refine known [52,51,50] h16 (by kernel_rfl) (s1 4 [(56,.pv (zh zp a1.fOrder)),(55,.ptr 1 7),(54,.pv (zh zp a0.fOrder)),(53,.ptr 0 7)] ?_)
        obtain ⟨x17,h18,hm⟩:=bs hm
        refine dv 57 (zE (by kernel_rfl) (aeP h18) (by kernel_rfl) (by kernel_rfl) (by kernel_rfl)) (by kernel_rfl) (s1 2 [(59,aB x17),(58,aB x17)] ?_)
        rcases zo hm with ⟨h19,hm⟩ | ⟨h19,hm⟩
        ·
         refine known [59,58,57] h19 (by kernel_rfl) (s1 4 [(63,.pv (zh zg a1.fKids)),(62,.ptr 1 8),(61,.pv (zh zg a0.fKids)),(60,.ptr 0 8)] ?_)
         obtain ⟨x20,h21,hm⟩:=bs hm
         refine dv 64 (zE (by kernel_rfl) (aaO ih_plan_Same h21) (by kernel_rfl) (by kernel_rfl) (by kernel_rfl)) (by kernel_rfl) (fq 2 [(4,aB x20)] (wp_ret ?_))
         obtain rfl:=Option.some.inj hm
         exact ⟨trivial,by kernel_rfl⟩
        ·
         refine known [59,58,57] h19 (by kernel_rfl) (fq 7 [(4,aB false)] (wp_ret ?_))
         obtain rfl:=Option.some.inj hm
         exact ⟨trivial,by kernel_rfl⟩
       ·
        refine known [52,51,50] h16 (by kernel_rfl) (fq 14 [(4,aB false)] (wp_ret ?_))
        obtain rfl:=Option.some.inj hm
        exact ⟨trivial,by kernel_rfl⟩
      ·
       refine known [45,44,43] h13 (by kernel_rfl) (fq 21 [(4,aB false)] (wp_ret ?_))
       obtain rfl:=Option.some.inj hm
       exact ⟨trivial,by kernel_rfl⟩
     ·
      refine known [38,37,36] h10 (by kernel_rfl) (fq 28 [(4,aB false)] (wp_ret ?_))
      obtain rfl:=Option.some.inj hm
      exact ⟨trivial,by kernel_rfl⟩
    ·
     refine known [31,30,29] h7 (by kernel_rfl) (fq 35 [(4,aB false)] (wp_ret ?_))
     obtain rfl:=Option.some.inj hm
     exact ⟨trivial,by kernel_rfl⟩
   ·
    refine known [24,23,22] h4 (by kernel_rfl) (fq 42 [(4,aB false)] (wp_ret ?_))
    obtain rfl:=Option.some.inj hm
    exact ⟨trivial,by kernel_rfl⟩
  ·
   refine known [17,16] h1 (by kernel_rfl) (fq 49 [(4,aB false)] (wp_ret ?_))
   obtain rfl:=Option.some.inj hm
   exact ⟨trivial,by kernel_rfl⟩
theorem ae3:∀ (m:Nat),∀ {n:Nat} {a0:zk} {a1:zk} {r:Bool} (hm:aac m n a0 a1=some r),call G n 40 [.agg (zc2 a0),.agg (zc2 a1)] []=some (.ret (aB r),[])
  | 0=>by intros; rename_i hm; exact nomatch hm
  | m+1=>fun hm=>
    ain (ae3 m) hm
theorem afu {n:Nat} {a0:zk} {a1:zk} {r:Bool} (hm:adg n a0 a1=some r):
    call G n 40 [.agg (zc2 a0),.agg (zc2 a1)] []=some (.ret (aB r),[]):=ae3 n hm
abbrev zc21 (p0:(Option (List zc))):List AV:=[.pv .nils,.pv .nils,aB false,.pv (zh zb p0),.pv .nils,.pv .nils]
theorem ach {n:Nat} {a0:(Option (List zc))} {a1:(Option (List zc))} {r:Bool} (hm:aam n a0 a1=some r):
    call G n 130 [.pv (zh zb a0),.pv (zh zb a1)] []=some (.ret (aB r),[]):=by
  unfold aam at hm
  obtain ⟨n,rfl,h0⟩:=zB hm
  replace hm:=h0; clear h0
  refine Zr 10 [(0,.pv (zh zb a0)),(1,.pv (zh zb a1))] func130 rfl (by kernel_rfl) (sq (dn [(0,.pv (zh zb a0)),(1,.pv (zh zb a1))] (sq (rg (s1 4 [(8,.agg (zc21 a1)),(7,.pv (zh zb a1)),(6,.agg (zc21 a0)),(5,.pv (zh zb a0))] ?_)))))
  obtain ⟨x1,h2,hm⟩:=bs hm
  refine dv 9 (zE (by kernel_rfl) (acO h2) (by kernel_rfl) (by kernel_rfl) (by kernel_rfl)) (by kernel_rfl) (fq 1 [(4,aB x1)] (wp_ret ?_))
  obtain rfl:=Option.some.inj hm
  exact ⟨trivial,by kernel_rfl⟩
theorem ahl {rc_ref25_Same:(Nat→zk→zk→Option (Bool))} (ih_ref25_Same:∀ {n:Nat} {a0:zk} {a1:zk} {r:Bool} (hm:rc_ref25_Same n a0 a1=some r),call G n 41 [.agg [aI a0.fKind,aI a0.fRel,.pv (zh zb a0.fWhere),.pv (zh zb a0.fLeft),.pv (zh zb a0.fRight),.pv (zh zb a0.fOut),.pv (zh zn a0.fAggs),.pv (zh zp a0.fOrder),.pv (zh zg a0.fKids)],.agg [aI a1.fKind,aI a1.fRel,.pv (zh zb a1.fWhere),.pv (zh zb a1.fLeft),.pv (zh zb a1.fRight),.pv (zh zb a1.fOut),.pv (zh zn a1.fAggs),.pv (zh zp a1.fOrder),.pv (zh zg a1.fKids)]] []=some (.ret (aB r),[])) {n:Nat} {a0:zk} {a1:zk} {r:Bool} (hm:abc rc_ref25_Same n a0 a1=some r):
    call G n 41 [.agg (zc2 a0),.agg (zc2 a1)] []=some (.ret (aB r),[]):=by
  unfold abc at hm
  obtain ⟨n,rfl,h0⟩:=zB hm
  replace hm:=h0; clear h0
  refine Zr 86 [(0,.agg (zc2 a0)),(1,.agg (zc2 a1))] func41 rfl (by kernel_rfl) (sq (det [(2,.ptr 0 0),(3,.ptr 1 0)] [.box (zc2 a0) false,.box (zc2 a1) false] (by kernel_rfl) ?_))
  refine sq (sq (rg (s1 6 [(11,aB (a0.fKind != a1.fKind)),(10,aB (a0.fKind != a1.fKind)),(9,aI a1.fKind),(8,.ptr 1 0),(7,aI a0.fKind),(6,.ptr 0 0)] ?_)))
  refine segP (a0.fKind != a1.fKind) [11,10] (fun b=>[(17,aB (b || (a0.fRel != a1.fRel))),(16,ifA b (.undef) (aB (a0.fRel != a1.fRel))),(15,ifA b (.undef) (aI a1.fRel)),(14,ifA b (.undef) (.ptr 1 1)),(13,ifA b (.undef) (aI a0.fRel)),(12,ifA b (.undef) (.ptr 0 1))]) 6 (by kernel_rfl) (by kernel_rfl) (by kernel_rfl) (s1 1 [(18,aB ((a0.fKind != a1.fKind) || (a0.fRel != a1.fRel)))] ?_)
  refine seg ((a0.fKind != a1.fKind) || (a0.fRel != a1.fRel)) [18,17] (fun b=>[(26,aB (b || (((sll a0.fKids).length:Int) != ((sll a1.fKids).length:Int)))),(25,ifA b (.undef) (aB (((sll a0.fKids).length:Int) != ((sll a1.fKids).length:Int)))),(24,ifA b (.undef) (aI ((sll a1.fKids).length:Int))),(23,ifA b (.undef) (.pv (zh zg a1.fKids))),(22,ifA b (.undef) (.ptr 1 8)),(21,ifA b (.undef) (aI ((sll a0.fKids).length:Int))),(20,ifA b (.undef) (.pv (zh zg a0.fKids))),(19,ifA b (.undef) (.ptr 0 8))]) 21 (by kernel_rfl) ?_ ?_ ?_
  ·
   intro Q h
   refine s1 8 [(26,aB true),(25,.undef),(24,.undef),(23,.undef),(22,.undef),(21,.undef),(20,.undef),(19,.undef)] ?_
   exact ZB (by kernel_rfl) (by kernel_rfl) h
  ·
   intro Q h
   refine s1 2 [(20,.pv (zh zg a0.fKids)),(19,.ptr 0 8)] (dv 21 (v:=aI ((sll a0.fKids).length:Int)) (zy zg a0.fKids t64 (by kernel_rfl)) (by kernel_rfl) (s1 2 [(23,.pv (zh zg a1.fKids)),(22,.ptr 1 8)] (dv 24 (v:=aI ((sll a1.fKids).length:Int)) (zy zg a1.fKids t64 (by kernel_rfl)) (by kernel_rfl) (s1 2 [(26,aB (((sll a0.fKids).length:Int) != ((sll a1.fKids).length:Int))),(25,aB (((sll a0.fKids).length:Int) != ((sll a1.fKids).length:Int)))] ?_))))
   exact ZB (by kernel_rfl) (by kernel_rfl) h
  refine s1 1 [(27,aB (((a0.fKind != a1.fKind) || (a0.fRel != a1.fRel)) || (((sll a0.fKids).length:Int) != ((sll a1.fKids).length:Int))))] ?_
  rcases zo hm with ⟨h1,hm⟩ | ⟨h1,hm⟩
  ·
   refine known [27,26] h1 (by kernel_rfl) (fq 23 [(2,.ptr 0 0),(3,.ptr 1 0),(50,aB true)] (cT (by kernel_rfl) (sq (dn [(4,aB false)] (wp_ret ?_)))))
   obtain rfl:=Option.some.inj hm
   exact ⟨trivial,by kernel_rfl⟩
  ·
   refine known [27,26] h1 (by kernel_rfl) (s1 4 [(31,.pv (zh zb a1.fWhere)),(30,.ptr 1 2),(29,.pv (zh zb a0.fWhere)),(28,.ptr 0 2)] ?_)
   obtain ⟨x2,h3,hm⟩:=bs hm
   refine dv 32 (zE (by kernel_rfl) (ach h3) (by kernel_rfl) (by kernel_rfl) (by kernel_rfl)) (by kernel_rfl) (s1 3 [(35,aB (!x2)),(34,aB (!x2)),(33,aB (!x2))] ?_)
   rcases zo hm with ⟨h4,hm⟩ | ⟨h4,hm⟩
   ·
    refine known [35,34,33] h4 (by kernel_rfl) (fq 15 [(2,.ptr 0 0),(3,.ptr 1 0),(50,aB true)] (cT (by kernel_rfl) (sq (dn [(4,aB false)] (wp_ret ?_)))))
    obtain rfl:=Option.some.inj hm
    exact ⟨trivial,by kernel_rfl⟩
   ·
    refine known [35,34,33] h4 (by kernel_rfl) (s1 4 [(39,.pv (zh zb a1.fLeft)),(38,.ptr 1 3),(37,.pv (zh zb a0.fLeft)),(36,.ptr 0 3)] ?_)
    obtain ⟨x5,h6,hm⟩:=bs hm
    refine dv 40 (zE (by kernel_rfl) (ach h6) (by kernel_rfl) (by kernel_rfl) (by kernel_rfl)) (by kernel_rfl) (s1 3 [(43,aB (!x5)),(42,aB (!x5)),(41,aB (!x5))] ?_)
    rcases zo hm with ⟨h7,hm⟩ | ⟨h7,hm⟩
    ·
     refine known [43,42,41] h7 (by kernel_rfl) (fq 7 [(2,.ptr 0 0),(3,.ptr 1 0),(50,aB true)] (cT (by kernel_rfl) (sq (dn [(4,aB false)] (wp_ret ?_)))))
     obtain rfl:=Option.some.inj hm
     exact ⟨trivial,by kernel_rfl⟩
    ·
     refine known [43,42,41] h7 (by kernel_rfl) (s1 4 [(47,.pv (zh zb a1.fRight)),(46,.ptr 1 4),(45,.pv (zh zb a0.fRight)),(44,.ptr 0 4)] ?_)
     obtain ⟨x8,h9,hm⟩:=bs hm
     refine dv 48 (zE (by kernel_rfl) (ach h9) (by kernel_rfl) (by kernel_rfl) (by kernel_rfl)) (by kernel_rfl) (fq 2 [(2,.ptr 0 0),(3,.ptr 1 0),(50,aB (!x8))] ?_)
     rcases zo hm with ⟨h10,hm⟩ | ⟨h10,hm⟩
     ·
      refine c1 h10 (sq (dn [(4,aB false)] (wp_ret ?_)))
      obtain rfl:=Option.some.inj hm
      exact ⟨trivial,by kernel_rfl⟩
     ·
      refine c0 h10 (wp_skip ?_)
      refine sq (sq (rg (s1 14 [(64,.agg [.pv .nils,.pv .nils,aB false,.pv (zh zb a1.fOut),.pv (zh zn a1.fAggs),.pv (zh zp a1.fOrder)]),(63,.pv (zh zp a1.fOrder)),(62,.ptr 1 7),(61,.pv (zh zn a1.fAggs)),(60,.ptr 1 6),(59,.pv (zh zb a1.fOut)),(58,.ptr 1 5),(57,.agg [.pv .nils,.pv .nils,aB false,.pv (zh zb a0.fOut),.pv (zh zn a0.fAggs),.pv (zh zp a0.fOrder)]),(56,.pv (zh zp a0.fOrder)),(55,.ptr 0 7),(54,.pv (zh zn a0.fAggs)),(53,.ptr 0 6),(52,.pv (zh zb a0.fOut)),(51,.ptr 0 5)] ?_)))
      obtain ⟨x11,h12,hm⟩:=bs hm
      refine dv 65 (zE (by kernel_rfl) (acO h12) (by kernel_rfl) (by kernel_rfl) (by kernel_rfl)) (by kernel_rfl) (fq 1 [(2,.ptr 0 0),(3,.ptr 1 0),(66,aB (!x11))] ?_)
      rcases zo hm with ⟨h13,hm⟩ | ⟨h13,hm⟩
      ·
       refine c1 h13 (sq (dn [(4,aB false)] (wp_ret ?_)))
       obtain rfl:=Option.some.inj hm
       exact ⟨trivial,by kernel_rfl⟩
      ·
       refine c0 h13 (wp_skip ?_)
       obtain ⟨k16,hk16,hm⟩:=zz hm
       refine mid (fun t H=>(∃ (y14:Int) (y15:Bool),k16 ()=some r∧t=mk 86 [(2,.ptr 0 0),(3,.ptr 1 0),(5,aI y14),(71,aB y15)]∧H=[.box (zc2 a0) false,.box (zc2 a1) false])) ?_ ?_
       ·
        rintro _ _ ⟨y14,y15,hm,rfl,rfl⟩
        subst hk16
        refine sq (dn [(4,aB true)] (wp_ret ?_))
        obtain rfl:=Option.some.inj hm
        exact ⟨trivial,by kernel_rfl⟩
       refine sq (dn [(2,.ptr 0 0),(3,.ptr 1 0),(5,aI 0)] (bq ?_))
       refine ZY (fun mm t H=>(∃ (y18:Int),qn n rc_ref25_Same a0 a1 k16 mm y18=some r∧t=mk 86 [(2,.ptr 0 0),(3,.ptr 1 0),(5,aI y18)]∧H=[.box (zc2 a0) false,.box (zc2 a1) false])) (⟨0,hm,rfl,rfl⟩) ?_ ?_
       · rintro _ _ ⟨y18,hm,_⟩; exact nomatch hm
       rintro m19 _ _ ⟨y18,hm,rfl,rfl⟩
       simp only [qn] at hm
       refine sq (sq (rg (s1 3 [(69,.pv (zh zg a0.fKids)),(68,.ptr 0 8),(67,aI y18)] (dv 70 (v:=aI ((sll a0.fKids).length:Int)) (zy zg a0.fKids t64 (by kernel_rfl)) (by kernel_rfl) (fq 1 [(2,.ptr 0 0),(3,.ptr 1 0),(5,aI y18),(71,aB (decide (y18 < ((sll a0.fKids).length:Int))))] ?_)))))
       rcases zo hm with ⟨h20,hm⟩ | ⟨h20,hm⟩
       ·
        refine c1 h20 (wp_skip (sq (bq (sq (rgd (shd 3 [(76,aI y18),(75,.pv (zh zg a0.fKids)),(74,.ptr 0 8)] (by kernel_rfl) ?_))))))
        obtain ⟨x21,h22,hm⟩:=bs hm
        refine dvd 77 (v:=.pv (.ptr (zG (zd x21)) 0)) (Zd zg a0.fKids .i64 t64 t66 h22 (zF x21) rfl (by kernel_rfl)) (by kernel_rfl) (shd 4 [(81,aI y18),(80,.pv (zh zg a1.fKids)),(79,.ptr 1 8),(78,.agg (zc3 x21))] (by kernel_rfl) ?_)
        obtain ⟨x23,h24,hm⟩:=bs hm
        refine dvd 82 (v:=.pv (.ptr (zG (zd x23)) 0)) (Zd zg a1.fKids .i64 t64 t66 h24 (zF x23) rfl (by kernel_rfl)) (by kernel_rfl) (shd 1 [(83,.agg (zc3 x23))] (by kernel_rfl) ?_)
        obtain ⟨x25,h26,hm⟩:=bs hm
        refine dvd 84 (zE (by kernel_rfl) (ih_ref25_Same h26) (by kernel_rfl) (by kernel_rfl) (by kernel_rfl)) (by kernel_rfl) (shd 1 [(85,aB (!x25))] (by kernel_rfl) (find [(2,.ptr 0 0),(3,.ptr 1 0),(5,aI y18),(85,aB (!x25))] rfl (by kernel_rfl) (by kernel_rfl) ?_))
        rcases zo hm with ⟨h27,hm⟩ | ⟨h27,hm⟩
        ·
         refine c1 h27 (sq (dn [(4,aB false)] (wp_ret ?_)))
         obtain rfl:=Option.some.inj hm
         exact ⟨trivial,by kernel_rfl⟩
        ·
         refine c0 h27 (wp_skip (dn [(2,.ptr 0 0),(3,.ptr 1 0),(5,aI (IntKind.wrap .i64 (y18+1)))] ?_))
         exact ⟨_,_,Zh [(2,.ptr 0 0),(3,.ptr 1 0),(5,aI (IntKind.wrap .i64 (y18+1)))] [.box (zc2 a0) false,.box (zc2 a1) false] (by kernel_rfl),⟨(IntKind.wrap .i64 (y18+1)),hm,rfl,rfl⟩⟩
       ·
        refine c0 h20 (wp_exit ?_)
        exact ⟨y18,(decide (y18 < ((sll a0.fKids).length:Int))),hm,rfl,rfl⟩
theorem adV:∀ (m:Nat),∀ {n:Nat} {a0:zk} {a1:zk} {r:Bool} (hm:QM m n a0 a1=some r),call G n 41 [.agg (zc2 a0),.agg (zc2 a1)] []=some (.ret (aB r),[])
  | 0=>by intros; rename_i hm; exact nomatch hm
  | m+1=>fun hm=>
    ahl (adV m) hm
theorem aaE {n:Nat} {a0:zk} {a1:zk} {r:Bool} (hm:qz n a0 a1=some r):
    call G n 41 [.agg (zc2 a0),.agg (zc2 a1)] []=some (.ret (aB r),[]):=adV n hm
theorem aa2 {n:Nat} {a0:(Option (List zc))} {r:(Option (List zc))} (hm:QB n a0=some r):
    call G n 131 [.pv (zh zb a0)] []=some (.ret (.pv (zh zb r)),[]):=by
  unfold QB at hm
  obtain ⟨n,rfl,h0⟩:=zB hm
  replace hm:=h0; clear h0
  refine Zr 19 [(0,.pv (zh zb a0))] func131 rfl (by kernel_rfl) (sq (dn [(0,.pv (zh zb a0))] (sq (dn [(0,.pv (zh zb a0)),(3,.pv .nils)] ?_))))
  obtain ⟨k4,hk4,hm⟩:=zz hm
  refine mid (fun t H=>(∃ (w1:AV) (w2:AV),k4 none=some r∧t=mk 19 [(3,.pv .nils),(6,.pv (zh zb a0)),(7,aI ((sll a0).length:Int)),(8,w1),(9,w2)]∧H=[])∨(∃ (y3:(List zc)) (w1:AV) (w2:AV),k4 (some y3)=some r∧t=mk 19 [(3,aR 0 8 y3.length),(6,.pv (zh zb a0)),(7,aI ((sll a0).length:Int)),(8,w1),(9,w2)]∧H=[bR 49 8 zb y3 0 0])) ?_ ?_
  ·
   rintro _ _ (⟨w1,w2,hm,rfl,rfl⟩ | ⟨y3,w1,w2,hm,rfl,rfl⟩)
   ·
    subst hk4
    refine sq (dn [(2,.pv .nils)] (wp_ret ?_))
    obtain rfl:=Option.some.inj hm
    exact ⟨trivial,by kernel_rfl⟩
   ·
    subst hk4
    refine sq (dn [(2,aR 0 8 y3.length)] (wp_ret ?_))
    obtain rfl:=Option.some.inj hm
    exact abP (v:=aR 0 8 y3.length) trivial rfl (by kernel_rfl) (af0 (ZO (n:=y3.length) (id:=0) (l:=y3) (R:=zb) rfl rfl (Nat.zero_le _)))
  refine sq (rg (s1 1 [(6,.pv (zh zb a0))] (dv 7 (v:=aI ((sll a0).length:Int)) (zy zb a0 t23 (by kernel_rfl)) (by kernel_rfl) (fq 1 [(3,.pv .nils),(6,.pv (zh zb a0)),(7,aI ((sll a0).length:Int)),(8,aI 0)] (bq ?_)))))
  refine ZY (fun mm t H=>(∃ (y9:Int),Zu n a0 k4 mm none y9=some r∧t=mk 19 [(3,.pv .nils),(6,.pv (zh zb a0)),(7,aI ((sll a0).length:Int)),(8,aI y9)]∧H=[])∨(∃ (y8:(List zc)) (y9:Int),Zu n a0 k4 mm (some y8) y9=some r∧t=mk 19 [(3,aR 0 8 y8.length),(6,.pv (zh zb a0)),(7,aI ((sll a0).length:Int)),(8,aI y9)]∧H=[bR 49 8 zb y8 0 0])) (.inl ⟨0,hm,rfl,rfl⟩) ?_ ?_
  · rintro _ _ (⟨y9,hm,_⟩ | ⟨y8,y9,hm,_⟩) <;> exact nomatch hm
  rintro m10 _ _ (⟨y9,hm,rfl,rfl⟩ | ⟨y8,y9,hm,rfl,rfl⟩)
  ·
   simp only [Zu] at hm
   refine sq (dn [(3,.pv .nils),(6,.pv (zh zb a0)),(7,aI ((sll a0).length:Int)),(8,aI y9),(9,aB (decide (y9 < ((sll a0).length:Int))))] ?_)
   refine sq ?_
   rcases zo hm with ⟨h11,hm⟩ | ⟨h11,hm⟩
   ·
    refine c1 h11 (wp_skip (sq (bq (sq (rg ?_)))))
    obtain ⟨x12,h13,hm⟩:=bs hm
    refine dv 10 (v:=.pv (.ptr (zC (za x12)) 0)) (Zd zb a0 .i64 t23 t49 h13 (zx x12) rfl (by kernel_rfl)) (by kernel_rfl) (stf 3 [(3,.pv .nils),(5,.ptr 0 0),(6,.pv (zh zb a0)),(7,aI ((sll a0).length:Int)),(8,aI y9)] [.box (zc8 x12) false] (by kernel_rfl) (rg (s1 2 [(13,.agg (zc8 x12)),(12,.pv .nils)] ?_)))
    obtain ⟨x14,h15,hm⟩:=bs hm
    refine dv 14 (zE (by kernel_rfl) (ZT h15) (by kernel_rfl) (by kernel_rfl) (by kernel_rfl)) (by kernel_rfl) (st 1 [(15,aR 1 8 1)] [.box (zc8 x12) false,bR 49 8 zb ([(zf x14)]:List zc) 0 0] (by kernel_rfl) ?_)
    obtain ⟨_,h16,hm⟩:=bs hm
    refine dO [(16,aR 2 8 (([(zf x14)]:List zc).length))] [.box (zc8 x12) false,bR 49 8 zb ([(zf x14)]:List zc) 0 0,bR 49 8 zb ([(zf x14)]:List zc) 0 0] (qU (u:=0) zb ([(zf x14)]:List zc) (b:=88) t23 t49 rfl rfl rfl Za rfl h16 (show zT (aR 1 8 1) _=some (([(zf x14)]:List zc).map zb) from by kernel_rfl) (by kernel_rfl)) (by kernel_rfl) (fq 1 [(3,aR 2 8 (([(zf x14)]:List zc).length)),(6,.pv (zh zb a0)),(7,aI ((sll a0).length:Int)),(8,aI y9)] (dn [(3,aR 2 8 (([(zf x14)]:List zc).length)),(6,.pv (zh zb a0)),(7,aI ((sll a0).length:Int)),(8,aI (IntKind.wrap .i64 (y9+1)))] ?_))
    exact ⟨_,_,Zh [(3,aR 0 8 (([(zf x14)]:List zc).length)),(6,.pv (zh zb a0)),(7,aI ((sll a0).length:Int)),(8,aI (IntKind.wrap .i64 (y9+1)))] [bR 49 8 zb ([(zf x14)]:List zc) 0 0] (by kernel_rfl),.inr (⟨([(zf x14)]:List zc),(IntKind.wrap .i64 (y9+1)),hm,rfl,rfl⟩)⟩
   ·
    refine c0 h11 (wp_exit ?_)
    exact .inl ⟨aI y9,aB (decide (y9 < ((sll a0).length:Int))),hm,(Zk (by kernel_rfl)),rfl⟩
  ·
   simp only [Zu] at hm
   refine sq (dn [(3,aR 0 8 y8.length),(6,.pv (zh zb a0)),(7,aI ((sll a0).length:Int)),(8,aI y9),(9,aB (decide (y9 < ((sll a0).length:Int))))] ?_)
   refine sq ?_
   rcases zo hm with ⟨h17,hm⟩ | ⟨h17,hm⟩
   ·
    refine c1 h17 (wp_skip (sq (bq (sq (rg ?_)))))
    obtain ⟨x18,h19,hm⟩:=bs hm
    refine dv 10 (v:=.pv (.ptr (zC (za x18)) 0)) (Zd zb a0 .i64 t23 t49 h19 (zx x18) rfl (by kernel_rfl)) (by kernel_rfl) (stf 3 [(3,aR 0 8 y8.length),(5,.ptr 1 0),(6,.pv (zh zb a0)),(7,aI ((sll a0).length:Int)),(8,aI y9)] [bR 49 8 zb y8 0 0,.box (zc8 x18) false] (by kernel_rfl) (rg (s1 2 [(13,.agg (zc8 x18)),(12,aR 0 8 y8.length)] ?_)))
    obtain ⟨x20,h21,hm⟩:=bs hm
    refine dv 14 (zE (by kernel_rfl) (ZT h21) (by kernel_rfl) (by kernel_rfl) (by kernel_rfl)) (by kernel_rfl) (st 1 [(15,aR 2 8 1)] [bR 49 8 zb y8 0 0,.box (zc8 x18) false,bR 49 8 zb ([(zf x20)]:List zc) 0 0] (by kernel_rfl) ?_)
    obtain ⟨_,h22,hm⟩:=bs hm
    refine dO [(16,aR 0 8 ((y8++([(zf x20)]:List zc)).length))] [bR 49 8 zb (y8++([(zf x20)]:List zc)) 0 0,.box (zc8 x18) false,bR 49 8 zb ([(zf x20)]:List zc) 0 0] (Z5 (u:=0) (n:=y8.length) (id:=0) zb y8 ([(zf x20)]:List zc) (b:=88) t23 t49 rfl rfl rfl Za rfl h22 rfl rfl (Nat.zero_le _) (show zT (aR 2 8 1) _=some (([(zf x20)]:List zc).map zb) from by kernel_rfl) (by kernel_rfl)) (by kernel_rfl) (fq 1 [(3,aR 0 8 ((y8++([(zf x20)]:List zc)).length)),(6,.pv (zh zb a0)),(7,aI ((sll a0).length:Int)),(8,aI y9)] (dn [(3,aR 0 8 ((y8++([(zf x20)]:List zc)).length)),(6,.pv (zh zb a0)),(7,aI ((sll a0).length:Int)),(8,aI (IntKind.wrap .i64 (y9+1)))] ?_))
    exact ⟨_,_,Zh [(3,aR 0 8 ((y8++([(zf x20)]:List zc)).length)),(6,.pv (zh zb a0)),(7,aI ((sll a0).length:Int)),(8,aI (IntKind.wrap .i64 (y9+1)))] [bR 49 8 zb (y8++([(zf x20)]:List zc)) 0 0] (by kernel_rfl),.inr (⟨(y8++([(zf x20)]:List zc)),(IntKind.wrap .i64 (y9+1)),hm,rfl,rfl⟩)⟩
   ·
    refine c0 h17 (wp_exit ?_)
    exact .inr (⟨y8,aI y9,aB (decide (y9 < ((sll a0).length:Int))),hm,(Zk (by kernel_rfl)),rfl⟩)
theorem aeO {n:Nat} {a0:(Option (List zt))} {r:(Option (List zt))} (hm:Qw n a0=some r):
    call G n 96 [.pv (zh zp a0)] []=some (.ret (.pv (zh zp r)),[]):=by
  unfold Qw at hm
  obtain ⟨n,rfl,h0⟩:=zB hm
  replace hm:=h0; clear h0
  refine Zr 8 [(0,.pv (zh zp a0))] func96 rfl (by kernel_rfl) (sq (dn [(0,.pv (zh zp a0))] (sq (sq (rg (s1 1 [(3,.pv (zh zp a0))] (dv 4 (v:=aB (a0.isNone)) (amq zp a0 t25 (by kernel_rfl)) (by kernel_rfl) (fin [(0,.pv (zh zp a0)),(4,aB (a0.isNone))] rfl (by kernel_rfl) ?_))))))))
  rcases zo hm with ⟨h1,hm⟩ | ⟨h1,hm⟩
  ·
   refine c1 h1 (sq (dn [(2,.pv .nils)] (wp_ret ?_)))
   obtain rfl:=Option.some.inj hm
   exact ⟨trivial,by kernel_rfl⟩
  ·
   refine c0 h1 (wp_skip (sq (rg (st 2 [(6,.pv (zh zp a0)),(5,aR 0 2 0)] [bR 86 2 zp ([]:List zt) 0 0] (by kernel_rfl) ?_))))
   rcases zo hm with ⟨h2,hm⟩ | ⟨h2,hm⟩
   ·
    obtain ⟨_,h3,hm⟩:=bs hm
    refine dv 7 (v:=aR 0 2 0) (afU (u:=0) (y:=.pv (zh zp a0)) (n:=0) (id:=0) zp ([]:List zt) (sll a0) (b:=16) t25 t86 rfl rfl rfl h2 h3 rfl (by first | rfl | assumption | omega | (simp only [List.length_set,List.length_append,List.length_cons,List.length_nil,List.length_replicate,List.length_drop] at * <;> omega)) (Nat.zero_le _) (acY (R:=zp) (s:=a0)) (by kernel_rfl)) (by kernel_rfl) (fq 1 [(2,aR 0 2 0)] (wp_ret ?_))
    obtain rfl:=Option.some.inj hm
    exact abP (v:=aR 0 2 0) trivial rfl (by kernel_rfl) (by kernel_rfl)
   ·
    obtain ⟨_,h4,hm⟩:=bs hm
    refine dO [(7,aR 0 2 ((([]:List zt)++(sll a0)).length))] [bR 86 2 zp (([]:List zt)++(sll a0)) 0 0] (Z5 (u:=0) (n:=0) (id:=0) zp ([]:List zt) (sll a0) (b:=16) t25 t86 rfl rfl rfl (fun _=>rfl) h2 h4 rfl (by first | rfl | assumption | omega | (simp only [List.length_set,List.length_append,List.length_cons,List.length_nil,List.length_replicate,List.length_drop] at * <;> omega)) (Nat.zero_le _) (acY (R:=zp) (s:=a0)) (by kernel_rfl)) (by kernel_rfl) (fq 1 [(2,aR 0 2 ((([]:List zt)++(sll a0)).length))] (wp_ret ?_))
    obtain rfl:=Option.some.inj hm
    exact abP (v:=aR 0 2 ((([]:List zt)++(sll a0)).length)) trivial rfl (by kernel_rfl) (af0 (ZO (n:=(([]:List zt)++(sll a0)).length) (id:=0) (l:=(([]:List zt)++(sll a0))) (R:=zp) rfl rfl (Nat.zero_le _)))
abbrev zc22:List AV:=[aI 0,aI 0,.pv .nils,.pv .nils,.pv .nils,.pv .nils,.pv .nils,.pv .nils,.pv .nils]
abbrev zc23 (p0:zk) (p1:(Option (List zc))) (p2:(Option (List zc))) (p3:(Option (List zc))) (p4:(Option (List zc))) (p5:(Option (List zt))):List AV:=[aI p0.fKind,aI p0.fRel,.pv (zh zb p1),.pv (zh zb p2),.pv (zh zb p3),.pv (zh zb p4),.pv .nils,.pv (zh zp p5),.pv .nils]
abbrev zc24 (p0:zk) (p1:(Option (List zc))) (p2:(Option (List zc))) (p3:(Option (List zc))) (p4:(Option (List zc))) (p5:(List zr)) (p6:(Option (List zt))):List AV:=[aI p0.fKind,aI p0.fRel,.pv (zh zb p1),.pv (zh zb p2),.pv (zh zb p3),.pv (zh zb p4),aR 3 9 p5.length,.pv (zh zp p6),.pv .nils]
abbrev zc25 (p0:zk) (p1:(Option (List zc))) (p2:(Option (List zc))) (p3:(Option (List zc))) (p4:(Option (List zc))) (p5:(Option (List zt))) (p6:(List zm)):List AV:=[aI p0.fKind,aI p0.fRel,.pv (zh zb p1),.pv (zh zb p2),.pv (zh zb p3),.pv (zh zb p4),.pv .nils,.pv (zh zp p5),aR 3 9 p6.length]
abbrev zc26 (p0:zm) (p1:(Option (List zc))) (p2:(Option (List zc))) (p3:(Option (List zc))) (p4:(Option (List zc))) (p5:(Option (List zt))):List AV:=[aI ((zd p0).fKind),aI ((zd p0).fRel),.pv (zh zb p1),.pv (zh zb p2),.pv (zh zb p3),.pv (zh zb p4),.pv .nils,.pv (zh zp p5),.pv .nils]
abbrev zc27 (p0:zm) (p1:(Option (List zc))) (p2:(Option (List zc))) (p3:(Option (List zc))) (p4:(Option (List zc))) (p5:(Option (List zt))) (p6:(List zm)):List AV:=[aI ((zd p0).fKind),aI ((zd p0).fRel),.pv (zh zb p1),.pv (zh zb p2),.pv (zh zb p3),.pv (zh zb p4),.pv .nils,.pv (zh zp p5),aR 4 9 p6.length]
abbrev zc28 (p0:zm) (p1:(Option (List zc))) (p2:(Option (List zc))) (p3:(Option (List zc))) (p4:(Option (List zc))) (p5:(Option (List zt))) (p6:(List zm)):List AV:=[aI ((zd p0).fKind),aI ((zd p0).fRel),.pv (zh zb p1),.pv (zh zb p2),.pv (zh zb p3),.pv (zh zb p4),.pv .nils,.pv (zh zp p5),.pv (.sl (p6.map zg))]
abbrev zc29 (p0:zm) (p1:(Option (List zc))) (p2:(Option (List zc))) (p3:(Option (List zc))) (p4:(Option (List zc))) (p5:(List zr)) (p6:(Option (List zt))):List AV:=[aI ((zd p0).fKind),aI ((zd p0).fRel),.pv (zh zb p1),.pv (zh zb p2),.pv (zh zb p3),.pv (zh zb p4),aR 4 9 p5.length,.pv (zh zp p6),.pv .nils]
abbrev zc30 (p0:zm) (p1:(Option (List zc))) (p2:(Option (List zc))) (p3:(Option (List zc))) (p4:(Option (List zc))) (p5:(List zr)) (p6:(Option (List zt))):List AV:=[aI ((zd p0).fKind),aI ((zd p0).fRel),.pv (zh zb p1),.pv (zh zb p2),.pv (zh zb p3),.pv (zh zb p4),.pv (.sl (p5.map zn)),.pv (zh zp p6),.pv .nils]
abbrev zc31 (p0:zm) (p1:(Option (List zc))) (p2:(Option (List zc))) (p3:(Option (List zc))) (p4:(Option (List zc))) (p5:(List zr)) (p6:(Option (List zt))) (p7:(List zm)):List AV:=[aI ((zd p0).fKind),aI ((zd p0).fRel),.pv (zh zb p1),.pv (zh zb p2),.pv (zh zb p3),.pv (zh zb p4),aR 4 9 p5.length,.pv (zh zp p6),aR 5 9 p7.length]
abbrev zc32 (p0:zm) (p1:(Option (List zc))) (p2:(Option (List zc))) (p3:(Option (List zc))) (p4:(Option (List zc))) (p5:(List zr)) (p6:(Option (List zt))) (p7:(List zm)):List AV:=[aI ((zd p0).fKind),aI ((zd p0).fRel),.pv (zh zb p1),.pv (zh zb p2),.pv (zh zb p3),.pv (zh zb p4),.pv (.sl (p5.map zn)),.pv (zh zp p6),.pv (.sl (p7.map zg))]
abbrev zc33 (p0:zm) (p1:(Option (List zc))) (p2:(Option (List zc))) (p3:(Option (List zc))) (p4:(Option (List zc))) (p5:(Option (List zt))) (p6:(List zm)):List AV:=[aI ((zd p0).fKind),aI ((zd p0).fRel),.pv (zh zb p1),.pv (zh zb p2),.pv (zh zb p3),.pv (zh zb p4),.pv .nils,.pv (zh zp p5),aR 5 9 p6.length]
abbrev zc34 (p0:zm) (p1:(Option (List zc))) (p2:(Option (List zc))) (p3:(Option (List zc))) (p4:(Option (List zc))) (p5:(List zr)) (p6:(Option (List zt))):List AV:=[aI ((zd p0).fKind),aI ((zd p0).fRel),.pv (zh zb p1),.pv (zh zb p2),.pv (zh zb p3),.pv (zh zb p4),aR 5 9 p5.length,.pv (zh zp p6),.pv .nils]
abbrev zc35 (p0:zm) (p1:(Option (List zc))) (p2:(Option (List zc))) (p3:(Option (List zc))) (p4:(Option (List zc))) (p5:(List zr)) (p6:(Option (List zt))) (p7:(List zm)):List AV:=[aI ((zd p0).fKind),aI ((zd p0).fRel),.pv (zh zb p1),.pv (zh zb p2),.pv (zh zb p3),.pv (zh zb p4),aR 5 9 p5.length,.pv (zh zp p6),aR 6 9 p7.length]
abbrev zc36 (p0:zk) (p1:(Option (List zc))) (p2:(Option (List zc))) (p3:(Option (List zc))) (p4:(Option (List zc))) (p5:(List zr)) (p6:(Option (List zt))) (p7:(List zm)):List AV:=[aI p0.fKind,aI p0.fRel,.pv (zh zb p1),.pv (zh zb p2),.pv (zh zb p3),.pv (zh zb p4),aR 3 9 p5.length,.pv (zh zp p6),aR 4 9 p7.length]
abbrev zc37 (p0:zm) (p1:(Option (List zc))) (p2:(Option (List zc))) (p3:(Option (List zc))) (p4:(Option (List zc))) (p5:(Option (List zt))) (p6:(List zm)):List AV:=[aI ((zd p0).fKind),aI ((zd p0).fRel),.pv (zh zb p1),.pv (zh zb p2),.pv (zh zb p3),.pv (zh zb p4),.pv .nils,.pv (zh zp p5),aR 6 9 p6.length]
abbrev zc38 (p0:zm) (p1:(Option (List zc))) (p2:(Option (List zc))) (p3:(Option (List zc))) (p4:(Option (List zc))) (p5:(List zr)) (p6:(Option (List zt))):List AV:=[aI ((zd p0).fKind),aI ((zd p0).fRel),.pv (zh zb p1),.pv (zh zb p2),.pv (zh zb p3),.pv (zh zb p4),aR 6 9 p5.length,.pv (zh zp p6),.pv .nils]
abbrev zc39 (p0:zm) (p1:(Option (List zc))) (p2:(Option (List zc))) (p3:(Option (List zc))) (p4:(Option (List zc))) (p5:(List zr)) (p6:(Option (List zt))) (p7:(List zm)):List AV:=[aI ((zd p0).fKind),aI ((zd p0).fRel),.pv (zh zb p1),.pv (zh zb p2),.pv (zh zb p3),.pv (zh zb p4),aR 6 9 p5.length,.pv (zh zp p6),aR 7 9 p7.length]
abbrev zc40 (p0:zr) (p1:zj):List AV:=[aI p0.fKind,aI p1.fKind,aI p1.fRel,aI p1.fCol,aI p1.fConst.fKind,aI p1.fConst.fInt,aF p1.fConst.fFloat,aS p1.fConst.fText,.pv (zh zb p1.fKids)]
theorem aie {rc_plan_Copy:(Nat→zk→Option (((Option (List zc)) × (Option (List zc)) × (Option (List zc)) × (Option (List zc)) × (Option (List zt))) ⊕ ((Option (List zc)) × (Option (List zc)) × (Option (List zc)) × (Option (List zc)) × (Option (List zt)) × (List zm)) ⊕ ((Option (List zc)) × (Option (List zc)) × (Option (List zc)) × (Option (List zc)) × (List zr) × (Option (List zt))) ⊕ ((Option (List zc)) × (Option (List zc)) × (Option (List zc)) × (Option (List zc)) × (List zr) × (Option (List zt)) × (List zm))))} (ih_plan_Copy:∀ {n:Nat} {a0:zk} {r:((Option (List zc)) × (Option (List zc)) × (Option (List zc)) × (Option (List zc)) × (Option (List zt))) ⊕ ((Option (List zc)) × (Option (List zc)) × (Option (List zc)) × (Option (List zc)) × (Option (List zt)) × (List zm)) ⊕ ((Option (List zc)) × (Option (List zc)) × (Option (List zc)) × (Option (List zc)) × (List zr) × (Option (List zt))) ⊕ ((Option (List zc)) × (Option (List zc)) × (Option (List zc)) × (Option (List zc)) × (List zr) × (Option (List zt)) × (List zm))} (hm:rc_plan_Copy n a0=some r),∃ vv H1,call G n 42 [.agg [aI a0.fKind,aI a0.fRel,.pv (zh zb a0.fWhere),.pv (zh zb a0.fLeft),.pv (zh zb a0.fRight),.pv (zh zb a0.fOut),.pv (zh zn a0.fAggs),.pv (zh zp a0.fOrder),.pv (zh zg a0.fKids)]] []=some (.ret vv,H1)∧(match (generalizing:=false) r with | (.inl (r0,r1,r2,r3,r4))=>(vv=.agg [aI a0.fKind,aI a0.fRel,.pv (zh zb r0),.pv (zh zb r1),.pv (zh zb r2),.pv (zh zb r3),.pv .nils,.pv (zh zp r4),.pv .nils]∧H1=[]) | (.inr (.inl (r5,r6,r7,r8,r9,r10)))=>(vv=.agg [aI a0.fKind,aI a0.fRel,.pv (zh zb r5),.pv (zh zb r6),.pv (zh zb r7),.pv (zh zb r8),.pv .nils,.pv (zh zp r9),aR 0 9 r10.length]∧H1=[bR 66 9 zg r10 0 0]) | (.inr (.inr (.inl (r11,r12,r13,r14,r15,r16))))=>(vv=.agg [aI a0.fKind,aI a0.fRel,.pv (zh zb r11),.pv (zh zb r12),.pv (zh zb r13),.pv (zh zb r14),aR 0 9 r15.length,.pv (zh zp r16),.pv .nils]∧H1=[bR 101 9 zn r15 0 0]) | (.inr (.inr (.inr ((r17,r18,r19,r20,r21,r22,r23)))))=>(vv=.agg [aI a0.fKind,aI a0.fRel,.pv (zh zb r17),.pv (zh zb r18),.pv (zh zb r19),.pv (zh zb r20),aR 0 9 r21.length,.pv (zh zp r22),aR 1 9 r23.length]∧H1=[bR 101 9 zn r21 0 0,bR 66 9 zg r23 0 0]))) {n:Nat} {a0:zk} {r:((Option (List zc)) × (Option (List zc)) × (Option (List zc)) × (Option (List zc)) × (Option (List zt))) ⊕ ((Option (List zc)) × (Option (List zc)) × (Option (List zc)) × (Option (List zc)) × (Option (List zt)) × (List zm)) ⊕ ((Option (List zc)) × (Option (List zc)) × (Option (List zc)) × (Option (List zc)) × (List zr) × (Option (List zt))) ⊕ ((Option (List zc)) × (Option (List zc)) × (Option (List zc)) × (Option (List zc)) × (List zr) × (Option (List zt)) × (List zm))} (hm:abG rc_plan_Copy n a0=some r):
    ∃ vv H1,call G n 42 [.agg (zc2 a0)] []=some (.ret vv,H1)∧(match (generalizing:=false) r with | (.inl (r0,r1,r2,r3,r4))=>(vv=.agg [aI a0.fKind,aI a0.fRel,.pv (zh zb r0),.pv (zh zb r1),.pv (zh zb r2),.pv (zh zb r3),.pv .nils,.pv (zh zp r4),.pv .nils]∧H1=[]) | (.inr (.inl (r5,r6,r7,r8,r9,r10)))=>(vv=.agg [aI a0.fKind,aI a0.fRel,.pv (zh zb r5),.pv (zh zb r6),.pv (zh zb r7),.pv (zh zb r8),.pv .nils,.pv (zh zp r9),aR 0 9 r10.length]∧H1=[bR 66 9 zg r10 0 0]) | (.inr (.inr (.inl (r11,r12,r13,r14,r15,r16))))=>(vv=.agg [aI a0.fKind,aI a0.fRel,.pv (zh zb r11),.pv (zh zb r12),.pv (zh zb r13),.pv (zh zb r14),aR 0 9 r15.length,.pv (zh zp r16),.pv .nils]∧H1=[bR 101 9 zn r15 0 0]) | (.inr (.inr (.inr ((r17,r18,r19,r20,r21,r22,r23)))))=>(vv=.agg [aI a0.fKind,aI a0.fRel,.pv (zh zb r17),.pv (zh zb r18),.pv (zh zb r19),.pv (zh zb r20),aR 0 9 r21.length,.pv (zh zp r22),aR 1 9 r23.length]∧H1=[bR 101 9 zn r21 0 0,bR 66 9 zg r23 0 0])):=by
  unfold abG at hm
  obtain ⟨n,rfl,h0⟩:=zB hm
  replace hm:=h0; clear h0
  refine ahV 63 [(0,.agg (zc2 a0))] func42 rfl (by kernel_rfl) (sq (det [(1,.ptr 0 0),(2,.ptr 1 0)] [.box (zc2 a0) false,.box zc22 false] (by kernel_rfl) (sq (rgd (shd 6 [(13,.pv (zh zb a0.fWhere)),(12,.ptr 0 2),(11,aI a0.fRel),(10,.ptr 0 1),(9,aI a0.fKind),(8,.ptr 0 0)] (by kernel_rfl) ?_)))))
  obtain ⟨x1,h2,hm⟩:=bs hm
  refine dvd 14 (zE (by kernel_rfl) (aa2 h2) (by kernel_rfl) (by kernel_rfl) (by kernel_rfl)) (by kernel_rfl) (shd 2 [(16,.pv (zh zb a0.fLeft)),(15,.ptr 0 3)] (by kernel_rfl) ?_)
  obtain ⟨x3,h4,hm⟩:=bs hm
  refine dvd 17 (zE (by kernel_rfl) (aa2 h4) (by kernel_rfl) (by kernel_rfl) (by kernel_rfl)) (by kernel_rfl) (shd 2 [(19,.pv (zh zb a0.fRight)),(18,.ptr 0 4)] (by kernel_rfl) ?_)
  obtain ⟨x5,h6,hm⟩:=bs hm
  refine dvd 20 (zE (by kernel_rfl) (aa2 h6) (by kernel_rfl) (by kernel_rfl) (by kernel_rfl)) (by kernel_rfl) (shd 2 [(22,.pv (zh zb a0.fOut)),(21,.ptr 0 5)] (by kernel_rfl) ?_)
  obtain ⟨x7,h8,hm⟩:=bs hm
  refine dvd 23 (zE (by kernel_rfl) (aa2 h8) (by kernel_rfl) (by kernel_rfl) (by kernel_rfl)) (by kernel_rfl) (shd 2 [(25,.pv (zh zp a0.fOrder)),(24,.ptr 0 7)] (by kernel_rfl) ?_)
  obtain ⟨x9,h10,hm⟩:=bs hm
  refine dvd 26 (zE (by kernel_rfl) (aeO h10) (by kernel_rfl) (by kernel_rfl) (by kernel_rfl)) (by kernel_rfl) (std 3 [(3,.ptr 2 0),(27,.agg (zc23 a0 x1 x3 x5 x7 x9))] [.box (zc2 a0) false,.box zc22 false,.box (zc23 a0 x1 x3 x5 x7 x9) false] (by kernel_rfl) (find [(1,.ptr 0 0),(2,.ptr 1 0),(3,.ptr 2 0)] rfl (by kernel_rfl) (by kernel_rfl) ?_))
  obtain ⟨k14,hk14,hm⟩:=zz hm
  refine mid (fun t H=>(∃ (w11:AV) (w12:AV),k14 none=some r∧t=mk 63 [(1,.ptr 0 0),(2,.ptr 1 0),(3,.ptr 2 0),(29,.pv (zh zn a0.fAggs)),(30,aI ((sll a0.fAggs).length:Int)),(31,w11),(32,w12)]∧H=[.box (zc2 a0) false,.box zc22 false,.box (zc23 a0 x1 x3 x5 x7 x9) false])∨(∃ (y13:(List zr)) (w11:AV) (w12:AV),k14 (some y13)=some r∧t=mk 63 [(1,.ptr 0 0),(2,.ptr 1 0),(3,.ptr 2 0),(29,.pv (zh zn a0.fAggs)),(30,aI ((sll a0.fAggs).length:Int)),(31,w11),(32,w12)]∧H=[.box (zc2 a0) false,.box zc22 false,.box (zc24 a0 x1 x3 x5 x7 y13 x9) false,bR 101 9 zn y13 0 0])) ?_ ?_
  ·
   rintro _ _ (⟨w11,w12,hm,rfl,rfl⟩ | ⟨y13,w11,w12,hm,rfl,rfl⟩)
   ·
    subst hk14
    obtain ⟨k18,hk18,hm⟩:=zz hm
    refine mid (fun t H=>(∃ (w15:AV) (w16:AV),k18 none=some r∧t=mk 63 [(2,.ptr 1 0),(3,.ptr 2 0),(48,.pv (zh zg a0.fKids)),(49,aI ((sll a0.fKids).length:Int)),(50,w15),(51,w16)]∧H=[.box (zc2 a0) false,.box zc22 false,.box (zc23 a0 x1 x3 x5 x7 x9) false])∨(∃ (y17:(List zm)) (w15:AV) (w16:AV),k18 (some y17)=some r∧t=mk 63 [(2,.ptr 1 0),(3,.ptr 2 0),(48,.pv (zh zg a0.fKids)),(49,aI ((sll a0.fKids).length:Int)),(50,w15),(51,w16)]∧H=[.box (zc2 a0) false,.box zc22 false,.box (zc25 a0 x1 x3 x5 x7 x9 y17) false,bR 66 9 zg y17 0 0])) ?_ ?_
    ·
     rintro _ _ (⟨w15,w16,hm,rfl,rfl⟩ | ⟨y17,w15,w16,hm,rfl,rfl⟩)
     ·
      subst hk18
      refine sq (det [(2,.ptr 1 0)] [.box (zc2 a0) false,.box (zc23 a0 x1 x3 x5 x7 x9) false,.box (zc23 a0 x1 x3 x5 x7 x9) false] (by kernel_rfl) (wp_ret ?_))
      obtain rfl:=Option.some.inj hm
      exact ⟨trivial,.agg (zc23 a0 x1 x3 x5 x7 x9),[],by kernel_rfl,rfl,rfl⟩
     ·
      subst hk18
      refine sq (det [(2,.ptr 1 0)] [.box (zc2 a0) false,.box (zc25 a0 x1 x3 x5 x7 x9 y17) false,.box (zc25 a0 x1 x3 x5 x7 x9 y17) false,bR 66 9 zg y17 0 0] (by kernel_rfl) (wp_ret ?_))
      obtain rfl:=Option.some.inj hm
      exact ⟨trivial,.agg [aI a0.fKind,aI a0.fRel,.pv (zh zb x1),.pv (zh zb x3),.pv (zh zb x5),.pv (zh zb x7),.pv .nils,.pv (zh zp x9),aR 0 9 y17.length],[bR 66 9 zg y17 0 0],by kernel_rfl,rfl,rfl⟩
    refine sq (rg (s1 2 [(48,.pv (zh zg a0.fKids)),(47,.ptr 0 8)] (dv 49 (v:=aI ((sll a0.fKids).length:Int)) (zy zg a0.fKids t64 (by kernel_rfl)) (by kernel_rfl) (fq 1 [(2,.ptr 1 0),(3,.ptr 2 0),(48,.pv (zh zg a0.fKids)),(49,aI ((sll a0.fKids).length:Int)),(50,aI 0)] (bq ?_)))))
    refine ZY (fun mm t H=>(∃ (y23:Int),zY n rc_plan_Copy a0 k18 mm none y23=some r∧t=mk 63 [(2,.ptr 1 0),(3,.ptr 2 0),(48,.pv (zh zg a0.fKids)),(49,aI ((sll a0.fKids).length:Int)),(50,aI y23)]∧H=[.box (zc2 a0) false,.box zc22 false,.box (zc23 a0 x1 x3 x5 x7 x9) false])∨(∃ (y22:(List zm)) (y23:Int),zY n rc_plan_Copy a0 k18 mm (some y22) y23=some r∧t=mk 63 [(2,.ptr 1 0),(3,.ptr 2 0),(48,.pv (zh zg a0.fKids)),(49,aI ((sll a0.fKids).length:Int)),(50,aI y23)]∧H=[.box (zc2 a0) false,.box zc22 false,.box (zc25 a0 x1 x3 x5 x7 x9 y22) false,bR 66 9 zg y22 0 0])) (.inl ⟨0,hm,rfl,rfl⟩) ?_ ?_
    · rintro _ _ (⟨y23,hm,_⟩ | ⟨y22,y23,hm,_⟩) <;> exact nomatch hm
    rintro m24 _ _ (⟨y23,hm,rfl,rfl⟩ | ⟨y22,y23,hm,rfl,rfl⟩)
    ·
     simp only [zY] at hm
     refine sq (dn [(2,.ptr 1 0),(3,.ptr 2 0),(48,.pv (zh zg a0.fKids)),(49,aI ((sll a0.fKids).length:Int)),(50,aI y23),(51,aB (decide (y23 < ((sll a0.fKids).length:Int))))] ?_)
     refine sq ?_
     rcases zo hm with ⟨h25,hm⟩ | ⟨h25,hm⟩
     ·
      refine c1 h25 (wp_skip (sq (bq (sq (rg ?_)))))
      obtain ⟨x26,h27,hm⟩:=bs hm
      refine dv 52 (v:=.pv (.ptr (zG (zd x26)) 0)) (Zd zg a0.fKids .i64 t64 t66 h27 (zF x26) rfl (by kernel_rfl)) (by kernel_rfl) (stf 3 [(2,.ptr 1 0),(3,.ptr 2 0),(7,.ptr 3 0),(48,.pv (zh zg a0.fKids)),(49,aI ((sll a0.fKids).length:Int)),(50,aI y23)] [.box (zc2 a0) false,.box zc22 false,.box (zc23 a0 x1 x3 x5 x7 x9) false,.box (zc3 x26) false] (by kernel_rfl) (rgd (shd 3 [(56,.agg (zc3 x26)),(55,.pv .nils),(54,.ptr 2 8)] (by kernel_rfl) ?_)))
      obtain ⟨x29,h28,hm⟩:=bs hm
      rcases x29 with ⟨x30,x31,x32,x33,x34⟩ | ⟨x35,x36,x37,x38,x39,x40⟩ | ⟨x41,x42,x43,x44,x45,x46⟩ | ⟨x47,x48,x49,x50,x51,x52,x53⟩
      ·
       obtain ⟨vv,H1,hC,rfl,rfl⟩:=ih_plan_Copy h28
       refine dOd [(57,.agg (zc26 x26 x30 x31 x32 x33 x34))] [.box (zc2 a0) false,.box zc22 false,.box (zc23 a0 x1 x3 x5 x7 x9) false,.box (zc3 x26) false] (aaS [] [.agg (zc3 x26)] (v':=.agg (zc26 x26 x30 x31 x32 x33 x34)) (bs':=[]) (by kernel_rfl) (by kernel_rfl) (by kernel_rfl) hC (by simp [AV.flat,AV.flat2,AV.flat1,qP]) (by kernel_rfl) (by kernel_rfl)) (by kernel_rfl) (std 1 [(58,aR 4 9 1)] [.box (zc2 a0) false,.box zc22 false,.box (zc23 a0 x1 x3 x5 x7 x9) false,.box (zc3 x26) false,bR 66 9 zg ([(zl (zk.mk ((zd x26).fKind) ((zd x26).fRel) x30 x31 x32 x33 none x34 none))]:List zm) 0 0] (by kernel_rfl) ?_)
       obtain ⟨_,h54,hm⟩:=bs hm
       refine dOd [(59,aR 5 9 (([(zl (zk.mk ((zd x26).fKind) ((zd x26).fRel) x30 x31 x32 x33 none x34 none))]:List zm).length))] [.box (zc2 a0) false,.box zc22 false,.box (zc23 a0 x1 x3 x5 x7 x9) false,.box (zc3 x26) false,bR 66 9 zg ([(zl (zk.mk ((zd x26).fKind) ((zd x26).fRel) x30 x31 x32 x33 none x34 none))]:List zm) 0 0,bR 66 9 zg ([(zl (zk.mk ((zd x26).fKind) ((zd x26).fRel) x30 x31 x32 x33 none x34 none))]:List zm) 0 0] (qU (u:=0) zg ([(zl (zk.mk ((zd x26).fKind) ((zd x26).fRel) x30 x31 x32 x33 none x34 none))]:List zm) (b:=184) t64 t66 rfl rfl rfl Zt rfl h54 (show zT (aR 4 9 1) _=some (([(zl (zk.mk ((zd x26).fKind) ((zd x26).fRel) x30 x31 x32 x33 none x34 none))]:List zm).map zg) from by kernel_rfl) (by kernel_rfl)) (by kernel_rfl) (std 2 [(60,.ptr 2 8)] [.box (zc2 a0) false,.box zc22 false,.box [aI a0.fKind,aI a0.fRel,.pv (zh zb x1),.pv (zh zb x3),.pv (zh zb x5),.pv (zh zb x7),.pv .nils,.pv (zh zp x9),aR 5 9 (([(zl (zk.mk ((zd x26).fKind) ((zd x26).fRel) x30 x31 x32 x33 none x34 none))]:List zm).length)] false,.box (zc3 x26) false,bR 66 9 zg ([(zl (zk.mk ((zd x26).fKind) ((zd x26).fRel) x30 x31 x32 x33 none x34 none))]:List zm) 0 0,bR 66 9 zg ([(zl (zk.mk ((zd x26).fKind) ((zd x26).fRel) x30 x31 x32 x33 none x34 none))]:List zm) 0 0] (by kernel_rfl) (find [(2,.ptr 1 0),(3,.ptr 2 0),(48,.pv (zh zg a0.fKids)),(49,aI ((sll a0.fKids).length:Int)),(50,aI y23)] rfl (by kernel_rfl) (by kernel_rfl) (dn [(2,.ptr 1 0),(3,.ptr 2 0),(48,.pv (zh zg a0.fKids)),(49,aI ((sll a0.fKids).length:Int)),(50,aI (IntKind.wrap .i64 (y23+1)))] ?_)))
       exact ⟨_,_,Zh [(2,.ptr 1 0),(3,.ptr 2 0),(48,.pv (zh zg a0.fKids)),(49,aI ((sll a0.fKids).length:Int)),(50,aI (IntKind.wrap .i64 (y23+1)))] [.box (zc2 a0) false,.box zc22 false,.box [aI a0.fKind,aI a0.fRel,.pv (zh zb x1),.pv (zh zb x3),.pv (zh zb x5),.pv (zh zb x7),.pv .nils,.pv (zh zp x9),aR 3 9 (([(zl (zk.mk ((zd x26).fKind) ((zd x26).fRel) x30 x31 x32 x33 none x34 none))]:List zm).length)] false,bR 66 9 zg ([(zl (zk.mk ((zd x26).fKind) ((zd x26).fRel) x30 x31 x32 x33 none x34 none))]:List zm) 0 0] (by kernel_rfl),.inr (⟨([(zl (zk.mk ((zd x26).fKind) ((zd x26).fRel) x30 x31 x32 x33 none x34 none))]:List zm),(IntKind.wrap .i64 (y23+1)),hm,rfl,rfl⟩)⟩
      ·
       obtain ⟨vv,H1,hC,rfl,rfl⟩:=ih_plan_Copy h28
       refine dOd [(57,.agg (zc27 x26 x35 x36 x37 x38 x39 x40))] [.box (zc2 a0) false,.box zc22 false,.box (zc23 a0 x1 x3 x5 x7 x9) false,.box (zc3 x26) false,bR 66 9 zg x40 0 0] (aaS [] [.agg (zc3 x26)] (v':=.agg (zc27 x26 x35 x36 x37 x38 x39 x40)) (bs':=[bR 66 9 zg x40 0 0]) (by kernel_rfl) (by kernel_rfl) (by kernel_rfl) hC (by simp [AV.flat,AV.flat2,AV.flat1,qP]) (by kernel_rfl) (by kernel_rfl)) (by kernel_rfl) (dOd [(58,aR 5 9 1)] [.box (zc2 a0) false,.box zc22 false,.box (zc23 a0 x1 x3 x5 x7 x9) false,.box (zc3 x26) false,bR 66 9 zg x40 0 (max 0 (x40.map zg).length),bR 66 9 zg ([(zl (zk.mk ((zd x26).fKind) ((zd x26).fRel) x35 x36 x37 x38 none x39 (some x40)))]:List zm) 0 0] (qT (nid:=0) (t:=64) (len:=1) (is:=[0]) (vs:=[.agg (zc27 x26 x35 x36 x37 x38 x39 x40)]) (ps:=[.agg (zc28 x26 x35 x36 x37 x38 x39 x40)]) (R:=[4]) (e:=⟨aR 5 9 1,[],[bR 66 9 zg ([(zl (zk.mk ((zd x26).fKind) ((zd x26).fRel) x35 x36 x37 x38 none x39 (some x40)))]:List zm) 0 0]⟩) (by kernel_rfl) (qy (aaL (zq (zw) (zq (zw) (zq (zw) (zq (zw) (zq (zw) (zq (zw) (zq (zw) (zq (zw) (zq (ZO (n:=x40.length) (id:=4) (l:=x40) (R:=zg) rfl rfl (Nat.zero_le _)) (rfl)))))))))) rfl) (rfl)) (by kernel_rfl) (by kernel_rfl)) (by kernel_rfl) ?_)
       obtain ⟨_,h55,hm⟩:=bs hm
       refine dOd [(59,aR 6 9 (([(zl (zk.mk ((zd x26).fKind) ((zd x26).fRel) x35 x36 x37 x38 none x39 (some x40)))]:List zm).length))] [.box (zc2 a0) false,.box zc22 false,.box (zc23 a0 x1 x3 x5 x7 x9) false,.box (zc3 x26) false,bR 66 9 zg x40 0 (max 0 (x40.map zg).length),bR 66 9 zg ([(zl (zk.mk ((zd x26).fKind) ((zd x26).fRel) x35 x36 x37 x38 none x39 (some x40)))]:List zm) 0 0,bR 66 9 zg ([(zl (zk.mk ((zd x26).fKind) ((zd x26).fRel) x35 x36 x37 x38 none x39 (some x40)))]:List zm) 0 0] (qU (u:=0) zg ([(zl (zk.mk ((zd x26).fKind) ((zd x26).fRel) x35 x36 x37 x38 none x39 (some x40)))]:List zm) (b:=184) t64 t66 rfl rfl rfl Zt rfl h55 (show zT (aR 5 9 1) _=some (([(zl (zk.mk ((zd x26).fKind) ((zd x26).fRel) x35 x36 x37 x38 none x39 (some x40)))]:List zm).map zg) from by kernel_rfl) (by kernel_rfl)) (by kernel_rfl) (std 2 [(60,.ptr 2 8)] [.box (zc2 a0) false,.box zc22 false,.box [aI a0.fKind,aI a0.fRel,.pv (zh zb x1),.pv (zh zb x3),.pv (zh zb x5),.pv (zh zb x7),.pv .nils,.pv (zh zp x9),aR 6 9 (([(zl (zk.mk ((zd x26).fKind) ((zd x26).fRel) x35 x36 x37 x38 none x39 (some x40)))]:List zm).length)] false,.box (zc3 x26) false,bR 66 9 zg x40 0 (max 0 (x40.map zg).length),bR 66 9 zg ([(zl (zk.mk ((zd x26).fKind) ((zd x26).fRel) x35 x36 x37 x38 none x39 (some x40)))]:List zm) 0 0,bR 66 9 zg ([(zl (zk.mk ((zd x26).fKind) ((zd x26).fRel) x35 x36 x37 x38 none x39 (some x40)))]:List zm) 0 0] (by kernel_rfl) (find [(2,.ptr 1 0),(3,.ptr 2 0),(48,.pv (zh zg a0.fKids)),(49,aI ((sll a0.fKids).length:Int)),(50,aI y23)] rfl (by kernel_rfl) (by kernel_rfl) (dn [(2,.ptr 1 0),(3,.ptr 2 0),(48,.pv (zh zg a0.fKids)),(49,aI ((sll a0.fKids).length:Int)),(50,aI (IntKind.wrap .i64 (y23+1)))] ?_)))
       exact ⟨_,_,Zh [(2,.ptr 1 0),(3,.ptr 2 0),(48,.pv (zh zg a0.fKids)),(49,aI ((sll a0.fKids).length:Int)),(50,aI (IntKind.wrap .i64 (y23+1)))] [.box (zc2 a0) false,.box zc22 false,.box [aI a0.fKind,aI a0.fRel,.pv (zh zb x1),.pv (zh zb x3),.pv (zh zb x5),.pv (zh zb x7),.pv .nils,.pv (zh zp x9),aR 3 9 (([(zl (zk.mk ((zd x26).fKind) ((zd x26).fRel) x35 x36 x37 x38 none x39 (some x40)))]:List zm).length)] false,bR 66 9 zg ([(zl (zk.mk ((zd x26).fKind) ((zd x26).fRel) x35 x36 x37 x38 none x39 (some x40)))]:List zm) 0 0] (by kernel_rfl),.inr (⟨([(zl (zk.mk ((zd x26).fKind) ((zd x26).fRel) x35 x36 x37 x38 none x39 (some x40)))]:List zm),(IntKind.wrap .i64 (y23+1)),hm,rfl,rfl⟩)⟩
      ·
       obtain ⟨vv,H1,hC,rfl,rfl⟩:=ih_plan_Copy h28
       refine dOd [(57,.agg (zc29 x26 x41 x42 x43 x44 x45 x46))] [.box (zc2 a0) false,.box zc22 false,.box (zc23 a0 x1 x3 x5 x7 x9) false,.box (zc3 x26) false,bR 101 9 zn x45 0 0] (aaS [] [.agg (zc3 x26)] (v':=.agg (zc29 x26 x41 x42 x43 x44 x45 x46)) (bs':=[bR 101 9 zn x45 0 0]) (by kernel_rfl) (by kernel_rfl) (by kernel_rfl) hC (by simp [AV.flat,AV.flat2,AV.flat1,qP]) (by kernel_rfl) (by kernel_rfl)) (by kernel_rfl) (dOd [(58,aR 5 9 1)] [.box (zc2 a0) false,.box zc22 false,.box (zc23 a0 x1 x3 x5 x7 x9) false,.box (zc3 x26) false,bR 101 9 zn x45 0 (max 0 (x45.map zn).length),bR 66 9 zg ([(zl (zk.mk ((zd x26).fKind) ((zd x26).fRel) x41 x42 x43 x44 (some x45) x46 none))]:List zm) 0 0] (qT (nid:=0) (t:=64) (len:=1) (is:=[0]) (vs:=[.agg (zc29 x26 x41 x42 x43 x44 x45 x46)]) (ps:=[.agg (zc30 x26 x41 x42 x43 x44 x45 x46)]) (R:=[4]) (e:=⟨aR 5 9 1,[],[bR 66 9 zg ([(zl (zk.mk ((zd x26).fKind) ((zd x26).fRel) x41 x42 x43 x44 (some x45) x46 none))]:List zm) 0 0]⟩) (by kernel_rfl) (qy (aaL (zq (zw) (zq (zw) (zq (zw) (zq (zw) (zq (zw) (zq (zw) (zq (ZO (n:=x45.length) (id:=4) (l:=x45) (R:=zn) rfl rfl (Nat.zero_le _)) (zq (zw) (zq (zw) (rfl)))))))))) rfl) (rfl)) (by kernel_rfl) (by kernel_rfl)) (by kernel_rfl) ?_)
       obtain ⟨_,h56,hm⟩:=bs hm
       refine dOd [(59,aR 6 9 (([(zl (zk.mk ((zd x26).fKind) ((zd x26).fRel) x41 x42 x43 x44 (some x45) x46 none))]:List zm).length))] [.box (zc2 a0) false,.box zc22 false,.box (zc23 a0 x1 x3 x5 x7 x9) false,.box (zc3 x26) false,bR 101 9 zn x45 0 (max 0 (x45.map zn).length),bR 66 9 zg ([(zl (zk.mk ((zd x26).fKind) ((zd x26).fRel) x41 x42 x43 x44 (some x45) x46 none))]:List zm) 0 0,bR 66 9 zg ([(zl (zk.mk ((zd x26).fKind) ((zd x26).fRel) x41 x42 x43 x44 (some x45) x46 none))]:List zm) 0 0] (qU (u:=0) zg ([(zl (zk.mk ((zd x26).fKind) ((zd x26).fRel) x41 x42 x43 x44 (some x45) x46 none))]:List zm) (b:=184) t64 t66 rfl rfl rfl Zt rfl h56 (show zT (aR 5 9 1) _=some (([(zl (zk.mk ((zd x26).fKind) ((zd x26).fRel) x41 x42 x43 x44 (some x45) x46 none))]:List zm).map zg) from by kernel_rfl) (by kernel_rfl)) (by kernel_rfl) (std 2 [(60,.ptr 2 8)] [.box (zc2 a0) false,.box zc22 false,.box [aI a0.fKind,aI a0.fRel,.pv (zh zb x1),.pv (zh zb x3),.pv (zh zb x5),.pv (zh zb x7),.pv .nils,.pv (zh zp x9),aR 6 9 (([(zl (zk.mk ((zd x26).fKind) ((zd x26).fRel) x41 x42 x43 x44 (some x45) x46 none))]:List zm).length)] false,.box (zc3 x26) false,bR 101 9 zn x45 0 (max 0 (x45.map zn).length),bR 66 9 zg ([(zl (zk.mk ((zd x26).fKind) ((zd x26).fRel) x41 x42 x43 x44 (some x45) x46 none))]:List zm) 0 0,bR 66 9 zg ([(zl (zk.mk ((zd x26).fKind) ((zd x26).fRel) x41 x42 x43 x44 (some x45) x46 none))]:List zm) 0 0] (by kernel_rfl) (find [(2,.ptr 1 0),(3,.ptr 2 0),(48,.pv (zh zg a0.fKids)),(49,aI ((sll a0.fKids).length:Int)),(50,aI y23)] rfl (by kernel_rfl) (by kernel_rfl) (dn [(2,.ptr 1 0),(3,.ptr 2 0),(48,.pv (zh zg a0.fKids)),(49,aI ((sll a0.fKids).length:Int)),(50,aI (IntKind.wrap .i64 (y23+1)))] ?_)))
       exact ⟨_,_,Zh [(2,.ptr 1 0),(3,.ptr 2 0),(48,.pv (zh zg a0.fKids)),(49,aI ((sll a0.fKids).length:Int)),(50,aI (IntKind.wrap .i64 (y23+1)))] [.box (zc2 a0) false,.box zc22 false,.box [aI a0.fKind,aI a0.fRel,.pv (zh zb x1),.pv (zh zb x3),.pv (zh zb x5),.pv (zh zb x7),.pv .nils,.pv (zh zp x9),aR 3 9 (([(zl (zk.mk ((zd x26).fKind) ((zd x26).fRel) x41 x42 x43 x44 (some x45) x46 none))]:List zm).length)] false,bR 66 9 zg ([(zl (zk.mk ((zd x26).fKind) ((zd x26).fRel) x41 x42 x43 x44 (some x45) x46 none))]:List zm) 0 0] (by kernel_rfl),.inr (⟨([(zl (zk.mk ((zd x26).fKind) ((zd x26).fRel) x41 x42 x43 x44 (some x45) x46 none))]:List zm),(IntKind.wrap .i64 (y23+1)),hm,rfl,rfl⟩)⟩
      ·
       obtain ⟨vv,H1,hC,rfl,rfl⟩:=ih_plan_Copy h28
       refine dOd [(57,.agg (zc31 x26 x47 x48 x49 x50 x51 x52 x53))] [.box (zc2 a0) false,.box zc22 false,.box (zc23 a0 x1 x3 x5 x7 x9) false,.box (zc3 x26) false,bR 101 9 zn x51 0 0,bR 66 9 zg x53 0 0] (aaS [] [.agg (zc3 x26)] (v':=.agg (zc31 x26 x47 x48 x49 x50 x51 x52 x53)) (bs':=[bR 101 9 zn x51 0 0,bR 66 9 zg x53 0 0]) (by kernel_rfl) (by kernel_rfl) (by kernel_rfl) hC (by simp [AV.flat,AV.flat2,AV.flat1,qP]) (by kernel_rfl) (by kernel_rfl)) (by kernel_rfl) (dOd [(58,aR 6 9 1)] [.box (zc2 a0) false,.box zc22 false,.box (zc23 a0 x1 x3 x5 x7 x9) false,.box (zc3 x26) false,bR 101 9 zn x51 0 (max 0 (x51.map zn).length),bR 66 9 zg x53 0 (max 0 (x53.map zg).length),bR 66 9 zg ([(zl (zk.mk ((zd x26).fKind) ((zd x26).fRel) x47 x48 x49 x50 (some x51) x52 (some x53)))]:List zm) 0 0] (qT (nid:=0) (t:=64) (len:=1) (is:=[0]) (vs:=[.agg (zc31 x26 x47 x48 x49 x50 x51 x52 x53)]) (ps:=[.agg (zc32 x26 x47 x48 x49 x50 x51 x52 x53)]) (R:=[4,5]) (e:=⟨aR 6 9 1,[],[bR 66 9 zg ([(zl (zk.mk ((zd x26).fKind) ((zd x26).fRel) x47 x48 x49 x50 (some x51) x52 (some x53)))]:List zm) 0 0]⟩) (by kernel_rfl) (qy (aaL (zq (zw) (zq (zw) (zq (zw) (zq (zw) (zq (zw) (zq (zw) (zq (ZO (n:=x51.length) (id:=4) (l:=x51) (R:=zn) rfl rfl (Nat.zero_le _)) (zq (zw) (zq (ZO (n:=x53.length) (id:=5) (l:=x53) (R:=zg) rfl rfl (Nat.zero_le _)) (rfl)))))))))) rfl) (rfl)) (by kernel_rfl) (by kernel_rfl)) (by kernel_rfl) ?_)
       obtain ⟨_,h57,hm⟩:=bs hm
       refine dOd [(59,aR 7 9 (([(zl (zk.mk ((zd x26).fKind) ((zd x26).fRel) x47 x48 x49 x50 (some x51) x52 (some x53)))]:List zm).length))] [.box (zc2 a0) false,.box zc22 false,.box (zc23 a0 x1 x3 x5 x7 x9) false,.box (zc3 x26) false,bR 101 9 zn x51 0 (max 0 (x51.map zn).length),bR 66 9 zg x53 0 (max 0 (x53.map zg).length),bR 66 9 zg ([(zl (zk.mk ((zd x26).fKind) ((zd x26).fRel) x47 x48 x49 x50 (some x51) x52 (some x53)))]:List zm) 0 0,bR 66 9 zg ([(zl (zk.mk ((zd x26).fKind) ((zd x26).fRel) x47 x48 x49 x50 (some x51) x52 (some x53)))]:List zm) 0 0] (qU (u:=0) zg ([(zl (zk.mk ((zd x26).fKind) ((zd x26).fRel) x47 x48 x49 x50 (some x51) x52 (some x53)))]:List zm) (b:=184) t64 t66 rfl rfl rfl Zt rfl h57 (show zT (aR 6 9 1) _=some (([(zl (zk.mk ((zd x26).fKind) ((zd x26).fRel) x47 x48 x49 x50 (some x51) x52 (some x53)))]:List zm).map zg) from by kernel_rfl) (by kernel_rfl)) (by kernel_rfl) (std 2 [(60,.ptr 2 8)] [.box (zc2 a0) false,.box zc22 false,.box [aI a0.fKind,aI a0.fRel,.pv (zh zb x1),.pv (zh zb x3),.pv (zh zb x5),.pv (zh zb x7),.pv .nils,.pv (zh zp x9),aR 7 9 (([(zl (zk.mk ((zd x26).fKind) ((zd x26).fRel) x47 x48 x49 x50 (some x51) x52 (some x53)))]:List zm).length)] false,.box (zc3 x26) false,bR 101 9 zn x51 0 (max 0 (x51.map zn).length),bR 66 9 zg x53 0 (max 0 (x53.map zg).length),bR 66 9 zg ([(zl (zk.mk ((zd x26).fKind) ((zd x26).fRel) x47 x48 x49 x50 (some x51) x52 (some x53)))]:List zm) 0 0,bR 66 9 zg ([(zl (zk.mk ((zd x26).fKind) ((zd x26).fRel) x47 x48 x49 x50 (some x51) x52 (some x53)))]:List zm) 0 0] (by kernel_rfl) (find [(2,.ptr 1 0),(3,.ptr 2 0),(48,.pv (zh zg a0.fKids)),(49,aI ((sll a0.fKids).length:Int)),(50,aI y23)] rfl (by kernel_rfl) (by kernel_rfl) (dn [(2,.ptr 1 0),(3,.ptr 2 0),(48,.pv (zh zg a0.fKids)),(49,aI ((sll a0.fKids).length:Int)),(50,aI (IntKind.wrap .i64 (y23+1)))] ?_)))
       exact ⟨_,_,Zh [(2,.ptr 1 0),(3,.ptr 2 0),(48,.pv (zh zg a0.fKids)),(49,aI ((sll a0.fKids).length:Int)),(50,aI (IntKind.wrap .i64 (y23+1)))] [.box (zc2 a0) false,.box zc22 false,.box [aI a0.fKind,aI a0.fRel,.pv (zh zb x1),.pv (zh zb x3),.pv (zh zb x5),.pv (zh zb x7),.pv .nils,.pv (zh zp x9),aR 3 9 (([(zl (zk.mk ((zd x26).fKind) ((zd x26).fRel) x47 x48 x49 x50 (some x51) x52 (some x53)))]:List zm).length)] false,bR 66 9 zg ([(zl (zk.mk ((zd x26).fKind) ((zd x26).fRel) x47 x48 x49 x50 (some x51) x52 (some x53)))]:List zm) 0 0] (by kernel_rfl),.inr (⟨([(zl (zk.mk ((zd x26).fKind) ((zd x26).fRel) x47 x48 x49 x50 (some x51) x52 (some x53)))]:List zm),(IntKind.wrap .i64 (y23+1)),hm,rfl,rfl⟩)⟩
     ·
      refine c0 h25 (wp_exit ?_)
      exact .inl ⟨aI y23,aB (decide (y23 < ((sll a0.fKids).length:Int))),hm,(Zk (by kernel_rfl)),rfl⟩
    ·
     simp only [zY] at hm
     refine sq (dn [(2,.ptr 1 0),(3,.ptr 2 0),(48,.pv (zh zg a0.fKids)),(49,aI ((sll a0.fKids).length:Int)),(50,aI y23),(51,aB (decide (y23 < ((sll a0.fKids).length:Int))))] ?_)
     refine sq ?_
     rcases zo hm with ⟨h58,hm⟩ | ⟨h58,hm⟩
     ·
      refine c1 h58 (wp_skip (sq (bq (sq (rg ?_)))))
      obtain ⟨x59,h60,hm⟩:=bs hm
      refine dv 52 (v:=.pv (.ptr (zG (zd x59)) 0)) (Zd zg a0.fKids .i64 t64 t66 h60 (zF x59) rfl (by kernel_rfl)) (by kernel_rfl) (stf 3 [(2,.ptr 1 0),(3,.ptr 2 0),(7,.ptr 4 0),(48,.pv (zh zg a0.fKids)),(49,aI ((sll a0.fKids).length:Int)),(50,aI y23)] [.box (zc2 a0) false,.box zc22 false,.box (zc25 a0 x1 x3 x5 x7 x9 y22) false,bR 66 9 zg y22 0 0,.box (zc3 x59) false] (by kernel_rfl) (rgd (shd 3 [(56,.agg (zc3 x59)),(55,aR 3 9 y22.length),(54,.ptr 2 8)] (by kernel_rfl) ?_)))
      obtain ⟨x62,h61,hm⟩:=bs hm
      rcases x62 with ⟨x63,x64,x65,x66,x67⟩ | ⟨x68,x69,x70,x71,x72,x73⟩ | ⟨x74,x75,x76,x77,x78,x79⟩ | ⟨x80,x81,x82,x83,x84,x85,x86⟩
      ·
       obtain ⟨vv,H1,hC,rfl,rfl⟩:=ih_plan_Copy h61
       refine dOd [(57,.agg (zc26 x59 x63 x64 x65 x66 x67))] [.box (zc2 a0) false,.box zc22 false,.box (zc25 a0 x1 x3 x5 x7 x9 y22) false,bR 66 9 zg y22 0 0,.box (zc3 x59) false] (aaS [] [.agg (zc3 x59)] (v':=.agg (zc26 x59 x63 x64 x65 x66 x67)) (bs':=[]) (by kernel_rfl) (by kernel_rfl) (by kernel_rfl) hC (by simp [AV.flat,AV.flat2,AV.flat1,qP]) (by kernel_rfl) (by kernel_rfl)) (by kernel_rfl) (std 1 [(58,aR 5 9 1)] [.box (zc2 a0) false,.box zc22 false,.box (zc25 a0 x1 x3 x5 x7 x9 y22) false,bR 66 9 zg y22 0 0,.box (zc3 x59) false,bR 66 9 zg ([(zl (zk.mk ((zd x59).fKind) ((zd x59).fRel) x63 x64 x65 x66 none x67 none))]:List zm) 0 0] (by kernel_rfl) ?_)
       obtain ⟨_,h87,hm⟩:=bs hm
       refine dOd [(59,aR 3 9 ((y22++([(zl (zk.mk ((zd x59).fKind) ((zd x59).fRel) x63 x64 x65 x66 none x67 none))]:List zm)).length))] [.box (zc2 a0) false,.box zc22 false,.box (zc25 a0 x1 x3 x5 x7 x9 y22) false,bR 66 9 zg (y22++([(zl (zk.mk ((zd x59).fKind) ((zd x59).fRel) x63 x64 x65 x66 none x67 none))]:List zm)) 0 0,.box (zc3 x59) false,bR 66 9 zg ([(zl (zk.mk ((zd x59).fKind) ((zd x59).fRel) x63 x64 x65 x66 none x67 none))]:List zm) 0 0] (Z5 (u:=0) (n:=y22.length) (id:=3) zg y22 ([(zl (zk.mk ((zd x59).fKind) ((zd x59).fRel) x63 x64 x65 x66 none x67 none))]:List zm) (b:=184) t64 t66 rfl rfl rfl Zt rfl h87 rfl rfl (Nat.zero_le _) (show zT (aR 5 9 1) _=some (([(zl (zk.mk ((zd x59).fKind) ((zd x59).fRel) x63 x64 x65 x66 none x67 none))]:List zm).map zg) from by kernel_rfl) (by kernel_rfl)) (by kernel_rfl) (std 2 [(60,.ptr 2 8)] [.box (zc2 a0) false,.box zc22 false,.box [aI a0.fKind,aI a0.fRel,.pv (zh zb x1),.pv (zh zb x3),.pv (zh zb x5),.pv (zh zb x7),.pv .nils,.pv (zh zp x9),aR 3 9 ((y22++([(zl (zk.mk ((zd x59).fKind) ((zd x59).fRel) x63 x64 x65 x66 none x67 none))]:List zm)).length)] false,bR 66 9 zg (y22++([(zl (zk.mk ((zd x59).fKind) ((zd x59).fRel) x63 x64 x65 x66 none x67 none))]:List zm)) 0 0,.box (zc3 x59) false,bR 66 9 zg ([(zl (zk.mk ((zd x59).fKind) ((zd x59).fRel) x63 x64 x65 x66 none x67 none))]:List zm) 0 0] (by kernel_rfl) (find [(2,.ptr 1 0),(3,.ptr 2 0),(48,.pv (zh zg a0.fKids)),(49,aI ((sll a0.fKids).length:Int)),(50,aI y23)] rfl (by kernel_rfl) (by kernel_rfl) (dn [(2,.ptr 1 0),(3,.ptr 2 0),(48,.pv (zh zg a0.fKids)),(49,aI ((sll a0.fKids).length:Int)),(50,aI (IntKind.wrap .i64 (y23+1)))] ?_)))
       exact ⟨_,_,Zh [(2,.ptr 1 0),(3,.ptr 2 0),(48,.pv (zh zg a0.fKids)),(49,aI ((sll a0.fKids).length:Int)),(50,aI (IntKind.wrap .i64 (y23+1)))] [.box (zc2 a0) false,.box zc22 false,.box [aI a0.fKind,aI a0.fRel,.pv (zh zb x1),.pv (zh zb x3),.pv (zh zb x5),.pv (zh zb x7),.pv .nils,.pv (zh zp x9),aR 3 9 ((y22++([(zl (zk.mk ((zd x59).fKind) ((zd x59).fRel) x63 x64 x65 x66 none x67 none))]:List zm)).length)] false,bR 66 9 zg (y22++([(zl (zk.mk ((zd x59).fKind) ((zd x59).fRel) x63 x64 x65 x66 none x67 none))]:List zm)) 0 0] (by kernel_rfl),.inr (⟨(y22++([(zl (zk.mk ((zd x59).fKind) ((zd x59).fRel) x63 x64 x65 x66 none x67 none))]:List zm)),(IntKind.wrap .i64 (y23+1)),hm,rfl,rfl⟩)⟩
      ·
       obtain ⟨vv,H1,hC,rfl,rfl⟩:=ih_plan_Copy h61
       refine dOd [(57,.agg (zc33 x59 x68 x69 x70 x71 x72 x73))] [.box (zc2 a0) false,.box zc22 false,.box (zc25 a0 x1 x3 x5 x7 x9 y22) false,bR 66 9 zg y22 0 0,.box (zc3 x59) false,bR 66 9 zg x73 0 0] (aaS [] [.agg (zc3 x59)] (v':=.agg (zc33 x59 x68 x69 x70 x71 x72 x73)) (bs':=[bR 66 9 zg x73 0 0]) (by kernel_rfl) (by kernel_rfl) (by kernel_rfl) hC (by simp [AV.flat,AV.flat2,AV.flat1,qP]) (by kernel_rfl) (by kernel_rfl)) (by kernel_rfl) (dOd [(58,aR 6 9 1)] [.box (zc2 a0) false,.box zc22 false,.box (zc25 a0 x1 x3 x5 x7 x9 y22) false,bR 66 9 zg y22 0 0,.box (zc3 x59) false,bR 66 9 zg x73 0 (max 0 (x73.map zg).length),bR 66 9 zg ([(zl (zk.mk ((zd x59).fKind) ((zd x59).fRel) x68 x69 x70 x71 none x72 (some x73)))]:List zm) 0 0] (qT (nid:=0) (t:=64) (len:=1) (is:=[0]) (vs:=[.agg (zc33 x59 x68 x69 x70 x71 x72 x73)]) (ps:=[.agg (zc28 x59 x68 x69 x70 x71 x72 x73)]) (R:=[5]) (e:=⟨aR 6 9 1,[],[bR 66 9 zg ([(zl (zk.mk ((zd x59).fKind) ((zd x59).fRel) x68 x69 x70 x71 none x72 (some x73)))]:List zm) 0 0]⟩) (by kernel_rfl) (qy (aaL (zq (zw) (zq (zw) (zq (zw) (zq (zw) (zq (zw) (zq (zw) (zq (zw) (zq (zw) (zq (ZO (n:=x73.length) (id:=5) (l:=x73) (R:=zg) rfl rfl (Nat.zero_le _)) (rfl)))))))))) rfl) (rfl)) (by kernel_rfl) (by kernel_rfl)) (by kernel_rfl) ?_)
       obtain ⟨_,h88,hm⟩:=bs hm
       refine dOd [(59,aR 3 9 ((y22++([(zl (zk.mk ((zd x59).fKind) ((zd x59).fRel) x68 x69 x70 x71 none x72 (some x73)))]:List zm)).length))] [.box (zc2 a0) false,.box zc22 false,.box (zc25 a0 x1 x3 x5 x7 x9 y22) false,bR 66 9 zg (y22++([(zl (zk.mk ((zd x59).fKind) ((zd x59).fRel) x68 x69 x70 x71 none x72 (some x73)))]:List zm)) 0 0,.box (zc3 x59) false,bR 66 9 zg x73 0 (max 0 (x73.map zg).length),bR 66 9 zg ([(zl (zk.mk ((zd x59).fKind) ((zd x59).fRel) x68 x69 x70 x71 none x72 (some x73)))]:List zm) 0 0] (Z5 (u:=0) (n:=y22.length) (id:=3) zg y22 ([(zl (zk.mk ((zd x59).fKind) ((zd x59).fRel) x68 x69 x70 x71 none x72 (some x73)))]:List zm) (b:=184) t64 t66 rfl rfl rfl Zt rfl h88 rfl rfl (Nat.zero_le _) (show zT (aR 6 9 1) _=some (([(zl (zk.mk ((zd x59).fKind) ((zd x59).fRel) x68 x69 x70 x71 none x72 (some x73)))]:List zm).map zg) from by kernel_rfl) (by kernel_rfl)) (by kernel_rfl) (std 2 [(60,.ptr 2 8)] [.box (zc2 a0) false,.box zc22 false,.box [aI a0.fKind,aI a0.fRel,.pv (zh zb x1),.pv (zh zb x3),.pv (zh zb x5),.pv (zh zb x7),.pv .nils,.pv (zh zp x9),aR 3 9 ((y22++([(zl (zk.mk ((zd x59).fKind) ((zd x59).fRel) x68 x69 x70 x71 none x72 (some x73)))]:List zm)).length)] false,bR 66 9 zg (y22++([(zl (zk.mk ((zd x59).fKind) ((zd x59).fRel) x68 x69 x70 x71 none x72 (some x73)))]:List zm)) 0 0,.box (zc3 x59) false,bR 66 9 zg x73 0 (max 0 (x73.map zg).length),bR 66 9 zg ([(zl (zk.mk ((zd x59).fKind) ((zd x59).fRel) x68 x69 x70 x71 none x72 (some x73)))]:List zm) 0 0] (by kernel_rfl) (find [(2,.ptr 1 0),(3,.ptr 2 0),(48,.pv (zh zg a0.fKids)),(49,aI ((sll a0.fKids).length:Int)),(50,aI y23)] rfl (by kernel_rfl) (by kernel_rfl) (dn [(2,.ptr 1 0),(3,.ptr 2 0),(48,.pv (zh zg a0.fKids)),(49,aI ((sll a0.fKids).length:Int)),(50,aI (IntKind.wrap .i64 (y23+1)))] ?_)))
       exact ⟨_,_,Zh [(2,.ptr 1 0),(3,.ptr 2 0),(48,.pv (zh zg a0.fKids)),(49,aI ((sll a0.fKids).length:Int)),(50,aI (IntKind.wrap .i64 (y23+1)))] [.box (zc2 a0) false,.box zc22 false,.box [aI a0.fKind,aI a0.fRel,.pv (zh zb x1),.pv (zh zb x3),.pv (zh zb x5),.pv (zh zb x7),.pv .nils,.pv (zh zp x9),aR 3 9 ((y22++([(zl (zk.mk ((zd x59).fKind) ((zd x59).fRel) x68 x69 x70 x71 none x72 (some x73)))]:List zm)).length)] false,bR 66 9 zg (y22++([(zl (zk.mk ((zd x59).fKind) ((zd x59).fRel) x68 x69 x70 x71 none x72 (some x73)))]:List zm)) 0 0] (by kernel_rfl),.inr (⟨(y22++([(zl (zk.mk ((zd x59).fKind) ((zd x59).fRel) x68 x69 x70 x71 none x72 (some x73)))]:List zm)),(IntKind.wrap .i64 (y23+1)),hm,rfl,rfl⟩)⟩
      ·
       obtain ⟨vv,H1,hC,rfl,rfl⟩:=ih_plan_Copy h61
       refine dOd [(57,.agg (zc34 x59 x74 x75 x76 x77 x78 x79))] [.box (zc2 a0) false,.box zc22 false,.box (zc25 a0 x1 x3 x5 x7 x9 y22) false,bR 66 9 zg y22 0 0,.box (zc3 x59) false,bR 101 9 zn x78 0 0] (aaS [] [.agg (zc3 x59)] (v':=.agg (zc34 x59 x74 x75 x76 x77 x78 x79)) (bs':=[bR 101 9 zn x78 0 0]) (by kernel_rfl) (by kernel_rfl) (by kernel_rfl) hC (by simp [AV.flat,AV.flat2,AV.flat1,qP]) (by kernel_rfl) (by kernel_rfl)) (by kernel_rfl) (dOd [(58,aR 6 9 1)] [.box (zc2 a0) false,.box zc22 false,.box (zc25 a0 x1 x3 x5 x7 x9 y22) false,bR 66 9 zg y22 0 0,.box (zc3 x59) false,bR 101 9 zn x78 0 (max 0 (x78.map zn).length),bR 66 9 zg ([(zl (zk.mk ((zd x59).fKind) ((zd x59).fRel) x74 x75 x76 x77 (some x78) x79 none))]:List zm) 0 0] (qT (nid:=0) (t:=64) (len:=1) (is:=[0]) (vs:=[.agg (zc34 x59 x74 x75 x76 x77 x78 x79)]) (ps:=[.agg (zc30 x59 x74 x75 x76 x77 x78 x79)]) (R:=[5]) (e:=⟨aR 6 9 1,[],[bR 66 9 zg ([(zl (zk.mk ((zd x59).fKind) ((zd x59).fRel) x74 x75 x76 x77 (some x78) x79 none))]:List zm) 0 0]⟩) (by kernel_rfl) (qy (aaL (zq (zw) (zq (zw) (zq (zw) (zq (zw) (zq (zw) (zq (zw) (zq (ZO (n:=x78.length) (id:=5) (l:=x78) (R:=zn) rfl rfl (Nat.zero_le _)) (zq (zw) (zq (zw) (rfl)))))))))) rfl) (rfl)) (by kernel_rfl) (by kernel_rfl)) (by kernel_rfl) ?_)
       obtain ⟨_,h89,hm⟩:=bs hm
       refine dOd [(59,aR 3 9 ((y22++([(zl (zk.mk ((zd x59).fKind) ((zd x59).fRel) x74 x75 x76 x77 (some x78) x79 none))]:List zm)).length))] [.box (zc2 a0) false,.box zc22 false,.box (zc25 a0 x1 x3 x5 x7 x9 y22) false,bR 66 9 zg (y22++([(zl (zk.mk ((zd x59).fKind) ((zd x59).fRel) x74 x75 x76 x77 (some x78) x79 none))]:List zm)) 0 0,.box (zc3 x59) false,bR 101 9 zn x78 0 (max 0 (x78.map zn).length),bR 66 9 zg ([(zl (zk.mk ((zd x59).fKind) ((zd x59).fRel) x74 x75 x76 x77 (some x78) x79 none))]:List zm) 0 0] (Z5 (u:=0) (n:=y22.length) (id:=3) zg y22 ([(zl (zk.mk ((zd x59).fKind) ((zd x59).fRel) x74 x75 x76 x77 (some x78) x79 none))]:List zm) (b:=184) t64 t66 rfl rfl rfl Zt rfl h89 rfl rfl (Nat.zero_le _) (show zT (aR 6 9 1) _=some (([(zl (zk.mk ((zd x59).fKind) ((zd x59).fRel) x74 x75 x76 x77 (some x78) x79 none))]:List zm).map zg) from by kernel_rfl) (by kernel_rfl)) (by kernel_rfl) (std 2 [(60,.ptr 2 8)] [.box (zc2 a0) false,.box zc22 false,.box [aI a0.fKind,aI a0.fRel,.pv (zh zb x1),.pv (zh zb x3),.pv (zh zb x5),.pv (zh zb x7),.pv .nils,.pv (zh zp x9),aR 3 9 ((y22++([(zl (zk.mk ((zd x59).fKind) ((zd x59).fRel) x74 x75 x76 x77 (some x78) x79 none))]:List zm)).length)] false,bR 66 9 zg (y22++([(zl (zk.mk ((zd x59).fKind) ((zd x59).fRel) x74 x75 x76 x77 (some x78) x79 none))]:List zm)) 0 0,.box (zc3 x59) false,bR 101 9 zn x78 0 (max 0 (x78.map zn).length),bR 66 9 zg ([(zl (zk.mk ((zd x59).fKind) ((zd x59).fRel) x74 x75 x76 x77 (some x78) x79 none))]:List zm) 0 0] (by kernel_rfl) (find [(2,.ptr 1 0),(3,.ptr 2 0),(48,.pv (zh zg a0.fKids)),(49,aI ((sll a0.fKids).length:Int)),(50,aI y23)] rfl (by kernel_rfl) (by kernel_rfl) (dn [(2,.ptr 1 0),(3,.ptr 2 0),(48,.pv (zh zg a0.fKids)),(49,aI ((sll a0.fKids).length:Int)),(50,aI (IntKind.wrap .i64 (y23+1)))] ?_)))
       exact ⟨_,_,Zh [(2,.ptr 1 0),(3,.ptr 2 0),(48,.pv (zh zg a0.fKids)),(49,aI ((sll a0.fKids).length:Int)),(50,aI (IntKind.wrap .i64 (y23+1)))] [.box (zc2 a0) false,.box zc22 false,.box [aI a0.fKind,aI a0.fRel,.pv (zh zb x1),.pv (zh zb x3),.pv (zh zb x5),.pv (zh zb x7),.pv .nils,.pv (zh zp x9),aR 3 9 ((y22++([(zl (zk.mk ((zd x59).fKind) ((zd x59).fRel) x74 x75 x76 x77 (some x78) x79 none))]:List zm)).length)] false,bR 66 9 zg (y22++([(zl (zk.mk ((zd x59).fKind) ((zd x59).fRel) x74 x75 x76 x77 (some x78) x79 none))]:List zm)) 0 0] (by kernel_rfl),.inr (⟨(y22++([(zl (zk.mk ((zd x59).fKind) ((zd x59).fRel) x74 x75 x76 x77 (some x78) x79 none))]:List zm)),(IntKind.wrap .i64 (y23+1)),hm,rfl,rfl⟩)⟩
      ·
       obtain ⟨vv,H1,hC,rfl,rfl⟩:=ih_plan_Copy h61
       refine dOd [(57,.agg (zc35 x59 x80 x81 x82 x83 x84 x85 x86))] [.box (zc2 a0) false,.box zc22 false,.box (zc25 a0 x1 x3 x5 x7 x9 y22) false,bR 66 9 zg y22 0 0,.box (zc3 x59) false,bR 101 9 zn x84 0 0,bR 66 9 zg x86 0 0] (aaS [] [.agg (zc3 x59)] (v':=.agg (zc35 x59 x80 x81 x82 x83 x84 x85 x86)) (bs':=[bR 101 9 zn x84 0 0,bR 66 9 zg x86 0 0]) (by kernel_rfl) (by kernel_rfl) (by kernel_rfl) hC (by simp [AV.flat,AV.flat2,AV.flat1,qP]) (by kernel_rfl) (by kernel_rfl)) (by kernel_rfl) (dOd [(58,aR 7 9 1)] [.box (zc2 a0) false,.box zc22 false,.box (zc25 a0 x1 x3 x5 x7 x9 y22) false,bR 66 9 zg y22 0 0,.box (zc3 x59) false,bR 101 9 zn x84 0 (max 0 (x84.map zn).length),bR 66 9 zg x86 0 (max 0 (x86.map zg).length),bR 66 9 zg ([(zl (zk.mk ((zd x59).fKind) ((zd x59).fRel) x80 x81 x82 x83 (some x84) x85 (some x86)))]:List zm) 0 0] (qT (nid:=0) (t:=64) (len:=1) (is:=[0]) (vs:=[.agg (zc35 x59 x80 x81 x82 x83 x84 x85 x86)]) (ps:=[.agg (zc32 x59 x80 x81 x82 x83 x84 x85 x86)]) (R:=[5,6]) (e:=⟨aR 7 9 1,[],[bR 66 9 zg ([(zl (zk.mk ((zd x59).fKind) ((zd x59).fRel) x80 x81 x82 x83 (some x84) x85 (some x86)))]:List zm) 0 0]⟩) (by kernel_rfl) (qy (aaL (zq (zw) (zq (zw) (zq (zw) (zq (zw) (zq (zw) (zq (zw) (zq (ZO (n:=x84.length) (id:=5) (l:=x84) (R:=zn) rfl rfl (Nat.zero_le _)) (zq (zw) (zq (ZO (n:=x86.length) (id:=6) (l:=x86) (R:=zg) rfl rfl (Nat.zero_le _)) (rfl)))))))))) rfl) (rfl)) (by kernel_rfl) (by kernel_rfl)) (by kernel_rfl) ?_)
       obtain ⟨_,h90,hm⟩:=bs hm
       refine dOd [(59,aR 3 9 ((y22++([(zl (zk.mk ((zd x59).fKind) ((zd x59).fRel) x80 x81 x82 x83 (some x84) x85 (some x86)))]:List zm)).length))] [.box (zc2 a0) false,.box zc22 false,.box (zc25 a0 x1 x3 x5 x7 x9 y22) false,bR 66 9 zg (y22++([(zl (zk.mk ((zd x59).fKind) ((zd x59).fRel) x80 x81 x82 x83 (some x84) x85 (some x86)))]:List zm)) 0 0,.box (zc3 x59) false,bR 101 9 zn x84 0 (max 0 (x84.map zn).length),bR 66 9 zg x86 0 (max 0 (x86.map zg).length),bR 66 9 zg ([(zl (zk.mk ((zd x59).fKind) ((zd x59).fRel) x80 x81 x82 x83 (some x84) x85 (some x86)))]:List zm) 0 0] (Z5 (u:=0) (n:=y22.length) (id:=3) zg y22 ([(zl (zk.mk ((zd x59).fKind) ((zd x59).fRel) x80 x81 x82 x83 (some x84) x85 (some x86)))]:List zm) (b:=184) t64 t66 rfl rfl rfl Zt rfl h90 rfl rfl (Nat.zero_le _) (show zT (aR 7 9 1) _=some (([(zl (zk.mk ((zd x59).fKind) ((zd x59).fRel) x80 x81 x82 x83 (some x84) x85 (some x86)))]:List zm).map zg) from by kernel_rfl) (by kernel_rfl)) (by kernel_rfl) (std 2 [(60,.ptr 2 8)] [.box (zc2 a0) false,.box zc22 false,.box [aI a0.fKind,aI a0.fRel,.pv (zh zb x1),.pv (zh zb x3),.pv (zh zb x5),.pv (zh zb x7),.pv .nils,.pv (zh zp x9),aR 3 9 ((y22++([(zl (zk.mk ((zd x59).fKind) ((zd x59).fRel) x80 x81 x82 x83 (some x84) x85 (some x86)))]:List zm)).length)] false,bR 66 9 zg (y22++([(zl (zk.mk ((zd x59).fKind) ((zd x59).fRel) x80 x81 x82 x83 (some x84) x85 (some x86)))]:List zm)) 0 0,.box (zc3 x59) false,bR 101 9 zn x84 0 (max 0 (x84.map zn).length),bR 66 9 zg x86 0 (max 0 (x86.map zg).length),bR 66 9 zg ([(zl (zk.mk ((zd x59).fKind) ((zd x59).fRel) x80 x81 x82 x83 (some x84) x85 (some x86)))]:List zm) 0 0] (by kernel_rfl) (find [(2,.ptr 1 0),(3,.ptr 2 0),(48,.pv (zh zg a0.fKids)),(49,aI ((sll a0.fKids).length:Int)),(50,aI y23)] rfl (by kernel_rfl) (by kernel_rfl) (dn [(2,.ptr 1 0),(3,.ptr 2 0),(48,.pv (zh zg a0.fKids)),(49,aI ((sll a0.fKids).length:Int)),(50,aI (IntKind.wrap .i64 (y23+1)))] ?_)))
       exact ⟨_,_,Zh [(2,.ptr 1 0),(3,.ptr 2 0),(48,.pv (zh zg a0.fKids)),(49,aI ((sll a0.fKids).length:Int)),(50,aI (IntKind.wrap .i64 (y23+1)))] [.box (zc2 a0) false,.box zc22 false,.box [aI a0.fKind,aI a0.fRel,.pv (zh zb x1),.pv (zh zb x3),.pv (zh zb x5),.pv (zh zb x7),.pv .nils,.pv (zh zp x9),aR 3 9 ((y22++([(zl (zk.mk ((zd x59).fKind) ((zd x59).fRel) x80 x81 x82 x83 (some x84) x85 (some x86)))]:List zm)).length)] false,bR 66 9 zg (y22++([(zl (zk.mk ((zd x59).fKind) ((zd x59).fRel) x80 x81 x82 x83 (some x84) x85 (some x86)))]:List zm)) 0 0] (by kernel_rfl),.inr (⟨(y22++([(zl (zk.mk ((zd x59).fKind) ((zd x59).fRel) x80 x81 x82 x83 (some x84) x85 (some x86)))]:List zm)),(IntKind.wrap .i64 (y23+1)),hm,rfl,rfl⟩)⟩
     ·
      refine c0 h58 (wp_exit ?_)
      exact .inr (⟨y22,aI y23,aB (decide (y23 < ((sll a0.fKids).length:Int))),hm,(Zk (by kernel_rfl)),rfl⟩)
   ·
    subst hk14
    obtain ⟨k94,hk94,hm⟩:=zz hm
    refine mid (fun t H=>(∃ (w91:AV) (w92:AV),k94 none=some r∧t=mk 63 [(2,.ptr 1 0),(3,.ptr 2 0),(48,.pv (zh zg a0.fKids)),(49,aI ((sll a0.fKids).length:Int)),(50,w91),(51,w92)]∧H=[.box (zc2 a0) false,.box zc22 false,.box (zc24 a0 x1 x3 x5 x7 y13 x9) false,bR 101 9 zn y13 0 0])∨(∃ (y93:(List zm)) (w91:AV) (w92:AV),k94 (some y93)=some r∧t=mk 63 [(2,.ptr 1 0),(3,.ptr 2 0),(48,.pv (zh zg a0.fKids)),(49,aI ((sll a0.fKids).length:Int)),(50,w91),(51,w92)]∧H=[.box (zc2 a0) false,.box zc22 false,.box (zc36 a0 x1 x3 x5 x7 y13 x9 y93) false,bR 101 9 zn y13 0 0,bR 66 9 zg y93 0 0])) ?_ ?_
    ·
     rintro _ _ (⟨w91,w92,hm,rfl,rfl⟩ | ⟨y93,w91,w92,hm,rfl,rfl⟩)
     ·
      subst hk94
      refine sq (det [(2,.ptr 1 0)] [.box (zc2 a0) false,.box (zc24 a0 x1 x3 x5 x7 y13 x9) false,.box (zc24 a0 x1 x3 x5 x7 y13 x9) false,bR 101 9 zn y13 0 0] (by kernel_rfl) (wp_ret ?_))
      obtain rfl:=Option.some.inj hm
      exact ⟨trivial,.agg [aI a0.fKind,aI a0.fRel,.pv (zh zb x1),.pv (zh zb x3),.pv (zh zb x5),.pv (zh zb x7),aR 0 9 y13.length,.pv (zh zp x9),.pv .nils],[bR 101 9 zn y13 0 0],by kernel_rfl,rfl,rfl⟩
     ·
      subst hk94
      refine sq (det [(2,.ptr 1 0)] [.box (zc2 a0) false,.box (zc36 a0 x1 x3 x5 x7 y13 x9 y93) false,.box (zc36 a0 x1 x3 x5 x7 y13 x9 y93) false,bR 101 9 zn y13 0 0,bR 66 9 zg y93 0 0] (by kernel_rfl) (wp_ret ?_))
      obtain rfl:=Option.some.inj hm
      exact ⟨trivial,.agg [aI a0.fKind,aI a0.fRel,.pv (zh zb x1),.pv (zh zb x3),.pv (zh zb x5),.pv (zh zb x7),aR 0 9 y13.length,.pv (zh zp x9),aR 1 9 y93.length],[bR 101 9 zn y13 0 0,bR 66 9 zg y93 0 0],by kernel_rfl,rfl,rfl⟩
    refine sq (rg (s1 2 [(48,.pv (zh zg a0.fKids)),(47,.ptr 0 8)] (dv 49 (v:=aI ((sll a0.fKids).length:Int)) (zy zg a0.fKids t64 (by kernel_rfl)) (by kernel_rfl) (fq 1 [(2,.ptr 1 0),(3,.ptr 2 0),(48,.pv (zh zg a0.fKids)),(49,aI ((sll a0.fKids).length:Int)),(50,aI 0)] (bq ?_)))))
    refine ZY (fun mm t H=>(∃ (y99:Int),zR n rc_plan_Copy a0 k94 mm none y99=some r∧t=mk 63 [(2,.ptr 1 0),(3,.ptr 2 0),(48,.pv (zh zg a0.fKids)),(49,aI ((sll a0.fKids).length:Int)),(50,aI y99)]∧H=[.box (zc2 a0) false,.box zc22 false,.box (zc24 a0 x1 x3 x5 x7 y13 x9) false,bR 101 9 zn y13 0 0])∨(∃ (y98:(List zm)) (y99:Int),zR n rc_plan_Copy a0 k94 mm (some y98) y99=some r∧t=mk 63 [(2,.ptr 1 0),(3,.ptr 2 0),(48,.pv (zh zg a0.fKids)),(49,aI ((sll a0.fKids).length:Int)),(50,aI y99)]∧H=[.box (zc2 a0) false,.box zc22 false,.box (zc36 a0 x1 x3 x5 x7 y13 x9 y98) false,bR 101 9 zn y13 0 0,bR 66 9 zg y98 0 0])) (.inl ⟨0,hm,rfl,rfl⟩) ?_ ?_
    · rintro _ _ (⟨y99,hm,_⟩ | ⟨y98,y99,hm,_⟩) <;> exact nomatch hm
    rintro m100 _ _ (⟨y99,hm,rfl,rfl⟩ | ⟨y98,y99,hm,rfl,rfl⟩)
    ·
     simp only [zR] at hm
     refine sq (dn [(2,.ptr 1 0),(3,.ptr 2 0),(48,.pv (zh zg a0.fKids)),(49,aI ((sll a0.fKids).length:Int)),(50,aI y99),(51,aB (decide (y99 < ((sll a0.fKids).length:Int))))] ?_)
     refine sq ?_
     rcases zo hm with ⟨h101,hm⟩ | ⟨h101,hm⟩
     ·
      refine c1 h101 (wp_skip (sq (bq (sq (rg ?_)))))
      obtain ⟨x102,h103,hm⟩:=bs hm
      refine dv 52 (v:=.pv (.ptr (zG (zd x102)) 0)) (Zd zg a0.fKids .i64 t64 t66 h103 (zF x102) rfl (by kernel_rfl)) (by kernel_rfl) (stf 3 [(2,.ptr 1 0),(3,.ptr 2 0),(7,.ptr 4 0),(48,.pv (zh zg a0.fKids)),(49,aI ((sll a0.fKids).length:Int)),(50,aI y99)] [.box (zc2 a0) false,.box zc22 false,.box (zc24 a0 x1 x3 x5 x7 y13 x9) false,bR 101 9 zn y13 0 0,.box (zc3 x102) false] (by kernel_rfl) (rgd (shd 3 [(56,.agg (zc3 x102)),(55,.pv .nils),(54,.ptr 2 8)] (by kernel_rfl) ?_)))
      obtain ⟨x105,h104,hm⟩:=bs hm
      rcases x105 with ⟨x106,x107,x108,x109,x110⟩ | ⟨x111,x112,x113,x114,x115,x116⟩ | ⟨x117,x118,x119,x120,x121,x122⟩ | ⟨x123,x124,x125,x126,x127,x128,x129⟩
      ·
       obtain ⟨vv,H1,hC,rfl,rfl⟩:=ih_plan_Copy h104
       refine dOd [(57,.agg (zc26 x102 x106 x107 x108 x109 x110))] [.box (zc2 a0) false,.box zc22 false,.box (zc24 a0 x1 x3 x5 x7 y13 x9) false,bR 101 9 zn y13 0 0,.box (zc3 x102) false] (aaS [] [.agg (zc3 x102)] (v':=.agg (zc26 x102 x106 x107 x108 x109 x110)) (bs':=[]) (by kernel_rfl) (by kernel_rfl) (by kernel_rfl) hC (by simp [AV.flat,AV.flat2,AV.flat1,qP]) (by kernel_rfl) (by kernel_rfl)) (by kernel_rfl) (std 1 [(58,aR 5 9 1)] [.box (zc2 a0) false,.box zc22 false,.box (zc24 a0 x1 x3 x5 x7 y13 x9) false,bR 101 9 zn y13 0 0,.box (zc3 x102) false,bR 66 9 zg ([(zl (zk.mk ((zd x102).fKind) ((zd x102).fRel) x106 x107 x108 x109 none x110 none))]:List zm) 0 0] (by kernel_rfl) ?_)
       obtain ⟨_,h130,hm⟩:=bs hm
       refine dOd [(59,aR 6 9 (([(zl (zk.mk ((zd x102).fKind) ((zd x102).fRel) x106 x107 x108 x109 none x110 none))]:List zm).length))] [.box (zc2 a0) false,.box zc22 false,.box (zc24 a0 x1 x3 x5 x7 y13 x9) false,bR 101 9 zn y13 0 0,.box (zc3 x102) false,bR 66 9 zg ([(zl (zk.mk ((zd x102).fKind) ((zd x102).fRel) x106 x107 x108 x109 none x110 none))]:List zm) 0 0,bR 66 9 zg ([(zl (zk.mk ((zd x102).fKind) ((zd x102).fRel) x106 x107 x108 x109 none x110 none))]:List zm) 0 0] (qU (u:=0) zg ([(zl (zk.mk ((zd x102).fKind) ((zd x102).fRel) x106 x107 x108 x109 none x110 none))]:List zm) (b:=184) t64 t66 rfl rfl rfl Zt rfl h130 (show zT (aR 5 9 1) _=some (([(zl (zk.mk ((zd x102).fKind) ((zd x102).fRel) x106 x107 x108 x109 none x110 none))]:List zm).map zg) from by kernel_rfl) (by kernel_rfl)) (by kernel_rfl) (std 2 [(60,.ptr 2 8)] [.box (zc2 a0) false,.box zc22 false,.box [aI a0.fKind,aI a0.fRel,.pv (zh zb x1),.pv (zh zb x3),.pv (zh zb x5),.pv (zh zb x7),aR 3 9 y13.length,.pv (zh zp x9),aR 6 9 (([(zl (zk.mk ((zd x102).fKind) ((zd x102).fRel) x106 x107 x108 x109 none x110 none))]:List zm).length)] false,bR 101 9 zn y13 0 0,.box (zc3 x102) false,bR 66 9 zg ([(zl (zk.mk ((zd x102).fKind) ((zd x102).fRel) x106 x107 x108 x109 none x110 none))]:List zm) 0 0,bR 66 9 zg ([(zl (zk.mk ((zd x102).fKind) ((zd x102).fRel) x106 x107 x108 x109 none x110 none))]:List zm) 0 0] (by kernel_rfl) (find [(2,.ptr 1 0),(3,.ptr 2 0),(48,.pv (zh zg a0.fKids)),(49,aI ((sll a0.fKids).length:Int)),(50,aI y99)] rfl (by kernel_rfl) (by kernel_rfl) (dn [(2,.ptr 1 0),(3,.ptr 2 0),(48,.pv (zh zg a0.fKids)),(49,aI ((sll a0.fKids).length:Int)),(50,aI (IntKind.wrap .i64 (y99+1)))] ?_)))
       exact ⟨_,_,Zh [(2,.ptr 1 0),(3,.ptr 2 0),(48,.pv (zh zg a0.fKids)),(49,aI ((sll a0.fKids).length:Int)),(50,aI (IntKind.wrap .i64 (y99+1)))] [.box (zc2 a0) false,.box zc22 false,.box [aI a0.fKind,aI a0.fRel,.pv (zh zb x1),.pv (zh zb x3),.pv (zh zb x5),.pv (zh zb x7),aR 3 9 y13.length,.pv (zh zp x9),aR 4 9 (([(zl (zk.mk ((zd x102).fKind) ((zd x102).fRel) x106 x107 x108 x109 none x110 none))]:List zm).length)] false,bR 101 9 zn y13 0 0,bR 66 9 zg ([(zl (zk.mk ((zd x102).fKind) ((zd x102).fRel) x106 x107 x108 x109 none x110 none))]:List zm) 0 0] (by kernel_rfl),.inr (⟨([(zl (zk.mk ((zd x102).fKind) ((zd x102).fRel) x106 x107 x108 x109 none x110 none))]:List zm),(IntKind.wrap .i64 (y99+1)),hm,rfl,rfl⟩)⟩
      ·
       obtain ⟨vv,H1,hC,rfl,rfl⟩:=ih_plan_Copy h104
       refine dOd [(57,.agg (zc33 x102 x111 x112 x113 x114 x115 x116))] [.box (zc2 a0) false,.box zc22 false,.box (zc24 a0 x1 x3 x5 x7 y13 x9) false,bR 101 9 zn y13 0 0,.box (zc3 x102) false,bR 66 9 zg x116 0 0] (aaS [] [.agg (zc3 x102)] (v':=.agg (zc33 x102 x111 x112 x113 x114 x115 x116)) (bs':=[bR 66 9 zg x116 0 0]) (by kernel_rfl) (by kernel_rfl) (by kernel_rfl) hC (by simp [AV.flat,AV.flat2,AV.flat1,qP]) (by kernel_rfl) (by kernel_rfl)) (by kernel_rfl) (dOd [(58,aR 6 9 1)] [.box (zc2 a0) false,.box zc22 false,.box (zc24 a0 x1 x3 x5 x7 y13 x9) false,bR 101 9 zn y13 0 0,.box (zc3 x102) false,bR 66 9 zg x116 0 (max 0 (x116.map zg).length),bR 66 9 zg ([(zl (zk.mk ((zd x102).fKind) ((zd x102).fRel) x111 x112 x113 x114 none x115 (some x116)))]:List zm) 0 0] (qT (nid:=0) (t:=64) (len:=1) (is:=[0]) (vs:=[.agg (zc33 x102 x111 x112 x113 x114 x115 x116)]) (ps:=[.agg (zc28 x102 x111 x112 x113 x114 x115 x116)]) (R:=[5]) (e:=⟨aR 6 9 1,[],[bR 66 9 zg ([(zl (zk.mk ((zd x102).fKind) ((zd x102).fRel) x111 x112 x113 x114 none x115 (some x116)))]:List zm) 0 0]⟩) (by kernel_rfl) (qy (aaL (zq (zw) (zq (zw) (zq (zw) (zq (zw) (zq (zw) (zq (zw) (zq (zw) (zq (zw) (zq (ZO (n:=x116.length) (id:=5) (l:=x116) (R:=zg) rfl rfl (Nat.zero_le _)) (rfl)))))))))) rfl) (rfl)) (by kernel_rfl) (by kernel_rfl)) (by kernel_rfl) ?_)
       obtain ⟨_,h131,hm⟩:=bs hm
       refine dOd [(59,aR 7 9 (([(zl (zk.mk ((zd x102).fKind) ((zd x102).fRel) x111 x112 x113 x114 none x115 (some x116)))]:List zm).length))] [.box (zc2 a0) false,.box zc22 false,.box (zc24 a0 x1 x3 x5 x7 y13 x9) false,bR 101 9 zn y13 0 0,.box (zc3 x102) false,bR 66 9 zg x116 0 (max 0 (x116.map zg).length),bR 66 9 zg ([(zl (zk.mk ((zd x102).fKind) ((zd x102).fRel) x111 x112 x113 x114 none x115 (some x116)))]:List zm) 0 0,bR 66 9 zg ([(zl (zk.mk ((zd x102).fKind) ((zd x102).fRel) x111 x112 x113 x114 none x115 (some x116)))]:List zm) 0 0] (qU (u:=0) zg ([(zl (zk.mk ((zd x102).fKind) ((zd x102).fRel) x111 x112 x113 x114 none x115 (some x116)))]:List zm) (b:=184) t64 t66 rfl rfl rfl Zt rfl h131 (show zT (aR 6 9 1) _=some (([(zl (zk.mk ((zd x102).fKind) ((zd x102).fRel) x111 x112 x113 x114 none x115 (some x116)))]:List zm).map zg) from by kernel_rfl) (by kernel_rfl)) (by kernel_rfl) (std 2 [(60,.ptr 2 8)] [.box (zc2 a0) false,.box zc22 false,.box [aI a0.fKind,aI a0.fRel,.pv (zh zb x1),.pv (zh zb x3),.pv (zh zb x5),.pv (zh zb x7),aR 3 9 y13.length,.pv (zh zp x9),aR 7 9 (([(zl (zk.mk ((zd x102).fKind) ((zd x102).fRel) x111 x112 x113 x114 none x115 (some x116)))]:List zm).length)] false,bR 101 9 zn y13 0 0,.box (zc3 x102) false,bR 66 9 zg x116 0 (max 0 (x116.map zg).length),bR 66 9 zg ([(zl (zk.mk ((zd x102).fKind) ((zd x102).fRel) x111 x112 x113 x114 none x115 (some x116)))]:List zm) 0 0,bR 66 9 zg ([(zl (zk.mk ((zd x102).fKind) ((zd x102).fRel) x111 x112 x113 x114 none x115 (some x116)))]:List zm) 0 0] (by kernel_rfl) (find [(2,.ptr 1 0),(3,.ptr 2 0),(48,.pv (zh zg a0.fKids)),(49,aI ((sll a0.fKids).length:Int)),(50,aI y99)] rfl (by kernel_rfl) (by kernel_rfl) (dn [(2,.ptr 1 0),(3,.ptr 2 0),(48,.pv (zh zg a0.fKids)),(49,aI ((sll a0.fKids).length:Int)),(50,aI (IntKind.wrap .i64 (y99+1)))] ?_)))
       exact ⟨_,_,Zh [(2,.ptr 1 0),(3,.ptr 2 0),(48,.pv (zh zg a0.fKids)),(49,aI ((sll a0.fKids).length:Int)),(50,aI (IntKind.wrap .i64 (y99+1)))] [.box (zc2 a0) false,.box zc22 false,.box [aI a0.fKind,aI a0.fRel,.pv (zh zb x1),.pv (zh zb x3),.pv (zh zb x5),.pv (zh zb x7),aR 3 9 y13.length,.pv (zh zp x9),aR 4 9 (([(zl (zk.mk ((zd x102).fKind) ((zd x102).fRel) x111 x112 x113 x114 none x115 (some x116)))]:List zm).length)] false,bR 101 9 zn y13 0 0,bR 66 9 zg ([(zl (zk.mk ((zd x102).fKind) ((zd x102).fRel) x111 x112 x113 x114 none x115 (some x116)))]:List zm) 0 0] (by kernel_rfl),.inr (⟨([(zl (zk.mk ((zd x102).fKind) ((zd x102).fRel) x111 x112 x113 x114 none x115 (some x116)))]:List zm),(IntKind.wrap .i64 (y99+1)),hm,rfl,rfl⟩)⟩
      ·
       obtain ⟨vv,H1,hC,rfl,rfl⟩:=ih_plan_Copy h104
       refine dOd [(57,.agg (zc34 x102 x117 x118 x119 x120 x121 x122))] [.box (zc2 a0) false,.box zc22 false,.box (zc24 a0 x1 x3 x5 x7 y13 x9) false,bR 101 9 zn y13 0 0,.box (zc3 x102) false,bR 101 9 zn x121 0 0] (aaS [] [.agg (zc3 x102)] (v':=.agg (zc34 x102 x117 x118 x119 x120 x121 x122)) (bs':=[bR 101 9 zn x121 0 0]) (by kernel_rfl) (by kernel_rfl) (by kernel_rfl) hC (by simp [AV.flat,AV.flat2,AV.flat1,qP]) (by kernel_rfl) (by kernel_rfl)) (by kernel_rfl) (dOd [(58,aR 6 9 1)] [.box (zc2 a0) false,.box zc22 false,.box (zc24 a0 x1 x3 x5 x7 y13 x9) false,bR 101 9 zn y13 0 0,.box (zc3 x102) false,bR 101 9 zn x121 0 (max 0 (x121.map zn).length),bR 66 9 zg ([(zl (zk.mk ((zd x102).fKind) ((zd x102).fRel) x117 x118 x119 x120 (some x121) x122 none))]:List zm) 0 0] (qT (nid:=0) (t:=64) (len:=1) (is:=[0]) (vs:=[.agg (zc34 x102 x117 x118 x119 x120 x121 x122)]) (ps:=[.agg (zc30 x102 x117 x118 x119 x120 x121 x122)]) (R:=[5]) (e:=⟨aR 6 9 1,[],[bR 66 9 zg ([(zl (zk.mk ((zd x102).fKind) ((zd x102).fRel) x117 x118 x119 x120 (some x121) x122 none))]:List zm) 0 0]⟩) (by kernel_rfl) (qy (aaL (zq (zw) (zq (zw) (zq (zw) (zq (zw) (zq (zw) (zq (zw) (zq (ZO (n:=x121.length) (id:=5) (l:=x121) (R:=zn) rfl rfl (Nat.zero_le _)) (zq (zw) (zq (zw) (rfl)))))))))) rfl) (rfl)) (by kernel_rfl) (by kernel_rfl)) (by kernel_rfl) ?_)
       obtain ⟨_,h132,hm⟩:=bs hm
       refine dOd [(59,aR 7 9 (([(zl (zk.mk ((zd x102).fKind) ((zd x102).fRel) x117 x118 x119 x120 (some x121) x122 none))]:List zm).length))] [.box (zc2 a0) false,.box zc22 false,.box (zc24 a0 x1 x3 x5 x7 y13 x9) false,bR 101 9 zn y13 0 0,.box (zc3 x102) false,bR 101 9 zn x121 0 (max 0 (x121.map zn).length),bR 66 9 zg ([(zl (zk.mk ((zd x102).fKind) ((zd x102).fRel) x117 x118 x119 x120 (some x121) x122 none))]:List zm) 0 0,bR 66 9 zg ([(zl (zk.mk ((zd x102).fKind) ((zd x102).fRel) x117 x118 x119 x120 (some x121) x122 none))]:List zm) 0 0] (qU (u:=0) zg ([(zl (zk.mk ((zd x102).fKind) ((zd x102).fRel) x117 x118 x119 x120 (some x121) x122 none))]:List zm) (b:=184) t64 t66 rfl rfl rfl Zt rfl h132 (show zT (aR 6 9 1) _=some (([(zl (zk.mk ((zd x102).fKind) ((zd x102).fRel) x117 x118 x119 x120 (some x121) x122 none))]:List zm).map zg) from by kernel_rfl) (by kernel_rfl)) (by kernel_rfl) (std 2 [(60,.ptr 2 8)] [.box (zc2 a0) false,.box zc22 false,.box [aI a0.fKind,aI a0.fRel,.pv (zh zb x1),.pv (zh zb x3),.pv (zh zb x5),.pv (zh zb x7),aR 3 9 y13.length,.pv (zh zp x9),aR 7 9 (([(zl (zk.mk ((zd x102).fKind) ((zd x102).fRel) x117 x118 x119 x120 (some x121) x122 none))]:List zm).length)] false,bR 101 9 zn y13 0 0,.box (zc3 x102) false,bR 101 9 zn x121 0 (max 0 (x121.map zn).length),bR 66 9 zg ([(zl (zk.mk ((zd x102).fKind) ((zd x102).fRel) x117 x118 x119 x120 (some x121) x122 none))]:List zm) 0 0,bR 66 9 zg ([(zl (zk.mk ((zd x102).fKind) ((zd x102).fRel) x117 x118 x119 x120 (some x121) x122 none))]:List zm) 0 0] (by kernel_rfl) (find [(2,.ptr 1 0),(3,.ptr 2 0),(48,.pv (zh zg a0.fKids)),(49,aI ((sll a0.fKids).length:Int)),(50,aI y99)] rfl (by kernel_rfl) (by kernel_rfl) (dn [(2,.ptr 1 0),(3,.ptr 2 0),(48,.pv (zh zg a0.fKids)),(49,aI ((sll a0.fKids).length:Int)),(50,aI (IntKind.wrap .i64 (y99+1)))] ?_)))
       exact ⟨_,_,Zh [(2,.ptr 1 0),(3,.ptr 2 0),(48,.pv (zh zg a0.fKids)),(49,aI ((sll a0.fKids).length:Int)),(50,aI (IntKind.wrap .i64 (y99+1)))] [.box (zc2 a0) false,.box zc22 false,.box [aI a0.fKind,aI a0.fRel,.pv (zh zb x1),.pv (zh zb x3),.pv (zh zb x5),.pv (zh zb x7),aR 3 9 y13.length,.pv (zh zp x9),aR 4 9 (([(zl (zk.mk ((zd x102).fKind) ((zd x102).fRel) x117 x118 x119 x120 (some x121) x122 none))]:List zm).length)] false,bR 101 9 zn y13 0 0,bR 66 9 zg ([(zl (zk.mk ((zd x102).fKind) ((zd x102).fRel) x117 x118 x119 x120 (some x121) x122 none))]:List zm) 0 0] (by kernel_rfl),.inr (⟨([(zl (zk.mk ((zd x102).fKind) ((zd x102).fRel) x117 x118 x119 x120 (some x121) x122 none))]:List zm),(IntKind.wrap .i64 (y99+1)),hm,rfl,rfl⟩)⟩
      ·
       obtain ⟨vv,H1,hC,rfl,rfl⟩:=ih_plan_Copy h104
       refine dOd [(57,.agg (zc35 x102 x123 x124 x125 x126 x127 x128 x129))] [.box (zc2 a0) false,.box zc22 false,.box (zc24 a0 x1 x3 x5 x7 y13 x9) false,bR 101 9 zn y13 0 0,.box (zc3 x102) false,bR 101 9 zn x127 0 0,bR 66 9 zg x129 0 0] (aaS [] [.agg (zc3 x102)] (v':=.agg (zc35 x102 x123 x124 x125 x126 x127 x128 x129)) (bs':=[bR 101 9 zn x127 0 0,bR 66 9 zg x129 0 0]) (by kernel_rfl) (by kernel_rfl) (by kernel_rfl) hC (by simp [AV.flat,AV.flat2,AV.flat1,qP]) (by kernel_rfl) (by kernel_rfl)) (by kernel_rfl) (dOd [(58,aR 7 9 1)] [.box (zc2 a0) false,.box zc22 false,.box (zc24 a0 x1 x3 x5 x7 y13 x9) false,bR 101 9 zn y13 0 0,.box (zc3 x102) false,bR 101 9 zn x127 0 (max 0 (x127.map zn).length),bR 66 9 zg x129 0 (max 0 (x129.map zg).length),bR 66 9 zg ([(zl (zk.mk ((zd x102).fKind) ((zd x102).fRel) x123 x124 x125 x126 (some x127) x128 (some x129)))]:List zm) 0 0] (qT (nid:=0) (t:=64) (len:=1) (is:=[0]) (vs:=[.agg (zc35 x102 x123 x124 x125 x126 x127 x128 x129)]) (ps:=[.agg (zc32 x102 x123 x124 x125 x126 x127 x128 x129)]) (R:=[5,6]) (e:=⟨aR 7 9 1,[],[bR 66 9 zg ([(zl (zk.mk ((zd x102).fKind) ((zd x102).fRel) x123 x124 x125 x126 (some x127) x128 (some x129)))]:List zm) 0 0]⟩) (by kernel_rfl) (qy (aaL (zq (zw) (zq (zw) (zq (zw) (zq (zw) (zq (zw) (zq (zw) (zq (ZO (n:=x127.length) (id:=5) (l:=x127) (R:=zn) rfl rfl (Nat.zero_le _)) (zq (zw) (zq (ZO (n:=x129.length) (id:=6) (l:=x129) (R:=zg) rfl rfl (Nat.zero_le _)) (rfl)))))))))) rfl) (rfl)) (by kernel_rfl) (by kernel_rfl)) (by kernel_rfl) ?_)
       obtain ⟨_,h133,hm⟩:=bs hm
       refine dOd [(59,aR 8 9 (([(zl (zk.mk ((zd x102).fKind) ((zd x102).fRel) x123 x124 x125 x126 (some x127) x128 (some x129)))]:List zm).length))] [.box (zc2 a0) false,.box zc22 false,.box (zc24 a0 x1 x3 x5 x7 y13 x9) false,bR 101 9 zn y13 0 0,.box (zc3 x102) false,bR 101 9 zn x127 0 (max 0 (x127.map zn).length),bR 66 9 zg x129 0 (max 0 (x129.map zg).length),bR 66 9 zg ([(zl (zk.mk ((zd x102).fKind) ((zd x102).fRel) x123 x124 x125 x126 (some x127) x128 (some x129)))]:List zm) 0 0,bR 66 9 zg ([(zl (zk.mk ((zd x102).fKind) ((zd x102).fRel) x123 x124 x125 x126 (some x127) x128 (some x129)))]:List zm) 0 0] (qU (u:=0) zg ([(zl (zk.mk ((zd x102).fKind) ((zd x102).fRel) x123 x124 x125 x126 (some x127) x128 (some x129)))]:List zm) (b:=184) t64 t66 rfl rfl rfl Zt rfl h133 (show zT (aR 7 9 1) _=some (([(zl (zk.mk ((zd x102).fKind) ((zd x102).fRel) x123 x124 x125 x126 (some x127) x128 (some x129)))]:List zm).map zg) from by kernel_rfl) (by kernel_rfl)) (by kernel_rfl) (std 2 [(60,.ptr 2 8)] [.box (zc2 a0) false,.box zc22 false,.box [aI a0.fKind,aI a0.fRel,.pv (zh zb x1),.pv (zh zb x3),.pv (zh zb x5),.pv (zh zb x7),aR 3 9 y13.length,.pv (zh zp x9),aR 8 9 (([(zl (zk.mk ((zd x102).fKind) ((zd x102).fRel) x123 x124 x125 x126 (some x127) x128 (some x129)))]:List zm).length)] false,bR 101 9 zn y13 0 0,.box (zc3 x102) false,bR 101 9 zn x127 0 (max 0 (x127.map zn).length),bR 66 9 zg x129 0 (max 0 (x129.map zg).length),bR 66 9 zg ([(zl (zk.mk ((zd x102).fKind) ((zd x102).fRel) x123 x124 x125 x126 (some x127) x128 (some x129)))]:List zm) 0 0,bR 66 9 zg ([(zl (zk.mk ((zd x102).fKind) ((zd x102).fRel) x123 x124 x125 x126 (some x127) x128 (some x129)))]:List zm) 0 0] (by kernel_rfl) (find [(2,.ptr 1 0),(3,.ptr 2 0),(48,.pv (zh zg a0.fKids)),(49,aI ((sll a0.fKids).length:Int)),(50,aI y99)] rfl (by kernel_rfl) (by kernel_rfl) (dn [(2,.ptr 1 0),(3,.ptr 2 0),(48,.pv (zh zg a0.fKids)),(49,aI ((sll a0.fKids).length:Int)),(50,aI (IntKind.wrap .i64 (y99+1)))] ?_)))
       exact ⟨_,_,Zh [(2,.ptr 1 0),(3,.ptr 2 0),(48,.pv (zh zg a0.fKids)),(49,aI ((sll a0.fKids).length:Int)),(50,aI (IntKind.wrap .i64 (y99+1)))] [.box (zc2 a0) false,.box zc22 false,.box [aI a0.fKind,aI a0.fRel,.pv (zh zb x1),.pv (zh zb x3),.pv (zh zb x5),.pv (zh zb x7),aR 3 9 y13.length,.pv (zh zp x9),aR 4 9 (([(zl (zk.mk ((zd x102).fKind) ((zd x102).fRel) x123 x124 x125 x126 (some x127) x128 (some x129)))]:List zm).length)] false,bR 101 9 zn y13 0 0,bR 66 9 zg ([(zl (zk.mk ((zd x102).fKind) ((zd x102).fRel) x123 x124 x125 x126 (some x127) x128 (some x129)))]:List zm) 0 0] (by kernel_rfl),.inr (⟨([(zl (zk.mk ((zd x102).fKind) ((zd x102).fRel) x123 x124 x125 x126 (some x127) x128 (some x129)))]:List zm),(IntKind.wrap .i64 (y99+1)),hm,rfl,rfl⟩)⟩
     ·
      refine c0 h101 (wp_exit ?_)
      exact .inl ⟨aI y99,aB (decide (y99 < ((sll a0.fKids).length:Int))),hm,(Zk (by kernel_rfl)),rfl⟩
    ·
     simp only [zR] at hm
     refine sq (dn [(2,.ptr 1 0),(3,.ptr 2 0),(48,.pv (zh zg a0.fKids)),(49,aI ((sll a0.fKids).length:Int)),(50,aI y99),(51,aB (decide (y99 < ((sll a0.fKids).length:Int))))] ?_)
     refine sq ?_
     rcases zo hm with ⟨h134,hm⟩ | ⟨h134,hm⟩
     ·
      refine c1 h134 (wp_skip (sq (bq (sq (rg ?_)))))
      obtain ⟨x135,h136,hm⟩:=bs hm
      refine dv 52 (v:=.pv (.ptr (zG (zd x135)) 0)) (Zd zg a0.fKids .i64 t64 t66 h136 (zF x135) rfl (by kernel_rfl)) (by kernel_rfl) (stf 3 [(2,.ptr 1 0),(3,.ptr 2 0),(7,.ptr 5 0),(48,.pv (zh zg a0.fKids)),(49,aI ((sll a0.fKids).length:Int)),(50,aI y99)] [.box (zc2 a0) false,.box zc22 false,.box (zc36 a0 x1 x3 x5 x7 y13 x9 y98) false,bR 101 9 zn y13 0 0,bR 66 9 zg y98 0 0,.box (zc3 x135) false] (by kernel_rfl) (rgd (shd 3 [(56,.agg (zc3 x135)),(55,aR 4 9 y98.length),(54,.ptr 2 8)] (by kernel_rfl) ?_)))
      obtain ⟨x138,h137,hm⟩:=bs hm
      rcases x138 with ⟨x139,x140,x141,x142,x143⟩ | ⟨x144,x145,x146,x147,x148,x149⟩ | ⟨x150,x151,x152,x153,x154,x155⟩ | ⟨x156,x157,x158,x159,x160,x161,x162⟩
      ·
       obtain ⟨vv,H1,hC,rfl,rfl⟩:=ih_plan_Copy h137
       refine dOd [(57,.agg (zc26 x135 x139 x140 x141 x142 x143))] [.box (zc2 a0) false,.box zc22 false,.box (zc36 a0 x1 x3 x5 x7 y13 x9 y98) false,bR 101 9 zn y13 0 0,bR 66 9 zg y98 0 0,.box (zc3 x135) false] (aaS [] [.agg (zc3 x135)] (v':=.agg (zc26 x135 x139 x140 x141 x142 x143)) (bs':=[]) (by kernel_rfl) (by kernel_rfl) (by kernel_rfl) hC (by simp [AV.flat,AV.flat2,AV.flat1,qP]) (by kernel_rfl) (by kernel_rfl)) (by kernel_rfl) (std 1 [(58,aR 6 9 1)] [.box (zc2 a0) false,.box zc22 false,.box (zc36 a0 x1 x3 x5 x7 y13 x9 y98) false,bR 101 9 zn y13 0 0,bR 66 9 zg y98 0 0,.box (zc3 x135) false,bR 66 9 zg ([(zl (zk.mk ((zd x135).fKind) ((zd x135).fRel) x139 x140 x141 x142 none x143 none))]:List zm) 0 0] (by kernel_rfl) ?_)
       obtain ⟨_,h163,hm⟩:=bs hm
       refine dOd [(59,aR 4 9 ((y98++([(zl (zk.mk ((zd x135).fKind) ((zd x135).fRel) x139 x140 x141 x142 none x143 none))]:List zm)).length))] [.box (zc2 a0) false,.box zc22 false,.box (zc36 a0 x1 x3 x5 x7 y13 x9 y98) false,bR 101 9 zn y13 0 0,bR 66 9 zg (y98++([(zl (zk.mk ((zd x135).fKind) ((zd x135).fRel) x139 x140 x141 x142 none x143 none))]:List zm)) 0 0,.box (zc3 x135) false,bR 66 9 zg ([(zl (zk.mk ((zd x135).fKind) ((zd x135).fRel) x139 x140 x141 x142 none x143 none))]:List zm) 0 0] (Z5 (u:=0) (n:=y98.length) (id:=4) zg y98 ([(zl (zk.mk ((zd x135).fKind) ((zd x135).fRel) x139 x140 x141 x142 none x143 none))]:List zm) (b:=184) t64 t66 rfl rfl rfl Zt rfl h163 rfl rfl (Nat.zero_le _) (show zT (aR 6 9 1) _=some (([(zl (zk.mk ((zd x135).fKind) ((zd x135).fRel) x139 x140 x141 x142 none x143 none))]:List zm).map zg) from by kernel_rfl) (by kernel_rfl)) (by kernel_rfl) (std 2 [(60,.ptr 2 8)] [.box (zc2 a0) false,.box zc22 false,.box [aI a0.fKind,aI a0.fRel,.pv (zh zb x1),.pv (zh zb x3),.pv (zh zb x5),.pv (zh zb x7),aR 3 9 y13.length,.pv (zh zp x9),aR 4 9 ((y98++([(zl (zk.mk ((zd x135).fKind) ((zd x135).fRel) x139 x140 x141 x142 none x143 none))]:List zm)).length)] false,bR 101 9 zn y13 0 0,bR 66 9 zg (y98++([(zl (zk.mk ((zd x135).fKind) ((zd x135).fRel) x139 x140 x141 x142 none x143 none))]:List zm)) 0 0,.box (zc3 x135) false,bR 66 9 zg ([(zl (zk.mk ((zd x135).fKind) ((zd x135).fRel) x139 x140 x141 x142 none x143 none))]:List zm) 0 0] (by kernel_rfl) (find [(2,.ptr 1 0),(3,.ptr 2 0),(48,.pv (zh zg a0.fKids)),(49,aI ((sll a0.fKids).length:Int)),(50,aI y99)] rfl (by kernel_rfl) (by kernel_rfl) (dn [(2,.ptr 1 0),(3,.ptr 2 0),(48,.pv (zh zg a0.fKids)),(49,aI ((sll a0.fKids).length:Int)),(50,aI (IntKind.wrap .i64 (y99+1)))] ?_)))
       exact ⟨_,_,Zh [(2,.ptr 1 0),(3,.ptr 2 0),(48,.pv (zh zg a0.fKids)),(49,aI ((sll a0.fKids).length:Int)),(50,aI (IntKind.wrap .i64 (y99+1)))] [.box (zc2 a0) false,.box zc22 false,.box [aI a0.fKind,aI a0.fRel,.pv (zh zb x1),.pv (zh zb x3),.pv (zh zb x5),.pv (zh zb x7),aR 3 9 y13.length,.pv (zh zp x9),aR 4 9 ((y98++([(zl (zk.mk ((zd x135).fKind) ((zd x135).fRel) x139 x140 x141 x142 none x143 none))]:List zm)).length)] false,bR 101 9 zn y13 0 0,bR 66 9 zg (y98++([(zl (zk.mk ((zd x135).fKind) ((zd x135).fRel) x139 x140 x141 x142 none x143 none))]:List zm)) 0 0] (by kernel_rfl),.inr (⟨(y98++([(zl (zk.mk ((zd x135).fKind) ((zd x135).fRel) x139 x140 x141 x142 none x143 none))]:List zm)),(IntKind.wrap .i64 (y99+1)),hm,rfl,rfl⟩)⟩
      ·
       obtain ⟨vv,H1,hC,rfl,rfl⟩:=ih_plan_Copy h137
       refine dOd [(57,.agg (zc37 x135 x144 x145 x146 x147 x148 x149))] [.box (zc2 a0) false,.box zc22 false,.box (zc36 a0 x1 x3 x5 x7 y13 x9 y98) false,bR 101 9 zn y13 0 0,bR 66 9 zg y98 0 0,.box (zc3 x135) false,bR 66 9 zg x149 0 0] (aaS [] [.agg (zc3 x135)] (v':=.agg (zc37 x135 x144 x145 x146 x147 x148 x149)) (bs':=[bR 66 9 zg x149 0 0]) (by kernel_rfl) (by kernel_rfl) (by kernel_rfl) hC (by simp [AV.flat,AV.flat2,AV.flat1,qP]) (by kernel_rfl) (by kernel_rfl)) (by kernel_rfl) (dOd [(58,aR 7 9 1)] [.box (zc2 a0) false,.box zc22 false,.box (zc36 a0 x1 x3 x5 x7 y13 x9 y98) false,bR 101 9 zn y13 0 0,bR 66 9 zg y98 0 0,.box (zc3 x135) false,bR 66 9 zg x149 0 (max 0 (x149.map zg).length),bR 66 9 zg ([(zl (zk.mk ((zd x135).fKind) ((zd x135).fRel) x144 x145 x146 x147 none x148 (some x149)))]:List zm) 0 0] (qT (nid:=0) (t:=64) (len:=1) (is:=[0]) (vs:=[.agg (zc37 x135 x144 x145 x146 x147 x148 x149)]) (ps:=[.agg (zc28 x135 x144 x145 x146 x147 x148 x149)]) (R:=[6]) (e:=⟨aR 7 9 1,[],[bR 66 9 zg ([(zl (zk.mk ((zd x135).fKind) ((zd x135).fRel) x144 x145 x146 x147 none x148 (some x149)))]:List zm) 0 0]⟩) (by kernel_rfl) (qy (aaL (zq (zw) (zq (zw) (zq (zw) (zq (zw) (zq (zw) (zq (zw) (zq (zw) (zq (zw) (zq (ZO (n:=x149.length) (id:=6) (l:=x149) (R:=zg) rfl rfl (Nat.zero_le _)) (rfl)))))))))) rfl) (rfl)) (by kernel_rfl) (by kernel_rfl)) (by kernel_rfl) ?_)
       obtain ⟨_,h164,hm⟩:=bs hm
       refine dOd [(59,aR 4 9 ((y98++([(zl (zk.mk ((zd x135).fKind) ((zd x135).fRel) x144 x145 x146 x147 none x148 (some x149)))]:List zm)).length))] [.box (zc2 a0) false,.box zc22 false,.box (zc36 a0 x1 x3 x5 x7 y13 x9 y98) false,bR 101 9 zn y13 0 0,bR 66 9 zg (y98++([(zl (zk.mk ((zd x135).fKind) ((zd x135).fRel) x144 x145 x146 x147 none x148 (some x149)))]:List zm)) 0 0,.box (zc3 x135) false,bR 66 9 zg x149 0 (max 0 (x149.map zg).length),bR 66 9 zg ([(zl (zk.mk ((zd x135).fKind) ((zd x135).fRel) x144 x145 x146 x147 none x148 (some x149)))]:List zm) 0 0] (Z5 (u:=0) (n:=y98.length) (id:=4) zg y98 ([(zl (zk.mk ((zd x135).fKind) ((zd x135).fRel) x144 x145 x146 x147 none x148 (some x149)))]:List zm) (b:=184) t64 t66 rfl rfl rfl Zt rfl h164 rfl rfl (Nat.zero_le _) (show zT (aR 7 9 1) _=some (([(zl (zk.mk ((zd x135).fKind) ((zd x135).fRel) x144 x145 x146 x147 none x148 (some x149)))]:List zm).map zg) from by kernel_rfl) (by kernel_rfl)) (by kernel_rfl) (std 2 [(60,.ptr 2 8)] [.box (zc2 a0) false,.box zc22 false,.box [aI a0.fKind,aI a0.fRel,.pv (zh zb x1),.pv (zh zb x3),.pv (zh zb x5),.pv (zh zb x7),aR 3 9 y13.length,.pv (zh zp x9),aR 4 9 ((y98++([(zl (zk.mk ((zd x135).fKind) ((zd x135).fRel) x144 x145 x146 x147 none x148 (some x149)))]:List zm)).length)] false,bR 101 9 zn y13 0 0,bR 66 9 zg (y98++([(zl (zk.mk ((zd x135).fKind) ((zd x135).fRel) x144 x145 x146 x147 none x148 (some x149)))]:List zm)) 0 0,.box (zc3 x135) false,bR 66 9 zg x149 0 (max 0 (x149.map zg).length),bR 66 9 zg ([(zl (zk.mk ((zd x135).fKind) ((zd x135).fRel) x144 x145 x146 x147 none x148 (some x149)))]:List zm) 0 0] (by kernel_rfl) (find [(2,.ptr 1 0),(3,.ptr 2 0),(48,.pv (zh zg a0.fKids)),(49,aI ((sll a0.fKids).length:Int)),(50,aI y99)] rfl (by kernel_rfl) (by kernel_rfl) (dn [(2,.ptr 1 0),(3,.ptr 2 0),(48,.pv (zh zg a0.fKids)),(49,aI ((sll a0.fKids).length:Int)),(50,aI (IntKind.wrap .i64 (y99+1)))] ?_)))
       exact ⟨_,_,Zh [(2,.ptr 1 0),(3,.ptr 2 0),(48,.pv (zh zg a0.fKids)),(49,aI ((sll a0.fKids).length:Int)),(50,aI (IntKind.wrap .i64 (y99+1)))] [.box (zc2 a0) false,.box zc22 false,.box [aI a0.fKind,aI a0.fRel,.pv (zh zb x1),.pv (zh zb x3),.pv (zh zb x5),.pv (zh zb x7),aR 3 9 y13.length,.pv (zh zp x9),aR 4 9 ((y98++([(zl (zk.mk ((zd x135).fKind) ((zd x135).fRel) x144 x145 x146 x147 none x148 (some x149)))]:List zm)).length)] false,bR 101 9 zn y13 0 0,bR 66 9 zg (y98++([(zl (zk.mk ((zd x135).fKind) ((zd x135).fRel) x144 x145 x146 x147 none x148 (some x149)))]:List zm)) 0 0] (by kernel_rfl),.inr (⟨(y98++([(zl (zk.mk ((zd x135).fKind) ((zd x135).fRel) x144 x145 x146 x147 none x148 (some x149)))]:List zm)),(IntKind.wrap .i64 (y99+1)),hm,rfl,rfl⟩)⟩
      ·
       obtain ⟨vv,H1,hC,rfl,rfl⟩:=ih_plan_Copy h137
       refine dOd [(57,.agg (zc38 x135 x150 x151 x152 x153 x154 x155))] [.box (zc2 a0) false,.box zc22 false,.box (zc36 a0 x1 x3 x5 x7 y13 x9 y98) false,bR 101 9 zn y13 0 0,bR 66 9 zg y98 0 0,.box (zc3 x135) false,bR 101 9 zn x154 0 0] (aaS [] [.agg (zc3 x135)] (v':=.agg (zc38 x135 x150 x151 x152 x153 x154 x155)) (bs':=[bR 101 9 zn x154 0 0]) (by kernel_rfl) (by kernel_rfl) (by kernel_rfl) hC (by simp [AV.flat,AV.flat2,AV.flat1,qP]) (by kernel_rfl) (by kernel_rfl)) (by kernel_rfl) (dOd [(58,aR 7 9 1)] [.box (zc2 a0) false,.box zc22 false,.box (zc36 a0 x1 x3 x5 x7 y13 x9 y98) false,bR 101 9 zn y13 0 0,bR 66 9 zg y98 0 0,.box (zc3 x135) false,bR 101 9 zn x154 0 (max 0 (x154.map zn).length),bR 66 9 zg ([(zl (zk.mk ((zd x135).fKind) ((zd x135).fRel) x150 x151 x152 x153 (some x154) x155 none))]:List zm) 0 0] (qT (nid:=0) (t:=64) (len:=1) (is:=[0]) (vs:=[.agg (zc38 x135 x150 x151 x152 x153 x154 x155)]) (ps:=[.agg (zc30 x135 x150 x151 x152 x153 x154 x155)]) (R:=[6]) (e:=⟨aR 7 9 1,[],[bR 66 9 zg ([(zl (zk.mk ((zd x135).fKind) ((zd x135).fRel) x150 x151 x152 x153 (some x154) x155 none))]:List zm) 0 0]⟩) (by kernel_rfl) (qy (aaL (zq (zw) (zq (zw) (zq (zw) (zq (zw) (zq (zw) (zq (zw) (zq (ZO (n:=x154.length) (id:=6) (l:=x154) (R:=zn) rfl rfl (Nat.zero_le _)) (zq (zw) (zq (zw) (rfl)))))))))) rfl) (rfl)) (by kernel_rfl) (by kernel_rfl)) (by kernel_rfl) ?_)
       obtain ⟨_,h165,hm⟩:=bs hm
       refine dOd [(59,aR 4 9 ((y98++([(zl (zk.mk ((zd x135).fKind) ((zd x135).fRel) x150 x151 x152 x153 (some x154) x155 none))]:List zm)).length))] [.box (zc2 a0) false,.box zc22 false,.box (zc36 a0 x1 x3 x5 x7 y13 x9 y98) false,bR 101 9 zn y13 0 0,bR 66 9 zg (y98++([(zl (zk.mk ((zd x135).fKind) ((zd x135).fRel) x150 x151 x152 x153 (some x154) x155 none))]:List zm)) 0 0,.box (zc3 x135) false,bR 101 9 zn x154 0 (max 0 (x154.map zn).length),bR 66 9 zg ([(zl (zk.mk ((zd x135).fKind) ((zd x135).fRel) x150 x151 x152 x153 (some x154) x155 none))]:List zm) 0 0] (Z5 (u:=0) (n:=y98.length) (id:=4) zg y98 ([(zl (zk.mk ((zd x135).fKind) ((zd x135).fRel) x150 x151 x152 x153 (some x154) x155 none))]:List zm) (b:=184) t64 t66 rfl rfl rfl Zt rfl h165 rfl rfl (Nat.zero_le _) (show zT (aR 7 9 1) _=some (([(zl (zk.mk ((zd x135).fKind) ((zd x135).fRel) x150 x151 x152 x153 (some x154) x155 none))]:List zm).map zg) from by kernel_rfl) (by kernel_rfl)) (by kernel_rfl) (std 2 [(60,.ptr 2 8)] [.box (zc2 a0) false,.box zc22 false,.box [aI a0.fKind,aI a0.fRel,.pv (zh zb x1),.pv (zh zb x3),.pv (zh zb x5),.pv (zh zb x7),aR 3 9 y13.length,.pv (zh zp x9),aR 4 9 ((y98++([(zl (zk.mk ((zd x135).fKind) ((zd x135).fRel) x150 x151 x152 x153 (some x154) x155 none))]:List zm)).length)] false,bR 101 9 zn y13 0 0,bR 66 9 zg (y98++([(zl (zk.mk ((zd x135).fKind) ((zd x135).fRel) x150 x151 x152 x153 (some x154) x155 none))]:List zm)) 0 0,.box (zc3 x135) false,bR 101 9 zn x154 0 (max 0 (x154.map zn).length),bR 66 9 zg ([(zl (zk.mk ((zd x135).fKind) ((zd x135).fRel) x150 x151 x152 x153 (some x154) x155 none))]:List zm) 0 0] (by kernel_rfl) (find [(2,.ptr 1 0),(3,.ptr 2 0),(48,.pv (zh zg a0.fKids)),(49,aI ((sll a0.fKids).length:Int)),(50,aI y99)] rfl (by kernel_rfl) (by kernel_rfl) (dn [(2,.ptr 1 0),(3,.ptr 2 0),(48,.pv (zh zg a0.fKids)),(49,aI ((sll a0.fKids).length:Int)),(50,aI (IntKind.wrap .i64 (y99+1)))] ?_)))
       exact ⟨_,_,Zh [(2,.ptr 1 0),(3,.ptr 2 0),(48,.pv (zh zg a0.fKids)),(49,aI ((sll a0.fKids).length:Int)),(50,aI (IntKind.wrap .i64 (y99+1)))] [.box (zc2 a0) false,.box zc22 false,.box [aI a0.fKind,aI a0.fRel,.pv (zh zb x1),.pv (zh zb x3),.pv (zh zb x5),.pv (zh zb x7),aR 3 9 y13.length,.pv (zh zp x9),aR 4 9 ((y98++([(zl (zk.mk ((zd x135).fKind) ((zd x135).fRel) x150 x151 x152 x153 (some x154) x155 none))]:List zm)).length)] false,bR 101 9 zn y13 0 0,bR 66 9 zg (y98++([(zl (zk.mk ((zd x135).fKind) ((zd x135).fRel) x150 x151 x152 x153 (some x154) x155 none))]:List zm)) 0 0] (by kernel_rfl),.inr (⟨(y98++([(zl (zk.mk ((zd x135).fKind) ((zd x135).fRel) x150 x151 x152 x153 (some x154) x155 none))]:List zm)),(IntKind.wrap .i64 (y99+1)),hm,rfl,rfl⟩)⟩
      ·
       obtain ⟨vv,H1,hC,rfl,rfl⟩:=ih_plan_Copy h137
       refine dOd [(57,.agg (zc39 x135 x156 x157 x158 x159 x160 x161 x162))] [.box (zc2 a0) false,.box zc22 false,.box (zc36 a0 x1 x3 x5 x7 y13 x9 y98) false,bR 101 9 zn y13 0 0,bR 66 9 zg y98 0 0,.box (zc3 x135) false,bR 101 9 zn x160 0 0,bR 66 9 zg x162 0 0] (aaS [] [.agg (zc3 x135)] (v':=.agg (zc39 x135 x156 x157 x158 x159 x160 x161 x162)) (bs':=[bR 101 9 zn x160 0 0,bR 66 9 zg x162 0 0]) (by kernel_rfl) (by kernel_rfl) (by kernel_rfl) hC (by simp [AV.flat,AV.flat2,AV.flat1,qP]) (by kernel_rfl) (by kernel_rfl)) (by kernel_rfl) (dOd [(58,aR 8 9 1)] [.box (zc2 a0) false,.box zc22 false,.box (zc36 a0 x1 x3 x5 x7 y13 x9 y98) false,bR 101 9 zn y13 0 0,bR 66 9 zg y98 0 0,.box (zc3 x135) false,bR 101 9 zn x160 0 (max 0 (x160.map zn).length),bR 66 9 zg x162 0 (max 0 (x162.map zg).length),bR 66 9 zg ([(zl (zk.mk ((zd x135).fKind) ((zd x135).fRel) x156 x157 x158 x159 (some x160) x161 (some x162)))]:List zm) 0 0] (qT (nid:=0) (t:=64) (len:=1) (is:=[0]) (vs:=[.agg (zc39 x135 x156 x157 x158 x159 x160 x161 x162)]) (ps:=[.agg (zc32 x135 x156 x157 x158 x159 x160 x161 x162)]) (R:=[6,7]) (e:=⟨aR 8 9 1,[],[bR 66 9 zg ([(zl (zk.mk ((zd x135).fKind) ((zd x135).fRel) x156 x157 x158 x159 (some x160) x161 (some x162)))]:List zm) 0 0]⟩) (by kernel_rfl) (qy (aaL (zq (zw) (zq (zw) (zq (zw) (zq (zw) (zq (zw) (zq (zw) (zq (ZO (n:=x160.length) (id:=6) (l:=x160) (R:=zn) rfl rfl (Nat.zero_le _)) (zq (zw) (zq (ZO (n:=x162.length) (id:=7) (l:=x162) (R:=zg) rfl rfl (Nat.zero_le _)) (rfl)))))))))) rfl) (rfl)) (by kernel_rfl) (by kernel_rfl)) (by kernel_rfl) ?_)
       obtain ⟨_,h166,hm⟩:=bs hm
       refine dOd [(59,aR 4 9 ((y98++([(zl (zk.mk ((zd x135).fKind) ((zd x135).fRel) x156 x157 x158 x159 (some x160) x161 (some x162)))]:List zm)).length))] [.box (zc2 a0) false,.box zc22 false,.box (zc36 a0 x1 x3 x5 x7 y13 x9 y98) false,bR 101 9 zn y13 0 0,bR 66 9 zg (y98++([(zl (zk.mk ((zd x135).fKind) ((zd x135).fRel) x156 x157 x158 x159 (some x160) x161 (some x162)))]:List zm)) 0 0,.box (zc3 x135) false,bR 101 9 zn x160 0 (max 0 (x160.map zn).length),bR 66 9 zg x162 0 (max 0 (x162.map zg).length),bR 66 9 zg ([(zl (zk.mk ((zd x135).fKind) ((zd x135).fRel) x156 x157 x158 x159 (some x160) x161 (some x162)))]:List zm) 0 0] (Z5 (u:=0) (n:=y98.length) (id:=4) zg y98 ([(zl (zk.mk ((zd x135).fKind) ((zd x135).fRel) x156 x157 x158 x159 (some x160) x161 (some x162)))]:List zm) (b:=184) t64 t66 rfl rfl rfl Zt rfl h166 rfl rfl (Nat.zero_le _) (show zT (aR 8 9 1) _=some (([(zl (zk.mk ((zd x135).fKind) ((zd x135).fRel) x156 x157 x158 x159 (some x160) x161 (some x162)))]:List zm).map zg) from by kernel_rfl) (by kernel_rfl)) (by kernel_rfl) (std 2 [(60,.ptr 2 8)] [.box (zc2 a0) false,.box zc22 false,.box [aI a0.fKind,aI a0.fRel,.pv (zh zb x1),.pv (zh zb x3),.pv (zh zb x5),.pv (zh zb x7),aR 3 9 y13.length,.pv (zh zp x9),aR 4 9 ((y98++([(zl (zk.mk ((zd x135).fKind) ((zd x135).fRel) x156 x157 x158 x159 (some x160) x161 (some x162)))]:List zm)).length)] false,bR 101 9 zn y13 0 0,bR 66 9 zg (y98++([(zl (zk.mk ((zd x135).fKind) ((zd x135).fRel) x156 x157 x158 x159 (some x160) x161 (some x162)))]:List zm)) 0 0,.box (zc3 x135) false,bR 101 9 zn x160 0 (max 0 (x160.map zn).length),bR 66 9 zg x162 0 (max 0 (x162.map zg).length),bR 66 9 zg ([(zl (zk.mk ((zd x135).fKind) ((zd x135).fRel) x156 x157 x158 x159 (some x160) x161 (some x162)))]:List zm) 0 0] (by kernel_rfl) (find [(2,.ptr 1 0),(3,.ptr 2 0),(48,.pv (zh zg a0.fKids)),(49,aI ((sll a0.fKids).length:Int)),(50,aI y99)] rfl (by kernel_rfl) (by kernel_rfl) (dn [(2,.ptr 1 0),(3,.ptr 2 0),(48,.pv (zh zg a0.fKids)),(49,aI ((sll a0.fKids).length:Int)),(50,aI (IntKind.wrap .i64 (y99+1)))] ?_)))
       exact ⟨_,_,Zh [(2,.ptr 1 0),(3,.ptr 2 0),(48,.pv (zh zg a0.fKids)),(49,aI ((sll a0.fKids).length:Int)),(50,aI (IntKind.wrap .i64 (y99+1)))] [.box (zc2 a0) false,.box zc22 false,.box [aI a0.fKind,aI a0.fRel,.pv (zh zb x1),.pv (zh zb x3),.pv (zh zb x5),.pv (zh zb x7),aR 3 9 y13.length,.pv (zh zp x9),aR 4 9 ((y98++([(zl (zk.mk ((zd x135).fKind) ((zd x135).fRel) x156 x157 x158 x159 (some x160) x161 (some x162)))]:List zm)).length)] false,bR 101 9 zn y13 0 0,bR 66 9 zg (y98++([(zl (zk.mk ((zd x135).fKind) ((zd x135).fRel) x156 x157 x158 x159 (some x160) x161 (some x162)))]:List zm)) 0 0] (by kernel_rfl),.inr (⟨(y98++([(zl (zk.mk ((zd x135).fKind) ((zd x135).fRel) x156 x157 x158 x159 (some x160) x161 (some x162)))]:List zm)),(IntKind.wrap .i64 (y99+1)),hm,rfl,rfl⟩)⟩
     ·
      refine c0 h134 (wp_exit ?_)
      exact .inr (⟨y98,aI y99,aB (decide (y99 < ((sll a0.fKids).length:Int))),hm,(Zk (by kernel_rfl)),rfl⟩)
  refine sq (rg (s1 2 [(29,.pv (zh zn a0.fAggs)),(28,.ptr 0 6)] (dv 30 (v:=aI ((sll a0.fAggs).length:Int)) (zy zn a0.fAggs t24 (by kernel_rfl)) (by kernel_rfl) (fq 1 [(1,.ptr 0 0),(2,.ptr 1 0),(3,.ptr 2 0),(29,.pv (zh zn a0.fAggs)),(30,aI ((sll a0.fAggs).length:Int)),(31,aI 0)] (bq ?_)))))
  refine ZY (fun mm t H=>(∃ (y171:Int),ZJ n a0 k14 mm none y171=some r∧t=mk 63 [(1,.ptr 0 0),(2,.ptr 1 0),(3,.ptr 2 0),(29,.pv (zh zn a0.fAggs)),(30,aI ((sll a0.fAggs).length:Int)),(31,aI y171)]∧H=[.box (zc2 a0) false,.box zc22 false,.box (zc23 a0 x1 x3 x5 x7 x9) false])∨(∃ (y170:(List zr)) (y171:Int),ZJ n a0 k14 mm (some y170) y171=some r∧t=mk 63 [(1,.ptr 0 0),(2,.ptr 1 0),(3,.ptr 2 0),(29,.pv (zh zn a0.fAggs)),(30,aI ((sll a0.fAggs).length:Int)),(31,aI y171)]∧H=[.box (zc2 a0) false,.box zc22 false,.box (zc24 a0 x1 x3 x5 x7 y170 x9) false,bR 101 9 zn y170 0 0])) (.inl ⟨0,hm,rfl,rfl⟩) ?_ ?_
  · rintro _ _ (⟨y171,hm,_⟩ | ⟨y170,y171,hm,_⟩) <;> exact nomatch hm
  rintro m172 _ _ (⟨y171,hm,rfl,rfl⟩ | ⟨y170,y171,hm,rfl,rfl⟩)
  ·
   simp only [ZJ] at hm
   refine sq (dn [(1,.ptr 0 0),(2,.ptr 1 0),(3,.ptr 2 0),(29,.pv (zh zn a0.fAggs)),(30,aI ((sll a0.fAggs).length:Int)),(31,aI y171),(32,aB (decide (y171 < ((sll a0.fAggs).length:Int))))] ?_)
   refine sq ?_
   rcases zo hm with ⟨h173,hm⟩ | ⟨h173,hm⟩
   ·
    refine c1 h173 (wp_skip (sq (bq (sq (rg ?_)))))
    obtain ⟨x174,h175,hm⟩:=bs hm
    refine dv 33 (v:=.pv (.ptr (zn x174) 0)) (qA zn a0.fAggs .i64 t24 t101 h175 rfl (by kernel_rfl)) (by kernel_rfl) (stf 3 [(1,.ptr 0 0),(2,.ptr 1 0),(3,.ptr 2 0),(5,.ptr 3 0),(29,.pv (zh zn a0.fAggs)),(30,aI ((sll a0.fAggs).length:Int)),(31,aI y171)] [.box (zc2 a0) false,.box zc22 false,.box (zc23 a0 x1 x3 x5 x7 x9) false,.box (zc19 x174) false] (by kernel_rfl) (rgd (shd 6 [(40,.agg (zc1 x174)),(39,.ptr 3 1),(38,aI x174.fKind),(37,.ptr 3 0),(36,.pv .nils),(35,.ptr 2 6)] (by kernel_rfl) ?_)))
    obtain ⟨x176,h177,hm⟩:=bs hm
    refine dvd 41 (zE (by kernel_rfl) (ZT h177) (by kernel_rfl) (by kernel_rfl) (by kernel_rfl)) (by kernel_rfl) (std 2 [(43,aR 4 9 1),(42,.agg (zc40 x174 x176))] [.box (zc2 a0) false,.box zc22 false,.box (zc23 a0 x1 x3 x5 x7 x9) false,.box (zc19 x174) false,bR 101 9 zn ([(zr.mk x174.fKind x176)]:List zr) 0 0] (by kernel_rfl) ?_)
    obtain ⟨_,h178,hm⟩:=bs hm
    refine dOd [(44,aR 5 9 (([(zr.mk x174.fKind x176)]:List zr).length))] [.box (zc2 a0) false,.box zc22 false,.box (zc23 a0 x1 x3 x5 x7 x9) false,.box (zc19 x174) false,bR 101 9 zn ([(zr.mk x174.fKind x176)]:List zr) 0 0,bR 101 9 zn ([(zr.mk x174.fKind x176)]:List zr) 0 0] (qU (u:=0) zn ([(zr.mk x174.fKind x176)]:List zr) (b:=96) t24 t101 rfl rfl rfl (fun _=>rfl) rfl h178 (show zT (aR 4 9 1) _=some (([(zr.mk x174.fKind x176)]:List zr).map zn) from by kernel_rfl) (by kernel_rfl)) (by kernel_rfl) (std 2 [(45,.ptr 2 6)] [.box (zc2 a0) false,.box zc22 false,.box [aI a0.fKind,aI a0.fRel,.pv (zh zb x1),.pv (zh zb x3),.pv (zh zb x5),.pv (zh zb x7),aR 5 9 (([(zr.mk x174.fKind x176)]:List zr).length),.pv (zh zp x9),.pv .nils] false,.box (zc19 x174) false,bR 101 9 zn ([(zr.mk x174.fKind x176)]:List zr) 0 0,bR 101 9 zn ([(zr.mk x174.fKind x176)]:List zr) 0 0] (by kernel_rfl) (find [(1,.ptr 0 0),(2,.ptr 1 0),(3,.ptr 2 0),(29,.pv (zh zn a0.fAggs)),(30,aI ((sll a0.fAggs).length:Int)),(31,aI y171)] rfl (by kernel_rfl) (by kernel_rfl) (dn [(1,.ptr 0 0),(2,.ptr 1 0),(3,.ptr 2 0),(29,.pv (zh zn a0.fAggs)),(30,aI ((sll a0.fAggs).length:Int)),(31,aI (IntKind.wrap .i64 (y171+1)))] ?_)))
    exact ⟨_,_,Zh [(1,.ptr 0 0),(2,.ptr 1 0),(3,.ptr 2 0),(29,.pv (zh zn a0.fAggs)),(30,aI ((sll a0.fAggs).length:Int)),(31,aI (IntKind.wrap .i64 (y171+1)))] [.box (zc2 a0) false,.box zc22 false,.box [aI a0.fKind,aI a0.fRel,.pv (zh zb x1),.pv (zh zb x3),.pv (zh zb x5),.pv (zh zb x7),aR 3 9 (([(zr.mk x174.fKind x176)]:List zr).length),.pv (zh zp x9),.pv .nils] false,bR 101 9 zn ([(zr.mk x174.fKind x176)]:List zr) 0 0] (by kernel_rfl),.inr (⟨([(zr.mk x174.fKind x176)]:List zr),(IntKind.wrap .i64 (y171+1)),hm,rfl,rfl⟩)⟩
   ·
    refine c0 h173 (wp_exit ?_)
    exact .inl ⟨aI y171,aB (decide (y171 < ((sll a0.fAggs).length:Int))),hm,(Zk (by kernel_rfl)),rfl⟩
  ·
   simp only [ZJ] at hm
   refine sq (dn [(1,.ptr 0 0),(2,.ptr 1 0),(3,.ptr 2 0),(29,.pv (zh zn a0.fAggs)),(30,aI ((sll a0.fAggs).length:Int)),(31,aI y171),(32,aB (decide (y171 < ((sll a0.fAggs).length:Int))))] ?_)
   refine sq ?_
   rcases zo hm with ⟨h179,hm⟩ | ⟨h179,hm⟩
   ·
    refine c1 h179 (wp_skip (sq (bq (sq (rg ?_)))))
    obtain ⟨x180,h181,hm⟩:=bs hm
    refine dv 33 (v:=.pv (.ptr (zn x180) 0)) (qA zn a0.fAggs .i64 t24 t101 h181 rfl (by kernel_rfl)) (by kernel_rfl) (stf 3 [(1,.ptr 0 0),(2,.ptr 1 0),(3,.ptr 2 0),(5,.ptr 4 0),(29,.pv (zh zn a0.fAggs)),(30,aI ((sll a0.fAggs).length:Int)),(31,aI y171)] [.box (zc2 a0) false,.box zc22 false,.box (zc24 a0 x1 x3 x5 x7 y170 x9) false,bR 101 9 zn y170 0 0,.box (zc19 x180) false] (by kernel_rfl) (rgd (shd 6 [(40,.agg (zc1 x180)),(39,.ptr 4 1),(38,aI x180.fKind),(37,.ptr 4 0),(36,aR 3 9 y170.length),(35,.ptr 2 6)] (by kernel_rfl) ?_)))
    obtain ⟨x182,h183,hm⟩:=bs hm
    refine dvd 41 (zE (by kernel_rfl) (ZT h183) (by kernel_rfl) (by kernel_rfl) (by kernel_rfl)) (by kernel_rfl) (std 2 [(43,aR 5 9 1),(42,.agg (zc40 x180 x182))] [.box (zc2 a0) false,.box zc22 false,.box (zc24 a0 x1 x3 x5 x7 y170 x9) false,bR 101 9 zn y170 0 0,.box (zc19 x180) false,bR 101 9 zn ([(zr.mk x180.fKind x182)]:List zr) 0 0] (by kernel_rfl) ?_)
    obtain ⟨_,h184,hm⟩:=bs hm
    refine dOd [(44,aR 3 9 ((y170++([(zr.mk x180.fKind x182)]:List zr)).length))] [.box (zc2 a0) false,.box zc22 false,.box (zc24 a0 x1 x3 x5 x7 y170 x9) false,bR 101 9 zn (y170++([(zr.mk x180.fKind x182)]:List zr)) 0 0,.box (zc19 x180) false,bR 101 9 zn ([(zr.mk x180.fKind x182)]:List zr) 0 0] (Z5 (u:=0) (n:=y170.length) (id:=3) zn y170 ([(zr.mk x180.fKind x182)]:List zr) (b:=96) t24 t101 rfl rfl rfl (fun _=>rfl) rfl h184 rfl rfl (Nat.zero_le _) (show zT (aR 5 9 1) _=some (([(zr.mk x180.fKind x182)]:List zr).map zn) from by kernel_rfl) (by kernel_rfl)) (by kernel_rfl) (std 2 [(45,.ptr 2 6)] [.box (zc2 a0) false,.box zc22 false,.box [aI a0.fKind,aI a0.fRel,.pv (zh zb x1),.pv (zh zb x3),.pv (zh zb x5),.pv (zh zb x7),aR 3 9 ((y170++([(zr.mk x180.fKind x182)]:List zr)).length),.pv (zh zp x9),.pv .nils] false,bR 101 9 zn (y170++([(zr.mk x180.fKind x182)]:List zr)) 0 0,.box (zc19 x180) false,bR 101 9 zn ([(zr.mk x180.fKind x182)]:List zr) 0 0] (by kernel_rfl) (find [(1,.ptr 0 0),(2,.ptr 1 0),(3,.ptr 2 0),(29,.pv (zh zn a0.fAggs)),(30,aI ((sll a0.fAggs).length:Int)),(31,aI y171)] rfl (by kernel_rfl) (by kernel_rfl) (dn [(1,.ptr 0 0),(2,.ptr 1 0),(3,.ptr 2 0),(29,.pv (zh zn a0.fAggs)),(30,aI ((sll a0.fAggs).length:Int)),(31,aI (IntKind.wrap .i64 (y171+1)))] ?_)))
    exact ⟨_,_,Zh [(1,.ptr 0 0),(2,.ptr 1 0),(3,.ptr 2 0),(29,.pv (zh zn a0.fAggs)),(30,aI ((sll a0.fAggs).length:Int)),(31,aI (IntKind.wrap .i64 (y171+1)))] [.box (zc2 a0) false,.box zc22 false,.box [aI a0.fKind,aI a0.fRel,.pv (zh zb x1),.pv (zh zb x3),.pv (zh zb x5),.pv (zh zb x7),aR 3 9 ((y170++([(zr.mk x180.fKind x182)]:List zr)).length),.pv (zh zp x9),.pv .nils] false,bR 101 9 zn (y170++([(zr.mk x180.fKind x182)]:List zr)) 0 0] (by kernel_rfl),.inr (⟨(y170++([(zr.mk x180.fKind x182)]:List zr)),(IntKind.wrap .i64 (y171+1)),hm,rfl,rfl⟩)⟩
   ·
    refine c0 h179 (wp_exit ?_)
    exact .inr (⟨y170,aI y171,aB (decide (y171 < ((sll a0.fAggs).length:Int))),hm,(Zk (by kernel_rfl)),rfl⟩)
theorem aeQ:∀ (m:Nat),∀ {n:Nat} {a0:zk} {r:((Option (List zc)) × (Option (List zc)) × (Option (List zc)) × (Option (List zc)) × (Option (List zt))) ⊕ ((Option (List zc)) × (Option (List zc)) × (Option (List zc)) × (Option (List zc)) × (Option (List zt)) × (List zm)) ⊕ ((Option (List zc)) × (Option (List zc)) × (Option (List zc)) × (Option (List zc)) × (List zr) × (Option (List zt))) ⊕ ((Option (List zc)) × (Option (List zc)) × (Option (List zc)) × (Option (List zc)) × (List zr) × (Option (List zt)) × (List zm))} (hm:Z3 m n a0=some r),∃ vv H1,call G n 42 [.agg (zc2 a0)] []=some (.ret vv,H1)∧(match (generalizing:=false) r with | (.inl (r0,r1,r2,r3,r4))=>(vv=.agg [aI a0.fKind,aI a0.fRel,.pv (zh zb r0),.pv (zh zb r1),.pv (zh zb r2),.pv (zh zb r3),.pv .nils,.pv (zh zp r4),.pv .nils]∧H1=[]) | (.inr (.inl (r5,r6,r7,r8,r9,r10)))=>(vv=.agg [aI a0.fKind,aI a0.fRel,.pv (zh zb r5),.pv (zh zb r6),.pv (zh zb r7),.pv (zh zb r8),.pv .nils,.pv (zh zp r9),aR 0 9 r10.length]∧H1=[bR 66 9 zg r10 0 0]) | (.inr (.inr (.inl (r11,r12,r13,r14,r15,r16))))=>(vv=.agg [aI a0.fKind,aI a0.fRel,.pv (zh zb r11),.pv (zh zb r12),.pv (zh zb r13),.pv (zh zb r14),aR 0 9 r15.length,.pv (zh zp r16),.pv .nils]∧H1=[bR 101 9 zn r15 0 0]) | (.inr (.inr (.inr ((r17,r18,r19,r20,r21,r22,r23)))))=>(vv=.agg [aI a0.fKind,aI a0.fRel,.pv (zh zb r17),.pv (zh zb r18),.pv (zh zb r19),.pv (zh zb r20),aR 0 9 r21.length,.pv (zh zp r22),aR 1 9 r23.length]∧H1=[bR 101 9 zn r21 0 0,bR 66 9 zg r23 0 0]))
  | 0=>by intros; rename_i hm; exact nomatch hm
  | m+1=>fun hm=>
    aie (aeQ m) hm
theorem abZ {n:Nat} {a0:zk} {r:((Option (List zc)) × (Option (List zc)) × (Option (List zc)) × (Option (List zc)) × (Option (List zt))) ⊕ ((Option (List zc)) × (Option (List zc)) × (Option (List zc)) × (Option (List zc)) × (Option (List zt)) × (List zm)) ⊕ ((Option (List zc)) × (Option (List zc)) × (Option (List zc)) × (Option (List zc)) × (List zr) × (Option (List zt))) ⊕ ((Option (List zc)) × (Option (List zc)) × (Option (List zc)) × (Option (List zc)) × (List zr) × (Option (List zt)) × (List zm))} (hm:af3 n a0=some r):
    ∃ vv H1,call G n 42 [.agg (zc2 a0)] []=some (.ret vv,H1)∧(match (generalizing:=false) r with | (.inl (r0,r1,r2,r3,r4))=>(vv=.agg [aI a0.fKind,aI a0.fRel,.pv (zh zb r0),.pv (zh zb r1),.pv (zh zb r2),.pv (zh zb r3),.pv .nils,.pv (zh zp r4),.pv .nils]∧H1=[]) | (.inr (.inl (r5,r6,r7,r8,r9,r10)))=>(vv=.agg [aI a0.fKind,aI a0.fRel,.pv (zh zb r5),.pv (zh zb r6),.pv (zh zb r7),.pv (zh zb r8),.pv .nils,.pv (zh zp r9),aR 0 9 r10.length]∧H1=[bR 66 9 zg r10 0 0]) | (.inr (.inr (.inl (r11,r12,r13,r14,r15,r16))))=>(vv=.agg [aI a0.fKind,aI a0.fRel,.pv (zh zb r11),.pv (zh zb r12),.pv (zh zb r13),.pv (zh zb r14),aR 0 9 r15.length,.pv (zh zp r16),.pv .nils]∧H1=[bR 101 9 zn r15 0 0]) | (.inr (.inr (.inr ((r17,r18,r19,r20,r21,r22,r23)))))=>(vv=.agg [aI a0.fKind,aI a0.fRel,.pv (zh zb r17),.pv (zh zb r18),.pv (zh zb r19),.pv (zh zb r20),aR 0 9 r21.length,.pv (zh zp r22),aR 1 9 r23.length]∧H1=[bR 101 9 zn r21 0 0,bR 66 9 zg r23 0 0])):=aeQ n hm
abbrev zc41 (p0:zk) (p1:(Option (List zc))) (p2:(Option (List zc))) (p3:(Option (List zc))) (p4:(Option (List zc))) (p5:(Option (List zt))) (p6:(List zm)):List AV:=[aI p0.fKind,aI p0.fRel,.pv (zh zb p1),.pv (zh zb p2),.pv (zh zb p3),.pv (zh zb p4),.pv .nils,.pv (zh zp p5),aR 2 9 p6.length]
abbrev zc42 (p0:zk) (p1:(Option (List zc))) (p2:(Option (List zc))) (p3:(Option (List zc))) (p4:(Option (List zc))) (p5:(List zr)) (p6:(Option (List zt))):List AV:=[aI p0.fKind,aI p0.fRel,.pv (zh zb p1),.pv (zh zb p2),.pv (zh zb p3),.pv (zh zb p4),aR 2 9 p5.length,.pv (zh zp p6),.pv .nils]
abbrev zc43 (p0:zk) (p1:(Option (List zc))) (p2:(Option (List zc))) (p3:(Option (List zc))) (p4:(Option (List zc))) (p5:(List zr)) (p6:(Option (List zt))) (p7:(List zm)):List AV:=[aI p0.fKind,aI p0.fRel,.pv (zh zb p1),.pv (zh zb p2),.pv (zh zb p3),.pv (zh zb p4),aR 2 9 p5.length,.pv (zh zp p6),aR 3 9 p7.length]
theorem afj {n:Nat} {a0:zk} {a1:zk} {r:Bool} (hm:QP n a0 a1=some r):
    call G n 7 [.agg (zc2 a0),.agg (zc2 a1)] []=some (.ret (aB r),[]):=by
  unfold QP at hm
  obtain ⟨n,rfl,h0⟩:=zB hm
  replace hm:=h0; clear h0
  refine Zr 102 [(0,.agg (zc2 a0)),(1,.agg (zc2 a1))] func7 rfl (by kernel_rfl) (sq (det [(2,.ptr 0 0),(3,.ptr 1 0)] [.box (zc2 a0) false,.box (zc2 a1) false] (by kernel_rfl) ?_))
  refine sq (sq (rg (s1 1 [(10,.agg (zc2 a0))] ?_)))
  obtain ⟨x1,h2,hm⟩:=bs hm
  refine dv 11 (zE (by kernel_rfl) (aef h2) (by kernel_rfl) (by kernel_rfl) (by kernel_rfl)) (by kernel_rfl) (s1 1 [(12,aB x1)] ?_)
  rcases zo hm with ⟨h3,hm⟩ | ⟨h3,hm⟩
  ·
   refine known [12,11] h3 (by kernel_rfl) (fq 3 [(2,.ptr 0 0),(3,.ptr 1 0),(15,aB true)] (cT (by kernel_rfl) (sq (rg ?_))))
   obtain ⟨x4,h5,hm⟩:=bs hm
   refine dv 16 (zE (by kernel_rfl) (Qx h5) (by kernel_rfl) (by kernel_rfl) (by kernel_rfl)) (by kernel_rfl) (fq 1 [(4,aB x4)] (wp_ret ?_))
   obtain rfl:=Option.some.inj hm
   exact ⟨trivial,by kernel_rfl⟩
  ·
   refine known [12,11] h3 (by kernel_rfl) (s1 1 [(13,.agg (zc2 a1))] ?_)
   obtain ⟨x6,h7,hm⟩:=bs hm
   refine dv 14 (zE (by kernel_rfl) (aef h7) (by kernel_rfl) (by kernel_rfl) (by kernel_rfl)) (by kernel_rfl) (fq 1 [(2,.ptr 0 0),(3,.ptr 1 0),(15,aB x6)] ?_)
   rcases zo hm with ⟨h8,hm⟩ | ⟨h8,hm⟩
   ·
    refine c1 h8 (sq (rg ?_))
    obtain ⟨x9,h10,hm⟩:=bs hm
    refine dv 16 (zE (by kernel_rfl) (Qx h10) (by kernel_rfl) (by kernel_rfl) (by kernel_rfl)) (by kernel_rfl) (fq 1 [(4,aB x9)] (wp_ret ?_))
    obtain rfl:=Option.some.inj hm
    exact ⟨trivial,by kernel_rfl⟩
   ·
    refine c0 h8 (wp_skip (sq (rgd (shd 1 [(17,.agg (zc2 a0))] (by kernel_rfl) ?_))))
    obtain ⟨x11,h12,hm⟩:=bs hm
    refine dvd 18 (zE (by kernel_rfl) (agO h12) (by kernel_rfl) (by kernel_rfl) (by kernel_rfl)) (by kernel_rfl) (shd 2 [(20,.agg (zc2 a0)),(19,.agg (zc21 x11))] (by kernel_rfl) ?_)
    obtain ⟨x13,h14,hm⟩:=bs hm
    refine dvd 21 (zE (by kernel_rfl) (af2 h14) (by kernel_rfl) (by kernel_rfl) (by kernel_rfl)) (by kernel_rfl) (shd 1 [(22,.agg (zc21 x13))] (by kernel_rfl) ?_)
    obtain ⟨x15,h16,hm⟩:=bs hm
    refine dvd 23 (zE (by kernel_rfl) (acO h16) (by kernel_rfl) (by kernel_rfl) (by kernel_rfl)) (by kernel_rfl) (shd 1 [(5,aB x15)] (by kernel_rfl) (find [(2,.ptr 0 0),(3,.ptr 1 0),(5,aB x15)] rfl (by kernel_rfl) (by kernel_rfl) ?_))
    refine sq (sq (rgd (shd 1 [(24,.agg (zc2 a0))] (by kernel_rfl) ?_)))
    obtain ⟨x17,h18,hm⟩:=bs hm
    refine dvd 25 (zE (by kernel_rfl) (ahm h18) (by kernel_rfl) (by kernel_rfl) (by kernel_rfl)) (by kernel_rfl) (shd 1 [(26,.agg (zc2 a0))] (by kernel_rfl) ?_)
    obtain ⟨x19,h20,hm⟩:=bs hm
    refine dvd 27 (zE (by kernel_rfl) (agE h20) (by kernel_rfl) (by kernel_rfl) (by kernel_rfl)) (by kernel_rfl) (shd 2 [(29,aB (!(x17 == x19))),(28,aB (!(x17 == x19)))] (by kernel_rfl) ?_)
    rcases zo hm with ⟨h21,hm⟩ | ⟨h21,hm⟩
    ·
     refine Zs [29,28] h21 (by kernel_rfl) (shd 25 [(54,aB true),(53,.undef),(52,.undef),(51,.undef),(50,.undef),(49,aB true),(48,aB true),(47,.undef),(46,.undef),(45,.undef),(44,.undef),(43,.undef),(42,.undef),(41,.undef),(40,aB true),(39,aB true),(38,.undef),(37,.undef),(36,aB true),(35,aB true),(34,.undef),(33,.undef),(32,.undef),(31,.undef),(30,.undef)] (by kernel_rfl) (find [(2,.ptr 0 0),(54,aB true)] rfl (by kernel_rfl) (by kernel_rfl) (cT (by kernel_rfl) (sq (dn [(4,aB false)] (wp_ret ?_))))))
     obtain rfl:=Option.some.inj hm
     exact ⟨trivial,by kernel_rfl⟩
    ·
     refine Zs [29,28] h21 (by kernel_rfl) (shd 1 [(30,.agg (zc2 a0))] (by kernel_rfl) ?_)
     obtain ⟨x22,h23,hm⟩:=bs hm
     refine dvd 31 (zE (by kernel_rfl) (ajk h23) (by kernel_rfl) (by kernel_rfl) (by kernel_rfl)) (by kernel_rfl) (shd 1 [(32,.agg (zc2 a0))] (by kernel_rfl) ?_)
     obtain ⟨x24,h25,hm⟩:=bs hm
     refine dvd 33 (zE (by kernel_rfl) (ajv h25) (by kernel_rfl) (by kernel_rfl) (by kernel_rfl)) (by kernel_rfl) (shd 3 [(36,aB (x22 != x24)),(35,aB (x22 != x24)),(34,aB (x22 != x24))] (by kernel_rfl) ?_)
     rcases zo hm with ⟨h26,hm⟩ | ⟨h26,hm⟩
     ·
      refine Zs [36,35,34] h26 (by kernel_rfl) (shd 18 [(54,aB true),(53,.undef),(52,.undef),(51,.undef),(50,.undef),(49,aB true),(48,aB true),(47,.undef),(46,.undef),(45,.undef),(44,.undef),(43,.undef),(42,.undef),(41,.undef),(40,aB true),(39,aB true),(38,.undef),(37,.undef)] (by kernel_rfl) (find [(2,.ptr 0 0),(54,aB true)] rfl (by kernel_rfl) (by kernel_rfl) (cT (by kernel_rfl) (sq (dn [(4,aB false)] (wp_ret ?_))))))
      obtain rfl:=Option.some.inj hm
      exact ⟨trivial,by kernel_rfl⟩
     ·
      refine Zs [36,35,34] h26 (by kernel_rfl) (shd 4 [(40,aB (!x15)),(39,aB (!x15)),(38,aB (!x15)),(37,aB x15)] (by kernel_rfl) ?_)
      rcases zo hm with ⟨h27,hm⟩ | ⟨h27,hm⟩
      ·
       refine Zs [40,39,38] h27 (by kernel_rfl) (shd 14 [(54,aB true),(53,.undef),(52,.undef),(51,.undef),(50,.undef),(49,aB true),(48,aB true),(47,.undef),(46,.undef),(45,.undef),(44,.undef),(43,.undef),(42,.undef),(41,.undef)] (by kernel_rfl) (find [(2,.ptr 0 0),(54,aB true)] rfl (by kernel_rfl) (by kernel_rfl) (cT (by kernel_rfl) (sq (dn [(4,aB false)] (wp_ret ?_))))))
       obtain rfl:=Option.some.inj hm
       exact ⟨trivial,by kernel_rfl⟩
      ·
       refine Zs [40,39,38] h27 (by kernel_rfl) (shd 2 [(42,.agg (zc2 a1)),(41,.agg (zc2 a0))] (by kernel_rfl) ?_)
       obtain ⟨x28,h29,hm⟩:=bs hm
       refine dvd 43 (zE (by kernel_rfl) (afu h29) (by kernel_rfl) (by kernel_rfl) (by kernel_rfl)) (by kernel_rfl) (shd 2 [(45,.agg (zc2 a1)),(44,.agg (zc2 a0))] (by kernel_rfl) ?_)
       obtain ⟨x30,h31,hm⟩:=bs hm
       refine dvd 46 (zE (by kernel_rfl) (aaE h31) (by kernel_rfl) (by kernel_rfl) (by kernel_rfl)) (by kernel_rfl) (shd 3 [(49,aB (!(x28 == x30))),(48,aB (!(x28 == x30))),(47,aB (!(x28 == x30)))] (by kernel_rfl) ?_)
       rcases zo hm with ⟨h32,hm⟩ | ⟨h32,hm⟩
       ·
        refine Zs [49,48,47] h32 (by kernel_rfl) (shd 5 [(54,aB true),(53,.undef),(52,.undef),(51,.undef),(50,.undef)] (by kernel_rfl) (find [(2,.ptr 0 0),(54,aB true)] rfl (by kernel_rfl) (by kernel_rfl) (cT (by kernel_rfl) (sq (dn [(4,aB false)] (wp_ret ?_))))))
        obtain rfl:=Option.some.inj hm
        exact ⟨trivial,by kernel_rfl⟩
       ·
        refine Zs [49,48,47] h32 (by kernel_rfl) (shd 2 [(51,.agg (zc2 a0)),(50,.agg (zc2 a0))] (by kernel_rfl) ?_)
        obtain ⟨x33,h34,hm⟩:=bs hm
        refine dvd 52 (zE (by kernel_rfl) (afu h34) (by kernel_rfl) (by kernel_rfl) (by kernel_rfl)) (by kernel_rfl) (shd 2 [(54,aB (!x33)),(53,aB (!x33))] (by kernel_rfl) (find [(2,.ptr 0 0),(54,aB (!x33))] rfl (by kernel_rfl) (by kernel_rfl) ?_))
        rcases zo hm with ⟨h35,hm⟩ | ⟨h35,hm⟩
        ·
         refine c1 h35 (sq (dn [(4,aB false)] (wp_ret ?_)))
         obtain rfl:=Option.some.inj hm
         exact ⟨trivial,by kernel_rfl⟩
        ·
         refine c0 h35 (wp_skip ?_)
         obtain ⟨k43,hk43,hm⟩:=zz hm
         refine mid (fun t H=>(∃ (y36:(Option (List zc))) (y37:(Option (List zc))) (y38:(Option (List zc))) (y39:(Option (List zc))) (y41:(Option (List zt))),k43 y36 y37 y38 y39 none y41 none=some r∧t=mk 102 [(2,.ptr 0 0),(6,.ptr 2 0)]∧H=[.box (zc2 a0) false,.box (zc2 a1) false,.box (zc23 a0 y36 y37 y38 y39 y41) false])∨(∃ (y36:(Option (List zc))) (y37:(Option (List zc))) (y38:(Option (List zc))) (y39:(Option (List zc))) (y41:(Option (List zt))) (y42:(List zm)),k43 y36 y37 y38 y39 none y41 (some y42)=some r∧t=mk 102 [(2,.ptr 0 0),(6,.ptr 3 0)]∧H=[.box (zc2 a0) false,.box (zc2 a1) false,bR 66 9 zg y42 0 0,.box (zc41 a0 y36 y37 y38 y39 y41 y42) false])∨(∃ (y36:(Option (List zc))) (y37:(Option (List zc))) (y38:(Option (List zc))) (y39:(Option (List zc))) (y40:(List zr)) (y41:(Option (List zt))),k43 y36 y37 y38 y39 (some y40) y41 none=some r∧t=mk 102 [(2,.ptr 0 0),(6,.ptr 3 0)]∧H=[.box (zc2 a0) false,.box (zc2 a1) false,bR 101 9 zn y40 0 0,.box (zc42 a0 y36 y37 y38 y39 y40 y41) false])∨(∃ (y36:(Option (List zc))) (y37:(Option (List zc))) (y38:(Option (List zc))) (y39:(Option (List zc))) (y40:(List zr)) (y41:(Option (List zt))) (y42:(List zm)),k43 y36 y37 y38 y39 (some y40) y41 (some y42)=some r∧t=mk 102 [(2,.ptr 0 0),(6,.ptr 4 0)]∧H=[.box (zc2 a0) false,.box (zc2 a1) false,bR 101 9 zn y40 0 0,bR 66 9 zg y42 0 0,.box (zc43 a0 y36 y37 y38 y39 y40 y41 y42) false])) ?_ ?_
         ·
          rintro _ _ (⟨y36,y37,y38,y39,y41,hm,rfl,rfl⟩ | ⟨y36,y37,y38,y39,y41,y42,hm,rfl,rfl⟩ | ⟨y36,y37,y38,y39,y40,y41,hm,rfl,rfl⟩ | ⟨y36,y37,y38,y39,y40,y41,y42,hm,rfl,rfl⟩)
          ·
           subst hk43
           refine sq (sq (rg (s1 2 [(58,.agg (zc2 a0)),(57,.agg (zc23 a0 y36 y37 y38 y39 y41))] ?_)))
           obtain ⟨x44,h45,hm⟩:=bs hm
           refine dv 59 (zE (by kernel_rfl) (aaE h45) (by kernel_rfl) (by kernel_rfl) (by kernel_rfl)) (by kernel_rfl) (fq 1 [(2,.ptr 0 0),(6,.ptr 2 0),(60,aB (!x44))] ?_)
           rcases zo hm with ⟨h46,hm⟩ | ⟨h46,hm⟩
           ·
            refine c1 h46 (sq (dn [(4,aB false)] (wp_ret ?_)))
            obtain rfl:=Option.some.inj hm
            exact ⟨trivial,by kernel_rfl⟩
           ·
            refine c0 h46 (wp_skip (sq (det [(2,.ptr 0 0),(6,.ptr 2 0),(7,aR 3 1 0)] [.box (zc2 a0) false,.box (zc2 a1) false,.box (zc23 a0 y36 y37 y38 y39 y41) false,bR 3 1 (rI .i64) ([]:List Int) 0 0] (by kernel_rfl) ?_)))
            obtain ⟨k47,hk47,hm⟩:=zz hm
            refine mid (fun t H=>(k47 ()=some r∧t=mk 102 [(2,.ptr 0 0),(6,.ptr 2 0),(7,aR 3 1 0),(64,aI 0),(65,aI 0),(66,aB false)]∧H=[.box (zc2 a0) false,.box (zc2 a1) false,.box (zc23 a0 y36 y37 y38 y39 y41) false,bR 3 1 (rI .i64) ([]:List Int) 0 0])) ?_ ?_
            ·
             rintro _ _ ⟨hm,rfl,rfl⟩
             subst hk47
             obtain ⟨k50,hk50,hm⟩:=zz hm
             refine mid (fun t H=>(∃ (y48:Int) (y49:Bool),k50 ()=some r∧t=mk 102 [(2,.ptr 0 0),(7,aR 3 1 0),(85,aI ((sll a0.fKids).length:Int)),(86,aI y48),(87,aB y49)]∧H=[.box (zc2 a0) false,.box (zc2 a1) false,.box (zc23 a0 y36 y37 y38 y39 y41) false,bR 3 1 (rI .i64) ([]:List Int) 0 0])) ?_ ?_
             ·
              rintro _ _ ⟨y48,y49,hm,rfl,rfl⟩
              subst hk50
              refine sq (rg ?_)
              obtain ⟨x51,h52,hm⟩:=bs hm
              refine dv 101 (zE (by kernel_rfl) (Qx h52) (by kernel_rfl) (by kernel_rfl) (by kernel_rfl)) (by kernel_rfl) (fq 1 [(4,aB x51)] (wp_ret ?_))
              obtain rfl:=Option.some.inj hm
              exact ⟨trivial,by kernel_rfl⟩
             refine sq (rg (s1 2 [(84,.pv (zh zg a0.fKids)),(83,.ptr 0 8)] (dv 85 (v:=aI ((sll a0.fKids).length:Int)) (zy zg a0.fKids t64 (by kernel_rfl)) (by kernel_rfl) (fq 1 [(2,.ptr 0 0),(7,aR 3 1 0),(85,aI ((sll a0.fKids).length:Int)),(86,aI 0)] (bq ?_)))))
             refine ZY (fun mm t H=>(∃ (y54:Int),qt n a0 k50 mm y54=some r∧t=mk 102 [(2,.ptr 0 0),(7,aR 3 1 0),(85,aI ((sll a0.fKids).length:Int)),(86,aI y54)]∧H=[.box (zc2 a0) false,.box (zc2 a1) false,.box (zc23 a0 y36 y37 y38 y39 y41) false,bR 3 1 (rI .i64) ([]:List Int) 0 0])) (⟨0,hm,rfl,rfl⟩) ?_ ?_
             · rintro _ _ ⟨y54,hm,_⟩; exact nomatch hm
             rintro m55 _ _ ⟨y54,hm,rfl,rfl⟩
             simp only [qt] at hm
             refine sq (dn [(2,.ptr 0 0),(7,aR 3 1 0),(85,aI ((sll a0.fKids).length:Int)),(86,aI y54),(87,aB (decide (y54 < ((sll a0.fKids).length:Int))))] ?_)
             refine sq ?_
             rcases zo hm with ⟨h56,hm⟩ | ⟨h56,hm⟩
             ·
              refine c1 h56 (wp_skip (sq (bq (sq (dn [(2,.ptr 0 0),(7,aR 3 1 0),(9,aI y54),(85,aI ((sll a0.fKids).length:Int)),(86,aI y54)] (sq (rgd (shd 3 [(91,aI y54),(90,.pv (zh zg a0.fKids)),(89,.ptr 0 8)] (by kernel_rfl) ?_))))))))
              obtain ⟨x57,h58,hm⟩:=bs hm
              refine dvd 92 (v:=.pv (.ptr (zG (zd x57)) 0)) (Zd zg a0.fKids .i64 t64 t66 h58 (zF x57) rfl (by kernel_rfl)) (by kernel_rfl) (shd 4 [(96,aI y54),(95,aR 3 1 0),(94,aI ((zd x57).fKind)),(93,.pv (.ptr (zG (zd x57)) 0))] (by kernel_rfl) ?_)
              obtain ⟨x59,h60,hm⟩:=bs hm
              refine dvd 97 (v:=.eptr 3 0 0 1 (0+Int.toNat y54) 0) (Q7 ([]:List Int) .i64 (n:=0) (id:=3) (esz:=1) t33 t3 h60 (by first | rfl | assumption | omega | (simp only [List.length_set,List.length_append,List.length_cons,List.length_nil,List.length_replicate,List.length_drop] at * <;> omega)) rfl (by kernel_rfl)) (by kernel_rfl) (dvd 98 (v:=aI x59) (adP (rI .i64) ([]:List Int) (n:=0) (esz:=1) (j:=y54) (off:=0) (id:=3) t3 rfl h60 (by first | rfl | assumption | omega | (simp only [List.length_set,List.length_append,List.length_cons,List.length_nil,List.length_replicate,List.length_drop] at * <;> omega)) (Nat.zero_le _) (by kernel_rfl) (by kernel_rfl)) (by kernel_rfl) (shd 1 [(99,aB (((zd x57).fKind) != x59))] (by kernel_rfl) (find [(2,.ptr 0 0),(7,aR 3 1 0),(85,aI ((sll a0.fKids).length:Int)),(86,aI y54),(99,aB (((zd x57).fKind) != x59))] rfl (by kernel_rfl) (by kernel_rfl) ?_)))
              rcases zo hm with ⟨h61,hm⟩ | ⟨h61,hm⟩
              ·
               refine c1 h61 (sq (dn [(4,aB false)] (wp_ret ?_)))
               obtain rfl:=Option.some.inj hm
               exact ⟨trivial,by kernel_rfl⟩
              ·
               refine c0 h61 (wp_skip (dn [(2,.ptr 0 0),(7,aR 3 1 0),(85,aI ((sll a0.fKids).length:Int)),(86,aI (IntKind.wrap .i64 (y54+1)))] ?_))
               exact ⟨_,_,Zh [(2,.ptr 0 0),(7,aR 3 1 0),(85,aI ((sll a0.fKids).length:Int)),(86,aI (IntKind.wrap .i64 (y54+1)))] [.box (zc2 a0) false,.box (zc2 a1) false,.box (zc23 a0 y36 y37 y38 y39 y41) false,bR 3 1 (rI .i64) ([]:List Int) 0 0] (by kernel_rfl),⟨(IntKind.wrap .i64 (y54+1)),hm,rfl,rfl⟩⟩
             ·
              refine c0 h56 (wp_exit ?_)
              exact ⟨y54,(decide (y54 < ((sll a0.fKids).length:Int))),hm,rfl,rfl⟩
            refine sq (dn [(2,.ptr 0 0),(6,.ptr 2 0),(7,aR 3 1 0),(64,aI 0),(65,aI 0)] (bq ?_))
            refine ZY (fun mm t H=>(qQ n k47 mm=some r∧t=mk 102 [(2,.ptr 0 0),(6,.ptr 2 0),(7,aR 3 1 0),(64,aI 0),(65,aI 0)]∧H=[.box (zc2 a0) false,.box (zc2 a1) false,.box (zc23 a0 y36 y37 y38 y39 y41) false,bR 3 1 (rI .i64) ([]:List Int) 0 0])) (⟨hm,rfl,rfl⟩) ?_ ?_
            · rintro _ _ ⟨hm,_⟩; exact nomatch hm
            rintro m62 _ _ ⟨hm,rfl,rfl⟩
            simp only [qQ] at hm
            refine sq (dn [(2,.ptr 0 0),(6,.ptr 2 0),(7,aR 3 1 0),(64,aI 0),(65,aI 0),(66,aB false)] (sq (cF (by kernel_rfl) (wp_exit ?_))))
            exact ⟨hm,rfl,rfl⟩
          ·
           subst hk43
           refine sq (sq (rg (s1 2 [(58,.agg (zc2 a0)),(57,.agg (zc41 a0 y36 y37 y38 y39 y41 y42))] ?_)))
           obtain ⟨x63,h64,hm⟩:=bs hm
           refine dO [(59,aB x63)] [.box (zc2 a0) false,.box (zc2 a1) false,bR 66 9 zg y42 0 0,.box (zc41 a0 y36 y37 y38 y39 y41 y42) false] (ajs [2] [.agg (zc41 a0 y36 y37 y38 y39 y41 y42),.agg (zc2 a0)] (fl:=true) (by kernel_rfl) (by kernel_rfl) (qy (afb (zq (zw) (zq (zw) (zq (zw) (zq (zw) (zq (zw) (zq (zw) (zq (zw) (zq (zw) (zq (ZO (n:=y42.length) (id:=2) (l:=y42) (R:=zg) rfl rfl (Nat.zero_le _)) (rfl))))))))))) (qy (afb (zq (zw) (zq (zw) (zq (zw) (zq (zw) (zq (zw) (zq (zw) (zq (zw) (zq (zw) (zq (zw) (rfl))))))))))) (rfl))) (aaE h64) (by kernel_rfl) (by kernel_rfl)) (by kernel_rfl) (fq 1 [(2,.ptr 0 0),(6,.ptr 3 0),(60,aB (!x63))] ?_)
           rcases zo hm with ⟨h65,hm⟩ | ⟨h65,hm⟩
           ·
            refine c1 h65 (sq (dn [(4,aB false)] (wp_ret ?_)))
            obtain rfl:=Option.some.inj hm
            exact ⟨trivial,by kernel_rfl⟩
           ·
            refine c0 h65 (wp_skip (sq (det [(2,.ptr 0 0),(6,.ptr 3 0),(7,aR 4 1 0)] [.box (zc2 a0) false,.box (zc2 a1) false,bR 66 9 zg y42 0 0,.box (zc41 a0 y36 y37 y38 y39 y41 y42) false,bR 3 1 (rI .i64) ([]:List Int) 0 0] (by kernel_rfl) ?_)))
            obtain ⟨k75,hk75,hm⟩:=zz hm
            refine mid (fun t H=>(∃ (y66:(List zm)) (y67:(List Int)) (y68:Int) (y69:Bool) (g71:Nat) (g73:Nat),k75 y67=some r∧t=mk 102 [(2,.ptr 0 0),(6,.ptr 3 0),(7,aR 4 1 g73),(64,aI (y42.length:Int)),(65,aI y68),(66,aB y69)]∧H=[.box (zc2 a0) false,.box (zc2 a1) false,bR 66 9 zg y66 g71 0,.box (zc41 a0 y36 y37 y38 y39 y41 y42) false,bR 3 1 (rI .i64) y67 0 0]∧y66.length=y42.length∧g71≤y66.length∧y67.length=g73)) ?_ ?_
            ·
             rintro _ _ ⟨y66,y67,y68,y69,g71,g73,hm,rfl,rfl,q70,q72,q74⟩
             subst hk75
             obtain ⟨k78,hk78,hm⟩:=zz hm
             refine mid (fun t H=>(∃ (y76:Int) (y77:Bool),k78 ()=some r∧t=mk 102 [(2,.ptr 0 0),(7,aR 4 1 g73),(85,aI ((sll a0.fKids).length:Int)),(86,aI y76),(87,aB y77)]∧H=[.box (zc2 a0) false,.box (zc2 a1) false,bR 66 9 zg y66 g71 0,.box (zc41 a0 y36 y37 y38 y39 y41 y42) false,bR 3 1 (rI .i64) y67 0 0])) ?_ ?_
             ·
              rintro _ _ ⟨y76,y77,hm,rfl,rfl⟩
              subst hk78
              refine sq (rg ?_)
              obtain ⟨x79,h80,hm⟩:=bs hm
              refine dv 101 (zE (by kernel_rfl) (Qx h80) (by kernel_rfl) (by kernel_rfl) (by kernel_rfl)) (by kernel_rfl) (fq 1 [(4,aB x79)] (wp_ret ?_))
              obtain rfl:=Option.some.inj hm
              exact ⟨trivial,by kernel_rfl⟩
             refine sq (rg (s1 2 [(84,.pv (zh zg a0.fKids)),(83,.ptr 0 8)] (dv 85 (v:=aI ((sll a0.fKids).length:Int)) (zy zg a0.fKids t64 (by kernel_rfl)) (by kernel_rfl) (fq 1 [(2,.ptr 0 0),(7,aR 4 1 g73),(85,aI ((sll a0.fKids).length:Int)),(86,aI 0)] (bq ?_)))))
             refine ZY (fun mm t H=>(∃ (y82:Int),Zn n a0 y67 k78 mm y82=some r∧t=mk 102 [(2,.ptr 0 0),(7,aR 4 1 g73),(85,aI ((sll a0.fKids).length:Int)),(86,aI y82)]∧H=[.box (zc2 a0) false,.box (zc2 a1) false,bR 66 9 zg y66 g71 0,.box (zc41 a0 y36 y37 y38 y39 y41 y42) false,bR 3 1 (rI .i64) y67 0 0])) (⟨0,hm,rfl,rfl⟩) ?_ ?_
             · rintro _ _ ⟨y82,hm,_⟩; exact nomatch hm
             rintro m83 _ _ ⟨y82,hm,rfl,rfl⟩
             simp only [Zn] at hm
             refine sq (dn [(2,.ptr 0 0),(7,aR 4 1 g73),(85,aI ((sll a0.fKids).length:Int)),(86,aI y82),(87,aB (decide (y82 < ((sll a0.fKids).length:Int))))] ?_)
             refine sq ?_
             rcases zo hm with ⟨h84,hm⟩ | ⟨h84,hm⟩
             ·
              refine c1 h84 (wp_skip (sq (bq (sq (dn [(2,.ptr 0 0),(7,aR 4 1 g73),(9,aI y82),(85,aI ((sll a0.fKids).length:Int)),(86,aI y82)] (sq (rgd (shd 3 [(91,aI y82),(90,.pv (zh zg a0.fKids)),(89,.ptr 0 8)] (by kernel_rfl) ?_))))))))
              obtain ⟨x85,h86,hm⟩:=bs hm
              refine dvd 92 (v:=.pv (.ptr (zG (zd x85)) 0)) (Zd zg a0.fKids .i64 t64 t66 h86 (zF x85) rfl (by kernel_rfl)) (by kernel_rfl) (shd 4 [(96,aI y82),(95,aR 4 1 g73),(94,aI ((zd x85).fKind)),(93,.pv (.ptr (zG (zd x85)) 0))] (by kernel_rfl) ?_)
              obtain ⟨x87,h88,hm⟩:=bs hm
              refine dvd 97 (v:=.eptr 4 0 g73 1 (0+Int.toNat y82) 0) (Q7 y67 .i64 (n:=g73) (id:=4) (esz:=1) t33 t3 h88 (by omega) rfl (by kernel_rfl)) (by kernel_rfl) (dvd 98 (v:=aI x87) (adP (rI .i64) y67 (n:=g73) (esz:=1) (j:=y82) (off:=0) (id:=4) t3 rfl h88 (by omega) (Nat.zero_le _) (by kernel_rfl) (by kernel_rfl)) (by kernel_rfl) (shd 1 [(99,aB (((zd x85).fKind) != x87))] (by kernel_rfl) (find [(2,.ptr 0 0),(7,aR 4 1 g73),(85,aI ((sll a0.fKids).length:Int)),(86,aI y82),(99,aB (((zd x85).fKind) != x87))] rfl (by kernel_rfl) (by kernel_rfl) ?_)))
              rcases zo hm with ⟨h89,hm⟩ | ⟨h89,hm⟩
              ·
               refine c1 h89 (sq (dn [(4,aB false)] (wp_ret ?_)))
               obtain rfl:=Option.some.inj hm
               exact ⟨trivial,by kernel_rfl⟩
              ·
               refine c0 h89 (wp_skip (dn [(2,.ptr 0 0),(7,aR 4 1 g73),(85,aI ((sll a0.fKids).length:Int)),(86,aI (IntKind.wrap .i64 (y82+1)))] ?_))
               exact ⟨_,_,Zh [(2,.ptr 0 0),(7,aR 4 1 g73),(85,aI ((sll a0.fKids).length:Int)),(86,aI (IntKind.wrap .i64 (y82+1)))] [.box (zc2 a0) false,.box (zc2 a1) false,bR 66 9 zg y66 g71 0,.box (zc41 a0 y36 y37 y38 y39 y41 y42) false,bR 3 1 (rI .i64) y67 0 0] (by kernel_rfl),⟨(IntKind.wrap .i64 (y82+1)),hm,rfl,rfl⟩⟩
             ·
              refine c0 h84 (wp_exit ?_)
              exact ⟨y82,(decide (y82 < ((sll a0.fKids).length:Int))),hm,rfl,rfl⟩
            refine sq (rg (s1 2 [(63,aR 2 9 y42.length),(62,.ptr 3 8)] (dv 64 (v:=aI (y42.length:Int)) (acu y42 (n:=y42.length) (id:=2) (esz:=9) t64 rfl (by kernel_rfl)) (by kernel_rfl) (fq 1 [(2,.ptr 0 0),(6,.ptr 3 0),(7,aR 4 1 0),(64,aI (y42.length:Int)),(65,aI 0)] (bq ?_)))))
            refine ZY (fun mm t H=>(∃ (y98:(List zm)) (y99:(List Int)) (y100:Int) (g102:Nat) (g104:Nat),ZR n a0 y42 k75 mm y98 y99 y100=some r∧t=mk 102 [(2,.ptr 0 0),(6,.ptr 3 0),(7,aR 4 1 g104),(64,aI (y42.length:Int)),(65,aI y100)]∧H=[.box (zc2 a0) false,.box (zc2 a1) false,bR 66 9 zg y98 g102 0,.box (zc41 a0 y36 y37 y38 y39 y41 y42) false,bR 3 1 (rI .i64) y99 0 0]∧y98.length=y42.length∧g102≤y98.length∧y99.length=g104)) (⟨y42,([]:List Int),0,0,0,hm,rfl,rfl,(by first | rfl | assumption | omega | (simp only [List.length_set,List.length_append,List.length_cons,List.length_nil,List.length_replicate,List.length_drop] at * <;> omega)),(by first | exact Nat.zero_le _ | exact Nat.le_refl _ | assumption | omega | (simp only [List.length_set,List.length_append,List.length_cons,List.length_nil,List.length_replicate,List.length_drop] at * <;> omega)),(by first | rfl | assumption | omega | (simp only [List.length_set,List.length_append,List.length_cons,List.length_nil,List.length_replicate,List.length_drop] at * <;> omega))⟩) ?_ ?_
            · rintro _ _ ⟨y98,y99,y100,g102,g104,hm,_⟩; exact nomatch hm
            rintro m106 _ _ ⟨y98,y99,y100,g102,g104,hm,rfl,rfl,q101,q103,q105⟩
            simp only [ZR] at hm
            refine sq (dn [(2,.ptr 0 0),(6,.ptr 3 0),(7,aR 4 1 g104),(64,aI (y42.length:Int)),(65,aI y100),(66,aB (decide (y100 < (y42.length:Int))))] ?_)
            refine sq ?_
            rcases zo hm with ⟨h107,hm⟩ | ⟨h107,hm⟩
            ·
             refine c1 h107 (wp_skip (sq (bq (sq (dn [(2,.ptr 0 0),(6,.ptr 3 0),(7,aR 4 1 g104),(8,aI y100),(64,aI (y42.length:Int)),(65,aI y100)] (sq (rg (s1 4 [(71,aI y100),(70,.pv (zh zg a0.fKids)),(69,.ptr 0 8),(68,aR 4 1 g104)] ?_))))))))
             obtain ⟨x108,h109,hm⟩:=bs hm
             refine dv 72 (v:=.pv (.ptr (zG (zd x108)) 0)) (Zd zg a0.fKids .i64 t64 t66 h109 (zF x108) rfl (by kernel_rfl)) (by kernel_rfl) (st 3 [(75,aR 5 1 1),(74,aI ((zd x108).fKind)),(73,.pv (.ptr (zG (zd x108)) 0))] [.box (zc2 a0) false,.box (zc2 a1) false,bR 66 9 zg y98 g102 0,.box (zc41 a0 y36 y37 y38 y39 y41 y42) false,bR 3 1 (rI .i64) y99 0 0,bR 3 1 (rI .i64) ([(zd x108).fKind]:List Int) 0 0] (by kernel_rfl) ?_)
             obtain ⟨_,h110,hm⟩:=bs hm
             refine dO [(76,aR 4 1 ((y99++([(zd x108).fKind]:List Int)).length))] [.box (zc2 a0) false,.box (zc2 a1) false,bR 66 9 zg y98 g102 0,.box (zc41 a0 y36 y37 y38 y39 y41 y42) false,bR 3 1 (rI .i64) (y99++([(zd x108).fKind]:List Int)) 0 0,bR 3 1 (rI .i64) ([(zd x108).fKind]:List Int) 0 0] (Z5 (u:=0) (n:=g104) (id:=4) (rI .i64) y99 ([(zd x108).fKind]:List Int) (b:=8) t33 t3 rfl rfl rfl (fun _=>rfl) rfl h110 rfl (by omega) (Nat.zero_le _) (show zT (aR 5 1 1) _=some (([(zd x108).fKind]:List Int).map (rI .i64)) from by kernel_rfl) (by kernel_rfl)) (by kernel_rfl) (fq 1 [(2,.ptr 0 0),(6,.ptr 3 0),(7,aR 4 1 ((y99++([(zd x108).fKind]:List Int)).length)),(8,aI y100),(64,aI (y42.length:Int)),(65,aI y100)] (rg (s1 3 [(79,aI y100),(78,aR 2 9 y42.length),(77,.ptr 3 8)] ?_)))
             obtain ⟨x111,h112,hm⟩:=bs hm
             refine dv 80 (v:=.eptr 2 0 y42.length 9 (0+Int.toNat y100) 0) (Q7 y98 .i64 (n:=y42.length) (id:=2) (esz:=9) t64 t66 h112 (by omega) rfl (by kernel_rfl)) (by kernel_rfl) (s1 1 [(81,.eptr 2 0 y42.length 9 (0+Int.toNat y100) 0)] (dO [] [.box (zc2 a0) false,.box (zc2 a1) false,bR 66 9 zg (y98.set (Int.toNat y100) (zl (zk.mk (-5) ((zd x111).fRel) ((zd x111).fWhere) ((zd x111).fLeft) ((zd x111).fRight) ((zd x111).fOut) ((zd x111).fAggs) ((zd x111).fOrder) ((zd x111).fKids)))) y42.length 0,.box (zc41 a0 y36 y37 y38 y39 y41 y42) false,bR 3 1 (rI .i64) (y99++([(zd x108).fKind]:List Int)) 0 0,bR 3 1 (rI .i64) ([(zd x108).fKind]:List Int) 0 0] (aen zg y98 (zl (zk.mk (-5) ((zd x111).fRel) ((zd x111).fWhere) ((zd x111).fLeft) ((zd x111).fRight) ((zd x111).fOut) ((zd x111).fAggs) ((zd x111).fOrder) ((zd x111).fKids))) (n:=y42.length) (esz:=9) (v:=aI (-5)) (j:=y100) (off:=0) (id:=2) t3 rfl h112 (by omega) (by omega) rfl rfl rfl (zF x111) rfl (by kernel_rfl)) (by kernel_rfl) (fin [(2,.ptr 0 0),(6,.ptr 3 0),(7,aR 4 1 ((y99++([(zd x108).fKind]:List Int)).length)),(64,aI (y42.length:Int)),(65,aI y100)] rfl (by kernel_rfl) (dn [(2,.ptr 0 0),(6,.ptr 3 0),(7,aR 4 1 ((y99++([(zd x108).fKind]:List Int)).length)),(64,aI (y42.length:Int)),(65,aI (IntKind.wrap .i64 (y100+1)))] ?_))))
             exact ⟨_,_,Zh [(2,.ptr 0 0),(6,.ptr 3 0),(7,aR 4 1 ((y99++([(zd x108).fKind]:List Int)).length)),(64,aI (y42.length:Int)),(65,aI (IntKind.wrap .i64 (y100+1)))] [.box (zc2 a0) false,.box (zc2 a1) false,bR 66 9 zg (y98.set (Int.toNat y100) (zl (zk.mk (-5) ((zd x111).fRel) ((zd x111).fWhere) ((zd x111).fLeft) ((zd x111).fRight) ((zd x111).fOut) ((zd x111).fAggs) ((zd x111).fOrder) ((zd x111).fKids)))) y42.length 0,.box (zc41 a0 y36 y37 y38 y39 y41 y42) false,bR 3 1 (rI .i64) (y99++([(zd x108).fKind]:List Int)) 0 0] (by kernel_rfl),⟨(y98.set (Int.toNat y100) (zl (zk.mk (-5) ((zd x111).fRel) ((zd x111).fWhere) ((zd x111).fLeft) ((zd x111).fRight) ((zd x111).fOut) ((zd x111).fAggs) ((zd x111).fOrder) ((zd x111).fKids)))),(y99++([(zd x108).fKind]:List Int)),(IntKind.wrap .i64 (y100+1)),y42.length,(y99++([(zd x108).fKind]:List Int)).length,hm,rfl,rfl,(by first | rfl | assumption | omega | (simp only [List.length_set,List.length_append,List.length_cons,List.length_nil,List.length_replicate,List.length_drop] at * <;> omega)),(by first | exact Nat.zero_le _ | exact Nat.le_refl _ | assumption | omega | (simp only [List.length_set,List.length_append,List.length_cons,List.length_nil,List.length_replicate,List.length_drop] at * <;> omega)),(by first | rfl | assumption | omega | (simp only [List.length_set,List.length_append,List.length_cons,List.length_nil,List.length_replicate,List.length_drop] at * <;> omega))⟩⟩
            ·
             refine c0 h107 (wp_exit ?_)
             exact ⟨y98,y99,y100,(decide (y100 < (y42.length:Int))),g102,g104,hm,rfl,rfl,(by first | rfl | assumption | omega | (simp only [List.length_set,List.length_append,List.length_cons,List.length_nil,List.length_replicate,List.length_drop] at * <;> omega)),(by first | exact Nat.zero_le _ | exact Nat.le_refl _ | assumption | omega | (simp only [List.length_set,List.length_append,List.length_cons,List.length_nil,List.length_replicate,List.length_drop] at * <;> omega)),(by first | rfl | assumption | omega | (simp only [List.length_set,List.length_append,List.length_cons,List.length_nil,List.length_replicate,List.length_drop] at * <;> omega))⟩
          ·
           subst hk43
           refine sq (sq (rg (s1 2 [(58,.agg (zc2 a0)),(57,.agg (zc42 a0 y36 y37 y38 y39 y40 y41))] ?_)))
           obtain ⟨x113,h114,hm⟩:=bs hm
           refine dO [(59,aB x113)] [.box (zc2 a0) false,.box (zc2 a1) false,bR 101 9 zn y40 0 0,.box (zc42 a0 y36 y37 y38 y39 y40 y41) false] (ajs [2] [.agg (zc42 a0 y36 y37 y38 y39 y40 y41),.agg (zc2 a0)] (fl:=true) (by kernel_rfl) (by kernel_rfl) (qy (afb (zq (zw) (zq (zw) (zq (zw) (zq (zw) (zq (zw) (zq (zw) (zq (ZO (n:=y40.length) (id:=2) (l:=y40) (R:=zn) rfl rfl (Nat.zero_le _)) (zq (zw) (zq (zw) (rfl))))))))))) (qy (afb (zq (zw) (zq (zw) (zq (zw) (zq (zw) (zq (zw) (zq (zw) (zq (zw) (zq (zw) (zq (zw) (rfl))))))))))) (rfl))) (aaE h114) (by kernel_rfl) (by kernel_rfl)) (by kernel_rfl) (fq 1 [(2,.ptr 0 0),(6,.ptr 3 0),(60,aB (!x113))] ?_)
           rcases zo hm with ⟨h115,hm⟩ | ⟨h115,hm⟩
           ·
            refine c1 h115 (sq (dn [(4,aB false)] (wp_ret ?_)))
            obtain rfl:=Option.some.inj hm
            exact ⟨trivial,by kernel_rfl⟩
           ·
            refine c0 h115 (wp_skip (sq (det [(2,.ptr 0 0),(6,.ptr 3 0),(7,aR 4 1 0)] [.box (zc2 a0) false,.box (zc2 a1) false,bR 101 9 zn y40 0 0,.box (zc42 a0 y36 y37 y38 y39 y40 y41) false,bR 3 1 (rI .i64) ([]:List Int) 0 0] (by kernel_rfl) ?_)))
            obtain ⟨k116,hk116,hm⟩:=zz hm
            refine mid (fun t H=>(k116 ()=some r∧t=mk 102 [(2,.ptr 0 0),(6,.ptr 3 0),(7,aR 4 1 0),(64,aI 0),(65,aI 0),(66,aB false)]∧H=[.box (zc2 a0) false,.box (zc2 a1) false,bR 101 9 zn y40 0 0,.box (zc42 a0 y36 y37 y38 y39 y40 y41) false,bR 3 1 (rI .i64) ([]:List Int) 0 0])) ?_ ?_
            ·
             rintro _ _ ⟨hm,rfl,rfl⟩
             subst hk116
             obtain ⟨k119,hk119,hm⟩:=zz hm
             refine mid (fun t H=>(∃ (y117:Int) (y118:Bool),k119 ()=some r∧t=mk 102 [(2,.ptr 0 0),(7,aR 4 1 0),(85,aI ((sll a0.fKids).length:Int)),(86,aI y117),(87,aB y118)]∧H=[.box (zc2 a0) false,.box (zc2 a1) false,bR 101 9 zn y40 0 0,.box (zc42 a0 y36 y37 y38 y39 y40 y41) false,bR 3 1 (rI .i64) ([]:List Int) 0 0])) ?_ ?_
             ·
              rintro _ _ ⟨y117,y118,hm,rfl,rfl⟩
              subst hk119
              refine sq (rg ?_)
              obtain ⟨x120,h121,hm⟩:=bs hm
              refine dv 101 (zE (by kernel_rfl) (Qx h121) (by kernel_rfl) (by kernel_rfl) (by kernel_rfl)) (by kernel_rfl) (fq 1 [(4,aB x120)] (wp_ret ?_))
              obtain rfl:=Option.some.inj hm
              exact ⟨trivial,by kernel_rfl⟩
             refine sq (rg (s1 2 [(84,.pv (zh zg a0.fKids)),(83,.ptr 0 8)] (dv 85 (v:=aI ((sll a0.fKids).length:Int)) (zy zg a0.fKids t64 (by kernel_rfl)) (by kernel_rfl) (fq 1 [(2,.ptr 0 0),(7,aR 4 1 0),(85,aI ((sll a0.fKids).length:Int)),(86,aI 0)] (bq ?_)))))
             refine ZY (fun mm t H=>(∃ (y123:Int),qd n a0 k119 mm y123=some r∧t=mk 102 [(2,.ptr 0 0),(7,aR 4 1 0),(85,aI ((sll a0.fKids).length:Int)),(86,aI y123)]∧H=[.box (zc2 a0) false,.box (zc2 a1) false,bR 101 9 zn y40 0 0,.box (zc42 a0 y36 y37 y38 y39 y40 y41) false,bR 3 1 (rI .i64) ([]:List Int) 0 0])) (⟨0,hm,rfl,rfl⟩) ?_ ?_
             · rintro _ _ ⟨y123,hm,_⟩; exact nomatch hm
             rintro m124 _ _ ⟨y123,hm,rfl,rfl⟩
             simp only [qd] at hm
             refine sq (dn [(2,.ptr 0 0),(7,aR 4 1 0),(85,aI ((sll a0.fKids).length:Int)),(86,aI y123),(87,aB (decide (y123 < ((sll a0.fKids).length:Int))))] ?_)
             refine sq ?_
             rcases zo hm with ⟨h125,hm⟩ | ⟨h125,hm⟩
             ·
              refine c1 h125 (wp_skip (sq (bq (sq (dn [(2,.ptr 0 0),(7,aR 4 1 0),(9,aI y123),(85,aI ((sll a0.fKids).length:Int)),(86,aI y123)] (sq (rgd (shd 3 [(91,aI y123),(90,.pv (zh zg a0.fKids)),(89,.ptr 0 8)] (by kernel_rfl) ?_))))))))
              obtain ⟨x126,h127,hm⟩:=bs hm
              refine dvd 92 (v:=.pv (.ptr (zG (zd x126)) 0)) (Zd zg a0.fKids .i64 t64 t66 h127 (zF x126) rfl (by kernel_rfl)) (by kernel_rfl) (shd 4 [(96,aI y123),(95,aR 4 1 0),(94,aI ((zd x126).fKind)),(93,.pv (.ptr (zG (zd x126)) 0))] (by kernel_rfl) ?_)
              obtain ⟨x128,h129,hm⟩:=bs hm
              refine dvd 97 (v:=.eptr 4 0 0 1 (0+Int.toNat y123) 0) (Q7 ([]:List Int) .i64 (n:=0) (id:=4) (esz:=1) t33 t3 h129 (by first | rfl | assumption | omega | (simp only [List.length_set,List.length_append,List.length_cons,List.length_nil,List.length_replicate,List.length_drop] at * <;> omega)) rfl (by kernel_rfl)) (by kernel_rfl) (dvd 98 (v:=aI x128) (adP (rI .i64) ([]:List Int) (n:=0) (esz:=1) (j:=y123) (off:=0) (id:=4) t3 rfl h129 (by first | rfl | assumption | omega | (simp only [List.length_set,List.length_append,List.length_cons,List.length_nil,List.length_replicate,List.length_drop] at * <;> omega)) (Nat.zero_le _) (by kernel_rfl) (by kernel_rfl)) (by kernel_rfl) (shd 1 [(99,aB (((zd x126).fKind) != x128))] (by kernel_rfl) (find [(2,.ptr 0 0),(7,aR 4 1 0),(85,aI ((sll a0.fKids).length:Int)),(86,aI y123),(99,aB (((zd x126).fKind) != x128))] rfl (by kernel_rfl) (by kernel_rfl) ?_)))
              rcases zo hm with ⟨h130,hm⟩ | ⟨h130,hm⟩
              ·
               refine c1 h130 (sq (dn [(4,aB false)] (wp_ret ?_)))
               obtain rfl:=Option.some.inj hm
               exact ⟨trivial,by kernel_rfl⟩
              ·
               refine c0 h130 (wp_skip (dn [(2,.ptr 0 0),(7,aR 4 1 0),(85,aI ((sll a0.fKids).length:Int)),(86,aI (IntKind.wrap .i64 (y123+1)))] ?_))
               exact ⟨_,_,Zh [(2,.ptr 0 0),(7,aR 4 1 0),(85,aI ((sll a0.fKids).length:Int)),(86,aI (IntKind.wrap .i64 (y123+1)))] [.box (zc2 a0) false,.box (zc2 a1) false,bR 101 9 zn y40 0 0,.box (zc42 a0 y36 y37 y38 y39 y40 y41) false,bR 3 1 (rI .i64) ([]:List Int) 0 0] (by kernel_rfl),⟨(IntKind.wrap .i64 (y123+1)),hm,rfl,rfl⟩⟩
             ·
              refine c0 h125 (wp_exit ?_)
              exact ⟨y123,(decide (y123 < ((sll a0.fKids).length:Int))),hm,rfl,rfl⟩
            refine sq (dn [(2,.ptr 0 0),(6,.ptr 3 0),(7,aR 4 1 0),(64,aI 0),(65,aI 0)] (bq ?_))
            refine ZY (fun mm t H=>(qx n k116 mm=some r∧t=mk 102 [(2,.ptr 0 0),(6,.ptr 3 0),(7,aR 4 1 0),(64,aI 0),(65,aI 0)]∧H=[.box (zc2 a0) false,.box (zc2 a1) false,bR 101 9 zn y40 0 0,.box (zc42 a0 y36 y37 y38 y39 y40 y41) false,bR 3 1 (rI .i64) ([]:List Int) 0 0])) (⟨hm,rfl,rfl⟩) ?_ ?_
            · rintro _ _ ⟨hm,_⟩; exact nomatch hm
            rintro m131 _ _ ⟨hm,rfl,rfl⟩
            simp only [qx] at hm
            refine sq (dn [(2,.ptr 0 0),(6,.ptr 3 0),(7,aR 4 1 0),(64,aI 0),(65,aI 0),(66,aB false)] (sq (cF (by kernel_rfl) (wp_exit ?_))))
            exact ⟨hm,rfl,rfl⟩
          ·
           subst hk43
           refine sq (sq (rg (s1 2 [(58,.agg (zc2 a0)),(57,.agg (zc43 a0 y36 y37 y38 y39 y40 y41 y42))] ?_)))
           obtain ⟨x132,h133,hm⟩:=bs hm
           refine dO [(59,aB x132)] [.box (zc2 a0) false,.box (zc2 a1) false,bR 101 9 zn y40 0 0,bR 66 9 zg y42 0 0,.box (zc43 a0 y36 y37 y38 y39 y40 y41 y42) false] (ajs [2,3] [.agg (zc43 a0 y36 y37 y38 y39 y40 y41 y42),.agg (zc2 a0)] (fl:=true) (by kernel_rfl) (by kernel_rfl) (qy (afb (zq (zw) (zq (zw) (zq (zw) (zq (zw) (zq (zw) (zq (zw) (zq (ZO (n:=y40.length) (id:=2) (l:=y40) (R:=zn) rfl rfl (Nat.zero_le _)) (zq (zw) (zq (ZO (n:=y42.length) (id:=3) (l:=y42) (R:=zg) rfl rfl (Nat.zero_le _)) (rfl))))))))))) (qy (afb (zq (zw) (zq (zw) (zq (zw) (zq (zw) (zq (zw) (zq (zw) (zq (zw) (zq (zw) (zq (zw) (rfl))))))))))) (rfl))) (aaE h133) (by kernel_rfl) (by kernel_rfl)) (by kernel_rfl) (fq 1 [(2,.ptr 0 0),(6,.ptr 4 0),(60,aB (!x132))] ?_)
           rcases zo hm with ⟨h134,hm⟩ | ⟨h134,hm⟩
           ·
            refine c1 h134 (sq (dn [(4,aB false)] (wp_ret ?_)))
            obtain rfl:=Option.some.inj hm
            exact ⟨trivial,by kernel_rfl⟩
           ·
            refine c0 h134 (wp_skip (sq (det [(2,.ptr 0 0),(6,.ptr 4 0),(7,aR 5 1 0)] [.box (zc2 a0) false,.box (zc2 a1) false,bR 101 9 zn y40 0 0,bR 66 9 zg y42 0 0,.box (zc43 a0 y36 y37 y38 y39 y40 y41 y42) false,bR 3 1 (rI .i64) ([]:List Int) 0 0] (by kernel_rfl) ?_)))
            obtain ⟨k144,hk144,hm⟩:=zz hm
            refine mid (fun t H=>(∃ (y135:(List zm)) (y136:(List Int)) (y137:Int) (y138:Bool) (g140:Nat) (g142:Nat),k144 y136=some r∧t=mk 102 [(2,.ptr 0 0),(6,.ptr 4 0),(7,aR 5 1 g142),(64,aI (y42.length:Int)),(65,aI y137),(66,aB y138)]∧H=[.box (zc2 a0) false,.box (zc2 a1) false,bR 101 9 zn y40 0 0,bR 66 9 zg y135 g140 0,.box (zc43 a0 y36 y37 y38 y39 y40 y41 y42) false,bR 3 1 (rI .i64) y136 0 0]∧y135.length=y42.length∧g140≤y135.length∧y136.length=g142)) ?_ ?_
            ·
             rintro _ _ ⟨y135,y136,y137,y138,g140,g142,hm,rfl,rfl,q139,q141,q143⟩
             subst hk144
             obtain ⟨k147,hk147,hm⟩:=zz hm
             refine mid (fun t H=>(∃ (y145:Int) (y146:Bool),k147 ()=some r∧t=mk 102 [(2,.ptr 0 0),(7,aR 5 1 g142),(85,aI ((sll a0.fKids).length:Int)),(86,aI y145),(87,aB y146)]∧H=[.box (zc2 a0) false,.box (zc2 a1) false,bR 101 9 zn y40 0 0,bR 66 9 zg y135 g140 0,.box (zc43 a0 y36 y37 y38 y39 y40 y41 y42) false,bR 3 1 (rI .i64) y136 0 0])) ?_ ?_
             ·
              rintro _ _ ⟨y145,y146,hm,rfl,rfl⟩
              subst hk147
              refine sq (rg ?_)
              obtain ⟨x148,h149,hm⟩:=bs hm
              refine dv 101 (zE (by kernel_rfl) (Qx h149) (by kernel_rfl) (by kernel_rfl) (by kernel_rfl)) (by kernel_rfl) (fq 1 [(4,aB x148)] (wp_ret ?_))
              obtain rfl:=Option.some.inj hm
              exact ⟨trivial,by kernel_rfl⟩
             refine sq (rg (s1 2 [(84,.pv (zh zg a0.fKids)),(83,.ptr 0 8)] (dv 85 (v:=aI ((sll a0.fKids).length:Int)) (zy zg a0.fKids t64 (by kernel_rfl)) (by kernel_rfl) (fq 1 [(2,.ptr 0 0),(7,aR 5 1 g142),(85,aI ((sll a0.fKids).length:Int)),(86,aI 0)] (bq ?_)))))
             refine ZY (fun mm t H=>(∃ (y151:Int),Ze n a0 y136 k147 mm y151=some r∧t=mk 102 [(2,.ptr 0 0),(7,aR 5 1 g142),(85,aI ((sll a0.fKids).length:Int)),(86,aI y151)]∧H=[.box (zc2 a0) false,.box (zc2 a1) false,bR 101 9 zn y40 0 0,bR 66 9 zg y135 g140 0,.box (zc43 a0 y36 y37 y38 y39 y40 y41 y42) false,bR 3 1 (rI .i64) y136 0 0])) (⟨0,hm,rfl,rfl⟩) ?_ ?_
             · rintro _ _ ⟨y151,hm,_⟩; exact nomatch hm
             rintro m152 _ _ ⟨y151,hm,rfl,rfl⟩
             simp only [Ze] at hm
             refine sq (dn [(2,.ptr 0 0),(7,aR 5 1 g142),(85,aI ((sll a0.fKids).length:Int)),(86,aI y151),(87,aB (decide (y151 < ((sll a0.fKids).length:Int))))] ?_)
             refine sq ?_
             rcases zo hm with ⟨h153,hm⟩ | ⟨h153,hm⟩
             ·
              refine c1 h153 (wp_skip (sq (bq (sq (dn [(2,.ptr 0 0),(7,aR 5 1 g142),(9,aI y151),(85,aI ((sll a0.fKids).length:Int)),(86,aI y151)] (sq (rgd (shd 3 [(91,aI y151),(90,.pv (zh zg a0.fKids)),(89,.ptr 0 8)] (by kernel_rfl) ?_))))))))
              obtain ⟨x154,h155,hm⟩:=bs hm
              refine dvd 92 (v:=.pv (.ptr (zG (zd x154)) 0)) (Zd zg a0.fKids .i64 t64 t66 h155 (zF x154) rfl (by kernel_rfl)) (by kernel_rfl) (shd 4 [(96,aI y151),(95,aR 5 1 g142),(94,aI ((zd x154).fKind)),(93,.pv (.ptr (zG (zd x154)) 0))] (by kernel_rfl) ?_)
              obtain ⟨x156,h157,hm⟩:=bs hm
              refine dvd 97 (v:=.eptr 5 0 g142 1 (0+Int.toNat y151) 0) (Q7 y136 .i64 (n:=g142) (id:=5) (esz:=1) t33 t3 h157 (by omega) rfl (by kernel_rfl)) (by kernel_rfl) (dvd 98 (v:=aI x156) (adP (rI .i64) y136 (n:=g142) (esz:=1) (j:=y151) (off:=0) (id:=5) t3 rfl h157 (by omega) (Nat.zero_le _) (by kernel_rfl) (by kernel_rfl)) (by kernel_rfl) (shd 1 [(99,aB (((zd x154).fKind) != x156))] (by kernel_rfl) (find [(2,.ptr 0 0),(7,aR 5 1 g142),(85,aI ((sll a0.fKids).length:Int)),(86,aI y151),(99,aB (((zd x154).fKind) != x156))] rfl (by kernel_rfl) (by kernel_rfl) ?_)))
              rcases zo hm with ⟨h158,hm⟩ | ⟨h158,hm⟩
              ·
               refine c1 h158 (sq (dn [(4,aB false)] (wp_ret ?_)))
               obtain rfl:=Option.some.inj hm
               exact ⟨trivial,by kernel_rfl⟩
              ·
               refine c0 h158 (wp_skip (dn [(2,.ptr 0 0),(7,aR 5 1 g142),(85,aI ((sll a0.fKids).length:Int)),(86,aI (IntKind.wrap .i64 (y151+1)))] ?_))
               exact ⟨_,_,Zh [(2,.ptr 0 0),(7,aR 5 1 g142),(85,aI ((sll a0.fKids).length:Int)),(86,aI (IntKind.wrap .i64 (y151+1)))] [.box (zc2 a0) false,.box (zc2 a1) false,bR 101 9 zn y40 0 0,bR 66 9 zg y135 g140 0,.box (zc43 a0 y36 y37 y38 y39 y40 y41 y42) false,bR 3 1 (rI .i64) y136 0 0] (by kernel_rfl),⟨(IntKind.wrap .i64 (y151+1)),hm,rfl,rfl⟩⟩
             ·
              refine c0 h153 (wp_exit ?_)
              exact ⟨y151,(decide (y151 < ((sll a0.fKids).length:Int))),hm,rfl,rfl⟩
            refine sq (rg (s1 2 [(63,aR 3 9 y42.length),(62,.ptr 4 8)] (dv 64 (v:=aI (y42.length:Int)) (acu y42 (n:=y42.length) (id:=3) (esz:=9) t64 rfl (by kernel_rfl)) (by kernel_rfl) (fq 1 [(2,.ptr 0 0),(6,.ptr 4 0),(7,aR 5 1 0),(64,aI (y42.length:Int)),(65,aI 0)] (bq ?_)))))
            refine ZY (fun mm t H=>(∃ (y167:(List zm)) (y168:(List Int)) (y169:Int) (g171:Nat) (g173:Nat),ZD n a0 y42 k144 mm y167 y168 y169=some r∧t=mk 102 [(2,.ptr 0 0),(6,.ptr 4 0),(7,aR 5 1 g173),(64,aI (y42.length:Int)),(65,aI y169)]∧H=[.box (zc2 a0) false,.box (zc2 a1) false,bR 101 9 zn y40 0 0,bR 66 9 zg y167 g171 0,.box (zc43 a0 y36 y37 y38 y39 y40 y41 y42) false,bR 3 1 (rI .i64) y168 0 0]∧y167.length=y42.length∧g171≤y167.length∧y168.length=g173)) (⟨y42,([]:List Int),0,0,0,hm,rfl,rfl,(by first | rfl | assumption | omega | (simp only [List.length_set,List.length_append,List.length_cons,List.length_nil,List.length_replicate,List.length_drop] at * <;> omega)),(by first | exact Nat.zero_le _ | exact Nat.le_refl _ | assumption | omega | (simp only [List.length_set,List.length_append,List.length_cons,List.length_nil,List.length_replicate,List.length_drop] at * <;> omega)),(by first | rfl | assumption | omega | (simp only [List.length_set,List.length_append,List.length_cons,List.length_nil,List.length_replicate,List.length_drop] at * <;> omega))⟩) ?_ ?_
            · rintro _ _ ⟨y167,y168,y169,g171,g173,hm,_⟩; exact nomatch hm
            rintro m175 _ _ ⟨y167,y168,y169,g171,g173,hm,rfl,rfl,q170,q172,q174⟩
            simp only [ZD] at hm
            refine sq (dn [(2,.ptr 0 0),(6,.ptr 4 0),(7,aR 5 1 g173),(64,aI (y42.length:Int)),(65,aI y169),(66,aB (decide (y169 < (y42.length:Int))))] ?_)
            refine sq ?_
            rcases zo hm with ⟨h176,hm⟩ | ⟨h176,hm⟩
            ·
             refine c1 h176 (wp_skip (sq (bq (sq (dn [(2,.ptr 0 0),(6,.ptr 4 0),(7,aR 5 1 g173),(8,aI y169),(64,aI (y42.length:Int)),(65,aI y169)] (sq (rg (s1 4 [(71,aI y169),(70,.pv (zh zg a0.fKids)),(69,.ptr 0 8),(68,aR 5 1 g173)] ?_))))))))
             obtain ⟨x177,h178,hm⟩:=bs hm
             refine dv 72 (v:=.pv (.ptr (zG (zd x177)) 0)) (Zd zg a0.fKids .i64 t64 t66 h178 (zF x177) rfl (by kernel_rfl)) (by kernel_rfl) (st 3 [(75,aR 6 1 1),(74,aI ((zd x177).fKind)),(73,.pv (.ptr (zG (zd x177)) 0))] [.box (zc2 a0) false,.box (zc2 a1) false,bR 101 9 zn y40 0 0,bR 66 9 zg y167 g171 0,.box (zc43 a0 y36 y37 y38 y39 y40 y41 y42) false,bR 3 1 (rI .i64) y168 0 0,bR 3 1 (rI .i64) ([(zd x177).fKind]:List Int) 0 0] (by kernel_rfl) ?_)
             obtain ⟨_,h179,hm⟩:=bs hm
             refine dO [(76,aR 5 1 ((y168++([(zd x177).fKind]:List Int)).length))] [.box (zc2 a0) false,.box (zc2 a1) false,bR 101 9 zn y40 0 0,bR 66 9 zg y167 g171 0,.box (zc43 a0 y36 y37 y38 y39 y40 y41 y42) false,bR 3 1 (rI .i64) (y168++([(zd x177).fKind]:List Int)) 0 0,bR 3 1 (rI .i64) ([(zd x177).fKind]:List Int) 0 0] (Z5 (u:=0) (n:=g173) (id:=5) (rI .i64) y168 ([(zd x177).fKind]:List Int) (b:=8) t33 t3 rfl rfl rfl (fun _=>rfl) rfl h179 rfl (by omega) (Nat.zero_le _) (show zT (aR 6 1 1) _=some (([(zd x177).fKind]:List Int).map (rI .i64)) from by kernel_rfl) (by kernel_rfl)) (by kernel_rfl) (fq 1 [(2,.ptr 0 0),(6,.ptr 4 0),(7,aR 5 1 ((y168++([(zd x177).fKind]:List Int)).length)),(8,aI y169),(64,aI (y42.length:Int)),(65,aI y169)] (rg (s1 3 [(79,aI y169),(78,aR 3 9 y42.length),(77,.ptr 4 8)] ?_)))
             obtain ⟨x180,h181,hm⟩:=bs hm
             refine dv 80 (v:=.eptr 3 0 y42.length 9 (0+Int.toNat y169) 0) (Q7 y167 .i64 (n:=y42.length) (id:=3) (esz:=9) t64 t66 h181 (by omega) rfl (by kernel_rfl)) (by kernel_rfl) (s1 1 [(81,.eptr 3 0 y42.length 9 (0+Int.toNat y169) 0)] (dO [] [.box (zc2 a0) false,.box (zc2 a1) false,bR 101 9 zn y40 0 0,bR 66 9 zg (y167.set (Int.toNat y169) (zl (zk.mk (-5) ((zd x180).fRel) ((zd x180).fWhere) ((zd x180).fLeft) ((zd x180).fRight) ((zd x180).fOut) ((zd x180).fAggs) ((zd x180).fOrder) ((zd x180).fKids)))) y42.length 0,.box (zc43 a0 y36 y37 y38 y39 y40 y41 y42) false,bR 3 1 (rI .i64) (y168++([(zd x177).fKind]:List Int)) 0 0,bR 3 1 (rI .i64) ([(zd x177).fKind]:List Int) 0 0] (aen zg y167 (zl (zk.mk (-5) ((zd x180).fRel) ((zd x180).fWhere) ((zd x180).fLeft) ((zd x180).fRight) ((zd x180).fOut) ((zd x180).fAggs) ((zd x180).fOrder) ((zd x180).fKids))) (n:=y42.length) (esz:=9) (v:=aI (-5)) (j:=y169) (off:=0) (id:=3) t3 rfl h181 (by omega) (by omega) rfl rfl rfl (zF x180) rfl (by kernel_rfl)) (by kernel_rfl) (fin [(2,.ptr 0 0),(6,.ptr 4 0),(7,aR 5 1 ((y168++([(zd x177).fKind]:List Int)).length)),(64,aI (y42.length:Int)),(65,aI y169)] rfl (by kernel_rfl) (dn [(2,.ptr 0 0),(6,.ptr 4 0),(7,aR 5 1 ((y168++([(zd x177).fKind]:List Int)).length)),(64,aI (y42.length:Int)),(65,aI (IntKind.wrap .i64 (y169+1)))] ?_))))
             exact ⟨_,_,Zh [(2,.ptr 0 0),(6,.ptr 4 0),(7,aR 5 1 ((y168++([(zd x177).fKind]:List Int)).length)),(64,aI (y42.length:Int)),(65,aI (IntKind.wrap .i64 (y169+1)))] [.box (zc2 a0) false,.box (zc2 a1) false,bR 101 9 zn y40 0 0,bR 66 9 zg (y167.set (Int.toNat y169) (zl (zk.mk (-5) ((zd x180).fRel) ((zd x180).fWhere) ((zd x180).fLeft) ((zd x180).fRight) ((zd x180).fOut) ((zd x180).fAggs) ((zd x180).fOrder) ((zd x180).fKids)))) y42.length 0,.box (zc43 a0 y36 y37 y38 y39 y40 y41 y42) false,bR 3 1 (rI .i64) (y168++([(zd x177).fKind]:List Int)) 0 0] (by kernel_rfl),⟨(y167.set (Int.toNat y169) (zl (zk.mk (-5) ((zd x180).fRel) ((zd x180).fWhere) ((zd x180).fLeft) ((zd x180).fRight) ((zd x180).fOut) ((zd x180).fAggs) ((zd x180).fOrder) ((zd x180).fKids)))),(y168++([(zd x177).fKind]:List Int)),(IntKind.wrap .i64 (y169+1)),y42.length,(y168++([(zd x177).fKind]:List Int)).length,hm,rfl,rfl,(by first | rfl | assumption | omega | (simp only [List.length_set,List.length_append,List.length_cons,List.length_nil,List.length_replicate,List.length_drop] at * <;> omega)),(by first | exact Nat.zero_le _ | exact Nat.le_refl _ | assumption | omega | (simp only [List.length_set,List.length_append,List.length_cons,List.length_nil,List.length_replicate,List.length_drop] at * <;> omega)),(by first | rfl | assumption | omega | (simp only [List.length_set,List.length_append,List.length_cons,List.length_nil,List.length_replicate,List.length_drop] at * <;> omega))⟩⟩
            ·
             refine c0 h176 (wp_exit ?_)
             exact ⟨y167,y168,y169,(decide (y169 < (y42.length:Int))),g171,g173,hm,rfl,rfl,(by first | rfl | assumption | omega | (simp only [List.length_set,List.length_append,List.length_cons,List.length_nil,List.length_replicate,List.length_drop] at * <;> omega)),(by first | exact Nat.zero_le _ | exact Nat.le_refl _ | assumption | omega | (simp only [List.length_set,List.length_append,List.length_cons,List.length_nil,List.length_replicate,List.length_drop] at * <;> omega)),(by first | rfl | assumption | omega | (simp only [List.length_set,List.length_append,List.length_cons,List.length_nil,List.length_replicate,List.length_drop] at * <;> omega))⟩
         refine rg (s1 1 [(55,.agg (zc2 a0))] ?_)
         obtain ⟨x183,h182,hm⟩:=bs hm
         rcases x183 with ⟨x184,x185,x186,x187,x188⟩ | ⟨x189,x190,x191,x192,x193,x194⟩ | ⟨x195,x196,x197,x198,x199,x200⟩ | ⟨x201,x202,x203,x204,x205,x206,x207⟩
         ·
          obtain ⟨vv,H1,hC,rfl,rfl⟩:=abZ h182
          refine dO [(56,.agg (zc23 a0 x184 x185 x186 x187 x188))] [.box (zc2 a0) false,.box (zc2 a1) false] (aaS [] [.agg (zc2 a0)] (v':=.agg (zc23 a0 x184 x185 x186 x187 x188)) (bs':=[]) (by kernel_rfl) (by kernel_rfl) (by kernel_rfl) hC (by simp [AV.flat,AV.flat2,AV.flat1,qP]) (by kernel_rfl) (by kernel_rfl)) (by kernel_rfl) (stf 2 [(2,.ptr 0 0),(6,.ptr 2 0)] [.box (zc2 a0) false,.box (zc2 a1) false,.box (zc23 a0 x184 x185 x186 x187 x188) false] (by kernel_rfl) ?_)
          exact .inl ⟨x184,x185,x186,x187,x188,hm,rfl,rfl⟩
         ·
          obtain ⟨vv,H1,hC,rfl,rfl⟩:=abZ h182
          refine dO [(56,.agg (zc41 a0 x189 x190 x191 x192 x193 x194))] [.box (zc2 a0) false,.box (zc2 a1) false,bR 66 9 zg x194 0 0] (aaS [] [.agg (zc2 a0)] (v':=.agg (zc41 a0 x189 x190 x191 x192 x193 x194)) (bs':=[bR 66 9 zg x194 0 0]) (by kernel_rfl) (by kernel_rfl) (by kernel_rfl) hC (by simp [AV.flat,AV.flat2,AV.flat1,qP]) (by kernel_rfl) (by kernel_rfl)) (by kernel_rfl) (stf 2 [(2,.ptr 0 0),(6,.ptr 3 0)] [.box (zc2 a0) false,.box (zc2 a1) false,bR 66 9 zg x194 0 0,.box (zc41 a0 x189 x190 x191 x192 x193 x194) false] (by kernel_rfl) ?_)
          exact .inr (.inl ⟨x189,x190,x191,x192,x193,x194,hm,rfl,rfl⟩)
         ·
          obtain ⟨vv,H1,hC,rfl,rfl⟩:=abZ h182
          refine dO [(56,.agg (zc42 a0 x195 x196 x197 x198 x199 x200))] [.box (zc2 a0) false,.box (zc2 a1) false,bR 101 9 zn x199 0 0] (aaS [] [.agg (zc2 a0)] (v':=.agg (zc42 a0 x195 x196 x197 x198 x199 x200)) (bs':=[bR 101 9 zn x199 0 0]) (by kernel_rfl) (by kernel_rfl) (by kernel_rfl) hC (by simp [AV.flat,AV.flat2,AV.flat1,qP]) (by kernel_rfl) (by kernel_rfl)) (by kernel_rfl) (stf 2 [(2,.ptr 0 0),(6,.ptr 3 0)] [.box (zc2 a0) false,.box (zc2 a1) false,bR 101 9 zn x199 0 0,.box (zc42 a0 x195 x196 x197 x198 x199 x200) false] (by kernel_rfl) ?_)
          exact .inr (.inr (.inl ⟨x195,x196,x197,x198,x199,x200,hm,rfl,rfl⟩))
         ·
          obtain ⟨vv,H1,hC,rfl,rfl⟩:=abZ h182
          refine dO [(56,.agg (zc43 a0 x201 x202 x203 x204 x205 x206 x207))] [.box (zc2 a0) false,.box (zc2 a1) false,bR 101 9 zn x205 0 0,bR 66 9 zg x207 0 0] (aaS [] [.agg (zc2 a0)] (v':=.agg (zc43 a0 x201 x202 x203 x204 x205 x206 x207)) (bs':=[bR 101 9 zn x205 0 0,bR 66 9 zg x207 0 0]) (by kernel_rfl) (by kernel_rfl) (by kernel_rfl) hC (by simp [AV.flat,AV.flat2,AV.flat1,qP]) (by kernel_rfl) (by kernel_rfl)) (by kernel_rfl) (stf 2 [(2,.ptr 0 0),(6,.ptr 4 0)] [.box (zc2 a0) false,.box (zc2 a1) false,bR 101 9 zn x205 0 0,bR 66 9 zg x207 0 0,.box (zc43 a0 x201 x202 x203 x204 x205 x206 x207) false] (by kernel_rfl) ?_)
          exact .inr (.inr (.inr (⟨x201,x202,x203,x204,x205,x206,x207,hm,rfl,rfl⟩)))
end Go.Ab.S1
