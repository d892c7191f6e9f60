import Derived.Test.YtejbcaheoloahaaGreatWB1
noncomputable section
namespace Go.Ab.S1
open Go Go.Ab Go.Pl
open Go.Proofs.Tryz
set_option linter.unusedVariables false
set_option linter.unusedSimpArgs false
set_option maxHeartbeats 4000000
set_option maxRecDepth 100000
abbrev zc12 (p0:Bool) (p1:(Option (List Int))) (p2:Int):List AV:=[aB p0,.pv (zg (rI .u8) p1),aI p2]
abbrev zc13 (p0:Bool) (p1:(Option (List Int))) (p2:Int) (p3:(Option (List Int))) (p4:Int):List AV:=[aB ((zf.mk p0 p1 p2).fmade),.pv (zg (rI .u8) p3),aI p4]
abbrev zp90 (p0:Int) (p1:Int) (p2:Int):Nat × AV:=(2,aU (iOr .u64 p0 (iShl .u64 (IntKind.wrap .u64 (iAnd .u8 p1 127)) (IntKind.wrap .u64 (IntKind.wrap .i64 (7 * p2))))))
abbrev afu (p0:Bool) (p1:(Option (List Int))) (p2:Int):=((zf.mk p0 p1 p2).fmade)
theorem adL {n:Nat} {a0:zf} {r:Bool × (Option (List Int)) × Int × Int × Bool} (hm:QD n a0=some r):
    ∃ vv H1,call G n 153 [.ptr 0 0] [.box (zc10 a0) false]=some (.ret vv,H1)∧(match (generalizing:=false) r with | (r0,r1,r2,r3,r4)=>(vv=.tup [aU r3,aB r4]∧H1=[.box [aB r0,.pv (zg (rI .u8) r1),aI r2] false])):=by
  unfold QD at hm
  obtain ⟨n,rfl,h0⟩:=zy hm
  replace hm:=h0; clear h0
  refine QA 52 [(0,.ptr 0 0)] func153 rfl (by kernel_rfl) (sq (dn [(0,.ptr 0 0),(2,aU 0)] (scq (sq (dn [(0,.ptr 0 0),(2,aU 0),(4,aI 22)] ?_)))))
  refine sq (sq (dn [(0,.ptr 0 0),(2,aU 0),(4,aI 22),(5,aI 0)] (bq ?_)))
  refine qq (fun mm t H=>(∃ (y10:Bool) (y11:(Option (List Int))) (y12:Int) (y13:Int) (y14:Int),ZO n mm y10 y11 y12 y13 y14=some r∧t=mk 52 [(0,.ptr 0 0),(2,aU y13),(4,aI 22),(5,aI y14)]∧H=[.box (zc12 y10 y11 y12) false])) (⟨a0.fmade,a0.fb,a0.fe,0,0,hm,rfl,rfl⟩) ?_ ?_
  · rintro _ _ ⟨y10,y11,y12,y13,y14,hm,_⟩; exact nomatch hm
  rintro m15 _ _ ⟨y10,y11,y12,y13,y14,hm,rfl,rfl⟩
  simp only [ZO] at hm
  refine sq (bq ?_)
  refine sq (sq (dn [(0,.ptr 0 0),(2,aU y13),(4,aI 22),(5,aI y14),(12,aB (y14 == 10))] ?_))
  rcases zh hm with ⟨h16,hm⟩ | ⟨h16,hm⟩
  ·
   refine c1 h16 (wp_goto ?_)
   refine ⟨by kernel_rfl,?_⟩
   refine age (by kernel_rfl) (age (by kernel_rfl) (sql (by kernel_rfl) (ai1 (sq (rg (s1 2 [(50,aI 22),(49,.ptr 0 0)] ?_))))))
   obtain ⟨_,h17,hm⟩:=bs hm
   obtain ⟨vv,H1,hC,rfl,rfl⟩:=qO h17
   refine dR [(51,.tup [])] [.box [aB (afu y10 y11 y12),.pv .nils,aI 22] false] [0] [.ptr 0 0,aI 22] (by kernel_rfl) (by kernel_rfl) (by kernel_rfl) hC (by kernel_rfl) (fin [] rfl (by kernel_rfl) (sq (dn [(2,aU 0),(3,aB false)] (wp_ret ?_))))
   obtain rfl:=Option.some.inj hm
   exact ⟨trivial,.tup [aU 0,aB false],[.box [aB (afu y10 y11 y12),.pv .nils,aI 22] false],by kernel_rfl,rfl,rfl⟩
  ·
   refine c0 h16 (wp_skip (sq (rg (s1 1 [(14,.ptr 0 0)] ?_))))
   obtain ⟨⟨x19,x20,x21,x22⟩,h18,hm⟩:=bs hm
   obtain ⟨vv,H1,hC,rfl,rfl⟩:=aar h18
   refine dR [(15,.tup [.pv (zg (rI .u8) x21),aB x22])] [.box (zc13 y10 y11 y12 x19 x20) false] [0] [.ptr 0 0,aI 1] (by kernel_rfl) (by kernel_rfl) (by kernel_rfl) hC (by kernel_rfl) (fq 5 [(0,.ptr 0 0),(2,aU y13),(4,aI 22),(5,aI y14),(6,.pv (zg (rI .u8) x21)),(7,aB x22)] ?_)
   refine sq (sq (dn [(0,.ptr 0 0),(2,aU y13),(4,aI 22),(5,aI y14),(6,.pv (zg (rI .u8) x21)),(19,aB (!x22))] ?_))
   rcases zh hm with ⟨h23,hm⟩ | ⟨h23,hm⟩
   ·
    refine c1 h23 (sq (dn [(2,aU 0),(3,aB false)] (wp_ret ?_)))
    obtain rfl:=Option.some.inj hm
    exact ⟨trivial,.tup [aU 0,aB false],[.box (zc13 y10 y11 y12 x19 x20) false],by kernel_rfl,rfl,rfl⟩
   ·
    refine c0 h23 (wp_skip (sq (rg (s1 1 [(20,.pv (zg (rI .u8) x21))] ?_))))
    obtain ⟨x24,h25,hm⟩:=bs hm
    refine dv 21 (v:=.pv (.ptr ((rI .u8) x24) 0)) (aaL (rI .u8) x21 .i64 t29 t5 h25 rfl (by kernel_rfl)) (by kernel_rfl) (fq 2 [(0,.ptr 0 0),(2,aU y13),(4,aI 22),(5,aI y14),(8,aY x24)] ?_)
    refine sq (sq (rg (s1 3 [(25,aB (y14 == 9)),(24,aB (y14 == 9)),(23,aI y14)] ?_)))
    refine segP (y14 == 9) [25,24] (fun b=>[(28,aB (b && (decide (x24 > 1)))),(27,ifA b (aB (decide (x24 > 1))) (.undef)),(26,ifA b (aY x24) (.undef))]) 3 (by kernel_rfl) (by kernel_rfl) (by kernel_rfl) (s1 1 [(29,aB ((y14 == 9) && (decide (x24 > 1))))] ?_)
    refine seg ((y14 == 9) && (decide (x24 > 1))) [29,28] (fun b=>[(36,aB (b || ((decide (y14 > 0)) && (x24 == 0)))),(35,ifA b (.undef) (aB ((decide (y14 > 0)) && (x24 == 0)))),(34,ifA b (.undef) (ifA (decide (y14 > 0)) (aB (x24 == 0)) (.undef))),(33,ifA b (.undef) (ifA (decide (y14 > 0)) (aY x24) (.undef))),(32,ifA b (.undef) (aB (decide (y14 > 0)))),(31,ifA b (.undef) (aB (decide (y14 > 0)))),(30,ifA b (.undef) (aI y14))]) 14 (by kernel_rfl) ?_ ?_ ?_
    ·
     intro Q h
     refine s1 7 [(36,aB true),(35,.undef),(34,.undef),(33,.undef),(32,.undef),(31,.undef),(30,.undef)] ?_
     exact ab9 (by kernel_rfl) (by kernel_rfl) h
    ·
     intro Q h
     refine s1 3 [(32,aB (decide (y14 > 0))),(31,aB (decide (y14 > 0))),(30,aI y14)] ?_
     refine segP (decide (y14 > 0)) [32,31] (fun b=>[(35,aB (b && (x24 == 0))),(34,ifA b (aB (x24 == 0)) (.undef)),(33,ifA b (aY x24) (.undef))]) 3 (by kernel_rfl) (by kernel_rfl) (by kernel_rfl) (s1 1 [(36,aB ((decide (y14 > 0)) && (x24 == 0)))] ?_)
     exact ab9 (by kernel_rfl) (by kernel_rfl) h
    refine fin [(0,.ptr 0 0),(2,aU y13),(4,aI 22),(5,aI y14),(8,aY x24),(36,aB (((y14 == 9) && (decide (x24 > 1))) || ((decide (y14 > 0)) && (x24 == 0))))] rfl (by kernel_rfl) ?_
    rcases zh hm with ⟨h26,hm⟩ | ⟨h26,hm⟩
    ·
     refine c1 h26 (wp_goto ?_)
     refine ⟨by kernel_rfl,?_⟩
     refine age (by kernel_rfl) (age (by kernel_rfl) (sql (by kernel_rfl) (ai1 (sq (rg (s1 2 [(50,aI 22),(49,.ptr 0 0)] ?_))))))
     obtain ⟨_,h27,hm⟩:=bs hm
     obtain ⟨vv,H1,hC,rfl,rfl⟩:=qO h27
     refine dR [(51,.tup [])] [.box [aB ((zf.mk ((zf.mk y10 y11 y12).fmade) x19 x20).fmade),.pv .nils,aI 22] false] [0] [.ptr 0 0,aI 22] (by kernel_rfl) (by kernel_rfl) (by kernel_rfl) hC (by kernel_rfl) (fin [] rfl (by kernel_rfl) (sq (dn [(2,aU 0),(3,aB false)] (wp_ret ?_))))
     obtain rfl:=Option.some.inj hm
     exact ⟨trivial,.tup [aU 0,aB false],[.box [aB ((zf.mk ((zf.mk y10 y11 y12).fmade) x19 x20).fmade),.pv .nils,aI 22] false],by kernel_rfl,rfl,rfl⟩
    ·
     refine c0 h26 (wp_skip (sq (rg (s1 7 [(43,aU (IntKind.wrap .u64 (IntKind.wrap .i64 (7 * y14)))),(42,aI (IntKind.wrap .i64 (7 * y14))),(41,aI y14),(40,aU (IntKind.wrap .u64 (iAnd .u8 x24 127))),(39,aY (iAnd .u8 x24 127)),(38,aY x24),(37,aU y13)] ?_))))
     obtain ⟨_,h28,hm⟩:=bs hm
     refine dv 44 (v:=aU (iShl .u64 (IntKind.wrap .u64 (iAnd .u8 x24 127)) (IntKind.wrap .u64 (IntKind.wrap .i64 (7 * y14))))) (shlO h28 (by kernel_rfl)) (by kernel_rfl) (fq 2 [(0,.ptr 0 0),(zp90 y13 x24 y14),(4,aI 22),(5,aI y14),(8,aY x24)] (sq (dn [(0,.ptr 0 0),(zp90 y13 x24 y14),(4,aI 22),(5,aI y14),(47,aB (decide (x24 < 128)))] ?_)))
     rcases zh hm with ⟨h29,hm⟩ | ⟨h29,hm⟩
     ·
      refine c1 h29 (sq (dn [(zp90 y13 x24 y14),(3,aB true)] (wp_ret ?_)))
      obtain rfl:=Option.some.inj hm
      exact ⟨trivial,.tup [aU (iOr .u64 y13 (iShl .u64 (IntKind.wrap .u64 (iAnd .u8 x24 127)) (IntKind.wrap .u64 (IntKind.wrap .i64 (7 * y14))))),aB true],[.box (zc13 y10 y11 y12 x19 x20) false],by kernel_rfl,rfl,rfl⟩
     ·
      refine c0 h29 (wp_skip (dn [(0,.ptr 0 0),(zp90 y13 x24 y14),(4,aI 22),(5,aI (zU y14))] ?_))
      exact ⟨_,_,ZC [(0,.ptr 0 0),(zp90 y13 x24 y14),(4,aI 22),(5,aI (zU y14))] [.box (zc13 y10 y11 y12 x19 x20) false] (by kernel_rfl),⟨(afu y10 y11 y12),x19,x20,(iOr .u64 y13 (iShl .u64 (IntKind.wrap .u64 (iAnd .u8 x24 127)) (IntKind.wrap .u64 (IntKind.wrap .i64 (7 * y14))))),(zU y14),hm,rfl,rfl⟩⟩
theorem zY {n:Nat} {a0:zf} {a1:Int} {r:Bool × (Option (List Int)) × Int × Int} (hm:zL n a0 a1=some r):
    ∃ vv H1,call G n 86 [.ptr 0 0,aU a1] [.box (zc10 a0) false]=some (.ret vv,H1)∧(match (generalizing:=false) r with | (r0,r1,r2,r3)=>(vv=aU r3∧H1=[.box [aB r0,.pv (zg (rI .u8) r1),aI r2] false])):=by
  unfold zL at hm
  obtain ⟨n,rfl,h0⟩:=zy hm
  replace hm:=h0; clear h0
  refine QA 24 [(0,.ptr 0 0),(1,aU a1)] func86 rfl (by kernel_rfl) (sq (dn [(0,.ptr 0 0),(1,aU a1)] ?_))
  refine sq (sq (rg (s1 1 [(7,.ptr 0 0)] ?_)))
  obtain ⟨_,h1,hm⟩:=bs hm
  obtain ⟨vv,H1,hC,rfl,rfl⟩:=qA h1
  refine dR [(8,aB (agM a0))] [.box (zc10 a0) false] [0] [.ptr 0 0] (by kernel_rfl) (by kernel_rfl) (by kernel_rfl) hC (by kernel_rfl) (fq 1 [(0,.ptr 0 0),(1,aU a1),(9,aB (!(agM a0)))] ?_)
  rcases zh hm with ⟨h2,hm⟩ | ⟨h2,hm⟩
  ·
   refine c1 h2 (sq (dn [(4,aU 0)] (wp_ret ?_)))
   obtain rfl:=Option.some.inj hm
   exact ⟨trivial,aU 0,[.box (zc10 a0) false],by kernel_rfl,rfl,rfl⟩
  ·
   refine c0 h2 (wp_skip (sq (rg (s1 1 [(11,.ptr 0 0)] ?_))))
   obtain ⟨⟨x4,x5,x6,x7,x8⟩,h3,hm⟩:=bs hm
   obtain ⟨vv,H1,hC,rfl,rfl⟩:=adL h3
   refine dR [(12,.tup [aU x7,aB x8])] [.box [aB x4,.pv (zg (rI .u8) x5),aI x6] false] [0] [.ptr 0 0] (by kernel_rfl) (by kernel_rfl) (by kernel_rfl) hC (by kernel_rfl) (fq 5 [(0,.ptr 0 0),(1,aU a1),(5,aU x7),(6,aB x8)] (sq (sq (rg (s1 2 [(16,aB x8),(15,aB x8)] ?_)))))
   refine segP x8 [16,15,6] (fun b=>[(20,aB (b && (decide (x7 > a1)))),(19,ifA b (aB (decide (x7 > a1))) (.undef)),(18,ifA b (aU a1) (.undef)),(17,ifA b (aU x7) (.undef))]) 4 (by kernel_rfl) (by kernel_rfl) (by kernel_rfl) (fin [(0,.ptr 0 0),(5,aU x7),(20,aB (x8 && (decide (x7 > a1))))] rfl (by kernel_rfl) ?_)
   rcases zh hm with ⟨h9,hm⟩ | ⟨h9,hm⟩
   ·
    refine c1 h9 (sq (rg (s1 1 [(21,.ptr 0 0)] ?_)))
    obtain ⟨_,h10,hm⟩:=bs hm
    obtain ⟨vv,H1,hC,rfl,rfl⟩:=qO h10
    refine dR [(22,.tup [])] [.box [aB (afu x4 x5 x6),.pv .nils,aI 3] false] [0] [.ptr 0 0,aI 3] (by kernel_rfl) (by kernel_rfl) (by kernel_rfl) hC (by kernel_rfl) (fin [] rfl (by kernel_rfl) (sq (dn [(4,aU 0)] (wp_ret ?_))))
    obtain rfl:=Option.some.inj hm
    exact ⟨trivial,aU 0,[.box [aB (afu x4 x5 x6),.pv .nils,aI 3] false],by kernel_rfl,rfl,rfl⟩
   ·
    refine c0 h9 (wp_skip (sq (dn [(4,aU x7)] (wp_ret ?_))))
    obtain rfl:=Option.some.inj hm
    exact ⟨trivial,aU x7,[.box [aB x4,.pv (zg (rI .u8) x5),aI x6] false],by kernel_rfl,rfl,rfl⟩
theorem afp {n:Nat} {a0:zf} {r:Bool × (Option (List Int)) × Int × Int} (hm:QK n a0=some r):
    ∃ vv H1,call G n 232 [.ptr 0 0] [.box (zc10 a0) false]=some (.ret vv,H1)∧(match (generalizing:=false) r with | (r0,r1,r2,r3)=>(vv=aI r3∧H1=[.box [aB r0,.pv (zg (rI .u8) r1),aI r2] false])):=by
  unfold QK at hm
  obtain ⟨n,rfl,h0⟩:=zy hm
  replace hm:=h0; clear h0
  refine QA 16 [(0,.ptr 0 0)] func232 rfl (by kernel_rfl) (sq (dn [(0,.ptr 0 0)] (sq (rg (s1 1 [(4,.ptr 0 0)] ?_)))))
  obtain ⟨⟨x2,x3,x4,x5⟩,h1,hm⟩:=bs hm
  obtain ⟨vv,H1,hC,rfl,rfl⟩:=zY h1
  refine dR [(5,aU x5)] [.box [aB x2,.pv (zg (rI .u8) x3),aI x4] false] [0] [.ptr 0 0,aU 18446744073709551615] (by kernel_rfl) (by kernel_rfl) (by kernel_rfl) hC (by kernel_rfl) (fq 1 [(3,aU x5)] (sq (sq (dn [(3,aU x5),(8,aB ((iAnd .u64 x5 1) == 1))] ?_))))
  rcases zh hm with ⟨h6,hm⟩ | ⟨h6,hm⟩
  ·
   refine c1 h6 (sq (dn [(2,aI (IntKind.wrap .i64 (notI .u64 (iShr .u64 x5 1))))] (wp_ret ?_)))
   obtain rfl:=Option.some.inj hm
   exact ⟨trivial,aI (IntKind.wrap .i64 (notI .u64 (iShr .u64 x5 1))),[.box [aB x2,.pv (zg (rI .u8) x3),aI x4] false],by kernel_rfl,rfl,rfl⟩
  ·
   refine c0 h6 (wp_skip (sq (dn [(2,aI (IntKind.wrap .i64 (iShr .u64 x5 1)))] (wp_ret ?_))))
   obtain rfl:=Option.some.inj hm
   exact ⟨trivial,aI (IntKind.wrap .i64 (iShr .u64 x5 1)),[.box [aB x2,.pv (zg (rI .u8) x3),aI x4] false],by kernel_rfl,rfl,rfl⟩
theorem ad8 {n:Nat} {a0:zf} {r:Bool × (Option (List Int)) × Int × Nat} (hm:Qe n a0=some r):
    ∃ vv H1,call G n 233 [.ptr 0 0] [.box (zc10 a0) false]=some (.ret vv,H1)∧(match (generalizing:=false) r with | (r0,r1,r2,r3)=>(vv=aF r3∧H1=[.box [aB r0,.pv (zg (rI .u8) r1),aI r2] false])):=by
  unfold Qe at hm
  obtain ⟨n,rfl,h0⟩:=zy hm
  replace hm:=h0; clear h0
  refine QA 19 [(0,.ptr 0 0)] func233 rfl (by kernel_rfl) (sq (dn [(0,.ptr 0 0)] (sq (rg (s1 1 [(5,.ptr 0 0)] ?_)))))
  obtain ⟨⟨x2,x3,x4⟩,h1,hm⟩:=bs hm
  obtain ⟨vv,H1,hC,rfl,rfl⟩:=abu h1
  refine dR [(6,aU x4)] [.box (zc11 a0 x2 x3) false] [0] [.ptr 0 0,aI 8] (by kernel_rfl) (by kernel_rfl) (by kernel_rfl) hC (by kernel_rfl) (fq 1 [(0,.ptr 0 0),(3,aU x4)] ?_)
  refine sq (sq (rg (s1 1 [(7,.ptr 0 0)] ?_)))
  obtain ⟨_,h5,hm⟩:=bs hm
  obtain ⟨vv,H1,hC,rfl,rfl⟩:=qA h5
  refine dR [(8,aB ((zf.mk a0.fmade x2 x3).fmade && ((zf.mk a0.fmade x2 x3).fe == 0)))] [.box (zc11 a0 x2 x3) false] [0] [.ptr 0 0] (by kernel_rfl) (by kernel_rfl) (by kernel_rfl) hC (by kernel_rfl) (fq 1 [(0,.ptr 0 0),(3,aU x4),(9,aB (!((zf.mk a0.fmade x2 x3).fmade && ((zf.mk a0.fmade x2 x3).fe == 0))))] ?_)
  rcases zh hm with ⟨h6,hm⟩ | ⟨h6,hm⟩
  ·
   refine c1 h6 (sq (dn [(2,aF 0)] (wp_ret ?_)))
   obtain rfl:=Option.some.inj hm
   exact ⟨trivial,aF 0,[.box (zc11 a0 x2 x3) false],by kernel_rfl,rfl,rfl⟩
  ·
   refine c0 h6 (wp_skip (sq (rg (s1 1 [(10,aU x4)] (s1 1 [(11,aF (Int.toNat x4))] (fq 1 [(0,.ptr 0 0),(3,aU x4),(4,aF (Int.toNat x4))] (sq (sq (rg (s1 1 [(12,aF (Int.toNat x4))] ?_))))))))))
   obtain ⟨x7,h8,hm⟩:=bs hm
   refine dv 13 (Zh (by kernel_rfl) (afG h8) (by kernel_rfl) (by kernel_rfl) (by kernel_rfl)) (by kernel_rfl) (fq 2 [(0,.ptr 0 0),(4,aF (Int.toNat x4)),(15,aB (x7 != x4))] ?_)
   rcases zh hm with ⟨h9,hm⟩ | ⟨h9,hm⟩
   ·
    refine c1 h9 (sq (rg (s1 1 [(16,.ptr 0 0)] ?_)))
    obtain ⟨_,h10,hm⟩:=bs hm
    obtain ⟨vv,H1,hC,rfl,rfl⟩:=qO h10
    refine dR [(17,.tup [])] [.box [aB ((zf.mk a0.fmade x2 x3).fmade),.pv .nils,aI 22] false] [0] [.ptr 0 0,aI 22] (by kernel_rfl) (by kernel_rfl) (by kernel_rfl) hC (by kernel_rfl) (fin [] rfl (by kernel_rfl) (sq (dn [(2,aF 0)] (wp_ret ?_))))
    obtain rfl:=Option.some.inj hm
    exact ⟨trivial,aF 0,[.box [aB ((zf.mk a0.fmade x2 x3).fmade),.pv .nils,aI 22] false],by kernel_rfl,rfl,rfl⟩
   ·
    refine c0 h9 (wp_skip (sq (dn [(2,aF (Int.toNat x4))] (wp_ret ?_))))
    obtain rfl:=Option.some.inj hm
    exact ⟨trivial,aF (Int.toNat x4),[.box (zc11 a0 x2 x3) false],by kernel_rfl,rfl,rfl⟩
abbrev zS (p0:Int):=(IntKind.wrap .i64 p0)
theorem ae0 {n:Nat} {a0:zf} {a1:Int} {r:Bool × (Option (List Int)) × Int × ByteArray} (hm:Qv n a0 a1=some r):
    ∃ vv H1,call G n 77 [.ptr 0 0,aI a1] [.box (zc10 a0) false]=some (.ret vv,H1)∧(match (generalizing:=false) r with | (r0,r1,r2,r3)=>(vv=aS r3∧H1=[.box [aB r0,.pv (zg (rI .u8) r1),aI r2] false])):=by
  unfold Qv at hm
  obtain ⟨n,rfl,h0⟩:=zy hm
  replace hm:=h0; clear h0
  refine QA 25 [(0,.ptr 0 0),(1,aI a1)] func77 rfl (by kernel_rfl) (sq (dn [(0,.ptr 0 0),(1,aI a1)] (sq (rg (s1 4 [(11,aU (IntKind.wrap .u64 (if 0 > a1 then 0 else a1))),(10,aI (if 0 > a1 then 0 else a1)),(9,aI a1),(8,.ptr 0 0)] ?_)))))
  obtain ⟨⟨x2,x3,x4,x5⟩,h1,hm⟩:=bs hm
  obtain ⟨vv,H1,hC,rfl,rfl⟩:=zY h1
  refine dR [(12,aU x5)] [.box [aB x2,.pv (zg (rI .u8) x3),aI x4] false] [0] [.ptr 0 0,aU (IntKind.wrap .u64 (if 0 > a1 then 0 else a1))] (by kernel_rfl) (by kernel_rfl) (by kernel_rfl) hC (by kernel_rfl) (fq 1 [(0,.ptr 0 0),(5,aU x5)] ?_)
  refine sq (sq (rg (s1 1 [(13,.ptr 0 0)] ?_)))
  obtain ⟨_,h6,hm⟩:=bs hm
  obtain ⟨vv,H1,hC,rfl,rfl⟩:=qA h6
  refine dR [(14,aB ((zf.mk x2 x3 x4).fmade && ((zf.mk x2 x3 x4).fe == 0)))] [.box [aB x2,.pv (zg (rI .u8) x3),aI x4] false] [0] [.ptr 0 0] (by kernel_rfl) (by kernel_rfl) (by kernel_rfl) hC (by kernel_rfl) (fq 1 [(0,.ptr 0 0),(5,aU x5),(15,aB (!((zf.mk x2 x3 x4).fmade && ((zf.mk x2 x3 x4).fe == 0))))] ?_)
  rcases zh hm with ⟨h7,hm⟩ | ⟨h7,hm⟩
  ·
   refine c1 h7 (sq (dn [(4,aS ByteArray.empty)] (wp_ret ?_)))
   obtain rfl:=Option.some.inj hm
   exact ⟨trivial,aS ByteArray.empty,[.box [aB x2,.pv (zg (rI .u8) x3),aI x4] false],by kernel_rfl,rfl,rfl⟩
  ·
   refine c0 h7 (wp_skip (sq (rg (s1 3 [(19,aI (zS x5)),(18,aU x5),(17,.ptr 0 0)] ?_))))
   obtain ⟨⟨x9,x10,x11,x12⟩,h8,hm⟩:=bs hm
   obtain ⟨vv,H1,hC,rfl,rfl⟩:=aar h8
   refine dR [(20,.tup [.pv (zg (rI .u8) x11),aB x12])] [.box (zc13 x2 x3 x4 x9 x10) false] [0] [.ptr 0 0,aI (zS x5)] (by kernel_rfl) (by kernel_rfl) (by kernel_rfl) hC (by kernel_rfl) (fq 5 [(6,.pv (zg (rI .u8) x11))] (sq (rg (s1 1 [(23,.pv (zg (rI .u8) x11))] (dv 24 (v:=aS (strOf (sll x11))) (apw (l:=(sll x11)) t29 t9 t5 (amB (R:=(rI .u8)) (s:=x11)) (an9 x11) (by kernel_rfl)) (by kernel_rfl) (fq 1 [(4,aS (strOf (sll x11)))] (wp_ret ?_)))))))
   obtain rfl:=Option.some.inj hm
   exact ⟨trivial,aS (strOf (sll x11)),[.box (zc13 x2 x3 x4 x9 x10) false],by kernel_rfl,rfl,rfl⟩
abbrev zc14 (p0:Int):List AV:=[aI (IntKind.wrap .i64 p0),aI 0,aF 0,aS ByteArray.empty]
theorem ajT {n:Nat} {a0:zf} {r:Bool × (Option (List Int)) × Int × Int × Int × Nat × ByteArray × Int} (hm:acH n a0=some r):
    ∃ vv H1,call G n 194 [.ptr 0 0] [.box (zc10 a0) false]=some (.ret vv,H1)∧(match (generalizing:=false) r with | (r0,r1,r2,r3,r4,r5,r6,r7)=>(vv=.tup [.agg [aI r3,aI r4,aF r5,aS r6],aI r7]∧H1=[.box [aB r0,.pv (zg (rI .u8) r1),aI r2] false])):=by
  unfold acH at hm
  obtain ⟨n,rfl,h0⟩:=zy hm
  replace hm:=h0; clear h0
  refine QA 46 [(0,.ptr 0 0)] func194 rfl (by kernel_rfl) (sq (det [(0,.ptr 0 0),(2,.ptr 1 0)] [.box (zc10 a0) false,.box [aI 0,aI 0,aF 0,aS ByteArray.empty] false] (by kernel_rfl) (sq (rg (s1 1 [(6,.ptr 0 0)] ?_)))))
  obtain ⟨⟨x2,x3,x4⟩,h1,hm⟩:=bs hm
  obtain ⟨vv,H1,hC,rfl,rfl⟩:=Zs h1
  refine dR [(7,aY x4)] [.box (zc11 a0 x2 x3) false,.box [aI 0,aI 0,aF 0,aS ByteArray.empty] false] [0] [.ptr 0 0] (by kernel_rfl) (by kernel_rfl) (by kernel_rfl) hC (by kernel_rfl) (stf 4 [(0,.ptr 0 0),(2,.ptr 1 0),(4,.ptr 2 0)] [.box (zc11 a0 x2 x3) false,.box [aI 0,aI 0,aF 0,aS ByteArray.empty] false,.box (zc14 x4) false] (by kernel_rfl) ?_)
  obtain ⟨k12,hk12,hm⟩:=zx hm
  refine mid (fun t H=>(∃ (y6:Bool) (y7:(Option (List Int))) (y8:Int) (y9:Int) (y10:Nat) (y11:ByteArray) (w5:AV),k12 y6 y7 y8 y9 y10 y11=some r∧t=mk 46 [(0,.ptr 0 0),(2,.ptr 1 0),(4,.ptr 2 0),(28,w5)]∧H=[.box [aB y6,.pv (zg (rI .u8) y7),aI y8] false,.box [aI 0,aI 0,aF 0,aS ByteArray.empty] false,.box [aI (zS x4),aI y9,aF y10,aS y11] false])) ?_ ?_
  ·
   rintro _ _ ⟨y6,y7,y8,y9,y10,y11,w5,hm,rfl,rfl⟩
   subst hk12
   refine sq (sq (rg (s1 1 [(33,.ptr 0 0)] ?_)))
   obtain ⟨x14,h13,hm⟩:=bs hm
   obtain ⟨vv,H1,hC,rfl,rfl⟩:=zX h13
   refine dR [(34,aI x14)] [.box [aB y6,.pv (zg (rI .u8) y7),aI y8] false,.box [aI 0,aI 0,aF 0,aS ByteArray.empty] false,.box [aI (zS x4),aI y9,aF y10,aS y11] false] [0] [.ptr 0 0] (by kernel_rfl) (by kernel_rfl) (by kernel_rfl) hC (by kernel_rfl) (fq 1 [(2,.ptr 1 0),(4,.ptr 2 0),(5,aI x14)] (bq (sq (dn [(2,.ptr 1 0),(4,.ptr 2 0),(5,aI x14),(35,aB (x14 != 0))] ?_))))
   rcases zh hm with ⟨h15,hm⟩ | ⟨h15,hm⟩
   ·
    refine c1 h15 (sq (dn [(2,.ptr 1 0),(3,aI x14)] (wp_ret ?_)))
    obtain rfl:=Option.some.inj hm
    exact ⟨trivial,.tup [.agg [aI 0,aI 0,aF 0,aS ByteArray.empty],aI x14],[.box [aB y6,.pv (zg (rI .u8) y7),aI y8] false],by kernel_rfl,rfl,rfl⟩
   ·
    refine c0 h15 (sq (rg (s1 1 [(41,.agg [aI (zS x4),aI y9,aF y10,aS y11])] ?_)))
    obtain ⟨x16,h17,hm⟩:=bs hm
    refine dv 42 (Zh (by kernel_rfl) (acP h17) (by kernel_rfl) (by kernel_rfl) (by kernel_rfl)) (by kernel_rfl) (fq 2 [(2,.ptr 1 0),(4,.ptr 2 0),(40,aB (!x16))] ?_)
    rcases zh hm with ⟨h18,hm⟩ | ⟨h18,hm⟩
    ·
     refine c1 h18 (sq (dn [(2,.ptr 1 0),(3,aI 22)] (wp_ret ?_)))
     obtain rfl:=Option.some.inj hm
     exact ⟨trivial,.tup [.agg [aI 0,aI 0,aF 0,aS ByteArray.empty],aI 22],[.box [aB y6,.pv (zg (rI .u8) y7),aI y8] false],by kernel_rfl,rfl,rfl⟩
    ·
     refine c0 h18 (wp_skip (sq (det [(2,.ptr 1 0),(3,aI 0)] [.box [aB y6,.pv (zg (rI .u8) y7),aI y8] false,.box [aI (zS x4),aI y9,aF y10,aS y11] false,.box [aI (zS x4),aI y9,aF y10,aS y11] false] (by kernel_rfl) (wp_ret ?_))))
     obtain rfl:=Option.some.inj hm
     exact ⟨trivial,.tup [.agg [aI (zS x4),aI y9,aF y10,aS y11],aI 0],[.box [aB y6,.pv (zg (rI .u8) y7),aI y8] false],by kernel_rfl,rfl,rfl⟩
  refine sq (dn [(0,.ptr 0 0),(2,.ptr 1 0),(4,.ptr 2 0),(11,aI (zS x4))] (bq (sq (dn [(0,.ptr 0 0),(2,.ptr 1 0),(4,.ptr 2 0),(11,aI (zS x4)),(12,aB ((IntKind.wrap .i64 x4) == 1))] ?_))))
  rcases zh hm with ⟨h19,hm⟩ | ⟨h19,hm⟩
  ·
   refine c1 h19 (rg (s1 1 [(14,.ptr 0 0)] ?_))
   obtain ⟨⟨x21,x22,x23⟩,h20,hm⟩:=bs hm
   obtain ⟨vv,H1,hC,rfl,rfl⟩:=Zs h20
   refine dR [(15,aY x23)] [.box [aB ((zf.mk a0.fmade x2 x3).fmade),.pv (zg (rI .u8) x21),aI x22] false,.box [aI 0,aI 0,aF 0,aS ByteArray.empty] false,.box (zc14 x4) false] [0] [.ptr 0 0] (by kernel_rfl) (by kernel_rfl) (by kernel_rfl) hC (by kernel_rfl) (stf 3 [(0,.ptr 0 0),(2,.ptr 1 0),(4,.ptr 2 0)] [.box [aB ((zf.mk a0.fmade x2 x3).fmade),.pv (zg (rI .u8) x21),aI x22] false,.box [aI 0,aI 0,aF 0,aS ByteArray.empty] false,.box [aI (zS x4),aI (zS x23),aF 0,aS ByteArray.empty] false] (by kernel_rfl) ?_)
   exact ⟨((zf.mk a0.fmade x2 x3).fmade),x21,x22,(zS x23),0,ByteArray.empty,.any,hm,(zT (by kernel_rfl)),rfl⟩
  ·
   refine c0 h19 (sq (dn [(0,.ptr 0 0),(2,.ptr 1 0),(4,.ptr 2 0),(11,aI (zS x4)),(18,aB ((IntKind.wrap .i64 x4) == 2))] ?_))
   rcases zh hm with ⟨h24,hm⟩ | ⟨h24,hm⟩
   ·
    refine c1 h24 (rg (s1 1 [(20,.ptr 0 0)] ?_))
    obtain ⟨⟨x26,x27,x28,x29⟩,h25,hm⟩:=bs hm
    obtain ⟨vv,H1,hC,rfl,rfl⟩:=afp h25
    refine dR [(21,aI x29)] [.box (zc12 x26 x27 x28) false,.box [aI 0,aI 0,aF 0,aS ByteArray.empty] false,.box (zc14 x4) false] [0] [.ptr 0 0] (by kernel_rfl) (by kernel_rfl) (by kernel_rfl) hC (by kernel_rfl) (stf 2 [(0,.ptr 0 0),(2,.ptr 1 0),(4,.ptr 2 0)] [.box (zc12 x26 x27 x28) false,.box [aI 0,aI 0,aF 0,aS ByteArray.empty] false,.box [aI (zS x4),aI x29,aF 0,aS ByteArray.empty] false] (by kernel_rfl) ?_)
    exact ⟨x26,x27,x28,x29,0,ByteArray.empty,.any,hm,(zT (by kernel_rfl)),rfl⟩
   ·
    refine c0 h24 (sq (dn [(0,.ptr 0 0),(2,.ptr 1 0),(4,.ptr 2 0),(11,aI (zS x4)),(23,aB ((IntKind.wrap .i64 x4) == 3))] ?_))
    rcases zh hm with ⟨h30,hm⟩ | ⟨h30,hm⟩
    ·
     refine c1 h30 (rg (s1 1 [(25,.ptr 0 0)] ?_))
     obtain ⟨⟨x32,x33,x34,x35⟩,h31,hm⟩:=bs hm
     obtain ⟨vv,H1,hC,rfl,rfl⟩:=ad8 h31
     refine dR [(26,aF x35)] [.box (zc12 x32 x33 x34) false,.box [aI 0,aI 0,aF 0,aS ByteArray.empty] false,.box (zc14 x4) false] [0] [.ptr 0 0] (by kernel_rfl) (by kernel_rfl) (by kernel_rfl) hC (by kernel_rfl) (stf 2 [(0,.ptr 0 0),(2,.ptr 1 0),(4,.ptr 2 0)] [.box (zc12 x32 x33 x34) false,.box [aI 0,aI 0,aF 0,aS ByteArray.empty] false,.box [aI (zS x4),aI 0,aF x35,aS ByteArray.empty] false] (by kernel_rfl) ?_)
     exact ⟨x32,x33,x34,0,x35,ByteArray.empty,.any,hm,(zT (by kernel_rfl)),rfl⟩
    ·
     refine c0 h30 (sq (dn [(0,.ptr 0 0),(2,.ptr 1 0),(4,.ptr 2 0),(28,aB ((IntKind.wrap .i64 x4) == 4))] ?_))
     rcases zh hm with ⟨h36,hm⟩ | ⟨h36,hm⟩
     ·
      refine c1 h36 (rg (s1 1 [(30,.ptr 0 0)] ?_))
      obtain ⟨⟨x38,x39,x40,x41⟩,h37,hm⟩:=bs hm
      obtain ⟨vv,H1,hC,rfl,rfl⟩:=ae0 h37
      refine dR [(31,aS x41)] [.box (zc12 x38 x39 x40) false,.box [aI 0,aI 0,aF 0,aS ByteArray.empty] false,.box (zc14 x4) false] [0] [.ptr 0 0,aI 64] (by kernel_rfl) (by kernel_rfl) (by kernel_rfl) hC (by kernel_rfl) (stf 2 [(0,.ptr 0 0),(2,.ptr 1 0),(4,.ptr 2 0)] [.box (zc12 x38 x39 x40) false,.box [aI 0,aI 0,aF 0,aS ByteArray.empty] false,.box [aI (zS x4),aI 0,aF 0,aS x41] false] (by kernel_rfl) ?_)
      exact ⟨x38,x39,x40,0,0,x41,.any,hm,(zT (by kernel_rfl)),rfl⟩
     ·
      refine c0 h36 (wp_skip ?_)
      exact ⟨a0.fmade,x2,x3,0,0,ByteArray.empty,aB ((IntKind.wrap .i64 x4) == 4),hm,(zT (by kernel_rfl)),rfl⟩
theorem agL {n:Nat} {a0:zl} {a1:Int} {r:Int ⊕ (zl)} (hm:afe n a0 a1=some r):
    call G n 193 [.agg (zc4 a0),aI a1] []=some (PO 34 (fun (r:zl)=>.agg [aI r.fKind,aI r.fInt,aF r.fFloat,aS r.fText]) r,[]):=by
  unfold afe at hm
  obtain ⟨n,rfl,h0⟩:=zy hm
  replace hm:=h0; clear h0
  refine callP 10 [(0,.agg (zc4 a0)),(1,aI a1)] func193 rfl (by kernel_rfl) (sq (det [(1,aI a1),(2,.ptr 0 0),(4,.ptr 1 0)] [.box (zc4 a0) false,.box [aI 0,aI 0,aF 0,aS ByteArray.empty] false] (by kernel_rfl) (sq (sq (dn [(1,aI a1),(2,.ptr 0 0),(4,.ptr 1 0),(6,aB (a1 != 0))] ?_)))))
  rcases zh hm with ⟨h1,hm⟩ | ⟨h1,hm⟩
  ·
   refine c1 h1 (rg (s1 2 [(8,.pv (.ifc 34 (.int .i64 a1))),(7,aI a1)] ?_))
   obtain rfl:=Option.some.inj hm
   exact rp0 (v:=.pv (.ifc 34 (.int .i64 a1))) (by kernel_rfl) (by kernel_rfl) (fun _=>⟨trivial,by kernel_rfl⟩)
  ·
   refine c0 h1 (wp_skip (sq (det [(4,.ptr 1 0)] [.box (zc4 a0) false,.box (zc4 a0) false] (by kernel_rfl) (wp_ret ?_))))
   obtain rfl:=Option.some.inj hm
   exact ⟨trivial,by kernel_rfl⟩
abbrev zc15:List AV:=[aI 0,aI 0,aI 0,aI 0,aI 0,aF 0,aS ByteArray.empty,.pv .nils]
abbrev zc16 (p0:Int):List AV:=[aI (IntKind.wrap .i64 p0),aI 0,aI 0,aI 0,aI 0,aF 0,aS ByteArray.empty,.pv .nils]
abbrev zc17 (p0:Int):List AV:=[.ptr 1 0,aI (IntKind.wrap .i64 (p0 - 1))]
abbrev zc18 (p0:Int) (p1:Int) (p2:Int) (p3:Int) (p4:Int) (p5:Nat) (p6:ByteArray):List AV:=[aI (IntKind.wrap .i64 p0),aI p1,aI p2,aI p3,aI p4,aF p5,aS p6,.pv .nils]
abbrev zc19 (p0:Int) (p1:Int) (p2:Int) (p3:Int) (p4:Int) (p5:Nat) (p6:ByteArray) (p7:(List zc)):List AV:=[aI (IntKind.wrap .i64 p0),aI p1,aI p2,aI p3,aI p4,aF p5,aS p6,aR 4 8 p7.length]
abbrev zc20 (p0:Int) (p1:Int) (p2:Int) (p3:Int) (p4:Int) (p5:Nat) (p6:ByteArray):List AV:=[aI p0,aI p1,aI p2,aI p3,aI p4,aF p5,aS p6,.pv .nils]
abbrev zc21 (p0:Int) (p1:Int) (p2:Int) (p3:Int) (p4:Int) (p5:Nat) (p6:ByteArray) (p7:(List zc)):List AV:=[aI p0,aI p1,aI p2,aI p3,aI p4,aF p5,aS p6,aR 4 8 p7.length]
abbrev zp91 (p0:Int):Nat × AV:=(90,aI (IntKind.wrap .i64 (p0+1)))
abbrev aaU (p0:Int) (p1:Int) (p2:Int) (p3:Int) (p4:Int) (p5:Nat) (p6:ByteArray):=([(zz (zm.mk p0 p1 p2 (zl.mk p3 p4 p5 p6) none))]:List zc)
abbrev ajh (p0:Int) (p1:Int) (p2:Int) (p3:Int) (p4:Int) (p5:Nat) (p6:ByteArray):=(([(zz (zm.mk p0 p1 p2 (zl.mk p3 p4 p5 p6) none))]:List zc).length)
abbrev anj (p0:Int) (p1:Int) (p2:Int) (p3:Int) (p4:Int) (p5:Nat) (p6:ByteArray):=(([(zz (zm.mk p0 p1 p2 (zl.mk p3 p4 p5 p6) none))]:List zc).map za)
abbrev ab8 (p0:(List zc)):=(max 0 (p0.map za).length)
abbrev Q0 (p0:Int) (p1:Int) (p2:Int) (p3:Int) (p4:Int) (p5:Nat) (p6:ByteArray) (p7:(List zc)):=([(zz (zm.mk p0 p1 p2 (zl.mk p3 p4 p5 p6) (some p7)))]:List zc)
abbrev ajb (p0:Int) (p1:Int) (p2:Int) (p3:Int) (p4:Int) (p5:Nat) (p6:ByteArray) (p7:(List zc)):=(([(zz (zm.mk p0 p1 p2 (zl.mk p3 p4 p5 p6) (some p7)))]:List zc).length)
abbrev am0 (p0:Int) (p1:Int) (p2:Int) (p3:Int) (p4:Int) (p5:Nat) (p6:ByteArray) (p7:(List zc)):=(([(zz (zm.mk p0 p1 p2 (zl.mk p3 p4 p5 p6) (some p7)))]:List zc).map za)
abbrev aiZ (p0:(List zc)) (p1:Int) (p2:Int) (p3:Int) (p4:Int) (p5:Int) (p6:Nat) (p7:ByteArray):=((p0++([(zz (zm.mk p1 p2 p3 (zl.mk p4 p5 p6 p7) none))]:List zc)).length)
abbrev ai9 (p0:(List zc)) (p1:Int) (p2:Int) (p3:Int) (p4:Int) (p5:Int) (p6:Nat) (p7:ByteArray):=(p0++([(zz (zm.mk p1 p2 p3 (zl.mk p4 p5 p6 p7) none))]:List zc))
abbrev aiv (p0:(List zc)) (p1:Int) (p2:Int) (p3:Int) (p4:Int) (p5:Int) (p6:Nat) (p7:ByteArray) (p8:(List zc)):=((p0++([(zz (zm.mk p1 p2 p3 (zl.mk p4 p5 p6 p7) (some p8)))]:List zc)).length)
abbrev aiD (p0:(List zc)) (p1:Int) (p2:Int) (p3:Int) (p4:Int) (p5:Int) (p6:Nat) (p7:ByteArray) (p8:(List zc)):=(p0++([(zz (zm.mk p1 p2 p3 (zl.mk p4 p5 p6 p7) (some p8)))]:List zc))
theorem afs {rc_expr_taker_take:(Nat→Int→Bool→(Option (List Int))→Int→Int→Option ((Int × Bool × (Option (List Int)) × Int × Int) ⊕ (Int × Bool × (Option (List Int)) × Int × Int × Int × Int × Int × Int × Nat × ByteArray) ⊕ (Int × Bool × (Option (List Int)) × Int × Int × Int × Int × Int × Int × Nat × ByteArray × (List zc))))} (ih_expr_taker_take:∀ {n:Nat} {a0:Int} {a1:Bool} {a2:(Option (List Int))} {a3:Int} {a4:Int} {r:(Int × Bool × (Option (List Int)) × Int × Int) ⊕ (Int × Bool × (Option (List Int)) × Int × Int × Int × Int × Int × Int × Nat × ByteArray) ⊕ (Int × Bool × (Option (List Int)) × Int × Int × Int × Int × Int × Int × Nat × ByteArray × (List zc))} (hm:rc_expr_taker_take n a0 a1 a2 a3 a4=some r),∃ vv H1,call G n 150 [.ptr 0 0,aI a4] [.box [.ptr 1 0,aI a0] false,.box [aB a1,.pv (zg (rI .u8) a2),aI a3] false]=some (vv,H1)∧(match (generalizing:=false) r with | (.inl (r0,r1,r2,r3,r4))=>(vv=.pan (.pv (.ifc 34 (.int .i64 r4)))∧H1=[.box [.ptr 1 0,aI r0] false,.box [aB r1,.pv (zg (rI .u8) r2),aI r3] false]) | (.inr (.inl (r5,r6,r7,r8,r9,r10,r11,r12,r13,r14,r15)))=>(vv=.ret (.agg [aI r9,aI r10,aI r11,aI r12,aI r13,aF r14,aS r15,.pv .nils])∧H1=[.box [.ptr 1 0,aI r5] false,.box [aB r6,.pv (zg (rI .u8) r7),aI r8] false]) | (.inr (.inr ((r16,r17,r18,r19,r20,r21,r22,r23,r24,r25,r26,r27))))=>(vv=.ret (.agg [aI r20,aI r21,aI r22,aI r23,aI r24,aF r25,aS r26,aR 2 8 r27.length])∧H1=[.box [.ptr 1 0,aI r16] false,.box [aB r17,.pv (zg (rI .u8) r18),aI r19] false,bR 49 8 za r27 0 0]))) {n:Nat} {a0:Int} {a1:Bool} {a2:(Option (List Int))} {a3:Int} {a4:Int} {r:(Int × Bool × (Option (List Int)) × Int × Int) ⊕ (Int × Bool × (Option (List Int)) × Int × Int × Int × Int × Int × Int × Nat × ByteArray) ⊕ (Int × Bool × (Option (List Int)) × Int × Int × Int × Int × Int × Int × Nat × ByteArray × (List zc))} (hm:Qj rc_expr_taker_take n a0 a1 a2 a3 a4=some r):
    ∃ vv H1,call G n 150 [.ptr 0 0,aI a4] [.box [.ptr 1 0,aI a0] false,.box [aB a1,.pv (zg (rI .u8) a2),aI a3] false]=some (vv,H1)∧(match (generalizing:=false) r with | (.inl (r0,r1,r2,r3,r4))=>(vv=.pan (.pv (.ifc 34 (.int .i64 r4)))∧H1=[.box [.ptr 1 0,aI r0] false,.box [aB r1,.pv (zg (rI .u8) r2),aI r3] false]) | (.inr (.inl (r5,r6,r7,r8,r9,r10,r11,r12,r13,r14,r15)))=>(vv=.ret (.agg [aI r9,aI r10,aI r11,aI r12,aI r13,aF r14,aS r15,.pv .nils])∧H1=[.box [.ptr 1 0,aI r5] false,.box [aB r6,.pv (zg (rI .u8) r7),aI r8] false]) | (.inr (.inr ((r16,r17,r18,r19,r20,r21,r22,r23,r24,r25,r26,r27))))=>(vv=.ret (.agg [aI r20,aI r21,aI r22,aI r23,aI r24,aF r25,aS r26,aR 2 8 r27.length])∧H1=[.box [.ptr 1 0,aI r16] false,.box [aB r17,.pv (zg (rI .u8) r18),aI r19] false,bR 49 8 za r27 0 0])):=by
  unfold Qj at hm
  obtain ⟨n,rfl,h0⟩:=zy hm
  replace hm:=h0; clear h0
  refine ao4 103 [(0,.ptr 0 0),(1,aI a4)] func150 rfl (by kernel_rfl) (sq (det [(0,.ptr 0 0),(1,aI a4),(4,.ptr 2 0)] [.box [.ptr 1 0,aI a0] false,.box [aB a1,.pv (zg (rI .u8) a2),aI a3] false,.box zc15 false] (by kernel_rfl) (sq (rg (s1 4 [(12,.ptr 1 0),(11,.ptr 0 0),(10,.ptr 0 0),(9,.ptr 0 0)] ?_)))))
  obtain ⟨⟨x2,x3,x4⟩,h1,hm⟩:=bs hm
  obtain ⟨vv,H1,hC,rfl,rfl⟩:=Zs h1
  refine dR [(13,aY x4)] [.box [.ptr 1 0,aI a0] false,.box (zc13 a1 a2 a3 x2 x3) false,.box zc15 false] [1] [.ptr 1 0] (by kernel_rfl) (by kernel_rfl) (by kernel_rfl) hC (by kernel_rfl) (stf 4 [(0,.ptr 0 0),(1,aI a4),(4,.ptr 2 0),(5,.ptr 3 0)] [.box [.ptr 1 0,aI a0] false,.box (zc13 a1 a2 a3 x2 x3) false,.box zc15 false,.box (zc16 x4) false] (by kernel_rfl) (sq (rg (s1 2 [(17,aI (zS x4)),(16,.ptr 3 0)] ?_))))
  obtain ⟨x5,h6,hm⟩:=bs hm
  refine dv 18 (Zh (by kernel_rfl) (agR h6) (by kernel_rfl) (by kernel_rfl) (by kernel_rfl)) (by kernel_rfl) (fq 1 [(0,.ptr 0 0),(1,aI a4),(4,.ptr 2 0),(5,.ptr 3 0),(6,aI x5)] (sq (det [(0,.ptr 0 0),(1,aI a4),(4,.ptr 2 0),(5,.ptr 3 0),(6,aI x5)] [.box (zc17 a0) false,.box (zc13 a1 a2 a3 x2 x3) false,.box zc15 false,.box (zc16 x4) false] (by kernel_rfl) ?_)))
  refine sq (sq (rg (s1 4 [(29,.ptr 1 0),(28,.ptr 0 0),(27,.ptr 0 0),(26,.ptr 0 0)] ?_)))
  obtain ⟨x8,h7,hm⟩:=bs hm
  obtain ⟨vv,H1,hC,rfl,rfl⟩:=zX h7
  refine dR [(30,aI x8)] [.box (zc17 a0) false,.box (zc13 a1 a2 a3 x2 x3) false,.box zc15 false,.box (zc16 x4) false] [1] [.ptr 1 0] (by kernel_rfl) (by kernel_rfl) (by kernel_rfl) hC (by kernel_rfl) (fq 1 [(0,.ptr 0 0),(1,aI a4),(4,.ptr 2 0),(5,.ptr 3 0),(6,aI x5),(7,aI x8)] (bq (sq (dn [(0,.ptr 0 0),(1,aI a4),(4,.ptr 2 0),(5,.ptr 3 0),(6,aI x5),(7,aI x8),(31,aB (x8 != 0))] ?_))))
  rcases zh hm with ⟨h9,hm⟩ | ⟨h9,hm⟩
  ·
   refine c1 h9 (rg (s1 2 [(35,.pv (.ifc 34 (.int .i64 x8))),(34,aI x8)] ?_))
   obtain rfl:=Option.some.inj hm
   exact rp0 (v:=.pv (.ifc 34 (.int .i64 x8))) (by kernel_rfl) (by kernel_rfl) (fun _=>⟨trivial,.pan (.pv (.ifc 34 (.int .i64 x8))),[.box (zc17 a0) false,.box (zc13 a1 a2 a3 x2 x3) false],by kernel_rfl,rfl,rfl⟩)
  ·
   refine c0 h9 (sq (rg (s1 3 [(39,aB (decide (x5 < 0))),(38,aB (decide (x5 < 0))),(37,aI x5)] ?_)))
   refine segP (decide (x5 < 0)) [39,38] (fun b=>[(42,aB (b || (decide (a4 > 24)))),(41,ifA b (.undef) (aB (decide (a4 > 24)))),(40,ifA b (.undef) (aI a4))]) 3 (by kernel_rfl) (by kernel_rfl) (by kernel_rfl) (s1 1 [(43,aB ((decide (x5 < 0)) || (decide (a4 > 24))))] ?_)
   refine segP ((decide (x5 < 0)) || (decide (a4 > 24))) [43,42] (fun b=>[(49,aB (b || (decide ((IntKind.wrap .i64 (a0 - 1)) < 0)))),(48,ifA b (.undef) (aB (decide ((IntKind.wrap .i64 (a0 - 1)) < 0)))),(47,ifA b (.undef) (aI (IntKind.wrap .i64 (a0 - 1)))),(46,ifA b (.undef) (.ptr 0 1)),(45,ifA b (.undef) (.ptr 0 0)),(44,ifA b (.undef) (.ptr 0 0))]) 6 (by kernel_rfl) (by kernel_rfl) (by kernel_rfl) (fq 1 [(0,.ptr 0 0),(1,aI a4),(4,.ptr 2 0),(5,.ptr 3 0),(6,aI x5),(36,aB (((decide (x5 < 0)) || (decide (a4 > 24))) || (decide ((IntKind.wrap .i64 (a0 - 1)) < 0))))] ?_)
   rcases zh hm with ⟨h10,hm⟩ | ⟨h10,hm⟩
   ·
    refine c1 h10 (rg (s1 1 [(50,.pv (.ifc 34 (.int .i64 22)))] ?_))
    obtain rfl:=Option.some.inj hm
    exact rp0 (v:=.pv (.ifc 34 (.int .i64 22))) (by kernel_rfl) (by kernel_rfl) (fun _=>⟨trivial,.pan (.pv (.ifc 34 (.int .i64 22))),[.box (zc17 a0) false,.box (zc13 a1 a2 a3 x2 x3) false],by kernel_rfl,rfl,rfl⟩)
   ·
    refine c0 h10 (wp_skip ?_)
    obtain ⟨k21,hk21,hm⟩:=zx hm
    refine mid (fun t H=>(∃ (y12:Bool) (y13:(Option (List Int))) (y14:Int) (y15:Int) (y16:Int) (y17:Int) (y18:Int) (y19:Nat) (y20:ByteArray) (w11:AV),k21 y12 y13 y14 y15 y16 y17 y18 y19 y20=some r∧t=mk 103 [(0,.ptr 0 0),(1,aI a4),(4,.ptr 2 0),(5,.ptr 3 0),(6,aI x5),(69,w11)]∧H=[.box (zc17 a0) false,.box (zc12 y12 y13 y14) false,.box zc15 false,.box (zc18 x4 y15 y16 y17 y18 y19 y20) false])) ?_ ?_
    ·
     rintro _ _ ⟨y12,y13,y14,y15,y16,y17,y18,y19,y20,w11,hm,rfl,rfl⟩
     subst hk21
     refine sq (sq (rg (s1 4 [(83,.ptr 1 0),(82,.ptr 0 0),(81,.ptr 0 0),(80,.ptr 0 0)] ?_)))
     obtain ⟨x23,h22,hm⟩:=bs hm
     obtain ⟨vv,H1,hC,rfl,rfl⟩:=zX h22
     refine dR [(84,aI x23)] [.box (zc17 a0) false,.box (zc12 y12 y13 y14) false,.box zc15 false,.box (zc18 x4 y15 y16 y17 y18 y19 y20) false] [1] [.ptr 1 0] (by kernel_rfl) (by kernel_rfl) (by kernel_rfl) hC (by kernel_rfl) (fq 1 [(0,.ptr 0 0),(1,aI a4),(4,.ptr 2 0),(5,.ptr 3 0),(6,aI x5),(8,aI x23)] (sq (dn [(0,.ptr 0 0),(1,aI a4),(4,.ptr 2 0),(5,.ptr 3 0),(6,aI x5),(8,aI x23),(86,aB (x23 != 0))] ?_)))
     rcases zh hm with ⟨h24,hm⟩ | ⟨h24,hm⟩
     ·
      refine c1 h24 (rg (s1 2 [(88,.pv (.ifc 34 (.int .i64 x23))),(87,aI x23)] ?_))
      obtain rfl:=Option.some.inj hm
      exact rp0 (v:=.pv (.ifc 34 (.int .i64 x23))) (by kernel_rfl) (by kernel_rfl) (fun _=>⟨trivial,.pan (.pv (.ifc 34 (.int .i64 x23))),[.box (zc17 a0) false,.box (zc12 y12 y13 y14) false],by kernel_rfl,rfl,rfl⟩)
     ·
      refine c0 h24 (wp_skip ?_)
      obtain ⟨k32,hk32,hm⟩:=zx hm
      refine mid (fun t H=>(∃ (y27:Int) (y28:Bool) (y29:(Option (List Int))) (y30:Int) (w25:AV) (w26:AV),k32 y27 y28 y29 y30 none=some r∧t=mk 103 [(0,.ptr 0 0),(1,aI a4),(4,.ptr 2 0),(5,.ptr 3 0),(89,aI x5),(90,w25),(91,w26)]∧H=[.box [.ptr 1 0,aI y27] false,.box (zc12 y28 y29 y30) false,.box zc15 false,.box (zc18 x4 y15 y16 y17 y18 y19 y20) false])∨(∃ (y27:Int) (y28:Bool) (y29:(Option (List Int))) (y30:Int) (y31:(List zc)) (w25:AV) (w26:AV),k32 y27 y28 y29 y30 (some y31)=some r∧t=mk 103 [(0,.ptr 0 0),(1,aI a4),(4,.ptr 2 0),(5,.ptr 3 0),(89,aI x5),(90,w25),(91,w26)]∧H=[.box [.ptr 1 0,aI y27] false,.box (zc12 y28 y29 y30) false,.box zc15 false,.box (zc19 x4 y15 y16 y17 y18 y19 y20 y31) false,bR 49 8 za y31 0 0])) ?_ ?_
      ·
       rintro _ _ (⟨y27,y28,y29,y30,w25,w26,hm,rfl,rfl⟩ | ⟨y27,y28,y29,y30,y31,w25,w26,hm,rfl,rfl⟩)
       ·
        subst hk32
        refine sq (det [(4,.ptr 2 0)] [.box [.ptr 1 0,aI y27] false,.box (zc12 y28 y29 y30) false,.box (zc18 x4 y15 y16 y17 y18 y19 y20) false,.box (zc18 x4 y15 y16 y17 y18 y19 y20) false] (by kernel_rfl) (wp_ret ?_))
        obtain rfl:=Option.some.inj hm
        exact ⟨trivial,.ret (.agg (zc18 x4 y15 y16 y17 y18 y19 y20)),[.box [.ptr 1 0,aI y27] false,.box (zc12 y28 y29 y30) false],by kernel_rfl,rfl,rfl⟩
       ·
        subst hk32
        refine sq (det [(4,.ptr 2 0)] [.box [.ptr 1 0,aI y27] false,.box (zc12 y28 y29 y30) false,.box (zc19 x4 y15 y16 y17 y18 y19 y20 y31) false,.box (zc19 x4 y15 y16 y17 y18 y19 y20 y31) false,bR 49 8 za y31 0 0] (by kernel_rfl) (wp_ret ?_))
        obtain rfl:=Option.some.inj hm
        exact ⟨trivial,.ret (.agg [aI (zS x4),aI y15,aI y16,aI y17,aI y18,aF y19,aS y20,aR 2 8 y31.length]),[.box [.ptr 1 0,aI y27] false,.box (zc12 y28 y29 y30) false,bR 49 8 za y31 0 0],by kernel_rfl,rfl,rfl⟩
      refine sq (dn [(0,.ptr 0 0),(1,aI a4),(4,.ptr 2 0),(5,.ptr 3 0),(89,aI x5),(90,aI 0)] (bq ?_))
      refine qq (fun mm t H=>(∃ (y44:Int) (y45:Bool) (y46:(Option (List Int))) (y47:Int) (y49:Int),Zd n rc_expr_taker_take a4 x5 k32 mm y44 y45 y46 y47 none y49=some r∧t=mk 103 [(0,.ptr 0 0),(1,aI a4),(4,.ptr 2 0),(5,.ptr 3 0),(89,aI x5),(90,aI y49)]∧H=[.box [.ptr 1 0,aI y44] false,.box (zc12 y45 y46 y47) false,.box zc15 false,.box (zc18 x4 y15 y16 y17 y18 y19 y20) false])∨(∃ (y44:Int) (y45:Bool) (y46:(Option (List Int))) (y47:Int) (y48:(List zc)) (y49:Int),Zd n rc_expr_taker_take a4 x5 k32 mm y44 y45 y46 y47 (some y48) y49=some r∧t=mk 103 [(0,.ptr 0 0),(1,aI a4),(4,.ptr 2 0),(5,.ptr 3 0),(89,aI x5),(90,aI y49)]∧H=[.box [.ptr 1 0,aI y44] false,.box (zc12 y45 y46 y47) false,.box zc15 false,.box (zc19 x4 y15 y16 y17 y18 y19 y20 y48) false,bR 49 8 za y48 0 0])) (.inl ⟨(IntKind.wrap .i64 (a0 - 1)),y12,y13,y14,0,hm,rfl,rfl⟩) ?_ ?_
      · rintro _ _ (⟨y44,y45,y46,y47,y49,hm,_⟩ | ⟨y44,y45,y46,y47,y48,y49,hm,_⟩) <;> exact nomatch hm
      rintro m50 _ _ (⟨y44,y45,y46,y47,y49,hm,rfl,rfl⟩ | ⟨y44,y45,y46,y47,y48,y49,hm,rfl,rfl⟩)
      ·
       simp only [Zd] at hm
       refine sq (dn [(0,.ptr 0 0),(1,aI a4),(4,.ptr 2 0),(5,.ptr 3 0),(89,aI x5),(90,aI y49),(91,aB (decide (y49 < x5)))] ?_)
       refine sq ?_
       rcases zh hm with ⟨h51,hm⟩ | ⟨h51,hm⟩
       ·
        refine c1 h51 (wp_skip (sq (bq (rgd (shd 5 [(96,aI (zU a4)),(95,aI a4),(94,.ptr 0 0),(93,.pv .nils),(92,.ptr 3 7)] (by kernel_rfl) ?_)))))
        obtain ⟨x53,h52,hm⟩:=bs hm
        rcases x53 with ⟨x54,x55,x56,x57,x58⟩ | ⟨x59,x60,x61,x62,x63,x64,x65,x66,x67,x68,x69⟩ | ⟨x70,x71,x72,x73,x74,x75,x76,x77,x78,x79,x80,x81⟩
        ·
         obtain ⟨vv,H1,hC,rfl,rfl⟩:=ih_expr_taker_take h52
         obtain rfl:=Option.some.inj hm
         exact rRd (v':=.pv (.ifc 34 (.int .i64 x58))) [.box [.ptr 1 0,aI x54] false,.box (zc12 x55 x56 x57) false,.box zc15 false,.box (zc18 x4 y15 y16 y17 y18 y19 y20) false] [0,1] [.ptr 0 0,aI (zU a4)] (by kernel_rfl) (by kernel_rfl) (by kernel_rfl) hC (by kernel_rfl) (by kernel_rfl) (fun _=>⟨trivial,.pan (.pv (.ifc 34 (.int .i64 x58))),[.box [.ptr 1 0,aI x54] false,.box (zc12 x55 x56 x57) false],by kernel_rfl,rfl,rfl⟩)
        ·
         obtain ⟨vv,H1,hC,rfl,rfl⟩:=ih_expr_taker_take h52
         refine dRd [(97,.agg (zc20 x63 x64 x65 x66 x67 x68 x69))] [.box [.ptr 1 0,aI x59] false,.box (zc12 x60 x61 x62) false,.box zc15 false,.box (zc18 x4 y15 y16 y17 y18 y19 y20) false] [0,1] [.ptr 0 0,aI (zU a4)] (by kernel_rfl) (by kernel_rfl) (by kernel_rfl) hC (by kernel_rfl) (std 1 [(98,aR 4 8 1)] [.box [.ptr 1 0,aI x59] false,.box (zc12 x60 x61 x62) false,.box zc15 false,.box (zc18 x4 y15 y16 y17 y18 y19 y20) false,bR 49 8 za (aaU x63 x64 x65 x66 x67 x68 x69) 0 0] (by kernel_rfl) ?_)
         obtain ⟨_,h82,hm⟩:=bs hm
         refine dOd [(99,aR 5 8 (ajh x63 x64 x65 x66 x67 x68 x69))] [.box [.ptr 1 0,aI x59] false,.box (zc12 x60 x61 x62) false,.box zc15 false,.box (zc18 x4 y15 y16 y17 y18 y19 y20) false,bR 49 8 za (aaU x63 x64 x65 x66 x67 x68 x69) 0 0,bR 49 8 za (aaU x63 x64 x65 x66 x67 x68 x69) 0 0] (QG (u:=0) za (aaU x63 x64 x65 x66 x67 x68 x69) (b:=88) t23 t49 rfl rfl rfl qt rfl h82 (show zP (aR 4 8 1) _=some (anj x63 x64 x65 x66 x67 x68 x69) from by kernel_rfl) (by kernel_rfl)) (by kernel_rfl) (std 2 [(100,.ptr 3 7)] [.box [.ptr 1 0,aI x59] false,.box (zc12 x60 x61 x62) false,.box zc15 false,.box [aI (zS x4),aI y15,aI y16,aI y17,aI y18,aF y19,aS y20,aR 5 8 (ajh x63 x64 x65 x66 x67 x68 x69)] false,bR 49 8 za (aaU x63 x64 x65 x66 x67 x68 x69) 0 0,bR 49 8 za (aaU x63 x64 x65 x66 x67 x68 x69) 0 0] (by kernel_rfl) (find [(0,.ptr 0 0),(1,aI a4),(4,.ptr 2 0),(5,.ptr 3 0),(89,aI x5),(90,aI y49)] rfl (by kernel_rfl) (by kernel_rfl) (dn [(0,.ptr 0 0),(1,aI a4),(4,.ptr 2 0),(5,.ptr 3 0),(89,aI x5),(zp91 y49)] ?_)))
         exact ⟨_,_,ZC [(0,.ptr 0 0),(1,aI a4),(4,.ptr 2 0),(5,.ptr 3 0),(89,aI x5),(zp91 y49)] [.box [.ptr 1 0,aI x59] false,.box (zc12 x60 x61 x62) false,.box zc15 false,.box [aI (zS x4),aI y15,aI y16,aI y17,aI y18,aF y19,aS y20,aR 4 8 (ajh x63 x64 x65 x66 x67 x68 x69)] false,bR 49 8 za (aaU x63 x64 x65 x66 x67 x68 x69) 0 0] (by kernel_rfl),.inr (⟨x59,x60,x61,x62,(aaU x63 x64 x65 x66 x67 x68 x69),(zU y49),hm,rfl,rfl⟩)⟩
        ·
         obtain ⟨vv,H1,hC,rfl,rfl⟩:=ih_expr_taker_take h52
         refine dRd [(97,.agg (zc21 x74 x75 x76 x77 x78 x79 x80 x81))] [.box [.ptr 1 0,aI x70] false,.box (zc12 x71 x72 x73) false,.box zc15 false,.box (zc18 x4 y15 y16 y17 y18 y19 y20) false,bR 49 8 za x81 0 0] [0,1] [.ptr 0 0,aI (zU a4)] (by kernel_rfl) (by kernel_rfl) (by kernel_rfl) hC (by kernel_rfl) (dOd [(98,aR 5 8 1)] [.box [.ptr 1 0,aI x70] false,.box (zc12 x71 x72 x73) false,.box zc15 false,.box (zc18 x4 y15 y16 y17 y18 y19 y20) false,bR 49 8 za x81 0 (ab8 x81),bR 49 8 za (Q0 x74 x75 x76 x77 x78 x79 x80 x81) 0 0] (adp (nid:=0) (t:=23) (len:=1) (is:=[0]) (vs:=[.agg (zc21 x74 x75 x76 x77 x78 x79 x80 x81)]) (ps:=[.agg [aI x74,aI x75,aI x76,aI x77,aI x78,aF x79,aS x80,.pv (.sl (x81.map za))]]) (R:=[4]) (e:=⟨aR 5 8 1,[],[bR 49 8 za (Q0 x74 x75 x76 x77 x78 x79 x80 x81) 0 0]⟩) (by kernel_rfl) (ZZ (ae9 (zt (zC) (zt (zC) (zt (zC) (zt (zC) (zt (zC) (zt (zC) (zt (zC) (zt (qe (n:=x81.length) (id:=4) (l:=x81) (R:=za) rfl rfl (Nat.zero_le _)) (rfl))))))))) rfl) (rfl)) (by kernel_rfl) (by kernel_rfl)) (by kernel_rfl) ?_)
         obtain ⟨_,h83,hm⟩:=bs hm
         refine dOd [(99,aR 6 8 (ajb x74 x75 x76 x77 x78 x79 x80 x81))] [.box [.ptr 1 0,aI x70] false,.box (zc12 x71 x72 x73) false,.box zc15 false,.box (zc18 x4 y15 y16 y17 y18 y19 y20) false,bR 49 8 za x81 0 (ab8 x81),bR 49 8 za (Q0 x74 x75 x76 x77 x78 x79 x80 x81) 0 0,bR 49 8 za (Q0 x74 x75 x76 x77 x78 x79 x80 x81) 0 0] (QG (u:=0) za (Q0 x74 x75 x76 x77 x78 x79 x80 x81) (b:=88) t23 t49 rfl rfl rfl qt rfl h83 (show zP (aR 5 8 1) _=some (am0 x74 x75 x76 x77 x78 x79 x80 x81) from by kernel_rfl) (by kernel_rfl)) (by kernel_rfl) (std 2 [(100,.ptr 3 7)] [.box [.ptr 1 0,aI x70] false,.box (zc12 x71 x72 x73) false,.box zc15 false,.box [aI (zS x4),aI y15,aI y16,aI y17,aI y18,aF y19,aS y20,aR 6 8 (ajb x74 x75 x76 x77 x78 x79 x80 x81)] false,bR 49 8 za x81 0 (ab8 x81),bR 49 8 za (Q0 x74 x75 x76 x77 x78 x79 x80 x81) 0 0,bR 49 8 za (Q0 x74 x75 x76 x77 x78 x79 x80 x81) 0 0] (by kernel_rfl) (find [(0,.ptr 0 0),(1,aI a4),(4,.ptr 2 0),(5,.ptr 3 0),(89,aI x5),(90,aI y49)] rfl (by kernel_rfl) (by kernel_rfl) (dn [(0,.ptr 0 0),(1,aI a4),(4,.ptr 2 0),(5,.ptr 3 0),(89,aI x5),(zp91 y49)] ?_)))
         exact ⟨_,_,ZC [(0,.ptr 0 0),(1,aI a4),(4,.ptr 2 0),(5,.ptr 3 0),(89,aI x5),(zp91 y49)] [.box [.ptr 1 0,aI x70] false,.box (zc12 x71 x72 x73) false,.box zc15 false,.box [aI (zS x4),aI y15,aI y16,aI y17,aI y18,aF y19,aS y20,aR 4 8 (ajb x74 x75 x76 x77 x78 x79 x80 x81)] false,bR 49 8 za (Q0 x74 x75 x76 x77 x78 x79 x80 x81) 0 0] (by kernel_rfl),.inr (⟨x70,x71,x72,x73,(Q0 x74 x75 x76 x77 x78 x79 x80 x81),(zU y49),hm,rfl,rfl⟩)⟩
       ·
        refine c0 h51 (wp_exit ?_)
        exact .inl ⟨y44,y45,y46,y47,aI y49,aB (decide (y49 < x5)),hm,(zT (by kernel_rfl)),rfl⟩
      ·
       simp only [Zd] at hm
       refine sq (dn [(0,.ptr 0 0),(1,aI a4),(4,.ptr 2 0),(5,.ptr 3 0),(89,aI x5),(90,aI y49),(91,aB (decide (y49 < x5)))] ?_)
       refine sq ?_
       rcases zh hm with ⟨h84,hm⟩ | ⟨h84,hm⟩
       ·
        refine c1 h84 (wp_skip (sq (bq (rgd (shd 5 [(96,aI (zU a4)),(95,aI a4),(94,.ptr 0 0),(93,aR 4 8 y48.length),(92,.ptr 3 7)] (by kernel_rfl) ?_)))))
        obtain ⟨x86,h85,hm⟩:=bs hm
        rcases x86 with ⟨x87,x88,x89,x90,x91⟩ | ⟨x92,x93,x94,x95,x96,x97,x98,x99,x100,x101,x102⟩ | ⟨x103,x104,x105,x106,x107,x108,x109,x110,x111,x112,x113,x114⟩
        ·
         obtain ⟨vv,H1,hC,rfl,rfl⟩:=ih_expr_taker_take h85
         obtain rfl:=Option.some.inj hm
         exact rRd (v':=.pv (.ifc 34 (.int .i64 x91))) [.box [.ptr 1 0,aI x87] false,.box (zc12 x88 x89 x90) false,.box zc15 false,.box (zc19 x4 y15 y16 y17 y18 y19 y20 y48) false,bR 49 8 za y48 0 0] [0,1] [.ptr 0 0,aI (zU a4)] (by kernel_rfl) (by kernel_rfl) (by kernel_rfl) hC (by kernel_rfl) (by kernel_rfl) (fun _=>⟨trivial,.pan (.pv (.ifc 34 (.int .i64 x91))),[.box [.ptr 1 0,aI x87] false,.box (zc12 x88 x89 x90) false],by kernel_rfl,rfl,rfl⟩)
        ·
         obtain ⟨vv,H1,hC,rfl,rfl⟩:=ih_expr_taker_take h85
         refine dRd [(97,.agg (zc20 x96 x97 x98 x99 x100 x101 x102))] [.box [.ptr 1 0,aI x92] false,.box (zc12 x93 x94 x95) false,.box zc15 false,.box (zc19 x4 y15 y16 y17 y18 y19 y20 y48) false,bR 49 8 za y48 0 0] [0,1] [.ptr 0 0,aI (zU a4)] (by kernel_rfl) (by kernel_rfl) (by kernel_rfl) hC (by kernel_rfl) (std 1 [(98,aR 5 8 1)] [.box [.ptr 1 0,aI x92] false,.box (zc12 x93 x94 x95) false,.box zc15 false,.box (zc19 x4 y15 y16 y17 y18 y19 y20 y48) false,bR 49 8 za y48 0 0,bR 49 8 za (aaU x96 x97 x98 x99 x100 x101 x102) 0 0] (by kernel_rfl) ?_)
         obtain ⟨_,h115,hm⟩:=bs hm
         refine dOd [(99,aR 4 8 (aiZ y48 x96 x97 x98 x99 x100 x101 x102))] [.box [.ptr 1 0,aI x92] false,.box (zc12 x93 x94 x95) false,.box zc15 false,.box (zc19 x4 y15 y16 y17 y18 y19 y20 y48) false,bR 49 8 za (ai9 y48 x96 x97 x98 x99 x100 x101 x102) 0 0,bR 49 8 za (aaU x96 x97 x98 x99 x100 x101 x102) 0 0] (ZT (u:=0) (n:=y48.length) (id:=4) za y48 (aaU x96 x97 x98 x99 x100 x101 x102) (b:=88) t23 t49 rfl rfl rfl qt rfl h115 rfl rfl (Nat.zero_le _) (show zP (aR 5 8 1) _=some (anj x96 x97 x98 x99 x100 x101 x102) from by kernel_rfl) (by kernel_rfl)) (by kernel_rfl) (std 2 [(100,.ptr 3 7)] [.box [.ptr 1 0,aI x92] false,.box (zc12 x93 x94 x95) false,.box zc15 false,.box [aI (zS x4),aI y15,aI y16,aI y17,aI y18,aF y19,aS y20,aR 4 8 (aiZ y48 x96 x97 x98 x99 x100 x101 x102)] false,bR 49 8 za (ai9 y48 x96 x97 x98 x99 x100 x101 x102) 0 0,bR 49 8 za (aaU x96 x97 x98 x99 x100 x101 x102) 0 0] (by kernel_rfl) (find [(0,.ptr 0 0),(1,aI a4),(4,.ptr 2 0),(5,.ptr 3 0),(89,aI x5),(90,aI y49)] rfl (by kernel_rfl) (by kernel_rfl) (dn [(0,.ptr 0 0),(1,aI a4),(4,.ptr 2 0),(5,.ptr 3 0),(89,aI x5),(zp91 y49)] ?_)))
         exact ⟨_,_,ZC [(0,.ptr 0 0),(1,aI a4),(4,.ptr 2 0),(5,.ptr 3 0),(89,aI x5),(zp91 y49)] [.box [.ptr 1 0,aI x92] false,.box (zc12 x93 x94 x95) false,.box zc15 false,.box [aI (zS x4),aI y15,aI y16,aI y17,aI y18,aF y19,aS y20,aR 4 8 (aiZ y48 x96 x97 x98 x99 x100 x101 x102)] false,bR 49 8 za (ai9 y48 x96 x97 x98 x99 x100 x101 x102) 0 0] (by kernel_rfl),.inr (⟨x92,x93,x94,x95,(ai9 y48 x96 x97 x98 x99 x100 x101 x102),(zU y49),hm,rfl,rfl⟩)⟩
        ·
         obtain ⟨vv,H1,hC,rfl,rfl⟩:=ih_expr_taker_take h85
         refine dRd [(97,.agg [aI x107,aI x108,aI x109,aI x110,aI x111,aF x112,aS x113,aR 5 8 x114.length])] [.box [.ptr 1 0,aI x103] false,.box (zc12 x104 x105 x106) false,.box zc15 false,.box (zc19 x4 y15 y16 y17 y18 y19 y20 y48) false,bR 49 8 za y48 0 0,bR 49 8 za x114 0 0] [0,1] [.ptr 0 0,aI (zU a4)] (by kernel_rfl) (by kernel_rfl) (by kernel_rfl) hC (by kernel_rfl) (dOd [(98,aR 6 8 1)] [.box [.ptr 1 0,aI x103] false,.box (zc12 x104 x105 x106) false,.box zc15 false,.box (zc19 x4 y15 y16 y17 y18 y19 y20 y48) false,bR 49 8 za y48 0 0,bR 49 8 za x114 0 (ab8 x114),bR 49 8 za (Q0 x107 x108 x109 x110 x111 x112 x113 x114) 0 0] (adp (nid:=0) (t:=23) (len:=1) (is:=[0]) (vs:=[.agg [aI x107,aI x108,aI x109,aI x110,aI x111,aF x112,aS x113,aR 5 8 x114.length]]) (ps:=[.agg [aI x107,aI x108,aI x109,aI x110,aI x111,aF x112,aS x113,.pv (.sl (x114.map za))]]) (R:=[5]) (e:=⟨aR 6 8 1,[],[bR 49 8 za (Q0 x107 x108 x109 x110 x111 x112 x113 x114) 0 0]⟩) (by kernel_rfl) (ZZ (ae9 (zt (zC) (zt (zC) (zt (zC) (zt (zC) (zt (zC) (zt (zC) (zt (zC) (zt (qe (n:=x114.length) (id:=5) (l:=x114) (R:=za) rfl rfl (Nat.zero_le _)) (rfl))))))))) rfl) (rfl)) (by kernel_rfl) (by kernel_rfl)) (by kernel_rfl) ?_)
         obtain ⟨_,h116,hm⟩:=bs hm
         refine dOd [(99,aR 4 8 (aiv y48 x107 x108 x109 x110 x111 x112 x113 x114))] [.box [.ptr 1 0,aI x103] false,.box (zc12 x104 x105 x106) false,.box zc15 false,.box (zc19 x4 y15 y16 y17 y18 y19 y20 y48) false,bR 49 8 za (aiD y48 x107 x108 x109 x110 x111 x112 x113 x114) 0 0,bR 49 8 za x114 0 (ab8 x114),bR 49 8 za (Q0 x107 x108 x109 x110 x111 x112 x113 x114) 0 0] (ZT (u:=0) (n:=y48.length) (id:=4) za y48 (Q0 x107 x108 x109 x110 x111 x112 x113 x114) (b:=88) t23 t49 rfl rfl rfl qt rfl h116 rfl rfl (Nat.zero_le _) (show zP (aR 6 8 1) _=some (am0 x107 x108 x109 x110 x111 x112 x113 x114) from by kernel_rfl) (by kernel_rfl)) (by kernel_rfl) (std 2 [(100,.ptr 3 7)] [.box [.ptr 1 0,aI x103] false,.box (zc12 x104 x105 x106) false,.box zc15 false,.box [aI (zS x4),aI y15,aI y16,aI y17,aI y18,aF y19,aS y20,aR 4 8 (aiv y48 x107 x108 x109 x110 x111 x112 x113 x114)] false,bR 49 8 za (aiD y48 x107 x108 x109 x110 x111 x112 x113 x114) 0 0,bR 49 8 za x114 0 (ab8 x114),bR 49 8 za (Q0 x107 x108 x109 x110 x111 x112 x113 x114) 0 0] (by kernel_rfl) (find [(0,.ptr 0 0),(1,aI a4),(4,.ptr 2 0),(5,.ptr 3 0),(89,aI x5),(90,aI y49)] rfl (by kernel_rfl) (by kernel_rfl) (dn [(0,.ptr 0 0),(1,aI a4),(4,.ptr 2 0),(5,.ptr 3 0),(89,aI x5),(zp91 y49)] ?_)))
         exact ⟨_,_,ZC [(0,.ptr 0 0),(1,aI a4),(4,.ptr 2 0),(5,.ptr 3 0),(89,aI x5),(zp91 y49)] [.box [.ptr 1 0,aI x103] false,.box (zc12 x104 x105 x106) false,.box zc15 false,.box [aI (zS x4),aI y15,aI y16,aI y17,aI y18,aF y19,aS y20,aR 4 8 (aiv y48 x107 x108 x109 x110 x111 x112 x113 x114)] false,bR 49 8 za (aiD y48 x107 x108 x109 x110 x111 x112 x113 x114) 0 0] (by kernel_rfl),.inr (⟨x103,x104,x105,x106,(aiD y48 x107 x108 x109 x110 x111 x112 x113 x114),(zU y49),hm,rfl,rfl⟩)⟩
       ·
        refine c0 h84 (wp_exit ?_)
        exact .inr (⟨y44,y45,y46,y47,y48,aI y49,aB (decide (y49 < x5)),hm,(zT (by kernel_rfl)),rfl⟩)
    refine sq (dn [(0,.ptr 0 0),(1,aI a4),(4,.ptr 2 0),(5,.ptr 3 0),(6,aI x5),(52,aI (zS x4))] (bq (sq (dn [(0,.ptr 0 0),(1,aI a4),(4,.ptr 2 0),(5,.ptr 3 0),(6,aI x5),(52,aI (zS x4)),(53,aB ((IntKind.wrap .i64 x4) == 1))] ?_))))
    rcases zh hm with ⟨h117,hm⟩ | ⟨h117,hm⟩
    ·
     refine c1 h117 (sq (rg (s1 4 [(58,.ptr 1 0),(57,.ptr 0 0),(56,.ptr 0 0),(55,.ptr 0 0)] ?_)))
     obtain ⟨⟨x119,x120,x121,x122⟩,h118,hm⟩:=bs hm
     obtain ⟨vv,H1,hC,rfl,rfl⟩:=zY h118
     refine dR [(59,aU x122)] [.box (zc17 a0) false,.box (zc12 x119 x120 x121) false,.box zc15 false,.box (zc16 x4) false] [1] [.ptr 1 0,aU 31] (by kernel_rfl) (by kernel_rfl) (by kernel_rfl) hC (by kernel_rfl) (stf 3 [(0,.ptr 0 0),(1,aI a4),(4,.ptr 2 0),(5,.ptr 3 0),(6,aI x5)] [.box (zc17 a0) false,.box (zc12 x119 x120 x121) false,.box zc15 false,.box [aI (zS x4),aI (zS x122),aI 0,aI 0,aI 0,aF 0,aS ByteArray.empty,.pv .nils] false] (by kernel_rfl) (rg (s1 4 [(65,.ptr 1 0),(64,.ptr 0 0),(63,.ptr 0 0),(62,.ptr 0 0)] ?_)))
     obtain ⟨⟨x124,x125,x126,x127⟩,h123,hm⟩:=bs hm
     obtain ⟨vv,H1,hC,rfl,rfl⟩:=zY h123
     refine dR [(66,aU x127)] [.box (zc17 a0) false,.box (zc12 x124 x125 x126) false,.box zc15 false,.box [aI (zS x4),aI (zS x122),aI 0,aI 0,aI 0,aF 0,aS ByteArray.empty,.pv .nils] false] [1] [.ptr 1 0,aU 31] (by kernel_rfl) (by kernel_rfl) (by kernel_rfl) hC (by kernel_rfl) (stf 3 [(0,.ptr 0 0),(1,aI a4),(4,.ptr 2 0),(5,.ptr 3 0),(6,aI x5)] [.box (zc17 a0) false,.box (zc12 x124 x125 x126) false,.box zc15 false,.box [aI (zS x4),aI (zS x122),aI (zS x127),aI 0,aI 0,aF 0,aS ByteArray.empty,.pv .nils] false] (by kernel_rfl) ?_)
     exact ⟨x124,x125,x126,(zS x122),(zS x127),0,0,0,ByteArray.empty,.any,hm,(zT (by kernel_rfl)),rfl⟩
    ·
     refine c0 h117 (sq (dn [(0,.ptr 0 0),(1,aI a4),(4,.ptr 2 0),(5,.ptr 3 0),(6,aI x5),(69,aB ((IntKind.wrap .i64 x4) == 2))] ?_))
     rcases zh hm with ⟨h128,hm⟩ | ⟨h128,hm⟩
     ·
      refine c1 h128 (rg (s1 4 [(74,.ptr 1 0),(73,.ptr 0 0),(72,.ptr 0 0),(71,.ptr 0 0)] ?_))
      obtain ⟨⟨x130,x131,x132,x133,x134,x135,x136,x137⟩,h129,hm⟩:=bs hm
      obtain ⟨vv,H1,hC,rfl,rfl⟩:=ajT h129
      refine dR [(75,.tup [.agg [aI x133,aI x134,aF x135,aS x136],aI x137])] [.box (zc17 a0) false,.box (zc12 x130 x131 x132) false,.box zc15 false,.box (zc16 x4) false] [1] [.ptr 1 0] (by kernel_rfl) (by kernel_rfl) (by kernel_rfl) hC (by kernel_rfl) (s1 2 [(77,aI x137),(76,.agg [aI x133,aI x134,aF x135,aS x136])] ?_)
      obtain ⟨x138,h139,hm⟩:=bs hm
      rcases x138 with x140 | x138
      ·
       obtain rfl:=Option.some.inj hm
       exact rp0 (v:=.pv (.ifc 34 (.int .i64 x140))) (cpan (by kernel_rfl) (agL h139) (by kernel_rfl) (by kernel_rfl) (by kernel_rfl)) (by kernel_rfl) (fun _=>⟨trivial,.pan (.pv (.ifc 34 (.int .i64 x140))),[.box (zc17 a0) false,.box (zc12 x130 x131 x132) false],by kernel_rfl,rfl,rfl⟩)
      ·
       refine dv 78 (Zh (by kernel_rfl) (agL h139) (by kernel_rfl) (by kernel_rfl) (by kernel_rfl)) (by kernel_rfl) (stf 2 [(0,.ptr 0 0),(1,aI a4),(4,.ptr 2 0),(5,.ptr 3 0),(6,aI x5)] [.box (zc17 a0) false,.box (zc12 x130 x131 x132) false,.box zc15 false,.box [aI (zS x4),aI 0,aI 0,aI x138.fKind,aI x138.fInt,aF x138.fFloat,aS x138.fText,.pv .nils] false] (by kernel_rfl) ?_)
       exact ⟨x130,x131,x132,0,0,x138.fKind,x138.fInt,x138.fFloat,x138.fText,.any,hm,(zT (by kernel_rfl)),rfl⟩
     ·
      refine c0 h128 (wp_skip ?_)
      exact ⟨(afu a1 a2 a3),x2,x3,0,0,0,0,0,ByteArray.empty,aB ((IntKind.wrap .i64 x4) == 2),hm,(zT (by kernel_rfl)),rfl⟩
theorem acb:∀ (m:Nat),∀ {n:Nat} {a0:Int} {a1:Bool} {a2:(Option (List Int))} {a3:Int} {a4:Int} {r:(Int × Bool × (Option (List Int)) × Int × Int) ⊕ (Int × Bool × (Option (List Int)) × Int × Int × Int × Int × Int × Int × Nat × ByteArray) ⊕ (Int × Bool × (Option (List Int)) × Int × Int × Int × Int × Int × Int × Nat × ByteArray × (List zc))} (hm:qp m n a0 a1 a2 a3 a4=some r),∃ vv H1,call G n 150 [.ptr 0 0,aI a4] [.box [.ptr 1 0,aI a0] false,.box [aB a1,.pv (zg (rI .u8) a2),aI a3] false]=some (vv,H1)∧(match (generalizing:=false) r with | (.inl (r0,r1,r2,r3,r4))=>(vv=.pan (.pv (.ifc 34 (.int .i64 r4)))∧H1=[.box [.ptr 1 0,aI r0] false,.box [aB r1,.pv (zg (rI .u8) r2),aI r3] false]) | (.inr (.inl (r5,r6,r7,r8,r9,r10,r11,r12,r13,r14,r15)))=>(vv=.ret (.agg [aI r9,aI r10,aI r11,aI r12,aI r13,aF r14,aS r15,.pv .nils])∧H1=[.box [.ptr 1 0,aI r5] false,.box [aB r6,.pv (zg (rI .u8) r7),aI r8] false]) | (.inr (.inr ((r16,r17,r18,r19,r20,r21,r22,r23,r24,r25,r26,r27))))=>(vv=.ret (.agg [aI r20,aI r21,aI r22,aI r23,aI r24,aF r25,aS r26,aR 2 8 r27.length])∧H1=[.box [.ptr 1 0,aI r16] false,.box [aB r17,.pv (zg (rI .u8) r18),aI r19] false,bR 49 8 za r27 0 0]))
  | 0=>by intros; rename_i hm; exact nomatch hm
  | m+1=>fun hm=>
    afs (acb m) hm
theorem aaY {n:Nat} {a0:Int} {a1:Bool} {a2:(Option (List Int))} {a3:Int} {a4:Int} {r:(Int × Bool × (Option (List Int)) × Int × Int) ⊕ (Int × Bool × (Option (List Int)) × Int × Int × Int × Int × Int × Int × Nat × ByteArray) ⊕ (Int × Bool × (Option (List Int)) × Int × Int × Int × Int × Int × Int × Nat × ByteArray × (List zc))} (hm:ab4 n a0 a1 a2 a3 a4=some r):
    ∃ vv H1,call G n 150 [.ptr 0 0,aI a4] [.box [.ptr 1 0,aI a0] false,.box [aB a1,.pv (zg (rI .u8) a2),aI a3] false]=some (vv,H1)∧(match (generalizing:=false) r with | (.inl (r0,r1,r2,r3,r4))=>(vv=.pan (.pv (.ifc 34 (.int .i64 r4)))∧H1=[.box [.ptr 1 0,aI r0] false,.box [aB r1,.pv (zg (rI .u8) r2),aI r3] false]) | (.inr (.inl (r5,r6,r7,r8,r9,r10,r11,r12,r13,r14,r15)))=>(vv=.ret (.agg [aI r9,aI r10,aI r11,aI r12,aI r13,aF r14,aS r15,.pv .nils])∧H1=[.box [.ptr 1 0,aI r5] false,.box [aB r6,.pv (zg (rI .u8) r7),aI r8] false]) | (.inr (.inr ((r16,r17,r18,r19,r20,r21,r22,r23,r24,r25,r26,r27))))=>(vv=.ret (.agg [aI r20,aI r21,aI r22,aI r23,aI r24,aF r25,aS r26,aR 2 8 r27.length])∧H1=[.box [.ptr 1 0,aI r16] false,.box [aB r17,.pv (zg (rI .u8) r18),aI r19] false,bR 49 8 za r27 0 0])):=acb n hm
theorem acL {n:Nat} {a0:Int} {a1:Bool} {a2:(Option (List Int))} {a3:Int} {a4:Int} {a5:Int} {a6:Int} {a7:Int} {a8:Int} {a9:Nat} {a10:ByteArray} {r:(Int × Bool × (Option (List Int)) × Int × Int) ⊕ (Int × Bool × (Option (List Int)) × Int × Int × Int × Int × Int × Int × Nat × ByteArray) ⊕ (Int × Bool × (Option (List Int)) × Int × Int × Int × Int × Int × Int × Nat × ByteArray × (List zc))} (hm:ac4 n a0 a1 a2 a3 a4 a5 a6 a7 a8 a9 a10=some r):
    ∃ vv H1,call G n 149 [.ptr 0 0,.ptr 3 0] [.box [.ptr 1 0] false,.box [.ptr 2 0,aI a0] false,.box [aB a1,.pv (zg (rI .u8) a2),aI a3] false,.box (zc20 a4 a5 a6 a7 a8 a9 a10) false]=some (vv,H1)∧(match (generalizing:=false) r with | (.inl (r0,r1,r2,r3,r4))=>(vv=.pan (.pv (.ifc 34 (.int .i64 r4)))∧H1=[.box [.ptr 1 0] false,.box [.ptr 2 0,aI r0] false,.box [aB r1,.pv (zg (rI .u8) r2),aI r3] false,.box (zc20 a4 a5 a6 a7 a8 a9 a10) false]) | (.inr (.inl (r5,r6,r7,r8,r9,r10,r11,r12,r13,r14,r15)))=>(vv=.ret (.tup [])∧H1=[.box [.ptr 1 0] false,.box [.ptr 2 0,aI r5] false,.box [aB r6,.pv (zg (rI .u8) r7),aI r8] false,.box [aI r9,aI r10,aI r11,aI r12,aI r13,aF r14,aS r15,.pv .nils] false]) | (.inr (.inr ((r16,r17,r18,r19,r20,r21,r22,r23,r24,r25,r26,r27))))=>(vv=.ret (.tup [])∧H1=[.box [.ptr 1 0] false,.box [.ptr 2 0,aI r16] false,.box [aB r17,.pv (zg (rI .u8) r18),aI r19] false,.box [aI r20,aI r21,aI r22,aI r23,aI r24,aF r25,aS r26,aR 4 8 r27.length] false,bR 49 8 za r27 0 0])):=by
  unfold ac4 at hm
  obtain ⟨n,rfl,h0⟩:=zy hm
  replace hm:=h0; clear h0
  refine ao4 4 [(0,.ptr 0 0),(1,.ptr 3 0)] func149 rfl (by kernel_rfl) (rg (s1 1 [(2,.ptr 1 0)] ?_))
  obtain ⟨x2,h1,hm⟩:=bs hm
  rcases x2 with ⟨x3,x4,x5,x6,x7⟩ | ⟨x8,x9,x10,x11,x12,x13,x14,x15,x16,x17,x18⟩ | ⟨x19,x20,x21,x22,x23,x24,x25,x26,x27,x28,x29,x30⟩
  ·
   obtain ⟨vv,H1,hC,rfl,rfl⟩:=aaY h1
   obtain rfl:=Option.some.inj hm
   exact rR (v':=.pv (.ifc 34 (.int .i64 x7))) [.box [.ptr 1 0] false,.box [.ptr 2 0,aI x3] false,.box [aB x4,.pv (zg (rI .u8) x5),aI x6] false,.box (zc20 a4 a5 a6 a7 a8 a9 a10) false] [1,2] [.ptr 1 0,aI 1] (by kernel_rfl) (by kernel_rfl) (by kernel_rfl) hC (by kernel_rfl) (fun _=>⟨trivial,.pan (.pv (.ifc 34 (.int .i64 x7))),[.box [.ptr 1 0] false,.box [.ptr 2 0,aI x3] false,.box [aB x4,.pv (zg (rI .u8) x5),aI x6] false,.box (zc20 a4 a5 a6 a7 a8 a9 a10) false],by kernel_rfl,rfl,rfl⟩)
  ·
   obtain ⟨vv,H1,hC,rfl,rfl⟩:=aaY h1
   refine dR [(3,.agg (zc20 x12 x13 x14 x15 x16 x17 x18))] [.box [.ptr 1 0] false,.box [.ptr 2 0,aI x8] false,.box (zc12 x9 x10 x11) false,.box (zc20 a4 a5 a6 a7 a8 a9 a10) false] [1,2] [.ptr 1 0,aI 1] (by kernel_rfl) (by kernel_rfl) (by kernel_rfl) hC (by kernel_rfl) (stf 1 [] [.box [.ptr 1 0] false,.box [.ptr 2 0,aI x8] false,.box (zc12 x9 x10 x11) false,.box (zc20 x12 x13 x14 x15 x16 x17 x18) false] (by kernel_rfl) ?_)
   obtain rfl:=Option.some.inj hm
   exact ⟨trivial,.ret (.tup []),[.box [.ptr 1 0] false,.box [.ptr 2 0,aI x8] false,.box (zc12 x9 x10 x11) false,.box (zc20 x12 x13 x14 x15 x16 x17 x18) false],by kernel_rfl,rfl,rfl⟩
  ·
   obtain ⟨vv,H1,hC,rfl,rfl⟩:=aaY h1
   refine dR [(3,.agg (zc21 x23 x24 x25 x26 x27 x28 x29 x30))] [.box [.ptr 1 0] false,.box [.ptr 2 0,aI x19] false,.box (zc12 x20 x21 x22) false,.box (zc20 a4 a5 a6 a7 a8 a9 a10) false,bR 49 8 za x30 0 0] [1,2] [.ptr 1 0,aI 1] (by kernel_rfl) (by kernel_rfl) (by kernel_rfl) hC (by kernel_rfl) (stf 1 [] [.box [.ptr 1 0] false,.box [.ptr 2 0,aI x19] false,.box (zc12 x20 x21 x22) false,.box (zc21 x23 x24 x25 x26 x27 x28 x29 x30) false,bR 49 8 za x30 0 0] (by kernel_rfl) ?_)
   obtain rfl:=Option.some.inj hm
   exact ⟨trivial,.ret (.tup []),[.box [.ptr 1 0] false,.box [.ptr 2 0,aI x19] false,.box (zc12 x20 x21 x22) false,.box (zc21 x23 x24 x25 x26 x27 x28 x29 x30) false,bR 49 8 za x30 0 0],by kernel_rfl,rfl,rfl⟩
theorem aae {n:Nat} {a0:Int} {a1:Bool} {a2:(Option (List Int))} {a3:Int} {a4:Int} {a5:Int} {a6:Int} {a7:Int} {a8:Int} {a9:Nat} {a10:ByteArray} {r:Int × Bool × (Option (List Int)) × Int × Int × Int × Int × Int × Int × Nat × ByteArray × (Option (List zc)) × Int} (hm:qH n a0 a1 a2 a3 a4 a5 a6 a7 a8 a9 a10=some r):
    ∃ vv H1,call G n 144 [.fn 149 [] [.ptr 0 0,.ptr 3 0]] [.box [.ptr 1 0] false,.box [.ptr 2 0,aI a0] false,.box [aB a1,.pv (zg (rI .u8) a2),aI a3] false,.box (zc20 a4 a5 a6 a7 a8 a9 a10) false]=some (.ret vv,H1)∧(match (generalizing:=false) r with | (r0,r1,r2,r3,r4,r5,r6,r7,r8,r9,r10,none,r11)=>(vv=aI r11∧H1=[.box [.ptr 1 0] false,.box [.ptr 2 0,aI r0] false,.box [aB r1,.pv (zg (rI .u8) r2),aI r3] false,.box [aI r4,aI r5,aI r6,aI r7,aI r8,aF r9,aS r10,.pv .nils] false]) | (r0,r1,r2,r3,r4,r5,r6,r7,r8,r9,r10,some r12,r11)=>(vv=aI r11∧H1=[.box [.ptr 1 0] false,.box [.ptr 2 0,aI r0] false,.box [aB r1,.pv (zg (rI .u8) r2),aI r3] false,.box [aI r4,aI r5,aI r6,aI r7,aI r8,aF r9,aS r10,aR 4 8 r12.length] false,bR 49 8 za r12 0 0])):=by
  unfold qH at hm
  obtain ⟨n,rfl,h0⟩:=zy hm
  replace hm:=h0; clear h0
  obtain ⟨x2,h1,hm⟩:=bs hm
  rcases x2 with ⟨x3,x4,x5,x6,x7⟩ | ⟨x8,x9,x10,x11,x12,x13,x14,x15,x16,x17,x18⟩ | ⟨x19,x20,x21,x22,x23,x24,x25,x26,x27,x28,x29,x30⟩
  ·
   obtain ⟨vv,H1,hC,rfl,rfl⟩:=acL h1
   obtain rfl:=Option.some.inj hm
   exact ⟨_,_,al9 func144 rfl (by kernel_rfl) rfl (by kernel_rfl) func149 (by kernel_rfl) rfl hC (by kernel_rfl),rfl,rfl⟩
  ·
   obtain ⟨vv,H1,hC,rfl,rfl⟩:=acL h1
   obtain rfl:=Option.some.inj hm
   exact ⟨_,_,al9 func144 rfl (by kernel_rfl) rfl (by kernel_rfl) func149 (by kernel_rfl) rfl hC (by kernel_rfl),rfl,rfl⟩
  ·
   obtain ⟨vv,H1,hC,rfl,rfl⟩:=acL h1
   obtain rfl:=Option.some.inj hm
   exact ⟨_,_,al9 func144 rfl (by kernel_rfl) rfl (by kernel_rfl) func149 (by kernel_rfl) rfl hC (by kernel_rfl),rfl,rfl⟩
abbrev zc22 (p0:Int) (p1:Int) (p2:Int) (p3:Int) (p4:Int) (p5:Nat) (p6:ByteArray) (p7:(List zc)):List AV:=[aI p0,aI p1,aI p2,aI p3,aI p4,aF p5,aS p6,aR 1 8 p7.length]
theorem Qu {n:Nat} {a0:zf} {r:Bool × (Option (List Int)) × Int × Int × Int × Int × Int × Int × Nat × ByteArray × (Option (List zc)) × Int} (hm:aa9 n a0=some r):
    ∃ vv H1,call G n 74 [.ptr 0 0] [.box (zc10 a0) false]=some (.ret vv,H1)∧(match (generalizing:=false) r with | (r0,r1,r2,r3,r4,r5,r6,r7,r8,r9,none,r10)=>(vv=.tup [.agg [aI r3,aI r4,aI r5,aI r6,aI r7,aF r8,aS r9,.pv .nils],aI r10]∧H1=[.box [aB r0,.pv (zg (rI .u8) r1),aI r2] false]) | (r0,r1,r2,r3,r4,r5,r6,r7,r8,r9,some r11,r10)=>(vv=.tup [.agg [aI r3,aI r4,aI r5,aI r6,aI r7,aF r8,aS r9,aR 1 8 r11.length],aI r10]∧H1=[.box [aB r0,.pv (zg (rI .u8) r1),aI r2] false,bR 49 8 za r11 0 0])):=by
  unfold aa9 at hm
  obtain ⟨n,rfl,h0⟩:=zy hm
  replace hm:=h0; clear h0
  refine QA 16 [(0,.ptr 0 0)] func74 rfl (by kernel_rfl) (sq (det [(0,.ptr 0 0),(2,.ptr 1 0)] [.box (zc10 a0) false,.box zc15 false] (by kernel_rfl) (sq (det [(2,.ptr 1 0),(4,.ptr 3 0)] [.box (zc10 a0) false,.box zc15 false,.box [.ptr 0 0,aI 400] false,.box [.ptr 2 0] false] (by kernel_rfl) (sq (sq (rg (s1 1 [(9,.fn 149 [] [.ptr 3 0,.ptr 1 0])] ?_))))))))
  obtain ⟨x15,h1,hm⟩:=bs hm
  rcases x15 with ⟨x2,x3,x4,x5,x6,x7,x8,x9,x10,x11,x12,_ | x13,x14⟩
  ·
   obtain ⟨vv,H1,hC,rfl,rfl⟩:=aae h1
   refine dR [(10,aI x14)] [.box [aB x3,.pv (zg (rI .u8) x4),aI x5] false,.box (zc20 x6 x7 x8 x9 x10 x11 x12) false,.box [.ptr 0 0,aI x2] false,.box [.ptr 2 0] false] [3,2,0,1] [.fn 149 [] [.ptr 3 0,.ptr 1 0]] (by kernel_rfl) (by kernel_rfl) (by kernel_rfl) hC (by kernel_rfl) (fq 1 [(2,.ptr 1 0),(5,aI x14)] (sq (dn [(2,.ptr 1 0),(5,aI x14),(12,aB (x14 != 0))] ?_)))
   rcases zh hm with ⟨h16,hm⟩ | ⟨h16,hm⟩
   ·
    refine c1 h16 (sq (det [(2,.ptr 1 0),(3,aI x14)] [.box [aB x3,.pv (zg (rI .u8) x4),aI x5] false,.box zc15 false,.box [.ptr 0 0,aI x2] false,.box [.ptr 2 0] false] (by kernel_rfl) (wp_ret ?_)))
    obtain rfl:=Option.some.inj hm
    exact ⟨trivial,.tup [.agg zc15,aI x14],[.box [aB x3,.pv (zg (rI .u8) x4),aI x5] false],by kernel_rfl,rfl,rfl⟩
   ·
    refine c0 h16 (wp_skip (sq (dn [(2,.ptr 1 0),(3,aI 0)] (wp_ret ?_))))
    obtain rfl:=Option.some.inj hm
    exact ⟨trivial,.tup [.agg (zc20 x6 x7 x8 x9 x10 x11 x12),aI 0],[.box [aB x3,.pv (zg (rI .u8) x4),aI x5] false],by kernel_rfl,rfl,rfl⟩
  ·
   obtain ⟨vv,H1,hC,rfl,rfl⟩:=aae h1
   refine dR [(10,aI x14)] [.box [aB x3,.pv (zg (rI .u8) x4),aI x5] false,.box (zc21 x6 x7 x8 x9 x10 x11 x12 x13) false,.box [.ptr 0 0,aI x2] false,.box [.ptr 2 0] false,bR 49 8 za x13 0 0] [3,2,0,1] [.fn 149 [] [.ptr 3 0,.ptr 1 0]] (by kernel_rfl) (by kernel_rfl) (by kernel_rfl) hC (by kernel_rfl) (fq 1 [(2,.ptr 1 0),(5,aI x14)] (sq (dn [(2,.ptr 1 0),(5,aI x14),(12,aB (x14 != 0))] ?_)))
   rcases zh hm with ⟨h17,hm⟩ | ⟨h17,hm⟩
   ·
    refine c1 h17 (sq (det [(2,.ptr 1 0),(3,aI x14)] [.box [aB x3,.pv (zg (rI .u8) x4),aI x5] false,.box zc15 false,.box [.ptr 0 0,aI x2] false,.box [.ptr 2 0] false,bR 49 8 za x13 0 0] (by kernel_rfl) (wp_ret ?_)))
    obtain rfl:=Option.some.inj hm
    exact ⟨trivial,.tup [.agg zc15,aI x14],[.box [aB x3,.pv (zg (rI .u8) x4),aI x5] false],by kernel_rfl,rfl,rfl⟩
   ·
    refine c0 h17 (wp_skip (sq (dn [(2,.ptr 1 0),(3,aI 0)] (wp_ret ?_))))
    obtain rfl:=Option.some.inj hm
    exact ⟨trivial,.tup [.agg (zc22 x6 x7 x8 x9 x10 x11 x12 x13),aI 0],[.box [aB x3,.pv (zg (rI .u8) x4),aI x5] false,bR 49 8 za x13 0 0],by kernel_rfl,rfl,rfl⟩
abbrev zp92 (p0:Int):Nat × AV:=(9,aU (IntKind.wrap .u64 (p0+1)))
abbrev ad6 (p0:Int):=(IntKind.wrap .u64 (p0+1))
theorem abK {n:Nat} {a0:zf} {r:Bool × (Option (List Int)) × Int × (Option (List zc)) × Int} (hm:aao n a0=some r):
    ∃ vv H1,call G n 178 [.ptr 0 0] [.box (zc10 a0) false]=some (.ret vv,H1)∧(match (generalizing:=false) r with | (r0,r1,r2,r3,r4)=>(vv=.tup [.pv (zg za r3),aI r4]∧H1=[.box [aB r0,.pv (zg (rI .u8) r1),aI r2] false])):=by
  unfold aao at hm
  obtain ⟨n,rfl,h0⟩:=zy hm
  replace hm:=h0; clear h0
  refine QA 27 [(0,.ptr 0 0)] func178 rfl (by kernel_rfl) (sq (dn [(0,.ptr 0 0)] (sq (dn [(0,.ptr 0 0),(4,.pv .nils)] ?_))))
  obtain ⟨k8,hk8,hm⟩:=zx hm
  refine mid (fun t H=>(∃ (y4:Bool) (y5:(Option (List Int))) (y6:Int) (w1:AV) (w2:AV) (w3:AV),k8 y4 y5 y6 none=some r∧t=mk 27 [(0,.ptr 0 0),(4,.pv .nils),(8,w1),(9,w2),(10,w3)]∧H=[.box [aB y4,.pv (zg (rI .u8) y5),aI y6] false])∨(∃ (y4:Bool) (y5:(Option (List Int))) (y6:Int) (y7:(List zc)) (w1:AV) (w2:AV) (w3:AV),k8 y4 y5 y6 (some y7)=some r∧t=mk 27 [(0,.ptr 0 0),(4,aR 1 8 y7.length),(8,w1),(9,w2),(10,w3)]∧H=[.box [aB y4,.pv (zg (rI .u8) y5),aI y6] false,bR 49 8 za y7 0 0])) ?_ ?_
  ·
   rintro _ _ (⟨y4,y5,y6,w1,w2,w3,hm,rfl,rfl⟩ | ⟨y4,y5,y6,y7,w1,w2,w3,hm,rfl,rfl⟩)
   ·
    subst hk8
    refine sq (rg (s1 2 [(25,.ptr 0 0),(24,.pv .nils)] ?_))
    obtain ⟨x10,h9,hm⟩:=bs hm
    obtain ⟨vv,H1,hC,rfl,rfl⟩:=zX h9
    refine dR [(26,aI x10)] [.box [aB y4,.pv (zg (rI .u8) y5),aI y6] false] [0] [.ptr 0 0] (by kernel_rfl) (by kernel_rfl) (by kernel_rfl) hC (by kernel_rfl) (fq 2 [(2,.pv .nils),(3,aI x10)] (wp_ret ?_))
    obtain rfl:=Option.some.inj hm
    exact ⟨trivial,.tup [.pv (zg za none),aI x10],[.box [aB y4,.pv (zg (rI .u8) y5),aI y6] false],Zo (x:=.tup [.pv .nils,aI x10]) (x':=.tup [.pv .nils,aI x10]) [] (by kernel_rfl) (by kernel_rfl) (by kernel_rfl) (by kernel_rfl) rfl (by kernel_rfl),rfl,rfl⟩
   ·
    subst hk8
    refine sq (rg (s1 2 [(25,.ptr 0 0),(24,aR 1 8 y7.length)] ?_))
    obtain ⟨x12,h11,hm⟩:=bs hm
    obtain ⟨vv,H1,hC,rfl,rfl⟩:=zX h11
    refine dR [(26,aI x12)] [.box [aB y4,.pv (zg (rI .u8) y5),aI y6] false,bR 49 8 za y7 0 0] [0] [.ptr 0 0] (by kernel_rfl) (by kernel_rfl) (by kernel_rfl) hC (by kernel_rfl) (fq 2 [(2,aR 1 8 y7.length),(3,aI x12)] (wp_ret ?_))
    obtain rfl:=Option.some.inj hm
    exact ⟨trivial,.tup [.pv (zg za (some y7)),aI x12],[.box [aB y4,.pv (zg (rI .u8) y5),aI y6] false],Zo (x:=.tup [aR 1 8 y7.length,aI x12]) [1] (by kernel_rfl) (by kernel_rfl) (by kernel_rfl) (aeL (ZZ (amh (qe (n:=y7.length) (id:=1) (l:=y7) (R:=za) rfl rfl (Nat.zero_le _))) (ZZ (ahz) (rfl)))) rfl (by kernel_rfl),rfl,rfl⟩
  refine sq (rg (s1 1 [(7,.ptr 0 0)] ?_))
  obtain ⟨⟨x14,x15,x16,x17⟩,h13,hm⟩:=bs hm
  obtain ⟨vv,H1,hC,rfl,rfl⟩:=zY h13
  refine dR [(8,aU x17)] [.box (zc12 x14 x15 x16) false] [0] [.ptr 0 0,aU 60] (by kernel_rfl) (by kernel_rfl) (by kernel_rfl) hC (by kernel_rfl) (fq 1 [(0,.ptr 0 0),(4,.pv .nils),(8,aU x17),(9,aU 0)] (bq ?_))
  refine qq (fun mm t H=>(∃ (y24:Bool) (y25:(Option (List Int))) (y26:Int) (y28:Int),Zx n k8 x17 mm y24 y25 y26 none y28=some r∧t=mk 27 [(0,.ptr 0 0),(4,.pv .nils),(8,aU x17),(9,aU y28)]∧H=[.box (zc12 y24 y25 y26) false])∨(∃ (y24:Bool) (y25:(Option (List Int))) (y26:Int) (y27:(List zc)) (y28:Int),Zx n k8 x17 mm y24 y25 y26 (some y27) y28=some r∧t=mk 27 [(0,.ptr 0 0),(4,aR 1 8 y27.length),(8,aU x17),(9,aU y28)]∧H=[.box (zc12 y24 y25 y26) false,bR 49 8 za y27 0 0])) (.inl ⟨x14,x15,x16,0,hm,rfl,rfl⟩) ?_ ?_
  · rintro _ _ (⟨y24,y25,y26,y28,hm,_⟩ | ⟨y24,y25,y26,y27,y28,hm,_⟩) <;> exact nomatch hm
  rintro m29 _ _ (⟨y24,y25,y26,y28,hm,rfl,rfl⟩ | ⟨y24,y25,y26,y27,y28,hm,rfl,rfl⟩)
  ·
   simp only [Zx] at hm
   refine sq (dn [(0,.ptr 0 0),(4,.pv .nils),(8,aU x17),(9,aU y28),(10,aB (decide (y28 < x17)))] ?_)
   refine sq ?_
   rcases zh hm with ⟨h30,hm⟩ | ⟨h30,hm⟩
   ·
    refine c1 h30 (wp_skip (sq (bq ?_)))
    obtain ⟨k43,hk43,hm⟩:=zx hm
    refine mid (fun t H=>(∃ (y31:Bool) (y32:(Option (List Int))) (y33:Int) (y34:Int) (y35:Int) (y36:Int) (y37:Int) (y38:Int) (y39:Nat) (y40:ByteArray) (y42:Int),k43 y31 y32 y33 y34 y35 y36 y37 y38 y39 y40 none y42=some r∧t=mk 27 [(0,.ptr 0 0),(4,.pv .nils),(5,.ptr 1 0),(6,aI y42),(8,aU x17),(9,aU y28)]∧H=[.box (zc12 y31 y32 y33) false,.box (zc20 y34 y35 y36 y37 y38 y39 y40) false])∨(∃ (y31:Bool) (y32:(Option (List Int))) (y33:Int) (y34:Int) (y35:Int) (y36:Int) (y37:Int) (y38:Int) (y39:Nat) (y40:ByteArray) (y41:(List zc)) (y42:Int),k43 y31 y32 y33 y34 y35 y36 y37 y38 y39 y40 (some y41) y42=some r∧t=mk 27 [(0,.ptr 0 0),(4,.pv .nils),(5,.ptr 2 0),(6,aI y42),(8,aU x17),(9,aU y28)]∧H=[.box (zc12 y31 y32 y33) false,bR 49 8 za y41 0 0,.box (zc22 y34 y35 y36 y37 y38 y39 y40 y41) false])) ?_ ?_
    ·
     rintro _ _ (⟨y31,y32,y33,y34,y35,y36,y37,y38,y39,y40,y42,hm,rfl,rfl⟩ | ⟨y31,y32,y33,y34,y35,y36,y37,y38,y39,y40,y41,y42,hm,rfl,rfl⟩)
     ·
      subst hk43
      refine sq (sq (dn [(0,.ptr 0 0),(4,.pv .nils),(5,.ptr 1 0),(6,aI y42),(8,aU x17),(9,aU y28),(17,aB (y42 != 0))] ?_))
      rcases zh hm with ⟨h44,hm⟩ | ⟨h44,hm⟩
      ·
       refine c1 h44 (sq (dn [(2,.pv .nils),(3,aI y42)] (wp_ret ?_)))
       obtain rfl:=Option.some.inj hm
       exact ⟨trivial,.tup [.pv (zg za none),aI y42],[.box (zc12 y31 y32 y33) false],Zo (x:=.tup [.pv .nils,aI y42]) (x':=.tup [.pv .nils,aI y42]) [] (by kernel_rfl) (by kernel_rfl) (by kernel_rfl) (by kernel_rfl) rfl (by kernel_rfl),rfl,rfl⟩
      ·
       refine c0 h44 (wp_skip (rg (st 3 [(21,aR 2 8 1),(20,.agg (zc20 y34 y35 y36 y37 y38 y39 y40)),(19,.pv .nils)] [.box (zc12 y31 y32 y33) false,.box (zc20 y34 y35 y36 y37 y38 y39 y40) false,bR 49 8 za (aaU y34 y35 y36 y37 y38 y39 y40) 0 0] (by kernel_rfl) ?_)))
       obtain ⟨_,h45,hm⟩:=bs hm
       refine dO [(22,aR 3 8 (ajh y34 y35 y36 y37 y38 y39 y40))] [.box (zc12 y31 y32 y33) false,.box (zc20 y34 y35 y36 y37 y38 y39 y40) false,bR 49 8 za (aaU y34 y35 y36 y37 y38 y39 y40) 0 0,bR 49 8 za (aaU y34 y35 y36 y37 y38 y39 y40) 0 0] (QG (u:=0) za (aaU y34 y35 y36 y37 y38 y39 y40) (b:=88) t23 t49 rfl rfl rfl qt rfl h45 (show zP (aR 2 8 1) _=some (anj y34 y35 y36 y37 y38 y39 y40) from by kernel_rfl) (by kernel_rfl)) (by kernel_rfl) (fq 1 [(0,.ptr 0 0),(4,aR 3 8 (ajh y34 y35 y36 y37 y38 y39 y40)),(8,aU x17),(9,aU y28)] (dn [(0,.ptr 0 0),(4,aR 3 8 (ajh y34 y35 y36 y37 y38 y39 y40)),(8,aU x17),(zp92 y28)] ?_))
       exact ⟨_,_,ZC [(0,.ptr 0 0),(4,aR 1 8 (ajh y34 y35 y36 y37 y38 y39 y40)),(8,aU x17),(zp92 y28)] [.box (zc12 y31 y32 y33) false,bR 49 8 za (aaU y34 y35 y36 y37 y38 y39 y40) 0 0] (by kernel_rfl),.inr (⟨y31,y32,y33,(aaU y34 y35 y36 y37 y38 y39 y40),(ad6 y28),hm,rfl,rfl⟩)⟩
     ·
      subst hk43
      refine sq (sq (dn [(0,.ptr 0 0),(4,.pv .nils),(5,.ptr 2 0),(6,aI y42),(8,aU x17),(9,aU y28),(17,aB (y42 != 0))] ?_))
      rcases zh hm with ⟨h46,hm⟩ | ⟨h46,hm⟩
      ·
       refine c1 h46 (sq (dn [(2,.pv .nils),(3,aI y42)] (wp_ret ?_)))
       obtain rfl:=Option.some.inj hm
       exact ⟨trivial,.tup [.pv (zg za none),aI y42],[.box (zc12 y31 y32 y33) false],Zo (x:=.tup [.pv .nils,aI y42]) (x':=.tup [.pv .nils,aI y42]) [] (by kernel_rfl) (by kernel_rfl) (by kernel_rfl) (by kernel_rfl) rfl (by kernel_rfl),rfl,rfl⟩
      ·
       refine c0 h46 (wp_skip (rg (s1 2 [(20,.agg (zc22 y34 y35 y36 y37 y38 y39 y40 y41)),(19,.pv .nils)] (dO [(21,aR 3 8 1)] [.box (zc12 y31 y32 y33) false,bR 49 8 za y41 0 (ab8 y41),.box (zc22 y34 y35 y36 y37 y38 y39 y40 y41) false,bR 49 8 za (Q0 y34 y35 y36 y37 y38 y39 y40 y41) 0 0] (adp (nid:=0) (t:=23) (len:=1) (is:=[0]) (vs:=[.agg (zc22 y34 y35 y36 y37 y38 y39 y40 y41)]) (ps:=[.agg [aI y34,aI y35,aI y36,aI y37,aI y38,aF y39,aS y40,.pv (.sl (y41.map za))]]) (R:=[1]) (e:=⟨aR 3 8 1,[],[bR 49 8 za (Q0 y34 y35 y36 y37 y38 y39 y40 y41) 0 0]⟩) (by kernel_rfl) (ZZ (ae9 (zt (zC) (zt (zC) (zt (zC) (zt (zC) (zt (zC) (zt (zC) (zt (zC) (zt (qe (n:=y41.length) (id:=1) (l:=y41) (R:=za) rfl rfl (Nat.zero_le _)) (rfl))))))))) rfl) (rfl)) (by kernel_rfl) (by kernel_rfl)) (by kernel_rfl) ?_))))
       obtain ⟨_,h47,hm⟩:=bs hm
       refine dO [(22,aR 4 8 (ajb y34 y35 y36 y37 y38 y39 y40 y41))] [.box (zc12 y31 y32 y33) false,bR 49 8 za y41 0 (ab8 y41),.box (zc22 y34 y35 y36 y37 y38 y39 y40 y41) false,bR 49 8 za (Q0 y34 y35 y36 y37 y38 y39 y40 y41) 0 0,bR 49 8 za (Q0 y34 y35 y36 y37 y38 y39 y40 y41) 0 0] (QG (u:=0) za (Q0 y34 y35 y36 y37 y38 y39 y40 y41) (b:=88) t23 t49 rfl rfl rfl qt rfl h47 (show zP (aR 3 8 1) _=some (am0 y34 y35 y36 y37 y38 y39 y40 y41) from by kernel_rfl) (by kernel_rfl)) (by kernel_rfl) (fq 1 [(0,.ptr 0 0),(4,aR 4 8 (ajb y34 y35 y36 y37 y38 y39 y40 y41)),(8,aU x17),(9,aU y28)] (dn [(0,.ptr 0 0),(4,aR 4 8 (ajb y34 y35 y36 y37 y38 y39 y40 y41)),(8,aU x17),(zp92 y28)] ?_))
       exact ⟨_,_,ZC [(0,.ptr 0 0),(4,aR 1 8 (ajb y34 y35 y36 y37 y38 y39 y40 y41)),(8,aU x17),(zp92 y28)] [.box (zc12 y31 y32 y33) false,bR 49 8 za (Q0 y34 y35 y36 y37 y38 y39 y40 y41) 0 0] (by kernel_rfl),.inr (⟨y31,y32,y33,(Q0 y34 y35 y36 y37 y38 y39 y40 y41),(ad6 y28),hm,rfl,rfl⟩)⟩
    refine rg (s1 1 [(12,.ptr 0 0)] ?_)
    obtain ⟨x61,h48,hm⟩:=bs hm
    rcases x61 with ⟨x49,x50,x51,x52,x53,x54,x55,x56,x57,x58,_ | x59,x60⟩
    ·
     obtain ⟨vv,H1,hC,rfl,rfl⟩:=Qu h48
     refine dR [(13,.tup [.agg (zc20 x52 x53 x54 x55 x56 x57 x58),aI x60])] [.box (zc12 x49 x50 x51) false] [0] [.ptr 0 0] (by kernel_rfl) (by kernel_rfl) (by kernel_rfl) hC (by kernel_rfl) (stf 6 [(0,.ptr 0 0),(4,.pv .nils),(5,.ptr 1 0),(6,aI x60),(8,aU x17),(9,aU y28)] [.box (zc12 x49 x50 x51) false,.box (zc20 x52 x53 x54 x55 x56 x57 x58) false] (by kernel_rfl) ?_)
     exact .inl ⟨x49,x50,x51,x52,x53,x54,x55,x56,x57,x58,x60,hm,rfl,rfl⟩
    ·
     obtain ⟨vv,H1,hC,rfl,rfl⟩:=Qu h48
     refine dR [(13,.tup [.agg (zc22 x52 x53 x54 x55 x56 x57 x58 x59),aI x60])] [.box (zc12 x49 x50 x51) false,bR 49 8 za x59 0 0] [0] [.ptr 0 0] (by kernel_rfl) (by kernel_rfl) (by kernel_rfl) hC (by kernel_rfl) (stf 6 [(0,.ptr 0 0),(4,.pv .nils),(5,.ptr 2 0),(6,aI x60),(8,aU x17),(9,aU y28)] [.box (zc12 x49 x50 x51) false,bR 49 8 za x59 0 0,.box (zc22 x52 x53 x54 x55 x56 x57 x58 x59) false] (by kernel_rfl) ?_)
     exact .inr (⟨x49,x50,x51,x52,x53,x54,x55,x56,x57,x58,x59,x60,hm,rfl,rfl⟩)
   ·
    refine c0 h30 (wp_exit ?_)
    exact .inl ⟨y24,y25,y26,aU x17,aU y28,aB (decide (y28 < x17)),hm,(zT (by kernel_rfl)),rfl⟩
  ·
   simp only [Zx] at hm
   refine sq (dn [(0,.ptr 0 0),(4,aR 1 8 y27.length),(8,aU x17),(9,aU y28),(10,aB (decide (y28 < x17)))] ?_)
   refine sq ?_
   rcases zh hm with ⟨h62,hm⟩ | ⟨h62,hm⟩
   ·
    refine c1 h62 (wp_skip (sq (bq ?_)))
    obtain ⟨k75,hk75,hm⟩:=zx hm
    refine mid (fun t H=>(∃ (y63:Bool) (y64:(Option (List Int))) (y65:Int) (y66:Int) (y67:Int) (y68:Int) (y69:Int) (y70:Int) (y71:Nat) (y72:ByteArray) (y74:Int),k75 y63 y64 y65 y66 y67 y68 y69 y70 y71 y72 none y74=some r∧t=mk 27 [(0,.ptr 0 0),(4,aR 1 8 y27.length),(5,.ptr 2 0),(6,aI y74),(8,aU x17),(9,aU y28)]∧H=[.box (zc12 y63 y64 y65) false,bR 49 8 za y27 0 0,.box (zc20 y66 y67 y68 y69 y70 y71 y72) false])∨(∃ (y63:Bool) (y64:(Option (List Int))) (y65:Int) (y66:Int) (y67:Int) (y68:Int) (y69:Int) (y70:Int) (y71:Nat) (y72:ByteArray) (y73:(List zc)) (y74:Int),k75 y63 y64 y65 y66 y67 y68 y69 y70 y71 y72 (some y73) y74=some r∧t=mk 27 [(0,.ptr 0 0),(4,aR 1 8 y27.length),(5,.ptr 3 0),(6,aI y74),(8,aU x17),(9,aU y28)]∧H=[.box (zc12 y63 y64 y65) false,bR 49 8 za y27 0 0,bR 49 8 za y73 0 0,.box [aI y66,aI y67,aI y68,aI y69,aI y70,aF y71,aS y72,aR 2 8 y73.length] false])) ?_ ?_
    ·
     rintro _ _ (⟨y63,y64,y65,y66,y67,y68,y69,y70,y71,y72,y74,hm,rfl,rfl⟩ | ⟨y63,y64,y65,y66,y67,y68,y69,y70,y71,y72,y73,y74,hm,rfl,rfl⟩)
     ·
      subst hk75
      refine sq (sq (dn [(0,.ptr 0 0),(4,aR 1 8 y27.length),(5,.ptr 2 0),(6,aI y74),(8,aU x17),(9,aU y28),(17,aB (y74 != 0))] ?_))
      rcases zh hm with ⟨h76,hm⟩ | ⟨h76,hm⟩
      ·
       refine c1 h76 (sq (dn [(2,.pv .nils),(3,aI y74)] (wp_ret ?_)))
       obtain rfl:=Option.some.inj hm
       exact ⟨trivial,.tup [.pv (zg za none),aI y74],[.box (zc12 y63 y64 y65) false],Zo (x:=.tup [.pv .nils,aI y74]) (x':=.tup [.pv .nils,aI y74]) [] (by kernel_rfl) (by kernel_rfl) (by kernel_rfl) (by kernel_rfl) rfl (by kernel_rfl),rfl,rfl⟩
      ·
       refine c0 h76 (wp_skip (rg (st 3 [(21,aR 3 8 1),(20,.agg (zc20 y66 y67 y68 y69 y70 y71 y72)),(19,aR 1 8 y27.length)] [.box (zc12 y63 y64 y65) false,bR 49 8 za y27 0 0,.box (zc20 y66 y67 y68 y69 y70 y71 y72) false,bR 49 8 za (aaU y66 y67 y68 y69 y70 y71 y72) 0 0] (by kernel_rfl) ?_)))
       obtain ⟨_,h77,hm⟩:=bs hm
       refine dO [(22,aR 1 8 (aiZ y27 y66 y67 y68 y69 y70 y71 y72))] [.box (zc12 y63 y64 y65) false,bR 49 8 za (ai9 y27 y66 y67 y68 y69 y70 y71 y72) 0 0,.box (zc20 y66 y67 y68 y69 y70 y71 y72) false,bR 49 8 za (aaU y66 y67 y68 y69 y70 y71 y72) 0 0] (ZT (u:=0) (n:=y27.length) (id:=1) za y27 (aaU y66 y67 y68 y69 y70 y71 y72) (b:=88) t23 t49 rfl rfl rfl qt rfl h77 rfl rfl (Nat.zero_le _) (show zP (aR 3 8 1) _=some (anj y66 y67 y68 y69 y70 y71 y72) from by kernel_rfl) (by kernel_rfl)) (by kernel_rfl) (fq 1 [(0,.ptr 0 0),(4,aR 1 8 (aiZ y27 y66 y67 y68 y69 y70 y71 y72)),(8,aU x17),(9,aU y28)] (dn [(0,.ptr 0 0),(4,aR 1 8 (aiZ y27 y66 y67 y68 y69 y70 y71 y72)),(8,aU x17),(zp92 y28)] ?_))
       exact ⟨_,_,ZC [(0,.ptr 0 0),(4,aR 1 8 (aiZ y27 y66 y67 y68 y69 y70 y71 y72)),(8,aU x17),(zp92 y28)] [.box (zc12 y63 y64 y65) false,bR 49 8 za (ai9 y27 y66 y67 y68 y69 y70 y71 y72) 0 0] (by kernel_rfl),.inr (⟨y63,y64,y65,(ai9 y27 y66 y67 y68 y69 y70 y71 y72),(ad6 y28),hm,rfl,rfl⟩)⟩
     ·
      subst hk75
      refine sq (sq (dn [(0,.ptr 0 0),(4,aR 1 8 y27.length),(5,.ptr 3 0),(6,aI y74),(8,aU x17),(9,aU y28),(17,aB (y74 != 0))] ?_))
      rcases zh hm with ⟨h78,hm⟩ | ⟨h78,hm⟩
      ·
       refine c1 h78 (sq (dn [(2,.pv .nils),(3,aI y74)] (wp_ret ?_)))
       obtain rfl:=Option.some.inj hm
       exact ⟨trivial,.tup [.pv (zg za none),aI y74],[.box (zc12 y63 y64 y65) false],Zo (x:=.tup [.pv .nils,aI y74]) (x':=.tup [.pv .nils,aI y74]) [] (by kernel_rfl) (by kernel_rfl) (by kernel_rfl) (by kernel_rfl) rfl (by kernel_rfl),rfl,rfl⟩
      ·
       refine c0 h78 (wp_skip (rg (s1 2 [(20,.agg [aI y66,aI y67,aI y68,aI y69,aI y70,aF y71,aS y72,aR 2 8 y73.length]),(19,aR 1 8 y27.length)] (dO [(21,aR 4 8 1)] [.box (zc12 y63 y64 y65) false,bR 49 8 za y27 0 0,bR 49 8 za y73 0 (ab8 y73),.box [aI y66,aI y67,aI y68,aI y69,aI y70,aF y71,aS y72,aR 2 8 y73.length] false,bR 49 8 za (Q0 y66 y67 y68 y69 y70 y71 y72 y73) 0 0] (adp (nid:=0) (t:=23) (len:=1) (is:=[0]) (vs:=[.agg [aI y66,aI y67,aI y68,aI y69,aI y70,aF y71,aS y72,aR 2 8 y73.length]]) (ps:=[.agg [aI y66,aI y67,aI y68,aI y69,aI y70,aF y71,aS y72,.pv (.sl (y73.map za))]]) (R:=[2]) (e:=⟨aR 4 8 1,[],[bR 49 8 za (Q0 y66 y67 y68 y69 y70 y71 y72 y73) 0 0]⟩) (by kernel_rfl) (ZZ (ae9 (zt (zC) (zt (zC) (zt (zC) (zt (zC) (zt (zC) (zt (zC) (zt (zC) (zt (qe (n:=y73.length) (id:=2) (l:=y73) (R:=za) rfl rfl (Nat.zero_le _)) (rfl))))))))) rfl) (rfl)) (by kernel_rfl) (by kernel_rfl)) (by kernel_rfl) ?_))))
       obtain ⟨_,h79,hm⟩:=bs hm
       refine dO [(22,aR 1 8 (aiv y27 y66 y67 y68 y69 y70 y71 y72 y73))] [.box (zc12 y63 y64 y65) false,bR 49 8 za (aiD y27 y66 y67 y68 y69 y70 y71 y72 y73) 0 0,bR 49 8 za y73 0 (ab8 y73),.box [aI y66,aI y67,aI y68,aI y69,aI y70,aF y71,aS y72,aR 2 8 y73.length] false,bR 49 8 za (Q0 y66 y67 y68 y69 y70 y71 y72 y73) 0 0] (ZT (u:=0) (n:=y27.length) (id:=1) za y27 (Q0 y66 y67 y68 y69 y70 y71 y72 y73) (b:=88) t23 t49 rfl rfl rfl qt rfl h79 rfl rfl (Nat.zero_le _) (show zP (aR 4 8 1) _=some (am0 y66 y67 y68 y69 y70 y71 y72 y73) from by kernel_rfl) (by kernel_rfl)) (by kernel_rfl) (fq 1 [(0,.ptr 0 0),(4,aR 1 8 (aiv y27 y66 y67 y68 y69 y70 y71 y72 y73)),(8,aU x17),(9,aU y28)] (dn [(0,.ptr 0 0),(4,aR 1 8 (aiv y27 y66 y67 y68 y69 y70 y71 y72 y73)),(8,aU x17),(zp92 y28)] ?_))
       exact ⟨_,_,ZC [(0,.ptr 0 0),(4,aR 1 8 (aiv y27 y66 y67 y68 y69 y70 y71 y72 y73)),(8,aU x17),(zp92 y28)] [.box (zc12 y63 y64 y65) false,bR 49 8 za (aiD y27 y66 y67 y68 y69 y70 y71 y72 y73) 0 0] (by kernel_rfl),.inr (⟨y63,y64,y65,(aiD y27 y66 y67 y68 y69 y70 y71 y72 y73),(ad6 y28),hm,rfl,rfl⟩)⟩
    refine rg (s1 1 [(12,.ptr 0 0)] ?_)
    obtain ⟨x93,h80,hm⟩:=bs hm
    rcases x93 with ⟨x81,x82,x83,x84,x85,x86,x87,x88,x89,x90,_ | x91,x92⟩
    ·
     obtain ⟨vv,H1,hC,rfl,rfl⟩:=Qu h80
     refine dR [(13,.tup [.agg (zc20 x84 x85 x86 x87 x88 x89 x90),aI x92])] [.box (zc12 x81 x82 x83) false,bR 49 8 za y27 0 0] [0] [.ptr 0 0] (by kernel_rfl) (by kernel_rfl) (by kernel_rfl) hC (by kernel_rfl) (stf 6 [(0,.ptr 0 0),(4,aR 1 8 y27.length),(5,.ptr 2 0),(6,aI x92),(8,aU x17),(9,aU y28)] [.box (zc12 x81 x82 x83) false,bR 49 8 za y27 0 0,.box (zc20 x84 x85 x86 x87 x88 x89 x90) false] (by kernel_rfl) ?_)
     exact .inl ⟨x81,x82,x83,x84,x85,x86,x87,x88,x89,x90,x92,hm,rfl,rfl⟩
    ·
     obtain ⟨vv,H1,hC,rfl,rfl⟩:=Qu h80
     refine dR [(13,.tup [.agg [aI x84,aI x85,aI x86,aI x87,aI x88,aF x89,aS x90,aR 2 8 x91.length],aI x92])] [.box (zc12 x81 x82 x83) false,bR 49 8 za y27 0 0,bR 49 8 za x91 0 0] [0] [.ptr 0 0] (by kernel_rfl) (by kernel_rfl) (by kernel_rfl) hC (by kernel_rfl) (stf 6 [(0,.ptr 0 0),(4,aR 1 8 y27.length),(5,.ptr 3 0),(6,aI x92),(8,aU x17),(9,aU y28)] [.box (zc12 x81 x82 x83) false,bR 49 8 za y27 0 0,bR 49 8 za x91 0 0,.box [aI x84,aI x85,aI x86,aI x87,aI x88,aF x89,aS x90,aR 2 8 x91.length] false] (by kernel_rfl) ?_)
     exact .inr (⟨x81,x82,x83,x84,x85,x86,x87,x88,x89,x90,x91,x92,hm,rfl,rfl⟩)
   ·
    refine c0 h62 (wp_exit ?_)
    exact .inr (⟨y24,y25,y26,y27,aU x17,aU y28,aB (decide (y28 < x17)),hm,(zT (by kernel_rfl)),rfl⟩)
abbrev zc23 (p0:Int) (p1:Int) (p2:(Option (List zc))) (p3:(Option (List zc))) (p4:(Option (List zc))) (p5:(Option (List zc))):List AV:=[aI p0,aI p1,.pv (zg za p2),.pv (zg za p3),.pv (zg za p4),.pv (zg za p5),.pv .nils,.pv .nils,.pv .nils]
abbrev zc24 (p0:Int) (p1:Int) (p2:(Option (List zc))) (p3:(Option (List zc))) (p4:(Option (List zc))) (p5:(Option (List zc))) (p6:(List zo)):List AV:=[aI p0,aI p1,.pv (zg za p2),.pv (zg za p3),.pv (zg za p4),.pv (zg za p5),aR 2 9 p6.length,.pv .nils,.pv .nils]
abbrev zc25 (p0:Int) (p1:Int) (p2:(Option (List zc))) (p3:(Option (List zc))) (p4:(Option (List zc))) (p5:(Option (List zc))) (p6:(List zu)):List AV:=[aI p0,aI p1,.pv (zg za p2),.pv (zg za p3),.pv (zg za p4),.pv (zg za p5),.pv .nils,aR 2 2 p6.length,.pv .nils]
abbrev zc26 (p0:Int) (p1:Int):List AV:=[aI (IntKind.wrap .i64 p0),aB (p1 == 1)]
abbrev zc27 (p0:Int) (p1:Int) (p2:(Option (List zc))) (p3:(Option (List zc))) (p4:(Option (List zc))) (p5:(Option (List zc))) (p6:(List zo)) (p7:(List zu)):List AV:=[aI p0,aI p1,.pv (zg za p2),.pv (zg za p3),.pv (zg za p4),.pv (zg za p5),aR 2 9 p6.length,aR 3 2 p7.length,.pv .nils]
abbrev zc28 (p0:Int):List AV:=[aI (IntKind.wrap .i64 p0),aI 0,aI 0,aI 0,aI 0,aI 0,aF 0,aS ByteArray.empty,.pv .nils]
abbrev zc29 (p0:Int) (p1:Int) (p2:Int) (p3:Int) (p4:Int) (p5:Nat) (p6:ByteArray) (p7:(List zc)):List AV:=[aI p0,aI p1,aI p2,aI p3,aI p4,aF p5,aS p6,aR 3 8 p7.length]
abbrev zc30 (p0:Int) (p1:Int) (p2:Int) (p3:Int) (p4:Int) (p5:Int) (p6:Nat) (p7:ByteArray):List AV:=[aI (IntKind.wrap .i64 p0),aI p1,aI p2,aI p3,aI p4,aI p5,aF p6,aS p7,.pv .nils]
abbrev zc31 (p0:Int) (p1:Int) (p2:Int) (p3:Int) (p4:Int) (p5:Int) (p6:Nat) (p7:ByteArray) (p8:(List zc)):List AV:=[aI (IntKind.wrap .i64 p0),aI p1,aI p2,aI p3,aI p4,aI p5,aF p6,aS p7,aR 3 8 p8.length]
abbrev zc32 (p0:Int) (p1:Int) (p2:Int) (p3:Int) (p4:Int) (p5:Int) (p6:Nat) (p7:ByteArray) (p8:(List zc)):List AV:=[aI (IntKind.wrap .i64 p0),aI p1,aI p2,aI p3,aI p4,aI p5,aF p6,aS p7,aR 4 8 p8.length]
abbrev zp93 (p0:Int):Nat × AV:=(41,aU (IntKind.wrap .u64 (p0+1)))
abbrev zp94 (p0:Int):Nat × AV:=(12,aU (IntKind.wrap .u64 (p0+1)))
abbrev aaf (p0:Int) (p1:Int):=([(zu.mk (IntKind.wrap .i64 p0) (p1 == 1))]:List zu)
abbrev aks (p0:Int) (p1:Int):=(([(zu.mk (IntKind.wrap .i64 p0) (p1 == 1))]:List zu).length)
abbrev am1 (p0:Int) (p1:Int):=(([(zu.mk (IntKind.wrap .i64 p0) (p1 == 1))]:List zu).map zj)
abbrev akc (p0:(List zu)) (p1:Int) (p2:Int):=((p0++([(zu.mk (IntKind.wrap .i64 p1) (p2 == 1))]:List zu)).length)
abbrev ahV (p0:(List zu)) (p1:Int) (p2:Int):=(p0++([(zu.mk (IntKind.wrap .i64 p1) (p2 == 1))]:List zu))
abbrev adW (p0:Int) (p1:Int) (p2:Int) (p3:Int) (p4:Int) (p5:Int) (p6:Nat) (p7:ByteArray):=([(zo.mk (IntKind.wrap .i64 p0) (zm.mk p1 p2 p3 (zl.mk p4 p5 p6 p7) none))]:List zo)
abbrev ac8 (p0:Int) (p1:Int) (p2:Int) (p3:Int) (p4:Int) (p5:Int) (p6:Nat) (p7:ByteArray) (p8:(List zc)):=([(zo.mk (IntKind.wrap .i64 p0) (zm.mk p1 p2 p3 (zl.mk p4 p5 p6 p7) (some p8)))]:List zo)
abbrev amV (p0:(List zo)) (p1:Int) (p2:Int) (p3:Int) (p4:Int) (p5:Int) (p6:Int) (p7:Nat) (p8:ByteArray):=(p0++([(zo.mk (IntKind.wrap .i64 p1) (zm.mk p2 p3 p4 (zl.mk p5 p6 p7 p8) none))]:List zo))
abbrev anm (p0:(List zo)) (p1:Int) (p2:Int) (p3:Int) (p4:Int) (p5:Int) (p6:Int) (p7:Nat) (p8:ByteArray) (p9:(List zc)):=(p0++([(zo.mk (IntKind.wrap .i64 p1) (zm.mk p2 p3 p4 (zl.mk p5 p6 p7 p8) (some p9)))]:List zo))
theorem aco {n:Nat} {a0:zf} {a1:Int} {a2:Int} {a3:(Option (List zc))} {a4:(Option (List zc))} {a5:(Option (List zc))} {a6:(Option (List zc))} {r:(Bool × (Option (List Int)) × Int × Int) ⊕ (Bool × (Option (List Int)) × Int × (List zu) × Int) ⊕ (Bool × (Option (List Int)) × Int × (List zo) × Int) ⊕ (Bool × (Option (List Int)) × Int × (List zo) × (List zu) × Int)} (hm:adq n a0 a1 a2 a3 a4 a5 a6=some r):
    ∃ vv H1,call G n 179 [.ptr 0 0,.ptr 1 0] [.box (zc10 a0) false,.box (zc23 a1 a2 a3 a4 a5 a6) false]=some (.ret vv,H1)∧(match (generalizing:=false) r with | (.inl (r0,r1,r2,r3))=>(vv=aI r3∧H1=[.box [aB r0,.pv (zg (rI .u8) r1),aI r2] false,.box (zc23 a1 a2 a3 a4 a5 a6) false]) | (.inr (.inl (r4,r5,r6,r7,r8)))=>(vv=aI r8∧H1=[.box [aB r4,.pv (zg (rI .u8) r5),aI r6] false,.box [aI a1,aI a2,.pv (zw a3),.pv (zw a4),.pv (zw a5),.pv (zw a6),.pv .nils,aR 2 2 r7.length,.pv .nils] false,bR 86 2 zj r7 0 0]) | (.inr (.inr (.inl (r9,r10,r11,r12,r13))))=>(vv=aI r13∧H1=[.box [aB r9,.pv (zg (rI .u8) r10),aI r11] false,.box [aI a1,aI a2,.pv (zw a3),.pv (zw a4),.pv (zw a5),.pv (zw a6),aR 2 9 r12.length,.pv .nils,.pv .nils] false,bR 101 9 zi r12 0 0]) | (.inr (.inr (.inr ((r14,r15,r16,r17,r18,r19)))))=>(vv=aI r19∧H1=[.box [aB r14,.pv (zg (rI .u8) r15),aI r16] false,.box [aI a1,aI a2,.pv (zw a3),.pv (zw a4),.pv (zw a5),.pv (zw a6),aR 2 9 r17.length,aR 3 2 r18.length,.pv .nils] false,bR 101 9 zi r17 0 0,bR 86 2 zj r18 0 0])):=by
  unfold adq at hm
  obtain ⟨n,rfl,h0⟩:=zy hm
  replace hm:=h0; clear h0
  refine QA 72 [(0,.ptr 0 0),(1,.ptr 1 0)] func179 rfl (by kernel_rfl) (sq (dn [(0,.ptr 0 0),(1,.ptr 1 0)] ?_))
  obtain ⟨k8,hk8,hm⟩:=zx hm
  refine mid (fun t H=>(∃ (y4:Bool) (y5:(Option (List Int))) (y6:Int) (w1:AV) (w2:AV) (w3:AV),k8 y4 y5 y6 none=some r∧t=mk 72 [(0,.ptr 0 0),(1,.ptr 1 0),(11,w1),(12,w2),(13,w3)]∧H=[.box [aB y4,.pv (zg (rI .u8) y5),aI y6] false,.box (zc23 a1 a2 a3 a4 a5 a6) false])∨(∃ (y4:Bool) (y5:(Option (List Int))) (y6:Int) (y7:(List zo)) (w1:AV) (w2:AV) (w3:AV),k8 y4 y5 y6 (some y7)=some r∧t=mk 72 [(0,.ptr 0 0),(1,.ptr 1 0),(11,w1),(12,w2),(13,w3)]∧H=[.box [aB y4,.pv (zg (rI .u8) y5),aI y6] false,.box (zc24 a1 a2 a3 a4 a5 a6 y7) false,bR 101 9 zi y7 0 0])) ?_ ?_
  ·
   rintro _ _ (⟨y4,y5,y6,w1,w2,w3,hm,rfl,rfl⟩ | ⟨y4,y5,y6,y7,w1,w2,w3,hm,rfl,rfl⟩)
   ·
    subst hk8
    obtain ⟨k16,hk16,hm⟩:=zx hm
    refine mid (fun t H=>(∃ (y12:Bool) (y13:(Option (List Int))) (y14:Int) (w9:AV) (w10:AV) (w11:AV),k16 y12 y13 y14 none=some r∧t=mk 72 [(0,.ptr 0 0),(1,.ptr 1 0),(40,w9),(41,w10),(42,w11)]∧H=[.box (zc12 y12 y13 y14) false,.box (zc23 a1 a2 a3 a4 a5 a6) false])∨(∃ (y12:Bool) (y13:(Option (List Int))) (y14:Int) (y15:(List zu)) (w9:AV) (w10:AV) (w11:AV),k16 y12 y13 y14 (some y15)=some r∧t=mk 72 [(0,.ptr 0 0),(1,.ptr 1 0),(40,w9),(41,w10),(42,w11)]∧H=[.box (zc12 y12 y13 y14) false,.box (zc25 a1 a2 a3 a4 a5 a6 y15) false,bR 86 2 zj y15 0 0])) ?_ ?_
    ·
     rintro _ _ (⟨y12,y13,y14,w9,w10,w11,hm,rfl,rfl⟩ | ⟨y12,y13,y14,y15,w9,w10,w11,hm,rfl,rfl⟩)
     ·
      subst hk16
      refine sq (rg (s1 1 [(70,.ptr 0 0)] ?_))
      obtain ⟨x18,h17,hm⟩:=bs hm
      obtain ⟨vv,H1,hC,rfl,rfl⟩:=zX h17
      refine dR [(71,aI x18)] [.box (zc12 y12 y13 y14) false,.box (zc23 a1 a2 a3 a4 a5 a6) false] [0] [.ptr 0 0] (by kernel_rfl) (by kernel_rfl) (by kernel_rfl) hC (by kernel_rfl) (fq 1 [(4,aI x18)] (wp_ret ?_))
      obtain rfl:=Option.some.inj hm
      exact ⟨trivial,aI x18,[.box (zc12 y12 y13 y14) false,.box (zc23 a1 a2 a3 a4 a5 a6) false],by kernel_rfl,rfl,rfl⟩
     ·
      subst hk16
      refine sq (rg (s1 1 [(70,.ptr 0 0)] ?_))
      obtain ⟨x20,h19,hm⟩:=bs hm
      obtain ⟨vv,H1,hC,rfl,rfl⟩:=zX h19
      refine dR [(71,aI x20)] [.box (zc12 y12 y13 y14) false,.box (zc25 a1 a2 a3 a4 a5 a6 y15) false,bR 86 2 zj y15 0 0] [0] [.ptr 0 0] (by kernel_rfl) (by kernel_rfl) (by kernel_rfl) hC (by kernel_rfl) (fq 1 [(4,aI x20)] (wp_ret ?_))
      obtain rfl:=Option.some.inj hm
      exact ⟨trivial,aI x20,[.box (zc12 y12 y13 y14) false,.box (zc25 a1 a2 a3 a4 a5 a6 y15) false,bR 86 2 zj y15 0 0],by kernel_rfl,rfl,rfl⟩
    refine sq (rg (s1 1 [(39,.ptr 0 0)] ?_))
    obtain ⟨⟨x22,x23,x24,x25⟩,h21,hm⟩:=bs hm
    obtain ⟨vv,H1,hC,rfl,rfl⟩:=zY h21
    refine dR [(40,aU x25)] [.box (zc12 x22 x23 x24) false,.box (zc23 a1 a2 a3 a4 a5 a6) false] [0] [.ptr 0 0,aU 60] (by kernel_rfl) (by kernel_rfl) (by kernel_rfl) hC (by kernel_rfl) (fq 1 [(0,.ptr 0 0),(1,.ptr 1 0),(40,aU x25),(41,aU 0)] (bq ?_))
    refine qq (fun mm t H=>(∃ (y32:Bool) (y33:(Option (List Int))) (y34:Int) (y36:Int),ZD n k16 x25 mm y32 y33 y34 none y36=some r∧t=mk 72 [(0,.ptr 0 0),(1,.ptr 1 0),(40,aU x25),(41,aU y36)]∧H=[.box (zc12 y32 y33 y34) false,.box (zc23 a1 a2 a3 a4 a5 a6) false])∨(∃ (y32:Bool) (y33:(Option (List Int))) (y34:Int) (y35:(List zu)) (y36:Int),ZD n k16 x25 mm y32 y33 y34 (some y35) y36=some r∧t=mk 72 [(0,.ptr 0 0),(1,.ptr 1 0),(40,aU x25),(41,aU y36)]∧H=[.box (zc12 y32 y33 y34) false,.box (zc25 a1 a2 a3 a4 a5 a6 y35) false,bR 86 2 zj y35 0 0])) (.inl ⟨x22,x23,x24,0,hm,rfl,rfl⟩) ?_ ?_
    · rintro _ _ (⟨y32,y33,y34,y36,hm,_⟩ | ⟨y32,y33,y34,y35,y36,hm,_⟩) <;> exact nomatch hm
    rintro m37 _ _ (⟨y32,y33,y34,y36,hm,rfl,rfl⟩ | ⟨y32,y33,y34,y35,y36,hm,rfl,rfl⟩)
    ·
     simp only [ZD] at hm
     refine sq (dn [(0,.ptr 0 0),(1,.ptr 1 0),(40,aU x25),(41,aU y36),(42,aB (decide (y36 < x25)))] ?_)
     refine sq ?_
     rcases zh hm with ⟨h38,hm⟩ | ⟨h38,hm⟩
     ·
      refine c1 h38 (wp_skip (sq (bq (sq (rg (s1 1 [(43,.ptr 0 0)] ?_))))))
      obtain ⟨⟨x40,x41,x42,x43⟩,h39,hm⟩:=bs hm
      obtain ⟨vv,H1,hC,rfl,rfl⟩:=zY h39
      refine dR [(44,aU x43)] [.box (zc12 x40 x41 x42) false,.box (zc23 a1 a2 a3 a4 a5 a6) false] [0] [.ptr 0 0,aU 29] (by kernel_rfl) (by kernel_rfl) (by kernel_rfl) hC (by kernel_rfl) (stf 4 [(0,.ptr 0 0),(1,.ptr 1 0),(8,.ptr 2 0),(40,aU x25),(41,aU y36)] [.box (zc12 x40 x41 x42) false,.box (zc23 a1 a2 a3 a4 a5 a6) false,.box [aI (zS x43),aB false] false] (by kernel_rfl) (sq (rg (s1 1 [(47,.ptr 0 0)] ?_))))
      obtain ⟨⟨x45,x46,x47⟩,h44,hm⟩:=bs hm
      obtain ⟨vv,H1,hC,rfl,rfl⟩:=Zs h44
      refine dR [(48,aY x47)] [.box (zc13 x40 x41 x42 x45 x46) false,.box (zc23 a1 a2 a3 a4 a5 a6) false,.box [aI (zS x43),aB false] false] [0] [.ptr 0 0] (by kernel_rfl) (by kernel_rfl) (by kernel_rfl) hC (by kernel_rfl) (fq 1 [(0,.ptr 0 0),(1,.ptr 1 0),(8,.ptr 2 0),(9,aY x47),(40,aU x25),(41,aU y36)] ?_)
      refine sq (sq (rg (s1 1 [(49,.ptr 0 0)] ?_)))
      obtain ⟨x49,h48,hm⟩:=bs hm
      obtain ⟨vv,H1,hC,rfl,rfl⟩:=zX h48
      refine dR [(50,aI x49)] [.box (zc13 x40 x41 x42 x45 x46) false,.box (zc23 a1 a2 a3 a4 a5 a6) false,.box [aI (zS x43),aB false] false] [0] [.ptr 0 0] (by kernel_rfl) (by kernel_rfl) (by kernel_rfl) hC (by kernel_rfl) (s1 2 [(52,aB (x49 == 0)),(51,aB (x49 == 0))] ?_)
      refine segP (x49 == 0) [52,51] (fun b=>[(55,aB (b && (decide (x47 > 1)))),(54,ifA b (aB (decide (x47 > 1))) (.undef)),(53,ifA b (aY x47) (.undef))]) 3 (by kernel_rfl) (by kernel_rfl) (by kernel_rfl) (fin [(0,.ptr 0 0),(1,.ptr 1 0),(8,.ptr 2 0),(9,aY x47),(40,aU x25),(41,aU y36),(55,aB ((x49 == 0) && (decide (x47 > 1))))] rfl (by kernel_rfl) ?_)
      rcases zh hm with ⟨h50,hm⟩ | ⟨h50,hm⟩
      ·
       refine c1 h50 (sq (dn [(4,aI 22)] (wp_ret ?_)))
       obtain rfl:=Option.some.inj hm
       exact ⟨trivial,aI 22,[.box (zc13 x40 x41 x42 x45 x46) false,.box (zc23 a1 a2 a3 a4 a5 a6) false],by kernel_rfl,rfl,rfl⟩
      ·
       refine c0 h50 (wp_skip (sq (det [(0,.ptr 0 0),(1,.ptr 1 0),(8,.ptr 2 0),(40,aU x25),(41,aU y36)] [.box (zc13 x40 x41 x42 x45 x46) false,.box (zc23 a1 a2 a3 a4 a5 a6) false,.box (zc26 x43 x47) false] (by kernel_rfl) (rgd (std 7 [(65,aR 3 2 1),(64,.agg (zc26 x43 x47)),(63,.pv .nils),(62,.ptr 1 7),(61,.ptr 1 0),(60,.ptr 1 0),(59,.ptr 1 0)] [.box (zc13 x40 x41 x42 x45 x46) false,.box (zc23 a1 a2 a3 a4 a5 a6) false,.box (zc26 x43 x47) false,bR 86 2 zj (aaf x43 x47) 0 0] (by kernel_rfl) ?_)))))
       obtain ⟨_,h51,hm⟩:=bs hm
       refine dOd [(66,aR 4 2 (aks x43 x47))] [.box (zc13 x40 x41 x42 x45 x46) false,.box (zc23 a1 a2 a3 a4 a5 a6) false,.box (zc26 x43 x47) false,bR 86 2 zj (aaf x43 x47) 0 0,bR 86 2 zj (aaf x43 x47) 0 0] (QG (u:=0) zj (aaf x43 x47) (b:=16) t25 t86 rfl rfl rfl (fun _=>rfl) rfl h51 (show zP (aR 3 2 1) _=some (am1 x43 x47) from by kernel_rfl) (by kernel_rfl)) (by kernel_rfl) (std 3 [(68,.ptr 1 7),(67,.ptr 1 0)] [.box (zc13 x40 x41 x42 x45 x46) false,.box [aI a1,aI a2,.pv (zw a3),.pv (zw a4),.pv (zw a5),.pv (zw a6),.pv .nils,aR 4 2 (aks x43 x47),.pv .nils] false,.box (zc26 x43 x47) false,bR 86 2 zj (aaf x43 x47) 0 0,bR 86 2 zj (aaf x43 x47) 0 0] (by kernel_rfl) (find [(0,.ptr 0 0),(1,.ptr 1 0),(40,aU x25),(41,aU y36)] rfl (by kernel_rfl) (by kernel_rfl) (dn [(0,.ptr 0 0),(1,.ptr 1 0),(40,aU x25),(zp93 y36)] ?_)))
       exact ⟨_,_,ZC [(0,.ptr 0 0),(1,.ptr 1 0),(40,aU x25),(zp93 y36)] [.box (zc13 x40 x41 x42 x45 x46) false,.box [aI a1,aI a2,.pv (zw a3),.pv (zw a4),.pv (zw a5),.pv (zw a6),.pv .nils,aR 2 2 (aks x43 x47),.pv .nils] false,bR 86 2 zj (aaf x43 x47) 0 0] (by kernel_rfl),.inr (⟨(afu x40 x41 x42),x45,x46,(aaf x43 x47),(ad6 y36),hm,rfl,rfl⟩)⟩
     ·
      refine c0 h38 (wp_exit ?_)
      exact .inl ⟨y32,y33,y34,aU x25,aU y36,aB (decide (y36 < x25)),hm,(zT (by kernel_rfl)),rfl⟩
    ·
     simp only [ZD] at hm
     refine sq (dn [(0,.ptr 0 0),(1,.ptr 1 0),(40,aU x25),(41,aU y36),(42,aB (decide (y36 < x25)))] ?_)
     refine sq ?_
     rcases zh hm with ⟨h52,hm⟩ | ⟨h52,hm⟩
     ·
      refine c1 h52 (wp_skip (sq (bq (sq (rg (s1 1 [(43,.ptr 0 0)] ?_))))))
      obtain ⟨⟨x54,x55,x56,x57⟩,h53,hm⟩:=bs hm
      obtain ⟨vv,H1,hC,rfl,rfl⟩:=zY h53
      refine dR [(44,aU x57)] [.box (zc12 x54 x55 x56) false,.box (zc25 a1 a2 a3 a4 a5 a6 y35) false,bR 86 2 zj y35 0 0] [0] [.ptr 0 0,aU 29] (by kernel_rfl) (by kernel_rfl) (by kernel_rfl) hC (by kernel_rfl) (stf 4 [(0,.ptr 0 0),(1,.ptr 1 0),(8,.ptr 3 0),(40,aU x25),(41,aU y36)] [.box (zc12 x54 x55 x56) false,.box (zc25 a1 a2 a3 a4 a5 a6 y35) false,bR 86 2 zj y35 0 0,.box [aI (zS x57),aB false] false] (by kernel_rfl) (sq (rg (s1 1 [(47,.ptr 0 0)] ?_))))
      obtain ⟨⟨x59,x60,x61⟩,h58,hm⟩:=bs hm
      obtain ⟨vv,H1,hC,rfl,rfl⟩:=Zs h58
      refine dR [(48,aY x61)] [.box (zc13 x54 x55 x56 x59 x60) false,.box (zc25 a1 a2 a3 a4 a5 a6 y35) false,bR 86 2 zj y35 0 0,.box [aI (zS x57),aB false] false] [0] [.ptr 0 0] (by kernel_rfl) (by kernel_rfl) (by kernel_rfl) hC (by kernel_rfl) (fq 1 [(0,.ptr 0 0),(1,.ptr 1 0),(8,.ptr 3 0),(9,aY x61),(40,aU x25),(41,aU y36)] ?_)
      refine sq (sq (rg (s1 1 [(49,.ptr 0 0)] ?_)))
      obtain ⟨x63,h62,hm⟩:=bs hm
      obtain ⟨vv,H1,hC,rfl,rfl⟩:=zX h62
      refine dR [(50,aI x63)] [.box (zc13 x54 x55 x56 x59 x60) false,.box (zc25 a1 a2 a3 a4 a5 a6 y35) false,bR 86 2 zj y35 0 0,.box [aI (zS x57),aB false] false] [0] [.ptr 0 0] (by kernel_rfl) (by kernel_rfl) (by kernel_rfl) hC (by kernel_rfl) (s1 2 [(52,aB (x63 == 0)),(51,aB (x63 == 0))] ?_)
      refine segP (x63 == 0) [52,51] (fun b=>[(55,aB (b && (decide (x61 > 1)))),(54,ifA b (aB (decide (x61 > 1))) (.undef)),(53,ifA b (aY x61) (.undef))]) 3 (by kernel_rfl) (by kernel_rfl) (by kernel_rfl) (fin [(0,.ptr 0 0),(1,.ptr 1 0),(8,.ptr 3 0),(9,aY x61),(40,aU x25),(41,aU y36),(55,aB ((x63 == 0) && (decide (x61 > 1))))] rfl (by kernel_rfl) ?_)
      rcases zh hm with ⟨h64,hm⟩ | ⟨h64,hm⟩
      ·
       refine c1 h64 (sq (dn [(4,aI 22)] (wp_ret ?_)))
       obtain rfl:=Option.some.inj hm
       exact ⟨trivial,aI 22,[.box (zc13 x54 x55 x56 x59 x60) false,.box (zc25 a1 a2 a3 a4 a5 a6 y35) false,bR 86 2 zj y35 0 0],by kernel_rfl,rfl,rfl⟩
      ·
       refine c0 h64 (wp_skip (sq (det [(0,.ptr 0 0),(1,.ptr 1 0),(8,.ptr 3 0),(40,aU x25),(41,aU y36)] [.box (zc13 x54 x55 x56 x59 x60) false,.box (zc25 a1 a2 a3 a4 a5 a6 y35) false,bR 86 2 zj y35 0 0,.box (zc26 x57 x61) false] (by kernel_rfl) (rgd (std 7 [(65,aR 4 2 1),(64,.agg (zc26 x57 x61)),(63,aR 2 2 y35.length),(62,.ptr 1 7),(61,.ptr 1 0),(60,.ptr 1 0),(59,.ptr 1 0)] [.box (zc13 x54 x55 x56 x59 x60) false,.box (zc25 a1 a2 a3 a4 a5 a6 y35) false,bR 86 2 zj y35 0 0,.box (zc26 x57 x61) false,bR 86 2 zj (aaf x57 x61) 0 0] (by kernel_rfl) ?_)))))
       obtain ⟨_,h65,hm⟩:=bs hm
       refine dOd [(66,aR 2 2 (akc y35 x57 x61))] [.box (zc13 x54 x55 x56 x59 x60) false,.box (zc25 a1 a2 a3 a4 a5 a6 y35) false,bR 86 2 zj (ahV y35 x57 x61) 0 0,.box (zc26 x57 x61) false,bR 86 2 zj (aaf x57 x61) 0 0] (ZT (u:=0) (n:=y35.length) (id:=2) zj y35 (aaf x57 x61) (b:=16) t25 t86 rfl rfl rfl (fun _=>rfl) rfl h65 rfl rfl (Nat.zero_le _) (show zP (aR 4 2 1) _=some (am1 x57 x61) from by kernel_rfl) (by kernel_rfl)) (by kernel_rfl) (std 3 [(68,.ptr 1 7),(67,.ptr 1 0)] [.box (zc13 x54 x55 x56 x59 x60) false,.box [aI a1,aI a2,.pv (zw a3),.pv (zw a4),.pv (zw a5),.pv (zw a6),.pv .nils,aR 2 2 (akc y35 x57 x61),.pv .nils] false,bR 86 2 zj (ahV y35 x57 x61) 0 0,.box (zc26 x57 x61) false,bR 86 2 zj (aaf x57 x61) 0 0] (by kernel_rfl) (find [(0,.ptr 0 0),(1,.ptr 1 0),(40,aU x25),(41,aU y36)] rfl (by kernel_rfl) (by kernel_rfl) (dn [(0,.ptr 0 0),(1,.ptr 1 0),(40,aU x25),(zp93 y36)] ?_)))
       exact ⟨_,_,ZC [(0,.ptr 0 0),(1,.ptr 1 0),(40,aU x25),(zp93 y36)] [.box (zc13 x54 x55 x56 x59 x60) false,.box [aI a1,aI a2,.pv (zw a3),.pv (zw a4),.pv (zw a5),.pv (zw a6),.pv .nils,aR 2 2 (akc y35 x57 x61),.pv .nils] false,bR 86 2 zj (ahV y35 x57 x61) 0 0] (by kernel_rfl),.inr (⟨(afu x54 x55 x56),x59,x60,(ahV y35 x57 x61),(ad6 y36),hm,rfl,rfl⟩)⟩
     ·
      refine c0 h52 (wp_exit ?_)
      exact .inr (⟨y32,y33,y34,y35,aU x25,aU y36,aB (decide (y36 < x25)),hm,(zT (by kernel_rfl)),rfl⟩)
   ·
    subst hk8
    obtain ⟨k73,hk73,hm⟩:=zx hm
    refine mid (fun t H=>(∃ (y69:Bool) (y70:(Option (List Int))) (y71:Int) (w66:AV) (w67:AV) (w68:AV),k73 y69 y70 y71 none=some r∧t=mk 72 [(0,.ptr 0 0),(1,.ptr 1 0),(40,w66),(41,w67),(42,w68)]∧H=[.box (zc12 y69 y70 y71) false,.box (zc24 a1 a2 a3 a4 a5 a6 y7) false,bR 101 9 zi y7 0 0])∨(∃ (y69:Bool) (y70:(Option (List Int))) (y71:Int) (y72:(List zu)) (w66:AV) (w67:AV) (w68:AV),k73 y69 y70 y71 (some y72)=some r∧t=mk 72 [(0,.ptr 0 0),(1,.ptr 1 0),(40,w66),(41,w67),(42,w68)]∧H=[.box (zc12 y69 y70 y71) false,.box (zc27 a1 a2 a3 a4 a5 a6 y7 y72) false,bR 101 9 zi y7 0 0,bR 86 2 zj y72 0 0])) ?_ ?_
    ·
     rintro _ _ (⟨y69,y70,y71,w66,w67,w68,hm,rfl,rfl⟩ | ⟨y69,y70,y71,y72,w66,w67,w68,hm,rfl,rfl⟩)
     ·
      subst hk73
      refine sq (rg (s1 1 [(70,.ptr 0 0)] ?_))
      obtain ⟨x75,h74,hm⟩:=bs hm
      obtain ⟨vv,H1,hC,rfl,rfl⟩:=zX h74
      refine dR [(71,aI x75)] [.box (zc12 y69 y70 y71) false,.box (zc24 a1 a2 a3 a4 a5 a6 y7) false,bR 101 9 zi y7 0 0] [0] [.ptr 0 0] (by kernel_rfl) (by kernel_rfl) (by kernel_rfl) hC (by kernel_rfl) (fq 1 [(4,aI x75)] (wp_ret ?_))
      obtain rfl:=Option.some.inj hm
      exact ⟨trivial,aI x75,[.box (zc12 y69 y70 y71) false,.box (zc24 a1 a2 a3 a4 a5 a6 y7) false,bR 101 9 zi y7 0 0],by kernel_rfl,rfl,rfl⟩
     ·
      subst hk73
      refine sq (rg (s1 1 [(70,.ptr 0 0)] ?_))
      obtain ⟨x77,h76,hm⟩:=bs hm
      obtain ⟨vv,H1,hC,rfl,rfl⟩:=zX h76
      refine dR [(71,aI x77)] [.box (zc12 y69 y70 y71) false,.box (zc27 a1 a2 a3 a4 a5 a6 y7 y72) false,bR 101 9 zi y7 0 0,bR 86 2 zj y72 0 0] [0] [.ptr 0 0] (by kernel_rfl) (by kernel_rfl) (by kernel_rfl) hC (by kernel_rfl) (fq 1 [(4,aI x77)] (wp_ret ?_))
      obtain rfl:=Option.some.inj hm
      exact ⟨trivial,aI x77,[.box (zc12 y69 y70 y71) false,.box (zc27 a1 a2 a3 a4 a5 a6 y7 y72) false,bR 101 9 zi y7 0 0,bR 86 2 zj y72 0 0],by kernel_rfl,rfl,rfl⟩
    refine sq (rg (s1 1 [(39,.ptr 0 0)] ?_))
    obtain ⟨⟨x79,x80,x81,x82⟩,h78,hm⟩:=bs hm
    obtain ⟨vv,H1,hC,rfl,rfl⟩:=zY h78
    refine dR [(40,aU x82)] [.box (zc12 x79 x80 x81) false,.box (zc24 a1 a2 a3 a4 a5 a6 y7) false,bR 101 9 zi y7 0 0] [0] [.ptr 0 0,aU 60] (by kernel_rfl) (by kernel_rfl) (by kernel_rfl) hC (by kernel_rfl) (fq 1 [(0,.ptr 0 0),(1,.ptr 1 0),(40,aU x82),(41,aU 0)] (bq ?_))
    refine qq (fun mm t H=>(∃ (y89:Bool) (y90:(Option (List Int))) (y91:Int) (y93:Int),Zt n y7 k73 x82 mm y89 y90 y91 none y93=some r∧t=mk 72 [(0,.ptr 0 0),(1,.ptr 1 0),(40,aU x82),(41,aU y93)]∧H=[.box (zc12 y89 y90 y91) false,.box (zc24 a1 a2 a3 a4 a5 a6 y7) false,bR 101 9 zi y7 0 0])∨(∃ (y89:Bool) (y90:(Option (List Int))) (y91:Int) (y92:(List zu)) (y93:Int),Zt n y7 k73 x82 mm y89 y90 y91 (some y92) y93=some r∧t=mk 72 [(0,.ptr 0 0),(1,.ptr 1 0),(40,aU x82),(41,aU y93)]∧H=[.box (zc12 y89 y90 y91) false,.box (zc27 a1 a2 a3 a4 a5 a6 y7 y92) false,bR 101 9 zi y7 0 0,bR 86 2 zj y92 0 0])) (.inl ⟨x79,x80,x81,0,hm,rfl,rfl⟩) ?_ ?_
    · rintro _ _ (⟨y89,y90,y91,y93,hm,_⟩ | ⟨y89,y90,y91,y92,y93,hm,_⟩) <;> exact nomatch hm
    rintro m94 _ _ (⟨y89,y90,y91,y93,hm,rfl,rfl⟩ | ⟨y89,y90,y91,y92,y93,hm,rfl,rfl⟩)
    ·
     simp only [Zt] at hm
     refine sq (dn [(0,.ptr 0 0),(1,.ptr 1 0),(40,aU x82),(41,aU y93),(42,aB (decide (y93 < x82)))] ?_)
     refine sq ?_
     rcases zh hm with ⟨h95,hm⟩ | ⟨h95,hm⟩
     ·
      refine c1 h95 (wp_skip (sq (bq (sq (rg (s1 1 [(43,.ptr 0 0)] ?_))))))
      obtain ⟨⟨x97,x98,x99,x100⟩,h96,hm⟩:=bs hm
      obtain ⟨vv,H1,hC,rfl,rfl⟩:=zY h96
      refine dR [(44,aU x100)] [.box (zc12 x97 x98 x99) false,.box (zc24 a1 a2 a3 a4 a5 a6 y7) false,bR 101 9 zi y7 0 0] [0] [.ptr 0 0,aU 29] (by kernel_rfl) (by kernel_rfl) (by kernel_rfl) hC (by kernel_rfl) (stf 4 [(0,.ptr 0 0),(1,.ptr 1 0),(8,.ptr 3 0),(40,aU x82),(41,aU y93)] [.box (zc12 x97 x98 x99) false,.box (zc24 a1 a2 a3 a4 a5 a6 y7) false,bR 101 9 zi y7 0 0,.box [aI (zS x100),aB false] false] (by kernel_rfl) (sq (rg (s1 1 [(47,.ptr 0 0)] ?_))))
      obtain ⟨⟨x102,x103,x104⟩,h101,hm⟩:=bs hm
      obtain ⟨vv,H1,hC,rfl,rfl⟩:=Zs h101
      refine dR [(48,aY x104)] [.box (zc13 x97 x98 x99 x102 x103) false,.box (zc24 a1 a2 a3 a4 a5 a6 y7) false,bR 101 9 zi y7 0 0,.box [aI (zS x100),aB false] false] [0] [.ptr 0 0] (by kernel_rfl) (by kernel_rfl) (by kernel_rfl) hC (by kernel_rfl) (fq 1 [(0,.ptr 0 0),(1,.ptr 1 0),(8,.ptr 3 0),(9,aY x104),(40,aU x82),(41,aU y93)] ?_)
      refine sq (sq (rg (s1 1 [(49,.ptr 0 0)] ?_)))
      obtain ⟨x106,h105,hm⟩:=bs hm
      obtain ⟨vv,H1,hC,rfl,rfl⟩:=zX h105
      refine dR [(50,aI x106)] [.box (zc13 x97 x98 x99 x102 x103) false,.box (zc24 a1 a2 a3 a4 a5 a6 y7) false,bR 101 9 zi y7 0 0,.box [aI (zS x100),aB false] false] [0] [.ptr 0 0] (by kernel_rfl) (by kernel_rfl) (by kernel_rfl) hC (by kernel_rfl) (s1 2 [(52,aB (x106 == 0)),(51,aB (x106 == 0))] ?_)
      refine segP (x106 == 0) [52,51] (fun b=>[(55,aB (b && (decide (x104 > 1)))),(54,ifA b (aB (decide (x104 > 1))) (.undef)),(53,ifA b (aY x104) (.undef))]) 3 (by kernel_rfl) (by kernel_rfl) (by kernel_rfl) (fin [(0,.ptr 0 0),(1,.ptr 1 0),(8,.ptr 3 0),(9,aY x104),(40,aU x82),(41,aU y93),(55,aB ((x106 == 0) && (decide (x104 > 1))))] rfl (by kernel_rfl) ?_)
      rcases zh hm with ⟨h107,hm⟩ | ⟨h107,hm⟩
      ·
       refine c1 h107 (sq (dn [(4,aI 22)] (wp_ret ?_)))
       obtain rfl:=Option.some.inj hm
       exact ⟨trivial,aI 22,[.box (zc13 x97 x98 x99 x102 x103) false,.box (zc24 a1 a2 a3 a4 a5 a6 y7) false,bR 101 9 zi y7 0 0],by kernel_rfl,rfl,rfl⟩
      ·
       refine c0 h107 (wp_skip (sq (det [(0,.ptr 0 0),(1,.ptr 1 0),(8,.ptr 3 0),(40,aU x82),(41,aU y93)] [.box (zc13 x97 x98 x99 x102 x103) false,.box (zc24 a1 a2 a3 a4 a5 a6 y7) false,bR 101 9 zi y7 0 0,.box (zc26 x100 x104) false] (by kernel_rfl) (rgd (std 7 [(65,aR 4 2 1),(64,.agg (zc26 x100 x104)),(63,.pv .nils),(62,.ptr 1 7),(61,.ptr 1 0),(60,.ptr 1 0),(59,.ptr 1 0)] [.box (zc13 x97 x98 x99 x102 x103) false,.box (zc24 a1 a2 a3 a4 a5 a6 y7) false,bR 101 9 zi y7 0 0,.box (zc26 x100 x104) false,bR 86 2 zj (aaf x100 x104) 0 0] (by kernel_rfl) ?_)))))
       obtain ⟨_,h108,hm⟩:=bs hm
       refine dOd [(66,aR 5 2 (aks x100 x104))] [.box (zc13 x97 x98 x99 x102 x103) false,.box (zc24 a1 a2 a3 a4 a5 a6 y7) false,bR 101 9 zi y7 0 0,.box (zc26 x100 x104) false,bR 86 2 zj (aaf x100 x104) 0 0,bR 86 2 zj (aaf x100 x104) 0 0] (QG (u:=0) zj (aaf x100 x104) (b:=16) t25 t86 rfl rfl rfl (fun _=>rfl) rfl h108 (show zP (aR 4 2 1) _=some (am1 x100 x104) from by kernel_rfl) (by kernel_rfl)) (by kernel_rfl) (std 3 [(68,.ptr 1 7),(67,.ptr 1 0)] [.box (zc13 x97 x98 x99 x102 x103) false,.box [aI a1,aI a2,.pv (zw a3),.pv (zw a4),.pv (zw a5),.pv (zw a6),aR 2 9 y7.length,aR 5 2 (aks x100 x104),.pv .nils] false,bR 101 9 zi y7 0 0,.box (zc26 x100 x104) false,bR 86 2 zj (aaf x100 x104) 0 0,bR 86 2 zj (aaf x100 x104) 0 0] (by kernel_rfl) (find [(0,.ptr 0 0),(1,.ptr 1 0),(40,aU x82),(41,aU y93)] rfl (by kernel_rfl) (by kernel_rfl) (dn [(0,.ptr 0 0),(1,.ptr 1 0),(40,aU x82),(zp93 y93)] ?_)))
       exact ⟨_,_,ZC [(0,.ptr 0 0),(1,.ptr 1 0),(40,aU x82),(zp93 y93)] [.box (zc13 x97 x98 x99 x102 x103) false,.box [aI a1,aI a2,.pv (zw a3),.pv (zw a4),.pv (zw a5),.pv (zw a6),aR 2 9 y7.length,aR 3 2 (aks x100 x104),.pv .nils] false,bR 101 9 zi y7 0 0,bR 86 2 zj (aaf x100 x104) 0 0] (by kernel_rfl),.inr (⟨(afu x97 x98 x99),x102,x103,(aaf x100 x104),(ad6 y93),hm,rfl,rfl⟩)⟩
     ·
      refine c0 h95 (wp_exit ?_)
      exact .inl ⟨y89,y90,y91,aU x82,aU y93,aB (decide (y93 < x82)),hm,(zT (by kernel_rfl)),rfl⟩
    ·
     simp only [Zt] at hm
     refine sq (dn [(0,.ptr 0 0),(1,.ptr 1 0),(40,aU x82),(41,aU y93),(42,aB (decide (y93 < x82)))] ?_)
     refine sq ?_
     rcases zh hm with ⟨h109,hm⟩ | ⟨h109,hm⟩
     ·
      refine c1 h109 (wp_skip (sq (bq (sq (rg (s1 1 [(43,.ptr 0 0)] ?_))))))
      obtain ⟨⟨x111,x112,x113,x114⟩,h110,hm⟩:=bs hm
      obtain ⟨vv,H1,hC,rfl,rfl⟩:=zY h110
      refine dR [(44,aU x114)] [.box (zc12 x111 x112 x113) false,.box (zc27 a1 a2 a3 a4 a5 a6 y7 y92) false,bR 101 9 zi y7 0 0,bR 86 2 zj y92 0 0] [0] [.ptr 0 0,aU 29] (by kernel_rfl) (by kernel_rfl) (by kernel_rfl) hC (by kernel_rfl) (stf 4 [(0,.ptr 0 0),(1,.ptr 1 0),(8,.ptr 4 0),(40,aU x82),(41,aU y93)] [.box (zc12 x111 x112 x113) false,.box (zc27 a1 a2 a3 a4 a5 a6 y7 y92) false,bR 101 9 zi y7 0 0,bR 86 2 zj y92 0 0,.box [aI (zS x114),aB false] false] (by kernel_rfl) (sq (rg (s1 1 [(47,.ptr 0 0)] ?_))))
      obtain ⟨⟨x116,x117,x118⟩,h115,hm⟩:=bs hm
      obtain ⟨vv,H1,hC,rfl,rfl⟩:=Zs h115
      refine dR [(48,aY x118)] [.box (zc13 x111 x112 x113 x116 x117) false,.box (zc27 a1 a2 a3 a4 a5 a6 y7 y92) false,bR 101 9 zi y7 0 0,bR 86 2 zj y92 0 0,.box [aI (zS x114),aB false] false] [0] [.ptr 0 0] (by kernel_rfl) (by kernel_rfl) (by kernel_rfl) hC (by kernel_rfl) (fq 1 [(0,.ptr 0 0),(1,.ptr 1 0),(8,.ptr 4 0),(9,aY x118),(40,aU x82),(41,aU y93)] ?_)
      refine sq (sq (rg (s1 1 [(49,.ptr 0 0)] ?_)))
      obtain ⟨x120,h119,hm⟩:=bs hm
      obtain ⟨vv,H1,hC,rfl,rfl⟩:=zX h119
      refine dR [(50,aI x120)] [.box (zc13 x111 x112 x113 x116 x117) false,.box (zc27 a1 a2 a3 a4 a5 a6 y7 y92) false,bR 101 9 zi y7 0 0,bR 86 2 zj y92 0 0,.box [aI (zS x114),aB false] false] [0] [.ptr 0 0] (by kernel_rfl) (by kernel_rfl) (by kernel_rfl) hC (by kernel_rfl) (s1 2 [(52,aB (x120 == 0)),(51,aB (x120 == 0))] ?_)
      refine segP (x120 == 0) [52,51] (fun b=>[(55,aB (b && (decide (x118 > 1)))),(54,ifA b (aB (decide (x118 > 1))) (.undef)),(53,ifA b (aY x118) (.undef))]) 3 (by kernel_rfl) (by kernel_rfl) (by kernel_rfl) (fin [(0,.ptr 0 0),(1,.ptr 1 0),(8,.ptr 4 0),(9,aY x118),(40,aU x82),(41,aU y93),(55,aB ((x120 == 0) && (decide (x118 > 1))))] rfl (by kernel_rfl) ?_)
      rcases zh hm with ⟨h121,hm⟩ | ⟨h121,hm⟩
      ·
       refine c1 h121 (sq (dn [(4,aI 22)] (wp_ret ?_)))
       obtain rfl:=Option.some.inj hm
       exact ⟨trivial,aI 22,[.box (zc13 x111 x112 x113 x116 x117) false,.box (zc27 a1 a2 a3 a4 a5 a6 y7 y92) false,bR 101 9 zi y7 0 0,bR 86 2 zj y92 0 0],by kernel_rfl,rfl,rfl⟩
      ·
       refine c0 h121 (wp_skip (sq (det [(0,.ptr 0 0),(1,.ptr 1 0),(8,.ptr 4 0),(40,aU x82),(41,aU y93)] [.box (zc13 x111 x112 x113 x116 x117) false,.box (zc27 a1 a2 a3 a4 a5 a6 y7 y92) false,bR 101 9 zi y7 0 0,bR 86 2 zj y92 0 0,.box (zc26 x114 x118) false] (by kernel_rfl) (rgd (std 7 [(65,aR 5 2 1),(64,.agg (zc26 x114 x118)),(63,aR 3 2 y92.length),(62,.ptr 1 7),(61,.ptr 1 0),(60,.ptr 1 0),(59,.ptr 1 0)] [.box (zc13 x111 x112 x113 x116 x117) false,.box (zc27 a1 a2 a3 a4 a5 a6 y7 y92) false,bR 101 9 zi y7 0 0,bR 86 2 zj y92 0 0,.box (zc26 x114 x118) false,bR 86 2 zj (aaf x114 x118) 0 0] (by kernel_rfl) ?_)))))
       obtain ⟨_,h122,hm⟩:=bs hm
       refine dOd [(66,aR 3 2 (akc y92 x114 x118))] [.box (zc13 x111 x112 x113 x116 x117) false,.box (zc27 a1 a2 a3 a4 a5 a6 y7 y92) false,bR 101 9 zi y7 0 0,bR 86 2 zj (ahV y92 x114 x118) 0 0,.box (zc26 x114 x118) false,bR 86 2 zj (aaf x114 x118) 0 0] (ZT (u:=0) (n:=y92.length) (id:=3) zj y92 (aaf x114 x118) (b:=16) t25 t86 rfl rfl rfl (fun _=>rfl) rfl h122 rfl rfl (Nat.zero_le _) (show zP (aR 5 2 1) _=some (am1 x114 x118) from by kernel_rfl) (by kernel_rfl)) (by kernel_rfl) (std 3 [(68,.ptr 1 7),(67,.ptr 1 0)] [.box (zc13 x111 x112 x113 x116 x117) false,.box [aI a1,aI a2,.pv (zw a3),.pv (zw a4),.pv (zw a5),.pv (zw a6),aR 2 9 y7.length,aR 3 2 (akc y92 x114 x118),.pv .nils] false,bR 101 9 zi y7 0 0,bR 86 2 zj (ahV y92 x114 x118) 0 0,.box (zc26 x114 x118) false,bR 86 2 zj (aaf x114 x118) 0 0] (by kernel_rfl) (find [(0,.ptr 0 0),(1,.ptr 1 0),(40,aU x82),(41,aU y93)] rfl (by kernel_rfl) (by kernel_rfl) (dn [(0,.ptr 0 0),(1,.ptr 1 0),(40,aU x82),(zp93 y93)] ?_)))
       exact ⟨_,_,ZC [(0,.ptr 0 0),(1,.ptr 1 0),(40,aU x82),(zp93 y93)] [.box (zc13 x111 x112 x113 x116 x117) false,.box [aI a1,aI a2,.pv (zw a3),.pv (zw a4),.pv (zw a5),.pv (zw a6),aR 2 9 y7.length,aR 3 2 (akc y92 x114 x118),.pv .nils] false,bR 101 9 zi y7 0 0,bR 86 2 zj (ahV y92 x114 x118) 0 0] (by kernel_rfl),.inr (⟨(afu x111 x112 x113),x116,x117,(ahV y92 x114 x118),(ad6 y93),hm,rfl,rfl⟩)⟩
     ·
      refine c0 h109 (wp_exit ?_)
      exact .inr (⟨y89,y90,y91,y92,aU x82,aU y93,aB (decide (y93 < x82)),hm,(zT (by kernel_rfl)),rfl⟩)
  refine sq (rg (s1 1 [(10,.ptr 0 0)] ?_))
  obtain ⟨⟨x124,x125,x126,x127⟩,h123,hm⟩:=bs hm
  obtain ⟨vv,H1,hC,rfl,rfl⟩:=zY h123
  refine dR [(11,aU x127)] [.box (zc12 x124 x125 x126) false,.box (zc23 a1 a2 a3 a4 a5 a6) false] [0] [.ptr 0 0,aU 60] (by kernel_rfl) (by kernel_rfl) (by kernel_rfl) hC (by kernel_rfl) (fq 1 [(0,.ptr 0 0),(1,.ptr 1 0),(11,aU x127),(12,aU 0)] (bq ?_))
  refine qq (fun mm t H=>(∃ (y134:Bool) (y135:(Option (List Int))) (y136:Int) (y138:Int),ZI n k8 x127 mm y134 y135 y136 none y138=some r∧t=mk 72 [(0,.ptr 0 0),(1,.ptr 1 0),(11,aU x127),(12,aU y138)]∧H=[.box (zc12 y134 y135 y136) false,.box (zc23 a1 a2 a3 a4 a5 a6) false])∨(∃ (y134:Bool) (y135:(Option (List Int))) (y136:Int) (y137:(List zo)) (y138:Int),ZI n k8 x127 mm y134 y135 y136 (some y137) y138=some r∧t=mk 72 [(0,.ptr 0 0),(1,.ptr 1 0),(11,aU x127),(12,aU y138)]∧H=[.box (zc12 y134 y135 y136) false,.box (zc24 a1 a2 a3 a4 a5 a6 y137) false,bR 101 9 zi y137 0 0])) (.inl ⟨x124,x125,x126,0,hm,rfl,rfl⟩) ?_ ?_
  · rintro _ _ (⟨y134,y135,y136,y138,hm,_⟩ | ⟨y134,y135,y136,y137,y138,hm,_⟩) <;> exact nomatch hm
  rintro m139 _ _ (⟨y134,y135,y136,y138,hm,rfl,rfl⟩ | ⟨y134,y135,y136,y137,y138,hm,rfl,rfl⟩)
  ·
   simp only [ZI] at hm
   refine sq (dn [(0,.ptr 0 0),(1,.ptr 1 0),(11,aU x127),(12,aU y138),(13,aB (decide (y138 < x127)))] ?_)
   refine sq ?_
   rcases zh hm with ⟨h140,hm⟩ | ⟨h140,hm⟩
   ·
    refine c1 h140 (wp_skip (sq (bq (sq (rg (s1 1 [(14,.ptr 0 0)] ?_))))))
    obtain ⟨⟨x142,x143,x144⟩,h141,hm⟩:=bs hm
    obtain ⟨vv,H1,hC,rfl,rfl⟩:=Zs h141
    refine dR [(15,aY x144)] [.box (zc13 y134 y135 y136 x142 x143) false,.box (zc23 a1 a2 a3 a4 a5 a6) false] [0] [.ptr 0 0] (by kernel_rfl) (by kernel_rfl) (by kernel_rfl) hC (by kernel_rfl) (stf 4 [(0,.ptr 0 0),(1,.ptr 1 0),(5,.ptr 2 0),(11,aU x127),(12,aU y138)] [.box (zc13 y134 y135 y136 x142 x143) false,.box (zc23 a1 a2 a3 a4 a5 a6) false,.box (zc28 x144) false] (by kernel_rfl) ?_)
    obtain ⟨k157,hk157,hm⟩:=zx hm
    refine mid (fun t H=>(∃ (y145:Bool) (y146:(Option (List Int))) (y147:Int) (y148:Int) (y149:Int) (y150:Int) (y151:Int) (y152:Int) (y153:Nat) (y154:ByteArray) (y156:Int),k157 y145 y146 y147 y148 y149 y150 y151 y152 y153 y154 none y156=some r∧t=mk 72 [(0,.ptr 0 0),(1,.ptr 1 0),(5,.ptr 2 0),(6,.ptr 3 0),(7,aI y156),(11,aU x127),(12,aU y138)]∧H=[.box (zc12 y145 y146 y147) false,.box (zc23 a1 a2 a3 a4 a5 a6) false,.box (zc28 x144) false,.box (zc20 y148 y149 y150 y151 y152 y153 y154) false])∨(∃ (y145:Bool) (y146:(Option (List Int))) (y147:Int) (y148:Int) (y149:Int) (y150:Int) (y151:Int) (y152:Int) (y153:Nat) (y154:ByteArray) (y155:(List zc)) (y156:Int),k157 y145 y146 y147 y148 y149 y150 y151 y152 y153 y154 (some y155) y156=some r∧t=mk 72 [(0,.ptr 0 0),(1,.ptr 1 0),(5,.ptr 2 0),(6,.ptr 4 0),(7,aI y156),(11,aU x127),(12,aU y138)]∧H=[.box (zc12 y145 y146 y147) false,.box (zc23 a1 a2 a3 a4 a5 a6) false,.box (zc28 x144) false,bR 49 8 za y155 0 0,.box (zc29 y148 y149 y150 y151 y152 y153 y154 y155) false])) ?_ ?_
    ·
     rintro _ _ (⟨y145,y146,y147,y148,y149,y150,y151,y152,y153,y154,y156,hm,rfl,rfl⟩ | ⟨y145,y146,y147,y148,y149,y150,y151,y152,y153,y154,y155,y156,hm,rfl,rfl⟩)
     ·
      subst hk157
      refine sq (sq (dn [(0,.ptr 0 0),(1,.ptr 1 0),(5,.ptr 2 0),(6,.ptr 3 0),(7,aI y156),(11,aU x127),(12,aU y138),(24,aB (y156 != 0))] ?_))
      rcases zh hm with ⟨h158,hm⟩ | ⟨h158,hm⟩
      ·
       refine c1 h158 (sq (dn [(4,aI y156)] (wp_ret ?_)))
       obtain rfl:=Option.some.inj hm
       exact ⟨trivial,aI y156,[.box (zc12 y145 y146 y147) false,.box (zc23 a1 a2 a3 a4 a5 a6) false],by kernel_rfl,rfl,rfl⟩
      ·
       refine c0 h158 (wp_skip (sq (det [(0,.ptr 0 0),(1,.ptr 1 0),(5,.ptr 2 0),(11,aU x127),(12,aU y138)] [.box (zc12 y145 y146 y147) false,.box (zc23 a1 a2 a3 a4 a5 a6) false,.box (zc30 x144 y148 y149 y150 y151 y152 y153 y154) false,.box (zc20 y148 y149 y150 y151 y152 y153 y154) false] (by kernel_rfl) (rgd (std 7 [(34,aR 4 9 1),(33,.agg (zc30 x144 y148 y149 y150 y151 y152 y153 y154)),(32,.pv .nils),(31,.ptr 1 6),(30,.ptr 1 0),(29,.ptr 1 0),(28,.ptr 1 0)] [.box (zc12 y145 y146 y147) false,.box (zc23 a1 a2 a3 a4 a5 a6) false,.box (zc30 x144 y148 y149 y150 y151 y152 y153 y154) false,.box (zc20 y148 y149 y150 y151 y152 y153 y154) false,bR 101 9 zi (adW x144 y148 y149 y150 y151 y152 y153 y154) 0 0] (by kernel_rfl) ?_)))))
       obtain ⟨_,h159,hm⟩:=bs hm
       refine dOd [(35,aR 5 9 (([(zo.mk (IntKind.wrap .i64 x144) (zm.mk y148 y149 y150 (zl.mk y151 y152 y153 y154) none))]:List zo).length))] [.box (zc12 y145 y146 y147) false,.box (zc23 a1 a2 a3 a4 a5 a6) false,.box (zc30 x144 y148 y149 y150 y151 y152 y153 y154) false,.box (zc20 y148 y149 y150 y151 y152 y153 y154) false,bR 101 9 zi (adW x144 y148 y149 y150 y151 y152 y153 y154) 0 0,bR 101 9 zi (adW x144 y148 y149 y150 y151 y152 y153 y154) 0 0] (QG (u:=0) zi (adW x144 y148 y149 y150 y151 y152 y153 y154) (b:=96) t24 t101 rfl rfl rfl (fun _=>rfl) rfl h159 (show zP (aR 4 9 1) _=some (([(zo.mk (IntKind.wrap .i64 x144) (zm.mk y148 y149 y150 (zl.mk y151 y152 y153 y154) none))]:List zo).map zi) from by kernel_rfl) (by kernel_rfl)) (by kernel_rfl) (std 3 [(37,.ptr 1 6),(36,.ptr 1 0)] [.box (zc12 y145 y146 y147) false,.box [aI a1,aI a2,.pv (zw a3),.pv (zw a4),.pv (zw a5),.pv (zw a6),aR 5 9 (([(zo.mk (IntKind.wrap .i64 x144) (zm.mk y148 y149 y150 (zl.mk y151 y152 y153 y154) none))]:List zo).length),.pv .nils,.pv .nils] false,.box (zc30 x144 y148 y149 y150 y151 y152 y153 y154) false,.box (zc20 y148 y149 y150 y151 y152 y153 y154) false,bR 101 9 zi (adW x144 y148 y149 y150 y151 y152 y153 y154) 0 0,bR 101 9 zi (adW x144 y148 y149 y150 y151 y152 y153 y154) 0 0] (by kernel_rfl) (find [(0,.ptr 0 0),(1,.ptr 1 0),(11,aU x127),(12,aU y138)] rfl (by kernel_rfl) (by kernel_rfl) (dn [(0,.ptr 0 0),(1,.ptr 1 0),(11,aU x127),(zp94 y138)] ?_)))
       exact ⟨_,_,ZC [(0,.ptr 0 0),(1,.ptr 1 0),(11,aU x127),(zp94 y138)] [.box (zc12 y145 y146 y147) false,.box [aI a1,aI a2,.pv (zw a3),.pv (zw a4),.pv (zw a5),.pv (zw a6),aR 2 9 (([(zo.mk (IntKind.wrap .i64 x144) (zm.mk y148 y149 y150 (zl.mk y151 y152 y153 y154) none))]:List zo).length),.pv .nils,.pv .nils] false,bR 101 9 zi (adW x144 y148 y149 y150 y151 y152 y153 y154) 0 0] (by kernel_rfl),.inr (⟨y145,y146,y147,(adW x144 y148 y149 y150 y151 y152 y153 y154),(ad6 y138),hm,rfl,rfl⟩)⟩
     ·
      subst hk157
      refine sq (sq (dn [(0,.ptr 0 0),(1,.ptr 1 0),(5,.ptr 2 0),(6,.ptr 4 0),(7,aI y156),(11,aU x127),(12,aU y138),(24,aB (y156 != 0))] ?_))
      rcases zh hm with ⟨h160,hm⟩ | ⟨h160,hm⟩
      ·
       refine c1 h160 (sq (dn [(4,aI y156)] (wp_ret ?_)))
       obtain rfl:=Option.some.inj hm
       exact ⟨trivial,aI y156,[.box (zc12 y145 y146 y147) false,.box (zc23 a1 a2 a3 a4 a5 a6) false],by kernel_rfl,rfl,rfl⟩
      ·
       refine c0 h160 (wp_skip (sq (det [(0,.ptr 0 0),(1,.ptr 1 0),(5,.ptr 2 0),(11,aU x127),(12,aU y138)] [.box (zc12 y145 y146 y147) false,.box (zc23 a1 a2 a3 a4 a5 a6) false,.box (zc31 x144 y148 y149 y150 y151 y152 y153 y154 y155) false,bR 49 8 za y155 0 0,.box (zc29 y148 y149 y150 y151 y152 y153 y154 y155) false] (by kernel_rfl) (rgd (shd 6 [(33,.agg (zc31 x144 y148 y149 y150 y151 y152 y153 y154 y155)),(32,.pv .nils),(31,.ptr 1 6),(30,.ptr 1 0),(29,.ptr 1 0),(28,.ptr 1 0)] (by kernel_rfl) (dOd [(34,aR 5 9 1)] [.box (zc12 y145 y146 y147) false,.box (zc23 a1 a2 a3 a4 a5 a6) false,.box (zc31 x144 y148 y149 y150 y151 y152 y153 y154 y155) false,bR 49 8 za y155 0 (ab8 y155),.box (zc29 y148 y149 y150 y151 y152 y153 y154 y155) false,bR 101 9 zi (ac8 x144 y148 y149 y150 y151 y152 y153 y154 y155) 0 0] (adp (nid:=0) (t:=24) (len:=1) (is:=[0]) (vs:=[.agg (zc31 x144 y148 y149 y150 y151 y152 y153 y154 y155)]) (ps:=[.agg [aI (zS x144),aI y148,aI y149,aI y150,aI y151,aI y152,aF y153,aS y154,.pv (.sl (y155.map za))]]) (R:=[3]) (e:=⟨aR 5 9 1,[],[bR 101 9 zi (ac8 x144 y148 y149 y150 y151 y152 y153 y154 y155) 0 0]⟩) (by kernel_rfl) (ZZ (ae9 (zt (zC) (zt (zC) (zt (zC) (zt (zC) (zt (zC) (zt (zC) (zt (zC) (zt (zC) (zt (qe (n:=y155.length) (id:=3) (l:=y155) (R:=za) rfl rfl (Nat.zero_le _)) (rfl)))))))))) rfl) (rfl)) (by kernel_rfl) (by kernel_rfl)) (by kernel_rfl) ?_))))))
       obtain ⟨_,h161,hm⟩:=bs hm
       refine dOd [(35,aR 6 9 (([(zo.mk (IntKind.wrap .i64 x144) (zm.mk y148 y149 y150 (zl.mk y151 y152 y153 y154) (some y155)))]:List zo).length))] [.box (zc12 y145 y146 y147) false,.box (zc23 a1 a2 a3 a4 a5 a6) false,.box (zc31 x144 y148 y149 y150 y151 y152 y153 y154 y155) false,bR 49 8 za y155 0 (ab8 y155),.box (zc29 y148 y149 y150 y151 y152 y153 y154 y155) false,bR 101 9 zi (ac8 x144 y148 y149 y150 y151 y152 y153 y154 y155) 0 0,bR 101 9 zi (ac8 x144 y148 y149 y150 y151 y152 y153 y154 y155) 0 0] (QG (u:=0) zi (ac8 x144 y148 y149 y150 y151 y152 y153 y154 y155) (b:=96) t24 t101 rfl rfl rfl (fun _=>rfl) rfl h161 (show zP (aR 5 9 1) _=some (([(zo.mk (IntKind.wrap .i64 x144) (zm.mk y148 y149 y150 (zl.mk y151 y152 y153 y154) (some y155)))]:List zo).map zi) from by kernel_rfl) (by kernel_rfl)) (by kernel_rfl) (std 3 [(37,.ptr 1 6),(36,.ptr 1 0)] [.box (zc12 y145 y146 y147) false,.box [aI a1,aI a2,.pv (zw a3),.pv (zw a4),.pv (zw a5),.pv (zw a6),aR 6 9 (([(zo.mk (IntKind.wrap .i64 x144) (zm.mk y148 y149 y150 (zl.mk y151 y152 y153 y154) (some y155)))]:List zo).length),.pv .nils,.pv .nils] false,.box (zc31 x144 y148 y149 y150 y151 y152 y153 y154 y155) false,bR 49 8 za y155 0 (ab8 y155),.box (zc29 y148 y149 y150 y151 y152 y153 y154 y155) false,bR 101 9 zi (ac8 x144 y148 y149 y150 y151 y152 y153 y154 y155) 0 0,bR 101 9 zi (ac8 x144 y148 y149 y150 y151 y152 y153 y154 y155) 0 0] (by kernel_rfl) (find [(0,.ptr 0 0),(1,.ptr 1 0),(11,aU x127),(12,aU y138)] rfl (by kernel_rfl) (by kernel_rfl) (dn [(0,.ptr 0 0),(1,.ptr 1 0),(11,aU x127),(zp94 y138)] ?_)))
       exact ⟨_,_,ZC [(0,.ptr 0 0),(1,.ptr 1 0),(11,aU x127),(zp94 y138)] [.box (zc12 y145 y146 y147) false,.box [aI a1,aI a2,.pv (zw a3),.pv (zw a4),.pv (zw a5),.pv (zw a6),aR 2 9 (([(zo.mk (IntKind.wrap .i64 x144) (zm.mk y148 y149 y150 (zl.mk y151 y152 y153 y154) (some y155)))]:List zo).length),.pv .nils,.pv .nils] false,bR 101 9 zi (ac8 x144 y148 y149 y150 y151 y152 y153 y154 y155) 0 0] (by kernel_rfl),.inr (⟨y145,y146,y147,(ac8 x144 y148 y149 y150 y151 y152 y153 y154 y155),(ad6 y138),hm,rfl,rfl⟩)⟩
    refine rg (s1 1 [(19,.ptr 0 0)] ?_)
    obtain ⟨x175,h162,hm⟩:=bs hm
    rcases x175 with ⟨x163,x164,x165,x166,x167,x168,x169,x170,x171,x172,_ | x173,x174⟩
    ·
     obtain ⟨vv,H1,hC,rfl,rfl⟩:=Qu h162
     refine dR [(20,.tup [.agg (zc20 x166 x167 x168 x169 x170 x171 x172),aI x174])] [.box (zc12 x163 x164 x165) false,.box (zc23 a1 a2 a3 a4 a5 a6) false,.box (zc28 x144) false] [0] [.ptr 0 0] (by kernel_rfl) (by kernel_rfl) (by kernel_rfl) hC (by kernel_rfl) (stf 6 [(0,.ptr 0 0),(1,.ptr 1 0),(5,.ptr 2 0),(6,.ptr 3 0),(7,aI x174),(11,aU x127),(12,aU y138)] [.box (zc12 x163 x164 x165) false,.box (zc23 a1 a2 a3 a4 a5 a6) false,.box (zc28 x144) false,.box (zc20 x166 x167 x168 x169 x170 x171 x172) false] (by kernel_rfl) ?_)
     exact .inl ⟨x163,x164,x165,x166,x167,x168,x169,x170,x171,x172,x174,hm,rfl,rfl⟩
    ·
     obtain ⟨vv,H1,hC,rfl,rfl⟩:=Qu h162
     refine dR [(20,.tup [.agg (zc29 x166 x167 x168 x169 x170 x171 x172 x173),aI x174])] [.box (zc12 x163 x164 x165) false,.box (zc23 a1 a2 a3 a4 a5 a6) false,.box (zc28 x144) false,bR 49 8 za x173 0 0] [0] [.ptr 0 0] (by kernel_rfl) (by kernel_rfl) (by kernel_rfl) hC (by kernel_rfl) (stf 6 [(0,.ptr 0 0),(1,.ptr 1 0),(5,.ptr 2 0),(6,.ptr 4 0),(7,aI x174),(11,aU x127),(12,aU y138)] [.box (zc12 x163 x164 x165) false,.box (zc23 a1 a2 a3 a4 a5 a6) false,.box (zc28 x144) false,bR 49 8 za x173 0 0,.box (zc29 x166 x167 x168 x169 x170 x171 x172 x173) false] (by kernel_rfl) ?_)
     exact .inr (⟨x163,x164,x165,x166,x167,x168,x169,x170,x171,x172,x173,x174,hm,rfl,rfl⟩)
   ·
    refine c0 h140 (wp_exit ?_)
    exact .inl ⟨y134,y135,y136,aU x127,aU y138,aB (decide (y138 < x127)),hm,(zT (by kernel_rfl)),rfl⟩
  ·
   simp only [ZI] at hm
   refine sq (dn [(0,.ptr 0 0),(1,.ptr 1 0),(11,aU x127),(12,aU y138),(13,aB (decide (y138 < x127)))] ?_)
   refine sq ?_
   rcases zh hm with ⟨h176,hm⟩ | ⟨h176,hm⟩
   ·
    refine c1 h176 (wp_skip (sq (bq (sq (rg (s1 1 [(14,.ptr 0 0)] ?_))))))
    obtain ⟨⟨x178,x179,x180⟩,h177,hm⟩:=bs hm
    obtain ⟨vv,H1,hC,rfl,rfl⟩:=Zs h177
    refine dR [(15,aY x180)] [.box (zc13 y134 y135 y136 x178 x179) false,.box (zc24 a1 a2 a3 a4 a5 a6 y137) false,bR 101 9 zi y137 0 0] [0] [.ptr 0 0] (by kernel_rfl) (by kernel_rfl) (by kernel_rfl) hC (by kernel_rfl) (stf 4 [(0,.ptr 0 0),(1,.ptr 1 0),(5,.ptr 3 0),(11,aU x127),(12,aU y138)] [.box (zc13 y134 y135 y136 x178 x179) false,.box (zc24 a1 a2 a3 a4 a5 a6 y137) false,bR 101 9 zi y137 0 0,.box (zc28 x180) false] (by kernel_rfl) ?_)
    obtain ⟨k193,hk193,hm⟩:=zx hm
    refine mid (fun t H=>(∃ (y181:Bool) (y182:(Option (List Int))) (y183:Int) (y184:Int) (y185:Int) (y186:Int) (y187:Int) (y188:Int) (y189:Nat) (y190:ByteArray) (y192:Int),k193 y181 y182 y183 y184 y185 y186 y187 y188 y189 y190 none y192=some r∧t=mk 72 [(0,.ptr 0 0),(1,.ptr 1 0),(5,.ptr 3 0),(6,.ptr 4 0),(7,aI y192),(11,aU x127),(12,aU y138)]∧H=[.box (zc12 y181 y182 y183) false,.box (zc24 a1 a2 a3 a4 a5 a6 y137) false,bR 101 9 zi y137 0 0,.box (zc28 x180) false,.box (zc20 y184 y185 y186 y187 y188 y189 y190) false])∨(∃ (y181:Bool) (y182:(Option (List Int))) (y183:Int) (y184:Int) (y185:Int) (y186:Int) (y187:Int) (y188:Int) (y189:Nat) (y190:ByteArray) (y191:(List zc)) (y192:Int),k193 y181 y182 y183 y184 y185 y186 y187 y188 y189 y190 (some y191) y192=some r∧t=mk 72 [(0,.ptr 0 0),(1,.ptr 1 0),(5,.ptr 3 0),(6,.ptr 5 0),(7,aI y192),(11,aU x127),(12,aU y138)]∧H=[.box (zc12 y181 y182 y183) false,.box (zc24 a1 a2 a3 a4 a5 a6 y137) false,bR 101 9 zi y137 0 0,.box (zc28 x180) false,bR 49 8 za y191 0 0,.box (zc21 y184 y185 y186 y187 y188 y189 y190 y191) false])) ?_ ?_
    ·
     rintro _ _ (⟨y181,y182,y183,y184,y185,y186,y187,y188,y189,y190,y192,hm,rfl,rfl⟩ | ⟨y181,y182,y183,y184,y185,y186,y187,y188,y189,y190,y191,y192,hm,rfl,rfl⟩)
     ·
      subst hk193
      refine sq (sq (dn [(0,.ptr 0 0),(1,.ptr 1 0),(5,.ptr 3 0),(6,.ptr 4 0),(7,aI y192),(11,aU x127),(12,aU y138),(24,aB (y192 != 0))] ?_))
      rcases zh hm with ⟨h194,hm⟩ | ⟨h194,hm⟩
      ·
       refine c1 h194 (sq (dn [(4,aI y192)] (wp_ret ?_)))
       obtain rfl:=Option.some.inj hm
       exact ⟨trivial,aI y192,[.box (zc12 y181 y182 y183) false,.box (zc24 a1 a2 a3 a4 a5 a6 y137) false,bR 101 9 zi y137 0 0],by kernel_rfl,rfl,rfl⟩
      ·
       refine c0 h194 (wp_skip (sq (det [(0,.ptr 0 0),(1,.ptr 1 0),(5,.ptr 3 0),(11,aU x127),(12,aU y138)] [.box (zc12 y181 y182 y183) false,.box (zc24 a1 a2 a3 a4 a5 a6 y137) false,bR 101 9 zi y137 0 0,.box (zc30 x180 y184 y185 y186 y187 y188 y189 y190) false,.box (zc20 y184 y185 y186 y187 y188 y189 y190) false] (by kernel_rfl) (rgd (std 7 [(34,aR 5 9 1),(33,.agg (zc30 x180 y184 y185 y186 y187 y188 y189 y190)),(32,aR 2 9 y137.length),(31,.ptr 1 6),(30,.ptr 1 0),(29,.ptr 1 0),(28,.ptr 1 0)] [.box (zc12 y181 y182 y183) false,.box (zc24 a1 a2 a3 a4 a5 a6 y137) false,bR 101 9 zi y137 0 0,.box (zc30 x180 y184 y185 y186 y187 y188 y189 y190) false,.box (zc20 y184 y185 y186 y187 y188 y189 y190) false,bR 101 9 zi (adW x180 y184 y185 y186 y187 y188 y189 y190) 0 0] (by kernel_rfl) ?_)))))
       obtain ⟨_,h195,hm⟩:=bs hm
       refine dOd [(35,aR 2 9 ((y137++([(zo.mk (IntKind.wrap .i64 x180) (zm.mk y184 y185 y186 (zl.mk y187 y188 y189 y190) none))]:List zo)).length))] [.box (zc12 y181 y182 y183) false,.box (zc24 a1 a2 a3 a4 a5 a6 y137) false,bR 101 9 zi (amV y137 x180 y184 y185 y186 y187 y188 y189 y190) 0 0,.box (zc30 x180 y184 y185 y186 y187 y188 y189 y190) false,.box (zc20 y184 y185 y186 y187 y188 y189 y190) false,bR 101 9 zi (adW x180 y184 y185 y186 y187 y188 y189 y190) 0 0] (ZT (u:=0) (n:=y137.length) (id:=2) zi y137 (adW x180 y184 y185 y186 y187 y188 y189 y190) (b:=96) t24 t101 rfl rfl rfl (fun _=>rfl) rfl h195 rfl rfl (Nat.zero_le _) (show zP (aR 5 9 1) _=some (([(zo.mk (IntKind.wrap .i64 x180) (zm.mk y184 y185 y186 (zl.mk y187 y188 y189 y190) none))]:List zo).map zi) from by kernel_rfl) (by kernel_rfl)) (by kernel_rfl) (std 3 [(37,.ptr 1 6),(36,.ptr 1 0)] [.box (zc12 y181 y182 y183) false,.box [aI a1,aI a2,.pv (zw a3),.pv (zw a4),.pv (zw a5),.pv (zw a6),aR 2 9 ((y137++([(zo.mk (IntKind.wrap .i64 x180) (zm.mk y184 y185 y186 (zl.mk y187 y188 y189 y190) none))]:List zo)).length),.pv .nils,.pv .nils] false,bR 101 9 zi (amV y137 x180 y184 y185 y186 y187 y188 y189 y190) 0 0,.box (zc30 x180 y184 y185 y186 y187 y188 y189 y190) false,.box (zc20 y184 y185 y186 y187 y188 y189 y190) false,bR 101 9 zi (adW x180 y184 y185 y186 y187 y188 y189 y190) 0 0] (by kernel_rfl) (find [(0,.ptr 0 0),(1,.ptr 1 0),(11,aU x127),(12,aU y138)] rfl (by kernel_rfl) (by kernel_rfl) (dn [(0,.ptr 0 0),(1,.ptr 1 0),(11,aU x127),(zp94 y138)] ?_)))
       exact ⟨_,_,ZC [(0,.ptr 0 0),(1,.ptr 1 0),(11,aU x127),(zp94 y138)] [.box (zc12 y181 y182 y183) false,.box [aI a1,aI a2,.pv (zw a3),.pv (zw a4),.pv (zw a5),.pv (zw a6),aR 2 9 ((y137++([(zo.mk (IntKind.wrap .i64 x180) (zm.mk y184 y185 y186 (zl.mk y187 y188 y189 y190) none))]:List zo)).length),.pv .nils,.pv .nils] false,bR 101 9 zi (amV y137 x180 y184 y185 y186 y187 y188 y189 y190) 0 0] (by kernel_rfl),.inr (⟨y181,y182,y183,(amV y137 x180 y184 y185 y186 y187 y188 y189 y190),(ad6 y138),hm,rfl,rfl⟩)⟩
     ·
      subst hk193
      refine sq (sq (dn [(0,.ptr 0 0),(1,.ptr 1 0),(5,.ptr 3 0),(6,.ptr 5 0),(7,aI y192),(11,aU x127),(12,aU y138),(24,aB (y192 != 0))] ?_))
      rcases zh hm with ⟨h196,hm⟩ | ⟨h196,hm⟩
      ·
       refine c1 h196 (sq (dn [(4,aI y192)] (wp_ret ?_)))
       obtain rfl:=Option.some.inj hm
       exact ⟨trivial,aI y192,[.box (zc12 y181 y182 y183) false,.box (zc24 a1 a2 a3 a4 a5 a6 y137) false,bR 101 9 zi y137 0 0],by kernel_rfl,rfl,rfl⟩
      ·
       refine c0 h196 (wp_skip (sq (det [(0,.ptr 0 0),(1,.ptr 1 0),(5,.ptr 3 0),(11,aU x127),(12,aU y138)] [.box (zc12 y181 y182 y183) false,.box (zc24 a1 a2 a3 a4 a5 a6 y137) false,bR 101 9 zi y137 0 0,.box (zc32 x180 y184 y185 y186 y187 y188 y189 y190 y191) false,bR 49 8 za y191 0 0,.box (zc21 y184 y185 y186 y187 y188 y189 y190 y191) false] (by kernel_rfl) (rgd (shd 6 [(33,.agg (zc32 x180 y184 y185 y186 y187 y188 y189 y190 y191)),(32,aR 2 9 y137.length),(31,.ptr 1 6),(30,.ptr 1 0),(29,.ptr 1 0),(28,.ptr 1 0)] (by kernel_rfl) (dOd [(34,aR 6 9 1)] [.box (zc12 y181 y182 y183) false,.box (zc24 a1 a2 a3 a4 a5 a6 y137) false,bR 101 9 zi y137 0 0,.box (zc32 x180 y184 y185 y186 y187 y188 y189 y190 y191) false,bR 49 8 za y191 0 (ab8 y191),.box (zc21 y184 y185 y186 y187 y188 y189 y190 y191) false,bR 101 9 zi (ac8 x180 y184 y185 y186 y187 y188 y189 y190 y191) 0 0] (adp (nid:=0) (t:=24) (len:=1) (is:=[0]) (vs:=[.agg (zc32 x180 y184 y185 y186 y187 y188 y189 y190 y191)]) (ps:=[.agg [aI (zS x180),aI y184,aI y185,aI y186,aI y187,aI y188,aF y189,aS y190,.pv (.sl (y191.map za))]]) (R:=[4]) (e:=⟨aR 6 9 1,[],[bR 101 9 zi (ac8 x180 y184 y185 y186 y187 y188 y189 y190 y191) 0 0]⟩) (by kernel_rfl) (ZZ (ae9 (zt (zC) (zt (zC) (zt (zC) (zt (zC) (zt (zC) (zt (zC) (zt (zC) (zt (zC) (zt (qe (n:=y191.length) (id:=4) (l:=y191) (R:=za) rfl rfl (Nat.zero_le _)) (rfl)))))))))) rfl) (rfl)) (by kernel_rfl) (by kernel_rfl)) (by kernel_rfl) ?_))))))
       obtain ⟨_,h197,hm⟩:=bs hm
       refine dOd [(35,aR 2 9 ((y137++([(zo.mk (IntKind.wrap .i64 x180) (zm.mk y184 y185 y186 (zl.mk y187 y188 y189 y190) (some y191)))]:List zo)).length))] [.box (zc12 y181 y182 y183) false,.box (zc24 a1 a2 a3 a4 a5 a6 y137) false,bR 101 9 zi (anm y137 x180 y184 y185 y186 y187 y188 y189 y190 y191) 0 0,.box (zc32 x180 y184 y185 y186 y187 y188 y189 y190 y191) false,bR 49 8 za y191 0 (ab8 y191),.box (zc21 y184 y185 y186 y187 y188 y189 y190 y191) false,bR 101 9 zi (ac8 x180 y184 y185 y186 y187 y188 y189 y190 y191) 0 0] (ZT (u:=0) (n:=y137.length) (id:=2) zi y137 (ac8 x180 y184 y185 y186 y187 y188 y189 y190 y191) (b:=96) t24 t101 rfl rfl rfl (fun _=>rfl) rfl h197 rfl rfl (Nat.zero_le _) (show zP (aR 6 9 1) _=some (([(zo.mk (IntKind.wrap .i64 x180) (zm.mk y184 y185 y186 (zl.mk y187 y188 y189 y190) (some y191)))]:List zo).map zi) from by kernel_rfl) (by kernel_rfl)) (by kernel_rfl) (std 3 [(37,.ptr 1 6),(36,.ptr 1 0)] [.box (zc12 y181 y182 y183) false,.box [aI a1,aI a2,.pv (zw a3),.pv (zw a4),.pv (zw a5),.pv (zw a6),aR 2 9 ((y137++([(zo.mk (IntKind.wrap .i64 x180) (zm.mk y184 y185 y186 (zl.mk y187 y188 y189 y190) (some y191)))]:List zo)).length),.pv .nils,.pv .nils] false,bR 101 9 zi (anm y137 x180 y184 y185 y186 y187 y188 y189 y190 y191) 0 0,.box (zc32 x180 y184 y185 y186 y187 y188 y189 y190 y191) false,bR 49 8 za y191 0 (ab8 y191),.box (zc21 y184 y185 y186 y187 y188 y189 y190 y191) false,bR 101 9 zi (ac8 x180 y184 y185 y186 y187 y188 y189 y190 y191) 0 0] (by kernel_rfl) (find [(0,.ptr 0 0),(1,.ptr 1 0),(11,aU x127),(12,aU y138)] rfl (by kernel_rfl) (by kernel_rfl) (dn [(0,.ptr 0 0),(1,.ptr 1 0),(11,aU x127),(zp94 y138)] ?_)))
       exact ⟨_,_,ZC [(0,.ptr 0 0),(1,.ptr 1 0),(11,aU x127),(zp94 y138)] [.box (zc12 y181 y182 y183) false,.box [aI a1,aI a2,.pv (zw a3),.pv (zw a4),.pv (zw a5),.pv (zw a6),aR 2 9 ((y137++([(zo.mk (IntKind.wrap .i64 x180) (zm.mk y184 y185 y186 (zl.mk y187 y188 y189 y190) (some y191)))]:List zo)).length),.pv .nils,.pv .nils] false,bR 101 9 zi (anm y137 x180 y184 y185 y186 y187 y188 y189 y190 y191) 0 0] (by kernel_rfl),.inr (⟨y181,y182,y183,(anm y137 x180 y184 y185 y186 y187 y188 y189 y190 y191),(ad6 y138),hm,rfl,rfl⟩)⟩
    refine rg (s1 1 [(19,.ptr 0 0)] ?_)
    obtain ⟨x211,h198,hm⟩:=bs hm
    rcases x211 with ⟨x199,x200,x201,x202,x203,x204,x205,x206,x207,x208,_ | x209,x210⟩
    ·
     obtain ⟨vv,H1,hC,rfl,rfl⟩:=Qu h198
     refine dR [(20,.tup [.agg (zc20 x202 x203 x204 x205 x206 x207 x208),aI x210])] [.box (zc12 x199 x200 x201) false,.box (zc24 a1 a2 a3 a4 a5 a6 y137) false,bR 101 9 zi y137 0 0,.box (zc28 x180) false] [0] [.ptr 0 0] (by kernel_rfl) (by kernel_rfl) (by kernel_rfl) hC (by kernel_rfl) (stf 6 [(0,.ptr 0 0),(1,.ptr 1 0),(5,.ptr 3 0),(6,.ptr 4 0),(7,aI x210),(11,aU x127),(12,aU y138)] [.box (zc12 x199 x200 x201) false,.box (zc24 a1 a2 a3 a4 a5 a6 y137) false,bR 101 9 zi y137 0 0,.box (zc28 x180) false,.box (zc20 x202 x203 x204 x205 x206 x207 x208) false] (by kernel_rfl) ?_)
     exact .inl ⟨x199,x200,x201,x202,x203,x204,x205,x206,x207,x208,x210,hm,rfl,rfl⟩
    ·
     obtain ⟨vv,H1,hC,rfl,rfl⟩:=Qu h198
     refine dR [(20,.tup [.agg (zc21 x202 x203 x204 x205 x206 x207 x208 x209),aI x210])] [.box (zc12 x199 x200 x201) false,.box (zc24 a1 a2 a3 a4 a5 a6 y137) false,bR 101 9 zi y137 0 0,.box (zc28 x180) false,bR 49 8 za x209 0 0] [0] [.ptr 0 0] (by kernel_rfl) (by kernel_rfl) (by kernel_rfl) hC (by kernel_rfl) (stf 6 [(0,.ptr 0 0),(1,.ptr 1 0),(5,.ptr 3 0),(6,.ptr 5 0),(7,aI x210),(11,aU x127),(12,aU y138)] [.box (zc12 x199 x200 x201) false,.box (zc24 a1 a2 a3 a4 a5 a6 y137) false,bR 101 9 zi y137 0 0,.box (zc28 x180) false,bR 49 8 za x209 0 0,.box (zc21 x202 x203 x204 x205 x206 x207 x208 x209) false] (by kernel_rfl) ?_)
     exact .inr (⟨x199,x200,x201,x202,x203,x204,x205,x206,x207,x208,x209,x210,hm,rfl,rfl⟩)
   ·
    refine c0 h176 (wp_exit ?_)
    exact .inr (⟨y134,y135,y136,y137,aU x127,aU y138,aB (decide (y138 < x127)),hm,(zT (by kernel_rfl)),rfl⟩)
end Go.Ab.S1
