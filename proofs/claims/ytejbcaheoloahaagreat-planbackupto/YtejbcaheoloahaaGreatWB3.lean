import Derived.Test.YtejbcaheoloahaaGreatWB2
noncomputable section
namespace Go.Ab.S1
open Go Go.Ab Go.Pl
open Go.Proofs.Tryz
set_option linter.unusedVariables false
set_option linter.unusedSimpArgs false
set_option maxHeartbeats 4000000
set_option maxRecDepth 100000
abbrev zc33:List AV:=[aI 0,aI 0,.pv .nils,.pv .nils,.pv .nils,.pv .nils,.pv .nils,.pv .nils,.pv .nils]
abbrev zc34 (p0:Int):List AV:=[aI (IntKind.wrap .i64 p0),aI 0,.pv .nils,.pv .nils,.pv .nils,.pv .nils,.pv .nils,.pv .nils,.pv .nils]
abbrev zc35:List AV:=[aI ((zb.mk 0 0 none none none none none none none).fKind),aI ((zb.mk 0 0 none none none none none none none).fRel),.pv (zg za ((zb.mk 0 0 none none none none none none none).fWhere)),.pv (zg za ((zb.mk 0 0 none none none none none none none).fLeft)),.pv (zg za ((zb.mk 0 0 none none none none none none none).fRight)),.pv (zg za ((zb.mk 0 0 none none none none none none none).fOut)),.pv (zg zi ((zb.mk 0 0 none none none none none none none).fAggs)),.pv (zg zj ((zb.mk 0 0 none none none none none none none).fOrder)),.pv (zg zd ((zb.mk 0 0 none none none none none none none).fKids))]
abbrev zc36 (p0:Int) (p1:Int) (p2:(Option (List zc))) (p3:(Option (List zc))) (p4:(Option (List zc))) (p5:(Option (List zc))):List AV:=[aI (IntKind.wrap .i64 p0),aI (IntKind.wrap .i64 p1),.pv (zg za p2),.pv (zg za p3),.pv (zg za p4),.pv (zg za p5),.pv .nils,.pv .nils,.pv .nils]
abbrev zc37:List AV:=[.ptr 2 2,.ptr 2 3,.ptr 2 4,.ptr 2 5]
abbrev zc38 (p0:Int) (p1:Int) (p2:(Option (List zc))) (p3:(Option (List zc))) (p4:(Option (List zc))) (p5:(Option (List zc))) (p6:(List zu)):List AV:=[aI (IntKind.wrap .i64 p0),aI (IntKind.wrap .i64 p1),.pv (zg za p2),.pv (zg za p3),.pv (zg za p4),.pv (zg za p5),.pv .nils,aR 4 2 p6.length,.pv .nils]
abbrev zc39 (p0:Int) (p1:Int) (p2:(Option (List zc))) (p3:(Option (List zc))) (p4:(Option (List zc))) (p5:(Option (List zc))) (p6:(List zo)):List AV:=[aI (IntKind.wrap .i64 p0),aI (IntKind.wrap .i64 p1),.pv (zg za p2),.pv (zg za p3),.pv (zg za p4),.pv (zg za p5),aR 4 9 p6.length,.pv .nils,.pv .nils]
abbrev zc40 (p0:Int) (p1:Int) (p2:(Option (List zc))) (p3:(Option (List zc))) (p4:(Option (List zc))) (p5:(Option (List zc))) (p6:(List zo)) (p7:(List zu)):List AV:=[aI (IntKind.wrap .i64 p0),aI (IntKind.wrap .i64 p1),.pv (zg za p2),.pv (zg za p3),.pv (zg za p4),.pv (zg za p5),aR 4 9 p6.length,aR 5 2 p7.length,.pv .nils]
abbrev zc41 (p0:Int) (p1:Int) (p2:(Option (List zc))) (p3:(Option (List zc))) (p4:(Option (List zc))) (p5:(Option (List zc))) (p6:Nat):List AV:=[aI (IntKind.wrap .i64 p0),aI (IntKind.wrap .i64 p1),.pv (zg za p2),.pv (zg za p3),.pv (zg za p4),.pv (zg za p5),.pv .nils,.pv .nils,aR 4 9 p6]
abbrev zc42 (p0:Int) (p1:Int) (p2:(Option (List zc))) (p3:(Option (List zc))) (p4:(Option (List zc))) (p5:(Option (List zc))) (p6:(Option (List zo))) (p7:(Option (List zu))) (p8:(Option (List zn))):List AV:=[aI p0,aI p1,.pv (zg za p2),.pv (zg za p3),.pv (zg za p4),.pv (zg za p5),.pv (zg zi p6),.pv (zg zj p7),.pv (zg zd p8)]
abbrev zc43 (p0:Int) (p1:Int) (p2:(Option (List zc))) (p3:(Option (List zc))) (p4:(Option (List zc))) (p5:(Option (List zc))) (p6:(List zu)) (p7:Nat):List AV:=[aI (IntKind.wrap .i64 p0),aI (IntKind.wrap .i64 p1),.pv (zg za p2),.pv (zg za p3),.pv (zg za p4),.pv (zg za p5),.pv .nils,aR 4 2 p6.length,aR 5 9 p7]
abbrev zc44 (p0:Int) (p1:Int) (p2:(Option (List zc))) (p3:(Option (List zc))) (p4:(Option (List zc))) (p5:(Option (List zc))) (p6:(List zo)) (p7:Nat):List AV:=[aI (IntKind.wrap .i64 p0),aI (IntKind.wrap .i64 p1),.pv (zg za p2),.pv (zg za p3),.pv (zg za p4),.pv (zg za p5),aR 4 9 p6.length,.pv .nils,aR 5 9 p7]
abbrev zc45 (p0:Int) (p1:Int) (p2:(Option (List zc))) (p3:(Option (List zc))) (p4:(Option (List zc))) (p5:(Option (List zc))) (p6:(List zo)) (p7:(List zu)) (p8:Nat):List AV:=[aI (IntKind.wrap .i64 p0),aI (IntKind.wrap .i64 p1),.pv (zg za p2),.pv (zg za p3),.pv (zg za p4),.pv (zg za p5),aR 4 9 p6.length,aR 5 2 p7.length,aR 6 9 p8]
abbrev zp95 (p0:Int):Nat × AV:=(75,aI (IntKind.wrap .i64 (p0+1)))
abbrev zp96 (p0:Int):Nat × AV:=(70,aI (IntKind.wrap .i64 (p0+1)))
abbrev zp97:Nat × AV:=(88,aR 7 9 (([(zr (zb.mk 0 0 none none none none none none none))]:List zn).length))
abbrev zp98 (p0:(Option (List zc))):Nat × AV:=(11,.pv (zg za p0))
abbrev zg173 (p0:Int) (p1:Int) (p2:(Option (List zc))) (p3:(Option (List zc))) (p4:(Option (List zc))) (p5:(Option (List zc))) (p6:(Option (List zo))) (p7:(Option (List zu))) (p8:(Option (List zn))):=(zc42 p0 p1 p2 p3 p4 p5 p6 p7 p8)
abbrev Zr:=([(zr (zb.mk 0 0 none none none none none none none))]:List zn)
abbrev QM:=(([(zr (zb.mk 0 0 none none none none none none none))]:List zn).length)
abbrev ahJ:=(([(zr (zb.mk 0 0 none none none none none none none))]:List zn).map zd)
abbrev acf (p0:Int) (p1:Int) (p2:(Option (List zc))) (p3:(Option (List zc))) (p4:(Option (List zc))) (p5:(Option (List zc))) (p6:(Option (List zo))) (p7:(Option (List zu))) (p8:(Option (List zn))):=(([(zr (zb.mk 0 0 none none none none none none none))]:List zn).set (Int.toNat 0) (zr (zb.mk p0 p1 p2 p3 p4 p5 p6 p7 p8)))
abbrev Qy (p0:(List zn)):=((p0++([(zr (zb.mk 0 0 none none none none none none none))]:List zn)).length)
abbrev Qz (p0:(List zn)):=(p0++([(zr (zb.mk 0 0 none none none none none none none))]:List zn))
abbrev ace (p0:(List zn)) (p1:Int) (p2:Int) (p3:(Option (List zc))) (p4:(Option (List zc))) (p5:(Option (List zc))) (p6:(Option (List zc))) (p7:(Option (List zo))) (p8:(Option (List zu))) (p9:(Option (List zn))):=((p0++([(zr (zb.mk 0 0 none none none none none none none))]:List zn)).set (Int.toNat (p0.length:Int)) (zr (zb.mk p1 p2 p3 p4 p5 p6 p7 p8 p9)))
abbrev Zf (p0:Int) (p1:Int) (p2:(Option (List zc))) (p3:(Option (List zc))) (p4:(Option (List zc))) (p5:(Option (List zc))) (p6:(Option (List zo))) (p7:(Option (List zu))) (p8:(Option (List zn))):=(zg173 p0 p1 p2 p3 p4 p5 p6 p7 p8)
theorem aju {rc_plan_take:(Nat→zf→Int→Option (Bool × (Option (List Int)) × Int × Int × Int × (Option (List zc)) × (Option (List zc)) × (Option (List zc)) × (Option (List zc)) × (Option (List zo)) × (Option (List zu)) × (Option (List zn)) × Int))} (ih_plan_take:∀ {n:Nat} {a0:zf} {a1:Int} {r:Bool × (Option (List Int)) × Int × Int × Int × (Option (List zc)) × (Option (List zc)) × (Option (List zc)) × (Option (List zc)) × (Option (List zo)) × (Option (List zu)) × (Option (List zn)) × Int} (hm:rc_plan_take n a0 a1=some r),∃ vv H1,call G n 133 [.ptr 0 0,aI a1] [.box [aB a0.fmade,.pv (zg (rI .u8) a0.fb),aI a0.fe] false]=some (.ret vv,H1)∧(match (generalizing:=false) r with | (r0,r1,r2,r3,r4,r5,r6,r7,r8,r9,r10,r11,r12)=>(vv=.tup [.agg [aI r3,aI r4,.pv (zg za r5),.pv (zg za r6),.pv (zg za r7),.pv (zg za r8),.pv (zg zi r9),.pv (zg zj r10),.pv (zg zd r11)],aI r12]∧H1=[.box [aB r0,.pv (zg (rI .u8) r1),aI r2] false]))) {n:Nat} {a0:zf} {a1:Int} {r:Bool × (Option (List Int)) × Int × Int × Int × (Option (List zc)) × (Option (List zc)) × (Option (List zc)) × (Option (List zc)) × (Option (List zo)) × (Option (List zu)) × (Option (List zn)) × Int} (hm:abR rc_plan_take n a0 a1=some r):
    ∃ vv H1,call G n 133 [.ptr 0 0,aI a1] [.box (zc10 a0) false]=some (.ret vv,H1)∧(match (generalizing:=false) r with | (r0,r1,r2,r3,r4,r5,r6,r7,r8,r9,r10,r11,r12)=>(vv=.tup [.agg [aI r3,aI r4,.pv (zg za r5),.pv (zg za r6),.pv (zg za r7),.pv (zg za r8),.pv (zg zi r9),.pv (zg zj r10),.pv (zg zd r11)],aI r12]∧H1=[.box [aB r0,.pv (zg (rI .u8) r1),aI r2] false])):=by
  unfold abR at hm
  obtain ⟨n,rfl,h0⟩:=zy hm
  replace hm:=h0; clear h0
  refine QA 93 [(0,.ptr 0 0),(1,aI a1)] func133 rfl (by kernel_rfl) (sq (det [(0,.ptr 0 0),(1,aI a1),(4,.ptr 1 0)] [.box (zc10 a0) false,.box zc33 false] (by kernel_rfl) (sq (rg (s1 1 [(16,.ptr 0 0)] ?_)))))
  obtain ⟨⟨x2,x3,x4⟩,h1,hm⟩:=bs hm
  obtain ⟨vv,H1,hC,rfl,rfl⟩:=Zs h1
  refine dR [(17,aY x4)] [.box (zc11 a0 x2 x3) false,.box zc33 false] [0] [.ptr 0 0] (by kernel_rfl) (by kernel_rfl) (by kernel_rfl) hC (by kernel_rfl) (stf 4 [(0,.ptr 0 0),(1,aI a1),(4,.ptr 1 0),(6,.ptr 2 0)] [.box (zc11 a0 x2 x3) false,.box zc33 false,.box (zc34 x4) false] (by kernel_rfl) ?_)
  refine sq (sq (rg (s1 1 [(20,.ptr 0 0)] ?_)))
  obtain ⟨x6,h5,hm⟩:=bs hm
  obtain ⟨vv,H1,hC,rfl,rfl⟩:=zX h5
  refine dR [(21,aI x6)] [.box (zc11 a0 x2 x3) false,.box zc33 false,.box (zc34 x4) false] [0] [.ptr 0 0] (by kernel_rfl) (by kernel_rfl) (by kernel_rfl) hC (by kernel_rfl) (fq 1 [(0,.ptr 0 0),(1,aI a1),(4,.ptr 1 0),(6,.ptr 2 0),(7,aI x6)] (sq (dn [(0,.ptr 0 0),(1,aI a1),(4,.ptr 1 0),(6,.ptr 2 0),(7,aI x6),(23,aB (x6 != 0))] ?_)))
  rcases zh hm with ⟨h7,hm⟩ | ⟨h7,hm⟩
  ·
   refine c1 h7 (sq (dn [(4,.ptr 1 0),(5,aI x6)] (wp_ret ?_)))
   obtain rfl:=Option.some.inj hm
   exact ⟨trivial,.tup [.agg zc35,aI x6],[.box (zc11 a0 x2 x3) false],Zo (x:=.tup [.agg zc33,aI x6]) (x':=.tup [.agg zc33,aI x6]) [] (by kernel_rfl) (by kernel_rfl) (by kernel_rfl) (by kernel_rfl) rfl (by kernel_rfl),rfl,rfl⟩
  ·
   refine c0 h7 (wp_skip (sq (rg (s1 2 [(27,aI (zS x4)),(26,.ptr 2 0)] ?_))))
   obtain ⟨x8,h9,hm⟩:=bs hm
   refine dv 28 (Zh (by kernel_rfl) (agT h9) (by kernel_rfl) (by kernel_rfl) (by kernel_rfl)) (by kernel_rfl) (fq 1 [(0,.ptr 0 0),(1,aI a1),(4,.ptr 1 0),(6,.ptr 2 0),(8,aI x8)] ?_)
   refine sq (sq (rg (s1 3 [(31,aB (decide (x8 < 0))),(30,aB (decide (x8 < 0))),(29,aI x8)] ?_)))
   refine segP (decide (x8 < 0)) [31,30] (fun b=>[(34,aB (b || (decide (a1 > 24)))),(33,ifA b (.undef) (aB (decide (a1 > 24)))),(32,ifA b (.undef) (aI a1))]) 3 (by kernel_rfl) (by kernel_rfl) (by kernel_rfl) (fin [(0,.ptr 0 0),(1,aI a1),(4,.ptr 1 0),(6,.ptr 2 0),(8,aI x8),(34,aB ((decide (x8 < 0)) || (decide (a1 > 24))))] rfl (by kernel_rfl) ?_)
   rcases zh hm with ⟨h10,hm⟩ | ⟨h10,hm⟩
   ·
    refine c1 h10 (sq (dn [(4,.ptr 1 0),(5,aI 22)] (wp_ret ?_)))
    obtain rfl:=Option.some.inj hm
    exact ⟨trivial,.tup [.agg zc35,aI 22],[.box (zc11 a0 x2 x3) false],Zo (x:=.tup [.agg zc33,aI 22]) (x':=.tup [.agg zc33,aI 22]) [] (by kernel_rfl) (by kernel_rfl) (by kernel_rfl) (by kernel_rfl) rfl (by kernel_rfl),rfl,rfl⟩
   ·
    refine c0 h10 (wp_skip (sq (rg (s1 1 [(36,.ptr 0 0)] ?_))))
    obtain ⟨⟨x12,x13,x14,x15⟩,h11,hm⟩:=bs hm
    obtain ⟨vv,H1,hC,rfl,rfl⟩:=zY h11
    refine dR [(37,aU x15)] [.box (zc12 x12 x13 x14) false,.box zc33 false,.box (zc34 x4) false] [0] [.ptr 0 0,aU 12] (by kernel_rfl) (by kernel_rfl) (by kernel_rfl) hC (by kernel_rfl) (stf 3 [(0,.ptr 0 0),(1,aI a1),(4,.ptr 1 0),(6,.ptr 2 0),(8,aI x8)] [.box (zc12 x12 x13 x14) false,.box zc33 false,.box [aI (zS x4),aI (zS x15),.pv .nils,.pv .nils,.pv .nils,.pv .nils,.pv .nils,.pv .nils,.pv .nils] false] (by kernel_rfl) ?_)
    obtain ⟨k23,hk23,hm⟩:=zx hm
    refine mid (fun t H=>(∃ (y16:Bool) (y17:(Option (List Int))) (y18:Int) (y19:akd) (y20:akd) (y21:akd) (y22:akd),k23 y16 y17 y18 y19 y20 y21 y22=some r∧t=mk 93 [(0,.ptr 0 0),(1,aI a1),(4,.ptr 1 0),(6,.ptr 2 0),(8,aI x8),(44,aR 3 1 4),(45,aI 4),(46,aI 4),(47,aB false)]∧H=[.box (zc12 y16 y17 y18) false,.box zc33 false,.box (zc36 x4 x15 y19 y20 y21 y22) false,.box zc37 false])) ?_ ?_
    ·
     rintro _ _ ⟨y16,y17,y18,y19,y20,y21,y22,hm,rfl,rfl⟩
     subst hk23
     obtain ⟨k31,hk31,hm⟩:=zx hm
     refine mid (fun t H=>(∃ (y26:Bool) (y27:(Option (List Int))) (y28:Int) (w24:AV) (w25:AV),k31 y26 y27 y28 none none=some r∧t=mk 93 [(0,.ptr 0 0),(1,aI a1),(4,.ptr 1 0),(6,.ptr 2 0),(8,aI x8),(13,w24),(66,w25)]∧H=[.box (zc12 y26 y27 y28) false,.box zc33 false,.box (zc36 x4 x15 y19 y20 y21 y22) false,.box zc37 false])∨(∃ (y26:Bool) (y27:(Option (List Int))) (y28:Int) (y30:(List zu)) (w24:AV) (w25:AV),k31 y26 y27 y28 none (some y30)=some r∧t=mk 93 [(0,.ptr 0 0),(1,aI a1),(4,.ptr 1 0),(6,.ptr 2 0),(8,aI x8),(13,w24),(66,w25)]∧H=[.box (zc12 y26 y27 y28) false,.box zc33 false,.box (zc38 x4 x15 y19 y20 y21 y22 y30) false,.box zc37 false,bR 86 2 zj y30 0 0])∨(∃ (y26:Bool) (y27:(Option (List Int))) (y28:Int) (y29:(List zo)) (w24:AV) (w25:AV),k31 y26 y27 y28 (some y29) none=some r∧t=mk 93 [(0,.ptr 0 0),(1,aI a1),(4,.ptr 1 0),(6,.ptr 2 0),(8,aI x8),(13,w24),(66,w25)]∧H=[.box (zc12 y26 y27 y28) false,.box zc33 false,.box (zc39 x4 x15 y19 y20 y21 y22 y29) false,.box zc37 false,bR 101 9 zi y29 0 0])∨(∃ (y26:Bool) (y27:(Option (List Int))) (y28:Int) (y29:(List zo)) (y30:(List zu)) (w24:AV) (w25:AV),k31 y26 y27 y28 (some y29) (some y30)=some r∧t=mk 93 [(0,.ptr 0 0),(1,aI a1),(4,.ptr 1 0),(6,.ptr 2 0),(8,aI x8),(13,w24),(66,w25)]∧H=[.box (zc12 y26 y27 y28) false,.box zc33 false,.box (zc40 x4 x15 y19 y20 y21 y22 y29 y30) false,.box zc37 false,bR 101 9 zi y29 0 0,bR 86 2 zj y30 0 0])) ?_ ?_
     ·
      rintro _ _ (⟨y26,y27,y28,w24,w25,hm,rfl,rfl⟩ | ⟨y26,y27,y28,y30,w24,w25,hm,rfl,rfl⟩ | ⟨y26,y27,y28,y29,w24,w25,hm,rfl,rfl⟩ | ⟨y26,y27,y28,y29,y30,w24,w25,hm,rfl,rfl⟩)
      ·
       subst hk31
       obtain ⟨k42,hk42,hm⟩:=zx hm
       refine mid (fun t H=>(∃ (y34:Bool) (y35:(Option (List Int))) (y36:Int) (w32:AV) (w33:AV),k42 y34 y35 y36 none=some r∧t=mk 93 [(0,.ptr 0 0),(1,aI a1),(4,.ptr 1 0),(6,.ptr 2 0),(69,aI x8),(70,w32),(71,w33)]∧H=[.box (zc12 y34 y35 y36) false,.box zc33 false,.box (zc36 x4 x15 y19 y20 y21 y22) false,.box zc37 false])∨(∃ (y34:Bool) (y35:(Option (List Int))) (y36:Int) (y37:(List zn)) (w32:AV) (w33:AV) (g38:Nat) (g40:Nat),k42 y34 y35 y36 (some y37)=some r∧t=mk 93 [(0,.ptr 0 0),(1,aI a1),(4,.ptr 1 0),(6,.ptr 2 0),(69,aI x8),(70,w32),(71,w33)]∧H=[.box (zc12 y34 y35 y36) false,.box zc33 false,.box (zc41 x4 x15 y19 y20 y21 y22 g38) false,.box zc37 false,bR 66 9 zd y37 g40 0]∧y37.length=g38∧g40≤y37.length)) ?_ ?_
       ·
        rintro _ _ (⟨y34,y35,y36,w32,w33,hm,rfl,rfl⟩ | ⟨y34,y35,y36,y37,w32,w33,g38,g40,hm,rfl,rfl,q39,q41⟩)
        ·
         subst hk42
         refine sq (det [(4,.ptr 1 0),(5,aI 0)] [.box (zc12 y34 y35 y36) false,.box (zc36 x4 x15 y19 y20 y21 y22) false,.box (zc36 x4 x15 y19 y20 y21 y22) false,.box zc37 false] (by kernel_rfl) (wp_ret ?_))
         obtain rfl:=Option.some.inj hm
         exact ⟨trivial,.tup [.agg [aI ((zb.mk (IntKind.wrap .i64 x4) (IntKind.wrap .i64 x15) y19 y20 y21 y22 none none none).fKind),aI ((zb.mk (IntKind.wrap .i64 x4) (IntKind.wrap .i64 x15) y19 y20 y21 y22 none none none).fRel),.pv (zg za ((zb.mk (IntKind.wrap .i64 x4) (IntKind.wrap .i64 x15) y19 y20 y21 y22 none none none).fWhere)),.pv (zg za ((zb.mk (IntKind.wrap .i64 x4) (IntKind.wrap .i64 x15) y19 y20 y21 y22 none none none).fLeft)),.pv (zg za ((zb.mk (IntKind.wrap .i64 x4) (IntKind.wrap .i64 x15) y19 y20 y21 y22 none none none).fRight)),.pv (zg za ((zb.mk (IntKind.wrap .i64 x4) (IntKind.wrap .i64 x15) y19 y20 y21 y22 none none none).fOut)),.pv (zg zi ((zb.mk (IntKind.wrap .i64 x4) (IntKind.wrap .i64 x15) y19 y20 y21 y22 none none none).fAggs)),.pv (zg zj ((zb.mk (IntKind.wrap .i64 x4) (IntKind.wrap .i64 x15) y19 y20 y21 y22 none none none).fOrder)),.pv (zg zd ((zb.mk (IntKind.wrap .i64 x4) (IntKind.wrap .i64 x15) y19 y20 y21 y22 none none none).fKids))],aI 0],[.box (zc12 y34 y35 y36) false],Zo (x:=.tup [.agg (zc36 x4 x15 y19 y20 y21 y22),aI 0]) (x':=.tup [.agg (zc36 x4 x15 y19 y20 y21 y22),aI 0]) [] (by kernel_rfl) (by kernel_rfl) (by kernel_rfl) (by kernel_rfl) rfl (by kernel_rfl),rfl,rfl⟩
        ·
         subst hk42
         refine sq (det [(4,.ptr 1 0),(5,aI 0)] [.box (zc12 y34 y35 y36) false,.box (zc41 x4 x15 y19 y20 y21 y22 g38) false,.box (zc41 x4 x15 y19 y20 y21 y22 g38) false,.box zc37 false,bR 66 9 zd y37 g40 0] (by kernel_rfl) (wp_ret ?_))
         obtain rfl:=Option.some.inj hm
         exact ⟨trivial,.tup [.agg [aI ((zb.mk (IntKind.wrap .i64 x4) (IntKind.wrap .i64 x15) y19 y20 y21 y22 none none (some y37)).fKind),aI ((zb.mk (IntKind.wrap .i64 x4) (IntKind.wrap .i64 x15) y19 y20 y21 y22 none none (some y37)).fRel),.pv (zg za ((zb.mk (IntKind.wrap .i64 x4) (IntKind.wrap .i64 x15) y19 y20 y21 y22 none none (some y37)).fWhere)),.pv (zg za ((zb.mk (IntKind.wrap .i64 x4) (IntKind.wrap .i64 x15) y19 y20 y21 y22 none none (some y37)).fLeft)),.pv (zg za ((zb.mk (IntKind.wrap .i64 x4) (IntKind.wrap .i64 x15) y19 y20 y21 y22 none none (some y37)).fRight)),.pv (zg za ((zb.mk (IntKind.wrap .i64 x4) (IntKind.wrap .i64 x15) y19 y20 y21 y22 none none (some y37)).fOut)),.pv (zg zi ((zb.mk (IntKind.wrap .i64 x4) (IntKind.wrap .i64 x15) y19 y20 y21 y22 none none (some y37)).fAggs)),.pv (zg zj ((zb.mk (IntKind.wrap .i64 x4) (IntKind.wrap .i64 x15) y19 y20 y21 y22 none none (some y37)).fOrder)),.pv (zg zd ((zb.mk (IntKind.wrap .i64 x4) (IntKind.wrap .i64 x15) y19 y20 y21 y22 none none (some y37)).fKids))],aI 0],[.box (zc12 y34 y35 y36) false],Zo (x:=.tup [.agg (zc41 x4 x15 y19 y20 y21 y22 g38),aI 0]) [4] (by kernel_rfl) (by kernel_rfl) (by kernel_rfl) (aeL (ZZ (afO (zt (zC) (zt (zC) (zt (zC) (zt (zC) (zt (zC) (zt (zC) (zt (zC) (zt (zC) (zt (qe (n:=g38) (id:=4) (l:=y37) (R:=zd) rfl (by omega) (by omega)) (rfl))))))))))) (ZZ (ahz) (rfl)))) rfl (by kernel_rfl),rfl,rfl⟩
       refine sq (dn [(0,.ptr 0 0),(1,aI a1),(4,.ptr 1 0),(6,.ptr 2 0),(69,aI x8),(70,aI 0)] (bq ?_))
       refine qq (fun mm t H=>(∃ (y56:Bool) (y57:(Option (List Int))) (y58:Int) (y60:Int),qd n rc_plan_take a1 x8 k42 mm y56 y57 y58 none y60=some r∧t=mk 93 [(0,.ptr 0 0),(1,aI a1),(4,.ptr 1 0),(6,.ptr 2 0),(69,aI x8),(70,aI y60)]∧H=[.box (zc12 y56 y57 y58) false,.box zc33 false,.box (zc36 x4 x15 y19 y20 y21 y22) false,.box zc37 false])∨(∃ (y56:Bool) (y57:(Option (List Int))) (y58:Int) (y59:(List zn)) (y60:Int) (g61:Nat) (g63:Nat),qd n rc_plan_take a1 x8 k42 mm y56 y57 y58 (some y59) y60=some r∧t=mk 93 [(0,.ptr 0 0),(1,aI a1),(4,.ptr 1 0),(6,.ptr 2 0),(69,aI x8),(70,aI y60)]∧H=[.box (zc12 y56 y57 y58) false,.box zc33 false,.box (zc41 x4 x15 y19 y20 y21 y22 g61) false,.box zc37 false,bR 66 9 zd y59 g63 0]∧y59.length=g61∧g63≤y59.length)) (.inl ⟨y26,y27,y28,0,hm,rfl,rfl⟩) ?_ ?_
       · rintro _ _ (⟨y56,y57,y58,y60,hm,_⟩ | ⟨y56,y57,y58,y59,y60,g61,g63,hm,_⟩) <;> exact nomatch hm
       rintro m65 _ _ (⟨y56,y57,y58,y60,hm,rfl,rfl⟩ | ⟨y56,y57,y58,y59,y60,g61,g63,hm,rfl,rfl,q62,q64⟩)
       ·
        simp only [qd] at hm
        refine sq (dn [(0,.ptr 0 0),(1,aI a1),(4,.ptr 1 0),(6,.ptr 2 0),(69,aI x8),(70,aI y60),(71,aB (decide (y60 < x8)))] ?_)
        refine sq ?_
        rcases zh hm with ⟨h66,hm⟩ | ⟨h66,hm⟩
        ·
         refine c1 h66 (wp_skip (sq (bq (sq (rg (s1 3 [(zp95 a1),(74,aI a1),(73,.ptr 0 0)] ?_))))))
         obtain ⟨⟨x68,x69,x70,x71,x72,x73,x74,x75,x76,x77,x78,x79,x80⟩,h67,hm⟩:=bs hm
         obtain ⟨vv,H1,hC,rfl,rfl⟩:=ih_plan_take h67
         refine dR [(76,.tup [.agg (Zf x71 x72 x73 x74 x75 x76 x77 x78 x79),aI x80])] [.box (zc12 x68 x69 x70) false,.box zc33 false,.box (zc36 x4 x15 y19 y20 y21 y22) false,.box zc37 false] [0] [.ptr 0 0,aI (zU a1)] (by kernel_rfl) (by kernel_rfl) (by kernel_rfl) hC (by kernel_rfl) (stf 6 [(0,.ptr 0 0),(1,aI a1),(4,.ptr 1 0),(6,.ptr 2 0),(14,.ptr 4 0),(15,aI x80),(69,aI x8),(70,aI y60)] [.box (zc12 x68 x69 x70) false,.box zc33 false,.box (zc36 x4 x15 y19 y20 y21 y22) false,.box zc37 false,.box (Zf x71 x72 x73 x74 x75 x76 x77 x78 x79) false] (by kernel_rfl) ?_)
         refine sq (sq (dn [(0,.ptr 0 0),(1,aI a1),(4,.ptr 1 0),(6,.ptr 2 0),(14,.ptr 4 0),(15,aI x80),(69,aI x8),(70,aI y60),(80,aB (x80 != 0))] ?_))
         rcases zh hm with ⟨h81,hm⟩ | ⟨h81,hm⟩
         ·
          refine c1 h81 (sq (dn [(4,.ptr 1 0),(5,aI x80)] (wp_ret ?_)))
          obtain rfl:=Option.some.inj hm
          exact ⟨trivial,.tup [.agg zc35,aI x80],[.box (zc12 x68 x69 x70) false],Zo (x:=.tup [.agg zc33,aI x80]) (x':=.tup [.agg zc33,aI x80]) [] (by kernel_rfl) (by kernel_rfl) (by kernel_rfl) (by kernel_rfl) rfl (by kernel_rfl),rfl,rfl⟩
         ·
          refine c0 h81 (wp_skip (rgd (std 5 [(87,aR 5 9 1),(86,aI 0),(85,.agg (Zf x71 x72 x73 x74 x75 x76 x77 x78 x79)),(84,.pv .nils),(83,.ptr 2 8)] [.box (zc12 x68 x69 x70) false,.box zc33 false,.box (zc36 x4 x15 y19 y20 y21 y22) false,.box zc37 false,.box (Zf x71 x72 x73 x74 x75 x76 x77 x78 x79) false,bR 66 9 zd Zr 0 0] (by kernel_rfl) ?_)))
          obtain ⟨_,h82,hm⟩:=bs hm
          refine dOd [(88,aR 6 9 QM)] [.box (zc12 x68 x69 x70) false,.box zc33 false,.box (zc36 x4 x15 y19 y20 y21 y22) false,.box zc37 false,.box (Zf x71 x72 x73 x74 x75 x76 x77 x78 x79) false,bR 66 9 zd Zr 0 0,bR 66 9 zd Zr 0 0] (QG (u:=0) zd Zr (b:=184) t64 t66 rfl rfl rfl qN rfl h82 (show zP (aR 5 9 1) _=some ahJ from by kernel_rfl) (by kernel_rfl)) (by kernel_rfl) ?_
          obtain ⟨x83,h84,hm⟩:=bs hm
          refine dvd 89 (v:=.eptr 6 0 QM 9 (0+Int.toNat 0) 0) (abq Zr .i64 (n:=Zr.length) (id:=6) (esz:=9) t64 t66 h84 rfl rfl (by kernel_rfl)) (by kernel_rfl) (dOd [] [.box (zc12 x68 x69 x70) false,.box zc33 false,.box (zc36 x4 x15 y19 y20 y21 y22) false,.box zc37 false,.box (Zf x71 x72 x73 x74 x75 x76 x77 x78 x79) false,bR 66 9 zd Zr 0 0,bR 66 9 zd (acf x71 x72 x73 x74 x75 x76 x77 x78 x79) QM 0] (abW zd Zr (zr (zb.mk x71 x72 x73 x74 x75 x76 x77 x78 x79)) (n:=Zr.length) (esz:=9) (v:=.agg (Zf x71 x72 x73 x74 x75 x76 x77 x78 x79)) (j:=0) (off:=0) (id:=6) t66 rfl h84 rfl (Nat.zero_le _) rfl rfl rfl (Zg x83) rfl (by kernel_rfl)) (by kernel_rfl) (std 2 [(90,.ptr 2 8)] [.box (zc12 x68 x69 x70) false,.box zc33 false,.box [aI (zS x4),aI (zS x15),.pv (zw y19),.pv (zw y20),.pv (zw y21),.pv (zw y22),.pv .nils,.pv .nils,aR 6 9 QM] false,.box zc37 false,.box (Zf x71 x72 x73 x74 x75 x76 x77 x78 x79) false,bR 66 9 zd Zr 0 0,bR 66 9 zd (acf x71 x72 x73 x74 x75 x76 x77 x78 x79) QM 0] (by kernel_rfl) (find [(0,.ptr 0 0),(1,aI a1),(4,.ptr 1 0),(6,.ptr 2 0),(69,aI x8),(70,aI y60)] rfl (by kernel_rfl) (by kernel_rfl) (dn [(0,.ptr 0 0),(1,aI a1),(4,.ptr 1 0),(6,.ptr 2 0),(69,aI x8),(zp96 y60)] ?_))))
          exact ⟨_,_,ZC [(0,.ptr 0 0),(1,aI a1),(4,.ptr 1 0),(6,.ptr 2 0),(69,aI x8),(zp96 y60)] [.box (zc12 x68 x69 x70) false,.box zc33 false,.box [aI (zS x4),aI (zS x15),.pv (zw y19),.pv (zw y20),.pv (zw y21),.pv (zw y22),.pv .nils,.pv .nils,aR 4 9 QM] false,.box zc37 false,bR 66 9 zd (acf x71 x72 x73 x74 x75 x76 x77 x78 x79) QM 0] (by kernel_rfl),.inr (⟨x68,x69,x70,(acf x71 x72 x73 x74 x75 x76 x77 x78 x79),(zU y60),Zr.length,Zr.length,hm,rfl,rfl,(by first | rfl | assumption | omega | (simp only [List.length_set,List.length_append,List.length_cons,List.length_nil,List.length_replicate,List.length_drop] at * <;> omega)),(by first | exact Nat.zero_le _ | exact Nat.le_refl _ | assumption | omega | (simp only [List.length_set,List.length_append,List.length_cons,List.length_nil,List.length_replicate,List.length_drop] at * <;> omega))⟩)⟩
        ·
         refine c0 h66 (wp_exit ?_)
         exact .inl ⟨y56,y57,y58,aI y60,aB (decide (y60 < x8)),hm,(zT (by kernel_rfl)),rfl⟩
       ·
        simp only [qd] at hm
        refine sq (dn [(0,.ptr 0 0),(1,aI a1),(4,.ptr 1 0),(6,.ptr 2 0),(69,aI x8),(70,aI y60),(71,aB (decide (y60 < x8)))] ?_)
        refine sq ?_
        rcases zh hm with ⟨h85,hm⟩ | ⟨h85,hm⟩
        ·
         refine c1 h85 (wp_skip (sq (bq (sq (rg (s1 3 [(zp95 a1),(74,aI a1),(73,.ptr 0 0)] ?_))))))
         obtain ⟨⟨x87,x88,x89,x90,x91,x92,x93,x94,x95,x96,x97,x98,x99⟩,h86,hm⟩:=bs hm
         obtain ⟨vv,H1,hC,rfl,rfl⟩:=ih_plan_take h86
         refine dR [(76,.tup [.agg (Zf x90 x91 x92 x93 x94 x95 x96 x97 x98),aI x99])] [.box (zc12 x87 x88 x89) false,.box zc33 false,.box (zc41 x4 x15 y19 y20 y21 y22 g61) false,.box zc37 false,bR 66 9 zd y59 g63 0] [0] [.ptr 0 0,aI (zU a1)] (by kernel_rfl) (by kernel_rfl) (by kernel_rfl) hC (by kernel_rfl) (stf 6 [(0,.ptr 0 0),(1,aI a1),(4,.ptr 1 0),(6,.ptr 2 0),(14,.ptr 5 0),(15,aI x99),(69,aI x8),(70,aI y60)] [.box (zc12 x87 x88 x89) false,.box zc33 false,.box (zc41 x4 x15 y19 y20 y21 y22 g61) false,.box zc37 false,bR 66 9 zd y59 g63 0,.box (Zf x90 x91 x92 x93 x94 x95 x96 x97 x98) false] (by kernel_rfl) ?_)
         refine sq (sq (dn [(0,.ptr 0 0),(1,aI a1),(4,.ptr 1 0),(6,.ptr 2 0),(14,.ptr 5 0),(15,aI x99),(69,aI x8),(70,aI y60),(80,aB (x99 != 0))] ?_))
         rcases zh hm with ⟨h100,hm⟩ | ⟨h100,hm⟩
         ·
          refine c1 h100 (sq (dn [(4,.ptr 1 0),(5,aI x99)] (wp_ret ?_)))
          obtain rfl:=Option.some.inj hm
          exact ⟨trivial,.tup [.agg zc35,aI x99],[.box (zc12 x87 x88 x89) false],Zo (x:=.tup [.agg zc33,aI x99]) (x':=.tup [.agg zc33,aI x99]) [] (by kernel_rfl) (by kernel_rfl) (by kernel_rfl) (by kernel_rfl) rfl (by kernel_rfl),rfl,rfl⟩
         ·
          refine c0 h100 (wp_skip (rgd (shd 3 [(85,.agg (Zf x90 x91 x92 x93 x94 x95 x96 x97 x98)),(84,aR 4 9 g61),(83,.ptr 2 8)] (by kernel_rfl) (dvd 86 (v:=aI (y59.length:Int)) (agO y59 (n:=g61) (id:=4) (esz:=9) t64 (by omega) (by kernel_rfl)) (by kernel_rfl) (std 1 [(87,aR 6 9 1)] [.box (zc12 x87 x88 x89) false,.box zc33 false,.box (zc41 x4 x15 y19 y20 y21 y22 g61) false,.box zc37 false,bR 66 9 zd y59 g63 0,.box (Zf x90 x91 x92 x93 x94 x95 x96 x97 x98) false,bR 66 9 zd Zr 0 0] (by kernel_rfl) ?_)))))
          obtain ⟨_,h101,hm⟩:=bs hm
          refine dOd [(88,aR 4 9 (Qy y59))] [.box (zc12 x87 x88 x89) false,.box zc33 false,.box (zc41 x4 x15 y19 y20 y21 y22 g61) false,.box zc37 false,bR 66 9 zd (Qz y59) g63 0,.box (Zf x90 x91 x92 x93 x94 x95 x96 x97 x98) false,bR 66 9 zd Zr 0 0] (ZT (u:=0) (n:=g61) (id:=4) zd y59 Zr (b:=184) t64 t66 rfl rfl rfl qN rfl h101 rfl (by omega) (by omega) (show zP (aR 6 9 1) _=some ahJ from by kernel_rfl) (by kernel_rfl)) (by kernel_rfl) ?_
          obtain ⟨x102,h103,hm⟩:=bs hm
          refine dvd 89 (v:=.eptr 4 0 (Qy y59) 9 (0+Int.toNat (y59.length:Int)) 0) (abq (Qz y59) .i64 (n:=(Qz y59).length) (id:=4) (esz:=9) t64 t66 h103 rfl rfl (by kernel_rfl)) (by kernel_rfl) (dOd [] [.box (zc12 x87 x88 x89) false,.box zc33 false,.box (zc41 x4 x15 y19 y20 y21 y22 g61) false,.box zc37 false,bR 66 9 zd (ace y59 x90 x91 x92 x93 x94 x95 x96 x97 x98) (Qy y59) 0,.box (Zf x90 x91 x92 x93 x94 x95 x96 x97 x98) false,bR 66 9 zd Zr 0 0] (abW zd (Qz y59) (zr (zb.mk x90 x91 x92 x93 x94 x95 x96 x97 x98)) (n:=(Qz y59).length) (esz:=9) (v:=.agg (Zf x90 x91 x92 x93 x94 x95 x96 x97 x98)) (j:=(y59.length:Int)) (off:=0) (id:=4) t66 rfl h103 rfl (by first | exact Nat.zero_le _ | exact Nat.le_refl _ | assumption | omega | (simp only [List.length_set,List.length_append,List.length_cons,List.length_nil,List.length_replicate,List.length_drop] at * <;> omega)) rfl rfl rfl (Zg x102) rfl (by kernel_rfl)) (by kernel_rfl) (std 2 [(90,.ptr 2 8)] [.box (zc12 x87 x88 x89) false,.box zc33 false,.box [aI (zS x4),aI (zS x15),.pv (zw y19),.pv (zw y20),.pv (zw y21),.pv (zw y22),.pv .nils,.pv .nils,aR 4 9 (Qy y59)] false,.box zc37 false,bR 66 9 zd (ace y59 x90 x91 x92 x93 x94 x95 x96 x97 x98) (Qy y59) 0,.box (Zf x90 x91 x92 x93 x94 x95 x96 x97 x98) false,bR 66 9 zd Zr 0 0] (by kernel_rfl) (find [(0,.ptr 0 0),(1,aI a1),(4,.ptr 1 0),(6,.ptr 2 0),(69,aI x8),(70,aI y60)] rfl (by kernel_rfl) (by kernel_rfl) (dn [(0,.ptr 0 0),(1,aI a1),(4,.ptr 1 0),(6,.ptr 2 0),(69,aI x8),(zp96 y60)] ?_))))
          exact ⟨_,_,ZC [(0,.ptr 0 0),(1,aI a1),(4,.ptr 1 0),(6,.ptr 2 0),(69,aI x8),(zp96 y60)] [.box (zc12 x87 x88 x89) false,.box zc33 false,.box [aI (zS x4),aI (zS x15),.pv (zw y19),.pv (zw y20),.pv (zw y21),.pv (zw y22),.pv .nils,.pv .nils,aR 4 9 (Qy y59)] false,.box zc37 false,bR 66 9 zd (ace y59 x90 x91 x92 x93 x94 x95 x96 x97 x98) (Qy y59) 0] (by kernel_rfl),.inr (⟨x87,x88,x89,(ace y59 x90 x91 x92 x93 x94 x95 x96 x97 x98),(zU y60),(Qz y59).length,(Qz y59).length,hm,rfl,rfl,(by first | rfl | assumption | omega | (simp only [List.length_set,List.length_append,List.length_cons,List.length_nil,List.length_replicate,List.length_drop] at * <;> omega)),(by first | exact Nat.zero_le _ | exact Nat.le_refl _ | assumption | omega | (simp only [List.length_set,List.length_append,List.length_cons,List.length_nil,List.length_replicate,List.length_drop] at * <;> omega))⟩)⟩
        ·
         refine c0 h85 (wp_exit ?_)
         exact .inr (⟨y56,y57,y58,y59,aI y60,aB (decide (y60 < x8)),g61,g63,hm,(zT (by kernel_rfl)),rfl,(by first | rfl | assumption | omega | (simp only [List.length_set,List.length_append,List.length_cons,List.length_nil,List.length_replicate,List.length_drop] at * <;> omega)),(by first | exact Nat.zero_le _ | exact Nat.le_refl _ | assumption | omega | (simp only [List.length_set,List.length_append,List.length_cons,List.length_nil,List.length_replicate,List.length_drop] at * <;> omega))⟩)
      ·
       subst hk31
       obtain ⟨k114,hk114,hm⟩:=zx hm
       refine mid (fun t H=>(∃ (y106:Bool) (y107:(Option (List Int))) (y108:Int) (w104:AV) (w105:AV),k114 y106 y107 y108 none=some r∧t=mk 93 [(0,.ptr 0 0),(1,aI a1),(4,.ptr 1 0),(6,.ptr 2 0),(69,aI x8),(70,w104),(71,w105)]∧H=[.box (zc12 y106 y107 y108) false,.box zc33 false,.box (zc38 x4 x15 y19 y20 y21 y22 y30) false,.box zc37 false,bR 86 2 zj y30 0 0])∨(∃ (y106:Bool) (y107:(Option (List Int))) (y108:Int) (y109:(List zn)) (w104:AV) (w105:AV) (g110:Nat) (g112:Nat),k114 y106 y107 y108 (some y109)=some r∧t=mk 93 [(0,.ptr 0 0),(1,aI a1),(4,.ptr 1 0),(6,.ptr 2 0),(69,aI x8),(70,w104),(71,w105)]∧H=[.box (zc12 y106 y107 y108) false,.box zc33 false,.box (zc43 x4 x15 y19 y20 y21 y22 y30 g110) false,.box zc37 false,bR 86 2 zj y30 0 0,bR 66 9 zd y109 g112 0]∧y109.length=g110∧g112≤y109.length)) ?_ ?_
       ·
        rintro _ _ (⟨y106,y107,y108,w104,w105,hm,rfl,rfl⟩ | ⟨y106,y107,y108,y109,w104,w105,g110,g112,hm,rfl,rfl,q111,q113⟩)
        ·
         subst hk114
         refine sq (det [(4,.ptr 1 0),(5,aI 0)] [.box (zc12 y106 y107 y108) false,.box (zc38 x4 x15 y19 y20 y21 y22 y30) false,.box (zc38 x4 x15 y19 y20 y21 y22 y30) false,.box zc37 false,bR 86 2 zj y30 0 0] (by kernel_rfl) (wp_ret ?_))
         obtain rfl:=Option.some.inj hm
         exact ⟨trivial,.tup [.agg [aI ((zb.mk (IntKind.wrap .i64 x4) (IntKind.wrap .i64 x15) y19 y20 y21 y22 none (some y30) none).fKind),aI ((zb.mk (IntKind.wrap .i64 x4) (IntKind.wrap .i64 x15) y19 y20 y21 y22 none (some y30) none).fRel),.pv (zg za ((zb.mk (IntKind.wrap .i64 x4) (IntKind.wrap .i64 x15) y19 y20 y21 y22 none (some y30) none).fWhere)),.pv (zg za ((zb.mk (IntKind.wrap .i64 x4) (IntKind.wrap .i64 x15) y19 y20 y21 y22 none (some y30) none).fLeft)),.pv (zg za ((zb.mk (IntKind.wrap .i64 x4) (IntKind.wrap .i64 x15) y19 y20 y21 y22 none (some y30) none).fRight)),.pv (zg za ((zb.mk (IntKind.wrap .i64 x4) (IntKind.wrap .i64 x15) y19 y20 y21 y22 none (some y30) none).fOut)),.pv (zg zi ((zb.mk (IntKind.wrap .i64 x4) (IntKind.wrap .i64 x15) y19 y20 y21 y22 none (some y30) none).fAggs)),.pv (zg zj ((zb.mk (IntKind.wrap .i64 x4) (IntKind.wrap .i64 x15) y19 y20 y21 y22 none (some y30) none).fOrder)),.pv (zg zd ((zb.mk (IntKind.wrap .i64 x4) (IntKind.wrap .i64 x15) y19 y20 y21 y22 none (some y30) none).fKids))],aI 0],[.box (zc12 y106 y107 y108) false],Zo (x:=.tup [.agg (zc38 x4 x15 y19 y20 y21 y22 y30),aI 0]) [4] (by kernel_rfl) (by kernel_rfl) (by kernel_rfl) (aeL (ZZ (afO (zt (zC) (zt (zC) (zt (zC) (zt (zC) (zt (zC) (zt (zC) (zt (zC) (zt (qe (n:=y30.length) (id:=4) (l:=y30) (R:=zj) rfl rfl (Nat.zero_le _)) (zt (zC) (rfl))))))))))) (ZZ (ahz) (rfl)))) rfl (by kernel_rfl),rfl,rfl⟩
        ·
         subst hk114
         refine sq (det [(4,.ptr 1 0),(5,aI 0)] [.box (zc12 y106 y107 y108) false,.box (zc43 x4 x15 y19 y20 y21 y22 y30 g110) false,.box (zc43 x4 x15 y19 y20 y21 y22 y30 g110) false,.box zc37 false,bR 86 2 zj y30 0 0,bR 66 9 zd y109 g112 0] (by kernel_rfl) (wp_ret ?_))
         obtain rfl:=Option.some.inj hm
         exact ⟨trivial,.tup [.agg [aI ((zb.mk (IntKind.wrap .i64 x4) (IntKind.wrap .i64 x15) y19 y20 y21 y22 none (some y30) (some y109)).fKind),aI ((zb.mk (IntKind.wrap .i64 x4) (IntKind.wrap .i64 x15) y19 y20 y21 y22 none (some y30) (some y109)).fRel),.pv (zg za ((zb.mk (IntKind.wrap .i64 x4) (IntKind.wrap .i64 x15) y19 y20 y21 y22 none (some y30) (some y109)).fWhere)),.pv (zg za ((zb.mk (IntKind.wrap .i64 x4) (IntKind.wrap .i64 x15) y19 y20 y21 y22 none (some y30) (some y109)).fLeft)),.pv (zg za ((zb.mk (IntKind.wrap .i64 x4) (IntKind.wrap .i64 x15) y19 y20 y21 y22 none (some y30) (some y109)).fRight)),.pv (zg za ((zb.mk (IntKind.wrap .i64 x4) (IntKind.wrap .i64 x15) y19 y20 y21 y22 none (some y30) (some y109)).fOut)),.pv (zg zi ((zb.mk (IntKind.wrap .i64 x4) (IntKind.wrap .i64 x15) y19 y20 y21 y22 none (some y30) (some y109)).fAggs)),.pv (zg zj ((zb.mk (IntKind.wrap .i64 x4) (IntKind.wrap .i64 x15) y19 y20 y21 y22 none (some y30) (some y109)).fOrder)),.pv (zg zd ((zb.mk (IntKind.wrap .i64 x4) (IntKind.wrap .i64 x15) y19 y20 y21 y22 none (some y30) (some y109)).fKids))],aI 0],[.box (zc12 y106 y107 y108) false],Zo (x:=.tup [.agg (zc43 x4 x15 y19 y20 y21 y22 y30 g110),aI 0]) [4,5] (by kernel_rfl) (by kernel_rfl) (by kernel_rfl) (aeL (ZZ (afO (zt (zC) (zt (zC) (zt (zC) (zt (zC) (zt (zC) (zt (zC) (zt (zC) (zt (qe (n:=y30.length) (id:=4) (l:=y30) (R:=zj) rfl rfl (Nat.zero_le _)) (zt (qe (n:=g110) (id:=5) (l:=y109) (R:=zd) rfl (by omega) (by omega)) (rfl))))))))))) (ZZ (ahz) (rfl)))) rfl (by kernel_rfl),rfl,rfl⟩
       refine sq (dn [(0,.ptr 0 0),(1,aI a1),(4,.ptr 1 0),(6,.ptr 2 0),(69,aI x8),(70,aI 0)] (bq ?_))
       refine qq (fun mm t H=>(∃ (y128:Bool) (y129:(Option (List Int))) (y130:Int) (y132:Int),Z1 n rc_plan_take a1 x8 k114 mm y128 y129 y130 none y132=some r∧t=mk 93 [(0,.ptr 0 0),(1,aI a1),(4,.ptr 1 0),(6,.ptr 2 0),(69,aI x8),(70,aI y132)]∧H=[.box (zc12 y128 y129 y130) false,.box zc33 false,.box (zc38 x4 x15 y19 y20 y21 y22 y30) false,.box zc37 false,bR 86 2 zj y30 0 0])∨(∃ (y128:Bool) (y129:(Option (List Int))) (y130:Int) (y131:(List zn)) (y132:Int) (g133:Nat) (g135:Nat),Z1 n rc_plan_take a1 x8 k114 mm y128 y129 y130 (some y131) y132=some r∧t=mk 93 [(0,.ptr 0 0),(1,aI a1),(4,.ptr 1 0),(6,.ptr 2 0),(69,aI x8),(70,aI y132)]∧H=[.box (zc12 y128 y129 y130) false,.box zc33 false,.box (zc43 x4 x15 y19 y20 y21 y22 y30 g133) false,.box zc37 false,bR 86 2 zj y30 0 0,bR 66 9 zd y131 g135 0]∧y131.length=g133∧g135≤y131.length)) (.inl ⟨y26,y27,y28,0,hm,rfl,rfl⟩) ?_ ?_
       · rintro _ _ (⟨y128,y129,y130,y132,hm,_⟩ | ⟨y128,y129,y130,y131,y132,g133,g135,hm,_⟩) <;> exact nomatch hm
       rintro m137 _ _ (⟨y128,y129,y130,y132,hm,rfl,rfl⟩ | ⟨y128,y129,y130,y131,y132,g133,g135,hm,rfl,rfl,q134,q136⟩)
       ·
        simp only [Z1] at hm
        refine sq (dn [(0,.ptr 0 0),(1,aI a1),(4,.ptr 1 0),(6,.ptr 2 0),(69,aI x8),(70,aI y132),(71,aB (decide (y132 < x8)))] ?_)
        refine sq ?_
        rcases zh hm with ⟨h138,hm⟩ | ⟨h138,hm⟩
        ·
         refine c1 h138 (wp_skip (sq (bq (sq (rg (s1 3 [(zp95 a1),(74,aI a1),(73,.ptr 0 0)] ?_))))))
         obtain ⟨⟨x140,x141,x142,x143,x144,x145,x146,x147,x148,x149,x150,x151,x152⟩,h139,hm⟩:=bs hm
         obtain ⟨vv,H1,hC,rfl,rfl⟩:=ih_plan_take h139
         refine dR [(76,.tup [.agg (Zf x143 x144 x145 x146 x147 x148 x149 x150 x151),aI x152])] [.box (zc12 x140 x141 x142) false,.box zc33 false,.box (zc38 x4 x15 y19 y20 y21 y22 y30) false,.box zc37 false,bR 86 2 zj y30 0 0] [0] [.ptr 0 0,aI (zU a1)] (by kernel_rfl) (by kernel_rfl) (by kernel_rfl) hC (by kernel_rfl) (stf 6 [(0,.ptr 0 0),(1,aI a1),(4,.ptr 1 0),(6,.ptr 2 0),(14,.ptr 5 0),(15,aI x152),(69,aI x8),(70,aI y132)] [.box (zc12 x140 x141 x142) false,.box zc33 false,.box (zc38 x4 x15 y19 y20 y21 y22 y30) false,.box zc37 false,bR 86 2 zj y30 0 0,.box (Zf x143 x144 x145 x146 x147 x148 x149 x150 x151) false] (by kernel_rfl) ?_)
         refine sq (sq (dn [(0,.ptr 0 0),(1,aI a1),(4,.ptr 1 0),(6,.ptr 2 0),(14,.ptr 5 0),(15,aI x152),(69,aI x8),(70,aI y132),(80,aB (x152 != 0))] ?_))
         rcases zh hm with ⟨h153,hm⟩ | ⟨h153,hm⟩
         ·
          refine c1 h153 (sq (dn [(4,.ptr 1 0),(5,aI x152)] (wp_ret ?_)))
          obtain rfl:=Option.some.inj hm
          exact ⟨trivial,.tup [.agg zc35,aI x152],[.box (zc12 x140 x141 x142) false],Zo (x:=.tup [.agg zc33,aI x152]) (x':=.tup [.agg zc33,aI x152]) [] (by kernel_rfl) (by kernel_rfl) (by kernel_rfl) (by kernel_rfl) rfl (by kernel_rfl),rfl,rfl⟩
         ·
          refine c0 h153 (wp_skip (rgd (std 5 [(87,aR 6 9 1),(86,aI 0),(85,.agg (Zf x143 x144 x145 x146 x147 x148 x149 x150 x151)),(84,.pv .nils),(83,.ptr 2 8)] [.box (zc12 x140 x141 x142) false,.box zc33 false,.box (zc38 x4 x15 y19 y20 y21 y22 y30) false,.box zc37 false,bR 86 2 zj y30 0 0,.box (Zf x143 x144 x145 x146 x147 x148 x149 x150 x151) false,bR 66 9 zd Zr 0 0] (by kernel_rfl) ?_)))
          obtain ⟨_,h154,hm⟩:=bs hm
          refine dOd [zp97] [.box (zc12 x140 x141 x142) false,.box zc33 false,.box (zc38 x4 x15 y19 y20 y21 y22 y30) false,.box zc37 false,bR 86 2 zj y30 0 0,.box (Zf x143 x144 x145 x146 x147 x148 x149 x150 x151) false,bR 66 9 zd Zr 0 0,bR 66 9 zd Zr 0 0] (QG (u:=0) zd Zr (b:=184) t64 t66 rfl rfl rfl qN rfl h154 (show zP (aR 6 9 1) _=some ahJ from by kernel_rfl) (by kernel_rfl)) (by kernel_rfl) ?_
          obtain ⟨x155,h156,hm⟩:=bs hm
          refine dvd 89 (v:=.eptr 7 0 QM 9 (0+Int.toNat 0) 0) (abq Zr .i64 (n:=Zr.length) (id:=7) (esz:=9) t64 t66 h156 rfl rfl (by kernel_rfl)) (by kernel_rfl) (dOd [] [.box (zc12 x140 x141 x142) false,.box zc33 false,.box (zc38 x4 x15 y19 y20 y21 y22 y30) false,.box zc37 false,bR 86 2 zj y30 0 0,.box (Zf x143 x144 x145 x146 x147 x148 x149 x150 x151) false,bR 66 9 zd Zr 0 0,bR 66 9 zd (acf x143 x144 x145 x146 x147 x148 x149 x150 x151) QM 0] (abW zd Zr (zr (zb.mk x143 x144 x145 x146 x147 x148 x149 x150 x151)) (n:=Zr.length) (esz:=9) (v:=.agg (Zf x143 x144 x145 x146 x147 x148 x149 x150 x151)) (j:=0) (off:=0) (id:=7) t66 rfl h156 rfl (Nat.zero_le _) rfl rfl rfl (Zg x155) rfl (by kernel_rfl)) (by kernel_rfl) (std 2 [(90,.ptr 2 8)] [.box (zc12 x140 x141 x142) false,.box zc33 false,.box [aI (zS x4),aI (zS x15),.pv (zw y19),.pv (zw y20),.pv (zw y21),.pv (zw y22),.pv .nils,aR 4 2 y30.length,aR 7 9 QM] false,.box zc37 false,bR 86 2 zj y30 0 0,.box (Zf x143 x144 x145 x146 x147 x148 x149 x150 x151) false,bR 66 9 zd Zr 0 0,bR 66 9 zd (acf x143 x144 x145 x146 x147 x148 x149 x150 x151) QM 0] (by kernel_rfl) (find [(0,.ptr 0 0),(1,aI a1),(4,.ptr 1 0),(6,.ptr 2 0),(69,aI x8),(70,aI y132)] rfl (by kernel_rfl) (by kernel_rfl) (dn [(0,.ptr 0 0),(1,aI a1),(4,.ptr 1 0),(6,.ptr 2 0),(69,aI x8),(zp96 y132)] ?_))))
          exact ⟨_,_,ZC [(0,.ptr 0 0),(1,aI a1),(4,.ptr 1 0),(6,.ptr 2 0),(69,aI x8),(zp96 y132)] [.box (zc12 x140 x141 x142) false,.box zc33 false,.box [aI (zS x4),aI (zS x15),.pv (zw y19),.pv (zw y20),.pv (zw y21),.pv (zw y22),.pv .nils,aR 4 2 y30.length,aR 5 9 QM] false,.box zc37 false,bR 86 2 zj y30 0 0,bR 66 9 zd (acf x143 x144 x145 x146 x147 x148 x149 x150 x151) QM 0] (by kernel_rfl),.inr (⟨x140,x141,x142,(acf x143 x144 x145 x146 x147 x148 x149 x150 x151),(zU y132),Zr.length,Zr.length,hm,rfl,rfl,(by first | rfl | assumption | omega | (simp only [List.length_set,List.length_append,List.length_cons,List.length_nil,List.length_replicate,List.length_drop] at * <;> omega)),(by first | exact Nat.zero_le _ | exact Nat.le_refl _ | assumption | omega | (simp only [List.length_set,List.length_append,List.length_cons,List.length_nil,List.length_replicate,List.length_drop] at * <;> omega))⟩)⟩
        ·
         refine c0 h138 (wp_exit ?_)
         exact .inl ⟨y128,y129,y130,aI y132,aB (decide (y132 < x8)),hm,(zT (by kernel_rfl)),rfl⟩
       ·
        simp only [Z1] at hm
        refine sq (dn [(0,.ptr 0 0),(1,aI a1),(4,.ptr 1 0),(6,.ptr 2 0),(69,aI x8),(70,aI y132),(71,aB (decide (y132 < x8)))] ?_)
        refine sq ?_
        rcases zh hm with ⟨h157,hm⟩ | ⟨h157,hm⟩
        ·
         refine c1 h157 (wp_skip (sq (bq (sq (rg (s1 3 [(zp95 a1),(74,aI a1),(73,.ptr 0 0)] ?_))))))
         obtain ⟨⟨x159,x160,x161,x162,x163,x164,x165,x166,x167,x168,x169,x170,x171⟩,h158,hm⟩:=bs hm
         obtain ⟨vv,H1,hC,rfl,rfl⟩:=ih_plan_take h158
         refine dR [(76,.tup [.agg (Zf x162 x163 x164 x165 x166 x167 x168 x169 x170),aI x171])] [.box (zc12 x159 x160 x161) false,.box zc33 false,.box (zc43 x4 x15 y19 y20 y21 y22 y30 g133) false,.box zc37 false,bR 86 2 zj y30 0 0,bR 66 9 zd y131 g135 0] [0] [.ptr 0 0,aI (zU a1)] (by kernel_rfl) (by kernel_rfl) (by kernel_rfl) hC (by kernel_rfl) (stf 6 [(0,.ptr 0 0),(1,aI a1),(4,.ptr 1 0),(6,.ptr 2 0),(14,.ptr 6 0),(15,aI x171),(69,aI x8),(70,aI y132)] [.box (zc12 x159 x160 x161) false,.box zc33 false,.box (zc43 x4 x15 y19 y20 y21 y22 y30 g133) false,.box zc37 false,bR 86 2 zj y30 0 0,bR 66 9 zd y131 g135 0,.box (Zf x162 x163 x164 x165 x166 x167 x168 x169 x170) false] (by kernel_rfl) ?_)
         refine sq (sq (dn [(0,.ptr 0 0),(1,aI a1),(4,.ptr 1 0),(6,.ptr 2 0),(14,.ptr 6 0),(15,aI x171),(69,aI x8),(70,aI y132),(80,aB (x171 != 0))] ?_))
         rcases zh hm with ⟨h172,hm⟩ | ⟨h172,hm⟩
         ·
          refine c1 h172 (sq (dn [(4,.ptr 1 0),(5,aI x171)] (wp_ret ?_)))
          obtain rfl:=Option.some.inj hm
          exact ⟨trivial,.tup [.agg zc35,aI x171],[.box (zc12 x159 x160 x161) false],Zo (x:=.tup [.agg zc33,aI x171]) (x':=.tup [.agg zc33,aI x171]) [] (by kernel_rfl) (by kernel_rfl) (by kernel_rfl) (by kernel_rfl) rfl (by kernel_rfl),rfl,rfl⟩
         ·
          refine c0 h172 (wp_skip (rgd (shd 3 [(85,.agg (Zf x162 x163 x164 x165 x166 x167 x168 x169 x170)),(84,aR 5 9 g133),(83,.ptr 2 8)] (by kernel_rfl) (dvd 86 (v:=aI (y131.length:Int)) (agO y131 (n:=g133) (id:=5) (esz:=9) t64 (by omega) (by kernel_rfl)) (by kernel_rfl) (std 1 [(87,aR 7 9 1)] [.box (zc12 x159 x160 x161) false,.box zc33 false,.box (zc43 x4 x15 y19 y20 y21 y22 y30 g133) false,.box zc37 false,bR 86 2 zj y30 0 0,bR 66 9 zd y131 g135 0,.box (Zf x162 x163 x164 x165 x166 x167 x168 x169 x170) false,bR 66 9 zd Zr 0 0] (by kernel_rfl) ?_)))))
          obtain ⟨_,h173,hm⟩:=bs hm
          refine dOd [(88,aR 5 9 (Qy y131))] [.box (zc12 x159 x160 x161) false,.box zc33 false,.box (zc43 x4 x15 y19 y20 y21 y22 y30 g133) false,.box zc37 false,bR 86 2 zj y30 0 0,bR 66 9 zd (Qz y131) g135 0,.box (Zf x162 x163 x164 x165 x166 x167 x168 x169 x170) false,bR 66 9 zd Zr 0 0] (ZT (u:=0) (n:=g133) (id:=5) zd y131 Zr (b:=184) t64 t66 rfl rfl rfl qN rfl h173 rfl (by omega) (by omega) (show zP (aR 7 9 1) _=some ahJ from by kernel_rfl) (by kernel_rfl)) (by kernel_rfl) ?_
          obtain ⟨x174,h175,hm⟩:=bs hm
          refine dvd 89 (v:=.eptr 5 0 (Qy y131) 9 (0+Int.toNat (y131.length:Int)) 0) (abq (Qz y131) .i64 (n:=(Qz y131).length) (id:=5) (esz:=9) t64 t66 h175 rfl rfl (by kernel_rfl)) (by kernel_rfl) (dOd [] [.box (zc12 x159 x160 x161) false,.box zc33 false,.box (zc43 x4 x15 y19 y20 y21 y22 y30 g133) false,.box zc37 false,bR 86 2 zj y30 0 0,bR 66 9 zd (ace y131 x162 x163 x164 x165 x166 x167 x168 x169 x170) (Qy y131) 0,.box (Zf x162 x163 x164 x165 x166 x167 x168 x169 x170) false,bR 66 9 zd Zr 0 0] (abW zd (Qz y131) (zr (zb.mk x162 x163 x164 x165 x166 x167 x168 x169 x170)) (n:=(Qz y131).length) (esz:=9) (v:=.agg (Zf x162 x163 x164 x165 x166 x167 x168 x169 x170)) (j:=(y131.length:Int)) (off:=0) (id:=5) t66 rfl h175 rfl (by first | exact Nat.zero_le _ | exact Nat.le_refl _ | assumption | omega | (simp only [List.length_set,List.length_append,List.length_cons,List.length_nil,List.length_replicate,List.length_drop] at * <;> omega)) rfl rfl rfl (Zg x174) rfl (by kernel_rfl)) (by kernel_rfl) (std 2 [(90,.ptr 2 8)] [.box (zc12 x159 x160 x161) false,.box zc33 false,.box [aI (zS x4),aI (zS x15),.pv (zw y19),.pv (zw y20),.pv (zw y21),.pv (zw y22),.pv .nils,aR 4 2 y30.length,aR 5 9 (Qy y131)] false,.box zc37 false,bR 86 2 zj y30 0 0,bR 66 9 zd (ace y131 x162 x163 x164 x165 x166 x167 x168 x169 x170) (Qy y131) 0,.box (Zf x162 x163 x164 x165 x166 x167 x168 x169 x170) false,bR 66 9 zd Zr 0 0] (by kernel_rfl) (find [(0,.ptr 0 0),(1,aI a1),(4,.ptr 1 0),(6,.ptr 2 0),(69,aI x8),(70,aI y132)] rfl (by kernel_rfl) (by kernel_rfl) (dn [(0,.ptr 0 0),(1,aI a1),(4,.ptr 1 0),(6,.ptr 2 0),(69,aI x8),(zp96 y132)] ?_))))
          exact ⟨_,_,ZC [(0,.ptr 0 0),(1,aI a1),(4,.ptr 1 0),(6,.ptr 2 0),(69,aI x8),(zp96 y132)] [.box (zc12 x159 x160 x161) false,.box zc33 false,.box [aI (zS x4),aI (zS x15),.pv (zw y19),.pv (zw y20),.pv (zw y21),.pv (zw y22),.pv .nils,aR 4 2 y30.length,aR 5 9 (Qy y131)] false,.box zc37 false,bR 86 2 zj y30 0 0,bR 66 9 zd (ace y131 x162 x163 x164 x165 x166 x167 x168 x169 x170) (Qy y131) 0] (by kernel_rfl),.inr (⟨x159,x160,x161,(ace y131 x162 x163 x164 x165 x166 x167 x168 x169 x170),(zU y132),(Qz y131).length,(Qz y131).length,hm,rfl,rfl,(by first | rfl | assumption | omega | (simp only [List.length_set,List.length_append,List.length_cons,List.length_nil,List.length_replicate,List.length_drop] at * <;> omega)),(by first | exact Nat.zero_le _ | exact Nat.le_refl _ | assumption | omega | (simp only [List.length_set,List.length_append,List.length_cons,List.length_nil,List.length_replicate,List.length_drop] at * <;> omega))⟩)⟩
        ·
         refine c0 h157 (wp_exit ?_)
         exact .inr (⟨y128,y129,y130,y131,aI y132,aB (decide (y132 < x8)),g133,g135,hm,(zT (by kernel_rfl)),rfl,(by first | rfl | assumption | omega | (simp only [List.length_set,List.length_append,List.length_cons,List.length_nil,List.length_replicate,List.length_drop] at * <;> omega)),(by first | exact Nat.zero_le _ | exact Nat.le_refl _ | assumption | omega | (simp only [List.length_set,List.length_append,List.length_cons,List.length_nil,List.length_replicate,List.length_drop] at * <;> omega))⟩)
      ·
       subst hk31
       obtain ⟨k186,hk186,hm⟩:=zx hm
       refine mid (fun t H=>(∃ (y178:Bool) (y179:(Option (List Int))) (y180:Int) (w176:AV) (w177:AV),k186 y178 y179 y180 none=some r∧t=mk 93 [(0,.ptr 0 0),(1,aI a1),(4,.ptr 1 0),(6,.ptr 2 0),(69,aI x8),(70,w176),(71,w177)]∧H=[.box (zc12 y178 y179 y180) false,.box zc33 false,.box (zc39 x4 x15 y19 y20 y21 y22 y29) false,.box zc37 false,bR 101 9 zi y29 0 0])∨(∃ (y178:Bool) (y179:(Option (List Int))) (y180:Int) (y181:(List zn)) (w176:AV) (w177:AV) (g182:Nat) (g184:Nat),k186 y178 y179 y180 (some y181)=some r∧t=mk 93 [(0,.ptr 0 0),(1,aI a1),(4,.ptr 1 0),(6,.ptr 2 0),(69,aI x8),(70,w176),(71,w177)]∧H=[.box (zc12 y178 y179 y180) false,.box zc33 false,.box (zc44 x4 x15 y19 y20 y21 y22 y29 g182) false,.box zc37 false,bR 101 9 zi y29 0 0,bR 66 9 zd y181 g184 0]∧y181.length=g182∧g184≤y181.length)) ?_ ?_
       ·
        rintro _ _ (⟨y178,y179,y180,w176,w177,hm,rfl,rfl⟩ | ⟨y178,y179,y180,y181,w176,w177,g182,g184,hm,rfl,rfl,q183,q185⟩)
        ·
         subst hk186
         refine sq (det [(4,.ptr 1 0),(5,aI 0)] [.box (zc12 y178 y179 y180) false,.box (zc39 x4 x15 y19 y20 y21 y22 y29) false,.box (zc39 x4 x15 y19 y20 y21 y22 y29) false,.box zc37 false,bR 101 9 zi y29 0 0] (by kernel_rfl) (wp_ret ?_))
         obtain rfl:=Option.some.inj hm
         exact ⟨trivial,.tup [.agg [aI ((zb.mk (IntKind.wrap .i64 x4) (IntKind.wrap .i64 x15) y19 y20 y21 y22 (some y29) none none).fKind),aI ((zb.mk (IntKind.wrap .i64 x4) (IntKind.wrap .i64 x15) y19 y20 y21 y22 (some y29) none none).fRel),.pv (zg za ((zb.mk (IntKind.wrap .i64 x4) (IntKind.wrap .i64 x15) y19 y20 y21 y22 (some y29) none none).fWhere)),.pv (zg za ((zb.mk (IntKind.wrap .i64 x4) (IntKind.wrap .i64 x15) y19 y20 y21 y22 (some y29) none none).fLeft)),.pv (zg za ((zb.mk (IntKind.wrap .i64 x4) (IntKind.wrap .i64 x15) y19 y20 y21 y22 (some y29) none none).fRight)),.pv (zg za ((zb.mk (IntKind.wrap .i64 x4) (IntKind.wrap .i64 x15) y19 y20 y21 y22 (some y29) none none).fOut)),.pv (zg zi ((zb.mk (IntKind.wrap .i64 x4) (IntKind.wrap .i64 x15) y19 y20 y21 y22 (some y29) none none).fAggs)),.pv (zg zj ((zb.mk (IntKind.wrap .i64 x4) (IntKind.wrap .i64 x15) y19 y20 y21 y22 (some y29) none none).fOrder)),.pv (zg zd ((zb.mk (IntKind.wrap .i64 x4) (IntKind.wrap .i64 x15) y19 y20 y21 y22 (some y29) none none).fKids))],aI 0],[.box (zc12 y178 y179 y180) false],Zo (x:=.tup [.agg (zc39 x4 x15 y19 y20 y21 y22 y29),aI 0]) [4] (by kernel_rfl) (by kernel_rfl) (by kernel_rfl) (aeL (ZZ (afO (zt (zC) (zt (zC) (zt (zC) (zt (zC) (zt (zC) (zt (zC) (zt (qe (n:=y29.length) (id:=4) (l:=y29) (R:=zi) rfl rfl (Nat.zero_le _)) (zt (zC) (zt (zC) (rfl))))))))))) (ZZ (ahz) (rfl)))) rfl (by kernel_rfl),rfl,rfl⟩
        ·
         subst hk186
         refine sq (det [(4,.ptr 1 0),(5,aI 0)] [.box (zc12 y178 y179 y180) false,.box (zc44 x4 x15 y19 y20 y21 y22 y29 g182) false,.box (zc44 x4 x15 y19 y20 y21 y22 y29 g182) false,.box zc37 false,bR 101 9 zi y29 0 0,bR 66 9 zd y181 g184 0] (by kernel_rfl) (wp_ret ?_))
         obtain rfl:=Option.some.inj hm
         exact ⟨trivial,.tup [.agg [aI ((zb.mk (IntKind.wrap .i64 x4) (IntKind.wrap .i64 x15) y19 y20 y21 y22 (some y29) none (some y181)).fKind),aI ((zb.mk (IntKind.wrap .i64 x4) (IntKind.wrap .i64 x15) y19 y20 y21 y22 (some y29) none (some y181)).fRel),.pv (zg za ((zb.mk (IntKind.wrap .i64 x4) (IntKind.wrap .i64 x15) y19 y20 y21 y22 (some y29) none (some y181)).fWhere)),.pv (zg za ((zb.mk (IntKind.wrap .i64 x4) (IntKind.wrap .i64 x15) y19 y20 y21 y22 (some y29) none (some y181)).fLeft)),.pv (zg za ((zb.mk (IntKind.wrap .i64 x4) (IntKind.wrap .i64 x15) y19 y20 y21 y22 (some y29) none (some y181)).fRight)),.pv (zg za ((zb.mk (IntKind.wrap .i64 x4) (IntKind.wrap .i64 x15) y19 y20 y21 y22 (some y29) none (some y181)).fOut)),.pv (zg zi ((zb.mk (IntKind.wrap .i64 x4) (IntKind.wrap .i64 x15) y19 y20 y21 y22 (some y29) none (some y181)).fAggs)),.pv (zg zj ((zb.mk (IntKind.wrap .i64 x4) (IntKind.wrap .i64 x15) y19 y20 y21 y22 (some y29) none (some y181)).fOrder)),.pv (zg zd ((zb.mk (IntKind.wrap .i64 x4) (IntKind.wrap .i64 x15) y19 y20 y21 y22 (some y29) none (some y181)).fKids))],aI 0],[.box (zc12 y178 y179 y180) false],Zo (x:=.tup [.agg (zc44 x4 x15 y19 y20 y21 y22 y29 g182),aI 0]) [4,5] (by kernel_rfl) (by kernel_rfl) (by kernel_rfl) (aeL (ZZ (afO (zt (zC) (zt (zC) (zt (zC) (zt (zC) (zt (zC) (zt (zC) (zt (qe (n:=y29.length) (id:=4) (l:=y29) (R:=zi) rfl rfl (Nat.zero_le _)) (zt (zC) (zt (qe (n:=g182) (id:=5) (l:=y181) (R:=zd) rfl (by omega) (by omega)) (rfl))))))))))) (ZZ (ahz) (rfl)))) rfl (by kernel_rfl),rfl,rfl⟩
       refine sq (dn [(0,.ptr 0 0),(1,aI a1),(4,.ptr 1 0),(6,.ptr 2 0),(69,aI x8),(70,aI 0)] (bq ?_))
       refine qq (fun mm t H=>(∃ (y200:Bool) (y201:(Option (List Int))) (y202:Int) (y204:Int),ZU n rc_plan_take a1 x8 k186 mm y200 y201 y202 none y204=some r∧t=mk 93 [(0,.ptr 0 0),(1,aI a1),(4,.ptr 1 0),(6,.ptr 2 0),(69,aI x8),(70,aI y204)]∧H=[.box (zc12 y200 y201 y202) false,.box zc33 false,.box (zc39 x4 x15 y19 y20 y21 y22 y29) false,.box zc37 false,bR 101 9 zi y29 0 0])∨(∃ (y200:Bool) (y201:(Option (List Int))) (y202:Int) (y203:(List zn)) (y204:Int) (g205:Nat) (g207:Nat),ZU n rc_plan_take a1 x8 k186 mm y200 y201 y202 (some y203) y204=some r∧t=mk 93 [(0,.ptr 0 0),(1,aI a1),(4,.ptr 1 0),(6,.ptr 2 0),(69,aI x8),(70,aI y204)]∧H=[.box (zc12 y200 y201 y202) false,.box zc33 false,.box (zc44 x4 x15 y19 y20 y21 y22 y29 g205) false,.box zc37 false,bR 101 9 zi y29 0 0,bR 66 9 zd y203 g207 0]∧y203.length=g205∧g207≤y203.length)) (.inl ⟨y26,y27,y28,0,hm,rfl,rfl⟩) ?_ ?_
       · rintro _ _ (⟨y200,y201,y202,y204,hm,_⟩ | ⟨y200,y201,y202,y203,y204,g205,g207,hm,_⟩) <;> exact nomatch hm
       rintro m209 _ _ (⟨y200,y201,y202,y204,hm,rfl,rfl⟩ | ⟨y200,y201,y202,y203,y204,g205,g207,hm,rfl,rfl,q206,q208⟩)
       ·
        simp only [ZU] at hm
        refine sq (dn [(0,.ptr 0 0),(1,aI a1),(4,.ptr 1 0),(6,.ptr 2 0),(69,aI x8),(70,aI y204),(71,aB (decide (y204 < x8)))] ?_)
        refine sq ?_
        rcases zh hm with ⟨h210,hm⟩ | ⟨h210,hm⟩
        ·
         refine c1 h210 (wp_skip (sq (bq (sq (rg (s1 3 [(zp95 a1),(74,aI a1),(73,.ptr 0 0)] ?_))))))
         obtain ⟨⟨x212,x213,x214,x215,x216,x217,x218,x219,x220,x221,x222,x223,x224⟩,h211,hm⟩:=bs hm
         obtain ⟨vv,H1,hC,rfl,rfl⟩:=ih_plan_take h211
         refine dR [(76,.tup [.agg (Zf x215 x216 x217 x218 x219 x220 x221 x222 x223),aI x224])] [.box (zc12 x212 x213 x214) false,.box zc33 false,.box (zc39 x4 x15 y19 y20 y21 y22 y29) false,.box zc37 false,bR 101 9 zi y29 0 0] [0] [.ptr 0 0,aI (zU a1)] (by kernel_rfl) (by kernel_rfl) (by kernel_rfl) hC (by kernel_rfl) (stf 6 [(0,.ptr 0 0),(1,aI a1),(4,.ptr 1 0),(6,.ptr 2 0),(14,.ptr 5 0),(15,aI x224),(69,aI x8),(70,aI y204)] [.box (zc12 x212 x213 x214) false,.box zc33 false,.box (zc39 x4 x15 y19 y20 y21 y22 y29) false,.box zc37 false,bR 101 9 zi y29 0 0,.box (Zf x215 x216 x217 x218 x219 x220 x221 x222 x223) false] (by kernel_rfl) ?_)
         refine sq (sq (dn [(0,.ptr 0 0),(1,aI a1),(4,.ptr 1 0),(6,.ptr 2 0),(14,.ptr 5 0),(15,aI x224),(69,aI x8),(70,aI y204),(80,aB (x224 != 0))] ?_))
         rcases zh hm with ⟨h225,hm⟩ | ⟨h225,hm⟩
         ·
          refine c1 h225 (sq (dn [(4,.ptr 1 0),(5,aI x224)] (wp_ret ?_)))
          obtain rfl:=Option.some.inj hm
          exact ⟨trivial,.tup [.agg zc35,aI x224],[.box (zc12 x212 x213 x214) false],Zo (x:=.tup [.agg zc33,aI x224]) (x':=.tup [.agg zc33,aI x224]) [] (by kernel_rfl) (by kernel_rfl) (by kernel_rfl) (by kernel_rfl) rfl (by kernel_rfl),rfl,rfl⟩
         ·
          refine c0 h225 (wp_skip (rgd (std 5 [(87,aR 6 9 1),(86,aI 0),(85,.agg (Zf x215 x216 x217 x218 x219 x220 x221 x222 x223)),(84,.pv .nils),(83,.ptr 2 8)] [.box (zc12 x212 x213 x214) false,.box zc33 false,.box (zc39 x4 x15 y19 y20 y21 y22 y29) false,.box zc37 false,bR 101 9 zi y29 0 0,.box (Zf x215 x216 x217 x218 x219 x220 x221 x222 x223) false,bR 66 9 zd Zr 0 0] (by kernel_rfl) ?_)))
          obtain ⟨_,h226,hm⟩:=bs hm
          refine dOd [zp97] [.box (zc12 x212 x213 x214) false,.box zc33 false,.box (zc39 x4 x15 y19 y20 y21 y22 y29) false,.box zc37 false,bR 101 9 zi y29 0 0,.box (Zf x215 x216 x217 x218 x219 x220 x221 x222 x223) false,bR 66 9 zd Zr 0 0,bR 66 9 zd Zr 0 0] (QG (u:=0) zd Zr (b:=184) t64 t66 rfl rfl rfl qN rfl h226 (show zP (aR 6 9 1) _=some ahJ from by kernel_rfl) (by kernel_rfl)) (by kernel_rfl) ?_
          obtain ⟨x227,h228,hm⟩:=bs hm
          refine dvd 89 (v:=.eptr 7 0 QM 9 (0+Int.toNat 0) 0) (abq Zr .i64 (n:=Zr.length) (id:=7) (esz:=9) t64 t66 h228 rfl rfl (by kernel_rfl)) (by kernel_rfl) (dOd [] [.box (zc12 x212 x213 x214) false,.box zc33 false,.box (zc39 x4 x15 y19 y20 y21 y22 y29) false,.box zc37 false,bR 101 9 zi y29 0 0,.box (Zf x215 x216 x217 x218 x219 x220 x221 x222 x223) false,bR 66 9 zd Zr 0 0,bR 66 9 zd (acf x215 x216 x217 x218 x219 x220 x221 x222 x223) QM 0] (abW zd Zr (zr (zb.mk x215 x216 x217 x218 x219 x220 x221 x222 x223)) (n:=Zr.length) (esz:=9) (v:=.agg (Zf x215 x216 x217 x218 x219 x220 x221 x222 x223)) (j:=0) (off:=0) (id:=7) t66 rfl h228 rfl (Nat.zero_le _) rfl rfl rfl (Zg x227) rfl (by kernel_rfl)) (by kernel_rfl) (std 2 [(90,.ptr 2 8)] [.box (zc12 x212 x213 x214) false,.box zc33 false,.box [aI (zS x4),aI (zS x15),.pv (zw y19),.pv (zw y20),.pv (zw y21),.pv (zw y22),aR 4 9 y29.length,.pv .nils,aR 7 9 QM] false,.box zc37 false,bR 101 9 zi y29 0 0,.box (Zf x215 x216 x217 x218 x219 x220 x221 x222 x223) false,bR 66 9 zd Zr 0 0,bR 66 9 zd (acf x215 x216 x217 x218 x219 x220 x221 x222 x223) QM 0] (by kernel_rfl) (find [(0,.ptr 0 0),(1,aI a1),(4,.ptr 1 0),(6,.ptr 2 0),(69,aI x8),(70,aI y204)] rfl (by kernel_rfl) (by kernel_rfl) (dn [(0,.ptr 0 0),(1,aI a1),(4,.ptr 1 0),(6,.ptr 2 0),(69,aI x8),(zp96 y204)] ?_))))
          exact ⟨_,_,ZC [(0,.ptr 0 0),(1,aI a1),(4,.ptr 1 0),(6,.ptr 2 0),(69,aI x8),(zp96 y204)] [.box (zc12 x212 x213 x214) false,.box zc33 false,.box [aI (zS x4),aI (zS x15),.pv (zw y19),.pv (zw y20),.pv (zw y21),.pv (zw y22),aR 4 9 y29.length,.pv .nils,aR 5 9 QM] false,.box zc37 false,bR 101 9 zi y29 0 0,bR 66 9 zd (acf x215 x216 x217 x218 x219 x220 x221 x222 x223) QM 0] (by kernel_rfl),.inr (⟨x212,x213,x214,(acf x215 x216 x217 x218 x219 x220 x221 x222 x223),(zU y204),Zr.length,Zr.length,hm,rfl,rfl,(by first | rfl | assumption | omega | (simp only [List.length_set,List.length_append,List.length_cons,List.length_nil,List.length_replicate,List.length_drop] at * <;> omega)),(by first | exact Nat.zero_le _ | exact Nat.le_refl _ | assumption | omega | (simp only [List.length_set,List.length_append,List.length_cons,List.length_nil,List.length_replicate,List.length_drop] at * <;> omega))⟩)⟩
        ·
         refine c0 h210 (wp_exit ?_)
         exact .inl ⟨y200,y201,y202,aI y204,aB (decide (y204 < x8)),hm,(zT (by kernel_rfl)),rfl⟩
       ·
        simp only [ZU] at hm
        refine sq (dn [(0,.ptr 0 0),(1,aI a1),(4,.ptr 1 0),(6,.ptr 2 0),(69,aI x8),(70,aI y204),(71,aB (decide (y204 < x8)))] ?_)
        refine sq ?_
        rcases zh hm with ⟨h229,hm⟩ | ⟨h229,hm⟩
        ·
         refine c1 h229 (wp_skip (sq (bq (sq (rg (s1 3 [(zp95 a1),(74,aI a1),(73,.ptr 0 0)] ?_))))))
         obtain ⟨⟨x231,x232,x233,x234,x235,x236,x237,x238,x239,x240,x241,x242,x243⟩,h230,hm⟩:=bs hm
         obtain ⟨vv,H1,hC,rfl,rfl⟩:=ih_plan_take h230
         refine dR [(76,.tup [.agg (Zf x234 x235 x236 x237 x238 x239 x240 x241 x242),aI x243])] [.box (zc12 x231 x232 x233) false,.box zc33 false,.box (zc44 x4 x15 y19 y20 y21 y22 y29 g205) false,.box zc37 false,bR 101 9 zi y29 0 0,bR 66 9 zd y203 g207 0] [0] [.ptr 0 0,aI (zU a1)] (by kernel_rfl) (by kernel_rfl) (by kernel_rfl) hC (by kernel_rfl) (stf 6 [(0,.ptr 0 0),(1,aI a1),(4,.ptr 1 0),(6,.ptr 2 0),(14,.ptr 6 0),(15,aI x243),(69,aI x8),(70,aI y204)] [.box (zc12 x231 x232 x233) false,.box zc33 false,.box (zc44 x4 x15 y19 y20 y21 y22 y29 g205) false,.box zc37 false,bR 101 9 zi y29 0 0,bR 66 9 zd y203 g207 0,.box (Zf x234 x235 x236 x237 x238 x239 x240 x241 x242) false] (by kernel_rfl) ?_)
         refine sq (sq (dn [(0,.ptr 0 0),(1,aI a1),(4,.ptr 1 0),(6,.ptr 2 0),(14,.ptr 6 0),(15,aI x243),(69,aI x8),(70,aI y204),(80,aB (x243 != 0))] ?_))
         rcases zh hm with ⟨h244,hm⟩ | ⟨h244,hm⟩
         ·
          refine c1 h244 (sq (dn [(4,.ptr 1 0),(5,aI x243)] (wp_ret ?_)))
          obtain rfl:=Option.some.inj hm
          exact ⟨trivial,.tup [.agg zc35,aI x243],[.box (zc12 x231 x232 x233) false],Zo (x:=.tup [.agg zc33,aI x243]) (x':=.tup [.agg zc33,aI x243]) [] (by kernel_rfl) (by kernel_rfl) (by kernel_rfl) (by kernel_rfl) rfl (by kernel_rfl),rfl,rfl⟩
         ·
          refine c0 h244 (wp_skip (rgd (shd 3 [(85,.agg (Zf x234 x235 x236 x237 x238 x239 x240 x241 x242)),(84,aR 5 9 g205),(83,.ptr 2 8)] (by kernel_rfl) (dvd 86 (v:=aI (y203.length:Int)) (agO y203 (n:=g205) (id:=5) (esz:=9) t64 (by omega) (by kernel_rfl)) (by kernel_rfl) (std 1 [(87,aR 7 9 1)] [.box (zc12 x231 x232 x233) false,.box zc33 false,.box (zc44 x4 x15 y19 y20 y21 y22 y29 g205) false,.box zc37 false,bR 101 9 zi y29 0 0,bR 66 9 zd y203 g207 0,.box (Zf x234 x235 x236 x237 x238 x239 x240 x241 x242) false,bR 66 9 zd Zr 0 0] (by kernel_rfl) ?_)))))
          obtain ⟨_,h245,hm⟩:=bs hm
          refine dOd [(88,aR 5 9 (Qy y203))] [.box (zc12 x231 x232 x233) false,.box zc33 false,.box (zc44 x4 x15 y19 y20 y21 y22 y29 g205) false,.box zc37 false,bR 101 9 zi y29 0 0,bR 66 9 zd (Qz y203) g207 0,.box (Zf x234 x235 x236 x237 x238 x239 x240 x241 x242) false,bR 66 9 zd Zr 0 0] (ZT (u:=0) (n:=g205) (id:=5) zd y203 Zr (b:=184) t64 t66 rfl rfl rfl qN rfl h245 rfl (by omega) (by omega) (show zP (aR 7 9 1) _=some ahJ from by kernel_rfl) (by kernel_rfl)) (by kernel_rfl) ?_
          obtain ⟨x246,h247,hm⟩:=bs hm
          refine dvd 89 (v:=.eptr 5 0 (Qy y203) 9 (0+Int.toNat (y203.length:Int)) 0) (abq (Qz y203) .i64 (n:=(Qz y203).length) (id:=5) (esz:=9) t64 t66 h247 rfl rfl (by kernel_rfl)) (by kernel_rfl) (dOd [] [.box (zc12 x231 x232 x233) false,.box zc33 false,.box (zc44 x4 x15 y19 y20 y21 y22 y29 g205) false,.box zc37 false,bR 101 9 zi y29 0 0,bR 66 9 zd (ace y203 x234 x235 x236 x237 x238 x239 x240 x241 x242) (Qy y203) 0,.box (Zf x234 x235 x236 x237 x238 x239 x240 x241 x242) false,bR 66 9 zd Zr 0 0] (abW zd (Qz y203) (zr (zb.mk x234 x235 x236 x237 x238 x239 x240 x241 x242)) (n:=(Qz y203).length) (esz:=9) (v:=.agg (Zf x234 x235 x236 x237 x238 x239 x240 x241 x242)) (j:=(y203.length:Int)) (off:=0) (id:=5) t66 rfl h247 rfl (by first | exact Nat.zero_le _ | exact Nat.le_refl _ | assumption | omega | (simp only [List.length_set,List.length_append,List.length_cons,List.length_nil,List.length_replicate,List.length_drop] at * <;> omega)) rfl rfl rfl (Zg x246) rfl (by kernel_rfl)) (by kernel_rfl) (std 2 [(90,.ptr 2 8)] [.box (zc12 x231 x232 x233) false,.box zc33 false,.box [aI (zS x4),aI (zS x15),.pv (zw y19),.pv (zw y20),.pv (zw y21),.pv (zw y22),aR 4 9 y29.length,.pv .nils,aR 5 9 (Qy y203)] false,.box zc37 false,bR 101 9 zi y29 0 0,bR 66 9 zd (ace y203 x234 x235 x236 x237 x238 x239 x240 x241 x242) (Qy y203) 0,.box (Zf x234 x235 x236 x237 x238 x239 x240 x241 x242) false,bR 66 9 zd Zr 0 0] (by kernel_rfl) (find [(0,.ptr 0 0),(1,aI a1),(4,.ptr 1 0),(6,.ptr 2 0),(69,aI x8),(70,aI y204)] rfl (by kernel_rfl) (by kernel_rfl) (dn [(0,.ptr 0 0),(1,aI a1),(4,.ptr 1 0),(6,.ptr 2 0),(69,aI x8),(zp96 y204)] ?_))))
          exact ⟨_,_,ZC [(0,.ptr 0 0),(1,aI a1),(4,.ptr 1 0),(6,.ptr 2 0),(69,aI x8),(zp96 y204)] [.box (zc12 x231 x232 x233) false,.box zc33 false,.box [aI (zS x4),aI (zS x15),.pv (zw y19),.pv (zw y20),.pv (zw y21),.pv (zw y22),aR 4 9 y29.length,.pv .nils,aR 5 9 (Qy y203)] false,.box zc37 false,bR 101 9 zi y29 0 0,bR 66 9 zd (ace y203 x234 x235 x236 x237 x238 x239 x240 x241 x242) (Qy y203) 0] (by kernel_rfl),.inr (⟨x231,x232,x233,(ace y203 x234 x235 x236 x237 x238 x239 x240 x241 x242),(zU y204),(Qz y203).length,(Qz y203).length,hm,rfl,rfl,(by first | rfl | assumption | omega | (simp only [List.length_set,List.length_append,List.length_cons,List.length_nil,List.length_replicate,List.length_drop] at * <;> omega)),(by first | exact Nat.zero_le _ | exact Nat.le_refl _ | assumption | omega | (simp only [List.length_set,List.length_append,List.length_cons,List.length_nil,List.length_replicate,List.length_drop] at * <;> omega))⟩)⟩
        ·
         refine c0 h229 (wp_exit ?_)
         exact .inr (⟨y200,y201,y202,y203,aI y204,aB (decide (y204 < x8)),g205,g207,hm,(zT (by kernel_rfl)),rfl,(by first | rfl | assumption | omega | (simp only [List.length_set,List.length_append,List.length_cons,List.length_nil,List.length_replicate,List.length_drop] at * <;> omega)),(by first | exact Nat.zero_le _ | exact Nat.le_refl _ | assumption | omega | (simp only [List.length_set,List.length_append,List.length_cons,List.length_nil,List.length_replicate,List.length_drop] at * <;> omega))⟩)
      ·
       subst hk31
       obtain ⟨k258,hk258,hm⟩:=zx hm
       refine mid (fun t H=>(∃ (y250:Bool) (y251:(Option (List Int))) (y252:Int) (w248:AV) (w249:AV),k258 y250 y251 y252 none=some r∧t=mk 93 [(0,.ptr 0 0),(1,aI a1),(4,.ptr 1 0),(6,.ptr 2 0),(69,aI x8),(70,w248),(71,w249)]∧H=[.box (zc12 y250 y251 y252) false,.box zc33 false,.box (zc40 x4 x15 y19 y20 y21 y22 y29 y30) false,.box zc37 false,bR 101 9 zi y29 0 0,bR 86 2 zj y30 0 0])∨(∃ (y250:Bool) (y251:(Option (List Int))) (y252:Int) (y253:(List zn)) (w248:AV) (w249:AV) (g254:Nat) (g256:Nat),k258 y250 y251 y252 (some y253)=some r∧t=mk 93 [(0,.ptr 0 0),(1,aI a1),(4,.ptr 1 0),(6,.ptr 2 0),(69,aI x8),(70,w248),(71,w249)]∧H=[.box (zc12 y250 y251 y252) false,.box zc33 false,.box (zc45 x4 x15 y19 y20 y21 y22 y29 y30 g254) false,.box zc37 false,bR 101 9 zi y29 0 0,bR 86 2 zj y30 0 0,bR 66 9 zd y253 g256 0]∧y253.length=g254∧g256≤y253.length)) ?_ ?_
       ·
        rintro _ _ (⟨y250,y251,y252,w248,w249,hm,rfl,rfl⟩ | ⟨y250,y251,y252,y253,w248,w249,g254,g256,hm,rfl,rfl,q255,q257⟩)
        ·
         subst hk258
         refine sq (det [(4,.ptr 1 0),(5,aI 0)] [.box (zc12 y250 y251 y252) false,.box (zc40 x4 x15 y19 y20 y21 y22 y29 y30) false,.box (zc40 x4 x15 y19 y20 y21 y22 y29 y30) false,.box zc37 false,bR 101 9 zi y29 0 0,bR 86 2 zj y30 0 0] (by kernel_rfl) (wp_ret ?_))
         obtain rfl:=Option.some.inj hm
         exact ⟨trivial,.tup [.agg [aI ((zb.mk (IntKind.wrap .i64 x4) (IntKind.wrap .i64 x15) y19 y20 y21 y22 (some y29) (some y30) none).fKind),aI ((zb.mk (IntKind.wrap .i64 x4) (IntKind.wrap .i64 x15) y19 y20 y21 y22 (some y29) (some y30) none).fRel),.pv (zg za ((zb.mk (IntKind.wrap .i64 x4) (IntKind.wrap .i64 x15) y19 y20 y21 y22 (some y29) (some y30) none).fWhere)),.pv (zg za ((zb.mk (IntKind.wrap .i64 x4) (IntKind.wrap .i64 x15) y19 y20 y21 y22 (some y29) (some y30) none).fLeft)),.pv (zg za ((zb.mk (IntKind.wrap .i64 x4) (IntKind.wrap .i64 x15) y19 y20 y21 y22 (some y29) (some y30) none).fRight)),.pv (zg za ((zb.mk (IntKind.wrap .i64 x4) (IntKind.wrap .i64 x15) y19 y20 y21 y22 (some y29) (some y30) none).fOut)),.pv (zg zi ((zb.mk (IntKind.wrap .i64 x4) (IntKind.wrap .i64 x15) y19 y20 y21 y22 (some y29) (some y30) none).fAggs)),.pv (zg zj ((zb.mk (IntKind.wrap .i64 x4) (IntKind.wrap .i64 x15) y19 y20 y21 y22 (some y29) (some y30) none).fOrder)),.pv (zg zd ((zb.mk (IntKind.wrap .i64 x4) (IntKind.wrap .i64 x15) y19 y20 y21 y22 (some y29) (some y30) none).fKids))],aI 0],[.box (zc12 y250 y251 y252) false],Zo (x:=.tup [.agg (zc40 x4 x15 y19 y20 y21 y22 y29 y30),aI 0]) [4,5] (by kernel_rfl) (by kernel_rfl) (by kernel_rfl) (aeL (ZZ (afO (zt (zC) (zt (zC) (zt (zC) (zt (zC) (zt (zC) (zt (zC) (zt (qe (n:=y29.length) (id:=4) (l:=y29) (R:=zi) rfl rfl (Nat.zero_le _)) (zt (qe (n:=y30.length) (id:=5) (l:=y30) (R:=zj) rfl rfl (Nat.zero_le _)) (zt (zC) (rfl))))))))))) (ZZ (ahz) (rfl)))) rfl (by kernel_rfl),rfl,rfl⟩
        ·
         subst hk258
         refine sq (det [(4,.ptr 1 0),(5,aI 0)] [.box (zc12 y250 y251 y252) false,.box (zc45 x4 x15 y19 y20 y21 y22 y29 y30 g254) false,.box (zc45 x4 x15 y19 y20 y21 y22 y29 y30 g254) false,.box zc37 false,bR 101 9 zi y29 0 0,bR 86 2 zj y30 0 0,bR 66 9 zd y253 g256 0] (by kernel_rfl) (wp_ret ?_))
         obtain rfl:=Option.some.inj hm
         exact ⟨trivial,.tup [.agg [aI ((zb.mk (IntKind.wrap .i64 x4) (IntKind.wrap .i64 x15) y19 y20 y21 y22 (some y29) (some y30) (some y253)).fKind),aI ((zb.mk (IntKind.wrap .i64 x4) (IntKind.wrap .i64 x15) y19 y20 y21 y22 (some y29) (some y30) (some y253)).fRel),.pv (zg za ((zb.mk (IntKind.wrap .i64 x4) (IntKind.wrap .i64 x15) y19 y20 y21 y22 (some y29) (some y30) (some y253)).fWhere)),.pv (zg za ((zb.mk (IntKind.wrap .i64 x4) (IntKind.wrap .i64 x15) y19 y20 y21 y22 (some y29) (some y30) (some y253)).fLeft)),.pv (zg za ((zb.mk (IntKind.wrap .i64 x4) (IntKind.wrap .i64 x15) y19 y20 y21 y22 (some y29) (some y30) (some y253)).fRight)),.pv (zg za ((zb.mk (IntKind.wrap .i64 x4) (IntKind.wrap .i64 x15) y19 y20 y21 y22 (some y29) (some y30) (some y253)).fOut)),.pv (zg zi ((zb.mk (IntKind.wrap .i64 x4) (IntKind.wrap .i64 x15) y19 y20 y21 y22 (some y29) (some y30) (some y253)).fAggs)),.pv (zg zj ((zb.mk (IntKind.wrap .i64 x4) (IntKind.wrap .i64 x15) y19 y20 y21 y22 (some y29) (some y30) (some y253)).fOrder)),.pv (zg zd ((zb.mk (IntKind.wrap .i64 x4) (IntKind.wrap .i64 x15) y19 y20 y21 y22 (some y29) (some y30) (some y253)).fKids))],aI 0],[.box (zc12 y250 y251 y252) false],Zo (x:=.tup [.agg (zc45 x4 x15 y19 y20 y21 y22 y29 y30 g254),aI 0]) [4,5,6] (by kernel_rfl) (by kernel_rfl) (by kernel_rfl) (aeL (ZZ (afO (zt (zC) (zt (zC) (zt (zC) (zt (zC) (zt (zC) (zt (zC) (zt (qe (n:=y29.length) (id:=4) (l:=y29) (R:=zi) rfl rfl (Nat.zero_le _)) (zt (qe (n:=y30.length) (id:=5) (l:=y30) (R:=zj) rfl rfl (Nat.zero_le _)) (zt (qe (n:=g254) (id:=6) (l:=y253) (R:=zd) rfl (by omega) (by omega)) (rfl))))))))))) (ZZ (ahz) (rfl)))) rfl (by kernel_rfl),rfl,rfl⟩
       refine sq (dn [(0,.ptr 0 0),(1,aI a1),(4,.ptr 1 0),(6,.ptr 2 0),(69,aI x8),(70,aI 0)] (bq ?_))
       refine qq (fun mm t H=>(∃ (y272:Bool) (y273:(Option (List Int))) (y274:Int) (y276:Int),ZK n rc_plan_take a1 x8 k258 mm y272 y273 y274 none y276=some r∧t=mk 93 [(0,.ptr 0 0),(1,aI a1),(4,.ptr 1 0),(6,.ptr 2 0),(69,aI x8),(70,aI y276)]∧H=[.box (zc12 y272 y273 y274) false,.box zc33 false,.box (zc40 x4 x15 y19 y20 y21 y22 y29 y30) false,.box zc37 false,bR 101 9 zi y29 0 0,bR 86 2 zj y30 0 0])∨(∃ (y272:Bool) (y273:(Option (List Int))) (y274:Int) (y275:(List zn)) (y276:Int) (g277:Nat) (g279:Nat),ZK n rc_plan_take a1 x8 k258 mm y272 y273 y274 (some y275) y276=some r∧t=mk 93 [(0,.ptr 0 0),(1,aI a1),(4,.ptr 1 0),(6,.ptr 2 0),(69,aI x8),(70,aI y276)]∧H=[.box (zc12 y272 y273 y274) false,.box zc33 false,.box (zc45 x4 x15 y19 y20 y21 y22 y29 y30 g277) false,.box zc37 false,bR 101 9 zi y29 0 0,bR 86 2 zj y30 0 0,bR 66 9 zd y275 g279 0]∧y275.length=g277∧g279≤y275.length)) (.inl ⟨y26,y27,y28,0,hm,rfl,rfl⟩) ?_ ?_
       · rintro _ _ (⟨y272,y273,y274,y276,hm,_⟩ | ⟨y272,y273,y274,y275,y276,g277,g279,hm,_⟩) <;> exact nomatch hm
       rintro m281 _ _ (⟨y272,y273,y274,y276,hm,rfl,rfl⟩ | ⟨y272,y273,y274,y275,y276,g277,g279,hm,rfl,rfl,q278,q280⟩)
       ·
        simp only [ZK] at hm
        refine sq (dn [(0,.ptr 0 0),(1,aI a1),(4,.ptr 1 0),(6,.ptr 2 0),(69,aI x8),(70,aI y276),(71,aB (decide (y276 < x8)))] ?_)
        refine sq ?_
        rcases zh hm with ⟨h282,hm⟩ | ⟨h282,hm⟩
        ·
         refine c1 h282 (wp_skip (sq (bq (sq (rg (s1 3 [(zp95 a1),(74,aI a1),(73,.ptr 0 0)] ?_))))))
         obtain ⟨⟨x284,x285,x286,x287,x288,x289,x290,x291,x292,x293,x294,x295,x296⟩,h283,hm⟩:=bs hm
         obtain ⟨vv,H1,hC,rfl,rfl⟩:=ih_plan_take h283
         refine dR [(76,.tup [.agg (Zf x287 x288 x289 x290 x291 x292 x293 x294 x295),aI x296])] [.box (zc12 x284 x285 x286) false,.box zc33 false,.box (zc40 x4 x15 y19 y20 y21 y22 y29 y30) false,.box zc37 false,bR 101 9 zi y29 0 0,bR 86 2 zj y30 0 0] [0] [.ptr 0 0,aI (zU a1)] (by kernel_rfl) (by kernel_rfl) (by kernel_rfl) hC (by kernel_rfl) (stf 6 [(0,.ptr 0 0),(1,aI a1),(4,.ptr 1 0),(6,.ptr 2 0),(14,.ptr 6 0),(15,aI x296),(69,aI x8),(70,aI y276)] [.box (zc12 x284 x285 x286) false,.box zc33 false,.box (zc40 x4 x15 y19 y20 y21 y22 y29 y30) false,.box zc37 false,bR 101 9 zi y29 0 0,bR 86 2 zj y30 0 0,.box (Zf x287 x288 x289 x290 x291 x292 x293 x294 x295) false] (by kernel_rfl) ?_)
         refine sq (sq (dn [(0,.ptr 0 0),(1,aI a1),(4,.ptr 1 0),(6,.ptr 2 0),(14,.ptr 6 0),(15,aI x296),(69,aI x8),(70,aI y276),(80,aB (x296 != 0))] ?_))
         rcases zh hm with ⟨h297,hm⟩ | ⟨h297,hm⟩
         ·
          refine c1 h297 (sq (dn [(4,.ptr 1 0),(5,aI x296)] (wp_ret ?_)))
          obtain rfl:=Option.some.inj hm
          exact ⟨trivial,.tup [.agg zc35,aI x296],[.box (zc12 x284 x285 x286) false],Zo (x:=.tup [.agg zc33,aI x296]) (x':=.tup [.agg zc33,aI x296]) [] (by kernel_rfl) (by kernel_rfl) (by kernel_rfl) (by kernel_rfl) rfl (by kernel_rfl),rfl,rfl⟩
         ·
          refine c0 h297 (wp_skip (rgd (std 5 [(87,aR 7 9 1),(86,aI 0),(85,.agg (Zf x287 x288 x289 x290 x291 x292 x293 x294 x295)),(84,.pv .nils),(83,.ptr 2 8)] [.box (zc12 x284 x285 x286) false,.box zc33 false,.box (zc40 x4 x15 y19 y20 y21 y22 y29 y30) false,.box zc37 false,bR 101 9 zi y29 0 0,bR 86 2 zj y30 0 0,.box (Zf x287 x288 x289 x290 x291 x292 x293 x294 x295) false,bR 66 9 zd Zr 0 0] (by kernel_rfl) ?_)))
          obtain ⟨_,h298,hm⟩:=bs hm
          refine dOd [(88,aR 8 9 QM)] [.box (zc12 x284 x285 x286) false,.box zc33 false,.box (zc40 x4 x15 y19 y20 y21 y22 y29 y30) false,.box zc37 false,bR 101 9 zi y29 0 0,bR 86 2 zj y30 0 0,.box (Zf x287 x288 x289 x290 x291 x292 x293 x294 x295) false,bR 66 9 zd Zr 0 0,bR 66 9 zd Zr 0 0] (QG (u:=0) zd Zr (b:=184) t64 t66 rfl rfl rfl qN rfl h298 (show zP (aR 7 9 1) _=some ahJ from by kernel_rfl) (by kernel_rfl)) (by kernel_rfl) ?_
          obtain ⟨x299,h300,hm⟩:=bs hm
          refine dvd 89 (v:=.eptr 8 0 QM 9 (0+Int.toNat 0) 0) (abq Zr .i64 (n:=Zr.length) (id:=8) (esz:=9) t64 t66 h300 rfl rfl (by kernel_rfl)) (by kernel_rfl) (dOd [] [.box (zc12 x284 x285 x286) false,.box zc33 false,.box (zc40 x4 x15 y19 y20 y21 y22 y29 y30) false,.box zc37 false,bR 101 9 zi y29 0 0,bR 86 2 zj y30 0 0,.box (Zf x287 x288 x289 x290 x291 x292 x293 x294 x295) false,bR 66 9 zd Zr 0 0,bR 66 9 zd (acf x287 x288 x289 x290 x291 x292 x293 x294 x295) QM 0] (abW zd Zr (zr (zb.mk x287 x288 x289 x290 x291 x292 x293 x294 x295)) (n:=Zr.length) (esz:=9) (v:=.agg (Zf x287 x288 x289 x290 x291 x292 x293 x294 x295)) (j:=0) (off:=0) (id:=8) t66 rfl h300 rfl (Nat.zero_le _) rfl rfl rfl (Zg x299) rfl (by kernel_rfl)) (by kernel_rfl) (std 2 [(90,.ptr 2 8)] [.box (zc12 x284 x285 x286) false,.box zc33 false,.box [aI (zS x4),aI (zS x15),.pv (zw y19),.pv (zw y20),.pv (zw y21),.pv (zw y22),aR 4 9 y29.length,aR 5 2 y30.length,aR 8 9 QM] false,.box zc37 false,bR 101 9 zi y29 0 0,bR 86 2 zj y30 0 0,.box (Zf x287 x288 x289 x290 x291 x292 x293 x294 x295) false,bR 66 9 zd Zr 0 0,bR 66 9 zd (acf x287 x288 x289 x290 x291 x292 x293 x294 x295) QM 0] (by kernel_rfl) (find [(0,.ptr 0 0),(1,aI a1),(4,.ptr 1 0),(6,.ptr 2 0),(69,aI x8),(70,aI y276)] rfl (by kernel_rfl) (by kernel_rfl) (dn [(0,.ptr 0 0),(1,aI a1),(4,.ptr 1 0),(6,.ptr 2 0),(69,aI x8),(zp96 y276)] ?_))))
          exact ⟨_,_,ZC [(0,.ptr 0 0),(1,aI a1),(4,.ptr 1 0),(6,.ptr 2 0),(69,aI x8),(zp96 y276)] [.box (zc12 x284 x285 x286) false,.box zc33 false,.box [aI (zS x4),aI (zS x15),.pv (zw y19),.pv (zw y20),.pv (zw y21),.pv (zw y22),aR 4 9 y29.length,aR 5 2 y30.length,aR 6 9 QM] false,.box zc37 false,bR 101 9 zi y29 0 0,bR 86 2 zj y30 0 0,bR 66 9 zd (acf x287 x288 x289 x290 x291 x292 x293 x294 x295) QM 0] (by kernel_rfl),.inr (⟨x284,x285,x286,(acf x287 x288 x289 x290 x291 x292 x293 x294 x295),(zU y276),Zr.length,Zr.length,hm,rfl,rfl,(by first | rfl | assumption | omega | (simp only [List.length_set,List.length_append,List.length_cons,List.length_nil,List.length_replicate,List.length_drop] at * <;> omega)),(by first | exact Nat.zero_le _ | exact Nat.le_refl _ | assumption | omega | (simp only [List.length_set,List.length_append,List.length_cons,List.length_nil,List.length_replicate,List.length_drop] at * <;> omega))⟩)⟩
        ·
         refine c0 h282 (wp_exit ?_)
         exact .inl ⟨y272,y273,y274,aI y276,aB (decide (y276 < x8)),hm,(zT (by kernel_rfl)),rfl⟩
       ·
        simp only [ZK] at hm
        refine sq (dn [(0,.ptr 0 0),(1,aI a1),(4,.ptr 1 0),(6,.ptr 2 0),(69,aI x8),(70,aI y276),(71,aB (decide (y276 < x8)))] ?_)
        refine sq ?_
        rcases zh hm with ⟨h301,hm⟩ | ⟨h301,hm⟩
        ·
         refine c1 h301 (wp_skip (sq (bq (sq (rg (s1 3 [(zp95 a1),(74,aI a1),(73,.ptr 0 0)] ?_))))))
         obtain ⟨⟨x303,x304,x305,x306,x307,x308,x309,x310,x311,x312,x313,x314,x315⟩,h302,hm⟩:=bs hm
         obtain ⟨vv,H1,hC,rfl,rfl⟩:=ih_plan_take h302
         refine dR [(76,.tup [.agg (Zf x306 x307 x308 x309 x310 x311 x312 x313 x314),aI x315])] [.box (zc12 x303 x304 x305) false,.box zc33 false,.box (zc45 x4 x15 y19 y20 y21 y22 y29 y30 g277) false,.box zc37 false,bR 101 9 zi y29 0 0,bR 86 2 zj y30 0 0,bR 66 9 zd y275 g279 0] [0] [.ptr 0 0,aI (zU a1)] (by kernel_rfl) (by kernel_rfl) (by kernel_rfl) hC (by kernel_rfl) (stf 6 [(0,.ptr 0 0),(1,aI a1),(4,.ptr 1 0),(6,.ptr 2 0),(14,.ptr 7 0),(15,aI x315),(69,aI x8),(70,aI y276)] [.box (zc12 x303 x304 x305) false,.box zc33 false,.box (zc45 x4 x15 y19 y20 y21 y22 y29 y30 g277) false,.box zc37 false,bR 101 9 zi y29 0 0,bR 86 2 zj y30 0 0,bR 66 9 zd y275 g279 0,.box (Zf x306 x307 x308 x309 x310 x311 x312 x313 x314) false] (by kernel_rfl) ?_)
         refine sq (sq (dn [(0,.ptr 0 0),(1,aI a1),(4,.ptr 1 0),(6,.ptr 2 0),(14,.ptr 7 0),(15,aI x315),(69,aI x8),(70,aI y276),(80,aB (x315 != 0))] ?_))
         rcases zh hm with ⟨h316,hm⟩ | ⟨h316,hm⟩
         ·
          refine c1 h316 (sq (dn [(4,.ptr 1 0),(5,aI x315)] (wp_ret ?_)))
          obtain rfl:=Option.some.inj hm
          exact ⟨trivial,.tup [.agg zc35,aI x315],[.box (zc12 x303 x304 x305) false],Zo (x:=.tup [.agg zc33,aI x315]) (x':=.tup [.agg zc33,aI x315]) [] (by kernel_rfl) (by kernel_rfl) (by kernel_rfl) (by kernel_rfl) rfl (by kernel_rfl),rfl,rfl⟩
         ·
          refine c0 h316 (wp_skip (rgd (shd 3 [(85,.agg (Zf x306 x307 x308 x309 x310 x311 x312 x313 x314)),(84,aR 6 9 g277),(83,.ptr 2 8)] (by kernel_rfl) (dvd 86 (v:=aI (y275.length:Int)) (agO y275 (n:=g277) (id:=6) (esz:=9) t64 (by omega) (by kernel_rfl)) (by kernel_rfl) (std 1 [(87,aR 8 9 1)] [.box (zc12 x303 x304 x305) false,.box zc33 false,.box (zc45 x4 x15 y19 y20 y21 y22 y29 y30 g277) false,.box zc37 false,bR 101 9 zi y29 0 0,bR 86 2 zj y30 0 0,bR 66 9 zd y275 g279 0,.box (Zf x306 x307 x308 x309 x310 x311 x312 x313 x314) false,bR 66 9 zd Zr 0 0] (by kernel_rfl) ?_)))))
          obtain ⟨_,h317,hm⟩:=bs hm
          refine dOd [(88,aR 6 9 (Qy y275))] [.box (zc12 x303 x304 x305) false,.box zc33 false,.box (zc45 x4 x15 y19 y20 y21 y22 y29 y30 g277) false,.box zc37 false,bR 101 9 zi y29 0 0,bR 86 2 zj y30 0 0,bR 66 9 zd (Qz y275) g279 0,.box (Zf x306 x307 x308 x309 x310 x311 x312 x313 x314) false,bR 66 9 zd Zr 0 0] (ZT (u:=0) (n:=g277) (id:=6) zd y275 Zr (b:=184) t64 t66 rfl rfl rfl qN rfl h317 rfl (by omega) (by omega) (show zP (aR 8 9 1) _=some ahJ from by kernel_rfl) (by kernel_rfl)) (by kernel_rfl) ?_
          obtain ⟨x318,h319,hm⟩:=bs hm
          refine dvd 89 (v:=.eptr 6 0 (Qy y275) 9 (0+Int.toNat (y275.length:Int)) 0) (abq (Qz y275) .i64 (n:=(Qz y275).length) (id:=6) (esz:=9) t64 t66 h319 rfl rfl (by kernel_rfl)) (by kernel_rfl) (dOd [] [.box (zc12 x303 x304 x305) false,.box zc33 false,.box (zc45 x4 x15 y19 y20 y21 y22 y29 y30 g277) false,.box zc37 false,bR 101 9 zi y29 0 0,bR 86 2 zj y30 0 0,bR 66 9 zd (ace y275 x306 x307 x308 x309 x310 x311 x312 x313 x314) (Qy y275) 0,.box (Zf x306 x307 x308 x309 x310 x311 x312 x313 x314) false,bR 66 9 zd Zr 0 0] (abW zd (Qz y275) (zr (zb.mk x306 x307 x308 x309 x310 x311 x312 x313 x314)) (n:=(Qz y275).length) (esz:=9) (v:=.agg (Zf x306 x307 x308 x309 x310 x311 x312 x313 x314)) (j:=(y275.length:Int)) (off:=0) (id:=6) t66 rfl h319 rfl (by first | exact Nat.zero_le _ | exact Nat.le_refl _ | assumption | omega | (simp only [List.length_set,List.length_append,List.length_cons,List.length_nil,List.length_replicate,List.length_drop] at * <;> omega)) rfl rfl rfl (Zg x318) rfl (by kernel_rfl)) (by kernel_rfl) (std 2 [(90,.ptr 2 8)] [.box (zc12 x303 x304 x305) false,.box zc33 false,.box [aI (zS x4),aI (zS x15),.pv (zw y19),.pv (zw y20),.pv (zw y21),.pv (zw y22),aR 4 9 y29.length,aR 5 2 y30.length,aR 6 9 (Qy y275)] false,.box zc37 false,bR 101 9 zi y29 0 0,bR 86 2 zj y30 0 0,bR 66 9 zd (ace y275 x306 x307 x308 x309 x310 x311 x312 x313 x314) (Qy y275) 0,.box (Zf x306 x307 x308 x309 x310 x311 x312 x313 x314) false,bR 66 9 zd Zr 0 0] (by kernel_rfl) (find [(0,.ptr 0 0),(1,aI a1),(4,.ptr 1 0),(6,.ptr 2 0),(69,aI x8),(70,aI y276)] rfl (by kernel_rfl) (by kernel_rfl) (dn [(0,.ptr 0 0),(1,aI a1),(4,.ptr 1 0),(6,.ptr 2 0),(69,aI x8),(zp96 y276)] ?_))))
          exact ⟨_,_,ZC [(0,.ptr 0 0),(1,aI a1),(4,.ptr 1 0),(6,.ptr 2 0),(69,aI x8),(zp96 y276)] [.box (zc12 x303 x304 x305) false,.box zc33 false,.box [aI (zS x4),aI (zS x15),.pv (zw y19),.pv (zw y20),.pv (zw y21),.pv (zw y22),aR 4 9 y29.length,aR 5 2 y30.length,aR 6 9 (Qy y275)] false,.box zc37 false,bR 101 9 zi y29 0 0,bR 86 2 zj y30 0 0,bR 66 9 zd (ace y275 x306 x307 x308 x309 x310 x311 x312 x313 x314) (Qy y275) 0] (by kernel_rfl),.inr (⟨x303,x304,x305,(ace y275 x306 x307 x308 x309 x310 x311 x312 x313 x314),(zU y276),(Qz y275).length,(Qz y275).length,hm,rfl,rfl,(by first | rfl | assumption | omega | (simp only [List.length_set,List.length_append,List.length_cons,List.length_nil,List.length_replicate,List.length_drop] at * <;> omega)),(by first | exact Nat.zero_le _ | exact Nat.le_refl _ | assumption | omega | (simp only [List.length_set,List.length_append,List.length_cons,List.length_nil,List.length_replicate,List.length_drop] at * <;> omega))⟩)⟩
        ·
         refine c0 h301 (wp_exit ?_)
         exact .inr (⟨y272,y273,y274,y275,aI y276,aB (decide (y276 < x8)),g277,g279,hm,(zT (by kernel_rfl)),rfl,(by first | rfl | assumption | omega | (simp only [List.length_set,List.length_append,List.length_cons,List.length_nil,List.length_replicate,List.length_drop] at * <;> omega)),(by first | exact Nat.zero_le _ | exact Nat.le_refl _ | assumption | omega | (simp only [List.length_set,List.length_append,List.length_cons,List.length_nil,List.length_replicate,List.length_drop] at * <;> omega))⟩)
     refine sq (rg (s1 1 [(63,.ptr 0 0)] ?_))
     obtain ⟨x321,h320,hm⟩:=bs hm
     rcases x321 with ⟨x322,x323,x324,x325⟩ | ⟨x326,x327,x328,x329,x330⟩ | ⟨x331,x332,x333,x334,x335⟩ | ⟨x336,x337,x338,x339,x340,x341⟩
     ·
      obtain ⟨vv,H1,hC,rfl,rfl⟩:=aco h320
      refine dR [(64,aI x325)] [.box (zc12 x322 x323 x324) false,.box zc33 false,.box (zc36 x4 x15 y19 y20 y21 y22) false,.box zc37 false] [0,2] [.ptr 0 0,.ptr 2 0] (by kernel_rfl) (by kernel_rfl) (by kernel_rfl) hC (by kernel_rfl) (fq 1 [(0,.ptr 0 0),(1,aI a1),(4,.ptr 1 0),(6,.ptr 2 0),(8,aI x8),(13,aI x325)] (sq (dn [(0,.ptr 0 0),(1,aI a1),(4,.ptr 1 0),(6,.ptr 2 0),(8,aI x8),(13,aI x325),(66,aB (x325 != 0))] ?_)))
      rcases zh hm with ⟨h342,hm⟩ | ⟨h342,hm⟩
      ·
       refine c1 h342 (sq (dn [(4,.ptr 1 0),(5,aI x325)] (wp_ret ?_)))
       obtain rfl:=Option.some.inj hm
       exact ⟨trivial,.tup [.agg zc35,aI x325],[.box (zc12 x322 x323 x324) false],Zo (x:=.tup [.agg zc33,aI x325]) (x':=.tup [.agg zc33,aI x325]) [] (by kernel_rfl) (by kernel_rfl) (by kernel_rfl) (by kernel_rfl) rfl (by kernel_rfl),rfl,rfl⟩
      ·
       refine c0 h342 (wp_skip ?_)
       exact .inl ⟨x322,x323,x324,aI x325,aB (x325 != 0),hm,(zT (by kernel_rfl)),rfl⟩
     ·
      obtain ⟨vv,H1,hC,rfl,rfl⟩:=aco h320
      refine dR [(64,aI x330)] [.box (zc12 x326 x327 x328) false,.box zc33 false,.box (zc38 x4 x15 y19 y20 y21 y22 x329) false,.box zc37 false,bR 86 2 zj x329 0 0] [0,2] [.ptr 0 0,.ptr 2 0] (by kernel_rfl) (by kernel_rfl) (by kernel_rfl) hC (by kernel_rfl) (fq 1 [(0,.ptr 0 0),(1,aI a1),(4,.ptr 1 0),(6,.ptr 2 0),(8,aI x8),(13,aI x330)] (sq (dn [(0,.ptr 0 0),(1,aI a1),(4,.ptr 1 0),(6,.ptr 2 0),(8,aI x8),(13,aI x330),(66,aB (x330 != 0))] ?_)))
      rcases zh hm with ⟨h343,hm⟩ | ⟨h343,hm⟩
      ·
       refine c1 h343 (sq (dn [(4,.ptr 1 0),(5,aI x330)] (wp_ret ?_)))
       obtain rfl:=Option.some.inj hm
       exact ⟨trivial,.tup [.agg zc35,aI x330],[.box (zc12 x326 x327 x328) false],Zo (x:=.tup [.agg zc33,aI x330]) (x':=.tup [.agg zc33,aI x330]) [] (by kernel_rfl) (by kernel_rfl) (by kernel_rfl) (by kernel_rfl) rfl (by kernel_rfl),rfl,rfl⟩
      ·
       refine c0 h343 (wp_skip ?_)
       exact .inr (.inl ⟨x326,x327,x328,x329,aI x330,aB (x330 != 0),hm,(zT (by kernel_rfl)),rfl⟩)
     ·
      obtain ⟨vv,H1,hC,rfl,rfl⟩:=aco h320
      refine dR [(64,aI x335)] [.box (zc12 x331 x332 x333) false,.box zc33 false,.box (zc39 x4 x15 y19 y20 y21 y22 x334) false,.box zc37 false,bR 101 9 zi x334 0 0] [0,2] [.ptr 0 0,.ptr 2 0] (by kernel_rfl) (by kernel_rfl) (by kernel_rfl) hC (by kernel_rfl) (fq 1 [(0,.ptr 0 0),(1,aI a1),(4,.ptr 1 0),(6,.ptr 2 0),(8,aI x8),(13,aI x335)] (sq (dn [(0,.ptr 0 0),(1,aI a1),(4,.ptr 1 0),(6,.ptr 2 0),(8,aI x8),(13,aI x335),(66,aB (x335 != 0))] ?_)))
      rcases zh hm with ⟨h344,hm⟩ | ⟨h344,hm⟩
      ·
       refine c1 h344 (sq (dn [(4,.ptr 1 0),(5,aI x335)] (wp_ret ?_)))
       obtain rfl:=Option.some.inj hm
       exact ⟨trivial,.tup [.agg zc35,aI x335],[.box (zc12 x331 x332 x333) false],Zo (x:=.tup [.agg zc33,aI x335]) (x':=.tup [.agg zc33,aI x335]) [] (by kernel_rfl) (by kernel_rfl) (by kernel_rfl) (by kernel_rfl) rfl (by kernel_rfl),rfl,rfl⟩
      ·
       refine c0 h344 (wp_skip ?_)
       exact .inr (.inr (.inl ⟨x331,x332,x333,x334,aI x335,aB (x335 != 0),hm,(zT (by kernel_rfl)),rfl⟩))
     ·
      obtain ⟨vv,H1,hC,rfl,rfl⟩:=aco h320
      refine dR [(64,aI x341)] [.box (zc12 x336 x337 x338) false,.box zc33 false,.box (zc40 x4 x15 y19 y20 y21 y22 x339 x340) false,.box zc37 false,bR 101 9 zi x339 0 0,bR 86 2 zj x340 0 0] [0,2] [.ptr 0 0,.ptr 2 0] (by kernel_rfl) (by kernel_rfl) (by kernel_rfl) hC (by kernel_rfl) (fq 1 [(0,.ptr 0 0),(1,aI a1),(4,.ptr 1 0),(6,.ptr 2 0),(8,aI x8),(13,aI x341)] (sq (dn [(0,.ptr 0 0),(1,aI a1),(4,.ptr 1 0),(6,.ptr 2 0),(8,aI x8),(13,aI x341),(66,aB (x341 != 0))] ?_)))
      rcases zh hm with ⟨h345,hm⟩ | ⟨h345,hm⟩
      ·
       refine c1 h345 (sq (dn [(4,.ptr 1 0),(5,aI x341)] (wp_ret ?_)))
       obtain rfl:=Option.some.inj hm
       exact ⟨trivial,.tup [.agg zc35,aI x341],[.box (zc12 x336 x337 x338) false],Zo (x:=.tup [.agg zc33,aI x341]) (x':=.tup [.agg zc33,aI x341]) [] (by kernel_rfl) (by kernel_rfl) (by kernel_rfl) (by kernel_rfl) rfl (by kernel_rfl),rfl,rfl⟩
      ·
       refine c0 h345 (wp_skip ?_)
       exact .inr (.inr (.inr (⟨x336,x337,x338,x339,x340,aI x341,aB (x341 != 0),hm,(zT (by kernel_rfl)),rfl⟩)))
    refine sq (det [(0,.ptr 0 0),(1,aI a1),(4,.ptr 1 0),(6,.ptr 2 0),(8,aI x8),(44,aR 3 1 4),(45,aI 4),(46,aI 0)] [.box (zc12 x12 x13 x14) false,.box zc33 false,.box [aI (zS x4),aI (zS x15),.pv .nils,.pv .nils,.pv .nils,.pv .nils,.pv .nils,.pv .nils,.pv .nils] false,.box zc37 false] (by kernel_rfl) (bq ?_))
    refine qq (fun mm t H=>(∃ (y368:Bool) (y369:(Option (List Int))) (y370:Int) (y371:(Option (List zc))) (y372:(Option (List zc))) (y373:(Option (List zc))) (y374:(Option (List zc))),Za n k23 mm y368 y369 y370 y371 y372 y373 y374 0=some r∧t=mk 93 [(0,.ptr 0 0),(1,aI a1),(4,.ptr 1 0),(6,.ptr 2 0),(8,aI x8),(44,aR 3 1 4),(45,aI 4),(46,aI 0)]∧H=[.box (zc12 y368 y369 y370) false,.box zc33 false,.box (zc36 x4 x15 y371 y372 y373 y374) false,.box zc37 false])∨(∃ (y368:Bool) (y369:(Option (List Int))) (y370:Int) (y371:(Option (List zc))) (y372:(Option (List zc))) (y373:(Option (List zc))) (y374:(Option (List zc))),Za n k23 mm y368 y369 y370 y371 y372 y373 y374 1=some r∧t=mk 93 [(0,.ptr 0 0),(1,aI a1),(4,.ptr 1 0),(6,.ptr 2 0),(8,aI x8),(44,aR 3 1 4),(45,aI 4),(46,aI 1)]∧H=[.box (zc12 y368 y369 y370) false,.box zc33 false,.box (zc36 x4 x15 y371 y372 y373 y374) false,.box zc37 false])∨(∃ (y368:Bool) (y369:(Option (List Int))) (y370:Int) (y371:(Option (List zc))) (y372:(Option (List zc))) (y373:(Option (List zc))) (y374:(Option (List zc))),Za n k23 mm y368 y369 y370 y371 y372 y373 y374 2=some r∧t=mk 93 [(0,.ptr 0 0),(1,aI a1),(4,.ptr 1 0),(6,.ptr 2 0),(8,aI x8),(44,aR 3 1 4),(45,aI 4),(46,aI 2)]∧H=[.box (zc12 y368 y369 y370) false,.box zc33 false,.box (zc36 x4 x15 y371 y372 y373 y374) false,.box zc37 false])∨(∃ (y368:Bool) (y369:(Option (List Int))) (y370:Int) (y371:(Option (List zc))) (y372:(Option (List zc))) (y373:(Option (List zc))) (y374:(Option (List zc))),Za n k23 mm y368 y369 y370 y371 y372 y373 y374 3=some r∧t=mk 93 [(0,.ptr 0 0),(1,aI a1),(4,.ptr 1 0),(6,.ptr 2 0),(8,aI x8),(44,aR 3 1 4),(45,aI 4),(46,aI 3)]∧H=[.box (zc12 y368 y369 y370) false,.box zc33 false,.box (zc36 x4 x15 y371 y372 y373 y374) false,.box zc37 false])∨(∃ (y368:Bool) (y369:(Option (List Int))) (y370:Int) (y371:(Option (List zc))) (y372:(Option (List zc))) (y373:(Option (List zc))) (y374:(Option (List zc))),Za n k23 mm y368 y369 y370 y371 y372 y373 y374 4=some r∧t=mk 93 [(0,.ptr 0 0),(1,aI a1),(4,.ptr 1 0),(6,.ptr 2 0),(8,aI x8),(44,aR 3 1 4),(45,aI 4),(46,aI 4)]∧H=[.box (zc12 y368 y369 y370) false,.box zc33 false,.box (zc36 x4 x15 y371 y372 y373 y374) false,.box zc37 false])) (.inl ⟨x12,x13,x14,none,none,none,none,hm,rfl,rfl⟩) ?_ ?_
    · rintro _ _ (⟨y368,y369,y370,y371,y372,y373,y374,hm,_⟩ | ⟨y368,y369,y370,y371,y372,y373,y374,hm,_⟩ | ⟨y368,y369,y370,y371,y372,y373,y374,hm,_⟩ | ⟨y368,y369,y370,y371,y372,y373,y374,hm,_⟩ | ⟨y368,y369,y370,y371,y372,y373,y374,hm,_⟩) <;> exact nomatch hm
    rintro m375 _ _ (⟨y368,y369,y370,y371,y372,y373,y374,hm,rfl,rfl⟩ | ⟨y368,y369,y370,y371,y372,y373,y374,hm,rfl,rfl⟩ | ⟨y368,y369,y370,y371,y372,y373,y374,hm,rfl,rfl⟩ | ⟨y368,y369,y370,y371,y372,y373,y374,hm,rfl,rfl⟩ | ⟨y368,y369,y370,y371,y372,y373,y374,hm,rfl,rfl⟩)
    ·
     simp only [Za] at hm
     refine sq (dn [(0,.ptr 0 0),(1,aI a1),(4,.ptr 1 0),(6,.ptr 2 0),(8,aI x8),(44,aR 3 1 4),(45,aI 4),(46,aI 0),(47,aB true)] (sq (cT (by kernel_rfl) (wp_skip (sq (bq (sq (dn [(0,.ptr 0 0),(1,aI a1),(4,.ptr 1 0),(6,.ptr 2 0),(8,aI x8),(10,.ptr 2 2),(44,aR 3 1 4),(45,aI 4),(46,aI 0)] (sq (rg (s1 1 [(51,.ptr 0 0)] ?_)))))))))))
     obtain ⟨⟨x377,x378,x379,x380,x381⟩,h376,hm⟩:=bs hm
     obtain ⟨vv,H1,hC,rfl,rfl⟩:=abK h376
     refine dR [(52,.tup [.pv (zw x380),aI x381])] [.box (zc12 x377 x378 x379) false,.box zc33 false,.box (zc36 x4 x15 y371 y372 y373 y374) false,.box zc37 false] [0] [.ptr 0 0] (by kernel_rfl) (by kernel_rfl) (by kernel_rfl) hC (by kernel_rfl) (fq 5 [(0,.ptr 0 0),(1,aI a1),(4,.ptr 1 0),(6,.ptr 2 0),(8,aI x8),(10,.ptr 2 2),(zp98 x380),(12,aI x381),(44,aR 3 1 4),(45,aI 4),(46,aI 0)] (sq (sq (dn [(0,.ptr 0 0),(1,aI a1),(4,.ptr 1 0),(6,.ptr 2 0),(8,aI x8),(10,.ptr 2 2),(zp98 x380),(12,aI x381),(44,aR 3 1 4),(45,aI 4),(46,aI 0),(56,aB (x381 != 0))] ?_))))
     rcases zh hm with ⟨h382,hm⟩ | ⟨h382,hm⟩
     ·
      refine c1 h382 (sq (dn [(4,.ptr 1 0),(5,aI x381)] (wp_ret ?_)))
      obtain rfl:=Option.some.inj hm
      exact ⟨trivial,.tup [.agg zc35,aI x381],[.box (zc12 x377 x378 x379) false],Zo (x:=.tup [.agg zc33,aI x381]) (x':=.tup [.agg zc33,aI x381]) [] (by kernel_rfl) (by kernel_rfl) (by kernel_rfl) (by kernel_rfl) rfl (by kernel_rfl),rfl,rfl⟩
     ·
      refine c0 h382 (wp_skip (det [(0,.ptr 0 0),(1,aI a1),(4,.ptr 1 0),(6,.ptr 2 0),(8,aI x8),(44,aR 3 1 4),(45,aI 4),(46,aI 0)] [.box (zc12 x377 x378 x379) false,.box zc33 false,.box (zc36 x4 x15 x380 y372 y373 y374) false,.box zc37 false] (by kernel_rfl) (dn [(0,.ptr 0 0),(1,aI a1),(4,.ptr 1 0),(6,.ptr 2 0),(8,aI x8),(44,aR 3 1 4),(45,aI 4),(46,aI 1)] ?_)))
      exact ⟨_,_,ZC [(0,.ptr 0 0),(1,aI a1),(4,.ptr 1 0),(6,.ptr 2 0),(8,aI x8),(44,aR 3 1 4),(45,aI 4),(46,aI 1)] [.box (zc12 x377 x378 x379) false,.box zc33 false,.box (zc36 x4 x15 x380 y372 y373 y374) false,.box zc37 false] (by kernel_rfl),.inr (.inl ⟨x377,x378,x379,x380,y372,y373,y374,hm,rfl,rfl⟩)⟩
    ·
     simp only [Za] at hm
     refine sq (dn [(0,.ptr 0 0),(1,aI a1),(4,.ptr 1 0),(6,.ptr 2 0),(8,aI x8),(44,aR 3 1 4),(45,aI 4),(46,aI 1),(47,aB true)] (sq (cT (by kernel_rfl) (wp_skip (sq (bq (sq (dn [(0,.ptr 0 0),(1,aI a1),(4,.ptr 1 0),(6,.ptr 2 0),(8,aI x8),(10,.ptr 2 3),(44,aR 3 1 4),(45,aI 4),(46,aI 1)] (sq (rg (s1 1 [(51,.ptr 0 0)] ?_)))))))))))
     obtain ⟨⟨x384,x385,x386,x387,x388⟩,h383,hm⟩:=bs hm
     obtain ⟨vv,H1,hC,rfl,rfl⟩:=abK h383
     refine dR [(52,.tup [.pv (zw x387),aI x388])] [.box (zc12 x384 x385 x386) false,.box zc33 false,.box (zc36 x4 x15 y371 y372 y373 y374) false,.box zc37 false] [0] [.ptr 0 0] (by kernel_rfl) (by kernel_rfl) (by kernel_rfl) hC (by kernel_rfl) (fq 5 [(0,.ptr 0 0),(1,aI a1),(4,.ptr 1 0),(6,.ptr 2 0),(8,aI x8),(10,.ptr 2 3),(zp98 x387),(12,aI x388),(44,aR 3 1 4),(45,aI 4),(46,aI 1)] (sq (sq (dn [(0,.ptr 0 0),(1,aI a1),(4,.ptr 1 0),(6,.ptr 2 0),(8,aI x8),(10,.ptr 2 3),(zp98 x387),(12,aI x388),(44,aR 3 1 4),(45,aI 4),(46,aI 1),(56,aB (x388 != 0))] ?_))))
     rcases zh hm with ⟨h389,hm⟩ | ⟨h389,hm⟩
     ·
      refine c1 h389 (sq (dn [(4,.ptr 1 0),(5,aI x388)] (wp_ret ?_)))
      obtain rfl:=Option.some.inj hm
      exact ⟨trivial,.tup [.agg zc35,aI x388],[.box (zc12 x384 x385 x386) false],Zo (x:=.tup [.agg zc33,aI x388]) (x':=.tup [.agg zc33,aI x388]) [] (by kernel_rfl) (by kernel_rfl) (by kernel_rfl) (by kernel_rfl) rfl (by kernel_rfl),rfl,rfl⟩
     ·
      refine c0 h389 (wp_skip (det [(0,.ptr 0 0),(1,aI a1),(4,.ptr 1 0),(6,.ptr 2 0),(8,aI x8),(44,aR 3 1 4),(45,aI 4),(46,aI 1)] [.box (zc12 x384 x385 x386) false,.box zc33 false,.box (zc36 x4 x15 y371 x387 y373 y374) false,.box zc37 false] (by kernel_rfl) (dn [(0,.ptr 0 0),(1,aI a1),(4,.ptr 1 0),(6,.ptr 2 0),(8,aI x8),(44,aR 3 1 4),(45,aI 4),(46,aI 2)] ?_)))
      exact ⟨_,_,ZC [(0,.ptr 0 0),(1,aI a1),(4,.ptr 1 0),(6,.ptr 2 0),(8,aI x8),(44,aR 3 1 4),(45,aI 4),(46,aI 2)] [.box (zc12 x384 x385 x386) false,.box zc33 false,.box (zc36 x4 x15 y371 x387 y373 y374) false,.box zc37 false] (by kernel_rfl),.inr (.inr (.inl ⟨x384,x385,x386,y371,x387,y373,y374,hm,rfl,rfl⟩))⟩
    ·
     simp only [Za] at hm
     refine sq (dn [(0,.ptr 0 0),(1,aI a1),(4,.ptr 1 0),(6,.ptr 2 0),(8,aI x8),(44,aR 3 1 4),(45,aI 4),(46,aI 2),(47,aB true)] (sq (cT (by kernel_rfl) (wp_skip (sq (bq (sq (dn [(0,.ptr 0 0),(1,aI a1),(4,.ptr 1 0),(6,.ptr 2 0),(8,aI x8),(10,.ptr 2 4),(44,aR 3 1 4),(45,aI 4),(46,aI 2)] (sq (rg (s1 1 [(51,.ptr 0 0)] ?_)))))))))))
     obtain ⟨⟨x391,x392,x393,x394,x395⟩,h390,hm⟩:=bs hm
     obtain ⟨vv,H1,hC,rfl,rfl⟩:=abK h390
     refine dR [(52,.tup [.pv (zw x394),aI x395])] [.box (zc12 x391 x392 x393) false,.box zc33 false,.box (zc36 x4 x15 y371 y372 y373 y374) false,.box zc37 false] [0] [.ptr 0 0] (by kernel_rfl) (by kernel_rfl) (by kernel_rfl) hC (by kernel_rfl) (fq 5 [(0,.ptr 0 0),(1,aI a1),(4,.ptr 1 0),(6,.ptr 2 0),(8,aI x8),(10,.ptr 2 4),(zp98 x394),(12,aI x395),(44,aR 3 1 4),(45,aI 4),(46,aI 2)] (sq (sq (dn [(0,.ptr 0 0),(1,aI a1),(4,.ptr 1 0),(6,.ptr 2 0),(8,aI x8),(10,.ptr 2 4),(zp98 x394),(12,aI x395),(44,aR 3 1 4),(45,aI 4),(46,aI 2),(56,aB (x395 != 0))] ?_))))
     rcases zh hm with ⟨h396,hm⟩ | ⟨h396,hm⟩
     ·
      refine c1 h396 (sq (dn [(4,.ptr 1 0),(5,aI x395)] (wp_ret ?_)))
      obtain rfl:=Option.some.inj hm
      exact ⟨trivial,.tup [.agg zc35,aI x395],[.box (zc12 x391 x392 x393) false],Zo (x:=.tup [.agg zc33,aI x395]) (x':=.tup [.agg zc33,aI x395]) [] (by kernel_rfl) (by kernel_rfl) (by kernel_rfl) (by kernel_rfl) rfl (by kernel_rfl),rfl,rfl⟩
     ·
      refine c0 h396 (wp_skip (det [(0,.ptr 0 0),(1,aI a1),(4,.ptr 1 0),(6,.ptr 2 0),(8,aI x8),(44,aR 3 1 4),(45,aI 4),(46,aI 2)] [.box (zc12 x391 x392 x393) false,.box zc33 false,.box (zc36 x4 x15 y371 y372 x394 y374) false,.box zc37 false] (by kernel_rfl) (dn [(0,.ptr 0 0),(1,aI a1),(4,.ptr 1 0),(6,.ptr 2 0),(8,aI x8),(44,aR 3 1 4),(45,aI 4),(46,aI 3)] ?_)))
      exact ⟨_,_,ZC [(0,.ptr 0 0),(1,aI a1),(4,.ptr 1 0),(6,.ptr 2 0),(8,aI x8),(44,aR 3 1 4),(45,aI 4),(46,aI 3)] [.box (zc12 x391 x392 x393) false,.box zc33 false,.box (zc36 x4 x15 y371 y372 x394 y374) false,.box zc37 false] (by kernel_rfl),.inr (.inr (.inr (.inl ⟨x391,x392,x393,y371,y372,x394,y374,hm,rfl,rfl⟩)))⟩
    ·
     simp only [Za] at hm
     refine sq (dn [(0,.ptr 0 0),(1,aI a1),(4,.ptr 1 0),(6,.ptr 2 0),(8,aI x8),(44,aR 3 1 4),(45,aI 4),(46,aI 3),(47,aB true)] (sq (cT (by kernel_rfl) (wp_skip (sq (bq (sq (dn [(0,.ptr 0 0),(1,aI a1),(4,.ptr 1 0),(6,.ptr 2 0),(8,aI x8),(10,.ptr 2 5),(44,aR 3 1 4),(45,aI 4),(46,aI 3)] (sq (rg (s1 1 [(51,.ptr 0 0)] ?_)))))))))))
     obtain ⟨⟨x398,x399,x400,x401,x402⟩,h397,hm⟩:=bs hm
     obtain ⟨vv,H1,hC,rfl,rfl⟩:=abK h397
     refine dR [(52,.tup [.pv (zw x401),aI x402])] [.box (zc12 x398 x399 x400) false,.box zc33 false,.box (zc36 x4 x15 y371 y372 y373 y374) false,.box zc37 false] [0] [.ptr 0 0] (by kernel_rfl) (by kernel_rfl) (by kernel_rfl) hC (by kernel_rfl) (fq 5 [(0,.ptr 0 0),(1,aI a1),(4,.ptr 1 0),(6,.ptr 2 0),(8,aI x8),(10,.ptr 2 5),(zp98 x401),(12,aI x402),(44,aR 3 1 4),(45,aI 4),(46,aI 3)] (sq (sq (dn [(0,.ptr 0 0),(1,aI a1),(4,.ptr 1 0),(6,.ptr 2 0),(8,aI x8),(10,.ptr 2 5),(zp98 x401),(12,aI x402),(44,aR 3 1 4),(45,aI 4),(46,aI 3),(56,aB (x402 != 0))] ?_))))
     rcases zh hm with ⟨h403,hm⟩ | ⟨h403,hm⟩
     ·
      refine c1 h403 (sq (dn [(4,.ptr 1 0),(5,aI x402)] (wp_ret ?_)))
      obtain rfl:=Option.some.inj hm
      exact ⟨trivial,.tup [.agg zc35,aI x402],[.box (zc12 x398 x399 x400) false],Zo (x:=.tup [.agg zc33,aI x402]) (x':=.tup [.agg zc33,aI x402]) [] (by kernel_rfl) (by kernel_rfl) (by kernel_rfl) (by kernel_rfl) rfl (by kernel_rfl),rfl,rfl⟩
     ·
      refine c0 h403 (wp_skip (det [(0,.ptr 0 0),(1,aI a1),(4,.ptr 1 0),(6,.ptr 2 0),(8,aI x8),(44,aR 3 1 4),(45,aI 4),(46,aI 3)] [.box (zc12 x398 x399 x400) false,.box zc33 false,.box (zc36 x4 x15 y371 y372 y373 x401) false,.box zc37 false] (by kernel_rfl) (dn [(0,.ptr 0 0),(1,aI a1),(4,.ptr 1 0),(6,.ptr 2 0),(8,aI x8),(44,aR 3 1 4),(45,aI 4),(46,aI 4)] ?_)))
      exact ⟨_,_,ZC [(0,.ptr 0 0),(1,aI a1),(4,.ptr 1 0),(6,.ptr 2 0),(8,aI x8),(44,aR 3 1 4),(45,aI 4),(46,aI 4)] [.box (zc12 x398 x399 x400) false,.box zc33 false,.box (zc36 x4 x15 y371 y372 y373 x401) false,.box zc37 false] (by kernel_rfl),.inr (.inr (.inr (.inr (⟨x398,x399,x400,y371,y372,y373,x401,hm,rfl,rfl⟩))))⟩
    ·
     simp only [Za] at hm
     refine sq (dn [(0,.ptr 0 0),(1,aI a1),(4,.ptr 1 0),(6,.ptr 2 0),(8,aI x8),(44,aR 3 1 4),(45,aI 4),(46,aI 4),(47,aB false)] (sq (cF (by kernel_rfl) (wp_exit ?_))))
     exact ⟨y368,y369,y370,y371,y372,y373,y374,hm,rfl,rfl⟩
theorem afB:∀ (m:Nat),∀ {n:Nat} {a0:zf} {a1:Int} {r:Bool × (Option (List Int)) × Int × Int × Int × (Option (List zc)) × (Option (List zc)) × (Option (List zc)) × (Option (List zc)) × (Option (List zo)) × (Option (List zu)) × (Option (List zn)) × Int} (hm:Z9 m n a0 a1=some r),∃ vv H1,call G n 133 [.ptr 0 0,aI a1] [.box (zc10 a0) false]=some (.ret vv,H1)∧(match (generalizing:=false) r with | (r0,r1,r2,r3,r4,r5,r6,r7,r8,r9,r10,r11,r12)=>(vv=.tup [.agg [aI r3,aI r4,.pv (zg za r5),.pv (zg za r6),.pv (zg za r7),.pv (zg za r8),.pv (zg zi r9),.pv (zg zj r10),.pv (zg zd r11)],aI r12]∧H1=[.box [aB r0,.pv (zg (rI .u8) r1),aI r2] false]))
  | 0=>by intros; rename_i hm; exact nomatch hm
  | m+1=>fun hm=>
    aju (afB m) hm
theorem ak2 {n:Nat} {a0:zf} {a1:Int} {r:Bool × (Option (List Int)) × Int × Int × Int × (Option (List zc)) × (Option (List zc)) × (Option (List zc)) × (Option (List zc)) × (Option (List zo)) × (Option (List zu)) × (Option (List zn)) × Int} (hm:ahk n a0 a1=some r):
    ∃ vv H1,call G n 133 [.ptr 0 0,aI a1] [.box (zc10 a0) false]=some (.ret vv,H1)∧(match (generalizing:=false) r with | (r0,r1,r2,r3,r4,r5,r6,r7,r8,r9,r10,r11,r12)=>(vv=.tup [.agg [aI r3,aI r4,.pv (zg za r5),.pv (zg za r6),.pv (zg za r7),.pv (zg za r8),.pv (zg zi r9),.pv (zg zj r10),.pv (zg zd r11)],aI r12]∧H1=[.box [aB r0,.pv (zg (rI .u8) r1),aI r2] false])):=afB n hm
theorem akF {n:Nat} {a0:zf} {r:Bool × (Option (List Int)) × Int × Int × Int × (Option (List zc)) × (Option (List zc)) × (Option (List zc)) × (Option (List zc)) × (Option (List zo)) × (Option (List zu)) × (Option (List zn)) × Int} (hm:ady n a0=some r):
    ∃ vv H1,call G n 44 [.ptr 0 0] [.box (zc10 a0) false]=some (.ret vv,H1)∧(match (generalizing:=false) r with | (r0,r1,r2,r3,r4,r5,r6,r7,r8,r9,r10,r11,r12)=>(vv=.tup [.agg [aI r3,aI r4,.pv (zg za r5),.pv (zg za r6),.pv (zg za r7),.pv (zg za r8),.pv (zg zi r9),.pv (zg zj r10),.pv (zg zd r11)],aI r12]∧H1=[.box [aB r0,.pv (zg (rI .u8) r1),aI r2] false])):=by
  unfold ady at hm
  obtain ⟨n,rfl,h0⟩:=zy hm
  replace hm:=h0; clear h0
  refine QA 20 [(0,.ptr 0 0)] func44 rfl (by kernel_rfl) (sq (det [(0,.ptr 0 0),(2,.ptr 1 0)] [.box (zc10 a0) false,.box zc33 false] (by kernel_rfl) (sq (rg (s1 1 [(7,.ptr 0 0)] ?_)))))
  obtain ⟨⟨x2,x3,x4,x5,x6,x7,x8,x9,x10,x11,x12,x13,x14⟩,h1,hm⟩:=bs hm
  obtain ⟨vv,H1,hC,rfl,rfl⟩:=ak2 h1
  refine dR [(8,.tup [.agg (Zf x5 x6 x7 x8 x9 x10 x11 x12 x13),aI x14])] [.box [aB x2,.pv (zg (rI .u8) x3),aI x4] false,.box zc33 false] [0] [.ptr 0 0,aI 1] (by kernel_rfl) (by kernel_rfl) (by kernel_rfl) hC (by kernel_rfl) (stf 6 [(2,.ptr 1 0),(4,.ptr 2 0),(5,aI x14)] [.box [aB x2,.pv (zg (rI .u8) x3),aI x4] false,.box zc33 false,.box (Zf x5 x6 x7 x8 x9 x10 x11 x12 x13) false] (by kernel_rfl) ?_)
  refine sq (sq (dn [(2,.ptr 1 0),(4,.ptr 2 0),(5,aI x14),(12,aB (x14 != 0))] ?_))
  rcases zh hm with ⟨h15,hm⟩ | ⟨h15,hm⟩
  ·
   refine c1 h15 (sq (dn [(2,.ptr 1 0),(3,aI x14)] (wp_ret ?_)))
   obtain rfl:=Option.some.inj hm
   exact ⟨trivial,.tup [.agg zc35,aI x14],[.box [aB x2,.pv (zg (rI .u8) x3),aI x4] false],Zo (x:=.tup [.agg zc33,aI x14]) (x':=.tup [.agg zc33,aI x14]) [] (by kernel_rfl) (by kernel_rfl) (by kernel_rfl) (by kernel_rfl) rfl (by kernel_rfl),rfl,rfl⟩
  ·
   refine c0 h15 (wp_skip (sq (sq (rg (s1 1 [(15,.agg (Zf x5 x6 x7 x8 x9 x10 x11 x12 x13))] ?_)))))
   obtain ⟨x16,h17,hm⟩:=bs hm
   refine dv 16 (Zh (by kernel_rfl) (acX h17) (by kernel_rfl) (by kernel_rfl) (by kernel_rfl)) (by kernel_rfl) (fq 1 [(2,.ptr 1 0),(4,.ptr 2 0),(17,aB (!x16))] ?_)
   rcases zh hm with ⟨h18,hm⟩ | ⟨h18,hm⟩
   ·
    refine c1 h18 (sq (dn [(2,.ptr 1 0),(3,aI 22)] (wp_ret ?_)))
    obtain rfl:=Option.some.inj hm
    exact ⟨trivial,.tup [.agg zc35,aI 22],[.box [aB x2,.pv (zg (rI .u8) x3),aI x4] false],Zo (x:=.tup [.agg zc33,aI 22]) (x':=.tup [.agg zc33,aI 22]) [] (by kernel_rfl) (by kernel_rfl) (by kernel_rfl) (by kernel_rfl) rfl (by kernel_rfl),rfl,rfl⟩
   ·
    refine c0 h18 (wp_skip (sq (det [(2,.ptr 1 0),(3,aI 0)] [.box [aB x2,.pv (zg (rI .u8) x3),aI x4] false,.box (Zf x5 x6 x7 x8 x9 x10 x11 x12 x13) false,.box (Zf x5 x6 x7 x8 x9 x10 x11 x12 x13) false] (by kernel_rfl) (wp_ret ?_))))
    obtain rfl:=Option.some.inj hm
    exact ⟨trivial,.tup [.agg [aI ((zb.mk x5 x6 x7 x8 x9 x10 x11 x12 x13).fKind),aI ((zb.mk x5 x6 x7 x8 x9 x10 x11 x12 x13).fRel),.pv (zg za ((zb.mk x5 x6 x7 x8 x9 x10 x11 x12 x13).fWhere)),.pv (zg za ((zb.mk x5 x6 x7 x8 x9 x10 x11 x12 x13).fLeft)),.pv (zg za ((zb.mk x5 x6 x7 x8 x9 x10 x11 x12 x13).fRight)),.pv (zg za ((zb.mk x5 x6 x7 x8 x9 x10 x11 x12 x13).fOut)),.pv (zg zi ((zb.mk x5 x6 x7 x8 x9 x10 x11 x12 x13).fAggs)),.pv (zg zj ((zb.mk x5 x6 x7 x8 x9 x10 x11 x12 x13).fOrder)),.pv (zg zd ((zb.mk x5 x6 x7 x8 x9 x10 x11 x12 x13).fKids))],aI 0],[.box [aB x2,.pv (zg (rI .u8) x3),aI x4] false],Zo (x:=.tup [.agg (Zf x5 x6 x7 x8 x9 x10 x11 x12 x13),aI 0]) (x':=.tup [.agg (Zf x5 x6 x7 x8 x9 x10 x11 x12 x13),aI 0]) [] (by kernel_rfl) (by kernel_rfl) (by kernel_rfl) (by kernel_rfl) rfl (by kernel_rfl),rfl,rfl⟩
theorem ado {n:Nat} {a0:Int} {r:Bool} (hm:aaR n a0=some r):
    call G n 252 [aI a0] []=some (.ret (aB r),[]):=by
  unfold aaR at hm
  obtain ⟨n,rfl,h0⟩:=zy hm
  replace hm:=h0; clear h0
  refine Z4 6 [(0,aI a0)] func252 rfl (by kernel_rfl) (sq (dn [(0,aI a0)] (sq (dn [(2,aB (a0 != a0))] (wp_ret ?_)))))
  obtain rfl:=Option.some.inj hm
  exact ⟨trivial,by kernel_rfl⟩
theorem afZ {n:Nat} {a0:Int} {a1:Int} {r:Int} (hm:Q4 n a0 a1=some r):
    call G n 234 [aI a0,aI a1] []=some (.ret (aI r),[]):=by
  unfold Q4 at hm
  obtain ⟨n,rfl,h0⟩:=zy hm
  replace hm:=h0; clear h0
  refine Z4 20 [(0,aI a0),(1,aI a1)] func234 rfl (by kernel_rfl) (sq (dn [(0,aI a0),(1,aI a1)] (sq (rg (s1 1 [(7,aI a0)] ?_)))))
  obtain ⟨x1,h2,hm⟩:=bs hm
  refine dv 8 (Zh (by kernel_rfl) (ado h2) (by kernel_rfl) (by kernel_rfl) (by kernel_rfl)) (by kernel_rfl) (fq 1 [(0,aI a0),(1,aI a1),(5,aB x1)] (sq (rg (s1 1 [(9,aI a1)] ?_))))
  obtain ⟨x3,h4,hm⟩:=bs hm
  refine dv 10 (Zh (by kernel_rfl) (ado h4) (by kernel_rfl) (by kernel_rfl) (by kernel_rfl)) (by kernel_rfl) (fq 1 [(0,aI a0),(1,aI a1),(5,aB x1),(6,aB x3)] ?_)
  refine sq (sq (dn [(0,aI a0),(1,aI a1),(6,aB x3),(11,aB x1)] ?_))
  rcases zh hm with ⟨h5,hm⟩ | ⟨h5,hm⟩
  ·
   refine c1 h5 (sq (sq (dn [(12,aB x3)] ?_)))
   rcases zh hm with ⟨h6,hm⟩ | ⟨h6,hm⟩
   ·
    refine c1 h6 (sq (dn [(4,aI 0)] (wp_ret ?_)))
    obtain rfl:=Option.some.inj hm
    exact ⟨trivial,by kernel_rfl⟩
   ·
    refine c0 h6 (wp_skip (sq (dn [(4,aI (-1))] (wp_ret ?_))))
    obtain rfl:=Option.some.inj hm
    exact ⟨trivial,by kernel_rfl⟩
  ·
   refine c0 h5 (wp_skip ?_)
   refine sq (sq (dn [(0,aI a0),(1,aI a1),(13,aB x3)] ?_))
   rcases zh hm with ⟨h7,hm⟩ | ⟨h7,hm⟩
   ·
    refine c1 h7 (sq (dn [(4,aI 1)] (wp_ret ?_)))
    obtain rfl:=Option.some.inj hm
    exact ⟨trivial,by kernel_rfl⟩
   ·
    refine c0 h7 (wp_skip (sq (sq (dn [(0,aI a0),(1,aI a1),(16,aB (decide (a0 < a1)))] ?_))))
    rcases zh hm with ⟨h8,hm⟩ | ⟨h8,hm⟩
    ·
     refine c1 h8 (sq (dn [(4,aI (-1))] (wp_ret ?_)))
     obtain rfl:=Option.some.inj hm
     exact ⟨trivial,by kernel_rfl⟩
    ·
     refine c0 h8 (wp_skip (sq (sq (dn [(19,aB (decide (a0 > a1)))] ?_))))
     rcases zh hm with ⟨h9,hm⟩ | ⟨h9,hm⟩
     ·
      refine c1 h9 (sq (dn [(4,aI 1)] (wp_ret ?_)))
      obtain rfl:=Option.some.inj hm
      exact ⟨trivial,by kernel_rfl⟩
     ·
      refine c0 h9 (wp_skip (sq (dn [(4,aI 0)] (wp_ret ?_))))
      obtain rfl:=Option.some.inj hm
      exact ⟨trivial,by kernel_rfl⟩
theorem aia {n:Nat} {a0:Nat} {a1:Nat} {r:Int} (hm:acp n a0 a1=some r):
    call G n 235 [aF a0,aF a1] []=some (.ret (aI r),[]):=by
  unfold acp at hm
  obtain ⟨n,rfl,h0⟩:=zy hm
  replace hm:=h0; clear h0
  refine Z4 28 [(0,aF a0),(1,aF a1)] func235 rfl (by kernel_rfl) (sq (dn [(0,aF a0),(1,aF a1)] (sq (sq (rg (s1 1 [(7,aF a0)] ?_))))))
  obtain ⟨x1,h2,hm⟩:=bs hm
  refine dv 8 (Zh (by kernel_rfl) (ac9 h2) (by kernel_rfl) (by kernel_rfl) (by kernel_rfl)) (by kernel_rfl) (s1 1 [(9,aF a1)] ?_)
  obtain ⟨x3,h4,hm⟩:=bs hm
  refine dv 10 (Zh (by kernel_rfl) (ac9 h4) (by kernel_rfl) (by kernel_rfl) (by kernel_rfl)) (by kernel_rfl) (fq 2 [(0,aF a0),(1,aF a1),(5,aB x1),(6,aB x3)] (bq ?_))
  refine sq (rg (s1 2 [(13,aB x1),(12,aB x1)] ?_))
  refine segP x1 [13,12,5] (fun b=>[(15,aB (b && x3)),(14,ifA b (aB x3) (.undef))]) 2 (by kernel_rfl) (by kernel_rfl) (by kernel_rfl) (fq 1 [(0,aF a0),(1,aF a1),(5,aB x1),(6,aB x3),(11,aB (x1 && x3))] ?_)
  rcases zh hm with ⟨h5,hm⟩ | ⟨h5,hm⟩
  ·
   refine c1 h5 (sq (dn [(4,aI 0)] (wp_ret ?_)))
   obtain rfl:=Option.some.inj hm
   exact ⟨trivial,by kernel_rfl⟩
  ·
   refine c0 h5 (sq (dn [(0,aF a0),(1,aF a1),(6,aB x3),(16,aB x1)] ?_))
   rcases zh hm with ⟨h6,hm⟩ | ⟨h6,hm⟩
   ·
    refine c1 h6 (sq (dn [(4,aI 1)] (wp_ret ?_)))
    obtain rfl:=Option.some.inj hm
    exact ⟨trivial,by kernel_rfl⟩
   ·
    refine c0 h6 (sq (dn [(0,aF a0),(1,aF a1),(18,aB x3)] ?_))
    rcases zh hm with ⟨h7,hm⟩ | ⟨h7,hm⟩
    ·
     refine c1 h7 (sq (dn [(4,aI (-1))] (wp_ret ?_)))
     obtain rfl:=Option.some.inj hm
     exact ⟨trivial,by kernel_rfl⟩
    ·
     refine c0 h7 (sq (dn [(0,aF a0),(1,aF a1),(20,aB ((FloatKind.format .f64).order a0 a1 == some .lt))] ?_))
     rcases zh hm with ⟨h8,hm⟩ | ⟨h8,hm⟩
     ·
      refine c1 h8 (sq (dn [(4,aI (-1))] (wp_ret ?_)))
      obtain rfl:=Option.some.inj hm
      exact ⟨trivial,by kernel_rfl⟩
     ·
      refine c0 h8 (sq (dn [(24,aB ((FloatKind.format .f64).order a0 a1 == some .gt))] ?_))
      rcases zh hm with ⟨h9,hm⟩ | ⟨h9,hm⟩
      ·
       refine c1 h9 (sq (dn [(4,aI 1)] (wp_ret ?_)))
       obtain rfl:=Option.some.inj hm
       exact ⟨trivial,by kernel_rfl⟩
      ·
       refine c0 h9 (wp_skip (sq (dn [(4,aI 0)] (wp_ret ?_))))
       obtain rfl:=Option.some.inj hm
       exact ⟨trivial,by kernel_rfl⟩
theorem ab7 {n:Nat} {a0:ByteArray} {r:Bool} (hm:QJ n a0=some r):
    call G n 253 [aS a0] []=some (.ret (aB r),[]):=by
  unfold QJ at hm
  obtain ⟨n,rfl,h0⟩:=zy hm
  replace hm:=h0; clear h0
  refine Z4 6 [(0,aS a0)] func253 rfl (by kernel_rfl) (sq (dn [(0,aS a0)] (sq (dn [(2,aB (!(sEq a0 a0)))] (wp_ret ?_)))))
  obtain rfl:=Option.some.inj hm
  exact ⟨trivial,by kernel_rfl⟩
theorem ad9 {n:Nat} {a0:ByteArray} {a1:ByteArray} {r:Int} (hm:Qc n a0 a1=some r):
    call G n 236 [aS a0,aS a1] []=some (.ret (aI r),[]):=by
  unfold Qc at hm
  obtain ⟨n,rfl,h0⟩:=zy hm
  replace hm:=h0; clear h0
  refine Z4 20 [(0,aS a0),(1,aS a1)] func236 rfl (by kernel_rfl) (sq (dn [(0,aS a0),(1,aS a1)] (sq (rg (s1 1 [(7,aS a0)] ?_)))))
  obtain ⟨x1,h2,hm⟩:=bs hm
  refine dv 8 (Zh (by kernel_rfl) (ab7 h2) (by kernel_rfl) (by kernel_rfl) (by kernel_rfl)) (by kernel_rfl) (fq 1 [(0,aS a0),(1,aS a1),(5,aB x1)] (sq (rg (s1 1 [(9,aS a1)] ?_))))
  obtain ⟨x3,h4,hm⟩:=bs hm
  refine dv 10 (Zh (by kernel_rfl) (ab7 h4) (by kernel_rfl) (by kernel_rfl) (by kernel_rfl)) (by kernel_rfl) (fq 1 [(0,aS a0),(1,aS a1),(5,aB x1),(6,aB x3)] ?_)
  refine sq (sq (dn [(0,aS a0),(1,aS a1),(6,aB x3),(11,aB x1)] ?_))
  rcases zh hm with ⟨h5,hm⟩ | ⟨h5,hm⟩
  ·
   refine c1 h5 (sq (sq (dn [(12,aB x3)] ?_)))
   rcases zh hm with ⟨h6,hm⟩ | ⟨h6,hm⟩
   ·
    refine c1 h6 (sq (dn [(4,aI 0)] (wp_ret ?_)))
    obtain rfl:=Option.some.inj hm
    exact ⟨trivial,by kernel_rfl⟩
   ·
    refine c0 h6 (wp_skip (sq (dn [(4,aI (-1))] (wp_ret ?_))))
    obtain rfl:=Option.some.inj hm
    exact ⟨trivial,by kernel_rfl⟩
  ·
   refine c0 h5 (wp_skip ?_)
   refine sq (sq (dn [(0,aS a0),(1,aS a1),(13,aB x3)] ?_))
   rcases zh hm with ⟨h7,hm⟩ | ⟨h7,hm⟩
   ·
    refine c1 h7 (sq (dn [(4,aI 1)] (wp_ret ?_)))
    obtain rfl:=Option.some.inj hm
    exact ⟨trivial,by kernel_rfl⟩
   ·
    refine c0 h7 (wp_skip (sq (sq (dn [(0,aS a0),(1,aS a1),(16,aB (sLt a0 a1))] ?_))))
    rcases zh hm with ⟨h8,hm⟩ | ⟨h8,hm⟩
    ·
     refine c1 h8 (sq (dn [(4,aI (-1))] (wp_ret ?_)))
     obtain rfl:=Option.some.inj hm
     exact ⟨trivial,by kernel_rfl⟩
    ·
     refine c0 h8 (wp_skip (sq (sq (dn [(19,aB (!(sLt a0 a1 || sEq a0 a1)))] ?_))))
     rcases zh hm with ⟨h9,hm⟩ | ⟨h9,hm⟩
     ·
      refine c1 h9 (sq (dn [(4,aI 1)] (wp_ret ?_)))
      obtain rfl:=Option.some.inj hm
      exact ⟨trivial,by kernel_rfl⟩
     ·
      refine c0 h9 (wp_skip (sq (dn [(4,aI 0)] (wp_ret ?_))))
      obtain rfl:=Option.some.inj hm
      exact ⟨trivial,by kernel_rfl⟩
theorem acT {n:Nat} {a0:Int} {r:Bool} (hm:Q3 n a0=some r):
    call G n 254 [aI a0] []=some (.ret (aB r),[]):=by
  unfold Q3 at hm
  obtain ⟨n,rfl,h0⟩:=zy hm
  replace hm:=h0; clear h0
  refine Z4 6 [(0,aI a0)] func254 rfl (by kernel_rfl) (sq (dn [(0,aI a0)] (sq (dn [(2,aB (a0 != a0))] (wp_ret ?_)))))
  obtain rfl:=Option.some.inj hm
  exact ⟨trivial,by kernel_rfl⟩
theorem aet {n:Nat} {a0:Int} {a1:Int} {r:Int} (hm:Qt n a0 a1=some r):
    call G n 237 [aI a0,aI a1] []=some (.ret (aI r),[]):=by
  unfold Qt at hm
  obtain ⟨n,rfl,h0⟩:=zy hm
  replace hm:=h0; clear h0
  refine Z4 20 [(0,aI a0),(1,aI a1)] func237 rfl (by kernel_rfl) (sq (dn [(0,aI a0),(1,aI a1)] (sq (rg (s1 1 [(7,aI a0)] ?_)))))
  obtain ⟨x1,h2,hm⟩:=bs hm
  refine dv 8 (Zh (by kernel_rfl) (acT h2) (by kernel_rfl) (by kernel_rfl) (by kernel_rfl)) (by kernel_rfl) (fq 1 [(0,aI a0),(1,aI a1),(5,aB x1)] (sq (rg (s1 1 [(9,aI a1)] ?_))))
  obtain ⟨x3,h4,hm⟩:=bs hm
  refine dv 10 (Zh (by kernel_rfl) (acT h4) (by kernel_rfl) (by kernel_rfl) (by kernel_rfl)) (by kernel_rfl) (fq 1 [(0,aI a0),(1,aI a1),(5,aB x1),(6,aB x3)] ?_)
  refine sq (sq (dn [(0,aI a0),(1,aI a1),(6,aB x3),(11,aB x1)] ?_))
  rcases zh hm with ⟨h5,hm⟩ | ⟨h5,hm⟩
  ·
   refine c1 h5 (sq (sq (dn [(12,aB x3)] ?_)))
   rcases zh hm with ⟨h6,hm⟩ | ⟨h6,hm⟩
   ·
    refine c1 h6 (sq (dn [(4,aI 0)] (wp_ret ?_)))
    obtain rfl:=Option.some.inj hm
    exact ⟨trivial,by kernel_rfl⟩
   ·
    refine c0 h6 (wp_skip (sq (dn [(4,aI (-1))] (wp_ret ?_))))
    obtain rfl:=Option.some.inj hm
    exact ⟨trivial,by kernel_rfl⟩
  ·
   refine c0 h5 (wp_skip ?_)
   refine sq (sq (dn [(0,aI a0),(1,aI a1),(13,aB x3)] ?_))
   rcases zh hm with ⟨h7,hm⟩ | ⟨h7,hm⟩
   ·
    refine c1 h7 (sq (dn [(4,aI 1)] (wp_ret ?_)))
    obtain rfl:=Option.some.inj hm
    exact ⟨trivial,by kernel_rfl⟩
   ·
    refine c0 h7 (wp_skip (sq (sq (dn [(0,aI a0),(1,aI a1),(16,aB (decide (a0 < a1)))] ?_))))
    rcases zh hm with ⟨h8,hm⟩ | ⟨h8,hm⟩
    ·
     refine c1 h8 (sq (dn [(4,aI (-1))] (wp_ret ?_)))
     obtain rfl:=Option.some.inj hm
     exact ⟨trivial,by kernel_rfl⟩
    ·
     refine c0 h8 (wp_skip (sq (sq (dn [(19,aB (decide (a0 > a1)))] ?_))))
     rcases zh hm with ⟨h9,hm⟩ | ⟨h9,hm⟩
     ·
      refine c1 h9 (sq (dn [(4,aI 1)] (wp_ret ?_)))
      obtain rfl:=Option.some.inj hm
      exact ⟨trivial,by kernel_rfl⟩
     ·
      refine c0 h9 (wp_skip (sq (dn [(4,aI 0)] (wp_ret ?_))))
      obtain rfl:=Option.some.inj hm
      exact ⟨trivial,by kernel_rfl⟩
theorem ak6 {n:Nat} {a0:zl} {a1:zl} {r:Int} (hm:adu n a0 a1=some r):
    call G n 195 [.agg (zc4 a0),.agg (zc4 a1)] []=some (.ret (aI r),[]):=by
  unfold adu at hm
  obtain ⟨n,rfl,h0⟩:=zy hm
  replace hm:=h0; clear h0
  refine Z4 40 [(0,.agg (zc4 a0)),(1,.agg (zc4 a1))] func195 rfl (by kernel_rfl) (sq (det [(2,.ptr 0 0),(3,.ptr 1 0)] [.box (zc4 a0) false,.box (zc4 a1) false] (by kernel_rfl) (sq (rgd (shd 1 [(5,.agg (zc4 a0))] (by kernel_rfl) ?_)))))
  obtain ⟨x1,h2,hm⟩:=bs hm
  refine dvd 6 (Zh (by kernel_rfl) (acD h2) (by kernel_rfl) (by kernel_rfl) (by kernel_rfl)) (by kernel_rfl) (shd 1 [(7,.agg (zc4 a1))] (by kernel_rfl) ?_)
  obtain ⟨x3,h4,hm⟩:=bs hm
  refine dvd 8 (Zh (by kernel_rfl) (acD h4) (by kernel_rfl) (by kernel_rfl) (by kernel_rfl)) (by kernel_rfl) (std 2 [] [.box (zc4 x1) false,.box (zc4 x3) false] (by kernel_rfl) (find [(2,.ptr 0 0),(3,.ptr 1 0)] rfl (by kernel_rfl) (by kernel_rfl) ?_))
  refine sq (sq (dn [(2,.ptr 0 0),(3,.ptr 1 0),(13,aB (x1.fKind != x3.fKind))] ?_))
  rcases zh hm with ⟨h5,hm⟩ | ⟨h5,hm⟩
  ·
   refine c1 h5 (sq (rg (s1 4 [(17,aI x3.fKind),(16,.ptr 1 0),(15,aI x1.fKind),(14,.ptr 0 0)] ?_)))
   obtain ⟨x6,h7,hm⟩:=bs hm
   refine dv 18 (Zh (by kernel_rfl) (afZ h7) (by kernel_rfl) (by kernel_rfl) (by kernel_rfl)) (by kernel_rfl) (fq 1 [(4,aI x6)] (wp_ret ?_))
   obtain rfl:=Option.some.inj hm
   exact ⟨trivial,by kernel_rfl⟩
  ·
   refine c0 h5 (wp_skip (sq (sq (dn [(2,.ptr 0 0),(3,.ptr 1 0),(20,aI x1.fKind)] (bq (sq (dn [(2,.ptr 0 0),(3,.ptr 1 0),(20,aI x1.fKind),(21,aB (x1.fKind == 3))] ?_)))))))
   rcases zh hm with ⟨h8,hm⟩ | ⟨h8,hm⟩
   ·
    refine c1 h8 (sq (rg (s1 4 [(26,aF x3.fFloat),(25,.ptr 1 2),(24,aF x1.fFloat),(23,.ptr 0 2)] ?_)))
    obtain ⟨x9,h10,hm⟩:=bs hm
    refine dv 27 (Zh (by kernel_rfl) (aia h10) (by kernel_rfl) (by kernel_rfl) (by kernel_rfl)) (by kernel_rfl) (fq 1 [(4,aI x9)] (wp_ret ?_))
    obtain rfl:=Option.some.inj hm
    exact ⟨trivial,by kernel_rfl⟩
   ·
    refine c0 h8 (sq (dn [(2,.ptr 0 0),(3,.ptr 1 0),(28,aB (x1.fKind == 4))] ?_))
    rcases zh hm with ⟨h11,hm⟩ | ⟨h11,hm⟩
    ·
     refine c1 h11 (sq (rg (s1 4 [(33,aS x3.fText),(32,.ptr 1 3),(31,aS x1.fText),(30,.ptr 0 3)] ?_)))
     obtain ⟨x12,h13,hm⟩:=bs hm
     refine dv 34 (Zh (by kernel_rfl) (ad9 h13) (by kernel_rfl) (by kernel_rfl) (by kernel_rfl)) (by kernel_rfl) (fq 1 [(4,aI x12)] (wp_ret ?_))
     obtain rfl:=Option.some.inj hm
     exact ⟨trivial,by kernel_rfl⟩
    ·
     refine c0 h11 (wp_skip (sq (rg (s1 4 [(38,aI x3.fInt),(37,.ptr 1 1),(36,aI x1.fInt),(35,.ptr 0 1)] ?_))))
     obtain ⟨x14,h15,hm⟩:=bs hm
     refine dv 39 (Zh (by kernel_rfl) (aet h15) (by kernel_rfl) (by kernel_rfl) (by kernel_rfl)) (by kernel_rfl) (fq 1 [(4,aI x14)] (wp_ret ?_))
     obtain rfl:=Option.some.inj hm
     exact ⟨trivial,by kernel_rfl⟩
theorem ajr {n:Nat} {a0:zl} {a1:zl} {r:Bool} (hm:acI n a0 a1=some r):
    call G n 155 [.agg (zc4 a0),.agg (zc4 a1)] []=some (.ret (aB r),[]):=by
  unfold acI at hm
  obtain ⟨n,rfl,h0⟩:=zy hm
  replace hm:=h0; clear h0
  refine Z4 9 [(0,.agg (zc4 a0)),(1,.agg (zc4 a1))] func155 rfl (by kernel_rfl) (sq (det [(2,.ptr 0 0),(3,.ptr 1 0)] [.box (zc4 a0) false,.box (zc4 a1) false] (by kernel_rfl) (sq (rg (s1 2 [(6,.agg (zc4 a1)),(5,.agg (zc4 a0))] ?_)))))
  obtain ⟨x1,h2,hm⟩:=bs hm
  refine dv 7 (Zh (by kernel_rfl) (ak6 h2) (by kernel_rfl) (by kernel_rfl) (by kernel_rfl)) (by kernel_rfl) (fq 2 [(4,aB (x1 == 0))] (wp_ret ?_))
  obtain rfl:=Option.some.inj hm
  exact ⟨trivial,by kernel_rfl⟩
theorem agu {rc_slices_EqualFunc_Expr_expr_Same:(Nat→(Option (List zc))→(Option (List zc))→Option (Bool))} (ih_slices_EqualFunc_Expr_expr_Same:∀ {n:Nat} {a0:(Option (List zc))} {a1:(Option (List zc))} {r:Bool} (hm:rc_slices_EqualFunc_Expr_expr_Same n a0 a1=some r),call G n 90 [.pv (zg za a0),.pv (zg za a1),.pv (.fn 88 [] [])] []=some (.ret (aB r),[])) {n:Nat} {a0:zm} {a1:zm} {r:Bool} (hm:QL rc_slices_EqualFunc_Expr_expr_Same n a0 a1=some r):
    call G n 88 [.agg (zc5 a0),.agg (zc5 a1)] []=some (.ret (aB r),[]):=by
  unfold QL at hm
  obtain ⟨n,rfl,h0⟩:=zy hm
  replace hm:=h0; clear h0
  refine Z4 47 [(0,.agg (zc5 a0)),(1,.agg (zc5 a1))] func88 rfl (by kernel_rfl) (sq (det [(2,.ptr 0 0),(3,.ptr 1 0)] [.box (zc5 a0) false,.box (zc5 a1) false] (by kernel_rfl) (sq (rg (s1 6 [(10,aB (a0.fKind == a1.fKind)),(9,aB (a0.fKind == a1.fKind)),(8,aI a1.fKind),(7,.ptr 1 0),(6,aI a0.fKind),(5,.ptr 0 0)] ?_)))))
  refine segP (a0.fKind == a1.fKind) [10,9] (fun b=>[(16,aB (b && (a0.fRel == a1.fRel))),(15,ifA b (aB (a0.fRel == a1.fRel)) (.undef)),(14,ifA b (aI a1.fRel) (.undef)),(13,ifA b (.ptr 1 1) (.undef)),(12,ifA b (aI a0.fRel) (.undef)),(11,ifA b (.ptr 0 1) (.undef))]) 6 (by kernel_rfl) (by kernel_rfl) (by kernel_rfl) (s1 1 [(17,aB ((a0.fKind == a1.fKind) && (a0.fRel == a1.fRel)))] ?_)
  refine segP ((a0.fKind == a1.fKind) && (a0.fRel == a1.fRel)) [17,16] (fun b=>[(23,aB (b && (a0.fCol == a1.fCol))),(22,ifA b (aB (a0.fCol == a1.fCol)) (.undef)),(21,ifA b (aI a1.fCol) (.undef)),(20,ifA b (.ptr 1 2) (.undef)),(19,ifA b (aI a0.fCol) (.undef)),(18,ifA b (.ptr 0 2) (.undef))]) 6 (by kernel_rfl) (by kernel_rfl) (by kernel_rfl) (s1 1 [(24,aB (((a0.fKind == a1.fKind) && (a0.fRel == a1.fRel)) && (a0.fCol == a1.fCol)))] ?_)
  refine segP (((a0.fKind == a1.fKind) && (a0.fRel == a1.fRel)) && (a0.fCol == a1.fCol)) [24,23] (fun b=>[(32,aB (b && (a0.fConst.fKind == a1.fConst.fKind))),(31,ifA b (aB (a0.fConst.fKind == a1.fConst.fKind)) (.undef)),(30,ifA b (aI a1.fConst.fKind) (.undef)),(29,ifA b (.ptr 1 3) (.undef)),(28,ifA b (.ptr 1 3) (.undef)),(27,ifA b (aI a0.fConst.fKind) (.undef)),(26,ifA b (.ptr 0 3) (.undef)),(25,ifA b (.ptr 0 3) (.undef))]) 8 (by kernel_rfl) (by kernel_rfl) (by kernel_rfl) (s1 1 [(33,aB ((((a0.fKind == a1.fKind) && (a0.fRel == a1.fRel)) && (a0.fCol == a1.fCol)) && (a0.fConst.fKind == a1.fConst.fKind)))] ?_)
  rcases zh hm with ⟨h1,hm⟩ | ⟨h1,hm⟩
  ·
   refine known [33,32] h1 (by kernel_rfl) (s1 4 [(37,.agg (zc6 a1)),(36,.ptr 1 3),(35,.agg (zc6 a0)),(34,.ptr 0 3)] ?_)
   obtain ⟨x2,h3,hm⟩:=bs hm
   refine dv 38 (Zh (by kernel_rfl) (ajr h3) (by kernel_rfl) (by kernel_rfl) (by kernel_rfl)) (by kernel_rfl) (s1 2 [(40,aB x2),(39,aB x2)] ?_)
   rcases zh hm with ⟨h4,hm⟩ | ⟨h4,hm⟩
   ·
    refine known [40,39,38] h4 (by kernel_rfl) (s1 4 [(44,.pv (zg za a1.fKids)),(43,.ptr 1 7),(42,.pv (zg za a0.fKids)),(41,.ptr 0 7)] ?_)
    obtain ⟨x5,h6,hm⟩:=bs hm
    refine dv 45 (Zh (by kernel_rfl) (ih_slices_EqualFunc_Expr_expr_Same h6) (by kernel_rfl) (by kernel_rfl) (by kernel_rfl)) (by kernel_rfl) (fq 2 [(4,aB x5)] (wp_ret ?_))
    obtain rfl:=Option.some.inj hm
    exact ⟨trivial,by kernel_rfl⟩
   ·
    refine known [40,39,38] h4 (by kernel_rfl) (fq 7 [(4,aB false)] (wp_ret ?_))
    obtain rfl:=Option.some.inj hm
    exact ⟨trivial,by kernel_rfl⟩
  ·
   refine known [33,32] h1 (by kernel_rfl) (fq 14 [(4,aB false)] (wp_ret ?_))
   obtain rfl:=Option.some.inj hm
   exact ⟨trivial,by kernel_rfl⟩
abbrev zp99 (p0:(Option (List zc))):Nat × AV:=(1,.pv (zg za p0))
abbrev ad1:Nat × AV:=(2,.pv (.fn 88 [] []))
abbrev afD (p0:(Option (List zc))):Nat × AV:=(15,.pv (zg za p0))
abbrev agI (p0:(Option (List zc))):Nat × AV:=(16,aI ((sll p0).length:Int))
abbrev aj2 (p0:Int):Nat × AV:=(17,aI (IntKind.wrap .i64 (p0+1)))
theorem aaQ {rc_slices_EqualFunc_Expr_expr_Same:(Nat→(Option (List zc))→(Option (List zc))→Option (Bool))} (ih_slices_EqualFunc_Expr_expr_Same:∀ {n:Nat} {a0:(Option (List zc))} {a1:(Option (List zc))} {r:Bool} (hm:rc_slices_EqualFunc_Expr_expr_Same n a0 a1=some r),call G n 90 [.pv (zg za a0),.pv (zg za a1),.pv (.fn 88 [] [])] []=some (.ret (aB r),[])) {n:Nat} {a0:(Option (List zc))} {a1:(Option (List zc))} {r:Bool} (hm:Zz rc_slices_EqualFunc_Expr_expr_Same n a0 a1=some r):
    call G n 90 [.pv (zw a0),.pv (zw a1),.pv (.fn 88 [] [])] []=some (.ret (aB r),[]):=by
  unfold Zz at hm
  obtain ⟨n,rfl,h0⟩:=zy hm
  replace hm:=h0; clear h0
  refine Z4 32 [(zp46 a0),(zp99 a1),ad1] func90 rfl (by kernel_rfl) (sq (dn [(zp46 a0),(zp99 a1),ad1] ?_))
  refine sq (sq (rg (s1 1 [(10,.pv (zw a0))] (dv 11 (v:=aI (acd a0)) (zI za a0 t23 (by kernel_rfl)) (by kernel_rfl) (s1 1 [(12,.pv (zw a1))] (dv 13 (v:=aI (acd a1)) (zI za a1 t23 (by kernel_rfl)) (by kernel_rfl) (fq 1 [(zp46 a0),(zp99 a1),ad1,(14,aB (((sll a0).length:Int) != ((sll a1).length:Int)))] ?_)))))))
  rcases zh hm with ⟨h1,hm⟩ | ⟨h1,hm⟩
  ·
   refine c1 h1 (sq (dn [(6,aB false)] (wp_ret ?_)))
   obtain rfl:=Option.some.inj hm
   exact ⟨trivial,by kernel_rfl⟩
  ·
   refine c0 h1 (wp_skip ?_)
   obtain ⟨k4,hk4,hm⟩:=zx hm
   refine mid (fun t H=>(∃ (y2:Int) (y3:Bool),k4 ()=some r∧t=mk 32 [(zp99 a1),ad1,(afD a0),(agI a0),(17,aI y2),(18,aB y3)]∧H=[])) ?_ ?_
   ·
    rintro _ _ ⟨y2,y3,hm,rfl,rfl⟩
    subst hk4
    refine sq (dn [(6,aB true)] (wp_ret ?_))
    obtain rfl:=Option.some.inj hm
    exact ⟨trivial,by kernel_rfl⟩
   refine sq (rg (s1 1 [(afD a0)] (dv 16 (v:=aI (acd a0)) (zI za a0 t23 (by kernel_rfl)) (by kernel_rfl) (fq 1 [(zp99 a1),ad1,(afD a0),(agI a0),(17,aI 0)] (bq ?_)))))
   refine qq (fun mm t H=>(∃ (y6:Int),zJ n rc_slices_EqualFunc_Expr_expr_Same a0 a1 k4 mm y6=some r∧t=mk 32 [(zp99 a1),ad1,(afD a0),(agI a0),(17,aI y6)]∧H=[])) (⟨0,hm,rfl,rfl⟩) ?_ ?_
   · rintro _ _ ⟨y6,hm,_⟩; exact nomatch hm
   rintro m7 _ _ ⟨y6,hm,rfl,rfl⟩
   simp only [zJ] at hm
   refine sq (dn [(zp99 a1),ad1,(afD a0),(agI a0),(17,aI y6),(18,aB (ael y6 a0))] ?_)
   refine sq ?_
   rcases zh hm with ⟨h8,hm⟩ | ⟨h8,hm⟩
   ·
    refine c1 h8 (wp_skip (sq (bq (sq (rg (s1 1 [(19,aI y6)] ?_))))))
    obtain ⟨x9,h10,hm⟩:=bs hm
    refine dv 20 (v:=.pv (.ptr (aeh x9) 0)) (aaK za a0 .i64 t23 t49 h10 (Zj x9) rfl (by kernel_rfl)) (by kernel_rfl) (stf 4 [(zp99 a1),ad1,(7,aI y6),(8,.ptr 0 0),(afD a0),(agI a0),(17,aI y6)] [.box (zc7 x9) false] (by kernel_rfl) (sq (rg (s1 2 [(23,aI y6),(22,.pv (zw a1))] ?_))))
    obtain ⟨x11,h12,hm⟩:=bs hm
    refine dv 24 (v:=.pv (.ptr (aeh x11) 0)) (aaK za a1 .i64 t23 t49 h12 (Zj x11) rfl (by kernel_rfl)) (by kernel_rfl) (stf 3 [(zp99 a1),ad1,(8,.ptr 0 0),(9,.ptr 1 0),(afD a0),(agI a0),(17,aI y6)] [.box (zc7 x9) false,.box (zc7 x11) false] (by kernel_rfl) (sq (rg (s1 3 [(28,.agg (zc7 x11)),(27,.agg (zc7 x9)),(26,.pv (.fn 88 [] []))] ?_))))
    obtain ⟨x13,h14,hm⟩:=bs hm
    refine dv 29 (Zh (by kernel_rfl) (agu ih_slices_EqualFunc_Expr_expr_Same h14) (by kernel_rfl) (by kernel_rfl) (by kernel_rfl)) (by kernel_rfl) (fq 1 [(zp99 a1),ad1,(afD a0),(agI a0),(17,aI y6),(30,aB (!x13))] ?_)
    rcases zh hm with ⟨h15,hm⟩ | ⟨h15,hm⟩
    ·
     refine c1 h15 (sq (dn [(6,aB false)] (wp_ret ?_)))
     obtain rfl:=Option.some.inj hm
     exact ⟨trivial,by kernel_rfl⟩
    ·
     refine c0 h15 (wp_skip (dn [(zp99 a1),ad1,(afD a0),(agI a0),(aj2 y6)] ?_))
     exact ⟨_,_,ZC [(zp99 a1),ad1,(afD a0),(agI a0),(aj2 y6)] [] (by kernel_rfl),⟨(zU y6),hm,rfl,rfl⟩⟩
   ·
    refine c0 h8 (wp_exit ?_)
    exact ⟨y6,(ael y6 a0),hm,rfl,rfl⟩
theorem qW:∀ (m:Nat),∀ {n:Nat} {a0:(Option (List zc))} {a1:(Option (List zc))} {r:Bool} (hm:zQ m n a0 a1=some r),call G n 90 [.pv (zg za a0),.pv (zg za a1),.pv (.fn 88 [] [])] []=some (.ret (aB r),[])
  | 0=>by intros; rename_i hm; exact nomatch hm
  | m+1=>fun hm=>
    aaQ (qW m) hm
theorem Zv {n:Nat} {a0:(Option (List zc))} {a1:(Option (List zc))} {r:Bool} (hm:zV n a0 a1=some r):
    call G n 90 [.pv (zw a0),.pv (zw a1),.pv (.fn 88 [] [])] []=some (.ret (aB r),[]):=qW n hm
theorem ak1 {n:Nat} {a0:zo} {a1:zo} {r:Bool} (hm:afl n a0 a1=some r):
    call G n 128 [.agg (zc8 a0),.agg (zc8 a1)] []=some (.ret (aB r),[]):=by
  unfold afl at hm
  obtain ⟨n,rfl,h0⟩:=zy hm
  replace hm:=h0; clear h0
  refine Z4 17 [(0,.agg (zc8 a0)),(1,.agg (zc8 a1))] func128 rfl (by kernel_rfl) (sq (det [(2,.ptr 0 0),(3,.ptr 1 0)] [.box (zc8 a0) false,.box (zc8 a1) false] (by kernel_rfl) (sq (rg (s1 6 [(10,aB (a0.fKind == a1.fKind)),(9,aB (a0.fKind == a1.fKind)),(8,aI a1.fKind),(7,.ptr 1 0),(6,aI a0.fKind),(5,.ptr 0 0)] ?_)))))
  rcases zh hm with ⟨h1,hm⟩ | ⟨h1,hm⟩
  ·
   refine known [10,9] h1 (by kernel_rfl) (s1 4 [(14,.agg (zc1 a1)),(13,.ptr 1 1),(12,.agg (zc1 a0)),(11,.ptr 0 1)] ?_)
   obtain ⟨x2,h3,hm⟩:=bs hm
   refine dv 15 (Zh (by kernel_rfl) (agu (fun h=>Zv h) h3) (by kernel_rfl) (by kernel_rfl) (by kernel_rfl)) (by kernel_rfl) (fq 2 [(4,aB x2)] (wp_ret ?_))
   obtain rfl:=Option.some.inj hm
   exact ⟨trivial,by kernel_rfl⟩
  ·
   refine known [10,9] h1 (by kernel_rfl) (fq 7 [(4,aB false)] (wp_ret ?_))
   obtain rfl:=Option.some.inj hm
   exact ⟨trivial,by kernel_rfl⟩
abbrev adS (p0:(Option (List zo))):Nat × AV:=(1,.pv (zg zi p0))
abbrev adV:Nat × AV:=(2,.pv (.fn 128 [] []))
abbrev afx (p0:(Option (List zo))):Nat × AV:=(15,.pv (zg zi p0))
abbrev ago (p0:(Option (List zo))):Nat × AV:=(16,aI ((sll p0).length:Int))
theorem aba {n:Nat} {a0:(Option (List zo))} {a1:(Option (List zo))} {r:Bool} (hm:ZL n a0 a1=some r):
    call G n 91 [.pv (zg zi a0),.pv (zg zi a1),.pv (.fn 128 [] [])] []=some (.ret (aB r),[]):=by
  unfold ZL at hm
  obtain ⟨n,rfl,h0⟩:=zy hm
  replace hm:=h0; clear h0
  refine Z4 32 [(zp63 a0),(adS a1),adV] func91 rfl (by kernel_rfl) (sq (dn [(zp63 a0),(adS a1),adV] ?_))
  refine sq (sq (rg (s1 1 [(10,.pv (zg zi a0))] (dv 11 (v:=aI ((sll a0).length:Int)) (zI zi a0 t24 (by kernel_rfl)) (by kernel_rfl) (s1 1 [(12,.pv (zg zi a1))] (dv 13 (v:=aI ((sll a1).length:Int)) (zI zi a1 t24 (by kernel_rfl)) (by kernel_rfl) (fq 1 [(zp63 a0),(adS a1),adV,(14,aB (((sll a0).length:Int) != ((sll a1).length:Int)))] ?_)))))))
  rcases zh hm with ⟨h1,hm⟩ | ⟨h1,hm⟩
  ·
   refine c1 h1 (sq (dn [(6,aB false)] (wp_ret ?_)))
   obtain rfl:=Option.some.inj hm
   exact ⟨trivial,by kernel_rfl⟩
  ·
   refine c0 h1 (wp_skip ?_)
   obtain ⟨k4,hk4,hm⟩:=zx hm
   refine mid (fun t H=>(∃ (y2:Int) (y3:Bool),k4 ()=some r∧t=mk 32 [(adS a1),adV,(afx a0),(ago a0),(17,aI y2),(18,aB y3)]∧H=[])) ?_ ?_
   ·
    rintro _ _ ⟨y2,y3,hm,rfl,rfl⟩
    subst hk4
    refine sq (dn [(6,aB true)] (wp_ret ?_))
    obtain rfl:=Option.some.inj hm
    exact ⟨trivial,by kernel_rfl⟩
   refine sq (rg (s1 1 [(afx a0)] (dv 16 (v:=aI ((sll a0).length:Int)) (zI zi a0 t24 (by kernel_rfl)) (by kernel_rfl) (fq 1 [(adS a1),adV,(afx a0),(ago a0),(17,aI 0)] (bq ?_)))))
   refine qq (fun mm t H=>(∃ (y6:Int),zO n a0 a1 k4 mm y6=some r∧t=mk 32 [(adS a1),adV,(afx a0),(ago a0),(17,aI y6)]∧H=[])) (⟨0,hm,rfl,rfl⟩) ?_ ?_
   · rintro _ _ ⟨y6,hm,_⟩; exact nomatch hm
   rintro m7 _ _ ⟨y6,hm,rfl,rfl⟩
   simp only [zO] at hm
   refine sq (dn [(adS a1),adV,(afx a0),(ago a0),(17,aI y6),(18,aB (decide (y6 < ((sll a0).length:Int))))] ?_)
   refine sq ?_
   rcases zh hm with ⟨h8,hm⟩ | ⟨h8,hm⟩
   ·
    refine c1 h8 (wp_skip (sq (bq (sq (rg (s1 1 [(19,aI y6)] ?_))))))
    obtain ⟨x9,h10,hm⟩:=bs hm
    refine dv 20 (v:=.pv (.ptr (zi x9) 0)) (aaL zi a0 .i64 t24 t101 h10 rfl (by kernel_rfl)) (by kernel_rfl) (stf 4 [(adS a1),adV,(7,aI y6),(8,.ptr 0 0),(afx a0),(ago a0),(17,aI y6)] [.box (zc8 x9) false] (by kernel_rfl) (sq (rg (s1 2 [(23,aI y6),(22,.pv (zg zi a1))] ?_))))
    obtain ⟨x11,h12,hm⟩:=bs hm
    refine dv 24 (v:=.pv (.ptr (zi x11) 0)) (aaL zi a1 .i64 t24 t101 h12 rfl (by kernel_rfl)) (by kernel_rfl) (stf 3 [(adS a1),adV,(8,.ptr 0 0),(9,.ptr 1 0),(afx a0),(ago a0),(17,aI y6)] [.box (zc8 x9) false,.box (zc8 x11) false] (by kernel_rfl) (sq (rg (s1 3 [(28,.agg (zc8 x11)),(27,.agg (zc8 x9)),(26,.pv (.fn 128 [] []))] ?_))))
    obtain ⟨x13,h14,hm⟩:=bs hm
    refine dv 29 (Zh (by kernel_rfl) (ak1 h14) (by kernel_rfl) (by kernel_rfl) (by kernel_rfl)) (by kernel_rfl) (fq 1 [(adS a1),adV,(afx a0),(ago a0),(17,aI y6),(30,aB (!x13))] ?_)
    rcases zh hm with ⟨h15,hm⟩ | ⟨h15,hm⟩
    ·
     refine c1 h15 (sq (dn [(6,aB false)] (wp_ret ?_)))
     obtain rfl:=Option.some.inj hm
     exact ⟨trivial,by kernel_rfl⟩
    ·
     refine c0 h15 (wp_skip (dn [(adS a1),adV,(afx a0),(ago a0),(aj2 y6)] ?_))
     exact ⟨_,_,ZC [(adS a1),adV,(afx a0),(ago a0),(aj2 y6)] [] (by kernel_rfl),⟨(zU y6),hm,rfl,rfl⟩⟩
   ·
    refine c0 h8 (wp_exit ?_)
    exact ⟨y6,(decide (y6 < ((sll a0).length:Int))),hm,rfl,rfl⟩
abbrev aeE (p0:(Option (List zu))):Nat × AV:=(1,.pv (zg zj p0))
abbrev ahy (p0:(Option (List zu))):Nat × AV:=(12,aI ((sll p0).length:Int))
theorem afq {n:Nat} {a0:(Option (List zu))} {a1:(Option (List zu))} {r:Bool} (hm:QI n a0 a1=some r):
    call G n 92 [.pv (zg zj a0),.pv (zg zj a1)] []=some (.ret (aB r),[]):=by
  unfold QI at hm
  obtain ⟨n,rfl,h0⟩:=zy hm
  replace hm:=h0; clear h0
  refine Z4 26 [(zp66 a0),(aeE a1)] func92 rfl (by kernel_rfl) (sq (dn [(zp66 a0),(aeE a1)] ?_))
  refine sq (sq (rg (s1 1 [(6,.pv (zg zj a0))] (dv 7 (v:=aI ((sll a0).length:Int)) (zI zj a0 t25 (by kernel_rfl)) (by kernel_rfl) (s1 1 [(8,.pv (zg zj a1))] (dv 9 (v:=aI ((sll a1).length:Int)) (zI zj a1 t25 (by kernel_rfl)) (by kernel_rfl) (fq 1 [(zp66 a0),(aeE a1),(10,aB (((sll a0).length:Int) != ((sll a1).length:Int)))] ?_)))))))
  rcases zh hm with ⟨h1,hm⟩ | ⟨h1,hm⟩
  ·
   refine c1 h1 (sq (dn [(4,aB false)] (wp_ret ?_)))
   obtain rfl:=Option.some.inj hm
   exact ⟨trivial,by kernel_rfl⟩
  ·
   refine c0 h1 (wp_skip ?_)
   obtain ⟨k4,hk4,hm⟩:=zx hm
   refine mid (fun t H=>(∃ (y2:Int) (y3:Bool),k4 ()=some r∧t=mk 26 [(zp66 a0),(aeE a1),(ahy a0),(13,aI y2),(14,aB y3)]∧H=[])) ?_ ?_
   ·
    rintro _ _ ⟨y2,y3,hm,rfl,rfl⟩
    subst hk4
    refine sq (dn [(4,aB true)] (wp_ret ?_))
    obtain rfl:=Option.some.inj hm
    exact ⟨trivial,by kernel_rfl⟩
   refine sq (rg (s1 1 [(11,.pv (zg zj a0))] (dv 12 (v:=aI ((sll a0).length:Int)) (zI zj a0 t25 (by kernel_rfl)) (by kernel_rfl) (fq 1 [(zp66 a0),(aeE a1),(ahy a0),(13,aI 0)] (bq ?_)))))
   refine qq (fun mm t H=>(∃ (y6:Int),ZJ n a0 a1 k4 mm y6=some r∧t=mk 26 [(zp66 a0),(aeE a1),(ahy a0),(13,aI y6)]∧H=[])) (⟨0,hm,rfl,rfl⟩) ?_ ?_
   · rintro _ _ ⟨y6,hm,_⟩; exact nomatch hm
   rintro m7 _ _ ⟨y6,hm,rfl,rfl⟩
   simp only [ZJ] at hm
   refine sq (dn [(zp66 a0),(aeE a1),(ahy a0),(13,aI y6),(14,aB (decide (y6 < ((sll a0).length:Int))))] ?_)
   refine sq ?_
   rcases zh hm with ⟨h8,hm⟩ | ⟨h8,hm⟩
   ·
    refine c1 h8 (wp_skip (sq (bq (sq (dn [(zp66 a0),(aeE a1),(5,aI y6),(ahy a0),(13,aI y6)] (sq (rgd (shd 2 [(17,aI y6),(16,.pv (zg zj a0))] (by kernel_rfl) ?_))))))))
    obtain ⟨x9,h10,hm⟩:=bs hm
    refine dvd 18 (v:=.pv (.ptr (zj x9) 0)) (aaL zj a0 .i64 t25 t86 h10 rfl (by kernel_rfl)) (by kernel_rfl) (shd 3 [(21,aI y6),(20,.pv (zg zj a1)),(19,.agg [aI x9.fOut,aB x9.fDesc])] (by kernel_rfl) ?_)
    obtain ⟨x11,h12,hm⟩:=bs hm
    refine dvd 22 (v:=.pv (.ptr (zj x11) 0)) (aaL zj a1 .i64 t25 t86 h12 rfl (by kernel_rfl)) (by kernel_rfl) (shd 2 [(24,aB (!((x9.fOut == x11.fOut) && ((x9.fDesc == x11.fDesc) && true)))),(23,.agg [aI x11.fOut,aB x11.fDesc])] (by kernel_rfl) (find [(zp66 a0),(aeE a1),(ahy a0),(13,aI y6),(24,aB (!((x9.fOut == x11.fOut) && ((x9.fDesc == x11.fDesc) && true))))] rfl (by kernel_rfl) (by kernel_rfl) ?_))
    rcases zh hm with ⟨h13,hm⟩ | ⟨h13,hm⟩
    ·
     refine c1 h13 (sq (dn [(4,aB false)] (wp_ret ?_)))
     obtain rfl:=Option.some.inj hm
     exact ⟨trivial,by kernel_rfl⟩
    ·
     refine c0 h13 (wp_skip (dn [(zp66 a0),(aeE a1),(ahy a0),(13,aI (zU y6))] ?_))
     exact ⟨_,_,ZC [(zp66 a0),(aeE a1),(ahy a0),(13,aI (zU y6))] [] (by kernel_rfl),⟨(zU y6),hm,rfl,rfl⟩⟩
   ·
    refine c0 h8 (wp_exit ?_)
    exact ⟨y6,(decide (y6 < ((sll a0).length:Int))),hm,rfl,rfl⟩
abbrev adY (p0:(Option (List zn))):Nat × AV:=(1,.pv (zg zd p0))
abbrev ad0:Nat × AV:=(2,.pv (.fn 40 [] []))
abbrev afv (p0:(Option (List zn))):Nat × AV:=(15,.pv (zg zd p0))
abbrev agn (p0:(Option (List zn))):Nat × AV:=(16,aI ((sll p0).length:Int))
theorem aa0 {rc_plan_Same:(Nat→zb→zb→Option (Bool))} (ih_plan_Same:∀ {n:Nat} {a0:zb} {a1:zb} {r:Bool} (hm:rc_plan_Same n a0 a1=some r),call G n 40 [.agg [aI a0.fKind,aI a0.fRel,.pv (zg za a0.fWhere),.pv (zg za a0.fLeft),.pv (zg za a0.fRight),.pv (zg za a0.fOut),.pv (zg zi a0.fAggs),.pv (zg zj a0.fOrder),.pv (zg zd a0.fKids)],.agg [aI a1.fKind,aI a1.fRel,.pv (zg za a1.fWhere),.pv (zg za a1.fLeft),.pv (zg za a1.fRight),.pv (zg za a1.fOut),.pv (zg zi a1.fAggs),.pv (zg zj a1.fOrder),.pv (zg zd a1.fKids)]] []=some (.ret (aB r),[])) {n:Nat} {a0:(Option (List zn))} {a1:(Option (List zn))} {r:Bool} (hm:ZG rc_plan_Same n a0 a1=some r):
    call G n 129 [.pv (zg zd a0),.pv (zg zd a1),.pv (.fn 40 [] [])] []=some (.ret (aB r),[]):=by
  unfold ZG at hm
  obtain ⟨n,rfl,h0⟩:=zy hm
  replace hm:=h0; clear h0
  refine Z4 32 [(0,.pv (zg zd a0)),(adY a1),ad0] func129 rfl (by kernel_rfl) (sq (dn [(0,.pv (zg zd a0)),(adY a1),ad0] ?_))
  refine sq (sq (rg (s1 1 [(10,.pv (zg zd a0))] (dv 11 (v:=aI ((sll a0).length:Int)) (zI zd a0 t64 (by kernel_rfl)) (by kernel_rfl) (s1 1 [(12,.pv (zg zd a1))] (dv 13 (v:=aI ((sll a1).length:Int)) (zI zd a1 t64 (by kernel_rfl)) (by kernel_rfl) (fq 1 [(0,.pv (zg zd a0)),(adY a1),ad0,(14,aB (((sll a0).length:Int) != ((sll a1).length:Int)))] ?_)))))))
  rcases zh hm with ⟨h1,hm⟩ | ⟨h1,hm⟩
  ·
   refine c1 h1 (sq (dn [(6,aB false)] (wp_ret ?_)))
   obtain rfl:=Option.some.inj hm
   exact ⟨trivial,by kernel_rfl⟩
  ·
   refine c0 h1 (wp_skip ?_)
   obtain ⟨k4,hk4,hm⟩:=zx hm
   refine mid (fun t H=>(∃ (y2:Int) (y3:Bool),k4 ()=some r∧t=mk 32 [(adY a1),ad0,(afv a0),(agn a0),(17,aI y2),(18,aB y3)]∧H=[])) ?_ ?_
   ·
    rintro _ _ ⟨y2,y3,hm,rfl,rfl⟩
    subst hk4
    refine sq (dn [(6,aB true)] (wp_ret ?_))
    obtain rfl:=Option.some.inj hm
    exact ⟨trivial,by kernel_rfl⟩
   refine sq (rg (s1 1 [(afv a0)] (dv 16 (v:=aI ((sll a0).length:Int)) (zI zd a0 t64 (by kernel_rfl)) (by kernel_rfl) (fq 1 [(adY a1),ad0,(afv a0),(agn a0),(17,aI 0)] (bq ?_)))))
   refine qq (fun mm t H=>(∃ (y6:Int),zK n rc_plan_Same a0 a1 k4 mm y6=some r∧t=mk 32 [(adY a1),ad0,(afv a0),(agn a0),(17,aI y6)]∧H=[])) (⟨0,hm,rfl,rfl⟩) ?_ ?_
   · rintro _ _ ⟨y6,hm,_⟩; exact nomatch hm
   rintro m7 _ _ ⟨y6,hm,rfl,rfl⟩
   simp only [zK] at hm
   refine sq (dn [(adY a1),ad0,(afv a0),(agn a0),(17,aI y6),(18,aB (decide (y6 < ((sll a0).length:Int))))] ?_)
   refine sq ?_
   rcases zh hm with ⟨h8,hm⟩ | ⟨h8,hm⟩
   ·
    refine c1 h8 (wp_skip (sq (bq (sq (rg (s1 1 [(19,aI y6)] ?_))))))
    obtain ⟨x9,h10,hm⟩:=bs hm
    refine dv 20 (v:=.pv (.ptr (ZN (zq x9)) 0)) (aaK zd a0 .i64 t64 t66 h10 (Zg x9) rfl (by kernel_rfl)) (by kernel_rfl) (stf 4 [(adY a1),ad0,(7,aI y6),(8,.ptr 0 0),(afv a0),(agn a0),(17,aI y6)] [.box (zc3 x9) false] (by kernel_rfl) (sq (rg (s1 2 [(23,aI y6),(22,.pv (zg zd a1))] ?_))))
    obtain ⟨x11,h12,hm⟩:=bs hm
    refine dv 24 (v:=.pv (.ptr (ZN (zq x11)) 0)) (aaK zd a1 .i64 t64 t66 h12 (Zg x11) rfl (by kernel_rfl)) (by kernel_rfl) (stf 3 [(adY a1),ad0,(8,.ptr 0 0),(9,.ptr 1 0),(afv a0),(agn a0),(17,aI y6)] [.box (zc3 x9) false,.box (zc3 x11) false] (by kernel_rfl) (sq (rg (s1 3 [(28,.agg (zc3 x11)),(27,.agg (zc3 x9)),(26,.pv (.fn 40 [] []))] ?_))))
    obtain ⟨x13,h14,hm⟩:=bs hm
    refine dv 29 (Zh (by kernel_rfl) (ih_plan_Same h14) (by kernel_rfl) (by kernel_rfl) (by kernel_rfl)) (by kernel_rfl) (fq 1 [(adY a1),ad0,(afv a0),(agn a0),(17,aI y6),(30,aB (!x13))] ?_)
    rcases zh hm with ⟨h15,hm⟩ | ⟨h15,hm⟩
    ·
     refine c1 h15 (sq (dn [(6,aB false)] (wp_ret ?_)))
     obtain rfl:=Option.some.inj hm
     exact ⟨trivial,by kernel_rfl⟩
    ·
     refine c0 h15 (wp_skip (dn [(adY a1),ad0,(afv a0),(agn a0),(aj2 y6)] ?_))
     exact ⟨_,_,ZC [(adY a1),ad0,(afv a0),(agn a0),(aj2 y6)] [] (by kernel_rfl),⟨(zU y6),hm,rfl,rfl⟩⟩
   ·
    refine c0 h8 (wp_exit ?_)
    exact ⟨y6,(decide (y6 < ((sll a0).length:Int))),hm,rfl,rfl⟩
theorem ajz {rc_plan_Same:(Nat→zb→zb→Option (Bool))} (ih_plan_Same:∀ {n:Nat} {a0:zb} {a1:zb} {r:Bool} (hm:rc_plan_Same n a0 a1=some r),call G n 40 [.agg [aI a0.fKind,aI a0.fRel,.pv (zg za a0.fWhere),.pv (zg za a0.fLeft),.pv (zg za a0.fRight),.pv (zg za a0.fOut),.pv (zg zi a0.fAggs),.pv (zg zj a0.fOrder),.pv (zg zd a0.fKids)],.agg [aI a1.fKind,aI a1.fRel,.pv (zg za a1.fWhere),.pv (zg za a1.fLeft),.pv (zg za a1.fRight),.pv (zg za a1.fOut),.pv (zg zi a1.fAggs),.pv (zg zj a1.fOrder),.pv (zg zd a1.fKids)]] []=some (.ret (aB r),[])) {n:Nat} {a0:zb} {a1:zb} {r:Bool} (hm:abZ rc_plan_Same n a0 a1=some r):
    call G n 40 [.agg (zc2 a0),.agg (zc2 a1)] []=some (.ret (aB r),[]):=by
  unfold abZ at hm
  obtain ⟨n,rfl,h0⟩:=zy hm
  replace hm:=h0; clear h0
  refine Z4 66 [(0,.agg (zc2 a0)),(1,.agg (zc2 a1))] func40 rfl (by kernel_rfl) (sq (det [(2,.ptr 0 0),(3,.ptr 1 0)] [.box (zc2 a0) false,.box (zc2 a1) false] (by kernel_rfl) (sq (rg (s1 6 [(10,aB (a0.fKind == a1.fKind)),(9,aB (a0.fKind == a1.fKind)),(8,aI a1.fKind),(7,.ptr 1 0),(6,aI a0.fKind),(5,.ptr 0 0)] ?_)))))
  refine segP (a0.fKind == a1.fKind) [10,9] (fun b=>[(16,aB (b && (a0.fRel == a1.fRel))),(15,ifA b (aB (a0.fRel == a1.fRel)) (.undef)),(14,ifA b (aI a1.fRel) (.undef)),(13,ifA b (.ptr 1 1) (.undef)),(12,ifA b (aI a0.fRel) (.undef)),(11,ifA b (.ptr 0 1) (.undef))]) 6 (by kernel_rfl) (by kernel_rfl) (by kernel_rfl) (s1 1 [(17,aB ((a0.fKind == a1.fKind) && (a0.fRel == a1.fRel)))] ?_)
  rcases zh hm with ⟨h1,hm⟩ | ⟨h1,hm⟩
  ·
   refine known [17,16] h1 (by kernel_rfl) (s1 4 [(21,.pv (zg za a1.fWhere)),(20,.ptr 1 2),(19,.pv (zg za a0.fWhere)),(18,.ptr 0 2)] ?_)
   obtain ⟨x2,h3,hm⟩:=bs hm
   refine dv 22 (Zh (by kernel_rfl) (Zv h3) (by kernel_rfl) (by kernel_rfl) (by kernel_rfl)) (by kernel_rfl) (s1 2 [(24,aB x2),(23,aB x2)] ?_)
   rcases zh hm with ⟨h4,hm⟩ | ⟨h4,hm⟩
   ·
    refine known [24,23,22] h4 (by kernel_rfl) (s1 4 [(28,.pv (ahU a1)),(27,.ptr 1 3),(26,.pv (ahU a0)),(25,.ptr 0 3)] ?_)
    obtain ⟨x5,h6,hm⟩:=bs hm
    refine dv 29 (Zh (by kernel_rfl) (Zv h6) (by kernel_rfl) (by kernel_rfl) (by kernel_rfl)) (by kernel_rfl) (s1 2 [(31,aB x5),(30,aB x5)] ?_)
    rcases zh hm with ⟨h7,hm⟩ | ⟨h7,hm⟩
    ·
     refine known [31,30,29] h7 (by kernel_rfl) (s1 4 [(35,.pv (zg za a1.fRight)),(34,.ptr 1 4),(33,.pv (zg za a0.fRight)),(32,.ptr 0 4)] ?_)
     obtain ⟨x8,h9,hm⟩:=bs hm
     refine dv 36 (Zh (by kernel_rfl) (Zv h9) (by kernel_rfl) (by kernel_rfl) (by kernel_rfl)) (by kernel_rfl) (s1 2 [(38,aB x8),(37,aB x8)] ?_)
     rcases zh hm with ⟨h10,hm⟩ | ⟨h10,hm⟩
     ·
      refine known [38,37,36] h10 (by kernel_rfl) (s1 4 [(42,.pv (zg za a1.fOut)),(41,.ptr 1 5),(40,.pv (zg za a0.fOut)),(39,.ptr 0 5)] ?_)
      obtain ⟨x11,h12,hm⟩:=bs hm
      refine dv 43 (Zh (by kernel_rfl) (Zv h12) (by kernel_rfl) (by kernel_rfl) (by kernel_rfl)) (by kernel_rfl) (s1 2 [(45,aB x11),(44,aB x11)] ?_)
      rcases zh hm with ⟨h13,hm⟩ | ⟨h13,hm⟩
      ·
       refine known [45,44,43] h13 (by kernel_rfl) (s1 4 [(49,.pv (agz a1)),(48,.ptr 1 6),(47,.pv (agz a0)),(46,.ptr 0 6)] ?_)
       obtain ⟨x14,h15,hm⟩:=bs hm
       refine dv 50 (Zh (by kernel_rfl) (aba h15) (by kernel_rfl) (by kernel_rfl) (by kernel_rfl)) (by kernel_rfl) (s1 2 [(52,aB x14),(51,aB x14)] ?_)
       rcases zh hm with ⟨h16,hm⟩ | ⟨h16,hm⟩
       ·
        refine known [52,51,50] h16 (by kernel_rfl) (s1 4 [(56,.pv (agt a1)),(55,.ptr 1 7),(54,.pv (agt a0)),(53,.ptr 0 7)] ?_)
        obtain ⟨x17,h18,hm⟩:=bs hm
        refine dv 57 (Zh (by kernel_rfl) (afq h18) (by kernel_rfl) (by kernel_rfl) (by kernel_rfl)) (by kernel_rfl) (s1 2 [(59,aB x17),(58,aB x17)] ?_)
        rcases zh hm with ⟨h19,hm⟩ | ⟨h19,hm⟩
        ·
         refine known [59,58,57] h19 (by kernel_rfl) (s1 4 [(63,.pv (zg zd a1.fKids)),(62,.ptr 1 8),(61,.pv (zg zd a0.fKids)),(60,.ptr 0 8)] ?_)
         obtain ⟨x20,h21,hm⟩:=bs hm
         refine dv 64 (Zh (by kernel_rfl) (aa0 ih_plan_Same h21) (by kernel_rfl) (by kernel_rfl) (by kernel_rfl)) (by kernel_rfl) (fq 2 [(4,aB x20)] (wp_ret ?_))
         obtain rfl:=Option.some.inj hm
         exact ⟨trivial,by kernel_rfl⟩
        ·
         refine known [59,58,57] h19 (by kernel_rfl) (fq 7 [(4,aB false)] (wp_ret ?_))
         obtain rfl:=Option.some.inj hm
         exact ⟨trivial,by kernel_rfl⟩
       ·
        refine known [52,51,50] h16 (by kernel_rfl) (fq 14 [(4,aB false)] (wp_ret ?_))
        obtain rfl:=Option.some.inj hm
        exact ⟨trivial,by kernel_rfl⟩
      ·
       refine known [45,44,43] h13 (by kernel_rfl) (fq 21 [(4,aB false)] (wp_ret ?_))
       obtain rfl:=Option.some.inj hm
       exact ⟨trivial,by kernel_rfl⟩
     ·
      refine known [38,37,36] h10 (by kernel_rfl) (fq 28 [(4,aB false)] (wp_ret ?_))
      obtain rfl:=Option.some.inj hm
      exact ⟨trivial,by kernel_rfl⟩
    ·
     refine known [31,30,29] h7 (by kernel_rfl) (fq 35 [(4,aB false)] (wp_ret ?_))
     obtain rfl:=Option.some.inj hm
     exact ⟨trivial,by kernel_rfl⟩
   ·
    refine known [24,23,22] h4 (by kernel_rfl) (fq 42 [(4,aB false)] (wp_ret ?_))
    obtain rfl:=Option.some.inj hm
    exact ⟨trivial,by kernel_rfl⟩
  ·
   refine known [17,16] h1 (by kernel_rfl) (fq 49 [(4,aB false)] (wp_ret ?_))
   obtain rfl:=Option.some.inj hm
   exact ⟨trivial,by kernel_rfl⟩
theorem afC:∀ (m:Nat),∀ {n:Nat} {a0:zb} {a1:zb} {r:Bool} (hm:aay m n a0 a1=some r),call G n 40 [.agg (zc2 a0),.agg (zc2 a1)] []=some (.ret (aB r),[])
  | 0=>by intros; rename_i hm; exact nomatch hm
  | m+1=>fun hm=>
    ajz (afC m) hm
theorem akR {n:Nat} {a0:zb} {a1:zb} {r:Bool} (hm:aff n a0 a1=some r):
    call G n 40 [.agg (zc2 a0),.agg (zc2 a1)] []=some (.ret (aB r),[]):=afC n hm
theorem aei {n:Nat} {a0:zf} {r:Int} (hm:Qo n a0=some r):
    ∃ vv H1,call G n 17 [.ptr 0 0] [.box (zc10 a0) false]=some (.ret vv,H1)∧(match (generalizing:=false) r with | r0=>(vv=aI r0∧H1=[.box (zc10 a0) false])):=by
  unfold Qo at hm
  obtain ⟨n,rfl,h0⟩:=zy hm
  replace hm:=h0; clear h0
  refine QA 11 [(0,.ptr 0 0)] func17 rfl (by kernel_rfl) (sq (dn [(0,.ptr 0 0)] (sq (sq (rg (s1 1 [(3,.ptr 0 0)] ?_))))))
  obtain ⟨_,h1,hm⟩:=bs hm
  obtain ⟨vv,H1,hC,rfl,rfl⟩:=qA h1
  refine dR [(4,aB (agM a0))] [.box (zc10 a0) false] [0] [.ptr 0 0] (by kernel_rfl) (by kernel_rfl) (by kernel_rfl) hC (by kernel_rfl) (fq 1 [(0,.ptr 0 0),(5,aB (!(agM a0)))] ?_)
  rcases zh hm with ⟨h2,hm⟩ | ⟨h2,hm⟩
  ·
   refine c1 h2 (sq (dn [(2,aI 0)] (wp_ret ?_)))
   obtain rfl:=Option.some.inj hm
   exact ⟨trivial,aI 0,[.box (zc10 a0) false],by kernel_rfl,rfl,rfl⟩
  ·
   refine c0 h2 (wp_skip (sq (rg (s1 4 [(9,.pv (zg (rI .u8) a0.fb)),(8,.ptr 0 1),(7,.ptr 0 0),(6,.ptr 0 0)] (dv 10 (v:=aI ((sll a0.fb).length:Int)) (zI (rI .u8) a0.fb t29 (by kernel_rfl)) (by kernel_rfl) (fq 1 [(2,aI ((sll a0.fb).length:Int))] (wp_ret ?_)))))))
   obtain rfl:=Option.some.inj hm
   exact ⟨trivial,aI ((sll a0.fb).length:Int),[.box (zc10 a0) false],by kernel_rfl,rfl,rfl⟩
abbrev agG (p0:(Option (List Int))):Nat × AV:=(1,.pv (zg (rI .u8) p0))
theorem agy {n:Nat} {a0:zb} {a1:(Option (List Int))} {r:Bool} (hm:aam n a0 a1=some r):
    call G n 8 [.agg (zc2 a0),.pv (zg (rI .u8) a1)] []=some (.ret (aB r),[]):=by
  unfold aam at hm
  obtain ⟨n,rfl,h0⟩:=zy hm
  replace hm:=h0; clear h0
  refine Z4 50 [(0,.agg (zc2 a0)),(agG a1)] func8 rfl (by kernel_rfl) (sq (det [(agG a1),(2,.ptr 0 0)] [.box (zc2 a0) false] (by kernel_rfl) ?_))
  refine sq (sq (rg ?_))
  obtain ⟨x1,h2,hm⟩:=bs hm
  refine dv 8 (Zh (by kernel_rfl) (aik h2) (by kernel_rfl) (by kernel_rfl) (by kernel_rfl)) (by kernel_rfl) (fq 1 [(agG a1),(2,.ptr 0 0),(9,aB (!x1))] ?_)
  rcases zh hm with ⟨h3,hm⟩ | ⟨h3,hm⟩
  ·
   refine c1 h3 (sq (dn [(4,aB false)] (wp_ret ?_)))
   obtain rfl:=Option.some.inj hm
   exact ⟨trivial,by kernel_rfl⟩
  ·
   refine c0 h3 (wp_skip ?_)
   refine sq (sq (rg (s1 1 [(10,.agg (zc2 a0))] ?_)))
   obtain ⟨x4,h5,hm⟩:=bs hm
   refine dv 11 (Zh (by kernel_rfl) (aji h5) (by kernel_rfl) (by kernel_rfl) (by kernel_rfl)) (by kernel_rfl) (s1 1 [(12,aB x4)] ?_)
   refine seg x4 [12,11] (fun b=>[(16,aB (b || (decide (((sll a1).length:Int) > 1000)))),(15,ifA b (.undef) (aB (decide (((sll a1).length:Int) > 1000)))),(14,ifA b (.undef) (aI ((sll a1).length:Int))),(13,ifA b (.undef) (.pv (zg (rI .u8) a1)))]) 7 (by kernel_rfl) ?_ ?_ ?_
   ·
    intro Q h
    refine s1 4 [(16,aB true),(15,.undef),(14,.undef),(13,.undef)] ?_
    exact ab9 (by kernel_rfl) (by kernel_rfl) h
   ·
    intro Q h
    refine s1 1 [(13,.pv (zg (rI .u8) a1))] (dv 14 (v:=aI ((sll a1).length:Int)) (zI (rI .u8) a1 t29 (by kernel_rfl)) (by kernel_rfl) (s1 2 [(16,aB (decide (((sll a1).length:Int) > 1000))),(15,aB (decide (((sll a1).length:Int) > 1000)))] ?_))
    exact ab9 (by kernel_rfl) (by kernel_rfl) h
   refine s1 1 [(17,aB (x4 || (decide (((sll a1).length:Int) > 1000))))] ?_
   rcases zh hm with ⟨h6,hm⟩ | ⟨h6,hm⟩
   ·
    refine known [17,16] h6 (by kernel_rfl) (fq 4 [(agG a1),(2,.ptr 0 0),(21,aB true)] (cT (by kernel_rfl) (sq (dn [(4,aB true)] (wp_ret ?_)))))
    obtain rfl:=Option.some.inj hm
    exact ⟨trivial,by kernel_rfl⟩
   ·
    refine known [17,16] h6 (by kernel_rfl) (s1 1 [(18,.agg (zc2 a0))] ?_)
    obtain ⟨x7,h8,hm⟩:=bs hm
    refine dv 19 (Zh (by kernel_rfl) (acX h8) (by kernel_rfl) (by kernel_rfl) (by kernel_rfl)) (by kernel_rfl) (fq 2 [(agG a1),(2,.ptr 0 0),(21,aB (!x7))] ?_)
    rcases zh hm with ⟨h9,hm⟩ | ⟨h9,hm⟩
    ·
     refine c1 h9 (sq (dn [(4,aB true)] (wp_ret ?_)))
     obtain rfl:=Option.some.inj hm
     exact ⟨trivial,by kernel_rfl⟩
    ·
     refine c0 h9 (wp_skip ?_)
     obtain ⟨k15,hk15,hm⟩:=zx hm
     refine mid (fun t H=>(∃ (y10:(List Int)) (y11:(Option (List Int))) (g12:Nat) (g14:Nat),k15 y11=some r∧t=mk 50 [(agG a1),(2,.ptr 0 0),(5,.ptr 2 0)]∧H=[.box (zc2 a0) false,bR 5 1 (rI .u8) y10 g12 g14,.box [aB true,.pv (zg (rI .u8) y11),aI 0] false]∧g12≤y10.length)) ?_ ?_
     ·
      rintro _ _ ⟨y10,y11,g12,g14,hm,rfl,rfl,q13⟩
      subst hk15
      refine sq (rg (s1 1 [(28,.ptr 2 0)] ?_))
      obtain ⟨⟨x17,x18,x19,x20,x21,x22,x23,x24,x25,x26,x27,x28,x29⟩,h16,hm⟩:=bs hm
      obtain ⟨vv,H1,hC,rfl,rfl⟩:=akF h16
      refine dR [(29,.tup [.agg (Zf x20 x21 x22 x23 x24 x25 x26 x27 x28),aI x29])] [.box (zc2 a0) false,bR 5 1 (rI .u8) y10 g12 g14,.box (zc12 x17 x18 x19) false] [2] [.ptr 2 0] (by kernel_rfl) (by kernel_rfl) (by kernel_rfl) hC (by kernel_rfl) (stf 6 [(agG a1),(2,.ptr 0 0),(5,.ptr 2 0),(6,.ptr 3 0),(7,aI x29)] [.box (zc2 a0) false,bR 5 1 (rI .u8) y10 g12 g14,.box (zc12 x17 x18 x19) false,.box (Zf x20 x21 x22 x23 x24 x25 x26 x27 x28) false] (by kernel_rfl) (sq (rg (s1 3 [(34,aB (x29 == 0)),(33,aB (x29 == 0)),(32,aI x29)] ?_))))
      rcases zh hm with ⟨h30,hm⟩ | ⟨h30,hm⟩
      ·
       refine known [34,33] h30 (by kernel_rfl) (s1 2 [(36,.agg (zc2 a0)),(35,.agg (Zf x20 x21 x22 x23 x24 x25 x26 x27 x28))] ?_)
       obtain ⟨x31,h32,hm⟩:=bs hm
       refine dv 37 (Zh (by kernel_rfl) (akR h32) (by kernel_rfl) (by kernel_rfl) (by kernel_rfl)) (by kernel_rfl) (s1 2 [(39,aB x31),(38,aB x31)] ?_)
       rcases zh hm with ⟨h33,hm⟩ | ⟨h33,hm⟩
       ·
        refine known [39,38,37] h33 (by kernel_rfl) (s1 1 [(40,.agg (Zf x20 x21 x22 x23 x24 x25 x26 x27 x28))] ?_)
        obtain ⟨x34,h35,hm⟩:=bs hm
        refine dv 41 (Zh (by kernel_rfl) (acX h35) (by kernel_rfl) (by kernel_rfl) (by kernel_rfl)) (by kernel_rfl) (s1 2 [(43,aB x34),(42,aB x34)] ?_)
        rcases zh hm with ⟨h36,hm⟩ | ⟨h36,hm⟩
        ·
         refine known [43,42,41] h36 (by kernel_rfl) (s1 1 [(44,.ptr 2 0)] ?_)
         obtain ⟨x38,h37,hm⟩:=bs hm
         obtain ⟨vv,H1,hC,rfl,rfl⟩:=aei h37
         refine dR [(45,aI x38)] [.box (zc2 a0) false,bR 5 1 (rI .u8) y10 g12 g14,.box (zc12 x17 x18 x19) false,.box (Zf x20 x21 x22 x23 x24 x25 x26 x27 x28) false] [2] [.ptr 2 0] (by kernel_rfl) (by kernel_rfl) (by kernel_rfl) hC (by kernel_rfl) (s1 1 [(46,.pv (zg (rI .u8) a1))] (dv 47 (v:=aI ((sll a1).length:Int)) (zI (rI .u8) a1 t29 (by kernel_rfl)) (by kernel_rfl) (fq 3 [(4,aB (x38 == ((sll a1).length:Int)))] (wp_ret ?_))))
         obtain rfl:=Option.some.inj hm
         exact ⟨trivial,by kernel_rfl⟩
        ·
         refine known [43,42,41] h36 (by kernel_rfl) (fq 7 [(4,aB false)] (wp_ret ?_))
         obtain rfl:=Option.some.inj hm
         exact ⟨trivial,by kernel_rfl⟩
       ·
        refine known [39,38,37] h33 (by kernel_rfl) (fq 11 [(4,aB false)] (wp_ret ?_))
        obtain rfl:=Option.some.inj hm
        exact ⟨trivial,by kernel_rfl⟩
      ·
       refine known [34,33] h30 (by kernel_rfl) (fq 16 [(4,aB false)] (wp_ret ?_))
       obtain rfl:=Option.some.inj hm
       exact ⟨trivial,by kernel_rfl⟩
     refine rg (s1 1 [(22,.agg (zc2 a0))] ?_)
     obtain ⟨x40,h39,hm⟩:=bs hm
     obtain ⟨vv,H1,hC,g41,q42,rfl,rfl⟩:=ah5 h39
     refine dR [(23,aR 1 1 x40.length)] [.box (zc2 a0) false,bR 5 1 (rI .u8) x40 g41 0] [] [.pv .nils,.agg (zc2 a0)] (by kernel_rfl) (by kernel_rfl) (by kernel_rfl) hC (by kernel_rfl) (s1 1 [(24,.pv (zg (rI .u8) a1))] ?_)
     rcases zh hm with ⟨h43,hm⟩ | ⟨h43,hm⟩
     ·
      obtain ⟨_,h44,hm⟩:=bs hm
      refine dv 25 (v:=aR 1 1 x40.length) (aj1 (u:=0) (y:=.pv (zg (rI .u8) a1)) (n:=x40.length) (id:=1) (rI .u8) x40 (sll a1) (b:=1) t29 t5 rfl rfl rfl h43 h44 rfl rfl (by omega) (amB (R:=(rI .u8)) (s:=a1)) (by kernel_rfl)) (by kernel_rfl) ?_
      obtain ⟨_,h45,hm⟩:=bs hm
      obtain ⟨vv,H1,hC,rfl,rfl⟩:=afz h45
      refine dO [(26,.ptr 2 0)] [.box (zc2 a0) false,bR 5 1 (rI .u8) x40 g41 (max 0 (x40.map (rI .u8)).length),.box [aB true,.pv (zg (rI .u8) (some x40)),aI 0] false] (apT [1] [aR 1 1 x40.length] (v':=.ptr 2 0) (bs':=[.box [aB true,.pv (zg (rI .u8) (some x40)),aI 0] false]) (by kernel_rfl) (by kernel_rfl) (ZZ (amh (qe (n:=x40.length) (id:=1) (l:=x40) (R:=(rI .u8)) rfl rfl (by omega))) (rfl)) hC (by kernel_rfl) (by kernel_rfl) (by kernel_rfl)) (by kernel_rfl) (fq 1 [(agG a1),(2,.ptr 0 0),(5,.ptr 2 0)] ?_)
      exact ⟨x40,(some x40),g41,(max 0 (x40.map (rI .u8)).length),hm,rfl,rfl,(by first | exact Nat.zero_le _ | exact Nat.le_refl _ | assumption | omega | (simp only [List.length_set,List.length_append,List.length_cons,List.length_nil,List.length_replicate,List.length_drop] at * <;> omega))⟩
     ·
      obtain ⟨_,h46,hm⟩:=bs hm
      refine dO [(25,aR 1 1 ((x40++(sll a1)).length))] [.box (zc2 a0) false,bR 5 1 (rI .u8) (x40++(sll a1)) g41 0] (ZT (u:=0) (n:=x40.length) (id:=1) (rI .u8) x40 (sll a1) (b:=1) t29 t5 rfl rfl rfl (fun _=>rfl) h43 h46 rfl rfl (by omega) (amB (R:=(rI .u8)) (s:=a1)) (by kernel_rfl)) (by kernel_rfl) ?_
      obtain ⟨_,h47,hm⟩:=bs hm
      obtain ⟨vv,H1,hC,rfl,rfl⟩:=afz h47
      refine dO [(26,.ptr 2 0)] [.box (zc2 a0) false,bR 5 1 (rI .u8) (x40++(sll a1)) g41 (max 0 ((x40++(sll a1)).map (rI .u8)).length),.box [aB true,.pv (zg (rI .u8) (some (x40++(sll a1)))),aI 0] false] (apT [1] [aR 1 1 ((x40++(sll a1)).length)] (v':=.ptr 2 0) (bs':=[.box [aB true,.pv (zg (rI .u8) (some (x40++(sll a1)))),aI 0] false]) (by kernel_rfl) (by kernel_rfl) (ZZ (amh (qe (n:=(x40++(sll a1)).length) (id:=1) (l:=(x40++(sll a1))) (R:=(rI .u8)) rfl rfl (by first | exact Nat.zero_le _ | exact Nat.le_refl _ | assumption | omega | (simp only [List.length_set,List.length_append,List.length_cons,List.length_nil,List.length_replicate,List.length_drop] at * <;> omega)))) (rfl)) hC (by kernel_rfl) (by kernel_rfl) (by kernel_rfl)) (by kernel_rfl) (fq 1 [(agG a1),(2,.ptr 0 0),(5,.ptr 2 0)] ?_)
      exact ⟨(x40++(sll a1)),(some (x40++(sll a1))),g41,(max 0 ((x40++(sll a1)).map (rI .u8)).length),hm,rfl,rfl,(by first | exact Nat.zero_le _ | exact Nat.le_refl _ | assumption | omega | (simp only [List.length_set,List.length_append,List.length_cons,List.length_nil,List.length_replicate,List.length_drop] at * <;> omega))⟩
end Go.Ab.S1
