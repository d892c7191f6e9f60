import Derived.Test.YtejbcaheoloahaaGreatWB2
noncomputable section
namespace Go.Ab.S1
open Go Go.Ab Go.Pl
open Go.Proofs.Tryz
set_option linter.all false
set_option maxHeartbeats 4000000
set_option maxRecDepth 100000
abbrev zc23 (p0:Int) (p1:Int) (p2:Int) (p3:Int) (p4:Int) (p5:Nat) (p6:ByteArray) (p7:jq):List AV:=[aI p0,aI p1,aI p2,aI p3,aI p4,aF p5,aS p6,aR 3 8 p7.length]
abbrev zc24 (p0:Int) (p1:Int) (p2:Int) (p3:Int) (p4:Int) (p5:Nat) (p6:ByteArray) (p7:jq):List AV:=[aI p0,aI p1,aI p2,aI p3,aI p4,aF p5,aS p6,aR 2 8 p7.length]
theorem acu {n:Nat}{a0:Bool}{a1:(Option (List Int))}{a2:Int}{r:Bool×(Option (List Int))×Int×Int×Int×Int×Int×Int×Nat×ByteArray×jo×Int}(hm:abV n a0 a1 a2=some r):
   ∃ vv H1,call G n 73 [.ptr 0 0] [.box [.ptr 1 0] false,.box [aB a0,.pv (zg (rI .u8) a1),aI a2] false]=some (.ret vv,H1)∧(match (generalizing:=false) r with|(r0,r1,r2,r3,r4,r5,r6,r7,r8,r9,none,r10)=>(vv=.tup [.agg [aI r3,aI r4,aI r5,aI r6,aI r7,aF r8,aS r9,.pv .nils],aI r10]∧H1=[.box [.ptr 1 0] false,.box [aB r0,.pv (zg (rI .u8) r1),aI r2] false])|(r0,r1,r2,r3,r4,r5,r6,r7,r8,r9,some r11,r10)=>(vv=.tup [.agg [aI r3,aI r4,aI r5,aI r6,aI r7,aF r8,aS r9,aR 2 8 r11.length],aI r10]∧H1=[.box [.ptr 1 0] false,.box [aB r0,.pv (zg (rI .u8) r1),aI r2] false,bR 49 8 za r11 0 0])):=by
 unfold abV at hm
 obtain ⟨n,rfl,h0⟩:=zu hm
 replace hm:=h0;clear h0
 refine ZJ 7 [jF] func73 rfl hJ (sq (det [jF,jU] [.box [.ptr 1 0] false,.box [aB a0,.pv (zg (rI .u8) a1),aI a2] false,.box zc17 false] hJ (sq (rg (s1 1 [jO] ?_)))))
 obtain ⟨x14,h1,hm⟩:=bs hm
 rcases x14 with ⟨x2,x3,x4,x5,x6,x7,x8,x9,x10,x11,_|x12,x13⟩
 ·obtain ⟨vv,H1,hC,rfl,rfl⟩:=aee h1
  refine dR [(4,.tup [.agg (zc22 x5 x6 x7 x8 x9 x10 x11),aI x13])] [.box [.ptr 1 0] false,.box [aB x2,.pv (zg (rI .u8) x3),aI x4] false,.box zc17 false] [1] [.ptr 1 0] hJ hJ hJ hC hJ (stf 4 [jU,(2,aI x13)] [.box [.ptr 1 0] false,.box [aB x2,.pv (zg (rI .u8) x3),aI x4] false,.box (zc22 x5 x6 x7 x8 x9 x10 x11) false] hJ (jf ?_))
  obtain rfl:=ji hm
  exact ⟨trivial,.tup [.agg (zc22 x5 x6 x7 x8 x9 x10 x11),aI x13],[.box [.ptr 1 0] false,.box [aB x2,.pv (zg (rI .u8) x3),aI x4] false],hJ,rfl,rfl⟩
 obtain ⟨vv,H1,hC,rfl,rfl⟩:=aee h1
 refine dR [(4,.tup [.agg (zc23 x5 x6 x7 x8 x9 x10 x11 x12),aI x13])] [.box [.ptr 1 0] false,.box [aB x2,.pv (zg (rI .u8) x3),aI x4] false,.box zc17 false,bR 49 8 za x12 0 0] [1] [.ptr 1 0] hJ hJ hJ hC hJ (stf 4 [jU,(2,aI x13)] [.box [.ptr 1 0] false,.box [aB x2,.pv (zg (rI .u8) x3),aI x4] false,.box (zc23 x5 x6 x7 x8 x9 x10 x11 x12) false,bR 49 8 za x12 0 0] hJ (jf ?_))
 obtain rfl:=ji hm
 exact ⟨trivial,.tup [.agg (zc24 x5 x6 x7 x8 x9 x10 x11 x12),aI x13],[.box [.ptr 1 0] false,.box [aB x2,.pv (zg (rI .u8) x3),aI x4] false,bR 49 8 za x12 0 0],hJ,rfl,rfl⟩
abbrev QK:Nat×AV:=(2,kV)
theorem zN {n:Nat}{a0:zi}{a1:Int}{r:Bool×(Option (List Int))×Int×jo×Int}(hm:Zc n a0 a1=some r):
   ∃ vv H1,call G n 79 [.ptr 0 0,aU a1,kV] [.box (zc12 a0) false,.box [.ptr 0 0] false]=some (.ret vv,H1)∧(match (generalizing:=false) r with|(r0,r1,r2,none,r3)=>(vv=.tup [.pv .nils,aI r3]∧H1=[.box [aB r0,.pv (zg (rI .u8) r1),aI r2] false,.box [.ptr 0 0] false])|(r0,r1,r2,some r4,r3)=>(vv=.tup [aR 2 8 r4.length,aI r3]∧H1=[.box [aB r0,.pv (zg (rI .u8) r1),aI r2] false,.box [.ptr 0 0] false,bR 49 8 za r4 0 0])):=by
 unfold Zc at hm
 obtain ⟨n,rfl,h0⟩:=zu hm
 replace hm:=h0;clear h0
 refine ZJ 32 [jF,(1,aU a1),QK] func79 rfl hJ (sq (dn [jF,(1,aU a1),QK] (sq (dn [jF,(1,aU a1),QK,kr] ?_))))
 obtain ⟨k8,hk8,hm⟩:=zt hm
 refine mid (fun t H=>(∃ (y4:Bool) (y5:(Option (List Int))) (y6:Int) (w1:AV) (w2:AV) (w3:AV),k8 y4 y5 y6 none=some r∧t=mk 32 [jF,QK,kr,(13,w1),(14,w2),(15,w3)]∧H=[.box [aB y4,.pv (zg (rI .u8) y5),aI y6] false,.box [.ptr 0 0] false])∨(∃ (y4:Bool) (y5:(Option (List Int))) (y6:Int) (y7:jq) (w1:AV) (w2:AV) (w3:AV),k8 y4 y5 y6 (some y7)=some r∧t=mk 32 [jF,QK,(8,aR 2 8 y7.length),(13,w1),(14,w2),(15,w3)]∧H=[.box [aB y4,.pv (zg (rI .u8) y5),aI y6] false,.box [.ptr 0 0] false,bR 49 8 za y7 0 0])) ?_ ?_
 ·rintro _ _ (⟨y4,y5,y6,w1,w2,w3,hm,rfl,rfl⟩|⟨y4,y5,y6,y7,w1,w2,w3,hm,rfl,rfl⟩)
  ·subst hk8
   refine sq (rg (s1 2 [j1,kA] ?_))
   obtain ⟨x10,h9,hm⟩:=bs hm
   obtain ⟨vv,H1,hC,rfl,rfl⟩:=Zp h9
   refine dR [(31,aI x10)] [.box [aB y4,.pv (zg (rI .u8) y5),aI y6] false,.box [.ptr 0 0] false] [0] [.ptr 0 0] hJ hJ hJ hC hJ (fq 2 [kx,(7,aI x10)] (jf ?_))
   obtain rfl:=ji hm
   exact ⟨trivial,.tup [.pv .nils,aI x10],[.box [aB y4,.pv (zg (rI .u8) y5),aI y6] false,.box [.ptr 0 0] false],hJ,rfl,rfl⟩
  subst hk8
  refine sq (rg (s1 2 [j1,(29,aR 2 8 y7.length)] ?_))
  obtain ⟨x12,h11,hm⟩:=bs hm
  obtain ⟨vv,H1,hC,rfl,rfl⟩:=Zp h11
  refine dR [(31,aI x12)] [.box [aB y4,.pv (zg (rI .u8) y5),aI y6] false,.box [.ptr 0 0] false,bR 49 8 za y7 0 0] [0] [.ptr 0 0] hJ hJ hJ hC hJ (fq 2 [(6,aR 2 8 y7.length),(7,aI x12)] (jf ?_))
  obtain rfl:=ji hm
  exact ⟨trivial,.tup [aR 2 8 y7.length,aI x12],[.box [aB y4,.pv (zg (rI .u8) y5),aI y6] false,.box [.ptr 0 0] false,bR 49 8 za y7 0 0],hJ,rfl,rfl⟩
 refine sq (rg (s1 2 [(12,aU a1),j9] ?_))
 obtain ⟨⟨x14,x15,x16,x17⟩,h13,hm⟩:=bs hm
 obtain ⟨vv,H1,hC,rfl,rfl⟩:=ZZ h13
 refine dR [(13,aU x17)] [.box (zc13 x14 x15 x16) false,.box [.ptr 0 0] false] [0] [.ptr 0 0,aU a1] hJ hJ hJ hC hJ (fq 1 [jF,QK,kr,(13,aU x17),(14,aU 0)] (bq ?_))
 refine qB (fun mm t H=>(∃ (y24:Bool) (y25:(Option (List Int))) (y26:Int) (y27:Int),zL n k8 x17 mm y24 y25 y26 y27 none=some r∧t=mk 32 [jF,QK,kr,(13,aU x17),(14,aU y27)]∧H=[.box (zc13 y24 y25 y26) false,.box [.ptr 0 0] false])∨(∃ (y24:Bool) (y25:(Option (List Int))) (y26:Int) (y27:Int) (y28:jq),zL n k8 x17 mm y24 y25 y26 y27 (some y28)=some r∧t=mk 32 [jF,QK,(8,aR 2 8 y28.length),(13,aU x17),(14,aU y27)]∧H=[.box (zc13 y24 y25 y26) false,.box [.ptr 0 0] false,bR 49 8 za y28 0 0])) (.inl ⟨x14,x15,x16,0,hm,rfl,rfl⟩) ?_ ?_
 ·
   rintro _ _ (⟨y24,y25,y26,y27,hm,_⟩|⟨y24,y25,y26,y27,y28,hm,_⟩)<;>exact nomatch hm
 rintro m29 _ _ (⟨y24,y25,y26,y27,hm,rfl,rfl⟩|⟨y24,y25,y26,y27,y28,hm,rfl,rfl⟩)
 ·simp only [zL] at hm
  refine sq (dn [jF,QK,kr,(13,aU x17),(14,aU y27),(15,aB (decide (y27<x17)))] ?_)
  refine sq ?_
  rcases zf hm with ⟨h30,hm⟩|⟨h30,hm⟩
  ·refine c1 h30 (jg (sq (bq ?_)))
   obtain ⟨k43,hk43,hm⟩:=zt hm
   refine mid (fun t H=>(∃ (y31:Bool) (y32:(Option (List Int))) (y33:Int) (y34:Int) (y35:Int) (y36:Int) (y37:Int) (y38:Int) (y39:Int) (y40:Nat) (y41:ByteArray),k43 y31 y32 y33 y34 y35 y36 y37 y38 y39 y40 y41 none=some r∧t=mk 32 [jF,QK,kr,j3,(10,aI y34),(13,aU x17),(14,aU y27)]∧H=[.box (zc13 y31 y32 y33) false,.box [.ptr 0 0] false,.box (zc22 y35 y36 y37 y38 y39 y40 y41) false])∨(∃ (y31:Bool) (y32:(Option (List Int))) (y33:Int) (y34:Int) (y35:Int) (y36:Int) (y37:Int) (y38:Int) (y39:Int) (y40:Nat) (y41:ByteArray) (y42:jq),k43 y31 y32 y33 y34 y35 y36 y37 y38 y39 y40 y41 (some y42)=some r∧t=mk 32 [jF,QK,kr,jQ,(10,aI y34),(13,aU x17),(14,aU y27)]∧H=[.box (zc13 y31 y32 y33) false,.box [.ptr 0 0] false,bR 49 8 za y42 0 0,.box (zc24 y35 y36 y37 y38 y39 y40 y41 y42) false])) ?_ ?_
   ·rintro _ _ (⟨y31,y32,y33,y34,y35,y36,y37,y38,y39,y40,y41,hm,rfl,rfl⟩|⟨y31,y32,y33,y34,y35,y36,y37,y38,y39,y40,y41,y42,hm,rfl,rfl⟩)
    ·subst hk43
     refine sq (sq (dn [jF,QK,kr,j3,(10,aI y34),(13,aU x17),(14,aU y27),(22,aB (y34 !=0))] ?_))
     rcases zf hm with ⟨h44,hm⟩|⟨h44,hm⟩
     ·refine c1 h44 (sq (dn [kx,(7,aI y34)] (jf ?_)))
      obtain rfl:=ji hm
      exact ⟨trivial,.tup [.pv .nils,aI y34],[.box (zc13 y31 y32 y33) false,.box [.ptr 0 0] false],hJ,rfl,rfl⟩
     refine c0 h44 (jg (rg (st 3 [(26,aR 3 8 1),(25,.agg (zc22 y35 y36 y37 y38 y39 y40 y41)),kC] [.box (zc13 y31 y32 y33) false,.box [.ptr 0 0] false,.box (zc22 y35 y36 y37 y38 y39 y40 y41) false,bR 49 8 za (acn y35 y36 y37 y38 y39 y40 y41) 0 0] hJ ?_)))
     obtain ⟨_,h45,hm⟩:=bs hm
     refine dO [(27,aR 4 8 (alu y35 y36 y37 y38 y39 y40 y41))] [.box (zc13 y31 y32 y33) false,.box [.ptr 0 0] false,.box (zc22 y35 y36 y37 y38 y39 y40 y41) false,bR 49 8 za (acn y35 y36 y37 y38 y39 y40 y41) 0 0,bR 49 8 za (acn y35 y36 y37 y38 y39 y40 y41) 0 0] (Qa (u:=0) za (acn y35 y36 y37 y38 y39 y40 y41) (b:=88) t23 t49 rfl rfl rfl Z6 rfl h45 (show zT (aR 3 8 1) _=some (ap3 y35 y36 y37 y38 y39 y40 y41) from by kernel_rfl) hJ) hJ (fq 1 [jF,QK,(8,aR 4 8 (alu y35 y36 y37 y38 y39 y40 y41)),(13,aU x17),(14,aU y27)] (dn [jF,QK,(8,aR 4 8 (alu y35 y36 y37 y38 y39 y40 y41)),(13,aU x17),(abw y27)] ?_))
     exact ⟨_,_,ZD [jF,QK,(8,aR 2 8 (alu y35 y36 y37 y38 y39 y40 y41)),(13,aU x17),(abw y27)] [.box (zc13 y31 y32 y33) false,.box [.ptr 0 0] false,bR 49 8 za (acn y35 y36 y37 y38 y39 y40 y41) 0 0] hJ,.inr (⟨y31,y32,y33,(af6 y27),(acn y35 y36 y37 y38 y39 y40 y41),hm,rfl,rfl⟩)⟩
    subst hk43
    refine sq (sq (dn [jF,QK,kr,jQ,(10,aI y34),(13,aU x17),(14,aU y27),(22,aB (y34 !=0))] ?_))
    rcases zf hm with ⟨h46,hm⟩|⟨h46,hm⟩
    ·refine c1 h46 (sq (dn [kx,(7,aI y34)] (jf ?_)))
     obtain rfl:=ji hm
     exact ⟨trivial,.tup [.pv .nils,aI y34],[.box (zc13 y31 y32 y33) false,.box [.ptr 0 0] false],hJ,rfl,rfl⟩
    refine c0 h46 (jg (rg (s1 2 [(25,.agg (zc24 y35 y36 y37 y38 y39 y40 y41 y42)),kC] (dO [(26,aR 4 8 1)] [.box (zc13 y31 y32 y33) false,.box [.ptr 0 0] false,bR 49 8 za y42 0 (ae4 y42),.box (zc24 y35 y36 y37 y38 y39 y40 y41 y42) false,bR 49 8 za (abb y35 y36 y37 y38 y39 y40 y41 y42) 0 0] (afE (nid:=0) (t:=23) (len:=1) (is:=[0]) (vs:=[.agg (zc24 y35 y36 y37 y38 y39 y40 y41 y42)]) (ps:=[.agg [aI y35,aI y36,aI y37,aI y38,aI y39,aF y40,aS y41,.pv (.sl (y42.map za))]]) (R:=[2]) (e:=⟨aR 4 8 1,[],[bR 49 8 za (abb y35 y36 y37 y38 y39 y40 y41 y42) 0 0]⟩) hJ (zK (ahC (zj (zw) (zj (zw) (zj (zw) (zj (zw) (zj (zw) (zj (zw) (zj (zw) (zj (zB (n:=y42.length) (id:=2) (l:=y42) (R:=za) rfl rfl (Nat.zero_le _)) (rfl))))))))) rfl) (rfl)) hJ hJ) hJ ?_))))
    obtain ⟨_,h47,hm⟩:=bs hm
    refine dO [(27,aR 5 8 (alV y35 y36 y37 y38 y39 y40 y41 y42))] [.box (zc13 y31 y32 y33) false,.box [.ptr 0 0] false,bR 49 8 za y42 0 (ae4 y42),.box (zc24 y35 y36 y37 y38 y39 y40 y41 y42) false,bR 49 8 za (abb y35 y36 y37 y38 y39 y40 y41 y42) 0 0,bR 49 8 za (abb y35 y36 y37 y38 y39 y40 y41 y42) 0 0] (Qa (u:=0) za (abb y35 y36 y37 y38 y39 y40 y41 y42) (b:=88) t23 t49 rfl rfl rfl Z6 rfl h47 (show zT (aR 4 8 1) _=some (apO y35 y36 y37 y38 y39 y40 y41 y42) from by kernel_rfl) hJ) hJ (fq 1 [jF,QK,(8,aR 5 8 (alV y35 y36 y37 y38 y39 y40 y41 y42)),(13,aU x17),(14,aU y27)] (dn [jF,QK,(8,aR 5 8 (alV y35 y36 y37 y38 y39 y40 y41 y42)),(13,aU x17),(abw y27)] ?_))
    exact ⟨_,_,ZD [jF,QK,(8,aR 2 8 (alV y35 y36 y37 y38 y39 y40 y41 y42)),(13,aU x17),(abw y27)] [.box (zc13 y31 y32 y33) false,.box [.ptr 0 0] false,bR 49 8 za (abb y35 y36 y37 y38 y39 y40 y41 y42) 0 0] hJ,.inr (⟨y31,y32,y33,(af6 y27),(abb y35 y36 y37 y38 y39 y40 y41 y42),hm,rfl,rfl⟩)⟩
   refine rg (s1 1 [(17,kV)] ?_)
   obtain ⟨x61,h48,hm⟩:=bs hm
   rcases x61 with ⟨x49,x50,x51,x52,x53,x54,x55,x56,x57,x58,_|x59,x60⟩
   ·obtain ⟨vv,H1,hC,rfl,rfl⟩:=acu h48
    refine dR [(18,.tup [.agg (zc22 x52 x53 x54 x55 x56 x57 x58),aI x60])] [.box (zc13 x49 x50 x51) false,.box [.ptr 0 0] false] [1,0] [.ptr 1 0] hJ hJ hJ hC hJ (stf 6 [jF,QK,kr,j3,(10,aI x60),(13,aU x17),(14,aU y27)] [.box (zc13 x49 x50 x51) false,.box [.ptr 0 0] false,.box (zc22 x52 x53 x54 x55 x56 x57 x58) false] hJ ?_)
    exact .inl ⟨x49,x50,x51,x60,x52,x53,x54,x55,x56,x57,x58,hm,rfl,rfl⟩
   obtain ⟨vv,H1,hC,rfl,rfl⟩:=acu h48
   refine dR [(18,.tup [.agg (zc24 x52 x53 x54 x55 x56 x57 x58 x59),aI x60])] [.box (zc13 x49 x50 x51) false,.box [.ptr 0 0] false,bR 49 8 za x59 0 0] [1,0] [.ptr 1 0] hJ hJ hJ hC hJ (stf 6 [jF,QK,kr,jQ,(10,aI x60),(13,aU x17),(14,aU y27)] [.box (zc13 x49 x50 x51) false,.box [.ptr 0 0] false,bR 49 8 za x59 0 0,.box (zc24 x52 x53 x54 x55 x56 x57 x58 x59) false] hJ ?_)
   exact .inr (⟨x49,x50,x51,x60,x52,x53,x54,x55,x56,x57,x58,x59,hm,rfl,rfl⟩)
  refine c0 h30 (jh ?_)
  exact .inl ⟨y24,y25,y26,aU x17,aU y27,aB (decide (y27<x17)),hm,(zH hJ),rfl⟩
 simp only [zL] at hm
 refine sq (dn [jF,QK,(8,aR 2 8 y28.length),(13,aU x17),(14,aU y27),(15,aB (decide (y27<x17)))] ?_)
 refine sq ?_
 rcases zf hm with ⟨h62,hm⟩|⟨h62,hm⟩
 ·refine c1 h62 (jg (sq (bq ?_)))
  obtain ⟨k75,hk75,hm⟩:=zt hm
  refine mid (fun t H=>(∃ (y63:Bool) (y64:(Option (List Int))) (y65:Int) (y66:Int) (y67:Int) (y68:Int) (y69:Int) (y70:Int) (y71:Int) (y72:Nat) (y73:ByteArray),k75 y63 y64 y65 y66 y67 y68 y69 y70 y71 y72 y73 none=some r∧t=mk 32 [jF,QK,(8,aR 2 8 y28.length),jQ,(10,aI y66),(13,aU x17),(14,aU y27)]∧H=[.box (zc13 y63 y64 y65) false,.box [.ptr 0 0] false,bR 49 8 za y28 0 0,.box (zc22 y67 y68 y69 y70 y71 y72 y73) false])∨(∃ (y63:Bool) (y64:(Option (List Int))) (y65:Int) (y66:Int) (y67:Int) (y68:Int) (y69:Int) (y70:Int) (y71:Int) (y72:Nat) (y73:ByteArray) (y74:jq),k75 y63 y64 y65 y66 y67 y68 y69 y70 y71 y72 y73 (some y74)=some r∧t=mk 32 [jF,QK,(8,aR 2 8 y28.length),ka,(10,aI y66),(13,aU x17),(14,aU y27)]∧H=[.box (zc13 y63 y64 y65) false,.box [.ptr 0 0] false,bR 49 8 za y28 0 0,bR 49 8 za y74 0 0,.box (zc23 y67 y68 y69 y70 y71 y72 y73 y74) false])) ?_ ?_
  ·rintro _ _ (⟨y63,y64,y65,y66,y67,y68,y69,y70,y71,y72,y73,hm,rfl,rfl⟩|⟨y63,y64,y65,y66,y67,y68,y69,y70,y71,y72,y73,y74,hm,rfl,rfl⟩)
   ·subst hk75
    refine sq (sq (dn [jF,QK,(8,aR 2 8 y28.length),jQ,(10,aI y66),(13,aU x17),(14,aU y27),(22,aB (y66 !=0))] ?_))
    rcases zf hm with ⟨h76,hm⟩|⟨h76,hm⟩
    ·refine c1 h76 (sq (dn [kx,(7,aI y66)] (jf ?_)))
     obtain rfl:=ji hm
     exact ⟨trivial,.tup [.pv .nils,aI y66],[.box (zc13 y63 y64 y65) false,.box [.ptr 0 0] false],hJ,rfl,rfl⟩
    refine c0 h76 (jg (rg (st 3 [(26,aR 4 8 1),(25,.agg (zc22 y67 y68 y69 y70 y71 y72 y73)),(24,aR 2 8 y28.length)] [.box (zc13 y63 y64 y65) false,.box [.ptr 0 0] false,bR 49 8 za y28 0 0,.box (zc22 y67 y68 y69 y70 y71 y72 y73) false,bR 49 8 za (acn y67 y68 y69 y70 y71 y72 y73) 0 0] hJ ?_)))
    obtain ⟨_,h77,hm⟩:=bs hm
    refine dO [(27,aR 2 8 (ala y28 y67 y68 y69 y70 y71 y72 y73))] [.box (zc13 y63 y64 y65) false,.box [.ptr 0 0] false,bR 49 8 za (aly y28 y67 y68 y69 y70 y71 y72 y73) 0 0,.box (zc22 y67 y68 y69 y70 y71 y72 y73) false,bR 49 8 za (acn y67 y68 y69 y70 y71 y72 y73) 0 0] (ZF (u:=0) (n:=y28.length) (id:=2) za y28 (acn y67 y68 y69 y70 y71 y72 y73) (b:=88) t23 t49 rfl rfl rfl Z6 rfl h77 rfl rfl (Nat.zero_le _) (show zT (aR 4 8 1) _=some (ap3 y67 y68 y69 y70 y71 y72 y73) from by kernel_rfl) hJ) hJ (fq 1 [jF,QK,(8,aR 2 8 (ala y28 y67 y68 y69 y70 y71 y72 y73)),(13,aU x17),(14,aU y27)] (dn [jF,QK,(8,aR 2 8 (ala y28 y67 y68 y69 y70 y71 y72 y73)),(13,aU x17),(abw y27)] ?_))
    exact ⟨_,_,ZD [jF,QK,(8,aR 2 8 (ala y28 y67 y68 y69 y70 y71 y72 y73)),(13,aU x17),(abw y27)] [.box (zc13 y63 y64 y65) false,.box [.ptr 0 0] false,bR 49 8 za (aly y28 y67 y68 y69 y70 y71 y72 y73) 0 0] hJ,.inr (⟨y63,y64,y65,(af6 y27),(aly y28 y67 y68 y69 y70 y71 y72 y73),hm,rfl,rfl⟩)⟩
   subst hk75
   refine sq (sq (dn [jF,QK,(8,aR 2 8 y28.length),ka,(10,aI y66),(13,aU x17),(14,aU y27),(22,aB (y66 !=0))] ?_))
   rcases zf hm with ⟨h78,hm⟩|⟨h78,hm⟩
   ·refine c1 h78 (sq (dn [kx,(7,aI y66)] (jf ?_)))
    obtain rfl:=ji hm
    exact ⟨trivial,.tup [.pv .nils,aI y66],[.box (zc13 y63 y64 y65) false,.box [.ptr 0 0] false],hJ,rfl,rfl⟩
   refine c0 h78 (jg (rg (s1 2 [(25,.agg (zc23 y67 y68 y69 y70 y71 y72 y73 y74)),(24,aR 2 8 y28.length)] (dO [(26,aR 5 8 1)] [.box (zc13 y63 y64 y65) false,.box [.ptr 0 0] false,bR 49 8 za y28 0 0,bR 49 8 za y74 0 (ae4 y74),.box (zc23 y67 y68 y69 y70 y71 y72 y73 y74) false,bR 49 8 za (abb y67 y68 y69 y70 y71 y72 y73 y74) 0 0] (afE (nid:=0) (t:=23) (len:=1) (is:=[0]) (vs:=[.agg (zc23 y67 y68 y69 y70 y71 y72 y73 y74)]) (ps:=[.agg [aI y67,aI y68,aI y69,aI y70,aI y71,aF y72,aS y73,.pv (.sl (y74.map za))]]) (R:=[3]) (e:=⟨aR 5 8 1,[],[bR 49 8 za (abb y67 y68 y69 y70 y71 y72 y73 y74) 0 0]⟩) hJ (zK (ahC (zj (zw) (zj (zw) (zj (zw) (zj (zw) (zj (zw) (zj (zw) (zj (zw) (zj (zB (n:=y74.length) (id:=3) (l:=y74) (R:=za) rfl rfl (Nat.zero_le _)) (rfl))))))))) rfl) (rfl)) hJ hJ) hJ ?_))))
   obtain ⟨_,h79,hm⟩:=bs hm
   refine dO [(27,aR 2 8 (al0 y28 y67 y68 y69 y70 y71 y72 y73 y74))] [.box (zc13 y63 y64 y65) false,.box [.ptr 0 0] false,bR 49 8 za (alI y28 y67 y68 y69 y70 y71 y72 y73 y74) 0 0,bR 49 8 za y74 0 (ae4 y74),.box (zc23 y67 y68 y69 y70 y71 y72 y73 y74) false,bR 49 8 za (abb y67 y68 y69 y70 y71 y72 y73 y74) 0 0] (ZF (u:=0) (n:=y28.length) (id:=2) za y28 (abb y67 y68 y69 y70 y71 y72 y73 y74) (b:=88) t23 t49 rfl rfl rfl Z6 rfl h79 rfl rfl (Nat.zero_le _) (show zT (aR 5 8 1) _=some (apO y67 y68 y69 y70 y71 y72 y73 y74) from by kernel_rfl) hJ) hJ (fq 1 [jF,QK,(8,aR 2 8 (al0 y28 y67 y68 y69 y70 y71 y72 y73 y74)),(13,aU x17),(14,aU y27)] (dn [jF,QK,(8,aR 2 8 (al0 y28 y67 y68 y69 y70 y71 y72 y73 y74)),(13,aU x17),(abw y27)] ?_))
   exact ⟨_,_,ZD [jF,QK,(8,aR 2 8 (al0 y28 y67 y68 y69 y70 y71 y72 y73 y74)),(13,aU x17),(abw y27)] [.box (zc13 y63 y64 y65) false,.box [.ptr 0 0] false,bR 49 8 za (alI y28 y67 y68 y69 y70 y71 y72 y73 y74) 0 0] hJ,.inr (⟨y63,y64,y65,(af6 y27),(alI y28 y67 y68 y69 y70 y71 y72 y73 y74),hm,rfl,rfl⟩)⟩
  refine rg (s1 1 [(17,kV)] ?_)
  obtain ⟨x93,h80,hm⟩:=bs hm
  rcases x93 with ⟨x81,x82,x83,x84,x85,x86,x87,x88,x89,x90,_|x91,x92⟩
  ·obtain ⟨vv,H1,hC,rfl,rfl⟩:=acu h80
   refine dR [(18,.tup [.agg (zc22 x84 x85 x86 x87 x88 x89 x90),aI x92])] [.box (zc13 x81 x82 x83) false,.box [.ptr 0 0] false,bR 49 8 za y28 0 0] [1,0] [.ptr 1 0] hJ hJ hJ hC hJ (stf 6 [jF,QK,(8,aR 2 8 y28.length),jQ,(10,aI x92),(13,aU x17),(14,aU y27)] [.box (zc13 x81 x82 x83) false,.box [.ptr 0 0] false,bR 49 8 za y28 0 0,.box (zc22 x84 x85 x86 x87 x88 x89 x90) false] hJ ?_)
   exact .inl ⟨x81,x82,x83,x92,x84,x85,x86,x87,x88,x89,x90,hm,rfl,rfl⟩
  obtain ⟨vv,H1,hC,rfl,rfl⟩:=acu h80
  refine dR [(18,.tup [.agg (zc23 x84 x85 x86 x87 x88 x89 x90 x91),aI x92])] [.box (zc13 x81 x82 x83) false,.box [.ptr 0 0] false,bR 49 8 za y28 0 0,bR 49 8 za x91 0 0] [1,0] [.ptr 1 0] hJ hJ hJ hC hJ (stf 6 [jF,QK,(8,aR 2 8 y28.length),ka,(10,aI x92),(13,aU x17),(14,aU y27)] [.box (zc13 x81 x82 x83) false,.box [.ptr 0 0] false,bR 49 8 za y28 0 0,bR 49 8 za x91 0 0,.box (zc23 x84 x85 x86 x87 x88 x89 x90 x91) false] hJ ?_)
  exact .inr (⟨x81,x82,x83,x92,x84,x85,x86,x87,x88,x89,x90,x91,hm,rfl,rfl⟩)
 refine c0 h62 (jh ?_)
 exact .inr (⟨y24,y25,y26,y28,aU x17,aU y27,aB (decide (y27<x17)),hm,(zH hJ),rfl⟩)
theorem abH {n:Nat}{a0:zi}{r:(Option (List Int))×Int×Bool×Int}(hm:aaq n a0=some r):
   ∃ vv H1,call G n 80 [.ptr 0 0] [.box (zc12 a0) false]=some (.ret vv,H1)∧(match (generalizing:=false) r with|(r0,r1,r2,r3)=>(vv=.tup [aB r2,aI r3]∧H1=[.box [aB a0.fmade,.pv (zg (rI .u8) r0),aI r1] false])):=by
 unfold aaq at hm
 obtain ⟨n,rfl,h0⟩:=zu hm
 replace hm:=h0;clear h0
 refine ZJ 17 [jF] func80 rfl hJ (sq (dn [jF] (sq (rg (s1 1 [j6] ?_)))))
 obtain ⟨⟨x2,x3,x4⟩,h1,hm⟩:=bs hm
 obtain ⟨vv,H1,hC,rfl,rfl⟩:=QB h1
 refine dR [(7,aY x4)] [.box (zc15 a0 x2 x3) false] [0] [.ptr 0 0] hJ hJ hJ hC hJ (fq 1 [jF,(4,aY x4)] ?_)
 refine sq (sq (rg (s1 1 [jY] ?_)))
 obtain ⟨x6,h5,hm⟩:=bs hm
 obtain ⟨vv,H1,hC,rfl,rfl⟩:=Zp h5
 refine dR [(9,aI x6)] [.box (zc15 a0 x2 x3) false] [0] [.ptr 0 0] hJ hJ hJ hC hJ (fq 1 [(4,aY x4),(5,aI x6)] (sq (dn [(4,aY x4),(5,aI x6),(11,aB (x6 !=0))] ?_)))
 rcases zf hm with ⟨h7,hm⟩|⟨h7,hm⟩
 ·refine c1 h7 (sq (dn [kM,(3,aI x6)] (jf ?_)))
  obtain rfl:=ji hm
  exact ⟨trivial,.tup [aB false,aI x6],[.box (zc15 a0 x2 x3) false],hJ,rfl,rfl⟩
 refine c0 h7 (jg (sq (sq (dn [(4,aY x4),(14,aB (decide (x4>1)))] ?_))))
 rcases zf hm with ⟨h8,hm⟩|⟨h8,hm⟩
 ·refine c1 h8 (sq (dn [kM,(3,aI 22)] (jf ?_)))
  obtain rfl:=ji hm
  exact ⟨trivial,.tup [aB false,aI 22],[.box (zc15 a0 x2 x3) false],hJ,rfl,rfl⟩
 refine c0 h8 (jg (sq (dn [(2,aB (x4==1)),kE] (jf ?_))))
 obtain rfl:=ji hm
 exact ⟨trivial,.tup [aB (x4==1),aI 0],[.box (zc15 a0 x2 x3) false],hJ,rfl,rfl⟩
abbrev zc25:List AV:=[aI 0,aI 0,aI 0,aI 0,aI 0,aI 0,aF 0,aS ByteArray.empty,.pv .nils]
theorem acq {n:Nat}{a0:Bool}{a1:(Option (List Int))}{a2:Int}{r:Bool×(Option (List Int))×Int×Int×Int×Int×Int×Int×Int×Nat×ByteArray×jo×Int}(hm:ab4 n a0 a1 a2=some r):
   ∃ vv H1,call G n 82 [.ptr 0 0] [.box [.ptr 1 0] false,.box [aB a0,.pv (zg (rI .u8) a1),aI a2] false]=some (.ret vv,H1)∧(match (generalizing:=false) r with|(r0,r1,r2,r3,r4,r5,r6,r7,r8,r9,r10,none,r11)=>(vv=.tup [.agg [aI r3,aI r4,aI r5,aI r6,aI r7,aI r8,aF r9,aS r10,.pv .nils],aI r11]∧H1=[.box [.ptr 1 0] false,.box [aB r0,.pv (zg (rI .u8) r1),aI r2] false])|(r0,r1,r2,r3,r4,r5,r6,r7,r8,r9,r10,some r12,r11)=>(vv=.tup [.agg [aI r3,aI r4,aI r5,aI r6,aI r7,aI r8,aF r9,aS r10,aR 2 8 r12.length],aI r11]∧H1=[.box [.ptr 1 0] false,.box [aB r0,.pv (zg (rI .u8) r1),aI r2] false,bR 49 8 za r12 0 0])):=by
 unfold ab4 at hm
 obtain ⟨n,rfl,h0⟩:=zu hm
 replace hm:=h0;clear h0
 refine ZJ 18 [jF] func82 rfl hJ (sq (det [jF,jU] [.box [.ptr 1 0] false,.box [aB a0,.pv (zg (rI .u8) a1),aI a2] false,.box zc25 false] hJ (sq (rg (s1 1 [j2] ?_)))))
 obtain ⟨⟨x2,x3,x4⟩,h1,hm⟩:=bs hm
 obtain ⟨vv,H1,hC,rfl,rfl⟩:=QB h1
 refine dR [(7,aY x4)] [.box [.ptr 1 0] false,.box (zc14 a0 a1 a2 x2 x3) false,.box zc25 false] [1] [.ptr 1 0] hJ hJ hJ hC hJ (fq 2 [jF,jU,(3,aI (qn x4))] (sq (rg (s1 1 [(10,.ptr 1 0)] ?_))))
 obtain ⟨x18,h5,hm⟩:=bs hm
 rcases x18 with ⟨x6,x7,x8,x9,x10,x11,x12,x13,x14,x15,_|x16,x17⟩
 ·obtain ⟨vv,H1,hC,rfl,rfl⟩:=aee h5
  refine dR [(11,.tup [.agg (zc22 x9 x10 x11 x12 x13 x14 x15),aI x17])] [.box [.ptr 1 0] false,.box [aB x6,.pv (zg (rI .u8) x7),aI x8] false,.box zc25 false] [1] [.ptr 1 0] hJ hJ hJ hC hJ (stf 6 [jU,(3,aI (qn x4)),jG,(5,aI x17)] [.box [.ptr 1 0] false,.box [aB x6,.pv (zg (rI .u8) x7),aI x8] false,.box zc25 false,.box (zc22 x9 x10 x11 x12 x13 x14 x15) false] hJ (sq (det [jU,(2,aI x17)] [.box [.ptr 1 0] false,.box [aB x6,.pv (zg (rI .u8) x7),aI x8] false,.box [aI (qn x4),aI x9,aI x10,aI x11,aI x12,aI x13,aF x14,aS x15,.pv .nils] false,.box (zc22 x9 x10 x11 x12 x13 x14 x15) false] hJ (jf ?_))))
  obtain rfl:=ji hm
  exact ⟨trivial,.tup [.agg [aI (qn x4),aI x9,aI x10,aI x11,aI x12,aI x13,aF x14,aS x15,.pv .nils],aI x17],[.box [.ptr 1 0] false,.box [aB x6,.pv (zg (rI .u8) x7),aI x8] false],hJ,rfl,rfl⟩
 obtain ⟨vv,H1,hC,rfl,rfl⟩:=aee h5
 refine dR [(11,.tup [.agg (zc23 x9 x10 x11 x12 x13 x14 x15 x16),aI x17])] [.box [.ptr 1 0] false,.box [aB x6,.pv (zg (rI .u8) x7),aI x8] false,.box zc25 false,bR 49 8 za x16 0 0] [1] [.ptr 1 0] hJ hJ hJ hC hJ (stf 6 [jU,(3,aI (qn x4)),(4,.ptr 4 0),(5,aI x17)] [.box [.ptr 1 0] false,.box [aB x6,.pv (zg (rI .u8) x7),aI x8] false,.box zc25 false,bR 49 8 za x16 0 0,.box (zc23 x9 x10 x11 x12 x13 x14 x15 x16) false] hJ (sq (det [jU,(2,aI x17)] [.box [.ptr 1 0] false,.box [aB x6,.pv (zg (rI .u8) x7),aI x8] false,.box [aI (qn x4),aI x9,aI x10,aI x11,aI x12,aI x13,aF x14,aS x15,aR 3 8 x16.length] false,bR 49 8 za x16 0 0,.box (zc23 x9 x10 x11 x12 x13 x14 x15 x16) false] hJ (jf ?_))))
 obtain rfl:=ji hm
 exact ⟨trivial,.tup [.agg [aI (qn x4),aI x9,aI x10,aI x11,aI x12,aI x13,aF x14,aS x15,aR 2 8 x16.length],aI x17],[.box [.ptr 1 0] false,.box [aB x6,.pv (zg (rI .u8) x7),aI x8] false,bR 49 8 za x16 0 0],hJ,rfl,rfl⟩
abbrev zc26 (p0:Int) (p1:Int) (p2:Int) (p3:Int) (p4:Int) (p5:Int) (p6:Nat) (p7:ByteArray):List AV:=[aI p0,aI p1,aI p2,aI p3,aI p4,aI p5,aF p6,aS p7,.pv .nils]
abbrev QH:Nat×AV:=(2,kU)
abbrev aiY (p0:Int) (p1:Int) (p2:Int) (p3:Int) (p4:Int) (p5:Int) (p6:Nat) (p7:ByteArray):=([(zm.mk p0 (zk.mk p1 p2 p3 (zp.mk p4 p5 p6 p7) none))]:List zm)
abbrev ags (p0:Int) (p1:Int) (p2:Int) (p3:Int) (p4:Int) (p5:Int) (p6:Nat) (p7:ByteArray) (p8:jq):=([(zm.mk p0 (zk.mk p1 p2 p3 (zp.mk p4 p5 p6 p7) (some p8)))]:List zm)
theorem zG {n:Nat}{a0:zi}{a1:Int}{r:Bool×(Option (List Int))×Int×jr×Int}(hm:zW n a0 a1=some r):
   ∃ vv H1,call G n 81 [.ptr 0 0,aU a1,kU] [.box (zc12 a0) false,.box [.ptr 0 0] false]=some (.ret vv,H1)∧(match (generalizing:=false) r with|(r0,r1,r2,none,r3)=>(vv=.tup [.pv .nils,aI r3]∧H1=[.box [aB r0,.pv (zg (rI .u8) r1),aI r2] false,.box [.ptr 0 0] false])|(r0,r1,r2,some r4,r3)=>(vv=.tup [aR 2 9 r4.length,aI r3]∧H1=[.box [aB r0,.pv (zg (rI .u8) r1),aI r2] false,.box [.ptr 0 0] false,bR 101 9 zd r4 0 0])):=by
 unfold zW at hm
 obtain ⟨n,rfl,h0⟩:=zu hm
 replace hm:=h0;clear h0
 refine ZJ 32 [jF,(1,aU a1),QH] func81 rfl hJ (sq (dn [jF,(1,aU a1),QH] (sq (dn [jF,(1,aU a1),QH,kr] ?_))))
 obtain ⟨k8,hk8,hm⟩:=zt hm
 refine mid (fun t H=>(∃ (y4:Bool) (y5:(Option (List Int))) (y6:Int) (w1:AV) (w2:AV) (w3:AV),k8 y4 y5 y6 none=some r∧t=mk 32 [jF,QH,kr,(13,w1),(14,w2),(15,w3)]∧H=[.box [aB y4,.pv (zg (rI .u8) y5),aI y6] false,.box [.ptr 0 0] false])∨(∃ (y4:Bool) (y5:(Option (List Int))) (y6:Int) (y7:js) (w1:AV) (w2:AV) (w3:AV),k8 y4 y5 y6 (some y7)=some r∧t=mk 32 [jF,QH,(8,aR 2 9 y7.length),(13,w1),(14,w2),(15,w3)]∧H=[.box [aB y4,.pv (zg (rI .u8) y5),aI y6] false,.box [.ptr 0 0] false,bR 101 9 zd y7 0 0])) ?_ ?_
 ·rintro _ _ (⟨y4,y5,y6,w1,w2,w3,hm,rfl,rfl⟩|⟨y4,y5,y6,y7,w1,w2,w3,hm,rfl,rfl⟩)
  ·subst hk8
   refine sq (rg (s1 2 [j1,kA] ?_))
   obtain ⟨x10,h9,hm⟩:=bs hm
   obtain ⟨vv,H1,hC,rfl,rfl⟩:=Zp h9
   refine dR [(31,aI x10)] [.box [aB y4,.pv (zg (rI .u8) y5),aI y6] false,.box [.ptr 0 0] false] [0] [.ptr 0 0] hJ hJ hJ hC hJ (fq 2 [kx,(7,aI x10)] (jf ?_))
   obtain rfl:=ji hm
   exact ⟨trivial,.tup [.pv .nils,aI x10],[.box [aB y4,.pv (zg (rI .u8) y5),aI y6] false,.box [.ptr 0 0] false],hJ,rfl,rfl⟩
  subst hk8
  refine sq (rg (s1 2 [j1,(29,aR 2 9 y7.length)] ?_))
  obtain ⟨x12,h11,hm⟩:=bs hm
  obtain ⟨vv,H1,hC,rfl,rfl⟩:=Zp h11
  refine dR [(31,aI x12)] [.box [aB y4,.pv (zg (rI .u8) y5),aI y6] false,.box [.ptr 0 0] false,bR 101 9 zd y7 0 0] [0] [.ptr 0 0] hJ hJ hJ hC hJ (fq 2 [(6,aR 2 9 y7.length),(7,aI x12)] (jf ?_))
  obtain rfl:=ji hm
  exact ⟨trivial,.tup [aR 2 9 y7.length,aI x12],[.box [aB y4,.pv (zg (rI .u8) y5),aI y6] false,.box [.ptr 0 0] false,bR 101 9 zd y7 0 0],hJ,rfl,rfl⟩
 refine sq (rg (s1 2 [(12,aU a1),j9] ?_))
 obtain ⟨⟨x14,x15,x16,x17⟩,h13,hm⟩:=bs hm
 obtain ⟨vv,H1,hC,rfl,rfl⟩:=ZZ h13
 refine dR [(13,aU x17)] [.box (zc13 x14 x15 x16) false,.box [.ptr 0 0] false] [0] [.ptr 0 0,aU a1] hJ hJ hJ hC hJ (fq 1 [jF,QH,kr,(13,aU x17),(14,aU 0)] (bq ?_))
 refine qB (fun mm t H=>(∃ (y24:Bool) (y25:(Option (List Int))) (y26:Int) (y27:Int),zM n k8 x17 mm y24 y25 y26 y27 none=some r∧t=mk 32 [jF,QH,kr,(13,aU x17),(14,aU y27)]∧H=[.box (zc13 y24 y25 y26) false,.box [.ptr 0 0] false])∨(∃ (y24:Bool) (y25:(Option (List Int))) (y26:Int) (y27:Int) (y28:js),zM n k8 x17 mm y24 y25 y26 y27 (some y28)=some r∧t=mk 32 [jF,QH,(8,aR 2 9 y28.length),(13,aU x17),(14,aU y27)]∧H=[.box (zc13 y24 y25 y26) false,.box [.ptr 0 0] false,bR 101 9 zd y28 0 0])) (.inl ⟨x14,x15,x16,0,hm,rfl,rfl⟩) ?_ ?_
 ·
   rintro _ _ (⟨y24,y25,y26,y27,hm,_⟩|⟨y24,y25,y26,y27,y28,hm,_⟩)<;>exact nomatch hm
 rintro m29 _ _ (⟨y24,y25,y26,y27,hm,rfl,rfl⟩|⟨y24,y25,y26,y27,y28,hm,rfl,rfl⟩)
 ·simp only [zM] at hm
  refine sq (dn [jF,QH,kr,(13,aU x17),(14,aU y27),(15,aB (decide (y27<x17)))] ?_)
  refine sq ?_
  rcases zf hm with ⟨h30,hm⟩|⟨h30,hm⟩
  ·refine c1 h30 (jg (sq (bq ?_)))
   obtain ⟨k44,hk44,hm⟩:=zt hm
   refine mid (fun t H=>(∃ (y31:Bool) (y32:(Option (List Int))) (y33:Int) (y34:Int) (y35:Int) (y36:Int) (y37:Int) (y38:Int) (y39:Int) (y40:Int) (y41:Nat) (y42:ByteArray),k44 y31 y32 y33 y34 y35 y36 y37 y38 y39 y40 y41 y42 none=some r∧t=mk 32 [jF,QH,kr,j3,(10,aI y34),(13,aU x17),(14,aU y27)]∧H=[.box (zc13 y31 y32 y33) false,.box [.ptr 0 0] false,.box (zc26 y35 y36 y37 y38 y39 y40 y41 y42) false])∨(∃ (y31:Bool) (y32:(Option (List Int))) (y33:Int) (y34:Int) (y35:Int) (y36:Int) (y37:Int) (y38:Int) (y39:Int) (y40:Int) (y41:Nat) (y42:ByteArray) (y43:jq),k44 y31 y32 y33 y34 y35 y36 y37 y38 y39 y40 y41 y42 (some y43)=some r∧t=mk 32 [jF,QH,kr,jQ,(10,aI y34),(13,aU x17),(14,aU y27)]∧H=[.box (zc13 y31 y32 y33) false,.box [.ptr 0 0] false,bR 49 8 za y43 0 0,.box [aI y35,aI y36,aI y37,aI y38,aI y39,aI y40,aF y41,aS y42,aR 2 8 y43.length] false])) ?_ ?_
   ·rintro _ _ (⟨y31,y32,y33,y34,y35,y36,y37,y38,y39,y40,y41,y42,hm,rfl,rfl⟩|⟨y31,y32,y33,y34,y35,y36,y37,y38,y39,y40,y41,y42,y43,hm,rfl,rfl⟩)
    ·subst hk44
     refine sq (sq (dn [jF,QH,kr,j3,(10,aI y34),(13,aU x17),(14,aU y27),(22,aB (y34 !=0))] ?_))
     rcases zf hm with ⟨h45,hm⟩|⟨h45,hm⟩
     ·refine c1 h45 (sq (dn [kx,(7,aI y34)] (jf ?_)))
      obtain rfl:=ji hm
      exact ⟨trivial,.tup [.pv .nils,aI y34],[.box (zc13 y31 y32 y33) false,.box [.ptr 0 0] false],hJ,rfl,rfl⟩
     refine c0 h45 (jg (rg (st 3 [(26,aR 3 9 1),(25,.agg (zc26 y35 y36 y37 y38 y39 y40 y41 y42)),kC] [.box (zc13 y31 y32 y33) false,.box [.ptr 0 0] false,.box (zc26 y35 y36 y37 y38 y39 y40 y41 y42) false,bR 101 9 zd (aiY y35 y36 y37 y38 y39 y40 y41 y42) 0 0] hJ ?_)))
     obtain ⟨_,h46,hm⟩:=bs hm
     refine dO [(27,aR 4 9 (([(zm.mk y35 (zk.mk y36 y37 y38 (zp.mk y39 y40 y41 y42) none))]:List zm).length))] [.box (zc13 y31 y32 y33) false,.box [.ptr 0 0] false,.box (zc26 y35 y36 y37 y38 y39 y40 y41 y42) false,bR 101 9 zd (aiY y35 y36 y37 y38 y39 y40 y41 y42) 0 0,bR 101 9 zd (aiY y35 y36 y37 y38 y39 y40 y41 y42) 0 0] (Qa (u:=0) zd (aiY y35 y36 y37 y38 y39 y40 y41 y42) (b:=96) t24 t101 rfl rfl rfl (fun _=>rfl) rfl h46 (show zT (aR 3 9 1) _=some (([(zm.mk y35 (zk.mk y36 y37 y38 (zp.mk y39 y40 y41 y42) none))]:List zm).map zd) from by kernel_rfl) hJ) hJ (fq 1 [jF,QH,(8,aR 4 9 (([(zm.mk y35 (zk.mk y36 y37 y38 (zp.mk y39 y40 y41 y42) none))]:List zm).length)),(13,aU x17),(14,aU y27)] (dn [jF,QH,(8,aR 4 9 (([(zm.mk y35 (zk.mk y36 y37 y38 (zp.mk y39 y40 y41 y42) none))]:List zm).length)),(13,aU x17),(abw y27)] ?_))
     exact ⟨_,_,ZD [jF,QH,(8,aR 2 9 (([(zm.mk y35 (zk.mk y36 y37 y38 (zp.mk y39 y40 y41 y42) none))]:List zm).length)),(13,aU x17),(abw y27)] [.box (zc13 y31 y32 y33) false,.box [.ptr 0 0] false,bR 101 9 zd (aiY y35 y36 y37 y38 y39 y40 y41 y42) 0 0] hJ,.inr (⟨y31,y32,y33,(af6 y27),(aiY y35 y36 y37 y38 y39 y40 y41 y42),hm,rfl,rfl⟩)⟩
    subst hk44
    refine sq (sq (dn [jF,QH,kr,jQ,(10,aI y34),(13,aU x17),(14,aU y27),(22,aB (y34 !=0))] ?_))
    rcases zf hm with ⟨h47,hm⟩|⟨h47,hm⟩
    ·refine c1 h47 (sq (dn [kx,(7,aI y34)] (jf ?_)))
     obtain rfl:=ji hm
     exact ⟨trivial,.tup [.pv .nils,aI y34],[.box (zc13 y31 y32 y33) false,.box [.ptr 0 0] false],hJ,rfl,rfl⟩
    refine c0 h47 (jg (rg (s1 2 [(25,.agg [aI y35,aI y36,aI y37,aI y38,aI y39,aI y40,aF y41,aS y42,aR 2 8 y43.length]),kC] (dO [(26,aR 4 9 1)] [.box (zc13 y31 y32 y33) false,.box [.ptr 0 0] false,bR 49 8 za y43 0 (ae4 y43),.box [aI y35,aI y36,aI y37,aI y38,aI y39,aI y40,aF y41,aS y42,aR 2 8 y43.length] false,bR 101 9 zd (ags y35 y36 y37 y38 y39 y40 y41 y42 y43) 0 0] (afE (nid:=0) (t:=24) (len:=1) (is:=[0]) (vs:=[.agg [aI y35,aI y36,aI y37,aI y38,aI y39,aI y40,aF y41,aS y42,aR 2 8 y43.length]]) (ps:=[.agg [aI y35,aI y36,aI y37,aI y38,aI y39,aI y40,aF y41,aS y42,.pv (.sl (y43.map za))]]) (R:=[2]) (e:=⟨aR 4 9 1,[],[bR 101 9 zd (ags y35 y36 y37 y38 y39 y40 y41 y42 y43) 0 0]⟩) hJ (zK (ahC (zj (zw) (zj (zw) (zj (zw) (zj (zw) (zj (zw) (zj (zw) (zj (zw) (zj (zw) (zj (zB (n:=y43.length) (id:=2) (l:=y43) (R:=za) rfl rfl (Nat.zero_le _)) (rfl)))))))))) rfl) (rfl)) hJ hJ) hJ ?_))))
    obtain ⟨_,h48,hm⟩:=bs hm
    refine dO [(27,aR 5 9 (([(zm.mk y35 (zk.mk y36 y37 y38 (zp.mk y39 y40 y41 y42) (some y43)))]:List zm).length))] [.box (zc13 y31 y32 y33) false,.box [.ptr 0 0] false,bR 49 8 za y43 0 (ae4 y43),.box [aI y35,aI y36,aI y37,aI y38,aI y39,aI y40,aF y41,aS y42,aR 2 8 y43.length] false,bR 101 9 zd (ags y35 y36 y37 y38 y39 y40 y41 y42 y43) 0 0,bR 101 9 zd (ags y35 y36 y37 y38 y39 y40 y41 y42 y43) 0 0] (Qa (u:=0) zd (ags y35 y36 y37 y38 y39 y40 y41 y42 y43) (b:=96) t24 t101 rfl rfl rfl (fun _=>rfl) rfl h48 (show zT (aR 4 9 1) _=some (([(zm.mk y35 (zk.mk y36 y37 y38 (zp.mk y39 y40 y41 y42) (some y43)))]:List zm).map zd) from by kernel_rfl) hJ) hJ (fq 1 [jF,QH,(8,aR 5 9 (([(zm.mk y35 (zk.mk y36 y37 y38 (zp.mk y39 y40 y41 y42) (some y43)))]:List zm).length)),(13,aU x17),(14,aU y27)] (dn [jF,QH,(8,aR 5 9 (([(zm.mk y35 (zk.mk y36 y37 y38 (zp.mk y39 y40 y41 y42) (some y43)))]:List zm).length)),(13,aU x17),(abw y27)] ?_))
    exact ⟨_,_,ZD [jF,QH,(8,aR 2 9 (([(zm.mk y35 (zk.mk y36 y37 y38 (zp.mk y39 y40 y41 y42) (some y43)))]:List zm).length)),(13,aU x17),(abw y27)] [.box (zc13 y31 y32 y33) false,.box [.ptr 0 0] false,bR 101 9 zd (ags y35 y36 y37 y38 y39 y40 y41 y42 y43) 0 0] hJ,.inr (⟨y31,y32,y33,(af6 y27),(ags y35 y36 y37 y38 y39 y40 y41 y42 y43),hm,rfl,rfl⟩)⟩
   refine rg (s1 1 [(17,kU)] ?_)
   obtain ⟨x63,h49,hm⟩:=bs hm
   rcases x63 with ⟨x50,x51,x52,x53,x54,x55,x56,x57,x58,x59,x60,_|x61,x62⟩
   ·obtain ⟨vv,H1,hC,rfl,rfl⟩:=acq h49
    refine dR [(18,.tup [.agg (zc26 x53 x54 x55 x56 x57 x58 x59 x60),aI x62])] [.box (zc13 x50 x51 x52) false,.box [.ptr 0 0] false] [1,0] [.ptr 1 0] hJ hJ hJ hC hJ (stf 6 [jF,QH,kr,j3,(10,aI x62),(13,aU x17),(14,aU y27)] [.box (zc13 x50 x51 x52) false,.box [.ptr 0 0] false,.box (zc26 x53 x54 x55 x56 x57 x58 x59 x60) false] hJ ?_)
    exact .inl ⟨x50,x51,x52,x62,x53,x54,x55,x56,x57,x58,x59,x60,hm,rfl,rfl⟩
   obtain ⟨vv,H1,hC,rfl,rfl⟩:=acq h49
   refine dR [(18,.tup [.agg [aI x53,aI x54,aI x55,aI x56,aI x57,aI x58,aF x59,aS x60,aR 2 8 x61.length],aI x62])] [.box (zc13 x50 x51 x52) false,.box [.ptr 0 0] false,bR 49 8 za x61 0 0] [1,0] [.ptr 1 0] hJ hJ hJ hC hJ (stf 6 [jF,QH,kr,jQ,(10,aI x62),(13,aU x17),(14,aU y27)] [.box (zc13 x50 x51 x52) false,.box [.ptr 0 0] false,bR 49 8 za x61 0 0,.box [aI x53,aI x54,aI x55,aI x56,aI x57,aI x58,aF x59,aS x60,aR 2 8 x61.length] false] hJ ?_)
   exact .inr (⟨x50,x51,x52,x62,x53,x54,x55,x56,x57,x58,x59,x60,x61,hm,rfl,rfl⟩)
  refine c0 h30 (jh ?_)
  exact .inl ⟨y24,y25,y26,aU x17,aU y27,aB (decide (y27<x17)),hm,(zH hJ),rfl⟩
 simp only [zM] at hm
 refine sq (dn [jF,QH,(8,aR 2 9 y28.length),(13,aU x17),(14,aU y27),(15,aB (decide (y27<x17)))] ?_)
 refine sq ?_
 rcases zf hm with ⟨h64,hm⟩|⟨h64,hm⟩
 ·refine c1 h64 (jg (sq (bq ?_)))
  obtain ⟨k78,hk78,hm⟩:=zt hm
  refine mid (fun t H=>(∃ (y65:Bool) (y66:(Option (List Int))) (y67:Int) (y68:Int) (y69:Int) (y70:Int) (y71:Int) (y72:Int) (y73:Int) (y74:Int) (y75:Nat) (y76:ByteArray),k78 y65 y66 y67 y68 y69 y70 y71 y72 y73 y74 y75 y76 none=some r∧t=mk 32 [jF,QH,(8,aR 2 9 y28.length),jQ,(10,aI y68),(13,aU x17),(14,aU y27)]∧H=[.box (zc13 y65 y66 y67) false,.box [.ptr 0 0] false,bR 101 9 zd y28 0 0,.box (zc26 y69 y70 y71 y72 y73 y74 y75 y76) false])∨(∃ (y65:Bool) (y66:(Option (List Int))) (y67:Int) (y68:Int) (y69:Int) (y70:Int) (y71:Int) (y72:Int) (y73:Int) (y74:Int) (y75:Nat) (y76:ByteArray) (y77:jq),k78 y65 y66 y67 y68 y69 y70 y71 y72 y73 y74 y75 y76 (some y77)=some r∧t=mk 32 [jF,QH,(8,aR 2 9 y28.length),ka,(10,aI y68),(13,aU x17),(14,aU y27)]∧H=[.box (zc13 y65 y66 y67) false,.box [.ptr 0 0] false,bR 101 9 zd y28 0 0,bR 49 8 za y77 0 0,.box [aI y69,aI y70,aI y71,aI y72,aI y73,aI y74,aF y75,aS y76,aR 3 8 y77.length] false])) ?_ ?_
  ·rintro _ _ (⟨y65,y66,y67,y68,y69,y70,y71,y72,y73,y74,y75,y76,hm,rfl,rfl⟩|⟨y65,y66,y67,y68,y69,y70,y71,y72,y73,y74,y75,y76,y77,hm,rfl,rfl⟩)
   ·subst hk78
    refine sq (sq (dn [jF,QH,(8,aR 2 9 y28.length),jQ,(10,aI y68),(13,aU x17),(14,aU y27),(22,aB (y68 !=0))] ?_))
    rcases zf hm with ⟨h79,hm⟩|⟨h79,hm⟩
    ·refine c1 h79 (sq (dn [kx,(7,aI y68)] (jf ?_)))
     obtain rfl:=ji hm
     exact ⟨trivial,.tup [.pv .nils,aI y68],[.box (zc13 y65 y66 y67) false,.box [.ptr 0 0] false],hJ,rfl,rfl⟩
    refine c0 h79 (jg (rg (st 3 [(26,aR 4 9 1),(25,.agg (zc26 y69 y70 y71 y72 y73 y74 y75 y76)),(24,aR 2 9 y28.length)] [.box (zc13 y65 y66 y67) false,.box [.ptr 0 0] false,bR 101 9 zd y28 0 0,.box (zc26 y69 y70 y71 y72 y73 y74 y75 y76) false,bR 101 9 zd (aiY y69 y70 y71 y72 y73 y74 y75 y76) 0 0] hJ ?_)))
    obtain ⟨_,h80,hm⟩:=bs hm
    refine dO [(27,aR 2 9 ((y28++([(zm.mk y69 (zk.mk y70 y71 y72 (zp.mk y73 y74 y75 y76) none))]:List zm)).length))] [.box (zc13 y65 y66 y67) false,.box [.ptr 0 0] false,bR 101 9 zd (y28++([(zm.mk y69 (zk.mk y70 y71 y72 (zp.mk y73 y74 y75 y76) none))]:List zm)) 0 0,.box (zc26 y69 y70 y71 y72 y73 y74 y75 y76) false,bR 101 9 zd (aiY y69 y70 y71 y72 y73 y74 y75 y76) 0 0] (ZF (u:=0) (n:=y28.length) (id:=2) zd y28 (aiY y69 y70 y71 y72 y73 y74 y75 y76) (b:=96) t24 t101 rfl rfl rfl (fun _=>rfl) rfl h80 rfl rfl (Nat.zero_le _) (show zT (aR 4 9 1) _=some (([(zm.mk y69 (zk.mk y70 y71 y72 (zp.mk y73 y74 y75 y76) none))]:List zm).map zd) from by kernel_rfl) hJ) hJ (fq 1 [jF,QH,(8,aR 2 9 ((y28++([(zm.mk y69 (zk.mk y70 y71 y72 (zp.mk y73 y74 y75 y76) none))]:List zm)).length)),(13,aU x17),(14,aU y27)] (dn [jF,QH,(8,aR 2 9 ((y28++([(zm.mk y69 (zk.mk y70 y71 y72 (zp.mk y73 y74 y75 y76) none))]:List zm)).length)),(13,aU x17),(abw y27)] ?_))
    exact ⟨_,_,ZD [jF,QH,(8,aR 2 9 ((y28++([(zm.mk y69 (zk.mk y70 y71 y72 (zp.mk y73 y74 y75 y76) none))]:List zm)).length)),(13,aU x17),(abw y27)] [.box (zc13 y65 y66 y67) false,.box [.ptr 0 0] false,bR 101 9 zd (y28++([(zm.mk y69 (zk.mk y70 y71 y72 (zp.mk y73 y74 y75 y76) none))]:List zm)) 0 0] hJ,.inr (⟨y65,y66,y67,(af6 y27),(y28++([(zm.mk y69 (zk.mk y70 y71 y72 (zp.mk y73 y74 y75 y76) none))]:List zm)),hm,rfl,rfl⟩)⟩
   subst hk78
   refine sq (sq (dn [jF,QH,(8,aR 2 9 y28.length),ka,(10,aI y68),(13,aU x17),(14,aU y27),(22,aB (y68 !=0))] ?_))
   rcases zf hm with ⟨h81,hm⟩|⟨h81,hm⟩
   ·refine c1 h81 (sq (dn [kx,(7,aI y68)] (jf ?_)))
    obtain rfl:=ji hm
    exact ⟨trivial,.tup [.pv .nils,aI y68],[.box (zc13 y65 y66 y67) false,.box [.ptr 0 0] false],hJ,rfl,rfl⟩
   refine c0 h81 (jg (rg (s1 2 [(25,.agg [aI y69,aI y70,aI y71,aI y72,aI y73,aI y74,aF y75,aS y76,aR 3 8 y77.length]),(24,aR 2 9 y28.length)] (dO [(26,aR 5 9 1)] [.box (zc13 y65 y66 y67) false,.box [.ptr 0 0] false,bR 101 9 zd y28 0 0,bR 49 8 za y77 0 (ae4 y77),.box [aI y69,aI y70,aI y71,aI y72,aI y73,aI y74,aF y75,aS y76,aR 3 8 y77.length] false,bR 101 9 zd (ags y69 y70 y71 y72 y73 y74 y75 y76 y77) 0 0] (afE (nid:=0) (t:=24) (len:=1) (is:=[0]) (vs:=[.agg [aI y69,aI y70,aI y71,aI y72,aI y73,aI y74,aF y75,aS y76,aR 3 8 y77.length]]) (ps:=[.agg [aI y69,aI y70,aI y71,aI y72,aI y73,aI y74,aF y75,aS y76,.pv (.sl (y77.map za))]]) (R:=[3]) (e:=⟨aR 5 9 1,[],[bR 101 9 zd (ags y69 y70 y71 y72 y73 y74 y75 y76 y77) 0 0]⟩) hJ (zK (ahC (zj (zw) (zj (zw) (zj (zw) (zj (zw) (zj (zw) (zj (zw) (zj (zw) (zj (zw) (zj (zB (n:=y77.length) (id:=3) (l:=y77) (R:=za) rfl rfl (Nat.zero_le _)) (rfl)))))))))) rfl) (rfl)) hJ hJ) hJ ?_))))
   obtain ⟨_,h82,hm⟩:=bs hm
   refine dO [(27,aR 2 9 ((y28++([(zm.mk y69 (zk.mk y70 y71 y72 (zp.mk y73 y74 y75 y76) (some y77)))]:List zm)).length))] [.box (zc13 y65 y66 y67) false,.box [.ptr 0 0] false,bR 101 9 zd (y28++([(zm.mk y69 (zk.mk y70 y71 y72 (zp.mk y73 y74 y75 y76) (some y77)))]:List zm)) 0 0,bR 49 8 za y77 0 (ae4 y77),.box [aI y69,aI y70,aI y71,aI y72,aI y73,aI y74,aF y75,aS y76,aR 3 8 y77.length] false,bR 101 9 zd (ags y69 y70 y71 y72 y73 y74 y75 y76 y77) 0 0] (ZF (u:=0) (n:=y28.length) (id:=2) zd y28 (ags y69 y70 y71 y72 y73 y74 y75 y76 y77) (b:=96) t24 t101 rfl rfl rfl (fun _=>rfl) rfl h82 rfl rfl (Nat.zero_le _) (show zT (aR 5 9 1) _=some (([(zm.mk y69 (zk.mk y70 y71 y72 (zp.mk y73 y74 y75 y76) (some y77)))]:List zm).map zd) from by kernel_rfl) hJ) hJ (fq 1 [jF,QH,(8,aR 2 9 ((y28++([(zm.mk y69 (zk.mk y70 y71 y72 (zp.mk y73 y74 y75 y76) (some y77)))]:List zm)).length)),(13,aU x17),(14,aU y27)] (dn [jF,QH,(8,aR 2 9 ((y28++([(zm.mk y69 (zk.mk y70 y71 y72 (zp.mk y73 y74 y75 y76) (some y77)))]:List zm)).length)),(13,aU x17),(abw y27)] ?_))
   exact ⟨_,_,ZD [jF,QH,(8,aR 2 9 ((y28++([(zm.mk y69 (zk.mk y70 y71 y72 (zp.mk y73 y74 y75 y76) (some y77)))]:List zm)).length)),(13,aU x17),(abw y27)] [.box (zc13 y65 y66 y67) false,.box [.ptr 0 0] false,bR 101 9 zd (y28++([(zm.mk y69 (zk.mk y70 y71 y72 (zp.mk y73 y74 y75 y76) (some y77)))]:List zm)) 0 0] hJ,.inr (⟨y65,y66,y67,(af6 y27),(y28++([(zm.mk y69 (zk.mk y70 y71 y72 (zp.mk y73 y74 y75 y76) (some y77)))]:List zm)),hm,rfl,rfl⟩)⟩
  refine rg (s1 1 [(17,kU)] ?_)
  obtain ⟨x97,h83,hm⟩:=bs hm
  rcases x97 with ⟨x84,x85,x86,x87,x88,x89,x90,x91,x92,x93,x94,_|x95,x96⟩
  ·obtain ⟨vv,H1,hC,rfl,rfl⟩:=acq h83
   refine dR [(18,.tup [.agg (zc26 x87 x88 x89 x90 x91 x92 x93 x94),aI x96])] [.box (zc13 x84 x85 x86) false,.box [.ptr 0 0] false,bR 101 9 zd y28 0 0] [1,0] [.ptr 1 0] hJ hJ hJ hC hJ (stf 6 [jF,QH,(8,aR 2 9 y28.length),jQ,(10,aI x96),(13,aU x17),(14,aU y27)] [.box (zc13 x84 x85 x86) false,.box [.ptr 0 0] false,bR 101 9 zd y28 0 0,.box (zc26 x87 x88 x89 x90 x91 x92 x93 x94) false] hJ ?_)
   exact .inl ⟨x84,x85,x86,x96,x87,x88,x89,x90,x91,x92,x93,x94,hm,rfl,rfl⟩
  obtain ⟨vv,H1,hC,rfl,rfl⟩:=acq h83
  refine dR [(18,.tup [.agg [aI x87,aI x88,aI x89,aI x90,aI x91,aI x92,aF x93,aS x94,aR 3 8 x95.length],aI x96])] [.box (zc13 x84 x85 x86) false,.box [.ptr 0 0] false,bR 101 9 zd y28 0 0,bR 49 8 za x95 0 0] [1,0] [.ptr 1 0] hJ hJ hJ hC hJ (stf 6 [jF,QH,(8,aR 2 9 y28.length),ka,(10,aI x96),(13,aU x17),(14,aU y27)] [.box (zc13 x84 x85 x86) false,.box [.ptr 0 0] false,bR 101 9 zd y28 0 0,bR 49 8 za x95 0 0,.box [aI x87,aI x88,aI x89,aI x90,aI x91,aI x92,aF x93,aS x94,aR 3 8 x95.length] false] hJ ?_)
  exact .inr (⟨x84,x85,x86,x96,x87,x88,x89,x90,x91,x92,x93,x94,x95,hm,rfl,rfl⟩)
 refine c0 h64 (jh ?_)
 exact .inr (⟨y24,y25,y26,y28,aU x17,aU y27,aB (decide (y27<x17)),hm,(zH hJ),rfl⟩)
theorem agl {n:Nat}{a0:Bool}{a1:(Option (List Int))}{a2:Int}{r:Bool×(Option (List Int))×Int×Int×Bool×Int}(hm:ab3 n a0 a1 a2=some r):
  ∃ vv H1,call G n 85 [.ptr 0 0] [.box [.ptr 1 0] false,.box [aB a0,.pv (zg (rI .u8) a1),aI a2] false]=some (.ret vv,H1)∧(match (generalizing:=false) r with|(r0,r1,r2,r3,r4,r5)=>(vv=.tup [.agg [aI r3,aB r4],aI r5]∧H1=[.box [.ptr 1 0] false,.box [aB r0,.pv (zg (rI .u8) r1),aI r2] false])):=by
 unfold ab3 at hm
 obtain ⟨n,rfl,h0⟩:=zu hm
 replace hm:=h0;clear h0
 refine ZJ 18 [jF] func85 rfl hJ (sq (det [jF,jU] [.box [.ptr 1 0] false,.box [aB a0,.pv (zg (rI .u8) a1),aI a2] false,.box [aI 0,aB false] false] hJ (sq (rg (s1 1 [j2] ?_)))))
 obtain ⟨⟨x2,x3,x4,x5⟩,h1,hm⟩:=bs hm
 obtain ⟨vv,H1,hC,rfl,rfl⟩:=ZZ h1
 refine dR [(7,aU x5)] [.box [.ptr 1 0] false,.box [aB x2,.pv (zg (rI .u8) x3),aI x4] false,.box [aI 0,aB false] false] [1] [.ptr 1 0,aU 29] hJ hJ hJ hC hJ (fq 2 [jF,jU,(3,aI (qn x5))] (sq (rg (s1 1 [(10,.ptr 1 0)] ?_))))
 obtain ⟨⟨x7,x8,x9,x10⟩,h6,hm⟩:=bs hm
 obtain ⟨vv,H1,hC,rfl,rfl⟩:=abH h6
 refine dR [(11,.tup [aB x9,aI x10])] [.box [.ptr 1 0] false,.box (zc14 x2 x3 x4 x7 x8) false,.box [aI 0,aB false] false] [1] [.ptr 1 0] hJ hJ hJ hC hJ (fq 5 [jU,(3,aI (qn x5)),(4,aB x9),(5,aI x10)] (sq (det [jU,(2,aI x10)] [.box [.ptr 1 0] false,.box (zc14 x2 x3 x4 x7 x8) false,.box [aI (qn x5),aB x9] false] hJ (jf ?_))))
 obtain rfl:=ji hm
 exact ⟨trivial,.tup [.agg [aI (qn x5),aB x9],aI x10],[.box [.ptr 1 0] false,.box (zc14 x2 x3 x4 x7 x8) false],hJ,rfl,rfl⟩
abbrev acH:Nat×AV:=(2,kT)
abbrev aiA (p0:Int) (p1:Bool):=([(zo.mk p0 p1)]:List zo)
theorem zq {n:Nat}{a0:zi}{a1:Int}{r:Bool×(Option (List Int))×Int×jt×Int}(hm:zD n a0 a1=some r):
   ∃ vv H1,call G n 84 [.ptr 0 0,aU a1,kT] [.box (zc12 a0) false,.box [.ptr 0 0] false]=some (.ret vv,H1)∧(match (generalizing:=false) r with|(r0,r1,r2,none,r3)=>(vv=.tup [.pv .nils,aI r3]∧H1=[.box [aB r0,.pv (zg (rI .u8) r1),aI r2] false,.box [.ptr 0 0] false])|(r0,r1,r2,some r4,r3)=>(vv=.tup [aR 2 2 r4.length,aI r3]∧H1=[.box [aB r0,.pv (zg (rI .u8) r1),aI r2] false,.box [.ptr 0 0] false,bR 86 2 zl r4 0 0])):=by
 unfold zD at hm
 obtain ⟨n,rfl,h0⟩:=zu hm
 replace hm:=h0;clear h0
 refine ZJ 32 [jF,(1,aU a1),acH] func84 rfl hJ (sq (dn [jF,(1,aU a1),acH] (sq (dn [jF,(1,aU a1),acH,kr] ?_))))
 obtain ⟨k8,hk8,hm⟩:=zt hm
 refine mid (fun t H=>(∃ (y4:Bool) (y5:(Option (List Int))) (y6:Int) (w1:AV) (w2:AV) (w3:AV),k8 y4 y5 y6 none=some r∧t=mk 32 [jF,acH,kr,(13,w1),(14,w2),(15,w3)]∧H=[.box [aB y4,.pv (zg (rI .u8) y5),aI y6] false,.box [.ptr 0 0] false])∨(∃ (y4:Bool) (y5:(Option (List Int))) (y6:Int) (y7:ju) (w1:AV) (w2:AV) (w3:AV),k8 y4 y5 y6 (some y7)=some r∧t=mk 32 [jF,acH,(8,aR 2 2 y7.length),(13,w1),(14,w2),(15,w3)]∧H=[.box [aB y4,.pv (zg (rI .u8) y5),aI y6] false,.box [.ptr 0 0] false,bR 86 2 zl y7 0 0])) ?_ ?_
 ·rintro _ _ (⟨y4,y5,y6,w1,w2,w3,hm,rfl,rfl⟩|⟨y4,y5,y6,y7,w1,w2,w3,hm,rfl,rfl⟩)
  ·subst hk8
   refine sq (rg (s1 2 [j1,kA] ?_))
   obtain ⟨x10,h9,hm⟩:=bs hm
   obtain ⟨vv,H1,hC,rfl,rfl⟩:=Zp h9
   refine dR [(31,aI x10)] [.box [aB y4,.pv (zg (rI .u8) y5),aI y6] false,.box [.ptr 0 0] false] [0] [.ptr 0 0] hJ hJ hJ hC hJ (fq 2 [kx,(7,aI x10)] (jf ?_))
   obtain rfl:=ji hm
   exact ⟨trivial,.tup [.pv .nils,aI x10],[.box [aB y4,.pv (zg (rI .u8) y5),aI y6] false,.box [.ptr 0 0] false],hJ,rfl,rfl⟩
  subst hk8
  refine sq (rg (s1 2 [j1,(29,aR 2 2 y7.length)] ?_))
  obtain ⟨x12,h11,hm⟩:=bs hm
  obtain ⟨vv,H1,hC,rfl,rfl⟩:=Zp h11
  refine dR [(31,aI x12)] [.box [aB y4,.pv (zg (rI .u8) y5),aI y6] false,.box [.ptr 0 0] false,bR 86 2 zl y7 0 0] [0] [.ptr 0 0] hJ hJ hJ hC hJ (fq 2 [(6,aR 2 2 y7.length),(7,aI x12)] (jf ?_))
  obtain rfl:=ji hm
  exact ⟨trivial,.tup [aR 2 2 y7.length,aI x12],[.box [aB y4,.pv (zg (rI .u8) y5),aI y6] false,.box [.ptr 0 0] false,bR 86 2 zl y7 0 0],hJ,rfl,rfl⟩
 refine sq (rg (s1 2 [(12,aU a1),j9] ?_))
 obtain ⟨⟨x14,x15,x16,x17⟩,h13,hm⟩:=bs hm
 obtain ⟨vv,H1,hC,rfl,rfl⟩:=ZZ h13
 refine dR [(13,aU x17)] [.box (zc13 x14 x15 x16) false,.box [.ptr 0 0] false] [0] [.ptr 0 0,aU a1] hJ hJ hJ hC hJ (fq 1 [jF,acH,kr,(13,aU x17),(14,aU 0)] (bq ?_))
 refine qB (fun mm t H=>(∃ (y24:Bool) (y25:(Option (List Int))) (y26:Int) (y27:Int),zS n k8 x17 mm y24 y25 y26 y27 none=some r∧t=mk 32 [jF,acH,kr,(13,aU x17),(14,aU y27)]∧H=[.box (zc13 y24 y25 y26) false,.box [.ptr 0 0] false])∨(∃ (y24:Bool) (y25:(Option (List Int))) (y26:Int) (y27:Int) (y28:ju),zS n k8 x17 mm y24 y25 y26 y27 (some y28)=some r∧t=mk 32 [jF,acH,(8,aR 2 2 y28.length),(13,aU x17),(14,aU y27)]∧H=[.box (zc13 y24 y25 y26) false,.box [.ptr 0 0] false,bR 86 2 zl y28 0 0])) (.inl ⟨x14,x15,x16,0,hm,rfl,rfl⟩) ?_ ?_
 ·
   rintro _ _ (⟨y24,y25,y26,y27,hm,_⟩|⟨y24,y25,y26,y27,y28,hm,_⟩)<;>exact nomatch hm
 rintro m29 _ _ (⟨y24,y25,y26,y27,hm,rfl,rfl⟩|⟨y24,y25,y26,y27,y28,hm,rfl,rfl⟩)
 ·simp only [zS] at hm
  refine sq (dn [jF,acH,kr,(13,aU x17),(14,aU y27),(15,aB (decide (y27<x17)))] ?_)
  refine sq ?_
  rcases zf hm with ⟨h30,hm⟩|⟨h30,hm⟩
  ·refine c1 h30 (jg (sq (bq (sq (rg (s1 1 [(17,kT)] ?_))))))
   obtain ⟨⟨x32,x33,x34,x35,x36,x37⟩,h31,hm⟩:=bs hm
   obtain ⟨vv,H1,hC,rfl,rfl⟩:=agl h31
   refine dR [(18,.tup [.agg [aI x35,aB x36],aI x37])] [.box (zc13 x32 x33 x34) false,.box [.ptr 0 0] false] [1,0] [.ptr 1 0] hJ hJ hJ hC hJ (stf 6 [jF,acH,kr,j3,(10,aI x37),(13,aU x17),(14,aU y27)] [.box (zc13 x32 x33 x34) false,.box [.ptr 0 0] false,.box [aI x35,aB x36] false] hJ (sq (sq (dn [jF,acH,kr,j3,(10,aI x37),(13,aU x17),(14,aU y27),(22,aB (x37 !=0))] ?_))))
   rcases zf hm with ⟨h38,hm⟩|⟨h38,hm⟩
   ·refine c1 h38 (sq (dn [kx,(7,aI x37)] (jf ?_)))
    obtain rfl:=ji hm
    exact ⟨trivial,.tup [.pv .nils,aI x37],[.box (zc13 x32 x33 x34) false,.box [.ptr 0 0] false],hJ,rfl,rfl⟩
   refine c0 h38 (jg (rg (st 3 [(26,aR 3 2 1),(25,.agg [aI x35,aB x36]),kC] [.box (zc13 x32 x33 x34) false,.box [.ptr 0 0] false,.box [aI x35,aB x36] false,bR 86 2 zl (aiA x35 x36) 0 0] hJ ?_)))
   obtain ⟨_,h39,hm⟩:=bs hm
   refine dO [(27,aR 4 2 (([(zo.mk x35 x36)]:List zo).length))] [.box (zc13 x32 x33 x34) false,.box [.ptr 0 0] false,.box [aI x35,aB x36] false,bR 86 2 zl (aiA x35 x36) 0 0,bR 86 2 zl (aiA x35 x36) 0 0] (Qa (u:=0) zl (aiA x35 x36) (b:=16) t25 t86 rfl rfl rfl (fun _=>rfl) rfl h39 (show zT (aR 3 2 1) _=some (([(zo.mk x35 x36)]:List zo).map zl) from by kernel_rfl) hJ) hJ (fq 1 [jF,acH,(8,aR 4 2 (([(zo.mk x35 x36)]:List zo).length)),(13,aU x17),(14,aU y27)] (dn [jF,acH,(8,aR 4 2 (([(zo.mk x35 x36)]:List zo).length)),(13,aU x17),(abw y27)] ?_))
   exact ⟨_,_,ZD [jF,acH,(8,aR 2 2 (([(zo.mk x35 x36)]:List zo).length)),(13,aU x17),(abw y27)] [.box (zc13 x32 x33 x34) false,.box [.ptr 0 0] false,bR 86 2 zl (aiA x35 x36) 0 0] hJ,.inr (⟨x32,x33,x34,(af6 y27),(aiA x35 x36),hm,rfl,rfl⟩)⟩
  refine c0 h30 (jh ?_)
  exact .inl ⟨y24,y25,y26,aU x17,aU y27,aB (decide (y27<x17)),hm,(zH hJ),rfl⟩
 simp only [zS] at hm
 refine sq (dn [jF,acH,(8,aR 2 2 y28.length),(13,aU x17),(14,aU y27),(15,aB (decide (y27<x17)))] ?_)
 refine sq ?_
 rcases zf hm with ⟨h40,hm⟩|⟨h40,hm⟩
 ·refine c1 h40 (jg (sq (bq (sq (rg (s1 1 [(17,kT)] ?_))))))
  obtain ⟨⟨x42,x43,x44,x45,x46,x47⟩,h41,hm⟩:=bs hm
  obtain ⟨vv,H1,hC,rfl,rfl⟩:=agl h41
  refine dR [(18,.tup [.agg [aI x45,aB x46],aI x47])] [.box (zc13 x42 x43 x44) false,.box [.ptr 0 0] false,bR 86 2 zl y28 0 0] [1,0] [.ptr 1 0] hJ hJ hJ hC hJ (stf 6 [jF,acH,(8,aR 2 2 y28.length),jQ,(10,aI x47),(13,aU x17),(14,aU y27)] [.box (zc13 x42 x43 x44) false,.box [.ptr 0 0] false,bR 86 2 zl y28 0 0,.box [aI x45,aB x46] false] hJ (sq (sq (dn [jF,acH,(8,aR 2 2 y28.length),jQ,(10,aI x47),(13,aU x17),(14,aU y27),(22,aB (x47 !=0))] ?_))))
  rcases zf hm with ⟨h48,hm⟩|⟨h48,hm⟩
  ·refine c1 h48 (sq (dn [kx,(7,aI x47)] (jf ?_)))
   obtain rfl:=ji hm
   exact ⟨trivial,.tup [.pv .nils,aI x47],[.box (zc13 x42 x43 x44) false,.box [.ptr 0 0] false],hJ,rfl,rfl⟩
  refine c0 h48 (jg (rg (st 3 [(26,aR 4 2 1),(25,.agg [aI x45,aB x46]),(24,aR 2 2 y28.length)] [.box (zc13 x42 x43 x44) false,.box [.ptr 0 0] false,bR 86 2 zl y28 0 0,.box [aI x45,aB x46] false,bR 86 2 zl (aiA x45 x46) 0 0] hJ ?_)))
  obtain ⟨_,h49,hm⟩:=bs hm
  refine dO [(27,aR 2 2 ((y28++([(zo.mk x45 x46)]:List zo)).length))] [.box (zc13 x42 x43 x44) false,.box [.ptr 0 0] false,bR 86 2 zl (y28++([(zo.mk x45 x46)]:List zo)) 0 0,.box [aI x45,aB x46] false,bR 86 2 zl (aiA x45 x46) 0 0] (ZF (u:=0) (n:=y28.length) (id:=2) zl y28 (aiA x45 x46) (b:=16) t25 t86 rfl rfl rfl (fun _=>rfl) rfl h49 rfl rfl (Nat.zero_le _) (show zT (aR 4 2 1) _=some (([(zo.mk x45 x46)]:List zo).map zl) from by kernel_rfl) hJ) hJ (fq 1 [jF,acH,(8,aR 2 2 ((y28++([(zo.mk x45 x46)]:List zo)).length)),(13,aU x17),(14,aU y27)] (dn [jF,acH,(8,aR 2 2 ((y28++([(zo.mk x45 x46)]:List zo)).length)),(13,aU x17),(abw y27)] ?_))
  exact ⟨_,_,ZD [jF,acH,(8,aR 2 2 ((y28++([(zo.mk x45 x46)]:List zo)).length)),(13,aU x17),(abw y27)] [.box (zc13 x42 x43 x44) false,.box [.ptr 0 0] false,bR 86 2 zl (y28++([(zo.mk x45 x46)]:List zo)) 0 0] hJ,.inr (⟨x42,x43,x44,(af6 y27),(y28++([(zo.mk x45 x46)]:List zo)),hm,rfl,rfl⟩)⟩
 refine c0 h40 (jh ?_)
 exact .inr (⟨y24,y25,y26,y28,aU x17,aU y27,aB (decide (y27<x17)),hm,(zH hJ),rfl⟩)
end Go.Ab.S1
