import Derived.Test.YtejbcaheoloahaaGreatWB1
noncomputable section
namespace Go.Ab.S1
open Go Go.Ab Go.Pl
open Go.Proofs.Tryz
set_option linter.all false
set_option maxRecDepth 100000
theorem aao (m2:Nat) (f2:Nat) {n:Nat}{a0:(List Int)}{a1:jn}{a2:zf}{r:(List Int)×Int}(hm2:a0.length=m2) (hf2:f2≤a0.length) (hm:ZG n a0 a1 a2=some r):
   ∃ vv H1,call G n 49 [.agg (zc7 a2),.pv (.fn 61 [] []),.fn 62 [] [.ptr 0 0],.ptr 3 0] [ju,.box [aR 2 1 m2] false,bR 3 1 (rI .i64) a0 f2 0,.box [.pv (zy a1)] false]=some (.ret vv,H1)∧(match (generalizing:=false) r with|(r0,r1)=>(∃ (e2:Nat) (e3:Nat),r0.length=e2∧e3≤r0.length∧vv=aI r1∧H1=[ju,.box [aR 2 1 e2] false,bR 3 1 (rI .i64) r0 e3 0,.box [.pv (zy a1)] false])):=by
 unfold ZG at hm
 obtain ⟨n,rfl,h0⟩:=zp hm
 replace hm:=h0;clear h0
 refine QM 30 [(0,.agg (zc7 a2)),(1,.pv (.fn 61 [] [])),zp70,jG] func49 rfl hH (sq (det [(1,.pv (.fn 61 [] [])),zp70,jG,(4,.ptr 4 0)] [ju,.box [aR 2 1 m2] false,bR 3 1 (rI .i64) a0 f2 0,.box [.pv (zy a1)] false,.box (zc7 a2) false] hH (sq (rg (s1 2 [(zp40 a1),(11,.agg (zc7 a2))] ?_)))))
 obtain ⟨x1,h2,hm⟩:=bs hm
 refine dv 13 (zC hH (abn h2) hH hH hH) hH (fq 5 [(1,.pv (.fn 61 [] [])),zp70,(8,aI x1.1),(9,aI x1.2)] ?_)
 obtain ⟨k5,hk5,hm⟩:=zo hm
 refine mid (fun t H=>(∃ (y4:Int) (w3:AV),k5 y4=some r∧t=mk 30 [zp70,(8,aI x1.1),(9,aI y4),(23,w3)]∧H=[ju,.box [aR 2 1 m2] false,bR 3 1 (rI .i64) a0 f2 0,.box [.pv (zy a1)] false,.box (zc7 a2) false])) ?_ ?_
 ·rintro _ _ ⟨y4,w3,hm,rfl,rfl⟩
  subst hk5
  refine sq (sq (dn [zp70,(8,aI x1.1),(9,aI y4),(25,aB (y4==0))] ?_))
  rcases zd hm with ⟨h,hm⟩|⟨h,hm⟩
  ·refine c1 h (rg (s1 2 [(27,aI x1.1),(26,.fn 62 [] [.ptr 0 0])] ?_))
   obtain ⟨_,h7,hm⟩:=bs hm
   obtain ⟨vv,H1,hC,rfl,rfl⟩:=aiF m2 f2 hM hN h7
   refine dR [(28,.tup [])] [ju,.box (zc11 a0) false,bR 3 1 (rI .i64) (aer a0) f2 0,.box [.pv (zy a1)] false,.box (zc7 a2) false] [0,1,2] [aI x1.1,.ptr 0 0] hH hH hH hC hH (fin [(9,aI y4)] rfl hH (sq (dn [(7,aI y4)] (jc ?_))))
   obtain rfl:=jf hm
   exact ⟨trivial,aI y4,[ju,.box (zc11 a0) false,bR 3 1 (rI .i64) (aer a0) f2 0,.box [.pv (zy a1)] false],hH,(aer a0).length,f2,hM,hN,rfl,rfl⟩
  refine c0 h (jd (sq (dn [(7,aI y4)] (jc ?_))))
  obtain rfl:=jf hm
  exact ⟨trivial,aI y4,[ju,.box [aR 2 1 m2] false,bR 3 1 (rI .i64) a0 f2 0,.box [.pv (zy a1)] false],hH,m2,f2,hM,hN,rfl,rfl⟩
 refine sq (rg (s1 3 [(18,aB (x1.2==0)),(17,aB (x1.2==0)),(16,aI x1.2)] ?_))
 rcases zd hm with ⟨h,hm⟩|⟨h,hm⟩
 ·refine known [18,17] h hH (s1 2 [(20,aI x1.1),(19,.pv (.fn 61 [] []))] ?_)
  obtain ⟨x9,h10,hm⟩:=bs hm
  refine dv 21 (zC hH (afW h10) hH hH hH) hH (fq 2 [zp70,(8,aI x1.1),(9,aI x1.2),(23,aB (!x9))] ?_)
  rcases zd hm with ⟨h,hm⟩|⟨h,hm⟩
  ·refine c1 h (dn [zp70,(8,aI x1.1),km] ?_)
   exact ⟨50,.any,hm,(zD hH),rfl⟩
  refine c0 h (jd ?_)
  exact ⟨x1.2,aB (!x9),hm,(zD hH),rfl⟩
 refine known [18,17] h hH (fq 5 [zp70,(8,aI x1.1),(9,aI x1.2),kD] (cF hH (jd ?_)))
 exact ⟨x1.2,aB false,hm,(zD hH),rfl⟩
theorem af0 (m5:Nat) (f5:Nat) {n:Nat}{a0:(List Int)}{a1:jn}{a2:zI}{r:(List Int)×Int}(hm5:a0.length=m5) (hf5:f5≤a0.length) (hm:aav n a0 a1 a2=some r):
   ∃ vv H1,call G n 59 [.agg (zc5 a2),.ptr 0 0,.ptr 2 0,.ptr 3 0] [js,.box [.pv (zy a1)] false,jx,jt,.box [aR 5 1 m5] false,bR 3 1 (rI .i64) a0 f5 0]=some (.ret vv,H1)∧(match (generalizing:=false) r with|(r0,r1)=>(∃ (e2:Nat) (e3:Nat),r0.length=e2∧e3≤r0.length∧vv=aI r1∧H1=[js,.box [.pv (zy a1)] false,jx,jt,.box [aR 5 1 e2] false,bR 3 1 (rI .i64) r0 e3 0])):=by
 unfold aav at hm
 obtain ⟨n,rfl,h0⟩:=zp hm
 replace hm:=h0;clear h0
 refine QM 29 [(0,.agg (zc5 a2)),jA,jD,jG] func59 rfl hH (sq (det [jA,jD,jG,jS] [js,.box [.pv (zy a1)] false,jx,jt,.box [aR 5 1 m5] false,bR 3 1 (rI .i64) a0 f5 0,.box (zc5 a2) false] hH ?_))
 refine sq (sq (dn [jA,jD,jG,jS,(7,aI a2.A)] (bq (sq (dn [jA,jD,jG,jS,(7,aI a2.A),(8,aB (a2.A==1))] ?_)))))
 rcases zd hm with ⟨h,hm⟩|⟨h,hm⟩
 ·refine c1 h (sq (rg (s1 5 [(14,kX),(13,.pv (.fn 51 [] [])),(12,.agg (zc1 a2)),(11,.ptr 6 1),(10,.fn 49 [] [.ptr 1 0])] ?_)))
  obtain ⟨⟨x3,x4⟩,h2,hm⟩:=bs hm
  obtain ⟨vv,H1,hC,g5,g6,q7,q8,rfl,rfl⟩:=aau m5 f5 hM hN h2
  refine dR [(15,aI x4)] [js,.box [.pv (zy a1)] false,jx,jt,.box [aR 5 1 g5] false,bR 3 1 (rI .i64) x3 g6 0,.box (zc5 a2) false] [3,4,5,1] [.agg (zc1 a2),.pv (.fn 51 [] []),kX,.ptr 1 0] hH hH hH hC hH (fq 1 [(5,aI x4)] (jc ?_))
  obtain rfl:=jf hm
  exact ⟨trivial,aI x4,[js,.box [.pv (zy a1)] false,jx,jt,.box [aR 5 1 g5] false,bR 3 1 (rI .i64) x3 g6 0],hH,g5,g6,hM,hN,rfl,rfl⟩
 refine c0 h (sq (dn [jA,jD,jG,jS,(16,aB (a2.A==2))] ?_))
 rcases zd hm with ⟨h,hm⟩|⟨h,hm⟩
 ·refine c1 h (sq (rg (s1 4 [(21,kY),(20,.agg (zc1 a2)),(19,.ptr 6 1),(18,.fn 49 [] [.ptr 1 0])] ?_)))
  obtain ⟨⟨x11,x12⟩,h10,hm⟩:=bs hm
  obtain ⟨vv,H1,hC,g13,g14,q15,q16,rfl,rfl⟩:=aao m5 f5 hM hN h10
  refine dR [(22,aI x12)] [js,.box [.pv (zy a1)] false,jx,jt,.box [aR 5 1 g13] false,bR 3 1 (rI .i64) x11 g14 0,.box (zc5 a2) false] [3,4,5,1] [.agg (zc1 a2),.pv (.fn 61 [] []),kY,.ptr 1 0] hH hH hH hC hH (fq 1 [(5,aI x12)] (jc ?_))
  obtain rfl:=jf hm
  exact ⟨trivial,aI x12,[js,.box [.pv (zy a1)] false,jx,jt,.box [aR 5 1 g13] false,bR 3 1 (rI .i64) x11 g14 0],hH,g13,g14,hM,hN,rfl,rfl⟩
 refine c0 h (jd (sq (rg (s1 5 [(27,kU),(26,.pv (.fn 51 [] [])),(25,.agg (zc1 a2)),(24,.ptr 6 1),(23,.fn 49 [] [.ptr 1 0])] ?_))))
 obtain ⟨⟨x18,x19⟩,h17,hm⟩:=bs hm
 obtain ⟨vv,H1,hC,g20,g21,q22,q23,rfl,rfl⟩:=Qa m5 f5 hM hN h17
 refine dR [(28,aI x19)] [js,.box [.pv (zy a1)] false,jx,jt,.box [aR 5 1 g20] false,bR 3 1 (rI .i64) x18 g21 0,.box (zc5 a2) false] [4,5,1] [.agg (zc1 a2),.pv (.fn 51 [] []),kU,.ptr 1 0] hH hH hH hC hH (fq 1 [(5,aI x19)] (jc ?_))
 obtain rfl:=jf hm
 exact ⟨trivial,aI x19,[js,.box [.pv (zy a1)] false,jx,jt,.box [aR 5 1 g20] false,bR 3 1 (rI .i64) x18 g21 0],hH,g20,g21,hM,hN,rfl,rfl⟩
abbrev zp71:Nat×AV:=(1,lf)
abbrev zp72 (p0:jq):Nat×AV:=(8,.pv (zk zl p0))
abbrev zp73 (p0:jq):Nat×AV:=(9,aI ((sll p0).length:Int))
theorem aaW {n:Nat}{a0:jn}{a1:jq}{r:(Option (List Int))×Int}(hm:qC n a0 a1=some r):
   ∃ vv H1,call G n 58 [.pv (zk zl a1),lf] [js,.box [.pv (zy a0)] false,jx,jt,jy]=some (.ret vv,H1)∧(match (generalizing:=false) r with|(none,r0)=>(vv=aI r0∧H1=[js,.box [.pv (zy a0)] false,jx,jt,jy])|(some r1,r0)=>(∃ (e2:Nat) (e3:Nat),r1.length=e2∧e3≤r1.length∧vv=aI r0∧H1=[js,.box [.pv (zy a0)] false,jx,jt,.box [aR 5 1 e2] false,bR 3 1 (rI .i64) r1 e3 0])):=by
 unfold qC at hm
 obtain ⟨n,rfl,h0⟩:=zp hm
 replace hm:=h0;clear h0
 refine QM 21 [(zp46 a1),zp71] func58 rfl hH (sq (dn [(zp46 a1),zp71] ?_))
 obtain ⟨k8,hk8,hm⟩:=zo hm
 refine mid (fun t H=>(∃ (w1:AV) (w2:AV),k8 none=some r∧t=mk 21 [zp71,(zp72 a1),(zp73 a1),(10,w1),(11,w2)]∧H=[js,.box [.pv (zy a0)] false,jx,jt,jy])∨(∃ (y3:(List Int)) (w1:AV) (w2:AV) (g4:Nat) (g6:Nat),k8 (some y3)=some r∧t=mk 21 [zp71,(zp72 a1),(zp73 a1),(10,w1),(11,w2)]∧H=[js,.box [.pv (zy a0)] false,jx,jt,.box [aR 5 1 g4] false,bR 3 1 (rI .i64) y3 g6 0]∧y3.length=g4∧g6≤y3.length)) ?_ ?_
 ·rintro _ _ (⟨w1,w2,hm,rfl,rfl⟩|⟨y3,w1,w2,g4,g6,hm,rfl,rfl,q5,q7⟩)
  ·subst hk8
   refine sq (dn [j8] (jc ?_))
   obtain rfl:=jf hm
   exact ⟨trivial,aI 0,[js,.box [.pv (zy a0)] false,jx,jt,jy],hH,rfl,rfl⟩
  subst hk8
  refine sq (dn [j8] (jc ?_))
  obtain rfl:=jf hm
  exact ⟨trivial,aI 0,[js,.box [.pv (zy a0)] false,jx,jt,.box [aR 5 1 g4] false,bR 3 1 (rI .i64) y3 g6 0],hH,g4,g6,hM,hN,rfl,rfl⟩
 refine sq (rg (s1 1 [(zp72 a1)] (dv 9 (v:=aI ((sll a1).length:Int)) (zu zl a1 t24 hH) hH (fq 1 [zp71,(zp72 a1),(zp73 a1),(10,aI 0)] (bq ?_)))))
 refine ZR (fun mm t H=>(∃ (y20:Int),zH n a0 a1 k8 mm none y20=some r∧t=mk 21 [zp71,(zp72 a1),(zp73 a1),(10,aI y20)]∧H=[js,.box [.pv (zk zm a0)] false,jx,jt,jy])∨(∃ (y19:(List Int)) (y20:Int) (g21:Nat) (g23:Nat),zH n a0 a1 k8 mm (some y19) y20=some r∧t=mk 21 [zp71,(zp72 a1),(zp73 a1),(10,aI y20)]∧H=[js,.box [.pv (zk zm a0)] false,jx,jt,.box [aR 5 1 g21] false,bR 3 1 (rI .i64) y19 g23 0]∧y19.length=g21∧g23≤y19.length)) (.inl ⟨0,hm,rfl,rfl⟩) ?_ ?_
 ·
   rintro _ _ (⟨y20,hm,_⟩|⟨y19,y20,g21,g23,hm,_⟩)<;>exact nomatch hm
 rintro m25 _ _ (⟨y20,hm,rfl,rfl⟩|⟨y19,y20,g21,g23,hm,rfl,rfl,q22,q24⟩)
 ·simp only [zH] at hm
  refine sq (dn [zp71,(zp72 a1),(zp73 a1),(10,aI y20),(11,aB (ahL y20 a1))] ?_)
  refine sq ?_
  rcases zd hm with ⟨h,hm⟩|⟨h,hm⟩
  ·refine c1 h (jd (sq (bq (sq (rg ?_)))))
   obtain ⟨x27,h28,hm⟩:=bs hm
   refine dv 12 (v:=.pv (.ptr (zl x27) 0)) (Zz zl a1 .i64 t24 t101 h28 rfl hH) hH (stf 3 [zp71,(6,.ptr 5 0),(zp72 a1),(zp73 a1),(10,aI y20)] [js,.box [.pv (zy a0)] false,jx,jt,jy,.box (zc5 x27) false] hH (sq (rg (s1 2 [(15,.agg (zc5 x27)),(14,lf)] ?_))))
   obtain ⟨x32,h29,hm⟩:=bs hm
   rcases x32 with ⟨_|x30,x31⟩
   ·obtain ⟨vv,H1,hC,rfl,rfl⟩:=ag0 h29
    refine dR [(16,aI x31)] [js,.box [.pv (zy a0)] false,jx,jt,jy,.box (zc5 x27) false] [0,1,2,3,4] [.agg (zc5 x27),.ptr 0 0,.ptr 2 0,.ptr 3 0] hH hH hH hC hH (fq 1 [zp71,(7,aI x31),(zp72 a1),(zp73 a1),(10,aI y20)] (sq (dn [zp71,(7,aI x31),(zp72 a1),(zp73 a1),(10,aI y20),(18,aB (x31 !=0))] ?_)))
    rcases zd hm with ⟨h,hm⟩|⟨h,hm⟩
    ·refine c1 h (sq (dn [(4,aI x31)] (jc ?_)))
     obtain rfl:=jf hm
     exact ⟨trivial,aI x31,[js,.box [.pv (zy a0)] false,jx,jt,jy],hH,rfl,rfl⟩
    refine c0 h (jd (dn [zp71,(zp72 a1),(zp73 a1),(zp45 y20)] ?_))
    exact ⟨_,_,Zg [zp71,(zp72 a1),(zp73 a1),(zp45 y20)] [js,.box [.pv (zy a0)] false,jx,jt,jy] hH,.inl ⟨(zN y20),hm,rfl,rfl⟩⟩
   obtain ⟨vv,H1,hC,g34,q35,rfl,rfl⟩:=ag0 h29
   refine dR [(16,aI x31)] [js,.box [.pv (zy a0)] false,jx,jt,.box [aR 6 1 g34] false,.box (zc5 x27) false,bR 3 1 (rI .i64) x30 0 0] [0,1,2,3,4] [.agg (zc5 x27),.ptr 0 0,.ptr 2 0,.ptr 3 0] hH hH hH hC hH (fq 1 [zp71,(7,aI x31),(zp72 a1),(zp73 a1),(10,aI y20)] (sq (dn [zp71,(7,aI x31),(zp72 a1),(zp73 a1),(10,aI y20),(18,aB (x31 !=0))] ?_)))
   rcases zd hm with ⟨h,hm⟩|⟨h,hm⟩
   ·refine c1 h (sq (dn [(4,aI x31)] (jc ?_)))
    obtain rfl:=jf hm
    exact ⟨trivial,aI x31,[js,.box [.pv (zy a0)] false,jx,jt,.box [aR 5 1 g34] false,bR 3 1 (rI .i64) x30 0 0],hH,g34,0,hM,hN,rfl,rfl⟩
   refine c0 h (jd (dn [zp71,(zp72 a1),(zp73 a1),(zp45 y20)] ?_))
   exact ⟨_,_,Zg [zp71,(zp72 a1),(zp73 a1),(zp45 y20)] [js,.box [.pv (zy a0)] false,jx,jt,.box [aR 5 1 g34] false,bR 3 1 (rI .i64) x30 0 0] hH,.inr (⟨x30,(zN y20),g34,0,hm,rfl,rfl,hM,hN⟩)⟩
  refine c0 h (je ?_)
  exact .inl ⟨aI y20,aB (ahL y20 a1),hm,(zD hH),rfl⟩
 simp only [zH] at hm
 refine sq (dn [zp71,(zp72 a1),(zp73 a1),(10,aI y20),(11,aB (ahL y20 a1))] ?_)
 refine sq ?_
 rcases zd hm with ⟨h,hm⟩|⟨h,hm⟩
 ·refine c1 h (jd (sq (bq (sq (rg ?_)))))
  obtain ⟨x38,h39,hm⟩:=bs hm
  refine dv 12 (v:=.pv (.ptr (zl x38) 0)) (Zz zl a1 .i64 t24 t101 h39 rfl hH) hH (stf 3 [zp71,(6,.ptr 6 0),(zp72 a1),(zp73 a1),(10,aI y20)] [js,.box [.pv (zy a0)] false,jx,jt,.box [aR 5 1 g21] false,bR 3 1 (rI .i64) y19 g23 0,.box (zc5 x38) false] hH (sq (rg (s1 2 [(15,.agg (zc5 x38)),(14,lf)] ?_))))
  obtain ⟨⟨x41,x42⟩,h40,hm⟩:=bs hm
  obtain ⟨vv,H1,hC,g43,g44,q45,q46,rfl,rfl⟩:=af0 g21 g23 hM hN h40
  refine dR [(16,aI x42)] [js,.box [.pv (zy a0)] false,jx,jt,.box [aR 5 1 g43] false,bR 3 1 (rI .i64) x41 g44 0,.box (zc5 x38) false] [0,1,2,3,4,5] [.agg (zc5 x38),.ptr 0 0,.ptr 2 0,.ptr 3 0] hH hH hH hC hH (fq 1 [zp71,(7,aI x42),(zp72 a1),(zp73 a1),(10,aI y20)] (sq (dn [zp71,(7,aI x42),(zp72 a1),(zp73 a1),(10,aI y20),(18,aB (x42 !=0))] ?_)))
  rcases zd hm with ⟨h,hm⟩|⟨h,hm⟩
  ·refine c1 h (sq (dn [(4,aI x42)] (jc ?_)))
   obtain rfl:=jf hm
   exact ⟨trivial,aI x42,[js,.box [.pv (zy a0)] false,jx,jt,.box [aR 5 1 g43] false,bR 3 1 (rI .i64) x41 g44 0],hH,g43,g44,hM,hN,rfl,rfl⟩
  refine c0 h (jd (dn [zp71,(zp72 a1),(zp73 a1),(zp45 y20)] ?_))
  exact ⟨_,_,Zg [zp71,(zp72 a1),(zp73 a1),(zp45 y20)] [js,.box [.pv (zy a0)] false,jx,jt,.box [aR 5 1 g43] false,bR 3 1 (rI .i64) x41 g44 0] hH,.inr (⟨x41,(zN y20),g43,g44,hm,rfl,rfl,hM,hN⟩)⟩
 refine c0 h (je ?_)
 exact .inr (⟨y19,aI y20,aB (ahL y20 a1),g21,g23,hm,(zD hH),rfl,hM,hN⟩)
theorem adL (m5:Nat) (f5:Nat) {n:Nat}{a0:(List Int)}{a1:jn}{a2:jq}{r:(List Int)×Int}(hm5:a0.length=m5) (hf5:f5≤a0.length) (hm:ql n a0 a1 a2=some r):
   ∃ vv H1,call G n 58 [.pv (zk zl a2),lf] [js,.box [.pv (zy a1)] false,jx,jt,.box [aR 5 1 m5] false,bR 3 1 (rI .i64) a0 f5 0]=some (.ret vv,H1)∧(match (generalizing:=false) r with|(r0,r1)=>(∃ (e2:Nat) (e3:Nat),r0.length=e2∧e3≤r0.length∧vv=aI r1∧H1=[js,.box [.pv (zy a1)] false,jx,jt,.box [aR 5 1 e2] false,bR 3 1 (rI .i64) r0 e3 0])):=by
 unfold ql at hm
 obtain ⟨n,rfl,h0⟩:=zp hm
 replace hm:=h0;clear h0
 refine QM 21 [(zp46 a2),zp71] func58 rfl hH (sq (dn [(zp46 a2),zp71] ?_))
 obtain ⟨k8,hk8,hm⟩:=zo hm
 refine mid (fun t H=>(∃ (y1:(List Int)) (y2:Int) (y3:Bool) (g4:Nat) (g6:Nat),k8 y1=some r∧t=mk 21 [zp71,(zp72 a2),(zp73 a2),(10,aI y2),(11,aB y3)]∧H=[js,.box [.pv (zy a1)] false,jx,jt,.box [aR 5 1 g4] false,bR 3 1 (rI .i64) y1 g6 0]∧y1.length=g4∧g6≤y1.length)) ?_ ?_
 ·rintro _ _ ⟨y1,y2,y3,g4,g6,hm,rfl,rfl,q5,q7⟩
  subst hk8
  refine sq (dn [j8] (jc ?_))
  obtain rfl:=jf hm
  exact ⟨trivial,aI 0,[js,.box [.pv (zy a1)] false,jx,jt,.box [aR 5 1 g4] false,bR 3 1 (rI .i64) y1 g6 0],hH,g4,g6,hM,hN,rfl,rfl⟩
 refine sq (rg (s1 1 [(zp72 a2)] (dv 9 (v:=aI ((sll a2).length:Int)) (zu zl a2 t24 hH) hH (fq 1 [zp71,(zp72 a2),(zp73 a2),(10,aI 0)] (bq ?_)))))
 refine ZR (fun mm t H=>(∃ (y15:(List Int)) (y16:Int) (g17:Nat) (g19:Nat),Zk n a1 a2 k8 mm y15 y16=some r∧t=mk 21 [zp71,(zp72 a2),(zp73 a2),(10,aI y16)]∧H=[js,.box [.pv (zy a1)] false,jx,jt,.box [aR 5 1 g17] false,bR 3 1 (rI .i64) y15 g19 0]∧y15.length=g17∧g19≤y15.length)) (⟨a0,0,m5,f5,hm,rfl,rfl,hM,hN⟩) ?_ ?_
 ·
   rintro _ _ ⟨y15,y16,g17,g19,hm,_⟩;exact nomatch hm
 rintro m21 _ _ ⟨y15,y16,g17,g19,hm,rfl,rfl,q18,q20⟩
 simp only [Zk] at hm
 refine sq (dn [zp71,(zp72 a2),(zp73 a2),(10,aI y16),(11,aB (ahL y16 a2))] ?_)
 refine sq ?_
 rcases zd hm with ⟨h,hm⟩|⟨h,hm⟩
 ·refine c1 h (jd (sq (bq (sq (rg ?_)))))
  obtain ⟨x23,h24,hm⟩:=bs hm
  refine dv 12 (v:=.pv (.ptr (zl x23) 0)) (Zz zl a2 .i64 t24 t101 h24 rfl hH) hH (stf 3 [zp71,(6,.ptr 6 0),(zp72 a2),(zp73 a2),(10,aI y16)] [js,.box [.pv (zy a1)] false,jx,jt,.box [aR 5 1 g17] false,bR 3 1 (rI .i64) y15 g19 0,.box (zc5 x23) false] hH (sq (rg (s1 2 [(15,.agg (zc5 x23)),(14,lf)] ?_))))
  obtain ⟨⟨x26,x27⟩,h25,hm⟩:=bs hm
  obtain ⟨vv,H1,hC,g28,g29,q30,q31,rfl,rfl⟩:=af0 g17 g19 hM hN h25
  refine dR [(16,aI x27)] [js,.box [.pv (zy a1)] false,jx,jt,.box [aR 5 1 g28] false,bR 3 1 (rI .i64) x26 g29 0,.box (zc5 x23) false] [0,1,2,3,4,5] [.agg (zc5 x23),.ptr 0 0,.ptr 2 0,.ptr 3 0] hH hH hH hC hH (fq 1 [zp71,(7,aI x27),(zp72 a2),(zp73 a2),(10,aI y16)] (sq (dn [zp71,(7,aI x27),(zp72 a2),(zp73 a2),(10,aI y16),(18,aB (x27 !=0))] ?_)))
  rcases zd hm with ⟨h,hm⟩|⟨h,hm⟩
  ·refine c1 h (sq (dn [(4,aI x27)] (jc ?_)))
   obtain rfl:=jf hm
   exact ⟨trivial,aI x27,[js,.box [.pv (zy a1)] false,jx,jt,.box [aR 5 1 g28] false,bR 3 1 (rI .i64) x26 g29 0],hH,g28,g29,hM,hN,rfl,rfl⟩
  refine c0 h (jd (dn [zp71,(zp72 a2),(zp73 a2),(zp45 y16)] ?_))
  exact ⟨_,_,Zg [zp71,(zp72 a2),(zp73 a2),(zp45 y16)] [js,.box [.pv (zy a1)] false,jx,jt,.box [aR 5 1 g28] false,bR 3 1 (rI .i64) x26 g29 0] hH,⟨x26,(zN y16),g28,g29,hm,rfl,rfl,hM,hN⟩⟩
 refine c0 h (je ?_)
 exact ⟨y15,y16,(ahL y16 a2),g17,g19,hm,rfl,rfl,hM,hN⟩
abbrev acT (p0:(jn×Int)):=(zk zm p0.1)
theorem amW {n:Nat}{a0:zr}{a1:jn}{r:(Option (List Int))×Int}(hm:adt n a0 a1=some r):
   call G n 12 [.agg (zc0 a0),.pv (zy a1)] []=some (.ret (.tup [.pv (zk (rI .i64) r.1),aI r.2]),[]):=by
 unfold adt at hm
 obtain ⟨n,rfl,h0⟩:=zp hm
 replace hm:=h0;clear h0
 refine zT 46 [(0,.agg (zc0 a0)),(zp33 a1)] func12 rfl hH (sq (det [(zp33 a1),jz] [.box (zc0 a0) false] hH (sq (rg (s1 2 [(14,.pv (zy a1)),(13,.agg (zc0 a0))] ?_)))))
 obtain ⟨x1,h2,hm⟩:=bs hm
 refine dv 15 (zC hH (amd h2) hH hH hH) hH (stf 6 [jz,jI,(7,aI x1.2)] [.box (zc0 a0) false,.box [.pv (acT x1)] false] hH ?_)
 refine sq (sq (dn [jz,jI,(7,aI x1.2),(19,aB (x1.2 !=0))] ?_))
 rcases zd hm with ⟨h,hm⟩|⟨h,hm⟩
 ·refine c1 h (sq (dn [j2,(5,aI x1.2)] (jc ?_)))
  cases hm;exact hJ
 refine c0 h (jd ?_)
 refine sq (sq (rg (s1 1 [(21,.agg (zc0 a0))] ?_)))
 obtain ⟨x4,h5,hm⟩:=bs hm
 refine dv 22 (zC hH (amq h5) hH hH hH) hH (fq 1 [jz,jI,(23,aB (!x4))] ?_)
 rcases zd hm with ⟨h,hm⟩|⟨h,hm⟩
 ·refine c1 h (sq (dn [j2,(5,aI 2)] (jc ?_)))
  cases hm;exact hJ
 refine c0 h (jd (sq (det [jz,jM] [.box (zc0 a0) false,.box [.pv (acT x1)] false,js] hH (sq (det [jz,jM,jH] [.box (zc0 a0) false,.box [.pv (acT x1)] false,js,jy] hH (sq (det [jz,jM,jH,jN] [.box (zc0 a0) false,.box [.pv (acT x1)] false,js,jy,jx] hH (sq (det [jz,jM,jH,jN,jP] [.box (zc0 a0) false,.box [.pv (acT x1)] false,js,jy,jx,jv] hH (sq (rg (s1 3 [(28,.fn 54 [] [.ptr 2 0]),(27,.pv (aiy a0)),(26,.ptr 0 1)] ?_))))))))))))
 obtain ⟨x8,h7,hm⟩:=bs hm
 obtain ⟨vv,H1,hC,rfl,rfl⟩:=adO h7
 refine dR [(29,aI x8)] [.box (zc0 a0) false,.box [.pv (acT x1)] false,js,jy,jx,jv] [2,1] [.pv (aiy a0),.fn 54 [] [.ptr 2 0]] hH hH hH hC hH (fq 1 [jz,(7,aI x8),jM,jH,jN,jP] ?_)
 obtain ⟨k16,hk16,hm⟩:=zo hm
 refine mid (fun t H=>(∃ (y11:Int) (w9:AV),k16 none y11=some r∧t=mk 46 [jz,(7,aI y11),jM,jH,jN,jP,(31,w9)]∧H=[.box (zc0 a0) false,.box [.pv (acT x1)] false,js,jy,jx,jv])∨(∃ (y10:(List Int)) (y11:Int) (w9:AV) (g12:Nat) (g14:Nat),k16 (some y10) y11=some r∧t=mk 46 [jz,(7,aI y11),jM,jH,jN,jP,(31,w9)]∧H=[.box (zc0 a0) false,.box [.pv (acT x1)] false,js,.box [aR 6 1 g12] false,jx,jv,bR 3 1 (rI .i64) y10 g14 0]∧y10.length=g12∧g14≤y10.length)) ?_ ?_
 ·rintro _ _ (⟨y11,w9,hm,rfl,rfl⟩|⟨y10,y11,w9,g12,g14,hm,rfl,rfl,q13,q15⟩)
  ·subst hk16
   obtain ⟨k28,hk28,hm⟩:=zo hm
   refine mid (fun t H=>(∃ (y23:Int) (w17:AV) (w18:AV) (w19:AV) (w20:AV) (w21:AV),k28 none y23=some r∧t=mk 46 [(2,w17),(7,aI y23),(8,w18),jH,(10,w19),(11,w20),(37,w21)]∧H=[.box (zc0 a0) false,.box [.pv (acT x1)] false,js,jy,jx,jv])∨(∃ (y22:(List Int)) (y23:Int) (w17:AV) (w18:AV) (w19:AV) (w20:AV) (w21:AV) (g24:Nat) (g26:Nat),k28 (some y22) y23=some r∧t=mk 46 [(2,w17),(7,aI y23),(8,w18),jH,(10,w19),(11,w20),(37,w21)]∧H=[.box (zc0 a0) false,.box [.pv (acT x1)] false,js,.box [aR 6 1 g24] false,jx,jv,bR 3 1 (rI .i64) y22 g26 0]∧y22.length=g24∧g26≤y22.length)) ?_ ?_
   ·rintro _ _ (⟨y23,w17,w18,w19,w20,w21,hm,rfl,rfl⟩|⟨y22,y23,w17,w18,w19,w20,w21,g24,g26,hm,rfl,rfl,q25,q27⟩)
    ·subst hk28
     refine sq (sq (dn [(7,aI y23),jH,(43,aB (y23 !=0))] ?_))
     rcases zd hm with ⟨h,hm⟩|⟨h,hm⟩
     ·refine c1 h (sq (dn [j2,(5,aI y23)] (jc ?_)))
      cases hm;exact hJ
     refine c0 h (jd (sq (dn [j2,j9] (jc ?_))))
     cases hm;exact hJ
    subst hk28
    refine sq (sq (dn [(7,aI y23),jH,(43,aB (y23 !=0))] ?_))
    rcases zd hm with ⟨h,hm⟩|⟨h,hm⟩
    ·refine c1 h (sq (dn [j2,(5,aI y23)] (jc ?_)))
     cases hm;exact hJ
    refine c0 h (jd (sq (dn [(4,aR 6 1 g24),j9] (jc ?_))))
    obtain rfl:=jf hm
    exact aa2 (v:=.tup [aR 6 1 g24,aI 0]) trivial rfl hH (akY (aaD (afi (abI (n:=g24) (id:=6) (l:=y22) (R:=(rI .i64)) rfl hO hO)) (aaD (apo) (rfl))))
   refine sq (dn [jz,(7,aI y11),jM,jH,jN,jP,(37,aB (y11==0))] ?_)
   rcases zd hm with ⟨h,hm⟩|⟨h,hm⟩
   ·refine c1 h (rg (s1 3 [(40,kZ),(39,.pv (qM a0)),(38,.ptr 0 4)] ?_))
    obtain ⟨x35,h32,hm⟩:=bs hm
    rcases x35 with ⟨_|x33,x34⟩
    ·obtain ⟨vv,H1,hC,rfl,rfl⟩:=aaW h32
     refine dR [(41,aI x34)] [.box (zc0 a0) false,.box [.pv (acT x1)] false,js,jy,jx,jv] [2,1,4,5,3] [.pv (qM a0),kZ] hH hH hH hC hH (fq 1 [(7,aI x34),jH] ?_)
     exact .inl ⟨x34,.any,.any,.any,.any,.any,hm,(zD hH),rfl⟩
    obtain ⟨vv,H1,hC,g36,g37,q38,q39,rfl,rfl⟩:=aaW h32
    refine dR [(41,aI x34)] [.box (zc0 a0) false,.box [.pv (acT x1)] false,js,.box [aR 6 1 g36] false,jx,jv,bR 3 1 (rI .i64) x33 g37 0] [2,1,4,5,3] [.pv (qM a0),kZ] hH hH hH hC hH (fq 1 [(7,aI x34),jH] ?_)
    exact .inr (⟨x33,x34,.any,.any,.any,.any,.any,g36,g37,hm,(zD hH),rfl,hM,hN⟩)
   refine c0 h (jd ?_)
   exact .inl ⟨y11,.ptr 0 0,.ptr 2 0,.ptr 4 0,.ptr 5 0,aB (y11==0),hm,(zD hH),rfl⟩
  subst hk16
  obtain ⟨k51,hk51,hm⟩:=zo hm
  refine mid (fun t H=>(∃ (y45:(List Int)) (y46:Int) (w40:AV) (w41:AV) (w42:AV) (w43:AV) (w44:AV) (g47:Nat) (g49:Nat),k51 y45 y46=some r∧t=mk 46 [(2,w40),(7,aI y46),(8,w41),jH,(10,w42),(11,w43),(37,w44)]∧H=[.box (zc0 a0) false,.box [.pv (acT x1)] false,js,.box [aR 6 1 g47] false,jx,jv,bR 3 1 (rI .i64) y45 g49 0]∧y45.length=g47∧g49≤y45.length)) ?_ ?_
  ·rintro _ _ ⟨y45,y46,w40,w41,w42,w43,w44,g47,g49,hm,rfl,rfl,q48,q50⟩
   subst hk51
   refine sq (sq (dn [(7,aI y46),jH,(43,aB (y46 !=0))] ?_))
   rcases zd hm with ⟨h,hm⟩|⟨h,hm⟩
   ·refine c1 h (sq (dn [j2,(5,aI y46)] (jc ?_)))
    cases hm;exact hJ
   refine c0 h (jd (sq (dn [(4,aR 6 1 g47),j9] (jc ?_))))
   obtain rfl:=jf hm
   exact aa2 (v:=.tup [aR 6 1 g47,aI 0]) trivial rfl hH (akY (aaD (afi (abI (n:=g47) (id:=6) (l:=y45) (R:=(rI .i64)) rfl hO hO)) (aaD (apo) (rfl))))
  refine sq (dn [jz,(7,aI y11),jM,jH,jN,jP,(37,aB (y11==0))] ?_)
  rcases zd hm with ⟨h,hm⟩|⟨h,hm⟩
  ·refine c1 h (rg (s1 3 [(40,kZ),(39,.pv (qM a0)),(38,.ptr 0 4)] ?_))
   obtain ⟨⟨x55,x56⟩,h54,hm⟩:=bs hm
   obtain ⟨vv,H1,hC,g57,g58,q59,q60,rfl,rfl⟩:=adL g12 g14 hM hN h54
   refine dR [(41,aI x56)] [.box (zc0 a0) false,.box [.pv (acT x1)] false,js,.box [aR 6 1 g57] false,jx,jv,bR 3 1 (rI .i64) x55 g58 0] [2,1,4,5,3,6] [.pv (qM a0),kZ] hH hH hH hC hH (fq 1 [(7,aI x56),jH] ?_)
   exact ⟨x55,x56,.any,.any,.any,.any,.any,g57,g58,hm,(zD hH),rfl,hM,hN⟩
  refine c0 h (jd ?_)
  exact ⟨y10,y11,.ptr 0 0,.ptr 2 0,.ptr 4 0,.ptr 5 0,aB (y11==0),g12,g14,hm,(zD hH),rfl,hM,hN⟩
 refine sq (dn [jz,(7,aI x8),jM,jH,jN,jP,(31,aB (x8==0))] ?_)
 rcases zd hm with ⟨h,hm⟩|⟨h,hm⟩
 ·refine c1 h (rg (s1 3 [(34,lg),(33,.pv (ac4 a0)),(32,.ptr 0 3)] ?_))
  obtain ⟨x65,h62,hm⟩:=bs hm
  rcases x65 with ⟨_|x63,x64⟩
  ·obtain ⟨vv,H1,hC,rfl,rfl⟩:=aaF h62
   refine dR [(35,aI x64)] [.box (zc0 a0) false,.box [.pv (acT x1)] false,js,jy,jx,jv] [2,1,4,5,3] [.pv (ac4 a0),lg] hH hH hH hC hH (fq 1 [jz,(7,aI x64),jM,jH,jN,jP] ?_)
   exact .inl ⟨x64,.any,hm,(zD hH),rfl⟩
  obtain ⟨vv,H1,hC,g66,g67,q68,q69,rfl,rfl⟩:=aaF h62
  refine dR [(35,aI x64)] [.box (zc0 a0) false,.box [.pv (acT x1)] false,js,.box [aR 6 1 g66] false,jx,jv,bR 3 1 (rI .i64) x63 g67 0] [2,1,4,5,3] [.pv (ac4 a0),lg] hH hH hH hC hH (fq 1 [jz,(7,aI x64),jM,jH,jN,jP] ?_)
  exact .inr (⟨x63,x64,.any,g66,g67,hm,(zD hH),rfl,hM,hN⟩)
 refine c0 h (jd ?_)
 exact .inl ⟨x8,aB (x8==0),hm,(zD hH),rfl⟩
theorem aqg {n:Nat}{a0:Int}{r:Int}(hm:agR n a0=some r):
   call G n 174 [aI a0] []=some (.ret (aI r),[]):=by
 unfold agR at hm
 obtain ⟨n,rfl,h0⟩:=zp hm
 replace hm:=h0;clear h0
 refine zT 14 [(0,aI a0)] func174 rfl hH (sq (dn [(0,aI a0)] (sq (sq (dn [(3,aI a0)] (bq (sq (dn [(3,aI a0),(4,aB (a0==1))] ?_))))))))
 rcases zd hm with ⟨h,hm⟩|⟨h,hm⟩
 ·refine c1 h (sq (dn [(2,aI 0)] (jc ?_)))
  cases hm;exact hJ
 refine c0 h ?_
 obtain ⟨k3,hk3,hm⟩:=zo hm
 refine mid (fun t H=>(∃ (y2:Bool),k3 y2=some r∧t=mk 14 [(3,aI a0),(6,aB y2)]∧H=[])) ?_ ?_
 ·rintro _ _ ⟨y2,hm,rfl,rfl⟩
  subst hk3
  rcases zd hm with ⟨h,hm⟩|⟨h,hm⟩
  ·refine c1 h (sq (dn [(2,aI 1)] (jc ?_)))
   cases hm;exact hJ
  refine c0 h (sq (sq (dn [(3,aI a0),(10,aB (a0==2))] ?_)))
  rcases zd hm with ⟨h,hm⟩|⟨h,hm⟩
  ·refine c1 h (jd ?_)
   rcases zd hm with ⟨h,hm⟩|⟨h,hm⟩
   ·refine c1 h (sq (dn [kc] (jc ?_)))
    cases hm;exact hJ
   refine c0 h (jd (sq (dn [(2,aI (-1))] (jc ?_))))
   cases hm;exact hJ
  refine c0 h (sq (dn [(3,aI a0),(10,aB (a0==3))] ?_))
  rcases zd hm with ⟨h,hm⟩|⟨h,hm⟩
  ·refine c1 h (jd ?_)
   rcases zd hm with ⟨h,hm⟩|⟨h,hm⟩
   ·refine c1 h (sq (dn [kc] (jc ?_)))
    cases hm;exact hJ
   refine c0 h (jd (sq (dn [(2,aI (-1))] (jc ?_))))
   cases hm;exact hJ
  refine c0 h (dn [(10,aB (a0==4))] ?_)
  rcases zd hm with ⟨h,hm⟩|⟨h,hm⟩
  ·refine c1 h (sq (dn [kc] (jc ?_)))
   cases hm;exact hJ
  refine c0 h (jd (sq (dn [(2,aI (-1))] (jc ?_))))
  cases hm;exact hJ
 refine sq (dn [(3,aI a0),(6,aB (a0==5))] ?_)
 rcases zd hm with ⟨h,hm⟩|⟨h,hm⟩
 ·refine c1 h (jd ?_)
  exact ⟨(a0==5),hm,rfl,rfl⟩
 refine c0 h (sq (dn [(3,aI a0),(6,aB (a0==6))] ?_))
 rcases zd hm with ⟨h,hm⟩|⟨h,hm⟩
 ·refine c1 h (jd ?_)
  exact ⟨(a0==6),hm,rfl,rfl⟩
 refine c0 h (dn [(3,aI a0),(6,aB (a0==7))] ?_)
 exact ⟨(a0==7),hm,rfl,rfl⟩
abbrev zp74 (p0:zh):Nat×AV:=(7,aI ((sll p0.G).length:Int))
abbrev zp75 (p0:zh):Nat×AV:=(6,aI ((sll p0.D).length:Int))
abbrev zp76 (p0:zh):Nat×AV:=(5,aI ((sll p0.E).length:Int))
abbrev zp77 (p0:zh):Nat×AV:=(4,aI (IntKind.wrap .i64 (((sll p0.J).length:Int)+((sll p0.L).length:Int))))
abbrev zp78 (p0:zh):Nat×AV:=(3,aI ((sll p0.H).length:Int))
abbrev aho (p0:zh):=((sll p0.H).length:Int)
abbrev ahq (p0:zh):=((sll p0.J).length:Int)
abbrev ajI (p0:zh):=((sll p0.L).length:Int)
abbrev ahW (p0:zh):=(IntKind.wrap .i64 (((sll p0.J).length:Int)+((sll p0.L).length:Int)))
abbrev ajD (p0:zh):=((sll p0.E).length:Int)
abbrev agq (p0:zh):=((sll p0.D).length:Int)
abbrev agm (p0:zh):=((sll p0.G).length:Int)
abbrev ao6 (p0:zh):=(((sll p0.J).length:Int)!=((sll p0.L).length:Int))
abbrev anm (p0:zh):=(aI ((sll p0.J).length:Int))
theorem aoK {n:Nat}{a0:zh}{r:Bool}(hm:afT n a0=some r):
   call G n 175 [.agg (zc2 a0)] []=some (.ret (aB r),[]):=by
 unfold afT at hm
 obtain ⟨n,rfl,h0⟩:=zp hm
 replace hm:=h0;clear h0
 refine zT 68 [(0,.agg (zc2 a0))] func175 rfl hH (sq (det [jA] [.box (zc2 a0) false] hH (sq (rgd (shd 2 [(9,.pv (aiD a0)),(8,.ptr 0 2)] hH (dvd 10 (v:=aI (aho a0)) (zu za a0.H t23 hH) hH (shd 2 [(12,.pv (aag a0)),(11,.ptr 0 3)] hH (dvd 13 (v:=aI (ahq a0)) (zu za a0.J t23 hH) hH (shd 2 [(15,.pv (aaX a0)),(14,.ptr 0 4)] hH (dvd 16 (v:=aI (ajI a0)) (zu za a0.L t23 hH) hH (shd 3 [(19,.pv (akK a0)),(18,.ptr 0 5),(17,aI (ahW a0))] hH (dvd 20 (v:=aI (ajD a0)) (zu za a0.E t23 hH) hH ?_))))))))))))
 refine shd 2 [(22,.pv (afp a0)),(21,.ptr 0 6)] hH (dvd 23 (v:=aI (agq a0)) (zu zl a0.D t24 hH) hH (shd 2 [(25,.pv (afK a0)),(24,.ptr 0 7)] hH (dvd 26 (v:=aI (agm a0)) (zu zx a0.G t25 hH) hH (shd 5 [(zp74 a0),(zp75 a0),(zp76 a0),(zp77 a0),(zp78 a0)] hH (find [jA,(zp78 a0),(zp77 a0),(zp76 a0),(zp75 a0),(zp74 a0)] rfl hH hH ?_)))))
 obtain ⟨k7,hk7,hm⟩:=zo hm
 refine mid (fun t H=>(∃ (y2:Int) (y3:Int) (y4:Int) (y5:Int) (y6:Int) (w1:AV),k7 y2 y3 y4 y5 y6=some r∧t=mk 68 [(3,aI y2),(4,aI y3),(5,aI y4),(6,aI y5),(7,aI y6),(39,w1)]∧H=[.box (zc2 a0) false])) ?_ ?_
 ·rintro _ _ ⟨y2,y3,y4,y5,y6,w1,hm,rfl,rfl⟩
  subst hk7
  refine sq (dn [(2,aB ((IntKind.wrap .i64 ((IntKind.wrap .i64 ((IntKind.wrap .i64 ((IntKind.wrap .i64 (y2+y3))+y4))+y5))+y6))==0))] (jc ?_))
  cases hm;exact hJ
 refine sq (dn [jA,(zp78 a0),(zp77 a0),(zp76 a0),(zp75 a0),(zp74 a0),(28,aI a0.A)] (bq (sq (bq (sq (bq (sq (bq (sq (bq ?_))))))))))
 obtain ⟨k9,hk9,hm⟩:=zo hm
 refine mid (fun t H=>(∃ (y8:Bool),k9 ()=some r∧t=mk 68 [jA,(zp78 a0),(zp77 a0),(zp76 a0),(zp75 a0),(zp74 a0),(28,aI a0.A),(29,aB y8)]∧H=[.box (zc2 a0) false])) ?_ ?_
 ·rintro _ _ ⟨y8,hm,rfl,rfl⟩
  subst hk9
  refine sq (sq (rg (s1 2 [(42,.pv (aag a0)),(41,.ptr 0 3)] (dv 43 (v:=aI (ahq a0)) (zu za a0.J t23 hH) hH (s1 2 [(45,.pv (aaX a0)),(44,.ptr 0 4)] (dv 46 (v:=aI (ajI a0)) (zu za a0.L t23 hH) hH (s1 2 [(48,aB (ao6 a0)),(47,aB (ao6 a0))] ?_)))))))
  refine seg (ao6 a0) [48,47] (fun b=>[(53,aB (b||(((sll a0.J).length:Int)==0))),(52,ifA b hY (aB (((sll a0.J).length:Int)==0))),(51,ifA b hY (anm a0)),(50,ifA b hY (.pv (aag a0))),(49,ifA b hY (.ptr 0 3))]) 13 hH ?_ ?_ ?_
  ·intro Q h
   refine s1 5 [kp,(52,.undef),(51,.undef),(50,.undef),(49,.undef)] ?_
   exact Ze hH hH h
  ·intro Q h
   refine s1 2 [(50,.pv (aag a0)),(49,.ptr 0 3)] (dv 51 (v:=aI (ahq a0)) (zu za a0.J t23 hH) hH (s1 2 [(53,aB (((sll a0.J).length:Int)==0)),(52,aB (((sll a0.J).length:Int)==0))] ?_))
   exact Ze hH hH h
  refine fin [(zp76 a0),(zp75 a0),(zp74 a0),(53,aB ((((sll a0.J).length:Int)!=((sll a0.L).length:Int))||(((sll a0.J).length:Int)==0)))] rfl hH ?_
  rcases zd hm with ⟨h10,hm⟩|⟨h10,hm⟩
  ·refine c1 h10 (sq (dn [ko] (jc ?_)))
   cases hm;exact hJ
  refine c0 h10 (jd (dn [j8,(zp76 a0),(zp75 a0),(zp74 a0)] (sq (dn [(3,aI 0),j8,(zp76 a0),(zp75 a0),(zp74 a0)] (je ?_)))))
  exact ⟨0,0,(ajD a0),(agq a0),(agm a0),.any,hm,(zD hH),rfl⟩
 refine bq (sq ?_)
 obtain ⟨k12,hk12,hm⟩:=zo hm
 refine mid (fun t H=>(∃ (y11:Bool),k12 ()=some r∧t=mk 68 [jA,(zp78 a0),(zp77 a0),(zp76 a0),(zp75 a0),(zp74 a0),(28,aI a0.A),(29,aB y11)]∧H=[.box (zc2 a0) false])) ?_ ?_
 ·rintro _ _ ⟨y11,hm,rfl,rfl⟩
  subst hk12
  refine sq (sq (sq (dn [(zp78 a0),(zp77 a0),(zp76 a0),(zp75 a0),(zp74 a0),(28,aI a0.A),(32,aB (a0.A==1))] ?_)))
  rcases zd hm with ⟨h13,hm⟩|⟨h13,hm⟩
  ·refine c1 h13 (jd ?_)
   rcases zd hm with ⟨h14,hm⟩|⟨h14,hm⟩
   ·refine c1 h14 (je (sq (dn [(3,aI 0),(zp77 a0),(zp76 a0),(zp75 a0),(zp74 a0)] (je ?_))))
    exact ⟨0,(ahW a0),(ajD a0),(agq a0),(agm a0),.any,hm,(zD hH),rfl⟩
   refine c0 h14 (jd (sq (sq (dn [(zp78 a0),(zp77 a0),(zp76 a0),(zp75 a0),(zp74 a0),(28,aI a0.A),(35,aB (a0.A==6))] ?_))))
   rcases zd hm with ⟨h15,hm⟩|⟨h15,hm⟩
   ·refine c1 h15 (je (sq (sq (sq (dn [(zp78 a0),(zp77 a0),(zp75 a0),(zp74 a0),(55,aB (((sll a0.E).length:Int)==0))] ?_)))))
    rcases zd hm with ⟨h16,hm⟩|⟨h16,hm⟩
    ·refine c1 h16 (sq (dn [ko] (jc ?_)))
     cases hm;exact hJ
    refine c0 h16 (jd (dn [(zp78 a0),(zp77 a0),j9,(zp75 a0),(zp74 a0)] (je ?_)))
    exact ⟨(aho a0),(ahW a0),0,(agq a0),(agm a0),.any,hm,(zD hH),rfl⟩
   refine c0 h15 (jd (sq (sq (dn [(zp78 a0),(zp77 a0),(zp76 a0),(zp75 a0),(zp74 a0),(28,aI a0.A),(37,aB (a0.A==5))] ?_))))
   rcases zd hm with ⟨h17,hm⟩|⟨h17,hm⟩
   ·refine c1 h17 (je (sq (dn [(zp78 a0),(zp77 a0),j9,kf,(zp74 a0)] (je ?_))))
    exact ⟨(aho a0),(ahW a0),0,0,(agm a0),.any,hm,(zD hH),rfl⟩
   refine c0 h17 (jd (sq (dn [(zp78 a0),(zp77 a0),(zp76 a0),(zp75 a0),(zp74 a0),(39,aB (a0.A==7))] ?_)))
   rcases zd hm with ⟨h18,hm⟩|⟨h18,hm⟩
   ·refine c1 h18 (je (sq (sq (sq (dn [(zp78 a0),(zp77 a0),(zp76 a0),(zp75 a0),(57,aB (((sll a0.G).length:Int)==0))] ?_)))))
    rcases zd hm with ⟨h19,hm⟩|⟨h19,hm⟩
    ·refine c1 h19 (sq (dn [ko] (jc ?_)))
     cases hm;exact hJ
    refine c0 h19 (jd (dn [(zp78 a0),(zp77 a0),(zp76 a0),(zp75 a0),kg] (je ?_)))
    exact ⟨(aho a0),(ahW a0),(ajD a0),(agq a0),0,.any,hm,(zD hH),rfl⟩
   refine c0 h18 (jd (je ?_))
   exact ⟨(aho a0),(ahW a0),(ajD a0),(agq a0),(agm a0),aB (a0.A==7),hm,(zD hH),rfl⟩
  refine c0 h13 (dn [(zp78 a0),(zp77 a0),(zp76 a0),(zp75 a0),(zp74 a0),(28,aI a0.A),(32,aB (a0.A==2))] ?_)
  rcases zd hm with ⟨h20,hm⟩|⟨h20,hm⟩
  ·refine c1 h20 (je (sq (dn [(3,aI 0),(zp77 a0),(zp76 a0),(zp75 a0),(zp74 a0)] (je ?_))))
   exact ⟨0,(ahW a0),(ajD a0),(agq a0),(agm a0),.any,hm,(zD hH),rfl⟩
  refine c0 h20 (jd (sq (sq (dn [(zp78 a0),(zp77 a0),(zp76 a0),(zp75 a0),(zp74 a0),(28,aI a0.A),(35,aB (a0.A==6))] ?_))))
  rcases zd hm with ⟨h21,hm⟩|⟨h21,hm⟩
  ·refine c1 h21 (je (sq (sq (sq (dn [(zp78 a0),(zp77 a0),(zp75 a0),(zp74 a0),(55,aB (((sll a0.E).length:Int)==0))] ?_)))))
   rcases zd hm with ⟨h22,hm⟩|⟨h22,hm⟩
   ·refine c1 h22 (sq (dn [ko] (jc ?_)))
    cases hm;exact hJ
   refine c0 h22 (jd (dn [(zp78 a0),(zp77 a0),j9,(zp75 a0),(zp74 a0)] (je ?_)))
   exact ⟨(aho a0),(ahW a0),0,(agq a0),(agm a0),.any,hm,(zD hH),rfl⟩
  refine c0 h21 (jd (sq (sq (dn [(zp78 a0),(zp77 a0),(zp76 a0),(zp75 a0),(zp74 a0),(28,aI a0.A),(37,aB (a0.A==5))] ?_))))
  rcases zd hm with ⟨h23,hm⟩|⟨h23,hm⟩
  ·refine c1 h23 (je (sq (dn [(zp78 a0),(zp77 a0),j9,kf,(zp74 a0)] (je ?_))))
   exact ⟨(aho a0),(ahW a0),0,0,(agm a0),.any,hm,(zD hH),rfl⟩
  refine c0 h23 (jd (sq (dn [(zp78 a0),(zp77 a0),(zp76 a0),(zp75 a0),(zp74 a0),(39,aB (a0.A==7))] ?_)))
  rcases zd hm with ⟨h24,hm⟩|⟨h24,hm⟩
  ·refine c1 h24 (je (sq (sq (sq (dn [(zp78 a0),(zp77 a0),(zp76 a0),(zp75 a0),(57,aB (((sll a0.G).length:Int)==0))] ?_)))))
   rcases zd hm with ⟨h25,hm⟩|⟨h25,hm⟩
   ·refine c1 h25 (sq (dn [ko] (jc ?_)))
    cases hm;exact hJ
   refine c0 h25 (jd (dn [(zp78 a0),(zp77 a0),(zp76 a0),(zp75 a0),kg] (je ?_)))
   exact ⟨(aho a0),(ahW a0),(ajD a0),(agq a0),0,.any,hm,(zD hH),rfl⟩
  refine c0 h24 (jd (je ?_))
  exact ⟨(aho a0),(ahW a0),(ajD a0),(agq a0),(agm a0),aB (a0.A==7),hm,(zD hH),rfl⟩
 refine sq (sq (dn [jA,(zp78 a0),(zp77 a0),(zp76 a0),(zp75 a0),(zp74 a0),(28,aI a0.A),(29,aB (a0.A==3))] ?_))
 rcases zd hm with ⟨h26,hm⟩|⟨h26,hm⟩
 ·refine c1 h26 (jd ?_)
  rcases zd hm with ⟨h27,hm⟩|⟨h27,hm⟩
  ·refine c1 h27 (je ?_)
   exact ⟨(a0.A==3),hm,rfl,rfl⟩
  refine c0 h27 (jd ?_)
  exact ⟨(a0.A==3),hm,rfl,rfl⟩
 refine c0 h26 (dn [jA,(zp78 a0),(zp77 a0),(zp76 a0),(zp75 a0),(zp74 a0),(28,aI a0.A),(29,aB (a0.A==4))] ?_)
 rcases zd hm with ⟨h28,hm⟩|⟨h28,hm⟩
 ·refine c1 h28 (je ?_)
  exact ⟨(a0.A==4),hm,rfl,rfl⟩
 refine c0 h28 (jd ?_)
 exact ⟨(a0.A==4),hm,rfl,rfl⟩
theorem ame {n:Nat}{a0:zf}{r:Bool}(hm:acN n a0=some r):
  call G n 221 [.agg (zc7 a0)] []=some (.ret (aB r),[]):=by
 unfold acN at hm
 obtain ⟨n,rfl,h0⟩:=zp hm
 replace hm:=h0;clear h0
 refine zT 6 [(0,.agg (zc7 a0))] func221 rfl hH (sq (det [jA] [.box (zc7 a0) false] hH (sq (rg (s1 1 [(3,.agg (zc7 a0))] ?_)))))
 obtain ⟨x1,h2,hm⟩:=bs hm
 refine dv 4 (zC hH (afX h2) hH hH hH) hH (fq 2 [(2,aB (!x1))] (jc ?_))
 cases hm;exact hJ
abbrev zp79:Nat×AV:=(1,.pv (.fn 221 [] []))
abbrev zp80 (p0:jl):Nat×AV:=(7,aI ((sll p0).length:Int))
theorem acK {n:Nat}{a0:jl}{r:Int}(hm:qy n a0=some r):
   call G n 213 [.pv (ZN a0),.pv (.fn 221 [] [])] []=some (.ret (aI r),[]):=by
 unfold qy at hm
 obtain ⟨n,rfl,h0⟩:=zp hm
 replace hm:=h0;clear h0
 refine zT 19 [(zp25 a0),zp79] func213 rfl hH (sq (dn [(zp25 a0),zp79] ?_))
 obtain ⟨k3,hk3,hm⟩:=zo hm
 refine mid (fun t H=>(∃ (y1:Int) (y2:Bool),k3 ()=some r∧t=mk 19 [(zp25 a0),zp79,(zp80 a0),(8,aI y1),(9,aB y2)]∧H=[])) ?_ ?_
 ·rintro _ _ ⟨y1,y2,hm,rfl,rfl⟩
  subst hk3
  refine sq (dn [(4,aI (-1))] (jc ?_))
  cases hm;exact hJ
 refine sq (rg (s1 1 [(6,.pv (ZN a0))] (dv 7 (v:=aI (aaB a0)) (zu za a0 t23 hH) hH (fq 1 [(zp25 a0),zp79,(zp80 a0),ke] (bq ?_)))))
 refine ZR (fun mm t H=>(∃ (y5:Int),zO n a0 k3 mm y5=some r∧t=mk 19 [(zp25 a0),zp79,(zp80 a0),(8,aI y5)]∧H=[])) (⟨0,hm,rfl,rfl⟩) ?_ ?_
 ·
   rintro _ _ ⟨y5,hm,_⟩;exact nomatch hm
 rintro m6 _ _ ⟨y5,hm,rfl,rfl⟩
 simp only [zO] at hm
 refine sq (dn [(zp25 a0),zp79,(zp80 a0),(8,aI y5),(9,aB (aai y5 a0))] ?_)
 refine sq ?_
 rcases zd hm with ⟨h,hm⟩|⟨h,hm⟩
 ·refine c1 h (jd (sq (bq (sq (dn [(zp25 a0),zp79,(5,aI y5),(zp80 a0),(8,aI y5)] (sq (rg (s1 3 [(13,aI y5),(12,.pv (ZN a0)),(11,.pv (.fn 221 [] []))] ?_))))))))
  obtain ⟨x8,h9,hm⟩:=bs hm
  refine dv 14 (v:=.pv (.ptr (Z5 x8) 0)) (zS za a0 .i64 t23 t49 h9 (zt x8) rfl hH) hH (s1 1 [(15,.agg (zc9 x8))] ?_)
  obtain ⟨x10,h11,hm⟩:=bs hm
  refine dv 16 (zC hH (ame h11) hH hH hH) hH (fin [(zp25 a0),zp79,(5,aI y5),(zp80 a0),(8,aI y5),(16,aB x10)] rfl hH ?_)
  rcases zd hm with ⟨h,hm⟩|⟨h,hm⟩
  ·refine c1 h (sq (dn [(4,aI y5)] (jc ?_)))
   cases hm;exact hJ
  refine c0 h (jd (dn [(zp25 a0),zp79,(zp80 a0),(zp41 y5)] ?_))
  exact ⟨_,_,Zg [(zp25 a0),zp79,(zp80 a0),(zp41 y5)] [] hH,⟨(zN y5),hm,rfl,rfl⟩⟩
 refine c0 h (je ?_)
 exact ⟨y5,(aai y5 a0),hm,rfl,rfl⟩
theorem abX {n:Nat}{a0:jl}{r:Bool}(hm:ZA n a0=some r):
  call G n 220 [.pv (ZN a0),.pv (.fn 221 [] [])] []=some (.ret (aB r),[]):=by
 unfold ZA at hm
 obtain ⟨n,rfl,h0⟩:=zp hm
 replace hm:=h0;clear h0
 refine zT 9 [(zp25 a0),zp79] func220 rfl hH (sq (dn [(zp25 a0),zp79] (sq (rg (s1 2 [(6,.pv (.fn 221 [] [])),(5,.pv (ZN a0))] ?_)))))
 obtain ⟨x1,h2,hm⟩:=bs hm
 refine dv 7 (zC hH (acK h2) hH hH hH) hH (fq 2 [(4,aB (decide (x1≥0)))] (jc ?_))
 cases hm;exact hJ
theorem amo {n:Nat}{a0:zI}{r:Bool}(hm:adW n a0=some r):
   call G n 222 [.agg (zc5 a0)] []=some (.ret (aB r),[]):=by
 unfold adW at hm
 obtain ⟨n,rfl,h0⟩:=zp hm
 replace hm:=h0;clear h0
 refine zT 17 [(0,.agg (zc5 a0))] func222 rfl hH (sq (det [jA] [.box (zc5 a0) false] hH (sq (rg (s1 4 [(6,aB (ahw a0)),(5,aB (ahw a0)),(4,aI a0.A),jE] ?_)))))
 refine segP (ahw a0) [6,5] (fun b=>[(10,aB (b||(decide (a0.A>4)))),(9,ifA b hY (aB (decide (a0.A>4)))),(8,ifA b hY (aI a0.A)),(7,ifA b hY (.ptr 0 0))]) 4 hH hH hH (s1 1 [(11,aB (as9 a0))] ?_)
 rcases zd hm with ⟨h,hm⟩|⟨h,hm⟩
 ·refine known [11,10] h hH (fq 6 [kK] (jc ?_))
  cases hm;exact hJ
 refine known [11,10] h hH (s1 2 [(13,.agg (zc1 a0)),(12,.ptr 0 1)] ?_)
 obtain ⟨x2,h3,hm⟩:=bs hm
 refine dv 14 (zC hH (afX h3) hH hH hH) hH (fq 3 [(2,aB (!x2))] (jc ?_))
 cases hm;exact hJ
abbrev zp81:Nat×AV:=(1,.pv (.fn 222 [] []))
theorem acY {n:Nat}{a0:jq}{r:Int}(hm:qG n a0=some r):
   call G n 180 [.pv (zk zl a0),.pv (.fn 222 [] [])] []=some (.ret (aI r),[]):=by
 unfold qG at hm
 obtain ⟨n,rfl,h0⟩:=zp hm
 replace hm:=h0;clear h0
 refine zT 19 [(zp46 a0),zp81] func180 rfl hH (sq (dn [(zp46 a0),zp81] ?_))
 obtain ⟨k3,hk3,hm⟩:=zo hm
 refine mid (fun t H=>(∃ (y1:Int) (y2:Bool),k3 ()=some r∧t=mk 19 [(zp46 a0),zp81,(zp48 a0),(8,aI y1),(9,aB y2)]∧H=[])) ?_ ?_
 ·rintro _ _ ⟨y1,y2,hm,rfl,rfl⟩
  subst hk3
  refine sq (dn [(4,aI (-1))] (jc ?_))
  cases hm;exact hJ
 refine sq (rg (s1 1 [(6,.pv (zk zl a0))] (dv 7 (v:=aI ((sll a0).length:Int)) (zu zl a0 t24 hH) hH (fq 1 [(zp46 a0),zp81,(zp48 a0),ke] (bq ?_)))))
 refine ZR (fun mm t H=>(∃ (y5:Int),zR n a0 k3 mm y5=some r∧t=mk 19 [(zp46 a0),zp81,(zp48 a0),(8,aI y5)]∧H=[])) (⟨0,hm,rfl,rfl⟩) ?_ ?_
 ·
   rintro _ _ ⟨y5,hm,_⟩;exact nomatch hm
 rintro m6 _ _ ⟨y5,hm,rfl,rfl⟩
 simp only [zR] at hm
 refine sq (dn [(zp46 a0),zp81,(zp48 a0),(8,aI y5),(9,aB (ahL y5 a0))] ?_)
 refine sq ?_
 rcases zd hm with ⟨h,hm⟩|⟨h,hm⟩
 ·refine c1 h (jd (sq (bq (sq (dn [(zp46 a0),zp81,(5,aI y5),(zp48 a0),(8,aI y5)] (sq (rg (s1 3 [(13,aI y5),(12,.pv (zk zl a0)),(11,.pv (.fn 222 [] []))] ?_))))))))
  obtain ⟨x8,h9,hm⟩:=bs hm
  refine dv 14 (v:=.pv (.ptr (zl x8) 0)) (Zz zl a0 .i64 t24 t101 h9 rfl hH) hH (s1 1 [(15,.agg (zc5 x8))] ?_)
  obtain ⟨x10,h11,hm⟩:=bs hm
  refine dv 16 (zC hH (amo h11) hH hH hH) hH (fin [(zp46 a0),zp81,(5,aI y5),(zp48 a0),(8,aI y5),(16,aB x10)] rfl hH ?_)
  rcases zd hm with ⟨h,hm⟩|⟨h,hm⟩
  ·refine c1 h (sq (dn [(4,aI y5)] (jc ?_)))
   cases hm;exact hJ
  refine c0 h (jd (dn [(zp46 a0),zp81,(zp48 a0),(zp41 y5)] ?_))
  exact ⟨_,_,Zg [(zp46 a0),zp81,(zp48 a0),(zp41 y5)] [] hH,⟨(zN y5),hm,rfl,rfl⟩⟩
 refine c0 h (je ?_)
 exact ⟨y5,(ahL y5 a0),hm,rfl,rfl⟩
theorem ab8 {n:Nat}{a0:jq}{r:Bool}(hm:ZE n a0=some r):
  call G n 139 [.pv (zk zl a0),.pv (.fn 222 [] [])] []=some (.ret (aB r),[]):=by
 unfold ZE at hm
 obtain ⟨n,rfl,h0⟩:=zp hm
 replace hm:=h0;clear h0
 refine zT 9 [(zp46 a0),zp81] func139 rfl hH (sq (dn [(zp46 a0),zp81] (sq (rg (s1 2 [(6,.pv (.fn 222 [] [])),(5,.pv (zk zl a0))] ?_)))))
 obtain ⟨x1,h2,hm⟩:=bs hm
 refine dv 7 (zC hH (acY h2) hH hH hH) hH (fq 2 [(4,aB (decide (x1≥0)))] (jc ?_))
 cases hm;exact hJ
theorem amm {n:Nat}{a0:Zr}{r:Bool}(hm:afu n a0=some r):
  call G n 223 [.agg [aI a0.E,aB a0.S]] []=some (.ret (aB r),[]):=by
 unfold afu at hm
 obtain ⟨n,rfl,h0⟩:=zp hm
 replace hm:=h0;clear h0
 refine zT 11 [(0,.agg [aI a0.E,aB a0.S])] func223 rfl hH (sq (det [jA] [.box [aI a0.E,aB a0.S] false] hH (sq (rg (s1 4 [(6,aB (aix a0)),(5,aB (aix a0)),(4,aI a0.E),jE] ?_)))))
 refine segP (aix a0) [6,5] (fun b=>[(10,aB (b||(decide (a0.E>29)))),(9,ifA b hY (aB (decide (a0.E>29)))),(8,ifA b hY (aI a0.E)),(7,ifA b hY (.ptr 0 0))]) 4 hH hH hH (fq 1 [(2,aB ((decide (a0.E<0))||(decide (a0.E>29))))] (jc ?_))
 cases hm;exact hJ
abbrev zp82:Nat×AV:=(1,.pv (.fn 223 [] []))
theorem acX {n:Nat}{a0:jr}{r:Int}(hm:qH n a0=some r):
   call G n 181 [.pv (zk zx a0),.pv (.fn 223 [] [])] []=some (.ret (aI r),[]):=by
 unfold qH at hm
 obtain ⟨n,rfl,h0⟩:=zp hm
 replace hm:=h0;clear h0
 refine zT 19 [(zp49 a0),zp82] func181 rfl hH (sq (dn [(zp49 a0),zp82] ?_))
 obtain ⟨k3,hk3,hm⟩:=zo hm
 refine mid (fun t H=>(∃ (y1:Int) (y2:Bool),k3 ()=some r∧t=mk 19 [(zp49 a0),zp82,(zp51 a0),(8,aI y1),(9,aB y2)]∧H=[])) ?_ ?_
 ·rintro _ _ ⟨y1,y2,hm,rfl,rfl⟩
  subst hk3
  refine sq (dn [(4,aI (-1))] (jc ?_))
  cases hm;exact hJ
 refine sq (rg (s1 1 [(6,.pv (zk zx a0))] (dv 7 (v:=aI ((sll a0).length:Int)) (zu zx a0 t25 hH) hH (fq 1 [(zp49 a0),zp82,(zp51 a0),ke] (bq ?_)))))
 refine ZR (fun mm t H=>(∃ (y5:Int),zQ n a0 k3 mm y5=some r∧t=mk 19 [(zp49 a0),zp82,(zp51 a0),(8,aI y5)]∧H=[])) (⟨0,hm,rfl,rfl⟩) ?_ ?_
 ·
   rintro _ _ ⟨y5,hm,_⟩;exact nomatch hm
 rintro m6 _ _ ⟨y5,hm,rfl,rfl⟩
 simp only [zQ] at hm
 refine sq (dn [(zp49 a0),zp82,(zp51 a0),(8,aI y5),(9,aB (decide (y5<((sll a0).length:Int))))] ?_)
 refine sq ?_
 rcases zd hm with ⟨h,hm⟩|⟨h,hm⟩
 ·refine c1 h (jd (sq (bq (sq (dn [(zp49 a0),zp82,(5,aI y5),(zp51 a0),(8,aI y5)] (sq (rg (s1 3 [(13,aI y5),(12,.pv (zk zx a0)),(11,.pv (.fn 223 [] []))] ?_))))))))
  obtain ⟨x8,h9,hm⟩:=bs hm
  refine dv 14 (v:=.pv (.ptr (zx x8) 0)) (Zz zx a0 .i64 t25 t86 h9 rfl hH) hH (s1 1 [(15,.agg [aI x8.E,aB x8.S])] ?_)
  obtain ⟨x10,h11,hm⟩:=bs hm
  refine dv 16 (zC hH (amm h11) hH hH hH) hH (fin [(zp49 a0),zp82,(5,aI y5),(zp51 a0),(8,aI y5),(16,aB x10)] rfl hH ?_)
  rcases zd hm with ⟨h,hm⟩|⟨h,hm⟩
  ·refine c1 h (sq (dn [(4,aI y5)] (jc ?_)))
   cases hm;exact hJ
  refine c0 h (jd (dn [(zp49 a0),zp82,(zp51 a0),(zp41 y5)] ?_))
  exact ⟨_,_,Zg [(zp49 a0),zp82,(zp51 a0),(zp41 y5)] [] hH,⟨(zN y5),hm,rfl,rfl⟩⟩
 refine c0 h (je ?_)
 exact ⟨y5,(decide (y5<((sll a0).length:Int))),hm,rfl,rfl⟩
theorem ab7 {n:Nat}{a0:jr}{r:Bool}(hm:ZF n a0=some r):
  call G n 141 [.pv (zk zx a0),.pv (.fn 223 [] [])] []=some (.ret (aB r),[]):=by
 unfold ZF at hm
 obtain ⟨n,rfl,h0⟩:=zp hm
 replace hm:=h0;clear h0
 refine zT 9 [(zp49 a0),zp82] func141 rfl hH (sq (dn [(zp49 a0),zp82] (sq (rg (s1 2 [(6,.pv (.fn 223 [] [])),(5,.pv (zk zx a0))] ?_)))))
 obtain ⟨x1,h2,hm⟩:=bs hm
 refine dv 7 (zC hH (acX h2) hH hH hH) hH (fq 2 [(4,aB (decide (x1≥0)))] (jc ?_))
 cases hm;exact hJ
abbrev aq5 (p0:zh):=([p0.H,p0.J,p0.L,p0.E]:List jl)
abbrev aq8 (p0:zh):=(decide (((sll p0.D).length:Int)>60))
abbrev arz (p0:zh):=(decide (((sll p0.G).length:Int)>60))
theorem aop {n:Nat}{a0:zh}{r:Bool}(hm:afL n a0=some r):
   call G n 176 [.agg (zc2 a0)] []=some (.ret (aB r),[]):=by
 unfold afL at hm
 obtain ⟨n,rfl,h0⟩:=zp hm
 replace hm:=h0;clear h0
 refine zT 63 [(0,.agg (zc2 a0))] func176 rfl hH (sq (det [jA] [.box (zc2 a0) false] hH ?_))
 obtain ⟨k3,hk3,hm⟩:=zo hm
 refine mid (fun t H=>(∃ (y1:Int) (y2:Bool),k3 ()=some r∧t=mk 63 [jA,(13,aR 1 1 4),kl,(15,aI y1),(16,aB y2)]∧H=[.box (zc2 a0) false,bR 23 1 (rSl za) (aq5 a0) 0 0])) ?_ ?_
 ·rintro _ _ ⟨y1,y2,hm,rfl,rfl⟩
  subst hk3
  refine sq (sq (rg (s1 2 [(28,.pv (afp a0)),(27,.ptr 0 6)] (dv 29 (v:=aI (agq a0)) (zu zl a0.D t24 hH) hH (s1 2 [(31,aB (aq8 a0)),(30,aB (aq8 a0))] ?_)))))
  rcases zd hm with ⟨h4,hm⟩|⟨h4,hm⟩
  ·refine known [31,30] h4 hH (fq 4 [jA,(35,aB true)] (cT hH (sq (dn [ko] (jc ?_)))))
   cases hm;exact hJ
  refine known [31,30] h4 hH (s1 2 [(33,.pv (afp a0)),(32,.ptr 0 6)] ?_)
  obtain ⟨x5,h6,hm⟩:=bs hm
  refine dv 34 (zC hH (ab8 h6) hH hH hH) hH (fq 1 [jA,(35,aB x5)] ?_)
  rcases zd hm with ⟨h7,hm⟩|⟨h7,hm⟩
  ·refine c1 h7 (sq (dn [ko] (jc ?_)))
   cases hm;exact hJ
  refine c0 h7 (jd ?_)
  refine sq (sq (rg (s1 2 [(37,.pv (afK a0)),(36,.ptr 0 7)] (dv 38 (v:=aI (agm a0)) (zu zx a0.G t25 hH) hH (s1 2 [(40,aB (arz a0)),(39,aB (arz a0))] ?_)))))
  rcases zd hm with ⟨h8,hm⟩|⟨h8,hm⟩
  ·refine known [40,39] h8 hH (fq 4 [jA,(44,aB true)] (cT hH (sq (dn [ko] (jc ?_)))))
   cases hm;exact hJ
  refine known [40,39] h8 hH (s1 2 [(42,.pv (afK a0)),(41,.ptr 0 7)] ?_)
  obtain ⟨x9,h10,hm⟩:=bs hm
  refine dv 43 (zC hH (ab7 h10) hH hH hH) hH (fq 1 [jA,(44,aB x9)] ?_)
  rcases zd hm with ⟨h11,hm⟩|⟨h11,hm⟩
  ·refine c1 h11 (sq (dn [ko] (jc ?_)))
   cases hm;exact hJ
  refine c0 h11 (jd (sq (rg (s1 4 [(48,aB (decide (a0.C≥0))),(47,aB (decide (a0.C≥0))),(46,aI a0.C),(45,.ptr 0 1)] ?_))))
  refine segP (decide (a0.C≥0)) [48,47] (fun b=>[(52,aB (b&&(decide (a0.C<12)))),(51,ifA b (aB (decide (a0.C<12))) hY),(50,ifA b (aI a0.C) hY),(49,ifA b (.ptr 0 1) hY)]) 4 hH hH hH (s1 1 [(53,aB ((decide (a0.C≥0))&&(decide (a0.C<12))))] ?_)
  refine seg ((decide (a0.C≥0))&&(decide (a0.C<12))) [53,52] (fun b=>[(62,aB (b&&((a0.A==1)||(a0.C==0)))),(61,ifA b (aB ((a0.A==1)||(a0.C==0))) hY),(60,ifA b (ifA (a0.A==1) hY (aB (a0.C==0))) hY),(59,ifA b (ifA (a0.A==1) hY (aI a0.C)) hY),(58,ifA b (ifA (a0.A==1) hY (.ptr 0 1)) hY),(57,ifA b (aB (a0.A==1)) hY),(56,ifA b (aB (a0.A==1)) hY),(55,ifA b (aI a0.A) hY),(54,ifA b (.ptr 0 0) hY)]) 18 hH ?_ ?_ ?_
  ·intro Q h
   refine s1 4 [(57,aB (a0.A==1)),(56,aB (a0.A==1)),(55,aI a0.A),(54,.ptr 0 0)] ?_
   refine segP (a0.A==1) [57,56] (fun b=>[(61,aB (b||(a0.C==0))),(60,ifA b hY (aB (a0.C==0))),(59,ifA b hY (aI a0.C)),(58,ifA b hY (.ptr 0 1))]) 4 hH hH hH (s1 1 [(62,aB ((a0.A==1)||(a0.C==0)))] ?_)
   exact Ze hH hH h
  ·intro Q h
   refine s1 9 [(62,aB false),(61,.undef),(60,.undef),(59,.undef),(58,.undef),(57,.undef),(56,.undef),(55,.undef),(54,.undef)] ?_
   exact Ze hH hH h
  refine fq 1 [(2,aB (((decide (a0.C≥0))&&(decide (a0.C<12)))&&((a0.A==1)||(a0.C==0))))] (jc ?_)
  cases hm;exact hJ
 refine sq (det [jA,(13,aR 1 1 4),kl,(15,aI 0)] [.box (zc2 a0) false,bR 23 1 (rSl za) (aq5 a0) 0 0] hH (bq ?_))
 refine ZR (fun mm t H=>(∃ (y13:Int),Qq n a0 k3 mm y13=some r∧t=mk 63 [jA,(13,aR 1 1 4),kl,(15,aI y13)]∧H=[.box (zc2 a0) false,bR 23 1 (rSl za) ([a0.H,a0.J,a0.L,a0.E]:List jl) 0 0])) (⟨0,hm,rfl,rfl⟩) ?_ ?_
 ·
   rintro _ _ ⟨y13,hm,_⟩;exact nomatch hm
 rintro m14 _ _ ⟨y13,hm,rfl,rfl⟩
 simp only [Qq] at hm
 refine sq (dn [jA,(13,aR 1 1 4),kl,(15,aI y13),(16,aB (decide (y13<4)))] ?_)
 refine sq ?_
 rcases zd hm with ⟨h15,hm⟩|⟨h15,hm⟩
 ·refine c1 h15 (jd (sq (bq (sq (rg ?_)))))
  obtain ⟨x16,h17,hm⟩:=bs hm
  refine dv 17 (v:=.eptr 1 0 4 1 (0+Int.toNat y13) 0) (Q2 (aq5 a0) .i64 (n:=4) (id:=1) (esz:=1) t182 t23 h17 hM rfl hH) hH (dv 18 (v:=.pv (ZN x16)) (abF (rSl za) (aq5 a0) (n:=4) (esz:=1) (j:=y13) (off:=0) (id:=1) t23 rfl h17 hM (Nat.zero_le _) hH hH) hH (fq 1 [jA,(4,.pv (ZN x16)),(13,aR 1 1 4),kl,(15,aI y13)] (sq (rg (s1 1 [(19,.pv (ZN x16))] (dv 20 (v:=aI (aaB x16)) (zu za x16 t23 hH) hH (s1 2 [(22,aB (decide (((sll x16).length:Int)>60))),(21,aB (decide (((sll x16).length:Int)>60)))] ?_)))))))
  rcases zd hm with ⟨h18,hm⟩|⟨h18,hm⟩
  ·refine known [22,21] h18 hH (fq 3 [jA,(13,aR 1 1 4),kl,(15,aI y13),(25,aB true)] (cT hH (sq (dn [ko] (jc ?_)))))
   cases hm;exact hJ
  refine known [22,21] h18 hH (s1 1 [(23,.pv (ZN x16))] ?_)
  obtain ⟨x19,h20,hm⟩:=bs hm
  refine dv 24 (zC hH (abX h20) hH hH hH) hH (fq 1 [jA,(13,aR 1 1 4),kl,(15,aI y13),(25,aB x19)] ?_)
  rcases zd hm with ⟨h21,hm⟩|⟨h21,hm⟩
  ·refine c1 h21 (sq (dn [ko] (jc ?_)))
   cases hm;exact hJ
  refine c0 h21 (jd (dn [jA,(13,aR 1 1 4),kl,(zp56 y13)] ?_))
  exact ⟨_,_,Zg [jA,(13,aR 1 1 4),kl,(zp56 y13)] [.box (zc2 a0) false,bR 23 1 (rSl za) (aq5 a0) 0 0] hH,⟨(zN y13),hm,rfl,rfl⟩⟩
 refine c0 h15 (je ?_)
 exact ⟨y13,(decide (y13<4)),hm,rfl,rfl⟩
abbrev zp83 (p0:zh):Nat×AV:=(37,.pv (zk zA p0.B))
abbrev zp84 (p0:zh):Nat×AV:=(38,aI ((sll p0.B).length:Int))
theorem an6 {rc_plan_count:(Nat→zh→Int→Int→Option (Int))}(ih_plan_count:∀ {n:Nat}{a0:zh}{a1:Int}{a2:Int}{r:Int}(hm:rc_plan_count n a0 a1 a2=some r),call G n 125 [.agg [aI a0.A,aI a0.C,.pv (zk za a0.H),.pv (zk za a0.J),.pv (zk za a0.L),.pv (zk za a0.E),.pv (zk zl a0.D),.pv (zk zx a0.G),.pv (zk zA a0.B)],aI a1,aI a2] []=some (.ret (aI r),[])) {n:Nat}{a0:zh}{a1:Int}{a2:Int}{r:Int}(hm:abx rc_plan_count n a0 a1 a2=some r):
   call G n 125 [.agg (zc2 a0),aI a1,aI a2] []=some (.ret (aI r),[]):=by
 unfold abx at hm
 obtain ⟨n,rfl,h0⟩:=zp hm
 replace hm:=h0;clear h0
 refine zT 52 [(0,.agg (zc2 a0)),(1,aI a1),(2,aI a2)] func125 rfl hH (sq (det [(1,aI a1),(2,aI a2),jE] [.box (zc2 a0) false] hH ?_))
 refine sq (sq (rgd (shd 3 [(11,aB (decide (a1>24))),(10,aB (decide (a1>24))),(9,aI a1)] hH ?_)))
 rcases zd hm with ⟨h,hm⟩|⟨h,hm⟩
 ·refine zM [11,10] h hH (shd 22 [ku,(32,.undef),(31,.undef),(30,.undef),kr,kq,(27,.undef),(26,.undef),(25,.undef),kA,kz,(22,.undef),(21,.undef),(20,.undef),(19,.undef),(18,.undef),(17,.undef),(16,.undef),kJ,(14,aB true),(13,.undef),(12,.undef)] hH (find [(1,aI a1),(2,aI a2),jE,ku] rfl hH hH (cT hH (sq (dn [(6,aI (-1))] (jc ?_))))))
  cases hm;exact hJ
 refine zM [11,10] h hH (shd 4 [(15,aB (decide (a2<1))),(14,aB (decide (a2<1))),(13,aB (decide (a2<1))),(12,aI a2)] hH ?_)
 rcases zd hm with ⟨h,hm⟩|⟨h,hm⟩
 ·refine zM [15,14,13] h hH (shd 18 [ku,(32,.undef),(31,.undef),(30,.undef),kr,kq,(27,.undef),(26,.undef),(25,.undef),kA,kz,(22,.undef),(21,.undef),(20,.undef),(19,.undef),(18,.undef),(17,.undef),(16,.undef)] hH (find [(1,aI a1),(2,aI a2),jE,ku] rfl hH hH (cT hH (sq (dn [(6,aI (-1))] (jc ?_))))))
  cases hm;exact hJ
 refine zM [15,14,13] h hH (shd 2 [(17,aI a0.A),(16,.ptr 0 0)] hH ?_)
 obtain ⟨x3,h4,hm⟩:=bs hm
 refine dvd 18 (zC hH (aqg h4) hH hH hH) hH (shd 2 [(20,.pv (adv a0)),(19,.ptr 0 8)] hH (dvd 21 (v:=aI (ahp a0)) (zu zA a0.B t64 hH) hH (shd 3 [(24,aB (x3 !=((sll a0.B).length:Int))),(23,aB (x3 !=((sll a0.B).length:Int))),(22,aB (x3 !=((sll a0.B).length:Int)))] hH ?_)))
 rcases zd hm with ⟨h,hm⟩|⟨h,hm⟩
 ·refine zM [24,23,22] h hH (shd 9 [ku,(32,.undef),(31,.undef),(30,.undef),kr,kq,(27,.undef),(26,.undef),(25,.undef)] hH (find [(1,aI a1),(2,aI a2),jE,ku] rfl hH hH (cT hH (sq (dn [(6,aI (-1))] (jc ?_))))))
  cases hm;exact hJ
 refine zM [24,23,22] h hH (shd 1 [(25,.agg (zc2 a0))] hH ?_)
 obtain ⟨x6,h7,hm⟩:=bs hm
 refine dvd 26 (zC hH (aoK h7) hH hH hH) hH (shd 3 [(29,aB (!x6)),(28,aB (!x6)),(27,aB (!x6))] hH ?_)
 rcases zd hm with ⟨h,hm⟩|⟨h,hm⟩
 ·refine zM [29,28,27] h hH (shd 4 [ku,(32,.undef),(31,.undef),(30,.undef)] hH (find [(1,aI a1),(2,aI a2),jE,ku] rfl hH hH (cT hH (sq (dn [(6,aI (-1))] (jc ?_))))))
  cases hm;exact hJ
 refine zM [29,28,27] h hH (shd 1 [(30,.agg (zc2 a0))] hH ?_)
 obtain ⟨x9,h10,hm⟩:=bs hm
 refine dvd 31 (zC hH (aop h10) hH hH hH) hH (shd 2 [(33,aB (!x9)),(32,aB (!x9))] hH (find [(1,aI a1),(2,aI a2),jE,(33,aB (!x9))] rfl hH hH ?_))
 rcases zd hm with ⟨h,hm⟩|⟨h,hm⟩
 ·refine c1 h (sq (dn [(6,aI (-1))] (jc ?_)))
  cases hm;exact hJ
 refine c0 h (jd (sq (dn [(1,aI a1),(2,aI (alU a2)),jE] ?_)))
 obtain ⟨k15,hk15,hm⟩:=zo hm
 refine mid (fun t H=>(∃ (y12:Int) (y13:Int) (y14:Bool),k15 y12=some r∧t=mk 52 [(1,aI a1),(2,aI y12),(zp83 a0),(zp84 a0),(39,aI y13),(40,aB y14)]∧H=[.box (zc2 a0) false])) ?_ ?_
 ·rintro _ _ ⟨y12,y13,y14,hm,rfl,rfl⟩
  subst hk15
  refine sq (dn [(6,aI y12)] (jc ?_))
  cases hm;exact hJ
 refine sq (rg (s1 2 [(zp83 a0),(36,.ptr 0 8)] (dv 38 (v:=aI (ahp a0)) (zu zA a0.B t64 hH) hH (fq 1 [(1,aI a1),(2,aI (alU a2)),(zp83 a0),(zp84 a0),(39,aI 0)] (bq ?_)))))
 refine ZR (fun mm t H=>(∃ (y18:Int) (y19:Int),abR n rc_plan_count a0 a1 k15 mm y18 y19=some r∧t=mk 52 [(1,aI a1),(2,aI y18),(zp83 a0),(zp84 a0),(39,aI y19)]∧H=[.box (zc2 a0) false])) (⟨(IntKind.wrap .i64 (a2-1)),0,hm,rfl,rfl⟩) ?_ ?_
 ·
   rintro _ _ ⟨y18,y19,hm,_⟩;exact nomatch hm
 rintro m20 _ _ ⟨y18,y19,hm,rfl,rfl⟩
 simp only [abR] at hm
 refine sq (dn [(1,aI a1),(2,aI y18),(zp83 a0),(zp84 a0),(39,aI y19),(40,aB (afm y19 a0))] ?_)
 refine sq ?_
 rcases zd hm with ⟨h,hm⟩|⟨h,hm⟩
 ·refine c1 h (jd (sq (bq (sq (rg ?_)))))
  obtain ⟨x22,h23,hm⟩:=bs hm
  refine dv 41 (v:=.pv (.ptr (acQ x22) 0)) (zS zA a0.B .i64 t64 t66 h23 (Zd x22) rfl hH) hH (stf 3 [(1,aI a1),(2,aI y18),(8,.ptr 1 0),(zp83 a0),(zp84 a0),(39,aI y19)] [.box (zc2 a0) false,.box (zc3 x22) false] hH (sq (rg (s1 4 [(46,aI y18),(45,aI (zN a1)),(44,aI a1),(43,.agg (zc3 x22))] ?_))))
  obtain ⟨x24,h25,hm⟩:=bs hm
  refine dv 47 (zC hH (ih_plan_count h25) hH hH hH) hH (fq 1 [(1,aI a1),(2,aI x24),(zp83 a0),(zp84 a0),(39,aI y19)] (sq (dn [(1,aI a1),(2,aI x24),(zp83 a0),(zp84 a0),(39,aI y19),(49,aB (decide (x24<0)))] ?_)))
  rcases zd hm with ⟨h,hm⟩|⟨h,hm⟩
  ·refine c1 h (sq (dn [(6,aI (-1))] (jc ?_)))
   cases hm;exact hJ
  refine c0 h (jd (dn [(1,aI a1),(2,aI x24),(zp83 a0),(zp84 a0),(39,aI (zN y19))] ?_))
  exact ⟨_,_,Zg [(1,aI a1),(2,aI x24),(zp83 a0),(zp84 a0),(39,aI (zN y19))] [.box (zc2 a0) false] hH,⟨x24,(zN y19),hm,rfl,rfl⟩⟩
 refine c0 h (je ?_)
 exact ⟨y18,y19,(afm y19 a0),hm,rfl,rfl⟩
theorem aiq:∀ (m:Nat),∀ {n:Nat}{a0:zh}{a1:Int}{a2:Int}{r:Int}(hm:QR m n a0 a1 a2=some r),call G n 125 [.agg (zc2 a0),aI a1,aI a2] []=some (.ret (aI r),[])
 |0=>by intros;rename_i hm;exact nomatch hm
 |m+1=>fun hm=>
  an6 (aiq m) hm
theorem aom {n:Nat}{a0:zh}{a1:Int}{a2:Int}{r:Int}(hm:aka n a0 a1 a2=some r):
 call G n 125 [.agg (zc2 a0),aI a1,aI a2] []=some (.ret (aI r),[]):=aiq n hm
theorem anh {n:Nat}{a0:zh}{r:Bool}(hm:adH n a0=some r):
  call G n 36 [.agg (zc2 a0)] []=some (.ret (aB r),[]):=by
 unfold adH at hm
 obtain ⟨n,rfl,h0⟩:=zp hm
 replace hm:=h0;clear h0
 refine zT 6 [(0,.agg (zc2 a0))] func36 rfl hH (sq (det [jA] [.box (zc2 a0) false] hH (sq (rg (s1 1 [(3,.agg (zc2 a0))] ?_)))))
 obtain ⟨x1,h2,hm⟩:=bs hm
 refine dv 4 (zC hH (aom h2) hH hH hH) hH (fq 2 [(2,aB (decide (x1≥0)))] (jc ?_))
 cases hm;exact hJ
abbrev zp85 (p0:jr):Nat×AV:=(1,.pv (zk zx p0))
abbrev zp86 (p0:jr):Nat×AV:=(12,aI ((sll p0).length:Int))
abbrev zp87 (p0:Int):Nat×AV:=(13,aI (IntKind.wrap .i64 (p0+1)))
theorem ajd {n:Nat}{a0:jr}{a1:jr}{r:Bool}(hm:aba n a0 a1=some r):
   call G n 92 [.pv (zk zx a0),.pv (zk zx a1)] []=some (.ret (aB r),[]):=by
 unfold aba at hm
 obtain ⟨n,rfl,h0⟩:=zp hm
 replace hm:=h0;clear h0
 refine zT 26 [(zp49 a0),(zp85 a1)] func92 rfl hH (sq (dn [(zp49 a0),(zp85 a1)] ?_))
 refine sq (sq (rg (s1 1 [(6,.pv (zk zx a0))] (dv 7 (v:=aI ((sll a0).length:Int)) (zu zx a0 t25 hH) hH (s1 1 [(8,.pv (zk zx a1))] (dv 9 (v:=aI ((sll a1).length:Int)) (zu zx a1 t25 hH) hH (fq 1 [(zp49 a0),(zp85 a1),(10,aB (((sll a0).length:Int)!=((sll a1).length:Int)))] ?_)))))))
 rcases zd hm with ⟨h,hm⟩|⟨h,hm⟩
 ·refine c1 h (sq (dn [kn] (jc ?_)))
  cases hm;exact hJ
 refine c0 h (jd ?_)
 obtain ⟨k4,hk4,hm⟩:=zo hm
 refine mid (fun t H=>(∃ (y2:Int) (y3:Bool),k4 ()=some r∧t=mk 26 [(zp49 a0),(zp85 a1),(zp86 a0),(13,aI y2),(14,aB y3)]∧H=[])) ?_ ?_
 ·rintro _ _ ⟨y2,y3,hm,rfl,rfl⟩
  subst hk4
  refine sq (dn [kx] (jc ?_))
  cases hm;exact hJ
 refine sq (rg (s1 1 [(11,.pv (zk zx a0))] (dv 12 (v:=aI ((sll a0).length:Int)) (zu zx a0 t25 hH) hH (fq 1 [(zp49 a0),(zp85 a1),(zp86 a0),(13,aI 0)] (bq ?_)))))
 refine ZR (fun mm t H=>(∃ (y6:Int),qk n a0 a1 k4 mm y6=some r∧t=mk 26 [(zp49 a0),(zp85 a1),(zp86 a0),(13,aI y6)]∧H=[])) (⟨0,hm,rfl,rfl⟩) ?_ ?_
 ·
   rintro _ _ ⟨y6,hm,_⟩;exact nomatch hm
 rintro m7 _ _ ⟨y6,hm,rfl,rfl⟩
 simp only [qk] at hm
 refine sq (dn [(zp49 a0),(zp85 a1),(zp86 a0),(13,aI y6),(14,aB (decide (y6<((sll a0).length:Int))))] ?_)
 refine sq ?_
 rcases zd hm with ⟨h,hm⟩|⟨h,hm⟩
 ·refine c1 h (jd (sq (bq (sq (dn [(zp49 a0),(zp85 a1),(5,aI y6),(zp86 a0),(13,aI y6)] (sq (rgd (shd 2 [(17,aI y6),(16,.pv (zk zx a0))] hH ?_))))))))
  obtain ⟨x9,h10,hm⟩:=bs hm
  refine dvd 18 (v:=.pv (.ptr (zx x9) 0)) (Zz zx a0 .i64 t25 t86 h10 rfl hH) hH (shd 3 [(21,aI y6),(20,.pv (zk zx a1)),(19,.agg [aI x9.E,aB x9.S])] hH ?_)
  obtain ⟨x11,h12,hm⟩:=bs hm
  refine dvd 22 (v:=.pv (.ptr (zx x11) 0)) (Zz zx a1 .i64 t25 t86 h12 rfl hH) hH (shd 2 [(24,aB (!((x9.E==x11.E)&&((x9.S==x11.S)&&true)))),(23,.agg [aI x11.E,aB x11.S])] hH (find [(zp49 a0),(zp85 a1),(zp86 a0),(13,aI y6),(24,aB (!((x9.E==x11.E)&&((x9.S==x11.S)&&true))))] rfl hH hH ?_))
  rcases zd hm with ⟨h,hm⟩|⟨h,hm⟩
  ·refine c1 h (sq (dn [kn] (jc ?_)))
   cases hm;exact hJ
  refine c0 h (jd (dn [(zp49 a0),(zp85 a1),(zp86 a0),(zp87 y6)] ?_))
  exact ⟨_,_,Zg [(zp49 a0),(zp85 a1),(zp86 a0),(zp87 y6)] [] hH,⟨(zN y6),hm,rfl,rfl⟩⟩
 refine c0 h (je ?_)
 exact ⟨y6,(decide (y6<((sll a0).length:Int))),hm,rfl,rfl⟩
theorem agC {n:Nat}{a0:Nat}{r:Bool}(hm:aev n a0=some r):
  call G n 228 [aF a0] []=some (.ret (aB r),[]):=by
 unfold aev at hm
 obtain ⟨n,rfl,h0⟩:=zp hm
 replace hm:=h0;clear h0
 refine zT 6 [(0,aF a0)] func228 rfl hH (sq (dn [(0,aF a0)] (sq (dn [(2,aB ((FloatKind.format .f64).order a0 a0 !=some .eq))] (jc ?_)))))
 cases hm;exact hJ
abbrev zc12 (p0:zn):List AV:=[aI p0.A,aI p0.K,aF (Int.toNat 9221120237041090561),aS p0.N]
theorem aib {n:Nat}{a0:zn}{r:zn}(hm:adE n a0=some r):
   call G n 189 [.agg (zc6 a0)] []=some (.ret (.agg [aI r.A,aI r.K,aF r.I,aS r.N]),[]):=by
 unfold adE at hm
 obtain ⟨n,rfl,h0⟩:=zp hm
 replace hm:=h0;clear h0
 refine zT 30 [(0,.agg (zc6 a0))] func189 rfl hH (sq (det [jA,jB] [.box (zc6 a0) false,.box [aI 0,aI 0,aF 0,aS ByteArray.empty] false] hH (sq (bq (sq (rg (s1 1 [(4,.agg (zc6 a0))] ?_)))))))
 obtain ⟨x1,h2,hm⟩:=bs hm
 refine dv 5 (zC hH (aiA h2) hH hH hH) hH (fq 2 [jA,jB,(3,aB (!x1))] ?_)
 rcases zd hm with ⟨h,hm⟩|⟨h,hm⟩
 ·refine c1 h (sq (dn [jB] (jc ?_)))
  cases hm;exact hJ
 refine c0 h ?_
 obtain ⟨k5,hk5,hm⟩:=zo hm
 refine mid (fun t H=>(∃ (y4:Bool),k5 y4=some r∧t=mk 30 [jA,jB,(8,aB y4)]∧H=[.box (zc6 a0) false,.box [aI 0,aI 0,aF 0,aS ByteArray.empty] false])) ?_ ?_
 ·rintro _ _ ⟨y4,hm,rfl,rfl⟩
  subst hk5
  rcases zd hm with ⟨h,hm⟩|⟨h,hm⟩
  ·refine c1 h (rg (s1 1 [(17,aF (Int.toNat 9221120237041090561))] (stf 2 [jA,jB] [.box (zc12 a0) false,.box [aI 0,aI 0,aF 0,aS ByteArray.empty] false] hH (sq (det [jB] [.box (zc12 a0) false,.box (zc12 a0) false] hH (jc ?_))))))
   cases hm;exact hJ
  refine c0 h (sq (rg (s1 4 [(23,aB (a0.A==3)),(22,aB (a0.A==3)),(21,aI a0.A),(20,.ptr 0 0)] ?_)))
  refine segP (a0.A==3) [23,22] (fun b=>[(27,aB (b&&(atk a0))),(26,ifA b (aB ((FloatKind.format .f64).order a0.I 0==some .eq)) hY),(25,ifA b (aF a0.I) hY),(24,ifA b (.ptr 0 2) hY)]) 4 hH hH hH (fq 1 [jA,jB,(19,aB ((a0.A==3)&&((FloatKind.format .f64).order a0.I 0==some .eq)))] ?_)
  rcases zd hm with ⟨h,hm⟩|⟨h,hm⟩
  ·refine c1 h (det [jA,jB] [.box [aI a0.A,aI a0.K,aF 0,aS a0.N] false,.box [aI 0,aI 0,aF 0,aS ByteArray.empty] false] hH (sq (det [jB] [.box [aI a0.A,aI a0.K,aF 0,aS a0.N] false,.box [aI a0.A,aI a0.K,aF 0,aS a0.N] false] hH (jc ?_))))
   cases hm;exact hJ
  refine c0 h (jd (sq (det [jB] [.box (zc6 a0) false,.box (zc6 a0) false] hH (jc ?_))))
  cases hm;exact hJ
 refine rg (s1 4 [(12,aB (a0.A==3)),(11,aB (a0.A==3)),(10,aI a0.A),(9,.ptr 0 0)] ?_)
 rcases zd hm with ⟨h,hm⟩|⟨h,hm⟩
 ·refine known [12,11] h hH (s1 2 [(14,aF a0.I),(13,.ptr 0 2)] ?_)
  obtain ⟨x9,h10,hm⟩:=bs hm
  refine dv 15 (zC hH (agC h10) hH hH hH) hH (fq 2 [jA,jB,(8,aB x9)] ?_)
  exact ⟨x9,hm,rfl,rfl⟩
 refine known [12,11] h hH (fq 5 [jA,jB,(8,aB false)] ?_)
 exact ⟨false,hm,rfl,rfl⟩
theorem agU {n:Nat}{a0:Int}{r:Bool}(hm:ac0 n a0=some r):
  call G n 252 [aI a0] []=some (.ret (aB r),[]):=by
 unfold ac0 at hm
 obtain ⟨n,rfl,h0⟩:=zp hm
 replace hm:=h0;clear h0
 refine zT 6 [(0,aI a0)] func252 rfl hH (sq (dn [(0,aI a0)] (sq (dn [(2,aB (a0 !=a0))] (jc ?_)))))
 cases hm;exact hJ
theorem ajV {n:Nat}{a0:Int}{a1:Int}{r:Int}(hm:abC n a0 a1=some r):
   call G n 234 [aI a0,aI a1] []=some (.ret (aI r),[]):=by
 unfold abC at hm
 obtain ⟨n,rfl,h0⟩:=zp hm
 replace hm:=h0;clear h0
 refine zT 20 [(0,aI a0),(1,aI a1)] func234 rfl hH (sq (dn [(0,aI a0),(1,aI a1)] (sq (rg (s1 1 [(7,aI a0)] ?_)))))
 obtain ⟨x1,h2,hm⟩:=bs hm
 refine dv 8 (zC hH (agU h2) hH hH hH) hH (fq 1 [(0,aI a0),(1,aI a1),(5,aB x1)] (sq (rg (s1 1 [(9,aI a1)] ?_))))
 obtain ⟨x3,h4,hm⟩:=bs hm
 refine dv 10 (zC hH (agU h4) hH hH hH) hH (fq 1 [(0,aI a0),(1,aI a1),(5,aB x1),(6,aB x3)] ?_)
 refine sq (sq (dn [(0,aI a0),(1,aI a1),(6,aB x3),(11,aB x1)] ?_))
 rcases zd hm with ⟨h,hm⟩|⟨h,hm⟩
 ·refine c1 h (sq (sq (dn [(12,aB x3)] ?_)))
  rcases zd hm with ⟨h,hm⟩|⟨h,hm⟩
  ·refine c1 h (sq (dn [j8] (jc ?_)))
   cases hm;exact hJ
  refine c0 h (jd (sq (dn [(4,aI (-1))] (jc ?_))))
  cases hm;exact hJ
 refine c0 h (jd ?_)
 refine sq (sq (dn [(0,aI a0),(1,aI a1),(13,aB x3)] ?_))
 rcases zd hm with ⟨h,hm⟩|⟨h,hm⟩
 ·refine c1 h (sq (dn [kb] (jc ?_)))
  cases hm;exact hJ
 refine c0 h (jd (sq (sq (dn [(0,aI a0),(1,aI a1),(16,aB (decide (a0<a1)))] ?_))))
 rcases zd hm with ⟨h,hm⟩|⟨h,hm⟩
 ·refine c1 h (sq (dn [(4,aI (-1))] (jc ?_)))
  cases hm;exact hJ
 refine c0 h (jd (sq (sq (dn [(19,aB (decide (a0>a1)))] ?_))))
 rcases zd hm with ⟨h,hm⟩|⟨h,hm⟩
 ·refine c1 h (sq (dn [kb] (jc ?_)))
  cases hm;exact hJ
 refine c0 h (jd (sq (dn [j8] (jc ?_))))
 cases hm;exact hJ
theorem amp {n:Nat}{a0:Nat}{a1:Nat}{r:Int}(hm:aft n a0 a1=some r):
   call G n 235 [aF a0,aF a1] []=some (.ret (aI r),[]):=by
 unfold aft at hm
 obtain ⟨n,rfl,h0⟩:=zp hm
 replace hm:=h0;clear h0
 refine zT 28 [(0,aF a0),(1,aF a1)] func235 rfl hH (sq (dn [(0,aF a0),(1,aF a1)] (sq (sq (rg (s1 1 [(7,aF a0)] ?_))))))
 obtain ⟨x1,h2,hm⟩:=bs hm
 refine dv 8 (zC hH (agC h2) hH hH hH) hH (s1 1 [(9,aF a1)] ?_)
 obtain ⟨x3,h4,hm⟩:=bs hm
 refine dv 10 (zC hH (agC h4) hH hH hH) hH (fq 2 [(0,aF a0),(1,aF a1),(5,aB x1),(6,aB x3)] (bq ?_))
 refine sq (rg (s1 2 [(13,aB x1),(12,aB x1)] ?_))
 refine segP x1 [13,12,5] (fun b=>[(15,aB (b&&x3)),(14,ifA b (aB x3) hY)]) 2 hH hH hH (fq 1 [(0,aF a0),(1,aF a1),(5,aB x1),(6,aB x3),(11,aB (x1&&x3))] ?_)
 rcases zd hm with ⟨h,hm⟩|⟨h,hm⟩
 ·refine c1 h (sq (dn [j8] (jc ?_)))
  cases hm;exact hJ
 refine c0 h (sq (dn [(0,aF a0),(1,aF a1),(6,aB x3),(16,aB x1)] ?_))
 rcases zd hm with ⟨h,hm⟩|⟨h,hm⟩
 ·refine c1 h (sq (dn [kb] (jc ?_)))
  cases hm;exact hJ
 refine c0 h (sq (dn [(0,aF a0),(1,aF a1),(18,aB x3)] ?_))
 rcases zd hm with ⟨h,hm⟩|⟨h,hm⟩
 ·refine c1 h (sq (dn [(4,aI (-1))] (jc ?_)))
  cases hm;exact hJ
 refine c0 h (sq (dn [(0,aF a0),(1,aF a1),(20,aB ((FloatKind.format .f64).order a0 a1==some .lt))] ?_))
 rcases zd hm with ⟨h,hm⟩|⟨h,hm⟩
 ·refine c1 h (sq (dn [(4,aI (-1))] (jc ?_)))
  cases hm;exact hJ
 refine c0 h (sq (dn [(24,aB ((FloatKind.format .f64).order a0 a1==some .gt))] ?_))
 rcases zd hm with ⟨h,hm⟩|⟨h,hm⟩
 ·refine c1 h (sq (dn [kb] (jc ?_)))
  cases hm;exact hJ
 refine c0 h (jd (sq (dn [j8] (jc ?_))))
 cases hm;exact hJ
theorem afl {n:Nat}{a0:ByteArray}{r:Bool}(hm:aa5 n a0=some r):
  call G n 253 [aS a0] []=some (.ret (aB r),[]):=by
 unfold aa5 at hm
 obtain ⟨n,rfl,h0⟩:=zp hm
 replace hm:=h0;clear h0
 refine zT 6 [(0,aS a0)] func253 rfl hH (sq (dn [(0,aS a0)] (sq (dn [(2,aB (!(sEq a0 a0)))] (jc ?_)))))
 cases hm;exact hJ
theorem ahN {n:Nat}{a0:ByteArray}{a1:ByteArray}{r:Int}(hm:aam n a0 a1=some r):
   call G n 236 [aS a0,aS a1] []=some (.ret (aI r),[]):=by
 unfold aam at hm
 obtain ⟨n,rfl,h0⟩:=zp hm
 replace hm:=h0;clear h0
 refine zT 20 [(0,aS a0),(1,aS a1)] func236 rfl hH (sq (dn [(0,aS a0),(1,aS a1)] (sq (rg (s1 1 [(7,aS a0)] ?_)))))
 obtain ⟨x1,h2,hm⟩:=bs hm
 refine dv 8 (zC hH (afl h2) hH hH hH) hH (fq 1 [(0,aS a0),(1,aS a1),(5,aB x1)] (sq (rg (s1 1 [(9,aS a1)] ?_))))
 obtain ⟨x3,h4,hm⟩:=bs hm
 refine dv 10 (zC hH (afl h4) hH hH hH) hH (fq 1 [(0,aS a0),(1,aS a1),(5,aB x1),(6,aB x3)] ?_)
 refine sq (sq (dn [(0,aS a0),(1,aS a1),(6,aB x3),(11,aB x1)] ?_))
 rcases zd hm with ⟨h,hm⟩|⟨h,hm⟩
 ·refine c1 h (sq (sq (dn [(12,aB x3)] ?_)))
  rcases zd hm with ⟨h,hm⟩|⟨h,hm⟩
  ·refine c1 h (sq (dn [j8] (jc ?_)))
   cases hm;exact hJ
  refine c0 h (jd (sq (dn [(4,aI (-1))] (jc ?_))))
  cases hm;exact hJ
 refine c0 h (jd ?_)
 refine sq (sq (dn [(0,aS a0),(1,aS a1),(13,aB x3)] ?_))
 rcases zd hm with ⟨h,hm⟩|⟨h,hm⟩
 ·refine c1 h (sq (dn [kb] (jc ?_)))
  cases hm;exact hJ
 refine c0 h (jd (sq (sq (dn [(0,aS a0),(1,aS a1),(16,aB (sLt a0 a1))] ?_))))
 rcases zd hm with ⟨h,hm⟩|⟨h,hm⟩
 ·refine c1 h (sq (dn [(4,aI (-1))] (jc ?_)))
  cases hm;exact hJ
 refine c0 h (jd (sq (sq (dn [(19,aB (!(sLt a0 a1||sEq a0 a1)))] ?_))))
 rcases zd hm with ⟨h,hm⟩|⟨h,hm⟩
 ·refine c1 h (sq (dn [kb] (jc ?_)))
  cases hm;exact hJ
 refine c0 h (jd (sq (dn [j8] (jc ?_))))
 cases hm;exact hJ
theorem afS {n:Nat}{a0:Int}{r:Bool}(hm:abM n a0=some r):
  call G n 254 [aI a0] []=some (.ret (aB r),[]):=by
 unfold abM at hm
 obtain ⟨n,rfl,h0⟩:=zp hm
 replace hm:=h0;clear h0
 refine zT 6 [(0,aI a0)] func254 rfl hH (sq (dn [(0,aI a0)] (sq (dn [(2,aB (a0 !=a0))] (jc ?_)))))
 cases hm;exact hJ
theorem aiM {n:Nat}{a0:Int}{a1:Int}{r:Int}(hm:aaI n a0 a1=some r):
   call G n 237 [aI a0,aI a1] []=some (.ret (aI r),[]):=by
 unfold aaI at hm
 obtain ⟨n,rfl,h0⟩:=zp hm
 replace hm:=h0;clear h0
 refine zT 20 [(0,aI a0),(1,aI a1)] func237 rfl hH (sq (dn [(0,aI a0),(1,aI a1)] (sq (rg (s1 1 [(7,aI a0)] ?_)))))
 obtain ⟨x1,h2,hm⟩:=bs hm
 refine dv 8 (zC hH (afS h2) hH hH hH) hH (fq 1 [(0,aI a0),(1,aI a1),(5,aB x1)] (sq (rg (s1 1 [(9,aI a1)] ?_))))
 obtain ⟨x3,h4,hm⟩:=bs hm
 refine dv 10 (zC hH (afS h4) hH hH hH) hH (fq 1 [(0,aI a0),(1,aI a1),(5,aB x1),(6,aB x3)] ?_)
 refine sq (sq (dn [(0,aI a0),(1,aI a1),(6,aB x3),(11,aB x1)] ?_))
 rcases zd hm with ⟨h,hm⟩|⟨h,hm⟩
 ·refine c1 h (sq (sq (dn [(12,aB x3)] ?_)))
  rcases zd hm with ⟨h,hm⟩|⟨h,hm⟩
  ·refine c1 h (sq (dn [j8] (jc ?_)))
   cases hm;exact hJ
  refine c0 h (jd (sq (dn [(4,aI (-1))] (jc ?_))))
  cases hm;exact hJ
 refine c0 h (jd ?_)
 refine sq (sq (dn [(0,aI a0),(1,aI a1),(13,aB x3)] ?_))
 rcases zd hm with ⟨h,hm⟩|⟨h,hm⟩
 ·refine c1 h (sq (dn [kb] (jc ?_)))
  cases hm;exact hJ
 refine c0 h (jd (sq (sq (dn [(0,aI a0),(1,aI a1),(16,aB (decide (a0<a1)))] ?_))))
 rcases zd hm with ⟨h,hm⟩|⟨h,hm⟩
 ·refine c1 h (sq (dn [(4,aI (-1))] (jc ?_)))
  cases hm;exact hJ
 refine c0 h (jd (sq (sq (dn [(19,aB (decide (a0>a1)))] ?_))))
 rcases zd hm with ⟨h,hm⟩|⟨h,hm⟩
 ·refine c1 h (sq (dn [kb] (jc ?_)))
  cases hm;exact hJ
 refine c0 h (jd (sq (dn [j8] (jc ?_))))
 cases hm;exact hJ
theorem aqF {n:Nat}{a0:zn}{a1:zn}{r:Int}(hm:agM n a0 a1=some r):
   call G n 195 [.agg (zc6 a0),.agg (zc6 a1)] []=some (.ret (aI r),[]):=by
 unfold agM at hm
 obtain ⟨n,rfl,h0⟩:=zp hm
 replace hm:=h0;clear h0
 refine zT 40 [(0,.agg (zc6 a0)),(1,.agg (zc6 a1))] func195 rfl hH (sq (det [jz,jC] [.box (zc6 a0) false,.box (zc6 a1) false] hH (sq (rgd (shd 1 [(5,.agg (zc6 a0))] hH ?_)))))
 obtain ⟨x1,h2,hm⟩:=bs hm
 refine dvd 6 (zC hH (aib h2) hH hH hH) hH (shd 1 [(7,.agg (zc6 a1))] hH ?_)
 obtain ⟨x3,h4,hm⟩:=bs hm
 refine dvd 8 (zC hH (aib h4) hH hH hH) hH (std 2 [] [.box (zc6 x1) false,.box (zc6 x3) false] hH (find [jz,jC] rfl hH hH ?_))
 refine sq (sq (dn [jz,jC,(13,aB (x1.A !=x3.A))] ?_))
 rcases zd hm with ⟨h,hm⟩|⟨h,hm⟩
 ·refine c1 h (sq (rg (s1 4 [(17,aI x3.A),(16,.ptr 1 0),(15,aI x1.A),(14,.ptr 0 0)] ?_)))
  obtain ⟨x6,h7,hm⟩:=bs hm
  refine dv 18 (zC hH (ajV h7) hH hH hH) hH (fq 1 [(4,aI x6)] (jc ?_))
  cases hm;exact hJ
 refine c0 h (jd (sq (sq (dn [jz,jC,(20,aI x1.A)] (bq (sq (dn [jz,jC,(20,aI x1.A),(21,aB (x1.A==3))] ?_)))))))
 rcases zd hm with ⟨h,hm⟩|⟨h,hm⟩
 ·refine c1 h (sq (rg (s1 4 [(26,aF x3.I),(25,.ptr 1 2),(24,aF x1.I),(23,.ptr 0 2)] ?_)))
  obtain ⟨x9,h10,hm⟩:=bs hm
  refine dv 27 (zC hH (amp h10) hH hH hH) hH (fq 1 [(4,aI x9)] (jc ?_))
  cases hm;exact hJ
 refine c0 h (sq (dn [jz,jC,(28,aB (x1.A==4))] ?_))
 rcases zd hm with ⟨h,hm⟩|⟨h,hm⟩
 ·refine c1 h (sq (rg (s1 4 [(33,aS x3.N),(32,.ptr 1 3),(31,aS x1.N),(30,.ptr 0 3)] ?_)))
  obtain ⟨x12,h13,hm⟩:=bs hm
  refine dv 34 (zC hH (ahN h13) hH hH hH) hH (fq 1 [(4,aI x12)] (jc ?_))
  cases hm;exact hJ
 refine c0 h (jd (sq (rg (s1 4 [(38,aI x3.K),(37,.ptr 1 1),(36,aI x1.K),(35,.ptr 0 1)] ?_))))
 obtain ⟨x14,h15,hm⟩:=bs hm
 refine dv 39 (zC hH (aiM h15) hH hH hH) hH (fq 1 [(4,aI x14)] (jc ?_))
 cases hm;exact hJ
theorem aoq {n:Nat}{a0:zn}{a1:zn}{r:Bool}(hm:afM n a0 a1=some r):
  call G n 155 [.agg (zc6 a0),.agg (zc6 a1)] []=some (.ret (aB r),[]):=by
 unfold afM at hm
 obtain ⟨n,rfl,h0⟩:=zp hm
 replace hm:=h0;clear h0
 refine zT 9 [(0,.agg (zc6 a0)),(1,.agg (zc6 a1))] func155 rfl hH (sq (det [jz,jC] [.box (zc6 a0) false,.box (zc6 a1) false] hH (sq (rg (s1 2 [(6,.agg (zc6 a1)),(5,.agg (zc6 a0))] ?_)))))
 obtain ⟨x1,h2,hm⟩:=bs hm
 refine dv 7 (zC hH (aqF h2) hH hH hH) hH (fq 2 [(4,aB (x1==0))] (jc ?_))
 cases hm;exact hJ
theorem ad4 {rc_slices_EqualFunc_Expr_expr_Same:(Nat→jl→jl→Option (Bool))}(ih_slices_EqualFunc_Expr_expr_Same:∀ {n:Nat}{a0:jl}{a1:jl}{r:Bool}(hm:rc_slices_EqualFunc_Expr_expr_Same n a0 a1=some r),call G n 90 [.pv (zk za a0),.pv (zk za a1),.pv (.fn 88 [] [])] []=some (.ret (aB r),[])) {n:Nat}{a0:zf}{a1:zf}{r:Bool}(hm:qZ rc_slices_EqualFunc_Expr_expr_Same n a0 a1=some r):
   call G n 88 [.agg (zc7 a0),.agg (zc7 a1)] []=some (.ret (aB r),[]):=by
 unfold qZ at hm
 obtain ⟨n,rfl,h0⟩:=zp hm
 replace hm:=h0;clear h0
 refine zT 47 [(0,.agg (zc7 a0)),(1,.agg (zc7 a1))] func88 rfl hH (sq (det [jz,jC] [.box (zc7 a0) false,.box (zc7 a1) false] hH (sq (rg (s1 6 [(10,aB (a0.A==a1.A)),(9,aB (a0.A==a1.A)),(8,aI a1.A),(7,.ptr 1 0),(6,aI a0.A),jT] ?_)))))
 refine segP (a0.A==a1.A) [10,9] (fun b=>[(16,aB (b&&(a0.C==a1.C))),(15,ifA b (aB (a0.C==a1.C)) hY),(14,ifA b (aI a1.C) hY),(13,ifA b (.ptr 1 1) hY),(12,ifA b (aI a0.C) hY),(11,ifA b (.ptr 0 1) hY)]) 6 hH hH hH (s1 1 [(17,aB ((a0.A==a1.A)&&(a0.C==a1.C)))] ?_)
 refine segP ((a0.A==a1.A)&&(a0.C==a1.C)) [17,16] (fun b=>[(23,aB (b&&(a0.M==a1.M))),(22,ifA b (aB (a0.M==a1.M)) hY),(21,ifA b (aI a1.M) hY),(20,ifA b (.ptr 1 2) hY),(19,ifA b (aI a0.M) hY),(18,ifA b (.ptr 0 2) hY)]) 6 hH hH hH (s1 1 [(24,aB (((a0.A==a1.A)&&(a0.C==a1.C))&&(a0.M==a1.M)))] ?_)
 refine segP (((a0.A==a1.A)&&(a0.C==a1.C))&&(a0.M==a1.M)) [24,23] (fun b=>[(32,aB (b&&(a0.F.A==a1.F.A))),(31,ifA b (aB (a0.F.A==a1.F.A)) hY),(30,ifA b (aI a1.F.A) hY),(29,ifA b (.ptr 1 3) hY),(28,ifA b (.ptr 1 3) hY),(27,ifA b (aI a0.F.A) hY),(26,ifA b (.ptr 0 3) hY),(25,ifA b (.ptr 0 3) hY)]) 8 hH hH hH (s1 1 [(33,aB ((((a0.A==a1.A)&&(a0.C==a1.C))&&(a0.M==a1.M))&&(a0.F.A==a1.F.A)))] ?_)
 rcases zd hm with ⟨h,hm⟩|⟨h,hm⟩
 ·refine known [33,32] h hH (s1 4 [(37,.agg (zc8 a1)),(36,.ptr 1 3),(35,.agg (zc8 a0)),(34,.ptr 0 3)] ?_)
  obtain ⟨x2,h3,hm⟩:=bs hm
  refine dv 38 (zC hH (aoq h3) hH hH hH) hH (s1 2 [(40,aB x2),(39,aB x2)] ?_)
  rcases zd hm with ⟨h,hm⟩|⟨h,hm⟩
  ·refine known [40,39,38] h hH (s1 4 [(44,.pv (abb a1)),(43,.ptr 1 7),(42,.pv (abb a0)),(41,.ptr 0 7)] ?_)
   obtain ⟨x5,h6,hm⟩:=bs hm
   refine dv 45 (zC hH (ih_slices_EqualFunc_Expr_expr_Same h6) hH hH hH) hH (fq 2 [(4,aB x5)] (jc ?_))
   cases hm;exact hJ
  refine known [40,39,38] h hH (fq 7 [kn] (jc ?_))
  cases hm;exact hJ
 refine known [33,32] h hH (fq 14 [kn] (jc ?_))
 cases hm;exact hJ
abbrev zp88 (p0:jl):Nat×AV:=(1,.pv (zk za p0))
abbrev zp89:Nat×AV:=(2,.pv (.fn 88 [] []))
abbrev zp90 (p0:jl):Nat×AV:=(15,.pv (zk za p0))
abbrev zp91 (p0:jl):Nat×AV:=(16,aI ((sll p0).length:Int))
theorem ac9 {rc_slices_EqualFunc_Expr_expr_Same:(Nat→jl→jl→Option (Bool))}(ih_slices_EqualFunc_Expr_expr_Same:∀ {n:Nat}{a0:jl}{a1:jl}{r:Bool}(hm:rc_slices_EqualFunc_Expr_expr_Same n a0 a1=some r),call G n 90 [.pv (zk za a0),.pv (zk za a1),.pv (.fn 88 [] [])] []=some (.ret (aB r),[])) {n:Nat}{a0:jl}{a1:jl}{r:Bool}(hm:Z4 rc_slices_EqualFunc_Expr_expr_Same n a0 a1=some r):
   call G n 90 [.pv (ZN a0),.pv (ZN a1),.pv (.fn 88 [] [])] []=some (.ret (aB r),[]):=by
 unfold Z4 at hm
 obtain ⟨n,rfl,h0⟩:=zp hm
 replace hm:=h0;clear h0
 refine zT 32 [(zp25 a0),(zp88 a1),zp89] func90 rfl hH (sq (dn [(zp25 a0),(zp88 a1),zp89] ?_))
 refine sq (sq (rg (s1 1 [(10,.pv (ZN a0))] (dv 11 (v:=aI (aaB a0)) (zu za a0 t23 hH) hH (s1 1 [(12,.pv (ZN a1))] (dv 13 (v:=aI (aaB a1)) (zu za a1 t23 hH) hH (fq 1 [(zp25 a0),(zp88 a1),zp89,(14,aB (((sll a0).length:Int)!=((sll a1).length:Int)))] ?_)))))))
 rcases zd hm with ⟨h,hm⟩|⟨h,hm⟩
 ·refine c1 h (sq (dn [kE] (jc ?_)))
  cases hm;exact hJ
 refine c0 h (jd ?_)
 obtain ⟨k4,hk4,hm⟩:=zo hm
 refine mid (fun t H=>(∃ (y2:Int) (y3:Bool),k4 ()=some r∧t=mk 32 [(zp88 a1),zp89,(zp90 a0),(zp91 a0),(17,aI y2),(18,aB y3)]∧H=[])) ?_ ?_
 ·rintro _ _ ⟨y2,y3,hm,rfl,rfl⟩
  subst hk4
  refine sq (dn [kF] (jc ?_))
  cases hm;exact hJ
 refine sq (rg (s1 1 [(zp90 a0)] (dv 16 (v:=aI (aaB a0)) (zu za a0 t23 hH) hH (fq 1 [(zp88 a1),zp89,(zp90 a0),(zp91 a0),(17,aI 0)] (bq ?_)))))
 refine ZR (fun mm t H=>(∃ (y6:Int),zY n rc_slices_EqualFunc_Expr_expr_Same a0 a1 k4 mm y6=some r∧t=mk 32 [(zp88 a1),zp89,(zp90 a0),(zp91 a0),(17,aI y6)]∧H=[])) (⟨0,hm,rfl,rfl⟩) ?_ ?_
 ·
   rintro _ _ ⟨y6,hm,_⟩;exact nomatch hm
 rintro m7 _ _ ⟨y6,hm,rfl,rfl⟩
 simp only [zY] at hm
 refine sq (dn [(zp88 a1),zp89,(zp90 a0),(zp91 a0),(17,aI y6),(18,aB (aai y6 a0))] ?_)
 refine sq ?_
 rcases zd hm with ⟨h,hm⟩|⟨h,hm⟩
 ·refine c1 h (jd (sq (bq (sq (rg (s1 1 [(19,aI y6)] ?_))))))
  obtain ⟨x9,h10,hm⟩:=bs hm
  refine dv 20 (v:=.pv (.ptr (Z5 x9) 0)) (zS za a0 .i64 t23 t49 h10 (zt x9) rfl hH) hH (stf 4 [(zp88 a1),zp89,(7,aI y6),jO,(zp90 a0),(zp91 a0),(17,aI y6)] [.box (zc9 x9) false] hH (sq (rg (s1 2 [(23,aI y6),(22,.pv (ZN a1))] ?_))))
  obtain ⟨x11,h12,hm⟩:=bs hm
  refine dv 24 (v:=.pv (.ptr (Z5 x11) 0)) (zS za a1 .i64 t23 t49 h12 (zt x11) rfl hH) hH (stf 3 [(zp88 a1),zp89,jO,(9,.ptr 1 0),(zp90 a0),(zp91 a0),(17,aI y6)] [.box (zc9 x9) false,.box (zc9 x11) false] hH (sq (rg (s1 3 [(28,.agg (zc9 x11)),(27,.agg (zc9 x9)),(26,.pv (.fn 88 [] []))] ?_))))
  obtain ⟨x13,h14,hm⟩:=bs hm
  refine dv 29 (zC hH (ad4 ih_slices_EqualFunc_Expr_expr_Same h14) hH hH hH) hH (fq 1 [(zp88 a1),zp89,(zp90 a0),(zp91 a0),(17,aI y6),(30,aB (!x13))] ?_)
  rcases zd hm with ⟨h,hm⟩|⟨h,hm⟩
  ·refine c1 h (sq (dn [kE] (jc ?_)))
   cases hm;exact hJ
  refine c0 h (jd (dn [(zp88 a1),zp89,(zp90 a0),(zp91 a0),(zp36 y6)] ?_))
  exact ⟨_,_,Zg [(zp88 a1),zp89,(zp90 a0),(zp91 a0),(zp36 y6)] [] hH,⟨(zN y6),hm,rfl,rfl⟩⟩
 refine c0 h (je ?_)
 exact ⟨y6,(aai y6 a0),hm,rfl,rfl⟩
theorem aaf:∀ (m:Nat),∀ {n:Nat}{a0:jl}{a1:jl}{r:Bool}(hm:Zl m n a0 a1=some r),call G n 90 [.pv (zk za a0),.pv (zk za a1),.pv (.fn 88 [] [])] []=some (.ret (aB r),[])
 |0=>by intros;rename_i hm;exact nomatch hm
 |m+1=>fun hm=>
  ac9 (aaf m) hm
theorem Z0 {n:Nat}{a0:jl}{a1:jl}{r:Bool}(hm:zP n a0 a1=some r):
 call G n 90 [.pv (ZN a0),.pv (ZN a1),.pv (.fn 88 [] [])] []=some (.ret (aB r),[]):=aaf n hm
theorem aqb {n:Nat}{a0:zI}{a1:zI}{r:Bool}(hm:ai7 n a0 a1=some r):
   call G n 128 [.agg (zc5 a0),.agg (zc5 a1)] []=some (.ret (aB r),[]):=by
 unfold ai7 at hm
 obtain ⟨n,rfl,h0⟩:=zp hm
 replace hm:=h0;clear h0
 refine zT 17 [(0,.agg (zc5 a0)),(1,.agg (zc5 a1))] func128 rfl hH (sq (det [jz,jC] [.box (zc5 a0) false,.box (zc5 a1) false] hH (sq (rg (s1 6 [(10,aB (a0.A==a1.A)),(9,aB (a0.A==a1.A)),(8,aI a1.A),(7,.ptr 1 0),(6,aI a0.A),jT] ?_)))))
 rcases zd hm with ⟨h1,hm⟩|⟨h1,hm⟩
 ·refine known [10,9] h1 hH (s1 4 [(14,.agg (zc1 a1)),(13,.ptr 1 1),(12,.agg (zc1 a0)),(11,.ptr 0 1)] ?_)
  obtain ⟨x2,h3,hm⟩:=bs hm
  refine dv 15 (zC hH (ad4 (fun h=>Z0 h) h3) hH hH hH) hH (fq 2 [(4,aB x2)] (jc ?_))
  cases hm;exact hJ
 refine known [10,9] h1 hH (fq 7 [kn] (jc ?_))
 cases hm;exact hJ
abbrev zp92 (p0:jq):Nat×AV:=(1,.pv (zk zl p0))
abbrev zp93:Nat×AV:=(2,.pv (.fn 128 [] []))
abbrev zp94 (p0:jq):Nat×AV:=(15,.pv (zk zl p0))
abbrev zp95 (p0:jq):Nat×AV:=(16,aI ((sll p0).length:Int))
theorem adM {n:Nat}{a0:jq}{a1:jq}{r:Bool}(hm:ZK n a0 a1=some r):
   call G n 91 [.pv (zk zl a0),.pv (zk zl a1),.pv (.fn 128 [] [])] []=some (.ret (aB r),[]):=by
 unfold ZK at hm
 obtain ⟨n,rfl,h0⟩:=zp hm
 replace hm:=h0;clear h0
 refine zT 32 [(zp46 a0),(zp92 a1),zp93] func91 rfl hH (sq (dn [(zp46 a0),(zp92 a1),zp93] ?_))
 refine sq (sq (rg (s1 1 [(10,.pv (zk zl a0))] (dv 11 (v:=aI ((sll a0).length:Int)) (zu zl a0 t24 hH) hH (s1 1 [(12,.pv (zk zl a1))] (dv 13 (v:=aI ((sll a1).length:Int)) (zu zl a1 t24 hH) hH (fq 1 [(zp46 a0),(zp92 a1),zp93,(14,aB (((sll a0).length:Int)!=((sll a1).length:Int)))] ?_)))))))
 rcases zd hm with ⟨h,hm⟩|⟨h,hm⟩
 ·refine c1 h (sq (dn [kE] (jc ?_)))
  cases hm;exact hJ
 refine c0 h (jd ?_)
 obtain ⟨k4,hk4,hm⟩:=zo hm
 refine mid (fun t H=>(∃ (y2:Int) (y3:Bool),k4 ()=some r∧t=mk 32 [(zp92 a1),zp93,(zp94 a0),(zp95 a0),(17,aI y2),(18,aB y3)]∧H=[])) ?_ ?_
 ·rintro _ _ ⟨y2,y3,hm,rfl,rfl⟩
  subst hk4
  refine sq (dn [kF] (jc ?_))
  cases hm;exact hJ
 refine sq (rg (s1 1 [(zp94 a0)] (dv 16 (v:=aI ((sll a0).length:Int)) (zu zl a0 t24 hH) hH (fq 1 [(zp92 a1),zp93,(zp94 a0),(zp95 a0),(17,aI 0)] (bq ?_)))))
 refine ZR (fun mm t H=>(∃ (y6:Int),Zc n a0 a1 k4 mm y6=some r∧t=mk 32 [(zp92 a1),zp93,(zp94 a0),(zp95 a0),(17,aI y6)]∧H=[])) (⟨0,hm,rfl,rfl⟩) ?_ ?_
 ·
   rintro _ _ ⟨y6,hm,_⟩;exact nomatch hm
 rintro m7 _ _ ⟨y6,hm,rfl,rfl⟩
 simp only [Zc] at hm
 refine sq (dn [(zp92 a1),zp93,(zp94 a0),(zp95 a0),(17,aI y6),(18,aB (ahL y6 a0))] ?_)
 refine sq ?_
 rcases zd hm with ⟨h,hm⟩|⟨h,hm⟩
 ·refine c1 h (jd (sq (bq (sq (rg (s1 1 [(19,aI y6)] ?_))))))
  obtain ⟨x9,h10,hm⟩:=bs hm
  refine dv 20 (v:=.pv (.ptr (zl x9) 0)) (Zz zl a0 .i64 t24 t101 h10 rfl hH) hH (stf 4 [(zp92 a1),zp93,(7,aI y6),jO,(zp94 a0),(zp95 a0),(17,aI y6)] [.box (zc5 x9) false] hH (sq (rg (s1 2 [(23,aI y6),(22,.pv (zk zl a1))] ?_))))
  obtain ⟨x11,h12,hm⟩:=bs hm
  refine dv 24 (v:=.pv (.ptr (zl x11) 0)) (Zz zl a1 .i64 t24 t101 h12 rfl hH) hH (stf 3 [(zp92 a1),zp93,jO,(9,.ptr 1 0),(zp94 a0),(zp95 a0),(17,aI y6)] [.box (zc5 x9) false,.box (zc5 x11) false] hH (sq (rg (s1 3 [(28,.agg (zc5 x11)),(27,.agg (zc5 x9)),(26,.pv (.fn 128 [] []))] ?_))))
  obtain ⟨x13,h14,hm⟩:=bs hm
  refine dv 29 (zC hH (aqb h14) hH hH hH) hH (fq 1 [(zp92 a1),zp93,(zp94 a0),(zp95 a0),(17,aI y6),(30,aB (!x13))] ?_)
  rcases zd hm with ⟨h,hm⟩|⟨h,hm⟩
  ·refine c1 h (sq (dn [kE] (jc ?_)))
   cases hm;exact hJ
  refine c0 h (jd (dn [(zp92 a1),zp93,(zp94 a0),(zp95 a0),(zp36 y6)] ?_))
  exact ⟨_,_,Zg [(zp92 a1),zp93,(zp94 a0),(zp95 a0),(zp36 y6)] [] hH,⟨(zN y6),hm,rfl,rfl⟩⟩
 refine c0 h (je ?_)
 exact ⟨y6,(ahL y6 a0),hm,rfl,rfl⟩
abbrev avk (p0:zh):=(((p0.A==1)&&(decide (p0.C≥0)))&&(decide (p0.C<32)))
abbrev aqS (p0:zh):=(iShl .u32 1 (IntKind.wrap .u64 p0.C))
abbrev ath (p0:Int) (p1:zh):=(iOr .u32 p0 (iShl .u32 1 (IntKind.wrap .u64 p1.C)))
theorem anO {n:Nat}{a0:Int}{a1:zh}{r:Int}(hm:abk n a0 a1=some r):
   ∃ vv H1,call G n 127 [.agg (zc2 a1),.ptr 0 0] [.box [.pv (.int .u32 a0)] false]=some (.ret vv,H1)∧(match (generalizing:=false) r with|r0=>(vv=.tup []∧H1=[.box [.pv (.int .u32 r0)] false])):=by
 unfold abk at hm
 obtain ⟨n,rfl,h0⟩:=zp hm
 replace hm:=h0;clear h0
 refine QM 22 [(0,.agg (zc2 a1)),jA] func127 rfl hH (sq (det [jA,jB] [.box [.pv (.int .u32 a0)] false,.box (zc2 a1) false] hH ?_))
 refine sq (rg (s1 4 [(6,aB (a1.A==1)),(5,aB (a1.A==1)),(4,aI a1.A),jC] ?_))
 refine segP (a1.A==1) [6,5] (fun b=>[(10,aB (b&&(decide (a1.C≥0)))),(9,ifA b (aB (decide (a1.C≥0))) hY),(8,ifA b (aI a1.C) hY),(7,ifA b (.ptr 1 1) hY)]) 4 hH hH hH (s1 1 [(11,aB ((a1.A==1)&&(decide (a1.C≥0))))] ?_)
 refine segP ((a1.A==1)&&(decide (a1.C≥0))) [11,10] (fun b=>[(15,aB (b&&(decide (a1.C<32)))),(14,ifA b (aB (decide (a1.C<32))) hY),(13,ifA b (aI a1.C) hY),(12,ifA b (.ptr 1 1) hY)]) 4 hH hH hH (fin [jA,jB,(15,aB (avk a1))] rfl hH ?_)
 rcases zd hm with ⟨h,hm⟩|⟨h,hm⟩
 ·refine c1 h (rg (s1 4 [(19,aU (IntKind.wrap .u64 a1.C)),(18,aI a1.C),(17,.ptr 1 1),(16,.pv (.int .u32 a0))] ?_))
  obtain ⟨_,h2,hm⟩:=bs hm
  refine dv 20 (v:=.pv (.int .u32 (aqS a1))) (shlO h2 hH) hH (stf 2 [] [.box [.pv (.int .u32 (ath a0 a1))] false,.box (zc2 a1) false] hH ?_)
  obtain rfl:=jf hm
  exact ⟨trivial,.tup [],[.box [.pv (.int .u32 (ath a0 a1))] false],hH,rfl,rfl⟩
 refine c0 h (jd ?_)
 obtain rfl:=jf hm
 exact ⟨trivial,.tup [],[.box [.pv (.int .u32 a0)] false],hH,rfl,rfl⟩
abbrev zp96:Nat×AV:=(1,kV)
abbrev zp97 (p0:zh):Nat×AV:=(7,.pv (zk zA p0.B))
abbrev zp98 (p0:zh):Nat×AV:=(8,aI ((sll p0.B).length:Int))
abbrev zp99 (p0:Int) (p1:zh):Nat×AV:=(10,aB (decide (p0<((sll p1.B).length:Int))))
abbrev aen (p0:Int):Nat×AV:=(9,aI (IntKind.wrap .i64 (p0+1)))
theorem af6 {rc_plan_walk_plan_Rels_1:(Nat→Int→zh→Option (Int))}(ih_plan_walk_plan_Rels_1:∀ {n:Nat}{a0:Int}{a1:zh}{r:Int}(hm:rc_plan_walk_plan_Rels_1 n a0 a1=some r),∃ vv H1,call G n 123 [.agg [aI a1.A,aI a1.C,.pv (zk za a1.H),.pv (zk za a1.J),.pv (zk za a1.L),.pv (zk za a1.E),.pv (zk zl a1.D),.pv (zk zx a1.G),.pv (zk zA a1.B)],kV] [.box [.pv (.int .u32 a0)] false]=some (.ret vv,H1)∧(match (generalizing:=false) r with|r0=>(vv=.tup []∧H1=[.box [.pv (.int .u32 r0)] false]))) {n:Nat}{a0:Int}{a1:zh}{r:Int}(hm:Ql rc_plan_walk_plan_Rels_1 n a0 a1=some r):
   ∃ vv H1,call G n 123 [.agg (zc2 a1),kV] [.box [.pv (.int .u32 a0)] false]=some (.ret vv,H1)∧(match (generalizing:=false) r with|r0=>(vv=.tup []∧H1=[.box [.pv (.int .u32 r0)] false])):=by
 unfold Ql at hm
 obtain ⟨n,rfl,h0⟩:=zp hm
 replace hm:=h0;clear h0
 refine QM 20 [(0,.agg (zc2 a1)),zp96] func123 rfl hH (sq (det [zp96,jB] [.box [.pv (.int .u32 a0)] false,.box (zc2 a1) false] hH ?_))
 obtain ⟨k4,hk4,hm⟩:=zo hm
 refine mid (fun t H=>(∃ (y1:Int) (y2:Bool) (y3:Int),k4 y1=some r∧t=mk 20 [zp96,jB,(zp97 a1),(zp98 a1),(9,aI y3),(10,aB y2)]∧H=[.box [.pv (.int .u32 y1)] false,.box (zc2 a1) false])) ?_ ?_
 ·rintro _ _ ⟨y1,y2,y3,hm,rfl,rfl⟩
  subst hk4
  refine rg (s1 2 [(18,.agg (zc2 a1)),(17,kV)] ?_)
  obtain ⟨x6,h5,hm⟩:=bs hm
  obtain ⟨vv,H1,hC,rfl,rfl⟩:=anO h5
  refine dR [(19,.tup [])] [.box [.pv (.int .u32 x6)] false,.box (zc2 a1) false] [0] [.agg (zc2 a1),.ptr 0 0] hH hH hH hC hH (fin [] rfl hH ?_)
  obtain rfl:=jf hm
  exact ⟨trivial,.tup [],[.box [.pv (.int .u32 x6)] false],hH,rfl,rfl⟩
 refine sq (rg (s1 2 [(zp97 a1),(6,.ptr 1 8)] (dv 8 (v:=aI (ahp a1)) (zu zA a1.B t64 hH) hH (fq 1 [zp96,jB,(zp97 a1),(zp98 a1),(9,aI 0)] (bq ?_)))))
 refine ZR (fun mm t H=>(∃ (y9:Int) (y10:Int),ZL n rc_plan_walk_plan_Rels_1 a1 k4 mm y9 y10=some r∧t=mk 20 [zp96,jB,(zp97 a1),(zp98 a1),(9,aI y10)]∧H=[.box [.pv (.int .u32 y9)] false,.box (zc2 a1) false])) (⟨a0,0,hm,rfl,rfl⟩) ?_ ?_
 ·
   rintro _ _ ⟨y9,y10,hm,_⟩;exact nomatch hm
 rintro m11 _ _ ⟨y9,y10,hm,rfl,rfl⟩
 simp only [ZL] at hm
 refine sq (dn [zp96,jB,(zp97 a1),(zp98 a1),(9,aI y10),(zp99 y10 a1)] ?_)
 refine sq ?_
 rcases zd hm with ⟨h,hm⟩|⟨h,hm⟩
 ·refine c1 h (jd (sq (bq (sq (rg ?_)))))
  obtain ⟨x13,h14,hm⟩:=bs hm
  refine dv 11 (v:=.pv (.ptr (acQ x13) 0)) (zS zA a1.B .i64 t64 t66 h14 (Zd x13) rfl hH) hH (stf 3 [zp96,jB,(5,.ptr 2 0),(zp97 a1),(zp98 a1),(9,aI y10)] [.box [.pv (.int .u32 y9)] false,.box (zc2 a1) false,.box (zc3 x13) false] hH (rg (s1 2 [(14,kV),(13,.agg (zc3 x13))] ?_)))
  obtain ⟨x16,h15,hm⟩:=bs hm
  obtain ⟨vv,H1,hC,rfl,rfl⟩:=ih_plan_walk_plan_Rels_1 h15
  refine dR [(15,.tup [])] [.box [.pv (.int .u32 x16)] false,.box (zc2 a1) false,.box (zc3 x13) false] [0] [.agg (zc3 x13),kV] hH hH hH hC hH (fin [zp96,jB,(zp97 a1),(zp98 a1),(9,aI y10)] rfl hH (dn [zp96,jB,(zp97 a1),(zp98 a1),(aen y10)] ?_))
  exact ⟨_,_,Zg [zp96,jB,(zp97 a1),(zp98 a1),(aen y10)] [.box [.pv (.int .u32 x16)] false,.box (zc2 a1) false] hH,⟨x16,(zN y10),hm,rfl,rfl⟩⟩
 refine c0 h (je ?_)
 exact ⟨y9,(afm y10 a1),y10,hm,rfl,rfl⟩
theorem acP:∀ (m:Nat),∀ {n:Nat}{a0:Int}{a1:zh}{r:Int}(hm:qP m n a0 a1=some r),∃ vv H1,call G n 123 [.agg (zc2 a1),kV] [.box [.pv (.int .u32 a0)] false]=some (.ret vv,H1)∧(match (generalizing:=false) r with|r0=>(vv=.tup []∧H1=[.box [.pv (.int .u32 r0)] false]))
 |0=>by intros;rename_i hm;exact nomatch hm
 |m+1=>fun hm=>
  af6 (acP m) hm
theorem agy {n:Nat}{a0:Int}{a1:zh}{r:Int}(hm:abY n a0 a1=some r):
 ∃ vv H1,call G n 123 [.agg (zc2 a1),kV] [.box [.pv (.int .u32 a0)] false]=some (.ret vv,H1)∧(match (generalizing:=false) r with|r0=>(vv=.tup []∧H1=[.box [.pv (.int .u32 r0)] false])):=acP n hm
theorem ahl {n:Nat}{a0:zh}{r:Int}(hm:aaj n a0=some r):
  call G n 38 [.agg (zc2 a0)] []=some (.ret (.pv (.int .u32 r)),[]):=by
 unfold aaj at hm
 obtain ⟨n,rfl,h0⟩:=zp hm
 replace hm:=h0;clear h0
 refine zT 8 [(0,.agg (zc2 a0))] func38 rfl hH (sq (det [jA] [.box (zc2 a0) false] hH (sq (det [jA,jC] [.box (zc2 a0) false,.box [.pv (.int .u32 0)] false] hH (sq (rg (s1 2 [(5,.fn 127 [] [.ptr 1 0]),(4,.agg (zc2 a0))] ?_)))))))
 obtain ⟨x2,h1,hm⟩:=bs hm
 obtain ⟨vv,H1,hC,rfl,rfl⟩:=agy h1
 refine dR [(6,.tup [])] [.box (zc2 a0) false,.box [.pv (.int .u32 x2)] false] [1] [.agg (zc2 a0),.fn 127 [] [.ptr 1 0]] hH hH hH hC hH (fin [jC] rfl hH (sq (dn [(2,.pv (.int .u32 x2))] (jc ?_))))
 cases hm;exact hJ
abbrev afq (p0:Int):Nat×AV:=(3,.pv (.int .u32 p0))
abbrev ahr (p0:zf):Nat×AV:=(24,.pv (zk za p0.B))
abbrev alR (p0:zf):Nat×AV:=(25,aI ((sll p0.B).length:Int))
abbrev akI (p0:Int) (p1:Int):Nat×AV:=(3,.pv (.int .u32 (iOr .u32 p0 p1)))
abbrev asY (p0:zf):=(((p0.A==1)&&(decide (p0.C≥0)))&&(decide (p0.C≤31)))
abbrev aoU (p0:zf):=(iShl .u32 1 (IntKind.wrap .u64 p0.C))
theorem aoD {rc_expr_Rels:(Nat→zf→Option (Int))}(ih_expr_Rels:∀ {n:Nat}{a0:zf}{r:Int}(hm:rc_expr_Rels n a0=some r),call G n 112 [.agg [aI a0.A,aI a0.C,aI a0.M,aI a0.F.A,aI a0.F.K,aF a0.F.I,aS a0.F.N,.pv (zk za a0.B)]] []=some (.ret (.pv (.int .u32 r)),[])) {n:Nat}{a0:zf}{r:Int}(hm:ae6 rc_expr_Rels n a0=some r):
   call G n 112 [.agg (zc7 a0)] []=some (.ret (.pv (.int .u32 r)),[]):=by
 unfold ae6 at hm
 obtain ⟨n,rfl,h0⟩:=zp hm
 replace hm:=h0;clear h0
 refine zT 36 [(0,.agg (zc7 a0))] func112 rfl hH (sq (det [jA] [.box (zc7 a0) false] hH (sq (dn [jA,(3,.pv (.int .u32 0))] ?_))))
 obtain ⟨k3,hk3,hm⟩:=zo hm
 refine mid (fun t H=>(∃ (y2:Int) (w1:AV),k3 y2=some r∧t=mk 36 [jA,(afq y2),(18,w1)]∧H=[.box (zc7 a0) false])) ?_ ?_
 ·rintro _ _ ⟨y2,w1,hm,rfl,rfl⟩
  subst hk3
  obtain ⟨k7,hk7,hm⟩:=zo hm
  refine mid (fun t H=>(∃ (y4:Int) (y5:Bool) (y6:Int),k7 y6=some r∧t=mk 36 [(afq y6),(ahr a0),(alR a0),(26,aI y4),(27,aB y5)]∧H=[.box (zc7 a0) false])) ?_ ?_
  ·rintro _ _ ⟨y4,y5,y6,hm,rfl,rfl⟩
   subst hk7
   refine sq (dn [(2,.pv (.int .u32 y6))] (jc ?_))
   cases hm;exact hJ
  refine sq (rg (s1 2 [(ahr a0),(23,.ptr 0 7)] (dv 25 (v:=aI (afb a0)) (zu za a0.B t23 hH) hH (fq 1 [(afq y2),(ahr a0),(alR a0),(26,aI 0)] (bq ?_)))))
  refine ZR (fun mm t H=>(∃ (y10:Int) (y11:Int),abv n rc_expr_Rels a0 k7 mm y10 y11=some r∧t=mk 36 [(afq y11),(ahr a0),(alR a0),(26,aI y10)]∧H=[.box (zc7 a0) false])) (⟨0,y2,hm,rfl,rfl⟩) ?_ ?_
  ·
    rintro _ _ ⟨y10,y11,hm,_⟩;exact nomatch hm
  rintro m12 _ _ ⟨y10,y11,hm,rfl,rfl⟩
  simp only [abv] at hm
  refine sq (dn [(afq y11),(ahr a0),(alR a0),(26,aI y10),(27,aB (adU y10 a0))] ?_)
  refine sq ?_
  rcases zd hm with ⟨h,hm⟩|⟨h,hm⟩
  ·refine c1 h (jd (sq (bq (sq (rg ?_)))))
   obtain ⟨x14,h15,hm⟩:=bs hm
   refine dv 28 (v:=.pv (.ptr (Z5 x14) 0)) (zS za a0.B .i64 t23 t49 h15 (zt x14) rfl hH) hH (stf 3 [(afq y11),(5,.ptr 1 0),(ahr a0),(alR a0),(26,aI y10)] [.box (zc7 a0) false,.box (zc9 x14) false] hH (rg (s1 2 [(31,.agg (zc9 x14)),(30,.pv (.int .u32 y11))] ?_)))
   obtain ⟨x16,h17,hm⟩:=bs hm
   refine dv 32 (zC hH (ih_expr_Rels h17) hH hH hH) hH (fq 2 [(akI y11 x16),(ahr a0),(alR a0),(26,aI y10)] (dn [(akI y11 x16),(ahr a0),(alR a0),(26,aI (zN y10))] ?_))
   exact ⟨_,_,Zg [(akI y11 x16),(ahr a0),(alR a0),(26,aI (zN y10))] [.box (zc7 a0) false] hH,⟨(zN y10),(iOr .u32 y11 x16),hm,rfl,rfl⟩⟩
  refine c0 h (je ?_)
  exact ⟨y10,(adU y10 a0),y11,hm,rfl,rfl⟩
 refine sq (rg (s1 4 [(9,aB (a0.A==1)),(8,aB (a0.A==1)),(7,aI a0.A),(6,.ptr 0 0)] ?_))
 refine segP (a0.A==1) [9,8] (fun b=>[(13,aB (b&&(decide (a0.C≥0)))),(12,ifA b (aB (decide (a0.C≥0))) hY),(11,ifA b (aI a0.C) hY),(10,ifA b (.ptr 0 1) hY)]) 4 hH hH hH (s1 1 [(14,aB ((a0.A==1)&&(decide (a0.C≥0))))] ?_)
 refine segP ((a0.A==1)&&(decide (a0.C≥0))) [14,13] (fun b=>[(18,aB (b&&(decide (a0.C≤31)))),(17,ifA b (aB (decide (a0.C≤31))) hY),(16,ifA b (aI a0.C) hY),(15,ifA b (.ptr 0 1) hY)]) 4 hH hH hH (fin [jA,(3,.pv (.int .u32 0)),(18,aB (asY a0))] rfl hH ?_)
 rcases zd hm with ⟨h,hm⟩|⟨h,hm⟩
 ·refine c1 h (rg (s1 3 [(21,aU (IntKind.wrap .u64 a0.C)),(20,aI a0.C),jX] ?_))
  obtain ⟨_,h19,hm⟩:=bs hm
  refine dv 22 (v:=.pv (.int .u32 (aoU a0))) (shlO h19 hH) hH (fq 1 [jA,(3,.pv (.int .u32 (aoU a0)))] ?_)
  exact ⟨(aoU a0),.any,hm,(zD hH),rfl⟩
 refine c0 h (jd ?_)
 exact ⟨0,aB (asY a0),hm,(zD hH),rfl⟩
theorem ajv:∀ (m:Nat),∀ {n:Nat}{a0:zf}{r:Int}(hm:aae m n a0=some r),call G n 112 [.agg (zc7 a0)] []=some (.ret (.pv (.int .u32 r)),[])
 |0=>by intros;rename_i hm;exact nomatch hm
 |m+1=>fun hm=>
  aoD (ajv m) hm
theorem aqr {n:Nat}{a0:zf}{r:Int}(hm:alq n a0=some r):
 call G n 112 [.agg (zc7 a0)] []=some (.ret (.pv (.int .u32 r)),[]):=ajv n hm
theorem akX {n:Nat}{a0:zf}{a1:Int}{r:Bool}(hm:acZ n a0 a1=some r):
  call G n 248 [.agg (zc7 a0),.pv (.ptr [.int .u32 a1] 0)] []=some (.ret (aB r),[]):=by
 unfold acZ at hm
 obtain ⟨n,rfl,h0⟩:=zp hm
 replace hm:=h0;clear h0
 refine zT 9 [(0,.agg (zc7 a0)),(1,.pv (.ptr [.int .u32 a1] 0))] func248 rfl hH (sq (det [(1,.pv (.ptr [.int .u32 a1] 0)),jz] [.box (zc7 a0) false] hH (sq (rgd (shd 1 [(4,.agg (zc7 a0))] hH ?_)))))
 obtain ⟨x1,h2,hm⟩:=bs hm
 refine dvd 5 (zC hH (aqr h2) hH hH hH) hH (shd 4 [(3,aB ((aeM .u32 x1 a1)!=0)),(8,aB ((aeM .u32 x1 a1)!=0)),(7,.pv (.int .u32 (aeM .u32 x1 a1))),(6,.pv (.int .u32 a1))] hH (find [(3,aB ((aeM .u32 x1 a1)!=0))] rfl hH hH (jc ?_)))
 cases hm;exact hJ
abbrev ahs (p0:Int):Nat×AV:=(1,.pv (.fn 248 [] [.ptr [.int .u32 p0] 0]))
theorem acw {n:Nat}{a0:jl}{a1:Int}{r:Int}(hm:qq n a0 a1=some r):
   call G n 213 [.pv (ZN a0),.pv (.fn 248 [] [.ptr [.int .u32 a1] 0])] []=some (.ret (aI r),[]):=by
 unfold qq at hm
 obtain ⟨n,rfl,h0⟩:=zp hm
 replace hm:=h0;clear h0
 refine zT 19 [(zp25 a0),(ahs a1)] func213 rfl hH (sq (dn [(zp25 a0),(ahs a1)] ?_))
 obtain ⟨k3,hk3,hm⟩:=zo hm
 refine mid (fun t H=>(∃ (y1:Int) (y2:Bool),k3 ()=some r∧t=mk 19 [(zp25 a0),(ahs a1),(zp80 a0),(8,aI y1),(9,aB y2)]∧H=[])) ?_ ?_
 ·rintro _ _ ⟨y1,y2,hm,rfl,rfl⟩
  subst hk3
  refine sq (dn [(4,aI (-1))] (jc ?_))
  cases hm;exact hJ
 refine sq (rg (s1 1 [(6,.pv (ZN a0))] (dv 7 (v:=aI (aaB a0)) (zu za a0 t23 hH) hH (fq 1 [(zp25 a0),(ahs a1),(zp80 a0),ke] (bq ?_)))))
 refine ZR (fun mm t H=>(∃ (y5:Int),zK n a0 a1 k3 mm y5=some r∧t=mk 19 [(zp25 a0),(ahs a1),(zp80 a0),(8,aI y5)]∧H=[])) (⟨0,hm,rfl,rfl⟩) ?_ ?_
 ·
   rintro _ _ ⟨y5,hm,_⟩;exact nomatch hm
 rintro m6 _ _ ⟨y5,hm,rfl,rfl⟩
 simp only [zK] at hm
 refine sq (dn [(zp25 a0),(ahs a1),(zp80 a0),(8,aI y5),(9,aB (aai y5 a0))] ?_)
 refine sq ?_
 rcases zd hm with ⟨h,hm⟩|⟨h,hm⟩
 ·refine c1 h (jd (sq (bq (sq (dn [(zp25 a0),(ahs a1),(5,aI y5),(zp80 a0),(8,aI y5)] (sq (rg (s1 3 [(13,aI y5),(12,.pv (ZN a0)),(11,.pv (.fn 248 [] [.ptr [.int .u32 a1] 0]))] ?_))))))))
  obtain ⟨x8,h9,hm⟩:=bs hm
  refine dv 14 (v:=.pv (.ptr (Z5 x8) 0)) (zS za a0 .i64 t23 t49 h9 (zt x8) rfl hH) hH (s1 1 [(15,.agg (zc9 x8))] ?_)
  obtain ⟨x10,h11,hm⟩:=bs hm
  refine dv 16 (zC hH (akX h11) hH hH hH) hH (fin [(zp25 a0),(ahs a1),(5,aI y5),(zp80 a0),(8,aI y5),(16,aB x10)] rfl hH ?_)
  rcases zd hm with ⟨h,hm⟩|⟨h,hm⟩
  ·refine c1 h (sq (dn [(4,aI y5)] (jc ?_)))
   cases hm;exact hJ
  refine c0 h (jd (dn [(zp25 a0),(ahs a1),(zp80 a0),(zp41 y5)] ?_))
  exact ⟨_,_,Zg [(zp25 a0),(ahs a1),(zp80 a0),(zp41 y5)] [] hH,⟨(zN y5),hm,rfl,rfl⟩⟩
 refine c0 h (je ?_)
 exact ⟨y5,(aai y5 a0),hm,rfl,rfl⟩
theorem abD {n:Nat}{a0:jl}{a1:Int}{r:Bool}(hm:qc n a0 a1=some r):
  call G n 220 [.pv (ZN a0),.pv (.fn 248 [] [.ptr [.int .u32 a1] 0])] []=some (.ret (aB r),[]):=by
 unfold qc at hm
 obtain ⟨n,rfl,h0⟩:=zp hm
 replace hm:=h0;clear h0
 refine zT 9 [(zp25 a0),(ahs a1)] func220 rfl hH (sq (dn [(zp25 a0),(ahs a1)] (sq (rg (s1 2 [(6,.pv (.fn 248 [] [.ptr [.int .u32 a1] 0])),(5,.pv (ZN a0))] ?_)))))
 obtain ⟨x1,h2,hm⟩:=bs hm
 refine dv 7 (zC hH (acw h2) hH hH hH) hH (fq 2 [(4,aB (decide (x1≥0)))] (jc ?_))
 cases hm;exact hJ
abbrev ajC (p0:Int):Nat×AV:=(1,.pv (.int .u32 p0))
theorem afJ {n:Nat}{a0:jl}{a1:Int}{r:Bool}(hm:Qm n a0 a1=some r):
  call G n 211 [.pv (ZN a0),.pv (.int .u32 a1)] []=some (.ret (aB r),[]):=by
 unfold Qm at hm
 obtain ⟨n,rfl,h0⟩:=zp hm
 replace hm:=h0;clear h0
 refine zT 9 [(zp25 a0),(ajC a1)] func211 rfl hH (sq (det [(zp25 a0),jE] [.box [.pv (.int .u32 a1)] false] hH (sq (rg (s1 2 [(6,.fn 248 [] [.ptr 0 0]),(5,.pv (ZN a0))] ?_)))))
 obtain ⟨x1,h2,hm⟩:=bs hm
 refine dO [(7,aB x1)] [.box [.pv (.int .u32 a1)] false] (aip [0] [.pv (ZN a0),.fn 248 [] [.ptr 0 0]] (fl:=true) hH hH hH (abD h2) hH hH) hH (fq 2 [(4,aB (!x1))] (jc ?_))
 cases hm;exact hJ
theorem anj {n:Nat}{a0:Int}{a1:Int}{a2:Bool}{a3:zh}{r:Int×Int×Bool}(hm:adu n a0 a1 a2 a3=some r):
   ∃ vv H1,call G n 210 [.agg (zc2 a3),.ptr 0 0,.ptr 1 0,.ptr 2 0] [.box [aI a0] false,.box [.pv (.int .u32 a1)] false,.box [aB a2] false]=some (.ret vv,H1)∧(match (generalizing:=false) r with|(r0,r1,r2)=>(vv=.tup []∧H1=[.box [aI r0] false,.box [.pv (.int .u32 r1)] false,.box [aB r2] false])):=by
 unfold adu at hm
 obtain ⟨n,rfl,h0⟩:=zp hm
 replace hm:=h0;clear h0
 refine QM 51 [(0,.agg (zc2 a3)),jA,jB,jF] func210 rfl hH (sq (det [jA,jB,jF,jJ] [.box [aI a0] false,.box [.pv (.int .u32 a1)] false,.box [aB a2] false,.box (zc2 a3) false] hH ?_))
 obtain ⟨k5,hk5,hm⟩:=zo hm
 refine mid (fun t H=>(∃ (y2:Int) (y3:Int) (y4:Bool) (w1:AV),k5 y2 y3 y4=some r∧t=mk 51 [jF,jJ,(41,w1)]∧H=[.box [aI y2] false,.box [.pv (.int .u32 y3)] false,.box [aB y4] false,.box (zc2 a3) false])) ?_ ?_
 ·rintro _ _ ⟨y2,y3,y4,w1,hm,rfl,rfl⟩
  subst hk5
  refine rgd (shd 2 [(44,aB y4),(43,aB y4)] hH ?_)
  rcases zd hm with ⟨h,hm⟩|⟨h,hm⟩
  ·refine zM [44,43] h hH (shd 3 [(47,.agg (zc2 a3)),(46,.pv (aiD a3)),(45,.ptr 3 2)] hH ?_)
   obtain ⟨x7,h8,hm⟩:=bs hm
   refine dvd 48 (zC hH (ahl h8) hH hH hH) hH ?_
   obtain ⟨x9,h10,hm⟩:=bs hm
   refine dvd 49 (zC hH (afJ h10) hH hH hH) hH (std 2 [(50,aB x9)] [.box [aI y2] false,.box [.pv (.int .u32 y3)] false,.box [aB x9] false,.box (zc2 a3) false] hH (find [] rfl hH hH ?_))
   obtain rfl:=jf hm
   exact ⟨trivial,.tup [],[.box [aI y2] false,.box [.pv (.int .u32 y3)] false,.box [aB x9] false],hH,rfl,rfl⟩
  refine zM [44,43] h hH (std 7 [(50,aB false),(49,.undef),(48,.undef),(47,.undef),(46,.undef),(45,.undef)] [.box [aI y2] false,.box [.pv (.int .u32 y3)] false,.box [aB false] false,.box (zc2 a3) false] hH (find [] rfl hH hH ?_))
  obtain rfl:=jf hm
  exact ⟨trivial,.tup [],[.box [aI y2] false,.box [.pv (.int .u32 y3)] false,.box [aB false] false],hH,rfl,rfl⟩
 refine sq (dn [jA,jB,jF,jJ,(6,aI a3.A)] (bq (sq (dn [jA,jB,jF,jJ,(6,aI a3.A),(7,aB (a3.A==1))] ?_))))
 rcases zd hm with ⟨h,hm⟩|⟨h,hm⟩
 ·refine c1 h (sq (det [jB,jF,jJ] [.box [aI (zN a0)] false,.box [.pv (.int .u32 a1)] false,.box [aB a2] false,.box (zc2 a3) false] hH (rg (s1 4 [(14,aU (IntKind.wrap .u64 a3.C)),(13,aI a3.C),(12,.ptr 3 1),(11,.pv (.int .u32 a1))] ?_))))
  obtain ⟨_,h12,hm⟩:=bs hm
  refine dv 15 (v:=.pv (.int .u32 (aqS a3))) (shlO h12 hH) hH (stf 2 [jF,jJ] [.box [aI (zN a0)] false,.box [.pv (.int .u32 (ath a1 a3))] false,.box [aB a2] false,.box (zc2 a3) false] hH ?_)
  exact ⟨(zN a0),(ath a1 a3),a2,.any,hm,(zD hH),rfl⟩
 refine c0 h ?_
 obtain ⟨k14,hk14,hm⟩:=zo hm
 refine mid (fun t H=>(∃ (y13:Bool),k14 y13=some r∧t=mk 51 [jF,jJ,(6,aI a3.A),(17,aB y13)]∧H=[.box [aI a0] false,.box [.pv (.int .u32 a1)] false,.box [aB a2] false,.box (zc2 a3) false])) ?_ ?_
 ·rintro _ _ ⟨y13,hm,rfl,rfl⟩
  subst hk14
  rcases zd hm with ⟨h,hm⟩|⟨h,hm⟩
  ·refine c1 h (rgd (shd 2 [(21,aB a2),(20,aB a2)] hH ?_))
   rcases zd hm with ⟨h,hm⟩|⟨h,hm⟩
   ·refine zM [21,20] h hH (shd 4 [(25,.pv (adv a3)),(24,.ptr 3 8),(23,.pv (aag a3)),(22,.ptr 3 3)] hH ?_)
    obtain ⟨x17,h18,hm⟩:=bs hm
    refine dvd 26 (v:=.pv (.ptr (acQ x17) 0)) (zS zA a3.B .i64 t64 t66 h18 (Zd x17) rfl hH) hH (shd 1 [(27,.agg (zc3 x17))] hH ?_)
    obtain ⟨x19,h20,hm⟩:=bs hm
    refine dvd 28 (zC hH (ahl h20) hH hH hH) hH ?_
    obtain ⟨x21,h22,hm⟩:=bs hm
    refine dvd 29 (zC hH (afJ h22) hH hH hH) hH (shd 2 [(31,aB x21),(30,aB x21)] hH ?_)
    rcases zd hm with ⟨h,hm⟩|⟨h,hm⟩
    ·refine zM [31,30,29] h hH (shd 4 [(35,.pv (adv a3)),(34,.ptr 3 8),(33,.pv (aaX a3)),(32,.ptr 3 4)] hH ?_)
     obtain ⟨x24,h25,hm⟩:=bs hm
     refine dvd 36 (v:=.pv (.ptr (acQ x24) 0)) (zS zA a3.B .i64 t64 t66 h25 (Zd x24) rfl hH) hH (shd 1 [(37,.agg (zc3 x24))] hH ?_)
     obtain ⟨x26,h27,hm⟩:=bs hm
     refine dvd 38 (zC hH (ahl h27) hH hH hH) hH ?_
     obtain ⟨x28,h29,hm⟩:=bs hm
     refine dvd 39 (zC hH (afJ h29) hH hH hH) hH (std 2 [(40,aB x28)] [.box [aI a0] false,.box [.pv (.int .u32 a1)] false,.box [aB x28] false,.box (zc2 a3) false] hH (find [jF,jJ] rfl hH hH ?_))
     exact ⟨a0,a1,x28,.any,hm,(zD hH),rfl⟩
    refine zM [31,30,29] h hH (std 10 [(40,aB false),(39,.undef),(38,.undef),(37,.undef),(36,.undef),(35,.undef),(34,.undef),(33,.undef),(32,.undef)] [.box [aI a0] false,.box [.pv (.int .u32 a1)] false,.box [aB false] false,.box (zc2 a3) false] hH (find [jF,jJ] rfl hH hH ?_))
    exact ⟨a0,a1,false,.any,hm,(zD hH),rfl⟩
   refine zM [21,20] h hH (std 20 [(40,aB false),(39,.undef),(38,.undef),(37,.undef),(36,.undef),(35,.undef),(34,.undef),(33,.undef),(32,.undef),(31,aB false),(30,aB false),(29,.undef),(28,.undef),(27,.undef),(26,.undef),(25,.undef),(24,.undef),(23,.undef),(22,.undef)] [.box [aI a0] false,.box [.pv (.int .u32 a1)] false,.box [aB false] false,.box (zc2 a3) false] hH (find [jF,jJ] rfl hH hH ?_))
   exact ⟨a0,a1,false,.any,hm,(zD hH),rfl⟩
  refine c0 h (sq (dn [jF,jJ,(41,aB (a3.A==2))] ?_))
  rcases zd hm with ⟨h,hm⟩|⟨h,hm⟩
  ·refine c1 h (jd ?_)
   exact ⟨a0,a1,a2,aB (a3.A==2),hm,(zD hH),rfl⟩
  refine c0 h (det [jF,jJ] [.box [aI a0] false,.box [.pv (.int .u32 a1)] false,.box [aB false] false,.box (zc2 a3) false] hH ?_)
  exact ⟨a0,a1,false,.any,hm,(zD hH),rfl⟩
 refine sq (dn [jF,jJ,(6,aI a3.A),(17,aB (a3.A==3))] ?_)
 rcases zd hm with ⟨h,hm⟩|⟨h,hm⟩
 ·refine c1 h (jd ?_)
  exact ⟨(a3.A==3),hm,rfl,rfl⟩
 refine c0 h (dn [jF,jJ,(6,aI a3.A),(17,aB (a3.A==4))] ?_)
 exact ⟨(a3.A==4),hm,rfl,rfl⟩
abbrev ajt:Nat×AV:=(1,kW)
theorem af8 {rc_plan_walk_plan_join_1:(Nat→Int→Int→Bool→zh→Option (Int×Int×Bool))}(ih_plan_walk_plan_join_1:∀ {n:Nat}{a0:Int}{a1:Int}{a2:Bool}{a3:zh}{r:Int×Int×Bool}(hm:rc_plan_walk_plan_join_1 n a0 a1 a2 a3=some r),∃ vv H1,call G n 123 [.agg [aI a3.A,aI a3.C,.pv (zk za a3.H),.pv (zk za a3.J),.pv (zk za a3.L),.pv (zk za a3.E),.pv (zk zl a3.D),.pv (zk zx a3.G),.pv (zk zA a3.B)],kW] [.box [aI a0] false,.box [.pv (.int .u32 a1)] false,.box [aB a2] false]=some (.ret vv,H1)∧(match (generalizing:=false) r with|(r0,r1,r2)=>(vv=.tup []∧H1=[.box [aI r0] false,.box [.pv (.int .u32 r1)] false,.box [aB r2] false]))) {n:Nat}{a0:Int}{a1:Int}{a2:Bool}{a3:zh}{r:Int×Int×Bool}(hm:Qi rc_plan_walk_plan_join_1 n a0 a1 a2 a3=some r):
   ∃ vv H1,call G n 123 [.agg (zc2 a3),kW] [.box [aI a0] false,.box [.pv (.int .u32 a1)] false,.box [aB a2] false]=some (.ret vv,H1)∧(match (generalizing:=false) r with|(r0,r1,r2)=>(vv=.tup []∧H1=[.box [aI r0] false,.box [.pv (.int .u32 r1)] false,.box [aB r2] false])):=by
 unfold Qi at hm
 obtain ⟨n,rfl,h0⟩:=zp hm
 replace hm:=h0;clear h0
 refine QM 20 [(0,.agg (zc2 a3)),ajt] func123 rfl hH (sq (det [ajt,jQ] [.box [aI a0] false,.box [.pv (.int .u32 a1)] false,.box [aB a2] false,.box (zc2 a3) false] hH ?_))
 obtain ⟨k6,hk6,hm⟩:=zo hm
 refine mid (fun t H=>(∃ (y1:Int) (y2:Int) (y3:Bool) (y4:Bool) (y5:Int),k6 y1 y2 y3=some r∧t=mk 20 [ajt,jQ,(zp97 a3),(zp98 a3),(9,aI y5),(10,aB y4)]∧H=[.box [aI y1] false,.box [.pv (.int .u32 y2)] false,.box [aB y3] false,.box (zc2 a3) false])) ?_ ?_
 ·rintro _ _ ⟨y1,y2,y3,y4,y5,hm,rfl,rfl⟩
  subst hk6
  refine rg (s1 2 [(18,.agg (zc2 a3)),(17,kW)] ?_)
  obtain ⟨⟨x8,x9,x10⟩,h7,hm⟩:=bs hm
  obtain ⟨vv,H1,hC,rfl,rfl⟩:=anj h7
  refine dR [(19,.tup [])] [.box [aI x8] false,.box [.pv (.int .u32 x9)] false,.box [aB x10] false,.box (zc2 a3) false] [0,1,2] [.agg (zc2 a3),.ptr 0 0,.ptr 1 0,.ptr 2 0] hH hH hH hC hH (fin [] rfl hH ?_)
  obtain rfl:=jf hm
  exact ⟨trivial,.tup [],[.box [aI x8] false,.box [.pv (.int .u32 x9)] false,.box [aB x10] false],hH,rfl,rfl⟩
 refine sq (rg (s1 2 [(zp97 a3),(6,.ptr 3 8)] (dv 8 (v:=aI (ahp a3)) (zu zA a3.B t64 hH) hH (fq 1 [ajt,jQ,(zp97 a3),(zp98 a3),(9,aI 0)] (bq ?_)))))
 refine ZR (fun mm t H=>(∃ (y15:Int) (y16:Int) (y17:Bool) (y18:Int),ZC n rc_plan_walk_plan_join_1 a3 k6 mm y15 y16 y17 y18=some r∧t=mk 20 [ajt,jQ,(zp97 a3),(zp98 a3),(9,aI y18)]∧H=[.box [aI y15] false,.box [.pv (.int .u32 y16)] false,.box [aB y17] false,.box (zc2 a3) false])) (⟨a0,a1,a2,0,hm,rfl,rfl⟩) ?_ ?_
 ·
   rintro _ _ ⟨y15,y16,y17,y18,hm,_⟩;exact nomatch hm
 rintro m19 _ _ ⟨y15,y16,y17,y18,hm,rfl,rfl⟩
 simp only [ZC] at hm
 refine sq (dn [ajt,jQ,(zp97 a3),(zp98 a3),(9,aI y18),(zp99 y18 a3)] ?_)
 refine sq ?_
 rcases zd hm with ⟨h,hm⟩|⟨h,hm⟩
 ·refine c1 h (jd (sq (bq (sq (rg ?_)))))
  obtain ⟨x21,h22,hm⟩:=bs hm
  refine dv 11 (v:=.pv (.ptr (acQ x21) 0)) (zS zA a3.B .i64 t64 t66 h22 (Zd x21) rfl hH) hH (stf 3 [ajt,jQ,(5,.ptr 4 0),(zp97 a3),(zp98 a3),(9,aI y18)] [.box [aI y15] false,.box [.pv (.int .u32 y16)] false,.box [aB y17] false,.box (zc2 a3) false,.box (zc3 x21) false] hH (rg (s1 2 [(14,kW),(13,.agg (zc3 x21))] ?_)))
  obtain ⟨⟨x24,x25,x26⟩,h23,hm⟩:=bs hm
  obtain ⟨vv,H1,hC,rfl,rfl⟩:=ih_plan_walk_plan_join_1 h23
  refine dR [(15,.tup [])] [.box [aI x24] false,.box [.pv (.int .u32 x25)] false,.box [aB x26] false,.box (zc2 a3) false,.box (zc3 x21) false] [0,1,2] [.agg (zc3 x21),kW] hH hH hH hC hH (fin [ajt,jQ,(zp97 a3),(zp98 a3),(9,aI y18)] rfl hH (dn [ajt,jQ,(zp97 a3),(zp98 a3),(aen y18)] ?_))
  exact ⟨_,_,Zg [ajt,jQ,(zp97 a3),(zp98 a3),(aen y18)] [.box [aI x24] false,.box [.pv (.int .u32 x25)] false,.box [aB x26] false,.box (zc2 a3) false] hH,⟨x24,x25,x26,(zN y18),hm,rfl,rfl⟩⟩
 refine c0 h (je ?_)
 exact ⟨y15,y16,y17,(afm y18 a3),y18,hm,rfl,rfl⟩
theorem acU:∀ (m:Nat),∀ {n:Nat}{a0:Int}{a1:Int}{a2:Bool}{a3:zh}{r:Int×Int×Bool}(hm:Qn m n a0 a1 a2 a3=some r),∃ vv H1,call G n 123 [.agg (zc2 a3),kW] [.box [aI a0] false,.box [.pv (.int .u32 a1)] false,.box [aB a2] false]=some (.ret vv,H1)∧(match (generalizing:=false) r with|(r0,r1,r2)=>(vv=.tup []∧H1=[.box [aI r0] false,.box [.pv (.int .u32 r1)] false,.box [aB r2] false]))
 |0=>by intros;rename_i hm;exact nomatch hm
 |m+1=>fun hm=>
  af8 (acU m) hm
theorem ags {n:Nat}{a0:Int}{a1:Int}{a2:Bool}{a3:zh}{r:Int×Int×Bool}(hm:abZ n a0 a1 a2 a3=some r):
 ∃ vv H1,call G n 123 [.agg (zc2 a3),kW] [.box [aI a0] false,.box [.pv (.int .u32 a1)] false,.box [aB a2] false]=some (.ret vv,H1)∧(match (generalizing:=false) r with|(r0,r1,r2)=>(vv=.tup []∧H1=[.box [aI r0] false,.box [.pv (.int .u32 r1)] false,.box [aB r2] false])):=acU n hm
theorem aqB {n:Nat}{a0:zh}{a1:Int}{r:Bool}(hm:aeu n a0 a1=some r):
   call G n 166 [.agg (zc2 a0),aI a1] []=some (.ret (aB r),[]):=by
 unfold aeu at hm
 obtain ⟨n,rfl,h0⟩:=zp hm
 replace hm:=h0;clear h0
 refine zT 25 [(0,.agg (zc2 a0)),(1,aI a1)] func166 rfl hH (sq (det [(1,aI a1),jz] [.box (zc2 a0) false] hH (sq (det [(1,aI a1),jz,(5,.ptr 1 0),jL,(7,.ptr 3 0)] [.box (zc2 a0) false,.box [.pv (.int .u32 0)] false,.box [aI 0] false,.box [aB true] false] hH (sq (rg (s1 2 [(9,.fn 210 [] [.ptr 2 0,.ptr 1 0,.ptr 3 0]),(8,.agg (zc2 a0))] ?_)))))))
 obtain ⟨⟨x2,x3,x4⟩,h1,hm⟩:=bs hm
 obtain ⟨vv,H1,hC,rfl,rfl⟩:=ags h1
 refine dR [(10,.tup [])] [.box (zc2 a0) false,.box [.pv (.int .u32 x3)] false,.box [aI x2] false,.box [aB x4] false] [2,1,3] [.agg (zc2 a0),.fn 210 [] [.ptr 2 0,.ptr 1 0,.ptr 3 0]] hH hH hH hC hH (fin [(1,aI a1),(5,.ptr 1 0),jL,(7,.ptr 3 0)] rfl hH (sq (rg (s1 2 [(12,aB x4),(11,aB x4)] ?_))))
 refine segP x4 [12,11] (fun b=>[(16,aB (b&&(x2==a1))),(15,ifA b (aB (x2==a1)) hY),(14,ifA b (aI a1) hY),(13,ifA b (aI x2) hY)]) 4 hH hH hH (s1 1 [(17,aB (x4&&(x2==a1)))] ?_)
 rcases zd hm with ⟨h,hm⟩|⟨h,hm⟩
 ·refine known [17,16] h hH (s1 3 [(20,aU (IntKind.wrap .u64 a1)),(19,aI a1),(18,.pv (.int .u32 x3))] ?_)
  obtain ⟨_,h6,hm⟩:=bs hm
  refine dv 21 (v:=.pv (.int .u32 (iShl .u32 1 (IntKind.wrap .u64 a1)))) (shlO h6 hH) hH (fq 4 [(4,aB (x3==(IntKind.wrap .u32 ((iShl .u32 1 (IntKind.wrap .u64 a1))-1))))] (jc ?_))
  cases hm;exact hJ
 refine known [17,16] h hH (fq 8 [kn] (jc ?_))
 cases hm;exact hJ
abbrev zc13:List AV:=[aI 0,aI 0,aI 0,aI 0,aI 0,aF 0,aS ByteArray.empty,.pv .nils]
abbrev zc14 (p0:zf):List AV:=[aI p0.A,aI p0.C,aI p0.M,aI p0.F.A,aI p0.F.K,aF p0.F.I,aS p0.F.N,.pv .nils]
abbrev zc15 (p0:zf) (p1:jm):List AV:=[aI p0.A,aI p0.C,aI p0.M,aI p0.F.A,aI p0.F.K,aF p0.F.I,aS p0.F.N,aR 2 8 p1.length]
abbrev ahI (p0:zf):=([(zi p0)]:List zb)
theorem aod {rc_expr_Copy:(Nat→zf→Option (zf))}(ih_expr_Copy:∀ {n:Nat}{a0:zf}{r:zf}(hm:rc_expr_Copy n a0=some r),call G n 97 [.agg [aI a0.A,aI a0.C,aI a0.M,aI a0.F.A,aI a0.F.K,aF a0.F.I,aS a0.F.N,.pv (zk za a0.B)]] []=some (.ret (.agg [aI r.A,aI r.C,aI r.M,aI r.F.A,aI r.F.K,aF r.F.I,aS r.F.N,.pv (zk za r.B)]),[])) {n:Nat}{a0:zf}{r:zf}(hm:ae3 rc_expr_Copy n a0=some r):
   call G n 97 [.agg (zc7 a0)] []=some (.ret (.agg [aI r.A,aI r.C,aI r.M,aI r.F.A,aI r.F.K,aF r.F.I,aS r.F.N,.pv (zk za r.B)]),[]):=by
 unfold ae3 at hm
 obtain ⟨n,rfl,h0⟩:=zp hm
 replace hm:=h0;clear h0
 refine zT 24 [(0,.agg (zc7 a0))] func97 rfl hH (sq (det [jA,jB] [.box (zc7 a0) false,.box zc13 false] hH (sq (dn [jA,jB,(3,.pv (abb a0))] (sq (det [jA,jB,(3,.pv (abb a0))] [.box (zc14 a0) false,.box zc13 false] hH ?_))))))
 obtain ⟨k4,hk4,hm⟩:=zo hm
 refine mid (fun t H=>(∃ (w1:AV) (w2:AV),k4 none=some r∧t=mk 24 [jA,jB,(zp58 a0),(zp59 a0),(11,w1),(12,w2)]∧H=[.box (zc14 a0) false,.box zc13 false])∨(∃ (y3:jm) (w1:AV) (w2:AV),k4 (some y3)=some r∧t=mk 24 [jA,jB,(zp58 a0),(zp59 a0),(11,w1),(12,w2)]∧H=[.box (zc15 a0 y3) false,.box zc13 false,bR 49 8 za y3 0 0])) ?_ ?_
 ·rintro _ _ (⟨w1,w2,hm,rfl,rfl⟩|⟨y3,w1,w2,hm,rfl,rfl⟩)
  ·subst hk4
   refine sq (det [jB] [.box (zc14 a0) false,.box (zc14 a0) false] hH (jc ?_))
   cases hm;exact hJ
  subst hk4
  refine sq (det [jB] [.box (zc15 a0 y3) false,.box (zc15 a0 y3) false,bR 49 8 za y3 0 0] hH (jc ?_))
  obtain rfl:=jf hm
  exact aa2 (v:=.agg (zc15 a0 y3)) trivial rfl hH (awP (Qf (adn) (Qf (adn) (Qf (adn) (Qf (adn) (Qf (adn) (Qf (adn) (Qf (adn) (Qf (abI (n:=y3.length) (id:=2) (l:=y3) (R:=za) rfl rfl (Nat.zero_le _)) (rfl))))))))) hH)
 refine sq (rg (s1 1 [(zp58 a0)] (dv 10 (v:=aI (afb a0)) (zu za a0.B t23 hH) hH (fq 1 [jA,jB,(zp58 a0),(zp59 a0),(11,aI 0)] (bq ?_)))))
 refine ZR (fun mm t H=>(∃ (y9:Int),qj n rc_expr_Copy a0 k4 mm none y9=some r∧t=mk 24 [jA,jB,(zp58 a0),(zp59 a0),(11,aI y9)]∧H=[.box (zc14 a0) false,.box zc13 false])∨(∃ (y8:jm) (y9:Int),qj n rc_expr_Copy a0 k4 mm (some y8) y9=some r∧t=mk 24 [jA,jB,(zp58 a0),(zp59 a0),(11,aI y9)]∧H=[.box (zc15 a0 y8) false,.box zc13 false,bR 49 8 za y8 0 0])) (.inl ⟨0,hm,rfl,rfl⟩) ?_ ?_
 ·
   rintro _ _ (⟨y9,hm,_⟩|⟨y8,y9,hm,_⟩)<;>exact nomatch hm
 rintro m10 _ _ (⟨y9,hm,rfl,rfl⟩|⟨y8,y9,hm,rfl,rfl⟩)
 ·simp only [qj] at hm
  refine sq (dn [jA,jB,(zp58 a0),(zp59 a0),(11,aI y9),(zp60 y9 a0)] ?_)
  refine sq ?_
  rcases zd hm with ⟨h,hm⟩|⟨h,hm⟩
  ·refine c1 h (jd (sq (bq (sq (rg ?_)))))
   obtain ⟨x12,h13,hm⟩:=bs hm
   refine dv 13 (v:=.pv (.ptr (Z5 x12) 0)) (zS za a0.B .i64 t23 t49 h13 (zt x12) rfl hH) hH (stf 3 [jA,jB,(5,.ptr 2 0),(zp58 a0),(zp59 a0),(11,aI y9)] [.box (zc14 a0) false,.box zc13 false,.box (zc9 x12) false] hH (rgd (shd 3 [(17,.agg (zc9 x12)),(16,.pv .nils),(15,.ptr 0 7)] hH ?_)))
   obtain ⟨x14,h15,hm⟩:=bs hm
   refine dvd 18 (zC hH (ih_expr_Copy h15) hH hH hH) hH (std 1 [(19,aR 3 8 1)] [.box (zc14 a0) false,.box zc13 false,.box (zc9 x12) false,bR 49 8 za (ahI x14) 0 0] hH ?_)
   obtain ⟨_,h16,hm⟩:=bs hm
   refine dOd [(20,aR 4 8 (([(zi x14)]:List zb).length))] [.box (zc14 a0) false,.box zc13 false,.box (zc9 x12) false,bR 49 8 za (ahI x14) 0 0,bR 49 8 za (ahI x14) 0 0] (aa6 (u:=0) za (ahI x14) (b:=88) t23 t49 rfl rfl rfl Zi rfl h16 (show Zm (aR 3 8 1) _=some (([(zi x14)]:List zb).map za) from by kernel_rfl) hH) hH (std 2 [(21,.ptr 0 7)] [.box [aI a0.A,aI a0.C,aI a0.M,aI a0.F.A,aI a0.F.K,aF a0.F.I,aS a0.F.N,aR 4 8 (([(zi x14)]:List zb).length)] false,.box zc13 false,.box (zc9 x12) false,bR 49 8 za (ahI x14) 0 0,bR 49 8 za (ahI x14) 0 0] hH (find [jA,jB,(zp58 a0),(zp59 a0),(11,aI y9)] rfl hH hH (dn [jA,jB,(zp58 a0),(zp59 a0),(zp61 y9)] ?_)))
   exact ⟨_,_,Zg [jA,jB,(zp58 a0),(zp59 a0),(zp61 y9)] [.box [aI a0.A,aI a0.C,aI a0.M,aI a0.F.A,aI a0.F.K,aF a0.F.I,aS a0.F.N,aR 2 8 (([(zi x14)]:List zb).length)] false,.box zc13 false,bR 49 8 za (ahI x14) 0 0] hH,.inr (⟨(ahI x14),(zN y9),hm,rfl,rfl⟩)⟩
  refine c0 h (je ?_)
  exact .inl ⟨aI y9,aB (adU y9 a0),hm,(zD hH),rfl⟩
 simp only [qj] at hm
 refine sq (dn [jA,jB,(zp58 a0),(zp59 a0),(11,aI y9),(zp60 y9 a0)] ?_)
 refine sq ?_
 rcases zd hm with ⟨h,hm⟩|⟨h,hm⟩
 ·refine c1 h (jd (sq (bq (sq (rg ?_)))))
  obtain ⟨x18,h19,hm⟩:=bs hm
  refine dv 13 (v:=.pv (.ptr (Z5 x18) 0)) (zS za a0.B .i64 t23 t49 h19 (zt x18) rfl hH) hH (stf 3 [jA,jB,(5,.ptr 3 0),(zp58 a0),(zp59 a0),(11,aI y9)] [.box (zc15 a0 y8) false,.box zc13 false,bR 49 8 za y8 0 0,.box (zc9 x18) false] hH (rgd (shd 3 [(17,.agg (zc9 x18)),(16,aR 2 8 y8.length),(15,.ptr 0 7)] hH ?_)))
  obtain ⟨x20,h21,hm⟩:=bs hm
  refine dvd 18 (zC hH (ih_expr_Copy h21) hH hH hH) hH (std 1 [(19,aR 4 8 1)] [.box (zc15 a0 y8) false,.box zc13 false,bR 49 8 za y8 0 0,.box (zc9 x18) false,bR 49 8 za (ahI x20) 0 0] hH ?_)
  obtain ⟨_,h22,hm⟩:=bs hm
  refine dOd [(20,aR 2 8 ((y8++([(zi x20)]:List zb)).length))] [.box (zc15 a0 y8) false,.box zc13 false,bR 49 8 za (y8++([(zi x20)]:List zb)) 0 0,.box (zc9 x18) false,bR 49 8 za (ahI x20) 0 0] (qV (u:=0) (n:=y8.length) (id:=2) za y8 (ahI x20) (b:=88) t23 t49 rfl rfl rfl Zi rfl h22 rfl rfl (Nat.zero_le _) (show Zm (aR 4 8 1) _=some (([(zi x20)]:List zb).map za) from by kernel_rfl) hH) hH (std 2 [(21,.ptr 0 7)] [.box [aI a0.A,aI a0.C,aI a0.M,aI a0.F.A,aI a0.F.K,aF a0.F.I,aS a0.F.N,aR 2 8 ((y8++([(zi x20)]:List zb)).length)] false,.box zc13 false,bR 49 8 za (y8++([(zi x20)]:List zb)) 0 0,.box (zc9 x18) false,bR 49 8 za (ahI x20) 0 0] hH (find [jA,jB,(zp58 a0),(zp59 a0),(11,aI y9)] rfl hH hH (dn [jA,jB,(zp58 a0),(zp59 a0),(zp61 y9)] ?_)))
  exact ⟨_,_,Zg [jA,jB,(zp58 a0),(zp59 a0),(zp61 y9)] [.box [aI a0.A,aI a0.C,aI a0.M,aI a0.F.A,aI a0.F.K,aF a0.F.I,aS a0.F.N,aR 2 8 ((y8++([(zi x20)]:List zb)).length)] false,.box zc13 false,bR 49 8 za (y8++([(zi x20)]:List zb)) 0 0] hH,.inr (⟨(y8++([(zi x20)]:List zb)),(zN y9),hm,rfl,rfl⟩)⟩
 refine c0 h (je ?_)
 exact .inr (⟨y8,aI y9,aB (adU y9 a0),hm,(zD hH),rfl⟩)
theorem ajw:∀ (m:Nat),∀ {n:Nat}{a0:zf}{r:zf}(hm:abd m n a0=some r),call G n 97 [.agg (zc7 a0)] []=some (.ret (.agg [aI r.A,aI r.C,aI r.M,aI r.F.A,aI r.F.K,aF r.F.I,aS r.F.N,.pv (zk za r.B)]),[])
 |0=>by intros;rename_i hm;exact nomatch hm
 |m+1=>fun hm=>
  aod (ajw m) hm
theorem Qz {n:Nat}{a0:zf}{r:zf}(hm:qg n a0=some r):
 call G n 97 [.agg (zc7 a0)] []=some (.ret (.agg [aI r.A,aI r.C,aI r.M,aI r.F.A,aI r.F.K,aF r.F.I,aS r.F.N,.pv (zk za r.B)]),[]):=ajw n hm
abbrev zc16:List AV:=[aI 7,aI 0,aI 0,aI 0,aI 0,aF 0,aS ByteArray.empty,aR 2 8 2]
abbrev zc17 (p0:zf) (p1:zf):List AV:=[aI 7,aI 0,aI 0,aI 0,aI 0,aF 0,aS ByteArray.empty,.pv (.sl (([(zi p0),(zi p1)]:List zb).map za))]
abbrev zc18:List AV:=[aR 4 8 (([(zi (zf.mk 0 0 0 (zn.mk 0 0 0 ByteArray.empty) none))]:List zb).length)]
abbrev zc19:List AV:=[aR 2 8 (([(zi (zf.mk 0 0 0 (zn.mk 0 0 0 ByteArray.empty) none))]:List zb).length)]
abbrev zc20:List AV:=[aI 7,aI 0,aI 0,aI 0,aI 0,aF 0,aS ByteArray.empty,aR 3 8 2]
abbrev zc21 (p0:jm):List AV:=[aR 2 8 ((p0++([(zi (zf.mk 0 0 0 (zn.mk 0 0 0 ByteArray.empty) none))]:List zb)).length)]
abbrev abG (p0:zh):Nat×AV:=(7,.pv (zk za p0.H))
abbrev aci (p0:zh):Nat×AV:=(8,aI ((sll p0.H).length:Int))
abbrev aa1 (p0:zh):Nat×AV:=(35,aI (if ((sll p0.L).length:Int)<((sll p0.J).length:Int) then ((sll p0.L).length:Int) else ((sll p0.J).length:Int)))
abbrev atp (p0:Int) (p1:zh):Nat×AV:=(37,aB (decide (p0<(if ((sll p1.L).length:Int)<((sll p1.J).length:Int) then ((sll p1.L).length:Int) else ((sll p1.J).length:Int)))))
abbrev alT (p0:Int):Nat×AV:=(36,aI (IntKind.wrap .i64 (p0+1)))
abbrev awh (p0:jm):Nat×AV:=(56,aR 2 8 ((p0++([(zi (zf.mk 0 0 0 (zn.mk 0 0 0 ByteArray.empty) none))]:List zb)).length))
abbrev aed (p0:zf) (p1:zf):=([(zi p0),(zi p1)]:List zb)
abbrev qN:=([(zi (zf.mk 0 0 0 (zn.mk 0 0 0 ByteArray.empty) none))]:List zb)
abbrev ajl:=(([(zi (zf.mk 0 0 0 (zn.mk 0 0 0 ByteArray.empty) none))]:List zb).length)
abbrev anp:=(([(zi (zf.mk 0 0 0 (zn.mk 0 0 0 ByteArray.empty) none))]:List zb).map za)
abbrev al2 (p0:zf) (p1:zf):=(max 0 (([(zi p0),(zi p1)]:List zb).map za).length)
abbrev asV (p0:zf) (p1:zf):=(([(zi (zf.mk 0 0 0 (zn.mk 0 0 0 ByteArray.empty) none))]:List zb).set (Int.toNat 0) (zi (zf.mk 7 0 0 (zn.mk 0 0 0 ByteArray.empty) (some ([(zi p0),(zi p1)]:List zb)))))
abbrev atv (p0:zf) (p1:zf):=(zi (zf.mk 7 0 0 (zn.mk 0 0 0 ByteArray.empty) (some ([(zi p0),(zi p1)]:List zb))))
abbrev Q1 (p0:jm):=(p0++([(zi (zf.mk 0 0 0 (zn.mk 0 0 0 ByteArray.empty) none))]:List zb))
abbrev acr (p0:jm):=((p0++([(zi (zf.mk 0 0 0 (zn.mk 0 0 0 ByteArray.empty) none))]:List zb)).length)
abbrev ahK (p0:jm) (p1:zf) (p2:zf):=((p0++([(zi (zf.mk 0 0 0 (zn.mk 0 0 0 ByteArray.empty) none))]:List zb)).set (Int.toNat (p0.length:Int)) (zi (zf.mk 7 0 0 (zn.mk 0 0 0 ByteArray.empty) (some ([(zi p1),(zi p2)]:List zb)))))
abbrev apJ (p0:Int) (p1:zh):=(decide (p0<((sll p1.H).length:Int)))
abbrev atl (p0:zf):=(([(zi (zf.mk 0 0 0 (zn.mk 0 0 0 ByteArray.empty) none))]:List zb).set (Int.toNat 0) (zi p0))
abbrev alO (p0:jm) (p1:zf):=((p0++([(zi (zf.mk 0 0 0 (zn.mk 0 0 0 ByteArray.empty) none))]:List zb)).set (Int.toNat (p0.length:Int)) (zi p1))
theorem agb {n:Nat}{a0:zh}{r:jl}(hm:Qx n a0=some r):
   ∃ vv H1,call G n 124 [.agg (zc2 a0),.ptr 0 0] [jy]=some (.ret vv,H1)∧(match (generalizing:=false) r with|none=>(vv=.tup []∧H1=[jy])|some r0=>(∃ (e1:Nat) (e2:Nat),r0.length=e1∧e2≤r0.length∧vv=.tup []∧H1=[.box [aR 1 8 e1] false,bR 49 8 za r0 e2 0])):=by
 unfold Qx at hm
 obtain ⟨n,rfl,h0⟩:=zp hm
 replace hm:=h0;clear h0
 refine QM 59 [(0,.agg (zc2 a0)),jA] func124 rfl hH (sq (det [jA,jB] [jy,.box (zc2 a0) false] hH ?_))
 obtain ⟨k8,hk8,hm⟩:=zo hm
 refine mid (fun t H=>(∃ (w1:AV) (w2:AV),k8 none=some r∧t=mk 59 [jA,jB,(abG a0),(aci a0),(9,w1),(10,w2)]∧H=[jy,.box (zc2 a0) false])∨(∃ (y3:jm) (w1:AV) (w2:AV) (g4:Nat) (g6:Nat),k8 (some y3)=some r∧t=mk 59 [jA,jB,(abG a0),(aci a0),(9,w1),(10,w2)]∧H=[.box [aR 2 8 g4] false,.box (zc2 a0) false,bR 49 8 za y3 g6 0]∧y3.length=g4∧g6≤y3.length)) ?_ ?_
 ·rintro _ _ (⟨w1,w2,hm,rfl,rfl⟩|⟨y3,w1,w2,g4,g6,hm,rfl,rfl,q5,q7⟩)
  ·subst hk8
   refine sq (sq (rg (s1 4 [(24,aB (a0.A !=3)),(23,aB (a0.A !=3)),(22,aI a0.A),(21,.ptr 1 0)] ?_)))
   refine segP (a0.A !=3) [24,23] (fun b=>[(28,aB (b&&(a0.A !=4))),(27,ifA b (aB (a0.A !=4)) hY),(26,ifA b (aI a0.A) hY),(25,ifA b (.ptr 1 0) hY)]) 4 hH hH hH (fin [jA,jB,(28,aB ((a0.A !=3)&&(a0.A !=4)))] rfl hH ?_)
   rcases zd hm with ⟨h,hm⟩|⟨h,hm⟩
   ·refine c1 h (jc ?_)
    obtain rfl:=jf hm
    exact ⟨trivial,.tup [],[jy],hH,rfl,rfl⟩
   refine c0 h (jd (sq (rg (s1 2 [(30,.pv (aag a0)),(29,.ptr 1 3)] (dv 31 (v:=aI (ahq a0)) (zu za a0.J t23 hH) hH (s1 2 [(33,.pv (aaX a0)),(32,.ptr 1 4)] (dv 34 (v:=aI (ajI a0)) (zu za a0.L t23 hH) hH (fq 2 [jA,jB,(aa1 a0),(36,aI 0)] (bq ?_)))))))))
   refine ZR (fun mm t H=>(∃ (y21:Int),zZ n a0 mm none y21=some r∧t=mk 59 [jA,jB,(aa1 a0),(36,aI y21)]∧H=[jy,.box (zc2 a0) false])∨(∃ (y20:jm) (y21:Int) (g22:Nat) (g24:Nat),zZ n a0 mm (some y20) y21=some r∧t=mk 59 [jA,jB,(aa1 a0),(36,aI y21)]∧H=[.box [aR 2 8 g22] false,.box (zc2 a0) false,bR 49 8 za y20 g24 0]∧y20.length=g22∧g24≤y20.length)) (.inl ⟨0,hm,rfl,rfl⟩) ?_ ?_
   ·
     rintro _ _ (⟨y21,hm,_⟩|⟨y20,y21,g22,g24,hm,_⟩)<;>exact nomatch hm
   rintro m26 _ _ (⟨y21,hm,rfl,rfl⟩|⟨y20,y21,g22,g24,hm,rfl,rfl,q23,q25⟩)
   ·simp only [zZ] at hm
    refine sq (dn [jA,jB,(aa1 a0),(36,aI y21),(atp y21 a0)] ?_)
    refine sq ?_
    rcases zd hm with ⟨h,hm⟩|⟨h,hm⟩
    ·refine c1 h (jd (sq (bq (sq (dn [jA,jB,(5,aI y21),(aa1 a0),(36,aI y21)] (rgd (shd 4 [(42,aI y21),(41,.pv (aag a0)),(40,.ptr 1 3),(39,.pv .nils)] hH ?_)))))))
     obtain ⟨x28,h29,hm⟩:=bs hm
     refine dvd 43 (v:=.pv (.ptr (Z5 x28) 0)) (zS za a0.J .i64 t23 t49 h29 (zt x28) rfl hH) hH (shd 1 [(44,.agg (zc9 x28))] hH ?_)
     obtain ⟨x30,h31,hm⟩:=bs hm
     refine dvd 45 (zC hH (Qz h31) hH hH hH) hH (shd 3 [(48,aI y21),(47,.pv (aaX a0)),(46,.ptr 1 4)] hH ?_)
     obtain ⟨x32,h33,hm⟩:=bs hm
     refine dvd 49 (v:=.pv (.ptr (Z5 x32) 0)) (zS za a0.L .i64 t23 t49 h33 (zt x32) rfl hH) hH (shd 1 [(50,.agg (zc9 x32))] hH ?_)
     obtain ⟨x34,h35,hm⟩:=bs hm
     refine dvd 51 (zC hH (Qz h35) hH hH hH) hH (std 4 [(55,aR 3 8 1),(54,aI 0),(53,.agg zc16),(52,aR 2 8 2)] [jy,.box (zc2 a0) false,bR 49 8 za (aed x30 x34) 0 0,bR 49 8 za qN 0 0] hH ?_)
     obtain ⟨_,h36,hm⟩:=bs hm
     refine dOd [(56,aR 4 8 ajl)] [jy,.box (zc2 a0) false,bR 49 8 za (aed x30 x34) 0 0,bR 49 8 za qN 0 0,bR 49 8 za qN 0 0] (aa6 (u:=0) za qN (b:=88) t23 t49 rfl rfl rfl Zi rfl h36 (show Zm (aR 3 8 1) _=some anp from by kernel_rfl) hH) hH ?_
     obtain ⟨x37,h38,hm⟩:=bs hm
     refine dvd 57 (v:=.eptr 4 0 ajl 8 (0+Int.toNat 0) 0) (Q2 qN .i64 (n:=qN.length) (id:=4) (esz:=8) t23 t49 h38 rfl rfl hH) hH (dOd [] [jy,.box (zc2 a0) false,bR 49 8 za (aed x30 x34) 0 (al2 x30 x34),bR 49 8 za qN 0 0,bR 49 8 za (asV x30 x34) ajl 0] (amG za qN (atv x30 x34) (n:=qN.length) (esz:=8) (v:=.agg zc16) (j:=0) (off:=0) (id:=4) [2] (.agg (zc17 x30 x34)) t49 rfl h38 rfl (Nat.zero_le _) hH rfl hH rfl rfl rfl (zt x37) rfl hH) hH (std 1 [] [.box zc18 false,.box (zc2 a0) false,bR 49 8 za (aed x30 x34) 0 (al2 x30 x34),bR 49 8 za qN 0 0,bR 49 8 za (asV x30 x34) ajl 0] hH (find [jA,jB,(aa1 a0),(36,aI y21)] rfl hH hH (dn [jA,jB,(aa1 a0),(alT y21)] ?_))))
     exact ⟨_,_,Zg [jA,jB,(aa1 a0),(alT y21)] [.box zc19 false,.box (zc2 a0) false,bR 49 8 za (asV x30 x34) ajl 0] hH,.inr (⟨(asV x30 x34),(zN y21),qN.length,qN.length,hm,rfl,rfl,hM,hN⟩)⟩
    refine c0 h (je ?_)
    obtain rfl:=jf hm
    exact ⟨trivial,.tup [],[jy],hH,rfl,rfl⟩
   simp only [zZ] at hm
   refine sq (dn [jA,jB,(aa1 a0),(36,aI y21),(atp y21 a0)] ?_)
   refine sq ?_
   rcases zd hm with ⟨h,hm⟩|⟨h,hm⟩
   ·refine c1 h (jd (sq (bq (sq (dn [jA,jB,(5,aI y21),(aa1 a0),(36,aI y21)] (rgd (shd 4 [(42,aI y21),(41,.pv (aag a0)),(40,.ptr 1 3),(39,aR 2 8 g22)] hH ?_)))))))
    obtain ⟨x40,h41,hm⟩:=bs hm
    refine dvd 43 (v:=.pv (.ptr (Z5 x40) 0)) (zS za a0.J .i64 t23 t49 h41 (zt x40) rfl hH) hH (shd 1 [(44,.agg (zc9 x40))] hH ?_)
    obtain ⟨x42,h43,hm⟩:=bs hm
    refine dvd 45 (zC hH (Qz h43) hH hH hH) hH (shd 3 [(48,aI y21),(47,.pv (aaX a0)),(46,.ptr 1 4)] hH ?_)
    obtain ⟨x44,h45,hm⟩:=bs hm
    refine dvd 49 (v:=.pv (.ptr (Z5 x44) 0)) (zS za a0.L .i64 t23 t49 h45 (zt x44) rfl hH) hH (shd 1 [(50,.agg (zc9 x44))] hH ?_)
    obtain ⟨x46,h47,hm⟩:=bs hm
    refine dvd 51 (zC hH (Qz h47) hH hH hH) hH (std 2 [(53,.agg zc20),(52,aR 3 8 2)] [.box [aR 2 8 g22] false,.box (zc2 a0) false,bR 49 8 za y20 g24 0,bR 49 8 za (aed x42 x46) 0 0] hH (dvd 54 (v:=aI (y20.length:Int)) (ahS y20 (n:=g22) (id:=2) (esz:=8) t23 hO hH) hH (std 1 [(55,aR 4 8 1)] [.box [aR 2 8 g22] false,.box (zc2 a0) false,bR 49 8 za y20 g24 0,bR 49 8 za (aed x42 x46) 0 0,bR 49 8 za qN 0 0] hH ?_)))
    obtain ⟨_,h48,hm⟩:=bs hm
    refine dOd [(awh y20)] [.box [aR 2 8 g22] false,.box (zc2 a0) false,bR 49 8 za (Q1 y20) g24 0,bR 49 8 za (aed x42 x46) 0 0,bR 49 8 za qN 0 0] (qV (u:=0) (n:=g22) (id:=2) za y20 qN (b:=88) t23 t49 rfl rfl rfl Zi rfl h48 rfl hO hO (show Zm (aR 4 8 1) _=some anp from by kernel_rfl) hH) hH ?_
    obtain ⟨x49,h50,hm⟩:=bs hm
    refine dvd 57 (v:=.eptr 2 0 (acr y20) 8 (0+Int.toNat (y20.length:Int)) 0) (Q2 (Q1 y20) .i64 (n:=(Q1 y20).length) (id:=2) (esz:=8) t23 t49 h50 rfl rfl hH) hH (dOd [] [.box [aR 2 8 g22] false,.box (zc2 a0) false,bR 49 8 za (ahK y20 x42 x46) (acr y20) 0,bR 49 8 za (aed x42 x46) 0 (al2 x42 x46),bR 49 8 za qN 0 0] (amG za (Q1 y20) (atv x42 x46) (n:=(Q1 y20).length) (esz:=8) (v:=.agg zc20) (j:=(y20.length:Int)) (off:=0) (id:=2) [3] (.agg (zc17 x42 x46)) t49 rfl h50 rfl hN hH rfl hH rfl rfl rfl (zt x49) rfl hH) hH (std 1 [] [.box (zc21 y20) false,.box (zc2 a0) false,bR 49 8 za (ahK y20 x42 x46) (acr y20) 0,bR 49 8 za (aed x42 x46) 0 (al2 x42 x46),bR 49 8 za qN 0 0] hH (find [jA,jB,(aa1 a0),(36,aI y21)] rfl hH hH (dn [jA,jB,(aa1 a0),(alT y21)] ?_))))
    exact ⟨_,_,Zg [jA,jB,(aa1 a0),(alT y21)] [.box (zc21 y20) false,.box (zc2 a0) false,bR 49 8 za (ahK y20 x42 x46) (acr y20) 0] hH,.inr (⟨(ahK y20 x42 x46),(zN y21),(Q1 y20).length,(Q1 y20).length,hm,rfl,rfl,hM,hN⟩)⟩
   refine c0 h (je ?_)
   obtain rfl:=jf hm
   exact ⟨trivial,.tup [],[.box [aR 1 8 g22] false,bR 49 8 za y20 g24 0],hH,g22,g24,hM,hN,rfl,rfl⟩
  subst hk8
  refine sq (sq (rg (s1 4 [(24,aB (a0.A !=3)),(23,aB (a0.A !=3)),(22,aI a0.A),(21,.ptr 1 0)] ?_)))
  refine segP (a0.A !=3) [24,23] (fun b=>[(28,aB (b&&(a0.A !=4))),(27,ifA b (aB (a0.A !=4)) hY),(26,ifA b (aI a0.A) hY),(25,ifA b (.ptr 1 0) hY)]) 4 hH hH hH (fin [jA,jB,(28,aB ((a0.A !=3)&&(a0.A !=4)))] rfl hH ?_)
  rcases zd hm with ⟨h,hm⟩|⟨h,hm⟩
  ·refine c1 h (jc ?_)
   obtain rfl:=jf hm
   exact ⟨trivial,.tup [],[.box [aR 1 8 g4] false,bR 49 8 za y3 g6 0],hH,g4,g6,hM,hN,rfl,rfl⟩
  refine c0 h (jd (sq (rg (s1 2 [(30,.pv (aag a0)),(29,.ptr 1 3)] (dv 31 (v:=aI (ahq a0)) (zu za a0.J t23 hH) hH (s1 2 [(33,.pv (aaX a0)),(32,.ptr 1 4)] (dv 34 (v:=aI (ajI a0)) (zu za a0.L t23 hH) hH (fq 2 [jA,jB,(aa1 a0),(36,aI 0)] (bq ?_)))))))))
  refine ZR (fun mm t H=>(∃ (y58:jm) (y59:Int) (g60:Nat) (g62:Nat),ZJ n a0 mm y58 y59=some r∧t=mk 59 [jA,jB,(aa1 a0),(36,aI y59)]∧H=[.box [aR 2 8 g60] false,.box (zc2 a0) false,bR 49 8 za y58 g62 0]∧y58.length=g60∧g62≤y58.length)) (⟨y3,0,g4,g6,hm,rfl,rfl,hM,hN⟩) ?_ ?_
  ·
    rintro _ _ ⟨y58,y59,g60,g62,hm,_⟩;exact nomatch hm
  rintro m64 _ _ ⟨y58,y59,g60,g62,hm,rfl,rfl,q61,q63⟩
  simp only [ZJ] at hm
  refine sq (dn [jA,jB,(aa1 a0),(36,aI y59),(atp y59 a0)] ?_)
  refine sq ?_
  rcases zd hm with ⟨h,hm⟩|⟨h,hm⟩
  ·refine c1 h (jd (sq (bq (sq (dn [jA,jB,(5,aI y59),(aa1 a0),(36,aI y59)] (rgd (shd 4 [(42,aI y59),(41,.pv (aag a0)),(40,.ptr 1 3),(39,aR 2 8 g60)] hH ?_)))))))
   obtain ⟨x66,h67,hm⟩:=bs hm
   refine dvd 43 (v:=.pv (.ptr (Z5 x66) 0)) (zS za a0.J .i64 t23 t49 h67 (zt x66) rfl hH) hH (shd 1 [(44,.agg (zc9 x66))] hH ?_)
   obtain ⟨x68,h69,hm⟩:=bs hm
   refine dvd 45 (zC hH (Qz h69) hH hH hH) hH (shd 3 [(48,aI y59),(47,.pv (aaX a0)),(46,.ptr 1 4)] hH ?_)
   obtain ⟨x70,h71,hm⟩:=bs hm
   refine dvd 49 (v:=.pv (.ptr (Z5 x70) 0)) (zS za a0.L .i64 t23 t49 h71 (zt x70) rfl hH) hH (shd 1 [(50,.agg (zc9 x70))] hH ?_)
   obtain ⟨x72,h73,hm⟩:=bs hm
   refine dvd 51 (zC hH (Qz h73) hH hH hH) hH (std 2 [(53,.agg zc20),(52,aR 3 8 2)] [.box [aR 2 8 g60] false,.box (zc2 a0) false,bR 49 8 za y58 g62 0,bR 49 8 za (aed x68 x72) 0 0] hH (dvd 54 (v:=aI (y58.length:Int)) (ahS y58 (n:=g60) (id:=2) (esz:=8) t23 hO hH) hH (std 1 [(55,aR 4 8 1)] [.box [aR 2 8 g60] false,.box (zc2 a0) false,bR 49 8 za y58 g62 0,bR 49 8 za (aed x68 x72) 0 0,bR 49 8 za qN 0 0] hH ?_)))
   obtain ⟨_,h74,hm⟩:=bs hm
   refine dOd [(awh y58)] [.box [aR 2 8 g60] false,.box (zc2 a0) false,bR 49 8 za (Q1 y58) g62 0,bR 49 8 za (aed x68 x72) 0 0,bR 49 8 za qN 0 0] (qV (u:=0) (n:=g60) (id:=2) za y58 qN (b:=88) t23 t49 rfl rfl rfl Zi rfl h74 rfl hO hO (show Zm (aR 4 8 1) _=some anp from by kernel_rfl) hH) hH ?_
   obtain ⟨x75,h76,hm⟩:=bs hm
   refine dvd 57 (v:=.eptr 2 0 (acr y58) 8 (0+Int.toNat (y58.length:Int)) 0) (Q2 (Q1 y58) .i64 (n:=(Q1 y58).length) (id:=2) (esz:=8) t23 t49 h76 rfl rfl hH) hH (dOd [] [.box [aR 2 8 g60] false,.box (zc2 a0) false,bR 49 8 za (ahK y58 x68 x72) (acr y58) 0,bR 49 8 za (aed x68 x72) 0 (al2 x68 x72),bR 49 8 za qN 0 0] (amG za (Q1 y58) (atv x68 x72) (n:=(Q1 y58).length) (esz:=8) (v:=.agg zc20) (j:=(y58.length:Int)) (off:=0) (id:=2) [3] (.agg (zc17 x68 x72)) t49 rfl h76 rfl hN hH rfl hH rfl rfl rfl (zt x75) rfl hH) hH (std 1 [] [.box (zc21 y58) false,.box (zc2 a0) false,bR 49 8 za (ahK y58 x68 x72) (acr y58) 0,bR 49 8 za (aed x68 x72) 0 (al2 x68 x72),bR 49 8 za qN 0 0] hH (find [jA,jB,(aa1 a0),(36,aI y59)] rfl hH hH (dn [jA,jB,(aa1 a0),(alT y59)] ?_))))
   exact ⟨_,_,Zg [jA,jB,(aa1 a0),(alT y59)] [.box (zc21 y58) false,.box (zc2 a0) false,bR 49 8 za (ahK y58 x68 x72) (acr y58) 0] hH,⟨(ahK y58 x68 x72),(zN y59),(Q1 y58).length,(Q1 y58).length,hm,rfl,rfl,hM,hN⟩⟩
  refine c0 h (je ?_)
  obtain rfl:=jf hm
  exact ⟨trivial,.tup [],[.box [aR 1 8 g60] false,bR 49 8 za y58 g62 0],hH,g60,g62,hM,hN,rfl,rfl⟩
 refine sq (rg (s1 2 [(abG a0),(6,.ptr 1 2)] (dv 8 (v:=aI (aho a0)) (zu za a0.H t23 hH) hH (fq 1 [jA,jB,(abG a0),(aci a0),(9,aI 0)] (bq ?_)))))
 refine ZR (fun mm t H=>(∃ (y88:Int),Zp n a0 k8 mm none y88=some r∧t=mk 59 [jA,jB,(abG a0),(aci a0),(9,aI y88)]∧H=[jy,.box (zc2 a0) false])∨(∃ (y87:jm) (y88:Int) (g89:Nat) (g91:Nat),Zp n a0 k8 mm (some y87) y88=some r∧t=mk 59 [jA,jB,(abG a0),(aci a0),(9,aI y88)]∧H=[.box [aR 2 8 g89] false,.box (zc2 a0) false,bR 49 8 za y87 g91 0]∧y87.length=g89∧g91≤y87.length)) (.inl ⟨0,hm,rfl,rfl⟩) ?_ ?_
 ·
   rintro _ _ (⟨y88,hm,_⟩|⟨y87,y88,g89,g91,hm,_⟩)<;>exact nomatch hm
 rintro m93 _ _ (⟨y88,hm,rfl,rfl⟩|⟨y87,y88,g89,g91,hm,rfl,rfl,q90,q92⟩)
 ·simp only [Zp] at hm
  refine sq (dn [jA,jB,(abG a0),(aci a0),(9,aI y88),(10,aB (apJ y88 a0))] ?_)
  refine sq ?_
  rcases zd hm with ⟨h,hm⟩|⟨h,hm⟩
  ·refine c1 h (jd (sq (bq (sq (rg ?_)))))
   obtain ⟨x95,h96,hm⟩:=bs hm
   refine dv 11 (v:=.pv (.ptr (Z5 x95) 0)) (zS za a0.H .i64 t23 t49 h96 (zt x95) rfl hH) hH (stf 3 [jA,jB,(4,.ptr 2 0),(abG a0),(aci a0),(9,aI y88)] [jy,.box (zc2 a0) false,.box (zc9 x95) false] hH (rgd (shd 2 [(14,.agg (zc9 x95)),(13,.pv .nils)] hH ?_)))
   obtain ⟨x97,h98,hm⟩:=bs hm
   refine dvd 15 (zC hH (Qz h98) hH hH hH) hH (std 2 [(17,aR 3 8 1),(16,aI 0)] [jy,.box (zc2 a0) false,.box (zc9 x95) false,bR 49 8 za qN 0 0] hH ?_)
   obtain ⟨_,h99,hm⟩:=bs hm
   refine dOd [(18,aR 4 8 ajl)] [jy,.box (zc2 a0) false,.box (zc9 x95) false,bR 49 8 za qN 0 0,bR 49 8 za qN 0 0] (aa6 (u:=0) za qN (b:=88) t23 t49 rfl rfl rfl Zi rfl h99 (show Zm (aR 3 8 1) _=some anp from by kernel_rfl) hH) hH ?_
   obtain ⟨x100,h101,hm⟩:=bs hm
   refine dvd 19 (v:=.eptr 4 0 ajl 8 (0+Int.toNat 0) 0) (Q2 qN .i64 (n:=qN.length) (id:=4) (esz:=8) t23 t49 h101 rfl rfl hH) hH (dOd [] [jy,.box (zc2 a0) false,.box (zc9 x95) false,bR 49 8 za qN 0 0,bR 49 8 za (atl x97) ajl 0] (ang za qN (zi x97) (n:=qN.length) (esz:=8) (v:=.agg (zc7 x97)) (j:=0) (off:=0) (id:=4) t49 rfl h101 rfl (Nat.zero_le _) rfl rfl rfl (zt x100) rfl hH) hH (std 1 [] [.box zc18 false,.box (zc2 a0) false,.box (zc9 x95) false,bR 49 8 za qN 0 0,bR 49 8 za (atl x97) ajl 0] hH (find [jA,jB,(abG a0),(aci a0),(9,aI y88)] rfl hH hH (dn [jA,jB,(abG a0),(aci a0),(aen y88)] ?_))))
   exact ⟨_,_,Zg [jA,jB,(abG a0),(aci a0),(aen y88)] [.box zc19 false,.box (zc2 a0) false,bR 49 8 za (atl x97) ajl 0] hH,.inr (⟨(atl x97),(zN y88),qN.length,qN.length,hm,rfl,rfl,hM,hN⟩)⟩
  refine c0 h (je ?_)
  exact .inl ⟨aI y88,aB (apJ y88 a0),hm,(zD hH),rfl⟩
 simp only [Zp] at hm
 refine sq (dn [jA,jB,(abG a0),(aci a0),(9,aI y88),(10,aB (apJ y88 a0))] ?_)
 refine sq ?_
 rcases zd hm with ⟨h,hm⟩|⟨h,hm⟩
 ·refine c1 h (jd (sq (bq (sq (rg ?_)))))
  obtain ⟨x103,h104,hm⟩:=bs hm
  refine dv 11 (v:=.pv (.ptr (Z5 x103) 0)) (zS za a0.H .i64 t23 t49 h104 (zt x103) rfl hH) hH (stf 3 [jA,jB,jJ,(abG a0),(aci a0),(9,aI y88)] [.box [aR 2 8 g89] false,.box (zc2 a0) false,bR 49 8 za y87 g91 0,.box (zc9 x103) false] hH (rgd (shd 2 [(14,.agg (zc9 x103)),(13,aR 2 8 g89)] hH ?_)))
  obtain ⟨x105,h106,hm⟩:=bs hm
  refine dvd 15 (zC hH (Qz h106) hH hH hH) hH (dvd 16 (v:=aI (y87.length:Int)) (ahS y87 (n:=g89) (id:=2) (esz:=8) t23 hO hH) hH (std 1 [(17,aR 4 8 1)] [.box [aR 2 8 g89] false,.box (zc2 a0) false,bR 49 8 za y87 g91 0,.box (zc9 x103) false,bR 49 8 za qN 0 0] hH ?_))
  obtain ⟨_,h107,hm⟩:=bs hm
  refine dOd [(18,aR 2 8 (acr y87))] [.box [aR 2 8 g89] false,.box (zc2 a0) false,bR 49 8 za (Q1 y87) g91 0,.box (zc9 x103) false,bR 49 8 za qN 0 0] (qV (u:=0) (n:=g89) (id:=2) za y87 qN (b:=88) t23 t49 rfl rfl rfl Zi rfl h107 rfl hO hO (show Zm (aR 4 8 1) _=some anp from by kernel_rfl) hH) hH ?_
  obtain ⟨x108,h109,hm⟩:=bs hm
  refine dvd 19 (v:=.eptr 2 0 (acr y87) 8 (0+Int.toNat (y87.length:Int)) 0) (Q2 (Q1 y87) .i64 (n:=(Q1 y87).length) (id:=2) (esz:=8) t23 t49 h109 rfl rfl hH) hH (dOd [] [.box [aR 2 8 g89] false,.box (zc2 a0) false,bR 49 8 za (alO y87 x105) (acr y87) 0,.box (zc9 x103) false,bR 49 8 za qN 0 0] (ang za (Q1 y87) (zi x105) (n:=(Q1 y87).length) (esz:=8) (v:=.agg (zc7 x105)) (j:=(y87.length:Int)) (off:=0) (id:=2) t49 rfl h109 rfl hN rfl rfl rfl (zt x108) rfl hH) hH (std 1 [] [.box (zc21 y87) false,.box (zc2 a0) false,bR 49 8 za (alO y87 x105) (acr y87) 0,.box (zc9 x103) false,bR 49 8 za qN 0 0] hH (find [jA,jB,(abG a0),(aci a0),(9,aI y88)] rfl hH hH (dn [jA,jB,(abG a0),(aci a0),(aen y88)] ?_))))
  exact ⟨_,_,Zg [jA,jB,(abG a0),(aci a0),(aen y88)] [.box (zc21 y87) false,.box (zc2 a0) false,bR 49 8 za (alO y87 x105) (acr y87) 0] hH,.inr (⟨(alO y87 x105),(zN y88),(Q1 y87).length,(Q1 y87).length,hm,rfl,rfl,hM,hN⟩)⟩
 refine c0 h (je ?_)
 exact .inr (⟨y87,aI y88,aB (apJ y88 a0),g89,g91,hm,(zD hH),rfl,hM,hN⟩)
abbrev zc22 (p0:jm):List AV:=[aR 1 8 ((p0++([(zi (zf.mk 0 0 0 (zn.mk 0 0 0 ByteArray.empty) none))]:List zb)).length)]
theorem afj (m1:Nat) (f1:Nat) {n:Nat}{a0:jm}{a1:zh}{r:jm}(hm1:a0.length=m1) (hf1:f1≤a0.length) (hm:ZZ n a0 a1=some r):
   ∃ vv H1,call G n 124 [.agg (zc2 a1),.ptr 0 0] [.box [aR 1 8 m1] false,bR 49 8 za a0 f1 0]=some (.ret vv,H1)∧(match (generalizing:=false) r with|r0=>(∃ (e1:Nat) (e2:Nat),r0.length=e1∧e2≤r0.length∧vv=.tup []∧H1=[.box [aR 1 8 e1] false,bR 49 8 za r0 e2 0])):=by
 unfold ZZ at hm
 obtain ⟨n,rfl,h0⟩:=zp hm
 replace hm:=h0;clear h0
 refine QM 59 [(0,.agg (zc2 a1)),jA] func124 rfl hH (sq (det [jA,jD] [.box [aR 1 8 m1] false,bR 49 8 za a0 f1 0,.box (zc2 a1) false] hH ?_))
 obtain ⟨k8,hk8,hm⟩:=zo hm
 refine mid (fun t H=>(∃ (y1:jm) (y2:Bool) (y3:Int) (g4:Nat) (g6:Nat),k8 y1=some r∧t=mk 59 [jA,jD,(abG a1),(aci a1),(9,aI y3),(10,aB y2)]∧H=[.box [aR 1 8 g4] false,bR 49 8 za y1 g6 0,.box (zc2 a1) false]∧y1.length=g4∧g6≤y1.length)) ?_ ?_
 ·rintro _ _ ⟨y1,y2,y3,g4,g6,hm,rfl,rfl,q5,q7⟩
  subst hk8
  refine sq (sq (rg (s1 4 [(24,aB (a1.A !=3)),(23,aB (a1.A !=3)),(22,aI a1.A),(21,.ptr 2 0)] ?_)))
  refine segP (a1.A !=3) [24,23] (fun b=>[(28,aB (b&&(a1.A !=4))),(27,ifA b (aB (a1.A !=4)) hY),(26,ifA b (aI a1.A) hY),(25,ifA b (.ptr 2 0) hY)]) 4 hH hH hH (fin [jA,jD,(28,aB ((a1.A !=3)&&(a1.A !=4)))] rfl hH ?_)
  rcases zd hm with ⟨h,hm⟩|⟨h,hm⟩
  ·refine c1 h (jc ?_)
   obtain rfl:=jf hm
   exact ⟨trivial,.tup [],[.box [aR 1 8 g4] false,bR 49 8 za y1 g6 0],hH,g4,g6,hM,hN,rfl,rfl⟩
  refine c0 h (jd (sq (rg (s1 2 [(30,.pv (aag a1)),(29,.ptr 2 3)] (dv 31 (v:=aI (ahq a1)) (zu za a1.J t23 hH) hH (s1 2 [(33,.pv (aaX a1)),(32,.ptr 2 4)] (dv 34 (v:=aI (ajI a1)) (zu za a1.L t23 hH) hH (fq 2 [jA,jD,(aa1 a1),(36,aI 0)] (bq ?_)))))))))
  refine ZR (fun mm t H=>(∃ (y16:jm) (y17:Int) (g18:Nat) (g20:Nat),Zu n a1 mm y16 y17=some r∧t=mk 59 [jA,jD,(aa1 a1),(36,aI y17)]∧H=[.box [aR 1 8 g18] false,bR 49 8 za y16 g20 0,.box (zc2 a1) false]∧y16.length=g18∧g20≤y16.length)) (⟨y1,0,g4,g6,hm,rfl,rfl,hM,hN⟩) ?_ ?_
  ·
    rintro _ _ ⟨y16,y17,g18,g20,hm,_⟩;exact nomatch hm
  rintro m22 _ _ ⟨y16,y17,g18,g20,hm,rfl,rfl,q19,q21⟩
  simp only [Zu] at hm
  refine sq (dn [jA,jD,(aa1 a1),(36,aI y17),(atp y17 a1)] ?_)
  refine sq ?_
  rcases zd hm with ⟨h,hm⟩|⟨h,hm⟩
  ·refine c1 h (jd (sq (bq (sq (dn [jA,jD,(5,aI y17),(aa1 a1),(36,aI y17)] (rgd (shd 4 [(42,aI y17),(41,.pv (aag a1)),(40,.ptr 2 3),(39,aR 1 8 g18)] hH ?_)))))))
   obtain ⟨x24,h25,hm⟩:=bs hm
   refine dvd 43 (v:=.pv (.ptr (Z5 x24) 0)) (zS za a1.J .i64 t23 t49 h25 (zt x24) rfl hH) hH (shd 1 [(44,.agg (zc9 x24))] hH ?_)
   obtain ⟨x26,h27,hm⟩:=bs hm
   refine dvd 45 (zC hH (Qz h27) hH hH hH) hH (shd 3 [(48,aI y17),(47,.pv (aaX a1)),(46,.ptr 2 4)] hH ?_)
   obtain ⟨x28,h29,hm⟩:=bs hm
   refine dvd 49 (v:=.pv (.ptr (Z5 x28) 0)) (zS za a1.L .i64 t23 t49 h29 (zt x28) rfl hH) hH (shd 1 [(50,.agg (zc9 x28))] hH ?_)
   obtain ⟨x30,h31,hm⟩:=bs hm
   refine dvd 51 (zC hH (Qz h31) hH hH hH) hH (std 2 [(53,.agg zc20),(52,aR 3 8 2)] [.box [aR 1 8 g18] false,bR 49 8 za y16 g20 0,.box (zc2 a1) false,bR 49 8 za (aed x26 x30) 0 0] hH (dvd 54 (v:=aI (y16.length:Int)) (ahS y16 (n:=g18) (id:=1) (esz:=8) t23 hO hH) hH (std 1 [(55,aR 4 8 1)] [.box [aR 1 8 g18] false,bR 49 8 za y16 g20 0,.box (zc2 a1) false,bR 49 8 za (aed x26 x30) 0 0,bR 49 8 za qN 0 0] hH ?_)))
   obtain ⟨_,h32,hm⟩:=bs hm
   refine dOd [(56,aR 1 8 (acr y16))] [.box [aR 1 8 g18] false,bR 49 8 za (Q1 y16) g20 0,.box (zc2 a1) false,bR 49 8 za (aed x26 x30) 0 0,bR 49 8 za qN 0 0] (qV (u:=0) (n:=g18) (id:=1) za y16 qN (b:=88) t23 t49 rfl rfl rfl Zi rfl h32 rfl hO hO (show Zm (aR 4 8 1) _=some anp from by kernel_rfl) hH) hH ?_
   obtain ⟨x33,h34,hm⟩:=bs hm
   refine dvd 57 (v:=.eptr 1 0 (acr y16) 8 (0+Int.toNat (y16.length:Int)) 0) (Q2 (Q1 y16) .i64 (n:=(Q1 y16).length) (id:=1) (esz:=8) t23 t49 h34 rfl rfl hH) hH (dOd [] [.box [aR 1 8 g18] false,bR 49 8 za (ahK y16 x26 x30) (acr y16) 0,.box (zc2 a1) false,bR 49 8 za (aed x26 x30) 0 (al2 x26 x30),bR 49 8 za qN 0 0] (amG za (Q1 y16) (atv x26 x30) (n:=(Q1 y16).length) (esz:=8) (v:=.agg zc20) (j:=(y16.length:Int)) (off:=0) (id:=1) [3] (.agg (zc17 x26 x30)) t49 rfl h34 rfl hN hH rfl hH rfl rfl rfl (zt x33) rfl hH) hH (std 1 [] [.box (zc22 y16) false,bR 49 8 za (ahK y16 x26 x30) (acr y16) 0,.box (zc2 a1) false,bR 49 8 za (aed x26 x30) 0 (al2 x26 x30),bR 49 8 za qN 0 0] hH (find [jA,jD,(aa1 a1),(36,aI y17)] rfl hH hH (dn [jA,jD,(aa1 a1),(alT y17)] ?_))))
   exact ⟨_,_,Zg [jA,jD,(aa1 a1),(alT y17)] [.box (zc22 y16) false,bR 49 8 za (ahK y16 x26 x30) (acr y16) 0,.box (zc2 a1) false] hH,⟨(ahK y16 x26 x30),(zN y17),(Q1 y16).length,(Q1 y16).length,hm,rfl,rfl,hM,hN⟩⟩
  refine c0 h (je ?_)
  obtain rfl:=jf hm
  exact ⟨trivial,.tup [],[.box [aR 1 8 g18] false,bR 49 8 za y16 g20 0],hH,g18,g20,hM,hN,rfl,rfl⟩
 refine sq (rg (s1 2 [(abG a1),(6,.ptr 2 2)] (dv 8 (v:=aI (aho a1)) (zu za a1.H t23 hH) hH (fq 1 [jA,jD,(abG a1),(aci a1),(9,aI 0)] (bq ?_)))))
 refine ZR (fun mm t H=>(∃ (y41:jm) (y42:Int) (g43:Nat) (g45:Nat),Z3 n a1 k8 mm y41 y42=some r∧t=mk 59 [jA,jD,(abG a1),(aci a1),(9,aI y42)]∧H=[.box [aR 1 8 g43] false,bR 49 8 za y41 g45 0,.box (zc2 a1) false]∧y41.length=g43∧g45≤y41.length)) (⟨a0,0,m1,f1,hm,rfl,rfl,hM,hN⟩) ?_ ?_
 ·
   rintro _ _ ⟨y41,y42,g43,g45,hm,_⟩;exact nomatch hm
 rintro m47 _ _ ⟨y41,y42,g43,g45,hm,rfl,rfl,q44,q46⟩
 simp only [Z3] at hm
 refine sq (dn [jA,jD,(abG a1),(aci a1),(9,aI y42),(10,aB (apJ y42 a1))] ?_)
 refine sq ?_
 rcases zd hm with ⟨h,hm⟩|⟨h,hm⟩
 ·refine c1 h (jd (sq (bq (sq (rg ?_)))))
  obtain ⟨x49,h50,hm⟩:=bs hm
  refine dv 11 (v:=.pv (.ptr (Z5 x49) 0)) (zS za a1.H .i64 t23 t49 h50 (zt x49) rfl hH) hH (stf 3 [jA,jD,jJ,(abG a1),(aci a1),(9,aI y42)] [.box [aR 1 8 g43] false,bR 49 8 za y41 g45 0,.box (zc2 a1) false,.box (zc9 x49) false] hH (rgd (shd 2 [(14,.agg (zc9 x49)),(13,aR 1 8 g43)] hH ?_)))
  obtain ⟨x51,h52,hm⟩:=bs hm
  refine dvd 15 (zC hH (Qz h52) hH hH hH) hH (dvd 16 (v:=aI (y41.length:Int)) (ahS y41 (n:=g43) (id:=1) (esz:=8) t23 hO hH) hH (std 1 [(17,aR 4 8 1)] [.box [aR 1 8 g43] false,bR 49 8 za y41 g45 0,.box (zc2 a1) false,.box (zc9 x49) false,bR 49 8 za qN 0 0] hH ?_))
  obtain ⟨_,h53,hm⟩:=bs hm
  refine dOd [(18,aR 1 8 (acr y41))] [.box [aR 1 8 g43] false,bR 49 8 za (Q1 y41) g45 0,.box (zc2 a1) false,.box (zc9 x49) false,bR 49 8 za qN 0 0] (qV (u:=0) (n:=g43) (id:=1) za y41 qN (b:=88) t23 t49 rfl rfl rfl Zi rfl h53 rfl hO hO (show Zm (aR 4 8 1) _=some anp from by kernel_rfl) hH) hH ?_
  obtain ⟨x54,h55,hm⟩:=bs hm
  refine dvd 19 (v:=.eptr 1 0 (acr y41) 8 (0+Int.toNat (y41.length:Int)) 0) (Q2 (Q1 y41) .i64 (n:=(Q1 y41).length) (id:=1) (esz:=8) t23 t49 h55 rfl rfl hH) hH (dOd [] [.box [aR 1 8 g43] false,bR 49 8 za (alO y41 x51) (acr y41) 0,.box (zc2 a1) false,.box (zc9 x49) false,bR 49 8 za qN 0 0] (ang za (Q1 y41) (zi x51) (n:=(Q1 y41).length) (esz:=8) (v:=.agg (zc7 x51)) (j:=(y41.length:Int)) (off:=0) (id:=1) t49 rfl h55 rfl hN rfl rfl rfl (zt x54) rfl hH) hH (std 1 [] [.box (zc22 y41) false,bR 49 8 za (alO y41 x51) (acr y41) 0,.box (zc2 a1) false,.box (zc9 x49) false,bR 49 8 za qN 0 0] hH (find [jA,jD,(abG a1),(aci a1),(9,aI y42)] rfl hH hH (dn [jA,jD,(abG a1),(aci a1),(aen y42)] ?_))))
  exact ⟨_,_,Zg [jA,jD,(abG a1),(aci a1),(aen y42)] [.box (zc22 y41) false,bR 49 8 za (alO y41 x51) (acr y41) 0,.box (zc2 a1) false] hH,⟨(alO y41 x51),(zN y42),(Q1 y41).length,(Q1 y41).length,hm,rfl,rfl,hM,hN⟩⟩
 refine c0 h (je ?_)
 exact ⟨y41,(apJ y42 a1),y42,g43,g45,hm,rfl,rfl,hM,hN⟩
abbrev aas:Nat×AV:=(1,kT)
theorem aet {rc_plan_walk_plan_Applied_1_2:(Nat→jm→zh→Option (jm))}(ih_plan_walk_plan_Applied_1_2:∀ (m1:Nat) (f1:Nat) {n:Nat}{a0:jm}{a1:zh}{r:jm}(hm1:a0.length=m1) (hf1:f1≤a0.length) (hm:rc_plan_walk_plan_Applied_1_2 n a0 a1=some r),∃ vv H1,call G n 123 [.agg [aI a1.A,aI a1.C,.pv (zk za a1.H),.pv (zk za a1.J),.pv (zk za a1.L),.pv (zk za a1.E),.pv (zk zl a1.D),.pv (zk zx a1.G),.pv (zk zA a1.B)],kT] [.box [aR 1 8 m1] false,bR 49 8 za a0 f1 0]=some (.ret vv,H1)∧(match (generalizing:=false) r with|r0=>(∃ (e1:Nat) (e2:Nat),r0.length=e1∧e2≤r0.length∧vv=.tup []∧H1=[.box [aR 1 8 e1] false,bR 49 8 za r0 e2 0]))) (m1:Nat) (f1:Nat) {n:Nat}{a0:jm}{a1:zh}{r:jm}(hm1:a0.length=m1) (hf1:f1≤a0.length) (hm:qA rc_plan_walk_plan_Applied_1_2 n a0 a1=some r):
   ∃ vv H1,call G n 123 [.agg (zc2 a1),kT] [.box [aR 1 8 m1] false,bR 49 8 za a0 f1 0]=some (.ret vv,H1)∧(match (generalizing:=false) r with|r0=>(∃ (e1:Nat) (e2:Nat),r0.length=e1∧e2≤r0.length∧vv=.tup []∧H1=[.box [aR 1 8 e1] false,bR 49 8 za r0 e2 0])):=by
 unfold qA at hm
 obtain ⟨n,rfl,h0⟩:=zp hm
 replace hm:=h0;clear h0
 refine QM 20 [(0,.agg (zc2 a1)),aas] func123 rfl hH (sq (det [aas,jD] [.box [aR 1 8 m1] false,bR 49 8 za a0 f1 0,.box (zc2 a1) false] hH ?_))
 obtain ⟨k8,hk8,hm⟩:=zo hm
 refine mid (fun t H=>(∃ (y1:jm) (y2:Bool) (y3:Int) (g4:Nat) (g6:Nat),k8 y1=some r∧t=mk 20 [aas,jD,(zp97 a1),(zp98 a1),(9,aI y3),(10,aB y2)]∧H=[.box [aR 1 8 g4] false,bR 49 8 za y1 g6 0,.box (zc2 a1) false]∧y1.length=g4∧g6≤y1.length)) ?_ ?_
 ·rintro _ _ ⟨y1,y2,y3,g4,g6,hm,rfl,rfl,q5,q7⟩
  subst hk8
  refine rg (s1 2 [(18,.agg (zc2 a1)),(17,kT)] ?_)
  obtain ⟨x10,h9,hm⟩:=bs hm
  obtain ⟨vv,H1,hC,g11,g12,q13,q14,rfl,rfl⟩:=afj g4 g6 hM hN h9
  refine dR [(19,.tup [])] [.box [aR 1 8 g11] false,bR 49 8 za x10 g12 0,.box (zc2 a1) false] [0,1] [.agg (zc2 a1),.ptr 0 0] hH hH hH hC hH (fin [] rfl hH ?_)
  obtain rfl:=jf hm
  exact ⟨trivial,.tup [],[.box [aR 1 8 g11] false,bR 49 8 za x10 g12 0],hH,g11,g12,hM,hN,rfl,rfl⟩
 refine sq (rg (s1 2 [(zp97 a1),(6,.ptr 2 8)] (dv 8 (v:=aI (ahp a1)) (zu zA a1.B t64 hH) hH (fq 1 [aas,jD,(zp97 a1),(zp98 a1),(9,aI 0)] (bq ?_)))))
 refine ZR (fun mm t H=>(∃ (y21:jm) (y22:Int) (g23:Nat) (g25:Nat),Zf n rc_plan_walk_plan_Applied_1_2 a1 k8 mm y21 y22=some r∧t=mk 20 [aas,jD,(zp97 a1),(zp98 a1),(9,aI y22)]∧H=[.box [aR 1 8 g23] false,bR 49 8 za y21 g25 0,.box (zc2 a1) false]∧y21.length=g23∧g25≤y21.length)) (⟨a0,0,m1,f1,hm,rfl,rfl,hM,hN⟩) ?_ ?_
 ·
   rintro _ _ ⟨y21,y22,g23,g25,hm,_⟩;exact nomatch hm
 rintro m27 _ _ ⟨y21,y22,g23,g25,hm,rfl,rfl,q24,q26⟩
 simp only [Zf] at hm
 refine sq (dn [aas,jD,(zp97 a1),(zp98 a1),(9,aI y22),(zp99 y22 a1)] ?_)
 refine sq ?_
 rcases zd hm with ⟨h,hm⟩|⟨h,hm⟩
 ·refine c1 h (jd (sq (bq (sq (rg ?_)))))
  obtain ⟨x29,h30,hm⟩:=bs hm
  refine dv 11 (v:=.pv (.ptr (acQ x29) 0)) (zS zA a1.B .i64 t64 t66 h30 (Zd x29) rfl hH) hH (stf 3 [aas,jD,(5,.ptr 3 0),(zp97 a1),(zp98 a1),(9,aI y22)] [.box [aR 1 8 g23] false,bR 49 8 za y21 g25 0,.box (zc2 a1) false,.box (zc3 x29) false] hH (rg (s1 2 [(14,kT),(13,.agg (zc3 x29))] ?_)))
  obtain ⟨x32,h31,hm⟩:=bs hm
  obtain ⟨vv,H1,hC,g33,g34,q35,q36,rfl,rfl⟩:=ih_plan_walk_plan_Applied_1_2 g23 g25 hM hN h31
  refine dR [(15,.tup [])] [.box [aR 1 8 g33] false,bR 49 8 za x32 g34 0,.box (zc2 a1) false,.box (zc3 x29) false] [0,1] [.agg (zc3 x29),kT] hH hH hH hC hH (fin [aas,jD,(zp97 a1),(zp98 a1),(9,aI y22)] rfl hH (dn [aas,jD,(zp97 a1),(zp98 a1),(aen y22)] ?_))
  exact ⟨_,_,Zg [aas,jD,(zp97 a1),(zp98 a1),(aen y22)] [.box [aR 1 8 g33] false,bR 49 8 za x32 g34 0,.box (zc2 a1) false] hH,⟨x32,(zN y22),g33,g34,hm,rfl,rfl,hM,hN⟩⟩
 refine c0 h (je ?_)
 exact ⟨y21,(afm y22 a1),y22,g23,g25,hm,rfl,rfl,hM,hN⟩
theorem aa9:∀ (m:Nat),∀ (m1:Nat) (f1:Nat) {n:Nat}{a0:jm}{a1:zh}{r:jm}(hm1:a0.length=m1) (hf1:f1≤a0.length) (hm:ZU m n a0 a1=some r),∃ vv H1,call G n 123 [.agg (zc2 a1),kT] [.box [aR 1 8 m1] false,bR 49 8 za a0 f1 0]=some (.ret vv,H1)∧(match (generalizing:=false) r with|r0=>(∃ (e1:Nat) (e2:Nat),r0.length=e1∧e2≤r0.length∧vv=.tup []∧H1=[.box [aR 1 8 e1] false,bR 49 8 za r0 e2 0]))
 |0=>by intros;rename_i hm;exact nomatch hm
 |m+1=>@fun m1 f1 n a0 a1 r hm1 hf1 hm=>
  aet (aa9 m) m1 f1 hm1 hf1 hm
theorem ae7 (m1:Nat) (f1:Nat) {n:Nat}{a0:jm}{a1:zh}{r:jm}(hm1:a0.length=m1) (hf1:f1≤a0.length) (hm:aap n a0 a1=some r):
 ∃ vv H1,call G n 123 [.agg (zc2 a1),kT] [.box [aR 1 8 m1] false,bR 49 8 za a0 f1 0]=some (.ret vv,H1)∧(match (generalizing:=false) r with|r0=>(∃ (e1:Nat) (e2:Nat),r0.length=e1∧e2≤r0.length∧vv=.tup []∧H1=[.box [aR 1 8 e1] false,bR 49 8 za r0 e2 0])):=aa9 n m1 f1 hm1 hf1 hm
end Go.Ab.S1
