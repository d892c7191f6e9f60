import Derived.Test.YtejbcaheoloahaaGreatWB1
noncomputable section
namespace Go.Ab.S1
open Go Go.Ab Go.Pl
open Go.Proofs.Tryz
set_option linter.all false
set_option maxHeartbeats 4000000
set_option maxRecDepth 100000
theorem aaa (m2:Nat) (f2:Nat) {n:Nat}{a0:(List Int)}{a1:jv}{a2:zk}{r:(List Int)×Int}(hm2:a0.length=m2) (hf2:f2≤a0.length) (hm:Zt n a0 a1 a2=some r):
   ∃ vv H1,call G n 49 [.agg (zc6 a2),.pv (.fn 61 [] []),.fn 62 [] [.ptr 0 0],.ptr 3 0] [jA,.box [aR 2 1 m2] false,bR 3 1 (rI .i64) a0 f2 0,.box [.pv (zz a1)] false]=some (.ret vv,H1)∧(match (generalizing:=false) r with|(r0,r1)=>(∃ (e2:Nat) (e3:Nat),r0.length=e2∧e3≤r0.length∧vv=aI r1∧H1=[jA,.box [aR 2 1 e2] false,bR 3 1 (rI .i64) r0 e3 0,.box [.pv (zz a1)] false])):=by
 unfold Zt at hm
 obtain ⟨n,rfl,h0⟩:=zu hm
 replace hm:=h0;clear h0
 refine ZJ 30 [(0,.agg (zc6 a2)),(1,.pv (.fn 61 [] [])),adU,jM] func49 rfl hJ (sq (det [(1,.pv (.fn 61 [] [])),adU,jM,(4,.ptr 4 0)] [jA,.box [aR 2 1 m2] false,bR 3 1 (rI .i64) a0 f2 0,.box [.pv (zz a1)] false,.box (zc6 a2) false] hJ (sq (rg (s1 2 [(zp90 a1),(11,.agg (zc6 a2))] ?_)))))
 obtain ⟨x1,h2,hm⟩:=bs hm
 refine dv 13 (zR hJ (aa9 h2) hJ hJ hJ) hJ (fq 5 [(1,.pv (.fn 61 [] [])),adU,(8,aI x1.1),(9,aI x1.2)] ?_)
 obtain ⟨k5,hk5,hm⟩:=zt hm
 refine mid (fun t H=>(∃ (y4:Int) (w3:AV),k5 y4=some r∧t=mk 30 [adU,(8,aI x1.1),(9,aI y4),(23,w3)]∧H=[jA,.box [aR 2 1 m2] false,bR 3 1 (rI .i64) a0 f2 0,.box [.pv (zz a1)] false,.box (zc6 a2) false])) ?_ ?_
 ·rintro _ _ ⟨y4,w3,hm,rfl,rfl⟩
  subst hk5
  refine sq (sq (dn [adU,(8,aI x1.1),(9,aI y4),(25,aB (y4==0))] ?_))
  rcases zf hm with ⟨h6,hm⟩|⟨h6,hm⟩
  ·refine c1 h6 (rg (s1 2 [(27,aI x1.1),(26,.fn 62 [] [.ptr 0 0])] ?_))
   obtain ⟨_,h7,hm⟩:=bs hm
   obtain ⟨vv,H1,hC,rfl,rfl⟩:=ahm m2 f2 hX hY h7
   refine dR [(28,.tup [])] [jA,.box (zc10 a0) false,bR 3 1 (rI .i64) (af5 a0) f2 0,.box [.pv (zz a1)] false,.box (zc6 a2) false] [0,1,2] [aI x1.1,.ptr 0 0] hJ hJ hJ hC hJ (fin [(9,aI y4)] rfl hJ (sq (dn [(7,aI y4)] (jf ?_))))
   obtain rfl:=ji hm
   exact ⟨trivial,aI y4,[jA,.box (zc10 a0) false,bR 3 1 (rI .i64) (af5 a0) f2 0,.box [.pv (zz a1)] false],hJ,(af5 a0).length,f2,hX,hY,rfl,rfl⟩
  refine c0 h6 (jg (sq (dn [(7,aI y4)] (jf ?_))))
  obtain rfl:=ji hm
  exact ⟨trivial,aI y4,[jA,.box [aR 2 1 m2] false,bR 3 1 (rI .i64) a0 f2 0,.box [.pv (zz a1)] false],hJ,m2,f2,hX,hY,rfl,rfl⟩
 refine sq (rg (s1 3 [(18,aB (x1.2==0)),(17,aB (x1.2==0)),(16,aI x1.2)] ?_))
 rcases zf hm with ⟨h8,hm⟩|⟨h8,hm⟩
 ·refine known [18,17] h8 hJ (s1 2 [(20,aI x1.1),(19,.pv (.fn 61 [] []))] ?_)
  obtain ⟨x9,h10,hm⟩:=bs hm
  refine dv 21 (zR hJ (aeL h10) hJ hJ hJ) hJ (fq 2 [adU,(8,aI x1.1),(9,aI x1.2),(23,aB (!x9))] ?_)
  rcases zf hm with ⟨h11,hm⟩|⟨h11,hm⟩
  ·refine c1 h11 (dn [adU,(8,aI x1.1),kK] ?_)
   exact ⟨50,.any,hm,(zH hJ),rfl⟩
  refine c0 h11 (jg ?_)
  exact ⟨x1.2,aB (!x9),hm,(zH hJ),rfl⟩
 refine known [18,17] h8 hJ (fq 5 [adU,(8,aI x1.1),(9,aI x1.2),kO] (cF hJ (jg ?_)))
 exact ⟨x1.2,aB false,hm,(zH hJ),rfl⟩
theorem aeS (m5:Nat) (f5:Nat) {n:Nat}{a0:(List Int)}{a1:jv}{a2:zm}{r:(List Int)×Int}(hm5:a0.length=m5) (hf5:f5≤a0.length) (hm:aak n a0 a1 a2=some r):
   ∃ vv H1,call G n 59 [.agg (zc3 a2),.ptr 0 0,.ptr 2 0,.ptr 3 0] [jy,.box [.pv (zz a1)] false,jC,jz,.box [aR 5 1 m5] false,bR 3 1 (rI .i64) a0 f5 0]=some (.ret vv,H1)∧(match (generalizing:=false) r with|(r0,r1)=>(∃ (e2:Nat) (e3:Nat),r0.length=e2∧e3≤r0.length∧vv=aI r1∧H1=[jy,.box [.pv (zz a1)] false,jC,jz,.box [aR 5 1 e2] false,bR 3 1 (rI .i64) r0 e3 0])):=by
 unfold aak at hm
 obtain ⟨n,rfl,h0⟩:=zu hm
 replace hm:=h0;clear h0
 refine ZJ 29 [(0,.agg (zc3 a2)),jK,jE,jM] func59 rfl hJ (sq (det [jK,jE,jM,kg] [jy,.box [.pv (zz a1)] false,jC,jz,.box [aR 5 1 m5] false,bR 3 1 (rI .i64) a0 f5 0,.box (zc3 a2) false] hJ ?_))
 refine sq (sq (dn [jK,jE,jM,kg,(7,aI a2.A)] (bq (sq (dn [jK,jE,jM,kg,(7,aI a2.A),(8,aB (a2.A==1))] ?_)))))
 rcases zf hm with ⟨h1,hm⟩|⟨h1,hm⟩
 ·refine c1 h1 (sq (rg (s1 5 [(14,kX),(13,.pv (.fn 51 [] [])),(12,.agg (zc1 a2)),(11,.ptr 6 1),(10,.fn 49 [] [.ptr 1 0])] ?_)))
  obtain ⟨⟨x3,x4⟩,h2,hm⟩:=bs hm
  obtain ⟨vv,H1,hC,g5,g6,q7,q8,rfl,rfl⟩:=aai m5 f5 hX hY h2
  refine dR [(15,aI x4)] [jy,.box [.pv (zz a1)] false,jC,jz,.box [aR 5 1 g5] false,bR 3 1 (rI .i64) x3 g6 0,.box (zc3 a2) false] [3,4,5,1] [.agg (zc1 a2),.pv (.fn 51 [] []),kX,.ptr 1 0] hJ hJ hJ hC hJ (fq 1 [(5,aI x4)] (jf ?_))
  obtain rfl:=ji hm
  exact ⟨trivial,aI x4,[jy,.box [.pv (zz a1)] false,jC,jz,.box [aR 5 1 g5] false,bR 3 1 (rI .i64) x3 g6 0],hJ,g5,g6,hX,hY,rfl,rfl⟩
 refine c0 h1 (sq (dn [jK,jE,jM,kg,(16,aB (a2.A==2))] ?_))
 rcases zf hm with ⟨h9,hm⟩|⟨h9,hm⟩
 ·refine c1 h9 (sq (rg (s1 4 [(21,kY),(20,.agg (zc1 a2)),(19,.ptr 6 1),(18,.fn 49 [] [.ptr 1 0])] ?_)))
  obtain ⟨⟨x11,x12⟩,h10,hm⟩:=bs hm
  obtain ⟨vv,H1,hC,g13,g14,q15,q16,rfl,rfl⟩:=aaa m5 f5 hX hY h10
  refine dR [(22,aI x12)] [jy,.box [.pv (zz a1)] false,jC,jz,.box [aR 5 1 g13] false,bR 3 1 (rI .i64) x11 g14 0,.box (zc3 a2) false] [3,4,5,1] [.agg (zc1 a2),.pv (.fn 61 [] []),kY,.ptr 1 0] hJ hJ hJ hC hJ (fq 1 [(5,aI x12)] (jf ?_))
  obtain rfl:=ji hm
  exact ⟨trivial,aI x12,[jy,.box [.pv (zz a1)] false,jC,jz,.box [aR 5 1 g13] false,bR 3 1 (rI .i64) x11 g14 0],hJ,g13,g14,hX,hY,rfl,rfl⟩
 refine c0 h9 (jg (sq (rg (s1 5 [(27,kW),(26,.pv (.fn 51 [] [])),(25,.agg (zc1 a2)),(24,.ptr 6 1),(23,.fn 49 [] [.ptr 1 0])] ?_))))
 obtain ⟨⟨x18,x19⟩,h17,hm⟩:=bs hm
 obtain ⟨vv,H1,hC,g20,g21,q22,q23,rfl,rfl⟩:=qL m5 f5 hX hY h17
 refine dR [(28,aI x19)] [jy,.box [.pv (zz a1)] false,jC,jz,.box [aR 5 1 g20] false,bR 3 1 (rI .i64) x18 g21 0,.box (zc3 a2) false] [4,5,1] [.agg (zc1 a2),.pv (.fn 51 [] []),kW,.ptr 1 0] hJ hJ hJ hC hJ (fq 1 [(5,aI x19)] (jf ?_))
 obtain rfl:=ji hm
 exact ⟨trivial,aI x19,[jy,.box [.pv (zz a1)] false,jC,jz,.box [aR 5 1 g20] false,bR 3 1 (rI .i64) x18 g21 0],hJ,g20,g21,hX,hY,rfl,rfl⟩
abbrev QJ:Nat×AV:=(1,lg)
abbrev Q0 (p0:jr):Nat×AV:=(8,.pv (zg zd p0))
abbrev aaf (p0:jr):Nat×AV:=(9,aI ((sll p0).length:Int))
theorem aaD {n:Nat}{a0:jv}{a1:jr}{r:(Option (List Int))×Int}(hm:qq n a0 a1=some r):
   ∃ vv H1,call G n 58 [.pv (zg zd a1),lg] [jy,.box [.pv (zz a0)] false,jC,jz,jD]=some (.ret vv,H1)∧(match (generalizing:=false) r with|(none,r0)=>(vv=aI r0∧H1=[jy,.box [.pv (zz a0)] false,jC,jz,jD])|(some r1,r0)=>(∃ (e2:Nat) (e3:Nat),r1.length=e2∧e3≤r1.length∧vv=aI r0∧H1=[jy,.box [.pv (zz a0)] false,jC,jz,.box [aR 5 1 e2] false,bR 3 1 (rI .i64) r1 e3 0])):=by
 unfold qq at hm
 obtain ⟨n,rfl,h0⟩:=zu hm
 replace hm:=h0;clear h0
 refine ZJ 21 [(zp96 a1),QJ] func58 rfl hJ (sq (dn [(zp96 a1),QJ] ?_))
 obtain ⟨k8,hk8,hm⟩:=zt hm
 refine mid (fun t H=>(∃ (w1:AV) (w2:AV),k8 none=some r∧t=mk 21 [QJ,(Q0 a1),(aaf a1),(10,w1),(11,w2)]∧H=[jy,.box [.pv (zz a0)] false,jC,jz,jD])∨(∃ (y3:(List Int)) (w1:AV) (w2:AV) (g4:Nat) (g6:Nat),k8 (some y3)=some r∧t=mk 21 [QJ,(Q0 a1),(aaf a1),(10,w1),(11,w2)]∧H=[jy,.box [.pv (zz a0)] false,jC,jz,.box [aR 5 1 g4] false,bR 3 1 (rI .i64) y3 g6 0]∧y3.length=g4∧g6≤y3.length)) ?_ ?_
 ·rintro _ _ (⟨w1,w2,hm,rfl,rfl⟩|⟨y3,w1,w2,g4,g6,hm,rfl,rfl,q5,q7⟩)
  ·subst hk8
   refine sq (dn [kF] (jf ?_))
   obtain rfl:=ji hm
   exact ⟨trivial,aI 0,[jy,.box [.pv (zz a0)] false,jC,jz,jD],hJ,rfl,rfl⟩
  subst hk8
  refine sq (dn [kF] (jf ?_))
  obtain rfl:=ji hm
  exact ⟨trivial,aI 0,[jy,.box [.pv (zz a0)] false,jC,jz,.box [aR 5 1 g4] false,bR 3 1 (rI .i64) y3 g6 0],hJ,g4,g6,hX,hY,rfl,rfl⟩
 refine sq (rg (s1 1 [(Q0 a1)] (dv 9 (v:=aI ((sll a1).length:Int)) (zP zd a1 t24 hJ) hJ (fq 1 [QJ,(Q0 a1),(aaf a1),(10,aI 0)] (bq ?_)))))
 refine qB (fun mm t H=>(∃ (y20:Int),zJ n a0 a1 k8 mm none y20=some r∧t=mk 21 [QJ,(Q0 a1),(aaf a1),(10,aI y20)]∧H=[jy,.box [.pv (zg zA a0)] false,jC,jz,jD])∨(∃ (y19:(List Int)) (y20:Int) (g21:Nat) (g23:Nat),zJ n a0 a1 k8 mm (some y19) y20=some r∧t=mk 21 [QJ,(Q0 a1),(aaf a1),(10,aI y20)]∧H=[jy,.box [.pv (zg zA a0)] false,jC,jz,.box [aR 5 1 g21] false,bR 3 1 (rI .i64) y19 g23 0]∧y19.length=g21∧g23≤y19.length)) (.inl ⟨0,hm,rfl,rfl⟩) ?_ ?_
 ·
   rintro _ _ (⟨y20,hm,_⟩|⟨y19,y20,g21,g23,hm,_⟩)<;>exact nomatch hm
 rintro m25 _ _ (⟨y20,hm,rfl,rfl⟩|⟨y19,y20,g21,g23,hm,rfl,rfl,q22,q24⟩)
 ·simp only [zJ] at hm
  refine sq (dn [QJ,(Q0 a1),(aaf a1),(10,aI y20),(11,aB (agm y20 a1))] ?_)
  refine sq ?_
  rcases zf hm with ⟨h26,hm⟩|⟨h26,hm⟩
  ·refine c1 h26 (jg (sq (bq (sq (rg ?_)))))
   obtain ⟨x27,h28,hm⟩:=bs hm
   refine dv 12 (v:=.pv (.ptr (zd x27) 0)) (qo zd a1 .i64 t24 t101 h28 rfl hJ) hJ (stf 3 [QJ,(6,.ptr 5 0),(Q0 a1),(aaf a1),(10,aI y20)] [jy,.box [.pv (zz a0)] false,jC,jz,jD,.box (zc3 x27) false] hJ (sq (rg (s1 2 [(15,.agg (zc3 x27)),(14,lg)] ?_))))
   obtain ⟨x32,h29,hm⟩:=bs hm
   rcases x32 with ⟨_|x30,x31⟩
   ·obtain ⟨vv,H1,hC,rfl,rfl⟩:=afj h29
    refine dR [(16,aI x31)] [jy,.box [.pv (zz a0)] false,jC,jz,jD,.box (zc3 x27) false] [0,1,2,3,4] [.agg (zc3 x27),.ptr 0 0,.ptr 2 0,.ptr 3 0] hJ hJ hJ hC hJ (fq 1 [QJ,(7,aI x31),(Q0 a1),(aaf a1),(10,aI y20)] (sq (dn [QJ,(7,aI x31),(Q0 a1),(aaf a1),(10,aI y20),(18,aB (x31 !=0))] ?_)))
    rcases zf hm with ⟨h33,hm⟩|⟨h33,hm⟩
    ·refine c1 h33 (sq (dn [(4,aI x31)] (jf ?_)))
     obtain rfl:=ji hm
     exact ⟨trivial,aI x31,[jy,.box [.pv (zz a0)] false,jC,jz,jD],hJ,rfl,rfl⟩
    refine c0 h33 (jg (dn [QJ,(Q0 a1),(aaf a1),(zp95 y20)] ?_))
    exact ⟨_,_,ZD [QJ,(Q0 a1),(aaf a1),(zp95 y20)] [jy,.box [.pv (zz a0)] false,jC,jz,jD] hJ,.inl ⟨(Zk y20),hm,rfl,rfl⟩⟩
   obtain ⟨vv,H1,hC,g34,q35,rfl,rfl⟩:=afj h29
   refine dR [(16,aI x31)] [jy,.box [.pv (zz a0)] false,jC,jz,.box [aR 6 1 g34] false,.box (zc3 x27) false,bR 3 1 (rI .i64) x30 0 0] [0,1,2,3,4] [.agg (zc3 x27),.ptr 0 0,.ptr 2 0,.ptr 3 0] hJ hJ hJ hC hJ (fq 1 [QJ,(7,aI x31),(Q0 a1),(aaf a1),(10,aI y20)] (sq (dn [QJ,(7,aI x31),(Q0 a1),(aaf a1),(10,aI y20),(18,aB (x31 !=0))] ?_)))
   rcases zf hm with ⟨h36,hm⟩|⟨h36,hm⟩
   ·refine c1 h36 (sq (dn [(4,aI x31)] (jf ?_)))
    obtain rfl:=ji hm
    exact ⟨trivial,aI x31,[jy,.box [.pv (zz a0)] false,jC,jz,.box [aR 5 1 g34] false,bR 3 1 (rI .i64) x30 0 0],hJ,g34,0,hX,hY,rfl,rfl⟩
   refine c0 h36 (jg (dn [QJ,(Q0 a1),(aaf a1),(zp95 y20)] ?_))
   exact ⟨_,_,ZD [QJ,(Q0 a1),(aaf a1),(zp95 y20)] [jy,.box [.pv (zz a0)] false,jC,jz,.box [aR 5 1 g34] false,bR 3 1 (rI .i64) x30 0 0] hJ,.inr (⟨x30,(Zk y20),g34,0,hm,rfl,rfl,hX,hY⟩)⟩
  refine c0 h26 (jh ?_)
  exact .inl ⟨aI y20,aB (agm y20 a1),hm,(zH hJ),rfl⟩
 simp only [zJ] at hm
 refine sq (dn [QJ,(Q0 a1),(aaf a1),(10,aI y20),(11,aB (agm y20 a1))] ?_)
 refine sq ?_
 rcases zf hm with ⟨h37,hm⟩|⟨h37,hm⟩
 ·refine c1 h37 (jg (sq (bq (sq (rg ?_)))))
  obtain ⟨x38,h39,hm⟩:=bs hm
  refine dv 12 (v:=.pv (.ptr (zd x38) 0)) (qo zd a1 .i64 t24 t101 h39 rfl hJ) hJ (stf 3 [QJ,(6,.ptr 6 0),(Q0 a1),(aaf a1),(10,aI y20)] [jy,.box [.pv (zz a0)] false,jC,jz,.box [aR 5 1 g21] false,bR 3 1 (rI .i64) y19 g23 0,.box (zc3 x38) false] hJ (sq (rg (s1 2 [(15,.agg (zc3 x38)),(14,lg)] ?_))))
  obtain ⟨⟨x41,x42⟩,h40,hm⟩:=bs hm
  obtain ⟨vv,H1,hC,g43,g44,q45,q46,rfl,rfl⟩:=aeS g21 g23 hX hY h40
  refine dR [(16,aI x42)] [jy,.box [.pv (zz a0)] false,jC,jz,.box [aR 5 1 g43] false,bR 3 1 (rI .i64) x41 g44 0,.box (zc3 x38) false] [0,1,2,3,4,5] [.agg (zc3 x38),.ptr 0 0,.ptr 2 0,.ptr 3 0] hJ hJ hJ hC hJ (fq 1 [QJ,(7,aI x42),(Q0 a1),(aaf a1),(10,aI y20)] (sq (dn [QJ,(7,aI x42),(Q0 a1),(aaf a1),(10,aI y20),(18,aB (x42 !=0))] ?_)))
  rcases zf hm with ⟨h47,hm⟩|⟨h47,hm⟩
  ·refine c1 h47 (sq (dn [(4,aI x42)] (jf ?_)))
   obtain rfl:=ji hm
   exact ⟨trivial,aI x42,[jy,.box [.pv (zz a0)] false,jC,jz,.box [aR 5 1 g43] false,bR 3 1 (rI .i64) x41 g44 0],hJ,g43,g44,hX,hY,rfl,rfl⟩
  refine c0 h47 (jg (dn [QJ,(Q0 a1),(aaf a1),(zp95 y20)] ?_))
  exact ⟨_,_,ZD [QJ,(Q0 a1),(aaf a1),(zp95 y20)] [jy,.box [.pv (zz a0)] false,jC,jz,.box [aR 5 1 g43] false,bR 3 1 (rI .i64) x41 g44 0] hJ,.inr (⟨x41,(Zk y20),g43,g44,hm,rfl,rfl,hX,hY⟩)⟩
 refine c0 h37 (jh ?_)
 exact .inr (⟨y19,aI y20,aB (agm y20 a1),g21,g23,hm,(zH hJ),rfl,hX,hY⟩)
theorem acP (m5:Nat) (f5:Nat) {n:Nat}{a0:(List Int)}{a1:jv}{a2:jr}{r:(List Int)×Int}(hm5:a0.length=m5) (hf5:f5≤a0.length) (hm:Z9 n a0 a1 a2=some r):
   ∃ vv H1,call G n 58 [.pv (zg zd a2),lg] [jy,.box [.pv (zz a1)] false,jC,jz,.box [aR 5 1 m5] false,bR 3 1 (rI .i64) a0 f5 0]=some (.ret vv,H1)∧(match (generalizing:=false) r with|(r0,r1)=>(∃ (e2:Nat) (e3:Nat),r0.length=e2∧e3≤r0.length∧vv=aI r1∧H1=[jy,.box [.pv (zz a1)] false,jC,jz,.box [aR 5 1 e2] false,bR 3 1 (rI .i64) r0 e3 0])):=by
 unfold Z9 at hm
 obtain ⟨n,rfl,h0⟩:=zu hm
 replace hm:=h0;clear h0
 refine ZJ 21 [(zp96 a2),QJ] func58 rfl hJ (sq (dn [(zp96 a2),QJ] ?_))
 obtain ⟨k8,hk8,hm⟩:=zt hm
 refine mid (fun t H=>(∃ (y1:(List Int)) (y2:Int) (y3:Bool) (g4:Nat) (g6:Nat),k8 y1=some r∧t=mk 21 [QJ,(Q0 a2),(aaf a2),(10,aI y2),(11,aB y3)]∧H=[jy,.box [.pv (zz a1)] false,jC,jz,.box [aR 5 1 g4] false,bR 3 1 (rI .i64) y1 g6 0]∧y1.length=g4∧g6≤y1.length)) ?_ ?_
 ·rintro _ _ ⟨y1,y2,y3,g4,g6,hm,rfl,rfl,q5,q7⟩
  subst hk8
  refine sq (dn [kF] (jf ?_))
  obtain rfl:=ji hm
  exact ⟨trivial,aI 0,[jy,.box [.pv (zz a1)] false,jC,jz,.box [aR 5 1 g4] false,bR 3 1 (rI .i64) y1 g6 0],hJ,g4,g6,hX,hY,rfl,rfl⟩
 refine sq (rg (s1 1 [(Q0 a2)] (dv 9 (v:=aI ((sll a2).length:Int)) (zP zd a2 t24 hJ) hJ (fq 1 [QJ,(Q0 a2),(aaf a2),(10,aI 0)] (bq ?_)))))
 refine qB (fun mm t H=>(∃ (y15:(List Int)) (y16:Int) (g17:Nat) (g19:Nat),Zg n a1 a2 k8 mm y15 y16=some r∧t=mk 21 [QJ,(Q0 a2),(aaf a2),(10,aI y16)]∧H=[jy,.box [.pv (zz a1)] false,jC,jz,.box [aR 5 1 g17] false,bR 3 1 (rI .i64) y15 g19 0]∧y15.length=g17∧g19≤y15.length)) (⟨a0,0,m5,f5,hm,rfl,rfl,hX,hY⟩) ?_ ?_
 ·
   rintro _ _ ⟨y15,y16,g17,g19,hm,_⟩;exact nomatch hm
 rintro m21 _ _ ⟨y15,y16,g17,g19,hm,rfl,rfl,q18,q20⟩
 simp only [Zg] at hm
 refine sq (dn [QJ,(Q0 a2),(aaf a2),(10,aI y16),(11,aB (agm y16 a2))] ?_)
 refine sq ?_
 rcases zf hm with ⟨h22,hm⟩|⟨h22,hm⟩
 ·refine c1 h22 (jg (sq (bq (sq (rg ?_)))))
  obtain ⟨x23,h24,hm⟩:=bs hm
  refine dv 12 (v:=.pv (.ptr (zd x23) 0)) (qo zd a2 .i64 t24 t101 h24 rfl hJ) hJ (stf 3 [QJ,(6,.ptr 6 0),(Q0 a2),(aaf a2),(10,aI y16)] [jy,.box [.pv (zz a1)] false,jC,jz,.box [aR 5 1 g17] false,bR 3 1 (rI .i64) y15 g19 0,.box (zc3 x23) false] hJ (sq (rg (s1 2 [(15,.agg (zc3 x23)),(14,lg)] ?_))))
  obtain ⟨⟨x26,x27⟩,h25,hm⟩:=bs hm
  obtain ⟨vv,H1,hC,g28,g29,q30,q31,rfl,rfl⟩:=aeS g17 g19 hX hY h25
  refine dR [(16,aI x27)] [jy,.box [.pv (zz a1)] false,jC,jz,.box [aR 5 1 g28] false,bR 3 1 (rI .i64) x26 g29 0,.box (zc3 x23) false] [0,1,2,3,4,5] [.agg (zc3 x23),.ptr 0 0,.ptr 2 0,.ptr 3 0] hJ hJ hJ hC hJ (fq 1 [QJ,(7,aI x27),(Q0 a2),(aaf a2),(10,aI y16)] (sq (dn [QJ,(7,aI x27),(Q0 a2),(aaf a2),(10,aI y16),(18,aB (x27 !=0))] ?_)))
  rcases zf hm with ⟨h32,hm⟩|⟨h32,hm⟩
  ·refine c1 h32 (sq (dn [(4,aI x27)] (jf ?_)))
   obtain rfl:=ji hm
   exact ⟨trivial,aI x27,[jy,.box [.pv (zz a1)] false,jC,jz,.box [aR 5 1 g28] false,bR 3 1 (rI .i64) x26 g29 0],hJ,g28,g29,hX,hY,rfl,rfl⟩
  refine c0 h32 (jg (dn [QJ,(Q0 a2),(aaf a2),(zp95 y16)] ?_))
  exact ⟨_,_,ZD [QJ,(Q0 a2),(aaf a2),(zp95 y16)] [jy,.box [.pv (zz a1)] false,jC,jz,.box [aR 5 1 g28] false,bR 3 1 (rI .i64) x26 g29 0] hJ,⟨x26,(Zk y16),g28,g29,hm,rfl,rfl,hX,hY⟩⟩
 refine c0 h22 (jh ?_)
 exact ⟨y15,y16,(agm y16 a2),g17,g19,hm,rfl,rfl,hX,hY⟩
abbrev ad2 (p0:(jv×Int)):=(zg zA p0.1)
theorem alb {n:Nat}{a0:zb}{a1:jv}{r:(Option (List Int))×Int}(hm:adz n a0 a1=some r):
   call G n 12 [.agg (zc0 a0),.pv (zz a1)] []=some (.ret (.tup [.pv (zg (rI .i64) r.1),aI r.2]),[]):=by
 unfold adz at hm
 obtain ⟨n,rfl,h0⟩:=zu hm
 replace hm:=h0;clear h0
 refine Z2 46 [(0,.agg (zc0 a0)),(zp81 a1)] func12 rfl hJ (sq (det [(zp81 a1),jJ] [.box (zc0 a0) false] hJ (sq (rg (s1 2 [(14,.pv (zz a1)),(13,.agg (zc0 a0))] ?_)))))
 obtain ⟨x1,h2,hm⟩:=bs hm
 refine dv 15 (zR hJ (akH h2) hJ hJ hJ) hJ (stf 6 [jJ,j2,(7,aI x1.2)] [.box (zc0 a0) false,.box [.pv (ad2 x1)] false] hJ ?_)
 refine sq (sq (dn [jJ,j2,(7,aI x1.2),(19,aB (x1.2 !=0))] ?_))
 rcases zf hm with ⟨h3,hm⟩|⟨h3,hm⟩
 ·refine c1 h3 (sq (dn [ky,(5,aI x1.2)] (jf ?_)))
  cases hm;exact hM
 refine c0 h3 (jg ?_)
 refine sq (sq (rg (s1 1 [(21,.agg (zc0 a0))] ?_)))
 obtain ⟨x4,h5,hm⟩:=bs hm
 refine dv 22 (zR hJ (akC h5) hJ hJ hJ) hJ (fq 1 [jJ,j2,(23,aB (!x4))] ?_)
 rcases zf hm with ⟨h6,hm⟩|⟨h6,hm⟩
 ·refine c1 h6 (sq (dn [ky,(5,aI 2)] (jf ?_)))
  cases hm;exact hM
 refine c0 h6 (jg (sq (det [jJ,jV] [.box (zc0 a0) false,.box [.pv (ad2 x1)] false,jy] hJ (sq (det [jJ,jV,jQ] [.box (zc0 a0) false,.box [.pv (ad2 x1)] false,jy,jD] hJ (sq (det [jJ,jV,jQ,jZ] [.box (zc0 a0) false,.box [.pv (ad2 x1)] false,jy,jD,jC] hJ (sq (det [jJ,jV,jQ,jZ,j0] [.box (zc0 a0) false,.box [.pv (ad2 x1)] false,jy,jD,jC,jB] hJ (sq (rg (s1 3 [(28,.fn 54 [] [.ptr 2 0]),(27,.pv (ahl a0)),(26,.ptr 0 1)] ?_))))))))))))
 obtain ⟨x8,h7,hm⟩:=bs hm
 obtain ⟨vv,H1,hC,rfl,rfl⟩:=ac2 h7
 refine dR [(29,aI x8)] [.box (zc0 a0) false,.box [.pv (ad2 x1)] false,jy,jD,jC,jB] [2,1] [.pv (ahl a0),.fn 54 [] [.ptr 2 0]] hJ hJ hJ hC hJ (fq 1 [jJ,(7,aI x8),jV,jQ,jZ,j0] ?_)
 obtain ⟨k16,hk16,hm⟩:=zt hm
 refine mid (fun t H=>(∃ (y11:Int) (w9:AV),k16 none y11=some r∧t=mk 46 [jJ,(7,aI y11),jV,jQ,jZ,j0,(31,w9)]∧H=[.box (zc0 a0) false,.box [.pv (ad2 x1)] false,jy,jD,jC,jB])∨(∃ (y10:(List Int)) (y11:Int) (w9:AV) (g12:Nat) (g14:Nat),k16 (some y10) y11=some r∧t=mk 46 [jJ,(7,aI y11),jV,jQ,jZ,j0,(31,w9)]∧H=[.box (zc0 a0) false,.box [.pv (ad2 x1)] false,jy,.box [aR 6 1 g12] false,jC,jB,bR 3 1 (rI .i64) y10 g14 0]∧y10.length=g12∧g14≤y10.length)) ?_ ?_
 ·rintro _ _ (⟨y11,w9,hm,rfl,rfl⟩|⟨y10,y11,w9,g12,g14,hm,rfl,rfl,q13,q15⟩)
  ·subst hk16
   obtain ⟨k28,hk28,hm⟩:=zt hm
   refine mid (fun t H=>(∃ (y23:Int) (w17:AV) (w18:AV) (w19:AV) (w20:AV) (w21:AV),k28 none y23=some r∧t=mk 46 [(2,w17),(7,aI y23),(8,w18),jQ,(10,w19),(11,w20),(37,w21)]∧H=[.box (zc0 a0) false,.box [.pv (ad2 x1)] false,jy,jD,jC,jB])∨(∃ (y22:(List Int)) (y23:Int) (w17:AV) (w18:AV) (w19:AV) (w20:AV) (w21:AV) (g24:Nat) (g26:Nat),k28 (some y22) y23=some r∧t=mk 46 [(2,w17),(7,aI y23),(8,w18),jQ,(10,w19),(11,w20),(37,w21)]∧H=[.box (zc0 a0) false,.box [.pv (ad2 x1)] false,jy,.box [aR 6 1 g24] false,jC,jB,bR 3 1 (rI .i64) y22 g26 0]∧y22.length=g24∧g26≤y22.length)) ?_ ?_
   ·rintro _ _ (⟨y23,w17,w18,w19,w20,w21,hm,rfl,rfl⟩|⟨y22,y23,w17,w18,w19,w20,w21,g24,g26,hm,rfl,rfl,q25,q27⟩)
    ·subst hk28
     refine sq (sq (dn [(7,aI y23),jQ,(43,aB (y23 !=0))] ?_))
     rcases zf hm with ⟨h29,hm⟩|⟨h29,hm⟩
     ·refine c1 h29 (sq (dn [ky,(5,aI y23)] (jf ?_)))
      cases hm;exact hM
     refine c0 h29 (jg (sq (dn [ky,kJ] (jf ?_))))
     cases hm;exact hM
    subst hk28
    refine sq (sq (dn [(7,aI y23),jQ,(43,aB (y23 !=0))] ?_))
    rcases zf hm with ⟨h30,hm⟩|⟨h30,hm⟩
    ·refine c1 h30 (sq (dn [ky,(5,aI y23)] (jf ?_)))
     cases hm;exact hM
    refine c0 h30 (jg (sq (dn [(4,aR 6 1 g24),kJ] (jf ?_))))
    obtain rfl:=ji hm
    exact ace (v:=.tup [aR 6 1 g24,aI 0]) trivial rfl hJ (qC (zK (agU (zB (n:=g24) (id:=6) (l:=y22) (R:=(rI .i64)) rfl hZ hZ)) (zK (QI) (rfl))))
   refine sq (dn [jJ,(7,aI y11),jV,jQ,jZ,j0,(37,aB (y11==0))] ?_)
   rcases zf hm with ⟨h31,hm⟩|⟨h31,hm⟩
   ·refine c1 h31 (rg (s1 3 [(40,kZ),(39,.pv (acL a0)),(38,.ptr 0 4)] ?_))
    obtain ⟨x35,h32,hm⟩:=bs hm
    rcases x35 with ⟨_|x33,x34⟩
    ·obtain ⟨vv,H1,hC,rfl,rfl⟩:=aaD h32
     refine dR [(41,aI x34)] [.box (zc0 a0) false,.box [.pv (ad2 x1)] false,jy,jD,jC,jB] [2,1,4,5,3] [.pv (acL a0),kZ] hJ hJ hJ hC hJ (fq 1 [(7,aI x34),jQ] ?_)
     exact .inl ⟨x34,.any,.any,.any,.any,.any,hm,(zH hJ),rfl⟩
    obtain ⟨vv,H1,hC,g36,g37,q38,q39,rfl,rfl⟩:=aaD h32
    refine dR [(41,aI x34)] [.box (zc0 a0) false,.box [.pv (ad2 x1)] false,jy,.box [aR 6 1 g36] false,jC,jB,bR 3 1 (rI .i64) x33 g37 0] [2,1,4,5,3] [.pv (acL a0),kZ] hJ hJ hJ hC hJ (fq 1 [(7,aI x34),jQ] ?_)
    exact .inr (⟨x33,x34,.any,.any,.any,.any,.any,g36,g37,hm,(zH hJ),rfl,hX,hY⟩)
   refine c0 h31 (jg ?_)
   exact .inl ⟨y11,.ptr 0 0,.ptr 2 0,.ptr 4 0,.ptr 5 0,aB (y11==0),hm,(zH hJ),rfl⟩
  subst hk16
  obtain ⟨k51,hk51,hm⟩:=zt hm
  refine mid (fun t H=>(∃ (y45:(List Int)) (y46:Int) (w40:AV) (w41:AV) (w42:AV) (w43:AV) (w44:AV) (g47:Nat) (g49:Nat),k51 y45 y46=some r∧t=mk 46 [(2,w40),(7,aI y46),(8,w41),jQ,(10,w42),(11,w43),(37,w44)]∧H=[.box (zc0 a0) false,.box [.pv (ad2 x1)] false,jy,.box [aR 6 1 g47] false,jC,jB,bR 3 1 (rI .i64) y45 g49 0]∧y45.length=g47∧g49≤y45.length)) ?_ ?_
  ·rintro _ _ ⟨y45,y46,w40,w41,w42,w43,w44,g47,g49,hm,rfl,rfl,q48,q50⟩
   subst hk51
   refine sq (sq (dn [(7,aI y46),jQ,(43,aB (y46 !=0))] ?_))
   rcases zf hm with ⟨h52,hm⟩|⟨h52,hm⟩
   ·refine c1 h52 (sq (dn [ky,(5,aI y46)] (jf ?_)))
    cases hm;exact hM
   refine c0 h52 (jg (sq (dn [(4,aR 6 1 g47),kJ] (jf ?_))))
   obtain rfl:=ji hm
   exact ace (v:=.tup [aR 6 1 g47,aI 0]) trivial rfl hJ (qC (zK (agU (zB (n:=g47) (id:=6) (l:=y45) (R:=(rI .i64)) rfl hZ hZ)) (zK (QI) (rfl))))
  refine sq (dn [jJ,(7,aI y11),jV,jQ,jZ,j0,(37,aB (y11==0))] ?_)
  rcases zf hm with ⟨h53,hm⟩|⟨h53,hm⟩
  ·refine c1 h53 (rg (s1 3 [(40,kZ),(39,.pv (acL a0)),(38,.ptr 0 4)] ?_))
   obtain ⟨⟨x55,x56⟩,h54,hm⟩:=bs hm
   obtain ⟨vv,H1,hC,g57,g58,q59,q60,rfl,rfl⟩:=acP g12 g14 hX hY h54
   refine dR [(41,aI x56)] [.box (zc0 a0) false,.box [.pv (ad2 x1)] false,jy,.box [aR 6 1 g57] false,jC,jB,bR 3 1 (rI .i64) x55 g58 0] [2,1,4,5,3,6] [.pv (acL a0),kZ] hJ hJ hJ hC hJ (fq 1 [(7,aI x56),jQ] ?_)
   exact ⟨x55,x56,.any,.any,.any,.any,.any,g57,g58,hm,(zH hJ),rfl,hX,hY⟩
  refine c0 h53 (jg ?_)
  exact ⟨y10,y11,.ptr 0 0,.ptr 2 0,.ptr 4 0,.ptr 5 0,aB (y11==0),g12,g14,hm,(zH hJ),rfl,hX,hY⟩
 refine sq (dn [jJ,(7,aI x8),jV,jQ,jZ,j0,(31,aB (x8==0))] ?_)
 rcases zf hm with ⟨h61,hm⟩|⟨h61,hm⟩
 ·refine c1 h61 (rg (s1 3 [(34,lh),(33,.pv (abu a0)),(32,.ptr 0 3)] ?_))
  obtain ⟨x65,h62,hm⟩:=bs hm
  rcases x65 with ⟨_|x63,x64⟩
  ·obtain ⟨vv,H1,hC,rfl,rfl⟩:=aaw h62
   refine dR [(35,aI x64)] [.box (zc0 a0) false,.box [.pv (ad2 x1)] false,jy,jD,jC,jB] [2,1,4,5,3] [.pv (abu a0),lh] hJ hJ hJ hC hJ (fq 1 [jJ,(7,aI x64),jV,jQ,jZ,j0] ?_)
   exact .inl ⟨x64,.any,hm,(zH hJ),rfl⟩
  obtain ⟨vv,H1,hC,g66,g67,q68,q69,rfl,rfl⟩:=aaw h62
  refine dR [(35,aI x64)] [.box (zc0 a0) false,.box [.pv (ad2 x1)] false,jy,.box [aR 6 1 g66] false,jC,jB,bR 3 1 (rI .i64) x63 g67 0] [2,1,4,5,3] [.pv (abu a0),lh] hJ hJ hJ hC hJ (fq 1 [jJ,(7,aI x64),jV,jQ,jZ,j0] ?_)
  exact .inr (⟨x63,x64,.any,g66,g67,hm,(zH hJ),rfl,hX,hY⟩)
 refine c0 h61 (jg ?_)
 exact .inl ⟨x8,aB (x8==0),hm,(zH hJ),rfl⟩
abbrev ad7 (p0:(List Int)):Nat×AV:=(0,aR 0 1 p0.length)
abbrev anl (p0:(List Int)) (p1:Int):Nat×AV:=(0,aR 0 1 ((p0++([(iOr .u8 (IntKind.wrap .u8 p1) 128)]:List Int)).length))
abbrev ahn (p0:Int):=([(IntKind.wrap .u8 p0)]:List Int)
abbrev ang (p0:(List Int)) (p1:Int):=((p0++([(IntKind.wrap .u8 p1)]:List Int)).length)
abbrev age (p0:Int):=([(iOr .u8 (IntKind.wrap .u8 p0) 128)]:List Int)
abbrev aqe (p0:Int):=(([(iOr .u8 (IntKind.wrap .u8 p0) 128)]:List Int).length)
abbrev ar0 (p0:Int):=(([(iOr .u8 (IntKind.wrap .u8 p0) 128)]:List Int).map (rI .u8))
abbrev ak5 (p0:(List Int)) (p1:Int):=(p0++([(iOr .u8 (IntKind.wrap .u8 p1) 128)]:List Int))
theorem aha {n:Nat}{a0:Int}{r:(List Int)}(hm:aat n a0=some r):
   ∃ vv H1,call G n 72 [.pv .nils,aU a0] []=some (.ret vv,H1)∧(match (generalizing:=false) r with|r0=>(vv=aR 0 1 r0.length∧H1=[bR 5 1 (rI .u8) r0 0 0])):=by
 unfold aat at hm
 obtain ⟨n,rfl,h0⟩:=zu hm
 replace hm:=h0;clear h0
 refine ZJ 20 [kz,(1,aU a0)] func72 rfl hJ (sq (dn [kz,(1,aU a0)] ?_))
 obtain ⟨k4,hk4,hm⟩:=zt hm
 refine mid (fun t H=>(∃ (y3:Int) (w1:AV),k4 none y3=some r∧t=mk 20 [kz,(1,aU y3),(6,w1)]∧H=[])∨(∃ (y2:(List Int)) (y3:Int) (w1:AV),k4 (some y2) y3=some r∧t=mk 20 [(0,aR 0 1 y2.length),(1,aU y3),(6,w1)]∧H=[bR 5 1 (rI .u8) y2 0 0])) ?_ ?_
 ·rintro _ _ (⟨y3,w1,hm,rfl,rfl⟩|⟨y2,y3,w1,hm,rfl,rfl⟩)
  ·subst hk4
   refine sq (rg (st 4 [(18,aR 0 1 1),(17,aY (IntKind.wrap .u8 y3)),(16,aU y3),(15,.pv .nils)] [bR 5 1 (rI .u8) (ahn y3) 0 0] hJ ?_))
   obtain ⟨_,h5,hm⟩:=bs hm
   refine dO [(19,aR 1 1 (([(IntKind.wrap .u8 y3)]:List Int).length))] [bR 5 1 (rI .u8) (ahn y3) 0 0,bR 5 1 (rI .u8) (ahn y3) 0 0] (Qa (u:=0) (rI .u8) (ahn y3) (b:=1) t29 t5 rfl rfl rfl (fun _=>rfl) rfl h5 (show zT (aR 0 1 1) _=some (([(IntKind.wrap .u8 y3)]:List Int).map (rI .u8)) from by kernel_rfl) hJ) hJ (fq 1 [(4,aR 1 1 (([(IntKind.wrap .u8 y3)]:List Int).length))] (jf ?_))
   obtain rfl:=ji hm
   exact ⟨trivial,aR 0 1 (([(IntKind.wrap .u8 y3)]:List Int).length),[bR 5 1 (rI .u8) (ahn y3) 0 0],hJ,rfl,rfl⟩
  subst hk4
  refine sq (rg (st 4 [(18,aR 1 1 1),(17,aY (IntKind.wrap .u8 y3)),(16,aU y3),(15,aR 0 1 y2.length)] [bR 5 1 (rI .u8) y2 0 0,bR 5 1 (rI .u8) (ahn y3) 0 0] hJ ?_))
  obtain ⟨_,h6,hm⟩:=bs hm
  refine dO [(19,aR 0 1 (ang y2 y3))] [bR 5 1 (rI .u8) (y2++([(IntKind.wrap .u8 y3)]:List Int)) 0 0,bR 5 1 (rI .u8) (ahn y3) 0 0] (ZF (u:=0) (n:=y2.length) (id:=0) (rI .u8) y2 (ahn y3) (b:=1) t29 t5 rfl rfl rfl (fun _=>rfl) rfl h6 rfl rfl (Nat.zero_le _) (show zT (aR 1 1 1) _=some (([(IntKind.wrap .u8 y3)]:List Int).map (rI .u8)) from by kernel_rfl) hJ) hJ (fq 1 [(4,aR 0 1 (ang y2 y3))] (jf ?_))
  obtain rfl:=ji hm
  exact ⟨trivial,aR 0 1 (ang y2 y3),[bR 5 1 (rI .u8) (y2++([(IntKind.wrap .u8 y3)]:List Int)) 0 0],hJ,rfl,rfl⟩
 refine bq ?_
 refine qB (fun mm t H=>(∃ (y12:Int),Zy n k4 mm none y12=some r∧t=mk 20 [kz,(1,aU y12)]∧H=[])∨(∃ (y11:(List Int)) (y12:Int),Zy n k4 mm (some y11) y12=some r∧t=mk 20 [(ad7 y11),(1,aU y12)]∧H=[bR 5 1 (rI .u8) y11 0 0])) (.inl ⟨a0,hm,rfl,rfl⟩) ?_ ?_
 ·
   rintro _ _ (⟨y12,hm,_⟩|⟨y11,y12,hm,_⟩)<;>exact nomatch hm
 rintro m13 _ _ (⟨y12,hm,rfl,rfl⟩|⟨y11,y12,hm,rfl,rfl⟩)
 ·simp only [Zy] at hm
  refine sq (sq (dn [kz,(1,aU y12),(6,aB (decide (y12≥128)))] ?_))
  rcases zf hm with ⟨h14,hm⟩|⟨h14,hm⟩
  ·refine c1 h14 (jg (bq (sq (rg (st 5 [(11,aR 0 1 1),(10,aY (iOr .u8 (IntKind.wrap .u8 y12) 128)),(9,aY (IntKind.wrap .u8 y12)),(8,aU y12),(7,.pv .nils)] [bR 5 1 (rI .u8) (age y12) 0 0] hJ ?_)))))
   obtain ⟨_,h15,hm⟩:=bs hm
   refine dO [(12,aR 1 1 (aqe y12))] [bR 5 1 (rI .u8) (age y12) 0 0,bR 5 1 (rI .u8) (age y12) 0 0] (Qa (u:=0) (rI .u8) (age y12) (b:=1) t29 t5 rfl rfl rfl (fun _=>rfl) rfl h15 (show zT (aR 0 1 1) _=some (ar0 y12) from by kernel_rfl) hJ) hJ (fq 1 [(0,aR 1 1 (aqe y12)),(1,aU y12)] (dn [(0,aR 1 1 (aqe y12)),(1,aU (iShr .u64 y12 7))] ?_))
   exact ⟨_,_,ZD [(0,aR 0 1 (aqe y12)),(1,aU (iShr .u64 y12 7))] [bR 5 1 (rI .u8) (age y12) 0 0] hJ,.inr (⟨(age y12),(iShr .u64 y12 7),hm,rfl,rfl⟩)⟩
  refine c0 h14 (jh ?_)
  exact .inl ⟨y12,aB (decide (y12≥128)),hm,(zH hJ),rfl⟩
 simp only [Zy] at hm
 refine sq (sq (dn [(ad7 y11),(1,aU y12),(6,aB (decide (y12≥128)))] ?_))
 rcases zf hm with ⟨h16,hm⟩|⟨h16,hm⟩
 ·refine c1 h16 (jg (bq (sq (rg (st 5 [(11,aR 1 1 1),(10,aY (iOr .u8 (IntKind.wrap .u8 y12) 128)),(9,aY (IntKind.wrap .u8 y12)),(8,aU y12),(7,aR 0 1 y11.length)] [bR 5 1 (rI .u8) y11 0 0,bR 5 1 (rI .u8) (age y12) 0 0] hJ ?_)))))
  obtain ⟨_,h17,hm⟩:=bs hm
  refine dO [(12,aR 0 1 ((y11++([(iOr .u8 (IntKind.wrap .u8 y12) 128)]:List Int)).length))] [bR 5 1 (rI .u8) (ak5 y11 y12) 0 0,bR 5 1 (rI .u8) (age y12) 0 0] (ZF (u:=0) (n:=y11.length) (id:=0) (rI .u8) y11 (age y12) (b:=1) t29 t5 rfl rfl rfl (fun _=>rfl) rfl h17 rfl rfl (Nat.zero_le _) (show zT (aR 1 1 1) _=some (ar0 y12) from by kernel_rfl) hJ) hJ (fq 1 [(anl y11 y12),(1,aU y12)] (dn [(anl y11 y12),(1,aU (iShr .u64 y12 7))] ?_))
  exact ⟨_,_,ZD [(anl y11 y12),(1,aU (iShr .u64 y12 7))] [bR 5 1 (rI .u8) (ak5 y11 y12) 0 0] hJ,.inr (⟨(ak5 y11 y12),(iShr .u64 y12 7),hm,rfl,rfl⟩)⟩
 refine c0 h16 (jh ?_)
 exact .inr (⟨y11,y12,aB (decide (y12≥128)),hm,(zH hJ),rfl⟩)
theorem qk (m0:Nat) (f0:Nat) {n:Nat}{a0:(List Int)}{a1:Int}{r:(List Int)}(hm0:a0.length=m0) (hf0:f0≤a0.length) (hm:ZV n a0 a1=some r):
   ∃ vv H1,call G n 72 [aR 0 1 m0,aU a1] [bR 5 1 (rI .u8) a0 f0 0]=some (.ret vv,H1)∧(match (generalizing:=false) r with|r0=>(∃ (e1:Nat),e1≤r0.length∧vv=aR 0 1 r0.length∧H1=[bR 5 1 (rI .u8) r0 e1 0])):=by
 unfold ZV at hm
 obtain ⟨n,rfl,h0⟩:=zu hm
 replace hm:=h0;clear h0
 refine ZJ 20 [(0,aR 0 1 m0),(1,aU a1)] func72 rfl hJ (sq (dn [(0,aR 0 1 m0),(1,aU a1)] ?_))
 obtain ⟨k8,hk8,hm⟩:=zt hm
 refine mid (fun t H=>(∃ (y1:(List Int)) (y2:Int) (y3:Bool) (g4:Nat) (g6:Nat),k8 y1 y2=some r∧t=mk 20 [(0,aR 0 1 g4),(1,aU y2),(6,aB y3)]∧H=[bR 5 1 (rI .u8) y1 g6 0]∧y1.length=g4∧g6≤y1.length)) ?_ ?_
 ·rintro _ _ ⟨y1,y2,y3,g4,g6,hm,rfl,rfl,q5,q7⟩
  subst hk8
  refine sq (rg (st 4 [(18,aR 1 1 1),(17,aY (IntKind.wrap .u8 y2)),(16,aU y2),(15,aR 0 1 g4)] [bR 5 1 (rI .u8) y1 g6 0,bR 5 1 (rI .u8) (ahn y2) 0 0] hJ ?_))
  obtain ⟨_,h9,hm⟩:=bs hm
  refine dO [(19,aR 0 1 (ang y1 y2))] [bR 5 1 (rI .u8) (y1++([(IntKind.wrap .u8 y2)]:List Int)) g6 0,bR 5 1 (rI .u8) (ahn y2) 0 0] (ZF (u:=0) (n:=g4) (id:=0) (rI .u8) y1 (ahn y2) (b:=1) t29 t5 rfl rfl rfl (fun _=>rfl) rfl h9 rfl hZ hZ (show zT (aR 1 1 1) _=some (([(IntKind.wrap .u8 y2)]:List Int).map (rI .u8)) from by kernel_rfl) hJ) hJ (fq 1 [(4,aR 0 1 (ang y1 y2))] (jf ?_))
  obtain rfl:=ji hm
  exact ⟨trivial,aR 0 1 (ang y1 y2),[bR 5 1 (rI .u8) (y1++([(IntKind.wrap .u8 y2)]:List Int)) g6 0],hJ,g6,hY,rfl,rfl⟩
 refine bq ?_
 refine qB (fun mm t H=>(∃ (y16:(List Int)) (y17:Int) (g18:Nat) (g20:Nat),Qs n k8 mm y16 y17=some r∧t=mk 20 [(0,aR 0 1 g18),(1,aU y17)]∧H=[bR 5 1 (rI .u8) y16 g20 0]∧y16.length=g18∧g20≤y16.length)) (⟨a0,a1,m0,f0,hm,rfl,rfl,hX,hY⟩) ?_ ?_
 ·
   rintro _ _ ⟨y16,y17,g18,g20,hm,_⟩;exact nomatch hm
 rintro m22 _ _ ⟨y16,y17,g18,g20,hm,rfl,rfl,q19,q21⟩
 simp only [Qs] at hm
 refine sq (sq (dn [(0,aR 0 1 g18),(1,aU y17),(6,aB (decide (y17≥128)))] ?_))
 rcases zf hm with ⟨h23,hm⟩|⟨h23,hm⟩
 ·refine c1 h23 (jg (bq (sq (rg (st 5 [(11,aR 1 1 1),(10,aY (iOr .u8 (IntKind.wrap .u8 y17) 128)),(9,aY (IntKind.wrap .u8 y17)),(8,aU y17),(7,aR 0 1 g18)] [bR 5 1 (rI .u8) y16 g20 0,bR 5 1 (rI .u8) (age y17) 0 0] hJ ?_)))))
  obtain ⟨_,h24,hm⟩:=bs hm
  refine dO [(12,aR 0 1 ((y16++([(iOr .u8 (IntKind.wrap .u8 y17) 128)]:List Int)).length))] [bR 5 1 (rI .u8) (ak5 y16 y17) g20 0,bR 5 1 (rI .u8) (age y17) 0 0] (ZF (u:=0) (n:=g18) (id:=0) (rI .u8) y16 (age y17) (b:=1) t29 t5 rfl rfl rfl (fun _=>rfl) rfl h24 rfl hZ hZ (show zT (aR 1 1 1) _=some (ar0 y17) from by kernel_rfl) hJ) hJ (fq 1 [(anl y16 y17),(1,aU y17)] (dn [(anl y16 y17),(1,aU (iShr .u64 y17 7))] ?_))
  exact ⟨_,_,ZD [(anl y16 y17),(1,aU (iShr .u64 y17 7))] [bR 5 1 (rI .u8) (ak5 y16 y17) g20 0] hJ,⟨(ak5 y16 y17),(iShr .u64 y17 7),(ak5 y16 y17).length,g20,hm,rfl,rfl,hX,hY⟩⟩
 refine c0 h23 (jh ?_)
 exact ⟨y16,y17,(decide (y17≥128)),g18,g20,hm,rfl,rfl,hX,hY⟩
theorem aeF (m0:Nat) (f0:Nat) {n:Nat}{a0:(List Int)}{a1:ByteArray}{r:(List Int)}(hm0:a0.length=m0) (hf0:f0≤a0.length) (hm:Qh n a0 a1=some r):
   ∃ vv H1,call G n 64 [aR 0 1 m0,aS a1] [bR 5 1 (rI .u8) a0 f0 0]=some (.ret vv,H1)∧(match (generalizing:=false) r with|r0=>(∃ (e1:Nat),e1≤r0.length∧vv=aR 0 1 r0.length∧H1=[bR 5 1 (rI .u8) r0 e1 0])):=by
 unfold Qh at hm
 obtain ⟨n,rfl,h0⟩:=zu hm
 replace hm:=h0;clear h0
 refine ZJ 12 [(0,aR 0 1 m0),(1,aS a1)] func64 rfl hJ (sq (dn [(0,aR 0 1 m0),(1,aS a1)] (sq (rg (s1 4 [(8,aU (IntKind.wrap .u64 (a1.size:Int))),(zp85 a1),(6,aS a1),(5,aR 0 1 m0)] ?_)))))
 obtain ⟨x2,h1,hm⟩:=bs hm
 obtain ⟨vv,H1,hC,g3,q4,rfl,rfl⟩:=qk m0 f0 hX hY h1
 refine dR [(9,aR 0 1 x2.length)] [bR 5 1 (rI .u8) x2 g3 0] [0] [aR 0 1 m0,aU (IntKind.wrap .u64 (a1.size:Int))] hJ hJ hJ hC hJ (s1 1 [(10,aS a1)] ?_)
 rcases zf hm with ⟨h5,hm⟩|⟨h5,hm⟩
 ·obtain ⟨_,h6,hm⟩:=bs hm
  refine dv 11 (v:=aR 0 1 x2.length) (afG (u:=0) (y:=aS a1) (n:=x2.length) (id:=0) (rI .u8) x2 (Qk a1) (b:=1) t29 t5 rfl rfl rfl h5 h6 rfl rfl hZ (aql (s:=a1)) hJ) hJ (fq 1 [(4,aR 0 1 x2.length)] (jf ?_))
  obtain rfl:=ji hm
  exact ⟨trivial,aR 0 1 x2.length,[bR 5 1 (rI .u8) x2 g3 0],hJ,g3,hY,rfl,rfl⟩
 obtain ⟨_,h7,hm⟩:=bs hm
 refine dO [(11,aR 0 1 ((x2++(Qk a1)).length))] [bR 5 1 (rI .u8) (x2++(Qk a1)) g3 0] (ZF (u:=0) (n:=x2.length) (id:=0) (rI .u8) x2 (Qk a1) (b:=1) t29 t5 rfl rfl rfl (fun _=>rfl) h5 h7 rfl rfl hZ (aql (s:=a1)) hJ) hJ (fq 1 [(4,aR 0 1 ((x2++(Qk a1)).length))] (jf ?_))
 obtain rfl:=ji hm
 exact ⟨trivial,aR 0 1 ((x2++(Qk a1)).length),[bR 5 1 (rI .u8) (x2++(Qk a1)) g3 0],hJ,g3,hY,rfl,rfl⟩
abbrev aeZ (p0:(Option (List ByteArray))):Nat×AV:=(1,.pv (zg rS p0))
abbrev agN:Nat×AV:=(2,.pv (.fn 64 [] []))
abbrev akk (p0:(Option (List ByteArray))):Nat×AV:=(15,aI ((sll p0).length:Int))
abbrev akt (p0:Int):Nat×AV:=(16,aI (IntKind.wrap .i64 (p0+1)))
theorem abI {n:Nat}{a0:(Option (List ByteArray))}{r:(List Int)}(hm:ZM n a0=some r):
   ∃ vv H1,call G n 63 [.pv .nils,.pv (zg rS a0),.pv (.fn 64 [] [])] []=some (.ret vv,H1)∧(match (generalizing:=false) r with|r0=>(∃ (e1:Nat),e1≤r0.length∧vv=aR 0 1 r0.length∧H1=[bR 5 1 (rI .u8) r0 e1 0])):=by
 unfold ZM at hm
 obtain ⟨n,rfl,h0⟩:=zu hm
 replace hm:=h0;clear h0
 refine ZJ 26 [kz,(aeZ a0),agN] func63 rfl hJ (sq (dn [kz,(aeZ a0),agN] (sq (rg (s1 2 [(10,.pv (zg rS a0)),(9,.pv .nils)] (dv 11 (v:=aI ((sll a0).length:Int)) (zP rS a0 t22 hJ) hJ (s1 1 [(12,aU (IntKind.wrap .u64 ((sll a0).length:Int)))] ?_)))))))
 obtain ⟨x2,h1,hm⟩:=bs hm
 obtain ⟨vv,H1,hC,rfl,rfl⟩:=aha h1
 refine dR [(13,aR 0 1 x2.length)] [bR 5 1 (rI .u8) x2 0 0] [] [.pv .nils,aU (IntKind.wrap .u64 ((sll a0).length:Int))] hJ hJ hJ hC hJ (fq 1 [(0,aR 0 1 x2.length),(aeZ a0),agN] ?_)
 obtain ⟨k8,hk8,hm⟩:=zt hm
 refine mid (fun t H=>(∃ (y3:(List Int)) (y4:Int) (y5:Bool) (g6:Nat),k8 y3=some r∧t=mk 26 [(0,aR 0 1 y3.length),agN,(14,.pv (zg rS a0)),(akk a0),(16,aI y4),(17,aB y5)]∧H=[bR 5 1 (rI .u8) y3 g6 0]∧g6≤y3.length)) ?_ ?_
 ·rintro _ _ ⟨y3,y4,y5,g6,hm,rfl,rfl,q7⟩
  subst hk8
  refine sq (dn [(6,aR 0 1 y3.length)] (jf ?_))
  obtain rfl:=ji hm
  exact ⟨trivial,aR 0 1 y3.length,[bR 5 1 (rI .u8) y3 g6 0],hJ,g6,hY,rfl,rfl⟩
 refine sq (rg (s1 1 [(14,.pv (zg rS a0))] (dv 15 (v:=aI ((sll a0).length:Int)) (zP rS a0 t22 hJ) hJ (fq 1 [(0,aR 0 1 x2.length),agN,(14,.pv (zg rS a0)),(akk a0),(16,aI 0)] (bq ?_)))))
 refine qB (fun mm t H=>(∃ (y13:(List Int)) (y14:Int) (g15:Nat),Zd n a0 k8 mm y13 y14=some r∧t=mk 26 [(ad7 y13),agN,(14,.pv (zg rS a0)),(akk a0),(16,aI y14)]∧H=[bR 5 1 (rI .u8) y13 g15 0]∧g15≤y13.length)) (⟨x2,0,0,hm,rfl,rfl,hY⟩) ?_ ?_
 ·
   rintro _ _ ⟨y13,y14,g15,hm,_⟩;exact nomatch hm
 rintro m17 _ _ ⟨y13,y14,g15,hm,rfl,rfl,q16⟩
 simp only [Zd] at hm
 refine sq (dn [(ad7 y13),agN,(14,.pv (zg rS a0)),(akk a0),(16,aI y14),(17,aB (akm y14 a0))] ?_)
 refine sq ?_
 rcases zf hm with ⟨h18,hm⟩|⟨h18,hm⟩
 ·refine c1 h18 (jg (sq (bq (sq (rg ?_)))))
  obtain ⟨x19,h20,hm⟩:=bs hm
  refine dv 18 (v:=.pv (.ptr (rS x19) 0)) (qo rS a0 .i64 t22 t9 h20 rfl hJ) hJ (fq 2 [(ad7 y13),agN,(8,aS x19),(14,.pv (zg rS a0)),(akk a0),(16,aI y14)] (rg (s1 3 [(22,aS x19),(21,aR 0 1 y13.length),(20,.pv (.fn 64 [] []))] ?_)))
  obtain ⟨x22,h21,hm⟩:=bs hm
  obtain ⟨vv,H1,hC,g23,q24,rfl,rfl⟩:=aeF y13.length g15 hX hY h21
  refine dR [(23,aR 0 1 x22.length)] [bR 5 1 (rI .u8) x22 g23 0] [0] [aR 0 1 y13.length,aS x19] hJ hJ hJ hC hJ (fq 1 [(ad7 x22),agN,(14,.pv (zg rS a0)),(akk a0),(16,aI y14)] (dn [(ad7 x22),agN,(14,.pv (zg rS a0)),(akk a0),(akt y14)] ?_))
  exact ⟨_,_,ZD [(ad7 x22),agN,(14,.pv (zg rS a0)),(akk a0),(akt y14)] [bR 5 1 (rI .u8) x22 g23 0] hJ,⟨x22,(Zk y14),g23,hm,rfl,rfl,hY⟩⟩
 refine c0 h18 (jh ?_)
 exact ⟨y13,y14,(akm y14 a0),g15,hm,rfl,rfl,hY⟩
theorem aff {n:Nat}{a0:Nat}{r:Bool}(hm:adn n a0=some r):
  call G n 228 [aF a0] []=some (.ret (aB r),[]):=by
 unfold adn at hm
 obtain ⟨n,rfl,h0⟩:=zu hm
 replace hm:=h0;clear h0
 refine Z2 6 [(0,aF a0)] func228 rfl hJ (sq (dn [(0,aF a0)] (sq (dn [(2,aB ((FloatKind.format .f64).order a0 a0 !=some .eq))] (jf ?_)))))
 cases hm;exact hM
abbrev zc11 (p0:zp):List AV:=[aI p0.A,aI p0.J,aF (Int.toNat 9221120237041090561),aS p0.L]
theorem aeJ {n:Nat}{a0:zp}{r:zp}(hm:abG n a0=some r):
   call G n 189 [.agg (zc5 a0)] []=some (.ret (.agg [aI r.A,aI r.J,aF r.O,aS r.L]),[]):=by
 unfold abG at hm
 obtain ⟨n,rfl,h0⟩:=zu hm
 replace hm:=h0;clear h0
 refine Z2 30 [(0,.agg (zc5 a0))] func189 rfl hJ (sq (det [jK,jH] [.box (zc5 a0) false,.box [aI 0,aI 0,aF 0,aS ByteArray.empty] false] hJ (sq (bq (sq (rg (s1 1 [(4,.agg (zc5 a0))] ?_)))))))
 obtain ⟨x1,h2,hm⟩:=bs hm
 refine dv 5 (zR hJ (aeK h2) hJ hJ hJ) hJ (fq 2 [jK,jH,(3,aB (!x1))] ?_)
 rcases zf hm with ⟨h3,hm⟩|⟨h3,hm⟩
 ·refine c1 h3 (sq (dn [jH] (jf ?_)))
  cases hm;exact hM
 refine c0 h3 ?_
 obtain ⟨k5,hk5,hm⟩:=zt hm
 refine mid (fun t H=>(∃ (y4:Bool),k5 y4=some r∧t=mk 30 [jK,jH,(8,aB y4)]∧H=[.box (zc5 a0) false,.box [aI 0,aI 0,aF 0,aS ByteArray.empty] false])) ?_ ?_
 ·rintro _ _ ⟨y4,hm,rfl,rfl⟩
  subst hk5
  rcases zf hm with ⟨h6,hm⟩|⟨h6,hm⟩
  ·refine c1 h6 (rg (s1 1 [(17,aF (Int.toNat 9221120237041090561))] (stf 2 [jK,jH] [.box (zc11 a0) false,.box [aI 0,aI 0,aF 0,aS ByteArray.empty] false] hJ (sq (det [jH] [.box (zc11 a0) false,.box (zc11 a0) false] hJ (jf ?_))))))
   cases hm;exact hM
  refine c0 h6 (sq (rg (s1 4 [(23,aB (a0.A==3)),(22,aB (a0.A==3)),(21,aI a0.A),kh] ?_)))
  refine segP (a0.A==3) [23,22] (fun b=>[(27,aB (b&&((FloatKind.format .f64).order a0.O 0==some .eq))),(26,ifA b (aB ((FloatKind.format .f64).order a0.O 0==some .eq)) jb),(25,ifA b (aF a0.O) jb),(24,ifA b (.ptr 0 2) jb)]) 4 hJ hJ hJ (fq 1 [jK,jH,(19,aB ((a0.A==3)&&((FloatKind.format .f64).order a0.O 0==some .eq)))] ?_)
  rcases zf hm with ⟨h7,hm⟩|⟨h7,hm⟩
  ·refine c1 h7 (det [jK,jH] [.box [aI a0.A,aI a0.J,aF 0,aS a0.L] false,.box [aI 0,aI 0,aF 0,aS ByteArray.empty] false] hJ (sq (det [jH] [.box [aI a0.A,aI a0.J,aF 0,aS a0.L] false,.box [aI a0.A,aI a0.J,aF 0,aS a0.L] false] hJ (jf ?_))))
   cases hm;exact hM
  refine c0 h7 (jg (sq (det [jH] [.box (zc5 a0) false,.box (zc5 a0) false] hJ (jf ?_))))
  cases hm;exact hM
 refine rg (s1 4 [(12,aB (a0.A==3)),(11,aB (a0.A==3)),(10,aI a0.A),kc] ?_)
 rcases zf hm with ⟨h8,hm⟩|⟨h8,hm⟩
 ·refine known [12,11] h8 hJ (s1 2 [(14,aF a0.O),(13,.ptr 0 2)] ?_)
  obtain ⟨x9,h10,hm⟩:=bs hm
  refine dv 15 (zR hJ (aff h10) hJ hJ hJ) hJ (fq 2 [jK,jH,(8,aB x9)] ?_)
  exact ⟨x9,hm,rfl,rfl⟩
 refine known [12,11] h8 hJ (fq 5 [jK,jH,(8,aB false)] ?_)
 exact ⟨false,hm,rfl,rfl⟩
theorem aiH (m0:Nat) (f0:Nat) {n:Nat}{a0:(List Int)}{a1:Int}{r:(List Int)}(hm0:a0.length=m0) (hf0:f0≤a0.length) (hm:aaO n a0 a1=some r):
   ∃ vv H1,call G n 190 [aR 0 1 m0,aI a1] [bR 5 1 (rI .u8) a0 f0 0]=some (.ret vv,H1)∧(match (generalizing:=false) r with|r0=>(∃ (e1:Nat),e1≤r0.length∧vv=aR 0 1 r0.length∧H1=[bR 5 1 (rI .u8) r0 e1 0])):=by
 unfold aaO at hm
 obtain ⟨n,rfl,h0⟩:=zu hm
 replace hm:=h0;clear h0
 refine ZJ 16 [(0,aR 0 1 m0),(1,aI a1)] func190 rfl hJ (sq (dn [(0,aR 0 1 m0),(1,aI a1)] (sq (dn [(0,aR 0 1 m0),(1,aI a1),(5,aU (iShl .u64 (IntKind.wrap .u64 a1) 1))] (sq (sq (dn [(0,aR 0 1 m0),(5,aU (iShl .u64 (IntKind.wrap .u64 a1) 1)),(10,aB (decide (a1<0)))] ?_)))))))
 rcases zf hm with ⟨h1,hm⟩|⟨h1,hm⟩
 ·refine c1 h1 (dn [(0,aR 0 1 m0),(5,aU (notI .u64 (iShl .u64 (IntKind.wrap .u64 a1) 1)))] (sq (rg (s1 2 [(14,aU (notI .u64 (iShl .u64 (IntKind.wrap .u64 a1) 1))),(13,aR 0 1 m0)] ?_))))
  obtain ⟨x3,h2,hm⟩:=bs hm
  obtain ⟨vv,H1,hC,g4,q5,rfl,rfl⟩:=qk m0 f0 hX hY h2
  refine dR [(15,aR 0 1 x3.length)] [bR 5 1 (rI .u8) x3 g4 0] [0] [aR 0 1 m0,aU (notI .u64 (iShl .u64 (IntKind.wrap .u64 a1) 1))] hJ hJ hJ hC hJ (fq 1 [(4,aR 0 1 x3.length)] (jf ?_))
  obtain rfl:=ji hm
  exact ⟨trivial,aR 0 1 x3.length,[bR 5 1 (rI .u8) x3 g4 0],hJ,g4,hY,rfl,rfl⟩
 refine c0 h1 (jg (sq (rg (s1 2 [(14,aU (iShl .u64 (IntKind.wrap .u64 a1) 1)),(13,aR 0 1 m0)] ?_))))
 obtain ⟨x7,h6,hm⟩:=bs hm
 obtain ⟨vv,H1,hC,g8,q9,rfl,rfl⟩:=qk m0 f0 hX hY h6
 refine dR [(15,aR 0 1 x7.length)] [bR 5 1 (rI .u8) x7 g8 0] [0] [aR 0 1 m0,aU (iShl .u64 (IntKind.wrap .u64 a1) 1)] hJ hJ hJ hC hJ (fq 1 [(4,aR 0 1 x7.length)] (jf ?_))
 obtain rfl:=ji hm
 exact ⟨trivial,aR 0 1 x7.length,[bR 5 1 (rI .u8) x7 g8 0],hJ,g8,hY,rfl,rfl⟩
theorem ahM {n:Nat}{a0:Nat}{r:Int}(hm:aeU n a0=some r):
   call G n 231 [aF a0] []=some (.ret (aU r),[]):=by
 unfold aeU at hm
 obtain ⟨n,rfl,h0⟩:=zu hm
 replace hm:=h0;clear h0
 refine Z2 12 [(0,aF a0)] func231 rfl hJ (sq (dn [(0,aF a0)] (sq (bq (sq (dn [(0,aF a0),(3,aB ((FloatKind.format .f64).order a0 a0 !=some .eq))] ?_))))))
 rcases zf hm with ⟨h1,hm⟩|⟨h1,hm⟩
 ·refine c1 h1 (sq (dn [(2,aU 9221120237041090561)] (jf ?_)))
  cases hm;exact hM
 refine c0 h1 (sq (dn [(0,aF a0),(7,aB ((FloatKind.format .f64).order a0 0==some .eq))] ?_))
 rcases zf hm with ⟨h2,hm⟩|⟨h2,hm⟩
 ·refine c1 h2 (sq (dn [(2,aU 0)] (jf ?_)))
  cases hm;exact hM
 refine c0 h2 (jg (sq (rg (s1 1 [(10,aF a0)] (s1 1 [(11,aU (a0:Int))] (fq 1 [(2,aU (a0:Int))] (jf ?_)))))))
 cases hm;exact hM
abbrev arM (p0:(List Int)) (p1:Int) (p2:Int):Nat×AV:=(0,aR 0 1 ((p0++([(IntKind.wrap .u8 (iShr .u64 p1 (IntKind.wrap .u64 (IntKind.wrap .i64 (8*p2)))))]:List Int)).length))
abbrev ash (p0:Int) (p1:Int):=([(IntKind.wrap .u8 (iShr .u64 p0 (IntKind.wrap .u64 (IntKind.wrap .i64 (8*p1)))))]:List Int)
abbrev ap5 (p0:(List Int)) (p1:Int) (p2:Int):=(p0++([(IntKind.wrap .u8 (iShr .u64 p1 (IntKind.wrap .u64 (IntKind.wrap .i64 (8*p2)))))]:List Int))
theorem ahF (m0:Nat) (f0:Nat) {n:Nat}{a0:(List Int)}{a1:Int}{a2:Int}{r:(List Int)}(hm0:a0.length=m0) (hf0:f0≤a0.length) (hm:aaR n a0 a1 a2=some r):
   ∃ vv H1,call G n 230 [aR 0 1 m0,aU a1,aI a2] [bR 5 1 (rI .u8) a0 f0 0]=some (.ret vv,H1)∧(match (generalizing:=false) r with|r0=>(∃ (e1:Nat) (e2:Nat),r0.length=e1∧e2≤r0.length∧vv=aR 0 1 e1∧H1=[bR 5 1 (rI .u8) r0 e2 0])):=by
 unfold aaR at hm
 obtain ⟨n,rfl,h0⟩:=zu hm
 replace hm:=h0;clear h0
 refine ZJ 26 [(0,aR 0 1 m0),(1,aU a1),(2,aI a2)] func230 rfl hJ (sq (dn [(0,aR 0 1 m0),(1,aU a1),(2,aI a2)] ?_))
 obtain ⟨k8,hk8,hm⟩:=zt hm
 refine mid (fun t H=>(∃ (y1:(List Int)) (y2:Bool) (y3:Int) (g4:Nat) (g6:Nat),k8 y1=some r∧t=mk 26 [(0,aR 0 1 g4),(1,aU a1),(7,aI y3),(13,aB y2)]∧H=[bR 5 1 (rI .u8) y1 g6 0]∧y1.length=g4∧g6≤y1.length)) ?_ ?_
 ·rintro _ _ ⟨y1,y2,y3,g4,g6,hm,rfl,rfl,q5,q7⟩
  subst hk8
  refine sq (dn [(6,aR 0 1 g4)] (jf ?_))
  obtain rfl:=ji hm
  exact ⟨trivial,aR 0 1 g4,[bR 5 1 (rI .u8) y1 g6 0],hJ,g4,g6,hX,hY,rfl,rfl⟩
 refine sq (dn [(0,aR 0 1 m0),(1,aU a1),(7,aI (IntKind.wrap .i64 ((if 8<(if 0>a2 then 0 else a2) then 8 else (if 0>a2 then 0 else a2))-1)))] (bq ?_))
 refine qB (fun mm t H=>(∃ (y15:(List Int)) (y16:Int) (g17:Nat) (g19:Nat),qF n a1 k8 mm y15 y16=some r∧t=mk 26 [(0,aR 0 1 g17),(1,aU a1),(7,aI y16)]∧H=[bR 5 1 (rI .u8) y15 g19 0]∧y15.length=g17∧g19≤y15.length)) (⟨a0,(IntKind.wrap .i64 ((if 8<(if 0>a2 then 0 else a2) then 8 else (if 0>a2 then 0 else a2))-1)),m0,f0,hm,rfl,rfl,hX,hY⟩) ?_ ?_
 ·
   rintro _ _ ⟨y15,y16,g17,g19,hm,_⟩;exact nomatch hm
 rintro m21 _ _ ⟨y15,y16,g17,g19,hm,rfl,rfl,q18,q20⟩
 simp only [qF] at hm
 refine sq (sq (dn [(0,aR 0 1 g17),(1,aU a1),(7,aI y16),(13,aB (decide (y16≥0)))] ?_))
 rcases zf hm with ⟨h22,hm⟩|⟨h22,hm⟩
 ·refine c1 h22 (jg (sq (bq (rg (s1 5 [(20,aU (IntKind.wrap .u64 (IntKind.wrap .i64 (8*y16)))),(19,aI (IntKind.wrap .i64 (8*y16))),(18,aI y16),(17,aU a1),(16,aR 0 1 g17)] ?_)))))
  obtain ⟨_,h23,hm⟩:=bs hm
  refine dv 21 (v:=aU (iShr .u64 a1 (IntKind.wrap .u64 (IntKind.wrap .i64 (8*y16))))) (shrO h23 hJ) hJ (st 2 [(23,aR 1 1 1),(22,aY (IntKind.wrap .u8 (iShr .u64 a1 (IntKind.wrap .u64 (IntKind.wrap .i64 (8*y16))))))] [bR 5 1 (rI .u8) y15 g19 0,bR 5 1 (rI .u8) (ash a1 y16) 0 0] hJ ?_)
  obtain ⟨_,h24,hm⟩:=bs hm
  refine dO [(24,aR 0 1 ((y15++([(IntKind.wrap .u8 (iShr .u64 a1 (IntKind.wrap .u64 (IntKind.wrap .i64 (8*y16)))))]:List Int)).length))] [bR 5 1 (rI .u8) (ap5 y15 a1 y16) g19 0,bR 5 1 (rI .u8) (ash a1 y16) 0 0] (ZF (u:=0) (n:=g17) (id:=0) (rI .u8) y15 (ash a1 y16) (b:=1) t29 t5 rfl rfl rfl (fun _=>rfl) rfl h24 rfl hZ hZ (show zT (aR 1 1 1) _=some (([(IntKind.wrap .u8 (iShr .u64 a1 (IntKind.wrap .u64 (IntKind.wrap .i64 (8*y16)))))]:List Int).map (rI .u8)) from by kernel_rfl) hJ) hJ (fq 1 [(arM y15 a1 y16),(1,aU a1),(7,aI y16)] (dn [(arM y15 a1 y16),(1,aU a1),(7,aI (IntKind.wrap .i64 (y16-1)))] ?_))
  exact ⟨_,_,ZD [(arM y15 a1 y16),(1,aU a1),(7,aI (IntKind.wrap .i64 (y16-1)))] [bR 5 1 (rI .u8) (ap5 y15 a1 y16) g19 0] hJ,⟨(ap5 y15 a1 y16),(IntKind.wrap .i64 (y16-1)),(ap5 y15 a1 y16).length,g19,hm,rfl,rfl,hX,hY⟩⟩
 refine c0 h22 (jh ?_)
 exact ⟨y15,(decide (y16≥0)),y16,g17,g19,hm,rfl,rfl,hX,hY⟩
theorem ahJ (m0:Nat) (f0:Nat) {n:Nat}{a0:(List Int)}{a1:Nat}{r:(List Int)}(hm0:a0.length=m0) (hf0:f0≤a0.length) (hm:Q4 n a0 a1=some r):
  ∃ vv H1,call G n 191 [aR 0 1 m0,aF a1] [bR 5 1 (rI .u8) a0 f0 0]=some (.ret vv,H1)∧(match (generalizing:=false) r with|r0=>(∃ (e1:Nat) (e2:Nat),r0.length=e1∧e2≤r0.length∧vv=aR 0 1 e1∧H1=[bR 5 1 (rI .u8) r0 e2 0])):=by
 unfold Q4 at hm
 obtain ⟨n,rfl,h0⟩:=zu hm
 replace hm:=h0;clear h0
 refine ZJ 9 [(0,aR 0 1 m0),(1,aF a1)] func191 rfl hJ (sq (dn [(0,aR 0 1 m0),(1,aF a1)] (sq (rg (s1 2 [(6,aF a1),(5,aR 0 1 m0)] ?_)))))
 obtain ⟨x1,h2,hm⟩:=bs hm
 refine dv 7 (zR hJ (ahM h2) hJ hJ hJ) hJ ?_
 obtain ⟨x4,h3,hm⟩:=bs hm
 obtain ⟨vv,H1,hC,g5,g6,q7,q8,rfl,rfl⟩:=ahF m0 f0 hX hY h3
 refine dR [(8,aR 0 1 g5)] [bR 5 1 (rI .u8) x4 g6 0] [0] [aR 0 1 m0,aU x1,aI 8] hJ hJ hJ hC hJ (fq 1 [(4,aR 0 1 g5)] (jf ?_))
 obtain rfl:=ji hm
 exact ⟨trivial,aR 0 1 g5,[bR 5 1 (rI .u8) x4 g6 0],hJ,g5,g6,hX,hY,rfl,rfl⟩
abbrev anw (p0:(List Int)) (p1:zp):Nat×AV:=(0,aR 0 1 ((p0++([(IntKind.wrap .u8 p1.A)]:List Int)).length))
abbrev akf (p0:zp):=([(IntKind.wrap .u8 p0.A)]:List Int)
abbrev afv (p0:(List Int)) (p1:zp):=((p0++([(IntKind.wrap .u8 p1.A)]:List Int)).length)
abbrev ant (p0:(List Int)) (p1:zp):=(p0++([(IntKind.wrap .u8 p1.A)]:List Int))
abbrev arI (p0:(List Int)) (p1:zp):=(((p0++([(IntKind.wrap .u8 p1.A)]:List Int))++([(IntKind.wrap .u8 p1.J)]:List Int)).length)
abbrev ari (p0:(List Int)) (p1:zp):=((p0++([(IntKind.wrap .u8 p1.A)]:List Int))++([(IntKind.wrap .u8 p1.J)]:List Int))
theorem alM (m0:Nat) (f0:Nat) {n:Nat}{a0:(List Int)}{a1:zp}{r:(List Int)}(hm0:a0.length=m0) (hf0:f0≤a0.length) (hm:adL n a0 a1=some r):
   ∃ vv H1,call G n 148 [aR 0 1 m0,.agg (zc5 a1)] [bR 5 1 (rI .u8) a0 f0 0]=some (.ret vv,H1)∧(match (generalizing:=false) r with|r0=>(∃ (e1:Nat) (e2:Nat),r0.length=e1∧e2≤r0.length∧vv=aR 0 1 e1∧H1=[bR 5 1 (rI .u8) r0 e2 0])):=by
 unfold adL at hm
 obtain ⟨n,rfl,h0⟩:=zu hm
 replace hm:=h0;clear h0
 refine ZJ 42 [(0,aR 0 1 m0),(1,.agg (zc5 a1))] func148 rfl hJ (sq (det [(0,aR 0 1 m0),jO] [bR 5 1 (rI .u8) a0 f0 0,.box (zc5 a1) false] hJ (sq (rg (s1 1 [(5,.agg (zc5 a1))] ?_)))))
 obtain ⟨x1,h2,hm⟩:=bs hm
 refine dv 6 (zR hJ (aeJ h2) hJ hJ hJ) hJ (stf 1 [(0,aR 0 1 m0),jO] [bR 5 1 (rI .u8) a0 f0 0,.box (zc5 x1) false] hJ (sq (rg (st 5 [(11,aR 2 1 1),(10,aY (IntKind.wrap .u8 x1.A)),(9,aI x1.A),j5,(7,aR 0 1 m0)] [bR 5 1 (rI .u8) a0 f0 0,.box (zc5 x1) false,bR 5 1 (rI .u8) (akf x1) 0 0] hJ ?_))))
 obtain ⟨_,h3,hm⟩:=bs hm
 refine dO [(12,aR 0 1 (afv a0 x1))] [bR 5 1 (rI .u8) (ant a0 x1) f0 0,.box (zc5 x1) false,bR 5 1 (rI .u8) (akf x1) 0 0] (ZF (u:=0) (n:=m0) (id:=0) (rI .u8) a0 (akf x1) (b:=1) t29 t5 rfl rfl rfl (fun _=>rfl) rfl h3 rfl hZ hZ (show zT (aR 2 1 1) _=some (([(IntKind.wrap .u8 x1.A)]:List Int).map (rI .u8)) from by kernel_rfl) hJ) hJ (fq 1 [(anw a0 x1),jO] (sq (sq (dn [(anw a0 x1),jO,(14,aI x1.A)] (bq (sq (dn [(anw a0 x1),jO,(14,aI x1.A),(15,aB (x1.A==1))] ?_)))))))
 rcases zf hm with ⟨h4,hm⟩|⟨h4,hm⟩
 ·refine c1 h4 (sq (rg (st 5 [(21,aR 3 1 1),(20,aY (IntKind.wrap .u8 x1.J)),(19,aI x1.J),(18,.ptr 1 1),(17,aR 0 1 (afv a0 x1))] [bR 5 1 (rI .u8) (ant a0 x1) f0 0,.box (zc5 x1) false,bR 5 1 (rI .u8) (akf x1) 0 0,bR 5 1 (rI .u8) ([(IntKind.wrap .u8 x1.J)]:List Int) 0 0] hJ ?_)))
  obtain ⟨_,h5,hm⟩:=bs hm
  refine dO [(22,aR 0 1 (arI a0 x1))] [bR 5 1 (rI .u8) (ari a0 x1) f0 0,.box (zc5 x1) false,bR 5 1 (rI .u8) (akf x1) 0 0,bR 5 1 (rI .u8) ([(IntKind.wrap .u8 x1.J)]:List Int) 0 0] (ZF (u:=0) (n:=(ant a0 x1).length) (id:=0) (rI .u8) (ant a0 x1) ([(IntKind.wrap .u8 x1.J)]:List Int) (b:=1) t29 t5 rfl rfl rfl (fun _=>rfl) rfl h5 rfl rfl hY (show zT (aR 3 1 1) _=some (([(IntKind.wrap .u8 x1.J)]:List Int).map (rI .u8)) from by kernel_rfl) hJ) hJ (fq 1 [(4,aR 0 1 (arI a0 x1))] (jf ?_))
  obtain rfl:=ji hm
  exact ⟨trivial,aR 0 1 (arI a0 x1),[bR 5 1 (rI .u8) (ari a0 x1) f0 0],hJ,(ari a0 x1).length,f0,hX,hY,rfl,rfl⟩
 refine c0 h4 (sq (dn [(anw a0 x1),jO,(14,aI x1.A),(23,aB (x1.A==2))] ?_))
 rcases zf hm with ⟨h6,hm⟩|⟨h6,hm⟩
 ·refine c1 h6 (sq (rg (s1 3 [(27,aI x1.J),(26,.ptr 1 1),(25,aR 0 1 (afv a0 x1))] ?_)))
  obtain ⟨x8,h7,hm⟩:=bs hm
  obtain ⟨vv,H1,hC,g9,q10,rfl,rfl⟩:=aiH (afv a0 x1) f0 hX hY h7
  refine dR [(28,aR 0 1 x8.length)] [bR 5 1 (rI .u8) x8 g9 0,.box (zc5 x1) false,bR 5 1 (rI .u8) (akf x1) 0 0] [0] [aR 0 1 (afv a0 x1),aI x1.J] hJ hJ hJ hC hJ (fq 1 [(4,aR 0 1 x8.length)] (jf ?_))
  obtain rfl:=ji hm
  exact ⟨trivial,aR 0 1 x8.length,[bR 5 1 (rI .u8) x8 g9 0],hJ,x8.length,g9,hX,hY,rfl,rfl⟩
 refine c0 h6 (sq (dn [(anw a0 x1),jO,(14,aI x1.A),(29,aB (x1.A==3))] ?_))
 rcases zf hm with ⟨h11,hm⟩|⟨h11,hm⟩
 ·refine c1 h11 (sq (rg (s1 3 [(33,aF x1.O),(32,.ptr 1 2),(31,aR 0 1 (afv a0 x1))] ?_)))
  obtain ⟨x13,h12,hm⟩:=bs hm
  obtain ⟨vv,H1,hC,g14,g15,q16,q17,rfl,rfl⟩:=ahJ (afv a0 x1) f0 hX hY h12
  refine dR [(34,aR 0 1 g14)] [bR 5 1 (rI .u8) x13 g15 0,.box (zc5 x1) false,bR 5 1 (rI .u8) (akf x1) 0 0] [0] [aR 0 1 (afv a0 x1),aF x1.O] hJ hJ hJ hC hJ (fq 1 [(4,aR 0 1 g14)] (jf ?_))
  obtain rfl:=ji hm
  exact ⟨trivial,aR 0 1 g14,[bR 5 1 (rI .u8) x13 g15 0],hJ,g14,g15,hX,hY,rfl,rfl⟩
 refine c0 h11 (sq (dn [(anw a0 x1),jO,(35,aB (x1.A==4))] ?_))
 rcases zf hm with ⟨h18,hm⟩|⟨h18,hm⟩
 ·refine c1 h18 (sq (rg (s1 3 [(39,aS x1.L),(38,.ptr 1 3),(37,aR 0 1 (afv a0 x1))] ?_)))
  obtain ⟨x20,h19,hm⟩:=bs hm
  obtain ⟨vv,H1,hC,g21,q22,rfl,rfl⟩:=aeF (afv a0 x1) f0 hX hY h19
  refine dR [(40,aR 0 1 x20.length)] [bR 5 1 (rI .u8) x20 g21 0,.box (zc5 x1) false,bR 5 1 (rI .u8) (akf x1) 0 0] [0] [aR 0 1 (afv a0 x1),aS x1.L] hJ hJ hJ hC hJ (fq 1 [(4,aR 0 1 x20.length)] (jf ?_))
  obtain rfl:=ji hm
  exact ⟨trivial,aR 0 1 x20.length,[bR 5 1 (rI .u8) x20 g21 0],hJ,x20.length,g21,hX,hY,rfl,rfl⟩
 refine c0 h18 (jg (sq (dn [(4,aR 0 1 (afv a0 x1))] (jf ?_))))
 obtain rfl:=ji hm
 exact ⟨trivial,aR 0 1 (afv a0 x1),[bR 5 1 (rI .u8) (ant a0 x1) f0 0],hJ,(ant a0 x1).length,f0,hX,hY,rfl,rfl⟩
abbrev aqo (p0:(List Int)) (p1:zk):Nat×AV:=(0,aR 0 1 ((p0++([(IntKind.wrap .u8 p1.A)]:List Int)).length))
abbrev aiy (p0:zk):Nat×AV:=(33,.pv (zg za p0.I))
abbrev akv (p0:zk):Nat×AV:=(34,aI ((sll p0.I).length:Int))
abbrev af1 (p0:zk):=([(IntKind.wrap .u8 p0.A)]:List Int)
abbrev al7 (p0:(List Int)) (p1:zk):=((p0++([(IntKind.wrap .u8 p1.A)]:List Int)).length)
theorem amf {rc_expr_Put_r:(Nat→(List Int)→zk→Option ((List Int)))}(ih_expr_Put_r:∀ (m0:Nat) (f0:Nat) {n:Nat}{a0:(List Int)}{a1:zk}{r:(List Int)}(hm0:a0.length=m0) (hf0:f0≤a0.length) (hm:rc_expr_Put_r n a0 a1=some r),∃ vv H1,call G n 66 [aR 0 1 m0,.agg [aI a1.A,aI a1.K,aI a1.M,aI a1.D.A,aI a1.D.J,aF a1.D.O,aS a1.D.L,.pv (zg za a1.I)]] [bR 5 1 (rI .u8) a0 f0 0]=some (.ret vv,H1)∧(match (generalizing:=false) r with|r0=>(∃ (e1:Nat) (e2:Nat),r0.length=e1∧e2≤r0.length∧vv=aR 0 1 e1∧H1=[bR 5 1 (rI .u8) r0 e2 0]))) (m0:Nat) (f0:Nat) {n:Nat}{a0:(List Int)}{a1:zk}{r:(List Int)}(hm0:a0.length=m0) (hf0:f0≤a0.length) (hm:acW rc_expr_Put_r n a0 a1=some r):
   ∃ vv H1,call G n 66 [aR 0 1 m0,.agg (zc6 a1)] [bR 5 1 (rI .u8) a0 f0 0]=some (.ret vv,H1)∧(match (generalizing:=false) r with|r0=>(∃ (e1:Nat) (e2:Nat),r0.length=e1∧e2≤r0.length∧vv=aR 0 1 e1∧H1=[bR 5 1 (rI .u8) r0 e2 0])):=by
 unfold acW at hm
 obtain ⟨n,rfl,h0⟩:=zu hm
 replace hm:=h0;clear h0
 refine ZJ 44 [(0,aR 0 1 m0),(1,.agg (zc6 a1))] func66 rfl hJ (sq (det [(0,aR 0 1 m0),jO] [bR 5 1 (rI .u8) a0 f0 0,.box (zc6 a1) false] hJ (sq (rg (st 5 [(11,aR 2 1 1),(10,aY (IntKind.wrap .u8 a1.A)),(9,aI a1.A),j5,(7,aR 0 1 m0)] [bR 5 1 (rI .u8) a0 f0 0,.box (zc6 a1) false,bR 5 1 (rI .u8) (af1 a1) 0 0] hJ ?_)))))
 obtain ⟨_,h1,hm⟩:=bs hm
 refine dO [(12,aR 0 1 (al7 a0 a1))] [bR 5 1 (rI .u8) (a0++([(IntKind.wrap .u8 a1.A)]:List Int)) f0 0,.box (zc6 a1) false,bR 5 1 (rI .u8) (af1 a1) 0 0] (ZF (u:=0) (n:=m0) (id:=0) (rI .u8) a0 (af1 a1) (b:=1) t29 t5 rfl rfl rfl (fun _=>rfl) rfl h1 rfl hZ hZ (show zT (aR 2 1 1) _=some (([(IntKind.wrap .u8 a1.A)]:List Int).map (rI .u8)) from by kernel_rfl) hJ) hJ (fq 1 [(aqo a0 a1),jO] ?_)
 obtain ⟨k8,hk8,hm⟩:=zt hm
 refine mid (fun t H=>(∃ (y3:(List Int)) (w2:AV) (g4:Nat) (g6:Nat),k8 y3=some r∧t=mk 44 [(0,aR 0 1 g4),jO,(26,w2)]∧H=[bR 5 1 (rI .u8) y3 g6 0,.box (zc6 a1) false,bR 5 1 (rI .u8) (af1 a1) 0 0]∧y3.length=g4∧g6≤y3.length)) ?_ ?_
 ·rintro _ _ ⟨y3,w2,g4,g6,hm,rfl,rfl,q5,q7⟩
  subst hk8
  obtain ⟨k16,hk16,hm⟩:=zt hm
  refine mid (fun t H=>(∃ (y9:(List Int)) (y10:Int) (y11:Bool) (g12:Nat) (g14:Nat),k16 y9=some r∧t=mk 44 [(0,aR 0 1 g12),(aiy a1),(akv a1),(35,aI y10),(36,aB y11)]∧H=[bR 5 1 (rI .u8) y9 g14 0,.box (zc6 a1) false,bR 5 1 (rI .u8) (af1 a1) 0 0]∧y9.length=g12∧g14≤y9.length)) ?_ ?_
  ·rintro _ _ ⟨y9,y10,y11,g12,g14,hm,rfl,rfl,q13,q15⟩
   subst hk16
   refine sq (dn [(4,aR 0 1 g12)] (jf ?_))
   obtain rfl:=ji hm
   exact ⟨trivial,aR 0 1 g12,[bR 5 1 (rI .u8) y9 g14 0],hJ,g12,g14,hX,hY,rfl,rfl⟩
  refine sq (rg (s1 2 [(aiy a1),(32,.ptr 1 7)] (dv 34 (v:=aI ((sll a1.I).length:Int)) (zP za a1.I t23 hJ) hJ (fq 1 [(0,aR 0 1 g4),(aiy a1),(akv a1),(35,aI 0)] (bq ?_)))))
  refine qB (fun mm t H=>(∃ (y23:(List Int)) (y24:Int) (g25:Nat) (g27:Nat),QU n rc_expr_Put_r a1 k16 mm y23 y24=some r∧t=mk 44 [(0,aR 0 1 g25),(aiy a1),(akv a1),(35,aI y24)]∧H=[bR 5 1 (rI .u8) y23 g27 0,.box (zc6 a1) false,bR 5 1 (rI .u8) (af1 a1) 0 0]∧y23.length=g25∧g27≤y23.length)) (⟨y3,0,g4,g6,hm,rfl,rfl,hX,hY⟩) ?_ ?_
  ·
    rintro _ _ ⟨y23,y24,g25,g27,hm,_⟩;exact nomatch hm
  rintro m29 _ _ ⟨y23,y24,g25,g27,hm,rfl,rfl,q26,q28⟩
  simp only [QU] at hm
  refine sq (dn [(0,aR 0 1 g25),(aiy a1),(akv a1),(35,aI y24),(36,aB (aiw y24 a1))] ?_)
  refine sq ?_
  rcases zf hm with ⟨h30,hm⟩|⟨h30,hm⟩
  ·refine c1 h30 (jg (sq (bq (sq (rg ?_)))))
   obtain ⟨x31,h32,hm⟩:=bs hm
   refine dv 37 (v:=.pv (.ptr (abe x31) 0)) (aaA za a1.I .i64 t23 t49 h32 (zU x31) rfl hJ) hJ (stf 3 [(0,aR 0 1 g25),(6,.ptr 3 0),(aiy a1),(akv a1),(35,aI y24)] [bR 5 1 (rI .u8) y23 g27 0,.box (zc6 a1) false,bR 5 1 (rI .u8) (af1 a1) 0 0,.box (zc8 x31) false] hJ (rg (s1 2 [(40,.agg (zc8 x31)),(39,aR 0 1 g25)] ?_)))
   obtain ⟨x34,h33,hm⟩:=bs hm
   obtain ⟨vv,H1,hC,g35,g36,q37,q38,rfl,rfl⟩:=ih_expr_Put_r g25 g27 hX hY h33
   refine dR [(41,aR 0 1 g35)] [bR 5 1 (rI .u8) x34 g36 0,.box (zc6 a1) false,bR 5 1 (rI .u8) (af1 a1) 0 0,.box (zc8 x31) false] [0] [aR 0 1 g25,.agg (zc8 x31)] hJ hJ hJ hC hJ (fq 1 [(0,aR 0 1 g35),(aiy a1),(akv a1),(35,aI y24)] (dn [(0,aR 0 1 g35),(aiy a1),(akv a1),(35,aI (Zk y24))] ?_))
   exact ⟨_,_,ZD [(0,aR 0 1 g35),(aiy a1),(akv a1),(35,aI (Zk y24))] [bR 5 1 (rI .u8) x34 g36 0,.box (zc6 a1) false,bR 5 1 (rI .u8) (af1 a1) 0 0] hJ,⟨x34,(Zk y24),g35,g36,hm,rfl,rfl,hX,hY⟩⟩
  refine c0 h30 (jh ?_)
  exact ⟨y23,y24,(aiw y24 a1),g25,g27,hm,rfl,rfl,hX,hY⟩
 refine sq (dn [(aqo a0 a1),jO,(14,aI a1.A)] (bq (sq (dn [(aqo a0 a1),jO,(14,aI a1.A),(15,aB (a1.A==1))] ?_))))
 rcases zf hm with ⟨h39,hm⟩|⟨h39,hm⟩
 ·refine c1 h39 (rgd (shd 4 [(20,aU (IntKind.wrap .u64 a1.K)),(19,aI a1.K),(18,.ptr 1 1),(17,aR 0 1 (al7 a0 a1))] hJ ?_))
  obtain ⟨x41,h40,hm⟩:=bs hm
  obtain ⟨vv,H1,hC,g42,q43,rfl,rfl⟩:=qk (al7 a0 a1) f0 hX hY h40
  refine dRd [(21,aR 0 1 x41.length)] [bR 5 1 (rI .u8) x41 g42 0,.box (zc6 a1) false,bR 5 1 (rI .u8) (af1 a1) 0 0] [0] [aR 0 1 (al7 a0 a1),aU (IntKind.wrap .u64 a1.K)] hJ hJ hJ hC hJ (shd 3 [(24,aU (IntKind.wrap .u64 a1.M)),(23,aI a1.M),(22,.ptr 1 2)] hJ ?_)
  obtain ⟨x45,h44,hm⟩:=bs hm
  obtain ⟨vv,H1,hC,g46,q47,rfl,rfl⟩:=qk x41.length g42 hX hY h44
  refine dRd [(25,aR 0 1 x45.length)] [bR 5 1 (rI .u8) x45 g46 0,.box (zc6 a1) false,bR 5 1 (rI .u8) (af1 a1) 0 0] [0] [aR 0 1 x41.length,aU (IntKind.wrap .u64 a1.M)] hJ hJ hJ hC hJ (shd 1 [(ad7 x45)] hJ (find [(ad7 x45),jO] rfl hJ hJ ?_))
  exact ⟨x45,.any,x45.length,g46,hm,(zH hJ),rfl,hX,hY⟩
 refine c0 h39 (sq (dn [(aqo a0 a1),jO,(26,aB (a1.A==2))] ?_))
 rcases zf hm with ⟨h48,hm⟩|⟨h48,hm⟩
 ·refine c1 h48 (rg (s1 3 [(30,.agg (zc7 a1)),(29,.ptr 1 3),(28,aR 0 1 (al7 a0 a1))] ?_))
  obtain ⟨x50,h49,hm⟩:=bs hm
  obtain ⟨vv,H1,hC,g51,g52,q53,q54,rfl,rfl⟩:=alM (al7 a0 a1) f0 hX hY h49
  refine dR [(31,aR 0 1 g51)] [bR 5 1 (rI .u8) x50 g52 0,.box (zc6 a1) false,bR 5 1 (rI .u8) (af1 a1) 0 0] [0] [aR 0 1 (al7 a0 a1),.agg (zc7 a1)] hJ hJ hJ hC hJ (fq 1 [(0,aR 0 1 g51),jO] ?_)
  exact ⟨x50,.any,g51,g52,hm,(zH hJ),rfl,hX,hY⟩
 refine c0 h48 (jg ?_)
 exact ⟨(a0++([(IntKind.wrap .u8 a1.A)]:List Int)),aB (a1.A==2),(a0++([(IntKind.wrap .u8 a1.A)]:List Int)).length,f0,hm,(zH hJ),rfl,hX,hY⟩
theorem agK:∀ (m:Nat),∀ (m0:Nat) (f0:Nat) {n:Nat}{a0:(List Int)}{a1:zk}{r:(List Int)}(hm0:a0.length=m0) (hf0:f0≤a0.length) (hm:aax m n a0 a1=some r),∃ vv H1,call G n 66 [aR 0 1 m0,.agg (zc6 a1)] [bR 5 1 (rI .u8) a0 f0 0]=some (.ret vv,H1)∧(match (generalizing:=false) r with|r0=>(∃ (e1:Nat) (e2:Nat),r0.length=e1∧e2≤r0.length∧vv=aR 0 1 e1∧H1=[bR 5 1 (rI .u8) r0 e2 0]))
 |0=>by intros;rename_i hm;exact nomatch hm
 |m+1=>@fun m0 f0 n a0 a1 r hm0 hf0 hm=>
  amf (agK m) m0 f0 hm0 hf0 hm
theorem ah4 (m0:Nat) (f0:Nat) {n:Nat}{a0:(List Int)}{a1:zk}{r:(List Int)}(hm0:a0.length=m0) (hf0:f0≤a0.length) (hm:aeH n a0 a1=some r):
 ∃ vv H1,call G n 66 [aR 0 1 m0,.agg (zc6 a1)] [bR 5 1 (rI .u8) a0 f0 0]=some (.ret vv,H1)∧(match (generalizing:=false) r with|r0=>(∃ (e1:Nat) (e2:Nat),r0.length=e1∧e2≤r0.length∧vv=aR 0 1 e1∧H1=[bR 5 1 (rI .u8) r0 e2 0])):=agK n m0 f0 hm0 hf0 hm
abbrev aey (p0:jo):Nat×AV:=(1,.pv (zg za p0))
abbrev agG:Nat×AV:=(2,.pv (.fn 66 [] []))
abbrev ajj (p0:jo):Nat×AV:=(14,.pv (zg za p0))
abbrev ajU (p0:jo):Nat×AV:=(15,aI ((sll p0).length:Int))
theorem aaW (m0:Nat) (f0:Nat) {n:Nat}{a0:(List Int)}{a1:jo}{r:(List Int)}(hm0:a0.length=m0) (hf0:f0≤a0.length) (hm:Z8 n a0 a1=some r):
   ∃ vv H1,call G n 65 [aR 0 1 m0,.pv (acK a1),.pv (.fn 66 [] [])] [bR 5 1 (rI .u8) a0 f0 0]=some (.ret vv,H1)∧(match (generalizing:=false) r with|r0=>(∃ (e1:Nat) (e2:Nat),r0.length=e1∧e2≤r0.length∧vv=aR 0 1 e1∧H1=[bR 5 1 (rI .u8) r0 e2 0])):=by
 unfold Z8 at hm
 obtain ⟨n,rfl,h0⟩:=zu hm
 replace hm:=h0;clear h0
 refine ZJ 26 [(0,aR 0 1 m0),(aey a1),agG] func65 rfl hJ (sq (dn [(0,aR 0 1 m0),(aey a1),agG] (sq (rg (s1 2 [(10,.pv (acK a1)),(9,aR 0 1 m0)] (dv 11 (v:=aI (afn a1)) (zP za a1 t23 hJ) hJ (s1 1 [(12,aU (IntKind.wrap .u64 ((sll a1).length:Int)))] ?_)))))))
 obtain ⟨x2,h1,hm⟩:=bs hm
 obtain ⟨vv,H1,hC,g3,q4,rfl,rfl⟩:=qk m0 f0 hX hY h1
 refine dR [(13,aR 0 1 x2.length)] [bR 5 1 (rI .u8) x2 g3 0] [0] [aR 0 1 m0,aU (IntKind.wrap .u64 ((sll a1).length:Int))] hJ hJ hJ hC hJ (fq 1 [(0,aR 0 1 x2.length),(aey a1),agG] ?_)
 obtain ⟨k12,hk12,hm⟩:=zt hm
 refine mid (fun t H=>(∃ (y5:(List Int)) (y6:Int) (y7:Bool) (g8:Nat) (g10:Nat),k12 y5=some r∧t=mk 26 [(0,aR 0 1 g8),agG,(ajj a1),(ajU a1),(16,aI y6),(17,aB y7)]∧H=[bR 5 1 (rI .u8) y5 g10 0]∧y5.length=g8∧g10≤y5.length)) ?_ ?_
 ·rintro _ _ ⟨y5,y6,y7,g8,g10,hm,rfl,rfl,q9,q11⟩
  subst hk12
  refine sq (dn [(6,aR 0 1 g8)] (jf ?_))
  obtain rfl:=ji hm
  exact ⟨trivial,aR 0 1 g8,[bR 5 1 (rI .u8) y5 g10 0],hJ,g8,g10,hX,hY,rfl,rfl⟩
 refine sq (rg (s1 1 [(ajj a1)] (dv 15 (v:=aI (afn a1)) (zP za a1 t23 hJ) hJ (fq 1 [(0,aR 0 1 x2.length),agG,(ajj a1),(ajU a1),(16,aI 0)] (bq ?_)))))
 refine qB (fun mm t H=>(∃ (y19:(List Int)) (y20:Int) (g21:Nat) (g23:Nat),Zz n a1 k12 mm y19 y20=some r∧t=mk 26 [(0,aR 0 1 g21),agG,(ajj a1),(ajU a1),(16,aI y20)]∧H=[bR 5 1 (rI .u8) y19 g23 0]∧y19.length=g21∧g23≤y19.length)) (⟨x2,0,x2.length,g3,hm,rfl,rfl,hX,hY⟩) ?_ ?_
 ·
   rintro _ _ ⟨y19,y20,g21,g23,hm,_⟩;exact nomatch hm
 rintro m25 _ _ ⟨y19,y20,g21,g23,hm,rfl,rfl,q22,q24⟩
 simp only [Zz] at hm
 refine sq (dn [(0,aR 0 1 g21),agG,(ajj a1),(ajU a1),(16,aI y20),(17,aB (adJ y20 a1))] ?_)
 refine sq ?_
 rcases zf hm with ⟨h26,hm⟩|⟨h26,hm⟩
 ·refine c1 h26 (jg (sq (bq (sq (rg ?_)))))
  obtain ⟨x27,h28,hm⟩:=bs hm
  refine dv 18 (v:=.pv (.ptr (abe x27) 0)) (aaA za a1 .i64 t23 t49 h28 (zU x27) rfl hJ) hJ (stf 3 [(0,aR 0 1 g21),agG,j5,(ajj a1),(ajU a1),(16,aI y20)] [bR 5 1 (rI .u8) y19 g23 0,.box (zc8 x27) false] hJ (rg (s1 3 [(22,.agg (zc8 x27)),(21,aR 0 1 g21),(20,.pv (.fn 66 [] []))] ?_)))
  obtain ⟨x30,h29,hm⟩:=bs hm
  obtain ⟨vv,H1,hC,g31,g32,q33,q34,rfl,rfl⟩:=ah4 g21 g23 hX hY h29
  refine dR [(23,aR 0 1 g31)] [bR 5 1 (rI .u8) x30 g32 0,.box (zc8 x27) false] [0] [aR 0 1 g21,.agg (zc8 x27)] hJ hJ hJ hC hJ (fq 1 [(0,aR 0 1 g31),agG,(ajj a1),(ajU a1),(16,aI y20)] (dn [(0,aR 0 1 g31),agG,(ajj a1),(ajU a1),(akt y20)] ?_))
  exact ⟨_,_,ZD [(0,aR 0 1 g31),agG,(ajj a1),(ajU a1),(akt y20)] [bR 5 1 (rI .u8) x30 g32 0] hJ,⟨x30,(Zk y20),g31,g32,hm,rfl,rfl,hX,hY⟩⟩
 refine c0 h26 (jh ?_)
 exact ⟨y19,y20,(adJ y20 a1),g21,g23,hm,rfl,rfl,hX,hY⟩
theorem ahU {n:Nat}{a0:Bool}{r:Int}(hm:ado n a0=some r):
   call G n 67 [aB a0] []=some (.ret (aY r),[]):=by
 unfold ado at hm
 obtain ⟨n,rfl,h0⟩:=zu hm
 replace hm:=h0;clear h0
 refine Z2 4 [(0,aB a0)] func67 rfl hJ (sq (dn [(0,aB a0)] (sq (sq (dn [(3,aB a0)] ?_)))))
 rcases zf hm with ⟨h1,hm⟩|⟨h1,hm⟩
 ·refine c1 h1 (sq (dn [(2,aY 1)] (jf ?_)))
  cases hm;exact hM
 refine c0 h1 (jg (sq (dn [(2,aY 0)] (jf ?_))))
 cases hm;exact hM
theorem ajy (m0:Nat) (f0:Nat) {n:Nat}{a0:(List Int)}{a1:zm}{r:(List Int)}(hm0:a0.length=m0) (hf0:f0≤a0.length) (hm:abp n a0 a1=some r):
  ∃ vv H1,call G n 69 [aR 0 1 m0,.agg (zc3 a1)] [bR 5 1 (rI .u8) a0 f0 0]=some (.ret vv,H1)∧(match (generalizing:=false) r with|r0=>(∃ (e1:Nat) (e2:Nat),r0.length=e1∧e2≤r0.length∧vv=aR 0 1 e1∧H1=[bR 5 1 (rI .u8) r0 e2 0])):=by
 unfold abp at hm
 obtain ⟨n,rfl,h0⟩:=zu hm
 replace hm:=h0;clear h0
 refine ZJ 14 [(0,aR 0 1 m0),(1,.agg (zc3 a1))] func69 rfl hJ (sq (det [(0,aR 0 1 m0),jO] [bR 5 1 (rI .u8) a0 f0 0,.box (zc3 a1) false] hJ (sq (rgd (std 5 [(9,aR 2 1 1),(8,aY (IntKind.wrap .u8 a1.A)),(7,aI a1.A),j2,(5,aR 0 1 m0)] [bR 5 1 (rI .u8) a0 f0 0,.box (zc3 a1) false,bR 5 1 (rI .u8) ([(IntKind.wrap .u8 a1.A)]:List Int) 0 0] hJ ?_)))))
 obtain ⟨_,h1,hm⟩:=bs hm
 refine dOd [(10,aR 0 1 ((a0++([(IntKind.wrap .u8 a1.A)]:List Int)).length))] [bR 5 1 (rI .u8) (a0++([(IntKind.wrap .u8 a1.A)]:List Int)) f0 0,.box (zc3 a1) false,bR 5 1 (rI .u8) ([(IntKind.wrap .u8 a1.A)]:List Int) 0 0] (ZF (u:=0) (n:=m0) (id:=0) (rI .u8) a0 ([(IntKind.wrap .u8 a1.A)]:List Int) (b:=1) t29 t5 rfl rfl rfl (fun _=>rfl) rfl h1 rfl hZ hZ (show zT (aR 2 1 1) _=some (([(IntKind.wrap .u8 a1.A)]:List Int).map (rI .u8)) from by kernel_rfl) hJ) hJ (shd 2 [(12,.agg (zc1 a1)),(11,.ptr 1 1)] hJ ?_)
 obtain ⟨x3,h2,hm⟩:=bs hm
 obtain ⟨vv,H1,hC,g4,g5,q6,q7,rfl,rfl⟩:=ah4 ((a0++([(IntKind.wrap .u8 a1.A)]:List Int)).length) f0 hX hY h2
 refine dRd [(13,aR 0 1 g4)] [bR 5 1 (rI .u8) x3 g5 0,.box (zc3 a1) false,bR 5 1 (rI .u8) ([(IntKind.wrap .u8 a1.A)]:List Int) 0 0] [0] [aR 0 1 ((a0++([(IntKind.wrap .u8 a1.A)]:List Int)).length),.agg (zc1 a1)] hJ hJ hJ hC hJ (shd 1 [(4,aR 0 1 g4)] hJ (find [(4,aR 0 1 g4)] rfl hJ hJ (jf ?_)))
 obtain rfl:=ji hm
 exact ⟨trivial,aR 0 1 g4,[bR 5 1 (rI .u8) x3 g5 0],hJ,g4,g5,hX,hY,rfl,rfl⟩
abbrev aez (p0:jr):Nat×AV:=(1,.pv (zg zd p0))
abbrev agX:Nat×AV:=(2,.pv (.fn 69 [] []))
abbrev aiS (p0:jr):Nat×AV:=(14,.pv (zg zd p0))
abbrev aj5 (p0:jr):Nat×AV:=(15,aI ((sll p0).length:Int))
theorem ade (m0:Nat) (f0:Nat) {n:Nat}{a0:(List Int)}{a1:jr}{r:(List Int)}(hm0:a0.length=m0) (hf0:f0≤a0.length) (hm:qp n a0 a1=some r):
   ∃ vv H1,call G n 68 [aR 0 1 m0,.pv (zg zd a1),.pv (.fn 69 [] [])] [bR 5 1 (rI .u8) a0 f0 0]=some (.ret vv,H1)∧(match (generalizing:=false) r with|r0=>(∃ (e1:Nat) (e2:Nat),r0.length=e1∧e2≤r0.length∧vv=aR 0 1 e1∧H1=[bR 5 1 (rI .u8) r0 e2 0])):=by
 unfold qp at hm
 obtain ⟨n,rfl,h0⟩:=zu hm
 replace hm:=h0;clear h0
 refine ZJ 26 [(0,aR 0 1 m0),(aez a1),agX] func68 rfl hJ (sq (dn [(0,aR 0 1 m0),(aez a1),agX] (sq (rg (s1 2 [(10,.pv (zg zd a1)),(9,aR 0 1 m0)] (dv 11 (v:=aI ((sll a1).length:Int)) (zP zd a1 t24 hJ) hJ (s1 1 [(12,aU (IntKind.wrap .u64 ((sll a1).length:Int)))] ?_)))))))
 obtain ⟨x2,h1,hm⟩:=bs hm
 obtain ⟨vv,H1,hC,g3,q4,rfl,rfl⟩:=qk m0 f0 hX hY h1
 refine dR [(13,aR 0 1 x2.length)] [bR 5 1 (rI .u8) x2 g3 0] [0] [aR 0 1 m0,aU (IntKind.wrap .u64 ((sll a1).length:Int))] hJ hJ hJ hC hJ (fq 1 [(0,aR 0 1 x2.length),(aez a1),agX] ?_)
 obtain ⟨k12,hk12,hm⟩:=zt hm
 refine mid (fun t H=>(∃ (y5:(List Int)) (y6:Int) (y7:Bool) (g8:Nat) (g10:Nat),k12 y5=some r∧t=mk 26 [(0,aR 0 1 g8),agX,(aiS a1),(aj5 a1),(16,aI y6),(17,aB y7)]∧H=[bR 5 1 (rI .u8) y5 g10 0]∧y5.length=g8∧g10≤y5.length)) ?_ ?_
 ·rintro _ _ ⟨y5,y6,y7,g8,g10,hm,rfl,rfl,q9,q11⟩
  subst hk12
  refine sq (dn [(6,aR 0 1 g8)] (jf ?_))
  obtain rfl:=ji hm
  exact ⟨trivial,aR 0 1 g8,[bR 5 1 (rI .u8) y5 g10 0],hJ,g8,g10,hX,hY,rfl,rfl⟩
 refine sq (rg (s1 1 [(aiS a1)] (dv 15 (v:=aI ((sll a1).length:Int)) (zP zd a1 t24 hJ) hJ (fq 1 [(0,aR 0 1 x2.length),agX,(aiS a1),(aj5 a1),(16,aI 0)] (bq ?_)))))
 refine qB (fun mm t H=>(∃ (y19:(List Int)) (y20:Int) (g21:Nat) (g23:Nat),Zs n a1 k12 mm y19 y20=some r∧t=mk 26 [(0,aR 0 1 g21),agX,(aiS a1),(aj5 a1),(16,aI y20)]∧H=[bR 5 1 (rI .u8) y19 g23 0]∧y19.length=g21∧g23≤y19.length)) (⟨x2,0,x2.length,g3,hm,rfl,rfl,hX,hY⟩) ?_ ?_
 ·
   rintro _ _ ⟨y19,y20,g21,g23,hm,_⟩;exact nomatch hm
 rintro m25 _ _ ⟨y19,y20,g21,g23,hm,rfl,rfl,q22,q24⟩
 simp only [Zs] at hm
 refine sq (dn [(0,aR 0 1 g21),agX,(aiS a1),(aj5 a1),(16,aI y20),(17,aB (agm y20 a1))] ?_)
 refine sq ?_
 rcases zf hm with ⟨h26,hm⟩|⟨h26,hm⟩
 ·refine c1 h26 (jg (sq (bq (sq (rg ?_)))))
  obtain ⟨x27,h28,hm⟩:=bs hm
  refine dv 18 (v:=.pv (.ptr (zd x27) 0)) (qo zd a1 .i64 t24 t101 h28 rfl hJ) hJ (stf 3 [(0,aR 0 1 g21),agX,j5,(aiS a1),(aj5 a1),(16,aI y20)] [bR 5 1 (rI .u8) y19 g23 0,.box (zc3 x27) false] hJ (rg (s1 3 [(22,.agg (zc3 x27)),(21,aR 0 1 g21),(20,.pv (.fn 69 [] []))] ?_)))
  obtain ⟨x30,h29,hm⟩:=bs hm
  obtain ⟨vv,H1,hC,g31,g32,q33,q34,rfl,rfl⟩:=ajy g21 g23 hX hY h29
  refine dR [(23,aR 0 1 g31)] [bR 5 1 (rI .u8) x30 g32 0,.box (zc3 x27) false] [0] [aR 0 1 g21,.agg (zc3 x27)] hJ hJ hJ hC hJ (fq 1 [(0,aR 0 1 g31),agX,(aiS a1),(aj5 a1),(16,aI y20)] (dn [(0,aR 0 1 g31),agX,(aiS a1),(aj5 a1),(akt y20)] ?_))
  exact ⟨_,_,ZD [(0,aR 0 1 g31),agX,(aiS a1),(aj5 a1),(akt y20)] [bR 5 1 (rI .u8) x30 g32 0] hJ,⟨x30,(Zk y20),g31,g32,hm,rfl,rfl,hX,hY⟩⟩
 refine c0 h26 (jh ?_)
 exact ⟨y19,y20,(agm y20 a1),g21,g23,hm,rfl,rfl,hX,hY⟩
theorem ajO (m0:Nat) (f0:Nat) {n:Nat}{a0:(List Int)}{a1:zo}{r:(List Int)}(hm0:a0.length=m0) (hf0:f0≤a0.length) (hm:abq n a0 a1=some r):
  ∃ vv H1,call G n 71 [aR 0 1 m0,.agg [aI a1.B,aB a1.P]] [bR 5 1 (rI .u8) a0 f0 0]=some (.ret vv,H1)∧(match (generalizing:=false) r with|r0=>(∃ (e1:Nat),e1≤r0.length∧vv=aR 0 1 r0.length∧H1=[bR 5 1 (rI .u8) r0 e1 0])):=by
 unfold abq at hm
 obtain ⟨n,rfl,h0⟩:=zu hm
 replace hm:=h0;clear h0
 refine ZJ 15 [(0,aR 0 1 m0),(1,.agg [aI a1.B,aB a1.P])] func71 rfl hJ (sq (det [(0,aR 0 1 m0),jO] [bR 5 1 (rI .u8) a0 f0 0,.box [aI a1.B,aB a1.P] false] hJ (sq (rgd (shd 4 [(8,aU (IntKind.wrap .u64 a1.B)),(7,aI a1.B),j2,(5,aR 0 1 m0)] hJ ?_)))))
 obtain ⟨x2,h1,hm⟩:=bs hm
 obtain ⟨vv,H1,hC,g3,q4,rfl,rfl⟩:=qk m0 f0 hX hY h1
 refine dRd [(9,aR 0 1 x2.length)] [bR 5 1 (rI .u8) x2 g3 0,.box [aI a1.B,aB a1.P] false] [0] [aR 0 1 m0,aU (IntKind.wrap .u64 a1.B)] hJ hJ hJ hC hJ (shd 2 [(11,aB a1.P),(10,.ptr 1 1)] hJ ?_)
 obtain ⟨x5,h6,hm⟩:=bs hm
 refine dvd 12 (zR hJ (ahU h6) hJ hJ hJ) hJ (std 1 [(13,aR 2 1 1)] [bR 5 1 (rI .u8) x2 g3 0,.box [aI a1.B,aB a1.P] false,bR 5 1 (rI .u8) ([x5]:List Int) 0 0] hJ ?_)
 obtain ⟨_,h7,hm⟩:=bs hm
 refine dOd [(14,aR 0 1 (aeQ x2 x5))] [bR 5 1 (rI .u8) (x2++([x5]:List Int)) g3 0,.box [aI a1.B,aB a1.P] false,bR 5 1 (rI .u8) ([x5]:List Int) 0 0] (ZF (u:=0) (n:=x2.length) (id:=0) (rI .u8) x2 ([x5]:List Int) (b:=1) t29 t5 rfl rfl rfl (fun _=>rfl) rfl h7 rfl rfl hZ (show zT (aR 2 1 1) _=some (([x5]:List Int).map (rI .u8)) from by kernel_rfl) hJ) hJ (shd 1 [(4,aR 0 1 (aeQ x2 x5))] hJ (find [(4,aR 0 1 (aeQ x2 x5))] rfl hJ hJ (jf ?_)))
 obtain rfl:=ji hm
 exact ⟨trivial,aR 0 1 (aeQ x2 x5),[bR 5 1 (rI .u8) (x2++([x5]:List Int)) g3 0],hJ,g3,hY,rfl,rfl⟩
abbrev ae0 (p0:jt):Nat×AV:=(1,.pv (zg zl p0))
abbrev agF:Nat×AV:=(2,.pv (.fn 71 [] []))
abbrev ajh (p0:jt):Nat×AV:=(14,.pv (zg zl p0))
abbrev ajS (p0:jt):Nat×AV:=(15,aI ((sll p0).length:Int))
theorem adf (m0:Nat) (f0:Nat) {n:Nat}{a0:(List Int)}{a1:jt}{r:(List Int)}(hm0:a0.length=m0) (hf0:f0≤a0.length) (hm:qt n a0 a1=some r):
   ∃ vv H1,call G n 70 [aR 0 1 m0,.pv (zg zl a1),.pv (.fn 71 [] [])] [bR 5 1 (rI .u8) a0 f0 0]=some (.ret vv,H1)∧(match (generalizing:=false) r with|r0=>(∃ (e1:Nat),e1≤r0.length∧vv=aR 0 1 r0.length∧H1=[bR 5 1 (rI .u8) r0 e1 0])):=by
 unfold qt at hm
 obtain ⟨n,rfl,h0⟩:=zu hm
 replace hm:=h0;clear h0
 refine ZJ 26 [(0,aR 0 1 m0),(ae0 a1),agF] func70 rfl hJ (sq (dn [(0,aR 0 1 m0),(ae0 a1),agF] (sq (rg (s1 2 [(10,.pv (zg zl a1)),(9,aR 0 1 m0)] (dv 11 (v:=aI ((sll a1).length:Int)) (zP zl a1 t25 hJ) hJ (s1 1 [(12,aU (IntKind.wrap .u64 ((sll a1).length:Int)))] ?_)))))))
 obtain ⟨x2,h1,hm⟩:=bs hm
 obtain ⟨vv,H1,hC,g3,q4,rfl,rfl⟩:=qk m0 f0 hX hY h1
 refine dR [(13,aR 0 1 x2.length)] [bR 5 1 (rI .u8) x2 g3 0] [0] [aR 0 1 m0,aU (IntKind.wrap .u64 ((sll a1).length:Int))] hJ hJ hJ hC hJ (fq 1 [(0,aR 0 1 x2.length),(ae0 a1),agF] ?_)
 obtain ⟨k10,hk10,hm⟩:=zt hm
 refine mid (fun t H=>(∃ (y5:(List Int)) (y6:Int) (y7:Bool) (g8:Nat),k10 y5=some r∧t=mk 26 [(0,aR 0 1 y5.length),agF,(ajh a1),(ajS a1),(16,aI y6),(17,aB y7)]∧H=[bR 5 1 (rI .u8) y5 g8 0]∧g8≤y5.length)) ?_ ?_
 ·rintro _ _ ⟨y5,y6,y7,g8,hm,rfl,rfl,q9⟩
  subst hk10
  refine sq (dn [(6,aR 0 1 y5.length)] (jf ?_))
  obtain rfl:=ji hm
  exact ⟨trivial,aR 0 1 y5.length,[bR 5 1 (rI .u8) y5 g8 0],hJ,g8,hY,rfl,rfl⟩
 refine sq (rg (s1 1 [(ajh a1)] (dv 15 (v:=aI ((sll a1).length:Int)) (zP zl a1 t25 hJ) hJ (fq 1 [(0,aR 0 1 x2.length),agF,(ajh a1),(ajS a1),(16,aI 0)] (bq ?_)))))
 refine qB (fun mm t H=>(∃ (y15:(List Int)) (y16:Int) (g17:Nat),Zr n a1 k10 mm y15 y16=some r∧t=mk 26 [(ad7 y15),agF,(ajh a1),(ajS a1),(16,aI y16)]∧H=[bR 5 1 (rI .u8) y15 g17 0]∧g17≤y15.length)) (⟨x2,0,g3,hm,rfl,rfl,hY⟩) ?_ ?_
 ·
   rintro _ _ ⟨y15,y16,g17,hm,_⟩;exact nomatch hm
 rintro m19 _ _ ⟨y15,y16,g17,hm,rfl,rfl,q18⟩
 simp only [Zr] at hm
 refine sq (dn [(ad7 y15),agF,(ajh a1),(ajS a1),(16,aI y16),(17,aB (decide (y16<((sll a1).length:Int))))] ?_)
 refine sq ?_
 rcases zf hm with ⟨h20,hm⟩|⟨h20,hm⟩
 ·refine c1 h20 (jg (sq (bq (sq (rg ?_)))))
  obtain ⟨x21,h22,hm⟩:=bs hm
  refine dv 18 (v:=.pv (.ptr (zl x21) 0)) (qo zl a1 .i64 t25 t86 h22 rfl hJ) hJ (stf 3 [(ad7 y15),agF,j5,(ajh a1),(ajS a1),(16,aI y16)] [bR 5 1 (rI .u8) y15 g17 0,.box [aI x21.B,aB x21.P] false] hJ (rg (s1 3 [(22,.agg [aI x21.B,aB x21.P]),(21,aR 0 1 y15.length),(20,.pv (.fn 71 [] []))] ?_)))
  obtain ⟨x24,h23,hm⟩:=bs hm
  obtain ⟨vv,H1,hC,g25,q26,rfl,rfl⟩:=ajO y15.length g17 hX hY h23
  refine dR [(23,aR 0 1 x24.length)] [bR 5 1 (rI .u8) x24 g25 0,.box [aI x21.B,aB x21.P] false] [0] [aR 0 1 y15.length,.agg [aI x21.B,aB x21.P]] hJ hJ hJ hC hJ (fq 1 [(ad7 x24),agF,(ajh a1),(ajS a1),(16,aI y16)] (dn [(ad7 x24),agF,(ajh a1),(ajS a1),(akt y16)] ?_))
  exact ⟨_,_,ZD [(ad7 x24),agF,(ajh a1),(ajS a1),(akt y16)] [bR 5 1 (rI .u8) x24 g25 0] hJ,⟨x24,(Zk y16),g25,hm,rfl,rfl,hY⟩⟩
 refine c0 h20 (jh ?_)
 exact ⟨y15,y16,(decide (y16<((sll a1).length:Int))),g17,hm,rfl,rfl,hY⟩
theorem ajE {n:Nat}{a0:zb}{r:(List Int)}(hm:acg n a0=some r):
  ∃ vv H1,call G n 14 [.pv .nils,.agg (zc0 a0)] []=some (.ret vv,H1)∧(match (generalizing:=false) r with|r0=>(∃ (e1:Nat),e1≤r0.length∧vv=aR 0 1 r0.length∧H1=[bR 5 1 (rI .u8) r0 e1 0])):=by
 unfold acg at hm
 obtain ⟨n,rfl,h0⟩:=zu hm
 replace hm:=h0;clear h0
 refine ZJ 30 [kz,(1,.agg (zc0 a0))] func14 rfl hJ (sq (det [kz,jL] [.box (zc0 a0) false] hJ (sq (rg (s1 3 [(7,.pv (zg rS a0.E)),j6,ku] ?_)))))
 obtain ⟨x2,h1,hm⟩:=bs hm
 obtain ⟨vv,H1,hC,g3,q4,rfl,rfl⟩:=abI h1
 refine dR [(8,aR 1 1 x2.length)] [.box (zc0 a0) false,bR 5 1 (rI .u8) x2 g3 0] [] [.pv .nils,.pv (zg rS a0.E),.pv (.fn 64 [] [])] hJ hJ hJ hC hJ (fq 1 [(0,aR 1 1 x2.length),jL] (sq (rg (s1 3 [(11,.pv (ahl a0)),(10,.ptr 0 1),(9,aR 1 1 x2.length)] ?_))))
 obtain ⟨x6,h5,hm⟩:=bs hm
 obtain ⟨vv,H1,hC,g7,g8,q9,q10,rfl,rfl⟩:=aaW x2.length g3 hX hY h5
 refine dR [(12,aR 1 1 g7)] [.box (zc0 a0) false,bR 5 1 (rI .u8) x6 g8 0] [1] [aR 1 1 x2.length,.pv (ahl a0),.pv (.fn 66 [] [])] hJ hJ hJ hC hJ (fq 1 [(0,aR 1 1 g7),jL] (sq (rgd (shd 3 [(15,aB a0.F),(14,.ptr 0 2),(13,aR 1 1 g7)] hJ ?_))))
 obtain ⟨x11,h12,hm⟩:=bs hm
 refine dvd 16 (zR hJ (ahU h12) hJ hJ hJ) hJ (std 1 [(17,aR 2 1 1)] [.box (zc0 a0) false,bR 5 1 (rI .u8) x6 g8 0,bR 5 1 (rI .u8) ([x11]:List Int) 0 0] hJ ?_)
 obtain ⟨_,h13,hm⟩:=bs hm
 refine dOd [(18,aR 1 1 (aeQ x6 x11))] [.box (zc0 a0) false,bR 5 1 (rI .u8) (x6++([x11]:List Int)) g8 0,bR 5 1 (rI .u8) ([x11]:List Int) 0 0] (ZF (u:=0) (n:=g7) (id:=1) (rI .u8) x6 ([x11]:List Int) (b:=1) t29 t5 rfl rfl rfl (fun _=>rfl) rfl h13 rfl hZ hZ (show zT (aR 2 1 1) _=some (([x11]:List Int).map (rI .u8)) from by kernel_rfl) hJ) hJ (shd 2 [(20,.pv (abu a0)),(19,.ptr 0 3)] hJ ?_)
 obtain ⟨x15,h14,hm⟩:=bs hm
 obtain ⟨vv,H1,hC,g16,g17,q18,q19,rfl,rfl⟩:=aaW (aeQ x6 x11) g8 hX hY h14
 refine dRd [(21,aR 1 1 g16)] [.box (zc0 a0) false,bR 5 1 (rI .u8) x15 g17 0,bR 5 1 (rI .u8) ([x11]:List Int) 0 0] [1] [aR 1 1 (aeQ x6 x11),.pv (abu a0),.pv (.fn 66 [] [])] hJ hJ hJ hC hJ (shd 1 [(0,aR 1 1 g16)] hJ (find [(0,aR 1 1 g16),jL] rfl hJ hJ (sq (rg (s1 3 [(24,.pv (acL a0)),(23,.ptr 0 4),(22,aR 1 1 g16)] ?_)))))
 obtain ⟨x21,h20,hm⟩:=bs hm
 obtain ⟨vv,H1,hC,g22,g23,q24,q25,rfl,rfl⟩:=ade g16 g17 hX hY h20
 refine dR [(25,aR 1 1 g22)] [.box (zc0 a0) false,bR 5 1 (rI .u8) x21 g23 0,bR 5 1 (rI .u8) ([x11]:List Int) 0 0] [1] [aR 1 1 g16,.pv (acL a0),.pv (.fn 69 [] [])] hJ hJ hJ hC hJ (fq 1 [(0,aR 1 1 g22),jL] (sq (rg (s1 3 [(28,.pv (aeA a0)),(27,.ptr 0 5),(26,aR 1 1 g22)] ?_))))
 obtain ⟨x27,h26,hm⟩:=bs hm
 obtain ⟨vv,H1,hC,g28,q29,rfl,rfl⟩:=adf g22 g23 hX hY h26
 refine dR [(29,aR 1 1 x27.length)] [.box (zc0 a0) false,bR 5 1 (rI .u8) x27 g28 0,bR 5 1 (rI .u8) ([x11]:List Int) 0 0] [1] [aR 1 1 g22,.pv (aeA a0),.pv (.fn 71 [] [])] hJ hJ hJ hC hJ (fq 1 [(4,aR 1 1 x27.length)] (jf ?_))
 obtain rfl:=ji hm
 exact ⟨trivial,aR 0 1 x27.length,[bR 5 1 (rI .u8) x27 g28 0],hJ,g28,hY,rfl,rfl⟩
theorem ahX {n:Nat}{a0:(Option (List Int))}{r:Unit}(hm:aeM n a0=some r):
  ∃ vv H1,call G n 13 [.pv (zg (rI .u8) a0)] []=some (.ret vv,H1)∧(vv=.ptr 0 0∧H1=[.box [aB true,.pv (zg (rI .u8) a0),aI 0] false]):=by
 unfold aeM at hm
 obtain ⟨n,rfl,h0⟩:=zu hm
 replace hm:=h0;clear h0
 refine ZJ 6 [(0,.pv (zg (rI .u8) a0))] func13 rfl hJ (sq (dn [(0,.pv (zg (rI .u8) a0))] (sq (det [jJ] [.box [aB true,.pv (zg (rI .u8) a0),aI 0] false] hJ (jf ?_)))))
 obtain rfl:=ji hm
 exact ⟨trivial,.ptr 0 0,[.box [aB true,.pv (zg (rI .u8) a0),aI 0] false],hJ,rfl,rfl⟩
abbrev zc12 (p0:zi):List AV:=[aB p0.fmade,.pv (zg (rI .u8) p0.fb),aI p0.fe]
abbrev aiX (p0:zi):=(p0.fmade&&(p0.fe==0))
theorem Qn {n:Nat}{a0:zi}{r:Unit}(hm:qA n a0=some r):
  ∃ vv H1,call G n 93 [.ptr 0 0] [.box (zc12 a0) false]=some (.ret vv,H1)∧(vv=aB (aiX a0)∧H1=[.box (zc12 a0) false]):=by
 unfold qA at hm
 obtain ⟨n,rfl,h0⟩:=zu hm
 replace hm:=h0;clear h0
 refine ZJ 18 [jF] func93 rfl hJ (sq (dn [jF] (sq (rg (s1 9 [(11,aB a0.fmade),(10,aB a0.fmade),(9,aB a0.fmade),jY,(7,.ptr 0 0),j6,(5,aB true),kS,jL] ?_)))))
 refine segP a0.fmade [11,10,9] (fun b=>[(17,aB (b&&(a0.fe==0))),(16,ifA b (aB (a0.fe==0)) jb),(15,ifA b (aI a0.fe) jb),(14,ifA b (.ptr 0 2) jb),(13,ifA b (.ptr 0 0) jb),(12,ifA b (.ptr 0 0) jb)]) 6 hJ hJ hJ (fq 1 [(2,aB (aiX a0))] (jf ?_))
 obtain rfl:=ji hm
 exact ⟨trivial,aB (aiX a0),[.box (zc12 a0) false],hJ,rfl,rfl⟩
theorem QG {n:Nat}{a0:zi}{a1:Int}{r:Unit}(hm:qG n a0 a1=some r):
  ∃ vv H1,call G n 154 [.ptr 0 0,aI a1] [.box (zc12 a0) false]=some (.ret vv,H1)∧(vv=.tup []∧H1=[.box [aB a0.fmade,.pv .nils,aI a1] false]):=by
 unfold qG at hm
 obtain ⟨n,rfl,h0⟩:=zu hm
 replace hm:=h0;clear h0
 refine ZJ 11 [jF,(1,aI a1)] func154 rfl hJ (det [] [.box [aB a0.fmade,.pv .nils,aI a1] false] hJ ?_)
 obtain rfl:=ji hm
 exact ⟨trivial,.tup [],[.box [aB a0.fmade,.pv .nils,aI a1] false],hJ,rfl,rfl⟩
theorem abD {n:Nat}{a0:zi}{a1:Int}{r:(Option (List Int))×Int×(Option (List Int))×Bool}(hm:qv n a0 a1=some r):
   ∃ vv H1,call G n 151 [.ptr 0 0,aI a1] [.box (zc12 a0) false]=some (.ret vv,H1)∧(match (generalizing:=false) r with|(r0,r1,r2,r3)=>(vv=.tup [.pv (zg (rI .u8) r2),aB r3]∧H1=[.box [aB a0.fmade,.pv (zg (rI .u8) r0),aI r1] false])):=by
 unfold qv at hm
 obtain ⟨n,rfl,h0⟩:=zu hm
 replace hm:=h0;clear h0
 refine ZJ 32 [jF,(1,aI a1)] func151 rfl hJ (sq (dn [jF,(1,aI a1)] ?_))
 refine sq (sq (rg (s1 5 [(11,.pv (zg (rI .u8) a0.fb)),(10,.ptr 0 1),kc,jY,(7,aI a1)] (dv 12 (v:=aI ((sll a0.fb).length:Int)) (zP (rI .u8) a0.fb t29 hJ) hJ (fq 1 [jF,(1,aI a1),(13,aB (decide (a1>((sll a0.fb).length:Int))))] ?_)))))
 rcases zf hm with ⟨h1,hm⟩|⟨h1,hm⟩
 ·refine c1 h1 (sq (rg (s1 1 [j8] ?_)))
  obtain ⟨_,h2,hm⟩:=bs hm
  obtain ⟨vv,H1,hC,rfl,rfl⟩:=QG h2
  refine dR [(15,.tup [])] [.box [aB a0.fmade,.pv .nils,aI 21] false] [0] [.ptr 0 0,aI 21] hJ hJ hJ hC hJ (fin [] rfl hJ (sq (dn [ky,(5,aB false)] (jf ?_))))
  obtain rfl:=ji hm
  exact ⟨trivial,.tup [.pv .nils,aB false],[.box [aB a0.fmade,.pv .nils,aI 21] false],hJ,rfl,rfl⟩
 refine c0 h1 (jg (sq (rg (s1 5 [(20,aI a1),(19,.pv (zg (rI .u8) a0.fb)),(18,.ptr 0 1),(17,.ptr 0 0),(16,.ptr 0 0)] ?_))))
 obtain ⟨_,h3,hm⟩:=bs hm
 refine dv 21 (v:=.pv (zg (rI .u8) (aaJ a0.fb 0 a1))) (ans (rI .u8) a0.fb (k:=.i64) (k':=.i64) (xl:=none) (xh:=some (aI a1)) (esz:=1) h3 (fun _=>rfl) (.inl ⟨rfl,rfl⟩) (.inr rfl) hJ) hJ (fq 1 [jF,(1,aI a1),(6,.pv (zg (rI .u8) (aaJ a0.fb 0 a1)))] (sq (rg (s1 6 [(27,aI a1),(26,.pv (zg (rI .u8) a0.fb)),(25,.ptr 0 1),(24,.ptr 0 0),(23,.ptr 0 0),(22,.ptr 0 0)] ?_))))
 obtain ⟨_,h4,hm⟩:=bs hm
 refine dv 28 (v:=.pv (zg (rI .u8) (aaJ a0.fb a1 ((sll a0.fb).length:Int)))) (ans (rI .u8) a0.fb (k:=.i64) (k':=.i64) (xl:=some (aI a1)) (xh:=none) (esz:=1) h4 (fun _=>rfl) (.inr rfl) (.inl ⟨rfl,rfl⟩) hJ) hJ (stf 3 [(6,.pv (zg (rI .u8) (aaJ a0.fb 0 a1)))] [.box [aB a0.fmade,.pv (zg (rI .u8) (aaJ a0.fb a1 ((sll a0.fb).length:Int))),aI a0.fe] false] hJ (sq (dn [(4,.pv (zg (rI .u8) (aaJ a0.fb 0 a1))),(5,aB true)] (jf ?_))))
 obtain rfl:=ji hm
 exact ⟨trivial,.tup [.pv (zg (rI .u8) (aaJ a0.fb 0 a1)),aB true],[.box [aB a0.fmade,.pv (zg (rI .u8) (aaJ a0.fb a1 ((sll a0.fb).length:Int))),aI a0.fe] false],hJ,rfl,rfl⟩
abbrev zc13 (p0:Bool) (p1:(Option (List Int))) (p2:Int):List AV:=[aB p0,.pv (zg (rI .u8) p1),aI p2]
abbrev zc14 (p0:Bool) (p1:(Option (List Int))) (p2:Int) (p3:(Option (List Int))) (p4:Int):List AV:=[aB ((zi.mk p0 p1 p2).fmade),.pv (zg (rI .u8) p3),aI p4]
abbrev aoN (p0:Int) (p1:Int) (p2:Int):Nat×AV:=(2,aU (iOr .u64 p0 (iShl .u64 (IntKind.wrap .u64 (iAnd .u8 p1 127)) (IntKind.wrap .u64 (IntKind.wrap .i64 (7*p2))))))
theorem afU {n:Nat}{a0:zi}{r:Bool×(Option (List Int))×Int×Int×Bool}(hm:aaE n a0=some r):
   ∃ vv H1,call G n 153 [.ptr 0 0] [.box (zc12 a0) false]=some (.ret vv,H1)∧(match (generalizing:=false) r with|(r0,r1,r2,r3,r4)=>(vv=.tup [aU r3,aB r4]∧H1=[.box [aB r0,.pv (zg (rI .u8) r1),aI r2] false])):=by
 unfold aaE at hm
 obtain ⟨n,rfl,h0⟩:=zu hm
 replace hm:=h0;clear h0
 refine ZJ 52 [jF] func153 rfl hJ (sq (dn [jF,(2,aU 0)] (scq (sq (dn [jF,(2,aU 0),kH] ?_)))))
 refine sq (sq (dn [jF,(2,aU 0),kH,kJ] (bq ?_)))
 refine qB (fun mm t H=>(∃ (y10:Bool) (y11:(Option (List Int))) (y12:Int) (y13:Int) (y14:Int),ql n mm y10 y11 y12 y13 y14=some r∧t=mk 52 [jF,(2,aU y13),kH,(5,aI y14)]∧H=[.box (zc13 y10 y11 y12) false])) (⟨a0.fmade,a0.fb,a0.fe,0,0,hm,rfl,rfl⟩) ?_ ?_
 ·
   rintro _ _ ⟨y10,y11,y12,y13,y14,hm,_⟩;exact nomatch hm
 rintro m15 _ _ ⟨y10,y11,y12,y13,y14,hm,rfl,rfl⟩
 simp only [ql] at hm
 refine sq (bq ?_)
 refine sq (sq (dn [jF,(2,aU y13),kH,(5,aI y14),(12,aB (y14==10))] ?_))
 rcases zf hm with ⟨h16,hm⟩|⟨h16,hm⟩
 ·refine c1 h16 (wp_goto ?_)
  refine ⟨hJ,?_⟩
  refine aje hJ (aje hJ (sql hJ (alK (sq (rg (s1 2 [(50,aI 22),(49,.ptr 0 0)] ?_))))))
  obtain ⟨_,h17,hm⟩:=bs hm
  obtain ⟨vv,H1,hC,rfl,rfl⟩:=QG h17
  refine dR [(51,.tup [])] [.box [aB ((zi.mk y10 y11 y12).fmade),.pv .nils,aI 22] false] [0] [.ptr 0 0,aI 22] hJ hJ hJ hC hJ (fin [] rfl hJ (sq (dn [(2,aU 0),(3,aB false)] (jf ?_))))
  obtain rfl:=ji hm
  exact ⟨trivial,.tup [aU 0,aB false],[.box [aB ((zi.mk y10 y11 y12).fmade),.pv .nils,aI 22] false],hJ,rfl,rfl⟩
 refine c0 h16 (jg (sq (rg (s1 1 [j8] ?_))))
 obtain ⟨⟨x19,x20,x21,x22⟩,h18,hm⟩:=bs hm
 obtain ⟨vv,H1,hC,rfl,rfl⟩:=abD h18
 refine dR [(15,.tup [.pv (zg (rI .u8) x21),aB x22])] [.box (zc14 y10 y11 y12 x19 x20) false] [0] [.ptr 0 0,aI 1] hJ hJ hJ hC hJ (fq 5 [jF,(2,aU y13),kH,(5,aI y14),(6,.pv (zg (rI .u8) x21)),(7,aB x22)] ?_)
 refine sq (sq (dn [jF,(2,aU y13),kH,(5,aI y14),(6,.pv (zg (rI .u8) x21)),(19,aB (!x22))] ?_))
 rcases zf hm with ⟨h23,hm⟩|⟨h23,hm⟩
 ·refine c1 h23 (sq (dn [(2,aU 0),(3,aB false)] (jf ?_)))
  obtain rfl:=ji hm
  exact ⟨trivial,.tup [aU 0,aB false],[.box (zc14 y10 y11 y12 x19 x20) false],hJ,rfl,rfl⟩
 refine c0 h23 (jg (sq (rg (s1 1 [(20,.pv (zg (rI .u8) x21))] ?_))))
 obtain ⟨x24,h25,hm⟩:=bs hm
 refine dv 21 (v:=.pv (.ptr ((rI .u8) x24) 0)) (qo (rI .u8) x21 .i64 t29 t5 h25 rfl hJ) hJ (fq 2 [jF,(2,aU y13),kH,(5,aI y14),(8,aY x24)] ?_)
 refine sq (sq (rg (s1 3 [(25,aB (y14==9)),(24,aB (y14==9)),(23,aI y14)] ?_)))
 refine segP (y14==9) [25,24] (fun b=>[(28,aB (b&&(decide (x24>1)))),(27,ifA b (aB (decide (x24>1))) jb),(26,ifA b (aY x24) jb)]) 3 hJ hJ hJ (s1 1 [(29,aB ((y14==9)&&(decide (x24>1))))] ?_)
 refine seg ((y14==9)&&(decide (x24>1))) [29,28] (fun b=>[(36,aB (b||((decide (y14>0))&&(x24==0)))),(35,ifA b jb (aB ((decide (y14>0))&&(x24==0)))),(34,ifA b jb (ifA (decide (y14>0)) (aB (x24==0)) jb)),(33,ifA b jb (ifA (decide (y14>0)) (aY x24) jb)),(32,ifA b jb (aB (decide (y14>0)))),(31,ifA b jb (aB (decide (y14>0)))),(30,ifA b jb (aI y14))]) 14 hJ ?_ ?_ ?_
 ·intro Q h
  refine s1 7 [(36,aB true),(35,.undef),(34,.undef),(33,.undef),(32,.undef),(31,.undef),(30,.undef)] ?_
  exact QZ hJ hJ h
 ·intro Q h
  refine s1 3 [(32,aB (decide (y14>0))),(31,aB (decide (y14>0))),(30,aI y14)] ?_
  refine segP (decide (y14>0)) [32,31] (fun b=>[(35,aB (b&&(x24==0))),(34,ifA b (aB (x24==0)) jb),(33,ifA b (aY x24) jb)]) 3 hJ hJ hJ (s1 1 [(36,aB ((decide (y14>0))&&(x24==0)))] ?_)
  exact QZ hJ hJ h
 refine fin [jF,(2,aU y13),kH,(5,aI y14),(8,aY x24),(36,aB (((y14==9)&&(decide (x24>1)))||((decide (y14>0))&&(x24==0))))] rfl hJ ?_
 rcases zf hm with ⟨h26,hm⟩|⟨h26,hm⟩
 ·refine c1 h26 (wp_goto ?_)
  refine ⟨hJ,?_⟩
  refine aje hJ (aje hJ (sql hJ (alK (sq (rg (s1 2 [(50,aI 22),(49,.ptr 0 0)] ?_))))))
  obtain ⟨_,h27,hm⟩:=bs hm
  obtain ⟨vv,H1,hC,rfl,rfl⟩:=QG h27
  refine dR [(51,.tup [])] [.box [aB ((zi.mk ((zi.mk y10 y11 y12).fmade) x19 x20).fmade),.pv .nils,aI 22] false] [0] [.ptr 0 0,aI 22] hJ hJ hJ hC hJ (fin [] rfl hJ (sq (dn [(2,aU 0),(3,aB false)] (jf ?_))))
  obtain rfl:=ji hm
  exact ⟨trivial,.tup [aU 0,aB false],[.box [aB ((zi.mk ((zi.mk y10 y11 y12).fmade) x19 x20).fmade),.pv .nils,aI 22] false],hJ,rfl,rfl⟩
 refine c0 h26 (jg (sq (rg (s1 7 [(43,aU (IntKind.wrap .u64 (IntKind.wrap .i64 (7*y14)))),(42,aI (IntKind.wrap .i64 (7*y14))),(41,aI y14),(40,aU (IntKind.wrap .u64 (iAnd .u8 x24 127))),(39,aY (iAnd .u8 x24 127)),(38,aY x24),(37,aU y13)] ?_))))
 obtain ⟨_,h28,hm⟩:=bs hm
 refine dv 44 (v:=aU (iShl .u64 (IntKind.wrap .u64 (iAnd .u8 x24 127)) (IntKind.wrap .u64 (IntKind.wrap .i64 (7*y14))))) (shlO h28 hJ) hJ (fq 2 [jF,(aoN y13 x24 y14),kH,(5,aI y14),(8,aY x24)] (sq (dn [jF,(aoN y13 x24 y14),kH,(5,aI y14),(47,aB (decide (x24<128)))] ?_)))
 rcases zf hm with ⟨h29,hm⟩|⟨h29,hm⟩
 ·refine c1 h29 (sq (dn [(aoN y13 x24 y14),(3,aB true)] (jf ?_)))
  obtain rfl:=ji hm
  exact ⟨trivial,.tup [aU (iOr .u64 y13 (iShl .u64 (IntKind.wrap .u64 (iAnd .u8 x24 127)) (IntKind.wrap .u64 (IntKind.wrap .i64 (7*y14))))),aB true],[.box (zc14 y10 y11 y12 x19 x20) false],hJ,rfl,rfl⟩
 refine c0 h29 (jg (dn [jF,(aoN y13 x24 y14),kH,(5,aI (Zk y14))] ?_))
 exact ⟨_,_,ZD [jF,(aoN y13 x24 y14),kH,(5,aI (Zk y14))] [.box (zc14 y10 y11 y12 x19 x20) false] hJ,⟨((zi.mk y10 y11 y12).fmade),x19,x20,(iOr .u64 y13 (iShl .u64 (IntKind.wrap .u64 (iAnd .u8 x24 127)) (IntKind.wrap .u64 (IntKind.wrap .i64 (7*y14))))),(Zk y14),hm,rfl,rfl⟩⟩
theorem ZZ {n:Nat}{a0:zi}{a1:Int}{r:Bool×(Option (List Int))×Int×Int}(hm:Zu n a0 a1=some r):
   ∃ vv H1,call G n 86 [.ptr 0 0,aU a1] [.box (zc12 a0) false]=some (.ret vv,H1)∧(match (generalizing:=false) r with|(r0,r1,r2,r3)=>(vv=aU r3∧H1=[.box [aB r0,.pv (zg (rI .u8) r1),aI r2] false])):=by
 unfold Zu at hm
 obtain ⟨n,rfl,h0⟩:=zu hm
 replace hm:=h0;clear h0
 refine ZJ 24 [jF,(1,aU a1)] func86 rfl hJ (sq (dn [jF,(1,aU a1)] ?_))
 refine sq (sq (rg (s1 1 [(7,.ptr 0 0)] ?_)))
 obtain ⟨_,h1,hm⟩:=bs hm
 obtain ⟨vv,H1,hC,rfl,rfl⟩:=Qn h1
 refine dR [(8,aB (aiX a0))] [.box (zc12 a0) false] [0] [.ptr 0 0] hJ hJ hJ hC hJ (fq 1 [jF,(1,aU a1),(9,aB (!(aiX a0)))] ?_)
 rcases zf hm with ⟨h2,hm⟩|⟨h2,hm⟩
 ·refine c1 h2 (sq (dn [(4,aU 0)] (jf ?_)))
  obtain rfl:=ji hm
  exact ⟨trivial,aU 0,[.box (zc12 a0) false],hJ,rfl,rfl⟩
 refine c0 h2 (jg (sq (rg (s1 1 [j9] ?_))))
 obtain ⟨⟨x4,x5,x6,x7,x8⟩,h3,hm⟩:=bs hm
 obtain ⟨vv,H1,hC,rfl,rfl⟩:=afU h3
 refine dR [(12,.tup [aU x7,aB x8])] [.box [aB x4,.pv (zg (rI .u8) x5),aI x6] false] [0] [.ptr 0 0] hJ hJ hJ hC hJ (fq 5 [jF,(1,aU a1),(5,aU x7),(6,aB x8)] (sq (sq (rg (s1 2 [(16,aB x8),(15,aB x8)] ?_)))))
 refine segP x8 [16,15,6] (fun b=>[(20,aB (b&&(decide (x7>a1)))),(19,ifA b (aB (decide (x7>a1))) jb),(18,ifA b (aU a1) jb),(17,ifA b (aU x7) jb)]) 4 hJ hJ hJ (fin [jF,(5,aU x7),(20,aB (x8&&(decide (x7>a1))))] rfl hJ ?_)
 rcases zf hm with ⟨h9,hm⟩|⟨h9,hm⟩
 ·refine c1 h9 (sq (rg (s1 1 [(21,.ptr 0 0)] ?_)))
  obtain ⟨_,h10,hm⟩:=bs hm
  obtain ⟨vv,H1,hC,rfl,rfl⟩:=QG h10
  refine dR [(22,.tup [])] [.box [aB ((zi.mk x4 x5 x6).fmade),.pv .nils,aI 3] false] [0] [.ptr 0 0,aI 3] hJ hJ hJ hC hJ (fin [] rfl hJ (sq (dn [(4,aU 0)] (jf ?_))))
  obtain rfl:=ji hm
  exact ⟨trivial,aU 0,[.box [aB ((zi.mk x4 x5 x6).fmade),.pv .nils,aI 3] false],hJ,rfl,rfl⟩
 refine c0 h9 (jg (sq (dn [(4,aU x7)] (jf ?_))))
 obtain rfl:=ji hm
 exact ⟨trivial,aU x7,[.box [aB x4,.pv (zg (rI .u8) x5),aI x6] false],hJ,rfl,rfl⟩
abbrev qn (p0:Int):=(IntKind.wrap .i64 p0)
theorem adA {n:Nat}{a0:zi}{a1:Int}{r:Bool×(Option (List Int))×Int×ByteArray}(hm:qV n a0 a1=some r):
   ∃ vv H1,call G n 77 [.ptr 0 0,aI a1] [.box (zc12 a0) false]=some (.ret vv,H1)∧(match (generalizing:=false) r with|(r0,r1,r2,r3)=>(vv=aS r3∧H1=[.box [aB r0,.pv (zg (rI .u8) r1),aI r2] false])):=by
 unfold qV at hm
 obtain ⟨n,rfl,h0⟩:=zu hm
 replace hm:=h0;clear h0
 refine ZJ 25 [jF,(1,aI a1)] func77 rfl hJ (sq (dn [jF,(1,aI a1)] (sq (rg (s1 4 [(11,aU (IntKind.wrap .u64 (if 0>a1 then 0 else a1))),(10,aI (if 0>a1 then 0 else a1)),(9,aI a1),jY] ?_)))))
 obtain ⟨⟨x2,x3,x4,x5⟩,h1,hm⟩:=bs hm
 obtain ⟨vv,H1,hC,rfl,rfl⟩:=ZZ h1
 refine dR [(12,aU x5)] [.box [aB x2,.pv (zg (rI .u8) x3),aI x4] false] [0] [.ptr 0 0,aU (IntKind.wrap .u64 (if 0>a1 then 0 else a1))] hJ hJ hJ hC hJ (fq 1 [jF,(5,aU x5)] ?_)
 refine sq (sq (rg (s1 1 [(13,.ptr 0 0)] ?_)))
 obtain ⟨_,h6,hm⟩:=bs hm
 obtain ⟨vv,H1,hC,rfl,rfl⟩:=Qn h6
 refine dR [(14,aB ((zi.mk x2 x3 x4).fmade&&((zi.mk x2 x3 x4).fe==0)))] [.box [aB x2,.pv (zg (rI .u8) x3),aI x4] false] [0] [.ptr 0 0] hJ hJ hJ hC hJ (fq 1 [jF,(5,aU x5),(15,aB (!((zi.mk x2 x3 x4).fmade&&((zi.mk x2 x3 x4).fe==0))))] ?_)
 rcases zf hm with ⟨h7,hm⟩|⟨h7,hm⟩
 ·refine c1 h7 (sq (dn [(4,aS ByteArray.empty)] (jf ?_)))
  obtain rfl:=ji hm
  exact ⟨trivial,aS ByteArray.empty,[.box [aB x2,.pv (zg (rI .u8) x3),aI x4] false],hJ,rfl,rfl⟩
 refine c0 h7 (jg (sq (rg (s1 3 [(19,aI (qn x5)),(18,aU x5),(17,.ptr 0 0)] ?_))))
 obtain ⟨⟨x9,x10,x11,x12⟩,h8,hm⟩:=bs hm
 obtain ⟨vv,H1,hC,rfl,rfl⟩:=abD h8
 refine dR [(20,.tup [.pv (zg (rI .u8) x11),aB x12])] [.box (zc14 x2 x3 x4 x9 x10) false] [0] [.ptr 0 0,aI (qn x5)] hJ hJ hJ hC hJ (fq 5 [(6,.pv (zg (rI .u8) x11))] (sq (rg (s1 1 [(23,.pv (zg (rI .u8) x11))] (dv 24 (v:=aS (strOf (sll x11))) (asQ (l:=(sll x11)) t29 t9 t5 (afP (R:=(rI .u8)) (s:=x11)) (arA x11) hJ) hJ (fq 1 [(4,aS (strOf (sll x11)))] (jf ?_)))))))
 obtain rfl:=ji hm
 exact ⟨trivial,aS (strOf (sll x11)),[.box (zc14 x2 x3 x4 x9 x10) false],hJ,rfl,rfl⟩
theorem Zp {n:Nat}{a0:zi}{r:Int}(hm:Zn n a0=some r):
   ∃ vv H1,call G n 78 [.ptr 0 0] [.box (zc12 a0) false]=some (.ret vv,H1)∧(match (generalizing:=false) r with|r0=>(vv=aI r0∧H1=[.box (zc12 a0) false])):=by
 unfold Zn at hm
 obtain ⟨n,rfl,h0⟩:=zu hm
 replace hm:=h0;clear h0
 refine ZJ 16 [jF] func78 rfl hJ (sq (dn [jF] (sq (sq (dn [jF,(11,aB (!a0.fmade))] ?_)))))
 rcases zf hm with ⟨h1,hm⟩|⟨h1,hm⟩
 ·refine c1 h1 (sq (dn [(2,aI 1)] (jf ?_)))
  obtain rfl:=ji hm
  exact ⟨trivial,aI 1,[.box (zc12 a0) false],hJ,rfl,rfl⟩
 refine c0 h1 (jg (sq (dn [(2,aI a0.fe)] (jf ?_))))
 obtain rfl:=ji hm
 exact ⟨trivial,aI a0.fe,[.box (zc12 a0) false],hJ,rfl,rfl⟩
theorem af8 {n:Nat}{a0:Bool}{a1:(Option (List Int))}{a2:Int}{r:Bool×(Option (List Int))×Int×ByteArray×Int}(hm:abZ n a0 a1 a2=some r):
  ∃ vv H1,call G n 76 [.ptr 0 0] [.box [.ptr 1 0] false,.box [aB a0,.pv (zg (rI .u8) a1),aI a2] false]=some (.ret vv,H1)∧(match (generalizing:=false) r with|(r0,r1,r2,r3,r4)=>(vv=.tup [aS r3,aI r4]∧H1=[.box [.ptr 1 0] false,.box [aB r0,.pv (zg (rI .u8) r1),aI r2] false])):=by
 unfold abZ at hm
 obtain ⟨n,rfl,h0⟩:=zu hm
 replace hm:=h0;clear h0
 refine ZJ 9 [jF] func76 rfl hJ (sq (dn [jF] (sq (rg (s1 1 [ke] ?_)))))
 obtain ⟨⟨x2,x3,x4,x5⟩,h1,hm⟩:=bs hm
 obtain ⟨vv,H1,hC,rfl,rfl⟩:=adA h1
 refine dR [(5,aS x5)] [.box [.ptr 1 0] false,.box [aB x2,.pv (zg (rI .u8) x3),aI x4] false] [1] [.ptr 1 0,aI 20] hJ hJ hJ hC hJ (fq 1 [jF,(3,aS x5)] (sq (rg (s1 2 [(7,.ptr 1 0),(6,aS x5)] ?_))))
 obtain ⟨x7,h6,hm⟩:=bs hm
 obtain ⟨vv,H1,hC,rfl,rfl⟩:=Zp h6
 refine dR [(8,aI x7)] [.box [.ptr 1 0] false,.box [aB x2,.pv (zg (rI .u8) x3),aI x4] false] [1] [.ptr 1 0] hJ hJ hJ hC hJ (fq 2 [(1,aS x5),(2,aI x7)] (jf ?_))
 obtain rfl:=ji hm
 exact ⟨trivial,.tup [aS x5,aI x7],[.box [.ptr 1 0] false,.box [aB x2,.pv (zg (rI .u8) x3),aI x4] false],hJ,rfl,rfl⟩
abbrev acO:Nat×AV:=(2,ld)
abbrev abw (p0:Int):Nat×AV:=(14,aU (IntKind.wrap .u64 (p0+1)))
abbrev aiu (p0:ByteArray):=([p0]:List ByteArray)
abbrev af6 (p0:Int):=(IntKind.wrap .u64 (p0+1))
theorem Q7 {n:Nat}{a0:zi}{a1:Int}{r:Bool×(Option (List Int))×Int×(Option (List ByteArray))×Int}(hm:Z1 n a0 a1=some r):
   ∃ vv H1,call G n 75 [.ptr 0 0,aU a1,ld] [.box (zc12 a0) false,.box [.ptr 0 0] false]=some (.ret vv,H1)∧(match (generalizing:=false) r with|(r0,r1,r2,none,r3)=>(vv=.tup [.pv .nils,aI r3]∧H1=[.box [aB r0,.pv (zg (rI .u8) r1),aI r2] false,.box [.ptr 0 0] false])|(r0,r1,r2,some r4,r3)=>(vv=.tup [aR 2 1 r4.length,aI r3]∧H1=[.box [aB r0,.pv (zg (rI .u8) r1),aI r2] false,.box [.ptr 0 0] false,bR 9 1 rS r4 0 0])):=by
 unfold Z1 at hm
 obtain ⟨n,rfl,h0⟩:=zu hm
 replace hm:=h0;clear h0
 refine ZJ 32 [jF,(1,aU a1),acO] func75 rfl hJ (sq (dn [jF,(1,aU a1),acO] (sq (dn [jF,(1,aU a1),acO,kr] ?_))))
 obtain ⟨k8,hk8,hm⟩:=zt hm
 refine mid (fun t H=>(∃ (y4:Bool) (y5:(Option (List Int))) (y6:Int) (w1:AV) (w2:AV) (w3:AV),k8 y4 y5 y6 none=some r∧t=mk 32 [jF,acO,kr,(13,w1),(14,w2),(15,w3)]∧H=[.box [aB y4,.pv (zg (rI .u8) y5),aI y6] false,.box [.ptr 0 0] false])∨(∃ (y4:Bool) (y5:(Option (List Int))) (y6:Int) (y7:(List ByteArray)) (w1:AV) (w2:AV) (w3:AV),k8 y4 y5 y6 (some y7)=some r∧t=mk 32 [jF,acO,(8,aR 2 1 y7.length),(13,w1),(14,w2),(15,w3)]∧H=[.box [aB y4,.pv (zg (rI .u8) y5),aI y6] false,.box [.ptr 0 0] false,bR 9 1 rS y7 0 0])) ?_ ?_
 ·rintro _ _ (⟨y4,y5,y6,w1,w2,w3,hm,rfl,rfl⟩|⟨y4,y5,y6,y7,w1,w2,w3,hm,rfl,rfl⟩)
  ·subst hk8
   refine sq (rg (s1 2 [j1,kA] ?_))
   obtain ⟨x10,h9,hm⟩:=bs hm
   obtain ⟨vv,H1,hC,rfl,rfl⟩:=Zp h9
   refine dR [(31,aI x10)] [.box [aB y4,.pv (zg (rI .u8) y5),aI y6] false,.box [.ptr 0 0] false] [0] [.ptr 0 0] hJ hJ hJ hC hJ (fq 2 [kx,(7,aI x10)] (jf ?_))
   obtain rfl:=ji hm
   exact ⟨trivial,.tup [.pv .nils,aI x10],[.box [aB y4,.pv (zg (rI .u8) y5),aI y6] false,.box [.ptr 0 0] false],hJ,rfl,rfl⟩
  subst hk8
  refine sq (rg (s1 2 [j1,(29,aR 2 1 y7.length)] ?_))
  obtain ⟨x12,h11,hm⟩:=bs hm
  obtain ⟨vv,H1,hC,rfl,rfl⟩:=Zp h11
  refine dR [(31,aI x12)] [.box [aB y4,.pv (zg (rI .u8) y5),aI y6] false,.box [.ptr 0 0] false,bR 9 1 rS y7 0 0] [0] [.ptr 0 0] hJ hJ hJ hC hJ (fq 2 [(6,aR 2 1 y7.length),(7,aI x12)] (jf ?_))
  obtain rfl:=ji hm
  exact ⟨trivial,.tup [aR 2 1 y7.length,aI x12],[.box [aB y4,.pv (zg (rI .u8) y5),aI y6] false,.box [.ptr 0 0] false,bR 9 1 rS y7 0 0],hJ,rfl,rfl⟩
 refine sq (rg (s1 2 [(12,aU a1),j9] ?_))
 obtain ⟨⟨x14,x15,x16,x17⟩,h13,hm⟩:=bs hm
 obtain ⟨vv,H1,hC,rfl,rfl⟩:=ZZ h13
 refine dR [(13,aU x17)] [.box (zc13 x14 x15 x16) false,.box [.ptr 0 0] false] [0] [.ptr 0 0,aU a1] hJ hJ hJ hC hJ (fq 1 [jF,acO,kr,(13,aU x17),(14,aU 0)] (bq ?_))
 refine qB (fun mm t H=>(∃ (y24:Bool) (y25:(Option (List Int))) (y26:Int) (y27:Int),zO n k8 x17 mm y24 y25 y26 y27 none=some r∧t=mk 32 [jF,acO,kr,(13,aU x17),(14,aU y27)]∧H=[.box (zc13 y24 y25 y26) false,.box [.ptr 0 0] false])∨(∃ (y24:Bool) (y25:(Option (List Int))) (y26:Int) (y27:Int) (y28:(List ByteArray)),zO n k8 x17 mm y24 y25 y26 y27 (some y28)=some r∧t=mk 32 [jF,acO,(8,aR 2 1 y28.length),(13,aU x17),(14,aU y27)]∧H=[.box (zc13 y24 y25 y26) false,.box [.ptr 0 0] false,bR 9 1 rS y28 0 0])) (.inl ⟨x14,x15,x16,0,hm,rfl,rfl⟩) ?_ ?_
 ·
   rintro _ _ (⟨y24,y25,y26,y27,hm,_⟩|⟨y24,y25,y26,y27,y28,hm,_⟩)<;>exact nomatch hm
 rintro m29 _ _ (⟨y24,y25,y26,y27,hm,rfl,rfl⟩|⟨y24,y25,y26,y27,y28,hm,rfl,rfl⟩)
 ·simp only [zO] at hm
  refine sq (dn [jF,acO,kr,(13,aU x17),(14,aU y27),(15,aB (decide (y27<x17)))] ?_)
  refine sq ?_
  rcases zf hm with ⟨h30,hm⟩|⟨h30,hm⟩
  ·refine c1 h30 (jg (sq (bq (sq (rg (s1 1 [(17,ld)] ?_))))))
   obtain ⟨⟨x32,x33,x34,x35,x36⟩,h31,hm⟩:=bs hm
   obtain ⟨vv,H1,hC,rfl,rfl⟩:=af8 h31
   refine dR [(18,.tup [aS x35,aI x36])] [.box (zc13 x32 x33 x34) false,.box [.ptr 0 0] false] [1,0] [.ptr 1 0] hJ hJ hJ hC hJ (fq 5 [jF,acO,kr,(9,aS x35),(10,aI x36),(13,aU x17),(14,aU y27)] (sq (sq (dn [jF,acO,kr,(9,aS x35),(10,aI x36),(13,aU x17),(14,aU y27),(22,aB (x36 !=0))] ?_))))
   rcases zf hm with ⟨h37,hm⟩|⟨h37,hm⟩
   ·refine c1 h37 (sq (dn [kx,(7,aI x36)] (jf ?_)))
    obtain rfl:=ji hm
    exact ⟨trivial,.tup [.pv .nils,aI x36],[.box (zc13 x32 x33 x34) false,.box [.ptr 0 0] false],hJ,rfl,rfl⟩
   refine c0 h37 (jg (rg (st 3 [(26,aR 2 1 1),(25,aS x35),kC] [.box (zc13 x32 x33 x34) false,.box [.ptr 0 0] false,bR 9 1 rS (aiu x35) 0 0] hJ ?_)))
   obtain ⟨_,h38,hm⟩:=bs hm
   refine dO [(27,aR 3 1 (([x35]:List ByteArray).length))] [.box (zc13 x32 x33 x34) false,.box [.ptr 0 0] false,bR 9 1 rS (aiu x35) 0 0,bR 9 1 rS (aiu x35) 0 0] (Qa (u:=0) rS (aiu x35) (b:=16) t22 t9 rfl rfl rfl (fun _=>rfl) rfl h38 (show zT (aR 2 1 1) _=some (([x35]:List ByteArray).map rS) from by kernel_rfl) hJ) hJ (fq 1 [jF,acO,(8,aR 3 1 (([x35]:List ByteArray).length)),(13,aU x17),(14,aU y27)] (dn [jF,acO,(8,aR 3 1 (([x35]:List ByteArray).length)),(13,aU x17),(abw y27)] ?_))
   exact ⟨_,_,ZD [jF,acO,(8,aR 2 1 (([x35]:List ByteArray).length)),(13,aU x17),(abw y27)] [.box (zc13 x32 x33 x34) false,.box [.ptr 0 0] false,bR 9 1 rS (aiu x35) 0 0] hJ,.inr (⟨x32,x33,x34,(af6 y27),(aiu x35),hm,rfl,rfl⟩)⟩
  refine c0 h30 (jh ?_)
  exact .inl ⟨y24,y25,y26,aU x17,aU y27,aB (decide (y27<x17)),hm,(zH hJ),rfl⟩
 simp only [zO] at hm
 refine sq (dn [jF,acO,(8,aR 2 1 y28.length),(13,aU x17),(14,aU y27),(15,aB (decide (y27<x17)))] ?_)
 refine sq ?_
 rcases zf hm with ⟨h39,hm⟩|⟨h39,hm⟩
 ·refine c1 h39 (jg (sq (bq (sq (rg (s1 1 [(17,ld)] ?_))))))
  obtain ⟨⟨x41,x42,x43,x44,x45⟩,h40,hm⟩:=bs hm
  obtain ⟨vv,H1,hC,rfl,rfl⟩:=af8 h40
  refine dR [(18,.tup [aS x44,aI x45])] [.box (zc13 x41 x42 x43) false,.box [.ptr 0 0] false,bR 9 1 rS y28 0 0] [1,0] [.ptr 1 0] hJ hJ hJ hC hJ (fq 5 [jF,acO,(8,aR 2 1 y28.length),(9,aS x44),(10,aI x45),(13,aU x17),(14,aU y27)] (sq (sq (dn [jF,acO,(8,aR 2 1 y28.length),(9,aS x44),(10,aI x45),(13,aU x17),(14,aU y27),(22,aB (x45 !=0))] ?_))))
  rcases zf hm with ⟨h46,hm⟩|⟨h46,hm⟩
  ·refine c1 h46 (sq (dn [kx,(7,aI x45)] (jf ?_)))
   obtain rfl:=ji hm
   exact ⟨trivial,.tup [.pv .nils,aI x45],[.box (zc13 x41 x42 x43) false,.box [.ptr 0 0] false],hJ,rfl,rfl⟩
  refine c0 h46 (jg (rg (st 3 [(26,aR 3 1 1),(25,aS x44),(24,aR 2 1 y28.length)] [.box (zc13 x41 x42 x43) false,.box [.ptr 0 0] false,bR 9 1 rS y28 0 0,bR 9 1 rS (aiu x44) 0 0] hJ ?_)))
  obtain ⟨_,h47,hm⟩:=bs hm
  refine dO [(27,aR 2 1 ((y28++([x44]:List ByteArray)).length))] [.box (zc13 x41 x42 x43) false,.box [.ptr 0 0] false,bR 9 1 rS (y28++([x44]:List ByteArray)) 0 0,bR 9 1 rS (aiu x44) 0 0] (ZF (u:=0) (n:=y28.length) (id:=2) rS y28 (aiu x44) (b:=16) t22 t9 rfl rfl rfl (fun _=>rfl) rfl h47 rfl rfl (Nat.zero_le _) (show zT (aR 3 1 1) _=some (([x44]:List ByteArray).map rS) from by kernel_rfl) hJ) hJ (fq 1 [jF,acO,(8,aR 2 1 ((y28++([x44]:List ByteArray)).length)),(13,aU x17),(14,aU y27)] (dn [jF,acO,(8,aR 2 1 ((y28++([x44]:List ByteArray)).length)),(13,aU x17),(abw y27)] ?_))
  exact ⟨_,_,ZD [jF,acO,(8,aR 2 1 ((y28++([x44]:List ByteArray)).length)),(13,aU x17),(abw y27)] [.box (zc13 x41 x42 x43) false,.box [.ptr 0 0] false,bR 9 1 rS (y28++([x44]:List ByteArray)) 0 0] hJ,.inr (⟨x41,x42,x43,(af6 y27),(y28++([x44]:List ByteArray)),hm,rfl,rfl⟩)⟩
 refine c0 h39 (jh ?_)
 exact .inr (⟨y24,y25,y26,y28,aU x17,aU y27,aB (decide (y27<x17)),hm,(zH hJ),rfl⟩)
abbrev zc15 (p0:zi) (p1:(Option (List Int))) (p2:Int):List AV:=[aB p0.fmade,.pv (zg (rI .u8) p1),aI p2]
abbrev aiZ (p0:(Option (List Int))):Nat×AV:=(21,.pv (zg (rI .u8) p0))
abbrev ake (p0:(Option (List Int))):Nat×AV:=(22,aI ((sll p0).length:Int))
theorem adh {n:Nat}{a0:zi}{a1:Int}{r:(Option (List Int))×Int×Int}(hm:qP n a0 a1=some r):
   ∃ vv H1,call G n 152 [.ptr 0 0,aI a1] [.box (zc12 a0) false]=some (.ret vv,H1)∧(match (generalizing:=false) r with|(r0,r1,r2)=>(vv=aU r2∧H1=[.box [aB a0.fmade,.pv (zg (rI .u8) r0),aI r1] false])):=by
 unfold qP at hm
 obtain ⟨n,rfl,h0⟩:=zu hm
 replace hm:=h0;clear h0
 refine ZJ 34 [jF,(1,aI a1)] func152 rfl hJ (sq (dn [jF,(1,aI a1)] ?_))
 refine sq (sq (rg (s1 1 [(10,.ptr 0 0)] ?_)))
 obtain ⟨_,h1,hm⟩:=bs hm
 obtain ⟨vv,H1,hC,rfl,rfl⟩:=Qn h1
 refine dR [(11,aB (aiX a0))] [.box (zc12 a0) false] [0] [.ptr 0 0] hJ hJ hJ hC hJ (fq 1 [jF,(1,aI a1),(12,aB (!(aiX a0)))] ?_)
 rcases zf hm with ⟨h2,hm⟩|⟨h2,hm⟩
 ·refine c1 h2 (sq (dn [(4,aU 0)] (jf ?_)))
  obtain rfl:=ji hm
  exact ⟨trivial,aU 0,[.box (zc12 a0) false],hJ,rfl,rfl⟩
 refine c0 h2 (jg (sq (rg (s1 4 [(17,aI (if 8<(if 0>a1 then 0 else a1) then 8 else (if 0>a1 then 0 else a1))),(16,aI (if 0>a1 then 0 else a1)),(15,aI a1),j8] ?_))))
 obtain ⟨⟨x4,x5,x6,x7⟩,h3,hm⟩:=bs hm
 obtain ⟨vv,H1,hC,rfl,rfl⟩:=abD h3
 refine dR [(18,.tup [.pv (zg (rI .u8) x6),aB x7])] [.box (zc15 a0 x4 x5) false] [0] [.ptr 0 0,aI (if 8<(if 0>a1 then 0 else a1) then 8 else (if 0>a1 then 0 else a1))] hJ hJ hJ hC hJ (fq 5 [(5,.pv (zg (rI .u8) x6))] (sq (dn [(5,.pv (zg (rI .u8) x6)),(7,aU 0)] ?_)))
 obtain ⟨k11,hk11,hm⟩:=zt hm
 refine mid (fun t H=>(∃ (y8:Int) (y9:Bool) (y10:Int),k11 y10=some r∧t=mk 34 [(7,aU y10),(aiZ x6),(ake x6),(23,aI y8),(24,aB y9)]∧H=[.box (zc15 a0 x4 x5) false])) ?_ ?_
 ·rintro _ _ ⟨y8,y9,y10,hm,rfl,rfl⟩
  subst hk11
  refine sq (dn [(4,aU y10)] (jf ?_))
  obtain rfl:=ji hm
  exact ⟨trivial,aU y10,[.box (zc15 a0 x4 x5) false],hJ,rfl,rfl⟩
 refine sq (rg (s1 1 [(aiZ x6)] (dv 22 (v:=aI ((sll x6).length:Int)) (zP (rI .u8) x6 t29 hJ) hJ (fq 1 [(7,aU 0),(aiZ x6),(ake x6),(23,aI 0)] (bq ?_)))))
 refine qB (fun mm t H=>(∃ (y14:Int) (y15:Int),ZQ n x6 k11 mm y14 y15=some r∧t=mk 34 [(7,aU y15),(aiZ x6),(ake x6),(23,aI y14)]∧H=[.box (zc15 a0 x4 x5) false])) (⟨0,0,hm,rfl,rfl⟩) ?_ ?_
 ·
   rintro _ _ ⟨y14,y15,hm,_⟩;exact nomatch hm
 rintro m16 _ _ ⟨y14,y15,hm,rfl,rfl⟩
 simp only [ZQ] at hm
 refine sq (dn [(7,aU y15),(aiZ x6),(ake x6),(23,aI y14),(24,aB (decide (y14<((sll x6).length:Int))))] ?_)
 refine sq ?_
 rcases zf hm with ⟨h17,hm⟩|⟨h17,hm⟩
 ·refine c1 h17 (jg (sq (bq (sq (rg ?_)))))
  obtain ⟨x18,h19,hm⟩:=bs hm
  refine dv 25 (v:=.pv (.ptr ((rI .u8) x18) 0)) (qo (rI .u8) x6 .i64 t29 t5 h19 rfl hJ) hJ (fq 2 [(7,aU y15),(9,aY x18),(aiZ x6),(ake x6),(23,aI y14)] (dn [(7,aU (iOr .u64 (iShl .u64 y15 8) (IntKind.wrap .u64 x18))),(aiZ x6),(ake x6),(23,aI y14)] (dn [(7,aU (iOr .u64 (iShl .u64 y15 8) (IntKind.wrap .u64 x18))),(aiZ x6),(ake x6),(23,aI (Zk y14))] ?_)))
  exact ⟨_,_,ZD [(7,aU (iOr .u64 (iShl .u64 y15 8) (IntKind.wrap .u64 x18))),(aiZ x6),(ake x6),(23,aI (Zk y14))] [.box (zc15 a0 x4 x5) false] hJ,⟨(Zk y14),(iOr .u64 (iShl .u64 y15 8) (IntKind.wrap .u64 x18)),hm,rfl,rfl⟩⟩
 refine c0 h17 (jh ?_)
 exact ⟨y14,(decide (y14<((sll x6).length:Int))),y15,hm,rfl,rfl⟩
theorem QB {n:Nat}{a0:zi}{r:(Option (List Int))×Int×Int}(hm:qb n a0=some r):
  ∃ vv H1,call G n 83 [.ptr 0 0] [.box (zc12 a0) false]=some (.ret vv,H1)∧(match (generalizing:=false) r with|(r0,r1,r2)=>(vv=aY r2∧H1=[.box [aB a0.fmade,.pv (zg (rI .u8) r0),aI r1] false])):=by
 unfold qb at hm
 obtain ⟨n,rfl,h0⟩:=zu hm
 replace hm:=h0;clear h0
 refine ZJ 6 [jF] func83 rfl hJ (sq (dn [jF] (sq (rg (s1 1 [jL] ?_)))))
 obtain ⟨⟨x2,x3,x4⟩,h1,hm⟩:=bs hm
 obtain ⟨vv,H1,hC,rfl,rfl⟩:=adh h1
 refine dR [(4,aU x4)] [.box (zc15 a0 x2 x3) false] [0] [.ptr 0 0,aI 1] hJ hJ hJ hC hJ (fq 2 [(2,aY (IntKind.wrap .u8 x4))] (jf ?_))
 obtain rfl:=ji hm
 exact ⟨trivial,aY (IntKind.wrap .u8 x4),[.box (zc15 a0 x2 x3) false],hJ,rfl,rfl⟩
theorem ahH {n:Nat}{a0:zi}{r:Bool×(Option (List Int))×Int×Int}(hm:aaN n a0=some r):
   ∃ vv H1,call G n 232 [.ptr 0 0] [.box (zc12 a0) false]=some (.ret vv,H1)∧(match (generalizing:=false) r with|(r0,r1,r2,r3)=>(vv=aI r3∧H1=[.box [aB r0,.pv (zg (rI .u8) r1),aI r2] false])):=by
 unfold aaN at hm
 obtain ⟨n,rfl,h0⟩:=zu hm
 replace hm:=h0;clear h0
 refine ZJ 16 [jF] func232 rfl hJ (sq (dn [jF] (sq (rg (s1 1 [(4,.ptr 0 0)] ?_)))))
 obtain ⟨⟨x2,x3,x4,x5⟩,h1,hm⟩:=bs hm
 obtain ⟨vv,H1,hC,rfl,rfl⟩:=ZZ h1
 refine dR [(5,aU x5)] [.box [aB x2,.pv (zg (rI .u8) x3),aI x4] false] [0] [.ptr 0 0,aU 18446744073709551615] hJ hJ hJ hC hJ (fq 1 [(3,aU x5)] (sq (sq (dn [(3,aU x5),(8,aB ((iAnd .u64 x5 1)==1))] ?_))))
 rcases zf hm with ⟨h6,hm⟩|⟨h6,hm⟩
 ·refine c1 h6 (sq (dn [(2,aI (IntKind.wrap .i64 (notI .u64 (iShr .u64 x5 1))))] (jf ?_)))
  obtain rfl:=ji hm
  exact ⟨trivial,aI (IntKind.wrap .i64 (notI .u64 (iShr .u64 x5 1))),[.box [aB x2,.pv (zg (rI .u8) x3),aI x4] false],hJ,rfl,rfl⟩
 refine c0 h6 (jg (sq (dn [(2,aI (IntKind.wrap .i64 (iShr .u64 x5 1)))] (jf ?_))))
 obtain rfl:=ji hm
 exact ⟨trivial,aI (IntKind.wrap .i64 (iShr .u64 x5 1)),[.box [aB x2,.pv (zg (rI .u8) x3),aI x4] false],hJ,rfl,rfl⟩
theorem agp {n:Nat}{a0:zi}{r:Bool×(Option (List Int))×Int×Nat}(hm:Q6 n a0=some r):
   ∃ vv H1,call G n 233 [.ptr 0 0] [.box (zc12 a0) false]=some (.ret vv,H1)∧(match (generalizing:=false) r with|(r0,r1,r2,r3)=>(vv=aF r3∧H1=[.box [aB r0,.pv (zg (rI .u8) r1),aI r2] false])):=by
 unfold Q6 at hm
 obtain ⟨n,rfl,h0⟩:=zu hm
 replace hm:=h0;clear h0
 refine ZJ 19 [jF] func233 rfl hJ (sq (dn [jF] (sq (rg (s1 1 [(5,.ptr 0 0)] ?_)))))
 obtain ⟨⟨x2,x3,x4⟩,h1,hm⟩:=bs hm
 obtain ⟨vv,H1,hC,rfl,rfl⟩:=adh h1
 refine dR [(6,aU x4)] [.box (zc15 a0 x2 x3) false] [0] [.ptr 0 0,aI 8] hJ hJ hJ hC hJ (fq 1 [jF,(3,aU x4)] ?_)
 refine sq (sq (rg (s1 1 [(7,.ptr 0 0)] ?_)))
 obtain ⟨_,h5,hm⟩:=bs hm
 obtain ⟨vv,H1,hC,rfl,rfl⟩:=Qn h5
 refine dR [(8,aB ((zi.mk a0.fmade x2 x3).fmade&&((zi.mk a0.fmade x2 x3).fe==0)))] [.box (zc15 a0 x2 x3) false] [0] [.ptr 0 0] hJ hJ hJ hC hJ (fq 1 [jF,(3,aU x4),(9,aB (!((zi.mk a0.fmade x2 x3).fmade&&((zi.mk a0.fmade x2 x3).fe==0))))] ?_)
 rcases zf hm with ⟨h6,hm⟩|⟨h6,hm⟩
 ·refine c1 h6 (sq (dn [(2,aF 0)] (jf ?_)))
  obtain rfl:=ji hm
  exact ⟨trivial,aF 0,[.box (zc15 a0 x2 x3) false],hJ,rfl,rfl⟩
 refine c0 h6 (jg (sq (rg (s1 1 [(10,aU x4)] (s1 1 [(11,aF (Int.toNat x4))] (fq 1 [jF,(3,aU x4),(4,aF (Int.toNat x4))] (sq (sq (rg (s1 1 [(12,aF (Int.toNat x4))] ?_))))))))))
 obtain ⟨x7,h8,hm⟩:=bs hm
 refine dv 13 (zR hJ (ahM h8) hJ hJ hJ) hJ (fq 2 [jF,(4,aF (Int.toNat x4)),(15,aB (x7 !=x4))] ?_)
 rcases zf hm with ⟨h9,hm⟩|⟨h9,hm⟩
 ·refine c1 h9 (sq (rg (s1 1 [(16,.ptr 0 0)] ?_)))
  obtain ⟨_,h10,hm⟩:=bs hm
  obtain ⟨vv,H1,hC,rfl,rfl⟩:=QG h10
  refine dR [(17,.tup [])] [.box [aB ((zi.mk a0.fmade x2 x3).fmade),.pv .nils,aI 22] false] [0] [.ptr 0 0,aI 22] hJ hJ hJ hC hJ (fin [] rfl hJ (sq (dn [(2,aF 0)] (jf ?_))))
  obtain rfl:=ji hm
  exact ⟨trivial,aF 0,[.box [aB ((zi.mk a0.fmade x2 x3).fmade),.pv .nils,aI 22] false],hJ,rfl,rfl⟩
 refine c0 h9 (jg (sq (dn [(2,aF (Int.toNat x4))] (jf ?_))))
 obtain rfl:=ji hm
 exact ⟨trivial,aF (Int.toNat x4),[.box (zc15 a0 x2 x3) false],hJ,rfl,rfl⟩
abbrev zc16 (p0:Int):List AV:=[aI (IntKind.wrap .i64 p0),aI 0,aF 0,aS ByteArray.empty]
theorem amL {n:Nat}{a0:zi}{r:Bool×(Option (List Int))×Int×Int×Int×Nat×ByteArray×Int}(hm:aex n a0=some r):
   ∃ vv H1,call G n 194 [.ptr 0 0] [.box (zc12 a0) false]=some (.ret vv,H1)∧(match (generalizing:=false) r with|(r0,r1,r2,r3,r4,r5,r6,r7)=>(vv=.tup [.agg [aI r3,aI r4,aF r5,aS r6],aI r7]∧H1=[.box [aB r0,.pv (zg (rI .u8) r1),aI r2] false])):=by
 unfold aex at hm
 obtain ⟨n,rfl,h0⟩:=zu hm
 replace hm:=h0;clear h0
 refine ZJ 46 [jF] func194 rfl hJ (sq (det [jF,jH] [.box (zc12 a0) false,.box [aI 0,aI 0,aF 0,aS ByteArray.empty] false] hJ (sq (rg (s1 1 [j6] ?_)))))
 obtain ⟨⟨x2,x3,x4⟩,h1,hm⟩:=bs hm
 obtain ⟨vv,H1,hC,rfl,rfl⟩:=QB h1
 refine dR [(7,aY x4)] [.box (zc15 a0 x2 x3) false,.box [aI 0,aI 0,aF 0,aS ByteArray.empty] false] [0] [.ptr 0 0] hJ hJ hJ hC hJ (stf 4 [jF,jH,jN] [.box (zc15 a0 x2 x3) false,.box [aI 0,aI 0,aF 0,aS ByteArray.empty] false,.box (zc16 x4) false] hJ ?_)
 obtain ⟨k12,hk12,hm⟩:=zt hm
 refine mid (fun t H=>(∃ (y6:Bool) (y7:(Option (List Int))) (y8:Int) (y9:Int) (y10:Nat) (y11:ByteArray) (w5:AV),k12 y6 y7 y8 y9 y10 y11=some r∧t=mk 46 [jF,jH,jN,(28,w5)]∧H=[.box [aB y6,.pv (zg (rI .u8) y7),aI y8] false,.box [aI 0,aI 0,aF 0,aS ByteArray.empty] false,.box [aI (qn x4),aI y9,aF y10,aS y11] false])) ?_ ?_
 ·rintro _ _ ⟨y6,y7,y8,y9,y10,y11,w5,hm,rfl,rfl⟩
  subst hk12
  refine sq (sq (rg (s1 1 [(33,.ptr 0 0)] ?_)))
  obtain ⟨x14,h13,hm⟩:=bs hm
  obtain ⟨vv,H1,hC,rfl,rfl⟩:=Zp h13
  refine dR [(34,aI x14)] [.box [aB y6,.pv (zg (rI .u8) y7),aI y8] false,.box [aI 0,aI 0,aF 0,aS ByteArray.empty] false,.box [aI (qn x4),aI y9,aF y10,aS y11] false] [0] [.ptr 0 0] hJ hJ hJ hC hJ (fq 1 [jH,jN,(5,aI x14)] (bq (sq (dn [jH,jN,(5,aI x14),(35,aB (x14 !=0))] ?_))))
  rcases zf hm with ⟨h15,hm⟩|⟨h15,hm⟩
  ·refine c1 h15 (sq (dn [jH,(3,aI x14)] (jf ?_)))
   obtain rfl:=ji hm
   exact ⟨trivial,.tup [.agg [aI 0,aI 0,aF 0,aS ByteArray.empty],aI x14],[.box [aB y6,.pv (zg (rI .u8) y7),aI y8] false],hJ,rfl,rfl⟩
  refine c0 h15 (sq (rg (s1 1 [(41,.agg [aI (qn x4),aI y9,aF y10,aS y11])] ?_)))
  obtain ⟨x16,h17,hm⟩:=bs hm
  refine dv 42 (zR hJ (aeK h17) hJ hJ hJ) hJ (fq 2 [jH,jN,(40,aB (!x16))] ?_)
  rcases zf hm with ⟨h18,hm⟩|⟨h18,hm⟩
  ·refine c1 h18 (sq (dn [jH,(3,aI 22)] (jf ?_)))
   obtain rfl:=ji hm
   exact ⟨trivial,.tup [.agg [aI 0,aI 0,aF 0,aS ByteArray.empty],aI 22],[.box [aB y6,.pv (zg (rI .u8) y7),aI y8] false],hJ,rfl,rfl⟩
  refine c0 h18 (jg (sq (det [jH,kE] [.box [aB y6,.pv (zg (rI .u8) y7),aI y8] false,.box [aI (qn x4),aI y9,aF y10,aS y11] false,.box [aI (qn x4),aI y9,aF y10,aS y11] false] hJ (jf ?_))))
  obtain rfl:=ji hm
  exact ⟨trivial,.tup [.agg [aI (qn x4),aI y9,aF y10,aS y11],aI 0],[.box [aB y6,.pv (zg (rI .u8) y7),aI y8] false],hJ,rfl,rfl⟩
 refine sq (dn [jF,jH,jN,(11,aI (qn x4))] (bq (sq (dn [jF,jH,jN,(11,aI (qn x4)),(12,aB ((IntKind.wrap .i64 x4)==1))] ?_))))
 rcases zf hm with ⟨h19,hm⟩|⟨h19,hm⟩
 ·refine c1 h19 (rg (s1 1 [j8] ?_))
  obtain ⟨⟨x21,x22,x23⟩,h20,hm⟩:=bs hm
  obtain ⟨vv,H1,hC,rfl,rfl⟩:=QB h20
  refine dR [(15,aY x23)] [.box [aB ((zi.mk a0.fmade x2 x3).fmade),.pv (zg (rI .u8) x21),aI x22] false,.box [aI 0,aI 0,aF 0,aS ByteArray.empty] false,.box (zc16 x4) false] [0] [.ptr 0 0] hJ hJ hJ hC hJ (stf 3 [jF,jH,jN] [.box [aB ((zi.mk a0.fmade x2 x3).fmade),.pv (zg (rI .u8) x21),aI x22] false,.box [aI 0,aI 0,aF 0,aS ByteArray.empty] false,.box [aI (qn x4),aI (qn x23),aF 0,aS ByteArray.empty] false] hJ ?_)
  exact ⟨((zi.mk a0.fmade x2 x3).fmade),x21,x22,(qn x23),0,ByteArray.empty,.any,hm,(zH hJ),rfl⟩
 refine c0 h19 (sq (dn [jF,jH,jN,(11,aI (qn x4)),(18,aB ((IntKind.wrap .i64 x4)==2))] ?_))
 rcases zf hm with ⟨h24,hm⟩|⟨h24,hm⟩
 ·refine c1 h24 (rg (s1 1 [kh] ?_))
  obtain ⟨⟨x26,x27,x28,x29⟩,h25,hm⟩:=bs hm
  obtain ⟨vv,H1,hC,rfl,rfl⟩:=ahH h25
  refine dR [(21,aI x29)] [.box (zc13 x26 x27 x28) false,.box [aI 0,aI 0,aF 0,aS ByteArray.empty] false,.box (zc16 x4) false] [0] [.ptr 0 0] hJ hJ hJ hC hJ (stf 2 [jF,jH,jN] [.box (zc13 x26 x27 x28) false,.box [aI 0,aI 0,aF 0,aS ByteArray.empty] false,.box [aI (qn x4),aI x29,aF 0,aS ByteArray.empty] false] hJ ?_)
  exact ⟨x26,x27,x28,x29,0,ByteArray.empty,.any,hm,(zH hJ),rfl⟩
 refine c0 h24 (sq (dn [jF,jH,jN,(11,aI (qn x4)),(23,aB ((IntKind.wrap .i64 x4)==3))] ?_))
 rcases zf hm with ⟨h30,hm⟩|⟨h30,hm⟩
 ·refine c1 h30 (rg (s1 1 [(25,.ptr 0 0)] ?_))
  obtain ⟨⟨x32,x33,x34,x35⟩,h31,hm⟩:=bs hm
  obtain ⟨vv,H1,hC,rfl,rfl⟩:=agp h31
  refine dR [(26,aF x35)] [.box (zc13 x32 x33 x34) false,.box [aI 0,aI 0,aF 0,aS ByteArray.empty] false,.box (zc16 x4) false] [0] [.ptr 0 0] hJ hJ hJ hC hJ (stf 2 [jF,jH,jN] [.box (zc13 x32 x33 x34) false,.box [aI 0,aI 0,aF 0,aS ByteArray.empty] false,.box [aI (qn x4),aI 0,aF x35,aS ByteArray.empty] false] hJ ?_)
  exact ⟨x32,x33,x34,0,x35,ByteArray.empty,.any,hm,(zH hJ),rfl⟩
 refine c0 h30 (sq (dn [jF,jH,jN,(28,aB ((IntKind.wrap .i64 x4)==4))] ?_))
 rcases zf hm with ⟨h36,hm⟩|⟨h36,hm⟩
 ·refine c1 h36 (rg (s1 1 [j1] ?_))
  obtain ⟨⟨x38,x39,x40,x41⟩,h37,hm⟩:=bs hm
  obtain ⟨vv,H1,hC,rfl,rfl⟩:=adA h37
  refine dR [(31,aS x41)] [.box (zc13 x38 x39 x40) false,.box [aI 0,aI 0,aF 0,aS ByteArray.empty] false,.box (zc16 x4) false] [0] [.ptr 0 0,aI 64] hJ hJ hJ hC hJ (stf 2 [jF,jH,jN] [.box (zc13 x38 x39 x40) false,.box [aI 0,aI 0,aF 0,aS ByteArray.empty] false,.box [aI (qn x4),aI 0,aF 0,aS x41] false] hJ ?_)
  exact ⟨x38,x39,x40,0,0,x41,.any,hm,(zH hJ),rfl⟩
 refine c0 h36 (jg ?_)
 exact ⟨a0.fmade,x2,x3,0,0,ByteArray.empty,aB ((IntKind.wrap .i64 x4)==4),hm,(zH hJ),rfl⟩
theorem ai2 {n:Nat}{a0:zp}{a1:Int}{r:Int ⊕ (zp)}(hm:aht n a0 a1=some r):
   call G n 193 [.agg (zc5 a0),aI a1] []=some (PO 34 (fun (r:zp)=>.agg [aI r.A,aI r.J,aF r.O,aS r.L]) r,[]):=by
 unfold aht at hm
 obtain ⟨n,rfl,h0⟩:=zu hm
 replace hm:=h0;clear h0
 refine ama 10 [(0,.agg (zc5 a0)),(1,aI a1)] func193 rfl hJ (sq (det [(1,aI a1),jJ,ke] [.box (zc5 a0) false,.box [aI 0,aI 0,aF 0,aS ByteArray.empty] false] hJ (sq (sq (dn [(1,aI a1),jJ,ke,(6,aB (a1 !=0))] ?_)))))
 rcases zf hm with ⟨h1,hm⟩|⟨h1,hm⟩
 ·refine c1 h1 (rg (s1 2 [(8,.pv (.ifc 34 (.int .i64 a1))),(7,aI a1)] ?_))
  obtain rfl:=ji hm
  exact rp0 (v:=.pv (.ifc 34 (.int .i64 a1))) hJ hJ (fun _=>hM)
 refine c0 h1 (jg (sq (det [ke] [.box (zc5 a0) false,.box (zc5 a0) false] hJ (jf ?_))))
 cases hm;exact hM
abbrev zc17:List AV:=[aI 0,aI 0,aI 0,aI 0,aI 0,aF 0,aS ByteArray.empty,.pv .nils]
abbrev zc18 (p0:Int):List AV:=[aI (IntKind.wrap .i64 p0),aI 0,aI 0,aI 0,aI 0,aF 0,aS ByteArray.empty,.pv .nils]
abbrev zc19 (p0:Int):List AV:=[.ptr 1 0,aI (IntKind.wrap .i64 (p0-1))]
abbrev zc20 (p0:Int) (p1:Int) (p2:Int) (p3:Int) (p4:Int) (p5:Nat) (p6:ByteArray):List AV:=[aI (IntKind.wrap .i64 p0),aI p1,aI p2,aI p3,aI p4,aF p5,aS p6,.pv .nils]
abbrev zc21 (p0:Int) (p1:Int) (p2:Int) (p3:Int) (p4:Int) (p5:Nat) (p6:ByteArray) (p7:jq):List AV:=[aI (IntKind.wrap .i64 p0),aI p1,aI p2,aI p3,aI p4,aF p5,aS p6,aR 4 8 p7.length]
abbrev zc22 (p0:Int) (p1:Int) (p2:Int) (p3:Int) (p4:Int) (p5:Nat) (p6:ByteArray):List AV:=[aI p0,aI p1,aI p2,aI p3,aI p4,aF p5,aS p6,.pv .nils]
abbrev akj (p0:Int):Nat×AV:=(90,aI (IntKind.wrap .i64 (p0+1)))
abbrev acn (p0:Int) (p1:Int) (p2:Int) (p3:Int) (p4:Int) (p5:Nat) (p6:ByteArray):=([(zy (zk.mk p0 p1 p2 (zp.mk p3 p4 p5 p6) none))]:List zc)
abbrev alu (p0:Int) (p1:Int) (p2:Int) (p3:Int) (p4:Int) (p5:Nat) (p6:ByteArray):=(([(zy (zk.mk p0 p1 p2 (zp.mk p3 p4 p5 p6) none))]:List zc).length)
abbrev ap3 (p0:Int) (p1:Int) (p2:Int) (p3:Int) (p4:Int) (p5:Nat) (p6:ByteArray):=(([(zy (zk.mk p0 p1 p2 (zp.mk p3 p4 p5 p6) none))]:List zc).map za)
abbrev ae4 (p0:jq):=(max 0 (p0.map za).length)
abbrev abb (p0:Int) (p1:Int) (p2:Int) (p3:Int) (p4:Int) (p5:Nat) (p6:ByteArray) (p7:jq):=([(zy (zk.mk p0 p1 p2 (zp.mk p3 p4 p5 p6) (some p7)))]:List zc)
abbrev alV (p0:Int) (p1:Int) (p2:Int) (p3:Int) (p4:Int) (p5:Nat) (p6:ByteArray) (p7:jq):=(([(zy (zk.mk p0 p1 p2 (zp.mk p3 p4 p5 p6) (some p7)))]:List zc).length)
abbrev apO (p0:Int) (p1:Int) (p2:Int) (p3:Int) (p4:Int) (p5:Nat) (p6:ByteArray) (p7:jq):=(([(zy (zk.mk p0 p1 p2 (zp.mk p3 p4 p5 p6) (some p7)))]:List zc).map za)
abbrev ala (p0:jq) (p1:Int) (p2:Int) (p3:Int) (p4:Int) (p5:Int) (p6:Nat) (p7:ByteArray):=((p0++([(zy (zk.mk p1 p2 p3 (zp.mk p4 p5 p6 p7) none))]:List zc)).length)
abbrev aly (p0:jq) (p1:Int) (p2:Int) (p3:Int) (p4:Int) (p5:Int) (p6:Nat) (p7:ByteArray):=(p0++([(zy (zk.mk p1 p2 p3 (zp.mk p4 p5 p6 p7) none))]:List zc))
abbrev al0 (p0:jq) (p1:Int) (p2:Int) (p3:Int) (p4:Int) (p5:Int) (p6:Nat) (p7:ByteArray) (p8:jq):=((p0++([(zy (zk.mk p1 p2 p3 (zp.mk p4 p5 p6 p7) (some p8)))]:List zc)).length)
abbrev alI (p0:jq) (p1:Int) (p2:Int) (p3:Int) (p4:Int) (p5:Int) (p6:Nat) (p7:ByteArray) (p8:jq):=(p0++([(zy (zk.mk p1 p2 p3 (zp.mk p4 p5 p6 p7) (some p8)))]:List zc))
theorem ahL {rc_expr_taker_take:(Nat→Int→Bool→(Option (List Int))→Int→Int→Option ((Int×Bool×(Option (List Int))×Int×Int) ⊕ (Int×Bool×(Option (List Int))×Int×Int×Int×Int×Int×Int×Nat×ByteArray) ⊕ (Int×Bool×(Option (List Int))×Int×Int×Int×Int×Int×Int×Nat×ByteArray×jq)))}(ih_expr_taker_take:∀ {n:Nat}{a0:Int}{a1:Bool}{a2:(Option (List Int))}{a3:Int}{a4:Int}{r:(Int×Bool×(Option (List Int))×Int×Int) ⊕ (Int×Bool×(Option (List Int))×Int×Int×Int×Int×Int×Int×Nat×ByteArray) ⊕ (Int×Bool×(Option (List Int))×Int×Int×Int×Int×Int×Int×Nat×ByteArray×jq)}(hm:rc_expr_taker_take n a0 a1 a2 a3 a4=some r),∃ vv H1,call G n 150 [.ptr 0 0,aI a4] [.box [.ptr 1 0,aI a0] false,.box [aB a1,.pv (zg (rI .u8) a2),aI a3] false]=some (vv,H1)∧(match (generalizing:=false) r with|(.inl (r0,r1,r2,r3,r4))=>(vv=.pan (.pv (.ifc 34 (.int .i64 r4)))∧H1=[.box [.ptr 1 0,aI r0] false,.box [aB r1,.pv (zg (rI .u8) r2),aI r3] false])|(.inr (.inl (r5,r6,r7,r8,r9,r10,r11,r12,r13,r14,r15)))=>(vv=.ret (.agg [aI r9,aI r10,aI r11,aI r12,aI r13,aF r14,aS r15,.pv .nils])∧H1=[.box [.ptr 1 0,aI r5] false,.box [aB r6,.pv (zg (rI .u8) r7),aI r8] false])|(.inr (.inr ((r16,r17,r18,r19,r20,r21,r22,r23,r24,r25,r26,r27))))=>(vv=.ret (.agg [aI r20,aI r21,aI r22,aI r23,aI r24,aF r25,aS r26,aR 2 8 r27.length])∧H1=[.box [.ptr 1 0,aI r16] false,.box [aB r17,.pv (zg (rI .u8) r18),aI r19] false,bR 49 8 za r27 0 0]))) {n:Nat}{a0:Int}{a1:Bool}{a2:(Option (List Int))}{a3:Int}{a4:Int}{r:(Int×Bool×(Option (List Int))×Int×Int) ⊕ (Int×Bool×(Option (List Int))×Int×Int×Int×Int×Int×Int×Nat×ByteArray) ⊕ (Int×Bool×(Option (List Int))×Int×Int×Int×Int×Int×Int×Nat×ByteArray×jq)}(hm:aan rc_expr_taker_take n a0 a1 a2 a3 a4=some r):
   ∃ vv H1,call G n 150 [.ptr 0 0,aI a4] [.box [.ptr 1 0,aI a0] false,.box [aB a1,.pv (zg (rI .u8) a2),aI a3] false]=some (vv,H1)∧(match (generalizing:=false) r with|(.inl (r0,r1,r2,r3,r4))=>(vv=.pan (.pv (.ifc 34 (.int .i64 r4)))∧H1=[.box [.ptr 1 0,aI r0] false,.box [aB r1,.pv (zg (rI .u8) r2),aI r3] false])|(.inr (.inl (r5,r6,r7,r8,r9,r10,r11,r12,r13,r14,r15)))=>(vv=.ret (.agg [aI r9,aI r10,aI r11,aI r12,aI r13,aF r14,aS r15,.pv .nils])∧H1=[.box [.ptr 1 0,aI r5] false,.box [aB r6,.pv (zg (rI .u8) r7),aI r8] false])|(.inr (.inr ((r16,r17,r18,r19,r20,r21,r22,r23,r24,r25,r26,r27))))=>(vv=.ret (.agg [aI r20,aI r21,aI r22,aI r23,aI r24,aF r25,aS r26,aR 2 8 r27.length])∧H1=[.box [.ptr 1 0,aI r16] false,.box [aB r17,.pv (zg (rI .u8) r18),aI r19] false,bR 49 8 za r27 0 0])):=by
 unfold aan at hm
 obtain ⟨n,rfl,h0⟩:=zu hm
 replace hm:=h0;clear h0
 refine apc 103 [jF,(1,aI a4)] func150 rfl hJ (sq (det [jF,(1,aI a4),jN] [.box [.ptr 1 0,aI a0] false,.box [aB a1,.pv (zg (rI .u8) a2),aI a3] false,.box zc17 false] hJ (sq (rg (s1 4 [(12,.ptr 1 0),j9,(10,.ptr 0 0),kc] ?_)))))
 obtain ⟨⟨x2,x3,x4⟩,h1,hm⟩:=bs hm
 obtain ⟨vv,H1,hC,rfl,rfl⟩:=QB h1
 refine dR [(13,aY x4)] [.box [.ptr 1 0,aI a0] false,.box (zc14 a1 a2 a3 x2 x3) false,.box zc17 false] [1] [.ptr 1 0] hJ hJ hJ hC hJ (stf 4 [jF,(1,aI a4),jN,jP] [.box [.ptr 1 0,aI a0] false,.box (zc14 a1 a2 a3 x2 x3) false,.box zc17 false,.box (zc18 x4) false] hJ (sq (rg (s1 2 [(17,aI (qn x4)),(16,.ptr 3 0)] ?_))))
 obtain ⟨x5,h6,hm⟩:=bs hm
 refine dv 18 (zR hJ (ajm h6) hJ hJ hJ) hJ (fq 1 [jF,(1,aI a4),jN,jP,(6,aI x5)] (sq (det [jF,(1,aI a4),jN,jP,(6,aI x5)] [.box (zc19 a0) false,.box (zc14 a1 a2 a3 x2 x3) false,.box zc17 false,.box (zc18 x4) false] hJ ?_)))
 refine sq (sq (rg (s1 4 [(29,.ptr 1 0),(28,.ptr 0 0),(27,.ptr 0 0),(26,.ptr 0 0)] ?_)))
 obtain ⟨x8,h7,hm⟩:=bs hm
 obtain ⟨vv,H1,hC,rfl,rfl⟩:=Zp h7
 refine dR [(30,aI x8)] [.box (zc19 a0) false,.box (zc14 a1 a2 a3 x2 x3) false,.box zc17 false,.box (zc18 x4) false] [1] [.ptr 1 0] hJ hJ hJ hC hJ (fq 1 [jF,(1,aI a4),jN,jP,(6,aI x5),(7,aI x8)] (bq (sq (dn [jF,(1,aI a4),jN,jP,(6,aI x5),(7,aI x8),(31,aB (x8 !=0))] ?_))))
 rcases zf hm with ⟨h9,hm⟩|⟨h9,hm⟩
 ·refine c1 h9 (rg (s1 2 [(35,.pv (.ifc 34 (.int .i64 x8))),(34,aI x8)] ?_))
  obtain rfl:=ji hm
  exact rp0 (v:=.pv (.ifc 34 (.int .i64 x8))) hJ hJ (fun _=>⟨trivial,.pan (.pv (.ifc 34 (.int .i64 x8))),[.box (zc19 a0) false,.box (zc14 a1 a2 a3 x2 x3) false],hJ,rfl,rfl⟩)
 refine c0 h9 (sq (rg (s1 3 [(39,aB (decide (x5<0))),(38,aB (decide (x5<0))),(37,aI x5)] ?_)))
 refine segP (decide (x5<0)) [39,38] (fun b=>[(42,aB (b||(decide (a4>24)))),(41,ifA b jb (aB (decide (a4>24)))),(40,ifA b jb (aI a4))]) 3 hJ hJ hJ (s1 1 [(43,aB ((decide (x5<0))||(decide (a4>24))))] ?_)
 refine segP ((decide (x5<0))||(decide (a4>24))) [43,42] (fun b=>[(49,aB (b||(decide ((IntKind.wrap .i64 (a0-1))<0)))),(48,ifA b jb (aB (decide ((IntKind.wrap .i64 (a0-1))<0)))),(47,ifA b jb (aI (IntKind.wrap .i64 (a0-1)))),(46,ifA b jb (.ptr 0 1)),(45,ifA b jb (.ptr 0 0)),(44,ifA b jb (.ptr 0 0))]) 6 hJ hJ hJ (fq 1 [jF,(1,aI a4),jN,jP,(6,aI x5),(36,aB (((decide (x5<0))||(decide (a4>24)))||(decide ((IntKind.wrap .i64 (a0-1))<0))))] ?_)
 rcases zf hm with ⟨h10,hm⟩|⟨h10,hm⟩
 ·refine c1 h10 (rg (s1 1 [(50,.pv (.ifc 34 (.int .i64 22)))] ?_))
  obtain rfl:=ji hm
  exact rp0 (v:=.pv (.ifc 34 (.int .i64 22))) hJ hJ (fun _=>⟨trivial,.pan (.pv (.ifc 34 (.int .i64 22))),[.box (zc19 a0) false,.box (zc14 a1 a2 a3 x2 x3) false],hJ,rfl,rfl⟩)
 refine c0 h10 (jg ?_)
 obtain ⟨k21,hk21,hm⟩:=zt hm
 refine mid (fun t H=>(∃ (y12:Bool) (y13:(Option (List Int))) (y14:Int) (y15:Int) (y16:Int) (y17:Int) (y18:Int) (y19:Nat) (y20:ByteArray) (w11:AV),k21 y12 y13 y14 y15 y16 y17 y18 y19 y20=some r∧t=mk 103 [jF,(1,aI a4),jN,jP,(6,aI x5),(69,w11)]∧H=[.box (zc19 a0) false,.box (zc13 y12 y13 y14) false,.box zc17 false,.box (zc20 x4 y15 y16 y17 y18 y19 y20) false])) ?_ ?_
 ·rintro _ _ ⟨y12,y13,y14,y15,y16,y17,y18,y19,y20,w11,hm,rfl,rfl⟩
  subst hk21
  refine sq (sq (rg (s1 4 [(83,.ptr 1 0),(82,.ptr 0 0),(81,.ptr 0 0),(80,.ptr 0 0)] ?_)))
  obtain ⟨x23,h22,hm⟩:=bs hm
  obtain ⟨vv,H1,hC,rfl,rfl⟩:=Zp h22
  refine dR [(84,aI x23)] [.box (zc19 a0) false,.box (zc13 y12 y13 y14) false,.box zc17 false,.box (zc20 x4 y15 y16 y17 y18 y19 y20) false] [1] [.ptr 1 0] hJ hJ hJ hC hJ (fq 1 [jF,(1,aI a4),jN,jP,(6,aI x5),(8,aI x23)] (sq (dn [jF,(1,aI a4),jN,jP,(6,aI x5),(8,aI x23),(86,aB (x23 !=0))] ?_)))
  rcases zf hm with ⟨h24,hm⟩|⟨h24,hm⟩
  ·refine c1 h24 (rg (s1 2 [(88,.pv (.ifc 34 (.int .i64 x23))),(87,aI x23)] ?_))
   obtain rfl:=ji hm
   exact rp0 (v:=.pv (.ifc 34 (.int .i64 x23))) hJ hJ (fun _=>⟨trivial,.pan (.pv (.ifc 34 (.int .i64 x23))),[.box (zc19 a0) false,.box (zc13 y12 y13 y14) false],hJ,rfl,rfl⟩)
  refine c0 h24 (jg ?_)
  obtain ⟨k32,hk32,hm⟩:=zt hm
  refine mid (fun t H=>(∃ (y27:Int) (y28:Bool) (y29:(Option (List Int))) (y30:Int) (w25:AV) (w26:AV),k32 y27 y28 y29 y30 none=some r∧t=mk 103 [jF,(1,aI a4),jN,jP,(89,aI x5),(90,w25),(91,w26)]∧H=[.box [.ptr 1 0,aI y27] false,.box (zc13 y28 y29 y30) false,.box zc17 false,.box (zc20 x4 y15 y16 y17 y18 y19 y20) false])∨(∃ (y27:Int) (y28:Bool) (y29:(Option (List Int))) (y30:Int) (y31:jq) (w25:AV) (w26:AV),k32 y27 y28 y29 y30 (some y31)=some r∧t=mk 103 [jF,(1,aI a4),jN,jP,(89,aI x5),(90,w25),(91,w26)]∧H=[.box [.ptr 1 0,aI y27] false,.box (zc13 y28 y29 y30) false,.box zc17 false,.box (zc21 x4 y15 y16 y17 y18 y19 y20 y31) false,bR 49 8 za y31 0 0])) ?_ ?_
  ·rintro _ _ (⟨y27,y28,y29,y30,w25,w26,hm,rfl,rfl⟩|⟨y27,y28,y29,y30,y31,w25,w26,hm,rfl,rfl⟩)
   ·subst hk32
    refine sq (det [jN] [.box [.ptr 1 0,aI y27] false,.box (zc13 y28 y29 y30) false,.box (zc20 x4 y15 y16 y17 y18 y19 y20) false,.box (zc20 x4 y15 y16 y17 y18 y19 y20) false] hJ (jf ?_))
    obtain rfl:=ji hm
    exact ⟨trivial,.ret (.agg (zc20 x4 y15 y16 y17 y18 y19 y20)),[.box [.ptr 1 0,aI y27] false,.box (zc13 y28 y29 y30) false],hJ,rfl,rfl⟩
   subst hk32
   refine sq (det [jN] [.box [.ptr 1 0,aI y27] false,.box (zc13 y28 y29 y30) false,.box (zc21 x4 y15 y16 y17 y18 y19 y20 y31) false,.box (zc21 x4 y15 y16 y17 y18 y19 y20 y31) false,bR 49 8 za y31 0 0] hJ (jf ?_))
   obtain rfl:=ji hm
   exact ⟨trivial,.ret (.agg [aI (qn x4),aI y15,aI y16,aI y17,aI y18,aF y19,aS y20,aR 2 8 y31.length]),[.box [.ptr 1 0,aI y27] false,.box (zc13 y28 y29 y30) false,bR 49 8 za y31 0 0],hJ,rfl,rfl⟩
  refine sq (dn [jF,(1,aI a4),jN,jP,(89,aI x5),(90,aI 0)] (bq ?_))
  refine qB (fun mm t H=>(∃ (y44:Int) (y45:Bool) (y46:(Option (List Int))) (y47:Int) (y49:Int),Zq n rc_expr_taker_take a4 x5 k32 mm y44 y45 y46 y47 none y49=some r∧t=mk 103 [jF,(1,aI a4),jN,jP,(89,aI x5),(90,aI y49)]∧H=[.box [.ptr 1 0,aI y44] false,.box (zc13 y45 y46 y47) false,.box zc17 false,.box (zc20 x4 y15 y16 y17 y18 y19 y20) false])∨(∃ (y44:Int) (y45:Bool) (y46:(Option (List Int))) (y47:Int) (y48:jq) (y49:Int),Zq n rc_expr_taker_take a4 x5 k32 mm y44 y45 y46 y47 (some y48) y49=some r∧t=mk 103 [jF,(1,aI a4),jN,jP,(89,aI x5),(90,aI y49)]∧H=[.box [.ptr 1 0,aI y44] false,.box (zc13 y45 y46 y47) false,.box zc17 false,.box (zc21 x4 y15 y16 y17 y18 y19 y20 y48) false,bR 49 8 za y48 0 0])) (.inl ⟨(IntKind.wrap .i64 (a0-1)),y12,y13,y14,0,hm,rfl,rfl⟩) ?_ ?_
  ·
    rintro _ _ (⟨y44,y45,y46,y47,y49,hm,_⟩|⟨y44,y45,y46,y47,y48,y49,hm,_⟩)<;>exact nomatch hm
  rintro m50 _ _ (⟨y44,y45,y46,y47,y49,hm,rfl,rfl⟩|⟨y44,y45,y46,y47,y48,y49,hm,rfl,rfl⟩)
  ·simp only [Zq] at hm
   refine sq (dn [jF,(1,aI a4),jN,jP,(89,aI x5),(90,aI y49),(91,aB (decide (y49<x5)))] ?_)
   refine sq ?_
   rcases zf hm with ⟨h51,hm⟩|⟨h51,hm⟩
   ·refine c1 h51 (jg (sq (bq (rgd (shd 5 [(96,aI (Zk a4)),(95,aI a4),(94,.ptr 0 0),(93,.pv .nils),(92,.ptr 3 7)] hJ ?_)))))
    obtain ⟨x53,h52,hm⟩:=bs hm
    rcases x53 with ⟨x54,x55,x56,x57,x58⟩|⟨x59,x60,x61,x62,x63,x64,x65,x66,x67,x68,x69⟩|⟨x70,x71,x72,x73,x74,x75,x76,x77,x78,x79,x80,x81⟩
    ·obtain ⟨vv,H1,hC,rfl,rfl⟩:=ih_expr_taker_take h52
     obtain rfl:=ji hm
     exact rRd (v':=.pv (.ifc 34 (.int .i64 x58))) [.box [.ptr 1 0,aI x54] false,.box (zc13 x55 x56 x57) false,.box zc17 false,.box (zc20 x4 y15 y16 y17 y18 y19 y20) false] [0,1] [.ptr 0 0,aI (Zk a4)] hJ hJ hJ hC hJ hJ (fun _=>⟨trivial,.pan (.pv (.ifc 34 (.int .i64 x58))),[.box [.ptr 1 0,aI x54] false,.box (zc13 x55 x56 x57) false],hJ,rfl,rfl⟩)
    ·obtain ⟨vv,H1,hC,rfl,rfl⟩:=ih_expr_taker_take h52
     refine dRd [(97,.agg (zc22 x63 x64 x65 x66 x67 x68 x69))] [.box [.ptr 1 0,aI x59] false,.box (zc13 x60 x61 x62) false,.box zc17 false,.box (zc20 x4 y15 y16 y17 y18 y19 y20) false] [0,1] [.ptr 0 0,aI (Zk a4)] hJ hJ hJ hC hJ (std 1 [(98,aR 4 8 1)] [.box [.ptr 1 0,aI x59] false,.box (zc13 x60 x61 x62) false,.box zc17 false,.box (zc20 x4 y15 y16 y17 y18 y19 y20) false,bR 49 8 za (acn x63 x64 x65 x66 x67 x68 x69) 0 0] hJ ?_)
     obtain ⟨_,h82,hm⟩:=bs hm
     refine dOd [(99,aR 5 8 (alu x63 x64 x65 x66 x67 x68 x69))] [.box [.ptr 1 0,aI x59] false,.box (zc13 x60 x61 x62) false,.box zc17 false,.box (zc20 x4 y15 y16 y17 y18 y19 y20) false,bR 49 8 za (acn x63 x64 x65 x66 x67 x68 x69) 0 0,bR 49 8 za (acn x63 x64 x65 x66 x67 x68 x69) 0 0] (Qa (u:=0) za (acn x63 x64 x65 x66 x67 x68 x69) (b:=88) t23 t49 rfl rfl rfl Z6 rfl h82 (show zT (aR 4 8 1) _=some (ap3 x63 x64 x65 x66 x67 x68 x69) from by kernel_rfl) hJ) hJ (std 2 [kj] [.box [.ptr 1 0,aI x59] false,.box (zc13 x60 x61 x62) false,.box zc17 false,.box [aI (qn x4),aI y15,aI y16,aI y17,aI y18,aF y19,aS y20,aR 5 8 (alu x63 x64 x65 x66 x67 x68 x69)] false,bR 49 8 za (acn x63 x64 x65 x66 x67 x68 x69) 0 0,bR 49 8 za (acn x63 x64 x65 x66 x67 x68 x69) 0 0] hJ (find [jF,(1,aI a4),jN,jP,(89,aI x5),(90,aI y49)] rfl hJ hJ (dn [jF,(1,aI a4),jN,jP,(89,aI x5),(akj y49)] ?_)))
     exact ⟨_,_,ZD [jF,(1,aI a4),jN,jP,(89,aI x5),(akj y49)] [.box [.ptr 1 0,aI x59] false,.box (zc13 x60 x61 x62) false,.box zc17 false,.box [aI (qn x4),aI y15,aI y16,aI y17,aI y18,aF y19,aS y20,aR 4 8 (alu x63 x64 x65 x66 x67 x68 x69)] false,bR 49 8 za (acn x63 x64 x65 x66 x67 x68 x69) 0 0] hJ,.inr (⟨x59,x60,x61,x62,(acn x63 x64 x65 x66 x67 x68 x69),(Zk y49),hm,rfl,rfl⟩)⟩
    obtain ⟨vv,H1,hC,rfl,rfl⟩:=ih_expr_taker_take h52
    refine dRd [(97,.agg [aI x74,aI x75,aI x76,aI x77,aI x78,aF x79,aS x80,aR 4 8 x81.length])] [.box [.ptr 1 0,aI x70] false,.box (zc13 x71 x72 x73) false,.box zc17 false,.box (zc20 x4 y15 y16 y17 y18 y19 y20) false,bR 49 8 za x81 0 0] [0,1] [.ptr 0 0,aI (Zk a4)] hJ hJ hJ hC hJ (dOd [(98,aR 5 8 1)] [.box [.ptr 1 0,aI x70] false,.box (zc13 x71 x72 x73) false,.box zc17 false,.box (zc20 x4 y15 y16 y17 y18 y19 y20) false,bR 49 8 za x81 0 (ae4 x81),bR 49 8 za (abb x74 x75 x76 x77 x78 x79 x80 x81) 0 0] (afE (nid:=0) (t:=23) (len:=1) (is:=[0]) (vs:=[.agg [aI x74,aI x75,aI x76,aI x77,aI x78,aF x79,aS x80,aR 4 8 x81.length]]) (ps:=[.agg [aI x74,aI x75,aI x76,aI x77,aI x78,aF x79,aS x80,.pv (.sl (x81.map za))]]) (R:=[4]) (e:=⟨aR 5 8 1,[],[bR 49 8 za (abb x74 x75 x76 x77 x78 x79 x80 x81) 0 0]⟩) hJ (zK (ahC (zj (zw) (zj (zw) (zj (zw) (zj (zw) (zj (zw) (zj (zw) (zj (zw) (zj (zB (n:=x81.length) (id:=4) (l:=x81) (R:=za) rfl rfl (Nat.zero_le _)) (rfl))))))))) rfl) (rfl)) hJ hJ) hJ ?_)
    obtain ⟨_,h83,hm⟩:=bs hm
    refine dOd [(99,aR 6 8 (alV x74 x75 x76 x77 x78 x79 x80 x81))] [.box [.ptr 1 0,aI x70] false,.box (zc13 x71 x72 x73) false,.box zc17 false,.box (zc20 x4 y15 y16 y17 y18 y19 y20) false,bR 49 8 za x81 0 (ae4 x81),bR 49 8 za (abb x74 x75 x76 x77 x78 x79 x80 x81) 0 0,bR 49 8 za (abb x74 x75 x76 x77 x78 x79 x80 x81) 0 0] (Qa (u:=0) za (abb x74 x75 x76 x77 x78 x79 x80 x81) (b:=88) t23 t49 rfl rfl rfl Z6 rfl h83 (show zT (aR 5 8 1) _=some (apO x74 x75 x76 x77 x78 x79 x80 x81) from by kernel_rfl) hJ) hJ (std 2 [kj] [.box [.ptr 1 0,aI x70] false,.box (zc13 x71 x72 x73) false,.box zc17 false,.box [aI (qn x4),aI y15,aI y16,aI y17,aI y18,aF y19,aS y20,aR 6 8 (alV x74 x75 x76 x77 x78 x79 x80 x81)] false,bR 49 8 za x81 0 (ae4 x81),bR 49 8 za (abb x74 x75 x76 x77 x78 x79 x80 x81) 0 0,bR 49 8 za (abb x74 x75 x76 x77 x78 x79 x80 x81) 0 0] hJ (find [jF,(1,aI a4),jN,jP,(89,aI x5),(90,aI y49)] rfl hJ hJ (dn [jF,(1,aI a4),jN,jP,(89,aI x5),(akj y49)] ?_)))
    exact ⟨_,_,ZD [jF,(1,aI a4),jN,jP,(89,aI x5),(akj y49)] [.box [.ptr 1 0,aI x70] false,.box (zc13 x71 x72 x73) false,.box zc17 false,.box [aI (qn x4),aI y15,aI y16,aI y17,aI y18,aF y19,aS y20,aR 4 8 (alV x74 x75 x76 x77 x78 x79 x80 x81)] false,bR 49 8 za (abb x74 x75 x76 x77 x78 x79 x80 x81) 0 0] hJ,.inr (⟨x70,x71,x72,x73,(abb x74 x75 x76 x77 x78 x79 x80 x81),(Zk y49),hm,rfl,rfl⟩)⟩
   refine c0 h51 (jh ?_)
   exact .inl ⟨y44,y45,y46,y47,aI y49,aB (decide (y49<x5)),hm,(zH hJ),rfl⟩
  simp only [Zq] at hm
  refine sq (dn [jF,(1,aI a4),jN,jP,(89,aI x5),(90,aI y49),(91,aB (decide (y49<x5)))] ?_)
  refine sq ?_
  rcases zf hm with ⟨h84,hm⟩|⟨h84,hm⟩
  ·refine c1 h84 (jg (sq (bq (rgd (shd 5 [(96,aI (Zk a4)),(95,aI a4),(94,.ptr 0 0),(93,aR 4 8 y48.length),(92,.ptr 3 7)] hJ ?_)))))
   obtain ⟨x86,h85,hm⟩:=bs hm
   rcases x86 with ⟨x87,x88,x89,x90,x91⟩|⟨x92,x93,x94,x95,x96,x97,x98,x99,x100,x101,x102⟩|⟨x103,x104,x105,x106,x107,x108,x109,x110,x111,x112,x113,x114⟩
   ·obtain ⟨vv,H1,hC,rfl,rfl⟩:=ih_expr_taker_take h85
    obtain rfl:=ji hm
    exact rRd (v':=.pv (.ifc 34 (.int .i64 x91))) [.box [.ptr 1 0,aI x87] false,.box (zc13 x88 x89 x90) false,.box zc17 false,.box (zc21 x4 y15 y16 y17 y18 y19 y20 y48) false,bR 49 8 za y48 0 0] [0,1] [.ptr 0 0,aI (Zk a4)] hJ hJ hJ hC hJ hJ (fun _=>⟨trivial,.pan (.pv (.ifc 34 (.int .i64 x91))),[.box [.ptr 1 0,aI x87] false,.box (zc13 x88 x89 x90) false],hJ,rfl,rfl⟩)
   ·obtain ⟨vv,H1,hC,rfl,rfl⟩:=ih_expr_taker_take h85
    refine dRd [(97,.agg (zc22 x96 x97 x98 x99 x100 x101 x102))] [.box [.ptr 1 0,aI x92] false,.box (zc13 x93 x94 x95) false,.box zc17 false,.box (zc21 x4 y15 y16 y17 y18 y19 y20 y48) false,bR 49 8 za y48 0 0] [0,1] [.ptr 0 0,aI (Zk a4)] hJ hJ hJ hC hJ (std 1 [(98,aR 5 8 1)] [.box [.ptr 1 0,aI x92] false,.box (zc13 x93 x94 x95) false,.box zc17 false,.box (zc21 x4 y15 y16 y17 y18 y19 y20 y48) false,bR 49 8 za y48 0 0,bR 49 8 za (acn x96 x97 x98 x99 x100 x101 x102) 0 0] hJ ?_)
    obtain ⟨_,h115,hm⟩:=bs hm
    refine dOd [(99,aR 4 8 (ala y48 x96 x97 x98 x99 x100 x101 x102))] [.box [.ptr 1 0,aI x92] false,.box (zc13 x93 x94 x95) false,.box zc17 false,.box (zc21 x4 y15 y16 y17 y18 y19 y20 y48) false,bR 49 8 za (aly y48 x96 x97 x98 x99 x100 x101 x102) 0 0,bR 49 8 za (acn x96 x97 x98 x99 x100 x101 x102) 0 0] (ZF (u:=0) (n:=y48.length) (id:=4) za y48 (acn x96 x97 x98 x99 x100 x101 x102) (b:=88) t23 t49 rfl rfl rfl Z6 rfl h115 rfl rfl (Nat.zero_le _) (show zT (aR 5 8 1) _=some (ap3 x96 x97 x98 x99 x100 x101 x102) from by kernel_rfl) hJ) hJ (std 2 [kj] [.box [.ptr 1 0,aI x92] false,.box (zc13 x93 x94 x95) false,.box zc17 false,.box [aI (qn x4),aI y15,aI y16,aI y17,aI y18,aF y19,aS y20,aR 4 8 (ala y48 x96 x97 x98 x99 x100 x101 x102)] false,bR 49 8 za (aly y48 x96 x97 x98 x99 x100 x101 x102) 0 0,bR 49 8 za (acn x96 x97 x98 x99 x100 x101 x102) 0 0] hJ (find [jF,(1,aI a4),jN,jP,(89,aI x5),(90,aI y49)] rfl hJ hJ (dn [jF,(1,aI a4),jN,jP,(89,aI x5),(akj y49)] ?_)))
    exact ⟨_,_,ZD [jF,(1,aI a4),jN,jP,(89,aI x5),(akj y49)] [.box [.ptr 1 0,aI x92] false,.box (zc13 x93 x94 x95) false,.box zc17 false,.box [aI (qn x4),aI y15,aI y16,aI y17,aI y18,aF y19,aS y20,aR 4 8 (ala y48 x96 x97 x98 x99 x100 x101 x102)] false,bR 49 8 za (aly y48 x96 x97 x98 x99 x100 x101 x102) 0 0] hJ,.inr (⟨x92,x93,x94,x95,(aly y48 x96 x97 x98 x99 x100 x101 x102),(Zk y49),hm,rfl,rfl⟩)⟩
   obtain ⟨vv,H1,hC,rfl,rfl⟩:=ih_expr_taker_take h85
   refine dRd [(97,.agg [aI x107,aI x108,aI x109,aI x110,aI x111,aF x112,aS x113,aR 5 8 x114.length])] [.box [.ptr 1 0,aI x103] false,.box (zc13 x104 x105 x106) false,.box zc17 false,.box (zc21 x4 y15 y16 y17 y18 y19 y20 y48) false,bR 49 8 za y48 0 0,bR 49 8 za x114 0 0] [0,1] [.ptr 0 0,aI (Zk a4)] hJ hJ hJ hC hJ (dOd [(98,aR 6 8 1)] [.box [.ptr 1 0,aI x103] false,.box (zc13 x104 x105 x106) false,.box zc17 false,.box (zc21 x4 y15 y16 y17 y18 y19 y20 y48) false,bR 49 8 za y48 0 0,bR 49 8 za x114 0 (ae4 x114),bR 49 8 za (abb x107 x108 x109 x110 x111 x112 x113 x114) 0 0] (afE (nid:=0) (t:=23) (len:=1) (is:=[0]) (vs:=[.agg [aI x107,aI x108,aI x109,aI x110,aI x111,aF x112,aS x113,aR 5 8 x114.length]]) (ps:=[.agg [aI x107,aI x108,aI x109,aI x110,aI x111,aF x112,aS x113,.pv (.sl (x114.map za))]]) (R:=[5]) (e:=⟨aR 6 8 1,[],[bR 49 8 za (abb x107 x108 x109 x110 x111 x112 x113 x114) 0 0]⟩) hJ (zK (ahC (zj (zw) (zj (zw) (zj (zw) (zj (zw) (zj (zw) (zj (zw) (zj (zw) (zj (zB (n:=x114.length) (id:=5) (l:=x114) (R:=za) rfl rfl (Nat.zero_le _)) (rfl))))))))) rfl) (rfl)) hJ hJ) hJ ?_)
   obtain ⟨_,h116,hm⟩:=bs hm
   refine dOd [(99,aR 4 8 (al0 y48 x107 x108 x109 x110 x111 x112 x113 x114))] [.box [.ptr 1 0,aI x103] false,.box (zc13 x104 x105 x106) false,.box zc17 false,.box (zc21 x4 y15 y16 y17 y18 y19 y20 y48) false,bR 49 8 za (alI y48 x107 x108 x109 x110 x111 x112 x113 x114) 0 0,bR 49 8 za x114 0 (ae4 x114),bR 49 8 za (abb x107 x108 x109 x110 x111 x112 x113 x114) 0 0] (ZF (u:=0) (n:=y48.length) (id:=4) za y48 (abb x107 x108 x109 x110 x111 x112 x113 x114) (b:=88) t23 t49 rfl rfl rfl Z6 rfl h116 rfl rfl (Nat.zero_le _) (show zT (aR 6 8 1) _=some (apO x107 x108 x109 x110 x111 x112 x113 x114) from by kernel_rfl) hJ) hJ (std 2 [kj] [.box [.ptr 1 0,aI x103] false,.box (zc13 x104 x105 x106) false,.box zc17 false,.box [aI (qn x4),aI y15,aI y16,aI y17,aI y18,aF y19,aS y20,aR 4 8 (al0 y48 x107 x108 x109 x110 x111 x112 x113 x114)] false,bR 49 8 za (alI y48 x107 x108 x109 x110 x111 x112 x113 x114) 0 0,bR 49 8 za x114 0 (ae4 x114),bR 49 8 za (abb x107 x108 x109 x110 x111 x112 x113 x114) 0 0] hJ (find [jF,(1,aI a4),jN,jP,(89,aI x5),(90,aI y49)] rfl hJ hJ (dn [jF,(1,aI a4),jN,jP,(89,aI x5),(akj y49)] ?_)))
   exact ⟨_,_,ZD [jF,(1,aI a4),jN,jP,(89,aI x5),(akj y49)] [.box [.ptr 1 0,aI x103] false,.box (zc13 x104 x105 x106) false,.box zc17 false,.box [aI (qn x4),aI y15,aI y16,aI y17,aI y18,aF y19,aS y20,aR 4 8 (al0 y48 x107 x108 x109 x110 x111 x112 x113 x114)] false,bR 49 8 za (alI y48 x107 x108 x109 x110 x111 x112 x113 x114) 0 0] hJ,.inr (⟨x103,x104,x105,x106,(alI y48 x107 x108 x109 x110 x111 x112 x113 x114),(Zk y49),hm,rfl,rfl⟩)⟩
  refine c0 h84 (jh ?_)
  exact .inr (⟨y44,y45,y46,y47,y48,aI y49,aB (decide (y49<x5)),hm,(zH hJ),rfl⟩)
 refine sq (dn [jF,(1,aI a4),jN,jP,(6,aI x5),(52,aI (qn x4))] (bq (sq (dn [jF,(1,aI a4),jN,jP,(6,aI x5),(52,aI (qn x4)),(53,aB ((IntKind.wrap .i64 x4)==1))] ?_))))
 rcases zf hm with ⟨h117,hm⟩|⟨h117,hm⟩
 ·refine c1 h117 (sq (rg (s1 4 [(58,.ptr 1 0),(57,.ptr 0 0),(56,.ptr 0 0),(55,.ptr 0 0)] ?_)))
  obtain ⟨⟨x119,x120,x121,x122⟩,h118,hm⟩:=bs hm
  obtain ⟨vv,H1,hC,rfl,rfl⟩:=ZZ h118
  refine dR [(59,aU x122)] [.box (zc19 a0) false,.box (zc13 x119 x120 x121) false,.box zc17 false,.box (zc18 x4) false] [1] [.ptr 1 0,aU 31] hJ hJ hJ hC hJ (stf 3 [jF,(1,aI a4),jN,jP,(6,aI x5)] [.box (zc19 a0) false,.box (zc13 x119 x120 x121) false,.box zc17 false,.box [aI (qn x4),aI (qn x122),aI 0,aI 0,aI 0,aF 0,aS ByteArray.empty,.pv .nils] false] hJ (rg (s1 4 [(65,.ptr 1 0),(64,.ptr 0 0),jS,(62,.ptr 0 0)] ?_)))
  obtain ⟨⟨x124,x125,x126,x127⟩,h123,hm⟩:=bs hm
  obtain ⟨vv,H1,hC,rfl,rfl⟩:=ZZ h123
  refine dR [(66,aU x127)] [.box (zc19 a0) false,.box (zc13 x124 x125 x126) false,.box zc17 false,.box [aI (qn x4),aI (qn x122),aI 0,aI 0,aI 0,aF 0,aS ByteArray.empty,.pv .nils] false] [1] [.ptr 1 0,aU 31] hJ hJ hJ hC hJ (stf 3 [jF,(1,aI a4),jN,jP,(6,aI x5)] [.box (zc19 a0) false,.box (zc13 x124 x125 x126) false,.box zc17 false,.box [aI (qn x4),aI (qn x122),aI (qn x127),aI 0,aI 0,aF 0,aS ByteArray.empty,.pv .nils] false] hJ ?_)
  exact ⟨x124,x125,x126,(qn x122),(qn x127),0,0,0,ByteArray.empty,.any,hm,(zH hJ),rfl⟩
 refine c0 h117 (sq (dn [jF,(1,aI a4),jN,jP,(6,aI x5),(69,aB ((IntKind.wrap .i64 x4)==2))] ?_))
 rcases zf hm with ⟨h128,hm⟩|⟨h128,hm⟩
 ·refine c1 h128 (rg (s1 4 [(74,.ptr 1 0),(73,.ptr 0 0),(72,.ptr 0 0),(71,.ptr 0 0)] ?_))
  obtain ⟨⟨x130,x131,x132,x133,x134,x135,x136,x137⟩,h129,hm⟩:=bs hm
  obtain ⟨vv,H1,hC,rfl,rfl⟩:=amL h129
  refine dR [(75,.tup [.agg [aI x133,aI x134,aF x135,aS x136],aI x137])] [.box (zc19 a0) false,.box (zc13 x130 x131 x132) false,.box zc17 false,.box (zc18 x4) false] [1] [.ptr 1 0] hJ hJ hJ hC hJ (s1 2 [(77,aI x137),(76,.agg [aI x133,aI x134,aF x135,aS x136])] ?_)
  obtain ⟨x138,h139,hm⟩:=bs hm
  rcases x138 with x140|x138
  ·obtain rfl:=ji hm
   exact rp0 (v:=.pv (.ifc 34 (.int .i64 x140))) (cpan hJ (ai2 h139) hJ hJ hJ) hJ (fun _=>⟨trivial,.pan (.pv (.ifc 34 (.int .i64 x140))),[.box (zc19 a0) false,.box (zc13 x130 x131 x132) false],hJ,rfl,rfl⟩)
  refine dv 78 (zR hJ (ai2 h139) hJ hJ hJ) hJ (stf 2 [jF,(1,aI a4),jN,jP,(6,aI x5)] [.box (zc19 a0) false,.box (zc13 x130 x131 x132) false,.box zc17 false,.box [aI (qn x4),aI 0,aI 0,aI x138.A,aI x138.J,aF x138.O,aS x138.L,.pv .nils] false] hJ ?_)
  exact ⟨x130,x131,x132,0,0,x138.A,x138.J,x138.O,x138.L,.any,hm,(zH hJ),rfl⟩
 refine c0 h128 (jg ?_)
 exact ⟨((zi.mk a1 a2 a3).fmade),x2,x3,0,0,0,0,0,ByteArray.empty,aB ((IntKind.wrap .i64 x4)==2),hm,(zH hJ),rfl⟩
theorem ad3:∀ (m:Nat),∀ {n:Nat}{a0:Int}{a1:Bool}{a2:(Option (List Int))}{a3:Int}{a4:Int}{r:(Int×Bool×(Option (List Int))×Int×Int) ⊕ (Int×Bool×(Option (List Int))×Int×Int×Int×Int×Int×Int×Nat×ByteArray) ⊕ (Int×Bool×(Option (List Int))×Int×Int×Int×Int×Int×Int×Nat×ByteArray×jq)}(hm:qY m n a0 a1 a2 a3 a4=some r),∃ vv H1,call G n 150 [.ptr 0 0,aI a4] [.box [.ptr 1 0,aI a0] false,.box [aB a1,.pv (zg (rI .u8) a2),aI a3] false]=some (vv,H1)∧(match (generalizing:=false) r with|(.inl (r0,r1,r2,r3,r4))=>(vv=.pan (.pv (.ifc 34 (.int .i64 r4)))∧H1=[.box [.ptr 1 0,aI r0] false,.box [aB r1,.pv (zg (rI .u8) r2),aI r3] false])|(.inr (.inl (r5,r6,r7,r8,r9,r10,r11,r12,r13,r14,r15)))=>(vv=.ret (.agg [aI r9,aI r10,aI r11,aI r12,aI r13,aF r14,aS r15,.pv .nils])∧H1=[.box [.ptr 1 0,aI r5] false,.box [aB r6,.pv (zg (rI .u8) r7),aI r8] false])|(.inr (.inr ((r16,r17,r18,r19,r20,r21,r22,r23,r24,r25,r26,r27))))=>(vv=.ret (.agg [aI r20,aI r21,aI r22,aI r23,aI r24,aF r25,aS r26,aR 2 8 r27.length])∧H1=[.box [.ptr 1 0,aI r16] false,.box [aB r17,.pv (zg (rI .u8) r18),aI r19] false,bR 49 8 za r27 0 0]))
 |0=>by intros;rename_i hm;exact nomatch hm
 |m+1=>fun hm=>
  ahL (ad3 m) hm
theorem acA {n:Nat}{a0:Int}{a1:Bool}{a2:(Option (List Int))}{a3:Int}{a4:Int}{r:(Int×Bool×(Option (List Int))×Int×Int) ⊕ (Int×Bool×(Option (List Int))×Int×Int×Int×Int×Int×Int×Nat×ByteArray) ⊕ (Int×Bool×(Option (List Int))×Int×Int×Int×Int×Int×Int×Nat×ByteArray×jq)}(hm:adQ n a0 a1 a2 a3 a4=some r):
 ∃ vv H1,call G n 150 [.ptr 0 0,aI a4] [.box [.ptr 1 0,aI a0] false,.box [aB a1,.pv (zg (rI .u8) a2),aI a3] false]=some (vv,H1)∧(match (generalizing:=false) r with|(.inl (r0,r1,r2,r3,r4))=>(vv=.pan (.pv (.ifc 34 (.int .i64 r4)))∧H1=[.box [.ptr 1 0,aI r0] false,.box [aB r1,.pv (zg (rI .u8) r2),aI r3] false])|(.inr (.inl (r5,r6,r7,r8,r9,r10,r11,r12,r13,r14,r15)))=>(vv=.ret (.agg [aI r9,aI r10,aI r11,aI r12,aI r13,aF r14,aS r15,.pv .nils])∧H1=[.box [.ptr 1 0,aI r5] false,.box [aB r6,.pv (zg (rI .u8) r7),aI r8] false])|(.inr (.inr ((r16,r17,r18,r19,r20,r21,r22,r23,r24,r25,r26,r27))))=>(vv=.ret (.agg [aI r20,aI r21,aI r22,aI r23,aI r24,aF r25,aS r26,aR 2 8 r27.length])∧H1=[.box [.ptr 1 0,aI r16] false,.box [aB r17,.pv (zg (rI .u8) r18),aI r19] false,bR 49 8 za r27 0 0])):=ad3 n hm
theorem aeT {n:Nat}{a0:Int}{a1:Bool}{a2:(Option (List Int))}{a3:Int}{a4:Int}{a5:Int}{a6:Int}{a7:Int}{a8:Int}{a9:Nat}{a10:ByteArray}{r:(Int×Bool×(Option (List Int))×Int×Int) ⊕ (Int×Bool×(Option (List Int))×Int×Int×Int×Int×Int×Int×Nat×ByteArray) ⊕ (Int×Bool×(Option (List Int))×Int×Int×Int×Int×Int×Int×Nat×ByteArray×jq)}(hm:ae7 n a0 a1 a2 a3 a4 a5 a6 a7 a8 a9 a10=some r):
   ∃ vv H1,call G n 149 [.ptr 0 0,.ptr 3 0] [.box [.ptr 1 0] false,.box [.ptr 2 0,aI a0] false,.box [aB a1,.pv (zg (rI .u8) a2),aI a3] false,.box (zc22 a4 a5 a6 a7 a8 a9 a10) false]=some (vv,H1)∧(match (generalizing:=false) r with|(.inl (r0,r1,r2,r3,r4))=>(vv=.pan (.pv (.ifc 34 (.int .i64 r4)))∧H1=[.box [.ptr 1 0] false,.box [.ptr 2 0,aI r0] false,.box [aB r1,.pv (zg (rI .u8) r2),aI r3] false,.box (zc22 a4 a5 a6 a7 a8 a9 a10) false])|(.inr (.inl (r5,r6,r7,r8,r9,r10,r11,r12,r13,r14,r15)))=>(vv=.ret (.tup [])∧H1=[.box [.ptr 1 0] false,.box [.ptr 2 0,aI r5] false,.box [aB r6,.pv (zg (rI .u8) r7),aI r8] false,.box [aI r9,aI r10,aI r11,aI r12,aI r13,aF r14,aS r15,.pv .nils] false])|(.inr (.inr ((r16,r17,r18,r19,r20,r21,r22,r23,r24,r25,r26,r27))))=>(vv=.ret (.tup [])∧H1=[.box [.ptr 1 0] false,.box [.ptr 2 0,aI r16] false,.box [aB r17,.pv (zg (rI .u8) r18),aI r19] false,.box [aI r20,aI r21,aI r22,aI r23,aI r24,aF r25,aS r26,aR 4 8 r27.length] false,bR 49 8 za r27 0 0])):=by
 unfold ae7 at hm
 obtain ⟨n,rfl,h0⟩:=zu hm
 replace hm:=h0;clear h0
 refine apc 4 [jF,(1,.ptr 3 0)] func149 rfl hJ (rg (s1 1 [jH] ?_))
 obtain ⟨x2,h1,hm⟩:=bs hm
 rcases x2 with ⟨x3,x4,x5,x6,x7⟩|⟨x8,x9,x10,x11,x12,x13,x14,x15,x16,x17,x18⟩|⟨x19,x20,x21,x22,x23,x24,x25,x26,x27,x28,x29,x30⟩
 ·obtain ⟨vv,H1,hC,rfl,rfl⟩:=acA h1
  obtain rfl:=ji hm
  exact rR (v':=.pv (.ifc 34 (.int .i64 x7))) [.box [.ptr 1 0] false,.box [.ptr 2 0,aI x3] false,.box [aB x4,.pv (zg (rI .u8) x5),aI x6] false,.box (zc22 a4 a5 a6 a7 a8 a9 a10) false] [1,2] [.ptr 1 0,aI 1] hJ hJ hJ hC hJ (fun _=>⟨trivial,.pan (.pv (.ifc 34 (.int .i64 x7))),[.box [.ptr 1 0] false,.box [.ptr 2 0,aI x3] false,.box [aB x4,.pv (zg (rI .u8) x5),aI x6] false,.box (zc22 a4 a5 a6 a7 a8 a9 a10) false],hJ,rfl,rfl⟩)
 ·obtain ⟨vv,H1,hC,rfl,rfl⟩:=acA h1
  refine dR [(3,.agg (zc22 x12 x13 x14 x15 x16 x17 x18))] [.box [.ptr 1 0] false,.box [.ptr 2 0,aI x8] false,.box (zc13 x9 x10 x11) false,.box (zc22 a4 a5 a6 a7 a8 a9 a10) false] [1,2] [.ptr 1 0,aI 1] hJ hJ hJ hC hJ (stf 1 [] [.box [.ptr 1 0] false,.box [.ptr 2 0,aI x8] false,.box (zc13 x9 x10 x11) false,.box (zc22 x12 x13 x14 x15 x16 x17 x18) false] hJ ?_)
  obtain rfl:=ji hm
  exact ⟨trivial,.ret (.tup []),[.box [.ptr 1 0] false,.box [.ptr 2 0,aI x8] false,.box (zc13 x9 x10 x11) false,.box (zc22 x12 x13 x14 x15 x16 x17 x18) false],hJ,rfl,rfl⟩
 obtain ⟨vv,H1,hC,rfl,rfl⟩:=acA h1
 refine dR [(3,.agg [aI x23,aI x24,aI x25,aI x26,aI x27,aF x28,aS x29,aR 4 8 x30.length])] [.box [.ptr 1 0] false,.box [.ptr 2 0,aI x19] false,.box (zc13 x20 x21 x22) false,.box (zc22 a4 a5 a6 a7 a8 a9 a10) false,bR 49 8 za x30 0 0] [1,2] [.ptr 1 0,aI 1] hJ hJ hJ hC hJ (stf 1 [] [.box [.ptr 1 0] false,.box [.ptr 2 0,aI x19] false,.box (zc13 x20 x21 x22) false,.box [aI x23,aI x24,aI x25,aI x26,aI x27,aF x28,aS x29,aR 4 8 x30.length] false,bR 49 8 za x30 0 0] hJ ?_)
 obtain rfl:=ji hm
 exact ⟨trivial,.ret (.tup []),[.box [.ptr 1 0] false,.box [.ptr 2 0,aI x19] false,.box (zc13 x20 x21 x22) false,.box [aI x23,aI x24,aI x25,aI x26,aI x27,aF x28,aS x29,aR 4 8 x30.length] false,bR 49 8 za x30 0 0],hJ,rfl,rfl⟩
theorem abx {n:Nat}{a0:Int}{a1:Bool}{a2:(Option (List Int))}{a3:Int}{a4:Int}{a5:Int}{a6:Int}{a7:Int}{a8:Int}{a9:Nat}{a10:ByteArray}{r:Int×Bool×(Option (List Int))×Int×Int×Int×Int×Int×Int×Nat×ByteArray×jo×Int}(hm:Qx n a0 a1 a2 a3 a4 a5 a6 a7 a8 a9 a10=some r):
   ∃ vv H1,call G n 144 [.fn 149 [] [.ptr 0 0,.ptr 3 0]] [.box [.ptr 1 0] false,.box [.ptr 2 0,aI a0] false,.box [aB a1,.pv (zg (rI .u8) a2),aI a3] false,.box (zc22 a4 a5 a6 a7 a8 a9 a10) false]=some (.ret vv,H1)∧(match (generalizing:=false) r with|(r0,r1,r2,r3,r4,r5,r6,r7,r8,r9,r10,none,r11)=>(vv=aI r11∧H1=[.box [.ptr 1 0] false,.box [.ptr 2 0,aI r0] false,.box [aB r1,.pv (zg (rI .u8) r2),aI r3] false,.box [aI r4,aI r5,aI r6,aI r7,aI r8,aF r9,aS r10,.pv .nils] false])|(r0,r1,r2,r3,r4,r5,r6,r7,r8,r9,r10,some r12,r11)=>(vv=aI r11∧H1=[.box [.ptr 1 0] false,.box [.ptr 2 0,aI r0] false,.box [aB r1,.pv (zg (rI .u8) r2),aI r3] false,.box [aI r4,aI r5,aI r6,aI r7,aI r8,aF r9,aS r10,aR 4 8 r12.length] false,bR 49 8 za r12 0 0])):=by
 unfold Qx at hm
 obtain ⟨n,rfl,h0⟩:=zu hm
 replace hm:=h0;clear h0
 obtain ⟨x2,h1,hm⟩:=bs hm
 rcases x2 with ⟨x3,x4,x5,x6,x7⟩|⟨x8,x9,x10,x11,x12,x13,x14,x15,x16,x17,x18⟩|⟨x19,x20,x21,x22,x23,x24,x25,x26,x27,x28,x29,x30⟩
 ·obtain ⟨vv,H1,hC,rfl,rfl⟩:=aeT h1
  obtain rfl:=ji hm
  exact ⟨_,_,alg func144 rfl hJ rfl hJ func149 hJ rfl hC hJ,rfl,rfl⟩
 ·obtain ⟨vv,H1,hC,rfl,rfl⟩:=aeT h1
  obtain rfl:=ji hm
  exact ⟨_,_,alg func144 rfl hJ rfl hJ func149 hJ rfl hC hJ,rfl,rfl⟩
 obtain ⟨vv,H1,hC,rfl,rfl⟩:=aeT h1
 obtain rfl:=ji hm
 exact ⟨_,_,alg func144 rfl hJ rfl hJ func149 hJ rfl hC hJ,rfl,rfl⟩
theorem aee {n:Nat}{a0:zi}{r:Bool×(Option (List Int))×Int×Int×Int×Int×Int×Int×Nat×ByteArray×jo×Int}(hm:aeh n a0=some r):
   ∃ vv H1,call G n 74 [.ptr 0 0] [.box (zc12 a0) false]=some (.ret vv,H1)∧(match (generalizing:=false) r with|(r0,r1,r2,r3,r4,r5,r6,r7,r8,r9,none,r10)=>(vv=.tup [.agg [aI r3,aI r4,aI r5,aI r6,aI r7,aF r8,aS r9,.pv .nils],aI r10]∧H1=[.box [aB r0,.pv (zg (rI .u8) r1),aI r2] false])|(r0,r1,r2,r3,r4,r5,r6,r7,r8,r9,some r11,r10)=>(vv=.tup [.agg [aI r3,aI r4,aI r5,aI r6,aI r7,aF r8,aS r9,aR 1 8 r11.length],aI r10]∧H1=[.box [aB r0,.pv (zg (rI .u8) r1),aI r2] false,bR 49 8 za r11 0 0])):=by
 unfold aeh at hm
 obtain ⟨n,rfl,h0⟩:=zu hm
 replace hm:=h0;clear h0
 refine ZJ 16 [jF] func74 rfl hJ (sq (det [jF,jH] [.box (zc12 a0) false,.box zc17 false] hJ (sq (det [jH,jG] [.box (zc12 a0) false,.box zc17 false,.box [.ptr 0 0,aI 400] false,.box [.ptr 2 0] false] hJ (sq (sq (rg (s1 1 [(9,.fn 149 [] [.ptr 3 0,.ptr 1 0])] ?_))))))))
 obtain ⟨x15,h1,hm⟩:=bs hm
 rcases x15 with ⟨x2,x3,x4,x5,x6,x7,x8,x9,x10,x11,x12,_|x13,x14⟩
 ·obtain ⟨vv,H1,hC,rfl,rfl⟩:=abx h1
  refine dR [(10,aI x14)] [.box [aB x3,.pv (zg (rI .u8) x4),aI x5] false,.box (zc22 x6 x7 x8 x9 x10 x11 x12) false,.box [.ptr 0 0,aI x2] false,.box [.ptr 2 0] false] [3,2,0,1] [.fn 149 [] [.ptr 3 0,.ptr 1 0]] hJ hJ hJ hC hJ (fq 1 [jH,(5,aI x14)] (sq (dn [jH,(5,aI x14),(12,aB (x14 !=0))] ?_)))
  rcases zf hm with ⟨h16,hm⟩|⟨h16,hm⟩
  ·refine c1 h16 (sq (det [jH,(3,aI x14)] [.box [aB x3,.pv (zg (rI .u8) x4),aI x5] false,.box zc17 false,.box [.ptr 0 0,aI x2] false,.box [.ptr 2 0] false] hJ (jf ?_)))
   obtain rfl:=ji hm
   exact ⟨trivial,.tup [.agg zc17,aI x14],[.box [aB x3,.pv (zg (rI .u8) x4),aI x5] false],hJ,rfl,rfl⟩
  refine c0 h16 (jg (sq (dn [jH,kE] (jf ?_))))
  obtain rfl:=ji hm
  exact ⟨trivial,.tup [.agg (zc22 x6 x7 x8 x9 x10 x11 x12),aI 0],[.box [aB x3,.pv (zg (rI .u8) x4),aI x5] false],hJ,rfl,rfl⟩
 obtain ⟨vv,H1,hC,rfl,rfl⟩:=abx h1
 refine dR [(10,aI x14)] [.box [aB x3,.pv (zg (rI .u8) x4),aI x5] false,.box [aI x6,aI x7,aI x8,aI x9,aI x10,aF x11,aS x12,aR 4 8 x13.length] false,.box [.ptr 0 0,aI x2] false,.box [.ptr 2 0] false,bR 49 8 za x13 0 0] [3,2,0,1] [.fn 149 [] [.ptr 3 0,.ptr 1 0]] hJ hJ hJ hC hJ (fq 1 [jH,(5,aI x14)] (sq (dn [jH,(5,aI x14),(12,aB (x14 !=0))] ?_)))
 rcases zf hm with ⟨h17,hm⟩|⟨h17,hm⟩
 ·refine c1 h17 (sq (det [jH,(3,aI x14)] [.box [aB x3,.pv (zg (rI .u8) x4),aI x5] false,.box zc17 false,.box [.ptr 0 0,aI x2] false,.box [.ptr 2 0] false,bR 49 8 za x13 0 0] hJ (jf ?_)))
  obtain rfl:=ji hm
  exact ⟨trivial,.tup [.agg zc17,aI x14],[.box [aB x3,.pv (zg (rI .u8) x4),aI x5] false],hJ,rfl,rfl⟩
 refine c0 h17 (jg (sq (dn [jH,kE] (jf ?_))))
 obtain rfl:=ji hm
 exact ⟨trivial,.tup [.agg [aI x6,aI x7,aI x8,aI x9,aI x10,aF x11,aS x12,aR 1 8 x13.length],aI 0],[.box [aB x3,.pv (zg (rI .u8) x4),aI x5] false,bR 49 8 za x13 0 0],hJ,rfl,rfl⟩
end Go.Ab.S1
