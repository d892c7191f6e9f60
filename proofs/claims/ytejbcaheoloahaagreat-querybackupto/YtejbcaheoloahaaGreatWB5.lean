import Derived.Test.YtejbcaheoloahaaGreatWB4
noncomputable section
namespace Go.Ab.S1
open Go Go.Ab Go.Pl
open Go.Proofs.Tryz
set_option linter.all false
set_option maxHeartbeats 4000000
set_option maxRecDepth 100000
theorem aaH {n:Nat}{a0:jt}{r:jt}(hm:qS n a0=some r):
   call G n 96 [.pv (zg zl a0)] []=some (.ret (.pv (zg zl r)),[]):=by
 unfold qS at hm
 obtain ⟨n,rfl,h0⟩:=zu hm
 replace hm:=h0;clear h0
 refine Z2 8 [(zp99 a0)] func96 rfl hJ (sq (dn [(zp99 a0)] (sq (sq (rg (s1 1 [(3,.pv (zg zl a0))] (dv 4 (v:=aB (a0.isNone)) (alQ zl a0 t25 hJ) hJ (fin [(zp99 a0),(4,aB (a0.isNone))] rfl hJ ?_))))))))
 rcases zf hm with ⟨h1,hm⟩|⟨h1,hm⟩
 ·refine c1 h1 (sq (dn [kD] (jf ?_)))
  cases hm;exact hM
 refine c0 h1 (jg (sq (rg (st 2 [(6,.pv (zg zl a0)),(5,aR 0 2 0)] [bR 86 2 zl ([]:List zo) 0 0] hJ ?_))))
 rcases zf hm with ⟨h2,hm⟩|⟨h2,hm⟩
 ·obtain ⟨_,h3,hm⟩:=bs hm
  refine dv 7 (v:=aR 0 2 0) (afG (u:=0) (y:=.pv (zg zl a0)) (n:=0) (id:=0) zl ([]:List zo) (sll a0) (b:=16) t25 t86 rfl rfl rfl h2 h3 rfl hX (Nat.zero_le _) (afP (R:=zl) (s:=a0)) hJ) hJ (fq 1 [(2,aR 0 2 0)] (jf ?_))
  obtain rfl:=ji hm
  exact ace (v:=aR 0 2 0) trivial rfl hJ hJ
 obtain ⟨_,h4,hm⟩:=bs hm
 refine dO [(7,aR 0 2 ((([]:List zo)++(sll a0)).length))] [bR 86 2 zl (([]:List zo)++(sll a0)) 0 0] (ZF (u:=0) (n:=0) (id:=0) zl ([]:List zo) (sll a0) (b:=16) t25 t86 rfl rfl rfl (fun _=>rfl) h2 h4 rfl hX (Nat.zero_le _) (afP (R:=zl) (s:=a0)) hJ) hJ (fq 1 [(2,aR 0 2 ((([]:List zo)++(sll a0)).length))] (jf ?_))
 obtain rfl:=ji hm
 exact ace (v:=aR 0 2 ((([]:List zo)++(sll a0)).length)) trivial rfl hJ (agU (zB (n:=(([]:List zo)++(sll a0)).length) (id:=0) (l:=(([]:List zo)++(sll a0))) (R:=zl) rfl rfl (Nat.zero_le _)))
abbrev zc64 (p0:(Option (List ByteArray))) (p1:zb) (p2:jt):List AV:=[.pv (zg rS p0),.pv .nils,aB p1.F,.pv .nils,.pv .nils,.pv (zg zl p2)]
abbrev zc65 (p0:(Option (List ByteArray))) (p1:zb) (p2:jq) (p3:jt):List AV:=[.pv (zg rS p0),.pv .nils,aB p1.F,aR 2 8 p2.length,.pv .nils,.pv (zg zl p3)]
abbrev zc66 (p0:(Option (List ByteArray))) (p1:jq) (p2:zb) (p3:jt):List AV:=[.pv (zg rS p0),aR 2 8 p1.length,aB p2.F,.pv .nils,.pv .nils,.pv (zg zl p3)]
abbrev zc67 (p0:(Option (List ByteArray))) (p1:jq) (p2:zb) (p3:jq) (p4:jt):List AV:=[.pv (zg rS p0),aR 2 8 p1.length,aB p2.F,aR 3 8 p3.length,.pv .nils,.pv (zg zl p4)]
abbrev zc68 (p0:(Option (List ByteArray))) (p1:zb) (p2:js) (p3:jt):List AV:=[.pv (zg rS p0),.pv .nils,aB p1.F,.pv .nils,aR 3 9 p2.length,.pv (zg zl p3)]
abbrev zc69 (p0:zm) (p1:zk):List AV:=[aI p0.A,aI p1.A,aI p1.K,aI p1.M,aI p1.D.A,aI p1.D.J,aF p1.D.O,aS p1.D.L,.pv (zg za p1.I)]
abbrev zc70 (p0:(Option (List ByteArray))) (p1:zb) (p2:jq) (p3:js) (p4:jt):List AV:=[.pv (zg rS p0),.pv .nils,aB p1.F,aR 2 8 p2.length,aR 4 9 p3.length,.pv (zg zl p4)]
abbrev zc71 (p0:(Option (List ByteArray))) (p1:jq) (p2:zb) (p3:js) (p4:jt):List AV:=[.pv (zg rS p0),aR 2 8 p1.length,aB p2.F,.pv .nils,aR 4 9 p3.length,.pv (zg zl p4)]
abbrev zc72 (p0:(Option (List ByteArray))) (p1:jq) (p2:zb) (p3:jq) (p4:js) (p5:jt):List AV:=[.pv (zg rS p0),aR 2 8 p1.length,aB p2.F,aR 3 8 p3.length,aR 5 9 p4.length,.pv (zg zl p5)]
abbrev ZO (p0:zb):Nat×AV:=(22,.pv (zg zd p0.C))
abbrev ZU (p0:zb):Nat×AV:=(23,aI ((sll p0.C).length:Int))
abbrev aj8 (p0:Int) (p1:zb):Nat×AV:=(25,aB (decide (p0<((sll p1.C).length:Int))))
abbrev adW (p0:Int):Nat×AV:=(24,aI (IntKind.wrap .i64 (p0+1)))
abbrev anp:=(Option (List ByteArray))
abbrev qx (p0:zm) (p1:zk):=([(zm.mk p0.A p1)]:List zm)
abbrev agh (p0:zm) (p1:zk):=(([(zm.mk p0.A p1)]:List zm).length)
abbrev akq (p0:zm) (p1:zk):=(([(zm.mk p0.A p1)]:List zm).map zd)
abbrev agn (p0:js) (p1:zm) (p2:zk):=((p0++([(zm.mk p1.A p2)]:List zm)).length)
abbrev ad1 (p0:js) (p1:zm) (p2:zk):=(p0++([(zm.mk p1.A p2)]:List zm))
theorem ahV {n:Nat}{a0:zb}{r:(Option (List ByteArray))×jo×jo×jr×jt}(hm:aeo n a0=some r):
   ∃ vv H1,call G n 18 [.agg (zc0 a0)] []=some (.ret vv,H1)∧(match (generalizing:=false) r with|(r0,r1,none,r2,r3)=>(vv=.agg [.pv (zg rS r0),.pv (zg za r1),aB a0.F,.pv .nils,.pv (zg zd r2),.pv (zg zl r3)]∧H1=[])|(r0,r1,some r4,r2,r3)=>(vv=.agg [.pv (zg rS r0),.pv (zg za r1),aB a0.F,aR 0 8 r4.length,.pv (zg zd r2),.pv (zg zl r3)]∧H1=[bR 49 8 za r4 0 0])):=by
 unfold aeo at hm
 obtain ⟨n,rfl,h0⟩:=zu hm
 replace hm:=h0;clear h0
 refine ZJ 41 [(0,.agg (zc0 a0))] func18 rfl hJ (sq (det [jK,jH] [.box (zc0 a0) false,.box zc27 false] hJ ?_))
 obtain ⟨k5,hk5,hm⟩:=zt hm
 refine mid (fun t H=>(∃ (y1:anp) (y4:jt),k5 y1 none none y4=some r∧t=mk 41 [jK,jH,jR]∧H=[.box (zc0 a0) false,.box zc27 false,.box (zc64 y1 a0 y4) false])∨(∃ (y1:anp) (y3:jq) (y4:jt),k5 y1 none (some y3) y4=some r∧t=mk 41 [jK,jH,jM]∧H=[.box (zc0 a0) false,.box zc27 false,bR 49 8 za y3 0 0,.box (zc65 y1 a0 y3 y4) false])∨(∃ (y1:anp) (y2:jq) (y4:jt),k5 y1 (some y2) none y4=some r∧t=mk 41 [jK,jH,jM]∧H=[.box (zc0 a0) false,.box zc27 false,bR 49 8 za y2 0 0,.box (zc66 y1 y2 a0 y4) false])∨(∃ (y1:anp) (y2:jq) (y3:jq) (y4:jt),k5 y1 (some y2) (some y3) y4=some r∧t=mk 41 [jK,jH,jT]∧H=[.box (zc0 a0) false,.box zc27 false,bR 49 8 za y2 0 0,bR 49 8 za y3 0 0,.box (zc67 y1 y2 a0 y3 y4) false])) ?_ ?_
 ·rintro _ _ (⟨y1,y4,hm,rfl,rfl⟩|⟨y1,y3,y4,hm,rfl,rfl⟩|⟨y1,y2,y4,hm,rfl,rfl⟩|⟨y1,y2,y3,y4,hm,rfl,rfl⟩)
  ·subst hk5
   obtain ⟨k9,hk9,hm⟩:=zt hm
   refine mid (fun t H=>(∃ (w6:AV) (w7:AV),k9 none=some r∧t=mk 41 [jH,jR,(ZO a0),(ZU a0),(24,w6),(25,w7)]∧H=[.box (zc0 a0) false,.box zc27 false,.box (zc64 y1 a0 y4) false])∨(∃ (y8:js) (w6:AV) (w7:AV),k9 (some y8)=some r∧t=mk 41 [jH,jR,(ZO a0),(ZU a0),(24,w6),(25,w7)]∧H=[.box (zc0 a0) false,.box zc27 false,.box (zc68 y1 a0 y8 y4) false,bR 101 9 zd y8 0 0])) ?_ ?_
   ·rintro _ _ (⟨w6,w7,hm,rfl,rfl⟩|⟨y8,w6,w7,hm,rfl,rfl⟩)
    ·subst hk9
     refine sq (det [jH] [.box (zc0 a0) false,.box (zc64 y1 a0 y4) false,.box (zc64 y1 a0 y4) false] hJ (jf ?_))
     obtain rfl:=ji hm
     exact ⟨trivial,.agg [.pv (zg rS y1),.pv (zg za none),aB a0.F,.pv .nils,.pv (zg zd none),.pv (zg zl y4)],[],agR (ks:=[3]) (cs:=[.pv (zg rS y1),.pv .nils,aB a0.F,.pv .nils,.pv .nils,.pv (zg zl y4)]) [] hJ hJ hJ (ZI rfl (zw) (ZI rfl (zw) (ZI rfl (zw) (ae8 rfl (ZI rfl (zw) (ZI rfl (zw) (rfl))))))) rfl hJ,rfl,rfl⟩
    subst hk9
    refine sq (det [jH] [.box (zc0 a0) false,.box (zc68 y1 a0 y8 y4) false,.box (zc68 y1 a0 y8 y4) false,bR 101 9 zd y8 0 0] hJ (jf ?_))
    obtain rfl:=ji hm
    exact ⟨trivial,.agg [.pv (zg rS y1),.pv (zg za none),aB a0.F,.pv .nils,.pv (zg zd (some y8)),.pv (zg zl y4)],[],agR (ks:=[3]) (cs:=[.pv (zg rS y1),.pv .nils,aB a0.F,.pv .nils,aR 3 9 y8.length,.pv (zg zl y4)]) [3] hJ hJ hJ (ZI rfl (zw) (ZI rfl (zw) (ZI rfl (zw) (ae8 rfl (ZI rfl (zB (n:=y8.length) (id:=3) (l:=y8) (R:=zd) rfl rfl (Nat.zero_le _)) (ZI rfl (zw) (rfl))))))) rfl hJ,rfl,rfl⟩
   refine sq (rg (s1 2 [(ZO a0),km] (dv 23 (v:=aI (ahR a0)) (zP zd a0.C t24 hJ) hJ (fq 1 [jH,jR,(ZO a0),(ZU a0),(24,aI 0)] (bq ?_)))))
   refine qB (fun mm t H=>(∃ (y14:Int),QY n a0 k9 mm none y14=some r∧t=mk 41 [jH,jR,(ZO a0),(ZU a0),(24,aI y14)]∧H=[.box (zc0 a0) false,.box zc27 false,.box (zc64 y1 a0 y4) false])∨(∃ (y13:js) (y14:Int),QY n a0 k9 mm (some y13) y14=some r∧t=mk 41 [jH,jR,(ZO a0),(ZU a0),(24,aI y14)]∧H=[.box (zc0 a0) false,.box zc27 false,.box (zc68 y1 a0 y13 y4) false,bR 101 9 zd y13 0 0])) (.inl ⟨0,hm,rfl,rfl⟩) ?_ ?_
   ·
     rintro _ _ (⟨y14,hm,_⟩|⟨y13,y14,hm,_⟩)<;>exact nomatch hm
   rintro m15 _ _ (⟨y14,hm,rfl,rfl⟩|⟨y13,y14,hm,rfl,rfl⟩)
   ·simp only [QY] at hm
    refine sq (dn [jH,jR,(ZO a0),(ZU a0),(24,aI y14),(aj8 y14 a0)] ?_)
    refine sq ?_
    rcases zf hm with ⟨h16,hm⟩|⟨h16,hm⟩
    ·refine c1 h16 (jg (sq (bq (sq (rg ?_)))))
     obtain ⟨x17,h18,hm⟩:=bs hm
     refine dv 26 (v:=.pv (.ptr (zd x17) 0)) (qo zd a0.C .i64 t24 t101 h18 rfl hJ) hJ (stf 3 [jH,jR,jP,(ZO a0),(ZU a0),(24,aI y14)] [.box (zc0 a0) false,.box zc27 false,.box (zc64 y1 a0 y4) false,.box (zc3 x17) false] hJ (rgd (shd 6 [(33,.agg (zc1 x17)),(32,.ptr 3 1),(31,aI x17.A),(30,.ptr 3 0),kA,(28,.ptr 2 4)] hJ ?_)))
     obtain ⟨x19,h20,hm⟩:=bs hm
     refine dvd 34 (zR hJ (QA h20) hJ hJ hJ) hJ (std 2 [(36,aR 4 9 1),(35,.agg (zc69 x17 x19))] [.box (zc0 a0) false,.box zc27 false,.box (zc64 y1 a0 y4) false,.box (zc3 x17) false,bR 101 9 zd (qx x17 x19) 0 0] hJ ?_)
     obtain ⟨_,h21,hm⟩:=bs hm
     refine dOd [(37,aR 5 9 (agh x17 x19))] [.box (zc0 a0) false,.box zc27 false,.box (zc64 y1 a0 y4) false,.box (zc3 x17) false,bR 101 9 zd (qx x17 x19) 0 0,bR 101 9 zd (qx x17 x19) 0 0] (Qa (u:=0) zd (qx x17 x19) (b:=96) t24 t101 rfl rfl rfl (fun _=>rfl) rfl h21 (show zT (aR 4 9 1) _=some (akq x17 x19) from by kernel_rfl) hJ) hJ (std 2 [(38,.ptr 2 4)] [.box (zc0 a0) false,.box zc27 false,.box [.pv (zg rS y1),.pv .nils,aB a0.F,.pv .nils,aR 5 9 (agh x17 x19),.pv (zg zl y4)] false,.box (zc3 x17) false,bR 101 9 zd (qx x17 x19) 0 0,bR 101 9 zd (qx x17 x19) 0 0] hJ (find [jH,jR,(ZO a0),(ZU a0),(24,aI y14)] rfl hJ hJ (dn [jH,jR,(ZO a0),(ZU a0),(adW y14)] ?_)))
     exact ⟨_,_,ZD [jH,jR,(ZO a0),(ZU a0),(adW y14)] [.box (zc0 a0) false,.box zc27 false,.box [.pv (zg rS y1),.pv .nils,aB a0.F,.pv .nils,aR 3 9 (agh x17 x19),.pv (zg zl y4)] false,bR 101 9 zd (qx x17 x19) 0 0] hJ,.inr (⟨(qx x17 x19),(Zk y14),hm,rfl,rfl⟩)⟩
    refine c0 h16 (jh ?_)
    exact .inl ⟨aI y14,aB (agL y14 a0),hm,(zH hJ),rfl⟩
   simp only [QY] at hm
   refine sq (dn [jH,jR,(ZO a0),(ZU a0),(24,aI y14),(aj8 y14 a0)] ?_)
   refine sq ?_
   rcases zf hm with ⟨h22,hm⟩|⟨h22,hm⟩
   ·refine c1 h22 (jg (sq (bq (sq (rg ?_)))))
    obtain ⟨x23,h24,hm⟩:=bs hm
    refine dv 26 (v:=.pv (.ptr (zd x23) 0)) (qo zd a0.C .i64 t24 t101 h24 rfl hJ) hJ (stf 3 [jH,jR,(5,.ptr 4 0),(ZO a0),(ZU a0),(24,aI y14)] [.box (zc0 a0) false,.box zc27 false,.box (zc68 y1 a0 y13 y4) false,bR 101 9 zd y13 0 0,.box (zc3 x23) false] hJ (rgd (shd 6 [(33,.agg (zc1 x23)),(32,.ptr 4 1),(31,aI x23.A),(30,.ptr 4 0),(29,aR 3 9 y13.length),(28,.ptr 2 4)] hJ ?_)))
    obtain ⟨x25,h26,hm⟩:=bs hm
    refine dvd 34 (zR hJ (QA h26) hJ hJ hJ) hJ (std 2 [(36,aR 5 9 1),(35,.agg (zc69 x23 x25))] [.box (zc0 a0) false,.box zc27 false,.box (zc68 y1 a0 y13 y4) false,bR 101 9 zd y13 0 0,.box (zc3 x23) false,bR 101 9 zd (qx x23 x25) 0 0] hJ ?_)
    obtain ⟨_,h27,hm⟩:=bs hm
    refine dOd [(37,aR 3 9 (agn y13 x23 x25))] [.box (zc0 a0) false,.box zc27 false,.box (zc68 y1 a0 y13 y4) false,bR 101 9 zd (ad1 y13 x23 x25) 0 0,.box (zc3 x23) false,bR 101 9 zd (qx x23 x25) 0 0] (ZF (u:=0) (n:=y13.length) (id:=3) zd y13 (qx x23 x25) (b:=96) t24 t101 rfl rfl rfl (fun _=>rfl) rfl h27 rfl rfl (Nat.zero_le _) (show zT (aR 5 9 1) _=some (akq x23 x25) from by kernel_rfl) hJ) hJ (std 2 [(38,.ptr 2 4)] [.box (zc0 a0) false,.box zc27 false,.box [.pv (zg rS y1),.pv .nils,aB a0.F,.pv .nils,aR 3 9 (agn y13 x23 x25),.pv (zg zl y4)] false,bR 101 9 zd (ad1 y13 x23 x25) 0 0,.box (zc3 x23) false,bR 101 9 zd (qx x23 x25) 0 0] hJ (find [jH,jR,(ZO a0),(ZU a0),(24,aI y14)] rfl hJ hJ (dn [jH,jR,(ZO a0),(ZU a0),(adW y14)] ?_)))
    exact ⟨_,_,ZD [jH,jR,(ZO a0),(ZU a0),(adW y14)] [.box (zc0 a0) false,.box zc27 false,.box [.pv (zg rS y1),.pv .nils,aB a0.F,.pv .nils,aR 3 9 (agn y13 x23 x25),.pv (zg zl y4)] false,bR 101 9 zd (ad1 y13 x23 x25) 0 0] hJ,.inr (⟨(ad1 y13 x23 x25),(Zk y14),hm,rfl,rfl⟩)⟩
   refine c0 h22 (jh ?_)
   exact .inr (⟨y13,aI y14,aB (agL y14 a0),hm,(zH hJ),rfl⟩)
  ·subst hk5
   obtain ⟨k31,hk31,hm⟩:=zt hm
   refine mid (fun t H=>(∃ (w28:AV) (w29:AV),k31 none=some r∧t=mk 41 [jH,jM,(ZO a0),(ZU a0),(24,w28),(25,w29)]∧H=[.box (zc0 a0) false,.box zc27 false,bR 49 8 za y3 0 0,.box (zc65 y1 a0 y3 y4) false])∨(∃ (y30:js) (w28:AV) (w29:AV),k31 (some y30)=some r∧t=mk 41 [jH,jM,(ZO a0),(ZU a0),(24,w28),(25,w29)]∧H=[.box (zc0 a0) false,.box zc27 false,bR 49 8 za y3 0 0,.box (zc70 y1 a0 y3 y30 y4) false,bR 101 9 zd y30 0 0])) ?_ ?_
   ·rintro _ _ (⟨w28,w29,hm,rfl,rfl⟩|⟨y30,w28,w29,hm,rfl,rfl⟩)
    ·subst hk31
     refine sq (det [jH] [.box (zc0 a0) false,.box (zc65 y1 a0 y3 y4) false,bR 49 8 za y3 0 0,.box (zc65 y1 a0 y3 y4) false] hJ (jf ?_))
     obtain rfl:=ji hm
     exact ⟨trivial,.agg [.pv (zg rS y1),.pv (zg za none),aB a0.F,aR 0 8 y3.length,.pv (zg zd none),.pv (zg zl y4)],[bR 49 8 za y3 0 0],agR (ks:=[3]) (cs:=[.pv (zg rS y1),.pv .nils,aB a0.F,aR 2 8 y3.length,.pv .nils,.pv (zg zl y4)]) [] hJ hJ hJ (ZI rfl (zw) (ZI rfl (zw) (ZI rfl (zw) (ae8 rfl (ZI rfl (zw) (ZI rfl (zw) (rfl))))))) rfl hJ,rfl,rfl⟩
    subst hk31
    refine sq (det [jH] [.box (zc0 a0) false,.box (zc70 y1 a0 y3 y30 y4) false,bR 49 8 za y3 0 0,.box (zc70 y1 a0 y3 y30 y4) false,bR 101 9 zd y30 0 0] hJ (jf ?_))
    obtain rfl:=ji hm
    exact ⟨trivial,.agg [.pv (zg rS y1),.pv (zg za none),aB a0.F,aR 0 8 y3.length,.pv (zg zd (some y30)),.pv (zg zl y4)],[bR 49 8 za y3 0 0],agR (ks:=[3]) (cs:=[.pv (zg rS y1),.pv .nils,aB a0.F,aR 2 8 y3.length,aR 4 9 y30.length,.pv (zg zl y4)]) [4] hJ hJ hJ (ZI rfl (zw) (ZI rfl (zw) (ZI rfl (zw) (ae8 rfl (ZI rfl (zB (n:=y30.length) (id:=4) (l:=y30) (R:=zd) rfl rfl (Nat.zero_le _)) (ZI rfl (zw) (rfl))))))) rfl hJ,rfl,rfl⟩
   refine sq (rg (s1 2 [(ZO a0),km] (dv 23 (v:=aI (ahR a0)) (zP zd a0.C t24 hJ) hJ (fq 1 [jH,jM,(ZO a0),(ZU a0),(24,aI 0)] (bq ?_)))))
   refine qB (fun mm t H=>(∃ (y36:Int),QC n a0 k31 mm none y36=some r∧t=mk 41 [jH,jM,(ZO a0),(ZU a0),(24,aI y36)]∧H=[.box (zc0 a0) false,.box zc27 false,bR 49 8 za y3 0 0,.box (zc65 y1 a0 y3 y4) false])∨(∃ (y35:js) (y36:Int),QC n a0 k31 mm (some y35) y36=some r∧t=mk 41 [jH,jM,(ZO a0),(ZU a0),(24,aI y36)]∧H=[.box (zc0 a0) false,.box zc27 false,bR 49 8 za y3 0 0,.box (zc70 y1 a0 y3 y35 y4) false,bR 101 9 zd y35 0 0])) (.inl ⟨0,hm,rfl,rfl⟩) ?_ ?_
   ·
     rintro _ _ (⟨y36,hm,_⟩|⟨y35,y36,hm,_⟩)<;>exact nomatch hm
   rintro m37 _ _ (⟨y36,hm,rfl,rfl⟩|⟨y35,y36,hm,rfl,rfl⟩)
   ·simp only [QC] at hm
    refine sq (dn [jH,jM,(ZO a0),(ZU a0),(24,aI y36),(aj8 y36 a0)] ?_)
    refine sq ?_
    rcases zf hm with ⟨h38,hm⟩|⟨h38,hm⟩
    ·refine c1 h38 (jg (sq (bq (sq (rg ?_)))))
     obtain ⟨x39,h40,hm⟩:=bs hm
     refine dv 26 (v:=.pv (.ptr (zd x39) 0)) (qo zd a0.C .i64 t24 t101 h40 rfl hJ) hJ (stf 3 [jH,jM,(5,.ptr 4 0),(ZO a0),(ZU a0),(24,aI y36)] [.box (zc0 a0) false,.box zc27 false,bR 49 8 za y3 0 0,.box (zc65 y1 a0 y3 y4) false,.box (zc3 x39) false] hJ (rgd (shd 6 [(33,.agg (zc1 x39)),(32,.ptr 4 1),(31,aI x39.A),(30,.ptr 4 0),kA,kn] hJ ?_)))
     obtain ⟨x41,h42,hm⟩:=bs hm
     refine dvd 34 (zR hJ (QA h42) hJ hJ hJ) hJ (std 2 [(36,aR 5 9 1),(35,.agg (zc69 x39 x41))] [.box (zc0 a0) false,.box zc27 false,bR 49 8 za y3 0 0,.box (zc65 y1 a0 y3 y4) false,.box (zc3 x39) false,bR 101 9 zd (qx x39 x41) 0 0] hJ ?_)
     obtain ⟨_,h43,hm⟩:=bs hm
     refine dOd [(37,aR 6 9 (agh x39 x41))] [.box (zc0 a0) false,.box zc27 false,bR 49 8 za y3 0 0,.box (zc65 y1 a0 y3 y4) false,.box (zc3 x39) false,bR 101 9 zd (qx x39 x41) 0 0,bR 101 9 zd (qx x39 x41) 0 0] (Qa (u:=0) zd (qx x39 x41) (b:=96) t24 t101 rfl rfl rfl (fun _=>rfl) rfl h43 (show zT (aR 5 9 1) _=some (akq x39 x41) from by kernel_rfl) hJ) hJ (std 2 [ko] [.box (zc0 a0) false,.box zc27 false,bR 49 8 za y3 0 0,.box [.pv (zg rS y1),.pv .nils,aB a0.F,aR 2 8 y3.length,aR 6 9 (agh x39 x41),.pv (zg zl y4)] false,.box (zc3 x39) false,bR 101 9 zd (qx x39 x41) 0 0,bR 101 9 zd (qx x39 x41) 0 0] hJ (find [jH,jM,(ZO a0),(ZU a0),(24,aI y36)] rfl hJ hJ (dn [jH,jM,(ZO a0),(ZU a0),(adW y36)] ?_)))
     exact ⟨_,_,ZD [jH,jM,(ZO a0),(ZU a0),(adW y36)] [.box (zc0 a0) false,.box zc27 false,bR 49 8 za y3 0 0,.box [.pv (zg rS y1),.pv .nils,aB a0.F,aR 2 8 y3.length,aR 4 9 (agh x39 x41),.pv (zg zl y4)] false,bR 101 9 zd (qx x39 x41) 0 0] hJ,.inr (⟨(qx x39 x41),(Zk y36),hm,rfl,rfl⟩)⟩
    refine c0 h38 (jh ?_)
    exact .inl ⟨aI y36,aB (agL y36 a0),hm,(zH hJ),rfl⟩
   simp only [QC] at hm
   refine sq (dn [jH,jM,(ZO a0),(ZU a0),(24,aI y36),(aj8 y36 a0)] ?_)
   refine sq ?_
   rcases zf hm with ⟨h44,hm⟩|⟨h44,hm⟩
   ·refine c1 h44 (jg (sq (bq (sq (rg ?_)))))
    obtain ⟨x45,h46,hm⟩:=bs hm
    refine dv 26 (v:=.pv (.ptr (zd x45) 0)) (qo zd a0.C .i64 t24 t101 h46 rfl hJ) hJ (stf 3 [jH,jM,(5,.ptr 5 0),(ZO a0),(ZU a0),(24,aI y36)] [.box (zc0 a0) false,.box zc27 false,bR 49 8 za y3 0 0,.box (zc70 y1 a0 y3 y35 y4) false,bR 101 9 zd y35 0 0,.box (zc3 x45) false] hJ (rgd (shd 6 [(33,.agg (zc1 x45)),(32,.ptr 5 1),(31,aI x45.A),(30,.ptr 5 0),(29,aR 4 9 y35.length),kn] hJ ?_)))
    obtain ⟨x47,h48,hm⟩:=bs hm
    refine dvd 34 (zR hJ (QA h48) hJ hJ hJ) hJ (std 2 [(36,aR 6 9 1),(35,.agg (zc69 x45 x47))] [.box (zc0 a0) false,.box zc27 false,bR 49 8 za y3 0 0,.box (zc70 y1 a0 y3 y35 y4) false,bR 101 9 zd y35 0 0,.box (zc3 x45) false,bR 101 9 zd (qx x45 x47) 0 0] hJ ?_)
    obtain ⟨_,h49,hm⟩:=bs hm
    refine dOd [(37,aR 4 9 (agn y35 x45 x47))] [.box (zc0 a0) false,.box zc27 false,bR 49 8 za y3 0 0,.box (zc70 y1 a0 y3 y35 y4) false,bR 101 9 zd (ad1 y35 x45 x47) 0 0,.box (zc3 x45) false,bR 101 9 zd (qx x45 x47) 0 0] (ZF (u:=0) (n:=y35.length) (id:=4) zd y35 (qx x45 x47) (b:=96) t24 t101 rfl rfl rfl (fun _=>rfl) rfl h49 rfl rfl (Nat.zero_le _) (show zT (aR 6 9 1) _=some (akq x45 x47) from by kernel_rfl) hJ) hJ (std 2 [ko] [.box (zc0 a0) false,.box zc27 false,bR 49 8 za y3 0 0,.box [.pv (zg rS y1),.pv .nils,aB a0.F,aR 2 8 y3.length,aR 4 9 (agn y35 x45 x47),.pv (zg zl y4)] false,bR 101 9 zd (ad1 y35 x45 x47) 0 0,.box (zc3 x45) false,bR 101 9 zd (qx x45 x47) 0 0] hJ (find [jH,jM,(ZO a0),(ZU a0),(24,aI y36)] rfl hJ hJ (dn [jH,jM,(ZO a0),(ZU a0),(adW y36)] ?_)))
    exact ⟨_,_,ZD [jH,jM,(ZO a0),(ZU a0),(adW y36)] [.box (zc0 a0) false,.box zc27 false,bR 49 8 za y3 0 0,.box [.pv (zg rS y1),.pv .nils,aB a0.F,aR 2 8 y3.length,aR 4 9 (agn y35 x45 x47),.pv (zg zl y4)] false,bR 101 9 zd (ad1 y35 x45 x47) 0 0] hJ,.inr (⟨(ad1 y35 x45 x47),(Zk y36),hm,rfl,rfl⟩)⟩
   refine c0 h44 (jh ?_)
   exact .inr (⟨y35,aI y36,aB (agL y36 a0),hm,(zH hJ),rfl⟩)
  ·subst hk5
   obtain ⟨k53,hk53,hm⟩:=zt hm
   refine mid (fun t H=>(∃ (w50:AV) (w51:AV),k53 none=some r∧t=mk 41 [jH,jM,(ZO a0),(ZU a0),(24,w50),(25,w51)]∧H=[.box (zc0 a0) false,.box zc27 false,bR 49 8 za y2 0 0,.box (zc66 y1 y2 a0 y4) false])∨(∃ (y52:js) (w50:AV) (w51:AV),k53 (some y52)=some r∧t=mk 41 [jH,jM,(ZO a0),(ZU a0),(24,w50),(25,w51)]∧H=[.box (zc0 a0) false,.box zc27 false,bR 49 8 za y2 0 0,.box (zc71 y1 y2 a0 y52 y4) false,bR 101 9 zd y52 0 0])) ?_ ?_
   ·rintro _ _ (⟨w50,w51,hm,rfl,rfl⟩|⟨y52,w50,w51,hm,rfl,rfl⟩)
    ·subst hk53
     refine sq (det [jH] [.box (zc0 a0) false,.box (zc66 y1 y2 a0 y4) false,bR 49 8 za y2 0 0,.box (zc66 y1 y2 a0 y4) false] hJ (jf ?_))
     obtain rfl:=ji hm
     exact ⟨trivial,.agg [.pv (zg rS y1),.pv (zg za (some y2)),aB a0.F,.pv .nils,.pv (zg zd none),.pv (zg zl y4)],[],agR (ks:=[3]) (cs:=[.pv (zg rS y1),aR 2 8 y2.length,aB a0.F,.pv .nils,.pv .nils,.pv (zg zl y4)]) [2] hJ hJ hJ (ZI rfl (zw) (ZI rfl (zB (n:=y2.length) (id:=2) (l:=y2) (R:=za) rfl rfl (Nat.zero_le _)) (ZI rfl (zw) (ae8 rfl (ZI rfl (zw) (ZI rfl (zw) (rfl))))))) rfl hJ,rfl,rfl⟩
    subst hk53
    refine sq (det [jH] [.box (zc0 a0) false,.box (zc71 y1 y2 a0 y52 y4) false,bR 49 8 za y2 0 0,.box (zc71 y1 y2 a0 y52 y4) false,bR 101 9 zd y52 0 0] hJ (jf ?_))
    obtain rfl:=ji hm
    exact ⟨trivial,.agg [.pv (zg rS y1),.pv (zg za (some y2)),aB a0.F,.pv .nils,.pv (zg zd (some y52)),.pv (zg zl y4)],[],agR (ks:=[3]) (cs:=[.pv (zg rS y1),aR 2 8 y2.length,aB a0.F,.pv .nils,aR 4 9 y52.length,.pv (zg zl y4)]) [2,4] hJ hJ hJ (ZI rfl (zw) (ZI rfl (zB (n:=y2.length) (id:=2) (l:=y2) (R:=za) rfl rfl (Nat.zero_le _)) (ZI rfl (zw) (ae8 rfl (ZI rfl (zB (n:=y52.length) (id:=4) (l:=y52) (R:=zd) rfl rfl (Nat.zero_le _)) (ZI rfl (zw) (rfl))))))) rfl hJ,rfl,rfl⟩
   refine sq (rg (s1 2 [(ZO a0),km] (dv 23 (v:=aI (ahR a0)) (zP zd a0.C t24 hJ) hJ (fq 1 [jH,jM,(ZO a0),(ZU a0),(24,aI 0)] (bq ?_)))))
   refine qB (fun mm t H=>(∃ (y58:Int),Qf n a0 k53 mm none y58=some r∧t=mk 41 [jH,jM,(ZO a0),(ZU a0),(24,aI y58)]∧H=[.box (zc0 a0) false,.box zc27 false,bR 49 8 za y2 0 0,.box (zc66 y1 y2 a0 y4) false])∨(∃ (y57:js) (y58:Int),Qf n a0 k53 mm (some y57) y58=some r∧t=mk 41 [jH,jM,(ZO a0),(ZU a0),(24,aI y58)]∧H=[.box (zc0 a0) false,.box zc27 false,bR 49 8 za y2 0 0,.box (zc71 y1 y2 a0 y57 y4) false,bR 101 9 zd y57 0 0])) (.inl ⟨0,hm,rfl,rfl⟩) ?_ ?_
   ·
     rintro _ _ (⟨y58,hm,_⟩|⟨y57,y58,hm,_⟩)<;>exact nomatch hm
   rintro m59 _ _ (⟨y58,hm,rfl,rfl⟩|⟨y57,y58,hm,rfl,rfl⟩)
   ·simp only [Qf] at hm
    refine sq (dn [jH,jM,(ZO a0),(ZU a0),(24,aI y58),(aj8 y58 a0)] ?_)
    refine sq ?_
    rcases zf hm with ⟨h60,hm⟩|⟨h60,hm⟩
    ·refine c1 h60 (jg (sq (bq (sq (rg ?_)))))
     obtain ⟨x61,h62,hm⟩:=bs hm
     refine dv 26 (v:=.pv (.ptr (zd x61) 0)) (qo zd a0.C .i64 t24 t101 h62 rfl hJ) hJ (stf 3 [jH,jM,(5,.ptr 4 0),(ZO a0),(ZU a0),(24,aI y58)] [.box (zc0 a0) false,.box zc27 false,bR 49 8 za y2 0 0,.box (zc66 y1 y2 a0 y4) false,.box (zc3 x61) false] hJ (rgd (shd 6 [(33,.agg (zc1 x61)),(32,.ptr 4 1),(31,aI x61.A),(30,.ptr 4 0),kA,kn] hJ ?_)))
     obtain ⟨x63,h64,hm⟩:=bs hm
     refine dvd 34 (zR hJ (QA h64) hJ hJ hJ) hJ (std 2 [(36,aR 5 9 1),(35,.agg (zc69 x61 x63))] [.box (zc0 a0) false,.box zc27 false,bR 49 8 za y2 0 0,.box (zc66 y1 y2 a0 y4) false,.box (zc3 x61) false,bR 101 9 zd (qx x61 x63) 0 0] hJ ?_)
     obtain ⟨_,h65,hm⟩:=bs hm
     refine dOd [(37,aR 6 9 (agh x61 x63))] [.box (zc0 a0) false,.box zc27 false,bR 49 8 za y2 0 0,.box (zc66 y1 y2 a0 y4) false,.box (zc3 x61) false,bR 101 9 zd (qx x61 x63) 0 0,bR 101 9 zd (qx x61 x63) 0 0] (Qa (u:=0) zd (qx x61 x63) (b:=96) t24 t101 rfl rfl rfl (fun _=>rfl) rfl h65 (show zT (aR 5 9 1) _=some (akq x61 x63) from by kernel_rfl) hJ) hJ (std 2 [ko] [.box (zc0 a0) false,.box zc27 false,bR 49 8 za y2 0 0,.box [.pv (zg rS y1),aR 2 8 y2.length,aB a0.F,.pv .nils,aR 6 9 (agh x61 x63),.pv (zg zl y4)] false,.box (zc3 x61) false,bR 101 9 zd (qx x61 x63) 0 0,bR 101 9 zd (qx x61 x63) 0 0] hJ (find [jH,jM,(ZO a0),(ZU a0),(24,aI y58)] rfl hJ hJ (dn [jH,jM,(ZO a0),(ZU a0),(adW y58)] ?_)))
     exact ⟨_,_,ZD [jH,jM,(ZO a0),(ZU a0),(adW y58)] [.box (zc0 a0) false,.box zc27 false,bR 49 8 za y2 0 0,.box [.pv (zg rS y1),aR 2 8 y2.length,aB a0.F,.pv .nils,aR 4 9 (agh x61 x63),.pv (zg zl y4)] false,bR 101 9 zd (qx x61 x63) 0 0] hJ,.inr (⟨(qx x61 x63),(Zk y58),hm,rfl,rfl⟩)⟩
    refine c0 h60 (jh ?_)
    exact .inl ⟨aI y58,aB (agL y58 a0),hm,(zH hJ),rfl⟩
   simp only [Qf] at hm
   refine sq (dn [jH,jM,(ZO a0),(ZU a0),(24,aI y58),(aj8 y58 a0)] ?_)
   refine sq ?_
   rcases zf hm with ⟨h66,hm⟩|⟨h66,hm⟩
   ·refine c1 h66 (jg (sq (bq (sq (rg ?_)))))
    obtain ⟨x67,h68,hm⟩:=bs hm
    refine dv 26 (v:=.pv (.ptr (zd x67) 0)) (qo zd a0.C .i64 t24 t101 h68 rfl hJ) hJ (stf 3 [jH,jM,(5,.ptr 5 0),(ZO a0),(ZU a0),(24,aI y58)] [.box (zc0 a0) false,.box zc27 false,bR 49 8 za y2 0 0,.box (zc71 y1 y2 a0 y57 y4) false,bR 101 9 zd y57 0 0,.box (zc3 x67) false] hJ (rgd (shd 6 [(33,.agg (zc1 x67)),(32,.ptr 5 1),(31,aI x67.A),(30,.ptr 5 0),(29,aR 4 9 y57.length),kn] hJ ?_)))
    obtain ⟨x69,h70,hm⟩:=bs hm
    refine dvd 34 (zR hJ (QA h70) hJ hJ hJ) hJ (std 2 [(36,aR 6 9 1),(35,.agg (zc69 x67 x69))] [.box (zc0 a0) false,.box zc27 false,bR 49 8 za y2 0 0,.box (zc71 y1 y2 a0 y57 y4) false,bR 101 9 zd y57 0 0,.box (zc3 x67) false,bR 101 9 zd (qx x67 x69) 0 0] hJ ?_)
    obtain ⟨_,h71,hm⟩:=bs hm
    refine dOd [(37,aR 4 9 (agn y57 x67 x69))] [.box (zc0 a0) false,.box zc27 false,bR 49 8 za y2 0 0,.box (zc71 y1 y2 a0 y57 y4) false,bR 101 9 zd (ad1 y57 x67 x69) 0 0,.box (zc3 x67) false,bR 101 9 zd (qx x67 x69) 0 0] (ZF (u:=0) (n:=y57.length) (id:=4) zd y57 (qx x67 x69) (b:=96) t24 t101 rfl rfl rfl (fun _=>rfl) rfl h71 rfl rfl (Nat.zero_le _) (show zT (aR 6 9 1) _=some (akq x67 x69) from by kernel_rfl) hJ) hJ (std 2 [ko] [.box (zc0 a0) false,.box zc27 false,bR 49 8 za y2 0 0,.box [.pv (zg rS y1),aR 2 8 y2.length,aB a0.F,.pv .nils,aR 4 9 (agn y57 x67 x69),.pv (zg zl y4)] false,bR 101 9 zd (ad1 y57 x67 x69) 0 0,.box (zc3 x67) false,bR 101 9 zd (qx x67 x69) 0 0] hJ (find [jH,jM,(ZO a0),(ZU a0),(24,aI y58)] rfl hJ hJ (dn [jH,jM,(ZO a0),(ZU a0),(adW y58)] ?_)))
    exact ⟨_,_,ZD [jH,jM,(ZO a0),(ZU a0),(adW y58)] [.box (zc0 a0) false,.box zc27 false,bR 49 8 za y2 0 0,.box [.pv (zg rS y1),aR 2 8 y2.length,aB a0.F,.pv .nils,aR 4 9 (agn y57 x67 x69),.pv (zg zl y4)] false,bR 101 9 zd (ad1 y57 x67 x69) 0 0] hJ,.inr (⟨(ad1 y57 x67 x69),(Zk y58),hm,rfl,rfl⟩)⟩
   refine c0 h66 (jh ?_)
   exact .inr (⟨y57,aI y58,aB (agL y58 a0),hm,(zH hJ),rfl⟩)
  subst hk5
  obtain ⟨k75,hk75,hm⟩:=zt hm
  refine mid (fun t H=>(∃ (w72:AV) (w73:AV),k75 none=some r∧t=mk 41 [jH,jT,(ZO a0),(ZU a0),(24,w72),(25,w73)]∧H=[.box (zc0 a0) false,.box zc27 false,bR 49 8 za y2 0 0,bR 49 8 za y3 0 0,.box (zc67 y1 y2 a0 y3 y4) false])∨(∃ (y74:js) (w72:AV) (w73:AV),k75 (some y74)=some r∧t=mk 41 [jH,jT,(ZO a0),(ZU a0),(24,w72),(25,w73)]∧H=[.box (zc0 a0) false,.box zc27 false,bR 49 8 za y2 0 0,bR 49 8 za y3 0 0,.box (zc72 y1 y2 a0 y3 y74 y4) false,bR 101 9 zd y74 0 0])) ?_ ?_
  ·rintro _ _ (⟨w72,w73,hm,rfl,rfl⟩|⟨y74,w72,w73,hm,rfl,rfl⟩)
   ·subst hk75
    refine sq (det [jH] [.box (zc0 a0) false,.box (zc67 y1 y2 a0 y3 y4) false,bR 49 8 za y2 0 0,bR 49 8 za y3 0 0,.box (zc67 y1 y2 a0 y3 y4) false] hJ (jf ?_))
    obtain rfl:=ji hm
    exact ⟨trivial,.agg [.pv (zg rS y1),.pv (zg za (some y2)),aB a0.F,aR 0 8 y3.length,.pv (zg zd none),.pv (zg zl y4)],[bR 49 8 za y3 0 0],agR (ks:=[3]) (cs:=[.pv (zg rS y1),aR 2 8 y2.length,aB a0.F,aR 3 8 y3.length,.pv .nils,.pv (zg zl y4)]) [2] hJ hJ hJ (ZI rfl (zw) (ZI rfl (zB (n:=y2.length) (id:=2) (l:=y2) (R:=za) rfl rfl (Nat.zero_le _)) (ZI rfl (zw) (ae8 rfl (ZI rfl (zw) (ZI rfl (zw) (rfl))))))) rfl hJ,rfl,rfl⟩
   subst hk75
   refine sq (det [jH] [.box (zc0 a0) false,.box (zc72 y1 y2 a0 y3 y74 y4) false,bR 49 8 za y2 0 0,bR 49 8 za y3 0 0,.box (zc72 y1 y2 a0 y3 y74 y4) false,bR 101 9 zd y74 0 0] hJ (jf ?_))
   obtain rfl:=ji hm
   exact ⟨trivial,.agg [.pv (zg rS y1),.pv (zg za (some y2)),aB a0.F,aR 0 8 y3.length,.pv (zg zd (some y74)),.pv (zg zl y4)],[bR 49 8 za y3 0 0],agR (ks:=[3]) (cs:=[.pv (zg rS y1),aR 2 8 y2.length,aB a0.F,aR 3 8 y3.length,aR 5 9 y74.length,.pv (zg zl y4)]) [2,5] hJ hJ hJ (ZI rfl (zw) (ZI rfl (zB (n:=y2.length) (id:=2) (l:=y2) (R:=za) rfl rfl (Nat.zero_le _)) (ZI rfl (zw) (ae8 rfl (ZI rfl (zB (n:=y74.length) (id:=5) (l:=y74) (R:=zd) rfl rfl (Nat.zero_le _)) (ZI rfl (zw) (rfl))))))) rfl hJ,rfl,rfl⟩
  refine sq (rg (s1 2 [(ZO a0),km] (dv 23 (v:=aI (ahR a0)) (zP zd a0.C t24 hJ) hJ (fq 1 [jH,jT,(ZO a0),(ZU a0),(24,aI 0)] (bq ?_)))))
  refine qB (fun mm t H=>(∃ (y80:Int),qR n a0 k75 mm none y80=some r∧t=mk 41 [jH,jT,(ZO a0),(ZU a0),(24,aI y80)]∧H=[.box (zc0 a0) false,.box zc27 false,bR 49 8 za y2 0 0,bR 49 8 za y3 0 0,.box (zc67 y1 y2 a0 y3 y4) false])∨(∃ (y79:js) (y80:Int),qR n a0 k75 mm (some y79) y80=some r∧t=mk 41 [jH,jT,(ZO a0),(ZU a0),(24,aI y80)]∧H=[.box (zc0 a0) false,.box zc27 false,bR 49 8 za y2 0 0,bR 49 8 za y3 0 0,.box (zc72 y1 y2 a0 y3 y79 y4) false,bR 101 9 zd y79 0 0])) (.inl ⟨0,hm,rfl,rfl⟩) ?_ ?_
  ·
    rintro _ _ (⟨y80,hm,_⟩|⟨y79,y80,hm,_⟩)<;>exact nomatch hm
  rintro m81 _ _ (⟨y80,hm,rfl,rfl⟩|⟨y79,y80,hm,rfl,rfl⟩)
  ·simp only [qR] at hm
   refine sq (dn [jH,jT,(ZO a0),(ZU a0),(24,aI y80),(aj8 y80 a0)] ?_)
   refine sq ?_
   rcases zf hm with ⟨h82,hm⟩|⟨h82,hm⟩
   ·refine c1 h82 (jg (sq (bq (sq (rg ?_)))))
    obtain ⟨x83,h84,hm⟩:=bs hm
    refine dv 26 (v:=.pv (.ptr (zd x83) 0)) (qo zd a0.C .i64 t24 t101 h84 rfl hJ) hJ (stf 3 [jH,jT,(5,.ptr 5 0),(ZO a0),(ZU a0),(24,aI y80)] [.box (zc0 a0) false,.box zc27 false,bR 49 8 za y2 0 0,bR 49 8 za y3 0 0,.box (zc67 y1 y2 a0 y3 y4) false,.box (zc3 x83) false] hJ (rgd (shd 6 [(33,.agg (zc1 x83)),(32,.ptr 5 1),(31,aI x83.A),(30,.ptr 5 0),kA,(28,.ptr 4 4)] hJ ?_)))
    obtain ⟨x85,h86,hm⟩:=bs hm
    refine dvd 34 (zR hJ (QA h86) hJ hJ hJ) hJ (std 2 [(36,aR 6 9 1),(35,.agg (zc69 x83 x85))] [.box (zc0 a0) false,.box zc27 false,bR 49 8 za y2 0 0,bR 49 8 za y3 0 0,.box (zc67 y1 y2 a0 y3 y4) false,.box (zc3 x83) false,bR 101 9 zd (qx x83 x85) 0 0] hJ ?_)
    obtain ⟨_,h87,hm⟩:=bs hm
    refine dOd [(37,aR 7 9 (agh x83 x85))] [.box (zc0 a0) false,.box zc27 false,bR 49 8 za y2 0 0,bR 49 8 za y3 0 0,.box (zc67 y1 y2 a0 y3 y4) false,.box (zc3 x83) false,bR 101 9 zd (qx x83 x85) 0 0,bR 101 9 zd (qx x83 x85) 0 0] (Qa (u:=0) zd (qx x83 x85) (b:=96) t24 t101 rfl rfl rfl (fun _=>rfl) rfl h87 (show zT (aR 6 9 1) _=some (akq x83 x85) from by kernel_rfl) hJ) hJ (std 2 [(38,.ptr 4 4)] [.box (zc0 a0) false,.box zc27 false,bR 49 8 za y2 0 0,bR 49 8 za y3 0 0,.box [.pv (zg rS y1),aR 2 8 y2.length,aB a0.F,aR 3 8 y3.length,aR 7 9 (agh x83 x85),.pv (zg zl y4)] false,.box (zc3 x83) false,bR 101 9 zd (qx x83 x85) 0 0,bR 101 9 zd (qx x83 x85) 0 0] hJ (find [jH,jT,(ZO a0),(ZU a0),(24,aI y80)] rfl hJ hJ (dn [jH,jT,(ZO a0),(ZU a0),(adW y80)] ?_)))
    exact ⟨_,_,ZD [jH,jT,(ZO a0),(ZU a0),(adW y80)] [.box (zc0 a0) false,.box zc27 false,bR 49 8 za y2 0 0,bR 49 8 za y3 0 0,.box [.pv (zg rS y1),aR 2 8 y2.length,aB a0.F,aR 3 8 y3.length,aR 5 9 (agh x83 x85),.pv (zg zl y4)] false,bR 101 9 zd (qx x83 x85) 0 0] hJ,.inr (⟨(qx x83 x85),(Zk y80),hm,rfl,rfl⟩)⟩
   refine c0 h82 (jh ?_)
   exact .inl ⟨aI y80,aB (agL y80 a0),hm,(zH hJ),rfl⟩
  simp only [qR] at hm
  refine sq (dn [jH,jT,(ZO a0),(ZU a0),(24,aI y80),(aj8 y80 a0)] ?_)
  refine sq ?_
  rcases zf hm with ⟨h88,hm⟩|⟨h88,hm⟩
  ·refine c1 h88 (jg (sq (bq (sq (rg ?_)))))
   obtain ⟨x89,h90,hm⟩:=bs hm
   refine dv 26 (v:=.pv (.ptr (zd x89) 0)) (qo zd a0.C .i64 t24 t101 h90 rfl hJ) hJ (stf 3 [jH,jT,(5,.ptr 6 0),(ZO a0),(ZU a0),(24,aI y80)] [.box (zc0 a0) false,.box zc27 false,bR 49 8 za y2 0 0,bR 49 8 za y3 0 0,.box (zc72 y1 y2 a0 y3 y79 y4) false,bR 101 9 zd y79 0 0,.box (zc3 x89) false] hJ (rgd (shd 6 [(33,.agg (zc1 x89)),(32,.ptr 6 1),(31,aI x89.A),(30,.ptr 6 0),(29,aR 5 9 y79.length),(28,.ptr 4 4)] hJ ?_)))
   obtain ⟨x91,h92,hm⟩:=bs hm
   refine dvd 34 (zR hJ (QA h92) hJ hJ hJ) hJ (std 2 [(36,aR 7 9 1),(35,.agg (zc69 x89 x91))] [.box (zc0 a0) false,.box zc27 false,bR 49 8 za y2 0 0,bR 49 8 za y3 0 0,.box (zc72 y1 y2 a0 y3 y79 y4) false,bR 101 9 zd y79 0 0,.box (zc3 x89) false,bR 101 9 zd (qx x89 x91) 0 0] hJ ?_)
   obtain ⟨_,h93,hm⟩:=bs hm
   refine dOd [(37,aR 5 9 (agn y79 x89 x91))] [.box (zc0 a0) false,.box zc27 false,bR 49 8 za y2 0 0,bR 49 8 za y3 0 0,.box (zc72 y1 y2 a0 y3 y79 y4) false,bR 101 9 zd (ad1 y79 x89 x91) 0 0,.box (zc3 x89) false,bR 101 9 zd (qx x89 x91) 0 0] (ZF (u:=0) (n:=y79.length) (id:=5) zd y79 (qx x89 x91) (b:=96) t24 t101 rfl rfl rfl (fun _=>rfl) rfl h93 rfl rfl (Nat.zero_le _) (show zT (aR 7 9 1) _=some (akq x89 x91) from by kernel_rfl) hJ) hJ (std 2 [(38,.ptr 4 4)] [.box (zc0 a0) false,.box zc27 false,bR 49 8 za y2 0 0,bR 49 8 za y3 0 0,.box [.pv (zg rS y1),aR 2 8 y2.length,aB a0.F,aR 3 8 y3.length,aR 5 9 (agn y79 x89 x91),.pv (zg zl y4)] false,bR 101 9 zd (ad1 y79 x89 x91) 0 0,.box (zc3 x89) false,bR 101 9 zd (qx x89 x91) 0 0] hJ (find [jH,jT,(ZO a0),(ZU a0),(24,aI y80)] rfl hJ hJ (dn [jH,jT,(ZO a0),(ZU a0),(adW y80)] ?_)))
   exact ⟨_,_,ZD [jH,jT,(ZO a0),(ZU a0),(adW y80)] [.box (zc0 a0) false,.box zc27 false,bR 49 8 za y2 0 0,bR 49 8 za y3 0 0,.box [.pv (zg rS y1),aR 2 8 y2.length,aB a0.F,aR 3 8 y3.length,aR 5 9 (agn y79 x89 x91),.pv (zg zl y4)] false,bR 101 9 zd (ad1 y79 x89 x91) 0 0] hJ,.inr (⟨(ad1 y79 x89 x91),(Zk y80),hm,rfl,rfl⟩)⟩
  refine c0 h88 (jh ?_)
  exact .inr (⟨y79,aI y80,aB (agL y80 a0),hm,(zH hJ),rfl⟩)
 refine rgd (shd 2 [(7,.pv (zg rS a0.E)),j6] hJ ?_)
 obtain ⟨x94,h95,hm⟩:=bs hm
 refine dvd 8 (zR hJ (afN h95) hJ hJ hJ) hJ (shd 2 [(10,.pv (ahl a0)),(9,.ptr 0 1)] hJ ?_)
 obtain ⟨x98,h96,hm⟩:=bs hm
 rcases x98 with _|x97
 ·obtain ⟨vv,H1,hC,rfl,rfl⟩:=aam h96
  refine dOd [(11,.pv .nils)] [.box (zc0 a0) false,.box zc27 false] (ah3 [] [.pv (ahl a0)] (v':=.pv .nils) (bs':=[]) hJ hJ hJ hC hJ hJ hJ) hJ (shd 4 [(15,.pv (abu a0)),(14,.ptr 0 3),(13,aB a0.F),(12,.ptr 0 2)] hJ ?_)
  obtain ⟨x101,h99,hm⟩:=bs hm
  rcases x101 with _|x100
  ·obtain ⟨vv,H1,hC,rfl,rfl⟩:=aam h99
   refine dOd [(16,.pv .nils)] [.box (zc0 a0) false,.box zc27 false] (ah3 [] [.pv (abu a0)] (v':=.pv .nils) (bs':=[]) hJ hJ hJ hC hJ hJ hJ) hJ (shd 2 [(18,.pv (aeA a0)),kp] hJ ?_)
   obtain ⟨x102,h103,hm⟩:=bs hm
   refine dvd 19 (zR hJ (aaH h103) hJ hJ hJ) hJ (std 3 [jR,(20,.agg (zc64 x94 a0 x102))] [.box (zc0 a0) false,.box zc27 false,.box (zc64 x94 a0 x102) false] hJ (find [jK,jH,jR] rfl hJ hJ ?_))
   exact .inl ⟨x94,x102,hm,rfl,rfl⟩
  obtain ⟨vv,H1,hC,rfl,rfl⟩:=aam h99
  refine dOd [(16,aR 2 8 x100.length)] [.box (zc0 a0) false,.box zc27 false,bR 49 8 za x100 0 0] (ah3 [] [.pv (abu a0)] (v':=aR 2 8 x100.length) (bs':=[bR 49 8 za x100 0 0]) hJ hJ hJ hC hJ hJ hJ) hJ (shd 2 [(18,.pv (aeA a0)),kp] hJ ?_)
  obtain ⟨x104,h105,hm⟩:=bs hm
  refine dvd 19 (zR hJ (aaH h105) hJ hJ hJ) hJ (std 3 [jM,(20,.agg (zc65 x94 a0 x100 x104))] [.box (zc0 a0) false,.box zc27 false,bR 49 8 za x100 0 0,.box (zc65 x94 a0 x100 x104) false] hJ (find [jK,jH,jM] rfl hJ hJ ?_))
  exact .inr (.inl ⟨x94,x100,x104,hm,rfl,rfl⟩)
 obtain ⟨vv,H1,hC,rfl,rfl⟩:=aam h96
 refine dOd [(11,aR 2 8 x97.length)] [.box (zc0 a0) false,.box zc27 false,bR 49 8 za x97 0 0] (ah3 [] [.pv (ahl a0)] (v':=aR 2 8 x97.length) (bs':=[bR 49 8 za x97 0 0]) hJ hJ hJ hC hJ hJ hJ) hJ (shd 4 [(15,.pv (abu a0)),(14,.ptr 0 3),(13,aB a0.F),(12,.ptr 0 2)] hJ ?_)
 obtain ⟨x108,h106,hm⟩:=bs hm
 rcases x108 with _|x107
 ·obtain ⟨vv,H1,hC,rfl,rfl⟩:=aam h106
  refine dOd [(16,.pv .nils)] [.box (zc0 a0) false,.box zc27 false,bR 49 8 za x97 0 0] (ah3 [] [.pv (abu a0)] (v':=.pv .nils) (bs':=[]) hJ hJ hJ hC hJ hJ hJ) hJ (shd 2 [(18,.pv (aeA a0)),kp] hJ ?_)
  obtain ⟨x109,h110,hm⟩:=bs hm
  refine dvd 19 (zR hJ (aaH h110) hJ hJ hJ) hJ (std 3 [jM,(20,.agg (zc66 x94 x97 a0 x109))] [.box (zc0 a0) false,.box zc27 false,bR 49 8 za x97 0 0,.box (zc66 x94 x97 a0 x109) false] hJ (find [jK,jH,jM] rfl hJ hJ ?_))
  exact .inr (.inr (.inl ⟨x94,x97,x109,hm,rfl,rfl⟩))
 obtain ⟨vv,H1,hC,rfl,rfl⟩:=aam h106
 refine dOd [(16,aR 3 8 x107.length)] [.box (zc0 a0) false,.box zc27 false,bR 49 8 za x97 0 0,bR 49 8 za x107 0 0] (ah3 [] [.pv (abu a0)] (v':=aR 3 8 x107.length) (bs':=[bR 49 8 za x107 0 0]) hJ hJ hJ hC hJ hJ hJ) hJ (shd 2 [(18,.pv (aeA a0)),kp] hJ ?_)
 obtain ⟨x111,h112,hm⟩:=bs hm
 refine dvd 19 (zR hJ (aaH h112) hJ hJ hJ) hJ (std 3 [jT,(20,.agg (zc67 x94 x97 a0 x107 x111))] [.box (zc0 a0) false,.box zc27 false,bR 49 8 za x97 0 0,bR 49 8 za x107 0 0,.box (zc67 x94 x97 a0 x107 x111) false] hJ (find [jK,jH,jT] rfl hJ hJ ?_))
 exact .inr (.inr (.inr (⟨x94,x97,x107,x111,hm,rfl,rfl⟩)))
abbrev zc73 (p0:(Option (List ByteArray))) (p1:jo) (p2:zb) (p3:jr) (p4:jt):List AV:=[.pv (zg rS p0),.pv (zg za p1),aB ((zb.mk p2.E p2.H p2.F p2.B p2.C p2.G).F),.pv .nils,.pv (zg zd p3),.pv (zg zl p4)]
abbrev zc74 (p0:(Option (List ByteArray))) (p1:jo) (p2:zb) (p3:jq) (p4:jr) (p5:jt):List AV:=[.pv (zg rS p0),.pv (zg za p1),aB ((zb.mk p2.E p2.H p2.F p2.B p2.C p2.G).F),aR 4 8 p3.length,.pv (zg zd p4),.pv (zg zl p5)]
abbrev adg (p0:(Option (List Int))):Nat×AV:=(2,.pv (zg (rI .u8) p0))
abbrev ai8 (p0:zb):Nat×AV:=(29,.pv (zg rS p0.E))
abbrev ajX (p0:zb):Nat×AV:=(30,aI ((sll p0.E).length:Int))
abbrev adS (p0:zb):Nat×AV:=(98,aI ((sll p0.B).length:Int))
abbrev aiQ (p0:jq):Nat×AV:=(77,aI (p0.length:Int))
abbrev apW (p0:(List Int)) (p1:zc):Nat×AV:=(15,aR 6 1 ((p0++([(zh p1).A]:List Int)).length))
abbrev aod (p0:(List Int)) (p1:zc):=(p0++([(zh p1).A]:List Int))
abbrev aq6 (p0:jq) (p1:Int) (p2:zc):=(p0.set (Int.toNat p1) (zy (zk.mk (-3) ((zh p2).K) ((zh p2).M) ((zh p2).D) ((zh p2).I))))
theorem ah8 {n:Nat}{a0:zb}{a1:jv}{a2:(Option (List Int))}{r:Bool}(hm:abg n a0 a1 a2=some r):
   call G n 3 [.agg (zc0 a0),.pv (zz a1),.pv (zg (rI .u8) a2)] []=some (.ret (aB r),[]):=by
 unfold abg at hm
 obtain ⟨n,rfl,h0⟩:=zu hm
 replace hm:=h0;clear h0
 refine Z2 114 [(0,.agg (zc0 a0)),(zp81 a1),(adg a2)] func3 rfl hJ (sq (det [(zp81 a1),(adg a2),jL] [.box (zc0 a0) false] hJ ?_))
 refine sq (sq (rg ?_))
 obtain ⟨x1,h2,hm⟩:=bs hm
 refine dv 18 (zR hJ (al5 h2) hJ hJ hJ) hJ (fq 1 [(zp81 a1),(adg a2),jL,(19,aB (!x1))] ?_)
 rcases zf hm with ⟨h3,hm⟩|⟨h3,hm⟩
 ·refine c1 h3 (sq (dn [kN] (jf ?_)))
  cases hm;exact hM
 refine c0 h3 (jg ?_)
 refine sq (sq (rg (s1 2 [(21,.pv (zz a1)),(20,.agg (zc0 a0))] ?_)))
 obtain ⟨x4,h5,hm⟩:=bs hm
 refine dv 22 (zR hJ (ak7 h5) hJ hJ hJ) hJ (s1 1 [(23,aB x4)] ?_)
 refine seg x4 [23,22] (fun b=>[(27,aB (b||(decide (((sll a2).length:Int)>1000)))),(26,ifA b jb (aB (decide (((sll a2).length:Int)>1000)))),(25,ifA b jb (aI ((sll a2).length:Int))),(24,ifA b jb (.pv (zg (rI .u8) a2)))]) 8 hJ ?_ ?_ ?_
 ·intro Q h
  refine s1 4 [(27,aB true),(26,.undef),(25,.undef),(24,.undef)] ?_
  exact QZ hJ hJ h
 ·intro Q h
  refine s1 1 [(24,.pv (zg (rI .u8) a2))] (dv 25 (v:=aI ((sll a2).length:Int)) (zP (rI .u8) a2 t29 hJ) hJ (s1 2 [(27,aB (decide (((sll a2).length:Int)>1000))),(26,aB (decide (((sll a2).length:Int)>1000)))] ?_))
  exact QZ hJ hJ h
 refine fin [(zp81 a1),(adg a2),jL,(27,aB (x4||(decide (((sll a2).length:Int)>1000))))] rfl hJ ?_
 rcases zf hm with ⟨h6,hm⟩|⟨h6,hm⟩
 ·refine c1 h6 (sq (dn [kP] (jf ?_)))
  cases hm;exact hM
 refine c0 h6 (jg ?_)
 obtain ⟨k9,hk9,hm⟩:=zt hm
 refine mid (fun t H=>(∃ (y7:Int) (y8:Bool),k9 ()=some r∧t=mk 114 [(zp81 a1),(adg a2),jL,(ai8 a0),(ajX a0),(31,aI y7),(32,aB y8)]∧H=[.box (zc0 a0) false])) ?_ ?_
 ·rintro _ _ ⟨y7,y8,hm,rfl,rfl⟩
  subst hk9
  refine sq (sq (rg (s1 2 [(41,.pv (zz a1)),(40,.agg (zc0 a0))] ?_)))
  obtain ⟨x10,h11,hm⟩:=bs hm
  refine dv 42 (zR hJ (alb h11) hJ hJ hJ) hJ (fq 5 [(adg a2),jL,(10,aI x10.2)] (sq (dn [(adg a2),jL,(46,aB (x10.2 !=0))] ?_)))
  rcases zf hm with ⟨h12,hm⟩|⟨h12,hm⟩
  ·refine c1 h12 (sq (dn [kP] (jf ?_)))
   cases hm;exact hM
  refine c0 h12 (jg ?_)
  obtain ⟨k18,hk18,hm⟩:=zt hm
  refine mid (fun t H=>(∃ (y13:(List Int)) (y14:(Option (List Int))) (g15:Nat) (g17:Nat),k18 y14=some r∧t=mk 114 [(adg a2),jL,kq]∧H=[.box (zc0 a0) false,bR 5 1 (rI .u8) y13 g15 g17,.box [aB true,.pv (zg (rI .u8) y14),aI 0] false]∧g15≤y13.length)) ?_ ?_
  ·rintro _ _ ⟨y13,y14,g15,g17,hm,rfl,rfl,q16⟩
   subst hk18
   refine sq (rg (s1 1 [(53,.ptr 2 0)] ?_))
   obtain ⟨⟨x20,x21,x22,x23,x24,x25,x26,x27,x28,x29⟩,h19,hm⟩:=bs hm
   obtain ⟨vv,H1,hC,rfl,rfl⟩:=amA h19
   refine dR [(54,.tup [.agg (zc4 x23 x24 x25 x26 x27 x28),aI x29])] [.box (zc0 a0) false,bR 5 1 (rI .u8) y13 g15 g17,.box (zc13 x20 x21 x22) false] [2] [.ptr 2 0] hJ hJ hJ hC hJ (stf 6 [(adg a2),jL,kq,(12,.ptr 3 0),(13,aI x29)] [.box (zc0 a0) false,bR 5 1 (rI .u8) y13 g15 g17,.box (zc13 x20 x21 x22) false,.box (zc4 x23 x24 x25 x26 x27 x28) false] hJ ?_)
   refine sq (sq (rg (s1 3 [(59,aB (x29 !=0)),(58,aB (x29 !=0)),(57,aI x29)] ?_)))
   rcases zf hm with ⟨h30,hm⟩|⟨h30,hm⟩
   ·refine known [59,58] h30 hJ (fq 12 [jL,(71,aB true)] (cT hJ (sq (dn [kN] (jf ?_)))))
    cases hm;exact hM
   refine known [59,58] h30 hJ (s1 2 [(61,.agg (zc0 a0)),(60,.agg (zc4 x23 x24 x25 x26 x27 x28))] ?_)
   obtain ⟨x31,h32,hm⟩:=bs hm
   refine dv 62 (zR hJ (amj h32) hJ hJ hJ) hJ (s1 3 [(65,aB (!x31)),(64,aB (!x31)),(63,aB (!x31))] ?_)
   rcases zf hm with ⟨h33,hm⟩|⟨h33,hm⟩
   ·refine known [65,64,63] h33 hJ (fq 6 [jL,(71,aB true)] (cT hJ (sq (dn [kN] (jf ?_)))))
    cases hm;exact hM
   refine known [65,64,63] h33 hJ (s1 1 [(66,.ptr 2 0)] ?_)
   obtain ⟨x35,h34,hm⟩:=bs hm
   obtain ⟨vv,H1,hC,rfl,rfl⟩:=agT h34
   refine dR [(67,aI x35)] [.box (zc0 a0) false,bR 5 1 (rI .u8) y13 g15 g17,.box (zc13 x20 x21 x22) false,.box (zc4 x23 x24 x25 x26 x27 x28) false] [2] [.ptr 2 0] hJ hJ hJ hC hJ (s1 1 [(68,.pv (zg (rI .u8) a2))] (dv 69 (v:=aI ((sll a2).length:Int)) (zP (rI .u8) a2 t29 hJ) hJ (fq 2 [jL,(71,aB (x35 !=((sll a2).length:Int)))] ?_)))
   rcases zf hm with ⟨h36,hm⟩|⟨h36,hm⟩
   ·refine c1 h36 (sq (dn [kN] (jf ?_)))
    cases hm;exact hM
   refine c0 h36 (jg ?_)
   obtain ⟨k42,hk42,hm⟩:=zt hm
   refine mid (fun t H=>(∃ (y37:anp) (y38:jo) (y40:jr) (y41:jt),k42 none=some r∧t=mk 114 [jL,j7]∧H=[.box (zc0 a0) false,bR 5 1 (rI .u8) y13 g15 g17,.box (zc13 x20 x21 x22) false,.box (zc4 x23 x24 x25 x26 x27 x28) false,.box (zc73 y37 y38 a0 y40 y41) false])∨(∃ (y37:anp) (y38:jo) (y39:jq) (y40:jr) (y41:jt),k42 (some y39)=some r∧t=mk 114 [jL,jW]∧H=[.box (zc0 a0) false,bR 5 1 (rI .u8) y13 g15 g17,.box (zc13 x20 x21 x22) false,.box (zc4 x23 x24 x25 x26 x27 x28) false,bR 49 8 za y39 0 0,.box (zc74 y37 y38 a0 y39 y40 y41) false])) ?_ ?_
   ·rintro _ _ (⟨y37,y38,y40,y41,hm,rfl,rfl⟩|⟨y37,y38,y39,y40,y41,hm,rfl,rfl⟩)
    ·subst hk42
     refine sq (det [jL,j7,(15,aR 5 1 0)] [.box (zc0 a0) false,bR 5 1 (rI .u8) y13 g15 g17,.box (zc13 x20 x21 x22) false,.box (zc4 x23 x24 x25 x26 x27 x28) false,.box (zc73 y37 y38 a0 y40 y41) false,bR 3 1 (rI .i64) ([]:List Int) 0 0] hJ ?_)
     obtain ⟨k43,hk43,hm⟩:=zt hm
     refine mid (fun t H=>(k43 ()=some r∧t=mk 114 [jL,j7,(15,aR 5 1 0),(77,aI 0),(78,aI 0),(79,aB false)]∧H=[.box (zc0 a0) false,bR 5 1 (rI .u8) y13 g15 g17,.box (zc13 x20 x21 x22) false,.box (zc4 x23 x24 x25 x26 x27 x28) false,.box (zc73 y37 y38 a0 y40 y41) false,bR 3 1 (rI .i64) ([]:List Int) 0 0])) ?_ ?_
     ·rintro _ _ ⟨hm,rfl,rfl⟩
      subst hk43
      obtain ⟨k46,hk46,hm⟩:=zt hm
      refine mid (fun t H=>(∃ (y44:Bool) (y45:Int),k46 ()=some r∧t=mk 114 [jL,(15,aR 5 1 0),(adS a0),(99,aI y45),(100,aB y44)]∧H=[.box (zc0 a0) false,bR 5 1 (rI .u8) y13 g15 g17,.box (zc13 x20 x21 x22) false,.box (zc4 x23 x24 x25 x26 x27 x28) false,.box (zc73 y37 y38 a0 y40 y41) false,bR 3 1 (rI .i64) ([]:List Int) 0 0])) ?_ ?_
      ·rintro _ _ ⟨y44,y45,hm,rfl,rfl⟩
       subst hk46
       refine sq (dn [kP] (jf ?_))
       cases hm;exact hM
      refine sq (rg (s1 2 [(97,.pv (abu a0)),(96,.ptr 0 3)] (dv 98 (v:=aI ((sll a0.B).length:Int)) (zP za a0.B t23 hJ) hJ (fq 1 [jL,(15,aR 5 1 0),(adS a0),(99,aI 0)] (bq ?_)))))
      refine qB (fun mm t H=>(∃ (y48:Int),QL n a0 k46 mm y48=some r∧t=mk 114 [jL,(15,aR 5 1 0),(adS a0),(99,aI y48)]∧H=[.box (zc0 a0) false,bR 5 1 (rI .u8) y13 g15 g17,.box (zc13 x20 x21 x22) false,.box (zc4 x23 x24 x25 x26 x27 x28) false,.box (zc73 y37 y38 a0 y40 y41) false,bR 3 1 (rI .i64) ([]:List Int) 0 0])) (⟨0,hm,rfl,rfl⟩) ?_ ?_
      ·
        rintro _ _ ⟨y48,hm,_⟩;exact nomatch hm
      rintro m49 _ _ ⟨y48,hm,rfl,rfl⟩
      simp only [QL] at hm
      refine sq (dn [jL,(15,aR 5 1 0),(adS a0),(99,aI y48),(100,aB (decide (y48<((sll a0.B).length:Int))))] ?_)
      refine sq ?_
      rcases zf hm with ⟨h50,hm⟩|⟨h50,hm⟩
      ·refine c1 h50 (jg (sq (bq (sq (dn [jL,(15,aR 5 1 0),(17,aI y48),(adS a0),(99,aI y48)] (sq (rgd (shd 3 [(104,aI y48),(103,.pv (abu a0)),(102,.ptr 0 3)] hJ ?_))))))))
       obtain ⟨x51,h52,hm⟩:=bs hm
       refine dvd 105 (v:=.pv (.ptr (abe x51) 0)) (aaA za a0.B .i64 t23 t49 h52 (zU x51) rfl hJ) hJ (shd 4 [(109,aI y48),(108,aR 5 1 0),(107,aI ((zh x51).A)),(106,.pv (.ptr (abe x51) 0))] hJ ?_)
       obtain ⟨x53,h54,hm⟩:=bs hm
       refine dvd 110 (v:=.eptr 5 0 0 1 (0+Int.toNat y48) 0) (abY ([]:List Int) .i64 (n:=0) (id:=5) (esz:=1) t33 t3 h54 hX rfl hJ) hJ (dvd 111 (v:=aI x53) (aba (rI .i64) ([]:List Int) (n:=0) (esz:=1) (j:=y48) (off:=0) (id:=5) t3 rfl h54 hX (Nat.zero_le _) hJ hJ) hJ (shd 1 [(112,aB (((zh x51).A)!=x53))] hJ (find [jL,(15,aR 5 1 0),(adS a0),(99,aI y48),(112,aB (((zh x51).A)!=x53))] rfl hJ hJ ?_)))
       rcases zf hm with ⟨h55,hm⟩|⟨h55,hm⟩
       ·refine c1 h55 (sq (dn [kN] (jf ?_)))
        cases hm;exact hM
       refine c0 h55 (jg (dn [jL,(15,aR 5 1 0),(adS a0),(99,aI (Zk y48))] ?_))
       exact ⟨_,_,ZD [jL,(15,aR 5 1 0),(adS a0),(99,aI (Zk y48))] [.box (zc0 a0) false,bR 5 1 (rI .u8) y13 g15 g17,.box (zc13 x20 x21 x22) false,.box (zc4 x23 x24 x25 x26 x27 x28) false,.box (zc73 y37 y38 a0 y40 y41) false,bR 3 1 (rI .i64) ([]:List Int) 0 0] hJ,⟨(Zk y48),hm,rfl,rfl⟩⟩
      refine c0 h50 (jh ?_)
      exact ⟨(decide (y48<((sll a0.B).length:Int))),y48,hm,rfl,rfl⟩
     refine sq (dn [jL,j7,(15,aR 5 1 0),(77,aI 0),(78,aI 0)] (bq ?_))
     refine qB (fun mm t H=>(aaG n k43 mm=some r∧t=mk 114 [jL,j7,(15,aR 5 1 0),(77,aI 0),(78,aI 0)]∧H=[.box (zc0 a0) false,bR 5 1 (rI .u8) y13 g15 g17,.box (zc13 x20 x21 x22) false,.box (zc4 x23 x24 x25 x26 x27 x28) false,.box (zc73 y37 y38 a0 y40 y41) false,bR 3 1 (rI .i64) ([]:List Int) 0 0])) (⟨hm,rfl,rfl⟩) ?_ ?_
     ·
       rintro _ _ ⟨hm,_⟩;exact nomatch hm
     rintro m56 _ _ ⟨hm,rfl,rfl⟩
     simp only [aaG] at hm
     refine sq (dn [jL,j7,(15,aR 5 1 0),(77,aI 0),(78,aI 0),(79,aB false)] (sq (cF hJ (jh ?_))))
     exact ⟨hm,rfl,rfl⟩
    subst hk42
    refine sq (det [jL,jW,(15,aR 6 1 0)] [.box (zc0 a0) false,bR 5 1 (rI .u8) y13 g15 g17,.box (zc13 x20 x21 x22) false,.box (zc4 x23 x24 x25 x26 x27 x28) false,bR 49 8 za y39 0 0,.box (zc74 y37 y38 a0 y39 y40 y41) false,bR 3 1 (rI .i64) ([]:List Int) 0 0] hJ ?_)
    obtain ⟨k66,hk66,hm⟩:=zt hm
    refine mid (fun t H=>(∃ (y57:jq) (y58:(List Int)) (y59:Int) (y60:Bool) (g62:Nat) (g64:Nat),k66 y58=some r∧t=mk 114 [jL,jW,(15,aR 6 1 g64),(aiQ y39),(78,aI y59),(79,aB y60)]∧H=[.box (zc0 a0) false,bR 5 1 (rI .u8) y13 g15 g17,.box (zc13 x20 x21 x22) false,.box (zc4 x23 x24 x25 x26 x27 x28) false,bR 49 8 za y57 g62 0,.box (zc74 y37 y38 a0 y39 y40 y41) false,bR 3 1 (rI .i64) y58 0 0]∧y57.length=y39.length∧g62≤y57.length∧y58.length=g64)) ?_ ?_
    ·rintro _ _ ⟨y57,y58,y59,y60,g62,g64,hm,rfl,rfl,q61,q63,q65⟩
     subst hk66
     obtain ⟨k69,hk69,hm⟩:=zt hm
     refine mid (fun t H=>(∃ (y67:Bool) (y68:Int),k69 ()=some r∧t=mk 114 [jL,(15,aR 6 1 g64),(adS a0),(99,aI y68),(100,aB y67)]∧H=[.box (zc0 a0) false,bR 5 1 (rI .u8) y13 g15 g17,.box (zc13 x20 x21 x22) false,.box (zc4 x23 x24 x25 x26 x27 x28) false,bR 49 8 za y57 g62 0,.box (zc74 y37 y38 a0 y39 y40 y41) false,bR 3 1 (rI .i64) y58 0 0])) ?_ ?_
     ·rintro _ _ ⟨y67,y68,hm,rfl,rfl⟩
      subst hk69
      refine sq (dn [kP] (jf ?_))
      cases hm;exact hM
     refine sq (rg (s1 2 [(97,.pv (abu a0)),(96,.ptr 0 3)] (dv 98 (v:=aI ((sll a0.B).length:Int)) (zP za a0.B t23 hJ) hJ (fq 1 [jL,(15,aR 6 1 g64),(adS a0),(99,aI 0)] (bq ?_)))))
     refine qB (fun mm t H=>(∃ (y71:Int),ZX n a0 y58 k69 mm y71=some r∧t=mk 114 [jL,(15,aR 6 1 g64),(adS a0),(99,aI y71)]∧H=[.box (zc0 a0) false,bR 5 1 (rI .u8) y13 g15 g17,.box (zc13 x20 x21 x22) false,.box (zc4 x23 x24 x25 x26 x27 x28) false,bR 49 8 za y57 g62 0,.box (zc74 y37 y38 a0 y39 y40 y41) false,bR 3 1 (rI .i64) y58 0 0])) (⟨0,hm,rfl,rfl⟩) ?_ ?_
     ·
       rintro _ _ ⟨y71,hm,_⟩;exact nomatch hm
     rintro m72 _ _ ⟨y71,hm,rfl,rfl⟩
     simp only [ZX] at hm
     refine sq (dn [jL,(15,aR 6 1 g64),(adS a0),(99,aI y71),(100,aB (decide (y71<((sll a0.B).length:Int))))] ?_)
     refine sq ?_
     rcases zf hm with ⟨h73,hm⟩|⟨h73,hm⟩
     ·refine c1 h73 (jg (sq (bq (sq (dn [jL,(15,aR 6 1 g64),(17,aI y71),(adS a0),(99,aI y71)] (sq (rgd (shd 3 [(104,aI y71),(103,.pv (abu a0)),(102,.ptr 0 3)] hJ ?_))))))))
      obtain ⟨x74,h75,hm⟩:=bs hm
      refine dvd 105 (v:=.pv (.ptr (abe x74) 0)) (aaA za a0.B .i64 t23 t49 h75 (zU x74) rfl hJ) hJ (shd 4 [(109,aI y71),(108,aR 6 1 g64),(107,aI ((zh x74).A)),(106,.pv (.ptr (abe x74) 0))] hJ ?_)
      obtain ⟨x76,h77,hm⟩:=bs hm
      refine dvd 110 (v:=.eptr 6 0 g64 1 (0+Int.toNat y71) 0) (abY y58 .i64 (n:=g64) (id:=6) (esz:=1) t33 t3 h77 hZ rfl hJ) hJ (dvd 111 (v:=aI x76) (aba (rI .i64) y58 (n:=g64) (esz:=1) (j:=y71) (off:=0) (id:=6) t3 rfl h77 hZ (Nat.zero_le _) hJ hJ) hJ (shd 1 [(112,aB (((zh x74).A)!=x76))] hJ (find [jL,(15,aR 6 1 g64),(adS a0),(99,aI y71),(112,aB (((zh x74).A)!=x76))] rfl hJ hJ ?_)))
      rcases zf hm with ⟨h78,hm⟩|⟨h78,hm⟩
      ·refine c1 h78 (sq (dn [kN] (jf ?_)))
       cases hm;exact hM
      refine c0 h78 (jg (dn [jL,(15,aR 6 1 g64),(adS a0),(99,aI (Zk y71))] ?_))
      exact ⟨_,_,ZD [jL,(15,aR 6 1 g64),(adS a0),(99,aI (Zk y71))] [.box (zc0 a0) false,bR 5 1 (rI .u8) y13 g15 g17,.box (zc13 x20 x21 x22) false,.box (zc4 x23 x24 x25 x26 x27 x28) false,bR 49 8 za y57 g62 0,.box (zc74 y37 y38 a0 y39 y40 y41) false,bR 3 1 (rI .i64) y58 0 0] hJ,⟨(Zk y71),hm,rfl,rfl⟩⟩
     refine c0 h73 (jh ?_)
     exact ⟨(decide (y71<((sll a0.B).length:Int))),y71,hm,rfl,rfl⟩
    refine sq (rg (s1 2 [(76,aR 4 8 y39.length),(75,.ptr 5 3)] (dv 77 (v:=aI (y39.length:Int)) (ase y39 (n:=y39.length) (id:=4) (esz:=8) t23 rfl hJ) hJ (fq 1 [jL,jW,(15,aR 6 1 0),(aiQ y39),(78,aI 0)] (bq ?_)))))
    refine qB (fun mm t H=>(∃ (y87:jq) (y88:(List Int)) (y89:Int) (g91:Nat) (g93:Nat),qz n a0 y39 k66 mm y87 y88 y89=some r∧t=mk 114 [jL,jW,(15,aR 6 1 g93),(aiQ y39),(78,aI y89)]∧H=[.box (zc0 a0) false,bR 5 1 (rI .u8) y13 g15 g17,.box (zc13 x20 x21 x22) false,.box (zc4 x23 x24 x25 x26 x27 x28) false,bR 49 8 za y87 g91 0,.box (zc74 y37 y38 a0 y39 y40 y41) false,bR 3 1 (rI .i64) y88 0 0]∧y87.length=y39.length∧g91≤y87.length∧y88.length=g93)) (⟨y39,([]:List Int),0,0,0,hm,rfl,rfl,hX,hY,hX⟩) ?_ ?_
    ·
      rintro _ _ ⟨y87,y88,y89,g91,g93,hm,_⟩;exact nomatch hm
    rintro m95 _ _ ⟨y87,y88,y89,g91,g93,hm,rfl,rfl,q90,q92,q94⟩
    simp only [qz] at hm
    refine sq (dn [jL,jW,(15,aR 6 1 g93),(aiQ y39),(78,aI y89),(79,aB (decide (y89<(y39.length:Int))))] ?_)
    refine sq ?_
    rcases zf hm with ⟨h96,hm⟩|⟨h96,hm⟩
    ·refine c1 h96 (jg (sq (bq (sq (dn [jL,jW,(15,aR 6 1 g93),(16,aI y89),(aiQ y39),(78,aI y89)] (sq (rg (s1 4 [(84,aI y89),(83,.pv (abu a0)),(82,.ptr 0 3),(81,aR 6 1 g93)] ?_))))))))
     obtain ⟨x97,h98,hm⟩:=bs hm
     refine dv 85 (v:=.pv (.ptr (abe x97) 0)) (aaA za a0.B .i64 t23 t49 h98 (zU x97) rfl hJ) hJ (st 3 [(88,aR 7 1 1),(87,aI ((zh x97).A)),(86,.pv (.ptr (abe x97) 0))] [.box (zc0 a0) false,bR 5 1 (rI .u8) y13 g15 g17,.box (zc13 x20 x21 x22) false,.box (zc4 x23 x24 x25 x26 x27 x28) false,bR 49 8 za y87 g91 0,.box (zc74 y37 y38 a0 y39 y40 y41) false,bR 3 1 (rI .i64) y88 0 0,bR 3 1 (rI .i64) ([(zh x97).A]:List Int) 0 0] hJ ?_)
     obtain ⟨_,h99,hm⟩:=bs hm
     refine dO [(89,aR 6 1 ((y88++([(zh x97).A]:List Int)).length))] [.box (zc0 a0) false,bR 5 1 (rI .u8) y13 g15 g17,.box (zc13 x20 x21 x22) false,.box (zc4 x23 x24 x25 x26 x27 x28) false,bR 49 8 za y87 g91 0,.box (zc74 y37 y38 a0 y39 y40 y41) false,bR 3 1 (rI .i64) (aod y88 x97) 0 0,bR 3 1 (rI .i64) ([(zh x97).A]:List Int) 0 0] (ZF (u:=0) (n:=g93) (id:=6) (rI .i64) y88 ([(zh x97).A]:List Int) (b:=8) t33 t3 rfl rfl rfl (fun _=>rfl) rfl h99 rfl hZ (Nat.zero_le _) (show zT (aR 7 1 1) _=some (([(zh x97).A]:List Int).map (rI .i64)) from by kernel_rfl) hJ) hJ (fq 1 [jL,jW,(apW y88 x97),(16,aI y89),(aiQ y39),(78,aI y89)] (rg (s1 3 [(92,aI y89),(91,aR 4 8 y39.length),(90,.ptr 5 3)] ?_)))
     obtain ⟨x100,h101,hm⟩:=bs hm
     refine dv 93 (v:=.eptr 4 0 y39.length 8 (0+Int.toNat y89) 0) (abY y87 .i64 (n:=y39.length) (id:=4) (esz:=8) t23 t49 h101 hZ rfl hJ) hJ (s1 1 [(94,.eptr 4 0 y39.length 8 (0+Int.toNat y89) 0)] (dO [] [.box (zc0 a0) false,bR 5 1 (rI .u8) y13 g15 g17,.box (zc13 x20 x21 x22) false,.box (zc4 x23 x24 x25 x26 x27 x28) false,bR 49 8 za (aq6 y87 y89 x100) y39.length 0,.box (zc74 y37 y38 a0 y39 y40 y41) false,bR 3 1 (rI .i64) (aod y88 x97) 0 0,bR 3 1 (rI .i64) ([(zh x97).A]:List Int) 0 0] (asc za y87 (zy (zk.mk (-3) ((zh x100).K) ((zh x100).M) ((zh x100).D) ((zh x100).I))) (n:=y39.length) (esz:=8) (v:=aI (-3)) (j:=y89) (off:=0) (id:=4) t3 rfl h101 hZ hZ rfl rfl rfl (zU x100) rfl hJ) hJ (fin [jL,jW,(apW y88 x97),(aiQ y39),(78,aI y89)] rfl hJ (dn [jL,jW,(apW y88 x97),(aiQ y39),(78,aI (Zk y89))] ?_))))
     exact ⟨_,_,ZD [jL,jW,(apW y88 x97),(aiQ y39),(78,aI (Zk y89))] [.box (zc0 a0) false,bR 5 1 (rI .u8) y13 g15 g17,.box (zc13 x20 x21 x22) false,.box (zc4 x23 x24 x25 x26 x27 x28) false,bR 49 8 za (aq6 y87 y89 x100) y39.length 0,.box (zc74 y37 y38 a0 y39 y40 y41) false,bR 3 1 (rI .i64) (aod y88 x97) 0 0] hJ,⟨(aq6 y87 y89 x100),(aod y88 x97),(Zk y89),y39.length,(aod y88 x97).length,hm,rfl,rfl,hX,hY,hX⟩⟩
    refine c0 h96 (jh ?_)
    exact ⟨y87,y88,y89,(decide (y89<(y39.length:Int))),g91,g93,hm,rfl,rfl,hX,hY,hX⟩
   refine rg (s1 1 [(72,.agg (zc0 a0))] ?_)
   obtain ⟨x108,h102,hm⟩:=bs hm
   rcases x108 with ⟨x103,x104,_|x105,x106,x107⟩
   ·obtain ⟨vv,H1,hC,rfl,rfl⟩:=ahV h102
    refine dO [(73,.agg (zc73 x103 x104 a0 x106 x107))] [.box (zc0 a0) false,bR 5 1 (rI .u8) y13 g15 g17,.box (zc13 x20 x21 x22) false,.box (zc4 x23 x24 x25 x26 x27 x28) false] (ah3 [] [.agg (zc0 a0)] (v':=.agg (zc73 x103 x104 a0 x106 x107)) (bs':=[]) hJ hJ hJ hC (by simp [AV.flat,AV.flat2,AV.flat1,apP]) hJ hJ) hJ (stf 2 [jL,j7] [.box (zc0 a0) false,bR 5 1 (rI .u8) y13 g15 g17,.box (zc13 x20 x21 x22) false,.box (zc4 x23 x24 x25 x26 x27 x28) false,.box (zc73 x103 x104 a0 x106 x107) false] hJ ?_)
    exact .inl ⟨x103,x104,x106,x107,hm,rfl,rfl⟩
   obtain ⟨vv,H1,hC,rfl,rfl⟩:=ahV h102
   refine dO [(73,.agg (zc74 x103 x104 a0 x105 x106 x107))] [.box (zc0 a0) false,bR 5 1 (rI .u8) y13 g15 g17,.box (zc13 x20 x21 x22) false,.box (zc4 x23 x24 x25 x26 x27 x28) false,bR 49 8 za x105 0 0] (ah3 [] [.agg (zc0 a0)] (v':=.agg (zc74 x103 x104 a0 x105 x106 x107)) (bs':=[bR 49 8 za x105 0 0]) hJ hJ hJ hC (by simp [AV.flat,AV.flat2,AV.flat1,apP]) hJ hJ) hJ (stf 2 [jL,jW] [.box (zc0 a0) false,bR 5 1 (rI .u8) y13 g15 g17,.box (zc13 x20 x21 x22) false,.box (zc4 x23 x24 x25 x26 x27 x28) false,bR 49 8 za x105 0 0,.box (zc74 x103 x104 a0 x105 x106 x107) false] hJ ?_)
   exact .inr (⟨x103,x104,x105,x106,x107,hm,rfl,rfl⟩)
  refine rg (s1 1 [(47,.agg (zc0 a0))] ?_)
  obtain ⟨x110,h109,hm⟩:=bs hm
  obtain ⟨vv,H1,hC,g111,q112,rfl,rfl⟩:=ajE h109
  refine dR [(48,aR 1 1 x110.length)] [.box (zc0 a0) false,bR 5 1 (rI .u8) x110 g111 0] [] [.pv .nils,.agg (zc0 a0)] hJ hJ hJ hC hJ (s1 1 [(49,.pv (zg (rI .u8) a2))] ?_)
  rcases zf hm with ⟨h113,hm⟩|⟨h113,hm⟩
  ·obtain ⟨_,h114,hm⟩:=bs hm
   refine dv 50 (v:=aR 1 1 x110.length) (afG (u:=0) (y:=.pv (zg (rI .u8) a2)) (n:=x110.length) (id:=1) (rI .u8) x110 (sll a2) (b:=1) t29 t5 rfl rfl rfl h113 h114 rfl rfl hZ (afP (R:=(rI .u8)) (s:=a2)) hJ) hJ ?_
   obtain ⟨_,h115,hm⟩:=bs hm
   obtain ⟨vv,H1,hC,rfl,rfl⟩:=ahX h115
   refine dO [(51,.ptr 2 0)] [.box (zc0 a0) false,bR 5 1 (rI .u8) x110 g111 (max 0 (x110.map (rI .u8)).length),.box [aB true,.pv (zg (rI .u8) (some x110)),aI 0] false] (ah3 [1] [aR 1 1 x110.length] (v':=.ptr 2 0) (bs':=[.box [aB true,.pv (zg (rI .u8) (some x110)),aI 0] false]) hJ hJ (zK (agU (zB (n:=x110.length) (id:=1) (l:=x110) (R:=(rI .u8)) rfl rfl hZ)) (rfl)) hC hJ hJ hJ) hJ (fq 1 [(adg a2),jL,kq] ?_)
   exact ⟨x110,(some x110),g111,(max 0 (x110.map (rI .u8)).length),hm,rfl,rfl,hY⟩
  obtain ⟨_,h116,hm⟩:=bs hm
  refine dO [(50,aR 1 1 ((x110++(sll a2)).length))] [.box (zc0 a0) false,bR 5 1 (rI .u8) (x110++(sll a2)) g111 0] (ZF (u:=0) (n:=x110.length) (id:=1) (rI .u8) x110 (sll a2) (b:=1) t29 t5 rfl rfl rfl (fun _=>rfl) h113 h116 rfl rfl hZ (afP (R:=(rI .u8)) (s:=a2)) hJ) hJ ?_
  obtain ⟨_,h117,hm⟩:=bs hm
  obtain ⟨vv,H1,hC,rfl,rfl⟩:=ahX h117
  refine dO [(51,.ptr 2 0)] [.box (zc0 a0) false,bR 5 1 (rI .u8) (x110++(sll a2)) g111 (max 0 ((x110++(sll a2)).map (rI .u8)).length),.box [aB true,.pv (zg (rI .u8) (some (x110++(sll a2)))),aI 0] false] (ah3 [1] [aR 1 1 ((x110++(sll a2)).length)] (v':=.ptr 2 0) (bs':=[.box [aB true,.pv (zg (rI .u8) (some (x110++(sll a2)))),aI 0] false]) hJ hJ (zK (agU (zB (n:=(x110++(sll a2)).length) (id:=1) (l:=(x110++(sll a2))) (R:=(rI .u8)) rfl rfl hY)) (rfl)) hC hJ hJ hJ) hJ (fq 1 [(adg a2),jL,kq] ?_)
  exact ⟨(x110++(sll a2)),(some (x110++(sll a2))),g111,(max 0 ((x110++(sll a2)).map (rI .u8)).length),hm,rfl,rfl,hY⟩
 refine sq (rg (s1 2 [(ai8 a0),(28,.ptr 0 0)] (dv 30 (v:=aI ((sll a0.E).length:Int)) (zP rS a0.E t22 hJ) hJ (fq 1 [(zp81 a1),(adg a2),jL,(ai8 a0),(ajX a0),(31,aI 0)] (bq ?_)))))
 refine qB (fun mm t H=>(∃ (y119:Int),qj n a0 k9 mm y119=some r∧t=mk 114 [(zp81 a1),(adg a2),jL,(ai8 a0),(ajX a0),(31,aI y119)]∧H=[.box (zc0 a0) false])) (⟨0,hm,rfl,rfl⟩) ?_ ?_
 ·
   rintro _ _ ⟨y119,hm,_⟩;exact nomatch hm
 rintro m120 _ _ ⟨y119,hm,rfl,rfl⟩
 simp only [qj] at hm
 refine sq (dn [(zp81 a1),(adg a2),jL,(ai8 a0),(ajX a0),(31,aI y119),(32,aB (decide (y119<((sll a0.E).length:Int))))] ?_)
 refine sq ?_
 rcases zf hm with ⟨h121,hm⟩|⟨h121,hm⟩
 ·refine c1 h121 (jg (sq (bq (sq (rg ?_)))))
  obtain ⟨x122,h123,hm⟩:=bs hm
  refine dv 33 (v:=.pv (.ptr (rS x122) 0)) (qo rS a0.E .i64 t22 t9 h123 rfl hJ) hJ (fq 2 [(zp81 a1),(adg a2),jL,(8,aS x122),(ai8 a0),(ajX a0),(31,aI y119)] (sq (rg (s1 1 [(35,aS x122)] ?_))))
  obtain ⟨x124,h125,hm⟩:=bs hm
  refine dv 36 (zR hJ (amc h125) hJ hJ hJ) hJ (fq 1 [(zp81 a1),(adg a2),jL,(ai8 a0),(ajX a0),(31,aI y119),(37,aB (!x124))] ?_)
  rcases zf hm with ⟨h126,hm⟩|⟨h126,hm⟩
  ·refine c1 h126 (sq (dn [kP] (jf ?_)))
   cases hm;exact hM
  refine c0 h126 (jg (dn [(zp81 a1),(adg a2),jL,(ai8 a0),(ajX a0),(31,aI (Zk y119))] ?_))
  exact ⟨_,_,ZD [(zp81 a1),(adg a2),jL,(ai8 a0),(ajX a0),(31,aI (Zk y119))] [.box (zc0 a0) false] hJ,⟨(Zk y119),hm,rfl,rfl⟩⟩
 refine c0 h121 (jh ?_)
 exact ⟨y119,(decide (y119<((sll a0.E).length:Int))),hm,rfl,rfl⟩
end Go.Ab.S1
