import Derived.Test.YtejbcaheoloahaaGreatWB2
noncomputable section
namespace Go.Ab.S1
open Go Go.Ab Go.Pl
open Go.Proofs.Tryz
set_option linter.all false
set_option maxRecDepth 100000
theorem afg {rc_plan_walk_plan_Applied_1:(Nat→zh→Option (jl))}(ih_plan_walk_plan_Applied_1:∀ {n:Nat}{a0:zh}{r:jl}(hm:rc_plan_walk_plan_Applied_1 n a0=some r),∃ vv H1,call G n 123 [.agg [aI a0.A,aI a0.C,.pv (zk za a0.H),.pv (zk za a0.J),.pv (zk za a0.L),.pv (zk za a0.E),.pv (zk zl a0.D),.pv (zk zx a0.G),.pv (zk zA a0.B)],kT] [jy]=some (.ret vv,H1)∧(match (generalizing:=false) r with|none=>(vv=.tup []∧H1=[jy])|some r0=>(∃ (e1:Nat) (e2:Nat),r0.length=e1∧e2≤r0.length∧vv=.tup []∧H1=[.box [aR 1 8 e1] false,bR 49 8 za r0 e2 0]))) {n:Nat}{a0:zh}{r:jl}(hm:qQ rc_plan_walk_plan_Applied_1 n a0=some r):
   ∃ vv H1,call G n 123 [.agg (zc2 a0),kT] [jy]=some (.ret vv,H1)∧(match (generalizing:=false) r with|none=>(vv=.tup []∧H1=[jy])|some r0=>(∃ (e1:Nat) (e2:Nat),r0.length=e1∧e2≤r0.length∧vv=.tup []∧H1=[.box [aR 1 8 e1] false,bR 49 8 za r0 e2 0])):=by
 unfold qQ at hm
 obtain ⟨n,rfl,h0⟩:=zp hm
 replace hm:=h0;clear h0
 refine QM 20 [(0,.agg (zc2 a0)),aas] func123 rfl hH (sq (det [aas,jB] [jy,.box (zc2 a0) false] hH ?_))
 obtain ⟨k8,hk8,hm⟩:=zo hm
 refine mid (fun t H=>(∃ (w1:AV) (w2:AV),k8 none=some r∧t=mk 20 [aas,jB,(zp97 a0),(zp98 a0),(9,w1),(10,w2)]∧H=[jy,.box (zc2 a0) false])∨(∃ (y3:jm) (w1:AV) (w2:AV) (g4:Nat) (g6:Nat),k8 (some y3)=some r∧t=mk 20 [aas,jB,(zp97 a0),(zp98 a0),(9,w1),(10,w2)]∧H=[.box [aR 2 8 g4] false,.box (zc2 a0) false,bR 49 8 za y3 g6 0]∧y3.length=g4∧g6≤y3.length)) ?_ ?_
 ·rintro _ _ (⟨w1,w2,hm,rfl,rfl⟩|⟨y3,w1,w2,g4,g6,hm,rfl,rfl,q5,q7⟩)
  ·subst hk8
   refine rg (s1 2 [(18,.agg (zc2 a0)),(17,kT)] ?_)
   obtain ⟨x11,h9,hm⟩:=bs hm
   rcases x11 with _|x10
   ·obtain ⟨vv,H1,hC,rfl,rfl⟩:=agb h9
    refine dR [(19,.tup [])] [jy,.box (zc2 a0) false] [0] [.agg (zc2 a0),.ptr 0 0] hH hH hH hC hH (fin [] rfl hH ?_)
    obtain rfl:=jf hm
    exact ⟨trivial,.tup [],[jy],hH,rfl,rfl⟩
   obtain ⟨vv,H1,hC,g12,g13,q14,q15,rfl,rfl⟩:=agb h9
   refine dR [(19,.tup [])] [.box [aR 2 8 g12] false,.box (zc2 a0) false,bR 49 8 za x10 g13 0] [0] [.agg (zc2 a0),.ptr 0 0] hH hH hH hC hH (fin [] rfl hH ?_)
   obtain rfl:=jf hm
   exact ⟨trivial,.tup [],[.box [aR 1 8 g12] false,bR 49 8 za x10 g13 0],hH,g12,g13,hM,hN,rfl,rfl⟩
  subst hk8
  refine rg (s1 2 [(18,.agg (zc2 a0)),(17,kT)] ?_)
  obtain ⟨x17,h16,hm⟩:=bs hm
  obtain ⟨vv,H1,hC,g18,g19,q20,q21,rfl,rfl⟩:=afj g4 g6 hM hN h16
  refine dR [(19,.tup [])] [.box [aR 2 8 g18] false,.box (zc2 a0) false,bR 49 8 za x17 g19 0] [0,2] [.agg (zc2 a0),.ptr 0 0] hH hH hH hC hH (fin [] rfl hH ?_)
  obtain rfl:=jf hm
  exact ⟨trivial,.tup [],[.box [aR 1 8 g18] false,bR 49 8 za x17 g19 0],hH,g18,g19,hM,hN,rfl,rfl⟩
 refine sq (rg (s1 2 [(zp97 a0),(6,.ptr 1 8)] (dv 8 (v:=aI (ahp a0)) (zu zA a0.B t64 hH) hH (fq 1 [aas,jB,(zp97 a0),(zp98 a0),(9,aI 0)] (bq ?_)))))
 refine ZR (fun mm t H=>(∃ (y29:Int),zG n rc_plan_walk_plan_Applied_1 a0 k8 mm none y29=some r∧t=mk 20 [aas,jB,(zp97 a0),(zp98 a0),(9,aI y29)]∧H=[jy,.box (zc2 a0) false])∨(∃ (y28:jm) (y29:Int) (g30:Nat) (g32:Nat),zG n rc_plan_walk_plan_Applied_1 a0 k8 mm (some y28) y29=some r∧t=mk 20 [aas,jB,(zp97 a0),(zp98 a0),(9,aI y29)]∧H=[.box [aR 2 8 g30] false,.box (zc2 a0) false,bR 49 8 za y28 g32 0]∧y28.length=g30∧g32≤y28.length)) (.inl ⟨0,hm,rfl,rfl⟩) ?_ ?_
 ·
   rintro _ _ (⟨y29,hm,_⟩|⟨y28,y29,g30,g32,hm,_⟩)<;>exact nomatch hm
 rintro m34 _ _ (⟨y29,hm,rfl,rfl⟩|⟨y28,y29,g30,g32,hm,rfl,rfl,q31,q33⟩)
 ·simp only [zG] at hm
  refine sq (dn [aas,jB,(zp97 a0),(zp98 a0),(9,aI y29),(zp99 y29 a0)] ?_)
  refine sq ?_
  rcases zd hm with ⟨h,hm⟩|⟨h,hm⟩
  ·refine c1 h (jd (sq (bq (sq (rg ?_)))))
   obtain ⟨x36,h37,hm⟩:=bs hm
   refine dv 11 (v:=.pv (.ptr (acQ x36) 0)) (zS zA a0.B .i64 t64 t66 h37 (Zd x36) rfl hH) hH (stf 3 [aas,jB,(5,.ptr 2 0),(zp97 a0),(zp98 a0),(9,aI y29)] [jy,.box (zc2 a0) false,.box (zc3 x36) false] hH (rg (s1 2 [(14,kT),(13,.agg (zc3 x36))] ?_)))
   obtain ⟨x40,h38,hm⟩:=bs hm
   rcases x40 with _|x39
   ·obtain ⟨vv,H1,hC,rfl,rfl⟩:=ih_plan_walk_plan_Applied_1 h38
    refine dR [(15,.tup [])] [jy,.box (zc2 a0) false,.box (zc3 x36) false] [0] [.agg (zc3 x36),kT] hH hH hH hC hH (fin [aas,jB,(zp97 a0),(zp98 a0),(9,aI y29)] rfl hH (dn [aas,jB,(zp97 a0),(zp98 a0),(aen y29)] ?_))
    exact ⟨_,_,Zg [aas,jB,(zp97 a0),(zp98 a0),(aen y29)] [jy,.box (zc2 a0) false] hH,.inl ⟨(zN y29),hm,rfl,rfl⟩⟩
   obtain ⟨vv,H1,hC,g41,g42,q43,q44,rfl,rfl⟩:=ih_plan_walk_plan_Applied_1 h38
   refine dR [(15,.tup [])] [.box [aR 3 8 g41] false,.box (zc2 a0) false,.box (zc3 x36) false,bR 49 8 za x39 g42 0] [0] [.agg (zc3 x36),kT] hH hH hH hC hH (fin [aas,jB,(zp97 a0),(zp98 a0),(9,aI y29)] rfl hH (dn [aas,jB,(zp97 a0),(zp98 a0),(aen y29)] ?_))
   exact ⟨_,_,Zg [aas,jB,(zp97 a0),(zp98 a0),(aen y29)] [.box [aR 2 8 g41] false,.box (zc2 a0) false,bR 49 8 za x39 g42 0] hH,.inr (⟨x39,(zN y29),g41,g42,hm,rfl,rfl,hM,hN⟩)⟩
  refine c0 h (je ?_)
  exact .inl ⟨aI y29,aB (afm y29 a0),hm,(zD hH),rfl⟩
 simp only [zG] at hm
 refine sq (dn [aas,jB,(zp97 a0),(zp98 a0),(9,aI y29),(zp99 y29 a0)] ?_)
 refine sq ?_
 rcases zd hm with ⟨h,hm⟩|⟨h,hm⟩
 ·refine c1 h (jd (sq (bq (sq (rg ?_)))))
  obtain ⟨x46,h47,hm⟩:=bs hm
  refine dv 11 (v:=.pv (.ptr (acQ x46) 0)) (zS zA a0.B .i64 t64 t66 h47 (Zd x46) rfl hH) hH (stf 3 [aas,jB,(5,.ptr 3 0),(zp97 a0),(zp98 a0),(9,aI y29)] [.box [aR 2 8 g30] false,.box (zc2 a0) false,bR 49 8 za y28 g32 0,.box (zc3 x46) false] hH (rg (s1 2 [(14,kT),(13,.agg (zc3 x46))] ?_)))
  obtain ⟨x49,h48,hm⟩:=bs hm
  obtain ⟨vv,H1,hC,g50,g51,q52,q53,rfl,rfl⟩:=ae7 g30 g32 hM hN h48
  refine dR [(15,.tup [])] [.box [aR 2 8 g50] false,.box (zc2 a0) false,bR 49 8 za x49 g51 0,.box (zc3 x46) false] [0,2] [.agg (zc3 x46),kT] hH hH hH hC hH (fin [aas,jB,(zp97 a0),(zp98 a0),(9,aI y29)] rfl hH (dn [aas,jB,(zp97 a0),(zp98 a0),(aen y29)] ?_))
  exact ⟨_,_,Zg [aas,jB,(zp97 a0),(zp98 a0),(aen y29)] [.box [aR 2 8 g50] false,.box (zc2 a0) false,bR 49 8 za x49 g51 0] hH,.inr (⟨x49,(zN y29),g50,g51,hm,rfl,rfl,hM,hN⟩)⟩
 refine c0 h (je ?_)
 exact .inr (⟨y28,aI y29,aB (afm y29 a0),g30,g32,hm,(zD hH),rfl,hM,hN⟩)
theorem abJ:∀ (m:Nat),∀ {n:Nat}{a0:zh}{r:jl}(hm:Z1 m n a0=some r),∃ vv H1,call G n 123 [.agg (zc2 a0),kT] [jy]=some (.ret vv,H1)∧(match (generalizing:=false) r with|none=>(vv=.tup []∧H1=[jy])|some r0=>(∃ (e1:Nat) (e2:Nat),r0.length=e1∧e2≤r0.length∧vv=.tup []∧H1=[.box [aR 1 8 e1] false,bR 49 8 za r0 e2 0]))
 |0=>by intros;rename_i hm;exact nomatch hm
 |m+1=>fun hm=>
  afg (abJ m) hm
theorem ab1 {n:Nat}{a0:zh}{r:jl}(hm:aaR n a0=some r):
 ∃ vv H1,call G n 123 [.agg (zc2 a0),kT] [jy]=some (.ret vv,H1)∧(match (generalizing:=false) r with|none=>(vv=.tup []∧H1=[jy])|some r0=>(∃ (e1:Nat) (e2:Nat),r0.length=e1∧e2≤r0.length∧vv=.tup []∧H1=[.box [aR 1 8 e1] false,bR 49 8 za r0 e2 0])):=abJ n hm
theorem amc {n:Nat}{a0:zh}{r:jl}(hm:abo n a0=some r):
   call G n 34 [.agg (zc2 a0)] []=some (.ret (.pv (zk za r)),[]):=by
 unfold abo at hm
 obtain ⟨n,rfl,h0⟩:=zp hm
 replace hm:=h0;clear h0
 refine zT 8 [(0,.agg (zc2 a0))] func34 rfl hH (sq (det [jA] [.box (zc2 a0) false] hH (sq (det [jA,jC] [.box (zc2 a0) false,jy] hH (sq (rg (s1 2 [(5,.fn 124 [] [.ptr 1 0]),(4,.agg (zc2 a0))] ?_)))))))
 obtain ⟨x3,h1,hm⟩:=bs hm
 rcases x3 with _|x2
 ·obtain ⟨vv,H1,hC,rfl,rfl⟩:=ab1 h1
  refine dR [(6,.tup [])] [.box (zc2 a0) false,jy] [1] [.agg (zc2 a0),.fn 124 [] [.ptr 1 0]] hH hH hH hC hH (fin [jC] rfl hH (sq (dn [j7] (jc ?_))))
  cases hm;exact hJ
 obtain ⟨vv,H1,hC,g4,g5,q6,q7,rfl,rfl⟩:=ab1 h1
 refine dR [(6,.tup [])] [.box (zc2 a0) false,.box [aR 2 8 g4] false,bR 49 8 za x2 g5 0] [1] [.agg (zc2 a0),.fn 124 [] [.ptr 1 0]] hH hH hH hC hH (fin [jC] rfl hH (sq (dn [(2,aR 2 8 g4)] (jc ?_))))
 obtain rfl:=jf hm
 exact aa2 (v:=aR 2 8 g4) trivial rfl hH (afi (abI (n:=g4) (id:=2) (l:=x2) (R:=za) rfl hO hO))
theorem aeV {n:Nat}{a0:jl}{r:jl}(hm:aaL n a0=some r):
   ∃ vv H1,call G n 212 [.pv (ZN a0)] []=some (.ret vv,H1)∧(match (generalizing:=false) r with|none=>(vv=.pv .nils∧H1=[])|some r0=>(∃ (e1:Nat),r0.length=e1∧vv=aR 0 8 e1∧H1=[bR 49 8 za r0 0 0])):=by
 unfold aaL at hm
 obtain ⟨n,rfl,h0⟩:=zp hm
 replace hm:=h0;clear h0
 refine QM 8 [(zp25 a0)] func212 rfl hH (sq (dn [(zp25 a0)] (sq (sq (rg (s1 1 [(3,.pv (ZN a0))] (dv 4 (v:=aB (a0.isNone)) (aq4 za a0 t23 hH) hH (fin [(zp25 a0),(4,aB (a0.isNone))] rfl hH ?_))))))))
 rcases zd hm with ⟨h,hm⟩|⟨h,hm⟩
 ·refine c1 h (sq (dn [j7] (jc ?_)))
  obtain rfl:=jf hm
  exact ⟨trivial,.pv .nils,[],hH,rfl,rfl⟩
 refine c0 h (jd (sq (rg (st 2 [(6,.pv (ZN a0)),(5,aR 0 8 0)] [bR 49 8 za ([]:List zb) 0 0] hH ?_))))
 rcases zd hm with ⟨h,hm⟩|⟨h,hm⟩
 ·obtain ⟨_,h3,hm⟩:=bs hm
  refine dv 7 (v:=aR 0 8 0) (ai4 (u:=0) (y:=.pv (ZN a0)) (n:=0) (id:=0) za ([]:List zb) (sll a0) (b:=88) t23 t49 rfl rfl rfl h h3 rfl hM (Nat.zero_le _) (afh (R:=za) (s:=a0)) hH) hH (fq 1 [(2,aR 0 8 0)] (jc ?_))
  obtain rfl:=jf hm
  exact ⟨trivial,aR 0 8 0,[bR 49 8 za ([]:List zb) 0 0],hH,0,hM,rfl,rfl⟩
 obtain ⟨_,h4,hm⟩:=bs hm
 refine dO [(7,aR 0 8 ((([]:List zb)++(sll a0)).length))] [bR 49 8 za (([]:List zb)++(sll a0)) 0 0] (qV (u:=0) (n:=0) (id:=0) za ([]:List zb) (sll a0) (b:=88) t23 t49 rfl rfl rfl Zi h h4 rfl hM (Nat.zero_le _) (afh (R:=za) (s:=a0)) hH) hH (fq 1 [(2,aR 0 8 ((([]:List zb)++(sll a0)).length))] (jc ?_))
 obtain rfl:=jf hm
 exact ⟨trivial,aR 0 8 ((([]:List zb)++(sll a0)).length),[bR 49 8 za (([]:List zb)++(sll a0)) 0 0],hH,(([]:List zb)++(sll a0)).length,hM,rfl,rfl⟩
abbrev apR (p0:zf):=(((sll p0.B).length:Int)==2)
theorem aob {n:Nat}{a0:zf}{a1:zf}{r:Bool}(hm:adG n a0 a1=some r):
   call G n 215 [.agg (zc7 a0),.agg (zc7 a1)] []=some (.ret (aB r),[]):=by
 unfold adG at hm
 obtain ⟨n,rfl,h0⟩:=zp hm
 replace hm:=h0;clear h0
 refine zT 50 [(0,.agg (zc7 a0)),(1,.agg (zc7 a1))] func215 rfl hH (sq (det [jz,jC] [.box (zc7 a0) false,.box (zc7 a1) false] hH ?_))
 refine sq (sq (rg (s1 2 [(6,.agg (zc7 a1)),(5,.agg (zc7 a0))] ?_)))
 obtain ⟨x1,h2,hm⟩:=bs hm
 refine dv 7 (zC hH (ad4 (fun h=>Z0 h) h2) hH hH hH) hH (fin [jz,jC,(7,aB x1)] rfl hH ?_)
 rcases zd hm with ⟨h3,hm⟩|⟨h3,hm⟩
 ·refine c1 h3 (sq (dn [kx] (jc ?_)))
  cases hm;exact hJ
 refine c0 h3 (jd (sq (rgd (shd 4 [(11,aB (a0.A==7)),(10,aB (a0.A==7)),(9,aI a0.A),jO] hH ?_))))
 rcases zd hm with ⟨h4,hm⟩|⟨h4,hm⟩
 ·refine zM [11,10] h4 hH (shd 5 [(16,aB (a1.A==7)),(15,aB (a1.A==7)),(14,aB (a1.A==7)),(13,aI a1.A),(12,.ptr 1 0)] hH ?_)
  rcases zd hm with ⟨h5,hm⟩|⟨h5,hm⟩
  ·refine zM [16,15,14] h5 hH (shd 2 [(18,.pv (abb a0)),(17,.ptr 0 7)] hH (dvd 19 (v:=aI (afb a0)) (zu za a0.B t23 hH) hH (shd 3 [(22,aB (apR a0)),(21,aB (apR a0)),(20,aB (apR a0))] hH ?_)))
   rcases zd hm with ⟨h6,hm⟩|⟨h6,hm⟩
   ·refine zM [22,21,20] h6 hH (shd 2 [(ahr a1),(23,.ptr 1 7)] hH (dvd 25 (v:=aI (afb a1)) (zu za a1.B t23 hH) hH (shd 3 [(28,aB (apR a1)),(27,aB (apR a1)),(26,aB (apR a1))] hH ?_)))
    rcases zd hm with ⟨h7,hm⟩|⟨h7,hm⟩
    ·refine zM [28,27,26] h7 hH (shd 2 [(30,.pv (abb a0)),(29,.ptr 0 7)] hH ?_)
     obtain ⟨x8,h9,hm⟩:=bs hm
     refine dvd 31 (v:=.pv (.ptr (Z5 x8) 0)) (zS za a0.B .i64 t23 t49 h9 (zt x8) rfl hH) hH (shd 3 [(34,.pv (abb a1)),(33,.ptr 1 7),(32,.agg (zc9 x8))] hH ?_)
     obtain ⟨x10,h11,hm⟩:=bs hm
     refine dvd 35 (v:=.pv (.ptr (Z5 x10) 0)) (zS za a1.B .i64 t23 t49 h11 (zt x10) rfl hH) hH (shd 1 [(36,.agg (zc9 x10))] hH ?_)
     obtain ⟨x12,h13,hm⟩:=bs hm
     refine dvd 37 (zC hH (ad4 (fun h=>Z0 h) h13) hH hH hH) hH (shd 2 [(39,aB x12),(38,aB x12)] hH ?_)
     rcases zd hm with ⟨h14,hm⟩|⟨h14,hm⟩
     ·refine zM [39,38,37] h14 hH (shd 2 [(41,.pv (abb a0)),(40,.ptr 0 7)] hH ?_)
      obtain ⟨x15,h16,hm⟩:=bs hm
      refine dvd 42 (v:=.pv (.ptr (Z5 x15) 0)) (zS za a0.B .i64 t23 t49 h16 (zt x15) rfl hH) hH (shd 3 [(45,.pv (abb a1)),(44,.ptr 1 7),(43,.agg (zc9 x15))] hH ?_)
      obtain ⟨x17,h18,hm⟩:=bs hm
      refine dvd 46 (v:=.pv (.ptr (Z5 x17) 0)) (zS za a1.B .i64 t23 t49 h18 (zt x17) rfl hH) hH (shd 1 [(47,.agg (zc9 x17))] hH ?_)
      obtain ⟨x19,h20,hm⟩:=bs hm
      refine dvd 48 (zC hH (ad4 (fun h=>Z0 h) h20) hH hH hH) hH (shd 2 [(4,aB x19),(49,aB x19)] hH (find [(4,aB x19)] rfl hH hH (jc ?_)))
      cases hm;exact hJ
     refine zM [39,38,37] h14 hH (shd 11 [kn,kL,(48,.undef),(47,.undef),(46,.undef),(45,.undef),(44,.undef),(43,.undef),(42,.undef),(41,.undef),(40,.undef)] hH (find [kn] rfl hH hH (jc ?_)))
     cases hm;exact hJ
    refine zM [28,27,26] h7 hH (shd 22 [kn,kL,(48,.undef),(47,.undef),(46,.undef),(45,.undef),(44,.undef),(43,.undef),(42,.undef),(41,.undef),(40,.undef),ky,kS,(37,.undef),(36,.undef),(35,.undef),(34,.undef),(33,.undef),(32,.undef),(31,.undef),(30,.undef),(29,.undef)] hH (find [kn] rfl hH hH (jc ?_)))
    cases hm;exact hJ
   refine zM [22,21,20] h6 hH (shd 28 [kn,kL,(48,.undef),(47,.undef),(46,.undef),(45,.undef),(44,.undef),(43,.undef),(42,.undef),(41,.undef),(40,.undef),ky,kS,(37,.undef),(36,.undef),(35,.undef),(34,.undef),(33,.undef),(32,.undef),(31,.undef),(30,.undef),(29,.undef),(28,aB false),kG,(26,.undef),(25,.undef),(24,.undef),(23,.undef)] hH (find [kn] rfl hH hH (jc ?_)))
   cases hm;exact hJ
  refine zM [16,15,14] h5 hH (shd 34 [kn,kL,(48,.undef),(47,.undef),(46,.undef),(45,.undef),(44,.undef),(43,.undef),(42,.undef),(41,.undef),(40,.undef),ky,kS,(37,.undef),(36,.undef),(35,.undef),(34,.undef),(33,.undef),(32,.undef),(31,.undef),(30,.undef),(29,.undef),(28,aB false),kG,(26,.undef),(25,.undef),(24,.undef),(23,.undef),(22,aB false),(21,aB false),(20,.undef),(19,.undef),(18,.undef),(17,.undef)] hH (find [kn] rfl hH hH (jc ?_)))
  cases hm;exact hJ
 refine zM [11,10] h4 hH (shd 39 [kn,kL,(48,.undef),(47,.undef),(46,.undef),(45,.undef),(44,.undef),(43,.undef),(42,.undef),(41,.undef),(40,.undef),ky,kS,(37,.undef),(36,.undef),(35,.undef),(34,.undef),(33,.undef),(32,.undef),(31,.undef),(30,.undef),(29,.undef),(28,aB false),kG,(26,.undef),(25,.undef),(24,.undef),(23,.undef),(22,aB false),(21,aB false),(20,.undef),(19,.undef),(18,.undef),(17,.undef),(16,aB false),(15,aB false),(14,.undef),(13,.undef),(12,.undef)] hH (find [kn] rfl hH hH (jc ?_)))
 cases hm;exact hJ
theorem akn {n:Nat}{a0:zf}{a1:Int}{a2:Int}{a3:Int}{a4:Int}{a5:Int}{a6:Nat}{a7:ByteArray}{a8:jl}{r:Bool}(hm:ad1 n a0 a1 a2 a3 a4 a5 a6 a7 a8=some r):
  call G n 214 [.agg (zc7 a0),.pv (.ptr [.int .i64 a1,.int .i64 a2,.int .i64 a3,.int .i64 a4,.int .i64 a5,.flt .f64 a6,.str a7,zk za a8] 0)] []=some (.ret (aB r),[]):=by
 unfold ad1 at hm
 obtain ⟨n,rfl,h0⟩:=zp hm
 replace hm:=h0;clear h0
 refine zT 7 [(0,.agg (zc7 a0)),(1,.pv (.ptr [.int .i64 a1,.int .i64 a2,.int .i64 a3,.int .i64 a4,.int .i64 a5,.flt .f64 a6,.str a7,zk za a8] 0))] func214 rfl hH (sq (det [(1,.pv (.ptr [.int .i64 a1,.int .i64 a2,.int .i64 a3,.int .i64 a4,.int .i64 a5,.flt .f64 a6,.str a7,zk za a8] 0)),jz] [.box (zc7 a0) false] hH (sq (rg (s1 2 [(5,.agg (zc7 a0)),(4,.agg (zc10 a1 a2 a3 a4 a5 a6 a7 a8))] ?_)))))
 obtain ⟨x1,h2,hm⟩:=bs hm
 refine dv 6 (zC hH (aob h2) hH hH hH) hH (fq 1 [(3,aB x1)] (jc ?_))
 cases hm;exact hJ
abbrev ajn (p0:Int) (p1:Int) (p2:Int) (p3:Int) (p4:Int) (p5:Nat) (p6:ByteArray) (p7:jl):Nat×AV:=(1,.pv (.fn 214 [] [.ptr [.int .i64 p0,.int .i64 p1,.int .i64 p2,.int .i64 p3,.int .i64 p4,.flt .f64 p5,.str p6,zk za p7] 0]))
theorem QN {n:Nat}{a0:jl}{a1:Int}{a2:Int}{a3:Int}{a4:Int}{a5:Int}{a6:Nat}{a7:ByteArray}{a8:jl}{r:Int}(hm:ZD n a0 a1 a2 a3 a4 a5 a6 a7 a8=some r):
   call G n 213 [.pv (ZN a0),.pv (.fn 214 [] [.ptr [.int .i64 a1,.int .i64 a2,.int .i64 a3,.int .i64 a4,.int .i64 a5,.flt .f64 a6,.str a7,zk za a8] 0])] []=some (.ret (aI r),[]):=by
 unfold ZD at hm
 obtain ⟨n,rfl,h0⟩:=zp hm
 replace hm:=h0;clear h0
 refine zT 19 [(zp25 a0),(ajn a1 a2 a3 a4 a5 a6 a7 a8)] func213 rfl hH (sq (dn [(zp25 a0),(ajn a1 a2 a3 a4 a5 a6 a7 a8)] ?_))
 obtain ⟨k3,hk3,hm⟩:=zo hm
 refine mid (fun t H=>(∃ (y1:Int) (y2:Bool),k3 ()=some r∧t=mk 19 [(zp25 a0),(ajn a1 a2 a3 a4 a5 a6 a7 a8),(zp80 a0),(8,aI y1),(9,aB y2)]∧H=[])) ?_ ?_
 ·rintro _ _ ⟨y1,y2,hm,rfl,rfl⟩
  subst hk3
  refine sq (dn [(4,aI (-1))] (jc ?_))
  cases hm;exact hJ
 refine sq (rg (s1 1 [(6,.pv (ZN a0))] (dv 7 (v:=aI (aaB a0)) (zu za a0 t23 hH) hH (fq 1 [(zp25 a0),(ajn a1 a2 a3 a4 a5 a6 a7 a8),(zp80 a0),ke] (bq ?_)))))
 refine ZR (fun mm t H=>(∃ (y5:Int),zL n a0 a1 a2 a3 a4 a5 a6 a7 a8 k3 mm y5=some r∧t=mk 19 [(zp25 a0),(ajn a1 a2 a3 a4 a5 a6 a7 a8),(zp80 a0),(8,aI y5)]∧H=[])) (⟨0,hm,rfl,rfl⟩) ?_ ?_
 ·
   rintro _ _ ⟨y5,hm,_⟩;exact nomatch hm
 rintro m6 _ _ ⟨y5,hm,rfl,rfl⟩
 simp only [zL] at hm
 refine sq (dn [(zp25 a0),(ajn a1 a2 a3 a4 a5 a6 a7 a8),(zp80 a0),(8,aI y5),(9,aB (aai y5 a0))] ?_)
 refine sq ?_
 rcases zd hm with ⟨h,hm⟩|⟨h,hm⟩
 ·refine c1 h (jd (sq (bq (sq (dn [(zp25 a0),(ajn a1 a2 a3 a4 a5 a6 a7 a8),(5,aI y5),(zp80 a0),(8,aI y5)] (sq (rg (s1 3 [(13,aI y5),(12,.pv (ZN a0)),(11,.pv (.fn 214 [] [.ptr [.int .i64 a1,.int .i64 a2,.int .i64 a3,.int .i64 a4,.int .i64 a5,.flt .f64 a6,.str a7,zk za a8] 0]))] ?_))))))))
  obtain ⟨x8,h9,hm⟩:=bs hm
  refine dv 14 (v:=.pv (.ptr (Z5 x8) 0)) (zS za a0 .i64 t23 t49 h9 (zt x8) rfl hH) hH (s1 1 [(15,.agg (zc9 x8))] ?_)
  obtain ⟨x10,h11,hm⟩:=bs hm
  refine dv 16 (zC hH (akn h11) hH hH hH) hH (fin [(zp25 a0),(ajn a1 a2 a3 a4 a5 a6 a7 a8),(5,aI y5),(zp80 a0),(8,aI y5),(16,aB x10)] rfl hH ?_)
  rcases zd hm with ⟨h,hm⟩|⟨h,hm⟩
  ·refine c1 h (sq (dn [(4,aI y5)] (jc ?_)))
   cases hm;exact hJ
  refine c0 h (jd (dn [(zp25 a0),(ajn a1 a2 a3 a4 a5 a6 a7 a8),(zp80 a0),(zp41 y5)] ?_))
  exact ⟨_,_,Zg [(zp25 a0),(ajn a1 a2 a3 a4 a5 a6 a7 a8),(zp80 a0),(zp41 y5)] [] hH,⟨(zN y5),hm,rfl,rfl⟩⟩
 refine c0 h (je ?_)
 exact ⟨y5,(aai y5 a0),hm,rfl,rfl⟩
theorem af7 {n:Nat}{a0:Int}{a1:Int}{r:Unit}(hm:aby n a0 a1=some r):
   ∃ vv H1,call G n 216 [.pv .nils,aI a0,aI a1] []=some (.ret vv,H1)∧(vv=.pv .nils∧H1=[]):=by
 unfold aby at hm
 obtain ⟨n,rfl,h0⟩:=zp hm
 replace hm:=h0;clear h0
 refine QM 33 [j6,(1,aI a0),(2,aI a1)] func216 rfl hH (sq (dn [j6,(1,aI a0),(2,aI a1)] (sq (rg (s1 5 [(12,aI 0),j4,(10,aI a1),(9,aI a0),(8,.pv .nils)] ?_)))))
 obtain ⟨_,h1,hm⟩:=bs hm
 obtain ⟨_,h2,hm⟩:=bs hm
 refine dv 13 (v:=.any) (atu (k:=.i64) (k':=.i64) (k2:=.i64) (lo:=a0) (hi:=a1) (mx:=0) (x:=.pv .nils) (xl:=some (aI a0)) (xh:=some (aI a1)) (xm:=some (aI 0)) (n:=0) h1 h2 rfl rfl (.inr rfl) rfl rfl hH) hH (fin [j6,(1,aI a0),(2,aI a1)] rfl hH ?_)
 refine sq (sq (dn [j6,(1,aI a0),(2,aI a1),(16,aB (a0==a1))] ?_))
 rcases zd hm with ⟨h,hm⟩|⟨h,hm⟩
 ·refine c1 h (sq (dn [j3] (jc ?_)))
  obtain rfl:=jf hm
  exact ⟨trivial,.pv .nils,[],hH,rfl,rfl⟩
 refine c0 h (jd (sq (dn [j6,(1,aI a0),(2,aI a1),kg] (sq (rgd (shd 2 [(21,aI a0),(20,.pv .nils)] hH ?_))))))
 obtain ⟨_,h4,hm⟩:=bs hm
 refine dvd 22 (v:=.pv .nils) (aic za (k:=.i64) (k':=.i64) (xl:=none) (xh:=some (aI a0)) (esz:=8) h4 Zi (.inl ⟨rfl,rfl⟩) (.inr rfl) hH) hH (shd 2 [(24,aI a1),(23,.pv .nils)] hH ?_)
 obtain ⟨_,h5,hm⟩:=bs hm
 refine dvd 25 (v:=.pv .nils) (aic za (k:=.i64) (k':=.i64) (xl:=some (aI a1)) (xh:=none) (esz:=8) h5 Zi (.inr rfl) (.inl ⟨rfl,rfl⟩) hH) hH (dvd 26 (v:=.pv .nils) (ala (u:=0) (y:=.pv .nils) za ([]:List zb) t23 t49 rfl rfl rfl (rfl) hH) hH (shd 1 [j6] hH (find [j6,kg] rfl hH hH (sq (rg (s1 4 [(30,aI 0),(29,aI 0),(28,.pv .nils),(27,.pv .nils)] ?_))))))
 obtain ⟨_,h6,hm⟩:=bs hm
 refine dv 31 (v:=.pv .nils) (aic za (k:=.i64) (k':=.i64) (xl:=some (aI 0)) (xh:=some (aI 0)) (esz:=8) h6 Zi (.inr rfl) (.inr rfl) hH) hH (dO [] [] (asn t23 t49 hH) hH (fin [j6] rfl hH (sq (dn [j3] (jc ?_)))))
 obtain rfl:=jf hm
 exact ⟨trivial,.pv .nils,[],hH,rfl,rfl⟩
abbrev auC (p0:jm) (p1:Nat) (p2:Nat):=(p0.take (Int.toNat ((p1:Nat):Int))++(List.replicate (Int.toNat ((p2:Nat):Int)-Int.toNat ((p1:Nat):Int)) (zi (zf.mk 0 0 0 (zn.mk 0 0 0 ByteArray.empty) none))++p0.drop ((Int.toNat ((p1:Nat):Int))+(Int.toNat ((p2:Nat):Int)-Int.toNat ((p1:Nat):Int)))))
abbrev avh (p0:jm) (p1:Int) (p2:Int) (p3:Nat):=(p0.take (Int.toNat p1)++((subL p0 p2 ((p3:Nat):Int))++p0.drop ((Int.toNat p1)+(subL p0 p2 ((p3:Nat):Int)).length)))
theorem af5 (m0:Nat) (f0:Nat) (p2:Nat) {n:Nat}{a0:jm}{a1:Nat}{a2:Int}{a3:Int}{r:jm×Nat}(hm0:a0.length=m0) (hf0:f0≤a0.length) (hp2:a1=p2∧a1≤a0.length) (hm:Qw n a0 a1 a2 a3=some r):
   ∃ vv H1,call G n 216 [.ref 0 0 m0 8 0 a1,aI a2,aI a3] [bR 49 8 za a0 f0 0]=some (.ret vv,H1)∧(match (generalizing:=false) r with|(r0,r1)=>(∃ (e2:Nat),r0.length=m0∧e2≤r0.length∧r1≤r0.length∧vv=.ref 0 0 m0 8 0 r1∧H1=[bR 49 8 za r0 e2 0])):=by
 unfold Qw at hm
 obtain ⟨n,rfl,h0⟩:=zp hm
 replace hm:=h0;clear h0
 refine QM 33 [(0,.ref 0 0 m0 8 0 a1),(1,aI a2),(2,aI a3)] func216 rfl hH (sq (dn [(0,.ref 0 0 m0 8 0 a1),(1,aI a2),(2,aI a3)] (sq (rg (s1 5 [(12,aI ((a1:Nat):Int)),(11,.ref 0 0 m0 8 0 a1),(10,aI a3),(9,aI a2),(8,.ref 0 0 m0 8 0 a1)] ?_)))))
 obtain ⟨_,h1,hm⟩:=bs hm
 obtain ⟨_,h2,hm⟩:=bs hm
 refine dv 13 (v:=.any) (atu (k:=.i64) (k':=.i64) (k2:=.i64) (lo:=a2) (hi:=a3) (mx:=((a1:Nat):Int)) (x:=.ref 0 0 m0 8 0 a1) (xl:=some (aI a2)) (xh:=some (aI a3)) (xm:=some (aI ((a1:Nat):Int))) (n:=a1) h1 h2 rfl rfl (.inr rfl) rfl rfl hH) hH (fin [(0,.ref 0 0 m0 8 0 a1),(1,aI a2),(2,aI a3)] rfl hH ?_)
 refine sq (sq (dn [(0,.ref 0 0 m0 8 0 a1),(1,aI a2),(2,aI a3),(16,aB (a2==a3))] ?_))
 rcases zd hm with ⟨h3,hm⟩|⟨h3,hm⟩
 ·refine c1 h3 (sq (dn [(6,.ref 0 0 m0 8 0 a1)] (jc ?_)))
  obtain rfl:=jf hm
  exact ⟨trivial,.ref 0 0 m0 8 0 a1,[bR 49 8 za a0 f0 0],hH,f0,hM,hN,hM,rfl,rfl⟩
 refine c0 h3 (jd (sq (dn [(0,.ref 0 0 m0 8 0 a1),(1,aI a2),(2,aI a3),(7,aI ((a1:Nat):Int))] ?_)))
 obtain ⟨k10,hk10,hm⟩:=zo hm
 refine mid (fun t H=>(∃ (y4:jm) (y5:Nat) (g7:Nat),k10 y4 y5=some r∧t=mk 33 [(0,.ref 0 0 m0 8 0 y5),(7,aI ((a1:Nat):Int))]∧H=[bR 49 8 za y4 g7 0]∧y4.length=m0∧g7≤y4.length∧y5≤y4.length)) ?_ ?_
 ·rintro _ _ ⟨y4,y5,g7,hm,rfl,rfl,q6,q8,q9⟩
  subst hk10
  refine sq (rg (s1 4 [(30,aI ((a1:Nat):Int)),(29,aI ((y5:Nat):Int)),(28,.ref 0 0 m0 8 0 y5),(27,.ref 0 0 m0 8 0 y5)] ?_))
  obtain ⟨_,h11,hm⟩:=bs hm
  have q12:=abO h11
  refine dv 31 (v:=.ref 0 0 m0 8 (Int.toNat ((y5:Nat):Int)) (Int.toNat ((a1:Nat):Int)-Int.toNat ((y5:Nat):Int))) (aiR (lo:=((y5:Nat):Int)) (hi:=((a1:Nat):Int)) (n:=y5) (h:=m0) (id:=0) (esz:=8) (k:=.i64) (k':=.i64) (xl:=some (aI ((y5:Nat):Int))) (xh:=some (aI ((a1:Nat):Int))) (show ckB ((y5:Nat):Int) ((a1:Nat):Int) (m0:Int)=some () from by rw [show m0=y4.length from hO];exact h11) hO (.inr rfl) (.inr rfl) hH) hH ?_
  rcases zd hm with ⟨h13,hm⟩|⟨h13,hm⟩
  ·refine dO [] [bR 49 8 za y4 g7 0] (aqz (id:=0) (h:=m0) (esz:=8) (off:=(Int.toNat ((y5:Nat):Int))) (k:=(Int.toNat ((a1:Nat):Int)-Int.toNat ((y5:Nat):Int))) t23 t49 h13 hH) hH (fin [(0,.ref 0 0 m0 8 0 y5)] rfl hH (sq (dn [(6,.ref 0 0 m0 8 0 y5)] (jc ?_))))
   obtain rfl:=jf hm
   exact ⟨trivial,.ref 0 0 m0 8 0 y5,[bR 49 8 za y4 g7 0],hH,g7,hM,hN,hM,rfl,rfl⟩
  obtain ⟨_,h14,hm⟩:=bs hm
  have q15:=abO h14
  have q16:(auC y4 y5 a1).length=m0:=by simp only [List.length_append,List.length_take,List.length_drop,List.length_replicate];omega
  refine dO [] [bR 49 8 za (auC y4 y5 a1) m0 0] (aq0 za y4 (zi (zf.mk 0 0 0 (zn.mk 0 0 0 ByteArray.empty) none)) (id:=0) (h:=m0) (esz:=8) (off:=(Int.toNat ((y5:Nat):Int))) (k:=(Int.toNat ((a1:Nat):Int)-Int.toNat ((y5:Nat):Int))) t23 t49 rfl rfl rfl hO rfl hO hO h13 hH) hH (fin [(0,.ref 0 0 m0 8 0 y5)] rfl hH (sq (dn [(6,.ref 0 0 m0 8 0 y5)] (jc ?_))))
  obtain rfl:=jf hm
  exact ⟨trivial,.ref 0 0 m0 8 0 y5,[bR 49 8 za (auC y4 y5 a1) m0 0],hH,m0,hM,hN,hM,rfl,rfl⟩
 refine rgd (shd 2 [(21,aI a2),(20,.ref 0 0 m0 8 0 a1)] hH ?_)
 obtain ⟨_,h17,hm⟩:=bs hm
 have q18:=abO h17
 refine dvd 22 (v:=.ref 0 0 m0 8 0 (Int.toNat a2)) (ar0 (hi:=a2) (k':=.i64) (xh:=some (aI a2)) (n:=a1) (h:=m0) (id:=0) (esz:=8) (show ckB 0 a2 (m0:Int)=some () from by rw [show m0=a0.length from hO];exact h17) hO (.inr rfl) hH) hH (shd 2 [(24,aI a3),(23,.ref 0 0 m0 8 0 a1)] hH ?_)
 obtain ⟨_,h19,hm⟩:=bs hm
 have q20:=abO h19
 refine dvd 25 (v:=.ref 0 0 m0 8 (Int.toNat a3) (Int.toNat ((a1:Nat):Int)-Int.toNat a3)) (aiR (lo:=a3) (hi:=((a1:Nat):Int)) (n:=a1) (h:=m0) (id:=0) (esz:=8) (k:=.i64) (k':=.i64) (xl:=some (aI a3)) (xh:=none) (show ckB a3 ((a1:Nat):Int) (m0:Int)=some () from by rw [show m0=a0.length from hO];exact h19) hO (.inr rfl) (.inl ⟨rfl,rfl⟩) hH) hH ?_
 rcases zd hm with ⟨h23,hm⟩|⟨h23,hm⟩
 ·obtain ⟨_,h24,hm⟩:=bs hm
  refine dvd 26 (v:=.ref 0 0 m0 8 0 (Int.toNat a2)) (asF (n:=(Int.toNat a2)) (h:=m0) (id:=0) (esz:=8) za a0 (subL a0 a3 ((a1:Nat):Int)) (y:=.ref 0 0 m0 8 (Int.toNat a3) (Int.toNat ((a1:Nat):Int)-Int.toNat a3)) (b:=88) t23 t49 rfl rfl rfl h23 h24 hO rfl hO hO (aqP (id:=0) (l:=a0) (R:=za) rfl hM hN (by have:=abO h19;omega)) hH) hH (shd 1 [(0,.ref 0 0 m0 8 0 (Int.toNat a2))] hH (find [(0,.ref 0 0 m0 8 0 (Int.toNat a2)),(7,aI ((a1:Nat):Int))] rfl hH hH ?_))
  exact ⟨a0,(Int.toNat a2),f0,hm,rfl,rfl,hM,hN,hM⟩
 obtain ⟨_,h25,hm⟩:=bs hm
 have q26:=abO h25
 have q27:(avh a0 a2 a3 a1).length=m0:=by simp only [List.length_append,List.length_take,List.length_drop];omega
 refine dOd [(26,.ref 0 0 m0 8 0 ((Int.toNat a2)+(subL a0 a3 ((a1:Nat):Int)).length))] [bR 49 8 za (avh a0 a2 a3 a1) m0 0] (atA (c:=()) (n:=(Int.toNat a2)) (h:=m0) (id:=0) (esz:=8) za a0 (subL a0 a3 ((a1:Nat):Int)) (y:=.ref 0 0 m0 8 (Int.toNat a3) (Int.toNat ((a1:Nat):Int)-Int.toNat a3)) (b:=88) t23 t49 rfl rfl rfl Zi h23 h25 rfl hO hO (aqP (id:=0) (l:=a0) (R:=za) rfl hM hN (by have:=abO h19;omega)) hH) hH (shd 1 [(0,.ref 0 0 m0 8 0 ((Int.toNat a2)+(subL a0 a3 ((a1:Nat):Int)).length))] hH (find [(0,.ref 0 0 m0 8 0 ((Int.toNat a2)+(subL a0 a3 ((a1:Nat):Int)).length)),(7,aI ((a1:Nat):Int))] rfl hH hH ?_))
 exact ⟨(avh a0 a2 a3 a1),((Int.toNat a2)+(subL a0 a3 ((a1:Nat):Int)).length),m0,hm,rfl,rfl,hM,hN,hM⟩
abbrev acR (p0:jl):Nat×AV:=(11,.pv (zk za p0))
abbrev adB (p0:jl):Nat×AV:=(12,aI ((sll p0).length:Int))
theorem amb {n:Nat}{a0:jl}{a1:jl}{r:Bool}(hm:abl n a0 a1=some r):
   call G n 167 [.pv (ZN a0),.pv (ZN a1)] []=some (.ret (aB r),[]):=by
 unfold abl at hm
 obtain ⟨n,rfl,h0⟩:=zp hm
 replace hm:=h0;clear h0
 refine zT 31 [(zp25 a0),(zp88 a1)] func167 rfl hH (sq (dn [(zp25 a0),(zp88 a1)] ?_))
 obtain ⟨k4,hk4,hm⟩:=zo hm
 refine mid (fun t H=>(k4 none=some r∧t=mk 31 [(zp25 a0),j1]∧H=[])∨(∃ (y1:jm) (g2:Nat),k4 (some y1)=some r∧t=mk 31 [(zp25 a0),(5,aR 0 8 g2)]∧H=[bR 49 8 za y1 0 0]∧y1.length=g2)) ?_ ?_
 ·rintro _ _ (⟨hm,rfl,rfl⟩|⟨y1,g2,hm,rfl,rfl,q3⟩)
  ·subst hk4
   obtain ⟨k7,hk7,hm⟩:=zo hm
   refine mid (fun t H=>(∃ (y5:Int) (y6:Bool),k7 ()=some r∧t=mk 31 [j1,(acR a0),(adB a0),(13,aI y5),(14,aB y6)]∧H=[])) ?_ ?_
   ·rintro _ _ ⟨y5,y6,hm,rfl,rfl⟩
    subst hk7
    refine sq (dn [kx] (jc ?_))
    cases hm;exact hJ
   refine sq (rg (s1 1 [(acR a0)] (dv 12 (v:=aI (aaB a0)) (zu za a0 t23 hH) hH (fq 1 [j1,(acR a0),(adB a0),(13,aI 0)] (bq ?_)))))
   refine ZR (fun mm t H=>(∃ (y9:Int),Q5 n a0 k7 mm y9=some r∧t=mk 31 [j1,(acR a0),(adB a0),(13,aI y9)]∧H=[])) (⟨0,hm,rfl,rfl⟩) ?_ ?_
   ·
     rintro _ _ ⟨y9,hm,_⟩;exact nomatch hm
   rintro m10 _ _ ⟨y9,hm,rfl,rfl⟩
   simp only [Q5] at hm
   refine sq (dn [j1,(acR a0),(adB a0),(13,aI y9),(14,aB (aai y9 a0))] ?_)
   refine sq ?_
   rcases zd hm with ⟨h11,hm⟩|⟨h11,hm⟩
   ·refine c1 h11 (jd (sq (bq (sq (rg ?_)))))
    obtain ⟨x12,h13,hm⟩:=bs hm
    refine dv 15 (v:=.pv (.ptr (Z5 x12) 0)) (zS za a0 .i64 t23 t49 h13 (zt x12) rfl hH) hH (stf 3 [j1,(7,.ptr 0 0),(acR a0),(adB a0),(13,aI y9)] [.box (zc9 x12) false] hH (sq (rg (s1 2 [(18,.fn 214 [] [.ptr 0 0]),(17,.pv .nils)] ?_))))
    obtain ⟨x14,h15,hm⟩:=bs hm
    refine dO [(19,aI x14)] [.box (zc9 x12) false] (aip [0] [.pv .nils,.fn 214 [] [.ptr 0 0]] (fl:=true) hH hH hH (QN h15) hH hH) hH (fq 1 [j1,(8,aI x14),(acR a0),(adB a0),(13,aI y9)] (sq (sq (dn [j1,(8,aI x14),(acR a0),(adB a0),(13,aI y9),(21,aB (decide (x14<0)))] ?_))))
    rcases zd hm with ⟨h16,hm⟩|⟨h16,hm⟩
    ·refine c1 h16 (sq (dn [kn] (jc ?_)))
     cases hm;exact hJ
    refine c0 h16 (jd (rg (s1 4 [(25,aI (zN x14)),(24,aI x14),(23,aI x14),(22,.pv .nils)] ?_)))
    obtain ⟨_,h17,hm⟩:=bs hm
    obtain ⟨vv,H1,hC,rfl,rfl⟩:=af7 h17
    refine dR [(26,.pv .nils)] [.box (zc9 x12) false] [] [.pv .nils,aI x14,aI (zN x14)] hH hH hH hC hH (fq 1 [j1,(acR a0),(adB a0),(13,aI y9)] (dn [j1,(acR a0),(adB a0),(zp87 y9)] ?_))
    exact ⟨_,_,Zg [j1,(acR a0),(adB a0),(zp87 y9)] [] hH,⟨(zN y9),hm,rfl,rfl⟩⟩
   refine c0 h11 (je ?_)
   exact ⟨y9,(aai y9 a0),hm,rfl,rfl⟩
  subst hk4
  obtain ⟨k26,hk26,hm⟩:=zo hm
  refine mid (fun t H=>(∃ (y18:jm) (y19:Int) (y20:Bool) (y21:Nat) (g23:Nat),k26 y21=some r∧t=mk 31 [(5,.ref 0 0 g2 8 0 y21),(acR a0),(adB a0),(13,aI y19),(14,aB y20)]∧H=[bR 49 8 za y18 g23 0]∧y18.length=g2∧g23≤y18.length∧y21≤y18.length)) ?_ ?_
  ·rintro _ _ ⟨y18,y19,y20,y21,g23,hm,rfl,rfl,q22,q24,q25⟩
   subst hk26
   refine sq (dn [(4,aB (((y21:Nat):Int)==0))] (jc ?_))
   cases hm;exact hJ
  refine sq (rg (s1 1 [(acR a0)] (dv 12 (v:=aI (aaB a0)) (zu za a0 t23 hH) hH (fq 1 [(5,aR 0 8 g2),(acR a0),(adB a0),(13,aI 0)] (bq ?_)))))
  refine ZR (fun mm t H=>(∃ (y34:jm) (y35:Int) (y36:Nat) (g38:Nat),Qj n a0 k26 mm y34 y35 y36=some r∧t=mk 31 [(5,.ref 0 0 g2 8 0 y36),(acR a0),(adB a0),(13,aI y35)]∧H=[bR 49 8 za y34 g38 0]∧y34.length=g2∧g38≤y34.length∧y36≤y34.length)) (⟨y1,0,y1.length,0,hm,(by rw [show y1.length=g2 from hM]<;>first|rfl|exact rfl),rfl,hM,hN,hM⟩) ?_ ?_
  ·
    rintro _ _ ⟨y34,y35,y36,g38,hm,_⟩;exact nomatch hm
  rintro m41 _ _ ⟨y34,y35,y36,g38,hm,rfl,rfl,q37,q39,q40⟩
  simp only [Qj] at hm
  refine sq (dn [(5,.ref 0 0 g2 8 0 y36),(acR a0),(adB a0),(13,aI y35),(14,aB (aai y35 a0))] ?_)
  refine sq ?_
  rcases zd hm with ⟨h42,hm⟩|⟨h42,hm⟩
  ·refine c1 h42 (jd (sq (bq (sq (rg ?_)))))
   obtain ⟨x43,h44,hm⟩:=bs hm
   refine dv 15 (v:=.pv (.ptr (Z5 x43) 0)) (zS za a0 .i64 t23 t49 h44 (zt x43) rfl hH) hH (stf 3 [(5,.ref 0 0 g2 8 0 y36),(7,.ptr 1 0),(acR a0),(adB a0),(13,aI y35)] [bR 49 8 za y34 g38 0,.box (zc9 x43) false] hH (sq (rg (s1 2 [(18,.fn 214 [] [.ptr 1 0]),(17,.ref 0 0 g2 8 0 y36)] ?_))))
   obtain ⟨x45,h46,hm⟩:=bs hm
   refine dO [(19,aI x45)] [bR 49 8 za y34 g38 0,.box (zc9 x43) false] (aip [0,1] [.ref 0 0 g2 8 0 y36,.fn 214 [] [.ptr 1 0]] (fl:=true) hH hH (aaD (afi (au3 (n:=y36) (h:=g2) (id:=0) (l:=y34) (R:=za) rfl hO hO hO)) (aaD (pA_fn (awy (rfl) (Qf (avU rfl (Qf (adn) (Qf (adn) (Qf (adn) (Qf (adn) (Qf (adn) (Qf (adn) (Qf (adn) (Qf (adn) (rfl)))))))))) (rfl)))) (rfl))) (QN h46) hH hH) hH (fq 1 [(5,.ref 0 0 g2 8 0 y36),(8,aI x45),(acR a0),(adB a0),(13,aI y35)] (sq (sq (dn [(5,.ref 0 0 g2 8 0 y36),(8,aI x45),(acR a0),(adB a0),(13,aI y35),(21,aB (decide (x45<0)))] ?_))))
   rcases zd hm with ⟨h47,hm⟩|⟨h47,hm⟩
   ·refine c1 h47 (sq (dn [kn] (jc ?_)))
    cases hm;exact hJ
   refine c0 h47 (jd (rg (s1 4 [(25,aI (zN x45)),(24,aI x45),(23,aI x45),(22,.ref 0 0 g2 8 0 y36)] ?_)))
   obtain ⟨⟨x49,x50⟩,h48,hm⟩:=bs hm
   obtain ⟨vv,H1,hC,g51,q52,q53,q54,rfl,rfl⟩:=af5 g2 g38 y36 hM hN ⟨rfl,hM⟩ h48
   refine dR [(26,.ref 0 0 g2 8 0 x50)] [bR 49 8 za x49 g51 0,.box (zc9 x43) false] [0] [.ref 0 0 g2 8 0 y36,aI x45,aI (zN x45)] hH hH hH hC hH (fq 1 [(5,.ref 0 0 g2 8 0 x50),(acR a0),(adB a0),(13,aI y35)] (dn [(5,.ref 0 0 g2 8 0 x50),(acR a0),(adB a0),(zp87 y35)] ?_))
   exact ⟨_,_,Zg [(5,.ref 0 0 g2 8 0 x50),(acR a0),(adB a0),(zp87 y35)] [bR 49 8 za x49 g51 0] hH,⟨x49,(zN y35),x50,g51,hm,rfl,rfl,hM,hN,hM⟩⟩
  refine c0 h42 (je ?_)
  exact ⟨y34,y35,(aai y35 a0),y36,g38,hm,rfl,rfl,hM,hN,hM⟩
 refine rg (s1 1 [(9,.pv (ZN a1))] ?_)
 obtain ⟨x57,h55,hm⟩:=bs hm
 rcases x57 with _|x56
 ·obtain ⟨vv,H1,hC,rfl,rfl⟩:=aeV h55
  refine dO [(10,.pv .nils)] [] (awn [] [.pv (ZN a1)] (v':=.pv .nils) (bs':=[]) hH hH hH hC hH hH hH) hH (fq 1 [(zp25 a0),j1] ?_)
  exact .inl ⟨hm,rfl,rfl⟩
 obtain ⟨vv,H1,hC,g58,q59,rfl,rfl⟩:=aeV h55
 refine dO [(10,aR 0 8 g58)] [bR 49 8 za x56 0 0] (awn [] [.pv (ZN a1)] (v':=aR 0 8 g58) (bs':=[bR 49 8 za x56 0 0]) hH hH hH hC hH hH hH) hH (fq 1 [(zp25 a0),(5,aR 0 8 g58)] ?_)
 exact .inr (⟨x56,g58,hm,rfl,rfl,hM⟩)
abbrev zc23 (p0:Int) (p1:Int) (p2:jl) (p3:jl) (p4:jl) (p5:jl) (p6:jq) (p7:jr) (p8:(Option (List Qv))):List AV:=[aI p0,aI p1,.pv (zk za p2),.pv (zk za p3),.pv (zk za p4),.pv (zk za p5),.pv (zk zl p6),.pv (zk zx p7),.pv (zk zA p8)]
abbrev alF:=jl
theorem amr {n:Nat}{a0:zh}{a1:zr}{r:Bool}(hm:acF n a0 a1=some r):
   call G n 114 [.agg (zc2 a0),.agg (zc0 a1)] []=some (.ret (aB r),[]):=by
 unfold acF at hm
 obtain ⟨n,rfl,h0⟩:=zp hm
 replace hm:=h0;clear h0
 refine zT 65 [(0,.agg (zc2 a0)),(1,.agg (zc0 a1))] func114 rfl hH (sq (det [jz,jC] [.box (zc2 a0) false,.box (zc0 a1) false] hH ?_))
 obtain ⟨k11,hk11,hm⟩:=zo hm
 refine mid (fun t H=>(∃ (y2:Int) (y3:Int) (y4:alF) (y5:alF) (y6:alF) (y7:alF) (y8:jq) (y9:jr) (y10:(Option (List Qv))) (w1:AV),k11 y2 y7 y8 y10=some r∧t=mk 65 [jz,jC,(9,w1)]∧H=[.box (zc23 y2 y3 y4 y5 y6 y7 y8 y9 y10) false,.box (zc0 a1) false])) ?_ ?_
 ·rintro _ _ ⟨y2,y3,y4,y5,y6,y7,y8,y9,y10,w1,hm,rfl,rfl⟩
  subst hk11
  refine sq (dn [jz,jC,(5,aI 6)] ?_)
  obtain ⟨k14,hk14,hm⟩:=zo hm
  refine mid (fun t H=>(∃ (y13:Int) (w12:AV),k14 y13=some r∧t=mk 65 [jz,jC,(5,aI y13),(26,w12)]∧H=[.box (zc23 y2 y3 y4 y5 y6 y7 y8 y9 y10) false,.box (zc0 a1) false])) ?_ ?_
  ·rintro _ _ ⟨y13,w12,hm,rfl,rfl⟩
   subst hk14
   refine sq (sq (rg (s1 5 [(31,aB (y2 !=y13)),(30,aB (y2 !=y13)),(29,aI y13),(28,aI y2),(27,.ptr 0 0)] ?_)))
   rcases zd hm with ⟨h,hm⟩|⟨h,hm⟩
   ·refine known [31,30] h hH (fq 15 [jz,jC,kM] (cT hH (sq (dn [kn] (jc ?_)))))
    cases hm;exact hJ
   refine known [31,30] h hH (s1 4 [(35,.pv (ac4 a1)),(34,.ptr 1 3),(33,.pv (ZN y7)),(32,.ptr 0 5)] ?_)
   obtain ⟨x16,h17,hm⟩:=bs hm
   refine dv 36 (zC hH (Z0 h17) hH hH hH) hH (s1 3 [(39,aB (!x16)),(38,aB (!x16)),(37,aB (!x16))] ?_)
   rcases zd hm with ⟨h,hm⟩|⟨h,hm⟩
   ·refine known [39,38,37] h hH (fq 7 [jz,jC,kM] (cT hH (sq (dn [kn] (jc ?_)))))
    cases hm;exact hJ
   refine known [39,38,37] h hH (s1 4 [(43,.pv (qM a1)),(42,.ptr 1 4),(41,.pv (zk zl y8)),(40,.ptr 0 6)] ?_)
   obtain ⟨x19,h20,hm⟩:=bs hm
   refine dv 44 (zC hH (adM h20) hH hH hH) hH (fq 2 [jz,jC,(46,aB (!x19))] ?_)
   rcases zd hm with ⟨h,hm⟩|⟨h,hm⟩
   ·refine c1 h (sq (dn [kn] (jc ?_)))
    cases hm;exact hJ
   refine c0 h (jd (sq (rgd (shd 2 [(48,.pv (zk zA y10)),(47,.ptr 0 8)] hH ?_))))
   obtain ⟨x22,h23,hm⟩:=bs hm
   refine dvd 49 (v:=.pv (.ptr (acQ x22) 0)) (zS zA y10 .i64 t64 t66 h23 (Zd x22) rfl hH) hH (shd 3 [(52,.pv (zk rS a1.O)),(51,.ptr 1 0),(50,.agg (zc3 x22))] hH (dvd 53 (v:=aI (ae0 a1)) (zu rS a1.O t22 hH) hH ?_))
   obtain ⟨x24,h25,hm⟩:=bs hm
   refine dvd 54 (zC hH (aqB h25) hH hH hH) hH (shd 1 [(55,aB x24)] hH ?_)
   rcases zd hm with ⟨h,hm⟩|⟨h,hm⟩
   ·refine zM [55,54] h hH (shd 2 [(57,.pv (zk zA y10)),(56,.ptr 0 8)] hH (dvd 58 (v:=.pv (.ptr (acQ x22) 0)) (zS zA y10 .i64 t64 t66 h23 (Zd x22) rfl hH) hH (shd 1 [(59,.agg (zc3 x22))] hH ?_)))
    obtain ⟨x27,h28,hm⟩:=bs hm
    refine dvd 60 (zC hH (amc h28) hH hH hH) hH (shd 2 [(62,.pv (aiy a1)),(61,.ptr 1 1)] hH ?_)
    obtain ⟨x29,h30,hm⟩:=bs hm
    refine dvd 63 (zC hH (amb h30) hH hH hH) hH (shd 2 [(4,aB x29),(64,aB x29)] hH (find [(4,aB x29)] rfl hH hH (jc ?_)))
    cases hm;exact hJ
   refine zM [55,54] h hH (shd 10 [kn,(64,aB false),(63,.undef),(62,.undef),(61,.undef),(60,.undef),(59,.undef),(58,.undef),(57,.undef),(56,.undef)] hH (find [kn] rfl hH hH (jc ?_)))
   cases hm;exact hJ
  refine sq (dn [jz,jC,(5,aI 6),(26,aB a1.P)] ?_)
  rcases zd hm with ⟨h,hm⟩|⟨h,hm⟩
  ·refine c1 h (dn [jz,jC,(5,aI 5)] ?_)
   exact ⟨5,.any,hm,(zD hH),rfl⟩
  refine c0 h (jd ?_)
  exact ⟨6,aB a1.P,hm,(zD hH),rfl⟩
 refine sq (rg (s1 2 [(7,.pv (aa3 a1)),(6,.ptr 1 5)] (dv 8 (v:=aI (ajB a1)) (zu zx a1.G t25 hH) hH (fq 1 [jz,jC,(9,aB (decide (((sll a1.G).length:Int)>0)))] ?_))))
 rcases zd hm with ⟨h,hm⟩|⟨h,hm⟩
 ·refine c1 h (sq (sq (rg (s1 4 [(13,aB (a0.A !=7)),(12,aB (a0.A !=7)),(11,aI a0.A),(10,.ptr 0 0)] ?_))))
  rcases zd hm with ⟨h,hm⟩|⟨h,hm⟩
  ·refine known [13,12] h hH (fq 7 [jz,jC,(20,aB true)] (cT hH (sq (dn [kn] (jc ?_)))))
   cases hm;exact hJ
  refine known [13,12] h hH (s1 4 [(17,.pv (aa3 a1)),(16,.ptr 1 5),(15,.pv (afK a0)),(14,.ptr 0 7)] ?_)
  obtain ⟨x34,h35,hm⟩:=bs hm
  refine dv 18 (zC hH (ajd h35) hH hH hH) hH (fq 2 [jz,jC,(20,aB (!x34))] ?_)
  rcases zd hm with ⟨h,hm⟩|⟨h,hm⟩
  ·refine c1 h (sq (dn [kn] (jc ?_)))
   cases hm;exact hJ
  refine c0 h (jd (rg (s1 2 [(22,.pv (adv a0)),(21,.ptr 0 8)] ?_)))
  obtain ⟨x37,h38,hm⟩:=bs hm
  refine dv 23 (v:=.pv (.ptr (acQ x37) 0)) (zS zA a0.B .i64 t64 t66 h38 (Zd x37) rfl hH) hH (stf 2 [jz,jC] [.box (zc3 x37) false,.box (zc0 a1) false] hH ?_)
  exact ⟨(zj x37).A,(zj x37).C,(zj x37).H,(zj x37).J,(zj x37).L,(zj x37).E,(zj x37).D,(zj x37).G,(zj x37).B,.any,hm,(zD hH),rfl⟩
 refine c0 h (jd ?_)
 exact ⟨a0.A,a0.C,a0.H,a0.J,a0.L,a0.E,a0.D,a0.G,a0.B,aB (decide (((sll a1.G).length:Int)>0)),hm,(zD hH),rfl⟩
theorem al6 {n:Nat}{a0:zh}{a1:zr}{a2:jn}{r:Int}(hm:acL n a0 a1 a2=some r):
   call G n 30 [.agg (zc2 a0),.agg (zc0 a1),.pv (zy a2)] []=some (.ret (aI r),[]):=by
 unfold acL at hm
 obtain ⟨n,rfl,h0⟩:=zp hm
 replace hm:=h0;clear h0
 refine zT 27 [(0,.agg (zc2 a0)),(1,.agg (zc0 a1)),(2,.pv (zy a2))] func30 rfl hH (sq (det [(2,.pv (zy a2)),jE,jK] [.box (zc2 a0) false,.box (zc0 a1) false] hH ?_))
 refine sq (sq (rg (s1 2 [(11,.pv (zy a2)),(10,.agg (zc0 a1))] ?_)))
 obtain ⟨x1,h2,hm⟩:=bs hm
 refine dv 12 (zC hH (amW h2) hH hH hH) hH (fq 5 [jE,jK,(8,aI x1.2)] (sq (dn [jE,jK,(8,aI x1.2),(16,aB (x1.2 !=0))] ?_)))
 rcases zd hm with ⟨h,hm⟩|⟨h,hm⟩
 ·refine c1 h (sq (dn [(6,aI x1.2)] (jc ?_)))
  cases hm;exact hJ
 refine c0 h (jd (sq (sq (rg (s1 1 [(18,.agg (zc2 a0))] ?_)))))
 obtain ⟨x4,h5,hm⟩:=bs hm
 refine dv 19 (zC hH (anh h5) hH hH hH) hH (s1 2 [(21,aB (!x4)),(20,aB (!x4))] ?_)
 rcases zd hm with ⟨h,hm⟩|⟨h,hm⟩
 ·refine known [21,20] h hH (fq 5 [(26,aB true)] (cT hH (sq (dn [kh] (jc ?_)))))
  cases hm;exact hJ
 refine known [21,20] h hH (s1 2 [(23,.agg (zc0 a1)),(22,.agg (zc2 a0))] ?_)
 obtain ⟨x7,h8,hm⟩:=bs hm
 refine dv 24 (zC hH (amr h8) hH hH hH) hH (fq 2 [(26,aB (!x7))] ?_)
 rcases zd hm with ⟨h,hm⟩|⟨h,hm⟩
 ·refine c1 h (sq (dn [kh] (jc ?_)))
  cases hm;exact hJ
 refine c0 h (jd (sq (dn [kf] (jc ?_))))
 cases hm;exact hJ
abbrev aeo (p0:jo):Nat×AV:=(6,aR 1 2 p0.length)
abbrev alV (p0:Int):Nat×AV:=(9,aI (IntKind.wrap .i64 (p0-1)))
abbrev ajj (p0:zg):=([p0]:List zg)
theorem ams {n:Nat}{a0:zr}{a1:jn}{r:jn×Int}(hm:adV n a0 a1=some r):
   call G n 168 [.agg (zc0 a0),.pv (zy a1)] []=some (.ret (.tup [.pv (zk zm r.1),aI r.2]),[]):=by
 unfold adV at hm
 obtain ⟨n,rfl,h0⟩:=zp hm
 replace hm:=h0;clear h0
 refine zT 54 [(0,.agg (zc0 a0)),(zp33 a1)] func168 rfl hH (sq (det [(zp33 a1),jz] [.box (zc0 a0) false] hH ?_))
 refine sq (sq (rg (s1 2 [(11,.pv (zk rS a0.O)),(10,.ptr 0 0)] (dv 12 (v:=aI (ae0 a0)) (zu rS a0.O t22 hH) hH (fq 1 [(zp33 a1),jz,(13,aB (decide (((sll a0.O).length:Int)>12)))] ?_)))))
 rcases zd hm with ⟨h,hm⟩|⟨h,hm⟩
 ·refine c1 h (sq (dn [j2,(5,aI 51)] (jc ?_)))
  cases hm;exact hJ
 refine c0 h (jd ?_)
 refine sq (sq (rg (s1 2 [(15,.pv (zk rS a0.O)),(14,.ptr 0 0)] (dv 16 (v:=aI (ae0 a0)) (zu rS a0.O t22 hH) hH (fq 1 [(zp33 a1),jz,(17,aB (((sll a0.O).length:Int)==0))] ?_)))))
 rcases zd hm with ⟨h,hm⟩|⟨h,hm⟩
 ·refine c1 h (sq (dn [j2,(5,aI 2)] (jc ?_)))
  cases hm;exact hJ
 refine c0 h (jd (sq (dn [(zp33 a1),jz,j3] ?_)))
 obtain ⟨k6,hk6,hm⟩:=zo hm
 refine mid (fun t H=>(∃ (w3:AV) (w4:AV),k6 none=some r∧t=mk 54 [(zp33 a1),jz,j3,(7,w3),(22,w4)]∧H=[.box (zc0 a0) false])∨(∃ (y5:jo) (w3:AV) (w4:AV),k6 (some y5)=some r∧t=mk 54 [(zp33 a1),jz,(6,aR 1 2 y5.length),(7,w3),(22,w4)]∧H=[.box (zc0 a0) false,bR 84 2 zm y5 0 0])) ?_ ?_
 ·rintro _ _ (⟨w3,w4,hm,rfl,rfl⟩|⟨y5,w3,w4,hm,rfl,rfl⟩)
  ·subst hk6
   refine sq (dn [j2,j9] (jc ?_))
   cases hm;exact hJ
  subst hk6
  refine sq (dn [(4,aR 1 2 y5.length),j9] (jc ?_))
  obtain rfl:=jf hm
  exact aa2 (v:=.tup [aR 1 2 y5.length,aI 0]) trivial rfl hH (akY (aaD (afi (abI (n:=y5.length) (id:=1) (l:=y5) (R:=zm) rfl rfl (Nat.zero_le _))) (aaD (apo) (rfl))))
 refine sq (dn [(zp33 a1),jz,j3,kg] (bq ?_))
 refine ZR (fun mm t H=>(∃ (y11:Int),ZT n a0 a1 k6 mm none y11=some r∧t=mk 54 [(zp33 a1),jz,j3,(7,aI y11)]∧H=[.box (zc0 a0) false])∨(∃ (y10:jo) (y11:Int),ZT n a0 a1 k6 mm (some y10) y11=some r∧t=mk 54 [(zp33 a1),jz,(aeo y10),(7,aI y11)]∧H=[.box (zc0 a0) false,bR 84 2 zm y10 0 0])) (.inl ⟨0,hm,rfl,rfl⟩) ?_ ?_
 ·
   rintro _ _ (⟨y11,hm,_⟩|⟨y10,y11,hm,_⟩)<;>exact nomatch hm
 rintro m12 _ _ (⟨y11,hm,rfl,rfl⟩|⟨y10,y11,hm,rfl,rfl⟩)
 ·simp only [ZT] at hm
  refine sq (sq (rg (s1 3 [(20,.pv (zk rS a0.O)),(19,.ptr 0 0),(18,aI y11)] (dv 21 (v:=aI (ae0 a0)) (zu rS a0.O t22 hH) hH (fq 1 [(zp33 a1),jz,j3,(7,aI y11),(22,aB (aly y11 a0))] ?_)))))
  rcases zd hm with ⟨h,hm⟩|⟨h,hm⟩
  ·refine c1 h (jd ?_)
   obtain ⟨k17,hk17,hm⟩:=zo hm
   refine mid (fun t H=>(∃ (y14:jo) (y15:jo),k17 y15=some r∧t=mk 54 [(zp33 a1),jz,(6,aR 2 2 y15.length),(7,aI y11)]∧H=[.box (zc0 a0) false,bR 84 2 zm y14 0 0,bR 84 2 zm y15 0 0]∧y14.length=1)) ?_ ?_
   ·rintro _ _ ⟨y14,y15,hm,rfl,rfl,q16⟩
    subst hk17
    refine dn [(zp33 a1),jz,(6,aR 2 2 y15.length),(zp32 y11)] ?_
    exact ⟨_,_,Zg [(zp33 a1),jz,(aeo y15),(zp32 y11)] [.box (zc0 a0) false,bR 84 2 zm y15 0 0] hH,.inr (⟨y15,(zN y11),hm,rfl,rfl⟩)⟩
   refine bq (sq (dn [(zp33 a1),jz,j3,(7,aI y11),(8,aI (-1))] ?_))
   obtain ⟨k21,hk21,hm⟩:=zo hm
   refine mid (fun t H=>(∃ (y18:Bool) (y19:Int) (y20:Int),k21 y19=some r∧t=mk 54 [(zp33 a1),jz,j3,(7,aI y11),(8,aI y19),(9,aI y20),(29,aB y18)]∧H=[.box (zc0 a0) false])) ?_ ?_
   ·rintro _ _ ⟨y18,y19,y20,hm,rfl,rfl⟩
    subst hk21
    refine sq (sq (dn [(zp33 a1),jz,j3,(7,aI y11),(8,aI y19),(45,aB (decide (y19<0)))] ?_))
    rcases zd hm with ⟨h,hm⟩|⟨h,hm⟩
    ·refine c1 h (sq (dn [j2,(5,aI 40)] (jc ?_)))
     cases hm;exact hJ
    refine c0 h (jd (rg (s1 3 [(48,aI y19),(47,.pv (zy a1)),(46,.pv .nils)] ?_)))
    obtain ⟨x23,h24,hm⟩:=bs hm
    refine dv 49 (v:=.pv (.ptr (zm x23) 0)) (Zz zm a1 .i64 t28 t84 h24 rfl hH) hH (st 2 [(51,aR 1 2 1),(50,.agg (zc4 x23))] [.box (zc0 a0) false,bR 84 2 zm (ajj x23) 0 0] hH ?_)
    obtain ⟨_,h25,hm⟩:=bs hm
    refine dO [(52,aR 2 2 (([x23]:List zg).length))] [.box (zc0 a0) false,bR 84 2 zm (ajj x23) 0 0,bR 84 2 zm (ajj x23) 0 0] (aa6 (u:=0) zm (ajj x23) (b:=40) t28 t84 rfl rfl rfl (fun _=>rfl) rfl h25 (show Zm (aR 1 2 1) _=some (([x23]:List zg).map zm) from by kernel_rfl) hH) hH (fq 1 [(zp33 a1),jz,(6,aR 2 2 (([x23]:List zg).length)),(7,aI y11)] ?_)
    exact ⟨(ajj x23),(ajj x23),hm,rfl,rfl,hM⟩
   refine sq (rg (s1 1 [(25,.pv (zy a1))] (dv 26 (v:=aI ((sll a1).length:Int)) (zu zm a1 t28 hH) hH (fq 2 [(zp33 a1),jz,j3,(7,aI y11),(8,aI (-1)),(9,aI (IntKind.wrap .i64 (((sll a1).length:Int)-1)))] (bq ?_)))))
   refine ZR (fun mm t H=>(∃ (y28:Int) (y29:Int),qo n a0 a1 y11 k21 mm y28 y29=some r∧t=mk 54 [(zp33 a1),jz,j3,(7,aI y11),(8,aI y28),(9,aI y29)]∧H=[.box (zc0 a0) false])) (⟨(-1),(IntKind.wrap .i64 (((sll a1).length:Int)-1)),hm,rfl,rfl⟩) ?_ ?_
   ·
     rintro _ _ ⟨y28,y29,hm,_⟩;exact nomatch hm
   rintro m30 _ _ ⟨y28,y29,hm,rfl,rfl⟩
   simp only [qo] at hm
   refine sq (sq (dn [(zp33 a1),jz,j3,(7,aI y11),(8,aI y28),(9,aI y29),(29,aB (decide (y29≥0)))] ?_))
   rcases zd hm with ⟨h,hm⟩|⟨h,hm⟩
   ·refine c1 h (jd (sq (bq (sq (rgd (shd 2 [(33,aI y29),(32,.pv (zy a1))] hH ?_))))))
    obtain ⟨x32,h33,hm⟩:=bs hm
    refine dvd 34 (v:=.pv (.ptr (zm x32) 0)) (Zz zm a1 .i64 t28 t84 h33 rfl hH) hH (shd 5 [(39,aI y11),(38,.pv (zk rS a0.O)),(37,.ptr 0 0),(36,aS x32.T),(35,.pv (.ptr (zm x32) 0))] hH ?_)
    obtain ⟨x34,h35,hm⟩:=bs hm
    refine dvd 40 (v:=.pv (.ptr (rS x34) 0)) (Zz rS a0.O .i64 t22 t9 h35 rfl hH) hH (shd 2 [(42,aB (sEq x32.T x34)),(41,aS x34)] hH (find [(zp33 a1),jz,j3,(7,aI y11),(8,aI y28),(9,aI y29),(42,aB (sEq x32.T x34))] rfl hH hH ?_))
    rcases zd hm with ⟨h,hm⟩|⟨h,hm⟩
    ·refine c1 h (dn [(zp33 a1),jz,j3,(7,aI y11),(8,aI y29),(9,aI y29)] (dn [(zp33 a1),jz,j3,(7,aI y11),(8,aI y29),(alV y29)] ?_))
     exact ⟨_,_,Zg [(zp33 a1),jz,j3,(7,aI y11),(8,aI y29),(alV y29)] [.box (zc0 a0) false] hH,⟨y29,(alU y29),hm,rfl,rfl⟩⟩
    refine c0 h (jd (dn [(zp33 a1),jz,j3,(7,aI y11),(8,aI y28),(alV y29)] ?_))
    exact ⟨_,_,Zg [(zp33 a1),jz,j3,(7,aI y11),(8,aI y28),(alV y29)] [.box (zc0 a0) false] hH,⟨y28,(alU y29),hm,rfl,rfl⟩⟩
   refine c0 h (je ?_)
   exact ⟨(decide (y29≥0)),y28,y29,hm,rfl,rfl⟩
  refine c0 h (je ?_)
  exact .inl ⟨aI y11,aB (aly y11 a0),hm,(zD hH),rfl⟩
 simp only [ZT] at hm
 refine sq (sq (rg (s1 3 [(20,.pv (zk rS a0.O)),(19,.ptr 0 0),(18,aI y11)] (dv 21 (v:=aI (ae0 a0)) (zu rS a0.O t22 hH) hH (fq 1 [(zp33 a1),jz,(aeo y10),(7,aI y11),(22,aB (aly y11 a0))] ?_)))))
 rcases zd hm with ⟨h,hm⟩|⟨h,hm⟩
 ·refine c1 h (jd ?_)
  obtain ⟨k41,hk41,hm⟩:=zo hm
  refine mid (fun t H=>(∃ (y38:jo) (y39:jo),k41 y38=some r∧t=mk 54 [(zp33 a1),jz,(aeo y38),(7,aI y11)]∧H=[.box (zc0 a0) false,bR 84 2 zm y38 0 0,bR 84 2 zm y39 0 0]∧y39.length=1)) ?_ ?_
  ·rintro _ _ ⟨y38,y39,hm,rfl,rfl,q40⟩
   subst hk41
   refine dn [(zp33 a1),jz,(aeo y38),(zp32 y11)] ?_
   exact ⟨_,_,Zg [(zp33 a1),jz,(aeo y38),(zp32 y11)] [.box (zc0 a0) false,bR 84 2 zm y38 0 0] hH,.inr (⟨y38,(zN y11),hm,rfl,rfl⟩)⟩
  refine bq (sq (dn [(zp33 a1),jz,(aeo y10),(7,aI y11),(8,aI (-1))] ?_))
  obtain ⟨k45,hk45,hm⟩:=zo hm
  refine mid (fun t H=>(∃ (y42:Bool) (y43:Int) (y44:Int),k45 y43=some r∧t=mk 54 [(zp33 a1),jz,(aeo y10),(7,aI y11),(8,aI y43),(9,aI y44),(29,aB y42)]∧H=[.box (zc0 a0) false,bR 84 2 zm y10 0 0])) ?_ ?_
  ·rintro _ _ ⟨y42,y43,y44,hm,rfl,rfl⟩
   subst hk45
   refine sq (sq (dn [(zp33 a1),jz,(aeo y10),(7,aI y11),(8,aI y43),(45,aB (decide (y43<0)))] ?_))
   rcases zd hm with ⟨h,hm⟩|⟨h,hm⟩
   ·refine c1 h (sq (dn [j2,(5,aI 40)] (jc ?_)))
    cases hm;exact hJ
   refine c0 h (jd (rg (s1 3 [(48,aI y43),(47,.pv (zy a1)),(46,aR 1 2 y10.length)] ?_)))
   obtain ⟨x47,h48,hm⟩:=bs hm
   refine dv 49 (v:=.pv (.ptr (zm x47) 0)) (Zz zm a1 .i64 t28 t84 h48 rfl hH) hH (st 2 [(51,aR 2 2 1),(50,.agg (zc4 x47))] [.box (zc0 a0) false,bR 84 2 zm y10 0 0,bR 84 2 zm (ajj x47) 0 0] hH ?_)
   obtain ⟨_,h49,hm⟩:=bs hm
   refine dO [(52,aR 1 2 ((y10++([x47]:List zg)).length))] [.box (zc0 a0) false,bR 84 2 zm (y10++([x47]:List zg)) 0 0,bR 84 2 zm (ajj x47) 0 0] (qV (u:=0) (n:=y10.length) (id:=1) zm y10 (ajj x47) (b:=40) t28 t84 rfl rfl rfl (fun _=>rfl) rfl h49 rfl rfl (Nat.zero_le _) (show Zm (aR 2 2 1) _=some (([x47]:List zg).map zm) from by kernel_rfl) hH) hH (fq 1 [(zp33 a1),jz,(6,aR 1 2 ((y10++([x47]:List zg)).length)),(7,aI y11)] ?_)
   exact ⟨(y10++([x47]:List zg)),(ajj x47),hm,rfl,rfl,hM⟩
  refine sq (rg (s1 1 [(25,.pv (zy a1))] (dv 26 (v:=aI ((sll a1).length:Int)) (zu zm a1 t28 hH) hH (fq 2 [(zp33 a1),jz,(aeo y10),(7,aI y11),(8,aI (-1)),(9,aI (IntKind.wrap .i64 (((sll a1).length:Int)-1)))] (bq ?_)))))
  refine ZR (fun mm t H=>(∃ (y52:Int) (y53:Int),qe n a0 a1 y11 k45 mm y52 y53=some r∧t=mk 54 [(zp33 a1),jz,(aeo y10),(7,aI y11),(8,aI y52),(9,aI y53)]∧H=[.box (zc0 a0) false,bR 84 2 zm y10 0 0])) (⟨(-1),(IntKind.wrap .i64 (((sll a1).length:Int)-1)),hm,rfl,rfl⟩) ?_ ?_
  ·
    rintro _ _ ⟨y52,y53,hm,_⟩;exact nomatch hm
  rintro m54 _ _ ⟨y52,y53,hm,rfl,rfl⟩
  simp only [qe] at hm
  refine sq (sq (dn [(zp33 a1),jz,(aeo y10),(7,aI y11),(8,aI y52),(9,aI y53),(29,aB (decide (y53≥0)))] ?_))
  rcases zd hm with ⟨h,hm⟩|⟨h,hm⟩
  ·refine c1 h (jd (sq (bq (sq (rgd (shd 2 [(33,aI y53),(32,.pv (zy a1))] hH ?_))))))
   obtain ⟨x56,h57,hm⟩:=bs hm
   refine dvd 34 (v:=.pv (.ptr (zm x56) 0)) (Zz zm a1 .i64 t28 t84 h57 rfl hH) hH (shd 5 [(39,aI y11),(38,.pv (zk rS a0.O)),(37,.ptr 0 0),(36,aS x56.T),(35,.pv (.ptr (zm x56) 0))] hH ?_)
   obtain ⟨x58,h59,hm⟩:=bs hm
   refine dvd 40 (v:=.pv (.ptr (rS x58) 0)) (Zz rS a0.O .i64 t22 t9 h59 rfl hH) hH (shd 2 [(42,aB (sEq x56.T x58)),(41,aS x58)] hH (find [(zp33 a1),jz,(aeo y10),(7,aI y11),(8,aI y52),(9,aI y53),(42,aB (sEq x56.T x58))] rfl hH hH ?_))
   rcases zd hm with ⟨h,hm⟩|⟨h,hm⟩
   ·refine c1 h (dn [(zp33 a1),jz,(aeo y10),(7,aI y11),(8,aI y53),(9,aI y53)] (dn [(zp33 a1),jz,(aeo y10),(7,aI y11),(8,aI y53),(alV y53)] ?_))
    exact ⟨_,_,Zg [(zp33 a1),jz,(aeo y10),(7,aI y11),(8,aI y53),(alV y53)] [.box (zc0 a0) false,bR 84 2 zm y10 0 0] hH,⟨y53,(alU y53),hm,rfl,rfl⟩⟩
   refine c0 h (jd (dn [(zp33 a1),jz,(aeo y10),(7,aI y11),(8,aI y52),(alV y53)] ?_))
   exact ⟨_,_,Zg [(zp33 a1),jz,(aeo y10),(7,aI y11),(8,aI y52),(alV y53)] [.box (zc0 a0) false,bR 84 2 zm y10 0 0] hH,⟨y52,(alU y53),hm,rfl,rfl⟩⟩
  refine c0 h (je ?_)
  exact ⟨(decide (y53≥0)),y52,y53,hm,rfl,rfl⟩
 refine c0 h (je ?_)
 exact .inr (⟨y10,aI y11,aB (aly y11 a0),hm,(zD hH),rfl⟩)
abbrev afo (p0:zr):Nat×AV:=(3,aI (IntKind.wrap .i64 (((sll p0.E).length:Int)+((sll p0.D).length:Int))))
abbrev adC (p0:Int):Nat×AV:=(5,aI (IntKind.wrap .i64 (p0+1)))
abbrev auV (p0:zr):=((IntKind.wrap .i64 (((sll p0.E).length:Int)+((sll p0.D).length:Int)))==0)
abbrev avy (p0:Zr) (p1:zr):=(decide (p0.E≥(IntKind.wrap .i64 (((sll p1.E).length:Int)+((sll p1.D).length:Int)))))
theorem amh {n:Nat}{a0:zr}{r:Bool}(hm:aeg n a0=some r):
   call G n 169 [.agg (zc0 a0)] []=some (.ret (aB r),[]):=by
 unfold aeg at hm
 obtain ⟨n,rfl,h0⟩:=zp hm
 replace hm:=h0;clear h0
 refine zT 95 [(0,.agg (zc0 a0))] func169 rfl hH (sq (det [jA] [.box (zc0 a0) false] hH ?_))
 refine sq (sq (rg (s1 2 [(7,.pv (aiy a0)),(6,.ptr 0 1)] (dv 8 (v:=aI ((sll a0.H).length:Int)) (zu za a0.H t23 hH) hH (s1 2 [(10,aB (apL a0)),(9,aB (apL a0))] ?_)))))
 refine seg (apL a0) [10,9] (fun b=>[(15,aB (b||(ao2 a0))),(14,ifA b hY (aB (decide (((sll a0.E).length:Int)>20)))),(13,ifA b hY (aI ((sll a0.E).length:Int))),(12,ifA b hY (.pv (ac4 a0))),(11,ifA b hY (.ptr 0 3))]) 10 hH ?_ ?_ ?_
 ·intro Q h
  refine s1 5 [kJ,(14,.undef),(13,.undef),(12,.undef),(11,.undef)] ?_
  exact Ze hH hH h
 ·intro Q h
  refine s1 2 [(12,.pv (ac4 a0)),(11,.ptr 0 3)] (dv 13 (v:=aI (amS a0)) (zu za a0.E t23 hH) hH (s1 2 [(15,aB (ao2 a0)),(14,aB (ao2 a0))] ?_))
  exact Ze hH hH h
 refine s1 1 [(16,aB (atd a0))] ?_
 refine seg (atd a0) [16,15] (fun b=>[(21,aB (b||(apk a0))),(20,ifA b hY (aB (decide (((sll a0.D).length:Int)>10)))),(19,ifA b hY (anE a0)),(18,ifA b hY (.pv (qM a0))),(17,ifA b hY (.ptr 0 4))]) 16 hH ?_ ?_ ?_
 ·intro Q h
  refine s1 5 [(21,aB true),(20,.undef),(19,.undef),(18,.undef),(17,.undef)] ?_
  exact Ze hH hH h
 ·intro Q h
  refine s1 2 [(18,.pv (qM a0)),(17,.ptr 0 4)] (dv 19 (v:=aI (afr a0)) (zu zl a0.D t24 hH) hH (s1 2 [(21,aB (apk a0)),(20,aB (apk a0))] ?_))
  exact Ze hH hH h
 refine s1 1 [(22,aB (atq a0))] ?_
 refine seg (atq a0) [22,21] (fun b=>[(27,aB (b||(ao3 a0))),(26,ifA b hY (aB (decide (((sll a0.G).length:Int)>10)))),(25,ifA b hY (aI ((sll a0.G).length:Int))),(24,ifA b hY (.pv (aa3 a0))),(23,ifA b hY (.ptr 0 5))]) 22 hH ?_ ?_ ?_
 ·intro Q h
  refine s1 5 [kN,(26,.undef),(25,.undef),(24,.undef),(23,.undef)] ?_
  exact Ze hH hH h
 ·intro Q h
  refine s1 2 [(24,.pv (aa3 a0)),(23,.ptr 0 5)] (dv 25 (v:=aI (ajB a0)) (zu zx a0.G t25 hH) hH (s1 2 [(27,aB (ao3 a0)),(26,aB (ao3 a0))] ?_))
  exact Ze hH hH h
 refine fin [jA,(27,aB (awq a0))] rfl hH ?_
 rcases zd hm with ⟨h1,hm⟩|⟨h1,hm⟩
 ·refine c1 h1 (sq (dn [ko] (jc ?_)))
  cases hm;exact hJ
 refine c0 h1 (jd (sq (rg (s1 2 [(29,.pv (ac4 a0)),(28,.ptr 0 3)] (dv 30 (v:=aI (amS a0)) (zu za a0.E t23 hH) hH (s1 2 [(32,.pv (qM a0)),(31,.ptr 0 4)] (dv 33 (v:=aI (afr a0)) (zu zl a0.D t24 hH) hH (fq 2 [jA,(afo a0)] ?_))))))))
 refine sq (sq (rg (s1 3 [(37,aB (auV a0)),(36,aB (auV a0)),(35,aI (auu a0))] ?_)))
 refine seg (auV a0) [37,36] (fun b=>[(47,aB (b||((!a0.P)&&(decide (((sll a0.D).length:Int)>0))))),(46,ifA b hY (aB ((!a0.P)&&(decide (((sll a0.D).length:Int)>0))))),(45,ifA b hY (ifA (!a0.P) (aB (decide (((sll a0.D).length:Int)>0))) hY)),(44,ifA b hY (ifA (!a0.P) (aI ((sll a0.D).length:Int)) hY)),(43,ifA b hY (ifA (!a0.P) (.pv (zk zl a0.D)) hY)),(42,ifA b hY (ifA (!a0.P) (.ptr 0 4) hY)),(41,ifA b hY (aB (!a0.P))),(40,ifA b hY (aB (!a0.P))),(39,ifA b hY (aB a0.P)),(38,ifA b hY (.ptr 0 2))]) 13 hH ?_ ?_ ?_
 ·intro Q h
  refine s1 10 [(47,aB true),(46,.undef),(45,.undef),(44,.undef),(43,.undef),(42,.undef),(41,.undef),(40,.undef),(39,.undef),(38,.undef)] ?_
  exact Ze hH hH h
 ·intro Q h
  refine s1 4 [(41,aB (!a0.P)),(40,aB (!a0.P)),(39,aB a0.P),(38,.ptr 0 2)] ?_
  refine seg (!a0.P) [41,40] (fun b=>[(46,aB (b&&(apT a0))),(45,ifA b (aB (decide (((sll a0.D).length:Int)>0))) hY),(44,ifA b (anE a0) hY),(43,ifA b (.pv (qM a0)) hY),(42,ifA b (.ptr 0 4) hY)]) 12 hH ?_ ?_ ?_
  ·intro Q h
   refine s1 2 [(43,.pv (qM a0)),jU] (dv 44 (v:=aI (afr a0)) (zu zl a0.D t24 hH) hH (s1 2 [(46,aB (apT a0)),(45,aB (apT a0))] ?_))
   exact Ze hH hH h
  ·intro Q h
   refine s1 5 [kO,(45,.undef),(44,.undef),(43,.undef),(42,.undef)] ?_
   exact Ze hH hH h
  refine s1 1 [(47,aB ((!a0.P)&&(decide (((sll a0.D).length:Int)>0))))] ?_
  exact Ze hH hH h
 refine fin [jA,(afo a0),(47,aB (((IntKind.wrap .i64 (((sll a0.E).length:Int)+((sll a0.D).length:Int)))==0)||((!a0.P)&&(decide (((sll a0.D).length:Int)>0)))))] rfl hH ?_
 rcases zd hm with ⟨h2,hm⟩|⟨h2,hm⟩
 ·refine c1 h2 (sq (dn [ko] (jc ?_)))
  cases hm;exact hJ
 refine c0 h2 (jd ?_)
 obtain ⟨k5,hk5,hm⟩:=zo hm
 refine mid (fun t H=>(∃ (y3:Int) (y4:Bool),k5 ()=some r∧t=mk 95 [jA,(afo a0),(4,aI y3),(52,aB y4)]∧H=[.box (zc0 a0) false])) ?_ ?_
 ·rintro _ _ ⟨y3,y4,hm,rfl,rfl⟩
  subst hk5
  obtain ⟨k8,hk8,hm⟩:=zo hm
  refine mid (fun t H=>(∃ (y6:Int) (y7:Bool),k8 ()=some r∧t=mk 95 [jA,(afo a0),(5,aI y6),(75,aB y7)]∧H=[.box (zc0 a0) false])) ?_ ?_
  ·rintro _ _ ⟨y6,y7,hm,rfl,rfl⟩
   subst hk8
   refine sq (dn [kK] (jc ?_))
   cases hm;exact hJ
  refine sq (dn [jA,(afo a0),j9] (bq ?_))
  refine ZR (fun mm t H=>(∃ (y10:Int),qU n a0 k8 mm y10=some r∧t=mk 95 [jA,(afo a0),(5,aI y10)]∧H=[.box (zc0 a0) false])) (⟨0,hm,rfl,rfl⟩) ?_ ?_
  ·
    rintro _ _ ⟨y10,hm,_⟩;exact nomatch hm
  rintro m11 _ _ ⟨y10,hm,rfl,rfl⟩
  simp only [qU] at hm
  refine sq (sq (rg (s1 3 [(73,.pv (aa3 a0)),(72,.ptr 0 5),(71,aI y10)] (dv 74 (v:=aI (ajB a0)) (zu zx a0.G t25 hH) hH (fq 1 [jA,(afo a0),(5,aI y10),(75,aB (decide (y10<((sll a0.G).length:Int))))] ?_)))))
  rcases zd hm with ⟨h12,hm⟩|⟨h12,hm⟩
  ·refine c1 h12 (jd (sq (bq (sq (rg (s1 3 [(80,aI y10),(79,.pv (aa3 a0)),(78,.ptr 0 5)] ?_))))))
   obtain ⟨x13,h14,hm⟩:=bs hm
   refine dv 81 (v:=.pv (.ptr (zx x13) 0)) (Zz zx a0.G .i64 t25 t86 h14 rfl hH) hH (s1 4 [(85,aB (aix x13)),(84,aB (aix x13)),(83,aI x13.E),(82,.pv (.ptr (zx x13) 0))] ?_)
   refine seg (aix x13) [85,84] (fun b=>[(94,aB (b||(avy x13 a0))),(93,ifA b hY (aB (decide (x13.E≥(IntKind.wrap .i64 (((sll a0.E).length:Int)+((sll a0.D).length:Int))))))),(92,ifA b hY (aI (IntKind.wrap .i64 (((sll a0.E).length:Int)+((sll a0.D).length:Int))))),(91,ifA b hY (aI x13.E)),(90,ifA b hY (.pv (.ptr (zx x13) 0))),(89,ifA b hY (.pv (.ptr (zx x13) 0))),(88,ifA b hY (aI y10)),(87,ifA b hY (.pv (aa3 a0))),(86,ifA b hY (.ptr 0 5))]) 17 hH ?_ ?_ ?_
   ·intro Q h
    refine s1 9 [(94,aB true),(93,.undef),(92,.undef),(91,.undef),(90,.undef),(89,.undef),(88,.undef),(87,.undef),(86,.undef)] ?_
    exact Ze hH hH h
   ·intro Q h
    refine s1 3 [(88,aI y10),(87,.pv (aa3 a0)),(86,.ptr 0 5)] (dv 89 (v:=.pv (.ptr (zx x13) 0)) (Zz zx a0.G .i64 t25 t86 h14 rfl hH) hH (s1 5 [(94,aB (avy x13 a0)),(93,aB (avy x13 a0)),(92,aI (auu a0)),(91,aI x13.E),(90,.pv (.ptr (zx x13) 0))] ?_))
    exact Ze hH hH h
   refine fin [jA,(afo a0),(5,aI y10),(94,aB ((decide (x13.E<0))||(decide (x13.E≥(IntKind.wrap .i64 (((sll a0.E).length:Int)+((sll a0.D).length:Int)))))))] rfl hH ?_
   rcases zd hm with ⟨h15,hm⟩|⟨h15,hm⟩
   ·refine c1 h15 (sq (dn [ko] (jc ?_)))
    cases hm;exact hJ
   refine c0 h15 (jd (dn [jA,(afo a0),(adC y10)] ?_))
   exact ⟨_,_,Zg [jA,(afo a0),(adC y10)] [.box (zc0 a0) false] hH,⟨(zN y10),hm,rfl,rfl⟩⟩
  refine c0 h12 (je ?_)
  exact ⟨y10,(decide (y10<((sll a0.G).length:Int))),hm,rfl,rfl⟩
 refine sq (dn [jA,(afo a0),j8] (bq ?_))
 refine ZR (fun mm t H=>(∃ (y17:Int),Q6 n a0 k5 mm y17=some r∧t=mk 95 [jA,(afo a0),(4,aI y17)]∧H=[.box (zc0 a0) false])) (⟨0,hm,rfl,rfl⟩) ?_ ?_
 ·
   rintro _ _ ⟨y17,hm,_⟩;exact nomatch hm
 rintro m18 _ _ ⟨y17,hm,rfl,rfl⟩
 simp only [Q6] at hm
 refine sq (sq (rg (s1 3 [(50,.pv (qM a0)),(49,.ptr 0 4),(48,aI y17)] (dv 51 (v:=aI (afr a0)) (zu zl a0.D t24 hH) hH (fq 1 [jA,(afo a0),(4,aI y17),(52,aB (agF y17 a0))] ?_)))))
 rcases zd hm with ⟨h19,hm⟩|⟨h19,hm⟩
 ·refine c1 h19 (jd (sq (bq (sq (rg (s1 3 [(57,aI y17),(56,.pv (qM a0)),jV] ?_))))))
  obtain ⟨x20,h21,hm⟩:=bs hm
  refine dv 58 (v:=.pv (.ptr (zl x20) 0)) (Zz zl a0.D .i64 t24 t101 h21 rfl hH) hH (s1 4 [(62,aB (ahw x20)),(61,aB (ahw x20)),(60,aI x20.A),(59,.pv (.ptr (zl x20) 0))] ?_)
  refine seg (ahw x20) [62,61] (fun b=>[(70,aB (b||(decide (x20.A>4)))),(69,ifA b hY (aB (decide (x20.A>4)))),(68,ifA b hY (aI x20.A)),(67,ifA b hY (.pv (.ptr (zl x20) 0))),(66,ifA b hY (.pv (.ptr (zl x20) 0))),(65,ifA b hY (aI y17)),(64,ifA b hY (.pv (qM a0))),(63,ifA b hY (.ptr 0 4))]) 16 hH ?_ ?_ ?_
  ·intro Q h
   refine s1 8 [(70,aB true),(69,.undef),(68,.undef),(67,.undef),(66,.undef),(65,.undef),(64,.undef),(63,.undef)] ?_
   exact Ze hH hH h
  ·intro Q h
   refine s1 3 [(65,aI y17),(64,.pv (qM a0)),(63,.ptr 0 4)] (dv 66 (v:=.pv (.ptr (zl x20) 0)) (Zz zl a0.D .i64 t24 t101 h21 rfl hH) hH (s1 4 [(70,aB (decide (x20.A>4))),(69,aB (decide (x20.A>4))),(68,aI x20.A),(67,.pv (.ptr (zl x20) 0))] ?_))
   exact Ze hH hH h
  refine fin [jA,(afo a0),(4,aI y17),(70,aB (as9 x20))] rfl hH ?_
  rcases zd hm with ⟨h22,hm⟩|⟨h22,hm⟩
  ·refine c1 h22 (sq (dn [ko] (jc ?_)))
   cases hm;exact hJ
  refine c0 h22 (jd (dn [jA,(afo a0),(zp26 y17)] ?_))
  exact ⟨_,_,Zg [jA,(afo a0),(zp26 y17)] [.box (zc0 a0) false] hH,⟨(zN y17),hm,rfl,rfl⟩⟩
 refine c0 h19 (je ?_)
 exact ⟨y17,(agF y17 a0),hm,rfl,rfl⟩
abbrev aqY:=([0,0,0,2,2,2,1,2,2,2,2,2,1,1]:List Int)
theorem aoN {n:Nat}{a0:Int}{r:Int}(hm:af4 n a0=some r):
   call G n 243 [aI a0] []=some (.ret (aI r),[]):=by
 unfold af4 at hm
 obtain ⟨n,rfl,h0⟩:=zp hm
 replace hm:=h0;clear h0
 refine zT 14 [(0,aI a0)] func243 rfl hH (sq (dn [(0,aI a0)] ?_))
 refine sq (sq (rg (s1 3 [(6,aB (decide (a0<1))),(5,aB (decide (a0<1))),(4,aI a0)] ?_)))
 refine segP (decide (a0<1)) [6,5] (fun b=>[(9,aB (b||(decide (a0>13)))),(8,ifA b hY (aB (decide (a0>13)))),(7,ifA b hY (aI a0))]) 3 hH hH hH (fin [(0,aI a0),(9,aB ((decide (a0<1))||(decide (a0>13))))] rfl hH ?_)
 rcases zd hm with ⟨h,hm⟩|⟨h,hm⟩
 ·refine c1 h (sq (dn [(2,aI (-1))] (jc ?_)))
  cases hm;exact hJ
 refine c0 h (jd (sq (det [(0,aI a0),jE] [.box (aA .i64 14 (fun i=>aqY.getD i 0)) false] hH (sq (rg (s1 1 [(11,aI a0)] ?_))))))
 obtain ⟨_,h2,hm⟩:=bs hm
 refine dv 12 (v:=.ptr 0 (0+Int.toNat a0*1)) (aiZ (n:=14) (id:=0) (off:=0) 1 .i64 t282 t3 rfl h2 hH) hH (dv 13 (v:=aI ((fun i=>aqY.getD i 0) (Int.toNat a0))) (akP (k:=.i64) (n:=14) (id:=0) (off:=0) (z:=false) (fun i=>aqY.getD i 0) [] [] (aA .i64 14 (fun i=>aqY.getD i 0)) t3 rfl rfl hH hH hH h2 hH) hH (fq 1 [(2,aI ((fun i=>aqY.getD i 0) (Int.toNat a0)))] (jc ?_)))
 cases hm;exact hJ
theorem aeO {n:Nat}{a0:Nat}{r:Bool}(hm:acm n a0=some r):
   call G n 260 [aF a0] []=some (.ret (aB r),[]):=by
 unfold acm at hm
 obtain ⟨n,rfl,h0⟩:=zp hm
 replace hm:=h0;clear h0
 refine zT 10 [(0,aF a0)] func260 rfl hH (sq (dn [(0,aF a0)] (sq (rg (s1 3 [(5,aB ((FloatKind.format .f64).order a0 0==some .eq)),(4,aB ((FloatKind.format .f64).order a0 0==some .eq)),(3,aF a0)] ?_)))))
 rcases zd hm with ⟨h,hm⟩|⟨h,hm⟩
 ·refine known [5,4] h hH (s1 1 [(6,aF a0)] ?_)
  obtain ⟨x2,h3,hm⟩:=bs hm
  refine dv 7 (v:=aF x2) (atT h3 hH) hH (fq 3 [(2,aB ((FloatKind.format .f64).order x2 0==some .gt))] (jc ?_))
  cases hm;exact hJ
 refine known [5,4] h hH (fq 5 [ko] (jc ?_))
 cases hm;exact hJ
theorem aiN {n:Nat}{a0:zn}{r:Bool}(hm:acb n a0=some r):
   call G n 244 [.agg (zc6 a0)] []=some (.ret (aB r),[]):=by
 unfold acb at hm
 obtain ⟨n,rfl,h0⟩:=zp hm
 replace hm:=h0;clear h0
 refine zT 76 [(0,.agg (zc6 a0))] func244 rfl hH (sq (det [jA] [.box (zc6 a0) false] hH (sq (sq (dn [jA,(4,aI a0.A)] (bq (sq (dn [jA,(4,aI a0.A),(5,aB (a0.A==0))] ?_))))))))
 rcases zd hm with ⟨h,hm⟩|⟨h,hm⟩
 ·refine c1 h (sq (rg (s1 4 [(10,aB (a0.K==0)),(9,aB (a0.K==0)),(8,aI a0.K),(7,.ptr 0 1)] ?_)))
  rcases zd hm with ⟨h,hm⟩|⟨h,hm⟩
  ·refine known [10,9] h hH (s1 2 [(12,aF a0.I),(11,.ptr 0 2)] ?_)
   obtain ⟨x3,h4,hm⟩:=bs hm
   refine dv 13 (zC hH (aeO h4) hH hH hH) hH (s1 2 [(15,aB x3),(14,aB x3)] ?_)
   refine segP x3 [15,14,13] (fun b=>[(19,aB (b&&(ank a0))),(18,ifA b (amO a0) hY),(17,ifA b (aS a0.N) hY),(16,ifA b (.ptr 0 3) hY)]) 4 hH hH hH (fq 1 [(2,aB (x3&&(sEq a0.N ByteArray.empty)))] (jc ?_))
   cases hm;exact hJ
  refine known [10,9] h hH (fq 10 [ko] (jc ?_))
  cases hm;exact hJ
 refine c0 h (sq (dn [jA,(4,aI a0.A),(20,aB (a0.A==1))] ?_))
 rcases zd hm with ⟨h,hm⟩|⟨h,hm⟩
 ·refine c1 h (sq (rg (s1 4 [(25,aB (a0.K==0)),(24,aB (a0.K==0)),(23,aI a0.K),(22,.ptr 0 1)] ?_)))
  refine segP (a0.K==0) [25,24] (fun b=>[(29,aB (b||(a0.K==1))),(28,ifA b hY (aB (a0.K==1))),(27,ifA b hY (aI a0.K)),(26,ifA b hY (.ptr 0 1))]) 4 hH hH hH (s1 1 [(30,aB ((a0.K==0)||(a0.K==1)))] ?_)
  rcases zd hm with ⟨h,hm⟩|⟨h,hm⟩
  ·refine known [30,29] h hH (s1 2 [(32,aF a0.I),(31,.ptr 0 2)] ?_)
   obtain ⟨x7,h8,hm⟩:=bs hm
   refine dv 33 (zC hH (aeO h8) hH hH hH) hH (s1 2 [(35,aB x7),(34,aB x7)] ?_)
   refine segP x7 [35,34,33] (fun b=>[(39,aB (b&&(ank a0))),(38,ifA b (amO a0) hY),(37,ifA b (aS a0.N) hY),(36,ifA b (.ptr 0 3) hY)]) 4 hH hH hH (fq 1 [(2,aB (x7&&(sEq a0.N ByteArray.empty)))] (jc ?_))
   cases hm;exact hJ
  refine known [30,29] h hH (fq 10 [ko] (jc ?_))
  cases hm;exact hJ
 refine c0 h (sq (dn [jA,(4,aI a0.A),(40,aB (a0.A==2))] ?_))
 rcases zd hm with ⟨h,hm⟩|⟨h,hm⟩
 ·refine c1 h (sq (rg (s1 2 [(43,aF a0.I),(42,.ptr 0 2)] ?_)))
  obtain ⟨x10,h11,hm⟩:=bs hm
  refine dv 44 (zC hH (aeO h11) hH hH hH) hH (s1 1 [(45,aB x10)] ?_)
  refine segP x10 [45,44] (fun b=>[(49,aB (b&&(ank a0))),(48,ifA b (amO a0) hY),(47,ifA b (aS a0.N) hY),(46,ifA b (.ptr 0 3) hY)]) 4 hH hH hH (fq 1 [(2,aB (x10&&(sEq a0.N ByteArray.empty)))] (jc ?_))
  cases hm;exact hJ
 refine c0 h (sq (dn [jA,(4,aI a0.A),(50,aB (a0.A==3))] ?_))
 rcases zd hm with ⟨h,hm⟩|⟨h,hm⟩
 ·refine c1 h (sq (rg (s1 4 [(55,aB (a0.K==0)),(54,aB (a0.K==0)),(53,aI a0.K),(52,.ptr 0 1)] ?_)))
  refine segP (a0.K==0) [55,54] (fun b=>[(59,aB (b&&(ank a0))),(58,ifA b (amO a0) hY),(57,ifA b (aS a0.N) hY),(56,ifA b (.ptr 0 3) hY)]) 4 hH hH hH (fq 1 [(2,aB ((a0.K==0)&&(sEq a0.N ByteArray.empty)))] (jc ?_))
  cases hm;exact hJ
 refine c0 h (sq (dn [jA,(60,aB (a0.A==4))] ?_))
 rcases zd hm with ⟨h,hm⟩|⟨h,hm⟩
 ·refine c1 h (sq (rg (s1 4 [(65,aB (a0.K==0)),(64,aB (a0.K==0)),(63,aI a0.K),(62,.ptr 0 1)] ?_)))
  rcases zd hm with ⟨h,hm⟩|⟨h,hm⟩
  ·refine known [65,64] h hH (s1 2 [(67,aF a0.I),(66,.ptr 0 2)] ?_)
   obtain ⟨x15,h16,hm⟩:=bs hm
   refine dv 68 (zC hH (aeO h16) hH hH hH) hH (s1 2 [(70,aB x15),(69,aB x15)] ?_)
   refine segP x15 [70,69,68] (fun b=>[(75,aB (b&&(decide ((a0.N.size:Int)≤64)))),(74,ifA b (aB (decide ((a0.N.size:Int)≤64))) hY),(73,ifA b (aI (a0.N.size:Int)) hY),(72,ifA b (aS a0.N) hY),(71,ifA b (.ptr 0 3) hY)]) 5 hH hH hH (fq 1 [(2,aB (x15&&(decide ((a0.N.size:Int)≤64))))] (jc ?_))
   cases hm;exact hJ
  refine known [65,64] h hH (fq 11 [ko] (jc ?_))
  cases hm;exact hJ
 refine c0 h (jd (sq (dn [ko] (jc ?_))))
 cases hm;exact hJ
theorem ami {rc_ref22_parts:(Nat→zf→Int→Option (Int))}(ih_ref22_parts:∀ {n:Nat}{a0:zf}{a1:Int}{r:Int}(hm:rc_ref22_parts n a0 a1=some r),call G n 204 [.agg [aI a0.A,aI a0.C,aI a0.M,aI a0.F.A,aI a0.F.K,aF a0.F.I,aS a0.F.N,.pv (zk za a0.B)],aI a1] []=some (.ret (aI r),[])) {n:Nat}{a0:zf}{a1:Int}{r:Int}(hm:aaO rc_ref22_parts n a0 a1=some r):
   call G n 204 [.agg (zc7 a0),aI a1] []=some (.ret (aI r),[]):=by
 unfold aaO at hm
 obtain ⟨n,rfl,h0⟩:=zp hm
 replace hm:=h0;clear h0
 refine zT 92 [(0,.agg (zc7 a0)),(1,aI a1)] func204 rfl hH (sq (det [(1,aI a1),jz] [.box (zc7 a0) false] hH (sq (dn [(1,aI a1),jz,ka] ?_))))
 obtain ⟨k2,hk2,hm⟩:=zo hm
 refine mid (fun t H=>(∃ (y1:Bool),k2 ()=some r∧t=mk 92 [(1,aI a1),jz,ka,(53,aB y1)]∧H=[.box (zc7 a0) false])) ?_ ?_
 ·rintro _ _ ⟨y1,hm,rfl,rfl⟩
  subst hk2
  refine sq (sq (rg (s1 2 [(56,.agg (zc8 a0)),(55,.ptr 0 3)] ?_)))
  obtain ⟨x3,h4,hm⟩:=bs hm
  refine dv 57 (zC hH (aiN h4) hH hH hH) hH (s1 2 [(59,aB (!x3)),(58,aB (!x3))] ?_)
  refine seg (!x3) [59,58] (fun b=>[(69,aB (b||((a0.A !=2)&&(a0.F.A !=0)))),(68,ifA b hY (aB ((a0.A !=2)&&(a0.F.A !=0)))),(67,ifA b hY (ifA (a0.A !=2) (aB (a0.F.A !=0)) hY)),(66,ifA b hY (ifA (a0.A !=2) (aI a0.F.A) hY)),(65,ifA b hY (ifA (a0.A !=2) (.ptr 0 3) hY)),(64,ifA b hY (ifA (a0.A !=2) (.ptr 0 3) hY)),(63,ifA b hY (aB (a0.A !=2))),(62,ifA b hY (aB (a0.A !=2))),(61,ifA b hY (aI a0.A)),(60,ifA b hY (.ptr 0 0))]) 15 hH ?_ ?_ ?_
  ·intro Q h
   refine s1 10 [(69,aB true),(68,.undef),(67,.undef),(66,.undef),(65,.undef),(64,.undef),(63,.undef),(62,.undef),(61,.undef),(60,.undef)] ?_
   exact Ze hH hH h
  ·intro Q h
   refine s1 4 [(63,aB (a0.A !=2)),(62,aB (a0.A !=2)),(61,aI a0.A),(60,.ptr 0 0)] ?_
   refine segP (a0.A !=2) [63,62] (fun b=>[(68,aB (b&&(a0.F.A !=0))),(67,ifA b (aB (a0.F.A !=0)) hY),(66,ifA b (aI a0.F.A) hY),(65,ifA b (.ptr 0 3) hY),(64,ifA b (.ptr 0 3) hY)]) 5 hH hH hH (s1 1 [(69,aB ((a0.A !=2)&&(a0.F.A !=0)))] ?_)
   exact Ze hH hH h
  refine fin [(1,aI a1),jz,ka,(69,aB ((!x3)||((a0.A !=2)&&(a0.F.A !=0))))] rfl hH ?_
  rcases zd hm with ⟨h5,hm⟩|⟨h5,hm⟩
  ·refine c1 h5 (sq (dn [kj] (jc ?_)))
   cases hm;exact hJ
  refine c0 h5 (jd (sq (dn [(1,aI a1),jz,ka,(6,aI 1)] ?_)))
  obtain ⟨k9,hk9,hm⟩:=zo hm
  refine mid (fun t H=>(∃ (y6:Int) (y7:Int) (y8:Bool),k9 y6=some r∧t=mk 92 [(1,aI a1),jz,ka,(6,aI y6),(7,aI y7),(75,aB y8)]∧H=[.box (zc7 a0) false])) ?_ ?_
  ·rintro _ _ ⟨y6,y7,y8,hm,rfl,rfl⟩
   subst hk9
   refine sq (dn [(4,aI y6)] (jc ?_))
   cases hm;exact hJ
  refine sq (dn [(1,aI a1),jz,ka,(6,aI 1),kg] (bq ?_))
  refine ZR (fun mm t H=>(∃ (y12:Int) (y13:Int),aa0 n rc_ref22_parts a0 a1 k9 mm y12 y13=some r∧t=mk 92 [(1,aI a1),jz,ka,(6,aI y12),(7,aI y13)]∧H=[.box (zc7 a0) false])) (⟨1,0,hm,rfl,rfl⟩) ?_ ?_
  ·
    rintro _ _ ⟨y12,y13,hm,_⟩;exact nomatch hm
  rintro m14 _ _ ⟨y12,y13,hm,rfl,rfl⟩
  simp only [aa0] at hm
  refine sq (sq (rg (s1 3 [(73,.pv (abb a0)),(72,.ptr 0 7),(71,aI y13)] (dv 74 (v:=aI (afb a0)) (zu za a0.B t23 hH) hH (fq 1 [(1,aI a1),jz,ka,(6,aI y12),(7,aI y13),(75,aB (adU y13 a0))] ?_)))))
  rcases zd hm with ⟨h15,hm⟩|⟨h15,hm⟩
  ·refine c1 h15 (jd (sq (bq (sq (rg (s1 4 [(81,aI y13),(80,.pv (abb a0)),(79,.ptr 0 7),(78,aI y12)] ?_))))))
   obtain ⟨x16,h17,hm⟩:=bs hm
   refine dv 82 (v:=.pv (.ptr (Z5 x16) 0)) (zS za a0.B .i64 t23 t49 h17 (zt x16) rfl hH) hH (s1 3 [(85,aI (zN a1)),(84,aI a1),(83,.agg (zc9 x16))] ?_)
   obtain ⟨x18,h19,hm⟩:=bs hm
   refine dv 86 (zC hH (ih_ref22_parts h19) hH hH hH) hH (fq 2 [(1,aI a1),jz,ka,(6,aI (ais y12 x18)),(7,aI y13)] (sq (dn [(1,aI a1),jz,ka,(6,aI (ais y12 x18)),(7,aI y13),(89,aB (decide ((IntKind.wrap .i64 (y12+x18))>400)))] ?_)))
   rcases zd hm with ⟨h20,hm⟩|⟨h20,hm⟩
   ·refine c1 h20 (sq (dn [kj] (jc ?_)))
    cases hm;exact hJ
   refine c0 h20 (jd (dn [(1,aI a1),jz,ka,(6,aI (ais y12 x18)),(zp32 y13)] ?_))
   exact ⟨_,_,Zg [(1,aI a1),jz,ka,(6,aI (ais y12 x18)),(zp32 y13)] [.box (zc7 a0) false] hH,⟨(ais y12 x18),(zN y13),hm,rfl,rfl⟩⟩
  refine c0 h15 (je ?_)
  exact ⟨y12,y13,(adU y13 a0),hm,rfl,rfl⟩
 refine sq (rgd (shd 3 [(10,aB (decide (a1>24))),(9,aB (decide (a1>24))),(8,aI a1)] hH ?_))
 rcases zd hm with ⟨h21,hm⟩|⟨h21,hm⟩
 ·refine zM [10,9] h21 hH (shd 43 [kp,(52,.undef),(51,.undef),(50,.undef),(49,.undef),(48,.undef),(47,.undef),(46,.undef),(45,.undef),(44,.undef),(43,.undef),(42,.undef),(41,.undef),(40,.undef),kP,kB,(37,.undef),(36,.undef),(35,.undef),kQ,ku,(32,.undef),(31,.undef),(30,.undef),kr,kq,(27,.undef),(26,.undef),(25,.undef),kA,kz,(22,.undef),(21,.undef),(20,.undef),(19,aB true),(18,aB true),(17,.undef),(16,.undef),(15,.undef),(14,.undef),(13,.undef),(12,.undef),(11,.undef)] hH (find [(1,aI a1),jz,ka,kp] rfl hH hH (cT hH (sq (dn [kj] (jc ?_))))))
  cases hm;exact hJ
 refine zM [10,9] h21 hH (shd 2 [(12,aI a0.A),(11,.ptr 0 0)] hH ?_)
 obtain ⟨x22,h23,hm⟩:=bs hm
 refine dvd 13 (zC hH (aoN h23) hH hH hH) hH (shd 2 [(15,.pv (abb a0)),(14,.ptr 0 7)] hH (dvd 16 (v:=aI (afb a0)) (zu za a0.B t23 hH) hH (shd 3 [(19,aB (x22 !=((sll a0.B).length:Int))),(18,aB (x22 !=((sll a0.B).length:Int))),(17,aB (x22 !=((sll a0.B).length:Int)))] hH ?_)))
 rcases zd hm with ⟨h24,hm⟩|⟨h24,hm⟩
 ·refine zM [19,18,17] h24 hH (shd 34 [kp,(52,.undef),(51,.undef),(50,.undef),(49,.undef),(48,.undef),(47,.undef),(46,.undef),(45,.undef),(44,.undef),(43,.undef),(42,.undef),(41,.undef),(40,.undef),kP,kB,(37,.undef),(36,.undef),(35,.undef),kQ,ku,(32,.undef),(31,.undef),(30,.undef),kr,kq,(27,.undef),(26,.undef),(25,.undef),kA,kz,(22,.undef),(21,.undef),(20,.undef)] hH (find [(1,aI a1),jz,ka,kp] rfl hH hH (cT hH (sq (dn [kj] (jc ?_))))))
  cases hm;exact hJ
 refine zM [19,18,17] h24 hH (shd 5 [(24,aB (decide (a0.C<0))),(23,aB (decide (a0.C<0))),(22,aB (decide (a0.C<0))),(21,aI a0.C),(20,.ptr 0 1)] hH ?_)
 rcases zd hm with ⟨h25,hm⟩|⟨h25,hm⟩
 ·refine zM [24,23,22] h25 hH (shd 29 [kp,(52,.undef),(51,.undef),(50,.undef),(49,.undef),(48,.undef),(47,.undef),(46,.undef),(45,.undef),(44,.undef),(43,.undef),(42,.undef),(41,.undef),(40,.undef),kP,kB,(37,.undef),(36,.undef),(35,.undef),kQ,ku,(32,.undef),(31,.undef),(30,.undef),kr,kq,(27,.undef),(26,.undef),(25,.undef)] hH (find [(1,aI a1),jz,ka,kp] rfl hH hH (cT hH (sq (dn [kj] (jc ?_))))))
  cases hm;exact hJ
 refine zM [24,23,22] h25 hH (shd 5 [(29,aB (decide (a0.C>31))),(28,aB (decide (a0.C>31))),(27,aB (decide (a0.C>31))),(26,aI a0.C),(25,.ptr 0 1)] hH ?_)
 rcases zd hm with ⟨h26,hm⟩|⟨h26,hm⟩
 ·refine zM [29,28,27] h26 hH (shd 24 [kp,(52,.undef),(51,.undef),(50,.undef),(49,.undef),(48,.undef),(47,.undef),(46,.undef),(45,.undef),(44,.undef),(43,.undef),(42,.undef),(41,.undef),(40,.undef),kP,kB,(37,.undef),(36,.undef),(35,.undef),kQ,ku,(32,.undef),(31,.undef),(30,.undef)] hH (find [(1,aI a1),jz,ka,kp] rfl hH hH (cT hH (sq (dn [kj] (jc ?_))))))
  cases hm;exact hJ
 refine zM [29,28,27] h26 hH (shd 5 [(34,aB (decide (a0.M<0))),(33,aB (decide (a0.M<0))),(32,aB (decide (a0.M<0))),(31,aI a0.M),(30,.ptr 0 2)] hH ?_)
 rcases zd hm with ⟨h27,hm⟩|⟨h27,hm⟩
 ·refine zM [34,33,32] h27 hH (shd 19 [kp,(52,.undef),(51,.undef),(50,.undef),(49,.undef),(48,.undef),(47,.undef),(46,.undef),(45,.undef),(44,.undef),(43,.undef),(42,.undef),(41,.undef),(40,.undef),kP,kB,(37,.undef),(36,.undef),(35,.undef)] hH (find [(1,aI a1),jz,ka,kp] rfl hH hH (cT hH (sq (dn [kj] (jc ?_))))))
  cases hm;exact hJ
 refine zM [34,33,32] h27 hH (shd 5 [(39,aB (decide (a0.M>31))),(38,aB (decide (a0.M>31))),(37,aB (decide (a0.M>31))),(36,aI a0.M),(35,.ptr 0 2)] hH ?_)
 rcases zd hm with ⟨h28,hm⟩|⟨h28,hm⟩
 ·refine zM [39,38,37] h28 hH (shd 14 [kp,(52,.undef),(51,.undef),(50,.undef),(49,.undef),(48,.undef),(47,.undef),(46,.undef),(45,.undef),(44,.undef),(43,.undef),(42,.undef),(41,.undef),(40,.undef)] hH (find [(1,aI a1),jz,ka,kp] rfl hH hH (cT hH (sq (dn [kj] (jc ?_))))))
  cases hm;exact hJ
 refine zM [39,38,37] h28 hH (shd 4 [(43,aB (a0.A !=1)),(42,aB (a0.A !=1)),(41,aI a0.A),(40,.ptr 0 0)] hH ?_)
 rcases zd hm with ⟨h29,hm⟩|⟨h29,hm⟩
 ·refine zM [43,42] h29 hH (shd 4 [(47,aB (a0.C !=0)),(46,aB (a0.C !=0)),(45,aI a0.C),(44,.ptr 0 1)] hH ?_)
  rcases zd hm with ⟨h30,hm⟩|⟨h30,hm⟩
  ·refine zM [47,46] h30 hH (shd 6 [kp,(52,aB true),(51,aB true),(50,.undef),(49,.undef),(48,.undef)] hH (find [(1,aI a1),jz,ka,kp] rfl hH hH (cT hH (sq (dn [kj] (jc ?_))))))
   cases hm;exact hJ
  refine zM [47,46] h30 hH (shd 6 [(53,aB (a0.M !=0)),(52,aB (a0.M !=0)),(51,aB (a0.M !=0)),(50,aB (a0.M !=0)),(49,aI a0.M),(48,.ptr 0 2)] hH (find [(1,aI a1),jz,ka,(53,aB (a0.M !=0))] rfl hH hH ?_))
  rcases zd hm with ⟨h31,hm⟩|⟨h31,hm⟩
  ·refine c1 h31 (sq (dn [kj] (jc ?_)))
   cases hm;exact hJ
  refine c0 h31 (jd ?_)
  exact ⟨(a0.M !=0),hm,rfl,rfl⟩
 refine zM [43,42] h29 hH (shd 10 [(53,aB false),(52,aB false),(51,.undef),(50,.undef),(49,.undef),(48,.undef),(47,.undef),(46,.undef),(45,.undef),(44,.undef)] hH (find [(1,aI a1),jz,ka,(53,aB false)] rfl hH hH (cF hH (jd ?_))))
 exact ⟨false,hm,rfl,rfl⟩
theorem ahC:∀ (m:Nat),∀ {n:Nat}{a0:zf}{a1:Int}{r:Int}(hm:Qt m n a0 a1=some r),call G n 204 [.agg (zc7 a0),aI a1] []=some (.ret (aI r),[])
 |0=>by intros;rename_i hm;exact nomatch hm
 |m+1=>fun hm=>
  ami (ahC m) hm
theorem anS {n:Nat}{a0:zf}{a1:Int}{r:Int}(hm:aiT n a0 a1=some r):
 call G n 204 [.agg (zc7 a0),aI a1] []=some (.ret (aI r),[]):=ahC n hm
theorem afd {n:Nat}{a0:zf}{r:Bool}(hm:aaC n a0=some r):
  call G n 164 [.agg (zc7 a0)] []=some (.ret (aB r),[]):=by
 unfold aaC at hm
 obtain ⟨n,rfl,h0⟩:=zp hm
 replace hm:=h0;clear h0
 refine zT 6 [(0,.agg (zc7 a0))] func164 rfl hH (sq (det [jA] [.box (zc7 a0) false] hH (sq (rg (s1 1 [(3,.agg (zc7 a0))] ?_)))))
 obtain ⟨x1,h2,hm⟩:=bs hm
 refine dv 4 (zC hH (anS h2) hH hH hH) hH (fq 2 [(2,aB (decide (x1≤400)))] (jc ?_))
 cases hm;exact hJ
theorem an1 {rc_ref22_refs:(Nat→zf→jn→Option (Bool))}(ih_ref22_refs:∀ {n:Nat}{a0:zf}{a1:jn}{r:Bool}(hm:rc_ref22_refs n a0 a1=some r),call G n 217 [.agg [aI a0.A,aI a0.C,aI a0.M,aI a0.F.A,aI a0.F.K,aF a0.F.I,aS a0.F.N,.pv (zk za a0.B)],.pv (zk zm a1)] []=some (.ret (aB r),[])) {n:Nat}{a0:zf}{a1:jn}{r:Bool}(hm:ad7 rc_ref22_refs n a0 a1=some r):
   call G n 217 [.agg (zc7 a0),.pv (zy a1)] []=some (.ret (aB r),[]):=by
 unfold ad7 at hm
 obtain ⟨n,rfl,h0⟩:=zp hm
 replace hm:=h0;clear h0
 refine zT 43 [(0,.agg (zc7 a0)),(zp33 a1)] func217 rfl hH (sq (det [(zp33 a1),jz] [.box (zc7 a0) false] hH ?_))
 obtain ⟨k2,hk2,hm⟩:=zo hm
 refine mid (fun t H=>(∃ (y1:Bool),k2 ()=some r∧t=mk 43 [(zp33 a1),jz,(27,aB y1)]∧H=[.box (zc7 a0) false])) ?_ ?_
 ·rintro _ _ ⟨y1,hm,rfl,rfl⟩
  subst hk2
  obtain ⟨k5,hk5,hm⟩:=zo hm
  refine mid (fun t H=>(∃ (y3:Bool) (y4:Int),k5 ()=some r∧t=mk 43 [(zp33 a1),jz,(5,aI y4),(32,aB y3)]∧H=[.box (zc7 a0) false])) ?_ ?_
  ·rintro _ _ ⟨y3,y4,hm,rfl,rfl⟩
   subst hk5
   refine sq (dn [kx] (jc ?_))
   cases hm;exact hJ
  refine sq (dn [(zp33 a1),jz,j9] (bq ?_))
  refine ZR (fun mm t H=>(∃ (y7:Int),Qr n rc_ref22_refs a0 a1 k5 mm y7=some r∧t=mk 43 [(zp33 a1),jz,(5,aI y7)]∧H=[.box (zc7 a0) false])) (⟨0,hm,rfl,rfl⟩) ?_ ?_
  ·
    rintro _ _ ⟨y7,hm,_⟩;exact nomatch hm
  rintro m8 _ _ ⟨y7,hm,rfl,rfl⟩
  simp only [Qr] at hm
  refine sq (sq (rg (s1 3 [(30,.pv (abb a0)),(29,.ptr 0 7),(28,aI y7)] (dv 31 (v:=aI (afb a0)) (zu za a0.B t23 hH) hH (fq 1 [(zp33 a1),jz,(5,aI y7),(32,aB (adU y7 a0))] ?_)))))
  rcases zd hm with ⟨h,hm⟩|⟨h,hm⟩
  ·refine c1 h (jd (sq (bq (sq (rg (s1 3 [(37,aI y7),(36,.pv (abb a0)),(35,.ptr 0 7)] ?_))))))
   obtain ⟨x10,h11,hm⟩:=bs hm
   refine dv 38 (v:=.pv (.ptr (Z5 x10) 0)) (zS za a0.B .i64 t23 t49 h11 (zt x10) rfl hH) hH (s1 2 [(40,.pv (zy a1)),(39,.agg (zc9 x10))] ?_)
   obtain ⟨x12,h13,hm⟩:=bs hm
   refine dv 41 (zC hH (ih_ref22_refs h13) hH hH hH) hH (fq 1 [(zp33 a1),jz,(5,aI y7),(42,aB (!x12))] ?_)
   rcases zd hm with ⟨h,hm⟩|⟨h,hm⟩
   ·refine c1 h (sq (dn [kn] (jc ?_)))
    cases hm;exact hJ
   refine c0 h (jd (dn [(zp33 a1),jz,(adC y7)] ?_))
   exact ⟨_,_,Zg [(zp33 a1),jz,(adC y7)] [.box (zc7 a0) false] hH,⟨(zN y7),hm,rfl,rfl⟩⟩
  refine c0 h (je ?_)
  exact ⟨(adU y7 a0),y7,hm,rfl,rfl⟩
 refine sq (rgd (shd 4 [(9,aB (a0.A==1)),(8,aB (a0.A==1)),(7,aI a0.A),(6,.ptr 0 0)] hH ?_))
 rcases zd hm with ⟨h,hm⟩|⟨h,hm⟩
 ·refine zM [9,8] h hH (shd 3 [(zp40 a1),(11,aI a0.C),(10,.ptr 0 1)] hH (dvd 13 (v:=aI ((sll a1).length:Int)) (zu zm a1 t28 hH) hH (shd 2 [(15,aB (decide (a0.C≥((sll a1).length:Int)))),(14,aB (decide (a0.C≥((sll a1).length:Int))))] hH ?_)))
  rcases zd hm with ⟨h,hm⟩|⟨h,hm⟩
  ·refine zM [15,14] h hH (shd 12 [kN,(26,aB true),(25,.undef),(24,.undef),(23,.undef),(22,.undef),(21,.undef),(20,.undef),(19,.undef),(18,.undef),(17,.undef),(16,.undef)] hH (find [(zp33 a1),jz,kN] rfl hH hH (cT hH (sq (dn [kn] (jc ?_))))))
   cases hm;exact hJ
  refine zM [15,14] h hH (shd 5 [(20,aI a0.C),jX,(18,.pv (zy a1)),(17,aI a0.M),(16,.ptr 0 2)] hH ?_)
  obtain ⟨x17,h18,hm⟩:=bs hm
  refine dvd 21 (v:=.pv (.ptr (zm x17) 0)) (Zz zm a1 .i64 t28 t84 h18 rfl hH) hH (shd 2 [(23,.pv (anL x17)),(22,.pv (.ptr (zm x17) 1))] hH (dvd 24 (v:=aI ((sll x17.R).length:Int)) (zu zU x17.R t82 hH) hH (shd 3 [(27,aB (alz a0 x17)),(26,aB (alz a0 x17)),(25,aB (alz a0 x17))] hH (find [(zp33 a1),jz,(27,aB (alz a0 x17))] rfl hH hH ?_))))
  rcases zd hm with ⟨h,hm⟩|⟨h,hm⟩
  ·refine c1 h (sq (dn [kn] (jc ?_)))
   cases hm;exact hJ
  refine c0 h (jd ?_)
  exact ⟨(alz a0 x17),hm,rfl,rfl⟩
 refine zM [9,8] h hH (shd 18 [kG,(26,.undef),(25,.undef),(24,.undef),(23,.undef),(22,.undef),(21,.undef),(20,.undef),(19,.undef),(18,.undef),(17,.undef),(16,.undef),(15,.undef),(14,.undef),(13,.undef),(12,.undef),(11,.undef),(10,.undef)] hH (find [(zp33 a1),jz,kG] rfl hH hH (cF hH (jd ?_))))
 exact ⟨false,hm,rfl,rfl⟩
theorem aiV:∀ (m:Nat),∀ {n:Nat}{a0:zf}{a1:jn}{r:Bool}(hm:abq m n a0 a1=some r),call G n 217 [.agg (zc7 a0),.pv (zk zm a1)] []=some (.ret (aB r),[])
 |0=>by intros;rename_i hm;exact nomatch hm
 |m+1=>fun hm=>
  an1 (aiV m) hm
theorem aoo {n:Nat}{a0:zf}{a1:jn}{r:Bool}(hm:ajN n a0 a1=some r):
 call G n 217 [.agg (zc7 a0),.pv (zy a1)] []=some (.ret (aB r),[]):=aiV n hm
theorem amu {rc_ref22_typed:(Nat→zf→jn→Option (Int×Bool))}(ih_ref22_typed:∀ {n:Nat}{a0:zf}{a1:jn}{r:Int×Bool}(hm:rc_ref22_typed n a0 a1=some r),call G n 218 [.agg [aI a0.A,aI a0.C,aI a0.M,aI a0.F.A,aI a0.F.K,aF a0.F.I,aS a0.F.N,.pv (zk za a0.B)],.pv (zk zm a1)] []=some (.ret (.tup [aI r.1,aB r.2]),[])) {n:Nat}{a0:zf}{a1:jn}{r:Int×Bool}(hm:agu rc_ref22_typed n a0 a1=some r):
   call G n 218 [.agg (zc7 a0),.pv (zy a1)] []=some (.ret (.tup [aI r.1,aB r.2]),[]):=by
 unfold agu at hm
 obtain ⟨n,rfl,h0⟩:=zp hm
 replace hm:=h0;clear h0
 refine zT 109 [(0,.agg (zc7 a0)),(zp33 a1)] func218 rfl hH (sq (det [(zp33 a1),jz] [.box (zc7 a0) false] hH (sq (det [(zp33 a1),jz,jI] [.box (zc7 a0) false,.box (aA .i64 2 (fun _=>0)) false] hH (sq (dn [(zp33 a1),jz,jI,kR] ?_))))))
 obtain ⟨k5,hk5,hm⟩:=zo hm
 refine mid (fun t H=>(∃ (y1:(Nat→Int)) (y2:Bool) (y3:Bool) (y4:Int),k5 y1 y3=some r∧t=mk 109 [(zp33 a1),jz,jI,(7,aB y3),(8,aI y4),(16,aB y2)]∧H=[.box (zc7 a0) false,.box (aA .i64 2 y1) false])) ?_ ?_
 ·rintro _ _ ⟨y1,y2,y3,y4,hm,rfl,rfl⟩
  subst hk5
  refine sq (rg ?_)
  obtain ⟨_,h6,hm⟩:=bs hm
  refine dv 36 (v:=.ptr 1 (0+Int.toNat 0*1)) (aiZ (n:=2) (id:=1) (off:=0) 1 .i64 t276 t3 rfl h6 hH) hH (dv 37 (v:=aI (y1 (Int.toNat 0))) (akP (k:=.i64) (n:=2) (id:=1) (off:=0) (z:=false) y1 [] [] (aA .i64 2 y1) t3 rfl rfl hH hH hH h6 hH) hH (fq 1 [(zp33 a1),jz,jI,(7,aB y3),(11,aI (y1 (Int.toNat 0)))] ?_))
  obtain ⟨k9,hk9,hm⟩:=zo hm
  refine mid (fun t H=>(∃ (y8:Int) (w7:AV),k9 y8=some r∧t=mk 109 [(zp33 a1),jz,jI,(7,aB y3),(11,aI y8),(39,w7)]∧H=[.box (zc7 a0) false,.box (aA .i64 2 y1) false])) ?_ ?_
  ·rintro _ _ ⟨y8,w7,hm,rfl,rfl⟩
   subst hk9
   obtain ⟨k12,hk12,hm⟩:=zo hm
   refine mid (fun t H=>(∃ (y11:Bool) (w10:AV),k12 y11=some r∧t=mk 109 [(zp33 a1),jz,(7,aB y11),(11,aI y8),(55,w10)]∧H=[.box (zc7 a0) false,.box (aA .i64 2 y1) false])) ?_ ?_
   ·rintro _ _ ⟨y11,w10,hm,rfl,rfl⟩
    subst hk12
    refine sq (sq (dn [(zp33 a1),jz,(7,aB y11),(11,aI y8),(57,aI a0.A)] (bq (sq (dn [(zp33 a1),jz,(7,aB y11),(11,aI y8),(57,aI a0.A),(58,aB (a0.A==1))] ?_)))))
    rcases zd hm with ⟨h13,hm⟩|⟨h13,hm⟩
    ·refine c1 h13 (sq (rgd (shd 3 [(62,aI a0.C),(61,.ptr 0 1),(60,.pv (zy a1))] hH ?_)))
     obtain ⟨x14,h15,hm⟩:=bs hm
     refine dvd 63 (v:=.pv (.ptr (zm x14) 0)) (Zz zm a1 .i64 t28 t84 h15 rfl hH) hH (shd 4 [(67,aI a0.M),(66,.ptr 0 2),(65,.pv (anL x14)),(64,.pv (.ptr (zm x14) 1))] hH ?_)
     obtain ⟨x16,h17,hm⟩:=bs hm
     refine dvd 68 (v:=.pv (.ptr (zU x16) 0)) (Zz zU x14.R .i64 t82 t81 h17 rfl hH) hH (shd 4 [(5,aB true),(4,aI x16.A),(70,aI x16.A),(69,.pv (.ptr (zU x16) 1))] hH (find [(4,aI x16.A),(5,aB true)] rfl hH hH (jc ?_)))
     cases hm;exact hJ
    refine c0 h13 (sq (dn [jz,(7,aB y11),(11,aI y8),(57,aI a0.A),(71,aB (a0.A==2))] ?_))
    rcases zd hm with ⟨h18,hm⟩|⟨h18,hm⟩
    ·refine c1 h18 (sq (dn [(4,aI a0.F.A),(5,aB true)] (jc ?_)))
     cases hm;exact hJ
    refine c0 h18 ?_
    obtain ⟨k20,hk20,hm⟩:=zo hm
    refine mid (fun t H=>(∃ (y19:Bool),k20 y19=some r∧t=mk 109 [(7,aB y11),(11,aI y8),(57,aI a0.A),(76,aB y19)]∧H=[.box (zc7 a0) false,.box (aA .i64 2 y1) false])) ?_ ?_
    ·rintro _ _ ⟨y19,hm,rfl,rfl⟩
     subst hk20
     rcases zd hm with ⟨h21,hm⟩|⟨h21,hm⟩
     ·refine c1 h21 (sq (rg (s1 3 [(83,aB y11),(82,aB y11),(81,aI y8)] ?_)))
      refine seg y11 [83,82,7] (fun b=>[(94,aB (b&&(((y8==0)||(y8==2))||(y8==3)))),(93,ifA b (aB (((y8==0)||(y8==2))||(y8==3))) hY),(92,ifA b (ifA ((y8==0)||(y8==2)) hY (aB (y8==3))) hY),(91,ifA b (ifA ((y8==0)||(y8==2)) hY (aI y8)) hY),(90,ifA b (aB ((y8==0)||(y8==2))) hY),(89,ifA b (aB ((y8==0)||(y8==2))) hY),(88,ifA b (ifA (y8==0) hY (aB (y8==2))) hY),(87,ifA b (ifA (y8==0) hY (aI y8)) hY),(86,ifA b (aB (y8==0)) hY),(85,ifA b (aB (y8==0)) hY),(84,ifA b (aI y8) hY)]) 14 hH ?_ ?_ ?_
      ·intro Q h
       refine s1 3 [(86,aB (y8==0)),(85,aB (y8==0)),(84,aI y8)] ?_
       refine segP (y8==0) [86,85] (fun b=>[(89,aB (b||(y8==2))),(88,ifA b hY (aB (y8==2))),(87,ifA b hY (aI y8))]) 3 hH hH hH (s1 1 [(90,aB ((y8==0)||(y8==2)))] ?_)
       refine segP ((y8==0)||(y8==2)) [90,89] (fun b=>[(93,aB (b||(y8==3))),(92,ifA b hY (aB (y8==3))),(91,ifA b hY (aI y8))]) 3 hH hH hH (s1 1 [(94,aB (((y8==0)||(y8==2))||(y8==3)))] ?_)
       exact Ze hH hH h
      ·intro Q h
       refine s1 11 [(94,aB false),(93,.undef),(92,.undef),(91,.undef),(90,.undef),(89,.undef),(88,.undef),(87,.undef),(86,.undef),(85,.undef),(84,.undef)] ?_
       exact Ze hH hH h
      refine fq 2 [(4,aI y8),(5,aB (y11&&(((y8==0)||(y8==2))||(y8==3))))] (jc ?_)
      cases hm;exact hJ
     refine c0 h21 ?_
     obtain ⟨k24,hk24,hm⟩:=zo hm
     refine mid (fun t H=>(∃ (y23:Bool) (w22:AV),k24 y23=some r∧t=mk 109 [(7,aB y11),(11,aI y8),(57,w22),(95,aB y23)]∧H=[.box (zc7 a0) false,.box (aA .i64 2 y1) false])) ?_ ?_
     ·rintro _ _ ⟨y23,w22,hm,rfl,rfl⟩
      subst hk24
      rcases zd hm with ⟨h25,hm⟩|⟨h25,hm⟩
      ·refine c1 h25 (sq (rg (s1 2 [(100,aB y11),(99,aB y11)] ?_)))
       refine seg y11 [100,99,7] (fun b=>[(107,aB (b&&((y8==0)||(y8==1)))),(106,ifA b (aB ((y8==0)||(y8==1))) hY),(105,ifA b (ifA (y8==0) hY (aB (y8==1))) hY),(104,ifA b (ifA (y8==0) hY (aI y8)) hY),(103,ifA b (aB (y8==0)) hY),(102,ifA b (aB (y8==0)) hY),(101,ifA b (aI y8) hY)]) 9 hH ?_ ?_ ?_
       ·intro Q h
        refine s1 3 [(103,aB (y8==0)),(102,aB (y8==0)),(101,aI y8)] ?_
        refine segP (y8==0) [103,102] (fun b=>[(106,aB (b||(y8==1))),(105,ifA b hY (aB (y8==1))),(104,ifA b hY (aI y8))]) 3 hH hH hH (s1 1 [(107,aB ((y8==0)||(y8==1)))] ?_)
        exact Ze hH hH h
       ·intro Q h
        refine s1 7 [(107,aB false),(106,.undef),(105,.undef),(104,.undef),(103,.undef),(102,.undef),(101,.undef)] ?_
        exact Ze hH hH h
       refine fq 2 [kb,(5,aB (y11&&((y8==0)||(y8==1))))] (jc ?_)
       cases hm;exact hJ
      refine c0 h25 (jd (sq (dn [kb,(5,aB y11)] (jc ?_))))
      cases hm;exact hJ
     refine sq (dn [(7,aB y11),(11,aI y8),(57,aI a0.A),(95,aB (a0.A==10))] ?_)
     rcases zd hm with ⟨h26,hm⟩|⟨h26,hm⟩
     ·refine c1 h26 (jd ?_)
      exact ⟨(a0.A==10),aI a0.A,hm,(zD hH),rfl⟩
     refine c0 h26 (sq (dn [(7,aB y11),(11,aI y8),(57,aI a0.A),(95,aB (a0.A==11))] ?_))
     rcases zd hm with ⟨h27,hm⟩|⟨h27,hm⟩
     ·refine c1 h27 (jd ?_)
      exact ⟨(a0.A==11),aI a0.A,hm,(zD hH),rfl⟩
     refine c0 h27 (dn [(7,aB y11),(11,aI y8),(95,aB (a0.A==12))] ?_)
     exact ⟨(a0.A==12),.any,hm,(zD hH),rfl⟩
    refine sq (dn [(7,aB y11),(11,aI y8),(57,aI a0.A),(76,aB (a0.A==3))] ?_)
    rcases zd hm with ⟨h28,hm⟩|⟨h28,hm⟩
    ·refine c1 h28 (jd ?_)
     exact ⟨(a0.A==3),hm,rfl,rfl⟩
    refine c0 h28 (sq (dn [(7,aB y11),(11,aI y8),(57,aI a0.A),(76,aB (a0.A==4))] ?_))
    rcases zd hm with ⟨h29,hm⟩|⟨h29,hm⟩
    ·refine c1 h29 (jd ?_)
     exact ⟨(a0.A==4),hm,rfl,rfl⟩
    refine c0 h29 (sq (dn [(7,aB y11),(11,aI y8),(57,aI a0.A),(76,aB (a0.A==5))] ?_))
    rcases zd hm with ⟨h30,hm⟩|⟨h30,hm⟩
    ·refine c1 h30 (jd ?_)
     exact ⟨(a0.A==5),hm,rfl,rfl⟩
    refine c0 h30 (dn [(7,aB y11),(11,aI y8),(57,aI a0.A),(76,aB (a0.A==6))] ?_)
    exact ⟨(a0.A==6),hm,rfl,rfl⟩
   refine sq (rg (s1 4 [(45,aB (a0.A !=13)),(44,aB (a0.A !=13)),(43,aI a0.A),(42,.ptr 0 0)] ?_))
   rcases zd hm with ⟨h31,hm⟩|⟨h31,hm⟩
   ·refine known [45,44] h31 hH ?_
    obtain ⟨_,h32,hm⟩:=bs hm
    refine dv 46 (v:=.ptr 1 (0+Int.toNat 1*1)) (aiZ (n:=2) (id:=1) (off:=0) 1 .i64 t276 t3 rfl h32 hH) hH (dv 47 (v:=aI (y1 (Int.toNat 1))) (akP (k:=.i64) (n:=2) (id:=1) (off:=0) (z:=false) y1 [] [] (aA .i64 2 y1) t3 rfl rfl hH hH hH h32 hH) hH (s1 3 [(50,aB ((y1 (Int.toNat 1))!=0)),(49,aB ((y1 (Int.toNat 1))!=0)),(48,aB ((y1 (Int.toNat 1))!=0))] ?_))
    refine seg ((y1 (Int.toNat 1))!=0) [50,49,48] (fun b=>[(55,aB (b&&((y1 (Int.toNat 1))!=y8))),(54,ifA b (aB ((y1 (Int.toNat 1))!=y8)) hY),(53,ifA b (aI y8) hY),(52,ifA b (aI (y1 (Int.toNat 1))) hY),(51,ifA b (.ptr 1 (0+Int.toNat 1*1)) hY)]) 14 hH ?_ ?_ ?_
    ·intro Q h
     refine dv 51 (v:=.ptr 1 (0+Int.toNat 1*1)) (aiZ (n:=2) (id:=1) (off:=0) 1 .i64 t276 t3 rfl h32 hH) hH (dv 52 (v:=aI (y1 (Int.toNat 1))) (akP (k:=.i64) (n:=2) (id:=1) (off:=0) (z:=false) y1 [] [] (aA .i64 2 y1) t3 rfl rfl hH hH hH h32 hH) hH (s1 3 [(55,aB ((y1 (Int.toNat 1))!=y8)),(54,aB ((y1 (Int.toNat 1))!=y8)),(53,aI y8)] ?_))
     exact Ze hH hH h
    ·intro Q h
     refine s1 5 [(55,aB false),(54,.undef),(53,.undef),(52,.undef),(51,.undef)] ?_
     exact Ze hH hH h
    refine fin [(zp33 a1),jz,(7,aB y3),(11,aI y8),(55,aB (((y1 (Int.toNat 1))!=0)&&((y1 (Int.toNat 1))!=y8)))] rfl hH ?_
    rcases zd hm with ⟨h33,hm⟩|⟨h33,hm⟩
    ·refine c1 h33 (dn [(zp33 a1),jz,(7,aB false),(11,aI y8)] ?_)
     exact ⟨false,.any,hm,(zD hH),rfl⟩
    refine c0 h33 (jd ?_)
    exact ⟨y3,aB (((y1 (Int.toNat 1))!=0)&&((y1 (Int.toNat 1))!=y8)),hm,(zD hH),rfl⟩
   refine known [45,44] h31 hH (fq 10 [(zp33 a1),jz,(7,aB y3),(11,aI y8),(55,aB false)] (cF hH (jd ?_)))
   exact ⟨y3,aB false,hm,(zD hH),rfl⟩
  refine sq (dn [(zp33 a1),jz,jI,(7,aB y3),(11,aI (y1 (Int.toNat 0))),(39,aB ((y1 (Int.toNat 0))==0))] ?_)
  rcases zd hm with ⟨h34,hm⟩|⟨h34,hm⟩
  ·refine c1 h34 (rg ?_)
   obtain ⟨_,h35,hm⟩:=bs hm
   refine dv 40 (v:=.ptr 1 (0+Int.toNat 1*1)) (aiZ (n:=2) (id:=1) (off:=0) 1 .i64 t276 t3 rfl h35 hH) hH (dv 41 (v:=aI (y1 (Int.toNat 1))) (akP (k:=.i64) (n:=2) (id:=1) (off:=0) (z:=false) y1 [] [] (aA .i64 2 y1) t3 rfl rfl hH hH hH h35 hH) hH (fq 1 [(zp33 a1),jz,jI,(7,aB y3),(11,aI (y1 (Int.toNat 1)))] ?_))
   exact ⟨(y1 (Int.toNat 1)),.any,hm,(zD hH),rfl⟩
  refine c0 h34 (jd ?_)
  exact ⟨(y1 (Int.toNat 0)),aB ((y1 (Int.toNat 0))==0),hm,(zD hH),rfl⟩
 refine sq (dn [(zp33 a1),jz,jI,kR,ke] (bq ?_))
 refine ZR (fun mm t H=>(∃ (y39:(Nat→Int)) (y40:Bool) (y41:Int),qR n rc_ref22_typed a0 a1 k5 mm y39 y40 y41=some r∧t=mk 109 [(zp33 a1),jz,jI,(7,aB y40),(8,aI y41)]∧H=[.box (zc7 a0) false,.box (aA .i64 2 y39) false])) (⟨(fun _=>0),true,0,hm,rfl,rfl⟩) ?_ ?_
 ·
   rintro _ _ ⟨y39,y40,y41,hm,_⟩;exact nomatch hm
 rintro m42 _ _ ⟨y39,y40,y41,hm,rfl,rfl⟩
 simp only [qR] at hm
 refine sq (sq (rg (s1 3 [(14,.pv (abb a0)),(13,.ptr 0 7),(12,aI y41)] (dv 15 (v:=aI (afb a0)) (zu za a0.B t23 hH) hH (fq 1 [(zp33 a1),jz,jI,(7,aB y40),(8,aI y41),(16,aB (adU y41 a0))] ?_)))))
 rcases zd hm with ⟨h43,hm⟩|⟨h43,hm⟩
 ·refine c1 h43 (jd (sq (bq (sq (rg (s1 3 [(22,aI y41),(21,.pv (abb a0)),(20,.ptr 0 7)] ?_))))))
  obtain ⟨x44,h45,hm⟩:=bs hm
  refine dv 23 (v:=.pv (.ptr (Z5 x44) 0)) (zS za a0.B .i64 t23 t49 h45 (zt x44) rfl hH) hH (s1 2 [(25,.pv (zy a1)),(24,.agg (zc9 x44))] ?_)
  obtain ⟨x46,h47,hm⟩:=bs hm
  refine dv 26 (zC hH (ih_ref22_typed h47) hH hH hH) hH (fq 5 [(zp33 a1),jz,jI,(7,aB y40),(8,aI y41),(9,aI x46.1),(10,aB x46.2)] (sq (rg (s1 2 [(30,aB y40),(29,aB y40)] ?_))))
  refine segP y40 [30,29,7] (fun b=>[(32,aB (b&&x46.2)),(31,ifA b (aB x46.2) hY)]) 2 hH hH hH (fq 1 [(zp33 a1),jz,jI,(7,aB (y40&&x46.2)),(8,aI y41),(9,aI x46.1)] (rg (s1 2 [(34,aI x46.1),(33,aI y41)] ?_)))
  obtain ⟨_,h48,hm⟩:=bs hm
  refine dv 35 (v:=.ptr 1 (0+Int.toNat y41*1)) (aiZ (n:=2) (id:=1) (off:=0) 1 .i64 t276 t3 rfl h48 hH) hH (dO [] [.box (zc7 a0) false,.box (aA .i64 2 (updA y39 y41 x46.1)) false] (avX (k:=.i64) (n:=2) (id:=1) (off:=0) (v:=x46.1) y39 [] [] (aA .i64 2 y39) t3 rfl rfl hH hH h48 hH) hH (fin [(zp33 a1),jz,jI,(7,aB (y40&&x46.2)),(8,aI y41)] rfl hH (dn [(zp33 a1),jz,jI,(7,aB (y40&&x46.2)),(zp41 y41)] ?_)))
  exact ⟨_,_,Zg [(zp33 a1),jz,jI,(7,aB (y40&&x46.2)),(zp41 y41)] [.box (zc7 a0) false,.box (aA .i64 2 (updA y39 y41 x46.1)) false] hH,⟨(updA y39 y41 x46.1),(y40&&x46.2),(zN y41),hm,rfl,rfl⟩⟩
 refine c0 h43 (je ?_)
 exact ⟨y39,(adU y41 a0),y40,y41,hm,rfl,rfl⟩
theorem ahJ:∀ (m:Nat),∀ {n:Nat}{a0:zf}{a1:jn}{r:Int×Bool}(hm:aaS m n a0 a1=some r),call G n 218 [.agg (zc7 a0),.pv (zk zm a1)] []=some (.ret (.tup [aI r.1,aB r.2]),[])
 |0=>by intros;rename_i hm;exact nomatch hm
 |m+1=>fun hm=>
  amu (ahJ m) hm
theorem an4 {n:Nat}{a0:zf}{a1:jn}{r:Int×Bool}(hm:ah0 n a0 a1=some r):
 call G n 218 [.agg (zc7 a0),.pv (zy a1)] []=some (.ret (.tup [aI r.1,aB r.2]),[]):=ahJ n hm
theorem abT {n:Nat}{a0:zf}{a1:jn}{r:Int×Int}(hm:aaN n a0 a1=some r):
   call G n 170 [.agg (zc7 a0),.pv (zy a1)] []=some (.ret (.tup [aI r.1,aI r.2]),[]):=by
 unfold aaN at hm
 obtain ⟨n,rfl,h0⟩:=zp hm
 replace hm:=h0;clear h0
 refine zT 24 [(0,.agg (zc7 a0)),(zp33 a1)] func170 rfl hH (sq (det [(zp33 a1),jz] [.box (zc7 a0) false] hH ?_))
 refine sq (sq (rg (s1 1 [(8,.agg (zc7 a0))] ?_)))
 obtain ⟨x1,h2,hm⟩:=bs hm
 refine dv 9 (zC hH (afd h2) hH hH hH) hH (fq 1 [(zp33 a1),jz,(10,aB (!x1))] ?_)
 rcases zd hm with ⟨h,hm⟩|⟨h,hm⟩
 ·refine c1 h (sq (dn [j8,(5,aI 2)] (jc ?_)))
  cases hm;exact hJ
 refine c0 h (jd ?_)
 refine sq (sq (rg (s1 2 [(zp40 a1),(11,.agg (zc7 a0))] ?_)))
 obtain ⟨x4,h5,hm⟩:=bs hm
 refine dv 13 (zC hH (aoo h5) hH hH hH) hH (fq 1 [(zp33 a1),jz,(14,aB (!x4))] ?_)
 rcases zd hm with ⟨h,hm⟩|⟨h,hm⟩
 ·refine c1 h (sq (dn [j8,(5,aI 40)] (jc ?_)))
  cases hm;exact hJ
 refine c0 h (jd (sq (rg (s1 2 [(17,.pv (zy a1)),(16,.agg (zc7 a0))] ?_))))
 obtain ⟨x7,h8,hm⟩:=bs hm
 refine dv 18 (zC hH (an4 h8) hH hH hH) hH (fq 5 [(6,aI x7.1),(7,aB x7.2)] (sq (sq (dn [(6,aI x7.1),(22,aB (!x7.2))] ?_))))
 rcases zd hm with ⟨h,hm⟩|⟨h,hm⟩
 ·refine c1 h (sq (dn [j8,(5,aI 50)] (jc ?_)))
  cases hm;exact hJ
 refine c0 h (jd (sq (dn [(4,aI x7.1),j9] (jc ?_))))
 cases hm;exact hJ
abbrev ZH (p0:(jn×Int)):Nat×AV:=(6,.pv (zk zm p0.1))
abbrev acS (p0:(List Int)):Nat×AV:=(11,aR 1 1 p0.length)
abbrev aoZ (p0:(List Int)):Nat×AV:=(11,aR 1 1 ((p0++([2]:List Int)).length))
abbrev akQ (p0:(List Int)) (p1:(Int×Int)):Nat×AV:=(11,aR 1 1 ((p0++([p1.1]:List Int)).length))
theorem an5 {n:Nat}{a0:zr}{a1:jn}{r:(Option (List Int))×Int}(hm:ae1 n a0 a1=some r):
   call G n 115 [.agg (zc0 a0),.pv (zy a1)] []=some (.ret (.tup [.pv (zk (rI .i64) r.1),aI r.2]),[]):=by
 unfold ae1 at hm
 obtain ⟨n,rfl,h0⟩:=zp hm
 replace hm:=h0;clear h0
 refine zT 128 [(0,.agg (zc0 a0)),(zp33 a1)] func115 rfl hH (sq (det [(zp33 a1),jz] [.box (zc0 a0) false] hH (sq (rg (s1 2 [(20,.pv (zy a1)),(19,.agg (zc0 a0))] ?_)))))
 obtain ⟨x1,h2,hm⟩:=bs hm
 refine dv 21 (zC hH (ams h2) hH hH hH) hH (fq 5 [jz,(ZH x1),(7,aI x1.2)] ?_)
 refine sq (sq (dn [jz,(ZH x1),(7,aI x1.2),(25,aB (x1.2 !=0))] ?_))
 rcases zd hm with ⟨h,hm⟩|⟨h,hm⟩
 ·refine c1 h (sq (dn [j2,(5,aI x1.2)] (jc ?_)))
  cases hm;exact hJ
 refine c0 h (jd ?_)
 refine sq (sq (rg (s1 1 [(27,.agg (zc0 a0))] ?_)))
 obtain ⟨x4,h5,hm⟩:=bs hm
 refine dv 28 (zC hH (amh h5) hH hH hH) hH (fq 1 [jz,(ZH x1),(29,aB (!x4))] ?_)
 rcases zd hm with ⟨h,hm⟩|⟨h,hm⟩
 ·refine c1 h (sq (dn [j2,(5,aI 2)] (jc ?_)))
  cases hm;exact hJ
 refine c0 h (jd ?_)
 obtain ⟨k9,hk9,hm⟩:=zo hm
 refine mid (fun t H=>(∃ (y7:Bool) (y8:Int),k9 ()=some r∧t=mk 128 [jz,(ZH x1),(8,aI y8),(34,aB y7)]∧H=[.box (zc0 a0) false])) ?_ ?_
 ·rintro _ _ ⟨y7,y8,hm,rfl,rfl⟩
  subst hk9
  refine sq (dn [jz,(ZH x1),j4] ?_)
  obtain ⟨k13,hk13,hm⟩:=zo hm
  refine mid (fun t H=>(∃ (w10:AV) (w11:AV),k13 none=some r∧t=mk 128 [jz,(ZH x1),j4,(12,w10),(60,w11)]∧H=[.box (zc0 a0) false])∨(∃ (y12:(List Int)) (w10:AV) (w11:AV),k13 (some y12)=some r∧t=mk 128 [jz,(ZH x1),(acS y12),(12,w10),(60,w11)]∧H=[.box (zc0 a0) false,bR 3 1 (rI .i64) y12 0 0])) ?_ ?_
  ·rintro _ _ (⟨w10,w11,hm,rfl,rfl⟩|⟨y12,w10,w11,hm,rfl,rfl⟩)
   ·subst hk13
    obtain ⟨k17,hk17,hm⟩:=zo hm
    refine mid (fun t H=>(∃ (w14:AV) (w15:AV),k17 none=some r∧t=mk 128 [jz,(ZH x1),j4,(15,w14),(84,w15)]∧H=[.box (zc0 a0) false])∨(∃ (y16:(List Int)) (w14:AV) (w15:AV),k17 (some y16)=some r∧t=mk 128 [jz,(ZH x1),(acS y16),(15,w14),(84,w15)]∧H=[.box (zc0 a0) false,bR 3 1 (rI .i64) y16 0 0])) ?_ ?_
    ·rintro _ _ (⟨w14,w15,hm,rfl,rfl⟩|⟨y16,w14,w15,hm,rfl,rfl⟩)
     ·subst hk17
      refine sq (dn [j2,j9] (jc ?_))
      cases hm;exact hJ
     subst hk17
     refine sq (dn [(4,aR 1 1 y16.length),j9] (jc ?_))
     obtain rfl:=jf hm
     exact aa2 (v:=.tup [aR 1 1 y16.length,aI 0]) trivial rfl hH (akY (aaD (afi (abI (n:=y16.length) (id:=1) (l:=y16) (R:=(rI .i64)) rfl rfl (Nat.zero_le _))) (aaD (apo) (rfl))))
    refine sq (dn [jz,(ZH x1),j4,(15,aI 0)] (bq ?_))
    refine ZR (fun mm t H=>(∃ (y22:Int),Zb n a0 x1 k17 mm none y22=some r∧t=mk 128 [jz,(ZH x1),j4,(15,aI y22)]∧H=[.box (zc0 a0) false])∨(∃ (y21:(List Int)) (y22:Int),Zb n a0 x1 k17 mm (some y21) y22=some r∧t=mk 128 [jz,(ZH x1),(acS y21),(15,aI y22)]∧H=[.box (zc0 a0) false,bR 3 1 (rI .i64) y21 0 0])) (.inl ⟨0,hm,rfl,rfl⟩) ?_ ?_
    ·
      rintro _ _ (⟨y22,hm,_⟩|⟨y21,y22,hm,_⟩)<;>exact nomatch hm
    rintro m23 _ _ (⟨y22,hm,rfl,rfl⟩|⟨y21,y22,hm,rfl,rfl⟩)
    ·simp only [Zb] at hm
     refine sq (sq (rg (s1 3 [(82,.pv (qM a0)),jY,(80,aI y22)] (dv 83 (v:=aI (afr a0)) (zu zl a0.D t24 hH) hH (fq 1 [jz,(ZH x1),j4,(15,aI y22),(84,aB (agF y22 a0))] ?_)))))
     rcases zd hm with ⟨h,hm⟩|⟨h,hm⟩
     ·refine c1 h (jd (sq (bq (sq (rg (s1 3 [(90,aI y22),(89,.pv (qM a0)),(88,.ptr 0 4)] ?_))))))
      obtain ⟨x25,h26,hm⟩:=bs hm
      refine dv 91 (v:=.pv (.ptr (zl x25) 0)) (Zz zl a0.D .i64 t24 t101 h26 rfl hH) hH (s1 3 [(94,.pv (acT x1)),(93,.agg (zc1 x25)),(92,.pv (.ptr (zl x25) 1))] ?_)
      obtain ⟨x27,h28,hm⟩:=bs hm
      refine dv 95 (zC hH (abT h28) hH hH hH) hH (fq 5 [jz,(ZH x1),j4,(15,aI y22),(16,aI x27.1),(17,aI x27.2)] ?_)
      refine sq (sq (dn [jz,(ZH x1),j4,(15,aI y22),(16,aI x27.1),(17,aI x27.2),(99,aB (x27.2 !=0))] ?_))
      rcases zd hm with ⟨h,hm⟩|⟨h,hm⟩
      ·refine c1 h (sq (dn [j2,(5,aI x27.2)] (jc ?_)))
       cases hm;exact hJ
      refine c0 h (jd ?_)
      refine sq (sq (rg (s1 3 [(103,aI y22),(102,.pv (qM a0)),(101,.ptr 0 4)] (dv 104 (v:=.pv (.ptr (zl x25) 0)) (Zz zl a0.D .i64 t24 t101 h26 rfl hH) hH (s1 4 [(108,aB (x25.A==2)),(107,aB (x25.A==2)),(106,aI x25.A),(105,.pv (.ptr (zl x25) 0))] ?_)))))
      refine segP (x25.A==2) [108,107] (fun b=>[(111,aB (b&&(x27.1 !=0))),(110,ifA b (aB (x27.1 !=0)) hY),(109,ifA b (aI x27.1) hY)]) 3 hH hH hH (s1 1 [(112,aB ((x25.A==2)&&(x27.1 !=0)))] ?_)
      refine segP ((x25.A==2)&&(x27.1 !=0)) [112,111] (fun b=>[(115,aB (b&&(x27.1 !=2))),(114,ifA b (aB (x27.1 !=2)) hY),(113,ifA b (aI x27.1) hY)]) 3 hH hH hH (fin [jz,(ZH x1),j4,(15,aI y22),(16,aI x27.1),(115,aB (((x25.A==2)&&(x27.1 !=0))&&(x27.1 !=2)))] rfl hH ?_)
      rcases zd hm with ⟨h,hm⟩|⟨h,hm⟩
      ·refine c1 h (sq (dn [j2,(5,aI 50)] (jc ?_)))
       cases hm;exact hJ
      refine c0 h (jd (sq (sq (rg (s1 3 [(118,aI y22),(117,.pv (qM a0)),(116,.ptr 0 4)] (dv 119 (v:=.pv (.ptr (zl x25) 0)) (Zz zl a0.D .i64 t24 t101 h26 rfl hH) hH (fq 3 [jz,(ZH x1),j4,(15,aI y22),(16,aI x27.1),(122,aB (decide (x25.A≤2)))] ?_)))))))
      rcases zd hm with ⟨h,hm⟩|⟨h,hm⟩
      ·refine c1 h (dn [jz,(ZH x1),j4,(15,aI y22),(16,aI 2)] (rg (st 3 [(125,aR 1 1 1),(124,aI 2),(123,.pv .nils)] [.box (zc0 a0) false,bR 3 1 (rI .i64) ([2]:List Int) 0 0] hH ?_)))
       obtain ⟨_,h32,hm⟩:=bs hm
       refine dO [(126,aR 2 1 adF)] [.box (zc0 a0) false,bR 3 1 (rI .i64) ([2]:List Int) 0 0,bR 3 1 (rI .i64) ([2]:List Int) 0 0] (aa6 (u:=0) (rI .i64) ([2]:List Int) (b:=8) t33 t3 rfl rfl rfl (fun _=>rfl) rfl h32 (show Zm (aR 1 1 1) _=some (([2]:List Int).map (rI .i64)) from by kernel_rfl) hH) hH (fq 1 [jz,(ZH x1),(11,aR 2 1 adF),(15,aI y22)] (dn [jz,(ZH x1),(11,aR 2 1 adF),(zp56 y22)] ?_))
       exact ⟨_,_,Zg [jz,(ZH x1),(11,aR 1 1 adF),(zp56 y22)] [.box (zc0 a0) false,bR 3 1 (rI .i64) ([2]:List Int) 0 0] hH,.inr (⟨([2]:List Int),(zN y22),hm,rfl,rfl⟩)⟩
      refine c0 h (jd (rg (st 3 [(125,aR 1 1 1),(124,aI x27.1),(123,.pv .nils)] [.box (zc0 a0) false,bR 3 1 (rI .i64) ([x27.1]:List Int) 0 0] hH ?_)))
      obtain ⟨_,h33,hm⟩:=bs hm
      refine dO [(126,aR 2 1 (ajy x27))] [.box (zc0 a0) false,bR 3 1 (rI .i64) ([x27.1]:List Int) 0 0,bR 3 1 (rI .i64) ([x27.1]:List Int) 0 0] (aa6 (u:=0) (rI .i64) ([x27.1]:List Int) (b:=8) t33 t3 rfl rfl rfl (fun _=>rfl) rfl h33 (show Zm (aR 1 1 1) _=some (([x27.1]:List Int).map (rI .i64)) from by kernel_rfl) hH) hH (fq 1 [jz,(ZH x1),(11,aR 2 1 (ajy x27)),(15,aI y22)] (dn [jz,(ZH x1),(11,aR 2 1 (ajy x27)),(zp56 y22)] ?_))
      exact ⟨_,_,Zg [jz,(ZH x1),(11,aR 1 1 (ajy x27)),(zp56 y22)] [.box (zc0 a0) false,bR 3 1 (rI .i64) ([x27.1]:List Int) 0 0] hH,.inr (⟨([x27.1]:List Int),(zN y22),hm,rfl,rfl⟩)⟩
     refine c0 h (je ?_)
     exact .inl ⟨aI y22,aB (agF y22 a0),hm,(zD hH),rfl⟩
    simp only [Zb] at hm
    refine sq (sq (rg (s1 3 [(82,.pv (qM a0)),jY,(80,aI y22)] (dv 83 (v:=aI (afr a0)) (zu zl a0.D t24 hH) hH (fq 1 [jz,(ZH x1),(acS y21),(15,aI y22),(84,aB (agF y22 a0))] ?_)))))
    rcases zd hm with ⟨h,hm⟩|⟨h,hm⟩
    ·refine c1 h (jd (sq (bq (sq (rg (s1 3 [(90,aI y22),(89,.pv (qM a0)),(88,.ptr 0 4)] ?_))))))
     obtain ⟨x35,h36,hm⟩:=bs hm
     refine dv 91 (v:=.pv (.ptr (zl x35) 0)) (Zz zl a0.D .i64 t24 t101 h36 rfl hH) hH (s1 3 [(94,.pv (acT x1)),(93,.agg (zc1 x35)),(92,.pv (.ptr (zl x35) 1))] ?_)
     obtain ⟨x37,h38,hm⟩:=bs hm
     refine dv 95 (zC hH (abT h38) hH hH hH) hH (fq 5 [jz,(ZH x1),(acS y21),(15,aI y22),(16,aI x37.1),(17,aI x37.2)] ?_)
     refine sq (sq (dn [jz,(ZH x1),(acS y21),(15,aI y22),(16,aI x37.1),(17,aI x37.2),(99,aB (x37.2 !=0))] ?_))
     rcases zd hm with ⟨h,hm⟩|⟨h,hm⟩
     ·refine c1 h (sq (dn [j2,(5,aI x37.2)] (jc ?_)))
      cases hm;exact hJ
     refine c0 h (jd ?_)
     refine sq (sq (rg (s1 3 [(103,aI y22),(102,.pv (qM a0)),(101,.ptr 0 4)] (dv 104 (v:=.pv (.ptr (zl x35) 0)) (Zz zl a0.D .i64 t24 t101 h36 rfl hH) hH (s1 4 [(108,aB (x35.A==2)),(107,aB (x35.A==2)),(106,aI x35.A),(105,.pv (.ptr (zl x35) 0))] ?_)))))
     refine segP (x35.A==2) [108,107] (fun b=>[(111,aB (b&&(x37.1 !=0))),(110,ifA b (aB (x37.1 !=0)) hY),(109,ifA b (aI x37.1) hY)]) 3 hH hH hH (s1 1 [(112,aB ((x35.A==2)&&(x37.1 !=0)))] ?_)
     refine segP ((x35.A==2)&&(x37.1 !=0)) [112,111] (fun b=>[(115,aB (b&&(x37.1 !=2))),(114,ifA b (aB (x37.1 !=2)) hY),(113,ifA b (aI x37.1) hY)]) 3 hH hH hH (fin [jz,(ZH x1),(acS y21),(15,aI y22),(16,aI x37.1),(115,aB (((x35.A==2)&&(x37.1 !=0))&&(x37.1 !=2)))] rfl hH ?_)
     rcases zd hm with ⟨h,hm⟩|⟨h,hm⟩
     ·refine c1 h (sq (dn [j2,(5,aI 50)] (jc ?_)))
      cases hm;exact hJ
     refine c0 h (jd (sq (sq (rg (s1 3 [(118,aI y22),(117,.pv (qM a0)),(116,.ptr 0 4)] (dv 119 (v:=.pv (.ptr (zl x35) 0)) (Zz zl a0.D .i64 t24 t101 h36 rfl hH) hH (fq 3 [jz,(ZH x1),(acS y21),(15,aI y22),(16,aI x37.1),(122,aB (decide (x35.A≤2)))] ?_)))))))
     rcases zd hm with ⟨h,hm⟩|⟨h,hm⟩
     ·refine c1 h (dn [jz,(ZH x1),(acS y21),(15,aI y22),(16,aI 2)] (rg (st 3 [(125,aR 2 1 1),(124,aI 2),(123,aR 1 1 y21.length)] [.box (zc0 a0) false,bR 3 1 (rI .i64) y21 0 0,bR 3 1 (rI .i64) ([2]:List Int) 0 0] hH ?_)))
      obtain ⟨_,h42,hm⟩:=bs hm
      refine dO [(126,aR 1 1 ((y21++([2]:List Int)).length))] [.box (zc0 a0) false,bR 3 1 (rI .i64) (aer y21) 0 0,bR 3 1 (rI .i64) ([2]:List Int) 0 0] (qV (u:=0) (n:=y21.length) (id:=1) (rI .i64) y21 ([2]:List Int) (b:=8) t33 t3 rfl rfl rfl (fun _=>rfl) rfl h42 rfl rfl (Nat.zero_le _) (show Zm (aR 2 1 1) _=some (([2]:List Int).map (rI .i64)) from by kernel_rfl) hH) hH (fq 1 [jz,(ZH x1),(aoZ y21),(15,aI y22)] (dn [jz,(ZH x1),(aoZ y21),(zp56 y22)] ?_))
      exact ⟨_,_,Zg [jz,(ZH x1),(aoZ y21),(zp56 y22)] [.box (zc0 a0) false,bR 3 1 (rI .i64) (aer y21) 0 0] hH,.inr (⟨(aer y21),(zN y22),hm,rfl,rfl⟩)⟩
     refine c0 h (jd (rg (st 3 [(125,aR 2 1 1),(124,aI x37.1),(123,aR 1 1 y21.length)] [.box (zc0 a0) false,bR 3 1 (rI .i64) y21 0 0,bR 3 1 (rI .i64) ([x37.1]:List Int) 0 0] hH ?_)))
     obtain ⟨_,h43,hm⟩:=bs hm
     refine dO [(126,aR 1 1 ((y21++([x37.1]:List Int)).length))] [.box (zc0 a0) false,bR 3 1 (rI .i64) (ahE y21 x37) 0 0,bR 3 1 (rI .i64) ([x37.1]:List Int) 0 0] (qV (u:=0) (n:=y21.length) (id:=1) (rI .i64) y21 ([x37.1]:List Int) (b:=8) t33 t3 rfl rfl rfl (fun _=>rfl) rfl h43 rfl rfl (Nat.zero_le _) (show Zm (aR 2 1 1) _=some (([x37.1]:List Int).map (rI .i64)) from by kernel_rfl) hH) hH (fq 1 [jz,(ZH x1),(akQ y21 x37),(15,aI y22)] (dn [jz,(ZH x1),(akQ y21 x37),(zp56 y22)] ?_))
     exact ⟨_,_,Zg [jz,(ZH x1),(akQ y21 x37),(zp56 y22)] [.box (zc0 a0) false,bR 3 1 (rI .i64) (ahE y21 x37) 0 0] hH,.inr (⟨(ahE y21 x37),(zN y22),hm,rfl,rfl⟩)⟩
    refine c0 h (je ?_)
    exact .inr (⟨y21,aI y22,aB (agF y22 a0),hm,(zD hH),rfl⟩)
   subst hk13
   obtain ⟨k47,hk47,hm⟩:=zo hm
   refine mid (fun t H=>(∃ (y44:(List Int)) (y45:Int) (y46:Bool),k47 y44=some r∧t=mk 128 [jz,(ZH x1),(acS y44),(15,aI y45),(84,aB y46)]∧H=[.box (zc0 a0) false,bR 3 1 (rI .i64) y44 0 0])) ?_ ?_
   ·rintro _ _ ⟨y44,y45,y46,hm,rfl,rfl⟩
    subst hk47
    refine sq (dn [(4,aR 1 1 y44.length),j9] (jc ?_))
    obtain rfl:=jf hm
    exact aa2 (v:=.tup [aR 1 1 y44.length,aI 0]) trivial rfl hH (akY (aaD (afi (abI (n:=y44.length) (id:=1) (l:=y44) (R:=(rI .i64)) rfl rfl (Nat.zero_le _))) (aaD (apo) (rfl))))
   refine sq (dn [jz,(ZH x1),(acS y12),(15,aI 0)] (bq ?_))
   refine ZR (fun mm t H=>(∃ (y50:(List Int)) (y51:Int),Zv n a0 x1 k47 mm y50 y51=some r∧t=mk 128 [jz,(ZH x1),(acS y50),(15,aI y51)]∧H=[.box (zc0 a0) false,bR 3 1 (rI .i64) y50 0 0])) (⟨y12,0,hm,rfl,rfl⟩) ?_ ?_
   ·
     rintro _ _ ⟨y50,y51,hm,_⟩;exact nomatch hm
   rintro m52 _ _ ⟨y50,y51,hm,rfl,rfl⟩
   simp only [Zv] at hm
   refine sq (sq (rg (s1 3 [(82,.pv (qM a0)),jY,(80,aI y51)] (dv 83 (v:=aI (afr a0)) (zu zl a0.D t24 hH) hH (fq 1 [jz,(ZH x1),(acS y50),(15,aI y51),(84,aB (agF y51 a0))] ?_)))))
   rcases zd hm with ⟨h,hm⟩|⟨h,hm⟩
   ·refine c1 h (jd (sq (bq (sq (rg (s1 3 [(90,aI y51),(89,.pv (qM a0)),(88,.ptr 0 4)] ?_))))))
    obtain ⟨x54,h55,hm⟩:=bs hm
    refine dv 91 (v:=.pv (.ptr (zl x54) 0)) (Zz zl a0.D .i64 t24 t101 h55 rfl hH) hH (s1 3 [(94,.pv (acT x1)),(93,.agg (zc1 x54)),(92,.pv (.ptr (zl x54) 1))] ?_)
    obtain ⟨x56,h57,hm⟩:=bs hm
    refine dv 95 (zC hH (abT h57) hH hH hH) hH (fq 5 [jz,(ZH x1),(acS y50),(15,aI y51),(16,aI x56.1),(17,aI x56.2)] ?_)
    refine sq (sq (dn [jz,(ZH x1),(acS y50),(15,aI y51),(16,aI x56.1),(17,aI x56.2),(99,aB (x56.2 !=0))] ?_))
    rcases zd hm with ⟨h,hm⟩|⟨h,hm⟩
    ·refine c1 h (sq (dn [j2,(5,aI x56.2)] (jc ?_)))
     cases hm;exact hJ
    refine c0 h (jd ?_)
    refine sq (sq (rg (s1 3 [(103,aI y51),(102,.pv (qM a0)),(101,.ptr 0 4)] (dv 104 (v:=.pv (.ptr (zl x54) 0)) (Zz zl a0.D .i64 t24 t101 h55 rfl hH) hH (s1 4 [(108,aB (x54.A==2)),(107,aB (x54.A==2)),(106,aI x54.A),(105,.pv (.ptr (zl x54) 0))] ?_)))))
    refine segP (x54.A==2) [108,107] (fun b=>[(111,aB (b&&(x56.1 !=0))),(110,ifA b (aB (x56.1 !=0)) hY),(109,ifA b (aI x56.1) hY)]) 3 hH hH hH (s1 1 [(112,aB ((x54.A==2)&&(x56.1 !=0)))] ?_)
    refine segP ((x54.A==2)&&(x56.1 !=0)) [112,111] (fun b=>[(115,aB (b&&(x56.1 !=2))),(114,ifA b (aB (x56.1 !=2)) hY),(113,ifA b (aI x56.1) hY)]) 3 hH hH hH (fin [jz,(ZH x1),(acS y50),(15,aI y51),(16,aI x56.1),(115,aB (((x54.A==2)&&(x56.1 !=0))&&(x56.1 !=2)))] rfl hH ?_)
    rcases zd hm with ⟨h,hm⟩|⟨h,hm⟩
    ·refine c1 h (sq (dn [j2,(5,aI 50)] (jc ?_)))
     cases hm;exact hJ
    refine c0 h (jd (sq (sq (rg (s1 3 [(118,aI y51),(117,.pv (qM a0)),(116,.ptr 0 4)] (dv 119 (v:=.pv (.ptr (zl x54) 0)) (Zz zl a0.D .i64 t24 t101 h55 rfl hH) hH (fq 3 [jz,(ZH x1),(acS y50),(15,aI y51),(16,aI x56.1),(122,aB (decide (x54.A≤2)))] ?_)))))))
    rcases zd hm with ⟨h,hm⟩|⟨h,hm⟩
    ·refine c1 h (dn [jz,(ZH x1),(acS y50),(15,aI y51),(16,aI 2)] (rg (st 3 [(125,aR 2 1 1),(124,aI 2),(123,aR 1 1 y50.length)] [.box (zc0 a0) false,bR 3 1 (rI .i64) y50 0 0,bR 3 1 (rI .i64) ([2]:List Int) 0 0] hH ?_)))
     obtain ⟨_,h61,hm⟩:=bs hm
     refine dO [(126,aR 1 1 ((y50++([2]:List Int)).length))] [.box (zc0 a0) false,bR 3 1 (rI .i64) (aer y50) 0 0,bR 3 1 (rI .i64) ([2]:List Int) 0 0] (qV (u:=0) (n:=y50.length) (id:=1) (rI .i64) y50 ([2]:List Int) (b:=8) t33 t3 rfl rfl rfl (fun _=>rfl) rfl h61 rfl rfl (Nat.zero_le _) (show Zm (aR 2 1 1) _=some (([2]:List Int).map (rI .i64)) from by kernel_rfl) hH) hH (fq 1 [jz,(ZH x1),(aoZ y50),(15,aI y51)] (dn [jz,(ZH x1),(aoZ y50),(zp56 y51)] ?_))
     exact ⟨_,_,Zg [jz,(ZH x1),(aoZ y50),(zp56 y51)] [.box (zc0 a0) false,bR 3 1 (rI .i64) (aer y50) 0 0] hH,⟨(aer y50),(zN y51),hm,rfl,rfl⟩⟩
    refine c0 h (jd (rg (st 3 [(125,aR 2 1 1),(124,aI x56.1),(123,aR 1 1 y50.length)] [.box (zc0 a0) false,bR 3 1 (rI .i64) y50 0 0,bR 3 1 (rI .i64) ([x56.1]:List Int) 0 0] hH ?_)))
    obtain ⟨_,h62,hm⟩:=bs hm
    refine dO [(126,aR 1 1 ((y50++([x56.1]:List Int)).length))] [.box (zc0 a0) false,bR 3 1 (rI .i64) (ahE y50 x56) 0 0,bR 3 1 (rI .i64) ([x56.1]:List Int) 0 0] (qV (u:=0) (n:=y50.length) (id:=1) (rI .i64) y50 ([x56.1]:List Int) (b:=8) t33 t3 rfl rfl rfl (fun _=>rfl) rfl h62 rfl rfl (Nat.zero_le _) (show Zm (aR 2 1 1) _=some (([x56.1]:List Int).map (rI .i64)) from by kernel_rfl) hH) hH (fq 1 [jz,(ZH x1),(akQ y50 x56),(15,aI y51)] (dn [jz,(ZH x1),(akQ y50 x56),(zp56 y51)] ?_))
    exact ⟨_,_,Zg [jz,(ZH x1),(akQ y50 x56),(zp56 y51)] [.box (zc0 a0) false,bR 3 1 (rI .i64) (ahE y50 x56) 0 0] hH,⟨(ahE y50 x56),(zN y51),hm,rfl,rfl⟩⟩
   refine c0 h (je ?_)
   exact ⟨y50,y51,(agF y51 a0),hm,rfl,rfl⟩
  refine sq (dn [jz,(ZH x1),j4,(12,aI 0)] (bq ?_))
  refine ZR (fun mm t H=>(∃ (y67:Int),Zn n a0 x1 k13 mm none y67=some r∧t=mk 128 [jz,(ZH x1),j4,(12,aI y67)]∧H=[.box (zc0 a0) false])∨(∃ (y66:(List Int)) (y67:Int),Zn n a0 x1 k13 mm (some y66) y67=some r∧t=mk 128 [jz,(ZH x1),(acS y66),(12,aI y67)]∧H=[.box (zc0 a0) false,bR 3 1 (rI .i64) y66 0 0])) (.inl ⟨0,hm,rfl,rfl⟩) ?_ ?_
  ·
    rintro _ _ (⟨y67,hm,_⟩|⟨y66,y67,hm,_⟩)<;>exact nomatch hm
  rintro m68 _ _ (⟨y67,hm,rfl,rfl⟩|⟨y66,y67,hm,rfl,rfl⟩)
  ·simp only [Zn] at hm
   refine sq (sq (rg (s1 3 [(58,.pv (ac4 a0)),(57,.ptr 0 3),(56,aI y67)] (dv 59 (v:=aI (amS a0)) (zu za a0.E t23 hH) hH (fq 1 [jz,(ZH x1),j4,(12,aI y67),(60,aB (decide (y67<((sll a0.E).length:Int))))] ?_)))))
   rcases zd hm with ⟨h,hm⟩|⟨h,hm⟩
   ·refine c1 h (jd (sq (bq (sq (rg (s1 3 [(66,aI y67),(65,.pv (ac4 a0)),(64,.ptr 0 3)] ?_))))))
    obtain ⟨x70,h71,hm⟩:=bs hm
    refine dv 67 (v:=.pv (.ptr (Z5 x70) 0)) (zS za a0.E .i64 t23 t49 h71 (zt x70) rfl hH) hH (s1 2 [(69,.pv (acT x1)),(68,.agg (zc9 x70))] ?_)
    obtain ⟨x72,h73,hm⟩:=bs hm
    refine dv 70 (zC hH (abT h73) hH hH hH) hH (fq 5 [jz,(ZH x1),j4,(12,aI y67),(13,aI x72.1),(14,aI x72.2)] (sq (sq (dn [jz,(ZH x1),j4,(12,aI y67),(13,aI x72.1),(14,aI x72.2),(74,aB (x72.2 !=0))] ?_))))
    rcases zd hm with ⟨h,hm⟩|⟨h,hm⟩
    ·refine c1 h (sq (dn [j2,(5,aI x72.2)] (jc ?_)))
     cases hm;exact hJ
    refine c0 h (jd (rg (st 3 [(78,aR 1 1 1),(77,aI x72.1),(76,.pv .nils)] [.box (zc0 a0) false,bR 3 1 (rI .i64) ([x72.1]:List Int) 0 0] hH ?_)))
    obtain ⟨_,h75,hm⟩:=bs hm
    refine dO [(79,aR 2 1 (ajy x72))] [.box (zc0 a0) false,bR 3 1 (rI .i64) ([x72.1]:List Int) 0 0,bR 3 1 (rI .i64) ([x72.1]:List Int) 0 0] (aa6 (u:=0) (rI .i64) ([x72.1]:List Int) (b:=8) t33 t3 rfl rfl rfl (fun _=>rfl) rfl h75 (show Zm (aR 1 1 1) _=some (([x72.1]:List Int).map (rI .i64)) from by kernel_rfl) hH) hH (fq 1 [jz,(ZH x1),(11,aR 2 1 (ajy x72)),(12,aI y67)] (dn [jz,(ZH x1),(11,aR 2 1 (ajy x72)),(12,aI (zN y67))] ?_))
    exact ⟨_,_,Zg [jz,(ZH x1),(11,aR 1 1 (ajy x72)),(12,aI (zN y67))] [.box (zc0 a0) false,bR 3 1 (rI .i64) ([x72.1]:List Int) 0 0] hH,.inr (⟨([x72.1]:List Int),(zN y67),hm,rfl,rfl⟩)⟩
   refine c0 h (je ?_)
   exact .inl ⟨aI y67,aB (decide (y67<((sll a0.E).length:Int))),hm,(zD hH),rfl⟩
  simp only [Zn] at hm
  refine sq (sq (rg (s1 3 [(58,.pv (ac4 a0)),(57,.ptr 0 3),(56,aI y67)] (dv 59 (v:=aI (amS a0)) (zu za a0.E t23 hH) hH (fq 1 [jz,(ZH x1),(acS y66),(12,aI y67),(60,aB (decide (y67<((sll a0.E).length:Int))))] ?_)))))
  rcases zd hm with ⟨h,hm⟩|⟨h,hm⟩
  ·refine c1 h (jd (sq (bq (sq (rg (s1 3 [(66,aI y67),(65,.pv (ac4 a0)),(64,.ptr 0 3)] ?_))))))
   obtain ⟨x77,h78,hm⟩:=bs hm
   refine dv 67 (v:=.pv (.ptr (Z5 x77) 0)) (zS za a0.E .i64 t23 t49 h78 (zt x77) rfl hH) hH (s1 2 [(69,.pv (acT x1)),(68,.agg (zc9 x77))] ?_)
   obtain ⟨x79,h80,hm⟩:=bs hm
   refine dv 70 (zC hH (abT h80) hH hH hH) hH (fq 5 [jz,(ZH x1),(acS y66),(12,aI y67),(13,aI x79.1),(14,aI x79.2)] (sq (sq (dn [jz,(ZH x1),(acS y66),(12,aI y67),(13,aI x79.1),(14,aI x79.2),(74,aB (x79.2 !=0))] ?_))))
   rcases zd hm with ⟨h,hm⟩|⟨h,hm⟩
   ·refine c1 h (sq (dn [j2,(5,aI x79.2)] (jc ?_)))
    cases hm;exact hJ
   refine c0 h (jd (rg (st 3 [(78,aR 2 1 1),(77,aI x79.1),(76,aR 1 1 y66.length)] [.box (zc0 a0) false,bR 3 1 (rI .i64) y66 0 0,bR 3 1 (rI .i64) ([x79.1]:List Int) 0 0] hH ?_)))
   obtain ⟨_,h82,hm⟩:=bs hm
   refine dO [(79,aR 1 1 ((y66++([x79.1]:List Int)).length))] [.box (zc0 a0) false,bR 3 1 (rI .i64) (ahE y66 x79) 0 0,bR 3 1 (rI .i64) ([x79.1]:List Int) 0 0] (qV (u:=0) (n:=y66.length) (id:=1) (rI .i64) y66 ([x79.1]:List Int) (b:=8) t33 t3 rfl rfl rfl (fun _=>rfl) rfl h82 rfl rfl (Nat.zero_le _) (show Zm (aR 2 1 1) _=some (([x79.1]:List Int).map (rI .i64)) from by kernel_rfl) hH) hH (fq 1 [jz,(ZH x1),(akQ y66 x79),(12,aI y67)] (dn [jz,(ZH x1),(akQ y66 x79),(12,aI (zN y67))] ?_))
   exact ⟨_,_,Zg [jz,(ZH x1),(akQ y66 x79),(12,aI (zN y67))] [.box (zc0 a0) false,bR 3 1 (rI .i64) (ahE y66 x79) 0 0] hH,.inr (⟨(ahE y66 x79),(zN y67),hm,rfl,rfl⟩)⟩
  refine c0 h (je ?_)
  exact .inr (⟨y66,aI y67,aB (decide (y67<((sll a0.E).length:Int))),hm,(zD hH),rfl⟩)
 refine sq (dn [jz,(ZH x1),ke] (bq ?_))
 refine ZR (fun mm t H=>(∃ (y84:Int),Z9 n a0 x1 k9 mm y84=some r∧t=mk 128 [jz,(ZH x1),(8,aI y84)]∧H=[.box (zc0 a0) false])) (⟨0,hm,rfl,rfl⟩) ?_ ?_
 ·
   rintro _ _ ⟨y84,hm,_⟩;exact nomatch hm
 rintro m85 _ _ ⟨y84,hm,rfl,rfl⟩
 simp only [Z9] at hm
 refine sq (sq (rg (s1 3 [(32,.pv (aiy a0)),(31,.ptr 0 1),(30,aI y84)] (dv 33 (v:=aI ((sll a0.H).length:Int)) (zu za a0.H t23 hH) hH (fq 1 [jz,(ZH x1),(8,aI y84),(34,aB (decide (y84<((sll a0.H).length:Int))))] ?_)))))
 rcases zd hm with ⟨h,hm⟩|⟨h,hm⟩
 ·refine c1 h (jd (sq (bq (sq (rg (s1 3 [(40,aI y84),(39,.pv (aiy a0)),(38,.ptr 0 1)] ?_))))))
  obtain ⟨x87,h88,hm⟩:=bs hm
  refine dv 41 (v:=.pv (.ptr (Z5 x87) 0)) (zS za a0.H .i64 t23 t49 h88 (zt x87) rfl hH) hH (s1 2 [(43,.pv (acT x1)),(42,.agg (zc9 x87))] ?_)
  obtain ⟨x89,h90,hm⟩:=bs hm
  refine dv 44 (zC hH (abT h90) hH hH hH) hH (fq 5 [jz,(ZH x1),(8,aI y84),(9,aI x89.1),(10,aI x89.2)] ?_)
  refine sq (sq (dn [jz,(ZH x1),(8,aI y84),(9,aI x89.1),(10,aI x89.2),(48,aB (x89.2 !=0))] ?_))
  rcases zd hm with ⟨h,hm⟩|⟨h,hm⟩
  ·refine c1 h (sq (dn [j2,(5,aI x89.2)] (jc ?_)))
   cases hm;exact hJ
  refine c0 h (jd (sq (rg (s1 3 [(52,aB (x89.1 !=0)),(51,aB (x89.1 !=0)),(50,aI x89.1)] ?_))))
  refine segP (x89.1 !=0) [52,51] (fun b=>[(55,aB (b&&(x89.1 !=1))),(54,ifA b (aB (x89.1 !=1)) hY),(53,ifA b (aI x89.1) hY)]) 3 hH hH hH (fin [jz,(ZH x1),(8,aI y84),(55,aB ((x89.1 !=0)&&(x89.1 !=1)))] rfl hH ?_)
  rcases zd hm with ⟨h,hm⟩|⟨h,hm⟩
  ·refine c1 h (sq (dn [j2,(5,aI 50)] (jc ?_)))
   cases hm;exact hJ
  refine c0 h (jd (dn [jz,(ZH x1),(zp41 y84)] ?_))
  exact ⟨_,_,Zg [jz,(ZH x1),(zp41 y84)] [.box (zc0 a0) false] hH,⟨(zN y84),hm,rfl,rfl⟩⟩
 refine c0 h (je ?_)
 exact ⟨(decide (y84<((sll a0.H).length:Int))),y84,hm,rfl,rfl⟩
theorem aoO {n:Nat}{a0:Int}{r:Int}(hm:af3 n a0=some r):
   call G n 224 [aI a0] []=some (.ret (aI r),[]):=by
 unfold af3 at hm
 obtain ⟨n,rfl,h0⟩:=zp hm
 replace hm:=h0;clear h0
 refine zT 14 [(0,aI a0)] func224 rfl hH (sq (dn [(0,aI a0)] (sq (sq (dn [(3,aI a0)] (bq (sq (dn [(3,aI a0),(4,aB (a0==1))] ?_))))))))
 rcases zd hm with ⟨h,hm⟩|⟨h,hm⟩
 ·refine c1 h (sq (dn [(2,aI 0)] (jc ?_)))
  cases hm;exact hJ
 refine c0 h ?_
 obtain ⟨k3,hk3,hm⟩:=zo hm
 refine mid (fun t H=>(∃ (y2:Bool),k3 y2=some r∧t=mk 14 [(3,aI a0),(6,aB y2)]∧H=[])) ?_ ?_
 ·rintro _ _ ⟨y2,hm,rfl,rfl⟩
  subst hk3
  rcases zd hm with ⟨h,hm⟩|⟨h,hm⟩
  ·refine c1 h (sq (dn [kc] (jc ?_)))
   cases hm;exact hJ
  refine c0 h (sq (sq (dn [(3,aI a0),(10,aB (a0==5))] ?_)))
  rcases zd hm with ⟨h,hm⟩|⟨h,hm⟩
  ·refine c1 h (jd ?_)
   rcases zd hm with ⟨h,hm⟩|⟨h,hm⟩
   ·refine c1 h (sq (dn [(2,aI 1)] (jc ?_)))
    cases hm;exact hJ
   refine c0 h (jd (sq (dn [(2,aI (-1))] (jc ?_))))
   cases hm;exact hJ
  refine c0 h (sq (dn [(3,aI a0),(10,aB (a0==6))] ?_))
  rcases zd hm with ⟨h,hm⟩|⟨h,hm⟩
  ·refine c1 h (jd ?_)
   rcases zd hm with ⟨h,hm⟩|⟨h,hm⟩
   ·refine c1 h (sq (dn [(2,aI 1)] (jc ?_)))
    cases hm;exact hJ
   refine c0 h (jd (sq (dn [(2,aI (-1))] (jc ?_))))
   cases hm;exact hJ
  refine c0 h (dn [(10,aB (a0==7))] ?_)
  rcases zd hm with ⟨h,hm⟩|⟨h,hm⟩
  ·refine c1 h (sq (dn [(2,aI 1)] (jc ?_)))
   cases hm;exact hJ
  refine c0 h (jd (sq (dn [(2,aI (-1))] (jc ?_))))
  cases hm;exact hJ
 refine sq (dn [(3,aI a0),(6,aB (a0==2))] ?_)
 rcases zd hm with ⟨h,hm⟩|⟨h,hm⟩
 ·refine c1 h (jd ?_)
  exact ⟨(a0==2),hm,rfl,rfl⟩
 refine c0 h (sq (dn [(3,aI a0),(6,aB (a0==3))] ?_))
 rcases zd hm with ⟨h,hm⟩|⟨h,hm⟩
 ·refine c1 h (jd ?_)
  exact ⟨(a0==3),hm,rfl,rfl⟩
 refine c0 h (dn [(3,aI a0),(6,aB (a0==4))] ?_)
 exact ⟨(a0==4),hm,rfl,rfl⟩
theorem afE {n:Nat}{a0:jl}{r:Bool}(hm:aax n a0=some r):
   call G n 225 [.pv (ZN a0)] []=some (.ret (aB r),[]):=by
 unfold aax at hm
 obtain ⟨n,rfl,h0⟩:=zp hm
 replace hm:=h0;clear h0
 refine zT 19 [(zp25 a0)] func225 rfl hH (sq (dn [(zp25 a0)] ?_))
 refine sq (sq (rg (s1 1 [(4,.pv (ZN a0))] (dv 5 (v:=aI (aaB a0)) (zu za a0 t23 hH) hH (fq 1 [(zp25 a0),(6,aB (decide (((sll a0).length:Int)>60)))] ?_)))))
 rcases zd hm with ⟨h,hm⟩|⟨h,hm⟩
 ·refine c1 h (sq (dn [ko] (jc ?_)))
  cases hm;exact hJ
 refine c0 h (jd ?_)
 obtain ⟨k4,hk4,hm⟩:=zo hm
 refine mid (fun t H=>(∃ (y2:Bool) (y3:Int),k4 ()=some r∧t=mk 19 [(zp25 a0),(3,aI y3),(10,aB y2)]∧H=[])) ?_ ?_
 ·rintro _ _ ⟨y2,y3,hm,rfl,rfl⟩
  subst hk4
  refine sq (dn [kK] (jc ?_))
  cases hm;exact hJ
 refine sq (dn [(zp25 a0),(3,aI 0)] (bq ?_))
 refine ZR (fun mm t H=>(∃ (y6:Int),aaa n a0 k4 mm y6=some r∧t=mk 19 [(zp25 a0),(3,aI y6)]∧H=[])) (⟨0,hm,rfl,rfl⟩) ?_ ?_
 ·
   rintro _ _ ⟨y6,hm,_⟩;exact nomatch hm
 rintro m7 _ _ ⟨y6,hm,rfl,rfl⟩
 simp only [aaa] at hm
 refine sq (sq (rg (s1 2 [(zp64 a0),(7,aI y6)] (dv 9 (v:=aI (aaB a0)) (zu za a0 t23 hH) hH (fq 1 [(zp25 a0),(3,aI y6),(10,aB (aai y6 a0))] ?_)))))
 rcases zd hm with ⟨h,hm⟩|⟨h,hm⟩
 ·refine c1 h (jd (sq (bq (sq (rg (s1 2 [(14,aI y6),(13,.pv (ZN a0))] ?_))))))
  obtain ⟨x9,h10,hm⟩:=bs hm
  refine dv 15 (v:=.pv (.ptr (Z5 x9) 0)) (zS za a0 .i64 t23 t49 h10 (zt x9) rfl hH) hH (s1 1 [(16,.agg (zc9 x9))] ?_)
  obtain ⟨x11,h12,hm⟩:=bs hm
  refine dv 17 (zC hH (afd h12) hH hH hH) hH (fq 1 [(zp25 a0),(3,aI y6),(18,aB (!x11))] ?_)
  rcases zd hm with ⟨h,hm⟩|⟨h,hm⟩
  ·refine c1 h (sq (dn [ko] (jc ?_)))
   cases hm;exact hJ
  refine c0 h (jd (dn [(zp25 a0),(3,aI (zN y6))] ?_))
  exact ⟨_,_,Zg [(zp25 a0),(3,aI (zN y6))] [] hH,⟨(zN y6),hm,rfl,rfl⟩⟩
 refine c0 h (je ?_)
 exact ⟨(aai y6 a0),y6,hm,rfl,rfl⟩
abbrev ajo (p0:zh):=((p0.A==3)||(p0.A==4))
abbrev awo (p0:zh):=(((decide (((sll p0.H).length:Int)>0))&&(decide (p0.A>4)))||(((sll p0.J).length:Int)!=((sll p0.L).length:Int)))
abbrev auJ (p0:zh):=(((p0.A==3)||(p0.A==4))==(decide (((sll p0.J).length:Int)>0)))
abbrev awm (p0:zh):=((((decide (((sll p0.E).length:Int)>0))&&(p0.A !=5))&&(p0.A !=6))||((p0.A==6)&&(((sll p0.E).length:Int)==0)))
theorem aog {n:Nat}{a0:zh}{r:Bool}(hm:af2 n a0=some r):
   call G n 177 [.agg (zc2 a0)] []=some (.ret (aB r),[]):=by
 unfold af2 at hm
 obtain ⟨n,rfl,h0⟩:=zp hm
 replace hm:=h0;clear h0
 refine zT 201 [(0,.agg (zc2 a0))] func177 rfl hH (sq (det [jA] [.box (zc2 a0) false] hH ?_))
 obtain ⟨k2,hk2,hm⟩:=zo hm
 refine mid (fun t H=>(∃ (y1:Bool),k2 ()=some r∧t=mk 201 [jA,(32,aB y1)]∧H=[.box (zc2 a0) false])) ?_ ?_
 ·rintro _ _ ⟨y1,hm,rfl,rfl⟩
  subst hk2
  refine sq (sq (rg (s1 2 [(34,.pv (aiD a0)),(33,.ptr 0 2)] ?_)))
  obtain ⟨x3,h4,hm⟩:=bs hm
  refine dv 35 (zC hH (afE h4) hH hH hH) hH (s1 2 [(37,aB (!x3)),(36,aB (!x3))] ?_)
  rcases zd hm with ⟨h5,hm⟩|⟨h5,hm⟩
  ·refine known [37,36] h5 hH (fq 29 [jA,(66,aB true)] (cT hH (sq (dn [ko] (jc ?_)))))
   cases hm;exact hJ
  refine known [37,36] h5 hH (s1 2 [(39,.pv (aag a0)),(38,.ptr 0 3)] ?_)
  obtain ⟨x6,h7,hm⟩:=bs hm
  refine dv 40 (zC hH (afE h7) hH hH hH) hH (s1 3 [(43,aB (!x6)),(42,aB (!x6)),(41,aB (!x6))] ?_)
  rcases zd hm with ⟨h8,hm⟩|⟨h8,hm⟩
  ·refine known [43,42,41] h8 hH (fq 23 [jA,(66,aB true)] (cT hH (sq (dn [ko] (jc ?_)))))
   cases hm;exact hJ
  refine known [43,42,41] h8 hH (s1 2 [(45,.pv (aaX a0)),(44,.ptr 0 4)] ?_)
  obtain ⟨x9,h10,hm⟩:=bs hm
  refine dv 46 (zC hH (afE h10) hH hH hH) hH (s1 3 [(49,aB (!x9)),(48,aB (!x9)),(47,aB (!x9))] ?_)
  rcases zd hm with ⟨h11,hm⟩|⟨h11,hm⟩
  ·refine known [49,48,47] h11 hH (fq 17 [jA,(66,aB true)] (cT hH (sq (dn [ko] (jc ?_)))))
   cases hm;exact hJ
  refine known [49,48,47] h11 hH (s1 2 [(51,.pv (akK a0)),(50,.ptr 0 5)] ?_)
  obtain ⟨x12,h13,hm⟩:=bs hm
  refine dv 52 (zC hH (afE h13) hH hH hH) hH (s1 3 [(55,aB (!x12)),(54,aB (!x12)),(53,aB (!x12))] ?_)
  refine seg (!x12) [55,54,53] (fun b=>[(60,aB (b||(aq8 a0))),(59,ifA b hY (aB (decide (((sll a0.D).length:Int)>60)))),(58,ifA b hY (aI ((sll a0.D).length:Int))),(57,ifA b hY (.pv (afp a0))),(56,ifA b hY (.ptr 0 6))]) 28 hH ?_ ?_ ?_
  ·intro Q h
   refine s1 5 [(60,aB true),(59,.undef),(58,.undef),(57,.undef),(56,.undef)] ?_
   exact Ze hH hH h
  ·intro Q h
   refine s1 2 [(57,.pv (afp a0)),(56,.ptr 0 6)] (dv 58 (v:=aI (agq a0)) (zu zl a0.D t24 hH) hH (s1 2 [(60,aB (aq8 a0)),(59,aB (aq8 a0))] ?_))
   exact Ze hH hH h
  refine s1 1 [(61,aB ((!x12)||(decide (((sll a0.D).length:Int)>60))))] ?_
  refine seg ((!x12)||(decide (((sll a0.D).length:Int)>60))) [61,60] (fun b=>[(66,aB (b||(arz a0))),(65,ifA b hY (aB (decide (((sll a0.G).length:Int)>60)))),(64,ifA b hY (aI ((sll a0.G).length:Int))),(63,ifA b hY (.pv (afK a0))),(62,ifA b hY (.ptr 0 7))]) 34 hH ?_ ?_ ?_
  ·intro Q h
   refine s1 5 [(66,aB true),(65,.undef),(64,.undef),(63,.undef),(62,.undef)] ?_
   exact Ze hH hH h
  ·intro Q h
   refine s1 2 [(63,.pv (afK a0)),(62,.ptr 0 7)] (dv 64 (v:=aI (agm a0)) (zu zx a0.G t25 hH) hH (s1 2 [(66,aB (arz a0)),(65,aB (arz a0))] ?_))
   exact Ze hH hH h
  refine fin [jA,(66,aB (((!x12)||(decide (((sll a0.D).length:Int)>60)))||(decide (((sll a0.G).length:Int)>60))))] rfl hH ?_
  rcases zd hm with ⟨h14,hm⟩|⟨h14,hm⟩
  ·refine c1 h14 (sq (dn [ko] (jc ?_)))
   cases hm;exact hJ
  refine c0 h14 (jd ?_)
  obtain ⟨k17,hk17,hm⟩:=zo hm
  refine mid (fun t H=>(∃ (y15:Int) (y16:Bool),k17 ()=some r∧t=mk 201 [jA,(3,aI y15),(71,aB y16)]∧H=[.box (zc2 a0) false])) ?_ ?_
  ·rintro _ _ ⟨y15,y16,hm,rfl,rfl⟩
   subst hk17
   obtain ⟨k20,hk20,hm⟩:=zo hm
   refine mid (fun t H=>(∃ (y18:Bool) (y19:Int),k20 ()=some r∧t=mk 201 [jA,(4,aI y19),(104,aB y18)]∧H=[.box (zc2 a0) false])) ?_ ?_
   ·rintro _ _ ⟨y18,y19,hm,rfl,rfl⟩
    subst hk20
    refine sq (rg (s1 4 [(126,aB (a0.A==3)),(125,aB (a0.A==3)),(124,aI a0.A),(123,.ptr 0 0)] ?_))
    refine segP (a0.A==3) [126,125] (fun b=>[(130,aB (b||(a0.A==4))),(129,ifA b hY (aB (a0.A==4))),(128,ifA b hY (aI a0.A)),(127,ifA b hY (.ptr 0 0))]) 4 hH hH hH (fq 1 [jA,(5,aB (ajo a0))] ?_)
    refine sq (sq (rg (s1 2 [(132,.pv (aiD a0)),(131,.ptr 0 2)] (dv 133 (v:=aI (aho a0)) (zu za a0.H t23 hH) hH (s1 2 [(135,aB (decide (((sll a0.H).length:Int)>0))),(134,aB (decide (((sll a0.H).length:Int)>0)))] ?_)))))
    refine segP (decide (((sll a0.H).length:Int)>0)) [135,134] (fun b=>[(139,aB (b&&(decide (a0.A>4)))),(138,ifA b (aB (decide (a0.A>4))) hY),(137,ifA b (aI a0.A) hY),(136,ifA b (.ptr 0 0) hY)]) 4 hH hH hH (s1 1 [(140,aB ((decide (((sll a0.H).length:Int)>0))&&(decide (a0.A>4))))] ?_)
    refine seg ((decide (((sll a0.H).length:Int)>0))&&(decide (a0.A>4))) [140,139] (fun b=>[(148,aB (b||(ao6 a0))),(147,ifA b hY (aB (((sll a0.J).length:Int)!=((sll a0.L).length:Int)))),(146,ifA b hY (aI ((sll a0.L).length:Int))),(145,ifA b hY (.pv (aaX a0))),(144,ifA b hY (.ptr 0 4)),(143,ifA b hY (anm a0)),(142,ifA b hY (.pv (aag a0))),(141,ifA b hY (.ptr 0 3))]) 18 hH ?_ ?_ ?_
    ·intro Q h
     refine s1 8 [(148,aB true),(147,.undef),(146,.undef),(145,.undef),(144,.undef),(143,.undef),(142,.undef),(141,.undef)] ?_
     exact Ze hH hH h
    ·intro Q h
     refine s1 2 [(142,.pv (aag a0)),(141,.ptr 0 3)] (dv 143 (v:=aI (ahq a0)) (zu za a0.J t23 hH) hH (s1 2 [(145,.pv (aaX a0)),(144,.ptr 0 4)] (dv 146 (v:=aI (ajI a0)) (zu za a0.L t23 hH) hH (s1 2 [(148,aB (ao6 a0)),(147,aB (ao6 a0))] ?_))))
     exact Ze hH hH h
    refine s1 1 [(149,aB (awo a0))] ?_
    refine seg (awo a0) [149,148] (fun b=>[(156,aB (b||(!(auJ a0)))),(155,ifA b hY (aB (!(((a0.A==3)||(a0.A==4))==(decide (((sll a0.J).length:Int)>0)))))),(154,ifA b hY (aB (decide (((sll a0.J).length:Int)>0)))),(153,ifA b hY (anm a0)),(152,ifA b hY (.pv (aag a0))),(151,ifA b hY (.ptr 0 3)),(150,ifA b hY (aB ((a0.A==3)||(a0.A==4))))]) 26 hH ?_ ?_ ?_
    ·intro Q h
     refine s1 7 [(156,aB true),(155,.undef),(154,.undef),(153,.undef),(152,.undef),(151,.undef),(150,.undef)] ?_
     exact Ze hH hH h
    ·intro Q h
     refine s1 3 [(152,.pv (aag a0)),(151,.ptr 0 3),(150,aB (ajo a0))] (dv 153 (v:=aI (ahq a0)) (zu za a0.J t23 hH) hH (s1 3 [(156,aB (!(auJ a0))),(155,aB (!(auJ a0))),(154,aB (decide (((sll a0.J).length:Int)>0)))] ?_))
     exact Ze hH hH h
    refine fin [jA,(156,aB ((((decide (((sll a0.H).length:Int)>0))&&(decide (a0.A>4)))||(((sll a0.J).length:Int)!=((sll a0.L).length:Int)))||(!(((a0.A==3)||(a0.A==4))==(decide (((sll a0.J).length:Int)>0))))))] rfl hH ?_
    rcases zd hm with ⟨h21,hm⟩|⟨h21,hm⟩
    ·refine c1 h21 (sq (dn [ko] (jc ?_)))
     cases hm;exact hJ
    refine c0 h21 (jd ?_)
    refine sq (sq (rg (s1 2 [(158,.pv (akK a0)),(157,.ptr 0 5)] (dv 159 (v:=aI (ajD a0)) (zu za a0.E t23 hH) hH (s1 2 [(161,aB (decide (((sll a0.E).length:Int)>0))),(160,aB (decide (((sll a0.E).length:Int)>0)))] ?_)))))
    refine segP (decide (((sll a0.E).length:Int)>0)) [161,160] (fun b=>[(165,aB (b&&(a0.A !=5))),(164,ifA b (aB (a0.A !=5)) hY),(163,ifA b (aI a0.A) hY),(162,ifA b (.ptr 0 0) hY)]) 4 hH hH hH (s1 1 [(166,aB ((decide (((sll a0.E).length:Int)>0))&&(a0.A !=5)))] ?_)
    refine segP ((decide (((sll a0.E).length:Int)>0))&&(a0.A !=5)) [166,165] (fun b=>[(170,aB (b&&(a0.A !=6))),(169,ifA b (aB (a0.A !=6)) hY),(168,ifA b (aI a0.A) hY),(167,ifA b (.ptr 0 0) hY)]) 4 hH hH hH (s1 1 [(171,aB (((decide (((sll a0.E).length:Int)>0))&&(a0.A !=5))&&(a0.A !=6)))] ?_)
    refine seg (((decide (((sll a0.E).length:Int)>0))&&(a0.A !=5))&&(a0.A !=6)) [171,170] (fun b=>[(181,aB (b||((a0.A==6)&&(((sll a0.E).length:Int)==0)))),(180,ifA b hY (aB ((a0.A==6)&&(((sll a0.E).length:Int)==0)))),(179,ifA b hY (ifA (a0.A==6) (aB (((sll a0.E).length:Int)==0)) hY)),(178,ifA b hY (ifA (a0.A==6) (aI ((sll a0.E).length:Int)) hY)),(177,ifA b hY (ifA (a0.A==6) (.pv (zk za a0.E)) hY)),(176,ifA b hY (ifA (a0.A==6) (.ptr 0 5) hY)),(175,ifA b hY (aB (a0.A==6))),(174,ifA b hY (aB (a0.A==6))),(173,ifA b hY (aI a0.A)),(172,ifA b hY (.ptr 0 0))]) 25 hH ?_ ?_ ?_
    ·intro Q h
     refine s1 10 [(181,aB true),(180,.undef),(179,.undef),(178,.undef),(177,.undef),(176,.undef),(175,.undef),(174,.undef),(173,.undef),(172,.undef)] ?_
     exact Ze hH hH h
    ·intro Q h
     refine s1 4 [(175,aB (a0.A==6)),(174,aB (a0.A==6)),(173,aI a0.A),(172,.ptr 0 0)] ?_
     refine seg (a0.A==6) [175,174] (fun b=>[(180,aB (b&&(((sll a0.E).length:Int)==0))),(179,ifA b (aB (((sll a0.E).length:Int)==0)) hY),(178,ifA b (aI ((sll a0.E).length:Int)) hY),(177,ifA b (.pv (akK a0)) hY),(176,ifA b (.ptr 0 5) hY)]) 24 hH ?_ ?_ ?_
     ·intro Q h
      refine s1 2 [(177,.pv (akK a0)),(176,.ptr 0 5)] (dv 178 (v:=aI (ajD a0)) (zu za a0.E t23 hH) hH (s1 2 [(180,aB (((sll a0.E).length:Int)==0)),(179,aB (((sll a0.E).length:Int)==0))] ?_))
      exact Ze hH hH h
     ·intro Q h
      refine s1 5 [(180,aB false),(179,.undef),(178,.undef),(177,.undef),(176,.undef)] ?_
      exact Ze hH hH h
     refine s1 1 [(181,aB ((a0.A==6)&&(((sll a0.E).length:Int)==0)))] ?_
     exact Ze hH hH h
    refine s1 1 [(182,aB (awm a0))] ?_
    refine seg (awm a0) [182,181] (fun b=>[(192,aB (b||((decide (((sll a0.D).length:Int)>0))&&(a0.A !=5)))),(191,ifA b hY (aB ((decide (((sll a0.D).length:Int)>0))&&(a0.A !=5)))),(190,ifA b hY (ifA (decide (((sll a0.D).length:Int)>0)) (aB (a0.A !=5)) hY)),(189,ifA b hY (ifA (decide (((sll a0.D).length:Int)>0)) (aI a0.A) hY)),(188,ifA b hY (ifA (decide (((sll a0.D).length:Int)>0)) (.ptr 0 0) hY)),(187,ifA b hY (aB (decide (((sll a0.D).length:Int)>0)))),(186,ifA b hY (aB (decide (((sll a0.D).length:Int)>0)))),(185,ifA b hY (aI ((sll a0.D).length:Int))),(184,ifA b hY (.pv (afp a0))),(183,ifA b hY (.ptr 0 6))]) 36 hH ?_ ?_ ?_
    ·intro Q h
     refine s1 10 [(192,aB true),(191,.undef),(190,.undef),(189,.undef),(188,.undef),(187,.undef),(186,.undef),(185,.undef),(184,.undef),(183,.undef)] ?_
     exact Ze hH hH h
    ·intro Q h
     refine s1 2 [(184,.pv (afp a0)),(183,.ptr 0 6)] (dv 185 (v:=aI (agq a0)) (zu zl a0.D t24 hH) hH (s1 2 [(187,aB (decide (((sll a0.D).length:Int)>0))),(186,aB (decide (((sll a0.D).length:Int)>0)))] ?_))
     refine segP (decide (((sll a0.D).length:Int)>0)) [187,186] (fun b=>[(191,aB (b&&(a0.A !=5))),(190,ifA b (aB (a0.A !=5)) hY),(189,ifA b (aI a0.A) hY),(188,ifA b (.ptr 0 0) hY)]) 4 hH hH hH (s1 1 [(192,aB ((decide (((sll a0.D).length:Int)>0))&&(a0.A !=5)))] ?_)
     exact Ze hH hH h
    refine fin [jA,(192,aB (((((decide (((sll a0.E).length:Int)>0))&&(a0.A !=5))&&(a0.A !=6))||((a0.A==6)&&(((sll a0.E).length:Int)==0)))||((decide (((sll a0.D).length:Int)>0))&&(a0.A !=5))))] rfl hH ?_
    rcases zd hm with ⟨h22,hm⟩|⟨h22,hm⟩
    ·refine c1 h22 (sq (dn [ko] (jc ?_)))
     cases hm;exact hJ
    refine c0 h22 (jd (sq (rg (s1 5 [(197,.pv (afK a0)),(196,.ptr 0 7),(195,aB (a0.A==7)),(194,aI a0.A),(193,.ptr 0 0)] (dv 198 (v:=aI (agm a0)) (zu zx a0.G t25 hH) hH (fq 3 [(2,aB ((a0.A==7)==(decide (((sll a0.G).length:Int)>0))))] (jc ?_)))))))
    cases hm;exact hJ
   refine sq (dn [jA,j8] (bq ?_))
   refine ZR (fun mm t H=>(∃ (y24:Int),qE n a0 k20 mm y24=some r∧t=mk 201 [jA,(4,aI y24)]∧H=[.box (zc2 a0) false])) (⟨0,hm,rfl,rfl⟩) ?_ ?_
   ·
     rintro _ _ ⟨y24,hm,_⟩;exact nomatch hm
   rintro m25 _ _ ⟨y24,hm,rfl,rfl⟩
   simp only [qE] at hm
   refine sq (sq (rg (s1 3 [(102,.pv (afK a0)),(101,.ptr 0 7),(100,aI y24)] (dv 103 (v:=aI (agm a0)) (zu zx a0.G t25 hH) hH (fq 1 [jA,(4,aI y24),(104,aB (decide (y24<((sll a0.G).length:Int))))] ?_)))))
   rcases zd hm with ⟨h26,hm⟩|⟨h26,hm⟩
   ·refine c1 h26 (jd (sq (bq (sq (rg (s1 3 [(109,aI y24),(108,.pv (afK a0)),(107,.ptr 0 7)] ?_))))))
    obtain ⟨x27,h28,hm⟩:=bs hm
    refine dv 110 (v:=.pv (.ptr (zx x27) 0)) (Zz zx a0.G .i64 t25 t86 h28 rfl hH) hH (s1 4 [(114,aB (aix x27)),(113,aB (aix x27)),(112,aI x27.E),(111,.pv (.ptr (zx x27) 0))] ?_)
    refine seg (aix x27) [114,113] (fun b=>[(122,aB (b||(decide (x27.E>29)))),(121,ifA b hY (aB (decide (x27.E>29)))),(120,ifA b hY (aI x27.E)),(119,ifA b hY (.pv (.ptr (zx x27) 0))),(118,ifA b hY (.pv (.ptr (zx x27) 0))),(117,ifA b hY (aI y24)),(116,ifA b hY (.pv (afK a0))),(115,ifA b hY (.ptr 0 7))]) 16 hH ?_ ?_ ?_
    ·intro Q h
     refine s1 8 [(122,aB true),(121,.undef),(120,.undef),(119,.undef),(118,.undef),(117,.undef),(116,.undef),(115,.undef)] ?_
     exact Ze hH hH h
    ·intro Q h
     refine s1 3 [(117,aI y24),(116,.pv (afK a0)),(115,.ptr 0 7)] (dv 118 (v:=.pv (.ptr (zx x27) 0)) (Zz zx a0.G .i64 t25 t86 h28 rfl hH) hH (s1 4 [(122,aB (decide (x27.E>29))),(121,aB (decide (x27.E>29))),(120,aI x27.E),(119,.pv (.ptr (zx x27) 0))] ?_))
     exact Ze hH hH h
    refine fin [jA,(4,aI y24),(122,aB ((decide (x27.E<0))||(decide (x27.E>29))))] rfl hH ?_
    rcases zd hm with ⟨h29,hm⟩|⟨h29,hm⟩
    ·refine c1 h29 (sq (dn [ko] (jc ?_)))
     cases hm;exact hJ
    refine c0 h29 (jd (dn [jA,(zp26 y24)] ?_))
    exact ⟨_,_,Zg [jA,(zp26 y24)] [.box (zc2 a0) false] hH,⟨(zN y24),hm,rfl,rfl⟩⟩
   refine c0 h26 (je ?_)
   exact ⟨(decide (y24<((sll a0.G).length:Int))),y24,hm,rfl,rfl⟩
  refine sq (dn [jA,(3,aI 0)] (bq ?_))
  refine ZR (fun mm t H=>(∃ (y31:Int),Qp n a0 k17 mm y31=some r∧t=mk 201 [jA,(3,aI y31)]∧H=[.box (zc2 a0) false])) (⟨0,hm,rfl,rfl⟩) ?_ ?_
  ·
    rintro _ _ ⟨y31,hm,_⟩;exact nomatch hm
  rintro m32 _ _ ⟨y31,hm,rfl,rfl⟩
  simp only [Qp] at hm
  refine sq (sq (rg (s1 3 [(69,.pv (afp a0)),(68,.ptr 0 6),(67,aI y31)] (dv 70 (v:=aI (agq a0)) (zu zl a0.D t24 hH) hH (fq 1 [jA,(3,aI y31),(71,aB (decide (y31<((sll a0.D).length:Int))))] ?_)))))
  rcases zd hm with ⟨h33,hm⟩|⟨h33,hm⟩
  ·refine c1 h33 (jd (sq (bq (sq (rg (s1 3 [(76,aI y31),(75,.pv (afp a0)),(74,.ptr 0 6)] ?_))))))
   obtain ⟨x34,h35,hm⟩:=bs hm
   refine dv 77 (v:=.pv (.ptr (zl x34) 0)) (Zz zl a0.D .i64 t24 t101 h35 rfl hH) hH (s1 4 [(81,aB (ahw x34)),(80,aB (ahw x34)),(79,aI x34.A),(78,.pv (.ptr (zl x34) 0))] ?_)
   refine seg (ahw x34) [81,80] (fun b=>[(89,aB (b||(decide (x34.A>4)))),(88,ifA b hY (aB (decide (x34.A>4)))),(87,ifA b hY (aI x34.A)),(86,ifA b hY (.pv (.ptr (zl x34) 0))),(85,ifA b hY (.pv (.ptr (zl x34) 0))),(84,ifA b hY (aI y31)),(83,ifA b hY (.pv (afp a0))),(82,ifA b hY (.ptr 0 6))]) 16 hH ?_ ?_ ?_
   ·intro Q h
    refine s1 8 [(89,aB true),(88,.undef),(87,.undef),(86,.undef),(85,.undef),(84,.undef),(83,.undef),(82,.undef)] ?_
    exact Ze hH hH h
   ·intro Q h
    refine s1 3 [(84,aI y31),(83,.pv (afp a0)),(82,.ptr 0 6)] (dv 85 (v:=.pv (.ptr (zl x34) 0)) (Zz zl a0.D .i64 t24 t101 h35 rfl hH) hH (s1 4 [(89,aB (decide (x34.A>4))),(88,aB (decide (x34.A>4))),(87,aI x34.A),(86,.pv (.ptr (zl x34) 0))] ?_))
    exact Ze hH hH h
   refine s1 1 [(90,aB (as9 x34))] ?_
   rcases zd hm with ⟨h36,hm⟩|⟨h36,hm⟩
   ·refine known [90,89] h36 hH (fq 9 [jA,(3,aI y31),(99,aB true)] (cT hH (sq (dn [ko] (jc ?_)))))
    cases hm;exact hJ
   refine known [90,89] h36 hH (s1 3 [(93,aI y31),(92,.pv (afp a0)),(91,.ptr 0 6)] (dv 94 (v:=.pv (.ptr (zl x34) 0)) (Zz zl a0.D .i64 t24 t101 h35 rfl hH) hH (s1 2 [(96,.agg (zc1 x34)),(95,.pv (.ptr (zl x34) 1))] ?_)))
   obtain ⟨x37,h38,hm⟩:=bs hm
   refine dv 97 (zC hH (afd h38) hH hH hH) hH (fq 2 [jA,(3,aI y31),(99,aB (!x37))] ?_)
   rcases zd hm with ⟨h39,hm⟩|⟨h39,hm⟩
   ·refine c1 h39 (sq (dn [ko] (jc ?_)))
    cases hm;exact hJ
   refine c0 h39 (jd (dn [jA,(3,aI (zN y31))] ?_))
   exact ⟨_,_,Zg [jA,(3,aI (zN y31))] [.box (zc2 a0) false] hH,⟨(zN y31),hm,rfl,rfl⟩⟩
  refine c0 h33 (je ?_)
  exact ⟨y31,(decide (y31<((sll a0.D).length:Int))),hm,rfl,rfl⟩
 refine sq (rgd (shd 2 [(7,aI a0.A),(6,.ptr 0 0)] hH ?_))
 obtain ⟨x40,h41,hm⟩:=bs hm
 refine dvd 8 (zC hH (aoO h41) hH hH hH) hH (shd 2 [(10,.pv (adv a0)),(9,.ptr 0 8)] hH (dvd 11 (v:=aI (ahp a0)) (zu zA a0.B t64 hH) hH (shd 2 [(13,aB (x40 !=((sll a0.B).length:Int))),(12,aB (x40 !=((sll a0.B).length:Int)))] hH ?_)))
 rcases zd hm with ⟨h42,hm⟩|⟨h42,hm⟩
 ·refine zM [13,12] h42 hH (shd 19 [kH,(31,.undef),(30,.undef),(29,.undef),(28,.undef),(27,.undef),(26,.undef),(25,.undef),(24,.undef),kz,(22,aB true),(21,.undef),(20,.undef),(19,.undef),(18,aB true),(17,aB true),(16,.undef),(15,.undef),(14,.undef)] hH (find [jA,kH] rfl hH hH (cT hH (sq (dn [ko] (jc ?_))))))
  cases hm;exact hJ
 refine zM [13,12] h42 hH (shd 5 [(18,aB (decide (a0.C<0))),(17,aB (decide (a0.C<0))),(16,aB (decide (a0.C<0))),(15,aI a0.C),(14,.ptr 0 1)] hH ?_)
 rcases zd hm with ⟨h43,hm⟩|⟨h43,hm⟩
 ·refine zM [18,17,16] h43 hH (shd 14 [kH,(31,.undef),(30,.undef),(29,.undef),(28,.undef),(27,.undef),(26,.undef),(25,.undef),(24,.undef),kz,(22,aB true),(21,.undef),(20,.undef),(19,.undef)] hH (find [jA,kH] rfl hH hH (cT hH (sq (dn [ko] (jc ?_))))))
  cases hm;exact hJ
 refine zM [18,17,16] h43 hH (shd 5 [(23,aB (decide (a0.C≥12))),(22,aB (decide (a0.C≥12))),(21,aB (decide (a0.C≥12))),(20,aI a0.C),jX] hH ?_)
 rcases zd hm with ⟨h44,hm⟩|⟨h44,hm⟩
 ·refine zM [23,22,21] h44 hH (shd 9 [kH,(31,.undef),(30,.undef),(29,.undef),(28,.undef),(27,.undef),(26,.undef),(25,.undef),(24,.undef)] hH (find [jA,kH] rfl hH hH (cT hH (sq (dn [ko] (jc ?_))))))
  cases hm;exact hJ
 refine zM [23,22,21] h44 hH (shd 4 [(27,aB (a0.C !=0)),(26,aB (a0.C !=0)),(25,aI a0.C),(24,.ptr 0 1)] hH ?_)
 rcases zd hm with ⟨h45,hm⟩|⟨h45,hm⟩
 ·refine zM [27,26] h45 hH (shd 5 [(32,aB (a0.A !=1)),(31,aB (a0.A !=1)),(30,aB (a0.A !=1)),(29,aI a0.A),(28,.ptr 0 0)] hH (find [jA,(32,aB (a0.A !=1))] rfl hH hH ?_))
  rcases zd hm with ⟨h46,hm⟩|⟨h46,hm⟩
  ·refine c1 h46 (sq (dn [ko] (jc ?_)))
   cases hm;exact hJ
  refine c0 h46 (jd ?_)
  exact ⟨(a0.A !=1),hm,rfl,rfl⟩
 refine zM [27,26] h45 hH (shd 5 [(32,aB false),(31,aB false),(30,.undef),(29,.undef),(28,.undef)] hH (find [jA,(32,aB false)] rfl hH hH (cF hH (jd ?_))))
 exact ⟨false,hm,rfl,rfl⟩
theorem amt {rc_ref25_count:(Nat→zh→Int→Option (Int))}(ih_ref25_count:∀ {n:Nat}{a0:zh}{a1:Int}{r:Int}(hm:rc_ref25_count n a0 a1=some r),call G n 126 [.agg [aI a0.A,aI a0.C,.pv (zk za a0.H),.pv (zk za a0.J),.pv (zk za a0.L),.pv (zk za a0.E),.pv (zk zl a0.D),.pv (zk zx a0.G),.pv (zk zA a0.B)],aI a1] []=some (.ret (aI r),[])) {n:Nat}{a0:zh}{a1:Int}{r:Int}(hm:aaT rc_ref25_count n a0 a1=some r):
   call G n 126 [.agg (zc2 a0),aI a1] []=some (.ret (aI r),[]):=by
 unfold aaT at hm
 obtain ⟨n,rfl,h0⟩:=zp hm
 replace hm:=h0;clear h0
 refine zT 34 [(0,.agg (zc2 a0)),(1,aI a1)] func126 rfl hH (sq (det [(1,aI a1),jz] [.box (zc2 a0) false] hH ?_))
 refine sq (sq (rg (s1 3 [(9,aB (decide (a1>24))),(8,aB (decide (a1>24))),(7,aI a1)] ?_)))
 rcases zd hm with ⟨h,hm⟩|⟨h,hm⟩
 ·refine known [9,8] h hH (fq 4 [(1,aI a1),jz,(13,aB true)] (cT hH (sq (dn [(4,aI 41)] (jc ?_)))))
  cases hm;exact hJ
 refine known [9,8] h hH (s1 1 [(10,.agg (zc2 a0))] ?_)
 obtain ⟨x2,h3,hm⟩:=bs hm
 refine dv 11 (zC hH (aog h3) hH hH hH) hH (fq 2 [(1,aI a1),jz,(13,aB (!x2))] ?_)
 rcases zd hm with ⟨h,hm⟩|⟨h,hm⟩
 ·refine c1 h (sq (dn [(4,aI 41)] (jc ?_)))
  cases hm;exact hJ
 refine c0 h (jd (sq (dn [(1,aI a1),jz,(5,aI 1)] ?_)))
 obtain ⟨k8,hk8,hm⟩:=zo hm
 refine mid (fun t H=>(∃ (y5:Bool) (y6:Int) (y7:Int),k8 y6=some r∧t=mk 34 [(1,aI a1),jz,(5,aI y6),(6,aI y7),(18,aB y5)]∧H=[.box (zc2 a0) false])) ?_ ?_
 ·rintro _ _ ⟨y5,y6,y7,hm,rfl,rfl⟩
  subst hk8
  refine sq (dn [(4,aI y6)] (jc ?_))
  cases hm;exact hJ
 refine sq (dn [(1,aI a1),jz,(5,aI 1),kf] (bq ?_))
 refine ZR (fun mm t H=>(∃ (y11:Int) (y12:Int),acn n rc_ref25_count a0 a1 k8 mm y11 y12=some r∧t=mk 34 [(1,aI a1),jz,(5,aI y11),(6,aI y12)]∧H=[.box (zc2 a0) false])) (⟨1,0,hm,rfl,rfl⟩) ?_ ?_
 ·
   rintro _ _ ⟨y11,y12,hm,_⟩;exact nomatch hm
 rintro m13 _ _ ⟨y11,y12,hm,rfl,rfl⟩
 simp only [acn] at hm
 refine sq (sq (rg (s1 3 [(16,.pv (adv a0)),(15,.ptr 0 8),(14,aI y12)] (dv 17 (v:=aI (ahp a0)) (zu zA a0.B t64 hH) hH (fq 1 [(1,aI a1),jz,(5,aI y11),(6,aI y12),(18,aB (afm y12 a0))] ?_)))))
 rcases zd hm with ⟨h,hm⟩|⟨h,hm⟩
 ·refine c1 h (jd (sq (bq (sq (rg (s1 4 [(24,aI y12),(23,.pv (adv a0)),(22,.ptr 0 8),(21,aI y11)] ?_))))))
  obtain ⟨x15,h16,hm⟩:=bs hm
  refine dv 25 (v:=.pv (.ptr (acQ x15) 0)) (zS zA a0.B .i64 t64 t66 h16 (Zd x15) rfl hH) hH (s1 3 [(28,aI (zN a1)),(27,aI a1),(26,.agg (zc3 x15))] ?_)
  obtain ⟨x17,h18,hm⟩:=bs hm
  refine dv 29 (zC hH (ih_ref25_count h18) hH hH hH) hH (fq 2 [(1,aI a1),jz,(zp31 y11 x17),(6,aI y12)] (sq (dn [(1,aI a1),jz,(zp31 y11 x17),(6,aI y12),(32,aB (decide ((IntKind.wrap .i64 (y11+x17))>40)))] ?_)))
  rcases zd hm with ⟨h,hm⟩|⟨h,hm⟩
  ·refine c1 h (sq (dn [(4,aI 41)] (jc ?_)))
   cases hm;exact hJ
  refine c0 h (jd (dn [(1,aI a1),jz,(zp31 y11 x17),(zp29 y12)] ?_))
  exact ⟨_,_,Zg [(1,aI a1),jz,(zp31 y11 x17),(zp29 y12)] [.box (zc2 a0) false] hH,⟨(ais y11 x17),(zN y12),hm,rfl,rfl⟩⟩
 refine c0 h (je ?_)
 exact ⟨(afm y12 a0),y11,y12,hm,rfl,rfl⟩
theorem ahB:∀ (m:Nat),∀ {n:Nat}{a0:zh}{a1:Int}{r:Int}(hm:QY m n a0 a1=some r),call G n 126 [.agg (zc2 a0),aI a1] []=some (.ret (aI r),[])
 |0=>by intros;rename_i hm;exact nomatch hm
 |m+1=>fun hm=>
  amt (ahB m) hm
theorem anW {n:Nat}{a0:zh}{a1:Int}{r:Int}(hm:aiw n a0 a1=some r):
 call G n 126 [.agg (zc2 a0),aI a1] []=some (.ret (aI r),[]):=ahB n hm
theorem amn {n:Nat}{a0:zh}{r:Bool}(hm:aef n a0=some r):
  call G n 37 [.agg (zc2 a0)] []=some (.ret (aB r),[]):=by
 unfold aef at hm
 obtain ⟨n,rfl,h0⟩:=zp hm
 replace hm:=h0;clear h0
 refine zT 6 [(0,.agg (zc2 a0))] func37 rfl hH (sq (det [jA] [.box (zc2 a0) false] hH (sq (rg (s1 1 [(3,.agg (zc2 a0))] ?_)))))
 obtain ⟨x1,h2,hm⟩:=bs hm
 refine dv 4 (zC hH (anW h2) hH hH hH) hH (fq 2 [(2,aB (decide (x1≤40)))] (jc ?_))
 cases hm;exact hJ
theorem ah8 {n:Nat}{a0:zn}{r:zn}(hm:adA n a0=some r):
   call G n 219 [.agg (zc6 a0)] []=some (.ret (.agg [aI r.A,aI r.K,aF r.I,aS r.N]),[]):=by
 unfold adA at hm
 obtain ⟨n,rfl,h0⟩:=zp hm
 replace hm:=h0;clear h0
 refine zT 17 [(0,.agg (zc6 a0))] func219 rfl hH (sq (det [jA,jB] [.box (zc6 a0) false,.box [aI 0,aI 0,aF 0,aS ByteArray.empty] false] hH ?_))
 refine sq (sq (rg (s1 1 [(3,.agg (zc6 a0))] ?_)))
 obtain ⟨x1,h2,hm⟩:=bs hm
 refine dv 4 (zC hH (aiN h2) hH hH hH) hH (fq 1 [jA,jB,(5,aB (!x1))] ?_)
 rcases zd hm with ⟨h,hm⟩|⟨h,hm⟩
 ·refine c1 h (sq (dn [jB] (jc ?_)))
  cases hm;exact hJ
 refine c0 h (jd (sq (sq (rg (s1 4 [(10,aB (a0.A==3)),(9,aB (a0.A==3)),(8,aI a0.A),(7,.ptr 0 0)] ?_)))))
 refine segP (a0.A==3) [10,9] (fun b=>[(14,aB (b&&(atk a0))),(13,ifA b (aB ((FloatKind.format .f64).order a0.I 0==some .eq)) hY),(12,ifA b (aF a0.I) hY),(11,ifA b (.ptr 0 2) hY)]) 4 hH hH hH (fin [jA,jB,(14,aB ((a0.A==3)&&((FloatKind.format .f64).order a0.I 0==some .eq)))] rfl hH ?_)
 rcases zd hm with ⟨h,hm⟩|⟨h,hm⟩
 ·refine c1 h (sq (det [jB] [.box (zc6 a0) false,.box [aI 3,aI 0,aF 0,aS ByteArray.empty] false] hH (jc ?_)))
  cases hm;exact hJ
 refine c0 h (jd (sq (det [jB] [.box (zc6 a0) false,.box (zc6 a0) false] hH (jc ?_))))
 cases hm;exact hJ
abbrev asP (p0:zn):Nat×AV:=(7,aB ((FloatKind.format .f64).order p0.I p0.I !=some .eq))
abbrev awu (p0:zn) (p1:zn):Nat×AV:=(5,aB (((FloatKind.format .f64).order p0.I p1.I==some .lt)||((!((FloatKind.format .f64).order p0.I p0.I !=some .eq))&&((FloatKind.format .f64).order p1.I p1.I !=some .eq))))
abbrev ahY (p0:zn):=((FloatKind.format .f64).order p0.I p0.I !=some .eq)
abbrev au7 (p0:zn):=(aB (!((FloatKind.format .f64).order p0.I p0.I !=some .eq)))
abbrev art (p0:zn):=(aB ((FloatKind.format .f64).order p0.I p0.I !=some .eq))
abbrev awp (p0:zn) (p1:zn):=(((FloatKind.format .f64).order p0.I p1.I==some .gt)||(((FloatKind.format .f64).order p0.I p0.I !=some .eq)&&(!((FloatKind.format .f64).order p1.I p1.I !=some .eq))))
theorem aqM {n:Nat}{a0:zn}{a1:zn}{r:Int}(hm:agN n a0 a1=some r):
   call G n 173 [.agg (zc6 a0),.agg (zc6 a1)] []=some (.ret (aI r),[]):=by
 unfold agN at hm
 obtain ⟨n,rfl,h0⟩:=zp hm
 replace hm:=h0;clear h0
 refine zT 85 [(0,.agg (zc6 a0)),(1,.agg (zc6 a1))] func173 rfl hH (sq (det [jz,jC] [.box (zc6 a0) false,.box (zc6 a1) false] hH (sq (rg (s1 1 [(9,.agg (zc6 a0))] ?_)))))
 obtain ⟨x1,h2,hm⟩:=bs hm
 refine dv 10 (zC hH (ah8 h2) hH hH hH) hH (stf 1 [jz,jC] [.box (zc6 x1) false,.box (zc6 a1) false] hH (sq (rg (s1 1 [(11,.agg (zc6 a1))] ?_))))
 obtain ⟨x3,h4,hm⟩:=bs hm
 refine dv 12 (zC hH (ah8 h4) hH hH hH) hH (stf 1 [jz,jC] [.box (zc6 x1) false,.box (zc6 x3) false] hH ?_)
 refine sq (sq (dn [jz,jC,(17,aB (x1.A !=x3.A))] ?_))
 rcases zd hm with ⟨h5,hm⟩|⟨h5,hm⟩
 ·refine c1 h5 (sq (sq (dn [(22,aB (decide (x1.A<x3.A)))] ?_)))
  rcases zd hm with ⟨h6,hm⟩|⟨h6,hm⟩
  ·refine c1 h6 (sq (dn [(4,aI (-1))] (jc ?_)))
   cases hm;exact hJ
  refine c0 h6 (jd (sq (dn [kb] (jc ?_))))
  cases hm;exact hJ
 refine c0 h5 (jd (sq (dn [jz,jC,(5,aB (decide (x1.K<x3.K)))] (sq (dn [jz,jC,(5,aB (decide (x1.K<x3.K))),(6,aB (decide (x1.K>x3.K)))] ?_)))))
 obtain ⟨k10,hk10,hm⟩:=zo hm
 refine mid (fun t H=>(∃ (y8:Bool) (y9:Bool) (w7:AV),k10 y8 y9=some r∧t=mk 85 [jz,jC,(5,aB y8),(6,aB y9),(35,w7)]∧H=[.box (zc6 x1) false,.box (zc6 x3) false])) ?_ ?_
 ·rintro _ _ ⟨y8,y9,w7,hm,rfl,rfl⟩
  subst hk10
  refine sq (sq (dn [jz,jC,(5,aB y8),(6,aB y9),(72,aB (x1.A==4))] ?_))
  rcases zd hm with ⟨h11,hm⟩|⟨h11,hm⟩
  ·refine c1 h11 (sq (dn [jz,jC,(5,aB (sLt x1.N x3.N))] (dn [(5,aB (sLt x1.N x3.N)),(6,aB (!(sLt x1.N x3.N||sEq x1.N x3.N)))] (sq (sq (dn [(6,aB (!(sLt x1.N x3.N||sEq x1.N x3.N))),(83,aB (sLt x1.N x3.N))] ?_))))))
   rcases zd hm with ⟨h12,hm⟩|⟨h12,hm⟩
   ·refine c1 h12 (sq (dn [(4,aI (-1))] (jc ?_)))
    cases hm;exact hJ
   refine c0 h12 (jd (sq (sq (dn [(84,aB (!(sLt x1.N x3.N||sEq x1.N x3.N)))] ?_))))
   rcases zd hm with ⟨h13,hm⟩|⟨h13,hm⟩
   ·refine c1 h13 (sq (dn [kb] (jc ?_)))
    cases hm;exact hJ
   refine c0 h13 (jd (sq (dn [j8] (jc ?_))))
   cases hm;exact hJ
  refine c0 h11 (jd (sq (sq (dn [(6,aB y9),(83,aB y8)] ?_))))
  rcases zd hm with ⟨h14,hm⟩|⟨h14,hm⟩
  ·refine c1 h14 (sq (dn [(4,aI (-1))] (jc ?_)))
   cases hm;exact hJ
  refine c0 h14 (jd (sq (sq (dn [(84,aB y9)] ?_))))
  rcases zd hm with ⟨h15,hm⟩|⟨h15,hm⟩
  ·refine c1 h15 (sq (dn [kb] (jc ?_)))
   cases hm;exact hJ
  refine c0 h15 (jd (sq (dn [j8] (jc ?_))))
  cases hm;exact hJ
 refine sq (dn [jz,jC,(5,aB (decide (x1.K<x3.K))),(6,aB (decide (x1.K>x3.K))),(35,aB (x1.A==3))] ?_)
 rcases zd hm with ⟨h16,hm⟩|⟨h16,hm⟩
 ·refine c1 h16 (sq (dn [jz,jC,(asP x1)] (sq (dn [jz,jC,(asP x1),(8,aB (ahY x3))] ?_))))
  refine sq (rg (s1 6 [(51,aB ((FloatKind.format .f64).order x1.I x3.I==some .lt)),(50,aB ((FloatKind.format .f64).order x1.I x3.I==some .lt)),(49,aF x3.I),(48,.ptr 1 2),(47,aF x1.I),(46,.ptr 0 2)] ?_))
  refine seg ((FloatKind.format .f64).order x1.I x3.I==some .lt) [51,50] (fun b=>[(57,aB (b||((!((FloatKind.format .f64).order x1.I x1.I !=some .eq))&&((FloatKind.format .f64).order x3.I x3.I !=some .eq)))),(56,ifA b hY (aB ((!((FloatKind.format .f64).order x1.I x1.I !=some .eq))&&((FloatKind.format .f64).order x3.I x3.I !=some .eq)))),(55,ifA b hY (ifA (!((FloatKind.format .f64).order x1.I x1.I !=some .eq)) (aB ((FloatKind.format .f64).order x3.I x3.I !=some .eq)) hY)),(54,ifA b hY (au7 x1)),(53,ifA b hY (au7 x1)),(52,ifA b hY (art x1))]) 12 hH ?_ ?_ ?_
  ·intro Q h
   refine s1 6 [(57,aB true),(56,.undef),(55,.undef),(54,.undef),(53,.undef),(52,.undef)] ?_
   exact Ze hH hH h
  ·intro Q h
   refine s1 3 [(54,aB (!(ahY x1))),(53,aB (!(ahY x1))),(52,aB (ahY x1))] ?_
   refine segP (!(ahY x1)) [54,53] (fun b=>[(56,aB (b&&(ahY x3))),(55,ifA b (art x3) hY)]) 2 hH hH hH (s1 1 [(57,aB ((!((FloatKind.format .f64).order x1.I x1.I !=some .eq))&&((FloatKind.format .f64).order x3.I x3.I !=some .eq)))] ?_)
   exact Ze hH hH h
  refine fq 1 [jz,jC,(awu x1 x3),(asP x1),(8,aB (ahY x3))] (rg (s1 6 [(63,aB ((FloatKind.format .f64).order x1.I x3.I==some .gt)),(62,aB ((FloatKind.format .f64).order x1.I x3.I==some .gt)),(61,aF x3.I),(60,.ptr 1 2),(59,aF x1.I),(58,.ptr 0 2)] ?_))
  refine seg ((FloatKind.format .f64).order x1.I x3.I==some .gt) [63,62] (fun b=>[(69,aB (b||(((FloatKind.format .f64).order x1.I x1.I !=some .eq)&&(!((FloatKind.format .f64).order x3.I x3.I !=some .eq))))),(68,ifA b hY (aB (((FloatKind.format .f64).order x1.I x1.I !=some .eq)&&(!((FloatKind.format .f64).order x3.I x3.I !=some .eq))))),(67,ifA b hY (ifA ((FloatKind.format .f64).order x1.I x1.I !=some .eq) (aB (!((FloatKind.format .f64).order x3.I x3.I !=some .eq))) hY)),(66,ifA b hY (ifA ((FloatKind.format .f64).order x1.I x1.I !=some .eq) (aB ((FloatKind.format .f64).order x3.I x3.I !=some .eq)) hY)),(65,ifA b hY (art x1)),(64,ifA b hY (art x1)),(asP x1)]) 12 hH ?_ ?_ ?_
  ·intro Q h
   refine s1 6 [(69,aB true),(68,.undef),(67,.undef),(66,.undef),(65,.undef),(64,.undef)] ?_
   exact Ze hH hH h
  ·intro Q h
   refine s1 2 [(65,aB (ahY x1)),(64,aB (ahY x1))] ?_
   refine segP (ahY x1) [65,64,7] (fun b=>[(68,aB (b&&(!(ahY x3)))),(67,ifA b (au7 x3) hY),(66,ifA b (art x3) hY)]) 3 hH hH hH (s1 1 [(69,aB (((FloatKind.format .f64).order x1.I x1.I !=some .eq)&&(!((FloatKind.format .f64).order x3.I x3.I !=some .eq))))] ?_)
   exact Ze hH hH h
  refine fq 1 [jz,jC,(awu x1 x3),(6,aB (awp x1 x3))] ?_
  exact ⟨(((FloatKind.format .f64).order x1.I x3.I==some .lt)||((!((FloatKind.format .f64).order x1.I x1.I !=some .eq))&&((FloatKind.format .f64).order x3.I x3.I !=some .eq))),(awp x1 x3),.any,hm,(zD hH),rfl⟩
 refine c0 h16 (jd ?_)
 exact ⟨(decide (x1.K<x3.K)),(decide (x1.K>x3.K)),aB (x1.A==3),hm,(zD hH),rfl⟩
end Go.Ab.S1
