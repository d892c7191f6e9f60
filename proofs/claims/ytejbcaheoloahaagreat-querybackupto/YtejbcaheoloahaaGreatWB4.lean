import Derived.Test.YtejbcaheoloahaaGreatWB3
noncomputable section
namespace Go.Ab.S1
open Go Go.Ab Go.Pl
open Go.Proofs.Tryz
set_option linter.all false
set_option maxHeartbeats 4000000
set_option maxRecDepth 100000
abbrev zc27:List AV:=[.pv .nils,.pv .nils,aB false,.pv .nils,.pv .nils,.pv .nils]
abbrev zc28 (p0:(List ByteArray)):List AV:=[aR 4 1 p0.length,.pv .nils,aB false,.pv .nils,.pv .nils,.pv .nils]
abbrev zc29 (p0:Bool):List AV:=[.pv .nils,.pv .nils,aB p0,.pv .nils,.pv .nils,.pv .nils]
abbrev zc30:List AV:=[.pv (zg rS ((zb.mk none none false none none none).E)),.pv (zg za ((zb.mk none none false none none none).H)),aB ((zb.mk none none false none none none).F),.pv (zg za ((zb.mk none none false none none none).B)),.pv (zg zd ((zb.mk none none false none none none).C)),.pv (zg zl ((zb.mk none none false none none none).G))]
abbrev zc31 (p0:Bool) (p1:jq):List AV:=[.pv .nils,.pv .nils,aB p0,aR 4 8 p1.length,.pv .nils,.pv .nils]
abbrev zc32 (p0:Bool) (p1:js):List AV:=[.pv .nils,.pv .nils,aB p0,.pv .nils,aR 4 9 p1.length,.pv .nils]
abbrev zc33 (p0:Bool) (p1:ju):List AV:=[.pv .nils,.pv .nils,aB p0,.pv .nils,.pv .nils,aR 4 2 p1.length]
abbrev zc34 (p0:Bool) (p1:js) (p2:ju):List AV:=[.pv .nils,.pv .nils,aB p0,.pv .nils,aR 4 9 p1.length,aR 5 2 p2.length]
abbrev zc35 (p0:Bool) (p1:jq) (p2:js):List AV:=[.pv .nils,.pv .nils,aB p0,aR 4 8 p1.length,aR 5 9 p2.length,.pv .nils]
abbrev zc36 (p0:Bool) (p1:jq) (p2:ju):List AV:=[.pv .nils,.pv .nils,aB p0,aR 4 8 p1.length,.pv .nils,aR 5 2 p2.length]
abbrev zc37 (p0:Bool) (p1:jq) (p2:js) (p3:ju):List AV:=[.pv .nils,.pv .nils,aB p0,aR 4 8 p1.length,aR 5 9 p2.length,aR 6 2 p3.length]
abbrev zc38 (p0:jq) (p1:Bool):List AV:=[.pv .nils,aR 4 8 p0.length,aB p1,.pv .nils,.pv .nils,.pv .nils]
abbrev zc39 (p0:jq) (p1:Bool) (p2:jq):List AV:=[.pv .nils,aR 4 8 p0.length,aB p1,aR 5 8 p2.length,.pv .nils,.pv .nils]
abbrev zc40 (p0:jq) (p1:Bool) (p2:js):List AV:=[.pv .nils,aR 4 8 p0.length,aB p1,.pv .nils,aR 5 9 p2.length,.pv .nils]
abbrev zc41 (p0:jq) (p1:Bool) (p2:ju):List AV:=[.pv .nils,aR 4 8 p0.length,aB p1,.pv .nils,.pv .nils,aR 5 2 p2.length]
abbrev zc42 (p0:jq) (p1:Bool) (p2:js) (p3:ju):List AV:=[.pv .nils,aR 4 8 p0.length,aB p1,.pv .nils,aR 5 9 p2.length,aR 6 2 p3.length]
abbrev zc43 (p0:jq) (p1:Bool) (p2:jq) (p3:js):List AV:=[.pv .nils,aR 4 8 p0.length,aB p1,aR 5 8 p2.length,aR 6 9 p3.length,.pv .nils]
abbrev zc44 (p0:jq) (p1:Bool) (p2:jq) (p3:ju):List AV:=[.pv .nils,aR 4 8 p0.length,aB p1,aR 5 8 p2.length,.pv .nils,aR 6 2 p3.length]
abbrev zc45 (p0:jq) (p1:Bool) (p2:jq) (p3:js) (p4:ju):List AV:=[.pv .nils,aR 4 8 p0.length,aB p1,aR 5 8 p2.length,aR 6 9 p3.length,aR 7 2 p4.length]
abbrev zc46 (p0:(List ByteArray)) (p1:Bool):List AV:=[aR 4 1 p0.length,.pv .nils,aB p1,.pv .nils,.pv .nils,.pv .nils]
abbrev zc47 (p0:(List ByteArray)) (p1:Bool) (p2:jq):List AV:=[aR 4 1 p0.length,.pv .nils,aB p1,aR 5 8 p2.length,.pv .nils,.pv .nils]
abbrev zc48 (p0:(List ByteArray)) (p1:Bool) (p2:js):List AV:=[aR 4 1 p0.length,.pv .nils,aB p1,.pv .nils,aR 5 9 p2.length,.pv .nils]
abbrev zc49 (p0:(List ByteArray)) (p1:Bool) (p2:ju):List AV:=[aR 4 1 p0.length,.pv .nils,aB p1,.pv .nils,.pv .nils,aR 5 2 p2.length]
abbrev zc50 (p0:(List ByteArray)) (p1:Bool) (p2:js) (p3:ju):List AV:=[aR 4 1 p0.length,.pv .nils,aB p1,.pv .nils,aR 5 9 p2.length,aR 6 2 p3.length]
abbrev zc51 (p0:(List ByteArray)) (p1:Bool) (p2:jq) (p3:js):List AV:=[aR 4 1 p0.length,.pv .nils,aB p1,aR 5 8 p2.length,aR 6 9 p3.length,.pv .nils]
abbrev zc52 (p0:(List ByteArray)) (p1:Bool) (p2:jq) (p3:ju):List AV:=[aR 4 1 p0.length,.pv .nils,aB p1,aR 5 8 p2.length,.pv .nils,aR 6 2 p3.length]
abbrev zc53 (p0:(List ByteArray)) (p1:Bool) (p2:jq) (p3:js) (p4:ju):List AV:=[aR 4 1 p0.length,.pv .nils,aB p1,aR 5 8 p2.length,aR 6 9 p3.length,aR 7 2 p4.length]
abbrev zc54 (p0:(List ByteArray)) (p1:jq) (p2:Bool):List AV:=[aR 4 1 p0.length,aR 5 8 p1.length,aB p2,.pv .nils,.pv .nils,.pv .nils]
abbrev zc55 (p0:(List ByteArray)) (p1:jq) (p2:Bool) (p3:jq):List AV:=[aR 4 1 p0.length,aR 5 8 p1.length,aB p2,aR 6 8 p3.length,.pv .nils,.pv .nils]
abbrev zc56 (p0:(List ByteArray)) (p1:jq) (p2:Bool) (p3:js):List AV:=[aR 4 1 p0.length,aR 5 8 p1.length,aB p2,.pv .nils,aR 6 9 p3.length,.pv .nils]
abbrev zc57 (p0:(List ByteArray)) (p1:jq) (p2:Bool) (p3:ju):List AV:=[aR 4 1 p0.length,aR 5 8 p1.length,aB p2,.pv .nils,.pv .nils,aR 6 2 p3.length]
abbrev zc58 (p0:(List ByteArray)) (p1:jq) (p2:Bool) (p3:js) (p4:ju):List AV:=[aR 4 1 p0.length,aR 5 8 p1.length,aB p2,.pv .nils,aR 6 9 p3.length,aR 7 2 p4.length]
abbrev zc59 (p0:(List ByteArray)) (p1:jq) (p2:Bool) (p3:jq) (p4:js):List AV:=[aR 4 1 p0.length,aR 5 8 p1.length,aB p2,aR 6 8 p3.length,aR 7 9 p4.length,.pv .nils]
abbrev zc60 (p0:(List ByteArray)) (p1:jq) (p2:Bool) (p3:jq) (p4:ju):List AV:=[aR 4 1 p0.length,aR 5 8 p1.length,aB p2,aR 6 8 p3.length,.pv .nils,aR 7 2 p4.length]
abbrev zc61 (p0:(List ByteArray)) (p1:jq) (p2:Bool) (p3:jq) (p4:js) (p5:ju):List AV:=[aR 4 1 p0.length,aR 5 8 p1.length,aB p2,aR 6 8 p3.length,aR 7 9 p4.length,aR 8 2 p5.length]
abbrev aaS:Nat×AV:=(6,kV)
abbrev ad4:Nat×AV:=(64,kT)
abbrev adR (p0:Int):Nat×AV:=(65,.tup [.pv .nils,aI p0])
abbrev aky:Nat×AV:=(53,kU)
abbrev aj0 (p0:Int):Nat×AV:=(54,.tup [.pv .nils,aI p0])
abbrev ano (p0:ju) (p1:Int):Nat×AV:=(65,.tup [aR 6 2 p0.length,aI p1])
theorem amA {n:Nat}{a0:zi}{r:Bool×(Option (List Int))×Int×(Option (List ByteArray))×jo×Bool×jo×jr×jt×Int}(hm:aeq n a0=some r):
   ∃ vv H1,call G n 15 [.ptr 0 0] [.box (zc12 a0) false]=some (.ret vv,H1)∧(match (generalizing:=false) r with|(r0,r1,r2,r3,r4,r5,r6,r7,r8,r9)=>(vv=.tup [.agg [.pv (zg rS r3),.pv (zg za r4),aB r5,.pv (zg za r6),.pv (zg zd r7),.pv (zg zl r8)],aI r9]∧H1=[.box [aB r0,.pv (zg (rI .u8) r1),aI r2] false])):=by
 unfold aeq at hm
 obtain ⟨n,rfl,h0⟩:=zu hm
 replace hm:=h0;clear h0
 refine ZJ 74 [jF] func15 rfl hJ (sq (det [jI,jE] [.box (zc12 a0) false,.box [.ptr 0 0] false,.box zc27 false] hJ (sq (det [jI,jE,jG] [.box (zc12 a0) false,.box [.ptr 0 0] false,.box zc27 false,.box zc27 false] hJ (sq (dn [jI,jE,jG] (sq (dn [jI,jE,jG,aaS] ?_))))))))
 obtain ⟨k7,hk7,hm⟩:=zt hm
 refine mid (fun t H=>(∃ (y3:Bool) (y4:(Option (List Int))) (y5:Int) (w1:AV) (w2:AV),k7 y3 y4 y5 none=some r∧t=mk 74 [jI,jE,jG,(5,w1),aaS,(16,w2)]∧H=[.box [aB y3,.pv (zg (rI .u8) y4),aI y5] false,.box [.ptr 0 0] false,.box zc27 false,.box zc27 false])∨(∃ (y3:Bool) (y4:(Option (List Int))) (y5:Int) (y6:(List ByteArray)) (w1:AV) (w2:AV),k7 y3 y4 y5 (some y6)=some r∧t=mk 74 [jI,jE,jG,(5,w1),aaS,(16,w2)]∧H=[.box [aB y3,.pv (zg (rI .u8) y4),aI y5] false,.box [.ptr 0 0] false,.box zc27 false,.box (zc28 y6) false,bR 9 1 rS y6 0 0])) ?_ ?_
 ·rintro _ _ (⟨y3,y4,y5,w1,w2,hm,rfl,rfl⟩|⟨y3,y4,y5,y6,w1,w2,hm,rfl,rfl⟩)
  ·subst hk7
   obtain ⟨k14,hk14,hm⟩:=zt hm
   refine mid (fun t H=>(∃ (y10:Bool) (y11:(Option (List Int))) (y12:Int) (w8:AV) (w9:AV),k14 y10 y11 y12 none=some r∧t=mk 74 [jI,jE,jG,(5,w8),aaS,(27,w9)]∧H=[.box (zc13 y10 y11 y12) false,.box [.ptr 0 0] false,.box zc27 false,.box zc27 false])∨(∃ (y10:Bool) (y11:(Option (List Int))) (y12:Int) (y13:jq) (w8:AV) (w9:AV),k14 y10 y11 y12 (some y13)=some r∧t=mk 74 [jI,jE,jG,(5,w8),aaS,(27,w9)]∧H=[.box (zc13 y10 y11 y12) false,.box [.ptr 0 0] false,.box zc27 false,.box [.pv .nils,aR 4 8 y13.length,aB false,.pv .nils,.pv .nils,.pv .nils] false,bR 49 8 za y13 0 0])) ?_ ?_
   ·rintro _ _ (⟨y10,y11,y12,w8,w9,hm,rfl,rfl⟩|⟨y10,y11,y12,y13,w8,w9,hm,rfl,rfl⟩)
    ·subst hk14
     refine sq (sq (rg (s1 1 [kl] ?_)))
     obtain ⟨⟨x16,x17,x18,x19⟩,h15,hm⟩:=bs hm
     obtain ⟨vv,H1,hC,rfl,rfl⟩:=abH h15
     refine dR [(32,.tup [aB x18,aI x19])] [.box (zc14 y10 y11 y12 x16 x17) false,.box [.ptr 0 0] false,.box zc27 false,.box zc27 false] [0] [.ptr 0 0] hJ hJ hJ hC hJ (stf 6 [jI,jE,jG,(5,aI x19),aaS] [.box (zc14 y10 y11 y12 x16 x17) false,.box [.ptr 0 0] false,.box zc27 false,.box (zc29 x18) false] hJ (sq (dn [jI,jE,jG,(5,aI x19),aaS,(37,aB (x19 !=0))] ?_)))
     rcases zf hm with ⟨h20,hm⟩|⟨h20,hm⟩
     ·refine c1 h20 (sq (dn [jE,(3,aI x19)] (jf ?_)))
      obtain rfl:=ji hm
      exact ⟨trivial,.tup [.agg zc30,aI x19],[.box (zc14 y10 y11 y12 x16 x17) false],zC (x:=.tup [.agg zc27,aI x19]) (x':=.tup [.agg zc27,aI x19]) [] hJ hJ hJ hJ rfl hJ,rfl,rfl⟩
     refine c0 h20 (jg ?_)
     obtain ⟨k27,hk27,hm⟩:=zt hm
     refine mid (fun t H=>(∃ (y23:Bool) (y24:(Option (List Int))) (y25:Int) (w21:AV) (w22:AV),k27 y23 y24 y25 none=some r∧t=mk 74 [jI,jE,jG,(5,w21),(48,w22)]∧H=[.box (zc13 y23 y24 y25) false,.box [.ptr 0 0] false,.box zc27 false,.box (zc29 x18) false])∨(∃ (y23:Bool) (y24:(Option (List Int))) (y25:Int) (y26:jq) (w21:AV) (w22:AV),k27 y23 y24 y25 (some y26)=some r∧t=mk 74 [jI,jE,jG,(5,w21),(48,w22)]∧H=[.box (zc13 y23 y24 y25) false,.box [.ptr 0 0] false,.box zc27 false,.box (zc31 x18 y26) false,bR 49 8 za y26 0 0])) ?_ ?_
     ·rintro _ _ (⟨y23,y24,y25,w21,w22,hm,rfl,rfl⟩|⟨y23,y24,y25,y26,w21,w22,hm,rfl,rfl⟩)
      ·subst hk27
       obtain ⟨k33,hk33,hm⟩:=zt hm
       refine mid (fun t H=>(∃ (y28:Bool) (y29:(Option (List Int))) (y30:Int) (y32:Int),k33 y28 y29 y30 none y32=some r∧t=mk 74 [jI,jE,jG,(5,aI y32)]∧H=[.box (zc13 y28 y29 y30) false,.box [.ptr 0 0] false,.box zc27 false,.box (zc29 x18) false])∨(∃ (y28:Bool) (y29:(Option (List Int))) (y30:Int) (y31:js) (y32:Int),k33 y28 y29 y30 (some y31) y32=some r∧t=mk 74 [jI,jE,jG,(5,aI y32)]∧H=[.box (zc13 y28 y29 y30) false,.box [.ptr 0 0] false,.box zc27 false,.box (zc32 x18 y31) false,bR 101 9 zd y31 0 0])) ?_ ?_
       ·rintro _ _ (⟨y28,y29,y30,y32,hm,rfl,rfl⟩|⟨y28,y29,y30,y31,y32,hm,rfl,rfl⟩)
        ·subst hk33
         refine sq (sq (dn [jI,jE,jG,(5,aI y32),(59,aB (y32 !=0))] ?_))
         rcases zf hm with ⟨h34,hm⟩|⟨h34,hm⟩
         ·refine c1 h34 (sq (dn [jE,(3,aI y32)] (jf ?_)))
          obtain rfl:=ji hm
          exact ⟨trivial,.tup [.agg zc30,aI y32],[.box (zc13 y28 y29 y30) false],zC (x:=.tup [.agg zc27,aI y32]) (x':=.tup [.agg zc27,aI y32]) [] hJ hJ hJ hJ rfl hJ,rfl,rfl⟩
         refine c0 h34 (jg ?_)
         obtain ⟨k40,hk40,hm⟩:=zt hm
         refine mid (fun t H=>(∃ (y35:Bool) (y36:(Option (List Int))) (y37:Int) (y39:Int),k40 y35 y36 y37 none y39=some r∧t=mk 74 [jE,jG,(5,aI y39)]∧H=[.box (zc13 y35 y36 y37) false,.box [.ptr 0 0] false,.box zc27 false,.box (zc29 x18) false])∨(∃ (y35:Bool) (y36:(Option (List Int))) (y37:Int) (y38:ju) (y39:Int),k40 y35 y36 y37 (some y38) y39=some r∧t=mk 74 [jE,jG,(5,aI y39)]∧H=[.box (zc13 y35 y36 y37) false,.box [.ptr 0 0] false,.box zc27 false,.box (zc33 x18 y38) false,bR 86 2 zl y38 0 0])) ?_ ?_
         ·rintro _ _ (⟨y35,y36,y37,y39,hm,rfl,rfl⟩|⟨y35,y36,y37,y38,y39,hm,rfl,rfl⟩)
          ·subst hk40
           refine sq (sq (dn [jE,jG,(5,aI y39),(70,aB (y39 !=0))] ?_))
           rcases zf hm with ⟨h41,hm⟩|⟨h41,hm⟩
           ·refine c1 h41 (sq (dn [jE,(3,aI y39)] (jf ?_)))
            obtain rfl:=ji hm
            exact ⟨trivial,.tup [.agg zc30,aI y39],[.box (zc13 y35 y36 y37) false],zC (x:=.tup [.agg zc27,aI y39]) (x':=.tup [.agg zc27,aI y39]) [] hJ hJ hJ hJ rfl hJ,rfl,rfl⟩
           refine c0 h41 (jg (sq (det [jE,kE] [.box (zc13 y35 y36 y37) false,.box [.ptr 0 0] false,.box (zc29 x18) false,.box (zc29 x18) false] hJ (jf ?_))))
           obtain rfl:=ji hm
           exact ⟨trivial,.tup [.agg [.pv (zg rS ((zb.mk none none x18 none none none).E)),.pv (zg za ((zb.mk none none x18 none none none).H)),aB ((zb.mk none none x18 none none none).F),.pv (zg za ((zb.mk none none x18 none none none).B)),.pv (zg zd ((zb.mk none none x18 none none none).C)),.pv (zg zl ((zb.mk none none x18 none none none).G))],aI 0],[.box (zc13 y35 y36 y37) false],zC (x:=.tup [.agg (zc29 x18),aI 0]) (x':=.tup [.agg (zc29 x18),aI 0]) [] hJ hJ hJ hJ rfl hJ,rfl,rfl⟩
          subst hk40
          refine sq (sq (dn [jE,jG,(5,aI y39),(70,aB (y39 !=0))] ?_))
          rcases zf hm with ⟨h42,hm⟩|⟨h42,hm⟩
          ·refine c1 h42 (sq (dn [jE,(3,aI y39)] (jf ?_)))
           obtain rfl:=ji hm
           exact ⟨trivial,.tup [.agg zc30,aI y39],[.box (zc13 y35 y36 y37) false],zC (x:=.tup [.agg zc27,aI y39]) (x':=.tup [.agg zc27,aI y39]) [] hJ hJ hJ hJ rfl hJ,rfl,rfl⟩
          refine c0 h42 (jg (sq (det [jE,kE] [.box (zc13 y35 y36 y37) false,.box [.ptr 0 0] false,.box (zc33 x18 y38) false,.box (zc33 x18 y38) false,bR 86 2 zl y38 0 0] hJ (jf ?_))))
          obtain rfl:=ji hm
          exact ⟨trivial,.tup [.agg [.pv (zg rS ((zb.mk none none x18 none none (some y38)).E)),.pv (zg za ((zb.mk none none x18 none none (some y38)).H)),aB ((zb.mk none none x18 none none (some y38)).F),.pv (zg za ((zb.mk none none x18 none none (some y38)).B)),.pv (zg zd ((zb.mk none none x18 none none (some y38)).C)),.pv (zg zl ((zb.mk none none x18 none none (some y38)).G))],aI 0],[.box (zc13 y35 y36 y37) false],zC (x:=.tup [.agg (zc33 x18 y38),aI 0]) [4] hJ hJ hJ (qC (zK (qN (zj (zw) (zj (zw) (zj (zw) (zj (zw) (zj (zw) (zj (zB (n:=y38.length) (id:=4) (l:=y38) (R:=zl) rfl rfl (Nat.zero_le _)) (rfl)))))))) (zK (QI) (rfl)))) rfl hJ,rfl,rfl⟩
         refine rg (s1 2 [ad4,jS] ?_)
         obtain ⟨x49,h43,hm⟩:=bs hm
         rcases x49 with ⟨x44,x45,x46,_|x47,x48⟩
         ·obtain ⟨vv,H1,hC,rfl,rfl⟩:=zq h43
          refine dR [(adR x48)] [.box (zc13 x44 x45 x46) false,.box [.ptr 0 0] false,.box zc27 false,.box (zc29 x18) false] [0,1] [.ptr 0 0,aU 10,kT] hJ hJ hJ hC hJ (fq 6 [jE,jG,(5,aI x48)] ?_)
          exact .inl ⟨x44,x45,x46,x48,hm,rfl,rfl⟩
         obtain ⟨vv,H1,hC,rfl,rfl⟩:=zq h43
         refine dR [(65,.tup [aR 4 2 x47.length,aI x48])] [.box (zc13 x44 x45 x46) false,.box [.ptr 0 0] false,.box zc27 false,.box (zc29 x18) false,bR 86 2 zl x47 0 0] [0,1] [.ptr 0 0,aU 10,kT] hJ hJ hJ hC hJ (stf 6 [jE,jG,(5,aI x48)] [.box (zc13 x44 x45 x46) false,.box [.ptr 0 0] false,.box zc27 false,.box (zc33 x18 x47) false,bR 86 2 zl x47 0 0] hJ ?_)
         exact .inr (⟨x44,x45,x46,x47,x48,hm,rfl,rfl⟩)
        subst hk33
        refine sq (sq (dn [jI,jE,jG,(5,aI y32),(59,aB (y32 !=0))] ?_))
        rcases zf hm with ⟨h50,hm⟩|⟨h50,hm⟩
        ·refine c1 h50 (sq (dn [jE,(3,aI y32)] (jf ?_)))
         obtain rfl:=ji hm
         exact ⟨trivial,.tup [.agg zc30,aI y32],[.box (zc13 y28 y29 y30) false],zC (x:=.tup [.agg zc27,aI y32]) (x':=.tup [.agg zc27,aI y32]) [] hJ hJ hJ hJ rfl hJ,rfl,rfl⟩
        refine c0 h50 (jg ?_)
        obtain ⟨k56,hk56,hm⟩:=zt hm
        refine mid (fun t H=>(∃ (y51:Bool) (y52:(Option (List Int))) (y53:Int) (y55:Int),k56 y51 y52 y53 none y55=some r∧t=mk 74 [jE,jG,(5,aI y55)]∧H=[.box (zc13 y51 y52 y53) false,.box [.ptr 0 0] false,.box zc27 false,.box (zc32 x18 y31) false,bR 101 9 zd y31 0 0])∨(∃ (y51:Bool) (y52:(Option (List Int))) (y53:Int) (y54:ju) (y55:Int),k56 y51 y52 y53 (some y54) y55=some r∧t=mk 74 [jE,jG,(5,aI y55)]∧H=[.box (zc13 y51 y52 y53) false,.box [.ptr 0 0] false,.box zc27 false,.box (zc34 x18 y31 y54) false,bR 101 9 zd y31 0 0,bR 86 2 zl y54 0 0])) ?_ ?_
        ·rintro _ _ (⟨y51,y52,y53,y55,hm,rfl,rfl⟩|⟨y51,y52,y53,y54,y55,hm,rfl,rfl⟩)
         ·subst hk56
          refine sq (sq (dn [jE,jG,(5,aI y55),(70,aB (y55 !=0))] ?_))
          rcases zf hm with ⟨h57,hm⟩|⟨h57,hm⟩
          ·refine c1 h57 (sq (dn [jE,(3,aI y55)] (jf ?_)))
           obtain rfl:=ji hm
           exact ⟨trivial,.tup [.agg zc30,aI y55],[.box (zc13 y51 y52 y53) false],zC (x:=.tup [.agg zc27,aI y55]) (x':=.tup [.agg zc27,aI y55]) [] hJ hJ hJ hJ rfl hJ,rfl,rfl⟩
          refine c0 h57 (jg (sq (det [jE,kE] [.box (zc13 y51 y52 y53) false,.box [.ptr 0 0] false,.box (zc32 x18 y31) false,.box (zc32 x18 y31) false,bR 101 9 zd y31 0 0] hJ (jf ?_))))
          obtain rfl:=ji hm
          exact ⟨trivial,.tup [.agg [.pv (zg rS ((zb.mk none none x18 none (some y31) none).E)),.pv (zg za ((zb.mk none none x18 none (some y31) none).H)),aB ((zb.mk none none x18 none (some y31) none).F),.pv (zg za ((zb.mk none none x18 none (some y31) none).B)),.pv (zg zd ((zb.mk none none x18 none (some y31) none).C)),.pv (zg zl ((zb.mk none none x18 none (some y31) none).G))],aI 0],[.box (zc13 y51 y52 y53) false],zC (x:=.tup [.agg (zc32 x18 y31),aI 0]) [4] hJ hJ hJ (qC (zK (qN (zj (zw) (zj (zw) (zj (zw) (zj (zw) (zj (zB (n:=y31.length) (id:=4) (l:=y31) (R:=zd) rfl rfl (Nat.zero_le _)) (zj (zw) (rfl)))))))) (zK (QI) (rfl)))) rfl hJ,rfl,rfl⟩
         subst hk56
         refine sq (sq (dn [jE,jG,(5,aI y55),(70,aB (y55 !=0))] ?_))
         rcases zf hm with ⟨h58,hm⟩|⟨h58,hm⟩
         ·refine c1 h58 (sq (dn [jE,(3,aI y55)] (jf ?_)))
          obtain rfl:=ji hm
          exact ⟨trivial,.tup [.agg zc30,aI y55],[.box (zc13 y51 y52 y53) false],zC (x:=.tup [.agg zc27,aI y55]) (x':=.tup [.agg zc27,aI y55]) [] hJ hJ hJ hJ rfl hJ,rfl,rfl⟩
         refine c0 h58 (jg (sq (det [jE,kE] [.box (zc13 y51 y52 y53) false,.box [.ptr 0 0] false,.box (zc34 x18 y31 y54) false,.box (zc34 x18 y31 y54) false,bR 101 9 zd y31 0 0,bR 86 2 zl y54 0 0] hJ (jf ?_))))
         obtain rfl:=ji hm
         exact ⟨trivial,.tup [.agg [.pv (zg rS ((zb.mk none none x18 none (some y31) (some y54)).E)),.pv (zg za ((zb.mk none none x18 none (some y31) (some y54)).H)),aB ((zb.mk none none x18 none (some y31) (some y54)).F),.pv (zg za ((zb.mk none none x18 none (some y31) (some y54)).B)),.pv (zg zd ((zb.mk none none x18 none (some y31) (some y54)).C)),.pv (zg zl ((zb.mk none none x18 none (some y31) (some y54)).G))],aI 0],[.box (zc13 y51 y52 y53) false],zC (x:=.tup [.agg (zc34 x18 y31 y54),aI 0]) [4,5] hJ hJ hJ (qC (zK (qN (zj (zw) (zj (zw) (zj (zw) (zj (zw) (zj (zB (n:=y31.length) (id:=4) (l:=y31) (R:=zd) rfl rfl (Nat.zero_le _)) (zj (zB (n:=y54.length) (id:=5) (l:=y54) (R:=zl) rfl rfl (Nat.zero_le _)) (rfl)))))))) (zK (QI) (rfl)))) rfl hJ,rfl,rfl⟩
        refine rg (s1 2 [ad4,jS] ?_)
        obtain ⟨x65,h59,hm⟩:=bs hm
        rcases x65 with ⟨x60,x61,x62,_|x63,x64⟩
        ·obtain ⟨vv,H1,hC,rfl,rfl⟩:=zq h59
         refine dR [(adR x64)] [.box (zc13 x60 x61 x62) false,.box [.ptr 0 0] false,.box zc27 false,.box (zc32 x18 y31) false,bR 101 9 zd y31 0 0] [0,1] [.ptr 0 0,aU 10,kT] hJ hJ hJ hC hJ (fq 6 [jE,jG,(5,aI x64)] ?_)
         exact .inl ⟨x60,x61,x62,x64,hm,rfl,rfl⟩
        obtain ⟨vv,H1,hC,rfl,rfl⟩:=zq h59
        refine dR [(65,.tup [aR 5 2 x63.length,aI x64])] [.box (zc13 x60 x61 x62) false,.box [.ptr 0 0] false,.box zc27 false,.box (zc32 x18 y31) false,bR 101 9 zd y31 0 0,bR 86 2 zl x63 0 0] [0,1] [.ptr 0 0,aU 10,kT] hJ hJ hJ hC hJ (stf 6 [jE,jG,(5,aI x64)] [.box (zc13 x60 x61 x62) false,.box [.ptr 0 0] false,.box zc27 false,.box (zc34 x18 y31 x63) false,bR 101 9 zd y31 0 0,bR 86 2 zl x63 0 0] hJ ?_)
        exact .inr (⟨x60,x61,x62,x63,x64,hm,rfl,rfl⟩)
       refine rg (s1 2 [aky,j4] ?_)
       obtain ⟨x72,h66,hm⟩:=bs hm
       rcases x72 with ⟨x67,x68,x69,_|x70,x71⟩
       ·obtain ⟨vv,H1,hC,rfl,rfl⟩:=zG h66
        refine dR [(aj0 x71)] [.box (zc13 x67 x68 x69) false,.box [.ptr 0 0] false,.box zc27 false,.box (zc29 x18) false] [0,1] [.ptr 0 0,aU 10,kU] hJ hJ hJ hC hJ (fq 6 [jI,jE,jG,(5,aI x71)] ?_)
        exact .inl ⟨x67,x68,x69,x71,hm,rfl,rfl⟩
       obtain ⟨vv,H1,hC,rfl,rfl⟩:=zG h66
       refine dR [(54,.tup [aR 4 9 x70.length,aI x71])] [.box (zc13 x67 x68 x69) false,.box [.ptr 0 0] false,.box zc27 false,.box (zc29 x18) false,bR 101 9 zd x70 0 0] [0,1] [.ptr 0 0,aU 10,kU] hJ hJ hJ hC hJ (stf 6 [jI,jE,jG,(5,aI x71)] [.box (zc13 x67 x68 x69) false,.box [.ptr 0 0] false,.box zc27 false,.box (zc32 x18 x70) false,bR 101 9 zd x70 0 0] hJ ?_)
       exact .inr (⟨x67,x68,x69,x70,x71,hm,rfl,rfl⟩)
      subst hk27
      obtain ⟨k78,hk78,hm⟩:=zt hm
      refine mid (fun t H=>(∃ (y73:Bool) (y74:(Option (List Int))) (y75:Int) (y77:Int),k78 y73 y74 y75 none y77=some r∧t=mk 74 [jI,jE,jG,(5,aI y77)]∧H=[.box (zc13 y73 y74 y75) false,.box [.ptr 0 0] false,.box zc27 false,.box (zc31 x18 y26) false,bR 49 8 za y26 0 0])∨(∃ (y73:Bool) (y74:(Option (List Int))) (y75:Int) (y76:js) (y77:Int),k78 y73 y74 y75 (some y76) y77=some r∧t=mk 74 [jI,jE,jG,(5,aI y77)]∧H=[.box (zc13 y73 y74 y75) false,.box [.ptr 0 0] false,.box zc27 false,.box (zc35 x18 y26 y76) false,bR 49 8 za y26 0 0,bR 101 9 zd y76 0 0])) ?_ ?_
      ·rintro _ _ (⟨y73,y74,y75,y77,hm,rfl,rfl⟩|⟨y73,y74,y75,y76,y77,hm,rfl,rfl⟩)
       ·subst hk78
        refine sq (sq (dn [jI,jE,jG,(5,aI y77),(59,aB (y77 !=0))] ?_))
        rcases zf hm with ⟨h79,hm⟩|⟨h79,hm⟩
        ·refine c1 h79 (sq (dn [jE,(3,aI y77)] (jf ?_)))
         obtain rfl:=ji hm
         exact ⟨trivial,.tup [.agg zc30,aI y77],[.box (zc13 y73 y74 y75) false],zC (x:=.tup [.agg zc27,aI y77]) (x':=.tup [.agg zc27,aI y77]) [] hJ hJ hJ hJ rfl hJ,rfl,rfl⟩
        refine c0 h79 (jg ?_)
        obtain ⟨k85,hk85,hm⟩:=zt hm
        refine mid (fun t H=>(∃ (y80:Bool) (y81:(Option (List Int))) (y82:Int) (y84:Int),k85 y80 y81 y82 none y84=some r∧t=mk 74 [jE,jG,(5,aI y84)]∧H=[.box (zc13 y80 y81 y82) false,.box [.ptr 0 0] false,.box zc27 false,.box (zc31 x18 y26) false,bR 49 8 za y26 0 0])∨(∃ (y80:Bool) (y81:(Option (List Int))) (y82:Int) (y83:ju) (y84:Int),k85 y80 y81 y82 (some y83) y84=some r∧t=mk 74 [jE,jG,(5,aI y84)]∧H=[.box (zc13 y80 y81 y82) false,.box [.ptr 0 0] false,.box zc27 false,.box (zc36 x18 y26 y83) false,bR 49 8 za y26 0 0,bR 86 2 zl y83 0 0])) ?_ ?_
        ·rintro _ _ (⟨y80,y81,y82,y84,hm,rfl,rfl⟩|⟨y80,y81,y82,y83,y84,hm,rfl,rfl⟩)
         ·subst hk85
          refine sq (sq (dn [jE,jG,(5,aI y84),(70,aB (y84 !=0))] ?_))
          rcases zf hm with ⟨h86,hm⟩|⟨h86,hm⟩
          ·refine c1 h86 (sq (dn [jE,(3,aI y84)] (jf ?_)))
           obtain rfl:=ji hm
           exact ⟨trivial,.tup [.agg zc30,aI y84],[.box (zc13 y80 y81 y82) false],zC (x:=.tup [.agg zc27,aI y84]) (x':=.tup [.agg zc27,aI y84]) [] hJ hJ hJ hJ rfl hJ,rfl,rfl⟩
          refine c0 h86 (jg (sq (det [jE,kE] [.box (zc13 y80 y81 y82) false,.box [.ptr 0 0] false,.box (zc31 x18 y26) false,.box (zc31 x18 y26) false,bR 49 8 za y26 0 0] hJ (jf ?_))))
          obtain rfl:=ji hm
          exact ⟨trivial,.tup [.agg [.pv (zg rS ((zb.mk none none x18 (some y26) none none).E)),.pv (zg za ((zb.mk none none x18 (some y26) none none).H)),aB ((zb.mk none none x18 (some y26) none none).F),.pv (zg za ((zb.mk none none x18 (some y26) none none).B)),.pv (zg zd ((zb.mk none none x18 (some y26) none none).C)),.pv (zg zl ((zb.mk none none x18 (some y26) none none).G))],aI 0],[.box (zc13 y80 y81 y82) false],zC (x:=.tup [.agg (zc31 x18 y26),aI 0]) [4] hJ hJ hJ (qC (zK (qN (zj (zw) (zj (zw) (zj (zw) (zj (zB (n:=y26.length) (id:=4) (l:=y26) (R:=za) rfl rfl (Nat.zero_le _)) (zj (zw) (zj (zw) (rfl)))))))) (zK (QI) (rfl)))) rfl hJ,rfl,rfl⟩
         subst hk85
         refine sq (sq (dn [jE,jG,(5,aI y84),(70,aB (y84 !=0))] ?_))
         rcases zf hm with ⟨h87,hm⟩|⟨h87,hm⟩
         ·refine c1 h87 (sq (dn [jE,(3,aI y84)] (jf ?_)))
          obtain rfl:=ji hm
          exact ⟨trivial,.tup [.agg zc30,aI y84],[.box (zc13 y80 y81 y82) false],zC (x:=.tup [.agg zc27,aI y84]) (x':=.tup [.agg zc27,aI y84]) [] hJ hJ hJ hJ rfl hJ,rfl,rfl⟩
         refine c0 h87 (jg (sq (det [jE,kE] [.box (zc13 y80 y81 y82) false,.box [.ptr 0 0] false,.box (zc36 x18 y26 y83) false,.box (zc36 x18 y26 y83) false,bR 49 8 za y26 0 0,bR 86 2 zl y83 0 0] hJ (jf ?_))))
         obtain rfl:=ji hm
         exact ⟨trivial,.tup [.agg [.pv (zg rS ((zb.mk none none x18 (some y26) none (some y83)).E)),.pv (zg za ((zb.mk none none x18 (some y26) none (some y83)).H)),aB ((zb.mk none none x18 (some y26) none (some y83)).F),.pv (zg za ((zb.mk none none x18 (some y26) none (some y83)).B)),.pv (zg zd ((zb.mk none none x18 (some y26) none (some y83)).C)),.pv (zg zl ((zb.mk none none x18 (some y26) none (some y83)).G))],aI 0],[.box (zc13 y80 y81 y82) false],zC (x:=.tup [.agg (zc36 x18 y26 y83),aI 0]) [4,5] hJ hJ hJ (qC (zK (qN (zj (zw) (zj (zw) (zj (zw) (zj (zB (n:=y26.length) (id:=4) (l:=y26) (R:=za) rfl rfl (Nat.zero_le _)) (zj (zw) (zj (zB (n:=y83.length) (id:=5) (l:=y83) (R:=zl) rfl rfl (Nat.zero_le _)) (rfl)))))))) (zK (QI) (rfl)))) rfl hJ,rfl,rfl⟩
        refine rg (s1 2 [ad4,jS] ?_)
        obtain ⟨x94,h88,hm⟩:=bs hm
        rcases x94 with ⟨x89,x90,x91,_|x92,x93⟩
        ·obtain ⟨vv,H1,hC,rfl,rfl⟩:=zq h88
         refine dR [(adR x93)] [.box (zc13 x89 x90 x91) false,.box [.ptr 0 0] false,.box zc27 false,.box (zc31 x18 y26) false,bR 49 8 za y26 0 0] [0,1] [.ptr 0 0,aU 10,kT] hJ hJ hJ hC hJ (fq 6 [jE,jG,(5,aI x93)] ?_)
         exact .inl ⟨x89,x90,x91,x93,hm,rfl,rfl⟩
        obtain ⟨vv,H1,hC,rfl,rfl⟩:=zq h88
        refine dR [(65,.tup [aR 5 2 x92.length,aI x93])] [.box (zc13 x89 x90 x91) false,.box [.ptr 0 0] false,.box zc27 false,.box (zc31 x18 y26) false,bR 49 8 za y26 0 0,bR 86 2 zl x92 0 0] [0,1] [.ptr 0 0,aU 10,kT] hJ hJ hJ hC hJ (stf 6 [jE,jG,(5,aI x93)] [.box (zc13 x89 x90 x91) false,.box [.ptr 0 0] false,.box zc27 false,.box (zc36 x18 y26 x92) false,bR 49 8 za y26 0 0,bR 86 2 zl x92 0 0] hJ ?_)
        exact .inr (⟨x89,x90,x91,x92,x93,hm,rfl,rfl⟩)
       subst hk78
       refine sq (sq (dn [jI,jE,jG,(5,aI y77),(59,aB (y77 !=0))] ?_))
       rcases zf hm with ⟨h95,hm⟩|⟨h95,hm⟩
       ·refine c1 h95 (sq (dn [jE,(3,aI y77)] (jf ?_)))
        obtain rfl:=ji hm
        exact ⟨trivial,.tup [.agg zc30,aI y77],[.box (zc13 y73 y74 y75) false],zC (x:=.tup [.agg zc27,aI y77]) (x':=.tup [.agg zc27,aI y77]) [] hJ hJ hJ hJ rfl hJ,rfl,rfl⟩
       refine c0 h95 (jg ?_)
       obtain ⟨k101,hk101,hm⟩:=zt hm
       refine mid (fun t H=>(∃ (y96:Bool) (y97:(Option (List Int))) (y98:Int) (y100:Int),k101 y96 y97 y98 none y100=some r∧t=mk 74 [jE,jG,(5,aI y100)]∧H=[.box (zc13 y96 y97 y98) false,.box [.ptr 0 0] false,.box zc27 false,.box (zc35 x18 y26 y76) false,bR 49 8 za y26 0 0,bR 101 9 zd y76 0 0])∨(∃ (y96:Bool) (y97:(Option (List Int))) (y98:Int) (y99:ju) (y100:Int),k101 y96 y97 y98 (some y99) y100=some r∧t=mk 74 [jE,jG,(5,aI y100)]∧H=[.box (zc13 y96 y97 y98) false,.box [.ptr 0 0] false,.box zc27 false,.box (zc37 x18 y26 y76 y99) false,bR 49 8 za y26 0 0,bR 101 9 zd y76 0 0,bR 86 2 zl y99 0 0])) ?_ ?_
       ·rintro _ _ (⟨y96,y97,y98,y100,hm,rfl,rfl⟩|⟨y96,y97,y98,y99,y100,hm,rfl,rfl⟩)
        ·subst hk101
         refine sq (sq (dn [jE,jG,(5,aI y100),(70,aB (y100 !=0))] ?_))
         rcases zf hm with ⟨h102,hm⟩|⟨h102,hm⟩
         ·refine c1 h102 (sq (dn [jE,(3,aI y100)] (jf ?_)))
          obtain rfl:=ji hm
          exact ⟨trivial,.tup [.agg zc30,aI y100],[.box (zc13 y96 y97 y98) false],zC (x:=.tup [.agg zc27,aI y100]) (x':=.tup [.agg zc27,aI y100]) [] hJ hJ hJ hJ rfl hJ,rfl,rfl⟩
         refine c0 h102 (jg (sq (det [jE,kE] [.box (zc13 y96 y97 y98) false,.box [.ptr 0 0] false,.box (zc35 x18 y26 y76) false,.box (zc35 x18 y26 y76) false,bR 49 8 za y26 0 0,bR 101 9 zd y76 0 0] hJ (jf ?_))))
         obtain rfl:=ji hm
         exact ⟨trivial,.tup [.agg [.pv (zg rS ((zb.mk none none x18 (some y26) (some y76) none).E)),.pv (zg za ((zb.mk none none x18 (some y26) (some y76) none).H)),aB ((zb.mk none none x18 (some y26) (some y76) none).F),.pv (zg za ((zb.mk none none x18 (some y26) (some y76) none).B)),.pv (zg zd ((zb.mk none none x18 (some y26) (some y76) none).C)),.pv (zg zl ((zb.mk none none x18 (some y26) (some y76) none).G))],aI 0],[.box (zc13 y96 y97 y98) false],zC (x:=.tup [.agg (zc35 x18 y26 y76),aI 0]) [4,5] hJ hJ hJ (qC (zK (qN (zj (zw) (zj (zw) (zj (zw) (zj (zB (n:=y26.length) (id:=4) (l:=y26) (R:=za) rfl rfl (Nat.zero_le _)) (zj (zB (n:=y76.length) (id:=5) (l:=y76) (R:=zd) rfl rfl (Nat.zero_le _)) (zj (zw) (rfl)))))))) (zK (QI) (rfl)))) rfl hJ,rfl,rfl⟩
        subst hk101
        refine sq (sq (dn [jE,jG,(5,aI y100),(70,aB (y100 !=0))] ?_))
        rcases zf hm with ⟨h103,hm⟩|⟨h103,hm⟩
        ·refine c1 h103 (sq (dn [jE,(3,aI y100)] (jf ?_)))
         obtain rfl:=ji hm
         exact ⟨trivial,.tup [.agg zc30,aI y100],[.box (zc13 y96 y97 y98) false],zC (x:=.tup [.agg zc27,aI y100]) (x':=.tup [.agg zc27,aI y100]) [] hJ hJ hJ hJ rfl hJ,rfl,rfl⟩
        refine c0 h103 (jg (sq (det [jE,kE] [.box (zc13 y96 y97 y98) false,.box [.ptr 0 0] false,.box (zc37 x18 y26 y76 y99) false,.box (zc37 x18 y26 y76 y99) false,bR 49 8 za y26 0 0,bR 101 9 zd y76 0 0,bR 86 2 zl y99 0 0] hJ (jf ?_))))
        obtain rfl:=ji hm
        exact ⟨trivial,.tup [.agg [.pv (zg rS ((zb.mk none none x18 (some y26) (some y76) (some y99)).E)),.pv (zg za ((zb.mk none none x18 (some y26) (some y76) (some y99)).H)),aB ((zb.mk none none x18 (some y26) (some y76) (some y99)).F),.pv (zg za ((zb.mk none none x18 (some y26) (some y76) (some y99)).B)),.pv (zg zd ((zb.mk none none x18 (some y26) (some y76) (some y99)).C)),.pv (zg zl ((zb.mk none none x18 (some y26) (some y76) (some y99)).G))],aI 0],[.box (zc13 y96 y97 y98) false],zC (x:=.tup [.agg (zc37 x18 y26 y76 y99),aI 0]) [4,5,6] hJ hJ hJ (qC (zK (qN (zj (zw) (zj (zw) (zj (zw) (zj (zB (n:=y26.length) (id:=4) (l:=y26) (R:=za) rfl rfl (Nat.zero_le _)) (zj (zB (n:=y76.length) (id:=5) (l:=y76) (R:=zd) rfl rfl (Nat.zero_le _)) (zj (zB (n:=y99.length) (id:=6) (l:=y99) (R:=zl) rfl rfl (Nat.zero_le _)) (rfl)))))))) (zK (QI) (rfl)))) rfl hJ,rfl,rfl⟩
       refine rg (s1 2 [ad4,jS] ?_)
       obtain ⟨x110,h104,hm⟩:=bs hm
       rcases x110 with ⟨x105,x106,x107,_|x108,x109⟩
       ·obtain ⟨vv,H1,hC,rfl,rfl⟩:=zq h104
        refine dR [(adR x109)] [.box (zc13 x105 x106 x107) false,.box [.ptr 0 0] false,.box zc27 false,.box (zc35 x18 y26 y76) false,bR 49 8 za y26 0 0,bR 101 9 zd y76 0 0] [0,1] [.ptr 0 0,aU 10,kT] hJ hJ hJ hC hJ (fq 6 [jE,jG,(5,aI x109)] ?_)
        exact .inl ⟨x105,x106,x107,x109,hm,rfl,rfl⟩
       obtain ⟨vv,H1,hC,rfl,rfl⟩:=zq h104
       refine dR [(ano x108 x109)] [.box (zc13 x105 x106 x107) false,.box [.ptr 0 0] false,.box zc27 false,.box (zc35 x18 y26 y76) false,bR 49 8 za y26 0 0,bR 101 9 zd y76 0 0,bR 86 2 zl x108 0 0] [0,1] [.ptr 0 0,aU 10,kT] hJ hJ hJ hC hJ (stf 6 [jE,jG,(5,aI x109)] [.box (zc13 x105 x106 x107) false,.box [.ptr 0 0] false,.box zc27 false,.box (zc37 x18 y26 y76 x108) false,bR 49 8 za y26 0 0,bR 101 9 zd y76 0 0,bR 86 2 zl x108 0 0] hJ ?_)
       exact .inr (⟨x105,x106,x107,x108,x109,hm,rfl,rfl⟩)
      refine rg (s1 2 [aky,j4] ?_)
      obtain ⟨x117,h111,hm⟩:=bs hm
      rcases x117 with ⟨x112,x113,x114,_|x115,x116⟩
      ·obtain ⟨vv,H1,hC,rfl,rfl⟩:=zG h111
       refine dR [(aj0 x116)] [.box (zc13 x112 x113 x114) false,.box [.ptr 0 0] false,.box zc27 false,.box (zc31 x18 y26) false,bR 49 8 za y26 0 0] [0,1] [.ptr 0 0,aU 10,kU] hJ hJ hJ hC hJ (fq 6 [jI,jE,jG,(5,aI x116)] ?_)
       exact .inl ⟨x112,x113,x114,x116,hm,rfl,rfl⟩
      obtain ⟨vv,H1,hC,rfl,rfl⟩:=zG h111
      refine dR [(54,.tup [aR 5 9 x115.length,aI x116])] [.box (zc13 x112 x113 x114) false,.box [.ptr 0 0] false,.box zc27 false,.box (zc31 x18 y26) false,bR 49 8 za y26 0 0,bR 101 9 zd x115 0 0] [0,1] [.ptr 0 0,aU 10,kU] hJ hJ hJ hC hJ (stf 6 [jI,jE,jG,(5,aI x116)] [.box (zc13 x112 x113 x114) false,.box [.ptr 0 0] false,.box zc27 false,.box (zc35 x18 y26 x115) false,bR 49 8 za y26 0 0,bR 101 9 zd x115 0 0] hJ ?_)
      exact .inr (⟨x112,x113,x114,x115,x116,hm,rfl,rfl⟩)
     refine sq (rg (s1 2 [(42,kV),kb] ?_))
     obtain ⟨x124,h118,hm⟩:=bs hm
     rcases x124 with ⟨x119,x120,x121,_|x122,x123⟩
     ·obtain ⟨vv,H1,hC,rfl,rfl⟩:=zN h118
      refine dR [(43,.tup [.pv .nils,aI x123])] [.box (zc13 x119 x120 x121) false,.box [.ptr 0 0] false,.box zc27 false,.box (zc29 x18) false] [0,1] [.ptr 0 0,aU 20,kV] hJ hJ hJ hC hJ (fq 6 [jI,jE,jG,(5,aI x123)] (sq (dn [jI,jE,jG,(5,aI x123),(48,aB (x123 !=0))] ?_)))
      rcases zf hm with ⟨h125,hm⟩|⟨h125,hm⟩
      ·refine c1 h125 (sq (dn [jE,(3,aI x123)] (jf ?_)))
       obtain rfl:=ji hm
       exact ⟨trivial,.tup [.agg zc30,aI x123],[.box (zc13 x119 x120 x121) false],zC (x:=.tup [.agg zc27,aI x123]) (x':=.tup [.agg zc27,aI x123]) [] hJ hJ hJ hJ rfl hJ,rfl,rfl⟩
      refine c0 h125 (jg ?_)
      exact .inl ⟨x119,x120,x121,aI x123,aB (x123 !=0),hm,(zH hJ),rfl⟩
     obtain ⟨vv,H1,hC,rfl,rfl⟩:=zN h118
     refine dR [(43,.tup [aR 4 8 x122.length,aI x123])] [.box (zc13 x119 x120 x121) false,.box [.ptr 0 0] false,.box zc27 false,.box (zc29 x18) false,bR 49 8 za x122 0 0] [0,1] [.ptr 0 0,aU 20,kV] hJ hJ hJ hC hJ (stf 6 [jI,jE,jG,(5,aI x123)] [.box (zc13 x119 x120 x121) false,.box [.ptr 0 0] false,.box zc27 false,.box (zc31 x18 x122) false,bR 49 8 za x122 0 0] hJ (sq (dn [jI,jE,jG,(5,aI x123),(48,aB (x123 !=0))] ?_)))
     rcases zf hm with ⟨h126,hm⟩|⟨h126,hm⟩
     ·refine c1 h126 (sq (dn [jE,(3,aI x123)] (jf ?_)))
      obtain rfl:=ji hm
      exact ⟨trivial,.tup [.agg zc30,aI x123],[.box (zc13 x119 x120 x121) false],zC (x:=.tup [.agg zc27,aI x123]) (x':=.tup [.agg zc27,aI x123]) [] hJ hJ hJ hJ rfl hJ,rfl,rfl⟩
     refine c0 h126 (jg ?_)
     exact .inr (⟨x119,x120,x121,x122,aI x123,aB (x123 !=0),hm,(zH hJ),rfl⟩)
    subst hk14
    refine sq (sq (rg (s1 1 [kl] ?_)))
    obtain ⟨⟨x128,x129,x130,x131⟩,h127,hm⟩:=bs hm
    obtain ⟨vv,H1,hC,rfl,rfl⟩:=abH h127
    refine dR [(32,.tup [aB x130,aI x131])] [.box (zc14 y10 y11 y12 x128 x129) false,.box [.ptr 0 0] false,.box zc27 false,.box [.pv .nils,aR 4 8 y13.length,aB false,.pv .nils,.pv .nils,.pv .nils] false,bR 49 8 za y13 0 0] [0] [.ptr 0 0] hJ hJ hJ hC hJ (stf 6 [jI,jE,jG,(5,aI x131),aaS] [.box (zc14 y10 y11 y12 x128 x129) false,.box [.ptr 0 0] false,.box zc27 false,.box (zc38 y13 x130) false,bR 49 8 za y13 0 0] hJ (sq (dn [jI,jE,jG,(5,aI x131),aaS,(37,aB (x131 !=0))] ?_)))
    rcases zf hm with ⟨h132,hm⟩|⟨h132,hm⟩
    ·refine c1 h132 (sq (dn [jE,(3,aI x131)] (jf ?_)))
     obtain rfl:=ji hm
     exact ⟨trivial,.tup [.agg zc30,aI x131],[.box (zc14 y10 y11 y12 x128 x129) false],zC (x:=.tup [.agg zc27,aI x131]) (x':=.tup [.agg zc27,aI x131]) [] hJ hJ hJ hJ rfl hJ,rfl,rfl⟩
    refine c0 h132 (jg ?_)
    obtain ⟨k139,hk139,hm⟩:=zt hm
    refine mid (fun t H=>(∃ (y135:Bool) (y136:(Option (List Int))) (y137:Int) (w133:AV) (w134:AV),k139 y135 y136 y137 none=some r∧t=mk 74 [jI,jE,jG,(5,w133),(48,w134)]∧H=[.box (zc13 y135 y136 y137) false,.box [.ptr 0 0] false,.box zc27 false,.box (zc38 y13 x130) false,bR 49 8 za y13 0 0])∨(∃ (y135:Bool) (y136:(Option (List Int))) (y137:Int) (y138:jq) (w133:AV) (w134:AV),k139 y135 y136 y137 (some y138)=some r∧t=mk 74 [jI,jE,jG,(5,w133),(48,w134)]∧H=[.box (zc13 y135 y136 y137) false,.box [.ptr 0 0] false,.box zc27 false,.box (zc39 y13 x130 y138) false,bR 49 8 za y13 0 0,bR 49 8 za y138 0 0])) ?_ ?_
    ·rintro _ _ (⟨y135,y136,y137,w133,w134,hm,rfl,rfl⟩|⟨y135,y136,y137,y138,w133,w134,hm,rfl,rfl⟩)
     ·subst hk139
      obtain ⟨k145,hk145,hm⟩:=zt hm
      refine mid (fun t H=>(∃ (y140:Bool) (y141:(Option (List Int))) (y142:Int) (y144:Int),k145 y140 y141 y142 none y144=some r∧t=mk 74 [jI,jE,jG,(5,aI y144)]∧H=[.box (zc13 y140 y141 y142) false,.box [.ptr 0 0] false,.box zc27 false,.box (zc38 y13 x130) false,bR 49 8 za y13 0 0])∨(∃ (y140:Bool) (y141:(Option (List Int))) (y142:Int) (y143:js) (y144:Int),k145 y140 y141 y142 (some y143) y144=some r∧t=mk 74 [jI,jE,jG,(5,aI y144)]∧H=[.box (zc13 y140 y141 y142) false,.box [.ptr 0 0] false,.box zc27 false,.box (zc40 y13 x130 y143) false,bR 49 8 za y13 0 0,bR 101 9 zd y143 0 0])) ?_ ?_
      ·rintro _ _ (⟨y140,y141,y142,y144,hm,rfl,rfl⟩|⟨y140,y141,y142,y143,y144,hm,rfl,rfl⟩)
       ·subst hk145
        refine sq (sq (dn [jI,jE,jG,(5,aI y144),(59,aB (y144 !=0))] ?_))
        rcases zf hm with ⟨h146,hm⟩|⟨h146,hm⟩
        ·refine c1 h146 (sq (dn [jE,(3,aI y144)] (jf ?_)))
         obtain rfl:=ji hm
         exact ⟨trivial,.tup [.agg zc30,aI y144],[.box (zc13 y140 y141 y142) false],zC (x:=.tup [.agg zc27,aI y144]) (x':=.tup [.agg zc27,aI y144]) [] hJ hJ hJ hJ rfl hJ,rfl,rfl⟩
        refine c0 h146 (jg ?_)
        obtain ⟨k152,hk152,hm⟩:=zt hm
        refine mid (fun t H=>(∃ (y147:Bool) (y148:(Option (List Int))) (y149:Int) (y151:Int),k152 y147 y148 y149 none y151=some r∧t=mk 74 [jE,jG,(5,aI y151)]∧H=[.box (zc13 y147 y148 y149) false,.box [.ptr 0 0] false,.box zc27 false,.box (zc38 y13 x130) false,bR 49 8 za y13 0 0])∨(∃ (y147:Bool) (y148:(Option (List Int))) (y149:Int) (y150:ju) (y151:Int),k152 y147 y148 y149 (some y150) y151=some r∧t=mk 74 [jE,jG,(5,aI y151)]∧H=[.box (zc13 y147 y148 y149) false,.box [.ptr 0 0] false,.box zc27 false,.box (zc41 y13 x130 y150) false,bR 49 8 za y13 0 0,bR 86 2 zl y150 0 0])) ?_ ?_
        ·rintro _ _ (⟨y147,y148,y149,y151,hm,rfl,rfl⟩|⟨y147,y148,y149,y150,y151,hm,rfl,rfl⟩)
         ·subst hk152
          refine sq (sq (dn [jE,jG,(5,aI y151),(70,aB (y151 !=0))] ?_))
          rcases zf hm with ⟨h153,hm⟩|⟨h153,hm⟩
          ·refine c1 h153 (sq (dn [jE,(3,aI y151)] (jf ?_)))
           obtain rfl:=ji hm
           exact ⟨trivial,.tup [.agg zc30,aI y151],[.box (zc13 y147 y148 y149) false],zC (x:=.tup [.agg zc27,aI y151]) (x':=.tup [.agg zc27,aI y151]) [] hJ hJ hJ hJ rfl hJ,rfl,rfl⟩
          refine c0 h153 (jg (sq (det [jE,kE] [.box (zc13 y147 y148 y149) false,.box [.ptr 0 0] false,.box (zc38 y13 x130) false,.box (zc38 y13 x130) false,bR 49 8 za y13 0 0] hJ (jf ?_))))
          obtain rfl:=ji hm
          exact ⟨trivial,.tup [.agg [.pv (zg rS ((zb.mk none (some y13) x130 none none none).E)),.pv (zg za ((zb.mk none (some y13) x130 none none none).H)),aB ((zb.mk none (some y13) x130 none none none).F),.pv (zg za ((zb.mk none (some y13) x130 none none none).B)),.pv (zg zd ((zb.mk none (some y13) x130 none none none).C)),.pv (zg zl ((zb.mk none (some y13) x130 none none none).G))],aI 0],[.box (zc13 y147 y148 y149) false],zC (x:=.tup [.agg (zc38 y13 x130),aI 0]) [4] hJ hJ hJ (qC (zK (qN (zj (zw) (zj (zB (n:=y13.length) (id:=4) (l:=y13) (R:=za) rfl rfl (Nat.zero_le _)) (zj (zw) (zj (zw) (zj (zw) (zj (zw) (rfl)))))))) (zK (QI) (rfl)))) rfl hJ,rfl,rfl⟩
         subst hk152
         refine sq (sq (dn [jE,jG,(5,aI y151),(70,aB (y151 !=0))] ?_))
         rcases zf hm with ⟨h154,hm⟩|⟨h154,hm⟩
         ·refine c1 h154 (sq (dn [jE,(3,aI y151)] (jf ?_)))
          obtain rfl:=ji hm
          exact ⟨trivial,.tup [.agg zc30,aI y151],[.box (zc13 y147 y148 y149) false],zC (x:=.tup [.agg zc27,aI y151]) (x':=.tup [.agg zc27,aI y151]) [] hJ hJ hJ hJ rfl hJ,rfl,rfl⟩
         refine c0 h154 (jg (sq (det [jE,kE] [.box (zc13 y147 y148 y149) false,.box [.ptr 0 0] false,.box (zc41 y13 x130 y150) false,.box (zc41 y13 x130 y150) false,bR 49 8 za y13 0 0,bR 86 2 zl y150 0 0] hJ (jf ?_))))
         obtain rfl:=ji hm
         exact ⟨trivial,.tup [.agg [.pv (zg rS ((zb.mk none (some y13) x130 none none (some y150)).E)),.pv (zg za ((zb.mk none (some y13) x130 none none (some y150)).H)),aB ((zb.mk none (some y13) x130 none none (some y150)).F),.pv (zg za ((zb.mk none (some y13) x130 none none (some y150)).B)),.pv (zg zd ((zb.mk none (some y13) x130 none none (some y150)).C)),.pv (zg zl ((zb.mk none (some y13) x130 none none (some y150)).G))],aI 0],[.box (zc13 y147 y148 y149) false],zC (x:=.tup [.agg (zc41 y13 x130 y150),aI 0]) [4,5] hJ hJ hJ (qC (zK (qN (zj (zw) (zj (zB (n:=y13.length) (id:=4) (l:=y13) (R:=za) rfl rfl (Nat.zero_le _)) (zj (zw) (zj (zw) (zj (zw) (zj (zB (n:=y150.length) (id:=5) (l:=y150) (R:=zl) rfl rfl (Nat.zero_le _)) (rfl)))))))) (zK (QI) (rfl)))) rfl hJ,rfl,rfl⟩
        refine rg (s1 2 [ad4,jS] ?_)
        obtain ⟨x161,h155,hm⟩:=bs hm
        rcases x161 with ⟨x156,x157,x158,_|x159,x160⟩
        ·obtain ⟨vv,H1,hC,rfl,rfl⟩:=zq h155
         refine dR [(adR x160)] [.box (zc13 x156 x157 x158) false,.box [.ptr 0 0] false,.box zc27 false,.box (zc38 y13 x130) false,bR 49 8 za y13 0 0] [0,1] [.ptr 0 0,aU 10,kT] hJ hJ hJ hC hJ (fq 6 [jE,jG,(5,aI x160)] ?_)
         exact .inl ⟨x156,x157,x158,x160,hm,rfl,rfl⟩
        obtain ⟨vv,H1,hC,rfl,rfl⟩:=zq h155
        refine dR [(65,.tup [aR 5 2 x159.length,aI x160])] [.box (zc13 x156 x157 x158) false,.box [.ptr 0 0] false,.box zc27 false,.box (zc38 y13 x130) false,bR 49 8 za y13 0 0,bR 86 2 zl x159 0 0] [0,1] [.ptr 0 0,aU 10,kT] hJ hJ hJ hC hJ (stf 6 [jE,jG,(5,aI x160)] [.box (zc13 x156 x157 x158) false,.box [.ptr 0 0] false,.box zc27 false,.box (zc41 y13 x130 x159) false,bR 49 8 za y13 0 0,bR 86 2 zl x159 0 0] hJ ?_)
        exact .inr (⟨x156,x157,x158,x159,x160,hm,rfl,rfl⟩)
       subst hk145
       refine sq (sq (dn [jI,jE,jG,(5,aI y144),(59,aB (y144 !=0))] ?_))
       rcases zf hm with ⟨h162,hm⟩|⟨h162,hm⟩
       ·refine c1 h162 (sq (dn [jE,(3,aI y144)] (jf ?_)))
        obtain rfl:=ji hm
        exact ⟨trivial,.tup [.agg zc30,aI y144],[.box (zc13 y140 y141 y142) false],zC (x:=.tup [.agg zc27,aI y144]) (x':=.tup [.agg zc27,aI y144]) [] hJ hJ hJ hJ rfl hJ,rfl,rfl⟩
       refine c0 h162 (jg ?_)
       obtain ⟨k168,hk168,hm⟩:=zt hm
       refine mid (fun t H=>(∃ (y163:Bool) (y164:(Option (List Int))) (y165:Int) (y167:Int),k168 y163 y164 y165 none y167=some r∧t=mk 74 [jE,jG,(5,aI y167)]∧H=[.box (zc13 y163 y164 y165) false,.box [.ptr 0 0] false,.box zc27 false,.box (zc40 y13 x130 y143) false,bR 49 8 za y13 0 0,bR 101 9 zd y143 0 0])∨(∃ (y163:Bool) (y164:(Option (List Int))) (y165:Int) (y166:ju) (y167:Int),k168 y163 y164 y165 (some y166) y167=some r∧t=mk 74 [jE,jG,(5,aI y167)]∧H=[.box (zc13 y163 y164 y165) false,.box [.ptr 0 0] false,.box zc27 false,.box (zc42 y13 x130 y143 y166) false,bR 49 8 za y13 0 0,bR 101 9 zd y143 0 0,bR 86 2 zl y166 0 0])) ?_ ?_
       ·rintro _ _ (⟨y163,y164,y165,y167,hm,rfl,rfl⟩|⟨y163,y164,y165,y166,y167,hm,rfl,rfl⟩)
        ·subst hk168
         refine sq (sq (dn [jE,jG,(5,aI y167),(70,aB (y167 !=0))] ?_))
         rcases zf hm with ⟨h169,hm⟩|⟨h169,hm⟩
         ·refine c1 h169 (sq (dn [jE,(3,aI y167)] (jf ?_)))
          obtain rfl:=ji hm
          exact ⟨trivial,.tup [.agg zc30,aI y167],[.box (zc13 y163 y164 y165) false],zC (x:=.tup [.agg zc27,aI y167]) (x':=.tup [.agg zc27,aI y167]) [] hJ hJ hJ hJ rfl hJ,rfl,rfl⟩
         refine c0 h169 (jg (sq (det [jE,kE] [.box (zc13 y163 y164 y165) false,.box [.ptr 0 0] false,.box (zc40 y13 x130 y143) false,.box (zc40 y13 x130 y143) false,bR 49 8 za y13 0 0,bR 101 9 zd y143 0 0] hJ (jf ?_))))
         obtain rfl:=ji hm
         exact ⟨trivial,.tup [.agg [.pv (zg rS ((zb.mk none (some y13) x130 none (some y143) none).E)),.pv (zg za ((zb.mk none (some y13) x130 none (some y143) none).H)),aB ((zb.mk none (some y13) x130 none (some y143) none).F),.pv (zg za ((zb.mk none (some y13) x130 none (some y143) none).B)),.pv (zg zd ((zb.mk none (some y13) x130 none (some y143) none).C)),.pv (zg zl ((zb.mk none (some y13) x130 none (some y143) none).G))],aI 0],[.box (zc13 y163 y164 y165) false],zC (x:=.tup [.agg (zc40 y13 x130 y143),aI 0]) [4,5] hJ hJ hJ (qC (zK (qN (zj (zw) (zj (zB (n:=y13.length) (id:=4) (l:=y13) (R:=za) rfl rfl (Nat.zero_le _)) (zj (zw) (zj (zw) (zj (zB (n:=y143.length) (id:=5) (l:=y143) (R:=zd) rfl rfl (Nat.zero_le _)) (zj (zw) (rfl)))))))) (zK (QI) (rfl)))) rfl hJ,rfl,rfl⟩
        subst hk168
        refine sq (sq (dn [jE,jG,(5,aI y167),(70,aB (y167 !=0))] ?_))
        rcases zf hm with ⟨h170,hm⟩|⟨h170,hm⟩
        ·refine c1 h170 (sq (dn [jE,(3,aI y167)] (jf ?_)))
         obtain rfl:=ji hm
         exact ⟨trivial,.tup [.agg zc30,aI y167],[.box (zc13 y163 y164 y165) false],zC (x:=.tup [.agg zc27,aI y167]) (x':=.tup [.agg zc27,aI y167]) [] hJ hJ hJ hJ rfl hJ,rfl,rfl⟩
        refine c0 h170 (jg (sq (det [jE,kE] [.box (zc13 y163 y164 y165) false,.box [.ptr 0 0] false,.box (zc42 y13 x130 y143 y166) false,.box (zc42 y13 x130 y143 y166) false,bR 49 8 za y13 0 0,bR 101 9 zd y143 0 0,bR 86 2 zl y166 0 0] hJ (jf ?_))))
        obtain rfl:=ji hm
        exact ⟨trivial,.tup [.agg [.pv (zg rS ((zb.mk none (some y13) x130 none (some y143) (some y166)).E)),.pv (zg za ((zb.mk none (some y13) x130 none (some y143) (some y166)).H)),aB ((zb.mk none (some y13) x130 none (some y143) (some y166)).F),.pv (zg za ((zb.mk none (some y13) x130 none (some y143) (some y166)).B)),.pv (zg zd ((zb.mk none (some y13) x130 none (some y143) (some y166)).C)),.pv (zg zl ((zb.mk none (some y13) x130 none (some y143) (some y166)).G))],aI 0],[.box (zc13 y163 y164 y165) false],zC (x:=.tup [.agg (zc42 y13 x130 y143 y166),aI 0]) [4,5,6] hJ hJ hJ (qC (zK (qN (zj (zw) (zj (zB (n:=y13.length) (id:=4) (l:=y13) (R:=za) rfl rfl (Nat.zero_le _)) (zj (zw) (zj (zw) (zj (zB (n:=y143.length) (id:=5) (l:=y143) (R:=zd) rfl rfl (Nat.zero_le _)) (zj (zB (n:=y166.length) (id:=6) (l:=y166) (R:=zl) rfl rfl (Nat.zero_le _)) (rfl)))))))) (zK (QI) (rfl)))) rfl hJ,rfl,rfl⟩
       refine rg (s1 2 [ad4,jS] ?_)
       obtain ⟨x177,h171,hm⟩:=bs hm
       rcases x177 with ⟨x172,x173,x174,_|x175,x176⟩
       ·obtain ⟨vv,H1,hC,rfl,rfl⟩:=zq h171
        refine dR [(adR x176)] [.box (zc13 x172 x173 x174) false,.box [.ptr 0 0] false,.box zc27 false,.box (zc40 y13 x130 y143) false,bR 49 8 za y13 0 0,bR 101 9 zd y143 0 0] [0,1] [.ptr 0 0,aU 10,kT] hJ hJ hJ hC hJ (fq 6 [jE,jG,(5,aI x176)] ?_)
        exact .inl ⟨x172,x173,x174,x176,hm,rfl,rfl⟩
       obtain ⟨vv,H1,hC,rfl,rfl⟩:=zq h171
       refine dR [(ano x175 x176)] [.box (zc13 x172 x173 x174) false,.box [.ptr 0 0] false,.box zc27 false,.box (zc40 y13 x130 y143) false,bR 49 8 za y13 0 0,bR 101 9 zd y143 0 0,bR 86 2 zl x175 0 0] [0,1] [.ptr 0 0,aU 10,kT] hJ hJ hJ hC hJ (stf 6 [jE,jG,(5,aI x176)] [.box (zc13 x172 x173 x174) false,.box [.ptr 0 0] false,.box zc27 false,.box (zc42 y13 x130 y143 x175) false,bR 49 8 za y13 0 0,bR 101 9 zd y143 0 0,bR 86 2 zl x175 0 0] hJ ?_)
       exact .inr (⟨x172,x173,x174,x175,x176,hm,rfl,rfl⟩)
      refine rg (s1 2 [aky,j4] ?_)
      obtain ⟨x184,h178,hm⟩:=bs hm
      rcases x184 with ⟨x179,x180,x181,_|x182,x183⟩
      ·obtain ⟨vv,H1,hC,rfl,rfl⟩:=zG h178
       refine dR [(aj0 x183)] [.box (zc13 x179 x180 x181) false,.box [.ptr 0 0] false,.box zc27 false,.box (zc38 y13 x130) false,bR 49 8 za y13 0 0] [0,1] [.ptr 0 0,aU 10,kU] hJ hJ hJ hC hJ (fq 6 [jI,jE,jG,(5,aI x183)] ?_)
       exact .inl ⟨x179,x180,x181,x183,hm,rfl,rfl⟩
      obtain ⟨vv,H1,hC,rfl,rfl⟩:=zG h178
      refine dR [(54,.tup [aR 5 9 x182.length,aI x183])] [.box (zc13 x179 x180 x181) false,.box [.ptr 0 0] false,.box zc27 false,.box (zc38 y13 x130) false,bR 49 8 za y13 0 0,bR 101 9 zd x182 0 0] [0,1] [.ptr 0 0,aU 10,kU] hJ hJ hJ hC hJ (stf 6 [jI,jE,jG,(5,aI x183)] [.box (zc13 x179 x180 x181) false,.box [.ptr 0 0] false,.box zc27 false,.box (zc40 y13 x130 x182) false,bR 49 8 za y13 0 0,bR 101 9 zd x182 0 0] hJ ?_)
      exact .inr (⟨x179,x180,x181,x182,x183,hm,rfl,rfl⟩)
     subst hk139
     obtain ⟨k190,hk190,hm⟩:=zt hm
     refine mid (fun t H=>(∃ (y185:Bool) (y186:(Option (List Int))) (y187:Int) (y189:Int),k190 y185 y186 y187 none y189=some r∧t=mk 74 [jI,jE,jG,(5,aI y189)]∧H=[.box (zc13 y185 y186 y187) false,.box [.ptr 0 0] false,.box zc27 false,.box (zc39 y13 x130 y138) false,bR 49 8 za y13 0 0,bR 49 8 za y138 0 0])∨(∃ (y185:Bool) (y186:(Option (List Int))) (y187:Int) (y188:js) (y189:Int),k190 y185 y186 y187 (some y188) y189=some r∧t=mk 74 [jI,jE,jG,(5,aI y189)]∧H=[.box (zc13 y185 y186 y187) false,.box [.ptr 0 0] false,.box zc27 false,.box (zc43 y13 x130 y138 y188) false,bR 49 8 za y13 0 0,bR 49 8 za y138 0 0,bR 101 9 zd y188 0 0])) ?_ ?_
     ·rintro _ _ (⟨y185,y186,y187,y189,hm,rfl,rfl⟩|⟨y185,y186,y187,y188,y189,hm,rfl,rfl⟩)
      ·subst hk190
       refine sq (sq (dn [jI,jE,jG,(5,aI y189),(59,aB (y189 !=0))] ?_))
       rcases zf hm with ⟨h191,hm⟩|⟨h191,hm⟩
       ·refine c1 h191 (sq (dn [jE,(3,aI y189)] (jf ?_)))
        obtain rfl:=ji hm
        exact ⟨trivial,.tup [.agg zc30,aI y189],[.box (zc13 y185 y186 y187) false],zC (x:=.tup [.agg zc27,aI y189]) (x':=.tup [.agg zc27,aI y189]) [] hJ hJ hJ hJ rfl hJ,rfl,rfl⟩
       refine c0 h191 (jg ?_)
       obtain ⟨k197,hk197,hm⟩:=zt hm
       refine mid (fun t H=>(∃ (y192:Bool) (y193:(Option (List Int))) (y194:Int) (y196:Int),k197 y192 y193 y194 none y196=some r∧t=mk 74 [jE,jG,(5,aI y196)]∧H=[.box (zc13 y192 y193 y194) false,.box [.ptr 0 0] false,.box zc27 false,.box (zc39 y13 x130 y138) false,bR 49 8 za y13 0 0,bR 49 8 za y138 0 0])∨(∃ (y192:Bool) (y193:(Option (List Int))) (y194:Int) (y195:ju) (y196:Int),k197 y192 y193 y194 (some y195) y196=some r∧t=mk 74 [jE,jG,(5,aI y196)]∧H=[.box (zc13 y192 y193 y194) false,.box [.ptr 0 0] false,.box zc27 false,.box (zc44 y13 x130 y138 y195) false,bR 49 8 za y13 0 0,bR 49 8 za y138 0 0,bR 86 2 zl y195 0 0])) ?_ ?_
       ·rintro _ _ (⟨y192,y193,y194,y196,hm,rfl,rfl⟩|⟨y192,y193,y194,y195,y196,hm,rfl,rfl⟩)
        ·subst hk197
         refine sq (sq (dn [jE,jG,(5,aI y196),(70,aB (y196 !=0))] ?_))
         rcases zf hm with ⟨h198,hm⟩|⟨h198,hm⟩
         ·refine c1 h198 (sq (dn [jE,(3,aI y196)] (jf ?_)))
          obtain rfl:=ji hm
          exact ⟨trivial,.tup [.agg zc30,aI y196],[.box (zc13 y192 y193 y194) false],zC (x:=.tup [.agg zc27,aI y196]) (x':=.tup [.agg zc27,aI y196]) [] hJ hJ hJ hJ rfl hJ,rfl,rfl⟩
         refine c0 h198 (jg (sq (det [jE,kE] [.box (zc13 y192 y193 y194) false,.box [.ptr 0 0] false,.box (zc39 y13 x130 y138) false,.box (zc39 y13 x130 y138) false,bR 49 8 za y13 0 0,bR 49 8 za y138 0 0] hJ (jf ?_))))
         obtain rfl:=ji hm
         exact ⟨trivial,.tup [.agg [.pv (zg rS ((zb.mk none (some y13) x130 (some y138) none none).E)),.pv (zg za ((zb.mk none (some y13) x130 (some y138) none none).H)),aB ((zb.mk none (some y13) x130 (some y138) none none).F),.pv (zg za ((zb.mk none (some y13) x130 (some y138) none none).B)),.pv (zg zd ((zb.mk none (some y13) x130 (some y138) none none).C)),.pv (zg zl ((zb.mk none (some y13) x130 (some y138) none none).G))],aI 0],[.box (zc13 y192 y193 y194) false],zC (x:=.tup [.agg (zc39 y13 x130 y138),aI 0]) [4,5] hJ hJ hJ (qC (zK (qN (zj (zw) (zj (zB (n:=y13.length) (id:=4) (l:=y13) (R:=za) rfl rfl (Nat.zero_le _)) (zj (zw) (zj (zB (n:=y138.length) (id:=5) (l:=y138) (R:=za) rfl rfl (Nat.zero_le _)) (zj (zw) (zj (zw) (rfl)))))))) (zK (QI) (rfl)))) rfl hJ,rfl,rfl⟩
        subst hk197
        refine sq (sq (dn [jE,jG,(5,aI y196),(70,aB (y196 !=0))] ?_))
        rcases zf hm with ⟨h199,hm⟩|⟨h199,hm⟩
        ·refine c1 h199 (sq (dn [jE,(3,aI y196)] (jf ?_)))
         obtain rfl:=ji hm
         exact ⟨trivial,.tup [.agg zc30,aI y196],[.box (zc13 y192 y193 y194) false],zC (x:=.tup [.agg zc27,aI y196]) (x':=.tup [.agg zc27,aI y196]) [] hJ hJ hJ hJ rfl hJ,rfl,rfl⟩
        refine c0 h199 (jg (sq (det [jE,kE] [.box (zc13 y192 y193 y194) false,.box [.ptr 0 0] false,.box (zc44 y13 x130 y138 y195) false,.box (zc44 y13 x130 y138 y195) false,bR 49 8 za y13 0 0,bR 49 8 za y138 0 0,bR 86 2 zl y195 0 0] hJ (jf ?_))))
        obtain rfl:=ji hm
        exact ⟨trivial,.tup [.agg [.pv (zg rS ((zb.mk none (some y13) x130 (some y138) none (some y195)).E)),.pv (zg za ((zb.mk none (some y13) x130 (some y138) none (some y195)).H)),aB ((zb.mk none (some y13) x130 (some y138) none (some y195)).F),.pv (zg za ((zb.mk none (some y13) x130 (some y138) none (some y195)).B)),.pv (zg zd ((zb.mk none (some y13) x130 (some y138) none (some y195)).C)),.pv (zg zl ((zb.mk none (some y13) x130 (some y138) none (some y195)).G))],aI 0],[.box (zc13 y192 y193 y194) false],zC (x:=.tup [.agg (zc44 y13 x130 y138 y195),aI 0]) [4,5,6] hJ hJ hJ (qC (zK (qN (zj (zw) (zj (zB (n:=y13.length) (id:=4) (l:=y13) (R:=za) rfl rfl (Nat.zero_le _)) (zj (zw) (zj (zB (n:=y138.length) (id:=5) (l:=y138) (R:=za) rfl rfl (Nat.zero_le _)) (zj (zw) (zj (zB (n:=y195.length) (id:=6) (l:=y195) (R:=zl) rfl rfl (Nat.zero_le _)) (rfl)))))))) (zK (QI) (rfl)))) rfl hJ,rfl,rfl⟩
       refine rg (s1 2 [ad4,jS] ?_)
       obtain ⟨x206,h200,hm⟩:=bs hm
       rcases x206 with ⟨x201,x202,x203,_|x204,x205⟩
       ·obtain ⟨vv,H1,hC,rfl,rfl⟩:=zq h200
        refine dR [(adR x205)] [.box (zc13 x201 x202 x203) false,.box [.ptr 0 0] false,.box zc27 false,.box (zc39 y13 x130 y138) false,bR 49 8 za y13 0 0,bR 49 8 za y138 0 0] [0,1] [.ptr 0 0,aU 10,kT] hJ hJ hJ hC hJ (fq 6 [jE,jG,(5,aI x205)] ?_)
        exact .inl ⟨x201,x202,x203,x205,hm,rfl,rfl⟩
       obtain ⟨vv,H1,hC,rfl,rfl⟩:=zq h200
       refine dR [(ano x204 x205)] [.box (zc13 x201 x202 x203) false,.box [.ptr 0 0] false,.box zc27 false,.box (zc39 y13 x130 y138) false,bR 49 8 za y13 0 0,bR 49 8 za y138 0 0,bR 86 2 zl x204 0 0] [0,1] [.ptr 0 0,aU 10,kT] hJ hJ hJ hC hJ (stf 6 [jE,jG,(5,aI x205)] [.box (zc13 x201 x202 x203) false,.box [.ptr 0 0] false,.box zc27 false,.box (zc44 y13 x130 y138 x204) false,bR 49 8 za y13 0 0,bR 49 8 za y138 0 0,bR 86 2 zl x204 0 0] hJ ?_)
       exact .inr (⟨x201,x202,x203,x204,x205,hm,rfl,rfl⟩)
      subst hk190
      refine sq (sq (dn [jI,jE,jG,(5,aI y189),(59,aB (y189 !=0))] ?_))
      rcases zf hm with ⟨h207,hm⟩|⟨h207,hm⟩
      ·refine c1 h207 (sq (dn [jE,(3,aI y189)] (jf ?_)))
       obtain rfl:=ji hm
       exact ⟨trivial,.tup [.agg zc30,aI y189],[.box (zc13 y185 y186 y187) false],zC (x:=.tup [.agg zc27,aI y189]) (x':=.tup [.agg zc27,aI y189]) [] hJ hJ hJ hJ rfl hJ,rfl,rfl⟩
      refine c0 h207 (jg ?_)
      obtain ⟨k213,hk213,hm⟩:=zt hm
      refine mid (fun t H=>(∃ (y208:Bool) (y209:(Option (List Int))) (y210:Int) (y212:Int),k213 y208 y209 y210 none y212=some r∧t=mk 74 [jE,jG,(5,aI y212)]∧H=[.box (zc13 y208 y209 y210) false,.box [.ptr 0 0] false,.box zc27 false,.box (zc43 y13 x130 y138 y188) false,bR 49 8 za y13 0 0,bR 49 8 za y138 0 0,bR 101 9 zd y188 0 0])∨(∃ (y208:Bool) (y209:(Option (List Int))) (y210:Int) (y211:ju) (y212:Int),k213 y208 y209 y210 (some y211) y212=some r∧t=mk 74 [jE,jG,(5,aI y212)]∧H=[.box (zc13 y208 y209 y210) false,.box [.ptr 0 0] false,.box zc27 false,.box (zc45 y13 x130 y138 y188 y211) false,bR 49 8 za y13 0 0,bR 49 8 za y138 0 0,bR 101 9 zd y188 0 0,bR 86 2 zl y211 0 0])) ?_ ?_
      ·rintro _ _ (⟨y208,y209,y210,y212,hm,rfl,rfl⟩|⟨y208,y209,y210,y211,y212,hm,rfl,rfl⟩)
       ·subst hk213
        refine sq (sq (dn [jE,jG,(5,aI y212),(70,aB (y212 !=0))] ?_))
        rcases zf hm with ⟨h214,hm⟩|⟨h214,hm⟩
        ·refine c1 h214 (sq (dn [jE,(3,aI y212)] (jf ?_)))
         obtain rfl:=ji hm
         exact ⟨trivial,.tup [.agg zc30,aI y212],[.box (zc13 y208 y209 y210) false],zC (x:=.tup [.agg zc27,aI y212]) (x':=.tup [.agg zc27,aI y212]) [] hJ hJ hJ hJ rfl hJ,rfl,rfl⟩
        refine c0 h214 (jg (sq (det [jE,kE] [.box (zc13 y208 y209 y210) false,.box [.ptr 0 0] false,.box (zc43 y13 x130 y138 y188) false,.box (zc43 y13 x130 y138 y188) false,bR 49 8 za y13 0 0,bR 49 8 za y138 0 0,bR 101 9 zd y188 0 0] hJ (jf ?_))))
        obtain rfl:=ji hm
        exact ⟨trivial,.tup [.agg [.pv (zg rS ((zb.mk none (some y13) x130 (some y138) (some y188) none).E)),.pv (zg za ((zb.mk none (some y13) x130 (some y138) (some y188) none).H)),aB ((zb.mk none (some y13) x130 (some y138) (some y188) none).F),.pv (zg za ((zb.mk none (some y13) x130 (some y138) (some y188) none).B)),.pv (zg zd ((zb.mk none (some y13) x130 (some y138) (some y188) none).C)),.pv (zg zl ((zb.mk none (some y13) x130 (some y138) (some y188) none).G))],aI 0],[.box (zc13 y208 y209 y210) false],zC (x:=.tup [.agg (zc43 y13 x130 y138 y188),aI 0]) [4,5,6] hJ hJ hJ (qC (zK (qN (zj (zw) (zj (zB (n:=y13.length) (id:=4) (l:=y13) (R:=za) rfl rfl (Nat.zero_le _)) (zj (zw) (zj (zB (n:=y138.length) (id:=5) (l:=y138) (R:=za) rfl rfl (Nat.zero_le _)) (zj (zB (n:=y188.length) (id:=6) (l:=y188) (R:=zd) rfl rfl (Nat.zero_le _)) (zj (zw) (rfl)))))))) (zK (QI) (rfl)))) rfl hJ,rfl,rfl⟩
       subst hk213
       refine sq (sq (dn [jE,jG,(5,aI y212),(70,aB (y212 !=0))] ?_))
       rcases zf hm with ⟨h215,hm⟩|⟨h215,hm⟩
       ·refine c1 h215 (sq (dn [jE,(3,aI y212)] (jf ?_)))
        obtain rfl:=ji hm
        exact ⟨trivial,.tup [.agg zc30,aI y212],[.box (zc13 y208 y209 y210) false],zC (x:=.tup [.agg zc27,aI y212]) (x':=.tup [.agg zc27,aI y212]) [] hJ hJ hJ hJ rfl hJ,rfl,rfl⟩
       refine c0 h215 (jg (sq (det [jE,kE] [.box (zc13 y208 y209 y210) false,.box [.ptr 0 0] false,.box (zc45 y13 x130 y138 y188 y211) false,.box (zc45 y13 x130 y138 y188 y211) false,bR 49 8 za y13 0 0,bR 49 8 za y138 0 0,bR 101 9 zd y188 0 0,bR 86 2 zl y211 0 0] hJ (jf ?_))))
       obtain rfl:=ji hm
       exact ⟨trivial,.tup [.agg [.pv (zg rS ((zb.mk none (some y13) x130 (some y138) (some y188) (some y211)).E)),.pv (zg za ((zb.mk none (some y13) x130 (some y138) (some y188) (some y211)).H)),aB ((zb.mk none (some y13) x130 (some y138) (some y188) (some y211)).F),.pv (zg za ((zb.mk none (some y13) x130 (some y138) (some y188) (some y211)).B)),.pv (zg zd ((zb.mk none (some y13) x130 (some y138) (some y188) (some y211)).C)),.pv (zg zl ((zb.mk none (some y13) x130 (some y138) (some y188) (some y211)).G))],aI 0],[.box (zc13 y208 y209 y210) false],zC (x:=.tup [.agg (zc45 y13 x130 y138 y188 y211),aI 0]) [4,5,6,7] hJ hJ hJ (qC (zK (qN (zj (zw) (zj (zB (n:=y13.length) (id:=4) (l:=y13) (R:=za) rfl rfl (Nat.zero_le _)) (zj (zw) (zj (zB (n:=y138.length) (id:=5) (l:=y138) (R:=za) rfl rfl (Nat.zero_le _)) (zj (zB (n:=y188.length) (id:=6) (l:=y188) (R:=zd) rfl rfl (Nat.zero_le _)) (zj (zB (n:=y211.length) (id:=7) (l:=y211) (R:=zl) rfl rfl (Nat.zero_le _)) (rfl)))))))) (zK (QI) (rfl)))) rfl hJ,rfl,rfl⟩
      refine rg (s1 2 [ad4,jS] ?_)
      obtain ⟨x222,h216,hm⟩:=bs hm
      rcases x222 with ⟨x217,x218,x219,_|x220,x221⟩
      ·obtain ⟨vv,H1,hC,rfl,rfl⟩:=zq h216
       refine dR [(adR x221)] [.box (zc13 x217 x218 x219) false,.box [.ptr 0 0] false,.box zc27 false,.box (zc43 y13 x130 y138 y188) false,bR 49 8 za y13 0 0,bR 49 8 za y138 0 0,bR 101 9 zd y188 0 0] [0,1] [.ptr 0 0,aU 10,kT] hJ hJ hJ hC hJ (fq 6 [jE,jG,(5,aI x221)] ?_)
       exact .inl ⟨x217,x218,x219,x221,hm,rfl,rfl⟩
      obtain ⟨vv,H1,hC,rfl,rfl⟩:=zq h216
      refine dR [(65,.tup [aR 7 2 x220.length,aI x221])] [.box (zc13 x217 x218 x219) false,.box [.ptr 0 0] false,.box zc27 false,.box (zc43 y13 x130 y138 y188) false,bR 49 8 za y13 0 0,bR 49 8 za y138 0 0,bR 101 9 zd y188 0 0,bR 86 2 zl x220 0 0] [0,1] [.ptr 0 0,aU 10,kT] hJ hJ hJ hC hJ (stf 6 [jE,jG,(5,aI x221)] [.box (zc13 x217 x218 x219) false,.box [.ptr 0 0] false,.box zc27 false,.box (zc45 y13 x130 y138 y188 x220) false,bR 49 8 za y13 0 0,bR 49 8 za y138 0 0,bR 101 9 zd y188 0 0,bR 86 2 zl x220 0 0] hJ ?_)
      exact .inr (⟨x217,x218,x219,x220,x221,hm,rfl,rfl⟩)
     refine rg (s1 2 [aky,j4] ?_)
     obtain ⟨x229,h223,hm⟩:=bs hm
     rcases x229 with ⟨x224,x225,x226,_|x227,x228⟩
     ·obtain ⟨vv,H1,hC,rfl,rfl⟩:=zG h223
      refine dR [(aj0 x228)] [.box (zc13 x224 x225 x226) false,.box [.ptr 0 0] false,.box zc27 false,.box (zc39 y13 x130 y138) false,bR 49 8 za y13 0 0,bR 49 8 za y138 0 0] [0,1] [.ptr 0 0,aU 10,kU] hJ hJ hJ hC hJ (fq 6 [jI,jE,jG,(5,aI x228)] ?_)
      exact .inl ⟨x224,x225,x226,x228,hm,rfl,rfl⟩
     obtain ⟨vv,H1,hC,rfl,rfl⟩:=zG h223
     refine dR [(54,.tup [aR 6 9 x227.length,aI x228])] [.box (zc13 x224 x225 x226) false,.box [.ptr 0 0] false,.box zc27 false,.box (zc39 y13 x130 y138) false,bR 49 8 za y13 0 0,bR 49 8 za y138 0 0,bR 101 9 zd x227 0 0] [0,1] [.ptr 0 0,aU 10,kU] hJ hJ hJ hC hJ (stf 6 [jI,jE,jG,(5,aI x228)] [.box (zc13 x224 x225 x226) false,.box [.ptr 0 0] false,.box zc27 false,.box (zc43 y13 x130 y138 x227) false,bR 49 8 za y13 0 0,bR 49 8 za y138 0 0,bR 101 9 zd x227 0 0] hJ ?_)
     exact .inr (⟨x224,x225,x226,x227,x228,hm,rfl,rfl⟩)
    refine sq (rg (s1 2 [(42,kV),kb] ?_))
    obtain ⟨x236,h230,hm⟩:=bs hm
    rcases x236 with ⟨x231,x232,x233,_|x234,x235⟩
    ·obtain ⟨vv,H1,hC,rfl,rfl⟩:=zN h230
     refine dR [(43,.tup [.pv .nils,aI x235])] [.box (zc13 x231 x232 x233) false,.box [.ptr 0 0] false,.box zc27 false,.box (zc38 y13 x130) false,bR 49 8 za y13 0 0] [0,1] [.ptr 0 0,aU 20,kV] hJ hJ hJ hC hJ (fq 6 [jI,jE,jG,(5,aI x235)] (sq (dn [jI,jE,jG,(5,aI x235),(48,aB (x235 !=0))] ?_)))
     rcases zf hm with ⟨h237,hm⟩|⟨h237,hm⟩
     ·refine c1 h237 (sq (dn [jE,(3,aI x235)] (jf ?_)))
      obtain rfl:=ji hm
      exact ⟨trivial,.tup [.agg zc30,aI x235],[.box (zc13 x231 x232 x233) false],zC (x:=.tup [.agg zc27,aI x235]) (x':=.tup [.agg zc27,aI x235]) [] hJ hJ hJ hJ rfl hJ,rfl,rfl⟩
     refine c0 h237 (jg ?_)
     exact .inl ⟨x231,x232,x233,aI x235,aB (x235 !=0),hm,(zH hJ),rfl⟩
    obtain ⟨vv,H1,hC,rfl,rfl⟩:=zN h230
    refine dR [(43,.tup [aR 5 8 x234.length,aI x235])] [.box (zc13 x231 x232 x233) false,.box [.ptr 0 0] false,.box zc27 false,.box (zc38 y13 x130) false,bR 49 8 za y13 0 0,bR 49 8 za x234 0 0] [0,1] [.ptr 0 0,aU 20,kV] hJ hJ hJ hC hJ (stf 6 [jI,jE,jG,(5,aI x235)] [.box (zc13 x231 x232 x233) false,.box [.ptr 0 0] false,.box zc27 false,.box (zc39 y13 x130 x234) false,bR 49 8 za y13 0 0,bR 49 8 za x234 0 0] hJ (sq (dn [jI,jE,jG,(5,aI x235),(48,aB (x235 !=0))] ?_)))
    rcases zf hm with ⟨h238,hm⟩|⟨h238,hm⟩
    ·refine c1 h238 (sq (dn [jE,(3,aI x235)] (jf ?_)))
     obtain rfl:=ji hm
     exact ⟨trivial,.tup [.agg zc30,aI x235],[.box (zc13 x231 x232 x233) false],zC (x:=.tup [.agg zc27,aI x235]) (x':=.tup [.agg zc27,aI x235]) [] hJ hJ hJ hJ rfl hJ,rfl,rfl⟩
    refine c0 h238 (jg ?_)
    exact .inr (⟨x231,x232,x233,x234,aI x235,aB (x235 !=0),hm,(zH hJ),rfl⟩)
   refine sq (rg (s1 2 [(21,kV),kh] ?_))
   obtain ⟨x245,h239,hm⟩:=bs hm
   rcases x245 with ⟨x240,x241,x242,_|x243,x244⟩
   ·obtain ⟨vv,H1,hC,rfl,rfl⟩:=zN h239
    refine dR [(22,.tup [.pv .nils,aI x244])] [.box (zc13 x240 x241 x242) false,.box [.ptr 0 0] false,.box zc27 false,.box zc27 false] [0,1] [.ptr 0 0,aU 40,kV] hJ hJ hJ hC hJ (fq 6 [jI,jE,jG,(5,aI x244),aaS] (sq (dn [jI,jE,jG,(5,aI x244),aaS,(27,aB (x244 !=0))] ?_)))
    rcases zf hm with ⟨h246,hm⟩|⟨h246,hm⟩
    ·refine c1 h246 (sq (dn [jE,(3,aI x244)] (jf ?_)))
     obtain rfl:=ji hm
     exact ⟨trivial,.tup [.agg zc30,aI x244],[.box (zc13 x240 x241 x242) false],zC (x:=.tup [.agg zc27,aI x244]) (x':=.tup [.agg zc27,aI x244]) [] hJ hJ hJ hJ rfl hJ,rfl,rfl⟩
    refine c0 h246 (jg ?_)
    exact .inl ⟨x240,x241,x242,aI x244,aB (x244 !=0),hm,(zH hJ),rfl⟩
   obtain ⟨vv,H1,hC,rfl,rfl⟩:=zN h239
   refine dR [(22,.tup [aR 4 8 x243.length,aI x244])] [.box (zc13 x240 x241 x242) false,.box [.ptr 0 0] false,.box zc27 false,.box zc27 false,bR 49 8 za x243 0 0] [0,1] [.ptr 0 0,aU 40,kV] hJ hJ hJ hC hJ (stf 6 [jI,jE,jG,(5,aI x244),aaS] [.box (zc13 x240 x241 x242) false,.box [.ptr 0 0] false,.box zc27 false,.box [.pv .nils,aR 4 8 x243.length,aB false,.pv .nils,.pv .nils,.pv .nils] false,bR 49 8 za x243 0 0] hJ (sq (dn [jI,jE,jG,(5,aI x244),aaS,(27,aB (x244 !=0))] ?_)))
   rcases zf hm with ⟨h247,hm⟩|⟨h247,hm⟩
   ·refine c1 h247 (sq (dn [jE,(3,aI x244)] (jf ?_)))
    obtain rfl:=ji hm
    exact ⟨trivial,.tup [.agg zc30,aI x244],[.box (zc13 x240 x241 x242) false],zC (x:=.tup [.agg zc27,aI x244]) (x':=.tup [.agg zc27,aI x244]) [] hJ hJ hJ hJ rfl hJ,rfl,rfl⟩
   refine c0 h247 (jg ?_)
   exact .inr (⟨x240,x241,x242,x243,aI x244,aB (x244 !=0),hm,(zH hJ),rfl⟩)
  subst hk7
  obtain ⟨k254,hk254,hm⟩:=zt hm
  refine mid (fun t H=>(∃ (y250:Bool) (y251:(Option (List Int))) (y252:Int) (w248:AV) (w249:AV),k254 y250 y251 y252 none=some r∧t=mk 74 [jI,jE,jG,(5,w248),aaS,(27,w249)]∧H=[.box (zc13 y250 y251 y252) false,.box [.ptr 0 0] false,.box zc27 false,.box (zc28 y6) false,bR 9 1 rS y6 0 0])∨(∃ (y250:Bool) (y251:(Option (List Int))) (y252:Int) (y253:jq) (w248:AV) (w249:AV),k254 y250 y251 y252 (some y253)=some r∧t=mk 74 [jI,jE,jG,(5,w248),aaS,(27,w249)]∧H=[.box (zc13 y250 y251 y252) false,.box [.ptr 0 0] false,.box zc27 false,.box [aR 4 1 y6.length,aR 5 8 y253.length,aB false,.pv .nils,.pv .nils,.pv .nils] false,bR 9 1 rS y6 0 0,bR 49 8 za y253 0 0])) ?_ ?_
  ·rintro _ _ (⟨y250,y251,y252,w248,w249,hm,rfl,rfl⟩|⟨y250,y251,y252,y253,w248,w249,hm,rfl,rfl⟩)
   ·subst hk254
    refine sq (sq (rg (s1 1 [kl] ?_)))
    obtain ⟨⟨x256,x257,x258,x259⟩,h255,hm⟩:=bs hm
    obtain ⟨vv,H1,hC,rfl,rfl⟩:=abH h255
    refine dR [(32,.tup [aB x258,aI x259])] [.box (zc14 y250 y251 y252 x256 x257) false,.box [.ptr 0 0] false,.box zc27 false,.box (zc28 y6) false,bR 9 1 rS y6 0 0] [0] [.ptr 0 0] hJ hJ hJ hC hJ (stf 6 [jI,jE,jG,(5,aI x259),aaS] [.box (zc14 y250 y251 y252 x256 x257) false,.box [.ptr 0 0] false,.box zc27 false,.box (zc46 y6 x258) false,bR 9 1 rS y6 0 0] hJ (sq (dn [jI,jE,jG,(5,aI x259),aaS,(37,aB (x259 !=0))] ?_)))
    rcases zf hm with ⟨h260,hm⟩|⟨h260,hm⟩
    ·refine c1 h260 (sq (dn [jE,(3,aI x259)] (jf ?_)))
     obtain rfl:=ji hm
     exact ⟨trivial,.tup [.agg zc30,aI x259],[.box (zc14 y250 y251 y252 x256 x257) false],zC (x:=.tup [.agg zc27,aI x259]) (x':=.tup [.agg zc27,aI x259]) [] hJ hJ hJ hJ rfl hJ,rfl,rfl⟩
    refine c0 h260 (jg ?_)
    obtain ⟨k267,hk267,hm⟩:=zt hm
    refine mid (fun t H=>(∃ (y263:Bool) (y264:(Option (List Int))) (y265:Int) (w261:AV) (w262:AV),k267 y263 y264 y265 none=some r∧t=mk 74 [jI,jE,jG,(5,w261),(48,w262)]∧H=[.box (zc13 y263 y264 y265) false,.box [.ptr 0 0] false,.box zc27 false,.box (zc46 y6 x258) false,bR 9 1 rS y6 0 0])∨(∃ (y263:Bool) (y264:(Option (List Int))) (y265:Int) (y266:jq) (w261:AV) (w262:AV),k267 y263 y264 y265 (some y266)=some r∧t=mk 74 [jI,jE,jG,(5,w261),(48,w262)]∧H=[.box (zc13 y263 y264 y265) false,.box [.ptr 0 0] false,.box zc27 false,.box (zc47 y6 x258 y266) false,bR 9 1 rS y6 0 0,bR 49 8 za y266 0 0])) ?_ ?_
    ·rintro _ _ (⟨y263,y264,y265,w261,w262,hm,rfl,rfl⟩|⟨y263,y264,y265,y266,w261,w262,hm,rfl,rfl⟩)
     ·subst hk267
      obtain ⟨k273,hk273,hm⟩:=zt hm
      refine mid (fun t H=>(∃ (y268:Bool) (y269:(Option (List Int))) (y270:Int) (y272:Int),k273 y268 y269 y270 none y272=some r∧t=mk 74 [jI,jE,jG,(5,aI y272)]∧H=[.box (zc13 y268 y269 y270) false,.box [.ptr 0 0] false,.box zc27 false,.box (zc46 y6 x258) false,bR 9 1 rS y6 0 0])∨(∃ (y268:Bool) (y269:(Option (List Int))) (y270:Int) (y271:js) (y272:Int),k273 y268 y269 y270 (some y271) y272=some r∧t=mk 74 [jI,jE,jG,(5,aI y272)]∧H=[.box (zc13 y268 y269 y270) false,.box [.ptr 0 0] false,.box zc27 false,.box (zc48 y6 x258 y271) false,bR 9 1 rS y6 0 0,bR 101 9 zd y271 0 0])) ?_ ?_
      ·rintro _ _ (⟨y268,y269,y270,y272,hm,rfl,rfl⟩|⟨y268,y269,y270,y271,y272,hm,rfl,rfl⟩)
       ·subst hk273
        refine sq (sq (dn [jI,jE,jG,(5,aI y272),(59,aB (y272 !=0))] ?_))
        rcases zf hm with ⟨h274,hm⟩|⟨h274,hm⟩
        ·refine c1 h274 (sq (dn [jE,(3,aI y272)] (jf ?_)))
         obtain rfl:=ji hm
         exact ⟨trivial,.tup [.agg zc30,aI y272],[.box (zc13 y268 y269 y270) false],zC (x:=.tup [.agg zc27,aI y272]) (x':=.tup [.agg zc27,aI y272]) [] hJ hJ hJ hJ rfl hJ,rfl,rfl⟩
        refine c0 h274 (jg ?_)
        obtain ⟨k280,hk280,hm⟩:=zt hm
        refine mid (fun t H=>(∃ (y275:Bool) (y276:(Option (List Int))) (y277:Int) (y279:Int),k280 y275 y276 y277 none y279=some r∧t=mk 74 [jE,jG,(5,aI y279)]∧H=[.box (zc13 y275 y276 y277) false,.box [.ptr 0 0] false,.box zc27 false,.box (zc46 y6 x258) false,bR 9 1 rS y6 0 0])∨(∃ (y275:Bool) (y276:(Option (List Int))) (y277:Int) (y278:ju) (y279:Int),k280 y275 y276 y277 (some y278) y279=some r∧t=mk 74 [jE,jG,(5,aI y279)]∧H=[.box (zc13 y275 y276 y277) false,.box [.ptr 0 0] false,.box zc27 false,.box (zc49 y6 x258 y278) false,bR 9 1 rS y6 0 0,bR 86 2 zl y278 0 0])) ?_ ?_
        ·rintro _ _ (⟨y275,y276,y277,y279,hm,rfl,rfl⟩|⟨y275,y276,y277,y278,y279,hm,rfl,rfl⟩)
         ·subst hk280
          refine sq (sq (dn [jE,jG,(5,aI y279),(70,aB (y279 !=0))] ?_))
          rcases zf hm with ⟨h281,hm⟩|⟨h281,hm⟩
          ·refine c1 h281 (sq (dn [jE,(3,aI y279)] (jf ?_)))
           obtain rfl:=ji hm
           exact ⟨trivial,.tup [.agg zc30,aI y279],[.box (zc13 y275 y276 y277) false],zC (x:=.tup [.agg zc27,aI y279]) (x':=.tup [.agg zc27,aI y279]) [] hJ hJ hJ hJ rfl hJ,rfl,rfl⟩
          refine c0 h281 (jg (sq (det [jE,kE] [.box (zc13 y275 y276 y277) false,.box [.ptr 0 0] false,.box (zc46 y6 x258) false,.box (zc46 y6 x258) false,bR 9 1 rS y6 0 0] hJ (jf ?_))))
          obtain rfl:=ji hm
          exact ⟨trivial,.tup [.agg [.pv (zg rS ((zb.mk (some y6) none x258 none none none).E)),.pv (zg za ((zb.mk (some y6) none x258 none none none).H)),aB ((zb.mk (some y6) none x258 none none none).F),.pv (zg za ((zb.mk (some y6) none x258 none none none).B)),.pv (zg zd ((zb.mk (some y6) none x258 none none none).C)),.pv (zg zl ((zb.mk (some y6) none x258 none none none).G))],aI 0],[.box (zc13 y275 y276 y277) false],zC (x:=.tup [.agg (zc46 y6 x258),aI 0]) [4] hJ hJ hJ (qC (zK (qN (zj (zB (n:=y6.length) (id:=4) (l:=y6) (R:=rS) rfl rfl (Nat.zero_le _)) (zj (zw) (zj (zw) (zj (zw) (zj (zw) (zj (zw) (rfl)))))))) (zK (QI) (rfl)))) rfl hJ,rfl,rfl⟩
         subst hk280
         refine sq (sq (dn [jE,jG,(5,aI y279),(70,aB (y279 !=0))] ?_))
         rcases zf hm with ⟨h282,hm⟩|⟨h282,hm⟩
         ·refine c1 h282 (sq (dn [jE,(3,aI y279)] (jf ?_)))
          obtain rfl:=ji hm
          exact ⟨trivial,.tup [.agg zc30,aI y279],[.box (zc13 y275 y276 y277) false],zC (x:=.tup [.agg zc27,aI y279]) (x':=.tup [.agg zc27,aI y279]) [] hJ hJ hJ hJ rfl hJ,rfl,rfl⟩
         refine c0 h282 (jg (sq (det [jE,kE] [.box (zc13 y275 y276 y277) false,.box [.ptr 0 0] false,.box (zc49 y6 x258 y278) false,.box (zc49 y6 x258 y278) false,bR 9 1 rS y6 0 0,bR 86 2 zl y278 0 0] hJ (jf ?_))))
         obtain rfl:=ji hm
         exact ⟨trivial,.tup [.agg [.pv (zg rS ((zb.mk (some y6) none x258 none none (some y278)).E)),.pv (zg za ((zb.mk (some y6) none x258 none none (some y278)).H)),aB ((zb.mk (some y6) none x258 none none (some y278)).F),.pv (zg za ((zb.mk (some y6) none x258 none none (some y278)).B)),.pv (zg zd ((zb.mk (some y6) none x258 none none (some y278)).C)),.pv (zg zl ((zb.mk (some y6) none x258 none none (some y278)).G))],aI 0],[.box (zc13 y275 y276 y277) false],zC (x:=.tup [.agg (zc49 y6 x258 y278),aI 0]) [4,5] hJ hJ hJ (qC (zK (qN (zj (zB (n:=y6.length) (id:=4) (l:=y6) (R:=rS) rfl rfl (Nat.zero_le _)) (zj (zw) (zj (zw) (zj (zw) (zj (zw) (zj (zB (n:=y278.length) (id:=5) (l:=y278) (R:=zl) rfl rfl (Nat.zero_le _)) (rfl)))))))) (zK (QI) (rfl)))) rfl hJ,rfl,rfl⟩
        refine rg (s1 2 [ad4,jS] ?_)
        obtain ⟨x289,h283,hm⟩:=bs hm
        rcases x289 with ⟨x284,x285,x286,_|x287,x288⟩
        ·obtain ⟨vv,H1,hC,rfl,rfl⟩:=zq h283
         refine dR [(adR x288)] [.box (zc13 x284 x285 x286) false,.box [.ptr 0 0] false,.box zc27 false,.box (zc46 y6 x258) false,bR 9 1 rS y6 0 0] [0,1] [.ptr 0 0,aU 10,kT] hJ hJ hJ hC hJ (fq 6 [jE,jG,(5,aI x288)] ?_)
         exact .inl ⟨x284,x285,x286,x288,hm,rfl,rfl⟩
        obtain ⟨vv,H1,hC,rfl,rfl⟩:=zq h283
        refine dR [(65,.tup [aR 5 2 x287.length,aI x288])] [.box (zc13 x284 x285 x286) false,.box [.ptr 0 0] false,.box zc27 false,.box (zc46 y6 x258) false,bR 9 1 rS y6 0 0,bR 86 2 zl x287 0 0] [0,1] [.ptr 0 0,aU 10,kT] hJ hJ hJ hC hJ (stf 6 [jE,jG,(5,aI x288)] [.box (zc13 x284 x285 x286) false,.box [.ptr 0 0] false,.box zc27 false,.box (zc49 y6 x258 x287) false,bR 9 1 rS y6 0 0,bR 86 2 zl x287 0 0] hJ ?_)
        exact .inr (⟨x284,x285,x286,x287,x288,hm,rfl,rfl⟩)
       subst hk273
       refine sq (sq (dn [jI,jE,jG,(5,aI y272),(59,aB (y272 !=0))] ?_))
       rcases zf hm with ⟨h290,hm⟩|⟨h290,hm⟩
       ·refine c1 h290 (sq (dn [jE,(3,aI y272)] (jf ?_)))
        obtain rfl:=ji hm
        exact ⟨trivial,.tup [.agg zc30,aI y272],[.box (zc13 y268 y269 y270) false],zC (x:=.tup [.agg zc27,aI y272]) (x':=.tup [.agg zc27,aI y272]) [] hJ hJ hJ hJ rfl hJ,rfl,rfl⟩
       refine c0 h290 (jg ?_)
       obtain ⟨k296,hk296,hm⟩:=zt hm
       refine mid (fun t H=>(∃ (y291:Bool) (y292:(Option (List Int))) (y293:Int) (y295:Int),k296 y291 y292 y293 none y295=some r∧t=mk 74 [jE,jG,(5,aI y295)]∧H=[.box (zc13 y291 y292 y293) false,.box [.ptr 0 0] false,.box zc27 false,.box (zc48 y6 x258 y271) false,bR 9 1 rS y6 0 0,bR 101 9 zd y271 0 0])∨(∃ (y291:Bool) (y292:(Option (List Int))) (y293:Int) (y294:ju) (y295:Int),k296 y291 y292 y293 (some y294) y295=some r∧t=mk 74 [jE,jG,(5,aI y295)]∧H=[.box (zc13 y291 y292 y293) false,.box [.ptr 0 0] false,.box zc27 false,.box (zc50 y6 x258 y271 y294) false,bR 9 1 rS y6 0 0,bR 101 9 zd y271 0 0,bR 86 2 zl y294 0 0])) ?_ ?_
       ·rintro _ _ (⟨y291,y292,y293,y295,hm,rfl,rfl⟩|⟨y291,y292,y293,y294,y295,hm,rfl,rfl⟩)
        ·subst hk296
         refine sq (sq (dn [jE,jG,(5,aI y295),(70,aB (y295 !=0))] ?_))
         rcases zf hm with ⟨h297,hm⟩|⟨h297,hm⟩
         ·refine c1 h297 (sq (dn [jE,(3,aI y295)] (jf ?_)))
          obtain rfl:=ji hm
          exact ⟨trivial,.tup [.agg zc30,aI y295],[.box (zc13 y291 y292 y293) false],zC (x:=.tup [.agg zc27,aI y295]) (x':=.tup [.agg zc27,aI y295]) [] hJ hJ hJ hJ rfl hJ,rfl,rfl⟩
         refine c0 h297 (jg (sq (det [jE,kE] [.box (zc13 y291 y292 y293) false,.box [.ptr 0 0] false,.box (zc48 y6 x258 y271) false,.box (zc48 y6 x258 y271) false,bR 9 1 rS y6 0 0,bR 101 9 zd y271 0 0] hJ (jf ?_))))
         obtain rfl:=ji hm
         exact ⟨trivial,.tup [.agg [.pv (zg rS ((zb.mk (some y6) none x258 none (some y271) none).E)),.pv (zg za ((zb.mk (some y6) none x258 none (some y271) none).H)),aB ((zb.mk (some y6) none x258 none (some y271) none).F),.pv (zg za ((zb.mk (some y6) none x258 none (some y271) none).B)),.pv (zg zd ((zb.mk (some y6) none x258 none (some y271) none).C)),.pv (zg zl ((zb.mk (some y6) none x258 none (some y271) none).G))],aI 0],[.box (zc13 y291 y292 y293) false],zC (x:=.tup [.agg (zc48 y6 x258 y271),aI 0]) [4,5] hJ hJ hJ (qC (zK (qN (zj (zB (n:=y6.length) (id:=4) (l:=y6) (R:=rS) rfl rfl (Nat.zero_le _)) (zj (zw) (zj (zw) (zj (zw) (zj (zB (n:=y271.length) (id:=5) (l:=y271) (R:=zd) rfl rfl (Nat.zero_le _)) (zj (zw) (rfl)))))))) (zK (QI) (rfl)))) rfl hJ,rfl,rfl⟩
        subst hk296
        refine sq (sq (dn [jE,jG,(5,aI y295),(70,aB (y295 !=0))] ?_))
        rcases zf hm with ⟨h298,hm⟩|⟨h298,hm⟩
        ·refine c1 h298 (sq (dn [jE,(3,aI y295)] (jf ?_)))
         obtain rfl:=ji hm
         exact ⟨trivial,.tup [.agg zc30,aI y295],[.box (zc13 y291 y292 y293) false],zC (x:=.tup [.agg zc27,aI y295]) (x':=.tup [.agg zc27,aI y295]) [] hJ hJ hJ hJ rfl hJ,rfl,rfl⟩
        refine c0 h298 (jg (sq (det [jE,kE] [.box (zc13 y291 y292 y293) false,.box [.ptr 0 0] false,.box (zc50 y6 x258 y271 y294) false,.box (zc50 y6 x258 y271 y294) false,bR 9 1 rS y6 0 0,bR 101 9 zd y271 0 0,bR 86 2 zl y294 0 0] hJ (jf ?_))))
        obtain rfl:=ji hm
        exact ⟨trivial,.tup [.agg [.pv (zg rS ((zb.mk (some y6) none x258 none (some y271) (some y294)).E)),.pv (zg za ((zb.mk (some y6) none x258 none (some y271) (some y294)).H)),aB ((zb.mk (some y6) none x258 none (some y271) (some y294)).F),.pv (zg za ((zb.mk (some y6) none x258 none (some y271) (some y294)).B)),.pv (zg zd ((zb.mk (some y6) none x258 none (some y271) (some y294)).C)),.pv (zg zl ((zb.mk (some y6) none x258 none (some y271) (some y294)).G))],aI 0],[.box (zc13 y291 y292 y293) false],zC (x:=.tup [.agg (zc50 y6 x258 y271 y294),aI 0]) [4,5,6] hJ hJ hJ (qC (zK (qN (zj (zB (n:=y6.length) (id:=4) (l:=y6) (R:=rS) rfl rfl (Nat.zero_le _)) (zj (zw) (zj (zw) (zj (zw) (zj (zB (n:=y271.length) (id:=5) (l:=y271) (R:=zd) rfl rfl (Nat.zero_le _)) (zj (zB (n:=y294.length) (id:=6) (l:=y294) (R:=zl) rfl rfl (Nat.zero_le _)) (rfl)))))))) (zK (QI) (rfl)))) rfl hJ,rfl,rfl⟩
       refine rg (s1 2 [ad4,jS] ?_)
       obtain ⟨x305,h299,hm⟩:=bs hm
       rcases x305 with ⟨x300,x301,x302,_|x303,x304⟩
       ·obtain ⟨vv,H1,hC,rfl,rfl⟩:=zq h299
        refine dR [(adR x304)] [.box (zc13 x300 x301 x302) false,.box [.ptr 0 0] false,.box zc27 false,.box (zc48 y6 x258 y271) false,bR 9 1 rS y6 0 0,bR 101 9 zd y271 0 0] [0,1] [.ptr 0 0,aU 10,kT] hJ hJ hJ hC hJ (fq 6 [jE,jG,(5,aI x304)] ?_)
        exact .inl ⟨x300,x301,x302,x304,hm,rfl,rfl⟩
       obtain ⟨vv,H1,hC,rfl,rfl⟩:=zq h299
       refine dR [(ano x303 x304)] [.box (zc13 x300 x301 x302) false,.box [.ptr 0 0] false,.box zc27 false,.box (zc48 y6 x258 y271) false,bR 9 1 rS y6 0 0,bR 101 9 zd y271 0 0,bR 86 2 zl x303 0 0] [0,1] [.ptr 0 0,aU 10,kT] hJ hJ hJ hC hJ (stf 6 [jE,jG,(5,aI x304)] [.box (zc13 x300 x301 x302) false,.box [.ptr 0 0] false,.box zc27 false,.box (zc50 y6 x258 y271 x303) false,bR 9 1 rS y6 0 0,bR 101 9 zd y271 0 0,bR 86 2 zl x303 0 0] hJ ?_)
       exact .inr (⟨x300,x301,x302,x303,x304,hm,rfl,rfl⟩)
      refine rg (s1 2 [aky,j4] ?_)
      obtain ⟨x312,h306,hm⟩:=bs hm
      rcases x312 with ⟨x307,x308,x309,_|x310,x311⟩
      ·obtain ⟨vv,H1,hC,rfl,rfl⟩:=zG h306
       refine dR [(aj0 x311)] [.box (zc13 x307 x308 x309) false,.box [.ptr 0 0] false,.box zc27 false,.box (zc46 y6 x258) false,bR 9 1 rS y6 0 0] [0,1] [.ptr 0 0,aU 10,kU] hJ hJ hJ hC hJ (fq 6 [jI,jE,jG,(5,aI x311)] ?_)
       exact .inl ⟨x307,x308,x309,x311,hm,rfl,rfl⟩
      obtain ⟨vv,H1,hC,rfl,rfl⟩:=zG h306
      refine dR [(54,.tup [aR 5 9 x310.length,aI x311])] [.box (zc13 x307 x308 x309) false,.box [.ptr 0 0] false,.box zc27 false,.box (zc46 y6 x258) false,bR 9 1 rS y6 0 0,bR 101 9 zd x310 0 0] [0,1] [.ptr 0 0,aU 10,kU] hJ hJ hJ hC hJ (stf 6 [jI,jE,jG,(5,aI x311)] [.box (zc13 x307 x308 x309) false,.box [.ptr 0 0] false,.box zc27 false,.box (zc48 y6 x258 x310) false,bR 9 1 rS y6 0 0,bR 101 9 zd x310 0 0] hJ ?_)
      exact .inr (⟨x307,x308,x309,x310,x311,hm,rfl,rfl⟩)
     subst hk267
     obtain ⟨k318,hk318,hm⟩:=zt hm
     refine mid (fun t H=>(∃ (y313:Bool) (y314:(Option (List Int))) (y315:Int) (y317:Int),k318 y313 y314 y315 none y317=some r∧t=mk 74 [jI,jE,jG,(5,aI y317)]∧H=[.box (zc13 y313 y314 y315) false,.box [.ptr 0 0] false,.box zc27 false,.box (zc47 y6 x258 y266) false,bR 9 1 rS y6 0 0,bR 49 8 za y266 0 0])∨(∃ (y313:Bool) (y314:(Option (List Int))) (y315:Int) (y316:js) (y317:Int),k318 y313 y314 y315 (some y316) y317=some r∧t=mk 74 [jI,jE,jG,(5,aI y317)]∧H=[.box (zc13 y313 y314 y315) false,.box [.ptr 0 0] false,.box zc27 false,.box (zc51 y6 x258 y266 y316) false,bR 9 1 rS y6 0 0,bR 49 8 za y266 0 0,bR 101 9 zd y316 0 0])) ?_ ?_
     ·rintro _ _ (⟨y313,y314,y315,y317,hm,rfl,rfl⟩|⟨y313,y314,y315,y316,y317,hm,rfl,rfl⟩)
      ·subst hk318
       refine sq (sq (dn [jI,jE,jG,(5,aI y317),(59,aB (y317 !=0))] ?_))
       rcases zf hm with ⟨h319,hm⟩|⟨h319,hm⟩
       ·refine c1 h319 (sq (dn [jE,(3,aI y317)] (jf ?_)))
        obtain rfl:=ji hm
        exact ⟨trivial,.tup [.agg zc30,aI y317],[.box (zc13 y313 y314 y315) false],zC (x:=.tup [.agg zc27,aI y317]) (x':=.tup [.agg zc27,aI y317]) [] hJ hJ hJ hJ rfl hJ,rfl,rfl⟩
       refine c0 h319 (jg ?_)
       obtain ⟨k325,hk325,hm⟩:=zt hm
       refine mid (fun t H=>(∃ (y320:Bool) (y321:(Option (List Int))) (y322:Int) (y324:Int),k325 y320 y321 y322 none y324=some r∧t=mk 74 [jE,jG,(5,aI y324)]∧H=[.box (zc13 y320 y321 y322) false,.box [.ptr 0 0] false,.box zc27 false,.box (zc47 y6 x258 y266) false,bR 9 1 rS y6 0 0,bR 49 8 za y266 0 0])∨(∃ (y320:Bool) (y321:(Option (List Int))) (y322:Int) (y323:ju) (y324:Int),k325 y320 y321 y322 (some y323) y324=some r∧t=mk 74 [jE,jG,(5,aI y324)]∧H=[.box (zc13 y320 y321 y322) false,.box [.ptr 0 0] false,.box zc27 false,.box (zc52 y6 x258 y266 y323) false,bR 9 1 rS y6 0 0,bR 49 8 za y266 0 0,bR 86 2 zl y323 0 0])) ?_ ?_
       ·rintro _ _ (⟨y320,y321,y322,y324,hm,rfl,rfl⟩|⟨y320,y321,y322,y323,y324,hm,rfl,rfl⟩)
        ·subst hk325
         refine sq (sq (dn [jE,jG,(5,aI y324),(70,aB (y324 !=0))] ?_))
         rcases zf hm with ⟨h326,hm⟩|⟨h326,hm⟩
         ·refine c1 h326 (sq (dn [jE,(3,aI y324)] (jf ?_)))
          obtain rfl:=ji hm
          exact ⟨trivial,.tup [.agg zc30,aI y324],[.box (zc13 y320 y321 y322) false],zC (x:=.tup [.agg zc27,aI y324]) (x':=.tup [.agg zc27,aI y324]) [] hJ hJ hJ hJ rfl hJ,rfl,rfl⟩
         refine c0 h326 (jg (sq (det [jE,kE] [.box (zc13 y320 y321 y322) false,.box [.ptr 0 0] false,.box (zc47 y6 x258 y266) false,.box (zc47 y6 x258 y266) false,bR 9 1 rS y6 0 0,bR 49 8 za y266 0 0] hJ (jf ?_))))
         obtain rfl:=ji hm
         exact ⟨trivial,.tup [.agg [.pv (zg rS ((zb.mk (some y6) none x258 (some y266) none none).E)),.pv (zg za ((zb.mk (some y6) none x258 (some y266) none none).H)),aB ((zb.mk (some y6) none x258 (some y266) none none).F),.pv (zg za ((zb.mk (some y6) none x258 (some y266) none none).B)),.pv (zg zd ((zb.mk (some y6) none x258 (some y266) none none).C)),.pv (zg zl ((zb.mk (some y6) none x258 (some y266) none none).G))],aI 0],[.box (zc13 y320 y321 y322) false],zC (x:=.tup [.agg (zc47 y6 x258 y266),aI 0]) [4,5] hJ hJ hJ (qC (zK (qN (zj (zB (n:=y6.length) (id:=4) (l:=y6) (R:=rS) rfl rfl (Nat.zero_le _)) (zj (zw) (zj (zw) (zj (zB (n:=y266.length) (id:=5) (l:=y266) (R:=za) rfl rfl (Nat.zero_le _)) (zj (zw) (zj (zw) (rfl)))))))) (zK (QI) (rfl)))) rfl hJ,rfl,rfl⟩
        subst hk325
        refine sq (sq (dn [jE,jG,(5,aI y324),(70,aB (y324 !=0))] ?_))
        rcases zf hm with ⟨h327,hm⟩|⟨h327,hm⟩
        ·refine c1 h327 (sq (dn [jE,(3,aI y324)] (jf ?_)))
         obtain rfl:=ji hm
         exact ⟨trivial,.tup [.agg zc30,aI y324],[.box (zc13 y320 y321 y322) false],zC (x:=.tup [.agg zc27,aI y324]) (x':=.tup [.agg zc27,aI y324]) [] hJ hJ hJ hJ rfl hJ,rfl,rfl⟩
        refine c0 h327 (jg (sq (det [jE,kE] [.box (zc13 y320 y321 y322) false,.box [.ptr 0 0] false,.box (zc52 y6 x258 y266 y323) false,.box (zc52 y6 x258 y266 y323) false,bR 9 1 rS y6 0 0,bR 49 8 za y266 0 0,bR 86 2 zl y323 0 0] hJ (jf ?_))))
        obtain rfl:=ji hm
        exact ⟨trivial,.tup [.agg [.pv (zg rS ((zb.mk (some y6) none x258 (some y266) none (some y323)).E)),.pv (zg za ((zb.mk (some y6) none x258 (some y266) none (some y323)).H)),aB ((zb.mk (some y6) none x258 (some y266) none (some y323)).F),.pv (zg za ((zb.mk (some y6) none x258 (some y266) none (some y323)).B)),.pv (zg zd ((zb.mk (some y6) none x258 (some y266) none (some y323)).C)),.pv (zg zl ((zb.mk (some y6) none x258 (some y266) none (some y323)).G))],aI 0],[.box (zc13 y320 y321 y322) false],zC (x:=.tup [.agg (zc52 y6 x258 y266 y323),aI 0]) [4,5,6] hJ hJ hJ (qC (zK (qN (zj (zB (n:=y6.length) (id:=4) (l:=y6) (R:=rS) rfl rfl (Nat.zero_le _)) (zj (zw) (zj (zw) (zj (zB (n:=y266.length) (id:=5) (l:=y266) (R:=za) rfl rfl (Nat.zero_le _)) (zj (zw) (zj (zB (n:=y323.length) (id:=6) (l:=y323) (R:=zl) rfl rfl (Nat.zero_le _)) (rfl)))))))) (zK (QI) (rfl)))) rfl hJ,rfl,rfl⟩
       refine rg (s1 2 [ad4,jS] ?_)
       obtain ⟨x334,h328,hm⟩:=bs hm
       rcases x334 with ⟨x329,x330,x331,_|x332,x333⟩
       ·obtain ⟨vv,H1,hC,rfl,rfl⟩:=zq h328
        refine dR [(adR x333)] [.box (zc13 x329 x330 x331) false,.box [.ptr 0 0] false,.box zc27 false,.box (zc47 y6 x258 y266) false,bR 9 1 rS y6 0 0,bR 49 8 za y266 0 0] [0,1] [.ptr 0 0,aU 10,kT] hJ hJ hJ hC hJ (fq 6 [jE,jG,(5,aI x333)] ?_)
        exact .inl ⟨x329,x330,x331,x333,hm,rfl,rfl⟩
       obtain ⟨vv,H1,hC,rfl,rfl⟩:=zq h328
       refine dR [(ano x332 x333)] [.box (zc13 x329 x330 x331) false,.box [.ptr 0 0] false,.box zc27 false,.box (zc47 y6 x258 y266) false,bR 9 1 rS y6 0 0,bR 49 8 za y266 0 0,bR 86 2 zl x332 0 0] [0,1] [.ptr 0 0,aU 10,kT] hJ hJ hJ hC hJ (stf 6 [jE,jG,(5,aI x333)] [.box (zc13 x329 x330 x331) false,.box [.ptr 0 0] false,.box zc27 false,.box (zc52 y6 x258 y266 x332) false,bR 9 1 rS y6 0 0,bR 49 8 za y266 0 0,bR 86 2 zl x332 0 0] hJ ?_)
       exact .inr (⟨x329,x330,x331,x332,x333,hm,rfl,rfl⟩)
      subst hk318
      refine sq (sq (dn [jI,jE,jG,(5,aI y317),(59,aB (y317 !=0))] ?_))
      rcases zf hm with ⟨h335,hm⟩|⟨h335,hm⟩
      ·refine c1 h335 (sq (dn [jE,(3,aI y317)] (jf ?_)))
       obtain rfl:=ji hm
       exact ⟨trivial,.tup [.agg zc30,aI y317],[.box (zc13 y313 y314 y315) false],zC (x:=.tup [.agg zc27,aI y317]) (x':=.tup [.agg zc27,aI y317]) [] hJ hJ hJ hJ rfl hJ,rfl,rfl⟩
      refine c0 h335 (jg ?_)
      obtain ⟨k341,hk341,hm⟩:=zt hm
      refine mid (fun t H=>(∃ (y336:Bool) (y337:(Option (List Int))) (y338:Int) (y340:Int),k341 y336 y337 y338 none y340=some r∧t=mk 74 [jE,jG,(5,aI y340)]∧H=[.box (zc13 y336 y337 y338) false,.box [.ptr 0 0] false,.box zc27 false,.box (zc51 y6 x258 y266 y316) false,bR 9 1 rS y6 0 0,bR 49 8 za y266 0 0,bR 101 9 zd y316 0 0])∨(∃ (y336:Bool) (y337:(Option (List Int))) (y338:Int) (y339:ju) (y340:Int),k341 y336 y337 y338 (some y339) y340=some r∧t=mk 74 [jE,jG,(5,aI y340)]∧H=[.box (zc13 y336 y337 y338) false,.box [.ptr 0 0] false,.box zc27 false,.box (zc53 y6 x258 y266 y316 y339) false,bR 9 1 rS y6 0 0,bR 49 8 za y266 0 0,bR 101 9 zd y316 0 0,bR 86 2 zl y339 0 0])) ?_ ?_
      ·rintro _ _ (⟨y336,y337,y338,y340,hm,rfl,rfl⟩|⟨y336,y337,y338,y339,y340,hm,rfl,rfl⟩)
       ·subst hk341
        refine sq (sq (dn [jE,jG,(5,aI y340),(70,aB (y340 !=0))] ?_))
        rcases zf hm with ⟨h342,hm⟩|⟨h342,hm⟩
        ·refine c1 h342 (sq (dn [jE,(3,aI y340)] (jf ?_)))
         obtain rfl:=ji hm
         exact ⟨trivial,.tup [.agg zc30,aI y340],[.box (zc13 y336 y337 y338) false],zC (x:=.tup [.agg zc27,aI y340]) (x':=.tup [.agg zc27,aI y340]) [] hJ hJ hJ hJ rfl hJ,rfl,rfl⟩
        refine c0 h342 (jg (sq (det [jE,kE] [.box (zc13 y336 y337 y338) false,.box [.ptr 0 0] false,.box (zc51 y6 x258 y266 y316) false,.box (zc51 y6 x258 y266 y316) false,bR 9 1 rS y6 0 0,bR 49 8 za y266 0 0,bR 101 9 zd y316 0 0] hJ (jf ?_))))
        obtain rfl:=ji hm
        exact ⟨trivial,.tup [.agg [.pv (zg rS ((zb.mk (some y6) none x258 (some y266) (some y316) none).E)),.pv (zg za ((zb.mk (some y6) none x258 (some y266) (some y316) none).H)),aB ((zb.mk (some y6) none x258 (some y266) (some y316) none).F),.pv (zg za ((zb.mk (some y6) none x258 (some y266) (some y316) none).B)),.pv (zg zd ((zb.mk (some y6) none x258 (some y266) (some y316) none).C)),.pv (zg zl ((zb.mk (some y6) none x258 (some y266) (some y316) none).G))],aI 0],[.box (zc13 y336 y337 y338) false],zC (x:=.tup [.agg (zc51 y6 x258 y266 y316),aI 0]) [4,5,6] hJ hJ hJ (qC (zK (qN (zj (zB (n:=y6.length) (id:=4) (l:=y6) (R:=rS) rfl rfl (Nat.zero_le _)) (zj (zw) (zj (zw) (zj (zB (n:=y266.length) (id:=5) (l:=y266) (R:=za) rfl rfl (Nat.zero_le _)) (zj (zB (n:=y316.length) (id:=6) (l:=y316) (R:=zd) rfl rfl (Nat.zero_le _)) (zj (zw) (rfl)))))))) (zK (QI) (rfl)))) rfl hJ,rfl,rfl⟩
       subst hk341
       refine sq (sq (dn [jE,jG,(5,aI y340),(70,aB (y340 !=0))] ?_))
       rcases zf hm with ⟨h343,hm⟩|⟨h343,hm⟩
       ·refine c1 h343 (sq (dn [jE,(3,aI y340)] (jf ?_)))
        obtain rfl:=ji hm
        exact ⟨trivial,.tup [.agg zc30,aI y340],[.box (zc13 y336 y337 y338) false],zC (x:=.tup [.agg zc27,aI y340]) (x':=.tup [.agg zc27,aI y340]) [] hJ hJ hJ hJ rfl hJ,rfl,rfl⟩
       refine c0 h343 (jg (sq (det [jE,kE] [.box (zc13 y336 y337 y338) false,.box [.ptr 0 0] false,.box (zc53 y6 x258 y266 y316 y339) false,.box (zc53 y6 x258 y266 y316 y339) false,bR 9 1 rS y6 0 0,bR 49 8 za y266 0 0,bR 101 9 zd y316 0 0,bR 86 2 zl y339 0 0] hJ (jf ?_))))
       obtain rfl:=ji hm
       exact ⟨trivial,.tup [.agg [.pv (zg rS ((zb.mk (some y6) none x258 (some y266) (some y316) (some y339)).E)),.pv (zg za ((zb.mk (some y6) none x258 (some y266) (some y316) (some y339)).H)),aB ((zb.mk (some y6) none x258 (some y266) (some y316) (some y339)).F),.pv (zg za ((zb.mk (some y6) none x258 (some y266) (some y316) (some y339)).B)),.pv (zg zd ((zb.mk (some y6) none x258 (some y266) (some y316) (some y339)).C)),.pv (zg zl ((zb.mk (some y6) none x258 (some y266) (some y316) (some y339)).G))],aI 0],[.box (zc13 y336 y337 y338) false],zC (x:=.tup [.agg (zc53 y6 x258 y266 y316 y339),aI 0]) [4,5,6,7] hJ hJ hJ (qC (zK (qN (zj (zB (n:=y6.length) (id:=4) (l:=y6) (R:=rS) rfl rfl (Nat.zero_le _)) (zj (zw) (zj (zw) (zj (zB (n:=y266.length) (id:=5) (l:=y266) (R:=za) rfl rfl (Nat.zero_le _)) (zj (zB (n:=y316.length) (id:=6) (l:=y316) (R:=zd) rfl rfl (Nat.zero_le _)) (zj (zB (n:=y339.length) (id:=7) (l:=y339) (R:=zl) rfl rfl (Nat.zero_le _)) (rfl)))))))) (zK (QI) (rfl)))) rfl hJ,rfl,rfl⟩
      refine rg (s1 2 [ad4,jS] ?_)
      obtain ⟨x350,h344,hm⟩:=bs hm
      rcases x350 with ⟨x345,x346,x347,_|x348,x349⟩
      ·obtain ⟨vv,H1,hC,rfl,rfl⟩:=zq h344
       refine dR [(adR x349)] [.box (zc13 x345 x346 x347) false,.box [.ptr 0 0] false,.box zc27 false,.box (zc51 y6 x258 y266 y316) false,bR 9 1 rS y6 0 0,bR 49 8 za y266 0 0,bR 101 9 zd y316 0 0] [0,1] [.ptr 0 0,aU 10,kT] hJ hJ hJ hC hJ (fq 6 [jE,jG,(5,aI x349)] ?_)
       exact .inl ⟨x345,x346,x347,x349,hm,rfl,rfl⟩
      obtain ⟨vv,H1,hC,rfl,rfl⟩:=zq h344
      refine dR [(65,.tup [aR 7 2 x348.length,aI x349])] [.box (zc13 x345 x346 x347) false,.box [.ptr 0 0] false,.box zc27 false,.box (zc51 y6 x258 y266 y316) false,bR 9 1 rS y6 0 0,bR 49 8 za y266 0 0,bR 101 9 zd y316 0 0,bR 86 2 zl x348 0 0] [0,1] [.ptr 0 0,aU 10,kT] hJ hJ hJ hC hJ (stf 6 [jE,jG,(5,aI x349)] [.box (zc13 x345 x346 x347) false,.box [.ptr 0 0] false,.box zc27 false,.box (zc53 y6 x258 y266 y316 x348) false,bR 9 1 rS y6 0 0,bR 49 8 za y266 0 0,bR 101 9 zd y316 0 0,bR 86 2 zl x348 0 0] hJ ?_)
      exact .inr (⟨x345,x346,x347,x348,x349,hm,rfl,rfl⟩)
     refine rg (s1 2 [aky,j4] ?_)
     obtain ⟨x357,h351,hm⟩:=bs hm
     rcases x357 with ⟨x352,x353,x354,_|x355,x356⟩
     ·obtain ⟨vv,H1,hC,rfl,rfl⟩:=zG h351
      refine dR [(aj0 x356)] [.box (zc13 x352 x353 x354) false,.box [.ptr 0 0] false,.box zc27 false,.box (zc47 y6 x258 y266) false,bR 9 1 rS y6 0 0,bR 49 8 za y266 0 0] [0,1] [.ptr 0 0,aU 10,kU] hJ hJ hJ hC hJ (fq 6 [jI,jE,jG,(5,aI x356)] ?_)
      exact .inl ⟨x352,x353,x354,x356,hm,rfl,rfl⟩
     obtain ⟨vv,H1,hC,rfl,rfl⟩:=zG h351
     refine dR [(54,.tup [aR 6 9 x355.length,aI x356])] [.box (zc13 x352 x353 x354) false,.box [.ptr 0 0] false,.box zc27 false,.box (zc47 y6 x258 y266) false,bR 9 1 rS y6 0 0,bR 49 8 za y266 0 0,bR 101 9 zd x355 0 0] [0,1] [.ptr 0 0,aU 10,kU] hJ hJ hJ hC hJ (stf 6 [jI,jE,jG,(5,aI x356)] [.box (zc13 x352 x353 x354) false,.box [.ptr 0 0] false,.box zc27 false,.box (zc51 y6 x258 y266 x355) false,bR 9 1 rS y6 0 0,bR 49 8 za y266 0 0,bR 101 9 zd x355 0 0] hJ ?_)
     exact .inr (⟨x352,x353,x354,x355,x356,hm,rfl,rfl⟩)
    refine sq (rg (s1 2 [(42,kV),kb] ?_))
    obtain ⟨x364,h358,hm⟩:=bs hm
    rcases x364 with ⟨x359,x360,x361,_|x362,x363⟩
    ·obtain ⟨vv,H1,hC,rfl,rfl⟩:=zN h358
     refine dR [(43,.tup [.pv .nils,aI x363])] [.box (zc13 x359 x360 x361) false,.box [.ptr 0 0] false,.box zc27 false,.box (zc46 y6 x258) false,bR 9 1 rS y6 0 0] [0,1] [.ptr 0 0,aU 20,kV] hJ hJ hJ hC hJ (fq 6 [jI,jE,jG,(5,aI x363)] (sq (dn [jI,jE,jG,(5,aI x363),(48,aB (x363 !=0))] ?_)))
     rcases zf hm with ⟨h365,hm⟩|⟨h365,hm⟩
     ·refine c1 h365 (sq (dn [jE,(3,aI x363)] (jf ?_)))
      obtain rfl:=ji hm
      exact ⟨trivial,.tup [.agg zc30,aI x363],[.box (zc13 x359 x360 x361) false],zC (x:=.tup [.agg zc27,aI x363]) (x':=.tup [.agg zc27,aI x363]) [] hJ hJ hJ hJ rfl hJ,rfl,rfl⟩
     refine c0 h365 (jg ?_)
     exact .inl ⟨x359,x360,x361,aI x363,aB (x363 !=0),hm,(zH hJ),rfl⟩
    obtain ⟨vv,H1,hC,rfl,rfl⟩:=zN h358
    refine dR [(43,.tup [aR 5 8 x362.length,aI x363])] [.box (zc13 x359 x360 x361) false,.box [.ptr 0 0] false,.box zc27 false,.box (zc46 y6 x258) false,bR 9 1 rS y6 0 0,bR 49 8 za x362 0 0] [0,1] [.ptr 0 0,aU 20,kV] hJ hJ hJ hC hJ (stf 6 [jI,jE,jG,(5,aI x363)] [.box (zc13 x359 x360 x361) false,.box [.ptr 0 0] false,.box zc27 false,.box (zc47 y6 x258 x362) false,bR 9 1 rS y6 0 0,bR 49 8 za x362 0 0] hJ (sq (dn [jI,jE,jG,(5,aI x363),(48,aB (x363 !=0))] ?_)))
    rcases zf hm with ⟨h366,hm⟩|⟨h366,hm⟩
    ·refine c1 h366 (sq (dn [jE,(3,aI x363)] (jf ?_)))
     obtain rfl:=ji hm
     exact ⟨trivial,.tup [.agg zc30,aI x363],[.box (zc13 x359 x360 x361) false],zC (x:=.tup [.agg zc27,aI x363]) (x':=.tup [.agg zc27,aI x363]) [] hJ hJ hJ hJ rfl hJ,rfl,rfl⟩
    refine c0 h366 (jg ?_)
    exact .inr (⟨x359,x360,x361,x362,aI x363,aB (x363 !=0),hm,(zH hJ),rfl⟩)
   subst hk254
   refine sq (sq (rg (s1 1 [kl] ?_)))
   obtain ⟨⟨x368,x369,x370,x371⟩,h367,hm⟩:=bs hm
   obtain ⟨vv,H1,hC,rfl,rfl⟩:=abH h367
   refine dR [(32,.tup [aB x370,aI x371])] [.box (zc14 y250 y251 y252 x368 x369) false,.box [.ptr 0 0] false,.box zc27 false,.box [aR 4 1 y6.length,aR 5 8 y253.length,aB false,.pv .nils,.pv .nils,.pv .nils] false,bR 9 1 rS y6 0 0,bR 49 8 za y253 0 0] [0] [.ptr 0 0] hJ hJ hJ hC hJ (stf 6 [jI,jE,jG,(5,aI x371),aaS] [.box (zc14 y250 y251 y252 x368 x369) false,.box [.ptr 0 0] false,.box zc27 false,.box (zc54 y6 y253 x370) false,bR 9 1 rS y6 0 0,bR 49 8 za y253 0 0] hJ (sq (dn [jI,jE,jG,(5,aI x371),aaS,(37,aB (x371 !=0))] ?_)))
   rcases zf hm with ⟨h372,hm⟩|⟨h372,hm⟩
   ·refine c1 h372 (sq (dn [jE,(3,aI x371)] (jf ?_)))
    obtain rfl:=ji hm
    exact ⟨trivial,.tup [.agg zc30,aI x371],[.box (zc14 y250 y251 y252 x368 x369) false],zC (x:=.tup [.agg zc27,aI x371]) (x':=.tup [.agg zc27,aI x371]) [] hJ hJ hJ hJ rfl hJ,rfl,rfl⟩
   refine c0 h372 (jg ?_)
   obtain ⟨k379,hk379,hm⟩:=zt hm
   refine mid (fun t H=>(∃ (y375:Bool) (y376:(Option (List Int))) (y377:Int) (w373:AV) (w374:AV),k379 y375 y376 y377 none=some r∧t=mk 74 [jI,jE,jG,(5,w373),(48,w374)]∧H=[.box (zc13 y375 y376 y377) false,.box [.ptr 0 0] false,.box zc27 false,.box (zc54 y6 y253 x370) false,bR 9 1 rS y6 0 0,bR 49 8 za y253 0 0])∨(∃ (y375:Bool) (y376:(Option (List Int))) (y377:Int) (y378:jq) (w373:AV) (w374:AV),k379 y375 y376 y377 (some y378)=some r∧t=mk 74 [jI,jE,jG,(5,w373),(48,w374)]∧H=[.box (zc13 y375 y376 y377) false,.box [.ptr 0 0] false,.box zc27 false,.box (zc55 y6 y253 x370 y378) false,bR 9 1 rS y6 0 0,bR 49 8 za y253 0 0,bR 49 8 za y378 0 0])) ?_ ?_
   ·rintro _ _ (⟨y375,y376,y377,w373,w374,hm,rfl,rfl⟩|⟨y375,y376,y377,y378,w373,w374,hm,rfl,rfl⟩)
    ·subst hk379
     obtain ⟨k385,hk385,hm⟩:=zt hm
     refine mid (fun t H=>(∃ (y380:Bool) (y381:(Option (List Int))) (y382:Int) (y384:Int),k385 y380 y381 y382 none y384=some r∧t=mk 74 [jI,jE,jG,(5,aI y384)]∧H=[.box (zc13 y380 y381 y382) false,.box [.ptr 0 0] false,.box zc27 false,.box (zc54 y6 y253 x370) false,bR 9 1 rS y6 0 0,bR 49 8 za y253 0 0])∨(∃ (y380:Bool) (y381:(Option (List Int))) (y382:Int) (y383:js) (y384:Int),k385 y380 y381 y382 (some y383) y384=some r∧t=mk 74 [jI,jE,jG,(5,aI y384)]∧H=[.box (zc13 y380 y381 y382) false,.box [.ptr 0 0] false,.box zc27 false,.box (zc56 y6 y253 x370 y383) false,bR 9 1 rS y6 0 0,bR 49 8 za y253 0 0,bR 101 9 zd y383 0 0])) ?_ ?_
     ·rintro _ _ (⟨y380,y381,y382,y384,hm,rfl,rfl⟩|⟨y380,y381,y382,y383,y384,hm,rfl,rfl⟩)
      ·subst hk385
       refine sq (sq (dn [jI,jE,jG,(5,aI y384),(59,aB (y384 !=0))] ?_))
       rcases zf hm with ⟨h386,hm⟩|⟨h386,hm⟩
       ·refine c1 h386 (sq (dn [jE,(3,aI y384)] (jf ?_)))
        obtain rfl:=ji hm
        exact ⟨trivial,.tup [.agg zc30,aI y384],[.box (zc13 y380 y381 y382) false],zC (x:=.tup [.agg zc27,aI y384]) (x':=.tup [.agg zc27,aI y384]) [] hJ hJ hJ hJ rfl hJ,rfl,rfl⟩
       refine c0 h386 (jg ?_)
       obtain ⟨k392,hk392,hm⟩:=zt hm
       refine mid (fun t H=>(∃ (y387:Bool) (y388:(Option (List Int))) (y389:Int) (y391:Int),k392 y387 y388 y389 none y391=some r∧t=mk 74 [jE,jG,(5,aI y391)]∧H=[.box (zc13 y387 y388 y389) false,.box [.ptr 0 0] false,.box zc27 false,.box (zc54 y6 y253 x370) false,bR 9 1 rS y6 0 0,bR 49 8 za y253 0 0])∨(∃ (y387:Bool) (y388:(Option (List Int))) (y389:Int) (y390:ju) (y391:Int),k392 y387 y388 y389 (some y390) y391=some r∧t=mk 74 [jE,jG,(5,aI y391)]∧H=[.box (zc13 y387 y388 y389) false,.box [.ptr 0 0] false,.box zc27 false,.box (zc57 y6 y253 x370 y390) false,bR 9 1 rS y6 0 0,bR 49 8 za y253 0 0,bR 86 2 zl y390 0 0])) ?_ ?_
       ·rintro _ _ (⟨y387,y388,y389,y391,hm,rfl,rfl⟩|⟨y387,y388,y389,y390,y391,hm,rfl,rfl⟩)
        ·subst hk392
         refine sq (sq (dn [jE,jG,(5,aI y391),(70,aB (y391 !=0))] ?_))
         rcases zf hm with ⟨h393,hm⟩|⟨h393,hm⟩
         ·refine c1 h393 (sq (dn [jE,(3,aI y391)] (jf ?_)))
          obtain rfl:=ji hm
          exact ⟨trivial,.tup [.agg zc30,aI y391],[.box (zc13 y387 y388 y389) false],zC (x:=.tup [.agg zc27,aI y391]) (x':=.tup [.agg zc27,aI y391]) [] hJ hJ hJ hJ rfl hJ,rfl,rfl⟩
         refine c0 h393 (jg (sq (det [jE,kE] [.box (zc13 y387 y388 y389) false,.box [.ptr 0 0] false,.box (zc54 y6 y253 x370) false,.box (zc54 y6 y253 x370) false,bR 9 1 rS y6 0 0,bR 49 8 za y253 0 0] hJ (jf ?_))))
         obtain rfl:=ji hm
         exact ⟨trivial,.tup [.agg [.pv (zg rS ((zb.mk (some y6) (some y253) x370 none none none).E)),.pv (zg za ((zb.mk (some y6) (some y253) x370 none none none).H)),aB ((zb.mk (some y6) (some y253) x370 none none none).F),.pv (zg za ((zb.mk (some y6) (some y253) x370 none none none).B)),.pv (zg zd ((zb.mk (some y6) (some y253) x370 none none none).C)),.pv (zg zl ((zb.mk (some y6) (some y253) x370 none none none).G))],aI 0],[.box (zc13 y387 y388 y389) false],zC (x:=.tup [.agg (zc54 y6 y253 x370),aI 0]) [4,5] hJ hJ hJ (qC (zK (qN (zj (zB (n:=y6.length) (id:=4) (l:=y6) (R:=rS) rfl rfl (Nat.zero_le _)) (zj (zB (n:=y253.length) (id:=5) (l:=y253) (R:=za) rfl rfl (Nat.zero_le _)) (zj (zw) (zj (zw) (zj (zw) (zj (zw) (rfl)))))))) (zK (QI) (rfl)))) rfl hJ,rfl,rfl⟩
        subst hk392
        refine sq (sq (dn [jE,jG,(5,aI y391),(70,aB (y391 !=0))] ?_))
        rcases zf hm with ⟨h394,hm⟩|⟨h394,hm⟩
        ·refine c1 h394 (sq (dn [jE,(3,aI y391)] (jf ?_)))
         obtain rfl:=ji hm
         exact ⟨trivial,.tup [.agg zc30,aI y391],[.box (zc13 y387 y388 y389) false],zC (x:=.tup [.agg zc27,aI y391]) (x':=.tup [.agg zc27,aI y391]) [] hJ hJ hJ hJ rfl hJ,rfl,rfl⟩
        refine c0 h394 (jg (sq (det [jE,kE] [.box (zc13 y387 y388 y389) false,.box [.ptr 0 0] false,.box (zc57 y6 y253 x370 y390) false,.box (zc57 y6 y253 x370 y390) false,bR 9 1 rS y6 0 0,bR 49 8 za y253 0 0,bR 86 2 zl y390 0 0] hJ (jf ?_))))
        obtain rfl:=ji hm
        exact ⟨trivial,.tup [.agg [.pv (zg rS ((zb.mk (some y6) (some y253) x370 none none (some y390)).E)),.pv (zg za ((zb.mk (some y6) (some y253) x370 none none (some y390)).H)),aB ((zb.mk (some y6) (some y253) x370 none none (some y390)).F),.pv (zg za ((zb.mk (some y6) (some y253) x370 none none (some y390)).B)),.pv (zg zd ((zb.mk (some y6) (some y253) x370 none none (some y390)).C)),.pv (zg zl ((zb.mk (some y6) (some y253) x370 none none (some y390)).G))],aI 0],[.box (zc13 y387 y388 y389) false],zC (x:=.tup [.agg (zc57 y6 y253 x370 y390),aI 0]) [4,5,6] hJ hJ hJ (qC (zK (qN (zj (zB (n:=y6.length) (id:=4) (l:=y6) (R:=rS) rfl rfl (Nat.zero_le _)) (zj (zB (n:=y253.length) (id:=5) (l:=y253) (R:=za) rfl rfl (Nat.zero_le _)) (zj (zw) (zj (zw) (zj (zw) (zj (zB (n:=y390.length) (id:=6) (l:=y390) (R:=zl) rfl rfl (Nat.zero_le _)) (rfl)))))))) (zK (QI) (rfl)))) rfl hJ,rfl,rfl⟩
       refine rg (s1 2 [ad4,jS] ?_)
       obtain ⟨x401,h395,hm⟩:=bs hm
       rcases x401 with ⟨x396,x397,x398,_|x399,x400⟩
       ·obtain ⟨vv,H1,hC,rfl,rfl⟩:=zq h395
        refine dR [(adR x400)] [.box (zc13 x396 x397 x398) false,.box [.ptr 0 0] false,.box zc27 false,.box (zc54 y6 y253 x370) false,bR 9 1 rS y6 0 0,bR 49 8 za y253 0 0] [0,1] [.ptr 0 0,aU 10,kT] hJ hJ hJ hC hJ (fq 6 [jE,jG,(5,aI x400)] ?_)
        exact .inl ⟨x396,x397,x398,x400,hm,rfl,rfl⟩
       obtain ⟨vv,H1,hC,rfl,rfl⟩:=zq h395
       refine dR [(ano x399 x400)] [.box (zc13 x396 x397 x398) false,.box [.ptr 0 0] false,.box zc27 false,.box (zc54 y6 y253 x370) false,bR 9 1 rS y6 0 0,bR 49 8 za y253 0 0,bR 86 2 zl x399 0 0] [0,1] [.ptr 0 0,aU 10,kT] hJ hJ hJ hC hJ (stf 6 [jE,jG,(5,aI x400)] [.box (zc13 x396 x397 x398) false,.box [.ptr 0 0] false,.box zc27 false,.box (zc57 y6 y253 x370 x399) false,bR 9 1 rS y6 0 0,bR 49 8 za y253 0 0,bR 86 2 zl x399 0 0] hJ ?_)
       exact .inr (⟨x396,x397,x398,x399,x400,hm,rfl,rfl⟩)
      subst hk385
      refine sq (sq (dn [jI,jE,jG,(5,aI y384),(59,aB (y384 !=0))] ?_))
      rcases zf hm with ⟨h402,hm⟩|⟨h402,hm⟩
      ·refine c1 h402 (sq (dn [jE,(3,aI y384)] (jf ?_)))
       obtain rfl:=ji hm
       exact ⟨trivial,.tup [.agg zc30,aI y384],[.box (zc13 y380 y381 y382) false],zC (x:=.tup [.agg zc27,aI y384]) (x':=.tup [.agg zc27,aI y384]) [] hJ hJ hJ hJ rfl hJ,rfl,rfl⟩
      refine c0 h402 (jg ?_)
      obtain ⟨k408,hk408,hm⟩:=zt hm
      refine mid (fun t H=>(∃ (y403:Bool) (y404:(Option (List Int))) (y405:Int) (y407:Int),k408 y403 y404 y405 none y407=some r∧t=mk 74 [jE,jG,(5,aI y407)]∧H=[.box (zc13 y403 y404 y405) false,.box [.ptr 0 0] false,.box zc27 false,.box (zc56 y6 y253 x370 y383) false,bR 9 1 rS y6 0 0,bR 49 8 za y253 0 0,bR 101 9 zd y383 0 0])∨(∃ (y403:Bool) (y404:(Option (List Int))) (y405:Int) (y406:ju) (y407:Int),k408 y403 y404 y405 (some y406) y407=some r∧t=mk 74 [jE,jG,(5,aI y407)]∧H=[.box (zc13 y403 y404 y405) false,.box [.ptr 0 0] false,.box zc27 false,.box (zc58 y6 y253 x370 y383 y406) false,bR 9 1 rS y6 0 0,bR 49 8 za y253 0 0,bR 101 9 zd y383 0 0,bR 86 2 zl y406 0 0])) ?_ ?_
      ·rintro _ _ (⟨y403,y404,y405,y407,hm,rfl,rfl⟩|⟨y403,y404,y405,y406,y407,hm,rfl,rfl⟩)
       ·subst hk408
        refine sq (sq (dn [jE,jG,(5,aI y407),(70,aB (y407 !=0))] ?_))
        rcases zf hm with ⟨h409,hm⟩|⟨h409,hm⟩
        ·refine c1 h409 (sq (dn [jE,(3,aI y407)] (jf ?_)))
         obtain rfl:=ji hm
         exact ⟨trivial,.tup [.agg zc30,aI y407],[.box (zc13 y403 y404 y405) false],zC (x:=.tup [.agg zc27,aI y407]) (x':=.tup [.agg zc27,aI y407]) [] hJ hJ hJ hJ rfl hJ,rfl,rfl⟩
        refine c0 h409 (jg (sq (det [jE,kE] [.box (zc13 y403 y404 y405) false,.box [.ptr 0 0] false,.box (zc56 y6 y253 x370 y383) false,.box (zc56 y6 y253 x370 y383) false,bR 9 1 rS y6 0 0,bR 49 8 za y253 0 0,bR 101 9 zd y383 0 0] hJ (jf ?_))))
        obtain rfl:=ji hm
        exact ⟨trivial,.tup [.agg [.pv (zg rS ((zb.mk (some y6) (some y253) x370 none (some y383) none).E)),.pv (zg za ((zb.mk (some y6) (some y253) x370 none (some y383) none).H)),aB ((zb.mk (some y6) (some y253) x370 none (some y383) none).F),.pv (zg za ((zb.mk (some y6) (some y253) x370 none (some y383) none).B)),.pv (zg zd ((zb.mk (some y6) (some y253) x370 none (some y383) none).C)),.pv (zg zl ((zb.mk (some y6) (some y253) x370 none (some y383) none).G))],aI 0],[.box (zc13 y403 y404 y405) false],zC (x:=.tup [.agg (zc56 y6 y253 x370 y383),aI 0]) [4,5,6] hJ hJ hJ (qC (zK (qN (zj (zB (n:=y6.length) (id:=4) (l:=y6) (R:=rS) rfl rfl (Nat.zero_le _)) (zj (zB (n:=y253.length) (id:=5) (l:=y253) (R:=za) rfl rfl (Nat.zero_le _)) (zj (zw) (zj (zw) (zj (zB (n:=y383.length) (id:=6) (l:=y383) (R:=zd) rfl rfl (Nat.zero_le _)) (zj (zw) (rfl)))))))) (zK (QI) (rfl)))) rfl hJ,rfl,rfl⟩
       subst hk408
       refine sq (sq (dn [jE,jG,(5,aI y407),(70,aB (y407 !=0))] ?_))
       rcases zf hm with ⟨h410,hm⟩|⟨h410,hm⟩
       ·refine c1 h410 (sq (dn [jE,(3,aI y407)] (jf ?_)))
        obtain rfl:=ji hm
        exact ⟨trivial,.tup [.agg zc30,aI y407],[.box (zc13 y403 y404 y405) false],zC (x:=.tup [.agg zc27,aI y407]) (x':=.tup [.agg zc27,aI y407]) [] hJ hJ hJ hJ rfl hJ,rfl,rfl⟩
       refine c0 h410 (jg (sq (det [jE,kE] [.box (zc13 y403 y404 y405) false,.box [.ptr 0 0] false,.box (zc58 y6 y253 x370 y383 y406) false,.box (zc58 y6 y253 x370 y383 y406) false,bR 9 1 rS y6 0 0,bR 49 8 za y253 0 0,bR 101 9 zd y383 0 0,bR 86 2 zl y406 0 0] hJ (jf ?_))))
       obtain rfl:=ji hm
       exact ⟨trivial,.tup [.agg [.pv (zg rS ((zb.mk (some y6) (some y253) x370 none (some y383) (some y406)).E)),.pv (zg za ((zb.mk (some y6) (some y253) x370 none (some y383) (some y406)).H)),aB ((zb.mk (some y6) (some y253) x370 none (some y383) (some y406)).F),.pv (zg za ((zb.mk (some y6) (some y253) x370 none (some y383) (some y406)).B)),.pv (zg zd ((zb.mk (some y6) (some y253) x370 none (some y383) (some y406)).C)),.pv (zg zl ((zb.mk (some y6) (some y253) x370 none (some y383) (some y406)).G))],aI 0],[.box (zc13 y403 y404 y405) false],zC (x:=.tup [.agg (zc58 y6 y253 x370 y383 y406),aI 0]) [4,5,6,7] hJ hJ hJ (qC (zK (qN (zj (zB (n:=y6.length) (id:=4) (l:=y6) (R:=rS) rfl rfl (Nat.zero_le _)) (zj (zB (n:=y253.length) (id:=5) (l:=y253) (R:=za) rfl rfl (Nat.zero_le _)) (zj (zw) (zj (zw) (zj (zB (n:=y383.length) (id:=6) (l:=y383) (R:=zd) rfl rfl (Nat.zero_le _)) (zj (zB (n:=y406.length) (id:=7) (l:=y406) (R:=zl) rfl rfl (Nat.zero_le _)) (rfl)))))))) (zK (QI) (rfl)))) rfl hJ,rfl,rfl⟩
      refine rg (s1 2 [ad4,jS] ?_)
      obtain ⟨x417,h411,hm⟩:=bs hm
      rcases x417 with ⟨x412,x413,x414,_|x415,x416⟩
      ·obtain ⟨vv,H1,hC,rfl,rfl⟩:=zq h411
       refine dR [(adR x416)] [.box (zc13 x412 x413 x414) false,.box [.ptr 0 0] false,.box zc27 false,.box (zc56 y6 y253 x370 y383) false,bR 9 1 rS y6 0 0,bR 49 8 za y253 0 0,bR 101 9 zd y383 0 0] [0,1] [.ptr 0 0,aU 10,kT] hJ hJ hJ hC hJ (fq 6 [jE,jG,(5,aI x416)] ?_)
       exact .inl ⟨x412,x413,x414,x416,hm,rfl,rfl⟩
      obtain ⟨vv,H1,hC,rfl,rfl⟩:=zq h411
      refine dR [(65,.tup [aR 7 2 x415.length,aI x416])] [.box (zc13 x412 x413 x414) false,.box [.ptr 0 0] false,.box zc27 false,.box (zc56 y6 y253 x370 y383) false,bR 9 1 rS y6 0 0,bR 49 8 za y253 0 0,bR 101 9 zd y383 0 0,bR 86 2 zl x415 0 0] [0,1] [.ptr 0 0,aU 10,kT] hJ hJ hJ hC hJ (stf 6 [jE,jG,(5,aI x416)] [.box (zc13 x412 x413 x414) false,.box [.ptr 0 0] false,.box zc27 false,.box (zc58 y6 y253 x370 y383 x415) false,bR 9 1 rS y6 0 0,bR 49 8 za y253 0 0,bR 101 9 zd y383 0 0,bR 86 2 zl x415 0 0] hJ ?_)
      exact .inr (⟨x412,x413,x414,x415,x416,hm,rfl,rfl⟩)
     refine rg (s1 2 [aky,j4] ?_)
     obtain ⟨x424,h418,hm⟩:=bs hm
     rcases x424 with ⟨x419,x420,x421,_|x422,x423⟩
     ·obtain ⟨vv,H1,hC,rfl,rfl⟩:=zG h418
      refine dR [(aj0 x423)] [.box (zc13 x419 x420 x421) false,.box [.ptr 0 0] false,.box zc27 false,.box (zc54 y6 y253 x370) false,bR 9 1 rS y6 0 0,bR 49 8 za y253 0 0] [0,1] [.ptr 0 0,aU 10,kU] hJ hJ hJ hC hJ (fq 6 [jI,jE,jG,(5,aI x423)] ?_)
      exact .inl ⟨x419,x420,x421,x423,hm,rfl,rfl⟩
     obtain ⟨vv,H1,hC,rfl,rfl⟩:=zG h418
     refine dR [(54,.tup [aR 6 9 x422.length,aI x423])] [.box (zc13 x419 x420 x421) false,.box [.ptr 0 0] false,.box zc27 false,.box (zc54 y6 y253 x370) false,bR 9 1 rS y6 0 0,bR 49 8 za y253 0 0,bR 101 9 zd x422 0 0] [0,1] [.ptr 0 0,aU 10,kU] hJ hJ hJ hC hJ (stf 6 [jI,jE,jG,(5,aI x423)] [.box (zc13 x419 x420 x421) false,.box [.ptr 0 0] false,.box zc27 false,.box (zc56 y6 y253 x370 x422) false,bR 9 1 rS y6 0 0,bR 49 8 za y253 0 0,bR 101 9 zd x422 0 0] hJ ?_)
     exact .inr (⟨x419,x420,x421,x422,x423,hm,rfl,rfl⟩)
    subst hk379
    obtain ⟨k430,hk430,hm⟩:=zt hm
    refine mid (fun t H=>(∃ (y425:Bool) (y426:(Option (List Int))) (y427:Int) (y429:Int),k430 y425 y426 y427 none y429=some r∧t=mk 74 [jI,jE,jG,(5,aI y429)]∧H=[.box (zc13 y425 y426 y427) false,.box [.ptr 0 0] false,.box zc27 false,.box (zc55 y6 y253 x370 y378) false,bR 9 1 rS y6 0 0,bR 49 8 za y253 0 0,bR 49 8 za y378 0 0])∨(∃ (y425:Bool) (y426:(Option (List Int))) (y427:Int) (y428:js) (y429:Int),k430 y425 y426 y427 (some y428) y429=some r∧t=mk 74 [jI,jE,jG,(5,aI y429)]∧H=[.box (zc13 y425 y426 y427) false,.box [.ptr 0 0] false,.box zc27 false,.box (zc59 y6 y253 x370 y378 y428) false,bR 9 1 rS y6 0 0,bR 49 8 za y253 0 0,bR 49 8 za y378 0 0,bR 101 9 zd y428 0 0])) ?_ ?_
    ·rintro _ _ (⟨y425,y426,y427,y429,hm,rfl,rfl⟩|⟨y425,y426,y427,y428,y429,hm,rfl,rfl⟩)
     ·subst hk430
      refine sq (sq (dn [jI,jE,jG,(5,aI y429),(59,aB (y429 !=0))] ?_))
      rcases zf hm with ⟨h431,hm⟩|⟨h431,hm⟩
      ·refine c1 h431 (sq (dn [jE,(3,aI y429)] (jf ?_)))
       obtain rfl:=ji hm
       exact ⟨trivial,.tup [.agg zc30,aI y429],[.box (zc13 y425 y426 y427) false],zC (x:=.tup [.agg zc27,aI y429]) (x':=.tup [.agg zc27,aI y429]) [] hJ hJ hJ hJ rfl hJ,rfl,rfl⟩
      refine c0 h431 (jg ?_)
      obtain ⟨k437,hk437,hm⟩:=zt hm
      refine mid (fun t H=>(∃ (y432:Bool) (y433:(Option (List Int))) (y434:Int) (y436:Int),k437 y432 y433 y434 none y436=some r∧t=mk 74 [jE,jG,(5,aI y436)]∧H=[.box (zc13 y432 y433 y434) false,.box [.ptr 0 0] false,.box zc27 false,.box (zc55 y6 y253 x370 y378) false,bR 9 1 rS y6 0 0,bR 49 8 za y253 0 0,bR 49 8 za y378 0 0])∨(∃ (y432:Bool) (y433:(Option (List Int))) (y434:Int) (y435:ju) (y436:Int),k437 y432 y433 y434 (some y435) y436=some r∧t=mk 74 [jE,jG,(5,aI y436)]∧H=[.box (zc13 y432 y433 y434) false,.box [.ptr 0 0] false,.box zc27 false,.box (zc60 y6 y253 x370 y378 y435) false,bR 9 1 rS y6 0 0,bR 49 8 za y253 0 0,bR 49 8 za y378 0 0,bR 86 2 zl y435 0 0])) ?_ ?_
      ·rintro _ _ (⟨y432,y433,y434,y436,hm,rfl,rfl⟩|⟨y432,y433,y434,y435,y436,hm,rfl,rfl⟩)
       ·subst hk437
        refine sq (sq (dn [jE,jG,(5,aI y436),(70,aB (y436 !=0))] ?_))
        rcases zf hm with ⟨h438,hm⟩|⟨h438,hm⟩
        ·refine c1 h438 (sq (dn [jE,(3,aI y436)] (jf ?_)))
         obtain rfl:=ji hm
         exact ⟨trivial,.tup [.agg zc30,aI y436],[.box (zc13 y432 y433 y434) false],zC (x:=.tup [.agg zc27,aI y436]) (x':=.tup [.agg zc27,aI y436]) [] hJ hJ hJ hJ rfl hJ,rfl,rfl⟩
        refine c0 h438 (jg (sq (det [jE,kE] [.box (zc13 y432 y433 y434) false,.box [.ptr 0 0] false,.box (zc55 y6 y253 x370 y378) false,.box (zc55 y6 y253 x370 y378) false,bR 9 1 rS y6 0 0,bR 49 8 za y253 0 0,bR 49 8 za y378 0 0] hJ (jf ?_))))
        obtain rfl:=ji hm
        exact ⟨trivial,.tup [.agg [.pv (zg rS ((zb.mk (some y6) (some y253) x370 (some y378) none none).E)),.pv (zg za ((zb.mk (some y6) (some y253) x370 (some y378) none none).H)),aB ((zb.mk (some y6) (some y253) x370 (some y378) none none).F),.pv (zg za ((zb.mk (some y6) (some y253) x370 (some y378) none none).B)),.pv (zg zd ((zb.mk (some y6) (some y253) x370 (some y378) none none).C)),.pv (zg zl ((zb.mk (some y6) (some y253) x370 (some y378) none none).G))],aI 0],[.box (zc13 y432 y433 y434) false],zC (x:=.tup [.agg (zc55 y6 y253 x370 y378),aI 0]) [4,5,6] hJ hJ hJ (qC (zK (qN (zj (zB (n:=y6.length) (id:=4) (l:=y6) (R:=rS) rfl rfl (Nat.zero_le _)) (zj (zB (n:=y253.length) (id:=5) (l:=y253) (R:=za) rfl rfl (Nat.zero_le _)) (zj (zw) (zj (zB (n:=y378.length) (id:=6) (l:=y378) (R:=za) rfl rfl (Nat.zero_le _)) (zj (zw) (zj (zw) (rfl)))))))) (zK (QI) (rfl)))) rfl hJ,rfl,rfl⟩
       subst hk437
       refine sq (sq (dn [jE,jG,(5,aI y436),(70,aB (y436 !=0))] ?_))
       rcases zf hm with ⟨h439,hm⟩|⟨h439,hm⟩
       ·refine c1 h439 (sq (dn [jE,(3,aI y436)] (jf ?_)))
        obtain rfl:=ji hm
        exact ⟨trivial,.tup [.agg zc30,aI y436],[.box (zc13 y432 y433 y434) false],zC (x:=.tup [.agg zc27,aI y436]) (x':=.tup [.agg zc27,aI y436]) [] hJ hJ hJ hJ rfl hJ,rfl,rfl⟩
       refine c0 h439 (jg (sq (det [jE,kE] [.box (zc13 y432 y433 y434) false,.box [.ptr 0 0] false,.box (zc60 y6 y253 x370 y378 y435) false,.box (zc60 y6 y253 x370 y378 y435) false,bR 9 1 rS y6 0 0,bR 49 8 za y253 0 0,bR 49 8 za y378 0 0,bR 86 2 zl y435 0 0] hJ (jf ?_))))
       obtain rfl:=ji hm
       exact ⟨trivial,.tup [.agg [.pv (zg rS ((zb.mk (some y6) (some y253) x370 (some y378) none (some y435)).E)),.pv (zg za ((zb.mk (some y6) (some y253) x370 (some y378) none (some y435)).H)),aB ((zb.mk (some y6) (some y253) x370 (some y378) none (some y435)).F),.pv (zg za ((zb.mk (some y6) (some y253) x370 (some y378) none (some y435)).B)),.pv (zg zd ((zb.mk (some y6) (some y253) x370 (some y378) none (some y435)).C)),.pv (zg zl ((zb.mk (some y6) (some y253) x370 (some y378) none (some y435)).G))],aI 0],[.box (zc13 y432 y433 y434) false],zC (x:=.tup [.agg (zc60 y6 y253 x370 y378 y435),aI 0]) [4,5,6,7] hJ hJ hJ (qC (zK (qN (zj (zB (n:=y6.length) (id:=4) (l:=y6) (R:=rS) rfl rfl (Nat.zero_le _)) (zj (zB (n:=y253.length) (id:=5) (l:=y253) (R:=za) rfl rfl (Nat.zero_le _)) (zj (zw) (zj (zB (n:=y378.length) (id:=6) (l:=y378) (R:=za) rfl rfl (Nat.zero_le _)) (zj (zw) (zj (zB (n:=y435.length) (id:=7) (l:=y435) (R:=zl) rfl rfl (Nat.zero_le _)) (rfl)))))))) (zK (QI) (rfl)))) rfl hJ,rfl,rfl⟩
      refine rg (s1 2 [ad4,jS] ?_)
      obtain ⟨x446,h440,hm⟩:=bs hm
      rcases x446 with ⟨x441,x442,x443,_|x444,x445⟩
      ·obtain ⟨vv,H1,hC,rfl,rfl⟩:=zq h440
       refine dR [(adR x445)] [.box (zc13 x441 x442 x443) false,.box [.ptr 0 0] false,.box zc27 false,.box (zc55 y6 y253 x370 y378) false,bR 9 1 rS y6 0 0,bR 49 8 za y253 0 0,bR 49 8 za y378 0 0] [0,1] [.ptr 0 0,aU 10,kT] hJ hJ hJ hC hJ (fq 6 [jE,jG,(5,aI x445)] ?_)
       exact .inl ⟨x441,x442,x443,x445,hm,rfl,rfl⟩
      obtain ⟨vv,H1,hC,rfl,rfl⟩:=zq h440
      refine dR [(65,.tup [aR 7 2 x444.length,aI x445])] [.box (zc13 x441 x442 x443) false,.box [.ptr 0 0] false,.box zc27 false,.box (zc55 y6 y253 x370 y378) false,bR 9 1 rS y6 0 0,bR 49 8 za y253 0 0,bR 49 8 za y378 0 0,bR 86 2 zl x444 0 0] [0,1] [.ptr 0 0,aU 10,kT] hJ hJ hJ hC hJ (stf 6 [jE,jG,(5,aI x445)] [.box (zc13 x441 x442 x443) false,.box [.ptr 0 0] false,.box zc27 false,.box (zc60 y6 y253 x370 y378 x444) false,bR 9 1 rS y6 0 0,bR 49 8 za y253 0 0,bR 49 8 za y378 0 0,bR 86 2 zl x444 0 0] hJ ?_)
      exact .inr (⟨x441,x442,x443,x444,x445,hm,rfl,rfl⟩)
     subst hk430
     refine sq (sq (dn [jI,jE,jG,(5,aI y429),(59,aB (y429 !=0))] ?_))
     rcases zf hm with ⟨h447,hm⟩|⟨h447,hm⟩
     ·refine c1 h447 (sq (dn [jE,(3,aI y429)] (jf ?_)))
      obtain rfl:=ji hm
      exact ⟨trivial,.tup [.agg zc30,aI y429],[.box (zc13 y425 y426 y427) false],zC (x:=.tup [.agg zc27,aI y429]) (x':=.tup [.agg zc27,aI y429]) [] hJ hJ hJ hJ rfl hJ,rfl,rfl⟩
     refine c0 h447 (jg ?_)
     obtain ⟨k453,hk453,hm⟩:=zt hm
     refine mid (fun t H=>(∃ (y448:Bool) (y449:(Option (List Int))) (y450:Int) (y452:Int),k453 y448 y449 y450 none y452=some r∧t=mk 74 [jE,jG,(5,aI y452)]∧H=[.box (zc13 y448 y449 y450) false,.box [.ptr 0 0] false,.box zc27 false,.box (zc59 y6 y253 x370 y378 y428) false,bR 9 1 rS y6 0 0,bR 49 8 za y253 0 0,bR 49 8 za y378 0 0,bR 101 9 zd y428 0 0])∨(∃ (y448:Bool) (y449:(Option (List Int))) (y450:Int) (y451:ju) (y452:Int),k453 y448 y449 y450 (some y451) y452=some r∧t=mk 74 [jE,jG,(5,aI y452)]∧H=[.box (zc13 y448 y449 y450) false,.box [.ptr 0 0] false,.box zc27 false,.box (zc61 y6 y253 x370 y378 y428 y451) false,bR 9 1 rS y6 0 0,bR 49 8 za y253 0 0,bR 49 8 za y378 0 0,bR 101 9 zd y428 0 0,bR 86 2 zl y451 0 0])) ?_ ?_
     ·rintro _ _ (⟨y448,y449,y450,y452,hm,rfl,rfl⟩|⟨y448,y449,y450,y451,y452,hm,rfl,rfl⟩)
      ·subst hk453
       refine sq (sq (dn [jE,jG,(5,aI y452),(70,aB (y452 !=0))] ?_))
       rcases zf hm with ⟨h454,hm⟩|⟨h454,hm⟩
       ·refine c1 h454 (sq (dn [jE,(3,aI y452)] (jf ?_)))
        obtain rfl:=ji hm
        exact ⟨trivial,.tup [.agg zc30,aI y452],[.box (zc13 y448 y449 y450) false],zC (x:=.tup [.agg zc27,aI y452]) (x':=.tup [.agg zc27,aI y452]) [] hJ hJ hJ hJ rfl hJ,rfl,rfl⟩
       refine c0 h454 (jg (sq (det [jE,kE] [.box (zc13 y448 y449 y450) false,.box [.ptr 0 0] false,.box (zc59 y6 y253 x370 y378 y428) false,.box (zc59 y6 y253 x370 y378 y428) false,bR 9 1 rS y6 0 0,bR 49 8 za y253 0 0,bR 49 8 za y378 0 0,bR 101 9 zd y428 0 0] hJ (jf ?_))))
       obtain rfl:=ji hm
       exact ⟨trivial,.tup [.agg [.pv (zg rS ((zb.mk (some y6) (some y253) x370 (some y378) (some y428) none).E)),.pv (zg za ((zb.mk (some y6) (some y253) x370 (some y378) (some y428) none).H)),aB ((zb.mk (some y6) (some y253) x370 (some y378) (some y428) none).F),.pv (zg za ((zb.mk (some y6) (some y253) x370 (some y378) (some y428) none).B)),.pv (zg zd ((zb.mk (some y6) (some y253) x370 (some y378) (some y428) none).C)),.pv (zg zl ((zb.mk (some y6) (some y253) x370 (some y378) (some y428) none).G))],aI 0],[.box (zc13 y448 y449 y450) false],zC (x:=.tup [.agg (zc59 y6 y253 x370 y378 y428),aI 0]) [4,5,6,7] hJ hJ hJ (qC (zK (qN (zj (zB (n:=y6.length) (id:=4) (l:=y6) (R:=rS) rfl rfl (Nat.zero_le _)) (zj (zB (n:=y253.length) (id:=5) (l:=y253) (R:=za) rfl rfl (Nat.zero_le _)) (zj (zw) (zj (zB (n:=y378.length) (id:=6) (l:=y378) (R:=za) rfl rfl (Nat.zero_le _)) (zj (zB (n:=y428.length) (id:=7) (l:=y428) (R:=zd) rfl rfl (Nat.zero_le _)) (zj (zw) (rfl)))))))) (zK (QI) (rfl)))) rfl hJ,rfl,rfl⟩
      subst hk453
      refine sq (sq (dn [jE,jG,(5,aI y452),(70,aB (y452 !=0))] ?_))
      rcases zf hm with ⟨h455,hm⟩|⟨h455,hm⟩
      ·refine c1 h455 (sq (dn [jE,(3,aI y452)] (jf ?_)))
       obtain rfl:=ji hm
       exact ⟨trivial,.tup [.agg zc30,aI y452],[.box (zc13 y448 y449 y450) false],zC (x:=.tup [.agg zc27,aI y452]) (x':=.tup [.agg zc27,aI y452]) [] hJ hJ hJ hJ rfl hJ,rfl,rfl⟩
      refine c0 h455 (jg (sq (det [jE,kE] [.box (zc13 y448 y449 y450) false,.box [.ptr 0 0] false,.box (zc61 y6 y253 x370 y378 y428 y451) false,.box (zc61 y6 y253 x370 y378 y428 y451) false,bR 9 1 rS y6 0 0,bR 49 8 za y253 0 0,bR 49 8 za y378 0 0,bR 101 9 zd y428 0 0,bR 86 2 zl y451 0 0] hJ (jf ?_))))
      obtain rfl:=ji hm
      exact ⟨trivial,.tup [.agg [.pv (zg rS ((zb.mk (some y6) (some y253) x370 (some y378) (some y428) (some y451)).E)),.pv (zg za ((zb.mk (some y6) (some y253) x370 (some y378) (some y428) (some y451)).H)),aB ((zb.mk (some y6) (some y253) x370 (some y378) (some y428) (some y451)).F),.pv (zg za ((zb.mk (some y6) (some y253) x370 (some y378) (some y428) (some y451)).B)),.pv (zg zd ((zb.mk (some y6) (some y253) x370 (some y378) (some y428) (some y451)).C)),.pv (zg zl ((zb.mk (some y6) (some y253) x370 (some y378) (some y428) (some y451)).G))],aI 0],[.box (zc13 y448 y449 y450) false],zC (x:=.tup [.agg (zc61 y6 y253 x370 y378 y428 y451),aI 0]) [4,5,6,7,8] hJ hJ hJ (qC (zK (qN (zj (zB (n:=y6.length) (id:=4) (l:=y6) (R:=rS) rfl rfl (Nat.zero_le _)) (zj (zB (n:=y253.length) (id:=5) (l:=y253) (R:=za) rfl rfl (Nat.zero_le _)) (zj (zw) (zj (zB (n:=y378.length) (id:=6) (l:=y378) (R:=za) rfl rfl (Nat.zero_le _)) (zj (zB (n:=y428.length) (id:=7) (l:=y428) (R:=zd) rfl rfl (Nat.zero_le _)) (zj (zB (n:=y451.length) (id:=8) (l:=y451) (R:=zl) rfl rfl (Nat.zero_le _)) (rfl)))))))) (zK (QI) (rfl)))) rfl hJ,rfl,rfl⟩
     refine rg (s1 2 [ad4,jS] ?_)
     obtain ⟨x462,h456,hm⟩:=bs hm
     rcases x462 with ⟨x457,x458,x459,_|x460,x461⟩
     ·obtain ⟨vv,H1,hC,rfl,rfl⟩:=zq h456
      refine dR [(adR x461)] [.box (zc13 x457 x458 x459) false,.box [.ptr 0 0] false,.box zc27 false,.box (zc59 y6 y253 x370 y378 y428) false,bR 9 1 rS y6 0 0,bR 49 8 za y253 0 0,bR 49 8 za y378 0 0,bR 101 9 zd y428 0 0] [0,1] [.ptr 0 0,aU 10,kT] hJ hJ hJ hC hJ (fq 6 [jE,jG,(5,aI x461)] ?_)
      exact .inl ⟨x457,x458,x459,x461,hm,rfl,rfl⟩
     obtain ⟨vv,H1,hC,rfl,rfl⟩:=zq h456
     refine dR [(65,.tup [aR 8 2 x460.length,aI x461])] [.box (zc13 x457 x458 x459) false,.box [.ptr 0 0] false,.box zc27 false,.box (zc59 y6 y253 x370 y378 y428) false,bR 9 1 rS y6 0 0,bR 49 8 za y253 0 0,bR 49 8 za y378 0 0,bR 101 9 zd y428 0 0,bR 86 2 zl x460 0 0] [0,1] [.ptr 0 0,aU 10,kT] hJ hJ hJ hC hJ (stf 6 [jE,jG,(5,aI x461)] [.box (zc13 x457 x458 x459) false,.box [.ptr 0 0] false,.box zc27 false,.box (zc61 y6 y253 x370 y378 y428 x460) false,bR 9 1 rS y6 0 0,bR 49 8 za y253 0 0,bR 49 8 za y378 0 0,bR 101 9 zd y428 0 0,bR 86 2 zl x460 0 0] hJ ?_)
     exact .inr (⟨x457,x458,x459,x460,x461,hm,rfl,rfl⟩)
    refine rg (s1 2 [aky,j4] ?_)
    obtain ⟨x469,h463,hm⟩:=bs hm
    rcases x469 with ⟨x464,x465,x466,_|x467,x468⟩
    ·obtain ⟨vv,H1,hC,rfl,rfl⟩:=zG h463
     refine dR [(aj0 x468)] [.box (zc13 x464 x465 x466) false,.box [.ptr 0 0] false,.box zc27 false,.box (zc55 y6 y253 x370 y378) false,bR 9 1 rS y6 0 0,bR 49 8 za y253 0 0,bR 49 8 za y378 0 0] [0,1] [.ptr 0 0,aU 10,kU] hJ hJ hJ hC hJ (fq 6 [jI,jE,jG,(5,aI x468)] ?_)
     exact .inl ⟨x464,x465,x466,x468,hm,rfl,rfl⟩
    obtain ⟨vv,H1,hC,rfl,rfl⟩:=zG h463
    refine dR [(54,.tup [aR 7 9 x467.length,aI x468])] [.box (zc13 x464 x465 x466) false,.box [.ptr 0 0] false,.box zc27 false,.box (zc55 y6 y253 x370 y378) false,bR 9 1 rS y6 0 0,bR 49 8 za y253 0 0,bR 49 8 za y378 0 0,bR 101 9 zd x467 0 0] [0,1] [.ptr 0 0,aU 10,kU] hJ hJ hJ hC hJ (stf 6 [jI,jE,jG,(5,aI x468)] [.box (zc13 x464 x465 x466) false,.box [.ptr 0 0] false,.box zc27 false,.box (zc59 y6 y253 x370 y378 x467) false,bR 9 1 rS y6 0 0,bR 49 8 za y253 0 0,bR 49 8 za y378 0 0,bR 101 9 zd x467 0 0] hJ ?_)
    exact .inr (⟨x464,x465,x466,x467,x468,hm,rfl,rfl⟩)
   refine sq (rg (s1 2 [(42,kV),kb] ?_))
   obtain ⟨x476,h470,hm⟩:=bs hm
   rcases x476 with ⟨x471,x472,x473,_|x474,x475⟩
   ·obtain ⟨vv,H1,hC,rfl,rfl⟩:=zN h470
    refine dR [(43,.tup [.pv .nils,aI x475])] [.box (zc13 x471 x472 x473) false,.box [.ptr 0 0] false,.box zc27 false,.box (zc54 y6 y253 x370) false,bR 9 1 rS y6 0 0,bR 49 8 za y253 0 0] [0,1] [.ptr 0 0,aU 20,kV] hJ hJ hJ hC hJ (fq 6 [jI,jE,jG,(5,aI x475)] (sq (dn [jI,jE,jG,(5,aI x475),(48,aB (x475 !=0))] ?_)))
    rcases zf hm with ⟨h477,hm⟩|⟨h477,hm⟩
    ·refine c1 h477 (sq (dn [jE,(3,aI x475)] (jf ?_)))
     obtain rfl:=ji hm
     exact ⟨trivial,.tup [.agg zc30,aI x475],[.box (zc13 x471 x472 x473) false],zC (x:=.tup [.agg zc27,aI x475]) (x':=.tup [.agg zc27,aI x475]) [] hJ hJ hJ hJ rfl hJ,rfl,rfl⟩
    refine c0 h477 (jg ?_)
    exact .inl ⟨x471,x472,x473,aI x475,aB (x475 !=0),hm,(zH hJ),rfl⟩
   obtain ⟨vv,H1,hC,rfl,rfl⟩:=zN h470
   refine dR [(43,.tup [aR 6 8 x474.length,aI x475])] [.box (zc13 x471 x472 x473) false,.box [.ptr 0 0] false,.box zc27 false,.box (zc54 y6 y253 x370) false,bR 9 1 rS y6 0 0,bR 49 8 za y253 0 0,bR 49 8 za x474 0 0] [0,1] [.ptr 0 0,aU 20,kV] hJ hJ hJ hC hJ (stf 6 [jI,jE,jG,(5,aI x475)] [.box (zc13 x471 x472 x473) false,.box [.ptr 0 0] false,.box zc27 false,.box (zc55 y6 y253 x370 x474) false,bR 9 1 rS y6 0 0,bR 49 8 za y253 0 0,bR 49 8 za x474 0 0] hJ (sq (dn [jI,jE,jG,(5,aI x475),(48,aB (x475 !=0))] ?_)))
   rcases zf hm with ⟨h478,hm⟩|⟨h478,hm⟩
   ·refine c1 h478 (sq (dn [jE,(3,aI x475)] (jf ?_)))
    obtain rfl:=ji hm
    exact ⟨trivial,.tup [.agg zc30,aI x475],[.box (zc13 x471 x472 x473) false],zC (x:=.tup [.agg zc27,aI x475]) (x':=.tup [.agg zc27,aI x475]) [] hJ hJ hJ hJ rfl hJ,rfl,rfl⟩
   refine c0 h478 (jg ?_)
   exact .inr (⟨x471,x472,x473,x474,aI x475,aB (x475 !=0),hm,(zH hJ),rfl⟩)
  refine sq (rg (s1 2 [(21,kV),kh] ?_))
  obtain ⟨x485,h479,hm⟩:=bs hm
  rcases x485 with ⟨x480,x481,x482,_|x483,x484⟩
  ·obtain ⟨vv,H1,hC,rfl,rfl⟩:=zN h479
   refine dR [(22,.tup [.pv .nils,aI x484])] [.box (zc13 x480 x481 x482) false,.box [.ptr 0 0] false,.box zc27 false,.box (zc28 y6) false,bR 9 1 rS y6 0 0] [0,1] [.ptr 0 0,aU 40,kV] hJ hJ hJ hC hJ (fq 6 [jI,jE,jG,(5,aI x484),aaS] (sq (dn [jI,jE,jG,(5,aI x484),aaS,(27,aB (x484 !=0))] ?_)))
   rcases zf hm with ⟨h486,hm⟩|⟨h486,hm⟩
   ·refine c1 h486 (sq (dn [jE,(3,aI x484)] (jf ?_)))
    obtain rfl:=ji hm
    exact ⟨trivial,.tup [.agg zc30,aI x484],[.box (zc13 x480 x481 x482) false],zC (x:=.tup [.agg zc27,aI x484]) (x':=.tup [.agg zc27,aI x484]) [] hJ hJ hJ hJ rfl hJ,rfl,rfl⟩
   refine c0 h486 (jg ?_)
   exact .inl ⟨x480,x481,x482,aI x484,aB (x484 !=0),hm,(zH hJ),rfl⟩
  obtain ⟨vv,H1,hC,rfl,rfl⟩:=zN h479
  refine dR [(22,.tup [aR 5 8 x483.length,aI x484])] [.box (zc13 x480 x481 x482) false,.box [.ptr 0 0] false,.box zc27 false,.box (zc28 y6) false,bR 9 1 rS y6 0 0,bR 49 8 za x483 0 0] [0,1] [.ptr 0 0,aU 40,kV] hJ hJ hJ hC hJ (stf 6 [jI,jE,jG,(5,aI x484),aaS] [.box (zc13 x480 x481 x482) false,.box [.ptr 0 0] false,.box zc27 false,.box [aR 4 1 y6.length,aR 5 8 x483.length,aB false,.pv .nils,.pv .nils,.pv .nils] false,bR 9 1 rS y6 0 0,bR 49 8 za x483 0 0] hJ (sq (dn [jI,jE,jG,(5,aI x484),aaS,(27,aB (x484 !=0))] ?_)))
  rcases zf hm with ⟨h487,hm⟩|⟨h487,hm⟩
  ·refine c1 h487 (sq (dn [jE,(3,aI x484)] (jf ?_)))
   obtain rfl:=ji hm
   exact ⟨trivial,.tup [.agg zc30,aI x484],[.box (zc13 x480 x481 x482) false],zC (x:=.tup [.agg zc27,aI x484]) (x':=.tup [.agg zc27,aI x484]) [] hJ hJ hJ hJ rfl hJ,rfl,rfl⟩
  refine c0 h487 (jg ?_)
  exact .inr (⟨x480,x481,x482,x483,aI x484,aB (x484 !=0),hm,(zH hJ),rfl⟩)
 refine sq (rg (s1 2 [(10,ld),kc] ?_))
 obtain ⟨x494,h488,hm⟩:=bs hm
 rcases x494 with ⟨x489,x490,x491,_|x492,x493⟩
 ·obtain ⟨vv,H1,hC,rfl,rfl⟩:=Q7 h488
  refine dR [(11,.tup [.pv .nils,aI x493])] [.box (zc13 x489 x490 x491) false,.box [.ptr 0 0] false,.box zc27 false,.box zc27 false] [0,1] [.ptr 0 0,aU 12,ld] hJ hJ hJ hC hJ (fq 6 [jI,jE,jG,(5,aI x493),aaS] (sq (dn [jI,jE,jG,(5,aI x493),aaS,(16,aB (x493 !=0))] ?_)))
  rcases zf hm with ⟨h495,hm⟩|⟨h495,hm⟩
  ·refine c1 h495 (sq (dn [jE,(3,aI x493)] (jf ?_)))
   obtain rfl:=ji hm
   exact ⟨trivial,.tup [.agg zc30,aI x493],[.box (zc13 x489 x490 x491) false],zC (x:=.tup [.agg zc27,aI x493]) (x':=.tup [.agg zc27,aI x493]) [] hJ hJ hJ hJ rfl hJ,rfl,rfl⟩
  refine c0 h495 (jg ?_)
  exact .inl ⟨x489,x490,x491,aI x493,aB (x493 !=0),hm,(zH hJ),rfl⟩
 obtain ⟨vv,H1,hC,rfl,rfl⟩:=Q7 h488
 refine dR [(11,.tup [aR 4 1 x492.length,aI x493])] [.box (zc13 x489 x490 x491) false,.box [.ptr 0 0] false,.box zc27 false,.box zc27 false,bR 9 1 rS x492 0 0] [0,1] [.ptr 0 0,aU 12,ld] hJ hJ hJ hC hJ (stf 6 [jI,jE,jG,(5,aI x493),aaS] [.box (zc13 x489 x490 x491) false,.box [.ptr 0 0] false,.box zc27 false,.box (zc28 x492) false,bR 9 1 rS x492 0 0] hJ (sq (dn [jI,jE,jG,(5,aI x493),aaS,(16,aB (x493 !=0))] ?_)))
 rcases zf hm with ⟨h496,hm⟩|⟨h496,hm⟩
 ·refine c1 h496 (sq (dn [jE,(3,aI x493)] (jf ?_)))
  obtain rfl:=ji hm
  exact ⟨trivial,.tup [.agg zc30,aI x493],[.box (zc13 x489 x490 x491) false],zC (x:=.tup [.agg zc27,aI x493]) (x':=.tup [.agg zc27,aI x493]) [] hJ hJ hJ hJ rfl hJ,rfl,rfl⟩
 refine c0 h496 (jg ?_)
 exact .inr (⟨x489,x490,x491,x492,aI x493,aB (x493 !=0),hm,(zH hJ),rfl⟩)
abbrev akx (p0:(Option (List ByteArray))):Nat×AV:=(12,aI ((sll p0).length:Int))
theorem afR {n:Nat}{a0:(Option (List ByteArray))}{a1:(Option (List ByteArray))}{r:Bool}(hm:QN n a0 a1=some r):
   call G n 89 [.pv (zg rS a0),.pv (zg rS a1)] []=some (.ret (aB r),[]):=by
 unfold QN at hm
 obtain ⟨n,rfl,h0⟩:=zu hm
 replace hm:=h0;clear h0
 refine Z2 26 [(zp91 a0),(aeZ a1)] func89 rfl hJ (sq (dn [(zp91 a0),(aeZ a1)] ?_))
 refine sq (sq (rg (s1 1 [(6,.pv (zg rS a0))] (dv 7 (v:=aI ((sll a0).length:Int)) (zP rS a0 t22 hJ) hJ (s1 1 [(zp93 a1)] (dv 9 (v:=aI ((sll a1).length:Int)) (zP rS a1 t22 hJ) hJ (fq 1 [(zp91 a0),(aeZ a1),(10,aB (((sll a0).length:Int)!=((sll a1).length:Int)))] ?_)))))))
 rcases zf hm with ⟨h1,hm⟩|⟨h1,hm⟩
 ·refine c1 h1 (sq (dn [kL] (jf ?_)))
  cases hm;exact hM
 refine c0 h1 (jg ?_)
 obtain ⟨k4,hk4,hm⟩:=zt hm
 refine mid (fun t H=>(∃ (y2:Int) (y3:Bool),k4 ()=some r∧t=mk 26 [(zp91 a0),(aeZ a1),(akx a0),(13,aI y2),(14,aB y3)]∧H=[])) ?_ ?_
 ·rintro _ _ ⟨y2,y3,hm,rfl,rfl⟩
  subst hk4
  refine sq (dn [kS] (jf ?_))
  cases hm;exact hM
 refine sq (rg (s1 1 [(11,.pv (zg rS a0))] (dv 12 (v:=aI ((sll a0).length:Int)) (zP rS a0 t22 hJ) hJ (fq 1 [(zp91 a0),(aeZ a1),(akx a0),(13,aI 0)] (bq ?_)))))
 refine qB (fun mm t H=>(∃ (y6:Int),ZL n a0 a1 k4 mm y6=some r∧t=mk 26 [(zp91 a0),(aeZ a1),(akx a0),(13,aI y6)]∧H=[])) (⟨0,hm,rfl,rfl⟩) ?_ ?_
 ·
   rintro _ _ ⟨y6,hm,_⟩;exact nomatch hm
 rintro m7 _ _ ⟨y6,hm,rfl,rfl⟩
 simp only [ZL] at hm
 refine sq (dn [(zp91 a0),(aeZ a1),(akx a0),(13,aI y6),(14,aB (akm y6 a0))] ?_)
 refine sq ?_
 rcases zf hm with ⟨h8,hm⟩|⟨h8,hm⟩
 ·refine c1 h8 (jg (sq (bq (sq (dn [(zp91 a0),(aeZ a1),(5,aI y6),(akx a0),(13,aI y6)] (sq (rgd (shd 2 [(17,aI y6),(16,.pv (zg rS a0))] hJ ?_))))))))
  obtain ⟨x9,h10,hm⟩:=bs hm
  refine dvd 18 (v:=.pv (.ptr (rS x9) 0)) (qo rS a0 .i64 t22 t9 h10 rfl hJ) hJ (shd 3 [(21,aI y6),(20,.pv (zg rS a1)),(19,aS x9)] hJ ?_)
  obtain ⟨x11,h12,hm⟩:=bs hm
  refine dvd 22 (v:=.pv (.ptr (rS x11) 0)) (qo rS a1 .i64 t22 t9 h12 rfl hJ) hJ (shd 2 [(24,aB (!(sEq x9 x11))),(23,aS x11)] hJ (find [(zp91 a0),(aeZ a1),(akx a0),(13,aI y6),(24,aB (!(sEq x9 x11)))] rfl hJ hJ ?_))
  rcases zf hm with ⟨h13,hm⟩|⟨h13,hm⟩
  ·refine c1 h13 (sq (dn [kL] (jf ?_)))
   cases hm;exact hM
  refine c0 h13 (jg (dn [(zp91 a0),(aeZ a1),(akx a0),(13,aI (Zk y6))] ?_))
  exact ⟨_,_,ZD [(zp91 a0),(aeZ a1),(akx a0),(13,aI (Zk y6))] [] hJ,⟨(Zk y6),hm,rfl,rfl⟩⟩
 refine c0 h8 (jh ?_)
 exact ⟨y6,(akm y6 a0),hm,rfl,rfl⟩
theorem afw {n:Nat}{a0:Int}{r:Bool}(hm:acj n a0=some r):
  call G n 252 [aI a0] []=some (.ret (aB r),[]):=by
 unfold acj at hm
 obtain ⟨n,rfl,h0⟩:=zu hm
 replace hm:=h0;clear h0
 refine Z2 6 [(0,aI a0)] func252 rfl hJ (sq (dn [(0,aI a0)] (sq (dn [(2,aB (a0 !=a0))] (jf ?_)))))
 cases hm;exact hM
theorem ah6 {n:Nat}{a0:Int}{a1:Int}{r:Int}(hm:abh n a0 a1=some r):
   call G n 234 [aI a0,aI a1] []=some (.ret (aI r),[]):=by
 unfold abh at hm
 obtain ⟨n,rfl,h0⟩:=zu hm
 replace hm:=h0;clear h0
 refine Z2 20 [(0,aI a0),(1,aI a1)] func234 rfl hJ (sq (dn [(0,aI a0),(1,aI a1)] (sq (rg (s1 1 [(7,aI a0)] ?_)))))
 obtain ⟨x1,h2,hm⟩:=bs hm
 refine dv 8 (zR hJ (afw h2) hJ hJ hJ) hJ (fq 1 [(0,aI a0),(1,aI a1),(5,aB x1)] (sq (rg (s1 1 [(9,aI a1)] ?_))))
 obtain ⟨x3,h4,hm⟩:=bs hm
 refine dv 10 (zR hJ (afw h4) hJ hJ hJ) hJ (fq 1 [(0,aI a0),(1,aI a1),(5,aB x1),(6,aB x3)] ?_)
 refine sq (sq (dn [(0,aI a0),(1,aI a1),(6,aB x3),(11,aB x1)] ?_))
 rcases zf hm with ⟨h5,hm⟩|⟨h5,hm⟩
 ·refine c1 h5 (sq (sq (dn [(12,aB x3)] ?_)))
  rcases zf hm with ⟨h6,hm⟩|⟨h6,hm⟩
  ·refine c1 h6 (sq (dn [kF] (jf ?_)))
   cases hm;exact hM
  refine c0 h6 (jg (sq (dn [(4,aI (-1))] (jf ?_))))
  cases hm;exact hM
 refine c0 h5 (jg ?_)
 refine sq (sq (dn [(0,aI a0),(1,aI a1),(13,aB x3)] ?_))
 rcases zf hm with ⟨h7,hm⟩|⟨h7,hm⟩
 ·refine c1 h7 (sq (dn [kG] (jf ?_)))
  cases hm;exact hM
 refine c0 h7 (jg (sq (sq (dn [(0,aI a0),(1,aI a1),(16,aB (decide (a0<a1)))] ?_))))
 rcases zf hm with ⟨h8,hm⟩|⟨h8,hm⟩
 ·refine c1 h8 (sq (dn [(4,aI (-1))] (jf ?_)))
  cases hm;exact hM
 refine c0 h8 (jg (sq (sq (dn [(19,aB (decide (a0>a1)))] ?_))))
 rcases zf hm with ⟨h9,hm⟩|⟨h9,hm⟩
 ·refine c1 h9 (sq (dn [kG] (jf ?_)))
  cases hm;exact hM
 refine c0 h9 (jg (sq (dn [kF] (jf ?_))))
 cases hm;exact hM
theorem akE {n:Nat}{a0:Nat}{a1:Nat}{r:Int}(hm:aea n a0 a1=some r):
   call G n 235 [aF a0,aF a1] []=some (.ret (aI r),[]):=by
 unfold aea at hm
 obtain ⟨n,rfl,h0⟩:=zu hm
 replace hm:=h0;clear h0
 refine Z2 28 [(0,aF a0),(1,aF a1)] func235 rfl hJ (sq (dn [(0,aF a0),(1,aF a1)] (sq (sq (rg (s1 1 [(7,aF a0)] ?_))))))
 obtain ⟨x1,h2,hm⟩:=bs hm
 refine dv 8 (zR hJ (aff h2) hJ hJ hJ) hJ (s1 1 [(9,aF a1)] ?_)
 obtain ⟨x3,h4,hm⟩:=bs hm
 refine dv 10 (zR hJ (aff h4) hJ hJ hJ) hJ (fq 2 [(0,aF a0),(1,aF a1),(5,aB x1),(6,aB x3)] (bq ?_))
 refine sq (rg (s1 2 [(13,aB x1),(12,aB x1)] ?_))
 refine segP x1 [13,12,5] (fun b=>[(15,aB (b&&x3)),(14,ifA b (aB x3) jb)]) 2 hJ hJ hJ (fq 1 [(0,aF a0),(1,aF a1),(5,aB x1),(6,aB x3),(11,aB (x1&&x3))] ?_)
 rcases zf hm with ⟨h5,hm⟩|⟨h5,hm⟩
 ·refine c1 h5 (sq (dn [kF] (jf ?_)))
  cases hm;exact hM
 refine c0 h5 (sq (dn [(0,aF a0),(1,aF a1),(6,aB x3),(16,aB x1)] ?_))
 rcases zf hm with ⟨h6,hm⟩|⟨h6,hm⟩
 ·refine c1 h6 (sq (dn [kG] (jf ?_)))
  cases hm;exact hM
 refine c0 h6 (sq (dn [(0,aF a0),(1,aF a1),(18,aB x3)] ?_))
 rcases zf hm with ⟨h7,hm⟩|⟨h7,hm⟩
 ·refine c1 h7 (sq (dn [(4,aI (-1))] (jf ?_)))
  cases hm;exact hM
 refine c0 h7 (sq (dn [(0,aF a0),(1,aF a1),(20,aB ((FloatKind.format .f64).order a0 a1==some .lt))] ?_))
 rcases zf hm with ⟨h8,hm⟩|⟨h8,hm⟩
 ·refine c1 h8 (sq (dn [(4,aI (-1))] (jf ?_)))
  cases hm;exact hM
 refine c0 h8 (sq (dn [(24,aB ((FloatKind.format .f64).order a0 a1==some .gt))] ?_))
 rcases zf hm with ⟨h9,hm⟩|⟨h9,hm⟩
 ·refine c1 h9 (sq (dn [kG] (jf ?_)))
  cases hm;exact hM
 refine c0 h9 (jg (sq (dn [kF] (jf ?_))))
 cases hm;exact hM
theorem adY {n:Nat}{a0:ByteArray}{r:Bool}(hm:aaT n a0=some r):
  call G n 253 [aS a0] []=some (.ret (aB r),[]):=by
 unfold aaT at hm
 obtain ⟨n,rfl,h0⟩:=zu hm
 replace hm:=h0;clear h0
 refine Z2 6 [(0,aS a0)] func253 rfl hJ (sq (dn [(0,aS a0)] (sq (dn [(2,aB (!(sEq a0 a0)))] (jf ?_)))))
 cases hm;exact hM
theorem ago {n:Nat}{a0:ByteArray}{a1:ByteArray}{r:Int}(hm:Q5 n a0 a1=some r):
   call G n 236 [aS a0,aS a1] []=some (.ret (aI r),[]):=by
 unfold Q5 at hm
 obtain ⟨n,rfl,h0⟩:=zu hm
 replace hm:=h0;clear h0
 refine Z2 20 [(0,aS a0),(1,aS a1)] func236 rfl hJ (sq (dn [(0,aS a0),(1,aS a1)] (sq (rg (s1 1 [(7,aS a0)] ?_)))))
 obtain ⟨x1,h2,hm⟩:=bs hm
 refine dv 8 (zR hJ (adY h2) hJ hJ hJ) hJ (fq 1 [(0,aS a0),(1,aS a1),(5,aB x1)] (sq (rg (s1 1 [(9,aS a1)] ?_))))
 obtain ⟨x3,h4,hm⟩:=bs hm
 refine dv 10 (zR hJ (adY h4) hJ hJ hJ) hJ (fq 1 [(0,aS a0),(1,aS a1),(5,aB x1),(6,aB x3)] ?_)
 refine sq (sq (dn [(0,aS a0),(1,aS a1),(6,aB x3),(11,aB x1)] ?_))
 rcases zf hm with ⟨h5,hm⟩|⟨h5,hm⟩
 ·refine c1 h5 (sq (sq (dn [(12,aB x3)] ?_)))
  rcases zf hm with ⟨h6,hm⟩|⟨h6,hm⟩
  ·refine c1 h6 (sq (dn [kF] (jf ?_)))
   cases hm;exact hM
  refine c0 h6 (jg (sq (dn [(4,aI (-1))] (jf ?_))))
  cases hm;exact hM
 refine c0 h5 (jg ?_)
 refine sq (sq (dn [(0,aS a0),(1,aS a1),(13,aB x3)] ?_))
 rcases zf hm with ⟨h7,hm⟩|⟨h7,hm⟩
 ·refine c1 h7 (sq (dn [kG] (jf ?_)))
  cases hm;exact hM
 refine c0 h7 (jg (sq (sq (dn [(0,aS a0),(1,aS a1),(16,aB (sLt a0 a1))] ?_))))
 rcases zf hm with ⟨h8,hm⟩|⟨h8,hm⟩
 ·refine c1 h8 (sq (dn [(4,aI (-1))] (jf ?_)))
  cases hm;exact hM
 refine c0 h8 (jg (sq (sq (dn [(19,aB (!(sLt a0 a1||sEq a0 a1)))] ?_))))
 rcases zf hm with ⟨h9,hm⟩|⟨h9,hm⟩
 ·refine c1 h9 (sq (dn [kG] (jf ?_)))
  cases hm;exact hM
 refine c0 h9 (jg (sq (dn [kF] (jf ?_))))
 cases hm;exact hM
theorem aeu {n:Nat}{a0:Int}{r:Bool}(hm:abd n a0=some r):
  call G n 254 [aI a0] []=some (.ret (aB r),[]):=by
 unfold abd at hm
 obtain ⟨n,rfl,h0⟩:=zu hm
 replace hm:=h0;clear h0
 refine Z2 6 [(0,aI a0)] func254 rfl hJ (sq (dn [(0,aI a0)] (sq (dn [(2,aB (a0 !=a0))] (jf ?_)))))
 cases hm;exact hM
theorem ag9 {n:Nat}{a0:Int}{a1:Int}{r:Int}(hm:aaz n a0 a1=some r):
   call G n 237 [aI a0,aI a1] []=some (.ret (aI r),[]):=by
 unfold aaz at hm
 obtain ⟨n,rfl,h0⟩:=zu hm
 replace hm:=h0;clear h0
 refine Z2 20 [(0,aI a0),(1,aI a1)] func237 rfl hJ (sq (dn [(0,aI a0),(1,aI a1)] (sq (rg (s1 1 [(7,aI a0)] ?_)))))
 obtain ⟨x1,h2,hm⟩:=bs hm
 refine dv 8 (zR hJ (aeu h2) hJ hJ hJ) hJ (fq 1 [(0,aI a0),(1,aI a1),(5,aB x1)] (sq (rg (s1 1 [(9,aI a1)] ?_))))
 obtain ⟨x3,h4,hm⟩:=bs hm
 refine dv 10 (zR hJ (aeu h4) hJ hJ hJ) hJ (fq 1 [(0,aI a0),(1,aI a1),(5,aB x1),(6,aB x3)] ?_)
 refine sq (sq (dn [(0,aI a0),(1,aI a1),(6,aB x3),(11,aB x1)] ?_))
 rcases zf hm with ⟨h5,hm⟩|⟨h5,hm⟩
 ·refine c1 h5 (sq (sq (dn [(12,aB x3)] ?_)))
  rcases zf hm with ⟨h6,hm⟩|⟨h6,hm⟩
  ·refine c1 h6 (sq (dn [kF] (jf ?_)))
   cases hm;exact hM
  refine c0 h6 (jg (sq (dn [(4,aI (-1))] (jf ?_))))
  cases hm;exact hM
 refine c0 h5 (jg ?_)
 refine sq (sq (dn [(0,aI a0),(1,aI a1),(13,aB x3)] ?_))
 rcases zf hm with ⟨h7,hm⟩|⟨h7,hm⟩
 ·refine c1 h7 (sq (dn [kG] (jf ?_)))
  cases hm;exact hM
 refine c0 h7 (jg (sq (sq (dn [(0,aI a0),(1,aI a1),(16,aB (decide (a0<a1)))] ?_))))
 rcases zf hm with ⟨h8,hm⟩|⟨h8,hm⟩
 ·refine c1 h8 (sq (dn [(4,aI (-1))] (jf ?_)))
  cases hm;exact hM
 refine c0 h8 (jg (sq (sq (dn [(19,aB (decide (a0>a1)))] ?_))))
 rcases zf hm with ⟨h9,hm⟩|⟨h9,hm⟩
 ·refine c1 h9 (sq (dn [kG] (jf ?_)))
  cases hm;exact hM
 refine c0 h9 (jg (sq (dn [kF] (jf ?_))))
 cases hm;exact hM
theorem anN {n:Nat}{a0:zp}{a1:zp}{r:Int}(hm:afD n a0 a1=some r):
   call G n 195 [.agg (zc5 a0),.agg (zc5 a1)] []=some (.ret (aI r),[]):=by
 unfold afD at hm
 obtain ⟨n,rfl,h0⟩:=zu hm
 replace hm:=h0;clear h0
 refine Z2 40 [(0,.agg (zc5 a0)),(1,.agg (zc5 a1))] func195 rfl hJ (sq (det [jJ,jO] [.box (zc5 a0) false,.box (zc5 a1) false] hJ (sq (rgd (shd 1 [(5,.agg (zc5 a0))] hJ ?_)))))
 obtain ⟨x1,h2,hm⟩:=bs hm
 refine dvd 6 (zR hJ (aeJ h2) hJ hJ hJ) hJ (shd 1 [(7,.agg (zc5 a1))] hJ ?_)
 obtain ⟨x3,h4,hm⟩:=bs hm
 refine dvd 8 (zR hJ (aeJ h4) hJ hJ hJ) hJ (std 2 [] [.box (zc5 x1) false,.box (zc5 x3) false] hJ (find [jJ,jO] rfl hJ hJ ?_))
 refine sq (sq (dn [jJ,jO,(13,aB (x1.A !=x3.A))] ?_))
 rcases zf hm with ⟨h5,hm⟩|⟨h5,hm⟩
 ·refine c1 h5 (sq (rg (s1 4 [(17,aI x3.A),(16,.ptr 1 0),(15,aI x1.A),j8] ?_)))
  obtain ⟨x6,h7,hm⟩:=bs hm
  refine dv 18 (zR hJ (ah6 h7) hJ hJ hJ) hJ (fq 1 [(4,aI x6)] (jf ?_))
  cases hm;exact hM
 refine c0 h5 (jg (sq (sq (dn [jJ,jO,(20,aI x1.A)] (bq (sq (dn [jJ,jO,(20,aI x1.A),(21,aB (x1.A==3))] ?_)))))))
 rcases zf hm with ⟨h8,hm⟩|⟨h8,hm⟩
 ·refine c1 h8 (sq (rg (s1 4 [(26,aF x3.O),(25,.ptr 1 2),(24,aF x1.O),(23,.ptr 0 2)] ?_)))
  obtain ⟨x9,h10,hm⟩:=bs hm
  refine dv 27 (zR hJ (akE h10) hJ hJ hJ) hJ (fq 1 [(4,aI x9)] (jf ?_))
  cases hm;exact hM
 refine c0 h8 (sq (dn [jJ,jO,(28,aB (x1.A==4))] ?_))
 rcases zf hm with ⟨h11,hm⟩|⟨h11,hm⟩
 ·refine c1 h11 (sq (rg (s1 4 [(33,aS x3.L),(32,.ptr 1 3),(31,aS x1.L),(30,.ptr 0 3)] ?_)))
  obtain ⟨x12,h13,hm⟩:=bs hm
  refine dv 34 (zR hJ (ago h13) hJ hJ hJ) hJ (fq 1 [(4,aI x12)] (jf ?_))
  cases hm;exact hM
 refine c0 h11 (jg (sq (rg (s1 4 [(38,aI x3.J),(37,.ptr 1 1),(36,aI x1.J),(35,.ptr 0 1)] ?_))))
 obtain ⟨x14,h15,hm⟩:=bs hm
 refine dv 39 (zR hJ (ag9 h15) hJ hJ hJ) hJ (fq 1 [(4,aI x14)] (jf ?_))
 cases hm;exact hM
theorem amp {n:Nat}{a0:zp}{a1:zp}{r:Bool}(hm:aer n a0 a1=some r):
  call G n 155 [.agg (zc5 a0),.agg (zc5 a1)] []=some (.ret (aB r),[]):=by
 unfold aer at hm
 obtain ⟨n,rfl,h0⟩:=zu hm
 replace hm:=h0;clear h0
 refine Z2 9 [(0,.agg (zc5 a0)),(1,.agg (zc5 a1))] func155 rfl hJ (sq (det [jJ,jO] [.box (zc5 a0) false,.box (zc5 a1) false] hJ (sq (rg (s1 2 [(6,.agg (zc5 a1)),(5,.agg (zc5 a0))] ?_)))))
 obtain ⟨x1,h2,hm⟩:=bs hm
 refine dv 7 (zR hJ (anN h2) hJ hJ hJ) hJ (fq 2 [(4,aB (x1==0))] (jf ?_))
 cases hm;exact hM
theorem aiO {rc_slices_EqualFunc_Expr_expr_Same:(Nat→jo→jo→Option (Bool))}(ih_slices_EqualFunc_Expr_expr_Same:∀ {n:Nat}{a0:jo}{a1:jo}{r:Bool}(hm:rc_slices_EqualFunc_Expr_expr_Same n a0 a1=some r),call G n 90 [.pv (zg za a0),.pv (zg za a1),.pv (.fn 88 [] [])] []=some (.ret (aB r),[])) {n:Nat}{a0:zk}{a1:zk}{r:Bool}(hm:aaQ rc_slices_EqualFunc_Expr_expr_Same n a0 a1=some r):
   call G n 88 [.agg (zc6 a0),.agg (zc6 a1)] []=some (.ret (aB r),[]):=by
 unfold aaQ at hm
 obtain ⟨n,rfl,h0⟩:=zu hm
 replace hm:=h0;clear h0
 refine Z2 47 [(0,.agg (zc6 a0)),(1,.agg (zc6 a1))] func88 rfl hJ (sq (det [jJ,jO] [.box (zc6 a0) false,.box (zc6 a1) false] hJ (sq (rg (s1 6 [(10,aB (a0.A==a1.A)),(9,aB (a0.A==a1.A)),(8,aI a1.A),(7,.ptr 1 0),(6,aI a0.A),(5,.ptr 0 0)] ?_)))))
 refine segP (a0.A==a1.A) [10,9] (fun b=>[(16,aB (b&&(a0.K==a1.K))),(15,ifA b (aB (a0.K==a1.K)) jb),(14,ifA b (aI a1.K) jb),(13,ifA b (.ptr 1 1) jb),(12,ifA b (aI a0.K) jb),(11,ifA b (.ptr 0 1) jb)]) 6 hJ hJ hJ (s1 1 [(17,aB ((a0.A==a1.A)&&(a0.K==a1.K)))] ?_)
 refine segP ((a0.A==a1.A)&&(a0.K==a1.K)) [17,16] (fun b=>[(23,aB (b&&(a0.M==a1.M))),(22,ifA b (aB (a0.M==a1.M)) jb),(21,ifA b (aI a1.M) jb),(20,ifA b (.ptr 1 2) jb),(19,ifA b (aI a0.M) jb),(18,ifA b (.ptr 0 2) jb)]) 6 hJ hJ hJ (s1 1 [(24,aB (((a0.A==a1.A)&&(a0.K==a1.K))&&(a0.M==a1.M)))] ?_)
 refine segP (((a0.A==a1.A)&&(a0.K==a1.K))&&(a0.M==a1.M)) [24,23] (fun b=>[(32,aB (b&&(a0.D.A==a1.D.A))),(31,ifA b (aB (a0.D.A==a1.D.A)) jb),(30,ifA b (aI a1.D.A) jb),(29,ifA b (.ptr 1 3) jb),(28,ifA b (.ptr 1 3) jb),(27,ifA b (aI a0.D.A) jb),(26,ifA b (.ptr 0 3) jb),(25,ifA b (.ptr 0 3) jb)]) 8 hJ hJ hJ (s1 1 [(33,aB ((((a0.A==a1.A)&&(a0.K==a1.K))&&(a0.M==a1.M))&&(a0.D.A==a1.D.A)))] ?_)
 rcases zf hm with ⟨h1,hm⟩|⟨h1,hm⟩
 ·refine known [33,32] h1 hJ (s1 4 [(37,.agg (zc7 a1)),(36,.ptr 1 3),(35,.agg (zc7 a0)),(34,.ptr 0 3)] ?_)
  obtain ⟨x2,h3,hm⟩:=bs hm
  refine dv 38 (zR hJ (amp h3) hJ hJ hJ) hJ (s1 2 [(40,aB x2),(39,aB x2)] ?_)
  rcases zf hm with ⟨h4,hm⟩|⟨h4,hm⟩
  ·refine known [40,39,38] h4 hJ (s1 4 [(44,.pv (zg za a1.I)),(43,.ptr 1 7),(42,.pv (zg za a0.I)),(41,.ptr 0 7)] ?_)
   obtain ⟨x5,h6,hm⟩:=bs hm
   refine dv 45 (zR hJ (ih_slices_EqualFunc_Expr_expr_Same h6) hJ hJ hJ) hJ (fq 2 [(4,aB x5)] (jf ?_))
   cases hm;exact hM
  refine known [40,39,38] h4 hJ (fq 7 [kL] (jf ?_))
  cases hm;exact hM
 refine known [33,32] h1 hJ (fq 14 [kL] (jf ?_))
 cases hm;exact hM
abbrev af9:Nat×AV:=(2,.pv (.fn 88 [] []))
abbrev ahN (p0:jo):Nat×AV:=(15,.pv (zg za p0))
abbrev aix (p0:jo):Nat×AV:=(16,aI ((sll p0).length:Int))
theorem ack {rc_slices_EqualFunc_Expr_expr_Same:(Nat→jo→jo→Option (Bool))}(ih_slices_EqualFunc_Expr_expr_Same:∀ {n:Nat}{a0:jo}{a1:jo}{r:Bool}(hm:rc_slices_EqualFunc_Expr_expr_Same n a0 a1=some r),call G n 90 [.pv (zg za a0),.pv (zg za a1),.pv (.fn 88 [] [])] []=some (.ret (aB r),[])) {n:Nat}{a0:jo}{a1:jo}{r:Bool}(hm:ZR rc_slices_EqualFunc_Expr_expr_Same n a0 a1=some r):
   call G n 90 [.pv (acK a0),.pv (acK a1),.pv (.fn 88 [] [])] []=some (.ret (aB r),[]):=by
 unfold ZR at hm
 obtain ⟨n,rfl,h0⟩:=zu hm
 replace hm:=h0;clear h0
 refine Z2 32 [(zp75 a0),(aey a1),af9] func90 rfl hJ (sq (dn [(zp75 a0),(aey a1),af9] ?_))
 refine sq (sq (rg (s1 1 [(10,.pv (acK a0))] (dv 11 (v:=aI (afn a0)) (zP za a0 t23 hJ) hJ (s1 1 [(12,.pv (acK a1))] (dv 13 (v:=aI (afn a1)) (zP za a1 t23 hJ) hJ (fq 1 [(zp75 a0),(aey a1),af9,(14,aB (((sll a0).length:Int)!=((sll a1).length:Int)))] ?_)))))))
 rcases zf hm with ⟨h1,hm⟩|⟨h1,hm⟩
 ·refine c1 h1 (sq (dn [kN] (jf ?_)))
  cases hm;exact hM
 refine c0 h1 (jg ?_)
 obtain ⟨k4,hk4,hm⟩:=zt hm
 refine mid (fun t H=>(∃ (y2:Int) (y3:Bool),k4 ()=some r∧t=mk 32 [(aey a1),af9,(ahN a0),(aix a0),(17,aI y2),(18,aB y3)]∧H=[])) ?_ ?_
 ·rintro _ _ ⟨y2,y3,hm,rfl,rfl⟩
  subst hk4
  refine sq (dn [kP] (jf ?_))
  cases hm;exact hM
 refine sq (rg (s1 1 [(ahN a0)] (dv 16 (v:=aI (afn a0)) (zP za a0 t23 hJ) hJ (fq 1 [(aey a1),af9,(ahN a0),(aix a0),(17,aI 0)] (bq ?_)))))
 refine qB (fun mm t H=>(∃ (y6:Int),zZ n rc_slices_EqualFunc_Expr_expr_Same a0 a1 k4 mm y6=some r∧t=mk 32 [(aey a1),af9,(ahN a0),(aix a0),(17,aI y6)]∧H=[])) (⟨0,hm,rfl,rfl⟩) ?_ ?_
 ·
   rintro _ _ ⟨y6,hm,_⟩;exact nomatch hm
 rintro m7 _ _ ⟨y6,hm,rfl,rfl⟩
 simp only [zZ] at hm
 refine sq (dn [(aey a1),af9,(ahN a0),(aix a0),(17,aI y6),(18,aB (adJ y6 a0))] ?_)
 refine sq ?_
 rcases zf hm with ⟨h8,hm⟩|⟨h8,hm⟩
 ·refine c1 h8 (jg (sq (bq (sq (rg (s1 1 [(19,aI y6)] ?_))))))
  obtain ⟨x9,h10,hm⟩:=bs hm
  refine dv 20 (v:=.pv (.ptr (abe x9) 0)) (aaA za a0 .i64 t23 t49 h10 (zU x9) rfl hJ) hJ (stf 4 [(aey a1),af9,(7,aI y6),jY,(ahN a0),(aix a0),(17,aI y6)] [.box (zc8 x9) false] hJ (sq (rg (s1 2 [(23,aI y6),(22,.pv (acK a1))] ?_))))
  obtain ⟨x11,h12,hm⟩:=bs hm
  refine dv 24 (v:=.pv (.ptr (abe x11) 0)) (aaA za a1 .i64 t23 t49 h12 (zU x11) rfl hJ) hJ (stf 3 [(aey a1),af9,jY,(9,.ptr 1 0),(ahN a0),(aix a0),(17,aI y6)] [.box (zc8 x9) false,.box (zc8 x11) false] hJ (sq (rg (s1 3 [(28,.agg (zc8 x11)),(27,.agg (zc8 x9)),(26,.pv (.fn 88 [] []))] ?_))))
  obtain ⟨x13,h14,hm⟩:=bs hm
  refine dv 29 (zR hJ (aiO ih_slices_EqualFunc_Expr_expr_Same h14) hJ hJ hJ) hJ (fq 1 [(aey a1),af9,(ahN a0),(aix a0),(17,aI y6),(30,aB (!x13))] ?_)
  rcases zf hm with ⟨h15,hm⟩|⟨h15,hm⟩
  ·refine c1 h15 (sq (dn [kN] (jf ?_)))
   cases hm;exact hM
  refine c0 h15 (jg (dn [(aey a1),af9,(ahN a0),(aix a0),(zp84 y6)] ?_))
  exact ⟨_,_,ZD [(aey a1),af9,(ahN a0),(aix a0),(zp84 y6)] [] hJ,⟨(Zk y6),hm,rfl,rfl⟩⟩
 refine c0 h8 (jh ?_)
 exact ⟨y6,(adJ y6 a0),hm,rfl,rfl⟩
theorem QX:∀ (m:Nat),∀ {n:Nat}{a0:jo}{a1:jo}{r:Bool}(hm:Zh m n a0 a1=some r),call G n 90 [.pv (zg za a0),.pv (zg za a1),.pv (.fn 88 [] [])] []=some (.ret (aB r),[])
 |0=>by intros;rename_i hm;exact nomatch hm
 |m+1=>fun hm=>
  ack (QX m) hm
theorem qO {n:Nat}{a0:jo}{a1:jo}{r:Bool}(hm:ZK n a0 a1=some r):
 call G n 90 [.pv (acK a0),.pv (acK a1),.pv (.fn 88 [] [])] []=some (.ret (aB r),[]):=QX n hm
theorem akI {n:Nat}{a0:zm}{a1:zm}{r:Bool}(hm:ad9 n a0 a1=some r):
   call G n 87 [.agg (zc3 a0),.agg (zc3 a1)] []=some (.ret (aB r),[]):=by
 unfold ad9 at hm
 obtain ⟨n,rfl,h0⟩:=zu hm
 replace hm:=h0;clear h0
 refine Z2 17 [(0,.agg (zc3 a0)),(1,.agg (zc3 a1))] func87 rfl hJ (sq (det [jJ,jO] [.box (zc3 a0) false,.box (zc3 a1) false] hJ (sq (rg (s1 6 [(10,aB (a0.A==a1.A)),(9,aB (a0.A==a1.A)),(8,aI a1.A),(7,.ptr 1 0),(6,aI a0.A),(5,.ptr 0 0)] ?_)))))
 rcases zf hm with ⟨h1,hm⟩|⟨h1,hm⟩
 ·refine known [10,9] h1 hJ (s1 4 [(14,.agg (zc1 a1)),(13,.ptr 1 1),(12,.agg (zc1 a0)),(11,.ptr 0 1)] ?_)
  obtain ⟨x2,h3,hm⟩:=bs hm
  refine dv 15 (zR hJ (aiO (fun h=>qO h) h3) hJ hJ hJ) hJ (fq 2 [(4,aB x2)] (jf ?_))
  cases hm;exact hM
 refine known [10,9] h1 hJ (fq 7 [kL] (jf ?_))
 cases hm;exact hM
abbrev agj:Nat×AV:=(2,.pv (.fn 87 [] []))
abbrev ah0 (p0:jr):Nat×AV:=(15,.pv (zg zd p0))
abbrev ajd (p0:jr):Nat×AV:=(16,aI ((sll p0).length:Int))
theorem ab5 {n:Nat}{a0:jr}{a1:jr}{r:Bool}(hm:ZS n a0 a1=some r):
   call G n 91 [.pv (zg zd a0),.pv (zg zd a1),.pv (.fn 87 [] [])] []=some (.ret (aB r),[]):=by
 unfold ZS at hm
 obtain ⟨n,rfl,h0⟩:=zu hm
 replace hm:=h0;clear h0
 refine Z2 32 [(zp96 a0),(aez a1),agj] func91 rfl hJ (sq (dn [(zp96 a0),(aez a1),agj] ?_))
 refine sq (sq (rg (s1 1 [(10,.pv (zg zd a0))] (dv 11 (v:=aI ((sll a0).length:Int)) (zP zd a0 t24 hJ) hJ (s1 1 [(12,.pv (zg zd a1))] (dv 13 (v:=aI ((sll a1).length:Int)) (zP zd a1 t24 hJ) hJ (fq 1 [(zp96 a0),(aez a1),agj,(14,aB (((sll a0).length:Int)!=((sll a1).length:Int)))] ?_)))))))
 rcases zf hm with ⟨h1,hm⟩|⟨h1,hm⟩
 ·refine c1 h1 (sq (dn [kN] (jf ?_)))
  cases hm;exact hM
 refine c0 h1 (jg ?_)
 obtain ⟨k4,hk4,hm⟩:=zt hm
 refine mid (fun t H=>(∃ (y2:Int) (y3:Bool),k4 ()=some r∧t=mk 32 [(aez a1),agj,(ah0 a0),(ajd a0),(17,aI y2),(18,aB y3)]∧H=[])) ?_ ?_
 ·rintro _ _ ⟨y2,y3,hm,rfl,rfl⟩
  subst hk4
  refine sq (dn [kP] (jf ?_))
  cases hm;exact hM
 refine sq (rg (s1 1 [(ah0 a0)] (dv 16 (v:=aI ((sll a0).length:Int)) (zP zd a0 t24 hJ) hJ (fq 1 [(aez a1),agj,(ah0 a0),(ajd a0),(17,aI 0)] (bq ?_)))))
 refine qB (fun mm t H=>(∃ (y6:Int),zV n a0 a1 k4 mm y6=some r∧t=mk 32 [(aez a1),agj,(ah0 a0),(ajd a0),(17,aI y6)]∧H=[])) (⟨0,hm,rfl,rfl⟩) ?_ ?_
 ·
   rintro _ _ ⟨y6,hm,_⟩;exact nomatch hm
 rintro m7 _ _ ⟨y6,hm,rfl,rfl⟩
 simp only [zV] at hm
 refine sq (dn [(aez a1),agj,(ah0 a0),(ajd a0),(17,aI y6),(18,aB (agm y6 a0))] ?_)
 refine sq ?_
 rcases zf hm with ⟨h8,hm⟩|⟨h8,hm⟩
 ·refine c1 h8 (jg (sq (bq (sq (rg (s1 1 [(19,aI y6)] ?_))))))
  obtain ⟨x9,h10,hm⟩:=bs hm
  refine dv 20 (v:=.pv (.ptr (zd x9) 0)) (qo zd a0 .i64 t24 t101 h10 rfl hJ) hJ (stf 4 [(aez a1),agj,(7,aI y6),jY,(ah0 a0),(ajd a0),(17,aI y6)] [.box (zc3 x9) false] hJ (sq (rg (s1 2 [(23,aI y6),(22,.pv (zg zd a1))] ?_))))
  obtain ⟨x11,h12,hm⟩:=bs hm
  refine dv 24 (v:=.pv (.ptr (zd x11) 0)) (qo zd a1 .i64 t24 t101 h12 rfl hJ) hJ (stf 3 [(aez a1),agj,jY,(9,.ptr 1 0),(ah0 a0),(ajd a0),(17,aI y6)] [.box (zc3 x9) false,.box (zc3 x11) false] hJ (sq (rg (s1 3 [(28,.agg (zc3 x11)),(27,.agg (zc3 x9)),(26,.pv (.fn 87 [] []))] ?_))))
  obtain ⟨x13,h14,hm⟩:=bs hm
  refine dv 29 (zR hJ (akI h14) hJ hJ hJ) hJ (fq 1 [(aez a1),agj,(ah0 a0),(ajd a0),(17,aI y6),(30,aB (!x13))] ?_)
  rcases zf hm with ⟨h15,hm⟩|⟨h15,hm⟩
  ·refine c1 h15 (sq (dn [kN] (jf ?_)))
   cases hm;exact hM
  refine c0 h15 (jg (dn [(aez a1),agj,(ah0 a0),(ajd a0),(zp84 y6)] ?_))
  exact ⟨_,_,ZD [(aez a1),agj,(ah0 a0),(ajd a0),(zp84 y6)] [] hJ,⟨(Zk y6),hm,rfl,rfl⟩⟩
 refine c0 h8 (jh ?_)
 exact ⟨y6,(agm y6 a0),hm,rfl,rfl⟩
abbrev akh (p0:jt):Nat×AV:=(12,aI ((sll p0).length:Int))
theorem ahG {n:Nat}{a0:jt}{a1:jt}{r:Bool}(hm:aaK n a0 a1=some r):
   call G n 92 [.pv (zg zl a0),.pv (zg zl a1)] []=some (.ret (aB r),[]):=by
 unfold aaK at hm
 obtain ⟨n,rfl,h0⟩:=zu hm
 replace hm:=h0;clear h0
 refine Z2 26 [(zp99 a0),(ae0 a1)] func92 rfl hJ (sq (dn [(zp99 a0),(ae0 a1)] ?_))
 refine sq (sq (rg (s1 1 [(6,.pv (zg zl a0))] (dv 7 (v:=aI ((sll a0).length:Int)) (zP zl a0 t25 hJ) hJ (s1 1 [(8,.pv (zg zl a1))] (dv 9 (v:=aI ((sll a1).length:Int)) (zP zl a1 t25 hJ) hJ (fq 1 [(zp99 a0),(ae0 a1),(10,aB (((sll a0).length:Int)!=((sll a1).length:Int)))] ?_)))))))
 rcases zf hm with ⟨h1,hm⟩|⟨h1,hm⟩
 ·refine c1 h1 (sq (dn [kL] (jf ?_)))
  cases hm;exact hM
 refine c0 h1 (jg ?_)
 obtain ⟨k4,hk4,hm⟩:=zt hm
 refine mid (fun t H=>(∃ (y2:Int) (y3:Bool),k4 ()=some r∧t=mk 26 [(zp99 a0),(ae0 a1),(akh a0),(13,aI y2),(14,aB y3)]∧H=[])) ?_ ?_
 ·rintro _ _ ⟨y2,y3,hm,rfl,rfl⟩
  subst hk4
  refine sq (dn [kS] (jf ?_))
  cases hm;exact hM
 refine sq (rg (s1 1 [(11,.pv (zg zl a0))] (dv 12 (v:=aI ((sll a0).length:Int)) (zP zl a0 t25 hJ) hJ (fq 1 [(zp99 a0),(ae0 a1),(akh a0),(13,aI 0)] (bq ?_)))))
 refine qB (fun mm t H=>(∃ (y6:Int),Z4 n a0 a1 k4 mm y6=some r∧t=mk 26 [(zp99 a0),(ae0 a1),(akh a0),(13,aI y6)]∧H=[])) (⟨0,hm,rfl,rfl⟩) ?_ ?_
 ·
   rintro _ _ ⟨y6,hm,_⟩;exact nomatch hm
 rintro m7 _ _ ⟨y6,hm,rfl,rfl⟩
 simp only [Z4] at hm
 refine sq (dn [(zp99 a0),(ae0 a1),(akh a0),(13,aI y6),(14,aB (decide (y6<((sll a0).length:Int))))] ?_)
 refine sq ?_
 rcases zf hm with ⟨h8,hm⟩|⟨h8,hm⟩
 ·refine c1 h8 (jg (sq (bq (sq (dn [(zp99 a0),(ae0 a1),(5,aI y6),(akh a0),(13,aI y6)] (sq (rgd (shd 2 [(17,aI y6),(16,.pv (zg zl a0))] hJ ?_))))))))
  obtain ⟨x9,h10,hm⟩:=bs hm
  refine dvd 18 (v:=.pv (.ptr (zl x9) 0)) (qo zl a0 .i64 t25 t86 h10 rfl hJ) hJ (shd 3 [(21,aI y6),(20,.pv (zg zl a1)),(19,.agg [aI x9.B,aB x9.P])] hJ ?_)
  obtain ⟨x11,h12,hm⟩:=bs hm
  refine dvd 22 (v:=.pv (.ptr (zl x11) 0)) (qo zl a1 .i64 t25 t86 h12 rfl hJ) hJ (shd 2 [(24,aB (!((x9.B==x11.B)&&((x9.P==x11.P)&&true)))),(23,.agg [aI x11.B,aB x11.P])] hJ (find [(zp99 a0),(ae0 a1),(akh a0),(13,aI y6),(24,aB (!((x9.B==x11.B)&&((x9.P==x11.P)&&true))))] rfl hJ hJ ?_))
  rcases zf hm with ⟨h13,hm⟩|⟨h13,hm⟩
  ·refine c1 h13 (sq (dn [kL] (jf ?_)))
   cases hm;exact hM
  refine c0 h13 (jg (dn [(zp99 a0),(ae0 a1),(akh a0),(13,aI (Zk y6))] ?_))
  exact ⟨_,_,ZD [(zp99 a0),(ae0 a1),(akh a0),(13,aI (Zk y6))] [] hJ,⟨(Zk y6),hm,rfl,rfl⟩⟩
 refine c0 h8 (jh ?_)
 exact ⟨y6,(decide (y6<((sll a0).length:Int))),hm,rfl,rfl⟩
theorem amj {n:Nat}{a0:zb}{a1:zb}{r:Bool}(hm:aet n a0 a1=some r):
   call G n 16 [.agg (zc0 a0),.agg (zc0 a1)] []=some (.ret (aB r),[]):=by
 unfold aet at hm
 obtain ⟨n,rfl,h0⟩:=zu hm
 replace hm:=h0;clear h0
 refine Z2 47 [(0,.agg (zc0 a0)),(1,.agg (zc0 a1))] func16 rfl hJ (sq (det [jJ,jO] [.box (zc0 a0) false,.box (zc0 a1) false] hJ (sq (dn [jJ,jO,(5,.pv (.fn 87 [] []))] (sq (rg (s1 4 [(9,.pv (zg rS a1.E)),j5,(7,.pv (zg rS a0.E)),j6] ?_)))))))
 obtain ⟨x1,h2,hm⟩:=bs hm
 refine dv 10 (zR hJ (afR h2) hJ hJ hJ) hJ (s1 1 [(11,aB x1)] ?_)
 rcases zf hm with ⟨h3,hm⟩|⟨h3,hm⟩
 ·refine known [11,10] h3 hJ (s1 4 [(15,.pv (ahl a1)),(14,.ptr 1 1),(13,.pv (ahl a0)),(12,.ptr 0 1)] ?_)
  obtain ⟨x4,h5,hm⟩:=bs hm
  refine dv 16 (zR hJ (qO h5) hJ hJ hJ) hJ (s1 2 [(18,aB x4),(17,aB x4)] ?_)
  refine segP x4 [18,17,16] (fun b=>[(24,aB (b&&(a0.F==a1.F))),(23,ifA b (aB (a0.F==a1.F)) jb),(22,ifA b (aB a1.F) jb),(21,ifA b (.ptr 1 2) jb),(20,ifA b (aB a0.F) jb),(19,ifA b (.ptr 0 2) jb)]) 6 hJ hJ hJ (s1 1 [(25,aB (x4&&(a0.F==a1.F)))] ?_)
  rcases zf hm with ⟨h6,hm⟩|⟨h6,hm⟩
  ·refine known [25,24] h6 hJ (s1 4 [(29,.pv (abu a1)),(28,.ptr 1 3),(27,.pv (abu a0)),(26,.ptr 0 3)] ?_)
   obtain ⟨x7,h8,hm⟩:=bs hm
   refine dv 30 (zR hJ (qO h8) hJ hJ hJ) hJ (s1 2 [(32,aB x7),(31,aB x7)] ?_)
   rcases zf hm with ⟨h9,hm⟩|⟨h9,hm⟩
   ·refine known [32,31,30] h9 hJ (s1 5 [(37,.pv (.fn 87 [] [])),(36,.pv (acL a1)),(35,.ptr 1 4),(34,.pv (acL a0)),(33,.ptr 0 4)] ?_)
    obtain ⟨x10,h11,hm⟩:=bs hm
    refine dv 38 (zR hJ (ab5 h11) hJ hJ hJ) hJ (s1 2 [(40,aB x10),(39,aB x10)] ?_)
    rcases zf hm with ⟨h12,hm⟩|⟨h12,hm⟩
    ·refine known [40,39,38] h12 hJ (s1 4 [(44,.pv (aeA a1)),(43,.ptr 1 5),(42,.pv (aeA a0)),(41,.ptr 0 5)] ?_)
     obtain ⟨x13,h14,hm⟩:=bs hm
     refine dv 45 (zR hJ (ahG h14) hJ hJ hJ) hJ (fq 2 [(4,aB x13)] (jf ?_))
     cases hm;exact hM
    refine known [40,39,38] h12 hJ (fq 7 [kL] (jf ?_))
    cases hm;exact hM
   refine known [32,31,30] h9 hJ (fq 15 [kL] (jf ?_))
   cases hm;exact hM
  refine known [25,24] h6 hJ (fq 22 [kL] (jf ?_))
  cases hm;exact hM
 refine known [11,10] h3 hJ (fq 36 [kL] (jf ?_))
 cases hm;exact hM
theorem agT {n:Nat}{a0:zi}{r:Int}(hm:aar n a0=some r):
   ∃ vv H1,call G n 17 [.ptr 0 0] [.box (zc12 a0) false]=some (.ret vv,H1)∧(match (generalizing:=false) r with|r0=>(vv=aI r0∧H1=[.box (zc12 a0) false])):=by
 unfold aar at hm
 obtain ⟨n,rfl,h0⟩:=zu hm
 replace hm:=h0;clear h0
 refine ZJ 11 [jF] func17 rfl hJ (sq (dn [jF] (sq (sq (rg (s1 1 [jL] ?_))))))
 obtain ⟨_,h1,hm⟩:=bs hm
 obtain ⟨vv,H1,hC,rfl,rfl⟩:=Qn h1
 refine dR [(4,aB (aiX a0))] [.box (zc12 a0) false] [0] [.ptr 0 0] hJ hJ hJ hC hJ (fq 1 [jF,(5,aB (!(aiX a0)))] ?_)
 rcases zf hm with ⟨h2,hm⟩|⟨h2,hm⟩
 ·refine c1 h2 (sq (dn [(2,aI 0)] (jf ?_)))
  obtain rfl:=ji hm
  exact ⟨trivial,aI 0,[.box (zc12 a0) false],hJ,rfl,rfl⟩
 refine c0 h2 (jg (sq (rg (s1 4 [(9,.pv (zg (rI .u8) a0.fb)),(8,.ptr 0 1),(7,.ptr 0 0),j6] (dv 10 (v:=aI ((sll a0.fb).length:Int)) (zP (rI .u8) a0.fb t29 hJ) hJ (fq 1 [(2,aI ((sll a0.fb).length:Int))] (jf ?_)))))))
 obtain rfl:=ji hm
 exact ⟨trivial,aI ((sll a0.fb).length:Int),[.box (zc12 a0) false],hJ,rfl,rfl⟩
theorem afN {n:Nat}{a0:(Option (List ByteArray))}{r:(Option (List ByteArray))}(hm:QM n a0=some r):
   call G n 94 [.pv (zg rS a0)] []=some (.ret (.pv (zg rS r)),[]):=by
 unfold QM at hm
 obtain ⟨n,rfl,h0⟩:=zu hm
 replace hm:=h0;clear h0
 refine Z2 8 [(zp91 a0)] func94 rfl hJ (sq (dn [(zp91 a0)] (sq (sq (rg (s1 1 [(3,.pv (zg rS a0))] (dv 4 (v:=aB (a0.isNone)) (alQ rS a0 t22 hJ) hJ (fin [(zp91 a0),(4,aB (a0.isNone))] rfl hJ ?_))))))))
 rcases zf hm with ⟨h1,hm⟩|⟨h1,hm⟩
 ·refine c1 h1 (sq (dn [kD] (jf ?_)))
  cases hm;exact hM
 refine c0 h1 (jg (sq (rg (st 2 [(6,.pv (zg rS a0)),(5,aR 0 1 0)] [bR 9 1 rS ([]:List ByteArray) 0 0] hJ ?_))))
 rcases zf hm with ⟨h2,hm⟩|⟨h2,hm⟩
 ·obtain ⟨_,h3,hm⟩:=bs hm
  refine dv 7 (v:=aR 0 1 0) (afG (u:=0) (y:=.pv (zg rS a0)) (n:=0) (id:=0) rS ([]:List ByteArray) (sll a0) (b:=16) t22 t9 rfl rfl rfl h2 h3 rfl hX (Nat.zero_le _) (afP (R:=rS) (s:=a0)) hJ) hJ (fq 1 [(2,aR 0 1 0)] (jf ?_))
  obtain rfl:=ji hm
  exact ace (v:=aR 0 1 0) trivial rfl hJ hJ
 obtain ⟨_,h4,hm⟩:=bs hm
 refine dO [(7,aR 0 1 ((([]:List ByteArray)++(sll a0)).length))] [bR 9 1 rS (([]:List ByteArray)++(sll a0)) 0 0] (ZF (u:=0) (n:=0) (id:=0) rS ([]:List ByteArray) (sll a0) (b:=16) t22 t9 rfl rfl rfl (fun _=>rfl) h2 h4 rfl hX (Nat.zero_le _) (afP (R:=rS) (s:=a0)) hJ) hJ (fq 1 [(2,aR 0 1 ((([]:List ByteArray)++(sll a0)).length))] (jf ?_))
 obtain rfl:=ji hm
 exact ace (v:=aR 0 1 ((([]:List ByteArray)++(sll a0)).length)) trivial rfl hJ (agU (zB (n:=(([]:List ByteArray)++(sll a0)).length) (id:=0) (l:=(([]:List ByteArray)++(sll a0))) (R:=rS) rfl rfl (Nat.zero_le _)))
abbrev zc62 (p0:zk):List AV:=[aI p0.A,aI p0.K,aI p0.M,aI p0.D.A,aI p0.D.J,aF p0.D.O,aS p0.D.L,.pv .nils]
abbrev zc63 (p0:zk) (p1:jq):List AV:=[aI p0.A,aI p0.K,aI p0.M,aI p0.D.A,aI p0.D.J,aF p0.D.O,aS p0.D.L,aR 2 8 p1.length]
abbrev acm (p0:zk):=([(zy p0)]:List zc)
abbrev alD (p0:zk):=(([(zy p0)]:List zc).length)
abbrev aqh (p0:zk):=(([(zy p0)]:List zc).map za)
abbrev alp (p0:jq) (p1:zk):=((p0++([(zy p1)]:List zc)).length)
abbrev al4 (p0:jq) (p1:zk):=(p0++([(zy p1)]:List zc))
theorem amo {rc_expr_Copy:(Nat→zk→Option (zk))}(ih_expr_Copy:∀ {n:Nat}{a0:zk}{r:zk}(hm:rc_expr_Copy n a0=some r),call G n 97 [.agg [aI a0.A,aI a0.K,aI a0.M,aI a0.D.A,aI a0.D.J,aF a0.D.O,aS a0.D.L,.pv (zg za a0.I)]] []=some (.ret (.agg [aI r.A,aI r.K,aI r.M,aI r.D.A,aI r.D.J,aF r.D.O,aS r.D.L,.pv (zg za r.I)]),[])) {n:Nat}{a0:zk}{r:zk}(hm:ady rc_expr_Copy n a0=some r):
   call G n 97 [.agg (zc6 a0)] []=some (.ret (.agg [aI r.A,aI r.K,aI r.M,aI r.D.A,aI r.D.J,aF r.D.O,aS r.D.L,.pv (zg za r.I)]),[]):=by
 unfold ady at hm
 obtain ⟨n,rfl,h0⟩:=zu hm
 replace hm:=h0;clear h0
 refine Z2 24 [(0,.agg (zc6 a0))] func97 rfl hJ (sq (det [jK,jH] [.box (zc6 a0) false,.box zc17 false] hJ (sq (dn [jK,jH,(3,.pv (zg za a0.I))] (sq (det [jK,jH,(3,.pv (zg za a0.I))] [.box (zc62 a0) false,.box zc17 false] hJ ?_))))))
 obtain ⟨k4,hk4,hm⟩:=zt hm
 refine mid (fun t H=>(∃ (w1:AV) (w2:AV),k4 none=some r∧t=mk 24 [jK,jH,(Q2 a0),(aag a0),(11,w1),(12,w2)]∧H=[.box (zc62 a0) false,.box zc17 false])∨(∃ (y3:jq) (w1:AV) (w2:AV),k4 (some y3)=some r∧t=mk 24 [jK,jH,(Q2 a0),(aag a0),(11,w1),(12,w2)]∧H=[.box (zc63 a0 y3) false,.box zc17 false,bR 49 8 za y3 0 0])) ?_ ?_
 ·rintro _ _ (⟨w1,w2,hm,rfl,rfl⟩|⟨y3,w1,w2,hm,rfl,rfl⟩)
  ·subst hk4
   refine sq (det [jH] [.box (zc62 a0) false,.box (zc62 a0) false] hJ (jf ?_))
   cases hm;exact hM
  subst hk4
  refine sq (det [jH] [.box (zc63 a0 y3) false,.box (zc63 a0 y3) false,bR 49 8 za y3 0 0] hJ (jf ?_))
  obtain rfl:=ji hm
  exact ace (v:=.agg (zc63 a0 y3)) trivial rfl hJ (atC (zj (zw) (zj (zw) (zj (zw) (zj (zw) (zj (zw) (zj (zw) (zj (zw) (zj (zB (n:=y3.length) (id:=2) (l:=y3) (R:=za) rfl rfl (Nat.zero_le _)) (rfl))))))))) hJ)
 refine sq (rg (s1 1 [(Q2 a0)] (dv 10 (v:=aI ((sll a0.I).length:Int)) (zP za a0.I t23 hJ) hJ (fq 1 [jK,jH,(Q2 a0),(aag a0),(11,aI 0)] (bq ?_)))))
 refine qB (fun mm t H=>(∃ (y9:Int),Z5 n rc_expr_Copy a0 k4 mm none y9=some r∧t=mk 24 [jK,jH,(Q2 a0),(aag a0),(11,aI y9)]∧H=[.box (zc62 a0) false,.box zc17 false])∨(∃ (y8:jq) (y9:Int),Z5 n rc_expr_Copy a0 k4 mm (some y8) y9=some r∧t=mk 24 [jK,jH,(Q2 a0),(aag a0),(11,aI y9)]∧H=[.box (zc63 a0 y8) false,.box zc17 false,bR 49 8 za y8 0 0])) (.inl ⟨0,hm,rfl,rfl⟩) ?_ ?_
 ·
   rintro _ _ (⟨y9,hm,_⟩|⟨y8,y9,hm,_⟩)<;>exact nomatch hm
 rintro m10 _ _ (⟨y9,hm,rfl,rfl⟩|⟨y8,y9,hm,rfl,rfl⟩)
 ·simp only [Z5] at hm
  refine sq (dn [jK,jH,(Q2 a0),(aag a0),(11,aI y9),(ap6 y9 a0)] ?_)
  refine sq ?_
  rcases zf hm with ⟨h11,hm⟩|⟨h11,hm⟩
  ·refine c1 h11 (jg (sq (bq (sq (rg ?_)))))
   obtain ⟨x12,h13,hm⟩:=bs hm
   refine dv 13 (v:=.pv (.ptr (abe x12) 0)) (aaA za a0.I .i64 t23 t49 h13 (zU x12) rfl hJ) hJ (stf 3 [jK,jH,(5,.ptr 2 0),(Q2 a0),(aag a0),(11,aI y9)] [.box (zc62 a0) false,.box zc17 false,.box (zc8 x12) false] hJ (rgd (shd 3 [(17,.agg (zc8 x12)),(16,.pv .nils),(15,.ptr 0 7)] hJ ?_)))
   obtain ⟨x14,h15,hm⟩:=bs hm
   refine dvd 18 (zR hJ (ih_expr_Copy h15) hJ hJ hJ) hJ (std 1 [(19,aR 3 8 1)] [.box (zc62 a0) false,.box zc17 false,.box (zc8 x12) false,bR 49 8 za (acm x14) 0 0] hJ ?_)
   obtain ⟨_,h16,hm⟩:=bs hm
   refine dOd [(20,aR 4 8 (alD x14))] [.box (zc62 a0) false,.box zc17 false,.box (zc8 x12) false,bR 49 8 za (acm x14) 0 0,bR 49 8 za (acm x14) 0 0] (Qa (u:=0) za (acm x14) (b:=88) t23 t49 rfl rfl rfl Z6 rfl h16 (show zT (aR 3 8 1) _=some (aqh x14) from by kernel_rfl) hJ) hJ (std 2 [(21,.ptr 0 7)] [.box [aI a0.A,aI a0.K,aI a0.M,aI a0.D.A,aI a0.D.J,aF a0.D.O,aS a0.D.L,aR 4 8 (alD x14)] false,.box zc17 false,.box (zc8 x12) false,bR 49 8 za (acm x14) 0 0,bR 49 8 za (acm x14) 0 0] hJ (find [jK,jH,(Q2 a0),(aag a0),(11,aI y9)] rfl hJ hJ (dn [jK,jH,(Q2 a0),(aag a0),(akb y9)] ?_)))
   exact ⟨_,_,ZD [jK,jH,(Q2 a0),(aag a0),(akb y9)] [.box [aI a0.A,aI a0.K,aI a0.M,aI a0.D.A,aI a0.D.J,aF a0.D.O,aS a0.D.L,aR 2 8 (alD x14)] false,.box zc17 false,bR 49 8 za (acm x14) 0 0] hJ,.inr (⟨(acm x14),(Zk y9),hm,rfl,rfl⟩)⟩
  refine c0 h11 (jh ?_)
  exact .inl ⟨aI y9,aB (aiw y9 a0),hm,(zH hJ),rfl⟩
 simp only [Z5] at hm
 refine sq (dn [jK,jH,(Q2 a0),(aag a0),(11,aI y9),(ap6 y9 a0)] ?_)
 refine sq ?_
 rcases zf hm with ⟨h17,hm⟩|⟨h17,hm⟩
 ·refine c1 h17 (jg (sq (bq (sq (rg ?_)))))
  obtain ⟨x18,h19,hm⟩:=bs hm
  refine dv 13 (v:=.pv (.ptr (abe x18) 0)) (aaA za a0.I .i64 t23 t49 h19 (zU x18) rfl hJ) hJ (stf 3 [jK,jH,jP,(Q2 a0),(aag a0),(11,aI y9)] [.box (zc63 a0 y8) false,.box zc17 false,bR 49 8 za y8 0 0,.box (zc8 x18) false] hJ (rgd (shd 3 [(17,.agg (zc8 x18)),(16,aR 2 8 y8.length),(15,.ptr 0 7)] hJ ?_)))
  obtain ⟨x20,h21,hm⟩:=bs hm
  refine dvd 18 (zR hJ (ih_expr_Copy h21) hJ hJ hJ) hJ (std 1 [(19,aR 4 8 1)] [.box (zc63 a0 y8) false,.box zc17 false,bR 49 8 za y8 0 0,.box (zc8 x18) false,bR 49 8 za (acm x20) 0 0] hJ ?_)
  obtain ⟨_,h22,hm⟩:=bs hm
  refine dOd [(20,aR 2 8 (alp y8 x20))] [.box (zc63 a0 y8) false,.box zc17 false,bR 49 8 za (al4 y8 x20) 0 0,.box (zc8 x18) false,bR 49 8 za (acm x20) 0 0] (ZF (u:=0) (n:=y8.length) (id:=2) za y8 (acm x20) (b:=88) t23 t49 rfl rfl rfl Z6 rfl h22 rfl rfl (Nat.zero_le _) (show zT (aR 4 8 1) _=some (aqh x20) from by kernel_rfl) hJ) hJ (std 2 [(21,.ptr 0 7)] [.box [aI a0.A,aI a0.K,aI a0.M,aI a0.D.A,aI a0.D.J,aF a0.D.O,aS a0.D.L,aR 2 8 (alp y8 x20)] false,.box zc17 false,bR 49 8 za (al4 y8 x20) 0 0,.box (zc8 x18) false,bR 49 8 za (acm x20) 0 0] hJ (find [jK,jH,(Q2 a0),(aag a0),(11,aI y9)] rfl hJ hJ (dn [jK,jH,(Q2 a0),(aag a0),(akb y9)] ?_)))
  exact ⟨_,_,ZD [jK,jH,(Q2 a0),(aag a0),(akb y9)] [.box [aI a0.A,aI a0.K,aI a0.M,aI a0.D.A,aI a0.D.J,aF a0.D.O,aS a0.D.L,aR 2 8 (alp y8 x20)] false,.box zc17 false,bR 49 8 za (al4 y8 x20) 0 0] hJ,.inr (⟨(al4 y8 x20),(Zk y9),hm,rfl,rfl⟩)⟩
 refine c0 h17 (jh ?_)
 exact .inr (⟨y8,aI y9,aB (aiw y9 a0),hm,(zH hJ),rfl⟩)
theorem ah1:∀ (m:Nat),∀ {n:Nat}{a0:zk}{r:zk}(hm:aaZ m n a0=some r),call G n 97 [.agg (zc6 a0)] []=some (.ret (.agg [aI r.A,aI r.K,aI r.M,aI r.D.A,aI r.D.J,aF r.D.O,aS r.D.L,.pv (zg za r.I)]),[])
 |0=>by intros;rename_i hm;exact nomatch hm
 |m+1=>fun hm=>
  amo (ah1 m) hm
theorem QA {n:Nat}{a0:zk}{r:zk}(hm:Qc n a0=some r):
 call G n 97 [.agg (zc6 a0)] []=some (.ret (.agg [aI r.A,aI r.K,aI r.M,aI r.D.A,aI r.D.J,aF r.D.O,aS r.D.L,.pv (zg za r.I)]),[]):=ah1 n hm
abbrev ad0 (p0:jo):Nat×AV:=(6,.pv (zg za p0))
abbrev aen (p0:jo):Nat×AV:=(7,aI ((sll p0).length:Int))
theorem aam {n:Nat}{a0:jo}{r:jo}(hm:aa7 n a0=some r):
   ∃ vv H1,call G n 95 [.pv (acK a0)] []=some (.ret vv,H1)∧(match (generalizing:=false) r with|none=>(vv=.pv .nils∧H1=[])|some r0=>(vv=aR 0 8 r0.length∧H1=[bR 49 8 za r0 0 0])):=by
 unfold aa7 at hm
 obtain ⟨n,rfl,h0⟩:=zu hm
 replace hm:=h0;clear h0
 refine ZJ 19 [(zp75 a0)] func95 rfl hJ (sq (dn [(zp75 a0)] (sq (dn [(zp75 a0),kB] ?_))))
 obtain ⟨k4,hk4,hm⟩:=zt hm
 refine mid (fun t H=>(∃ (w1:AV) (w2:AV),k4 none=some r∧t=mk 19 [kB,(ad0 a0),(aen a0),(8,w1),(9,w2)]∧H=[])∨(∃ (y3:jq) (w1:AV) (w2:AV),k4 (some y3)=some r∧t=mk 19 [(3,aR 0 8 y3.length),(ad0 a0),(aen a0),(8,w1),(9,w2)]∧H=[bR 49 8 za y3 0 0])) ?_ ?_
 ·rintro _ _ (⟨w1,w2,hm,rfl,rfl⟩|⟨y3,w1,w2,hm,rfl,rfl⟩)
  ·subst hk4
   refine sq (dn [kD] (jf ?_))
   obtain rfl:=ji hm
   exact ⟨trivial,.pv .nils,[],hJ,rfl,rfl⟩
  subst hk4
  refine sq (dn [(2,aR 0 8 y3.length)] (jf ?_))
  obtain rfl:=ji hm
  exact ⟨trivial,aR 0 8 y3.length,[bR 49 8 za y3 0 0],hJ,rfl,rfl⟩
 refine sq (rg (s1 1 [(ad0 a0)] (dv 7 (v:=aI (afn a0)) (zP za a0 t23 hJ) hJ (fq 1 [kB,(ad0 a0),(aen a0),(8,aI 0)] (bq ?_)))))
 refine qB (fun mm t H=>(∃ (y9:Int),Zw n a0 k4 mm none y9=some r∧t=mk 19 [kB,(ad0 a0),(aen a0),(8,aI y9)]∧H=[])∨(∃ (y8:jq) (y9:Int),Zw n a0 k4 mm (some y8) y9=some r∧t=mk 19 [(3,aR 0 8 y8.length),(ad0 a0),(aen a0),(8,aI y9)]∧H=[bR 49 8 za y8 0 0])) (.inl ⟨0,hm,rfl,rfl⟩) ?_ ?_
 ·
   rintro _ _ (⟨y9,hm,_⟩|⟨y8,y9,hm,_⟩)<;>exact nomatch hm
 rintro m10 _ _ (⟨y9,hm,rfl,rfl⟩|⟨y8,y9,hm,rfl,rfl⟩)
 ·simp only [Zw] at hm
  refine sq (dn [kB,(ad0 a0),(aen a0),(8,aI y9),(9,aB (adJ y9 a0))] ?_)
  refine sq ?_
  rcases zf hm with ⟨h11,hm⟩|⟨h11,hm⟩
  ·refine c1 h11 (jg (sq (bq (sq (rg ?_)))))
   obtain ⟨x12,h13,hm⟩:=bs hm
   refine dv 10 (v:=.pv (.ptr (abe x12) 0)) (aaA za a0 .i64 t23 t49 h13 (zU x12) rfl hJ) hJ (stf 3 [kB,(5,.ptr 0 0),(ad0 a0),(aen a0),(8,aI y9)] [.box (zc8 x12) false] hJ (rg (s1 2 [(13,.agg (zc8 x12)),(12,.pv .nils)] ?_)))
   obtain ⟨x14,h15,hm⟩:=bs hm
   refine dv 14 (zR hJ (QA h15) hJ hJ hJ) hJ (st 1 [(15,aR 1 8 1)] [.box (zc8 x12) false,bR 49 8 za (acm x14) 0 0] hJ ?_)
   obtain ⟨_,h16,hm⟩:=bs hm
   refine dO [(16,aR 2 8 (alD x14))] [.box (zc8 x12) false,bR 49 8 za (acm x14) 0 0,bR 49 8 za (acm x14) 0 0] (Qa (u:=0) za (acm x14) (b:=88) t23 t49 rfl rfl rfl Z6 rfl h16 (show zT (aR 1 8 1) _=some (aqh x14) from by kernel_rfl) hJ) hJ (fq 1 [(3,aR 2 8 (alD x14)),(ad0 a0),(aen a0),(8,aI y9)] (dn [(3,aR 2 8 (alD x14)),(ad0 a0),(aen a0),(zp86 y9)] ?_))
   exact ⟨_,_,ZD [(3,aR 0 8 (alD x14)),(ad0 a0),(aen a0),(zp86 y9)] [bR 49 8 za (acm x14) 0 0] hJ,.inr (⟨(acm x14),(Zk y9),hm,rfl,rfl⟩)⟩
  refine c0 h11 (jh ?_)
  exact .inl ⟨aI y9,aB (adJ y9 a0),hm,(zH hJ),rfl⟩
 simp only [Zw] at hm
 refine sq (dn [(3,aR 0 8 y8.length),(ad0 a0),(aen a0),(8,aI y9),(9,aB (adJ y9 a0))] ?_)
 refine sq ?_
 rcases zf hm with ⟨h17,hm⟩|⟨h17,hm⟩
 ·refine c1 h17 (jg (sq (bq (sq (rg ?_)))))
  obtain ⟨x18,h19,hm⟩:=bs hm
  refine dv 10 (v:=.pv (.ptr (abe x18) 0)) (aaA za a0 .i64 t23 t49 h19 (zU x18) rfl hJ) hJ (stf 3 [(3,aR 0 8 y8.length),(5,.ptr 1 0),(ad0 a0),(aen a0),(8,aI y9)] [bR 49 8 za y8 0 0,.box (zc8 x18) false] hJ (rg (s1 2 [(13,.agg (zc8 x18)),(12,aR 0 8 y8.length)] ?_)))
  obtain ⟨x20,h21,hm⟩:=bs hm
  refine dv 14 (zR hJ (QA h21) hJ hJ hJ) hJ (st 1 [(15,aR 2 8 1)] [bR 49 8 za y8 0 0,.box (zc8 x18) false,bR 49 8 za (acm x20) 0 0] hJ ?_)
  obtain ⟨_,h22,hm⟩:=bs hm
  refine dO [(16,aR 0 8 (alp y8 x20))] [bR 49 8 za (al4 y8 x20) 0 0,.box (zc8 x18) false,bR 49 8 za (acm x20) 0 0] (ZF (u:=0) (n:=y8.length) (id:=0) za y8 (acm x20) (b:=88) t23 t49 rfl rfl rfl Z6 rfl h22 rfl rfl (Nat.zero_le _) (show zT (aR 2 8 1) _=some (aqh x20) from by kernel_rfl) hJ) hJ (fq 1 [(3,aR 0 8 (alp y8 x20)),(ad0 a0),(aen a0),(8,aI y9)] (dn [(3,aR 0 8 (alp y8 x20)),(ad0 a0),(aen a0),(zp86 y9)] ?_))
  exact ⟨_,_,ZD [(3,aR 0 8 (alp y8 x20)),(ad0 a0),(aen a0),(zp86 y9)] [bR 49 8 za (al4 y8 x20) 0 0] hJ,.inr (⟨(al4 y8 x20),(Zk y9),hm,rfl,rfl⟩)⟩
 refine c0 h17 (jh ?_)
 exact .inr (⟨y8,aI y9,aB (adJ y9 a0),hm,(zH hJ),rfl⟩)
end Go.Ab.S1
