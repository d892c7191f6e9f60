import Derived.Test.YtejbcaheoloahaaGreatWB2
noncomputable section
namespace Go.Ab.S1
open Go Go.Ab Go.Pl
open Go.Proofs.Tryz
set_option linter.unusedVariables false
set_option linter.unusedSimpArgs false
set_option maxRecDepth 100000
abbrev zc16 (p0:zh) (p1:zh):List AV:=[aI 7,aI 0,aI 0,aI 0,aI 0,aF 0,aS ByteArray.empty,.pv (.sl (([(zi p0),(zi p1)]:List zd).map za))]
abbrev zc17:List AV:=[aR 4 8 (([(zi (zh.mk 0 0 0 (zq.mk 0 0 0 ByteArray.empty) none))]:List zd).length)]
abbrev zc18:List AV:=[aR 2 8 (([(zi (zh.mk 0 0 0 (zq.mk 0 0 0 ByteArray.empty) none))]:List zd).length)]
abbrev zc19:List AV:=[aI 7,aI 0,aI 0,aI 0,aI 0,aF 0,aS ByteArray.empty,aR 3 8 2]
abbrev zc20 (p0:(List zd)):List AV:=[aR 2 8 ((p0++([(zi (zh.mk 0 0 0 (zq.mk 0 0 0 ByteArray.empty) none))]:List zd)).length)]
abbrev zp36 (p0:zl):Nat × AV:=(35,aI (if ((sll p0.fRight).length:Int) < ((sll p0.fLeft).length:Int) then ((sll p0.fRight).length:Int) else ((sll p0.fLeft).length:Int)))
abbrev zp37 (p0:Int) (p1:zl):Nat × AV:=(37,aB (decide (p0 < (if ((sll p1.fRight).length:Int) < ((sll p1.fLeft).length:Int) then ((sll p1.fRight).length:Int) else ((sll p1.fLeft).length:Int)))))
abbrev zg57 (p0:zh) (p1:zh):=([(zi p0),(zi p1)]:List zd)
abbrev zg58:=([(zi (zh.mk 0 0 0 (zq.mk 0 0 0 ByteArray.empty) none))]:List zd)
abbrev zg59:=(([(zi (zh.mk 0 0 0 (zq.mk 0 0 0 ByteArray.empty) none))]:List zd).length)
abbrev zg60:=(([(zi (zh.mk 0 0 0 (zq.mk 0 0 0 ByteArray.empty) none))]:List zd).map za)
abbrev zg61 (p0:zh) (p1:zh):=(max 0 (([(zi p0),(zi p1)]:List zd).map za).length)
abbrev zg62 (p0:zh) (p1:zh):=(([(zi (zh.mk 0 0 0 (zq.mk 0 0 0 ByteArray.empty) none))]:List zd).set (Int.toNat 0) (zi (zh.mk 7 0 0 (zq.mk 0 0 0 ByteArray.empty) (some ([(zi p0),(zi p1)]:List zd)))))
abbrev zg63 (p0:zh) (p1:zh):=(zi (zh.mk 7 0 0 (zq.mk 0 0 0 ByteArray.empty) (some ([(zi p0),(zi p1)]:List zd))))
abbrev zg64 (p0:(List zd)):=((p0++([(zi (zh.mk 0 0 0 (zq.mk 0 0 0 ByteArray.empty) none))]:List zd)).length)
abbrev zg65 (p0:(List zd)):=(p0++([(zi (zh.mk 0 0 0 (zq.mk 0 0 0 ByteArray.empty) none))]:List zd))
abbrev zg66 (p0:(List zd)) (p1:zh) (p2:zh):=((p0++([(zi (zh.mk 0 0 0 (zq.mk 0 0 0 ByteArray.empty) none))]:List zd)).set (Int.toNat (p0.length:Int)) (zi (zh.mk 7 0 0 (zq.mk 0 0 0 ByteArray.empty) (some ([(zi p1),(zi p2)]:List zd)))))
abbrev zg67 (p0:Int) (p1:zl):=(decide (p0 < ((sll p1.fWhere).length:Int)))
abbrev zg68 (p0:zh):=(([(zi (zh.mk 0 0 0 (zq.mk 0 0 0 ByteArray.empty) none))]:List zd).set (Int.toNat 0) (zi p0))
abbrev zg69 (p0:(List zd)) (p1:zh):=((p0++([(zi (zh.mk 0 0 0 (zq.mk 0 0 0 ByteArray.empty) none))]:List zd)).set (Int.toNat (p0.length:Int)) (zi p1))
theorem adX {n:Nat} {a0:zl} {r:(Option (List zd))} (hm:qQ n a0=some r):
    ∃ vv H1,call G n 124 [.agg (zc2 a0),.ptr 0 0] [.box [.pv .nils] false]=some (.ret vv,H1)∧(match (generalizing:=false) r with | none=>(vv=.tup []∧H1=[.box [.pv .nils] false]) | some r0=>(∃ (e1:Nat) (e2:Nat),r0.length=e1∧e2≤r0.length∧vv=.tup []∧H1=[.box [aR 1 8 e1] false,bR 49 8 za r0 e2 0])):=by
  unfold qQ at hm
  obtain ⟨n,rfl,h0⟩:=zp hm
  replace hm:=h0; clear h0
  refine Qh 59 [(0,.agg (zc2 a0)),(1,.ptr 0 0)] func124 rfl (by kernel_rfl) (sq (det [(1,.ptr 0 0),(2,.ptr 1 0)] [.box [.pv .nils] false,.box (zc2 a0) false] (by kernel_rfl) ?_))
  obtain ⟨k8,hk8,hm⟩:=zw hm
  refine mid (fun t H=>(∃ (w1:AV) (w2:AV),k8 none=some r∧t=mk 59 [(1,.ptr 0 0),(2,.ptr 1 0),(7,.pv (zg43 a0)),(8,aI (zg52 a0)),(9,w1),(10,w2)]∧H=[.box [.pv .nils] false,.box (zc2 a0) false])∨(∃ (y3:(List zd)) (w1:AV) (w2:AV) (g4:Nat) (g6:Nat),k8 (some y3)=some r∧t=mk 59 [(1,.ptr 0 0),(2,.ptr 1 0),(7,.pv (zg43 a0)),(8,aI (zg52 a0)),(9,w1),(10,w2)]∧H=[.box [aR 2 8 g4] false,.box (zc2 a0) false,bR 49 8 za y3 g6 0]∧y3.length=g4∧g6≤y3.length)) ?_ ?_
  ·
   rintro _ _ (⟨w1,w2,hm,rfl,rfl⟩ | ⟨y3,w1,w2,g4,g6,hm,rfl,rfl,q5,q7⟩)
   ·
    subst hk8
    refine sq (sq (rg (s1 4 [(24,aB (a0.fKind != 3)),(23,aB (a0.fKind != 3)),(22,aI a0.fKind),(21,.ptr 1 0)] ?_)))
    refine segP (a0.fKind != 3) [24,23] (fun b=>[(28,aB (b && (a0.fKind != 4))),(27,ifA b (aB (a0.fKind != 4)) (.undef)),(26,ifA b (aI a0.fKind) (.undef)),(25,ifA b (.ptr 1 0) (.undef))]) 4 (by kernel_rfl) (by kernel_rfl) (by kernel_rfl) (fin [(1,.ptr 0 0),(2,.ptr 1 0),(28,aB ((a0.fKind != 3) && (a0.fKind != 4)))] rfl (by kernel_rfl) ?_)
    rcases zf hm with ⟨h9,hm⟩ | ⟨h9,hm⟩
    ·
     refine c1 h9 (wp_ret ?_)
     obtain rfl:=Option.some.inj hm
     exact ⟨trivial,.tup [],[.box [.pv .nils] false],by kernel_rfl,rfl,rfl⟩
    ·
     refine c0 h9 (wp_skip (sq (rg (s1 2 [(30,.pv (zc za a0.fLeft)),(29,.ptr 1 3)] (dv 31 (v:=aI ((sll a0.fLeft).length:Int)) (zC za a0.fLeft t23 (by kernel_rfl)) (by kernel_rfl) (s1 2 [(33,.pv (zg46 a0)),(32,.ptr 1 4)] (dv 34 (v:=aI ((sll a0.fRight).length:Int)) (zC za a0.fRight t23 (by kernel_rfl)) (by kernel_rfl) (fq 2 [(1,.ptr 0 0),(2,.ptr 1 0),(zp36 a0),(36,aI 0)] (bq ?_)))))))))
     refine qR (fun mm t H=>(∃ (y21:Int),zV n a0 mm none y21=some r∧t=mk 59 [(1,.ptr 0 0),(2,.ptr 1 0),(zp36 a0),(36,aI y21)]∧H=[.box [.pv .nils] false,.box (zc2 a0) false])∨(∃ (y20:(List zd)) (y21:Int) (g22:Nat) (g24:Nat),zV n a0 mm (some y20) y21=some r∧t=mk 59 [(1,.ptr 0 0),(2,.ptr 1 0),(zp36 a0),(36,aI y21)]∧H=[.box [aR 2 8 g22] false,.box (zc2 a0) false,bR 49 8 za y20 g24 0]∧y20.length=g22∧g24≤y20.length)) (.inl ⟨0,hm,rfl,rfl⟩) ?_ ?_
     · rintro _ _ (⟨y21,hm,_⟩ | ⟨y20,y21,g22,g24,hm,_⟩) <;> exact nomatch hm
     rintro m26 _ _ (⟨y21,hm,rfl,rfl⟩ | ⟨y20,y21,g22,g24,hm,rfl,rfl,q23,q25⟩)
     ·
      simp only [zV] at hm
      refine sq (dn [(1,.ptr 0 0),(2,.ptr 1 0),(zp36 a0),(36,aI y21),(zp37 y21 a0)] ?_)
      refine sq ?_
      rcases zf hm with ⟨h27,hm⟩ | ⟨h27,hm⟩
      ·
       refine c1 h27 (wp_skip (sq (bq (sq (dn [(1,.ptr 0 0),(2,.ptr 1 0),(5,aI y21),(zp36 a0),(36,aI y21)] (rgd (shd 4 [(42,aI y21),(41,.pv (zc za a0.fLeft)),(40,.ptr 1 3),(39,.pv .nils)] (by kernel_rfl) ?_)))))))
       obtain ⟨x28,h29,hm⟩:=bs hm
       refine dvd 43 (v:=.pv (.ptr (zg40 x28) 0)) (ZN za a0.fLeft .i64 t23 t49 h29 (zu x28) rfl (by kernel_rfl)) (by kernel_rfl) (shd 1 [(44,.agg (zc9 x28))] (by kernel_rfl) ?_)
       obtain ⟨x30,h31,hm⟩:=bs hm
       refine dvd 45 (zF (by kernel_rfl) (qT h31) (by kernel_rfl) (by kernel_rfl) (by kernel_rfl)) (by kernel_rfl) (shd 3 [(48,aI y21),(47,.pv (zg46 a0)),(46,.ptr 1 4)] (by kernel_rfl) ?_)
       obtain ⟨x32,h33,hm⟩:=bs hm
       refine dvd 49 (v:=.pv (.ptr (zg40 x32) 0)) (ZN za a0.fRight .i64 t23 t49 h33 (zu x32) rfl (by kernel_rfl)) (by kernel_rfl) (shd 1 [(50,.agg (zc9 x32))] (by kernel_rfl) ?_)
       obtain ⟨x34,h35,hm⟩:=bs hm
       refine dvd 51 (zF (by kernel_rfl) (qT h35) (by kernel_rfl) (by kernel_rfl) (by kernel_rfl)) (by kernel_rfl) (std 4 [(55,aR 3 8 1),(54,aI 0),(53,.agg [aI 7,aI 0,aI 0,aI 0,aI 0,aF 0,aS ByteArray.empty,aR 2 8 2]),(52,aR 2 8 2)] [.box [.pv .nils] false,.box (zc2 a0) false,bR 49 8 za (zg57 x30 x34) 0 0,bR 49 8 za zg58 0 0] (by kernel_rfl) ?_)
       obtain ⟨_,h36,hm⟩:=bs hm
       refine dOd [(56,aR 4 8 zg59)] [.box [.pv .nils] false,.box (zc2 a0) false,bR 49 8 za (zg57 x30 x34) 0 0,bR 49 8 za zg58 0 0,bR 49 8 za zg58 0 0] (aey (u:=0) za zg58 (b:=88) t23 t49 rfl rfl rfl zX rfl h36 (show ZE (aR 3 8 1) _=some zg60 from by kernel_rfl) (by kernel_rfl)) (by kernel_rfl) ?_
       obtain ⟨x37,h38,hm⟩:=bs hm
       refine dvd 57 (v:=.eptr 4 0 zg59 8 (0+Int.toNat 0) 0) (QQ zg58 .i64 (n:=zg58.length) (id:=4) (esz:=8) t23 t49 h38 rfl rfl (by kernel_rfl)) (by kernel_rfl) (dOd [] [.box [.pv .nils] false,.box (zc2 a0) false,bR 49 8 za (zg57 x30 x34) 0 (zg61 x30 x34),bR 49 8 za zg58 0 0,bR 49 8 za (zg62 x30 x34) zg59 0] (aia za zg58 (zg63 x30 x34) (n:=zg58.length) (esz:=8) (v:=.agg [aI 7,aI 0,aI 0,aI 0,aI 0,aF 0,aS ByteArray.empty,aR 2 8 2]) (j:=0) (off:=0) (id:=4) [2] (.agg (zc16 x30 x34)) t49 rfl h38 rfl (Nat.zero_le _) (by kernel_rfl) rfl (by kernel_rfl) rfl rfl rfl (zu x37) rfl (by kernel_rfl)) (by kernel_rfl) (std 1 [] [.box zc17 false,.box (zc2 a0) false,bR 49 8 za (zg57 x30 x34) 0 (zg61 x30 x34),bR 49 8 za zg58 0 0,bR 49 8 za (zg62 x30 x34) zg59 0] (by kernel_rfl) (find [(1,.ptr 0 0),(2,.ptr 1 0),(zp36 a0),(36,aI y21)] rfl (by kernel_rfl) (by kernel_rfl) (dn [(1,.ptr 0 0),(2,.ptr 1 0),(zp36 a0),(36,aI (IntKind.wrap .i64 (y21+1)))] ?_))))
       exact ⟨_,_,qd [(1,.ptr 0 0),(2,.ptr 1 0),(zp36 a0),(36,aI (IntKind.wrap .i64 (y21+1)))] [.box zc18 false,.box (zc2 a0) false,bR 49 8 za (zg62 x30 x34) zg59 0] (by kernel_rfl),.inr (⟨(zg62 x30 x34),(IntKind.wrap .i64 (y21+1)),zg58.length,zg58.length,hm,rfl,rfl,(by first | rfl | assumption | omega | (simp only [List.length_set,List.length_append,List.length_cons,List.length_nil,List.length_replicate,List.length_drop] at * <;> omega)),(by first | exact Nat.zero_le _ | exact Nat.le_refl _ | assumption | omega | (simp only [List.length_set,List.length_append,List.length_cons,List.length_nil,List.length_replicate,List.length_drop] at * <;> omega))⟩)⟩
      ·
       refine c0 h27 (wp_exit ?_)
       obtain rfl:=Option.some.inj hm
       exact ⟨trivial,.tup [],[.box [.pv .nils] false],by kernel_rfl,rfl,rfl⟩
     ·
      simp only [zV] at hm
      refine sq (dn [(1,.ptr 0 0),(2,.ptr 1 0),(zp36 a0),(36,aI y21),(zp37 y21 a0)] ?_)
      refine sq ?_
      rcases zf hm with ⟨h39,hm⟩ | ⟨h39,hm⟩
      ·
       refine c1 h39 (wp_skip (sq (bq (sq (dn [(1,.ptr 0 0),(2,.ptr 1 0),(5,aI y21),(zp36 a0),(36,aI y21)] (rgd (shd 4 [(42,aI y21),(41,.pv (zc za a0.fLeft)),(40,.ptr 1 3),(39,aR 2 8 g22)] (by kernel_rfl) ?_)))))))
       obtain ⟨x40,h41,hm⟩:=bs hm
       refine dvd 43 (v:=.pv (.ptr (zg40 x40) 0)) (ZN za a0.fLeft .i64 t23 t49 h41 (zu x40) rfl (by kernel_rfl)) (by kernel_rfl) (shd 1 [(44,.agg (zc9 x40))] (by kernel_rfl) ?_)
       obtain ⟨x42,h43,hm⟩:=bs hm
       refine dvd 45 (zF (by kernel_rfl) (qT h43) (by kernel_rfl) (by kernel_rfl) (by kernel_rfl)) (by kernel_rfl) (shd 3 [(48,aI y21),(47,.pv (zg46 a0)),(46,.ptr 1 4)] (by kernel_rfl) ?_)
       obtain ⟨x44,h45,hm⟩:=bs hm
       refine dvd 49 (v:=.pv (.ptr (zg40 x44) 0)) (ZN za a0.fRight .i64 t23 t49 h45 (zu x44) rfl (by kernel_rfl)) (by kernel_rfl) (shd 1 [(50,.agg (zc9 x44))] (by kernel_rfl) ?_)
       obtain ⟨x46,h47,hm⟩:=bs hm
       refine dvd 51 (zF (by kernel_rfl) (qT h47) (by kernel_rfl) (by kernel_rfl) (by kernel_rfl)) (by kernel_rfl) (std 2 [(53,.agg zc19),(52,aR 3 8 2)] [.box [aR 2 8 g22] false,.box (zc2 a0) false,bR 49 8 za y20 g24 0,bR 49 8 za (zg57 x42 x46) 0 0] (by kernel_rfl) (dvd 54 (v:=aI (y20.length:Int)) (aeC y20 (n:=g22) (id:=2) (esz:=8) t23 (by omega) (by kernel_rfl)) (by kernel_rfl) (std 1 [(55,aR 4 8 1)] [.box [aR 2 8 g22] false,.box (zc2 a0) false,bR 49 8 za y20 g24 0,bR 49 8 za (zg57 x42 x46) 0 0,bR 49 8 za zg58 0 0] (by kernel_rfl) ?_)))
       obtain ⟨_,h48,hm⟩:=bs hm
       refine dOd [(56,aR 2 8 (zg64 y20))] [.box [aR 2 8 g22] false,.box (zc2 a0) false,bR 49 8 za (zg65 y20) g24 0,bR 49 8 za (zg57 x42 x46) 0 0,bR 49 8 za zg58 0 0] (Qp (u:=0) (n:=g22) (id:=2) za y20 zg58 (b:=88) t23 t49 rfl rfl rfl zX rfl h48 rfl (by omega) (by omega) (show ZE (aR 4 8 1) _=some zg60 from by kernel_rfl) (by kernel_rfl)) (by kernel_rfl) ?_
       obtain ⟨x49,h50,hm⟩:=bs hm
       refine dvd 57 (v:=.eptr 2 0 (zg64 y20) 8 (0+Int.toNat (y20.length:Int)) 0) (QQ (zg65 y20) .i64 (n:=(zg65 y20).length) (id:=2) (esz:=8) t23 t49 h50 rfl rfl (by kernel_rfl)) (by kernel_rfl) (dOd [] [.box [aR 2 8 g22] false,.box (zc2 a0) false,bR 49 8 za (zg66 y20 x42 x46) (zg64 y20) 0,bR 49 8 za (zg57 x42 x46) 0 (zg61 x42 x46),bR 49 8 za zg58 0 0] (aia za (zg65 y20) (zg63 x42 x46) (n:=(zg65 y20).length) (esz:=8) (v:=.agg zc19) (j:=(y20.length:Int)) (off:=0) (id:=2) [3] (.agg (zc16 x42 x46)) t49 rfl h50 rfl (by first | exact Nat.zero_le _ | exact Nat.le_refl _ | assumption | omega | (simp only [List.length_set,List.length_append,List.length_cons,List.length_nil,List.length_replicate,List.length_drop] at * <;> omega)) (by kernel_rfl) rfl (by kernel_rfl) rfl rfl rfl (zu x49) rfl (by kernel_rfl)) (by kernel_rfl) (std 1 [] [.box (zc20 y20) false,.box (zc2 a0) false,bR 49 8 za (zg66 y20 x42 x46) (zg64 y20) 0,bR 49 8 za (zg57 x42 x46) 0 (zg61 x42 x46),bR 49 8 za zg58 0 0] (by kernel_rfl) (find [(1,.ptr 0 0),(2,.ptr 1 0),(zp36 a0),(36,aI y21)] rfl (by kernel_rfl) (by kernel_rfl) (dn [(1,.ptr 0 0),(2,.ptr 1 0),(zp36 a0),(36,aI (IntKind.wrap .i64 (y21+1)))] ?_))))
       exact ⟨_,_,qd [(1,.ptr 0 0),(2,.ptr 1 0),(zp36 a0),(36,aI (IntKind.wrap .i64 (y21+1)))] [.box (zc20 y20) false,.box (zc2 a0) false,bR 49 8 za (zg66 y20 x42 x46) (zg64 y20) 0] (by kernel_rfl),.inr (⟨(zg66 y20 x42 x46),(IntKind.wrap .i64 (y21+1)),(zg65 y20).length,(zg65 y20).length,hm,rfl,rfl,(by first | rfl | assumption | omega | (simp only [List.length_set,List.length_append,List.length_cons,List.length_nil,List.length_replicate,List.length_drop] at * <;> omega)),(by first | exact Nat.zero_le _ | exact Nat.le_refl _ | assumption | omega | (simp only [List.length_set,List.length_append,List.length_cons,List.length_nil,List.length_replicate,List.length_drop] at * <;> omega))⟩)⟩
      ·
       refine c0 h39 (wp_exit ?_)
       obtain rfl:=Option.some.inj hm
       exact ⟨trivial,.tup [],[.box [aR 1 8 g22] false,bR 49 8 za y20 g24 0],by kernel_rfl,g22,g24,(by first | rfl | assumption | omega | (simp only [List.length_set,List.length_append,List.length_cons,List.length_nil,List.length_replicate,List.length_drop] at * <;> omega)),(by first | exact Nat.zero_le _ | exact Nat.le_refl _ | assumption | omega | (simp only [List.length_set,List.length_append,List.length_cons,List.length_nil,List.length_replicate,List.length_drop] at * <;> omega)),rfl,rfl⟩
   ·
    subst hk8
    refine sq (sq (rg (s1 4 [(24,aB (a0.fKind != 3)),(23,aB (a0.fKind != 3)),(22,aI a0.fKind),(21,.ptr 1 0)] ?_)))
    refine segP (a0.fKind != 3) [24,23] (fun b=>[(28,aB (b && (a0.fKind != 4))),(27,ifA b (aB (a0.fKind != 4)) (.undef)),(26,ifA b (aI a0.fKind) (.undef)),(25,ifA b (.ptr 1 0) (.undef))]) 4 (by kernel_rfl) (by kernel_rfl) (by kernel_rfl) (fin [(1,.ptr 0 0),(2,.ptr 1 0),(28,aB ((a0.fKind != 3) && (a0.fKind != 4)))] rfl (by kernel_rfl) ?_)
    rcases zf hm with ⟨h51,hm⟩ | ⟨h51,hm⟩
    ·
     refine c1 h51 (wp_ret ?_)
     obtain rfl:=Option.some.inj hm
     exact ⟨trivial,.tup [],[.box [aR 1 8 g4] false,bR 49 8 za y3 g6 0],by kernel_rfl,g4,g6,(by first | rfl | assumption | omega | (simp only [List.length_set,List.length_append,List.length_cons,List.length_nil,List.length_replicate,List.length_drop] at * <;> omega)),(by first | exact Nat.zero_le _ | exact Nat.le_refl _ | assumption | omega | (simp only [List.length_set,List.length_append,List.length_cons,List.length_nil,List.length_replicate,List.length_drop] at * <;> omega)),rfl,rfl⟩
    ·
     refine c0 h51 (wp_skip (sq (rg (s1 2 [(30,.pv (zc za a0.fLeft)),(29,.ptr 1 3)] (dv 31 (v:=aI ((sll a0.fLeft).length:Int)) (zC za a0.fLeft t23 (by kernel_rfl)) (by kernel_rfl) (s1 2 [(33,.pv (zg46 a0)),(32,.ptr 1 4)] (dv 34 (v:=aI ((sll a0.fRight).length:Int)) (zC za a0.fRight t23 (by kernel_rfl)) (by kernel_rfl) (fq 2 [(1,.ptr 0 0),(2,.ptr 1 0),(zp36 a0),(36,aI 0)] (bq ?_)))))))))
     refine qR (fun mm t H=>(∃ (y58:(List zd)) (y59:Int) (g60:Nat) (g62:Nat),ZA n a0 mm y58 y59=some r∧t=mk 59 [(1,.ptr 0 0),(2,.ptr 1 0),(zp36 a0),(36,aI y59)]∧H=[.box [aR 2 8 g60] false,.box (zc2 a0) false,bR 49 8 za y58 g62 0]∧y58.length=g60∧g62≤y58.length)) (⟨y3,0,g4,g6,hm,rfl,rfl,(by first | rfl | assumption | omega | (simp only [List.length_set,List.length_append,List.length_cons,List.length_nil,List.length_replicate,List.length_drop] at * <;> omega)),(by first | exact Nat.zero_le _ | exact Nat.le_refl _ | assumption | omega | (simp only [List.length_set,List.length_append,List.length_cons,List.length_nil,List.length_replicate,List.length_drop] at * <;> omega))⟩) ?_ ?_
     · rintro _ _ ⟨y58,y59,g60,g62,hm,_⟩; exact nomatch hm
     rintro m64 _ _ ⟨y58,y59,g60,g62,hm,rfl,rfl,q61,q63⟩
     simp only [ZA] at hm
     refine sq (dn [(1,.ptr 0 0),(2,.ptr 1 0),(zp36 a0),(36,aI y59),(zp37 y59 a0)] ?_)
     refine sq ?_
     rcases zf hm with ⟨h65,hm⟩ | ⟨h65,hm⟩
     ·
      refine c1 h65 (wp_skip (sq (bq (sq (dn [(1,.ptr 0 0),(2,.ptr 1 0),(5,aI y59),(zp36 a0),(36,aI y59)] (rgd (shd 4 [(42,aI y59),(41,.pv (zc za a0.fLeft)),(40,.ptr 1 3),(39,aR 2 8 g60)] (by kernel_rfl) ?_)))))))
      obtain ⟨x66,h67,hm⟩:=bs hm
      refine dvd 43 (v:=.pv (.ptr (zg40 x66) 0)) (ZN za a0.fLeft .i64 t23 t49 h67 (zu x66) rfl (by kernel_rfl)) (by kernel_rfl) (shd 1 [(44,.agg (zc9 x66))] (by kernel_rfl) ?_)
      obtain ⟨x68,h69,hm⟩:=bs hm
      refine dvd 45 (zF (by kernel_rfl) (qT h69) (by kernel_rfl) (by kernel_rfl) (by kernel_rfl)) (by kernel_rfl) (shd 3 [(48,aI y59),(47,.pv (zg46 a0)),(46,.ptr 1 4)] (by kernel_rfl) ?_)
      obtain ⟨x70,h71,hm⟩:=bs hm
      refine dvd 49 (v:=.pv (.ptr (zg40 x70) 0)) (ZN za a0.fRight .i64 t23 t49 h71 (zu x70) rfl (by kernel_rfl)) (by kernel_rfl) (shd 1 [(50,.agg (zc9 x70))] (by kernel_rfl) ?_)
      obtain ⟨x72,h73,hm⟩:=bs hm
      refine dvd 51 (zF (by kernel_rfl) (qT h73) (by kernel_rfl) (by kernel_rfl) (by kernel_rfl)) (by kernel_rfl) (std 2 [(53,.agg zc19),(52,aR 3 8 2)] [.box [aR 2 8 g60] false,.box (zc2 a0) false,bR 49 8 za y58 g62 0,bR 49 8 za (zg57 x68 x72) 0 0] (by kernel_rfl) (dvd 54 (v:=aI (y58.length:Int)) (aeC y58 (n:=g60) (id:=2) (esz:=8) t23 (by omega) (by kernel_rfl)) (by kernel_rfl) (std 1 [(55,aR 4 8 1)] [.box [aR 2 8 g60] false,.box (zc2 a0) false,bR 49 8 za y58 g62 0,bR 49 8 za (zg57 x68 x72) 0 0,bR 49 8 za zg58 0 0] (by kernel_rfl) ?_)))
      obtain ⟨_,h74,hm⟩:=bs hm
      refine dOd [(56,aR 2 8 (zg64 y58))] [.box [aR 2 8 g60] false,.box (zc2 a0) false,bR 49 8 za (zg65 y58) g62 0,bR 49 8 za (zg57 x68 x72) 0 0,bR 49 8 za zg58 0 0] (Qp (u:=0) (n:=g60) (id:=2) za y58 zg58 (b:=88) t23 t49 rfl rfl rfl zX rfl h74 rfl (by omega) (by omega) (show ZE (aR 4 8 1) _=some zg60 from by kernel_rfl) (by kernel_rfl)) (by kernel_rfl) ?_
      obtain ⟨x75,h76,hm⟩:=bs hm
      refine dvd 57 (v:=.eptr 2 0 (zg64 y58) 8 (0+Int.toNat (y58.length:Int)) 0) (QQ (zg65 y58) .i64 (n:=(zg65 y58).length) (id:=2) (esz:=8) t23 t49 h76 rfl rfl (by kernel_rfl)) (by kernel_rfl) (dOd [] [.box [aR 2 8 g60] false,.box (zc2 a0) false,bR 49 8 za (zg66 y58 x68 x72) (zg64 y58) 0,bR 49 8 za (zg57 x68 x72) 0 (zg61 x68 x72),bR 49 8 za zg58 0 0] (aia za (zg65 y58) (zg63 x68 x72) (n:=(zg65 y58).length) (esz:=8) (v:=.agg zc19) (j:=(y58.length:Int)) (off:=0) (id:=2) [3] (.agg (zc16 x68 x72)) t49 rfl h76 rfl (by first | exact Nat.zero_le _ | exact Nat.le_refl _ | assumption | omega | (simp only [List.length_set,List.length_append,List.length_cons,List.length_nil,List.length_replicate,List.length_drop] at * <;> omega)) (by kernel_rfl) rfl (by kernel_rfl) rfl rfl rfl (zu x75) rfl (by kernel_rfl)) (by kernel_rfl) (std 1 [] [.box (zc20 y58) false,.box (zc2 a0) false,bR 49 8 za (zg66 y58 x68 x72) (zg64 y58) 0,bR 49 8 za (zg57 x68 x72) 0 (zg61 x68 x72),bR 49 8 za zg58 0 0] (by kernel_rfl) (find [(1,.ptr 0 0),(2,.ptr 1 0),(zp36 a0),(36,aI y59)] rfl (by kernel_rfl) (by kernel_rfl) (dn [(1,.ptr 0 0),(2,.ptr 1 0),(zp36 a0),(36,aI (IntKind.wrap .i64 (y59+1)))] ?_))))
      exact ⟨_,_,qd [(1,.ptr 0 0),(2,.ptr 1 0),(zp36 a0),(36,aI (IntKind.wrap .i64 (y59+1)))] [.box (zc20 y58) false,.box (zc2 a0) false,bR 49 8 za (zg66 y58 x68 x72) (zg64 y58) 0] (by kernel_rfl),⟨(zg66 y58 x68 x72),(IntKind.wrap .i64 (y59+1)),(zg65 y58).length,(zg65 y58).length,hm,rfl,rfl,(by first | rfl | assumption | omega | (simp only [List.length_set,List.length_append,List.length_cons,List.length_nil,List.length_replicate,List.length_drop] at * <;> omega)),(by first | exact Nat.zero_le _ | exact Nat.le_refl _ | assumption | omega | (simp only [List.length_set,List.length_append,List.length_cons,List.length_nil,List.length_replicate,List.length_drop] at * <;> omega))⟩⟩
     ·
      refine c0 h65 (wp_exit ?_)
      obtain rfl:=Option.some.inj hm
      exact ⟨trivial,.tup [],[.box [aR 1 8 g60] false,bR 49 8 za y58 g62 0],by kernel_rfl,g60,g62,(by first | rfl | assumption | omega | (simp only [List.length_set,List.length_append,List.length_cons,List.length_nil,List.length_replicate,List.length_drop] at * <;> omega)),(by first | exact Nat.zero_le _ | exact Nat.le_refl _ | assumption | omega | (simp only [List.length_set,List.length_append,List.length_cons,List.length_nil,List.length_replicate,List.length_drop] at * <;> omega)),rfl,rfl⟩
  refine sq (rg (s1 2 [(7,.pv (zg43 a0)),(6,.ptr 1 2)] (dv 8 (v:=aI (zg52 a0)) (zC za a0.fWhere t23 (by kernel_rfl)) (by kernel_rfl) (fq 1 [(1,.ptr 0 0),(2,.ptr 1 0),(7,.pv (zg43 a0)),(8,aI (zg52 a0)),(9,aI 0)] (bq ?_)))))
  refine qR (fun mm t H=>(∃ (y88:Int),Zf n a0 k8 mm none y88=some r∧t=mk 59 [(1,.ptr 0 0),(2,.ptr 1 0),(7,.pv (zc za a0.fWhere)),(8,aI ((sll a0.fWhere).length:Int)),(9,aI y88)]∧H=[.box [.pv .nils] false,.box (zc2 a0) false])∨(∃ (y87:(List zd)) (y88:Int) (g89:Nat) (g91:Nat),Zf n a0 k8 mm (some y87) y88=some r∧t=mk 59 [(1,.ptr 0 0),(2,.ptr 1 0),(7,.pv (zc za a0.fWhere)),(8,aI ((sll a0.fWhere).length:Int)),(9,aI y88)]∧H=[.box [aR 2 8 g89] false,.box (zc2 a0) false,bR 49 8 za y87 g91 0]∧y87.length=g89∧g91≤y87.length)) (.inl ⟨0,hm,rfl,rfl⟩) ?_ ?_
  · rintro _ _ (⟨y88,hm,_⟩ | ⟨y87,y88,g89,g91,hm,_⟩) <;> exact nomatch hm
  rintro m93 _ _ (⟨y88,hm,rfl,rfl⟩ | ⟨y87,y88,g89,g91,hm,rfl,rfl,q90,q92⟩)
  ·
   simp only [Zf] at hm
   refine sq (dn [(1,.ptr 0 0),(2,.ptr 1 0),(7,.pv (zg43 a0)),(8,aI (zg52 a0)),(9,aI y88),(10,aB (zg67 y88 a0))] ?_)
   refine sq ?_
   rcases zf hm with ⟨h94,hm⟩ | ⟨h94,hm⟩
   ·
    refine c1 h94 (wp_skip (sq (bq (sq (rg ?_)))))
    obtain ⟨x95,h96,hm⟩:=bs hm
    refine dv 11 (v:=.pv (.ptr (zg40 x95) 0)) (ZN za a0.fWhere .i64 t23 t49 h96 (zu x95) rfl (by kernel_rfl)) (by kernel_rfl) (stf 3 [(1,.ptr 0 0),(2,.ptr 1 0),(4,.ptr 2 0),(7,.pv (zg43 a0)),(8,aI (zg52 a0)),(9,aI y88)] [.box [.pv .nils] false,.box (zc2 a0) false,.box (zc9 x95) false] (by kernel_rfl) (rgd (shd 2 [(14,.agg (zc9 x95)),(13,.pv .nils)] (by kernel_rfl) ?_)))
    obtain ⟨x97,h98,hm⟩:=bs hm
    refine dvd 15 (zF (by kernel_rfl) (qT h98) (by kernel_rfl) (by kernel_rfl) (by kernel_rfl)) (by kernel_rfl) (std 2 [(17,aR 3 8 1),(16,aI 0)] [.box [.pv .nils] false,.box (zc2 a0) false,.box (zc9 x95) false,bR 49 8 za zg58 0 0] (by kernel_rfl) ?_)
    obtain ⟨_,h99,hm⟩:=bs hm
    refine dOd [(18,aR 4 8 zg59)] [.box [.pv .nils] false,.box (zc2 a0) false,.box (zc9 x95) false,bR 49 8 za zg58 0 0,bR 49 8 za zg58 0 0] (aey (u:=0) za zg58 (b:=88) t23 t49 rfl rfl rfl zX rfl h99 (show ZE (aR 3 8 1) _=some zg60 from by kernel_rfl) (by kernel_rfl)) (by kernel_rfl) ?_
    obtain ⟨x100,h101,hm⟩:=bs hm
    refine dvd 19 (v:=.eptr 4 0 zg59 8 (0+Int.toNat 0) 0) (QQ zg58 .i64 (n:=zg58.length) (id:=4) (esz:=8) t23 t49 h101 rfl rfl (by kernel_rfl)) (by kernel_rfl) (dOd [] [.box [.pv .nils] false,.box (zc2 a0) false,.box (zc9 x95) false,bR 49 8 za zg58 0 0,bR 49 8 za (zg68 x97) zg59 0] (ai4 za zg58 (zi x97) (n:=zg58.length) (esz:=8) (v:=.agg (zc7 x97)) (j:=0) (off:=0) (id:=4) t49 rfl h101 rfl (Nat.zero_le _) rfl rfl rfl (zu x100) rfl (by kernel_rfl)) (by kernel_rfl) (std 1 [] [.box zc17 false,.box (zc2 a0) false,.box (zc9 x95) false,bR 49 8 za zg58 0 0,bR 49 8 za (zg68 x97) zg59 0] (by kernel_rfl) (find [(1,.ptr 0 0),(2,.ptr 1 0),(7,.pv (zg43 a0)),(8,aI (zg52 a0)),(9,aI y88)] rfl (by kernel_rfl) (by kernel_rfl) (dn [(1,.ptr 0 0),(2,.ptr 1 0),(7,.pv (zg43 a0)),(8,aI (zg52 a0)),(9,aI (IntKind.wrap .i64 (y88+1)))] ?_))))
    exact ⟨_,_,qd [(1,.ptr 0 0),(2,.ptr 1 0),(7,.pv (zg43 a0)),(8,aI (zg52 a0)),(9,aI (IntKind.wrap .i64 (y88+1)))] [.box zc18 false,.box (zc2 a0) false,bR 49 8 za (zg68 x97) zg59 0] (by kernel_rfl),.inr (⟨(zg68 x97),(IntKind.wrap .i64 (y88+1)),zg58.length,zg58.length,hm,rfl,rfl,(by first | rfl | assumption | omega | (simp only [List.length_set,List.length_append,List.length_cons,List.length_nil,List.length_replicate,List.length_drop] at * <;> omega)),(by first | exact Nat.zero_le _ | exact Nat.le_refl _ | assumption | omega | (simp only [List.length_set,List.length_append,List.length_cons,List.length_nil,List.length_replicate,List.length_drop] at * <;> omega))⟩)⟩
   ·
    refine c0 h94 (wp_exit ?_)
    exact .inl ⟨aI y88,aB (zg67 y88 a0),hm,(zJ (by kernel_rfl)),rfl⟩
  ·
   simp only [Zf] at hm
   refine sq (dn [(1,.ptr 0 0),(2,.ptr 1 0),(7,.pv (zg43 a0)),(8,aI (zg52 a0)),(9,aI y88),(10,aB (zg67 y88 a0))] ?_)
   refine sq ?_
   rcases zf hm with ⟨h102,hm⟩ | ⟨h102,hm⟩
   ·
    refine c1 h102 (wp_skip (sq (bq (sq (rg ?_)))))
    obtain ⟨x103,h104,hm⟩:=bs hm
    refine dv 11 (v:=.pv (.ptr (zg40 x103) 0)) (ZN za a0.fWhere .i64 t23 t49 h104 (zu x103) rfl (by kernel_rfl)) (by kernel_rfl) (stf 3 [(1,.ptr 0 0),(2,.ptr 1 0),(4,.ptr 3 0),(7,.pv (zg43 a0)),(8,aI (zg52 a0)),(9,aI y88)] [.box [aR 2 8 g89] false,.box (zc2 a0) false,bR 49 8 za y87 g91 0,.box (zc9 x103) false] (by kernel_rfl) (rgd (shd 2 [(14,.agg (zc9 x103)),(13,aR 2 8 g89)] (by kernel_rfl) ?_)))
    obtain ⟨x105,h106,hm⟩:=bs hm
    refine dvd 15 (zF (by kernel_rfl) (qT h106) (by kernel_rfl) (by kernel_rfl) (by kernel_rfl)) (by kernel_rfl) (dvd 16 (v:=aI (y87.length:Int)) (aeC y87 (n:=g89) (id:=2) (esz:=8) t23 (by omega) (by kernel_rfl)) (by kernel_rfl) (std 1 [(17,aR 4 8 1)] [.box [aR 2 8 g89] false,.box (zc2 a0) false,bR 49 8 za y87 g91 0,.box (zc9 x103) false,bR 49 8 za zg58 0 0] (by kernel_rfl) ?_))
    obtain ⟨_,h107,hm⟩:=bs hm
    refine dOd [(18,aR 2 8 (zg64 y87))] [.box [aR 2 8 g89] false,.box (zc2 a0) false,bR 49 8 za (zg65 y87) g91 0,.box (zc9 x103) false,bR 49 8 za zg58 0 0] (Qp (u:=0) (n:=g89) (id:=2) za y87 zg58 (b:=88) t23 t49 rfl rfl rfl zX rfl h107 rfl (by omega) (by omega) (show ZE (aR 4 8 1) _=some zg60 from by kernel_rfl) (by kernel_rfl)) (by kernel_rfl) ?_
    obtain ⟨x108,h109,hm⟩:=bs hm
    refine dvd 19 (v:=.eptr 2 0 (zg64 y87) 8 (0+Int.toNat (y87.length:Int)) 0) (QQ (zg65 y87) .i64 (n:=(zg65 y87).length) (id:=2) (esz:=8) t23 t49 h109 rfl rfl (by kernel_rfl)) (by kernel_rfl) (dOd [] [.box [aR 2 8 g89] false,.box (zc2 a0) false,bR 49 8 za (zg69 y87 x105) (zg64 y87) 0,.box (zc9 x103) false,bR 49 8 za zg58 0 0] (ai4 za (zg65 y87) (zi x105) (n:=(zg65 y87).length) (esz:=8) (v:=.agg (zc7 x105)) (j:=(y87.length:Int)) (off:=0) (id:=2) t49 rfl h109 rfl (by first | exact Nat.zero_le _ | exact Nat.le_refl _ | assumption | omega | (simp only [List.length_set,List.length_append,List.length_cons,List.length_nil,List.length_replicate,List.length_drop] at * <;> omega)) rfl rfl rfl (zu x108) rfl (by kernel_rfl)) (by kernel_rfl) (std 1 [] [.box (zc20 y87) false,.box (zc2 a0) false,bR 49 8 za (zg69 y87 x105) (zg64 y87) 0,.box (zc9 x103) false,bR 49 8 za zg58 0 0] (by kernel_rfl) (find [(1,.ptr 0 0),(2,.ptr 1 0),(7,.pv (zg43 a0)),(8,aI (zg52 a0)),(9,aI y88)] rfl (by kernel_rfl) (by kernel_rfl) (dn [(1,.ptr 0 0),(2,.ptr 1 0),(7,.pv (zg43 a0)),(8,aI (zg52 a0)),(9,aI (IntKind.wrap .i64 (y88+1)))] ?_))))
    exact ⟨_,_,qd [(1,.ptr 0 0),(2,.ptr 1 0),(7,.pv (zg43 a0)),(8,aI (zg52 a0)),(9,aI (IntKind.wrap .i64 (y88+1)))] [.box (zc20 y87) false,.box (zc2 a0) false,bR 49 8 za (zg69 y87 x105) (zg64 y87) 0] (by kernel_rfl),.inr (⟨(zg69 y87 x105),(IntKind.wrap .i64 (y88+1)),(zg65 y87).length,(zg65 y87).length,hm,rfl,rfl,(by first | rfl | assumption | omega | (simp only [List.length_set,List.length_append,List.length_cons,List.length_nil,List.length_replicate,List.length_drop] at * <;> omega)),(by first | exact Nat.zero_le _ | exact Nat.le_refl _ | assumption | omega | (simp only [List.length_set,List.length_append,List.length_cons,List.length_nil,List.length_replicate,List.length_drop] at * <;> omega))⟩)⟩
   ·
    refine c0 h102 (wp_exit ?_)
    exact .inr (⟨y87,aI y88,aB (zg67 y88 a0),g89,g91,hm,(zJ (by kernel_rfl)),rfl,(by first | rfl | assumption | omega | (simp only [List.length_set,List.length_append,List.length_cons,List.length_nil,List.length_replicate,List.length_drop] at * <;> omega)),(by first | exact Nat.zero_le _ | exact Nat.le_refl _ | assumption | omega | (simp only [List.length_set,List.length_append,List.length_cons,List.length_nil,List.length_replicate,List.length_drop] at * <;> omega))⟩)
abbrev zc21 (p0:(List zd)):List AV:=[aR 1 8 ((p0++([(zi (zh.mk 0 0 0 (zq.mk 0 0 0 ByteArray.empty) none))]:List zd)).length)]
theorem adf (m1:Nat) (f1:Nat) {n:Nat} {a0:(List zd)} {a1:zl} {r:(List zd)} (hm1:a0.length=m1) (hf1:f1≤a0.length) (hm:ZM n a0 a1=some r):
    ∃ vv H1,call G n 124 [.agg (zc2 a1),.ptr 0 0] [.box [aR 1 8 m1] false,bR 49 8 za a0 f1 0]=some (.ret vv,H1)∧(match (generalizing:=false) r with | r0=>(∃ (e1:Nat) (e2:Nat),r0.length=e1∧e2≤r0.length∧vv=.tup []∧H1=[.box [aR 1 8 e1] false,bR 49 8 za r0 e2 0])):=by
  unfold ZM at hm
  obtain ⟨n,rfl,h0⟩:=zp hm
  replace hm:=h0; clear h0
  refine Qh 59 [(0,.agg (zc2 a1)),(1,.ptr 0 0)] func124 rfl (by kernel_rfl) (sq (det [(1,.ptr 0 0),(2,.ptr 2 0)] [.box [aR 1 8 m1] false,bR 49 8 za a0 f1 0,.box (zc2 a1) false] (by kernel_rfl) ?_))
  obtain ⟨k8,hk8,hm⟩:=zw hm
  refine mid (fun t H=>(∃ (y1:(List zd)) (y2:Bool) (y3:Int) (g4:Nat) (g6:Nat),k8 y1=some r∧t=mk 59 [(1,.ptr 0 0),(2,.ptr 2 0),(7,.pv (zg43 a1)),(8,aI (zg52 a1)),(9,aI y3),(10,aB y2)]∧H=[.box [aR 1 8 g4] false,bR 49 8 za y1 g6 0,.box (zc2 a1) false]∧y1.length=g4∧g6≤y1.length)) ?_ ?_
  ·
   rintro _ _ ⟨y1,y2,y3,g4,g6,hm,rfl,rfl,q5,q7⟩
   subst hk8
   refine sq (sq (rg (s1 4 [(24,aB (a1.fKind != 3)),(23,aB (a1.fKind != 3)),(22,aI a1.fKind),(21,.ptr 2 0)] ?_)))
   refine segP (a1.fKind != 3) [24,23] (fun b=>[(28,aB (b && (a1.fKind != 4))),(27,ifA b (aB (a1.fKind != 4)) (.undef)),(26,ifA b (aI a1.fKind) (.undef)),(25,ifA b (.ptr 2 0) (.undef))]) 4 (by kernel_rfl) (by kernel_rfl) (by kernel_rfl) (fin [(1,.ptr 0 0),(2,.ptr 2 0),(28,aB ((a1.fKind != 3) && (a1.fKind != 4)))] rfl (by kernel_rfl) ?_)
   rcases zf hm with ⟨h9,hm⟩ | ⟨h9,hm⟩
   ·
    refine c1 h9 (wp_ret ?_)
    obtain rfl:=Option.some.inj hm
    exact ⟨trivial,.tup [],[.box [aR 1 8 g4] false,bR 49 8 za y1 g6 0],by kernel_rfl,g4,g6,(by first | rfl | assumption | omega | (simp only [List.length_set,List.length_append,List.length_cons,List.length_nil,List.length_replicate,List.length_drop] at * <;> omega)),(by first | exact Nat.zero_le _ | exact Nat.le_refl _ | assumption | omega | (simp only [List.length_set,List.length_append,List.length_cons,List.length_nil,List.length_replicate,List.length_drop] at * <;> omega)),rfl,rfl⟩
   ·
    refine c0 h9 (wp_skip (sq (rg (s1 2 [(30,.pv (zc za a1.fLeft)),(29,.ptr 2 3)] (dv 31 (v:=aI ((sll a1.fLeft).length:Int)) (zC za a1.fLeft t23 (by kernel_rfl)) (by kernel_rfl) (s1 2 [(33,.pv (zg46 a1)),(32,.ptr 2 4)] (dv 34 (v:=aI ((sll a1.fRight).length:Int)) (zC za a1.fRight t23 (by kernel_rfl)) (by kernel_rfl) (fq 2 [(1,.ptr 0 0),(2,.ptr 2 0),(zp36 a1),(36,aI 0)] (bq ?_)))))))))
    refine qR (fun mm t H=>(∃ (y16:(List zd)) (y17:Int) (g18:Nat) (g20:Nat),Zl n a1 mm y16 y17=some r∧t=mk 59 [(1,.ptr 0 0),(2,.ptr 2 0),(zp36 a1),(36,aI y17)]∧H=[.box [aR 1 8 g18] false,bR 49 8 za y16 g20 0,.box (zc2 a1) false]∧y16.length=g18∧g20≤y16.length)) (⟨y1,0,g4,g6,hm,rfl,rfl,(by first | rfl | assumption | omega | (simp only [List.length_set,List.length_append,List.length_cons,List.length_nil,List.length_replicate,List.length_drop] at * <;> omega)),(by first | exact Nat.zero_le _ | exact Nat.le_refl _ | assumption | omega | (simp only [List.length_set,List.length_append,List.length_cons,List.length_nil,List.length_replicate,List.length_drop] at * <;> omega))⟩) ?_ ?_
    · rintro _ _ ⟨y16,y17,g18,g20,hm,_⟩; exact nomatch hm
    rintro m22 _ _ ⟨y16,y17,g18,g20,hm,rfl,rfl,q19,q21⟩
    simp only [Zl] at hm
    refine sq (dn [(1,.ptr 0 0),(2,.ptr 2 0),(zp36 a1),(36,aI y17),(zp37 y17 a1)] ?_)
    refine sq ?_
    rcases zf hm with ⟨h23,hm⟩ | ⟨h23,hm⟩
    ·
     refine c1 h23 (wp_skip (sq (bq (sq (dn [(1,.ptr 0 0),(2,.ptr 2 0),(5,aI y17),(zp36 a1),(36,aI y17)] (rgd (shd 4 [(42,aI y17),(41,.pv (zc za a1.fLeft)),(40,.ptr 2 3),(39,aR 1 8 g18)] (by kernel_rfl) ?_)))))))
     obtain ⟨x24,h25,hm⟩:=bs hm
     refine dvd 43 (v:=.pv (.ptr (zg40 x24) 0)) (ZN za a1.fLeft .i64 t23 t49 h25 (zu x24) rfl (by kernel_rfl)) (by kernel_rfl) (shd 1 [(44,.agg (zc9 x24))] (by kernel_rfl) ?_)
     obtain ⟨x26,h27,hm⟩:=bs hm
     refine dvd 45 (zF (by kernel_rfl) (qT h27) (by kernel_rfl) (by kernel_rfl) (by kernel_rfl)) (by kernel_rfl) (shd 3 [(48,aI y17),(47,.pv (zg46 a1)),(46,.ptr 2 4)] (by kernel_rfl) ?_)
     obtain ⟨x28,h29,hm⟩:=bs hm
     refine dvd 49 (v:=.pv (.ptr (zg40 x28) 0)) (ZN za a1.fRight .i64 t23 t49 h29 (zu x28) rfl (by kernel_rfl)) (by kernel_rfl) (shd 1 [(50,.agg (zc9 x28))] (by kernel_rfl) ?_)
     obtain ⟨x30,h31,hm⟩:=bs hm
     refine dvd 51 (zF (by kernel_rfl) (qT h31) (by kernel_rfl) (by kernel_rfl) (by kernel_rfl)) (by kernel_rfl) (std 2 [(53,.agg zc19),(52,aR 3 8 2)] [.box [aR 1 8 g18] false,bR 49 8 za y16 g20 0,.box (zc2 a1) false,bR 49 8 za (zg57 x26 x30) 0 0] (by kernel_rfl) (dvd 54 (v:=aI (y16.length:Int)) (aeC y16 (n:=g18) (id:=1) (esz:=8) t23 (by omega) (by kernel_rfl)) (by kernel_rfl) (std 1 [(55,aR 4 8 1)] [.box [aR 1 8 g18] false,bR 49 8 za y16 g20 0,.box (zc2 a1) false,bR 49 8 za (zg57 x26 x30) 0 0,bR 49 8 za zg58 0 0] (by kernel_rfl) ?_)))
     obtain ⟨_,h32,hm⟩:=bs hm
     refine dOd [(56,aR 1 8 (zg64 y16))] [.box [aR 1 8 g18] false,bR 49 8 za (zg65 y16) g20 0,.box (zc2 a1) false,bR 49 8 za (zg57 x26 x30) 0 0,bR 49 8 za zg58 0 0] (Qp (u:=0) (n:=g18) (id:=1) za y16 zg58 (b:=88) t23 t49 rfl rfl rfl zX rfl h32 rfl (by omega) (by omega) (show ZE (aR 4 8 1) _=some zg60 from by kernel_rfl) (by kernel_rfl)) (by kernel_rfl) ?_
     obtain ⟨x33,h34,hm⟩:=bs hm
     refine dvd 57 (v:=.eptr 1 0 (zg64 y16) 8 (0+Int.toNat (y16.length:Int)) 0) (QQ (zg65 y16) .i64 (n:=(zg65 y16).length) (id:=1) (esz:=8) t23 t49 h34 rfl rfl (by kernel_rfl)) (by kernel_rfl) (dOd [] [.box [aR 1 8 g18] false,bR 49 8 za (zg66 y16 x26 x30) (zg64 y16) 0,.box (zc2 a1) false,bR 49 8 za (zg57 x26 x30) 0 (zg61 x26 x30),bR 49 8 za zg58 0 0] (aia za (zg65 y16) (zg63 x26 x30) (n:=(zg65 y16).length) (esz:=8) (v:=.agg zc19) (j:=(y16.length:Int)) (off:=0) (id:=1) [3] (.agg (zc16 x26 x30)) t49 rfl h34 rfl (by first | exact Nat.zero_le _ | exact Nat.le_refl _ | assumption | omega | (simp only [List.length_set,List.length_append,List.length_cons,List.length_nil,List.length_replicate,List.length_drop] at * <;> omega)) (by kernel_rfl) rfl (by kernel_rfl) rfl rfl rfl (zu x33) rfl (by kernel_rfl)) (by kernel_rfl) (std 1 [] [.box (zc21 y16) false,bR 49 8 za (zg66 y16 x26 x30) (zg64 y16) 0,.box (zc2 a1) false,bR 49 8 za (zg57 x26 x30) 0 (zg61 x26 x30),bR 49 8 za zg58 0 0] (by kernel_rfl) (find [(1,.ptr 0 0),(2,.ptr 2 0),(zp36 a1),(36,aI y17)] rfl (by kernel_rfl) (by kernel_rfl) (dn [(1,.ptr 0 0),(2,.ptr 2 0),(zp36 a1),(36,aI (IntKind.wrap .i64 (y17+1)))] ?_))))
     exact ⟨_,_,qd [(1,.ptr 0 0),(2,.ptr 2 0),(zp36 a1),(36,aI (IntKind.wrap .i64 (y17+1)))] [.box (zc21 y16) false,bR 49 8 za (zg66 y16 x26 x30) (zg64 y16) 0,.box (zc2 a1) false] (by kernel_rfl),⟨(zg66 y16 x26 x30),(IntKind.wrap .i64 (y17+1)),(zg65 y16).length,(zg65 y16).length,hm,rfl,rfl,(by first | rfl | assumption | omega | (simp only [List.length_set,List.length_append,List.length_cons,List.length_nil,List.length_replicate,List.length_drop] at * <;> omega)),(by first | exact Nat.zero_le _ | exact Nat.le_refl _ | assumption | omega | (simp only [List.length_set,List.length_append,List.length_cons,List.length_nil,List.length_replicate,List.length_drop] at * <;> omega))⟩⟩
    ·
     refine c0 h23 (wp_exit ?_)
     obtain rfl:=Option.some.inj hm
     exact ⟨trivial,.tup [],[.box [aR 1 8 g18] false,bR 49 8 za y16 g20 0],by kernel_rfl,g18,g20,(by first | rfl | assumption | omega | (simp only [List.length_set,List.length_append,List.length_cons,List.length_nil,List.length_replicate,List.length_drop] at * <;> omega)),(by first | exact Nat.zero_le _ | exact Nat.le_refl _ | assumption | omega | (simp only [List.length_set,List.length_append,List.length_cons,List.length_nil,List.length_replicate,List.length_drop] at * <;> omega)),rfl,rfl⟩
  refine sq (rg (s1 2 [(7,.pv (zg43 a1)),(6,.ptr 2 2)] (dv 8 (v:=aI (zg52 a1)) (zC za a1.fWhere t23 (by kernel_rfl)) (by kernel_rfl) (fq 1 [(1,.ptr 0 0),(2,.ptr 2 0),(7,.pv (zg43 a1)),(8,aI (zg52 a1)),(9,aI 0)] (bq ?_)))))
  refine qR (fun mm t H=>(∃ (y41:(List zd)) (y42:Int) (g43:Nat) (g45:Nat),ZR n a1 k8 mm y41 y42=some r∧t=mk 59 [(1,.ptr 0 0),(2,.ptr 2 0),(7,.pv (zg43 a1)),(8,aI (zg52 a1)),(9,aI y42)]∧H=[.box [aR 1 8 g43] false,bR 49 8 za y41 g45 0,.box (zc2 a1) false]∧y41.length=g43∧g45≤y41.length)) (⟨a0,0,m1,f1,hm,rfl,rfl,(by first | rfl | assumption | omega | (simp only [List.length_set,List.length_append,List.length_cons,List.length_nil,List.length_replicate,List.length_drop] at * <;> omega)),(by first | exact Nat.zero_le _ | exact Nat.le_refl _ | assumption | omega | (simp only [List.length_set,List.length_append,List.length_cons,List.length_nil,List.length_replicate,List.length_drop] at * <;> omega))⟩) ?_ ?_
  · rintro _ _ ⟨y41,y42,g43,g45,hm,_⟩; exact nomatch hm
  rintro m47 _ _ ⟨y41,y42,g43,g45,hm,rfl,rfl,q44,q46⟩
  simp only [ZR] at hm
  refine sq (dn [(1,.ptr 0 0),(2,.ptr 2 0),(7,.pv (zg43 a1)),(8,aI (zg52 a1)),(9,aI y42),(10,aB (zg67 y42 a1))] ?_)
  refine sq ?_
  rcases zf hm with ⟨h48,hm⟩ | ⟨h48,hm⟩
  ·
   refine c1 h48 (wp_skip (sq (bq (sq (rg ?_)))))
   obtain ⟨x49,h50,hm⟩:=bs hm
   refine dv 11 (v:=.pv (.ptr (zg40 x49) 0)) (ZN za a1.fWhere .i64 t23 t49 h50 (zu x49) rfl (by kernel_rfl)) (by kernel_rfl) (stf 3 [(1,.ptr 0 0),(2,.ptr 2 0),(4,.ptr 3 0),(7,.pv (zg43 a1)),(8,aI (zg52 a1)),(9,aI y42)] [.box [aR 1 8 g43] false,bR 49 8 za y41 g45 0,.box (zc2 a1) false,.box (zc9 x49) false] (by kernel_rfl) (rgd (shd 2 [(14,.agg (zc9 x49)),(13,aR 1 8 g43)] (by kernel_rfl) ?_)))
   obtain ⟨x51,h52,hm⟩:=bs hm
   refine dvd 15 (zF (by kernel_rfl) (qT h52) (by kernel_rfl) (by kernel_rfl) (by kernel_rfl)) (by kernel_rfl) (dvd 16 (v:=aI (y41.length:Int)) (aeC y41 (n:=g43) (id:=1) (esz:=8) t23 (by omega) (by kernel_rfl)) (by kernel_rfl) (std 1 [(17,aR 4 8 1)] [.box [aR 1 8 g43] false,bR 49 8 za y41 g45 0,.box (zc2 a1) false,.box (zc9 x49) false,bR 49 8 za zg58 0 0] (by kernel_rfl) ?_))
   obtain ⟨_,h53,hm⟩:=bs hm
   refine dOd [(18,aR 1 8 (zg64 y41))] [.box [aR 1 8 g43] false,bR 49 8 za (zg65 y41) g45 0,.box (zc2 a1) false,.box (zc9 x49) false,bR 49 8 za zg58 0 0] (Qp (u:=0) (n:=g43) (id:=1) za y41 zg58 (b:=88) t23 t49 rfl rfl rfl zX rfl h53 rfl (by omega) (by omega) (show ZE (aR 4 8 1) _=some zg60 from by kernel_rfl) (by kernel_rfl)) (by kernel_rfl) ?_
   obtain ⟨x54,h55,hm⟩:=bs hm
   refine dvd 19 (v:=.eptr 1 0 (zg64 y41) 8 (0+Int.toNat (y41.length:Int)) 0) (QQ (zg65 y41) .i64 (n:=(zg65 y41).length) (id:=1) (esz:=8) t23 t49 h55 rfl rfl (by kernel_rfl)) (by kernel_rfl) (dOd [] [.box [aR 1 8 g43] false,bR 49 8 za (zg69 y41 x51) (zg64 y41) 0,.box (zc2 a1) false,.box (zc9 x49) false,bR 49 8 za zg58 0 0] (ai4 za (zg65 y41) (zi x51) (n:=(zg65 y41).length) (esz:=8) (v:=.agg (zc7 x51)) (j:=(y41.length:Int)) (off:=0) (id:=1) t49 rfl h55 rfl (by first | exact Nat.zero_le _ | exact Nat.le_refl _ | assumption | omega | (simp only [List.length_set,List.length_append,List.length_cons,List.length_nil,List.length_replicate,List.length_drop] at * <;> omega)) rfl rfl rfl (zu x54) rfl (by kernel_rfl)) (by kernel_rfl) (std 1 [] [.box (zc21 y41) false,bR 49 8 za (zg69 y41 x51) (zg64 y41) 0,.box (zc2 a1) false,.box (zc9 x49) false,bR 49 8 za zg58 0 0] (by kernel_rfl) (find [(1,.ptr 0 0),(2,.ptr 2 0),(7,.pv (zg43 a1)),(8,aI (zg52 a1)),(9,aI y42)] rfl (by kernel_rfl) (by kernel_rfl) (dn [(1,.ptr 0 0),(2,.ptr 2 0),(7,.pv (zg43 a1)),(8,aI (zg52 a1)),(9,aI (IntKind.wrap .i64 (y42+1)))] ?_))))
   exact ⟨_,_,qd [(1,.ptr 0 0),(2,.ptr 2 0),(7,.pv (zg43 a1)),(8,aI (zg52 a1)),(9,aI (IntKind.wrap .i64 (y42+1)))] [.box (zc21 y41) false,bR 49 8 za (zg69 y41 x51) (zg64 y41) 0,.box (zc2 a1) false] (by kernel_rfl),⟨(zg69 y41 x51),(IntKind.wrap .i64 (y42+1)),(zg65 y41).length,(zg65 y41).length,hm,rfl,rfl,(by first | rfl | assumption | omega | (simp only [List.length_set,List.length_append,List.length_cons,List.length_nil,List.length_replicate,List.length_drop] at * <;> omega)),(by first | exact Nat.zero_le _ | exact Nat.le_refl _ | assumption | omega | (simp only [List.length_set,List.length_append,List.length_cons,List.length_nil,List.length_replicate,List.length_drop] at * <;> omega))⟩⟩
  ·
   refine c0 h48 (wp_exit ?_)
   exact ⟨y41,(zg67 y42 a1),y42,g43,g45,hm,rfl,rfl,(by first | rfl | assumption | omega | (simp only [List.length_set,List.length_append,List.length_cons,List.length_nil,List.length_replicate,List.length_drop] at * <;> omega)),(by first | exact Nat.zero_le _ | exact Nat.le_refl _ | assumption | omega | (simp only [List.length_set,List.length_append,List.length_cons,List.length_nil,List.length_replicate,List.length_drop] at * <;> omega))⟩
theorem acC {rc_plan_walk_plan_Applied_1_2:(Nat→(List zd)→zl→Option ((List zd)))} (ih_plan_walk_plan_Applied_1_2:∀ (m1:Nat) (f1:Nat) {n:Nat} {a0:(List zd)} {a1:zl} {r:(List zd)} (hm1:a0.length=m1) (hf1:f1≤a0.length) (hm:rc_plan_walk_plan_Applied_1_2 n a0 a1=some r),∃ vv H1,call G n 123 [.agg [aI a1.fKind,aI a1.fRel,.pv (zc za a1.fWhere),.pv (zc za a1.fLeft),.pv (zc za a1.fRight),.pv (zc za a1.fOut),.pv (zc zj a1.fAggs),.pv (zc zn a1.fOrder),.pv (zc zm a1.fKids)],.fn 124 [] [.ptr 0 0]] [.box [aR 1 8 m1] false,bR 49 8 za a0 f1 0]=some (.ret vv,H1)∧(match (generalizing:=false) r with | r0=>(∃ (e1:Nat) (e2:Nat),r0.length=e1∧e2≤r0.length∧vv=.tup []∧H1=[.box [aR 1 8 e1] false,bR 49 8 za r0 e2 0]))) (m1:Nat) (f1:Nat) {n:Nat} {a0:(List zd)} {a1:zl} {r:(List zd)} (hm1:a0.length=m1) (hf1:f1≤a0.length) (hm:qe rc_plan_walk_plan_Applied_1_2 n a0 a1=some r):
    ∃ vv H1,call G n 123 [.agg (zc2 a1),.fn 124 [] [.ptr 0 0]] [.box [aR 1 8 m1] false,bR 49 8 za a0 f1 0]=some (.ret vv,H1)∧(match (generalizing:=false) r with | r0=>(∃ (e1:Nat) (e2:Nat),r0.length=e1∧e2≤r0.length∧vv=.tup []∧H1=[.box [aR 1 8 e1] false,bR 49 8 za r0 e2 0])):=by
  unfold qe at hm
  obtain ⟨n,rfl,h0⟩:=zp hm
  replace hm:=h0; clear h0
  refine Qh 20 [(0,.agg (zc2 a1)),(1,.fn 124 [] [.ptr 0 0])] func123 rfl (by kernel_rfl) (sq (det [(1,.fn 124 [] [.ptr 0 0]),(2,.ptr 2 0)] [.box [aR 1 8 m1] false,bR 49 8 za a0 f1 0,.box (zc2 a1) false] (by kernel_rfl) ?_))
  obtain ⟨k8,hk8,hm⟩:=zw hm
  refine mid (fun t H=>(∃ (y1:(List zd)) (y2:Bool) (y3:Int) (g4:Nat) (g6:Nat),k8 y1=some r∧t=mk 20 [(1,.fn 124 [] [.ptr 0 0]),(2,.ptr 2 0),(7,.pv (zc zm a1.fKids)),(8,aI ((sll a1.fKids).length:Int)),(9,aI y3),(10,aB y2)]∧H=[.box [aR 1 8 g4] false,bR 49 8 za y1 g6 0,.box (zc2 a1) false]∧y1.length=g4∧g6≤y1.length)) ?_ ?_
  ·
   rintro _ _ ⟨y1,y2,y3,g4,g6,hm,rfl,rfl,q5,q7⟩
   subst hk8
   refine rg (s1 2 [(18,.agg (zc2 a1)),(17,.fn 124 [] [.ptr 0 0])] ?_)
   obtain ⟨x10,h9,hm⟩:=bs hm
   obtain ⟨vv,H1,hC,g11,g12,q13,q14,rfl,rfl⟩:=adf g4 g6 (by first | rfl | assumption | omega | (simp only [List.length_set,List.length_append,List.length_cons,List.length_nil,List.length_replicate,List.length_drop] at * <;> omega)) (by first | exact Nat.zero_le _ | exact Nat.le_refl _ | assumption | omega | (simp only [List.length_set,List.length_append,List.length_cons,List.length_nil,List.length_replicate,List.length_drop] at * <;> omega)) h9
   refine dR [(19,.tup [])] [.box [aR 1 8 g11] false,bR 49 8 za x10 g12 0,.box (zc2 a1) false] [0,1] [.agg (zc2 a1),.ptr 0 0] (by kernel_rfl) (by kernel_rfl) (by kernel_rfl) hC (by kernel_rfl) (fin [] rfl (by kernel_rfl) ?_)
   obtain rfl:=Option.some.inj hm
   exact ⟨trivial,.tup [],[.box [aR 1 8 g11] false,bR 49 8 za x10 g12 0],by kernel_rfl,g11,g12,(by first | rfl | assumption | omega | (simp only [List.length_set,List.length_append,List.length_cons,List.length_nil,List.length_replicate,List.length_drop] at * <;> omega)),(by first | exact Nat.zero_le _ | exact Nat.le_refl _ | assumption | omega | (simp only [List.length_set,List.length_append,List.length_cons,List.length_nil,List.length_replicate,List.length_drop] at * <;> omega)),rfl,rfl⟩
  refine sq (rg (s1 2 [(7,.pv (zc zm a1.fKids)),(6,.ptr 2 8)] (dv 8 (v:=aI ((sll a1.fKids).length:Int)) (zC zm a1.fKids t64 (by kernel_rfl)) (by kernel_rfl) (fq 1 [(1,.fn 124 [] [.ptr 0 0]),(2,.ptr 2 0),(7,.pv (zc zm a1.fKids)),(8,aI ((sll a1.fKids).length:Int)),(9,aI 0)] (bq ?_)))))
  refine qR (fun mm t H=>(∃ (y21:(List zd)) (y22:Int) (g23:Nat) (g25:Nat),zY n rc_plan_walk_plan_Applied_1_2 a1 k8 mm y21 y22=some r∧t=mk 20 [(1,.fn 124 [] [.ptr 0 0]),(2,.ptr 2 0),(7,.pv (zc zm a1.fKids)),(8,aI ((sll a1.fKids).length:Int)),(9,aI y22)]∧H=[.box [aR 1 8 g23] false,bR 49 8 za y21 g25 0,.box (zc2 a1) false]∧y21.length=g23∧g25≤y21.length)) (⟨a0,0,m1,f1,hm,rfl,rfl,(by first | rfl | assumption | omega | (simp only [List.length_set,List.length_append,List.length_cons,List.length_nil,List.length_replicate,List.length_drop] at * <;> omega)),(by first | exact Nat.zero_le _ | exact Nat.le_refl _ | assumption | omega | (simp only [List.length_set,List.length_append,List.length_cons,List.length_nil,List.length_replicate,List.length_drop] at * <;> omega))⟩) ?_ ?_
  · rintro _ _ ⟨y21,y22,g23,g25,hm,_⟩; exact nomatch hm
  rintro m27 _ _ ⟨y21,y22,g23,g25,hm,rfl,rfl,q24,q26⟩
  simp only [zY] at hm
  refine sq (dn [(1,.fn 124 [] [.ptr 0 0]),(2,.ptr 2 0),(7,.pv (zc zm a1.fKids)),(8,aI ((sll a1.fKids).length:Int)),(9,aI y22),(zp33 y22 a1)] ?_)
  refine sq ?_
  rcases zf hm with ⟨h28,hm⟩ | ⟨h28,hm⟩
  ·
   refine c1 h28 (wp_skip (sq (bq (sq (rg ?_)))))
   obtain ⟨x29,h30,hm⟩:=bs hm
   refine dv 11 (v:=.pv (.ptr (zg45 x29) 0)) (ZN zm a1.fKids .i64 t64 t66 h30 (ZK x29) rfl (by kernel_rfl)) (by kernel_rfl) (stf 3 [(1,.fn 124 [] [.ptr 0 0]),(2,.ptr 2 0),(5,.ptr 3 0),(7,.pv (zc zm a1.fKids)),(8,aI ((sll a1.fKids).length:Int)),(9,aI y22)] [.box [aR 1 8 g23] false,bR 49 8 za y21 g25 0,.box (zc2 a1) false,.box (zc3 x29) false] (by kernel_rfl) (rg (s1 2 [(14,.fn 124 [] [.ptr 0 0]),(13,.agg (zc3 x29))] ?_)))
   obtain ⟨x32,h31,hm⟩:=bs hm
   obtain ⟨vv,H1,hC,g33,g34,q35,q36,rfl,rfl⟩:=ih_plan_walk_plan_Applied_1_2 g23 g25 (by first | rfl | assumption | omega | (simp only [List.length_set,List.length_append,List.length_cons,List.length_nil,List.length_replicate,List.length_drop] at * <;> omega)) (by first | exact Nat.zero_le _ | exact Nat.le_refl _ | assumption | omega | (simp only [List.length_set,List.length_append,List.length_cons,List.length_nil,List.length_replicate,List.length_drop] at * <;> omega)) h31
   refine dR [(15,.tup [])] [.box [aR 1 8 g33] false,bR 49 8 za x32 g34 0,.box (zc2 a1) false,.box (zc3 x29) false] [0,1] [.agg (zc3 x29),.fn 124 [] [.ptr 0 0]] (by kernel_rfl) (by kernel_rfl) (by kernel_rfl) hC (by kernel_rfl) (fin [(1,.fn 124 [] [.ptr 0 0]),(2,.ptr 2 0),(7,.pv (zc zm a1.fKids)),(8,aI ((sll a1.fKids).length:Int)),(9,aI y22)] rfl (by kernel_rfl) (dn [(1,.fn 124 [] [.ptr 0 0]),(2,.ptr 2 0),(7,.pv (zc zm a1.fKids)),(8,aI ((sll a1.fKids).length:Int)),(9,aI (IntKind.wrap .i64 (y22+1)))] ?_))
   exact ⟨_,_,qd [(1,.fn 124 [] [.ptr 0 0]),(2,.ptr 2 0),(7,.pv (zc zm a1.fKids)),(8,aI ((sll a1.fKids).length:Int)),(9,aI (IntKind.wrap .i64 (y22+1)))] [.box [aR 1 8 g33] false,bR 49 8 za x32 g34 0,.box (zc2 a1) false] (by kernel_rfl),⟨x32,(IntKind.wrap .i64 (y22+1)),g33,g34,hm,rfl,rfl,(by first | rfl | assumption | omega | (simp only [List.length_set,List.length_append,List.length_cons,List.length_nil,List.length_replicate,List.length_drop] at * <;> omega)),(by first | exact Nat.zero_le _ | exact Nat.le_refl _ | assumption | omega | (simp only [List.length_set,List.length_append,List.length_cons,List.length_nil,List.length_replicate,List.length_drop] at * <;> omega))⟩⟩
  ·
   refine c0 h28 (wp_exit ?_)
   exact ⟨y21,(zg44 y22 a1),y22,g23,g25,hm,rfl,rfl,(by first | rfl | assumption | omega | (simp only [List.length_set,List.length_append,List.length_cons,List.length_nil,List.length_replicate,List.length_drop] at * <;> omega)),(by first | exact Nat.zero_le _ | exact Nat.le_refl _ | assumption | omega | (simp only [List.length_set,List.length_append,List.length_cons,List.length_nil,List.length_replicate,List.length_drop] at * <;> omega))⟩
theorem aai:∀ (m:Nat),∀ (m1:Nat) (f1:Nat) {n:Nat} {a0:(List zd)} {a1:zl} {r:(List zd)} (hm1:a0.length=m1) (hf1:f1≤a0.length) (hm:ZG m n a0 a1=some r),∃ vv H1,call G n 123 [.agg (zc2 a1),.fn 124 [] [.ptr 0 0]] [.box [aR 1 8 m1] false,bR 49 8 za a0 f1 0]=some (.ret vv,H1)∧(match (generalizing:=false) r with | r0=>(∃ (e1:Nat) (e2:Nat),r0.length=e1∧e2≤r0.length∧vv=.tup []∧H1=[.box [aR 1 8 e1] false,bR 49 8 za r0 e2 0]))
  | 0=>by intros; rename_i hm; exact nomatch hm
  | m+1=>@fun m1 f1 n a0 a1 r hm1 hf1 hm=>
    acC (aai m) m1 f1 hm1 hf1 hm
theorem acU (m1:Nat) (f1:Nat) {n:Nat} {a0:(List zd)} {a1:zl} {r:(List zd)} (hm1:a0.length=m1) (hf1:f1≤a0.length) (hm:QJ n a0 a1=some r):
    ∃ vv H1,call G n 123 [.agg (zc2 a1),.fn 124 [] [.ptr 0 0]] [.box [aR 1 8 m1] false,bR 49 8 za a0 f1 0]=some (.ret vv,H1)∧(match (generalizing:=false) r with | r0=>(∃ (e1:Nat) (e2:Nat),r0.length=e1∧e2≤r0.length∧vv=.tup []∧H1=[.box [aR 1 8 e1] false,bR 49 8 za r0 e2 0])):=aai n m1 f1 hm1 hf1 hm
theorem ade {rc_plan_walk_plan_Applied_1:(Nat→zl→Option ((Option (List zd))))} (ih_plan_walk_plan_Applied_1:∀ {n:Nat} {a0:zl} {r:(Option (List zd))} (hm:rc_plan_walk_plan_Applied_1 n a0=some r),∃ vv H1,call G n 123 [.agg [aI a0.fKind,aI a0.fRel,.pv (zc za a0.fWhere),.pv (zc za a0.fLeft),.pv (zc za a0.fRight),.pv (zc za a0.fOut),.pv (zc zj a0.fAggs),.pv (zc zn a0.fOrder),.pv (zc zm a0.fKids)],.fn 124 [] [.ptr 0 0]] [.box [.pv .nils] false]=some (.ret vv,H1)∧(match (generalizing:=false) r with | none=>(vv=.tup []∧H1=[.box [.pv .nils] false]) | some r0=>(∃ (e1:Nat) (e2:Nat),r0.length=e1∧e2≤r0.length∧vv=.tup []∧H1=[.box [aR 1 8 e1] false,bR 49 8 za r0 e2 0]))) {n:Nat} {a0:zl} {r:(Option (List zd))} (hm:qn rc_plan_walk_plan_Applied_1 n a0=some r):
    ∃ vv H1,call G n 123 [.agg (zc2 a0),.fn 124 [] [.ptr 0 0]] [.box [.pv .nils] false]=some (.ret vv,H1)∧(match (generalizing:=false) r with | none=>(vv=.tup []∧H1=[.box [.pv .nils] false]) | some r0=>(∃ (e1:Nat) (e2:Nat),r0.length=e1∧e2≤r0.length∧vv=.tup []∧H1=[.box [aR 1 8 e1] false,bR 49 8 za r0 e2 0])):=by
  unfold qn at hm
  obtain ⟨n,rfl,h0⟩:=zp hm
  replace hm:=h0; clear h0
  refine Qh 20 [(0,.agg (zc2 a0)),(1,.fn 124 [] [.ptr 0 0])] func123 rfl (by kernel_rfl) (sq (det [(1,.fn 124 [] [.ptr 0 0]),(2,.ptr 1 0)] [.box [.pv .nils] false,.box (zc2 a0) false] (by kernel_rfl) ?_))
  obtain ⟨k8,hk8,hm⟩:=zw hm
  refine mid (fun t H=>(∃ (w1:AV) (w2:AV),k8 none=some r∧t=mk 20 [(1,.fn 124 [] [.ptr 0 0]),(2,.ptr 1 0),(7,.pv (zc zm a0.fKids)),(8,aI ((sll a0.fKids).length:Int)),(9,w1),(10,w2)]∧H=[.box [.pv .nils] false,.box (zc2 a0) false])∨(∃ (y3:(List zd)) (w1:AV) (w2:AV) (g4:Nat) (g6:Nat),k8 (some y3)=some r∧t=mk 20 [(1,.fn 124 [] [.ptr 0 0]),(2,.ptr 1 0),(7,.pv (zc zm a0.fKids)),(8,aI ((sll a0.fKids).length:Int)),(9,w1),(10,w2)]∧H=[.box [aR 2 8 g4] false,.box (zc2 a0) false,bR 49 8 za y3 g6 0]∧y3.length=g4∧g6≤y3.length)) ?_ ?_
  ·
   rintro _ _ (⟨w1,w2,hm,rfl,rfl⟩ | ⟨y3,w1,w2,g4,g6,hm,rfl,rfl,q5,q7⟩)
   ·
    subst hk8
    refine rg (s1 2 [(18,.agg (zc2 a0)),(17,.fn 124 [] [.ptr 0 0])] ?_)
    obtain ⟨x11,h9,hm⟩:=bs hm
    rcases x11 with _ | x10
    ·
     obtain ⟨vv,H1,hC,rfl,rfl⟩:=adX h9
     refine dR [(19,.tup [])] [.box [.pv .nils] false,.box (zc2 a0) false] [0] [.agg (zc2 a0),.ptr 0 0] (by kernel_rfl) (by kernel_rfl) (by kernel_rfl) hC (by kernel_rfl) (fin [] rfl (by kernel_rfl) ?_)
     obtain rfl:=Option.some.inj hm
     exact ⟨trivial,.tup [],[.box [.pv .nils] false],by kernel_rfl,rfl,rfl⟩
    ·
     obtain ⟨vv,H1,hC,g12,g13,q14,q15,rfl,rfl⟩:=adX h9
     refine dR [(19,.tup [])] [.box [aR 2 8 g12] false,.box (zc2 a0) false,bR 49 8 za x10 g13 0] [0] [.agg (zc2 a0),.ptr 0 0] (by kernel_rfl) (by kernel_rfl) (by kernel_rfl) hC (by kernel_rfl) (fin [] rfl (by kernel_rfl) ?_)
     obtain rfl:=Option.some.inj hm
     exact ⟨trivial,.tup [],[.box [aR 1 8 g12] false,bR 49 8 za x10 g13 0],by kernel_rfl,g12,g13,(by first | rfl | assumption | omega | (simp only [List.length_set,List.length_append,List.length_cons,List.length_nil,List.length_replicate,List.length_drop] at * <;> omega)),(by first | exact Nat.zero_le _ | exact Nat.le_refl _ | assumption | omega | (simp only [List.length_set,List.length_append,List.length_cons,List.length_nil,List.length_replicate,List.length_drop] at * <;> omega)),rfl,rfl⟩
   ·
    subst hk8
    refine rg (s1 2 [(18,.agg (zc2 a0)),(17,.fn 124 [] [.ptr 0 0])] ?_)
    obtain ⟨x17,h16,hm⟩:=bs hm
    obtain ⟨vv,H1,hC,g18,g19,q20,q21,rfl,rfl⟩:=adf g4 g6 (by first | rfl | assumption | omega | (simp only [List.length_set,List.length_append,List.length_cons,List.length_nil,List.length_replicate,List.length_drop] at * <;> omega)) (by first | exact Nat.zero_le _ | exact Nat.le_refl _ | assumption | omega | (simp only [List.length_set,List.length_append,List.length_cons,List.length_nil,List.length_replicate,List.length_drop] at * <;> omega)) h16
    refine dR [(19,.tup [])] [.box [aR 2 8 g18] false,.box (zc2 a0) false,bR 49 8 za x17 g19 0] [0,2] [.agg (zc2 a0),.ptr 0 0] (by kernel_rfl) (by kernel_rfl) (by kernel_rfl) hC (by kernel_rfl) (fin [] rfl (by kernel_rfl) ?_)
    obtain rfl:=Option.some.inj hm
    exact ⟨trivial,.tup [],[.box [aR 1 8 g18] false,bR 49 8 za x17 g19 0],by kernel_rfl,g18,g19,(by first | rfl | assumption | omega | (simp only [List.length_set,List.length_append,List.length_cons,List.length_nil,List.length_replicate,List.length_drop] at * <;> omega)),(by first | exact Nat.zero_le _ | exact Nat.le_refl _ | assumption | omega | (simp only [List.length_set,List.length_append,List.length_cons,List.length_nil,List.length_replicate,List.length_drop] at * <;> omega)),rfl,rfl⟩
  refine sq (rg (s1 2 [(7,.pv (zc zm a0.fKids)),(6,.ptr 1 8)] (dv 8 (v:=aI ((sll a0.fKids).length:Int)) (zC zm a0.fKids t64 (by kernel_rfl)) (by kernel_rfl) (fq 1 [(1,.fn 124 [] [.ptr 0 0]),(2,.ptr 1 0),(7,.pv (zc zm a0.fKids)),(8,aI ((sll a0.fKids).length:Int)),(9,aI 0)] (bq ?_)))))
  refine qR (fun mm t H=>(∃ (y29:Int),zB n rc_plan_walk_plan_Applied_1 a0 k8 mm none y29=some r∧t=mk 20 [(1,.fn 124 [] [.ptr 0 0]),(2,.ptr 1 0),(7,.pv (zc zm a0.fKids)),(8,aI ((sll a0.fKids).length:Int)),(9,aI y29)]∧H=[.box [.pv .nils] false,.box (zc2 a0) false])∨(∃ (y28:(List zd)) (y29:Int) (g30:Nat) (g32:Nat),zB n rc_plan_walk_plan_Applied_1 a0 k8 mm (some y28) y29=some r∧t=mk 20 [(1,.fn 124 [] [.ptr 0 0]),(2,.ptr 1 0),(7,.pv (zc zm a0.fKids)),(8,aI ((sll a0.fKids).length:Int)),(9,aI y29)]∧H=[.box [aR 2 8 g30] false,.box (zc2 a0) false,bR 49 8 za y28 g32 0]∧y28.length=g30∧g32≤y28.length)) (.inl ⟨0,hm,rfl,rfl⟩) ?_ ?_
  · rintro _ _ (⟨y29,hm,_⟩ | ⟨y28,y29,g30,g32,hm,_⟩) <;> exact nomatch hm
  rintro m34 _ _ (⟨y29,hm,rfl,rfl⟩ | ⟨y28,y29,g30,g32,hm,rfl,rfl,q31,q33⟩)
  ·
   simp only [zB] at hm
   refine sq (dn [(1,.fn 124 [] [.ptr 0 0]),(2,.ptr 1 0),(7,.pv (zc zm a0.fKids)),(8,aI ((sll a0.fKids).length:Int)),(9,aI y29),(zp33 y29 a0)] ?_)
   refine sq ?_
   rcases zf hm with ⟨h35,hm⟩ | ⟨h35,hm⟩
   ·
    refine c1 h35 (wp_skip (sq (bq (sq (rg ?_)))))
    obtain ⟨x36,h37,hm⟩:=bs hm
    refine dv 11 (v:=.pv (.ptr (zg45 x36) 0)) (ZN zm a0.fKids .i64 t64 t66 h37 (ZK x36) rfl (by kernel_rfl)) (by kernel_rfl) (stf 3 [(1,.fn 124 [] [.ptr 0 0]),(2,.ptr 1 0),(5,.ptr 2 0),(7,.pv (zc zm a0.fKids)),(8,aI ((sll a0.fKids).length:Int)),(9,aI y29)] [.box [.pv .nils] false,.box (zc2 a0) false,.box (zc3 x36) false] (by kernel_rfl) (rg (s1 2 [(14,.fn 124 [] [.ptr 0 0]),(13,.agg (zc3 x36))] ?_)))
    obtain ⟨x40,h38,hm⟩:=bs hm
    rcases x40 with _ | x39
    ·
     obtain ⟨vv,H1,hC,rfl,rfl⟩:=ih_plan_walk_plan_Applied_1 h38
     refine dR [(15,.tup [])] [.box [.pv .nils] false,.box (zc2 a0) false,.box (zc3 x36) false] [0] [.agg (zc3 x36),.fn 124 [] [.ptr 0 0]] (by kernel_rfl) (by kernel_rfl) (by kernel_rfl) hC (by kernel_rfl) (fin [(1,.fn 124 [] [.ptr 0 0]),(2,.ptr 1 0),(7,.pv (zc zm a0.fKids)),(8,aI ((sll a0.fKids).length:Int)),(9,aI y29)] rfl (by kernel_rfl) (dn [(1,.fn 124 [] [.ptr 0 0]),(2,.ptr 1 0),(7,.pv (zc zm a0.fKids)),(8,aI ((sll a0.fKids).length:Int)),(9,aI (IntKind.wrap .i64 (y29+1)))] ?_))
     exact ⟨_,_,qd [(1,.fn 124 [] [.ptr 0 0]),(2,.ptr 1 0),(7,.pv (zc zm a0.fKids)),(8,aI ((sll a0.fKids).length:Int)),(9,aI (IntKind.wrap .i64 (y29+1)))] [.box [.pv .nils] false,.box (zc2 a0) false] (by kernel_rfl),.inl ⟨(IntKind.wrap .i64 (y29+1)),hm,rfl,rfl⟩⟩
    ·
     obtain ⟨vv,H1,hC,g41,g42,q43,q44,rfl,rfl⟩:=ih_plan_walk_plan_Applied_1 h38
     refine dR [(15,.tup [])] [.box [aR 3 8 g41] false,.box (zc2 a0) false,.box (zc3 x36) false,bR 49 8 za x39 g42 0] [0] [.agg (zc3 x36),.fn 124 [] [.ptr 0 0]] (by kernel_rfl) (by kernel_rfl) (by kernel_rfl) hC (by kernel_rfl) (fin [(1,.fn 124 [] [.ptr 0 0]),(2,.ptr 1 0),(7,.pv (zc zm a0.fKids)),(8,aI ((sll a0.fKids).length:Int)),(9,aI y29)] rfl (by kernel_rfl) (dn [(1,.fn 124 [] [.ptr 0 0]),(2,.ptr 1 0),(7,.pv (zc zm a0.fKids)),(8,aI ((sll a0.fKids).length:Int)),(9,aI (IntKind.wrap .i64 (y29+1)))] ?_))
     exact ⟨_,_,qd [(1,.fn 124 [] [.ptr 0 0]),(2,.ptr 1 0),(7,.pv (zc zm a0.fKids)),(8,aI ((sll a0.fKids).length:Int)),(9,aI (IntKind.wrap .i64 (y29+1)))] [.box [aR 2 8 g41] false,.box (zc2 a0) false,bR 49 8 za x39 g42 0] (by kernel_rfl),.inr (⟨x39,(IntKind.wrap .i64 (y29+1)),g41,g42,hm,rfl,rfl,(by first | rfl | assumption | omega | (simp only [List.length_set,List.length_append,List.length_cons,List.length_nil,List.length_replicate,List.length_drop] at * <;> omega)),(by first | exact Nat.zero_le _ | exact Nat.le_refl _ | assumption | omega | (simp only [List.length_set,List.length_append,List.length_cons,List.length_nil,List.length_replicate,List.length_drop] at * <;> omega))⟩)⟩
   ·
    refine c0 h35 (wp_exit ?_)
    exact .inl ⟨aI y29,aB (zg44 y29 a0),hm,(zJ (by kernel_rfl)),rfl⟩
  ·
   simp only [zB] at hm
   refine sq (dn [(1,.fn 124 [] [.ptr 0 0]),(2,.ptr 1 0),(7,.pv (zc zm a0.fKids)),(8,aI ((sll a0.fKids).length:Int)),(9,aI y29),(zp33 y29 a0)] ?_)
   refine sq ?_
   rcases zf hm with ⟨h45,hm⟩ | ⟨h45,hm⟩
   ·
    refine c1 h45 (wp_skip (sq (bq (sq (rg ?_)))))
    obtain ⟨x46,h47,hm⟩:=bs hm
    refine dv 11 (v:=.pv (.ptr (zg45 x46) 0)) (ZN zm a0.fKids .i64 t64 t66 h47 (ZK x46) rfl (by kernel_rfl)) (by kernel_rfl) (stf 3 [(1,.fn 124 [] [.ptr 0 0]),(2,.ptr 1 0),(5,.ptr 3 0),(7,.pv (zc zm a0.fKids)),(8,aI ((sll a0.fKids).length:Int)),(9,aI y29)] [.box [aR 2 8 g30] false,.box (zc2 a0) false,bR 49 8 za y28 g32 0,.box (zc3 x46) false] (by kernel_rfl) (rg (s1 2 [(14,.fn 124 [] [.ptr 0 0]),(13,.agg (zc3 x46))] ?_)))
    obtain ⟨x49,h48,hm⟩:=bs hm
    obtain ⟨vv,H1,hC,g50,g51,q52,q53,rfl,rfl⟩:=acU g30 g32 (by first | rfl | assumption | omega | (simp only [List.length_set,List.length_append,List.length_cons,List.length_nil,List.length_replicate,List.length_drop] at * <;> omega)) (by first | exact Nat.zero_le _ | exact Nat.le_refl _ | assumption | omega | (simp only [List.length_set,List.length_append,List.length_cons,List.length_nil,List.length_replicate,List.length_drop] at * <;> omega)) h48
    refine dR [(15,.tup [])] [.box [aR 2 8 g50] false,.box (zc2 a0) false,bR 49 8 za x49 g51 0,.box (zc3 x46) false] [0,2] [.agg (zc3 x46),.fn 124 [] [.ptr 0 0]] (by kernel_rfl) (by kernel_rfl) (by kernel_rfl) hC (by kernel_rfl) (fin [(1,.fn 124 [] [.ptr 0 0]),(2,.ptr 1 0),(7,.pv (zc zm a0.fKids)),(8,aI ((sll a0.fKids).length:Int)),(9,aI y29)] rfl (by kernel_rfl) (dn [(1,.fn 124 [] [.ptr 0 0]),(2,.ptr 1 0),(7,.pv (zc zm a0.fKids)),(8,aI ((sll a0.fKids).length:Int)),(9,aI (IntKind.wrap .i64 (y29+1)))] ?_))
    exact ⟨_,_,qd [(1,.fn 124 [] [.ptr 0 0]),(2,.ptr 1 0),(7,.pv (zc zm a0.fKids)),(8,aI ((sll a0.fKids).length:Int)),(9,aI (IntKind.wrap .i64 (y29+1)))] [.box [aR 2 8 g50] false,.box (zc2 a0) false,bR 49 8 za x49 g51 0] (by kernel_rfl),.inr (⟨x49,(IntKind.wrap .i64 (y29+1)),g50,g51,hm,rfl,rfl,(by first | rfl | assumption | omega | (simp only [List.length_set,List.length_append,List.length_cons,List.length_nil,List.length_replicate,List.length_drop] at * <;> omega)),(by first | exact Nat.zero_le _ | exact Nat.le_refl _ | assumption | omega | (simp only [List.length_set,List.length_append,List.length_cons,List.length_nil,List.length_replicate,List.length_drop] at * <;> omega))⟩)⟩
   ·
    refine c0 h45 (wp_exit ?_)
    exact .inr (⟨y28,aI y29,aB (zg44 y29 a0),g30,g32,hm,(zJ (by kernel_rfl)),rfl,(by first | rfl | assumption | omega | (simp only [List.length_set,List.length_append,List.length_cons,List.length_nil,List.length_replicate,List.length_drop] at * <;> omega)),(by first | exact Nat.zero_le _ | exact Nat.le_refl _ | assumption | omega | (simp only [List.length_set,List.length_append,List.length_cons,List.length_nil,List.length_replicate,List.length_drop] at * <;> omega))⟩)
theorem aaM:∀ (m:Nat),∀ {n:Nat} {a0:zl} {r:(Option (List zd))} (hm:ZP m n a0=some r),∃ vv H1,call G n 123 [.agg (zc2 a0),.fn 124 [] [.ptr 0 0]] [.box [.pv .nils] false]=some (.ret vv,H1)∧(match (generalizing:=false) r with | none=>(vv=.tup []∧H1=[.box [.pv .nils] false]) | some r0=>(∃ (e1:Nat) (e2:Nat),r0.length=e1∧e2≤r0.length∧vv=.tup []∧H1=[.box [aR 1 8 e1] false,bR 49 8 za r0 e2 0]))
  | 0=>by intros; rename_i hm; exact nomatch hm
  | m+1=>fun hm=>
    ade (aaM m) hm
theorem aaZ {n:Nat} {a0:zl} {r:(Option (List zd))} (hm:Q9 n a0=some r):
    ∃ vv H1,call G n 123 [.agg (zc2 a0),.fn 124 [] [.ptr 0 0]] [.box [.pv .nils] false]=some (.ret vv,H1)∧(match (generalizing:=false) r with | none=>(vv=.tup []∧H1=[.box [.pv .nils] false]) | some r0=>(∃ (e1:Nat) (e2:Nat),r0.length=e1∧e2≤r0.length∧vv=.tup []∧H1=[.box [aR 1 8 e1] false,bR 49 8 za r0 e2 0])):=aaM n hm
theorem ahW {n:Nat} {a0:zl} {r:(Option (List zd))} (hm:aas n a0=some r):
    call G n 34 [.agg (zc2 a0)] []=some (.ret (.pv (zc za r)),[]):=by
  unfold aas at hm
  obtain ⟨n,rfl,h0⟩:=zp hm
  replace hm:=h0; clear h0
  refine Zt 8 [(0,.agg (zc2 a0))] func34 rfl (by kernel_rfl) (sq (det [(1,.ptr 0 0)] [.box (zc2 a0) false] (by kernel_rfl) (sq (det [(1,.ptr 0 0),(3,.ptr 1 0)] [.box (zc2 a0) false,.box [.pv .nils] false] (by kernel_rfl) (sq (rg (s1 2 [(5,.fn 124 [] [.ptr 1 0]),(4,.agg (zc2 a0))] ?_)))))))
  obtain ⟨x3,h1,hm⟩:=bs hm
  rcases x3 with _ | x2
  ·
   obtain ⟨vv,H1,hC,rfl,rfl⟩:=aaZ h1
   refine dR [(6,.tup [])] [.box (zc2 a0) false,.box [.pv .nils] false] [1] [.agg (zc2 a0),.fn 124 [] [.ptr 1 0]] (by kernel_rfl) (by kernel_rfl) (by kernel_rfl) hC (by kernel_rfl) (fin [(3,.ptr 1 0)] rfl (by kernel_rfl) (sq (dn [(2,.pv .nils)] (wp_ret ?_))))
   obtain rfl:=Option.some.inj hm
   exact ⟨trivial,by kernel_rfl⟩
  ·
   obtain ⟨vv,H1,hC,g4,g5,q6,q7,rfl,rfl⟩:=aaZ h1
   refine dR [(6,.tup [])] [.box (zc2 a0) false,.box [aR 2 8 g4] false,bR 49 8 za x2 g5 0] [1] [.agg (zc2 a0),.fn 124 [] [.ptr 1 0]] (by kernel_rfl) (by kernel_rfl) (by kernel_rfl) hC (by kernel_rfl) (fin [(3,.ptr 1 0)] rfl (by kernel_rfl) (sq (dn [(2,aR 2 8 g4)] (wp_ret ?_))))
   obtain rfl:=Option.some.inj hm
   exact adz (v:=aR 2 8 g4) trivial rfl (by kernel_rfl) (aho (ack (n:=g4) (id:=2) (l:=x2) (R:=za) rfl (by omega) (by omega)))
theorem ac0 {n:Nat} {a0:(Option (List zd))} {r:(Option (List zd))} (hm:Q7 n a0=some r):
    ∃ vv H1,call G n 212 [.pv (zc za a0)] []=some (.ret vv,H1)∧(match (generalizing:=false) r with | none=>(vv=.pv .nils∧H1=[]) | some r0=>(∃ (e1:Nat),r0.length=e1∧vv=aR 0 8 e1∧H1=[bR 49 8 za r0 0 0])):=by
  unfold Q7 at hm
  obtain ⟨n,rfl,h0⟩:=zp hm
  replace hm:=h0; clear h0
  refine Qh 8 [(0,.pv (zc za a0))] func212 rfl (by kernel_rfl) (sq (dn [(0,.pv (zc za a0))] (sq (sq (rg (s1 1 [(3,.pv (zc za a0))] (dv 4 (v:=aB (a0.isNone)) (alv za a0 t23 (by kernel_rfl)) (by kernel_rfl) (fin [(0,.pv (zc za a0)),(4,aB (a0.isNone))] rfl (by kernel_rfl) ?_))))))))
  rcases zf hm with ⟨h1,hm⟩ | ⟨h1,hm⟩
  ·
   refine c1 h1 (sq (dn [(2,.pv .nils)] (wp_ret ?_)))
   obtain rfl:=Option.some.inj hm
   exact ⟨trivial,.pv .nils,[],by kernel_rfl,rfl,rfl⟩
  ·
   refine c0 h1 (wp_skip (sq (rg (st 2 [(6,.pv (zc za a0)),(5,aR 0 8 0)] [bR 49 8 za ([]:List zd) 0 0] (by kernel_rfl) ?_))))
   rcases zf hm with ⟨h2,hm⟩ | ⟨h2,hm⟩
   ·
    obtain ⟨_,h3,hm⟩:=bs hm
    refine dv 7 (v:=aR 0 8 0) (adu (u:=0) (y:=.pv (zc za a0)) (n:=0) (id:=0) za ([]:List zd) (sll a0) (b:=88) t23 t49 rfl rfl rfl h2 h3 rfl (by first | rfl | assumption | omega | (simp only [List.length_set,List.length_append,List.length_cons,List.length_nil,List.length_replicate,List.length_drop] at * <;> omega)) (Nat.zero_le _) (ada (R:=za) (s:=a0)) (by kernel_rfl)) (by kernel_rfl) (fq 1 [(2,aR 0 8 0)] (wp_ret ?_))
    obtain rfl:=Option.some.inj hm
    exact ⟨trivial,aR 0 8 0,[bR 49 8 za ([]:List zd) 0 0],by kernel_rfl,0,(by first | rfl | assumption | omega | (simp only [List.length_set,List.length_append,List.length_cons,List.length_nil,List.length_replicate,List.length_drop] at * <;> omega)),rfl,rfl⟩
   ·
    obtain ⟨_,h4,hm⟩:=bs hm
    refine dO [(7,aR 0 8 ((([]:List zd)++(sll a0)).length))] [bR 49 8 za (([]:List zd)++(sll a0)) 0 0] (Qp (u:=0) (n:=0) (id:=0) za ([]:List zd) (sll a0) (b:=88) t23 t49 rfl rfl rfl zX h2 h4 rfl (by first | rfl | assumption | omega | (simp only [List.length_set,List.length_append,List.length_cons,List.length_nil,List.length_replicate,List.length_drop] at * <;> omega)) (Nat.zero_le _) (ada (R:=za) (s:=a0)) (by kernel_rfl)) (by kernel_rfl) (fq 1 [(2,aR 0 8 ((([]:List zd)++(sll a0)).length))] (wp_ret ?_))
    obtain rfl:=Option.some.inj hm
    exact ⟨trivial,aR 0 8 ((([]:List zd)++(sll a0)).length),[bR 49 8 za (([]:List zd)++(sll a0)) 0 0],by kernel_rfl,(([]:List zd)++(sll a0)).length,(by first | rfl | assumption | omega | (simp only [List.length_set,List.length_append,List.length_cons,List.length_nil,List.length_replicate,List.length_drop] at * <;> omega)),rfl,rfl⟩
abbrev zg70 (p0:zh):=(((sll p0.fKids).length:Int) == 2)
theorem aiJ {n:Nat} {a0:zh} {a1:zh} {r:Bool} (hm:abY n a0 a1=some r):
    call G n 215 [.agg (zc7 a0),.agg (zc7 a1)] []=some (.ret (aB r),[]):=by
  unfold abY at hm
  obtain ⟨n,rfl,h0⟩:=zp hm
  replace hm:=h0; clear h0
  refine Zt 50 [(0,.agg (zc7 a0)),(1,.agg (zc7 a1))] func215 rfl (by kernel_rfl) (sq (det [(2,.ptr 0 0),(3,.ptr 1 0)] [.box (zc7 a0) false,.box (zc7 a1) false] (by kernel_rfl) ?_))
  refine sq (sq (rg (s1 2 [(6,.agg (zc7 a1)),(5,.agg (zc7 a0))] ?_)))
  obtain ⟨x1,h2,hm⟩:=bs hm
  refine dv 7 (zF (by kernel_rfl) (ab7 (fun h=>ZQ h) h2) (by kernel_rfl) (by kernel_rfl) (by kernel_rfl)) (by kernel_rfl) (fin [(2,.ptr 0 0),(3,.ptr 1 0),(7,aB x1)] rfl (by kernel_rfl) ?_)
  rcases zf hm with ⟨h3,hm⟩ | ⟨h3,hm⟩
  ·
   refine c1 h3 (sq (dn [(4,aB true)] (wp_ret ?_)))
   obtain rfl:=Option.some.inj hm
   exact ⟨trivial,by kernel_rfl⟩
  ·
   refine c0 h3 (wp_skip (sq (rgd (shd 4 [(11,aB (a0.fKind == 7)),(10,aB (a0.fKind == 7)),(9,aI a0.fKind),(8,.ptr 0 0)] (by kernel_rfl) ?_))))
   rcases zf hm with ⟨h4,hm⟩ | ⟨h4,hm⟩
   ·
    refine qj [11,10] h4 (by kernel_rfl) (shd 5 [(16,aB (a1.fKind == 7)),(15,aB (a1.fKind == 7)),(14,aB (a1.fKind == 7)),(13,aI a1.fKind),(12,.ptr 1 0)] (by kernel_rfl) ?_)
    rcases zf hm with ⟨h5,hm⟩ | ⟨h5,hm⟩
    ·
     refine qj [16,15,14] h5 (by kernel_rfl) (shd 2 [(18,.pv (zc za a0.fKids)),(17,.ptr 0 7)] (by kernel_rfl) (dvd 19 (v:=aI ((sll a0.fKids).length:Int)) (zC za a0.fKids t23 (by kernel_rfl)) (by kernel_rfl) (shd 3 [(22,aB (zg70 a0)),(21,aB (zg70 a0)),(20,aB (zg70 a0))] (by kernel_rfl) ?_)))
     rcases zf hm with ⟨h6,hm⟩ | ⟨h6,hm⟩
     ·
      refine qj [22,21,20] h6 (by kernel_rfl) (shd 2 [(24,.pv (zc za a1.fKids)),(23,.ptr 1 7)] (by kernel_rfl) (dvd 25 (v:=aI ((sll a1.fKids).length:Int)) (zC za a1.fKids t23 (by kernel_rfl)) (by kernel_rfl) (shd 3 [(28,aB (zg70 a1)),(27,aB (zg70 a1)),(26,aB (zg70 a1))] (by kernel_rfl) ?_)))
      rcases zf hm with ⟨h7,hm⟩ | ⟨h7,hm⟩
      ·
       refine qj [28,27,26] h7 (by kernel_rfl) (shd 2 [(30,.pv (zc za a0.fKids)),(29,.ptr 0 7)] (by kernel_rfl) ?_)
       obtain ⟨x8,h9,hm⟩:=bs hm
       refine dvd 31 (v:=.pv (.ptr (Zy (zg x8)) 0)) (ZN za a0.fKids .i64 t23 t49 h9 (zu x8) rfl (by kernel_rfl)) (by kernel_rfl) (shd 3 [(34,.pv (zc za a1.fKids)),(33,.ptr 1 7),(32,.agg (zc9 x8))] (by kernel_rfl) ?_)
       obtain ⟨x10,h11,hm⟩:=bs hm
       refine dvd 35 (v:=.pv (.ptr (zg40 x10) 0)) (ZN za a1.fKids .i64 t23 t49 h11 (zu x10) rfl (by kernel_rfl)) (by kernel_rfl) (shd 1 [(36,.agg (zc9 x10))] (by kernel_rfl) ?_)
       obtain ⟨x12,h13,hm⟩:=bs hm
       refine dvd 37 (zF (by kernel_rfl) (ab7 (fun h=>ZQ h) h13) (by kernel_rfl) (by kernel_rfl) (by kernel_rfl)) (by kernel_rfl) (shd 2 [(39,aB x12),(38,aB x12)] (by kernel_rfl) ?_)
       rcases zf hm with ⟨h14,hm⟩ | ⟨h14,hm⟩
       ·
        refine qj [39,38,37] h14 (by kernel_rfl) (shd 2 [(41,.pv (zc za a0.fKids)),(40,.ptr 0 7)] (by kernel_rfl) ?_)
        obtain ⟨x15,h16,hm⟩:=bs hm
        refine dvd 42 (v:=.pv (.ptr (zg40 x15) 0)) (ZN za a0.fKids .i64 t23 t49 h16 (zu x15) rfl (by kernel_rfl)) (by kernel_rfl) (shd 3 [(45,.pv (zc za a1.fKids)),(44,.ptr 1 7),(43,.agg (zc9 x15))] (by kernel_rfl) ?_)
        obtain ⟨x17,h18,hm⟩:=bs hm
        refine dvd 46 (v:=.pv (.ptr (zg40 x17) 0)) (ZN za a1.fKids .i64 t23 t49 h18 (zu x17) rfl (by kernel_rfl)) (by kernel_rfl) (shd 1 [(47,.agg (zc9 x17))] (by kernel_rfl) ?_)
        obtain ⟨x19,h20,hm⟩:=bs hm
        refine dvd 48 (zF (by kernel_rfl) (ab7 (fun h=>ZQ h) h20) (by kernel_rfl) (by kernel_rfl) (by kernel_rfl)) (by kernel_rfl) (shd 2 [(4,aB x19),(49,aB x19)] (by kernel_rfl) (find [(4,aB x19)] rfl (by kernel_rfl) (by kernel_rfl) (wp_ret ?_)))
        obtain rfl:=Option.some.inj hm
        exact ⟨trivial,by kernel_rfl⟩
       ·
        refine qj [39,38,37] h14 (by kernel_rfl) (shd 11 [(4,aB false),(49,aB false),(48,.undef),(47,.undef),(46,.undef),(45,.undef),(44,.undef),(43,.undef),(42,.undef),(41,.undef),(40,.undef)] (by kernel_rfl) (find [(4,aB false)] rfl (by kernel_rfl) (by kernel_rfl) (wp_ret ?_)))
        obtain rfl:=Option.some.inj hm
        exact ⟨trivial,by kernel_rfl⟩
      ·
       refine qj [28,27,26] h7 (by kernel_rfl) (shd 22 [(4,aB false),(49,aB false),(48,.undef),(47,.undef),(46,.undef),(45,.undef),(44,.undef),(43,.undef),(42,.undef),(41,.undef),(40,.undef),(39,aB false),(38,aB false),(37,.undef),(36,.undef),(35,.undef),(34,.undef),(33,.undef),(32,.undef),(31,.undef),(30,.undef),(29,.undef)] (by kernel_rfl) (find [(4,aB false)] rfl (by kernel_rfl) (by kernel_rfl) (wp_ret ?_)))
       obtain rfl:=Option.some.inj hm
       exact ⟨trivial,by kernel_rfl⟩
     ·
      refine qj [22,21,20] h6 (by kernel_rfl) (shd 28 [(4,aB false),(49,aB false),(48,.undef),(47,.undef),(46,.undef),(45,.undef),(44,.undef),(43,.undef),(42,.undef),(41,.undef),(40,.undef),(39,aB false),(38,aB false),(37,.undef),(36,.undef),(35,.undef),(34,.undef),(33,.undef),(32,.undef),(31,.undef),(30,.undef),(29,.undef),(28,aB false),(27,aB false),(26,.undef),(25,.undef),(24,.undef),(23,.undef)] (by kernel_rfl) (find [(4,aB false)] rfl (by kernel_rfl) (by kernel_rfl) (wp_ret ?_)))
      obtain rfl:=Option.some.inj hm
      exact ⟨trivial,by kernel_rfl⟩
    ·
     refine qj [16,15,14] h5 (by kernel_rfl) (shd 34 [(4,aB false),(49,aB false),(48,.undef),(47,.undef),(46,.undef),(45,.undef),(44,.undef),(43,.undef),(42,.undef),(41,.undef),(40,.undef),(39,aB false),(38,aB false),(37,.undef),(36,.undef),(35,.undef),(34,.undef),(33,.undef),(32,.undef),(31,.undef),(30,.undef),(29,.undef),(28,aB false),(27,aB false),(26,.undef),(25,.undef),(24,.undef),(23,.undef),(22,aB false),(21,aB false),(20,.undef),(19,.undef),(18,.undef),(17,.undef)] (by kernel_rfl) (find [(4,aB false)] rfl (by kernel_rfl) (by kernel_rfl) (wp_ret ?_)))
     obtain rfl:=Option.some.inj hm
     exact ⟨trivial,by kernel_rfl⟩
   ·
    refine qj [11,10] h4 (by kernel_rfl) (shd 39 [(4,aB false),(49,aB false),(48,.undef),(47,.undef),(46,.undef),(45,.undef),(44,.undef),(43,.undef),(42,.undef),(41,.undef),(40,.undef),(39,aB false),(38,aB false),(37,.undef),(36,.undef),(35,.undef),(34,.undef),(33,.undef),(32,.undef),(31,.undef),(30,.undef),(29,.undef),(28,aB false),(27,aB false),(26,.undef),(25,.undef),(24,.undef),(23,.undef),(22,aB false),(21,aB false),(20,.undef),(19,.undef),(18,.undef),(17,.undef),(16,aB false),(15,aB false),(14,.undef),(13,.undef),(12,.undef)] (by kernel_rfl) (find [(4,aB false)] rfl (by kernel_rfl) (by kernel_rfl) (wp_ret ?_)))
    obtain rfl:=Option.some.inj hm
    exact ⟨trivial,by kernel_rfl⟩
theorem agJ {n:Nat} {a0:zh} {a1:Int} {a2:Int} {a3:Int} {a4:Int} {a5:Int} {a6:Nat} {a7:ByteArray} {a8:(Option (List zd))} {r:Bool} (hm:ach n a0 a1 a2 a3 a4 a5 a6 a7 a8=some r):
    call G n 214 [.agg (zc7 a0),.pv (.ptr [.int .i64 a1,.int .i64 a2,.int .i64 a3,.int .i64 a4,.int .i64 a5,.flt .f64 a6,.str a7,zc za a8] 0)] []=some (.ret (aB r),[]):=by
  unfold ach at hm
  obtain ⟨n,rfl,h0⟩:=zp hm
  replace hm:=h0; clear h0
  refine Zt 7 [(0,.agg (zc7 a0)),(1,.pv (.ptr [.int .i64 a1,.int .i64 a2,.int .i64 a3,.int .i64 a4,.int .i64 a5,.flt .f64 a6,.str a7,zc za a8] 0))] func214 rfl (by kernel_rfl) (sq (det [(1,.pv (.ptr [.int .i64 a1,.int .i64 a2,.int .i64 a3,.int .i64 a4,.int .i64 a5,.flt .f64 a6,.str a7,zc za a8] 0)),(2,.ptr 0 0)] [.box (zc7 a0) false] (by kernel_rfl) (sq (rg (s1 2 [(5,.agg (zc7 a0)),(4,.agg (zc10 a1 a2 a3 a4 a5 a6 a7 a8))] ?_)))))
  obtain ⟨x1,h2,hm⟩:=bs hm
  refine dv 6 (zF (by kernel_rfl) (aiJ h2) (by kernel_rfl) (by kernel_rfl) (by kernel_rfl)) (by kernel_rfl) (fq 1 [(3,aB x1)] (wp_ret ?_))
  obtain rfl:=Option.some.inj hm
  exact ⟨trivial,by kernel_rfl⟩
abbrev zp38 (p0:Int) (p1:Int) (p2:Int) (p3:Int) (p4:Int) (p5:Nat) (p6:ByteArray) (p7:(Option (List zd))):Nat × AV:=(1,.pv (.fn 214 [] [.ptr [.int .i64 p0,.int .i64 p1,.int .i64 p2,.int .i64 p3,.int .i64 p4,.flt .f64 p5,.str p6,zc za p7] 0]))
theorem Qg {n:Nat} {a0:(Option (List zd))} {a1:Int} {a2:Int} {a3:Int} {a4:Int} {a5:Int} {a6:Nat} {a7:ByteArray} {a8:(Option (List zd))} {r:Int} (hm:Zw n a0 a1 a2 a3 a4 a5 a6 a7 a8=some r):
    call G n 213 [.pv (zc za a0),.pv (.fn 214 [] [.ptr [.int .i64 a1,.int .i64 a2,.int .i64 a3,.int .i64 a4,.int .i64 a5,.flt .f64 a6,.str a7,zc za a8] 0])] []=some (.ret (aI r),[]):=by
  unfold Zw at hm
  obtain ⟨n,rfl,h0⟩:=zp hm
  replace hm:=h0; clear h0
  refine Zt 19 [(0,.pv (zc za a0)),(zp38 a1 a2 a3 a4 a5 a6 a7 a8)] func213 rfl (by kernel_rfl) (sq (dn [(0,.pv (zc za a0)),(zp38 a1 a2 a3 a4 a5 a6 a7 a8)] ?_))
  obtain ⟨k3,hk3,hm⟩:=zw hm
  refine mid (fun t H=>(∃ (y1:Int) (y2:Bool),k3 ()=some r∧t=mk 19 [(0,.pv (zc za a0)),(zp38 a1 a2 a3 a4 a5 a6 a7 a8),(7,aI ((sll a0).length:Int)),(8,aI y1),(9,aB y2)]∧H=[])) ?_ ?_
  ·
   rintro _ _ ⟨y1,y2,hm,rfl,rfl⟩
   subst hk3
   refine sq (dn [(4,aI (-1))] (wp_ret ?_))
   obtain rfl:=Option.some.inj hm
   exact ⟨trivial,by kernel_rfl⟩
  refine sq (rg (s1 1 [(6,.pv (zc za a0))] (dv 7 (v:=aI ((sll a0).length:Int)) (zC za a0 t23 (by kernel_rfl)) (by kernel_rfl) (fq 1 [(0,.pv (zc za a0)),(zp38 a1 a2 a3 a4 a5 a6 a7 a8),(7,aI ((sll a0).length:Int)),(8,aI 0)] (bq ?_)))))
  refine qR (fun mm t H=>(∃ (y5:Int),zL n a0 a1 a2 a3 a4 a5 a6 a7 a8 k3 mm y5=some r∧t=mk 19 [(0,.pv (zc za a0)),(zp38 a1 a2 a3 a4 a5 a6 a7 a8),(7,aI ((sll a0).length:Int)),(8,aI y5)]∧H=[])) (⟨0,hm,rfl,rfl⟩) ?_ ?_
  · rintro _ _ ⟨y5,hm,_⟩; exact nomatch hm
  rintro m6 _ _ ⟨y5,hm,rfl,rfl⟩
  simp only [zL] at hm
  refine sq (dn [(0,.pv (zc za a0)),(zp38 a1 a2 a3 a4 a5 a6 a7 a8),(7,aI ((sll a0).length:Int)),(8,aI y5),(9,aB (zg39 y5 a0))] ?_)
  refine sq ?_
  rcases zf hm with ⟨h7,hm⟩ | ⟨h7,hm⟩
  ·
   refine c1 h7 (wp_skip (sq (bq (sq (dn [(0,.pv (zc za a0)),(zp38 a1 a2 a3 a4 a5 a6 a7 a8),(5,aI y5),(7,aI ((sll a0).length:Int)),(8,aI y5)] (sq (rg (s1 3 [(13,aI y5),(12,.pv (zc za a0)),(11,.pv (.fn 214 [] [.ptr [.int .i64 a1,.int .i64 a2,.int .i64 a3,.int .i64 a4,.int .i64 a5,.flt .f64 a6,.str a7,zc za a8] 0]))] ?_))))))))
   obtain ⟨x8,h9,hm⟩:=bs hm
   refine dv 14 (v:=.pv (.ptr (Zy (zg x8)) 0)) (ZN za a0 .i64 t23 t49 h9 (zu x8) rfl (by kernel_rfl)) (by kernel_rfl) (s1 1 [(15,.agg (zc9 x8))] ?_)
   obtain ⟨x10,h11,hm⟩:=bs hm
   refine dv 16 (zF (by kernel_rfl) (agJ h11) (by kernel_rfl) (by kernel_rfl) (by kernel_rfl)) (by kernel_rfl) (fin [(0,.pv (zc za a0)),(zp38 a1 a2 a3 a4 a5 a6 a7 a8),(5,aI y5),(7,aI ((sll a0).length:Int)),(8,aI y5),(16,aB x10)] rfl (by kernel_rfl) ?_)
   rcases zf hm with ⟨h12,hm⟩ | ⟨h12,hm⟩
   ·
    refine c1 h12 (sq (dn [(4,aI y5)] (wp_ret ?_)))
    obtain rfl:=Option.some.inj hm
    exact ⟨trivial,by kernel_rfl⟩
   ·
    refine c0 h12 (wp_skip (dn [(0,.pv (zc za a0)),(zp38 a1 a2 a3 a4 a5 a6 a7 a8),(7,aI ((sll a0).length:Int)),(8,aI (IntKind.wrap .i64 (y5+1)))] ?_))
    exact ⟨_,_,qd [(0,.pv (zc za a0)),(zp38 a1 a2 a3 a4 a5 a6 a7 a8),(7,aI ((sll a0).length:Int)),(8,aI (IntKind.wrap .i64 (y5+1)))] [] (by kernel_rfl),⟨(IntKind.wrap .i64 (y5+1)),hm,rfl,rfl⟩⟩
  ·
   refine c0 h7 (wp_exit ?_)
   exact ⟨y5,(zg39 y5 a0),hm,rfl,rfl⟩
theorem adT {n:Nat} {a0:Int} {a1:Int} {r:Unit} (hm:aaz n a0 a1=some r):
    ∃ vv H1,call G n 216 [.pv .nils,aI a0,aI a1] []=some (.ret vv,H1)∧(vv=.pv .nils∧H1=[]):=by
  unfold aaz at hm
  obtain ⟨n,rfl,h0⟩:=zp hm
  replace hm:=h0; clear h0
  refine Qh 33 [(0,.pv .nils),(1,aI a0),(2,aI a1)] func216 rfl (by kernel_rfl) (sq (dn [(0,.pv .nils),(1,aI a0),(2,aI a1)] (sq (rg (s1 5 [(12,aI 0),(11,.pv .nils),(10,aI a1),(9,aI a0),(8,.pv .nils)] ?_)))))
  obtain ⟨_,h1,hm⟩:=bs hm
  obtain ⟨_,h2,hm⟩:=bs hm
  refine dv 13 (v:=.any) (am8 (k:=.i64) (k':=.i64) (k2:=.i64) (lo:=a0) (hi:=a1) (mx:=0) (x:=.pv .nils) (xl:=some (aI a0)) (xh:=some (aI a1)) (xm:=some (aI 0)) (n:=0) h1 h2 rfl rfl (.inr rfl) rfl rfl (by kernel_rfl)) (by kernel_rfl) (fin [(0,.pv .nils),(1,aI a0),(2,aI a1)] rfl (by kernel_rfl) ?_)
  refine sq (sq (dn [(0,.pv .nils),(1,aI a0),(2,aI a1),(16,aB (a0 == a1))] ?_))
  rcases zf hm with ⟨h3,hm⟩ | ⟨h3,hm⟩
  ·
   refine c1 h3 (sq (dn [(6,.pv .nils)] (wp_ret ?_)))
   obtain rfl:=Option.some.inj hm
   exact ⟨trivial,.pv .nils,[],by kernel_rfl,rfl,rfl⟩
  ·
   refine c0 h3 (wp_skip (sq (dn [(0,.pv .nils),(1,aI a0),(2,aI a1),(7,aI 0)] (sq (rgd (shd 2 [(21,aI a0),(20,.pv .nils)] (by kernel_rfl) ?_))))))
   obtain ⟨_,h4,hm⟩:=bs hm
   refine dvd 22 (v:=.pv .nils) (ae2 za (k:=.i64) (k':=.i64) (xl:=none) (xh:=some (aI a0)) (esz:=8) h4 zX (.inl ⟨rfl,rfl⟩) (.inr rfl) (by kernel_rfl)) (by kernel_rfl) (shd 2 [(24,aI a1),(23,.pv .nils)] (by kernel_rfl) ?_)
   obtain ⟨_,h5,hm⟩:=bs hm
   refine dvd 25 (v:=.pv .nils) (ae2 za (k:=.i64) (k':=.i64) (xl:=some (aI a1)) (xh:=none) (esz:=8) h5 zX (.inr rfl) (.inl ⟨rfl,rfl⟩) (by kernel_rfl)) (by kernel_rfl) (dvd 26 (v:=.pv .nils) (anp (u:=0) (y:=.pv .nils) za ([]:List zd) t23 t49 rfl rfl rfl (rfl) (by kernel_rfl)) (by kernel_rfl) (shd 1 [(0,.pv .nils)] (by kernel_rfl) (find [(0,.pv .nils),(7,aI 0)] rfl (by kernel_rfl) (by kernel_rfl) (sq (rg (s1 4 [(30,aI 0),(29,aI 0),(28,.pv .nils),(27,.pv .nils)] ?_))))))
   obtain ⟨_,h6,hm⟩:=bs hm
   refine dv 31 (v:=.pv .nils) (ae2 za (k:=.i64) (k':=.i64) (xl:=some (aI 0)) (xh:=some (aI 0)) (esz:=8) h6 zX (.inr rfl) (.inr rfl) (by kernel_rfl)) (by kernel_rfl) (dO [] [] (al9 t23 t49 (by kernel_rfl)) (by kernel_rfl) (fin [(0,.pv .nils)] rfl (by kernel_rfl) (sq (dn [(6,.pv .nils)] (wp_ret ?_)))))
   obtain rfl:=Option.some.inj hm
   exact ⟨trivial,.pv .nils,[],by kernel_rfl,rfl,rfl⟩
abbrev zg73 (p0:(List zd)) (p1:Nat) (p2:Nat):=(p0.take (Int.toNat ((p1:Nat):Int))++(List.replicate (Int.toNat ((p2:Nat):Int) - Int.toNat ((p1:Nat):Int)) (zi (zh.mk 0 0 0 (zq.mk 0 0 0 ByteArray.empty) none))++p0.drop ((Int.toNat ((p1:Nat):Int))+(Int.toNat ((p2:Nat):Int) - Int.toNat ((p1:Nat):Int)))))
abbrev zg74 (p0:(List zd)) (p1:Int) (p2:Int) (p3:Nat):=(p0.take (Int.toNat p1)++((subL p0 p2 ((p3:Nat):Int))++p0.drop ((Int.toNat p1)+(subL p0 p2 ((p3:Nat):Int)).length)))
theorem adU (m0:Nat) (f0:Nat) (p2:Nat) {n:Nat} {a0:(List zd)} {a1:Nat} {a2:Int} {a3:Int} {r:(List zd) × Nat} (hm0:a0.length=m0) (hf0:f0≤a0.length) (hp2:a1=p2∧a1≤a0.length) (hm:qS n a0 a1 a2 a3=some r):
    ∃ vv H1,call G n 216 [.ref 0 0 m0 8 0 a1,aI a2,aI a3] [bR 49 8 za a0 f0 0]=some (.ret vv,H1)∧(match (generalizing:=false) r with | (r0,r1)=>(∃ (e2:Nat),r0.length=m0∧e2≤r0.length∧r1≤r0.length∧vv=.ref 0 0 m0 8 0 r1∧H1=[bR 49 8 za r0 e2 0])):=by
  unfold qS at hm
  obtain ⟨n,rfl,h0⟩:=zp hm
  replace hm:=h0; clear h0
  refine Qh 33 [(0,.ref 0 0 m0 8 0 a1),(1,aI a2),(2,aI a3)] func216 rfl (by kernel_rfl) (sq (dn [(0,.ref 0 0 m0 8 0 a1),(1,aI a2),(2,aI a3)] (sq (rg (s1 5 [(12,aI ((a1:Nat):Int)),(11,.ref 0 0 m0 8 0 a1),(10,aI a3),(9,aI a2),(8,.ref 0 0 m0 8 0 a1)] ?_)))))
  obtain ⟨_,h1,hm⟩:=bs hm
  obtain ⟨_,h2,hm⟩:=bs hm
  refine dv 13 (v:=.any) (am8 (k:=.i64) (k':=.i64) (k2:=.i64) (lo:=a2) (hi:=a3) (mx:=((a1:Nat):Int)) (x:=.ref 0 0 m0 8 0 a1) (xl:=some (aI a2)) (xh:=some (aI a3)) (xm:=some (aI ((a1:Nat):Int))) (n:=a1) h1 h2 rfl rfl (.inr rfl) rfl rfl (by kernel_rfl)) (by kernel_rfl) (fin [(0,.ref 0 0 m0 8 0 a1),(1,aI a2),(2,aI a3)] rfl (by kernel_rfl) ?_)
  refine sq (sq (dn [(0,.ref 0 0 m0 8 0 a1),(1,aI a2),(2,aI a3),(16,aB (a2 == a3))] ?_))
  rcases zf hm with ⟨h3,hm⟩ | ⟨h3,hm⟩
  ·
   refine c1 h3 (sq (dn [(6,.ref 0 0 m0 8 0 a1)] (wp_ret ?_)))
   obtain rfl:=Option.some.inj hm
   exact ⟨trivial,.ref 0 0 m0 8 0 a1,[bR 49 8 za a0 f0 0],by kernel_rfl,f0,(by first | rfl | assumption | omega | (simp only [List.length_set,List.length_append,List.length_cons,List.length_nil,List.length_replicate,List.length_drop] at * <;> omega)),(by first | exact Nat.zero_le _ | exact Nat.le_refl _ | assumption | omega | (simp only [List.length_set,List.length_append,List.length_cons,List.length_nil,List.length_replicate,List.length_drop] at * <;> omega)),(by first | rfl | assumption | omega | (simp only [List.length_set,List.length_append,List.length_cons,List.length_nil,List.length_replicate,List.length_drop] at * <;> omega)),rfl,rfl⟩
  ·
   refine c0 h3 (wp_skip (sq (dn [(0,.ref 0 0 m0 8 0 a1),(1,aI a2),(2,aI a3),(7,aI ((a1:Nat):Int))] ?_)))
   obtain ⟨k10,hk10,hm⟩:=zw hm
   refine mid (fun t H=>(∃ (y4:(List zd)) (y5:Nat) (g7:Nat),k10 y4 y5=some r∧t=mk 33 [(0,.ref 0 0 m0 8 0 y5),(7,aI ((a1:Nat):Int))]∧H=[bR 49 8 za y4 g7 0]∧y4.length=m0∧g7≤y4.length∧y5≤y4.length)) ?_ ?_
   ·
    rintro _ _ ⟨y4,y5,g7,hm,rfl,rfl,q6,q8,q9⟩
    subst hk10
    refine sq (rg (s1 4 [(30,aI ((a1:Nat):Int)),(29,aI ((y5:Nat):Int)),(28,.ref 0 0 m0 8 0 y5),(27,.ref 0 0 m0 8 0 y5)] ?_))
    obtain ⟨_,h11,hm⟩:=bs hm
    have q12:=Q8 h11
    refine dv 31 (v:=.ref 0 0 m0 8 (Int.toNat ((y5:Nat):Int)) (Int.toNat ((a1:Nat):Int) - Int.toNat ((y5:Nat):Int))) (afB (lo:=((y5:Nat):Int)) (hi:=((a1:Nat):Int)) (n:=y5) (h:=m0) (id:=0) (esz:=8) (k:=.i64) (k':=.i64) (xl:=some (aI ((y5:Nat):Int))) (xh:=some (aI ((a1:Nat):Int))) (show ckB ((y5:Nat):Int) ((a1:Nat):Int) (m0:Int)=some () from by rw [show m0=y4.length from (by omega)]; exact h11) (by omega) (.inr rfl) (.inr rfl) (by kernel_rfl)) (by kernel_rfl) ?_
    rcases zf hm with ⟨h13,hm⟩ | ⟨h13,hm⟩
    ·
     refine dO [] [bR 49 8 za y4 g7 0] (akI (id:=0) (h:=m0) (esz:=8) (off:=(Int.toNat ((y5:Nat):Int))) (k:=(Int.toNat ((a1:Nat):Int) - Int.toNat ((y5:Nat):Int))) t23 t49 h13 (by kernel_rfl)) (by kernel_rfl) (fin [(0,.ref 0 0 m0 8 0 y5)] rfl (by kernel_rfl) (sq (dn [(6,.ref 0 0 m0 8 0 y5)] (wp_ret ?_))))
     obtain rfl:=Option.some.inj hm
     exact ⟨trivial,.ref 0 0 m0 8 0 y5,[bR 49 8 za y4 g7 0],by kernel_rfl,g7,(by first | rfl | assumption | omega | (simp only [List.length_set,List.length_append,List.length_cons,List.length_nil,List.length_replicate,List.length_drop] at * <;> omega)),(by first | exact Nat.zero_le _ | exact Nat.le_refl _ | assumption | omega | (simp only [List.length_set,List.length_append,List.length_cons,List.length_nil,List.length_replicate,List.length_drop] at * <;> omega)),(by first | rfl | assumption | omega | (simp only [List.length_set,List.length_append,List.length_cons,List.length_nil,List.length_replicate,List.length_drop] at * <;> omega)),rfl,rfl⟩
    ·
     obtain ⟨_,h14,hm⟩:=bs hm
     have q15:=Q8 h14
     have q16:(zg73 y4 y5 a1).length=m0:=by simp only [List.length_append,List.length_take,List.length_drop,List.length_replicate]; omega
     refine dO [] [bR 49 8 za (zg73 y4 y5 a1) m0 0] (alI za y4 (zi (zh.mk 0 0 0 (zq.mk 0 0 0 ByteArray.empty) none)) (id:=0) (h:=m0) (esz:=8) (off:=(Int.toNat ((y5:Nat):Int))) (k:=(Int.toNat ((a1:Nat):Int) - Int.toNat ((y5:Nat):Int))) t23 t49 rfl rfl rfl (by omega) rfl (by omega) (by omega) h13 (by kernel_rfl)) (by kernel_rfl) (fin [(0,.ref 0 0 m0 8 0 y5)] rfl (by kernel_rfl) (sq (dn [(6,.ref 0 0 m0 8 0 y5)] (wp_ret ?_))))
     obtain rfl:=Option.some.inj hm
     exact ⟨trivial,.ref 0 0 m0 8 0 y5,[bR 49 8 za (zg73 y4 y5 a1) m0 0],by kernel_rfl,m0,(by first | rfl | assumption | omega | (simp only [List.length_set,List.length_append,List.length_cons,List.length_nil,List.length_replicate,List.length_drop] at * <;> omega)),(by first | exact Nat.zero_le _ | exact Nat.le_refl _ | assumption | omega | (simp only [List.length_set,List.length_append,List.length_cons,List.length_nil,List.length_replicate,List.length_drop] at * <;> omega)),(by first | rfl | assumption | omega | (simp only [List.length_set,List.length_append,List.length_cons,List.length_nil,List.length_replicate,List.length_drop] at * <;> omega)),rfl,rfl⟩
   refine rgd (shd 2 [(21,aI a2),(20,.ref 0 0 m0 8 0 a1)] (by kernel_rfl) ?_)
   obtain ⟨_,h17,hm⟩:=bs hm
   have q18:=Q8 h17
   refine dvd 22 (v:=.ref 0 0 m0 8 0 (Int.toNat a2)) (amT (hi:=a2) (k':=.i64) (xh:=some (aI a2)) (n:=a1) (h:=m0) (id:=0) (esz:=8) (show ckB 0 a2 (m0:Int)=some () from by rw [show m0=a0.length from (by omega)]; exact h17) (by omega) (.inr rfl) (by kernel_rfl)) (by kernel_rfl) (shd 2 [(24,aI a3),(23,.ref 0 0 m0 8 0 a1)] (by kernel_rfl) ?_)
   obtain ⟨_,h19,hm⟩:=bs hm
   have q20:=Q8 h19
   refine dvd 25 (v:=.ref 0 0 m0 8 (Int.toNat a3) (Int.toNat ((a1:Nat):Int) - Int.toNat a3)) (afB (lo:=a3) (hi:=((a1:Nat):Int)) (n:=a1) (h:=m0) (id:=0) (esz:=8) (k:=.i64) (k':=.i64) (xl:=some (aI a3)) (xh:=none) (show ckB a3 ((a1:Nat):Int) (m0:Int)=some () from by rw [show m0=a0.length from (by omega)]; exact h19) (by omega) (.inr rfl) (.inl ⟨rfl,rfl⟩) (by kernel_rfl)) (by kernel_rfl) ?_
   rcases zf hm with ⟨h23,hm⟩ | ⟨h23,hm⟩
   ·
    obtain ⟨_,h24,hm⟩:=bs hm
    refine dvd 26 (v:=.ref 0 0 m0 8 0 (Int.toNat a2)) (amN (n:=(Int.toNat a2)) (h:=m0) (id:=0) (esz:=8) za a0 (subL a0 a3 ((a1:Nat):Int)) (y:=.ref 0 0 m0 8 (Int.toNat a3) (Int.toNat ((a1:Nat):Int) - Int.toNat a3)) (b:=88) t23 t49 rfl rfl rfl h23 h24 (by omega) rfl (by omega) (by omega) (alg (id:=0) (l:=a0) (R:=za) rfl (by first | rfl | assumption | omega | (simp only [List.length_set,List.length_append,List.length_cons,List.length_nil,List.length_replicate,List.length_drop] at * <;> omega)) (by first | exact Nat.zero_le _ | exact Nat.le_refl _ | assumption | omega | (simp only [List.length_set,List.length_append,List.length_cons,List.length_nil,List.length_replicate,List.length_drop] at * <;> omega)) (by have:=Q8 h19; omega)) (by kernel_rfl)) (by kernel_rfl) (shd 1 [(0,.ref 0 0 m0 8 0 (Int.toNat a2))] (by kernel_rfl) (find [(0,.ref 0 0 m0 8 0 (Int.toNat a2)),(7,aI ((a1:Nat):Int))] rfl (by kernel_rfl) (by kernel_rfl) ?_))
    exact ⟨a0,(Int.toNat a2),f0,hm,rfl,rfl,(by first | rfl | assumption | omega | (simp only [List.length_set,List.length_append,List.length_cons,List.length_nil,List.length_replicate,List.length_drop] at * <;> omega)),(by first | exact Nat.zero_le _ | exact Nat.le_refl _ | assumption | omega | (simp only [List.length_set,List.length_append,List.length_cons,List.length_nil,List.length_replicate,List.length_drop] at * <;> omega)),(by first | rfl | assumption | omega | (simp only [List.length_set,List.length_append,List.length_cons,List.length_nil,List.length_replicate,List.length_drop] at * <;> omega))⟩
   ·
    obtain ⟨_,h25,hm⟩:=bs hm
    have q26:=Q8 h25
    have q27:(zg74 a0 a2 a3 a1).length=m0:=by simp only [List.length_append,List.length_take,List.length_drop]; omega
    refine dOd [(26,.ref 0 0 m0 8 0 ((Int.toNat a2)+(subL a0 a3 ((a1:Nat):Int)).length))] [bR 49 8 za (zg74 a0 a2 a3 a1) m0 0] (an7 (c:=()) (n:=(Int.toNat a2)) (h:=m0) (id:=0) (esz:=8) za a0 (subL a0 a3 ((a1:Nat):Int)) (y:=.ref 0 0 m0 8 (Int.toNat a3) (Int.toNat ((a1:Nat):Int) - Int.toNat a3)) (b:=88) t23 t49 rfl rfl rfl zX h23 h25 rfl (by omega) (by omega) (alg (id:=0) (l:=a0) (R:=za) rfl (by first | rfl | assumption | omega | (simp only [List.length_set,List.length_append,List.length_cons,List.length_nil,List.length_replicate,List.length_drop] at * <;> omega)) (by first | exact Nat.zero_le _ | exact Nat.le_refl _ | assumption | omega | (simp only [List.length_set,List.length_append,List.length_cons,List.length_nil,List.length_replicate,List.length_drop] at * <;> omega)) (by have:=Q8 h19; omega)) (by kernel_rfl)) (by kernel_rfl) (shd 1 [(0,.ref 0 0 m0 8 0 ((Int.toNat a2)+(subL a0 a3 ((a1:Nat):Int)).length))] (by kernel_rfl) (find [(0,.ref 0 0 m0 8 0 ((Int.toNat a2)+(subL a0 a3 ((a1:Nat):Int)).length)),(7,aI ((a1:Nat):Int))] rfl (by kernel_rfl) (by kernel_rfl) ?_))
    exact ⟨(zg74 a0 a2 a3 a1),((Int.toNat a2)+(subL a0 a3 ((a1:Nat):Int)).length),m0,hm,rfl,rfl,(by first | rfl | assumption | omega | (simp only [List.length_set,List.length_append,List.length_cons,List.length_nil,List.length_replicate,List.length_drop] at * <;> omega)),(by first | exact Nat.zero_le _ | exact Nat.le_refl _ | assumption | omega | (simp only [List.length_set,List.length_append,List.length_cons,List.length_nil,List.length_replicate,List.length_drop] at * <;> omega)),(by first | rfl | assumption | omega | (simp only [List.length_set,List.length_append,List.length_cons,List.length_nil,List.length_replicate,List.length_drop] at * <;> omega))⟩
theorem ahS {n:Nat} {a0:(Option (List zd))} {a1:(Option (List zd))} {r:Bool} (hm:aax n a0 a1=some r):
    call G n 167 [.pv (zc za a0),.pv (zc za a1)] []=some (.ret (aB r),[]):=by
  unfold aax at hm
  obtain ⟨n,rfl,h0⟩:=zp hm
  replace hm:=h0; clear h0
  refine Zt 31 [(0,.pv (zc za a0)),(1,.pv (zc za a1))] func167 rfl (by kernel_rfl) (sq (dn [(0,.pv (zc za a0)),(1,.pv (zc za a1))] ?_))
  obtain ⟨k4,hk4,hm⟩:=zw hm
  refine mid (fun t H=>(k4 none=some r∧t=mk 31 [(0,.pv (zc za a0)),(5,.pv .nils)]∧H=[])∨(∃ (y1:(List zd)) (g2:Nat),k4 (some y1)=some r∧t=mk 31 [(0,.pv (zc za a0)),(5,aR 0 8 g2)]∧H=[bR 49 8 za y1 0 0]∧y1.length=g2)) ?_ ?_
  ·
   rintro _ _ (⟨hm,rfl,rfl⟩ | ⟨y1,g2,hm,rfl,rfl,q3⟩)
   ·
    subst hk4
    obtain ⟨k7,hk7,hm⟩:=zw hm
    refine mid (fun t H=>(∃ (y5:Int) (y6:Bool),k7 ()=some r∧t=mk 31 [(5,.pv .nils),(11,.pv (zc za a0)),(12,aI ((sll a0).length:Int)),(13,aI y5),(14,aB y6)]∧H=[])) ?_ ?_
    ·
     rintro _ _ ⟨y5,y6,hm,rfl,rfl⟩
     subst hk7
     refine sq (dn [(4,aB true)] (wp_ret ?_))
     obtain rfl:=Option.some.inj hm
     exact ⟨trivial,by kernel_rfl⟩
    refine sq (rg (s1 1 [(11,.pv (zc za a0))] (dv 12 (v:=aI ((sll a0).length:Int)) (zC za a0 t23 (by kernel_rfl)) (by kernel_rfl) (fq 1 [(5,.pv .nils),(11,.pv (zc za a0)),(12,aI ((sll a0).length:Int)),(13,aI 0)] (bq ?_)))))
    refine qR (fun mm t H=>(∃ (y9:Int),Qt n a0 k7 mm y9=some r∧t=mk 31 [(5,.pv .nils),(11,.pv (zc za a0)),(12,aI ((sll a0).length:Int)),(13,aI y9)]∧H=[])) (⟨0,hm,rfl,rfl⟩) ?_ ?_
    · rintro _ _ ⟨y9,hm,_⟩; exact nomatch hm
    rintro m10 _ _ ⟨y9,hm,rfl,rfl⟩
    simp only [Qt] at hm
    refine sq (dn [(5,.pv .nils),(11,.pv (zc za a0)),(12,aI ((sll a0).length:Int)),(13,aI y9),(14,aB (zg39 y9 a0))] ?_)
    refine sq ?_
    rcases zf hm with ⟨h11,hm⟩ | ⟨h11,hm⟩
    ·
     refine c1 h11 (wp_skip (sq (bq (sq (rg ?_)))))
     obtain ⟨x12,h13,hm⟩:=bs hm
     refine dv 15 (v:=.pv (.ptr (zg40 x12) 0)) (ZN za a0 .i64 t23 t49 h13 (zu x12) rfl (by kernel_rfl)) (by kernel_rfl) (stf 3 [(5,.pv .nils),(7,.ptr 0 0),(11,.pv (zc za a0)),(12,aI ((sll a0).length:Int)),(13,aI y9)] [.box (zc9 x12) false] (by kernel_rfl) (sq (rg (s1 2 [(18,.fn 214 [] [.ptr 0 0]),(17,.pv .nils)] ?_))))
     obtain ⟨x14,h15,hm⟩:=bs hm
     refine dO [(19,aI x14)] [.box (zc9 x12) false] (adv [0] [.pv .nils,.fn 214 [] [.ptr 0 0]] (fl:=true) (by kernel_rfl) (by kernel_rfl) (by kernel_rfl) (Qg h15) (by kernel_rfl) (by kernel_rfl)) (by kernel_rfl) (fq 1 [(5,.pv .nils),(8,aI x14),(11,.pv (zc za a0)),(12,aI ((sll a0).length:Int)),(13,aI y9)] (sq (sq (dn [(5,.pv .nils),(8,aI x14),(11,.pv (zc za a0)),(12,aI ((sll a0).length:Int)),(13,aI y9),(21,aB (decide (x14 < 0)))] ?_))))
     rcases zf hm with ⟨h16,hm⟩ | ⟨h16,hm⟩
     ·
      refine c1 h16 (sq (dn [(4,aB false)] (wp_ret ?_)))
      obtain rfl:=Option.some.inj hm
      exact ⟨trivial,by kernel_rfl⟩
     ·
      refine c0 h16 (wp_skip (rg (s1 4 [(25,aI (IntKind.wrap .i64 (x14+1))),(24,aI x14),(23,aI x14),(22,.pv .nils)] ?_)))
      obtain ⟨_,h17,hm⟩:=bs hm
      obtain ⟨vv,H1,hC,rfl,rfl⟩:=adT h17
      refine dR [(26,.pv .nils)] [.box (zc9 x12) false] [] [.pv .nils,aI x14,aI (IntKind.wrap .i64 (x14+1))] (by kernel_rfl) (by kernel_rfl) (by kernel_rfl) hC (by kernel_rfl) (fq 1 [(5,.pv .nils),(11,.pv (zc za a0)),(12,aI ((sll a0).length:Int)),(13,aI y9)] (dn [(5,.pv .nils),(11,.pv (zc za a0)),(12,aI ((sll a0).length:Int)),(13,aI (IntKind.wrap .i64 (y9+1)))] ?_))
      exact ⟨_,_,qd [(5,.pv .nils),(11,.pv (zc za a0)),(12,aI ((sll a0).length:Int)),(13,aI (IntKind.wrap .i64 (y9+1)))] [] (by kernel_rfl),⟨(IntKind.wrap .i64 (y9+1)),hm,rfl,rfl⟩⟩
    ·
     refine c0 h11 (wp_exit ?_)
     exact ⟨y9,(zg39 y9 a0),hm,rfl,rfl⟩
   ·
    subst hk4
    obtain ⟨k26,hk26,hm⟩:=zw hm
    refine mid (fun t H=>(∃ (y18:(List zd)) (y19:Int) (y20:Bool) (y21:Nat) (g23:Nat),k26 y21=some r∧t=mk 31 [(5,.ref 0 0 g2 8 0 y21),(11,.pv (zc za a0)),(12,aI ((sll a0).length:Int)),(13,aI y19),(14,aB y20)]∧H=[bR 49 8 za y18 g23 0]∧y18.length=g2∧g23≤y18.length∧y21≤y18.length)) ?_ ?_
    ·
     rintro _ _ ⟨y18,y19,y20,y21,g23,hm,rfl,rfl,q22,q24,q25⟩
     subst hk26
     refine sq (dn [(4,aB (((y21:Nat):Int) == 0))] (wp_ret ?_))
     obtain rfl:=Option.some.inj hm
     exact ⟨trivial,by kernel_rfl⟩
    refine sq (rg (s1 1 [(11,.pv (zc za a0))] (dv 12 (v:=aI ((sll a0).length:Int)) (zC za a0 t23 (by kernel_rfl)) (by kernel_rfl) (fq 1 [(5,aR 0 8 g2),(11,.pv (zc za a0)),(12,aI ((sll a0).length:Int)),(13,aI 0)] (bq ?_)))))
    refine qR (fun mm t H=>(∃ (y34:(List zd)) (y35:Int) (y36:Nat) (g38:Nat),qF n a0 k26 mm y34 y35 y36=some r∧t=mk 31 [(5,.ref 0 0 g2 8 0 y36),(11,.pv (zc za a0)),(12,aI ((sll a0).length:Int)),(13,aI y35)]∧H=[bR 49 8 za y34 g38 0]∧y34.length=g2∧g38≤y34.length∧y36≤y34.length)) (⟨y1,0,y1.length,0,hm,(by rw [show y1.length=g2 from (by first | rfl | assumption | omega | (simp only [List.length_set,List.length_append,List.length_cons,List.length_nil,List.length_replicate,List.length_drop] at * <;> omega))] <;> first | rfl | exact rfl),rfl,(by first | rfl | assumption | omega | (simp only [List.length_set,List.length_append,List.length_cons,List.length_nil,List.length_replicate,List.length_drop] at * <;> omega)),(by first | exact Nat.zero_le _ | exact Nat.le_refl _ | assumption | omega | (simp only [List.length_set,List.length_append,List.length_cons,List.length_nil,List.length_replicate,List.length_drop] at * <;> omega)),(by first | rfl | assumption | omega | (simp only [List.length_set,List.length_append,List.length_cons,List.length_nil,List.length_replicate,List.length_drop] at * <;> omega))⟩) ?_ ?_
    · rintro _ _ ⟨y34,y35,y36,g38,hm,_⟩; exact nomatch hm
    rintro m41 _ _ ⟨y34,y35,y36,g38,hm,rfl,rfl,q37,q39,q40⟩
    simp only [qF] at hm
    refine sq (dn [(5,.ref 0 0 g2 8 0 y36),(11,.pv (zc za a0)),(12,aI ((sll a0).length:Int)),(13,aI y35),(14,aB (zg39 y35 a0))] ?_)
    refine sq ?_
    rcases zf hm with ⟨h42,hm⟩ | ⟨h42,hm⟩
    ·
     refine c1 h42 (wp_skip (sq (bq (sq (rg ?_)))))
     obtain ⟨x43,h44,hm⟩:=bs hm
     refine dv 15 (v:=.pv (.ptr (zg40 x43) 0)) (ZN za a0 .i64 t23 t49 h44 (zu x43) rfl (by kernel_rfl)) (by kernel_rfl) (stf 3 [(5,.ref 0 0 g2 8 0 y36),(7,.ptr 1 0),(11,.pv (zc za a0)),(12,aI ((sll a0).length:Int)),(13,aI y35)] [bR 49 8 za y34 g38 0,.box (zc9 x43) false] (by kernel_rfl) (sq (rg (s1 2 [(18,.fn 214 [] [.ptr 1 0]),(17,.ref 0 0 g2 8 0 y36)] ?_))))
     obtain ⟨x45,h46,hm⟩:=bs hm
     refine dO [(19,aI x45)] [bR 49 8 za y34 g38 0,.box (zc9 x43) false] (adv [0,1] [.ref 0 0 g2 8 0 y36,.fn 214 [] [.ptr 1 0]] (fl:=true) (by kernel_rfl) (by kernel_rfl) (qO (aho (aoP (n:=y36) (h:=g2) (id:=0) (l:=y34) (R:=za) rfl (by omega) (by omega) (by omega))) (qO (pA_fn (aqe (rfl) (zA (apA rfl (zA (Zm) (zA (Zm) (zA (Zm) (zA (Zm) (zA (Zm) (zA (Zm) (zA (Zm) (zA (Zm) (rfl)))))))))) (rfl)))) (rfl))) (Qg h46) (by kernel_rfl) (by kernel_rfl)) (by kernel_rfl) (fq 1 [(5,.ref 0 0 g2 8 0 y36),(8,aI x45),(11,.pv (zc za a0)),(12,aI ((sll a0).length:Int)),(13,aI y35)] (sq (sq (dn [(5,.ref 0 0 g2 8 0 y36),(8,aI x45),(11,.pv (zc za a0)),(12,aI ((sll a0).length:Int)),(13,aI y35),(21,aB (decide (x45 < 0)))] ?_))))
     rcases zf hm with ⟨h47,hm⟩ | ⟨h47,hm⟩
     ·
      refine c1 h47 (sq (dn [(4,aB false)] (wp_ret ?_)))
      obtain rfl:=Option.some.inj hm
      exact ⟨trivial,by kernel_rfl⟩
     ·
      refine c0 h47 (wp_skip (rg (s1 4 [(25,aI (IntKind.wrap .i64 (x45+1))),(24,aI x45),(23,aI x45),(22,.ref 0 0 g2 8 0 y36)] ?_)))
      obtain ⟨⟨x49,x50⟩,h48,hm⟩:=bs hm
      obtain ⟨vv,H1,hC,g51,q52,q53,q54,rfl,rfl⟩:=adU g2 g38 y36 (by first | rfl | assumption | omega | (simp only [List.length_set,List.length_append,List.length_cons,List.length_nil,List.length_replicate,List.length_drop] at * <;> omega)) (by first | exact Nat.zero_le _ | exact Nat.le_refl _ | assumption | omega | (simp only [List.length_set,List.length_append,List.length_cons,List.length_nil,List.length_replicate,List.length_drop] at * <;> omega)) ⟨rfl,(by first | rfl | assumption | omega | (simp only [List.length_set,List.length_append,List.length_cons,List.length_nil,List.length_replicate,List.length_drop] at * <;> omega))⟩ h48
      refine dR [(26,.ref 0 0 g2 8 0 x50)] [bR 49 8 za x49 g51 0,.box (zc9 x43) false] [0] [.ref 0 0 g2 8 0 y36,aI x45,aI (IntKind.wrap .i64 (x45+1))] (by kernel_rfl) (by kernel_rfl) (by kernel_rfl) hC (by kernel_rfl) (fq 1 [(5,.ref 0 0 g2 8 0 x50),(11,.pv (zc za a0)),(12,aI ((sll a0).length:Int)),(13,aI y35)] (dn [(5,.ref 0 0 g2 8 0 x50),(11,.pv (zc za a0)),(12,aI ((sll a0).length:Int)),(13,aI (IntKind.wrap .i64 (y35+1)))] ?_))
      exact ⟨_,_,qd [(5,.ref 0 0 g2 8 0 x50),(11,.pv (zc za a0)),(12,aI ((sll a0).length:Int)),(13,aI (IntKind.wrap .i64 (y35+1)))] [bR 49 8 za x49 g51 0] (by kernel_rfl),⟨x49,(IntKind.wrap .i64 (y35+1)),x50,g51,hm,rfl,rfl,(by first | rfl | assumption | omega | (simp only [List.length_set,List.length_append,List.length_cons,List.length_nil,List.length_replicate,List.length_drop] at * <;> omega)),(by first | exact Nat.zero_le _ | exact Nat.le_refl _ | assumption | omega | (simp only [List.length_set,List.length_append,List.length_cons,List.length_nil,List.length_replicate,List.length_drop] at * <;> omega)),(by first | rfl | assumption | omega | (simp only [List.length_set,List.length_append,List.length_cons,List.length_nil,List.length_replicate,List.length_drop] at * <;> omega))⟩⟩
    ·
     refine c0 h42 (wp_exit ?_)
     exact ⟨y34,y35,(zg39 y35 a0),y36,g38,hm,rfl,rfl,(by first | rfl | assumption | omega | (simp only [List.length_set,List.length_append,List.length_cons,List.length_nil,List.length_replicate,List.length_drop] at * <;> omega)),(by first | exact Nat.zero_le _ | exact Nat.le_refl _ | assumption | omega | (simp only [List.length_set,List.length_append,List.length_cons,List.length_nil,List.length_replicate,List.length_drop] at * <;> omega)),(by first | rfl | assumption | omega | (simp only [List.length_set,List.length_append,List.length_cons,List.length_nil,List.length_replicate,List.length_drop] at * <;> omega))⟩
  refine rg (s1 1 [(9,.pv (zc za a1))] ?_)
  obtain ⟨x57,h55,hm⟩:=bs hm
  rcases x57 with _ | x56
  ·
   obtain ⟨vv,H1,hC,rfl,rfl⟩:=ac0 h55
   refine dO [(10,.pv .nils)] [] (apH [] [.pv (zc za a1)] (v':=.pv .nils) (bs':=[]) (by kernel_rfl) (by kernel_rfl) (by kernel_rfl) hC (by kernel_rfl) (by kernel_rfl) (by kernel_rfl)) (by kernel_rfl) (fq 1 [(0,.pv (zc za a0)),(5,.pv .nils)] ?_)
   exact .inl ⟨hm,rfl,rfl⟩
  ·
   obtain ⟨vv,H1,hC,g58,q59,rfl,rfl⟩:=ac0 h55
   refine dO [(10,aR 0 8 g58)] [bR 49 8 za x56 0 0] (apH [] [.pv (zc za a1)] (v':=aR 0 8 g58) (bs':=[bR 49 8 za x56 0 0]) (by kernel_rfl) (by kernel_rfl) (by kernel_rfl) hC (by kernel_rfl) (by kernel_rfl) (by kernel_rfl)) (by kernel_rfl) (fq 1 [(0,.pv (zc za a0)),(5,aR 0 8 g58)] ?_)
   exact .inr (⟨x56,g58,hm,rfl,rfl,(by first | rfl | assumption | omega | (simp only [List.length_set,List.length_append,List.length_cons,List.length_nil,List.length_replicate,List.length_drop] at * <;> omega))⟩)
theorem ahZ {n:Nat} {a0:zl} {a1:zx} {r:Bool} (hm:Qj n a0 a1=some r):
    call G n 114 [.agg (zc2 a0),.agg (zc0 a1)] []=some (.ret (aB r),[]):=by
  unfold Qj at hm
  obtain ⟨n,rfl,h0⟩:=zp hm
  replace hm:=h0; clear h0
  refine Zt 65 [(0,.agg (zc2 a0)),(1,.agg (zc0 a1))] func114 rfl (by kernel_rfl) (sq (det [(2,.ptr 0 0),(3,.ptr 1 0)] [.box (zc2 a0) false,.box (zc0 a1) false] (by kernel_rfl) ?_))
  obtain ⟨k11,hk11,hm⟩:=zw hm
  refine mid (fun t H=>(∃ (y2:Int) (y3:Int) (y4:(Option (List zd))) (y5:(Option (List zd))) (y6:(Option (List zd))) (y7:(Option (List zd))) (y8:(Option (List zK))) (y9:(Option (List Zn))) (y10:(Option (List QL))) (w1:AV),k11 y2 y7 y8 y10=some r∧t=mk 65 [(2,.ptr 0 0),(3,.ptr 1 0),(9,w1)]∧H=[.box [aI y2,aI y3,.pv (zc za y4),.pv (zc za y5),.pv (zc za y6),.pv (zc za y7),.pv (zc zj y8),.pv (zc zn y9),.pv (zc zm y10)] false,.box (zc0 a1) false])) ?_ ?_
  ·
   rintro _ _ ⟨y2,y3,y4,y5,y6,y7,y8,y9,y10,w1,hm,rfl,rfl⟩
   subst hk11
   refine sq (dn [(2,.ptr 0 0),(3,.ptr 1 0),(5,aI 6)] ?_)
   obtain ⟨k14,hk14,hm⟩:=zw hm
   refine mid (fun t H=>(∃ (y13:Int) (w12:AV),k14 y13=some r∧t=mk 65 [(2,.ptr 0 0),(3,.ptr 1 0),(5,aI y13),(26,w12)]∧H=[.box [aI y2,aI y3,.pv (zc za y4),.pv (zc za y5),.pv (zc za y6),.pv (zc za y7),.pv (zc zj y8),.pv (zc zn y9),.pv (zc zm y10)] false,.box (zc0 a1) false])) ?_ ?_
   ·
    rintro _ _ ⟨y13,w12,hm,rfl,rfl⟩
    subst hk14
    refine sq (sq (rg (s1 5 [(31,aB (y2 != y13)),(30,aB (y2 != y13)),(29,aI y13),(28,aI y2),(27,.ptr 0 0)] ?_)))
    rcases zf hm with ⟨h15,hm⟩ | ⟨h15,hm⟩
    ·
     refine known [31,30] h15 (by kernel_rfl) (fq 15 [(2,.ptr 0 0),(3,.ptr 1 0),(46,aB true)] (cT (by kernel_rfl) (sq (dn [(4,aB false)] (wp_ret ?_)))))
     obtain rfl:=Option.some.inj hm
     exact ⟨trivial,by kernel_rfl⟩
    ·
     refine known [31,30] h15 (by kernel_rfl) (s1 4 [(35,.pv (zc za a1.fOut)),(34,.ptr 1 3),(33,.pv (zc za y7)),(32,.ptr 0 5)] ?_)
     obtain ⟨x16,h17,hm⟩:=bs hm
     refine dv 36 (zF (by kernel_rfl) (ZQ h17) (by kernel_rfl) (by kernel_rfl) (by kernel_rfl)) (by kernel_rfl) (s1 3 [(39,aB (!x16)),(38,aB (!x16)),(37,aB (!x16))] ?_)
     rcases zf hm with ⟨h18,hm⟩ | ⟨h18,hm⟩
     ·
      refine known [39,38,37] h18 (by kernel_rfl) (fq 7 [(2,.ptr 0 0),(3,.ptr 1 0),(46,aB true)] (cT (by kernel_rfl) (sq (dn [(4,aB false)] (wp_ret ?_)))))
      obtain rfl:=Option.some.inj hm
      exact ⟨trivial,by kernel_rfl⟩
     ·
      refine known [39,38,37] h18 (by kernel_rfl) (s1 4 [(43,.pv (zc zj a1.fAggs)),(42,.ptr 1 4),(41,.pv (zc zj y8)),(40,.ptr 0 6)] ?_)
      obtain ⟨x19,h20,hm⟩:=bs hm
      refine dv 44 (zF (by kernel_rfl) (ab4 h20) (by kernel_rfl) (by kernel_rfl) (by kernel_rfl)) (by kernel_rfl) (fq 2 [(2,.ptr 0 0),(3,.ptr 1 0),(46,aB (!x19))] ?_)
      rcases zf hm with ⟨h21,hm⟩ | ⟨h21,hm⟩
      ·
       refine c1 h21 (sq (dn [(4,aB false)] (wp_ret ?_)))
       obtain rfl:=Option.some.inj hm
       exact ⟨trivial,by kernel_rfl⟩
      ·
       refine c0 h21 (wp_skip (sq (rgd (shd 2 [(48,.pv (zc zm y10)),(47,.ptr 0 8)] (by kernel_rfl) ?_))))
       obtain ⟨x22,h23,hm⟩:=bs hm
       refine dvd 49 (v:=.pv (.ptr (zg45 x22) 0)) (ZN zm y10 .i64 t64 t66 h23 (ZK x22) rfl (by kernel_rfl)) (by kernel_rfl) (shd 3 [(52,.pv (zc rS a1.fRels)),(51,.ptr 1 0),(50,.agg (zc3 x22))] (by kernel_rfl) (dvd 53 (v:=aI ((sll a1.fRels).length:Int)) (zC rS a1.fRels t22 (by kernel_rfl)) (by kernel_rfl) ?_))
       obtain ⟨x24,h25,hm⟩:=bs hm
       refine dvd 54 (zF (by kernel_rfl) (akA h25) (by kernel_rfl) (by kernel_rfl) (by kernel_rfl)) (by kernel_rfl) (shd 1 [(55,aB x24)] (by kernel_rfl) ?_)
       rcases zf hm with ⟨h26,hm⟩ | ⟨h26,hm⟩
       ·
        refine qj [55,54] h26 (by kernel_rfl) (shd 2 [(57,.pv (zc zm y10)),(56,.ptr 0 8)] (by kernel_rfl) (dvd 58 (v:=.pv (.ptr (zg45 x22) 0)) (ZN zm y10 .i64 t64 t66 h23 (ZK x22) rfl (by kernel_rfl)) (by kernel_rfl) (shd 1 [(59,.agg (zc3 x22))] (by kernel_rfl) ?_)))
        obtain ⟨x27,h28,hm⟩:=bs hm
        refine dvd 60 (zF (by kernel_rfl) (ahW h28) (by kernel_rfl) (by kernel_rfl) (by kernel_rfl)) (by kernel_rfl) (shd 2 [(62,.pv (zg42 a1)),(61,.ptr 1 1)] (by kernel_rfl) ?_)
        obtain ⟨x29,h30,hm⟩:=bs hm
        refine dvd 63 (zF (by kernel_rfl) (ahS h30) (by kernel_rfl) (by kernel_rfl) (by kernel_rfl)) (by kernel_rfl) (shd 2 [(4,aB x29),(64,aB x29)] (by kernel_rfl) (find [(4,aB x29)] rfl (by kernel_rfl) (by kernel_rfl) (wp_ret ?_)))
        obtain rfl:=Option.some.inj hm
        exact ⟨trivial,by kernel_rfl⟩
       ·
        refine qj [55,54] h26 (by kernel_rfl) (shd 10 [(4,aB false),(64,aB false),(63,.undef),(62,.undef),(61,.undef),(60,.undef),(59,.undef),(58,.undef),(57,.undef),(56,.undef)] (by kernel_rfl) (find [(4,aB false)] rfl (by kernel_rfl) (by kernel_rfl) (wp_ret ?_)))
        obtain rfl:=Option.some.inj hm
        exact ⟨trivial,by kernel_rfl⟩
   refine sq (dn [(2,.ptr 0 0),(3,.ptr 1 0),(5,aI 6),(26,aB a1.fGrouped)] ?_)
   rcases zf hm with ⟨h31,hm⟩ | ⟨h31,hm⟩
   ·
    refine c1 h31 (dn [(2,.ptr 0 0),(3,.ptr 1 0),(5,aI 5)] ?_)
    exact ⟨5,.any,hm,(zJ (by kernel_rfl)),rfl⟩
   ·
    refine c0 h31 (wp_skip ?_)
    exact ⟨6,aB a1.fGrouped,hm,(zJ (by kernel_rfl)),rfl⟩
  refine sq (rg (s1 2 [(7,.pv (zc zn a1.fOrder)),(6,.ptr 1 5)] (dv 8 (v:=aI ((sll a1.fOrder).length:Int)) (zC zn a1.fOrder t25 (by kernel_rfl)) (by kernel_rfl) (fq 1 [(2,.ptr 0 0),(3,.ptr 1 0),(9,aB (decide (((sll a1.fOrder).length:Int) > 0)))] ?_))))
  rcases zf hm with ⟨h32,hm⟩ | ⟨h32,hm⟩
  ·
   refine c1 h32 (sq (sq (rg (s1 4 [(13,aB (a0.fKind != 7)),(12,aB (a0.fKind != 7)),(11,aI a0.fKind),(10,.ptr 0 0)] ?_))))
   rcases zf hm with ⟨h33,hm⟩ | ⟨h33,hm⟩
   ·
    refine known [13,12] h33 (by kernel_rfl) (fq 7 [(2,.ptr 0 0),(3,.ptr 1 0),(20,aB true)] (cT (by kernel_rfl) (sq (dn [(4,aB false)] (wp_ret ?_)))))
    obtain rfl:=Option.some.inj hm
    exact ⟨trivial,by kernel_rfl⟩
   ·
    refine known [13,12] h33 (by kernel_rfl) (s1 4 [(17,.pv (zc zn a1.fOrder)),(16,.ptr 1 5),(15,.pv (zc zn a0.fOrder)),(14,.ptr 0 7)] ?_)
    obtain ⟨x34,h35,hm⟩:=bs hm
    refine dv 18 (zF (by kernel_rfl) (afX h35) (by kernel_rfl) (by kernel_rfl) (by kernel_rfl)) (by kernel_rfl) (fq 2 [(2,.ptr 0 0),(3,.ptr 1 0),(20,aB (!x34))] ?_)
    rcases zf hm with ⟨h36,hm⟩ | ⟨h36,hm⟩
    ·
     refine c1 h36 (sq (dn [(4,aB false)] (wp_ret ?_)))
     obtain rfl:=Option.some.inj hm
     exact ⟨trivial,by kernel_rfl⟩
    ·
     refine c0 h36 (wp_skip (rg (s1 2 [(22,.pv (zc zm a0.fKids)),(21,.ptr 0 8)] ?_)))
     obtain ⟨x37,h38,hm⟩:=bs hm
     refine dv 23 (v:=.pv (.ptr (zg45 x37) 0)) (ZN zm a0.fKids .i64 t64 t66 h38 (ZK x37) rfl (by kernel_rfl)) (by kernel_rfl) (stf 2 [(2,.ptr 0 0),(3,.ptr 1 0)] [.box (zc3 x37) false,.box (zc0 a1) false] (by kernel_rfl) ?_)
     exact ⟨(zr x37).fKind,(zr x37).fRel,(zr x37).fWhere,(zr x37).fLeft,(zr x37).fRight,(zr x37).fOut,(zr x37).fAggs,(zr x37).fOrder,(zr x37).fKids,.any,hm,(zJ (by kernel_rfl)),rfl⟩
  ·
   refine c0 h32 (wp_skip ?_)
   exact ⟨a0.fKind,a0.fRel,a0.fWhere,a0.fLeft,a0.fRight,a0.fOut,a0.fAggs,a0.fOrder,a0.fKids,aB (decide (((sll a1.fOrder).length:Int) > 0)),hm,(zJ (by kernel_rfl)),rfl⟩
theorem abL {n:Nat} {a0:zl} {a1:zx} {a2:(Option (List zk))} {r:Int} (hm:qq n a0 a1 a2=some r):
    call G n 30 [.agg (zc2 a0),.agg (zc0 a1),.pv (zc zb a2)] []=some (.ret (aI r),[]):=by
  unfold qq at hm
  obtain ⟨n,rfl,h0⟩:=zp hm
  replace hm:=h0; clear h0
  refine Zt 27 [(0,.agg (zc2 a0)),(1,.agg (zc0 a1)),(2,.pv (zc zb a2))] func30 rfl (by kernel_rfl) (sq (det [(2,.pv (zc zb a2)),(3,.ptr 0 0),(4,.ptr 1 0)] [.box (zc2 a0) false,.box (zc0 a1) false] (by kernel_rfl) ?_))
  refine sq (sq (rg (s1 2 [(11,.pv (zc zb a2)),(10,.agg (zc0 a1))] ?_)))
  obtain ⟨x1,h2,hm⟩:=bs hm
  refine dv 12 (zF (by kernel_rfl) (aih h2) (by kernel_rfl) (by kernel_rfl) (by kernel_rfl)) (by kernel_rfl) (fq 5 [(3,.ptr 0 0),(4,.ptr 1 0),(8,aI x1.2)] (sq (dn [(3,.ptr 0 0),(4,.ptr 1 0),(8,aI x1.2),(16,aB (x1.2 != 0))] ?_)))
  rcases zf hm with ⟨h3,hm⟩ | ⟨h3,hm⟩
  ·
   refine c1 h3 (sq (dn [(6,aI x1.2)] (wp_ret ?_)))
   obtain rfl:=Option.some.inj hm
   exact ⟨trivial,by kernel_rfl⟩
  ·
   refine c0 h3 (wp_skip (sq (sq (rg (s1 1 [(18,.agg (zc2 a0))] ?_)))))
   obtain ⟨x4,h5,hm⟩:=bs hm
   refine dv 19 (zF (by kernel_rfl) (aiV h5) (by kernel_rfl) (by kernel_rfl) (by kernel_rfl)) (by kernel_rfl) (s1 2 [(21,aB (!x4)),(20,aB (!x4))] ?_)
   rcases zf hm with ⟨h6,hm⟩ | ⟨h6,hm⟩
   ·
    refine known [21,20] h6 (by kernel_rfl) (fq 5 [(26,aB true)] (cT (by kernel_rfl) (sq (dn [(6,aI 22)] (wp_ret ?_)))))
    obtain rfl:=Option.some.inj hm
    exact ⟨trivial,by kernel_rfl⟩
   ·
    refine known [21,20] h6 (by kernel_rfl) (s1 2 [(23,.agg (zc0 a1)),(22,.agg (zc2 a0))] ?_)
    obtain ⟨x7,h8,hm⟩:=bs hm
    refine dv 24 (zF (by kernel_rfl) (ahZ h8) (by kernel_rfl) (by kernel_rfl) (by kernel_rfl)) (by kernel_rfl) (fq 2 [(26,aB (!x7))] ?_)
    rcases zf hm with ⟨h9,hm⟩ | ⟨h9,hm⟩
    ·
     refine c1 h9 (sq (dn [(6,aI 22)] (wp_ret ?_)))
     obtain rfl:=Option.some.inj hm
     exact ⟨trivial,by kernel_rfl⟩
    ·
     refine c0 h9 (wp_skip (sq (dn [(6,aI 0)] (wp_ret ?_))))
     obtain rfl:=Option.some.inj hm
     exact ⟨trivial,by kernel_rfl⟩
abbrev zc22 (p0:zx) (p1:(List zd)):List AV:=[.pv (zc rS p0.fRels),aR 4 8 p1.length,aB p0.fGrouped,.pv (zc za p0.fOut),.pv (zc zj p0.fAggs),.pv (zc zn p0.fOrder)]
abbrev zc23 (p0:zx) (p1:Nat):List AV:=[.pv (zc rS p0.fRels),aR 7 8 p1,aB p0.fGrouped,.pv (zc za p0.fOut),.pv (zc zj p0.fAggs),.pv (zc zn p0.fOrder)]
abbrev zc24 (p0:zx) (p1:Nat) (p2:(List zd)):List AV:=[.pv (zc rS p0.fRels),.ref 7 0 p1 8 (Int.toNat 1) (Int.toNat (p2.length:Int) - Int.toNat 1),aB p0.fGrouped,.pv (zc za p0.fOut),.pv (zc zj p0.fAggs),.pv (zc zn p0.fOrder)]
abbrev zg75 (p0:Int) (p1:zx):=(IntKind.wrap .i64 (Int.tmod (IntKind.wrap .u64 p0) (IntKind.wrap .u64 (IntKind.wrap .i64 (((sll p1.fWhere).length:Int)+1)))))
abbrev zg76 (p0:zx) (p1:Int):=(zc za (qw p0.fWhere (IntKind.wrap .i64 (Int.tmod (IntKind.wrap .u64 p1) (IntKind.wrap .u64 (IntKind.wrap .i64 (((sll p0.fWhere).length:Int)+1))))) ((sll p0.fWhere).length:Int)))
abbrev zg77 (p0:Int) (p1:zx):=(aI (IntKind.wrap .i64 (Int.tmod (IntKind.wrap .u64 p0) (IntKind.wrap .u64 (IntKind.wrap .i64 (((sll p1.fWhere).length:Int)+1))))))
abbrev zg78 (p0:zx) (p1:Int):=(sll (qw p0.fWhere (IntKind.wrap .i64 (Int.tmod (IntKind.wrap .u64 p1) (IntKind.wrap .u64 (IntKind.wrap .i64 (((sll p0.fWhere).length:Int)+1))))) ((sll p0.fWhere).length:Int)))
abbrev zg79 (p0:zx) (p1:Int):=(qw p0.fWhere (IntKind.wrap .i64 (Int.tmod (IntKind.wrap .u64 p1) (IntKind.wrap .u64 (IntKind.wrap .i64 (((sll p0.fWhere).length:Int)+1))))) ((sll p0.fWhere).length:Int))
abbrev zg80 (p0:zx) (p1:Int):=(zc za (qw p0.fWhere 0 (IntKind.wrap .i64 (Int.tmod (IntKind.wrap .u64 p1) (IntKind.wrap .u64 (IntKind.wrap .i64 (((sll p0.fWhere).length:Int)+1)))))))
abbrev zg81 (p0:zx) (p1:Int):=(sll (qw p0.fWhere 0 (IntKind.wrap .i64 (Int.tmod (IntKind.wrap .u64 p1) (IntKind.wrap .u64 (IntKind.wrap .i64 (((sll p0.fWhere).length:Int)+1)))))))
abbrev zg82 (p0:zx) (p1:Int):=(qw p0.fWhere 0 (IntKind.wrap .i64 (Int.tmod (IntKind.wrap .u64 p1) (IntKind.wrap .u64 (IntKind.wrap .i64 (((sll p0.fWhere).length:Int)+1))))))
abbrev zg83 (p0:zx) (p1:Int):=((([]:List zd)++(sll (qw p0.fWhere 0 (IntKind.wrap .i64 (Int.tmod (IntKind.wrap .u64 p1) (IntKind.wrap .u64 (IntKind.wrap .i64 (((sll p0.fWhere).length:Int)+1)))))))).length)
abbrev zg84 (p0:zx) (p1:Int):=(([]:List zd)++(sll (qw p0.fWhere 0 (IntKind.wrap .i64 (Int.tmod (IntKind.wrap .u64 p1) (IntKind.wrap .u64 (IntKind.wrap .i64 (((sll p0.fWhere).length:Int)+1))))))))
abbrev zg85 (p0:zx) (p1:Int):=((([]:List zd)++(sll (qw p0.fWhere (IntKind.wrap .i64 (Int.tmod (IntKind.wrap .u64 p1) (IntKind.wrap .u64 (IntKind.wrap .i64 (((sll p0.fWhere).length:Int)+1))))) ((sll p0.fWhere).length:Int)))).length)
abbrev zg86 (p0:zx) (p1:Int):=(([]:List zd)++(sll (qw p0.fWhere (IntKind.wrap .i64 (Int.tmod (IntKind.wrap .u64 p1) (IntKind.wrap .u64 (IntKind.wrap .i64 (((sll p0.fWhere).length:Int)+1))))) ((sll p0.fWhere).length:Int))))
abbrev zg87 (p0:zx) (p1:Int):=(((([]:List zd)++(sll (qw p0.fWhere (IntKind.wrap .i64 (Int.tmod (IntKind.wrap .u64 p1) (IntKind.wrap .u64 (IntKind.wrap .i64 (((sll p0.fWhere).length:Int)+1))))) ((sll p0.fWhere).length:Int))))++(sll (qw p0.fWhere 0 (IntKind.wrap .i64 (Int.tmod (IntKind.wrap .u64 p1) (IntKind.wrap .u64 (IntKind.wrap .i64 (((sll p0.fWhere).length:Int)+1)))))))).length)
abbrev zg88 (p0:zx) (p1:Int):=((([]:List zd)++(sll (qw p0.fWhere (IntKind.wrap .i64 (Int.tmod (IntKind.wrap .u64 p1) (IntKind.wrap .u64 (IntKind.wrap .i64 (((sll p0.fWhere).length:Int)+1))))) ((sll p0.fWhere).length:Int))))++(sll (qw p0.fWhere 0 (IntKind.wrap .i64 (Int.tmod (IntKind.wrap .u64 p1) (IntKind.wrap .u64 (IntKind.wrap .i64 (((sll p0.fWhere).length:Int)+1))))))))
abbrev zg89 (p0:zh):=([(zi (zh.mk p0.fKind p0.fRel p0.fCol p0.fConst p0.fKids))]:List zd)
abbrev zg90 (p0:zh):=(([]:List zd)++([(zi (zh.mk p0.fKind p0.fRel p0.fCol p0.fConst p0.fKids))]:List zd))
abbrev zg91 (p0:zx) (p1:zh):=((([]:List zd)++(sll p0.fWhere))++([(zi (zh.mk p1.fKind p1.fRel p1.fCol p1.fConst p1.fKids))]:List zd))
theorem afW {n:Nat} {a0:zl} {a1:zx} {a2:(Option (List zk))} {a3:zh} {a4:Int} {r:Bool} (hm:aah n a0 a1 a2 a3 a4=some r):
    call G n 6 [.agg (zc2 a0),.agg (zc0 a1),.pv (zc zb a2),.agg (zc7 a3),aI a4] []=some (.ret (aB r),[]):=by
  unfold aah at hm
  obtain ⟨n,rfl,h0⟩:=zp hm
  replace hm:=h0; clear h0
  refine Zt 84 [(0,.agg (zc2 a0)),(1,.agg (zc0 a1)),(2,.pv (zc zb a2)),(3,.agg (zc7 a3)),(4,aI a4)] func6 rfl (by kernel_rfl) (sq (det [(2,.pv (zc zb a2)),(4,aI a4),(5,.ptr 0 0),(6,.ptr 1 0),(8,.ptr 2 0)] [.box (zc2 a0) false,.box (zc0 a1) false,.box (zc7 a3) false] (by kernel_rfl) ?_))
  refine sq (sq (rg ?_))
  obtain ⟨x1,h2,hm⟩:=bs hm
  refine dv 14 (zF (by kernel_rfl) (aje h2) (by kernel_rfl) (by kernel_rfl) (by kernel_rfl)) (by kernel_rfl) (fq 1 [(2,.pv (zc zb a2)),(4,aI a4),(5,.ptr 0 0),(6,.ptr 1 0),(8,.ptr 2 0),(15,aB (!x1))] ?_)
  rcases zf hm with ⟨h3,hm⟩ | ⟨h3,hm⟩
  ·
   refine c1 h3 (sq (dn [(10,aB false)] (wp_ret ?_)))
   obtain rfl:=Option.some.inj hm
   exact ⟨trivial,by kernel_rfl⟩
  ·
   refine c0 h3 (wp_skip (sq (det [(2,.pv (zc zb a2)),(4,aI a4),(5,.ptr 0 0),(6,.ptr 1 0),(8,.ptr 2 0),(11,.ptr 3 0)] [.box (zc2 a0) false,.box (zc0 a1) false,.box (zc7 a3) false,.box (zc0 a1) false] (by kernel_rfl) ?_)))
   obtain ⟨k5,hk5,hm⟩:=zw hm
   refine mid (fun t H=>(∃ (y4:(List zd)),k5 y4=some r∧t=mk 84 [(2,.pv (zc zb a2)),(4,aI a4),(5,.ptr 0 0),(6,.ptr 1 0),(11,.ptr 3 0)]∧H=[.box (zc2 a0) false,.box (zc0 a1) false,.box (zc7 a3) false,.box (zc22 a1 y4) false,bR 49 8 za y4 0 0,bR 49 8 za (zg56 a3) 0 0])) ?_ ?_
   ·
    rintro _ _ ⟨y4,hm,rfl,rfl⟩
    subst hk5
    refine sq (sq (rg (s1 1 [(25,.agg (zc2 a0))] ?_)))
    obtain ⟨x6,h7,hm⟩:=bs hm
    refine dv 26 (zF (by kernel_rfl) (ajj h7) (by kernel_rfl) (by kernel_rfl) (by kernel_rfl)) (by kernel_rfl) (s1 1 [(27,aB x6)] ?_)
    rcases zf hm with ⟨h8,hm⟩ | ⟨h8,hm⟩
    ·
     refine known [27,26] h8 (by kernel_rfl) (fq 11 [(2,.pv (zc zb a2)),(4,aI a4),(5,.ptr 0 0),(6,.ptr 1 0),(11,.ptr 3 0),(38,aB true)] (cT (by kernel_rfl) (sq (dn [(10,aB true)] (wp_ret ?_)))))
     obtain rfl:=Option.some.inj hm
     exact ⟨trivial,by kernel_rfl⟩
    ·
     refine known [27,26] h8 (by kernel_rfl) (s1 2 [(29,.pv (zc zb a2)),(28,.agg (zc22 a1 y4))] ?_)
     obtain ⟨x9,h10,hm⟩:=bs hm
     refine dO [(30,aB x9)] [.box (zc2 a0) false,.box (zc0 a1) false,.box (zc7 a3) false,.box (zc22 a1 y4) false,bR 49 8 za y4 0 0,bR 49 8 za (zg56 a3) 0 0] (adv [4] [.agg (zc22 a1 y4),.pv (zc zb a2)] (fl:=true) (by kernel_rfl) (by kernel_rfl) (qO (afK (zA (Zm) (zA (ack (n:=y4.length) (id:=4) (l:=y4) (R:=za) rfl rfl (Nat.zero_le _)) (zA (Zm) (zA (Zm) (zA (Zm) (zA (Zm) (rfl)))))))) (qO (ai6) (rfl))) (aiK h10) (by kernel_rfl) (by kernel_rfl)) (by kernel_rfl) (s1 2 [(32,aB x9),(31,aB x9)] ?_)
     rcases zf hm with ⟨h11,hm⟩ | ⟨h11,hm⟩
     ·
      refine known [32,31,30] h11 (by kernel_rfl) (fq 6 [(2,.pv (zc zb a2)),(4,aI a4),(5,.ptr 0 0),(6,.ptr 1 0),(11,.ptr 3 0),(38,aB true)] (cT (by kernel_rfl) (sq (dn [(10,aB true)] (wp_ret ?_)))))
      obtain rfl:=Option.some.inj hm
      exact ⟨trivial,by kernel_rfl⟩
     ·
      refine known [32,31,30] h11 (by kernel_rfl) (s1 3 [(35,.pv (zc zb a2)),(34,.agg (zc0 a1)),(33,.agg (zc2 a0))] ?_)
      obtain ⟨x12,h13,hm⟩:=bs hm
      refine dv 36 (zF (by kernel_rfl) (abL h13) (by kernel_rfl) (by kernel_rfl) (by kernel_rfl)) (by kernel_rfl) (fq 2 [(2,.pv (zc zb a2)),(4,aI a4),(5,.ptr 0 0),(6,.ptr 1 0),(11,.ptr 3 0),(38,aB (x12 != 0))] ?_)
      rcases zf hm with ⟨h14,hm⟩ | ⟨h14,hm⟩
      ·
       refine c1 h14 (sq (dn [(10,aB true)] (wp_ret ?_)))
       obtain rfl:=Option.some.inj hm
       exact ⟨trivial,by kernel_rfl⟩
      ·
       refine c0 h14 (wp_skip ?_)
       refine sq (sq (rg (s1 3 [(41,.pv (zc zb a2)),(40,.agg (zc22 a1 y4)),(39,.agg (zc2 a0))] ?_)))
       obtain ⟨x15,h16,hm⟩:=bs hm
       refine dO [(42,aI x15)] [.box (zc2 a0) false,.box (zc0 a1) false,.box (zc7 a3) false,.box (zc22 a1 y4) false,bR 49 8 za y4 0 0,bR 49 8 za (zg56 a3) 0 0] (adv [4] [.agg (zc2 a0),.agg (zc22 a1 y4),.pv (zc zb a2)] (fl:=true) (by kernel_rfl) (by kernel_rfl) (qO (afK (zA (Zm) (zA (Zm) (zA (Zm) (zA (Zm) (zA (Zm) (zA (Zm) (zA (Zm) (zA (Zm) (zA (Zm) (rfl))))))))))) (qO (afK (zA (Zm) (zA (ack (n:=y4.length) (id:=4) (l:=y4) (R:=za) rfl rfl (Nat.zero_le _)) (zA (Zm) (zA (Zm) (zA (Zm) (zA (Zm) (rfl)))))))) (qO (ai6) (rfl)))) (abL h16) (by kernel_rfl) (by kernel_rfl)) (by kernel_rfl) (fq 1 [(2,.pv (zc zb a2)),(4,aI a4),(5,.ptr 0 0),(6,.ptr 1 0),(43,aB (x15 == 0))] ?_)
       rcases zf hm with ⟨h17,hm⟩ | ⟨h17,hm⟩
       ·
        refine c1 h17 (sq (dn [(10,aB false)] (wp_ret ?_)))
        obtain rfl:=Option.some.inj hm
        exact ⟨trivial,by kernel_rfl⟩
       ·
        refine c0 h17 (wp_skip (sq (rg (s1 4 [(47,.pv (zg42 a1)),(46,.ptr 1 1),(45,aU (IntKind.wrap .u64 a4)),(44,aI a4)] (dv 48 (v:=aI ((sll a1.fWhere).length:Int)) (zC za a1.fWhere t23 (by kernel_rfl)) (by kernel_rfl) (s1 2 [(50,aU (IntKind.wrap .u64 (IntKind.wrap .i64 (((sll a1.fWhere).length:Int)+1)))),(49,aI (IntKind.wrap .i64 (((sll a1.fWhere).length:Int)+1)))] ?_))))))
        obtain ⟨_,h18,hm⟩:=bs hm
        refine dv 51 (v:=aU (Int.tmod (IntKind.wrap .u64 a4) (IntKind.wrap .u64 (IntKind.wrap .i64 (((sll a1.fWhere).length:Int)+1))))) (remO h18 (by kernel_rfl)) (by kernel_rfl) (fq 2 [(2,.pv (zc zb a2)),(5,.ptr 0 0),(6,.ptr 1 0),(12,aI (zg75 a4 a1))] (sq (det [(2,.pv (zc zb a2)),(5,.ptr 0 0),(6,.ptr 1 0),(12,aI (zg75 a4 a1)),(13,.ptr 6 0)] [.box (zc2 a0) false,.box (zc0 a1) false,.box (zc7 a3) false,.box (zc22 a1 y4) false,bR 49 8 za y4 0 0,bR 49 8 za (zg56 a3) 0 0,.box (zc0 a1) false] (by kernel_rfl) ?_)))
        obtain ⟨k22,hk22,hm⟩:=zw hm
        refine mid (fun t H=>(∃ (y19:(List zd)) (g20:Nat),k22 y19=some r∧t=mk 84 [(2,.pv (zc zb a2)),(5,.ptr 0 0),(13,.ptr 6 0)]∧H=[.box (zc2 a0) false,.box (zc0 a1) false,.box (zc7 a3) false,.box (zc22 a1 y4) false,bR 49 8 za y4 0 0,bR 49 8 za (zg56 a3) 0 0,.box (zc23 a1 g20) false,bR 49 8 za y19 0 0]∧y19.length=g20)) ?_ ?_
        ·
         rintro _ _ ⟨y19,g20,hm,rfl,rfl,q21⟩
         subst hk22
         refine sq (sq (rg (s1 3 [(68,.pv (zc zb a2)),(67,.agg (zc23 a1 g20)),(66,.agg (zc2 a0))] ?_)))
         obtain ⟨x23,h24,hm⟩:=bs hm
         refine dO [(69,aI x23)] [.box (zc2 a0) false,.box (zc0 a1) false,.box (zc7 a3) false,.box (zc22 a1 y4) false,bR 49 8 za y4 0 0,bR 49 8 za (zg56 a3) 0 0,.box (zc23 a1 g20) false,bR 49 8 za y19 0 0] (adv [7] [.agg (zc2 a0),.agg (zc23 a1 g20),.pv (zc zb a2)] (fl:=true) (by kernel_rfl) (by kernel_rfl) (qO (afK (zA (Zm) (zA (Zm) (zA (Zm) (zA (Zm) (zA (Zm) (zA (Zm) (zA (Zm) (zA (Zm) (zA (Zm) (rfl))))))))))) (qO (afK (zA (Zm) (zA (ack (n:=g20) (id:=7) (l:=y19) (R:=za) rfl (by omega) (Nat.zero_le _)) (zA (Zm) (zA (Zm) (zA (Zm) (zA (Zm) (rfl)))))))) (qO (ai6) (rfl)))) (abL h24) (by kernel_rfl) (by kernel_rfl)) (by kernel_rfl) (fq 1 [(2,.pv (zc zb a2)),(5,.ptr 0 0),(13,.ptr 6 0),(70,aB (x23 != 0))] ?_)
         rcases zf hm with ⟨h25,hm⟩ | ⟨h25,hm⟩
         ·
          refine c1 h25 (sq (dn [(10,aB false)] (wp_ret ?_)))
          obtain rfl:=Option.some.inj hm
          exact ⟨trivial,by kernel_rfl⟩
         ·
          refine c0 h25 (wp_skip (sq (sq (rg (s1 2 [(72,aR 7 8 g20),(71,.ptr 6 1)] (dv 73 (v:=aI (y19.length:Int)) (aeC y19 (n:=g20) (id:=7) (esz:=8) t23 (by omega) (by kernel_rfl)) (by kernel_rfl) (fq 1 [(2,.pv (zc zb a2)),(5,.ptr 0 0),(13,.ptr 6 0),(74,aB (decide ((y19.length:Int) > 0)))] ?_)))))))
          rcases zf hm with ⟨h26,hm⟩ | ⟨h26,hm⟩
          ·
           refine c1 h26 (sq (rg (s1 2 [(76,aR 7 8 g20),(75,.ptr 6 1)] ?_)))
           obtain ⟨_,h27,hm⟩:=bs hm
           refine dv 77 (v:=.ref 7 0 g20 8 (Int.toNat 1) (Int.toNat (y19.length:Int) - Int.toNat 1)) (ama y19 (n:=g20) (id:=7) (esz:=8) (k:=.i64) (k':=.i64) (xl:=some (aI 1)) (xh:=none) h27 (by omega) (.inr rfl) (.inl ⟨rfl,rfl⟩) (by kernel_rfl)) (by kernel_rfl) (stf 2 [(2,.pv (zc zb a2)),(5,.ptr 0 0),(13,.ptr 6 0)] [.box (zc2 a0) false,.box (zc0 a1) false,.box (zc7 a3) false,.box (zc22 a1 y4) false,bR 49 8 za y4 0 0,bR 49 8 za (zg56 a3) 0 0,.box (zc24 a1 g20 y19) false,bR 49 8 za y19 0 0] (by kernel_rfl) (sq (rg (s1 3 [(81,.pv (zc zb a2)),(80,.agg (zc24 a1 g20 y19)),(79,.agg (zc2 a0))] ?_))))
           obtain ⟨x28,h29,hm⟩:=bs hm
           refine dO [(82,aI x28)] [.box (zc2 a0) false,.box (zc0 a1) false,.box (zc7 a3) false,.box (zc22 a1 y4) false,bR 49 8 za y4 0 0,bR 49 8 za (zg56 a3) 0 0,.box (zc24 a1 g20 y19) false,bR 49 8 za y19 0 0] (adv [7] [.agg (zc2 a0),.agg (zc24 a1 g20 y19),.pv (zc zb a2)] (fl:=true) (by kernel_rfl) (by kernel_rfl) (qO (afK (zA (Zm) (zA (Zm) (zA (Zm) (zA (Zm) (zA (Zm) (zA (Zm) (zA (Zm) (zA (Zm) (zA (Zm) (rfl))))))))))) (qO (afK (zA (Zm) (zA (anF (n:=(Int.toNat (y19.length:Int) - Int.toNat 1)) (off:=(Int.toNat 1)) (h:=g20) (id:=7) (l:=y19) (R:=za) rfl (by omega) (Nat.zero_le _) (by have:=Q8 h27; omega)) (zA (Zm) (zA (Zm) (zA (Zm) (zA (Zm) (rfl)))))))) (qO (ai6) (rfl)))) (abL h29) (by kernel_rfl) (by kernel_rfl)) (by kernel_rfl) (fq 2 [(10,aB (x28 == 22))] (wp_ret ?_))
           obtain rfl:=Option.some.inj hm
           exact ⟨trivial,by kernel_rfl⟩
          ·
           refine c0 h26 (wp_skip (sq (dn [(10,aB true)] (wp_ret ?_))))
           obtain rfl:=Option.some.inj hm
           exact ⟨trivial,by kernel_rfl⟩
        refine rgd (std 4 [(57,aI (zg75 a4 a1)),(56,.pv (zg42 a1)),(55,.ptr 1 1),(54,aR 7 8 0)] [.box (zc2 a0) false,.box (zc0 a1) false,.box (zc7 a3) false,.box (zc22 a1 y4) false,bR 49 8 za y4 0 0,bR 49 8 za (zg56 a3) 0 0,.box (zc0 a1) false,bR 49 8 za ([]:List zd) 0 0] (by kernel_rfl) ?_)
        obtain ⟨_,h30,hm⟩:=bs hm
        refine dvd 58 (v:=.pv (zg76 a1 a4)) (afP za a1.fWhere (k:=.i64) (k':=.i64) (xl:=some (zg77 a4 a1)) (xh:=none) (esz:=8) h30 zX (.inr rfl) (.inl ⟨rfl,rfl⟩) (by kernel_rfl)) (by kernel_rfl) ?_
        rcases zf hm with ⟨h31,hm⟩ | ⟨h31,hm⟩
        ·
         obtain ⟨_,h32,hm⟩:=bs hm
         refine dvd 59 (v:=aR 7 8 0) (adu (u:=0) (y:=.pv (zg76 a1 a4)) (n:=0) (id:=7) za ([]:List zd) (zg78 a1 a4) (b:=88) t23 t49 rfl rfl rfl h31 h32 rfl (by first | rfl | assumption | omega | (simp only [List.length_set,List.length_append,List.length_cons,List.length_nil,List.length_replicate,List.length_drop] at * <;> omega)) (Nat.zero_le _) (ada (R:=za) (s:=(zg79 a1 a4))) (by kernel_rfl)) (by kernel_rfl) (shd 3 [(62,aI (zg75 a4 a1)),(61,.pv (zg42 a1)),(60,.ptr 1 1)] (by kernel_rfl) ?_)
         obtain ⟨_,h33,hm⟩:=bs hm
         refine dvd 63 (v:=.pv (zg80 a1 a4)) (afP za a1.fWhere (k:=.i64) (k':=.i64) (xl:=none) (xh:=some (zg77 a4 a1)) (esz:=8) h33 zX (.inl ⟨rfl,rfl⟩) (.inr rfl) (by kernel_rfl)) (by kernel_rfl) ?_
         rcases zf hm with ⟨h34,hm⟩ | ⟨h34,hm⟩
         ·
          obtain ⟨_,h35,hm⟩:=bs hm
          refine dvd 64 (v:=aR 7 8 0) (adu (u:=0) (y:=.pv (zg80 a1 a4)) (n:=0) (id:=7) za ([]:List zd) (zg81 a1 a4) (b:=88) t23 t49 rfl rfl rfl h34 h35 rfl (by first | rfl | assumption | omega | (simp only [List.length_set,List.length_append,List.length_cons,List.length_nil,List.length_replicate,List.length_drop] at * <;> omega)) (Nat.zero_le _) (ada (R:=za) (s:=(zg82 a1 a4))) (by kernel_rfl)) (by kernel_rfl) (std 2 [(65,.ptr 6 1)] [.box (zc2 a0) false,.box (zc0 a1) false,.box (zc7 a3) false,.box (zc22 a1 y4) false,bR 49 8 za y4 0 0,bR 49 8 za (zg56 a3) 0 0,.box [.pv (zc rS a1.fRels),aR 7 8 0,aB a1.fGrouped,.pv (zc za a1.fOut),.pv (zc zj a1.fAggs),.pv (zc zn a1.fOrder)] false,bR 49 8 za ([]:List zd) 0 0] (by kernel_rfl) (find [(2,.pv (zc zb a2)),(5,.ptr 0 0),(13,.ptr 6 0)] rfl (by kernel_rfl) (by kernel_rfl) ?_))
          exact ⟨([]:List zd),0,hm,rfl,rfl,(by first | rfl | assumption | omega | (simp only [List.length_set,List.length_append,List.length_cons,List.length_nil,List.length_replicate,List.length_drop] at * <;> omega))⟩
         ·
          obtain ⟨_,h36,hm⟩:=bs hm
          refine dOd [(64,aR 7 8 (zg83 a1 a4))] [.box (zc2 a0) false,.box (zc0 a1) false,.box (zc7 a3) false,.box (zc22 a1 y4) false,bR 49 8 za y4 0 0,bR 49 8 za (zg56 a3) 0 0,.box (zc0 a1) false,bR 49 8 za (zg84 a1 a4) 0 0] (Qp (u:=0) (n:=0) (id:=7) za ([]:List zd) (zg81 a1 a4) (b:=88) t23 t49 rfl rfl rfl zX h34 h36 rfl (by first | rfl | assumption | omega | (simp only [List.length_set,List.length_append,List.length_cons,List.length_nil,List.length_replicate,List.length_drop] at * <;> omega)) (Nat.zero_le _) (ada (R:=za) (s:=(zg82 a1 a4))) (by kernel_rfl)) (by kernel_rfl) (std 2 [(65,.ptr 6 1)] [.box (zc2 a0) false,.box (zc0 a1) false,.box (zc7 a3) false,.box (zc22 a1 y4) false,bR 49 8 za y4 0 0,bR 49 8 za (zg56 a3) 0 0,.box [.pv (zc rS a1.fRels),aR 7 8 (zg83 a1 a4),aB a1.fGrouped,.pv (zc za a1.fOut),.pv (zc zj a1.fAggs),.pv (zc zn a1.fOrder)] false,bR 49 8 za (zg84 a1 a4) 0 0] (by kernel_rfl) (find [(2,.pv (zc zb a2)),(5,.ptr 0 0),(13,.ptr 6 0)] rfl (by kernel_rfl) (by kernel_rfl) ?_))
          exact ⟨(zg84 a1 a4),(zg84 a1 a4).length,hm,rfl,rfl,(by first | rfl | assumption | omega | (simp only [List.length_set,List.length_append,List.length_cons,List.length_nil,List.length_replicate,List.length_drop] at * <;> omega))⟩
        ·
         obtain ⟨_,h37,hm⟩:=bs hm
         refine dOd [(59,aR 7 8 (zg85 a1 a4))] [.box (zc2 a0) false,.box (zc0 a1) false,.box (zc7 a3) false,.box (zc22 a1 y4) false,bR 49 8 za y4 0 0,bR 49 8 za (zg56 a3) 0 0,.box (zc0 a1) false,bR 49 8 za (zg86 a1 a4) 0 0] (Qp (u:=0) (n:=0) (id:=7) za ([]:List zd) (zg78 a1 a4) (b:=88) t23 t49 rfl rfl rfl zX h31 h37 rfl (by first | rfl | assumption | omega | (simp only [List.length_set,List.length_append,List.length_cons,List.length_nil,List.length_replicate,List.length_drop] at * <;> omega)) (Nat.zero_le _) (ada (R:=za) (s:=(zg79 a1 a4))) (by kernel_rfl)) (by kernel_rfl) (shd 3 [(62,aI (zg75 a4 a1)),(61,.pv (zg42 a1)),(60,.ptr 1 1)] (by kernel_rfl) ?_)
         obtain ⟨_,h38,hm⟩:=bs hm
         refine dvd 63 (v:=.pv (zg80 a1 a4)) (afP za a1.fWhere (k:=.i64) (k':=.i64) (xl:=none) (xh:=some (zg77 a4 a1)) (esz:=8) h38 zX (.inl ⟨rfl,rfl⟩) (.inr rfl) (by kernel_rfl)) (by kernel_rfl) ?_
         rcases zf hm with ⟨h39,hm⟩ | ⟨h39,hm⟩
         ·
          obtain ⟨_,h40,hm⟩:=bs hm
          refine dvd 64 (v:=aR 7 8 (zg85 a1 a4)) (adu (u:=0) (y:=.pv (zg80 a1 a4)) (n:=(zg86 a1 a4).length) (id:=7) za (zg86 a1 a4) (zg81 a1 a4) (b:=88) t23 t49 rfl rfl rfl h39 h40 rfl rfl (Nat.zero_le _) (ada (R:=za) (s:=(zg82 a1 a4))) (by kernel_rfl)) (by kernel_rfl) (std 2 [(65,.ptr 6 1)] [.box (zc2 a0) false,.box (zc0 a1) false,.box (zc7 a3) false,.box (zc22 a1 y4) false,bR 49 8 za y4 0 0,bR 49 8 za (zg56 a3) 0 0,.box [.pv (zc rS a1.fRels),aR 7 8 (zg85 a1 a4),aB a1.fGrouped,.pv (zc za a1.fOut),.pv (zc zj a1.fAggs),.pv (zc zn a1.fOrder)] false,bR 49 8 za (zg86 a1 a4) 0 0] (by kernel_rfl) (find [(2,.pv (zc zb a2)),(5,.ptr 0 0),(13,.ptr 6 0)] rfl (by kernel_rfl) (by kernel_rfl) ?_))
          exact ⟨(zg86 a1 a4),(zg86 a1 a4).length,hm,rfl,rfl,(by first | rfl | assumption | omega | (simp only [List.length_set,List.length_append,List.length_cons,List.length_nil,List.length_replicate,List.length_drop] at * <;> omega))⟩
         ·
          obtain ⟨_,h41,hm⟩:=bs hm
          refine dOd [(64,aR 7 8 (zg87 a1 a4))] [.box (zc2 a0) false,.box (zc0 a1) false,.box (zc7 a3) false,.box (zc22 a1 y4) false,bR 49 8 za y4 0 0,bR 49 8 za (zg56 a3) 0 0,.box (zc0 a1) false,bR 49 8 za (zg88 a1 a4) 0 0] (Qp (u:=0) (n:=(zg86 a1 a4).length) (id:=7) za (zg86 a1 a4) (zg81 a1 a4) (b:=88) t23 t49 rfl rfl rfl zX h39 h41 rfl rfl (Nat.zero_le _) (ada (R:=za) (s:=(zg82 a1 a4))) (by kernel_rfl)) (by kernel_rfl) (std 2 [(65,.ptr 6 1)] [.box (zc2 a0) false,.box (zc0 a1) false,.box (zc7 a3) false,.box (zc22 a1 y4) false,bR 49 8 za y4 0 0,bR 49 8 za (zg56 a3) 0 0,.box [.pv (zc rS a1.fRels),aR 7 8 (zg87 a1 a4),aB a1.fGrouped,.pv (zc za a1.fOut),.pv (zc zj a1.fAggs),.pv (zc zn a1.fOrder)] false,bR 49 8 za (zg88 a1 a4) 0 0] (by kernel_rfl) (find [(2,.pv (zc zb a2)),(5,.ptr 0 0),(13,.ptr 6 0)] rfl (by kernel_rfl) (by kernel_rfl) ?_))
          exact ⟨(zg88 a1 a4),(zg88 a1 a4).length,hm,rfl,rfl,(by first | rfl | assumption | omega | (simp only [List.length_set,List.length_append,List.length_cons,List.length_nil,List.length_replicate,List.length_drop] at * <;> omega))⟩
   refine rgd (std 3 [(19,.pv (zg42 a1)),(18,.ptr 1 1),(17,aR 4 8 0)] [.box (zc2 a0) false,.box (zc0 a1) false,.box (zc7 a3) false,.box (zc0 a1) false,bR 49 8 za ([]:List zd) 0 0] (by kernel_rfl) ?_)
   rcases zf hm with ⟨h42,hm⟩ | ⟨h42,hm⟩
   ·
    obtain ⟨_,h43,hm⟩:=bs hm
    refine dvd 20 (v:=aR 4 8 0) (adu (u:=0) (y:=.pv (zg42 a1)) (n:=0) (id:=4) za ([]:List zd) (sll a1.fWhere) (b:=88) t23 t49 rfl rfl rfl h42 h43 rfl (by first | rfl | assumption | omega | (simp only [List.length_set,List.length_append,List.length_cons,List.length_nil,List.length_replicate,List.length_drop] at * <;> omega)) (Nat.zero_le _) (ada (R:=za) (s:=a1.fWhere)) (by kernel_rfl)) (by kernel_rfl) (std 2 [(22,aR 5 8 1),(21,.agg (zc7 a3))] [.box (zc2 a0) false,.box (zc0 a1) false,.box (zc7 a3) false,.box (zc0 a1) false,bR 49 8 za ([]:List zd) 0 0,bR 49 8 za (zg89 a3) 0 0] (by kernel_rfl) ?_)
    obtain ⟨_,h44,hm⟩:=bs hm
    refine dOd [(23,aR 4 8 ((([]:List zd)++([(zi (zh.mk a3.fKind a3.fRel a3.fCol a3.fConst a3.fKids))]:List zd)).length))] [.box (zc2 a0) false,.box (zc0 a1) false,.box (zc7 a3) false,.box (zc0 a1) false,bR 49 8 za (zg90 a3) 0 0,bR 49 8 za (zg89 a3) 0 0] (Qp (u:=0) (n:=0) (id:=4) za ([]:List zd) (zg89 a3) (b:=88) t23 t49 rfl rfl rfl zX rfl h44 rfl (by first | rfl | assumption | omega | (simp only [List.length_set,List.length_append,List.length_cons,List.length_nil,List.length_replicate,List.length_drop] at * <;> omega)) (Nat.zero_le _) (show ZE (aR 5 8 1) _=some (([(zi (zh.mk a3.fKind a3.fRel a3.fCol a3.fConst a3.fKids))]:List zd).map za) from by kernel_rfl) (by kernel_rfl)) (by kernel_rfl) (std 2 [(24,.ptr 3 1)] [.box (zc2 a0) false,.box (zc0 a1) false,.box (zc7 a3) false,.box [.pv (zc rS a1.fRels),aR 4 8 ((([]:List zd)++([(zi (zh.mk a3.fKind a3.fRel a3.fCol a3.fConst a3.fKids))]:List zd)).length),aB a1.fGrouped,.pv (zc za a1.fOut),.pv (zc zj a1.fAggs),.pv (zc zn a1.fOrder)] false,bR 49 8 za (zg90 a3) 0 0,bR 49 8 za (zg89 a3) 0 0] (by kernel_rfl) (find [(2,.pv (zc zb a2)),(4,aI a4),(5,.ptr 0 0),(6,.ptr 1 0),(11,.ptr 3 0)] rfl (by kernel_rfl) (by kernel_rfl) ?_))
    exact ⟨(zg90 a3),hm,rfl,rfl⟩
   ·
    obtain ⟨_,h45,hm⟩:=bs hm
    refine dOd [(20,aR 4 8 ((([]:List zd)++(sll a1.fWhere)).length))] [.box (zc2 a0) false,.box (zc0 a1) false,.box (zc7 a3) false,.box (zc0 a1) false,bR 49 8 za (([]:List zd)++(sll a1.fWhere)) 0 0] (Qp (u:=0) (n:=0) (id:=4) za ([]:List zd) (sll a1.fWhere) (b:=88) t23 t49 rfl rfl rfl zX h42 h45 rfl (by first | rfl | assumption | omega | (simp only [List.length_set,List.length_append,List.length_cons,List.length_nil,List.length_replicate,List.length_drop] at * <;> omega)) (Nat.zero_le _) (ada (R:=za) (s:=a1.fWhere)) (by kernel_rfl)) (by kernel_rfl) (std 2 [(22,aR 5 8 1),(21,.agg (zc7 a3))] [.box (zc2 a0) false,.box (zc0 a1) false,.box (zc7 a3) false,.box (zc0 a1) false,bR 49 8 za (([]:List zd)++(sll a1.fWhere)) 0 0,bR 49 8 za (zg89 a3) 0 0] (by kernel_rfl) ?_)
    obtain ⟨_,h46,hm⟩:=bs hm
    refine dOd [(23,aR 4 8 (((([]:List zd)++(sll a1.fWhere))++([(zi (zh.mk a3.fKind a3.fRel a3.fCol a3.fConst a3.fKids))]:List zd)).length))] [.box (zc2 a0) false,.box (zc0 a1) false,.box (zc7 a3) false,.box (zc0 a1) false,bR 49 8 za (zg91 a1 a3) 0 0,bR 49 8 za (zg89 a3) 0 0] (Qp (u:=0) (n:=(([]:List zd)++(sll a1.fWhere)).length) (id:=4) za (([]:List zd)++(sll a1.fWhere)) (zg89 a3) (b:=88) t23 t49 rfl rfl rfl zX rfl h46 rfl rfl (Nat.zero_le _) (show ZE (aR 5 8 1) _=some (([(zi (zh.mk a3.fKind a3.fRel a3.fCol a3.fConst a3.fKids))]:List zd).map za) from by kernel_rfl) (by kernel_rfl)) (by kernel_rfl) (std 2 [(24,.ptr 3 1)] [.box (zc2 a0) false,.box (zc0 a1) false,.box (zc7 a3) false,.box [.pv (zc rS a1.fRels),aR 4 8 (((([]:List zd)++(sll a1.fWhere))++([(zi (zh.mk a3.fKind a3.fRel a3.fCol a3.fConst a3.fKids))]:List zd)).length),aB a1.fGrouped,.pv (zc za a1.fOut),.pv (zc zj a1.fAggs),.pv (zc zn a1.fOrder)] false,bR 49 8 za (zg91 a1 a3) 0 0,bR 49 8 za (zg89 a3) 0 0] (by kernel_rfl) (find [(2,.pv (zc zb a2)),(4,aI a4),(5,.ptr 0 0),(6,.ptr 1 0),(11,.ptr 3 0)] rfl (by kernel_rfl) (by kernel_rfl) ?_))
    exact ⟨(zg91 a1 a3),hm,rfl,rfl⟩
end Go.Ab.S1
