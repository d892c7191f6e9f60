import Derived.Test.YtejbcaheoloahaaGreatWB1
noncomputable section
namespace Go.Ab.S1
open Go Go.Ab Go.Pl
open Go.Proofs.Tryz
set_option linter.unusedVariables false
set_option linter.unusedSimpArgs false
set_option maxRecDepth 100000
theorem aev {n:Nat} {a0:(Option (List zk))} {a1:zK} {r:(Option (List Int)) × Int} (hm:abG n a0 a1=some r):
    ∃ vv H1,call G n 59 [.agg (zc5 a1),.ptr 0 0,.ptr 2 0,.ptr 3 0] [.box [.fn 49 [] [.ptr 1 0]] false,.box [.pv (zc zb a0)] false,.box [.pv (.fn 51 [] [])] false,.box [.fn 52 [] [.ptr 4 0]] false,.box [.pv .nils] false]=some (.ret vv,H1)∧(match (generalizing:=false) r with | (none,r0)=>(vv=aI r0∧H1=[.box [.fn 49 [] [.ptr 1 0]] false,.box [.pv (zc zb a0)] false,.box [.pv (.fn 51 [] [])] false,.box [.fn 52 [] [.ptr 4 0]] false,.box [.pv .nils] false]) | (some r1,r0)=>(∃ (e2:Nat),r1.length=e2∧vv=aI r0∧H1=[.box [.fn 49 [] [.ptr 1 0]] false,.box [.pv (zc zb a0)] false,.box [.pv (.fn 51 [] [])] false,.box [.fn 52 [] [.ptr 4 0]] false,.box [aR 5 1 e2] false,bR 3 1 (rI .i64) r1 0 0])):=by
  unfold abG at hm
  obtain ⟨n,rfl,h0⟩:=zp hm
  replace hm:=h0; clear h0
  refine Qh 29 [(0,.agg (zc5 a1)),(1,.ptr 0 0),(2,.ptr 2 0),(3,.ptr 3 0)] func59 rfl (by kernel_rfl) (sq (det [(1,.ptr 0 0),(2,.ptr 2 0),(3,.ptr 3 0),(4,.ptr 5 0)] [.box [.fn 49 [] [.ptr 1 0]] false,.box [.pv (zc zb a0)] false,.box [.pv (.fn 51 [] [])] false,.box [.fn 52 [] [.ptr 4 0]] false,.box [.pv .nils] false,.box (zc5 a1) false] (by kernel_rfl) ?_))
  refine sq (sq (dn [(1,.ptr 0 0),(2,.ptr 2 0),(3,.ptr 3 0),(4,.ptr 5 0),(7,aI a1.fKind)] (bq (sq (dn [(1,.ptr 0 0),(2,.ptr 2 0),(3,.ptr 3 0),(4,.ptr 5 0),(7,aI a1.fKind),(8,aB (a1.fKind == 1))] ?_)))))
  rcases zf hm with ⟨h1,hm⟩ | ⟨h1,hm⟩
  ·
   refine c1 h1 (sq (rg (s1 5 [(14,.fn 60 [] [.ptr 3 0]),(13,.pv (.fn 51 [] [])),(12,.agg (zc1 a1)),(11,.ptr 5 1),(10,.fn 49 [] [.ptr 1 0])] ?_)))
   obtain ⟨x5,h2,hm⟩:=bs hm
   rcases x5 with ⟨_ | x3,x4⟩
   ·
    obtain ⟨vv,H1,hC,rfl,rfl⟩:=qB h2
    refine dR [(15,aI x4)] [.box [.fn 49 [] [.ptr 1 0]] false,.box [.pv (zc zb a0)] false,.box [.pv (.fn 51 [] [])] false,.box [.fn 52 [] [.ptr 4 0]] false,.box [.pv .nils] false,.box (zc5 a1) false] [3,4,1] [.agg (zc1 a1),.pv (.fn 51 [] []),.fn 60 [] [.ptr 3 0],.ptr 1 0] (by kernel_rfl) (by kernel_rfl) (by kernel_rfl) hC (by kernel_rfl) (fq 1 [(5,aI x4)] (wp_ret ?_))
    obtain rfl:=Option.some.inj hm
    exact ⟨trivial,aI x4,[.box [.fn 49 [] [.ptr 1 0]] false,.box [.pv (zc zb a0)] false,.box [.pv (.fn 51 [] [])] false,.box [.fn 52 [] [.ptr 4 0]] false,.box [.pv .nils] false],by kernel_rfl,rfl,rfl⟩
   ·
    obtain ⟨vv,H1,hC,q6,rfl,rfl⟩:=qB h2
    refine dR [(15,aI x4)] [.box [.fn 49 [] [.ptr 1 0]] false,.box [.pv (zc zb a0)] false,.box [.pv (.fn 51 [] [])] false,.box [.fn 52 [] [.ptr 4 0]] false,.box [aR 6 1 (([2]:List Int).length)] false,.box (zc5 a1) false,bR 3 1 (rI .i64) x3 0 0] [3,4,1] [.agg (zc1 a1),.pv (.fn 51 [] []),.fn 60 [] [.ptr 3 0],.ptr 1 0] (by kernel_rfl) (by kernel_rfl) (by kernel_rfl) hC (by kernel_rfl) (fq 1 [(5,aI x4)] (wp_ret ?_))
    obtain rfl:=Option.some.inj hm
    exact ⟨trivial,aI x4,[.box [.fn 49 [] [.ptr 1 0]] false,.box [.pv (zc zb a0)] false,.box [.pv (.fn 51 [] [])] false,.box [.fn 52 [] [.ptr 4 0]] false,.box [aR 5 1 (([2]:List Int).length)] false,bR 3 1 (rI .i64) x3 0 0],by kernel_rfl,([2]:List Int).length,(by first | rfl | assumption | omega | (simp only [List.length_set,List.length_append,List.length_cons,List.length_nil,List.length_replicate,List.length_drop] at * <;> omega)),rfl,rfl⟩
  ·
   refine c0 h1 (sq (dn [(1,.ptr 0 0),(2,.ptr 2 0),(3,.ptr 3 0),(4,.ptr 5 0),(16,aB (a1.fKind == 2))] ?_))
   rcases zf hm with ⟨h7,hm⟩ | ⟨h7,hm⟩
   ·
    refine c1 h7 (sq (rg (s1 4 [(21,.fn 62 [] [.ptr 3 0]),(20,.agg (zc1 a1)),(19,.ptr 5 1),(18,.fn 49 [] [.ptr 1 0])] ?_)))
    obtain ⟨x11,h8,hm⟩:=bs hm
    rcases x11 with ⟨_ | x9,x10⟩
    ·
     obtain ⟨vv,H1,hC,rfl,rfl⟩:=qv h8
     refine dR [(22,aI x10)] [.box [.fn 49 [] [.ptr 1 0]] false,.box [.pv (zc zb a0)] false,.box [.pv (.fn 51 [] [])] false,.box [.fn 52 [] [.ptr 4 0]] false,.box [.pv .nils] false,.box (zc5 a1) false] [3,4,1] [.agg (zc1 a1),.pv (.fn 61 [] []),.fn 62 [] [.ptr 3 0],.ptr 1 0] (by kernel_rfl) (by kernel_rfl) (by kernel_rfl) hC (by kernel_rfl) (fq 1 [(5,aI x10)] (wp_ret ?_))
     obtain rfl:=Option.some.inj hm
     exact ⟨trivial,aI x10,[.box [.fn 49 [] [.ptr 1 0]] false,.box [.pv (zc zb a0)] false,.box [.pv (.fn 51 [] [])] false,.box [.fn 52 [] [.ptr 4 0]] false,.box [.pv .nils] false],by kernel_rfl,rfl,rfl⟩
    ·
     obtain ⟨vv,H1,hC,q12,rfl,rfl⟩:=qv h8
     refine dR [(22,aI x10)] [.box [.fn 49 [] [.ptr 1 0]] false,.box [.pv (zc zb a0)] false,.box [.pv (.fn 51 [] [])] false,.box [.fn 52 [] [.ptr 4 0]] false,.box [aR 6 1 (([2]:List Int).length)] false,.box (zc5 a1) false,bR 3 1 (rI .i64) x9 0 0] [3,4,1] [.agg (zc1 a1),.pv (.fn 61 [] []),.fn 62 [] [.ptr 3 0],.ptr 1 0] (by kernel_rfl) (by kernel_rfl) (by kernel_rfl) hC (by kernel_rfl) (fq 1 [(5,aI x10)] (wp_ret ?_))
     obtain rfl:=Option.some.inj hm
     exact ⟨trivial,aI x10,[.box [.fn 49 [] [.ptr 1 0]] false,.box [.pv (zc zb a0)] false,.box [.pv (.fn 51 [] [])] false,.box [.fn 52 [] [.ptr 4 0]] false,.box [aR 5 1 (([2]:List Int).length)] false,bR 3 1 (rI .i64) x9 0 0],by kernel_rfl,([2]:List Int).length,(by first | rfl | assumption | omega | (simp only [List.length_set,List.length_append,List.length_cons,List.length_nil,List.length_replicate,List.length_drop] at * <;> omega)),rfl,rfl⟩
   ·
    refine c0 h7 (wp_skip (sq (rg (s1 5 [(27,.fn 52 [] [.ptr 4 0]),(26,.pv (.fn 51 [] [])),(25,.agg (zc1 a1)),(24,.ptr 5 1),(23,.fn 49 [] [.ptr 1 0])] ?_))))
    obtain ⟨x16,h13,hm⟩:=bs hm
    rcases x16 with ⟨_ | x14,x15⟩
    ·
     obtain ⟨vv,H1,hC,rfl,rfl⟩:=ZF h13
     refine dR [(28,aI x15)] [.box [.fn 49 [] [.ptr 1 0]] false,.box [.pv (zc zb a0)] false,.box [.pv (.fn 51 [] [])] false,.box [.fn 52 [] [.ptr 4 0]] false,.box [.pv .nils] false,.box (zc5 a1) false] [4,1] [.agg (zc1 a1),.pv (.fn 51 [] []),.fn 52 [] [.ptr 4 0],.ptr 1 0] (by kernel_rfl) (by kernel_rfl) (by kernel_rfl) hC (by kernel_rfl) (fq 1 [(5,aI x15)] (wp_ret ?_))
     obtain rfl:=Option.some.inj hm
     exact ⟨trivial,aI x15,[.box [.fn 49 [] [.ptr 1 0]] false,.box [.pv (zc zb a0)] false,.box [.pv (.fn 51 [] [])] false,.box [.fn 52 [] [.ptr 4 0]] false,.box [.pv .nils] false],by kernel_rfl,rfl,rfl⟩
    ·
     obtain ⟨vv,H1,hC,rfl,rfl⟩:=ZF h13
     refine dR [(28,aI x15)] [.box [.fn 49 [] [.ptr 1 0]] false,.box [.pv (zc zb a0)] false,.box [.pv (.fn 51 [] [])] false,.box [.fn 52 [] [.ptr 4 0]] false,.box [aR 6 1 x14.length] false,.box (zc5 a1) false,bR 3 1 (rI .i64) x14 0 0] [4,1] [.agg (zc1 a1),.pv (.fn 51 [] []),.fn 52 [] [.ptr 4 0],.ptr 1 0] (by kernel_rfl) (by kernel_rfl) (by kernel_rfl) hC (by kernel_rfl) (fq 1 [(5,aI x15)] (wp_ret ?_))
     obtain rfl:=Option.some.inj hm
     exact ⟨trivial,aI x15,[.box [.fn 49 [] [.ptr 1 0]] false,.box [.pv (zc zb a0)] false,.box [.pv (.fn 51 [] [])] false,.box [.fn 52 [] [.ptr 4 0]] false,.box [aR 5 1 x14.length] false,bR 3 1 (rI .i64) x14 0 0],by kernel_rfl,x14.length,(by first | rfl | assumption | omega | (simp only [List.length_set,List.length_append,List.length_cons,List.length_nil,List.length_replicate,List.length_drop] at * <;> omega)),rfl,rfl⟩
abbrev zc11 (p0:(List Int)):List AV:=[aR 2 1 ((p0++([2]:List Int)).length)]
theorem afg (m2:Nat) (f2:Nat) {n:Nat} {a0:(List Int)} {a1:Int} {r:Unit} (hm2:a0.length=m2) (hf2:f2≤a0.length) (hm:aaX n a0 a1=some r):
    ∃ vv H1,call G n 60 [aI a1,.ptr 0 0] [.box [.fn 52 [] [.ptr 1 0]] false,.box [aR 2 1 m2] false,bR 3 1 (rI .i64) a0 f2 0]=some (.ret vv,H1)∧(vv=.tup []∧H1=[.box [.fn 52 [] [.ptr 1 0]] false,.box (zc11 a0) false,bR 3 1 (rI .i64) (a0++([2]:List Int)) f2 0]):=by
  unfold aaX at hm
  obtain ⟨n,rfl,h0⟩:=zp hm
  replace hm:=h0; clear h0
  refine Qh 5 [(0,aI a1),(1,.ptr 0 0)] func60 rfl (by kernel_rfl) (rg (s1 1 [(3,.fn 52 [] [.ptr 1 0])] ?_))
  obtain ⟨_,h1,hm⟩:=bs hm
  obtain ⟨vv,H1,hC,rfl,rfl⟩:=abW m2 f2 (by first | rfl | assumption | omega | (simp only [List.length_set,List.length_append,List.length_cons,List.length_nil,List.length_replicate,List.length_drop] at * <;> omega)) (by first | exact Nat.zero_le _ | exact Nat.le_refl _ | assumption | omega | (simp only [List.length_set,List.length_append,List.length_cons,List.length_nil,List.length_replicate,List.length_drop] at * <;> omega)) h1
  refine dR [(4,.tup [])] [.box [.fn 52 [] [.ptr 1 0]] false,.box (zc11 a0) false,bR 3 1 (rI .i64) (a0++([2]:List Int)) f2 0] [1,2] [aI 2,.ptr 1 0] (by kernel_rfl) (by kernel_rfl) (by kernel_rfl) hC (by kernel_rfl) (fin [] rfl (by kernel_rfl) ?_)
  obtain rfl:=Option.some.inj hm
  exact ⟨trivial,.tup [],[.box [.fn 52 [] [.ptr 1 0]] false,.box (zc11 a0) false,bR 3 1 (rI .i64) (a0++([2]:List Int)) f2 0],by kernel_rfl,rfl,rfl⟩
theorem QU (m2:Nat) (f2:Nat) {n:Nat} {a0:(List Int)} {a1:(Option (List zk))} {a2:zh} {r:(List Int) × Int} (hm2:a0.length=m2) (hf2:f2≤a0.length) (hm:Zj n a0 a1 a2=some r):
    ∃ vv H1,call G n 49 [.agg (zc7 a2),.pv (.fn 51 [] []),.fn 60 [] [.ptr 0 0],.ptr 3 0] [.box [.fn 52 [] [.ptr 1 0]] false,.box [aR 2 1 m2] false,bR 3 1 (rI .i64) a0 f2 0,.box [.pv (zc zb a1)] false]=some (.ret vv,H1)∧(match (generalizing:=false) r with | (r0,r1)=>(∃ (e2:Nat) (e3:Nat),r0.length=e2∧e3≤r0.length∧vv=aI r1∧H1=[.box [.fn 52 [] [.ptr 1 0]] false,.box [aR 2 1 e2] false,bR 3 1 (rI .i64) r0 e3 0,.box [.pv (zc zb a1)] false])):=by
  unfold Zj at hm
  obtain ⟨n,rfl,h0⟩:=zp hm
  replace hm:=h0; clear h0
  refine Qh 30 [(0,.agg (zc7 a2)),(1,.pv (.fn 51 [] [])),(2,.fn 60 [] [.ptr 0 0]),(3,.ptr 3 0)] func49 rfl (by kernel_rfl) (sq (det [(1,.pv (.fn 51 [] [])),(2,.fn 60 [] [.ptr 0 0]),(3,.ptr 3 0),(4,.ptr 4 0)] [.box [.fn 52 [] [.ptr 1 0]] false,.box [aR 2 1 m2] false,bR 3 1 (rI .i64) a0 f2 0,.box [.pv (zc zb a1)] false,.box (zc7 a2) false] (by kernel_rfl) (sq (rg (s1 2 [(12,.pv (zc zb a1)),(11,.agg (zc7 a2))] ?_)))))
  obtain ⟨x1,h2,hm⟩:=bs hm
  refine dv 13 (zF (by kernel_rfl) (aaF h2) (by kernel_rfl) (by kernel_rfl) (by kernel_rfl)) (by kernel_rfl) (fq 5 [(1,.pv (.fn 51 [] [])),(2,.fn 60 [] [.ptr 0 0]),(8,aI x1.1),(9,aI x1.2)] ?_)
  obtain ⟨k5,hk5,hm⟩:=zw hm
  refine mid (fun t H=>(∃ (y4:Int) (w3:AV),k5 y4=some r∧t=mk 30 [(2,.fn 60 [] [.ptr 0 0]),(8,aI x1.1),(9,aI y4),(23,w3)]∧H=[.box [.fn 52 [] [.ptr 1 0]] false,.box [aR 2 1 m2] false,bR 3 1 (rI .i64) a0 f2 0,.box [.pv (zc zb a1)] false,.box (zc7 a2) false])) ?_ ?_
  ·
   rintro _ _ ⟨y4,w3,hm,rfl,rfl⟩
   subst hk5
   refine sq (sq (dn [(2,.fn 60 [] [.ptr 0 0]),(8,aI x1.1),(9,aI y4),(25,aB (y4 == 0))] ?_))
   rcases zf hm with ⟨h6,hm⟩ | ⟨h6,hm⟩
   ·
    refine c1 h6 (rg (s1 2 [(27,aI x1.1),(26,.fn 60 [] [.ptr 0 0])] ?_))
    obtain ⟨_,h7,hm⟩:=bs hm
    obtain ⟨vv,H1,hC,rfl,rfl⟩:=afg m2 f2 (by first | rfl | assumption | omega | (simp only [List.length_set,List.length_append,List.length_cons,List.length_nil,List.length_replicate,List.length_drop] at * <;> omega)) (by first | exact Nat.zero_le _ | exact Nat.le_refl _ | assumption | omega | (simp only [List.length_set,List.length_append,List.length_cons,List.length_nil,List.length_replicate,List.length_drop] at * <;> omega)) h7
    refine dR [(28,.tup [])] [.box [.fn 52 [] [.ptr 1 0]] false,.box (zc11 a0) false,bR 3 1 (rI .i64) (a0++([2]:List Int)) f2 0,.box [.pv (zc zb a1)] false,.box (zc7 a2) false] [0,1,2] [aI x1.1,.ptr 0 0] (by kernel_rfl) (by kernel_rfl) (by kernel_rfl) hC (by kernel_rfl) (fin [(9,aI y4)] rfl (by kernel_rfl) (sq (dn [(7,aI y4)] (wp_ret ?_))))
    obtain rfl:=Option.some.inj hm
    exact ⟨trivial,aI y4,[.box [.fn 52 [] [.ptr 1 0]] false,.box (zc11 a0) false,bR 3 1 (rI .i64) (a0++([2]:List Int)) f2 0,.box [.pv (zc zb a1)] false],by kernel_rfl,(a0++([2]:List Int)).length,f2,(by first | rfl | assumption | omega | (simp only [List.length_set,List.length_append,List.length_cons,List.length_nil,List.length_replicate,List.length_drop] at * <;> omega)),(by first | exact Nat.zero_le _ | exact Nat.le_refl _ | assumption | omega | (simp only [List.length_set,List.length_append,List.length_cons,List.length_nil,List.length_replicate,List.length_drop] at * <;> omega)),rfl,rfl⟩
   ·
    refine c0 h6 (wp_skip (sq (dn [(7,aI y4)] (wp_ret ?_))))
    obtain rfl:=Option.some.inj hm
    exact ⟨trivial,aI y4,[.box [.fn 52 [] [.ptr 1 0]] false,.box [aR 2 1 m2] false,bR 3 1 (rI .i64) a0 f2 0,.box [.pv (zc zb a1)] false],by kernel_rfl,m2,f2,(by first | rfl | assumption | omega | (simp only [List.length_set,List.length_append,List.length_cons,List.length_nil,List.length_replicate,List.length_drop] at * <;> omega)),(by first | exact Nat.zero_le _ | exact Nat.le_refl _ | assumption | omega | (simp only [List.length_set,List.length_append,List.length_cons,List.length_nil,List.length_replicate,List.length_drop] at * <;> omega)),rfl,rfl⟩
  refine sq (rg (s1 3 [(18,aB (x1.2 == 0)),(17,aB (x1.2 == 0)),(16,aI x1.2)] ?_))
  rcases zf hm with ⟨h8,hm⟩ | ⟨h8,hm⟩
  ·
   refine known [18,17] h8 (by kernel_rfl) (s1 2 [(20,aI x1.1),(19,.pv (.fn 51 [] []))] ?_)
   obtain ⟨x9,h10,hm⟩:=bs hm
   refine dv 21 (zF (by kernel_rfl) (abp h10) (by kernel_rfl) (by kernel_rfl) (by kernel_rfl)) (by kernel_rfl) (fq 2 [(2,.fn 60 [] [.ptr 0 0]),(8,aI x1.1),(9,aI x1.2),(23,aB (!x9))] ?_)
   rcases zf hm with ⟨h11,hm⟩ | ⟨h11,hm⟩
   ·
    refine c1 h11 (dn [(2,.fn 60 [] [.ptr 0 0]),(8,aI x1.1),(9,aI 50)] ?_)
    exact ⟨50,.any,hm,(zJ (by kernel_rfl)),rfl⟩
   ·
    refine c0 h11 (wp_skip ?_)
    exact ⟨x1.2,aB (!x9),hm,(zJ (by kernel_rfl)),rfl⟩
  ·
   refine known [18,17] h8 (by kernel_rfl) (fq 5 [(2,.fn 60 [] [.ptr 0 0]),(8,aI x1.1),(9,aI x1.2),(23,aB false)] (cF (by kernel_rfl) (wp_skip ?_)))
   exact ⟨x1.2,aB false,hm,(zJ (by kernel_rfl)),rfl⟩
theorem ae3 (m2:Nat) (f2:Nat) {n:Nat} {a0:(List Int)} {a1:Int} {r:Unit} (hm2:a0.length=m2) (hf2:f2≤a0.length) (hm:aa1 n a0 a1=some r):
    ∃ vv H1,call G n 62 [aI a1,.ptr 0 0] [.box [.fn 52 [] [.ptr 1 0]] false,.box [aR 2 1 m2] false,bR 3 1 (rI .i64) a0 f2 0]=some (.ret vv,H1)∧(vv=.tup []∧H1=[.box [.fn 52 [] [.ptr 1 0]] false,.box (zc11 a0) false,bR 3 1 (rI .i64) (a0++([2]:List Int)) f2 0]):=by
  unfold aa1 at hm
  obtain ⟨n,rfl,h0⟩:=zp hm
  replace hm:=h0; clear h0
  refine Qh 5 [(0,aI a1),(1,.ptr 0 0)] func62 rfl (by kernel_rfl) (rg (s1 1 [(3,.fn 52 [] [.ptr 1 0])] ?_))
  obtain ⟨_,h1,hm⟩:=bs hm
  obtain ⟨vv,H1,hC,rfl,rfl⟩:=abW m2 f2 (by first | rfl | assumption | omega | (simp only [List.length_set,List.length_append,List.length_cons,List.length_nil,List.length_replicate,List.length_drop] at * <;> omega)) (by first | exact Nat.zero_le _ | exact Nat.le_refl _ | assumption | omega | (simp only [List.length_set,List.length_append,List.length_cons,List.length_nil,List.length_replicate,List.length_drop] at * <;> omega)) h1
  refine dR [(4,.tup [])] [.box [.fn 52 [] [.ptr 1 0]] false,.box (zc11 a0) false,bR 3 1 (rI .i64) (a0++([2]:List Int)) f2 0] [1,2] [aI 2,.ptr 1 0] (by kernel_rfl) (by kernel_rfl) (by kernel_rfl) hC (by kernel_rfl) (fin [] rfl (by kernel_rfl) ?_)
  obtain rfl:=Option.some.inj hm
  exact ⟨trivial,.tup [],[.box [.fn 52 [] [.ptr 1 0]] false,.box (zc11 a0) false,bR 3 1 (rI .i64) (a0++([2]:List Int)) f2 0],by kernel_rfl,rfl,rfl⟩
theorem QI (m2:Nat) (f2:Nat) {n:Nat} {a0:(List Int)} {a1:(Option (List zk))} {a2:zh} {r:(List Int) × Int} (hm2:a0.length=m2) (hf2:f2≤a0.length) (hm:Ze n a0 a1 a2=some r):
    ∃ vv H1,call G n 49 [.agg (zc7 a2),.pv (.fn 61 [] []),.fn 62 [] [.ptr 0 0],.ptr 3 0] [.box [.fn 52 [] [.ptr 1 0]] false,.box [aR 2 1 m2] false,bR 3 1 (rI .i64) a0 f2 0,.box [.pv (zc zb a1)] false]=some (.ret vv,H1)∧(match (generalizing:=false) r with | (r0,r1)=>(∃ (e2:Nat) (e3:Nat),r0.length=e2∧e3≤r0.length∧vv=aI r1∧H1=[.box [.fn 52 [] [.ptr 1 0]] false,.box [aR 2 1 e2] false,bR 3 1 (rI .i64) r0 e3 0,.box [.pv (zc zb a1)] false])):=by
  unfold Ze at hm
  obtain ⟨n,rfl,h0⟩:=zp hm
  replace hm:=h0; clear h0
  refine Qh 30 [(0,.agg (zc7 a2)),(1,.pv (.fn 61 [] [])),(2,.fn 62 [] [.ptr 0 0]),(3,.ptr 3 0)] func49 rfl (by kernel_rfl) (sq (det [(1,.pv (.fn 61 [] [])),(2,.fn 62 [] [.ptr 0 0]),(3,.ptr 3 0),(4,.ptr 4 0)] [.box [.fn 52 [] [.ptr 1 0]] false,.box [aR 2 1 m2] false,bR 3 1 (rI .i64) a0 f2 0,.box [.pv (zc zb a1)] false,.box (zc7 a2) false] (by kernel_rfl) (sq (rg (s1 2 [(12,.pv (zc zb a1)),(11,.agg (zc7 a2))] ?_)))))
  obtain ⟨x1,h2,hm⟩:=bs hm
  refine dv 13 (zF (by kernel_rfl) (aaF h2) (by kernel_rfl) (by kernel_rfl) (by kernel_rfl)) (by kernel_rfl) (fq 5 [(1,.pv (.fn 61 [] [])),(2,.fn 62 [] [.ptr 0 0]),(8,aI x1.1),(9,aI x1.2)] ?_)
  obtain ⟨k5,hk5,hm⟩:=zw hm
  refine mid (fun t H=>(∃ (y4:Int) (w3:AV),k5 y4=some r∧t=mk 30 [(2,.fn 62 [] [.ptr 0 0]),(8,aI x1.1),(9,aI y4),(23,w3)]∧H=[.box [.fn 52 [] [.ptr 1 0]] false,.box [aR 2 1 m2] false,bR 3 1 (rI .i64) a0 f2 0,.box [.pv (zc zb a1)] false,.box (zc7 a2) false])) ?_ ?_
  ·
   rintro _ _ ⟨y4,w3,hm,rfl,rfl⟩
   subst hk5
   refine sq (sq (dn [(2,.fn 62 [] [.ptr 0 0]),(8,aI x1.1),(9,aI y4),(25,aB (y4 == 0))] ?_))
   rcases zf hm with ⟨h6,hm⟩ | ⟨h6,hm⟩
   ·
    refine c1 h6 (rg (s1 2 [(27,aI x1.1),(26,.fn 62 [] [.ptr 0 0])] ?_))
    obtain ⟨_,h7,hm⟩:=bs hm
    obtain ⟨vv,H1,hC,rfl,rfl⟩:=ae3 m2 f2 (by first | rfl | assumption | omega | (simp only [List.length_set,List.length_append,List.length_cons,List.length_nil,List.length_replicate,List.length_drop] at * <;> omega)) (by first | exact Nat.zero_le _ | exact Nat.le_refl _ | assumption | omega | (simp only [List.length_set,List.length_append,List.length_cons,List.length_nil,List.length_replicate,List.length_drop] at * <;> omega)) h7
    refine dR [(28,.tup [])] [.box [.fn 52 [] [.ptr 1 0]] false,.box (zc11 a0) false,bR 3 1 (rI .i64) (a0++([2]:List Int)) f2 0,.box [.pv (zc zb a1)] false,.box (zc7 a2) false] [0,1,2] [aI x1.1,.ptr 0 0] (by kernel_rfl) (by kernel_rfl) (by kernel_rfl) hC (by kernel_rfl) (fin [(9,aI y4)] rfl (by kernel_rfl) (sq (dn [(7,aI y4)] (wp_ret ?_))))
    obtain rfl:=Option.some.inj hm
    exact ⟨trivial,aI y4,[.box [.fn 52 [] [.ptr 1 0]] false,.box (zc11 a0) false,bR 3 1 (rI .i64) (a0++([2]:List Int)) f2 0,.box [.pv (zc zb a1)] false],by kernel_rfl,(a0++([2]:List Int)).length,f2,(by first | rfl | assumption | omega | (simp only [List.length_set,List.length_append,List.length_cons,List.length_nil,List.length_replicate,List.length_drop] at * <;> omega)),(by first | exact Nat.zero_le _ | exact Nat.le_refl _ | assumption | omega | (simp only [List.length_set,List.length_append,List.length_cons,List.length_nil,List.length_replicate,List.length_drop] at * <;> omega)),rfl,rfl⟩
   ·
    refine c0 h6 (wp_skip (sq (dn [(7,aI y4)] (wp_ret ?_))))
    obtain rfl:=Option.some.inj hm
    exact ⟨trivial,aI y4,[.box [.fn 52 [] [.ptr 1 0]] false,.box [aR 2 1 m2] false,bR 3 1 (rI .i64) a0 f2 0,.box [.pv (zc zb a1)] false],by kernel_rfl,m2,f2,(by first | rfl | assumption | omega | (simp only [List.length_set,List.length_append,List.length_cons,List.length_nil,List.length_replicate,List.length_drop] at * <;> omega)),(by first | exact Nat.zero_le _ | exact Nat.le_refl _ | assumption | omega | (simp only [List.length_set,List.length_append,List.length_cons,List.length_nil,List.length_replicate,List.length_drop] at * <;> omega)),rfl,rfl⟩
  refine sq (rg (s1 3 [(18,aB (x1.2 == 0)),(17,aB (x1.2 == 0)),(16,aI x1.2)] ?_))
  rcases zf hm with ⟨h8,hm⟩ | ⟨h8,hm⟩
  ·
   refine known [18,17] h8 (by kernel_rfl) (s1 2 [(20,aI x1.1),(19,.pv (.fn 61 [] []))] ?_)
   obtain ⟨x9,h10,hm⟩:=bs hm
   refine dv 21 (zF (by kernel_rfl) (adA h10) (by kernel_rfl) (by kernel_rfl) (by kernel_rfl)) (by kernel_rfl) (fq 2 [(2,.fn 62 [] [.ptr 0 0]),(8,aI x1.1),(9,aI x1.2),(23,aB (!x9))] ?_)
   rcases zf hm with ⟨h11,hm⟩ | ⟨h11,hm⟩
   ·
    refine c1 h11 (dn [(2,.fn 62 [] [.ptr 0 0]),(8,aI x1.1),(9,aI 50)] ?_)
    exact ⟨50,.any,hm,(zJ (by kernel_rfl)),rfl⟩
   ·
    refine c0 h11 (wp_skip ?_)
    exact ⟨x1.2,aB (!x9),hm,(zJ (by kernel_rfl)),rfl⟩
  ·
   refine known [18,17] h8 (by kernel_rfl) (fq 5 [(2,.fn 62 [] [.ptr 0 0]),(8,aI x1.1),(9,aI x1.2),(23,aB false)] (cF (by kernel_rfl) (wp_skip ?_)))
   exact ⟨x1.2,aB false,hm,(zJ (by kernel_rfl)),rfl⟩
theorem adx (m5:Nat) (f5:Nat) {n:Nat} {a0:(List Int)} {a1:(Option (List zk))} {a2:zK} {r:(List Int) × Int} (hm5:a0.length=m5) (hf5:f5≤a0.length) (hm:QY n a0 a1 a2=some r):
    ∃ vv H1,call G n 59 [.agg (zc5 a2),.ptr 0 0,.ptr 2 0,.ptr 3 0] [.box [.fn 49 [] [.ptr 1 0]] false,.box [.pv (zc zb a1)] false,.box [.pv (.fn 51 [] [])] false,.box [.fn 52 [] [.ptr 4 0]] false,.box [aR 5 1 m5] false,bR 3 1 (rI .i64) a0 f5 0]=some (.ret vv,H1)∧(match (generalizing:=false) r with | (r0,r1)=>(∃ (e2:Nat) (e3:Nat),r0.length=e2∧e3≤r0.length∧vv=aI r1∧H1=[.box [.fn 49 [] [.ptr 1 0]] false,.box [.pv (zc zb a1)] false,.box [.pv (.fn 51 [] [])] false,.box [.fn 52 [] [.ptr 4 0]] false,.box [aR 5 1 e2] false,bR 3 1 (rI .i64) r0 e3 0])):=by
  unfold QY at hm
  obtain ⟨n,rfl,h0⟩:=zp hm
  replace hm:=h0; clear h0
  refine Qh 29 [(0,.agg (zc5 a2)),(1,.ptr 0 0),(2,.ptr 2 0),(3,.ptr 3 0)] func59 rfl (by kernel_rfl) (sq (det [(1,.ptr 0 0),(2,.ptr 2 0),(3,.ptr 3 0),(4,.ptr 6 0)] [.box [.fn 49 [] [.ptr 1 0]] false,.box [.pv (zc zb a1)] false,.box [.pv (.fn 51 [] [])] false,.box [.fn 52 [] [.ptr 4 0]] false,.box [aR 5 1 m5] false,bR 3 1 (rI .i64) a0 f5 0,.box (zc5 a2) false] (by kernel_rfl) ?_))
  refine sq (sq (dn [(1,.ptr 0 0),(2,.ptr 2 0),(3,.ptr 3 0),(4,.ptr 6 0),(7,aI a2.fKind)] (bq (sq (dn [(1,.ptr 0 0),(2,.ptr 2 0),(3,.ptr 3 0),(4,.ptr 6 0),(7,aI a2.fKind),(8,aB (a2.fKind == 1))] ?_)))))
  rcases zf hm with ⟨h1,hm⟩ | ⟨h1,hm⟩
  ·
   refine c1 h1 (sq (rg (s1 5 [(14,.fn 60 [] [.ptr 3 0]),(13,.pv (.fn 51 [] [])),(12,.agg (zc1 a2)),(11,.ptr 6 1),(10,.fn 49 [] [.ptr 1 0])] ?_)))
   obtain ⟨⟨x3,x4⟩,h2,hm⟩:=bs hm
   obtain ⟨vv,H1,hC,g5,g6,q7,q8,rfl,rfl⟩:=QU m5 f5 (by first | rfl | assumption | omega | (simp only [List.length_set,List.length_append,List.length_cons,List.length_nil,List.length_replicate,List.length_drop] at * <;> omega)) (by first | exact Nat.zero_le _ | exact Nat.le_refl _ | assumption | omega | (simp only [List.length_set,List.length_append,List.length_cons,List.length_nil,List.length_replicate,List.length_drop] at * <;> omega)) h2
   refine dR [(15,aI x4)] [.box [.fn 49 [] [.ptr 1 0]] false,.box [.pv (zc zb a1)] false,.box [.pv (.fn 51 [] [])] false,.box [.fn 52 [] [.ptr 4 0]] false,.box [aR 5 1 g5] false,bR 3 1 (rI .i64) x3 g6 0,.box (zc5 a2) false] [3,4,5,1] [.agg (zc1 a2),.pv (.fn 51 [] []),.fn 60 [] [.ptr 3 0],.ptr 1 0] (by kernel_rfl) (by kernel_rfl) (by kernel_rfl) hC (by kernel_rfl) (fq 1 [(5,aI x4)] (wp_ret ?_))
   obtain rfl:=Option.some.inj hm
   exact ⟨trivial,aI x4,[.box [.fn 49 [] [.ptr 1 0]] false,.box [.pv (zc zb a1)] false,.box [.pv (.fn 51 [] [])] false,.box [.fn 52 [] [.ptr 4 0]] false,.box [aR 5 1 g5] false,bR 3 1 (rI .i64) x3 g6 0],by kernel_rfl,g5,g6,(by first | rfl | assumption | omega | (simp only [List.length_set,List.length_append,List.length_cons,List.length_nil,List.length_replicate,List.length_drop] at * <;> omega)),(by first | exact Nat.zero_le _ | exact Nat.le_refl _ | assumption | omega | (simp only [List.length_set,List.length_append,List.length_cons,List.length_nil,List.length_replicate,List.length_drop] at * <;> omega)),rfl,rfl⟩
  ·
   refine c0 h1 (sq (dn [(1,.ptr 0 0),(2,.ptr 2 0),(3,.ptr 3 0),(4,.ptr 6 0),(16,aB (a2.fKind == 2))] ?_))
   rcases zf hm with ⟨h9,hm⟩ | ⟨h9,hm⟩
   ·
    refine c1 h9 (sq (rg (s1 4 [(21,.fn 62 [] [.ptr 3 0]),(20,.agg (zc1 a2)),(19,.ptr 6 1),(18,.fn 49 [] [.ptr 1 0])] ?_)))
    obtain ⟨⟨x11,x12⟩,h10,hm⟩:=bs hm
    obtain ⟨vv,H1,hC,g13,g14,q15,q16,rfl,rfl⟩:=QI m5 f5 (by first | rfl | assumption | omega | (simp only [List.length_set,List.length_append,List.length_cons,List.length_nil,List.length_replicate,List.length_drop] at * <;> omega)) (by first | exact Nat.zero_le _ | exact Nat.le_refl _ | assumption | omega | (simp only [List.length_set,List.length_append,List.length_cons,List.length_nil,List.length_replicate,List.length_drop] at * <;> omega)) h10
    refine dR [(22,aI x12)] [.box [.fn 49 [] [.ptr 1 0]] false,.box [.pv (zc zb a1)] false,.box [.pv (.fn 51 [] [])] false,.box [.fn 52 [] [.ptr 4 0]] false,.box [aR 5 1 g13] false,bR 3 1 (rI .i64) x11 g14 0,.box (zc5 a2) false] [3,4,5,1] [.agg (zc1 a2),.pv (.fn 61 [] []),.fn 62 [] [.ptr 3 0],.ptr 1 0] (by kernel_rfl) (by kernel_rfl) (by kernel_rfl) hC (by kernel_rfl) (fq 1 [(5,aI x12)] (wp_ret ?_))
    obtain rfl:=Option.some.inj hm
    exact ⟨trivial,aI x12,[.box [.fn 49 [] [.ptr 1 0]] false,.box [.pv (zc zb a1)] false,.box [.pv (.fn 51 [] [])] false,.box [.fn 52 [] [.ptr 4 0]] false,.box [aR 5 1 g13] false,bR 3 1 (rI .i64) x11 g14 0],by kernel_rfl,g13,g14,(by first | rfl | assumption | omega | (simp only [List.length_set,List.length_append,List.length_cons,List.length_nil,List.length_replicate,List.length_drop] at * <;> omega)),(by first | exact Nat.zero_le _ | exact Nat.le_refl _ | assumption | omega | (simp only [List.length_set,List.length_append,List.length_cons,List.length_nil,List.length_replicate,List.length_drop] at * <;> omega)),rfl,rfl⟩
   ·
    refine c0 h9 (wp_skip (sq (rg (s1 5 [(27,.fn 52 [] [.ptr 4 0]),(26,.pv (.fn 51 [] [])),(25,.agg (zc1 a2)),(24,.ptr 6 1),(23,.fn 49 [] [.ptr 1 0])] ?_))))
    obtain ⟨⟨x18,x19⟩,h17,hm⟩:=bs hm
    obtain ⟨vv,H1,hC,g20,g21,q22,q23,rfl,rfl⟩:=qC m5 f5 (by first | rfl | assumption | omega | (simp only [List.length_set,List.length_append,List.length_cons,List.length_nil,List.length_replicate,List.length_drop] at * <;> omega)) (by first | exact Nat.zero_le _ | exact Nat.le_refl _ | assumption | omega | (simp only [List.length_set,List.length_append,List.length_cons,List.length_nil,List.length_replicate,List.length_drop] at * <;> omega)) h17
    refine dR [(28,aI x19)] [.box [.fn 49 [] [.ptr 1 0]] false,.box [.pv (zc zb a1)] false,.box [.pv (.fn 51 [] [])] false,.box [.fn 52 [] [.ptr 4 0]] false,.box [aR 5 1 g20] false,bR 3 1 (rI .i64) x18 g21 0,.box (zc5 a2) false] [4,5,1] [.agg (zc1 a2),.pv (.fn 51 [] []),.fn 52 [] [.ptr 4 0],.ptr 1 0] (by kernel_rfl) (by kernel_rfl) (by kernel_rfl) hC (by kernel_rfl) (fq 1 [(5,aI x19)] (wp_ret ?_))
    obtain rfl:=Option.some.inj hm
    exact ⟨trivial,aI x19,[.box [.fn 49 [] [.ptr 1 0]] false,.box [.pv (zc zb a1)] false,.box [.pv (.fn 51 [] [])] false,.box [.fn 52 [] [.ptr 4 0]] false,.box [aR 5 1 g20] false,bR 3 1 (rI .i64) x18 g21 0],by kernel_rfl,g20,g21,(by first | rfl | assumption | omega | (simp only [List.length_set,List.length_append,List.length_cons,List.length_nil,List.length_replicate,List.length_drop] at * <;> omega)),(by first | exact Nat.zero_le _ | exact Nat.le_refl _ | assumption | omega | (simp only [List.length_set,List.length_append,List.length_cons,List.length_nil,List.length_replicate,List.length_drop] at * <;> omega)),rfl,rfl⟩
abbrev zp31:Nat × AV:=(1,.fn 59 [] [.ptr 0 0,.ptr 2 0,.ptr 3 0])
theorem aac {n:Nat} {a0:(Option (List zk))} {a1:(Option (List zK))} {r:(Option (List Int)) × Int} (hm:ZU n a0 a1=some r):
    ∃ vv H1,call G n 58 [.pv (zc zj a1),.fn 59 [] [.ptr 0 0,.ptr 2 0,.ptr 3 0]] [.box [.fn 49 [] [.ptr 1 0]] false,.box [.pv (zc zb a0)] false,.box [.pv (.fn 51 [] [])] false,.box [.fn 52 [] [.ptr 4 0]] false,.box [.pv .nils] false]=some (.ret vv,H1)∧(match (generalizing:=false) r with | (none,r0)=>(vv=aI r0∧H1=[.box [.fn 49 [] [.ptr 1 0]] false,.box [.pv (zc zb a0)] false,.box [.pv (.fn 51 [] [])] false,.box [.fn 52 [] [.ptr 4 0]] false,.box [.pv .nils] false]) | (some r1,r0)=>(∃ (e2:Nat) (e3:Nat),r1.length=e2∧e3≤r1.length∧vv=aI r0∧H1=[.box [.fn 49 [] [.ptr 1 0]] false,.box [.pv (zc zb a0)] false,.box [.pv (.fn 51 [] [])] false,.box [.fn 52 [] [.ptr 4 0]] false,.box [aR 5 1 e2] false,bR 3 1 (rI .i64) r1 e3 0])):=by
  unfold ZU at hm
  obtain ⟨n,rfl,h0⟩:=zp hm
  replace hm:=h0; clear h0
  refine Qh 21 [(0,.pv (zc zj a1)),zp31] func58 rfl (by kernel_rfl) (sq (dn [(0,.pv (zc zj a1)),zp31] ?_))
  obtain ⟨k8,hk8,hm⟩:=zw hm
  refine mid (fun t H=>(∃ (w1:AV) (w2:AV),k8 none=some r∧t=mk 21 [zp31,(8,.pv (zc zj a1)),(9,aI ((sll a1).length:Int)),(10,w1),(11,w2)]∧H=[.box [.fn 49 [] [.ptr 1 0]] false,.box [.pv (zc zb a0)] false,.box [.pv (.fn 51 [] [])] false,.box [.fn 52 [] [.ptr 4 0]] false,.box [.pv .nils] false])∨(∃ (y3:(List Int)) (w1:AV) (w2:AV) (g4:Nat) (g6:Nat),k8 (some y3)=some r∧t=mk 21 [zp31,(8,.pv (zc zj a1)),(9,aI ((sll a1).length:Int)),(10,w1),(11,w2)]∧H=[.box [.fn 49 [] [.ptr 1 0]] false,.box [.pv (zc zb a0)] false,.box [.pv (.fn 51 [] [])] false,.box [.fn 52 [] [.ptr 4 0]] false,.box [aR 5 1 g4] false,bR 3 1 (rI .i64) y3 g6 0]∧y3.length=g4∧g6≤y3.length)) ?_ ?_
  ·
   rintro _ _ (⟨w1,w2,hm,rfl,rfl⟩ | ⟨y3,w1,w2,g4,g6,hm,rfl,rfl,q5,q7⟩)
   ·
    subst hk8
    refine sq (dn [(4,aI 0)] (wp_ret ?_))
    obtain rfl:=Option.some.inj hm
    exact ⟨trivial,aI 0,[.box [.fn 49 [] [.ptr 1 0]] false,.box [.pv (zc zb a0)] false,.box [.pv (.fn 51 [] [])] false,.box [.fn 52 [] [.ptr 4 0]] false,.box [.pv .nils] false],by kernel_rfl,rfl,rfl⟩
   ·
    subst hk8
    refine sq (dn [(4,aI 0)] (wp_ret ?_))
    obtain rfl:=Option.some.inj hm
    exact ⟨trivial,aI 0,[.box [.fn 49 [] [.ptr 1 0]] false,.box [.pv (zc zb a0)] false,.box [.pv (.fn 51 [] [])] false,.box [.fn 52 [] [.ptr 4 0]] false,.box [aR 5 1 g4] false,bR 3 1 (rI .i64) y3 g6 0],by kernel_rfl,g4,g6,(by first | rfl | assumption | omega | (simp only [List.length_set,List.length_append,List.length_cons,List.length_nil,List.length_replicate,List.length_drop] at * <;> omega)),(by first | exact Nat.zero_le _ | exact Nat.le_refl _ | assumption | omega | (simp only [List.length_set,List.length_append,List.length_cons,List.length_nil,List.length_replicate,List.length_drop] at * <;> omega)),rfl,rfl⟩
  refine sq (rg (s1 1 [(8,.pv (zc zj a1))] (dv 9 (v:=aI ((sll a1).length:Int)) (zC zj a1 t24 (by kernel_rfl)) (by kernel_rfl) (fq 1 [zp31,(8,.pv (zc zj a1)),(9,aI ((sll a1).length:Int)),(10,aI 0)] (bq ?_)))))
  refine qR (fun mm t H=>(∃ (y20:Int),zH n a0 a1 k8 mm none y20=some r∧t=mk 21 [zp31,(8,.pv (zc zj a1)),(9,aI ((sll a1).length:Int)),(10,aI y20)]∧H=[.box [.fn 49 [] [.ptr 1 0]] false,.box [.pv (zc zb a0)] false,.box [.pv (.fn 51 [] [])] false,.box [.fn 52 [] [.ptr 4 0]] false,.box [.pv .nils] false])∨(∃ (y19:(List Int)) (y20:Int) (g21:Nat) (g23:Nat),zH n a0 a1 k8 mm (some y19) y20=some r∧t=mk 21 [zp31,(8,.pv (zc zj a1)),(9,aI ((sll a1).length:Int)),(10,aI y20)]∧H=[.box [.fn 49 [] [.ptr 1 0]] false,.box [.pv (zc zb a0)] false,.box [.pv (.fn 51 [] [])] false,.box [.fn 52 [] [.ptr 4 0]] false,.box [aR 5 1 g21] false,bR 3 1 (rI .i64) y19 g23 0]∧y19.length=g21∧g23≤y19.length)) (.inl ⟨0,hm,rfl,rfl⟩) ?_ ?_
  · rintro _ _ (⟨y20,hm,_⟩ | ⟨y19,y20,g21,g23,hm,_⟩) <;> exact nomatch hm
  rintro m25 _ _ (⟨y20,hm,rfl,rfl⟩ | ⟨y19,y20,g21,g23,hm,rfl,rfl,q22,q24⟩)
  ·
   simp only [zH] at hm
   refine sq (dn [zp31,(8,.pv (zc zj a1)),(9,aI ((sll a1).length:Int)),(10,aI y20),(11,aB (zg48 y20 a1))] ?_)
   refine sq ?_
   rcases zf hm with ⟨h26,hm⟩ | ⟨h26,hm⟩
   ·
    refine c1 h26 (wp_skip (sq (bq (sq (rg ?_)))))
    obtain ⟨x27,h28,hm⟩:=bs hm
    refine dv 12 (v:=.pv (.ptr (zj x27) 0)) (Qy zj a1 .i64 t24 t101 h28 rfl (by kernel_rfl)) (by kernel_rfl) (stf 3 [zp31,(6,.ptr 5 0),(8,.pv (zc zj a1)),(9,aI ((sll a1).length:Int)),(10,aI y20)] [.box [.fn 49 [] [.ptr 1 0]] false,.box [.pv (zc zb a0)] false,.box [.pv (.fn 51 [] [])] false,.box [.fn 52 [] [.ptr 4 0]] false,.box [.pv .nils] false,.box (zc5 x27) false] (by kernel_rfl) (sq (rg (s1 2 [(15,.agg (zc5 x27)),(14,.fn 59 [] [.ptr 0 0,.ptr 2 0,.ptr 3 0])] ?_))))
    obtain ⟨x32,h29,hm⟩:=bs hm
    rcases x32 with ⟨_ | x30,x31⟩
    ·
     obtain ⟨vv,H1,hC,rfl,rfl⟩:=aev h29
     refine dR [(16,aI x31)] [.box [.fn 49 [] [.ptr 1 0]] false,.box [.pv (zc zb a0)] false,.box [.pv (.fn 51 [] [])] false,.box [.fn 52 [] [.ptr 4 0]] false,.box [.pv .nils] false,.box (zc5 x27) false] [0,1,2,3,4] [.agg (zc5 x27),.ptr 0 0,.ptr 2 0,.ptr 3 0] (by kernel_rfl) (by kernel_rfl) (by kernel_rfl) hC (by kernel_rfl) (fq 1 [zp31,(7,aI x31),(8,.pv (zc zj a1)),(9,aI ((sll a1).length:Int)),(10,aI y20)] (sq (dn [zp31,(7,aI x31),(8,.pv (zc zj a1)),(9,aI ((sll a1).length:Int)),(10,aI y20),(18,aB (x31 != 0))] ?_)))
     rcases zf hm with ⟨h33,hm⟩ | ⟨h33,hm⟩
     ·
      refine c1 h33 (sq (dn [(4,aI x31)] (wp_ret ?_)))
      obtain rfl:=Option.some.inj hm
      exact ⟨trivial,aI x31,[.box [.fn 49 [] [.ptr 1 0]] false,.box [.pv (zc zb a0)] false,.box [.pv (.fn 51 [] [])] false,.box [.fn 52 [] [.ptr 4 0]] false,.box [.pv .nils] false],by kernel_rfl,rfl,rfl⟩
     ·
      refine c0 h33 (wp_skip (dn [zp31,(8,.pv (zc zj a1)),(9,aI ((sll a1).length:Int)),(10,aI (IntKind.wrap .i64 (y20+1)))] ?_))
      exact ⟨_,_,qd [zp31,(8,.pv (zc zj a1)),(9,aI ((sll a1).length:Int)),(10,aI (IntKind.wrap .i64 (y20+1)))] [.box [.fn 49 [] [.ptr 1 0]] false,.box [.pv (zc zb a0)] false,.box [.pv (.fn 51 [] [])] false,.box [.fn 52 [] [.ptr 4 0]] false,.box [.pv .nils] false] (by kernel_rfl),.inl ⟨(IntKind.wrap .i64 (y20+1)),hm,rfl,rfl⟩⟩
    ·
     obtain ⟨vv,H1,hC,g34,q35,rfl,rfl⟩:=aev h29
     refine dR [(16,aI x31)] [.box [.fn 49 [] [.ptr 1 0]] false,.box [.pv (zc zb a0)] false,.box [.pv (.fn 51 [] [])] false,.box [.fn 52 [] [.ptr 4 0]] false,.box [aR 6 1 g34] false,.box (zc5 x27) false,bR 3 1 (rI .i64) x30 0 0] [0,1,2,3,4] [.agg (zc5 x27),.ptr 0 0,.ptr 2 0,.ptr 3 0] (by kernel_rfl) (by kernel_rfl) (by kernel_rfl) hC (by kernel_rfl) (fq 1 [zp31,(7,aI x31),(8,.pv (zc zj a1)),(9,aI ((sll a1).length:Int)),(10,aI y20)] (sq (dn [zp31,(7,aI x31),(8,.pv (zc zj a1)),(9,aI ((sll a1).length:Int)),(10,aI y20),(18,aB (x31 != 0))] ?_)))
     rcases zf hm with ⟨h36,hm⟩ | ⟨h36,hm⟩
     ·
      refine c1 h36 (sq (dn [(4,aI x31)] (wp_ret ?_)))
      obtain rfl:=Option.some.inj hm
      exact ⟨trivial,aI x31,[.box [.fn 49 [] [.ptr 1 0]] false,.box [.pv (zc zb a0)] false,.box [.pv (.fn 51 [] [])] false,.box [.fn 52 [] [.ptr 4 0]] false,.box [aR 5 1 g34] false,bR 3 1 (rI .i64) x30 0 0],by kernel_rfl,g34,0,(by first | rfl | assumption | omega | (simp only [List.length_set,List.length_append,List.length_cons,List.length_nil,List.length_replicate,List.length_drop] at * <;> omega)),(by first | exact Nat.zero_le _ | exact Nat.le_refl _ | assumption | omega | (simp only [List.length_set,List.length_append,List.length_cons,List.length_nil,List.length_replicate,List.length_drop] at * <;> omega)),rfl,rfl⟩
     ·
      refine c0 h36 (wp_skip (dn [zp31,(8,.pv (zc zj a1)),(9,aI ((sll a1).length:Int)),(10,aI (IntKind.wrap .i64 (y20+1)))] ?_))
      exact ⟨_,_,qd [zp31,(8,.pv (zc zj a1)),(9,aI ((sll a1).length:Int)),(10,aI (IntKind.wrap .i64 (y20+1)))] [.box [.fn 49 [] [.ptr 1 0]] false,.box [.pv (zc zb a0)] false,.box [.pv (.fn 51 [] [])] false,.box [.fn 52 [] [.ptr 4 0]] false,.box [aR 5 1 g34] false,bR 3 1 (rI .i64) x30 0 0] (by kernel_rfl),.inr (⟨x30,(IntKind.wrap .i64 (y20+1)),g34,0,hm,rfl,rfl,(by first | rfl | assumption | omega | (simp only [List.length_set,List.length_append,List.length_cons,List.length_nil,List.length_replicate,List.length_drop] at * <;> omega)),(by first | exact Nat.zero_le _ | exact Nat.le_refl _ | assumption | omega | (simp only [List.length_set,List.length_append,List.length_cons,List.length_nil,List.length_replicate,List.length_drop] at * <;> omega))⟩)⟩
   ·
    refine c0 h26 (wp_exit ?_)
    exact .inl ⟨aI y20,aB (zg48 y20 a1),hm,(zJ (by kernel_rfl)),rfl⟩
  ·
   simp only [zH] at hm
   refine sq (dn [zp31,(8,.pv (zc zj a1)),(9,aI ((sll a1).length:Int)),(10,aI y20),(11,aB (zg48 y20 a1))] ?_)
   refine sq ?_
   rcases zf hm with ⟨h37,hm⟩ | ⟨h37,hm⟩
   ·
    refine c1 h37 (wp_skip (sq (bq (sq (rg ?_)))))
    obtain ⟨x38,h39,hm⟩:=bs hm
    refine dv 12 (v:=.pv (.ptr (zj x38) 0)) (Qy zj a1 .i64 t24 t101 h39 rfl (by kernel_rfl)) (by kernel_rfl) (stf 3 [zp31,(6,.ptr 6 0),(8,.pv (zc zj a1)),(9,aI ((sll a1).length:Int)),(10,aI y20)] [.box [.fn 49 [] [.ptr 1 0]] false,.box [.pv (zc zb a0)] false,.box [.pv (.fn 51 [] [])] false,.box [.fn 52 [] [.ptr 4 0]] false,.box [aR 5 1 g21] false,bR 3 1 (rI .i64) y19 g23 0,.box (zc5 x38) false] (by kernel_rfl) (sq (rg (s1 2 [(15,.agg (zc5 x38)),(14,.fn 59 [] [.ptr 0 0,.ptr 2 0,.ptr 3 0])] ?_))))
    obtain ⟨⟨x41,x42⟩,h40,hm⟩:=bs hm
    obtain ⟨vv,H1,hC,g43,g44,q45,q46,rfl,rfl⟩:=adx g21 g23 (by first | rfl | assumption | omega | (simp only [List.length_set,List.length_append,List.length_cons,List.length_nil,List.length_replicate,List.length_drop] at * <;> omega)) (by first | exact Nat.zero_le _ | exact Nat.le_refl _ | assumption | omega | (simp only [List.length_set,List.length_append,List.length_cons,List.length_nil,List.length_replicate,List.length_drop] at * <;> omega)) h40
    refine dR [(16,aI x42)] [.box [.fn 49 [] [.ptr 1 0]] false,.box [.pv (zc zb a0)] false,.box [.pv (.fn 51 [] [])] false,.box [.fn 52 [] [.ptr 4 0]] false,.box [aR 5 1 g43] false,bR 3 1 (rI .i64) x41 g44 0,.box (zc5 x38) false] [0,1,2,3,4,5] [.agg (zc5 x38),.ptr 0 0,.ptr 2 0,.ptr 3 0] (by kernel_rfl) (by kernel_rfl) (by kernel_rfl) hC (by kernel_rfl) (fq 1 [zp31,(7,aI x42),(8,.pv (zc zj a1)),(9,aI ((sll a1).length:Int)),(10,aI y20)] (sq (dn [zp31,(7,aI x42),(8,.pv (zc zj a1)),(9,aI ((sll a1).length:Int)),(10,aI y20),(18,aB (x42 != 0))] ?_)))
    rcases zf hm with ⟨h47,hm⟩ | ⟨h47,hm⟩
    ·
     refine c1 h47 (sq (dn [(4,aI x42)] (wp_ret ?_)))
     obtain rfl:=Option.some.inj hm
     exact ⟨trivial,aI x42,[.box [.fn 49 [] [.ptr 1 0]] false,.box [.pv (zc zb a0)] false,.box [.pv (.fn 51 [] [])] false,.box [.fn 52 [] [.ptr 4 0]] false,.box [aR 5 1 g43] false,bR 3 1 (rI .i64) x41 g44 0],by kernel_rfl,g43,g44,(by first | rfl | assumption | omega | (simp only [List.length_set,List.length_append,List.length_cons,List.length_nil,List.length_replicate,List.length_drop] at * <;> omega)),(by first | exact Nat.zero_le _ | exact Nat.le_refl _ | assumption | omega | (simp only [List.length_set,List.length_append,List.length_cons,List.length_nil,List.length_replicate,List.length_drop] at * <;> omega)),rfl,rfl⟩
    ·
     refine c0 h47 (wp_skip (dn [zp31,(8,.pv (zc zj a1)),(9,aI ((sll a1).length:Int)),(10,aI (IntKind.wrap .i64 (y20+1)))] ?_))
     exact ⟨_,_,qd [zp31,(8,.pv (zc zj a1)),(9,aI ((sll a1).length:Int)),(10,aI (IntKind.wrap .i64 (y20+1)))] [.box [.fn 49 [] [.ptr 1 0]] false,.box [.pv (zc zb a0)] false,.box [.pv (.fn 51 [] [])] false,.box [.fn 52 [] [.ptr 4 0]] false,.box [aR 5 1 g43] false,bR 3 1 (rI .i64) x41 g44 0] (by kernel_rfl),.inr (⟨x41,(IntKind.wrap .i64 (y20+1)),g43,g44,hm,rfl,rfl,(by first | rfl | assumption | omega | (simp only [List.length_set,List.length_append,List.length_cons,List.length_nil,List.length_replicate,List.length_drop] at * <;> omega)),(by first | exact Nat.zero_le _ | exact Nat.le_refl _ | assumption | omega | (simp only [List.length_set,List.length_append,List.length_cons,List.length_nil,List.length_replicate,List.length_drop] at * <;> omega))⟩)⟩
   ·
    refine c0 h37 (wp_exit ?_)
    exact .inr (⟨y19,aI y20,aB (zg48 y20 a1),g21,g23,hm,(zJ (by kernel_rfl)),rfl,(by first | rfl | assumption | omega | (simp only [List.length_set,List.length_append,List.length_cons,List.length_nil,List.length_replicate,List.length_drop] at * <;> omega)),(by first | exact Nat.zero_le _ | exact Nat.le_refl _ | assumption | omega | (simp only [List.length_set,List.length_append,List.length_cons,List.length_nil,List.length_replicate,List.length_drop] at * <;> omega))⟩)
theorem ab3 (m5:Nat) (f5:Nat) {n:Nat} {a0:(List Int)} {a1:(Option (List zk))} {a2:(Option (List zK))} {r:(List Int) × Int} (hm5:a0.length=m5) (hf5:f5≤a0.length) (hm:ZL n a0 a1 a2=some r):
    ∃ vv H1,call G n 58 [.pv (zc zj a2),.fn 59 [] [.ptr 0 0,.ptr 2 0,.ptr 3 0]] [.box [.fn 49 [] [.ptr 1 0]] false,.box [.pv (zc zb a1)] false,.box [.pv (.fn 51 [] [])] false,.box [.fn 52 [] [.ptr 4 0]] false,.box [aR 5 1 m5] false,bR 3 1 (rI .i64) a0 f5 0]=some (.ret vv,H1)∧(match (generalizing:=false) r with | (r0,r1)=>(∃ (e2:Nat) (e3:Nat),r0.length=e2∧e3≤r0.length∧vv=aI r1∧H1=[.box [.fn 49 [] [.ptr 1 0]] false,.box [.pv (zc zb a1)] false,.box [.pv (.fn 51 [] [])] false,.box [.fn 52 [] [.ptr 4 0]] false,.box [aR 5 1 e2] false,bR 3 1 (rI .i64) r0 e3 0])):=by
  unfold ZL at hm
  obtain ⟨n,rfl,h0⟩:=zp hm
  replace hm:=h0; clear h0
  refine Qh 21 [(0,.pv (zc zj a2)),zp31] func58 rfl (by kernel_rfl) (sq (dn [(0,.pv (zc zj a2)),zp31] ?_))
  obtain ⟨k8,hk8,hm⟩:=zw hm
  refine mid (fun t H=>(∃ (y1:(List Int)) (y2:Int) (y3:Bool) (g4:Nat) (g6:Nat),k8 y1=some r∧t=mk 21 [zp31,(8,.pv (zc zj a2)),(9,aI ((sll a2).length:Int)),(10,aI y2),(11,aB y3)]∧H=[.box [.fn 49 [] [.ptr 1 0]] false,.box [.pv (zc zb a1)] false,.box [.pv (.fn 51 [] [])] false,.box [.fn 52 [] [.ptr 4 0]] false,.box [aR 5 1 g4] false,bR 3 1 (rI .i64) y1 g6 0]∧y1.length=g4∧g6≤y1.length)) ?_ ?_
  ·
   rintro _ _ ⟨y1,y2,y3,g4,g6,hm,rfl,rfl,q5,q7⟩
   subst hk8
   refine sq (dn [(4,aI 0)] (wp_ret ?_))
   obtain rfl:=Option.some.inj hm
   exact ⟨trivial,aI 0,[.box [.fn 49 [] [.ptr 1 0]] false,.box [.pv (zc zb a1)] false,.box [.pv (.fn 51 [] [])] false,.box [.fn 52 [] [.ptr 4 0]] false,.box [aR 5 1 g4] false,bR 3 1 (rI .i64) y1 g6 0],by kernel_rfl,g4,g6,(by first | rfl | assumption | omega | (simp only [List.length_set,List.length_append,List.length_cons,List.length_nil,List.length_replicate,List.length_drop] at * <;> omega)),(by first | exact Nat.zero_le _ | exact Nat.le_refl _ | assumption | omega | (simp only [List.length_set,List.length_append,List.length_cons,List.length_nil,List.length_replicate,List.length_drop] at * <;> omega)),rfl,rfl⟩
  refine sq (rg (s1 1 [(8,.pv (zc zj a2))] (dv 9 (v:=aI ((sll a2).length:Int)) (zC zj a2 t24 (by kernel_rfl)) (by kernel_rfl) (fq 1 [zp31,(8,.pv (zc zj a2)),(9,aI ((sll a2).length:Int)),(10,aI 0)] (bq ?_)))))
  refine qR (fun mm t H=>(∃ (y15:(List Int)) (y16:Int) (g17:Nat) (g19:Nat),Zp n a1 a2 k8 mm y15 y16=some r∧t=mk 21 [zp31,(8,.pv (zc zj a2)),(9,aI ((sll a2).length:Int)),(10,aI y16)]∧H=[.box [.fn 49 [] [.ptr 1 0]] false,.box [.pv (zc zb a1)] false,.box [.pv (.fn 51 [] [])] false,.box [.fn 52 [] [.ptr 4 0]] false,.box [aR 5 1 g17] false,bR 3 1 (rI .i64) y15 g19 0]∧y15.length=g17∧g19≤y15.length)) (⟨a0,0,m5,f5,hm,rfl,rfl,(by first | rfl | assumption | omega | (simp only [List.length_set,List.length_append,List.length_cons,List.length_nil,List.length_replicate,List.length_drop] at * <;> omega)),(by first | exact Nat.zero_le _ | exact Nat.le_refl _ | assumption | omega | (simp only [List.length_set,List.length_append,List.length_cons,List.length_nil,List.length_replicate,List.length_drop] at * <;> omega))⟩) ?_ ?_
  · rintro _ _ ⟨y15,y16,g17,g19,hm,_⟩; exact nomatch hm
  rintro m21 _ _ ⟨y15,y16,g17,g19,hm,rfl,rfl,q18,q20⟩
  simp only [Zp] at hm
  refine sq (dn [zp31,(8,.pv (zc zj a2)),(9,aI ((sll a2).length:Int)),(10,aI y16),(11,aB (zg48 y16 a2))] ?_)
  refine sq ?_
  rcases zf hm with ⟨h22,hm⟩ | ⟨h22,hm⟩
  ·
   refine c1 h22 (wp_skip (sq (bq (sq (rg ?_)))))
   obtain ⟨x23,h24,hm⟩:=bs hm
   refine dv 12 (v:=.pv (.ptr (zj x23) 0)) (Qy zj a2 .i64 t24 t101 h24 rfl (by kernel_rfl)) (by kernel_rfl) (stf 3 [zp31,(6,.ptr 6 0),(8,.pv (zc zj a2)),(9,aI ((sll a2).length:Int)),(10,aI y16)] [.box [.fn 49 [] [.ptr 1 0]] false,.box [.pv (zc zb a1)] false,.box [.pv (.fn 51 [] [])] false,.box [.fn 52 [] [.ptr 4 0]] false,.box [aR 5 1 g17] false,bR 3 1 (rI .i64) y15 g19 0,.box (zc5 x23) false] (by kernel_rfl) (sq (rg (s1 2 [(15,.agg (zc5 x23)),(14,.fn 59 [] [.ptr 0 0,.ptr 2 0,.ptr 3 0])] ?_))))
   obtain ⟨⟨x26,x27⟩,h25,hm⟩:=bs hm
   obtain ⟨vv,H1,hC,g28,g29,q30,q31,rfl,rfl⟩:=adx g17 g19 (by first | rfl | assumption | omega | (simp only [List.length_set,List.length_append,List.length_cons,List.length_nil,List.length_replicate,List.length_drop] at * <;> omega)) (by first | exact Nat.zero_le _ | exact Nat.le_refl _ | assumption | omega | (simp only [List.length_set,List.length_append,List.length_cons,List.length_nil,List.length_replicate,List.length_drop] at * <;> omega)) h25
   refine dR [(16,aI x27)] [.box [.fn 49 [] [.ptr 1 0]] false,.box [.pv (zc zb a1)] false,.box [.pv (.fn 51 [] [])] false,.box [.fn 52 [] [.ptr 4 0]] false,.box [aR 5 1 g28] false,bR 3 1 (rI .i64) x26 g29 0,.box (zc5 x23) false] [0,1,2,3,4,5] [.agg (zc5 x23),.ptr 0 0,.ptr 2 0,.ptr 3 0] (by kernel_rfl) (by kernel_rfl) (by kernel_rfl) hC (by kernel_rfl) (fq 1 [zp31,(7,aI x27),(8,.pv (zc zj a2)),(9,aI ((sll a2).length:Int)),(10,aI y16)] (sq (dn [zp31,(7,aI x27),(8,.pv (zc zj a2)),(9,aI ((sll a2).length:Int)),(10,aI y16),(18,aB (x27 != 0))] ?_)))
   rcases zf hm with ⟨h32,hm⟩ | ⟨h32,hm⟩
   ·
    refine c1 h32 (sq (dn [(4,aI x27)] (wp_ret ?_)))
    obtain rfl:=Option.some.inj hm
    exact ⟨trivial,aI x27,[.box [.fn 49 [] [.ptr 1 0]] false,.box [.pv (zc zb a1)] false,.box [.pv (.fn 51 [] [])] false,.box [.fn 52 [] [.ptr 4 0]] false,.box [aR 5 1 g28] false,bR 3 1 (rI .i64) x26 g29 0],by kernel_rfl,g28,g29,(by first | rfl | assumption | omega | (simp only [List.length_set,List.length_append,List.length_cons,List.length_nil,List.length_replicate,List.length_drop] at * <;> omega)),(by first | exact Nat.zero_le _ | exact Nat.le_refl _ | assumption | omega | (simp only [List.length_set,List.length_append,List.length_cons,List.length_nil,List.length_replicate,List.length_drop] at * <;> omega)),rfl,rfl⟩
   ·
    refine c0 h32 (wp_skip (dn [zp31,(8,.pv (zc zj a2)),(9,aI ((sll a2).length:Int)),(10,aI (IntKind.wrap .i64 (y16+1)))] ?_))
    exact ⟨_,_,qd [zp31,(8,.pv (zc zj a2)),(9,aI ((sll a2).length:Int)),(10,aI (IntKind.wrap .i64 (y16+1)))] [.box [.fn 49 [] [.ptr 1 0]] false,.box [.pv (zc zb a1)] false,.box [.pv (.fn 51 [] [])] false,.box [.fn 52 [] [.ptr 4 0]] false,.box [aR 5 1 g28] false,bR 3 1 (rI .i64) x26 g29 0] (by kernel_rfl),⟨x26,(IntKind.wrap .i64 (y16+1)),g28,g29,hm,rfl,rfl,(by first | rfl | assumption | omega | (simp only [List.length_set,List.length_append,List.length_cons,List.length_nil,List.length_replicate,List.length_drop] at * <;> omega)),(by first | exact Nat.zero_le _ | exact Nat.le_refl _ | assumption | omega | (simp only [List.length_set,List.length_append,List.length_cons,List.length_nil,List.length_replicate,List.length_drop] at * <;> omega))⟩⟩
  ·
   refine c0 h22 (wp_exit ?_)
   exact ⟨y15,y16,(zg48 y16 a2),g17,g19,hm,rfl,rfl,(by first | rfl | assumption | omega | (simp only [List.length_set,List.length_append,List.length_cons,List.length_nil,List.length_replicate,List.length_drop] at * <;> omega)),(by first | exact Nat.zero_le _ | exact Nat.le_refl _ | assumption | omega | (simp only [List.length_set,List.length_append,List.length_cons,List.length_nil,List.length_replicate,List.length_drop] at * <;> omega))⟩
theorem aih {n:Nat} {a0:zx} {a1:(Option (List zk))} {r:(Option (List Int)) × Int} (hm:qH n a0 a1=some r):
    call G n 12 [.agg (zc0 a0),.pv (zc zb a1)] []=some (.ret (.tup [.pv (zc (rI .i64) r.1),aI r.2]),[]):=by
  unfold qH at hm
  obtain ⟨n,rfl,h0⟩:=zp hm
  replace hm:=h0; clear h0
  refine Zt 46 [(0,.agg (zc0 a0)),(1,.pv (zc zb a1))] func12 rfl (by kernel_rfl) (sq (det [(1,.pv (zc zb a1)),(2,.ptr 0 0)] [.box (zc0 a0) false] (by kernel_rfl) (sq (rg (s1 2 [(14,.pv (zc zb a1)),(13,.agg (zc0 a0))] ?_)))))
  obtain ⟨x1,h2,hm⟩:=bs hm
  refine dv 15 (zF (by kernel_rfl) (ah1 h2) (by kernel_rfl) (by kernel_rfl) (by kernel_rfl)) (by kernel_rfl) (stf 6 [(2,.ptr 0 0),(6,.ptr 1 0),(7,aI x1.2)] [.box (zc0 a0) false,.box [.pv (zc zb x1.1)] false] (by kernel_rfl) ?_)
  refine sq (sq (dn [(2,.ptr 0 0),(6,.ptr 1 0),(7,aI x1.2),(19,aB (x1.2 != 0))] ?_))
  rcases zf hm with ⟨h3,hm⟩ | ⟨h3,hm⟩
  ·
   refine c1 h3 (sq (dn [(4,.pv .nils),(5,aI x1.2)] (wp_ret ?_)))
   obtain rfl:=Option.some.inj hm
   exact ⟨trivial,by kernel_rfl⟩
  ·
   refine c0 h3 (wp_skip ?_)
   refine sq (sq (rg (s1 1 [(21,.agg (zc0 a0))] ?_)))
   obtain ⟨x4,h5,hm⟩:=bs hm
   refine dv 22 (zF (by kernel_rfl) (ahX h5) (by kernel_rfl) (by kernel_rfl) (by kernel_rfl)) (by kernel_rfl) (fq 1 [(2,.ptr 0 0),(6,.ptr 1 0),(23,aB (!x4))] ?_)
   rcases zf hm with ⟨h6,hm⟩ | ⟨h6,hm⟩
   ·
    refine c1 h6 (sq (dn [(4,.pv .nils),(5,aI 2)] (wp_ret ?_)))
    obtain rfl:=Option.some.inj hm
    exact ⟨trivial,by kernel_rfl⟩
   ·
    refine c0 h6 (wp_skip (sq (det [(2,.ptr 0 0),(8,.ptr 2 0)] [.box (zc0 a0) false,.box [.pv (zc zb x1.1)] false,.box [.fn 49 [] [.ptr 1 0]] false] (by kernel_rfl) (sq (det [(2,.ptr 0 0),(8,.ptr 2 0),(9,.ptr 3 0)] [.box (zc0 a0) false,.box [.pv (zc zb x1.1)] false,.box [.fn 49 [] [.ptr 1 0]] false,.box [.pv .nils] false] (by kernel_rfl) (sq (det [(2,.ptr 0 0),(8,.ptr 2 0),(9,.ptr 3 0),(10,.ptr 4 0)] [.box (zc0 a0) false,.box [.pv (zc zb x1.1)] false,.box [.fn 49 [] [.ptr 1 0]] false,.box [.pv .nils] false,.box [.pv (.fn 51 [] [])] false] (by kernel_rfl) (sq (det [(2,.ptr 0 0),(8,.ptr 2 0),(9,.ptr 3 0),(10,.ptr 4 0),(11,.ptr 5 0)] [.box (zc0 a0) false,.box [.pv (zc zb x1.1)] false,.box [.fn 49 [] [.ptr 1 0]] false,.box [.pv .nils] false,.box [.pv (.fn 51 [] [])] false,.box [.fn 52 [] [.ptr 3 0]] false] (by kernel_rfl) (sq (rg (s1 3 [(28,.fn 54 [] [.ptr 2 0]),(27,.pv (zg42 a0)),(26,.ptr 0 1)] ?_))))))))))))
    obtain ⟨x8,h7,hm⟩:=bs hm
    obtain ⟨vv,H1,hC,rfl,rfl⟩:=acb h7
    refine dR [(29,aI x8)] [.box (zc0 a0) false,.box [.pv (zc zb x1.1)] false,.box [.fn 49 [] [.ptr 1 0]] false,.box [.pv .nils] false,.box [.pv (.fn 51 [] [])] false,.box [.fn 52 [] [.ptr 3 0]] false] [2,1] [.pv (zg42 a0),.fn 54 [] [.ptr 2 0]] (by kernel_rfl) (by kernel_rfl) (by kernel_rfl) hC (by kernel_rfl) (fq 1 [(2,.ptr 0 0),(7,aI x8),(8,.ptr 2 0),(9,.ptr 3 0),(10,.ptr 4 0),(11,.ptr 5 0)] ?_)
    obtain ⟨k16,hk16,hm⟩:=zw hm
    refine mid (fun t H=>(∃ (y11:Int) (w9:AV),k16 none y11=some r∧t=mk 46 [(2,.ptr 0 0),(7,aI y11),(8,.ptr 2 0),(9,.ptr 3 0),(10,.ptr 4 0),(11,.ptr 5 0),(31,w9)]∧H=[.box (zc0 a0) false,.box [.pv (zc zb x1.1)] false,.box [.fn 49 [] [.ptr 1 0]] false,.box [.pv .nils] false,.box [.pv (.fn 51 [] [])] false,.box [.fn 52 [] [.ptr 3 0]] false])∨(∃ (y10:(List Int)) (y11:Int) (w9:AV) (g12:Nat) (g14:Nat),k16 (some y10) y11=some r∧t=mk 46 [(2,.ptr 0 0),(7,aI y11),(8,.ptr 2 0),(9,.ptr 3 0),(10,.ptr 4 0),(11,.ptr 5 0),(31,w9)]∧H=[.box (zc0 a0) false,.box [.pv (zc zb x1.1)] false,.box [.fn 49 [] [.ptr 1 0]] false,.box [aR 6 1 g12] false,.box [.pv (.fn 51 [] [])] false,.box [.fn 52 [] [.ptr 3 0]] false,bR 3 1 (rI .i64) y10 g14 0]∧y10.length=g12∧g14≤y10.length)) ?_ ?_
    ·
     rintro _ _ (⟨y11,w9,hm,rfl,rfl⟩ | ⟨y10,y11,w9,g12,g14,hm,rfl,rfl,q13,q15⟩)
     ·
      subst hk16
      obtain ⟨k28,hk28,hm⟩:=zw hm
      refine mid (fun t H=>(∃ (y23:Int) (w17:AV) (w18:AV) (w19:AV) (w20:AV) (w21:AV),k28 none y23=some r∧t=mk 46 [(2,w17),(7,aI y23),(8,w18),(9,.ptr 3 0),(10,w19),(11,w20),(37,w21)]∧H=[.box (zc0 a0) false,.box [.pv (zc zb x1.1)] false,.box [.fn 49 [] [.ptr 1 0]] false,.box [.pv .nils] false,.box [.pv (.fn 51 [] [])] false,.box [.fn 52 [] [.ptr 3 0]] false])∨(∃ (y22:(List Int)) (y23:Int) (w17:AV) (w18:AV) (w19:AV) (w20:AV) (w21:AV) (g24:Nat) (g26:Nat),k28 (some y22) y23=some r∧t=mk 46 [(2,w17),(7,aI y23),(8,w18),(9,.ptr 3 0),(10,w19),(11,w20),(37,w21)]∧H=[.box (zc0 a0) false,.box [.pv (zc zb x1.1)] false,.box [.fn 49 [] [.ptr 1 0]] false,.box [aR 6 1 g24] false,.box [.pv (.fn 51 [] [])] false,.box [.fn 52 [] [.ptr 3 0]] false,bR 3 1 (rI .i64) y22 g26 0]∧y22.length=g24∧g26≤y22.length)) ?_ ?_
      ·
       rintro _ _ (⟨y23,w17,w18,w19,w20,w21,hm,rfl,rfl⟩ | ⟨y22,y23,w17,w18,w19,w20,w21,g24,g26,hm,rfl,rfl,q25,q27⟩)
       ·
        subst hk28
        refine sq (sq (dn [(7,aI y23),(9,.ptr 3 0),(43,aB (y23 != 0))] ?_))
        rcases zf hm with ⟨h29,hm⟩ | ⟨h29,hm⟩
        ·
         refine c1 h29 (sq (dn [(4,.pv .nils),(5,aI y23)] (wp_ret ?_)))
         obtain rfl:=Option.some.inj hm
         exact ⟨trivial,by kernel_rfl⟩
        ·
         refine c0 h29 (wp_skip (sq (dn [(4,.pv .nils),(5,aI 0)] (wp_ret ?_))))
         obtain rfl:=Option.some.inj hm
         exact ⟨trivial,by kernel_rfl⟩
       ·
        subst hk28
        refine sq (sq (dn [(7,aI y23),(9,.ptr 3 0),(43,aB (y23 != 0))] ?_))
        rcases zf hm with ⟨h30,hm⟩ | ⟨h30,hm⟩
        ·
         refine c1 h30 (sq (dn [(4,.pv .nils),(5,aI y23)] (wp_ret ?_)))
         obtain rfl:=Option.some.inj hm
         exact ⟨trivial,by kernel_rfl⟩
        ·
         refine c0 h30 (wp_skip (sq (dn [(4,aR 6 1 g24),(5,aI 0)] (wp_ret ?_))))
         obtain rfl:=Option.some.inj hm
         exact adz (v:=.tup [aR 6 1 g24,aI 0]) trivial rfl (by kernel_rfl) (amG (qO (aho (ack (n:=g24) (id:=6) (l:=y22) (R:=(rI .i64)) rfl (by omega) (by omega))) (qO (ai6) (rfl))))
      refine sq (dn [(2,.ptr 0 0),(7,aI y11),(8,.ptr 2 0),(9,.ptr 3 0),(10,.ptr 4 0),(11,.ptr 5 0),(37,aB (y11 == 0))] ?_)
      rcases zf hm with ⟨h31,hm⟩ | ⟨h31,hm⟩
      ·
       refine c1 h31 (rg (s1 3 [(40,.fn 59 [] [.ptr 2 0,.ptr 4 0,.ptr 5 0]),(39,.pv (zc zj a0.fAggs)),(38,.ptr 0 4)] ?_))
       obtain ⟨x35,h32,hm⟩:=bs hm
       rcases x35 with ⟨_ | x33,x34⟩
       ·
        obtain ⟨vv,H1,hC,rfl,rfl⟩:=aac h32
        refine dR [(41,aI x34)] [.box (zc0 a0) false,.box [.pv (zc zb x1.1)] false,.box [.fn 49 [] [.ptr 1 0]] false,.box [.pv .nils] false,.box [.pv (.fn 51 [] [])] false,.box [.fn 52 [] [.ptr 3 0]] false] [2,1,4,5,3] [.pv (zc zj a0.fAggs),.fn 59 [] [.ptr 2 0,.ptr 4 0,.ptr 5 0]] (by kernel_rfl) (by kernel_rfl) (by kernel_rfl) hC (by kernel_rfl) (fq 1 [(7,aI x34),(9,.ptr 3 0)] ?_)
        exact .inl ⟨x34,.any,.any,.any,.any,.any,hm,(zJ (by kernel_rfl)),rfl⟩
       ·
        obtain ⟨vv,H1,hC,g36,g37,q38,q39,rfl,rfl⟩:=aac h32
        refine dR [(41,aI x34)] [.box (zc0 a0) false,.box [.pv (zc zb x1.1)] false,.box [.fn 49 [] [.ptr 1 0]] false,.box [aR 6 1 g36] false,.box [.pv (.fn 51 [] [])] false,.box [.fn 52 [] [.ptr 3 0]] false,bR 3 1 (rI .i64) x33 g37 0] [2,1,4,5,3] [.pv (zc zj a0.fAggs),.fn 59 [] [.ptr 2 0,.ptr 4 0,.ptr 5 0]] (by kernel_rfl) (by kernel_rfl) (by kernel_rfl) hC (by kernel_rfl) (fq 1 [(7,aI x34),(9,.ptr 3 0)] ?_)
        exact .inr (⟨x33,x34,.any,.any,.any,.any,.any,g36,g37,hm,(zJ (by kernel_rfl)),rfl,(by first | rfl | assumption | omega | (simp only [List.length_set,List.length_append,List.length_cons,List.length_nil,List.length_replicate,List.length_drop] at * <;> omega)),(by first | exact Nat.zero_le _ | exact Nat.le_refl _ | assumption | omega | (simp only [List.length_set,List.length_append,List.length_cons,List.length_nil,List.length_replicate,List.length_drop] at * <;> omega))⟩)
      ·
       refine c0 h31 (wp_skip ?_)
       exact .inl ⟨y11,.ptr 0 0,.ptr 2 0,.ptr 4 0,.ptr 5 0,aB (y11 == 0),hm,(zJ (by kernel_rfl)),rfl⟩
     ·
      subst hk16
      obtain ⟨k51,hk51,hm⟩:=zw hm
      refine mid (fun t H=>(∃ (y45:(List Int)) (y46:Int) (w40:AV) (w41:AV) (w42:AV) (w43:AV) (w44:AV) (g47:Nat) (g49:Nat),k51 y45 y46=some r∧t=mk 46 [(2,w40),(7,aI y46),(8,w41),(9,.ptr 3 0),(10,w42),(11,w43),(37,w44)]∧H=[.box (zc0 a0) false,.box [.pv (zc zb x1.1)] false,.box [.fn 49 [] [.ptr 1 0]] false,.box [aR 6 1 g47] false,.box [.pv (.fn 51 [] [])] false,.box [.fn 52 [] [.ptr 3 0]] false,bR 3 1 (rI .i64) y45 g49 0]∧y45.length=g47∧g49≤y45.length)) ?_ ?_
      ·
       rintro _ _ ⟨y45,y46,w40,w41,w42,w43,w44,g47,g49,hm,rfl,rfl,q48,q50⟩
       subst hk51
       refine sq (sq (dn [(7,aI y46),(9,.ptr 3 0),(43,aB (y46 != 0))] ?_))
       rcases zf hm with ⟨h52,hm⟩ | ⟨h52,hm⟩
       ·
        refine c1 h52 (sq (dn [(4,.pv .nils),(5,aI y46)] (wp_ret ?_)))
        obtain rfl:=Option.some.inj hm
        exact ⟨trivial,by kernel_rfl⟩
       ·
        refine c0 h52 (wp_skip (sq (dn [(4,aR 6 1 g47),(5,aI 0)] (wp_ret ?_))))
        obtain rfl:=Option.some.inj hm
        exact adz (v:=.tup [aR 6 1 g47,aI 0]) trivial rfl (by kernel_rfl) (amG (qO (aho (ack (n:=g47) (id:=6) (l:=y45) (R:=(rI .i64)) rfl (by omega) (by omega))) (qO (ai6) (rfl))))
      refine sq (dn [(2,.ptr 0 0),(7,aI y11),(8,.ptr 2 0),(9,.ptr 3 0),(10,.ptr 4 0),(11,.ptr 5 0),(37,aB (y11 == 0))] ?_)
      rcases zf hm with ⟨h53,hm⟩ | ⟨h53,hm⟩
      ·
       refine c1 h53 (rg (s1 3 [(40,.fn 59 [] [.ptr 2 0,.ptr 4 0,.ptr 5 0]),(39,.pv (zc zj a0.fAggs)),(38,.ptr 0 4)] ?_))
       obtain ⟨⟨x55,x56⟩,h54,hm⟩:=bs hm
       obtain ⟨vv,H1,hC,g57,g58,q59,q60,rfl,rfl⟩:=ab3 g12 g14 (by first | rfl | assumption | omega | (simp only [List.length_set,List.length_append,List.length_cons,List.length_nil,List.length_replicate,List.length_drop] at * <;> omega)) (by first | exact Nat.zero_le _ | exact Nat.le_refl _ | assumption | omega | (simp only [List.length_set,List.length_append,List.length_cons,List.length_nil,List.length_replicate,List.length_drop] at * <;> omega)) h54
       refine dR [(41,aI x56)] [.box (zc0 a0) false,.box [.pv (zc zb x1.1)] false,.box [.fn 49 [] [.ptr 1 0]] false,.box [aR 6 1 g57] false,.box [.pv (.fn 51 [] [])] false,.box [.fn 52 [] [.ptr 3 0]] false,bR 3 1 (rI .i64) x55 g58 0] [2,1,4,5,3,6] [.pv (zc zj a0.fAggs),.fn 59 [] [.ptr 2 0,.ptr 4 0,.ptr 5 0]] (by kernel_rfl) (by kernel_rfl) (by kernel_rfl) hC (by kernel_rfl) (fq 1 [(7,aI x56),(9,.ptr 3 0)] ?_)
       exact ⟨x55,x56,.any,.any,.any,.any,.any,g57,g58,hm,(zJ (by kernel_rfl)),rfl,(by first | rfl | assumption | omega | (simp only [List.length_set,List.length_append,List.length_cons,List.length_nil,List.length_replicate,List.length_drop] at * <;> omega)),(by first | exact Nat.zero_le _ | exact Nat.le_refl _ | assumption | omega | (simp only [List.length_set,List.length_append,List.length_cons,List.length_nil,List.length_replicate,List.length_drop] at * <;> omega))⟩
      ·
       refine c0 h53 (wp_skip ?_)
       exact ⟨y10,y11,.ptr 0 0,.ptr 2 0,.ptr 4 0,.ptr 5 0,aB (y11 == 0),g12,g14,hm,(zJ (by kernel_rfl)),rfl,(by first | rfl | assumption | omega | (simp only [List.length_set,List.length_append,List.length_cons,List.length_nil,List.length_replicate,List.length_drop] at * <;> omega)),(by first | exact Nat.zero_le _ | exact Nat.le_refl _ | assumption | omega | (simp only [List.length_set,List.length_append,List.length_cons,List.length_nil,List.length_replicate,List.length_drop] at * <;> omega))⟩
    refine sq (dn [(2,.ptr 0 0),(7,aI x8),(8,.ptr 2 0),(9,.ptr 3 0),(10,.ptr 4 0),(11,.ptr 5 0),(31,aB (x8 == 0))] ?_)
    rcases zf hm with ⟨h61,hm⟩ | ⟨h61,hm⟩
    ·
     refine c1 h61 (rg (s1 3 [(34,.fn 57 [] [.ptr 2 0,.ptr 4 0,.ptr 5 0]),(33,.pv (zc za a0.fOut)),(32,.ptr 0 3)] ?_))
     obtain ⟨x65,h62,hm⟩:=bs hm
     rcases x65 with ⟨_ | x63,x64⟩
     ·
      obtain ⟨vv,H1,hC,rfl,rfl⟩:=Q4 h62
      refine dR [(35,aI x64)] [.box (zc0 a0) false,.box [.pv (zc zb x1.1)] false,.box [.fn 49 [] [.ptr 1 0]] false,.box [.pv .nils] false,.box [.pv (.fn 51 [] [])] false,.box [.fn 52 [] [.ptr 3 0]] false] [2,1,4,5,3] [.pv (zc za a0.fOut),.fn 57 [] [.ptr 2 0,.ptr 4 0,.ptr 5 0]] (by kernel_rfl) (by kernel_rfl) (by kernel_rfl) hC (by kernel_rfl) (fq 1 [(2,.ptr 0 0),(7,aI x64),(8,.ptr 2 0),(9,.ptr 3 0),(10,.ptr 4 0),(11,.ptr 5 0)] ?_)
      exact .inl ⟨x64,.any,hm,(zJ (by kernel_rfl)),rfl⟩
     ·
      obtain ⟨vv,H1,hC,g66,g67,q68,q69,rfl,rfl⟩:=Q4 h62
      refine dR [(35,aI x64)] [.box (zc0 a0) false,.box [.pv (zc zb x1.1)] false,.box [.fn 49 [] [.ptr 1 0]] false,.box [aR 6 1 g66] false,.box [.pv (.fn 51 [] [])] false,.box [.fn 52 [] [.ptr 3 0]] false,bR 3 1 (rI .i64) x63 g67 0] [2,1,4,5,3] [.pv (zc za a0.fOut),.fn 57 [] [.ptr 2 0,.ptr 4 0,.ptr 5 0]] (by kernel_rfl) (by kernel_rfl) (by kernel_rfl) hC (by kernel_rfl) (fq 1 [(2,.ptr 0 0),(7,aI x64),(8,.ptr 2 0),(9,.ptr 3 0),(10,.ptr 4 0),(11,.ptr 5 0)] ?_)
      exact .inr (⟨x63,x64,.any,g66,g67,hm,(zJ (by kernel_rfl)),rfl,(by first | rfl | assumption | omega | (simp only [List.length_set,List.length_append,List.length_cons,List.length_nil,List.length_replicate,List.length_drop] at * <;> omega)),(by first | exact Nat.zero_le _ | exact Nat.le_refl _ | assumption | omega | (simp only [List.length_set,List.length_append,List.length_cons,List.length_nil,List.length_replicate,List.length_drop] at * <;> omega))⟩)
    ·
     refine c0 h61 (wp_skip ?_)
     exact .inl ⟨x8,aB (x8 == 0),hm,(zJ (by kernel_rfl)),rfl⟩
theorem ak7 {n:Nat} {a0:Int} {r:Int} (hm:aer n a0=some r):
    call G n 174 [aI a0] []=some (.ret (aI r),[]):=by
  unfold aer at hm
  obtain ⟨n,rfl,h0⟩:=zp hm
  replace hm:=h0; clear h0
  refine Zt 14 [(0,aI a0)] func174 rfl (by kernel_rfl) (sq (dn [(0,aI a0)] (sq (sq (dn [(3,aI a0)] (bq (sq (dn [(3,aI a0),(4,aB (a0 == 1))] ?_))))))))
  rcases zf hm with ⟨h1,hm⟩ | ⟨h1,hm⟩
  ·
   refine c1 h1 (sq (dn [(2,aI 0)] (wp_ret ?_)))
   obtain rfl:=Option.some.inj hm
   exact ⟨trivial,by kernel_rfl⟩
  ·
   refine c0 h1 ?_
   obtain ⟨k3,hk3,hm⟩:=zw hm
   refine mid (fun t H=>(∃ (y2:Bool),k3 y2=some r∧t=mk 14 [(3,aI a0),(6,aB y2)]∧H=[])) ?_ ?_
   ·
    rintro _ _ ⟨y2,hm,rfl,rfl⟩
    subst hk3
    rcases zf hm with ⟨h4,hm⟩ | ⟨h4,hm⟩
    ·
     refine c1 h4 (sq (dn [(2,aI 1)] (wp_ret ?_)))
     obtain rfl:=Option.some.inj hm
     exact ⟨trivial,by kernel_rfl⟩
    ·
     refine c0 h4 (sq (sq (dn [(3,aI a0),(10,aB (a0 == 2))] ?_)))
     rcases zf hm with ⟨h5,hm⟩ | ⟨h5,hm⟩
     ·
      refine c1 h5 (wp_skip ?_)
      rcases zf hm with ⟨h6,hm⟩ | ⟨h6,hm⟩
      ·
       refine c1 h6 (sq (dn [(2,aI 2)] (wp_ret ?_)))
       obtain rfl:=Option.some.inj hm
       exact ⟨trivial,by kernel_rfl⟩
      ·
       refine c0 h6 (wp_skip (sq (dn [(2,aI (-1))] (wp_ret ?_))))
       obtain rfl:=Option.some.inj hm
       exact ⟨trivial,by kernel_rfl⟩
     ·
      refine c0 h5 (sq (dn [(3,aI a0),(10,aB (a0 == 3))] ?_))
      rcases zf hm with ⟨h7,hm⟩ | ⟨h7,hm⟩
      ·
       refine c1 h7 (wp_skip ?_)
       rcases zf hm with ⟨h8,hm⟩ | ⟨h8,hm⟩
       ·
        refine c1 h8 (sq (dn [(2,aI 2)] (wp_ret ?_)))
        obtain rfl:=Option.some.inj hm
        exact ⟨trivial,by kernel_rfl⟩
       ·
        refine c0 h8 (wp_skip (sq (dn [(2,aI (-1))] (wp_ret ?_))))
        obtain rfl:=Option.some.inj hm
        exact ⟨trivial,by kernel_rfl⟩
      ·
       refine c0 h7 (dn [(10,aB (a0 == 4))] ?_)
       rcases zf hm with ⟨h9,hm⟩ | ⟨h9,hm⟩
       ·
        refine c1 h9 (sq (dn [(2,aI 2)] (wp_ret ?_)))
        obtain rfl:=Option.some.inj hm
        exact ⟨trivial,by kernel_rfl⟩
       ·
        refine c0 h9 (wp_skip (sq (dn [(2,aI (-1))] (wp_ret ?_))))
        obtain rfl:=Option.some.inj hm
        exact ⟨trivial,by kernel_rfl⟩
   refine sq (dn [(3,aI a0),(6,aB (a0 == 5))] ?_)
   rcases zf hm with ⟨h10,hm⟩ | ⟨h10,hm⟩
   ·
    refine c1 h10 (wp_skip ?_)
    exact ⟨(a0 == 5),hm,rfl,rfl⟩
   ·
    refine c0 h10 (sq (dn [(3,aI a0),(6,aB (a0 == 6))] ?_))
    rcases zf hm with ⟨h11,hm⟩ | ⟨h11,hm⟩
    ·
     refine c1 h11 (wp_skip ?_)
     exact ⟨(a0 == 6),hm,rfl,rfl⟩
    ·
     refine c0 h11 (dn [(3,aI a0),(6,aB (a0 == 7))] ?_)
     exact ⟨(a0 == 7),hm,rfl,rfl⟩
abbrev zp32 (p0:zl):Nat × AV:=(4,aI (IntKind.wrap .i64 (((sll p0.fLeft).length:Int)+((sll p0.fRight).length:Int))))
abbrev zg52 (p0:zl):=((sll p0.fWhere).length:Int)
abbrev zg53 (p0:zl):=(IntKind.wrap .i64 (((sll p0.fLeft).length:Int)+((sll p0.fRight).length:Int)))
abbrev zg54 (p0:zl):=((sll p0.fOrder).length:Int)
theorem ajH {n:Nat} {a0:zl} {r:Bool} (hm:adF n a0=some r):
    call G n 175 [.agg (zc2 a0)] []=some (.ret (aB r),[]):=by
  unfold adF at hm
  obtain ⟨n,rfl,h0⟩:=zp hm
  replace hm:=h0; clear h0
  refine Zt 68 [(0,.agg (zc2 a0))] func175 rfl (by kernel_rfl) (sq (det [(1,.ptr 0 0)] [.box (zc2 a0) false] (by kernel_rfl) (sq (rgd (shd 2 [(9,.pv (zg43 a0)),(8,.ptr 0 2)] (by kernel_rfl) (dvd 10 (v:=aI (zg52 a0)) (zC za a0.fWhere t23 (by kernel_rfl)) (by kernel_rfl) (shd 2 [(12,.pv (zc za a0.fLeft)),(11,.ptr 0 3)] (by kernel_rfl) (dvd 13 (v:=aI ((sll a0.fLeft).length:Int)) (zC za a0.fLeft t23 (by kernel_rfl)) (by kernel_rfl) (shd 2 [(15,.pv (zg46 a0)),(14,.ptr 0 4)] (by kernel_rfl) (dvd 16 (v:=aI ((sll a0.fRight).length:Int)) (zC za a0.fRight t23 (by kernel_rfl)) (by kernel_rfl) (shd 3 [(19,.pv (zc za a0.fOut)),(18,.ptr 0 5),(17,aI (zg53 a0))] (by kernel_rfl) (dvd 20 (v:=aI ((sll a0.fOut).length:Int)) (zC za a0.fOut t23 (by kernel_rfl)) (by kernel_rfl) ?_))))))))))))
  refine shd 2 [(22,.pv (zc zj a0.fAggs)),(21,.ptr 0 6)] (by kernel_rfl) (dvd 23 (v:=aI ((sll a0.fAggs).length:Int)) (zC zj a0.fAggs t24 (by kernel_rfl)) (by kernel_rfl) (shd 2 [(25,.pv (zc zn a0.fOrder)),(24,.ptr 0 7)] (by kernel_rfl) (dvd 26 (v:=aI (zg54 a0)) (zC zn a0.fOrder t25 (by kernel_rfl)) (by kernel_rfl) (shd 5 [(7,aI (zg54 a0)),(6,aI ((sll a0.fAggs).length:Int)),(5,aI ((sll a0.fOut).length:Int)),(zp32 a0),(3,aI (zg52 a0))] (by kernel_rfl) (find [(1,.ptr 0 0),(3,aI (zg52 a0)),(zp32 a0),(5,aI ((sll a0.fOut).length:Int)),(6,aI ((sll a0.fAggs).length:Int)),(7,aI (zg54 a0))] rfl (by kernel_rfl) (by kernel_rfl) ?_)))))
  obtain ⟨k7,hk7,hm⟩:=zw hm
  refine mid (fun t H=>(∃ (y2:Int) (y3:Int) (y4:Int) (y5:Int) (y6:Int) (w1:AV),k7 y2 y3 y4 y5 y6=some r∧t=mk 68 [(3,aI y2),(4,aI y3),(5,aI y4),(6,aI y5),(7,aI y6),(39,w1)]∧H=[.box (zc2 a0) false])) ?_ ?_
  ·
   rintro _ _ ⟨y2,y3,y4,y5,y6,w1,hm,rfl,rfl⟩
   subst hk7
   refine sq (dn [(2,aB ((IntKind.wrap .i64 ((IntKind.wrap .i64 ((IntKind.wrap .i64 ((IntKind.wrap .i64 (y2+y3))+y4))+y5))+y6)) == 0))] (wp_ret ?_))
   obtain rfl:=Option.some.inj hm
   exact ⟨trivial,by kernel_rfl⟩
  refine sq (dn [(1,.ptr 0 0),(3,aI (zg52 a0)),(zp32 a0),(5,aI ((sll a0.fOut).length:Int)),(6,aI ((sll a0.fAggs).length:Int)),(7,aI (zg54 a0)),(28,aI a0.fKind)] (bq (sq (bq (sq (bq (sq (bq (sq (bq ?_))))))))))
  obtain ⟨k9,hk9,hm⟩:=zw hm
  refine mid (fun t H=>(∃ (y8:Bool),k9 ()=some r∧t=mk 68 [(1,.ptr 0 0),(3,aI (zg52 a0)),(zp32 a0),(5,aI ((sll a0.fOut).length:Int)),(6,aI ((sll a0.fAggs).length:Int)),(7,aI (zg54 a0)),(28,aI a0.fKind),(29,aB y8)]∧H=[.box (zc2 a0) false])) ?_ ?_
  ·
   rintro _ _ ⟨y8,hm,rfl,rfl⟩
   subst hk9
   refine sq (sq (rg (s1 2 [(42,.pv (zc za a0.fLeft)),(41,.ptr 0 3)] (dv 43 (v:=aI ((sll a0.fLeft).length:Int)) (zC za a0.fLeft t23 (by kernel_rfl)) (by kernel_rfl) (s1 2 [(45,.pv (zg46 a0)),(44,.ptr 0 4)] (dv 46 (v:=aI ((sll a0.fRight).length:Int)) (zC za a0.fRight t23 (by kernel_rfl)) (by kernel_rfl) (s1 2 [(48,aB (((sll a0.fLeft).length:Int) != ((sll a0.fRight).length:Int))),(47,aB (((sll a0.fLeft).length:Int) != ((sll a0.fRight).length:Int)))] ?_)))))))
   refine seg (((sll a0.fLeft).length:Int) != ((sll a0.fRight).length:Int)) [48,47] (fun b=>[(53,aB (b || (((sll a0.fLeft).length:Int) == 0))),(52,ifA b (.undef) (aB (((sll a0.fLeft).length:Int) == 0))),(51,ifA b (.undef) (aI ((sll a0.fLeft).length:Int))),(50,ifA b (.undef) (.pv (zc za a0.fLeft))),(49,ifA b (.undef) (.ptr 0 3))]) 13 (by kernel_rfl) ?_ ?_ ?_
   ·
    intro Q h
    refine s1 5 [(53,aB true),(52,.undef),(51,.undef),(50,.undef),(49,.undef)] ?_
    exact QS (by kernel_rfl) (by kernel_rfl) h
   ·
    intro Q h
    refine s1 2 [(50,.pv (zc za a0.fLeft)),(49,.ptr 0 3)] (dv 51 (v:=aI ((sll a0.fLeft).length:Int)) (zC za a0.fLeft t23 (by kernel_rfl)) (by kernel_rfl) (s1 2 [(53,aB (((sll a0.fLeft).length:Int) == 0)),(52,aB (((sll a0.fLeft).length:Int) == 0))] ?_))
    exact QS (by kernel_rfl) (by kernel_rfl) h
   refine fin [(5,aI ((sll a0.fOut).length:Int)),(6,aI ((sll a0.fAggs).length:Int)),(7,aI (zg54 a0)),(53,aB ((((sll a0.fLeft).length:Int) != ((sll a0.fRight).length:Int)) || (((sll a0.fLeft).length:Int) == 0)))] rfl (by kernel_rfl) ?_
   rcases zf hm with ⟨h10,hm⟩ | ⟨h10,hm⟩
   ·
    refine c1 h10 (sq (dn [(2,aB false)] (wp_ret ?_)))
    obtain rfl:=Option.some.inj hm
    exact ⟨trivial,by kernel_rfl⟩
   ·
    refine c0 h10 (wp_skip (dn [(4,aI 0),(5,aI ((sll a0.fOut).length:Int)),(6,aI ((sll a0.fAggs).length:Int)),(7,aI (zg54 a0))] (sq (dn [(3,aI 0),(4,aI 0),(5,aI ((sll a0.fOut).length:Int)),(6,aI ((sll a0.fAggs).length:Int)),(7,aI (zg54 a0))] (wp_exit ?_)))))
    exact ⟨0,0,((sll a0.fOut).length:Int),((sll a0.fAggs).length:Int),(zg54 a0),.any,hm,(zJ (by kernel_rfl)),rfl⟩
  refine bq (sq ?_)
  obtain ⟨k12,hk12,hm⟩:=zw hm
  refine mid (fun t H=>(∃ (y11:Bool),k12 ()=some r∧t=mk 68 [(1,.ptr 0 0),(3,aI (zg52 a0)),(zp32 a0),(5,aI ((sll a0.fOut).length:Int)),(6,aI ((sll a0.fAggs).length:Int)),(7,aI (zg54 a0)),(28,aI a0.fKind),(29,aB y11)]∧H=[.box (zc2 a0) false])) ?_ ?_
  ·
   rintro _ _ ⟨y11,hm,rfl,rfl⟩
   subst hk12
   refine sq (sq (sq (dn [(3,aI (zg52 a0)),(zp32 a0),(5,aI ((sll a0.fOut).length:Int)),(6,aI ((sll a0.fAggs).length:Int)),(7,aI (zg54 a0)),(28,aI a0.fKind),(32,aB (a0.fKind == 1))] ?_)))
   rcases zf hm with ⟨h13,hm⟩ | ⟨h13,hm⟩
   ·
    refine c1 h13 (wp_skip ?_)
    rcases zf hm with ⟨h14,hm⟩ | ⟨h14,hm⟩
    ·
     refine c1 h14 (wp_exit (sq (dn [(3,aI 0),(zp32 a0),(5,aI ((sll a0.fOut).length:Int)),(6,aI ((sll a0.fAggs).length:Int)),(7,aI (zg54 a0))] (wp_exit ?_))))
     exact ⟨0,(zg53 a0),((sll a0.fOut).length:Int),((sll a0.fAggs).length:Int),(zg54 a0),.any,hm,(zJ (by kernel_rfl)),rfl⟩
    ·
     refine c0 h14 (wp_skip (sq (sq (dn [(3,aI (zg52 a0)),(zp32 a0),(5,aI ((sll a0.fOut).length:Int)),(6,aI ((sll a0.fAggs).length:Int)),(7,aI (zg54 a0)),(28,aI a0.fKind),(35,aB (a0.fKind == 6))] ?_))))
     rcases zf hm with ⟨h15,hm⟩ | ⟨h15,hm⟩
     ·
      refine c1 h15 (wp_exit (sq (sq (sq (dn [(3,aI (zg52 a0)),(zp32 a0),(6,aI ((sll a0.fAggs).length:Int)),(7,aI (zg54 a0)),(55,aB (((sll a0.fOut).length:Int) == 0))] ?_)))))
      rcases zf hm with ⟨h16,hm⟩ | ⟨h16,hm⟩
      ·
       refine c1 h16 (sq (dn [(2,aB false)] (wp_ret ?_)))
       obtain rfl:=Option.some.inj hm
       exact ⟨trivial,by kernel_rfl⟩
      ·
       refine c0 h16 (wp_skip (dn [(3,aI (zg52 a0)),(zp32 a0),(5,aI 0),(6,aI ((sll a0.fAggs).length:Int)),(7,aI (zg54 a0))] (wp_exit ?_)))
       exact ⟨(zg52 a0),(zg53 a0),0,((sll a0.fAggs).length:Int),(zg54 a0),.any,hm,(zJ (by kernel_rfl)),rfl⟩
     ·
      refine c0 h15 (wp_skip (sq (sq (dn [(3,aI (zg52 a0)),(zp32 a0),(5,aI ((sll a0.fOut).length:Int)),(6,aI ((sll a0.fAggs).length:Int)),(7,aI (zg54 a0)),(28,aI a0.fKind),(37,aB (a0.fKind == 5))] ?_))))
      rcases zf hm with ⟨h17,hm⟩ | ⟨h17,hm⟩
      ·
       refine c1 h17 (wp_exit (sq (dn [(3,aI (zg52 a0)),(zp32 a0),(5,aI 0),(6,aI 0),(7,aI (zg54 a0))] (wp_exit ?_))))
       exact ⟨(zg52 a0),(zg53 a0),0,0,(zg54 a0),.any,hm,(zJ (by kernel_rfl)),rfl⟩
      ·
       refine c0 h17 (wp_skip (sq (dn [(3,aI (zg52 a0)),(zp32 a0),(5,aI ((sll a0.fOut).length:Int)),(6,aI ((sll a0.fAggs).length:Int)),(7,aI (zg54 a0)),(39,aB (a0.fKind == 7))] ?_)))
       rcases zf hm with ⟨h18,hm⟩ | ⟨h18,hm⟩
       ·
        refine c1 h18 (wp_exit (sq (sq (sq (dn [(3,aI (zg52 a0)),(zp32 a0),(5,aI ((sll a0.fOut).length:Int)),(6,aI ((sll a0.fAggs).length:Int)),(57,aB (((sll a0.fOrder).length:Int) == 0))] ?_)))))
        rcases zf hm with ⟨h19,hm⟩ | ⟨h19,hm⟩
        ·
         refine c1 h19 (sq (dn [(2,aB false)] (wp_ret ?_)))
         obtain rfl:=Option.some.inj hm
         exact ⟨trivial,by kernel_rfl⟩
        ·
         refine c0 h19 (wp_skip (dn [(3,aI (zg52 a0)),(zp32 a0),(5,aI ((sll a0.fOut).length:Int)),(6,aI ((sll a0.fAggs).length:Int)),(7,aI 0)] (wp_exit ?_)))
         exact ⟨(zg52 a0),(zg53 a0),((sll a0.fOut).length:Int),((sll a0.fAggs).length:Int),0,.any,hm,(zJ (by kernel_rfl)),rfl⟩
       ·
        refine c0 h18 (wp_skip (wp_exit ?_))
        exact ⟨(zg52 a0),(zg53 a0),((sll a0.fOut).length:Int),((sll a0.fAggs).length:Int),(zg54 a0),aB (a0.fKind == 7),hm,(zJ (by kernel_rfl)),rfl⟩
   ·
    refine c0 h13 (dn [(3,aI (zg52 a0)),(zp32 a0),(5,aI ((sll a0.fOut).length:Int)),(6,aI ((sll a0.fAggs).length:Int)),(7,aI (zg54 a0)),(28,aI a0.fKind),(32,aB (a0.fKind == 2))] ?_)
    rcases zf hm with ⟨h20,hm⟩ | ⟨h20,hm⟩
    ·
     refine c1 h20 (wp_exit (sq (dn [(3,aI 0),(zp32 a0),(5,aI ((sll a0.fOut).length:Int)),(6,aI ((sll a0.fAggs).length:Int)),(7,aI (zg54 a0))] (wp_exit ?_))))
     exact ⟨0,(zg53 a0),((sll a0.fOut).length:Int),((sll a0.fAggs).length:Int),(zg54 a0),.any,hm,(zJ (by kernel_rfl)),rfl⟩
    ·
     refine c0 h20 (wp_skip (sq (sq (dn [(3,aI (zg52 a0)),(zp32 a0),(5,aI ((sll a0.fOut).length:Int)),(6,aI ((sll a0.fAggs).length:Int)),(7,aI (zg54 a0)),(28,aI a0.fKind),(35,aB (a0.fKind == 6))] ?_))))
     rcases zf hm with ⟨h21,hm⟩ | ⟨h21,hm⟩
     ·
      refine c1 h21 (wp_exit (sq (sq (sq (dn [(3,aI (zg52 a0)),(zp32 a0),(6,aI ((sll a0.fAggs).length:Int)),(7,aI (zg54 a0)),(55,aB (((sll a0.fOut).length:Int) == 0))] ?_)))))
      rcases zf hm with ⟨h22,hm⟩ | ⟨h22,hm⟩
      ·
       refine c1 h22 (sq (dn [(2,aB false)] (wp_ret ?_)))
       obtain rfl:=Option.some.inj hm
       exact ⟨trivial,by kernel_rfl⟩
      ·
       refine c0 h22 (wp_skip (dn [(3,aI (zg52 a0)),(zp32 a0),(5,aI 0),(6,aI ((sll a0.fAggs).length:Int)),(7,aI (zg54 a0))] (wp_exit ?_)))
       exact ⟨(zg52 a0),(zg53 a0),0,((sll a0.fAggs).length:Int),(zg54 a0),.any,hm,(zJ (by kernel_rfl)),rfl⟩
     ·
      refine c0 h21 (wp_skip (sq (sq (dn [(3,aI (zg52 a0)),(zp32 a0),(5,aI ((sll a0.fOut).length:Int)),(6,aI ((sll a0.fAggs).length:Int)),(7,aI (zg54 a0)),(28,aI a0.fKind),(37,aB (a0.fKind == 5))] ?_))))
      rcases zf hm with ⟨h23,hm⟩ | ⟨h23,hm⟩
      ·
       refine c1 h23 (wp_exit (sq (dn [(3,aI (zg52 a0)),(zp32 a0),(5,aI 0),(6,aI 0),(7,aI (zg54 a0))] (wp_exit ?_))))
       exact ⟨(zg52 a0),(zg53 a0),0,0,(zg54 a0),.any,hm,(zJ (by kernel_rfl)),rfl⟩
      ·
       refine c0 h23 (wp_skip (sq (dn [(3,aI (zg52 a0)),(zp32 a0),(5,aI ((sll a0.fOut).length:Int)),(6,aI ((sll a0.fAggs).length:Int)),(7,aI (zg54 a0)),(39,aB (a0.fKind == 7))] ?_)))
       rcases zf hm with ⟨h24,hm⟩ | ⟨h24,hm⟩
       ·
        refine c1 h24 (wp_exit (sq (sq (sq (dn [(3,aI (zg52 a0)),(zp32 a0),(5,aI ((sll a0.fOut).length:Int)),(6,aI ((sll a0.fAggs).length:Int)),(57,aB (((sll a0.fOrder).length:Int) == 0))] ?_)))))
        rcases zf hm with ⟨h25,hm⟩ | ⟨h25,hm⟩
        ·
         refine c1 h25 (sq (dn [(2,aB false)] (wp_ret ?_)))
         obtain rfl:=Option.some.inj hm
         exact ⟨trivial,by kernel_rfl⟩
        ·
         refine c0 h25 (wp_skip (dn [(3,aI (zg52 a0)),(zp32 a0),(5,aI ((sll a0.fOut).length:Int)),(6,aI ((sll a0.fAggs).length:Int)),(7,aI 0)] (wp_exit ?_)))
         exact ⟨(zg52 a0),(zg53 a0),((sll a0.fOut).length:Int),((sll a0.fAggs).length:Int),0,.any,hm,(zJ (by kernel_rfl)),rfl⟩
       ·
        refine c0 h24 (wp_skip (wp_exit ?_))
        exact ⟨(zg52 a0),(zg53 a0),((sll a0.fOut).length:Int),((sll a0.fAggs).length:Int),(zg54 a0),aB (a0.fKind == 7),hm,(zJ (by kernel_rfl)),rfl⟩
  refine sq (sq (dn [(1,.ptr 0 0),(3,aI (zg52 a0)),(zp32 a0),(5,aI ((sll a0.fOut).length:Int)),(6,aI ((sll a0.fAggs).length:Int)),(7,aI (zg54 a0)),(28,aI a0.fKind),(29,aB (a0.fKind == 3))] ?_))
  rcases zf hm with ⟨h26,hm⟩ | ⟨h26,hm⟩
  ·
   refine c1 h26 (wp_skip ?_)
   rcases zf hm with ⟨h27,hm⟩ | ⟨h27,hm⟩
   ·
    refine c1 h27 (wp_exit ?_)
    exact ⟨(a0.fKind == 3),hm,rfl,rfl⟩
   ·
    refine c0 h27 (wp_skip ?_)
    exact ⟨(a0.fKind == 3),hm,rfl,rfl⟩
  ·
   refine c0 h26 (dn [(1,.ptr 0 0),(3,aI (zg52 a0)),(zp32 a0),(5,aI ((sll a0.fOut).length:Int)),(6,aI ((sll a0.fAggs).length:Int)),(7,aI (zg54 a0)),(28,aI a0.fKind),(29,aB (a0.fKind == 4))] ?_)
   rcases zf hm with ⟨h28,hm⟩ | ⟨h28,hm⟩
   ·
    refine c1 h28 (wp_exit ?_)
    exact ⟨(a0.fKind == 4),hm,rfl,rfl⟩
   ·
    refine c0 h28 (wp_skip ?_)
    exact ⟨(a0.fKind == 4),hm,rfl,rfl⟩
theorem ah4 {n:Nat} {a0:zh} {r:Bool} (hm:abq n a0=some r):
    call G n 221 [.agg (zc7 a0)] []=some (.ret (aB r),[]):=by
  unfold abq at hm
  obtain ⟨n,rfl,h0⟩:=zp hm
  replace hm:=h0; clear h0
  refine Zt 6 [(0,.agg (zc7 a0))] func221 rfl (by kernel_rfl) (sq (det [(1,.ptr 0 0)] [.box (zc7 a0) false] (by kernel_rfl) (sq (rg (s1 1 [(3,.agg (zc7 a0))] ?_)))))
  obtain ⟨x1,h2,hm⟩:=bs hm
  refine dv 4 (zF (by kernel_rfl) (adO h2) (by kernel_rfl) (by kernel_rfl) (by kernel_rfl)) (by kernel_rfl) (fq 2 [(2,aB (!x1))] (wp_ret ?_))
  obtain rfl:=Option.some.inj hm
  exact ⟨trivial,by kernel_rfl⟩
theorem abt {n:Nat} {a0:(Option (List zd))} {r:Int} (hm:qa n a0=some r):
    call G n 213 [.pv (zc za a0),.pv (.fn 221 [] [])] []=some (.ret (aI r),[]):=by
  unfold qa at hm
  obtain ⟨n,rfl,h0⟩:=zp hm
  replace hm:=h0; clear h0
  refine Zt 19 [(0,.pv (zc za a0)),(1,.pv (.fn 221 [] []))] func213 rfl (by kernel_rfl) (sq (dn [(0,.pv (zc za a0)),(1,.pv (.fn 221 [] []))] ?_))
  obtain ⟨k3,hk3,hm⟩:=zw hm
  refine mid (fun t H=>(∃ (y1:Int) (y2:Bool),k3 ()=some r∧t=mk 19 [(0,.pv (zc za a0)),(1,.pv (.fn 221 [] [])),(7,aI ((sll a0).length:Int)),(8,aI y1),(9,aB y2)]∧H=[])) ?_ ?_
  ·
   rintro _ _ ⟨y1,y2,hm,rfl,rfl⟩
   subst hk3
   refine sq (dn [(4,aI (-1))] (wp_ret ?_))
   obtain rfl:=Option.some.inj hm
   exact ⟨trivial,by kernel_rfl⟩
  refine sq (rg (s1 1 [(6,.pv (zc za a0))] (dv 7 (v:=aI ((sll a0).length:Int)) (zC za a0 t23 (by kernel_rfl)) (by kernel_rfl) (fq 1 [(0,.pv (zc za a0)),(1,.pv (.fn 221 [] [])),(7,aI ((sll a0).length:Int)),(8,aI 0)] (bq ?_)))))
  refine qR (fun mm t H=>(∃ (y5:Int),zM n a0 k3 mm y5=some r∧t=mk 19 [(0,.pv (zc za a0)),(1,.pv (.fn 221 [] [])),(7,aI ((sll a0).length:Int)),(8,aI y5)]∧H=[])) (⟨0,hm,rfl,rfl⟩) ?_ ?_
  · rintro _ _ ⟨y5,hm,_⟩; exact nomatch hm
  rintro m6 _ _ ⟨y5,hm,rfl,rfl⟩
  simp only [zM] at hm
  refine sq (dn [(0,.pv (zc za a0)),(1,.pv (.fn 221 [] [])),(7,aI ((sll a0).length:Int)),(8,aI y5),(9,aB (zg39 y5 a0))] ?_)
  refine sq ?_
  rcases zf hm with ⟨h7,hm⟩ | ⟨h7,hm⟩
  ·
   refine c1 h7 (wp_skip (sq (bq (sq (dn [(0,.pv (zc za a0)),(1,.pv (.fn 221 [] [])),(5,aI y5),(7,aI ((sll a0).length:Int)),(8,aI y5)] (sq (rg (s1 3 [(13,aI y5),(12,.pv (zc za a0)),(11,.pv (.fn 221 [] []))] ?_))))))))
   obtain ⟨x8,h9,hm⟩:=bs hm
   refine dv 14 (v:=.pv (.ptr (Zy (zg x8)) 0)) (ZN za a0 .i64 t23 t49 h9 (zu x8) rfl (by kernel_rfl)) (by kernel_rfl) (s1 1 [(15,.agg (zc9 x8))] ?_)
   obtain ⟨x10,h11,hm⟩:=bs hm
   refine dv 16 (zF (by kernel_rfl) (ah4 h11) (by kernel_rfl) (by kernel_rfl) (by kernel_rfl)) (by kernel_rfl) (fin [(0,.pv (zc za a0)),(1,.pv (.fn 221 [] [])),(5,aI y5),(7,aI ((sll a0).length:Int)),(8,aI y5),(16,aB x10)] rfl (by kernel_rfl) ?_)
   rcases zf hm with ⟨h12,hm⟩ | ⟨h12,hm⟩
   ·
    refine c1 h12 (sq (dn [(4,aI y5)] (wp_ret ?_)))
    obtain rfl:=Option.some.inj hm
    exact ⟨trivial,by kernel_rfl⟩
   ·
    refine c0 h12 (wp_skip (dn [(0,.pv (zc za a0)),(1,.pv (.fn 221 [] [])),(7,aI ((sll a0).length:Int)),(8,aI (IntKind.wrap .i64 (y5+1)))] ?_))
    exact ⟨_,_,qd [(0,.pv (zc za a0)),(1,.pv (.fn 221 [] [])),(7,aI ((sll a0).length:Int)),(8,aI (IntKind.wrap .i64 (y5+1)))] [] (by kernel_rfl),⟨(IntKind.wrap .i64 (y5+1)),hm,rfl,rfl⟩⟩
  ·
   refine c0 h7 (wp_exit ?_)
   exact ⟨y5,(zg39 y5 a0),hm,rfl,rfl⟩
theorem aaU {n:Nat} {a0:(Option (List zd))} {r:Bool} (hm:Zr n a0=some r):
    call G n 220 [.pv (zc za a0),.pv (.fn 221 [] [])] []=some (.ret (aB r),[]):=by
  unfold Zr at hm
  obtain ⟨n,rfl,h0⟩:=zp hm
  replace hm:=h0; clear h0
  refine Zt 9 [(0,.pv (zc za a0)),(1,.pv (.fn 221 [] []))] func220 rfl (by kernel_rfl) (sq (dn [(0,.pv (zc za a0)),(1,.pv (.fn 221 [] []))] (sq (rg (s1 2 [(6,.pv (.fn 221 [] [])),(5,.pv (zc za a0))] ?_)))))
  obtain ⟨x1,h2,hm⟩:=bs hm
  refine dv 7 (zF (by kernel_rfl) (abt h2) (by kernel_rfl) (by kernel_rfl) (by kernel_rfl)) (by kernel_rfl) (fq 2 [(4,aB (decide (x1≥0)))] (wp_ret ?_))
  obtain rfl:=Option.some.inj hm
  exact ⟨trivial,by kernel_rfl⟩
theorem ah5 {n:Nat} {a0:zK} {r:Bool} (hm:aci n a0=some r):
    call G n 222 [.agg (zc5 a0)] []=some (.ret (aB r),[]):=by
  unfold aci at hm
  obtain ⟨n,rfl,h0⟩:=zp hm
  replace hm:=h0; clear h0
  refine Zt 17 [(0,.agg (zc5 a0))] func222 rfl (by kernel_rfl) (sq (det [(1,.ptr 0 0)] [.box (zc5 a0) false] (by kernel_rfl) (sq (rg (s1 4 [(6,aB (decide (a0.fKind < 1))),(5,aB (decide (a0.fKind < 1))),(4,aI a0.fKind),(3,.ptr 0 0)] ?_)))))
  refine segP (decide (a0.fKind < 1)) [6,5] (fun b=>[(10,aB (b || (decide (a0.fKind > 4)))),(9,ifA b (.undef) (aB (decide (a0.fKind > 4)))),(8,ifA b (.undef) (aI a0.fKind)),(7,ifA b (.undef) (.ptr 0 0))]) 4 (by kernel_rfl) (by kernel_rfl) (by kernel_rfl) (s1 1 [(11,aB ((decide (a0.fKind < 1)) || (decide (a0.fKind > 4))))] ?_)
  rcases zf hm with ⟨h1,hm⟩ | ⟨h1,hm⟩
  ·
   refine known [11,10] h1 (by kernel_rfl) (fq 6 [(2,aB true)] (wp_ret ?_))
   obtain rfl:=Option.some.inj hm
   exact ⟨trivial,by kernel_rfl⟩
  ·
   refine known [11,10] h1 (by kernel_rfl) (s1 2 [(13,.agg (zc1 a0)),(12,.ptr 0 1)] ?_)
   obtain ⟨x2,h3,hm⟩:=bs hm
   refine dv 14 (zF (by kernel_rfl) (adO h3) (by kernel_rfl) (by kernel_rfl) (by kernel_rfl)) (by kernel_rfl) (fq 3 [(2,aB (!x2))] (wp_ret ?_))
   obtain rfl:=Option.some.inj hm
   exact ⟨trivial,by kernel_rfl⟩
theorem abB {n:Nat} {a0:(Option (List zK))} {r:Int} (hm:qg n a0=some r):
    call G n 180 [.pv (zc zj a0),.pv (.fn 222 [] [])] []=some (.ret (aI r),[]):=by
  unfold qg at hm
  obtain ⟨n,rfl,h0⟩:=zp hm
  replace hm:=h0; clear h0
  refine Zt 19 [(0,.pv (zc zj a0)),(1,.pv (.fn 222 [] []))] func180 rfl (by kernel_rfl) (sq (dn [(0,.pv (zc zj a0)),(1,.pv (.fn 222 [] []))] ?_))
  obtain ⟨k3,hk3,hm⟩:=zw hm
  refine mid (fun t H=>(∃ (y1:Int) (y2:Bool),k3 ()=some r∧t=mk 19 [(0,.pv (zc zj a0)),(1,.pv (.fn 222 [] [])),(7,aI ((sll a0).length:Int)),(8,aI y1),(9,aB y2)]∧H=[])) ?_ ?_
  ·
   rintro _ _ ⟨y1,y2,hm,rfl,rfl⟩
   subst hk3
   refine sq (dn [(4,aI (-1))] (wp_ret ?_))
   obtain rfl:=Option.some.inj hm
   exact ⟨trivial,by kernel_rfl⟩
  refine sq (rg (s1 1 [(6,.pv (zc zj a0))] (dv 7 (v:=aI ((sll a0).length:Int)) (zC zj a0 t24 (by kernel_rfl)) (by kernel_rfl) (fq 1 [(0,.pv (zc zj a0)),(1,.pv (.fn 222 [] [])),(7,aI ((sll a0).length:Int)),(8,aI 0)] (bq ?_)))))
  refine qR (fun mm t H=>(∃ (y5:Int),zO n a0 k3 mm y5=some r∧t=mk 19 [(0,.pv (zc zj a0)),(1,.pv (.fn 222 [] [])),(7,aI ((sll a0).length:Int)),(8,aI y5)]∧H=[])) (⟨0,hm,rfl,rfl⟩) ?_ ?_
  · rintro _ _ ⟨y5,hm,_⟩; exact nomatch hm
  rintro m6 _ _ ⟨y5,hm,rfl,rfl⟩
  simp only [zO] at hm
  refine sq (dn [(0,.pv (zc zj a0)),(1,.pv (.fn 222 [] [])),(7,aI ((sll a0).length:Int)),(8,aI y5),(9,aB (zg48 y5 a0))] ?_)
  refine sq ?_
  rcases zf hm with ⟨h7,hm⟩ | ⟨h7,hm⟩
  ·
   refine c1 h7 (wp_skip (sq (bq (sq (dn [(0,.pv (zc zj a0)),(1,.pv (.fn 222 [] [])),(5,aI y5),(7,aI ((sll a0).length:Int)),(8,aI y5)] (sq (rg (s1 3 [(13,aI y5),(12,.pv (zc zj a0)),(11,.pv (.fn 222 [] []))] ?_))))))))
   obtain ⟨x8,h9,hm⟩:=bs hm
   refine dv 14 (v:=.pv (.ptr (zj x8) 0)) (Qy zj a0 .i64 t24 t101 h9 rfl (by kernel_rfl)) (by kernel_rfl) (s1 1 [(15,.agg (zc5 x8))] ?_)
   obtain ⟨x10,h11,hm⟩:=bs hm
   refine dv 16 (zF (by kernel_rfl) (ah5 h11) (by kernel_rfl) (by kernel_rfl) (by kernel_rfl)) (by kernel_rfl) (fin [(0,.pv (zc zj a0)),(1,.pv (.fn 222 [] [])),(5,aI y5),(7,aI ((sll a0).length:Int)),(8,aI y5),(16,aB x10)] rfl (by kernel_rfl) ?_)
   rcases zf hm with ⟨h12,hm⟩ | ⟨h12,hm⟩
   ·
    refine c1 h12 (sq (dn [(4,aI y5)] (wp_ret ?_)))
    obtain rfl:=Option.some.inj hm
    exact ⟨trivial,by kernel_rfl⟩
   ·
    refine c0 h12 (wp_skip (dn [(0,.pv (zc zj a0)),(1,.pv (.fn 222 [] [])),(7,aI ((sll a0).length:Int)),(8,aI (IntKind.wrap .i64 (y5+1)))] ?_))
    exact ⟨_,_,qd [(0,.pv (zc zj a0)),(1,.pv (.fn 222 [] [])),(7,aI ((sll a0).length:Int)),(8,aI (IntKind.wrap .i64 (y5+1)))] [] (by kernel_rfl),⟨(IntKind.wrap .i64 (y5+1)),hm,rfl,rfl⟩⟩
  ·
   refine c0 h7 (wp_exit ?_)
   exact ⟨y5,(zg48 y5 a0),hm,rfl,rfl⟩
theorem aa3 {n:Nat} {a0:(Option (List zK))} {r:Bool} (hm:Zv n a0=some r):
    call G n 139 [.pv (zc zj a0),.pv (.fn 222 [] [])] []=some (.ret (aB r),[]):=by
  unfold Zv at hm
  obtain ⟨n,rfl,h0⟩:=zp hm
  replace hm:=h0; clear h0
  refine Zt 9 [(0,.pv (zc zj a0)),(1,.pv (.fn 222 [] []))] func139 rfl (by kernel_rfl) (sq (dn [(0,.pv (zc zj a0)),(1,.pv (.fn 222 [] []))] (sq (rg (s1 2 [(6,.pv (.fn 222 [] [])),(5,.pv (zc zj a0))] ?_)))))
  obtain ⟨x1,h2,hm⟩:=bs hm
  refine dv 7 (zF (by kernel_rfl) (abB h2) (by kernel_rfl) (by kernel_rfl) (by kernel_rfl)) (by kernel_rfl) (fq 2 [(4,aB (decide (x1≥0)))] (wp_ret ?_))
  obtain rfl:=Option.some.inj hm
  exact ⟨trivial,by kernel_rfl⟩
theorem ahT {n:Nat} {a0:Zn} {r:Bool} (hm:adr n a0=some r):
    call G n 223 [.agg [aI a0.fOut,aB a0.fDesc]] []=some (.ret (aB r),[]):=by
  unfold adr at hm
  obtain ⟨n,rfl,h0⟩:=zp hm
  replace hm:=h0; clear h0
  refine Zt 11 [(0,.agg [aI a0.fOut,aB a0.fDesc])] func223 rfl (by kernel_rfl) (sq (det [(1,.ptr 0 0)] [.box [aI a0.fOut,aB a0.fDesc] false] (by kernel_rfl) (sq (rg (s1 4 [(6,aB (decide (a0.fOut < 0))),(5,aB (decide (a0.fOut < 0))),(4,aI a0.fOut),(3,.ptr 0 0)] ?_)))))
  refine segP (decide (a0.fOut < 0)) [6,5] (fun b=>[(10,aB (b || (decide (a0.fOut > 29)))),(9,ifA b (.undef) (aB (decide (a0.fOut > 29)))),(8,ifA b (.undef) (aI a0.fOut)),(7,ifA b (.undef) (.ptr 0 0))]) 4 (by kernel_rfl) (by kernel_rfl) (by kernel_rfl) (fq 1 [(2,aB ((decide (a0.fOut < 0)) || (decide (a0.fOut > 29))))] (wp_ret ?_))
  obtain rfl:=Option.some.inj hm
  exact ⟨trivial,by kernel_rfl⟩
theorem abA {n:Nat} {a0:(Option (List Zn))} {r:Int} (hm:qh n a0=some r):
    call G n 181 [.pv (zc zn a0),.pv (.fn 223 [] [])] []=some (.ret (aI r),[]):=by
  unfold qh at hm
  obtain ⟨n,rfl,h0⟩:=zp hm
  replace hm:=h0; clear h0
  refine Zt 19 [(0,.pv (zc zn a0)),(1,.pv (.fn 223 [] []))] func181 rfl (by kernel_rfl) (sq (dn [(0,.pv (zc zn a0)),(1,.pv (.fn 223 [] []))] ?_))
  obtain ⟨k3,hk3,hm⟩:=zw hm
  refine mid (fun t H=>(∃ (y1:Int) (y2:Bool),k3 ()=some r∧t=mk 19 [(0,.pv (zc zn a0)),(1,.pv (.fn 223 [] [])),(7,aI ((sll a0).length:Int)),(8,aI y1),(9,aB y2)]∧H=[])) ?_ ?_
  ·
   rintro _ _ ⟨y1,y2,hm,rfl,rfl⟩
   subst hk3
   refine sq (dn [(4,aI (-1))] (wp_ret ?_))
   obtain rfl:=Option.some.inj hm
   exact ⟨trivial,by kernel_rfl⟩
  refine sq (rg (s1 1 [(6,.pv (zc zn a0))] (dv 7 (v:=aI ((sll a0).length:Int)) (zC zn a0 t25 (by kernel_rfl)) (by kernel_rfl) (fq 1 [(0,.pv (zc zn a0)),(1,.pv (.fn 223 [] [])),(7,aI ((sll a0).length:Int)),(8,aI 0)] (bq ?_)))))
  refine qR (fun mm t H=>(∃ (y5:Int),zP n a0 k3 mm y5=some r∧t=mk 19 [(0,.pv (zc zn a0)),(1,.pv (.fn 223 [] [])),(7,aI ((sll a0).length:Int)),(8,aI y5)]∧H=[])) (⟨0,hm,rfl,rfl⟩) ?_ ?_
  · rintro _ _ ⟨y5,hm,_⟩; exact nomatch hm
  rintro m6 _ _ ⟨y5,hm,rfl,rfl⟩
  simp only [zP] at hm
  refine sq (dn [(0,.pv (zc zn a0)),(1,.pv (.fn 223 [] [])),(7,aI ((sll a0).length:Int)),(8,aI y5),(9,aB (decide (y5 < ((sll a0).length:Int))))] ?_)
  refine sq ?_
  rcases zf hm with ⟨h7,hm⟩ | ⟨h7,hm⟩
  ·
   refine c1 h7 (wp_skip (sq (bq (sq (dn [(0,.pv (zc zn a0)),(1,.pv (.fn 223 [] [])),(5,aI y5),(7,aI ((sll a0).length:Int)),(8,aI y5)] (sq (rg (s1 3 [(13,aI y5),(12,.pv (zc zn a0)),(11,.pv (.fn 223 [] []))] ?_))))))))
   obtain ⟨x8,h9,hm⟩:=bs hm
   refine dv 14 (v:=.pv (.ptr (zn x8) 0)) (Qy zn a0 .i64 t25 t86 h9 rfl (by kernel_rfl)) (by kernel_rfl) (s1 1 [(15,.agg [aI x8.fOut,aB x8.fDesc])] ?_)
   obtain ⟨x10,h11,hm⟩:=bs hm
   refine dv 16 (zF (by kernel_rfl) (ahT h11) (by kernel_rfl) (by kernel_rfl) (by kernel_rfl)) (by kernel_rfl) (fin [(0,.pv (zc zn a0)),(1,.pv (.fn 223 [] [])),(5,aI y5),(7,aI ((sll a0).length:Int)),(8,aI y5),(16,aB x10)] rfl (by kernel_rfl) ?_)
   rcases zf hm with ⟨h12,hm⟩ | ⟨h12,hm⟩
   ·
    refine c1 h12 (sq (dn [(4,aI y5)] (wp_ret ?_)))
    obtain rfl:=Option.some.inj hm
    exact ⟨trivial,by kernel_rfl⟩
   ·
    refine c0 h12 (wp_skip (dn [(0,.pv (zc zn a0)),(1,.pv (.fn 223 [] [])),(7,aI ((sll a0).length:Int)),(8,aI (IntKind.wrap .i64 (y5+1)))] ?_))
    exact ⟨_,_,qd [(0,.pv (zc zn a0)),(1,.pv (.fn 223 [] [])),(7,aI ((sll a0).length:Int)),(8,aI (IntKind.wrap .i64 (y5+1)))] [] (by kernel_rfl),⟨(IntKind.wrap .i64 (y5+1)),hm,rfl,rfl⟩⟩
  ·
   refine c0 h7 (wp_exit ?_)
   exact ⟨y5,(decide (y5 < ((sll a0).length:Int))),hm,rfl,rfl⟩
theorem aa2 {n:Nat} {a0:(Option (List Zn))} {r:Bool} (hm:Zu n a0=some r):
    call G n 141 [.pv (zc zn a0),.pv (.fn 223 [] [])] []=some (.ret (aB r),[]):=by
  unfold Zu at hm
  obtain ⟨n,rfl,h0⟩:=zp hm
  replace hm:=h0; clear h0
  refine Zt 9 [(0,.pv (zc zn a0)),(1,.pv (.fn 223 [] []))] func141 rfl (by kernel_rfl) (sq (dn [(0,.pv (zc zn a0)),(1,.pv (.fn 223 [] []))] (sq (rg (s1 2 [(6,.pv (.fn 223 [] [])),(5,.pv (zc zn a0))] ?_)))))
  obtain ⟨x1,h2,hm⟩:=bs hm
  refine dv 7 (zF (by kernel_rfl) (abA h2) (by kernel_rfl) (by kernel_rfl) (by kernel_rfl)) (by kernel_rfl) (fq 2 [(4,aB (decide (x1≥0)))] (wp_ret ?_))
  obtain rfl:=Option.some.inj hm
  exact ⟨trivial,by kernel_rfl⟩
abbrev zg55 (p0:zl):=([p0.fWhere,p0.fLeft,p0.fRight,p0.fOut]:List (Option (List zd)))
theorem ajL {n:Nat} {a0:zl} {r:Bool} (hm:adN n a0=some r):
    call G n 176 [.agg (zc2 a0)] []=some (.ret (aB r),[]):=by
  unfold adN at hm
  obtain ⟨n,rfl,h0⟩:=zp hm
  replace hm:=h0; clear h0
  refine Zt 63 [(0,.agg (zc2 a0))] func176 rfl (by kernel_rfl) (sq (det [(1,.ptr 0 0)] [.box (zc2 a0) false] (by kernel_rfl) ?_))
  obtain ⟨k3,hk3,hm⟩:=zw hm
  refine mid (fun t H=>(∃ (y1:Int) (y2:Bool),k3 ()=some r∧t=mk 63 [(1,.ptr 0 0),(13,aR 1 1 4),(14,aI 4),(15,aI y1),(16,aB y2)]∧H=[.box (zc2 a0) false,bR 23 1 (rSl za) (zg55 a0) 0 0])) ?_ ?_
  ·
   rintro _ _ ⟨y1,y2,hm,rfl,rfl⟩
   subst hk3
   refine sq (sq (rg (s1 2 [(28,.pv (zc zj a0.fAggs)),(27,.ptr 0 6)] (dv 29 (v:=aI ((sll a0.fAggs).length:Int)) (zC zj a0.fAggs t24 (by kernel_rfl)) (by kernel_rfl) (s1 2 [(31,aB (decide (((sll a0.fAggs).length:Int) > 60))),(30,aB (decide (((sll a0.fAggs).length:Int) > 60)))] ?_)))))
   rcases zf hm with ⟨h4,hm⟩ | ⟨h4,hm⟩
   ·
    refine known [31,30] h4 (by kernel_rfl) (fq 4 [(1,.ptr 0 0),(35,aB true)] (cT (by kernel_rfl) (sq (dn [(2,aB false)] (wp_ret ?_)))))
    obtain rfl:=Option.some.inj hm
    exact ⟨trivial,by kernel_rfl⟩
   ·
    refine known [31,30] h4 (by kernel_rfl) (s1 2 [(33,.pv (zc zj a0.fAggs)),(32,.ptr 0 6)] ?_)
    obtain ⟨x5,h6,hm⟩:=bs hm
    refine dv 34 (zF (by kernel_rfl) (aa3 h6) (by kernel_rfl) (by kernel_rfl) (by kernel_rfl)) (by kernel_rfl) (fq 1 [(1,.ptr 0 0),(35,aB x5)] ?_)
    rcases zf hm with ⟨h7,hm⟩ | ⟨h7,hm⟩
    ·
     refine c1 h7 (sq (dn [(2,aB false)] (wp_ret ?_)))
     obtain rfl:=Option.some.inj hm
     exact ⟨trivial,by kernel_rfl⟩
    ·
     refine c0 h7 (wp_skip ?_)
     refine sq (sq (rg (s1 2 [(37,.pv (zc zn a0.fOrder)),(36,.ptr 0 7)] (dv 38 (v:=aI (zg54 a0)) (zC zn a0.fOrder t25 (by kernel_rfl)) (by kernel_rfl) (s1 2 [(40,aB (decide (((sll a0.fOrder).length:Int) > 60))),(39,aB (decide (((sll a0.fOrder).length:Int) > 60)))] ?_)))))
     rcases zf hm with ⟨h8,hm⟩ | ⟨h8,hm⟩
     ·
      refine known [40,39] h8 (by kernel_rfl) (fq 4 [(1,.ptr 0 0),(44,aB true)] (cT (by kernel_rfl) (sq (dn [(2,aB false)] (wp_ret ?_)))))
      obtain rfl:=Option.some.inj hm
      exact ⟨trivial,by kernel_rfl⟩
     ·
      refine known [40,39] h8 (by kernel_rfl) (s1 2 [(42,.pv (zc zn a0.fOrder)),(41,.ptr 0 7)] ?_)
      obtain ⟨x9,h10,hm⟩:=bs hm
      refine dv 43 (zF (by kernel_rfl) (aa2 h10) (by kernel_rfl) (by kernel_rfl) (by kernel_rfl)) (by kernel_rfl) (fq 1 [(1,.ptr 0 0),(44,aB x9)] ?_)
      rcases zf hm with ⟨h11,hm⟩ | ⟨h11,hm⟩
      ·
       refine c1 h11 (sq (dn [(2,aB false)] (wp_ret ?_)))
       obtain rfl:=Option.some.inj hm
       exact ⟨trivial,by kernel_rfl⟩
      ·
       refine c0 h11 (wp_skip (sq (rg (s1 4 [(48,aB (decide (a0.fRel≥0))),(47,aB (decide (a0.fRel≥0))),(46,aI a0.fRel),(45,.ptr 0 1)] ?_))))
       refine segP (decide (a0.fRel≥0)) [48,47] (fun b=>[(52,aB (b && (decide (a0.fRel < 12)))),(51,ifA b (aB (decide (a0.fRel < 12))) (.undef)),(50,ifA b (aI a0.fRel) (.undef)),(49,ifA b (.ptr 0 1) (.undef))]) 4 (by kernel_rfl) (by kernel_rfl) (by kernel_rfl) (s1 1 [(53,aB ((decide (a0.fRel≥0)) && (decide (a0.fRel < 12))))] ?_)
       refine seg ((decide (a0.fRel≥0)) && (decide (a0.fRel < 12))) [53,52] (fun b=>[(62,aB (b && ((a0.fKind == 1) || (a0.fRel == 0)))),(61,ifA b (aB ((a0.fKind == 1) || (a0.fRel == 0))) (.undef)),(60,ifA b (ifA (a0.fKind == 1) (.undef) (aB (a0.fRel == 0))) (.undef)),(59,ifA b (ifA (a0.fKind == 1) (.undef) (aI a0.fRel)) (.undef)),(58,ifA b (ifA (a0.fKind == 1) (.undef) (.ptr 0 1)) (.undef)),(57,ifA b (aB (a0.fKind == 1)) (.undef)),(56,ifA b (aB (a0.fKind == 1)) (.undef)),(55,ifA b (aI a0.fKind) (.undef)),(54,ifA b (.ptr 0 0) (.undef))]) 18 (by kernel_rfl) ?_ ?_ ?_
       ·
        intro Q h
        refine s1 4 [(57,aB (a0.fKind == 1)),(56,aB (a0.fKind == 1)),(55,aI a0.fKind),(54,.ptr 0 0)] ?_
        refine segP (a0.fKind == 1) [57,56] (fun b=>[(61,aB (b || (a0.fRel == 0))),(60,ifA b (.undef) (aB (a0.fRel == 0))),(59,ifA b (.undef) (aI a0.fRel)),(58,ifA b (.undef) (.ptr 0 1))]) 4 (by kernel_rfl) (by kernel_rfl) (by kernel_rfl) (s1 1 [(62,aB ((a0.fKind == 1) || (a0.fRel == 0)))] ?_)
        exact QS (by kernel_rfl) (by kernel_rfl) h
       ·
        intro Q h
        refine s1 9 [(62,aB false),(61,.undef),(60,.undef),(59,.undef),(58,.undef),(57,.undef),(56,.undef),(55,.undef),(54,.undef)] ?_
        exact QS (by kernel_rfl) (by kernel_rfl) h
       refine fq 1 [(2,aB (((decide (a0.fRel≥0)) && (decide (a0.fRel < 12))) && ((a0.fKind == 1) || (a0.fRel == 0))))] (wp_ret ?_)
       obtain rfl:=Option.some.inj hm
       exact ⟨trivial,by kernel_rfl⟩
  refine sq (det [(1,.ptr 0 0),(13,aR 1 1 4),(14,aI 4),(15,aI 0)] [.box (zc2 a0) false,bR 23 1 (rSl za) (zg55 a0) 0 0] (by kernel_rfl) (bq ?_))
  refine qR (fun mm t H=>(∃ (y13:Int),qM n a0 k3 mm y13=some r∧t=mk 63 [(1,.ptr 0 0),(13,aR 1 1 4),(14,aI 4),(15,aI y13)]∧H=[.box (zc2 a0) false,bR 23 1 (rSl za) ([a0.fWhere,a0.fLeft,a0.fRight,a0.fOut]:List (Option (List zd))) 0 0])) (⟨0,hm,rfl,rfl⟩) ?_ ?_
  · rintro _ _ ⟨y13,hm,_⟩; exact nomatch hm
  rintro m14 _ _ ⟨y13,hm,rfl,rfl⟩
  simp only [qM] at hm
  refine sq (dn [(1,.ptr 0 0),(13,aR 1 1 4),(14,aI 4),(15,aI y13),(16,aB (decide (y13 < 4)))] ?_)
  refine sq ?_
  rcases zf hm with ⟨h15,hm⟩ | ⟨h15,hm⟩
  ·
   refine c1 h15 (wp_skip (sq (bq (sq (rg ?_)))))
   obtain ⟨x16,h17,hm⟩:=bs hm
   refine dv 17 (v:=.eptr 1 0 4 1 (0+Int.toNat y13) 0) (QQ (zg55 a0) .i64 (n:=4) (id:=1) (esz:=1) t182 t23 h17 (by first | rfl | assumption | omega | (simp only [List.length_set,List.length_append,List.length_cons,List.length_nil,List.length_replicate,List.length_drop] at * <;> omega)) rfl (by kernel_rfl)) (by kernel_rfl) (dv 18 (v:=.pv (zc za x16)) (abk (rSl za) (zg55 a0) (n:=4) (esz:=1) (j:=y13) (off:=0) (id:=1) t23 rfl h17 (by first | rfl | assumption | omega | (simp only [List.length_set,List.length_append,List.length_cons,List.length_nil,List.length_replicate,List.length_drop] at * <;> omega)) (Nat.zero_le _) (by kernel_rfl) (by kernel_rfl)) (by kernel_rfl) (fq 1 [(1,.ptr 0 0),(4,.pv (zc za x16)),(13,aR 1 1 4),(14,aI 4),(15,aI y13)] (sq (rg (s1 1 [(19,.pv (zc za x16))] (dv 20 (v:=aI ((sll x16).length:Int)) (zC za x16 t23 (by kernel_rfl)) (by kernel_rfl) (s1 2 [(22,aB (decide (((sll x16).length:Int) > 60))),(21,aB (decide (((sll x16).length:Int) > 60)))] ?_)))))))
   rcases zf hm with ⟨h18,hm⟩ | ⟨h18,hm⟩
   ·
    refine known [22,21] h18 (by kernel_rfl) (fq 3 [(1,.ptr 0 0),(13,aR 1 1 4),(14,aI 4),(15,aI y13),(25,aB true)] (cT (by kernel_rfl) (sq (dn [(2,aB false)] (wp_ret ?_)))))
    obtain rfl:=Option.some.inj hm
    exact ⟨trivial,by kernel_rfl⟩
   ·
    refine known [22,21] h18 (by kernel_rfl) (s1 1 [(23,.pv (zc za x16))] ?_)
    obtain ⟨x19,h20,hm⟩:=bs hm
    refine dv 24 (zF (by kernel_rfl) (aaU h20) (by kernel_rfl) (by kernel_rfl) (by kernel_rfl)) (by kernel_rfl) (fq 1 [(1,.ptr 0 0),(13,aR 1 1 4),(14,aI 4),(15,aI y13),(25,aB x19)] ?_)
    rcases zf hm with ⟨h21,hm⟩ | ⟨h21,hm⟩
    ·
     refine c1 h21 (sq (dn [(2,aB false)] (wp_ret ?_)))
     obtain rfl:=Option.some.inj hm
     exact ⟨trivial,by kernel_rfl⟩
    ·
     refine c0 h21 (wp_skip (dn [(1,.ptr 0 0),(13,aR 1 1 4),(14,aI 4),(15,aI (IntKind.wrap .i64 (y13+1)))] ?_))
     exact ⟨_,_,qd [(1,.ptr 0 0),(13,aR 1 1 4),(14,aI 4),(15,aI (IntKind.wrap .i64 (y13+1)))] [.box (zc2 a0) false,bR 23 1 (rSl za) (zg55 a0) 0 0] (by kernel_rfl),⟨(IntKind.wrap .i64 (y13+1)),hm,rfl,rfl⟩⟩
  ·
   refine c0 h15 (wp_exit ?_)
   exact ⟨y13,(decide (y13 < 4)),hm,rfl,rfl⟩
theorem ajf {rc_plan_count:(Nat→zl→Int→Int→Option (Int))} (ih_plan_count:∀ {n:Nat} {a0:zl} {a1:Int} {a2:Int} {r:Int} (hm:rc_plan_count n a0 a1 a2=some r),call G n 125 [.agg [aI a0.fKind,aI a0.fRel,.pv (zc za a0.fWhere),.pv (zc za a0.fLeft),.pv (zc za a0.fRight),.pv (zc za a0.fOut),.pv (zc zj a0.fAggs),.pv (zc zn a0.fOrder),.pv (zc zm a0.fKids)],aI a1,aI a2] []=some (.ret (aI r),[])) {n:Nat} {a0:zl} {a1:Int} {a2:Int} {r:Int} (hm:aay rc_plan_count n a0 a1 a2=some r):
    call G n 125 [.agg (zc2 a0),aI a1,aI a2] []=some (.ret (aI r),[]):=by
  unfold aay at hm
  obtain ⟨n,rfl,h0⟩:=zp hm
  replace hm:=h0; clear h0
  refine Zt 52 [(0,.agg (zc2 a0)),(1,aI a1),(2,aI a2)] func125 rfl (by kernel_rfl) (sq (det [(1,aI a1),(2,aI a2),(3,.ptr 0 0)] [.box (zc2 a0) false] (by kernel_rfl) ?_))
  refine sq (sq (rgd (shd 3 [(11,aB (decide (a1 > 24))),(10,aB (decide (a1 > 24))),(9,aI a1)] (by kernel_rfl) ?_)))
  rcases zf hm with ⟨h1,hm⟩ | ⟨h1,hm⟩
  ·
   refine qj [11,10] h1 (by kernel_rfl) (shd 22 [(33,aB true),(32,.undef),(31,.undef),(30,.undef),(29,aB true),(28,aB true),(27,.undef),(26,.undef),(25,.undef),(24,aB true),(23,aB true),(22,.undef),(21,.undef),(20,.undef),(19,.undef),(18,.undef),(17,.undef),(16,.undef),(15,aB true),(14,aB true),(13,.undef),(12,.undef)] (by kernel_rfl) (find [(1,aI a1),(2,aI a2),(3,.ptr 0 0),(33,aB true)] rfl (by kernel_rfl) (by kernel_rfl) (cT (by kernel_rfl) (sq (dn [(6,aI (-1))] (wp_ret ?_))))))
   obtain rfl:=Option.some.inj hm
   exact ⟨trivial,by kernel_rfl⟩
  ·
   refine qj [11,10] h1 (by kernel_rfl) (shd 4 [(15,aB (decide (a2 < 1))),(14,aB (decide (a2 < 1))),(13,aB (decide (a2 < 1))),(12,aI a2)] (by kernel_rfl) ?_)
   rcases zf hm with ⟨h2,hm⟩ | ⟨h2,hm⟩
   ·
    refine qj [15,14,13] h2 (by kernel_rfl) (shd 18 [(33,aB true),(32,.undef),(31,.undef),(30,.undef),(29,aB true),(28,aB true),(27,.undef),(26,.undef),(25,.undef),(24,aB true),(23,aB true),(22,.undef),(21,.undef),(20,.undef),(19,.undef),(18,.undef),(17,.undef),(16,.undef)] (by kernel_rfl) (find [(1,aI a1),(2,aI a2),(3,.ptr 0 0),(33,aB true)] rfl (by kernel_rfl) (by kernel_rfl) (cT (by kernel_rfl) (sq (dn [(6,aI (-1))] (wp_ret ?_))))))
    obtain rfl:=Option.some.inj hm
    exact ⟨trivial,by kernel_rfl⟩
   ·
    refine qj [15,14,13] h2 (by kernel_rfl) (shd 2 [(17,aI a0.fKind),(16,.ptr 0 0)] (by kernel_rfl) ?_)
    obtain ⟨x3,h4,hm⟩:=bs hm
    refine dvd 18 (zF (by kernel_rfl) (ak7 h4) (by kernel_rfl) (by kernel_rfl) (by kernel_rfl)) (by kernel_rfl) (shd 2 [(20,.pv (zc zm a0.fKids)),(19,.ptr 0 8)] (by kernel_rfl) (dvd 21 (v:=aI ((sll a0.fKids).length:Int)) (zC zm a0.fKids t64 (by kernel_rfl)) (by kernel_rfl) (shd 3 [(24,aB (x3 != ((sll a0.fKids).length:Int))),(23,aB (x3 != ((sll a0.fKids).length:Int))),(22,aB (x3 != ((sll a0.fKids).length:Int)))] (by kernel_rfl) ?_)))
    rcases zf hm with ⟨h5,hm⟩ | ⟨h5,hm⟩
    ·
     refine qj [24,23,22] h5 (by kernel_rfl) (shd 9 [(33,aB true),(32,.undef),(31,.undef),(30,.undef),(29,aB true),(28,aB true),(27,.undef),(26,.undef),(25,.undef)] (by kernel_rfl) (find [(1,aI a1),(2,aI a2),(3,.ptr 0 0),(33,aB true)] rfl (by kernel_rfl) (by kernel_rfl) (cT (by kernel_rfl) (sq (dn [(6,aI (-1))] (wp_ret ?_))))))
     obtain rfl:=Option.some.inj hm
     exact ⟨trivial,by kernel_rfl⟩
    ·
     refine qj [24,23,22] h5 (by kernel_rfl) (shd 1 [(25,.agg (zc2 a0))] (by kernel_rfl) ?_)
     obtain ⟨x6,h7,hm⟩:=bs hm
     refine dvd 26 (zF (by kernel_rfl) (ajH h7) (by kernel_rfl) (by kernel_rfl) (by kernel_rfl)) (by kernel_rfl) (shd 3 [(29,aB (!x6)),(28,aB (!x6)),(27,aB (!x6))] (by kernel_rfl) ?_)
     rcases zf hm with ⟨h8,hm⟩ | ⟨h8,hm⟩
     ·
      refine qj [29,28,27] h8 (by kernel_rfl) (shd 4 [(33,aB true),(32,.undef),(31,.undef),(30,.undef)] (by kernel_rfl) (find [(1,aI a1),(2,aI a2),(3,.ptr 0 0),(33,aB true)] rfl (by kernel_rfl) (by kernel_rfl) (cT (by kernel_rfl) (sq (dn [(6,aI (-1))] (wp_ret ?_))))))
      obtain rfl:=Option.some.inj hm
      exact ⟨trivial,by kernel_rfl⟩
     ·
      refine qj [29,28,27] h8 (by kernel_rfl) (shd 1 [(30,.agg (zc2 a0))] (by kernel_rfl) ?_)
      obtain ⟨x9,h10,hm⟩:=bs hm
      refine dvd 31 (zF (by kernel_rfl) (ajL h10) (by kernel_rfl) (by kernel_rfl) (by kernel_rfl)) (by kernel_rfl) (shd 2 [(33,aB (!x9)),(32,aB (!x9))] (by kernel_rfl) (find [(1,aI a1),(2,aI a2),(3,.ptr 0 0),(33,aB (!x9))] rfl (by kernel_rfl) (by kernel_rfl) ?_))
      rcases zf hm with ⟨h11,hm⟩ | ⟨h11,hm⟩
      ·
       refine c1 h11 (sq (dn [(6,aI (-1))] (wp_ret ?_)))
       obtain rfl:=Option.some.inj hm
       exact ⟨trivial,by kernel_rfl⟩
      ·
       refine c0 h11 (wp_skip (sq (dn [(1,aI a1),(2,aI (IntKind.wrap .i64 (a2 - 1))),(3,.ptr 0 0)] ?_)))
       obtain ⟨k15,hk15,hm⟩:=zw hm
       refine mid (fun t H=>(∃ (y12:Int) (y13:Int) (y14:Bool),k15 y12=some r∧t=mk 52 [(1,aI a1),(2,aI y12),(37,.pv (zc zm a0.fKids)),(38,aI ((sll a0.fKids).length:Int)),(39,aI y13),(40,aB y14)]∧H=[.box (zc2 a0) false])) ?_ ?_
       ·
        rintro _ _ ⟨y12,y13,y14,hm,rfl,rfl⟩
        subst hk15
        refine sq (dn [(6,aI y12)] (wp_ret ?_))
        obtain rfl:=Option.some.inj hm
        exact ⟨trivial,by kernel_rfl⟩
       refine sq (rg (s1 2 [(37,.pv (zc zm a0.fKids)),(36,.ptr 0 8)] (dv 38 (v:=aI ((sll a0.fKids).length:Int)) (zC zm a0.fKids t64 (by kernel_rfl)) (by kernel_rfl) (fq 1 [(1,aI a1),(2,aI (IntKind.wrap .i64 (a2 - 1))),(37,.pv (zc zm a0.fKids)),(38,aI ((sll a0.fKids).length:Int)),(39,aI 0)] (bq ?_)))))
       refine qR (fun mm t H=>(∃ (y18:Int) (y19:Int),aaP n rc_plan_count a0 a1 k15 mm y18 y19=some r∧t=mk 52 [(1,aI a1),(2,aI y18),(37,.pv (zc zm a0.fKids)),(38,aI ((sll a0.fKids).length:Int)),(39,aI y19)]∧H=[.box (zc2 a0) false])) (⟨(IntKind.wrap .i64 (a2 - 1)),0,hm,rfl,rfl⟩) ?_ ?_
       · rintro _ _ ⟨y18,y19,hm,_⟩; exact nomatch hm
       rintro m20 _ _ ⟨y18,y19,hm,rfl,rfl⟩
       simp only [aaP] at hm
       refine sq (dn [(1,aI a1),(2,aI y18),(37,.pv (zc zm a0.fKids)),(38,aI ((sll a0.fKids).length:Int)),(39,aI y19),(40,aB (zg44 y19 a0))] ?_)
       refine sq ?_
       rcases zf hm with ⟨h21,hm⟩ | ⟨h21,hm⟩
       ·
        refine c1 h21 (wp_skip (sq (bq (sq (rg ?_)))))
        obtain ⟨x22,h23,hm⟩:=bs hm
        refine dv 41 (v:=.pv (.ptr (zg45 x22) 0)) (ZN zm a0.fKids .i64 t64 t66 h23 (ZK x22) rfl (by kernel_rfl)) (by kernel_rfl) (stf 3 [(1,aI a1),(2,aI y18),(8,.ptr 1 0),(37,.pv (zc zm a0.fKids)),(38,aI ((sll a0.fKids).length:Int)),(39,aI y19)] [.box (zc2 a0) false,.box (zc3 x22) false] (by kernel_rfl) (sq (rg (s1 4 [(46,aI y18),(45,aI (IntKind.wrap .i64 (a1+1))),(44,aI a1),(43,.agg (zc3 x22))] ?_))))
        obtain ⟨x24,h25,hm⟩:=bs hm
        refine dv 47 (zF (by kernel_rfl) (ih_plan_count h25) (by kernel_rfl) (by kernel_rfl) (by kernel_rfl)) (by kernel_rfl) (fq 1 [(1,aI a1),(2,aI x24),(37,.pv (zc zm a0.fKids)),(38,aI ((sll a0.fKids).length:Int)),(39,aI y19)] (sq (dn [(1,aI a1),(2,aI x24),(37,.pv (zc zm a0.fKids)),(38,aI ((sll a0.fKids).length:Int)),(39,aI y19),(49,aB (decide (x24 < 0)))] ?_)))
        rcases zf hm with ⟨h26,hm⟩ | ⟨h26,hm⟩
        ·
         refine c1 h26 (sq (dn [(6,aI (-1))] (wp_ret ?_)))
         obtain rfl:=Option.some.inj hm
         exact ⟨trivial,by kernel_rfl⟩
        ·
         refine c0 h26 (wp_skip (dn [(1,aI a1),(2,aI x24),(37,.pv (zc zm a0.fKids)),(38,aI ((sll a0.fKids).length:Int)),(39,aI (IntKind.wrap .i64 (y19+1)))] ?_))
         exact ⟨_,_,qd [(1,aI a1),(2,aI x24),(37,.pv (zc zm a0.fKids)),(38,aI ((sll a0.fKids).length:Int)),(39,aI (IntKind.wrap .i64 (y19+1)))] [.box (zc2 a0) false] (by kernel_rfl),⟨x24,(IntKind.wrap .i64 (y19+1)),hm,rfl,rfl⟩⟩
       ·
        refine c0 h21 (wp_exit ?_)
        exact ⟨y18,y19,(zg44 y19 a0),hm,rfl,rfl⟩
theorem afm:∀ (m:Nat),∀ {n:Nat} {a0:zl} {a1:Int} {a2:Int} {r:Int} (hm:Qm m n a0 a1 a2=some r),call G n 125 [.agg (zc2 a0),aI a1,aI a2] []=some (.ret (aI r),[])
  | 0=>by intros; rename_i hm; exact nomatch hm
  | m+1=>fun hm=>
    ajf (afm m) hm
theorem ajx {n:Nat} {a0:zl} {a1:Int} {a2:Int} {r:Int} (hm:agp n a0 a1 a2=some r):
    call G n 125 [.agg (zc2 a0),aI a1,aI a2] []=some (.ret (aI r),[]):=afm n hm
theorem aiV {n:Nat} {a0:zl} {r:Bool} (hm:aan n a0=some r):
    call G n 36 [.agg (zc2 a0)] []=some (.ret (aB r),[]):=by
  unfold aan at hm
  obtain ⟨n,rfl,h0⟩:=zp hm
  replace hm:=h0; clear h0
  refine Zt 6 [(0,.agg (zc2 a0))] func36 rfl (by kernel_rfl) (sq (det [(1,.ptr 0 0)] [.box (zc2 a0) false] (by kernel_rfl) (sq (rg (s1 1 [(3,.agg (zc2 a0))] ?_)))))
  obtain ⟨x1,h2,hm⟩:=bs hm
  refine dv 4 (zF (by kernel_rfl) (ajx h2) (by kernel_rfl) (by kernel_rfl) (by kernel_rfl)) (by kernel_rfl) (fq 2 [(2,aB (decide (x1≥0)))] (wp_ret ?_))
  obtain rfl:=Option.some.inj hm
  exact ⟨trivial,by kernel_rfl⟩
theorem afX {n:Nat} {a0:(Option (List Zn))} {a1:(Option (List Zn))} {r:Bool} (hm:aag n a0 a1=some r):
    call G n 92 [.pv (zc zn a0),.pv (zc zn a1)] []=some (.ret (aB r),[]):=by
  unfold aag at hm
  obtain ⟨n,rfl,h0⟩:=zp hm
  replace hm:=h0; clear h0
  refine Zt 26 [(0,.pv (zc zn a0)),(1,.pv (zc zn a1))] func92 rfl (by kernel_rfl) (sq (dn [(0,.pv (zc zn a0)),(1,.pv (zc zn a1))] ?_))
  refine sq (sq (rg (s1 1 [(6,.pv (zc zn a0))] (dv 7 (v:=aI ((sll a0).length:Int)) (zC zn a0 t25 (by kernel_rfl)) (by kernel_rfl) (s1 1 [(8,.pv (zc zn a1))] (dv 9 (v:=aI ((sll a1).length:Int)) (zC zn a1 t25 (by kernel_rfl)) (by kernel_rfl) (fq 1 [(0,.pv (zc zn a0)),(1,.pv (zc zn a1)),(10,aB (((sll a0).length:Int) != ((sll a1).length:Int)))] ?_)))))))
  rcases zf hm with ⟨h1,hm⟩ | ⟨h1,hm⟩
  ·
   refine c1 h1 (sq (dn [(4,aB false)] (wp_ret ?_)))
   obtain rfl:=Option.some.inj hm
   exact ⟨trivial,by kernel_rfl⟩
  ·
   refine c0 h1 (wp_skip ?_)
   obtain ⟨k4,hk4,hm⟩:=zw hm
   refine mid (fun t H=>(∃ (y2:Int) (y3:Bool),k4 ()=some r∧t=mk 26 [(0,.pv (zc zn a0)),(1,.pv (zc zn a1)),(12,aI ((sll a0).length:Int)),(13,aI y2),(14,aB y3)]∧H=[])) ?_ ?_
   ·
    rintro _ _ ⟨y2,y3,hm,rfl,rfl⟩
    subst hk4
    refine sq (dn [(4,aB true)] (wp_ret ?_))
    obtain rfl:=Option.some.inj hm
    exact ⟨trivial,by kernel_rfl⟩
   refine sq (rg (s1 1 [(11,.pv (zc zn a0))] (dv 12 (v:=aI ((sll a0).length:Int)) (zC zn a0 t25 (by kernel_rfl)) (by kernel_rfl) (fq 1 [(0,.pv (zc zn a0)),(1,.pv (zc zn a1)),(12,aI ((sll a0).length:Int)),(13,aI 0)] (bq ?_)))))
   refine qR (fun mm t H=>(∃ (y6:Int),Z3 n a0 a1 k4 mm y6=some r∧t=mk 26 [(0,.pv (zc zn a0)),(1,.pv (zc zn a1)),(12,aI ((sll a0).length:Int)),(13,aI y6)]∧H=[])) (⟨0,hm,rfl,rfl⟩) ?_ ?_
   · rintro _ _ ⟨y6,hm,_⟩; exact nomatch hm
   rintro m7 _ _ ⟨y6,hm,rfl,rfl⟩
   simp only [Z3] at hm
   refine sq (dn [(0,.pv (zc zn a0)),(1,.pv (zc zn a1)),(12,aI ((sll a0).length:Int)),(13,aI y6),(14,aB (decide (y6 < ((sll a0).length:Int))))] ?_)
   refine sq ?_
   rcases zf hm with ⟨h8,hm⟩ | ⟨h8,hm⟩
   ·
    refine c1 h8 (wp_skip (sq (bq (sq (dn [(0,.pv (zc zn a0)),(1,.pv (zc zn a1)),(5,aI y6),(12,aI ((sll a0).length:Int)),(13,aI y6)] (sq (rgd (shd 2 [(17,aI y6),(16,.pv (zc zn a0))] (by kernel_rfl) ?_))))))))
    obtain ⟨x9,h10,hm⟩:=bs hm
    refine dvd 18 (v:=.pv (.ptr (zn x9) 0)) (Qy zn a0 .i64 t25 t86 h10 rfl (by kernel_rfl)) (by kernel_rfl) (shd 3 [(21,aI y6),(20,.pv (zc zn a1)),(19,.agg [aI x9.fOut,aB x9.fDesc])] (by kernel_rfl) ?_)
    obtain ⟨x11,h12,hm⟩:=bs hm
    refine dvd 22 (v:=.pv (.ptr (zn x11) 0)) (Qy zn a1 .i64 t25 t86 h12 rfl (by kernel_rfl)) (by kernel_rfl) (shd 2 [(24,aB (!((x9.fOut == x11.fOut) && ((x9.fDesc == x11.fDesc) && true)))),(23,.agg [aI x11.fOut,aB x11.fDesc])] (by kernel_rfl) (find [(0,.pv (zc zn a0)),(1,.pv (zc zn a1)),(12,aI ((sll a0).length:Int)),(13,aI y6),(24,aB (!((x9.fOut == x11.fOut) && ((x9.fDesc == x11.fDesc) && true))))] rfl (by kernel_rfl) (by kernel_rfl) ?_))
    rcases zf hm with ⟨h13,hm⟩ | ⟨h13,hm⟩
    ·
     refine c1 h13 (sq (dn [(4,aB false)] (wp_ret ?_)))
     obtain rfl:=Option.some.inj hm
     exact ⟨trivial,by kernel_rfl⟩
    ·
     refine c0 h13 (wp_skip (dn [(0,.pv (zc zn a0)),(1,.pv (zc zn a1)),(12,aI ((sll a0).length:Int)),(13,aI (IntKind.wrap .i64 (y6+1)))] ?_))
     exact ⟨_,_,qd [(0,.pv (zc zn a0)),(1,.pv (zc zn a1)),(12,aI ((sll a0).length:Int)),(13,aI (IntKind.wrap .i64 (y6+1)))] [] (by kernel_rfl),⟨(IntKind.wrap .i64 (y6+1)),hm,rfl,rfl⟩⟩
   ·
    refine c0 h8 (wp_exit ?_)
    exact ⟨y6,(decide (y6 < ((sll a0).length:Int))),hm,rfl,rfl⟩
theorem aeh {n:Nat} {a0:Nat} {r:Bool} (hm:acE n a0=some r):
    call G n 228 [aF a0] []=some (.ret (aB r),[]):=by
  unfold acE at hm
  obtain ⟨n,rfl,h0⟩:=zp hm
  replace hm:=h0; clear h0
  refine Zt 6 [(0,aF a0)] func228 rfl (by kernel_rfl) (sq (dn [(0,aF a0)] (sq (dn [(2,aB ((FloatKind.format .f64).order a0 a0 != some .eq))] (wp_ret ?_)))))
  obtain rfl:=Option.some.inj hm
  exact ⟨trivial,by kernel_rfl⟩
abbrev zc12 (p0:zq):List AV:=[aI p0.fKind,aI p0.fInt,aF (Int.toNat 9221120237041090561),aS p0.fText]
theorem ae9 {n:Nat} {a0:zq} {r:zq} (hm:ab1 n a0=some r):
    call G n 189 [.agg (zc6 a0)] []=some (.ret (.agg [aI r.fKind,aI r.fInt,aF r.fFloat,aS r.fText]),[]):=by
  unfold ab1 at hm
  obtain ⟨n,rfl,h0⟩:=zp hm
  replace hm:=h0; clear h0
  refine Zt 30 [(0,.agg (zc6 a0))] func189 rfl (by kernel_rfl) (sq (det [(1,.ptr 0 0),(2,.ptr 1 0)] [.box (zc6 a0) false,.box [aI 0,aI 0,aF 0,aS ByteArray.empty] false] (by kernel_rfl) (sq (bq (sq (rg (s1 1 [(4,.agg (zc6 a0))] ?_)))))))
  obtain ⟨x1,h2,hm⟩:=bs hm
  refine dv 5 (zF (by kernel_rfl) (afl h2) (by kernel_rfl) (by kernel_rfl) (by kernel_rfl)) (by kernel_rfl) (fq 2 [(1,.ptr 0 0),(2,.ptr 1 0),(3,aB (!x1))] ?_)
  rcases zf hm with ⟨h3,hm⟩ | ⟨h3,hm⟩
  ·
   refine c1 h3 (sq (dn [(2,.ptr 1 0)] (wp_ret ?_)))
   obtain rfl:=Option.some.inj hm
   exact ⟨trivial,by kernel_rfl⟩
  ·
   refine c0 h3 ?_
   obtain ⟨k5,hk5,hm⟩:=zw hm
   refine mid (fun t H=>(∃ (y4:Bool),k5 y4=some r∧t=mk 30 [(1,.ptr 0 0),(2,.ptr 1 0),(8,aB y4)]∧H=[.box (zc6 a0) false,.box [aI 0,aI 0,aF 0,aS ByteArray.empty] false])) ?_ ?_
   ·
    rintro _ _ ⟨y4,hm,rfl,rfl⟩
    subst hk5
    rcases zf hm with ⟨h6,hm⟩ | ⟨h6,hm⟩
    ·
     refine c1 h6 (rg (s1 1 [(17,aF (Int.toNat 9221120237041090561))] (stf 2 [(1,.ptr 0 0),(2,.ptr 1 0)] [.box (zc12 a0) false,.box [aI 0,aI 0,aF 0,aS ByteArray.empty] false] (by kernel_rfl) (sq (det [(2,.ptr 1 0)] [.box (zc12 a0) false,.box (zc12 a0) false] (by kernel_rfl) (wp_ret ?_))))))
     obtain rfl:=Option.some.inj hm
     exact ⟨trivial,by kernel_rfl⟩
    ·
     refine c0 h6 (sq (rg (s1 4 [(23,aB (a0.fKind == 3)),(22,aB (a0.fKind == 3)),(21,aI a0.fKind),(20,.ptr 0 0)] ?_)))
     refine segP (a0.fKind == 3) [23,22] (fun b=>[(27,aB (b && ((FloatKind.format .f64).order a0.fFloat 0 == some .eq))),(26,ifA b (aB ((FloatKind.format .f64).order a0.fFloat 0 == some .eq)) (.undef)),(25,ifA b (aF a0.fFloat) (.undef)),(24,ifA b (.ptr 0 2) (.undef))]) 4 (by kernel_rfl) (by kernel_rfl) (by kernel_rfl) (fq 1 [(1,.ptr 0 0),(2,.ptr 1 0),(19,aB ((a0.fKind == 3) && ((FloatKind.format .f64).order a0.fFloat 0 == some .eq)))] ?_)
     rcases zf hm with ⟨h7,hm⟩ | ⟨h7,hm⟩
     ·
      refine c1 h7 (det [(1,.ptr 0 0),(2,.ptr 1 0)] [.box [aI a0.fKind,aI a0.fInt,aF 0,aS a0.fText] false,.box [aI 0,aI 0,aF 0,aS ByteArray.empty] false] (by kernel_rfl) (sq (det [(2,.ptr 1 0)] [.box [aI a0.fKind,aI a0.fInt,aF 0,aS a0.fText] false,.box [aI a0.fKind,aI a0.fInt,aF 0,aS a0.fText] false] (by kernel_rfl) (wp_ret ?_))))
      obtain rfl:=Option.some.inj hm
      exact ⟨trivial,by kernel_rfl⟩
     ·
      refine c0 h7 (wp_skip (sq (det [(2,.ptr 1 0)] [.box (zc6 a0) false,.box (zc6 a0) false] (by kernel_rfl) (wp_ret ?_))))
      obtain rfl:=Option.some.inj hm
      exact ⟨trivial,by kernel_rfl⟩
   refine rg (s1 4 [(12,aB (a0.fKind == 3)),(11,aB (a0.fKind == 3)),(10,aI a0.fKind),(9,.ptr 0 0)] ?_)
   rcases zf hm with ⟨h8,hm⟩ | ⟨h8,hm⟩
   ·
    refine known [12,11] h8 (by kernel_rfl) (s1 2 [(14,aF a0.fFloat),(13,.ptr 0 2)] ?_)
    obtain ⟨x9,h10,hm⟩:=bs hm
    refine dv 15 (zF (by kernel_rfl) (aeh h10) (by kernel_rfl) (by kernel_rfl) (by kernel_rfl)) (by kernel_rfl) (fq 2 [(1,.ptr 0 0),(2,.ptr 1 0),(8,aB x9)] ?_)
    exact ⟨x9,hm,rfl,rfl⟩
   ·
    refine known [12,11] h8 (by kernel_rfl) (fq 5 [(1,.ptr 0 0),(2,.ptr 1 0),(8,aB false)] ?_)
    exact ⟨false,hm,rfl,rfl⟩
theorem aez {n:Nat} {a0:Int} {r:Bool} (hm:abK n a0=some r):
    call G n 252 [aI a0] []=some (.ret (aB r),[]):=by
  unfold abK at hm
  obtain ⟨n,rfl,h0⟩:=zp hm
  replace hm:=h0; clear h0
  refine Zt 6 [(0,aI a0)] func252 rfl (by kernel_rfl) (sq (dn [(0,aI a0)] (sq (dn [(2,aB (a0 != a0))] (wp_ret ?_)))))
  obtain rfl:=Option.some.inj hm
  exact ⟨trivial,by kernel_rfl⟩
theorem agi {n:Nat} {a0:Int} {a1:Int} {r:Int} (hm:aaO n a0 a1=some r):
    call G n 234 [aI a0,aI a1] []=some (.ret (aI r),[]):=by
  unfold aaO at hm
  obtain ⟨n,rfl,h0⟩:=zp hm
  replace hm:=h0; clear h0
  refine Zt 20 [(0,aI a0),(1,aI a1)] func234 rfl (by kernel_rfl) (sq (dn [(0,aI a0),(1,aI a1)] (sq (rg (s1 1 [(7,aI a0)] ?_)))))
  obtain ⟨x1,h2,hm⟩:=bs hm
  refine dv 8 (zF (by kernel_rfl) (aez h2) (by kernel_rfl) (by kernel_rfl) (by kernel_rfl)) (by kernel_rfl) (fq 1 [(0,aI a0),(1,aI a1),(5,aB x1)] (sq (rg (s1 1 [(9,aI a1)] ?_))))
  obtain ⟨x3,h4,hm⟩:=bs hm
  refine dv 10 (zF (by kernel_rfl) (aez h4) (by kernel_rfl) (by kernel_rfl) (by kernel_rfl)) (by kernel_rfl) (fq 1 [(0,aI a0),(1,aI a1),(5,aB x1),(6,aB x3)] ?_)
  refine sq (sq (dn [(0,aI a0),(1,aI a1),(6,aB x3),(11,aB x1)] ?_))
  rcases zf hm with ⟨h5,hm⟩ | ⟨h5,hm⟩
  ·
   refine c1 h5 (sq (sq (dn [(12,aB x3)] ?_)))
   rcases zf hm with ⟨h6,hm⟩ | ⟨h6,hm⟩
   ·
    refine c1 h6 (sq (dn [(4,aI 0)] (wp_ret ?_)))
    obtain rfl:=Option.some.inj hm
    exact ⟨trivial,by kernel_rfl⟩
   ·
    refine c0 h6 (wp_skip (sq (dn [(4,aI (-1))] (wp_ret ?_))))
    obtain rfl:=Option.some.inj hm
    exact ⟨trivial,by kernel_rfl⟩
  ·
   refine c0 h5 (wp_skip ?_)
   refine sq (sq (dn [(0,aI a0),(1,aI a1),(13,aB x3)] ?_))
   rcases zf hm with ⟨h7,hm⟩ | ⟨h7,hm⟩
   ·
    refine c1 h7 (sq (dn [(4,aI 1)] (wp_ret ?_)))
    obtain rfl:=Option.some.inj hm
    exact ⟨trivial,by kernel_rfl⟩
   ·
    refine c0 h7 (wp_skip (sq (sq (dn [(0,aI a0),(1,aI a1),(16,aB (decide (a0 < a1)))] ?_))))
    rcases zf hm with ⟨h8,hm⟩ | ⟨h8,hm⟩
    ·
     refine c1 h8 (sq (dn [(4,aI (-1))] (wp_ret ?_)))
     obtain rfl:=Option.some.inj hm
     exact ⟨trivial,by kernel_rfl⟩
    ·
     refine c0 h8 (wp_skip (sq (sq (dn [(19,aB (decide (a0 > a1)))] ?_))))
     rcases zf hm with ⟨h9,hm⟩ | ⟨h9,hm⟩
     ·
      refine c1 h9 (sq (dn [(4,aI 1)] (wp_ret ?_)))
      obtain rfl:=Option.some.inj hm
      exact ⟨trivial,by kernel_rfl⟩
     ·
      refine c0 h9 (wp_skip (sq (dn [(4,aI 0)] (wp_ret ?_))))
      obtain rfl:=Option.some.inj hm
      exact ⟨trivial,by kernel_rfl⟩
theorem ah6 {n:Nat} {a0:Nat} {a1:Nat} {r:Int} (hm:adp n a0 a1=some r):
    call G n 235 [aF a0,aF a1] []=some (.ret (aI r),[]):=by
  unfold adp at hm
  obtain ⟨n,rfl,h0⟩:=zp hm
  replace hm:=h0; clear h0
  refine Zt 28 [(0,aF a0),(1,aF a1)] func235 rfl (by kernel_rfl) (sq (dn [(0,aF a0),(1,aF a1)] (sq (sq (rg (s1 1 [(7,aF a0)] ?_))))))
  obtain ⟨x1,h2,hm⟩:=bs hm
  refine dv 8 (zF (by kernel_rfl) (aeh h2) (by kernel_rfl) (by kernel_rfl) (by kernel_rfl)) (by kernel_rfl) (s1 1 [(9,aF a1)] ?_)
  obtain ⟨x3,h4,hm⟩:=bs hm
  refine dv 10 (zF (by kernel_rfl) (aeh h4) (by kernel_rfl) (by kernel_rfl) (by kernel_rfl)) (by kernel_rfl) (fq 2 [(0,aF a0),(1,aF a1),(5,aB x1),(6,aB x3)] (bq ?_))
  refine sq (rg (s1 2 [(13,aB x1),(12,aB x1)] ?_))
  refine segP x1 [13,12,5] (fun b=>[(15,aB (b && x3)),(14,ifA b (aB x3) (.undef))]) 2 (by kernel_rfl) (by kernel_rfl) (by kernel_rfl) (fq 1 [(0,aF a0),(1,aF a1),(5,aB x1),(6,aB x3),(11,aB (x1 && x3))] ?_)
  rcases zf hm with ⟨h5,hm⟩ | ⟨h5,hm⟩
  ·
   refine c1 h5 (sq (dn [(4,aI 0)] (wp_ret ?_)))
   obtain rfl:=Option.some.inj hm
   exact ⟨trivial,by kernel_rfl⟩
  ·
   refine c0 h5 (sq (dn [(0,aF a0),(1,aF a1),(6,aB x3),(16,aB x1)] ?_))
   rcases zf hm with ⟨h6,hm⟩ | ⟨h6,hm⟩
   ·
    refine c1 h6 (sq (dn [(4,aI 1)] (wp_ret ?_)))
    obtain rfl:=Option.some.inj hm
    exact ⟨trivial,by kernel_rfl⟩
   ·
    refine c0 h6 (sq (dn [(0,aF a0),(1,aF a1),(18,aB x3)] ?_))
    rcases zf hm with ⟨h7,hm⟩ | ⟨h7,hm⟩
    ·
     refine c1 h7 (sq (dn [(4,aI (-1))] (wp_ret ?_)))
     obtain rfl:=Option.some.inj hm
     exact ⟨trivial,by kernel_rfl⟩
    ·
     refine c0 h7 (sq (dn [(0,aF a0),(1,aF a1),(20,aB ((FloatKind.format .f64).order a0 a1 == some .lt))] ?_))
     rcases zf hm with ⟨h8,hm⟩ | ⟨h8,hm⟩
     ·
      refine c1 h8 (sq (dn [(4,aI (-1))] (wp_ret ?_)))
      obtain rfl:=Option.some.inj hm
      exact ⟨trivial,by kernel_rfl⟩
     ·
      refine c0 h8 (sq (dn [(24,aB ((FloatKind.format .f64).order a0 a1 == some .gt))] ?_))
      rcases zf hm with ⟨h9,hm⟩ | ⟨h9,hm⟩
      ·
       refine c1 h9 (sq (dn [(4,aI 1)] (wp_ret ?_)))
       obtain rfl:=Option.some.inj hm
       exact ⟨trivial,by kernel_rfl⟩
      ·
       refine c0 h9 (wp_skip (sq (dn [(4,aI 0)] (wp_ret ?_))))
       obtain rfl:=Option.some.inj hm
       exact ⟨trivial,by kernel_rfl⟩
theorem adh {n:Nat} {a0:ByteArray} {r:Bool} (hm:aaj n a0=some r):
    call G n 253 [aS a0] []=some (.ret (aB r),[]):=by
  unfold aaj at hm
  obtain ⟨n,rfl,h0⟩:=zp hm
  replace hm:=h0; clear h0
  refine Zt 6 [(0,aS a0)] func253 rfl (by kernel_rfl) (sq (dn [(0,aS a0)] (sq (dn [(2,aB (!(sEq a0 a0)))] (wp_ret ?_)))))
  obtain rfl:=Option.some.inj hm
  exact ⟨trivial,by kernel_rfl⟩
theorem aeY {n:Nat} {a0:ByteArray} {a1:ByteArray} {r:Int} (hm:QN n a0 a1=some r):
    call G n 236 [aS a0,aS a1] []=some (.ret (aI r),[]):=by
  unfold QN at hm
  obtain ⟨n,rfl,h0⟩:=zp hm
  replace hm:=h0; clear h0
  refine Zt 20 [(0,aS a0),(1,aS a1)] func236 rfl (by kernel_rfl) (sq (dn [(0,aS a0),(1,aS a1)] (sq (rg (s1 1 [(7,aS a0)] ?_)))))
  obtain ⟨x1,h2,hm⟩:=bs hm
  refine dv 8 (zF (by kernel_rfl) (adh h2) (by kernel_rfl) (by kernel_rfl) (by kernel_rfl)) (by kernel_rfl) (fq 1 [(0,aS a0),(1,aS a1),(5,aB x1)] (sq (rg (s1 1 [(9,aS a1)] ?_))))
  obtain ⟨x3,h4,hm⟩:=bs hm
  refine dv 10 (zF (by kernel_rfl) (adh h4) (by kernel_rfl) (by kernel_rfl) (by kernel_rfl)) (by kernel_rfl) (fq 1 [(0,aS a0),(1,aS a1),(5,aB x1),(6,aB x3)] ?_)
  refine sq (sq (dn [(0,aS a0),(1,aS a1),(6,aB x3),(11,aB x1)] ?_))
  rcases zf hm with ⟨h5,hm⟩ | ⟨h5,hm⟩
  ·
   refine c1 h5 (sq (sq (dn [(12,aB x3)] ?_)))
   rcases zf hm with ⟨h6,hm⟩ | ⟨h6,hm⟩
   ·
    refine c1 h6 (sq (dn [(4,aI 0)] (wp_ret ?_)))
    obtain rfl:=Option.some.inj hm
    exact ⟨trivial,by kernel_rfl⟩
   ·
    refine c0 h6 (wp_skip (sq (dn [(4,aI (-1))] (wp_ret ?_))))
    obtain rfl:=Option.some.inj hm
    exact ⟨trivial,by kernel_rfl⟩
  ·
   refine c0 h5 (wp_skip ?_)
   refine sq (sq (dn [(0,aS a0),(1,aS a1),(13,aB x3)] ?_))
   rcases zf hm with ⟨h7,hm⟩ | ⟨h7,hm⟩
   ·
    refine c1 h7 (sq (dn [(4,aI 1)] (wp_ret ?_)))
    obtain rfl:=Option.some.inj hm
    exact ⟨trivial,by kernel_rfl⟩
   ·
    refine c0 h7 (wp_skip (sq (sq (dn [(0,aS a0),(1,aS a1),(16,aB (sLt a0 a1))] ?_))))
    rcases zf hm with ⟨h8,hm⟩ | ⟨h8,hm⟩
    ·
     refine c1 h8 (sq (dn [(4,aI (-1))] (wp_ret ?_)))
     obtain rfl:=Option.some.inj hm
     exact ⟨trivial,by kernel_rfl⟩
    ·
     refine c0 h8 (wp_skip (sq (sq (dn [(19,aB (!(sLt a0 a1 || sEq a0 a1)))] ?_))))
     rcases zf hm with ⟨h9,hm⟩ | ⟨h9,hm⟩
     ·
      refine c1 h9 (sq (dn [(4,aI 1)] (wp_ret ?_)))
      obtain rfl:=Option.some.inj hm
      exact ⟨trivial,by kernel_rfl⟩
     ·
      refine c0 h9 (wp_skip (sq (dn [(4,aI 0)] (wp_ret ?_))))
      obtain rfl:=Option.some.inj hm
      exact ⟨trivial,by kernel_rfl⟩
theorem ady {n:Nat} {a0:Int} {r:Bool} (hm:aaL n a0=some r):
    call G n 254 [aI a0] []=some (.ret (aB r),[]):=by
  unfold aaL at hm
  obtain ⟨n,rfl,h0⟩:=zp hm
  replace hm:=h0; clear h0
  refine Zt 6 [(0,aI a0)] func254 rfl (by kernel_rfl) (sq (dn [(0,aI a0)] (sq (dn [(2,aB (a0 != a0))] (wp_ret ?_)))))
  obtain rfl:=Option.some.inj hm
  exact ⟨trivial,by kernel_rfl⟩
theorem afJ {n:Nat} {a0:Int} {a1:Int} {r:Int} (hm:Q6 n a0 a1=some r):
    call G n 237 [aI a0,aI a1] []=some (.ret (aI r),[]):=by
  unfold Q6 at hm
  obtain ⟨n,rfl,h0⟩:=zp hm
  replace hm:=h0; clear h0
  refine Zt 20 [(0,aI a0),(1,aI a1)] func237 rfl (by kernel_rfl) (sq (dn [(0,aI a0),(1,aI a1)] (sq (rg (s1 1 [(7,aI a0)] ?_)))))
  obtain ⟨x1,h2,hm⟩:=bs hm
  refine dv 8 (zF (by kernel_rfl) (ady h2) (by kernel_rfl) (by kernel_rfl) (by kernel_rfl)) (by kernel_rfl) (fq 1 [(0,aI a0),(1,aI a1),(5,aB x1)] (sq (rg (s1 1 [(9,aI a1)] ?_))))
  obtain ⟨x3,h4,hm⟩:=bs hm
  refine dv 10 (zF (by kernel_rfl) (ady h4) (by kernel_rfl) (by kernel_rfl) (by kernel_rfl)) (by kernel_rfl) (fq 1 [(0,aI a0),(1,aI a1),(5,aB x1),(6,aB x3)] ?_)
  refine sq (sq (dn [(0,aI a0),(1,aI a1),(6,aB x3),(11,aB x1)] ?_))
  rcases zf hm with ⟨h5,hm⟩ | ⟨h5,hm⟩
  ·
   refine c1 h5 (sq (sq (dn [(12,aB x3)] ?_)))
   rcases zf hm with ⟨h6,hm⟩ | ⟨h6,hm⟩
   ·
    refine c1 h6 (sq (dn [(4,aI 0)] (wp_ret ?_)))
    obtain rfl:=Option.some.inj hm
    exact ⟨trivial,by kernel_rfl⟩
   ·
    refine c0 h6 (wp_skip (sq (dn [(4,aI (-1))] (wp_ret ?_))))
    obtain rfl:=Option.some.inj hm
    exact ⟨trivial,by kernel_rfl⟩
  ·
   refine c0 h5 (wp_skip ?_)
   refine sq (sq (dn [(0,aI a0),(1,aI a1),(13,aB x3)] ?_))
   rcases zf hm with ⟨h7,hm⟩ | ⟨h7,hm⟩
   ·
    refine c1 h7 (sq (dn [(4,aI 1)] (wp_ret ?_)))
    obtain rfl:=Option.some.inj hm
    exact ⟨trivial,by kernel_rfl⟩
   ·
    refine c0 h7 (wp_skip (sq (sq (dn [(0,aI a0),(1,aI a1),(16,aB (decide (a0 < a1)))] ?_))))
    rcases zf hm with ⟨h8,hm⟩ | ⟨h8,hm⟩
    ·
     refine c1 h8 (sq (dn [(4,aI (-1))] (wp_ret ?_)))
     obtain rfl:=Option.some.inj hm
     exact ⟨trivial,by kernel_rfl⟩
    ·
     refine c0 h8 (wp_skip (sq (sq (dn [(19,aB (decide (a0 > a1)))] ?_))))
     rcases zf hm with ⟨h9,hm⟩ | ⟨h9,hm⟩
     ·
      refine c1 h9 (sq (dn [(4,aI 1)] (wp_ret ?_)))
      obtain rfl:=Option.some.inj hm
      exact ⟨trivial,by kernel_rfl⟩
     ·
      refine c0 h9 (wp_skip (sq (dn [(4,aI 0)] (wp_ret ?_))))
      obtain rfl:=Option.some.inj hm
      exact ⟨trivial,by kernel_rfl⟩
theorem akB {n:Nat} {a0:zq} {a1:zq} {r:Int} (hm:aeD n a0 a1=some r):
    call G n 195 [.agg (zc6 a0),.agg (zc6 a1)] []=some (.ret (aI r),[]):=by
  unfold aeD at hm
  obtain ⟨n,rfl,h0⟩:=zp hm
  replace hm:=h0; clear h0
  refine Zt 40 [(0,.agg (zc6 a0)),(1,.agg (zc6 a1))] func195 rfl (by kernel_rfl) (sq (det [(2,.ptr 0 0),(3,.ptr 1 0)] [.box (zc6 a0) false,.box (zc6 a1) false] (by kernel_rfl) (sq (rgd (shd 1 [(5,.agg (zc6 a0))] (by kernel_rfl) ?_)))))
  obtain ⟨x1,h2,hm⟩:=bs hm
  refine dvd 6 (zF (by kernel_rfl) (ae9 h2) (by kernel_rfl) (by kernel_rfl) (by kernel_rfl)) (by kernel_rfl) (shd 1 [(7,.agg (zc6 a1))] (by kernel_rfl) ?_)
  obtain ⟨x3,h4,hm⟩:=bs hm
  refine dvd 8 (zF (by kernel_rfl) (ae9 h4) (by kernel_rfl) (by kernel_rfl) (by kernel_rfl)) (by kernel_rfl) (std 2 [] [.box (zc6 x1) false,.box (zc6 x3) false] (by kernel_rfl) (find [(2,.ptr 0 0),(3,.ptr 1 0)] rfl (by kernel_rfl) (by kernel_rfl) ?_))
  refine sq (sq (dn [(2,.ptr 0 0),(3,.ptr 1 0),(13,aB (x1.fKind != x3.fKind))] ?_))
  rcases zf hm with ⟨h5,hm⟩ | ⟨h5,hm⟩
  ·
   refine c1 h5 (sq (rg (s1 4 [(17,aI x3.fKind),(16,.ptr 1 0),(15,aI x1.fKind),(14,.ptr 0 0)] ?_)))
   obtain ⟨x6,h7,hm⟩:=bs hm
   refine dv 18 (zF (by kernel_rfl) (agi h7) (by kernel_rfl) (by kernel_rfl) (by kernel_rfl)) (by kernel_rfl) (fq 1 [(4,aI x6)] (wp_ret ?_))
   obtain rfl:=Option.some.inj hm
   exact ⟨trivial,by kernel_rfl⟩
  ·
   refine c0 h5 (wp_skip (sq (sq (dn [(2,.ptr 0 0),(3,.ptr 1 0),(20,aI x1.fKind)] (bq (sq (dn [(2,.ptr 0 0),(3,.ptr 1 0),(20,aI x1.fKind),(21,aB (x1.fKind == 3))] ?_)))))))
   rcases zf hm with ⟨h8,hm⟩ | ⟨h8,hm⟩
   ·
    refine c1 h8 (sq (rg (s1 4 [(26,aF x3.fFloat),(25,.ptr 1 2),(24,aF x1.fFloat),(23,.ptr 0 2)] ?_)))
    obtain ⟨x9,h10,hm⟩:=bs hm
    refine dv 27 (zF (by kernel_rfl) (ah6 h10) (by kernel_rfl) (by kernel_rfl) (by kernel_rfl)) (by kernel_rfl) (fq 1 [(4,aI x9)] (wp_ret ?_))
    obtain rfl:=Option.some.inj hm
    exact ⟨trivial,by kernel_rfl⟩
   ·
    refine c0 h8 (sq (dn [(2,.ptr 0 0),(3,.ptr 1 0),(28,aB (x1.fKind == 4))] ?_))
    rcases zf hm with ⟨h11,hm⟩ | ⟨h11,hm⟩
    ·
     refine c1 h11 (sq (rg (s1 4 [(33,aS x3.fText),(32,.ptr 1 3),(31,aS x1.fText),(30,.ptr 0 3)] ?_)))
     obtain ⟨x12,h13,hm⟩:=bs hm
     refine dv 34 (zF (by kernel_rfl) (aeY h13) (by kernel_rfl) (by kernel_rfl) (by kernel_rfl)) (by kernel_rfl) (fq 1 [(4,aI x12)] (wp_ret ?_))
     obtain rfl:=Option.some.inj hm
     exact ⟨trivial,by kernel_rfl⟩
    ·
     refine c0 h11 (wp_skip (sq (rg (s1 4 [(38,aI x3.fInt),(37,.ptr 1 1),(36,aI x1.fInt),(35,.ptr 0 1)] ?_))))
     obtain ⟨x14,h15,hm⟩:=bs hm
     refine dv 39 (zF (by kernel_rfl) (afJ h15) (by kernel_rfl) (by kernel_rfl) (by kernel_rfl)) (by kernel_rfl) (fq 1 [(4,aI x14)] (wp_ret ?_))
     obtain rfl:=Option.some.inj hm
     exact ⟨trivial,by kernel_rfl⟩
theorem ajK {n:Nat} {a0:zq} {a1:zq} {r:Bool} (hm:adI n a0 a1=some r):
    call G n 155 [.agg (zc6 a0),.agg (zc6 a1)] []=some (.ret (aB r),[]):=by
  unfold adI at hm
  obtain ⟨n,rfl,h0⟩:=zp hm
  replace hm:=h0; clear h0
  refine Zt 9 [(0,.agg (zc6 a0)),(1,.agg (zc6 a1))] func155 rfl (by kernel_rfl) (sq (det [(2,.ptr 0 0),(3,.ptr 1 0)] [.box (zc6 a0) false,.box (zc6 a1) false] (by kernel_rfl) (sq (rg (s1 2 [(6,.agg (zc6 a1)),(5,.agg (zc6 a0))] ?_)))))
  obtain ⟨x1,h2,hm⟩:=bs hm
  refine dv 7 (zF (by kernel_rfl) (akB h2) (by kernel_rfl) (by kernel_rfl) (by kernel_rfl)) (by kernel_rfl) (fq 2 [(4,aB (x1 == 0))] (wp_ret ?_))
  obtain rfl:=Option.some.inj hm
  exact ⟨trivial,by kernel_rfl⟩
theorem ab7 {rc_slices_EqualFunc_Expr_expr_Same:(Nat→(Option (List zd))→(Option (List zd))→Option (Bool))} (ih_slices_EqualFunc_Expr_expr_Same:∀ {n:Nat} {a0:(Option (List zd))} {a1:(Option (List zd))} {r:Bool} (hm:rc_slices_EqualFunc_Expr_expr_Same n a0 a1=some r),call G n 90 [.pv (zc za a0),.pv (zc za a1),.pv (.fn 88 [] [])] []=some (.ret (aB r),[])) {n:Nat} {a0:zh} {a1:zh} {r:Bool} (hm:qy rc_slices_EqualFunc_Expr_expr_Same n a0 a1=some r):
    call G n 88 [.agg (zc7 a0),.agg (zc7 a1)] []=some (.ret (aB r),[]):=by
  unfold qy at hm
  obtain ⟨n,rfl,h0⟩:=zp hm
  replace hm:=h0; clear h0
  refine Zt 47 [(0,.agg (zc7 a0)),(1,.agg (zc7 a1))] func88 rfl (by kernel_rfl) (sq (det [(2,.ptr 0 0),(3,.ptr 1 0)] [.box (zc7 a0) false,.box (zc7 a1) false] (by kernel_rfl) (sq (rg (s1 6 [(10,aB (a0.fKind == a1.fKind)),(9,aB (a0.fKind == a1.fKind)),(8,aI a1.fKind),(7,.ptr 1 0),(6,aI a0.fKind),(5,.ptr 0 0)] ?_)))))
  refine segP (a0.fKind == a1.fKind) [10,9] (fun b=>[(16,aB (b && (a0.fRel == a1.fRel))),(15,ifA b (aB (a0.fRel == a1.fRel)) (.undef)),(14,ifA b (aI a1.fRel) (.undef)),(13,ifA b (.ptr 1 1) (.undef)),(12,ifA b (aI a0.fRel) (.undef)),(11,ifA b (.ptr 0 1) (.undef))]) 6 (by kernel_rfl) (by kernel_rfl) (by kernel_rfl) (s1 1 [(17,aB ((a0.fKind == a1.fKind) && (a0.fRel == a1.fRel)))] ?_)
  refine segP ((a0.fKind == a1.fKind) && (a0.fRel == a1.fRel)) [17,16] (fun b=>[(23,aB (b && (a0.fCol == a1.fCol))),(22,ifA b (aB (a0.fCol == a1.fCol)) (.undef)),(21,ifA b (aI a1.fCol) (.undef)),(20,ifA b (.ptr 1 2) (.undef)),(19,ifA b (aI a0.fCol) (.undef)),(18,ifA b (.ptr 0 2) (.undef))]) 6 (by kernel_rfl) (by kernel_rfl) (by kernel_rfl) (s1 1 [(24,aB (((a0.fKind == a1.fKind) && (a0.fRel == a1.fRel)) && (a0.fCol == a1.fCol)))] ?_)
  refine segP (((a0.fKind == a1.fKind) && (a0.fRel == a1.fRel)) && (a0.fCol == a1.fCol)) [24,23] (fun b=>[(32,aB (b && (a0.fConst.fKind == a1.fConst.fKind))),(31,ifA b (aB (a0.fConst.fKind == a1.fConst.fKind)) (.undef)),(30,ifA b (aI a1.fConst.fKind) (.undef)),(29,ifA b (.ptr 1 3) (.undef)),(28,ifA b (.ptr 1 3) (.undef)),(27,ifA b (aI a0.fConst.fKind) (.undef)),(26,ifA b (.ptr 0 3) (.undef)),(25,ifA b (.ptr 0 3) (.undef))]) 8 (by kernel_rfl) (by kernel_rfl) (by kernel_rfl) (s1 1 [(33,aB ((((a0.fKind == a1.fKind) && (a0.fRel == a1.fRel)) && (a0.fCol == a1.fCol)) && (a0.fConst.fKind == a1.fConst.fKind)))] ?_)
  rcases zf hm with ⟨h1,hm⟩ | ⟨h1,hm⟩
  ·
   refine known [33,32] h1 (by kernel_rfl) (s1 4 [(37,.agg (zc8 a1)),(36,.ptr 1 3),(35,.agg (zc8 a0)),(34,.ptr 0 3)] ?_)
   obtain ⟨x2,h3,hm⟩:=bs hm
   refine dv 38 (zF (by kernel_rfl) (ajK h3) (by kernel_rfl) (by kernel_rfl) (by kernel_rfl)) (by kernel_rfl) (s1 2 [(40,aB x2),(39,aB x2)] ?_)
   rcases zf hm with ⟨h4,hm⟩ | ⟨h4,hm⟩
   ·
    refine known [40,39,38] h4 (by kernel_rfl) (s1 4 [(44,.pv (zc za a1.fKids)),(43,.ptr 1 7),(42,.pv (zc za a0.fKids)),(41,.ptr 0 7)] ?_)
    obtain ⟨x5,h6,hm⟩:=bs hm
    refine dv 45 (zF (by kernel_rfl) (ih_slices_EqualFunc_Expr_expr_Same h6) (by kernel_rfl) (by kernel_rfl) (by kernel_rfl)) (by kernel_rfl) (fq 2 [(4,aB x5)] (wp_ret ?_))
    obtain rfl:=Option.some.inj hm
    exact ⟨trivial,by kernel_rfl⟩
   ·
    refine known [40,39,38] h4 (by kernel_rfl) (fq 7 [(4,aB false)] (wp_ret ?_))
    obtain rfl:=Option.some.inj hm
    exact ⟨trivial,by kernel_rfl⟩
  ·
   refine known [33,32] h1 (by kernel_rfl) (fq 14 [(4,aB false)] (wp_ret ?_))
   obtain rfl:=Option.some.inj hm
   exact ⟨trivial,by kernel_rfl⟩
theorem abH {rc_slices_EqualFunc_Expr_expr_Same:(Nat→(Option (List zd))→(Option (List zd))→Option (Bool))} (ih_slices_EqualFunc_Expr_expr_Same:∀ {n:Nat} {a0:(Option (List zd))} {a1:(Option (List zd))} {r:Bool} (hm:rc_slices_EqualFunc_Expr_expr_Same n a0 a1=some r),call G n 90 [.pv (zc za a0),.pv (zc za a1),.pv (.fn 88 [] [])] []=some (.ret (aB r),[])) {n:Nat} {a0:(Option (List zd))} {a1:(Option (List zd))} {r:Bool} (hm:ZS rc_slices_EqualFunc_Expr_expr_Same n a0 a1=some r):
    call G n 90 [.pv (zc za a0),.pv (zc za a1),.pv (.fn 88 [] [])] []=some (.ret (aB r),[]):=by
  unfold ZS at hm
  obtain ⟨n,rfl,h0⟩:=zp hm
  replace hm:=h0; clear h0
  refine Zt 32 [(0,.pv (zc za a0)),(1,.pv (zc za a1)),(2,.pv (.fn 88 [] []))] func90 rfl (by kernel_rfl) (sq (dn [(0,.pv (zc za a0)),(1,.pv (zc za a1)),(2,.pv (.fn 88 [] []))] ?_))
  refine sq (sq (rg (s1 1 [(10,.pv (zc za a0))] (dv 11 (v:=aI ((sll a0).length:Int)) (zC za a0 t23 (by kernel_rfl)) (by kernel_rfl) (s1 1 [(12,.pv (zc za a1))] (dv 13 (v:=aI ((sll a1).length:Int)) (zC za a1 t23 (by kernel_rfl)) (by kernel_rfl) (fq 1 [(0,.pv (zc za a0)),(1,.pv (zc za a1)),(2,.pv (.fn 88 [] [])),(14,aB (((sll a0).length:Int) != ((sll a1).length:Int)))] ?_)))))))
  rcases zf hm with ⟨h1,hm⟩ | ⟨h1,hm⟩
  ·
   refine c1 h1 (sq (dn [(6,aB false)] (wp_ret ?_)))
   obtain rfl:=Option.some.inj hm
   exact ⟨trivial,by kernel_rfl⟩
  ·
   refine c0 h1 (wp_skip ?_)
   obtain ⟨k4,hk4,hm⟩:=zw hm
   refine mid (fun t H=>(∃ (y2:Int) (y3:Bool),k4 ()=some r∧t=mk 32 [(1,.pv (zc za a1)),(2,.pv (.fn 88 [] [])),(15,.pv (zc za a0)),(16,aI ((sll a0).length:Int)),(17,aI y2),(18,aB y3)]∧H=[])) ?_ ?_
   ·
    rintro _ _ ⟨y2,y3,hm,rfl,rfl⟩
    subst hk4
    refine sq (dn [(6,aB true)] (wp_ret ?_))
    obtain rfl:=Option.some.inj hm
    exact ⟨trivial,by kernel_rfl⟩
   refine sq (rg (s1 1 [(15,.pv (zc za a0))] (dv 16 (v:=aI ((sll a0).length:Int)) (zC za a0 t23 (by kernel_rfl)) (by kernel_rfl) (fq 1 [(1,.pv (zc za a1)),(2,.pv (.fn 88 [] [])),(15,.pv (zc za a0)),(16,aI ((sll a0).length:Int)),(17,aI 0)] (bq ?_)))))
   refine qR (fun mm t H=>(∃ (y6:Int),zT n rc_slices_EqualFunc_Expr_expr_Same a0 a1 k4 mm y6=some r∧t=mk 32 [(1,.pv (zc za a1)),(2,.pv (.fn 88 [] [])),(15,.pv (zc za a0)),(16,aI ((sll a0).length:Int)),(17,aI y6)]∧H=[])) (⟨0,hm,rfl,rfl⟩) ?_ ?_
   · rintro _ _ ⟨y6,hm,_⟩; exact nomatch hm
   rintro m7 _ _ ⟨y6,hm,rfl,rfl⟩
   simp only [zT] at hm
   refine sq (dn [(1,.pv (zc za a1)),(2,.pv (.fn 88 [] [])),(15,.pv (zc za a0)),(16,aI ((sll a0).length:Int)),(17,aI y6),(18,aB (zg39 y6 a0))] ?_)
   refine sq ?_
   rcases zf hm with ⟨h8,hm⟩ | ⟨h8,hm⟩
   ·
    refine c1 h8 (wp_skip (sq (bq (sq (rg (s1 1 [(19,aI y6)] ?_))))))
    obtain ⟨x9,h10,hm⟩:=bs hm
    refine dv 20 (v:=.pv (.ptr (Zy (zg x9)) 0)) (ZN za a0 .i64 t23 t49 h10 (zu x9) rfl (by kernel_rfl)) (by kernel_rfl) (stf 4 [(1,.pv (zc za a1)),(2,.pv (.fn 88 [] [])),(7,aI y6),(8,.ptr 0 0),(15,.pv (zc za a0)),(16,aI ((sll a0).length:Int)),(17,aI y6)] [.box (zc9 x9) false] (by kernel_rfl) (sq (rg (s1 2 [(23,aI y6),(22,.pv (zc za a1))] ?_))))
    obtain ⟨x11,h12,hm⟩:=bs hm
    refine dv 24 (v:=.pv (.ptr (zg40 x11) 0)) (ZN za a1 .i64 t23 t49 h12 (zu x11) rfl (by kernel_rfl)) (by kernel_rfl) (stf 3 [(1,.pv (zc za a1)),(2,.pv (.fn 88 [] [])),(8,.ptr 0 0),(9,.ptr 1 0),(15,.pv (zc za a0)),(16,aI ((sll a0).length:Int)),(17,aI y6)] [.box (zc9 x9) false,.box (zc9 x11) false] (by kernel_rfl) (sq (rg (s1 3 [(28,.agg (zc9 x11)),(27,.agg (zc9 x9)),(26,.pv (.fn 88 [] []))] ?_))))
    obtain ⟨x13,h14,hm⟩:=bs hm
    refine dv 29 (zF (by kernel_rfl) (ab7 ih_slices_EqualFunc_Expr_expr_Same h14) (by kernel_rfl) (by kernel_rfl) (by kernel_rfl)) (by kernel_rfl) (fq 1 [(1,.pv (zc za a1)),(2,.pv (.fn 88 [] [])),(15,.pv (zc za a0)),(16,aI ((sll a0).length:Int)),(17,aI y6),(30,aB (!x13))] ?_)
    rcases zf hm with ⟨h15,hm⟩ | ⟨h15,hm⟩
    ·
     refine c1 h15 (sq (dn [(6,aB false)] (wp_ret ?_)))
     obtain rfl:=Option.some.inj hm
     exact ⟨trivial,by kernel_rfl⟩
    ·
     refine c0 h15 (wp_skip (dn [(1,.pv (zc za a1)),(2,.pv (.fn 88 [] [])),(15,.pv (zc za a0)),(16,aI ((sll a0).length:Int)),(17,aI (IntKind.wrap .i64 (y6+1)))] ?_))
     exact ⟨_,_,qd [(1,.pv (zc za a1)),(2,.pv (.fn 88 [] [])),(15,.pv (zc za a0)),(16,aI ((sll a0).length:Int)),(17,aI (IntKind.wrap .i64 (y6+1)))] [] (by kernel_rfl),⟨(IntKind.wrap .i64 (y6+1)),hm,rfl,rfl⟩⟩
   ·
    refine c0 h8 (wp_exit ?_)
    exact ⟨y6,(zg39 y6 a0),hm,rfl,rfl⟩
theorem QF:∀ (m:Nat),∀ {n:Nat} {a0:(Option (List zd))} {a1:(Option (List zd))} {r:Bool} (hm:Zc m n a0 a1=some r),call G n 90 [.pv (zc za a0),.pv (zc za a1),.pv (.fn 88 [] [])] []=some (.ret (aB r),[])
  | 0=>by intros; rename_i hm; exact nomatch hm
  | m+1=>fun hm=>
    abH (QF m) hm
theorem ZQ {n:Nat} {a0:(Option (List zd))} {a1:(Option (List zd))} {r:Bool} (hm:zN n a0 a1=some r):
    call G n 90 [.pv (zc za a0),.pv (zc za a1),.pv (.fn 88 [] [])] []=some (.ret (aB r),[]):=QF n hm
theorem akJ {n:Nat} {a0:zK} {a1:zK} {r:Bool} (hm:afN n a0 a1=some r):
    call G n 128 [.agg (zc5 a0),.agg (zc5 a1)] []=some (.ret (aB r),[]):=by
  unfold afN at hm
  obtain ⟨n,rfl,h0⟩:=zp hm
  replace hm:=h0; clear h0
  refine Zt 17 [(0,.agg (zc5 a0)),(1,.agg (zc5 a1))] func128 rfl (by kernel_rfl) (sq (det [(2,.ptr 0 0),(3,.ptr 1 0)] [.box (zc5 a0) false,.box (zc5 a1) false] (by kernel_rfl) (sq (rg (s1 6 [(10,aB (a0.fKind == a1.fKind)),(9,aB (a0.fKind == a1.fKind)),(8,aI a1.fKind),(7,.ptr 1 0),(6,aI a0.fKind),(5,.ptr 0 0)] ?_)))))
  rcases zf hm with ⟨h1,hm⟩ | ⟨h1,hm⟩
  ·
   refine known [10,9] h1 (by kernel_rfl) (s1 4 [(14,.agg (zc1 a1)),(13,.ptr 1 1),(12,.agg (zc1 a0)),(11,.ptr 0 1)] ?_)
   obtain ⟨x2,h3,hm⟩:=bs hm
   refine dv 15 (zF (by kernel_rfl) (ab7 (fun h=>ZQ h) h3) (by kernel_rfl) (by kernel_rfl) (by kernel_rfl)) (by kernel_rfl) (fq 2 [(4,aB x2)] (wp_ret ?_))
   obtain rfl:=Option.some.inj hm
   exact ⟨trivial,by kernel_rfl⟩
  ·
   refine known [10,9] h1 (by kernel_rfl) (fq 7 [(4,aB false)] (wp_ret ?_))
   obtain rfl:=Option.some.inj hm
   exact ⟨trivial,by kernel_rfl⟩
theorem ab4 {n:Nat} {a0:(Option (List zK))} {a1:(Option (List zK))} {r:Bool} (hm:Zz n a0 a1=some r):
    call G n 91 [.pv (zc zj a0),.pv (zc zj a1),.pv (.fn 128 [] [])] []=some (.ret (aB r),[]):=by
  unfold Zz at hm
  obtain ⟨n,rfl,h0⟩:=zp hm
  replace hm:=h0; clear h0
  refine Zt 32 [(0,.pv (zc zj a0)),(1,.pv (zc zj a1)),(2,.pv (.fn 128 [] []))] func91 rfl (by kernel_rfl) (sq (dn [(0,.pv (zc zj a0)),(1,.pv (zc zj a1)),(2,.pv (.fn 128 [] []))] ?_))
  refine sq (sq (rg (s1 1 [(10,.pv (zc zj a0))] (dv 11 (v:=aI ((sll a0).length:Int)) (zC zj a0 t24 (by kernel_rfl)) (by kernel_rfl) (s1 1 [(12,.pv (zc zj a1))] (dv 13 (v:=aI ((sll a1).length:Int)) (zC zj a1 t24 (by kernel_rfl)) (by kernel_rfl) (fq 1 [(0,.pv (zc zj a0)),(1,.pv (zc zj a1)),(2,.pv (.fn 128 [] [])),(14,aB (((sll a0).length:Int) != ((sll a1).length:Int)))] ?_)))))))
  rcases zf hm with ⟨h1,hm⟩ | ⟨h1,hm⟩
  ·
   refine c1 h1 (sq (dn [(6,aB false)] (wp_ret ?_)))
   obtain rfl:=Option.some.inj hm
   exact ⟨trivial,by kernel_rfl⟩
  ·
   refine c0 h1 (wp_skip ?_)
   obtain ⟨k4,hk4,hm⟩:=zw hm
   refine mid (fun t H=>(∃ (y2:Int) (y3:Bool),k4 ()=some r∧t=mk 32 [(1,.pv (zc zj a1)),(2,.pv (.fn 128 [] [])),(15,.pv (zc zj a0)),(16,aI ((sll a0).length:Int)),(17,aI y2),(18,aB y3)]∧H=[])) ?_ ?_
   ·
    rintro _ _ ⟨y2,y3,hm,rfl,rfl⟩
    subst hk4
    refine sq (dn [(6,aB true)] (wp_ret ?_))
    obtain rfl:=Option.some.inj hm
    exact ⟨trivial,by kernel_rfl⟩
   refine sq (rg (s1 1 [(15,.pv (zc zj a0))] (dv 16 (v:=aI ((sll a0).length:Int)) (zC zj a0 t24 (by kernel_rfl)) (by kernel_rfl) (fq 1 [(1,.pv (zc zj a1)),(2,.pv (.fn 128 [] [])),(15,.pv (zc zj a0)),(16,aI ((sll a0).length:Int)),(17,aI 0)] (bq ?_)))))
   refine qR (fun mm t H=>(∃ (y6:Int),zW n a0 a1 k4 mm y6=some r∧t=mk 32 [(1,.pv (zc zj a1)),(2,.pv (.fn 128 [] [])),(15,.pv (zc zj a0)),(16,aI ((sll a0).length:Int)),(17,aI y6)]∧H=[])) (⟨0,hm,rfl,rfl⟩) ?_ ?_
   · rintro _ _ ⟨y6,hm,_⟩; exact nomatch hm
   rintro m7 _ _ ⟨y6,hm,rfl,rfl⟩
   simp only [zW] at hm
   refine sq (dn [(1,.pv (zc zj a1)),(2,.pv (.fn 128 [] [])),(15,.pv (zc zj a0)),(16,aI ((sll a0).length:Int)),(17,aI y6),(18,aB (zg48 y6 a0))] ?_)
   refine sq ?_
   rcases zf hm with ⟨h8,hm⟩ | ⟨h8,hm⟩
   ·
    refine c1 h8 (wp_skip (sq (bq (sq (rg (s1 1 [(19,aI y6)] ?_))))))
    obtain ⟨x9,h10,hm⟩:=bs hm
    refine dv 20 (v:=.pv (.ptr (zj x9) 0)) (Qy zj a0 .i64 t24 t101 h10 rfl (by kernel_rfl)) (by kernel_rfl) (stf 4 [(1,.pv (zc zj a1)),(2,.pv (.fn 128 [] [])),(7,aI y6),(8,.ptr 0 0),(15,.pv (zc zj a0)),(16,aI ((sll a0).length:Int)),(17,aI y6)] [.box (zc5 x9) false] (by kernel_rfl) (sq (rg (s1 2 [(23,aI y6),(22,.pv (zc zj a1))] ?_))))
    obtain ⟨x11,h12,hm⟩:=bs hm
    refine dv 24 (v:=.pv (.ptr (zj x11) 0)) (Qy zj a1 .i64 t24 t101 h12 rfl (by kernel_rfl)) (by kernel_rfl) (stf 3 [(1,.pv (zc zj a1)),(2,.pv (.fn 128 [] [])),(8,.ptr 0 0),(9,.ptr 1 0),(15,.pv (zc zj a0)),(16,aI ((sll a0).length:Int)),(17,aI y6)] [.box (zc5 x9) false,.box (zc5 x11) false] (by kernel_rfl) (sq (rg (s1 3 [(28,.agg (zc5 x11)),(27,.agg (zc5 x9)),(26,.pv (.fn 128 [] []))] ?_))))
    obtain ⟨x13,h14,hm⟩:=bs hm
    refine dv 29 (zF (by kernel_rfl) (akJ h14) (by kernel_rfl) (by kernel_rfl) (by kernel_rfl)) (by kernel_rfl) (fq 1 [(1,.pv (zc zj a1)),(2,.pv (.fn 128 [] [])),(15,.pv (zc zj a0)),(16,aI ((sll a0).length:Int)),(17,aI y6),(30,aB (!x13))] ?_)
    rcases zf hm with ⟨h15,hm⟩ | ⟨h15,hm⟩
    ·
     refine c1 h15 (sq (dn [(6,aB false)] (wp_ret ?_)))
     obtain rfl:=Option.some.inj hm
     exact ⟨trivial,by kernel_rfl⟩
    ·
     refine c0 h15 (wp_skip (dn [(1,.pv (zc zj a1)),(2,.pv (.fn 128 [] [])),(15,.pv (zc zj a0)),(16,aI ((sll a0).length:Int)),(17,aI (IntKind.wrap .i64 (y6+1)))] ?_))
     exact ⟨_,_,qd [(1,.pv (zc zj a1)),(2,.pv (.fn 128 [] [])),(15,.pv (zc zj a0)),(16,aI ((sll a0).length:Int)),(17,aI (IntKind.wrap .i64 (y6+1)))] [] (by kernel_rfl),⟨(IntKind.wrap .i64 (y6+1)),hm,rfl,rfl⟩⟩
   ·
    refine c0 h8 (wp_exit ?_)
    exact ⟨y6,(zg48 y6 a0),hm,rfl,rfl⟩
theorem aix {n:Nat} {a0:Int} {a1:zl} {r:Int} (hm:aap n a0 a1=some r):
    ∃ vv H1,call G n 127 [.agg (zc2 a1),.ptr 0 0] [.box [.pv (.int .u32 a0)] false]=some (.ret vv,H1)∧(match (generalizing:=false) r with | r0=>(vv=.tup []∧H1=[.box [.pv (.int .u32 r0)] false])):=by
  unfold aap at hm
  obtain ⟨n,rfl,h0⟩:=zp hm
  replace hm:=h0; clear h0
  refine Qh 22 [(0,.agg (zc2 a1)),(1,.ptr 0 0)] func127 rfl (by kernel_rfl) (sq (det [(1,.ptr 0 0),(2,.ptr 1 0)] [.box [.pv (.int .u32 a0)] false,.box (zc2 a1) false] (by kernel_rfl) ?_))
  refine sq (rg (s1 4 [(6,aB (a1.fKind == 1)),(5,aB (a1.fKind == 1)),(4,aI a1.fKind),(3,.ptr 1 0)] ?_))
  refine segP (a1.fKind == 1) [6,5] (fun b=>[(10,aB (b && (decide (a1.fRel≥0)))),(9,ifA b (aB (decide (a1.fRel≥0))) (.undef)),(8,ifA b (aI a1.fRel) (.undef)),(7,ifA b (.ptr 1 1) (.undef))]) 4 (by kernel_rfl) (by kernel_rfl) (by kernel_rfl) (s1 1 [(11,aB ((a1.fKind == 1) && (decide (a1.fRel≥0))))] ?_)
  refine segP ((a1.fKind == 1) && (decide (a1.fRel≥0))) [11,10] (fun b=>[(15,aB (b && (decide (a1.fRel < 32)))),(14,ifA b (aB (decide (a1.fRel < 32))) (.undef)),(13,ifA b (aI a1.fRel) (.undef)),(12,ifA b (.ptr 1 1) (.undef))]) 4 (by kernel_rfl) (by kernel_rfl) (by kernel_rfl) (fin [(1,.ptr 0 0),(2,.ptr 1 0),(15,aB (((a1.fKind == 1) && (decide (a1.fRel≥0))) && (decide (a1.fRel < 32))))] rfl (by kernel_rfl) ?_)
  rcases zf hm with ⟨h1,hm⟩ | ⟨h1,hm⟩
  ·
   refine c1 h1 (rg (s1 4 [(19,aU (IntKind.wrap .u64 a1.fRel)),(18,aI a1.fRel),(17,.ptr 1 1),(16,.pv (.int .u32 a0))] ?_))
   obtain ⟨_,h2,hm⟩:=bs hm
   refine dv 20 (v:=.pv (.int .u32 (iShl .u32 1 (IntKind.wrap .u64 a1.fRel)))) (shlO h2 (by kernel_rfl)) (by kernel_rfl) (stf 2 [] [.box [.pv (.int .u32 (iOr .u32 a0 (iShl .u32 1 (IntKind.wrap .u64 a1.fRel))))] false,.box (zc2 a1) false] (by kernel_rfl) ?_)
   obtain rfl:=Option.some.inj hm
   exact ⟨trivial,.tup [],[.box [.pv (.int .u32 (iOr .u32 a0 (iShl .u32 1 (IntKind.wrap .u64 a1.fRel))))] false],by kernel_rfl,rfl,rfl⟩
  ·
   refine c0 h1 (wp_skip ?_)
   obtain rfl:=Option.some.inj hm
   exact ⟨trivial,.tup [],[.box [.pv (.int .u32 a0)] false],by kernel_rfl,rfl,rfl⟩
abbrev zp33 (p0:Int) (p1:zl):Nat × AV:=(10,aB (decide (p0 < ((sll p1.fKids).length:Int))))
theorem adV {rc_plan_walk_plan_Rels_1:(Nat→Int→zl→Option (Int))} (ih_plan_walk_plan_Rels_1:∀ {n:Nat} {a0:Int} {a1:zl} {r:Int} (hm:rc_plan_walk_plan_Rels_1 n a0 a1=some r),∃ vv H1,call G n 123 [.agg [aI a1.fKind,aI a1.fRel,.pv (zc za a1.fWhere),.pv (zc za a1.fLeft),.pv (zc za a1.fRight),.pv (zc za a1.fOut),.pv (zc zj a1.fAggs),.pv (zc zn a1.fOrder),.pv (zc zm a1.fKids)],.fn 127 [] [.ptr 0 0]] [.box [.pv (.int .u32 a0)] false]=some (.ret vv,H1)∧(match (generalizing:=false) r with | r0=>(vv=.tup []∧H1=[.box [.pv (.int .u32 r0)] false]))) {n:Nat} {a0:Int} {a1:zl} {r:Int} (hm:qG rc_plan_walk_plan_Rels_1 n a0 a1=some r):
    ∃ vv H1,call G n 123 [.agg (zc2 a1),.fn 127 [] [.ptr 0 0]] [.box [.pv (.int .u32 a0)] false]=some (.ret vv,H1)∧(match (generalizing:=false) r with | r0=>(vv=.tup []∧H1=[.box [.pv (.int .u32 r0)] false])):=by
  unfold qG at hm
  obtain ⟨n,rfl,h0⟩:=zp hm
  replace hm:=h0; clear h0
  refine Qh 20 [(0,.agg (zc2 a1)),(1,.fn 127 [] [.ptr 0 0])] func123 rfl (by kernel_rfl) (sq (det [(1,.fn 127 [] [.ptr 0 0]),(2,.ptr 1 0)] [.box [.pv (.int .u32 a0)] false,.box (zc2 a1) false] (by kernel_rfl) ?_))
  obtain ⟨k4,hk4,hm⟩:=zw hm
  refine mid (fun t H=>(∃ (y1:Int) (y2:Bool) (y3:Int),k4 y1=some r∧t=mk 20 [(1,.fn 127 [] [.ptr 0 0]),(2,.ptr 1 0),(7,.pv (zc zm a1.fKids)),(8,aI ((sll a1.fKids).length:Int)),(9,aI y3),(10,aB y2)]∧H=[.box [.pv (.int .u32 y1)] false,.box (zc2 a1) false])) ?_ ?_
  ·
   rintro _ _ ⟨y1,y2,y3,hm,rfl,rfl⟩
   subst hk4
   refine rg (s1 2 [(18,.agg (zc2 a1)),(17,.fn 127 [] [.ptr 0 0])] ?_)
   obtain ⟨x6,h5,hm⟩:=bs hm
   obtain ⟨vv,H1,hC,rfl,rfl⟩:=aix h5
   refine dR [(19,.tup [])] [.box [.pv (.int .u32 x6)] false,.box (zc2 a1) false] [0] [.agg (zc2 a1),.ptr 0 0] (by kernel_rfl) (by kernel_rfl) (by kernel_rfl) hC (by kernel_rfl) (fin [] rfl (by kernel_rfl) ?_)
   obtain rfl:=Option.some.inj hm
   exact ⟨trivial,.tup [],[.box [.pv (.int .u32 x6)] false],by kernel_rfl,rfl,rfl⟩
  refine sq (rg (s1 2 [(7,.pv (zc zm a1.fKids)),(6,.ptr 1 8)] (dv 8 (v:=aI ((sll a1.fKids).length:Int)) (zC zm a1.fKids t64 (by kernel_rfl)) (by kernel_rfl) (fq 1 [(1,.fn 127 [] [.ptr 0 0]),(2,.ptr 1 0),(7,.pv (zc zm a1.fKids)),(8,aI ((sll a1.fKids).length:Int)),(9,aI 0)] (bq ?_)))))
  refine qR (fun mm t H=>(∃ (y9:Int) (y10:Int),ZB n rc_plan_walk_plan_Rels_1 a1 k4 mm y9 y10=some r∧t=mk 20 [(1,.fn 127 [] [.ptr 0 0]),(2,.ptr 1 0),(7,.pv (zc zm a1.fKids)),(8,aI ((sll a1.fKids).length:Int)),(9,aI y10)]∧H=[.box [.pv (.int .u32 y9)] false,.box (zc2 a1) false])) (⟨a0,0,hm,rfl,rfl⟩) ?_ ?_
  · rintro _ _ ⟨y9,y10,hm,_⟩; exact nomatch hm
  rintro m11 _ _ ⟨y9,y10,hm,rfl,rfl⟩
  simp only [ZB] at hm
  refine sq (dn [(1,.fn 127 [] [.ptr 0 0]),(2,.ptr 1 0),(7,.pv (zc zm a1.fKids)),(8,aI ((sll a1.fKids).length:Int)),(9,aI y10),(zp33 y10 a1)] ?_)
  refine sq ?_
  rcases zf hm with ⟨h12,hm⟩ | ⟨h12,hm⟩
  ·
   refine c1 h12 (wp_skip (sq (bq (sq (rg ?_)))))
   obtain ⟨x13,h14,hm⟩:=bs hm
   refine dv 11 (v:=.pv (.ptr (zg45 x13) 0)) (ZN zm a1.fKids .i64 t64 t66 h14 (ZK x13) rfl (by kernel_rfl)) (by kernel_rfl) (stf 3 [(1,.fn 127 [] [.ptr 0 0]),(2,.ptr 1 0),(5,.ptr 2 0),(7,.pv (zc zm a1.fKids)),(8,aI ((sll a1.fKids).length:Int)),(9,aI y10)] [.box [.pv (.int .u32 y9)] false,.box (zc2 a1) false,.box (zc3 x13) false] (by kernel_rfl) (rg (s1 2 [(14,.fn 127 [] [.ptr 0 0]),(13,.agg (zc3 x13))] ?_)))
   obtain ⟨x16,h15,hm⟩:=bs hm
   obtain ⟨vv,H1,hC,rfl,rfl⟩:=ih_plan_walk_plan_Rels_1 h15
   refine dR [(15,.tup [])] [.box [.pv (.int .u32 x16)] false,.box (zc2 a1) false,.box (zc3 x13) false] [0] [.agg (zc3 x13),.fn 127 [] [.ptr 0 0]] (by kernel_rfl) (by kernel_rfl) (by kernel_rfl) hC (by kernel_rfl) (fin [(1,.fn 127 [] [.ptr 0 0]),(2,.ptr 1 0),(7,.pv (zc zm a1.fKids)),(8,aI ((sll a1.fKids).length:Int)),(9,aI y10)] rfl (by kernel_rfl) (dn [(1,.fn 127 [] [.ptr 0 0]),(2,.ptr 1 0),(7,.pv (zc zm a1.fKids)),(8,aI ((sll a1.fKids).length:Int)),(9,aI (IntKind.wrap .i64 (y10+1)))] ?_))
   exact ⟨_,_,qd [(1,.fn 127 [] [.ptr 0 0]),(2,.ptr 1 0),(7,.pv (zc zm a1.fKids)),(8,aI ((sll a1.fKids).length:Int)),(9,aI (IntKind.wrap .i64 (y10+1)))] [.box [.pv (.int .u32 x16)] false,.box (zc2 a1) false] (by kernel_rfl),⟨x16,(IntKind.wrap .i64 (y10+1)),hm,rfl,rfl⟩⟩
  ·
   refine c0 h12 (wp_exit ?_)
   exact ⟨y9,(zg44 y10 a1),y10,hm,rfl,rfl⟩
theorem abw:∀ (m:Nat),∀ {n:Nat} {a0:Int} {a1:zl} {r:Int} (hm:qk m n a0 a1=some r),∃ vv H1,call G n 123 [.agg (zc2 a1),.fn 127 [] [.ptr 0 0]] [.box [.pv (.int .u32 a0)] false]=some (.ret vv,H1)∧(match (generalizing:=false) r with | r0=>(vv=.tup []∧H1=[.box [.pv (.int .u32 r0)] false]))
  | 0=>by intros; rename_i hm; exact nomatch hm
  | m+1=>fun hm=>
    adV (abw m) hm
theorem aec {n:Nat} {a0:Int} {a1:zl} {r:Int} (hm:aaT n a0 a1=some r):
    ∃ vv H1,call G n 123 [.agg (zc2 a1),.fn 127 [] [.ptr 0 0]] [.box [.pv (.int .u32 a0)] false]=some (.ret vv,H1)∧(match (generalizing:=false) r with | r0=>(vv=.tup []∧H1=[.box [.pv (.int .u32 r0)] false])):=abw n hm
theorem aeO {n:Nat} {a0:zl} {r:Int} (hm:Qe n a0=some r):
    call G n 38 [.agg (zc2 a0)] []=some (.ret (.pv (.int .u32 r)),[]):=by
  unfold Qe at hm
  obtain ⟨n,rfl,h0⟩:=zp hm
  replace hm:=h0; clear h0
  refine Zt 8 [(0,.agg (zc2 a0))] func38 rfl (by kernel_rfl) (sq (det [(1,.ptr 0 0)] [.box (zc2 a0) false] (by kernel_rfl) (sq (det [(1,.ptr 0 0),(3,.ptr 1 0)] [.box (zc2 a0) false,.box [.pv (.int .u32 0)] false] (by kernel_rfl) (sq (rg (s1 2 [(5,.fn 127 [] [.ptr 1 0]),(4,.agg (zc2 a0))] ?_)))))))
  obtain ⟨x2,h1,hm⟩:=bs hm
  obtain ⟨vv,H1,hC,rfl,rfl⟩:=aec h1
  refine dR [(6,.tup [])] [.box (zc2 a0) false,.box [.pv (.int .u32 x2)] false] [1] [.agg (zc2 a0),.fn 127 [] [.ptr 1 0]] (by kernel_rfl) (by kernel_rfl) (by kernel_rfl) hC (by kernel_rfl) (fin [(3,.ptr 1 0)] rfl (by kernel_rfl) (sq (dn [(2,.pv (.int .u32 x2))] (wp_ret ?_))))
  obtain rfl:=Option.some.inj hm
  exact ⟨trivial,by kernel_rfl⟩
theorem ajG {rc_expr_Rels:(Nat→zh→Option (Int))} (ih_expr_Rels:∀ {n:Nat} {a0:zh} {r:Int} (hm:rc_expr_Rels n a0=some r),call G n 112 [.agg [aI a0.fKind,aI a0.fRel,aI a0.fCol,aI a0.fConst.fKind,aI a0.fConst.fInt,aF a0.fConst.fFloat,aS a0.fConst.fText,.pv (zc za a0.fKids)]] []=some (.ret (.pv (.int .u32 r)),[])) {n:Nat} {a0:zh} {r:Int} (hm:acY rc_expr_Rels n a0=some r):
    call G n 112 [.agg (zc7 a0)] []=some (.ret (.pv (.int .u32 r)),[]):=by
  unfold acY at hm
  obtain ⟨n,rfl,h0⟩:=zp hm
  replace hm:=h0; clear h0
  refine Zt 36 [(0,.agg (zc7 a0))] func112 rfl (by kernel_rfl) (sq (det [(1,.ptr 0 0)] [.box (zc7 a0) false] (by kernel_rfl) (sq (dn [(1,.ptr 0 0),(3,.pv (.int .u32 0))] ?_))))
  obtain ⟨k3,hk3,hm⟩:=zw hm
  refine mid (fun t H=>(∃ (y2:Int) (w1:AV),k3 y2=some r∧t=mk 36 [(1,.ptr 0 0),(3,.pv (.int .u32 y2)),(18,w1)]∧H=[.box (zc7 a0) false])) ?_ ?_
  ·
   rintro _ _ ⟨y2,w1,hm,rfl,rfl⟩
   subst hk3
   obtain ⟨k7,hk7,hm⟩:=zw hm
   refine mid (fun t H=>(∃ (y4:Int) (y5:Bool) (y6:Int),k7 y6=some r∧t=mk 36 [(3,.pv (.int .u32 y6)),(24,.pv (zc za a0.fKids)),(25,aI ((sll a0.fKids).length:Int)),(26,aI y4),(27,aB y5)]∧H=[.box (zc7 a0) false])) ?_ ?_
   ·
    rintro _ _ ⟨y4,y5,y6,hm,rfl,rfl⟩
    subst hk7
    refine sq (dn [(2,.pv (.int .u32 y6))] (wp_ret ?_))
    obtain rfl:=Option.some.inj hm
    exact ⟨trivial,by kernel_rfl⟩
   refine sq (rg (s1 2 [(24,.pv (zc za a0.fKids)),(23,.ptr 0 7)] (dv 25 (v:=aI ((sll a0.fKids).length:Int)) (zC za a0.fKids t23 (by kernel_rfl)) (by kernel_rfl) (fq 1 [(3,.pv (.int .u32 y2)),(24,.pv (zc za a0.fKids)),(25,aI ((sll a0.fKids).length:Int)),(26,aI 0)] (bq ?_)))))
   refine qR (fun mm t H=>(∃ (y10:Int) (y11:Int),aau n rc_expr_Rels a0 k7 mm y10 y11=some r∧t=mk 36 [(3,.pv (.int .u32 y11)),(24,.pv (zc za a0.fKids)),(25,aI ((sll a0.fKids).length:Int)),(26,aI y10)]∧H=[.box (zc7 a0) false])) (⟨0,y2,hm,rfl,rfl⟩) ?_ ?_
   · rintro _ _ ⟨y10,y11,hm,_⟩; exact nomatch hm
   rintro m12 _ _ ⟨y10,y11,hm,rfl,rfl⟩
   simp only [aau] at hm
   refine sq (dn [(3,.pv (.int .u32 y11)),(24,.pv (zc za a0.fKids)),(25,aI ((sll a0.fKids).length:Int)),(26,aI y10),(27,aB (zg50 y10 a0))] ?_)
   refine sq ?_
   rcases zf hm with ⟨h13,hm⟩ | ⟨h13,hm⟩
   ·
    refine c1 h13 (wp_skip (sq (bq (sq (rg ?_)))))
    obtain ⟨x14,h15,hm⟩:=bs hm
    refine dv 28 (v:=.pv (.ptr (zg40 x14) 0)) (ZN za a0.fKids .i64 t23 t49 h15 (zu x14) rfl (by kernel_rfl)) (by kernel_rfl) (stf 3 [(3,.pv (.int .u32 y11)),(5,.ptr 1 0),(24,.pv (zc za a0.fKids)),(25,aI ((sll a0.fKids).length:Int)),(26,aI y10)] [.box (zc7 a0) false,.box (zc9 x14) false] (by kernel_rfl) (rg (s1 2 [(31,.agg (zc9 x14)),(30,.pv (.int .u32 y11))] ?_)))
    obtain ⟨x16,h17,hm⟩:=bs hm
    refine dv 32 (zF (by kernel_rfl) (ih_expr_Rels h17) (by kernel_rfl) (by kernel_rfl) (by kernel_rfl)) (by kernel_rfl) (fq 2 [(3,.pv (.int .u32 (iOr .u32 y11 x16))),(24,.pv (zc za a0.fKids)),(25,aI ((sll a0.fKids).length:Int)),(26,aI y10)] (dn [(3,.pv (.int .u32 (iOr .u32 y11 x16))),(24,.pv (zc za a0.fKids)),(25,aI ((sll a0.fKids).length:Int)),(26,aI (IntKind.wrap .i64 (y10+1)))] ?_))
    exact ⟨_,_,qd [(3,.pv (.int .u32 (iOr .u32 y11 x16))),(24,.pv (zc za a0.fKids)),(25,aI ((sll a0.fKids).length:Int)),(26,aI (IntKind.wrap .i64 (y10+1)))] [.box (zc7 a0) false] (by kernel_rfl),⟨(IntKind.wrap .i64 (y10+1)),(iOr .u32 y11 x16),hm,rfl,rfl⟩⟩
   ·
    refine c0 h13 (wp_exit ?_)
    exact ⟨y10,(zg50 y10 a0),y11,hm,rfl,rfl⟩
  refine sq (rg (s1 4 [(9,aB (a0.fKind == 1)),(8,aB (a0.fKind == 1)),(7,aI a0.fKind),(6,.ptr 0 0)] ?_))
  refine segP (a0.fKind == 1) [9,8] (fun b=>[(13,aB (b && (decide (a0.fRel≥0)))),(12,ifA b (aB (decide (a0.fRel≥0))) (.undef)),(11,ifA b (aI a0.fRel) (.undef)),(10,ifA b (.ptr 0 1) (.undef))]) 4 (by kernel_rfl) (by kernel_rfl) (by kernel_rfl) (s1 1 [(14,aB ((a0.fKind == 1) && (decide (a0.fRel≥0))))] ?_)
  refine segP ((a0.fKind == 1) && (decide (a0.fRel≥0))) [14,13] (fun b=>[(18,aB (b && (decide (a0.fRel≤31)))),(17,ifA b (aB (decide (a0.fRel≤31))) (.undef)),(16,ifA b (aI a0.fRel) (.undef)),(15,ifA b (.ptr 0 1) (.undef))]) 4 (by kernel_rfl) (by kernel_rfl) (by kernel_rfl) (fin [(1,.ptr 0 0),(3,.pv (.int .u32 0)),(18,aB (((a0.fKind == 1) && (decide (a0.fRel≥0))) && (decide (a0.fRel≤31))))] rfl (by kernel_rfl) ?_)
  rcases zf hm with ⟨h18,hm⟩ | ⟨h18,hm⟩
  ·
   refine c1 h18 (rg (s1 3 [(21,aU (IntKind.wrap .u64 a0.fRel)),(20,aI a0.fRel),(19,.ptr 0 1)] ?_))
   obtain ⟨_,h19,hm⟩:=bs hm
   refine dv 22 (v:=.pv (.int .u32 (iShl .u32 1 (IntKind.wrap .u64 a0.fRel)))) (shlO h19 (by kernel_rfl)) (by kernel_rfl) (fq 1 [(1,.ptr 0 0),(3,.pv (.int .u32 (iShl .u32 1 (IntKind.wrap .u64 a0.fRel))))] ?_)
   exact ⟨(iShl .u32 1 (IntKind.wrap .u64 a0.fRel)),.any,hm,(zJ (by kernel_rfl)),rfl⟩
  ·
   refine c0 h18 (wp_skip ?_)
   exact ⟨0,aB (((a0.fKind == 1) && (decide (a0.fRel≥0))) && (decide (a0.fRel≤31))),hm,(zJ (by kernel_rfl)),rfl⟩
theorem af6:∀ (m:Nat),∀ {n:Nat} {a0:zh} {r:Int} (hm:QE m n a0=some r),call G n 112 [.agg (zc7 a0)] []=some (.ret (.pv (.int .u32 r)),[])
  | 0=>by intros; rename_i hm; exact nomatch hm
  | m+1=>fun hm=>
    ajG (af6 m) hm
theorem akY {n:Nat} {a0:zh} {r:Int} (hm:ahb n a0=some r):
    call G n 112 [.agg (zc7 a0)] []=some (.ret (.pv (.int .u32 r)),[]):=af6 n hm
theorem ahd {n:Nat} {a0:zh} {a1:Int} {r:Bool} (hm:abF n a0 a1=some r):
    call G n 248 [.agg (zc7 a0),.pv (.ptr [.int .u32 a1] 0)] []=some (.ret (aB r),[]):=by
  unfold abF at hm
  obtain ⟨n,rfl,h0⟩:=zp hm
  replace hm:=h0; clear h0
  refine Zt 9 [(0,.agg (zc7 a0)),(1,.pv (.ptr [.int .u32 a1] 0))] func248 rfl (by kernel_rfl) (sq (det [(1,.pv (.ptr [.int .u32 a1] 0)),(2,.ptr 0 0)] [.box (zc7 a0) false] (by kernel_rfl) (sq (rgd (shd 1 [(4,.agg (zc7 a0))] (by kernel_rfl) ?_)))))
  obtain ⟨x1,h2,hm⟩:=bs hm
  refine dvd 5 (zF (by kernel_rfl) (akY h2) (by kernel_rfl) (by kernel_rfl) (by kernel_rfl)) (by kernel_rfl) (shd 4 [(3,aB ((afL .u32 x1 a1) != 0)),(8,aB ((afL .u32 x1 a1) != 0)),(7,.pv (.int .u32 (afL .u32 x1 a1))),(6,.pv (.int .u32 a1))] (by kernel_rfl) (find [(3,aB ((afL .u32 x1 a1) != 0))] rfl (by kernel_rfl) (by kernel_rfl) (wp_ret ?_)))
  obtain rfl:=Option.some.inj hm
  exact ⟨trivial,by kernel_rfl⟩
abbrev zp34 (p0:Int):Nat × AV:=(1,.pv (.fn 248 [] [.ptr [.int .u32 p0] 0]))
theorem abf {n:Nat} {a0:(Option (List zd))} {a1:Int} {r:Int} (hm:Z7 n a0 a1=some r):
    call G n 213 [.pv (zc za a0),.pv (.fn 248 [] [.ptr [.int .u32 a1] 0])] []=some (.ret (aI r),[]):=by
  unfold Z7 at hm
  obtain ⟨n,rfl,h0⟩:=zp hm
  replace hm:=h0; clear h0
  refine Zt 19 [(0,.pv (zc za a0)),(zp34 a1)] func213 rfl (by kernel_rfl) (sq (dn [(0,.pv (zc za a0)),(zp34 a1)] ?_))
  obtain ⟨k3,hk3,hm⟩:=zw hm
  refine mid (fun t H=>(∃ (y1:Int) (y2:Bool),k3 ()=some r∧t=mk 19 [(0,.pv (zc za a0)),(zp34 a1),(7,aI ((sll a0).length:Int)),(8,aI y1),(9,aB y2)]∧H=[])) ?_ ?_
  ·
   rintro _ _ ⟨y1,y2,hm,rfl,rfl⟩
   subst hk3
   refine sq (dn [(4,aI (-1))] (wp_ret ?_))
   obtain rfl:=Option.some.inj hm
   exact ⟨trivial,by kernel_rfl⟩
  refine sq (rg (s1 1 [(6,.pv (zc za a0))] (dv 7 (v:=aI ((sll a0).length:Int)) (zC za a0 t23 (by kernel_rfl)) (by kernel_rfl) (fq 1 [(0,.pv (zc za a0)),(zp34 a1),(7,aI ((sll a0).length:Int)),(8,aI 0)] (bq ?_)))))
  refine qR (fun mm t H=>(∃ (y5:Int),zZ n a0 a1 k3 mm y5=some r∧t=mk 19 [(0,.pv (zc za a0)),(zp34 a1),(7,aI ((sll a0).length:Int)),(8,aI y5)]∧H=[])) (⟨0,hm,rfl,rfl⟩) ?_ ?_
  · rintro _ _ ⟨y5,hm,_⟩; exact nomatch hm
  rintro m6 _ _ ⟨y5,hm,rfl,rfl⟩
  simp only [zZ] at hm
  refine sq (dn [(0,.pv (zc za a0)),(zp34 a1),(7,aI ((sll a0).length:Int)),(8,aI y5),(9,aB (zg39 y5 a0))] ?_)
  refine sq ?_
  rcases zf hm with ⟨h7,hm⟩ | ⟨h7,hm⟩
  ·
   refine c1 h7 (wp_skip (sq (bq (sq (dn [(0,.pv (zc za a0)),(zp34 a1),(5,aI y5),(7,aI ((sll a0).length:Int)),(8,aI y5)] (sq (rg (s1 3 [(13,aI y5),(12,.pv (zc za a0)),(11,.pv (.fn 248 [] [.ptr [.int .u32 a1] 0]))] ?_))))))))
   obtain ⟨x8,h9,hm⟩:=bs hm
   refine dv 14 (v:=.pv (.ptr (Zy (zg x8)) 0)) (ZN za a0 .i64 t23 t49 h9 (zu x8) rfl (by kernel_rfl)) (by kernel_rfl) (s1 1 [(15,.agg (zc9 x8))] ?_)
   obtain ⟨x10,h11,hm⟩:=bs hm
   refine dv 16 (zF (by kernel_rfl) (ahd h11) (by kernel_rfl) (by kernel_rfl) (by kernel_rfl)) (by kernel_rfl) (fin [(0,.pv (zc za a0)),(zp34 a1),(5,aI y5),(7,aI ((sll a0).length:Int)),(8,aI y5),(16,aB x10)] rfl (by kernel_rfl) ?_)
   rcases zf hm with ⟨h12,hm⟩ | ⟨h12,hm⟩
   ·
    refine c1 h12 (sq (dn [(4,aI y5)] (wp_ret ?_)))
    obtain rfl:=Option.some.inj hm
    exact ⟨trivial,by kernel_rfl⟩
   ·
    refine c0 h12 (wp_skip (dn [(0,.pv (zc za a0)),(zp34 a1),(7,aI ((sll a0).length:Int)),(8,aI (IntKind.wrap .i64 (y5+1)))] ?_))
    exact ⟨_,_,qd [(0,.pv (zc za a0)),(zp34 a1),(7,aI ((sll a0).length:Int)),(8,aI (IntKind.wrap .i64 (y5+1)))] [] (by kernel_rfl),⟨(IntKind.wrap .i64 (y5+1)),hm,rfl,rfl⟩⟩
  ·
   refine c0 h7 (wp_exit ?_)
   exact ⟨y5,(zg39 y5 a0),hm,rfl,rfl⟩
theorem aaK {n:Nat} {a0:(Option (List zd))} {a1:Int} {r:Bool} (hm:ZV n a0 a1=some r):
    call G n 220 [.pv (zc za a0),.pv (.fn 248 [] [.ptr [.int .u32 a1] 0])] []=some (.ret (aB r),[]):=by
  unfold ZV at hm
  obtain ⟨n,rfl,h0⟩:=zp hm
  replace hm:=h0; clear h0
  refine Zt 9 [(0,.pv (zc za a0)),(zp34 a1)] func220 rfl (by kernel_rfl) (sq (dn [(0,.pv (zc za a0)),(zp34 a1)] (sq (rg (s1 2 [(6,.pv (.fn 248 [] [.ptr [.int .u32 a1] 0])),(5,.pv (zc za a0))] ?_)))))
  obtain ⟨x1,h2,hm⟩:=bs hm
  refine dv 7 (zF (by kernel_rfl) (abf h2) (by kernel_rfl) (by kernel_rfl) (by kernel_rfl)) (by kernel_rfl) (fq 2 [(4,aB (decide (x1≥0)))] (wp_ret ?_))
  obtain rfl:=Option.some.inj hm
  exact ⟨trivial,by kernel_rfl⟩
theorem adQ {n:Nat} {a0:(Option (List zd))} {a1:Int} {r:Bool} (hm:qm n a0 a1=some r):
    call G n 211 [.pv (zc za a0),.pv (.int .u32 a1)] []=some (.ret (aB r),[]):=by
  unfold qm at hm
  obtain ⟨n,rfl,h0⟩:=zp hm
  replace hm:=h0; clear h0
  refine Zt 9 [(0,.pv (zc za a0)),(1,.pv (.int .u32 a1))] func211 rfl (by kernel_rfl) (sq (det [(0,.pv (zc za a0)),(3,.ptr 0 0)] [.box [.pv (.int .u32 a1)] false] (by kernel_rfl) (sq (rg (s1 2 [(6,.fn 248 [] [.ptr 0 0]),(5,.pv (zc za a0))] ?_)))))
  obtain ⟨x1,h2,hm⟩:=bs hm
  refine dO [(7,aB x1)] [.box [.pv (.int .u32 a1)] false] (adv [0] [.pv (zc za a0),.fn 248 [] [.ptr 0 0]] (fl:=true) (by kernel_rfl) (by kernel_rfl) (by kernel_rfl) (aaK h2) (by kernel_rfl) (by kernel_rfl)) (by kernel_rfl) (fq 2 [(4,aB (!x1))] (wp_ret ?_))
  obtain rfl:=Option.some.inj hm
  exact ⟨trivial,by kernel_rfl⟩
theorem aim {n:Nat} {a0:Int} {a1:Int} {a2:Bool} {a3:zl} {r:Int × Int × Bool} (hm:ac1 n a0 a1 a2 a3=some r):
    ∃ vv H1,call G n 210 [.agg (zc2 a3),.ptr 0 0,.ptr 1 0,.ptr 2 0] [.box [aI a0] false,.box [.pv (.int .u32 a1)] false,.box [aB a2] false]=some (.ret vv,H1)∧(match (generalizing:=false) r with | (r0,r1,r2)=>(vv=.tup []∧H1=[.box [aI r0] false,.box [.pv (.int .u32 r1)] false,.box [aB r2] false])):=by
  unfold ac1 at hm
  obtain ⟨n,rfl,h0⟩:=zp hm
  replace hm:=h0; clear h0
  refine Qh 51 [(0,.agg (zc2 a3)),(1,.ptr 0 0),(2,.ptr 1 0),(3,.ptr 2 0)] func210 rfl (by kernel_rfl) (sq (det [(1,.ptr 0 0),(2,.ptr 1 0),(3,.ptr 2 0),(4,.ptr 3 0)] [.box [aI a0] false,.box [.pv (.int .u32 a1)] false,.box [aB a2] false,.box (zc2 a3) false] (by kernel_rfl) ?_))
  obtain ⟨k5,hk5,hm⟩:=zw hm
  refine mid (fun t H=>(∃ (y2:Int) (y3:Int) (y4:Bool) (w1:AV),k5 y2 y3 y4=some r∧t=mk 51 [(3,.ptr 2 0),(4,.ptr 3 0),(41,w1)]∧H=[.box [aI y2] false,.box [.pv (.int .u32 y3)] false,.box [aB y4] false,.box (zc2 a3) false])) ?_ ?_
  ·
   rintro _ _ ⟨y2,y3,y4,w1,hm,rfl,rfl⟩
   subst hk5
   refine rgd (shd 2 [(44,aB y4),(43,aB y4)] (by kernel_rfl) ?_)
   rcases zf hm with ⟨h6,hm⟩ | ⟨h6,hm⟩
   ·
    refine qj [44,43] h6 (by kernel_rfl) (shd 3 [(47,.agg (zc2 a3)),(46,.pv (zg43 a3)),(45,.ptr 3 2)] (by kernel_rfl) ?_)
    obtain ⟨x7,h8,hm⟩:=bs hm
    refine dvd 48 (zF (by kernel_rfl) (aeO h8) (by kernel_rfl) (by kernel_rfl) (by kernel_rfl)) (by kernel_rfl) ?_
    obtain ⟨x9,h10,hm⟩:=bs hm
    refine dvd 49 (zF (by kernel_rfl) (adQ h10) (by kernel_rfl) (by kernel_rfl) (by kernel_rfl)) (by kernel_rfl) (std 2 [(50,aB x9)] [.box [aI y2] false,.box [.pv (.int .u32 y3)] false,.box [aB x9] false,.box (zc2 a3) false] (by kernel_rfl) (find [] rfl (by kernel_rfl) (by kernel_rfl) ?_))
    obtain rfl:=Option.some.inj hm
    exact ⟨trivial,.tup [],[.box [aI y2] false,.box [.pv (.int .u32 y3)] false,.box [aB x9] false],by kernel_rfl,rfl,rfl⟩
   ·
    refine qj [44,43] h6 (by kernel_rfl) (std 7 [(50,aB false),(49,.undef),(48,.undef),(47,.undef),(46,.undef),(45,.undef)] [.box [aI y2] false,.box [.pv (.int .u32 y3)] false,.box [aB false] false,.box (zc2 a3) false] (by kernel_rfl) (find [] rfl (by kernel_rfl) (by kernel_rfl) ?_))
    obtain rfl:=Option.some.inj hm
    exact ⟨trivial,.tup [],[.box [aI y2] false,.box [.pv (.int .u32 y3)] false,.box [aB false] false],by kernel_rfl,rfl,rfl⟩
  refine sq (dn [(1,.ptr 0 0),(2,.ptr 1 0),(3,.ptr 2 0),(4,.ptr 3 0),(6,aI a3.fKind)] (bq (sq (dn [(1,.ptr 0 0),(2,.ptr 1 0),(3,.ptr 2 0),(4,.ptr 3 0),(6,aI a3.fKind),(7,aB (a3.fKind == 1))] ?_))))
  rcases zf hm with ⟨h11,hm⟩ | ⟨h11,hm⟩
  ·
   refine c1 h11 (sq (det [(2,.ptr 1 0),(3,.ptr 2 0),(4,.ptr 3 0)] [.box [aI (IntKind.wrap .i64 (a0+1))] false,.box [.pv (.int .u32 a1)] false,.box [aB a2] false,.box (zc2 a3) false] (by kernel_rfl) (rg (s1 4 [(14,aU (IntKind.wrap .u64 a3.fRel)),(13,aI a3.fRel),(12,.ptr 3 1),(11,.pv (.int .u32 a1))] ?_))))
   obtain ⟨_,h12,hm⟩:=bs hm
   refine dv 15 (v:=.pv (.int .u32 (iShl .u32 1 (IntKind.wrap .u64 a3.fRel)))) (shlO h12 (by kernel_rfl)) (by kernel_rfl) (stf 2 [(3,.ptr 2 0),(4,.ptr 3 0)] [.box [aI (IntKind.wrap .i64 (a0+1))] false,.box [.pv (.int .u32 (iOr .u32 a1 (iShl .u32 1 (IntKind.wrap .u64 a3.fRel))))] false,.box [aB a2] false,.box (zc2 a3) false] (by kernel_rfl) ?_)
   exact ⟨(IntKind.wrap .i64 (a0+1)),(iOr .u32 a1 (iShl .u32 1 (IntKind.wrap .u64 a3.fRel))),a2,.any,hm,(zJ (by kernel_rfl)),rfl⟩
  ·
   refine c0 h11 ?_
   obtain ⟨k14,hk14,hm⟩:=zw hm
   refine mid (fun t H=>(∃ (y13:Bool),k14 y13=some r∧t=mk 51 [(3,.ptr 2 0),(4,.ptr 3 0),(6,aI a3.fKind),(17,aB y13)]∧H=[.box [aI a0] false,.box [.pv (.int .u32 a1)] false,.box [aB a2] false,.box (zc2 a3) false])) ?_ ?_
   ·
    rintro _ _ ⟨y13,hm,rfl,rfl⟩
    subst hk14
    rcases zf hm with ⟨h15,hm⟩ | ⟨h15,hm⟩
    ·
     refine c1 h15 (rgd (shd 2 [(21,aB a2),(20,aB a2)] (by kernel_rfl) ?_))
     rcases zf hm with ⟨h16,hm⟩ | ⟨h16,hm⟩
     ·
      refine qj [21,20] h16 (by kernel_rfl) (shd 4 [(25,.pv (zc zm a3.fKids)),(24,.ptr 3 8),(23,.pv (zc za a3.fLeft)),(22,.ptr 3 3)] (by kernel_rfl) ?_)
      obtain ⟨x17,h18,hm⟩:=bs hm
      refine dvd 26 (v:=.pv (.ptr (zg45 x17) 0)) (ZN zm a3.fKids .i64 t64 t66 h18 (ZK x17) rfl (by kernel_rfl)) (by kernel_rfl) (shd 1 [(27,.agg (zc3 x17))] (by kernel_rfl) ?_)
      obtain ⟨x19,h20,hm⟩:=bs hm
      refine dvd 28 (zF (by kernel_rfl) (aeO h20) (by kernel_rfl) (by kernel_rfl) (by kernel_rfl)) (by kernel_rfl) ?_
      obtain ⟨x21,h22,hm⟩:=bs hm
      refine dvd 29 (zF (by kernel_rfl) (adQ h22) (by kernel_rfl) (by kernel_rfl) (by kernel_rfl)) (by kernel_rfl) (shd 2 [(31,aB x21),(30,aB x21)] (by kernel_rfl) ?_)
      rcases zf hm with ⟨h23,hm⟩ | ⟨h23,hm⟩
      ·
       refine qj [31,30,29] h23 (by kernel_rfl) (shd 4 [(35,.pv (zc zm a3.fKids)),(34,.ptr 3 8),(33,.pv (zg46 a3)),(32,.ptr 3 4)] (by kernel_rfl) ?_)
       obtain ⟨x24,h25,hm⟩:=bs hm
       refine dvd 36 (v:=.pv (.ptr (zg45 x24) 0)) (ZN zm a3.fKids .i64 t64 t66 h25 (ZK x24) rfl (by kernel_rfl)) (by kernel_rfl) (shd 1 [(37,.agg (zc3 x24))] (by kernel_rfl) ?_)
       obtain ⟨x26,h27,hm⟩:=bs hm
       refine dvd 38 (zF (by kernel_rfl) (aeO h27) (by kernel_rfl) (by kernel_rfl) (by kernel_rfl)) (by kernel_rfl) ?_
       obtain ⟨x28,h29,hm⟩:=bs hm
       refine dvd 39 (zF (by kernel_rfl) (adQ h29) (by kernel_rfl) (by kernel_rfl) (by kernel_rfl)) (by kernel_rfl) (std 2 [(40,aB x28)] [.box [aI a0] false,.box [.pv (.int .u32 a1)] false,.box [aB x28] false,.box (zc2 a3) false] (by kernel_rfl) (find [(3,.ptr 2 0),(4,.ptr 3 0)] rfl (by kernel_rfl) (by kernel_rfl) ?_))
       exact ⟨a0,a1,x28,.any,hm,(zJ (by kernel_rfl)),rfl⟩
      ·
       refine qj [31,30,29] h23 (by kernel_rfl) (std 10 [(40,aB false),(39,.undef),(38,.undef),(37,.undef),(36,.undef),(35,.undef),(34,.undef),(33,.undef),(32,.undef)] [.box [aI a0] false,.box [.pv (.int .u32 a1)] false,.box [aB false] false,.box (zc2 a3) false] (by kernel_rfl) (find [(3,.ptr 2 0),(4,.ptr 3 0)] rfl (by kernel_rfl) (by kernel_rfl) ?_))
       exact ⟨a0,a1,false,.any,hm,(zJ (by kernel_rfl)),rfl⟩
     ·
      refine qj [21,20] h16 (by kernel_rfl) (std 20 [(40,aB false),(39,.undef),(38,.undef),(37,.undef),(36,.undef),(35,.undef),(34,.undef),(33,.undef),(32,.undef),(31,aB false),(30,aB false),(29,.undef),(28,.undef),(27,.undef),(26,.undef),(25,.undef),(24,.undef),(23,.undef),(22,.undef)] [.box [aI a0] false,.box [.pv (.int .u32 a1)] false,.box [aB false] false,.box (zc2 a3) false] (by kernel_rfl) (find [(3,.ptr 2 0),(4,.ptr 3 0)] rfl (by kernel_rfl) (by kernel_rfl) ?_))
      exact ⟨a0,a1,false,.any,hm,(zJ (by kernel_rfl)),rfl⟩
    ·
     refine c0 h15 (sq (dn [(3,.ptr 2 0),(4,.ptr 3 0),(41,aB (a3.fKind == 2))] ?_))
     rcases zf hm with ⟨h30,hm⟩ | ⟨h30,hm⟩
     ·
      refine c1 h30 (wp_skip ?_)
      exact ⟨a0,a1,a2,aB (a3.fKind == 2),hm,(zJ (by kernel_rfl)),rfl⟩
     ·
      refine c0 h30 (det [(3,.ptr 2 0),(4,.ptr 3 0)] [.box [aI a0] false,.box [.pv (.int .u32 a1)] false,.box [aB false] false,.box (zc2 a3) false] (by kernel_rfl) ?_)
      exact ⟨a0,a1,false,.any,hm,(zJ (by kernel_rfl)),rfl⟩
   refine sq (dn [(3,.ptr 2 0),(4,.ptr 3 0),(6,aI a3.fKind),(17,aB (a3.fKind == 3))] ?_)
   rcases zf hm with ⟨h31,hm⟩ | ⟨h31,hm⟩
   ·
    refine c1 h31 (wp_skip ?_)
    exact ⟨(a3.fKind == 3),hm,rfl,rfl⟩
   ·
    refine c0 h31 (dn [(3,.ptr 2 0),(4,.ptr 3 0),(6,aI a3.fKind),(17,aB (a3.fKind == 4))] ?_)
    exact ⟨(a3.fKind == 4),hm,rfl,rfl⟩
abbrev zp35:Nat × AV:=(1,.fn 210 [] [.ptr 0 0,.ptr 1 0,.ptr 2 0])
theorem adW {rc_plan_walk_plan_join_1:(Nat→Int→Int→Bool→zl→Option (Int × Int × Bool))} (ih_plan_walk_plan_join_1:∀ {n:Nat} {a0:Int} {a1:Int} {a2:Bool} {a3:zl} {r:Int × Int × Bool} (hm:rc_plan_walk_plan_join_1 n a0 a1 a2 a3=some r),∃ vv H1,call G n 123 [.agg [aI a3.fKind,aI a3.fRel,.pv (zc za a3.fWhere),.pv (zc za a3.fLeft),.pv (zc za a3.fRight),.pv (zc za a3.fOut),.pv (zc zj a3.fAggs),.pv (zc zn a3.fOrder),.pv (zc zm a3.fKids)],.fn 210 [] [.ptr 0 0,.ptr 1 0,.ptr 2 0]] [.box [aI a0] false,.box [.pv (.int .u32 a1)] false,.box [aB a2] false]=some (.ret vv,H1)∧(match (generalizing:=false) r with | (r0,r1,r2)=>(vv=.tup []∧H1=[.box [aI r0] false,.box [.pv (.int .u32 r1)] false,.box [aB r2] false]))) {n:Nat} {a0:Int} {a1:Int} {a2:Bool} {a3:zl} {r:Int × Int × Bool} (hm:qI rc_plan_walk_plan_join_1 n a0 a1 a2 a3=some r):
    ∃ vv H1,call G n 123 [.agg (zc2 a3),.fn 210 [] [.ptr 0 0,.ptr 1 0,.ptr 2 0]] [.box [aI a0] false,.box [.pv (.int .u32 a1)] false,.box [aB a2] false]=some (.ret vv,H1)∧(match (generalizing:=false) r with | (r0,r1,r2)=>(vv=.tup []∧H1=[.box [aI r0] false,.box [.pv (.int .u32 r1)] false,.box [aB r2] false])):=by
  unfold qI at hm
  obtain ⟨n,rfl,h0⟩:=zp hm
  replace hm:=h0; clear h0
  refine Qh 20 [(0,.agg (zc2 a3)),zp35] func123 rfl (by kernel_rfl) (sq (det [zp35,(2,.ptr 3 0)] [.box [aI a0] false,.box [.pv (.int .u32 a1)] false,.box [aB a2] false,.box (zc2 a3) false] (by kernel_rfl) ?_))
  obtain ⟨k6,hk6,hm⟩:=zw hm
  refine mid (fun t H=>(∃ (y1:Int) (y2:Int) (y3:Bool) (y4:Bool) (y5:Int),k6 y1 y2 y3=some r∧t=mk 20 [zp35,(2,.ptr 3 0),(7,.pv (zc zm a3.fKids)),(8,aI ((sll a3.fKids).length:Int)),(9,aI y5),(10,aB y4)]∧H=[.box [aI y1] false,.box [.pv (.int .u32 y2)] false,.box [aB y3] false,.box (zc2 a3) false])) ?_ ?_
  ·
   rintro _ _ ⟨y1,y2,y3,y4,y5,hm,rfl,rfl⟩
   subst hk6
   refine rg (s1 2 [(18,.agg (zc2 a3)),(17,.fn 210 [] [.ptr 0 0,.ptr 1 0,.ptr 2 0])] ?_)
   obtain ⟨⟨x8,x9,x10⟩,h7,hm⟩:=bs hm
   obtain ⟨vv,H1,hC,rfl,rfl⟩:=aim h7
   refine dR [(19,.tup [])] [.box [aI x8] false,.box [.pv (.int .u32 x9)] false,.box [aB x10] false,.box (zc2 a3) false] [0,1,2] [.agg (zc2 a3),.ptr 0 0,.ptr 1 0,.ptr 2 0] (by kernel_rfl) (by kernel_rfl) (by kernel_rfl) hC (by kernel_rfl) (fin [] rfl (by kernel_rfl) ?_)
   obtain rfl:=Option.some.inj hm
   exact ⟨trivial,.tup [],[.box [aI x8] false,.box [.pv (.int .u32 x9)] false,.box [aB x10] false],by kernel_rfl,rfl,rfl⟩
  refine sq (rg (s1 2 [(7,.pv (zc zm a3.fKids)),(6,.ptr 3 8)] (dv 8 (v:=aI ((sll a3.fKids).length:Int)) (zC zm a3.fKids t64 (by kernel_rfl)) (by kernel_rfl) (fq 1 [zp35,(2,.ptr 3 0),(7,.pv (zc zm a3.fKids)),(8,aI ((sll a3.fKids).length:Int)),(9,aI 0)] (bq ?_)))))
  refine qR (fun mm t H=>(∃ (y15:Int) (y16:Int) (y17:Bool) (y18:Int),ZZ n rc_plan_walk_plan_join_1 a3 k6 mm y15 y16 y17 y18=some r∧t=mk 20 [zp35,(2,.ptr 3 0),(7,.pv (zc zm a3.fKids)),(8,aI ((sll a3.fKids).length:Int)),(9,aI y18)]∧H=[.box [aI y15] false,.box [.pv (.int .u32 y16)] false,.box [aB y17] false,.box (zc2 a3) false])) (⟨a0,a1,a2,0,hm,rfl,rfl⟩) ?_ ?_
  · rintro _ _ ⟨y15,y16,y17,y18,hm,_⟩; exact nomatch hm
  rintro m19 _ _ ⟨y15,y16,y17,y18,hm,rfl,rfl⟩
  simp only [ZZ] at hm
  refine sq (dn [zp35,(2,.ptr 3 0),(7,.pv (zc zm a3.fKids)),(8,aI ((sll a3.fKids).length:Int)),(9,aI y18),(zp33 y18 a3)] ?_)
  refine sq ?_
  rcases zf hm with ⟨h20,hm⟩ | ⟨h20,hm⟩
  ·
   refine c1 h20 (wp_skip (sq (bq (sq (rg ?_)))))
   obtain ⟨x21,h22,hm⟩:=bs hm
   refine dv 11 (v:=.pv (.ptr (zg45 x21) 0)) (ZN zm a3.fKids .i64 t64 t66 h22 (ZK x21) rfl (by kernel_rfl)) (by kernel_rfl) (stf 3 [zp35,(2,.ptr 3 0),(5,.ptr 4 0),(7,.pv (zc zm a3.fKids)),(8,aI ((sll a3.fKids).length:Int)),(9,aI y18)] [.box [aI y15] false,.box [.pv (.int .u32 y16)] false,.box [aB y17] false,.box (zc2 a3) false,.box (zc3 x21) false] (by kernel_rfl) (rg (s1 2 [(14,.fn 210 [] [.ptr 0 0,.ptr 1 0,.ptr 2 0]),(13,.agg (zc3 x21))] ?_)))
   obtain ⟨⟨x24,x25,x26⟩,h23,hm⟩:=bs hm
   obtain ⟨vv,H1,hC,rfl,rfl⟩:=ih_plan_walk_plan_join_1 h23
   refine dR [(15,.tup [])] [.box [aI x24] false,.box [.pv (.int .u32 x25)] false,.box [aB x26] false,.box (zc2 a3) false,.box (zc3 x21) false] [0,1,2] [.agg (zc3 x21),.fn 210 [] [.ptr 0 0,.ptr 1 0,.ptr 2 0]] (by kernel_rfl) (by kernel_rfl) (by kernel_rfl) hC (by kernel_rfl) (fin [zp35,(2,.ptr 3 0),(7,.pv (zc zm a3.fKids)),(8,aI ((sll a3.fKids).length:Int)),(9,aI y18)] rfl (by kernel_rfl) (dn [zp35,(2,.ptr 3 0),(7,.pv (zc zm a3.fKids)),(8,aI ((sll a3.fKids).length:Int)),(9,aI (IntKind.wrap .i64 (y18+1)))] ?_))
   exact ⟨_,_,qd [zp35,(2,.ptr 3 0),(7,.pv (zc zm a3.fKids)),(8,aI ((sll a3.fKids).length:Int)),(9,aI (IntKind.wrap .i64 (y18+1)))] [.box [aI x24] false,.box [.pv (.int .u32 x25)] false,.box [aB x26] false,.box (zc2 a3) false] (by kernel_rfl),⟨x24,x25,x26,(IntKind.wrap .i64 (y18+1)),hm,rfl,rfl⟩⟩
  ·
   refine c0 h20 (wp_exit ?_)
   exact ⟨y15,y16,y17,(zg44 y18 a3),y18,hm,rfl,rfl⟩
theorem abx:∀ (m:Nat),∀ {n:Nat} {a0:Int} {a1:Int} {a2:Bool} {a3:zl} {r:Int × Int × Bool} (hm:ql m n a0 a1 a2 a3=some r),∃ vv H1,call G n 123 [.agg (zc2 a3),.fn 210 [] [.ptr 0 0,.ptr 1 0,.ptr 2 0]] [.box [aI a0] false,.box [.pv (.int .u32 a1)] false,.box [aB a2] false]=some (.ret vv,H1)∧(match (generalizing:=false) r with | (r0,r1,r2)=>(vv=.tup []∧H1=[.box [aI r0] false,.box [.pv (.int .u32 r1)] false,.box [aB r2] false]))
  | 0=>by intros; rename_i hm; exact nomatch hm
  | m+1=>fun hm=>
    adW (abx m) hm
theorem aeb {n:Nat} {a0:Int} {a1:Int} {a2:Bool} {a3:zl} {r:Int × Int × Bool} (hm:acw n a0 a1 a2 a3=some r):
    ∃ vv H1,call G n 123 [.agg (zc2 a3),.fn 210 [] [.ptr 0 0,.ptr 1 0,.ptr 2 0]] [.box [aI a0] false,.box [.pv (.int .u32 a1)] false,.box [aB a2] false]=some (.ret vv,H1)∧(match (generalizing:=false) r with | (r0,r1,r2)=>(vv=.tup []∧H1=[.box [aI r0] false,.box [.pv (.int .u32 r1)] false,.box [aB r2] false])):=abx n hm
theorem akA {n:Nat} {a0:zl} {a1:Int} {r:Bool} (hm:acH n a0 a1=some r):
    call G n 166 [.agg (zc2 a0),aI a1] []=some (.ret (aB r),[]):=by
  unfold acH at hm
  obtain ⟨n,rfl,h0⟩:=zp hm
  replace hm:=h0; clear h0
  refine Zt 25 [(0,.agg (zc2 a0)),(1,aI a1)] func166 rfl (by kernel_rfl) (sq (det [(1,aI a1),(2,.ptr 0 0)] [.box (zc2 a0) false] (by kernel_rfl) (sq (det [(1,aI a1),(2,.ptr 0 0),(5,.ptr 1 0),(6,.ptr 2 0),(7,.ptr 3 0)] [.box (zc2 a0) false,.box [.pv (.int .u32 0)] false,.box [aI 0] false,.box [aB true] false] (by kernel_rfl) (sq (rg (s1 2 [(9,.fn 210 [] [.ptr 2 0,.ptr 1 0,.ptr 3 0]),(8,.agg (zc2 a0))] ?_)))))))
  obtain ⟨⟨x2,x3,x4⟩,h1,hm⟩:=bs hm
  obtain ⟨vv,H1,hC,rfl,rfl⟩:=aeb h1
  refine dR [(10,.tup [])] [.box (zc2 a0) false,.box [.pv (.int .u32 x3)] false,.box [aI x2] false,.box [aB x4] false] [2,1,3] [.agg (zc2 a0),.fn 210 [] [.ptr 2 0,.ptr 1 0,.ptr 3 0]] (by kernel_rfl) (by kernel_rfl) (by kernel_rfl) hC (by kernel_rfl) (fin [(1,aI a1),(5,.ptr 1 0),(6,.ptr 2 0),(7,.ptr 3 0)] rfl (by kernel_rfl) (sq (rg (s1 2 [(12,aB x4),(11,aB x4)] ?_))))
  refine segP x4 [12,11] (fun b=>[(16,aB (b && (x2 == a1))),(15,ifA b (aB (x2 == a1)) (.undef)),(14,ifA b (aI a1) (.undef)),(13,ifA b (aI x2) (.undef))]) 4 (by kernel_rfl) (by kernel_rfl) (by kernel_rfl) (s1 1 [(17,aB (x4 && (x2 == a1)))] ?_)
  rcases zf hm with ⟨h5,hm⟩ | ⟨h5,hm⟩
  ·
   refine known [17,16] h5 (by kernel_rfl) (s1 3 [(20,aU (IntKind.wrap .u64 a1)),(19,aI a1),(18,.pv (.int .u32 x3))] ?_)
   obtain ⟨_,h6,hm⟩:=bs hm
   refine dv 21 (v:=.pv (.int .u32 (iShl .u32 1 (IntKind.wrap .u64 a1)))) (shlO h6 (by kernel_rfl)) (by kernel_rfl) (fq 4 [(4,aB (x3 == (IntKind.wrap .u32 ((iShl .u32 1 (IntKind.wrap .u64 a1)) - 1))))] (wp_ret ?_))
   obtain rfl:=Option.some.inj hm
   exact ⟨trivial,by kernel_rfl⟩
  ·
   refine known [17,16] h5 (by kernel_rfl) (fq 8 [(4,aB false)] (wp_ret ?_))
   obtain rfl:=Option.some.inj hm
   exact ⟨trivial,by kernel_rfl⟩
abbrev zc13:List AV:=[aI 0,aI 0,aI 0,aI 0,aI 0,aF 0,aS ByteArray.empty,.pv .nils]
abbrev zc14 (p0:zh):List AV:=[aI p0.fKind,aI p0.fRel,aI p0.fCol,aI p0.fConst.fKind,aI p0.fConst.fInt,aF p0.fConst.fFloat,aS p0.fConst.fText,.pv .nils]
abbrev zc15 (p0:zh) (p1:(List zd)):List AV:=[aI p0.fKind,aI p0.fRel,aI p0.fCol,aI p0.fConst.fKind,aI p0.fConst.fInt,aF p0.fConst.fFloat,aS p0.fConst.fText,aR 2 8 p1.length]
abbrev zg56 (p0:zh):=([(zi p0)]:List zd)
theorem ajp {rc_expr_Copy:(Nat→zh→Option (zh))} (ih_expr_Copy:∀ {n:Nat} {a0:zh} {r:zh} (hm:rc_expr_Copy n a0=some r),call G n 97 [.agg [aI a0.fKind,aI a0.fRel,aI a0.fCol,aI a0.fConst.fKind,aI a0.fConst.fInt,aF a0.fConst.fFloat,aS a0.fConst.fText,.pv (zc za a0.fKids)]] []=some (.ret (.agg [aI r.fKind,aI r.fRel,aI r.fCol,aI r.fConst.fKind,aI r.fConst.fInt,aF r.fConst.fFloat,aS r.fConst.fText,.pv (zc za r.fKids)]),[])) {n:Nat} {a0:zh} {r:zh} (hm:ac2 rc_expr_Copy n a0=some r):
    call G n 97 [.agg (zc7 a0)] []=some (.ret (.agg [aI r.fKind,aI r.fRel,aI r.fCol,aI r.fConst.fKind,aI r.fConst.fInt,aF r.fConst.fFloat,aS r.fConst.fText,.pv (zc za r.fKids)]),[]):=by
  unfold ac2 at hm
  obtain ⟨n,rfl,h0⟩:=zp hm
  replace hm:=h0; clear h0
  refine Zt 24 [(0,.agg (zc7 a0))] func97 rfl (by kernel_rfl) (sq (det [(1,.ptr 0 0),(2,.ptr 1 0)] [.box (zc7 a0) false,.box zc13 false] (by kernel_rfl) (sq (dn [(1,.ptr 0 0),(2,.ptr 1 0),(3,.pv (zc za a0.fKids))] (sq (det [(1,.ptr 0 0),(2,.ptr 1 0),(3,.pv (zc za a0.fKids))] [.box (zc14 a0) false,.box zc13 false] (by kernel_rfl) ?_))))))
  obtain ⟨k4,hk4,hm⟩:=zw hm
  refine mid (fun t H=>(∃ (w1:AV) (w2:AV),k4 none=some r∧t=mk 24 [(1,.ptr 0 0),(2,.ptr 1 0),(9,.pv (zc za a0.fKids)),(10,aI ((sll a0.fKids).length:Int)),(11,w1),(12,w2)]∧H=[.box (zc14 a0) false,.box zc13 false])∨(∃ (y3:(List zd)) (w1:AV) (w2:AV),k4 (some y3)=some r∧t=mk 24 [(1,.ptr 0 0),(2,.ptr 1 0),(9,.pv (zc za a0.fKids)),(10,aI ((sll a0.fKids).length:Int)),(11,w1),(12,w2)]∧H=[.box (zc15 a0 y3) false,.box zc13 false,bR 49 8 za y3 0 0])) ?_ ?_
  ·
   rintro _ _ (⟨w1,w2,hm,rfl,rfl⟩ | ⟨y3,w1,w2,hm,rfl,rfl⟩)
   ·
    subst hk4
    refine sq (det [(2,.ptr 1 0)] [.box (zc14 a0) false,.box (zc14 a0) false] (by kernel_rfl) (wp_ret ?_))
    obtain rfl:=Option.some.inj hm
    exact ⟨trivial,by kernel_rfl⟩
   ·
    subst hk4
    refine sq (det [(2,.ptr 1 0)] [.box (zc15 a0 y3) false,.box (zc15 a0 y3) false,bR 49 8 za y3 0 0] (by kernel_rfl) (wp_ret ?_))
    obtain rfl:=Option.some.inj hm
    exact adz (v:=.agg (zc15 a0 y3)) trivial rfl (by kernel_rfl) (aqh (zA (Zm) (zA (Zm) (zA (Zm) (zA (Zm) (zA (Zm) (zA (Zm) (zA (Zm) (zA (ack (n:=y3.length) (id:=2) (l:=y3) (R:=za) rfl rfl (Nat.zero_le _)) (rfl))))))))) (by kernel_rfl))
  refine sq (rg (s1 1 [(9,.pv (zc za a0.fKids))] (dv 10 (v:=aI ((sll a0.fKids).length:Int)) (zC za a0.fKids t23 (by kernel_rfl)) (by kernel_rfl) (fq 1 [(1,.ptr 0 0),(2,.ptr 1 0),(9,.pv (zc za a0.fKids)),(10,aI ((sll a0.fKids).length:Int)),(11,aI 0)] (bq ?_)))))
  refine qR (fun mm t H=>(∃ (y9:Int),Z4 n rc_expr_Copy a0 k4 mm none y9=some r∧t=mk 24 [(1,.ptr 0 0),(2,.ptr 1 0),(9,.pv (zc za a0.fKids)),(10,aI ((sll a0.fKids).length:Int)),(11,aI y9)]∧H=[.box (zc14 a0) false,.box zc13 false])∨(∃ (y8:(List zd)) (y9:Int),Z4 n rc_expr_Copy a0 k4 mm (some y8) y9=some r∧t=mk 24 [(1,.ptr 0 0),(2,.ptr 1 0),(9,.pv (zc za a0.fKids)),(10,aI ((sll a0.fKids).length:Int)),(11,aI y9)]∧H=[.box (zc15 a0 y8) false,.box zc13 false,bR 49 8 za y8 0 0])) (.inl ⟨0,hm,rfl,rfl⟩) ?_ ?_
  · rintro _ _ (⟨y9,hm,_⟩ | ⟨y8,y9,hm,_⟩) <;> exact nomatch hm
  rintro m10 _ _ (⟨y9,hm,rfl,rfl⟩ | ⟨y8,y9,hm,rfl,rfl⟩)
  ·
   simp only [Z4] at hm
   refine sq (dn [(1,.ptr 0 0),(2,.ptr 1 0),(9,.pv (zc za a0.fKids)),(10,aI ((sll a0.fKids).length:Int)),(11,aI y9),(12,aB (zg50 y9 a0))] ?_)
   refine sq ?_
   rcases zf hm with ⟨h11,hm⟩ | ⟨h11,hm⟩
   ·
    refine c1 h11 (wp_skip (sq (bq (sq (rg ?_)))))
    obtain ⟨x12,h13,hm⟩:=bs hm
    refine dv 13 (v:=.pv (.ptr (zg40 x12) 0)) (ZN za a0.fKids .i64 t23 t49 h13 (zu x12) rfl (by kernel_rfl)) (by kernel_rfl) (stf 3 [(1,.ptr 0 0),(2,.ptr 1 0),(5,.ptr 2 0),(9,.pv (zc za a0.fKids)),(10,aI ((sll a0.fKids).length:Int)),(11,aI y9)] [.box (zc14 a0) false,.box zc13 false,.box (zc9 x12) false] (by kernel_rfl) (rgd (shd 3 [(17,.agg (zc9 x12)),(16,.pv .nils),(15,.ptr 0 7)] (by kernel_rfl) ?_)))
    obtain ⟨x14,h15,hm⟩:=bs hm
    refine dvd 18 (zF (by kernel_rfl) (ih_expr_Copy h15) (by kernel_rfl) (by kernel_rfl) (by kernel_rfl)) (by kernel_rfl) (std 1 [(19,aR 3 8 1)] [.box (zc14 a0) false,.box zc13 false,.box (zc9 x12) false,bR 49 8 za (zg56 x14) 0 0] (by kernel_rfl) ?_)
    obtain ⟨_,h16,hm⟩:=bs hm
    refine dOd [(20,aR 4 8 (([(zi x14)]:List zd).length))] [.box (zc14 a0) false,.box zc13 false,.box (zc9 x12) false,bR 49 8 za (zg56 x14) 0 0,bR 49 8 za (zg56 x14) 0 0] (aey (u:=0) za (zg56 x14) (b:=88) t23 t49 rfl rfl rfl zX rfl h16 (show ZE (aR 3 8 1) _=some (([(zi x14)]:List zd).map za) from by kernel_rfl) (by kernel_rfl)) (by kernel_rfl) (std 2 [(21,.ptr 0 7)] [.box [aI a0.fKind,aI a0.fRel,aI a0.fCol,aI a0.fConst.fKind,aI a0.fConst.fInt,aF a0.fConst.fFloat,aS a0.fConst.fText,aR 4 8 (([(zi x14)]:List zd).length)] false,.box zc13 false,.box (zc9 x12) false,bR 49 8 za (zg56 x14) 0 0,bR 49 8 za (zg56 x14) 0 0] (by kernel_rfl) (find [(1,.ptr 0 0),(2,.ptr 1 0),(9,.pv (zc za a0.fKids)),(10,aI ((sll a0.fKids).length:Int)),(11,aI y9)] rfl (by kernel_rfl) (by kernel_rfl) (dn [(1,.ptr 0 0),(2,.ptr 1 0),(9,.pv (zc za a0.fKids)),(10,aI ((sll a0.fKids).length:Int)),(11,aI (IntKind.wrap .i64 (y9+1)))] ?_)))
    exact ⟨_,_,qd [(1,.ptr 0 0),(2,.ptr 1 0),(9,.pv (zc za a0.fKids)),(10,aI ((sll a0.fKids).length:Int)),(11,aI (IntKind.wrap .i64 (y9+1)))] [.box [aI a0.fKind,aI a0.fRel,aI a0.fCol,aI a0.fConst.fKind,aI a0.fConst.fInt,aF a0.fConst.fFloat,aS a0.fConst.fText,aR 2 8 (([(zi x14)]:List zd).length)] false,.box zc13 false,bR 49 8 za (zg56 x14) 0 0] (by kernel_rfl),.inr (⟨(zg56 x14),(IntKind.wrap .i64 (y9+1)),hm,rfl,rfl⟩)⟩
   ·
    refine c0 h11 (wp_exit ?_)
    exact .inl ⟨aI y9,aB (zg50 y9 a0),hm,(zJ (by kernel_rfl)),rfl⟩
  ·
   simp only [Z4] at hm
   refine sq (dn [(1,.ptr 0 0),(2,.ptr 1 0),(9,.pv (zc za a0.fKids)),(10,aI ((sll a0.fKids).length:Int)),(11,aI y9),(12,aB (zg50 y9 a0))] ?_)
   refine sq ?_
   rcases zf hm with ⟨h17,hm⟩ | ⟨h17,hm⟩
   ·
    refine c1 h17 (wp_skip (sq (bq (sq (rg ?_)))))
    obtain ⟨x18,h19,hm⟩:=bs hm
    refine dv 13 (v:=.pv (.ptr (zg40 x18) 0)) (ZN za a0.fKids .i64 t23 t49 h19 (zu x18) rfl (by kernel_rfl)) (by kernel_rfl) (stf 3 [(1,.ptr 0 0),(2,.ptr 1 0),(5,.ptr 3 0),(9,.pv (zc za a0.fKids)),(10,aI ((sll a0.fKids).length:Int)),(11,aI y9)] [.box (zc15 a0 y8) false,.box zc13 false,bR 49 8 za y8 0 0,.box (zc9 x18) false] (by kernel_rfl) (rgd (shd 3 [(17,.agg (zc9 x18)),(16,aR 2 8 y8.length),(15,.ptr 0 7)] (by kernel_rfl) ?_)))
    obtain ⟨x20,h21,hm⟩:=bs hm
    refine dvd 18 (zF (by kernel_rfl) (ih_expr_Copy h21) (by kernel_rfl) (by kernel_rfl) (by kernel_rfl)) (by kernel_rfl) (std 1 [(19,aR 4 8 1)] [.box (zc15 a0 y8) false,.box zc13 false,bR 49 8 za y8 0 0,.box (zc9 x18) false,bR 49 8 za (zg56 x20) 0 0] (by kernel_rfl) ?_)
    obtain ⟨_,h22,hm⟩:=bs hm
    refine dOd [(20,aR 2 8 ((y8++([(zi x20)]:List zd)).length))] [.box (zc15 a0 y8) false,.box zc13 false,bR 49 8 za (y8++([(zi x20)]:List zd)) 0 0,.box (zc9 x18) false,bR 49 8 za (zg56 x20) 0 0] (Qp (u:=0) (n:=y8.length) (id:=2) za y8 (zg56 x20) (b:=88) t23 t49 rfl rfl rfl zX rfl h22 rfl rfl (Nat.zero_le _) (show ZE (aR 4 8 1) _=some (([(zi x20)]:List zd).map za) from by kernel_rfl) (by kernel_rfl)) (by kernel_rfl) (std 2 [(21,.ptr 0 7)] [.box [aI a0.fKind,aI a0.fRel,aI a0.fCol,aI a0.fConst.fKind,aI a0.fConst.fInt,aF a0.fConst.fFloat,aS a0.fConst.fText,aR 2 8 ((y8++([(zi x20)]:List zd)).length)] false,.box zc13 false,bR 49 8 za (y8++([(zi x20)]:List zd)) 0 0,.box (zc9 x18) false,bR 49 8 za (zg56 x20) 0 0] (by kernel_rfl) (find [(1,.ptr 0 0),(2,.ptr 1 0),(9,.pv (zc za a0.fKids)),(10,aI ((sll a0.fKids).length:Int)),(11,aI y9)] rfl (by kernel_rfl) (by kernel_rfl) (dn [(1,.ptr 0 0),(2,.ptr 1 0),(9,.pv (zc za a0.fKids)),(10,aI ((sll a0.fKids).length:Int)),(11,aI (IntKind.wrap .i64 (y9+1)))] ?_)))
    exact ⟨_,_,qd [(1,.ptr 0 0),(2,.ptr 1 0),(9,.pv (zc za a0.fKids)),(10,aI ((sll a0.fKids).length:Int)),(11,aI (IntKind.wrap .i64 (y9+1)))] [.box [aI a0.fKind,aI a0.fRel,aI a0.fCol,aI a0.fConst.fKind,aI a0.fConst.fInt,aF a0.fConst.fFloat,aS a0.fConst.fText,aR 2 8 ((y8++([(zi x20)]:List zd)).length)] false,.box zc13 false,bR 49 8 za (y8++([(zi x20)]:List zd)) 0 0] (by kernel_rfl),.inr (⟨(y8++([(zi x20)]:List zd)),(IntKind.wrap .i64 (y9+1)),hm,rfl,rfl⟩)⟩
   ·
    refine c0 h17 (wp_exit ?_)
    exact .inr (⟨y8,aI y9,aB (zg50 y9 a0),hm,(zJ (by kernel_rfl)),rfl⟩)
theorem af5:∀ (m:Nat),∀ {n:Nat} {a0:zh} {r:zh} (hm:aar m n a0=some r),call G n 97 [.agg (zc7 a0)] []=some (.ret (.agg [aI r.fKind,aI r.fRel,aI r.fCol,aI r.fConst.fKind,aI r.fConst.fInt,aF r.fConst.fFloat,aS r.fConst.fText,.pv (zc za r.fKids)]),[])
  | 0=>by intros; rename_i hm; exact nomatch hm
  | m+1=>fun hm=>
    ajp (af5 m) hm
theorem qT {n:Nat} {a0:zh} {r:zh} (hm:Z1 n a0=some r):
    call G n 97 [.agg (zc7 a0)] []=some (.ret (.agg [aI r.fKind,aI r.fRel,aI r.fCol,aI r.fConst.fKind,aI r.fConst.fInt,aF r.fConst.fFloat,aS r.fConst.fText,.pv (zc za r.fKids)]),[]):=af5 n hm
end Go.Ab.S1
