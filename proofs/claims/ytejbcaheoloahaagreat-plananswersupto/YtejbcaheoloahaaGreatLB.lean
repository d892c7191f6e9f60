/- said -/
import Derived.Test.YtejbcaheoloahaaGreatWB4
import Derived.Test.YtejbcaheoloahaaGreatFD
import Derived.Test.YtejbcaheoloahaaGreatAbRd
import Derived.Test.YtejbcaheoloahaaGreatAbArr
import Derived.Test.YtejbcaheoloahaaGreatAbRec
import Derived.Test.YtejbcaheoloahaaGreatRows
namespace Go.Proofs.YtejbcaheoloahaaGreat.planAnswers
open Go Go.Ab Go.Ab.S1 Go.Pl
open Go.ChangeShapes Go.WideShapes Go.ChangeAt Go.RowKit
set_option linter.all false
set_option maxRecDepth 100000
theorem own:ownKnob Tryz.prog.godebug=none:=by kernel_rfl
theorem bulk {H:Type}:Bulk (H:=H) Rows.uptoBulk Rows.uptoBulkAll:=
 ⟨fun b=>by simp [Rows.uptoBulk],fun l=>by cases l<;>simp [Rows.uptoBulk],by simp [Rows.uptoBulk],fun d=>by simp [Rows.uptoBulk],fun a b=>by simp [Rows.uptoBulk],fun a=>by simp [Rows.uptoBulk],
  by simp [Rows.uptoBulkAll],fun d r=>by simp [Rows.uptoBulkAll]⟩
theorem rd3:RdT Go.Proofs.Tryz.prog 3 (rI .i64) (wI .i64):=au8 hH
theorem rd2:RdT Go.Proofs.Tryz.prog 2 (rI .i64) (wI .i64):=au8 hH
theorem rd45:RdT Go.Proofs.Tryz.prog 45 (rF .f64) (wF .f64):=awM hH
theorem rd9:RdT Go.Proofs.Tryz.prog 9 rS wS:=aw1 hH
theorem rd47:RdT Go.Proofs.Tryz.prog 47 aiU qK:=by
 intro n qs hq hb
 cases n with
 |zero=>exact hq.elim
 |succ n=>
 have u:Go.Proofs.Tryz.prog.underlying 47=some (.struct (ae8 Go.Proofs.Tryz.prog 47)):=by kernel_rfl
 have hl:=ahO (sz:=4) u hH hq
 obtain ⟨x0,e0,w0⟩:=qI (i:=0) (off:=0) (sz:=1) u hH hH rd3 hq hb
 obtain ⟨x1,e1,w1⟩:=qI (i:=1) (off:=1) (sz:=1) u hH hH rd2 hq hb
 obtain ⟨x2,e2,w2⟩:=qI (i:=2) (off:=2) (sz:=1) u hH hH rd45 hq hb
 obtain ⟨x3,e3,w3⟩:=qI (i:=3) (off:=3) (sz:=1) u hH hH rd9 hq hb
 match qs,hl with
 |[c0,c1,c2,c3],_=>
 simp only [List.drop_zero,List.drop_succ_cons,List.take_succ_cons,List.take_zero,rI,rF,rB,rS,rSl,List.cons.injEq,and_true] at e0 e1 e2 e3
 subst e0
 subst e1
 subst e2
 subst e3
 exact ⟨⟨x0,x1,x2,x3⟩,rfl,w0,w1,w2,w3⟩
theorem rdG49:∀ (n:Nat) (qs:List PV),HasT Go.Proofs.Tryz.prog n 49 qs→PV.bulkL qs≤1048576→Good_api_Expr qs∧adw qs:=by
 intro n
 induction n using Nat.strongRecOn with
 |ind n ih=>
 intro qs hq hb
 cases n with
 |zero=>exact hq.elim
 |succ n=>
 have u:Go.Proofs.Tryz.prog.underlying 49=some (.struct (ae8 Go.Proofs.Tryz.prog 49)):=by kernel_rfl
 have hl:=ahO (sz:=8) u hH hq
 obtain ⟨x0,e0,w0⟩:=qI (i:=0) (off:=0) (sz:=1) u hH hH rd3 hq hb
 obtain ⟨x1,e1,w1⟩:=qI (i:=1) (off:=1) (sz:=1) u hH hH rd3 hq hb
 obtain ⟨x2,e2,w2⟩:=qI (i:=2) (off:=2) (sz:=1) u hH hH rd3 hq hb
 obtain ⟨x3,e3,w3⟩:=qI (i:=3) (off:=3) (sz:=4) u hH hH rd47 hq hb
 have hk:=avE (i:=4) (off:=7) (st:=23) u hH hH hH hH hq hb
 rcases hk with e4|⟨rows,e4,hrl,hr⟩
 ·match qs,hl with
  |[c0,c1,c2,c3,c4,c5,c6,c7],_=>
  simp only [List.drop_zero,List.drop_succ_cons,List.take_succ_cons,List.take_zero,rI,rF,rB,rS,rSl,aiU,List.cons.injEq,and_true] at e0 e1 e2 e3 e4
  subst e0
  subst e1
  subst e2
  obtain ⟨rfl,rfl,rfl,rfl⟩:=e3
  subst e4
  exact ⟨.nil x0 x1 x2 x3,.nil x0 x1 x2 x3 ⟨w0,w1,w2,w3⟩⟩
 match qs,hl with
 |[c0,c1,c2,c3,c4,c5,c6,c7],_=>
 simp only [List.drop_zero,List.drop_succ_cons,List.take_succ_cons,List.take_zero,rI,rF,rB,rS,rSl,aiU,List.cons.injEq,and_true] at e0 e1 e2 e3 e4
 subst e0
 subst e1
 subst e2
 obtain ⟨rfl,rfl,rfl,rfl⟩:=e3
 subst e4
 exact ⟨.some x0 x1 x2 x3 rows (fun r hm=>by obtain ⟨⟨m,q1,q2⟩,q3⟩:=hr r hm;exact (ih m q1 r q2 q3).1),.some x0 x1 x2 x3 rows ⟨w0,w1,w2,w3⟩ hrl (fun r hm=>by obtain ⟨⟨m,q1,q2⟩,q3⟩:=hr r hm;exact (ih m q1 r q2 q3).2)⟩
theorem rd49:RdT Go.Proofs.Tryz.prog 49 za zJ:=by
 intro n qs hq hb
 obtain ⟨g,w⟩:=rdG49 n qs hq hb
 exact ⟨⟨qs,g⟩,rfl,w,hb⟩
theorem rd23:RdT Go.Proofs.Tryz.prog 23 (rSl za) (wSl zJ):=agK (e:=49) hH (fun x h=>by have:=Zi x;rw [h] at this;cases this) rd49
theorem rd101:RdT Go.Proofs.Tryz.prog 101 zl QK:=by
 intro n qs hq hb
 cases n with
 |zero=>exact hq.elim
 |succ n=>
 have u:Go.Proofs.Tryz.prog.underlying 101=some (.struct (ae8 Go.Proofs.Tryz.prog 101)):=by kernel_rfl
 have hl:=ahO (sz:=9) u hH hq
 obtain ⟨x0,e0,w0⟩:=qI (i:=0) (off:=0) (sz:=1) u hH hH rd3 hq hb
 obtain ⟨x1,e1,w1⟩:=qI (i:=1) (off:=1) (sz:=8) u hH hH rd49 hq hb
 rw [zt x1] at e1
 replace w1:Zt (zc x1):=by unfold zJ at w1;rw [zt x1] at w1;exact w1
 generalize zc x1=x1 at e1 w1
 match qs,hl with
 |[c0,c1,c2,c3,c4,c5,c6,c7,c8],_=>
 simp only [List.drop_zero,List.drop_succ_cons,List.take_succ_cons,List.take_zero,rI,rF,rB,rS,rSl,Z7,List.cons.injEq,and_true] at e0 e1
 subst e0
 obtain ⟨rfl,rfl,rfl,rfl,rfl,rfl,rfl,rfl⟩:=e1
 exact ⟨⟨x0,x1⟩,rfl,w0,w1⟩
theorem rd24:RdT Go.Proofs.Tryz.prog 24 (rSl zl) (wSl QK):=agK (e:=101) hH (fun x h=>nomatch h) rd101
theorem rd4:RdT Go.Proofs.Tryz.prog 4 rB wB:=av5 hH
theorem rd86:RdT Go.Proofs.Tryz.prog 86 zx aey:=by
 intro n qs hq hb
 cases n with
 |zero=>exact hq.elim
 |succ n=>
 have u:Go.Proofs.Tryz.prog.underlying 86=some (.struct (ae8 Go.Proofs.Tryz.prog 86)):=by kernel_rfl
 have hl:=ahO (sz:=2) u hH hq
 obtain ⟨x0,e0,w0⟩:=qI (i:=0) (off:=0) (sz:=1) u hH hH rd3 hq hb
 obtain ⟨x1,e1,w1⟩:=qI (i:=1) (off:=1) (sz:=1) u hH hH rd4 hq hb
 match qs,hl with
 |[c0,c1],_=>
 simp only [List.drop_zero,List.drop_succ_cons,List.take_succ_cons,List.take_zero,rI,rF,rB,rS,rSl,List.cons.injEq,and_true] at e0 e1
 subst e0
 subst e1
 exact ⟨⟨x0,x1⟩,rfl,w0,w1⟩
theorem rd25:RdT Go.Proofs.Tryz.prog 25 (rSl zx) (wSl aey):=agK (e:=86) hH (fun x h=>nomatch h) rd86
theorem rdG66:∀ (n:Nat) (qs:List PV),HasT Go.Proofs.Tryz.prog n 66 qs→PV.bulkL qs≤1048576→Good_api_Plan qs∧acv qs:=by
 intro n
 induction n using Nat.strongRecOn with
 |ind n ih=>
 intro qs hq hb
 cases n with
 |zero=>exact hq.elim
 |succ n=>
 have u:Go.Proofs.Tryz.prog.underlying 66=some (.struct (ae8 Go.Proofs.Tryz.prog 66)):=by kernel_rfl
 have hl:=ahO (sz:=9) u hH hq
 obtain ⟨x0,e0,w0⟩:=qI (i:=0) (off:=0) (sz:=1) u hH hH rd3 hq hb
 obtain ⟨x1,e1,w1⟩:=qI (i:=1) (off:=1) (sz:=1) u hH hH rd3 hq hb
 obtain ⟨x2,e2,w2⟩:=qI (i:=2) (off:=2) (sz:=1) u hH hH rd23 hq hb
 obtain ⟨x3,e3,w3⟩:=qI (i:=3) (off:=3) (sz:=1) u hH hH rd23 hq hb
 obtain ⟨x4,e4,w4⟩:=qI (i:=4) (off:=4) (sz:=1) u hH hH rd23 hq hb
 obtain ⟨x5,e5,w5⟩:=qI (i:=5) (off:=5) (sz:=1) u hH hH rd23 hq hb
 obtain ⟨x6,e6,w6⟩:=qI (i:=6) (off:=6) (sz:=1) u hH hH rd24 hq hb
 obtain ⟨x7,e7,w7⟩:=qI (i:=7) (off:=7) (sz:=1) u hH hH rd25 hq hb
 have hk:=avE (i:=8) (off:=8) (st:=64) u hH hH hH hH hq hb
 rcases hk with e8|⟨rows,e8,hrl,hr⟩
 ·match qs,hl with
  |[c0,c1,c2,c3,c4,c5,c6,c7,c8],_=>
  simp only [List.drop_zero,List.drop_succ_cons,List.take_succ_cons,List.take_zero,rI,rF,rB,rS,rSl,List.cons.injEq,and_true] at e0 e1 e2 e3 e4 e5 e6 e7 e8
  subst e0
  subst e1
  subst e2
  subst e3
  subst e4
  subst e5
  subst e6
  subst e7
  subst e8
  exact ⟨.nil x0 x1 x2 x3 x4 x5 x6 x7,.nil x0 x1 x2 x3 x4 x5 x6 x7 ⟨w0,w1,w2,w3,w4,w5,w6,w7⟩⟩
 match qs,hl with
 |[c0,c1,c2,c3,c4,c5,c6,c7,c8],_=>
 simp only [List.drop_zero,List.drop_succ_cons,List.take_succ_cons,List.take_zero,rI,rF,rB,rS,rSl,List.cons.injEq,and_true] at e0 e1 e2 e3 e4 e5 e6 e7 e8
 subst e0
 subst e1
 subst e2
 subst e3
 subst e4
 subst e5
 subst e6
 subst e7
 subst e8
 exact ⟨.some x0 x1 x2 x3 x4 x5 x6 x7 rows (fun r hm=>by obtain ⟨⟨m,q1,q2⟩,q3⟩:=hr r hm;exact (ih m q1 r q2 q3).1),.some x0 x1 x2 x3 x4 x5 x6 x7 rows ⟨w0,w1,w2,w3,w4,w5,w6,w7⟩ hrl (fun r hm=>by obtain ⟨⟨m,q1,q2⟩,q3⟩:=hr r hm;exact (ih m q1 r q2 q3).2)⟩
theorem rd66:RdT Go.Proofs.Tryz.prog 66 zA aks:=by
 intro n qs hq hb
 obtain ⟨g,w⟩:=rdG66 n qs hq hb
 exact ⟨⟨qs,g⟩,rfl,w,hb⟩
theorem rd22:RdT Go.Proofs.Tryz.prog 22 (rSl rS) (wSl wS):=agK (e:=9) hH (fun x h=>nomatch h) rd9
theorem rd27:RdT Go.Proofs.Tryz.prog 27 arw Qg:=by
 intro n qs hq hb
 cases n with
 |zero=>exact hq.elim
 |succ n=>
 have u:Go.Proofs.Tryz.prog.underlying 27=some (.struct (ae8 Go.Proofs.Tryz.prog 27)):=by kernel_rfl
 have hl:=ahO (sz:=6) u hH hq
 obtain ⟨x0,e0,w0⟩:=qI (i:=0) (off:=0) (sz:=1) u hH hH rd22 hq hb
 obtain ⟨x1,e1,w1⟩:=qI (i:=1) (off:=1) (sz:=1) u hH hH rd23 hq hb
 obtain ⟨x2,e2,w2⟩:=qI (i:=2) (off:=2) (sz:=1) u hH hH rd4 hq hb
 obtain ⟨x3,e3,w3⟩:=qI (i:=3) (off:=3) (sz:=1) u hH hH rd23 hq hb
 obtain ⟨x4,e4,w4⟩:=qI (i:=4) (off:=4) (sz:=1) u hH hH rd24 hq hb
 obtain ⟨x5,e5,w5⟩:=qI (i:=5) (off:=5) (sz:=1) u hH hH rd25 hq hb
 match qs,hl with
 |[c0,c1,c2,c3,c4,c5],_=>
 simp only [List.drop_zero,List.drop_succ_cons,List.take_succ_cons,List.take_zero,rI,rF,rB,rS,rSl,List.cons.injEq,and_true] at e0 e1 e2 e3 e4 e5
 subst e0
 subst e1
 subst e2
 subst e3
 subst e4
 subst e5
 exact ⟨⟨x0,x1,x2,x3,x4,x5⟩,rfl,w0,w1,w2,w3,w4,w5⟩
theorem rd81:RdT Go.Proofs.Tryz.prog 81 zU ahk:=by
 intro n qs hq hb
 cases n with
 |zero=>exact hq.elim
 |succ n=>
 have u:Go.Proofs.Tryz.prog.underlying 81=some (.struct (ae8 Go.Proofs.Tryz.prog 81)):=by kernel_rfl
 have hl:=ahO (sz:=2) u hH hq
 obtain ⟨x0,e0,w0⟩:=qI (i:=0) (off:=0) (sz:=1) u hH hH rd9 hq hb
 obtain ⟨x1,e1,w1⟩:=qI (i:=1) (off:=1) (sz:=1) u hH hH rd3 hq hb
 match qs,hl with
 |[c0,c1],_=>
 simp only [List.drop_zero,List.drop_succ_cons,List.take_succ_cons,List.take_zero,rI,rF,rB,rS,rSl,List.cons.injEq,and_true] at e0 e1
 subst e0
 subst e1
 exact ⟨⟨x0,x1⟩,rfl,w0,w1⟩
theorem rd82:RdT Go.Proofs.Tryz.prog 82 (rSl zU) (wSl ahk):=agK (e:=81) hH (fun x h=>nomatch h) rd81
theorem rd84:RdT Go.Proofs.Tryz.prog 84 zm QD:=by
 intro n qs hq hb
 cases n with
 |zero=>exact hq.elim
 |succ n=>
 have u:Go.Proofs.Tryz.prog.underlying 84=some (.struct (ae8 Go.Proofs.Tryz.prog 84)):=by kernel_rfl
 have hl:=ahO (sz:=2) u hH hq
 obtain ⟨x0,e0,w0⟩:=qI (i:=0) (off:=0) (sz:=1) u hH hH rd9 hq hb
 obtain ⟨x1,e1,w1⟩:=qI (i:=1) (off:=1) (sz:=1) u hH hH rd82 hq hb
 match qs,hl with
 |[c0,c1],_=>
 simp only [List.drop_zero,List.drop_succ_cons,List.take_succ_cons,List.take_zero,rI,rF,rB,rS,rSl,List.cons.injEq,and_true] at e0 e1
 subst e0
 subst e1
 exact ⟨⟨x0,x1⟩,rfl,w0,w1⟩
theorem rd28:RdT Go.Proofs.Tryz.prog 28 (rSl zm) (wSl QD):=agK (e:=84) hH (fun x h=>nomatch h) rd84
theorem spec (xs:List AV) (h:apt Go.Proofs.Tryz.prog [66,27,28] xs 1048576):∃ N H',call G N 5 xs []=some (.ret (.pv (.bool true)),H'):=by
 match xs,h with
 |[x0,x1,x2],h=>
  obtain ⟨n0,q0,c0,h0,f0,d0,n1,q1,c1,h1,f1,d1,n2,q2,c2,h2,f2,d2,_⟩:=h
  obtain ⟨z0,rfl,v0⟩:=atg (b:=0) rd66 hH h0 hO f0
  have w0:aaU (zj z0):=by
   unfold aks at v0
   rw [Zd z0] at v0
   exact v0
  rw [Zd z0]
  obtain ⟨z1,rfl,w1⟩:=atg (b:=0) rd27 hH h1 hO f1
  obtain ⟨z2,⟨p2,g2,rfl⟩,w2⟩:=avK (b:=0) rd28 hH h2 hO f2
  obtain rfl:=(List.cons.inj g2).1
  exact ⟨4000000,[],aia (r:=true) (ald rfl w0 w1 w2)⟩
theorem contract (H:Type) (enc:TypeId×Value→H) (W:World) (base:Nat) (args:Array Value) (ds gs:List (DataW H)) (before:List MemPlace)
  (hval:∀ (j:Nat) t v,Tryz.f5.params[j]?=some t→args[j]?=some v→Value.okWide Tryz.prog W .any base t v)
  (hW:DataW.Whole enc Tryz.prog Tryz.f5.params.toList Rows.planAnswersSpec.vars false W args.toList ds gs before) (hk:Rows.uptoBulkAll ds≤1048576):
  Calls Tryz.prog 5 args W fun e W'=>∃ v,e=.returned v∧Rows.planAnswersSpec.post enc Tryz.prog Tryz.f5 false true false false W args v W':=
 aou G_ok GP (t0:=4) (bound:=1048576) [3,2,45,9,47,49,23,101,24,4,86,25,64,66,22,27,81,82,84,28] hH bulk hH hH rfl hH hH hH rfl
  (fun ds hds=>by
   match ds,hds with
   |[d0,d1,d2],_=>rfl)
  spec W base args ds gs before hval hW hk
theorem lifted (os:Os) (started:os.Started) (H:Type) (enc:TypeId×Value→H) (F:Stop.Interp):
  ReturnsInHanded {} Tryz.checked os 5 .any ((Rows.OpenSpec.upto Rows.planAnswersSpec).pre6 enc Tryz.prog Tryz.f5 Rows.planAnswersUptoRow.domain false) (((Rows.OpenSpec.upto Rows.planAnswersSpec).at F).post enc Tryz.prog Tryz.f5 false true false false):=by
 refine returnsInHanded_of_cond (C:=Tryz.checked) (s:=Rows.OpenSpec.upto Rows.planAnswersSpec) (k:=Rows.uptoSmall) rfl own started hH Tryz.func5
  (OpenSpec.witness (enc:=enc) (C:=Tryz.checked) (s:=Rows.OpenSpec.upto Rows.planAnswersSpec) (k:=Rows.uptoSmall) rfl false ⟨#[],#[.agg #[.int .i64 0,.int .i64 0,.slice none 0 0,.slice none 0 0,.slice none 0 0,.slice none 0 0,.slice none 0 0,.slice none 0 0,.slice none 0 0],.agg #[.slice none 0 0,.slice none 0 0,.bool false,.slice none 0 0,.slice none 0 0,.slice none 0 0],.slice none 0 0],[]⟩ 8 hH hH hH
   (x:=([.agg [.lit (.int .i64 0),.lit (.int .i64 0),.nil,.nil,.nil,.nil,.nil,.nil,.nil],.agg [.nil,.nil,.lit (.bool false),.nil,.nil,.nil],.nil],[],[])) hH rfl hH) ?_
 intro W base args ds gs before hval hW _ hk _
 have hb:Rows.uptoBulkAll ds≤1048576:=by
  have h1:gs=[]:=by
   obtain ⟨p,q,hA,hV,_⟩:=hW
   exact (trodVars_none hV).1
  rw [h1,List.append_nil] at hk
  simpa [Rows.uptoSmall] using hk
 exact contract H enc W base args ds gs before hval hW hb
theorem over:Rows.planAnswersUptoRow.holds Tryz.pinned (Rows.OpenSpec.upto Rows.planAnswersSpec):=
 OpenClaim.holds_of_cond 5 Tryz.f5 rfl rfl rfl rfl rfl rfl rfl ⟨rfl,rfl,rfl,rfl,rfl⟩ rfl rfl rfl rfl rfl hH Tryz.func5 hH
  (of_decide_eq_true hH) (by unfold Func.isWrapper;first|(rw [if_pos (by decide +kernel)];kernel_rfl)|(rw [if_neg (by decide +kernel)];exact ⟨rfl,rfl⟩))
  (fun os started H enc _ F=>lifted os started H enc F)
theorem proved:Rows.PlanAnswersUptoSaid:=over
end Go.Proofs.YtejbcaheoloahaaGreat.planAnswers
