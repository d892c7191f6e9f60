/- said -/
import Derived.Test.YtejbcaheoloahaaGreatWB5
import Derived.Test.YtejbcaheoloahaaGreatFE
import Derived.Test.YtejbcaheoloahaaGreatAbRd
import Derived.Test.YtejbcaheoloahaaGreatAbArr
import Derived.Test.YtejbcaheoloahaaGreatAbRec
import Derived.Test.YtejbcaheoloahaaGreatRows
namespace Go.Proofs.YtejbcaheoloahaaGreat.queryBack
open Go Go.Ab Go.Ab.S1 Go.Pl
open Go.ChangeShapes Go.WideShapes Go.ChangeAt Go.RowKit
set_option linter.all false
set_option maxRecDepth 100000
theorem own:ownKnob Tryz.prog.godebug=none:=by kernel_rfl
theorem bulk {H:Type}:Bulk (H:=H) Rows.uptoBulk Rows.uptoBulkAll:=
 ⟨fun b=>by simp [Rows.uptoBulk],fun l=>by cases l<;>simp [Rows.uptoBulk],by simp [Rows.uptoBulk],fun d=>by simp [Rows.uptoBulk],fun a b=>by simp [Rows.uptoBulk],fun a=>by simp [Rows.uptoBulk],
  by simp [Rows.uptoBulkAll],fun d r=>by simp [Rows.uptoBulkAll]⟩
theorem rd9:RdT Go.Proofs.Tryz.prog 9 rS wS:=atg hJ
theorem rd22:RdT Go.Proofs.Tryz.prog 22 (rSl rS) (wSl wS):=aeB (e:=9) hJ (fun x h=>nomatch h) rd9
theorem rd3:RdT Go.Proofs.Tryz.prog 3 (rI .i64) (wI .i64):=apk hJ
theorem rd2:RdT Go.Proofs.Tryz.prog 2 (rI .i64) (wI .i64):=apk hJ
theorem rd45:RdT Go.Proofs.Tryz.prog 45 (rF .f64) (wF .f64):=atq hJ
theorem rd47:RdT Go.Proofs.Tryz.prog 47 ahj ZN:=by
 intro n qs hq hb
 cases n with
 |zero=>exact hq.elim
 |succ n=>
 have u:Go.Proofs.Tryz.prog.underlying 47=some (.struct (aem Go.Proofs.Tryz.prog 47)):=by kernel_rfl
 have hl:=aif (sz:=4) u hJ hq
 obtain ⟨x0,e0,w0⟩:=Qm (i:=0) (off:=0) (sz:=1) u hJ hJ rd3 hq hb
 obtain ⟨x1,e1,w1⟩:=Qm (i:=1) (off:=1) (sz:=1) u hJ hJ rd2 hq hb
 obtain ⟨x2,e2,w2⟩:=Qm (i:=2) (off:=2) (sz:=1) u hJ hJ rd45 hq hb
 obtain ⟨x3,e3,w3⟩:=Qm (i:=3) (off:=3) (sz:=1) u hJ hJ rd9 hq hb
 match qs,hl with
 |[c0,c1,c2,c3],_=>
 simp only [List.drop_zero,List.drop_succ_cons,List.take_succ_cons,List.take_zero,rI,rF,rB,rS,rSl,List.cons.injEq,and_true] at e0 e1 e2 e3
 subst e0
 subst e1
 subst e2
 subst e3
 exact ⟨⟨x0,x1,x2,x3⟩,rfl,w0,w1,w2,w3⟩
theorem rdG49:∀ (n:Nat) (qs:List PV),HasT Go.Proofs.Tryz.prog n 49 qs→PV.bulkL qs≤1048576→Good_api_Expr qs∧acJ qs:=by
 intro n
 induction n using Nat.strongRecOn with
 |ind n ih=>
 intro qs hq hb
 cases n with
 |zero=>exact hq.elim
 |succ n=>
 have u:Go.Proofs.Tryz.prog.underlying 49=some (.struct (aem Go.Proofs.Tryz.prog 49)):=by kernel_rfl
 have hl:=aif (sz:=8) u hJ hq
 obtain ⟨x0,e0,w0⟩:=Qm (i:=0) (off:=0) (sz:=1) u hJ hJ rd3 hq hb
 obtain ⟨x1,e1,w1⟩:=Qm (i:=1) (off:=1) (sz:=1) u hJ hJ rd3 hq hb
 obtain ⟨x2,e2,w2⟩:=Qm (i:=2) (off:=2) (sz:=1) u hJ hJ rd3 hq hb
 obtain ⟨x3,e3,w3⟩:=Qm (i:=3) (off:=3) (sz:=4) u hJ hJ rd47 hq hb
 have hk:=atl (i:=4) (off:=7) (st:=23) u hJ hJ hJ hJ hq hb
 rcases hk with e4|⟨rows,e4,hrl,hr⟩
 ·match qs,hl with
  |[c0,c1,c2,c3,c4,c5,c6,c7],_=>
  simp only [List.drop_zero,List.drop_succ_cons,List.take_succ_cons,List.take_zero,rI,rF,rB,rS,rSl,ahj,List.cons.injEq,and_true] at e0 e1 e2 e3 e4
  subst e0
  subst e1
  subst e2
  obtain ⟨rfl,rfl,rfl,rfl⟩:=e3
  subst e4
  exact ⟨.nil x0 x1 x2 x3,.nil x0 x1 x2 x3 ⟨w0,w1,w2,w3⟩⟩
 match qs,hl with
 |[c0,c1,c2,c3,c4,c5,c6,c7],_=>
 simp only [List.drop_zero,List.drop_succ_cons,List.take_succ_cons,List.take_zero,rI,rF,rB,rS,rSl,ahj,List.cons.injEq,and_true] at e0 e1 e2 e3 e4
 subst e0
 subst e1
 subst e2
 obtain ⟨rfl,rfl,rfl,rfl⟩:=e3
 subst e4
 exact ⟨.some x0 x1 x2 x3 rows (fun r hm=>by obtain ⟨⟨m,q1,q2⟩,q3⟩:=hr r hm;exact (ih m q1 r q2 q3).1),.some x0 x1 x2 x3 rows ⟨w0,w1,w2,w3⟩ hrl (fun r hm=>by obtain ⟨⟨m,q1,q2⟩,q3⟩:=hr r hm;exact (ih m q1 r q2 q3).2)⟩
theorem rd49:RdT Go.Proofs.Tryz.prog 49 za qw:=by
 intro n qs hq hb
 obtain ⟨g,w⟩:=rdG49 n qs hq hb
 exact ⟨⟨qs,g⟩,rfl,w,hb⟩
theorem rd23:RdT Go.Proofs.Tryz.prog 23 (rSl za) (wSl qw):=aeB (e:=49) hJ (fun x h=>by have:=Z6 x;rw [h] at this;cases this) rd49
theorem rd4:RdT Go.Proofs.Tryz.prog 4 rB wB:=asL hJ
theorem rd101:RdT Go.Proofs.Tryz.prog 101 zd acN:=by
 intro n qs hq hb
 cases n with
 |zero=>exact hq.elim
 |succ n=>
 have u:Go.Proofs.Tryz.prog.underlying 101=some (.struct (aem Go.Proofs.Tryz.prog 101)):=by kernel_rfl
 have hl:=aif (sz:=9) u hJ hq
 obtain ⟨x0,e0,w0⟩:=Qm (i:=0) (off:=0) (sz:=1) u hJ hJ rd3 hq hb
 obtain ⟨x1,e1,w1⟩:=Qm (i:=1) (off:=1) (sz:=8) u hJ hJ rd49 hq hb
 rw [zU x1] at e1
 replace w1:zQ (zh x1):=by unfold qw at w1;rw [zU x1] at w1;exact w1
 generalize zh x1=x1 at e1 w1
 match qs,hl with
 |[c0,c1,c2,c3,c4,c5,c6,c7,c8],_=>
 simp only [List.drop_zero,List.drop_succ_cons,List.take_succ_cons,List.take_zero,rI,rF,rB,rS,rSl,qi,List.cons.injEq,and_true] at e0 e1
 subst e0
 obtain ⟨rfl,rfl,rfl,rfl,rfl,rfl,rfl,rfl⟩:=e1
 exact ⟨⟨x0,x1⟩,rfl,w0,w1⟩
theorem rd24:RdT Go.Proofs.Tryz.prog 24 (rSl zd) (wSl acN):=aeB (e:=101) hJ (fun x h=>nomatch h) rd101
theorem rd86:RdT Go.Proofs.Tryz.prog 86 zl ajN:=by
 intro n qs hq hb
 cases n with
 |zero=>exact hq.elim
 |succ n=>
 have u:Go.Proofs.Tryz.prog.underlying 86=some (.struct (aem Go.Proofs.Tryz.prog 86)):=by kernel_rfl
 have hl:=aif (sz:=2) u hJ hq
 obtain ⟨x0,e0,w0⟩:=Qm (i:=0) (off:=0) (sz:=1) u hJ hJ rd3 hq hb
 obtain ⟨x1,e1,w1⟩:=Qm (i:=1) (off:=1) (sz:=1) u hJ hJ rd4 hq hb
 match qs,hl with
 |[c0,c1],_=>
 simp only [List.drop_zero,List.drop_succ_cons,List.take_succ_cons,List.take_zero,rI,rF,rB,rS,rSl,List.cons.injEq,and_true] at e0 e1
 subst e0
 subst e1
 exact ⟨⟨x0,x1⟩,rfl,w0,w1⟩
theorem rd25:RdT Go.Proofs.Tryz.prog 25 (rSl zl) (wSl ajN):=aeB (e:=86) hJ (fun x h=>nomatch h) rd86
theorem rd27:RdT Go.Proofs.Tryz.prog 27 aoR aaV:=by
 intro n qs hq hb
 cases n with
 |zero=>exact hq.elim
 |succ n=>
 have u:Go.Proofs.Tryz.prog.underlying 27=some (.struct (aem Go.Proofs.Tryz.prog 27)):=by kernel_rfl
 have hl:=aif (sz:=6) u hJ hq
 obtain ⟨x0,e0,w0⟩:=Qm (i:=0) (off:=0) (sz:=1) u hJ hJ rd22 hq hb
 obtain ⟨x1,e1,w1⟩:=Qm (i:=1) (off:=1) (sz:=1) u hJ hJ rd23 hq hb
 obtain ⟨x2,e2,w2⟩:=Qm (i:=2) (off:=2) (sz:=1) u hJ hJ rd4 hq hb
 obtain ⟨x3,e3,w3⟩:=Qm (i:=3) (off:=3) (sz:=1) u hJ hJ rd23 hq hb
 obtain ⟨x4,e4,w4⟩:=Qm (i:=4) (off:=4) (sz:=1) u hJ hJ rd24 hq hb
 obtain ⟨x5,e5,w5⟩:=Qm (i:=5) (off:=5) (sz:=1) u hJ hJ rd25 hq hb
 match qs,hl with
 |[c0,c1,c2,c3,c4,c5],_=>
 simp only [List.drop_zero,List.drop_succ_cons,List.take_succ_cons,List.take_zero,rI,rF,rB,rS,rSl,List.cons.injEq,and_true] at e0 e1 e2 e3 e4 e5
 subst e0
 subst e1
 subst e2
 subst e3
 subst e4
 subst e5
 exact ⟨⟨x0,x1,x2,x3,x4,x5⟩,rfl,w0,w1,w2,w3,w4,w5⟩
theorem rd81:RdT Go.Proofs.Tryz.prog 81 zX afX:=by
 intro n qs hq hb
 cases n with
 |zero=>exact hq.elim
 |succ n=>
 have u:Go.Proofs.Tryz.prog.underlying 81=some (.struct (aem Go.Proofs.Tryz.prog 81)):=by kernel_rfl
 have hl:=aif (sz:=2) u hJ hq
 obtain ⟨x0,e0,w0⟩:=Qm (i:=0) (off:=0) (sz:=1) u hJ hJ rd9 hq hb
 obtain ⟨x1,e1,w1⟩:=Qm (i:=1) (off:=1) (sz:=1) u hJ hJ rd3 hq hb
 match qs,hl with
 |[c0,c1],_=>
 simp only [List.drop_zero,List.drop_succ_cons,List.take_succ_cons,List.take_zero,rI,rF,rB,rS,rSl,List.cons.injEq,and_true] at e0 e1
 subst e0
 subst e1
 exact ⟨⟨x0,x1⟩,rfl,w0,w1⟩
theorem rd82:RdT Go.Proofs.Tryz.prog 82 (rSl zX) (wSl afX):=aeB (e:=81) hJ (fun x h=>nomatch h) rd81
theorem rd84:RdT Go.Proofs.Tryz.prog 84 zA aao:=by
 intro n qs hq hb
 cases n with
 |zero=>exact hq.elim
 |succ n=>
 have u:Go.Proofs.Tryz.prog.underlying 84=some (.struct (aem Go.Proofs.Tryz.prog 84)):=by kernel_rfl
 have hl:=aif (sz:=2) u hJ hq
 obtain ⟨x0,e0,w0⟩:=Qm (i:=0) (off:=0) (sz:=1) u hJ hJ rd9 hq hb
 obtain ⟨x1,e1,w1⟩:=Qm (i:=1) (off:=1) (sz:=1) u hJ hJ rd82 hq hb
 match qs,hl with
 |[c0,c1],_=>
 simp only [List.drop_zero,List.drop_succ_cons,List.take_succ_cons,List.take_zero,rI,rF,rB,rS,rSl,List.cons.injEq,and_true] at e0 e1
 subst e0
 subst e1
 exact ⟨⟨x0,x1⟩,rfl,w0,w1⟩
theorem rd28:RdT Go.Proofs.Tryz.prog 28 (rSl zA) (wSl aao):=aeB (e:=84) hJ (fun x h=>nomatch h) rd84
theorem rd5:RdT Go.Proofs.Tryz.prog 5 (rI .u8) (wI .u8):=apk hJ
theorem rd29:RdT Go.Proofs.Tryz.prog 29 (rSl (rI .u8)) (wSl (wI .u8)):=aeB (e:=5) hJ (fun x h=>nomatch h) rd5
theorem spec (xs:List AV) (h:am5 Go.Proofs.Tryz.prog [27,28,29] xs 1048576):∃ N H',call G N 3 xs []=some (.ret (.pv (.bool true)),H'):=by
 match xs,h with
 |[x0,x1,x2],h=>
  obtain ⟨n0,q0,c0,h0,f0,d0,n1,q1,c1,h1,f1,d1,n2,q2,c2,h2,f2,d2,_⟩:=h
  obtain ⟨z0,rfl,w0⟩:=asB (b:=0) rd27 hJ h0 hZ f0
  obtain ⟨z1,⟨p1,g1,rfl⟩,w1⟩:=aqp (b:=0) rd28 hJ h1 hZ f1
  obtain rfl:=(List.cons.inj g1).1
  obtain ⟨z2,⟨p2,g2,rfl⟩,w2⟩:=aqp (b:=0) rd29 hJ h2 hZ f2
  obtain rfl:=(List.cons.inj g2).1
  exact ⟨4000000,[],ah8 (r:=true) (alA rfl w0 w1 w2)⟩
theorem contract (H:Type) (enc:TypeId×Value→H) (W:World) (base:Nat) (args:Array Value) (ds gs:List (DataW H)) (before:List MemPlace)
  (hval:∀ (j:Nat) t v,Tryz.f3.params[j]?=some t→args[j]?=some v→Value.okWide Tryz.prog W .any base t v)
  (hW:DataW.Whole enc Tryz.prog Tryz.f3.params.toList Rows.queryBackSpec.vars false W args.toList ds gs before) (hk:Rows.uptoBulkAll ds≤1048576):
  Calls Tryz.prog 3 args W fun e W'=>∃ v,e=.returned v∧Rows.queryBackSpec.post enc Tryz.prog Tryz.f3 false true false false W args v W':=
 amh G_ok GP (t0:=4) (bound:=1048576) [9,22,3,2,45,47,49,23,4,101,24,86,25,27,81,82,84,28,5,29] hJ bulk hJ hJ rfl hJ hJ hJ rfl
  (fun ds hds=>by
   match ds,hds with
   |[d0,d1,d2],_=>rfl)
  spec W base args ds gs before hval hW hk
theorem lifted (os:Os) (started:os.Started) (H:Type) (enc:TypeId×Value→H) (F:Stop.Interp):
  ReturnsInHanded {} Tryz.checked os 3 .any ((Rows.OpenSpec.upto Rows.queryBackSpec).pre6 enc Tryz.prog Tryz.f3 Rows.queryBackUptoRow.domain false) (((Rows.OpenSpec.upto Rows.queryBackSpec).at F).post enc Tryz.prog Tryz.f3 false true false false):=by
 refine returnsInHanded_of_cond (C:=Tryz.checked) (s:=Rows.OpenSpec.upto Rows.queryBackSpec) (k:=Rows.uptoSmall) rfl own started hJ Tryz.func3
  (OpenSpec.witness (enc:=enc) (C:=Tryz.checked) (s:=Rows.OpenSpec.upto Rows.queryBackSpec) (k:=Rows.uptoSmall) rfl false ⟨#[],#[.agg #[.slice none 0 0,.slice none 0 0,.bool false,.slice none 0 0,.slice none 0 0,.slice none 0 0],.slice none 0 0,.slice none 0 0],[]⟩ 8 hJ hJ hJ
   (x:=([.agg [.nil,.nil,.lit (.bool false),.nil,.nil,.nil],.nil,.nil],[],[])) hJ rfl hJ) ?_
 intro W base args ds gs before hval hW _ hk _
 have hb:Rows.uptoBulkAll ds≤1048576:=by
  have h1:gs=[]:=by
   obtain ⟨p,q,hA,hV,_⟩:=hW
   exact (trodVars_none hV).1
  rw [h1,List.append_nil] at hk
  simpa [Rows.uptoSmall] using hk
 exact contract H enc W base args ds gs before hval hW hb
theorem over:Rows.queryBackUptoRow.holds Tryz.pinned (Rows.OpenSpec.upto Rows.queryBackSpec):=
 OpenClaim.holds_of_cond 3 Tryz.f3 rfl rfl rfl rfl rfl rfl rfl ⟨rfl,rfl,rfl,rfl,rfl⟩ rfl rfl rfl rfl rfl hJ Tryz.func3 hJ
  (of_decide_eq_true hJ) (by unfold Func.isWrapper;first|(rw [if_pos (by decide +kernel)];kernel_rfl)|(rw [if_neg (by decide +kernel)];exact ⟨rfl,rfl⟩))
  (fun os started H enc _ F=>lifted os started H enc F)
theorem proved:Rows.QueryBackUptoSaid:=over
end Go.Proofs.YtejbcaheoloahaaGreat.queryBack
