/- said -/
import Derived.Test.YtejbcaheoloahaaGreatWB3
import Derived.Test.YtejbcaheoloahaaGreatFE
import Derived.Test.YtejbcaheoloahaaGreatAbRd
import Derived.Test.YtejbcaheoloahaaGreatAbArr
import Derived.Test.YtejbcaheoloahaaGreatAbRec
import Derived.Test.YtejbcaheoloahaaGreatRows
namespace Go.Proofs.YtejbcaheoloahaaGreat.planBack
open Go Go.Ab Go.Ab.S1 Go.Pl
open Go.ChangeShapes Go.WideShapes Go.ChangeAt Go.RowKit
set_option linter.unusedVariables false
set_option linter.unusedSimpArgs false
set_option maxRecDepth 100000
theorem own:ownKnob Tryz.prog.godebug=none:=by kernel_rfl
theorem bulk {H:Type}:Bulk (H:=H) Rows.uptoBulk Rows.uptoBulkAll:=
  ⟨fun b=>by simp [Rows.uptoBulk],fun l=>by cases l <;> simp [Rows.uptoBulk],by simp [Rows.uptoBulk],fun d=>by simp [Rows.uptoBulk],fun a b=>by simp [Rows.uptoBulk],fun a=>by simp [Rows.uptoBulk],
    by simp [Rows.uptoBulkAll],fun d r=>by simp [Rows.uptoBulkAll]⟩
theorem rd3:RdT Go.Proofs.Tryz.prog 3 (rI .i64) (wI .i64):=amI (by kernel_rfl)
theorem rd2:RdT Go.Proofs.Tryz.prog 2 (rI .i64) (wI .i64):=amI (by kernel_rfl)
theorem rd45:RdT Go.Proofs.Tryz.prog 45 (rF .f64) (wF .f64):=ap2 (by kernel_rfl)
theorem rd9:RdT Go.Proofs.Tryz.prog 9 rS wS:=ap5 (by kernel_rfl)
theorem rd47:RdT Go.Proofs.Tryz.prog 47 aeT Zp:=by
  intro n qs hq hb
  cases n with
  | zero=>exact hq.elim
  | succ n=>
  have u:Go.Proofs.Tryz.prog.underlying 47=some (.struct (aeb Go.Proofs.Tryz.prog 47)):=by kernel_rfl
  have hl:=aiX (sz:=4) u (by kernel_rfl) hq
  obtain ⟨x0,e0,w0⟩:=qP (i:=0) (off:=0) (sz:=1) u (by kernel_rfl) (by kernel_rfl) rd3 hq hb
  obtain ⟨x1,e1,w1⟩:=qP (i:=1) (off:=1) (sz:=1) u (by kernel_rfl) (by kernel_rfl) rd2 hq hb
  obtain ⟨x2,e2,w2⟩:=qP (i:=2) (off:=2) (sz:=1) u (by kernel_rfl) (by kernel_rfl) rd45 hq hb
  obtain ⟨x3,e3,w3⟩:=qP (i:=3) (off:=3) (sz:=1) u (by kernel_rfl) (by kernel_rfl) rd9 hq hb
  match qs,hl with
  | [c0,c1,c2,c3],_=>
  simp only [List.drop_zero,List.drop_succ_cons,List.take_succ_cons,List.take_zero,rI,rF,rB,rS,rSl,List.cons.injEq,and_true] at e0 e1 e2 e3
  subst e0
  subst e1
  subst e2
  subst e3
  exact ⟨⟨x0,x1,x2,x3⟩,rfl,w0,w1,w2,w3⟩
theorem rdG49:∀ (n:Nat) (qs:List PV),HasT Go.Proofs.Tryz.prog n 49 qs→PV.bulkL qs≤1048576→Good_api_Expr qs∧aas qs:=by
  intro n
  induction n using Nat.strongRecOn with
  | ind n ih=>
  intro qs hq hb
  cases n with
  | zero=>exact hq.elim
  | succ n=>
  have u:Go.Proofs.Tryz.prog.underlying 49=some (.struct (aeb Go.Proofs.Tryz.prog 49)):=by kernel_rfl
  have hl:=aiX (sz:=8) u (by kernel_rfl) hq
  obtain ⟨x0,e0,w0⟩:=qP (i:=0) (off:=0) (sz:=1) u (by kernel_rfl) (by kernel_rfl) rd3 hq hb
  obtain ⟨x1,e1,w1⟩:=qP (i:=1) (off:=1) (sz:=1) u (by kernel_rfl) (by kernel_rfl) rd3 hq hb
  obtain ⟨x2,e2,w2⟩:=qP (i:=2) (off:=2) (sz:=1) u (by kernel_rfl) (by kernel_rfl) rd3 hq hb
  obtain ⟨x3,e3,w3⟩:=qP (i:=3) (off:=3) (sz:=4) u (by kernel_rfl) (by kernel_rfl) rd47 hq hb
  have hk:=aoD (i:=4) (off:=7) (st:=23) u (by kernel_rfl) (by kernel_rfl) (by kernel_rfl) (by kernel_rfl) hq hb
  rcases hk with e4 | ⟨rows,e4,hrl,hr⟩
  · match qs,hl with
    | [c0,c1,c2,c3,c4,c5,c6,c7],_=>
    simp only [List.drop_zero,List.drop_succ_cons,List.take_succ_cons,List.take_zero,rI,rF,rB,rS,rSl,aeT,List.cons.injEq,and_true] at e0 e1 e2 e3 e4
    subst e0
    subst e1
    subst e2
    obtain ⟨rfl,rfl,rfl,rfl⟩:=e3
    subst e4
    exact ⟨.nil x0 x1 x2 x3,.nil x0 x1 x2 x3 ⟨w0,w1,w2,w3⟩⟩
  · match qs,hl with
    | [c0,c1,c2,c3,c4,c5,c6,c7],_=>
    simp only [List.drop_zero,List.drop_succ_cons,List.take_succ_cons,List.take_zero,rI,rF,rB,rS,rSl,aeT,List.cons.injEq,and_true] at e0 e1 e2 e3 e4
    subst e0
    subst e1
    subst e2
    obtain ⟨rfl,rfl,rfl,rfl⟩:=e3
    subst e4
    exact ⟨.some x0 x1 x2 x3 rows (fun r hm=>by obtain ⟨⟨m,q1,q2⟩,q3⟩:=hr r hm; exact (ih m q1 r q2 q3).1),.some x0 x1 x2 x3 rows ⟨w0,w1,w2,w3⟩ hrl (fun r hm=>by obtain ⟨⟨m,q1,q2⟩,q3⟩:=hr r hm; exact (ih m q1 r q2 q3).2)⟩
theorem rd49:RdT Go.Proofs.Tryz.prog 49 za zN:=by
  intro n qs hq hb
  obtain ⟨g,w⟩:=rdG49 n qs hq hb
  exact ⟨⟨qs,g⟩,rfl,w,hb⟩
theorem rd23:RdT Go.Proofs.Tryz.prog 23 (rSl za) (wSl zN):=agB (e:=49) (by kernel_rfl) (fun x h=>by have:=qt x; rw [h] at this; cases this) rd49
theorem rd101:RdT Go.Proofs.Tryz.prog 101 zi aaD:=by
  intro n qs hq hb
  cases n with
  | zero=>exact hq.elim
  | succ n=>
  have u:Go.Proofs.Tryz.prog.underlying 101=some (.struct (aeb Go.Proofs.Tryz.prog 101)):=by kernel_rfl
  have hl:=aiX (sz:=9) u (by kernel_rfl) hq
  obtain ⟨x0,e0,w0⟩:=qP (i:=0) (off:=0) (sz:=1) u (by kernel_rfl) (by kernel_rfl) rd3 hq hb
  obtain ⟨x1,e1,w1⟩:=qP (i:=1) (off:=1) (sz:=8) u (by kernel_rfl) (by kernel_rfl) rd49 hq hb
  rw [Zj x1] at e1
  replace w1:zA (zk x1):=by unfold zN at w1; rw [Zj x1] at w1; exact w1
  generalize zk x1=x1 at e1 w1
  match qs,hl with
  | [c0,c1,c2,c3,c4,c5,c6,c7,c8],_=>
  simp only [List.drop_zero,List.drop_succ_cons,List.take_succ_cons,List.take_zero,rI,rF,rB,rS,rSl,Zu,List.cons.injEq,and_true] at e0 e1
  subst e0
  obtain ⟨rfl,rfl,rfl,rfl,rfl,rfl,rfl,rfl⟩:=e1
  exact ⟨⟨x0,x1⟩,rfl,w0,w1⟩
theorem rd24:RdT Go.Proofs.Tryz.prog 24 (rSl zi) (wSl aaD):=agB (e:=101) (by kernel_rfl) (fun x h=>nomatch h) rd101
theorem rd4:RdT Go.Proofs.Tryz.prog 4 rB wB:=apq (by kernel_rfl)
theorem rd86:RdT Go.Proofs.Tryz.prog 86 zj acx:=by
  intro n qs hq hb
  cases n with
  | zero=>exact hq.elim
  | succ n=>
  have u:Go.Proofs.Tryz.prog.underlying 86=some (.struct (aeb Go.Proofs.Tryz.prog 86)):=by kernel_rfl
  have hl:=aiX (sz:=2) u (by kernel_rfl) hq
  obtain ⟨x0,e0,w0⟩:=qP (i:=0) (off:=0) (sz:=1) u (by kernel_rfl) (by kernel_rfl) rd3 hq hb
  obtain ⟨x1,e1,w1⟩:=qP (i:=1) (off:=1) (sz:=1) u (by kernel_rfl) (by kernel_rfl) rd4 hq hb
  match qs,hl with
  | [c0,c1],_=>
  simp only [List.drop_zero,List.drop_succ_cons,List.take_succ_cons,List.take_zero,rI,rF,rB,rS,rSl,List.cons.injEq,and_true] at e0 e1
  subst e0
  subst e1
  exact ⟨⟨x0,x1⟩,rfl,w0,w1⟩
theorem rd25:RdT Go.Proofs.Tryz.prog 25 (rSl zj) (wSl acx):=agB (e:=86) (by kernel_rfl) (fun x h=>nomatch h) rd86
theorem rdG66:∀ (n:Nat) (qs:List PV),HasT Go.Proofs.Tryz.prog n 66 qs→PV.bulkL qs≤1048576→Good_api_Plan qs∧aat qs:=by
  intro n
  induction n using Nat.strongRecOn with
  | ind n ih=>
  intro qs hq hb
  cases n with
  | zero=>exact hq.elim
  | succ n=>
  have u:Go.Proofs.Tryz.prog.underlying 66=some (.struct (aeb Go.Proofs.Tryz.prog 66)):=by kernel_rfl
  have hl:=aiX (sz:=9) u (by kernel_rfl) hq
  obtain ⟨x0,e0,w0⟩:=qP (i:=0) (off:=0) (sz:=1) u (by kernel_rfl) (by kernel_rfl) rd3 hq hb
  obtain ⟨x1,e1,w1⟩:=qP (i:=1) (off:=1) (sz:=1) u (by kernel_rfl) (by kernel_rfl) rd3 hq hb
  obtain ⟨x2,e2,w2⟩:=qP (i:=2) (off:=2) (sz:=1) u (by kernel_rfl) (by kernel_rfl) rd23 hq hb
  obtain ⟨x3,e3,w3⟩:=qP (i:=3) (off:=3) (sz:=1) u (by kernel_rfl) (by kernel_rfl) rd23 hq hb
  obtain ⟨x4,e4,w4⟩:=qP (i:=4) (off:=4) (sz:=1) u (by kernel_rfl) (by kernel_rfl) rd23 hq hb
  obtain ⟨x5,e5,w5⟩:=qP (i:=5) (off:=5) (sz:=1) u (by kernel_rfl) (by kernel_rfl) rd23 hq hb
  obtain ⟨x6,e6,w6⟩:=qP (i:=6) (off:=6) (sz:=1) u (by kernel_rfl) (by kernel_rfl) rd24 hq hb
  obtain ⟨x7,e7,w7⟩:=qP (i:=7) (off:=7) (sz:=1) u (by kernel_rfl) (by kernel_rfl) rd25 hq hb
  have hk:=aoD (i:=8) (off:=8) (st:=64) u (by kernel_rfl) (by kernel_rfl) (by kernel_rfl) (by kernel_rfl) hq hb
  rcases hk with e8 | ⟨rows,e8,hrl,hr⟩
  · match qs,hl with
    | [c0,c1,c2,c3,c4,c5,c6,c7,c8],_=>
    simp only [List.drop_zero,List.drop_succ_cons,List.take_succ_cons,List.take_zero,rI,rF,rB,rS,rSl,List.cons.injEq,and_true] at e0 e1 e2 e3 e4 e5 e6 e7 e8
    subst e0
    subst e1
    subst e2
    subst e3
    subst e4
    subst e5
    subst e6
    subst e7
    subst e8
    exact ⟨.nil x0 x1 x2 x3 x4 x5 x6 x7,.nil x0 x1 x2 x3 x4 x5 x6 x7 ⟨w0,w1,w2,w3,w4,w5,w6,w7⟩⟩
  · match qs,hl with
    | [c0,c1,c2,c3,c4,c5,c6,c7,c8],_=>
    simp only [List.drop_zero,List.drop_succ_cons,List.take_succ_cons,List.take_zero,rI,rF,rB,rS,rSl,List.cons.injEq,and_true] at e0 e1 e2 e3 e4 e5 e6 e7 e8
    subst e0
    subst e1
    subst e2
    subst e3
    subst e4
    subst e5
    subst e6
    subst e7
    subst e8
    exact ⟨.some x0 x1 x2 x3 x4 x5 x6 x7 rows (fun r hm=>by obtain ⟨⟨m,q1,q2⟩,q3⟩:=hr r hm; exact (ih m q1 r q2 q3).1),.some x0 x1 x2 x3 x4 x5 x6 x7 rows ⟨w0,w1,w2,w3,w4,w5,w6,w7⟩ hrl (fun r hm=>by obtain ⟨⟨m,q1,q2⟩,q3⟩:=hr r hm; exact (ih m q1 r q2 q3).2)⟩
theorem rd66:RdT Go.Proofs.Tryz.prog 66 zd aga:=by
  intro n qs hq hb
  obtain ⟨g,w⟩:=rdG66 n qs hq hb
  exact ⟨⟨qs,g⟩,rfl,w,hb⟩
theorem rd5:RdT Go.Proofs.Tryz.prog 5 (rI .u8) (wI .u8):=amI (by kernel_rfl)
theorem rd29:RdT Go.Proofs.Tryz.prog 29 (rSl (rI .u8)) (wSl (wI .u8)):=agB (e:=5) (by kernel_rfl) (fun x h=>nomatch h) rd5
theorem spec (xs:List AV) (h:aj3 Go.Proofs.Tryz.prog [66,29] xs 1048576):∃ N H',call G N 8 xs []=some (.ret (.pv (.bool true)),H'):=by
  match xs,h with
  | [x0,x1],h=>
    obtain ⟨n0,q0,c0,h0,f0,d0,n1,q1,c1,h1,f1,d1,_⟩:=h
    obtain ⟨z0,rfl,v0⟩:=apH (b:=0) rd66 (by kernel_rfl) h0 (by omega) f0
    have w0:aaq (zq z0):=by
      unfold aga at v0
      rw [Zg z0] at v0
      exact v0
    rw [Zg z0]
    obtain ⟨z1,⟨p1,g1,rfl⟩,w1⟩:=apA (b:=0) rd29 (by kernel_rfl) h1 (by omega) f1
    obtain rfl:=(List.cons.inj g1).1
    exact ⟨4000000,[],agy (r:=true) (ajW rfl w0 w1)⟩

theorem contract (H:Type) (enc:TypeId × Value→H) (W:World) (base:Nat) (args:Array Value) (ds gs:List (DataW H)) (before:List MemPlace)
    (hval:∀ (j:Nat) t v,Tryz.f8.params[j]?=some t→args[j]?=some v→Value.okWide Tryz.prog W .any base t v)
    (hW:DataW.Whole enc Tryz.prog Tryz.f8.params.toList Rows.planBackSpec.vars false W args.toList ds gs before) (hk:Rows.uptoBulkAll ds≤1048576):
    Calls Tryz.prog 8 args W fun e W'=>∃ v,e=.returned v∧Rows.planBackSpec.post enc Tryz.prog Tryz.f8 false true false false W args v W':=
  ajJ G_ok GP (t0:=4) (bound:=1048576) [3,2,45,9,47,49,23,101,24,4,86,25,64,66,5,29] (by kernel_rfl) bulk (by kernel_rfl) (by kernel_rfl) rfl (by kernel_rfl) (by kernel_rfl) (by kernel_rfl) rfl
    (fun ds hds=>by
      match ds,hds with
      | [d0,d1],_=>rfl)
    spec W base args ds gs before hval hW hk

theorem lifted (os:Os) (started:os.Started) (H:Type) (enc:TypeId × Value→H) (F:Stop.Interp):
    ReturnsInHanded {} Tryz.checked os 8 .any ((Rows.OpenSpec.upto Rows.planBackSpec).pre6 enc Tryz.prog Tryz.f8 Rows.planBackUptoRow.domain false) (((Rows.OpenSpec.upto Rows.planBackSpec).at F).post enc Tryz.prog Tryz.f8 false true false false):=by
  refine returnsInHanded_of_cond (C:=Tryz.checked) (s:=Rows.OpenSpec.upto Rows.planBackSpec) (k:=Rows.uptoSmall) rfl own started (by kernel_rfl) Tryz.func8
    (OpenSpec.witness (enc:=enc) (C:=Tryz.checked) (s:=Rows.OpenSpec.upto Rows.planBackSpec) (k:=Rows.uptoSmall) rfl false ⟨#[],#[.agg #[.int .i64 0,.int .i64 0,.slice none 0 0,.slice none 0 0,.slice none 0 0,.slice none 0 0,.slice none 0 0,.slice none 0 0,.slice none 0 0],.slice none 0 0],[]⟩ 8 (by kernel_rfl) (by kernel_rfl) (by kernel_rfl)
      (x:=([.agg [.lit (.int .i64 0),.lit (.int .i64 0),.nil,.nil,.nil,.nil,.nil,.nil,.nil],.nil],[],[])) (by kernel_rfl) rfl (by kernel_rfl)) ?_
  intro W base args ds gs before hval hW _ hk _
  have hb:Rows.uptoBulkAll ds≤1048576:=by
    have h1:gs=[]:=by
      obtain ⟨p,q,hA,hV,_⟩:=hW
      exact (trodVars_none hV).1
    rw [h1,List.append_nil] at hk
    simpa [Rows.uptoSmall] using hk
  exact contract H enc W base args ds gs before hval hW hb

theorem over:Rows.planBackUptoRow.holds Tryz.pinned (Rows.OpenSpec.upto Rows.planBackSpec):=
  OpenClaim.holds_of_cond 8 Tryz.f8 rfl rfl rfl rfl rfl rfl rfl ⟨rfl,rfl,rfl,rfl,rfl⟩ rfl rfl rfl rfl rfl (by kernel_rfl) Tryz.func8 (by kernel_rfl)
    (of_decide_eq_true (by kernel_rfl)) (by unfold Func.isWrapper; first | (rw [if_pos (by decide +kernel)]; kernel_rfl) | (rw [if_neg (by decide +kernel)]; exact ⟨rfl,rfl⟩))
    (fun os started H enc _ F=>lifted os started H enc F)

theorem proved:Rows.PlanBackUptoSaid:=over
end Go.Proofs.YtejbcaheoloahaaGreat.planBack
