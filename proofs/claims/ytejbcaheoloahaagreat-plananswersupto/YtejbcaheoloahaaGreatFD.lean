import Derived.Test.YtejbcaheoloahaaGreatFC
set_option linter.all false
set_option maxRecDepth 100000
namespace Go.Pl
open Go Go.Ab
def errL {α:Type}(f:α→Int):List α→Int
 |[]=>0
 |z::l=>if f z≠0 then f z else errL f l
theorem acI {α S R:Type}{F:Nat→S→Int→Option R}{l:List α}{f:α→Int}{v:S→Nat}{K:S→Option R}{Res:Int→R→Prop}
  (hF:∀ (m i:Nat) (s:S) (z:α),(hi:i<l.length)→l[i]=z→v s≤1000→(f z≠0→∃ r,F (m+1) s (i:Int)=some r∧Res (f z) r)∧(f z=0→∃ s',v s'≤v s+1∧F (m+1) s (i:Int)=F m s' (IntKind.wrap .i64 ((i:Int)+1))))
  (hE:∀ (m:Nat) (s:S),F (m+1) s (l.length:Int)=K s) (hl:l.length≤1000):
  ∀ (q p:List α) (m:Nat) (s:S),l=p++q→q.length<m→v s+q.length≤1000→(errL f q≠0→∃ r,F m s (p.length:Int)=some r∧Res (errL f q) r)∧(errL f q=0→∃ s',v s'≤v s+q.length∧F m s (p.length:Int)=K s')
 |[],p,m,s,he,hm,hv=>by
  obtain ⟨m,rfl⟩:=hX m 1
  have:l.length=p.length:=by rw [he];simp
  exact ⟨fun h=>absurd rfl h,fun _=>⟨s,hO,by rw [←this,hE]⟩⟩
 |z::q,p,m,s,he,hm,hv=>by
  obtain ⟨m,rfl⟩:=hX m 1
  rw [List.length_cons] at hm hv
  have hlen:l.length=p.length+(q.length+1):=by rw [he];simp
  obtain ⟨h1,h2⟩:=hF m p.length s z hO (by simp [he]) hO
  unfold errL
  by_cases hz:f z=0
  ·rw [if_neg (by simpa using hz)]
   obtain ⟨s',a1,a2⟩:=h2 hz
   obtain ⟨g1,g2⟩:=acI hF hE hl q (p++[z]) m s' (by rw [he];simp) hO hO
   rw [a2,abE hO,show p.length+1=(p++[z]).length by simp]
   exact ⟨g1,fun h=>by obtain ⟨s2,b1,b2⟩:=g2 h;exact ⟨s2,by rw [List.length_cons];omega,b2⟩⟩
  rw [if_pos hz]
  exact ⟨fun _=>h1 hz,fun h=>absurd h hz⟩
def eM (p:Int×Int) (may:Bool):Int:=if p.2≠0 then p.2 else bif may then 0 else 50
theorem acj {R:Type}(p:Int×Int) (may:Bool) (T E:Int→Option R):zB (fun k5=>bif (p.2==0) then (some may).bind fun x9=>bif (!x9) then k5 50 else k5 p.2 else k5 p.2) (fun (y4:Int)=>bif (y4==0) then T y4 else E y4)=if eM p may=0 then T 0 else E (eM p may):=by
 simp only [zB,hZ]
 by_cases h:p.2=0
 ·have e:eM p may=bif may then 0 else 50:=by unfold eM;rw [if_neg (by rw [h];simp)]
  rw [e,show (p.2==0)=true by simpa using h,jb,h]
  cases may with
  |true=>rfl
  |false=>rfl
 have e:eM p may=p.2:=by unfold eM;rw [if_pos h]
 rw [e,show (p.2==0)=false by simpa using h,ja,ja,if_neg h]
def mayW (k:Int):Bool:=(k==0)||(k==1)
def mayS (k:Int):Bool:=(k==0)||(k==2)
noncomputable def wE (a:List zg) (x:zf):Int:=eM (qm a x) (mayW (qm a x).1)
noncomputable def oE (a:List zg) (x:zf):Int:=eM (qm a x) true
noncomputable def aE (a:List zg) (g:zI):Int:=bif g.A==2 then eM (qm a g.Q) (mayS (qm a g.Q).1) else oE a g.Q
noncomputable def aqy (a:List zg) (q:zr):Int:=
 if errL (fun z=>wE a (zc z)) (sll q.H)≠0 then errL (fun z=>wE a (zc z)) (sll q.H)
 else if errL (fun z=>oE a (zc z)) (sll q.E)≠0 then errL (fun z=>oE a (zc z)) (sll q.E)
 else errL (aE a) (sll q.D)
noncomputable def agB (all:List zg) (q:zr):Int:=
 if (adX all (sll q.O)).2≠0 then (adX all (sll q.O)).2 else bif !aeJ q then 2 else aqy (sll (adX all (sll q.O)).1) q
theorem r4_ok {x:zf}(hw:Zt x) (a:Option jo) {n:Nat}(hn:2000300≤n):ada n a x=some (wE (sll a) x):=by
 obtain ⟨n,rfl⟩:=hX n 3
 unfold ada ZO adf adg
 rw [zq,zq,ag6 hw a hO,hZ]
 have:=acj (R:=Int) (qm (sll a) x) (mayW (qm (sll a) x).1) (fun y4=>some y4) (fun y4=>some y4)
 unfold mayW at this
 simp only [zq,hZ]
 simp only [hZ] at this
 rw [this]
 unfold wE mayW
 by_cases h:eM (qm (sll a) x) (((qm (sll a) x).1==0)||((qm (sll a) x).1==1))=0
 ·rw [if_pos h,h];rfl
 rw [if_neg h];rfl
theorem awt {x:zf}(hw:Zt x) (a:Option jo) {n:Nat}(hn:2000300≤n):∃ o,abU n a x=some (o,oE (sll a) x)∧(oE (sll a) x=0→∃ k,o=some [k])∧(oE (sll a) x≠0→o=none):=by
 obtain ⟨n,rfl⟩:=hX n 4
 unfold abU Za Qs aac
 rw [zq,zq,ag6 hw a hO,hZ]
 have:=acj (R:=Option (List Int)×Int) (qm (sll a) x) true (fun y4=>some (some [(qm (sll a) x).1],y4)) (fun y4=>some (none,y4))
 have e:((ckA 8 ([(qm (sll a) x).1]:List Int).length).bind fun _=>some ())=some ():=by rw [qF (by simp) (by decide)];rfl
 simp only [zq,e,hZ]
 simp only [hZ] at this
 rw [this]
 unfold oE
 by_cases h:eM (qm (sll a) x) true=0
 ·rw [if_pos h,h];exact ⟨_,rfl,fun _=>⟨_,rfl⟩,fun h=>absurd rfl h⟩
 rw [if_neg h];exact ⟨_,rfl,fun h'=>absurd h' h,fun _=>rfl⟩
theorem au6 {x:zf}(hw:Zt x) (a:Option jo) {n:Nat}(hn:2000300≤n) {s:List Int}(hs:s.length≤1000):∃ o,aaw n s a x=some (o,oE (sll a) x)∧o.length≤s.length+1:=by
 obtain ⟨n,rfl⟩:=hX n 4
 unfold aaw zV Qs QE
 rw [zq,zq,ag6 hw a hO,hZ]
 have:=acj (R:=List Int×Int) (qm (sll a) x) true (fun y4=>some (s++[(qm (sll a) x).1],y4)) (fun y4=>some (s,y4))
 have e:((ckA 8 (s++([(qm (sll a) x).1]:List Int)).length).bind fun _=>some ())=some ():=by rw [qF (by simp;omega) (by decide)];rfl
 simp only [zq,e,hZ]
 simp only [hZ] at this
 rw [this]
 unfold oE
 by_cases h:eM (qm (sll a) x) true=0
 ·rw [if_pos h,h];exact ⟨_,rfl,by simp⟩
 rw [if_neg h];exact ⟨s,rfl,hO⟩
theorem r6_ok {g:zI}(hw:Zt g.Q) (a:Option jo) {n:Nat}(hn:2000310≤n):∃ o,adb n a g=some (o,aE (sll a) g)∧(sll o).length≤1:=by
 obtain ⟨n,rfl⟩:=hX n 6
 unfold adb
 rw [zq]
 unfold aE
 have e2:((ckA 8 ([2]:List Int).length).bind fun _=>some ())=some ():=by rw [qF (by simp) (by decide)];rfl
 by_cases h1:g.A=1
 ·rw [h1,show ((1:Int)==1)=true from rfl,jb,show ((1:Int)==2)=false from rfl,ja]
  unfold ZX Qs adj aac
  rw [zq,ag6 hw a hO,hZ]
  have:=acj (R:=Option (List Int)×Int) (qm (sll a) g.Q) true (fun y4=>some (some [2],y4)) (fun y4=>some (none,y4))
  simp only [zq,e2,hZ]
  simp only [hZ] at this
  rw [this]
  unfold oE
  by_cases h:eM (qm (sll a) g.Q) true=0
  ·rw [if_pos h,h];exact ⟨_,rfl,by simp [sll]⟩
  rw [if_neg h];exact ⟨_,rfl,by simp [sll]⟩
 rw [beqF h1,ja]
 by_cases h2:g.A=2
 ·rw [h2,show ((2:Int)==2)=true from rfl,jb,jb]
  unfold ZQ aay ade aac
  rw [zq,ag6 hw a hO,hZ]
  have:=acj (R:=Option (List Int)×Int) (qm (sll a) g.Q) (mayS (qm (sll a) g.Q).1) (fun y4=>some (some [2],y4)) (fun y4=>some (none,y4))
  unfold mayS at this
  simp only [zq,e2,hZ]
  simp only [hZ] at this
  rw [this]
  unfold mayS
  by_cases h:eM (qm (sll a) g.Q) (((qm (sll a) g.Q).1==0)||((qm (sll a) g.Q).1==2))=0
  ·rw [if_pos h,h];exact ⟨_,rfl,by simp [sll]⟩
  rw [if_neg h];exact ⟨_,rfl,by simp [sll]⟩
 rw [beqF h2,ja,ja]
 obtain ⟨o,ho,h3,h4⟩:=awt hw a (n:=n+6) hO
 unfold abU at ho
 rw [zq] at ho
 have hsh:(Za (n+5) a g.Q)=some (o,oE (sll a) g.Q):=by
  cases hq:Za (n+5) a g.Q with
  |none=>rw [hq] at ho;cases ho
  |some p=>
   obtain ⟨p1,p2⟩:=p
   rw [hq] at ho
   cases p1<;>exact ho
 rw [hsh]
 refine ⟨o,by cases o<;>rfl,?_⟩
 by_cases h:oE (sll a) g.Q=0
 ·obtain ⟨k,rfl⟩:=h3 h;simp [sll]
 rw [h4 h];simp [sll]
theorem auF {g:zI}(hw:Zt g.Q) (a:Option jo) {s:List Int}(hs:s.length≤1000) {n:Nat}(hn:2000310≤n):∃ o,aav n s a g=some (o,aE (sll a) g)∧o.length≤s.length+1:=by
 obtain ⟨n,rfl⟩:=hX n 6
 unfold aav
 rw [zq]
 unfold aE
 have e2:((ckA 8 (s++([2]:List Int)).length).bind fun _=>some ())=some ():=by rw [qF (by simp;omega) (by decide)];rfl
 by_cases h1:g.A=1
 ·rw [h1,show ((1:Int)==1)=true from rfl,jb,show ((1:Int)==2)=false from rfl,ja]
  unfold ZP Qs ab6 QE
  rw [zq,ag6 hw a hO,hZ]
  have:=acj (R:=List Int×Int) (qm (sll a) g.Q) true (fun y4=>some (s++[2],y4)) (fun y4=>some (s,y4))
  simp only [zq,e2,hZ]
  simp only [hZ] at this
  rw [this]
  unfold oE
  by_cases h:eM (qm (sll a) g.Q) true=0
  ·rw [if_pos h,h];exact ⟨_,rfl,by simp⟩
  rw [if_neg h];exact ⟨s,rfl,hO⟩
 rw [beqF h1,ja]
 by_cases h2:g.A=2
 ·rw [h2,show ((2:Int)==2)=true from rfl,jb,jb]
  unfold ZG aay ab3 QE
  rw [zq,ag6 hw a hO,hZ]
  have:=acj (R:=List Int×Int) (qm (sll a) g.Q) (mayS (qm (sll a) g.Q).1) (fun y4=>some (s++[2],y4)) (fun y4=>some (s,y4))
  unfold mayS at this
  simp only [zq,e2,hZ]
  simp only [hZ] at this
  rw [this]
  unfold mayS
  by_cases h:eM (qm (sll a) g.Q) (((qm (sll a) g.Q).1==0)||((qm (sll a) g.Q).1==2))=0
  ·rw [if_pos h,h];exact ⟨_,rfl,by simp⟩
  rw [if_neg h];exact ⟨s,rfl,hO⟩
 rw [beqF h2,ja,ja]
 obtain ⟨o,ho,h3⟩:=au6 hw a (n:=n+6) hO hs
 unfold aaw at ho
 rw [zq] at ho
 have hsh:(zV (n+5) s a g.Q)=some (o,oE (sll a) g.Q):=by
  cases hq:zV (n+5) s a g.Q with
  |none=>rw [hq] at ho;cases ho
  |some p=>rw [hq] at ho;exact ho
 rw [hsh]
 exact ⟨o,rfl,h3⟩
theorem auO {w:Option (List EX)}(hw:wSl zJ w) (hl:(sll w).length≤100) (a:Option jo) {n:Nat}(hn:2000310≤n):qw n a w=some (errL (fun z=>wE (sll a) (zc z)) (sll w)):=by
 obtain ⟨n,rfl⟩:=hX n 1
 unfold qw
 rw [zq]
 simp only [zB]
 obtain ⟨h1,h2⟩:=acI (F:=fun m (_:Unit) i=>Zo n a w (fun _=>some 0) m i) (l:=sll w) (f:=fun z=>wE (sll a) (zc z)) (v:=fun _=>0) (K:=fun _=>some 0) (Res:=fun e r=>r=e) (fun m i s z hi e _=>by
  have hz:=r4_ok (W_un (hw.2 z (by rw [←e];exact List.getElem_mem hi))) a (n:=n) hO
  constructor
  ·intro h
   rw [Zo,dT hO,jb,ZB hi e,hZ,hz,hZ,show (wE (sll a) (zc z)!=0)=true by simpa using h]
   exact ⟨_,rfl,rfl⟩
  intro h
  rw [Zo,dT hO,jb,ZB hi e,hZ,hz,hZ,show (wE (sll a) (zc z)!=0)=false by simpa using h]
  exact ⟨(),hO,rfl⟩) (fun m s=>by rw [Zo,dF hO,ja]) hO (sll w) [] n () rfl hO hO
 by_cases h:errL (fun z=>wE (sll a) (zc z)) (sll w)=0
 ·obtain ⟨_,_,h3⟩:=h2 h
  rw [h];exact h3
 obtain ⟨r,h3,rfl⟩:=h1 h
 exact h3
theorem avx {w:Option (List EX)}(hw:wSl zJ w) (hl:(sll w).length≤100) (a:Option jo) {n:Nat}(hn:2000310≤n):∃ o,qx n a w=some (o,errL (fun z=>oE (sll a) (zc z)) (sll w))∧(errL (fun z=>oE (sll a) (zc z)) (sll w)=0→(sll o).length≤100):=by
 obtain ⟨n,rfl⟩:=hX n 1
 unfold qx
 rw [zq]
 simp only [zB]
 obtain ⟨h1,h2⟩:=acI (F:=fun m (s:Option (List Int)) i=>zF n a w (fun|none=>some (none,0)|(some y3)=>some ((some y3),0)) m s i) (l:=sll w) (f:=fun z=>oE (sll a) (zc z)) (v:=fun s=>(sll s).length) (K:=fun s=>some (s,0)) (Res:=fun e (r:Option (List Int)×Int)=>r.2=e) (fun m i s z hi e hv=>by
  have hx:=W_un (hw.2 z (by rw [←e];exact List.getElem_mem hi))
  cases s with
  |none=>
   obtain ⟨o,ho,k1,k2⟩:=awt hx a (n:=n) hO
   constructor
   ·intro h
    have:=k2 h
    subst this
    rw [zF,dT hO,jb,ZB hi e,hZ,ho]
    simp only [hZ]
    rw [show (oE (sll a) (zc z)!=0)=true by simpa using h]
    exact ⟨_,rfl,rfl⟩
   intro h
   obtain ⟨k,rfl⟩:=k1 h
   rw [zF,dT hO,jb,ZB hi e,hZ,ho]
   simp only [hZ]
   rw [show (oE (sll a) (zc z)!=0)=false by simpa using h]
   exact ⟨some [k],by simp [sll],rfl⟩
  |some s=>
   obtain ⟨o,ho,k1⟩:=au6 hx a (n:=n) hO (s:=s) hv
   constructor
   ·intro h
    rw [zF,dT hO,jb,ZB hi e,hZ,ho]
    simp only [hZ]
    rw [show (oE (sll a) (zc z)!=0)=true by simpa using h]
    exact ⟨_,rfl,rfl⟩
   intro h
   rw [zF,dT hO,jb,ZB hi e,hZ,ho]
   simp only [hZ]
   rw [show (oE (sll a) (zc z)!=0)=false by simpa using h]
   exact ⟨some o,k1,rfl⟩) (fun m s=>by
  cases s with
  |none=>rw [zF,dF hO,ja]
  |some s=>rw [zF,dF hO,ja]) hO (sll w) [] n none rfl hO (by show 0+_≤_;omega)
 by_cases h:errL (fun z=>oE (sll a) (zc z)) (sll w)=0
 ·obtain ⟨s',v',h3⟩:=h2 h
  exact ⟨s',by rw [h];exact h3,fun _=>by have:(sll (none:Option (List Int))).length=0:=rfl;omega⟩
 obtain ⟨r,h3,h4⟩:=h1 h
 exact ⟨r.1,by rw [←h4];exact h3,fun h'=>absurd h' h⟩
theorem auY {w:Option (List zI)}(hw:wSl QK w) (hl:(sll w).length≤100) (a:Option jo) {n:Nat}(hn:2000320≤n):∃ o,qC n a w=some (o,errL (aE (sll a)) (sll w)):=by
 obtain ⟨n,rfl⟩:=hX n 1
 unfold qC
 rw [zq]
 simp only [zB]
 obtain ⟨h1,h2⟩:=acI (F:=fun m (s:Option (List Int)) i=>zH n a w (fun|none=>some (none,0)|(some y3)=>some ((some y3),0)) m s i) (l:=sll w) (f:=aE (sll a)) (v:=fun s=>(sll s).length) (K:=fun s=>some (s,0)) (Res:=fun e (r:Option (List Int)×Int)=>r.2=e) (fun m i s z hi e hv=>by
  have hx:=apg (hw.2 z (by rw [←e];exact List.getElem_mem hi))
  cases s with
  |none=>
   obtain ⟨o,ho,k1⟩:=r6_ok hx a (n:=n) hO
   constructor
   ·intro h
    rw [zH,dT hO,jb,ZB hi e,hZ,ho]
    cases o<;>simp only [hZ]<;>rw [show (aE (sll a) z !=0)=true by simpa using h]<;>exact ⟨_,rfl,rfl⟩
   intro h
   rw [zH,dT hO,jb,ZB hi e,hZ,ho]
   cases o with
   |none=>
    simp only [hZ]
    rw [show (aE (sll a) z !=0)=false by simpa using h]
    exact ⟨none,by simp [sll],rfl⟩
   |some o=>
    simp only [hZ]
    rw [show (aE (sll a) z !=0)=false by simpa using h]
    exact ⟨some o,by rw [Q8] at k1 ⊢;have:(sll (none:Option (List Int))).length=0:=rfl;omega,rfl⟩
  |some s=>
   obtain ⟨o,ho,k1⟩:=auF hx a (n:=n) (s:=s) hv hO
   constructor
   ·intro h
    rw [zH,dT hO,jb,ZB hi e,hZ,ho]
    simp only [hZ]
    rw [show (aE (sll a) z !=0)=true by simpa using h]
    exact ⟨_,rfl,rfl⟩
   intro h
   rw [zH,dT hO,jb,ZB hi e,hZ,ho]
   simp only [hZ]
   rw [show (aE (sll a) z !=0)=false by simpa using h]
   exact ⟨some o,k1,rfl⟩) (fun m s=>by
  cases s with
  |none=>rw [zH,dF hO,ja]
  |some s=>rw [zH,dF hO,ja]) hO (sll w) [] n none rfl hO (by show 0+_≤_;omega)
 by_cases h:errL (aE (sll a)) (sll w)=0
 ·obtain ⟨s',v',h3⟩:=h2 h
  exact ⟨s',by rw [h];exact h3⟩
 obtain ⟨r,h3,h4⟩:=h1 h
 exact ⟨r.1,by rw [←h4];exact h3⟩
theorem atD {w:Option (List zI)}(hw:wSl QK w) (hl:(sll w).length≤100) (a:Option jo) {s0:List Int}(hs0:s0.length≤100) {n:Nat}(hn:2000320≤n):∃ o,ql n s0 a w=some (o,errL (aE (sll a)) (sll w)):=by
 obtain ⟨n,rfl⟩:=hX n 1
 unfold ql
 rw [zq]
 simp only [zB]
 obtain ⟨h1,h2⟩:=acI (F:=fun m (s:List Int) i=>Zk n a w (fun y1=>some (y1,0)) m s i) (l:=sll w) (f:=aE (sll a)) (v:=fun s=>s.length) (K:=fun s=>some (s,0)) (Res:=fun e (r:List Int×Int)=>r.2=e) (fun m i s z hi e hv=>by
  have hx:=apg (hw.2 z (by rw [←e];exact List.getElem_mem hi))
  obtain ⟨o,ho,k1⟩:=auF hx a (n:=n) (s:=s) hv hO
  constructor
  ·intro h
   rw [Zk,dT hO,jb,ZB hi e,hZ,ho]
   simp only [hZ]
   rw [show (aE (sll a) z !=0)=true by simpa using h]
   exact ⟨_,rfl,rfl⟩
  intro h
  rw [Zk,dT hO,jb,ZB hi e,hZ,ho]
  simp only [hZ]
  rw [show (aE (sll a) z !=0)=false by simpa using h]
  exact ⟨o,k1,rfl⟩) (fun m s=>by rw [Zk,dF hO,ja]) hO (sll w) [] n s0 rfl hO hO
 by_cases h:errL (aE (sll a)) (sll w)=0
 ·obtain ⟨s',v',h3⟩:=h2 h
  exact ⟨s',by rw [h];exact h3⟩
 obtain ⟨r,h3,h4⟩:=h1 h
 exact ⟨r.1,by rw [←h4];exact h3⟩
theorem alC {q:zr}(h:aeJ q=true):(sll q.H).length≤40∧(sll q.E).length≤20∧(sll q.D).length≤10∧(sll q.G).length≤10:=by
 unfold aeJ at h
 rw [jj] at h
 have:=h.1
 simp only [Bool.not_eq_true',Bool.or_eq_false_iff,decide_eq_false_iff_not] at this
 omega
theorem atY {q:zr}(hq:Qg q) {a:Option jo}(ha:wSl QD a) {n:Nat}(hn:2000400≤n):∃ o,adt n q a=some (o,agB (sll a) q):=by
 obtain ⟨n,rfl⟩:=hX n 1
 unfold adt agB
 rw [zq]
 rw [show (zr.mk q.O q.H q.P q.E q.D q.G)=q from rfl,aue hq.1.1 ha hO,hZ,asp hq.2.2.2.1.1 hq.2.2.2.2.1.1 hq.2.2.2.2.2.1 hO]
 generalize adX (sll a) (sll q.O)=x1
 by_cases h1:x1.2=0
 ·rw [show (x1.2 !=0)=false by simpa using h1,ja,if_neg (by simpa using h1),hZ]
  cases hs:aeJ q with
  |false=>exact ⟨none,rfl⟩
  |true=>
   obtain ⟨l1,l2,l3,l4⟩:=alC hs
   rw [Bool.not_true,ja,ja,auO hq.2.1 hO x1.1 hO,hZ]
   unfold aqy
   generalize hw:errL (fun z=>wE (sll x1.1) (zc z)) (sll q.H)=e1
   simp only [zB]
   by_cases h2:e1=0
   ·rw [if_neg (by simpa using h2),show (e1==0)=true by simpa using h2,jb]
    obtain ⟨o,ho,hol⟩:=avx hq.2.2.2.1 hO x1.1 (n:=n) hO
    rw [ho]
    generalize hw2:errL (fun z=>oE (sll x1.1) (zc z)) (sll q.E)=e2 at hol ⊢
    by_cases h3:e2=0
    ·rw [if_neg (by simpa using h3)]
     subst h3
     obtain ⟨o6,ho6⟩:=auY hq.2.2.2.2.1 hO x1.1 (n:=n) hO
     cases o with
     |none=>
      simp only [hZ]
      rw [show ((0:Int)==0)=true from rfl,jb,ho6]
      generalize errL (aE (sll x1.1)) (sll q.D)=e3
      cases o6 with
      |none=>
       simp only [hZ]
       by_cases h4:e3=0
       ·subst h4;exact ⟨none,rfl⟩
       rw [show (e3 !=0)=true by simpa using h4];exact ⟨none,rfl⟩
      |some o6=>
       simp only [hZ]
       by_cases h4:e3=0
       ·subst h4;exact ⟨_,rfl⟩
       rw [show (e3 !=0)=true by simpa using h4];exact ⟨none,rfl⟩
     |some y=>
      simp only [hZ]
      obtain ⟨o7,ho7⟩:=atD hq.2.2.2.2.1 hO x1.1 (s0:=y) (hol rfl) (n:=n) hO
      rw [show ((0:Int)==0)=true from rfl,jb,ho7]
      generalize errL (aE (sll x1.1)) (sll q.D)=e3
      simp only [hZ]
      by_cases h4:e3=0
      ·subst h4;exact ⟨_,rfl⟩
      rw [show (e3 !=0)=true by simpa using h4];exact ⟨none,rfl⟩
    rw [if_pos h3]
    cases o with
    |none=>
     simp only [hZ]
     rw [show (e2==0)=false by simpa using h3,ja,show (e2 !=0)=true by simpa using h3]
     exact ⟨none,rfl⟩
    |some y=>
     simp only [hZ]
     rw [show (e2==0)=false by simpa using h3,ja,show (e2 !=0)=true by simpa using h3]
     exact ⟨none,rfl⟩
   rw [if_pos h2,show (e1==0)=false by simpa using h2]
   simp only [ja]
   rw [show (e1 !=0)=true by simpa using h2]
   exact ⟨none,rfl⟩
 rw [show (x1.2 !=0)=true by simpa using h1,jb,if_pos h1]
 exact ⟨none,rfl⟩
theorem ap9 {p:Int×Int}{b:Bool}(h:p.2≠0):eM p b=p.2:=by unfold eM;rw [if_pos h]
theorem amC {p:Int×Int}{b:Bool}(h:p.2=0):eM p b=bif b then 0 else 50:=by unfold eM;rw [if_neg (by simpa using h)]
theorem neT {a b:Int}(h:a≠b):(a !=b)=true:=by simpa using h
theorem neF {a b:Int}(h:a=b):(a !=b)=false:=by simpa using h
theorem l7_at {q:zr}{x1:Option jo×Int}{n:Nat}(hn:2000300≤n) (hq:wSl zJ q.H) (hl:(sll q.H).length≤100) (K:Unit→Option (Option (List Int)×Int)):
  (errL (fun z=>wE (sll x1.1) (zc z)) (sll q.H)≠0→Z9 n q x1 K n 0=some (none,errL (fun z=>wE (sll x1.1) (zc z)) (sll q.H)))∧(errL (fun z=>wE (sll x1.1) (zc z)) (sll q.H)=0→Z9 n q x1 K n 0=K ()):=by
 obtain ⟨h1,h2⟩:=acI (F:=fun m (_:Unit) i=>Z9 n q x1 K m i) (l:=sll q.H) (f:=fun z=>wE (sll x1.1) (zc z)) (v:=fun _=>0) (K:=fun _=>K ()) (Res:=fun e r=>r=(none,e)) (fun m i s z hi e _=>by
  have hz:=ai3 (W_un (hq.2 z (by rw [←e];exact List.getElem_mem hi))) x1.1 (n:=n) hO
  have hL:Z9 n q x1 K (m+1) (i:Int)=bif ((qm (sll x1.1) (zc z)).2 !=0) then some (none,(qm (sll x1.1) (zc z)).2) else bif ((qm (sll x1.1) (zc z)).1 !=0&&(qm (sll x1.1) (zc z)).1 !=1) then some (none,50) else Z9 n q x1 K m (IntKind.wrap .i64 ((i:Int)+1)):=by
   rw [Z9,dT hO,jb,ZB hi e,hZ,hz,hZ]
  have hw:wE (sll x1.1) (zc z)=eM (qm (sll x1.1) (zc z)) (mayW (qm (sll x1.1) (zc z)).1):=rfl
  show (wE (sll x1.1) (zc z)≠0→∃ r,Z9 n q x1 K (m+1) (i:Int)=some r∧r=(none,wE (sll x1.1) (zc z)))∧(wE (sll x1.1) (zc z)=0→∃ s':Unit,0≤0+1∧Z9 n q x1 K (m+1) (i:Int)=Z9 n q x1 K m (IntKind.wrap .i64 ((i:Int)+1)))
  rw [hL,hw]
  generalize qm (sll x1.1) (zc z)=p
  by_cases h:p.2=0
  ·rw [amC h,neF h,ja]
   unfold mayW
   by_cases k0:p.1=0
   ·rw [k0];exact ⟨fun h=>absurd rfl h,fun _=>⟨(),hO,rfl⟩⟩
   by_cases k1:p.1=1
   ·rw [k1];exact ⟨fun h=>absurd rfl h,fun _=>⟨(),hO,rfl⟩⟩
   rw [beqF k0,beqF k1,neT k0,neT k1]
   exact ⟨fun _=>⟨_,rfl,rfl⟩,fun h=>by exact absurd h (by decide)⟩
  rw [ap9 h,neT h,jb]
  exact ⟨fun _=>⟨_,rfl,rfl⟩,fun h'=>absurd h' h⟩) (fun m s=>by rw [Z9,dF hO,ja]) hO (sll q.H) [] n () rfl hO hO
 exact ⟨fun h=>by obtain ⟨r,a1,rfl⟩:=h1 h;exact a1,fun h=>by obtain ⟨_,_,a1⟩:=h2 h;exact a1⟩
theorem awY {q:zr}{x1:Option jo×Int}{n:Nat}(hn:2000300≤n) (hq:wSl zJ q.E) (hl:(sll q.E).length≤100) (K:Option (List Int)→Option (Option (List Int)×Int)):
  (errL (fun z=>oE (sll x1.1) (zc z)) (sll q.E)≠0→Zn n q x1 K n none 0=some (none,errL (fun z=>oE (sll x1.1) (zc z)) (sll q.E)))∧(errL (fun z=>oE (sll x1.1) (zc z)) (sll q.E)=0→∃ s,(sll s).length≤100∧Zn n q x1 K n none 0=K s):=by
 obtain ⟨h1,h2⟩:=acI (F:=fun m (s:Option (List Int)) i=>Zn n q x1 K m s i) (l:=sll q.E) (f:=fun z=>oE (sll x1.1) (zc z)) (v:=fun s=>(sll s).length) (K:=K) (Res:=fun e r=>r=(none,e)) (fun m i s z hi e hv=>by
  have hz:=ai3 (W_un (hq.2 z (by rw [←e];exact List.getElem_mem hi))) x1.1 (n:=n) hO
  have hL:Zn n q x1 K (m+1) s (i:Int)=bif ((qm (sll x1.1) (zc z)).2 !=0) then some (none,(qm (sll x1.1) (zc z)).2) else Zn n q x1 K m (some (sll s++[(qm (sll x1.1) (zc z)).1])) (IntKind.wrap .i64 ((i:Int)+1)):=by
   cases s with
   |none=>
    rw [Zn,dT hO,jb,ZB hi e,hZ,hz,hZ,qF (by simp) (by decide)];rfl
   |some s=>
    rw [Q8] at hv
    rw [Zn,dT hO,jb,ZB hi e,hZ,hz,hZ,qF (by simp;omega) (by decide)];rfl
  have hw:oE (sll x1.1) (zc z)=eM (qm (sll x1.1) (zc z)) true:=rfl
  show (oE (sll x1.1) (zc z)≠0→∃ r,Zn n q x1 K (m+1) s (i:Int)=some r∧r=(none,oE (sll x1.1) (zc z)))∧(oE (sll x1.1) (zc z)=0→∃ s',(sll s').length≤(sll s).length+1∧Zn n q x1 K (m+1) s (i:Int)=Zn n q x1 K m s' (IntKind.wrap .i64 ((i:Int)+1)))
  rw [hL,hw]
  generalize qm (sll x1.1) (zc z)=p
  by_cases h:p.2=0
  ·rw [amC h,neF h,ja]
   exact ⟨fun h=>absurd rfl h,fun _=>⟨some (sll s++[p.1]),by rw [Q8];simp,rfl⟩⟩
  rw [ap9 h,neT h,jb]
  exact ⟨fun _=>⟨_,rfl,rfl⟩,fun h'=>absurd h' h⟩) (fun m s=>by
  cases s with
  |none=>rw [Zn,dF hO,ja]
  |some s=>rw [Zn,dF hO,ja]) hO (sll q.E) [] n none rfl hO (by show 0+_≤_;omega)
 exact ⟨fun h=>by obtain ⟨r,a1,rfl⟩:=h1 h;exact a1,fun h=>by obtain ⟨s,a2,a1⟩:=h2 h;exact ⟨s,by have:(sll (none:Option (List Int))).length=0:=rfl;omega,a1⟩⟩
theorem akU {g:zI}{a:List zg}{R:Type}(E:Int→R) (Z:R):(bif ((qm a g.Q).2 !=0) then E (qm a g.Q).2 else bif ((g.A==2&&(qm a g.Q).1 !=0)&&(qm a g.Q).1 !=2) then E 50 else Z)=if aE a g=0 then Z else E (aE a g):=by
 unfold aE oE
 generalize qm a g.Q=p
 by_cases h:p.2=0
 ·rw [amC h,amC h,neF h,ja]
  unfold mayS
  by_cases h2:g.A=2
  ·rw [h2,show ((2:Int)==2)=true from rfl,jb]
   by_cases k0:p.1=0
   ·rw [k0];rfl
   by_cases k1:p.1=2
   ·rw [k1];rfl
   rw [beqF k0,beqF k1,neT k0,neT k1];rfl
  rw [beqF h2];rfl
 rw [ap9 h,ap9 h,neT h,jb]
 cases (g.A==2)<;>simp only [jb,ja]<;>rw [if_neg h]
theorem aww {q:zr}{x1:Option jo×Int}{n:Nat}(hn:2000300≤n) (hq:wSl QK q.D) (hl:(sll q.D).length≤100) (K:Option (List Int)→Option (Option (List Int)×Int)):
  (errL (aE (sll x1.1)) (sll q.D)≠0→Zb n q x1 K n none 0=some (none,errL (aE (sll x1.1)) (sll q.D)))∧(errL (aE (sll x1.1)) (sll q.D)=0→∃ s,Zb n q x1 K n none 0=K s):=by
 obtain ⟨h1,h2⟩:=acI (F:=fun m (s:Option (List Int)) i=>Zb n q x1 K m s i) (l:=sll q.D) (f:=aE (sll x1.1)) (v:=fun s=>(sll s).length) (K:=K) (Res:=fun e r=>r=(none,e)) (fun m i s z hi e hv=>by
  have hz:=ai3 (apg (hq.2 z (by rw [←e];exact List.getElem_mem hi))) x1.1 (n:=n) hO
  have hL:∃ v,Zb n q x1 K (m+1) s (i:Int)=if aE (sll x1.1) z=0 then Zb n q x1 K m (some (sll s++[v])) (IntKind.wrap .i64 ((i:Int)+1)) else some (none,aE (sll x1.1) z):=by
   cases s with
   |none=>
    rw [Zb,dT hO,jb,ZB hi e,hZ,hz,hZ,qF (by simp) (by decide),qF (by simp) (by decide)]
    simp only [hZ]
    rw [akU (fun e=>some ((none:Option (List Int)),e))]
    cases decide (z.A≤2) with
    |true=>exact ⟨2,rfl⟩
    |false=>exact ⟨_,rfl⟩
   |some s=>
    rw [Q8] at hv
    rw [Zb,dT hO,jb,ZB hi e,hZ,hz,hZ,qF (by simp;omega) (by decide),qF (by simp;omega) (by decide)]
    simp only [hZ]
    rw [akU (fun e=>some ((none:Option (List Int)),e))]
    cases decide (z.A≤2) with
    |true=>exact ⟨2,rfl⟩
    |false=>exact ⟨_,rfl⟩
  obtain ⟨v,hL⟩:=hL
  show (aE (sll x1.1) z≠0→∃ r,Zb n q x1 K (m+1) s (i:Int)=some r∧r=(none,aE (sll x1.1) z))∧(aE (sll x1.1) z=0→∃ s',(sll s').length≤(sll s).length+1∧Zb n q x1 K (m+1) s (i:Int)=Zb n q x1 K m s' (IntKind.wrap .i64 ((i:Int)+1)))
  rw [hL]
  by_cases h:aE (sll x1.1) z=0
  ·rw [if_pos h]
   exact ⟨fun h'=>absurd h h',fun _=>⟨some (sll s++[v]),by rw [Q8];simp,rfl⟩⟩
  rw [if_neg h]
  exact ⟨fun _=>⟨_,rfl,rfl⟩,fun h'=>absurd h' h⟩) (fun m s=>by
  cases s with
  |none=>rw [Zb,dF hO,ja]
  |some s=>rw [Zb,dF hO,ja]) hO (sll q.D) [] n none rfl hO (by show 0+_≤_;omega)
 exact ⟨fun h=>by obtain ⟨r,a1,rfl⟩:=h1 h;exact a1,fun h=>by obtain ⟨s,a2,a1⟩:=h2 h;exact ⟨s,a1⟩⟩
theorem av7 {q:zr}{x1:Option jo×Int}{n:Nat}(hn:2000300≤n) (hq:wSl QK q.D) (hl:(sll q.D).length≤100) (K:List Int→Option (Option (List Int)×Int)) {s0:List Int}(hs0:s0.length≤100):
  (errL (aE (sll x1.1)) (sll q.D)≠0→Zv n q x1 K n s0 0=some (none,errL (aE (sll x1.1)) (sll q.D)))∧(errL (aE (sll x1.1)) (sll q.D)=0→∃ s,Zv n q x1 K n s0 0=K s):=by
 obtain ⟨h1,h2⟩:=acI (F:=fun m (s:List Int) i=>Zv n q x1 K m s i) (l:=sll q.D) (f:=aE (sll x1.1)) (v:=fun s=>s.length) (K:=K) (Res:=fun e r=>r=(none,e)) (fun m i s z hi e hv=>by
  have hz:=ai3 (apg (hq.2 z (by rw [←e];exact List.getElem_mem hi))) x1.1 (n:=n) hO
  have hL:∃ v,Zv n q x1 K (m+1) s (i:Int)=if aE (sll x1.1) z=0 then Zv n q x1 K m (s++[v]) (IntKind.wrap .i64 ((i:Int)+1)) else some (none,aE (sll x1.1) z):=by
   rw [Zv,dT hO,jb,ZB hi e,hZ,hz,hZ,qF (by simp;omega) (by decide),qF (by simp;omega) (by decide)]
   simp only [hZ]
   rw [akU (fun e=>some ((none:Option (List Int)),e))]
   cases decide (z.A≤2) with
   |true=>exact ⟨2,rfl⟩
   |false=>exact ⟨_,rfl⟩
  obtain ⟨v,hL⟩:=hL
  show (aE (sll x1.1) z≠0→∃ r,Zv n q x1 K (m+1) s (i:Int)=some r∧r=(none,aE (sll x1.1) z))∧(aE (sll x1.1) z=0→∃ s':List Int,s'.length≤s.length+1∧Zv n q x1 K (m+1) s (i:Int)=Zv n q x1 K m s' (IntKind.wrap .i64 ((i:Int)+1)))
  rw [hL]
  by_cases h:aE (sll x1.1) z=0
  ·rw [if_pos h]
   exact ⟨fun h'=>absurd h h',fun _=>⟨s++[v],by simp,rfl⟩⟩
  rw [if_neg h]
  exact ⟨fun _=>⟨_,rfl,rfl⟩,fun h'=>absurd h' h⟩) (fun m s=>by rw [Zv,dF hO,ja]) hO (sll q.D) [] n s0 rfl hO hO
 exact ⟨fun h=>by obtain ⟨r,a1,rfl⟩:=h1 h;exact a1,fun h=>by obtain ⟨s,a2,a1⟩:=h2 h;exact ⟨s,a1⟩⟩
theorem asc {q:zr}(hq:Qg q) {a:Option jo}(ha:wSl QD a) {n:Nat}(hn:2000400≤n):∃ o,ae1 n q a=some (o,agB (sll a) q):=by
 obtain ⟨n,rfl⟩:=hX n 1
 unfold ae1 agB
 rw [zq]
 rw [aq2 ha.1 hO,hZ,arc hq.2.2.2.1.1 hq.2.2.2.2.1.1 hq.2.2.2.2.2.1 hO]
 generalize adX (sll a) (sll q.O)=x1
 by_cases h1:x1.2=0
 ·rw [neF h1,ja,if_neg (by simpa using h1),hZ]
  cases hs:aeJ q with
  |false=>exact ⟨none,rfl⟩
  |true=>
   obtain ⟨l1,l2,l3,l4⟩:=alC hs
   rw [Bool.not_true,ja,ja]
   unfold aqy
   simp only [zB]
   obtain ⟨w1,w2⟩:=l7_at (x1:=x1) (n:=n) hO hq.2.1 hO (fun (_:Unit)=>Zn n q x1 (fun|none=>Zb n q x1 (fun|none=>some (none,0)|(some y16)=>some ((some y16),0)) n none 0|(some y12)=>Zv n q x1 (fun (y44:(List Int))=>some ((some y44),0)) n y12 0) n none 0)
   by_cases h2:errL (fun z=>wE (sll x1.1) (zc z)) (sll q.H)=0
   ·rw [if_neg (by simpa using h2)]
    obtain ⟨o1,o2⟩:=awY (x1:=x1) (n:=n) hO hq.2.2.2.1 hO (fun|none=>Zb n q x1 (fun|none=>some (none,0)|(some y16)=>some ((some y16),0)) n none 0|(some y12)=>Zv n q x1 (fun (y44:(List Int))=>some ((some y44),0)) n y12 0)
    by_cases h3:errL (fun z=>oE (sll x1.1) (zc z)) (sll q.E)=0
    ·rw [if_neg (by simpa using h3)]
     obtain ⟨s,hs1,hs2⟩:=o2 h3
     cases s with
     |none=>
      obtain ⟨g1,g2⟩:=aww (x1:=x1) (n:=n) hO hq.2.2.2.2.1 hO (fun|none=>some (none,0)|(some y16)=>some ((some y16),0))
      by_cases h4:errL (aE (sll x1.1)) (sll q.D)=0
      ·obtain ⟨s,g3⟩:=g2 h4
       rw [h4]
       cases s with
       |none=>exact ⟨none,(w2 h2).trans (hs2.trans g3)⟩
       |some s=>exact ⟨some s,(w2 h2).trans (hs2.trans g3)⟩
      exact ⟨none,(w2 h2).trans (hs2.trans (g1 h4))⟩
     |some s=>
      obtain ⟨g1,g2⟩:=av7 (x1:=x1) (n:=n) hO hq.2.2.2.2.1 hO (fun (y44:(List Int))=>some ((some y44),0)) (s0:=s) hs1
      by_cases h4:errL (aE (sll x1.1)) (sll q.D)=0
      ·obtain ⟨s',g3⟩:=g2 h4
       rw [h4]
       exact ⟨some s',(w2 h2).trans (hs2.trans g3)⟩
      exact ⟨none,(w2 h2).trans (hs2.trans (g1 h4))⟩
    rw [if_pos h3]
    exact ⟨none,(w2 h2).trans (o1 h3)⟩
   rw [if_pos h2]
   exact ⟨none,w1 h2⟩
 rw [neT h1,jb,if_pos h1]
 exact ⟨none,rfl⟩
theorem adx {α β:Type}{p:α→β→Bool}{a:List α}{b:List β}:ZM p a b=true↔a.length=b.length∧∀ (i:Nat) (ha:i<a.length) (hb:i<b.length),p a[i] b[i]=true:=by
 unfold ZM
 rw [jj,decide_eq_true_eq,List.all_eq_true]
 constructor
 ·rintro ⟨h1,h2⟩
  refine ⟨h1,fun i ha hb=>?_⟩
  have hz:i<(a.zip b).length:=by rw [List.length_zip];omega
  have:=h2 _ (List.getElem_mem hz)
  rwa [List.getElem_zip] at this
 rintro ⟨h1,h2⟩
 refine ⟨h1,fun q hq=>?_⟩
 obtain ⟨i,hi,rfl⟩:=List.getElem_of_mem hq
 rw [List.getElem_zip]
 exact h2 i _ _
theorem ajO {x y:zn}(h:ac3 x y=true):ac3 y x=true:=by
 unfold ac3 at h ⊢
 rw [beq_iff_eq] at h ⊢
 have:=acq.anti x y
 omega
theorem aii {x y z:zn}(h:ac3 x y=true) (k:ac3 y z=true):ac3 x z=true:=by
 unfold ac3 at h k ⊢
 rw [beq_iff_eq] at h k ⊢
 have a1:=acq.anti x y;have a2:=acq.anti y z;have a3:=acq.anti x z
 have t1:=acq.trans x y z hO hO
 have t2:=acq.trans z y x hO hO
 omega
theorem adm:∀ (k:Nat) (x y:zf),ZW k x y=true→ZW k y x=true
 |0,x,y,h=>by rw [ZW] at h;cases h
 |k+1,x,y,h=>by
  rw [ZW] at h ⊢
  simp only [jj,beq_iff_eq] at h ⊢
  obtain ⟨⟨⟨⟨h1,h2⟩,h3⟩,h4⟩,h5,h6⟩:=h
  refine ⟨⟨⟨⟨h1.symm,h2.symm⟩,h3.symm⟩,h4.symm⟩,ajO h5,?_⟩
  rw [adx] at h6 ⊢
  exact ⟨h6.1.symm,fun i ha hb=>adm k _ _ (h6.2 i hb ha)⟩
theorem abe:∀ (k:Nat) (x y z:zf),ZW k x y=true→ZW k y z=true→ZW k x z=true
 |0,x,y,z,h,_=>by rw [ZW] at h;cases h
 |k+1,x,y,z,h,h'=>by
  rw [ZW] at h h' ⊢
  simp only [jj,beq_iff_eq] at h h' ⊢
  obtain ⟨⟨⟨⟨h1,h2⟩,h3⟩,h4⟩,h5,h6⟩:=h
  obtain ⟨⟨⟨⟨k1,k2⟩,k3⟩,k4⟩,k5,k6⟩:=h'
  refine ⟨⟨⟨⟨h1.trans k1,h2.trans k2⟩,h3.trans k3⟩,h4.trans k4⟩,aii h5 k5,?_⟩
  rw [adx] at h6 k6 ⊢
  exact ⟨h6.1.trans k6.1,fun i ha hb=>abe k _ _ _ (h6.2 i ha hO) (k6.2 i hO hb)⟩
theorem aaV:∀ (d:Nat) (x:zf),WX d x→∀ (y:zf) (k l:Nat),d≤k→d≤l→ZW k x y=ZW l x y
 |0,x,h,_,_,_,_,_=>h.elim
 |d+1,x,h,y,k,l,hk,hl=>by
  obtain ⟨k,rfl⟩:=hX k 1
  obtain ⟨l,rfl⟩:=hX l 1
  rw [ZW,ZW]
  congr 2
  rw [Bool.eq_iff_iff,adx,adx]
  constructor<;>rintro ⟨h1,h2⟩<;>refine ⟨h1,fun i ha hb=>?_⟩
  ·rw [aaV d _ (h.2.2 _ (List.getElem_mem ha)) _ l k hO hO];exact h2 i ha hb
  rw [aaV d _ (h.2.2 _ (List.getElem_mem ha)) _ k l hO hO];exact h2 i ha hb
def FE (x:zf):Prop:=x.A=7→x.C=0∧x.M=0∧x.F.A=0∧ac3 x.F V0=true
def PE (x:zf):Prop:=WX 131073 x∧FE x
theorem afH {x y:zf}(h:akh x y=true):∃ a b c d,sll x.B=[a,b]∧sll y.B=[c,d]∧ZW 140000 (zc a) (zc d)=true∧ZW 140000 (zc b) (zc c)=true:=by
 unfold akh at h
 split at h
 ·rename_i a b c d h1 h2
  rw [jj] at h
  exact ⟨a,b,c,d,h1,h2,h.1,h.2⟩
 cases h
theorem amw {x y:zf}{a b c d:EX}(h1:sll x.B=[a,b]) (h2:sll y.B=[c,d]) (h3:ZW 140000 (zc a) (zc d)=true) (h4:ZW 140000 (zc b) (zc c)=true):akh x y=true:=by
 unfold akh
 rw [h1,h2]
 simp only [h3,h4,Bool.and_self]
theorem ao1 {x y:zf}{c d:EX}(hx:WX 131073 x) (h:ZW 140000 x y=true) (hy:sll y.B=[c,d]):∃ a b,sll x.B=[a,b]∧ZW 140000 (zc a) (zc c)=true∧ZW 140000 (zc b) (zc d)=true:=by
 rw [ZW] at h
 simp only [jj,beq_iff_eq] at h
 obtain ⟨_,_,h6⟩:=h
 rw [adx,hy] at h6
 obtain ⟨h1,h2⟩:=h6
 match hk:sll x.B with
 |[]=>rw [hk] at h1;cases h1
 |[_]=>rw [hk] at h1;cases h1
 |_::_::_::q=>rw [hk] at h1;simp at h1
 |[a,b]=>
  have g1:=h2 0 (by rw [hk];simp) (by simp)
  have g2:=h2 1 (by rw [hk];simp) (by simp)
  simp only [hk,List.getElem_cons_zero,List.getElem_cons_succ] at g1 g2
  have wa:WX 131072 (zc a):=hx.2.2 a (by rw [hk];simp)
  have wb:WX 131072 (zc b):=hx.2.2 b (by rw [hk];simp)
  exact ⟨a,b,rfl,by rw [aaV _ _ wa _ 140000 139999 hO hO];exact g1,by rw [aaV _ _ wb _ 140000 139999 hO hO];exact g2⟩
theorem ao9 {k:Nat}{x y:zf}(h:ZW k x y=true):x.A=y.A:=by
 cases k with
 |zero=>rw [ZW] at h;cases h
 |succ k=>
  rw [ZW] at h
  simp only [jj,beq_iff_eq] at h
  exact h.1.1.1.1
theorem awc {x y:zf}(h:tF x y=true):tF y x=true:=by
 unfold tF at h ⊢
 rw [Bool.or_eq_true] at h ⊢
 rcases h with h|h
 ·exact .inl (adm _ _ _ h)
 simp only [jj,beq_iff_eq] at h ⊢
 obtain ⟨h1,h2,h3⟩:=h
 obtain ⟨a,b,c,d,e1,e2,e3,e4⟩:=afH h3
 exact .inr ⟨h2,h1,amw e2 e1 (adm _ _ _ e4) (adm _ _ _ e3)⟩
theorem arb {x y z:zf}(hx:PE x) (hy:PE y) (hz:PE z) (h:tF x y=true) (k:tF y z=true):tF x z=true:=by
 unfold tF at h k ⊢
 rw [Bool.or_eq_true] at h k ⊢
 rcases h with h|h<;>rcases k with k|k
 ·exact .inl (abe _ _ _ _ h k)
 ·simp only [jj,beq_iff_eq] at k ⊢
  obtain ⟨k1,k2,k3⟩:=k
  obtain ⟨a,b,c,d,e1,e2,e3,e4⟩:=afH k3
  obtain ⟨p,q,f1,f2,f3⟩:=ao1 hx.1 h e1
  exact .inr ⟨(ao9 h).trans k1,k2,amw f1 e2 (abe _ _ _ _ f2 e3) (abe _ _ _ _ f3 e4)⟩
 ·simp only [jj,beq_iff_eq] at h ⊢
  obtain ⟨k1,k2,k3⟩:=h
  obtain ⟨a,b,c,d,e1,e2,e3,e4⟩:=afH k3
  obtain ⟨p,q,f1,f2,f3⟩:=ao1 hz.1 (adm _ _ _ k) e2
  exact .inr ⟨k1,(ao9 k).symm.trans k2,amw e1 f1 (abe _ _ _ _ e3 (adm _ _ _ f3)) (abe _ _ _ _ e4 (adm _ _ _ f2))⟩
 simp only [jj,beq_iff_eq] at h k
 obtain ⟨h1,h2,h3⟩:=h
 obtain ⟨k1,k2,k3⟩:=k
 obtain ⟨a,b,c,d,e1,e2,e3,e4⟩:=afH h3
 obtain ⟨c',d',u,v,f1,f2,f3,f4⟩:=afH k3
 rw [e2] at f1
 simp only [List.cons.injEq,and_true] at f1
 obtain ⟨rfl,rfl⟩:=f1
 left
 obtain ⟨r1,r2,r3,r4⟩:=hx.2 h1
 obtain ⟨s1,s2,s3,s4⟩:=hz.2 k2
 rw [ZW]
 simp only [jj,beq_iff_eq]
 refine ⟨⟨⟨⟨h1.trans k2.symm,r1.trans s1.symm⟩,r2.trans s2.symm⟩,r3.trans s3.symm⟩,aii r4 (ajO s4),?_⟩
 have wa:WX 131072 (zc a):=hx.1.2.2 a (by rw [e1];simp)
 have wb:WX 131072 (zc b):=hx.1.2.2 b (by rw [e1];simp)
 have g1:=abe _ _ _ _ e3 f4
 have g2:=abe _ _ _ _ e4 f3
 rw [aaV _ _ wa _ 140000 139999 hO hO] at g1
 rw [aaV _ _ wb _ 140000 139999 hO hO] at g2
 rw [e1,f2]
 unfold ZM
 simp [g1,g2]
theorem ahb {α:Type}{p:α→Bool}:∀ {l l':List α},aaE p l=some l'→∃ z,z∈l∧p z=true∧l'.length+1=l.length∧(∀ w,w∈l'→w∈l)∧∀ q:α→Bool,l.countP q=(bif q z then 1 else 0)+l'.countP q
 |[],l',h=>by cases h
 |x::r,l',h=>by
  unfold aaE at h
  cases hp:p x with
  |true=>
   rw [hp,jb] at h
   cases h
   refine ⟨x,by simp,hp,rfl,fun w hw=>by simp [hw],fun q=>?_⟩
   rw [List.countP_cons]
   cases q x<;>simp<;>omega
  |false=>
   rw [hp,ja] at h
   obtain ⟨l2,h1,rfl⟩:=Option.map_eq_some_iff.1 h
   obtain ⟨z,a1,a2,a3,a4,a5⟩:=ahb h1
   refine ⟨z,by simp [a1],a2,by simp [a3],fun w hw=>?_,fun q=>?_⟩
   ·rcases List.mem_cons.1 hw with rfl|hw
    ·simp
    exact List.mem_cons_of_mem _ (a4 w hw)
   rw [List.countP_cons,List.countP_cons,a5 q];omega
def AllP (l:List EX):Prop:=∀ z,z∈l→PE (zc z)
theorem ate:∀ (s:Nat) (x:zf),szL x≤s→Zt x→∀ k m n,s≤k→s<m→2000020+s≤n→aae m n x=some (relD k x)
 |0,x,hs,hw,k,m,n,hk,hm,hn=>by
  exfalso
  unfold szL Z7 at hs
  simp only [PV.bulkL,PV.bulk] at hs
  omega
 |s+1,x,hs,hw,k,m,n,hk,hm,hn=>by
  obtain ⟨k,rfl⟩:=hX k 1
  obtain ⟨m,rfl⟩:=hX m 1
  obtain ⟨n,rfl⟩:=hX n 1
  show ae6 (aae m) (n+1) x=_
  unfold ae6
  rw [zq]
  have hown:∀ K3:Int→Option Int,zB (fun k3=>bif (((x.A==1)&&(decide (x.C≥0)))&&(decide (x.C≤31))) then (ckN (IntKind.wrap .u64 x.C)).bind fun _=>k3 (iShl .u32 1 (IntKind.wrap .u64 x.C)) else k3 0) K3=K3 (ownR x):=fun K3=>by
   unfold ownR
   simp only [zB]
   cases hq:(((x.A==1)&&(decide (x.C≥0)))&&(decide (x.C≤31))) with
   |false=>rfl
   |true=>
    rw [jj,jj,decide_eq_true_eq,decide_eq_true_eq] at hq
    rw [jb,jb]
    have:ckN (IntKind.wrap .u64 x.C)=some ():=by rw [anR hO hO];unfold ckN;split<;>first|rfl|omega
    rw [this,hZ]
  refine Eq.trans (hown _) ?_
  have hl:∀ K:Int→Option Int,abv n (aae m) x K n 0 (ownR x)=agA (fun (z:EX) i (acc:Int) rec=>(aae m n (zc z)).bind fun r=>rec (iOr .u32 acc r)) K (sll x.B) 0 (ownR x):=fun K=>
   asJ (F:=fun m' (acc:Int) i=>abv n (aae m) x K m' i acc) (x:=x.B) (ac8 hw) (k:=K) (fun m' i s=>rfl) hO (ownR x)
  show zB (fun k7=>abv n (aae m) x k7 n 0 (ownR x)) (fun y6=>some y6)=_
  unfold zB
  refine Eq.trans (hl _) ?_
  have gen:∀ (l:List EX) (i:Nat) (acc:Int),(∀ z,z∈l→z∈sll x.B)→agA (fun (z:EX) i (acc:Int) rec=>(aae m n (zc z)).bind fun r=>rec (iOr .u32 acc r)) (fun y6=>some y6) l i acc=some (l.foldl (fun acc z=>iOr .u32 acc (relD k (zc z))) acc):=by
   intro l
   induction l with
   |nil=>intro i acc _;rfl
   |cons z l ih=>
    intro i acc hz
    have hz0:=hz z (by simp)
    have:=aqe hz0
    simp only [agA]
    rw [ate s (zc z) hO (ajx hw hz0) k m n hO hO hO,hZ,ih (i+1) _ (fun y hy=>hz y (List.mem_cons_of_mem _ hy))]
    rfl
  exact gen _ 0 _ (fun z hz=>hz)
theorem au5 {z:EX}(hw:zJ z) {n:Nat}(h:3048600≤n):alq n (zc z)=some (relE z):=by
 have hw':Zt (zc z):=by
  have:=hw
  unfold zJ at this
  rw [zt z] at this
  exact this
 exact ate 1048576 _ hw'.2 hw' _ n n (Nat.le_refl _) hO hO
theorem auD {v:zn}(h:acf v=true) (hk:v.A=0):ac3 v V0=true:=by
 unfold ac3 vCmp
 have e1:abu v=v:=by
  unfold abu
  rw [h,hk];rfl
 have e2:v.K=0:=by
  unfold acf at h
  rw [if_pos hk] at h
  simp only [jj,beq_iff_eq] at h
  exact h.1
 have e3:(abu V0).A=0∧(abu V0).K=0:=by
  unfold abu
  cases hr:acf V0 with
  |true=>exact ⟨rfl,rfl⟩
  |false=>exact ⟨rfl,rfl⟩
 unfold vC
 rw [e1,hk,e3.1,if_neg (by simp),if_neg (by decide),if_neg (by decide),e2,e3.2]
 rfl
theorem alk {x:zf}(h:qO x=true):FE x:=by
 intro hk
 obtain ⟨c,hc,_⟩:=aj1 h
 have hn:=(aiz hc).1
 unfold ako ahh at hn
 rw [hk] at hn
 simp only [jj,Bool.not_eq_true',Bool.and_eq_false_iff,Bool.or_eq_false_iff,bne_eq_false_iff_eq,Bool.or_eq_true,beq_iff_eq] at hn
 obtain ⟨_,⟨⟨⟨h1,_⟩,_⟩,h4⟩,h5⟩:=hn
 have h0:x.C=0∧x.M=0:=by
  rcases h1 with h1|h1
  ·exact absurd h1 (by decide)
  exact h1
 have hc0:x.F.A=0:=by
  rcases h5 with h5|h5
  ·exact absurd h5 (by decide)
  exact h5
 exact ⟨h0.1,h0.2,hc0,auD h4 hc0⟩
theorem ar1 (k:Nat) (x:zf):(afs k x).A=x.A∧(afs k x).C=x.C∧(afs k x).M=x.M∧(afs k x).F=x.F:=by
 cases k with
 |zero=>exact ⟨rfl,rfl,rfl,rfl⟩
 |succ k=>rw [afs];exact ⟨rfl,rfl,rfl,rfl⟩
theorem awd {k:Nat}{x:zf}(h:FE x):FE (afs k x):=by
 obtain ⟨h1,h2,h3,h4⟩:=ar1 k x
 unfold FE
 rw [h1,h2,h3,h4]
 exact h
theorem own_P {x:zh}(h:PX1 x) (hf:∀ z,z∈sll x.H→qO (zc z)=true):AllP (ownA x):=by
 have hq:∀ q,q∈zipP x→WX 131072 (zc q.1)∧WX 131072 (zc q.2):=fun q hq=>by
  unfold zipP at hq
  cases hk:ahA x with
  |false=>rw [hk] at hq;cases hq
  |true=>rw [hk] at hq;obtain ⟨q1,q2⟩:=q;exact ⟨h.left.2 _ (List.of_mem_zip hq).1,h.right.2 _ (List.of_mem_zip hq).2⟩
 unfold ownA
 rw [qD,qD]
 intro z hz
 rcases List.mem_append.1 hz with hz|hz
 ·obtain ⟨w,hw,rfl⟩:=List.mem_map.1 hz
  unfold cpE PE;rw [Z8]
  exact ⟨ai9 hO (ag4 _ _ (h.wher.2 w hw) _),awd (alk (hf w hw))⟩
 obtain ⟨q,hw,rfl⟩:=List.mem_map.1 hz
 unfold eqC PE;rw [Z8]
 refine ⟨?_,fun _=>⟨rfl,rfl,rfl,by unfold ac3;rw [acq.self];rfl⟩⟩
 rw [show 131073=131072+1 from rfl,WX]
 refine ⟨V0_W,by simp [sll],fun z hz=>?_⟩
 have hz':z∈[cpE q.1,cpE q.2]:=hz
 simp only [List.mem_cons,List.mem_nil_iff,or_false] at hz'
 rcases hz' with rfl|rfl
 ·unfold cpE;rw [Z8];exact ag4 _ _ (hq q hw).1 _
 unfold cpE;rw [Z8];exact ag4 _ _ (hq q hw).2 _
theorem am1 {x:zh}(h:acg x=true):∀ z,z∈sll x.H→qO (zc z)=true:=by
 unfold acg ajR okEs at h
 simp only [jj] at h
 have:=h.2.2.1.1.1.1.1.1.2
 exact List.all_eq_true.1 this
theorem avo:∀ (k r:Nat) (s:Nat) (x:zh) (c:Nat),WD s x→frmP r x=some c→AllP (appC k x)
 |0,_,_,x,c,_,_=>fun z hz=>absurd hz (by simp [appC])
 |k+1,0,_,x,c,_,h=>by cases h
 |k+1,r+1,0,x,c,hw,_=>hw.elim
 |k+1,r+1,s+1,x,c,hw,h=>by
  obtain ⟨hn,hk⟩:=aec h
  rw [appC]
  intro z hz
  rcases List.mem_append.1 hz with hz|hz
  ·obtain ⟨w,hw',hz⟩:=List.mem_flatMap.1 hz
   obtain ⟨c',h1,_⟩:=hk w hw'
   exact avo k r s _ c' (hw.2.2 w hw') h1 z hz
  exact own_P (aj4 hw.1) (am1 hn) z hz
theorem avd {x:zh}(h:acg x=true) (hk:x.A=2∨x.A=3∨x.A=4):∃ p q,sll x.B=[p,q]:=by
 have hl:ach x.A=((sll x.B).length:Int):=by
  unfold acg at h
  rw [jj,beq_iff_eq] at h
  exact h.1
 have:ach x.A=2:=by rcases hk with h|h|h<;>rw [h]<;>rfl
 rw [this] at hl
 match hk:sll x.B with
 |[p,q]=>exact ⟨p,q,rfl⟩
 |[]=>rw [hk] at hl;simp at hl
 |[_]=>rw [hk] at hl;simp at hl
 |_::_::_::r=>rw [hk] at hl;simp at hl;omega
theorem aiu {x:zh}(h:acg x=true) (hk:x.A=5∨x.A=6∨x.A=7):∃ p,sll x.B=[p]:=by
 have hl:ach x.A=((sll x.B).length:Int):=by
  unfold acg at h
  rw [jj,beq_iff_eq] at h
  exact h.1
 have:ach x.A=1:=by rcases hk with h|h|h<;>rw [h]<;>rfl
 rw [this] at hl
 match hk:sll x.B with
 |[p]=>exact ⟨p,rfl⟩
 |[]=>rw [hk] at hl;simp at hl
 |_::_::r=>rw [hk] at hl;simp at hl;omega
theorem atK {x:zh}(h:acg x=true):0≤x.C∧x.C<12:=by
 unfold acg ajR at h
 simp only [jj,decide_eq_true_eq] at h
 exact ⟨h.2.2.2.1.1,h.2.2.2.1.2⟩
theorem awA {k:Int}(h1:0≤k) (h2:k<1000000):ckN (IntKind.wrap .u64 k)=some ():=by
 rw [anR hO hO];unfold ckN;split<;>first|rfl|omega
noncomputable def apG (x:zf) (a b:EX):zf:=⟨7,x.C,x.M,x.F,some [zi (zc b),zi (zc a)]⟩
noncomputable def agL (x y:zf):Bool:=ZW 140000 x y||(bif (x.A !=7) then false else match sll x.B with
 |[a,b]=>ZW 140000 (apG x a b) y
 |_=>false)
theorem avF {d:Nat}{x:zf}(h:WX d x) {a b:EX}(hk:sll x.B=[a,b]):WX d (apG x a b):=by
 cases d with
 |zero=>exact h.elim
 |succ d=>
  refine ⟨h.1,by unfold apG;simp [sll],fun z hz=>?_⟩
  have hz':z∈[zi (zc b),zi (zc a)]:=hz
  simp only [List.mem_cons,List.mem_nil_iff,or_false] at hz'
  rcases hz' with rfl|rfl
  ·rw [Z8];exact h.2.2 b (by rw [hk];simp)
  rw [Z8];exact h.2.2 a (by rw [hk];simp)
theorem avI {x y:zf}{d e:Nat}(hx:WX d x) (hy:WX e y) (hd:d≤140000) {n:Nat}(hn:2280110≤n):afV n x y=some (agL x y):=by
 obtain ⟨n,rfl⟩:=hX n 1
 unfold afV agL
 rw [zq,aeI hx hy hd hO,hZ]
 cases ZW 140000 x y with
 |true=>rfl
 |false=>
  rw [ja,Bool.false_or]
  cases (x.A !=7) with
  |true=>rfl
  |false=>
   rw [Bool.false_or,ja]
   match hk:sll x.B with
   |[]=>rfl
   |[_]=>rfl
   |a::b::c::q=>
    rw [show ((((a::b::c::q).length:Nat):Int)!=2)=true by rw [List.length_cons,List.length_cons,List.length_cons];exact neT hO]
    rfl
   |[a,b]=>
    have:=aeI (avF hx hk) hy hd (n:=n) hO
    show (acz n (apG x a b) y).bind _=_
    rw [this];rfl
theorem auQ {x y:zf}(hx:PE x) (hy:PE y):agL x y=tF x y:=by
 unfold agL tF
 cases ZW 140000 x y with
 |true=>rfl
 |false=>
  rw [Bool.false_or,Bool.false_or]
  by_cases h7:x.A=7
  ·rw [neF h7,ja,h7,show ((7:Int)==7)=true from rfl,jk]
   match hk:sll x.B with
   |[]=>unfold akh;rw [hk];simp
   |[_]=>unfold akh;rw [hk];simp
   |a::b::c::q=>unfold akh;rw [hk];simp
   |[a,b]=>
    have wa:WX 131072 (zc a):=hx.1.2.2 a (by rw [hk];simp)
    have wb:WX 131072 (zc b):=hx.1.2.2 b (by rw [hk];simp)
    show ZW 140000 (apG x a b) y=_
    rw [Bool.eq_iff_iff,jj,beq_iff_eq]
    constructor
    ·intro h
     rw [ZW] at h
     simp only [jj,beq_iff_eq] at h
     obtain ⟨⟨⟨⟨h1,h2⟩,h3⟩,h4⟩,h5,h6⟩:=h
     refine ⟨h1.symm,?_⟩
     rw [adx] at h6
     obtain ⟨l1,l2⟩:=h6
     have l1':2=(sll y.B).length:=l1
     match hy':sll y.B with
     |[]=>rw [hy'] at l1';cases l1'
     |[_]=>rw [hy'] at l1';cases l1'
     |_::_::_::q=>rw [hy'] at l1';simp at l1'
     |[c,d]=>
      have g1:=l2 0 (by show 0<2;omega) (by rw [hy'];simp)
      have g2:=l2 1 (by show 1<2;omega) (by rw [hy'];simp)
      simp only [hy',List.getElem_cons_zero,List.getElem_cons_succ] at g1 g2
      have g1':ZW 139999 (zc (zi (zc b))) (zc c)=true:=g1
      have g2':ZW 139999 (zc (zi (zc a))) (zc d)=true:=g2
      rw [Z8] at g1' g2'
      exact amw hk hy' (by rw [aaV _ _ wa _ 140000 139999 hO hO];exact g2') (by rw [aaV _ _ wb _ 140000 139999 hO hO];exact g1')
    rintro ⟨h1,h2⟩
    obtain ⟨a',b',c,d,e1,e2,e3,e4⟩:=afH h2
    rw [hk] at e1
    simp only [List.cons.injEq,and_true] at e1
    obtain ⟨rfl,rfl⟩:=e1
    obtain ⟨r1,r2,r3,r4⟩:=hx.2 h7
    obtain ⟨s1,s2,s3,s4⟩:=hy.2 h1
    rw [ZW]
    simp only [jj,beq_iff_eq]
    refine ⟨⟨⟨⟨h1.symm,r1.trans s1.symm⟩,r2.trans s2.symm⟩,r3.trans s3.symm⟩,aii r4 (ajO s4),?_⟩
    have:sll (apG x a b).B=[zi (zc b),zi (zc a)]:=rfl
    rw [this,e2]
    rw [aaV _ _ wa _ 140000 139999 hO hO] at e3
    rw [aaV _ _ wb _ 140000 139999 hO hO] at e4
    unfold ZM
    simp only [List.length_cons,List.length_nil,List.zip_cons_cons,List.zip_nil_right,List.all_cons,List.all_nil,Z8,e3,e4,Bool.and_true,decide_true]
  rw [neT h7,beqF h7];rfl
def agP:List Bool→List EX→List EX
 |f::fs,z::l=>bif f then agP fs l else z::agP fs l
 |_,_=>[]
def ahF (p:EX→Bool):List Bool→List EX→Option (List Bool)
 |f::fs,z::l=>bif !f&&p z then some (true::fs) else match ahF p fs l with
  |some g=>some (f::g)
  |none=>none
 |_,_=>none
theorem apI (p:EX→Bool):∀ (fs:List Bool) (l:List EX),fs.length=l.length→(ahF p fs l=none∧aaE p (agP fs l)=none)∨∃ g,ahF p fs l=some g∧g.length=fs.length∧aaE p (agP fs l)=some (agP g l)
 |[],[],h=>.inl ⟨rfl,rfl⟩
 |[],_::_,h=>by cases h
 |_::_,[],h=>by cases h
 |f::fs,z::l,h=>by
  have ih:=apI p fs l (by simpa using h)
  cases f with
  |true=>
   rw [ahF,agP]
   simp only [Bool.not_true,Bool.false_and,ja,jb]
   rcases ih with ⟨h1,h2⟩|⟨g,h1,h2,h3⟩
   ·exact .inl ⟨by rw [h1],h2⟩
   exact .inr ⟨true::g,by rw [h1],by simp [h2],by rw [h3];rfl⟩
  |false=>
   rw [ahF,agP]
   simp only [Bool.not_false,jk,ja]
   rw [aaE]
   cases p z with
   |true=>exact .inr ⟨true::fs,rfl,rfl,rfl⟩
   |false=>
    rw [ja,ja]
    rcases ih with ⟨h1,h2⟩|⟨g,h1,h2,h3⟩
    ·exact .inl ⟨by rw [h1],by rw [h2];rfl⟩
    exact .inr ⟨false::g,by rw [h1],by simp [h2],by rw [h3];rfl⟩
theorem arH {p:EX→Bool}{l l':List EX}(h:aaE p l=some l'):l'.length+1=l.length:=by
 obtain ⟨_,_,_,h3,_⟩:=ahb h
 exact h3
theorem ale:∀ (l:List EX),agP (List.replicate l.length false) l=l
 |[]=>rfl
 |z::l=>by rw [List.length_cons,List.replicate_succ,agP,ja,ale l]
noncomputable def afB:List EX→List EX→Bool
 |[],l=>l.isEmpty
 |x::a,l=>match aaE (fun y=>agL (zc x) (zc y)) l with
  |none=>false
  |some l'=>afB a l'
theorem l7M {n:Nat}{a b:Option (List EX)}{i:Nat}{x:EX}{d e:Nat}(hi:idx (sll a) (i:Int)=some x) (hx:WX d (zc x)) (hd:d≤140000) (hb:WXs e (sll b)) (hlb:(sll b).length≤1048576) (hn:2280200≤n) (K:List Bool→Bool→Option Bool):
  ∀ (fs:List Bool) (l:List EX) (pf:List Bool) (pl:List EX) (m:Nat),fs.length=l.length→pf.length=pl.length→sll b=pl++l→l.length+1<m→
   qp n a b (i:Int) K m (pf++fs) false (pl.length:Int)=match ahF (fun y=>agL (zc x) (zc y)) fs l with
    |some g=>K (pf++g) true
    |none=>K (pf++fs) false
 |[],l,pf,pl,m,h1,h2,hl,hm=>by
  obtain ⟨m,rfl⟩:=hX m 1
  have:l=[]:=List.eq_nil_of_length_eq_zero h1.symm
  subst this
  rw [qp,dF (by rw [hl];simp),Bool.false_and,ja,ahF]
  intro f fs z l h;cases h
 |f::fs,[],pf,pl,m,h1,h2,hl,hm=>by cases h1
 |f::fs,z::l,pf,pl,m,h1,h2,hl,hm=>by
  obtain ⟨m,rfl⟩:=hX m 1
  rw [List.length_cons] at hm
  have hlen:(sll b).length=pl.length+(l.length+1):=by rw [hl];simp
  have hz:idx (sll b) (pl.length:Int)=some z:=by rw [hl,aaY];simp
  have hf:idx (pf++f::fs) (pl.length:Int)=some f:=by rw [←h2,aaY];simp
  have hzw:=hb z (by rw [hl];simp)
  have ih:=l7M hi hx hd hb hlb hn K fs l (pf++[f]) (pl++[z]) m (by simpa using h1) (by simp [h2]) (by rw [hl];simp) hO
  have step:qp n a b (i:Int) K m (pf++f::fs) false (IntKind.wrap .i64 ((pl.length:Int)+1))=match ahF (fun y=>agL (zc x) (zc y)) fs l with
    |some g=>K (pf++f::g) true
    |none=>K (pf++f::fs) false:=by
   rw [abE hO,show pl.length+1=(pl++[z]).length by simp,show pf++f::fs=(pf++[f])++fs by simp,ih]
   cases ahF (fun y=>agL (zc x) (zc y)) fs l with
   |none=>rfl
   |some g=>simp
  rw [qp,dT hO,Bool.not_false,Bool.and_self,jb,hf,hZ,ahF]
  cases f with
  |true=>
   simp only [Bool.not_true,ja,Bool.false_and]
   rw [step]
   cases ahF (fun y=>agL (zc x) (zc y)) fs l<;>rfl
  |false=>
   simp only [Bool.not_false,jb,jk]
   rw [hi,hz,hZ,hZ,avI hx hzw hd hO,hZ]
   cases agL (zc x) (zc z) with
   |true=>
    rw [jb,jb]
    obtain ⟨m,rfl⟩:=hX m 1
    rw [qp,Bool.not_true,Bool.and_false,ja]
    show K ((pf++false::fs).set (Int.toNat (pl.length:Int)) true) true=K (pf++true::fs) true
    rw [←h2,Int.toNat_natCast]
    simp
   |false=>
    rw [ja,ja,step]
    cases ahF (fun y=>agL (zc x) (zc y)) fs l<;>rfl
theorem l3M {n:Nat}{a b:Option (List EX)}{d e:Nat}(ha:WXs d (sll a)) (hla:(sll a).length≤1100000) (hd:d≤140000) (hb:WXs e (sll b)) (hlb:(sll b).length≤1048576) (hn:2280200≤n):
  ∀ (q p:List EX) (fs:List Bool) (m:Nat),sll a=p++q→q.length<m→fs.length=(sll b).length→(agP fs (sll b)).length+p.length=(sll b).length→
   qS n a b (fun _=>some (((sll a).length:Int)==((sll b).length:Int))) m fs (p.length:Int)=some (afB q (agP fs (sll b)))
 |[],p,fs,m,hq,hm,hf,hr=>by
  obtain ⟨m,rfl⟩:=hX m 1
  have:(sll a).length=p.length:=by rw [hq];simp
  rw [qS,dF hO,ja,afB]
  congr 1
  rw [this]
  cases hR:agP fs (sll b) with
  |nil=>
   rw [hR,List.length_nil] at hr
   rw [show p.length=(sll b).length by omega];simp
  |cons z l=>
   rw [hR,List.length_cons] at hr
   show _=false
   rw [beq_eq_false_iff_ne];omega
 |x::q,p,fs,m,hq,hm,hf,hr=>by
  obtain ⟨m,rfl⟩:=hX m 1
  rw [List.length_cons] at hm
  have hlen:(sll a).length=p.length+(q.length+1):=by rw [hq];simp
  have hx:idx (sll a) (p.length:Int)=some x:=by rw [hq,aaY];simp
  have hxw:=ha x (by rw [hq];simp)
  rw [qS,dT hO,jb]
  simp only [zB]
  have:=l7M hx hxw hd hb hlb hn (fun (y27:List Bool) (y29:Bool)=>bif (!y29) then some false else qS n a b (fun _=>some (((sll a).length:Int)==((sll b).length:Int))) m y27 (IntKind.wrap .i64 ((p.length:Int)+1))) fs (sll b) [] [] n hf rfl rfl hO
  refine Eq.trans this ?_
  rw [afB]
  rcases apI (fun y=>agL (zc x) (zc y)) fs (sll b) hf with ⟨h1,h2⟩|⟨g,h1,h2,h3⟩
  ·rw [h1,h2];rfl
  rw [h1,h3]
  have hl:=arH h3
  show qS n a b _ m g (IntKind.wrap .i64 ((p.length:Int)+1))=some (afB q (agP g (sll b)))
  rw [abE hO,show p.length+1=(p++[x]).length by simp]
  exact l3M ha hla hd hb hlb hn q (p++[x]) g m (by rw [hq];simp) hO (h2.trans hf) (by rw [List.length_append,List.length_singleton];omega)
theorem aqI {a b:Option (List EX)}{d e:Nat}(ha:WXs d (sll a)) (hla:(sll a).length≤1100000) (hd:d≤140000) (hb:WXs e (sll b)) (hlb:(sll b).length≤1048576) {n:Nat}(hn:2280210≤n):
  abS n a b=some (afB (sll a) (sll b)):=by
 obtain ⟨n,rfl⟩:=hX n 1
 unfold abS
 rw [zq,show ckM 1 ((sll b).length:Int) ((sll b).length:Int)=some () by unfold ckM;rw [if_pos hO],hZ,Int.toNat_natCast]
 simp only [zB]
 have:=l3M ha hla hd hb hlb (n:=n) hO (sll a) [] (List.replicate (sll b).length false) n rfl hO (by simp) (by rw [ale];simp)
 rw [ale] at this
 exact this
theorem ajH {p r:EX→Bool}:∀ (l:List EX),(∀ z,z∈l→p z=r z)→aaE p l=aaE r l
 |[],_=>rfl
 |z::l,h=>by rw [aaE,aaE,h z (by simp),ajH l (fun y hy=>h y (by simp [hy]))]
theorem aqs {α β:Type}{p:α→β→Bool}{x:α}{y:β}{a:List α}{b:List β}(h:ZM p (x::a) (y::b)=true):p x y=true∧ZM p a b=true:=by
 unfold ZM at h ⊢
 simp only [List.length_cons,List.zip_cons_cons,List.all_cons,jj,decide_eq_true_eq] at h ⊢
 exact ⟨h.2.1,hO,h.2.2⟩
theorem alN:∀ (c a b:List EX),AllP c→AllP a→AllP b→abp 140000 c a=true→afB a b=adZ c b
 |[],[],b,_,_,_,_=>by rw [afB,adZ]
 |[],y::a,b,_,_,_,h=>by
  rw [abp,ajS (by simp)] at h;cases h
 |x::c,[],b,_,_,_,h=>by
  rw [abp,ajS (by simp)] at h;cases h
 |x::c,y::a,b,hc,ha,hb,h=>by
  obtain ⟨h1,h2⟩:=aqs h
  have hx:=hc x (by simp)
  have hy:=ha y (by simp)
  have e:∀ z,z∈b→agL (zc y) (zc z)=tF (zc x) (zc z):=fun z hz=>by
   rw [auQ hy (hb z hz)]
   have hxy:tF (zc x) (zc y)=true:=by unfold tF;rw [h1];rfl
   rw [Bool.eq_iff_iff]
   exact ⟨fun k=>arb hx hy (hb z hz) hxy k,fun k=>arb hy hx (hb z hz) (awc hxy) k⟩
  rw [afB,adZ,ajH b e]
  cases ht:aaE (fun z=>tF (zc x) (zc z)) b with
  |none=>rfl
  |some l=>
   obtain ⟨_,_,_,_,hm,_⟩:=ahb ht
   exact alN c a l (fun z hz=>hc z (by simp [hz])) (fun z hz=>ha z (by simp [hz])) (fun z hz=>hb z (hm z hz)) h2
theorem awH {x:zh}(h:PX1 x) (hf:∀ z,z∈sll x.H→qO (zc z)=true):AllP (ownB x):=by
 have hw:=(own_W h).2
 intro z hz
 refine ⟨hw z hz,?_⟩
 unfold ownB at hz
 rw [qD] at hz
 rcases List.mem_append.1 hz with hz|hz
 ·exact alk (hf z hz)
 obtain ⟨q,hw,rfl⟩:=List.mem_map.1 hz
 unfold eqR;rw [Z8]
 exact fun _=>⟨rfl,rfl,rfl,by unfold ac3;rw [acq.self];rfl⟩
theorem avn:∀ (k r:Nat) (s:Nat) (x:zh) (c:Nat),WD s x→frmP r x=some c→AllP (appR k x)
 |0,_,_,x,c,_,_=>fun z hz=>absurd hz (by simp [appR])
 |k+1,0,_,x,c,_,h=>by cases h
 |k+1,r+1,0,x,c,hw,_=>hw.elim
 |k+1,r+1,s+1,x,c,hw,h=>by
  obtain ⟨hn,hk⟩:=aec h
  rw [appR]
  intro z hz
  rcases List.mem_append.1 hz with hz|hz
  ·obtain ⟨w,hw',hz⟩:=List.mem_flatMap.1 hz
   obtain ⟨c',h1,_⟩:=hk w hw'
   exact avn k r s _ c' (hw.2.2 w hw') h1 z hz
  exact awH (aj4 hw.1) (am1 hn) z hz
noncomputable def outB (S:Int) (z:EX):Bool:=aeM .u32 (relE z) S !=0
noncomputable def aht (a:List EX) (S:Int):Bool:=!a.any (outB S)
theorem auZ {α:Type}(p:α→Bool):∀ (l:List α) (i:Nat),decide (fI p l i≥0)=l.any p
 |[],i=>rfl
 |x::l,i=>by
  rw [fI,List.any_cons]
  cases p x with
  |true=>rw [jb,Bool.true_or];exact decide_eq_true hO
  |false=>rw [ja,Bool.false_or];exact auZ p l (i+1)
theorem alj {a:Option (List EX)}(ha:wSl zJ a) (S:Int) {n:Nat}(hn:3048700≤n):Qm n a S=some (aht (sll a) S):=by
 obtain ⟨n,rfl⟩:=hX n 3
 unfold Qm qc qq
 rw [zq,zq,zq]
 have h:=aqu (F:=fun k i=>zK n a S (fun _=>some (-1)) k i) (l:=sll a) (p:=outB S) (by have:=ha.1;omega) (fun k i z hi hz=>by
  have hx:=ha.2 z (hz▸List.getElem_mem hi)
  have:acZ n (zc z) S=some (outB S z):=by
   obtain ⟨n,rfl⟩:=hX n 1
   unfold acZ
   rw [zq,au5 hx hO]
   rfl
  show zK n a S _ (k+1) (i:Int)=_
  rw [zK,dT hO,jb,ZB hi hz,hZ,this,hZ]) (fun k=>by
  show zK n a S _ (k+1) _=_
  rw [zK,dF hO,ja]) (sll a) 0 n rfl hO (by have:=ha.1;omega)
 have h':zB (fun k3=>zK n a S k3 n 0) (fun _=>some (-1))=some (fI (outB S) (sll a) 0):=h
 rw [h',hZ,hZ,auZ]
 rfl
theorem apS:∀ (s:Nat) (x:zf),szL x≤s→Zt x→∀ k m n,s≤k→s<m→2000020+s≤n→QV m n x=some (relD k x)
 |0,x,hs,hw,k,m,n,hk,hm,hn=>by
  exfalso
  unfold szL Z7 at hs
  simp only [PV.bulkL,PV.bulk] at hs
  omega
 |s+1,x,hs,hw,k,m,n,hk,hm,hn=>by
  obtain ⟨k,rfl⟩:=hX k 1
  obtain ⟨m,rfl⟩:=hX m 1
  obtain ⟨n,rfl⟩:=hX n 1
  show adQ (QV m) (n+1) x=_
  unfold adQ
  rw [zq]
  have hown:∀ K3:Int→Option Int,zB (fun k3=>bif (((x.A==1)&&(decide (x.C≥0)))&&(decide (x.C≤31))) then (ckN (IntKind.wrap .u64 x.C)).bind fun _=>k3 (iShl .u32 1 (IntKind.wrap .u64 x.C)) else k3 0) K3=K3 (ownR x):=fun K3=>by
   unfold ownR
   simp only [zB]
   cases hq:(((x.A==1)&&(decide (x.C≥0)))&&(decide (x.C≤31))) with
   |false=>rfl
   |true=>
    rw [jj,jj,decide_eq_true_eq,decide_eq_true_eq] at hq
    rw [jb,jb]
    have:ckN (IntKind.wrap .u64 x.C)=some ():=by rw [anR hO hO];unfold ckN;split<;>first|rfl|omega
    rw [this,hZ]
  refine Eq.trans (hown _) ?_
  have hl:∀ K:Int→Option Int,aaP n (QV m) x K n (ownR x) 0=agA (fun (z:EX) i (acc:Int) rec=>(QV m n (zc z)).bind fun r=>rec (iOr .u32 acc r)) K (sll x.B) 0 (ownR x):=fun K=>
   asJ (F:=fun m' (acc:Int) i=>aaP n (QV m) x K m' acc i) (x:=x.B) (ac8 hw) (k:=K) (fun m' i s=>rfl) hO (ownR x)
  show zB (fun k7=>aaP n (QV m) x k7 n (ownR x) 0) (fun y6=>some y6)=_
  unfold zB
  refine Eq.trans (hl _) ?_
  have gen:∀ (l:List EX) (i:Nat) (acc:Int),(∀ z,z∈l→z∈sll x.B)→agA (fun (z:EX) i (acc:Int) rec=>(QV m n (zc z)).bind fun r=>rec (iOr .u32 acc r)) (fun y6=>some y6) l i acc=some (l.foldl (fun acc z=>iOr .u32 acc (relD k (zc z))) acc):=by
   intro l
   induction l with
   |nil=>intro i acc _;rfl
   |cons z l ih=>
    intro i acc hz
    have hz0:=hz z (by simp)
    have:=aqe hz0
    simp only [agA]
    rw [apS s (zc z) hO (ajx hw hz0) k m n hO hO hO,hZ,ih (i+1) _ (fun y hy=>hz y (List.mem_cons_of_mem _ hy))]
    rfl
  exact gen _ 0 _ (fun z hz=>hz)
theorem awW {S r:Int}(hS:wI .u32 S):((iOr .u32 r S)!=S)=(aeM .u32 r S !=0):=by
 have:((iOr .u32 r S)==S)=((aeM .u32 r S)==0):=by
  rw [Bool.eq_iff_iff,atI,nat0,←awN,akf,beq_iff_eq]
  constructor
  ·intro e
   rw [←aqi hS] at e
   apply BitVec.eq_of_toNat_eq
   have e2:BitVec.ofInt 32 (((BitVec.ofInt 32 S).toNat:Int))=BitVec.ofInt 32 S:=avr _
   rw [e2] at e
   omega
  intro e
  rw [e];exact aqi hS
 unfold bne;rw [this]
theorem ajp {n:Nat}{a:Option (List EX)}(ha:wSl zJ a) {S:Int}(hS:wI .u32 S) (hn:3048600≤n):∀ (l p:List EX) (m:Nat),sll a=p++l→l.length<m→
  Q4 n a S (fun _=>some true) m (p.length:Int)=some (!l.any (outB S))
 |[],p,m,he,hm=>by
  obtain ⟨m,rfl⟩:=hX m 1
  rw [Q4,dF (by rw [he];simp),ja];rfl
 |z::l,p,m,he,hm=>by
  obtain ⟨m,rfl⟩:=hX m 1
  rw [List.length_cons] at hm
  have hlen:(sll a).length=p.length+(l.length+1):=by rw [he];simp
  have:=ha.1
  have hix:idx (sll a) (p.length:Int)=some z:=by rw [he,aaY];simp
  have hz:zJ z:=ha.2 z (by rw [he];simp)
  have hw':=W_un hz
  have hr:ajP n (zc z)=some (relE z):=apS 1048576 _ hw'.2 hw' _ n n (Nat.le_refl _) hO hO
  rw [Q4,dT hO,jb,hix,hZ,hr,hZ,awW hS,List.any_cons,abE hO,show p.length+1=(p++[z]).length by simp,ajp ha hS hn l (p++[z]) m (by rw [he];simp) hO]
  show (bif outB S z then _ else _)=_
  cases outB S z<;>rfl
theorem aiH {a:Option (List EX)}(ha:wSl zJ a) {S:Int}(hS:wI .u32 S) {n:Nat}(hn:3048700≤n):abr n a S=some (aht (sll a) S):=by
 obtain ⟨n,rfl⟩:=hX n 1
 unfold abr
 rw [zq]
 exact ajp ha hS hO (sll a) [] n rfl (by have:=ha.1;omega)
noncomputable def an8 (x:zh):Bool:=match sll x.B with
 |[p,q]=>aht (sll x.J) (ads (zj p))&&aht (sll x.L) (ads (zj q))
 |_=>false
noncomputable def ownJ (x:zh):Bool:=(bif x.A==1 then true else bif (x.A==3)||(x.A==4) then an8 x else x.A==2)&&aht (sll x.H) (ads x)
noncomputable def okJ:Nat→zh→Bool
 |0,_=>false
 |r+1,x=>ownJ x&&(sll x.B).all fun z=>okJ r (zj z)
noncomputable def cntJ:Nat→zh→Nat
 |0,_=>0
 |r+1,x=>if x.A=1 then 1 else ((sll x.B).map fun z=>cntJ r (zj z)).sum
theorem auf {x:zh}(h:acg x=true):ach x.A=((sll x.B).length:Int):=by
 unfold acg at h
 rw [jj,beq_iff_eq] at h
 exact h.1
theorem ag3 {x:zh}(h:acg x=true):(x.A=1∧sll x.B=[])∨((x.A=2∨x.A=3∨x.A=4)∧∃ p q,sll x.B=[p,q])∨(5≤x.A∧x.A≤7∧∃ p,sll x.B=[p]):=by
 have hl:=auf h
 have:=anw (k:=x.A) (n:=(sll x.B).length) hl
 by_cases h1:x.A=1
 ·refine .inl ⟨h1,?_⟩
  rw [h1] at hl
  exact List.eq_nil_of_length_eq_zero (by have:ach 1=0:=rfl;omega)
 by_cases h2:x.A≤4
 ·have hk:x.A=2∨x.A=3∨x.A=4:=by omega
  exact .inr (.inl ⟨hk,avd h hk⟩)
 exact .inr (.inr ⟨hO,hO,aiu h hO⟩)
theorem arQ {x:zh}(h:acg x=true) (hk:x.A=2):sll x.J=[]∧sll x.L=[]:=by
 unfold acg afN ahP at h
 rw [hk] at h
 simp only [jj] at h
 have:=h.2.1
 have h3:nulL [(sll x.J).length,(sll x.L).length,(sll x.E).length,(sll x.D).length,(sll x.G).length]=true:=this
 unfold nulL at h3
 simp only [List.all_cons,jj,beq_iff_eq] at h3
 exact ⟨List.eq_nil_of_length_eq_zero h3.1,List.eq_nil_of_length_eq_zero h3.2.1⟩
theorem aiY:∀ (r:Nat) (s:Nat) (x:zh) (c:Nat),frmP r x=some c→cntJ r x≤2^r
 |0,_,x,c,h=>by cases h
 |r+1,s,x,c,h=>by
  obtain ⟨hn,hk⟩:=aec h
  rw [cntJ]
  have:1≤2^r:=Nat.one_le_two_pow
  rcases ag3 hn with ⟨h1,h2⟩|⟨h1,p,q,h2⟩|⟨h1,h3,p,h2⟩
  ·rw [if_pos h1,Nat.pow_succ];omega
  ·rw [if_neg hO,h2]
   obtain ⟨a,ha,_⟩:=hk p (by rw [h2];simp)
   obtain ⟨b,hb,_⟩:=hk q (by rw [h2];simp)
   have i1:=aiY r s _ a ha
   have i2:=aiY r s _ b hb
   simp only [List.map_cons,List.map_nil,List.sum_cons,List.sum_nil,Nat.pow_succ];omega
  rw [if_neg hO,h2]
  obtain ⟨a,ha,_⟩:=hk p (by rw [h2];simp)
  have i1:=aiY r s _ a ha
  simp only [List.map_cons,List.map_nil,List.sum_cons,List.sum_nil,Nat.pow_succ];omega
theorem avv {s:Nat}{x:zh}(hw:WD (s+1) x) (hs:s≤131072) (h:acg x=true) (a0 a1:Int) (a2:Bool) {n:Nat}(hn:3048800≤n):adu n a0 a1 a2 x=some (bif x.A==1 then IntKind.wrap .i64 (a0+1) else a0,seeF x a1,a2&&ownJ x):=by
 obtain ⟨n,rfl⟩:=hX n 1
 unfold adu
 rw [zq]
 simp only [zB]
 have tail:∀ (y2 y3:Int) (y4:Bool),(bif y4 then (aaj n x).bind fun x7=>(Qm n x.H x7).bind fun x9=>some (y2,y3,x9) else some (y2,y3,false))=some (y2,y3,y4&&aht (sll x.H) (ads x)):=fun y2 y3 y4=>by
  cases y4 with
  |false=>rfl
  |true=>rw [jb,ahc hw hO hO,hZ,alj hw.1.2.2.1 _ hO];rfl
 have hr:=atK h
 unfold ownJ
 rcases ag3 h with ⟨h1,h2⟩|⟨h1,p,q,h2⟩|⟨h1,h3,p,h2⟩
 ·rw [h1,show ((1:Int)==1)=true from rfl,jb,awA hr.1 hO,hZ,jb,jb,tail,jk]
  have:seeF x a1=iOr .u32 a1 (iShl .u32 1 (IntKind.wrap .u64 x.C)):=by
   unfold seeF
   rw [h1,decide_eq_true hr.1,decide_eq_true (show x.C<32 by omega)];rfl
  rw [this]
 ·have hk1:x.A≠1:=by omega
  have hs1:seeF x a1=a1:=by unfold seeF;rw [beqF hk1];rfl
  have wp:=hw.2.2 p (by rw [h2];simp)
  have wq:=hw.2.2 q (by rw [h2];simp)
  rw [beqF hk1,ja,ja,ja,hs1]
  have mid:(bif a2 then (idx (sll x.B) 0).bind fun x17=>(aaj n (zj x17)).bind fun x19=>(Qm n x.J x19).bind fun x21=>bif x21 then (idx (sll x.B) 1).bind fun x24=>(aaj n (zj x24)).bind fun x26=>(Qm n x.L x26).bind fun x28=>(bif x28 then (aaj n x).bind fun x7=>(Qm n x.H x7).bind fun x9=>some (a0,a1,x9) else some (a0,a1,false)) else (bif false then (aaj n x).bind fun x7=>(Qm n x.H x7).bind fun x9=>some (a0,a1,x9) else some (a0,a1,false)) else (bif false then (aaj n x).bind fun x7=>(Qm n x.H x7).bind fun x9=>some (a0,a1,x9) else some (a0,a1,false)))=some (a0,a1,a2&&(an8 x&&aht (sll x.H) (ads x))):=by
   cases a2 with
   |false=>rfl
   |true=>
    unfold an8
    rw [jb,h2,show idx [p,q] 0=some p from rfl,hZ,ahc wp hO hO,hZ,alj hw.1.2.2.2.1 _ hO,hZ]
    simp only []
    cases aht (sll x.J) (ads (zj p)) with
    |false=>rfl
    |true=>
     rw [jb,show idx [p,q] 1=some q from rfl,hZ,ahc wq hO hO,hZ,alj hw.1.2.2.2.2.1 _ hO,hZ,tail]
     rfl
  rcases h1 with h1|h1|h1
  ·rw [h1]
   exact tail a0 a1 a2
  ·rw [h1]
   exact mid
  rw [h1]
  exact mid
 have hk1:x.A≠1:=by omega
 have hs1:seeF x a1=a1:=by unfold seeF;rw [beqF hk1];rfl
 rw [beqF hk1,ja,ja,ja,hs1,beqF (show x.A≠3 by omega),beqF (show x.A≠4 by omega),beqF (show x.A≠2 by omega)]
 simp only [ja,Bool.or_false,Bool.false_and,Bool.and_false]
theorem akR:∀ (r:Nat) (s:Nat) (x:zh) (c:Nat),WD s x→s≤131072→frmP r x=some c→∀ (c0:Nat) (a1:Int) (a2:Bool) (k m n:Nat),c0+2^r≤100000000→s≤k→r≤m→3048900+r≤n→Qn m n (c0:Int) a1 a2 x=some (((c0+cntJ r x:Nat):Int),agE k x a1,a2&&okJ r x)
 |0,_,x,c,_,_,h,_,_,_,_,_,_,_,_,_,_=>by cases h
 |r+1,0,x,c,hw,_,_,_,_,_,_,_,_,_,_,_,_=>hw.elim
 |r+1,s+1,x,c,hw,hs,h,c0,a1,a2,k,m,n,hc0,hks,hm,hn=>by
  obtain ⟨m,rfl⟩:=hX m 1
  obtain ⟨n,rfl⟩:=hX n 4
  obtain ⟨k,rfl⟩:=hX k 1
  obtain ⟨hnode,hk⟩:=aec h
  have hp:1≤2^r:=Nat.one_le_two_pow
  rw [Nat.pow_succ] at hc0
  show Qi (Qn m) (n+4) c0 a1 a2 x=_
  unfold Qi
  rw [zq]
  simp only [zB]
  have fin:∀ (y1 y2:Int) (y3:Bool),((adu (n+3) y1 y2 y3 x).bind fun (x8,x9,x10)=>some (x8,x9,x10))=some (bif x.A==1 then IntKind.wrap .i64 (y1+1) else y1,seeF x y2,y3&&ownJ x):=fun y1 y2 y3=>by
   rw [avv hw hO hnode _ _ _ hO];rfl
  rw [cntJ,okJ,agE]
  rcases ag3 hnode with ⟨h1,h2⟩|⟨h1,p,q,h2⟩|⟨h1,h3,p,h2⟩
  ·rw [ZC,h2,dF (by simp),ja,fin,h1,if_pos rfl]
   rw [show ((1:Int)==1)=true from rfl,jb,abE hO]
   simp
  ·have mp:p∈sll x.B:=by rw [h2];simp
   have mq:q∈sll x.B:=by rw [h2];simp
   obtain ⟨ca,ha,_⟩:=hk p mp
   obtain ⟨cb,hb,_⟩:=hk q mq
   have lp:=aiY r s _ ca ha
   have ep:=akR r s _ ca (hw.2.2 p mp) hO ha c0 a1 a2 k m (n+3) hO hO hO hO
   have eq:=akR r s _ cb (hw.2.2 q mq) hO hb (c0+cntJ r (zj p)) (agE k (zj p) a1) (a2&&okJ r (zj p)) k m (n+3) hO hO hO hO
   rw [ZC,h2,dT (by simp),jb,show idx [p,q] 0=some p from rfl,hZ,ep,hZ]
   simp only []
   rw [show IntKind.wrap .i64 ((0:Int)+1)=1 from rfl,ZC,h2,dT (by simp),jb,show idx [p,q] 1=some q from rfl,hZ,eq,hZ]
   simp only []
   rw [show IntKind.wrap .i64 ((1:Int)+1)=2 from rfl,ZC,h2,dF (by simp),ja,fin,if_neg hO,beqF (show x.A≠1 by omega),ja]
   simp only [List.map_cons,List.map_nil,List.sum_cons,List.sum_nil,List.foldl_cons,List.foldl_nil,List.all_cons,List.all_nil,Bool.and_true,Nat.add_zero]
   congr 2
   ·congr 1;omega
   congr 1
   cases a2<;>cases okJ r (zj p)<;>cases okJ r (zj q)<;>cases ownJ x<;>rfl
  have mp:p∈sll x.B:=by rw [h2];simp
  obtain ⟨ca,ha,_⟩:=hk p mp
  have ep:=akR r s _ ca (hw.2.2 p mp) hO ha c0 a1 a2 k m (n+3) hO hO hO hO
  rw [ZC,h2,dT (by simp),jb,show idx [p] 0=some p from rfl,hZ,ep,hZ]
  simp only []
  rw [show IntKind.wrap .i64 ((0:Int)+1)=1 from rfl,ZC,h2,dF (by simp),ja,fin,if_neg hO,beqF (show x.A≠1 by omega),ja]
  simp only [List.map_cons,List.map_nil,List.sum_cons,List.sum_nil,List.foldl_cons,List.foldl_nil,List.all_cons,List.all_nil,Bool.and_true,Nat.add_zero]
  congr 2
  congr 1
  cases a2<;>cases okJ r (zj p)<;>cases ownJ x<;>rfl
noncomputable def aoY (x:zh) (k:Int):Bool:=(okJ 24 x&&(((cntJ 24 x:Nat):Int)==k))&&(ads x==IntKind.wrap .u32 ((iShl .u32 1 (IntKind.wrap .u64 k))-1))
theorem avW {s:Nat}{x:zh}{c:Nat}(hw:WD s x) (hs:s≤131072) (h:frmP 24 x=some c) {k:Int}(hk:0≤k∧k≤1048576) {n:Nat}(hn:3049000≤n):aeu n x k=some (aoY x k):=by
 obtain ⟨n,rfl⟩:=hX n 1
 unfold aeu aoY
 have:=akR 24 s x c hw hs h 0 0 true 131073 n n (by decide) hO hO hO
 rw [zq,show abZ n 0 0 true x=_ from this,hZ]
 simp only [Nat.zero_add,jk]
 rw [show agE 131073 x 0=ads x from rfl]
 cases okJ 24 x&&(((cntJ 24 x:Nat):Int)==k) with
 |false=>rfl
 |true=>
  have:ckN (IntKind.wrap .u64 k)=some ():=by rw [anR hO hO];unfold ckN;split<;>first|rfl|omega
  rw [jb,this];rfl
theorem amH:∀ (r:Nat) (s:Nat) (x:zh) (c:Nat),WD s x→s≤131072→WPl s x→frmP r x=some c→∀ (m n:Nat),r≤24→r≤m→3048900+r≤n→ac6 m n x=some (if okJ r x=true then ((cntJ r x:Nat):Int) else -1)
 |0,_,x,c,_,_,_,h,_,_,_,_,_=>by cases h
 |r+1,0,x,c,hw,_,_,_,_,_,_,_,_=>hw.elim
 |r+1,s+1,x,c,hw,hs,hp,h,m,n,hr,hm,hn=>by
  obtain ⟨m,rfl⟩:=hX m 1
  obtain ⟨n,rfl⟩:=hX n 1
  obtain ⟨hnode,hk⟩:=aec h
  have hS:∀ (y:zh),wI .u32 (ads y):=fun y=>by rw [apj];exact avD _ _
  show ac5 (ac6 m) (n+1) x=_
  unfold ac5
  rw [zq,show ady n ⟨x.A,x.C,x.H,x.J,x.L,x.E,x.D,x.G,x.B⟩=some (ads x) from afw hp hO hO,hZ,aiH hw.1.2.2.1 (hS _) hO,hZ]
  rw [okJ,cntJ]
  unfold ownJ
  rcases ag3 hnode with ⟨h1,h2⟩|⟨h1,p,q,h2⟩|⟨h1,h3,p,h2⟩
  ·rw [h1,h2]
   cases aht (sll x.H) (ads x)<;>rfl
  ·rw [dF hO,ja,beqF (show x.A≠1 by omega),if_neg (show x.A≠1 by omega),ja,ja]
   cases aht (sll x.H) (ads x) with
   |false=>simp
   |true=>
    have mp:p∈sll x.B:=by rw [h2];simp
    have mq:q∈sll x.B:=by rw [h2];simp
    obtain ⟨ca,ha,_⟩:=hk p mp
    obtain ⟨cb,hb,_⟩:=hk q mq
    have lp:=aiY r s _ ca ha
    have lq:=aiY r s _ cb hb
    have l24:(2:Nat)^r≤2^24:=Nat.pow_le_pow_right hO hO
    have l24':(2:Nat)^24=16777216:=by decide
    have ep:=amH r s _ ca (hw.2.2 p mp) hO (hp.2.2 p mp) ha m n hO hO hO
    have eq:=amH r s _ cb (hw.2.2 q mq) hO (hp.2.2 q mq) hb m n hO hO hO
    rw [Bool.not_true,ja,h2,show idx [p,q] 0=some p from rfl,hZ,ep,hZ,show idx [p,q] 1=some q from rfl,hZ,eq,hZ]
    have e2:(bif (x.A==3)||(x.A==4) then an8 x else x.A==2)=an8 x:=by
     rcases h1 with h1|h1|h1
     ·obtain ⟨n1,n2⟩:=arQ hnode h1
      unfold an8
      rw [h1,h2]
      simp only []
      rw [n1,n2];rfl
     ·rw [h1];rfl
     rw [h1];rfl
    rw [e2,Bool.and_true]
    unfold an8
    rw [h2]
    simp only [List.all_cons,List.all_nil,Bool.and_true,List.map_cons,List.map_nil,List.sum_cons,List.sum_nil,Nat.add_zero]
    have sp:=afw (hp.2.2 p mp) (show s≤131073 by omega) (n:=n) hO
    have sq:=afw (hp.2.2 q mq) (show s≤131073 by omega) (n:=n) hO
    cases okJ r (zj p) with
    |false=>simp
    |true=>
     cases okJ r (zj q) with
     |false=>
      rw [if_pos rfl,dF hO,ja]
      simp
     |true=>
      rw [if_pos rfl,if_pos rfl,dF hO,ja,dF hO,ja,sp,hZ,aiH hw.1.2.2.2.1 (hS _) hO,hZ]
      cases aht (sll x.J) (ads (zj p)) with
      |false=>rfl
      |true=>
       rw [Bool.not_true,ja,sq,hZ,aiH hw.1.2.2.2.2.1 (hS _) hO,hZ]
       cases aht (sll x.L) (ads (zj q)) with
       |false=>rfl
       |true=>
        rw [Bool.not_true,ja,ab4 hO hO]
        rfl
  rw [dT hO,jb,beqF (show x.A≠1 by omega),beqF (show x.A≠2 by omega),beqF (show x.A≠3 by omega),beqF (show x.A≠4 by omega)]
  simp
theorem an9 {s:Nat}{x:zh}{c:Nat}(hw:WD s x) (hs:s≤131072) (hp:WPl s x) (h:frmP 24 x=some c) {n:Nat}(hn:3048950≤n):agn n x=some (if okJ 24 x=true then ((cntJ 24 x:Nat):Int) else -1):=
 amH 24 s x c hw hs hp h n n hO hO hO
noncomputable def apx (u:zh) (q:zr):Bool:=(u.A==(bif q.P then 5 else 6))&&(abp 140000 (sll u.E) (sll q.E)&&(ZM ahM (sll u.D) (sll q.D)&&match sll u.B with
 |[p]=>aoY (zj p) ((sll q.O).length:Int)&&adZ (appC 131073 (zj p)) (sll q.H)
 |_=>false))
noncomputable def ansB (x:zh) (q:zr):Bool:=bif decide (((sll q.G).length:Int)>0) then (x.A==7)&&(ZM ajk (sll x.G) (sll q.G)&&match sll x.B with
 |[p]=>apx (zj p) q
 |_=>false) else apx x q
theorem aqA {r:Nat}{x:zh}{c:Nat}(h:frmP r x=some c):∀ {k:Nat},r≤k→frmP k x=some c
 |0,hk=>by
  have:r=0:=by omega
  subst this;exact h
 |k+1,hk=>by
  by_cases e:r=k+1
  ·subst e;exact h
  exact apq k x c (aqA h hO)
theorem as7 {s r:Nat}{u:zh}{c:Nat}(hw:WD s u) (hs:s≤131072) (h:frmP r u=some c) (hr:r≤24) (hsz:szP u≤1048576) {q:zr}(hq:Qg q) {n:Nat}(hn:3049100≤n):
  zB (fun k14=>bif q.P then k14 5 else k14 6) (fun (y13:Int)=>bif (u.A !=y13) then some false else (zP n u.E q.E).bind fun x16=>bif (!x16) then some false else (ZK n u.D q.D).bind fun x19=>bif (!x19) then some false else (idx (sll u.B) 0).bind fun x22=>(aeu n (zj x22) ((sll q.O).length:Int)).bind fun x24=>bif x24 then (abo n (zj x22)).bind fun x27=>(abl n x27 q.H).bind fun x29=>some x29 else some false)=some (apx u q):=by
 cases s with
 |zero=>exact hw.elim
 |succ s=>
 cases r with
 |zero=>cases h
 |succ r=>
 obtain ⟨hnode,hkid⟩:=aec h
 have hp:=aj4 hw.1
 have hrl:=hq.1.1
 unfold apx
 have main:∀ y13:Int,(y13=5∨y13=6)→
   (bif (u.A !=y13) then some false else (zP n u.E q.E).bind fun x16=>bif (!x16) then some false else (ZK n u.D q.D).bind fun x19=>bif (!x19) then some false else (idx (sll u.B) 0).bind fun x22=>(aeu n (zj x22) ((sll q.O).length:Int)).bind fun x24=>bif x24 then (abo n (zj x22)).bind fun x27=>(abl n x27 q.H).bind fun x29=>some x29 else some false)=some ((u.A==y13)&&(abp 140000 (sll u.E) (sll q.E)&&(ZM ahM (sll u.D) (sll q.D)&&match sll u.B with
    |[p]=>aoY (zj p) ((sll q.O).length:Int)&&adZ (appC 131073 (zj p)) (sll q.H)
    |_=>false))):=by
  intro y13 hy
  by_cases hk':u.A=y13
  ·rw [neF hk',ja,show (u.A==y13)=true by simpa using hk',jk,ap8 hp.out.2 hp.out.1 (apl hq.2.2.2.1).2 hO hO,hZ]
   cases abp 140000 (sll u.E) (sll q.E) with
   |false=>rfl
   |true=>
   rw [Bool.not_true,ja,aq1 hp.aggs (au9 hq.2.2.2.2.1) hO hO,hZ]
   cases ZM ahM (sll u.D) (sll q.D) with
   |false=>rfl
   |true=>
   obtain ⟨p,hpk⟩:=aiu hnode (by rcases hy with h|h<;>rw [h] at hk'<;>simp [hk'])
   have hmem:p∈sll u.B:=by rw [hpk];simp
   have wp:=hw.2.2 p hmem
   obtain ⟨c',hf,_⟩:=hkid p hmem
   have hf24:frmP 24 (zj p)=some c':=aqA hf (show r≤24 by omega)
   have hsz':szP (zj p)≤1048576:=by have:=agi hmem;omega
   rw [Bool.not_true,ja,hpk,show idx [p] 0=some p from rfl,hZ,avW wp hO hf24 (k:=((sll q.O).length:Int)) ⟨hO,hO⟩ hO,hZ,jk,jk]
   simp only []
   cases aoY (zj p) ((sll q.O).length:Int) with
   |false=>rfl
   |true=>
    obtain ⟨o,ho1,ho2⟩:=amj (ar4 _ _ wp) hO hsz' (n:=n) hO
    have hP:AllP (appC 131073 (zj p)):=avo _ _ _ _ _ wp hf
    have hl:=am4 131073 (zj p)
    have hwl:=hq.2.1.1
    rw [jb,ho1,hZ,arW (d:=131073) (e:=131072) (by rw [ho2];exact fun z hz=>(hP z hz).1) (by rw [ho2];omega) (asW hq.2.1) hO hO hO,ho2]
    rfl
  rw [neT hk',jb,beqF hk'];rfl
 simp only [zB]
 cases q.P with
 |true=>exact main 5 (.inl rfl)
 |false=>exact main 6 (.inr rfl)
theorem asE {s:Nat}{x:zh}(hw:WD s x) (hs:s≤131072) (h:aee x=true) (hsz:szP x≤1048576) {q:zr}(hq:Qg q) {n:Nat}(hn:3049200≤n):acF n x q=some (ansB x q):=by
 obtain ⟨n,rfl⟩:=hX n 1
 obtain ⟨c,hc,_⟩:=alJ h
 unfold acF ansB
 simp only [zq,zB]
 cases s with
 |zero=>exact hw.elim
 |succ s=>
 obtain ⟨hnode,hkid⟩:=aec hc
 have hp:=aj4 hw.1
 cases hord:decide (((sll q.G).length:Int)>0) with
 |false=>
  simp only [ja]
  have:=as7 hw hs hc hO hsz hq (n:=n) hO
  simp only [zB] at this
  exact this
 |true=>
  simp only [jb]
  by_cases hk':x.A=7
  ·rw [neF hk',hk',arP hp.order hO]
   simp only [hZ,ja]
   rw [show ((7:Int)==7)=true from rfl,jk]
   cases ZM ajk (sll x.G) (sll q.G) with
   |false=>rfl
   |true=>
   obtain ⟨p,hpk⟩:=aiu hnode (by simp [hk'])
   have hmem:p∈sll x.B:=by rw [hpk];simp
   have wp:=hw.2.2 p hmem
   obtain ⟨c',hf,_⟩:=hkid p hmem
   rw [jk,hpk,show idx [p] 0=some p from rfl]
   simp only [hZ,Bool.not_true,ja]
   have:=as7 wp hO hf hO (by have:=agi hmem;omega) hq (n:=n) hO
   simp only [zB] at this
   exact this
  rw [neT hk',beqF hk'];rfl
theorem avY {u:zh}{q:zr}(hu:PX1 u) (hq:Qg q) {n:Nat}(hn:2280310≤n):adp n u q=some (abp 140000 (sll u.E) (sll q.E)&&ZM ahM (sll u.D) (sll q.D)):=by
 obtain ⟨n,rfl⟩:=hX n 1
 unfold adp
 have h1:QW 131072 ⟨none,none,false,u.E,u.D,none⟩:=⟨by simp [sll],ai5 _,hu.out,hu.aggs,by simp [sll]⟩
 have h2:QW 131072 ⟨none,none,false,q.E,q.D,none⟩:=⟨by simp [sll],ai5 _,apl hq.2.2.2.1,au9 hq.2.2.2.2.1,by simp [sll]⟩
 rw [zq,ajq h1 h2 hO hO,hZ]
 unfold auw
 show some (true&&(true&&(true&&(abp 140000 (sll u.E) (sll q.E)&&(ZM ahM (sll u.D) (sll q.D)&&true)))))=_
 simp only [jk,Bool.and_true]
theorem ast {x:zh}{q:zr}(hx:(sll x.G).length≤1048576) (hq:Qg q) {n:Nat}(hn:2280310≤n):adk n ⟨none,none,false,none,none,x.G⟩ ⟨none,none,false,none,none,q.G⟩=some (ZM ajk (sll x.G) (sll q.G)):=by
 have h1:QW 131072 ⟨none,none,false,none,none,x.G⟩:=⟨by simp [sll],ai5 _,ai5 _,as1 _,hx⟩
 have h2:QW 131072 ⟨none,none,false,none,none,q.G⟩:=⟨by simp [sll],ai5 _,ai5 _,as1 _,hq.2.2.2.2.2.1⟩
 rw [ajq h1 h2 hO hO]
 rfl
def yes (b:Bool):Int:=bif b then 0 else 22
theorem aoW {s r:Nat}{u:zh}{c:Nat}(hw:WD s u) (hs:s≤131072) (h:frmP r u=some c) (hr:r≤24) (hsz:szP u≤1048576) {q:zr}(hq:Qg q) (hqf:∀ z,z∈sll q.H→qO (zc z)=true) {n:Nat}(hn:3049100≤n):
  (bif ((q.P&&(u.A !=5))||((!q.P)&&(u.A !=6))) then some 22 else (adp n (zh.mk u.A u.C u.H u.J u.L u.E u.D u.G u.B) q).bind fun x19=>bif (!x19) then some 22 else (idx (sll u.B) 0).bind fun x22=>(agn n (zj x22)).bind fun x24=>bif (x24 !=((sll q.O).length:Int)) then some 22 else (ady n (zj x22)).bind fun x27=>(ckN (IntKind.wrap .u64 ((sll q.O).length:Int))).bind fun _=>bif (x27 !=(IntKind.wrap .u32 ((iShl .u32 1 (IntKind.wrap .u64 ((sll q.O).length:Int)))-1))) then some 22 else (aeL n (zj x22)).bind fun x31=>(abS n x31 q.H).bind fun x33=>bif (!x33) then some 22 else some 0)=some (yes (apx u q)):=by
 cases s with
 |zero=>exact hw.elim
 |succ s=>
 cases r with
 |zero=>cases h
 |succ r=>
 obtain ⟨hnode,hkid⟩:=aec h
 have hp:=aj4 hw.1
 have hrl:=hq.1.1
 have hkd:((q.P&&(u.A !=5))||((!q.P)&&(u.A !=6)))=!(u.A==(bif q.P then 5 else 6)):=by
  cases q.P<;>simp [bne]
 unfold apx
 rw [hkd]
 by_cases hk':u.A=(bif q.P then 5 else 6)
 ·rw [show (u.A==(bif q.P then 5 else 6))=true by simpa using hk',Bool.not_true,ja,jk,show adp n (zh.mk u.A u.C u.H u.J u.L u.E u.D u.G u.B) q=_ from avY hp hq hO,hZ]
  cases abp 140000 (sll u.E) (sll q.E) with
  |false=>rfl
  |true=>
  cases ZM ahM (sll u.D) (sll q.D) with
  |false=>rfl
  |true=>
  have hk2:u.A=5∨u.A=6∨u.A=7:=by
   rw [hk'];cases q.P<;>simp
  obtain ⟨p,hpk⟩:=aiu hnode hk2
  have hmem:p∈sll u.B:=by rw [hpk];simp
  have wp:=hw.2.2 p hmem
  have wpl:=ar4 _ _ wp
  obtain ⟨c',hf,_⟩:=hkid p hmem
  have hf24:frmP 24 (zj p)=some c':=aqA hf (show r≤24 by omega)
  have hsz':szP (zj p)≤1048576:=by have:=agi hmem;omega
  rw [Bool.and_self,Bool.not_true,ja,jk,jk,hpk,show idx [p] 0=some p from rfl,hZ,an9 wp hO wpl hf24 hO,hZ]
  simp only []
  unfold aoY
  have hck:ckN (IntKind.wrap .u64 ((sll q.O).length:Int))=some ():=by rw [anR hO hO];unfold ckN;split<;>first|rfl|omega
  cases okJ 24 (zj p) with
  |false=>
   rw [if_neg (by decide),neT hO,jb];rfl
  |true=>
   rw [if_pos rfl,jk]
   by_cases hc:((cntJ 24 (zj p):Nat):Int)=((sll q.O).length:Int)
   ·rw [neF hc,ja,show (((cntJ 24 (zj p):Nat):Int)==((sll q.O).length:Int))=true by simpa using hc,jk,afw wpl hO hO,hZ,hck,hZ]
    unfold bne
    cases ads (zj p)==IntKind.wrap .u32 ((iShl .u32 1 (IntKind.wrap .u64 ((sll q.O).length:Int)))-1) with
    |false=>rfl
    |true=>
     obtain ⟨o,ho1,ho2⟩:=ak6 wpl hO hsz' (n:=n) hO
     have hC:AllP (appC 131073 (zj p)):=avo _ _ _ _ _ wp hf
     have hR:AllP (appR 131073 (zj p)):=avn _ _ _ _ _ wp hf
     have hl:=ane 131073 (zj p)
     have hwl:=hq.2.1.1
     have hQ:AllP (sll q.H):=fun z hz=>⟨ai9 hO (asW hq.2.1 z hz),alk (hqf z hz)⟩
     rw [Bool.not_true,ja,ho1,hZ,aqI (d:=131073) (e:=131072) (by rw [ho2];exact fun z hz=>(hR z hz).1) (by rw [ho2];omega) hO (asW hq.2.1) hO hO,ho2,hZ,alN _ _ _ hC hR hQ (aq3 _ _ wpl _),jk]
     cases adZ (appC 131073 (zj p)) (sll q.H)<;>rfl
   rw [neT hc,jb,beqF hc];rfl
 rw [beqF hk'];rfl
theorem atM {a:List zg}{x:zf}(h:wE a x=0):qO x=true:=by
 cases hf:qO x with
 |true=>rfl
 |false=>
  exfalso
  have:qm a x=(0,2):=by unfold qm;rw [hf];rfl
  unfold wE at h
  rw [this] at h
  exact absurd h (by decide)
theorem aoT {α:Type}{f:α→Int}:∀ {l:List α},errL f l=0→∀ z,z∈l→f z=0
 |[],_,z,hz=>by cases hz
 |y::l,h,z,hz=>by
  rw [errL] at h
  by_cases hy:f y=0
  ·rw [if_neg (by simpa using hy)] at h
   rcases List.mem_cons.1 hz with rfl|hz
   ·exact hy
   exact aoT h z hz
  rw [if_pos hy] at h;exact absurd h hy
theorem aqd {all:List zg}{q:zr}(h:agB all q=0):∀ z,z∈sll q.H→qO (zc z)=true:=by
 unfold agB at h
 by_cases h1:(adX all (sll q.O)).2=0
 ·rw [if_neg (by simpa using h1)] at h
  cases hs:aeJ q with
  |false=>
   rw [hs] at h
   have h':(2:Int)=0:=h
   exact absurd h' (by decide)
  |true=>
   rw [hs,Bool.not_true,ja] at h
   unfold aqy at h
   by_cases h2:errL (fun z=>wE (sll (adX all (sll q.O)).1) (zc z)) (sll q.H)=0
   ·exact fun z hz=>atM (aoT h2 z hz)
   rw [if_pos h2] at h;exact absurd h h2
 rw [if_pos h1] at h;exact absurd h h1
noncomputable def ake (x:zh) (q:zr) (a:List zg):Int:=if agB a q≠0 then agB a q else bif !aee x then 22 else yes (ansB x q)
theorem amX {x:zh}(hx:aaU x) {q:zr}(hq:Qg q) {a:Option jo}(ha:wSl QD a) {n:Nat}(hn:3049300≤n):acL n x q a=some (ake x q (sll a)):=by
 obtain ⟨n,rfl⟩:=hX n 1
 obtain ⟨o,ho⟩:=atY hq ha (n:=n) hO
 unfold acL ake
 rw [zq,show adt n ⟨q.O,q.H,q.P,q.E,q.D,q.G⟩ a=_ from ho,hZ]
 simp only []
 by_cases hr:agB (sll a) q=0
 ·rw [neF hr,ja,if_neg (by simpa using hr),show adH n ⟨x.A,x.C,x.H,x.J,x.L,x.E,x.D,x.G,x.B⟩=some (aee x) from an0 (W_WD hx) hO,hZ]
  cases hf:aee x with
  |false=>rfl
  |true=>
   rw [Bool.not_true,ja,ja,show acF n ⟨x.A,x.C,x.H,x.J,x.L,x.E,x.D,x.G,x.B⟩ ⟨q.O,q.H,q.P,q.E,q.D,q.G⟩=_ from asE (W_WD hx) hO hf hx.2 hq hO,hZ]
   cases ansB x q<;>rfl
 rw [neT hr,jb,if_pos hr]
theorem aor {x:zh}(hx:aaU x) {q:zr}(hq:Qg q) {a:Option jo}(ha:wSl QD a) {n:Nat}(hn:3049300≤n):ac1 n x q a=some (ake x q (sll a)):=by
 obtain ⟨n,rfl⟩:=hX n 1
 obtain ⟨o,ho⟩:=asc hq ha (n:=n) hO
 unfold ac1 ake
 rw [zq,ho,hZ]
 simp only []
 by_cases hr:agB (sll a) q=0
 ·rw [neF hr,ja,if_neg (by simpa using hr),amf (W_WD hx) hO,hZ]
  cases hf:aee x with
  |false=>rfl
  |true=>
   rw [Bool.not_true,ja,ja]
   obtain ⟨c,hc,_⟩:=alJ hf
   have hw:=W_WD hx
   obtain ⟨hnode,hkid⟩:=aec hc
   have hp:=aj4 hw.1
   have hqf:=aqd hr
   unfold ansB
   cases hord:decide (((sll q.G).length:Int)>0) with
   |false=>
    simp only [ja,zB]
    exact aoW hw hO hc hO hx.2 hq hqf hO
   |true=>
    simp only [jb,zB]
    by_cases hk':x.A=7
    ·rw [neF hk',hk',ast hp.order hq hO]
     simp only [hZ,ja]
     rw [show ((7:Int)==7)=true from rfl,jk]
     cases ZM ajk (sll x.G) (sll q.G) with
     |false=>rfl
     |true=>
     obtain ⟨p,hpk⟩:=aiu hnode (by simp [hk'])
     have hmem:p∈sll x.B:=by rw [hpk];simp
     have wp:=hw.2.2 p hmem
     obtain ⟨c',hf',_⟩:=hkid p hmem
     rw [jk,hpk,show idx [p] 0=some p from rfl]
     simp only [hZ,Bool.not_true,ja]
     exact aoW wp (by decide) hf' (by decide) (by have:=agi hmem;have h5:szP x≤1048576:=hx.2;omega) hq hqf hO
    rw [neT hk',beqF hk'];rfl
 rw [neT hr,jb,if_pos hr]
theorem al9 {n:Nat}(hn:3900000≤n) (hwk:aeW n=some true) {a0:zh}{a1:zr}{a2:Option jo}(h0:aaU a0) (h1:Qg a1) (h2:wSl QD a2):aaG (n+1) a0 a1 a2=some true:=by
 unfold aaG
 rw [zq]
 obtain ⟨b0,g0⟩:=arv (W_WD h0) (n:=n) hO
 rw [g0,hZ]
 cases b0 with
 |true=>rfl
 |false=>
 rw [ja]
 obtain ⟨b1,g1⟩:=arn h1 h2 (n:=n) hO
 rw [g1,hZ]
 cases b1 with
 |true=>rfl
 |false=>
 rw [ja,show acL n ⟨a0.A,a0.C,a0.H,a0.J,a0.L,a0.E,a0.D,a0.G,a0.B⟩ a1 a2=_ from amX h0 h1 h2 hO,hZ,aor h0 h1 h2 hO,hZ,beq_self_eq_true,jb,hwk]
 rfl
theorem arU:aeW 3999999=some true:=rfl
theorem ald {n:Nat}(h:n=4000000) {a0:zh}{a1:zr}{a2:Option jo}(h0:aaU a0) (h1:Qg a1) (h2:wSl QD a2):aaG n a0 a1 a2=some true:=by
 subst h
 exact al9 (n:=3999999) (by decide) arU h0 h1 h2
end Go.Pl
